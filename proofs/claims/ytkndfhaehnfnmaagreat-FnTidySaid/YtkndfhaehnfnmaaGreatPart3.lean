/- the program and the reference on plain data, part 3 -/
import Derived.Test.YtkndfhaehnfnmaaGreatPart1
import Derived.Test.YtkndfhaehnfnmaaGreatPart2
import Derived.Test.YtkndfhaehnfnmaaGreatEngC
/-! nodes and pools: when they are right,on both sides -/
namespace Go.Eng
noncomputable section
open Go.Proofs Go.Proofs.Tryz

theorem zx (b c : Bool) (l : List D) : br b (some (D.bool c,l)) (some (D.bool false,l)) = some (D.bool (b && c),l) := by cases b <;> rfl
theorem VY (b c : Bool) (l : List D) : br b (some (D.bool true,l)) (some (D.bool c,l)) = some (D.bool (b || c),l) := by cases b <;> rfl
theorem IE (b c : Bool) (l : List D) : br b (some (D.bool false,l)) (some (D.bool c,l)) = some (D.bool (!b && c),l) := by cases b <;> rfl

structure Nd where
 kind : Int
 n : Int
 s : ByteArray
 a : Int
 b : Int
abbrev eN (x : Nd) : D := .agg [iN x.kind,iN x.n,.str x.s,iN x.a,iN x.b]
section
variable {R : Type}
theorem GY (x : Nd) (K : Int -> Int -> ByteArray -> Int -> Int -> Option R) : tk1 (eN x) (fun n4 n7 s10 n13 n16 => (K n4 n7 s10 n13 n16)) = K x.kind x.n x.s x.a x.b := rfl
theorem Yz (x : Nd) (K : Int -> Option R) : asAgg (eN x) (fun l => cT l 0 fun y => asI .i64 y fun n => K n) = K x.kind := rfl
theorem YA (x : Nd) (K : Int -> Option R) : asAgg (eN x) (fun l => cT l 1 fun y => asI .i64 y fun n => K n) = K x.n := rfl
theorem YB (x : Nd) (K : ByteArray -> Option R) : asAgg (eN x) (fun l => cT l 2 fun y => asS y fun n => K n) = K x.s := rfl
theorem YC (x : Nd) (K : Int -> Option R) : asAgg (eN x) (fun l => cT l 3 fun y => asI .i64 y fun n => K n) = K x.a := rfl
theorem YD (x : Nd) (K : Int -> Option R) : asAgg (eN x) (fun l => cT l 4 fun y => asI .i64 y fun n => K n) = K x.b := rfl
end

theorem zY (n lo hi : Int) : V 58 [iN n,iN lo,iN hi] = some (.bool (wi n lo hi),[]) := (PH n lo hi).trans xG
theorem zX (n lo hi : Int) : V 62 [iN n,iN lo,iN hi] = some (.bool (wi n lo hi),[]) := (Tz n lo hi).trans xG
theorem QN (a b : Int) : V 116 [iN a,iN b] = some (iN (mnI a b),[]) := by
 rw [Ri]
 unfold mnI
 by_cases h : a < b
 ·rw [xK (decide_eq_true h),if_neg (by omega)]
 ·rw [xb (decide_eq_false h)]
  by_cases h2 : b < a
  ·rw [if_pos h2]
  ·rw [if_neg h2,show b = a by omega]

def nmB (c : Int) : Bool := (decide (c >= 97) && decide (c <= 122)) || [43,45,42,60,61,63,33,47].any fun x => c == x
theorem Mw {l : List Int} (hl : l.length < 4611686018427387904) (c : Int) : ∀ (k i : Nat),i + k = l.length -> zy (l.map (D.int .u8)) c (ni (l.map (D.int .u8)).length) (i : Int) = some (iN (dQ (fun x => c == x) l i),[])
 | 0,i,hi => by
  rw [AA,xb (by rw [lnM]; exact yr (by omega)),w8 (by omega)]
 | k + 1,i,hi => by
  obtain ⟨x,hx⟩ := xx (l := l) (i := i) (by omega)
  have ih := Mw hl c k (i + 1) (by omega)
  rw [AA,xK (by rw [lnM]; exact yz (by omega)),yu (by rw [lnM]; exact yx (by omega)),Int.toNat_natCast,xW hx,ye]
  cases h : c == x with
  | true => rw [yk,w9 hx h]
  | false => rw [xJ,yM (by omega),ih,wJ hx h]
theorem Wy {l : List Int} {c : Int} : decide (ya (fun x => c == x) l >= 0) = l.any fun x => c == x := by
 unfold ya
 cases h : l.findIdx? fun x => c == x with
 | none =>
  have := List.findIdx?_eq_none_iff.1 h
  symm
  simpa [List.any_eq_false] using this
 | some k =>
  have h2 : (l.any fun x => c == x) = true := by
   rw [List.findIdx?_eq_some_iff_getElem] at h
   obtain ⟨hk,h3,_⟩ := h
   exact List.any_eq_true.2 ⟨l[k],List.getElem_mem hk,h3⟩
  rw [h2]
  simp
theorem Uj {l : List Int} (hl : l.length < 4611686018427387904) (c : Int) : V 203 [.rs (1,0) (l.map (D.int .u8)),.int .u8 c] = some (.bool (l.any fun x => c == x),[]) := by
 have h : V 221 [.rs (1,0) (l.map (D.int .u8)),.int .u8 c] = some (iN (ya (fun x => c == x) l),[]) := by
  rw [FW,<- wK]
  exact Mw hl c l.length 0 (Nat.zero_add _)
 rw [DR,Eh h,Wy]
theorem QM (c : Int) : V 177 [.int .u8 c] = some (.bool (nmB c),[]) := by
 have h := Uj (l := [43,45,42,60,61,63,33,47]) (by simp) c
 simp only [List.map_cons,List.map_nil] at h
 rw [Kw,yu (by decide),Dg h]
 unfold nmB
 cases decide (c >= 97) <;> cases decide (c <= 122) <;> rfl
theorem Kh (c : Int) : V 180 [.int .u8 c] = some (.bool (nmB c),[]) := by
 rw [KE]
 simp only [VY,nmB,List.any_cons,List.any_nil,Bool.or_false]
 cases decide (c >= 97) <;> cases decide (c <= 122) <;> rfl

def Qy (s : ByteArray) : Nat -> Nat -> Bool
 | _,0 => true
 | i,k + 1 => nmB (bt s i) && Qy s (i + 1) k
def GZ (s : ByteArray) : Bool := wi s.size 1 12 && Qy s 0 s.size
theorem GU {s : ByteArray} (hl : s.size < 4611686018427387904) : ∀ (k i : Nat),i + k = s.size -> AK s (ni s.size) (i : Int) = some (.bool (Qy s i k),[])
 | 0,i,hi => by rw [Ej,xb (yr (by omega))]; rfl
 | k + 1,i,hi => by
  rw [Ej,xK (yz (by omega)),yu (yx (by omega)),Lx (QM _),yM (by omega),GU hl k (i + 1) (by omega),IE,Bool.not_not]
  rfl
theorem Iu {s : ByteArray} (hl : s.size < 4611686018427387904) : ∀ (k i : Nat),i + k = s.size -> AL s (i : Int) = some (.bool (Qy s i k && wi s.size 1 12),[])
 | 0,i,hi => by rw [Ez,xb (yr (by omega)),zB (zX _ _ _)]; rfl
 | k + 1,i,hi => by
  rw [Ez,xK (yz (by omega)),yu (yx (by omega)),GE (Kh _),yM (by omega),Iu hl k (i + 1) (by omega),IE,Bool.not_not,<- Bool.and_assoc]
  rfl
theorem Oj {s : ByteArray} (hl : s.size < 4611686018427387904) : V 124 [.str s] = some (.bool (GZ s),[]) := by
 have h : AK s (ni s.size) 0 = _ := GU hl s.size 0 (Nat.zero_add _)
 rw [PD,zj (zY _ _ _),h,IE,Bool.not_not]
 rfl
theorem CQ {s : ByteArray} (hl : s.size < 4611686018427387904) : V 128 [.str s] = some (.bool (GZ s),[]) := by
 have h : AL s 0 = _ := Iu hl s.size 0 (Nat.zero_add _)
 rw [PO,h,Bool.and_comm]
 rfl

def nz (s : ByteArray) : Bool := kc s ⟨#[]⟩
def okN (x : Nd) (h : Int) : Bool :=
 if x.kind = 1 then wi x.n 0 0 && (nz x.s && (x.a == 0 && x.b == 0))
 else if x.kind = 2 then wi x.n 0 1 && (nz x.s && (x.a == 0 && x.b == 0))
 else if x.kind = 3 then wi x.n (-1000000000) 1000000000 && (nz x.s && (x.a == 0 && x.b == 0))
 else if x.kind = 4 then wi x.n 0 0 && (GZ x.s && (x.a == 0 && x.b == 0))
 else if x.kind = 5 then wi x.n 0 0 && (nz x.s && (wi x.a 0 (h - 1) && wi x.b 0 (h - 1)))
 else if x.kind = 6 then wi x.n 0 1000000000 && (nz x.s && (wi x.a 0 (h - 1) && x.b == 0))
 else if x.kind = 7 then wi x.n 0 0 && (nz x.s && (wi x.a 0 (h - 1) && x.b == 0))
 else if x.kind = 8 then wi x.n 0 99 && (nz x.s && (x.a == 0 && x.b == 0))
 else if x.kind = 9 then wi x.n 0 1000000000 && (nz x.s && (x.a == 0 && x.b == 0))
 else false
theorem Xz (n : Int) : wi n 0 0 = (n == 0) := by
 unfold wi
 by_cases h : n = 0
 ·subst h; rfl
 ·have : (n == 0) = false := by simp [h]
  rw [this]
  simp; omega

theorem Ol {x : Nd} (hs : x.s.size < 4611686018427387904) {h : Int} (h0 : -4611686018427387904 < h) (h1 : h < 4611686018427387904) : V 126 [eN x,iN h] = some (.bool (okN x h),[]) := by
 rw [PG,w64 (n := h - 1) (by omega) (by omega)]
 unfold okN
 by_cases e1 : x.kind = 1
 ·rw [xK (by simp [e1]),if_pos e1,zj (zY _ _ _)]; simp only [zx]; rfl
 rw [xb (by simp [e1]),if_neg e1]
 by_cases e2 : x.kind = 2
 ·rw [xK (by simp [e2]),if_pos e2,zj (zY _ _ _)]; simp only [zx]; rfl
 rw [xb (by simp [e2]),if_neg e2]
 by_cases e3 : x.kind = 3
 ·rw [xK (by simp [e3]),if_pos e3,zj (zY _ _ _)]; simp only [zx]; rfl
 rw [xb (by simp [e3]),if_neg e3]
 by_cases e4 : x.kind = 4
 ·rw [xK (by simp [e4]),if_pos e4,RT (Oj hs),zj (zY _ _ _)]; simp only [zx]
 rw [xb (by simp [e4]),if_neg e4]
 by_cases e5 : x.kind = 5
 ·rw [xK (by simp [e5]),if_pos e5,zj (zY _ _ _),zj (zY _ _ _),zj (zY _ _ _)]; simp only [zx]; rfl
 rw [xb (by simp [e5]),if_neg e5]
 by_cases e6 : x.kind = 6
 ·rw [xK (by simp [e6]),if_pos e6,zj (zY _ _ _),zj (zY _ _ _)]; simp only [zx]; rfl
 rw [xb (by simp [e6]),if_neg e6]
 by_cases e7 : x.kind = 7
 ·rw [xK (by simp [e7]),if_pos e7,zj (zY _ _ _),zj (zY _ _ _)]; simp only [zx]; rfl
 rw [xb (by simp [e7]),if_neg e7]
 by_cases e8 : x.kind = 8
 ·rw [xK (by simp [e8]),if_pos e8,zj (zY _ _ _)]; simp only [zx]; rfl
 rw [xb (by simp [e8]),if_neg e8]
 by_cases e9 : x.kind = 9
 ·rw [xK (by simp [e9]),if_pos e9,zj (zY _ _ _)]; simp only [zx]; rfl
 rw [xb (by simp [e9]),if_neg e9]

theorem WO {x : Nd} (hs : x.s.size < 4611686018427387904) {h : Int} (h0 : -4611686018427387904 < h) (h1 : h < 4611686018427387904) : V 130 [eN x,iN h] = some (.bool (okN x h),[]) := by
 rw [PZ,w64 (n := h - 1) (by omega) (by omega),zB (zX _ _ _),zB (zX _ _ _)]
 unfold okN
 have hss : kc x.s x.s = true := by rw [BH]; simp
 by_cases e1 : x.kind = 1
 ·rw [xK (by simp [e1]),if_pos e1,e1,Xz]; simp [nz]
 rw [xb (by simp [e1]),if_neg e1]
 by_cases e2 : x.kind = 2
 ·rw [xK (by simp [e2]),if_pos e2,e2,zB (zX _ _ _)]; simp only [zx]; simp [nz]
 rw [xb (by simp [e2]),if_neg e2]
 by_cases e3 : x.kind = 3
 ·rw [xK (by simp [e3]),if_pos e3,e3,zB (zX _ _ _)]; simp only [zx]; simp [nz]
 rw [xb (by simp [e3]),if_neg e3]
 by_cases e4 : x.kind = 4
 ·rw [xK (by simp [e4]),if_pos e4,e4,KX (CQ hs),Xz,hss]; simp only [zx]
  cases GZ x.s <;> cases x.n == 0 <;> simp
 rw [xb (by simp [e4]),if_neg e4]
 by_cases e5 : x.kind = 5
 ·rw [xK (by simp [e5]),if_pos e5,Xz]; simp only [zx]
  show some (D.bool (_ && (_ && (_ && nz x.s))),_) = _
  cases wi x.a 0 (h - 1) <;> cases wi x.b 0 (h - 1) <;> cases x.n == 0 <;> cases nz x.s <;> rfl
 rw [xb (by simp [e5]),if_neg e5]
 by_cases e6 : x.kind = 6
 ·rw [xK (by simp [e6]),if_pos e6,zB (zX _ _ _)]; simp only [zx]
  show some (D.bool (_ && (_ && (_ && nz x.s))),_) = _
  cases wi x.a 0 (h - 1) <;> cases wi x.n 0 1000000000 <;> cases x.b == 0 <;> cases nz x.s <;> rfl
 rw [xb (by simp [e6]),if_neg e6]
 by_cases e7 : x.kind = 7
 ·rw [xK (by simp [e7]),if_pos e7,Xz]; simp only [zx]
  show some (D.bool (_ && (_ && (_ && nz x.s))),_) = _
  cases wi x.a 0 (h - 1) <;> cases x.n == 0 <;> cases x.b == 0 <;> cases nz x.s <;> rfl
 rw [xb (by simp [e7]),if_neg e7]
 by_cases e8 : x.kind = 8
 ·rw [xK (by simp [e8]),if_pos e8,e8,zB (zX _ _ _)]; simp only [zx]; simp [nz]
 rw [xb (by simp [e8]),if_neg e8]
 by_cases e9 : x.kind = 9
 ·rw [xK (by simp [e9]),if_pos e9,e9,zB (zX _ _ _)]; simp only [zx]; simp [nz]
 rw [xb (by simp [e9]),if_neg e9]

abbrev eP (p : List Nd) : D := .agg [.rs (5,0) (p.map eN)]
abbrev oP (p : List Nd) : D := .agg [.os (5,0) (p.map eN)]
abbrev rP (p : List Nd) : D := .op [.os (5,0) (p.map eN)]
def z4 (p : List Nd) : Prop := ∀ x ∈ p,x.s.size < 4611686018427387904
def Fx (p : List Nd) : Nat -> Nat -> Bool
 | _,0 => true
 | i,k + 1 => (match p[i]? with | some x => okN x i | none => true) && Fx p (i + 1) k
def yR (p : List Nd) : Bool := Fx p 0 p.length && decide ((p.length : Int) <= 3000)
theorem GV {p : List Nd} (hf : z4 p) (hl : p.length < 4611686018427387904) : ∀ (k i : Nat),i + k = p.length -> BW (p.map eN) (ni (p.map eN).length) (i : Int) (p.map eN) = some (.bool (Fx p i k && decide ((p.length : Int) <= 3000)),[])
 | 0,i,hi => by
  rw [Eo,xb (by rw [lnM]; exact yr (by omega)),lnM]; rfl
 | k + 1,i,hi => by
  obtain ⟨x,hx⟩ := xx (l := p) (i := i) (by omega)
  rw [Eo,xK (by rw [lnM]; exact yz (by omega)),yu (by rw [lnM]; exact yx (by omega)),Int.toNat_natCast,xW hx,GY,RX (Ol (hf x (List.mem_of_getElem? hx)) (by omega) (by omega)),yM (by omega),GV hf hl k (i + 1) (by omega),IE,Bool.not_not,<- Bool.and_assoc]
  simp only [Fx,hx]
theorem Iv {p : List Nd} (hf : z4 p) (hl : p.length < 4611686018427387904) : ∀ (k i : Nat),i + k = p.length -> Ce (i : Int) (p.map eN) = some (.bool (Fx p i k && decide ((p.length : Int) <= 3000)),[])
 | 0,i,hi => by
  rw [EE,xb (by rw [lnM]; exact yr (by omega)),lnM]; rfl
 | k + 1,i,hi => by
  obtain ⟨x,hx⟩ := xx (l := p) (i := i) (by omega)
  rw [EE,xK (by rw [lnM]; exact yz (by omega)),yu (by rw [lnM]; exact yx (by omega)),Int.toNat_natCast,xW hx,GY,R9 (WO (hf x (List.mem_of_getElem? hx)) (by omega) (by omega)),yM (by omega),Iv hf hl k (i + 1) (by omega),IE,Bool.not_not,<- Bool.and_assoc]
  simp only [Fx,hx]
theorem AI {p : List Nd} (hf : z4 p) (hl : p.length < 4611686018427387904) : V 55 [eP p] = some (.bool (yR p),[]) := by
 rw [PE]; exact GV hf hl p.length 0 (Nat.zero_add _)
theorem zQ {p : List Nd} (hf : z4 p) (hl : p.length < 4611686018427387904) : V 60 [eP p] = some (.bool (yR p),[]) := by
 rw [PP]; exact Iv hf hl p.length 0 (Nat.zero_add _)
end
end Go.Eng
/-! what is reached,on both sides -/
namespace Go.Eng
noncomputable section
open Go.Proofs Go.Proofs.Tryz

theorem Vx {α : Type} {l : List α} {p : α -> Bool} : decide (ya p l >= 0) = l.any p := by
 unfold ya
 cases h : l.findIdx? p with
 | none =>
  have := List.findIdx?_eq_none_iff.1 h
  symm
  simpa [List.any_eq_false] using this
 | some k =>
  have h2 : l.any p = true := by
   rw [List.findIdx?_eq_some_iff_getElem] at h
   obtain ⟨hk,h3,_⟩ := h
   exact List.any_eq_true.2 ⟨l[k],List.getElem_mem hk,h3⟩
  rw [h2]
  simp

abbrev eI : Int -> D := D.int .i64
theorem wi_iff {n lo hi : Int} : wi n lo hi = true ↔ lo <= n /\ n <= hi := by simp [wi]

theorem MZ {p : List Nd} : ∀ {k i j : Nat} {x : Nd},Fx p i k = true -> i <= j -> j < i + k -> p[j]? = some x -> okN x j = true
 | 0,i,j,x,_,h1,h2,_ => by omega
 | k + 1,i,j,x,h,h1,h2,hx => by
  simp only [Fx,Bool.and_eq_true] at h
  by_cases e : i = j
  ·subst e; rw [hx] at h; exact h.1
  ·exact MZ h.2 (by omega) (by omega) hx
theorem zp {p : List Nd} (h : yR p = true) {j : Nat} {x : Nd} (hx : p[j]? = some x) : okN x j = true := by
 simp only [yR,Bool.and_eq_true] at h
 exact MZ h.1 (Nat.zero_le _) (by have := aQ hx; omega) hx
theorem za {p : List Nd} (h : yR p = true) : p.length <= 3000 := by
 simp only [yR,Bool.and_eq_true,decide_eq_true_eq] at h; omega
theorem zn {x : Nd} {h : Int} (ho : okN x h = true) (hk : x.kind = 5) : 0 <= x.a /\ x.a < h /\ 0 <= x.b /\ x.b < h := by
 simp [okN,hk,wi] at ho; omega
theorem z3 {x : Nd} {h : Int} (ho : okN x h = true) (hk : x.kind = 6 \/ x.kind = 7) : 0 <= x.a /\ x.a < h := by
 rcases hk with hk | hk <;> simp [okN,hk,wi] at ho <;> omega

def y1 (p : List Nd) (rs : List Int) : Bool := rs.all fun r => wi r 0 ((p.length : Int) - 1)
theorem Iy {p : List Nd} (hl : p.length < 4611686018427387904) (r : Int) : V 56 [eP p,iN r] = some (.bool (wi r 0 ((p.length : Int) - 1)),[]) := by
 rw [PF,zj (zY _ _ _),lnM,w64 (by simp only [ni]; omega) (by simp only [ni]; omega)]
theorem Dz {p : List Nd} (hl : p.length < 4611686018427387904) (r : Int) : V 61 [eP p,iN r] = some (.bool (wi r 0 ((p.length : Int) - 1)),[]) := by
 rw [Rl,zB (zX _ _ _),lnM,w64 (by simp only [ni]; omega) (by simp only [ni]; omega)]
theorem Ng {p : List Nd} (hl : p.length < 4611686018427387904) {l : List Int} (h2 : l.length < 4611686018427387904) : ∀ (k i : Nat),i + k = l.length -> z9 (l.map eI) (p.map eN) (ni (l.map eI).length) (i : Int) = some (iN (dQ (fun r => !wi r 0 ((p.length : Int) - 1)) l i),[])
 | 0,i,hi => by
  rw [BM,xb (by rw [lnM]; exact yr (by omega)),w8 (by omega)]
 | k + 1,i,hi => by
  obtain ⟨x,hx⟩ := xx (l := l) (i := i) (by omega)
  have ih := Ng hl h2 k (i + 1) (by omega)
  have hr : V 136 [iN x,.bp [.rs (5,0) (p.map eN)]] = some (.bool (!wi x 0 ((p.length : Int) - 1)),[]) := by
   rw [Tt,RV (Iy hl x)]
  rw [BM,xK (by rw [lnM]; exact yz (by omega)),yu (by rw [lnM]; exact yx (by omega)),Int.toNat_natCast,xW hx,ye,MO hr]
  cases h : (!wi x 0 ((p.length : Int) - 1)) with
  | true => rw [yk,w9 hx h]
  | false => rw [xJ,yM (by omega),ih,wJ hx h]
theorem VP {p : List Nd} (hf : z4 p) (hl : p.length < 4611686018427387904) {l : List Int} (h2 : l.length < 4611686018427387904) : V 65 [eP p,.rs (1,0) (l.map eI)] = some (.bool (yR p && y1 p l),[]) := by
 have h : V 188 [.rs (1,0) (l.map eI),.fn 136 [.bp [.rs (5,0) (p.map eN)]]] = some (iN (ya (fun r => !wi r 0 ((p.length : Int) - 1)) l),[]) := by
  rw [Js,<- wK]
  exact Ng hl h2 l.length 0 (Nat.zero_add _)
 have h3 : V 135 [.rs (1,0) (l.map eI),.fn 136 [.bp [.rs (5,0) (p.map eN)]]] = some (.bool (l.any fun r => !wi r 0 ((p.length : Int) - 1)),[]) := by
  rw [GH,Du h,Vx]
 rw [NG,RU (AI hf hl),Cz h3,zx]
 congr 3
 unfold y1
 rw [List.any_eq_not_all_not,Bool.not_not]
 simp
theorem GF {p : List Nd} (hf : z4 p) (hl : p.length < 4611686018427387904) {l : List Int} (h2 : l.length < 4611686018427387904) : ∀ (k i : Nat),i + k = l.length -> AE (l.map eI) (i : Int) (p.map eN) = some (.bool ((l.drop i).all (fun r => wi r 0 ((p.length : Int) - 1)) && yR p),[])
 | 0,i,hi => by
  rw [DL,xb (by rw [lnM]; exact yr (by omega)),List.drop_of_length_le (by omega),AQ (zQ hf hl)]; rfl
 | k + 1,i,hi => by
  obtain ⟨x,hx⟩ := xx (l := l) (i := i) (by omega)
  rw [DL,xK (by rw [lnM]; exact yz (by omega)),yu (by rw [lnM]; exact yx (by omega)),Int.toNat_natCast,xW hx,ye,Gr (Dz hl x),yM (by omega),GF hf hl h2 k (i + 1) (by omega),IE,Bool.not_not,tU hx,List.all_cons,Bool.and_assoc]
theorem VO {p : List Nd} (hf : z4 p) (hl : p.length < 4611686018427387904) {l : List Int} (h2 : l.length < 4611686018427387904) : V 84 [eP p,.rs (1,0) (l.map eI)] = some (.bool (yR p && y1 p l),[]) := by
 have h : AE (l.map eI) 0 (p.map eN) = _ := GF hf hl h2 l.length 0 (Nat.zero_add _)
 rw [Od,h,Bool.and_comm]; rfl

def zo (x : Nd) (m : List Bool) : List Bool := if x.kind = 5 then (m.set x.a.toNat true).set x.b.toNat true else if x.kind = 6 \/ x.kind = 7 then m.set x.a.toNat true else m
def zm (p : List Nd) : Nat -> List Bool -> List Bool
 | 0,m => m
 | k + 1,m => zm p k (match p[k]?,m[k]? with | some x,some true => zo x m | _,_ => m)
def Gy (rs : List Int) (m : List Bool) : List Bool := rs.foldl (fun m r => m.set r.toNat true) m
def Au (p : List Nd) (rs : List Int) : List Bool := zm p p.length (Gy rs (List.replicate p.length false))
theorem Jh (x : Nd) (m : List Bool) : (zo x m).length = m.length := by
 unfold zo
 split
 ·simp
 ·split <;> simp
theorem Ij {p : List Nd} : ∀ (k : Nat) (m : List Bool),(zm p k m).length = m.length
 | 0,m => rfl
 | k + 1,m => by
  simp only [zm]
  rw [Ij k]
  split
  ·exact Jh _ _
  ·rfl
theorem FA : ∀ (rs : List Int) (m : List Bool),(Gy rs m).length = m.length
 | [],m => rfl
 | r :: rs,m => by
  have := FA rs (m.set r.toNat true)
  simpa [Gy] using this
theorem Aq {n : Int} {l : Nat} (h0 : 0 <= n) (h1 : n < l) : (decide (0 <= n) && decide (n < ni l)) = true := by
 simp only [ni,Bool.and_eq_true,decide_eq_true_eq]; omega
theorem AZ {α : Type} {l : List α} {n : Int} (h0 : 0 <= n) (h1 : n < l.length) : ∃ x,l[n.toNat]? = some x := xx (by omega)
theorem CM {m : List Bool} {j : Nat} : List.set (m.map D.bool) j (D.bool true) = (m.set j true).map D.bool := by rw [List.map_set]

theorem z5 {p : List Nd} (hp : yR p = true) : ∀ (k : Nat) (m : List Bool) (i : Int),i = (k : Int) - 1 -> k <= p.length -> m.length = p.length -> zD i (p.map eN) (m.map D.bool) = some (.os (1,0) ((zm p k m).map D.bool),[])
 | 0,m,i,hi,hk,hm => by
  rw [FF,xb (decide_eq_false (by omega))]; rfl
 | k + 1,m,i,hi,hk,hm => by
  have hl := za hp
  have ei : i = (k : Int) := by omega
  subst ei
  obtain ⟨x,hx⟩ := xx (l := p) (i := k) (by omega)
  obtain ⟨b,hb⟩ := xx (l := m) (i := k) (by omega)
  have ho := zp hp hx
  have hw : w6 ((k : Int) - 1) = (k : Int) - 1 := w64 (by omega) (by omega)
  rw [FF,xK (decide_eq_true (by omega)),yu (by rw [lnM]; exact yx (by omega)),Int.toNat_natCast,xW hb,xI,hw]
  simp only [zm,hx,hb]
  cases b with
  | false => rw [Bool.not_false,yk]; exact z5 hp k m _ rfl (by omega) hm
  | true =>
   show _ = some (D.os (1,0) ((zm p k (zo x m)).map D.bool),[])
   rw [Bool.not_true,xJ,yu (by rw [lnM]; exact yx (by omega)),xW hx,GY]
   by_cases h5 : x.kind = 5
   ·obtain ⟨a0,a1,b0,b1⟩ := zn ho h5
    obtain ⟨u,hu⟩ := AZ (l := m) (n := x.a) a0 (by omega)
    obtain ⟨v,hv⟩ := AZ (l := m.set x.a.toNat true) (n := x.b) b0 (by simp; omega)
    rw [xK (by simp [h5]),yu (by rw [List.length_map]; exact Aq a0 (by omega)),xW hu,yA,CM,yu (by rw [List.length_map]; exact Aq b0 (by simp; omega)),xW hv,yA,CM]
    simp only [zo,h5,if_true]
    exact z5 hp k _ _ rfl (by omega) (by simp; omega)
   rw [xb (by simp [h5])]
   by_cases h6 : x.kind = 6
   ·obtain ⟨a0,a1⟩ := z3 ho (.inl h6)
    obtain ⟨u,hu⟩ := AZ (l := m) (n := x.a) a0 (by omega)
    rw [xK (by simp [h6]),xK (by simp [h6]),yu (by rw [List.length_map]; exact Aq a0 (by omega)),xW hu,yA,CM]
    have e : zo x m = m.set x.a.toNat true := by simp [zo,h6]
    rw [e]
    exact z5 hp k _ _ rfl (by omega) (by simp; omega)
   rw [xb (by simp [h6])]
   by_cases h7 : x.kind = 7
   ·obtain ⟨a0,a1⟩ := z3 ho (.inr h7)
    obtain ⟨u,hu⟩ := AZ (l := m) (n := x.a) a0 (by omega)
    rw [xK (by simp [h7]),yu (by rw [List.length_map]; exact Aq a0 (by omega)),xW hu,yA,CM]
    have e : zo x m = m.set x.a.toNat true := by simp [zo,h7]
    rw [e]
    exact z5 hp k _ _ rfl (by omega) (by simp; omega)
   rw [xb (by simp [h7])]
   have e : zo x m = m := by simp [zo,h5,h6,h7]
   rw [e]
   exact z5 hp k _ _ rfl (by omega) hm
theorem z8 {p : List Nd} (hp : yR p = true) : ∀ (k : Nat) (m : List Bool) (i : Int),i = (k : Int) - 1 -> k <= p.length -> m.length = p.length -> zr i (p.map eN) (m.map D.bool) = some (.os (1,0) ((zm p k m).map D.bool),[])
 | 0,m,i,hi,hk,hm => by
  rw [DK,xb (decide_eq_false (by omega))]; rfl
 | k + 1,m,i,hi,hk,hm => by
  have hl := za hp
  have ei : i = (k : Int) := by omega
  subst ei
  obtain ⟨x,hx⟩ := xx (l := p) (i := k) (by omega)
  obtain ⟨b,hb⟩ := xx (l := m) (i := k) (by omega)
  have ho := zp hp hx
  have hw : w6 ((k : Int) - 1) = (k : Int) - 1 := w64 (by omega) (by omega)
  rw [DK,xK (decide_eq_true (by omega)),yu (by rw [lnM]; exact yx (by omega)),Int.toNat_natCast,xW hx,GY,yu (by rw [lnM]; exact yx (by omega)),xW hb,xI,hw]
  simp only [zm,hx,hb]
  cases b with
  | false => rw [Bool.not_false,yk]; exact z8 hp k m _ rfl (by omega) hm
  | true =>
   show _ = some (D.os (1,0) ((zm p k (zo x m)).map D.bool),[])
   rw [Bool.not_true,xJ]
   by_cases h5 : x.kind = 5
   ·obtain ⟨a0,a1,b0,b1⟩ := zn ho h5
    obtain ⟨u,hu⟩ := AZ (l := m) (n := x.a) a0 (by omega)
    obtain ⟨v,hv⟩ := AZ (l := m.set x.a.toNat true) (n := x.b) b0 (by simp; omega)
    rw [xK (by simp [h5]),yu (by rw [List.length_map]; exact Aq a0 (by omega)),xW hu,yA,CM,yu (by rw [List.length_map]; exact Aq b0 (by simp; omega)),xW hv,yA,CM]
    simp only [zo,h5,if_true]
    exact z8 hp k _ _ rfl (by omega) (by simp; omega)
   rw [xb (by simp [h5])]
   by_cases h6 : x.kind = 6
   ·obtain ⟨a0,a1⟩ := z3 ho (.inl h6)
    obtain ⟨u,hu⟩ := AZ (l := m) (n := x.a) a0 (by omega)
    rw [xK (by simp [h6]),xK (by simp [h6]),yu (by rw [List.length_map]; exact Aq a0 (by omega)),xW hu,yA,CM]
    have e : zo x m = m.set x.a.toNat true := by simp [zo,h6]
    rw [e]
    exact z8 hp k _ _ rfl (by omega) (by simp; omega)
   rw [xb (by simp [h6])]
   by_cases h7 : x.kind = 7
   ·obtain ⟨a0,a1⟩ := z3 ho (.inr h7)
    obtain ⟨u,hu⟩ := AZ (l := m) (n := x.a) a0 (by omega)
    rw [xK (by simp [h7]),yu (by rw [List.length_map]; exact Aq a0 (by omega)),xW hu,yA,CM]
    have e : zo x m = m.set x.a.toNat true := by simp [zo,h7]
    rw [e]
    exact z8 hp k _ _ rfl (by omega) (by simp; omega)
   rw [xb (by simp [h7])]
   have e : zo x m = m := by simp [zo,h5,h6,h7]
   rw [e]
   exact z8 hp k _ _ rfl (by omega) hm

theorem GT {p : List Nd} (hp : yR p = true) {l : List Int} (h2 : l.length < 4611686018427387904) (hr : y1 p l = true) : ∀ (k i : Nat) (m : List Bool),i + k = l.length -> m.length = p.length -> Bq (l.map eI) (ni (l.map eI).length) (i : Int) (p.map eN) (m.map D.bool) = some (.os (1,0) ((zm p p.length (Gy (l.drop i) m)).map D.bool),[])
 | 0,i,m,hi,hm => by
  have hl := za hp
  rw [FE,xb (by rw [lnM]; exact yr (by omega)),List.drop_of_length_le (by omega),lnM,w64 (by simp only [ni]; omega) (by simp only [ni]; omega)]
  exact z5 hp p.length m _ rfl (Nat.le_refl _) hm
 | k + 1,i,m,hi,hm => by
  obtain ⟨x,hx⟩ := xx (l := l) (i := i) (by omega)
  have hx2 := wi_iff.1 (List.all_eq_true.1 hr x (List.mem_of_getElem? hx))
  obtain ⟨u,hu⟩ := AZ (l := m) (n := x) hx2.1 (by omega)
  rw [FE,xK (by rw [lnM]; exact yz (by omega)),yu (by rw [lnM]; exact yx (by omega)),Int.toNat_natCast,xW hx,ye,yu (by rw [lnM]; exact Aq hx2.1 (by omega)),xW hu,yA,CM,yM (by omega),tU hx]
  exact GT hp h2 hr k (i + 1) _ (by omega) (by simp; omega)
theorem Ir {p : List Nd} (hp : yR p = true) {l : List Int} (h2 : l.length < 4611686018427387904) (hr : y1 p l = true) : ∀ (k i : Nat) (m : List Bool),i + k = l.length -> m.length = p.length -> AC (l.map eI) (i : Int) (p.map eN) (m.map D.bool) = some (.os (1,0) ((zm p p.length (Gy (l.drop i) m)).map D.bool),[])
 | 0,i,m,hi,hm => by
  have hl := za hp
  rw [DI,xb (by rw [lnM]; exact yr (by omega)),List.drop_of_length_le (by omega),lnM,w64 (by simp only [ni]; omega) (by simp only [ni]; omega)]
  exact z8 hp p.length m _ rfl (Nat.le_refl _) hm
 | k + 1,i,m,hi,hm => by
  obtain ⟨x,hx⟩ := xx (l := l) (i := i) (by omega)
  have hx2 := wi_iff.1 (List.all_eq_true.1 hr x (List.mem_of_getElem? hx))
  obtain ⟨u,hu⟩ := AZ (l := m) (n := x) hx2.1 (by omega)
  rw [DI,xK (by rw [lnM]; exact yz (by omega)),yu (by rw [lnM]; exact yx (by omega)),Int.toNat_natCast,xW hx,ye,yu (by rw [lnM]; exact Aq hx2.1 (by omega)),xW hu,yA,CM,yM (by omega),tU hx]
  exact Ir hp h2 hr k (i + 1) _ (by omega) (by simp; omega)
theorem LF {α : Type} {f : α -> D} {l : List α} (h : l.length <= 4294967296) : (decide (0 <= ni (l.map f).length) && decide (ni (l.map f).length <= LIM)) = true := by
 rw [Bool.and_eq_true]
 exact ⟨decide_eq_true (by simp only [ni]; omega),decide_eq_true (by rw [pE,lnM]; simp only [ni]; omega)⟩
theorem Ph {n : Nat} : List.replicate (Int.toNat (ni n)) (D.bool false) = (List.replicate n false).map D.bool := by simp [ni]
theorem Xu {p : List Nd} (hp : yR p = true) {l : List Int} (h2 : l.length < 4611686018427387904) (hr : y1 p l = true) : V 189 [eP p,.rs (1,0) (l.map eI)] = some (.os (1,0) ((Au p l).map D.bool),[]) := by
 have hl := za hp
 have h : Bq (l.map eI) (ni (l.map eI).length) 0 (p.map eN) ((List.replicate p.length false).map D.bool) = _ := GT hp h2 hr l.length 0 _ (Nat.zero_add _) (by simp)
 have e : (p.map eN).length = p.length := lnM _
 rw [Re,yu (LF (by omega)),Ph,e,h]; rfl
theorem Pp {p : List Nd} (hp : yR p = true) {l : List Int} (h2 : l.length < 4611686018427387904) (hr : y1 p l = true) : V 149 [eP p,.rs (1,0) (l.map eI)] = some (.os (1,0) ((Au p l).map D.bool),[]) := by
 have hl := za hp
 have h : AC (l.map eI) 0 (p.map eN) ((List.replicate p.length false).map D.bool) = _ := Ir hp h2 hr l.length 0 _ (Nat.zero_add _) (by simp)
 have e : (p.map eN).length = p.length := lnM _
 rw [Oc,yu (LF (by omega)),Ph,e,h]; rfl
end
end Go.Eng
/-! what is moved into another pool,on both sides -/
namespace Go.Eng
open Go.Proofs Go.Proofs.Tryz

theorem UF {p : List Nd} (h : p.length < 4294967296) (x : D) : decide (ni (p.map eN ++ [x]).length <= LIM) = true :=
 decide_eq_true (by rw [pE]; simp only [ni,lnA,lnM,lnC,lnN]; omega)
theorem UX {p : List Nd} (h : p.length < 4294967296) (x : Nd) : V 157 [rP p,eN x] = some (iN p.length,[rP (p ++ [x])]) := by
 rw [LU,yu (UF h _),yA]
 have : w6 (ni (p.map eN ++ [eN x]).length - 1) = p.length := by
  rw [w64 (by simp only [ni]; omega) (by simp only [ni,lnA,lnM,lnC,lnN]; omega)]
  simp [ni]
 rw [this]; simp
theorem zb {p : List Nd} (h : p.length < 4294967296) (x : Nd) : V 158 [rP p,eN x] = some (iN p.length,[rP (p ++ [x])]) := by
 rw [Rk,yu (UF h _),yA]
 have : w6 (ni (p.map eN ++ [eN x]).length - 1) = p.length := by
  rw [w64 (by simp only [ni]; omega) (by simp only [ni,lnA,lnM,lnC,lnN]; omega)]
  simp [ni]
 rw [this]; simp

noncomputable def yX (pre : List Int) (x : Nd) : Nd :=
 if x.kind = 5 then ⟨x.kind,x.n,x.s,pre.getD x.a.toNat 0,pre.getD x.b.toNat 0⟩
 else if x.kind = 6 \/ x.kind = 7 then ⟨x.kind,x.n,x.s,pre.getD x.a.toNat 0,x.b⟩ else x
noncomputable def Ai (d : Int) (q : List Nd) (m : List Bool) : Nat -> List Int -> List Nd -> List Int × List Nd
 | 0,pre,acc => (pre,acc)
 | k + 1,pre,acc => match q[pre.length]?,m[pre.length]? with
  | some x,some true => Ai d q m k (pre ++ [(acc.length : Int)]) (acc ++ [yX pre x])
  | _,_ => Ai d q m k (pre ++ [d]) acc
theorem QH {pre r : List Int} {v u : Int} {i : Nat} (h : pre.length = i) : (pre ++ u :: r).set i v = pre ++ v :: r := by
 subst h; simp
theorem Qt {pre r : List Int} {u : Int} {i : Nat} (h : pre.length = i) : (pre ++ u :: r)[i]? = some u := by
 subst h; simp
theorem CW {pre r : List Int} {j : Nat} (h : j < pre.length) : (pre ++ r)[j]? = pre[j]? := List.getElem?_append_left h
theorem Ff {l pre : List Int} {n : Int} (h0 : 0 <= n) (h1 : n < pre.length) (h : ∀ j,j < pre.length -> l[j]? = pre[j]?) : ∃ u,l[n.toNat]? = some u /\ pre[n.toNat]? = some u := by
 obtain ⟨u,hu⟩ := xx (l := pre) (i := n.toNat) (by omega)
 exact ⟨u,by rw [h _ (by omega),hu],hu⟩
theorem Ap {q : List Nd} (hp : yR q = true) {m : List Bool} (hm : m.length = q.length) : ∀ (k i : Nat) (pre : List Int) (acc : List Nd),pre.length = i -> i + k = q.length -> acc.length + k < 4294967296 ->
  y7 (q.map eN) (ni (q.map eN).length) (i : Int) ((pre ++ List.replicate k 0).map eI) (m.map D.bool) (acc.map eN) = some (.os (1,0) ((Ai (-1) q m k pre acc).1.map eI),[rP (Ai (-1) q m k pre acc).2])
 | 0,i,pre,acc,hpre,hi,hc => by
  rw [BX,xb (by rw [lnM]; exact yr (by omega))]
  simp [Ai]
 | k + 1,i,pre,acc,hpre,hi,hc => by
  have hl := za hp
  obtain ⟨x,hx⟩ := xx (l := q) (i := i) (by omega)
  obtain ⟨b,hb⟩ := xx (l := m) (i := i) (by omega)
  have ho := zp hp hx
  have s1 : List.set ((pre ++ List.replicate (k + 1) 0).map eI) i (eI (-1)) = (pre ++ (-1) :: List.replicate k 0).map eI := by
   rw [<- List.map_set,List.replicate_succ,QH hpre]
  have s2 : ∀ v : Int,List.set ((pre ++ (-1) :: List.replicate k 0).map eI) i (eI v) = (pre ++ [v] ++ List.replicate k 0).map eI := by
   intro v; rw [<- List.map_set,QH hpre]; simp
  have hz : (pre ++ List.replicate (k + 1) 0)[i]? = some 0 := by rw [List.replicate_succ,Qt hpre]
  have hz2 : (pre ++ (-1) :: List.replicate k 0)[i]? = some (-1) := Qt hpre
  rw [BX,xK (by rw [lnM]; exact yz (by omega)),yu (by rw [lnM]; exact yx (by omega)),Int.toNat_natCast,xW hx,GY,yu (by rw [lnM]; exact yx (by simp; omega)),xW hz,yA,s1,yu (by rw [lnM]; exact yx (by omega)),xW hb,xI]
  cases b with
  | false =>
   rw [Bool.not_false,yk,yM (by omega)]
   have ih := Ap hp hm k (i + 1) (pre ++ [-1]) acc (by simp [hpre]) (by omega) (by omega)
   simp only [Ai,hpre,hx,hb]
   simpa using ih
  | true =>
   rw [Bool.not_true,xJ]
   by_cases h5 : x.kind = 5
   ·obtain ⟨a0,a1,b0,b1⟩ := zn ho h5
    obtain ⟨u,hu,hu'⟩ := Ff (l := (pre ++ (-1) :: List.replicate k 0)) (pre := pre) a0 (by omega) (by intro j hj; exact CW hj)
    obtain ⟨v,hv,hv'⟩ := Ff (l := (pre ++ (-1) :: List.replicate k 0)) (pre := pre) b0 (by omega) (by intro j hj; exact CW hj)
    have e : yX pre x = ⟨x.kind,x.n,x.s,u,v⟩ := by simp [yX,h5,hu',hv']
    rw [xK (by simp [h5]),yu (by rw [List.length_map]; exact Aq a0 (by simp; omega)),xW hu,ye,yu (by rw [List.length_map]; exact Aq b0 (by simp; omega)),xW hv,ye]
    have ha := UX (p := acc) (by omega) ⟨x.kind,x.n,x.s,u,v⟩
    have ih := Ap hp hm k (i + 1) (pre ++ [(acc.length : Int)]) (acc ++ [⟨x.kind,x.n,x.s,u,v⟩]) (by simp [hpre]) (by omega) (by simp; omega)
    rw [Fh ha,yu (by rw [lnM]; exact yx (by simp; omega)),xW hz2,yA,s2,yM (by omega)]
    simp only [Ai,hpre,hx,hb,e]
    exact ih
   rw [xb (by simp [h5])]
   by_cases h6 : x.kind = 6
   ·obtain ⟨a0,a1⟩ := z3 ho (.inl h6)
    obtain ⟨u,hu,hu'⟩ := Ff (l := (pre ++ (-1) :: List.replicate k 0)) (pre := pre) a0 (by omega) (by intro j hj; exact CW hj)
    have e : yX pre x = ⟨x.kind,x.n,x.s,u,x.b⟩ := by simp [yX,h6,hu']
    rw [xK (by simp [h6]),xK (by simp [h6]),yu (by rw [List.length_map]; exact Aq a0 (by simp; omega)),xW hu,ye]
    have ha := UX (p := acc) (by omega) ⟨x.kind,x.n,x.s,u,x.b⟩
    have ih := Ap hp hm k (i + 1) (pre ++ [(acc.length : Int)]) (acc ++ [⟨x.kind,x.n,x.s,u,x.b⟩]) (by simp [hpre]) (by omega) (by simp; omega)
    rw [Fh ha,yu (by rw [lnM]; exact yx (by simp; omega)),xW hz2,yA,s2,yM (by omega)]
    simp only [Ai,hpre,hx,hb,e]
    exact ih
   rw [xb (by simp [h6])]
   by_cases h7 : x.kind = 7
   ·obtain ⟨a0,a1⟩ := z3 ho (.inr h7)
    obtain ⟨u,hu,hu'⟩ := Ff (l := (pre ++ (-1) :: List.replicate k 0)) (pre := pre) a0 (by omega) (by intro j hj; exact CW hj)
    have e : yX pre x = ⟨x.kind,x.n,x.s,u,x.b⟩ := by simp [yX,h7,hu']
    rw [xK (by simp [h7]),yu (by rw [List.length_map]; exact Aq a0 (by simp; omega)),xW hu,ye]
    have ha := UX (p := acc) (by omega) ⟨x.kind,x.n,x.s,u,x.b⟩
    have ih := Ap hp hm k (i + 1) (pre ++ [(acc.length : Int)]) (acc ++ [⟨x.kind,x.n,x.s,u,x.b⟩]) (by simp [hpre]) (by omega) (by simp; omega)
    rw [Fh ha,yu (by rw [lnM]; exact yx (by simp; omega)),xW hz2,yA,s2,yM (by omega)]
    simp only [Ai,hpre,hx,hb,e]
    exact ih
   rw [xb (by simp [h7])]
   ·have e : yX pre x = x := by simp [yX,h5,h6,h7]
    have ha := UX (p := acc) (by omega) x
    have ih := Ap hp hm k (i + 1) (pre ++ [(acc.length : Int)]) (acc ++ [x]) (by simp [hpre]) (by omega) (by simp; omega)
    rw [Fh ha,yu (by rw [lnM]; exact yx (by simp; omega)),xW hz2,yA,s2,yM (by omega)]
    simp only [Ai,hpre,hx,hb,e]
    exact ih
theorem Av {q : List Nd} (hp : yR q = true) {m : List Bool} (hm : m.length = q.length) : ∀ (k i : Nat) (pre : List Int) (acc : List Nd),pre.length = i -> i + k = q.length -> acc.length + k < 4294967296 ->
  zw (m.map D.bool) (i : Int) (q.map eN) ((pre ++ List.replicate k 0).map eI) (acc.map eN) = some (.os (1,0) ((Ai 0 q m k pre acc).1.map eI),[rP (Ai 0 q m k pre acc).2])
 | 0,i,pre,acc,hpre,hi,hc => by
  rw [EW,xb (by rw [lnM]; exact yr (by omega))]
  simp [Ai]
 | k + 1,i,pre,acc,hpre,hi,hc => by
  have hl := za hp
  obtain ⟨x,hx⟩ := xx (l := q) (i := i) (by omega)
  obtain ⟨b,hb⟩ := xx (l := m) (i := i) (by omega)
  have ho := zp hp hx
  have s2 : ∀ v : Int,List.set ((pre ++ List.replicate (k + 1) 0).map eI) i (eI v) = (pre ++ [v] ++ List.replicate k 0).map eI := by
   intro v; rw [<- List.map_set,List.replicate_succ,QH hpre]; simp
  have hz2 : (pre ++ List.replicate (k + 1) 0)[i]? = some 0 := by rw [List.replicate_succ,Qt hpre]
  rw [EW,xK (by rw [lnM]; exact yz (by omega)),yu (by rw [lnM]; exact yx (by omega)),Int.toNat_natCast,xW hb,xI]
  cases b with
  | false =>
   rw [Bool.not_false,yk,yM (by omega)]
   have ih := Av hp hm k (i + 1) (pre ++ [0]) acc (by simp [hpre]) (by omega) (by omega)
   simp only [Ai,hpre,hx,hb]
   simpa [List.replicate_succ] using ih
  | true =>
   rw [Bool.not_true,xJ,yu (by rw [lnM]; exact yx (by omega)),xW hx,GY]
   by_cases h5 : x.kind = 5
   ·obtain ⟨a0,a1,b0,b1⟩ := zn ho h5
    obtain ⟨u,hu,hu'⟩ := Ff (l := (pre ++ List.replicate (k + 1) 0)) (pre := pre) a0 (by omega) (by intro j hj; exact CW hj)
    obtain ⟨v,hv,hv'⟩ := Ff (l := (pre ++ List.replicate (k + 1) 0)) (pre := pre) b0 (by omega) (by intro j hj; exact CW hj)
    have e : yX pre x = ⟨x.kind,x.n,x.s,u,v⟩ := by simp [yX,h5,hu',hv']
    rw [xK (by simp [h5]),yu (by rw [List.length_map]; exact Aq a0 (by simp; omega)),xW hu,ye,yu (by rw [List.length_map]; exact Aq b0 (by simp; omega)),xW hv,ye]
    have ha := zb (p := acc) (by omega) ⟨x.kind,x.n,x.s,u,v⟩
    have ih := Av hp hm k (i + 1) (pre ++ [(acc.length : Int)]) (acc ++ [⟨x.kind,x.n,x.s,u,v⟩]) (by simp [hpre]) (by omega) (by simp; omega)
    rw [yU ha,yu (by rw [lnM]; exact yx (by simp; omega)),xW hz2,yA,s2,yM (by omega)]
    simp only [Ai,hpre,hx,hb,e]
    exact ih
   rw [xb (by simp [h5])]
   by_cases h6 : x.kind = 6
   ·obtain ⟨a0,a1⟩ := z3 ho (.inl h6)
    obtain ⟨u,hu,hu'⟩ := Ff (l := (pre ++ List.replicate (k + 1) 0)) (pre := pre) a0 (by omega) (by intro j hj; exact CW hj)
    have e : yX pre x = ⟨x.kind,x.n,x.s,u,x.b⟩ := by simp [yX,h6,hu']
    rw [xK (by simp [h6]),xK (by simp [h6]),yu (by rw [List.length_map]; exact Aq a0 (by simp; omega)),xW hu,ye]
    have ha := zb (p := acc) (by omega) ⟨x.kind,x.n,x.s,u,x.b⟩
    have ih := Av hp hm k (i + 1) (pre ++ [(acc.length : Int)]) (acc ++ [⟨x.kind,x.n,x.s,u,x.b⟩]) (by simp [hpre]) (by omega) (by simp; omega)
    rw [yU ha,yu (by rw [lnM]; exact yx (by simp; omega)),xW hz2,yA,s2,yM (by omega)]
    simp only [Ai,hpre,hx,hb,e]
    exact ih
   rw [xb (by simp [h6])]
   by_cases h7 : x.kind = 7
   ·obtain ⟨a0,a1⟩ := z3 ho (.inr h7)
    obtain ⟨u,hu,hu'⟩ := Ff (l := (pre ++ List.replicate (k + 1) 0)) (pre := pre) a0 (by omega) (by intro j hj; exact CW hj)
    have e : yX pre x = ⟨x.kind,x.n,x.s,u,x.b⟩ := by simp [yX,h7,hu']
    rw [xK (by simp [h7]),yu (by rw [List.length_map]; exact Aq a0 (by simp; omega)),xW hu,ye]
    have ha := zb (p := acc) (by omega) ⟨x.kind,x.n,x.s,u,x.b⟩
    have ih := Av hp hm k (i + 1) (pre ++ [(acc.length : Int)]) (acc ++ [⟨x.kind,x.n,x.s,u,x.b⟩]) (by simp [hpre]) (by omega) (by simp; omega)
    rw [yU ha,yu (by rw [lnM]; exact yx (by simp; omega)),xW hz2,yA,s2,yM (by omega)]
    simp only [Ai,hpre,hx,hb,e]
    exact ih
   rw [xb (by simp [h7])]
   ·have e : yX pre x = x := by simp [yX,h5,h6,h7]
    have ha := zb (p := acc) (by omega) x
    have ih := Av hp hm k (i + 1) (pre ++ [(acc.length : Int)]) (acc ++ [x]) (by simp [hpre]) (by omega) (by simp; omega)
    rw [yU ha,yu (by rw [lnM]; exact yx (by simp; omega)),xW hz2,yA,s2,yM (by omega)]
    simp only [Ai,hpre,hx,hb,e]
    exact ih
end Go.Eng
/-! what is kept: both sides keep the same -/
namespace Go.Eng
noncomputable section
open Go.Proofs Go.Proofs.Tryz

theorem AH (p : List Nd) (rs : List Int) : (Au p rs).length = p.length := by
 unfold Au; rw [Ij,FA]; simp
def Ar (d : Int) (q : List Nd) (rs : List Int) (acc : List Nd) : List Int × List Nd := Ai d q (Au q rs) q.length [] acc
theorem Sw {n : Nat} : List.replicate (Int.toNat (ni n)) (iN 0) = (List.replicate n (0 : Int)).map eI := by simp [ni]
theorem WS {q acc : List Nd} (hp : yR q = true) {rs : List Int} (h2 : rs.length < 4611686018427387904) (hr : y1 q rs = true) (hc : acc.length + q.length < 4294967296) :
  V 137 [rP acc,eP q,.rs (1,0) (rs.map eI)] = some (.os (1,0) ((Ar (-1) q rs acc).1.map eI),[rP (Ar (-1) q rs acc).2]) := by
 have e : (q.map eN).length = q.length := lnM _
 have h := Ap hp (AH q rs) q.length 0 [] acc rfl (Nat.zero_add _) hc
 rw [List.nil_append] at h
 rw [JL,yu (LF (by omega)),TU (Xu hp h2 hr)]
 have h0 : List.replicate (Int.toNat (ni (q.map eN).length)) (iN 0) = (List.replicate q.length (0 : Int)).map eI := by rw [e]; exact Sw
 rw [h0]
 exact h
theorem SI {q acc : List Nd} (hp : yR q = true) {rs : List Int} (hc : acc.length + q.length < 4294967296) :
  V 148 [rP acc,eP q,.rs (1,0) ((Au q rs).map D.bool)] = some (.os (1,0) ((Ar 0 q rs acc).1.map eI),[rP (Ar 0 q rs acc).2]) := by
 have e : (q.map eN).length = q.length := lnM _
 have h := Av hp (AH q rs) q.length 0 [] acc rfl (Nat.zero_add _) hc
 rw [List.nil_append] at h
 have h0 : List.replicate (Int.toNat (ni (q.map eN).length)) (iN 0) = (List.replicate q.length (0 : Int)).map eI := by rw [e]; exact Sw
 rw [Qq,yu (LF (by omega)),h0]
 exact h

theorem CY (d : Int) (q : List Nd) (m : List Bool) : ∀ (k : Nat) (pre : List Int) (acc : List Nd),(Ai d q m k pre acc).1.length = pre.length + k
 | 0,pre,acc => rfl
 | k + 1,pre,acc => by
  simp only [Ai]
  split
  ·rw [CY d q m k]; simp; omega
  ·rw [CY d q m k]; simp; omega
theorem GX (d : Int) (q : List Nd) (m : List Bool) : ∀ (k : Nat) (pre : List Int) (acc : List Nd),(Ai d q m k pre acc).2.length <= acc.length + k
 | 0,pre,acc => Nat.le_refl _
 | k + 1,pre,acc => by
  simp only [Ai]
  split
  ·have := GX d q m k (pre ++ [(acc.length : Int)]) (acc ++ [yX pre ‹Nd›]); simp at this; omega
  ·have := GX d q m k (pre ++ [d]) acc; omega

def y5 (d : Int) (q : List Nd) (rs : List Int) : List Nd × List Int := ((Ar d q rs []).2,rs.map fun r => (Ar d q rs []).1.getD r.toNat 0)
theorem UG {l : List Int} (h : l.length < 4294967296) (x : D) : decide (ni (l.map eI ++ [x]).length <= LIM) = true :=
 decide_eq_true (by rw [pE]; simp only [ni,lnA,lnM,lnC,lnN]; omega)
theorem GR {n : Nat} {a : List Int} (ha : a.length = n) {p : List D} {l : List Int} (h2 : l.length < 4294967296) (hr : ∀ r ∈ l,0 <= r /\ r < (n : Int)) : ∀ (k i : Nat) (out : List Int),i + k = l.length -> out.length = i -> Dr (l.map eI) (ni (l.map eI).length) (i : Int) (a.map eI) (out.map eI) p = some (.tup [.agg [.os (5,0) p],.os (1,0) ((out ++ (l.drop i).map fun r => a.getD r.toNat 0).map eI)],[])
 | 0,i,out,hi,ho => by
  rw [GC,xb (by rw [lnM]; exact yr (by omega)),List.drop_of_length_le (by omega)]; simp
 | k + 1,i,out,hi,ho => by
  obtain ⟨x,hx⟩ := xx (l := l) (i := i) (by omega)
  have hx2 := hr x (List.mem_of_getElem? hx)
  obtain ⟨u,hu⟩ := AZ (l := a) (n := x) hx2.1 (by omega)
  have e : out.map eI ++ [iN u] = (out ++ [u]).map eI := by simp
  have eg : a.getD x.toNat 0 = u := by simp [hu]
  rw [GC,xK (by rw [lnM]; exact yz (by omega)),yu (by rw [lnM]; exact yx (by omega)),Int.toNat_natCast,xW hx,ye,yu (by rw [lnM]; exact Aq hx2.1 (by omega)),xW hu,ye,yu (UG (by omega) _),yA,yM (by omega),e,tU hx,List.map_cons,eg]
  have ih := GR ha (p := p) h2 hr k (i + 1) (out ++ [u]) (by omega) (by simp; omega)
  rw [List.append_assoc] at ih
  exact ih
theorem Iq {n : Nat} {a : List Int} (ha : a.length = n) {p : List D} {l : List Int} (h2 : l.length < 4294967296) (hr : ∀ r ∈ l,0 <= r /\ r < (n : Int)) : ∀ (k i : Nat) (out : List Int),i + k = l.length -> out.length = i -> Ck (l.map eI) (i : Int) (a.map eI) (out.map eI) p = some (.tup [.agg [.os (5,0) p],.os (1,0) ((out ++ (l.drop i).map fun r => a.getD r.toNat 0).map eI)],[])
 | 0,i,out,hi,ho => by
  rw [EZ,xb (by rw [lnM]; exact yr (by omega)),List.drop_of_length_le (by omega)]; simp
 | k + 1,i,out,hi,ho => by
  obtain ⟨x,hx⟩ := xx (l := l) (i := i) (by omega)
  have hx2 := hr x (List.mem_of_getElem? hx)
  obtain ⟨u,hu⟩ := AZ (l := a) (n := x) hx2.1 (by omega)
  have e : out.map eI ++ [iN u] = (out ++ [u]).map eI := by simp
  have eg : a.getD x.toNat 0 = u := by simp [hu]
  rw [EZ,xK (by rw [lnM]; exact yz (by omega)),yu (by rw [lnM]; exact yx (by omega)),Int.toNat_natCast,xW hx,ye,yu (by rw [lnM]; exact Aq hx2.1 (by omega)),xW hu,ye,yu (UG (by omega) _),yA,yM (by omega),e,tU hx,List.map_cons,eg]
  have ih := Iq ha (p := p) h2 hr k (i + 1) (out ++ [u]) (by omega) (by simp; omega)
  rw [List.append_assoc] at ih
  exact ih
theorem CE {p : List Nd} {rs : List Int} (hr : y1 p rs = true) : ∀ r ∈ rs,0 <= r /\ r < (p.length : Int) := by
 intro r h
 have := wi_iff.1 (List.all_eq_true.1 hr r h)
 omega
theorem XU {q : List Nd} (hp : yR q = true) {rs : List Int} (h2 : rs.length < 4294967296) (hr : y1 q rs = true) :
  V 66 [eP q,.rs (1,0) (rs.map eI)] = some (.tup [oP (y5 (-1) q rs).1,.os (1,0) ((y5 (-1) q rs).2.map eI)],[]) := by
 have hl := za hp
 have hm : V 137 [.op [.os (5,0) []],eP q,.rs (1,0) (rs.map eI)] = _ := WS (acc := []) hp (rs := rs) (by omega) hr (by simp; omega)
 have h := GR (CY (-1) q (Au q rs) q.length [] []) (p := (Ar (-1) q rs []).2.map eN) h2 (by simpa using CE hr) rs.length 0 [] (Nat.zero_add _) rfl
 rw [Tp,ML hm]
 exact h
theorem WQ {q : List Nd} (hp : yR q = true) {rs : List Int} (h2 : rs.length < 4294967296) (hr : y1 q rs = true) :
  V 86 [eP q,.rs (1,0) (rs.map eI)] = some (.tup [oP (y5 0 q rs).1,.os (1,0) ((y5 0 q rs).2.map eI)],[]) := by
 have hl := za hp
 have hm : V 148 [.op [.os (5,0) []],eP q,.rs (1,0) ((Au q rs).map D.bool)] = _ := SI (acc := []) hp (rs := rs) (by simp; omega)
 have h := Iq (CY 0 q (Au q rs) q.length [] []) (p := (Ar 0 q rs []).2.map eN) h2 (by simpa using CE hr) rs.length 0 [] (Nat.zero_add _) rfl
 rw [Qr,J5 (Pp hp (by omega) hr),Ld hm]
 exact h

def On (m : List Bool) (n : Int) : Prop := m[n.toNat]? = some true
theorem Nk {m : List Bool} {j i : Nat} (h : m[j]? = some true) : (m.set i true)[j]? = some true := by
 by_cases e : i = j
 ·subst e; simp [aQ h]
 ·rw [List.getElem?_set_ne e]; exact h
theorem Nn {m : List Bool} {i : Nat} (h : i < m.length) : (m.set i true)[i]? = some true := by simp [h]
theorem Vj {x : Nd} {m : List Bool} {j : Nat} (h : m[j]? = some true) : (zo x m)[j]? = some true := by
 unfold zo
 split
 ·exact Nk (Nk h)
 ·split
  ·exact Nk h
  ·exact h
theorem D5 {p : List Nd} : ∀ (k : Nat) {m : List Bool} {j : Nat},m[j]? = some true -> (zm p k m)[j]? = some true
 | 0,m,j,h => h
 | k + 1,m,j,h => by
  simp only [zm]
  apply D5 k
  split
  ·exact Vj h
  ·exact h
theorem Vi {p : List Nd} (hp : yR p = true) {k : Nat} {x : Nd} (hx : p[k]? = some x) {m : List Bool} {j : Nat} (h : k <= j) : (zo x m)[j]? = m[j]? := by
 have ho := zp hp hx
 unfold zo
 split
 ·rename_i h5
  have := zn ho h5
  rw [List.getElem?_set_ne (by omega),List.getElem?_set_ne (by omega)]
 ·split
  ·rename_i h6
   have := z3 ho h6
   rw [List.getElem?_set_ne (by omega)]
  ·rfl
theorem Nc {p : List Nd} (hp : yR p = true) : ∀ (k : Nat) {m : List Bool} {j : Nat},k <= j -> (zm p k m)[j]? = m[j]?
 | 0,m,j,h => rfl
 | k + 1,m,j,h => by
  simp only [zm]
  rw [Nc hp k (by omega)]
  split
  ·rename_i x hx _; exact Vi hp ‹_› (by omega)
  ·rfl
def Jp (p : List Nd) (m : List Bool) : Prop := ∀ (i : Nat) (x : Nd),p[i]? = some x -> m[i]? = some true -> (x.kind = 5 -> On m x.a /\ On m x.b) /\ (x.kind = 6 \/ x.kind = 7 -> On m x.a)
theorem Ig {p : List Nd} (hp : yR p = true) : ∀ (k : Nat) {m : List Bool},m.length = p.length -> ∀ (i : Nat) (x : Nd),i < k -> p[i]? = some x -> (zm p k m)[i]? = some true -> (x.kind = 5 -> On (zm p k m) x.a /\ On (zm p k m) x.b) /\ (x.kind = 6 \/ x.kind = 7 -> On (zm p k m) x.a)
 | 0,m,hm,i,x,hi,_,_ => by omega
 | k + 1,m,hm,i,x,hi,hx,hr => by
  by_cases e : i = k
  ·subst e
   have ho := zp hp hx
   rw [zm] at hr ⊢
   have hmi : m[i]? = some true := by
    rw [Nc hp i (Nat.le_refl _)] at hr
    split at hr
    ·assumption
    ·exact hr
   rw [hx,hmi]
   show (_ -> On (zm p i (zo x m)) x.a /\ On (zm p i (zo x m)) x.b) /\ (_ -> On (zm p i (zo x m)) x.a)
   have hlt := aQ hx
   refine ⟨fun h5 => ?_,fun h6 => ?_⟩
   ·have := zn ho h5
    have ea : (zo x m)[x.a.toNat]? = some true := by
     simp only [zo,h5,if_true]
     exact Nk (Nn (by omega))
    have eb : (zo x m)[x.b.toNat]? = some true := by
     simp only [zo,h5,if_true]
     exact Nn (by simp; omega)
    exact ⟨D5 i ea,D5 i eb⟩
   ·have := z3 ho h6
    have ea : (zo x m)[x.a.toNat]? = some true := by
     have h5 : ¬ x.kind = 5 := by omega
     simp only [zo,h5,h6,if_false,if_true]
     exact Nn (by omega)
    exact D5 i ea
  ·rw [zm] at hr ⊢
   refine Ig hp k ?_ i x (by omega) hx hr
   split
   ·rw [Jh]; exact hm
   ·exact hm
theorem Af {p : List Nd} (hp : yR p = true) (rs : List Int) : Jp p (Au p rs) := by
 intro i x hx hr
 exact Ig hp p.length (by rw [FA]; simp) i x (aQ hx) hx hr
theorem VI {rs : List Int} : ∀ {m : List Bool} {r : Int},(r ∈ rs /\ r.toNat < m.length) \/ m[r.toNat]? = some true -> (Gy rs m)[r.toNat]? = some true := by
 induction rs with
 | nil => intro m r h; rcases h with h | h; exact absurd h.1 (by simp); exact h
 | cons q rs ih =>
  intro m r h
  show (Gy rs (m.set q.toNat true))[r.toNat]? = some true
  apply ih
  rcases h with ⟨h,hl⟩ | h
  ·rcases List.mem_cons.1 h with rfl | h
   ·right; simp [hl]
   ·left; exact ⟨h,by simpa using hl⟩
  ·right; exact Nk h
theorem AV {p : List Nd} {rs : List Int} (hr : y1 p rs = true) : ∀ r ∈ rs,On (Au p rs) r := by
 intro r h
 have := CE hr r h
 exact D5 _ (VI (.inl ⟨h,by simp; omega⟩))

theorem IJ {q : List Nd} (hp : yR q = true) {m : List Bool} (hc : Jp q m) (hm : m.length = q.length) (d d' : Int) : ∀ (k : Nat) (pre pre' : List Int) (acc : List Nd),pre.length = pre'.length -> pre.length + k = q.length -> (∀ j : Nat,m[j]? = some true -> pre[j]? = pre'[j]?) ->
  (Ai d q m k pre acc).2 = (Ai d' q m k pre' acc).2 /\ ∀ j : Nat,m[j]? = some true -> (Ai d q m k pre acc).1[j]? = (Ai d' q m k pre' acc).1[j]?
 | 0,pre,pre',acc,hl,hk,h => ⟨rfl,h⟩
 | k + 1,pre,pre',acc,hl,hk,h => by
  obtain ⟨x,hx⟩ := xx (l := q) (i := pre.length) (by omega)
  obtain ⟨b,hb⟩ := xx (l := m) (i := pre.length) (by omega)
  have step : ∀ (u u' : Int),(b = true -> u = u') -> ∀ j : Nat,m[j]? = some true -> (pre ++ [u])[j]? = (pre' ++ [u'])[j]? := by
   intro u u' huu j hj
   rcases Nat.lt_trichotomy j pre.length with h1 | h1 | h1
   ·rw [List.getElem?_append_left h1,List.getElem?_append_left (by omega)]; exact h j hj
   ·subst h1
    rw [hb] at hj; cases hj
    rw [List.getElem?_append_right (Nat.le_refl _),hl,List.getElem?_append_right (Nat.le_refl _),huu rfl]
   ·rw [List.getElem?_eq_none (by simp; omega),List.getElem?_eq_none (by simp; omega)]
  have hb' := hb
  have hx' := hx
  rw [hl] at hb' hx'
  simp only [Ai,hx,hb,hx',hb']
  cases b with
  | false => exact IJ hp hc hm d d' k _ _ acc (by simp; omega) (by simp; omega) (step d d' (fun h => by cases h))
  | true =>
   have hcl := hc _ x hx hb
   have e : yX pre x = yX pre' x := by
    unfold yX
    split
    ·rename_i h5
     have h1 := h _ (hcl.1 h5).1
     have h2 := h _ (hcl.1 h5).2
     simp only [List.getD_eq_getElem?_getD,h1,h2]
    ·split
     ·rename_i h6
      have h1 := h _ (hcl.2 h6)
      simp only [List.getD_eq_getElem?_getD,h1]
     ·rfl
   have ih := IJ hp hc hm d d' k (pre ++ [(acc.length : Int)]) (pre' ++ [(acc.length : Int)]) (acc ++ [yX pre x]) (by simp; omega) (by simp; omega) (step _ _ (fun _ => rfl))
   rw [e] at ih
   simp only [e]
   exact ih
theorem TK {q : List Nd} (hp : yR q = true) {rs : List Int} (hr : y1 q rs = true) (d d' : Int) : y5 d q rs = y5 d' q rs := by
 have h := IJ hp (Af hp rs) (AH q rs) d d' q.length [] [] [] rfl (Nat.zero_add _) (fun _ _ => rfl)
 unfold y5
 refine Prod.ext h.1 ?_
 apply List.map_congr_left
 intro r hm
 have := h.2 r.toNat (AV hr r hm)
 simp only [List.getD_eq_getElem?_getD]
 exact congrArg (fun o => Option.getD o 0) this
end
end Go.Eng
/-! decimal digits,on both sides -/
namespace Go.Eng
open Go.Proofs Go.Proofs.Tryz

theorem w32 {n : Int} (h0 : 0 <= n) (h1 : n < 1000) : IntKind.wrap .i32 n = n := by
 simp [IntKind.wrap,IntKind.bits,IntKind.signed]; omega
theorem Uf (n : Nat) : Int.tdiv (n : Int) 10 = ((n / 10 : Nat) : Int) := by
 rw [Int.tdiv_eq_ediv_of_nonneg (by omega)]; omega
theorem Uh (n : Nat) : Int.tmod (n : Int) 10 = ((n % 10 : Nat) : Int) := by
 rw [Int.tmod_eq_emod_of_nonneg (by omega)]; omega
theorem OQ {d : Nat} (h : d < 10) : Utf8.encode (IntKind.wrap .i32 (w6 (48 + (d : Int)))) = mk [UInt8.ofNat (48 + d)] := by
 rw [w64 (by omega) (by omega),w32 (by omega) (by omega),PJ (by omega) (by omega)]
 congr 3
theorem JU {a b : List UInt8} (ha : a.length <= 1000) (hb : b.length <= 1000) : decide (ni ((mk a).size + (mk b).size) <= LIM) = true :=
 decide_eq_true (by rw [pE,yO,yO]; simp only [ni]; omega)
theorem Cy {n : Nat} (h : n < 1000000000000000000) : (Ef n).length <= 20 := by
 have := LQ 18 n (by omega)
 omega
theorem GL : ∀ (n : Nat),n < 1000000000000000000 -> V 152 [iN (n : Int)] = some (.str (mk (Ef n)),[]) := by
 intro n
 induction n using Nat.strongRecOn with
 | _ n ih =>
  intro hn
  rw [Jf,xb (decide_eq_false (by omega)),xb (decide_eq_false (by omega))]
  by_cases h : n < 10
  ·rw [xK (decide_eq_true (by omega)),OQ h,zL h]
  ·rw [xb (decide_eq_false (by omega)),yu (by decide),Uf,w64 (by omega) (by omega),Dt (ih (n / 10) (by omega) (by omega)),yu (by decide),Uh,OQ (by omega),yu (JU (by have := Cy (n := n / 10) (by omega); omega) (by simp)),Bc,DQ h]
theorem QY : ∀ (n : Nat),0 < n -> n < 1000000000000000000 -> V 152 [iN (-(n : Int))] = some (.str (mk (45 :: Ef n)),[]) := by
 intro n
 induction n using Nat.strongRecOn with
 | _ n ih =>
  intro h0 hn
  rw [Jf,xK (decide_eq_true (by omega))]
  by_cases h : n < 10
  ·have hd := GL n hn
   rw [xK (decide_eq_true (by omega)),show (0 : Int) - -(n : Int) = n by omega,w64 (by omega) (by omega),Dt hd]
   rw [<- show mk [45] = ⟨#[45]⟩ from rfl,yu (JU (a := [45]) (by simp) (by have := Cy hn; omega)),Bc]
   rfl
  ·have e1 : Int.tdiv (-(n : Int)) 10 = -((n / 10 : Nat) : Int) := by rw [Int.neg_tdiv,Uf]
   have e2 : Int.tmod (-(n : Int)) 10 = -((n % 10 : Nat) : Int) := by rw [Int.neg_tmod,Uh]
   have hd := GL (n % 10) (by omega)
   rw [xb (decide_eq_false (by omega)),xK (decide_eq_true (by omega)),yu (by decide),e1,w64 (by omega) (by omega),Dt (ih (n / 10) (by omega) (by omega) (by omega)),yu (by decide),e2,show (0 : Int) - -((n % 10 : Nat) : Int) = ((n % 10 : Nat) : Int) by omega,w64 (by omega) (by omega),Dt hd]
   rw [yu (JU (by have := Cy (n := n / 10) (by omega); simp; omega) (by have := Cy (n := n % 10) (by omega); omega)),Bc,DQ h,zL (show n % 10 < 10 by omega)]
   rfl
theorem VL {n : Int} (h : n.natAbs < 1000000000000000000) : V 152 [iN n] = some (.str (mk (Cm n)),[]) := by
 by_cases h0 : n < 0
 ·have := QY n.natAbs (by omega) h
  rw [show -(n.natAbs : Int) = n by omega] at this
  rw [this,Cm,if_pos h0]
 ·have := GL n.natAbs h
  rw [show (n.natAbs : Int) = n by omega] at this
  rw [this,Cm,if_neg h0]
theorem WK {d : Nat} (h : d < 10) : IntKind.wrap .u8 (w6 (48 + (d : Int))) = 48 + (d : Int) := by
 rw [w64 (by omega) (by omega),XB (by omega) (by omega)]
theorem Q9 : ∀ (n : Nat) (acc : List UInt8),n < 1000000000000000000 -> acc.length + (if n = 0 then [] else Ef n).length <= 1000 -> AY (n : Int) (mk acc) = some (.str (mk ((if n = 0 then [] else Ef n) ++ acc)),[]) := by
 intro n
 induction n using Nat.strongRecOn with
 | _ n ih =>
  intro acc hn hl
  by_cases h0 : n = 0
  ·subst h0
   rw [Di,xb (by rfl),if_pos rfl]; rfl
  ·have hd : Ef n = (if n / 10 = 0 then [] else Ef (n / 10)) ++ [UInt8.ofNat (48 + n % 10)] := by
    by_cases h : n < 10
    ·rw [zL h,if_pos (by omega),show n % 10 = n by omega]; rfl
    ·rw [DQ h,if_neg (by omega)]
   rw [if_neg h0,hd] at hl
   simp only [lnA,lnC,lnN] at hl
   rw [Di,xK (decide_eq_true (by omega)),yu (by decide),Uh,WK (by omega),TT]
   have e : UInt8.ofNat (48 + ((n % 10 : Nat) : Int)).toNat = UInt8.ofNat (48 + n % 10) := by congr 1
   rw [e,yu (JU (by simp) (by omega)),yu (by decide),Uf,w64 (by omega) (by omega),Bc,ih (n / 10) (by omega) _ (by omega) (by simp only [lnA,lnC,lnN]; omega),if_neg h0,hd]
   simp
theorem JT {n : Nat} (h : n < 1000000000000000000) : V 202 [iN (n : Int)] = some (.str (mk (Ef n)),[]) := by
 rw [GN,xb (decide_eq_false (by omega))]
 by_cases h0 : n = 0
 ·subst h0
  rw [xK (by rfl),zL (by omega)]; rfl
 ·have := Q9 n [] h (by have := Cy h; rw [if_neg h0]; simp; omega)
  rw [if_neg h0,List.append_nil] at this
  rw [xb (by simp; omega)]
  exact this
theorem Nw {n : Int} (h : n.natAbs < 1000000000000000000) : V 202 [iN n] = some (.str (mk (Cm n)),[]) := by
 by_cases h0 : n < 0
 ·have hd := JT h
  rw [GN,xK (decide_eq_true h0),show (0 : Int) - n = (n.natAbs : Int) by omega,w64 (by omega) (by omega),Fw hd]
  rw [<- show mk [45] = ⟨#[45]⟩ from rfl,yu (JU (a := [45]) (by simp) (by have := Cy h; omega)),Bc,Cm,if_pos h0]
  rfl
 ·have := JT h
  rw [show (n.natAbs : Int) = n by omega] at this
  rw [this,Cm,if_neg h0]
end Go.Eng
/-! what is written of a value: the reference's side -/
namespace Go.Eng
noncomputable section
open Go.Proofs Go.Proofs.Tryz

def AF (x : Nd) : List UInt8 :=
 if x.kind = 1 then [40,41]
 else if x.kind = 2 then (if x.n = 1 then [35,116] else [35,102])
 else if x.kind = 3 then Cm x.n
 else if x.kind = 4 then x.s.data.toList
 else if x.kind = 6 then [35,102,117,110] ++ Cm x.n
 else if x.kind = 7 then [35,107,111,110,116] ++ Cm x.n
 else if x.kind = 8 then [35,112,114,105,109] ++ Cm x.n
 else [35,112,105,100] ++ Cm x.n
def wr (p : List Nd) : Nat -> Bool -> Nat -> List UInt8 -> List UInt8
 | 0,_,_,out => out
 | g + 1,false,v,out => if out.length > 400 then out else
  match p[v]? with
  | some x => if x.kind = 5 then wr p g true x.b.toNat (wr p g false x.a.toNat (out ++ [40])) else out ++ AF x
  | none => out
 | g + 1,true,v,out =>
  match p[v]? with
  | some x => if x.kind = 5 /\ out.length <= 400 then wr p g true x.b.toNat (wr p g false x.a.toNat (out ++ [32]))
   else if x.kind = 1 then out ++ [41] else wr p g false v (out ++ [32,46,32]) ++ [41]
  | none => out
theorem RM {s : ByteArray} (h : GZ s = true) : s.size <= 12 := by
 simp only [GZ,Bool.and_eq_true,wi,decide_eq_true_eq] at h; omega
theorem M8 {x : Nd} {h : Int} (ho : okN x h = true) (hk : x.kind ≠ 4) : x.n.natAbs <= 1000000000 := by
 unfold okN at ho
 repeat' split at ho
 all_goals (try simp only [Bool.and_eq_true,wi,decide_eq_true_eq] at ho)
 all_goals (first | omega | (cases ho))
theorem Sm {x : Nd} {h : Int} (ho : okN x h = true) (hk : x.kind = 4) : GZ x.s = true := by
 simp [okN,hk] at ho; exact ho.2.1
theorem LP {n : Int} (h : n.natAbs <= 1000000000) : (Cm n).length <= 12 := by
 have := LQ 9 n.natAbs (by simpa using (by omega : n.natAbs < 10000000000))
 unfold Cm; split <;> simp <;> omega
theorem Kq {x : Nd} {h : Int} (ho : okN x h = true) : (AF x).length <= 40 := by
 by_cases h4 : x.kind = 4
 ·have := RM (Sm ho h4)
  have e : x.s.data.toList.length = x.s.size := by rw [Array.length_toList]; rfl
  simp [AF,h4]
  omega
 ·have := LP (M8 ho h4)
  unfold AF
  repeat' split
  all_goals (first | contradiction | (simp; done) | (simp; omega) | omega)
theorem Ww {x : Nd} {h : Int} (ho : okN x h = true) : 1 <= x.kind /\ x.kind <= 9 := by
 unfold okN at ho
 repeat' split at ho
 all_goals (first | omega | (cases ho))
def Ee (p : List Nd) (v : Int) : List UInt8 :=
 if yR p = true /\ wi v 0 ((p.length : Int) - 1) = true then (if (wr p (2 * v.toNat + 1) false v.toNat []).length > 400 then [] else wr p (2 * v.toNat + 1) false v.toNat []) else []
end
end Go.Eng
/-! what is written of a value: the program's side,as plain lists -/
namespace Go.Eng
open Go.Proofs Go.Proofs.Tryz

noncomputable def wm (p : List Nd) : Nat -> Option Bool -> Nat -> List UInt8 -> List UInt8
 | 0,_,_,out => out
 | g + 1,none,v,out => if out.length > 400 then out else
  match p[v]? with
  | some x => if x.kind = 5 \/ x.kind = 1 then wm p g (some true) v (out ++ [40]) ++ [41] else out ++ AF x
  | none => out
 | g + 1,some first,v,out =>
  match p[v]? with
  | some x => if x.kind = 5 /\ out.length <= 400 then wm p g (some false) x.b.toNat (wm p g none x.a.toNat (if first then out else out ++ [32]))
   else if x.kind = 1 \/ x.kind = 5 then out else wm p g none v (out ++ [32,46,32])
  | none => out
noncomputable def QQ (a b : List UInt8) : Prop := a = b \/ (400 < a.length /\ 400 < b.length)
theorem DC {p : List Nd} : ∀ (g : Nat) (m : Bool) (v : Nat) (out : List UInt8),out.length <= (wr p g m v out).length
 | 0,m,v,out => Nat.le_refl _
 | g + 1,false,v,out => by
  simp only [wr]
  split
  ·exact Nat.le_refl _
  ·split
   ·split
    ·rename_i x _ _
     have h1 := DC (p := p) g false x.a.toNat (out ++ [40])
     have h2 := DC (p := p) g true x.b.toNat (wr p g false x.a.toNat (out ++ [40]))
     simp at h1; omega
    ·simp
   ·exact Nat.le_refl _
 | g + 1,true,v,out => by
  simp only [wr]
  split
  ·split
   ·rename_i x _ _
    have h1 := DC (p := p) g false x.a.toNat (out ++ [32])
    have h2 := DC (p := p) g true x.b.toNat (wr p g false x.a.toNat (out ++ [32]))
    simp at h1; omega
   ·split
    ·simp
    ·have h1 := DC (p := p) g false v (out ++ [32,46,32])
     simp at h1 ⊢; omega
  ·exact Nat.le_refl _
theorem Km {p : List Nd} : ∀ (g : Nat) (m : Option Bool) (v : Nat) (out : List UInt8),out.length <= (wm p g m v out).length
 | 0,m,v,out => Nat.le_refl _
 | g + 1,none,v,out => by
  simp only [wm]
  split
  ·exact Nat.le_refl _
  ·split
   ·split
    ·have h1 := Km (p := p) g (some true) v (out ++ [40])
     simp at h1 ⊢; omega
    ·simp
   ·exact Nat.le_refl _
 | g + 1,some first,v,out => by
  simp only [wm]
  split
  ·split
   ·rename_i x _ _
    have h2 := Km (p := p) g (some false) x.b.toNat (wm p g none x.a.toNat (if first then out else out ++ [32]))
    have h1 := Km (p := p) g none x.a.toNat (if first then out else out ++ [32])
    cases first <;> simp at h1 h2 ⊢ <;> omega
   ·split
    ·exact Nat.le_refl _
    ·have h1 := Km (p := p) g none v (out ++ [32,46,32])
     simp at h1 ⊢; omega
  ·exact Nat.le_refl _

theorem LJ {p : List Nd} {g g' : Nat} {b : Nat} {r r' : List UInt8} (h : QQ r r') (ih : ∀ o,QQ (wm p g (some false) b o ++ [41]) (wr p g' true b o)) :
  QQ (wm p g (some false) b r ++ [41]) (wr p g' true b r') := by
 rcases h with rfl | ⟨h1,h2⟩
 ·exact ih r
 ·refine .inr ⟨?_,?_⟩
  ·have := Km (p := p) g (some false) b r
   simp; omega
  ·have := DC (p := p) g' true b r'
   omega
theorem NA {p : List Nd} (hp : yR p = true) : ∀ (g : Nat),
  (∀ (g' v : Nat) (o : List UInt8),v < p.length -> 2 * v + 3 <= g -> 2 * v + 1 <= g' -> QQ (wm p g none v o) (wr p g' false v o)) /\
  (∀ (g' v : Nat) (o : List UInt8),v < p.length -> 2 * v + 2 <= g -> 2 * v + 2 <= g' -> QQ (wm p g (some false) v o ++ [41]) (wr p g' true v o))
 | 0 => ⟨fun g' v o _ h _ => by omega,fun g' v o _ h _ => by omega⟩
 | g + 1 => by
  obtain ⟨ihv,iht⟩ := NA hp g
  refine ⟨fun g' v o hv hg hg' => ?_,fun g' v o hv hg hg' => ?_⟩
  ·obtain ⟨x,hx⟩ := xx hv
   have hok := zp hp hx
   cases g' with
   | zero => omega
   | succ g' =>
   cases g with
   | zero => omega
   | succ g =>
   simp only [wm,wr,hx,if_true]
   by_cases hf : o.length > 400
   ·rw [if_pos hf,if_pos hf]; exact .inl rfl
   rw [if_neg hf,if_neg hf]
   by_cases h5 : x.kind = 5
   ·have hk := zn hok h5
    rw [if_pos (.inl h5),if_pos h5]
    by_cases hl : (o ++ [40]).length <= 400
    ·rw [if_pos ⟨h5,hl⟩]
     obtain ⟨ihv2,iht2⟩ := NA hp g
     exact LJ (ihv2 g' x.a.toNat (o ++ [40]) (by omega) (by omega) (by omega)) (fun r => iht2 g' x.b.toNat r (by omega) (by omega) (by omega))
    ·rw [if_neg (fun h => hl h.2),if_pos (.inr h5)]
     refine .inr ⟨by simp at hl ⊢; omega,?_⟩
     have h1 := DC (p := p) g' false x.a.toNat (o ++ [40])
     have h2 := DC (p := p) g' true x.b.toNat (wr p g' false x.a.toNat (o ++ [40]))
     omega
   ·rw [if_neg h5]
    by_cases h1 : x.kind = 1
    ·rw [if_pos (.inr h1),if_neg (fun h => h5 h.1),if_pos (.inl h1)]
     exact .inl (by simp [AF,h1])
    ·rw [if_neg (fun h => h.elim h5 h1)]; exact .inl rfl
  ·obtain ⟨x,hx⟩ := xx hv
   have hok := zp hp hx
   cases g' with
   | zero => omega
   | succ g' =>
   simp only [wm,wr,hx,Bool.false_eq_true,if_false]
   by_cases h5 : x.kind = 5
   ·have hk := zn hok h5
    by_cases hl : o.length <= 400
    ·rw [if_pos ⟨h5,hl⟩,if_pos ⟨h5,hl⟩]
     exact LJ (ihv g' x.a.toNat (o ++ [32]) (by omega) (by omega) (by omega)) (fun r => iht g' x.b.toNat r (by omega) (by omega) (by omega))
    ·rw [if_neg (fun h => hl h.2),if_pos (.inr h5),if_neg (fun h => hl h.2),if_neg (by omega)]
     refine .inr ⟨by simp; omega,?_⟩
     have := DC (p := p) g' false v (o ++ [32,46,32])
     simp at this ⊢; omega
   ·by_cases h1 : x.kind = 1
    ·rw [if_neg (fun h => h5 h.1),if_pos (.inl h1),if_neg (fun h => h5 h.1),if_pos h1]; exact .inl rfl
    ·rw [if_neg (fun h => h5 h.1),if_neg (fun h => h.elim h1 h5),if_neg (fun h => h5 h.1),if_neg h1]
     cases g with
     | zero => omega
     | succ g =>
     cases g' with
     | zero => omega
     | succ g' =>
     simp only [wm,wr,hx]
     by_cases hf : (o ++ [32,46,32]).length > 400
     ·rw [if_pos hf,if_pos hf]; exact .inl rfl
     ·rw [if_neg hf,if_neg (fun h => h.elim h5 h1),if_neg hf,if_neg h5]; exact .inl rfl
termination_by g => g
end Go.Eng
/-! what is written of a value: the program's side -/
namespace Go.Eng
open Go.Proofs Go.Proofs.Tryz

theorem lit (l : List UInt8) : (ByteArray.mk l.toArray) = mk l := rfl
noncomputable abbrev wO (p : List Nd) (o : List UInt8) : D := .op [.rs (5,0) (p.map eN),.os (1,0) (o.map eU)]
theorem Aj (p : List Nd) (o : List UInt8) : V 88 [wO p o] = some (.bool (decide (o.length > 400)),[wO p o]) := by
 rw [Jt,lnM]
 simp only [wY,gt_iff_lt]
 by_cases h : 400 < o.length
 ·rw [decide_eq_true h,decide_eq_true (by omega)]
 ·rw [decide_eq_false h,decide_eq_false (by omega)]
theorem Kj (p : List Nd) {o s : List UInt8} (h : o.length + s.length <= 4294967296) : V 150 [wO p o,.str (mk s)] = some (.tup [],[wO p (o ++ s)]) := by
 rw [Ju,U5]
 simp (disch := first | omega | (simp only [lnA,lnC,lnN,lnM,yO,wY]; omega)) only [↓xP,↓yA,yJ,lnM,lnA,pE,wY,yl]
theorem XA {p : List Nd} (hp : yR p = true) (g : Nat) {v : Nat} {x : Nd} (hx : p[v]? = some x) (h5 : ¬ x.kind = 5) (h1 : ¬ x.kind = 1) (out : List UInt8) :
  (out.length <= 400 -> (wm p g none v out).length <= 440) /\ (400 < out.length -> (wm p g none v out).length = out.length) := by
 cases g with
 | zero => simp only [wm]; exact ⟨fun h => by omega,fun h => trivial⟩
 | succ g =>
  have := Kq (zp hp hx)
  simp only [wm,hx]
  refine ⟨fun h => ?_,fun h => by rw [if_pos h]⟩
  rw [if_neg (by omega),if_neg (fun h => h.elim h5 h1)]
  simp only [lnA]; omega
theorem NB {p : List Nd} (hp : yR p = true) : ∀ (g : Nat) (v : Nat) (out : List UInt8),
  ((out.length <= 400 -> (wm p g none v out).length <= 450 + 50 * v) /\ (400 < out.length -> (wm p g none v out).length = out.length)) /\
  (∀ first,(out.length <= 400 -> (wm p g (some first) v out).length <= 449 + 50 * v) /\ (400 < out.length -> (wm p g (some first) v out).length <= out.length + 3))
 | 0,v,out => by simp only [wm]; exact ⟨⟨fun h => by omega,fun h => trivial⟩,fun f => ⟨fun h => by omega,fun h => by omega⟩⟩
 | g + 1,v,out => by
  refine ⟨⟨fun h => ?_,fun h => by simp only [wm]; rw [if_pos h]⟩,fun first => ?_⟩
  ·simp only [wm]
   rw [if_neg (by omega)]
   split
   ·rename_i x hx
    split
    ·have h1 := (NB hp g v (out ++ [40])).2 true
     simp only [lnA,lnC,lnN] at h1 ⊢
     by_cases c : out.length + 1 <= 400
     ·have := h1.1 c; omega
     ·have := h1.2 (by omega); omega
    ·have := Kq (zp hp hx)
     simp only [lnA]; omega
   ·omega
  ·simp only [wm]
   split
   ·rename_i x hx
    split
    ·rename_i hc
     have hk := zn (zp hp hx) hc.1
     have h1 := (NB hp g x.a.toNat (if first then out else out ++ [32])).1
     have h2 := (NB hp g x.b.toNat (wm p g none x.a.toNat (if first then out else out ++ [32]))).2 false
     have hs : (if first = true then out else out ++ [32]).length <= 401 := by split <;> (try simp only [lnA,lnC,lnN]) <;> omega
     refine ⟨fun h => ?_,fun h => by omega⟩
     by_cases c : (if first = true then out else out ++ [32]).length <= 400
     ·have h3 := h1.1 c
      by_cases c2 : (wm p g none x.a.toNat (if first then out else out ++ [32])).length <= 400
      ·have := h2.1 c2; omega
      ·have := h2.2 (by omega); omega
     ·have h3 := h1.2 (by omega)
      have := h2.2 (by omega); omega
    ·rename_i hc
     split
     ·exact ⟨fun h => by omega,fun h => by omega⟩
     ·rename_i h15
      have h1 := XA hp g hx (fun h => h15 (.inr h)) (fun h => h15 (.inl h)) (out ++ [32,46,32])
      simp only [lnA,lnC,lnN] at h1
      refine ⟨fun h => ?_,fun h => ?_⟩
      ·by_cases c : out.length + 3 <= 400
       ·have := h1.1 c; omega
       ·have := h1.2 (by omega); omega
      ·have := h1.2 (by omega); omega
   ·exact ⟨fun h => by omega,fun h => by omega⟩

theorem OX {p : List Nd} (hp : yR p = true) {v : Nat} {x : Nd} (hx : p[v]? = some x) (h5 : ¬ x.kind = 5) (h1 : ¬ x.kind = 1) {out : List UInt8} (ho : out.length <= 400) :
  V 87 [wO p out,iN (v : Int)] = some (.tup [],[wO p (out ++ AF x)]) := by
 have hok := zp hp hx
 have hk := Ww hok
 have hv := aQ hx
 have hl := Kq hok
 have ht : ∀ s : List UInt8,s.length <= 40 -> V 150 [wO p out,.str (mk s)] = some (.tup [],[wO p (out ++ s)]) := fun s hs => Kj p (by omega)
 rw [Bh]
 by_cases h2 : x.kind = 2
 ·have e : AF x = if x.n = 1 then [35,116] else [35,102] := by simp [AF,h2]
  rw [e]
  by_cases hn : x.n = 1
  ·rw [if_pos hn]; simp (disch := first | omega | (simp only [lnA,lnC,lnN,lnM,yO,wY]; omega)) only [↓wZ,xi,↓yk,↓xJ,↓xP,↓yo,↓yb,↓ye,↓xI,↓yi,↓yg,↓yh,↓xu,↓xw,↓yf,↓xX,yJ,yI,yF,yE,Bool.and_true,lnM,wY,↓xW hx,Aj,lit,ht]
  ·rw [if_neg hn]; simp (disch := first | omega | (simp only [lnA,lnC,lnN,lnM,yO,wY]; omega)) only [↓wZ,xi,↓yk,↓xJ,↓xP,↓yo,↓yb,↓ye,↓xI,↓yi,↓yg,↓yh,↓xu,↓xw,↓yf,↓xX,yJ,yI,yF,yE,Bool.and_true,lnM,wY,↓xW hx,Aj,lit,ht]
 by_cases h4 : x.kind = 4
 ·have e : AF x = x.s.data.toList := by simp [AF,h4]
  rw [e] at hl ⊢
  have hs := ht x.s.data.toList hl
  rw [RH] at hs
  simp (disch := first | omega | (simp only [lnA,lnC,lnN,lnM,yO,wY]; omega)) only [↓wZ,xi,↓yk,↓xJ,↓xP,↓yo,↓yb,↓ye,↓xI,↓yi,↓yg,↓yh,↓xu,↓xw,↓yf,↓xX,yJ,yI,yF,yE,Bool.and_true,lnM,wY,↓xW hx,Aj,hs]
 have hd := M8 hok h4
 have hdg := VL (n := x.n) (by omega)
 have hdn := LP hd
 by_cases h3 : x.kind = 3
 ·have e : AF x = Cm x.n := by simp [AF,h3]
  rw [e]
  simp (disch := first | omega | (simp only [lnA,lnC,lnN,lnM,yO,wY]; omega)) only [↓wZ,xi,↓yk,↓xJ,↓xP,↓yo,↓yb,↓ye,↓xI,↓yi,↓yg,↓yh,↓xu,↓xw,↓yf,↓xX,yJ,yI,yF,yE,Bool.and_true,lnM,wY,↓xW hx,Aj,hdg,ht]
 by_cases h6 : x.kind = 6
 ·have e : AF x = [35,102,117,110] ++ Cm x.n := by simp [AF,h6]
  rw [e]
  simp (disch := first | omega | (simp only [lnA,lnC,lnN,lnM,yO,wY]; omega)) only [↓wZ,xi,↓xJ,↓xP,↓yo,↓yb,↓ye,↓xI,↓yi,↓yg,↓yh,↓xu,↓xw,↓yf,↓xz,xz,Int.reduceSub,Int.reduceToNat,↓xX,yJ,yI,yE,Bool.and_true,lnM,lnC,lnN,pE,wS,wY,↓xW hx,Aj,hdg,h6,lit,Bc,yO,ht]
 by_cases h7 : x.kind = 7
 ·have e : AF x = [35,107,111,110,116] ++ Cm x.n := by simp [AF,h7]
  rw [e]
  simp (disch := first | omega | (simp only [lnA,lnC,lnN,lnM,yO,wY]; omega)) only [↓wZ,xi,↓xJ,↓xP,↓yo,↓yb,↓ye,↓xI,↓yi,↓yg,↓yh,↓xu,↓xw,↓yf,↓xA,xA,Int.reduceSub,Int.reduceToNat,↓xX,yJ,yI,yE,Bool.and_true,lnM,lnC,lnN,pE,wS,wY,↓xW hx,Aj,hdg,h7,lit,Bc,yO,ht]
 by_cases h8 : x.kind = 8
 ·have e : AF x = [35,112,114,105,109] ++ Cm x.n := by simp [AF,h8]
  rw [e]
  simp (disch := first | omega | (simp only [lnA,lnC,lnN,lnM,yO,wY]; omega)) only [↓wZ,xi,↓xJ,↓xP,↓yo,↓yb,↓ye,↓xI,↓yi,↓yg,↓yh,↓xu,↓xw,↓yf,↓xB,xB,Int.reduceSub,Int.reduceToNat,↓xX,yJ,yI,yE,Bool.and_true,lnM,lnC,lnN,pE,wS,wY,↓xW hx,Aj,hdg,h8,lit,Bc,yO,ht]
 have h9 : x.kind = 9 := by omega
 have e : AF x = [35,112,105,100] ++ Cm x.n := by simp [AF,h9]
 rw [e]
 simp (disch := first | omega | (simp only [lnA,lnC,lnN,lnM,yO,wY]; omega)) only [↓wZ,xi,↓xJ,↓xP,↓yo,↓yb,↓ye,↓xI,↓yi,↓yg,↓yh,↓xu,↓xw,↓yf,↓xC,xC,Int.reduceSub,Int.reduceToNat,↓xX,yJ,yI,yE,Bool.and_true,lnM,lnC,lnN,pE,wS,wY,↓xW hx,Aj,hdg,h9,lit,Bc,yO,ht]
theorem OZ {p : List Nd} {v : Nat} {x : Nd} (hx : p[v]? = some x) {out : List UInt8} (ho : 400 < out.length) :
  V 87 [wO p out,iN (v : Int)] = some (.tup [],[wO p out]) := by
 have hv := aQ hx
 rw [Bh]
 simp (disch := first | omega | (simp only [lnA,lnC,lnN,lnM,yO,wY]; omega)) only [↓wZ,xi,↓yk,↓xP,↓yo,↓yb,↓ye,↓xI,↓yi,↓yg,↓yh,↓xu,↓yf,↓xX,yJ,Bool.and_true,lnM,wY,↓xW hx,Aj]
theorem Mu {p : List Nd} (hp : yR p = true) : ∀ (g : Nat),
  (∀ (v : Nat) (out : List UInt8),v < p.length -> 2 * v + 3 <= g -> out.length <= 300010 -> V 87 [wO p out,iN (v : Int)] = some (.tup [],[wO p (wm p g none v out)])) /\
  (∀ (v : Nat) (first : Bool) (out : List UInt8),v < p.length -> 2 * v + 2 <= g -> out.length <= 300000 -> zz (v : Int) first (p.map eN) (out.map eU) = some (.tup [],[wO p (wm p g (some first) v out)]))
 | 0 => ⟨fun v out _ h _ => by omega,fun v f out _ h _ => by omega⟩
 | g + 1 => by
  obtain ⟨ihv,iht⟩ := Mu hp g
  have hl := za hp
  refine ⟨fun v out hv hg ho => ?_,fun v first out hv hg ho => ?_⟩
  ·obtain ⟨x,hx⟩ := xx hv
   have hok := zp hp hx
   by_cases hf : out.length > 400
   ·rw [OZ hx hf]; simp only [wm,if_pos hf]
   by_cases h15 : x.kind = 5 \/ x.kind = 1
   ·have h2 := iht v true (out ++ [40]) hv (by omega) (by simp; omega)
    have hlen := ((NB hp g v (out ++ [40])).2 true)
    simp only [lnA,lnC,lnN] at hlen
    have hle : (wm p g (some true) v (out ++ [40])).length <= 200000 := by
     by_cases c : out.length + 1 <= 400
     ·have := hlen.1 c; omega
     ·have := hlen.2 (by omega); omega
    have h3 : V 151 [wO p (out ++ [40]),iN (v : Int)] = some (.tup [],[wO p (wm p g (some true) v (out ++ [40]))]) := by
     rw [IZ]; exact h2
    have t1 : V 150 [wO p out,.str (mk [40])] = some (.tup [],[wO p (out ++ [40])]) := Kj p (by simp; omega)
    have t2 : V 150 [wO p (wm p g (some true) v (out ++ [40])),.str (mk [41])] = some (.tup [],[wO p (wm p g (some true) v (out ++ [40]) ++ [41])]) := Kj p (by simp; omega)
    have e : wm p (g + 1) none v out = wm p g (some true) v (out ++ [40]) ++ [41] := by
     simp only [wm,if_neg hf,hx,if_pos h15]
    rw [e,Bh]
    rcases h15 with h | h
    ·simp (disch := first | omega | (simp only [lnA,lnC,lnN,lnM,yO,wY]; omega)) only [↓wZ,xi,↓yk,↓xJ,↓xP,↓yo,↓yb,↓ye,↓xI,↓yi,↓yg,↓yh,↓xu,↓xw,↓yf,↓xX,yJ,yI,yF,yE,Bool.and_true,lnM,wY,↓xW hx,Aj,lit,t1,t2,h3]
    ·simp (disch := first | omega | (simp only [lnA,lnC,lnN,lnM,yO,wY]; omega)) only [↓wZ,xi,↓yk,↓xJ,↓xP,↓yo,↓yb,↓ye,↓xI,↓yi,↓yg,↓yh,↓xu,↓xw,↓yf,↓xX,yJ,yI,yF,Bool.and_true,lnM,wY,↓xW hx,Aj,lit,t1,t2,h3]
   ·rw [OX hp hx (fun h => h15 (.inl h)) (fun h => h15 (.inr h)) (by omega)]
    simp only [wm,if_neg hf,hx,if_neg h15]
  ·obtain ⟨x,hx⟩ := xx hv
   have hok := zp hp hx
   rw [Fq]
   by_cases h5 : x.kind = 5
   ·by_cases hf : out.length <= 400
    ·have hk := zn hok h5
     obtain ⟨ka,hka⟩ := Int.eq_ofNat_of_zero_le hk.1
     obtain ⟨kb,hkb⟩ := Int.eq_ofNat_of_zero_le hk.2.2.1
     have hw : ∀ o : List UInt8,o.length <= 401 -> (wm p g none ka o).length <= 200000 := fun o ho => by
      have h := (NB hp g ka o).1
      by_cases c : o.length <= 400
      ·have := h.1 c; omega
      ·have := h.2 (by omega); omega
     have hc : x.kind = 5 /\ out.length <= 400 := ⟨h5,hf⟩
     have e : wm p (g + 1) (some first) v out = wm p g (some false) kb (wm p g none ka (if first then out else out ++ [32])) := by
      simp only [wm,hx,if_pos hc,hka,hkb,Int.toNat_natCast]
     rw [e]
     cases first with
     | true =>
      have h1 := ihv ka out (by omega) (by omega) (by omega)
      have h2 := iht kb false (wm p g none ka out) (by omega) (by omega) (by have := hw out (by omega); omega)
      simp (disch := first | omega | (simp only [lnA,lnC,lnN,lnM,yO,wY]; omega)) only [↓wZ,xi,↓yk,↓xJ,↓xP,↓yo,↓yb,↓ye,↓xI,↓yg,↓yh,↓xu,↓xw,↓yf,↓xz,↓xC,↓xD,xz,xC,xD,↓xX,yJ,yI,yF,Bool.and_true,Bool.not_true,Bool.not_false,lnM,wY,↓xW hx,Aj,hka,hkb,h1,h2,if_true]
     | false =>
      have t1 : V 150 [wO p out,.str (mk [32])] = some (.tup [],[wO p (out ++ [32])]) := Kj p (by simp; omega)
      have h1 := ihv ka (out ++ [32]) (by omega) (by omega) (by simp; omega)
      have h2 := iht kb false (wm p g none ka (out ++ [32])) (by omega) (by omega) (by have := hw (out ++ [32]) (by simp; omega); omega)
      simp (disch := first | omega | (simp only [lnA,lnC,lnN,lnM,yO,wY]; omega)) only [↓wZ,xi,↓yk,↓xP,↓yo,↓yb,↓ye,↓xI,↓yg,↓yh,↓xu,↓xw,↓yf,↓xz,↓xC,↓xD,xz,xC,xD,↓xX,yJ,yI,yF,Bool.true_and,Bool.and_true,Bool.not_false,lnM,wY,↓xW hx,Aj,lit,t1,hka,hkb,h1,h2,if_false,Bool.false_eq_true]
    ·have e : wm p (g + 1) (some first) v out = out := by
      simp only [wm,hx,if_neg (fun h : x.kind = 5 /\ out.length <= 400 => hf h.2),if_pos (show x.kind = 1 \/ x.kind = 5 from .inr h5)]
     rw [e]
     simp (disch := first | omega | (simp only [lnA,lnC,lnN,lnM,yO,wY]; omega)) only [↓wZ,xi,↓yk,↓xJ,↓xP,↓yo,↓yb,↓ye,↓xI,↓yg,↓yh,↓xu,↓yf,↓xz,xz,↓xX,yJ,yF,yH,yG,Bool.and_true,Bool.not_true,lnM,wY,↓xW hx,Aj]
   ·by_cases h1 : x.kind = 1
    ·have e : wm p (g + 1) (some first) v out = out := by
      simp only [wm,hx,if_neg (fun h : x.kind = 5 /\ out.length <= 400 => h5 h.1),if_pos (show x.kind = 1 \/ x.kind = 5 from .inl h1)]
     rw [e]
     simp (disch := first | omega | (simp only [lnA,lnC,lnN,lnM,yO,wY]; omega)) only [↓xJ,↓xP,↓ye,↓xu,↓xz,xz,↓xX,yJ,yE,yG,Bool.and_true,lnM,wY,↓xW hx]
    ·have e : wm p (g + 1) (some first) v out = wm p g none v (out ++ [32,46,32]) := by
      simp only [wm,hx,if_neg (fun h : x.kind = 5 /\ out.length <= 400 => h5 h.1),if_neg (fun h : x.kind = 1 \/ x.kind = 5 => h.elim h1 h5)]
     have t1 : V 150 [wO p out,.str (mk [32,46,32])] = some (.tup [],[wO p (out ++ [32,46,32])]) := Kj p (by simp; omega)
     have h2 : V 87 [wO p (out ++ [32,46,32]),iN (v : Int)] = some (.tup [],[wO p (wm p g none v (out ++ [32,46,32]))]) := by
      cases g with
      | zero => omega
      | succ g =>
      by_cases hf : (out ++ [32,46,32]).length > 400
      ·rw [OZ hx hf]; simp only [wm,if_pos hf]
      ·rw [OX hp hx h5 h1 (by omega)]
       simp only [wm,if_neg hf,hx,if_neg (fun h : x.kind = 5 \/ x.kind = 1 => h.elim h5 h1)]
     rw [e]
     simp (disch := first | omega | (simp only [lnA,lnC,lnN,lnM,yO,wY]; omega)) only [↓wZ,xi,↓yk,↓xJ,↓xP,↓yo,↓yb,↓ye,↓yg,↓yh,↓xu,↓xw,↓yf,↓xz,xz,↓xX,yJ,yE,yH,Bool.and_true,lnM,wY,↓xW hx,lit,t1,h2]

theorem Dw {p : List Nd} (hf : z4 p) (hl : p.length < 4611686018427387904) (v : Int) : V 29 [eP p,iN v] = some (.str (mk (Ee p v)),[]) := by
 rw [Rc]
 unfold Ee
 cases hp : yR p with
 | false => rw [if_neg (by simp)]; simp (disch := first | omega | (simp only [lnA,lnC,lnN,lnM,yO,wY]; omega)) only [↓wZ,xi,↓yk,↓yo,↓xI,Bool.not_false,AI hf hl,hp,lit]
 | true =>
  cases hv : wi v 0 ((p.length : Int) - 1) with
  | false => rw [if_neg (by simp)]; simp (disch := first | omega | (simp only [lnA,lnC,lnN,lnM,yO,wY]; omega)) only [↓wZ,xi,↓yk,↓xJ,↓yo,↓xI,Bool.not_true,Bool.not_false,AI hf hl,hp,Iy hl v,hv,lit]
  | true =>
   have h := wi_iff.1 hv
   obtain ⟨n,rfl⟩ := Int.eq_ofNat_of_zero_le h.1
   obtain ⟨x,hx⟩ := xx (l := p) (i := n) (by omega)
   rw [if_pos ⟨rfl,rfl⟩,Int.toNat_natCast]
   by_cases h1 : x.kind = 1
   ·have e : wr p (2 * n + 1) false n [] = [40,41] := by simp [wr,hx,h1,AF]
    rw [e,if_neg (by simp)]
    simp (disch := first | omega | (simp only [lnA,lnC,lnN,lnM,yO,wY]; omega)) only [↓wZ,xi,↓yk,↓xJ,↓xP,↓yo,↓ye,↓xI,↓xu,↓xz,xz,yJ,yF,Bool.and_true,Bool.not_true,lnM,wY,AI hf hl,hp,Iy hl,hv,↓xW hx,lit]
   ·have hw : V 87 [.op [.rs (5,0) (p.map eN),.os (1,0) []],iN (n : Int)] = some (.tup [],[wO p (wm p (2 * n + 3) none n [])]) := (Mu hp (2 * n + 3)).1 n [] (by omega) (Nat.le_refl _) (by simp)
    have ha := (NA hp (2 * n + 3)).1 (2 * n + 1) n [] (by omega) (by omega) (by omega)
    by_cases hc : (wm p (2 * n + 3) none n []).length > 400
    ·have hc2 : (wr p (2 * n + 1) false n []).length > 400 := by
      rcases ha with ha | ⟨_,ha⟩
      ·rw [<- ha]; exact hc
      ·exact ha
     rw [if_pos hc2]
     simp (disch := first | omega | (simp only [lnA,lnC,lnN,lnM,yO,wY]; omega)) only [↓wZ,xi,↓yk,↓xJ,↓xP,↓yo,↓yb,↓ye,↓xI,↓yg,↓yh,↓xu,↓xw,↓yf,↓xz,xz,yJ,yE,Bool.and_true,Bool.not_true,lnM,wY,AI hf hl,hp,Iy hl,hv,↓xW hx,lit,hw,Aj]
    ·have ha2 : wm p (2 * n + 3) none n [] = wr p (2 * n + 1) false n [] := by
      rcases ha with ha | ⟨h,_⟩
      ·exact ha
      ·exact absurd h hc
     rw [<- ha2,if_neg hc]
     simp (disch := first | omega | (simp only [lnA,lnC,lnN,lnM,yO,wY]; omega)) only [↓wZ,xi,↓xJ,↓xP,↓yo,↓yb,↓ye,↓xI,↓yg,↓yh,↓xu,↓xw,↓yf,↓xz,xz,yJ,yI,yE,Bool.and_true,Bool.not_true,lnM,wY,AI hf hl,hp,Iy hl,hv,↓xW hx,hw,Aj,↓TP]
end Go.Eng
/-! code and machines: when they are right,on both sides -/
namespace Go.Eng
noncomputable section
open Go.Proofs Go.Proofs.Tryz
set_option maxHeartbeats 4000000

structure In where
 op : Int
 n : Int
 i : Int
 s : ByteArray
structure Df where
 name : ByteArray
 at' : Int
 args : Int
structure Cd where
 pool : List Nd
 list : List In
 defs : List Df
abbrev eIn (x : In) : D := .agg [iN x.op,iN x.n,iN x.i,.str x.s]
abbrev eDf (x : Df) : D := .agg [.str x.name,iN x.at',iN x.args]
abbrev eCd (c : Cd) : D := .agg [.rs (5,0) (c.pool.map eN),.rs (4,0) (c.list.map eIn),.rs (3,0) (c.defs.map eDf)]
abbrev oCd (c : Cd) : D := .agg [.os (5,0) (c.pool.map eN),.os (4,0) (c.list.map eIn),.os (3,0) (c.defs.map eDf)]
structure FitsC (c : Cd) : Prop where
 pool : z4 c.pool
 plen : c.pool.length < 4611686018427387904
 list : ∀ x ∈ c.list,x.s.size < 4611686018427387904
 llen : c.list.length < 4611686018427387904
 defs : ∀ x ∈ c.defs,x.name.size < 4611686018427387904
 dlen : c.defs.length < 4611686018427387904
section
variable {R : Type}
theorem XO (x : In) (K : Int -> Int -> Int -> ByteArray -> Option R) : WH (eIn x) (fun n4 n7 n10 s13 => (K n4 n7 n10 s13)) = K x.op x.n x.i x.s := rfl
end
def Dn (c : Cd) (s : ByteArray) : Int := ya (fun d : Df => kc d.name s) c.defs
theorem Jn {l : List Df} (hl : l.length < 4611686018427387904) (s : ByteArray) (p q : List D) : ∀ (k i : Nat),i + k = l.length -> CG s (i : Int) p q (l.map eDf) = some (iN (dQ (fun d : Df => kc d.name s) l i),[])
 | 0,i,hi => by
  rw [FG,w8 (by omega)]
  simp (disch := first | omega | (simp only [lnA,lnC,lnN,lnM,yO,wY]; omega)) only [↓xJ,yI,lnM,wY]
 | k + 1,i,hi => by
  obtain ⟨x,hx⟩ := xx (l := l) (i := i) (by omega)
  have ih := Jn hl s p q k (i + 1) (by omega)
  have hw : w6 ((i : Int) + 1) = ((i + 1 : Nat) : Int) := yM (by omega)
  rw [FG]
  cases h : kc x.name s with
  | true => rw [w9 hx h]; simp (disch := first | omega | (simp only [lnA,lnC,lnN,lnM,yO,wY]; omega)) only [↓yk,↓xP,↓yi,↓xu,↓xz,xz,↓xX,yJ,Bool.and_true,lnM,wY,↓xW hx,h]
  | false => rw [wJ hx h,<- ih]; simp (disch := first | omega | (simp only [lnA,lnC,lnN,lnM,yO,wY]; omega)) only [↓yk,↓xJ,↓xP,↓yi,↓xu,↓xz,xz,↓xX,yJ,Bool.and_true,lnM,wY,↓xW hx,h,hw]
theorem DB {c : Cd} (hf : FitsC c) (s : ByteArray) : V 129 [eCd c,.str s] = some (iN (Dn c s),[]) := by
 have h := Jn hf.dlen s (c.pool.map eN) (c.list.map eIn) c.defs.length 0 (Nat.zero_add _)
 rw [wK,Int.natCast_zero] at h
 rw [Rh]
 exact h

def Ja (c : Cd) (x : In) (k : Int) : Bool :=
 if x.op = 1 then wi x.n 0 ((c.pool.length : Int) - 1) && (x.i == 0 && nz x.s)
 else if x.op = 2 then wi x.n 0 20 && (wi x.i 0 3 && nz x.s)
 else if x.op = 3 then x.n == 0 && (x.i == 0 && GZ x.s)
 else if x.op = 4 \/ x.op = 5 then wi x.n (k + 1) (c.list.length : Int) && (x.i == 0 && nz x.s)
 else if x.op = 6 then wi x.n (k + 1) ((c.list.length : Int) - 1) && (wi x.i 0 4 && nz x.s)
 else if x.op = 7 then x.n == 0 && (wi x.i 0 4 && nz x.s)
 else if x.op = 8 \/ x.op = 9 then x.n == 0 && (x.i == 0 && nz x.s)
 else false
theorem XJ (n k h : Int) : wi n (k + 1) h = (decide (n > k) && decide (n <= h)) := by
 unfold wi
 congr 1
theorem Ya (n k h : Int) : wi n (k + 1) (h - 1) = (decide (n > k) && decide (n < h)) := by
 unfold wi
 congr 1
 exact decide_eq_decide.2 (by omega)
theorem VN {c : Cd} (hf : FitsC c) {k : Nat} {x : In} (hx : c.list[k]? = some x) : V 127 [eCd c,iN (k : Int)] = some (.bool (Ja c x k),[]) := by
 have hk := aQ hx
 have hl := hf.llen
 have hp := hf.plen
 have hs := hf.list x (List.mem_of_getElem? hx)
 have hself : kc x.s x.s = true := by rw [BH]; simp
 rw [NQ]
 unfold Ja
 have hnm := CQ hs
 have hnode := Dz hp x.n
 by_cases h1 : x.op = 1
 ·rw [if_pos h1]; simp (disch := first | omega | (simp only [lnA,lnC,lnN,lnM,yO,wY]; omega)) only [↓wZ,xi,↓yk,↓xP,↓yo,↓yb,↓ye,↓xI,↓yi,↓xu,↓xX,yJ,yF,Bool.true_and,Bool.and_true,lnM,wY,↓xW hx,hnode]; simp only [zx]
  show some (D.bool (_ && nz x.s && _),_) = _
  cases wi x.n 0 ((c.pool.length : Int) - 1) <;> cases x.i == 0 <;> cases nz x.s <;> rfl
 rw [if_neg h1]
 by_cases h2 : x.op = 2
 ·rw [if_pos h2]; simp (disch := first | omega | (simp only [lnA,lnC,lnN,lnM,yO,wY]; omega)) only [↓wZ,xi,↓yk,↓xJ,↓xP,↓yo,↓yb,↓ye,↓xI,↓yi,↓xu,↓xX,yJ,yF,yE,Bool.and_true,lnM,wY,↓xW hx,zX]; simp only [zx]
  show some (D.bool (nz x.s && _),_) = _
  cases wi x.n 0 20 <;> cases wi x.i 0 3 <;> cases nz x.s <;> rfl
 rw [if_neg h2]
 by_cases h3 : x.op = 3
 ·rw [if_pos h3]; simp (disch := first | omega | (simp only [lnA,lnC,lnN,lnM,yO,wY]; omega)) only [↓wZ,xi,↓yk,↓xJ,↓xP,↓yo,↓yb,↓ye,↓xI,↓yi,↓xu,↓xX,yJ,yF,yE,Bool.true_and,Bool.and_true,lnM,wY,↓xW hx,hnm,hself]; simp only [zx]
  cases x.n == 0 <;> cases x.i == 0 <;> cases GZ x.s <;> rfl
 rw [if_neg h3]
 by_cases h4 : x.op = 4
 ·rw [if_pos (.inl h4),XJ]; simp (disch := first | omega | (simp only [lnA,lnC,lnN,lnM,yO,wY]; omega)) only [↓yk,↓xJ,↓xP,↓yo,↓yb,↓ye,↓yi,↓xu,↓xX,yJ,yF,yE,Bool.true_and,Bool.and_true,lnM,wY,↓xW hx]; simp only [zx]
  show some (D.bool (_ && nz x.s && _),_) = _
  cases decide (x.n > (k : Int)) <;> cases decide (x.n <= (c.list.length : Int)) <;> cases x.i == 0 <;> cases nz x.s <;> rfl
 by_cases h5 : x.op = 5
 ·rw [if_pos (.inr h5),XJ]; simp (disch := first | omega | (simp only [lnA,lnC,lnN,lnM,yO,wY]; omega)) only [↓yk,↓xJ,↓xP,↓yo,↓yb,↓ye,↓yi,↓xu,↓xX,yJ,yF,yE,Bool.true_and,Bool.and_true,lnM,wY,↓xW hx]; simp only [zx]
  show some (D.bool (_ && nz x.s && _),_) = _
  cases decide (x.n > (k : Int)) <;> cases decide (x.n <= (c.list.length : Int)) <;> cases x.i == 0 <;> cases nz x.s <;> rfl
 rw [if_neg (by omega)]
 by_cases h6 : x.op = 6
 ·rw [if_pos h6,Ya]; simp (disch := first | omega | (simp only [lnA,lnC,lnN,lnM,yO,wY]; omega)) only [↓wZ,xi,↓yk,↓xJ,↓xP,↓yo,↓yb,↓ye,↓xI,↓yi,↓xu,↓xX,yJ,yF,yE,Bool.and_true,lnM,wY,↓xW hx,zX]; simp only [zx]
  show some (D.bool (nz x.s && _),_) = _
  cases decide (x.n > (k : Int)) <;> cases decide (x.n < (c.list.length : Int)) <;> cases wi x.i 0 4 <;> cases nz x.s <;> rfl
 rw [if_neg h6]
 by_cases h7 : x.op = 7
 ·rw [if_pos h7]; simp (disch := first | omega | (simp only [lnA,lnC,lnN,lnM,yO,wY]; omega)) only [↓wZ,xi,↓yk,↓xJ,↓xP,↓yo,↓yb,↓ye,↓xI,↓yi,↓xu,↓xX,yJ,yF,yE,Bool.true_and,Bool.and_true,lnM,wY,↓xW hx,zX]; simp only [zx]
  show some (D.bool (_ && nz x.s && _),_) = _
  cases x.n == 0 <;> cases wi x.i 0 4 <;> cases nz x.s <;> rfl
 rw [if_neg h7]
 by_cases h8 : x.op = 8
 ·rw [if_pos (.inl h8)]; simp (disch := first | omega | (simp only [lnA,lnC,lnN,lnM,yO,wY]; omega)) only [↓yk,↓xJ,↓xP,↓yo,↓yb,↓ye,↓yi,↓xu,↓xX,yJ,yF,yE,Bool.true_and,Bool.and_true,lnM,wY,↓xW hx]; rfl
 by_cases h9 : x.op = 9
 ·rw [if_pos (.inr h9)]; simp (disch := first | omega | (simp only [lnA,lnC,lnN,lnM,yO,wY]; omega)) only [↓yk,↓xJ,↓xP,↓yo,↓yb,↓ye,↓yi,↓xu,↓xX,yJ,yF,yE,Bool.true_and,Bool.and_true,lnM,wY,↓xW hx]; rfl
 rw [if_neg (by omega)]
 simp (disch := first | omega | (simp only [lnA,lnC,lnN,lnM,yO,wY]; omega)) only [↓xJ,↓xP,↓yo,↓yb,↓ye,↓yi,↓xu,↓xX,yJ,yE,Bool.and_true,lnM,wY,↓xW hx]

def Gb (c : Cd) : Nat -> Nat -> Bool
 | _,0 => true
 | i,k + 1 => (match c.list[i]? with | some x => Ja c x i | none => true) && Gb c (i + 1) k
def Vv (c : Cd) (d : Df) (i : Int) : Bool := GZ d.name && (Dn c d.name == i && (wi d.at' 0 ((c.list.length : Int) - 1) && wi d.args 0 4))
def D0 (c : Cd) : Nat -> Nat -> Bool
 | _,0 => true
 | i,k + 1 => (match c.defs[i]? with | some d => Vv c d i | none => true) && D0 c (i + 1) k
def zG (c : Cd) : Bool := yR c.pool && (decide (c.list.length <= 400) && (decide (c.defs.length <= 20) && (Gb c 0 c.list.length && D0 c 0 c.defs.length)))
theorem Il {c : Cd} (hf : FitsC c) : ∀ (k i : Nat),i + k = c.defs.length -> B9 (i : Int) (c.pool.map eN) (c.list.map eIn) (c.defs.map eDf) = some (.bool (D0 c i k),[])
 | 0,i,hi => by
  have hd := hf.dlen
  rw [Ew]
  simp (disch := first | omega | (simp only [lnA,lnC,lnN,lnM,yO,wY]; omega)) only [↓xJ,yI,lnM,wY]
  rfl
 | k + 1,i,hi => by
  have hd := hf.dlen
  have hll := hf.llen
  obtain ⟨x,hx⟩ := xx (l := c.defs) (i := i) (by omega)
  have ih := Il hf k (i + 1) (by omega)
  have hw : w6 ((i : Int) + 1) = ((i + 1 : Nat) : Int) := yM (by omega)
  have hdf := DB hf x.name
  have hnm := CQ (hf.defs x (List.mem_of_getElem? hx))
  rw [Ew]
  simp only [D0,hx,Vv]
  cases e1 : GZ x.name with
  | false => rw [e1] at hnm; simp (disch := first | omega | (simp only [lnA,lnC,lnN,lnM,yO,wY]; omega)) only [↓wZ,xi,↓yk,↓xP,↓yo,↓yb,↓ye,↓xI,↓yi,↓xu,↓xX,yJ,Bool.and_true,Bool.false_and,Bool.not_false,lnM,wY,↓xW hx,hnm]
  | true =>
   rw [e1] at hnm
   by_cases e2 : Dn c x.name = (i : Int)
   ·rw [e2] at hdf
    simp (disch := first | omega | (simp only [lnA,lnC,lnN,lnM,yO,wY]; omega)) only [↓wZ,xi,↓yk,↓xJ,↓xP,↓yo,↓yb,↓ye,↓xI,↓yi,↓xu,↓xX,yJ,yF,yG,Bool.true_and,Bool.and_true,Bool.not_true,lnM,wS,wY,↓xW hx,hnm,hdf,e2,zX,hw,ih]
    cases wi x.at' 0 ((c.list.length : Int) - 1) <;> cases wi x.args 0 4 <;> rfl
   ·simp (disch := first | omega | (simp only [lnA,lnC,lnN,lnM,yO,wY]; omega)) only [↓wZ,xi,↓yk,↓xJ,↓xP,↓yo,↓yb,↓ye,↓xI,↓yi,↓xu,↓xX,yJ,yE,yH,Bool.and_true,Bool.false_and,Bool.and_false,Bool.not_true,lnM,wY,↓xW hx,hnm,hdf]
theorem Jo {c : Cd} (hf : FitsC c) : ∀ (k i : Nat),i + k = c.list.length -> BZ (i : Int) (c.pool.map eN) (c.list.map eIn) (c.defs.map eDf) = some (.bool (Gb c i k && D0 c 0 c.defs.length),[])
 | 0,i,hi => by
  have hll := hf.llen
  have h := Il hf c.defs.length 0 (Nat.zero_add _)
  rw [Int.natCast_zero] at h
  rw [Eu]
  simp (disch := first | omega | (simp only [lnA,lnC,lnN,lnM,yO,wY]; omega)) only [↓xJ,yI,lnM,wY,h]
  rfl
 | k + 1,i,hi => by
  have hll := hf.llen
  obtain ⟨x,hx⟩ := xx (l := c.list) (i := i) (by omega)
  have ih := Jo hf k (i + 1) (by omega)
  have hw : w6 ((i : Int) + 1) = ((i + 1 : Nat) : Int) := yM (by omega)
  have hi := VN hf hx
  rw [Eu]
  simp only [Gb,hx]
  cases e1 : Ja c x i with
  | false => rw [e1] at hi; simp (disch := first | omega | (simp only [lnA,lnC,lnN,lnM,yO,wY]; omega)) only [↓wZ,xi,↓yk,↓yo,↓xI,yJ,Bool.false_and,Bool.not_false,lnM,wY,hi]
  | true => rw [e1] at hi; simp (disch := first | omega | (simp only [lnA,lnC,lnN,lnM,yO,wY]; omega)) only [↓wZ,xi,↓yk,↓xJ,↓yo,↓xI,yJ,Bool.true_and,Bool.not_true,lnM,wY,hi,hw,ih]
theorem CN {c : Cd} (hf : FitsC c) : V 59 [eCd c] = some (.bool (zG c),[]) := by
 have hp := zQ hf.pool hf.plen
 have h := Jo hf c.list.length 0 (Nat.zero_add _)
 rw [Int.natCast_zero] at h
 rw [PN]
 unfold zG
 cases e1 : yR c.pool with
 | false => rw [e1] at hp; simp (disch := first | omega | (simp only [lnA,lnC,lnN,lnM,yO,wY]; omega)) only [↓wZ,xi,↓yk,↓yo,↓xI,Bool.false_and,Bool.not_false,hp]
 | true =>
  rw [e1] at hp
  by_cases e2 : c.list.length <= 400
  ·by_cases e3 : c.defs.length <= 20
   ·simp (disch := first | omega | (simp only [lnA,lnC,lnN,lnM,yO,wY]; omega)) only [↓wZ,xi,↓xJ,↓yo,↓xI,yJ,yI,Bool.true_and,Bool.not_true,lnM,wY,hp,h]
   ·simp (disch := first | omega | (simp only [lnA,lnC,lnN,lnM,yO,wY]; omega)) only [↓wZ,xi,↓yk,↓xJ,↓yo,↓xI,yJ,yI,Bool.false_and,Bool.and_false,Bool.not_true,lnM,wY,hp]
  ·simp (disch := first | omega | (simp only [lnA,lnC,lnN,lnM,yO,wY]; omega)) only [↓wZ,xi,↓yk,↓xJ,↓yo,↓xI,yJ,yI,Bool.false_and,Bool.and_false,Bool.not_true,lnM,wY,hp]

structure Mc where
 pool : List Nd
 at' : Int
 s : Int
 e : Int
 d : Int
 state : Int
 ask : Int
 arg : Int
abbrev eMc (m : Mc) : D := .agg [.rs (5,0) (m.pool.map eN),iN m.at',iN m.s,iN m.e,iN m.d,iN m.state,iN m.ask,iN m.arg]
abbrev oMc (m : Mc) : D := .agg [.os (5,0) (m.pool.map eN),iN m.at',iN m.s,iN m.e,iN m.d,iN m.state,iN m.ask,iN m.arg]
def Lu (p : List Nd) (v : Int) : Bool := wi v 0 ((p.length : Int) - 1)
def J6 (c : Cd) (m : Mc) : Bool :=
 if m.state = 0 then wi m.at' 0 ((c.list.length : Int) - 1) && (m.ask == 0 && m.arg == 0)
 else if m.state = 1 then wi m.at' 0 ((c.list.length : Int) - 1) && (wi m.ask 13 19 && ((m.ask != 18) && Lu m.pool m.arg))
 else if m.state = 2 then m.at' == 0 && (m.ask == 0 && Lu m.pool m.arg)
 else if m.state = 3 then m.at' == 0 && (wi m.ask 1 7 && m.arg == 0)
 else false
def GJ (c : Cd) (m : Mc) : Bool := zG c && (yR m.pool && (Lu m.pool m.s && (Lu m.pool m.e && (Lu m.pool m.d && J6 c m))))
theorem Gf {c : Cd} (hf : FitsC c) {m : Mc} (hm : z4 m.pool) (hl : m.pool.length < 4611686018427387904) : V 15 [eCd c,eMc m] = some (.bool (GJ c m),[]) := by
 have hll := hf.llen
 have hc := CN hf
 have hp := zQ hm hl
 have h1 := Dz hl m.s
 have h2 := Dz hl m.e
 have h3 := Dz hl m.d
 have h4 := Dz hl m.arg
 rw [Lp]
 unfold GJ Lu
 cases e1 : zG c with
 | false => rw [e1] at hc; simp (disch := first | omega | (simp only [lnA,lnC,lnN,lnM,yO,wY]; omega)) only [↓wZ,xi,↓yk,↓yo,↓xI,Bool.false_and,Bool.not_false,hc]
 | true =>
 rw [e1] at hc
 cases e2 : yR m.pool with
 | false => rw [e2] at hp; simp (disch := first | omega | (simp only [lnA,lnC,lnN,lnM,yO,wY]; omega)) only [↓wZ,xi,↓yk,↓xJ,↓yo,↓xI,Bool.false_and,Bool.and_false,Bool.not_true,Bool.not_false,hc,hp]
 | true =>
 rw [e2] at hp
 cases e3 : wi m.s 0 ((m.pool.length : Int) - 1) with
 | false => rw [e3] at h1; simp (disch := first | omega | (simp only [lnA,lnC,lnN,lnM,yO,wY]; omega)) only [↓wZ,xi,↓yk,↓xJ,↓yo,↓xI,Bool.false_and,Bool.and_false,Bool.not_true,Bool.not_false,hc,hp,h1]
 | true =>
 rw [e3] at h1
 cases e4 : wi m.e 0 ((m.pool.length : Int) - 1) with
 | false => rw [e4] at h2; simp (disch := first | omega | (simp only [lnA,lnC,lnN,lnM,yO,wY]; omega)) only [↓wZ,xi,↓yk,↓xJ,↓yo,↓xI,Bool.false_and,Bool.and_false,Bool.not_true,Bool.not_false,hc,hp,h1,h2]
 | true =>
 rw [e4] at h2
 cases e5 : wi m.d 0 ((m.pool.length : Int) - 1) with
 | false => rw [e5] at h3; simp (disch := first | omega | (simp only [lnA,lnC,lnN,lnM,yO,wY]; omega)) only [↓wZ,xi,↓yk,↓xJ,↓yo,↓xI,Bool.false_and,Bool.and_false,Bool.not_true,Bool.not_false,hc,hp,h1,h2,h3]
 | true =>
 rw [e5] at h3
 unfold J6 Lu
 by_cases s0 : m.state = 0
 ·rw [if_pos s0]; simp (disch := first | omega | (simp only [lnA,lnC,lnN,lnM,yO,wY]; omega)) only [↓wZ,xi,↓yk,↓xJ,↓yo,↓xI,yF,Bool.true_and,Bool.not_true,lnM,wS,wY,hc,hp,h1,h2,h3,zX]; simp only [zx]
 rw [if_neg s0]
 by_cases s1 : m.state = 1
 ·rw [if_pos s1]; simp (disch := first | omega | (simp only [lnA,lnC,lnN,lnM,yO,wY]; omega)) only [↓wZ,xi,↓yk,↓xJ,↓yo,↓xI,yF,yE,Bool.true_and,Bool.not_true,lnM,wS,wY,hc,hp,h1,h2,h3,h4,zX]; simp only [zx]
 rw [if_neg s1]
 by_cases s2 : m.state = 2
 ·rw [if_pos s2]; simp (disch := first | omega | (simp only [lnA,lnC,lnN,lnM,yO,wY]; omega)) only [↓wZ,xi,↓yk,↓xJ,↓yo,↓xI,yF,yE,Bool.true_and,Bool.not_true,lnM,wS,wY,hc,hp,h1,h2,h3,h4,zX]; simp only [zx]
 rw [if_neg s2]
 by_cases s3 : m.state = 3
 ·rw [if_pos s3]; simp (disch := first | omega | (simp only [lnA,lnC,lnN,lnM,yO,wY]; omega)) only [↓wZ,xi,↓yk,↓xJ,↓yo,↓xI,yF,yE,Bool.true_and,Bool.not_true,lnM,wS,wY,hc,hp,h1,h2,h3,zX]; simp only [zx]
 rw [if_neg s3]
 simp (disch := first | omega | (simp only [lnA,lnC,lnN,lnM,yO,wY]; omega)) only [↓wZ,xi,↓xJ,↓yo,↓xI,yE,Bool.and_false,Bool.not_true,lnM,wS,wY,hc,hp,h1,h2,h3,zX]
end
end Go.Eng
/-! numbers and texts as bytes,on both sides -/
namespace Go.Eng
open Go.Proofs Go.Proofs.Tryz

end Go.Eng
/-! how great a value is,the program's side -/
namespace Go.Eng
noncomputable section
open Go.Proofs Go.Proofs.Tryz

def QJ (pre : List Int) (x : Nd) : Int :=
 if x.kind = 5 then mnI (1 + (pre.getD x.a.toNat 0 + pre.getD x.b.toNat 0)) 1000000000
 else if x.kind = 6 \/ x.kind = 7 then mnI (1 + pre.getD x.a.toNat 0) 1000000000 else mnI 1 1000000000
def KO (p : List Nd) : Nat -> List Int -> List Int
 | 0,pre => pre
 | k + 1,pre => match p[pre.length]? with
  | some x => KO p k (pre ++ [QJ pre x])
  | none => KO p k (pre ++ [0])
def SA (p : List Nd) (v : Int) : Int := if yR p = true /\ wi v 0 ((p.length : Int) - 1) = true then (KO p p.length []).getD v.toNat 0 else 0
end
end Go.Eng
/-! what is moved is as it was: the plain side -/
namespace Go.Eng

noncomputable def y3 (p : List Nd) : Prop := ∀ (j : Nat) (x : Nd),p[j]? = some x -> okN x j = true
theorem Pd {p : List Nd} (h : y3 p) : ∀ (k i : Nat),Fx p i k = true
 | 0,i => rfl
 | k + 1,i => by
  simp only [Fx,Pd h k (i + 1),Bool.and_true]
  split
  ·exact h _ _ ‹_›
  ·rfl
theorem okPool_iff {p : List Nd} : yR p = true ↔ y3 p /\ p.length <= 3000 := by
 constructor
 ·intro h; exact ⟨fun j x hx => zp h hx,za h⟩
 ·rintro ⟨h,hl⟩
  simp only [yR,Pd h,Bool.true_and,decide_eq_true_eq]; omega
noncomputable def LH (q q' : List Nd) (m : List Bool) (to : List Int) : Prop := ∀ (i : Nat) (x : Nd),q[i]? = some x -> m[i]? = some true -> ∃ j : Nat,to[i]? = some (j : Int) /\ q'[j]? = some (yX to x)
theorem MI {pre r : List Int} {x : Nd} {i : Nat} (ho : okN x i = true) (hp : i <= pre.length) : yX (pre ++ r) x = yX pre x := by
 have g : ∀ n : Int,0 <= n -> n < i -> (pre ++ r).getD n.toNat 0 = pre.getD n.toNat 0 := by
  intro n h0 h1
  simp only [List.getD_eq_getElem?_getD]
  rw [List.getElem?_append_left (by omega)]
 unfold yX
 split
 ·rename_i h5
  have := zn ho h5
  rw [g _ (by omega) (by omega),g _ (by omega) (by omega)]
 ·split
  ·rename_i h6
   have := z3 ho h6
   rw [g _ (by omega) (by omega)]
  ·rfl
theorem Vo {pre : List Int} {x : Nd} {i h : Nat} (ho : okN x i = true) (h5 : x.kind = 5 -> ∃ a b : Nat,pre[x.a.toNat]? = some (a : Int) /\ pre[x.b.toNat]? = some (b : Int) /\ a < h /\ b < h)
  (h6 : x.kind = 6 \/ x.kind = 7 -> ∃ a : Nat,pre[x.a.toNat]? = some (a : Int) /\ a < h) : okN (yX pre x) h = true := by
 by_cases k5 : x.kind = 5
 ·obtain ⟨a,b,ha,hb,h1,h2⟩ := h5 k5
  simp only [yX,k5,if_true,List.getD_eq_getElem?_getD,ha,hb,Option.getD_some]
  simp [okN,k5] at ho ⊢
  exact ⟨ho.1,ho.2.1,wi_iff.2 ⟨by omega,by omega⟩,wi_iff.2 ⟨by omega,by omega⟩⟩
 ·by_cases k6 : x.kind = 6 \/ x.kind = 7
  ·obtain ⟨a,ha,h1⟩ := h6 k6
   simp only [yX,k5,k6,if_true,if_false,List.getD_eq_getElem?_getD,ha,Option.getD_some]
   rcases k6 with k6 | k6
   ·simp [okN,k6] at ho ⊢; exact ⟨ho.1,ho.2.1,wi_iff.2 ⟨by omega,by omega⟩,ho.2.2.2⟩
   ·simp [okN,k6] at ho ⊢; exact ⟨ho.1,ho.2.1,wi_iff.2 ⟨by omega,by omega⟩,ho.2.2.2⟩
  ·have k6' : ¬ x.kind = 6 := fun h => k6 (.inl h)
   have k7' : ¬ x.kind = 7 := fun h => k6 (.inr h)
   simp only [yX,k5,k6,if_false]
   simp only [okN,k5,k6',k7',if_false] at ho ⊢
   exact ho
theorem MG {q : List Nd} (hq : y3 q) {m : List Bool} (hm : m.length = q.length) (hc : Jp q m) (d : Int) : ∀ (k : Nat) (pre : List Int) (acc : List Nd),pre.length + k = q.length -> y3 acc ->
  (∀ (i : Nat) (x : Nd),i < pre.length -> q[i]? = some x -> m[i]? = some true -> ∃ j : Nat,pre[i]? = some (j : Int) /\ acc[j]? = some (yX pre x)) ->
  y3 (Ai d q m k pre acc).2 /\ LH q (Ai d q m k pre acc).2 m (Ai d q m k pre acc).1
 | 0,pre,acc,hk,ha,hi => by
  simp only [Ai]
  exact ⟨ha,fun i x hx hmi => hi i x (by have := aQ hx; omega) hx hmi⟩
 | k + 1,pre,acc,hk,ha,hi => by
  obtain ⟨x,hx⟩ := xx (l := q) (i := pre.length) (by omega)
  obtain ⟨b,hb⟩ := xx (l := m) (i := pre.length) (by omega)
  simp only [Ai,hx,hb]
  have hox := hq _ _ hx
  have old : ∀ (u : Int) (acc' : List Nd),(∀ (j : Nat) (y : Nd),acc[j]? = some y -> acc'[j]? = some y) -> ∀ (i : Nat) (y : Nd),i < pre.length -> q[i]? = some y -> m[i]? = some true -> ∃ j : Nat,(pre ++ [u])[i]? = some (j : Int) /\ acc'[j]? = some (yX (pre ++ [u]) y) := by
   intro u acc' hacc i y hil hy hmi
   obtain ⟨j,h1,h2⟩ := hi i y hil hy hmi
   refine ⟨j,by rw [List.getElem?_append_left hil]; exact h1,?_⟩
   rw [MI (hq _ _ hy) (by omega)]
   exact hacc _ _ h2
  cases b with
  | false =>
   refine MG hq hm hc d k (pre ++ [d]) acc (by simp; omega) ha ?_
   intro i y hil hy hmi
   by_cases e : i = pre.length
   ·subst e; rw [hb] at hmi; cases hmi
   ·exact old d acc (fun _ _ h => h) i y (by simp at hil; omega) hy hmi
  | true =>
   have hcx := hc _ _ hx hb
   have kid : ∀ n : Int,On m n -> 0 <= n -> n < pre.length -> ∃ a : Nat,pre[n.toNat]? = some (a : Int) /\ a < acc.length := by
    intro n hn h0 h1
    obtain ⟨y,hy⟩ := xx (l := q) (i := n.toNat) (by omega)
    obtain ⟨j,h2,h3⟩ := hi n.toNat y (by omega) hy hn
    exact ⟨j,h2,aQ h3⟩
   have hok : okN (yX pre x) acc.length = true := Vo hox
    (fun h5 => by
     have h := zn hox h5
     obtain ⟨a,ha1,ha2⟩ := kid x.a (hcx.1 h5).1 h.1 h.2.1
     obtain ⟨b,hb1,hb2⟩ := kid x.b (hcx.1 h5).2 h.2.2.1 h.2.2.2
     exact ⟨a,b,ha1,hb1,ha2,hb2⟩)
    (fun h6 => by
     have h := z3 hox h6
     exact kid x.a (hcx.2 h6) h.1 h.2)
   have ha' : y3 (acc ++ [yX pre x]) := by
    intro j y hy
    by_cases e : j < acc.length
    ·rw [List.getElem?_append_left e] at hy; exact ha j y hy
    ·have hl := aQ hy
     have : j = acc.length := by simp at hl; omega
     subst this
     simp at hy; subst hy; exact hok
   refine MG hq hm hc d k (pre ++ [(acc.length : Int)]) (acc ++ [yX pre x]) (by simp; omega) ha' ?_
   intro i y hil hy hmi
   by_cases e : i = pre.length
   ·subst e; rw [hx] at hy; cases hy
    refine ⟨acc.length,by simp,?_⟩
    rw [MI hox (Nat.le_refl _)]; simp
   ·exact old _ _ (fun j z h => by rw [List.getElem?_append_left (aQ h)]; exact h) i y (by simp at hil; omega) hy hmi
theorem MH (d : Int) (q : List Nd) (m : List Bool) : ∀ (k : Nat) (pre : List Int) (acc : List Nd),∃ r,(Ai d q m k pre acc).2 = acc ++ r
 | 0,pre,acc => ⟨[],by simp [Ai]⟩
 | k + 1,pre,acc => by
  simp only [Ai]
  split
  ·obtain ⟨r,h⟩ := MH d q m k (pre ++ [(acc.length : Int)]) (acc ++ [yX pre ‹Nd›])
   exact ⟨_,by rw [h,List.append_assoc]⟩
  ·exact MH d q m k _ acc
theorem Jy {q acc : List Nd} (hq : yR q = true) (ha : y3 acc) (rs : List Int) (d : Int) : y3 (Ar d q rs acc).2 /\ LH q (Ar d q rs acc).2 (Au q rs) (Ar d q rs acc).1 :=
 MG (okPool_iff.1 hq).1 (AH q rs) (Af hq rs) d q.length [] acc (Nat.zero_add _) ha (fun i x h => absurd h (by simp))

theorem JX (to : List Int) (x : Nd) : (yX to x).kind = x.kind /\ (yX to x).n = x.n /\ (yX to x).s = x.s := by
 unfold yX
 split
 ·exact ⟨rfl,rfl,rfl⟩
 ·split <;> exact ⟨rfl,rfl,rfl⟩
theorem Xk (to : List Int) (x : Nd) : AF (yX to x) = AF x := by
 obtain ⟨h1,h2,h3⟩ := JX to x
 unfold AF; rw [h1,h2,h3]
theorem Gg {q q' : List Nd} (hq : y3 q) (hq' : y3 q') {m : List Bool} (hc : Jp q m) {to : List Int} (hmv : LH q q' m to) : ∀ (g g' : Nat) (c : Bool) (v v' : Nat) (out : List UInt8),
  m[v]? = some true -> to[v]? = some (v' : Int) -> v < q.length -> 2 * v + (if c then 2 else 1) <= g -> 2 * v' + (if c then 2 else 1) <= g' -> wr q g c v out = wr q' g' c v' out
 | 0,g',c,v,v',out,hm,ht,hv,hg,hg' => by split at hg <;> omega
 | g + 1,0,c,v,v',out,hm,ht,hv,hg,hg' => by split at hg' <;> omega
 | g + 1,g' + 1,c,v,v',out,hm,ht,hv,hg,hg' => by
  obtain ⟨x,hx⟩ := xx hv
  obtain ⟨j,h1,h2⟩ := hmv v x hx hm
  rw [ht] at h1
  have hj : v' = j := by injection h1 with h1; exact Int.natCast_inj.1 h1
  subst hj
  obtain ⟨k1,k2,k3⟩ := JX to x
  have kids : x.kind = 5 -> ∃ a' b' : Nat,to[x.a.toNat]? = some (a' : Int) /\ to[x.b.toNat]? = some (b' : Int) /\ (yX to x).a.toNat = a' /\ (yX to x).b.toNat = b' /\ m[x.a.toNat]? = some true /\ m[x.b.toNat]? = some true /\ x.a.toNat < v /\ x.b.toNat < v /\ a' < v' /\ b' < v' := by
   intro h5
   have ho := zn (hq v x hx) h5
   have hcx := hc v x hx hm
   obtain ⟨y,hy⟩ := xx (l := q) (i := x.a.toNat) (by omega)
   obtain ⟨z,hz⟩ := xx (l := q) (i := x.b.toNat) (by omega)
   obtain ⟨a',ha1,ha2⟩ := hmv _ y hy (hcx.1 h5).1
   obtain ⟨b',hb1,hb2⟩ := hmv _ z hz (hcx.1 h5).2
   have e : yX to x = ⟨x.kind,x.n,x.s,a',b'⟩ := by
    simp only [yX,h5,if_true,List.getD_eq_getElem?_getD,ha1,hb1,Option.getD_some]
   have ho' := zn (hq' v' _ h2) (by rw [k1]; exact h5)
   rw [e] at ho'
   simp only at ho'
   refine ⟨a',b',ha1,hb1,by rw [e]; simp,by rw [e]; simp,(hcx.1 h5).1,(hcx.1 h5).2,by omega,by omega,by omega,by omega⟩
  cases c with
  | false =>
   simp only [Bool.false_eq_true,if_false] at hg hg'
   simp only [wr,hx,h2,k1,Xk]
   split
   ·rfl
   ·split
    ·rename_i h5
     obtain ⟨a',b',ta,tb,ea,eb,ma,mb,la,lb,la',lb'⟩ := kids h5
     rw [ea,eb,Gg hq hq' hc hmv g g' false x.a.toNat a' _ ma ta (by omega) (by simp; omega) (by simp; omega),
      Gg hq hq' hc hmv g g' true x.b.toNat b' _ mb tb (by omega) (by simp; omega) (by simp; omega)]
    ·rfl
  | true =>
   simp only [if_true] at hg hg'
   simp only [wr,hx,h2,k1]
   split
   ·rename_i h5
    obtain ⟨a',b',ta,tb,ea,eb,ma,mb,la,lb,la',lb'⟩ := kids h5.1
    rw [ea,eb,Gg hq hq' hc hmv g g' false x.a.toNat a' _ ma ta (by omega) (by simp; omega) (by simp; omega),
     Gg hq hq' hc hmv g g' true x.b.toNat b' _ mb tb (by omega) (by simp; omega) (by simp; omega)]
   ·split
    ·rfl
    ·rw [Gg hq hq' hc hmv g g' false v v' _ hm ht hv (by simp; omega) (by simp; omega)]
theorem SW {q q' : List Nd} (hq : yR q = true) (hq' : yR q' = true) {m : List Bool} (hc : Jp q m) {to : List Int} (hmv : LH q q' m to) {v : Int} (h0 : 0 <= v) (h1 : v < q.length) (hm : On m v) : Ee q' (to.getD v.toNat 0) = Ee q v := by
 obtain ⟨x,hx⟩ := xx (l := q) (i := v.toNat) (by omega)
 obtain ⟨j,h2,h3⟩ := hmv _ x hx hm
 have hj := aQ h3
 have e : to.getD v.toNat 0 = (j : Int) := by rw [List.getD_eq_getElem?_getD,h2]; rfl
 have hw := Gg (okPool_iff.1 hq).1 (okPool_iff.1 hq').1 hc hmv (2 * v.toNat + 1) (2 * j + 1) false v.toNat j [] hm h2 (by omega) (by simp) (by simp)
 have w1 : wi v 0 ((q.length : Int) - 1) = true := wi_iff.2 ⟨h0,by omega⟩
 have w2 : wi (j : Int) 0 ((q'.length : Int) - 1) = true := wi_iff.2 ⟨by omega,by omega⟩
 unfold Ee
 rw [e,if_pos (And.intro hq' w2),if_pos (And.intro hq w1),Int.toNat_natCast,hw]
end Go.Eng
/-! what is kept is all reached,and as great as it was: the plain side -/
namespace Go.Eng

theorem WC {pre r : List Int} {x : Nd} {i : Nat} (ho : okN x i = true) (hp : i <= pre.length) : QJ (pre ++ r) x = QJ pre x := by
 have g : ∀ n : Int,0 <= n -> n < i -> (pre ++ r).getD n.toNat 0 = pre.getD n.toNat 0 := by
  intro n h0 h1
  simp only [List.getD_eq_getElem?_getD]
  rw [List.getElem?_append_left (by omega)]
 unfold QJ
 split
 ·rename_i h5
  have := zn ho h5
  rw [g _ (by omega) (by omega),g _ (by omega) (by omega)]
 ·split
  ·rename_i h6
   have := z3 ho h6
   rw [g _ (by omega) (by omega)]
  ·rfl
theorem Nt {p : List Nd} : ∀ (k : Nat) (pre : List Int),∃ r,KO p k pre = pre ++ r
 | 0,pre => ⟨[],by simp [KO]⟩
 | k + 1,pre => by
  simp only [KO]
  split
  ·obtain ⟨r,h⟩ := Nt (p := p) k (pre ++ [QJ pre ‹Nd›])
   exact ⟨_,by rw [h,List.append_assoc]⟩
  ·obtain ⟨r,h⟩ := Nt (p := p) k (pre ++ [0])
   exact ⟨_,by rw [h,List.append_assoc]⟩
theorem QI {p : List Nd} (hp : y3 p) : ∀ (k : Nat) (pre : List Int),pre.length + k = p.length -> ∀ (i : Nat) (x : Nd),pre.length <= i -> p[i]? = some x -> (KO p k pre)[i]? = some (QJ (KO p k pre) x)
 | 0,pre,hk,i,x,hi,hx => by have := aQ hx; omega
 | k + 1,pre,hk,i,x,hi,hx => by
  obtain ⟨y,hy⟩ := xx (l := p) (i := pre.length) (by omega)
  simp only [KO,hy]
  by_cases e : i = pre.length
  ·subst e
   rw [hx] at hy; cases hy
   obtain ⟨r,h⟩ := Nt (p := p) k (pre ++ [QJ pre x])
   rw [h,List.append_assoc,WC (hp _ _ hx) (Nat.le_refl _)]
   simp
  ·exact QI hp k (pre ++ [QJ pre y]) (by simp; omega) i x (by simp; omega) hx
theorem Lg {q q' : List Nd} (hq : y3 q) (hq' : y3 q') {m : List Bool} (hc : Jp q m) {to : List Int} (hmv : LH q q' m to) : ∀ (n i j : Nat),i < n -> i < q.length -> m[i]? = some true -> to[i]? = some (j : Int) ->
  (KO q q.length []).getD i 0 = (KO q' q'.length []).getD j 0
 | 0,i,j,h,_,_,_ => by omega
 | n + 1,i,j,hn,hi,hm,ht => by
  obtain ⟨x,hx⟩ := xx hi
  obtain ⟨j',h1,h2⟩ := hmv i x hx hm
  rw [ht] at h1
  have hj : j = j' := by injection h1 with h1; exact Int.natCast_inj.1 h1
  subst hj
  have a1 := QI hq q.length [] (Nat.zero_add _) i x (Nat.zero_le _) hx
  have a2 := QI hq' q'.length [] (Nat.zero_add _) j _ (Nat.zero_le _) h2
  obtain ⟨k1,k2,k3⟩ := JX to x
  rw [List.getD_eq_getElem?_getD,List.getD_eq_getElem?_getD,a1,a2]
  have kid : ∀ c : Int,On m c -> 0 <= c -> c < i -> (KO q q.length []).getD c.toNat 0 = (KO q' q'.length []).getD (to.getD c.toNat 0).toNat 0 := by
   intro c hc1 h0 h3
   obtain ⟨y,hy⟩ := xx (l := q) (i := c.toNat) (by omega)
   obtain ⟨jc,e1,e2⟩ := hmv _ y hy hc1
   have := Lg hq hq' hc hmv n c.toNat jc (by omega) (by omega) hc1 e1
   rw [this,List.getD_eq_getElem?_getD (l := to),e1]; rfl
  have hcx := hc i x hx hm
  simp only [Option.getD_some,QJ,k1]
  split
  ·rename_i h5
   have ho := zn (hq i x hx) h5
   rw [kid x.a (hcx.1 h5).1 (by omega) (by omega),kid x.b (hcx.1 h5).2 (by omega) (by omega)]
   simp only [yX,h5,if_true]
  ·rename_i h5
   split
   ·rename_i h6
    have ho := z3 (hq i x hx) h6
    rw [kid x.a (hcx.2 h6) (by omega) (by omega)]
    simp only [yX,h5,h6,if_true,if_false]
   ·rfl
theorem Ue {q q' : List Nd} (hq : yR q = true) (hq' : yR q' = true) {m : List Bool} (hc : Jp q m) {to : List Int} (hmv : LH q q' m to) {v : Int} (h0 : 0 <= v) (h1 : v < q.length) (hm : On m v) : SA q' (to.getD v.toNat 0) = SA q v := by
 obtain ⟨x,hx⟩ := xx (l := q) (i := v.toNat) (by omega)
 obtain ⟨j,h2,h3⟩ := hmv _ x hx hm
 have hj := aQ h3
 have e : to.getD v.toNat 0 = (j : Int) := by rw [List.getD_eq_getElem?_getD,h2]; rfl
 have hw := Lg (okPool_iff.1 hq).1 (okPool_iff.1 hq').1 hc hmv (v.toNat + 1) v.toNat j (by omega) (by omega) hm h2
 have w1 : wi v 0 ((q.length : Int) - 1) = true := wi_iff.2 ⟨h0,by omega⟩
 have w2 : wi (j : Int) 0 ((q'.length : Int) - 1) = true := wi_iff.2 ⟨by omega,by omega⟩
 unfold SA
 rw [e,if_pos (And.intro hq' w2),if_pos (And.intro hq w1),Int.toNat_natCast,hw]

inductive Rch (q : List Nd) (rs : List Int) : Nat -> Prop
 | root {r : Int} : r ∈ rs -> Rch q rs r.toNat
 | a {i : Nat} {x : Nd} : Rch q rs i -> q[i]? = some x -> (x.kind = 5 \/ x.kind = 6 \/ x.kind = 7) -> Rch q rs x.a.toNat
 | b {i : Nat} {x : Nd} : Rch q rs i -> q[i]? = some x -> x.kind = 5 -> Rch q rs x.b.toNat
theorem Ke {m : List Bool} {i j : Nat} (h : (m.set i true)[j]? = some true) : j = i \/ m[j]? = some true := by
 by_cases e : i = j
 ·exact .inl e.symm
 ·rw [List.getElem?_set_ne e] at h; exact .inr h
theorem Jk {q : List Nd} {rs : List Int} : ∀ (k : Nat) {m : List Bool},(∀ j : Nat,m[j]? = some true -> Rch q rs j) -> ∀ j : Nat,(zm q k m)[j]? = some true -> Rch q rs j
 | 0,m,h,j,hj => h j hj
 | k + 1,m,h,j,hj => by
  simp only [zm] at hj
  refine Jk k ?_ j hj
  intro i hi
  split at hi
  ·rename_i x hx hm
   have hk := h k hm
   unfold zo at hi
   split at hi
   ·rename_i h5
    rcases Ke hi with e | hi
    ·rw [e]; exact .b hk hx h5
    ·rcases Ke hi with e | hi
     ·rw [e]; exact .a hk hx (.inl h5)
     ·exact h i hi
   ·split at hi
    ·rename_i h6
     rcases Ke hi with e | hi
     ·rw [e]; exact .a hk hx (.inr h6)
     ·exact h i hi
    ·exact h i hi
  ·exact h i hi
theorem Kc : ∀ {rs : List Int} {m : List Bool} {j : Nat},(Gy rs m)[j]? = some true -> m[j]? = some true \/ ∃ r ∈ rs,r.toNat = j
 | [],m,j,h => .inl h
 | r :: rs,m,j,h => by
  have h' : (Gy rs (m.set r.toNat true))[j]? = some true := h
  rcases Kc h' with h | ⟨s,hs,e⟩
  ·rcases Ke h with e | h
   ·exact .inr ⟨r,by simp,e.symm⟩
   ·exact .inl h
  ·exact .inr ⟨s,by simp [hs],e⟩
theorem Sr {q : List Nd} {rs : List Int} {j : Nat} (h : (Au q rs)[j]? = some true) : Rch q rs j := by
 refine Jk _ ?_ j h
 intro i hi
 rcases Kc hi with h | ⟨r,hr,e⟩
 ·rw [List.getElem?_replicate] at h
  split at h <;> cases h
 ·rw [<- e]; exact .root hr
theorem Ik {q : List Nd} (hq : yR q = true) {rs : List Int} (hr : y1 q rs = true) {j : Nat} (h : Rch q rs j) : (Au q rs)[j]? = some true := by
 induction h with
 | root hm => exact AV hr _ hm
 | a h hx hk ih =>
  have hc := Af hq rs _ _ hx ih
  rcases hk with hk | hk
  ·exact (hc.1 hk).1
  ·exact hc.2 hk
 | b h hx hk ih => exact ((Af hq rs _ _ hx ih).1 hk).2

theorem KJ (d : Int) {q : List Nd} {m : List Bool} (hm : m.length = q.length) : ∀ (k : Nat) (pre : List Int) (acc : List Nd),pre.length + k = q.length ->
  (∀ j : Nat,j < acc.length -> ∃ i : Nat,m[i]? = some true /\ pre[i]? = some (j : Int)) -> ∀ j : Nat,j < (Ai d q m k pre acc).2.length -> ∃ i : Nat,m[i]? = some true /\ (Ai d q m k pre acc).1[i]? = some (j : Int)
 | 0,pre,acc,hk,h,j,hj => h j hj
 | k + 1,pre,acc,hk,h,j,hj => by
  obtain ⟨x,hx⟩ := xx (l := q) (i := pre.length) (by omega)
  obtain ⟨b,hb⟩ := xx (l := m) (i := pre.length) (by omega)
  simp only [Ai,hx,hb] at hj ⊢
  have old : ∀ (u : Int) (j : Nat),j < acc.length -> ∃ i : Nat,m[i]? = some true /\ (pre ++ [u])[i]? = some (j : Int) := by
   intro u j hj
   obtain ⟨i,h1,h2⟩ := h j hj
   exact ⟨i,h1,by rw [List.getElem?_append_left (aQ h2)]; exact h2⟩
  cases b with
  | false => exact KJ d hm k (pre ++ [d]) acc (by simp; omega) (old d) j hj
  | true =>
   refine KJ d hm k (pre ++ [(acc.length : Int)]) (acc ++ [yX pre x]) (by simp; omega) ?_ j hj
   intro i hi
   by_cases e : i < acc.length
   ·exact old _ i e
   ·have : i = acc.length := by simp at hi; omega
    subst this
    exact ⟨pre.length,hb,by simp⟩
theorem Vz {q q' : List Nd} (hq : yR q = true) {rs : List Int} (hr : y1 q rs = true) {to now : List Int} (hmv : LH q q' (Au q rs) to) (hn : ∀ r ∈ rs,to.getD r.toNat 0 ∈ now) {i : Nat} (h : Rch q rs i) : ∀ j : Nat,to[i]? = some (j : Int) -> Rch q' now j := by
 have one : ∀ {i : Nat} {x : Nd},Rch q rs i -> q[i]? = some x -> ∃ j : Nat,to[i]? = some (j : Int) /\ q'[j]? = some (yX to x) := fun h hx => hmv _ _ hx (Ik hq hr h)
 induction h with
 | root hm =>
  rename_i r
  intro j hj
  have e : to.getD r.toNat 0 = (j : Int) := by rw [List.getD_eq_getElem?_getD,hj]; rfl
  have := Rch.root (q := q') (hn r hm)
  rw [e] at this
  exact this
 | a h hx hk ih =>
  rename_i i x
  intro j hj
  obtain ⟨ji,e1,e2⟩ := one h hx
  have h' := ih ji e1
  have ea : (yX to x).a.toNat = j := by
   rcases hk with hk | hk
   ·simp only [yX,hk,if_true,List.getD_eq_getElem?_getD,hj,Option.getD_some,Int.toNat_natCast]
   ·have h5 : ¬ x.kind = 5 := by omega
    simp only [yX,h5,hk,if_true,if_false,List.getD_eq_getElem?_getD,hj,Option.getD_some,Int.toNat_natCast]
  rw [<- ea]
  exact .a h' e2 (by rw [(JX to x).1]; exact hk)
 | b h hx hk ih =>
  rename_i i x
  intro j hj
  obtain ⟨ji,e1,e2⟩ := one h hx
  have h' := ih ji e1
  have ea : (yX to x).b.toNat = j := by
   simp only [yX,hk,if_true,List.getD_eq_getElem?_getD,hj,Option.getD_some,Int.toNat_natCast]
  rw [<- ea]
  exact .b h' e2 (by rw [(JX to x).1]; exact hk)
noncomputable def ids (n : Nat) : List Int := (List.range n).map fun k : Nat => (k : Int)
theorem Pf {n i : Nat} (h : i < n) : (ids (n))[i]? = some (i : Int) := by
 rw [ids,List.getElem?_map,List.getElem?_range h]; rfl
theorem Vl {x : Nd} {i : Nat} (ho : okN x i = true) : yX (ids (i)) x = x := by
 have g : ∀ n : Int,0 <= n -> n < i -> (ids (i)).getD n.toNat 0 = n := by
  intro n h0 h1
  rw [List.getD_eq_getElem?_getD,Pf (by omega)]
  simp; omega
 unfold yX
 split
 ·rename_i h5
  have := zn ho h5
  rw [g _ (by omega) (by omega),g _ (by omega) (by omega)]
 ·split
  ·rename_i h6
   have := z3 ho h6
   rw [g _ (by omega) (by omega)]
  ·rfl
theorem RI (d : Int) {q : List Nd} (hq : y3 q) {m : List Bool} (hm : ∀ j : Nat,j < q.length -> m[j]? = some true) : ∀ (k i : Nat),i + k = q.length ->
  Ai d q m k (ids (i)) (q.take i) = (ids (q.length),q)
 | 0,i,h => by
  have : i = q.length := by omega
  subst this
  simp [Ai]
 | k + 1,i,h => by
  obtain ⟨x,hx⟩ := xx (l := q) (i := i) (by omega)
  have hl : (ids (i)).length = i := by simp [ids]
  have ht : (q.take i).length = i := by simp; omega
  have ih := RI d hq hm k (i + 1) (by omega)
  have es : ids (i + 1) = ids i ++ [(i : Int)] := by simp [ids,List.range_succ]
  rw [es,yn hx] at ih
  simp only [Ai,hl,hx,hm i (by omega),ht,Vl (hq _ _ hx)]
  exact ih
theorem My {q : List Nd} (hq : yR q = true) {rs : List Int} (hr : y1 q rs = true) (d d' : Int) : yR (y5 d q rs).1 = true /\ y1 (y5 d q rs).1 (y5 d q rs).2 = true /\ y5 d' (y5 d q rs).1 (y5 d q rs).2 = y5 d q rs := by
 obtain ⟨h1,h2⟩ := Jy hq (acc := []) (fun j x h => by simp at h) rs d
 have hlen := GX d q (Au q rs) q.length [] []
 have hok : yR (Ar d q rs []).2 = true := okPool_iff.2 ⟨h1,by have := za hq; have := hlen; simp [Ar] at this ⊢; omega⟩
 have hto : ∀ r ∈ rs,∃ j : Nat,(Ar d q rs []).1[r.toNat]? = some (j : Int) /\ j < (Ar d q rs []).2.length := by
  intro r hm
  have hl := CE hr r hm
  obtain ⟨x,hx⟩ := xx (l := q) (i := r.toNat) (by omega)
  obtain ⟨j,e1,e2⟩ := h2 _ x hx (AV hr r hm)
  exact ⟨j,e1,aQ e2⟩
 have hgd : ∀ r ∈ rs,0 <= (Ar d q rs []).1.getD r.toNat 0 /\ (Ar d q rs []).1.getD r.toNat 0 < ((Ar d q rs []).2.length : Int) := by
  intro r hm
  obtain ⟨j,e1,e2⟩ := hto r hm
  rw [List.getD_eq_getElem?_getD,e1]; simp; omega
 have hri : y1 (y5 d q rs).1 (y5 d q rs).2 = true := by
  unfold y1 y5
  rw [List.all_map,List.all_eq_true]
  intro r hm
  have := hgd r hm
  exact wi_iff.2 ⟨this.1,by simp only; omega⟩
 refine ⟨hok,hri,?_⟩
 have hall : ∀ j : Nat,j < (y5 d q rs).1.length -> (Au (y5 d q rs).1 (y5 d q rs).2)[j]? = some true := by
  intro j hj
  obtain ⟨i,hi,ht⟩ := KJ d (AH q rs) q.length [] [] (Nat.zero_add _) (fun j h => by simp at h) j hj
  exact Ik hok hri (Vz hq hr h2 (fun r hm => List.mem_map.2 ⟨r,hm,rfl⟩) (Sr hi) j ht)
 have hm := RI d' (okPool_iff.1 hok).1 hall (y5 d q rs).1.length 0 (Nat.zero_add _)
 have e : Ar d' (y5 d q rs).1 (y5 d q rs).2 [] = (ids ((y5 d q rs).1.length),(y5 d q rs).1) := hm
 have e2 : y5 d' (y5 d q rs).1 (y5 d q rs).2 = ((y5 d q rs).1,(y5 d q rs).2.map fun r => (ids ((y5 d q rs).1.length)).getD r.toNat 0) := by
  show (_,_) = _
  rw [e]
 rw [e2]
 refine Prod.ext rfl ?_
 show List.map _ (y5 d q rs).2 = (y5 d q rs).2
 have : ∀ r ∈ (y5 d q rs).2,(ids ((y5 d q rs).1.length)).getD r.toNat 0 = r := by
  intro r hm
  have := CE hri r hm
  rw [List.getD_eq_getElem?_getD,Pf (by omega)]
  simp; omega
 rw [List.map_congr_left this,List.map_id']
theorem O6 {q : List Nd} (hq : yR q = true) {rs : List Int} (hr : y1 q rs = true) (d : Int) : ∀ r ∈ rs,Ee (y5 d q rs).1 ((Ar d q rs []).1.getD r.toNat 0) = Ee q r /\ SA (y5 d q rs).1 ((Ar d q rs []).1.getD r.toNat 0) = SA q r := by
 intro r hm
 have hl := CE hr r hm
 obtain ⟨h1,h2⟩ := Jy hq (acc := []) (fun j x h => by simp at h) rs d
 have hok := (My hq hr d d).1
 exact ⟨SW hq hok (Af hq rs) h2 hl.1 hl.2 (AV hr r hm),Ue hq hok (Af hq rs) h2 hl.1 hl.2 (AV hr r hm)⟩
end Go.Eng
/-! nodes as bytes,on both sides -/
namespace Go.Eng
open Go.Proofs Go.Proofs.Tryz
set_option maxHeartbeats 4000000

structure NdOk (x : Nd) (i : Nat) : Prop where
 k1 : 1 <= x.kind
 k9 : x.kind <= 9
 n3 : -1000000000 <= x.n
 n9 : x.n <= 1000000000
 n0 : x.kind ≠ 3 -> 0 <= x.n
 a0 : 0 <= x.a
 a1 : x.a <= i
 b0 : 0 <= x.b
 b1 : x.b <= i
 s4 : x.s.size <= 12
end Go.Eng
/-! tidying,and machines as bytes,on both sides -/
namespace Go.Eng
noncomputable section
open Go.Proofs Go.Proofs.Tryz
set_option maxHeartbeats 4000000

theorem Uk {p : List Nd} (hl : p.length <= 4294967296) : V 131 [eP p] = some (oP p,[]) := by
 have h : V 181 [.rs (5,0) (p.map eN)] = some (.os (5,0) (p.map eN),[]) := by
  rw [BV,List.nil_append,yu (decide_eq_true (by rw [pE,lnM]; simp only [ni]; omega)),yA]
  exact xg _ _
 rw [LV]
 simp (disch := first | omega | (simp only [lnA,lnC,lnN,lnM,yO,wY]; omega)) only [↓wZ,xi,↓yo,↓yg,h]
theorem Nv {p : List Nd} (hl : p.length <= 4294967296) : V 147 [eP p] = some (oP p,[]) := by
 rw [JN,List.nil_append]
 simp (disch := first | omega | (simp only [lnA,lnC,lnN,lnM,yO,wY]; omega)) only [↓xP,↓yA,yJ,lnM,pE,wY]
theorem Oi {m : Mc} (hl : m.pool.length <= 4294967296) : V 63 [eMc m] = some (oMc m,[]) := by
 rw [JM]
 simp (disch := first | omega | (simp only [lnA,lnC,lnN,lnM,yO,wY]; omega)) only [↓wZ,xi,↓yo,↓yb,↓yg,↓xu,Uk hl]
theorem IA {m : Mc} (hl : m.pool.length <= 4294967296) : V 85 [eMc m] = some (oMc m,[]) := by
 rw [Qk]
 simp (disch := first | omega | (simp only [lnA,lnC,lnN,lnM,yO,wY]; omega)) only [↓wZ,xi,↓yo,↓yb,↓yg,↓xu,Nv hl]
def holds (m : Mc) : Bool := decide (m.state = 1 \/ m.state = 2)
def yW (m : Mc) : List Int := if holds m = true then [m.s,m.e,m.d,m.arg] else [m.s,m.e,m.d]
def tf (m : Mc) (r : Int) : Int := (Ar (-1) m.pool (yW m) []).1.getD r.toNat 0
def y6 (m : Mc) : Mc := if yR m.pool = true /\ y1 m.pool (yW m) = true then
  ⟨(y5 (-1) m.pool (yW m)).1,m.at',tf m m.s,tf m m.e,tf m m.d,m.state,m.ask,if holds m = true then tf m m.arg else m.arg⟩ else m
theorem Gz (m : Mc) : (yW m).length <= 4 := by unfold yW; split <;> simp
theorem Lj {m : Mc} (hf : z4 m.pool) (hl : m.pool.length <= 4294967296) : V 18 [eMc m] = some (oMc (y6 m),[]) := by
 have hr := VP hf (by omega) (l := yW m) (by have := Gz m; omega)
 have hc := Oi hl
 have hk : ∀ h1 : yR m.pool = true,∀ h2 : y1 m.pool (yW m) = true,_ := fun h1 h2 => XU h1 (rs := yW m) (by have := Gz m; omega) h2
 rw [Tn]
 unfold y6
 by_cases h : yR m.pool = true /\ y1 m.pool (yW m) = true
 ·rw [if_pos h]
  have hk := hk h.1 h.2
  rw [h.1,h.2] at hr
  unfold yW holds at hr hk
  by_cases s1 : m.state = 1
  ·rw [if_pos (by simp [s1])] at hr hk
   have e : holds m = true := by simp [holds,s1]
   rw [if_pos e]
   have e2 : yW m = [m.s,m.e,m.d,m.arg] := by rw [yW,if_pos e]
   unfold tf
   rw [e2]
   simp only [y5,List.map_cons,List.map_nil] at hr hk ⊢
   simp (disch := first | omega | (simp only [lnA,lnC,lnN,lnM,yO,wY]; omega)) only [↓wZ,xi,↓yk,↓xJ,↓xP,↓yo,↓yb,↓ye,↓xI,↓yg,↓xu,↓xw,↓xz,↓xA,↓xB,↓xC,xz,xA,xB,xC,yJ,yF,Bool.and_true,Bool.not_true,lnC,lnN,pE,wY,hr,hk]
  by_cases s2 : m.state = 2
  ·rw [if_pos (by simp [s2])] at hr hk
   have e : holds m = true := by simp [holds,s2]
   rw [if_pos e]
   have e2 : yW m = [m.s,m.e,m.d,m.arg] := by rw [yW,if_pos e]
   unfold tf
   rw [e2]
   simp only [y5,List.map_cons,List.map_nil] at hr hk ⊢
   simp (disch := first | omega | (simp only [lnA,lnC,lnN,lnM,yO,wY]; omega)) only [↓wZ,xi,↓yk,↓xJ,↓xP,↓yo,↓yb,↓ye,↓xI,↓yg,↓xu,↓xw,↓xz,↓xA,↓xB,↓xC,xz,xA,xB,xC,yJ,yF,yE,Bool.and_true,Bool.not_true,lnC,lnN,pE,wY,hr,hk]
  ·rw [if_neg (by simp [s1,s2])] at hr hk
   have e : ¬ holds m = true := by simp [holds,s1,s2]
   rw [if_neg e]
   have e2 : yW m = [m.s,m.e,m.d] := by rw [yW,if_neg e]
   unfold tf
   rw [e2]
   simp only [y5,List.map_cons,List.map_nil] at hr hk ⊢
   simp (disch := first | omega | (simp only [lnA,lnC,lnN,lnM,yO,wY]; omega)) only [↓wZ,xi,↓xJ,↓xP,↓yo,↓yb,↓ye,↓xI,↓yg,↓xu,↓xw,↓xz,↓xA,↓xB,xz,xA,xB,yJ,yE,Bool.and_true,Bool.not_true,lnC,lnN,wY,hr,hk]
 ·rw [if_neg h]
  have e : (yR m.pool && y1 m.pool (yW m)) = false := by
   cases h1 : yR m.pool <;> cases h2 : y1 m.pool (yW m) <;> first | rfl | exact absurd ⟨h1,h2⟩ h
  rw [e] at hr
  unfold yW holds at hr
  by_cases s1 : m.state = 1
  ·rw [if_pos (by simp [s1])] at hr
   simp only [List.map_cons,List.map_nil] at hr
   simp (disch := first | omega | (simp only [lnA,lnC,lnN,lnM,yO,wY]; omega)) only [↓wZ,xi,↓yk,↓xP,↓yo,↓yb,↓ye,↓xI,↓yg,↓xu,yJ,yF,Bool.not_false,pE,wY,hr,hc]
  by_cases s2 : m.state = 2
  ·rw [if_pos (by simp [s2])] at hr
   simp only [List.map_cons,List.map_nil] at hr
   simp (disch := first | omega | (simp only [lnA,lnC,lnN,lnM,yO,wY]; omega)) only [↓wZ,xi,↓yk,↓xJ,↓xP,↓yo,↓yb,↓ye,↓xI,↓yg,↓xu,yJ,yF,yE,Bool.not_false,pE,wY,hr,hc]
  ·rw [if_neg (by simp [s1,s2])] at hr
   simp only [List.map_cons,List.map_nil] at hr
   simp (disch := first | omega | (simp only [lnA,lnC,lnN,lnM,yO,wY]; omega)) only [↓wZ,xi,↓yk,↓xJ,↓yo,↓yb,↓ye,↓xI,↓yg,↓xu,yE,Bool.not_false,hr,hc]
theorem SN {m : Mc} (hf : z4 m.pool) (hl : m.pool.length <= 4294967296) : V 28 [eMc m] = some (oMc (y6 m),[]) := by
 have hr := VO hf (by omega) (l := yW m) (by have := Gz m; omega)
 have hc := IA hl
 have hk : ∀ h1 : yR m.pool = true,∀ h2 : y1 m.pool (yW m) = true,_ := fun h1 h2 => WQ h1 (rs := yW m) (by have := Gz m; omega) h2
 rw [Tw]
 unfold y6
 by_cases h : yR m.pool = true /\ y1 m.pool (yW m) = true
 ·rw [if_pos h]
  have hk := hk h.1 h.2
  rw [TK h.1 h.2 0 (-1)] at hk
  rw [h.1,h.2] at hr
  unfold yW holds at hr hk
  by_cases s1 : m.state = 1
  ·rw [if_pos (by simp [s1])] at hr hk
   have e : holds m = true := by simp [holds,s1]
   rw [if_pos e]
   have e2 : yW m = [m.s,m.e,m.d,m.arg] := by rw [yW,if_pos e]
   unfold tf
   rw [e2]
   simp only [y5,List.map_cons,List.map_nil] at hr hk ⊢
   simp (disch := first | omega | (simp only [lnA,lnC,lnN,lnM,yO,wY]; omega)) only [↓wZ,xi,↓yk,↓xJ,↓xP,↓yo,↓yb,↓ye,↓xI,↓yg,↓xu,↓xw,↓xz,↓xA,↓xB,↓xC,xz,xA,xB,xC,yJ,yF,Bool.and_true,Bool.not_true,lnC,lnN,pE,wY,hr,hk]
  by_cases s2 : m.state = 2
  ·rw [if_pos (by simp [s2])] at hr hk
   have e : holds m = true := by simp [holds,s2]
   rw [if_pos e]
   have e2 : yW m = [m.s,m.e,m.d,m.arg] := by rw [yW,if_pos e]
   unfold tf
   rw [e2]
   simp only [y5,List.map_cons,List.map_nil] at hr hk ⊢
   simp (disch := first | omega | (simp only [lnA,lnC,lnN,lnM,yO,wY]; omega)) only [↓wZ,xi,↓yk,↓xJ,↓xP,↓yo,↓yb,↓ye,↓xI,↓yg,↓xu,↓xw,↓xz,↓xA,↓xB,↓xC,xz,xA,xB,xC,yJ,yF,yE,Bool.and_true,Bool.not_true,lnC,lnN,pE,wY,hr,hk]
  ·rw [if_neg (by simp [s1,s2])] at hr hk
   have e : ¬ holds m = true := by simp [holds,s1,s2]
   rw [if_neg e]
   have e2 : yW m = [m.s,m.e,m.d] := by rw [yW,if_neg e]
   unfold tf
   rw [e2]
   simp only [y5,List.map_cons,List.map_nil] at hr hk ⊢
   simp (disch := first | omega | (simp only [lnA,lnC,lnN,lnM,yO,wY]; omega)) only [↓wZ,xi,↓xJ,↓xP,↓yo,↓yb,↓ye,↓xI,↓yg,↓xu,↓xw,↓xz,↓xA,↓xB,xz,xA,xB,yJ,yE,Bool.and_true,Bool.not_true,lnC,lnN,wY,hr,hk]
 ·rw [if_neg h]
  have e : (yR m.pool && y1 m.pool (yW m)) = false := by
   cases h1 : yR m.pool <;> cases h2 : y1 m.pool (yW m) <;> first | rfl | exact absurd ⟨h1,h2⟩ h
  rw [e] at hr
  unfold yW holds at hr
  by_cases s1 : m.state = 1
  ·rw [if_pos (by simp [s1])] at hr
   simp only [List.map_cons,List.map_nil] at hr
   simp (disch := first | omega | (simp only [lnA,lnC,lnN,lnM,yO,wY]; omega)) only [↓wZ,xi,↓yk,↓xP,↓yo,↓yb,↓ye,↓xI,↓yg,↓xu,yJ,yF,Bool.not_false,pE,wY,hr,hc]
  by_cases s2 : m.state = 2
  ·rw [if_pos (by simp [s2])] at hr
   simp only [List.map_cons,List.map_nil] at hr
   simp (disch := first | omega | (simp only [lnA,lnC,lnN,lnM,yO,wY]; omega)) only [↓wZ,xi,↓yk,↓xJ,↓xP,↓yo,↓yb,↓ye,↓xI,↓yg,↓xu,yJ,yF,yE,Bool.not_false,pE,wY,hr,hc]
  ·rw [if_neg (by simp [s1,s2])] at hr
   simp only [List.map_cons,List.map_nil] at hr
   simp (disch := first | omega | (simp only [lnA,lnC,lnN,lnM,yO,wY]; omega)) only [↓wZ,xi,↓yk,↓xJ,↓yo,↓yb,↓ye,↓xI,↓yg,↓xu,yE,Bool.not_false,hr,hc]
end
end Go.Eng
/-! words of a text,on both sides -/
namespace Go.Eng
noncomputable section
open Go.Proofs Go.Proofs.Tryz
set_option maxHeartbeats 4000000

def dU (x : UInt8) : Bool := decide (48 <= x.toNat) && decide (x.toNat <= 57)
def GG (x : UInt8) : Bool := nmB (x.toNat : Int) || (dU x || (x.toNat : Int) == 35)
theorem dU_iff {x : UInt8} : dU x = true ↔ 48 <= x.toNat /\ x.toNat <= 57 := by simp [dU]
theorem XN (x : UInt8) : br (decide ((x.toNat : Int) >= 48)) (some (D.bool (decide ((x.toNat : Int) <= 57)),([] : List D))) (some (D.bool false,[])) = some (.bool (dU x),[]) := by
 unfold dU
 by_cases h1 : 48 <= x.toNat
 ·by_cases h2 : x.toNat <= 57
  ·rw [xK (decide_eq_true (by omega)),decide_eq_true (by omega),decide_eq_true h1,decide_eq_true h2]; rfl
  ·rw [xK (decide_eq_true (by omega)),decide_eq_false (by omega),decide_eq_true h1,decide_eq_false h2]; rfl
 ·rw [xb (decide_eq_false (by omega)),decide_eq_false h1]; rfl
theorem Po (x : UInt8) : V 226 [.int .u8 (x.toNat : Int)] = some (.bool (dU x),[]) := (NN _).trans (XN x)
theorem GA (x : UInt8) : V 211 [.int .u8 (x.toNat : Int)] = some (.bool (GG x),[]) := by
 rw [KF,GE (Kh _),J3 (Po x),VY,VY]; rfl

def Aa (acc : Nat) (l : List UInt8) : Nat := l.foldl (fun n x => 10 * n + (x.toNat - 48)) acc
theorem UZ : ∀ (l : List UInt8) (acc k : Nat),l.all dU = true -> acc < 10 ^ k -> Aa acc l < 10 ^ (k + l.length)
 | [],acc,k,_,h => h
 | x :: l,acc,k,hl,h => by
  rw [List.all_cons,Bool.and_eq_true] at hl
  have hx := dU_iff.1 hl.1
  have := UZ l (10 * acc + (x.toNat - 48)) (k + 1) hl.2 (by rw [Nat.pow_succ]; omega)
  rw [lnC]
  have e : k + (l.length + 1) = k + 1 + l.length := by omega
  rw [e]; exact this
abbrev noW : D := .tup [iN 0,.bool false]
theorem Na {k : Nat} (h : k <= 10) : 10 ^ k <= 10000000000 := by
 have : 10 ^ k <= 10 ^ 10 := Nat.pow_le_pow_right (by omega) h
 simpa using this
def Bj (l : List UInt8) : Option Nat := if l.length = 0 \/ 10 < l.length \/ (l[0]? = some 48 /\ 1 < l.length) \/ l.all dU = false then none else some (Aa 0 l)
theorem VQ (l : List UInt8) (x : UInt8) (acc : Nat) : Aa acc (l ++ [x]) = 10 * Aa acc l + (x.toNat - 48) := by simp [Aa]
theorem SP : ∀ (l : List UInt8) (acc : Nat),0 < acc -> 0 < Aa acc l
 | [],acc,h => h
 | x :: l,acc,h => SP l (10 * acc + (x.toNat - 48)) (by omega)
theorem Q8 : ∀ (n : Nat) (l : List UInt8),l.length = n + 1 -> l.all dU = true -> (l[0]? ≠ some 48 \/ l.length = 1) -> Ef (Aa 0 l) = l
 | 0,l,hn,ha,h0 => by
  match l,hn with
  | [x],_ =>
   have hx := dU_iff.1 (by simpa using ha)
   have e : Aa 0 [x] = x.toNat - 48 := by simp [Aa]
   rw [e,zL (by omega)]
   congr 1
   apply UInt8.toNat_inj.1
   simp; omega
 | n + 1,l,hn,ha,h0 => by
  have hne : l ≠ [] := by intro h; rw [h] at hn; simp at hn
  obtain ⟨l',x,rfl⟩ : ∃ l' x,l = l' ++ [x] := ⟨l.dropLast,l.getLast hne,(List.dropLast_concat_getLast hne).symm⟩
  have hl' : l'.length = n + 1 := by simp at hn; omega
  have ha' : l'.all dU = true /\ dU x = true := by simpa using ha
  have hx := dU_iff.1 ha'.2
  have h48 : l'[0]? ≠ some 48 := by
   rcases h0 with h | h
   ·rwa [List.getElem?_append_left (by omega)] at h
   ·exfalso; rw [lnA,List.length_singleton] at h; omega
  have ih := Q8 n l' hl' ha'.1 (.inl h48)
  rw [VQ]
  have hpos : 0 < Aa 0 l' := by
   match l',hl' with
   | y :: r,_ =>
    have hy := dU_iff.1 (by simpa using (show (y :: r).all dU = true from ha'.1) : dU y = true /\ _).1
    have hy48 : y.toNat ≠ 48 := by
     intro h; apply h48; simp; exact UInt8.toNat_inj.1 h
    exact SP r (10 * 0 + (y.toNat - 48)) (by omega)
  rw [DQ (by omega)]
  have e1 : (10 * Aa 0 l' + (x.toNat - 48)) / 10 = Aa 0 l' := by omega
  have e2 : (10 * Aa 0 l' + (x.toNat - 48)) % 10 = x.toNat - 48 := by omega
  rw [e1,e2,ih]
  congr 2
  apply UInt8.toNat_inj.1
  simp; omega
theorem U6 : ∀ (n : Nat),(Ef n)[0]? ≠ some 48 \/ n = 0 := by
 intro n
 induction n using Nat.strongRecOn with
 | _ n ih =>
  by_cases h : n < 10
  ·by_cases h0 : n = 0
   ·exact .inr h0
   ·left
    rw [zL h]
    intro e
    simp at e
    have := congrArg UInt8.toNat e
    simp at this
    omega
  ·left
   rw [DQ h,List.getElem?_append_left (Wb _)]
   rcases ih (n / 10) (by omega) with h1 | h1
   ·exact h1
   ·omega
theorem QZ {l : List UInt8} (h0 : l.length ≠ 0) (h10 : ¬ 10 < l.length) (ha : l.all dU = true) : Ef (Aa 0 l) = l ↔ ¬ (l[0]? = some 48 /\ 1 < l.length) := by
 constructor
 ·rintro h ⟨h1,h2⟩
  rcases U6 (Aa 0 l) with h3 | h3
  ·rw [h] at h3; exact h3 h1
  ·rw [h3,zL (by omega)] at h
   have := congrArg List.length h
   simp at this; omega
 ·intro h
  refine Q8 (l.length - 1) l (by omega) ha ?_
  by_cases h1 : l[0]? = some 48
  ·exact .inr (by
           have : ¬ 1 < l.length := fun h2 => h ⟨h1,h2⟩
           omega)
  ·exact .inl h1
end
end Go.Eng
/-! the node of a word,on both sides -/
namespace Go.Eng
noncomputable section
open Go.Proofs Go.Proofs.Tryz
set_option maxHeartbeats 4000000

def QD (r : Option Nat) : Option Int := match r with | some n => if n <= 1000000000 then some (n : Int) else none | none => none
def Vp (r : Option Nat) : Option Int := match r with | some n => if 0 < n /\ n <= 1000000000 then some (-(n : Int)) else none | none => none
def TN (l : List UInt8) : Option Int := match l with
 | x :: d :: r => if x = 45 /\ dU d = true then Vp (Bj (d :: r)) else QD (Bj l)
 | _ => QD (Bj l)
def UL (r : Option Int) (l : List UInt8) : Option Nd := match r with | some n => some ⟨3,n,⟨#[]⟩,0,0⟩ | none => if GZ (mk l) = true then some ⟨4,0,mk l,0,0⟩ else none
def Dp (l : List UInt8) : Option Nd := if l = [35,116] then some ⟨2,1,⟨#[]⟩,0,0⟩ else if l = [35,102] then some ⟨2,0,⟨#[]⟩,0,0⟩ else UL (TN l) l
def Uq (r : Option Nd) (x : Nd) (b : Bool) : Prop := match r with | some y => x = y /\ b = true | none => b = false
theorem O7 {l : List UInt8} {n : Nat} (h : Bj l = some n) : l.length ≠ 0 /\ ¬ 10 < l.length /\ ¬ (l[0]? = some 48 /\ 1 < l.length) /\ l.all dU = true /\ n = Aa 0 l /\ n < 10000000000 := by
 unfold Bj at h
 split at h
 ·cases h
 ·rename_i hn
  cases h
  have ha : l.all dU = true := by
   cases e : l.all dU with
   | true => rfl
   | false => exact absurd (.inr (.inr (.inr e))) hn
  have h10 : ¬ 10 < l.length := fun e => hn (.inr (.inl e))
  have := UZ l 0 0 ha (by simp)
  rw [Nat.zero_add] at this
  have := Na (k := l.length) (by omega)
  exact ⟨fun e => hn (.inl e),h10,fun e => hn (.inr (.inr (.inl e))),ha,rfl,by omega⟩
def tb (l : List UInt8) : Bool := match Bj l with | some n => decide (n <= 1000000000) | none => GZ (mk l)
theorem Wt {l : List UInt8} (h : ¬ (l[0]? = some 45 /\ 1 < l.length)) : TN l = QD (Bj l) := by
 match l with
 | [] => rfl
 | [x] => rfl
 | x :: d :: r => rw [TN,if_neg]; rintro ⟨e,_⟩; exact h ⟨by rw [e]; rfl,by simp⟩
def Lt (a r : List UInt8) (v : Nat) : Int := if r.length = a.length then (v : Int) else -(v : Int)
def Mo (a r : List UInt8) (v : Nat) : Bool := decide (Cm (Lt a r v) = a) && wi (Lt a r v) (-1000000000) 1000000000
theorem Xn {a r : List UInt8} {v : Nat} (hv : v < 100000000000) : @Eq (Option Ret) (br (ni r.length != ni a.length)
  (jb V 202 [(iN (w6 (0 - (v : Int))))] fun x3 l4 => asS x3 fun s5 => unn l4 (br (kc s5 (mk a))
    (jb V 62 [(iN (w6 (0 - (v : Int)))),(iN (-1000000000)),(iN (1000000000))] fun x6 l7 => asB x6 fun b8 => unn l7 (some ((.tup [(iN (w6 (0 - (v : Int)))),(.bool b8)]),[])))
    (some ((.tup [(iN (w6 (0 - (v : Int)))),(.bool false)]),[]))))
  (jb V 202 [(iN (v : Int))] fun x9 l10 => asS x9 fun s11 => unn l10 (br (kc s11 (mk a))
    (jb V 62 [(iN (v : Int)),(iN (-1000000000)),(iN (1000000000))] fun x12 l13 => asB x12 fun b14 => unn l13 (some ((.tup [(iN (v : Int)),(.bool b14)]),[])))
    (some ((.tup [(iN (v : Int)),(.bool false)]),[]))))) (some (.tup [iN (Lt a r v),.bool (Mo a r v)],[])) := by
 unfold Mo Lt
 by_cases h : r.length = a.length
 ·have hd := Nw (n := (v : Int)) (by omega)
  rw [xb (by simp [ni,h]),if_pos h,Fw hd,Kg]
  by_cases h2 : Cm (v : Int) = a
  ·rw [decide_eq_true h2,yk,zB (zX _ _ _),Bool.true_and]
  ·rw [decide_eq_false h2,xJ,Bool.false_and]
 ·have hd := Nw (n := -(v : Int)) (by omega)
  rw [xK (by simp only [ni,bne_iff_ne,ne_eq]; omega),if_neg h,show (0 : Int) - (v : Int) = -(v : Int) by omega,w64 (by omega) (by omega),Fw hd,Kg]
  by_cases h2 : Cm (-(v : Int)) = a
  ·rw [decide_eq_true h2,yk,zB (zX _ _ _),Bool.true_and]
  ·rw [decide_eq_false h2,xJ,Bool.false_and]
theorem RN {a l : List UInt8} (hl : l.length <= 10) : ∀ (k i acc : Nat),i + k = l.length -> acc < 10 ^ i -> zO (mk a) (mk l) (acc : Int) (i : Int) = some (if (l.drop i).all dU = true then .tup [iN (Lt a l (Aa acc (l.drop i))),.bool (Mo a l (Aa acc (l.drop i)))] else noW,[])
 | 0,i,acc,hi,ha => by
  have hp := Na (k := i) (by omega)
  have he := Xn (a := a) (r := l) (v := acc) (by omega)
  rw [FI,List.drop_of_length_le (by omega),yO,yO,xb (yr (by omega)),he]
  rfl
 | k + 1,i,acc,hi,ha => by
  obtain ⟨x,hx⟩ := xx (l := l) (i := i) (by omega)
  have hp := Na (k := i) (by omega)
  have hb := Ou hx
  have hd := Po x
  rw [FI,yO,xK (yz (by omega)),yu (yx (by omega)),hb,J3 hd,tU hx,List.all_cons]
  cases h : dU x with
  | false => rw [Bool.not_false,yk,if_neg (by simp)]
  | true =>
   have hx2 := dU_iff.1 h
   have e2 : w6 (w6 (w6 (10 * (acc : Int)) + w6 ((x.toNat : Nat) : Int)) - 48) = ((10 * acc + (x.toNat - 48) : Nat) : Int) := by
    rw [w64 (n := 10 * (acc : Int)) (by omega) (by omega),w64 (n := ((x.toNat : Nat) : Int)) (by omega) (by omega),w64 (n := 10 * (acc : Int) + _) (by omega) (by omega),w64 (by omega) (by omega)]; omega
   have ih := RN (a := a) hl k (i + 1) (10 * acc + (x.toNat - 48)) (by omega) (by rw [Nat.pow_succ]; omega)
   rw [Bool.not_true,xJ,yu (yx (by omega)),e2,yM (by omega),ih,Bool.true_and]
   rfl
theorem QE {l : List UInt8} (h0 : l.length ≠ 0) (h10 : ¬ 10 < l.length) (ha : l.all dU = true) : Lt l l (Aa 0 l) = (Aa 0 l : Int) /\ Mo l l (Aa 0 l) = (QD (Bj l)).isSome /\ (∀ m,QD (Bj l) = some m -> m = (Aa 0 l : Int)) := by
 have hz := QZ h0 h10 ha
 have e1 : Lt l l (Aa 0 l) = (Aa 0 l : Int) := by simp [Lt]
 have e2 : Cm ((Aa 0 l : Nat) : Int) = Ef (Aa 0 l) := by simp [Cm]
 refine ⟨e1,?_,?_⟩
 ·unfold Mo
  rw [e1,e2]
  by_cases h : l[0]? = some 48 /\ 1 < l.length
  ·rw [decide_eq_false (fun e => hz.1 e h),Bj,if_pos (.inr (.inr (.inl h)))]; rfl
  ·have hn : Bj l = some (Aa 0 l) := by rw [Bj,if_neg (by rintro (e | e | e | e) <;> first | omega | exact h e | (rw [ha] at e; cases e))]
   rw [decide_eq_true (hz.2 h),hn]
   unfold QD wi
   by_cases h1 : Aa 0 l <= 1000000000
   ·simp [h1]; omega
   ·simp [h1]; omega
 ·intro m hm
  cases hn : Bj l with
  | none => rw [hn] at hm; cases hm
  | some n =>
   have := (O7 hn).2.2.2.2.1
   rw [hn] at hm
   unfold QD at hm
   simp only at hm
   split at hm
   ·cases hm; rw [this]
   ·cases hm
theorem Qx {l : List UInt8} (h0 : l.length ≠ 0) (h10 : ¬ 10 < l.length) (ha : l.all dU = true) : Lt (45 :: l) l (Aa 0 l) = -(Aa 0 l : Int) /\ Mo (45 :: l) l (Aa 0 l) = (Vp (Bj l)).isSome /\ (∀ m,Vp (Bj l) = some m -> m = -(Aa 0 l : Int)) := by
 have hz := QZ h0 h10 ha
 have e1 : Lt (45 :: l) l (Aa 0 l) = -(Aa 0 l : Int) := by simp [Lt]
 refine ⟨e1,?_,?_⟩
 ·unfold Mo
  rw [e1]
  by_cases h : l[0]? = some 48 /\ 1 < l.length
  ·have : Cm (-(Aa 0 l : Int)) ≠ 45 :: l := by
    unfold Cm
    split
    ·intro e; rw [Int.natAbs_neg,Int.natAbs_natCast] at e; exact hz.1 (List.cons_inj_right _ |>.1 e) h
    ·intro e
     have e0 : Aa 0 l = 0 := by omega
     rw [e0] at e
     have := zL (n := 0) (by omega)
     simp [this] at e
   rw [decide_eq_false this,Bj,if_pos (.inr (.inr (.inl h)))]; rfl
  ·have hn : Bj l = some (Aa 0 l) := by rw [Bj,if_neg (by rintro (e | e | e | e) <;> first | omega | exact h e | (rw [ha] at e; cases e))]
   rw [hn]
   by_cases h1 : Aa 0 l = 0
   ·have : Cm (-(Aa 0 l : Int)) ≠ 45 :: l := by
     intro e
     rw [h1] at e
     have := zL (n := 0) (by omega)
     simp [Cm,this] at e
    rw [decide_eq_false this,h1]; rfl
   ·have : Cm (-(Aa 0 l : Int)) = 45 :: l := by
     unfold Cm
     rw [if_pos (by omega),Int.natAbs_neg,Int.natAbs_natCast,hz.2 h]
    rw [decide_eq_true this]
    unfold Vp wi
    by_cases h2 : Aa 0 l <= 1000000000
    ·have : 0 < Aa 0 l := by omega
     simp [h2,this]; omega
    ·simp [h2]; omega
 ·intro m hm
  cases hn : Bj l with
  | none => rw [hn] at hm; cases hm
  | some n =>
   have := (O7 hn).2.2.2.2.1
   rw [hn] at hm
   unfold Vp at hm
   simp only at hm
   split at hm
   ·cases hm; rw [this]
   ·cases hm
theorem RQ {a r : List UInt8} {F : Option Nat -> Option Int} (hF : F none = none)
  (hfin : r.length ≠ 0 -> ¬ 10 < r.length -> r.all dU = true -> Mo a r (Aa 0 r) = (F (Bj r)).isSome /\ (∀ m,F (Bj r) = some m -> m = Lt a r (Aa 0 r))) :
  ∃ n b,br (decide (ni r.length > 10)) (some (noW,[])) (br (ni r.length == 0) (some (noW,[])) (zO (mk a) (mk r) 0 0)) = some (.tup [iN n,.bool b],[]) /\ b = (F (Bj r)).isSome /\ (∀ m,F (Bj r) = some m -> m = n) := by
 by_cases h10 : 10 < r.length
 ·have hn : Bj r = none := by rw [Bj,if_pos (.inr (.inl h10))]
  rw [xK (decide_eq_true (by simp only [ni]; omega)),hn,hF]
  exact ⟨0,false,rfl,rfl,fun m h => by cases h⟩
 ·rw [xb (decide_eq_false (by simp only [ni]; omega))]
  by_cases h0 : r.length = 0
  ·have hn : Bj r = none := by rw [Bj,if_pos (.inl h0)]
   rw [xK (by simp [ni,h0]),hn,hF]
   exact ⟨0,false,rfl,rfl,fun m h => by cases h⟩
  ·rw [xb (by simp only [ni,beq_eq_false_iff_ne,ne_eq]; omega)]
   have hl := RN (a := a) (l := r) (by omega) r.length 0 0 (by omega) (by simp)
   rw [Int.natCast_zero,List.drop_zero] at hl
   rw [hl]
   cases ha : r.all dU with
   | false =>
    have hn : Bj r = none := by rw [Bj,if_pos (.inr (.inr (.inr ha)))]
    rw [if_neg (by simp),hn,hF]
    exact ⟨0,false,rfl,rfl,fun m h => by cases h⟩
   | true =>
    rw [if_pos rfl]
    obtain ⟨e1,e2⟩ := hfin h0 h10 ha
    exact ⟨_,_,rfl,e1,e2⟩
theorem Xt (l : List UInt8) : ∃ n b,V 227 [.str (mk l)] = some (.tup [iN n,.bool b],[]) /\ b = (TN l).isSome /\ (∀ m,TN l = some m -> m = n) := by
 have hpos : ∃ n b,br (decide (ni l.length > 10)) (some (noW,[])) (br (ni l.length == 0) (some (noW,[])) (zO (mk l) (mk l) 0 0)) = some (.tup [iN n,.bool b],[]) /\ b = (QD (Bj l)).isSome /\ (∀ m,QD (Bj l) = some m -> m = n) :=
  RQ rfl (fun h0 h10 ha => ⟨(QE h0 h10 ha).2.1,fun m hm => ((QE h0 h10 ha).2.2 m hm).trans (QE h0 h10 ha).1.symm⟩)
 rw [Rm,yO]
 by_cases hn : l[0]? = some 45 /\ 1 < l.length
 ·obtain ⟨hx,hl⟩ := hn
  match l,hx,hl with
  | x :: d :: r,hx,hl =>
   have hx : x = 45 := by simpa using hx
   subst hx
   have hb0 : bt (mk (45 :: d :: r)) 0 = 45 := Ou (i := 0) (x := 45) rfl
   have e : ByteArray.extract (mk (45 :: d :: r)) (Int.toNat 1) (45 :: d :: r).length = mk (d :: r) := by
    rw [DT]; congr 1; simp
   rw [xK (decide_eq_true (by simp only [ni]; omega)),yu (by simp only [ni,Bool.and_eq_true,decide_eq_true_eq]; omega),hb0,xK (by decide),yu (by unfold cW; simp; omega),e,yO]
   obtain ⟨n,b,h1,h2,h3⟩ := RQ (a := 45 :: d :: r) (r := d :: r) (F := Vp) rfl (fun h0 h10 ha => ⟨(Qx h0 h10 ha).2.1,fun m hm => ((Qx h0 h10 ha).2.2 m hm).trans (Qx h0 h10 ha).1.symm⟩)
   refine ⟨n,b,h1,?_⟩
   rw [TN]
   by_cases hd : dU d = true
   ·rw [if_pos ⟨rfl,hd⟩]; exact ⟨h2,h3⟩
   ·rw [if_neg (fun h => hd h.2)]
    have hf : ∀ c : UInt8,dU c = false -> ∀ q,Bj (c :: q) = none := by
     intro c hc q
     rw [Bj,if_pos (.inr (.inr (.inr (by rw [List.all_cons,hc]; rfl))))]
    rw [hf 45 rfl] 
    rw [hf d (by simpa using hd)] at h2 h3
    exact ⟨h2,h3⟩
 ·rw [Wt hn]
  by_cases hl : 1 < l.length
  ·obtain ⟨x,hx⟩ := xx (l := l) (i := 0) (by omega)
   have hbt : bt (mk l) 0 = (x.toNat : Int) := Ou hx
   have hne : x.toNat ≠ 45 := by
    intro h; apply hn; rw [hx]; exact ⟨by congr 1; exact UInt8.toNat_inj.1 h,hl⟩
   rw [xK (decide_eq_true (by simp only [ni]; omega)),yu (by simp only [ni,Bool.and_eq_true,decide_eq_true_eq]; omega),hbt,xb (by simp only [beq_eq_false_iff_ne,ne_eq]; omega)]
   exact hpos
  ·rw [xb (decide_eq_false (by simp only [ni]; omega))]
   exact hpos
theorem SG {l : List UInt8} (hb : l.length < 4611686018427387904) : ∃ x b,V 212 [.str (mk l)] = some (.tup [eN x,.bool b],[]) /\ Uq (Dp l) x b := by
 have e1 : kc (mk l) ⟨#[35,116]⟩ = decide (l = [35,116]) := Kg l _
 have e2 : kc (mk l) ⟨#[35,102]⟩ = decide (l = [35,102]) := Kg l _
 obtain ⟨n,b,h3,h4,h5⟩ := Xt l
 have hnm := CQ (s := mk l) (by rw [yO]; exact hb)
 rw [Qa,e1,e2,TV h3]
 unfold Dp
 by_cases h1 : l = [35,116]
 ·rw [xK (decide_eq_true h1),if_pos h1]; exact ⟨⟨2,1,⟨#[]⟩,0,0⟩,true,rfl,rfl,rfl⟩
 rw [xb (decide_eq_false h1),if_neg h1]
 by_cases h2 : l = [35,102]
 ·rw [xK (decide_eq_true h2),if_pos h2]; exact ⟨⟨2,0,⟨#[]⟩,0,0⟩,true,rfl,rfl,rfl⟩
 rw [xb (decide_eq_false h2),if_neg h2]
 cases hf : TN l with
 | some m =>
  rw [hf] at h4 h5
  have := h5 m rfl
  rw [h4,<- this]
  exact ⟨⟨3,m,⟨#[]⟩,0,0⟩,true,rfl,rfl,rfl⟩
 | none =>
  rw [hf] at h4
  rw [h4,show (none : Option Int).isSome = false from rfl,xJ,KX hnm]
  refine ⟨⟨4,0,mk l,0,0⟩,GZ (mk l),rfl,?_⟩
  cases e : GZ (mk l) with
  | true => simp [UL,e,Uq]
  | false => simp [UL,e,Uq]
end
end Go.Eng
