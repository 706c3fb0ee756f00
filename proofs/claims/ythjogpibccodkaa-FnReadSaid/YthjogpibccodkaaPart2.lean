/- the program and the reference on plain data, part 2 -/
import Derived.Test.YthjogpibccodkaaPart1
import Derived.Test.YthjogpibccodkaaEngC
/-! what is written of a value: the program's side -/
namespace Go.Eng
open Go.Proofs Go.Proofs.Try

theorem lit (l : List UInt8) : (ByteArray.mk l.toArray) = mk l := rfl
noncomputable abbrev wO (p : List Nd) (o : List UInt8) : D := .op [.rs (5,0) (p.map eN),.os (1,0) (o.map eU)]
theorem yh (p : List Nd) (o : List UInt8) : V 27 [wO p o] = some (.bool (decide (o.length > 400)),[wO p o]) := by
 rw [AR,lnM]
 simp only [u9,gt_iff_lt]
 by_cases h : 400 < o.length
 ·rw [decide_eq_true h,decide_eq_true (by omega)]
 ·rw [decide_eq_false h,decide_eq_false (by omega)]
theorem Bw (p : List Nd) {o s : List UInt8} (h : o.length + s.length <= 4294967296) : V 47 [wO p o,.str (mk s)] = some (.tup [],[wO p (o ++ s)]) := by
 rw [AU,GF]
 simp (disch := first | omega | (simp only [lnA,lnC,lnN,lnM,xj,u9]; omega)) only [↓wc,↓wY,xe,lnM,lnA,nV,u9,wE]
theorem Jd {p : List Nd} (hp : xq p = true) (g : Nat) {v : Nat} {x : Nd} (hx : p[v]? = some x) (h5 : ¬ x.kind = 5) (h1 : ¬ x.kind = 1) (out : List UInt8) :
  (out.length <= 400 -> (wm p g none v out).length <= 440) /\ (400 < out.length -> (wm p g none v out).length = out.length) := by
 cases g with
 | zero => simp only [wm]; exact ⟨fun h => by omega,fun h => trivial⟩
 | succ g =>
  have := BF (yk hp hx)
  simp only [wm,hx]
  refine ⟨fun h => ?_,fun h => by rw [if_pos h]⟩
  rw [if_neg (by omega),if_neg (fun h => h.elim h5 h1)]
  simp only [lnA]; omega
theorem Dh {p : List Nd} (hp : xq p = true) : ∀ (g : Nat) (v : Nat) (out : List UInt8),
  ((out.length <= 400 -> (wm p g none v out).length <= 450 + 50 * v) /\ (400 < out.length -> (wm p g none v out).length = out.length)) /\
  (∀ first,(out.length <= 400 -> (wm p g (some first) v out).length <= 449 + 50 * v) /\ (400 < out.length -> (wm p g (some first) v out).length <= out.length + 3))
 | 0,v,out => by simp only [wm]; exact ⟨⟨fun h => by omega,fun h => trivial⟩,fun f => ⟨fun h => by omega,fun h => by omega⟩⟩
 | g + 1,v,out => by
  refine ⟨⟨fun h => ?_,fun h => by simp only [wm]; rw [if_pos h]⟩,fun first => ?_⟩
  ·simp only [wm]
   rw [if_neg (by omega)]
   split
   ·rename_i x hx
    split
    ·have h1 := (Dh hp g v (out ++ [40])).2 true
     simp only [lnA,lnC,lnN] at h1 ⊢
     by_cases c : out.length + 1 <= 400
     ·have := h1.1 c; omega
     ·have := h1.2 (by omega); omega
    ·have := BF (yk hp hx)
     simp only [lnA]; omega
   ·omega
  ·simp only [wm]
   split
   ·rename_i x hx
    split
    ·rename_i hc
     have hk := yP (yk hp hx) hc.1
     have h1 := (Dh hp g x.a.toNat (if first then out else out ++ [32])).1
     have h2 := (Dh hp g x.b.toNat (wm p g none x.a.toNat (if first then out else out ++ [32]))).2 false
     have hs : (if first = true then out else out ++ [32]).length <= 401 := by split <;> (try simp only [lnA,lnC,lnN]) <;> omega
     refine ⟨fun h => ?_,fun h => by omega⟩
     by_cases c : (if first = true then out else out ++ [32]).length <= 400
     ·have h3 := h1.1 c
      by_cases c2 : (wm p g none x.a.toNat (if first then out else out ++ [32])).length <= 400
      ·have := h2.1 c2; omega
      ·have := h2.2 (by omega); omega
     ·have h3 := h1.2 (by omega)
      have := h2.2 (by omega); omega
    ·rename_i hc
     split
     ·exact ⟨fun h => by omega,fun h => by omega⟩
     ·rename_i h15
      have h1 := Jd hp g hx (fun h => h15 (.inr h)) (fun h => h15 (.inl h)) (out ++ [32,46,32])
      simp only [lnA,lnC,lnN] at h1
      refine ⟨fun h => ?_,fun h => ?_⟩
      ·by_cases c : out.length + 3 <= 400
       ·have := h1.1 c; omega
       ·have := h1.2 (by omega); omega
      ·have := h1.2 (by omega); omega
   ·exact ⟨fun h => by omega,fun h => by omega⟩

theorem DD {p : List Nd} (hp : xq p = true) {v : Nat} {x : Nd} (hx : p[v]? = some x) (h5 : ¬ x.kind = 5) (h1 : ¬ x.kind = 1) {out : List UInt8} (ho : out.length <= 400) :
  V 26 [wO p out,iN (v : Int)] = some (.tup [],[wO p (out ++ yd x)]) := by
 have hok := yk hp hx
 have hk := Ik hok
 have hv := aQ hx
 have hl := BF hok
 have ht : ∀ s : List UInt8,s.length <= 40 -> V 47 [wO p out,.str (mk s)] = some (.tup [],[wO p (out ++ s)]) := fun s hs => Bw p (by omega)
 rw [yD]
 by_cases h2 : x.kind = 2
 ·have e : yd x = if x.n = 1 then [35,116] else [35,102] := by simp [yd,h2]
  rw [e]
  by_cases hn : x.n = 1
  ·rw [if_pos hn]; simp (disch := first | omega | (simp only [lnA,lnC,lnN,lnM,xj,u9]; omega)) only [↓vc,vq,↓wC,↓vW,↓wc,↓wJ,↓ws,↓wv,↓vV,↓wz,↓wx,↓wy,↓vG,↓vH,↓ww,↓wl,xe,xd,xa,w9,Bool.and_true,lnM,u9,↓wk hx,yh,lit,ht]
  ·rw [if_neg hn]; simp (disch := first | omega | (simp only [lnA,lnC,lnN,lnM,xj,u9]; omega)) only [↓vc,vq,↓wC,↓vW,↓wc,↓wJ,↓ws,↓wv,↓vV,↓wz,↓wx,↓wy,↓vG,↓vH,↓ww,↓wl,xe,xd,xa,w9,Bool.and_true,lnM,u9,↓wk hx,yh,lit,ht]
 by_cases h4 : x.kind = 4
 ·have e : yd x = x.s.data.toList := by simp [yd,h4]
  rw [e] at hl ⊢
  have hs := ht x.s.data.toList hl
  rw [Gy] at hs
  simp (disch := first | omega | (simp only [lnA,lnC,lnN,lnM,xj,u9]; omega)) only [↓vc,vq,↓wC,↓vW,↓wc,↓wJ,↓ws,↓wv,↓vV,↓wz,↓wx,↓wy,↓vG,↓vH,↓ww,↓wl,xe,xd,xa,w9,Bool.and_true,lnM,u9,↓wk hx,yh,hs]
 have hd := AX hok h4
 have hdg := GT (n := x.n) (by omega)
 have hdn := CJ hd
 by_cases h3 : x.kind = 3
 ·have e : yd x = yr x.n := by simp [yd,h3]
  rw [e]
  simp (disch := first | omega | (simp only [lnA,lnC,lnN,lnM,xj,u9]; omega)) only [↓vc,vq,↓wC,↓vW,↓wc,↓wJ,↓ws,↓wv,↓vV,↓wz,↓wx,↓wy,↓vG,↓vH,↓ww,↓wl,xe,xd,xa,w9,Bool.and_true,lnM,u9,↓wk hx,yh,hdg,ht]
 by_cases h6 : x.kind = 6
 ·have e : yd x = [35,102,117,110] ++ yr x.n := by simp [yd,h6]
  rw [e]
  simp (disch := first | omega | (simp only [lnA,lnC,lnN,lnM,xj,u9]; omega)) only [↓vc,vq,↓vW,↓wc,↓wJ,↓ws,↓wv,↓vV,↓wz,↓wx,↓wy,↓vG,↓vH,↓ww,↓vJ,vJ,Int.reduceSub,Int.reduceToNat,↓wl,xe,xd,w9,Bool.and_true,lnM,lnC,lnN,nV,wS,u9,↓wk hx,yh,hdg,h6,lit,yB,xj,ht]
 by_cases h7 : x.kind = 7
 ·have e : yd x = [35,107,111,110,116] ++ yr x.n := by simp [yd,h7]
  rw [e]
  simp (disch := first | omega | (simp only [lnA,lnC,lnN,lnM,xj,u9]; omega)) only [↓vc,vq,↓vW,↓wc,↓wJ,↓ws,↓wv,↓vV,↓wz,↓wx,↓wy,↓vG,↓vH,↓ww,↓vK,vK,Int.reduceSub,Int.reduceToNat,↓wl,xe,xd,w9,Bool.and_true,lnM,lnC,lnN,nV,wS,u9,↓wk hx,yh,hdg,h7,lit,yB,xj,ht]
 by_cases h8 : x.kind = 8
 ·have e : yd x = [35,112,114,105,109] ++ yr x.n := by simp [yd,h8]
  rw [e]
  simp (disch := first | omega | (simp only [lnA,lnC,lnN,lnM,xj,u9]; omega)) only [↓vc,vq,↓vW,↓wc,↓wJ,↓ws,↓wv,↓vV,↓wz,↓wx,↓wy,↓vG,↓vH,↓ww,↓vL,vL,Int.reduceSub,Int.reduceToNat,↓wl,xe,xd,w9,Bool.and_true,lnM,lnC,lnN,nV,wS,u9,↓wk hx,yh,hdg,h8,lit,yB,xj,ht]
 have h9 : x.kind = 9 := by omega
 have e : yd x = [35,112,105,100] ++ yr x.n := by simp [yd,h9]
 rw [e]
 simp (disch := first | omega | (simp only [lnA,lnC,lnN,lnM,xj,u9]; omega)) only [↓vc,vq,↓vW,↓wc,↓wJ,↓ws,↓wv,↓vV,↓wz,↓wx,↓wy,↓vG,↓vH,↓ww,↓vN,vN,Int.reduceSub,Int.reduceToNat,↓wl,xe,xd,w9,Bool.and_true,lnM,lnC,lnN,nV,wS,u9,↓wk hx,yh,hdg,h9,lit,yB,xj,ht]
theorem DE {p : List Nd} {v : Nat} {x : Nd} (hx : p[v]? = some x) {out : List UInt8} (ho : 400 < out.length) :
  V 26 [wO p out,iN (v : Int)] = some (.tup [],[wO p out]) := by
 have hv := aQ hx
 rw [yD]
 simp (disch := first | omega | (simp only [lnA,lnC,lnN,lnM,xj,u9]; omega)) only [↓vc,vq,↓wC,↓wc,↓wJ,↓ws,↓wv,↓vV,↓wz,↓wx,↓wy,↓vG,↓ww,↓wl,xe,Bool.and_true,lnM,u9,↓wk hx,yh]
theorem CU {p : List Nd} (hp : xq p = true) : ∀ (g : Nat),
  (∀ (v : Nat) (out : List UInt8),v < p.length -> 2 * v + 3 <= g -> out.length <= 300010 -> V 26 [wO p out,iN (v : Int)] = some (.tup [],[wO p (wm p g none v out)])) /\
  (∀ (v : Nat) (first : Bool) (out : List UInt8),v < p.length -> 2 * v + 2 <= g -> out.length <= 300000 -> xG (v : Int) first (p.map eN) (out.map eU) = some (.tup [],[wO p (wm p g (some first) v out)]))
 | 0 => ⟨fun v out _ h _ => by omega,fun v f out _ h _ => by omega⟩
 | g + 1 => by
  obtain ⟨ihv,iht⟩ := CU hp g
  have hl := yl hp
  refine ⟨fun v out hv hg ho => ?_,fun v first out hv hg ho => ?_⟩
  ·obtain ⟨x,hx⟩ := vI hv
   have hok := yk hp hx
   by_cases hf : out.length > 400
   ·rw [DE hx hf]; simp only [wm,if_pos hf]
   by_cases h15 : x.kind = 5 \/ x.kind = 1
   ·have h2 := iht v true (out ++ [40]) hv (by omega) (by simp; omega)
    have hlen := ((Dh hp g v (out ++ [40])).2 true)
    simp only [lnA,lnC,lnN] at hlen
    have hle : (wm p g (some true) v (out ++ [40])).length <= 200000 := by
     by_cases c : out.length + 1 <= 400
     ·have := hlen.1 c; omega
     ·have := hlen.2 (by omega); omega
    have h3 : V 48 [wO p (out ++ [40]),iN (v : Int)] = some (.tup [],[wO p (wm p g (some true) v (out ++ [40]))]) := by
     rw [AC]; exact h2
    have t1 : V 47 [wO p out,.str (mk [40])] = some (.tup [],[wO p (out ++ [40])]) := Bw p (by simp; omega)
    have t2 : V 47 [wO p (wm p g (some true) v (out ++ [40])),.str (mk [41])] = some (.tup [],[wO p (wm p g (some true) v (out ++ [40]) ++ [41])]) := Bw p (by simp; omega)
    have e : wm p (g + 1) none v out = wm p g (some true) v (out ++ [40]) ++ [41] := by
     simp only [wm,if_neg hf,hx,if_pos h15]
    rw [e,yD]
    rcases h15 with h | h
    ·simp (disch := first | omega | (simp only [lnA,lnC,lnN,lnM,xj,u9]; omega)) only [↓vc,vq,↓wC,↓vW,↓wc,↓wJ,↓ws,↓wv,↓vV,↓wz,↓wx,↓wy,↓vG,↓vH,↓ww,↓wl,xe,xd,xa,w9,Bool.and_true,lnM,u9,↓wk hx,yh,lit,t1,t2,h3]
    ·simp (disch := first | omega | (simp only [lnA,lnC,lnN,lnM,xj,u9]; omega)) only [↓vc,vq,↓wC,↓vW,↓wc,↓wJ,↓ws,↓wv,↓vV,↓wz,↓wx,↓wy,↓vG,↓vH,↓ww,↓wl,xe,xd,xa,Bool.and_true,lnM,u9,↓wk hx,yh,lit,t1,t2,h3]
   ·rw [DD hp hx (fun h => h15 (.inl h)) (fun h => h15 (.inr h)) (by omega)]
    simp only [wm,if_neg hf,hx,if_neg h15]
  ·obtain ⟨x,hx⟩ := vI hv
   have hok := yk hp hx
   rw [zF]
   by_cases h5 : x.kind = 5
   ·by_cases hf : out.length <= 400
    ·have hk := yP hok h5
     obtain ⟨ka,hka⟩ := Int.eq_ofNat_of_zero_le hk.1
     obtain ⟨kb,hkb⟩ := Int.eq_ofNat_of_zero_le hk.2.2.1
     have hw : ∀ o : List UInt8,o.length <= 401 -> (wm p g none ka o).length <= 200000 := fun o ho => by
      have h := (Dh hp g ka o).1
      by_cases c : o.length <= 400
      ·have := h.1 c; omega
      ·have := h.2 (by omega); omega
     have hc : x.kind = 5 /\ out.length <= 400 := ⟨h5,hf⟩
     have e : wm p (g + 1) (some first) v out = wm p g (some false) kb (wm p g none ka (if first then out else out ++ [32])) := by
      simp only [wm,hx,if_pos hc,hka,hkb,Int.toNat_natCast]
     rw [e]
     cases first with
     | true =>
      have h1 := ihv ka out (by omega) (by omega) (by omega)
      have h2 := iht kb false (wm p g none ka out) (by omega) (by omega) (by have := hw out (by omega); omega)
      simp (disch := first | omega | (simp only [lnA,lnC,lnN,lnM,xj,u9]; omega)) only [↓vc,vq,↓wC,↓vW,↓wc,↓wJ,↓ws,↓wv,↓vV,↓wx,↓wy,↓vG,↓vH,↓ww,↓vJ,↓vN,↓vO,vJ,vN,vO,↓wl,xe,xd,xa,Bool.and_true,Bool.not_true,Bool.not_false,lnM,u9,↓wk hx,yh,hka,hkb,h1,h2,if_true]
     | false =>
      have t1 : V 47 [wO p out,.str (mk [32])] = some (.tup [],[wO p (out ++ [32])]) := Bw p (by simp; omega)
      have h1 := ihv ka (out ++ [32]) (by omega) (by omega) (by simp; omega)
      have h2 := iht kb false (wm p g none ka (out ++ [32])) (by omega) (by omega) (by have := hw (out ++ [32]) (by simp; omega); omega)
      simp (disch := first | omega | (simp only [lnA,lnC,lnN,lnM,xj,u9]; omega)) only [↓vc,vq,↓wC,↓wc,↓wJ,↓ws,↓wv,↓vV,↓wx,↓wy,↓vG,↓vH,↓ww,↓vJ,↓vN,↓vO,vJ,vN,vO,↓wl,xe,xd,xa,Bool.true_and,Bool.and_true,Bool.not_false,lnM,u9,↓wk hx,yh,lit,t1,hka,hkb,h1,h2,if_false,Bool.false_eq_true]
    ·have e : wm p (g + 1) (some first) v out = out := by
      simp only [wm,hx,if_neg (fun h : x.kind = 5 /\ out.length <= 400 => hf h.2),if_pos (show x.kind = 1 \/ x.kind = 5 from .inr h5)]
     rw [e]
     simp (disch := first | omega | (simp only [lnA,lnC,lnN,lnM,xj,u9]; omega)) only [↓vc,vq,↓wC,↓vW,↓wc,↓wJ,↓ws,↓wv,↓vV,↓wx,↓wy,↓vG,↓ww,↓vJ,vJ,↓wl,xe,xa,xc,xb,Bool.and_true,Bool.not_true,lnM,u9,↓wk hx,yh]
   ·by_cases h1 : x.kind = 1
    ·have e : wm p (g + 1) (some first) v out = out := by
      simp only [wm,hx,if_neg (fun h : x.kind = 5 /\ out.length <= 400 => h5 h.1),if_pos (show x.kind = 1 \/ x.kind = 5 from .inl h1)]
     rw [e]
     simp (disch := first | omega | (simp only [lnA,lnC,lnN,lnM,xj,u9]; omega)) only [↓vW,↓wc,↓wv,↓vG,↓vJ,vJ,↓wl,xe,w9,xb,Bool.and_true,lnM,u9,↓wk hx]
    ·have e : wm p (g + 1) (some first) v out = wm p g none v (out ++ [32,46,32]) := by
      simp only [wm,hx,if_neg (fun h : x.kind = 5 /\ out.length <= 400 => h5 h.1),if_neg (fun h : x.kind = 1 \/ x.kind = 5 => h.elim h1 h5)]
     have t1 : V 47 [wO p out,.str (mk [32,46,32])] = some (.tup [],[wO p (out ++ [32,46,32])]) := Bw p (by simp; omega)
     have h2 : V 26 [wO p (out ++ [32,46,32]),iN (v : Int)] = some (.tup [],[wO p (wm p g none v (out ++ [32,46,32]))]) := by
      cases g with
      | zero => omega
      | succ g =>
      by_cases hf : (out ++ [32,46,32]).length > 400
      ·rw [DE hx hf]; simp only [wm,if_pos hf]
      ·rw [DD hp hx h5 h1 (by omega)]
       simp only [wm,if_neg hf,hx,if_neg (fun h : x.kind = 5 \/ x.kind = 1 => h.elim h5 h1)]
     rw [e]
     simp (disch := first | omega | (simp only [lnA,lnC,lnN,lnM,xj,u9]; omega)) only [↓vc,vq,↓wC,↓vW,↓wc,↓wJ,↓ws,↓wv,↓wx,↓wy,↓vG,↓vH,↓ww,↓vJ,vJ,↓wl,xe,w9,xc,Bool.and_true,lnM,u9,↓wk hx,lit,t1,h2]

theorem EE {p : List Nd} (hf : zd p) (hl : p.length < 4611686018427387904) (v : Int) : V 8 [eP p,iN v] = some (.str (mk (ym p v)),[]) := by
 rw [Fc]
 unfold ym
 cases hp : xq p with
 | false => rw [if_neg (by simp)]; simp (disch := first | omega | (simp only [lnA,lnC,lnN,lnM,xj,u9]; omega)) only [↓vc,vq,↓wC,↓wJ,↓vV,Bool.not_false,xH hf hl,hp,lit]
 | true =>
  cases hv : wi v 0 ((p.length : Int) - 1) with
  | false => rw [if_neg (by simp)]; simp (disch := first | omega | (simp only [lnA,lnC,lnN,lnM,xj,u9]; omega)) only [↓vc,vq,↓wC,↓vW,↓wJ,↓vV,Bool.not_true,Bool.not_false,xH hf hl,hp,zY hl v,hv,lit]
  | true =>
   have h := wi_iff.1 hv
   obtain ⟨n,rfl⟩ := Int.eq_ofNat_of_zero_le h.1
   obtain ⟨x,hx⟩ := vI (l := p) (i := n) (by omega)
   rw [if_pos ⟨rfl,rfl⟩,Int.toNat_natCast]
   by_cases h1 : x.kind = 1
   ·have e : wr p (2 * n + 1) false n [] = [40,41] := by simp [wr,hx,h1,yd]
    rw [e,if_neg (by simp)]
    simp (disch := first | omega | (simp only [lnA,lnC,lnN,lnM,xj,u9]; omega)) only [↓vc,vq,↓wC,↓vW,↓wc,↓wJ,↓wv,↓vV,↓vG,↓vJ,vJ,xe,xa,Bool.and_true,Bool.not_true,lnM,u9,xH hf hl,hp,zY hl,hv,↓wk hx,lit]
   ·have hw : V 26 [.op [.rs (5,0) (p.map eN),.os (1,0) []],iN (n : Int)] = some (.tup [],[wO p (wm p (2 * n + 3) none n [])]) := (CU hp (2 * n + 3)).1 n [] (by omega) (Nat.le_refl _) (by simp)
    have ha := (Dg hp (2 * n + 3)).1 (2 * n + 1) n [] (by omega) (by omega) (by omega)
    by_cases hc : (wm p (2 * n + 3) none n []).length > 400
    ·have hc2 : (wr p (2 * n + 1) false n []).length > 400 := by
      rcases ha with ha | ⟨_,ha⟩
      ·rw [<- ha]; exact hc
      ·exact ha
     rw [if_pos hc2]
     simp (disch := first | omega | (simp only [lnA,lnC,lnN,lnM,xj,u9]; omega)) only [↓vc,vq,↓wC,↓vW,↓wc,↓wJ,↓ws,↓wv,↓vV,↓wx,↓wy,↓vG,↓vH,↓ww,↓vJ,vJ,xe,w9,Bool.and_true,Bool.not_true,lnM,u9,xH hf hl,hp,zY hl,hv,↓wk hx,lit,hw,yh]
    ·have ha2 : wm p (2 * n + 3) none n [] = wr p (2 * n + 1) false n [] := by
      rcases ha with ha | ⟨h,_⟩
      ·exact ha
      ·exact absurd h hc
     rw [<- ha2,if_neg hc]
     simp (disch := first | omega | (simp only [lnA,lnC,lnN,lnM,xj,u9]; omega)) only [↓vc,vq,↓vW,↓wc,↓wJ,↓ws,↓wv,↓vV,↓wx,↓wy,↓vG,↓vH,↓ww,↓vJ,vJ,xe,xd,w9,Bool.and_true,Bool.not_true,lnM,u9,xH hf hl,hp,zY hl,hv,↓wk hx,hw,yh,↓Gf]
end Go.Eng
/-! code and machines: when they are right,on both sides -/
namespace Go.Eng
open Go.Proofs Go.Proofs.Try
set_option maxHeartbeats 4000000

structure In where
 op : Int
 n : Int
 i : Int
 s : ByteArray
structure Df where
 name : ByteArray
 at' : Int
 args : Int
structure Cd where
 pool : List Nd
 list : List In
 defs : List Df
structure FitsC (c : Cd) : Prop where
 pool : zd c.pool
 plen : c.pool.length < 4611686018427387904
 list : ∀ x ∈ c.list,x.s.size < 4611686018427387904
 llen : c.list.length < 4611686018427387904
 defs : ∀ x ∈ c.defs,x.name.size < 4611686018427387904
 dlen : c.defs.length < 4611686018427387904
section
variable {R : Type}
end
structure Mc where
 pool : List Nd
 at' : Int
 s : Int
 e : Int
 d : Int
 state : Int
 ask : Int
 arg : Int
noncomputable def I4 (p : List Nd) (v : Int) : Bool := wi v 0 ((p.length : Int) - 1)
end Go.Eng
/-! numbers and texts as bytes,on both sides -/
namespace Go.Eng
open Go.Proofs Go.Proofs.Try

end Go.Eng
/-! how great a value is,the program's side -/
namespace Go.Eng
open Go.Proofs Go.Proofs.Try

end Go.Eng
/-! what is moved is as it was: the plain side -/
namespace Go.Eng

noncomputable def AE (p : List Nd) : Prop := ∀ (j : Nat) (x : Nd),p[j]? = some x -> okN x j = true
theorem DI {p : List Nd} (h : AE p) : ∀ (k i : Nat),zH p i k = true
 | 0,i => rfl
 | k + 1,i => by
  simp only [zH,DI h k (i + 1),Bool.and_true]
  split
  ·exact h _ _ ‹_›
  ·rfl
theorem okPool_iff {p : List Nd} : xq p = true ↔ AE p /\ p.length <= 3000 := by
 constructor
 ·intro h; exact ⟨fun j x hx => yk h hx,yl h⟩
 ·rintro ⟨h,hl⟩
  simp only [xq,DI h,Bool.true_and,decide_eq_true_eq]; omega
end Go.Eng
/-! what is kept is all reached,and as great as it was: the plain side -/
namespace Go.Eng

inductive Rch (q : List Nd) (rs : List Int) : Nat -> Prop
 | root {r : Int} : r ∈ rs -> Rch q rs r.toNat
 | a {i : Nat} {x : Nd} : Rch q rs i -> q[i]? = some x -> (x.kind = 5 \/ x.kind = 6 \/ x.kind = 7) -> Rch q rs x.a.toNat
 | b {i : Nat} {x : Nd} : Rch q rs i -> q[i]? = some x -> x.kind = 5 -> Rch q rs x.b.toNat
noncomputable def ids (n : Nat) : List Int := (List.range n).map fun k : Nat => (k : Int)
end Go.Eng
/-! nodes as bytes,on both sides -/
namespace Go.Eng
open Go.Proofs Go.Proofs.Try
set_option maxHeartbeats 4000000

structure NdOk (x : Nd) (i : Nat) : Prop where
 k1 : 1 <= x.kind
 k9 : x.kind <= 9
 n3 : -1000000000 <= x.n
 n9 : x.n <= 1000000000
 n0 : x.kind ≠ 3 -> 0 <= x.n
 a0 : 0 <= x.a
 a1 : x.a <= i
 b0 : 0 <= x.b
 b1 : x.b <= i
 s4 : x.s.size <= 12
end Go.Eng
/-! tidying,and machines as bytes,on both sides -/
namespace Go.Eng
open Go.Proofs Go.Proofs.Try
set_option maxHeartbeats 4000000

noncomputable def holds (m : Mc) : Bool := decide (m.state = 1 \/ m.state = 2)
end Go.Eng
/-! words of a text,on both sides -/
namespace Go.Eng
noncomputable section
open Go.Proofs Go.Proofs.Try
set_option maxHeartbeats 4000000

def dU (x : UInt8) : Bool := decide (48 <= x.toNat) && decide (x.toNat <= 57)
def xN (x : UInt8) : Bool := nmB (x.toNat : Int) || (dU x || (x.toNat : Int) == 35)
theorem dU_iff {x : UInt8} : dU x = true ↔ 48 <= x.toNat /\ x.toNat <= 57 := by simp [dU]
theorem G6 (x : UInt8) : br (decide ((x.toNat : Int) >= 48)) (some (D.bool (decide ((x.toNat : Int) <= 57)),([] : List D))) (some (D.bool false,[])) = some (.bool (dU x),[]) := by
 unfold dU
 by_cases h1 : 48 <= x.toNat
 ·by_cases h2 : x.toNat <= 57
  ·rw [vX (decide_eq_true (by omega)),decide_eq_true (by omega),decide_eq_true h1,decide_eq_true h2]; rfl
  ·rw [vX (decide_eq_true (by omega)),decide_eq_false (by omega),decide_eq_true h1,decide_eq_false h2]; rfl
 ·rw [vi (decide_eq_false (by omega)),decide_eq_false h1]; rfl
theorem BW (x : UInt8) : V 55 [.int .u8 (x.toNat : Int)] = some (.bool (dU x),[]) := (Dk _).trans (G6 x)
theorem DM (x : UInt8) : V 43 [.int .u8 (x.toNat : Int)] = some (.bool (dU x),[]) := (Dp _).trans (G6 x)
theorem Bu (x : UInt8) : V 37 [.int .u8 (x.toNat : Int)] = some (.bool (xN x),[]) := by
 rw [BJ,z9 (Bq _),z6 (BW x),EI,EI]; rfl
theorem z8 (x : UInt8) : V 22 [.int .u8 (x.toNat : Int)] = some (.bool (xN x),[]) := by
 rw [BQ,Ae (Bv _),Bm (DM x),EI,EI]; rfl

def xM (acc : Nat) (l : List UInt8) : Nat := l.foldl (fun n x => 10 * n + (x.toNat - 48)) acc
theorem GD : ∀ (l : List UInt8) (acc k : Nat),l.all dU = true -> acc < 10 ^ k -> xM acc l < 10 ^ (k + l.length)
 | [],acc,k,_,h => h
 | x :: l,acc,k,hl,h => by
  rw [List.all_cons,Bool.and_eq_true] at hl
  have hx := dU_iff.1 hl.1
  have := GD l (10 * acc + (x.toNat - 48)) (k + 1) hl.2 (by rw [Nat.pow_succ]; omega)
  rw [lnC]
  have e : k + (l.length + 1) = k + 1 + l.length := by omega
  rw [e]; exact this
abbrev noW : D := .tup [iN 0,.bool false]
theorem Bn {k : Nat} (h : k <= 10) : 10 ^ k <= 10000000000 := by
 have : 10 ^ k <= 10 ^ 10 := Nat.pow_le_pow_right (by omega) h
 simpa using this
theorem Fm {l : List UInt8} (hl : l.length <= 10) : ∀ (k i acc : Nat),i + k = l.length -> acc < 10 ^ i -> ya (mk l) (acc : Int) (ni l.length) (i : Int) = some (if (l.drop i).all dU = true then .tup [iN (xM acc (l.drop i) : Nat),.bool true] else noW,[])
 | 0,i,acc,hi,ha => by
  rw [zg,List.drop_of_length_le (by omega)]
  simp (disch := first | omega | (simp only [lnA,lnC,lnN,lnM,xj,u9]; omega)) only [↓vW,xd,u9]
  rfl
 | k + 1,i,acc,hi,ha => by
  obtain ⟨x,hx⟩ := vI (l := l) (i := i) (by omega)
  have hp := Bn (k := i) (by omega)
  have hb := zy hx
  have hd := BW x
  rw [zg,vX (wX (by omega)),wT (by rw [xj]; exact wW (by omega)),hb,z6 hd,rV hx,List.all_cons]
  cases h : dU x with
  | false => rw [Bool.not_false,wC,if_neg (by simp)]
  | true =>
   have hx2 := dU_iff.1 h
   have e1 : IntKind.wrap .u8 ((x.toNat : Int) - 48) = ((x.toNat - 48 : Nat) : Int) := by rw [GE (by omega) (by omega)]; omega
   have e2 : w6 (w6 (10 * (acc : Int)) + w6 ((x.toNat - 48 : Nat) : Int)) = ((10 * acc + (x.toNat - 48) : Nat) : Int) := by
    rw [w64 (n := 10 * (acc : Int)) (by omega) (by omega),w64 (n := ((x.toNat - 48 : Nat) : Int)) (by omega) (by omega),w64 (by omega) (by omega)]; omega
   have ih := Fm hl k (i + 1) (10 * acc + (x.toNat - 48)) (by omega) (by rw [Nat.pow_succ]; omega)
   rw [Bool.not_true,vW,wT (by rw [xj]; exact wW (by omega)),e1,e2,xh (by omega),ih,Bool.true_and]
   rfl
def xX (l : List UInt8) : Option Nat := if l.length = 0 \/ 10 < l.length \/ (l[0]? = some 48 /\ 1 < l.length) \/ l.all dU = false then none else some (xM 0 l)
def Ju (r : Option Nat) : D := match r with | some n => .tup [iN (n : Int),.bool true] | none => noW
theorem DN (l : List UInt8) (hb : l.length < 4611686018427387904) : V 56 [.str (mk l),iN 10] = some (Ju (xX l),[]) := by
 have he : jt (mk l) ⟨#[]⟩ = decide (l = []) := zm l []
 rw [Dl,he,xj]
 unfold xX
 by_cases h0 : l = []
 ·subst h0; rfl
 have hz : l.length ≠ 0 := fun h => h0 (List.eq_nil_of_length_eq_zero h)
 rw [vi (decide_eq_false h0)]
 by_cases h1 : 10 < l.length
 ·rw [vX (decide_eq_true (by simp only [ni]; omega)),if_pos (.inr (.inl h1))]; rfl
 rw [vi (decide_eq_false (by simp only [ni]; omega))]
 obtain ⟨x,hx⟩ := vI (l := l) (i := 0) (by omega)
 have hbt : bt (mk l) 0 = (x.toNat : Int) := zy hx
 have hl := Fm (l := l) (by omega) l.length 0 0 (by omega) (by simp)
 rw [Int.natCast_zero,List.drop_zero] at hl
 rw [wT (by simp only [ni,Bool.and_eq_true,decide_eq_true_eq]; omega),hbt]
 have fin : ¬ (l[0]? = some 48 /\ 1 < l.length) -> ya (mk l) 0 (ni l.length) 0 = some (Ju (if l.length = 0 \/ 10 < l.length \/ (l[0]? = some 48 /\ 1 < l.length) \/ l.all dU = false then none else some (xM 0 l)),[]) := by
  intro hn
  rw [hl]
  cases ha : l.all dU with
  | false => rw [if_neg (by simp),if_pos (.inr (.inr (.inr rfl)))]; rfl
  | true => rw [if_pos rfl,if_neg (by rintro (h | h | h | h) <;> first | omega | exact hn h | cases h)]; rfl
 by_cases h48 : x.toNat = 48
 ·have hx48 : l[0]? = some 48 := by rw [hx]; congr 1; exact UInt8.toNat_inj.1 h48
  rw [vX (by simp [h48])]
  by_cases hl1 : 1 < l.length
  ·rw [vX (decide_eq_true (by simp only [ni]; omega)),if_pos (.inr (.inr (.inl ⟨hx48,hl1⟩)))]; rfl
  ·rw [vi (decide_eq_false (by simp only [ni]; omega))]
   exact fin (fun h => hl1 h.2)
 ·have hx48 : l[0]? ≠ some 48 := by
   rw [hx]; intro h; apply h48; cases h; rfl
  rw [vi (by simp only [beq_eq_false_iff_ne,ne_eq]; omega)]
  exact fin (fun h => hx48 h.1)
theorem GU (l : List UInt8) (x : UInt8) (acc : Nat) : xM acc (l ++ [x]) = 10 * xM acc l + (x.toNat - 48) := by simp [xM]
theorem FK : ∀ (l : List UInt8) (acc : Nat),0 < acc -> 0 < xM acc l
 | [],acc,h => h
 | x :: l,acc,h => FK l (10 * acc + (x.toNat - 48)) (by omega)
theorem EZ : ∀ (n : Nat) (l : List UInt8),l.length = n + 1 -> l.all dU = true -> (l[0]? ≠ some 48 \/ l.length = 1) -> yN (xM 0 l) = l
 | 0,l,hn,ha,h0 => by
  match l,hn with
  | [x],_ =>
   have hx := dU_iff.1 (by simpa using ha)
   have e : xM 0 [x] = x.toNat - 48 := by simp [xM]
   rw [e,xC (by omega)]
   congr 1
   apply UInt8.toNat_inj.1
   simp; omega
 | n + 1,l,hn,ha,h0 => by
  have hne : l ≠ [] := by intro h; rw [h] at hn; simp at hn
  obtain ⟨l',x,rfl⟩ : ∃ l' x,l = l' ++ [x] := ⟨l.dropLast,l.getLast hne,(List.dropLast_concat_getLast hne).symm⟩
  have hl' : l'.length = n + 1 := by simp at hn; omega
  have ha' : l'.all dU = true /\ dU x = true := by simpa using ha
  have hx := dU_iff.1 ha'.2
  have h48 : l'[0]? ≠ some 48 := by
   rcases h0 with h | h
   ·rwa [List.getElem?_append_left (by omega)] at h
   ·exfalso; rw [lnA,List.length_singleton] at h; omega
  have ih := EZ n l' hl' ha'.1 (.inl h48)
  rw [GU]
  have hpos : 0 < xM 0 l' := by
   match l',hl' with
   | y :: r,_ =>
    have hy := dU_iff.1 (by simpa using (show (y :: r).all dU = true from ha'.1) : dU y = true /\ _).1
    have hy48 : y.toNat ≠ 48 := by
     intro h; apply h48; simp; exact UInt8.toNat_inj.1 h
    exact FK r (10 * 0 + (y.toNat - 48)) (by omega)
  rw [yO (by omega)]
  have e1 : (10 * xM 0 l' + (x.toNat - 48)) / 10 = xM 0 l' := by omega
  have e2 : (10 * xM 0 l' + (x.toNat - 48)) % 10 = x.toNat - 48 := by omega
  rw [e1,e2,ih]
  congr 2
  apply UInt8.toNat_inj.1
  simp; omega
theorem Dw : ∀ (n : Nat),(yN n)[0]? ≠ some 48 \/ n = 0 := by
 intro n
 induction n using Nat.strongRecOn with
 | _ n ih =>
  by_cases h : n < 10
  ·by_cases h0 : n = 0
   ·exact .inr h0
   ·left
    rw [xC h]
    intro e
    simp at e
    have := congrArg UInt8.toNat e
    simp at this
    omega
  ·left
   rw [yO h,List.getElem?_append_left (CK _)]
   rcases ih (n / 10) (by omega) with h1 | h1
   ·exact h1
   ·omega
theorem EU {l : List UInt8} (h0 : l.length ≠ 0) (h10 : ¬ 10 < l.length) (ha : l.all dU = true) : yN (xM 0 l) = l ↔ ¬ (l[0]? = some 48 /\ 1 < l.length) := by
 constructor
 ·rintro h ⟨h1,h2⟩
  rcases Dw (xM 0 l) with h3 | h3
  ·rw [h] at h3; exact h3 h1
  ·rw [h3,xC (by omega)] at h
   have := congrArg List.length h
   simp at this; omega
 ·intro h
  refine EZ (l.length - 1) l (by omega) ha ?_
  by_cases h1 : l[0]? = some 48
  ·exact .inr (by
           have : ¬ 1 < l.length := fun h2 => h ⟨h1,h2⟩
           omega)
  ·exact .inl h1
theorem C8 {l : List UInt8} : ∀ (k i : Nat),BV (mk l) i k = true -> ∀ j,i <= j -> j < i + k -> ∀ x,l[j]? = some x -> nmB (x.toNat : Int) = true
 | 0,i,_,j,h1,h2,_,_ => by omega
 | k + 1,i,h,j,h1,h2,x,hx => by
  simp only [BV,Bool.and_eq_true] at h
  by_cases e : i = j
  ·subst e
   rw [zy hx] at h
   exact h.1
  ·exact C8 k (i + 1) h.2 j (by omega) (by omega) x hx
theorem GJ {x : UInt8} (h : dU x = true) : nmB (x.toNat : Int) = false := by
 have := dU_iff.1 h
 unfold nmB
 rw [decide_eq_false (show ¬ (x.toNat : Int) >= 97 by omega)]
 simp only [Bool.false_and,Bool.false_or,List.any_cons,List.any_nil,Bool.or_false]
 have hne : ∀ k : Int,(k < 48 \/ 57 < k) -> ((x.toNat : Int) == k) = false := fun k hk => by simp only [beq_eq_false_iff_ne,ne_eq]; omega
 rw [hne 43 (by omega),hne 45 (by omega),hne 42 (by omega),hne 60 (by omega),hne 61 (by omega),hne 63 (by omega),hne 33 (by omega),hne 47 (by omega)]
 rfl
theorem Fq {l : List UInt8} {j : Nat} {x : UInt8} (hx : l[j]? = some x) (h : dU x = true) : z5 (mk l) = false := by
 cases e : z5 (mk l) with
 | false => rfl
 | true =>
  simp only [z5,Bool.and_eq_true] at e
  have := C8 _ _ e.2 j (Nat.zero_le _) (by rw [xj]; have := aQ hx; omega) x hx
  rw [GJ h] at this; cases this
end
end Go.Eng
/-! the node of a word,on both sides -/
namespace Go.Eng
noncomputable section
open Go.Proofs Go.Proofs.Try
set_option maxHeartbeats 4000000

def Au (r : Option Nat) : Option Int := match r with | some n => if n <= 1000000000 then some (n : Int) else none | none => none
def Cx (r : Option Nat) : Option Int := match r with | some n => if 0 < n /\ n <= 1000000000 then some (-(n : Int)) else none | none => none
def Dq (l : List UInt8) : Option Int := match l with
 | x :: d :: r => if x = 45 /\ dU d = true then Cx (xX (d :: r)) else Au (xX l)
 | _ => Au (xX l)
def zT (r : Option Int) (l : List UInt8) : Option Nd := match r with | some n => some ⟨3,n,⟨#[]⟩,0,0⟩ | none => if z5 (mk l) = true then some ⟨4,0,mk l,0,0⟩ else none
def xZ (l : List UInt8) : Option Nd := if l = [35,116] then some ⟨2,1,⟨#[]⟩,0,0⟩ else if l = [35,102] then some ⟨2,0,⟨#[]⟩,0,0⟩ else zT (Dq l) l
def zM (r : Option Nd) (x : Nd) (b : Bool) : Prop := match r with | some y => x = y /\ b = true | none => b = false
theorem zR {l : List UInt8} {n : Nat} (h : xX l = some n) : l.length ≠ 0 /\ ¬ 10 < l.length /\ ¬ (l[0]? = some 48 /\ 1 < l.length) /\ l.all dU = true /\ n = xM 0 l /\ n < 10000000000 := by
 unfold xX at h
 split at h
 ·cases h
 ·rename_i hn
  cases h
  have ha : l.all dU = true := by
   cases e : l.all dU with
   | true => rfl
   | false => exact absurd (.inr (.inr (.inr e))) hn
  have h10 : ¬ 10 < l.length := fun e => hn (.inr (.inl e))
  have := GD l 0 0 ha (by simp)
  rw [Nat.zero_add] at this
  have := Bn (k := l.length) (by omega)
  exact ⟨fun e => hn (.inl e),h10,fun e => hn (.inr (.inr (.inl e))),ha,rfl,by omega⟩
theorem I6 {l : List UInt8} {n : Nat} (h : xX l = some n) : z5 (mk l) = false := by
 have hs := zR h
 match l,hs with
 | x :: r,hs =>
  have : dU x = true := by have := hs.2.2.2.1; rw [List.all_cons,Bool.and_eq_true] at this; exact this.1
  exact Fq (j := 0) (x := x) rfl this
def tx (l : List UInt8) : Nd := match xX l with | some n => ⟨3,(n : Int),⟨#[]⟩,0,0⟩ | none => ⟨4,0,mk l,0,0⟩
def tb (l : List UInt8) : Bool := match xX l with | some n => decide (n <= 1000000000) | none => z5 (mk l)
theorem Dc (l : List UInt8) : zM (zT (Au (xX l)) l) (tx l) (tb l) := by
 unfold tx tb
 cases h : xX l with
 | none =>
  cases e : z5 (mk l) with
  | true => simp [Au,zT,zM,e]
  | false => simp [Au,zT,zM,e]
 | some n =>
  have := I6 h
  by_cases h1 : n <= 1000000000
  ·simp [Au,zT,zM,h1]
  ·simp [Au,zT,zM,h1,this]
theorem JB {l : List UInt8} (hb : l.length < 4611686018427387904) :
 @Eq (Option Ret) (ib V 56 [(.str (mk l)),(iN (10))] fun x36 l37 =>
   tk4 x36 fun n41 b44 => (unn l37 (br b44
      (
       br (decide (n41 <= 1000000000))
       (
       br (decide (n41 > 0))
       (some ((.tup [(.agg [(iN (3)),(iN (w6 (1 * n41))),(.str ({ data := #[] })),(iN (0)),(iN (0))]),(.bool true)]),[]))
       (some ((.tup [(.agg [(iN (3)),(iN (w6 (1 * n41))),(.str ({ data := #[] })),(iN (0)),(iN (0))]),(.bool true)]),[])))
       (some ((.tup [(.agg [(iN (3)),(iN (w6 (1 * n41))),(.str ({ data := #[] })),(iN (0)),(iN (0))]),(.bool false)]),[])))
      (
       ib V 50 [(.str (mk l))] fun x45 l46 =>
       asB x45 fun b47 => unn l46 (some ((.tup [(.agg [(iN (4)),(iN (0)),(.str (mk l)),(iN (0)),(iN (0))]),(.bool b47)]),[])))))) (some (.tup [eN (tx l),.bool (tb l)],[])) := by
 have hn := DN l hb
 have hnm := AK (s := mk l) (by rw [xj]; exact hb)
 unfold tx tb
 cases h : xX l with
 | none =>
  rw [h] at hn
  rw [y9 hn,vW,Cg hnm]
 | some n =>
  have hs := (zR h).2.2.2.2.2
  rw [h] at hn
  rw [y9 hn,wC,show (1 : Int) * n = n by omega,w64 (by omega) (by omega)]
  by_cases h1 : n <= 1000000000
  ·have e : decide (n <= 1000000000) = true := decide_eq_true h1
   rw [vX (decide_eq_true (by omega))]
   by_cases h0 : n = 0
   ·subst h0; rfl
   ·rw [vX (decide_eq_true (by omega))]; simp only [e]
  ·have e : decide (n <= 1000000000) = false := decide_eq_false h1
   rw [vi (decide_eq_false (by omega))]; simp only [e]
theorem Fu {l : List UInt8} (h : ¬ (l[0]? = some 45 /\ 1 < l.length)) : Dq l = Au (xX l) := by
 match l with
 | [] => rfl
 | [x] => rfl
 | x :: d :: r => rw [Dq,if_neg]; rintro ⟨e,_⟩; exact h ⟨by rw [e]; rfl,by simp⟩
theorem Gq {l : List UInt8} (hb : l.length < 4611686018427387904) : ∃ x b,V 38 [.str (mk l)] = some (.tup [eN x,.bool b],[]) /\ zM (xZ l) x b := by
 have e1 : jt (mk l) ⟨#[35,116]⟩ = decide (l = [35,116]) := zm l _
 have e2 : jt (mk l) ⟨#[35,102]⟩ = decide (l = [35,102]) := zm l _
 rw [CQ,e1,e2,JB hb]
 unfold xZ
 by_cases h1 : l = [35,116]
 ·rw [vX (decide_eq_true h1),if_pos h1]; exact ⟨⟨2,1,⟨#[]⟩,0,0⟩,true,rfl,rfl,rfl⟩
 rw [vi (decide_eq_false h1),if_neg h1]
 by_cases h2 : l = [35,102]
 ·rw [vX (decide_eq_true h2),if_pos h2]; exact ⟨⟨2,0,⟨#[]⟩,0,0⟩,true,rfl,rfl,rfl⟩
 rw [vi (decide_eq_false h2),if_neg h2,xj]
 by_cases hn : l[0]? = some 45 /\ 1 < l.length
 ·obtain ⟨hx,hl⟩ := hn
  match l,hx,hl with
  | x :: d :: r,hx,hl =>
   have hx : x = 45 := by simpa using hx
   subst hx
   have hd := BW d
   have hb0 : bt (mk (45 :: d :: r)) 0 = 45 := zy (i := 0) (x := 45) rfl
   have hb1 : bt (mk (45 :: d :: r)) 1 = (d.toNat : Int) := zy (i := 1) (x := d) rfl
   rw [vX (decide_eq_true (by simp only [ni]; omega)),wT (by simp only [ni,Bool.and_eq_true,decide_eq_true_eq]; omega),hb0,vX (by decide),wT (by simp only [ni,Bool.and_eq_true,decide_eq_true_eq]; omega),hb1,z6 hd]
   rw [Dq]
   cases hdd : dU d with
   | false =>
    rw [vW,if_neg (by simp)]
    exact ⟨_,_,rfl,Dc _⟩
   | true =>
    have hnm : z5 (mk (45 :: d :: r)) = false := Fq (j := 1) (x := d) rfl hdd
    have e : ByteArray.extract (mk (45 :: d :: r)) (Int.toNat 1) (45 :: d :: r).length = mk (d :: r) := by
     rw [yx]; congr 1; simp
    have hn := DN (d :: r) (by simp at hb ⊢; omega)
    rw [wC,if_pos ⟨rfl,rfl⟩,wT (by unfold cG; simp; omega),e]
    cases hf : xX (d :: r) with
    | none =>
     rw [hf] at hn
     rw [y9 hn,vW]
     exact ⟨⟨4,0,mk (45 :: d :: r),0,0⟩,false,rfl,by simp [Cx,zT,hnm,zM]⟩
    | some n =>
     have hs := (zR hf).2.2.2.2.2
     rw [hf] at hn
     rw [y9 hn,wC,show (-1 : Int) * n = -n by omega,w64 (by omega) (by omega)]
     by_cases h1 : n <= 1000000000
     ·rw [vX (decide_eq_true (by omega))]
      by_cases h0 : n = 0
      ·subst h0
       rw [vi (by decide)]
       exact ⟨⟨3,-((0 : Nat) : Int),⟨#[]⟩,0,0⟩,false,rfl,by simp [Cx,zT,hnm,zM]⟩
      ·rw [vX (decide_eq_true (by omega))]
       exact ⟨⟨3,-(n : Int),⟨#[]⟩,0,0⟩,true,rfl,by rw [Cx,if_pos ⟨by omega,h1⟩]; exact ⟨rfl,rfl⟩⟩
     ·rw [vi (decide_eq_false (by omega))]
      exact ⟨⟨3,-(n : Int),⟨#[]⟩,0,0⟩,false,rfl,by simp [Cx,zT,hnm,zM,h1]⟩
 ·rw [Fu hn]
  refine ⟨_,_,?_,Dc l⟩
  by_cases hl : 1 < l.length
  ·obtain ⟨x,hx⟩ := vI (l := l) (i := 0) (by omega)
   have hbt : bt (mk l) 0 = (x.toNat : Int) := zy hx
   have hne : x.toNat ≠ 45 := by
    intro h; apply hn; rw [hx]; exact ⟨by congr 1; exact UInt8.toNat_inj.1 h,hl⟩
   rw [vX (decide_eq_true (by simp only [ni]; omega)),wT (by simp only [ni,Bool.and_eq_true,decide_eq_true_eq]; omega),hbt,vi (by simp only [beq_eq_false_iff_ne,ne_eq]; omega)]
  ·rw [vi (decide_eq_false (by simp only [ni]; omega))]
def Cw (a r : List UInt8) (v : Nat) : Int := if r.length = a.length then (v : Int) else -(v : Int)
def Fi (a r : List UInt8) (v : Nat) : Bool := decide (yr (Cw a r v) = a) && wi (Cw a r v) (-1000000000) 1000000000
theorem I7 {a r : List UInt8} {v : Nat} (hv : v < 100000000000) : @Eq (Option Ret) (br (ni r.length != ni a.length)
  (ib V 58 [(iN (w6 (0 - (v : Int))))] fun x3 l4 => asS x3 fun s5 => unn l4 (br (jt s5 (mk a))
    (ib V 57 [(iN (w6 (0 - (v : Int)))),(iN (-1000000000)),(iN (1000000000))] fun x6 l7 => asB x6 fun b8 => unn l7 (some ((.tup [(iN (w6 (0 - (v : Int)))),(.bool b8)]),[])))
    (some ((.tup [(iN (w6 (0 - (v : Int)))),(.bool false)]),[]))))
  (ib V 58 [(iN (v : Int))] fun x9 l10 => asS x9 fun s11 => unn l10 (br (jt s11 (mk a))
    (ib V 57 [(iN (v : Int)),(iN (-1000000000)),(iN (1000000000))] fun x12 l13 => asB x12 fun b14 => unn l13 (some ((.tup [(iN (v : Int)),(.bool b14)]),[])))
    (some ((.tup [(iN (v : Int)),(.bool false)]),[]))))) (some (.tup [iN (Cw a r v),.bool (Fi a r v)],[])) := by
 unfold Fi Cw
 by_cases h : r.length = a.length
 ·have hd := Dd (n := (v : Int)) (by omega)
  rw [vi (by simp [ni,h]),if_pos h,zG hd,zm]
  by_cases h2 : yr (v : Int) = a
  ·rw [decide_eq_true h2,wC,yo (zI _ _ _),Bool.true_and]
  ·rw [decide_eq_false h2,vW,Bool.false_and]
 ·have hd := Dd (n := -(v : Int)) (by omega)
  rw [vX (by simp only [ni,bne_iff_ne,ne_eq]; omega),if_neg h,show (0 : Int) - (v : Int) = -(v : Int) by omega,w64 (by omega) (by omega),zG hd,zm]
  by_cases h2 : yr (-(v : Int)) = a
  ·rw [decide_eq_true h2,wC,yo (zI _ _ _),Bool.true_and]
  ·rw [decide_eq_false h2,vW,Bool.false_and]
theorem Fw {a l : List UInt8} (hl : l.length <= 10) : ∀ (k i acc : Nat),i + k = l.length -> acc < 10 ^ i -> xP (mk a) (mk l) (acc : Int) (i : Int) = some (if (l.drop i).all dU = true then .tup [iN (Cw a l (xM acc (l.drop i))),.bool (Fi a l (xM acc (l.drop i)))] else noW,[])
 | 0,i,acc,hi,ha => by
  have hp := Bn (k := i) (by omega)
  have he := I7 (a := a) (r := l) (v := acc) (by omega)
  rw [zL,List.drop_of_length_le (by omega),xj,xj,vi (wQ (by omega)),he]
  rfl
 | k + 1,i,acc,hi,ha => by
  obtain ⟨x,hx⟩ := vI (l := l) (i := i) (by omega)
  have hp := Bn (k := i) (by omega)
  have hb := zy hx
  have hd := DM x
  rw [zL,xj,vX (wX (by omega)),wT (wW (by omega)),hb,Bm hd,rV hx,List.all_cons]
  cases h : dU x with
  | false => rw [Bool.not_false,wC,if_neg (by simp)]
  | true =>
   have hx2 := dU_iff.1 h
   have e2 : w6 (w6 (w6 (10 * (acc : Int)) + w6 ((x.toNat : Nat) : Int)) - 48) = ((10 * acc + (x.toNat - 48) : Nat) : Int) := by
    rw [w64 (n := 10 * (acc : Int)) (by omega) (by omega),w64 (n := ((x.toNat : Nat) : Int)) (by omega) (by omega),w64 (n := 10 * (acc : Int) + _) (by omega) (by omega),w64 (by omega) (by omega)]; omega
   have ih := Fw (a := a) hl k (i + 1) (10 * acc + (x.toNat - 48)) (by omega) (by rw [Nat.pow_succ]; omega)
   rw [Bool.not_true,vW,wT (wW (by omega)),e2,xh (by omega),ih,Bool.true_and]
   rfl
theorem EC {l : List UInt8} (h0 : l.length ≠ 0) (h10 : ¬ 10 < l.length) (ha : l.all dU = true) : Cw l l (xM 0 l) = (xM 0 l : Int) /\ Fi l l (xM 0 l) = (Au (xX l)).isSome /\ (∀ m,Au (xX l) = some m -> m = (xM 0 l : Int)) := by
 have hz := EU h0 h10 ha
 have e1 : Cw l l (xM 0 l) = (xM 0 l : Int) := by simp [Cw]
 have e2 : yr ((xM 0 l : Nat) : Int) = yN (xM 0 l) := by simp [yr]
 refine ⟨e1,?_,?_⟩
 ·unfold Fi
  rw [e1,e2]
  by_cases h : l[0]? = some 48 /\ 1 < l.length
  ·rw [decide_eq_false (fun e => hz.1 e h),xX,if_pos (.inr (.inr (.inl h)))]; rfl
  ·have hn : xX l = some (xM 0 l) := by rw [xX,if_neg (by rintro (e | e | e | e) <;> first | omega | exact h e | (rw [ha] at e; cases e))]
   rw [decide_eq_true (hz.2 h),hn]
   unfold Au wi
   by_cases h1 : xM 0 l <= 1000000000
   ·simp [h1]; omega
   ·simp [h1]; omega
 ·intro m hm
  cases hn : xX l with
  | none => rw [hn] at hm; cases hm
  | some n =>
   have := (zR hn).2.2.2.2.1
   rw [hn] at hm
   unfold Au at hm
   simp only at hm
   split at hm
   ·cases hm; rw [this]
   ·cases hm
theorem Er {l : List UInt8} (h0 : l.length ≠ 0) (h10 : ¬ 10 < l.length) (ha : l.all dU = true) : Cw (45 :: l) l (xM 0 l) = -(xM 0 l : Int) /\ Fi (45 :: l) l (xM 0 l) = (Cx (xX l)).isSome /\ (∀ m,Cx (xX l) = some m -> m = -(xM 0 l : Int)) := by
 have hz := EU h0 h10 ha
 have e1 : Cw (45 :: l) l (xM 0 l) = -(xM 0 l : Int) := by simp [Cw]
 refine ⟨e1,?_,?_⟩
 ·unfold Fi
  rw [e1]
  by_cases h : l[0]? = some 48 /\ 1 < l.length
  ·have : yr (-(xM 0 l : Int)) ≠ 45 :: l := by
    unfold yr
    split
    ·intro e; rw [Int.natAbs_neg,Int.natAbs_natCast] at e; exact hz.1 (List.cons_inj_right _ |>.1 e) h
    ·intro e
     have e0 : xM 0 l = 0 := by omega
     rw [e0] at e
     have := xC (n := 0) (by omega)
     simp [this] at e
   rw [decide_eq_false this,xX,if_pos (.inr (.inr (.inl h)))]; rfl
  ·have hn : xX l = some (xM 0 l) := by rw [xX,if_neg (by rintro (e | e | e | e) <;> first | omega | exact h e | (rw [ha] at e; cases e))]
   rw [hn]
   by_cases h1 : xM 0 l = 0
   ·have : yr (-(xM 0 l : Int)) ≠ 45 :: l := by
     intro e
     rw [h1] at e
     have := xC (n := 0) (by omega)
     simp [yr,this] at e
    rw [decide_eq_false this,h1]; rfl
   ·have : yr (-(xM 0 l : Int)) = 45 :: l := by
     unfold yr
     rw [if_pos (by omega),Int.natAbs_neg,Int.natAbs_natCast,hz.2 h]
    rw [decide_eq_true this]
    unfold Cx wi
    by_cases h2 : xM 0 l <= 1000000000
    ·have : 0 < xM 0 l := by omega
     simp [h2,this]; omega
    ·simp [h2]; omega
 ·intro m hm
  cases hn : xX l with
  | none => rw [hn] at hm; cases hm
  | some n =>
   have := (zR hn).2.2.2.2.1
   rw [hn] at hm
   unfold Cx at hm
   simp only at hm
   split at hm
   ·cases hm; rw [this]
   ·cases hm
theorem Fx {a r : List UInt8} {F : Option Nat -> Option Int} (hF : F none = none)
  (hfin : r.length ≠ 0 -> ¬ 10 < r.length -> r.all dU = true -> Fi a r (xM 0 r) = (F (xX r)).isSome /\ (∀ m,F (xX r) = some m -> m = Cw a r (xM 0 r))) :
  ∃ n b,br (decide (ni r.length > 10)) (some (noW,[])) (br (ni r.length == 0) (some (noW,[])) (xP (mk a) (mk r) 0 0)) = some (.tup [iN n,.bool b],[]) /\ b = (F (xX r)).isSome /\ (∀ m,F (xX r) = some m -> m = n) := by
 by_cases h10 : 10 < r.length
 ·have hn : xX r = none := by rw [xX,if_pos (.inr (.inl h10))]
  rw [vX (decide_eq_true (by simp only [ni]; omega)),hn,hF]
  exact ⟨0,false,rfl,rfl,fun m h => by cases h⟩
 ·rw [vi (decide_eq_false (by simp only [ni]; omega))]
  by_cases h0 : r.length = 0
  ·have hn : xX r = none := by rw [xX,if_pos (.inl h0)]
   rw [vX (by simp [ni,h0]),hn,hF]
   exact ⟨0,false,rfl,rfl,fun m h => by cases h⟩
  ·rw [vi (by simp only [ni,beq_eq_false_iff_ne,ne_eq]; omega)]
   have hl := Fw (a := a) (l := r) (by omega) r.length 0 0 (by omega) (by simp)
   rw [Int.natCast_zero,List.drop_zero] at hl
   rw [hl]
   cases ha : r.all dU with
   | false =>
    have hn : xX r = none := by rw [xX,if_pos (.inr (.inr (.inr ha)))]
    rw [if_neg (by simp),hn,hF]
    exact ⟨0,false,rfl,rfl,fun m h => by cases h⟩
   | true =>
    rw [if_pos rfl]
    obtain ⟨e1,e2⟩ := hfin h0 h10 ha
    exact ⟨_,_,rfl,e1,e2⟩
theorem Ja (l : List UInt8) : ∃ n b,V 44 [.str (mk l)] = some (.tup [iN n,.bool b],[]) /\ b = (Dq l).isSome /\ (∀ m,Dq l = some m -> m = n) := by
 have hpos : ∃ n b,br (decide (ni l.length > 10)) (some (noW,[])) (br (ni l.length == 0) (some (noW,[])) (xP (mk l) (mk l) 0 0)) = some (.tup [iN n,.bool b],[]) /\ b = (Au (xX l)).isSome /\ (∀ m,Au (xX l) = some m -> m = n) :=
  Fx rfl (fun h0 h10 ha => ⟨(EC h0 h10 ha).2.1,fun m hm => ((EC h0 h10 ha).2.2 m hm).trans (EC h0 h10 ha).1.symm⟩)
 rw [Fh,xj]
 by_cases hn : l[0]? = some 45 /\ 1 < l.length
 ·obtain ⟨hx,hl⟩ := hn
  match l,hx,hl with
  | x :: d :: r,hx,hl =>
   have hx : x = 45 := by simpa using hx
   subst hx
   have hb0 : bt (mk (45 :: d :: r)) 0 = 45 := zy (i := 0) (x := 45) rfl
   have e : ByteArray.extract (mk (45 :: d :: r)) (Int.toNat 1) (45 :: d :: r).length = mk (d :: r) := by
    rw [yx]; congr 1; simp
   rw [vX (decide_eq_true (by simp only [ni]; omega)),wT (by simp only [ni,Bool.and_eq_true,decide_eq_true_eq]; omega),hb0,vX (by decide),wT (by unfold cG; simp; omega),e,xj]
   obtain ⟨n,b,h1,h2,h3⟩ := Fx (a := 45 :: d :: r) (r := d :: r) (F := Cx) rfl (fun h0 h10 ha => ⟨(Er h0 h10 ha).2.1,fun m hm => ((Er h0 h10 ha).2.2 m hm).trans (Er h0 h10 ha).1.symm⟩)
   refine ⟨n,b,h1,?_⟩
   rw [Dq]
   by_cases hd : dU d = true
   ·rw [if_pos ⟨rfl,hd⟩]; exact ⟨h2,h3⟩
   ·rw [if_neg (fun h => hd h.2)]
    have hf : ∀ c : UInt8,dU c = false -> ∀ q,xX (c :: q) = none := by
     intro c hc q
     rw [xX,if_pos (.inr (.inr (.inr (by rw [List.all_cons,hc]; rfl))))]
    rw [hf 45 rfl] 
    rw [hf d (by simpa using hd)] at h2 h3
    exact ⟨h2,h3⟩
 ·rw [Fu hn]
  by_cases hl : 1 < l.length
  ·obtain ⟨x,hx⟩ := vI (l := l) (i := 0) (by omega)
   have hbt : bt (mk l) 0 = (x.toNat : Int) := zy hx
   have hne : x.toNat ≠ 45 := by
    intro h; apply hn; rw [hx]; exact ⟨by congr 1; exact UInt8.toNat_inj.1 h,hl⟩
   rw [vX (decide_eq_true (by simp only [ni]; omega)),wT (by simp only [ni,Bool.and_eq_true,decide_eq_true_eq]; omega),hbt,vi (by simp only [beq_eq_false_iff_ne,ne_eq]; omega)]
   exact hpos
  ·rw [vi (decide_eq_false (by simp only [ni]; omega))]
   exact hpos
theorem FI {l : List UInt8} (hb : l.length < 4611686018427387904) : ∃ x b,V 23 [.str (mk l)] = some (.tup [eN x,.bool b],[]) /\ zM (xZ l) x b := by
 have e1 : jt (mk l) ⟨#[35,116]⟩ = decide (l = [35,116]) := zm l _
 have e2 : jt (mk l) ⟨#[35,102]⟩ = decide (l = [35,102]) := zm l _
 obtain ⟨n,b,h3,h4,h5⟩ := Ja l
 have hnm := AL (s := mk l) (by rw [xj]; exact hb)
 rw [Eo,e1,e2,Gi h3]
 unfold xZ
 by_cases h1 : l = [35,116]
 ·rw [vX (decide_eq_true h1),if_pos h1]; exact ⟨⟨2,1,⟨#[]⟩,0,0⟩,true,rfl,rfl,rfl⟩
 rw [vi (decide_eq_false h1),if_neg h1]
 by_cases h2 : l = [35,102]
 ·rw [vX (decide_eq_true h2),if_pos h2]; exact ⟨⟨2,0,⟨#[]⟩,0,0⟩,true,rfl,rfl,rfl⟩
 rw [vi (decide_eq_false h2),if_neg h2]
 cases hf : Dq l with
 | some m =>
  rw [hf] at h4 h5
  have := h5 m rfl
  rw [h4,<- this]
  exact ⟨⟨3,m,⟨#[]⟩,0,0⟩,true,rfl,rfl,rfl⟩
 | none =>
  rw [hf] at h4
  rw [h4,show (none : Option Int).isSome = false from rfl,vW,Cj hnm]
  refine ⟨⟨4,0,mk l,0,0⟩,z5 (mk l),rfl,?_⟩
  cases e : z5 (mk l) with
  | true => simp [zT,e,zM]
  | false => simp [zT,e,zM]
end
end Go.Eng
/-! sizes told: printed by mkz.py -/
namespace Go.Eng
open Go.Proofs Go.Proofs.Try
set_option maxHeartbeats 4000000
set_option maxRecDepth 100000

theorem sz3 : TypeInfo.size (Tables.types (Program.toTables Try.prog))[3] = 1 := by kernel_rfl
theorem fl3 : pH Try.prog (3) = true := by kernel_rfl

theorem zD (p0 : ByteArray) (p1 : Int) (p2 : Int) (p3 : Int) (p4 : List D) (p5 : List D) (p6 : List D) (p7 : List D) : yf p0 p1 p2 p3 p4 p5 p6 p7 =
 br (decide (p1 < ni (ByteArray.size p0)))
  (
  grd (decide (0 <= p1) && decide (p1 < ni (ByteArray.size p0))) (ib V 22 [(.int .u8 (bt p0 p1))] fun a b =>
  asB a fun c => unn b (br c
   (yf p0 (w6 (p1 + 1)) p2 p3 p4 p5 p6 p7)
   (
    grd (cG (ByteArray.size p0) (some p3) (some p1)) (ib V 23 [(.str (ByteArray.extract p0 p3.toNat p1.toNat))] fun d e =>
    gZ d fun f => unc f fun g h => tk1 g fun i j k l m => (unc h fun n o => asB n fun p => unn o (unn e (br (!p)
            (
            ib V 20 [(.agg [(.rs (5,0) p4)])] fun q r =>
            asAgg q fun s => unc s fun t u => im (5,0) t fun v => unn u (unn r (some ((.tup [(.agg [(.os (5,0) v)]),(.os (1,0) p5),(iN (3)),(iN p3)]),[]))))
            (
            grd (decide (0 <= p2) && decide (p2 < ni p6.length)) (cD p6 p2.toNat fun q =>
            asAgg q fun r => cD r 1 fun s =>
             im (1,0) s fun t => asAgg q fun u => ib V 24 [(.op [(.os (5,0) p7)]),(.agg [(iN i),(iN j),(.str k),(iN l),(iN m)])] fun v w =>
               asI .i64 v fun x => unc w fun y z => mj y fun A => unc A fun B C => im (5,0) B fun E => unn C (unn z (grd (decide (ni (List.length (t ++ [iN x])) <= LIM)) (nam (t ++ [iN x]) fun F =>
                  grd (decide (0 <= p2) && decide (p2 < ni (List.length (List.set p6 p2.toNat (D.agg (List.take 1 u ++ [D.dead] ++ List.drop 2 u)))))) (cD (List.set p6 p2.toNat (D.agg (List.take 1 u ++ [D.dead] ++ List.drop 2 u))) p2.toNat fun G =>
                  asAgg G fun H => nam (List.set (List.set p6 p2.toNat (D.agg (List.take 1 u ++ [D.dead] ++ List.drop 2 u))) p2.toNat
 (D.agg
  (List.take 1 H ++
    [D.os
      (1,0)
      F] ++
   List.drop 2 H))) fun I =>
                   xp p0 p1 p4 p5 I E))))))))))))))
  (
  grd (cG (ByteArray.size p0) (some p3) (some p1)) (ib V 23 [(.str (ByteArray.extract p0 p3.toNat p1.toNat))] fun a b =>
  gZ a fun c => unc c fun d e => tk1 d fun f g h i j => (unc e fun k l => asB k fun m => unn l (unn b (br (!m)
          (
           ib V 20 [(.agg [(.rs (5,0) p4)])] fun n o =>
           asAgg n fun p => unc p fun q r => im (5,0) q fun s => unn r (unn o (some ((.tup [(.agg [(.os (5,0) s)]),(.os (1,0) p5),(iN (3)),(iN p3)]),[]))))
          (
           grd (decide (0 <= p2) && decide (p2 < ni p6.length)) (cD p6 p2.toNat fun n =>
           asAgg n fun o => cD o 1 fun p =>
            im (1,0) p fun q => asAgg n fun r => ib V 24 [(.op [(.os (5,0) p7)]),(.agg [(iN f),(iN g),(.str h),(iN i),(iN j)])] fun s t =>
             asI .i64 s fun u => unc t fun v w => mj v fun x => unc x fun y z => im (5,0) y fun A => unn z (unn w (grd (decide (ni (List.length (q ++ [iN u])) <= LIM)) (nam (q ++ [iN u]) fun B =>
                grd (decide (0 <= p2) && decide (p2 < ni (List.length (List.set p6 p2.toNat (D.agg (List.take 1 r ++ [D.dead] ++ List.drop 2 r)))))) (cD (List.set p6 p2.toNat (D.agg (List.take 1 r ++ [D.dead] ++ List.drop 2 r))) p2.toNat fun C =>
                 asAgg C fun E => nam (List.set (List.set p6 p2.toNat (D.agg (List.take 1 r ++ [D.dead] ++ List.drop 2 r))) p2.toNat
 (D.agg
  (List.take 1 E ++
    [D.os
      (1,0)
      B] ++
   List.drop 2 E))) fun F =>
                  xp p0 p1 p4 p5 F A))))))))))) := by
 have h := BD p0 p1 p2 p3 p4 p5 p6 p7
 simp only [sz3,fl3] at h
 exact h
theorem AZ (p : List D) (o : List D) (t : List D) (v : Int) : V 39 [.op [.os (5,0) p,.os (1,2) o,.os (1,0) t],iN v] =
 grd (decide (0 <= w6 (ni o.length - 1)) && decide (w6 (ni o.length - 1) < ni o.length)) (cD o (Int.toNat (w6 (ni o.length - 1))) fun a =>
  im (1,0) a fun b => grd (decide (ni (List.length (b ++ [iN v])) <= LIM)) (nam (b ++ [iN v]) fun c =>
   grd (decide (0 <= w6 (ni o.length - 1)) && decide (w6 (ni o.length - 1) < ni (List.length (List.set o (Int.toNat (w6 (ni o.length - 1))) D.dead)))) (cD (List.set o (Int.toNat (w6 (ni o.length - 1))) D.dead) (Int.toNat (w6 (ni o.length - 1))) fun _ =>
   nam (List.set (List.set o (Int.toNat (w6 (ni o.length - 1))) D.dead) (Int.toNat (w6 (ni o.length - 1)))
 (D.os
  (1,0)
  c)) fun d =>
    some ((.tup []),[(.op [(.os (5,0) p),(.os (1,2) d),(.os (1,0) t)])])))) := by
 have h := Bg p o t v
 simp only [sz3,fl3] at h
 exact h
theorem y6 (p0 : ByteArray) (p1 : Nat) (p2 : Int) (p3 : Int) (p4 : Int) (p5 : List D) (p6 : List D) (p7 : List D) (p8 : List D) : xL p0 p1 p2 p3 p4 p5 p6 p7 p8 =
 br (decide (p2 < ni (ByteArray.size p0)))
  (
  grd (decide (0 <= p2) && decide (p2 < ni (ByteArray.size p0))) (ib V 22 [(.int .u8 (bt p0 p2))] fun a b =>
  asB a fun c => unn b (br c
   (xL p0 p1 (w6 (p2 + 1)) p3 p4 p5 p6 p7 p8)
   (
    grd (cG (ByteArray.size p0) (some p4) (some p2)) (ib V 23 [(.str (ByteArray.extract p0 p4.toNat p2.toNat))] fun d e =>
    gZ d fun f => unc f fun g h => tk1 g fun i j k l m => (unc h fun n o => asB n fun p => unn o (unn e (br (!p)
            (
            ib V 20 [(.agg [(.rs (5,0) p5)])] fun q r =>
            asAgg q fun s => unc s fun t u => im (5,0) t fun v => unn u (unn r (some ((.tup [(.agg [(.os (5,0) v)]),(.os (1,0) p6),(iN (3)),(iN p4)]),[]))))
            (
            grd (decide (0 <= p3) && decide (p3 < ni p1) && decide (0 + p1 <= List.length p7)) (cD p7 (0 + Int.toNat p3) fun q =>
            asAgg q fun r => cD r 1 fun s =>
             im (1,0) s fun t => asAgg q fun u => ib V 24 [(.op [(.os (5,0) p8)]),(.agg [(iN i),(iN j),(.str k),(iN l),(iN m)])] fun v w =>
               asI .i64 v fun x => unc w fun y z => mj y fun A => unc A fun B C => im (5,0) B fun E => unn C (unn z (grd (decide (ni (List.length (t ++ [iN x])) <= LIM)) (nam (t ++ [iN x]) fun F =>
                  grd (decide (0 <= p3) && decide (p3 < ni p1) && decide (0 + p1 <= List.length (List.set p7 (0 + Int.toNat p3) (D.agg (List.take 1 u ++ [D.dead] ++ List.drop 2 u))))) (cD (List.set p7 (0 + Int.toNat p3) (D.agg (List.take 1 u ++ [D.dead] ++ List.drop 2 u))) (0 + Int.toNat p3) fun G =>
                  asAgg G fun H => nam (List.set (List.set p7 (0 + Int.toNat p3) (D.agg (List.take 1 u ++ [D.dead] ++ List.drop 2 u))) (0 + Int.toNat p3)
 (D.agg
  (List.take 1 H ++
    [D.os
      (1,0)
      F] ++
   List.drop 2 H))) fun I =>
                   xo p0 p1 p2 p5 p6 I E))))))))))))))
  (
  grd (cG (ByteArray.size p0) (some p4) (some p2)) (ib V 23 [(.str (ByteArray.extract p0 p4.toNat p2.toNat))] fun a b =>
  gZ a fun c => unc c fun d e => tk1 d fun f g h i j => (unc e fun k l => asB k fun m => unn l (unn b (br (!m)
          (
           ib V 20 [(.agg [(.rs (5,0) p5)])] fun n o =>
           asAgg n fun p => unc p fun q r => im (5,0) q fun s => unn r (unn o (some ((.tup [(.agg [(.os (5,0) s)]),(.os (1,0) p6),(iN (3)),(iN p4)]),[]))))
          (
           grd (decide (0 <= p3) && decide (p3 < ni p1) && decide (0 + p1 <= List.length p7)) (cD p7 (0 + Int.toNat p3) fun n =>
           asAgg n fun o => cD o 1 fun p =>
            im (1,0) p fun q => asAgg n fun r => ib V 24 [(.op [(.os (5,0) p8)]),(.agg [(iN f),(iN g),(.str h),(iN i),(iN j)])] fun s t =>
             asI .i64 s fun u => unc t fun v w => mj v fun x => unc x fun y z => im (5,0) y fun A => unn z (unn w (grd (decide (ni (List.length (q ++ [iN u])) <= LIM)) (nam (q ++ [iN u]) fun B =>
                grd (decide (0 <= p3) && decide (p3 < ni p1) && decide (0 + p1 <= List.length (List.set p7 (0 + Int.toNat p3) (D.agg (List.take 1 r ++ [D.dead] ++ List.drop 2 r))))) (cD (List.set p7 (0 + Int.toNat p3) (D.agg (List.take 1 r ++ [D.dead] ++ List.drop 2 r))) (0 + Int.toNat p3) fun C =>
                 asAgg C fun E => nam (List.set (List.set p7 (0 + Int.toNat p3) (D.agg (List.take 1 r ++ [D.dead] ++ List.drop 2 r))) (0 + Int.toNat p3)
 (D.agg
  (List.take 1 E ++
    [D.os
      (1,0)
      B] ++
   List.drop 2 E))) fun F =>
                  xo p0 p1 p2 p5 p6 F A))))))))))) := by
 have h := AP p0 p1 p2 p3 p4 p5 p6 p7 p8
 simp only [sz3,fl3] at h
 exact h
theorem yG (p0 : ByteArray) (p1 : Int) (p2 : List D) (p3 : List D) (p4 : List D) : xl p0 p1 p2 p3 p4 =
 br (decide (p1 < ni (ByteArray.size p0)))
  (
  grd (decide (0 <= p1) && decide (p1 < ni (ByteArray.size p0))) (br (bt p0 p1 == 32)
  (xl p0 (w6 (p1 + 1)) p2 p3 p4)
  (
   br (bt p0 p1 == 40)
   (grd (decide
 (ni
   (List.length
    (p3 ++
     [D.os
       (1,0)
       []])) <=
  LIM)) (nam (p3 ++
 [D.os
   (1,0)
   []]) fun a =>
   grd (decide (ni (List.length (p4 ++ [iN p1])) <= LIM)) (nam (p4 ++ [iN p1]) fun b =>
    xl p0 (w6 (p1 + 1)) p2 a b)))
   (
   br (bt p0 p1 == 41)
   (
    ib V 36 [(.op [(.os (5,0) p2),(.os (1,2) p3),(.os (1,0) p4)])] fun a b =>
    asB a fun c => unc b fun d e => tk3 d fun f g h => (unn e (br (!c)
         (some ((.tup [(iN (5)),(iN p1)]),[(.op [(.os (5,0) f),(.os (1,2) g),(.os (1,0) h)])]))
         (xl p0 (w6 (p1 + 1)) f g h))))
   (
    ib V 37 [(.int .u8 (bt p0 p1))] fun a b =>
    asB a fun c => unn b (br (!c)
     (some ((.tup [(iN (2)),(iN p1)]),[(.op [(.os (5,0) p2),(.os (1,2) p3),(.os (1,0) p4)])]))
     (xI p0 p1 p1 p2 p3 p4)))))))
  (
  br (decide (ni p4.length > 0))
  (
   grd (decide (0 <= w6 (ni p4.length - 1)) && decide (w6 (ni p4.length - 1) < ni p4.length)) (cD p4 (Int.toNat (w6 (ni p4.length - 1))) fun a =>
   asI .i64 a fun b => some ((.tup [(iN (4)),(iN b)]),[(.op [(.os (5,0) p2),(.os (1,2) p3),(.os (1,0) p4)])])))
  (some ((.tup [(iN (0)),(iN (ni (ByteArray.size p0)))]),[(.op [(.os (5,0) p2),(.os (1,2) p3),(.os (1,0) p4)])]))) := by
 have h := zJ p0 p1 p2 p3 p4
 simp only [sz3,fl3] at h
 exact h
theorem xD (p0 : ByteArray) (p1 : Int) (p2 : List D) (p3 : List D) (p4 : List D) (p5 : List D) : xp p0 p1 p2 p3 p4 p5 =
 br (decide (p1 < ni (ByteArray.size p0)))
  (
  grd (decide (0 <= p1) && decide (p1 < ni (ByteArray.size p0))) (br (bt p0 p1 == 32)
  (xp p0 (w6 (p1 + 1)) p2 p3 p4 p5)
  (
   br (bt p0 p1 == 40)
   (grd (decide
 (ni
   (List.length
    (p4 ++
     [D.agg
       [iN p1,
        D.os
         (1,0)
         []]])) <=
  LIM)) (nam (p4 ++
 [D.agg
   [iN p1,
    D.os
     (1,0)
     []]]) fun a =>
   xp p0 (w6 (p1 + 1)) p2 p3 a p5))
   (
   br (bt p0 p1 == 41)
   (
    br (w6 (ni p4.length - 1) == 0)
    (
    ib V 20 [(.agg [(.rs (5,0) p2)])] fun a b =>
    asAgg a fun c => unc c fun d e => im (5,0) d fun f => unn e (unn b (some ((.tup [(.agg [(.os (5,0) f)]),(.os (1,0) p3),(iN (5)),(iN p1)]),[]))))
    (
    grd (decide (0 <= w6 (ni p4.length - 1)) && decide (w6 (ni p4.length - 1) < ni p4.length)) (cD p4 (Int.toNat (w6 (ni p4.length - 1))) fun a =>
    asAgg a fun b => cD b 1 fun c =>
     im (1,0) c fun d => asAgg a fun e => ib V 21 [(.op [(.os (5,0) p5)]),(.rs (1,0) d)] fun f g =>
       asI .i64 f fun h => unc g fun i j => mj i fun k => unc k fun l m => im (5,0) l fun n => unn m (unn j (grd (cG (List.length (List.set p4 (Int.toNat (w6 (ni p4.length - 1))) (D.agg (List.take 1 e ++ [D.dead] ++ List.drop 2 e)))) none (some (w6 (ni p4.length - 1)))) (grd (decide (0 <= w6 (w6 (ni p4.length - 1) - 1)) && decide (w6 (w6 (ni p4.length - 1) - 1) < ni (Int.toNat (w6 (ni p4.length - 1)))) && decide (0 + Int.toNat (w6 (ni p4.length - 1)) <= List.length (List.set p4 (Int.toNat (w6 (ni p4.length - 1))) (D.agg (List.take 1 e ++ [D.dead] ++ List.drop 2 e))))) (cD (List.set p4 (Int.toNat (w6 (ni p4.length - 1))) (D.agg (List.take 1 e ++ [D.dead] ++ List.drop 2 e))) (0 + Int.toNat (w6 (w6 (ni p4.length - 1) - 1))) fun o =>
          asAgg o fun p => cD p 1 fun q =>
           im (1,0) q fun r => asAgg o fun s => grd (decide (ni (List.length (r ++ [iN h])) <= LIM)) (nam (r ++ [iN h]) fun t =>
            grd (decide (0 <= w6 (w6 (ni p4.length - 1) - 1)) && decide (w6 (w6 (ni p4.length - 1) - 1) < ni (Int.toNat (w6 (ni p4.length - 1)))) && decide (0 + Int.toNat (w6 (ni p4.length - 1)) <= List.length (List.set (List.set p4 (Int.toNat (w6 (ni p4.length - 1))) (D.agg (List.take 1 e ++ [D.dead] ++ List.drop 2 e))) (0 + Int.toNat (w6 (w6 (ni p4.length - 1) - 1))) (D.agg (List.take 1 s ++ [D.dead] ++ List.drop 2 s))))) (cD (List.set (List.set p4 (Int.toNat (w6 (ni p4.length - 1))) (D.agg (List.take 1 e ++ [D.dead] ++ List.drop 2 e))) (0 + Int.toNat (w6 (w6 (ni p4.length - 1) - 1))) (D.agg (List.take 1 s ++ [D.dead] ++ List.drop 2 s))) (0 + Int.toNat (w6 (w6 (ni p4.length - 1) - 1))) fun u =>
             asAgg u fun v => nam (List.set (List.set (List.set p4 (Int.toNat (w6 (ni p4.length - 1))) (D.agg (List.take 1 e ++ [D.dead] ++ List.drop 2 e))) (0 + Int.toNat (w6 (w6 (ni p4.length - 1) - 1))) (D.agg (List.take 1 s ++ [D.dead] ++ List.drop 2 s))) (0 + Int.toNat (w6 (w6 (ni p4.length - 1) - 1)))
 (D.agg
  (List.take 1 v ++
    [D.os
      (1,0)
      t] ++
   List.drop 2 v))) fun w =>
              xo p0 (Int.toNat (w6 (ni p4.length - 1))) (w6 (p1 + 1)) p2 p3 w n)))))))))
   (
    ib V 22 [(.int .u8 (bt p0 p1))] fun a b =>
    asB a fun c => unn b (br c
     (yf p0 p1 (w6 (ni p4.length - 1)) p1 p2 p3 p4 p5)
     (
     ib V 20 [(.agg [(.rs (5,0) p2)])] fun d e =>
     asAgg d fun f => unc f fun g h => im (5,0) g fun i => unn h (unn e (some ((.tup [(.agg [(.os (5,0) i)]),(.os (1,0) p3),(iN (2)),(iN p1)]),[]))))))))))
  (
  br (decide (ni p4.length > 1))
  (
   ib V 20 [(.agg [(.rs (5,0) p2)])] fun a b =>
   asAgg a fun c => unc c fun d e => im (5,0) d fun f => unn e (unn b (grd (decide (0 <= w6 (ni p4.length - 1)) && decide (w6 (ni p4.length - 1) < ni p4.length)) (cD p4 (Int.toNat (w6 (ni p4.length - 1))) fun g =>
     asAgg g fun h => cD h 0 fun i =>
      asI .i64 i fun j => some ((.tup [(.agg [(.os (5,0) f)]),(.os (1,0) p3),(iN (4)),(iN j)]),[])))))
  (
   ib V 19 [(.agg [(.rs (5,0) p5)])] fun a b =>
   asB a fun c => unn b (br (!c)
    (
    ib V 20 [(.agg [(.rs (5,0) p2)])] fun d e =>
    asAgg d fun f => unc f fun g h => im (5,0) g fun i => unn h (unn e (some ((.tup [(.agg [(.os (5,0) i)]),(.os (1,0) p3),(iN (6)),(iN (0))]),[]))))
    (
    grd (decide (0 <= 0) && decide (0 < ni p4.length)) (cD p4 0 fun d =>
    asAgg d fun e => cD e 1 fun f =>
     im (1,0) f fun g => asAgg d fun _ => grd (decide (ni (List.length ([] ++ g)) <= LIM)) (nam ([] ++ g) fun h =>
       some ((.tup [(.agg [(.os (5,0) p5)]),(.os (1,0) h),(iN (0)),(iN (ni (ByteArray.size p0)))]),[]))))))) := by
 have h := Cq p0 p1 p2 p3 p4 p5
 simp only [sz3,fl3] at h
 exact h
theorem xw (p0 : ByteArray) (p1 : Nat) (p2 : Int) (p3 : List D) (p4 : List D) (p5 : List D) (p6 : List D) : xo p0 p1 p2 p3 p4 p5 p6 =
 br (decide (p2 < ni (ByteArray.size p0)))
  (
  grd (decide (0 <= p2) && decide (p2 < ni (ByteArray.size p0))) (br (bt p0 p2 == 32)
  (xo p0 p1 (w6 (p2 + 1)) p3 p4 p5 p6)
  (
   br (bt p0 p2 == 40)
   (grd (decide
 (ni
   (List.length
    (part p5 (some (0,p1)) ++
     [D.agg
       [iN p2,
        D.os
         (1,0)
         []]])) <=
  LIM)) (nam (part p5 (some (0,p1)) ++
 [D.agg
   [iN p2,
    D.os
     (1,0)
     []]]) fun a =>
   xp p0 (w6 (p2 + 1)) p3 p4 a p6))
   (
   br (bt p0 p2 == 41)
   (
    br (w6 (ni p1 - 1) == 0)
    (
    ib V 20 [(.agg [(.rs (5,0) p3)])] fun a b =>
    asAgg a fun c => unc c fun d e => im (5,0) d fun f => unn e (unn b (some ((.tup [(.agg [(.os (5,0) f)]),(.os (1,0) p4),(iN (5)),(iN p2)]),[]))))
    (
    grd (decide (0 <= w6 (ni p1 - 1)) && decide (w6 (ni p1 - 1) < ni p1) && decide (0 + p1 <= List.length p5)) (cD p5 (0 + Int.toNat (w6 (ni p1 - 1))) fun a =>
    asAgg a fun b => cD b 1 fun c =>
     im (1,0) c fun d => asAgg a fun e => ib V 21 [(.op [(.os (5,0) p6)]),(.rs (1,0) d)] fun f g =>
       asI .i64 f fun h => unc g fun i j => mj i fun k => unc k fun l m => im (5,0) l fun n => unn m (unn j (grd (gq p1 (List.length (List.set p5 (0 + Int.toNat (w6 (ni p1 - 1))) (D.agg (List.take 1 e ++ [D.dead] ++ List.drop 2 e))) - 0) none (some (w6 (ni p1 - 1)))) (grd (decide (0 <= w6 (w6 (ni p1 - 1) - 1)) && decide (w6 (w6 (ni p1 - 1) - 1) < ni (Int.toNat (w6 (ni p1 - 1)))) && decide (0 + Int.toNat (w6 (ni p1 - 1)) <= List.length (List.set p5 (0 + Int.toNat (w6 (ni p1 - 1))) (D.agg (List.take 1 e ++ [D.dead] ++ List.drop 2 e))))) (cD (List.set p5 (0 + Int.toNat (w6 (ni p1 - 1))) (D.agg (List.take 1 e ++ [D.dead] ++ List.drop 2 e))) (0 + Int.toNat (w6 (w6 (ni p1 - 1) - 1))) fun o =>
          asAgg o fun p => cD p 1 fun q =>
           im (1,0) q fun r => asAgg o fun s => grd (decide (ni (List.length (r ++ [iN h])) <= LIM)) (nam (r ++ [iN h]) fun t =>
            grd (decide (0 <= w6 (w6 (ni p1 - 1) - 1)) && decide (w6 (w6 (ni p1 - 1) - 1) < ni (Int.toNat (w6 (ni p1 - 1)))) && decide (0 + Int.toNat (w6 (ni p1 - 1)) <= List.length (List.set (List.set p5 (0 + Int.toNat (w6 (ni p1 - 1))) (D.agg (List.take 1 e ++ [D.dead] ++ List.drop 2 e))) (0 + Int.toNat (w6 (w6 (ni p1 - 1) - 1))) (D.agg (List.take 1 s ++ [D.dead] ++ List.drop 2 s))))) (cD (List.set (List.set p5 (0 + Int.toNat (w6 (ni p1 - 1))) (D.agg (List.take 1 e ++ [D.dead] ++ List.drop 2 e))) (0 + Int.toNat (w6 (w6 (ni p1 - 1) - 1))) (D.agg (List.take 1 s ++ [D.dead] ++ List.drop 2 s))) (0 + Int.toNat (w6 (w6 (ni p1 - 1) - 1))) fun u =>
             asAgg u fun v => nam (List.set (List.set (List.set p5 (0 + Int.toNat (w6 (ni p1 - 1))) (D.agg (List.take 1 e ++ [D.dead] ++ List.drop 2 e))) (0 + Int.toNat (w6 (w6 (ni p1 - 1) - 1))) (D.agg (List.take 1 s ++ [D.dead] ++ List.drop 2 s))) (0 + Int.toNat (w6 (w6 (ni p1 - 1) - 1)))
 (D.agg
  (List.take 1 v ++
    [D.os
      (1,0)
      t] ++
   List.drop 2 v))) fun w =>
              xo p0 (Int.toNat (w6 (ni p1 - 1))) (w6 (p2 + 1)) p3 p4 w n)))))))))
   (
    ib V 22 [(.int .u8 (bt p0 p2))] fun a b =>
    asB a fun c => unn b (br c
     (xL p0 p1 p2 (w6 (ni p1 - 1)) p2 p3 p4 p5 p6)
     (
     ib V 20 [(.agg [(.rs (5,0) p3)])] fun d e =>
     asAgg d fun f => unc f fun g h => im (5,0) g fun i => unn h (unn e (some ((.tup [(.agg [(.os (5,0) i)]),(.os (1,0) p4),(iN (2)),(iN p2)]),[]))))))))))
  (
  br (decide (ni p1 > 1))
  (
   ib V 20 [(.agg [(.rs (5,0) p3)])] fun a b =>
   asAgg a fun c => unc c fun d e => im (5,0) d fun f => unn e (unn b (grd (decide (0 <= w6 (ni p1 - 1)) && decide (w6 (ni p1 - 1) < ni p1) && decide (0 + p1 <= List.length p5)) (cD p5 (0 + Int.toNat (w6 (ni p1 - 1))) fun g =>
     asAgg g fun h => cD h 0 fun i =>
      asI .i64 i fun j => some ((.tup [(.agg [(.os (5,0) f)]),(.os (1,0) p4),(iN (4)),(iN j)]),[])))))
  (
   ib V 19 [(.agg [(.rs (5,0) p6)])] fun a b =>
   asB a fun c => unn b (br (!c)
    (
    ib V 20 [(.agg [(.rs (5,0) p3)])] fun d e =>
    asAgg d fun f => unc f fun g h => im (5,0) g fun i => unn h (unn e (some ((.tup [(.agg [(.os (5,0) i)]),(.os (1,0) p4),(iN (6)),(iN (0))]),[]))))
    (
    grd (decide (0 <= 0) && decide (0 < ni p1) && decide (0 + p1 <= List.length p5)) (cD p5 0 fun d =>
    asAgg d fun e => cD e 1 fun f =>
     im (1,0) f fun g => asAgg d fun _ => grd (decide (ni (List.length ([] ++ g)) <= LIM)) (nam ([] ++ g) fun h =>
       some ((.tup [(.agg [(.os (5,0) p6)]),(.os (1,0) h),(iN (0)),(iN (ni (ByteArray.size p0)))]),[]))))))) := by
 have h := A8 p0 p1 p2 p3 p4 p5 p6
 simp only [sz3,fl3] at h
 exact h
theorem FP (a0_0 : List D) (a1_ : ByteArray) : V 7 [.agg [.rs (5,0) a0_0],.str a1_] =
 ib V 19 [(.agg [(.rs (5,0) a0_0)])] fun a b =>
  asB a fun c => unn b (br (!c)
   (some ((.tup [(.agg [(.os (5,0) [])]),(.os (1,0) []),(iN (6)),(iN (0))]),[]))
   (
   br (decide (ni (ByteArray.size a1_) > 400))
   (
    ib V 20 [(.agg [(.rs (5,0) a0_0)])] fun d e =>
    asAgg d fun f => unc f fun g h => im (5,0) g fun i => unn h (unn e (some ((.tup [(.agg [(.os (5,0) i)]),(.os (1,0) []),(iN (1)),(iN (0))]),[]))))
   (
    ib V 20 [(.agg [(.rs (5,0) a0_0)])] fun d e =>
    asAgg d fun f => unc f fun g h => im (5,0) g fun i => unn h (unn e (xp a1_ (0) a0_0 [] ([D.agg
  [iN (0),
   D.os
    (1,0)
    []]]) i))))) := by
 have h := F4 a0_0 a1_
 simp only [sz3,fl3] at h
 exact h

end Go.Eng
/-! reading a text,on both sides -/
namespace Go.Eng
noncomputable section
open Go.Proofs Go.Proofs.Try
set_option maxHeartbeats 4000000

def yE : List Int -> List Nd -> Nat -> List Nd × Nat
 | [],q,c => (q,c)
 | x :: r,q,c => yE r (q ++ [⟨5,0,⟨#[]⟩,x,(c : Int)⟩]) q.length
def xr (q : List Nd) (row : List Int) : List Nd × Nat := yE row.reverse (q ++ [⟨1,0,⟨#[]⟩,0,0⟩]) q.length
theorem CX : ∀ (r : List Int) (q : List Nd) (c : Nat),(yE r q c).1.length = q.length + r.length
 | [],q,c => rfl
 | x :: r,q,c => by rw [yE,CX r]; simp only [lnA,lnC,lnN]; omega
theorem BU (q : List Nd) (row : List Int) : (xr q row).1.length = q.length + row.length + 1 := by
 rw [xr,CX]; simp only [lnA,lnC,lnN,List.length_reverse]; omega
theorem zP {q : List Nd} (h : zd q) {x : Nd} (hx : x.s.size < 4611686018427387904) : zd (q ++ [x]) := by
 intro y hy
 rcases List.mem_append.1 hy with h1 | h1
 ·exact h y h1
 ·rw [List.mem_singleton.1 h1]; exact hx
theorem B9 : ∀ (r : List Int) (q : List Nd) (c : Nat),zd q -> zd (yE r q c).1
 | [],q,c,h => h
 | x :: r,q,c,h => B9 r _ _ (zP h (x := ⟨5,0,⟨#[]⟩,x,(c : Int)⟩) (by show (0 : Nat) < _; omega))
theorem CY {q : List Nd} (h : zd q) (row : List Int) : zd (xr q row).1 := B9 _ _ _ (zP h (x := ⟨1,0,⟨#[]⟩,0,0⟩) (by show (0 : Nat) < _; omega))
theorem FE {row : List Int} {k : Nat} {x : Int} (hx : row[k]? = some x) : (row.take (k + 1)).reverse = x :: (row.take k).reverse := by
 rw [List.take_add_one,hx]; simp
theorem Jr {q : List Nd} (h : q.length < 4294967296) (a b : Int) : V 60 [rP q,iN a,iN b] = some (iN q.length,[rP (q ++ [⟨5,0,⟨#[]⟩,a,b⟩])]) := by
 have := Iy h ⟨5,0,⟨#[]⟩,a,b⟩
 rw [Ct,zz this]
theorem CT {row : List Int} (hr : row.length < 4294967296) : ∀ (k : Nat) (q : List Nd) (c : Nat),k <= row.length -> q.length + k < 4294967296 ->
  yq (row.map eI) (c : Int) ((k : Int) - 1) (q.map eN) = some (iN (yE (row.take k).reverse q c).2,[rP (yE (row.take k).reverse q c).1])
 | 0,q,c,_,_ => by rw [y0,vi (decide_eq_false (by omega))]; rfl
 | k + 1,q,c,hk,hq => by
  obtain ⟨x,hx⟩ := vI (l := row) (i := k) (by omega)
  have hp := Jr (q := q) (by omega) x c
  have ih := CT hr k (q ++ [⟨5,0,⟨#[]⟩,x,(c : Int)⟩]) q.length (by omega) (by simp only [lnA,lnC,lnN]; omega)
  have e : ((k + 1 : Nat) : Int) - 1 = (k : Int) := by omega
  rw [y0,e,vX (decide_eq_true (by omega)),wT (by rw [lnM]; exact wW (by omega)),Int.toNat_natCast,wk hx,wv,Eu hp,w64 (by omega) (by omega),ih,FE hx,yE]
theorem Jq {q : List Nd} {row : List Int} (h : q.length + row.length < 4294967290) : V 53 [rP q,.rs (1,0) (row.map eI)] = some (iN (xr q row).2,[rP (xr q row).1]) := by
 have ha := Iy (p := q) (by omega) ⟨1,0,⟨#[]⟩,0,0⟩
 have hl := CT (row := row) (by omega) row.length (q ++ [⟨1,0,⟨#[]⟩,0,0⟩]) q.length (Nat.le_refl _) (by simp only [lnA,lnC,lnN]; omega)
 rw [List.take_length] at hl
 rw [Cr,zz ha,lnM,w64 (by simp only [ni]; omega) (by simp only [ni]; omega)]
 exact hl
theorem Db {row : List Int} (hr : row.length < 4294967296) : ∀ (k : Nat) (q : List Nd) (c : Nat),k <= row.length -> q.length + k < 4294967296 ->
  yM (row.map eI) (c : Int) ((k : Int) - 1) (q.map eN) = some (iN (yE (row.take k).reverse q c).2,[rP (yE (row.take k).reverse q c).1])
 | 0,q,c,_,_ => by rw [zx,vi (decide_eq_false (by omega))]; rfl
 | k + 1,q,c,hk,hq => by
  obtain ⟨x,hx⟩ := vI (l := row) (i := k) (by omega)
  have hp := Az (p := q) (by omega) ⟨5,0,⟨#[]⟩,x,(c : Int)⟩
  have ih := Db hr k (q ++ [⟨5,0,⟨#[]⟩,x,(c : Int)⟩]) q.length (by omega) (by simp only [lnA,lnC,lnN]; omega)
  have e : ((k + 1 : Nat) : Int) - 1 = (k : Int) := by omega
  rw [zx,e,vX (decide_eq_true (by omega)),wT (by rw [lnM]; exact wW (by omega)),Int.toNat_natCast,wk hx,wv,yV hp,w64 (by omega) (by omega),ih,FE hx,yE]
theorem IA {q : List Nd} {row : List Int} (h : q.length + row.length < 4294967290) : V 21 [rP q,.rs (1,0) (row.map eI)] = some (iN (xr q row).2,[rP (xr q row).1]) := by
 have ha := Az (p := q) (by omega) ⟨1,0,⟨#[]⟩,0,0⟩
 have hl := Db (row := row) (by omega) row.length (q ++ [⟨1,0,⟨#[]⟩,0,0⟩]) q.length (Nat.le_refl _) (by simp only [lnA,lnC,lnN]; omega)
 rw [List.take_length] at hl
 rw [Ei,yV ha,lnM,w64 (by simp only [ni]; omega) (by simp only [ni]; omega)]
 exact hl
abbrev RwF := Int × List Int
inductive RdR where
 | err (c a : Int)
 | ok (q : List Nd) (row : List Int)
def yj (l : List UInt8) (j : Nat) : Nat := j + ((l.drop j).takeWhile xN).length
def GA (l : List UInt8) (G : Nat -> List RwF -> RwF -> List Nd -> RdR) (i : Nat) (o : List RwF) (t : RwF) (q : List Nd) : Option UInt8 -> RdR
 | none => if o = [] then .ok q t.2 else .err 4 t.1
 | some x =>
   if x = 32 then G (i + 1) o t q
   else if x = 40 then G (i + 1) (t :: o) ((i : Int),[]) q
   else if x = 41 then match o with
    | [] => .err 5 (i : Int)
    | u :: o => G (i + 1) o (u.1,u.2 ++ [((xr q t.2).2 : Int)]) (xr q t.2).1
   else if xN x = true then match xZ ((l.drop i).take (yj l i - i)) with
    | none => .err 3 (i : Int)
    | some nd => G (yj l i) o (t.1,t.2 ++ [(q.length : Int)]) (q ++ [nd])
   else .err 2 (i : Int)
def yp (l : List UInt8) : Nat -> Nat -> List RwF -> RwF -> List Nd -> RdR
 | 0,_,_,_,_ => .err 1 0
 | k + 1,i,o,t,q => GA l (yp l k) i o t q l[i]?
theorem z7 (l : List UInt8) (G : Nat -> List RwF -> RwF -> List Nd -> RdR) (i : Nat) (o : List RwF) (t : RwF) (q : List Nd) : GA l G i o t q none = if o = [] then .ok q t.2 else .err 4 t.1 := rfl
theorem za (l : List UInt8) (G : Nat -> List RwF -> RwF -> List Nd -> RdR) (i : Nat) (o : List RwF) (t : RwF) (q : List Nd) (x : UInt8) : GA l G i o t q (some x) = (if x = 32 then G (i + 1) o t q
   else if x = 40 then G (i + 1) (t :: o) ((i : Int),[]) q
   else if x = 41 then match o with
    | [] => .err 5 (i : Int)
    | u :: o => G (i + 1) o (u.1,u.2 ++ [((xr q t.2).2 : Int)]) (xr q t.2).1
   else if xN x = true then match xZ ((l.drop i).take (yj l i - i)) with
    | none => .err 3 (i : Int)
    | some nd => G (yj l i) o (t.1,t.2 ++ [(q.length : Int)]) (q ++ [nd])
   else .err 2 (i : Int)) := rfl
theorem zl (l : List UInt8) (k i : Nat) (o : List RwF) (t : RwF) (q : List Nd) : yp l (k + 1) i o t q = GA l (yp l k) i o t q l[i]? := rfl
theorem zn {l : List UInt8} {j : Nat} {x : UInt8} (hx : l[j]? = some x) (h : xN x = true) : yj l j = yj l (j + 1) := by
 unfold yj; rw [rV hx,List.takeWhile_cons,if_pos h]; simp only [lnC]; omega
theorem BZ {l : List UInt8} {j : Nat} {x : UInt8} (hx : l[j]? = some x) (h : xN x = false) : yj l j = j := by
 unfold yj; rw [rV hx,List.takeWhile_cons,if_neg (by rw [h]; simp)]; rfl
theorem De {l : List UInt8} {j : Nat} (h : l.length <= j) : yj l j = j := by
 unfold yj; rw [List.drop_of_length_le h]; rfl
theorem Bz {l : List UInt8} {j : Nat} (h : j <= l.length) : j <= yj l j /\ yj l j <= l.length := by
 unfold yj
 have := (List.takeWhile_sublist (p := xN) (l := l.drop j)).length_le
 rw [List.length_drop] at this
 omega
def phi (o : List RwF) (t : RwF) (q : List Nd) : Nat := q.length + t.2.length + (o.map fun x => x.2.length).sum
theorem AY {l : List UInt8} {x : Nd} (h : xZ l = some x) : x.s.size <= l.length := by
 unfold xZ zT at h
 split at h
 ·cases h; exact Nat.zero_le _
 split at h
 ·cases h; exact Nat.zero_le _
 split at h
 ·cases h; exact Nat.zero_le _
 split at h
 ·cases h; exact Nat.le_of_eq (xj _)
 ·cases h
abbrev eR (x : RwF) : D := .os (1,0) (x.2.map eI)
abbrev rRd (q : List Nd) (o : List D) (a : List D) : D := .op [.os (5,0) (q.map eN),.os (1,2) o,.os (1,0) a]
theorem xO {A B : List D} {x : D} (K : D -> Option Ret) : cD (A ++ x :: B) A.length K = K x := by simp [cD]
theorem yg {A B : List D} {x v : D} : (A ++ x :: B).set A.length v = A ++ v :: B := by simp
theorem I5 {A : List D} {x : D} (h : A.length < 4611686018427387904) : w6 (ni (A ++ [x]).length - 1) = (A.length : Int) := by
 rw [w64 (by simp only [ni]; omega) (by simp only [ni,lnA,lnC,lnN]; omega)]
 simp [ni]
theorem in1 {A : List D} {x : D} : (decide (0 <= (A.length : Int)) && decide ((A.length : Int) < ni (A ++ [x]).length)) = true := wW (by simp)
theorem B7 {l : List D} (h : l.length <= 4294967296) : decide (ni l.length <= LIM) = true := decide_eq_true (by rw [nV]; simp only [ni]; omega)
theorem Jm {q : List Nd} {A a : List D} {r : List Int} (hA : A.length < 4294967296) (hr : r.length < 4294967290) (v : Int) : V 39 [rRd q (A ++ [.os (1,0) (r.map eI)]) a,iN v] = some (.tup [],[rRd q (A ++ [.os (1,0) ((r ++ [v]).map eI)]) a]) := by
 rw [AZ,I5 (by omega),wT in1,Int.toNat_natCast,xO,yg]
 have e : ∀ K : List D -> Option Ret,im (1,0) (.os (1,0) (r.map eI)) K = K (r.map eI) := fun K => rfl
 rw [e,wT (B7 (by simp; omega)),wY,wT in1,xO,yg,wY]
 simp
theorem I9 {q : List Nd} {A a : List D} {r s : List Int} {b : D} (hA : A.length < 4294967290) (ha : a.length < 4294967290) (hr : r.length < 4294967290) (hs : q.length + s.length < 4294967290) :
  V 36 [rRd q ((A ++ [.os (1,0) (r.map eI)]) ++ [.os (1,0) (s.map eI)]) (a ++ [b])] = some (.bool true,[rRd (xr q s).1 (A ++ [.os (1,0) ((r ++ [((xr q s).2 : Int)]).map eI)]) a]) := by
 have hl := Jq (q := q) (row := s) hs
 have hp := Jm (q := (xr q s).1) (A := A) (a := a) (r := r) (by omega) hr ((xr q s).2 : Int)
 have e : ∀ K : List D -> Option Ret,im (1,0) (.os (1,0) (s.map eI)) K = K (s.map eI) := fun K => rfl
 have hA1 : (A ++ [D.os (1,0) (r.map eI)]).length = A.length + 1 := by simp
 have e1 : w6 (ni ((A ++ [D.os (1,0) (r.map eI)]) ++ [D.os (1,0) (s.map eI)]).length - 1) = ((A ++ [D.os (1,0) (r.map eI)]).length : Int) := I5 (by rw [hA1]; omega)
 have e2 : w6 (ni (a ++ [b]).length - 1) = (a.length : Int) := I5 (by omega)
 have p1 : ∀ (X : List D) (y : D),part (X ++ [y]) (some (0,X.length)) = X := fun X y => by simp [part]
 rw [y5,e1,e2,vi (by rw [hA1]; simp only [beq_eq_false_iff_ne,ne_eq]; omega),wT in1,Int.toNat_natCast,Int.toNat_natCast,xO,yg,e,Et hl,wT (by unfold cG; simp; try omega),wT (by unfold cG; simp; try omega),p1,p1,zk hp]
def JA (r : Option Nd) (l : List UInt8) (i j : Nat) (q : List Nd) (A a : List D) (t : List Int) : Option Ret := match r with
 | none => some (.tup [iN 3,iN (i : Int)],[rRd q (A ++ [.os (1,0) (t.map eI)]) a])
 | some nd => xl (mk l) (j : Int) ((q ++ [nd]).map eN) (A ++ [.os (1,0) ((t ++ [(q.length : Int)]).map eI)]) a
theorem Jh {l : List UInt8} (hl : l.length < 1000000000) {i : Nat} {q : List Nd} {A a : List D} {t : List Int} (hq : q.length < 4294967290) (hA : A.length < 4294967290) (ht : t.length < 4294967290) : ∀ (m j : Nat),j + m = l.length -> i <= j ->
  xI (mk l) (i : Int) (j : Int) (q.map eN) (A ++ [.os (1,0) (t.map eI)]) a = JA (xZ ((l.drop i).take (yj l j - i))) l i (yj l j) q A a t
 | m,j,hm,hij => by
  have hcut : cG l.length (some (i : Int)) (some (j : Int)) = true := by unfold cG; simp; omega
  obtain ⟨x,b,h1,h2⟩ := Gq (l := (l.drop i).take (j - i)) (by simp only [List.length_take,List.length_drop]; omega)
  have ha := Iy (p := q) (by omega) x
  have hp := Jm (q := q ++ [x]) (A := A) (a := a) (r := t) (by omega) ht (q.length : Int)
  match m with
  | 0 =>
   rw [yI,xj,vi (wQ (by omega)),wT hcut,Int.toNat_natCast,Int.toNat_natCast,yx,AJ h1,De (by omega)]
   cases hw : xZ ((l.drop i).take (j - i)) with
   | none =>
    rw [hw] at h2
    have h2 : b = false := h2
    rw [h2,Bool.not_false,wC]; rfl
   | some nd =>
    rw [hw] at h2
    obtain ⟨rfl,rfl⟩ : x = nd /\ b = true := h2
    rw [Bool.not_true,vW,zz ha,zk hp]; rfl
  | m + 1 =>
   obtain ⟨y,hy⟩ := vI (l := l) (i := j) (by omega)
   have hb := zy hy
   have hwb := Bu y
   rw [yI,xj,vX (wX (by omega)),wT (wW (by omega)),hb,Aa hwb]
   cases hwu : xN y with
   | true =>
    have ih := Jh hl hq hA ht (A := A) (a := a) (i := i) m (j + 1) (by omega) (by omega)
    rw [wC,xh (by omega),ih,zn hy hwu]
   | false =>
    rw [vW,wT hcut,Int.toNat_natCast,Int.toNat_natCast,yx,AJ h1,BZ hy hwu]
    cases hw : xZ ((l.drop i).take (j - i)) with
    | none =>
     rw [hw] at h2
     have h2 : b = false := h2
     rw [h2,Bool.not_false,wC]; rfl
    | some nd =>
     rw [hw] at h2
     obtain ⟨rfl,rfl⟩ : x = nd /\ b = true := h2
     rw [Bool.not_true,vW,zz ha,zk hp]; rfl
def atO : List RwF -> RwF -> List D
 | [],_ => []
 | u :: o,t => atO o u ++ [iN t.1]
theorem A9 : ∀ (o : List RwF) (t : RwF),(atO o t).length = o.length
 | [],_ => rfl
 | u :: o,t => by rw [atO,lnA,A9 o u]; rfl
theorem Gr (o : List RwF) (t : RwF) (r : List Int) : atO o (t.1,r) = atO o t := by cases o <;> rfl
def IR (n : Nat) (r : RdR) (X : Option Ret) : Prop := match r with
 | .err c a => c ≠ 0 /\ ∃ A B C,X = some (.tup [iN c,iN a],[.op [.os (5,0) A,.os (1,2) B,.os (1,0) C]])
 | .ok q row => X = some (.tup [iN 0,iN (n : Int)],[rRd q [.os (1,0) (row.map eI)] []])
theorem DK (o : List RwF) (t : RwF) : (t :: o).reverse.map eR = o.reverse.map eR ++ [eR t] := by simp
theorem yH {x : UInt8} (c : UInt8) (n : Int) (hn : (c.toNat : Int) = n) (h : ¬ x = c) : ((x.toNat : Int) == n) = false := by
 subst hn
 simp only [beq_eq_false_iff_ne,ne_eq]
 intro e
 exact h (UInt8.toNat_inj.1 (by omega))
theorem Fj {l : List UInt8} (hl : l.length < 1000000000) : ∀ (k i : Nat) (o : List RwF) (t : RwF) (q : List Nd),l.length < i + k -> i <= l.length -> phi o t q + 2 * (l.length - i) < 4000000000 -> o.length + (l.length - i) < 4000000000 ->
  IR l.length (yp l k i o t q) (xl (mk l) (i : Int) (q.map eN) (o.reverse.map eR ++ [eR t]) (atO o t))
 | 0,i,o,t,q,h1,h2,_,_ => by omega
 | k + 1,i,o,t,q,h1,h2,h3,h4 => by
  have hph : phi o t q = q.length + t.2.length + (o.map fun x => x.2.length).sum := rfl
  rw [zl]
  by_cases hi : i = l.length
  ·have hx : l[i]? = none := List.getElem?_eq_none (by omega)
   rw [hx,yG,xj,vi (wQ (by omega))]
   cases o with
   | nil =>
    have e0 : decide (ni (atO ([] : List RwF) t).length > 0) = false := by rw [atO]; rfl
    rw [vi e0,z7,if_pos rfl]; rfl
   | cons u o =>
    rw [z7,if_neg (by simp),vX (decide_eq_true (by rw [A9]; simp only [ni,lnC]; omega)),atO,I5 (by rw [A9]; simp only [lnC] at h4; omega),wT in1,Int.toNat_natCast,xO,wv]
    exact ⟨by decide,_,_,_,rfl⟩
  obtain ⟨x,hx⟩ := vI (l := l) (i := i) (by omega)
  have hb := zy hx
  rw [hx,yG,xj,vX (wX (by omega)),wT (wW (by omega)),hb]
  rw [za]
  by_cases h32 : x = 32
  ·subst h32
   rw [if_pos rfl,vX (by rfl),xh (by omega)]
   exact Fj hl k (i + 1) o t q (by omega) (by omega) (by omega) (by omega)
  rw [if_neg h32,vi (yH 32 32 rfl h32)]
  by_cases h40 : x = 40
  ·subst h40
   have hlo : decide (ni (o.reverse.map eR ++ [eR t] ++ [D.os (1,0) []]).length <= LIM) = true := B7 (by simp only [lnA,lnM,List.length_reverse,lnC,lnN]; omega)
   rw [if_pos rfl,vX (by rfl),wT hlo,wY,wT (B7 (by rw [lnA,A9]; simp only [lnC,lnN]; omega)),wY,xh (by omega)]
   have ih := Fj hl k (i + 1) (t :: o) ((i : Int),[]) q (by omega) (by omega) (by simp only [phi,List.map_cons,List.sum_cons,lnN]; omega) (by simp only [lnC]; omega)
   rw [DK] at ih
   exact ih
  rw [if_neg h40,vi (yH 40 40 rfl h40)]
  by_cases h41 : x = 41
  ·subst h41
   rw [if_pos rfl,vX (by rfl)]
   cases o with
   | nil =>
    have hc : V 36 [rRd q [eR t] []] = some (.bool false,[rRd q [eR t] []]) := by
     rw [y5]; rfl
    rw [show ([] : List RwF).reverse.map eR ++ [eR t] = [eR t] from rfl,show atO [] t = [] from rfl,zU hc,Bool.not_false,wC]
    exact ⟨by decide,_,_,_,rfl⟩
   | cons u o =>
    simp only [List.map_cons,List.sum_cons] at hph
    simp only [lnC] at h4
    have hc := I9 (q := q) (A := o.reverse.map eR) (a := atO o u) (r := u.2) (s := t.2) (b := iN t.1) (by rw [lnM,List.length_reverse]; omega) (by rw [A9]; omega) (by omega) (by omega)
    rw [DK,atO,zU hc,Bool.not_true,vW,xh (by omega)]
    have ih := Fj hl k (i + 1) o (u.1,u.2 ++ [((xr q t.2).2 : Int)]) (xr q t.2).1 (by omega) (by omega) (by simp only [phi,BU,lnA,lnC,lnN]; omega) (by omega)
    rw [Gr] at ih
    exact ih
  rw [if_neg h41,vi (yH 41 41 rfl h41),Aa (Bu x)]
  cases hw : xN x with
  | false =>
   rw [Bool.not_false,wC,if_neg (by simp)]
   exact ⟨by decide,_,_,_,rfl⟩
  | true =>
   have hs := Jh hl (i := i) (q := q) (A := o.reverse.map eR) (a := atO o t) (t := t.2) (by omega) (by rw [lnM,List.length_reverse]; omega) (by omega) (l.length - i) i (by omega) (by omega)
   have hwe := zn hx hw
   have hwl := Bz (l := l) (j := i + 1) (by omega)
   rw [Bool.not_true,vW,if_pos rfl,hs]
   cases hwd : xZ ((l.drop i).take (yj l i - i)) with
   | none => exact ⟨by decide,_,_,_,rfl⟩
   | some nd =>
    have ih := Fj hl k (yj l i) o (t.1,t.2 ++ [(q.length : Int)]) (q ++ [nd]) (by omega) (by omega) (by simp only [phi,lnA,lnC,lnN]; omega) (by omega)
    rw [Gr] at ih
    exact ih
end
end Go.Eng
/-! a step of a machine,plain -/
namespace Go.Eng
noncomputable section

abbrev ndN : Nd := ⟨1,0,⟨#[]⟩,0,0⟩
abbrev ndP (a b : Int) : Nd := ⟨5,0,⟨#[]⟩,a,b⟩
def nod (p : List Nd) (v : Int) : Nd := p.getD v.toNat ndN
abbrev InP (p : List Nd) (v : Int) : Prop := 0 <= v /\ v < (p.length : Int)

def xE (out : List Int) (x : Nd) : Nd :=
 if x.kind = 5 then ⟨x.kind,x.n,x.s,out.getD x.a.toNat 0,out.getD x.b.toNat 0⟩
 else if x.kind = 6 \/ x.kind = 7 then ⟨x.kind,x.n,x.s,out.getD x.a.toNat 0,x.b⟩ else x
def zo (x y : Nd) : Bool := (x.kind == y.kind) && ((x.n == y.n) && (jt x.s y.s && ((x.a == y.a) && (x.b == y.b))))
def Bc : List Nd -> List Int -> List Nd -> List Int × List Nd
 | [],out,keys => (out,keys)
 | x :: r,out,keys => Bc r (out ++ [match keys.findIdx? (fun y => zo y (xE out x)) with | some k => (k : Int) | none => (out.length : Int)]) (keys ++ [xE out x])
def AA (p : List Nd) : List Int := (Bc p [] []).1
def GC (p : List Nd) (a b : Int) : Bool := (AA p).getD a.toNat 0 == (AA p).getD b.toNat 0

end
end Go.Eng
/-! a step of a machine: the program's side: the stack,the frames,lists -/
namespace Go.Eng
open Go.Proofs Go.Proofs.Try
set_option maxHeartbeats 4000000

section
variable {R : Type} {p : List Nd} {v : Int}
end

end Go.Eng
/-! which nodes are alike: both sides -/
namespace Go.Eng
noncomputable section
open Go.Proofs Go.Proofs.Try
set_option maxHeartbeats 4000000

theorem ndEq_iff {x y : Nd} : zo x y = true ↔ x = y := by
 unfold zo
 rw [yQ]
 constructor
 ·intro h
  simp only [Bool.and_eq_true,beq_iff_eq,decide_eq_true_eq] at h
  obtain ⟨h1,h2,h3,h4,h5⟩ := h
  cases x; cases y
  simp only at h1 h2 h3 h4 h5
  subst h1; subst h2; subst h3; subst h4; subst h5
  rfl
 ·rintro rfl
  simp
abbrev kC (y : Nd) : List D := [iN y.kind,iN y.n,.str y.s,iN y.a,iN y.b]
theorem Ib (x y : Nd) : jd (kC x) (kC y) = zo y x := by
 have e : ∀ a b : Int,(a == b) = (b == a) := fun a b => by
  by_cases h : a = b
  ·subst h; rfl
  ·rw [w9 h,w9 (fun e => h e.symm)]
 have e2 : jt x.s y.s = jt y.s x.s := by
  rw [yQ,yQ]
  exact decide_eq_decide.2 ⟨Eq.symm,Eq.symm⟩
 simp only [jd,ol,zo,Bool.and_true]
 rw [e x.kind,e x.n,e x.a,e x.b,e2]
def DA (x : D) (q : List D) : Option Int := match x with
 | .tup [.agg ks,.int _ v] => if jd q ks = true then some v else none
 | _ => none
theorem Ap (x : D) (r q : List D) : ct (x :: r) q = match DA x q with | some v => some v | none => ct r q := by
 by_cases hx : ∃ ks k v,x = .tup [.agg ks,.int k v]
 ·obtain ⟨ks,k,v,rfl⟩ := hx
  simp only [ct,DA]
  cases jd q ks <;> rfl
 ·have e1 : DA x q = none := by
   unfold DA
   split
   ·exact absurd ⟨_,_,_,rfl⟩ hx
   ·rfl
  rw [e1,ct]
  intro ks k v h
  exact hx ⟨ks,k,v,h⟩
theorem CZ (key q : List D) (v : Int) : ∀ xs : List D,ct (ub xs key v) q = match ct xs q with | some u => some u | none => if jd q key = true then some v else none
 | [] => by
  show ct [_] q = _
  rw [Ap]
  simp only [DA,ct]
  cases jd q key <;> rfl
 | x :: xs => by
  have ih := CZ key q v xs
  show ct (x :: ub xs key v) q = _
  rw [Ap,Ap,ih]
  cases DA x q <;> rfl
def zZ (ents : List D) (keys : List Nd) : Prop := ∀ x : Nd,ct ents (kC x) = (keys.findIdx? (fun y => zo y x)).map (fun k => (k : Int))
theorem F9 : zZ [] [] := fun x => by simp [ct]
theorem DB (keys : List Nd) (y x : Nd) : (keys ++ [y]).findIdx? (fun z => zo z x) = match keys.findIdx? (fun z => zo z x) with | some k => some k | none => if zo y x = true then some keys.length else none := by
 rw [List.findIdx?_append]
 cases h : keys.findIdx? (fun z => zo z x) with
 | some k => simp
 | none =>
  simp only [Option.none_or,List.findIdx?_cons,List.findIdx?_nil]
  cases zo y x <;> simp
theorem Ga {ents : List D} {keys : List Nd} (h : zZ ents keys) {y : Nd} {k : Nat} (hk : keys.findIdx? (fun z => zo z y) = some k) : zZ ents (keys ++ [y]) := by
 intro x
 rw [h x,DB]
 cases hx : keys.findIdx? (fun z => zo z x) with
 | some j => rfl
 | none =>
  simp only
  cases hyx : zo y x with
  | false => simp
  | true =>
   rw [ndEq_iff.1 hyx,hx] at hk
   cases hk
theorem F8 {ents : List D} {keys : List Nd} (h : zZ ents keys) {y : Nd} (_ : keys.findIdx? (fun z => zo z y) = none) : zZ (ub ents (kC y) keys.length) (keys ++ [y]) := by
 intro x
 rw [CZ,h x,DB]
 cases hx : keys.findIdx? (fun z => zo z x) with
 | some j => rfl
 | none =>
  simp only [Ib]
  cases hyx : zo y x <;> simp
def clV (keys : List Nd) (y : Nd) (i : Nat) : Int := match keys.findIdx? (fun z => zo z y) with | some k => (k : Int) | none => (i : Int)
theorem Jj {l : List Int} (h : l.length < 4294967290) (x : Int) : decide (ni (l.map eI ++ [iN x]).length <= LIM) = true :=
 decide_eq_true (by rw [nV]; simp only [ni,lnA,lnM,lnC,lnN]; omega)
theorem Bd {ents : List D} {keys : List Nd} {out : List Int} {i : Nat} (h : zZ ents keys) (ho : out.length = i) (hk : keys.length = i) (hl : i < 4294967290) (a b : Int) (s : ByteArray) (c d : Int) (F : List D -> List D -> Option Ret) :
  ∃ ents',zZ ents' (keys ++ [⟨a,b,s,c,d⟩]) /\ br (!ia ents [iN a,iN b,.str s,iN c,iN d])
   (grd (!ia ents [iN a,iN b,.str s,iN c,iN d]) (nam (ub ents [iN a,iN b,.str s,iN c,iN d] (i : Int)) fun l21 => grd (decide (ni (out.map eI ++ [iN (i : Int)]).length <= LIM)) (nam (out.map eI ++ [iN (i : Int)]) fun l22 => F l21 l22)))
   (grd (decide (ni (out.map eI ++ [iN (lz ents [iN a,iN b,.str s,iN c,iN d])]).length <= LIM)) (nam (out.map eI ++ [iN (lz ents [iN a,iN b,.str s,iN c,iN d])]) fun l23 => F ents l23)) =
   F ents' ((out ++ [clV keys ⟨a,b,s,c,d⟩ i]).map eI) := by
 have hx := h ⟨a,b,s,c,d⟩
 have el : ∀ v : Int,out.map eI ++ [iN v] = (out ++ [v]).map eI := fun v => by simp
 unfold clV
 cases hf : keys.findIdx? (fun z => zo z ⟨a,b,s,c,d⟩) with
 | some k =>
  rw [hf] at hx
  obtain ⟨e1,e2⟩ := ua (xs := ents) (ks := [iN a,iN b,.str s,iN c,iN d]) hx
  refine ⟨ents,Ga h hf,?_⟩
  rw [e2,e1,Bool.not_true,vW,wT (Jj (by omega) _),wY,el]
 | none =>
  rw [hf] at hx
  obtain ⟨e1,e2⟩ := t9 (xs := ents) (ks := [iN a,iN b,.str s,iN c,iN d]) hx
  refine ⟨_,F8 h hf,?_⟩
  rw [e2,Bool.not_false,wC,wc,wY,wT (Jj (by omega) _),wY,el,hk]
theorem z4 {R : Type} {l : List Int} {v : Int} (h0 : 0 <= v) (h1 : v < (l.length : Int)) (K : Int -> Option R) : grd (decide (0 <= v) && decide (v < ni (l.map eI).length)) (cD (l.map eI) v.toNat fun x => asI .i64 x fun n => K n) = K (l.getD v.toNat 0) := by
 obtain ⟨x,hx⟩ := vI (l := l) (i := v.toNat) (by omega)
 rw [wT (by rw [lnM]; simp only [ni,Bool.and_eq_true,decide_eq_true_eq]; exact ⟨h0,h1⟩),wk hx,wv,List.getD_eq_getElem?_getD,hx]; rfl
theorem Du (x : Nd) (r : List Nd) (out : List Int) (keys : List Nd) : Bc (x :: r) out keys = Bc r (out ++ [clV keys (xE out x) out.length]) (keys ++ [xE out x]) := rfl
theorem AI {p : List Nd} (hp : AE p) (hl : p.length < 4294967290) : ∀ (k i : Nat) (ents : List D) (keys : List Nd) (out : List Int),i + k = p.length -> out.length = i -> keys.length = i -> zZ ents keys ->
  xm (p.map eN) (ni (p.map eN).length) (i : Int) ents (out.map eI) = some (.os (1,0) ((Bc (p.drop i) out keys).1.map eI),[])
 | 0,i,ents,keys,out,hi,ho,hk,h => by
  rw [zf,vi (by rw [lnM]; exact wQ (by omega)),List.drop_of_length_le (by omega)]
  rfl
 | k + 1,i,ents,keys,out,hi,ho,hk,h => by
  obtain ⟨x,hx⟩ := vI (l := p) (i := i) (by omega)
  have hxo := hp i x hx
  have ih := fun ents keys out ho hk h => AI hp hl k (i + 1) ents keys out (by omega) ho hk h
  rw [zf,vX (by rw [lnM]; exact wX (by omega)),wT (by rw [lnM]; exact wW (by omega)),Int.toNat_natCast,wk hx,Gd,rV hx,Du,xh (by omega),ho]
  have fin : ∀ (y : Nd) (X : Option Ret),y = xE out x -> (∃ ents',zZ ents' (keys ++ [y]) /\ X = xm (p.map eN) (ni (p.map eN).length) ((i + 1 : Nat) : Int) ents' ((out ++ [clV keys y i]).map eI)) ->
    X = some (.os (1,0) ((Bc (p.drop (i + 1)) (out ++ [clV keys (xE out x) i]) (keys ++ [xE out x])).1.map eI),[]) := by
   rintro y X rfl ⟨ents',h1,rfl⟩
   exact ih ents' _ _ (by simp [ho]) (by simp [hk]) h1
  by_cases h5 : x.kind = 5
  ·have hb := yP hxo h5
   rw [vX (xa h5),z4 hb.1 (by omega),z4 hb.2.2.1 (by omega)]
   exact fin ⟨x.kind,x.n,x.s,out.getD x.a.toNat 0,out.getD x.b.toNat 0⟩ _ (by simp only [xE,h5,if_true]) (Bd h ho hk (by omega) x.kind x.n x.s _ _ fun e o => xm (p.map eN) (ni (p.map eN).length) ((i + 1 : Nat) : Int) e o)
  ·rw [vi (w9 h5)]
   by_cases h6 : x.kind = 6
   ·have hb := CD hxo (.inl h6)
    rw [vX (xa h6),vX (xa h6),z4 hb.1 (by omega)]
    exact fin ⟨x.kind,x.n,x.s,out.getD x.a.toNat 0,x.b⟩ _ (by simp only [xE,h6,true_or,if_true]; simp) (Bd h ho hk (by omega) x.kind x.n x.s _ x.b fun e o => xm (p.map eN) (ni (p.map eN).length) ((i + 1 : Nat) : Int) e o)
   ·rw [vi (w9 h6)]
    by_cases h7 : x.kind = 7
    ·have hb := CD hxo (.inr h7)
     rw [vX (xa h7),z4 hb.1 (by omega)]
     exact fin ⟨x.kind,x.n,x.s,out.getD x.a.toNat 0,x.b⟩ _ (by simp only [xE,h7]; simp) (Bd h ho hk (by omega) x.kind x.n x.s _ x.b fun e o => xm (p.map eN) (ni (p.map eN).length) ((i + 1 : Nat) : Int) e o)
    ·rw [vi (w9 h7)]
     exact fin x _ (by simp only [xE,h5,h6,h7,if_false,or_self]) (Bd h ho hk (by omega) x.kind x.n x.s x.a x.b fun e o => xm (p.map eN) (ni (p.map eN).length) ((i + 1 : Nat) : Int) e o)
theorem GR {p : List Nd} (hp : AE p) (hl : p.length < 4294967290) : V 28 [eP p] = some (.os (1,0) ((AA p).map eI),[]) := by
 rw [Di]
 exact AI hp hl p.length 0 [] [] [] (Nat.zero_add _) rfl rfl F9
theorem EK : ∀ (r : List Nd) (out : List Int) (keys : List Nd),(Bc r out keys).1.length = out.length + r.length
 | [],out,keys => rfl
 | x :: r,out,keys => by
  rw [Du,EK r]; simp only [lnA,lnC,lnN]; omega
theorem EO (p : List Nd) : (AA p).length = p.length := by
 unfold AA; rw [EK]; simp
def GB (p : List Nd) (a b : Int) : Bool := xq p && (I4 p a && (I4 p b && GC p a b))
theorem FH {p : List Nd} (hf : zd p) (hl : p.length < 4611686018427387904) (a b : Int) : V 9 [eP p,iN a,iN b] = some (.bool (GB p a b),[]) := by
 have h1 := xH hf hl
 have h2 := zY hl a
 have h3 := zY hl b
 rw [FX,zA h1]
 unfold GB I4
 cases e1 : xq p with
 | false => rfl
 | true =>
  have hlen := yl e1
  have h4 := GR (okPool_iff.1 e1).1 (by omega)
  rw [Bool.not_true,vW,Ci h2]
  cases e2 : wi a 0 ((p.length : Int) - 1) with
  | false => rfl
  | true =>
   rw [Bool.not_true,vW,Ci h3]
   cases e3 : wi b 0 ((p.length : Int) - 1) with
   | false => rfl
   | true =>
    have b2 := wi_iff.1 e2
    have b3 := wi_iff.1 e3
    rw [Bool.not_true,vW,Ez h4,z4 b2.1 (by rw [EO]; omega),z4 b3.1 (by rw [EO]; omega)]
    rfl

end
end Go.Eng
/-! which nodes are alike: by their trees -/
namespace Go.Eng

inductive Alk (q p : List Nd) : Nat -> Nat -> Prop where
 | mk (v u : Nat) (x y : Nd) : q[v]? = some x -> p[u]? = some y -> x.kind = y.kind -> x.n = y.n -> x.s = y.s -> ((x.kind = 5 \/ x.kind = 6 \/ x.kind = 7) -> Alk q p x.a.toNat y.a.toNat) -> (x.kind = 5 -> Alk q p x.b.toNat y.b.toNat) -> Alk q p v u
theorem Alk.left {q p : List Nd} {v u : Nat} (h : Alk q p v u) (e : List Nd) : Alk (q ++ e) p v u := by
 induction h with
 | mk v u x y h1 h2 h3 h4 h5 h6 h7 ih1 ih2 => exact .mk v u x y (by rw [List.getElem?_append_left (aQ h1)]; exact h1) h2 h3 h4 h5 ih1 ih2
theorem Alk.right {q p : List Nd} {v u : Nat} (h : Alk q p v u) (e : List Nd) : Alk q (p ++ e) v u := by
 induction h with
 | mk v u x y h1 h2 h3 h4 h5 h6 h7 ih1 ih2 => exact .mk v u x y h1 (by rw [List.getElem?_append_left (aQ h2)]; exact h2) h3 h4 h5 ih1 ih2

noncomputable def CG (keys : List Nd) (key : Nd) (i : Nat) : Int := match keys.findIdx? (fun y => zo y key) with | some k => (k : Int) | none => (i : Int)
theorem CI (x : Nd) (r : List Nd) (out : List Int) (keys : List Nd) : Bc (x :: r) out keys = Bc r (out ++ [CG keys (xE out x) out.length]) (keys ++ [xE out x]) := rfl
theorem EJ : ∀ (r : List Nd) (out : List Int) (keys : List Nd),∃ a b,Bc r out keys = (out ++ a,keys ++ b)
 | [],out,keys => ⟨[],[],by simp [Bc]⟩
 | x :: r,out,keys => by
  obtain ⟨a,b,h⟩ := EJ r (out ++ [CG keys (xE out x) out.length]) (keys ++ [xE out x])
  exact ⟨CG keys (xE out x) out.length :: a,xE out x :: b,by rw [CI,h]; simp⟩
structure ClOf (O : List Int) (K : List Nd) (i : Nat) (x : Nd) : Prop where
 key : K[i]? = some (xE (O.take i) x)
 out : O[i]? = some (CG (K.take i) (xE (O.take i) x) i)
theorem DT : ∀ (r : List Nd) (out : List Int) (keys : List Nd),out.length = keys.length -> ∀ (j : Nat) (x : Nd),r[j]? = some x -> ClOf (Bc r out keys).1 (Bc r out keys).2 (out.length + j) x
 | [],out,keys,hl,j,x,h => by simp at h
 | y :: r,out,keys,hl,j,x,h => by
  rw [CI]
  match j with
  | 0 =>
   simp only [List.getElem?_cons_zero,Option.some.injEq] at h
   subst h
   obtain ⟨a,b,e⟩ := EJ r (out ++ [CG keys (xE out y) out.length]) (keys ++ [xE out y])
   rw [e]
   have t1 : (out ++ [CG keys (xE out y) out.length] ++ a).take (out.length + 0) = out := by
    rw [Nat.add_zero,List.append_assoc,List.take_left]
   have t2 : (keys ++ [xE out y] ++ b).take (out.length + 0) = keys := by
    rw [Nat.add_zero,hl,List.append_assoc,List.take_left]
   refine ⟨?_,?_⟩
   ·show (keys ++ [xE out y] ++ b)[out.length + 0]? = _
    rw [t1,Nat.add_zero,hl,List.append_assoc,List.getElem?_append_right (Nat.le_refl _)]
    simp
   ·show (out ++ [CG keys (xE out y) out.length] ++ a)[out.length + 0]? = _
    rw [t1,t2,Nat.add_zero,List.append_assoc,List.getElem?_append_right (Nat.le_refl _)]
    simp
  | j + 1 =>
   simp only [List.getElem?_cons_succ] at h
   have := DT r (out ++ [CG keys (xE out y) out.length]) (keys ++ [xE out y]) (by simp [hl]) j x h
   rw [lnA,lnC,lnN] at this
   rw [show out.length + (j + 1) = out.length + (0 + 1) + j by omega]
   exact this
theorem Dt {K : List Nd} {i j : Nat} {key : Nd} (hij : i <= j) (_ : j <= K.length) (hi : K[i]? = some key) : CG (K.take i) key i = CG (K.take j) key j \/ i = j := by
 by_cases e : i = j
 ·exact .inr e
 refine .inl ?_
 have hsplit : K.take j = K.take i ++ (K.drop i).take (j - i) := by
  rw [<- List.take_add]; congr 1; omega
 have hd : (K.drop i).take (j - i) = key :: (K.drop (i + 1)).take (j - i - 1) := by
  rw [rV hi,show j - i = (j - i - 1) + 1 by omega,List.take_succ_cons]
  congr 2
 have hk : zo key key = true := ndEq_iff.2 rfl
 unfold CG
 rw [hsplit,hd,List.findIdx?_append]
 have hli : (K.take i).length = i := by rw [List.length_take]; have := aQ hi; omega
 cases h : (K.take i).findIdx? (fun y => zo y key) with
 | some k => simp
 | none => simp [List.findIdx?_cons,hk,hli]
theorem IM {p : List Nd} {i j : Nat} {x y : Nd} (hx : p[i]? = some x) (hy : p[j]? = some y) (hk : xE ((AA p).take i) x = xE ((AA p).take j) y) : (AA p)[i]? = (AA p)[j]? := by
 have a := DT p [] [] rfl i x hx
 have b := DT p [] [] rfl j y hy
 rw [lnN,Nat.zero_add] at a b
 have e : AA p = (Bc p [] []).1 := rfl
 rw [e] at hk ⊢
 obtain ⟨a1,a2⟩ := a
 obtain ⟨b1,b2⟩ := b
 rw [hk] at a1 a2
 have li := aQ a1
 have lj := aQ b1
 rw [a2,b2]
 rcases Nat.le_total i j with h | h
 ·rcases Dt h (by omega) a1 with q | q
  ·rw [q]
  ·subst q; rfl
 ·rcases Dt h (by omega) b1 with q | q
  ·rw [q]
  ·subst q; rfl
theorem IL {p : List Nd} (hp : AE p) {v u : Nat} (h : Alk p p v u) : (AA p)[v]? = (AA p)[u]? := by
 induction h with
 | mk v u x y h1 h2 h3 h4 h5 h6 h7 ih1 ih2 =>
  refine IM h1 h2 ?_
  have ox := hp v x h1
  have oy := hp u y h2
  have lv := aQ h1
  have lu := aQ h2
  have ch : ∀ {a b : Int} {i j : Nat},0 <= a -> a < (i : Int) -> 0 <= b -> b < (j : Int) -> i <= p.length -> j <= p.length -> (AA p)[a.toNat]? = (AA p)[b.toNat]? -> ((AA p).take i).getD a.toNat 0 = ((AA p).take j).getD b.toNat 0 := by
   intro a b i j a0 a1 b0 b1 _ _ he
   rw [List.getD_eq_getElem?_getD,List.getD_eq_getElem?_getD,List.getElem?_take,List.getElem?_take,if_pos (by omega),if_pos (by omega),he]
  unfold xE
  by_cases k5 : x.kind = 5
  ·have k5' : y.kind = 5 := by rw [<- h3]; exact k5
   have px := yP ox k5
   have py := yP oy k5'
   rw [if_pos k5,if_pos k5',h3,h4,h5,ch px.1 px.2.1 py.1 py.2.1 (by omega) (by omega) (ih1 (.inl k5)),ch px.2.2.1 px.2.2.2 py.2.2.1 py.2.2.2 (by omega) (by omega) (ih2 k5)]
  ·have k5' : ¬ y.kind = 5 := by rw [<- h3]; exact k5
   rw [if_neg k5,if_neg k5']
   by_cases k67 : x.kind = 6 \/ x.kind = 7
   ·have k67' : y.kind = 6 \/ y.kind = 7 := by rw [<- h3]; exact k67
    have px := CD ox k67
    have py := CD oy k67'
    have bx : x.b = 0 := by rcases k67 with k | k <;> (simp [okN,k] at ox; omega)
    have by' : y.b = 0 := by rcases k67' with k | k <;> (simp [okN,k] at oy; omega)
    rw [if_pos k67,if_pos k67',h3,h4,h5,ch px.1 px.2 py.1 py.2 (by omega) (by omega) (ih1 (.inr k67)),bx,by']
   ·have k67' : ¬ (y.kind = 6 \/ y.kind = 7) := by rw [<- h3]; exact k67
    rw [if_neg k67,if_neg k67']
    have flat0 : ∀ {z : Nd} {i : Int},okN z i = true -> z.kind ≠ 5 -> ¬ (z.kind = 6 \/ z.kind = 7) -> z.a = 0 /\ z.b = 0 := by
     intro z i hz k5 k67
     unfold okN at hz
     repeat' split at hz
     all_goals first
      | (exfalso; omega)
      | (cases hz; done)
      | (simp only [Bool.and_eq_true,beq_iff_eq] at hz; exact ⟨hz.2.2.1,hz.2.2.2⟩)
    obtain ⟨a1,a2⟩ := flat0 ox k5 k67
    obtain ⟨b1,b2⟩ := flat0 oy k5' k67'
    cases x; cases y
    simp only at h3 h4 h5 a1 a2 b1 b2
    rw [h3,h4,h5,a1,a2,b1,b2]
theorem GX {p : List Nd} (hp : AE p) {a b : Int} (h : Alk p p a.toNat b.toNat) : GC p a b = true := by
 unfold GC
 rw [List.getD_eq_getElem?_getD,List.getD_eq_getElem?_getD,IL hp h]
 simp
end Go.Eng
/-! reading a text: the spec -/
namespace Go.Eng
noncomputable section
open Go.Proofs Go.Proofs.Try
set_option maxHeartbeats 4000000

theorem Iz {p : List Nd} (hl : p.length <= 4294967296) : V 17 [eP p] = some (oP p,[]) := by
 have h : V 35 [.rs (5,0) (p.map eN)] = some (.os (5,0) (p.map eN),[]) := by
  rw [yJ,List.nil_append,wT (decide_eq_true (by rw [nV,lnM]; simp only [ni]; omega)),wY]
  exact vo _ _
 rw [CP]
 simp (disch := first | omega | (simp only [lnA,lnC,lnN,lnM,xj,u9]; omega)) only [↓vc,vq,↓wJ,↓wx,h]
theorem ED {p : List Nd} (hl : p.length <= 4294967296) : V 20 [eP p] = some (oP p,[]) := by
 rw [Ef,List.nil_append]
 simp (disch := first | omega | (simp only [lnA,lnC,lnN,lnM,xj,u9]; omega)) only [↓wc,↓wY,xe,lnM,nV,u9]

abbrev eO (x : RwF) : D := .agg [iN x.1,.os (1,0) (x.2.map eI)]
theorem yX (t : RwF) (K : List D -> List D -> Option Ret) : (asAgg (eO t) fun l => cD l 1 fun y => im (1,0) y fun r => asAgg (eO t) fun l2 => K r l2) = K (t.2.map eI) [iN t.1,.os (1,0) (t.2.map eI)] := rfl
theorem Jg (t : RwF) (K : Int -> Option Ret) : (asAgg (eO t) fun l => cD l 0 fun y => asI .i64 y fun r => K r) = K t.1 := rfl
theorem tdd (a b : D) : List.take 1 [a,b] ++ [D.dead] ++ List.drop 2 [a,b] = [a,.dead] := rfl
theorem tds (a b c : D) : List.take 1 [a,b] ++ [c] ++ List.drop 2 [a,b] = [a,c] := rfl
theorem Jw (A J : List D) (x : D) : part (A ++ x :: J) (some (0,A.length + 1)) = A ++ [x] := by
 simp only [part,List.drop_zero]
 rw [show A ++ x :: J = (A ++ [x]) ++ J by simp,List.take_left' (by simp)]
def SR (P : List D) (n : Nat) (r : RdR) : Option Ret := match r with
 | .err c a => some (.tup [.agg [.os (5,0) P],.os (1,0) [],iN c,iN a],[])
 | .ok q row => if xq q = true then some (.tup [.agg [.os (5,0) (q.map eN)],.os (1,0) (row.map eI),iN 0,iN (n : Int)],[]) else some (.tup [.agg [.os (5,0) P],.os (1,0) [],iN 6,iN 0],[])
def DP (r : Option Nd) (p : List Nd) (i : Nat) (X : Nd -> Option Ret) : Option Ret := match r with
 | none => some (.tup [.agg [.os (5,0) (p.map eN)],.os (1,0) [],iN 3,iN (i : Int)],[])
 | some nd => X nd
theorem Jl {l : List UInt8} (hl : l.length < 1000000000) {i : Nat} {p q : List Nd} {A : List D} {t : RwF} (hp : p.length < 4294967290) (hq : q.length < 4294967290) (hA : A.length < 4294967290) (ht : t.2.length < 4294967290) : ∀ (m j : Nat),j + m = l.length -> i <= j ->
  yf (mk l) (j : Int) (A.length : Int) (i : Int) (p.map eN) [] (A ++ [eO t]) (q.map eN) = DP (xZ ((l.drop i).take (yj l j - i))) p i fun nd => xp (mk l) (yj l j : Nat) (p.map eN) [] (A ++ [eO (t.1,t.2 ++ [(q.length : Int)])]) ((q ++ [nd]).map eN)
 | m,j,hm,hij => by
  have hcut : cG l.length (some (i : Int)) (some (j : Int)) = true := by unfold cG; simp; omega
  obtain ⟨x,b,h1,h2⟩ := FI (l := (l.drop i).take (j - i)) (by simp only [List.length_take,List.length_drop]; omega)
  have ha := Az (p := q) (by omega) x
  have hc := ED (p := p) (by omega)
  have hin : ∀ x : D,(decide (0 <= (A.length : Int)) && decide ((A.length : Int) < ni (A ++ [x]).length)) = true := fun x => wW (by simp)
  have hlim : decide (ni (t.2.map eI ++ [iN (q.length : Int)]).length <= LIM) = true := B7 (by simp only [lnA,lnM,lnC,lnN]; omega)
  have hrow : (t.2 ++ [(q.length : Int)]).map eI = t.2.map eI ++ [iN (q.length : Int)] := by simp
  match m with
  | 0 =>
   rw [zD,xj,vi (wQ (by omega)),wT hcut,Int.toNat_natCast,Int.toNat_natCast,yx,zB h1,De (by omega)]
   cases hw : xZ ((l.drop i).take (j - i)) with
   | none =>
    rw [hw] at h2
    have h2 : b = false := h2
    rw [h2,Bool.not_false,wC,xz hc]; rfl
   | some nd =>
    rw [hw] at h2
    obtain ⟨rfl,rfl⟩ : x = nd /\ b = true := h2
    rw [Bool.not_true,vW,wT (hin _),Int.toNat_natCast,xO,yX,yV ha,wT hlim,wY,yg,tdd,wT (hin _),xO,vG,yg,tds,wY,DP,eO,hrow]
  | m + 1 =>
   obtain ⟨y,hy⟩ := vI (l := l) (i := j) (by omega)
   have hb := zy hy
   have hwb := z8 y
   rw [zD,xj,vX (wX (by omega)),wT (wW (by omega)),hb,yc hwb]
   cases hwu : xN y with
   | true =>
    have ih := Jl hl hp hq hA ht (A := A) (i := i) m (j + 1) (by omega) (by omega)
    rw [wC,xh (by omega),ih,zn hy hwu]
   | false =>
    rw [vW,wT hcut,Int.toNat_natCast,Int.toNat_natCast,yx,zB h1,BZ hy hwu]
    cases hw : xZ ((l.drop i).take (j - i)) with
    | none =>
     rw [hw] at h2
     have h2 : b = false := h2
     rw [h2,Bool.not_false,wC,xz hc]; rfl
    | some nd =>
     rw [hw] at h2
     obtain ⟨rfl,rfl⟩ : x = nd /\ b = true := h2
     rw [Bool.not_true,vW,wT (hin _),Int.toNat_natCast,xO,yX,yV ha,wT hlim,wY,yg,tdd,wT (hin _),xO,vG,yg,tds,wY,DP,eO,hrow]
theorem Ep {A J : List D} {x : D} : (decide (0 <= (A.length : Int)) && decide ((A.length : Int) < ni (A.length + 1)) && decide (0 + (A.length + 1) <= (A ++ x :: J).length)) = true := by
 simp only [ni,Bool.and_eq_true,decide_eq_true_eq,lnA,lnC]; omega
theorem Ir {l : List UInt8} (hl : l.length < 1000000000) {i : Nat} {p q : List Nd} {A J : List D} {t : RwF} (hp : p.length < 4294967290) (hq : q.length < 4294967290) (hA : A.length < 4294967290) (ht : t.2.length < 4294967290) : ∀ (m j : Nat),j + m = l.length -> i <= j ->
  xL (mk l) (A.length + 1) (j : Int) (A.length : Int) (i : Int) (p.map eN) [] (A ++ eO t :: J) (q.map eN) = DP (xZ ((l.drop i).take (yj l j - i))) p i fun nd => xo (mk l) (A.length + 1) (yj l j : Nat) (p.map eN) [] (A ++ eO (t.1,t.2 ++ [(q.length : Int)]) :: J) ((q ++ [nd]).map eN)
 | m,j,hm,hij => by
  have hcut : cG l.length (some (i : Int)) (some (j : Int)) = true := by unfold cG; simp; omega
  obtain ⟨x,b,h1,h2⟩ := FI (l := (l.drop i).take (j - i)) (by simp only [List.length_take,List.length_drop]; omega)
  have ha := Az (p := q) (by omega) x
  have hc := ED (p := p) (by omega)
  have hlim : decide (ni (t.2.map eI ++ [iN (q.length : Int)]).length <= LIM) = true := B7 (by simp only [lnA,lnM,lnC,lnN]; omega)
  have hrow : (t.2 ++ [(q.length : Int)]).map eI = t.2.map eI ++ [iN (q.length : Int)] := by simp
  match m with
  | 0 =>
   rw [y6,xj,vi (wQ (by omega)),wT hcut,Int.toNat_natCast,Int.toNat_natCast,yx,zB h1,De (by omega)]
   cases hw : xZ ((l.drop i).take (j - i)) with
   | none =>
    rw [hw] at h2
    have h2 : b = false := h2
    rw [h2,Bool.not_false,wC,xz hc]; rfl
   | some nd =>
    rw [hw] at h2
    obtain ⟨rfl,rfl⟩ : x = nd /\ b = true := h2
    rw [Bool.not_true,vW,wT Ep,Int.toNat_natCast,Nat.zero_add,xO,yX,yV ha,wT hlim,wY,yg,tdd,wT Ep,xO,vG,yg,tds,wY,DP,eO,hrow]
  | m + 1 =>
   obtain ⟨y,hy⟩ := vI (l := l) (i := j) (by omega)
   have hb := zy hy
   have hwb := z8 y
   rw [y6,xj,vX (wX (by omega)),wT (wW (by omega)),hb,yc hwb]
   cases hwu : xN y with
   | true =>
    have ih := Ir hl hp hq hA ht (A := A) (J := J) (i := i) m (j + 1) (by omega) (by omega)
    rw [wC,xh (by omega),ih,zn hy hwu]
   | false =>
    rw [vW,wT hcut,Int.toNat_natCast,Int.toNat_natCast,yx,zB h1,BZ hy hwu]
    cases hw : xZ ((l.drop i).take (j - i)) with
    | none =>
     rw [hw] at h2
     have h2 : b = false := h2
     rw [h2,Bool.not_false,wC,xz hc]; rfl
    | some nd =>
     rw [hw] at h2
     obtain ⟨rfl,rfl⟩ : x = nd /\ b = true := h2
     rw [Bool.not_true,vW,wT Ep,Int.toNat_natCast,Nat.zero_add,xO,yX,yV ha,wT hlim,wY,yg,tdd,wT Ep,xO,vG,yg,tds,wY,DP,eO,hrow]
theorem Jx {A J : List D} {x y v : D} : ((A ++ [x]) ++ y :: J).set (A.length + 1) v = A ++ x :: v :: J := by
 have := yg (A := A ++ [x]) (B := J) (x := y) (v := v)
 rw [lnA,List.length_singleton] at this
 rw [this,List.append_assoc]; rfl
theorem Jt {A J : List D} {x y : D} (K : D -> Option Ret) : cD ((A ++ [x]) ++ y :: J) (A.length + 1) K = K y := by
 have := xO (A := A ++ [x]) (B := J) (x := y) K
 rw [lnA,List.length_singleton] at this
 exact this
theorem IG {n : Nat} (h : n < 4611686018427387904) : w6 (((n + 1 : Nat) : Int) - 1) = (n : Int) := by
 rw [w64 (by omega) (by omega)]; omega
theorem GV (P : List D) (n : Nat) (q : List Nd) (row : List Int) : SR P n (.ok q row) = if xq q = true then some (.tup [.agg [.os (5,0) (q.map eN)],.os (1,0) (row.map eI),iN 0,iN (n : Int)],[]) else some (.tup [.agg [.os (5,0) P],.os (1,0) [],iN 6,iN 0],[]) := rfl
theorem DL {l : List UInt8} (hl : l.length < 1000000000) {p : List Nd} (hp : p.length < 4294967290) : ∀ (k i : Nat) (o : List RwF) (t : RwF) (q : List Nd),l.length < i + k -> i <= l.length -> phi o t q + 2 * (l.length - i) < 4000000000 -> o.length + (l.length - i) < 4000000000 -> zd q ->
  xp (mk l) (i : Int) (p.map eN) [] (o.reverse.map eO ++ [eO t]) (q.map eN) = SR (p.map eN) l.length (yp l k i o t q) /\
  ∀ J,xo (mk l) (o.length + 1) (i : Int) (p.map eN) [] (o.reverse.map eO ++ eO t :: J) (q.map eN) = SR (p.map eN) l.length (yp l k i o t q)
 | 0,i,o,t,q,h1,h2,_,_,_ => by omega
 | k + 1,i,o,t,q,h1,h2,h3,h4,hf => by
  have hph : phi o t q = q.length + t.2.length + (o.map fun x => x.2.length).sum := rfl
  have hc := ED (p := p) (by omega)
  have hAl : (o.reverse.map eO).length = o.length := by rw [lnM,List.length_reverse]
  have hn1 : (o.reverse.map eO ++ [eO t]).length = o.length + 1 := by rw [lnA,hAl]; rfl
  have hw1 : w6 (ni (o.length + 1) - 1) = ((o.reverse.map eO).length : Int) := by rw [hAl]; exact IG (by omega)
  have hin : ∀ J,(decide (0 <= ((o.reverse.map eO).length : Int)) && decide (((o.reverse.map eO).length : Int) < ni (o.length + 1)) && decide (0 + (o.length + 1) <= (o.reverse.map eO ++ eO t :: J).length)) = true := fun J => by
   rw [<- hAl]; exact Ep
  rw [zl]
  by_cases hi : i = l.length
  ·have hx : l[i]? = none := List.getElem?_eq_none (by omega)
   have hok := AM hf (by omega)
   rw [hx,z7]
   cases o with
   | nil =>
    have hlim : decide (ni ([] ++ t.2.map eI).length <= LIM) = true := B7 (by rw [List.nil_append,lnM]; omega)
    rw [if_pos rfl]
    constructor
    ·rw [xD,xj,vi (wQ (by omega)),vi (by rfl),Aq hok]
     rw [GV]
     cases hq : xq q with
     | false => rw [Bool.not_false,wC,xz hc,if_neg (by simp)]
     | true => rw [Bool.not_true,vW,wT (by rfl),if_pos rfl,show ∀ K : D -> Option Ret,cD (([] : List RwF).reverse.map eO ++ [eO t]) 0 K = K (eO t) from fun K => rfl,yX,wT hlim,wY,List.nil_append]
    ·intro J
     rw [xw,xj,vi (wQ (by omega)),vi (by rfl),Aq hok]
     rw [GV]
     cases hq : xq q with
     | false => rw [Bool.not_false,wC,xz hc,if_neg (by simp)]
     | true => rw [Bool.not_true,vW,wT (by simp [ni]),if_pos rfl,show ∀ K : D -> Option Ret,cD (([] : List RwF).reverse.map eO ++ eO t :: J) 0 K = K (eO t) from fun K => rfl,yX,wT hlim,wY,List.nil_append]
   | cons u o =>
    rw [if_neg (by simp)]
    constructor
    ·rw [xD,xj,vi (wQ (by omega)),hn1,vX (decide_eq_true (by simp only [ni,lnC]; omega)),xz hc,hw1,wT (by rw [hAl]; exact wW (by omega)),Int.toNat_natCast,xO,Jg]; rfl
    ·intro J
     rw [xw,xj,vi (wQ (by omega)),vX (decide_eq_true (by simp only [ni,lnC]; omega)),xz hc,hw1,wT (hin J),Int.toNat_natCast,Nat.zero_add,xO,Jg]; rfl
  obtain ⟨x,hx⟩ := vI (l := l) (i := i) (by omega)
  have hb := zy hx
  rw [hx,za]
  by_cases h32 : x = 32
  ·subst h32
   have ih := DL hl hp k (i + 1) o t q (by omega) (by omega) (by omega) (by omega) hf
   rw [if_pos rfl]
   constructor
   ·rw [xD,xj,vX (wX (by omega)),wT (wW (by omega)),hb,vX (by rfl),xh (by omega)]
    exact ih.1
   ·intro J
    rw [xw,xj,vX (wX (by omega)),wT (wW (by omega)),hb,vX (by rfl),xh (by omega)]
    exact ih.2 J
  rw [if_neg h32]
  by_cases h40 : x = 40
  ·subst h40
   have hlo : decide (ni (o.reverse.map eO ++ [eO t] ++ [D.agg [iN (i : Int),.os (1,0) []]]).length <= LIM) = true := B7 (by rw [lnA,hn1]; simp only [lnC,lnN]; omega)
   have ih := (DL hl hp k (i + 1) (t :: o) ((i : Int),[]) q (by omega) (by omega) (by simp only [phi,List.map_cons,List.sum_cons,lnN]; omega) (by simp only [lnC]; omega) hf).1
   rw [show (t :: o).reverse.map eO = o.reverse.map eO ++ [eO t] by simp] at ih
   rw [if_pos rfl]
   constructor
   ·rw [xD,xj,vX (wX (by omega)),wT (wW (by omega)),hb,vi (by rfl),vX (by rfl),wT hlo,wY,xh (by omega)]
    exact ih
   ·intro J
    have hpt := Jw (o.reverse.map eO) J (eO t)
    rw [hAl] at hpt
    rw [xw,xj,vX (wX (by omega)),wT (wW (by omega)),hb,vi (by rfl),vX (by rfl),hpt,wT hlo,wY,xh (by omega)]
    exact ih
  rw [if_neg h40]
  by_cases h41 : x = 41
  ·subst h41
   rw [if_pos rfl]
   cases o with
   | nil =>
    constructor
    ·rw [xD,xj,vX (wX (by omega)),wT (wW (by omega)),hb,vi (by rfl),vi (by rfl),vX (by rfl),hn1,hw1,vX (by rfl),xz hc]; rfl
    ·intro J
     rw [xw,xj,vX (wX (by omega)),wT (wW (by omega)),hb,vi (by rfl),vi (by rfl),vX (by rfl),hw1,vX (by rfl),xz hc]; rfl
   | cons u o =>
    simp only [List.map_cons,List.sum_cons] at hph
    simp only [lnC] at h4
    have hll := IA (q := q) (row := t.2) (by omega)
    have ih := (DL hl hp k (i + 1) o (u.1,u.2 ++ [((xr q t.2).2 : Int)]) (xr q t.2).1 (by omega) (by omega) (by simp only [phi,BU,lnA,lnC,lnN]; omega) (by omega) (CY hf _)).2
    obtain ⟨O,hO⟩ : ∃ O,O = o.reverse.map eO := ⟨_,rfl⟩
    have hA : O.length = o.length := by rw [hO,lnM,List.length_reverse]
    have hrev : (u :: o).reverse.map eO = O ++ [eO u] := by rw [hO]; simp
    have hlim : decide (ni (u.2.map eI ++ [iN ((xr q t.2).2 : Int)]).length <= LIM) = true := B7 (by simp only [lnA,lnM,lnC,lnN]; omega)
    have hrow : (u.2 ++ [((xr q t.2).2 : Int)]).map eI = u.2.map eI ++ [iN ((xr q t.2).2 : Int)] := by simp
    have hl2 : (u :: o).length = O.length + 1 := by rw [hA]; rfl
    have hn2 : (O ++ [eO u] ++ [eO t]).length = O.length + 1 + 1 := by simp
    have hw2 : w6 (ni (O.length + 1 + 1) - 1) = ((O.length + 1 : Nat) : Int) := IG (by omega)
    have hw3 : w6 (((O.length + 1 : Nat) : Int) - 1) = (O.length : Int) := IG (by omega)
    have hne : (((O.length + 1 : Nat) : Int) == 0) = false := by simp only [beq_eq_false_iff_ne,ne_eq]; omega
    rw [<- hA,<- hO] at ih
    rw [hrev,hl2]
    constructor
    ·rw [xD,xj,vX (wX (by omega)),wT (wW (by omega)),hb,vi (by rfl),vi (by rfl),vX (by rfl),hn2,hw2,vi hne,wT (wW (by omega)),Int.toNat_natCast,Jt,yX,Ck hll,tdd,Jx,hw3,Int.toNat_natCast,Nat.zero_add O.length]
     rw [wT (by unfold cG; simp; try omega),wT Ep,xO,yX,wT hlim,wY,yg,tdd,wT Ep,xO,vG,yg,tds,wY,xh (by omega),<- hrow]
     exact ih _
    ·intro J
     rw [xw,xj,vX (wX (by omega)),wT (wW (by omega)),hb,vi (by rfl),vi (by rfl),vX (by rfl),hw2,vi hne,wT (by simp only [ni,Bool.and_eq_true,decide_eq_true_eq,lnA,lnC,lnN]; omega),Int.toNat_natCast,Nat.zero_add (O.length + 1),Jt,yX,Ck hll,tdd,Jx,hw3,Int.toNat_natCast,Nat.zero_add O.length]
     rw [wT (by unfold gq; simp; try omega),wT (by have := Ep (A := O) (J := D.agg [iN t.1,.dead] :: J) (x := eO u); rwa [Nat.zero_add] at this),xO,yX,wT hlim,wY,yg,tdd,wT (by have := Ep (A := O) (J := D.agg [iN t.1,.dead] :: J) (x := .agg [iN u.1,.dead]); rwa [Nat.zero_add] at this),xO,vG,yg,tds,wY,xh (by omega),<- hrow]
     exact ih _
  rw [if_neg h41]
  have hwb := z8 x
  cases hw : xN x with
  | false =>
   rw [hw] at hwb
   rw [if_neg (by simp)]
   constructor
   ·rw [xD,xj,vX (wX (by omega)),wT (wW (by omega)),hb,vi (yH 32 32 rfl h32),vi (yH 40 40 rfl h40),vi (yH 41 41 rfl h41),yc hwb,vW,xz hc]; rfl
   ·intro J
    rw [xw,xj,vX (wX (by omega)),wT (wW (by omega)),hb,vi (yH 32 32 rfl h32),vi (yH 40 40 rfl h40),vi (yH 41 41 rfl h41),yc hwb,vW,xz hc]; rfl
  | true =>
   rw [hw] at hwb
   have hs := Jl hl (i := i) (p := p) (q := q) (A := o.reverse.map eO) (t := t) hp (by omega) (by rw [hAl]; omega) (by omega) (l.length - i) i (by omega) (by omega)
   have hs1 := fun J => Ir hl (i := i) (p := p) (q := q) (A := o.reverse.map eO) (J := J) (t := t) hp (by omega) (by rw [hAl]; omega) (by omega) (l.length - i) i (by omega) (by omega)
   rw [hAl] at hs hs1
   have hwe := zn hx hw
   have hwl := Bz (l := l) (j := i + 1) (by omega)
   rw [hAl] at hw1
   rw [if_pos rfl]
   constructor
   ·rw [xD,xj,vX (wX (by omega)),wT (wW (by omega)),hb,vi (yH 32 32 rfl h32),vi (yH 40 40 rfl h40),vi (yH 41 41 rfl h41),yc hwb,wC,hn1,hw1,hs]
    cases hwd : xZ ((l.drop i).take (yj l i - i)) with
    | none => rfl
    | some nd =>
     have hz := AY hwd
     exact (DL hl hp k (yj l i) o (t.1,t.2 ++ [(q.length : Int)]) (q ++ [nd]) (by omega) (by omega) (by simp only [phi,lnA,lnC,lnN]; omega) (by omega) (zP hf (by rw [List.length_take,List.length_drop] at hz; omega))).1
   ·intro J
    rw [xw,xj,vX (wX (by omega)),wT (wW (by omega)),hb,vi (yH 32 32 rfl h32),vi (yH 40 40 rfl h40),vi (yH 41 41 rfl h41),yc hwb,wC,hw1,hs1]
    cases hwd : xZ ((l.drop i).take (yj l i - i)) with
    | none => rfl
    | some nd =>
     have hz := AY hwd
     exact (DL hl hp k (yj l i) o (t.1,t.2 ++ [(q.length : Int)]) (q ++ [nd]) (by omega) (by omega) (by simp only [phi,lnA,lnC,lnN]; omega) (by omega) (zP hf (by rw [List.length_take,List.length_drop] at hz; omega))).2 J
end
end Go.Eng
/-! reading a text: both sides agree -/
namespace Go.Eng
noncomputable section
open Go.Proofs Go.Proofs.Try
set_option maxHeartbeats 4000000

theorem zb {l : List UInt8} (hl : l.length < 1000000000) : ∀ (k i : Nat) (o : List RwF) (t : RwF) (q : List Nd),i <= l.length -> phi o t q + 2 * (l.length - i) < 4000000000 -> zd q -> ∀ q' row,yp l k i o t q = .ok q' row -> zd q' /\ q'.length < 4000000000 /\ row.length < 4000000000
 | 0,i,o,t,q,_,_,_,q',row,h => by rw [yp] at h; cases h
 | k + 1,i,o,t,q,h2,h3,hf,q',row,h => by
  have hph : phi o t q = q.length + t.2.length + (o.map fun x => x.2.length).sum := rfl
  rw [zl] at h
  by_cases hi : i = l.length
  ·have hx : l[i]? = none := List.getElem?_eq_none (by omega)
   rw [hx,z7] at h
   by_cases ho : o = []
   ·rw [if_pos ho] at h
    cases h
    exact ⟨hf,by omega,by omega⟩
   ·rw [if_neg ho] at h; cases h
  obtain ⟨x,hx⟩ := vI (l := l) (i := i) (by omega)
  rw [hx,za] at h
  by_cases h32 : x = 32
  ·rw [if_pos h32] at h
   exact zb hl k (i + 1) o t q (by omega) (by omega) hf q' row h
  rw [if_neg h32] at h
  by_cases h40 : x = 40
  ·rw [if_pos h40] at h
   exact zb hl k (i + 1) (t :: o) ((i : Int),[]) q (by omega) (by simp only [phi,List.map_cons,List.sum_cons,lnN]; omega) hf q' row h
  rw [if_neg h40] at h
  by_cases h41 : x = 41
  ·rw [if_pos h41] at h
   cases o with
   | nil => cases h
   | cons u o =>
    simp only [List.map_cons,List.sum_cons] at hph
    exact zb hl k (i + 1) o (u.1,u.2 ++ [((xr q t.2).2 : Int)]) (xr q t.2).1 (by omega) (by simp only [phi,BU,lnA,lnC,lnN]; omega) (CY hf _) q' row h
  rw [if_neg h41] at h
  by_cases hw : xN x = true
  ·rw [if_pos hw] at h
   have hwe := zn hx hw
   have hwl := Bz (l := l) (j := i + 1) (by omega)
   cases hwd : xZ ((l.drop i).take (yj l i - i)) with
   | none => rw [hwd] at h; cases h
   | some nd =>
    rw [hwd] at h
    have hz := AY hwd
    exact zb hl k (yj l i) o (t.1,t.2 ++ [(q.length : Int)]) (q ++ [nd]) (by omega) (by simp only [phi,lnA,lnC,lnN]; omega) (zP hf (by rw [List.length_take,List.length_drop] at hz; omega)) q' row h
  ·rw [if_neg hw] at h; cases h
def Gl (p : List Nd) (n : Nat) (r : RdR) : List Nd × List Int × Int × Int := match r with
 | .err c a => (p,[],c,a)
 | .ok q row => if xq q = true then (q,row,0,(n : Int)) else (p,[],6,0)
def xQ (p : List Nd) (l : List UInt8) : List Nd × List Int × Int × Int := if xq p = false then ([],[],6,0) else if 400 < l.length then (p,[],1,0) else Gl p l.length (yp l (l.length + 1) 0 [] (0,[]) p)
abbrev Gj (r : List Nd × List Int × Int × Int) : Option Ret := some (.tup [oP r.1,.os (1,0) (r.2.1.map eI),iN r.2.2.1,iN r.2.2.2],[])
theorem IK (p : List Nd) (n : Nat) (r : RdR) : SR (p.map eN) n r = Gj (Gl p n r) := by
 cases r with
 | err c a => rfl
 | ok q row =>
  rw [GV]
  unfold Gl
  by_cases h : xq q = true
  ·rw [if_pos h]; simp only [if_pos h]
  ·rw [if_neg h]; simp only [if_neg h]; rfl
theorem FJ {p : List Nd} (hf : zd p) (hl : p.length < 4611686018427387904) (l : List UInt8) : V 7 [eP p,.str (mk l)] = Gj (xQ p l) := by
 have hok := AM hf hl
 unfold xQ
 rw [FP,Aq hok]
 cases h : xq p with
 | false => rw [Bool.not_false,wC,if_pos rfl]; rfl
 | true =>
  have hp := yl h
  have hc := ED (p := p) (by omega)
  rw [Bool.not_true,vW,if_neg (by simp),xj]
  by_cases h4 : 400 < l.length
  ·rw [vX (decide_eq_true (by simp only [ni]; omega)),xz hc,if_pos h4]; rfl
  ·have hs := (DL (l := l) (by omega) (p := p) (by omega) (l.length + 1) 0 [] (0,[]) p (by omega) (by omega) (by simp only [phi,List.map_nil,List.sum_nil,lnN]; omega) (by simp only [lnN]; omega) hf).1
   rw [vi (decide_eq_false (by simp only [ni]; omega)),xz hc,if_neg h4,<- IK]
   exact hs
theorem Cp {p : List Nd} (hf : zd p) (hl : p.length < 4611686018427387904) (l : List UInt8) : V 6 [eP p,.str (mk l)] = Gj (xQ p l) := by
 have hok := xH hf hl
 unfold xQ
 rw [FW,zA hok]
 cases h : xq p with
 | false => rw [Bool.not_false,wC,if_pos rfl]; rfl
 | true =>
  have hp := yl h
  have hc := Iz (p := p) (by omega)
  rw [Bool.not_true,vW,if_neg (by simp),xj]
  by_cases h4 : 400 < l.length
  ·rw [vX (decide_eq_true (by simp only [ni]; omega)),yZ hc,if_pos h4]; rfl
  have hs := Fj (l := l) (by omega) (l.length + 1) 0 [] (0,[]) p (by omega) (by omega) (by simp only [phi,List.map_nil,List.sum_nil,lnN]; omega) (by simp only [lnN]; omega)
  have hff := zb (l := l) (by omega) (l.length + 1) 0 [] (0,[]) p (by omega) (by simp only [phi,List.map_nil,List.sum_nil,lnN]; omega) hf
  have ht : V 18 [.op [.os (5,0) (p.map eN),.os (1,2) [.os (1,0) []],.os (1,0) []],.str (mk l)] = xl (mk l) 0 (p.map eN) [.os (1,0) []] [] := by rw [AQ]
  have hs : IR l.length (yp l (l.length + 1) 0 [] (0,[]) p) (xl (mk l) 0 (p.map eN) [.os (1,0) []] []) := hs
  rw [<- ht] at hs
  rw [vi (decide_eq_false (by simp only [ni]; omega)),yZ hc,if_neg h4]
  cases hr : yp l (l.length + 1) 0 [] (0,[]) p with
  | err c a =>
   rw [hr] at hs
   obtain ⟨hne,A,B,C,hX⟩ := hs
   rw [Ac hX,vi (by simpa using hne),vX (by simpa using hne),yZ hc]; rfl
  | ok q row =>
   rw [hr] at hs
   have hX : V 18 [.op [.os (5,0) (p.map eN),.os (1,2) [.os (1,0) []],.os (1,0) []],.str (mk l)] = some (.tup [iN 0,iN (l.length : Int)],[rRd q [.os (1,0) (row.map eI)] []]) := hs
   obtain ⟨h1,h2,h3⟩ := hff q row hr
   have hok2 := xH h1 (by omega)
   rw [Ac hX,vX (by rfl),zA hok2]
   unfold Gl
   cases hq : xq q with
   | false => rw [Bool.not_false,wC,yZ hc]; simp only [hq]; rfl
   | true => rw [Bool.not_true,vW,vi (by rfl),wT (by rfl)]; simp only [hq]; rfl
theorem GN {p : List Nd} (hf : zd p) (l : List UInt8) : (xQ p l).1.length < 4000000000 /\ (xQ p l).2.1.length < 4000000000 := by
 unfold xQ
 cases h : xq p with
 | false => rw [if_pos rfl]; exact ⟨by simp,by simp⟩
 | true =>
  have hp := yl h
  rw [if_neg (by simp)]
  by_cases h4 : 400 < l.length
  ·rw [if_pos h4]; exact ⟨by show p.length < _; omega,by simp⟩
  rw [if_neg h4]
  have hff := zb (l := l) (by omega) (l.length + 1) 0 [] (0,[]) p (by omega) (by simp only [phi,List.map_nil,List.sum_nil,lnN]; omega) hf
  unfold Gl
  cases hr : yp l (l.length + 1) 0 [] (0,[]) p with
  | err c a => exact ⟨by show p.length < _; omega,by simp⟩
  | ok q row =>
   obtain ⟨h1,h2,h3⟩ := hff q row hr
   show (if xq q = true then (q,row,(0 : Int),(l.length : Int)) else (p,[],6,0)).1.length < _ /\ (if xq q = true then (q,row,(0 : Int),(l.length : Int)) else (p,[],6,0)).2.1.length < _
   by_cases hq : xq q = true
   ·rw [if_pos hq]; exact ⟨h2,h3⟩
   ·rw [if_neg hq]; exact ⟨by show p.length < _; omega,by simp⟩
end
end Go.Eng
/-! texts by their words: reading them,plain -/
namespace Go.Eng
noncomputable section

inductive Tk where
 | sp
 | op
 | cl
 | wd (w : List UInt8) (n : Nd)
def Tk.text : Tk -> List UInt8
 | .sp => [32]
 | .op => [40]
 | .cl => [41]
 | .wd w _ => w
def xJ : List Tk -> List UInt8
 | [] => []
 | t :: r => t.text ++ xJ r
def Ge : List Tk -> Bool
 | .wd _ _ :: _ => false
 | _ => true
def OkT : List Tk -> Prop
 | [] => True
 | .wd w n :: r => (w ≠ [] /\ w.all xN = true /\ xZ w = some n) /\ Ge r = true /\ OkT r
 | _ :: r => OkT r
def rdT : List Tk -> List (List Int) -> List Int -> List Nd -> Option (List Nd × List Int)
 | [],[],t,q => some (q,t)
 | [],_ :: _,_,_ => none
 | .sp :: r,o,t,q => rdT r o t q
 | .op :: r,o,t,q => rdT r (t :: o) [] q
 | .cl :: _,[],_,_ => none
 | .cl :: r,u :: o,t,q => rdT r o (u ++ [((xr q t).2 : Int)]) (xr q t).1
 | .wd _ n :: r,o,t,q => rdT r o (t ++ [(q.length : Int)]) (q ++ [n])
theorem DC (a b : List Tk) : xJ (a ++ b) = xJ a ++ xJ b := by
 induction a with
 | nil => rfl
 | cons x a ih => simp [xJ,ih]
theorem Jy {w s : List UInt8} (hw : w.all xN = true) (hs : ∀ x r,s = x :: r -> xN x = false) : (w ++ s).takeWhile xN = w := by
 induction w with
 | nil =>
  cases s with
  | nil => rfl
  | cons x r => simp [hs x r rfl]
 | cons a w ih =>
  simp only [List.all_cons,Bool.and_eq_true] at hw
  simp [hw.1,ih hw.2]
theorem Gb {r : List Tk} (h : Ge r = true) (x : UInt8) (s : List UInt8) (e : xJ r = x :: s) : xN x = false := by
 cases r with
 | nil => cases e
 | cons t r =>
  cases t with
  | sp => simp only [xJ,Tk.text,List.cons_append,List.nil_append] at e; cases e; decide
  | op => simp only [xJ,Tk.text,List.cons_append,List.nil_append] at e; cases e; decide
  | cl => simp only [xJ,Tk.text,List.cons_append,List.nil_append] at e; cases e; decide
  | wd w n => cases h
theorem Je {x : UInt8} (h : xN x = true) : x ≠ 32 /\ x ≠ 40 /\ x ≠ 41 := by
 refine ⟨?_,?_,?_⟩ <;> (rintro rfl; revert h; decide)
theorem Da {l : List UInt8} : ∀ (ts : List Tk) (k i : Nat) (O : List RwF) (T : RwF) (q q' : List Nd) (row : List Int),OkT ts -> l.drop i = xJ ts -> i <= l.length -> ts.length < k -> rdT ts (O.map Prod.snd) T.2 q = some (q',row) -> yp l k i O T q = .ok q' row
 | ts,0,i,O,T,q,q',row,_,_,_,hk,_ => by omega
 | [],k + 1,i,O,T,q,q',row,ho,hd,hi,hk,h => by
  have hx : l[i]? = none := by
   have : l.length <= i := by
    have := congrArg List.length hd
    rw [List.length_drop] at this
    simp only [xJ,lnN] at this
    omega
   exact List.getElem?_eq_none this
  rw [zl,hx,z7]
  cases O with
  | nil =>
   simp only [List.map_nil,rdT,Option.some.injEq,Prod.mk.injEq] at h
   rw [if_pos rfl,h.1,h.2]
  | cons u O => simp only [List.map_cons,rdT] at h; cases h
 | t :: r,k + 1,i,O,T,q,q',row,ho,hd,hi,hk,h => by
  have hit : ∀ x s,xJ (t :: r) = x :: s -> l[i]? = some x /\ i < l.length /\ l.drop (i + 1) = s := fun x s e => by
   have hd2 : l.drop i = x :: s := hd.trans e
   have hil : i < l.length := by
    have := congrArg List.length hd2
    rw [List.length_drop,lnC] at this
    omega
   refine ⟨?_,hil,?_⟩
   ·have := congrArg (fun z => z[0]?) hd2
    simp only [List.getElem?_drop,Nat.add_zero,List.getElem?_cons_zero] at this
    exact this
   ·rw [<- List.drop_drop,hd2]; rfl
  rw [zl]
  cases t with
  | sp =>
   obtain ⟨h1,h2,h3⟩ := hit 32 (xJ r) rfl
   rw [h1,za,if_pos rfl]
   exact Da r k (i + 1) O T q q' row ho h3 h2 (by simp only [lnC] at hk; omega) h
  | op =>
   obtain ⟨h1,h2,h3⟩ := hit 40 (xJ r) rfl
   rw [h1,za,if_neg (by decide),if_pos rfl]
   exact Da r k (i + 1) (T :: O) ((i : Int),[]) q q' row ho h3 h2 (by simp only [lnC] at hk; omega) h
  | cl =>
   obtain ⟨h1,h2,h3⟩ := hit 41 (xJ r) rfl
   rw [h1,za,if_neg (by decide),if_neg (by decide),if_pos rfl]
   cases O with
   | nil => simp only [List.map_nil,rdT] at h; cases h
   | cons u O => exact Da r k (i + 1) O (u.1,u.2 ++ [((xr q T.2).2 : Int)]) (xr q T.2).1 q' row ho h3 h2 (by simp only [lnC] at hk; omega) h
  | wd w n =>
   obtain ⟨⟨w1,w2,w3⟩,w4,w5⟩ := ho
   obtain ⟨x,w',rfl⟩ : ∃ x w',w = x :: w' := by
    cases w with
    | nil => exact absurd rfl w1
    | cons x w' => exact ⟨x,w',rfl⟩
   obtain ⟨h1,h2,h3⟩ := hit x (w' ++ xJ r) rfl
   have hx : xN x = true := by simp only [List.all_cons,Bool.and_eq_true] at w2; exact w2.1
   obtain ⟨n1,n2,n3⟩ := Je hx
   have htk : (l.drop i).takeWhile xN = x :: w' := by
    rw [hd]
    exact Jy w2 (fun y s e => Gb w4 y s e)
   have hwe : yj l i = i + (x :: w').length := by unfold yj; rw [htk]
   have htx : (l.drop i).take (yj l i - i) = x :: w' := by
    rw [hwe,Nat.add_sub_cancel_left,hd]
    show ((x :: w') ++ xJ r).take (x :: w').length = x :: w'
    rw [List.take_left]
   have hdr : l.drop (yj l i) = xJ r := by
    rw [hwe,<- List.drop_drop,hd]
    show ((x :: w') ++ xJ r).drop (x :: w').length = xJ r
    rw [List.drop_left]
   have hle : yj l i <= l.length := (Bz hi).2
   rw [h1,za,if_neg n1,if_neg n2,if_neg n3,if_pos hx,htx,w3]
   exact Da r k (yj l i) O (T.1,T.2 ++ [(q.length : Int)]) (q ++ [n]) q' row w5 hdr hle (by simp only [lnC] at hk; omega) h
theorem GH {ts : List Tk} (h : OkT ts) : ts.length <= (xJ ts).length := by
 induction ts with
 | nil => exact Nat.le_refl _
 | cons t r ih =>
  cases t with
  | sp => have := ih h; simp only [xJ,Tk.text,lnA,lnC,lnN]; omega
  | op => have := ih h; simp only [xJ,Tk.text,lnA,lnC,lnN]; omega
  | cl => have := ih h; simp only [xJ,Tk.text,lnA,lnC,lnN]; omega
  | wd w n =>
   have := ih h.2.2
   have h1 : 0 < w.length := List.length_pos_iff.2 h.1.1
   simp only [xJ,Tk.text,lnA,lnC]; omega
theorem GP {p q' : List Nd} {ts : List Tk} {row : List Int} (ho : OkT ts) (hp : xq p = true) (hl : (xJ ts).length <= 400) (h : rdT ts [] [] p = some (q',row)) : xQ p (xJ ts) = if xq q' = true then (q',row,0,((xJ ts).length : Int)) else (p,[],6,0) := by
 have hg := Da (l := xJ ts) ts ((xJ ts).length + 1) 0 [] (0,[]) p q' row ho rfl (Nat.zero_le _) (by have := GH ho; omega) h
 unfold xQ
 rw [if_neg (by simp [hp]),if_neg (by omega),hg]
 rfl
end
end Go.Eng
/-! digits are a number's word,plain -/
namespace Go.Eng

theorem Ar {n : Nat} (h : n < 256) : (UInt8.ofNat n).toNat = n := by simp [UInt8.toNat_ofNat']; omega
theorem G5 {d : Nat} (h : d < 10) : dU (UInt8.ofNat (48 + d)) = true := by
 unfold dU
 rw [Ar (by omega)]
 simp only [Bool.and_eq_true,decide_eq_true_eq]
 omega
theorem DU : ∀ n : Nat,(yN n).all dU = true := by
 intro n
 induction n using Nat.strongRecOn with
 | _ n ih =>
  by_cases h : n < 10
  ·rw [xC h,List.all_cons,G5 h]; rfl
  ·rw [yO h,List.all_append,ih (n / 10) (by omega),List.all_cons,G5 (by omega)]; rfl
theorem IC (a b : List UInt8) (x : Nat) : xM x (a ++ b) = xM (xM x a) b := by
 unfold xM; rw [List.foldl_append]
theorem IE : ∀ n : Nat,xM 0 (yN n) = n := by
 intro n
 induction n using Nat.strongRecOn with
 | _ n ih =>
  by_cases h : n < 10
  ·rw [xC h]
   show 10 * 0 + ((UInt8.ofNat (48 + n)).toNat - 48) = n
   rw [Ar (by omega)]; omega
  ·rw [yO h,IC,ih (n / 10) (by omega)]
   show 10 * (n / 10) + ((UInt8.ofNat (48 + n % 10)).toNat - 48) = n
   rw [Ar (by omega)]; omega
theorem Ie {n : Nat} (h : n < 10000000000) : xX (yN n) = some n := by
 have h1 := Bf 9 n (by omega)
 have h2 := CK n
 unfold xX
 rw [if_neg,IE]
 rintro (e | e | e | e)
 ·omega
 ·omega
 ·rcases Dw n with q | q
  ·exact q e.1
  ·subst q
   rw [xC (by omega)] at e
   simp at e
 ·rw [DU] at e; cases e
theorem CM (n : Nat) : ∃ d r,yN n = d :: r /\ dU d = true := by
 have h := CK n
 have ha := DU n
 generalize yN n = l at h ha
 cases l with
 | nil => simp at h
 | cons d r => rw [List.all_cons,Bool.and_eq_true] at ha; exact ⟨d,r,rfl,ha.1⟩
theorem IQ {x : UInt8} (h : dU x = true) : xN x = true := by unfold xN; rw [h]; simp
theorem Jf {x : UInt8} (h : dU x = true) : x ≠ 45 /\ x ≠ 35 := by
 constructor <;> (rintro rfl; revert h; decide)
theorem Ii {n : Int} (h : n.natAbs <= 1000000000) : Dq (yr n) = some n := by
 have hn := Ie (n := n.natAbs) (by omega)
 unfold yr
 by_cases h0 : n < 0
 ·rw [if_pos h0]
  obtain ⟨d,r,hd,hdd⟩ := CM n.natAbs
  rw [hd] at hn ⊢
  unfold Dq
  simp only
  rw [if_pos ⟨trivial,hdd⟩,hn]
  unfold Cx
  simp only
  rw [if_pos ⟨by omega,h⟩,show -(n.natAbs : Int) = n by omega]
 ·rw [if_neg h0]
  obtain ⟨d,r,hd,hdd⟩ := CM n.natAbs
  have hp : Au (xX (yN n.natAbs)) = some n := by
   rw [hn]; unfold Au; simp only; rw [if_pos h,show (n.natAbs : Int) = n by omega]
  rw [hd] at hp ⊢
  cases r with
  | nil => exact hp
  | cons e r =>
   show (if d = 45 /\ dU e = true then Cx (xX (e :: r)) else Au (xX (d :: e :: r))) = some n
   rw [if_neg (fun q => (Jf hdd).1 q.1)]
   exact hp
theorem Dv {n : Int} : ∃ d r,yr n = d :: r /\ d ≠ 35 /\ (yr n).all xN = true := by
 obtain ⟨d,r,hd,hdd⟩ := CM n.natAbs
 have ha : (yN n.natAbs).all xN = true := List.all_eq_true.2 fun x hx => IQ (List.all_eq_true.1 (DU _) x hx)
 unfold yr
 by_cases h0 : n < 0
 ·rw [if_pos h0]
  exact ⟨45,_,rfl,by decide,by rw [List.all_cons,ha]; decide⟩
 ·rw [if_neg h0]
  exact ⟨d,r,hd,(Jf hdd).2,ha⟩
theorem II {n : Int} (h : n.natAbs <= 1000000000) : xZ (yr n) = some ⟨3,n,⟨#[]⟩,0,0⟩ := by
 obtain ⟨d,r,hd,hne,_⟩ := Dv (n := n)
 have hk := Ii h
 unfold xZ
 rw [if_neg (by rw [hd]; intro e; injection e with e1 e2; exact hne e1),if_neg (by rw [hd]; intro e; injection e with e1 e2; exact hne e1),hk]
 rfl
end Go.Eng
/-! where a reading failed -/
namespace Go.Eng
open Go.Proofs Go.Proofs.Try
set_option maxHeartbeats 4000000

theorem zX {l : List UInt8} : ∀ (k i : Nat) (o : List RwF) (t : RwF) (q : List Nd),l.length < i + k -> i <= l.length -> (∀ x ∈ t :: o,0 <= x.1 /\ x.1 <= (i : Int)) -> ∀ c a,yp l k i o t q = .err c a -> c ≠ 0 /\ 0 <= a /\ a <= (l.length : Int)
 | 0,i,o,t,q,h1,h2,_,c,a,_ => by omega
 | k + 1,i,o,t,q,h1,h2,h3,c,a,h => by
  have ht := h3 t (by simp)
  have up : ∀ (j : Nat),i <= j -> ∀ (t' : RwF) (o' : List RwF),(∀ x ∈ t' :: o',0 <= x.1 /\ x.1 <= (i : Int)) -> ∀ x ∈ t' :: o',0 <= x.1 /\ x.1 <= (j : Int) := fun j hj t' o' hx x hm => by have := hx x hm; omega
  rw [zl] at h
  by_cases hi : i = l.length
  ·have hx : l[i]? = none := List.getElem?_eq_none (by omega)
   rw [hx,z7] at h
   by_cases ho : o = []
   ·rw [if_pos ho] at h; cases h
   ·rw [if_neg ho] at h; cases h; exact ⟨by decide,by omega,by omega⟩
  obtain ⟨x,hx⟩ := vI (l := l) (i := i) (by omega)
  rw [hx,za] at h
  by_cases h32 : x = 32
  ·rw [if_pos h32] at h
   exact zX k (i + 1) o t q (by omega) (by omega) (up _ (by omega) _ _ h3) c a h
  rw [if_neg h32] at h
  by_cases h40 : x = 40
  ·rw [if_pos h40] at h
   refine zX k (i + 1) (t :: o) ((i : Int),[]) q (by omega) (by omega) (up _ (by omega) _ _ ?_) c a h
   intro y hy
   rcases List.mem_cons.1 hy with rfl | hy
   ·exact ⟨by simp,by simp⟩
   ·exact h3 y hy
  rw [if_neg h40] at h
  by_cases h41 : x = 41
  ·rw [if_pos h41] at h
   cases o with
   | nil => cases h; exact ⟨by decide,by omega,by omega⟩
   | cons u o =>
    refine zX k (i + 1) o (u.1,u.2 ++ [((xr q t.2).2 : Int)]) (xr q t.2).1 (by omega) (by omega) (up _ (by omega) _ _ ?_) c a h
    intro y hy
    rcases List.mem_cons.1 hy with rfl | hy
    ·exact h3 u (by simp)
    ·exact h3 y (by simp [hy])
  rw [if_neg h41] at h
  by_cases hw : xN x = true
  ·rw [if_pos hw] at h
   have hwe := zn hx hw
   have hwl := Bz (l := l) (j := i + 1) (by omega)
   cases hwd : xZ ((l.drop i).take (yj l i - i)) with
   | none => rw [hwd] at h; cases h; exact ⟨by decide,by omega,by omega⟩
   | some nd =>
    rw [hwd] at h
    refine zX k (yj l i) o (t.1,t.2 ++ [(q.length : Int)]) (q ++ [nd]) (by omega) (by omega) (up _ (by omega) _ _ ?_) c a h
    intro y hy
    rcases List.mem_cons.1 hy with rfl | hy
    ·exact ht
    ·exact h3 y (by simp [hy])
  ·rw [if_neg hw] at h; cases h; exact ⟨by decide,by omega,by omega⟩
theorem GM {p : List Nd} (l : List UInt8) (h : (xQ p l).2.2.1 ≠ 0) : (xQ p l).2.1 = [] /\ 0 <= (xQ p l).2.2.2 /\ (xQ p l).2.2.2 <= (l.length : Int) /\ ((xQ p l).1 = p \/ (xQ p l).1 = []) := by
 revert h
 unfold xQ
 cases hp : xq p with
 | false => intro _; rw [if_pos rfl]; exact ⟨rfl,by simp,by simp,.inr rfl⟩
 | true =>
  rw [if_neg (by simp)]
  by_cases h4 : 400 < l.length
  ·intro _; rw [if_pos h4]; exact ⟨rfl,by simp,by simp,.inl rfl⟩
  rw [if_neg h4]
  cases hr : yp l (l.length + 1) 0 [] (0,[]) p with
  | err c a =>
   intro _
   have := zX (l := l) (l.length + 1) 0 [] (0,[]) p (by omega) (by omega) (by intro x hx; simp at hx; subst hx; simp) c a hr
   exact ⟨rfl,this.2.1,this.2.2,.inl rfl⟩
  | ok q row =>
   unfold Gl
   by_cases hq : xq q = true
   ·simp [hq]
   ·intro _; simp only [if_neg hq]; exact ⟨trivial,by simp,by simp,.inl trivial⟩
end Go.Eng
