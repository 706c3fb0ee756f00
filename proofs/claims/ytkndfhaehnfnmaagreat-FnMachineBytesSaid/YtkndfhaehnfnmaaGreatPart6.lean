/- the program and the reference on plain data, part 6 -/
import Derived.Test.YtkndfhaehnfnmaaGreatPart5
import Derived.Test.YtkndfhaehnfnmaaGreatPart3
/-! a value read of bytes: both sides come to the same -/
namespace Go.Eng
open Go.Proofs Go.Proofs.Tryz
set_option maxHeartbeats 4000000

theorem IE (b : List UInt8) (a : Nat) : y4 b (a,true) = zb b (a,true) := by
 unfold y4 zb
 split <;> rfl
theorem ML {b : List UInt8} {s : RS} (h : s.2 = false) : (y4 b s).2.2 = false := by
 unfold y4
 split
 ·exact h
 ·rfl
theorem MO {b : List UInt8} {s : RS} (h : s.2 = false) : (zb b s).2.2 = false := by
 unfold zb
 split
 ·rw [h]
 ·rfl
theorem aaU {b : List UInt8} {s : RS} (h : s.2 = false) : (AY b s).2.2 = false := by
 unfold AY
 split
 ·exact h
 ·rfl
theorem aaX {b : List UInt8} {s : RS} (h : s.2 = false) : (Ew b s).2.2 = false := by
 unfold Ew
 split
 ·exact h
 ·rfl
noncomputable def Sy {α : Type} (r r' : α × RS) : Prop := r.2.2 = r'.2.2 /\ (r.2.2 = true -> r = r')
theorem aaY (b : List UInt8) (a : Nat) : Sy (AY b (a,true)) (Ew b (a,true)) := by
 unfold Sy AY Ew
 cases KN b a with
 | none => exact ⟨rfl,fun h => by cases h⟩
 | some p => exact ⟨rfl,fun _ => rfl⟩
theorem Si {num : RS -> Nat × RS} {txt : RS -> List UInt8 × RS} (hn : ∀ s : RS,s.2 = false -> (num s).2.2 = false) (ht : ∀ s : RS,s.2 = false -> (txt s).2.2 = false) {s : RS} (h : (num s).2.2 = false) : (zm num txt s).2.2 = false := by
 unfold zm
 repeat' split
 all_goals (first | exact hn _ (hn _ h) | exact hn _ h | exact ht _ h | exact h)
theorem ZB (b : List UInt8) (a : Nat) : Sy (zm (y4 b) (AY b) (a,true)) (zm (zb b) (Ew b) (a,true)) := by
 have e := IE b a
 cases hk : (y4 b (a,true)).2.2 with
 | false =>
  have h1 := Si (num := y4 b) (txt := AY b) (s := (a,true)) (fun s h => ML h) (fun s h => aaU h) hk
  have h2 := Si (num := zb b) (txt := Ew b) (s := (a,true)) (fun s h => MO h) (fun s h => aaX h) (by rw [<- e]; exact hk)
  exact ⟨by rw [h1,h2],fun h => by rw [h1] at h; cases h⟩
 | true =>
  unfold zm
  rw [<- e]
  obtain ⟨a1,ha1⟩ : ∃ a1,(y4 b (a,true)).2 = (a1,true) := ⟨_,Prod.ext rfl hk⟩
  rw [ha1]
  have e1 := IE b a1
  have et := aaY b a1
  have e2 : Sy (y4 b (y4 b (a1,true)).2) (zb b (zb b (a1,true)).2) /\ (y4 b (a1,true)).1 = (zb b (a1,true)).1 := by
   rw [<- e1]
   refine ⟨?_,rfl⟩
   cases h1 : (y4 b (a1,true)).2.2 with
   | false =>
    have q1 := ML (b := b) h1
    have q2 := MO (b := b) h1
    exact ⟨by rw [q1,q2],fun h => by rw [q1] at h; cases h⟩
   | true =>
    obtain ⟨a2,ha2⟩ : ∃ a2,(y4 b (a1,true)).2 = (a2,true) := ⟨_,Prod.ext rfl h1⟩
    rw [ha2,IE]
    exact ⟨rfl,fun _ => rfl⟩
  repeat' split
  ·rw [e1]; exact ⟨rfl,fun _ => rfl⟩
  ·rw [e1]; exact ⟨rfl,fun _ => rfl⟩
  ·exact ⟨et.1,fun h => by rw [et.2 h]⟩
  ·exact ⟨e2.1.1,fun h => by rw [e2.1.2 h,e2.2]⟩
  ·exact ⟨e2.1.1,fun h => by rw [e2.1.2 h,e2.2]⟩
  ·rw [e1]; exact ⟨rfl,fun _ => rfl⟩
  ·exact ⟨rfl,fun _ => rfl⟩
theorem Uw {b : List UInt8} {cnt k i a : Nat} {p : List Nd} : goI b cnt k i (a,false) p = (p,(a,false)) := by
 cases k <;> simp [goI]
theorem Ux {b : List UInt8} {cnt k i a : Nat} {p : List Nd} : goS b cnt k i (a,false) p = (p,(a,false)) := by
 cases k <;> simp [goS]
theorem Uy {b : List UInt8} {cnt : Nat} (hc : cnt <= 3000) : ∀ (k i a : Nat) (p : List Nd),i + k = 3001 -> Sy (goI b cnt (k + 1) i (a,true) p) (goS b cnt k i (a,true) p)
 | 0,i,a,p,hi => by
  have h1 : ¬ i < cnt := by omega
  simp only [goI,goS,h1,false_and,if_false]
  exact ⟨rfl,fun _ => rfl⟩
 | k + 1,i,a,p,hi => by
  rw [goI,goS]
  by_cases h1 : i < cnt
  ·rw [if_pos ⟨h1,rfl,by omega⟩,if_pos ⟨h1,rfl⟩]
   have hs := ZB b a
   cases hk : (zm (y4 b) (AY b) (a,true)).2.2 with
   | false =>
    obtain ⟨a1,ha1⟩ : ∃ a1,(zm (y4 b) (AY b) (a,true)).2 = (a1,false) := ⟨_,Prod.ext rfl hk⟩
    obtain ⟨a2,ha2⟩ : ∃ a2,(zm (zb b) (Ew b) (a,true)).2 = (a2,false) := ⟨_,Prod.ext rfl (by rw [<- hs.1]; exact hk)⟩
    rw [ha1,ha2,Uw,Ux]
    exact ⟨rfl,fun h => by cases h⟩
   | true =>
    obtain ⟨a1,ha1⟩ : ∃ a1,(zm (y4 b) (AY b) (a,true)).2 = (a1,true) := ⟨_,Prod.ext rfl hk⟩
    have e := hs.2 hk
    rw [<- e,ha1]
    exact Uy hc k (i + 1) a1 _ (by omega)
  ·rw [if_neg (fun h => h1 h.1),if_neg (fun h => h1 h.1)]
   exact ⟨rfl,fun _ => rfl⟩
theorem VY {b : List UInt8} {cnt : Nat} (hc : 3000 < cnt) : ∀ (k i : Nat) (s : RS) (p : List Nd),i + k = 3002 -> i <= 3001 -> p.length = i -> (goI b cnt k i s p).2.2 = true -> (goI b cnt k i s p).1.length = 3001
 | 0,i,s,p,hi,hi2,hp,h => by omega
 | k + 1,i,s,p,hi,hi2,hp,h => by
  rw [goI] at h ⊢
  by_cases h1 : i < cnt /\ s.2 = true /\ i <= 3000
  ·rw [if_pos h1] at h ⊢
   exact VY hc k (i + 1) _ _ (by omega) (by omega) (by simp; omega) h
  ·rw [if_neg h1] at h ⊢
   by_cases h2 : i <= 3000
   ·exact absurd ⟨by omega,h,h2⟩ h1
   ·simp only; omega

theorem Qe : ∀ (f n : Nat) (rest : List UInt8),n < 128 ^ (f + 1) -> (n = 0 -> 8 <= f) -> GR (f + 1) (zj n ++ rest) = some (n,(zj n).length)
 | f,n,rest,hn,h0 => by
  by_cases h : n <= 127
  ·rw [DN h]
   have e : (UInt8.ofNat n).toNat = n := by simp; omega
   simp only [List.cons_append,List.nil_append,GR,e]
   rw [if_pos (by omega),if_neg (by omega)]; rfl
  ·rw [JX h]
   have e : (UInt8.ofNat (n % 128 + 128)).toNat = n % 128 + 128 := by simp; omega
   cases f with
   | zero => simp at hn; omega
   | succ f =>
   have ih := Qe f (n / 128) rest (by rw [Nat.pow_succ] at hn; omega) (fun h => by omega)
   simp only [List.cons_append,GR,e]
   rw [if_neg (by omega)]
   rw [show GR (f + 1) (zj (n / 128) ++ rest) = some (n / 128,(zj (n / 128)).length) from ih]
   have e1 : (n % 128 + 128) % 128 + 128 * (n / 128) = n := by omega
   simp only [e1,lnC]
theorem DI {b l rest : List UInt8} {i : Nat} (h : b.drop i = l ++ rest) : b.drop (i + l.length) = rest := by
 rw [<- List.drop_drop,h,List.drop_left]
theorem Bu {b : List UInt8} {s : RS} {n : Nat} {rest : List UInt8} (hn : n < 9223372036854775808) (h : b.drop s.1 = zj n ++ rest) : y4 b s = (n,(s.1 + (zj n).length,s.2)) := by
 have e : (128 : Nat) ^ (8 + 1) = 9223372036854775808 := rfl
 have := Qe 8 n rest (by omega) (fun _ => Nat.le_refl _)
 unfold y4
 rw [h,this]
theorem aav {b : List UInt8} {i : Nat} {t rest : List UInt8} (hn : t.length < 4611686018427387904) (h : b.drop i = M9 t ++ rest) : KN b i = some (t,i + (M9 t).length) := by
 have e : (128 : Nat) ^ (8 + 1) = 9223372036854775808 := rfl
 rw [M9,List.append_assoc] at h
 have h1 := Qe 8 t.length (t ++ rest) (by omega) (fun _ => Nat.le_refl _)
 have h2 := DI h
 have hl : (b.drop i).length = (zj t.length).length + (t.length + rest.length) := by rw [h]; simp
 rw [List.length_drop] at hl
 have hp := y9 hn
 have hi : (zj t.length).length >= 1 := by
  by_cases c : t.length <= 127
  ·rw [DN c]; simp
  ·rw [JX c]; simp
 unfold KN
 rw [h,h1]
 simp only
 rw [if_pos (by omega),h2,List.take_left]
 simp only [M9,lnA,Nat.add_assoc]
theorem aaW {b : List UInt8} {s : RS} {t rest : List UInt8} (hn : t.length < 4611686018427387904) (h : b.drop s.1 = M9 t ++ rest) : AY b s = (t,(s.1 + (M9 t).length,s.2)) := by
 unfold AY
 rw [aav hn h]
theorem JS {s : ByteArray} (h : s.size = 0) : s = nilS := by
 apply ByteArray.ext
 have : s.data.size = 0 := h
 exact Array.eq_empty_of_size_eq_zero this
theorem ZA {b : List UInt8} {s : RS} {x : Nd} {i : Nat} (hi : i <= 3000) (ho : okN x i = true) {rest : List UInt8} (h : b.drop s.1 = zU x ++ rest) : zm (y4 b) (AY b) s = (x,(s.1 + (zU x).length,s.2)) := by
 obtain ⟨k1,k9,n3,n9,n0,a0,a1,b0,b1,s4⟩ := Kx ho
 obtain ⟨kd,n,sx,a,c⟩ := x
 simp only at k1 k9 n3 n9 n0 a0 a1 b0 b1 s4
 obtain ⟨k,rfl⟩ := Int.eq_ofNat_of_zero_le (show 0 <= kd by omega)
 obtain ⟨a,rfl⟩ := Int.eq_ofNat_of_zero_le a0
 obtain ⟨c,rfl⟩ := Int.eq_ofNat_of_zero_le b0
 have hk : k = 1 \/ k = 2 \/ k = 3 \/ k = 4 \/ k = 5 \/ k = 6 \/ k = 7 \/ k = 8 \/ k = 9 := by omega
 have hd : ∃ r2,b.drop s.1 = zj k ++ r2 := by
  rw [h]; unfold zU; exact ⟨_,by rw [List.append_assoc]; rfl⟩
 obtain ⟨r2,hr2⟩ := hd
 have hn1 := Bu (by omega) hr2
 have hr := DI hr2
 have er : zU ⟨(k : Int),n,sx,(a : Int),(c : Int)⟩ ++ rest = zj k ++ r2 := by rw [<- h,hr2]
 unfold zm
 rw [hn1]
 simp only
 rcases hk with e | e | e | e | e | e | e | e | e <;> subst e
 ·
  have hs := JS (Jh ho (by simp))
  simp [okN,wi] at ho
  rw [UG rfl] at er ⊢
  simp
  refine ⟨by omega,hs.symm,by omega,by omega⟩
 ·have hs := JS (Jh ho (by simp))
  simp [okN,wi] at ho
  obtain ⟨m,rfl⟩ := Int.eq_ofNat_of_zero_le (show 0 <= n by omega)
  rw [CQ (.inl rfl),List.append_assoc] at er
  have er2 := List.append_cancel_left er
  have h2 := Bu (b := b) (s := (s.1 + (zj 2).length,s.2)) (n := m) (rest := rest) (by omega) (by rw [hr,<- er2]; rfl)
  rw [h2,CQ (.inl rfl)]
  simp
  refine ⟨⟨hs.symm,by omega,by omega⟩,by omega⟩
 ·have hs := JS (Jh ho (by simp))
  simp [okN,wi] at ho
  obtain ⟨m,hm⟩ := Int.eq_ofNat_of_zero_le (show 0 <= n + 1000000000 by omega)
  rw [Pn rfl,List.append_assoc] at er
  have er2 := List.append_cancel_left er
  have h2 := Bu (b := b) (s := (s.1 + (zj 3).length,s.2)) (n := m) (rest := rest) (by omega) (by rw [hr,<- er2,hm]; rfl)
  rw [h2,Pn rfl]
  simp
  refine ⟨⟨by omega,hs.symm,by omega,by omega⟩,by rw [hm]; simp; omega⟩
 ·have hz : sx.data.toList.length = sx.size := Nu sx
  simp [okN,wi] at ho
  rw [Po rfl,List.append_assoc] at er
  have er2 := List.append_cancel_left er
  have h2 := aaW (b := b) (s := (s.1 + (zj 4).length,s.2)) (t := sx.data.toList) (rest := rest) (by omega) (by rw [hr,<- er2])
  rw [h2,Po rfl]
  simp [Ql]
  refine ⟨⟨by omega,by omega,by omega⟩,by omega⟩
 ·have hs := JS (Jh ho (by simp))
  simp [okN,wi] at ho
  rw [Pp rfl,List.append_assoc,List.append_assoc] at er
  have er2 := List.append_cancel_left er
  have h2 := Bu (b := b) (s := (s.1 + (zj 5).length,s.2)) (n := a) (rest := zj c ++ rest) (by omega) (by rw [hr,<- er2]; rfl)
  have hr3 := DI (b := b) (i := s.1 + (zj 5).length) (l := zj a) (rest := zj c ++ rest) (by rw [hr,<- er2]; rfl)
  have h3 := Bu (b := b) (s := (s.1 + (zj 5).length + (zj a).length,s.2)) (n := c) (rest := rest) (by omega) hr3
  rw [h2]
  simp only
  rw [h3,Pp rfl]
  simp
  refine ⟨⟨by omega,hs.symm⟩,by omega⟩
 ·have hs := JS (Jh ho (by simp))
  simp [okN,wi] at ho
  obtain ⟨m,rfl⟩ := Int.eq_ofNat_of_zero_le (show 0 <= n by omega)
  rw [Pq rfl,List.append_assoc,List.append_assoc] at er
  have er2 := List.append_cancel_left er
  have h2 := Bu (b := b) (s := (s.1 + (zj 6).length,s.2)) (n := m) (rest := zj a ++ rest) (by omega) (by rw [hr,<- er2]; rfl)
  have hr3 := DI (b := b) (i := s.1 + (zj 6).length) (l := zj m) (rest := zj a ++ rest) (by rw [hr,<- er2]; rfl)
  have h3 := Bu (b := b) (s := (s.1 + (zj 6).length + (zj m).length,s.2)) (n := a) (rest := rest) (by omega) hr3
  rw [h2]
  simp only
  rw [h3,Pq rfl]
  simp
  refine ⟨⟨hs.symm,by omega⟩,by omega⟩
 ·have hs := JS (Jh ho (by simp))
  simp [okN,wi] at ho
  rw [Pt rfl,List.append_assoc] at er
  have er2 := List.append_cancel_left er
  have h2 := Bu (b := b) (s := (s.1 + (zj 7).length,s.2)) (n := a) (rest := rest) (by omega) (by rw [hr,<- er2]; rfl)
  rw [h2,Pt rfl]
  simp
  refine ⟨⟨by omega,hs.symm,by omega⟩,by omega⟩
 ·have hs := JS (Jh ho (by simp))
  simp [okN,wi] at ho
  obtain ⟨m,rfl⟩ := Int.eq_ofNat_of_zero_le (show 0 <= n by omega)
  rw [CQ (.inr (.inl rfl)),List.append_assoc] at er
  have er2 := List.append_cancel_left er
  have h2 := Bu (b := b) (s := (s.1 + (zj 8).length,s.2)) (n := m) (rest := rest) (by omega) (by rw [hr,<- er2]; rfl)
  rw [h2,CQ (.inr (.inl rfl))]
  simp
  refine ⟨⟨hs.symm,by omega,by omega⟩,by omega⟩
 ·have hs := JS (Jh ho (by simp))
  simp [okN,wi] at ho
  obtain ⟨m,rfl⟩ := Int.eq_ofNat_of_zero_le (show 0 <= n by omega)
  rw [CQ (.inr (.inr rfl)),List.append_assoc] at er
  have er2 := List.append_cancel_left er
  have h2 := Bu (b := b) (s := (s.1 + (zj 9).length,s.2)) (n := m) (rest := rest) (by omega) (by rw [hr,<- er2]; rfl)
  rw [h2,CQ (.inr (.inr rfl))]
  simp
  refine ⟨⟨hs.symm,by omega,by omega⟩,by omega⟩
end Go.Eng
/-! a value read of bytes: both sides come to the same -/
namespace Go.Eng
open Go.Proofs Go.Proofs.Tryz
set_option maxHeartbeats 4000000

theorem YH {b : List UInt8} {p : List Nd} (hp : yV p = true) {rest : List UInt8} {o : Bool} (ho : o = true) : ∀ (k i a : Nat),i + k = 3002 -> i <= p.length -> b.drop a = (p.drop i).flatMap zU ++ rest -> goI b p.length k i (a,o) (p.take i) = (p,(a + ((p.drop i).flatMap zU).length,o))
 | 0,i,a,hi,hl,h => by have := y0 hp; omega
 | k + 1,i,a,hi,hl,h => by
  have hlen := y0 hp
  rw [goI]
  by_cases h1 : i < p.length
  ·obtain ⟨x,hx⟩ := xx h1
   rw [if_pos ⟨h1,ho,by omega⟩]
   rw [tU hx,List.flatMap_cons,List.append_assoc] at h
   have hn := ZA (b := b) (s := (a,o)) (i := i) (by omega) (Ak hp hx) h
   have h2 := DI h
   rw [hn]
   simp only
   rw [<- yn hx,YH hp ho k (i + 1) (a + (zU x).length) (by omega) (by omega) h2,tU hx,List.flatMap_cons,lnA,Nat.add_assoc]
  ·rw [if_neg (fun h => h1 h.1)]
   have : i = p.length := by omega
   subst this
   rw [List.take_length,List.drop_length]; rfl
theorem XP {b rest : List UInt8} {a : Nat} {p : List Nd} (hp : yV p = true) (h : b.drop a = DA p ++ rest) : zt b (a,true) = (p,(a + (DA p).length,true)) := by
 have hlen := y0 hp
 rw [DA,List.append_assoc] at h
 have h1 := Bu (b := b) (s := (a,true)) (n := p.length) (by omega) h
 have h2 := DI h
 unfold zt
 rw [h1]
 have := YH (b := b) hp (rest := rest) (o := true) rfl 3002 0 (a + (zj p.length).length) (by omega) (Nat.zero_le _) h2
 rw [List.take_zero,List.drop_zero] at this
 simp only
 rw [this,DA,lnA,Nat.add_assoc]
theorem aax {b : List UInt8} {cnt : Nat} : ∀ (k i : Nat) (s : RS) (p : List Nd),(∀ x ∈ p,x.s.size <= b.length) -> ∀ x ∈ (goI b cnt k i s p).1,x.s.size <= b.length
 | 0,i,s,p,h => h
 | k + 1,i,s,p,h => by
  rw [goI]
  split
  ·apply aax k
   intro x hx
   rcases List.mem_append.1 hx with hx | hx
   ·exact h x hx
   ·simp at hx; subst hx; exact MJ (fun s => aaV s) _
  ·exact h
theorem YG {b : List UInt8} {cnt : Nat} : ∀ (k i : Nat) (s : RS) (p : List Nd),(goI b cnt k i s p).1.length <= p.length + k
 | 0,i,s,p => Nat.le_refl _
 | k + 1,i,s,p => by
  rw [goI]
  split
  ·have := YG (b := b) (cnt := cnt) k (i + 1) (zm (y4 b) (AY b) s).2 (p ++ [(zm (y4 b) (AY b) s).1])
   simp at this; omega
  ·simp
theorem XO (b : List UInt8) (s : RS) : (zt b s).1.length <= 3002 := by
 have := YG (b := b) (cnt := (y4 b s).1) 3002 0 (y4 b s).2 []
 simpa [zt] using this
theorem Wo {b : List UInt8} (hb : b.length < 4611686018427387904) (s : RS) : zZ (zt b s).1 :=
 Uq hb (aax 3002 0 (y4 b s).2 [] (fun x h => by simp at h))
theorem aay {b : List UInt8} {cnt : Nat} : ∀ (k i : Nat) (s : RS) (p : List Nd),(∀ x ∈ p,x.s.size <= b.length) -> ∀ x ∈ (goS b cnt k i s p).1,x.s.size <= b.length
 | 0,i,s,p,h => h
 | k + 1,i,s,p,h => by
  rw [goS]
  split
  ·apply aay k
   intro x hx
   rcases List.mem_append.1 hx with hx | hx
   ·exact h x hx
   ·simp at hx; subst hx; exact MJ (fun s => QM s) _
  ·exact h
theorem YI {b : List UInt8} {cnt : Nat} : ∀ (k i : Nat) (s : RS) (p : List Nd),(goS b cnt k i s p).1.length <= p.length + k
 | 0,i,s,p => Nat.le_refl _
 | k + 1,i,s,p => by
  rw [goS]
  split
  ·have := YI (b := b) (cnt := cnt) k (i + 1) (zm (zb b) (Ew b) s).2 (p ++ [(zm (zb b) (Ew b) s).1])
   simp at this; omega
  ·simp
theorem Ou {b : List UInt8} (hb : b.length < 4611686018427387904) (s : RS) : zZ (zN b s).1 /\ (zN b s).1.length <= 3001 := by
 unfold zN
 split
 ·exact ⟨fun x h => by simp [B9] at h,by simp [B9]⟩
 ·refine ⟨Uq hb (aay 3001 0 (zb b s).2 [] (fun x h => by simp at h)),?_⟩
  have := YI (b := b) (cnt := (zb b s).1) 3001 0 (zb b s).2 []
  simpa [B9] using this
end Go.Eng
/-! processes: when they are right,on both sides -/
namespace Go.Eng
open Go.Proofs Go.Proofs.Tryz
set_option maxHeartbeats 4000000

structure Pr where
 pid : Int
 m : Mc
 box : List ByteArray
 out : List ByteArray
structure FitsR (p : Pr) : Prop where
 pool : zZ p.m.pool
 plen : p.m.pool.length <= 4294967296
 box : ∀ x ∈ p.box,x.size < 4294967296
 blen : p.box.length < 4294967296
 out : ∀ x ∈ p.out,x.size < 4294967296
 olen : p.out.length < 4294967296
end Go.Eng
/-! new machines and processes,on both sides -/
namespace Go.Eng
noncomputable section
open Go.Proofs Go.Proofs.Tryz
set_option maxHeartbeats 4000000

theorem Yc {α : Type} (p : α -> Bool) (l : List α) : -1 <= ya p l /\ ya p l < l.length := by
 unfold ya
 cases h : l.findIdx? p with
 | none => simp only; omega
 | some k =>
  rw [List.findIdx?_eq_some_iff_getElem] at h
  obtain ⟨hk,_⟩ := h
  simp only; omega
def zMc : Mc := ⟨[],0,0,0,0,0,0,0⟩
def YQ (d : Df) : Mc := ⟨[⟨1,0,⟨#[]⟩,0,0⟩,⟨5,0,⟨#[]⟩,0,0⟩],d.at',0,1,0,0,0,0⟩
def Wk (c : Cd) (s : ByteArray) : Option Mc := if zI c = true /\ 0 <= Dw c s then
  (match c.defs[(Dw c s).toNat]? with | some d => if d.args = 0 then some (YQ d) else none | none => none) else none
def adg (r : Option Mc) : D := match r with | some m => .tup [oMc m,.bool true] | none => .tup [oMc zMc,.bool false]
theorem DD {c : Cd} (hf : FitsC c) (s : ByteArray) : V 78 [eCd c,.str s] = some (adg (Wk c s),[]) := by
 have hd := Fp hf s
 have hc := DZ hf
 have hb := Yc (fun d : Df => kc d.name s) c.defs
 rw [NG]
 unfold Wk
 cases e1 : zI c with
 | false => rw [e1] at hc; rw [if_neg (by simp)]; simp (disch := first | omega | (simp only [lnA,lnC,lnN,lnM,yO,wY]; omega)) only [↓wZ,xi,↓yk,↓yo,↓ye,↓xI,Bool.not_false,hd,hc]; rfl
 | true =>
  rw [e1] at hc
  by_cases e2 : 0 <= Dw c s
  ·rw [if_pos ⟨rfl,e2⟩]
   obtain ⟨k,hk⟩ := Int.eq_ofNat_of_zero_le e2
   have hkl : k < c.defs.length := by unfold Dw at hk; omega
   obtain ⟨d,hx⟩ := xx hkl
   rw [hk] at hd ⊢
   rw [Int.toNat_natCast,hx]
   by_cases e3 : d.args = 0
   ·simp only [e3,if_true]
    simp (disch := first | omega | (simp only [lnA,lnC,lnN,lnM,yO,wY]; omega)) only [↓wZ,xi,↓xJ,↓xP,↓yo,↓ye,↓xI,↓xu,↓xA,↓xB,xA,xB,↓xX,yJ,yI,yG,Bool.and_true,Bool.not_true,lnM,wY,hd,hc,↓xW hx]
    rfl
   ·simp only [e3,if_false]
    simp (disch := first | omega | (simp only [lnA,lnC,lnN,lnM,yO,wY]; omega)) only [↓wZ,xi,↓yk,↓xJ,↓xP,↓yo,↓ye,↓xI,↓xu,↓xB,xB,↓xX,yJ,yI,yH,Bool.and_true,Bool.not_true,lnM,wY,hd,hc,↓xW hx]
    rfl
  ·rw [if_neg (fun h => e2 h.2)]
   simp (disch := first | omega | (simp only [lnA,lnC,lnN,lnM,yO,wY]; omega)) only [↓wZ,xi,↓yk,↓xJ,↓yo,↓ye,↓xI,yJ,Bool.not_true,hd,hc]
   rfl
theorem Zz {c : Cd} {s : ByteArray} {m : Mc} (h : Wk c s = some m) : ∃ d ∈ c.defs,d.args = 0 /\ m = YQ d /\ zI c = true := by
 unfold Wk at h
 split at h
 ·rename_i hc
  split at h
  ·rename_i d hx
   split at h
   ·rename_i ha
    cases h
    exact ⟨d,List.mem_of_getElem? hx,ha,rfl,hc.1⟩
   ·cases h
  ·cases h
 ·cases h
end
end Go.Eng
/-! draws of machines -/
namespace Go.Eng
noncomputable section
open Go.Proofs Go.Proofs.Tryz
set_option maxHeartbeats 4000000
set_option maxRecDepth 10000

structure SomeM (m : Mc) : Prop where
 fits : zZ m.pool
 len : m.pool.length <= 3001
theorem Y1 {c : Cd} {m : Mc} (h : CU c m = true) : SomeM m := by
 obtain ⟨r1,r2,r3,_⟩ := Jg h
 exact ⟨Qy r2,by omega⟩
theorem SU : SomeM Zg := ⟨FP,by simp [Zg]⟩
theorem ZT {c : Cd} {m : Mc} (h : SomeM m) : SomeM (WZ c m) := by
 unfold WZ
 split
 ·split
  ·exact Y1 (aaP ‹_› ‹_›)
  ·exact h
 ·exact SU
theorem aby {c : Cd} {m : Mc} (h : CU c m = true) {p : List Nd} (hp : yV p = true) {v : Int} (hv : InP p v) : zh (UO m p v).pool /\ InP (UO m p v).pool (UO m p v).s /\ ∃ t,(UO m p v).pool = m.pool ++ t := by
 obtain ⟨r1,r2,r3,r4,r5,r6,r7⟩ := Jg h
 obtain ⟨f1,f2,t,f3,f4⟩ := GD hp r2 hv (-1)
 have hs : InP (AH (-1) p v m.pool).1 m.s := by rw [f3]; exact y7 _ r4
 exact ⟨zr f1 (Ky f2 hs),Ai _ _,t ++ [ndP (AH (-1) p v m.pool).2 m.s],by unfold UO; simp only; rw [f3,List.append_assoc]⟩
theorem Vc {c : Cd} {m : Mc} (h : SomeM m) {p : List Nd} {v : Int} : SomeM (LR c m p v) := by
 unfold LR
 split
 ·rename_i hok
  split
  ·rename_i hc
   have hv := wi_iff.1 hc.2.2
   split
   ·split
    ·exact ⟨Qy (aby hok hc.2.1 ⟨hv.1,by omega⟩).1,by omega⟩
    ·exact ⟨h.fits,h.len⟩
   ·exact ⟨h.fits,h.len⟩
  ·exact h
 ·exact SU
def acb (v : D) : Prop := ∃ m : Mc,v = oMc m /\ SomeM m
section
variable {b : List Int}
theorem Xx (hb : b.length < 4611686018427387904) {x : Cd} (hx : FitsC x) {n : Int} (hn : n < 1000) : ∀ (k i : Nat) (c : Int × Int) (m : Mc),((i : Int) + k = n \/ (k = 0 /\ n <= i)) -> zJ b c -> SomeM m ->
  Cu b acb (Cz n (i : Int) (b.map eB) c.1 c.2 (x.pool.map eN) (x.list.map eIn) (x.defs.map eDf) m.at' m.s m.e m.d m.state m.ask m.arg 0 0 0 0 0 0 0 (m.pool.map eN))
 | 0,i,c,m,hi,hc,hm => by
  rw [Ip,xb (decide_eq_false (by omega))]
  exact yR hc ⟨m,rfl,hm⟩
 | k + 1,i,c,m,hi,hc,hm => by
  have hl := hm.len
  rw [Ip,xK (decide_eq_true (by omega))]
  by_cases h1 : m.state = 1
  ·rw [xK (yF h1)]
   refine yQ (Yw hb hc) fun v c1 a1 ⟨y,e,hy⟩ => ?_
   subst e
   have ha : V 32 [eCd x,eMc m,.agg [.rs (5,0) [eN y]],iN 0] = _ := RJ hx hm.fits (by omega) (p := [y]) (fun z h => by rw [List.mem_singleton.1 h]; omega) (by simp) 0
   have ih := Xx hb hx hn k (i + 1) c1 (LR x m [y] 0) (by omega) a1 (Vc hm)
   rw [xu,yb,ye,yb,ye,yb,yi,yb,ye,yb,ye,yo,yb,yf,yb,yh,yb,ye,yb,ye,yo,yo]
   try dsimp only
   rw [Wz ha,yM (by omega)]
   exact ih
  ·have hs := Xf hx hm.fits (by omega)
   have ih := Xx hb hx hn k (i + 1) c (WZ x m) (by omega) hc (ZT hm)
   rw [xb (yE h1),ZH hs,yM (by omega)]
   exact ih
theorem Iy (hb : b.length < 4611686018427387904) {x : Cd} (hx : FitsC x) {n : Int} (h0 : 0 <= n) (hn : n < 1000) {c : Int × Int} (hc : zJ b c) {m : Mc} (hm : SomeM m) : Cu b acb (V 172 [eC b c,eCd x,oMc m,iN n]) := by
 rw [VQ]
 exact Xx hb hx hn n.toNat 0 c m (by omega) hc hm
def Ly : Mc := ⟨[ndN,ndF 0 0,ndN,ndP 2 0],0,2,3,2,0,0,0⟩
theorem ab8 {x : Cd} (hx : RightC x) : V 171 [eCd x,.agg [.rs (5,0) [.agg [iN 1,iN 0,.str ⟨#[]⟩,iN 0,iN 0],.agg [iN 6,iN 0,.str ⟨#[]⟩,iN 0,iN 0]]],iN 1] = some (.tup [oMc Ly,.bool true],[]) := by
 have hf : zZ [ndN,ndF 0 0] := fun z h => by
  simp only [List.mem_cons,List.not_mem_nil,or_false] at h
  rcases h with rfl | rfl <;> exact EE
 have h1 := DZ hx.fits
 have h2 : V 60 [.agg [.rs (5,0) [.agg [iN 1,iN 0,.str ⟨#[]⟩,iN 0,iN 0],.agg [iN 6,iN 0,.str ⟨#[]⟩,iN 0,iN 0]]]] = some (.bool true,[]) := by
  have h := zK (p := [ndN,ndF 0 0]) hf (by simp)
  rw [show yV [ndN,ndF 0 0] = true by decide +kernel] at h
  exact h
 have h3 : V 61 [.agg [.rs (5,0) [.agg [iN 1,iN 0,.str ⟨#[]⟩,iN 0,iN 0],.agg [iN 6,iN 0,.str ⟨#[]⟩,iN 0,iN 0]]],iN 1] = some (.bool true,[]) := Fk (p := [ndN,ndF 0 0]) (by simp) 1
 have h4 : V 147 [.agg [.rs (5,0) [.agg [iN 1,iN 0,.str ⟨#[]⟩,iN 0,iN 0],.agg [iN 6,iN 0,.str ⟨#[]⟩,iN 0,iN 0]]]] = _ := QQ (p := [ndN,ndF 0 0]) (by simp)
 have h5 := zo (p := [ndN,ndF 0 0]) (by simp) ndN
 have h6 := zo (p := [ndN,ndF 0 0] ++ [ndN]) (by simp) (ndP ((([ndN,ndF 0 0] : List Nd).length : Nat) : Int) 0)
 have hne := hx.ne
 rw [hx.ok] at h1
 rw [O7,Ox h1,Bool.not_true,xJ,BV h2,Bool.not_true,xJ,Jb h3,Bool.not_true,xJ,xb (by decide),yu (by decide)]
 show br (decide (w6 (Int.tdiv 0 8) >= ni (x.list.map eIn).length)) _ _ = _
 rw [lnM,xb (decide_eq_false (by rw [w64 (by decide) (by decide)]; simp only [ni]; have : Int.tdiv 0 8 = 0 := rfl; omega)),zp h4,y1 h5,y1 h6]
 rfl
theorem Lz : SomeM Ly := ⟨fun z h => by
 simp only [Ly,List.mem_cons,List.not_mem_nil,or_false] at h
 rcases h with rfl | rfl | rfl | rfl <;> exact EE,by simp [Ly]⟩
theorem Qq {x : Cd} {s : ByteArray} {m : Mc} (h : Wk x s = some m) : SomeM m := by
 obtain ⟨d,_,_,rfl,_⟩ := Zz h
 exact ⟨fun z h => by
  simp only [YQ,List.mem_cons,List.not_mem_nil,or_false] at h
  rcases h with rfl | rfl <;> exact EE,by simp [YQ]⟩
def abR (v : D) : Prop := ∃ (x : Cd) (m : Mc),v = .tup [eCd x,oMc m] /\ RightC x /\ SomeM m
theorem Yx (hb : b.length < 4611686018427387904) {c : Int × Int} (h : zJ b c) : Cu b abR (V 112 [eC b c]) := by
 rw [NU]
 refine yQ (PI hb h) fun v c1 a1 ⟨x,e,hx⟩ => ?_
 subst e
 rw [xu,yb,yg,yb,yg,yb,yg,yo,yb,yf,yb,yh,yb,ye,yb,ye,yo,yo]
 try dsimp only
 rw [Qu (Fp hx.fits _),lnM]
 refine y6 (fun _ => y6 (fun h0 => ?_) fun _ => ?_) fun _ => ?_
 ·have h0 := of_decide_eq_true h0
  obtain ⟨d,hd⟩ := xx (l := x.defs) (i := 0) (by simp only [ni] at h0; omega)
  refine Bc (by simp only [ni,Bool.and_eq_true,decide_eq_true_eq] at h0 ⊢; omega) ?_
  rw [xW hd,aci]
  have hm := DD hx.fits d.name
  cases hq : Wk x d.name with
  | none =>
   rw [hq] at hm
   rw [Au hm,Bool.not_false,yk,FU (ab8 hx)]
   refine yQ (y3 hb a1 _) fun v c2 a2 ⟨n,e,n0,n1⟩ => ?_
   subst e
   have n1 := n1 (by omega)
   rw [ye,yb,yf,yb,yh,yb,ye,yb,ye,yo,yo]
   refine yQ (Iy hb hx.fits n0 (by omega) a2 (m := Ly) Lz) fun v c3 a3 ⟨m,e,hm⟩ => ?_
   subst e
   rw [xu,yb,yg,yb,ye,yb,ye,yb,ye,yb,ye,yb,ye,yb,ye,yb,ye,yo,yb,yf,yb,yh,yb,ye,yb,ye,yo,yo]
   exact yR a3 ⟨x,m,rfl,hx,hm⟩
  | some q =>
   have hqs := Qq hq
   rw [hq] at hm
   rw [Au hm,Bool.not_true,xJ]
   refine yQ (y3 hb a1 _) fun v c2 a2 ⟨n,e,n0,n1⟩ => ?_
   subst e
   have n1 := n1 (by omega)
   rw [ye,yb,yf,yb,yh,yb,ye,yb,ye,yo,yo]
   refine yQ (Iy hb hx.fits n0 (by omega) a2 (m := q) hqs) fun v c3 a3 ⟨m,e,hm⟩ => ?_
   subst e
   rw [xu,yb,yg,yb,ye,yb,ye,yb,ye,yb,ye,yb,ye,yb,ye,yb,ye,yo,yb,yf,yb,yh,yb,ye,yb,ye,yo,yo]
   exact yR a3 ⟨x,m,rfl,hx,hm⟩
 ·skip
  have hm := DD hx.fits ⟨#[109,97,105,110]⟩
  cases hq : Wk x ⟨#[109,97,105,110]⟩ with
  | none =>
   rw [hq] at hm
   rw [Au hm,Bool.not_false,yk,FU (ab8 hx)]
   refine yQ (y3 hb a1 _) fun v c2 a2 ⟨n,e,n0,n1⟩ => ?_
   subst e
   have n1 := n1 (by omega)
   rw [ye,yb,yf,yb,yh,yb,ye,yb,ye,yo,yo]
   refine yQ (Iy hb hx.fits n0 (by omega) a2 (m := Ly) Lz) fun v c3 a3 ⟨m,e,hm⟩ => ?_
   subst e
   rw [xu,yb,yg,yb,ye,yb,ye,yb,ye,yb,ye,yb,ye,yb,ye,yb,ye,yo,yb,yf,yb,yh,yb,ye,yb,ye,yo,yo]
   exact yR a3 ⟨x,m,rfl,hx,hm⟩
  | some q =>
   have hqs := Qq hq
   rw [hq] at hm
   rw [Au hm,Bool.not_true,xJ]
   refine yQ (y3 hb a1 _) fun v c2 a2 ⟨n,e,n0,n1⟩ => ?_
   subst e
   have n1 := n1 (by omega)
   rw [ye,yb,yf,yb,yh,yb,ye,yb,ye,yo,yo]
   refine yQ (Iy hb hx.fits n0 (by omega) a2 (m := q) hqs) fun v c3 a3 ⟨m,e,hm⟩ => ?_
   subst e
   rw [xu,yb,yg,yb,ye,yb,ye,yb,ye,yb,ye,yb,ye,yb,ye,yb,ye,yo,yb,yf,yb,yh,yb,ye,yb,ye,yo,yo]
   exact yR a3 ⟨x,m,rfl,hx,hm⟩
 ·skip
  have hm := DD hx.fits ⟨#[109,97,105,110]⟩
  cases hq : Wk x ⟨#[109,97,105,110]⟩ with
  | none =>
   rw [hq] at hm
   rw [Au hm,Bool.not_false,yk,FU (ab8 hx)]
   refine yQ (y3 hb a1 _) fun v c2 a2 ⟨n,e,n0,n1⟩ => ?_
   subst e
   have n1 := n1 (by omega)
   rw [ye,yb,yf,yb,yh,yb,ye,yb,ye,yo,yo]
   refine yQ (Iy hb hx.fits n0 (by omega) a2 (m := Ly) Lz) fun v c3 a3 ⟨m,e,hm⟩ => ?_
   subst e
   rw [xu,yb,yg,yb,ye,yb,ye,yb,ye,yb,ye,yb,ye,yb,ye,yb,ye,yo,yb,yf,yb,yh,yb,ye,yb,ye,yo,yo]
   exact yR a3 ⟨x,m,rfl,hx,hm⟩
  | some q =>
   have hqs := Qq hq
   rw [hq] at hm
   rw [Au hm,Bool.not_true,xJ]
   refine yQ (y3 hb a1 _) fun v c2 a2 ⟨n,e,n0,n1⟩ => ?_
   subst e
   have n1 := n1 (by omega)
   rw [ye,yb,yf,yb,yh,yb,ye,yb,ye,yo,yo]
   refine yQ (Iy hb hx.fits n0 (by omega) a2 (m := q) hqs) fun v c3 a3 ⟨m,e,hm⟩ => ?_
   subst e
   rw [xu,yb,yg,yb,ye,yb,ye,yb,ye,yb,ye,yb,ye,yb,ye,yb,ye,yo,yb,yf,yb,yh,yb,ye,yb,ye,yo,yo]
   exact yR a3 ⟨x,m,rfl,hx,hm⟩
end
end
end Go.Eng
/-! draws of machines,mostly right -/
namespace Go.Eng
open Go.Proofs Go.Proofs.Tryz
set_option maxHeartbeats 4000000
set_option maxRecDepth 10000

noncomputable def Any (n : Nat) (X : D) (l : List D) : Prop := X = .rs (n,0) l \/ X = .os (n,0) l
theorem LT {n : Nat} {X : D} {l : List D} (h : Any n X l) {R : Type} (K : List D -> Option R) : mc (n,0) X K = K l := by
 rcases h with rfl | rfl
 ·rw [yd]
 ·rw [yc]
noncomputable def abd (v : D) : Prop := ∃ (x : Cd) (m : Mc) (X1 X2 X3 Y : D),v = .tup [.agg [X1,X2,X3],.agg [Y,iN m.at',iN m.s,iN m.e,iN m.d,iN m.state,iN m.ask,iN m.arg]] /\ Any 5 X1 (x.pool.map eN) /\ Any 4 X2 (x.list.map eIn) /\ Any 3 X3 (x.defs.map eDf) /\ Any 5 Y (m.pool.map eN) /\ SomeC x /\ SomeM m
section
variable {b : List Int}
theorem Zn (hb : b.length < 4611686018427387904) {c : Int × Int} (h : zJ b c) : Cu b abd (V 52 [eC b c]) := by
 rw [Uh]
 refine yQ (Yx hb h) fun v c1 a1 ⟨x,m,e,hx,hm⟩ => ?_
 subst e
 have hs := LI hx
 have hl := hm.len
 rw [xw,yb,xu,yb,yd,yb,yd,yb,yd,yo,yb,xu,yb,yc,yb,ye,yb,ye,yb,ye,yb,ye,yb,ye,yb,ye,yb,ye,yo,yo,yb,yf,yb,yh,yb,ye,yb,ye,yo,yo]
 refine yQ (y3 hb a1 _) fun v c2 a2 ⟨n,e,n0,n1⟩ => ?_
 subst e
 rw [ye,yb,yf,yb,yh,yb,ye,yb,ye,yo,yo]
 refine y6 (fun _ => ?_) fun _ => y6 (fun _ => ?_) fun _ => y6 (fun _ => ?_) fun _ => y6 (fun _ => ?_) fun _ => y6 (fun _ => ?_) fun _ => y6 (fun _ => ?_) fun _ => y6 (fun _ => ?_) fun _ => y6 (fun _ => ?_) fun _ => y6 (fun _ => ?_) fun _ => ?_
 ·refine yQ (y3 hb a2 _) fun v c3 a3 ⟨u,e,u0,u1⟩ => ?_
  subst e
  rw [ye,yb,yf,yb,yh,yb,ye,yb,ye,yo,yo]
  refine yQ (FJ hb a3 [-1,0,w6 (ni (x.list.map eIn).length - 1),ni (x.list.map eIn).length,u] (by simp)) fun v c4 a4 ⟨w,e,_⟩ => ?_
  subst e
  rw [ye,yb,yf,yb,yh,yb,ye,yb,ye,yo,yo]
  exact yR a4 ⟨x,⟨m.pool,w,m.s,m.e,m.d,m.state,m.ask,m.arg⟩,_,_,_,_,rfl,.inl rfl,.inl rfl,.inl rfl,.inl rfl,hs,⟨hm.fits,hm.len⟩⟩
 ·refine yQ (y3 hb a2 _) fun v c3 a3 ⟨w,e,u0,u1⟩ => ?_
  subst e
  rw [ye,yb,yf,yb,yh,yb,ye,yb,ye,yo,yo]
  exact yR a3 ⟨x,⟨m.pool,m.at',m.s,m.e,m.d,w,m.ask,m.arg⟩,_,_,_,_,rfl,.inl rfl,.inl rfl,.inl rfl,.inl rfl,hs,⟨hm.fits,hm.len⟩⟩
 ·refine yQ (y3 hb a2 _) fun v c3 a3 ⟨w,e,u0,u1⟩ => ?_
  subst e
  rw [ye,yb,yf,yb,yh,yb,ye,yb,ye,yo,yo]
  exact yR a3 ⟨x,⟨m.pool,m.at',m.s,m.e,m.d,m.state,w,m.arg⟩,_,_,_,_,rfl,.inl rfl,.inl rfl,.inl rfl,.inl rfl,hs,⟨hm.fits,hm.len⟩⟩
 ·refine yQ (Yv hb a2 (p := m.pool) (by omega)) fun v c3 a3 ⟨w,e,u0,u1⟩ => ?_
  subst e
  rw [ye,yb,yf,yb,yh,yb,ye,yb,ye,yo,yo]
  exact yR a3 ⟨x,⟨m.pool,m.at',m.s,m.e,m.d,m.state,m.ask,w⟩,_,_,_,_,rfl,.inl rfl,.inl rfl,.inl rfl,.inl rfl,hs,⟨hm.fits,hm.len⟩⟩
 ·refine yQ (Yv hb a2 (p := m.pool) (by omega)) fun v c3 a3 ⟨w,e,u0,u1⟩ => ?_
  subst e
  rw [ye,yb,yf,yb,yh,yb,ye,yb,ye,yo,yo]
  exact yR a3 ⟨x,⟨m.pool,m.at',w,m.e,m.d,m.state,m.ask,m.arg⟩,_,_,_,_,rfl,.inl rfl,.inl rfl,.inl rfl,.inl rfl,hs,⟨hm.fits,hm.len⟩⟩
 ·refine yQ (Yv hb a2 (p := m.pool) (by omega)) fun v c3 a3 ⟨w,e,u0,u1⟩ => ?_
  subst e
  rw [ye,yb,yf,yb,yh,yb,ye,yb,ye,yo,yo]
  exact yR a3 ⟨x,⟨m.pool,m.at',m.s,w,m.d,m.state,m.ask,m.arg⟩,_,_,_,_,rfl,.inl rfl,.inl rfl,.inl rfl,.inl rfl,hs,⟨hm.fits,hm.len⟩⟩
 ·refine yQ (Yv hb a2 (p := m.pool) (by omega)) fun v c3 a3 ⟨w,e,u0,u1⟩ => ?_
  subst e
  rw [ye,yb,yf,yb,yh,yb,ye,yb,ye,yo,yo]
  exact yR a3 ⟨x,⟨m.pool,m.at',m.s,m.e,w,m.state,m.ask,m.arg⟩,_,_,_,_,rfl,.inl rfl,.inl rfl,.inl rfl,.inl rfl,hs,⟨hm.fits,hm.len⟩⟩
 ·refine yQ (Zm hb a2) fun v c3 a3 ⟨y,e,hy⟩ => ?_
  subst e
  rw [xu,yb,yg,yb,yg,yb,yg,yo,yb,yf,yb,yh,yb,ye,yb,ye,yo,yo]
  exact yR a3 ⟨y,m,_,_,_,_,rfl,.inr rfl,.inr rfl,.inr rfl,.inl rfl,hy,hm⟩
 ·refine yQ (Yz hb a2) fun v c3 a3 ⟨p,e,hp,hpl⟩ => ?_
  subst e
  rw [xu,yb,yg,yo,yb,yf,yb,yh,yb,ye,yb,ye,yo,yo]
  exact yR a3 ⟨x,⟨p,m.at',m.s,m.e,m.d,m.state,m.ask,m.arg⟩,_,_,_,_,rfl,.inl rfl,.inl rfl,.inl rfl,.inr rfl,hs,⟨SF hp,WT hpl⟩⟩
 ·exact yR a2 ⟨x,m,_,_,_,_,rfl,.inl rfl,.inl rfl,.inl rfl,.inl rfl,hs,hm⟩
theorem aao (hb : b.length < 4611686018427387904) : ∃ (x : Cd) (m : Mc),V 43 [.rs (1,0) (b.map eB)] = some (.tup [eCd x,eMc m],[]) /\ SomeC x /\ SomeM m := by
 obtain ⟨c,e,hc⟩ := Yq hb
 have h : Got (fun v l => l = [] /\ ∃ (x : Cd) (m : Mc),v = .tup [eCd x,eMc m] /\ SomeC x /\ SomeM m) (V 43 [.rs (1,0) (b.map eB)]) := by
  rw [Jw]
  refine Ko e ?_
  rw [yf,yb,yh,yb,ye,yb,ye,yo,yo]
  refine yQ (Zn hb hc) fun v c1 a1 ⟨x,m,X1,X2,X3,Y,e,h1,h2,h3,h4,hx,hm⟩ => ?_
  subst e
  rw [xw,yb,xu,yb,LT h1,yb,LT h2,yb,LT h3,yo,yb,xu,yb,LT h4,yb,ye,yb,ye,yb,ye,yb,ye,yb,ye,yb,ye,yb,ye,yo,yo,yb,yf,yb,yh,yb,ye,yb,ye,yo,yo]
  exact Qf ⟨rfl,x,m,rfl,hx,hm⟩
 obtain ⟨v,l,e,rfl,x,m,rfl,hx,hm⟩ := h
 exact ⟨x,m,e,hx,hm⟩
end
end Go.Eng
/-! what is kept fits -/
namespace Go.Eng
open Go.Proofs Go.Proofs.Tryz

end Go.Eng
/-! a drawn machine that is tidied: the law -/
namespace Go.Eng
open Go.Proofs Go.Proofs.Tryz
set_option maxHeartbeats 4000000

theorem aaC {l : List Int} {f : Int -> Int} (h : l.map f = l) : ∀ r ∈ l,f r = r := by
 induction l with
 | nil => intro r hr; cases hr
 | cons a t ih =>
  rw [List.map_cons] at h
  injection h with h1 h2
  intro r hr
  rcases List.mem_cons.1 hr with rfl | hr
  ·exact h1
  ·exact ih h2 r hr
theorem Yh {m : Mc} (hq : yV m.pool = true) (hr : y5 m.pool (yZ m) = true) : yZ (yX m) = (zn (-1) m.pool (yZ m)).2 /\ (yX m).pool = (zn (-1) m.pool (yZ m)).1 /\ (yX m).s = tf m m.s /\ (yX m).e = tf m m.e /\ (yX m).d = tf m m.d /\ (yX m).state = m.state /\ (yX m).at' = m.at' /\ (yX m).ask = m.ask := by
 have e : yX m = ⟨(zn (-1) m.pool (yZ m)).1,m.at',tf m m.s,tf m m.e,tf m m.d,m.state,m.ask,if holds m = true then tf m m.arg else m.arg⟩ := by unfold yX; rw [if_pos ⟨hq,hr⟩]
 refine ⟨?_,by rw [e],by rw [e],by rw [e],by rw [e],by rw [e],by rw [e],by rw [e]⟩
 have hh : holds (yX m) = holds m := by rw [e]; rfl
 by_cases h : holds m = true
 ·have e2 : yZ m = [m.s,m.e,m.d,m.arg] := by unfold yZ; rw [if_pos h]
  have e3 : yZ (yX m) = [(yX m).s,(yX m).e,(yX m).d,(yX m).arg] := by unfold yZ; rw [hh,if_pos h]
  rw [e3,e]
  simp only [if_pos h]
  unfold tf zn
  rw [e2]
  rfl
 ·have e2 : yZ m = [m.s,m.e,m.d] := by unfold yZ; rw [if_neg h]
  have e3 : yZ (yX m) = [(yX m).s,(yX m).e,(yX m).d] := by unfold yZ; rw [hh,if_neg h]
  rw [e3,e]
  unfold tf zn
  rw [e2]
  rfl
theorem S6 (s : ByteArray) : kc s s = true := by rw [Bv]; simp
end Go.Eng
/-! a machine read of bytes,on both sides -/
namespace Go.Eng
noncomputable section
open Go.Proofs Go.Proofs.Tryz
set_option maxHeartbeats 4000000

def zW (num : RS -> Nat × RS) : Nat -> RS -> List Nat × RS
 | 0,s => ([],s)
 | k + 1,s => ((num s).1 :: (zW num k (num s).2).1,(zW num k (num s).2).2)
theorem Sj {b : List UInt8} : ∀ (k : Nat) (s : RS),s.2 = false -> (zW (y4 b) k s).2.2 = false
 | 0,_,h => h
 | k + 1,_,h => Sj k _ (ML h)
theorem Sk {b : List UInt8} : ∀ (k : Nat) (s : RS),s.2 = false -> (zW (zb b) k s).2.2 = false
 | 0,_,h => h
 | k + 1,_,h => Sk k _ (MO h)
theorem Sm (b : List UInt8) : ∀ (k a : Nat),Sy (zW (y4 b) k (a,true)) (zW (zb b) k (a,true))
 | 0,a => ⟨rfl,fun _ => rfl⟩
 | k + 1,a => by
  have e := IE b a
  simp only [zW]
  rw [<- e]
  cases hk : (y4 b (a,true)).2.2 with
  | false =>
   have h1 := Sj (b := b) k _ hk
   have h2 := Sk (b := b) k _ hk
   exact ⟨by simp only [h1,h2],fun h => by simp only [h1] at h; cases h⟩
  | true =>
   obtain ⟨a1,ha1⟩ : ∃ a1,(y4 b (a,true)).2 = (a1,true) := ⟨_,Prod.ext rfl hk⟩
   rw [ha1]
   have ih := Sm b k a1
   exact ⟨ih.1,fun h => by rw [ih.2 h]⟩
theorem Wu {b : List UInt8} : ∀ (l : List Int),Pz l -> ∀ (a : Nat) (rest : List UInt8),b.drop a = Cn l ++ rest -> zW (y4 b) l.length (a,true) = (l.map Int.toNat,(a + (Cn l).length,true))
 | [],hs,a,rest,h => by simp [zW,Cn]
 | x :: l,hs,a,rest,h => by
  have hx := hs x (by simp)
  have e : Cn (x :: l) = zj x.toNat ++ Cn l := by simp [Cn]
  rw [e,List.append_assoc] at h
  have h1 := Bu (b := b) (s := (a,true)) (n := x.toNat) (by omega) h
  have h2 := DI h
  have ih := Wu l (fun y hy => hs y (by simp [hy])) (a + (zj x.toNat).length) rest h2
  rw [lnC]
  simp only [zW]
  rw [h1]
  simp only
  rw [ih,e,lnA,Nat.add_assoc]
  rfl
theorem ZF {b : List UInt8} {a : Nat} (ho : (zt b (a,true)).2.2 = true) (hp : yV (zt b (a,true)).1 = true) (hat : (zt b (a,true)).2.1 = b.length) : zN b (a,true) = zt b (a,true) := by
 have hn := IE b a
 have hS : zN b (a,true) = if (y4 b (a,true)).1 > 3000 then B9 b ([],((y4 b (a,true)).2.1,false)) else B9 b (goS b (y4 b (a,true)).1 3001 0 (y4 b (a,true)).2 []) := by
  unfold zN; rw [<- hn]
 have hI : zt b (a,true) = goI b (y4 b (a,true)).1 3002 0 (y4 b (a,true)).2 [] := rfl
 have hlen := y0 hp
 have hcnt : (y4 b (a,true)).1 <= 3000 := by
  by_cases hbig : 3000 < (y4 b (a,true)).1
  ·have := VY hbig 3002 0 (y4 b (a,true)).2 [] rfl (by omega) rfl (by rw [<- hI]; exact ho)
   rw [<- hI] at this; omega
  ·omega
 have hok : (y4 b (a,true)).2.2 = true := by
  cases e : (y4 b (a,true)).2.2 with
  | true => rfl
  | false =>
   obtain ⟨a1,ha1⟩ : ∃ a1,(y4 b (a,true)).2 = (a1,false) := ⟨_,Prod.ext rfl e⟩
   rw [hI,ha1,Uw] at ho; cases ho
 obtain ⟨a1,ha1⟩ : ∃ a1,(y4 b (a,true)).2 = (a1,true) := ⟨_,Prod.ext rfl hok⟩
 have hsy := Uy (b := b) hcnt 3001 0 a1 [] (by omega)
 have hII : zt b (a,true) = goI b (y4 b (a,true)).1 3002 0 (a1,true) [] := by rw [hI,ha1]
 have he := hsy.2 (by rw [<- hII]; exact ho)
 rw [<- hII] at he
 rw [hS,if_neg (show ¬ (y4 b (a,true)).1 > 3000 by omega),ha1,<- he]
 unfold B9
 rw [hat,ho,hp]
 exact (Prod.ext rfl (Prod.ext hat.symm (by simp [ho])))
theorem ZD {b : List UInt8} {a : Nat} (s1 : (zN b (a,true)).2.2 = true) : zN b (a,true) = zt b (a,true) /\ yV (zt b (a,true)).1 = true := by
 have hn := IE b a
 have hS : zN b (a,true) = if (y4 b (a,true)).1 > 3000 then B9 b ([],((y4 b (a,true)).2.1,false)) else B9 b (goS b (y4 b (a,true)).1 3001 0 (y4 b (a,true)).2 []) := by
  unfold zN; rw [<- hn]
 have hI : zt b (a,true) = goI b (y4 b (a,true)).1 3002 0 (y4 b (a,true)).2 [] := rfl
 by_cases hbig : (y4 b (a,true)).1 > 3000
 ·rw [hS,if_pos hbig] at s1; simp [B9] at s1
 ·rw [hS,if_neg hbig] at s1
  have hok : (y4 b (a,true)).2.2 = true := by
   cases e : (y4 b (a,true)).2.2 with
   | true => rfl
   | false =>
    obtain ⟨a1,ha1⟩ : ∃ a1,(y4 b (a,true)).2 = (a1,false) := ⟨_,Prod.ext rfl e⟩
    rw [ha1,Ux] at s1; simp [B9] at s1
  obtain ⟨a1,ha1⟩ : ∃ a1,(y4 b (a,true)).2 = (a1,true) := ⟨_,Prod.ext rfl hok⟩
  have hsy := Uy (b := b) (cnt := (y4 b (a,true)).1) (by omega) 3001 0 a1 [] (by omega)
  have hII : zt b (a,true) = goI b (y4 b (a,true)).1 3002 0 (a1,true) [] := by rw [hI,ha1]
  rw [ha1] at s1
  simp only [B9,Bool.and_eq_true,decide_eq_true_eq] at s1
  have he := hsy.2 (by rw [hsy.1]; exact s1.1)
  rw [<- hII] at he
  rw [<- he] at s1
  refine ⟨?_,s1.2.2⟩
  rw [hS,if_neg hbig,ha1,<- he]
  unfold B9
  refine Prod.ext rfl (Prod.ext rfl ?_)
  simp only [s1.1,s1.2.1,s1.2.2,decide_true,Bool.and_true]
def DE (l : List Nat) (p : List Nd) : Mc := ⟨p,(l.getD 0 0 : Nat),(l.getD 3 0 : Nat),(l.getD 4 0 : Nat),(l.getD 5 0 : Nat),(l.getD 1 0 : Nat),(l.getD 2 0 : Nat),(l.getD 6 0 : Nat)⟩
def J3 (s : List UInt8) : Mc × Bool := (DE (zW (y4 s) 7 (0,true)).1 (zt s (zW (y4 s) 7 (0,true)).2).1,(zt s (zW (y4 s) 7 (0,true)).2).2.2)
def Js (c : Cd) (s : List UInt8) : Option Mc := if (J3 s).2 = true /\ Ap c (J3 s).1 = some s then some (J3 s).1 else none
def abc : Mc := ⟨[],0,0,0,0,0,0,0⟩
def LH (r : Option Mc) : D := match r with | some m => .tup [oMc m,.bool true] | none => .tup [oMc abc,.bool false]
theorem XN {b : List UInt8} {s : RS} (h : s.2 = false) : (zt b s).2.2 = false := by
 have h1 := ML (b := b) h
 unfold zt
 obtain ⟨a1,ha1⟩ : ∃ a1,(y4 b s).2 = (a1,false) := ⟨_,Prod.ext rfl h1⟩
 rw [ha1,Uw]
theorem XQ {b : List UInt8} {s : RS} (h : s.2 = false) : (zN b s).2.2 = false := by
 have h1 := MO (b := b) h
 unfold zN
 obtain ⟨a1,ha1⟩ : ∃ a1,(zb b s).2 = (a1,false) := ⟨_,Prod.ext rfl h1⟩
 rw [ha1,Ux]
 split <;> simp [B9]
theorem FW {c : Cd} {m : Mc} {s : List UInt8} (h : Ap c m = some s) : CU c m = true /\ s = Cn (EJ (yX m)) ++ DA (yX m).pool := by
 unfold Ap at h
 split at h
 ·rename_i hc; cases h; exact ⟨hc,rfl⟩
 ·cases h
theorem QF {c : Cd} {m : Mc} {s : List UInt8} (h : Ap c m = some s) : J3 s = (yX m,true) /\ (zt s (zW (y4 s) 7 (0,true)).2).2.1 = s.length := by
 obtain ⟨h1,h2⟩ := FW h
 have h3 := Nh h1
 have hs := Kw h3
 have hn := Wu (b := s) (EJ (yX m)) hs 0 (DA (yX m).pool) (by rw [List.drop_zero]; exact h2)
 have hd : s.drop (0 + (Cn (EJ (yX m))).length) = DA (yX m).pool ++ [] := by rw [Nat.zero_add,h2,List.drop_left,List.append_nil]
 have hp := XP (BZ h3).1 hd
 have hl : (EJ (yX m)).length = 7 := rfl
 rw [hl] at hn
 unfold J3
 rw [hn]
 simp only
 rw [hp]
 have e : ∀ x ∈ EJ (yX m),((x.toNat : Nat) : Int) = x := fun x hx => by have := hs x hx; omega
 refine ⟨?_,by simp only [Nat.zero_add]; rw [h2,lnA]⟩
 simp only [EJ,List.mem_cons,List.not_mem_nil,or_false] at e
 have e0 := e (yX m).at' (by simp)
 have e1 := e (yX m).state (by simp)
 have e2 := e (yX m).ask (by simp)
 have e3 := e (yX m).s (by simp)
 have e4 := e (yX m).e (by simp)
 have e5 := e (yX m).d (by simp)
 have e6 := e (yX m).arg (by simp)
 refine Prod.ext ?_ rfl
 show DE ([(yX m).at'.toNat,(yX m).state.toNat,(yX m).ask.toNat,(yX m).s.toNat,(yX m).e.toNat,(yX m).d.toNat,(yX m).arg.toNat]) (yX m).pool = yX m
 show (⟨(yX m).pool,((yX m).at'.toNat : Nat),((yX m).s.toNat : Nat),((yX m).e.toNat : Nat),((yX m).d.toNat : Nat),((yX m).state.toNat : Nat),((yX m).ask.toNat : Nat),((yX m).arg.toNat : Nat)⟩ : Mc) = yX m
 rw [e0,e1,e2,e3,e4,e5,e6]
theorem Y5 (s : List UInt8) : (J3 s).2 = (zt s (zW (y4 s) 7 (0,true)).2).2.2 := by simp only [J3]
theorem Y4 (s : List UInt8) : (J3 s).1 = DE (zW (y4 s) 7 (0,true)).1 (zt s (zW (y4 s) 7 (0,true)).2).1 := by simp only [J3]
theorem Kr (l : List Nat) (p : List Nd) : (DE l p).pool = p := by simp only [DE]
theorem Ye (c : Cd) (s : List UInt8) : Js c s = if (zN s (zW (zb s) 7 (0,true)).2).2.2 = true /\ Ap c (DE (zW (zb s) 7 (0,true)).1 (zN s (zW (zb s) 7 (0,true)).2).1) = some s then some (DE (zW (zb s) 7 (0,true)).1 (zN s (zW (zb s) 7 (0,true)).2).1) else none := by
 have hsy := Sm s 7 0
 have hpk := @QF c (J3 s).1 s
 unfold Js
 rw [Y5,Y4] at *
 generalize zW (y4 s) 7 (0,true) = r at *
 generalize zW (zb s) 7 (0,true) = r' at *
 obtain ⟨l,a,o⟩ := r
 obtain ⟨l',a',o'⟩ := r'
 obtain ⟨hs1,hs2⟩ := hsy
 simp only at hs1 hs2 hpk ⊢
 subst hs1
 cases o with
 | false =>
  have b1 := XN (b := s) (s := (a,false)) rfl
  have b2 := XQ (b := s) (s := (a',false)) rfl
  rw [if_neg (by rw [b1]; simp),if_neg (by rw [b2]; simp)]
 | true =>
  have he := hs2 rfl
  injection he with e1 e2
  injection e2 with e2 _
  subst e1 e2
  by_cases hc : (zt s (a,true)).2.2 = true /\ Ap c (DE l (zt s (a,true)).1) = some s
  ·obtain ⟨h1,h2⟩ := hc
   obtain ⟨p1,p2⟩ := FW h2
   obtain ⟨_,hat⟩ := hpk h2
   have hpool := (BZ p1).1
   rw [Kr] at hpool
   have hf := ZF h1 hpool hat
   rw [hf]
  ·rw [if_neg hc]
   by_cases hs : (zN s (a,true)).2.2 = true /\ Ap c (DE l (zN s (a,true)).1) = some s
   ·exfalso
    obtain ⟨s1,s2⟩ := hs
    obtain ⟨hb,_⟩ := ZD s1
    rw [hb] at s1 s2
    exact hc ⟨s1,s2⟩
   ·rw [if_neg hs]
end
end Go.Eng
/-! processes as arguments -/
namespace Go.Eng
open Go.Proofs Go.Proofs.Tryz
set_option maxHeartbeats 4000000
set_option maxRecDepth 100000

structure LimR (p : Pr) : Prop where
 pool : Lim p.m.pool
 box : ∀ x ∈ p.box,x.size <= 140737488351232
 blen : p.box.length <= 140737488351232
 out : ∀ x ∈ p.out,x.size <= 140737488351232
 olen : p.out.length <= 140737488351232
end Go.Eng
/-! marks of code,machines,processes -/
namespace Go.Eng
open Go.Proofs Go.Proofs.Tryz
set_option maxHeartbeats 4000000

end Go.Eng
/-! a machine read of bytes,on both sides -/
namespace Go.Eng
open Go.Proofs Go.Proofs.Tryz
set_option maxHeartbeats 400000

attribute [local irreducible] y4 zb zt zN
theorem Sc {l : List Nat} {p : List Nd} (h : zZ p) : zZ (DE l p).pool := by rw [Kr]; exact h
theorem Uz {c : Cd} {s : List UInt8} (r1 r2 r3 r4 r5 r6 r7 : Nat × RS) (r8 : List Nd × RS)
  (h1 : V 71 [.op [.os (1,0) (s.map eU),iN 0,.bool true]] = some (iN (r1.1 : Int),[rO s r1.2]))
  (h2 : V 71 [rO s r1.2] = some (iN (r2.1 : Int),[rO s r2.2]))
  (h3 : V 71 [rO s r2.2] = some (iN (r3.1 : Int),[rO s r3.2]))
  (h4 : V 71 [rO s r3.2] = some (iN (r4.1 : Int),[rO s r4.2]))
  (h5 : V 71 [rO s r4.2] = some (iN (r5.1 : Int),[rO s r5.2]))
  (h6 : V 71 [rO s r5.2] = some (iN (r6.1 : Int),[rO s r6.2]))
  (h7 : V 71 [rO s r6.2] = some (iN (r7.1 : Int),[rO s r7.2]))
  (h8 : V 72 [rO s r7.2] = some (oP r8.1,[rO s r8.2]))
  (hm : V 19 [eCd c,.agg [.rs (5,0) (r8.1.map eN),iN (r1.1 : Int),iN (r4.1 : Int),iN (r5.1 : Int),iN (r6.1 : Int),iN (r2.1 : Int),iN (r3.1 : Int),iN (r7.1 : Int)]] = some (Eo (Ap c (DE [r1.1,r2.1,r3.1,r4.1,r5.1,r6.1,r7.1] r8.1)),[])) :
  V 21 [eCd c,.str (mk s)] = some (LH (if r8.2.2 = true /\ Ap c (DE [r1.1,r2.1,r3.1,r4.1,r5.1,r6.1,r7.1] r8.1) = some s then some (DE [r1.1,r2.1,r3.1,r4.1,r5.1,r6.1,r7.1] r8.1) else none),[]) := by
 rw [LZ,Ir,AF h1,AF h2,AF h3,AF h4,AF h5,AF h6,AF h7,Pe h8]
 cases e : Ap c (DE [r1.1,r2.1,r3.1,r4.1,r5.1,r6.1,r7.1] r8.1) with
 | none =>
  rw [e,Eo] at hm
  rw [Ae hm,if_neg (by simp)]
  cases r8.2.2 <;> rfl
 | some q =>
  rw [e,Eo] at hm
  rw [Ae hm]
  cases ho : r8.2.2 with
  | false => rw [if_neg (by simp)]; rfl
  | true =>
   by_cases hq : q = s
   ·subst hq
    have hs : kc (mk q) (mk q) = true := by rw [Bv]; simp
    rw [if_pos ⟨rfl,rfl⟩,Bool.not_true,xJ,xJ,hs]
    rfl
   ·have hs : kc (mk q) (mk s) = false := by rw [IL]; exact decide_eq_false hq
    rw [if_neg (fun h => hq (Option.some.inj h.2)),Bool.not_true,xJ,xJ,hs]
    rfl
theorem UW {c : Cd} {s : List UInt8} (r1 r2 r3 r4 r5 r6 r7 : Nat × RS) (r8 : List Nd × RS)
  (h1 : V 114 [.op [.os (1,0) (s.map eU),iN 0,.bool true]] = some (iN (r1.1 : Int),[rO s r1.2]))
  (h2 : V 114 [rO s r1.2] = some (iN (r2.1 : Int),[rO s r2.2]))
  (h3 : V 114 [rO s r2.2] = some (iN (r3.1 : Int),[rO s r3.2]))
  (h4 : V 114 [rO s r3.2] = some (iN (r4.1 : Int),[rO s r4.2]))
  (h5 : V 114 [rO s r4.2] = some (iN (r5.1 : Int),[rO s r5.2]))
  (h6 : V 114 [rO s r5.2] = some (iN (r6.1 : Int),[rO s r6.2]))
  (h7 : V 114 [rO s r6.2] = some (iN (r7.1 : Int),[rO s r7.2]))
  (h8 : V 115 [rO s r7.2] = some (oP r8.1,[rO s r8.2]))
  (hm : V 20 [eCd c,.agg [.rs (5,0) (r8.1.map eN),iN (r1.1 : Int),iN (r4.1 : Int),iN (r5.1 : Int),iN (r6.1 : Int),iN (r2.1 : Int),iN (r3.1 : Int),iN (r7.1 : Int)]] = some (Eo (Ap c (DE [r1.1,r2.1,r3.1,r4.1,r5.1,r6.1,r7.1] r8.1)),[])) :
  V 45 [eCd c,.str (mk s)] = some (LH (if r8.2.2 = true /\ Ap c (DE [r1.1,r2.1,r3.1,r4.1,r5.1,r6.1,r7.1] r8.1) = some s then some (DE [r1.1,r2.1,r3.1,r4.1,r5.1,r6.1,r7.1] r8.1) else none),[]) := by
 rw [Ml,Ir,CT h1,CT h2,CT h3,CT h4,CT h5,CT h6,CT h7,WJ h8]
 cases ho : r8.2.2 with
 | false => rw [if_neg (by simp)]; rfl
 | true =>
  cases e : Ap c (DE [r1.1,r2.1,r3.1,r4.1,r5.1,r6.1,r7.1] r8.1) with
  | none =>
   rw [e,Eo] at hm
   rw [Bool.not_true,xJ,Af hm,if_neg (by simp)]
   rfl
  | some q =>
   rw [e,Eo] at hm
   rw [Bool.not_true,xJ,Af hm]
   by_cases hq : q = s
   ·subst hq
    have hs : kc (mk q) (mk q) = true := by rw [Bv]; simp
    rw [if_pos ⟨rfl,rfl⟩,Bool.not_true,xJ,hs]
    rfl
   ·have hs : kc (mk q) (mk s) = false := by rw [IL]; exact decide_eq_false hq
    rw [if_neg (fun h => hq (Option.some.inj h.2)),Bool.not_true,xJ,hs]
    rfl
theorem Gf {c : Cd} (hf : FitsC c) {s : List UInt8} (hb : s.length < 4294967296) : V 21 [eCd c,.str (mk s)] = some (LH (Js c s),[]) := by
 have hB : s.length < 4611686018427387904 := by omega
 have i0 : InB s (0,true) := Nat.zero_le _
 have h1 : V 71 [.op [.os (1,0) (s.map eU),iN 0,.bool true]] = some (iN ((y4 s (0,true)).1 : Int),[rO s (y4 s (0,true)).2]) := zO hB i0
 have i1 := CR i0
 have h2 := zO hB i1
 have i2 := CR i1
 have h3 := zO hB i2
 have i3 := CR i2
 have h4 := zO hB i3
 have i4 := CR i3
 have h5 := zO hB i4
 have i5 := CR i4
 have h6 := zO hB i5
 have i6 := CR i5
 have h7 := zO hB i6
 have i7 := CR i6
 have h8 := QT hB i7
 have hfit : ∀ t,zZ (zt s t).1 /\ (zt s t).1.length <= 3002 := fun t => ⟨Wo hB t,XO s t⟩
 have hm : ∀ (l : List Nat) (t : RS),V 19 [eCd c,eMc (DE l (zt s t).1)] = some (Eo (Ap c (DE l (zt s t).1)),[]) := fun l t => Bi hf (m := DE l (zt s t).1) (Sc (hfit t).1) (by rw [Kr]; have := (hfit t).2; omega)
 have hr : Js c s = if (zt s (zW (y4 s) 7 (0,true)).2).2.2 = true /\ Ap c (DE (zW (y4 s) 7 (0,true)).1 (zt s (zW (y4 s) 7 (0,true)).2).1) = some s then some (DE (zW (y4 s) 7 (0,true)).1 (zt s (zW (y4 s) 7 (0,true)).2).1) else none := by unfold Js; rw [Y5,Y4]
 simp only [zW] at hr
 rw [hr]
 exact Uz _ _ _ _ _ _ _ _ h1 h2 h3 h4 h5 h6 h7 h8 (hm [_,_,_,_,_,_,_] _)
theorem LJ {c : Cd} (hf : FitsC c) {s : List UInt8} (hb : s.length < 4294967296) : V 45 [eCd c,.str (mk s)] = some (LH (Js c s),[]) := by
 have hB : s.length < 4611686018427387904 := by omega
 have i0 : InB s (0,true) := Nat.zero_le _
 have h1 : V 114 [.op [.os (1,0) (s.map eU),iN 0,.bool true]] = some (iN ((zb s (0,true)).1 : Int),[rO s (zb s (0,true)).2]) := BG hB i0
 have i1 := BC i0
 have h2 := BG hB i1
 have i2 := BC i1
 have h3 := BG hB i2
 have i3 := BC i2
 have h4 := BG hB i3
 have i4 := BC i3
 have h5 := BG hB i4
 have i5 := BC i4
 have h6 := BG hB i5
 have i6 := BC i5
 have h7 := BG hB i6
 have i7 := BC i6
 have h8 := aa3 hB i7
 have hfit : ∀ t,zZ (zN s t).1 /\ (zN s t).1.length <= 3002 := fun t => ⟨(Ou hB t).1,Nat.le_succ_of_le (Ou hB t).2⟩
 have hm : ∀ (l : List Nat) (t : RS),V 20 [eCd c,eMc (DE l (zN s t).1)] = some (Eo (Ap c (DE l (zN s t).1)),[]) := fun l t => CW hf (m := DE l (zN s t).1) (Sc (hfit t).1) (by rw [Kr]; have := (hfit t).2; omega)
 have hr : Js c s = if (zN s (zW (zb s) 7 (0,true)).2).2.2 = true /\ Ap c (DE (zW (zb s) 7 (0,true)).1 (zN s (zW (zb s) 7 (0,true)).2).1) = some s then some (DE (zW (zb s) 7 (0,true)).1 (zN s (zW (zb s) 7 (0,true)).2).1) else none := Ye c s
 simp only [zW] at hr
 rw [hr]
 exact UW _ _ _ _ _ _ _ _ h1 h2 h3 h4 h5 h6 h7 h8 (hm [_,_,_,_,_,_,_] _)
end Go.Eng
/-! machines as bytes,there and back: the law -/
namespace Go.Eng
open Go.Proofs Go.Proofs.Tryz
set_option maxHeartbeats 4000000

theorem ZW {m : Mc} (hq : yV m.pool = true) (hr : y5 m.pool (yZ m) = true) : yX (yX m) = yX m := by
 obtain ⟨a1,a2,a3,a4,a5,a6,a7,a8⟩ := Yh hq hr
 obtain ⟨b1,b2,b3⟩ := Qh hq hr (-1) (-1)
 have hq2 : yV (yX m).pool = true := by rw [a2]; exact b1
 have hr2 : y5 (yX m).pool (yZ (yX m)) = true := by rw [a1,a2]; exact b2
 have e3 : zn (-1) (yX m).pool (yZ (yX m)) = (zn (-1) m.pool (yZ m)) := by rw [a1,a2]; exact b3
 have fix : ∀ r ∈ yZ (yX m),tf (yX m) r = r := aaC (by
  have := congrArg Prod.snd e3
  rw [<- a1] at this
  exact this)
 have ms : (yX m).s ∈ yZ (yX m) := by unfold yZ; split <;> simp
 have me : (yX m).e ∈ yZ (yX m) := by unfold yZ; split <;> simp
 have md : (yX m).d ∈ yZ (yX m) := by unfold yZ; split <;> simp
 have ma : holds (yX m) = true -> (yX m).arg ∈ yZ (yX m) := fun h => by unfold yZ; rw [if_pos h]; simp
 have ep : (zn (-1) (yX m).pool (yZ (yX m))).1 = (yX m).pool := by rw [e3,<- a2]
 generalize yX m = t at *
 unfold yX
 rw [if_pos ⟨hq2,hr2⟩,ep,fix _ ms,fix _ me,fix _ md]
 by_cases h : holds t = true
 ·rw [if_pos h,fix _ (ma h)]
 ·rw [if_neg h]
theorem Yd {c : Cd} {m : Mc} {s : List UInt8} (h : Ap c m = some s) : Js c s = some (yX m) := by
 obtain ⟨h1,h2⟩ := FW h
 obtain ⟨q1,q2,_⟩ := BZ h1
 have hp : Ap c (yX m) = some s := by
  unfold Ap
  rw [if_pos (Nh h1),ZW q1 q2,h2]
 have hr := (QF h).1
 unfold Js
 rw [hr,if_pos ⟨rfl,hp⟩]
theorem Yf {c : Cd} {s : List UInt8} {m : Mc} (h : Js c s = some m) : Ap c m = some s := by
 unfold Js at h
 generalize J3 s = r at h
 by_cases hc : r.2 = true /\ Ap c r.1 = some s
 ·rw [if_pos hc] at h
  rw [<- Option.some.inj h]
  exact hc.2
 ·rw [if_neg hc] at h
  exact absurd h (by simp)

theorem Wt : ∀ l : List Int,Pz l -> (Cn l).length <= 9 * l.length
 | [],_ => by simp [Cn]
 | x :: l,h => by
  have h1 := y9 (n := x.toNat) (by have := h x (by simp); omega)
  have h2 := Wt l (fun y hy => h y (by simp [hy]))
  simp only [Cn,List.flatMap_cons,lnA,lnC] at *
  omega
theorem Sw {c : Cd} {m : Mc} {s : List UInt8} (h : Ap c m = some s) : s.length <= 200000 := by
 obtain ⟨h1,h2⟩ := FW h
 have h3 := Nh h1
 have h4 := Wt _ (Kw h3)
 have h5 : (DA (yX m).pool).length <= 100000 := Qa (BZ h3).1
 have h6 : (EJ (yX m)).length = 7 := rfl
 rw [h2,lnA]
 omega
theorem RZ {b : List Int} {c : Int × Int} (hb : b.length < 4611686018427387904) (h : zJ b c) {s : List UInt8} (hs : s.length <= 200000) : Cu b (fun v => ∃ t : List UInt8,v = .str (mk t) /\ t.length <= 200001) (V 113 [eC b c,.str (mk s)]) := by
 rw [Ry,Ir,lnM]
 refine y6 (fun _ => yR h ⟨s,rfl,by omega⟩) fun h0 => ?_
 have hne : s.length ≠ 0 := by
  intro e
  rw [e] at h0
  exact absurd h0 (by decide)
 refine yQ (y3 hb h _) fun v c1 a1 ⟨m,e,m0,m1⟩ => ?_
 subst e
 simp (disch := first | omega | (simp only [lnA,lnC,lnN,lnM,yO,wY]; omega)) only [↓yo,↓yb,↓ye,↓yh,↓yf,↓yA]
 refine y6 (fun _ => ?_) fun _ => y6 (fun _ => ?_) fun _ => y6 (fun _ => ?_) fun _ => ?_
 ·refine yQ (y3 hb a1 _) fun v c2 a2 ⟨m2,e,n0,n1⟩ => ?_
  subst e
  have hn := n1 (by simp only [ni]; omega)
  obtain ⟨k,hk⟩ := Int.eq_ofNat_of_zero_le n0
  subst hk
  simp only [ni] at hn
  obtain ⟨x,hx⟩ := xx (l := s) (i := k) (by omega)
  simp (disch := first | omega | (simp only [lnA,lnC,lnN,lnM,yO,wY]; omega)) only [↓yo,↓yb,↓ye,↓yh,↓yf]
  refine yQ (FJ hb a2 [0,1,2,3,5,9,10,127,128] (by simp)) fun v c3 a3 ⟨m3,e,hm⟩ => ?_
  subst e
  have hm3 : 0 <= m3 /\ m3 < 256 := by
   simp only [List.mem_cons,List.not_mem_nil,or_false] at hm
   omega
  obtain ⟨u,hu⟩ := Int.eq_ofNat_of_zero_le hm3.1
  subst hu
  simp (disch := first | omega | (simp only [lnA,lnC,lnN,lnM,yO,wY]; omega)) only [↓yo,↓yb,↓ye,↓yh,↓yf]
  rw [yu (yx (by omega)),Int.toNat_natCast,xW hx,KE (by omega) (by omega),<- abI (by omega),<- List.map_set,BU]
  exact yR a3 ⟨_,rfl,by simp; omega⟩
 ·refine yQ (y3 hb a1 _) fun v c2 a2 ⟨m2,e,n0,n1⟩ => ?_
  subst e
  rw [w64 (by simp only [ni]; omega) (by simp only [ni]; omega)] at n1
  have hn := n1 (by simp only [ni]; omega)
  obtain ⟨k,hk⟩ := Int.eq_ofNat_of_zero_le n0
  subst hk
  simp only [ni] at hn
  simp (disch := first | omega | (simp only [lnA,lnC,lnN,lnM,yO,wY]; omega)) only [↓yo,↓yb,↓ye,↓yh,↓yf]
  have e2 : part (s.map eU) (some (0,k)) = (s.take k).map eU := by simp [part,List.map_take]
  rw [yu (by simp only [cW,Bool.and_eq_true,decide_eq_true_eq]; omega),Int.toNat_natCast,e2,BU]
  exact yR a2 ⟨_,rfl,by simp; omega⟩
 ·have e2 : s.map eU ++ [D.int .u8 0] = (s ++ [0]).map eU := by simp [eU]
  rw [yu (We (by omega) _),e2,BU]
  exact yR a1 ⟨_,rfl,by simp; omega⟩
 ·rw [BU]
  exact yR a1 ⟨_,rfl,by omega⟩
theorem aap {b : List Int} (hb : b.length < 4611686018427387904) : ∃ (x : Cd) (t : List UInt8),V 44 [.rs (1,0) (b.map eB)] = some (.tup [eCd x,.str (mk t)],[]) /\ SomeC x /\ t.length <= 200001 := by
 obtain ⟨c,e,hc⟩ := Yq hb
 have h : Got (fun v l => l = [] /\ ∃ (x : Cd) (t : List UInt8),v = .tup [eCd x,.str (mk t)] /\ SomeC x /\ t.length <= 200001) (V 44 [.rs (1,0) (b.map eB)]) := by
  rw [Jx]
  refine Ko e ?_
  rw [yf,yb,yh,yb,ye,yb,ye,yo,yo]
  refine yQ (Yx hb hc) fun v c1 a1 ⟨x,m,e,hx,hm⟩ => ?_
  subst e
  have hs := LI hx
  have hl := hm.len
  have k := CW hs.fits hm.fits (by omega)
  rw [xw,yb,xu,yb,yd,yb,yd,yb,yd,yo,yb,xu,yb,yc,yb,ye,yb,ye,yb,ye,yb,ye,yb,ye,yb,ye,yb,ye,yo,yo,yb,yf,yb,yh,yb,ye,yb,ye,yo,yo]
  try dsimp only
  cases hpk : Ap x m with
  | none =>
   rw [hpk,Eo] at k
   rw [Af k]
   refine yQ (RZ (s := []) hb a1 (by simp)) fun v c2 a2 ⟨t,e,ht⟩ => ?_
   subst e
   rw [yi,yb,yf,yb,yh,yb,ye,yb,ye,yo,yo]
   exact Qf ⟨rfl,x,t,rfl,hs,ht⟩
  | some q =>
   rw [hpk,Eo] at k
   rw [Af k]
   refine yQ (RZ (s := q) hb a1 (Sw hpk)) fun v c2 a2 ⟨t,e,ht⟩ => ?_
   subst e
   rw [yi,yb,yf,yb,yh,yb,ye,yb,ye,yo,yo]
   exact Qf ⟨rfl,x,t,rfl,hs,ht⟩
 obtain ⟨v,l,e,rfl,x,t,rfl,hx,ht⟩ := h
 exact ⟨x,t,e,hx,ht⟩

theorem abs {y : Cd} {t : List UInt8} (hy : SomeC y) (ht : t.length <= 200001) : ∃ (n : Mc) (f g : Bool) (u : ByteArray),V 21 [eCd y,.str (mk t)] = some (.tup [oMc n,.bool f],[]) /\ V 45 [eCd y,.str (mk t)] = some (.tup [oMc n,.bool f],[]) /\ V 19 [eCd y,eMc n] = some (.tup [.str u,.bool g],[]) /\ (f = false -> n.pool.length = 0) /\ (f = true -> g = true /\ kc u (mk t) = true) := by
 have r1 := Gf hy.fits (s := t) (by omega)
 have r2 := LJ hy.fits (s := t) (by omega)
 cases h : Js y t with
 | none =>
  rw [h,LH] at r1 r2
  have k := Bi hy.fits (m := abc) (by intro z hz; simp [abc] at hz) (by simp [abc])
  cases hp : Ap y abc with
  | none => rw [hp,Eo] at k; exact ⟨_,_,_,_,r1,r2,k,fun _ => rfl,fun e => by cases e⟩
  | some q => rw [hp,Eo] at k; exact ⟨_,_,_,_,r1,r2,k,fun _ => rfl,fun e => by cases e⟩
 | some n =>
  rw [h,LH] at r1 r2
  have hp := Yf h
  have hok := (FW hp).1
  have hm := Y1 hok
  have k := Bi hy.fits hm.fits (by have := hm.len; omega)
  rw [hp,Eo] at k
  exact ⟨_,_,_,_,r1,r2,k,(fun e => by cases e),fun _ => ⟨rfl,S6 _⟩⟩
theorem LF {b : List Int} (hb : b.length < 4611686018427387904) : V 9 [.rs (1,0) (b.map eB)] = some (.bool true,[]) := by
 obtain ⟨x,m,hd,hx,hm⟩ := aao hb
 obtain ⟨y,t,hd2,hy,ht⟩ := aap hb
 have hl := hm.len
 have k1 := Bi hx.fits hm.fits (by omega)
 have k2 := CW hx.fits hm.fits (by omega)
 obtain ⟨n,f,g,u,r1,r2,r3,r4,r5⟩ := abs hy ht
 have hne : ∀ z : Int,(z != z) = false := fun z => by simp
 have hnb : ∀ z : Bool,(!(z == z)) = false := fun z => by simp
 rw [JF,aaG (acq b)]
 cases hbig : decide ((b.length : Int) > 1048576) with
 | true => rfl
 | false =>
  rw [xJ]
  refine (xh hd _).trans ?_
  rw [xw,yb,xu,yb,yd,yb,yd,yb,yd,yo,yb,xu,yb,yd,yb,ye,yb,ye,yb,ye,yb,ye,yb,ye,yb,ye,yb,ye,yo,yo,yo]
  try dsimp only
  cases hp : Ap x m with
  | none =>
   rw [hp,Eo] at k1 k2
   rw [Ae k1,Af k2,xb (hnb _),xJ]
   refine (xh hd2 _).trans ?_
   rw [xw,yb,xu,yb,yd,yb,yd,yb,yd,yo,yb,yi,yo,yo]
   try dsimp only
   rw [DK r1,IG r2,xb (hnb _),Ae r3]
   cases f with
   | false => rw [Bool.not_false,yk,xK (yF (by rw [lnM,r4 rfl]; rfl))]
   | true => rw [Bool.not_true,xJ,yk,(r5 rfl).1,yk,(r5 rfl).2]
  | some s =>
   have hpl := Sw hp
   have q1 := Gf hx.fits (s := s) (by omega)
   rw [Yd hp,LH] at q1
   have q2 := OQ hm.fits (by omega)
   rw [hp,Eo] at k1 k2
   rw [Ae k1,Af k2,xb (hnb _),yk,DK q1,ZG q2,Bool.not_true,xJ,xb (hne _),xb (hne _),xb (hne _),xb (hne _),xb (hne _)]
   refine (xh hd2 _).trans ?_
   rw [xw,yb,xu,yb,yd,yb,yd,yb,yd,yo,yb,yi,yo,yo]
   try dsimp only
   rw [DK r1,IG r2,xb (hnb _),Ae r3]
   cases f with
   | false => rw [Bool.not_false,yk,xK (yF (by rw [lnM,r4 rfl]; rfl))]
   | true => rw [Bool.not_true,xJ,yk,(r5 rfl).1,yk,(r5 rfl).2]
theorem KJ (xs : List D) (h : All2 (fun t x => ShapeV Tryz.prog t x) Tryz.f9.params.toList xs) : V 9 xs = some (.bool true,[]) := by
 rw [Tryz.params9] at h
 cases h with | cons h1 h =>
 cases h
 obtain ⟨b,rfl,hb⟩ := aab h1
 exact LF hb
end Go.Eng
