/- the program and the reference on plain data, part 6 -/
import Derived.Test.YtkndfhaehnfnmaaGreatPart5
import Derived.Test.YtkndfhaehnfnmaaGreatPart3
/-! draws of code -/
namespace Go.Eng
noncomputable section
open Go.Proofs Go.Proofs.Tryz
set_option maxHeartbeats 4000000
set_option maxRecDepth 10000

theorem Fx {l : List UInt8} : ∀ (k i : Nat) (o : List RwF) (t : RwF) (q q' : List Nd) (row : List Int),(o ≠ [] \/ t.2 ≠ []) -> Ci l k i o t q = .ok q' row -> row ≠ []
 | 0,i,o,t,q,q',row,h,e => by rw [Ci] at e; cases e
 | k + 1,i,o,t,q,q',row,h,e => by
  rw [IV] at e
  cases hx : l[i]? with
  | none =>
   rw [hx,MO] at e
   split at e
   ·rename_i ho
    cases e
    rcases h with h | h
    ·exact absurd ho h
    ·exact h
   ·cases e
  | some x =>
   rw [hx,KF] at e
   split at e
   ·exact Fx k _ _ _ _ _ _ h e
   split at e
   ·exact Fx k _ _ _ _ _ _ (.inl (by simp)) e
   split at e
   ·split at e
    ·cases e
    ·exact Fx k _ _ _ _ _ _ (.inr (by simp)) e
   split at e
   ·split at e
    ·cases e
    ·exact Fx k _ _ _ _ _ _ (.inr (by simp)) e
   ·cases e
theorem Gj {l : List UInt8} : ∀ (k i : Nat) (o : List RwF) (t : RwF) (q : List Nd) (c a : Int),Ci l k i o t q = .err c a -> c ≠ 0
 | 0,i,o,t,q,c,a,e => by rw [Ci] at e; cases e; decide
 | k + 1,i,o,t,q,c,a,e => by
  rw [IV] at e
  cases hx : l[i]? with
  | none =>
   rw [hx,MO] at e
   split at e
   ·cases e
   ·cases e; decide
  | some x =>
   rw [hx,KF] at e
   split at e
   ·exact Gj k _ _ _ _ _ _ e
   split at e
   ·exact Gj k _ _ _ _ _ _ e
   split at e
   ·split at e
    ·cases e; decide
    ·exact Gj k _ _ _ _ _ _ e
   split at e
   ·split at e
    ·cases e; decide
    ·exact Gj k _ _ _ _ _ _ e
   ·cases e; decide
theorem Gk {l : List UInt8} : ∀ (k i : Nat) (o : List RwF) (t : RwF) (q : List Nd),i <= l.length -> ∀ q' row,Ci l k i o t q = .ok q' row -> q'.length + row.length <= phi o t q + 2 * (l.length - i)
 | 0,i,o,t,q,_,q',row,h => by rw [Ci] at h; cases h
 | k + 1,i,o,t,q,h2,q',row,h => by
  have hph : phi o t q = q.length + t.2.length + (o.map fun x => x.2.length).sum := rfl
  rw [IV] at h
  by_cases hi : i = l.length
  ·have hx : l[i]? = none := List.getElem?_eq_none (by omega)
   rw [hx,MO] at h
   by_cases ho : o = []
   ·rw [if_pos ho] at h
    cases h
    omega
   ·rw [if_neg ho] at h; cases h
  obtain ⟨x,hx⟩ := xx (l := l) (i := i) (by omega)
  rw [hx,KF] at h
  by_cases h32 : x = 32
  ·rw [if_pos h32] at h
   have := Gk k (i + 1) o t q (by omega) q' row h
   omega
  rw [if_neg h32] at h
  by_cases h40 : x = 40
  ·rw [if_pos h40] at h
   have := Gk k (i + 1) (t :: o) ((i : Int),[]) q (by omega) q' row h
   simp only [phi,List.map_cons,List.sum_cons,lnN] at this
   omega
  rw [if_neg h40] at h
  by_cases h41 : x = 41
  ·rw [if_pos h41] at h
   cases o with
   | nil => cases h
   | cons u o =>
    simp only [List.map_cons,List.sum_cons] at hph
    have := Gk k (i + 1) o (u.1,u.2 ++ [((yR q t.2).2 : Int)]) (yR q t.2).1 (by omega) q' row h
    simp only [phi,BU,lnA,lnC,lnN] at this
    omega
  rw [if_neg h41] at h
  by_cases hw : JH x = true
  ·rw [if_pos hw] at h
   have hwe := Kw hx hw
   have hwl := UB (l := l) (j := i + 1) (by omega)
   cases hwd : Ff ((l.drop i).take (Ez l i - i)) with
   | none => rw [hwd] at h; cases h
   | some nd =>
    rw [hwd] at h
    have := Gk k (Ez l i) o (t.1,t.2 ++ [(q.length : Int)]) (q ++ [nd]) (by omega) q' row h
    simp only [phi,lnA,lnC,lnN] at this
    omega
  ·rw [if_neg hw] at h; cases h
theorem Wa {p : List Nd} {s : ByteArray} (hs : Hd s) (h : (CE p s.data.toList).2.2.1 = 0) : (CE p s.data.toList).2.1 ≠ [] := by
 obtain ⟨x,r,hl,hx⟩ := hs
 unfold CE at h ⊢
 split at h
 ·simp at h
 split at h
 ·simp at h
 rename_i h1 h2
 rw [if_neg h1,if_neg h2]
 generalize hg : Ci s.data.toList (s.data.toList.length + 1) 0 [] (0,[]) p = g at h ⊢
 cases g with
 | err c a =>
  simp only [Y5] at h
  exact absurd h (Gj _ _ _ _ _ _ _ hg)
 | ok q row =>
  simp only [Y5] at h ⊢
  split at h
  ·rename_i hq
   rw [if_pos hq]
   rw [IV,hl] at hg
   simp only [List.getElem?_cons_zero] at hg
   rw [KF,if_neg hx] at hg
   split at hg
   ·exact Fx _ _ _ _ _ _ _ (.inl (by simp)) hg
   split at hg
   ·cases hg
   split at hg
   ·split at hg
    ·cases hg
    ·exact Fx _ _ _ _ _ _ _ (.inr (by simp)) hg
   ·cases hg
  ·simp at h
structure RightC (x : Cd) : Prop where
 ok : zy x = true
 ne : 0 < x.list.length
 fits : FitsC x
theorem Rx {p : List Nd} (hf : z9 p) {n : Int} : ∀ (xs : List Int) (i : Int) (m : Ms) {x : Cd} {j : Int},FQ p n xs i m = (x,0,j) -> m.list.length <= 400 -> WQ m -> m.how = 0 -> (0 < m.list.length \/ xs ≠ []) -> RightC x
 | [],i,m,x,j,e,hm,hs,h0,hne => by
  unfold FQ at e
  split at e
  ·rename_i hok
   cases e
   obtain ⟨c1,c2,c3⟩ := zu hok
   have := y5 c1
   exact ⟨hok,by rcases hne with h | h; exact h; exact absurd rfl h,⟨hf,by omega,hs.1,by omega,hs.2,by omega⟩⟩
  ·cases e
 | y :: r,i,m,x,j,e,hm,hs,h0,hne => by
  unfold FQ at e
  simp only at e
  have le := ZZ (p := p) (v := y) hm
  split at e
  ·cases e
  split at e
  ·rename_i h; have := congrArg (fun r => r.2.1) e; exact absurd this h
  ·rename_i h
   have h : (QA p y m).how = 0 := by omega
   exact Rx hf r (i + 1) _ e le.four (Yv hf hm hs) h (.inl (by have := le.grew h; omega))
theorem UL {p : List Nd} (hf : z9 p) {xs : List Int} (hne : xs ≠ []) (h : (LX p xs).2.1 = 0) : RightC (LX p xs).1 := by
 unfold LX at h ⊢
 split at h
 ·rename_i hh
  rw [if_pos hh]
  generalize hg : FQ p xs.length xs 0 ⟨[],[],0⟩ = g at h ⊢
  obtain ⟨x,a,j⟩ := g
  simp only at h
  subst h
  exact Rx hf xs 0 ⟨[],[],0⟩ hg (by simp) ⟨fun x h => by simp at h,fun x h => by simp at h⟩ rfl (.inr hne)
 ·simp at h
def lastS : ByteArray := ⟨#[40,112,114,105,110,116,32,49,41]⟩
theorem aat : (CE [] lastS.data.toList).2.2.1 = 0 /\ (LX (CE [] lastS.data.toList).1 (CE [] lastS.data.toList).2.1).2.1 = 0 := by decide +kernel
theorem Ga : z9 [] := fun x h => by simp at h
theorem RX (l : List UInt8) : z9 (CE [] l).1 /\ (CE [] l).1.length <= 800 /\ (CE [] l).2.1.length <= 800 := by
 unfold CE
 rw [if_neg (by decide)]
 by_cases h4 : 400 < l.length
 ·rw [if_pos h4]; exact ⟨Ga,by simp,by simp⟩
 rw [if_neg h4]
 unfold Y5
 cases hr : Ci l (l.length + 1) 0 [] (0,[]) [] with
 | err c a => exact ⟨Ga,by simp,by simp⟩
 | ok q row =>
  have h1 := IW (l := l) (by omega) (l.length + 1) 0 [] (0,[]) [] (by omega) (by simp only [phi,List.map_nil,List.sum_nil,lnN]; omega) Ga q row hr
  have h2 := Gk (l := l) (l.length + 1) 0 [] (0,[]) [] (by omega) q row hr
  simp only [phi,List.map_nil,List.sum_nil,lnN] at h2
  simp only
  split
  ·exact ⟨h1.1,by simp only; omega,by simp only; omega⟩
  ·exact ⟨Ga,by simp,by simp⟩
def abc (v : D) : Prop := ∃ x : Cd,v = oCd x /\ RightC x
section
variable {b : List Int}
theorem Y2 (s : ByteArray) : ∃ R C,V 191 [.agg [.rs (5,0) []],.str s] = Ul R /\ V 193 [eP R.1,.rs (1,0) (R.2.1.map eI)] = Rv C /\ (Hd s -> R.2.2.1 = 0 -> C.2.1 = 0 -> RightC C.1) := by
 have h1 : V 191 [.agg [.rs (5,0) []],.str (mk s.data.toList)] = _ := OC Ga (by simp) s.data.toList
 rw [Yj] at h1
 obtain ⟨r1,r2,r3⟩ := RX s.data.toList
 exact ⟨CE [] s.data.toList,LX (CE [] s.data.toList).1 (CE [] s.data.toList).2.1,h1,Kv r1 (by omega) (by omega),fun hh h h' => UL r1 (Wa hh h) h'⟩
theorem aas : ∃ s : ByteArray,s = ⟨#[40,112,114,105,110,116,32,49,41]⟩ /\ Hd s /\ (CE [] s.data.toList).2.2.1 = 0 /\ (LX (CE [] s.data.toList).1 (CE [] s.data.toList).2.1).2.1 = 0 := ⟨lastS,rfl,⟨40,_,rfl,by decide⟩,aat⟩
theorem Y3 : ∃ R C,V 191 [.agg [.rs (5,0) []],.str ⟨#[40,112,114,105,110,116,32,49,41]⟩] = Ul R /\ V 193 [eP R.1,.rs (1,0) (R.2.1.map eI)] = Rv C /\ RightC C.1 := by
 obtain ⟨s,hs,hh,l1,l2⟩ := aas
 rw [<- hs]
 have h1 : V 191 [.agg [.rs (5,0) []],.str (mk s.data.toList)] = _ := OC Ga (by simp) s.data.toList
 rw [Yj] at h1
 obtain ⟨r1,r2,r3⟩ := RX s.data.toList
 exact ⟨CE [] s.data.toList,LX (CE [] s.data.toList).1 (CE [] s.data.toList).2.1,h1,Kv r1 (by omega) (by omega),UL r1 (Wa hh l1) l2⟩
theorem KW (hb : b.length < 4611686018427387904) : ∀ (k i : Nat) (c : Int × Int),i + k = 4 -> zH b c -> Cj b abc (zZ (i : Int) (b.map eB) c.1 c.2)
 | 0,i,c,hi,hc => by
  obtain ⟨R,C,h1,h2,hok⟩ := Y3
  rw [Dp,xb (decide_eq_false (by omega)),RL h1,MG h2]
  exact yQ hc ⟨C.1,rfl,hok⟩
 | k + 1,i,c,hi,hc => by
  rw [Dp,xK (decide_eq_true (by omega))]
  refine yP (aap hb hc) fun v c1 a1 ⟨s,e,hs,hh⟩ => ?_
  subst e
  obtain ⟨R,C,h1,h2,hok⟩ := Y2 s
  have ih := KW hb k (i + 1) c1 (by omega) a1
  rw [yi,yb,yf,yb,yh,yb,ye,yb,ye,yo,yo]
  try dsimp only
  rw [RL h1,MG h2]
  by_cases hr : R.2.2.1 = 0
  ·rw [xK (yF hr)]
   by_cases hc0 : C.2.1 = 0
   ·rw [xK (yF hc0)]
    exact yQ a1 ⟨C.1,rfl,hok hh hr hc0⟩
   ·rw [xb (yE hc0),yM (by omega)]
    exact ih
  ·rw [xb (yE hr),yM (by omega)]
   exact ih
theorem Pn (hb : b.length < 4611686018427387904) {c : Int × Int} (h : zH b c) : Cj b abc (V 142 [eC b c]) := by
 rw [Mj]
 exact KW hb 4 0 c (by omega) h
structure SomeC (x : Cd) : Prop where
 fits : FitsC x
 pool : x.pool.length <= 3001
 list : x.list.length <= 400
 defs : x.defs.length <= 21
def abq (v : D) : Prop := ∃ x : Cd,v = oCd x /\ SomeC x
theorem Qr {x : Cd} (h : RightC x) : SomeC x := by
 obtain ⟨c1,c2,c3⟩ := zu h.ok
 have := y5 c1
 exact ⟨h.fits,by omega,c2,by omega⟩
theorem MU {x : Cd} (h : SomeC x) (k : Nat) {y : In} (hy : y.s.size < 4611686018427387904) : SomeC ⟨x.pool,x.list.set k y,x.defs⟩ := by
 obtain ⟨f,p,l,d⟩ := h
 refine ⟨⟨f.pool,f.plen,?_,by simpa using f.llen,f.defs,f.dlen⟩,p,by simpa using l,d⟩
 intro z hz
 rcases List.mem_or_eq_of_mem_set hz with hz | rfl
 ·exact f.list z hz
 ·exact hy
end
end
end Go.Eng
/-! draws of code,mostly right -/
namespace Go.Eng
open Go.Proofs Go.Proofs.Tryz
set_option maxHeartbeats 4000000

section
variable {b : List Int}
theorem YG (hb : b.length < 4611686018427387904) {c : Int × Int} (h : zH b c) : Cj b abq (V 74 [eC b c]) := by
 rw [Tm]
 refine yP (Pn hb h) fun v c1 a1 ⟨x,e,hx⟩ => ?_
 subst e
 have hs := Qr hx
 have hne := hx.ne
 have hll := hs.list
 rw [xu,yb,yg,yb,yg,yb,yg,yo,yb,yf,yb,yh,yb,ye,yb,ye,yo,yo]
 try dsimp only
 rw [lnM]
 refine yP (yZ hb a1 _) fun v c2 a2 ⟨m,e,m0,m1⟩ => ?_
 subst e
 have m1 := m1 (by simp only [ni]; omega)
 obtain ⟨y,hy⟩ := xx (l := x.list) (i := m.toNat) (by simp only [ni] at m1; omega)
 have hg : (decide (0 <= m) && decide (m < ni x.list.length)) = true := by simp only [Bool.and_eq_true,decide_eq_true_eq]; exact ⟨m0,m1⟩
 have hys := hx.fits.list y (List.mem_of_getElem? hy)
 have st : ∀ (z : In) ,List.set (x.list.map eIn) m.toNat (eIn z) = (x.list.set m.toNat z).map eIn := fun z => by rw [List.map_set]
 rw [ye,yb,yf,yb,yh,yb,ye,yb,ye,yo,yo]
 refine yP (yZ hb a2 _) fun v c3 a3 ⟨n,e,n0,n1⟩ => ?_
 subst e
 rw [ye,yb,yf,yb,yh,yb,ye,yb,ye,yo,yo]
 refine y0 (fun _ => ?_) fun _ => y0 (fun _ => ?_) fun _ => y0 (fun _ => ?_) fun _ => y0 (fun _ => ?_) fun _ => y0 (fun _ => ?_) fun _ => y0 (fun _ => ?_) fun _ => ?_
 ·refine yP (yZ hb a3 _) fun v c4 a4 ⟨u,e,u0,u1⟩ => ?_
  subst e
  rw [ye,yb,yf,yb,yh,yb,ye,yb,ye,yo,yo]
  refine AW hg ?_
  rw [xW hy,xu,yA]
  exact yQ a4 ⟨⟨x.pool,x.list.set m.toNat ⟨u,y.n,y.i,y.s⟩,x.defs⟩,congrArg (fun l => D.agg [.os (5,0) (x.pool.map eN),.os (4,0) l,.os (3,0) (x.defs.map eDf)]) (st ⟨u,y.n,y.i,y.s⟩),MU hs _ hys⟩
 ·refine yP (FT hb a3 [-1,0,m,w6 (m + 1),ni x.list.length,w6 (ni x.list.length + 1)] (by simp)) fun v c4 a4 ⟨u,e,hu⟩ => ?_
  subst e
  rw [ye,yb,yf,yb,yh,yb,ye,yb,ye,yo,yo]
  refine AW hg ?_
  rw [xW hy,xu,yA]
  exact yQ a4 ⟨⟨x.pool,x.list.set m.toNat ⟨y.op,u,y.i,y.s⟩,x.defs⟩,congrArg (fun l => D.agg [.os (5,0) (x.pool.map eN),.os (4,0) l,.os (3,0) (x.defs.map eDf)]) (st ⟨y.op,u,y.i,y.s⟩),MU hs _ hys⟩
 ·refine yP (yZ hb a3 _) fun v c4 a4 ⟨u,e,u0,u1⟩ => ?_
  subst e
  rw [ye,yb,yf,yb,yh,yb,ye,yb,ye,yo,yo]
  refine AW hg ?_
  rw [xW hy,xu,yA]
  exact yQ a4 ⟨⟨x.pool,x.list.set m.toNat ⟨y.op,y.n,w6 (u - 1),y.s⟩,x.defs⟩,congrArg (fun l => D.agg [.os (5,0) (x.pool.map eN),.os (4,0) l,.os (3,0) (x.defs.map eDf)]) (st ⟨y.op,y.n,w6 (u - 1),y.s⟩),MU hs _ hys⟩
 ·refine yP (GJ hb a3 [⟨#[]⟩,⟨#[97]⟩,⟨#[65]⟩] (by simp)) fun v c4 a4 ⟨u,e,hu⟩ => ?_
  subst e
  rw [yi,yb,yf,yb,yh,yb,ye,yb,ye,yo,yo]
  refine AW hg ?_
  rw [xW hy,xu,yA]
  have hz : u.size < 4611686018427387904 := by
   simp only [List.mem_cons,List.not_mem_nil,or_false] at hu
   rcases hu with rfl | rfl | rfl <;> decide
  exact yQ a4 ⟨⟨x.pool,x.list.set m.toNat ⟨y.op,y.n,y.i,u⟩,x.defs⟩,congrArg (fun l => D.agg [.os (5,0) (x.pool.map eN),.os (4,0) l,.os (3,0) (x.defs.map eDf)]) (st ⟨y.op,y.n,y.i,u⟩),MU hs _ hz⟩
 ·refine yP (GJ hb a3 [⟨#[102]⟩,⟨#[109,97,105,110]⟩,⟨#[122,122]⟩,⟨#[65]⟩] (by simp)) fun v c4 a4 ⟨u,e,hu⟩ => ?_
  subst e
  rw [yi,yb,yf,yb,yh,yb,ye,yb,ye,yo,yo]
  refine yP (yZ hb a4 _) fun v c5 a5 ⟨w,e,w0,w1⟩ => ?_
  subst e
  rw [ye,yb,yf,yb,yh,yb,ye,yb,ye,yo,yo]
  refine yP (yZ hb a5 _) fun v c6 a6 ⟨z,e,z0,z1⟩ => ?_
  subst e
  rw [ye,yb,yf,yb,yh,yb,ye,yb,ye,yo,yo]
  have hz : u.size < 4611686018427387904 := by
   simp only [List.mem_cons,List.not_mem_nil,or_false] at hu
   rcases hu with rfl | rfl | rfl | rfl <;> decide
  have ea : x.defs.map eDf ++ [D.agg [D.str u,iN w,iN z]] = (x.defs ++ [(⟨u,w,z⟩ : Df)]).map eDf := by simp
  obtain ⟨c1,c2,c3⟩ := zu hx.ok
  try dsimp only
  rw [ea]
  refine AW (decide_eq_true (by rw [pE,lnM]; simp only [ni,lnA,lnC,lnN]; omega)) ?_
  obtain ⟨f,p,l,d⟩ := hs
  refine yQ a6 ⟨⟨x.pool,x.list,x.defs ++ [⟨u,w,z⟩]⟩,rfl,⟨⟨f.pool,f.plen,f.list,f.llen,?_,by simp only [lnA,lnC,lnN]; omega⟩,p,l,by simp only [lnA,lnC,lnN]; omega⟩⟩
  intro q hq
  rcases List.mem_append.1 hq with hq | hq
  ·exact f.defs q hq
  ·rw [List.mem_singleton.1 hq]; exact hz
 ·refine yP (XW hb a3) fun v c4 a4 ⟨p,e,hp,hl⟩ => ?_
  subst e
  rw [xu,yb,yg,yo,yb,yf,yb,yh,yb,ye,yb,ye,yo,yo]
  obtain ⟨f,p',l,d⟩ := hs
  have hl := VY hl
  exact yQ a4 ⟨⟨p,x.list,x.defs⟩,rfl,⟨⟨RZ hp,by show p.length < _; omega,f.list,f.llen,f.defs,f.dlen⟩,hl,l,d⟩⟩
 ·exact yQ a3 ⟨x,rfl,hs⟩
end
end Go.Eng
/-! a step of a machine: the reference's side: instructions,steps,runs,answers -/
namespace Go.Eng
open Go.Proofs Go.Proofs.Tryz
set_option maxHeartbeats 4000000

theorem WV {q : List Nd} (hp : yU q = true) {v : Int} (hv : InP q v) (acc : List Nd) (d d' : Int) : z3 d q v acc = z3 d' q v acc := by
 have h := Ky hp (Cz hp [v]) (Bi q [v]) d d' q.length [] [] acc rfl (Nat.zero_add _) (fun _ _ => rfl)
 unfold z3
 refine Prod.ext h.1 ?_
 have := h.2 v.toNat (Eo (NU hv) v (by simp))
 simp only [List.getD_eq_getElem?_getD]
 exact congrArg (fun o => Option.getD o 0) this
theorem Wx {q acc : List Nd} (hp : yU q = true) {v : Int} (hv : InP q v) (hc : acc.length + q.length < 4294967296) : V 96 [rP acc,eP q,iN v] = some (iN (z3 (-1) q v acc).2,[rP (z3 (-1) q v acc).1]) := by
 have h1 : V 149 [eP q,.rs (1,0) [iN v]] = _ := Se hp (l := [v]) (by simp) (NU hv)
 have h2 := Wt (acc := acc) hp (rs := [v]) hc
 have hl : (AP 0 q [v] acc).1.length = q.length := by unfold AP; rw [CY]; simp
 rw [WV hp hv acc (-1) 0,TK,ML h1,Oq h2,Vo ⟨hv.1,by rw [hl]; exact hv.2⟩]
 rfl

theorem ab0 {R : Type} (x : Df) (K : Int -> Option R) : (asAgg (eDf x) fun l => cT l 1 fun y => asI .i64 y fun n => K n) = K x.at' := rfl
theorem ab1 {R : Type} (x : Df) (K : Int -> Option R) : (asAgg (eDf x) fun l => cT l 2 fun y => asI .i64 y fun n => K n) = K x.args := rfl
theorem VV {c : Cd} {x : In} {k : Int} (h : Jq c x k = true) (h1 : ¬ x.op = 1) (h2 : ¬ x.op = 2) (h3 : ¬ x.op = 3) (h4 : ¬ x.op = 4) (h5 : ¬ x.op = 5) (h6 : ¬ x.op = 6) (h7 : ¬ x.op = 7) (h8 : ¬ x.op = 8) : x.op = 9 := by
 unfold Jq at h
 rw [if_neg h1,if_neg h2,if_neg h3,if_neg (by omega),if_neg h6,if_neg h7] at h
 split at h
 ·omega
 ·cases h
theorem XM {c : Cd} (hf : FitsC c) (hc : zy c = true) {m : Mc} (hl : m.pool.length < 4294967200) (s : ByteArray) : Nf c (V 217 [eCd c,eMo m,.str s]) (JU c m s) := by
 have hd := Fu hf s
 have c2 := (zu hc).2.1
 rw [PE,Qe hd]
 unfold JU
 by_cases h0 : 0 <= CW c s
 ·obtain ⟨d,hg⟩ := Nn h0
  have hok := NQ hc hg
  unfold VU at hok
  simp only [Bool.and_eq_true] at hok
  have a1 := wi_iff.1 hok.2.2.1
  have a2 := wi_iff.1 hok.2.2.2
  have hlt := aQ hg
  have h1 := zi (p := m.pool) (by omega) ndN
  have h2 := zi (p := m.pool ++ [ndN]) (by simp; omega) (ndF (8 * d.at' + d.args) m.pool.length)
  have h3 := Ft (m := ⟨m.pool ++ [ndN] ++ [ndF (8 * d.at' + d.args) m.pool.length],m.at',m.s,m.e,m.d,m.state,m.ask,m.arg⟩) (by simp; omega) (m.pool.length + 1)
  have e1 : w6 (w6 (8 * d.at') + d.args) = 8 * d.at' + d.args := by rw [w64 (n := 8 * d.at') (by omega) (by omega),w64 (by omega) (by omega)]
  have e2 : ((m.pool ++ [ndN]).length : Int) = m.pool.length + 1 := by simp
  rw [e2] at h2
  have hgr : (decide (0 <= CW c s) && decide (CW c s < ni (c.defs.map eDf).length)) = true := by rw [lnM]; simp only [ni,Bool.and_eq_true,decide_eq_true_eq]; omega
  rw [if_pos h0,xK (decide_eq_true h0),yV h1,yu hgr,xW hg,ab0,yu hgr,xW hg,ab1]
  simp only [List.getD_eq_getElem?_getD,hg,Option.getD_some]
  rw [e1,yV h2,Ac h3]
  rfl
 ·rw [if_neg h0,xb (decide_eq_false h0)]
  have hp := Rk s
  have hb := Jr s
  rw [VJ hp]
  by_cases hz : Ch s = 0
  ·rw [if_pos hz,xK (yF hz)]
   exact zm m (by decide) rfl
  ·have h1 := zi (p := m.pool) (by omega) (ndR (Ch s))
   have h3 := Ft (m := ⟨m.pool ++ [ndR (Ch s)],m.at',m.s,m.e,m.d,m.state,m.ask,m.arg⟩) (by simp; omega) m.pool.length
   rw [if_neg hz,xb (yE hz),yV h1,Ac h3]
   rfl
theorem aaa {c : Cd} (_ : c.list.length <= 400) {m : Mc} (hr : RunM c m) (hl : m.pool.length <= 3000) : Nf c (V 220 [eMo m]) (Jz c m) := by
 rw [Tw]
 unfold Jz
 cases ht : CG m with
 | none =>
  have h1 := GT hr.gm.s ht
  rw [z7 h1]
  exact zm m (by decide) rfl
 | some q =>
  obtain ⟨v,m1⟩ := q
  have h1 := Nb hr.gm.s ht
  obtain ⟨g1,g2,g3,g4,g5,g6,g7,g8⟩ := CH hr.gm ht
  rw [z7 h1,Bool.not_true,xJ,Ce g1.d]
  simp only
  by_cases k1 : (nod m1.pool m1.d).kind = 1
  ·rw [if_pos k1,xK (yF k1)]; rfl
  rw [if_neg k1,xb (yE k1)]
  by_cases k5 : (nod m1.pool m1.d).kind = 5
  ·rw [if_neg (fun h => h k5),xb (yG k5)]
   have ha := J4 g1.ok g1.d (.inl k5)
   have hfr : V 234 [eP m1.pool,iN (nod m1.pool m1.d).a,iN 3] = _ := Sg g1.ok (by rw [g3]; omega) ha (many := 3) (by omega)
   rw [RE (by omega)]
   cases hq : JT m1.pool (nod m1.pool m1.d).a 3 with
   | none =>
    rw [hq] at hfr
    rw [BX hfr]
    exact zm m1 (by decide) rfl
   | some nr =>
    obtain ⟨n,r⟩ := nr
    rw [hq] at hfr
    have hlen := PI (by omega) hq
    obtain ⟨s,e,rfl⟩ : ∃ s e,r = [s,e] := by
     match r,hlen with
     | [s,e],_ => exact ⟨s,e,rfl⟩
     | [],h => simp at h
     | [_],h => simp at h
     | _ :: _ :: _ :: _,h => simp at h
    have a3 := Ft (m := ⟨m1.pool,n,s,e,(nod m1.pool m1.d).b,m1.state,m1.ask,m1.arg⟩) (by show m1.pool.length < _; rw [g3]; omega) v
    by_cases h5 : zP c n = true
    ·simp only [h5,if_true]
     rw [BX hfr,Bool.not_true,xJ,zG,Du,Ac a3]
     rfl
    ·have h5f : zP c n = false := by cases hz : zP c n with | true => exact absurd hz h5 | false => rfl
     simp only [h5f]
     refine .inr ⟨rfl,LI ⟨m1.pool,n,s,e,(nod m1.pool m1.d).b,m1.state,m1.ask,m1.arg⟩ v,h5f,?_⟩
     rw [BX hfr,Bool.not_true,xJ,zG,Du,Ac a3]
  ·rw [if_pos k5,xK (yH k5)]
   exact zm m1 (by decide) rfl
theorem Vp {c : Cd} {n : Int} (h : zP c n = false) (h0 : 0 <= n) : (c.list.length : Int) <= n := by
 rcases Int.lt_or_le n c.list.length with h1 | h1
 ·have := isPl_iff.2 ⟨h0,(by omega : n <= (c.list.length : Int) - 1)⟩
  rw [h] at this; cases this
 ·exact h1
theorem Ou {c : Cd} (hc : c.list.length <= 400) : ∀ (k : Nat) {m : Mc} {acc : List Int},k + acc.length <= 4 -> RunM c m -> m.pool.length <= 3000 -> (∀ v ∈ acc,InP m.pool v) ->
  Nf c (Dq (m.at' + 1) ((k : Int) - 1) m.at' m.s m.e m.d m.state m.ask m.arg (c.pool.map eN) (c.list.map eIn) (c.defs.map eDf) ((List.replicate k 0 ++ acc).map eI) (m.pool.map eN)) (if zP c (m.at' + 1) = false then .error 7 else match Dw (k + 1) m with
   | none => .error 7
   | some (l,m') => CU c 3 m' (l.getD k 0) ((l.take k).reverse ++ acc))
 | 0,m,acc,hk,hr,hl,hv => by
  have hpl := isPl_iff.1 hr.pl
  rw [GF,xb (decide_eq_false (by omega))]
  simp only [Dw]
  cases ht : CG m with
  | none =>
   have h1 := GT hr.gm.s ht
   rw [z7 h1]
   simp only [ite_self]
   exact zm m (by decide) rfl
  | some q =>
   obtain ⟨v,m1⟩ := q
   have h1 := Nb hr.gm.s ht
   obtain ⟨g1,g2,g3,g4,g5,g6,g7,g8⟩ := CH hr.gm ht
   rw [z7 h1,Bool.not_true,xJ,lnM]
   simp only [List.getD_cons_zero,List.take_zero,List.reverse_nil,List.nil_append,List.replicate_zero]
   cases hp : zP c (m.at' + 1) with
   | false =>
    have := Vp hp (by omega)
    rw [if_pos rfl,xK (decide_eq_true (by simp only [ni]; omega))]
    exact zm m1 (by decide) rfl
   | true =>
    have := isPl_iff.1 hp
    have hr1 : RunM c m1 := ⟨g1,g5.trans hr.st,g6.trans hr.ask,g7.trans hr.arg,by rw [g4]; exact hr.pl⟩
    have hva : ∀ u ∈ acc,InP m1.pool u := fun u hu => by rw [g3]; exact hv u hu
    have ha := Sf hc 3 hr1 (f := v) (l := acc) (by rw [g4]; exact hp) (by rw [g3]; omega) g2 hva (by omega) (LT 3 hva (.inl (Nat.le_refl _)))
    rw [g4] at ha
    rw [if_neg (by simp),xb (decide_eq_false (by simp only [ni]; omega))]
    exact Kf ha (fun q m' hx => by rw [MJ hx])
 | k + 1,m,acc,hk,hr,hl,hv => by
  have e1 : (((k + 1 : Nat) : Int) - 1) = (k : Int) := by omega
  rw [GF,e1,xK (decide_eq_true (by omega))]
  rw [Dw]
  cases ht : CG m with
  | none =>
   have h1 := GT hr.gm.s ht
   rw [z7 h1]
   simp only [ite_self]
   exact zm m (by decide) rfl
  | some q =>
   obtain ⟨v,m1⟩ := q
   have h1 := Nb hr.gm.s ht
   obtain ⟨g1,g2,g3,g4,g5,g6,g7,g8⟩ := CH hr.gm ht
   have ih := Ou hc k (m := m1) (acc := v :: acc) (by simp only [lnC]; omega) ⟨g1,g5.trans hr.st,g6.trans hr.ask,g7.trans hr.arg,by rw [g4]; exact hr.pl⟩ (by rw [g3]; exact hl) (fun u hu => by
    rcases List.mem_cons.1 hu with rfl | hu
    ·exact g2
    ·rw [g3]; exact hv u hu)
   rw [g4] at ih
   have ae : (List.replicate (k + 1) (0 : Int) ++ acc)[k]? = some 0 := by
    rw [List.getElem?_append_left (by simp)]; simp
   have hset : List.set ((List.replicate (k + 1) (0 : Int) ++ acc).map eI) k (iN v) = (List.replicate k 0 ++ v :: acc).map eI := by
    rw [<- List.map_set (f := eI) (a := v),List.replicate_succ',List.append_assoc]
    simp
   rw [z7 h1,Bool.not_true,xJ,yu (by rw [lnM]; exact yx (by simp only [lnA,List.length_replicate]; omega)),Int.toNat_natCast,xW ae,yA,hset,w64 (n := (k : Int) - 1) (by omega) (by omega)]
   simp only
   cases ht2 : Dw (k + 1) m1 with
   | none => rw [ht2] at ih; rw [g4] ; exact ih
   | some q2 =>
    obtain ⟨l2,m2⟩ := q2
    rw [ht2] at ih
    simp only [List.getD_cons_succ,List.take_succ_cons,List.reverse_cons,List.append_assoc,List.singleton_append]
    rw [g4]
    exact ih
theorem Ww {c : Cd} (hc : c.list.length <= 400) {m : Mc} (hr : RunM c m) (hl : m.pool.length <= 3000) {k : Int} (hk : 0 <= k /\ k <= 4) : Nf c (V 219 [eCd c,eMo m,iN k,iN (m.at' + 1)]) (Bh c m k.toNat) := by
 have h := Ou hc k.toNat (m := m) (acc := []) (by simp only [lnN]; omega) hr hl (by simp)
 rw [Tz,yu (by rw [pE]; simp only [Bool.and_eq_true,decide_eq_true_eq]; omega),w64 (n := k - 1) (by omega) (by omega)]
 rw [Int.toNat_of_nonneg hk.1,List.append_nil,List.map_replicate] at h
 unfold Bh
 cases ht : Dw (k.toNat + 1) m with
 | none => rw [ht] at h; exact h
 | some q =>
  obtain ⟨l,m'⟩ := q
  obtain ⟨f1,f2,f3,f4,f5,f6,f7,f8,f9⟩ := KG hr.gm ht
  rw [ht] at h
  simp only [List.append_nil] at h ⊢
  obtain ⟨l0,f,rfl⟩ : ∃ l0 f,l = l0 ++ [f] := ⟨l.dropLast,l.getLast (by intro e; subst e; simp at f3),(List.dropLast_concat_getLast _).symm⟩
  have e3 : l0.length = k.toNat := by simpa using f3
  have e4 : (l0 ++ [f]).getD k.toNat 0 = f := by rw [<- e3]; simp
  have e5 : (l0 ++ [f]).take k.toNat = l0 := by rw [<- e3]; simp
  rw [e4,e5] at h
  simp only [List.reverse_append,List.reverse_cons,List.reverse_nil,List.nil_append,List.singleton_append,List.getD_cons_zero,List.drop_one,List.tail_cons]
  exact h
theorem Fp {c : Cd} {m : Mc} {n : Int} {X : Option Ret} (h : X = some (iN 0,[eMo ⟨m.pool,n,m.s,m.e,m.d,m.state,m.ask,m.arg⟩])) : Nf c X (goM c (.ok m) n) := by
 unfold goM
 cases hp : zP c n with
 | false => exact .inr ⟨rfl,_,hp,h⟩
 | true => exact h
theorem aa8 {c : Cd} (hf : FitsC c) (hok : zy c = true) {m : Mc} (hr : RunM c m) (hl : m.pool.length <= 3000) {x : In} {k : Nat} (hx : c.list[k]? = some x) : Nf c (V 196 [eCd c,eMo m,eIn x]) (if x.op = 7 then Bh c m x.i.toNat else if x.op = 8 then Jz c m else Gh c m x) := by
 obtain ⟨c1,c2,c3⟩ := zu hok
 have cl := y5 c1
 have hin := IQ hok hx
 have hat := isPl_iff.1 hr.pl
 have w1 : w6 (m.at' + 1) = m.at' + 1 := w64 (by omega) (by omega)
 rw [Xh]
 by_cases h7 : x.op = 7
 ·rw [if_pos h7,xb (yE (by omega)),xb (yE (by omega)),xb (yE (by omega)),xb (yE (by omega)),xb (yE (by omega)),xb (yE (by omega)),xK (yF h7),w1]
  exact Kf (Ww c2 hr hl (NT hin h7)) (fun q m' hx => by rw [VP hx])
 rw [if_neg h7]
 by_cases h8 : x.op = 8
 ·rw [if_pos h8,xb (yE (by omega)),xb (yE (by omega)),xb (yE (by omega)),xb (yE (by omega)),xb (yE (by omega)),xb (yE (by omega)),xb (yE (by omega)),xK (yF h8)]
  exact Kf (aaa c2 hr hl) (fun q m' hx => by rw [VO hx])
 rw [if_neg h8]
 unfold Gh
 by_cases h1 : x.op = 1
 ·have hlit := Ql hin h1
  have f := D6 c1 hr.gm.ok hlit (-1)
  obtain ⟨f1,f2,t,f3,f4⟩ := f
  have hlen := congrArg List.length f3
  rw [lnA] at hlen
  have h2 := Wx (acc := m.pool) c1 hlit (by omega)
  have h3 := Ft (m := ⟨(z3 (-1) c.pool x.n m.pool).1,m.at',m.s,m.e,m.d,m.state,m.ask,m.arg⟩) (by show (z3 (-1) c.pool x.n m.pool).1.length < _; omega) (z3 (-1) c.pool x.n m.pool).2
  rw [if_pos h1,xK (yF h1),Ol h2,Ac h3,w1]
  exact Fp rfl
 rw [if_neg h1,xb (yE h1)]
 by_cases h2 : x.op = 2
 ·have hv := VW hin h2
  have hX := Yw hr.gm.ok hr.gm.e (n := x.n) (by omega) (by omega)
  rw [if_pos h2,xK (yF h2)]
  unfold WD
  cases e1 : JM m.pool x.n.toNat m.e with
  | none =>
   rw [e1] at hX
   rw [Jp hX]
   exact zm m (by decide) rfl
  | some fr =>
   rw [e1] at hX
   have hY := Yw hr.gm.ok (MC hr.gm.ok _ _ _ hr.gm.e e1) (n := x.i) (by omega) (by omega)
   rw [Jp hX,Bool.not_true,xJ]
   simp only
   cases e2 : JM m.pool x.i.toNat fr with
   | none =>
    rw [e2] at hY
    rw [Jp hY]
    exact zm m (by decide) rfl
   | some v =>
    rw [e2] at hY
    have h3 := Ft (m := m) (by omega) v
    rw [Jp hY,Bool.not_true,xJ,Ac h3,w1]
    exact Fp rfl
 rw [if_neg h2,xb (yE h2)]
 by_cases h3 : x.op = 3
 ·have hX := XM hf hok (m := m) (by omega) x.s
  rw [if_pos h3,xK (yF h3)]
  cases e : JU c m x.s with
  | ok m' =>
   rw [e] at hX
   rw [Li (Uh hX),xb (yG rfl),w1]
   exact Fp rfl
  | error q =>
   rw [e] at hX
   rcases Qm hX with ⟨q0,m',hx'⟩ | ⟨q7,m',hp,hx'⟩
   ·rw [Li hx',xK (yH q0)]
    exact zm m' q0 rfl
   ·exfalso
    unfold JU at e
    split at e
    ·cases e
    ·split at e
     ·cases e; omega
     ·cases e
 rw [if_neg h3,xb (yE h3)]
 by_cases h5 : x.op = 5
 ·rw [if_pos h5,xb (yE (by omega)),xK (yF h5)]
  exact Fp rfl
 rw [if_neg h5]
 by_cases h6 : x.op = 6
 ·have hfn := Qk hin h6
  have a7 := zi (p := m.pool) (by omega) (ndF (8 * x.n + x.i) m.e)
  have a8 := Ft (m := ⟨m.pool ++ [ndF (8 * x.n + x.i) m.e],m.at',m.s,m.e,m.d,m.state,m.ask,m.arg⟩) (by simp; omega) m.pool.length
  rw [if_pos h6,xb (yE (by omega)),xb (yE (by omega)),xK (yF h6),w64 (n := 8 * x.n) (by omega) (by omega),w64 (n := 8 * x.n + x.i) (by omega) (by omega),yV a7,Ac a8,w1]
  exact Fp rfl
 rw [if_neg h6]
 cases ht : CG m with
 | none =>
  have t1 := GT hr.gm.s ht
  by_cases h4 : x.op = 4
  ·rw [xK (yF h4),z7 t1]
   exact zm m (by decide) rfl
  ·have h9 : x.op = 9 := VV hin h1 h2 h3 h4 h5 h6 h7 h8
   rw [xb (yE h4),xb (yE h5),xb (yE h6),xb (yE h7),xb (yE h8),xK (yF h9),z7 t1]
   exact zm m (by decide) rfl
 | some q =>
  obtain ⟨v,m1⟩ := q
  have hX := Nb hr.gm.s ht
  obtain ⟨g1,g2,g3,g4,g5,g6,g7,g8⟩ := CH hr.gm ht
  simp only
  by_cases h4 : x.op = 4
  ·rw [xK (yF h4),z7 hX,Bool.not_true,xJ,Ce g2]
   by_cases k2 : (nod m1.pool v).kind = 2
   ·rw [xK (yF k2)]
    by_cases k0 : (nod m1.pool v).n = 0
    ·rw [xK (yF k0),if_pos ⟨h4,k2,k0⟩]
     exact Fp rfl
    ·rw [xb (yE k0),if_neg (fun h => k0 h.2.2),w1]
     exact Fp rfl
   ·rw [xb (yE k2),if_neg (fun h => k2 h.2.1),w1]
    exact Fp rfl
  ·have h9 : x.op = 9 := VV hin h1 h2 h3 h4 h5 h6 h7 h8
   rw [xb (yE h4),xb (yE h5),xb (yE h6),xb (yE h7),xb (yE h8),xK (yF h9),z7 hX,if_neg (fun h => h4 h.1),Bool.not_true,xJ,w1]
   exact Fp rfl

theorem QE {m : Mc} (hl : m.pool.length <= 4294967296) (q : Int) : V 97 [eMc m,iN q] = some (oMc (NW m q),[]) := by
 rw [TG,AQ (I8 hl)]
 rfl
theorem XB {c : Cd} {m : Mc} (h : JN c m = true) (hc : 0 < c.list.length) : zP c m.at' = true := by
 unfold JN at h
 have z : zP c 0 = true := isPl_iff.2 ⟨Int.le_refl _,by omega⟩
 split at h
 ·simp only [Bool.and_eq_true] at h; exact h.1
 split at h
 ·simp only [Bool.and_eq_true] at h; exact h.1
 split at h
 ·simp only [Bool.and_eq_true,beq_iff_eq] at h; rw [h.1]; exact z
 split at h
 ·simp only [Bool.and_eq_true,beq_iff_eq] at h; rw [h.1]; exact z
 ·cases h
theorem Wy {c : Cd} (hf : FitsC c) (hok : zy c = true) {m : Mc} (hr : RunM c m) (hl : m.pool.length <= 3000) : V 153 [eCd c,eMc m] = some (oMc (Az c m),[]) := by
 obtain ⟨c1,c2,c3⟩ := zu hok
 have cl := y5 c1
 obtain ⟨x,hx⟩ := Un hr
 have hlt := aQ hx
 have hat := isPl_iff.1 hr.pl
 have hgd : c.list.getD m.at'.toNat ⟨0,0,0,⟨#[]⟩⟩ = x := by rw [List.getD_eq_getElem?_getD,hx]; rfl
 have hfail := fun q => QE (m := m) (by omega) q
 have hdo : doM c m = if x.op = 7 then Bh c m x.i.toNat else if x.op = 8 then Jz c m else Gh c m x := by unfold doM; rw [hgd]
 have hX := aa8 hf hok hr hl hx
 rw [<- hdo] at hX
 have hin : ∀ n : Int,V 62 [iN n,iN 0,iN (w6 (ni c.list.length - 1))] = some (.bool (zP c n),[]) := fun n => by
  rw [w64 (n := ni c.list.length - 1) (by simp only [ni]; omega) (by simp only [ni]; omega)]
  exact Ae n 0 _
 rw [TJ,AQ (I8 (by omega)),yu (by rw [lnM]; simp only [ni,Bool.and_eq_true,decide_eq_true_eq]; omega),xW hx,ZM,lnM]
 unfold Az
 cases e : doM c m with
 | ok m' =>
  rw [e] at hX
  obtain ⟨g1,⟨t,g2,g3⟩,g4⟩ := Pm hok hr e
  have hlen := congrArg List.length g2
  rw [lnA] at hlen
  rw [NN (Uh hX),xb (yG rfl),zM (hin m'.at'),XB g4 (by omega),Bool.not_true,xJ,lnM]
  simp only
  by_cases h3 : m'.pool.length <= 3000
  ·rw [xb (decide_eq_false (by simp only [ni]; omega)),if_pos h3]
  ·rw [xK (decide_eq_true (by simp only [ni]; omega)),Ee (hfail 6),if_neg h3]
 | error q =>
  rw [e] at hX
  simp only
  rcases Qm hX with ⟨q0,m',hx'⟩ | ⟨q7,m',hp,hx'⟩
  ·rw [NN hx',xK (yH q0),Ee (hfail q)]
  ·rw [NN hx',xb (yG rfl),zM (hin m'.at'),hp,Bool.not_false,yk,Ee (hfail 7),q7]

theorem OD {c : Cd} (hf : FitsC c) {m : Mc} (hm : z9 m.pool) (hl : m.pool.length <= 4294967296) : V 89 [eCd c,eMc m] = some (oMc (MW c m),[]) := by
 have h1 := B9 hf hm (by omega)
 rw [Xc,Dv h1]
 unfold MW
 cases h : Bm c m with
 | false => rw [Bool.not_false,yk,if_neg (by simp)]; rfl
 | true =>
  rw [Bool.not_true,xJ,if_pos rfl]
  by_cases h0 : m.state = 0
  ·obtain ⟨r1,r2,r3⟩ := Kc h h0
   rw [xb (yG h0),Oj (Wy hf r2 r1 r3),if_pos h0]
  ·rw [xK (yH h0),AQ (I8 hl),if_neg h0]
theorem Z8 {m : Mc} (hf : z9 m.pool) (hl : m.pool.length <= 4294967296) : V 162 [oMc m] = some (oMc (zn m),[]) := by
 rw [TP,lnM]
 unfold zn
 by_cases h : m.pool.length <= 2000
 ·rw [xb (decide_eq_false (by simp only [ni]; omega)),if_pos h]
 ·rw [xK (decide_eq_true (by simp only [ni]; omega)),YX (Wz hf hl),if_neg h]
theorem PO {c : Cd} (hf : FitsC c) {steps : Int} : ∀ (k : Nat) {m : Mc} (n : Int),Bm c m = true -> 0 <= n -> ((n + k = mnI steps 2000) \/ (k = 0 /\ mnI steps 2000 <= n)) -> n <= 2000 ->
  DP steps n (c.pool.map eN) (c.list.map eIn) (c.defs.map eDf) m.at' m.s m.e m.d m.state m.ask m.arg 0 0 0 0 0 0 0 (m.pool.map eN) = some (.tup [oMc (zl c k m).1,iN (n + (zl c k m).2)],[])
 | 0,m,n,h,hn,hk,h2 => by
  rw [Iv,Qf (M9 steps 2000),xb (decide_eq_false (by omega))]
  simp [zl]
 | k + 1,m,n,h,hn,hk,h2 => by
  have mn : mnI steps 2000 <= 2000 := by unfold mnI; split <;> omega
  rw [Iv,Qf (M9 steps 2000),xK (decide_eq_true (by omega))]
  unfold zl
  by_cases h0 : m.state = 0
  ·obtain ⟨r1,r2,r3⟩ := Kc h h0
   have s1 := MY h h0
   obtain ⟨q1,q2,q3,q4⟩ := CN s1
   have ht := Z8 (DF q2) (by omega)
   have t1 : Bm c (zn (Az c m)) = true := by
    unfold zn
    split
    ·exact s1
    ·exact Uq s1
   have ih := PO hf (steps := steps) k (m := zn (Az c m)) (n + 1) t1 (by omega) (.inl (by omega)) (by omega)
   rw [xK (yF h0),Oj (Wy hf r2 r1 r3),VT ht,w64 (n := n + 1) (by omega) (by omega),ih,if_pos h0]
   simp only [Int.natCast_add,Int.natCast_one]
   rw [show n + 1 + ((zl c k (zn (Az c m))).2 : Int) = n + (((zl c k (zn (Az c m))).2 : Int) + 1) by omega]
  ·rw [xb (yE h0),if_neg h0]
   simp
theorem aaF {c : Cd} (hf : FitsC c) {m : Mc} (h : Bm c m = true) (steps : Int) : V 101 [eCd c,oMc m,iN steps] = some (.tup [oMc (zl c (mnI steps 2000).toNat m).1,iN (zl c (mnI steps 2000).toNat m).2],[]) := by
 have hlo := PO hf (steps := steps) (mnI steps 2000).toNat 0 h (Int.le_refl _) (by omega) (by omega)
 rw [Vi]
 simp only [Int.zero_add] at hlo
 exact hlo
theorem Rl {c : Cd} (hf : FitsC c) {m : Mc} (hm : z9 m.pool) (hl : m.pool.length <= 4294967296) (steps : Int) : V 35 [eCd c,eMc m,iN steps] = some (.tup [oMc (Wd c m steps).1,iN (Wd c m steps).2],[]) := by
 have h1 := B9 hf hm (by omega)
 rw [SY,Dv h1]
 unfold Wd
 cases h : Bm c m with
 | false =>
  have h2 := OD hf hm hl
  rw [Bool.not_false,yk,RM h2,if_neg (by simp)]
  unfold MW
  rw [if_neg (by simp [h])]
  rfl
 | true => rw [Bool.not_true,xJ,AQ (I8 hl),Xx (aaF hf h steps),if_pos rfl]
theorem Rj {c : Cd} (hf : FitsC c) {m : Mc} (hm : z9 m.pool) (hl : m.pool.length <= 4294967296) {p : List Nd} (hp : z9 p) (hpl : p.length < 4611686018427387904) (v : Int) : V 32 [eCd c,eMc m,eP p,iN v] = some (oMc (LN c m p v),[]) := by
 have h1 := B9 hf hm (by omega)
 have hcp := I8 hl
 rw [SN,Dv h1]
 unfold LN
 cases h : Bm c m with
 | false => rw [Bool.not_false,yk,if_neg (by simp)]; rfl
 | true =>
  obtain ⟨r1,r2,r3,r4,r5,r6,r7⟩ := CN h
  obtain ⟨c1,c2,c3⟩ := zu r1
  rw [Bool.not_true,xJ,if_pos rfl]
  by_cases hs : m.state = 1
  ·rw [xb (yG hs),Bz (z8 hp hpl)]
   cases hpo : yU p with
   | false => rw [Bool.not_false,yk,AQ hcp,if_neg (by simp)]
   | true =>
    rw [Bool.not_true,xJ,Jn (Fq hpl v)]
    cases hv : wi v 0 ((p.length : Int) - 1) with
    | false => rw [Bool.not_false,yk,AQ hcp,if_neg (by simp)]
    | true =>
     have hat : 0 <= m.at' /\ m.at' <= 1000 := by
      unfold JN at r7
      rw [if_neg (by omega),if_pos hs] at r7
      simp only [Bool.and_eq_true] at r7
      have := wi_iff.1 r7.1
      omega
     have hv' := wi_iff.1 hv
     have hin : InP p v := ⟨hv'.1,by omega⟩
     obtain ⟨f1,f2,t,f3,f4⟩ := D6 hpo r2 hin (-1)
     have hlen := congrArg List.length f3
     have hpl' := y5 hpo
     rw [lnA] at hlen
     have h2 := Wx (acc := m.pool) hpo hin (by omega)
     have h3 := Ft (m := ⟨(z3 (-1) p v m.pool).1,m.at',m.s,m.e,m.d,m.state,m.ask,m.arg⟩) (by show (z3 (-1) p v m.pool).1.length < _; omega) (z3 (-1) p v m.pool).2
     rw [Bool.not_true,xJ,if_pos ⟨hs,rfl,rfl⟩,AQ hcp,Ol h2,Ac h3,w64 (n := m.at' + 1) (by omega) (by omega),lnM,lnM]
     rw [show (LI ⟨(z3 (-1) p v m.pool).1,m.at',m.s,m.e,m.d,m.state,m.ask,m.arg⟩ (z3 (-1) p v m.pool).2).pool.length = (Uk m p v).pool.length from rfl]
     cases hp1 : zP c (m.at' + 1) with
     | false =>
      have := Vp hp1 (by omega)
      rw [xK (decide_eq_true (by simp only [ni]; omega)),Ee (QE hl 7),if_neg (by simp)]
     | true =>
      have := isPl_iff.1 hp1
      rw [xb (decide_eq_false (by simp only [ni]; omega)),if_pos rfl]
      by_cases h3k : (Uk m p v).pool.length <= 3000
      ·rw [xb (decide_eq_false (by simp only [ni]; omega)),if_pos h3k]; rfl
      ·rw [xK (decide_eq_true (by simp only [ni]; omega)),Ee (QE hl 6),if_neg h3k]
  ·rw [xK (yH hs),AQ hcp,if_neg (fun h => hs h.1)]
end Go.Eng
/-! marks,equality,sizes and copies of nodes and numbers -/
namespace Go.Eng
open Go.Proofs Go.Proofs.Tryz
set_option maxHeartbeats 4000000

end Go.Eng
/-! sizes,copies and equality of what a law's arguments hold -/
namespace Go.Eng
open Go.Proofs Go.Proofs.Tryz
set_option maxHeartbeats 4000000

end Go.Eng
/-! a law's arguments: pools,code,machines,processes -/
namespace Go.Eng
open Go.Proofs Go.Proofs.Tryz
set_option maxHeartbeats 4000000
set_option maxRecDepth 100000

end Go.Eng
/-! machines as bytes,on both sides -/
namespace Go.Eng
open Go.Proofs Go.Proofs.Tryz
set_option maxHeartbeats 4000000

end Go.Eng
/-! nodes of bytes,on both sides -/
namespace Go.Eng
open Go.Proofs Go.Proofs.Tryz
set_option maxHeartbeats 4000000

section
variable {b : List UInt8} (hb : b.length < 4611686018427387904)
include hb
end
end Go.Eng
/-! nodes of bytes: the reference's side,and what both come to -/
namespace Go.Eng
open Go.Proofs Go.Proofs.Tryz
set_option maxHeartbeats 4000000

end Go.Eng
/-! a value read of bytes: both sides come to the same -/
namespace Go.Eng
open Go.Proofs Go.Proofs.Tryz
set_option maxHeartbeats 4000000

end Go.Eng
/-! a value read of bytes: both sides come to the same -/
namespace Go.Eng
open Go.Proofs Go.Proofs.Tryz
set_option maxHeartbeats 4000000

end Go.Eng
/-! processes: when they are right,on both sides -/
namespace Go.Eng
open Go.Proofs Go.Proofs.Tryz
set_option maxHeartbeats 4000000

structure Pr where
 pid : Int
 m : Mc
 box : List ByteArray
 out : List ByteArray
structure FitsR (p : Pr) : Prop where
 pool : z9 p.m.pool
 plen : p.m.pool.length <= 4294967296
 box : ∀ x ∈ p.box,x.size < 4294967296
 blen : p.box.length < 4294967296
 out : ∀ x ∈ p.out,x.size < 4294967296
 olen : p.out.length < 4294967296
end Go.Eng
/-! new machines and processes,on both sides -/
namespace Go.Eng
noncomputable section
open Go.Proofs Go.Proofs.Tryz
set_option maxHeartbeats 4000000

theorem XC {α : Type} (p : α -> Bool) (l : List α) : -1 <= ya p l /\ ya p l < l.length := by
 unfold ya
 cases h : l.findIdx? p with
 | none => simp only; omega
 | some k =>
  rw [List.findIdx?_eq_some_iff_getElem] at h
  obtain ⟨hk,_⟩ := h
  simp only; omega
def zMc : Mc := ⟨[],0,0,0,0,0,0,0⟩
def Yl (d : Df) : Mc := ⟨[⟨1,0,⟨#[]⟩,0,0⟩,⟨5,0,⟨#[]⟩,0,0⟩],d.at',0,1,0,0,0,0⟩
def Vx (c : Cd) (s : ByteArray) : Option Mc := if zy c = true /\ 0 <= CW c s then
  (match c.defs[(CW c s).toNat]? with | some d => if d.args = 0 then some (Yl d) else none | none => none) else none
def ab8 (r : Option Mc) : D := match r with | some m => .tup [oMc m,.bool true] | none => .tup [oMc zMc,.bool false]
theorem DA {c : Cd} (hf : FitsC c) (s : ByteArray) : V 78 [eCd c,.str s] = some (ab8 (Vx c s),[]) := by
 have hd := Fu hf s
 have hc := DV hf
 have hb := XC (fun d : Df => kc d.name s) c.defs
 rw [Nw]
 unfold Vx
 cases e1 : zy c with
 | false => rw [e1] at hc; rw [if_neg (by simp)]; simp (disch := first | omega | (simp only [lnA,lnC,lnN,lnM,yO,wY]; omega)) only [↓wZ,xi,↓yk,↓yo,↓ye,↓xI,Bool.not_false,hd,hc]; rfl
 | true =>
  rw [e1] at hc
  by_cases e2 : 0 <= CW c s
  ·rw [if_pos ⟨rfl,e2⟩]
   obtain ⟨k,hk⟩ := Int.eq_ofNat_of_zero_le e2
   have hkl : k < c.defs.length := by unfold CW at hk; omega
   obtain ⟨d,hx⟩ := xx hkl
   rw [hk] at hd ⊢
   rw [Int.toNat_natCast,hx]
   by_cases e3 : d.args = 0
   ·simp only [e3,if_true]
    simp (disch := first | omega | (simp only [lnA,lnC,lnN,lnM,yO,wY]; omega)) only [↓wZ,xi,↓xJ,↓xP,↓yo,↓ye,↓xI,↓xu,↓xA,↓xB,xA,xB,↓xX,yJ,yI,yG,Bool.and_true,Bool.not_true,lnM,wY,hd,hc,↓xW hx]
    rfl
   ·simp only [e3,if_false]
    simp (disch := first | omega | (simp only [lnA,lnC,lnN,lnM,yO,wY]; omega)) only [↓wZ,xi,↓yk,↓xJ,↓xP,↓yo,↓ye,↓xI,↓xu,↓xB,xB,↓xX,yJ,yI,yH,Bool.and_true,Bool.not_true,lnM,wY,hd,hc,↓xW hx]
    rfl
  ·rw [if_neg (fun h => e2 h.2)]
   simp (disch := first | omega | (simp only [lnA,lnC,lnN,lnM,yO,wY]; omega)) only [↓wZ,xi,↓yk,↓xJ,↓yo,↓ye,↓xI,yJ,Bool.not_true,hd,hc]
   rfl
theorem YR {c : Cd} {s : ByteArray} {m : Mc} (h : Vx c s = some m) : ∃ d ∈ c.defs,d.args = 0 /\ m = Yl d /\ zy c = true := by
 unfold Vx at h
 split at h
 ·rename_i hc
  split at h
  ·rename_i d hx
   split at h
   ·rename_i ha
    cases h
    exact ⟨d,List.mem_of_getElem? hx,ha,rfl,hc.1⟩
   ·cases h
  ·cases h
 ·cases h
end
end Go.Eng
/-! draws of machines -/
namespace Go.Eng
noncomputable section
open Go.Proofs Go.Proofs.Tryz
set_option maxHeartbeats 4000000
set_option maxRecDepth 10000

structure SomeM (m : Mc) : Prop where
 fits : z9 m.pool
 len : m.pool.length <= 3001
theorem aaB {c : Cd} {m : Mc} (h : Bm c m = true) : SomeM m := by
 obtain ⟨r1,r2,r3,_⟩ := CN h
 exact ⟨DF r2,by omega⟩
theorem Sm : SomeM WH := ⟨Ga,by simp [WH]⟩
theorem Y7 {c : Cd} {m : Mc} (h : SomeM m) : SomeM (MW c m) := by
 unfold MW
 split
 ·split
  ·exact aaB (MY ‹_› ‹_›)
  ·exact h
 ·exact Sm
theorem aaC {c : Cd} {m : Mc} (h : Bm c m = true) {p : List Nd} (hp : yU p = true) {v : Int} (hv : InP p v) : y2 (Uk m p v).pool /\ InP (Uk m p v).pool (Uk m p v).s /\ ∃ t,(Uk m p v).pool = m.pool ++ t := by
 obtain ⟨r1,r2,r3,r4,r5,r6,r7⟩ := CN h
 obtain ⟨f1,f2,t,f3,f4⟩ := D6 hp r2 hv (-1)
 have hs : InP (z3 (-1) p v m.pool).1 m.s := by rw [f3]; exact yX _ r4
 exact ⟨zb f1 (KE f2 hs),zO _ _,t ++ [ndP (z3 (-1) p v m.pool).2 m.s],by unfold Uk; simp only; rw [f3,List.append_assoc]⟩
theorem UC {c : Cd} {m : Mc} (h : SomeM m) {p : List Nd} {v : Int} : SomeM (LN c m p v) := by
 unfold LN
 split
 ·rename_i hok
  split
  ·rename_i hc
   have hv := wi_iff.1 hc.2.2
   split
   ·split
    ·exact ⟨DF (aaC hok hc.2.1 ⟨hv.1,by omega⟩).1,by omega⟩
    ·exact ⟨h.fits,h.len⟩
   ·exact ⟨h.fits,h.len⟩
  ·exact h
 ·exact Sm
def aba (v : D) : Prop := ∃ m : Mc,v = oMc m /\ SomeM m
section
variable {b : List Int}
theorem WW (hb : b.length < 4611686018427387904) {x : Cd} (hx : FitsC x) {n : Int} (hn : n < 1000) : ∀ (k i : Nat) (c : Int × Int) (m : Mc),((i : Int) + k = n \/ (k = 0 /\ n <= i)) -> zH b c -> SomeM m ->
  Cj b aba (Cr n (i : Int) (b.map eB) c.1 c.2 (x.pool.map eN) (x.list.map eIn) (x.defs.map eDf) m.at' m.s m.e m.d m.state m.ask m.arg 0 0 0 0 0 0 0 (m.pool.map eN))
 | 0,i,c,m,hi,hc,hm => by
  rw [Iu,xb (decide_eq_false (by omega))]
  exact yQ hc ⟨m,rfl,hm⟩
 | k + 1,i,c,m,hi,hc,hm => by
  have hl := hm.len
  rw [Iu,xK (decide_eq_true (by omega))]
  by_cases h1 : m.state = 1
  ·rw [xK (yF h1)]
   refine yP (XU hb hc) fun v c1 a1 ⟨y,e,hy⟩ => ?_
   subst e
   have ha : V 32 [eCd x,eMc m,.agg [.rs (5,0) [eN y]],iN 0] = _ := Rj hx hm.fits (by omega) (p := [y]) (fun z h => by rw [List.mem_singleton.1 h]; omega) (by simp) 0
   have ih := WW hb hx hn k (i + 1) c1 (LN x m [y] 0) (by omega) a1 (UC hm)
   rw [xu,yb,ye,yb,ye,yb,yi,yb,ye,yb,ye,yo,yb,yf,yb,yh,yb,ye,yb,ye,yo,yo]
   try dsimp only
   rw [VI ha,yM (by omega)]
   exact ih
  ·have hs := OD hx hm.fits (by omega)
   have ih := WW hb hx hn k (i + 1) c (MW x m) (by omega) hc (Y7 hm)
   rw [xb (yE h1),RM hs,yM (by omega)]
   exact ih
theorem Iz (hb : b.length < 4611686018427387904) {x : Cd} (hx : FitsC x) {n : Int} (h0 : 0 <= n) (hn : n < 1000) {c : Int × Int} (hc : zH b c) {m : Mc} (hm : SomeM m) : Cj b aba (V 172 [eC b c,eCd x,oMc m,iN n]) := by
 rw [Vh]
 exact WW hb hx hn n.toNat 0 c m (by omega) hc hm
def LF : Mc := ⟨[ndN,ndF 0 0,ndN,ndP 2 0],0,2,3,2,0,0,0⟩
theorem aa7 {x : Cd} (hx : RightC x) : V 171 [eCd x,.agg [.rs (5,0) [.agg [iN 1,iN 0,.str ⟨#[]⟩,iN 0,iN 0],.agg [iN 6,iN 0,.str ⟨#[]⟩,iN 0,iN 0]]],iN 1] = some (.tup [oMc LF,.bool true],[]) := by
 have hf : z9 [ndN,ndF 0 0] := fun z h => by
  simp only [List.mem_cons,List.not_mem_nil,or_false] at h
  rcases h with rfl | rfl <;> exact EE
 have h1 := DV hx.fits
 have h2 : V 60 [.agg [.rs (5,0) [.agg [iN 1,iN 0,.str ⟨#[]⟩,iN 0,iN 0],.agg [iN 6,iN 0,.str ⟨#[]⟩,iN 0,iN 0]]]] = some (.bool true,[]) := by
  have h := z8 (p := [ndN,ndF 0 0]) hf (by simp)
  rw [show yU [ndN,ndF 0 0] = true by decide +kernel] at h
  exact h
 have h3 : V 61 [.agg [.rs (5,0) [.agg [iN 1,iN 0,.str ⟨#[]⟩,iN 0,iN 0],.agg [iN 6,iN 0,.str ⟨#[]⟩,iN 0,iN 0]]],iN 1] = some (.bool true,[]) := Fq (p := [ndN,ndF 0 0]) (by simp) 1
 have h4 : V 147 [.agg [.rs (5,0) [.agg [iN 1,iN 0,.str ⟨#[]⟩,iN 0,iN 0],.agg [iN 6,iN 0,.str ⟨#[]⟩,iN 0,iN 0]]]] = _ := QC (p := [ndN,ndF 0 0]) (by simp)
 have h5 := zi (p := [ndN,ndF 0 0]) (by simp) ndN
 have h6 := zi (p := [ndN,ndF 0 0] ++ [ndN]) (by simp) (ndP ((([ndN,ndF 0 0] : List Nd).length : Nat) : Int) 0)
 have hne := hx.ne
 rw [hx.ok] at h1
 rw [OX,Og h1,Bool.not_true,xJ,Bz h2,Bool.not_true,xJ,Jn h3,Bool.not_true,xJ,xb (by decide),yu (by decide)]
 show br (decide (w6 (Int.tdiv 0 8) >= ni (x.list.map eIn).length)) _ _ = _
 rw [lnM,xb (decide_eq_false (by rw [w64 (by decide) (by decide)]; simp only [ni]; have : Int.tdiv 0 8 = 0 := rfl; omega)),zj h4,yV h5,yV h6]
 rfl
theorem LG : SomeM LF := ⟨fun z h => by
 simp only [LF,List.mem_cons,List.not_mem_nil,or_false] at h
 rcases h with rfl | rfl | rfl | rfl <;> exact EE,by simp [LF]⟩
theorem Qb {x : Cd} {s : ByteArray} {m : Mc} (h : Vx x s = some m) : SomeM m := by
 obtain ⟨d,_,_,rfl,_⟩ := YR h
 exact ⟨fun z h => by
  simp only [Yl,List.mem_cons,List.not_mem_nil,or_false] at h
  rcases h with rfl | rfl <;> exact EE,by simp [Yl]⟩
def aaR (v : D) : Prop := ∃ (x : Cd) (m : Mc),v = .tup [eCd x,oMc m] /\ RightC x /\ SomeM m
theorem aao (hb : b.length < 4611686018427387904) {c : Int × Int} (h : zH b c) : Cj b aaR (V 112 [eC b c]) := by
 rw [NH]
 refine yP (Pn hb h) fun v c1 a1 ⟨x,e,hx⟩ => ?_
 subst e
 rw [xu,yb,yg,yb,yg,yb,yg,yo,yb,yf,yb,yh,yb,ye,yb,ye,yo,yo]
 try dsimp only
 rw [Qe (Fu hx.fits _),lnM]
 refine y0 (fun _ => y0 (fun h0 => ?_) fun _ => ?_) fun _ => ?_
 ·have h0 := of_decide_eq_true h0
  obtain ⟨d,hd⟩ := xx (l := x.defs) (i := 0) (by simp only [ni] at h0; omega)
  refine AW (by simp only [ni,Bool.and_eq_true,decide_eq_true_eq] at h0 ⊢; omega) ?_
  rw [xW hd,abe]
  have hm := DA hx.fits d.name
  cases hq : Vx x d.name with
  | none =>
   rw [hq] at hm
   rw [Ak hm,Bool.not_false,yk,Gf (aa7 hx)]
   refine yP (yZ hb a1 _) fun v c2 a2 ⟨n,e,n0,n1⟩ => ?_
   subst e
   have n1 := n1 (by omega)
   rw [ye,yb,yf,yb,yh,yb,ye,yb,ye,yo,yo]
   refine yP (Iz hb hx.fits n0 (by omega) a2 (m := LF) LG) fun v c3 a3 ⟨m,e,hm⟩ => ?_
   subst e
   rw [xu,yb,yg,yb,ye,yb,ye,yb,ye,yb,ye,yb,ye,yb,ye,yb,ye,yo,yb,yf,yb,yh,yb,ye,yb,ye,yo,yo]
   exact yQ a3 ⟨x,m,rfl,hx,hm⟩
  | some q =>
   have hqs := Qb hq
   rw [hq] at hm
   rw [Ak hm,Bool.not_true,xJ]
   refine yP (yZ hb a1 _) fun v c2 a2 ⟨n,e,n0,n1⟩ => ?_
   subst e
   have n1 := n1 (by omega)
   rw [ye,yb,yf,yb,yh,yb,ye,yb,ye,yo,yo]
   refine yP (Iz hb hx.fits n0 (by omega) a2 (m := q) hqs) fun v c3 a3 ⟨m,e,hm⟩ => ?_
   subst e
   rw [xu,yb,yg,yb,ye,yb,ye,yb,ye,yb,ye,yb,ye,yb,ye,yb,ye,yo,yb,yf,yb,yh,yb,ye,yb,ye,yo,yo]
   exact yQ a3 ⟨x,m,rfl,hx,hm⟩
 ·skip
  have hm := DA hx.fits ⟨#[109,97,105,110]⟩
  cases hq : Vx x ⟨#[109,97,105,110]⟩ with
  | none =>
   rw [hq] at hm
   rw [Ak hm,Bool.not_false,yk,Gf (aa7 hx)]
   refine yP (yZ hb a1 _) fun v c2 a2 ⟨n,e,n0,n1⟩ => ?_
   subst e
   have n1 := n1 (by omega)
   rw [ye,yb,yf,yb,yh,yb,ye,yb,ye,yo,yo]
   refine yP (Iz hb hx.fits n0 (by omega) a2 (m := LF) LG) fun v c3 a3 ⟨m,e,hm⟩ => ?_
   subst e
   rw [xu,yb,yg,yb,ye,yb,ye,yb,ye,yb,ye,yb,ye,yb,ye,yb,ye,yo,yb,yf,yb,yh,yb,ye,yb,ye,yo,yo]
   exact yQ a3 ⟨x,m,rfl,hx,hm⟩
  | some q =>
   have hqs := Qb hq
   rw [hq] at hm
   rw [Ak hm,Bool.not_true,xJ]
   refine yP (yZ hb a1 _) fun v c2 a2 ⟨n,e,n0,n1⟩ => ?_
   subst e
   have n1 := n1 (by omega)
   rw [ye,yb,yf,yb,yh,yb,ye,yb,ye,yo,yo]
   refine yP (Iz hb hx.fits n0 (by omega) a2 (m := q) hqs) fun v c3 a3 ⟨m,e,hm⟩ => ?_
   subst e
   rw [xu,yb,yg,yb,ye,yb,ye,yb,ye,yb,ye,yb,ye,yb,ye,yb,ye,yo,yb,yf,yb,yh,yb,ye,yb,ye,yo,yo]
   exact yQ a3 ⟨x,m,rfl,hx,hm⟩
 ·skip
  have hm := DA hx.fits ⟨#[109,97,105,110]⟩
  cases hq : Vx x ⟨#[109,97,105,110]⟩ with
  | none =>
   rw [hq] at hm
   rw [Ak hm,Bool.not_false,yk,Gf (aa7 hx)]
   refine yP (yZ hb a1 _) fun v c2 a2 ⟨n,e,n0,n1⟩ => ?_
   subst e
   have n1 := n1 (by omega)
   rw [ye,yb,yf,yb,yh,yb,ye,yb,ye,yo,yo]
   refine yP (Iz hb hx.fits n0 (by omega) a2 (m := LF) LG) fun v c3 a3 ⟨m,e,hm⟩ => ?_
   subst e
   rw [xu,yb,yg,yb,ye,yb,ye,yb,ye,yb,ye,yb,ye,yb,ye,yb,ye,yo,yb,yf,yb,yh,yb,ye,yb,ye,yo,yo]
   exact yQ a3 ⟨x,m,rfl,hx,hm⟩
  | some q =>
   have hqs := Qb hq
   rw [hq] at hm
   rw [Ak hm,Bool.not_true,xJ]
   refine yP (yZ hb a1 _) fun v c2 a2 ⟨n,e,n0,n1⟩ => ?_
   subst e
   have n1 := n1 (by omega)
   rw [ye,yb,yf,yb,yh,yb,ye,yb,ye,yo,yo]
   refine yP (Iz hb hx.fits n0 (by omega) a2 (m := q) hqs) fun v c3 a3 ⟨m,e,hm⟩ => ?_
   subst e
   rw [xu,yb,yg,yb,ye,yb,ye,yb,ye,yb,ye,yb,ye,yb,ye,yb,ye,yo,yb,yf,yb,yh,yb,ye,yb,ye,yo,yo]
   exact yQ a3 ⟨x,m,rfl,hx,hm⟩
end
end
end Go.Eng
/-! draws of machines,mostly right -/
namespace Go.Eng
open Go.Proofs Go.Proofs.Tryz
set_option maxHeartbeats 4000000
set_option maxRecDepth 10000

noncomputable def Any (n : Nat) (X : D) (l : List D) : Prop := X = .rs (n,0) l \/ X = .os (n,0) l
theorem LP {n : Nat} {X : D} {l : List D} (h : Any n X l) {R : Type} (K : List D -> Option R) : mc (n,0) X K = K l := by
 rcases h with rfl | rfl
 ·rw [yd]
 ·rw [yc]
noncomputable def aag (v : D) : Prop := ∃ (x : Cd) (m : Mc) (X1 X2 X3 Y : D),v = .tup [.agg [X1,X2,X3],.agg [Y,iN m.at',iN m.s,iN m.e,iN m.d,iN m.state,iN m.ask,iN m.arg]] /\ Any 5 X1 (x.pool.map eN) /\ Any 4 X2 (x.list.map eIn) /\ Any 3 X3 (x.defs.map eDf) /\ Any 5 Y (m.pool.map eN) /\ SomeC x /\ SomeM m
section
variable {b : List Int}
theorem YH (hb : b.length < 4611686018427387904) {c : Int × Int} (h : zH b c) : Cj b aag (V 52 [eC b c]) := by
 rw [TE]
 refine yP (aao hb h) fun v c1 a1 ⟨x,m,e,hx,hm⟩ => ?_
 subst e
 have hs := Qr hx
 have hl := hm.len
 rw [xw,yb,xu,yb,yd,yb,yd,yb,yd,yo,yb,xu,yb,yc,yb,ye,yb,ye,yb,ye,yb,ye,yb,ye,yb,ye,yb,ye,yo,yo,yb,yf,yb,yh,yb,ye,yb,ye,yo,yo]
 refine yP (yZ hb a1 _) fun v c2 a2 ⟨n,e,n0,n1⟩ => ?_
 subst e
 rw [ye,yb,yf,yb,yh,yb,ye,yb,ye,yo,yo]
 refine y0 (fun _ => ?_) fun _ => y0 (fun _ => ?_) fun _ => y0 (fun _ => ?_) fun _ => y0 (fun _ => ?_) fun _ => y0 (fun _ => ?_) fun _ => y0 (fun _ => ?_) fun _ => y0 (fun _ => ?_) fun _ => y0 (fun _ => ?_) fun _ => y0 (fun _ => ?_) fun _ => ?_
 ·refine yP (yZ hb a2 _) fun v c3 a3 ⟨u,e,u0,u1⟩ => ?_
  subst e
  rw [ye,yb,yf,yb,yh,yb,ye,yb,ye,yo,yo]
  refine yP (FT hb a3 [-1,0,w6 (ni (x.list.map eIn).length - 1),ni (x.list.map eIn).length,u] (by simp)) fun v c4 a4 ⟨w,e,_⟩ => ?_
  subst e
  rw [ye,yb,yf,yb,yh,yb,ye,yb,ye,yo,yo]
  exact yQ a4 ⟨x,⟨m.pool,w,m.s,m.e,m.d,m.state,m.ask,m.arg⟩,_,_,_,_,rfl,.inl rfl,.inl rfl,.inl rfl,.inl rfl,hs,⟨hm.fits,hm.len⟩⟩
 ·refine yP (yZ hb a2 _) fun v c3 a3 ⟨w,e,u0,u1⟩ => ?_
  subst e
  rw [ye,yb,yf,yb,yh,yb,ye,yb,ye,yo,yo]
  exact yQ a3 ⟨x,⟨m.pool,m.at',m.s,m.e,m.d,w,m.ask,m.arg⟩,_,_,_,_,rfl,.inl rfl,.inl rfl,.inl rfl,.inl rfl,hs,⟨hm.fits,hm.len⟩⟩
 ·refine yP (yZ hb a2 _) fun v c3 a3 ⟨w,e,u0,u1⟩ => ?_
  subst e
  rw [ye,yb,yf,yb,yh,yb,ye,yb,ye,yo,yo]
  exact yQ a3 ⟨x,⟨m.pool,m.at',m.s,m.e,m.d,m.state,w,m.arg⟩,_,_,_,_,rfl,.inl rfl,.inl rfl,.inl rfl,.inl rfl,hs,⟨hm.fits,hm.len⟩⟩
 ·refine yP (XT hb a2 (p := m.pool) (by omega)) fun v c3 a3 ⟨w,e,u0,u1⟩ => ?_
  subst e
  rw [ye,yb,yf,yb,yh,yb,ye,yb,ye,yo,yo]
  exact yQ a3 ⟨x,⟨m.pool,m.at',m.s,m.e,m.d,m.state,m.ask,w⟩,_,_,_,_,rfl,.inl rfl,.inl rfl,.inl rfl,.inl rfl,hs,⟨hm.fits,hm.len⟩⟩
 ·refine yP (XT hb a2 (p := m.pool) (by omega)) fun v c3 a3 ⟨w,e,u0,u1⟩ => ?_
  subst e
  rw [ye,yb,yf,yb,yh,yb,ye,yb,ye,yo,yo]
  exact yQ a3 ⟨x,⟨m.pool,m.at',w,m.e,m.d,m.state,m.ask,m.arg⟩,_,_,_,_,rfl,.inl rfl,.inl rfl,.inl rfl,.inl rfl,hs,⟨hm.fits,hm.len⟩⟩
 ·refine yP (XT hb a2 (p := m.pool) (by omega)) fun v c3 a3 ⟨w,e,u0,u1⟩ => ?_
  subst e
  rw [ye,yb,yf,yb,yh,yb,ye,yb,ye,yo,yo]
  exact yQ a3 ⟨x,⟨m.pool,m.at',m.s,w,m.d,m.state,m.ask,m.arg⟩,_,_,_,_,rfl,.inl rfl,.inl rfl,.inl rfl,.inl rfl,hs,⟨hm.fits,hm.len⟩⟩
 ·refine yP (XT hb a2 (p := m.pool) (by omega)) fun v c3 a3 ⟨w,e,u0,u1⟩ => ?_
  subst e
  rw [ye,yb,yf,yb,yh,yb,ye,yb,ye,yo,yo]
  exact yQ a3 ⟨x,⟨m.pool,m.at',m.s,m.e,w,m.state,m.ask,m.arg⟩,_,_,_,_,rfl,.inl rfl,.inl rfl,.inl rfl,.inl rfl,hs,⟨hm.fits,hm.len⟩⟩
 ·refine yP (YG hb a2) fun v c3 a3 ⟨y,e,hy⟩ => ?_
  subst e
  rw [xu,yb,yg,yb,yg,yb,yg,yo,yb,yf,yb,yh,yb,ye,yb,ye,yo,yo]
  exact yQ a3 ⟨y,m,_,_,_,_,rfl,.inr rfl,.inr rfl,.inr rfl,.inl rfl,hy,hm⟩
 ·refine yP (XW hb a2) fun v c3 a3 ⟨p,e,hp,hpl⟩ => ?_
  subst e
  rw [xu,yb,yg,yo,yb,yf,yb,yh,yb,ye,yb,ye,yo,yo]
  exact yQ a3 ⟨x,⟨p,m.at',m.s,m.e,m.d,m.state,m.ask,m.arg⟩,_,_,_,_,rfl,.inl rfl,.inl rfl,.inl rfl,.inr rfl,hs,⟨RZ hp,VY hpl⟩⟩
 ·exact yQ a2 ⟨x,m,_,_,_,_,rfl,.inl rfl,.inl rfl,.inl rfl,.inl rfl,hs,hm⟩
theorem ZG (hb : b.length < 4611686018427387904) {c : Int × Int} (h : zH b c) : Cj b (fun v => ∃ n : Int,v = iN n) (V 53 [eC b c]) := by
 rw [Mo]
 refine yP (yZ hb h _) fun v c2 a2 ⟨n,e,n0,n1⟩ => ?_
 subst e
 rw [ye,yb,yf,yb,yh,yb,ye,yb,ye,yo,yo]
 refine y0 (fun _ => ?_) fun _ => y0 (fun _ => yQ a2 ⟨_,rfl⟩) fun _ => ?_
 ·refine yP (FT hb a2 [-1,0,1,2000,2001] (by simp)) fun v c4 a4 ⟨w,e,_⟩ => ?_
  subst e
  rw [ye,yb,yf,yb,yh,yb,ye,yb,ye,yo,yo]
  exact yQ a4 ⟨w,rfl⟩
 ·refine yP (yZ hb a2 _) fun v c4 a4 ⟨w,e,_⟩ => ?_
  subst e
  rw [ye,yb,yf,yb,yh,yb,ye,yb,ye,yo,yo]
  exact yQ a4 ⟨w,rfl⟩
theorem YI (hb : b.length < 4611686018427387904) : ∃ (x : Cd) (m : Mc) (n : Int),V 13 [.rs (1,0) (b.map eB)] = some (.tup [eCd x,eMc m,iN n],[]) /\ SomeC x /\ SomeM m := by
 obtain ⟨c,e,hc⟩ := aam hb
 have h : Got (fun v l => l = [] /\ ∃ (x : Cd) (m : Mc) (n : Int),v = .tup [eCd x,eMc m,iN n] /\ SomeC x /\ SomeM m) (V 13 [.rs (1,0) (b.map eB)]) := by
  rw [Nv]
  refine Mq e ?_
  rw [yf,yb,yh,yb,ye,yb,ye,yo,yo]
  refine yP (YH hb hc) fun v c1 a1 ⟨x,m,X1,X2,X3,Y,e,h1,h2,h3,h4,hx,hm⟩ => ?_
  subst e
  rw [xw,yb,xu,yb,LP h1,yb,LP h2,yb,LP h3,yo,yb,xu,yb,LP h4,yb,ye,yb,ye,yb,ye,yb,ye,yb,ye,yb,ye,yb,ye,yo,yo,yb,yf,yb,yh,yb,ye,yb,ye,yo,yo]
  refine yP (ZG hb a1) fun v c3 a3 ⟨n,e⟩ => ?_
  subst e
  rw [ye,yb,yf,yb,yh,yb,ye,yb,ye,yo,yo]
  exact ZL ⟨rfl,x,m,n,rfl,hx,hm⟩
 obtain ⟨v,l,e,rfl,x,m,n,rfl,hx,hm⟩ := h
 exact ⟨x,m,n,e,hx,hm⟩
end
end Go.Eng
/-! a run in parts: the law -/
namespace Go.Eng
open Go.Proofs Go.Proofs.Tryz
set_option maxHeartbeats 4000000

theorem Qn {c : Cd} : ∀ (k : Nat) {m : Mc},Bm c m = true -> Bm c (zl c k m).1 = true
 | 0,m,h => h
 | k + 1,m,h => by
  unfold zl
  by_cases h0 : m.state = 0
  ·rw [if_pos h0]
   have s1 := MY h h0
   refine Qn k ?_
   unfold zn
   split
   ·exact s1
   ·exact Uq s1
  ·rw [if_neg h0]; exact h
theorem Qu {c : Cd} : ∀ (cut K : Nat) (m : Mc),cut <= (zl c K m).2 -> (zl c cut m).2 = cut /\ zl c ((zl c K m).2 - cut) (zl c cut m).1 = ((zl c K m).1,(zl c K m).2 - cut)
 | 0,0,m,h => ⟨rfl,rfl⟩
 | 0,K + 1,m,h => by
  refine ⟨rfl,?_⟩
  have e0 : (zl c 0 m).1 = m := rfl
  rw [e0,Nat.sub_zero]
  by_cases h0 : m.state = 0
  ·have e : zl c (K + 1) m = ((zl c K (zn (Az c m))).1,(zl c K (zn (Az c m))).2 + 1) := by rw [zl,if_pos h0]
   have ih := (Qu (c := c) 0 K (zn (Az c m)) (Nat.zero_le _)).2
   have e1 : (zl c 0 (zn (Az c m))).1 = zn (Az c m) := rfl
   rw [e1,Nat.sub_zero] at ih
   rw [e]
   simp only
   rw [zl,if_pos h0,ih]
  ·have e : zl c (K + 1) m = (m,0) := by rw [zl,if_neg h0]
   rw [e]
   rfl
 | cut + 1,0,m,h => by
  have : (zl c 0 m).2 = 0 := rfl
  omega
 | cut + 1,K + 1,m,h => by
  by_cases h0 : m.state = 0
  ·have e : zl c (K + 1) m = ((zl c K (zn (Az c m))).1,(zl c K (zn (Az c m))).2 + 1) := by rw [zl,if_pos h0]
   have e2 : zl c (cut + 1) m = ((zl c cut (zn (Az c m))).1,(zl c cut (zn (Az c m))).2 + 1) := by rw [zl,if_pos h0]
   rw [e] at h
   simp only at h
   obtain ⟨i1,i2⟩ := Qu (c := c) cut K (zn (Az c m)) (by omega)
   rw [e,e2]
   simp only
   rw [Nat.add_sub_add_right]
   exact ⟨by omega,i2⟩
  ·have e : zl c (K + 1) m = (m,0) := by rw [zl,if_neg h0]
   rw [e] at h
   simp only at h
   omega
theorem ZW {c : Cd} : ∀ (k : Nat) (m : Mc),(zl c k m).2 <= k
 | 0,m => Nat.le_refl _
 | k + 1,m => by
  unfold zl
  by_cases h0 : m.state = 0
  ·rw [if_pos h0]; have := ZW (c := c) k (zn (Az c m)); simp only; omega
  ·rw [if_neg h0]; simp
set_option maxRecDepth 100000 in
theorem YA {x : D} (h : ShapeV prog 22 x) : ∃ b : List Int,x = .rs (1,0) (b.map eB) /\ b.length < 4611686018427387904 /\ ∀ n ∈ b,0 <= n /\ n <= 255 := by
 obtain ⟨ys,hs,rfl⟩ := h
 obtain ⟨bs,rfl,h1,h2⟩ := hs.slice Tryz.underlying22 (show zOf prog 5 = some (1,0) by kernel_rfl)
 obtain ⟨l,rfl,hl⟩ := sw (enc := eB) (p := fun n : Int => 0 <= n /\ n <= 255) (ys := bs) (fun x hx => by
  obtain ⟨ps,hs,rfl⟩ := h2 x hx
  obtain ⟨n,rfl,hw⟩ := hs.int Tryz.underlying5
  exact ⟨n,sn Tryz.underlying5,wf8 hw⟩)
 have hby : prog.bytesOf 5 = 1 := by kernel_rfl
 have hr : reachBytes = 140737488351232 := rfl
 rw [hby,lnM] at h1
 exact ⟨l,by rw [wv Tryz.underlying22],by omega,hl⟩
theorem acb {b : List Int} (hb : b.length < 4611686018427387000) (h8 : ∀ n ∈ b,0 <= n /\ n <= 255) {i : Int} (h0 : 0 <= i) (h1 : i < 1000) : ∃ v : Int,V 16 [.rs (1,0) (b.map eB),iN i] = some (iN v,[]) /\ 0 <= v /\ v <= 255 := by
 rw [ZI,lnM]
 by_cases h : i < (b.length : Int)
 ·obtain ⟨x,hx⟩ := xx (l := b) (i := i.toNat) (by omega)
  obtain ⟨x0,x1⟩ := h8 x (List.mem_of_getElem? hx)
  refine ⟨x,?_,x0,x1⟩
  rw [xK (decide_eq_true h),yu (by simp only [ni,Bool.and_eq_true,decide_eq_true_eq]; omega),xW hx]
  show (asI .u8 (D.int .u8 x) fun n1 => some (iN (w6 n1),([] : List D))) = _
  rw [ye,w64 (by omega) (by omega)]
 ·refine ⟨Int.tmod (w6 (w6 (i * 7) + ni b.length)) 256,?_,?_⟩
  ·rw [xb (decide_eq_false h),yu (by decide)]
  ·rw [w64 (n := i * 7) (by omega) (by omega),w64 (n := i * 7 + ni b.length) (by simp only [ni]; omega) (by simp only [ni]; omega)]
   have : 0 <= i * 7 + ni b.length := by simp only [ni]; omega
   rw [Int.tmod_eq_emod_of_nonneg this]
   omega
theorem Vq {b : List Int} (hb : b.length < 4611686018427387904) (h8 : ∀ n ∈ b,0 <= n /\ n <= 255) : V 10 [.rs (1,0) (b.map eB)] = some (.bool true,[]) := by
 rw [QO,ZR (abn b)]
 cases hbig : decide ((b.length : Int) > 1048576) with
 | true => rfl
 | false =>
  have hbig := of_decide_eq_false hbig
  obtain ⟨x,m,steps,hd,hx,hm⟩ := YI hb
  have hl := hm.len
  have k1 := Ic hx.fits hm.fits (by omega) steps
  have k2 := Rl hx.fits hm.fits (by omega) steps
  have k3 := B9 hx.fits hm.fits (by omega)
  have hne : ∀ z : Int,(z != z) = false := fun z => by simp
  obtain ⟨v,hv,v0,v1⟩ := acb (b := b) (by omega) h8 (i := 1) (by omega) (by omega)
  rw [xJ]
  refine (xh hd _).trans ?_
  rw [xw,yb,xu,yb,yd,yb,yd,yb,yd,yo,yb,xu,yb,yd,yb,ye,yb,ye,yb,ye,yb,ye,yb,ye,yb,ye,yb,ye,yo,yb,ye,yo,yo]
  try dsimp only
  rw [J8 k1,VK k2,xb (hne _),Dv k3]
  unfold Wd
  cases hok : Bm x m with
  | false =>
   rw [Bool.not_false,yk,if_neg (by decide)]
   rfl
  | true =>
   rw [Bool.not_true,xJ,if_pos rfl,aay hv]
   have hle := ZW (c := x) (mnI steps 2000).toNat m
   have hmn : mnI steps 2000 <= 2000 := by unfold mnI; split <;> omega
   generalize hr : zl x (mnI steps 2000).toNat m = r at hle ⊢
   have hn : (r.2 : Int) <= 2000 := by omega
   have hcut : Int.tmod v ((r.2 : Int) + 1) = v % ((r.2 : Int) + 1) := Int.tmod_eq_emod_of_nonneg v0
   obtain ⟨cut,hc⟩ := Int.eq_ofNat_of_zero_le (Int.emod_nonneg v (show ((r.2 : Int) + 1) ≠ 0 by omega))
   have hc2 : v % ((r.2 : Int) + 1) < (r.2 : Int) + 1 := Int.emod_lt_of_pos v (by omega)
   rw [w64 (n := (r.2 : Int) + 1) (by omega) (by omega),hcut,hc]
   rw [hc] at hc2
   obtain ⟨p1,p2⟩ := Qu (c := x) cut (mnI steps 2000).toNat m (by rw [hr]; omega)
   rw [hr] at p2
   have hbok := Qn (c := x) cut hok
   obtain ⟨b1,b2,b3,_⟩ := CN hbok
   have m1 : (mnI (cut : Int) 2000).toNat = cut := by unfold mnI; split <;> omega
   have m2 : (mnI ((r.2 : Int) - cut) 2000).toNat = r.2 - cut := by unfold mnI; split <;> omega
   have j1 := Ic hx.fits hm.fits (by omega) (cut : Int)
   have j2 := Ic hx.fits (DF b2) (by omega) ((r.2 : Int) - cut)
   unfold Wd at j1 j2
   rw [if_pos hok,m1,p1] at j1
   rw [if_pos hbok,m2,p2] at j2
   have e3 : (((r.2 - cut : Nat) : Int)) = (r.2 : Int) - cut := by omega
   rw [yu (by simp; omega),J8 j1,w64 (n := (r.2 : Int) - (cut : Int)) (by omega) (by omega),J8 j2,xK (yF rfl),xK (yF e3),xK (yF rfl),xK (yF rfl),xK (yF rfl),yF rfl]
theorem Su (xs : List D) (h : All2 (fun t x => ShapeV Tryz.prog t x) Tryz.f10.params.toList xs) : V 10 xs = some (.bool true,[]) := by
 rw [Tryz.params10] at h
 cases h with | cons h1 h =>
 cases h
 obtain ⟨b,rfl,hb,h8⟩ := YA h1
 exact Vq hb h8
end Go.Eng
