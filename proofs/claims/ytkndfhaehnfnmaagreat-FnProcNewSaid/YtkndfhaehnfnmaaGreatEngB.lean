/- An interpreter of the model's code over pure data,proved against the model: part 2. No conditions. -/
import Derived.Test.YtkndfhaehnfnmaaGreatEngA
import Derived.Laws.Slices
import Derived.Laws.BytesArg
set_option linter.unusedVariables false
namespace Go.Eng
noncomputable section
def aU (l : Option Int) : Nat := (l.getD 0).toNat
def aM (n : Nat) (h : Option Int) : Nat := match h with | none => n | some h => h.toNat
def jk (v : Option Value) (l : Option Int) : Prop := (v = none /\ l = none) \/ ∃ k n,v = some (.int k n) /\ l = some n
theorem d5 {n : Nat} {l h : Option Int} (hc : cW n l h = true) : aU l <= aM n h /\ aM n h <= n /\ (∀ x,l = some x -> 0 <= x /\ x <= (aM n h : Int)) /\ (∀ x,h = some x -> 0 <= x /\ x <= (n : Int)) := by
 cases l <;> cases h <;> simp [cW,aU,aM] at hc ⊢ <;> omega
section
variable {P : Program} {w : World}
theorem mi {isS : Bool} {n cap : Nat} {lo hi : Option Value} {l h : Option Int} (hlo : jk lo l) (hhi : jk hi h) (hc : cW n l h = true) (hn : n <= cap) :
  (Instr.sliceBounds isS n cap lo hi none).run P w = .ok (aU l,aM n h,cap) w := by
 obtain ⟨h1,h2,h3,h4⟩ := d5 hc
 rcases hlo with ⟨rfl,rfl⟩ | ⟨k,x,rfl,rfl⟩ <;> rcases hhi with ⟨rfl,rfl⟩ | ⟨k',y,rfl,rfl⟩
 ·simp [Instr.sliceBounds,aU,aM]
 ·have := h4 y rfl
  simp [Instr.sliceBounds,aU,aM,run_sliceBound_if,show 0 <= y /\ y <= (cap : Int) by omega]
 ·have := h3 x rfl
  simp only [aM] at this
  simp [Instr.sliceBounds,aU,aM,run_sliceBound_if,this]
 ·have a1 := h4 y rfl
  have a2 := h3 x rfl
  simp only [aM] at a2
  have e : (y.toNat : Int) = y := Int.toNat_of_nonneg a1.1
  rw [e] at a2
  simp [Instr.sliceBounds,aU,aM,run_sliceBound_if,show 0 <= y /\ y <= (cap : Int) by omega,a2,e]
theorem kN {t e : TypeId} {sz n cap : Nat} {a : Option Addr} {lo hi : Option Value} {l h : Option Int} (hu : P.underlying t = some (.slice e)) (hs : tsz P e = some sz) (hlo : jk lo l) (hhi : jk hi h) (hc : cW n l h = true) (hn : n <= cap) :
  (Instr.sliceAt t (.slice a n cap) lo hi none).run P w = .ok (.slice (if cap = aU l then a else a.map (·.add (aU l * sz))) (aM n h - aU l) (cap - aU l)) w := by
 simp [Instr.sliceAt,Instr.slice,run_underlying hu,mi hlo hhi hc hn,aP hs]
theorem nK {t : TypeId} {s : ByteArray} {lo hi : Option Value} {l h : Option Int} (hu : P.underlying t = some .string) (hlo : jk lo l) (hhi : jk hi h) (hc : cW s.size l h = true) :
  (Instr.sliceAt t (.string s) lo hi none).run P w = .ok (.string (s.extract (aU l) (aM s.size h))) w := by
 simp [Instr.sliceAt,Instr.slice,run_underlying hu,mi hlo hhi hc (Nat.le_refl _)]
theorem oz {xs : List D} {l h : Option Int} (hc : cW xs.length l h = true) : sm xs l h = (xs.drop (aU l)).take (aM xs.length h - aU l) := by
 obtain ⟨h1,h2,h3,h4⟩ := d5 hc
 cases l <;> cases h <;> simp only [sm,wu,wt,aU,aM,Option.getD_none,Option.getD_some] at *
 ·simp
 ·simp
 ·rw [List.take_of_length_le]; rw [List.length_drop]; exact Nat.le_refl _
 ·rw [List.drop_take]
theorem pt {lc : Loc} {z n m cap : Nat} {rng : Option (Nat × Nat)} {a : Option Addr} {l h : Option Int} (hm : bz n rng = m) (hs : dI lc z n rng (.slice a m cap)) (hc : cW m l h = true) :
  m <= cap /\ dI lc z n (jM m rng l h) (.slice (if cap = aU l then a else a.map (·.add (aU l * z))) (aM m h - aU l) (cap - aU l)) := by
 obtain ⟨h1,h2,h3,h4⟩ := d5 hc
 -- the whole
 by_cases hno : l = none /\ h = none
 ·obtain ⟨rfl,rfl⟩ := hno
  have e : jM m rng none none = rng := by cases rng <;> rfl
  rw [e]
  simp only [aU,aM,Option.getD_none,Int.toNat_zero,Nat.sub_zero,Nat.zero_mul]
  cases lc with
  | nil =>
   have : cap = 0 := by
    cases rng with
    | none => obtain ⟨_,a',h⟩ := hs; injection h
    | some p => obtain ⟨o,q⟩ := p; obtain ⟨_,_,_,a',h⟩ := hs; injection h
   subst this
   have hm0 : m = 0 := by
    cases rng with
    | none => obtain ⟨_,a',h⟩ := hs; injection h
    | some p => obtain ⟨o,q⟩ := p; obtain ⟨_,_,_,a',h⟩ := hs; injection h
   exact ⟨by omega,by simpa using hs⟩
  | «at» b base sz =>
   cases rng with
   | none =>
    obtain ⟨ad,cap',hv,hcp,had⟩ := hs
    injection hv with e1 e2 e3
    subst e1 e2 e3
    refine ⟨hcp,?_⟩
    by_cases hc0 : cap = 0
    ·simp only [hc0,if_true]; exact ⟨ad,0,rfl,by omega,by omega⟩
    ·obtain ⟨rfl,hle⟩ := had (by omega)
     simp only [hc0,if_false,Option.map_some,cH,Nat.add_zero]
     exact ⟨_,cap,rfl,hcp,had⟩
   | some p =>
    obtain ⟨o,q⟩ := p
    obtain ⟨h0,ad,cap',hv,⟨hcp,hcn⟩,had⟩ := hs
    injection hv with e1 e2 e3
    subst e1 e2 e3
    refine ⟨hcp,?_⟩
    by_cases hc0 : cap = 0
    ·simp only [hc0,if_true]; exact ⟨h0,ad,0,rfl,⟨by omega,by omega⟩,by omega⟩
    ·obtain ⟨rfl,hle⟩ := had (by omega)
     simp only [hc0,if_false,Option.map_some,cH,Nat.add_zero]
     exact ⟨h0,_,cap,rfl,⟨hcp,hcn⟩,had⟩
 ·have e : jM m rng l h = some ((rng.getD (0,n)).1 + aU l,aM m h - aU l) := by
   cases rng with
   | none => cases l <;> cases h <;> simp_all [jM,aU,aM,bz]
   | some p =>
    obtain ⟨o,q⟩ := p
    simp only [bz] at hm; subst hm
    cases l <;> cases h <;> simp_all [jM,aU,aM]
  rw [e]
  cases lc with
  | nil =>
   have key : cap = 0 /\ m = 0 /\ n = 0 /\ (rng.getD (0,n)).1 = 0 := by
    cases rng with
    | none => obtain ⟨hn,a',h⟩ := hs; injection h with e1 e2 e3; exact ⟨e3,e2,hn,rfl⟩
    | some p => obtain ⟨o,q⟩ := p; obtain ⟨ho,_,hn,a',h⟩ := hs; injection h with e1 e2 e3; exact ⟨e3,e2,hn,ho⟩
   obtain ⟨rfl,rfl,rfl,ho⟩ := key
   have hl0 : aU l = 0 := by omega
   have hh0 : aM 0 h = 0 := by omega
   rw [hl0,hh0]
   exact ⟨Nat.le_refl _,by rw [ho],rfl,rfl,_,rfl⟩
  | «at» b base sz =>
   have key : (rng.getD (0,n)).1 + m <= n /\ ∃ ad,a = some ad /\ m <= cap /\ n <= (rng.getD (0,n)).1 + cap /\ (0 < cap -> ad = ⟨b,base + (rng.getD (0,n)).1 * z,none⟩ /\ base + (rng.getD (0,n)).1 * z + cap * z <= sz) := by
    cases rng with
    | none =>
     obtain ⟨ad,cap',hv,hcp,had⟩ := hs
     injection hv with e1 e2 e3
     subst e1 e3
     exact ⟨by simp; omega,ad,rfl,by omega,by simp; omega,fun h => by simpa using had h⟩
    | some p =>
     obtain ⟨o,q⟩ := p
     obtain ⟨h0,ad,cap',hv,⟨hcp,hcn⟩,had⟩ := hs
     injection hv with e1 e2 e3
     subst e1 e2 e3
     exact ⟨h0,ad,rfl,hcp,hcn,had⟩
   obtain ⟨k1,ad,rfl,k2,k3,k4⟩ := key
   refine ⟨k2,?_⟩
   by_cases hcl : cap = aU l
   ·simp only [hcl,if_true,Nat.sub_self]
    exact ⟨by omega,ad,0,rfl,⟨by omega,by omega⟩,by omega⟩
   ·obtain ⟨rfl,k5⟩ := k4 (by omega)
    simp only [hcl,if_false,Option.map_some,cH]
    refine ⟨by omega,_,cap - aU l,rfl,⟨by omega,by omega⟩,fun _ => ⟨by rw [Nat.add_mul,Nat.add_assoc],?_⟩⟩
    have : cap = aU l + (cap - aU l) := by omega
    rw [this,Nat.add_mul] at k5
    rw [Nat.add_mul]; omega
end
section ops
variable {P : Program} {cf : Cfg} {call : Nat -> List D -> Option Ret} {n : Nat} {o : Oper} {σ : St} {R : Type} {K : A -> Ups -> List Nat -> Option R} {r : R}
theorem uN {h : Ups} {loc : Nat -> Loc} {B : Nat -> Prop} {w : World} {a : A} {v : Value} {m : Nat} {f : List Nat} (ha : aJ w B h loc a v) (hl : lenOf h a = some (m,f)) : ∃ base cap,v = .slice base m cap := by
 cases a with
 | d y =>
  cases y with
  | nl => simp only [lenOf] at hl; cases hl; exact ⟨none,0,rep_nl.1 ha⟩
  | rs z xs =>
   simp only [lenOf] at hl; cases hl
   have h2 := ha.2
   simp only [ac,true_and] at h2
   rcases h2 with ⟨rfl,ad,cap,hv⟩ | ⟨b,off,cap,hv,_⟩
   ·exact ⟨ad,cap,hv⟩
   ·exact ⟨_,cap,hv⟩
  | _ => simp [lenOf] at hl
 | asl id rng =>
  obtain ⟨_,ob,hob,hb⟩ := rep_asl.1 ha
  have key : ∀ blk xs',ae h id = some blk -> aI blk = some xs' -> ∃ base cap,v = .slice base (bz xs' rng) cap := by
   intro blk xs' hg hl
   rw [hget_some.1 hg] at hob; cases hob
   obtain ⟨q,hq,hs⟩ := hb _ rfl
   rw [hl] at hq; cases hq
   rcases cz hs with ⟨_,_,h0,ad,hv⟩ | ⟨b,base,sz,ad,cap,_,hv,_⟩
   ·exact ⟨ad,0,by rw [hv,h0]⟩
   ·exact ⟨_,cap,hv⟩
  simp only [lenOf] at hl
  split at hl
  ·rename_i hg; cases hl; exact key _ _ hg rfl
  ·rename_i hg; cases hl; exact key _ _ hg rfl
  ·cases hl
 | _ => simp [lenOf] at hl
theorem q9 {h h' : Ups} {a : A} {m : Nat} {f : List Nat} (hl : lenOf h a = some (m,f)) (e : ∀ id ∈ f,hfind h' id = hfind h id) : lenOf h' a = some (m,f) := by
 cases a with
 | asl id rng =>
  simp only [lenOf] at hl ⊢
  have key : ∀ b,ae h id = some b -> f = [id] -> ae h' id = some b := fun b hb hf => by rw [am (e id (by simp [hf])),hb]
  split at hl
  ·rename_i hg; cases hl; rw [key _ hg rfl]
  ·rename_i hg; cases hl; rw [key _ hg rfl]
  ·cases hl
 | d y => cases y <;> (first | (simp [lenOf] at hl; done) | simpa [lenOf] using hl)
 | _ => simp [lenOf] at hl
theorem wc {x : Operand} {t e : TypeId} {m : Nat} {f : List Nat} {c : Call} (ho : o.op = .call c) (hc : c.callee = .builtin .len) (ha : c.args.toList = [x]) (ht : c.argTypes.toList = [t]) (hu : P.underlying t = some (.slice e))
  (hx : lenOf σ.heap (ev σ x) = some (m,f)) (h : K (.d (.int .i64 (m : Int))) [] f = some r) : bc P n o σ K r :=
 ⟨_,_,_,h,Sound.pure fun hh a w loc B hv hf => by
  have ha' : c.args = #[x] := by rw [<- ha]
  have ht' : c.argTypes = #[t] := by rw [<- ht]
  have h1 := hv x (by simp [ho,Op.operands,Call.operands,hc,ha'])
  obtain ⟨base,cap,hval⟩ := uN h1 (q9 hx hf)
  exact ⟨.int .i64 (m : Int),by simp [execOp,ho,resolve,hc,ha',ht',invoke,builtin,Builtin.len_,run_underlying hu,hval,goInt],rep_int.2 rfl⟩⟩
theorem jZ {h : Ups} {loc : Nat -> Loc} {B : Nat -> Prop} {w : World} {a : Act} {lo : Option Operand} {l : Option Int} (hl : gz σ lo = some l) (hr : ∀ x ∈ lo.toList,aJ w B h loc (ev σ x) (a.eval x)) : jk (lo.map a.eval) l := by
 cases lo with
 | none => simp [gz] at hl; exact .inl ⟨rfl,hl.symm⟩
 | some x =>
  simp only [gz] at hl
  split at hl
  ·rename_i k m hx
   cases hl
   have := hr x (by simp)
   rw [hx,rep_int] at this
   exact .inr ⟨k,m,by simp [this],rfl⟩
  ·cases hl
theorem iQ {t : TypeId} {x : Operand} {lo hi : Option Operand} (ho : o.op = .slice t x lo hi none) {w : World} {B : Nat -> Prop} {hh : Ups} {loc : Nat -> Loc} {a : Act} (hr : ∀ y ∈ o.op.operands,aJ w B hh loc (ev σ y) (a.eval y)) {l h : Option Int}
  (hl : gz σ lo = some l) (hh' : gz σ hi = some h) : aJ w B hh loc (ev σ x) (a.eval x) /\ jk (lo.map a.eval) l /\ jk (hi.map a.eval) h := by
 refine ⟨hr x (by simp [ho,Op.operands]),jZ hl (fun y hy => hr y ?_),jZ hh' (fun y hy => hr y ?_)⟩
 ·cases lo <;> simp at hy; subst hy; simp [ho,Op.operands]
 ·cases hi <;> simp at hy; subst hy; cases lo <;> simp [ho,Op.operands]
theorem dt {t : TypeId} {x : Operand} {lo hi : Option Operand} {s : ByteArray} {l h' : Option Int} (ho : o.op = .slice t x lo hi none) (hu : P.underlying t = some .string) (hx : ev σ x = .d (.str s)) (hl : gz σ lo = some l) (hh : gz σ hi = some h')
  (hc : cW s.size l h' = true) (h : K (.d (.str (s.extract (aU l) (aM s.size h')))) [] [] = some r) : bc P n o σ K r :=
 ⟨_,_,_,h,Sound.pure fun hp a w loc B hv hf => by
  obtain ⟨h1,h2,h3⟩ := iQ ho hv hl hh
  rw [hx] at h1
  have h1 := rep_str.1 h1
  exact ⟨.string (s.extract (aU l) (aM s.size h')),by simp [execOp,ho,h1,nK hu h2 h3 hc],rep_str.2 rfl⟩⟩
theorem qy {t e : TypeId} {x : Operand} {lo hi : Option Operand} {z : Z} {xs : List D} {l h' : Option Int} (ho : o.op = .slice t x lo hi none) (hu : P.underlying t = some (.slice e)) (hs : tsz P e = some z.1) (hx : ev σ x = .d (.rs z xs)) (hl : gz σ lo = some l) (hh : gz σ hi = some h')
  (hc : cW xs.length l h' = true) (h : K (.d (.rs z (sm xs l h'))) [] [] = some r) : bc P n o σ K r :=
 ⟨_,_,_,h,Sound.pure fun hp a w loc B hv hf => by
  obtain ⟨h1,h2,h3⟩ := iQ ho hv hl hh
  rw [hx] at h1
  have h4 := h1.2
  obtain ⟨c1,c2,_,_⟩ := d5 hc
  simp only [ac,true_and] at h4
  have hlen : (sm xs l h').length = aM xs.length h' - aU l := by
   rw [oz hc,List.length_take,List.length_drop]; omega
  rcases h4 with ⟨rfl,ad,cap,hv⟩ | ⟨b,off,cap,hv,hcp,hz,hB,he⟩
  ·have e0 : sm [] l h' = [] := by cases l <;> cases h' <;> simp [sm,wu,wt]
   rw [e0] at hlen ⊢
   simp only [lnN] at hlen hc
   have hrun := kN (P := P) (w := w) (a := ad) (cap := cap) hu hs h2 h3 hc (Nat.zero_le _)
   refine ⟨_,by simp only [execOp,ho,hv]; simp only [Option.map_none,Sem.run_bind,hrun,Result.andThen_ok,Sem.run_pure]; rfl,trivial,?_⟩
   simp only [ac,true_and]
   exact .inl ⟨_,_,by rw [<- hlen]⟩
  ·refine ⟨_,by simp only [execOp,ho,hv]; simp [kN (a := some ⟨b,off,none⟩) hu hs h2 h3 hc hcp]; rfl,trivial,?_⟩
   simp only [ac,true_and]
   by_cases h0 : aM xs.length h' - aU l = 0
   ·rw [h0] at hlen ⊢
    exact .inl ⟨List.length_eq_zero_iff.1 hlen,_,_,rfl⟩
   ·obtain ⟨o1,hsub,he1⟩ := nj (k := aU l) (m := aM xs.length h' - aU l) (by omega) he
    have := List.sublist_nil.1 hsub; subst this
    rw [<- oz hc] at he1
    have hne : ¬ cap = aU l := by omega
    refine .inr ⟨b,off + aU l * z.1,cap - aU l,?_,by omega,hz,fun hn => hB (fun e => by rw [e] at h0 c2; simp only [lnN] at h0 c2; omega),he1⟩
    simp only [hne,if_false,cH,hlen]⟩
theorem nW {t e : TypeId} {x : Operand} {lo hi : Option Operand} {z : Z} {id m q : Nat} {rng : Option (Nat × Nat)} {blk : Blk} {l h' : Option Int} (ho : o.op = .slice t x lo hi none) (hu : P.underlying t = some (.slice e)) (hs : tsz P e = some z.1) (hx : ev σ x = .asl id rng)
  (hg : ae σ.heap id = some blk) (hbz : b9 blk = z.1) (hbl : aI blk = some q) (hm : bz q rng = m) (hl : gz σ lo = some l) (hh : gz σ hi = some h')
  (hc : cW m l h' = true) (h : K (.asl id (jM m rng l h')) [] [id] = some r) : bc P n o σ K r :=
 ⟨_,_,_,h,Sound.pure fun hp a w loc B hv hf => by
  obtain ⟨h1,h2,h3⟩ := iQ ho hv hl hh
  rw [hx] at h1
  obtain ⟨⟨ad,q1,cap,hval⟩,ob,hob,hb⟩ := rep_asl.1 h1
  have hg' : ae hp id = some blk := by rw [am (hf id (by simp)),hg]
  have hfd := hget_some.1 hg'
  rw [hfd] at hob; cases hob
  obtain ⟨q',hq',hsl⟩ := hb _ rfl
  rw [hbl] at hq'; cases hq'
  rw [hbz] at hsl
  obtain ⟨ad',cap',hval'⟩ : ∃ base cap,a.eval x = .slice base m cap := by
   rcases cz hsl with ⟨_,_,h0,ad,hv⟩ | ⟨b,base,sz,ad,cap,_,hv,_⟩
   ·exact ⟨ad,0,by rw [hv,<- hm,h0]⟩
   ·exact ⟨_,cap,by rw [hv,hm]⟩
  rw [hval'] at hsl
  obtain ⟨hmc,hs2⟩ := pt hm hsl hc
  have hrun := kN (P := P) (w := w) (a := ad') hu hs h2 h3 hc hmc
  refine ⟨_,by simp only [execOp,ho,hval']; simp only [Option.map_none,Sem.run_bind,hrun,Result.andThen_ok,Sem.run_pure]; rfl,⟨_,_,_,rfl⟩,some blk,hfd,fun blk' hb' => ?_⟩
  cases hb'
  exact ⟨q,hbl,by rw [hbz]; exact hs2⟩⟩
end ops
def vy : D -> Option UInt8 := fun d => match d with | .int .u8 n => some (UInt8.ofNat n.toNat) | _ => none
theorem ri {R : Type} {xs : List D} {K : ByteArray -> Option R} {r : R} (h : gy xs K = some r) : ∃ ns : List Int,xs = ns.map (D.int .u8) /\ K ⟨(ns.map fun n => UInt8.ofNat n.toNat).toArray⟩ = some r := by
 unfold gy at h
 split at h
 case h_2 => cases h
 rename_i l hl
 have key : ∀ (xs : List D) (l : List UInt8),xs.mapM vy = some l -> ∃ ns : List Int,xs = ns.map (D.int .u8) /\ l = ns.map fun n => UInt8.ofNat n.toNat := by
  intro xs
  induction xs with
  | nil => intro l hl; simp at hl; exact ⟨[],rfl,by simp [hl]⟩
  | cons x xs ih =>
   intro l hl
   simp only [List.mapM_cons,Option.bind_eq_bind,Option.bind_eq_some_iff,Option.pure_def,Option.some.injEq] at hl
   obtain ⟨b,hb,l',hl',rfl⟩ := hl
   obtain ⟨ns,rfl,rfl⟩ := ih l' hl'
   unfold vy at hb
   split at hb
   ·rename_i n; cases hb; exact ⟨n :: ns,rfl,rfl⟩
   ·cases hb
 obtain ⟨ns,h1,h2⟩ := key xs l hl
 exact ⟨ns,h1,by rw [<- h2]; exact h⟩
theorem oH {w : World} {B : Nat -> Prop} {z : Z} : ∀ {ns : List Int} {fl : List Value} {o : List Res},aZ w B z (ns.map (D.int .u8)) fl o -> fl = ns.map (Value.int .u8) /\ (ns ≠ [] -> z.1 = 1)
 | [],fl,o,h => ⟨h.1,fun h => absurd rfl h⟩
 | n :: ns,fl,o,h => by
  obtain ⟨vs,fr,o1,o2,rfl,rfl,⟨h1,h2,_⟩,h3⟩ := h
  obtain ⟨e1,_⟩ := oH h3
  simp only [ay,ak] at h1
  obtain ⟨v,vs',p1,p2,rfl,rfl,_,h4,h5⟩ := h1
  simp only [ac] at h4
  rw [h5.1,h4.1,e1]
  exact ⟨rfl,fun _ => by simpa [ay] using h2.symm⟩
section
variable {P : Program} {w : World}
theorem uE {src dst e : TypeId} {base : Option Addr} {cap : Nat} {ns : List Int} (hs : P.underlying src = some (.slice e)) (he : P.underlying e = some (.int .u8)) (hd : P.underlying dst = some .string)
  (hc : ns ≠ [] -> ∃ b off,base = some ⟨b,off,none⟩ /\ cellsAt w b off (ns.map (Value.int .u8))) :
  (convert src dst (.slice base ns.length cap)).run P w = .ok (.string ⟨(ns.map fun n => UInt8.ofNat n.toNat).toArray⟩) w := by
 cases base with
 | none =>
  have hn : ns = [] := Classical.byContradiction fun h => by obtain ⟨b,off,h1,_⟩ := hc h; cases h1
  subst hn
  rw [run_convert_bytes_nil w src e hs he _ _ dst hd]; rfl
 | some a =>
  have hl : (loadCells a ns.length).run P w = .ok (ns.map (Value.int .u8)).toArray w := by
   by_cases hn : ns = []
   ·subst hn; rfl
   ·obtain ⟨b,off,h1,h2⟩ := hc hn
    cases h1
    have := fF (P := P) h2
    simpa using this
  rw [run_convert_bytes_string w src dst e _ _ cap hs he hd,run_bytesToString w _ _ cap ns hl,foldl_push_bytes]
  simp [ByteArray.empty,ByteArray.emptyWithCapacity]
  rfl
end
section ops
variable {P : Program} {cf : Cfg} {call : Nat -> List D -> Option Ret} {n : Nat} {o : Oper} {σ : St} {R : Type} {K : A -> Ups -> List Nat -> Option R} {r : R}
theorem nN {src dst e : TypeId} {x : Operand} {xs : List D} {z : Z} {f : List Nat} (ho : o.op = .convert src dst x) (hs : P.underlying src = some (.slice e)) (he : P.underlying e = some (.int .u8)) (hd : P.underlying dst = some .string)
  (hall : cn σ.heap 1 (ev σ x) = some (xs,z,f)) (hns : ∀ t,ev σ x ≠ .d (.str t)) (h : gy xs (fun s => K (.d (.str s)) [] f) = some r) : bc P n o σ K r := by
 obtain ⟨ns,hx,h'⟩ := ri h
 subst hx
 refine ⟨_,_,_,h',⟨by simp,fun F hh a w loc O who B hr hf hfr st => ?_⟩⟩
 have h1 := hr x (by simp [ho,Op.operands])
 obtain ⟨oo,fl,base,cap,hv,hcp,hel,hcell,_⟩ := gN st h1 (kT hall hf) hns
 obtain ⟨e1,e2⟩ := oH hel
 subst e1
 have hrun := uE (P := P) (w := w) (base := base) (cap := cap) (ns := ns) hs he hd (fun hn => hcell (by simpa using hn))
 rw [lnM] at hv
 exact Runs.value (by simp only [execOp,ho,hv,Sem.run_bind,hrun,Result.andThen_ok,Sem.run_pure]) (Done.pure st (rep_str.2 rfl))
end ops
section
variable {P : Program} {R : Type} {r : R}
def qe (td : TypeDesc) : Prop := (∀ fs,td ≠ .struct fs) /\ ∀ n e,td ≠ .array n e
theorem di {td : TypeDesc} (h : match td with | .struct _ => False | .array _ _ => False | _ => True) : qe td :=
 ⟨fun fs e => by subst e; exact h,fun n e e' => by subst e'; exact h⟩
theorem d4 {own : Bool} {n : Nat} {t : TypeId} {x : D} {K : D -> Option R} (h : kf P own n t x K = some r) : K x = some r /\ bV x /\ (own = false -> cX x) /\ ∃ td,P.underlying t = some td /\ qe td := by
 cases n with
 | zero => simp [kf] at h
 | succ n =>
  simp only [kf] at h
  split at h
  ·rename_i hu
   cases x <;> simp only [asB] at h <;> first | exact ⟨h,trivial,fun _ => trivial,_,hu,di trivial⟩ | cases h
  ·rename_i k hu
   cases x <;> simp only [asI] at h <;> first | cases h | skip
   split at h
   ·rename_i e; subst e; exact ⟨h,trivial,fun _ => trivial,_,hu,di trivial⟩
   ·cases h
  ·rename_i hu
   cases x <;> simp only [asS] at h <;> first | exact ⟨h,trivial,fun _ => trivial,_,hu,di trivial⟩ | cases h
  ·rename_i e hu
   split at h
   ·rename_i z hz
    cases own with
    | true =>
     simp only at h
     cases x <;> simp only [jl] at h <;> first | cases h | skip
     split at h
     ·rename_i e; subst e; exact ⟨h,trivial,fun e => (by cases e),_,hu,di trivial⟩
     ·cases h
    | false =>
     simp only at h
     cases x <;> simp only [kq] at h <;> first | cases h | skip
     split at h
     ·rename_i e; subst e; exact ⟨h,trivial,fun _ => trivial,_,hu,di trivial⟩
     ·cases h
   ·cases h
  ·cases h
theorem gJ {own : Bool} : ∀ {ts : List TypeId} {xs : List D} {K : List D -> Option R},dK P own ts xs K = some r -> K xs = some r /\ (∀ x ∈ xs,bV x /\ (own = false -> cX x)) /\ xs.length = ts.length
 | [],xs,K,h => by
  simp only [dK] at h
  cases xs with
  | nil => exact ⟨h,by simp,rfl⟩
  | cons x xs => simp [unn] at h
 | t :: ts,xs,K,h => by
  simp only [dK] at h
  cases xs with
  | nil => simp [unc] at h
  | cons x xs =>
   simp only [unc] at h
   obtain ⟨h1,h2,h3,_⟩ := d4 h
   obtain ⟨h4,h5,h6⟩ := gJ h1
   refine ⟨h4,?_,by simp [h6]⟩
   intro y hy
   rcases List.mem_cons.1 hy with rfl | hy
   ·exact ⟨h2,h3⟩
   ·exact h5 y hy
theorem iK {w : World} {B : Nat -> Prop} {x : D} {v : Value} {o : List Res} (hx : cX x) (h : ac w B x v o) : o = [] := by
 cases x <;> first | exact hx.elim | (simp only [ac] at h; first | exact h.2 | exact h.1)
theorem kG {w : World} {B : Nat -> Prop} : ∀ {cs : List D} {vs : List Value} {o : List Res} {i : Nat} {c : D},ak w B cs vs o -> cs[i]? = some c -> ∃ v o',vs[i]? = some v /\ bV c /\ ac w B c v o' /\ List.Sublist o' o
 | [],vs,o,i,c,h,hi => by simp at hi
 | d :: cs,vs,o,i,c,h,hi => by
  simp only [ak] at h
  obtain ⟨v,vs',o1,o2,rfl,rfl,h1,h2,h3⟩ := h
  cases i with
  | zero => simp at hi; subst hi; exact ⟨v,o1,rfl,h1,h2,List.sublist_append_left _ _⟩
  | succ i =>
   simp at hi
   obtain ⟨u,o',a1,a2,a3,a4⟩ := kG h3 hi
   exact ⟨u,o',by simpa using a1,a2,a3,a4.trans (List.sublist_append_right _ _)⟩
theorem nf {w : World} {B : Nat -> Prop} {h : Ups} {loc : Nat -> Loc} : ∀ {cs : List D} {vs : List Value} {o : List Res},(∀ x ∈ cs,cX x) -> ak w B cs vs o -> All2 (al w B h loc) (cs.map A.d) vs
 | [],vs,o,_,h => by simp only [ak] at h; rw [h.1]; exact .nil
 | c :: cs,vs,o,hv,h => by
  simp only [ak] at h
  obtain ⟨v,vs',o1,o2,rfl,rfl,h1,h2,h3⟩ := h
  have hc := hv c (by simp)
  have e := iK hc h2
  subst e
  exact .cons ⟨hc,h2⟩ (nf (fun x hx => hv x (by simp [hx])) h3)
theorem ik {w : World} {t : TypeId} {fs : Array Field} {b o : Nat} {vs : List Value} (hu : P.underlying t = some (.struct fs)) (hs : tsz P t = some vs.length) (hc : cellsAt w b o vs) : (loadVar t ⟨b,o,none⟩).run P w = .ok (.agg vs.toArray) w := by
 simp [loadVar,jR hu,aP hs,fF hc]
theorem dC {w : World} {t : TypeId} {td : TypeDesc} {b o : Nat} {v : Value} (hu : P.underlying t = some td) (ht : qe td) (hc : w.cell? ⟨b,o,none⟩ = some v) : (loadVar t ⟨b,o,none⟩).run P w = .ok v w := by
 simp only [loadVar,Sem.run_bind,pc hu ht.1 ht.2,Result.andThen_ok]
 exact vH hc
theorem cq {x : D} {K : List D -> Option R} (h : asAgg x K = some r) : ∃ cs,x = .agg cs /\ K cs = some r := by
 cases x <;> simp only [asAgg] at h <;> first | exact ⟨_,rfl,h⟩ | cases h
theorem dZ {xs : List D} {i : Nat} {K : D -> Option R} (h : cT xs i K = some r) : ∃ x,xs[i]? = some x /\ K x = some r := by
 unfold cT at h
 split at h
 ·rename_i x hx; exact ⟨x,hx,h⟩
 ·cases h
theorem mI {t : TypeId} {z : Z} {e : D} {off : Nat} {K : A -> Option R} (h : eu P t z e off K = some r) : ∃ v,K v = some r /\
  ∀ (w : World) (B : Nat -> Prop) (hh : Ups) (loc : Nat -> Loc) (b o : Nat) (vs : List Value) (os : List Res),bW w B z e vs os -> cellsAt w b o vs -> ∃ val,(loadVar t ⟨b,o + off,none⟩).run P w = .ok val w /\ aJ w B hh loc v val := by
 unfold eu at h
 split at h
 ·rename_i ht
  split at h
  ·rename_i h1
   simp only [Bool.and_eq_true,decide_eq_true_eq] at h1
   obtain ⟨h2,h3,h4,td,hu,htd⟩ := d4 h
   refine ⟨_,h2,fun w B hh loc b o vs os he hc => ?_⟩
   have hv := h4 rfl
   have hcd : ay e = [e] := by cases e <;> first | rfl | exact h3.elim
   obtain ⟨he1,_,_⟩ := he
   rw [hcd] at he1
   obtain ⟨v,rfl,_,hr⟩ := repDs_one.1 he1
   have e0 := iK hv hr
   subst e0
   rw [h1.2,Nat.add_zero]
   exact ⟨v,dC hu htd (cellsAt_one.1 hc),hv,hr⟩
  ·obtain ⟨cs,rfl,h⟩ := cq h
   obtain ⟨c,hi,h⟩ := dZ h
   obtain ⟨h2,h3,h4,td,hu,htd⟩ := d4 h
   refine ⟨_,h2,fun w B hh loc b o vs os he hc => ?_⟩
   have hv := h4 rfl
   obtain ⟨v,o',a1,a2,a3,a4⟩ := kG he.1 hi
   have e0 := iK hv a3
   subst e0
   exact ⟨v,dC hu htd (hc off v a1),hv,a3⟩
 ·rename_i ht
  split at h
  case h_2 => cases h
  rename_i ts hts
  split at h
  case h_2 => cases h
  rename_i h1
  simp only [Bool.and_eq_true,decide_eq_true_eq,beq_iff_eq] at h1
  obtain ⟨⟨h5,rfl⟩,h6⟩ := h1
  have hk : ∃ cs,ay e = cs /\ dK P false ts cs (fun cs' => K (.agg (cs'.map .d))) = some r := by
   split at h
   ·exact ⟨_,rfl,h⟩
   ·obtain ⟨cs,rfl,h⟩ := cq h; exact ⟨cs,rfl,h⟩
  obtain ⟨cs,hce,h⟩ := hk
  obtain ⟨h2,h3,h4⟩ := gJ h
  refine ⟨_,h2,fun w B hh loc b o vs os he hc => ?_⟩
  obtain ⟨fs,hu⟩ : ∃ fs,P.underlying t = some (.struct fs) := by
   unfold tag at ht
   split at ht
   ·rename_i fs hu; exact ⟨fs,hu⟩
   ·cases ht
  have hl := bq he
  refine ⟨.agg vs.toArray,ik hu (by rw [hl]; exact h6) hc,vs.toArray,rfl,?_⟩
  exact nf (fun x hx => (h3 x hx).2 rfl) (hce ▸ he.1)
end
theorem jL {w : World} {b o : Nat} {vs : List Value} (h : cellsAt w b o vs) (k m : Nat) : cellsAt w b (o + k) ((vs.drop k).take m) := by
 intro j v hj
 rw [List.getElem?_take] at hj
 split at hj
 ·rw [List.getElem?_drop] at hj
  rw [Nat.add_assoc]; exact h _ v hj
 ·cases hj
section ops
variable {P : Program} {cf : Cfg} {call : Nat -> List D -> Option Ret} {n : Nat} {o : Oper} {σ : St} {R : Type} {K : A -> Ups -> List Nat -> Option R} {r : R}
theorem qw {t : TypeId} {x : Operand} {id off s : Nat} {cs : List A} {v : A} (ho : o.op = .load t x) (hx : ev σ x = .ref id 0 off) (hg : ae σ.heap id = some (.var cs)) (hs : tsz P t = some s) (hl : off + s <= cs.length)
  (hv : mkA P t ((cs.drop off).take s) = some v) (h : K v [] [id] = some r) : bc P n o σ K r :=
 ⟨_,_,_,h,⟨by simp,fun F hh a w loc O who B hr hf hfr st => by
  have h1 := hr x (by simp [ho,Op.operands]); rw [hx] at h1
  obtain ⟨_,ob,hob,hb⟩ := h1
  have hg' : ae hh id = some (.var cs) := by rw [am (hf id (by simp)),hg]
  rw [hget_some.1 hg'] at hob; cases hob
  obtain ⟨b,base,sz,hloc,hval⟩ := hb _ rfl
  obtain ⟨b',base',sz',c,ty,fr,vs,hl',hh',hsz,hu,hle,hc,ha,hO⟩ := st.blk id _ hg' (fun hx => hx)
  rw [hloc] at hl'; cases hl'
  simp only [b9,Nat.zero_mul,Nat.add_zero] at hval
  have hcs := jL hc off s
  have ha' := (ha.drop off).take s
  have hlen : ((vs.drop off).take s).length = s := by rw [List.length_take,List.length_drop,<- ha.length]; omega
  rcases pX hv ha' with ⟨fs,hu',rfl,hrep⟩ | ⟨td,c',u,hu',n1,n2,hcs',rfl,hvs',hrep⟩
  ·refine Runs.value (w' := w) ?_ (Done.pure st hrep)
   have := ik hu' (by rw [hlen]; exact hs) hcs
   simp only [execOp,ho,hval,Instr.loadAt,Instr.sureAddr,Sem.run_bind,Sem.run_pure,Result.andThen_ok,this]
  ·refine Runs.value (w' := w) ?_ (Done.pure st hrep)
   rw [hvs'] at hcs
   have := dC hu' ⟨n1,n2⟩ (cellsAt_one.1 hcs)
   simp only [execOp,ho,hval,Instr.loadAt,Instr.sureAddr,Sem.run_bind,Sem.run_pure,Result.andThen_ok,this]⟩⟩
theorem rK {t : TypeId} {x : Operand} {i off : Nat} {z : Z} {xs : List D} (ho : o.op = .load t x) (hx : ev σ x = .rp z xs i off) (h : (cT xs i fun e => eu P t z e off fun v => K v [] []) = some r) : bc P n o σ K r := by
 obtain ⟨e,hi,h⟩ := dZ h
 obtain ⟨v,h,hrep⟩ := mI h
 refine ⟨_,_,_,h,Sound.pure fun hh a w loc B hr hf => ?_⟩
 have h1 := hr x (by simp [ho,Op.operands]); rw [hx] at h1
 obtain ⟨b,base,hval,hB,hz,he⟩ := h1
 obtain ⟨vs,o1,o2,o3,_,he2,hc,_⟩ := d0 he hi
 obtain ⟨val,hrun,hv⟩ := hrep w B hh loc b _ vs o2 he2 hc
 refine ⟨val,?_,hv⟩
 simp only [execOp,ho,hval,Instr.loadAt,Instr.sureAddr,Sem.run_bind,Sem.run_pure,Result.andThen_ok,hrun]
theorem gF {t : TypeId} {x : Operand} {id i off : Nat} {z : Z} {xs : List D} {blk : Blk} (ho : o.op = .load t x) (hx : ev σ x = .ref id i off) (hg : ae σ.heap id = some blk) (hblk : blk = .arr z xs \/ blk = .fz z xs)
  (h : (cT xs i fun e => eu P t z e off fun v => K v [] [id]) = some r) : bc P n o σ K r := by
 obtain ⟨e,hi,h⟩ := dZ h
 obtain ⟨v,h,hrep⟩ := mI h
 refine ⟨_,_,_,h,⟨by simp,fun F hh a w loc O who B hr hf hfr st => ?_⟩⟩
 have h1 := hr x (by simp [ho,Op.operands]); rw [hx] at h1
 obtain ⟨_,ob,hob,hb⟩ := h1
 have hg' : ae hh id = some blk := by rw [am (hf id (by simp)),hg]
 rw [hget_some.1 hg'] at hob; cases hob
 obtain ⟨b,base,sz,hloc,hval⟩ := hb _ rfl
 have hne : xs ≠ [] := by rintro rfl; simp at hi
 obtain ⟨o',he⟩ : ∃ o',au w B b base z xs o' := by
  have := st.blk id _ hg' (fun hx => hx)
  rcases hblk with rfl | rfl
  ·rcases this with ⟨_,h2,_⟩ | ⟨b',base',sz',c,ty,fr,o',hl',_,_,_,he,_⟩
   ·exact absurd h2 hne
   ·rw [hloc] at hl'; cases hl'; exact ⟨o',he⟩
  ·obtain ⟨_,_,⟨_,h2⟩ | ⟨b',base',sz',hl',he,_⟩⟩ := this
   ·exact absurd h2 hne
   ·rw [hloc] at hl'; cases hl'; exact ⟨[],he⟩
 have hz : b9 blk = z.1 := by rcases hblk with rfl | rfl <;> rfl
 rw [hz] at hval
 obtain ⟨vs,o1,o2,o3,_,he2,hc,_⟩ := d0 he hi
 obtain ⟨val,hrun,hv⟩ := hrep w B hh loc b _ vs o2 he2 hc
 refine Runs.value (w' := w) ?_ (Done.pure st hv)
 simp only [execOp,ho,hval,Instr.loadAt,Instr.sureAddr,Sem.run_bind,Sem.run_pure,Result.andThen_ok,hrun]
end ops
theorem All2.mem {α β : Type} {R : α -> β -> Prop} {as : List α} {bs : List β} (h : All2 R as bs) : ∀ b ∈ bs,∃ a ∈ as,R a b := by
 induction h with
 | nil => simp
 | @cons a b as bs h1 h2 ih =>
  intro x hx
  rcases List.mem_cons.1 hx with rfl | hx
  ·exact ⟨a,by simp,h1⟩
  ·obtain ⟨a',h3,h4⟩ := ih x hx; exact ⟨a',by simp [h3],h4⟩
section
variable {P : Program} {F : Fr} {h : Ups} {loc : Nat -> Loc} {O : Nat -> List Res} {who : Nat -> Option (Option Nat)} {B : Nat -> Prop} {w : World}
theorem j9 {t : TypeId} {b o : Nat} {c : Array Value} {ty : TypeId} {fr : Nat × Nat} {v : Value} (hs : tsz P t = some v.cells.size) (hh : w.heap[b]? = some (.cells c ty fr)) (hu : iU c.size fr) (hl : o + v.cells.size <= c.size) (hn : ∀ u ∈ v.cells.toList,eE u) :
  ∃ w',(storeVar t ⟨b,o,none⟩ v).run P w = .ok () w' /\ Wr b o v.cells.toList w w' := by
 obtain ⟨w',h1,h2⟩ := cx (P := P) (o := o) v.cells.toList 0 c w hh hu (by simpa using hl) hn
 refine ⟨w',?_,by simpa using h2⟩
 simp [storeVar,aP hs,h1]
theorem xm (s : HSc F h loc O who B w) {id off b base sz : Nat} {cs as : List A} {vs : List Value} {w' : World} (hg : ae h id = some (.var cs)) (hloc : loc id = .at b base sz) (hl : off + as.length <= cs.length)
  (ha : All2 (al w B h loc) as vs) (hwr : Wr b (base + off) vs w w') :
  ∃ O' who',HSc F ((id,some (.var (cs.take off ++ as ++ cs.drop (off + as.length)))) :: h) loc O' who' B w' /\ Kp w B h loc w' B ((id,some (.var (cs.take off ++ as ++ cs.drop (off + as.length)))) :: h) loc := by
 obtain ⟨b',base',sz',c,ty,fr,us,hl',hh,hsz,hu,hle,hc,hcs,hO⟩ := s.blk id _ hg (fun hx => hx)
 rw [hloc] at hl'; cases hl'
 have hb : who b = some (some id) := s.own id _ hg (.rng b base (base + cs.length)) (by rw [hO]; simp)
 have nB : ¬ B b := (s.mine b _ hb).1
 have hlv := ha.length
 have hlu := hcs.length
 have hnl : (cs.take off ++ as ++ cs.drop (off + as.length)).length = cs.length := by
  simp only [lnA,List.length_take,List.length_drop]; omega
 have ext : Ext h loc ((id,some (.var (cs.take off ++ as ++ cs.drop (off + as.length)))) :: h) loc := ch hg rfl rfl
 have kp : Kp w B h loc w' B ((id,some (.var (cs.take off ++ as ++ cs.drop (off + as.length)))) :: h) loc := Kp.of (fun _ h => h) (fun b' hb' => hwr.other b' (by rintro rfl; exact nB hb')) ext
 obtain ⟨c',hh',hsz'⟩ : ∃ c',w'.heap[b]? = some (.cells c' ty fr) /\ c'.size = c.size := by
  obtain ⟨c0,ty0,fr0,c',h5,h6,h7,_⟩ := hwr.cells
  rw [hh] at h5; cases h5
  exact ⟨c',h6,h7⟩
 have hnew : cellsAt w' b base (us.take off ++ vs ++ us.drop (off + as.length)) := by
  have ht : (us.take off).length = off := by rw [List.length_take]; omega
  refine cellsAt_append.2 ⟨cellsAt_append.2 ⟨?_,?_⟩,?_⟩
  ·refine hwr.keep (fun j v hj => ?_) (.inl (by rw [ht]; exact Nat.le_refl _))
   rw [List.getElem?_take] at hj
   split at hj
   ·exact hc j v hj
   ·cases hj
  ·rw [ht]; exact hwr.cellsAt
  ·rw [lnA,ht,<- hlv]
   refine hwr.keep (fun j v hj => ?_) (.inr (by omega))
   rw [List.getElem?_drop] at hj
   have := hc _ v hj
   rw [<- Nat.add_assoc] at this; exact this
 refine ql s (blk' := .var (cs.take off ++ as ++ cs.drop (off + as.length))) (o'' := [.rng b base (base + cs.length)]) hg rfl rfl hb ?_ hwr ?_ ?_ (by simp [aa]) ?_
 ·intro j h1 h2; exact ⟨.rng b base (base + cs.length),by rw [hO]; simp,by simp only [Res.covers]; refine ⟨trivial,by omega,by omega⟩⟩
 ·refine ⟨b,base,sz,c',ty,fr,_,hloc,hh',by rw [hsz',hsz],hsz ▸ hu,by omega,hnew,?_,by rw [hnl]⟩
  exact ((hcs.take off).mono kp |>.append (ha.mono kp)).append ((hcs.drop _).mono kp)
 ·intro r hr; simp only [List.mem_singleton] at hr; subst hr; exact .inr hb
 ·intro r hr; simp only [List.mem_singleton] at hr; subst hr; exact s.okr id _ hg _ (by rw [hO]; simp)
end
section ops
variable {P : Program} {cf : Cfg} {call : Nat -> List D -> Option Ret} {n : Nat} {o : Oper} {σ : St} {R : Type} {K : A -> Ups -> List Nat -> Option R} {r : R}
theorem oc {t : TypeId} {x y : Operand} {id off : Nat} {cs : List A} (ho : o.op = .store t x y) (hx : ev σ x = .ref id 0 off) (hg : ae σ.heap id = some (.var cs)) (hs : tsz P t = some (aC (ev σ y)).length) (hl : off + (aC (ev σ y)).length <= cs.length)
  (hp : bw (ev σ y) = true) (hun : (aC (ev σ y)).all xT = true) (h : K (.tup []) [(id,some (.var (cs.take off ++ aC (ev σ y) ++ cs.drop (off + (aC (ev σ y)).length))))] [id] = some r) : bc P n o σ K r :=
 ⟨_,_,_,h,⟨by simp,fun F hh a w loc O who B hr hf hfr st => by
  have h1 := hr x (by simp [ho,Op.operands]); rw [hx] at h1
  have h2 := hr y (by simp [ho,Op.operands])
  have hcr := ci h2 hp
  obtain ⟨_,ob,hob,hb⟩ := h1
  have hg' : ae hh id = some (.var cs) := by rw [am (hf id (by simp)),hg]
  rw [hget_some.1 hg'] at hob; cases hob
  obtain ⟨b,base,sz,hloc,hval⟩ := hb _ rfl
  obtain ⟨b',base',sz',c,ty,fr,us,hl',hh',hsz,hu,hle,hc,hcs,hO⟩ := st.blk id _ hg' (fun hx => hx)
  rw [hloc] at hl'; cases hl'
  simp only [b9,Nat.zero_mul,Nat.add_zero] at hval
  have hlen := hcr.length
  have hlen' : (aC (ev σ y)).length = (a.eval y).cells.size := by simpa using hlen
  obtain ⟨w',hst,hwr⟩ := j9 (P := P) (w := w) (t := t) (b := b) (o := base + off) (v := a.eval y) (by rw [hs,hlen']) hh' (hsz ▸ hu) (by omega) (by
   intro u hu'
   obtain ⟨ca,hca,hrep⟩ := hcr.mem u hu'
   refine lv hrep ?_
   have := List.all_eq_true.1 hun ca hca
   rintro rfl; cases this)
  obtain ⟨O',who',s',k'⟩ := xm st hg' hloc hl hcr hwr
  refine Runs.skip (w' := w') ?_ ⟨loc,O',who',B,s',k',#[],rfl,.nil⟩
  simp only [execOp,ho,hval,Instr.storeAt,Instr.sureAddr,Sem.run_bind,Sem.run_pure,Result.andThen_ok,hst]⟩⟩
end ops
theorem repDs_append {w : World} {B : Nat -> Prop} {ds : List D} : ∀ {cs : List D} {vs : List Value} {o : List Res},ak w B (cs ++ ds) vs o ↔ ∃ v1 v2 o1 o2,vs = v1 ++ v2 /\ o = o1 ++ o2 /\ ak w B cs v1 o1 /\ ak w B ds v2 o2
 | [],vs,o => by
  constructor
  ·intro h; exact ⟨[],vs,[],o,rfl,rfl,by simp [ak],h⟩
  ·rintro ⟨v1,v2,o1,o2,rfl,rfl,h1,h2⟩
   simp only [ak] at h1
   obtain ⟨rfl,rfl⟩ := h1
   exact h2
 | c :: cs,vs,o => by
  simp only [List.cons_append,ak]
  constructor
  ·rintro ⟨v,vs',o1,o2,rfl,rfl,hi,h1,h2⟩
   obtain ⟨v1,v2,p1,p2,rfl,rfl,h3,h4⟩ := repDs_append.1 h2
   exact ⟨v :: v1,v2,o1 ++ p1,p2,rfl,by simp,⟨v,v1,o1,p1,rfl,rfl,hi,h1,h3⟩,h4⟩
  ·rintro ⟨v1,v2,o1,o2,rfl,rfl,⟨v,vs',p1,p2,rfl,rfl,hi,h1,h2⟩,h3⟩
   exact ⟨v,vs' ++ v2,p1,p2 ++ o2,rfl,by simp,hi,h1,repDs_append.2 ⟨vs',v2,p2,o2,rfl,rfl,h2,h3⟩⟩
theorem ly {w : World} {B : Nat -> Prop} : ∀ {cs : List D} {vs : List Value} {o : List Res},ak w B cs vs o -> ∀ c ∈ cs,bV c
 | [],_,_,_ => by simp
 | c :: cs,vs,o,h => by
  simp only [ak] at h
  obtain ⟨v,vs',o1,o2,rfl,rfl,hi,h1,h2⟩ := h
  intro d hd
  rcases List.mem_cons.1 hd with rfl | hd
  ·exact hi
  ·exact ly h2 d hd
def xH (z : Z) (e e2 : D) (off : Nat) (cs : List D) : Prop :=
  ∀ (w : World) (B : Nat -> Prop) (vs row : List Value) (o o2 : List Res),bW w B z e vs o -> ak w B cs row o2 -> (∀ c ∈ cs,cK z.2 c) -> off + cs.length <= z.1 ->
   ∃ oa om ob,o = oa ++ (om ++ ob) /\ ak w B (((ay e).drop off).take cs.length) ((vs.drop off).take cs.length) om /\ bW w B z e2 (vs.take off ++ row ++ vs.drop (off + row.length)) (oa ++ (o2 ++ ob))
theorem j6 {R : Type} {r : R} {z : Z} {e : D} {off : Nat} {cs : List D} {ag : Bool} {K : D -> Option R} (h : da z e off cs ag K = some r) : ∃ e2,K e2 = some r /\ xH z e e2 off cs := by
 unfold da at h
 split at h
 ·rename_i h1
  simp only [Bool.and_eq_true,decide_eq_true_eq] at h1
  obtain ⟨h2,h3⟩ := h1
  subst h2
  have key : ∀ e2,ay e2 = cs -> ∀ (w : World) (B : Nat -> Prop) (vs row : List Value) (o o2 : List Res),bW w B z e vs o -> ak w B cs row o2 -> (∀ c ∈ cs,cK z.2 c) -> 0 + cs.length <= z.1 ->
   ∃ oa om ob,o = oa ++ (om ++ ob) /\ ak w B (((ay e).drop 0).take cs.length) ((vs.drop 0).take cs.length) om /\ bW w B z e2 (vs.take 0 ++ row ++ vs.drop (0 + row.length)) (oa ++ (o2 ++ ob)) := by
   intro e2 hc w B vs row o o2 he hr hk hl
   have hrl := bi hr
   have hvl := bq he
   refine ⟨[],o,[],by simp,?_,?_⟩
   ·rw [List.drop_zero,List.drop_zero,List.take_of_length_le (by have := he.2.1; omega),List.take_of_length_le (by omega)]; exact he.1
   have : vs.drop (0 + row.length) = [] := List.drop_eq_nil_iff.2 (by omega)
   rw [this]
   simp only [List.take_zero,List.nil_append,List.append_nil]
   exact ⟨by rw [hc]; exact hr,by rw [hc]; exact h3,by rw [hc]; exact hk⟩
  split at h
  ·exact ⟨_,h,key _ rfl⟩
  ·split at h
   ·rename_i c
    refine ⟨_,h,fun w B vs row o o2 he hr hk hl => ?_⟩
    have hi := ly hr c (by simp)
    exact key c (by cases c <;> first | rfl | exact hi.elim) w B vs row o o2 he hr hk hl
   ·cases h
 ·obtain ⟨old,rfl,h⟩ := cq h
  refine ⟨_,h,fun w B vs row o o2 he hr hk hl => ?_⟩
  obtain ⟨h1,h2,h3⟩ := he
  simp only [ay] at h1 h2 h3
  have hsplit : old = old.take off ++ ((old.drop off).take cs.length ++ old.drop (off + cs.length)) := by
   rw [<- List.drop_drop,List.take_append_drop,List.take_append_drop]
  rw [hsplit] at h1
  obtain ⟨va,vb,oa,ob',rfl,rfl,g1,g2⟩ := repDs_append.1 h1
  obtain ⟨vm,vd,om,ob,rfl,rfl,g3,g4⟩ := repDs_append.1 g2
  have l1 : va.length = off := by rw [bi g1,List.length_take]; omega
  have l2 : vm.length = cs.length := by rw [bi g3,List.length_take,List.length_drop]; omega
  have l3 := bi hr
  refine ⟨oa,om,ob,rfl,?_,?_⟩
  ·have e3 : ((va ++ (vm ++ vd)).drop off).take cs.length = vm := by rw [<- l1,List.drop_left,<- l2,List.take_left]
   rw [e3]; exact g3
  have e1 : (va ++ (vm ++ vd)).take off = va := by rw [<- l1]; simp
  have e2 : (va ++ (vm ++ vd)).drop (off + row.length) = vd := by rw [l3,<- l2,<- l1,<- List.append_assoc,<- lnA]; simp
  rw [e1,e2]
  refine ⟨?_,?_,?_⟩
  ·simp only [ay]
   rw [List.append_assoc,List.append_assoc]
   exact repDs_append.2 ⟨va,row ++ vd,oa,o2 ++ ob,rfl,rfl,g1,repDs_append.2 ⟨row,vd,o2,ob,rfl,rfl,hr,g4⟩⟩
  ·simp only [ay,lnA,List.length_take,List.length_drop]; omega
  ·intro c hc
   simp only [ay,List.mem_append] at hc
   rcases hc with (hc | hc) | hc
   ·exact h3 c (List.mem_of_mem_take hc)
   ·exact hk c hc
   ·exact h3 c (List.mem_of_mem_drop hc)
theorem Wr.spliceCells {b base off : Nat} {us vs : List Value} {w w' : World} (h : Wr b (base + off) vs w w') (hc : Go.Eng.cellsAt w b base us) (hl : off + vs.length <= us.length) : Go.Eng.cellsAt w' b base (us.take off ++ vs ++ us.drop (off + vs.length)) := by
 have ht : (us.take off).length = off := by rw [List.length_take]; omega
 refine cellsAt_append.2 ⟨cellsAt_append.2 ⟨?_,?_⟩,?_⟩
 ·refine h.keep (fun j v hj => ?_) (.inl (by rw [ht]; exact Nat.le_refl _))
  rw [List.getElem?_take] at hj
  split at hj
  ·exact hc j v hj
  ·cases hj
 ·rw [ht]; exact h.cellsAt
 ·rw [lnA,ht]
  refine h.keep (fun j v hj => ?_) (.inr (by omega))
  rw [List.getElem?_drop] at hj
  have := hc _ v hj
  rw [<- Nat.add_assoc] at this; exact this
theorem si {w : World} {b o : Nat} {vs : List Value} {c : Array Value} {ty : TypeId} {fr : Nat × Nat} (h : cellsAt w b o vs) (hh : w.heap[b]? = some (.cells c ty fr)) (h0 : 0 < vs.length) : o + vs.length <= c.size := by
 have h1 := h (vs.length - 1) vs[vs.length - 1] (List.getElem?_eq_getElem (by omega))
 simp only [World.cell?,hh] at h1
 rcases Nat.lt_or_ge (o + (vs.length - 1)) c.size with h2 | h2
 ·omega
 ·rw [Array.getElem?_eq_none h2] at h1; cases h1
section
variable {P : Program} {F : Fr} {h : Ups} {loc : Nat -> Loc} {O : Nat -> List Res} {who : Nat -> Option (Option Nat)} {B : Nat -> Prop} {w : World}
theorem xl (s : HSc F h loc O who B w) {id i off b base sz : Nat} {z : Z} {xs cs : List D} {e e2 : D} {row : List Value} {on : List Res} {gone : List Nat} {w' : World}
  (hg : ae h id = some (.arr z xs)) (hloc : loc id = .at b base sz) (hi : xs[i]? = some e) (hset : xH z e e2 off cs) (hr : ak w B cs row on) (hck : ∀ c ∈ cs,cK z.2 c) (hl : off + cs.length <= z.1)
  (hfrom : From h O gone on) (hnd : (aa on).Nodup) (hgf : ∀ g ∈ gone,∃ b,ae h g = some b) (hid : id ∉ gone) (hwr : Wr b (base + i * z.1 + off) row w w') :
  ∃ O' who',HSc F ((id,some (.arr z (xs.set i e2))) :: (gone.map (·,none) ++ h)) loc O' who' B w' /\ Kp w B h loc w' B ((id,some (.arr z (xs.set i e2))) :: (gone.map (·,none) ++ h)) loc := by
 rcases s.blk id _ hg (fun hx => hx) with ⟨h1,_⟩ | ⟨b',base',sz',c,ty,fr,o',hl',hh,hsz,hu,he,hO⟩
 ·rw [hloc] at h1; cases h1
 rw [hloc] at hl'; cases hl'
 have hnod := s.nod id _ hg
 rw [hO] at hnod
 have hnod : (b :: aa o').Nodup := hnod
 have nbo := (List.nodup_cons.1 hnod).1
 have hb : who b = some (some id) := s.own id _ hg (.arr b) (by rw [hO]; simp)
 have nB : ¬ B b := (s.mine b _ hb).1
 obtain ⟨vs,o1,o2,o3,rfl,he2,hc,ht,hd⟩ := d0 he hi
 have hnon : b ∉ aa on := by
  intro hm
  obtain ⟨q,hq,e⟩ := List.mem_map.1 hm
  obtain ⟨g,hg1,⟨bb,hbb⟩,hm'⟩ := hfrom q hq
  have := s.own g bb hbb q hm'
  rw [e,hb] at this
  have : id = g := by simpa using this
  subst this; exact hid hg1
 have same : ∀ {o : List Res},b ∉ aa o -> Same w w' B o := by
  intro o hno b' hb'
  refine hwr.other b' ?_
  rintro rfl
  rcases hb' with hb' | hb'
  ·exact nB hb'
  ·exact hno hb'
 have blk_app : ∀ (p q : List Res),aa (p ++ q) = aa p ++ aa q := fun p q => List.map_append
 have nb1 : b ∉ aa o1 := fun h => nbo (by rw [blk_app]; exact List.mem_append.2 (.inl h))
 have nb2 : b ∉ aa o2 := fun h => nbo (by rw [blk_app,blk_app]; exact List.mem_append.2 (.inr (List.mem_append.2 (.inl h))))
 have nb3 : b ∉ aa o3 := fun h => nbo (by rw [blk_app,blk_app]; exact List.mem_append.2 (.inr (List.mem_append.2 (.inr h))))
 obtain ⟨oa,om,ob,hoo,_,he3⟩ := hset w' B vs row o2 on ⟨bQ (fun _ h => h) _ _ _ (same nb2) he2.1,he2.2⟩ (bQ (fun _ h => h) _ _ _ (same hnon) hr) hck hl
 have hsub : List.Sublist (oa ++ ob) o2 := by rw [hoo]; exact (List.append_sublist_append_left _).2 (List.sublist_append_right _ _)
 have hrl := bi hr
 have hvl := bq he2
 have hilt := aQ hi
 obtain ⟨f1,ht1,hc1⟩ := aW ht
 obtain ⟨f3,hd1,hc3⟩ := aW hd
 have hf1 : f1.length = i * z.1 := by rw [aw ht1,List.length_take]; congr 1; omega
 have hnew : au w' B b base z (xs.set i e2) (o1 ++ ((oa ++ (on ++ ob)) ++ o3)) := by
  refine po hi ?_ he3 (hwr.spliceCells hc (by omega)) ?_
  ·exact bj (bh (fun _ h => h) (same nb1) ht1) (hwr.keep hc1 (.inl (by omega)))
  ·exact bj (bh (fun _ h => h) (same nb3) hd1) (hwr.keep hc3 (.inr (by omega)))
 obtain ⟨c',hh',hsz'⟩ : ∃ c',w'.heap[b]? = some (.cells c' ty fr) /\ c'.size = c.size := by
  obtain ⟨c0,ty0,fr0,c',h5,h6,h7,_⟩ := hwr.cells
  rw [hh] at h5; cases h5
  exact ⟨c',h6,h7⟩
 obtain ⟨who1,s1,e1,a1,a2⟩ := s.kills gone (fun g hg => by obtain ⟨bb,hb⟩ := hgf g hg; exact ⟨_,hget_some.1 hb⟩)
 have hg1 : ae (gone.map (fun i => (i,(none : Option Blk))) ++ h) id = some (.arr z xs) := by
  rw [dh,az,dB]
  simp only [hid,if_false]
  rw [hget_some.1 hg]; rfl
 have w1 : ∀ q ∈ O id,who1 q.blk = some (some id) := by
  intro q hq
  have hw := s.own id _ hg q hq
  rw [a2 q.blk (fun g hg1 e => by
   rw [hw] at e
   have : id = g := by simpa using e
   subst this; exact hid hg1),hw]
 have wn : ∀ q ∈ on,who1 q.blk = some none := by
  intro q hq
  obtain ⟨g,hg1,⟨bb,hbb⟩,hm'⟩ := hfrom q hq
  exact a1 _ ⟨g,hg1,s.own g bb hbb q hm'⟩
 have hmem : ∀ q,q ∈ o1 ++ (oa ++ ob ++ o3) -> q ∈ O id := by
  intro q hq
  rw [hO]
  refine List.mem_cons_of_mem _ ?_
  rcases List.mem_append.1 hq with hq | hq
  ·exact List.mem_append.2 (.inl hq)
  ·rcases List.mem_append.1 hq with hq | hq
   ·exact List.mem_append.2 (.inr (List.mem_append.2 (.inl (hsub.subset hq))))
   ·exact List.mem_append.2 (.inr (List.mem_append.2 (.inr hq)))
 have perm : ∀ q,q ∈ o1 ++ ((oa ++ (on ++ ob)) ++ o3) -> q ∈ on \/ q ∈ o1 ++ (oa ++ ob ++ o3) := by
  intro q hq
  simp only [List.mem_append] at hq ⊢
  rcases hq with hq | (hq | hq | hq) | hq
  ·exact .inr (.inl hq)
  ·exact .inr (.inr (.inl (.inl hq)))
  ·exact .inl hq
  ·exact .inr (.inr (.inl (.inr hq)))
  ·exact .inr (.inr (.inr hq))
 obtain ⟨O',who',s',k'⟩ := ql s1 (b := b) (blk' := .arr z (xs.set i e2)) (o'' := .arr b :: (o1 ++ ((oa ++ (on ++ ob)) ++ o3))) hg1 rfl (by simp [aI]) (w1 (.arr b) (by rw [hO]; simp)) (fun j _ _ => ⟨.arr b,by rw [hO]; simp,by simp [Res.covers]⟩) hwr
  (.inr ⟨b,base,sz,c',ty,fr,_,hloc,hh',by rw [hsz',hsz],hsz ▸ hu,hnew,rfl⟩) (by
   intro q hq
   rcases List.mem_cons.1 hq with rfl | hq
   ·exact .inr (w1 (.arr b) (by rw [hO]; simp))
   ·rcases perm q hq with hq | hq
    ·exact .inl (wn q hq)
    ·exact .inr (w1 q (hmem q hq))) (by
   show (b :: aa (o1 ++ ((oa ++ (on ++ ob)) ++ o3))).Nodup
   have hold : (aa (o1 ++ (oa ++ ob ++ o3))).Nodup := by
    refine (List.nodup_cons.1 hnod).2.sublist (List.Sublist.map _ ?_)
    exact (List.append_sublist_append_left _).2 ((List.append_sublist_append_right _).2 hsub)
   rw [List.nodup_cons]
   constructor
   ·intro hm
    obtain ⟨q,hq,e⟩ := List.mem_map.1 hm
    rcases perm q hq with hq | hq
    ·exact hnon (List.mem_map.2 ⟨q,hq,e⟩)
    ·refine nbo ?_
     have h5 := hmem q hq
     rw [hO] at h5
     refine List.mem_map.2 ⟨q,?_,e⟩
     have hsub' : List.Sublist (o1 ++ (oa ++ ob ++ o3)) (o1 ++ (o2 ++ o3)) := (List.append_sublist_append_left _).2 ((List.append_sublist_append_right _).2 hsub)
     exact hsub'.subset hq
   ·have hp : List.Perm (o1 ++ ((oa ++ (on ++ ob)) ++ o3)) (on ++ (o1 ++ (oa ++ ob ++ o3))) := by
     have h1 : List.Perm (oa ++ (on ++ ob)) (on ++ (oa ++ ob)) := by
      rw [<- List.append_assoc,<- List.append_assoc]
      exact List.Perm.append_right _ List.perm_append_comm
     have h2 : List.Perm ((oa ++ (on ++ ob)) ++ o3) (on ++ (oa ++ ob ++ o3)) := by
      rw [<- List.append_assoc on]; exact List.Perm.append_right _ h1
     have h3 : List.Perm (o1 ++ ((oa ++ (on ++ ob)) ++ o3)) (o1 ++ (on ++ (oa ++ ob ++ o3))) := List.Perm.append_left _ h2
     refine h3.trans ?_
     rw [<- List.append_assoc,<- List.append_assoc on]
     exact List.Perm.append_right _ List.perm_append_comm
    have hpm : List.Perm (aa (o1 ++ ((oa ++ (on ++ ob)) ++ o3))) (aa (on ++ (o1 ++ (oa ++ ob ++ o3)))) := hp.map _
    refine hpm.nodup_iff.2 ?_
    rw [blk_app,List.nodup_append]
    refine ⟨hnd,hold,?_⟩
    intro x hx y hy e
    obtain ⟨q1,hq1,rfl⟩ := List.mem_map.1 hx
    obtain ⟨q2,hq2,rfl⟩ := List.mem_map.1 hy
    have u1 := wn q1 hq1
    have u2 := w1 q2 (hmem q2 hq2)
    rw [e,u2] at u1; cases u1) (by
   intro q hq
   rcases List.mem_cons.1 hq with rfl | hq
   ·exact s.okr id _ hg _ (by rw [hO]; simp)
   ·rcases perm q hq with hq | hq
    ·obtain ⟨g,hg1,⟨bb,hbb⟩,hm'⟩ := hfrom q hq
     exact s.okr g bb hbb q hm'
    ·exact s.okr id _ hg q (hmem q hq))
 exact ⟨O',who',s',(Kp.of (fun _ h => h) (fun _ _ => rfl) e1).trans k'⟩
end
section ops
variable {P : Program} {cf : Cfg} {call : Nat -> List D -> Option Ret} {n : Nat} {o : Oper} {σ : St} {R : Type} {K : A -> Ups -> List Nat -> Option R} {r : R}
theorem nY {t : TypeId} {x y : Operand} {id i off : Nat} {z : Z} {xs : List D} {ts : List TypeId} {x' : D} {gone : List Nat} {ag : Bool} (ho : o.op = .store t x y) (hx : ev σ x = .ref id i off) (hg : ae σ.heap id = some (.arr z xs)) (hs : tsz P t = some ts.length)
  (hel : fe P σ.heap ts (ev σ y) = some (x',gone)) (hid : id ∉ gone) (hnd : gone.Nodup) (hp : bw (ev σ y) = true) (h0 : 0 < ts.length) (hcl : (ay x').length = ts.length) (hl : off + ts.length <= z.1) (hck : ∀ c ∈ ay x',cK z.2 c)
  (h : (cT xs i fun e => da z e off (ay x') ag fun e2 => K (.tup []) ((id,some (.arr z (xs.set i e2))) :: gone.map (·,none)) (id :: (gone ++ d9 (ev σ y)))) = some r) : bc P n o σ K r := by
 obtain ⟨e,hi,h⟩ := dZ h
 obtain ⟨e2,h,hset⟩ := j6 h
 refine ⟨_,_,_,h,⟨?_,fun F hh a w loc O who B hr hf hfr st => ?_⟩⟩
 ·intro j hj
  simp only [List.map_cons,List.map_map,List.mem_cons,List.mem_map] at hj
  rcases hj with rfl | ⟨g,hg,rfl⟩
  ·exact .inl (by simp)
  ·exact .inl (by simp [hg])
 have h1 := hr x (by simp [ho,Op.operands]); rw [hx] at h1
 have h2 := hr y (by simp [ho,Op.operands])
 have hcr := ci h2 hp
 obtain ⟨_,ob,hob,hb⟩ := h1
 have hg' : ae hh id = some (.arr z xs) := by rw [am (hf id (by simp)),hg]
 rw [hget_some.1 hg'] at hob; cases hob
 obtain ⟨b,base,sz,hloc,hval⟩ := hb _ rfl
 simp only [b9] at hval
 have hel' : fe P hh ts (ev σ y) = some (x',gone) := by rw [gk (h := σ.heap),hel]; intro j hj; exact hf j (by simp [hj])
 obtain ⟨on,q1,q2,q3,q4,q5⟩ := jN st (s := (a.eval y).cells.toList.length) ⟨rfl,hcr⟩ hel' hnd hp
 rcases st.blk id _ hg' (fun hx => hx) with ⟨hn,_⟩ | ⟨b',base',sz',c,ty,fr,o',hl',hh',hsz,hu,he,hO⟩
 ·rw [hloc] at hn; cases hn
 rw [hloc] at hl'; cases hl'
 obtain ⟨vs,o1,o2,o3,_,he2,hc,_,_⟩ := d0 he hi
 have hvl := bq he2
 have hlt := si hc hh' (by omega)
 have hrow : (a.eval y).cells.size = ts.length := by rw [<- hcl,q5]; simp
 obtain ⟨w',hst,hwr⟩ := j9 (P := P) (w := w) (t := t) (b := b) (o := base + i * z.1 + off) (v := a.eval y) (by rw [hs,hrow]) hh' (hsz ▸ hu) (by omega) (gD q1)
 have hgf := ml hel'
 obtain ⟨O',who',s',k'⟩ := xl st hg' hloc hi hset q1 hck (by omega) q2 q3 hgf hid hwr
 refine Runs.skip (w' := w') ?_ ⟨loc,O',who',B,s',k',#[],rfl,.nil⟩
 simp only [execOp,ho,hval,Instr.storeAt,Instr.sureAddr,Sem.run_bind,Sem.run_pure,Result.andThen_ok,hst]
end ops
theorem ol {R : Type} {r : R} {z : Z} {x : D} {K : List D -> Option R} (h : jl z x K = some r) : ∃ ys,x = .os z ys /\ K ys = some r := by
 cases x <;> simp only [jl] at h <;> first | cases h | skip
 split at h
 ·rename_i e; subst e; exact ⟨_,rfl,h⟩
 ·cases h
theorem qN {R : Type} {r : R} {z : Z} {e : D} {off : Nat} {K : D -> Option R} (h : jm z e off K = some r) : ∃ c,K c = some r /\ ∀ (w : World) (B : Nat -> Prop) (vs : List Value) (o : List Res),bW w B z e vs o -> bV c -> (ay e)[off]? = some c := by
 unfold jm at h
 split at h
 ·split at h
  ·refine ⟨e,h,fun w B vs o he hi => ?_⟩
   cases e <;> first | rfl | exact hi.elim
  ·cases h
 ·obtain ⟨cs,rfl,h⟩ := cq h
  obtain ⟨c,hi,h⟩ := dZ h
  exact ⟨c,h,fun w B vs o he _ => hi⟩
section ops
variable {P : Program} {cf : Cfg} {call : Nat -> List D -> Option Ret} {n : Nat} {o : Oper} {σ : St} {R : Type} {K : A -> Ups -> List Nat -> Option R} {r : R}
theorem qv {t e' : TypeId} {x : Operand} {id i off : Nat} {z z' : Z} {xs : List D} {ag : Bool} (ho : o.op = .load t x) (hx : ev σ x = .ref id i off) (hg : ae σ.heap id = some (.arr z xs)) (hz2 : ¬ z.2 <= 1) (hu : P.underlying t = some (.slice e'))
  (h : (cT xs i fun e => jm z e off fun c => jl z' c fun ys => da z e off [.dead] ag fun e2 => K (.asl n none) [(n,some (.arr z' ys)),(id,some (.arr z (xs.set i e2)))] [id]) = some r) : bc P n o σ K r := by
 obtain ⟨e,hi,h⟩ := dZ h
 obtain ⟨c,h,hcell⟩ := qN h
 obtain ⟨ys,hcy,h'⟩ := ol h
 clear h
 subst hcy
 obtain ⟨e2,h,hset⟩ := j6 h'
 refine ⟨_,_,_,h,⟨?_,fun F hh a w loc O who B hr hf hfr s => ?_⟩⟩
 ·intro j hj
  simp only [List.map_cons,List.map_nil,List.mem_cons,List.not_mem_nil,or_false] at hj
  rcases hj with rfl | rfl
  ·exact .inr (by simp [ai])
  ·exact .inl (by simp)
 have h1 := hr x (by simp [ho,Op.operands]); rw [hx] at h1
 obtain ⟨_,ob,hob,hb'⟩ := h1
 have hg' : ae hh id = some (.arr z xs) := by rw [am (hf id (by simp)),hg]
 rw [hget_some.1 hg'] at hob; cases hob
 obtain ⟨b,base,sz,hloc,hval⟩ := hb' _ rfl
 simp only [b9] at hval
 have hn0 := hfr n (Nat.le_refl _) (by simp [ai])
 have hne : ¬ n = id := by rintro rfl; rw [hget_some.1 hg'] at hn0; cases hn0
 rcases s.blk id _ hg' (fun hx => hx) with ⟨hn,_⟩ | ⟨b',base',sz',c,ty,fr,o',hl',hh',hsz,hu',he,hO⟩
 ·rw [hloc] at hn; cases hn
 rw [hloc] at hl'; cases hl'
 have hnod : (b :: aa o').Nodup := by have := s.nod id _ hg'; rw [hO] at this; exact this
 have hb : who b = some (some id) := s.own id _ hg' (.arr b) (by rw [hO]; simp)
 obtain ⟨vs,o1,o2,o3,rfl,he2,hc,ht,hd⟩ := d0 he hi
 have hci := hcell w B vs o2 he2 trivial
 obtain ⟨v,ov,g1,_,g3,_⟩ := kG he2.1 hci
 have hlt := aQ hci
 have hvl := bq he2
 have hcl := he2.2.1
 have hvn : eE v := kV (c := .os z' ys) trivial g3
 obtain ⟨oa,om,ob,hoo,hmid,he3⟩ := hset w B vs [v] o2 [] he2 (repDs_one.2 ⟨v,rfl,trivial,by simpa [ac] using hvn⟩) (by
  intro c hc
  simp at hc; subst hc
  have : z.2 ≠ 0 /\ z.2 ≠ 1 := by omega
  unfold cK; split <;> simp_all) (by simp; omega)
 subst hoo
 have em1 : ((ay e).drop off).take [D.dead].length = [.os z' ys] := by
  rw [List.getElem?_eq_getElem hlt] at hci
  injection hci with hci
  rw [List.drop_eq_getElem_cons hlt,hci]; rfl
 have em2 : (vs.drop off).take [D.dead].length = [v] := by
  have hlv := aQ g1
  rw [List.getElem?_eq_getElem hlv] at g1
  injection g1 with g1
  rw [List.drop_eq_getElem_cons hlv,g1]; rfl
 rw [em1,em2] at hmid
 obtain ⟨v',hv',_,hrv⟩ := repDs_one.1 hmid
 injection hv' with hv' _
 subst hv'
 -- the load
 have hld : (execOp a.eval o).run P w = .ok (.value v) w := by
  have := dC (P := P) hu (di trivial) (hc off v g1)
  simp only [execOp,ho,hval,Instr.loadAt,Instr.sureAddr,Sem.run_bind,Sem.run_pure,Result.andThen_ok,this]
 refine Runs.value hld ?_
 -- the array without it
 have hevs : vs.take off ++ [v] ++ vs.drop (off + 1) = vs := by
  have := rE g1
  rw [List.append_assoc]; exact this.symm
 simp only [List.length_singleton] at he3
 rw [hevs] at he3
 have hnew : au w B b base z (xs.set i e2) (o1 ++ ((oa ++ ([] ++ ob)) ++ o3)) := po hi ht he3 hc hd
 have hsub : List.Sublist (o1 ++ ((oa ++ ([] ++ ob)) ++ o3)) (o1 ++ ((oa ++ (om ++ ob)) ++ o3)) :=
  (List.append_sublist_append_left _).2 ((List.append_sublist_append_right _).2 ((List.append_sublist_append_left _).2 ((List.append_sublist_append_right _).2 (List.nil_sublist _))))
 have hown : ∀ q ∈ o1 ++ ((oa ++ (om ++ ob)) ++ o3),q ∈ O id := fun q hq => by rw [hO]; exact List.mem_cons_of_mem _ hq
 have hin : ∀ q ∈ om,q ∈ o1 ++ ((oa ++ (om ++ ob)) ++ o3) := fun q hq => by simp only [List.mem_append]; exact .inr (.inl (.inr (.inl hq)))
 obtain ⟨O1,s1,k1⟩ := ru s (b := b) (lo := 0) (vs := []) (blk' := .arr z (xs.set i e2)) (o'' := .arr b :: (o1 ++ ((oa ++ ([] ++ ob)) ++ o3))) hg' rfl (by simp [aI]) hb (fun j h1 h2 => by simp at h2) (Wr.refl hh')
  (.inr ⟨b,base,sz,c,ty,fr,_,hloc,hh',hsz,hu',hnew,rfl⟩) (by
   intro q hq
   rcases List.mem_cons.1 hq with rfl | hq
   ·exact .inr hb
   ·exact .inr (s.own id _ hg' q (hown q (hsub.subset hq)))) (by
   show (b :: aa (o1 ++ ((oa ++ ([] ++ ob)) ++ o3))).Nodup
   exact hnod.sublist ((hsub.map _).cons_cons _)) (by
   intro q hq
   rcases List.mem_cons.1 hq with rfl | hq
   ·exact s.okr id _ hg' _ (by rw [hO]; simp)
   ·exact s.okr id _ hg' q (hown q (hsub.subset hq)))
 have hn1 : hfind ((id,some (.arr z (xs.set i e2))) :: hh) n = none := by rw [aj]; simp only [show ¬ id = n from fun e => hne e.symm,if_false]; exact hn0
 have who1 : ∀ q ∈ om,(fun b' => if b' ∈ aa (Res.arr b :: (o1 ++ ((oa ++ ([] ++ ob)) ++ o3))) then some (some id) else if who b' = some (some id) then some none else who b') q.blk = some none := by
  intro q hq
  have hw := s.own id _ hg' q (hown q (hin q hq))
  have hnm : q.blk ∉ aa (Res.arr b :: (o1 ++ ((oa ++ ([] ++ ob)) ++ o3))) := by
   intro hm
   have hp : List.Perm (Res.arr b :: (o1 ++ ((oa ++ (om ++ ob)) ++ o3))) (om ++ (Res.arr b :: (o1 ++ ((oa ++ ([] ++ ob)) ++ o3)))) := by
    have p1 : List.Perm (oa ++ (om ++ ob)) (om ++ (oa ++ ([] ++ ob))) := by
     rw [List.nil_append,<- List.append_assoc,<- List.append_assoc]; exact List.Perm.append_right _ List.perm_append_comm
    have p2 : List.Perm ((oa ++ (om ++ ob)) ++ o3) (om ++ ((oa ++ ([] ++ ob)) ++ o3)) := by
     rw [<- List.append_assoc om]; exact List.Perm.append_right _ p1
    have p3 : List.Perm (o1 ++ ((oa ++ (om ++ ob)) ++ o3)) (om ++ (o1 ++ ((oa ++ ([] ++ ob)) ++ o3))) := by
     refine (List.Perm.append_left _ p2).trans ?_
     rw [<- List.append_assoc,<- List.append_assoc om]; exact List.Perm.append_right _ List.perm_append_comm
    exact (List.Perm.cons _ p3).trans List.perm_middle.symm
   have hnd2 : (aa (om ++ (Res.arr b :: (o1 ++ ((oa ++ ([] ++ ob)) ++ o3))))).Nodup := (hp.map Res.blk).nodup_iff.1 (show (aa (Res.arr b :: (o1 ++ ((oa ++ (om ++ ob)) ++ o3)))).Nodup from hnod)
   have e3 : aa (om ++ (Res.arr b :: (o1 ++ ((oa ++ ([] ++ ob)) ++ o3)))) = aa om ++ aa (Res.arr b :: (o1 ++ ((oa ++ ([] ++ ob)) ++ o3))) := List.map_append
   rw [e3,List.nodup_append] at hnd2
   exact hnd2.2.2 q.blk (List.mem_map.2 ⟨q,hq,rfl⟩) q.blk hm rfl
  simp only [hnm,if_false,hw,if_true]
 have hndm : (aa om).Nodup := by
  have : List.Sublist om (o1 ++ ((oa ++ (om ++ ob)) ++ o3)) :=
   (((List.sublist_append_left om ob).trans (List.sublist_append_right _ _)).trans (List.sublist_append_left _ _)).trans (List.sublist_append_right _ _)
  exact (List.nodup_cons.1 hnod).2.sublist (this.map _)
 have hokm : ∀ q ∈ om,okR F.w0 F.o0 q := fun q hq => s.okr id _ hg' q (hown q (hin q hq))
 have ext : ∀ l : Loc,Ext ((id,some (.arr z (xs.set i e2))) :: hh) loc ((n,some (.arr z' ys)) :: ((id,some (.arr z (xs.set i e2))) :: hh)) (fun j => if j = n then l else loc j) := by
  intro l j ob ho
  rw [aj]
  have hnj : ¬ n = j := by intro e; subst e; rw [hn1] at ho; cases ho
  exact ⟨ob,by simp only [hnj,if_false]; exact ho,fun bb hb => ⟨bb,hb,rfl,rfl,by simp [show ¬ j = n from fun e => hnj e.symm]⟩⟩
 simp only [ac] at hrv
 have fin : ∀ l : Loc,dF w B ((n,some (.arr z' ys)) :: ((id,some (.arr z (xs.set i e2))) :: hh)) (fun j => if j = n then l else loc j) l om (.arr z' ys) -> dI l z'.1 ys.length none v -> (∃ a n c,v = .slice a n c) ->
   Done F hh loc B w [(n,some (.arr z' ys)),(id,some (.arr z (xs.set i e2)))] (.asl n none) v w := by
  intro l hrep hsl hsv
  have s2 := s1.set n (.arr z' ys) l om (ext l) hrep (fun q hq => .inl (who1 q hq)) hndm hokm
  refine ⟨_,_,_,B,s2.same (fun i hi => hi.1.elim),k1.trans (Kp.of (fun _ h => h) (fun _ _ => rfl) (ext l)),hsv,some (.arr z' ys),?_,?_⟩
  ·show hfind ((n,_) :: _) n = _
   rw [aj]; simp
  ·intro blk hb
   cases hb
   exact ⟨ys.length,rfl,by simpa [b9] using hsl⟩
 rcases hrv with ⟨rfl,rfl,ad,rfl⟩ | ⟨b2,off2,cap,c2,ty2,fr2,o2',rfl,hcp,hh2,hu2,hcz,he4,rfl⟩
 ·exact fin .nil (.inl ⟨rfl,rfl,rfl⟩) ⟨rfl,_,rfl⟩ ⟨_,_,_,rfl⟩
 ·exact fin (.at b2 off2 c2.size) (.inr ⟨b2,off2,c2.size,c2,ty2,fr2,o2',rfl,hh2,rfl,hu2,he4,rfl⟩) ⟨_,cap,rfl,hcp,fun h0 => ⟨rfl,hcz h0⟩⟩ ⟨_,_,_,rfl⟩
end ops
theorem kX {n c : Nat} {l h : Option Int} (hnc : n <= c) (hc : gW n c l h = true) : aU l <= aM n h /\ aM n h <= c /\ (∀ x,l = some x -> 0 <= x /\ x <= (aM n h : Int)) /\ (∀ x,h = some x -> 0 <= x /\ x <= (c : Int)) := by
 cases l <;> cases h <;> simp [gW,aU,aM] at hc ⊢ <;> omega
section
variable {P : Program} {w : World}
theorem qJ {isS : Bool} {n c cap : Nat} {lo hi : Option Value} {l h : Option Int} (hlo : jk lo l) (hhi : jk hi h) (hnc : n <= c) (hc : gW n c l h = true) (hn : c <= cap) :
  (Instr.sliceBounds isS n cap lo hi none).run P w = .ok (aU l,aM n h,cap) w := by
 obtain ⟨h1,h2,h3,h4⟩ := kX hnc hc
 rcases hlo with ⟨rfl,rfl⟩ | ⟨k,x,rfl,rfl⟩ <;> rcases hhi with ⟨rfl,rfl⟩ | ⟨k',y,rfl,rfl⟩
 ·simp [Instr.sliceBounds,aU,aM]
 ·have := h4 y rfl
  simp [Instr.sliceBounds,aU,aM,run_sliceBound_if,show 0 <= y /\ y <= (cap : Int) by omega]
 ·have := h3 x rfl
  simp only [aM] at this
  simp [Instr.sliceBounds,aU,aM,run_sliceBound_if,this]
 ·have a1 := h4 y rfl
  have a2 := h3 x rfl
  simp only [aM] at a2
  have e : (y.toNat : Int) = y := Int.toNat_of_nonneg a1.1
  rw [e] at a2
  simp [Instr.sliceBounds,aU,aM,run_sliceBound_if,show 0 <= y /\ y <= (cap : Int) by omega,a2,e]
theorem th {t e : TypeId} {sz n c cap : Nat} {a : Option Addr} {lo hi : Option Value} {l h : Option Int} (hu : P.underlying t = some (.slice e)) (hs : tsz P e = some sz) (hlo : jk lo l) (hhi : jk hi h) (hnc : n <= c) (hc : gW n c l h = true) (hn : c <= cap) :
  (Instr.sliceAt t (.slice a n cap) lo hi none).run P w = .ok (.slice (if cap = aU l then a else a.map (·.add (aU l * sz))) (aM n h - aU l) (cap - aU l)) w := by
 simp [Instr.sliceAt,Instr.slice,run_underlying hu,qJ hlo hhi hnc hc hn,aP hs]
theorem tc {lc : Loc} {z n o q cap : Nat} {a : Option Addr} {l h : Option Int} (hs : dI lc z n (some (o,q)) (.slice a q cap)) (hc : gW q (n - o) l h = true) :
  q <= n - o /\ n - o <= cap /\ dI lc z n (jM q (some (o,q)) l h) (.slice (if cap = aU l then a else a.map (·.add (aU l * z))) (aM q h - aU l) (cap - aU l)) := by
 have hqn : q <= n - o := by
  cases lc with
  | nil => obtain ⟨h1,h2,h3,_⟩ := hs; omega
  | «at» b base sz => obtain ⟨h1,_⟩ := hs; omega
 obtain ⟨h1,h2,h3,h4⟩ := kX hqn hc
 refine ⟨hqn,?_⟩
 by_cases hno : l = none /\ h = none
 ·obtain ⟨rfl,rfl⟩ := hno
  have := pt (l := none) (h := none) (m := q) rfl hs rfl
  refine ⟨?_,this.2⟩
  cases lc with
  | nil => obtain ⟨_,_,hn,a',hh⟩ := hs; omega
  | «at» b base sz => obtain ⟨h0,ad,cap',hv,⟨hcp,hcn⟩,had⟩ := hs; injection hv with e1 e2 e3; omega
 ·have e : jM q (some (o,q)) l h = some (o + aU l,aM q h - aU l) := by
   cases l <;> cases h <;> simp_all [jM,aU,aM]
  rw [e]
  cases lc with
  | nil =>
   obtain ⟨rfl,rfl,rfl,a',hv⟩ := hs
   injection hv with e1 e2 e3
   subst e3
   have hl0 : aU l = 0 := by omega
   have hh0 : aM 0 h = 0 := by omega
   rw [hl0,hh0]
   exact ⟨by omega,rfl,rfl,rfl,_,rfl⟩
  | «at» b base sz =>
   obtain ⟨h0,ad,cap',hv,⟨hcp,hcn⟩,had⟩ := hs
   injection hv with e1 e2 e3
   subst e1 e3
   refine ⟨by omega,?_⟩
   by_cases hcl : cap = aU l
   ·simp only [hcl,if_true,Nat.sub_self]
    exact ⟨by omega,ad,0,rfl,⟨by omega,by omega⟩,by omega⟩
   ·obtain ⟨rfl,k5⟩ := had (by omega)
    simp only [hcl,if_false,Option.map_some,cH]
    refine ⟨by omega,_,cap - aU l,rfl,⟨by omega,by omega⟩,fun _ => ⟨by rw [Nat.add_mul,Nat.add_assoc],?_⟩⟩
    have : cap = aU l + (cap - aU l) := by omega
    rw [this,Nat.add_mul] at k5
    rw [Nat.add_mul]; omega
end
section ops
variable {P : Program} {cf : Cfg} {call : Nat -> List D -> Option Ret} {n : Nat} {o : Oper} {σ : St} {R : Type} {K : A -> Ups -> List Nat -> Option R} {r : R}
theorem rN {t e : TypeId} {x : Operand} {lo hi : Option Operand} {z : Z} {id q m0 o1 : Nat} {blk : Blk} {l h' : Option Int} (ho : o.op = .slice t x lo hi none) (hu : P.underlying t = some (.slice e)) (hs : tsz P e = some z.1) (hx : ev σ x = .asl id (some (o1,q)))
  (hg : ae σ.heap id = some blk) (hbz : b9 blk = z.1) (hbl : aI blk = some m0) (hl : gz σ lo = some l) (hh : gz σ hi = some h')
  (hc : gW q (m0 - o1) l h' = true) (h : K (.asl id (jM q (some (o1,q)) l h')) [] [id] = some r) : bc P n o σ K r :=
 ⟨_,_,_,h,Sound.pure fun hp a w loc B hv hf => by
  obtain ⟨h1,h2,h3⟩ := iQ ho hv hl hh
  rw [hx] at h1
  obtain ⟨⟨ad,q1,cap,hval⟩,ob,hob,hb⟩ := rep_asl.1 h1
  have hg' : ae hp id = some blk := by rw [am (hf id (by simp)),hg]
  have hfd := hget_some.1 hg'
  rw [hfd] at hob; cases hob
  obtain ⟨q',hq',hsl⟩ := hb _ rfl
  rw [hbl] at hq'; cases hq'
  rw [hbz] at hsl
  obtain ⟨ad',cap',hval'⟩ : ∃ base cap,a.eval x = .slice base q cap := by
   rcases cz hsl with ⟨_,_,h0,ad,hv⟩ | ⟨b,base,sz,ad,cap,_,hv,_⟩
   ·exact ⟨ad,0,by rw [hv]; simp only [bz] at h0; rw [h0]⟩
   ·exact ⟨_,cap,hv⟩
  rw [hval'] at hsl
  obtain ⟨hmc,hmc2,hs2⟩ := tc hsl hc
  have hrun := th (P := P) (w := w) (a := ad') hu hs h2 h3 hmc hc hmc2
  refine ⟨_,by simp only [execOp,ho,hval']; simp only [Option.map_none,Sem.run_bind,hrun,Result.andThen_ok,Sem.run_pure]; rfl,⟨_,_,_,rfl⟩,some blk,hfd,fun blk' hb' => ?_⟩
  cases hb'
  exact ⟨m0,hbl,by rw [hbz]; exact hs2⟩⟩
theorem rM {t e : TypeId} {x mx : Operand} {lo hi : Option Operand} {z : Z} {id q m0 : Nat} {rng : Option (Nat × Nat)} {k : IntKind} {m y : Int} {blk : Blk} {l : Option Int} (ho : o.op = .slice t x lo hi (some mx)) (hu : P.underlying t = some (.slice e)) (hs : tsz P e = some z.1) (hx : ev σ x = .asl id rng)
  (hg : ae σ.heap id = some blk) (hbl : aI blk = some m0) (hq : bz m0 rng = q) (hl : gz σ lo = some l) (hh : gz σ hi = some (some y)) (hm : ev σ mx = .d (.int k m)) (hm0 : 0 <= m) (hmq : m <= (q : Int))
  (hc : cW m.toNat l (some y) = true) (h : K .undef [] [id] = some r) : bc P n o σ K r :=
 ⟨_,_,_,h,Sound.pure fun hp a w loc B hv hf => by
  have h1 := hv x (by simp [ho,Op.operands])
  have h2 : jk (lo.map a.eval) l := jZ hl (fun y hy => hv y (by cases lo <;> simp at hy; subst hy; simp [ho,Op.operands]))
  have h3 : jk (hi.map a.eval) (some y) := jZ hh (fun y hy => hv y (by cases hi <;> simp at hy; subst hy; cases lo <;> simp [ho,Op.operands]))
  have h4 := hv mx (by cases lo <;> cases hi <;> simp [ho,Op.operands])
  rw [hx] at h1
  rw [hm,rep_int] at h4
  obtain ⟨⟨ad,q1,cap,hval⟩,ob,hob,hb⟩ := rep_asl.1 h1
  have hg' : ae hp id = some blk := by rw [am (hf id (by simp)),hg]
  have hfd := hget_some.1 hg'
  rw [hfd] at hob; cases hob
  obtain ⟨q',hq',hsl⟩ := hb _ rfl
  rw [hbl] at hq'; cases hq'
  have hqc : ∃ base cap,a.eval x = .slice base q cap /\ q <= cap := by
   rcases cz hsl with ⟨_,_,h0,ad,hv⟩ | ⟨b,base,sz,ad,cap,_,hv,hle,_⟩
   ·exact ⟨ad,0,by rw [hv,<- hq,h0],by rw [<- hq,h0]; exact Nat.le_refl _⟩
   ·exact ⟨_,cap,by rw [hv,hq],by rw [<- hq]; exact hle⟩
  obtain ⟨ad',cap',hval',hqcap⟩ := hqc
  obtain ⟨c1,c2,c3,c4⟩ := d5 hc
  simp only [aM] at c1 c2 c3
  have hy := c4 y rfl
  have emt : (m.toNat : Int) = m := Int.toNat_of_nonneg hm0
  have eyt : (y.toNat : Int) = y := Int.toNat_of_nonneg hy.1
  obtain ⟨kk,hhi⟩ : ∃ kk,hi.map a.eval = some (.int kk y) := by
   rcases h3 with ⟨_,e⟩ | ⟨kk,yy,e1,e2⟩
   ·cases e
   ·cases e2; exact ⟨kk,e1⟩
  have b1 : (Instr.sliceBound (.int k m) cap' .slice3Acap).run P w = .ok m.toNat w := by rw [run_sliceBound_if,if_pos (by omega)]
  have b2 : (Instr.sliceBound (.int kk y) m.toNat .slice3B).run P w = .ok y.toNat w := by rw [run_sliceBound_if,if_pos (by omega)]
  have b3 : ∃ lw,(match lo.map a.eval with | some v => Instr.sliceBound v y.toNat .slice3C | none => pure 0 : Sem Nat).run P w = .ok lw w := by
   rcases h2 with ⟨e1,rfl⟩ | ⟨kl,x1,e1,rfl⟩
   ·rw [e1]; exact ⟨0,rfl⟩
   ·rw [e1]
    have := c3 x1 rfl
    exact ⟨x1.toNat,by simp only; rw [run_sliceBound_if,if_pos (by omega)]⟩
  obtain ⟨lw,b3⟩ := b3
  refine ⟨.slice (if m.toNat = lw then ad' else ad'.map (·.add (lw * z.1))) (y.toNat - lw) (m.toNat - lw),?_,trivial⟩
  rcases h2 with ⟨e1,rfl⟩ | ⟨kl,x1,e1,rfl⟩
  ·rw [e1] at b3
   simp only [execOp,ho,hval',Option.map_some,h4,hhi,e1]
   have b3 : 0 = lw := by have b4 : Result.ok 0 w = Result.ok lw w := b3; injection b4
   subst b3
   simp [Instr.sliceAt,Instr.slice,run_underlying hu,Instr.sliceBounds,b1,b2,aP hs]
  ·rw [e1] at b3
   simp only at b3
   simp only [execOp,ho,hval',Option.map_some,h4,hhi,e1]
   simp [Instr.sliceAt,Instr.slice,run_underlying hu,Instr.sliceBounds,b1,b2,b3,aP hs]⟩
theorem xc {F : Fr} {h h' : Ups} {loc : Nat -> Loc} {O : Nat -> List Res} {who : Nat -> Option (Option Nat)} {B : Nat -> Prop} {w : World} (e : ∀ id,hfind h' id = hfind h id) (s : HSc F h loc O who B w) : HSc F h' loc O who B w /\ Kp w B h loc w B h' loc := by
 have ext : Ext h loc h' loc := fun id ob ho => ⟨ob,(e id).trans ho,fun blk hb => ⟨blk,hb,rfl,rfl,rfl⟩⟩
 have k : Kp w B h loc w B h' loc := Kp.of (fun _ h => h) (fun _ _ => rfl) ext
 have eg : ∀ id,ae h' id = ae h id := fun id => am (e id)
 refine ⟨⟨fun id b hb hx => ?_,fun id b hb => s.own id b ((eg id).symm.trans hb),fun id b hb => s.nod id b ((eg id).symm.trans hb),fun id b hb => s.okr id b ((eg id).symm.trans hb),s.mine,s.blt,s.bsub,s.b0,s.chg⟩,k⟩
 exact cy k (fun _ h => h) (fun _ _ => rfl) (s.blk id b ((eg id).symm.trans hb) hx)
theorem tm {x : Operand} {c : Call} {t e : TypeId} {id o1 l : Nat} {z : Z} {xs : List D} {i : TypeInfo} {ze : A} {ts : List TypeId} {x0 : D} (ho : o.op = .call c) (hc : c.callee = .builtin .clear) (ha : c.args.toList = [x]) (ht : c.argTypes.toList = [t]) (hu : P.underlying t = some (.slice e))
  (hx : ev σ x = .asl id (some (o1,l))) (hg : ae σ.heap id = some (.arr z xs)) (hi : P.info? e = some i) (hz : dd P e = some ze) (hel : fe P [] ts ze = some (x0,[])) (hsz : 0 < i.size) (hiz : i.size = z.1) (hpl : bw ze = true) (hzl : (aC ze).length = i.size) (hz2 : z.2 = 0) (hk : ic P e [x0] = some 0)
  (hle : o1 + l <= xs.length) (h : K (.tup []) [(id,some (.arr z (xs.take o1 ++ List.replicate l x0 ++ xs.drop (o1 + l))))] [id] = some r) : bc P n o σ K r := by
 refine ⟨_,_,_,h,⟨by simp,fun F hh a w loc O who B hv hf hfr s => ?_⟩⟩
 have ha' : c.args = #[x] := by rw [<- ha]
 have ht' : c.argTypes = #[t] := by rw [<- ht]
 have h1 := hv x (by simp [ho,Op.operands,Call.operands,hc,ha'])
 rw [hx] at h1
 obtain ⟨_,ob,hob,hb⟩ := rep_asl.1 h1
 have hg' : ae hh id = some (.arr z xs) := by rw [am (hf id (by simp)),hg]
 have hfd := hget_some.1 hg'
 rw [hfd] at hob; cases hob
 obtain ⟨q',hq',hsl⟩ := hb _ rfl
 simp only [aI,Option.some.injEq] at hq'
 subst hq'
 have exec : ∀ w',(Builtin.clear_ #[t] o.type #[a.eval x]).run P w = .ok (.tuple #[]) w' -> (execOp a.eval o).run P w = .ok (.value (.tuple #[])) w' := by
  intro w' hr
  simp [execOp,ho,resolve,hc,ha',ht',invoke,builtin,hr]
 have hrt : ∀ {w' : World} {B' : Nat -> Prop} {h' : Ups} {loc' : Nat -> Loc},aJ w' B' h' loc' (.tup []) (.tuple #[]) := fun {w' B' h' loc'} => ⟨#[],rfl,.nil⟩
 by_cases hl0 : l = 0
 ·subst hl0
  have he : xs.take o1 ++ List.replicate 0 x0 ++ xs.drop (o1 + 0) = xs := by simp
  rw [he]
  obtain ⟨s',k'⟩ := xc (h' := [(id,some (.arr z xs))] ++ hh) (fun j => by
   simp only [List.cons_append,List.nil_append,aj]
   by_cases e : id = j
   ·subst e; simp [hfd]
   ·simp [e]) s
  obtain ⟨base,cap,hval⟩ : ∃ base cap,a.eval x = .slice base 0 cap := by
   rcases cz hsl with ⟨_,_,h0,ad,hv⟩ | ⟨b,base,sz,ad,cap,_,hv,_⟩
   ·exact ⟨ad,0,hv⟩
   ·exact ⟨_,cap,hv⟩
  refine Runs.value (w' := w) (exec w ?_) ⟨loc,O,who,B,s',k',hrt⟩
  cases base <;> simp [Builtin.clear_,run_underlying hu,hval]
 ·have hloc : ∃ b base sz ad cap,loc id = .at b base sz /\ a.eval x = .slice (some ad) l cap /\ ad = ⟨b,base + o1 * z.1,none⟩ := by
   cases hlc : loc id with
   | nil => rw [hlc] at hsl; obtain ⟨_,h2,_⟩ := hsl; exact absurd h2 hl0
   | «at» b base sz =>
    rw [hlc] at hsl
    obtain ⟨h0,ad,cap,hv,⟨hcp,_⟩,had⟩ := hsl
    exact ⟨b,base,sz,ad,cap,rfl,hv,(had (by omega)).1⟩
  obtain ⟨b,base,sz,ad,cap,hlc,hval,rfl⟩ := hloc
  have hzz := hz
  unfold dd at hzz
  rw [hi] at hzz
  simp only [Option.map_eq_some_iff] at hzz
  obtain ⟨zv,hzv,rfl⟩ := hzz
  have hzr : All2 (al w B hh loc) (aC (iR zv)) zv.cells.toList := ci (fX zv) hpl
  have hzc : zv.cells.size = i.size := by have := hzr.length; simp at this; omega
  have hel' : fe P hh ts (iR zv) = some (x0,[]) := by
   rw [gk (h := []),hel]; intro id hid; rw [kx] at hid; cases hid
  obtain ⟨o',p1,p2,p3,p4,p5⟩ := jN s (s := i.size) ⟨by simpa using hzc,hzr⟩ hel' List.nodup_nil hpl
  have ho' : o' = [] := by
   cases o' with
   | nil => rfl
   | cons r rs => obtain ⟨id,hid,_⟩ := p2 r (by simp); cases hid
  subst ho'
  have hkk := gv hk x0 (by simp)
  have hels := fE (w := w) (B := B) (m := l) (z := z) (x := x0) (row := zv.cells.toList) ⟨p1,by rw [<- hiz]; exact p5,by rw [hz2]; exact hkk⟩
  have hrows : (Builtin.zeroCells zv.cells l).toList = (List.replicate l zv.cells.toList).flatten := jw (by omega) l
  rcases s.blk id _ hg' (fun hx => hx) with ⟨h1,_⟩ | ⟨b',base',sz',cc,ty,fr,o',hl',hh',hsz',hu',he',hO⟩
  ·rw [hlc] at h1; cases h1
  rw [hlc] at hl'; cases hl'
  have hlen : (List.replicate l zv.cells.toList).flatten.length = l * z.1 := by
   have := aw hels; simpa using this
  have hfit : base + xs.length * z.1 <= cc.size := by
   obtain ⟨fl,e1,e2⟩ := aW he'
   have e3 := aw e1
   by_cases h0 : xs.length * z.1 = 0
   ·rw [hlc] at hsl
    obtain ⟨h0',ad,cap',hv,⟨hcp,_⟩,had⟩ := hsl
    have h6 := (had (by omega)).2
    have : 0 < cap' * z.1 := Nat.mul_pos (by omega) (by omega)
    have : 0 < xs.length * z.1 := Nat.mul_pos (by omega) (by omega)
    omega
   ·have hj : fl.length - 1 < fl.length := by omega
    have := e2 (fl.length - 1) fl[fl.length - 1] (List.getElem?_eq_getElem hj)
    simp only [World.cell?,hh'] at this
    have := aQ (xs := cc.toList) (i := base + (fl.length - 1)) (e := fl[fl.length - 1]) (by simpa using this)
    simp at this
    omega
  obtain ⟨w',hst,hwr⟩ := cx (P := P) (b := b) (o := base + o1 * z.1) (ty := ty) (fr := fr) (List.replicate l zv.cells.toList).flatten 0 cc w hh' (by rw [hsz']; exact hu') (by
   rw [hlen]
   have : (o1 + l) * z.1 <= xs.length * z.1 := Nat.mul_le_mul_right _ hle
   rw [Nat.add_mul] at this
   omega) (gl hels)
  simp only [Nat.add_zero] at hwr
  obtain ⟨O',who',s',k'⟩ := vZ s hg' hlc (by omega) (by simpa using hle) hels hwr
  simp only [List.length_replicate] at s' k'
  refine Runs.value (w' := w') (exec w' ?_) ⟨loc,O',who',B,s',k',hrt⟩
  obtain ⟨l',rfl⟩ : ∃ l',l = l' + 1 := ⟨l - 1,by omega⟩
  rw [<- hrows] at hst
  have hzvl : (zeroValue e).run P w = .ok zv w := by simp [zeroValue,cR hi,hzv]
  simp only [Builtin.clear_,hval]
  simp [run_underlying hu,hzvl,hst]
end ops
section
variable {P : Program} {cf : Cfg} {call : Nat -> List D -> Option Ret} {n : Nat} {o : Oper} {σ : St} {R : Type} {K : A -> Ups -> List Nat -> Option R} {r : R}
theorem qX {w : World} {b k : Nat} {c : Array Value} {ty : TypeId} {lo hi : Nat} (hh : w.heap[b]? = some (.cells c ty (lo,hi))) :
  (w.freeze ⟨b,k,none⟩ 1).heap[b]? = some (.cells c ty (if lo == hi then (k,k + 1) else (min lo k,max hi (k + 1)))) := by
 unfold World.freeze
 rw [if_neg (by decide)]
 simp only [Array.getElem?_modify,if_true,hh,Option.map_some]
theorem pO {w : World} {b k b' : Nat} (hb : b' ≠ b) : (w.freeze ⟨b,k,none⟩ 1).heap[b']? = w.heap[b']? := by
 unfold World.freeze
 rw [if_neg (by decide)]
 simp only [Array.getElem?_modify]
 rw [if_neg (fun e => hb e.symm)]
theorem lf {w : World} {b k : Nat} : (w.freeze ⟨b,k,none⟩ 1).heap.size = w.heap.size := by
 unfold World.freeze
 rw [if_neg (by decide)]
 simp
theorem lD {m lo hi : Nat} (h : iU m (lo,hi)) : iU m (if lo == hi then (m,m + 1) else (min lo m,max hi (m + 1))) := by
 intro j hj
 obtain ⟨h1,h2⟩ := h j hj
 simp only at h1 h2
 by_cases e : lo = hi
 ·rw [if_pos (by simp [e])]; simp only; omega
 ·rw [if_neg (by simp [e])]
  have h3 : m <= lo := by
   rcases Nat.lt_or_ge lo m with h4 | h4
   ·exact absurd ⟨Nat.le_refl _,by omega⟩ (h lo h4).1
   ·exact h4
  simp only [Nat.min_def,Nat.max_def]
  split <;> split <;> omega
theorem nT {t e : TypeId} {x : Operand} {id : Nat} {z : Z} {xs : List D} (ho : o.op = .convert t t x) (ht : P.underlying t = some (.slice e)) (he : P.underlying e = some (.int .u8))
  (hx : ev σ x = .asl id none) (hg : ae σ.heap id = some (.arr z xs)) (hz : z.2 <= 1) (hne : 0 < xs.length) (h : K (.asl id none) [(id,some (.arr z xs))] [id] = some r) : bc P n o σ K r := by
 refine ⟨_,_,_,h,⟨fun j hj => .inl (by simp at hj; simp [hj]),?_⟩⟩
 intro F hh a w loc O who B hr hf hfr st
 have hsv := hr x (by simp [ho,Op.operands])
 have hg' : ae hh id = some (.arr z xs) := by rw [am (hf id (by simp)),hg]
 rw [hx] at hsv
 obtain ⟨_,ob,hob,hbv⟩ := (rep_asl.1 hsv)
 have hfd := hget_some.1 hg'
 rw [hfd] at hob; cases hob
 obtain ⟨m,hm,hsl⟩ := hbv _ rfl
 simp only [aI,Option.some.injEq] at hm; subst hm
 have hrep := st.blk id _ hg' (fun hx => hx)
 rcases hrep with ⟨h1,h2,_⟩ | ⟨b,base,sz,c,ty,fr,o',hl,hb,hsz,hu,hes,hO⟩
 ·subst h2; simp at hne
 rw [hl] at hsl
 obtain ⟨ad,cap,hv,hc,had⟩ := hsl
 obtain ⟨rfl,hcz⟩ := had (by omega)
 simp only [b9] at hcz
 have e0 := cQ hz hes; subst e0
 obtain ⟨lo,hi⟩ := fr
 have hbw : who b = some (some id) := st.own id _ hg' (.arr b) (by rw [hO]; simp)
 have nB : ¬ B b := (st.mine b _ hbw).1
 let w' := w.freeze ⟨b,c.size,none⟩ 1
 have hrun : (execOp a.eval o).run P w = .ok (.value (.slice (some ⟨b,base,none⟩) xs.length cap)) w' := by
  have hsh : w.shape? b = some (ty,c.size) := by simp [World.shape?,hb]
  simp [execOp,ho,convert,run_underlying ht,run_underlying he,hv,markStringish,hsh]
  rfl
 have hb' : w'.heap[b]? = some (.cells c ty (if lo == hi then (c.size,c.size + 1) else (min lo c.size,max hi (c.size + 1)))) := qX hb
 have hother : ∀ b',b' ≠ b -> w'.heap[b']? = w.heap[b']? := fun b' h => pO h
 have hchg : Chg [.arr b] w w' := by
  refine ⟨?_,?_,by rw [lf]; exact Nat.le_refl _,fun b' _ hb' => hother b' (by simpa [aa,Res.blk] using hb'),?_⟩
  ·show (w.freeze _ 1).os = _
   unfold World.freeze; rw [if_neg (by decide)]
  ·show (w.freeze _ 1).output = _
   unfold World.freeze; rw [if_neg (by decide)]
  ·intro b' c0 ty0 fr0 h0
   by_cases e : b' = b
   ·subst e
    rw [hb] at h0; cases h0
    exact ⟨c,_,hb',rfl,lD,fun _ _ => rfl⟩
   ·exact ⟨c0,fr0,(hother b' e).trans h0,rfl,fun h => h,fun _ _ => rfl⟩
 have chg : Chg F.o0 F.w0 w' := st.chg.step hchg (by
  intro q hq
  simp only [List.mem_singleton] at hq; subst hq
  exact st.okr id _ hg' _ (by rw [hO]; simp))
 have s1 := st.opn (fun i => i = id)
 obtain ⟨s2,k2⟩ := s1.world (w' := w') (by rw [lf]; exact Nat.le_refl _) chg (by
  intro b' hb2
  refine hother b' ?_
  rintro rfl
  rcases hb2 with hb2 | ⟨i,hi,hx⟩
  ·exact nB hb2
  ·rw [hbw] at hi; cases hi; exact hx (.inr rfl))
 have same : Same w w' B [] := by
  intro b' hb2
  refine hother b' ?_
  rintro rfl
  rcases hb2 with hb2 | hb2
  ·exact nB hb2
  ·simp [aa] at hb2
 have hcell : ∀ j,w'.cell? ⟨b,j,none⟩ = w.cell? ⟨b,j,none⟩ := fun j => by simp only [World.cell?,hb',hb]
 obtain ⟨fl,hfl,hcs⟩ := aW hes
 have hes' : au w' B b base z xs [] := bj (bh (fun _ h => h) same hfl) (fun j v hj => (hcell _).trans (hcs j v hj))
 have ext : Ext hh loc ((id,some (.arr z xs)) :: hh) loc := ch hg' rfl rfl
 have hsz' : iU sz (if lo == hi then (c.size,c.size + 1) else (min lo c.size,max hi (c.size + 1))) := by rw [<- hsz] at hu ⊢; exact lD hu
 have s3 := s2.set id (.arr z xs) (loc id) [.arr b] (by rw [aX loc id rfl]; exact ext) (by rw [aX loc id rfl]; exact .inr ⟨b,base,sz,c,ty,_,[],hl,hb',hsz,hsz',hes',rfl⟩)
  (by intro q hq; simp only [List.mem_singleton] at hq; subst hq; exact .inr hbw) (by simp [aa]) (by intro q hq; simp only [List.mem_singleton] at hq; subst hq; exact st.okr id _ hg' _ (by rw [hO]; simp))
 rw [aX loc id rfl] at s3
 refine Runs.value hrun ⟨loc,_,_,B,s3.same (fun i hi => ?_),k2.trans (Kp.of (fun _ h => h) (fun _ _ => rfl) ext),⟨_,_,_,rfl⟩,some (.arr z xs),by rw [List.singleton_append,aj]; simp,fun blk hb => ?_⟩
 ·rcases hi.1 with h1 | h1
  ·exact h1.elim
  ·exact absurd h1 hi.2
 ·cases hb
  refine ⟨xs.length,rfl,?_⟩
  rw [hl]
  exact ⟨_,cap,rfl,hc,fun _ => ⟨rfl,by simpa [b9] using hcz⟩⟩
end
section
variable {R : Type}
theorem yj {S : Type} (b : Bool) (x y : Option S) (K : S -> Option R) : (br b x y).bind K = br b (x.bind K) (y.bind K) := by cases b <;> rfl
theorem fP {S : Type} (b : Bool) (x : Option S) (K : S -> Option R) : (grd b x).bind K = grd b (x.bind K) := by cases b <;> rfl
theorem iP {S : Type} (xs : List D) (i : Nat) (J : D -> Option S) (K : S -> Option R) : (cT xs i J).bind K = cT xs i fun x => (J x).bind K := by unfold cT; cases xs[i]? <;> rfl
theorem qF {S : Type} (k : IntKind) (x : D) (J : Int -> Option S) (K : S -> Option R) : (asI k x J).bind K = asI k x fun n => (J n).bind K := by
 unfold asI; split
 ·split <;> rfl
 ·rfl
theorem qE {S : Type} (x : D) (J : Bool -> Option S) (K : S -> Option R) : (asB x J).bind K = asB x fun n => (J n).bind K := by unfold asB; split <;> rfl
theorem qG {S : Type} (x : D) (J : ByteArray -> Option S) (K : S -> Option R) : (asS x J).bind K = asS x fun n => (J n).bind K := by unfold asS; split <;> rfl
theorem oq {S : Type} (z : Z) (x : D) (J : List D -> Option S) (K : S -> Option R) : (kq z x J).bind K = kq z x fun n => (J n).bind K := by
 unfold kq; split
 ·split <;> rfl
 ·rfl
theorem ko {S : Type} (z : Z) (x : D) (J : List D -> Option S) (K : S -> Option R) : (jl z x J).bind K = jl z x fun n => (J n).bind K := by
 unfold jl; split
 ·split <;> rfl
 ·rfl
theorem cI {S : Type} (x : D) (J : List D -> Option S) (K : S -> Option R) : (asAgg x J).bind K = asAgg x fun n => (J n).bind K := by unfold asAgg; split <;> rfl
theorem mf {S : Type} (x : D) (J : List D -> Option S) (K : S -> Option R) : (iV x J).bind K = iV x fun n => (J n).bind K := by unfold iV; split <;> rfl
theorem oj {S : Type} (x : D) (J : List D -> Option S) (K : S -> Option R) : (nC x J).bind K = nC x fun n => (J n).bind K := by unfold nC; split <;> rfl
theorem fa {S : Type} (x : List D) (J : D -> List D -> Option S) (K : S -> Option R) : (unc x J).bind K = unc x fun a b => (J a b).bind K := by unfold unc; split <;> rfl
theorem gg {S : Type} (x : List D) (J : Option S) (K : S -> Option R) : (unn x J).bind K = unn x (J.bind K) := by unfold unn; split <;> rfl
theorem rh {S : Type} (x : List D) (J : ByteArray -> Option S) (K : S -> Option R) : (gy x J).bind K = gy x fun a => (J a).bind K := by unfold gy; split <;> rfl
theorem sJ {S : Type} (call : Nat -> List D -> Option Ret) (f : Nat) (ds : List D) (J : D -> List D -> Option S) (K : S -> Option R) : (jb call f ds J).bind K = jb call f ds fun a b => (J a b).bind K := by unfold jb; split <;> rfl
theorem vN {S : Type} (x : List D) (J : List D -> Option S) (K : S -> Option R) : (nam x J).bind K = nam x fun a => (J a).bind K := rfl
theorem gi {S : Type} (P : Program) (own : Bool) (n : Nat) (t : TypeId) (x : D) (J : D -> Option S) (K : S -> Option R) : (kf P own n t x J).bind K = kf P own n t x fun a => (J a).bind K := by
 cases n with
 | zero => rfl
 | succ n =>
  simp only [kf]
  split
  ·exact qE ..
  ·exact qF ..
  ·exact qG ..
  ·split
   ·split
    ·exact ko ..
    ·exact oq ..
   ·rfl
  ·rfl
theorem fc {S : Type} (P : Program) (own : Bool) : ∀ (ts : List TypeId) (xs : List D) (J : List D -> Option S) (K : S -> Option R),(dK P own ts xs J).bind K = dK P own ts xs fun a => (J a).bind K
 | [],xs,J,K => by simp only [dK,gg]
 | t :: ts,xs,J,K => by
  simp only [dK,fa,gi]
  congr; funext x r; congr; funext x'
  exact fc P own ts r _ K
theorem jF {S : Type} (P : Program) (own : Bool) (t : TypeId) (x : D) (J : D -> Option S) (K : S -> Option R) : (lK P own t x J).bind K = lK P own t x fun a => (J a).bind K := by
 unfold lK
 split
 ·split
  ·rw [cI]; congr; funext cs; exact fc ..
  ·rfl
 ·split
  ·rw [oj]; congr; funext cs; exact fc ..
  ·rfl
 ·exact gi ..
theorem lM {S : Type} (P : Program) (own : Bool) : ∀ (ts : List TypeId) (xs : List D) (J : List D -> Option S) (K : S -> Option R),(gK P own ts xs J).bind K = gK P own ts xs fun a => (J a).bind K
 | [],xs,J,K => by simp only [gK,gg]
 | t :: ts,xs,J,K => by
  simp only [gK,fa,jF]
  congr; funext x r; congr; funext x'
  exact lM P own ts r _ K
theorem tG {S : Type} (P : Program) (own : Bool) (ts : List TypeId) (x : D) (J : D -> Option S) (K : S -> Option R) : (pB P own ts x J).bind K = pB P own ts x fun a => (J a).bind K := by
 unfold pB
 split
 ·exact jF ..
 ·rw [mf]; congr; funext cs; exact lM ..
theorem uw {S : Type} (z : Z) (x : D) (J : List D -> Option S) (K : S -> Option R) : (mc z x J).bind K = mc z x fun n => (J n).bind K := by
 unfold mc; split
 ·split <;> rfl
 ·split <;> rfl
 ·rfl
theorem ny {S : Type} (P : Program) (n : Nat) (t : TypeId) (x : D) (J : D -> Option S) (K : S -> Option R) : (lF P n t x J).bind K = lF P n t x fun a => (J a).bind K := by
 cases n with
 | zero => rfl
 | succ n =>
  simp only [lF]
  split
  ·exact qE ..
  ·exact qF ..
  ·exact qG ..
  ·split
   ·exact uw ..
   ·rfl
  ·rfl
theorem lG {S : Type} (P : Program) : ∀ (ts : List TypeId) (xs : List D) (J : List D -> Option S) (K : S -> Option R),(gI P ts xs J).bind K = gI P ts xs fun a => (J a).bind K
 | [],xs,J,K => by simp only [gI,gg]
 | t :: ts,xs,J,K => by
  simp only [gI,fa,ny]
  congr; funext x r; congr; funext x'
  exact lG P ts r _ K
theorem lI {S : Type} (P : Program) (t : TypeId) (x : D) (J : D -> Option S) (K : S -> Option R) : (jE P t x J).bind K = jE P t x fun a => (J a).bind K := by
 unfold jE
 split
 ·split
  ·rw [cI]; congr; funext cs; exact lG ..
  ·rfl
 ·exact ny ..
theorem kg {S : Type} (P : Program) : ∀ (ts : List TypeId) (xs : List D) (J : List D -> Option S) (K : S -> Option R),(dV P ts xs J).bind K = dV P ts xs fun a => (J a).bind K
 | [],xs,J,K => by simp only [dV,gg]
 | t :: ts,xs,J,K => by
  simp only [dV,fa,lI]
  congr; funext x r; congr; funext x'
  exact kg P ts r _ K
theorem tC {S : Type} (P : Program) (own : Bool) (ts : List TypeId) (x : D) (J : D -> Option S) (K : S -> Option R) : (pA P own ts x J).bind K = pA P own ts x fun a => (J a).bind K := by
 unfold pA
 split
 ·exact tG ..
 ·unfold tz
  split
  ·split
   ·exact jF ..
   ·exact lI ..
  ·rw [mf]; congr; funext cs; exact kg ..
theorem cm {S : Type} (P : Program) : ∀ (ts : List TypeId) (xs ys : List D) (J : List D -> Option S) (K : S -> Option R),(bJ P ts xs ys J).bind K = bJ P ts xs ys fun a => (J a).bind K
 | [],[],ys,J,K => by simp only [bJ,gg]
 | [],_ :: _,ys,J,K => rfl
 | _ :: _,[],ys,J,K => rfl
 | t :: ts,x :: xs,ys,J,K => by
  simp only [bJ,fa]
  congr; funext y r
  split
  ·rw [oq]; congr; funext l; exact cm P ts xs r _ K
  ·rw [ko]; congr; funext l; exact cm P ts xs r _ K
  ·rw [gi]; congr; funext l; exact cm P ts xs r _ K
theorem ck {S : Type} (P : Program) (h : Ups) : ∀ (ts : List TypeId) (n : Nat) (ls : List Low) (ys : List D) (J : Nat -> Ups -> Bool -> Option S) (K : S -> Option R),(aK P h n ts ls ys J).bind K = aK P h n ts ls ys fun a b c => (J a b c).bind K
 | [],n,[],ys,J,K => by simp only [aK,gg]
 | [],n,_ :: _,ys,J,K => rfl
 | _ :: _,n,[],ys,J,K => rfl
 | t :: ts,n,l :: ls,ys,J,K => by
  simp only [aK]
  split
  ·exact ck P h ts n ls ys J K
  ·split
   ·split
    ·rw [fa]; congr; funext y r
     rw [oj]; congr; funext zs
     rw [cm]; congr; funext zs'
     rcases ar n zs' with ⟨as,n1,u1⟩
     exact ck P h ts _ ls r _ K
    ·rfl
   ·rfl
  ·rw [fa]; congr; funext y r
   split
   ·split
    ·rw [cI]; congr; funext zs
     rw [cm]; congr; funext zs'
     exact ck P h ts n ls r _ K
    ·rfl
   ·rw [cm]; congr; funext zs'
    exact ck P h ts n ls r _ K
end
section
variable {R S : Type}
theorem sg (P : Program) (cf : Cfg) (call : Nat -> List D -> Option Ret) (n : Nat) (h : Ups) (f : Nat) (as caps : List A) (J : A -> Ups -> List Nat -> Option S) (K : S -> Option R) :
  (jK P cf call n h f as caps J).bind K = jK P cf call n h f as caps fun a b c => (J a b c).bind K := by
 unfold jK
 split
 ·rfl
 ·split
  ·rfl
  ·rfl
  ·simp only
   split
   ·rfl
   ·rw [sJ]; congr; funext r ios
    rw [tC]; congr; funext r'
    rw [ck]; congr; funext n1 u1 m1
    rcases cu n1 r' with ⟨v,n2,u2⟩
    simp only
    split <;> rfl
theorem qL (P : Program) (cf : Cfg) (call : Nat -> List D -> Option Ret) (n : Nat) (h : Ups) (f : A) (as : List A) (J : A -> Ups -> List Nat -> Option S) (K : S -> Option R) :
  (gV P cf call n h f as J).bind K = gV P cf call n h f as fun a b c => (J a b c).bind K := by
 unfold gV
 split
 ·exact sg ..
 ·rfl
theorem pG (P : Program) (n : Nat) (h : Ups) (t : TypeId) (s x : A) (J : A -> Ups -> List Nat -> Option S) (K : S -> Option R) :
  (iE P n h t s x J).bind K = iE P n h t s x fun a b c => (J a b c).bind K := by
 unfold iE
 repeat' first
  | rfl
  | (rw [fP])
  | split
theorem rc (P : Program) (t : TypeId) (z : Z) (e : D) (off : Nat) (J : A -> Option S) (K : S -> Option R) : (eu P t z e off J).bind K = eu P t z e off fun a => (J a).bind K := by
 unfold eu
 split
 ·split
  ·rw [gi]
  ·rw [cI]; congr; funext cs; rw [iP]; congr; funext c; rw [gi]
 ·split
  ·split
   ·split
    ·rw [fc]
    ·rw [cI]; congr; funext cs; rw [fc]
   ·rfl
  ·rfl
theorem qM (z : Z) (e : D) (off : Nat) (J : D -> Option S) (K : S -> Option R) : (jm z e off J).bind K = jm z e off fun a => (J a).bind K := by
 unfold jm
 split
 ·split <;> rfl
 ·rw [cI]; congr; funext cs; rw [iP]
theorem jf (z : Z) (e : D) (off : Nat) (cs : List D) (isAgg : Bool) (J : D -> Option S) (K : S -> Option R) : (da z e off cs isAgg J).bind K = da z e off cs isAgg fun a => (J a).bind K := by
 unfold da
 split
 ·split
  ·rfl
  ·split <;> rfl
 ·rw [cI]
theorem uL (op : BinOp) (k : IntKind) (x y : Int) (J : D -> Option S) (K : S -> Option R) : (uK op k x y J).bind K = uK op k x y fun a => (J a).bind K := by
 unfold uK
 split <;> first | rfl | rw [fP]
theorem uB (P : Program) (op : BinOp) (t : TypeId) (x y : A) (J : D -> Option S) (K : S -> Option R) : (se P op t x y J).bind K = se P op t x y fun a => (J a).bind K := by
 unfold se
 repeat' first
  | rfl
  | rw [fP]
  | rw [uL]
  | split
theorem sj (P : Program) (n : Nat) (h : Ups) (src dst : TypeId) (x : A) (J : A -> Ups -> List Nat -> Option S) (K : S -> Option R) :
  (ox P n h src dst x J).bind K = ox P n h src dst x fun a b c => (J a b c).bind K := by
 unfold ox
 repeat' first
  | rfl
  | rw [rh]
  | rw [fP]
  | split
theorem sy (P : Program) (n : Nat) (h : Ups) (t : TypeId) (a : A) (J : A -> Ups -> List Nat -> Option S) (K : S -> Option R) :
  (ph P n h t a J).bind K = ph P n h t a fun a b c => (J a b c).bind K := by
 unfold ph
 repeat' first
  | rfl
  | (rw [iP]; congr; funext e)
  | rw [rc]
  | (rw [qM]; congr; funext c)
  | (rw [ko]; congr; funext ys)
  | rw [jf]
  | split
theorem rH (P : Program) (h : Ups) (t : TypeId) (a v : A) (J : Ups -> List Nat -> Option S) (K : S -> Option R) :
  (kO P h t a v J).bind K = kO P h t a v fun b c => (J b c).bind K := by
 unfold kO
 repeat' first
  | rfl
  | (rw [iP]; congr; funext e)
  | rw [jf]
  | split
theorem sB (P : Program) (h : Ups) (t : TypeId) (m k : A) (J : A -> Ups -> List Nat -> Option S) (K : S -> Option R) :
  (pi P h t m k J).bind K = pi P h t m k fun a b c => (J a b c).bind K := by
 unfold pi
 repeat' first
  | rfl
  | split
theorem uT (P : Program) (h : Ups) (t : TypeId) (m k v : A) (J : A -> Ups -> List Nat -> Option S) (K : S -> Option R) :
  (uQ P h t m k v J).bind K = uQ P h t m k v fun a b c => (J a b c).bind K := by
 unfold uQ
 repeat' first
  | rfl
  | rw [fP,vN]
  | split
set_option maxHeartbeats 1000000 in
theorem rl (P : Program) (cf : Cfg) (call : Nat -> List D -> Option Ret) (n : Nat) (o : Oper) (σ : St) (J : A -> Ups -> List Nat -> Option S) (K : S -> Option R) :
  (opK P cf call n o σ J).bind K = opK P cf call n o σ fun a b c => (J a b c).bind K := by
 unfold opK
 repeat' first
  | rfl
  | rw [qL]
  | rw [pG]
  | rw [sB]
  | rw [uT]
  | rw [sy]
  | rw [rH]
  | rw [uB]
  | rw [sj]
  | rw [fP]
  | split
end
section
variable {B0 : Nat -> Prop} {w0 : World} {o0 : List Res} {X : Nat -> Prop} {h : Ups} {loc : Nat -> Loc} {O : Nat -> List Res} {who : Nat -> Option (Option Nat)} {B : Nat -> Prop} {w : World}
theorem HS.release (s : HS B0 w0 o0 X h loc O who B w) (ids : List Nat) :
  HS B0 w0 o0 (fun i => X i \/ i ∈ ids) h loc (fun i => if i ∈ ids then [] else O i) (fun b => if ∃ i ∈ ids,who b = some (some i) then some none else who b) B w := by
 refine ⟨?_,?_,?_,?_,?_,s.blt,s.bsub,s.b0,s.chg⟩
 ·intro id b hb hx
  have h1 : id ∉ ids := fun h => hx (.inr h)
  simp only [h1,if_false]
  exact s.blk id b hb (fun h => hx (.inl h))
 ·intro id b hb r hr
  by_cases h1 : id ∈ ids
  ·simp [h1] at hr
  ·simp only [h1,if_false] at hr
   have h2 := s.own id b hb r hr
   have h3 : ¬ ∃ i ∈ ids,who r.blk = some (some i) := by
    rintro ⟨i,hi,e⟩
    rw [h2] at e
    have : id = i := by simpa using e
    subst this; exact h1 hi
   simp only [h3,if_false]; exact h2
 ·intro id b hb
  by_cases h1 : id ∈ ids
  ·simp [h1,aa]
  ·simp only [h1,if_false]; exact s.nod id b hb
 ·intro id b hb r hr
  by_cases h1 : id ∈ ids
  ·simp [h1] at hr
  ·simp only [h1,if_false] at hr; exact s.okr id b hb r hr
 ·intro b ow hb
  by_cases h1 : ∃ i ∈ ids,who b = some (some i)
  ·obtain ⟨i,_,e⟩ := h1; exact s.mine b _ e
  ·simp only [h1,if_false] at hb; exact s.mine b ow hb
theorem HS.drop (s : HS B0 w0 o0 X h loc O who B w) (S : Nat -> Prop) [DecidablePred S] (hS : ∀ b,S b -> ∀ i,who b ≠ some (some i)) :
  HS B0 w0 o0 X h loc O (fun b => if S b then none else who b) B w := by
 refine ⟨s.blk,?_,s.nod,s.okr,?_,s.blt,s.bsub,s.b0,s.chg⟩
 ·intro id b hb r hr
  have h2 := s.own id b hb r hr
  have h3 : ¬ S r.blk := fun h => hS _ h id h2
  simp only [h3,if_false]; exact h2
 ·intro b ow hb
  by_cases h1 : S b
  ·simp [h1] at hb
  ·simp only [h1,if_false] at hb; exact s.mine b ow hb
def Fresh (h : Ups) (n n' : Nat) : Prop := ∀ i,n <= i -> i < n' -> hfind h i = none
structure Raised (B0 : Nat -> Prop) (w0 : World) (o0 : List Res) (X : Nat -> Prop) (h : Ups) (loc : Nat -> Loc) (who : Nat -> Option (Option Nat)) (B : Nat -> Prop) (w : World) (o : List Res) (n n' : Nat) (u : Ups) (loc' : Nat -> Loc) (O' : Nat -> List Res) (who' : Nat -> Option (Option Nat)) : Prop where
 hs : HS B0 w0 o0 X (u ++ h) loc' O' who' B w
 ext : Ext h loc (u ++ h) loc'
 loc : ∀ i,i < n \/ n' <= i -> loc' i = loc i
 who : ∀ b,b ∉ aa o -> who b = some none -> who' b = some none
structure Floats (w0 : World) (o0 : List Res) (who : Nat -> Option (Option Nat)) (o : List Res) : Prop where
 who : ∀ q ∈ o,who q.blk = some none
 nod : (aa o).Nodup
 okr : ∀ q ∈ o,okR w0 o0 q
theorem cr (p q : List Res) : aa (p ++ q) = aa p ++ aa q := List.map_append
theorem Floats.left {o1 o2 : List Res} (f : Floats w0 o0 who (o1 ++ o2)) : Floats w0 o0 who o1 :=
 ⟨fun q hq => f.who q (by simp [hq]),by have := f.nod; rw [cr,List.nodup_append] at this; exact this.1,fun q hq => f.okr q (by simp [hq])⟩
theorem Floats.right {o1 o2 : List Res} (f : Floats w0 o0 who (o1 ++ o2)) : Floats w0 o0 who o2 :=
 ⟨fun q hq => f.who q (by simp [hq]),by have := f.nod; rw [cr,List.nodup_append] at this; exact this.2.1,fun q hq => f.okr q (by simp [hq])⟩
theorem Floats.apart {o1 o2 : List Res} (f : Floats w0 o0 who (o1 ++ o2)) : ∀ q ∈ o1,q.blk ∉ aa o2 := by
 intro q hq hm
 have := f.nod
 rw [cr,List.nodup_append] at this
 exact this.2.2 q.blk (List.mem_map.2 ⟨q,hq,rfl⟩) q.blk hm rfl
theorem Floats.congr {who' : Nat -> Option (Option Nat)} {o : List Res} (f : Floats w0 o0 who o) (hw : ∀ b,b ∈ aa o -> who b = some none -> who' b = some none) : Floats w0 o0 who' o :=
 ⟨fun q hq => hw _ (List.mem_map.2 ⟨q,hq,rfl⟩) (f.who q hq),f.nod,f.okr⟩
theorem dk (s : HS B0 w0 o0 X h loc O who B w) (o : List Res) (n : Nat) : Raised B0 w0 o0 X h loc who B w o n n [] loc O who :=
 ⟨s,Ext.refl h loc,fun _ _ => rfl,fun _ _ h => h⟩
theorem dl (s : HS B0 w0 o0 X h loc O who B w) {n : Nat} (hf : hfind h n = none) (blk : Blk) (l : Loc) {o : List Res} (f : Floats w0 o0 who o)
  (hb : ∀ h' loc',Kp w B h loc w B h' loc' -> dF w B h' loc' l o blk) :
  ∃ O' who',Raised B0 w0 o0 X h loc who B w o n (n + 1) [(n,some blk)] (fun i => if i = n then l else loc i) O' who' := by
 have ext : Ext h loc ((n,some blk) :: h) (fun i => if i = n then l else loc i) := by
  intro j ob ho
  rw [aj]
  have hnj : ¬ n = j := by intro e; subst e; rw [hf] at ho; cases ho
  exact ⟨ob,by simp only [hnj,if_false]; exact ho,fun bb hb => ⟨bb,hb,rfl,rfl,by simp [show ¬ j = n from fun e => hnj e.symm]⟩⟩
 have s2 := s.set n blk l o ext (hb _ _ (Kp.of (fun _ h => h) (fun _ _ => rfl) ext)) (fun q hq => .inl (f.who q hq)) f.nod f.okr
 refine ⟨_,_,s2.same (fun i hi => hi.1),ext,fun i hi => ?_,fun b hb hw => ?_⟩
 ·have : ¬ i = n := by omega
  simp [this]
 ·simp [hb,hw]
theorem Raised.trans {o1 o2 : List Res} {n n1 n2 : Nat} {u1 u2 : Ups} {loc1 loc2 : Nat -> Loc} {O1 O2 : Nat -> List Res} {who1 who2 : Nat -> Option (Option Nat)} (hn : n <= n1) (hn2 : n1 <= n2)
  (r2 : Raised B0 w0 o0 X h loc who B w o2 n1 n2 u2 loc2 O2 who2) (r1 : Raised B0 w0 o0 X (u2 ++ h) loc2 who2 B w o1 n n1 u1 loc1 O1 who1) : Raised B0 w0 o0 X h loc who B w (o1 ++ o2) n n2 (u1 ++ u2) loc1 O1 who1 := by
 refine ⟨by rw [List.append_assoc]; exact r1.hs,by rw [List.append_assoc]; exact r2.ext.trans r1.ext,?_,?_⟩
 ·intro i hi
  rw [r1.loc i (by omega),r2.loc i (by omega)]
 ·intro b hb hw
  rw [cr,List.mem_append,not_or] at hb
  exact r1.who b hb.1 (r2.who b hb.2 hw)
theorem kU {x : D} (h : dw x = true) : cX x \/ ∃ z xs,x = .os z xs := by
 cases x <;> first | exact .inl trivial | exact .inr ⟨_,_,rfl⟩ | cases h
theorem aY (n : Nat) (x : D) : n <= (af n x).2.1 /\ ∀ i ∈ (af n x).2.2.map (·.1),n <= i /\ i < (af n x).2.1 := by
 cases x <;> simp [af]
theorem jv (s : HS B0 w0 o0 X h loc O who B w) {n : Nat} {x : D} {v : Value} {o : List Res} (hx : dw x = true) (hr : ac w B x v o) (f : Floats w0 o0 who o) (hf : Fresh h n (af n x).2.1) :
  ∃ loc' O' who',Raised B0 w0 o0 X h loc who B w o n (af n x).2.1 (af n x).2.2 loc' O' who' /\ al w B ((af n x).2.2 ++ h) loc' (af n x).1 v := by
 rcases kU hx with hv | ⟨z,xs,rfl⟩
 ·have e : af n x = (.d x,n,[]) := by cases x <;> first | rfl | exact hv.elim
  rw [e]
  have e0 := iK hv hr
  subst e0
  exact ⟨loc,O,who,dk s [] n,hv,hr⟩
 ·have hf0 : hfind h n = none := hf n (Nat.le_refl _) (by simp [af])
  simp only [ac] at hr
  rcases hr with ⟨rfl,rfl,ad,rfl⟩ | ⟨b,off,cap,c,ty,fr,o',rfl,hcp,hh,hu,hcz,he,rfl⟩
  ·obtain ⟨O',who',r⟩ := dl s hf0 (.arr z []) .nil f (fun _ _ _ => .inl ⟨rfl,rfl,rfl⟩)
   refine ⟨_,O',who',r,⟨_,_,_,rfl⟩,some (.arr z []),by simp [af,aj],fun blk hb => ?_⟩
   cases hb
   exact ⟨0,rfl,by simp [dI]⟩
  ·obtain ⟨O',who',r⟩ := dl s hf0 (.arr z xs) (.at b off c.size) f (fun _ _ _ => .inr ⟨b,off,c.size,c,ty,fr,o',rfl,hh,rfl,hu,he,rfl⟩)
   refine ⟨_,O',who',r,⟨_,_,_,rfl⟩,some (.arr z xs),by simp [af,aj],fun blk hb => ?_⟩
   cases hb
   refine ⟨xs.length,rfl,?_⟩
   simp only [if_true]
   exact ⟨_,cap,rfl,hcp,fun h0 => ⟨rfl,by simpa [b9] using hcz h0⟩⟩
theorem iq (n : Nat) (x : D) (r : List D) : ar n (x :: r) = ((af n x).1 :: (ar (af n x).2.1 r).1,(ar (af n x).2.1 r).2.1,(af n x).2.2 ++ (ar (af n x).2.1 r).2.2) := rfl
theorem bu : ∀ (xs : List D) (n : Nat),n <= (ar n xs).2.1 /\ ∀ i ∈ (ar n xs).2.2.map (·.1),n <= i /\ i < (ar n xs).2.1
 | [],n => by simp [ar]
 | x :: xs,n => by
  have h1 := aY n x
  have h2 := bu xs (af n x).2.1
  rw [iq]
  simp only [List.map_append,List.mem_append]
  refine ⟨by omega,?_⟩
  rintro i (hi | hi)
  ·have := h1.2 i hi; omega
  ·have := h2.2 i hi; omega
theorem bU {u : Ups} {i : Nat} (h : i ∉ u.map (·.1)) : hfind u i = none := by
 induction u with
 | nil => rfl
 | cons x u ih =>
  obtain ⟨j,b⟩ := x
  simp only [List.map_cons,List.mem_cons,not_or] at h
  simp only [hfind]
  have : (j == i) = false := by simpa using fun e => h.1 e.symm
  rw [this]; exact ih h.2
theorem Fresh.over {n n1 : Nat} {u : Ups} (hf : Fresh h n n1) (hu : ∀ i ∈ u.map (·.1),n1 <= i) : Fresh (u ++ h) n n1 := by
 intro i h1 h2
 rw [az,bU (fun hm => by have := hu i hm; omega)]
 exact hf i h1 h2
theorem gA : ∀ {xs : List D} {n : Nat} {h : Ups} {loc : Nat -> Loc} {O : Nat -> List Res} {who : Nat -> Option (Option Nat)} {vs : List Value} {o : List Res},HS B0 w0 o0 X h loc O who B w -> (∀ x ∈ xs,dw x = true) -> ak w B xs vs o -> Floats w0 o0 who o -> Fresh h n (ar n xs).2.1 ->
  ∃ loc' O' who',Raised B0 w0 o0 X h loc who B w o n (ar n xs).2.1 (ar n xs).2.2 loc' O' who' /\ All2 (al w B ((ar n xs).2.2 ++ h) loc') (ar n xs).1 vs
 | [],n,h,loc,O,who,vs,o,s,_,hr,f,hf => by
  simp only [ak] at hr
  obtain ⟨rfl,rfl⟩ := hr
  exact ⟨loc,O,who,dk s [] n,.nil⟩
 | x :: xs,n,h,loc,O,who,vs,o,s,hc,hr,f,hf => by
  simp only [ak] at hr
  obtain ⟨v,vs',o1,o2,rfl,rfl,hi,h1,h2⟩ := hr
  have m1 := aY n x
  have m2 := bu xs (af n x).2.1
  rw [iq] at hf ⊢
  simp only at hf ⊢
  obtain ⟨loc2,O2,who2,r2,a2⟩ := gA (n := (af n x).2.1) s (fun y hy => hc y (by simp [hy])) h2 f.right (fun i h1 h2 => hf i (by omega) h2)
  have f1 : Floats w0 o0 who2 o1 := f.left.congr (fun b hb hw => by
   obtain ⟨q,hq,rfl⟩ := List.mem_map.1 hb
   exact r2.who _ (f.apart q hq) hw)
  obtain ⟨loc1,O1,who1,r1,a1⟩ := jv (n := n) r2.hs (hc x (by simp)) h1 f1 (Fresh.over (h := h) (fun i h1 h2 => hf i h1 (by omega)) (fun i hi => (m2.2 i hi).1))
  refine ⟨loc1,O1,who1,Raised.trans m1.1 m2.1 r2 r1,?_⟩
  rw [List.append_assoc]
  exact .cons a1 (a2.mono (Kp.of (fun _ h => h) (fun _ _ => rfl) r1.ext))
end
section
variable {B0 : Nat -> Prop} {w0 : World} {o0 : List Res} {X : Nat -> Prop} {B : Nat -> Prop} {w : World}
theorem ig {c : D} (h : eh c = true) : cK 1 c := by cases c <;> simp_all [eh,cK]
theorem vw {h : Ups} {loc : Nat -> Loc} {cs : List D} {v : Value} {o : List Res} (hc : cs.all eh = true) (hr : ac w B (.bp cs) v o) : o = [] /\ bx w B h loc (bpA cs) v := by
 simp only [ac] at hr
 obtain ⟨rfl,b,off,vs,rfl,hb,hcell,hrs⟩ := hr
 refine ⟨rfl,?_⟩
 have many : ∀ cs : List D,cs.all eh = true -> ak w B cs vs [] -> bx w B h loc (.rp (cs.length,1) [.agg cs] 0 0) (.pointer (some ⟨b,off,none⟩)) := by
  intro cs hc hrs
  refine ⟨b,off,by simp,hb,Nat.le_refl _,?_⟩
  exact repEs_cons.2 ⟨vs,[],[],rfl,⟨hrs,rfl,fun c hcm => ig (List.all_eq_true.1 hc c hcm)⟩,hcell,repEs_nil.2 rfl⟩
 match cs,hc,hrs with
 | [c],hc,hrs =>
  obtain ⟨u,hu,hi,hr⟩ := repDs_one.1 hrs
  have hcd : ay c = [c] := by cases c <;> first | rfl | exact hi.elim
  refine ⟨b,off,by simp,hb,Nat.le_refl _,?_⟩
  exact repEs_cons.2 ⟨vs,[],[],rfl,⟨by rw [hcd]; exact hrs,by rw [hcd]; rfl,by rw [hcd]; exact fun c hcm => ig (List.all_eq_true.1 hc c hcm)⟩,hcell,repEs_nil.2 rfl⟩
 | [],hc,hrs => exact many [] hc hrs
 | c1 :: c2 :: cs,hc,hrs => exact many (c1 :: c2 :: cs) hc hrs
theorem ws {h : Ups} {loc : Nat -> Loc} {cs : List D} {v : Value} (ha : bx w B h loc (bpA cs) v) : al w B h loc (bpA cs) v := by
 match cs,ha with
 | [c],ha => exact ha
 | [],ha => exact ha
 | c1 :: c2 :: cs,ha => exact ha
def yq : D -> A := fun c => match c with | .bp cs => bpA cs | _ => .undef
theorem qK {h : Ups} {loc : Nat -> Loc} : ∀ {caps : List D} {vs : List Value} {o : List Res},(∀ c ∈ caps,(match c with | .bp cs => cs.all eh | _ => true) = true) -> bv w B caps vs o -> All2 (al w B h loc) (caps.map yq) vs
 | [],vs,o,_,hr => by simp only [bv] at hr; rw [hr.1]; exact .nil
 | c :: caps,vs,o,hc,hr => by
  simp only [bv] at hr
  obtain ⟨v,vs',o1,o2,rfl,rfl,h1,h2⟩ := hr
  refine .cons ?_ (qK (fun d hd => hc d (by simp [hd])) h2)
  have := hc c (by simp)
  cases c <;> first | exact ws (vw this h1).2 | trivial
theorem fp (n : Nat) (x : D) : n <= (ap n x).2.1 /\ ∀ i ∈ (ap n x).2.2.map (·.1),n <= i /\ i < (ap n x).2.1 := by
 cases x with
 | agg cs => exact bu cs n
 | op cs =>
  have h := bu cs (n + 1)
  have e : ap n (.op cs) = (.ref n 0 0,(ar (n + 1) cs).2.1,(n,some (.var (ar (n + 1) cs).1)) :: (ar (n + 1) cs).2.2) := rfl
  rw [e]
  simp only [List.map_cons,List.mem_cons]
  refine ⟨by omega,?_⟩
  rintro i (rfl | hi)
  ·omega
  ·have := h.2 i hi; omega
 | bp cs => simp [ap]
 | fn f cs => simp [ap]
 | int k m => exact aY n (.int k m)
 | bool b => exact aY n (.bool b)
 | str t => exact aY n (.str t)
 | nl => exact aY n .nl
 | np => exact aY n .np
 | rs z xs => exact aY n (.rs z xs)
 | os z xs => exact aY n (.os z xs)
 | tup vs => exact aY n (.tup vs)
 | dead => exact aY n .dead
theorem gB {h : Ups} {loc : Nat -> Loc} {O : Nat -> List Res} {who : Nat -> Option (Option Nat)} (s : HS B0 w0 o0 X h loc O who B w) {n : Nat} {x : D} {v : Value} {o : List Res} (hx : okV x = true) (hr : ac w B x v o) (f : Floats w0 o0 who o) (hf : Fresh h n (ap n x).2.1) :
  ∃ loc' O' who',Raised B0 w0 o0 X h loc who B w o n (ap n x).2.1 (ap n x).2.2 loc' O' who' /\ bx w B ((ap n x).2.2 ++ h) loc' (ap n x).1 v := by
 have one : dw x = true -> ap n x = af n x -> (∀ cs,(af n x).1 ≠ .agg cs) -> (∀ g cs,(af n x).1 ≠ .fn g cs) -> (∀ cs,(af n x).1 ≠ .tup cs) -> ∃ loc' O' who',Raised B0 w0 o0 X h loc who B w o n (ap n x).2.1 (ap n x).2.2 loc' O' who' /\ bx w B ((ap n x).2.2 ++ h) loc' (ap n x).1 v := by
  intro hc e n1 n2 n3
  rw [e] at hf ⊢
  obtain ⟨loc',O',who',r,a⟩ := jv s hc hr f hf
  refine ⟨loc',O',who',r,?_⟩
  cases hA : (af n x).1 <;> rw [hA] at a <;> first | exact a | exact absurd hA (n1 _) | exact absurd hA (n2 _ _) | exact absurd hA (n3 _)
 cases x with
 | agg cs =>
  simp only [ac] at hr
  obtain ⟨vs,rfl,hr⟩ := hr
  obtain ⟨loc',O',who',r,a⟩ := gA s (fun c hc => List.all_eq_true.1 hx c hc) hr f hf
  exact ⟨loc',O',who',r,vs,rfl,a⟩
 | op cs =>
  have e : ap n (.op cs) = (.ref n 0 0,(ar (n + 1) cs).2.1,[(n,some (.var (ar (n + 1) cs).1))] ++ (ar (n + 1) cs).2.2) := rfl
  rw [e] at hf ⊢
  simp only at hf ⊢
  simp only [ac] at hr
  obtain ⟨b,off,vs,c,ty,fr,o',rfl,hh,hu,hl,hc,hr,rfl⟩ := hr
  have m := bu cs (n + 1)
  have f2 : Floats w0 o0 who ([.rng b off (off + cs.length)] ++ o') := f
  obtain ⟨loc2,O2,who2,r2,a2⟩ := gA (n := n + 1) s (fun c hc => List.all_eq_true.1 hx c hc) hr f2.right (fun i h1 h2 => hf i (by omega) h2)
  have f1 : Floats w0 o0 who2 [.rng b off (off + cs.length)] := f2.left.congr (fun b' hb hw => by
   obtain ⟨q,hq,rfl⟩ := List.mem_map.1 hb
   exact r2.who _ (f2.apart q hq) hw)
  have hn0 : hfind ((ar (n + 1) cs).2.2 ++ h) n = none := Fresh.over (n := n) (n1 := n + 1) (fun i h1 h2 => hf i h1 (by omega)) (fun i hi => (m.2 i hi).1) n (Nat.le_refl _) (by omega)
  have hlen : (ar (n + 1) cs).1.length = cs.length := by rw [a2.length,bi hr]
  obtain ⟨O1,who1,r1⟩ := dl r2.hs hn0 (.var (ar (n + 1) cs).1) (.at b off c.size) f1 (fun h' loc' k => ⟨b,off,c.size,c,ty,fr,vs,rfl,hh,rfl,hu,by omega,hc,a2.mono k,by rw [hlen]⟩)
  refine ⟨_,O1,who1,Raised.trans (by omega) m.1 r2 r1,⟨_,rfl⟩,some (.var (ar (n + 1) cs).1),?_,fun blk hb => ?_⟩
  ·show hfind ((n,_) :: _) n = _
   rw [aj]; simp
  ·cases hb
   exact ⟨b,off,c.size,by simp,by simp [b9]⟩
 | bp cs =>
  obtain ⟨rfl,ha⟩ := vw (h := h) (loc := loc) hx hr
  exact ⟨loc,O,who,dk s [] n,ha⟩
 | fn g caps =>
  simp only [ac] at hr
  obtain ⟨rfl,vs,rfl,hr⟩ := hr
  refine ⟨loc,O,who,dk s [] n,vs,rfl,?_⟩
  exact qK (fun c hc => List.all_eq_true.1 hx c hc) hr
 | tup vs => cases hx
 | int k m => exact one hx rfl (by simp [af]) (by simp [af]) (by simp [af])
 | bool b => exact one hx rfl (by simp [af]) (by simp [af]) (by simp [af])
 | str t => exact one hx rfl (by simp [af]) (by simp [af]) (by simp [af])
 | nl => exact one hx rfl (by simp [af]) (by simp [af]) (by simp [af])
 | np => exact one hx rfl (by simp [af]) (by simp [af]) (by simp [af])
 | rs z xs => exact one hx rfl (by simp [af]) (by simp [af]) (by simp [af])
 | os z xs => exact one hx rfl (by simp [af]) (by simp [af]) (by simp [af])
 | dead => cases hx
theorem dR (n : Nat) (x : D) (r : List D) : aF n (x :: r) = ((ap n x).1 :: (aF (ap n x).2.1 r).1,(aF (ap n x).2.1 r).2.1,(ap n x).2.2 ++ (aF (ap n x).2.1 r).2.2) := rfl
theorem cZ : ∀ (xs : List D) (n : Nat),n <= (aF n xs).2.1 /\ ∀ i ∈ (aF n xs).2.2.map (·.1),n <= i /\ i < (aF n xs).2.1
 | [],n => by simp [aF]
 | x :: xs,n => by
  have h1 := fp n x
  have h2 := cZ xs (ap n x).2.1
  rw [dR]
  simp only [List.map_append,List.mem_append]
  refine ⟨by omega,?_⟩
  rintro i (hi | hi)
  ·have := h1.2 i hi; omega
  ·have := h2.2 i hi; omega
theorem All2.mono2 {h h' : Ups} {loc loc' : Nat -> Loc} {B' : Nat -> Prop} {w' : World} (k : Kp w B h loc w' B' h' loc') {as : List A} {vs : List Value} (a : All2 (bx w B h loc) as vs) : All2 (bx w' B' h' loc') as vs := a.mono (fun _ _ => k.a2)
theorem ir : ∀ {xs : List D} {n : Nat} {h : Ups} {loc : Nat -> Loc} {O : Nat -> List Res} {who : Nat -> Option (Option Nat)} {vs : List Value} {o : List Res},HS B0 w0 o0 X h loc O who B w -> (∀ x ∈ xs,okV x = true) -> bv w B xs vs o -> Floats w0 o0 who o -> Fresh h n (aF n xs).2.1 ->
  ∃ loc' O' who',Raised B0 w0 o0 X h loc who B w o n (aF n xs).2.1 (aF n xs).2.2 loc' O' who' /\ All2 (bx w B ((aF n xs).2.2 ++ h) loc') (aF n xs).1 vs
 | [],n,h,loc,O,who,vs,o,s,_,hr,f,hf => by
  simp only [bv] at hr
  obtain ⟨rfl,rfl⟩ := hr
  exact ⟨loc,O,who,dk s [] n,.nil⟩
 | x :: xs,n,h,loc,O,who,vs,o,s,hc,hr,f,hf => by
  simp only [bv] at hr
  obtain ⟨v,vs',o1,o2,rfl,rfl,h1,h2⟩ := hr
  have m1 := fp n x
  have m2 := cZ xs (ap n x).2.1
  rw [dR] at hf ⊢
  simp only at hf ⊢
  obtain ⟨loc2,O2,who2,r2,a2⟩ := ir (n := (ap n x).2.1) s (fun y hy => hc y (by simp [hy])) h2 f.right (fun i h1 h2 => hf i (by omega) h2)
  have f1 : Floats w0 o0 who2 o1 := f.left.congr (fun b hb hw => by
   obtain ⟨q,hq,rfl⟩ := List.mem_map.1 hb
   exact r2.who _ (f.apart q hq) hw)
  obtain ⟨loc1,O1,who1,r1,a1⟩ := gB (n := n) r2.hs (hc x (by simp)) h1 f1 (Fresh.over (h := h) (fun i h1 h2 => hf i h1 (by omega)) (fun i hi => (m2.2 i hi).1))
  refine ⟨loc1,O1,who1,Raised.trans m1.1 m2.1 r2 r1,?_⟩
  rw [List.append_assoc]
  exact .cons a1 (All2.mono2 (Kp.of (fun _ h => h) (fun _ _ => rfl) r1.ext) a2)
def wH : D -> Bool
 | .tup vs => vs.all okV
 | x => okV x
theorem fm (n : Nat) (x : D) : n <= (cu n x).2.1 /\ ∀ i ∈ (cu n x).2.2.map (·.1),n <= i /\ i < (cu n x).2.1 := by
 cases x with
 | tup vs => exact cZ vs n
 | _ => exact fp n _
theorem sP {h : Ups} {loc : Nat -> Loc} {O : Nat -> List Res} {who : Nat -> Option (Option Nat)} (s : HS B0 w0 o0 X h loc O who B w) {n : Nat} {x : D} {v : Value} {o : List Res} (hx : wH x = true) (hr : ac w B x v o) (f : Floats w0 o0 who o) (hf : Fresh h n (cu n x).2.1) :
  ∃ loc' O' who',Raised B0 w0 o0 X h loc who B w o n (cu n x).2.1 (cu n x).2.2 loc' O' who' /\ aJ w B ((cu n x).2.2 ++ h) loc' (cu n x).1 v := by
 have one : okV x = true -> cu n x = ap n x -> ∃ loc' O' who',Raised B0 w0 o0 X h loc who B w o n (cu n x).2.1 (cu n x).2.2 loc' O' who' /\ aJ w B ((cu n x).2.2 ++ h) loc' (cu n x).1 v := by
  intro hc e
  rw [e] at hf ⊢
  obtain ⟨loc',O',who',r,a⟩ := gB s hc hr f hf
  exact ⟨loc',O',who',r,bZ a⟩
 cases x with
 | tup vs =>
  simp only [ac] at hr
  obtain ⟨us,rfl,hr⟩ := hr
  obtain ⟨loc',O',who',r,a⟩ := ir s (fun c hc => List.all_eq_true.1 hx c hc) hr f hf
  exact ⟨loc',O',who',r,us,rfl,a⟩
 | _ => exact one hx rfl
end
def LB (B : Nat -> Prop) (who : Nat -> Option (Option Nat)) (L : List Nat) : Nat -> Prop := fun b => B b \/ ∃ id ∈ L,who b = some (some id)
def FromC (h : Ups) (O : Nat -> List Res) (ids : List Nat) (o : List Res) : Prop :=
 ∀ q ∈ o,∃ id ∈ ids,(∃ b,ae h id = some b) /\ ∃ r0 ∈ O id,q.blk = r0.blk /\ ∀ j,q.covers q.blk j -> r0.covers q.blk j
theorem From.toC {h : Ups} {O : Nat -> List Res} {ids : List Nat} {o : List Res} (f : From h O ids o) : FromC h O ids o := by
 intro q hq
 obtain ⟨id,hid,hb,hm⟩ := f q hq
 exact ⟨id,hid,hb,q,hm,rfl,fun _ h => h⟩
section
variable {P : Program} {F : Fr} {h : Ups} {loc : Nat -> Loc} {O : Nat -> List Res} {who : Nat -> Option (Option Nat)} {B : Nat -> Prop} {w : World}
theorem FromC.whose (s : HSc F h loc O who B w) {ids : List Nat} {o : List Res} (f : FromC h O ids o) : ∀ q ∈ o,∃ id ∈ ids,Go.Eng.hfind h id ≠ none /\ who q.blk = some (some id) := by
 intro q hq
 obtain ⟨id,hid,⟨b,hb⟩,r0,hr0,e,_⟩ := f q hq
 exact ⟨id,hid,by rw [hget_some.1 hb]; simp,by rw [e]; exact s.own id b hb r0 hr0⟩
theorem FromC.okr (s : HSc F h loc O who B w) {ids : List Nat} {o : List Res} (f : FromC h O ids o) : ∀ q ∈ o,okR F.w0 F.o0 q := by
 intro q hq
 obtain ⟨id,hid,⟨b,hb⟩,r0,hr0,e,hc⟩ := f q hq
 rcases s.okr id b hb r0 hr0 with h1 | ⟨h1,h2⟩
 ·exact .inl (by rw [e]; exact h1)
 ·refine .inr ⟨by rw [e]; exact h1,fun j hj => ?_⟩
  have := h2 j (by have := hc j hj; rw [e] at this; exact this)
  rw [e]; exact this
theorem FromC.append (s : HSc F h loc O who B w) {g1 g2 : List Nat} {o1 o2 : List Res} (h1 : FromC h O g1 o1) (h2 : FromC h O g2 o2) (hn : (g1 ++ g2).Nodup) (n1 : (aa o1).Nodup) (n2 : (aa o2).Nodup) :
  FromC h O (g1 ++ g2) (o1 ++ o2) /\ (aa (o1 ++ o2)).Nodup := by
 constructor
 ·intro r hr
  rcases List.mem_append.1 hr with hr | hr
  ·obtain ⟨id,hid,x⟩ := h1 r hr; exact ⟨id,List.mem_append.2 (.inl hid),x⟩
  ·obtain ⟨id,hid,x⟩ := h2 r hr; exact ⟨id,List.mem_append.2 (.inr hid),x⟩
 ·rw [cr,List.nodup_append]
  refine ⟨n1,n2,?_⟩
  intro x hx y hy e
  obtain ⟨r1,hr1,rfl⟩ := List.mem_map.1 hx
  obtain ⟨r2,hr2,rfl⟩ := List.mem_map.1 hy
  obtain ⟨i1,hi1,_,w1⟩ := h1.whose s r1 hr1
  obtain ⟨i2,hi2,_,w2⟩ := h2.whose s r2 hr2
  rw [e,w2] at w1
  have : i2 = i1 := by simpa using w1
  subst this
  exact (List.nodup_append.1 hn).2.2 i2 hi1 i2 hi2 rfl
theorem FromC.mono {g1 g2 : List Nat} {o : List Res} (f : FromC h O g1 o) (hg : ∀ i ∈ g1,i ∈ g2) : FromC h O g2 o := by
 intro q hq
 obtain ⟨id,hid,x⟩ := f q hq
 exact ⟨id,hg id hid,x⟩
theorem LB.mono {L L' : List Nat} (hL : ∀ i ∈ L,i ∈ L') : ∀ b,LB B who L b -> LB B who L' b := by
 rintro b (h | ⟨i,hi,hw⟩)
 ·exact .inl h
 ·exact .inr ⟨i,hL i hi,hw⟩
theorem dn {B' : Nat -> Prop} (hB : ∀ b,B b -> B' b) {x : D} {v : Value} {o : List Res} (h : ac w B x v o) : ac w B' x v o := aR hB x v o (fun _ _ => rfl) h
theorem jz {B' : Nat -> Prop} (hB : ∀ b,B b -> B' b) {x : List D} {v : List Value} {o : List Res} (h : ak w B x v o) : ak w B' x v o := bQ hB x v o (fun _ _ => rfl) h
theorem xo {B' : Nat -> Prop} (hB : ∀ b,B b -> B' b) {x : List D} {v : List Value} {o : List Res} (h : bv w B x v o) : bv w B' x v o := fw hB x v o (fun _ _ => rfl) h
theorem nh {B' : Nat -> Prop} (hB : ∀ b,B b -> B' b) {b off : Nat} {z : Z} {xs : List D} {o : List Res} (h : au w B b off z xs o) : au w B' b off z xs o := av hB b off z xs o (fun _ _ => rfl) (fun _ => rfl) h
theorem jU (s : HSc F h loc O who B w) {id : Nat} {rng : Option (Nat × Nat)} {v : Value} {z : Z} {xs : List D} {L : List Nat} (ha : al w B h loc (.asl id rng) v) (hg : ae h id = some (.arr z xs) \/ ae h id = some (.fz z xs)) (hz : z.2 <= 1) (hL : id ∈ L) :
  ac w (LB B who L) (.rs z (part xs rng)) v [] := by
 obtain ⟨_,ob,hob,hb⟩ := ha
 rcases hg with hg | hg
 ·rw [hget_some.1 hg] at hob; cases hob
  obtain ⟨m,hm,hs⟩ := hb _ rfl
  simp [aI] at hm; subst hm
  refine pP (B := LB B who L) hz ?_ hs
  rcases s.blk id _ hg (fun hx => hx) with ⟨h1,h2,_⟩ | ⟨b,base,sz,c,ty,fr,o',hl,hh,hsz,hu,he,hO⟩
  ·exact .inl ⟨h1,h2⟩
  ·have e0 := cQ hz he
   subst e0
   exact .inr ⟨b,base,sz,hl,nh (fun b h => .inl h) he,fun _ => .inr ⟨id,hL,s.own id _ hg (.arr b) (by rw [hO]; simp)⟩⟩
 ·rw [hget_some.1 hg] at hob; cases hob
  obtain ⟨m,hm,hs⟩ := hb _ rfl
  simp [aI] at hm; subst hm
  obtain ⟨_,_,hb'⟩ := s.blk id _ hg (fun hx => hx)
  exact dn (fun b h => .inl h) (pP hz hb' hs)
theorem ub (s : HSc F h loc O who B w) {id : Nat} {z : Z} {xs : List D} (hg : ae h id = some (.fz z xs)) : z.2 <= 1 := (s.blk id _ hg (fun hx => hx)).2.1
theorem pd (s : HSc F h loc O who B w) {t : TypeId} {a : A} {v : Value} {x : D} {L ids : List Nat} (ha : al w B h loc a v) (hl : ce P h t a = some (x,ids)) (hL : ∀ i ∈ ids,i ∈ L) : ac w (LB B who L) x v [] /\ bV x := by
 cases a with
 | asl id rng =>
  simp only [ce] at hl
  split at hl
  ·rename_i z xs hg
   split at hl
   ·rename_i hz
    cases hl
    exact ⟨jU s ha (.inl hg) (of_decide_eq_true hz) (hL id (by simp)),trivial⟩
   ·cases hl
  ·rename_i z xs hg
   cases hl
   exact ⟨jU s ha (.inr hg) (ub s hg) (hL id (by simp)),trivial⟩
  ·cases hl
 | d y =>
  by_cases hy : y = .nl
  ·subst hy
   have hv : v = .slice none 0 0 := (rep_nl (w := w) (B := B) (h := h) (loc := loc)).1 ha
   simp only [ce] at hl
   split at hl
   ·simp only [Option.map_eq_some_iff] at hl
    obtain ⟨z,_,hz⟩ := hl
    cases hz
    exact ⟨by simp [ac,hv],trivial⟩
   ·cases hl
  ·have : ce P h t (.d y) = some (y,[]) := by cases y <;> first | rfl | exact absurd rfl hy
   rw [this] at hl; cases hl
   exact ⟨dn (fun b h => .inl h) ha.2,dN ha.1⟩
 | _ => simp [ce] at hl
theorem pe (s : HSc F h loc O who B w) {L : List Nat} : ∀ {ts : List TypeId} {as : List A} {vs : List Value} {xs : List D} {ids : List Nat},All2 (al w B h loc) as vs -> ef P h ts as = some (xs,ids) -> (∀ i ∈ ids,i ∈ L) -> ak w (LB B who L) xs vs []
 | [],[],vs,xs,ids,ha,hl,hL => by
  simp [ef] at hl
  obtain ⟨rfl,rfl⟩ := hl
  cases ha
  simp [ak]
 | [],_ :: _,vs,xs,ids,ha,hl,hL => by simp [ef] at hl
 | _ :: _,[],vs,xs,ids,ha,hl,hL => by simp [ef] at hl
 | t :: ts,a :: as,vs,xs,ids,ha,hl,hL => by
  simp only [ef] at hl
  split at hl
  ·rename_i x i r j h1 h2
   simp only [Option.some.injEq,Prod.mk.injEq] at hl
   obtain ⟨rfl,rfl⟩ := hl
   cases ha with | cons a1 a2 =>
   obtain ⟨p1,p2⟩ := pd s a1 h1 (fun i hi => hL i (by simp [hi]))
   have q := pe s a2 h2 (fun i hi => hL i (by simp [hi]))
   simp only [ak]
   exact ⟨_,_,[],[],rfl,rfl,p2,p1,q⟩
  ·cases hl
theorem iL (s : HSc F h loc O who B w) {L : List Nat} : ∀ {as : List A} {vs : List Value} {xs : List D} {ids : List Nat},All2 (al w B h loc) as vs -> ie h as = some (xs,ids) -> (∀ i ∈ ids,i ∈ L) -> ak w (LB B who L) xs vs []
 | [],vs,xs,ids,ha,hl,hL => by
  simp [ie] at hl
  obtain ⟨rfl,rfl⟩ := hl
  cases ha
  simp [ak]
 | a :: as,vs,xs,ids,ha,hl,hL => by
  simp only [ie] at hl
  cases ha with | cons a1 a2 =>
  split at hl
  ·cases hl
  rename_i r j h2
  have cons : ∀ {v : Value} {vs : List Value} {x : D},ac w (LB B who L) x v [] -> bV x -> ak w (LB B who L) r vs [] -> ak w (LB B who L) (x :: r) (v :: vs) [] := by
   intro v vs x h1 h3 h4
   simp only [ak]; exact ⟨_,_,[],[],rfl,rfl,h3,h1,h4⟩
  split at hl
  ·rename_i id rng
   split at hl
   ·rename_i z ys hg
    split at hl
    ·rename_i hz
     cases hl
     exact cons (jU s a1 (.inl hg) (of_decide_eq_true hz) (hL id (by simp))) trivial (iL s a2 h2 (fun i hi => hL i (by simp [hi])))
    ·cases hl
   ·rename_i z ys hg
    cases hl
    exact cons (jU s a1 (.inr hg) (ub s hg) (hL id (by simp))) trivial (iL s a2 h2 (fun i hi => hL i (by simp [hi])))
   ·cases hl
  ·rename_i x
   cases hl
   exact cons (dn (fun b h => .inl h) a1.2) (dN a1.1) (iL s a2 h2 hL)
  ·cases hl
theorem mJ (s : HSc F h loc O who B w) {L ids : List Nat} {a : A} {v : Value} {x : D} (ha : al w B h loc a v) (hl : bA h a = some (x,ids)) (hL : ∀ i ∈ ids,i ∈ L) : ac w (LB B who L) x v [] := by
 cases a with
 | rp z xs i off =>
  simp only [bA] at hl
  split at hl
  ·rename_i off' x' hi
   cases hl
   obtain ⟨b,base,rfl,hB,hz,he⟩ := ha
   obtain ⟨vs,o1,o2,o3,ho,he2,hc,_,_⟩ := d0 he hi
   have e2 : o2 = [] := ft hz he2.2.2 he2.1
   subst e2
   simp only [ac]
   exact ⟨trivial,b,_,vs,rfl,.inl hB,by simpa using hc,jz (fun b h => .inl h) he2.1⟩
  ·cases hl
 | ref id i off =>
  cases i with
  | succ i => simp [bA] at hl
  | zero =>
   cases off with
   | succ off => simp [bA] at hl
   | zero =>
    simp only [bA] at hl
    split at hl
    ·rename_i cs hg
     simp only [Option.map_eq_some_iff] at hl
     obtain ⟨⟨r,j⟩,hr,e⟩ := hl
     cases e
     obtain ⟨_,ob,hob,hb⟩ := ha
     rw [hget_some.1 hg] at hob; cases hob
     obtain ⟨b,base,sz,hloc,rfl⟩ := hb _ rfl
     obtain ⟨b',base',sz',c,ty,fr,vs,hl',hh,hsz,hu,hle,hc,hcs,hO⟩ := s.blk id _ hg (fun hx => hx)
     rw [hloc] at hl'; cases hl'
     simp only [ac]
     refine ⟨trivial,b,base,vs,by simp [b9],.inr ⟨id,hL id (by simp),s.own id _ hg (.rng b base (base + cs.length)) (by rw [hO]; simp)⟩,hc,?_⟩
     exact iL s hcs hr (fun i hi => hL i (by simp [hi]))
    ·cases hl
 | _ => simp [bA] at hl
theorem il (s : HSc F h loc O who B w) {L : List Nat} : ∀ {as : List A} {vs : List Value} {xs : List D} {ids : List Nat},All2 (al w B h loc) as vs -> bC h as = some (xs,ids) -> (∀ i ∈ ids,i ∈ L) -> bv w (LB B who L) xs vs []
 | [],vs,xs,ids,ha,hl,hL => by
  simp [bC] at hl
  obtain ⟨rfl,rfl⟩ := hl
  cases ha
  simp [bv]
 | a :: as,vs,xs,ids,ha,hl,hL => by
  simp only [bC] at hl
  cases ha with | cons a1 a2 =>
  split at hl
  ·rename_i x i r j h1 h2
   simp only [Option.some.injEq,Prod.mk.injEq] at hl
   obtain ⟨rfl,rfl⟩ := hl
   simp only [bv]
   exact ⟨_,_,[],[],rfl,rfl,mJ s a1 h1 (fun i hi => hL i (by simp [hi])),il s a2 h2 (fun i hi => hL i (by simp [hi]))⟩
  ·cases hl
end
def iv (lc : Option Nat) (w : World) (B : Nat -> Prop) (x : D) (v : Value) (o : List Res) : Prop :=
 match x with
 | .os z xs => match lc with
  | none => xs = [] /\ o = [] /\ ∃ a,v = .slice a 0 0
  | some b => ∃ c ty fr,w.heap[b]? = some (.cells c ty fr) /\ iU c.size fr /\
    (
     (∃ off cap o',v = .slice (some ⟨b,off,none⟩) xs.length cap /\ 0 < cap /\ xs.length <= cap /\ off + cap * z.1 <= c.size /\ au w B b off z xs o' /\ o = .arr b :: o') \/
     (xs = [] /\ (∃ a,v = .slice (some a) 0 0) /\ o = [.arr b]))
 | x => cX x /\ ac w B x v o
def cg (w : World) (B : Nat -> Prop) : List (Option Nat) -> List D -> List Value -> List Res -> Prop
 | [],[],vs,o => vs = [] /\ o = []
 | lc :: lcs,c :: cs,vs,o => ∃ v vs' o1 o2,vs = v :: vs' /\ o = o1 ++ o2 /\ iv lc w B c v o1 /\ cg w B lcs cs vs' o2
 | _,_,_,_ => False
def qj (lcs : List (Option Nat)) (w : World) (B : Nat -> Prop) (x : D) (v : Value) (o : List Res) : Prop :=
 match x with
 | .agg cs => ∃ vs : Array Value,v = .agg vs /\ cg w B lcs cs vs.toList o
 | x => cg w B lcs [x] [v] o
def gQ (m : Mode) (lcs : List (Option Nat)) (w : World) (B : Nat -> Prop) (x : D) (v : Value) (o : List Res) : Prop :=
 match m with
 | .mut => match x with
  | .op cs => ac w B (.op cs) v o
  | x => qj lcs w B x v o
 | _ => ac w B x v o
section
variable {P : Program} {F : Fr} {h : Ups} {loc : Nat -> Loc} {O : Nat -> List Res} {who : Nat -> Option (Option Nat)} {B : Nat -> Prop} {w : World}
def gw (loc : Nat -> Loc) (h : Ups) : A -> Option Nat
 | .asl id _ => match ae h id,loc id with
  | some (.arr _ _),.at b _ _ => some b
  | _,_ => none
 | _ => none
theorem nb {B' : Nat -> Prop} (hB : ∀ b,B b -> B' b) {lc : Option Nat} {x : D} {v : Value} {o : List Res} (h : iv lc w B x v o) : iv lc w B' x v o := by
 cases x with
 | os z xs =>
  cases lc with
  | none => exact h
  | some b =>
   obtain ⟨c,ty,fr,h1,h2,h3⟩ := h
   refine ⟨c,ty,fr,h1,h2,h3.imp (fun h => ?_) (fun h => h)⟩
   obtain ⟨off,cap,o',h4,h5,h6,h7,h8,h9⟩ := h
   exact ⟨off,cap,o',h4,h5,h6,h7,nh hB h8,h9⟩
 | _ => exact ⟨h.1,dn hB h.2⟩
theorem fq {B' : Nat -> Prop} (hB : ∀ b,B b -> B' b) : ∀ {lcs : List (Option Nat)} {xs : List D} {vs : List Value} {o : List Res},cg w B lcs xs vs o -> cg w B' lcs xs vs o
 | [],[],vs,o,h => h
 | lc :: lcs,c :: cs,vs,o,h => by
  obtain ⟨v,vs',o1,o2,h1,h2,h3,h4⟩ := h
  exact ⟨v,vs',o1,o2,h1,h2,nb hB h3,fq hB h4⟩
 | [],_ :: _,_,_,h => h.elim
 | _ :: _,[],_,_,h => h.elim
theorem jp (s : HSc F h loc O who B w) {t : TypeId} {a : A} {v : Value} {x : D} {gone : List Nat} (ha : al w B h loc a v) (hg : aq P h t a = some (x,gone)) (hw : bg [a] = true) :
  ∃ o,iv (gw loc h a) w B x v o /\ From h O gone o /\ (aa o).Nodup /\ (∀ id ∈ gone,id ∈ ct a) := by
 cases a with
 | ref i j k => simp [aq] at hg
 | rp z xs i k => simp [aq] at hg
 | agg cs => simp [aq] at hg
 | tup cs => simp [aq] at hg
 | fn f cs => simp [aq] at hg
 | mp _ => simp [aq] at hg
 | undef => simp [aq] at hg
 | d y =>
  by_cases hy : y = .nl
  ·subst hy
   have hv : v = .slice none 0 0 := (rep_nl (w := w) (B := B) (h := h) (loc := loc)).1 ha
   simp only [aq] at hg
   split at hg
   ·simp only [Option.map_eq_some_iff] at hg
    obtain ⟨z,_,hz⟩ := hg
    cases hz
    exact ⟨[],⟨rfl,rfl,none,hv⟩,by simp [From],by simp [aa],by simp⟩
   ·cases hg
  ·have : aq P h t (.d y) = some (y,[]) := by cases y <;> first | rfl | exact absurd rfl hy
   rw [this] at hg; cases hg
   refine ⟨[],?_,by simp [From],by simp [aa],by simp⟩
   have h1 := ha.1
   cases x <;> first | exact ha | exact h1.elim
 | asl id rng =>
  have hr : rng = none := by cases rng <;> first | rfl | cases hw
  subst hr
  obtain ⟨_,ob,hob,hb⟩ := ha
  simp only [aq] at hg
  split at hg
  ·rename_i z xs hget'
   cases hg
   rw [hget_some.1 hget'] at hob; cases hob
   obtain ⟨m,hm,hs⟩ := hb _ rfl
   simp [aI] at hm; subst hm
   have hnod := s.nod id _ hget'
   have hpart : part xs none = xs := rfl
   rw [hpart]
   rcases s.blk id _ hget' (fun hx => hx) with ⟨h1,h2,h3⟩ | ⟨b,base,sz,c,ty,fr,o',hl,hh,hsz,hu,he,hO⟩
   ·subst h2
    rw [h1] at hs
    obtain ⟨_,ad,hv⟩ := hs
    refine ⟨[],?_,by simp [From],by simp [aa],by simp [ct]⟩
    simp only [gw,hget',h1]
    exact ⟨rfl,rfl,ad,hv⟩
   ·rw [hl] at hs
    obtain ⟨ad,cap,hv,hc,had⟩ := hs
    refine ⟨.arr b :: o',?_,fun r hr => ⟨id,by simp,⟨_,hget'⟩,by rw [hO]; exact hr⟩,by rw [<- hO]; exact hnod,by simp [ct]⟩
    simp only [gw,hget',hl]
    refine ⟨c,ty,fr,hh,hsz ▸ hu,?_⟩
    by_cases h0 : 0 < cap
    ·obtain ⟨rfl,hcz⟩ := had h0
     exact .inl ⟨base,cap,o',hv,h0,hc,by simpa [b9,hsz] using hcz,he,rfl⟩
    ·have hx0 : xs = [] := List.length_eq_zero_iff.1 (by omega)
     subst hx0
     have e0 := repEs_nil.1 he
     subst e0
     have : cap = 0 := by omega
     subst this
     exact .inr ⟨rfl,⟨ad,hv⟩,rfl⟩
  ·rename_i z xs hget'
   cases hg
   rw [hget_some.1 hget'] at hob; cases hob
   obtain ⟨m,hm,hs⟩ := hb _ rfl
   simp [aI] at hm; subst hm
   obtain ⟨_,hz,hblk⟩ := s.blk id _ hget' (fun hx => hx)
   exact ⟨[],⟨trivial,pP hz hblk hs⟩,by simp [From],by simp [aa],by simp⟩
  ·cases hg
theorem jj {a : A} {as : List A} (h : bg (a :: as) = true) : bg [a] = true /\ bg as = true := by
 cases a with
 | asl id rng => cases rng <;> simp_all [bg]
 | _ => exact ⟨rfl,h⟩
theorem jq (s : HSc F h loc O who B w) : ∀ {ts : List TypeId} {as : List A} {vs : List Value} {xs : List D} {gone : List Nat},All2 (al w B h loc) as vs -> ax P h ts as = some (xs,gone) -> bg as = true -> gone.Nodup ->
  ∃ o,cg w B (as.map (gw loc h)) xs vs o /\ From h O gone o /\ (aa o).Nodup
 | [],[],vs,xs,gone,ha,hg,hw,hn => by
  simp [ax] at hg
  obtain ⟨rfl,rfl⟩ := hg
  cases ha
  exact ⟨[],by simp [cg],by simp [From],by simp [aa]⟩
 | [],_ :: _,vs,xs,gone,ha,hg,hw,hn => by simp [ax] at hg
 | _ :: _,[],vs,xs,gone,ha,hg,hw,hn => by simp [ax] at hg
 | t :: ts,a :: as,vs,xs,gone,ha,hg,hw,hn => by
  simp only [ax] at hg
  split at hg
  ·rename_i x i r j h1 h2
   simp only [Option.some.injEq,Prod.mk.injEq] at hg
   obtain ⟨rfl,rfl⟩ := hg
   cases ha with | cons a1 a2 =>
   obtain ⟨w1,w2⟩ := jj hw
   obtain ⟨o1,p1,p2,p3,_⟩ := jp s a1 h1 w1
   obtain ⟨o2,q1,q2,q3⟩ := jq s a2 h2 w2 (List.nodup_append.1 hn).2.1
   obtain ⟨f1,f2⟩ := From.append s p2 q2 hn p3 q3
   exact ⟨o1 ++ o2,⟨_,_,o1,o2,rfl,rfl,p1,q1⟩,f1,f2⟩
  ·cases hg
end
def fi (loc : Nat -> Loc) (h : Ups) : A -> List (Option Nat)
 | .agg cs => cs.map (gw loc h)
 | a => [gw loc h a]
def dr (mode : Nat -> Mode) (L : Nat -> List (Option Nat)) (w : World) (B : Nat -> Prop) : Nat -> List D -> List Value -> List Res -> Prop
 | _,[],vs,o => vs = [] /\ o = []
 | i,x :: xs,vs,o => ∃ v vs' o1 o2,vs = v :: vs' /\ o = o1 ++ o2 /\ gQ (mode i) (L i) w B x v o1 /\ dr mode L w B (i + 1) xs vs' o2
theorem kH {lcs : List (Option Nat)} {w : World} {B : Nat -> Prop} {x : D} {v : Value} {o : List Res} (hx : ∀ cs,x ≠ .agg cs) : qj lcs w B x v o ↔ cg w B lcs [x] [v] o := by
 cases x <;> first | exact Iff.rfl | exact absurd rfl (hx _)
theorem u6 {w : World} {B B' : Nat -> Prop} (hB : ∀ b,B b -> B' b) {lcs : List (Option Nat)} {x : D} {v : Value} {o : List Res} (h : qj lcs w B x v o) : qj lcs w B' x v o := by
 cases x with
 | agg cs => obtain ⟨vs,hv,hc⟩ := h; exact ⟨vs,hv,fq hB hc⟩
 | _ => exact fq hB h
section
variable {P : Program} {F : Fr} {h : Ups} {loc : Nat -> Loc} {O : Nat -> List Res} {who : Nat -> Option (Option Nat)} {B : Nat -> Prop} {w : World}
theorem sE (s : HSc F h loc O who B w) {m : Mode} {t : TypeId} {a : A} {v : Value} {l : Low} {L : List Nat} (ha : bx w B h loc a v) (hl : bI P h m t a = some l) (hL : ∀ i ∈ l.lent,i ∈ L) (hn : (l.gone ++ ah l).Nodup) :
  ∃ o,gQ m (fi loc h a) w (LB B who L) l.x v o /\ FromC h O (l.gone ++ ah l) o /\ (aa o).Nodup := by
 have nores : ∀ {x : D} {ids : List Nat},m ≠ .mut -> ac w (LB B who L) x v [] -> ∃ o,gQ m (fi loc h a) w (LB B who L) x v o /\ FromC h O ids o /\ (aa o).Nodup := fun hm hr => ⟨[],by cases m <;> first | exact hr | exact absurd rfl hm,by simp [FromC],by simp [aa]⟩
 have cell : al w B h loc a v -> (∀ cs,a ≠ .agg cs) -> (match m with | .ro => (ce P h t a).map fun r => ({ x := r.1,lent := r.2 } : Low) | .mv => (aq P h t a).map fun r => { x := r.1,gone := r.2 } | .mut => match bg [a] with | true => (aq P h t a).map fun r => { x := r.1,back := .arrs r.2 [a] } | false => none) = some l ->
   ∃ o,gQ m (fi loc h a) w (LB B who L) l.x v o /\ FromC h O (l.gone ++ ah l) o /\ (aa o).Nodup := by
  intro ha1 hna hl
  cases m with
  | ro =>
   simp only [Option.map_eq_some_iff] at hl
   obtain ⟨⟨x,ids⟩,h1,rfl⟩ := hl
   exact nores (by simp) (pd s ha1 h1 hL).1
  | mv =>
   simp only [Option.map_eq_some_iff] at hl
   obtain ⟨⟨x,ids⟩,h1,rfl⟩ := hl
   obtain ⟨o,p1,p2,p3,p4,p5⟩ := fM s ha1 h1
   exact ⟨o,dn (fun b h => .inl h) p1,p3.toC.mono (by simp [ah]),p4⟩
  | «mut» =>
   simp only at hl
   split at hl
   ·simp only [Option.map_eq_some_iff] at hl
    obtain ⟨⟨x,ids⟩,h1,rfl⟩ := hl
    obtain ⟨o,p1,p3,p4,p5⟩ := jp s ha1 h1 (by assumption)
    obtain ⟨_,_,c1,_,_,_⟩ := fM s ha1 h1
    refine ⟨o,?_,p3.toC.mono (by simp [ah]),p4⟩
    have hlc : fi loc h a = [gw loc h a] := by cases a <;> first | rfl | exact absurd rfl (hna _)
    have hcl : cg w (LB B who L) (fi loc h a) [x] [v] o := by
     rw [hlc]; exact ⟨v,[],o,[],rfl,by simp,nb (fun b h => .inl h) p1,rfl,rfl⟩
    have hxv : cX x \/ ∃ z xs,x = .os z xs := by
     cases x <;> first | exact .inr ⟨_,_,rfl⟩ | exact .inl p1.1
    rcases hxv with hxv | ⟨z,xs,rfl⟩
    ·cases x <;> first | exact hcl | exact hxv.elim
    ·exact hcl
   ·cases hl
 cases a with
 | ref id i off =>
  cases i with
  | succ i => exact cell ha (by simp) (by cases m <;> exact hl)
  | zero =>
   simp only [bI] at hl
   split at hl
   case h_2 => cases hl
   rename_i e hu
   split at hl
   case h_2 => cases hl
   rename_i ts cs hts hg
   split at hl
   case h_2 => cases hl
   rename_i hle'
   have hle' := of_decide_eq_true hle'
   simp only [Option.map_eq_some_iff] at hl
   obtain ⟨⟨xs,gone⟩,h1,rfl⟩ := hl
   simp only [ah] at hn ⊢
   obtain ⟨_,ob,hob,hb⟩ := (show al w B h loc (.ref id 0 off) v from ha)
   rw [hget_some.1 hg] at hob; cases hob
   obtain ⟨b,base,sz,hloc,rfl⟩ := hb _ rfl
   obtain ⟨b',base',sz',c,ty,fr,vs,hl',hh,hsz,hu',hle,hc,hcs,hO⟩ := s.blk id _ hg (fun hx => hx)
   rw [hloc] at hl'; cases hl'
   obtain ⟨o',q1,q2,q3,q4,q5⟩ := dW s ((hcs.drop off).take ts.length) h1 (List.nodup_append.1 hn).1
   have hlen : xs.length = ts.length := by rw [q5,List.length_take,List.length_drop]; omega
   have hwb : who b = some (some id) := s.own id _ hg (.rng b base (base + cs.length)) (by rw [hO]; simp)
   refine ⟨.rng b (base + off) (base + off + xs.length) :: o',?_,?_,?_⟩
   ·have e : ∀ v o,ac w (LB B who L) (.op xs) v o -> gQ m (fi loc h (.ref id 0 off)) w (LB B who L) (.op xs) v o := fun v o h => by cases m <;> exact h
    refine e _ _ ?_
    simp only [ac,b9]
    exact ⟨b,base + off,_,c,ty,fr,o',by simp,hh,hsz ▸ hu',by omega,jL hc off ts.length,jz (fun b h => .inl h) q1,rfl⟩
   ·intro q hq
    rcases List.mem_cons.1 hq with rfl | hq
    ·refine ⟨id,by simp,⟨_,hg⟩,.rng b base (base + cs.length),by rw [hO]; simp,rfl,fun j hj => ?_⟩
     simp only [Res.covers,Res.blk,true_and] at hj ⊢
     omega
    ·exact (q2.toC.mono (g2 := gone ++ [id]) (by simp +contextual)) q hq
   ·show (b :: aa o').Nodup
    rw [List.nodup_cons]
    refine ⟨fun hm => ?_,q3⟩
    obtain ⟨q,hq,e⟩ := List.mem_map.1 hm
    obtain ⟨i,hi,_,hw⟩ := q2.toC.whose s q hq
    rw [e,hwb] at hw
    have : id = i := by simpa using hw
    subst this
    exact (List.nodup_append.1 hn).2.2 id hi id (by simp) rfl
 | rp z xs i off =>
  simp only [bI] at hl
  have hm : m ≠ .mut := by rintro rfl; cases hl
  have : (bA h (.rp z xs i off)).map (fun r => ({ x := r.1 } : Low)) = some l := by cases m <;> first | exact hl | cases hl
  simp only [Option.map_eq_some_iff] at this
  obtain ⟨⟨x,ids⟩,h1,rfl⟩ := this
  have hids : ids = [] := by
   simp only [bA] at h1
   split at h1
   ·cases h1; rfl
   ·cases h1
  subst hids
  exact nores hm (mJ s (show al w B h loc (.rp z xs i off) v from ha) h1 (by simp))
 | fn f caps =>
  simp only [bI] at hl
  have hm : m ≠ .mut := by rintro rfl; cases hl
  have : (bC h caps).map (fun r => ({ x := .fn f r.1,lent := r.2 } : Low)) = some l := by cases m <;> first | exact hl | cases hl
  simp only [Option.map_eq_some_iff] at this
  obtain ⟨⟨xs,ids⟩,h1,rfl⟩ := this
  obtain ⟨vs,rfl,hc⟩ := ha
  have := il s hc h1 hL
  refine nores hm ?_
  simp only [ac]
  exact ⟨trivial,vs,rfl,this⟩
 | agg cs =>
  obtain ⟨vs,rfl,hc⟩ := ha
  simp only [bI] at hl
  split at hl
  case h_2 => cases hl
  rename_i ts hts
  cases m with
  | ro =>
   simp only [Option.map_eq_some_iff] at hl
   obtain ⟨⟨xs,ids⟩,h1,rfl⟩ := hl
   refine nores (by simp) ?_
   simp only [ac]
   exact ⟨vs,rfl,pe s hc h1 hL⟩
  | mv =>
   simp only [Option.map_eq_some_iff] at hl
   obtain ⟨⟨xs,ids⟩,h1,rfl⟩ := hl
   obtain ⟨o,p1,p2,p3,p4,p5⟩ := dW s hc h1 (List.nodup_append.1 hn).1
   exact ⟨o,by simp only [gQ,ac]; exact ⟨vs,rfl,jz (fun b h => .inl h) p1⟩,p2.toC.mono (by simp [ah]),p3⟩
  | «mut» =>
   simp only at hl
   split at hl
   ·simp only [Option.map_eq_some_iff] at hl
    obtain ⟨⟨xs,ids⟩,h1,rfl⟩ := hl
    obtain ⟨o,p1,p2,p3⟩ := jq s hc h1 (by assumption) (by simpa [ah] using hn)
    exact ⟨o,⟨vs,rfl,fq (fun b h => .inl h) p1⟩,p2.toC.mono (by simp [ah]),p3⟩
   ·cases hl
 | tup vs => exact ha.elim
 | d x => exact cell ha (by simp) (by cases m <;> exact hl)
 | asl id rng => exact cell ha (by simp) (by cases m <;> exact hl)
 | mp _ => exact cell ha (by simp) (by cases m <;> exact hl)
 | undef => exact cell ha (by simp) (by cases m <;> exact hl)
theorem lr (s : HSc F h loc O who B w) {mode : Nat -> Mode} {L : List Nat} {LS : Nat -> List (Option Nat)} : ∀ {ts : List TypeId} {as : List A} {vs : List Value} {ls : List Low} {i : Nat},All2 (bx w B h loc) as vs -> aA P h mode i ts as = some ls -> (∀ j ∈ ls.flatMap (·.lent),j ∈ L) -> (ls.flatMap fun l => l.gone ++ ah l).Nodup ->
  (∀ j a,as[j]? = some a -> LS (i + j) = fi loc h a) ->
  ∃ o,dr mode LS w (LB B who L) i (ls.map (·.x)) vs o /\ FromC h O (ls.flatMap fun l => l.gone ++ ah l) o /\ (aa o).Nodup
 | [],[],vs,ls,i,ha,hl,hL,hn,hS => by
  simp [aA] at hl
  subst hl
  cases ha
  exact ⟨[],by simp [dr],by simp [FromC],by simp [aa]⟩
 | [],_ :: _,vs,ls,i,ha,hl,hL,hn,hS => by simp [aA] at hl
 | _ :: _,[],vs,ls,i,ha,hl,hL,hn,hS => by simp [aA] at hl
 | t :: ts,a :: as,vs,ls,i,ha,hl,hL,hn,hS => by
  simp only [aA] at hl
  split at hl
  ·rename_i l r h1 h2
   cases hl
   cases ha with | cons a1 a2 =>
   simp only [List.flatMap_cons] at hn hL ⊢
   obtain ⟨o1,p1,p2,p3⟩ := sE s (L := L) a1 h1 (fun j hj => hL j (by simp [hj])) (List.nodup_append.1 hn).1
   obtain ⟨o2,q1,q2,q3⟩ := lr s (L := L) (i := i + 1) a2 h2 (fun j hj => hL j (by simp only [List.mem_append]; exact .inr hj)) (List.nodup_append.1 hn).2.1 (fun j b hj => by have := hS (j + 1) b (by simpa using hj); rw [<- this]; congr 1; omega)
   obtain ⟨f1,f2⟩ := FromC.append s p2 q2 hn p3 q3
   refine ⟨o1 ++ o2,?_,f1,f2⟩
   have e : LS i = fi loc h a := by simpa using hS 0 a rfl
   rw [<- e] at p1
   exact ⟨_,_,o1,o2,rfl,rfl,p1,q1⟩
  ·cases hl
end
def jS (m : Mode) (x : D) : Bool :=
 match x,m with
 | .op _,_ => true
 | _,.mut => true
 | _,_ => false
def gj (lcs : List (Option Nat)) (w : World) (B : Nat -> Prop) (x y : D) (v : Value) (o : List Res) : Prop :=
 match x with
 | .op _ => ac w B y v o
 | _ => qj lcs w B y v o
def fh (mode : Nat -> Mode) (L : Nat -> List (Option Nat)) (w : World) (B : Nat -> Prop) : Nat -> List D -> List Value -> List D -> List Res -> Prop
 | _,[],vs,ys,o => vs = [] /\ ys = [] /\ o = []
 | i,x :: xs,vs,ys,o => match jS (mode i) x with
  | true => ∃ v vs' y ys' o1 o2,vs = v :: vs' /\ ys = y :: ys' /\ o = o1 ++ o2 /\ gj (L i) w B x y v o1 /\ fh mode L w B (i + 1) xs vs' ys' o2
  | false => ∃ v vs',vs = v :: vs' /\ fh mode L w B (i + 1) xs vs' ys o
structure CameBack (mode : Nat -> Mode) (L : Nat -> List (Option Nat)) (w : World) (B : Nat -> Prop) (o : List Res) (ps : List D) (pv : List Value) (r : Ret) (v : Value) (w' : World) (B' : Nat -> Prop) (oR oI : List Res) : Prop where
 chg : Chg o w w'
 bsub : ∀ b,B b -> B' b
 bnew : ∀ b,B' b -> b < w'.heap.size /\ (B b \/ w.heap.size <= b \/ b ∈ aa o)
 res : ac w' B' r.1 v oR
 io : fh mode L w' B' 0 ps pv r.2 oI
 nod : (aa (oR ++ oI)).Nodup
 own : ∀ q ∈ oR ++ oI,¬ B' q.blk /\ q.blk < w'.heap.size /\ okR w o q
def Meets (P : Program) (mode : Nat -> Mode) (f : Nat) (ds : List D) (r : Ret) : Prop :=
 ∀ (fn : Func),P.funcs[f]? = some fn -> ∀ (w : World) (B : Nat -> Prop) (L : Nat -> List (Option Nat)) (pv cv : List Value) (o : List Res),
  dr mode L w B 0 (ds.take fn.params.size) pv o -> bv w B (ds.drop fn.params.size) cv [] -> (aa o).Nodup -> (∀ q ∈ o,¬ B q.blk /\ q.blk < w.heap.size) -> (∀ b,B b -> b < w.heap.size) ->
  Calls P f (pv ++ cv).toArray w fun e w' => ∃ v B' oR oI,e = .returned v /\ CameBack mode L w B o (ds.take fn.params.size) pv r v w' B' oR oI
section
variable {P : Program} {R : Type} {r : R}
theorem jH {own : Bool} {n : Nat} {t : TypeId} {x : D} {K : D -> Option R} (h : kf P own n t x K = some r) : dw x = true := by
 cases n with
 | zero => simp [kf] at h
 | succ n =>
  simp only [kf] at h
  split at h
  ·cases x <;> simp only [asB] at h <;> first | rfl | cases h
  ·cases x <;> simp only [asI] at h <;> first | rfl | cases h
  ·cases x <;> simp only [asS] at h <;> first | rfl | cases h
  ·split at h
   ·cases own with
    | true => simp only at h; cases x <;> simp only [jl] at h <;> first | rfl | cases h
    | false => simp only at h; cases x <;> simp only [kq] at h <;> first | rfl | cases h
   ·cases h
  ·cases h
theorem iB {own : Bool} : ∀ {ts : List TypeId} {xs : List D} {K : List D -> Option R},dK P own ts xs K = some r -> xs.all dw = true
 | [],xs,K,h => by
  simp only [dK] at h
  cases xs with
  | nil => rfl
  | cons x xs => simp [unn] at h
 | t :: ts,xs,K,h => by
  simp only [dK] at h
  cases xs with
  | nil => simp [unc] at h
  | cons x xs =>
   simp only [unc] at h
   obtain ⟨h1,_,_,_⟩ := d4 h
   have h2 := iB h1
   have h3 := jH h
   simp [h3] at h2 ⊢
   exact h2
theorem kn {x : D} {K : List D -> Option R} (h : nC x K = some r) : ∃ cs,x = .op cs /\ K cs = some r := by
 cases x <;> simp only [nC] at h <;> first | exact ⟨_,rfl,h⟩ | cases h
theorem uz {z : Z} {x : D} {K : List D -> Option R} (h : kq z x K = some r) : ∃ ys,x = .rs z ys /\ K ys = some r := by
 cases x <;> simp only [kq] at h <;> first | cases h | skip
 split at h
 ·rename_i e; subst e; exact ⟨_,rfl,h⟩
 ·cases h
theorem dE {xs : List D} {K : D -> List D -> Option R} (h : unc xs K = some r) : ∃ y ys,xs = y :: ys /\ K y ys = some r := by
 cases xs with
 | nil => simp [unc] at h
 | cons y ys => exact ⟨y,ys,rfl,h⟩
theorem gh {xs : List D} {K : Option R} (h : unn xs K = some r) : xs = [] /\ K = some r := by
 cases xs with
 | nil => exact ⟨rfl,h⟩
 | cons y ys => simp [unn] at h
theorem jG {own : Bool} {t : TypeId} {x : D} {K : D -> Option R} (h : lK P own t x K = some r) : K x = some r /\ okV x = true := by
 unfold lK at h
 split at h
 ·split at h
  ·obtain ⟨cs,rfl,h⟩ := cq h
   obtain ⟨h1,h2,_⟩ := gJ h
   exact ⟨h1,iB h⟩
  ·cases h
 ·split at h
  ·obtain ⟨cs,rfl,h⟩ := kn h
   obtain ⟨h1,h2,_⟩ := gJ h
   exact ⟨h1,iB h⟩
  ·cases h
 ·obtain ⟨h1,h2,h3,_⟩ := d4 h
  have h4 := jH h
  exact ⟨h1,by cases x <;> first | exact h4 | cases h4⟩
theorem lN {own : Bool} : ∀ {ts : List TypeId} {xs : List D} {K : List D -> Option R},gK P own ts xs K = some r -> K xs = some r /\ xs.all okV = true
 | [],xs,K,h => by
  simp only [gK] at h
  obtain ⟨rfl,h⟩ := gh h
  exact ⟨h,rfl⟩
 | t :: ts,xs,K,h => by
  simp only [gK] at h
  obtain ⟨y,ys,rfl,h'⟩ := dE h
  obtain ⟨h1,h2⟩ := jG h'
  obtain ⟨h3,h4⟩ := lN h1
  exact ⟨h3,by simp [h2] at h4 ⊢; exact h4⟩
theorem mg {x : D} {K : List D -> Option R} (h : iV x K = some r) : ∃ cs,x = .tup cs /\ K cs = some r := by
 cases x <;> simp only [iV] at h <;> first | exact ⟨_,rfl,h⟩ | cases h
theorem tH {own : Bool} {ts : List TypeId} {x : D} {K : D -> Option R} (h : pB P own ts x K = some r) : K x = some r /\ wH x = true := by
 unfold pB at h
 split at h
 ·obtain ⟨h1,h2⟩ := jG h
  exact ⟨h1,by cases x <;> first | exact h2 | cases h2⟩
 ·obtain ⟨cs,rfl,h⟩ := mg h
  obtain ⟨h1,h2⟩ := lN h
  exact ⟨h1,h2⟩
def lV (x y : D) : Prop := dw y = true /\ (∀ z l,x = .os z l -> ∃ l',y = .os z l') /\ (∀ z l,x = .rs z l -> ∃ l',y = .rs z l')
theorem bm : ∀ {ts : List TypeId} {xs ys : List D} {K : List D -> Option R},bJ P ts xs ys K = some r -> K ys = some r /\ All2 lV xs ys
 | [],[],ys,K,h => by
  simp only [bJ] at h
  obtain ⟨rfl,h⟩ := gh h
  exact ⟨h,.nil⟩
 | [],_ :: _,ys,K,h => by simp [bJ] at h
 | _ :: _,[],ys,K,h => by simp [bJ] at h
 | t :: ts,x :: xs,ys,K,h => by
  simp only [bJ] at h
  obtain ⟨y,ys',rfl,h'⟩ := dE h
  clear h
  split at h'
  ·obtain ⟨l,rfl,h3⟩ := uz h'
   obtain ⟨h1,h2⟩ := bm h3
   exact ⟨h1,.cons ⟨rfl,(fun _ _ e => by cases e),fun z l e => by cases e; exact ⟨_,rfl⟩⟩ h2⟩
  ·obtain ⟨l,rfl,h3⟩ := ol h'
   obtain ⟨h1,h2⟩ := bm h3
   exact ⟨h1,.cons ⟨rfl,(fun z l e => by cases e; exact ⟨_,rfl⟩),fun _ _ e => by cases e⟩ h2⟩
  ·rename_i n1 n2
   obtain ⟨h1,_⟩ := d4 h'
   obtain ⟨h2,h3⟩ := bm h1
   exact ⟨h2,.cons ⟨jH h',fun z l e => absurd e (n2 z l),fun z l e => absurd e (n1 z l)⟩ h3⟩
end
structure Took (B0 : Nat -> Prop) (w0 : World) (o0 : List Res) (X : Nat -> Prop) (H : Ups) (locH : Nat -> Loc) (whoH : Nat -> Option (Option Nat)) (B : Nat -> Prop) (w : World) (ids : List Nat) (o : List Res) (u : Ups) (loc' : Nat -> Loc) (O' : Nat -> List Res) (who' : Nat -> Option (Option Nat)) : Prop where
 hs : HS B0 w0 o0 (fun i => X i /\ i ∉ ids) (u ++ H) loc' O' who' B w
 ext : Ext H locH (u ++ H) loc'
 who : ∀ b,b ∉ aa o -> whoH b = some none -> who' b = some none
theorem Fresh.over' {H : Ups} {n n1 : Nat} {u : Ups} (hf : Fresh H n n1) (hu : ∀ i ∈ u.map (·.1),n1 <= i \/ hfind H i ≠ none) : Fresh (u ++ H) n n1 := by
 intro i h1 h2
 rw [az,bU (fun hm => by
  rcases hu i hm with h3 | h3
  ·omega
  ·exact h3 (hf i h1 h2))]
 exact hf i h1 h2
theorem Ext.loc {h h' : Ups} {loc loc' : Nat -> Loc} (e : Ext h loc h' loc') {id : Nat} {blk : Blk} (h1 : ae h id = some blk) (h2 : ae h' id = some blk) : loc' id = loc id := by
 obtain ⟨ob',h3,h4⟩ := e id _ (hget_some.1 h1)
 rw [hget_some.1 h2] at h3
 cases h3
 obtain ⟨_,_,_,_,h5⟩ := h4 blk rfl
 exact h5
theorem cM {u H : Ups} {id : Nat} (h : id ∉ u.map (·.1)) : ae (u ++ H) id = ae H id := by
 rw [dh,dh,az,bU h]
theorem s9 : ∀ (as : List A) (zs : List D),∀ i ∈ (aV as zs).map (·.1),i ∈ as.flatMap ct
 | [],zs,i,hi => by simp [aV] at hi
 | a :: as,[],i,hi => by cases a <;> simp [aV] at hi
 | a :: as,z :: zs,i,hi => by
  simp only [List.flatMap_cons,List.mem_append]
  have rest : i ∈ (aV as zs).map (·.1) -> i ∈ ct a \/ i ∈ as.flatMap ct := fun h => .inr (s9 as zs i h)
  cases a with
  | asl id rng =>
   cases z with
   | os z xs =>
    simp only [aV,List.map_cons,List.mem_cons] at hi
    rcases hi with rfl | hi
    ·exact .inl (by simp [ct])
    ·exact rest hi
   | _ => exact rest (by simpa [aV] using hi)
  | _ => exact rest (by simpa [aV] using hi)
section
variable {P : Program} {F : Fr} {h : Ups} {loc : Nat -> Loc} {O : Nat -> List Res} {who : Nat -> Option (Option Nat)} {B : Nat -> Prop} {w w' : World} {B' : Nat -> Prop} {o : List Res}
theorem xp (s0 : HSc F h loc O who B w) (chg : Chg o w w') {id : Nat} {z : Z} {xs xs' : List D} {v : Value} {oI : List Res} (ha : al w B h loc (.asl id none) v) (hg : ae h id = some (.arr z xs)) (hr : iv (gw loc h (.asl id none)) w' B' (.os z xs') v oI)
  {H : Ups} {locH : Nat -> Loc} {OH : Nat -> List Res} {whoH : Nat -> Option (Option Nat)} {X : Nat -> Prop} (s : HS F.B0 F.w0 F.o0 X H locH OH whoH B' w') (f : Floats F.w0 F.o0 whoH oI) (hX : ae H id = ae h id) (hl : locH id = loc id) :
  ∃ O' who',Took F.B0 F.w0 F.o0 X H locH whoH B' w' [id] oI [(id,some (.arr z xs'))] locH O' who' := by
 obtain ⟨_,ob,hob,hb⟩ := ha
 rw [hget_some.1 hg] at hob; cases hob
 obtain ⟨m,hm,hs⟩ := hb _ rfl
 simp [aI] at hm; subst hm
 have hgH : ae H id = some (.arr z xs) := hX.trans hg
 have fin : ∀ (o' : List Res),Floats F.w0 F.o0 whoH o' -> (∀ b,b ∈ aa o' -> b ∈ aa oI) -> xs'.length = xs.length -> (∀ h' loc',dF w' B' h' loc' (locH id) o' (.arr z xs')) -> ∃ O' who',Took F.B0 F.w0 F.o0 X H locH whoH B' w' [id] oI [(id,some (.arr z xs'))] locH O' who' := by
  intro o' f' hsub hlen hrep
  have ext : Ext H locH ((id,some (.arr z xs')) :: H) locH := ch hgH rfl (by simp [aI,hlen])
  have s2 := s.set id (.arr z xs') (locH id) o' (by rw [aX locH id rfl]; exact ext) (hrep _ _) (fun q hq => .inl (f'.who q hq)) f'.nod f'.okr
  rw [aX locH id rfl] at s2
  refine ⟨_,_,s2.same (fun i hi => ⟨hi.1,by simpa using hi.2⟩),ext,fun b hb hw => ?_⟩
  have : b ∉ aa o' := fun h => hb (hsub b h)
  simp [this,hw]
 rcases s0.blk id _ hg (fun hx => hx) with ⟨h1,h2,h3⟩ | ⟨b,base,sz,c,ty,fr,o',hl2,hh,hsz,hu,he,hO⟩
 ·have e : gw loc h (.asl id none) = none := by simp [gw,hg,h1]
  rw [e] at hr
  obtain ⟨rfl,rfl,ad,hv⟩ := hr
  exact fin [] ⟨by simp,by simp [aa],by simp⟩ (by simp [aa]) (by rw [h2]) (fun h' loc' => .inl ⟨hl.trans h1,rfl,rfl⟩)
 ·have e : gw loc h (.asl id none) = some b := by simp [gw,hg,hl2]
  rw [e] at hr
  rw [hl2] at hs
  obtain ⟨ad,cap,hv,hc,had⟩ := hs
  obtain ⟨c',ty',fr',hh',hu',hr⟩ := hr
  obtain ⟨c2,fr2,h5,h6,_,_⟩ := chg.cells b c ty fr hh
  rw [hh'] at h5; cases h5
  rcases hr with ⟨off,cap',o2,hv',hc0,hcl,hcz,he',rfl⟩ | ⟨rfl,⟨ad',hv'⟩,rfl⟩
  ·rw [hv] at hv'
   injection hv' with e1 e2 e3
   subst e3
   obtain ⟨rfl,had2⟩ := had hc0
   injection e1 with e1; injection e1 with _ e1
   subst e1
   exact fin _ f (fun b h => h) e2.symm (fun h' loc' => .inr ⟨b,base,sz,c',ty,_,o2,hl.trans hl2,hh',by rw [h6,hsz],by rw [<- hsz,<- h6]; exact hu',he',rfl⟩)
  ·rw [hv] at hv'
   injection hv' with e1 e2 e3
   exact fin _ f (fun b h => h) (by rw [e2]; rfl) (fun h' loc' => .inr ⟨b,base,sz,c',ty,_,[],hl.trans hl2,hh',by rw [h6,hsz],by rw [<- hsz,<- h6]; exact hu',repEs_nil.2 rfl,rfl⟩)
theorem Took.trans {X : Nat -> Prop} {H : Ups} {locH loc1 loc2 : Nat -> Loc} {O1 O2 : Nat -> List Res} {whoH who1 who2 : Nat -> Option (Option Nat)} {g1 g2 : List Nat} {o1 o2 : List Res} {u1 u2 : Ups}
  (t2 : Took F.B0 F.w0 F.o0 X H locH whoH B' w' g2 o2 u2 loc2 O2 who2) (t1 : Took F.B0 F.w0 F.o0 (fun i => X i /\ i ∉ g2) (u2 ++ H) loc2 who2 B' w' g1 o1 u1 loc1 O1 who1) :
  Took F.B0 F.w0 F.o0 X H locH whoH B' w' (g1 ++ g2) (o1 ++ o2) (u1 ++ u2) loc1 O1 who1 := by
 refine ⟨?_,by rw [List.append_assoc]; exact t2.ext.trans t1.ext,?_⟩
 ·rw [List.append_assoc]
  refine t1.hs.same (fun i hi => ⟨hi.1.1,?_⟩)
  rw [List.mem_append]
  rintro (h | h)
  ·exact hi.2 h
  ·exact hi.1.2 h
 ·intro b hb hw
  rw [cr,List.mem_append,not_or] at hb
  exact t1.who b hb.1 (t2.who b hb.2 hw)
theorem rQ {X : Nat -> Prop} {H : Ups} {locH : Nat -> Loc} {OH : Nat -> List Res} {whoH : Nat -> Option (Option Nat)} (s : HS F.B0 F.w0 F.o0 X H locH OH whoH B' w') (o : List Res) : Took F.B0 F.w0 F.o0 X H locH whoH B' w' [] o [] locH OH whoH :=
 ⟨s.same (fun i hi => ⟨hi,by simp⟩),Ext.refl H locH,fun _ _ h => h⟩
theorem qn (s0 : HSc F h loc O who B w) (chg : Chg o w w') : ∀ {ts : List TypeId} {as : List A} {vs : List Value} {xs zs : List D} {gone : List Nat} {oI : List Res},All2 (al w B h loc) as vs -> ax P h ts as = some (xs,gone) -> bg as = true -> gone.Nodup ->
  All2 lV xs zs -> cg w' B' (as.map (gw loc h)) zs vs oI -> ∀ {H : Ups} {locH : Nat -> Loc} {OH : Nat -> List Res} {whoH : Nat -> Option (Option Nat)} {X : Nat -> Prop},HS F.B0 F.w0 F.o0 X H locH OH whoH B' w' -> Floats F.w0 F.o0 whoH oI ->
  (∀ id ∈ gone,ae H id = ae h id /\ locH id = loc id) -> (∀ i ∈ (aV as zs).map (·.1),i ∈ gone) /\ ∃ loc' O' who',Took F.B0 F.w0 F.o0 X H locH whoH B' w' gone oI (aV as zs) loc' O' who'
 | [],[],vs,xs,zs,gone,oI,ha,hg,hw,hn,hb,hr,H,locH,OH,whoH,X,s,f,hX => by
  simp [ax] at hg
  obtain ⟨rfl,rfl⟩ := hg
  exact ⟨by simp [aV],locH,OH,whoH,rQ s oI⟩
 | [],_ :: _,vs,xs,zs,gone,oI,ha,hg,hw,hn,hb,hr,H,locH,OH,whoH,X,s,f,hX => by simp [ax] at hg
 | _ :: _,[],vs,xs,zs,gone,oI,ha,hg,hw,hn,hb,hr,H,locH,OH,whoH,X,s,f,hX => by simp [ax] at hg
 | t :: ts,a :: as,vs,xs,zs,gone,oI,ha,hg,hw,hn,hb,hr,H,locH,OH,whoH,X,s,f,hX => by
  simp only [ax] at hg
  split at hg
  case h_2 => cases hg
  rename_i x i r j h1 h2
  simp only [Option.some.injEq,Prod.mk.injEq] at hg
  obtain ⟨rfl,rfl⟩ := hg
  cases ha with | cons a1 a2 =>
  cases hb with | cons b1 b2 =>
  rename_i y zs'
  obtain ⟨v,vs',o1,o2,hv,rfl,hr1,hr2⟩ := hr
  cases hv
  obtain ⟨w1,w2⟩ := jj hw
  have hnd := List.nodup_append.1 hn
  obtain ⟨m2,loc2,O2,who2,t2⟩ := qn s0 chg a2 h2 w2 hnd.2.1 b2 hr2 (X := X) s f.right (fun id hid => hX id (by simp [hid]))
  have f1 : Floats F.w0 F.o0 who2 o1 := f.left.congr (fun b hb hw => by
   obtain ⟨q,hq,rfl⟩ := List.mem_map.1 hb
   exact t2.who _ (f.apart q hq) hw)
  -- nothing of this cell's
  have skip : i = [] -> aV (a :: as) (y :: zs') = aV as zs' -> (∀ i' ∈ (aV (a :: as) (y :: zs')).map (·.1),i' ∈ i ++ j) /\ ∃ loc' O' who',Took F.B0 F.w0 F.o0 X H locH whoH B' w' (i ++ j) (o1 ++ o2) (aV (a :: as) (y :: zs')) loc' O' who' := by
   intro e0 e
   subst e0
   rw [e]
   refine ⟨by simpa using m2,loc2,O2,who2,by simpa using t2.hs,t2.ext,fun b hb hw => t2.who b (fun h => hb ?_) hw⟩
   rw [cr]; exact List.mem_append.2 (.inr h)
  cases a with
  | asl id rng =>
   have hr : rng = none := by cases rng <;> first | rfl | cases w1
   subst hr
   simp only [aq] at h1
   split at h1
   ·rename_i z ys hg'
    cases h1
    obtain ⟨l',rfl⟩ := b1.2.1 z _ rfl
    have hnj : id ∉ j := fun h => hnd.2.2 id (by simp) id h rfl
    have hnu : id ∉ (aV as zs').map (·.1) := fun h => hnj (m2 id h)
    obtain ⟨hX1,hX2⟩ := hX id (by simp)
    have hgo : ae (aV as zs' ++ H) id = ae H id := cM hnu
    have hlo : loc2 id = locH id := t2.ext.loc (hX1.trans hg') (hgo.trans (hX1.trans hg'))
    obtain ⟨O1,who1,t1⟩ := xp s0 chg a1 hg' hr1 (X := fun i => X i /\ i ∉ j) t2.hs f1 (hgo.trans hX1) (hlo.trans hX2)
    refine ⟨?_,_,O1,who1,Took.trans t2 t1⟩
    intro i' hi'
    simp only [aV,List.map_cons,List.mem_cons] at hi'
    simp only [List.mem_append,List.mem_singleton]
    rcases hi' with rfl | hi'
    ·exact .inl rfl
    ·exact .inr (m2 i' hi')
   ·rename_i z ys hg'
    cases h1
    obtain ⟨l',rfl⟩ := b1.2.2 z _ rfl
    exact skip rfl rfl
   ·cases h1
  | d q =>
   refine skip ?_ rfl
   by_cases hq : q = .nl
   ·subst hq
    simp only [aq] at h1
    split at h1
    ·simp only [Option.map_eq_some_iff] at h1
     obtain ⟨z,_,hz⟩ := h1
     cases hz; rfl
    ·cases h1
   ·have : aq P h t (.d q) = some (q,[]) := by cases q <;> first | rfl | exact absurd rfl hq
    rw [this] at h1; cases h1; rfl
  | _ => simp [aq] at h1
end
section
variable {P : Program} {F : Fr} {h : Ups} {loc : Nat -> Loc} {O : Nat -> List Res} {who : Nat -> Option (Option Nat)} {B : Nat -> Prop} {w w' : World} {B' : Nat -> Prop} {o : List Res}
theorem uX {o : List Res} (hn : (aa o).Nodup) {q1 q2 : Res} (h1 : q1 ∈ o) (h2 : q2 ∈ o) (e : q1.blk = q2.blk) : q1 = q2 := by
 induction o with
 | nil => cases h1
 | cons q o ih =>
  have hn' : (q.blk :: aa o).Nodup := hn
  rw [List.nodup_cons] at hn'
  rcases List.mem_cons.1 h1 with rfl | h1' <;> rcases List.mem_cons.1 h2 with rfl | h2'
  ·rfl
  ·exact absurd (List.mem_map.2 ⟨q2,h2',e.symm⟩) hn'.1
  ·exact absurd (List.mem_map.2 ⟨q1,h1',e⟩) hn'.1
  ·exact ih hn'.2 h1' h2'
theorem xq (s0 : HSc F h loc O who B w) (chg : Chg o w w') (nod : (aa o).Nodup) {id off n : Nat} {cs : List A} {xs zs : List D} {v : Value} {B1 : Nat -> Prop} {o1 oI : List Res}
  (ha : al w B h loc (.ref id 0 off) v) (hg : ae h id = some (.var cs)) (hx : ac w B1 (.op xs) v o1) (hsub : ∀ q ∈ o1,q ∈ o) (hle : off + xs.length <= cs.length)
  (hz : ac w' B' (.op zs) v oI) (hzl : zs.length = xs.length) (hzc : ∀ z ∈ zs,dw z = true) (kB : ∀ b,B b -> w'.heap[b]? = w.heap[b]?) (hB : ∀ b,B b -> B' b)
  {H : Ups} {locH : Nat -> Loc} {OH : Nat -> List Res} {whoH : Nat -> Option (Option Nat)} {X : Nat -> Prop} (s : HS F.B0 F.w0 F.o0 X H locH OH whoH B' w') (f : Floats F.w0 F.o0 whoH oI) (hX : ae H id = ae h id) (hl : locH id = loc id) (ext0 : Ext h loc H locH)
  (hf : Fresh H n (ar n zs).2.1) :
  ∃ loc' O' who',Took F.B0 F.w0 F.o0 X H locH whoH B' w' [id] oI ((id,some (.var (cs.take off ++ (ar n zs).1 ++ cs.drop (off + xs.length)))) :: (ar n zs).2.2) loc' O' who' := by
 obtain ⟨_,ob,hob,hb⟩ := ha
 rw [hget_some.1 hg] at hob; cases hob
 obtain ⟨b,base,sz,hloc,rfl⟩ := hb _ rfl
 simp only [b9,Nat.zero_mul,Nat.add_zero] at hx hz
 obtain ⟨b',base',sz',c,ty,fr,us,hl',hh,hsz,hu',hle2,hc,hcs,hO⟩ := s0.blk id _ hg (fun hx => hx)
 rw [hloc] at hl'; cases hl'
 simp only [ac] at hx hz
 obtain ⟨b1,off1,vs1,c1,ty1,fr1,o1',hv1,hh1,hu1,hl1,hc1,hr1,rfl⟩ := hx
 injection hv1 with hv1; injection hv1 with hv1; injection hv1 with e1 e2
 subst e1 e2
 obtain ⟨b2,off2,vs2,c2,ty2,fr2,o2',hv2,hh2,hu2,hl2,hc2,hr2,rfl⟩ := hz
 injection hv2 with hv2; injection hv2 with hv2; injection hv2 with e1 e2
 subst e1 e2
 have hin : Res.rng b (base + off) (base + off + xs.length) ∈ o := hsub _ (by simp)
 obtain ⟨c3,fr3,h5,h6,_,h7⟩ := chg.cells b c ty fr hh
 rw [hh2] at h5; cases h5
 have hgH : ae H id = some (.var cs) := hX.trans hg
 have f2 : Floats F.w0 F.o0 whoH ([.rng b (base + off) (base + off + zs.length)] ++ o2') := f
 obtain ⟨loc2,O2,who2,r2,a2⟩ := gA s hzc hr2 f2.right hf
 have m := bu zs n
 have hidu : id ∉ (ar n zs).2.2.map (·.1) := by
  intro hm
  have h8 := m.2 id hm
  have := hf id h8.1 h8.2
  rw [hget_some.1 hgH] at this; cases this
 have hg2 : ae ((ar n zs).2.2 ++ H) id = some (.var cs) := (cM hidu).trans hgH
 have hl2' : loc2 id = locH id := r2.ext.loc hgH hg2
 have hwb : who2 b = some none := r2.who b (by
  have := f2.apart (.rng b (base + off) (base + off + zs.length)) (by simp)
  simpa [Res.blk] using this) (f.who _ (List.mem_cons_self ..))
 have hlen : (ar n zs).1.length = xs.length := by rw [a2.length,bi hr2,hzl]
 have hnl : (cs.take off ++ (ar n zs).1 ++ cs.drop (off + xs.length)).length = cs.length := by
  simp only [lnA,List.length_take,List.length_drop]; omega
 have hul := hcs.length
 have keep : ∀ (j : Nat) (u : Value),(j < off \/ off + xs.length <= j) -> us[j]? = some u -> w'.cell? ⟨b,base + j,none⟩ = some u := by
  intro j u hj hu
  have h8 := hc j u hu
  simp only [World.cell?,hh] at h8
  simp only [World.cell?,hh2]
  rw [h7 (base + j) ?_]; exact h8
  intro q hq hcov
  have hqb : q.blk = b := by cases q <;> simp_all [Res.covers,Res.blk]
  have := uX nod hq hin (by rw [hqb]; rfl)
  subst this
  simp only [Res.covers,true_and] at hcov
  omega
 have kp : Kp w B h loc w' B' ((id,some (.var (cs.take off ++ (ar n zs).1 ++ cs.drop (off + xs.length)))) :: ((ar n zs).2.2 ++ H)) loc2 :=
  Kp.of hB kB ((ext0.trans r2.ext).trans (ch hg2 rfl rfl))
 have kp2 : Kp w' B' ((ar n zs).2.2 ++ H) loc2 w' B' ((id,some (.var (cs.take off ++ (ar n zs).1 ++ cs.drop (off + xs.length)))) :: ((ar n zs).2.2 ++ H)) loc2 :=
  Kp.of (fun _ h => h) (fun _ _ => rfl) (ch hg2 rfl rfl)
 have hvl : vs2.length = xs.length := by rw [bi hr2,hzl]
 have hcells : cellsAt w' b base (us.take off ++ vs2 ++ us.drop (off + xs.length)) := by
  have ht : (us.take off).length = off := by rw [List.length_take]; omega
  refine cellsAt_append.2 ⟨cellsAt_append.2 ⟨?_,?_⟩,?_⟩
  ·intro j u hj
   rw [List.getElem?_take] at hj
   split at hj
   ·exact keep j u (.inl (by assumption)) hj
   ·cases hj
  ·rw [ht]; exact hc2
  ·rw [lnA,ht,hvl]
   intro j u hj
   rw [List.getElem?_drop] at hj
   have := keep (off + xs.length + j) u (.inr (by omega)) hj
   rw [<- Nat.add_assoc] at this; exact this
 have s3 := r2.hs.set id (.var (cs.take off ++ (ar n zs).1 ++ cs.drop (off + xs.length))) (loc2 id) [.rng b base (base + cs.length)] (by rw [aX loc2 id rfl]; exact ch hg2 rfl rfl) (by
   rw [aX loc2 id rfl]
   refine ⟨b,base,sz,c2,ty,_,_,by rw [hl2',hl,hloc],hh2,by rw [h6,hsz],by rw [<- hsz,<- h6]; exact hu2,by rw [hnl]; exact hle2,hcells,?_,by rw [hnl]⟩
   exact (((hcs.take off).mono kp).append (a2.mono kp2)).append ((hcs.drop _).mono kp)) (by
   intro q hq
   simp only [List.mem_singleton] at hq; subst hq; exact .inl hwb) (by simp [aa]) (by
   intro q hq
   simp only [List.mem_singleton] at hq; subst hq; exact s0.okr id _ hg _ (by rw [hO]; simp))
 rw [aX loc2 id rfl] at s3
 refine ⟨loc2,_,_,s3.same (fun i hi => ⟨hi.1,by simpa using hi.2⟩),r2.ext.trans (ch hg2 rfl rfl),fun b' hb hw => ?_⟩
 have hb1 : b' ∉ aa o2' := fun h => hb (List.mem_cons_of_mem _ h)
 have hb2 : b' ≠ b := fun e => hb (by rw [e]; exact List.mem_cons_self ..)
 have := r2.who b' hb1 hw
 simp [aa,Res.blk,hb2,this]
end
section
variable {P : Program}
theorem jP {h : Ups} {t : TypeId} {a : A} {x : D} {gone : List Nat} (hg : aq P h t a = some (x,gone)) : (∃ z xs,x = .os z xs) \/ (∃ z xs,x = .rs z xs) \/ a = .d x := by
 cases a with
 | d y =>
  by_cases hy : y = .nl
  ·subst hy
   simp only [aq] at hg
   split at hg
   ·simp only [Option.map_eq_some_iff] at hg
    obtain ⟨z,_,hz⟩ := hg
    cases hz; exact .inl ⟨_,_,rfl⟩
   ·cases hg
  ·have : aq P h t (.d y) = some (y,[]) := by cases y <;> first | rfl | exact absurd rfl hy
   rw [this] at hg; cases hg; exact .inr (.inr rfl)
 | asl id rng =>
  simp only [aq] at hg
  split at hg
  ·cases hg; exact .inl ⟨_,_,rfl⟩
  ·cases hg; exact .inr (.inl ⟨_,_,rfl⟩)
  ·cases hg
 | _ => simp [aq] at hg
theorem wD {h : Ups} {t : TypeId} {a : A} {x : D} {ids : List Nat} (hg : ce P h t a = some (x,ids)) : (∃ z xs,x = .rs z xs) \/ a = .d x := by
 cases a with
 | d y =>
  by_cases hy : y = .nl
  ·subst hy
   simp only [ce] at hg
   split at hg
   ·simp only [Option.map_eq_some_iff] at hg
    obtain ⟨z,_,hz⟩ := hg
    cases hz; exact .inl ⟨_,_,rfl⟩
   ·cases hg
  ·have : ce P h t (.d y) = some (y,[]) := by cases y <;> first | rfl | exact absurd rfl hy
   rw [this] at hg; cases hg; exact .inr rfl
 | asl id rng =>
  simp only [ce] at hg
  split at hg
  ·split at hg
   ·cases hg; exact .inl ⟨_,_,rfl⟩
   ·cases hg
  ·cases hg; exact .inl ⟨_,_,rfl⟩
  ·cases hg
 | _ => simp [ce] at hg
theorem ee {m : Mode} {x : D} (hm : m ≠ .mut) (hx : ∀ cs,x ≠ .op cs) : jS m x = false := by
 cases m <;> first | exact absurd rfl hm | (cases x <;> first | rfl | exact absurd rfl (hx _))
theorem dP {w : World} {B : Nat -> Prop} {loc : Nat -> Loc} {h : Ups} {m : Mode} {t : TypeId} {a : A} {v : Value} {l : Low} (ha : bx w B h loc a v) (hl : bI P h m t a = some l) :
  (l.back = .no /\ jS m l.x = false) \/
  (∃ id off e cts cs xs gone,a = .ref id 0 off /\ P.underlying t = some (.pointer e) /\ aH P 8 e = some cts /\ ae h id = some (.var cs) /\ off + cts.length <= cs.length /\ ax P h cts ((cs.drop off).take cts.length) = some (xs,gone) /\ l = { x := .op xs,gone := gone,back := .ptr id off cts.length,lent := [] }) \/
  (m = .mut /\ ∃ ts' as' xs gone,bg as' = true /\ ax P h ts' as' = some (xs,gone) /\ l.back = .arrs gone as' /\
   ((a = .agg as' /\ aH P 8 t = some ts' /\ l.x = .agg xs) \/ (as' = [a] /\ ts' = [t] /\ xs = [l.x] /\ (∀ cs,a ≠ .agg cs) /\ bV l.x /\ (∀ cs,l.x ≠ .op cs)))) := by
 have cell : al w B h loc a v -> (∀ cs,a ≠ .agg cs) -> (match m with | .ro => (ce P h t a).map fun r => ({ x := r.1,lent := r.2 } : Low) | .mv => (aq P h t a).map fun r => { x := r.1,gone := r.2 } | .mut => match bg [a] with | true => (aq P h t a).map fun r => { x := r.1,back := .arrs r.2 [a] } | false => none) = some l ->
   (l.back = .no /\ jS m l.x = false) \/ (m = .mut /\ ∃ ts' as' xs gone,bg as' = true /\ ax P h ts' as' = some (xs,gone) /\ l.back = .arrs gone as' /\
   ((a = .agg as' /\ aH P 8 t = some ts' /\ l.x = .agg xs) \/ (as' = [a] /\ ts' = [t] /\ xs = [l.x] /\ (∀ cs,a ≠ .agg cs) /\ bV l.x /\ (∀ cs,l.x ≠ .op cs)))) := by
  intro ha1 hna hl
  have vals : ∀ x,a = .d x -> cX x := by rintro x rfl; exact ha1.1
  cases m with
  | ro =>
   simp only [Option.map_eq_some_iff] at hl
   obtain ⟨⟨x,ids⟩,h1,rfl⟩ := hl
   refine .inl ⟨rfl,ee (by simp) (fun cs e => ?_)⟩
   simp only at e
   subst e
   rcases wD h1 with ⟨_,_,e⟩ | e
   ·cases e
   ·exact vals _ e
  | mv =>
   simp only [Option.map_eq_some_iff] at hl
   obtain ⟨⟨x,ids⟩,h1,rfl⟩ := hl
   refine .inl ⟨rfl,ee (by simp) (fun cs e => ?_)⟩
   simp only at e
   subst e
   rcases jP h1 with ⟨_,_,e⟩ | ⟨_,_,e⟩ | e
   ·cases e
   ·cases e
   ·exact vals _ e
  | «mut» =>
   simp only at hl
   split at hl
   ·rename_i hw
    simp only [Option.map_eq_some_iff] at hl
    obtain ⟨⟨x,ids⟩,h1,rfl⟩ := hl
    refine .inr ⟨rfl,[t],[a],[x],ids,hw,by simp [ax,h1],rfl,.inr ⟨rfl,rfl,rfl,hna,?_,?_⟩⟩
    ·rcases jP h1 with ⟨_,_,e⟩ | ⟨_,_,e⟩ | e
     ·simp only [e]; trivial
     ·simp only [e]; trivial
     ·exact dN (vals _ e)
    ·intro cs e
     simp only at e
     subst e
     rcases jP h1 with ⟨_,_,e⟩ | ⟨_,_,e⟩ | e
     ·cases e
     ·cases e
     ·exact vals _ e
   ·cases hl
 have lift : ∀ {Q1 Q2 Q3 : Prop},(Q1 \/ Q3) -> (Q1 \/ Q2 \/ Q3) := fun h => h.elim Or.inl (fun h => Or.inr (Or.inr h))
 cases a with
 | ref id i off =>
  cases i with
  | succ i => exact lift (cell ha (by simp) (by cases m <;> exact hl))
  | zero =>
   simp only [bI] at hl
   split at hl
   case h_2 => cases hl
   rename_i e hu
   split at hl
   case h_2 => cases hl
   rename_i ts cs hts hg
   split at hl
   case h_2 => cases hl
   rename_i hle'
   simp only [Option.map_eq_some_iff] at hl
   obtain ⟨⟨xs,gone⟩,h1,rfl⟩ := hl
   exact .inr (.inl ⟨id,off,e,ts,cs,xs,gone,rfl,hu,hts,hg,of_decide_eq_true hle',h1,rfl⟩)
 | rp z xs i off =>
  simp only [bI] at hl
  have hm : m ≠ .mut := by rintro rfl; cases hl
  have : (bA h (.rp z xs i off)).map (fun r => ({ x := r.1 } : Low)) = some l := by cases m <;> first | exact hl | cases hl
  simp only [Option.map_eq_some_iff] at this
  obtain ⟨⟨x,ids⟩,h1,rfl⟩ := this
  refine .inl ⟨rfl,ee hm (fun cs e => ?_)⟩
  simp only [bA] at h1
  split at h1
  ·cases h1; cases e
  ·cases h1
 | fn f caps =>
  simp only [bI] at hl
  have hm : m ≠ .mut := by rintro rfl; cases hl
  have : (bC h caps).map (fun r => ({ x := .fn f r.1,lent := r.2 } : Low)) = some l := by cases m <;> first | exact hl | cases hl
  simp only [Option.map_eq_some_iff] at this
  obtain ⟨⟨xs,ids⟩,h1,rfl⟩ := this
  exact .inl ⟨rfl,ee hm (fun cs e => by cases e)⟩
 | agg cs =>
  simp only [bI] at hl
  split at hl
  case h_2 => cases hl
  rename_i ts hts
  cases m with
  | ro =>
   simp only [Option.map_eq_some_iff] at hl
   obtain ⟨⟨xs,ids⟩,h1,rfl⟩ := hl
   exact .inl ⟨rfl,rfl⟩
  | mv =>
   simp only [Option.map_eq_some_iff] at hl
   obtain ⟨⟨xs,ids⟩,h1,rfl⟩ := hl
   exact .inl ⟨rfl,rfl⟩
  | «mut» =>
   simp only at hl
   split at hl
   ·rename_i hw
    simp only [Option.map_eq_some_iff] at hl
    obtain ⟨⟨xs,ids⟩,h1,rfl⟩ := hl
    exact .inr (.inr ⟨rfl,ts,cs,xs,ids,hw,h1,rfl,.inl ⟨rfl,hts,rfl⟩⟩)
   ·cases hl
 | tup vs => exact ha.elim
 | d x => exact lift (cell ha (by simp) (by cases m <;> exact hl))
 | asl id rng => exact lift (cell ha (by simp) (by cases m <;> exact hl))
 | mp _ => exact lift (cell ha (by simp) (by cases m <;> exact hl))
 | undef => exact lift (cell ha (by simp) (by cases m <;> exact hl))
end
section
variable {w : World} {B B2 : Nat -> Prop}
theorem u5 {c : D} {v : Value} {o : List Res} (hc : j4 c = true) (h : ac w B c v o) : ac w B2 c v o := by
 cases c <;> first | (simpa only [ac] using h) | cases hc
theorem nc : ∀ {cs : List D} {vs : List Value} {o : List Res},(∀ c ∈ cs,j4 c = true) -> ak w B cs vs o -> ak w B2 cs vs o
 | [],vs,o,_,h => by simpa only [ak] using h
 | c :: cs,vs,o,hc,h => by
  simp only [ak] at h ⊢
  obtain ⟨v,vs',o1,o2,h1,h2,hi,h3,h4⟩ := h
  exact ⟨v,vs',o1,o2,h1,h2,hi,u5 (hc c (by simp)) h3,nc (fun d hd => hc d (by simp [hd])) h4⟩
theorem iw {b : Nat} {z : Z} (hz : z.2 = 0) : ∀ {xs : List D} {off : Nat} {o : List Res},au w B b off z xs o -> au w B2 b off z xs o
 | [],off,o,h => repEs_nil.2 (repEs_nil.1 h)
 | x :: xs,off,o,h => by
  obtain ⟨vs,o1,o2,rfl,⟨h1,h2,h3⟩,hc,h4⟩ := repEs_cons.1 h
  exact repEs_cons.2 ⟨vs,o1,o2,rfl,⟨nc (fun c hcm => by have := h3 c hcm; rw [hz] at this; exact this) h1,h2,h3⟩,hc,iw hz h4⟩
theorem jx {x : D} {v : Value} {o : List Res} (hm : cG x = false) (h : ac w B x v o) : ac w B2 x v o := by
 cases x with
 | os z xs =>
  have hz : z.2 = 0 := by simp [cG] at hm; exact hm
  simp only [ac] at h ⊢
  refine h.imp id ?_
  rintro ⟨b,off,cap,c,ty,fr,o',h1,h2,h3,h4,h5,h6,h7⟩
  exact ⟨b,off,cap,c,ty,fr,o',h1,h2,h3,h4,h5,iw hz h6,h7⟩
 | int k n => simpa only [ac] using h
 | bool b => simpa only [ac] using h
 | str s => simpa only [ac] using h
 | nl => simpa only [ac] using h
 | np => simpa only [ac] using h
 | _ => cases hm
theorem jA : ∀ {cs : List D} {vs : List Value} {o : List Res},cs.any cG = false -> ak w B cs vs o -> ak w B2 cs vs o
 | [],vs,o,_,h => by simpa only [ak] using h
 | c :: cs,vs,o,hc,h => by
  simp only [List.any_cons,Bool.or_eq_false_iff] at hc
  simp only [ak] at h ⊢
  obtain ⟨v,vs',o1,o2,h1,h2,hi,h3,h4⟩ := h
  exact ⟨v,vs',o1,o2,h1,h2,hi,jx hc.1 h3,jA hc.2 h4⟩
theorem jy {x : D} {v : Value} {o : List Res} (hm : pW x = false) (h : ac w B x v o) : ac w B2 x v o := by
 cases x with
 | agg cs =>
  simp only [ac] at h ⊢
  obtain ⟨vs,h1,h2⟩ := h
  exact ⟨vs,h1,jA hm h2⟩
 | op cs =>
  simp only [ac] at h ⊢
  obtain ⟨b,off,vs,c,ty,fr,o',h1,h2,h3,h4,h5,h6,h7⟩ := h
  exact ⟨b,off,vs,c,ty,fr,o',h1,h2,h3,h4,h5,jA hm h6,h7⟩
 | _ => exact jx hm h
theorem nk : ∀ {cs : List D} {vs : List Value} {o : List Res},cs.any pW = false -> bv w B cs vs o -> bv w B2 cs vs o
 | [],vs,o,_,h => by simpa only [bv] using h
 | c :: cs,vs,o,hc,h => by
  simp only [List.any_cons,Bool.or_eq_false_iff] at hc
  simp only [bv] at h ⊢
  obtain ⟨v,vs',o1,o2,h1,h2,h3,h4⟩ := h
  exact ⟨v,vs',o1,o2,h1,h2,jy hc.1 h3,nk hc.2 h4⟩
theorem u4 {x : D} {v : Value} {o : List Res} (hm : jW x = false) (h : ac w B x v o) : ac w B2 x v o := by
 cases x with
 | tup vs =>
  simp only [ac] at h ⊢
  obtain ⟨us,h1,h2⟩ := h
  exact ⟨us,h1,nk hm h2⟩
 | _ => exact jy hm h
theorem sR {lc : Option Nat} {x : D} {v : Value} {o : List Res} (hm : cG x = false) (h : iv lc w B x v o) : iv lc w B2 x v o := by
 cases x with
 | os z xs =>
  have hz : z.2 = 0 := by simp [cG] at hm; exact hm
  cases lc with
  | none => exact h
  | some b =>
   obtain ⟨c,ty,fr,h1,h2,h3⟩ := h
   refine ⟨c,ty,fr,h1,h2,h3.imp (fun h => ?_) (fun h => h)⟩
   obtain ⟨off,cap,o',h4,h5,h6,h7,h8,h9⟩ := h
   exact ⟨off,cap,o',h4,h5,h6,h7,iw hz h8,h9⟩
 | _ => exact ⟨h.1,jx hm h.2⟩
theorem lx : ∀ {lcs : List (Option Nat)} {xs : List D} {vs : List Value} {o : List Res},xs.any cG = false -> cg w B lcs xs vs o -> cg w B2 lcs xs vs o
 | [],[],vs,o,_,h => h
 | lc :: lcs,c :: cs,vs,o,hm,h => by
  simp only [List.any_cons,Bool.or_eq_false_iff] at hm
  obtain ⟨v,vs',o1,o2,h1,h2,h3,h4⟩ := h
  exact ⟨v,vs',o1,o2,h1,h2,sR hm.1 h3,lx hm.2 h4⟩
 | [],_ :: _,_,_,_,h => h.elim
 | _ :: _,[],_,_,_,h => h.elim
end
theorem o7 {P : Program} {h : Ups} : ∀ {ts : List TypeId} {as : List A} {xs : List D} {gone : List Nat},ax P h ts as = some (xs,gone) -> xs.length = as.length
 | [],[],xs,gone,hg => by simp [ax] at hg; simp [hg.1]
 | [],_ :: _,xs,gone,hg => by simp [ax] at hg
 | _ :: _,[],xs,gone,hg => by simp [ax] at hg
 | t :: ts,a :: as,xs,gone,hg => by
  simp only [ax] at hg
  split at hg
  ·rename_i x i r j h1 h2
   cases hg
   simp [o7 h2]
  ·cases hg
theorem oi {m : Mode} {lcs : List (Option Nat)} {w : World} {B : Nat -> Prop} {xs : List D} {v : Value} {o : List Res} (h : gQ m lcs w B (.op xs) v o) : ac w B (.op xs) v o := by cases m <;> exact h
theorem sc {lcs : List (Option Nat)} {w : World} {B : Nat -> Prop} {x y : D} {v : Value} {o : List Res} (hx : ∀ cs,x ≠ .op cs) (h : gj lcs w B x y v o) : qj lcs w B y v o := by
 cases x <;> first | exact h | exact absurd rfl (hx _)
theorem pn {w : World} {B : Nat -> Prop} {h : Ups} {loc : Nat -> Loc} {a : A} {v : Value} (h1 : ∀ cs,a ≠ .agg cs) (h2 : ∀ f cs,a ≠ .fn f cs) (ha : bx w B h loc a v) : al w B h loc a v := by
 cases a <;> first | exact ha | exact absurd rfl (h1 _) | exact absurd rfl (h2 _ _) | exact ha.elim
section
variable {w : World} {B B2 : Nat -> Prop} {m : Bool} {zs : List D} {v : Value} {o : List Res}
theorem vU (hm : (zs.any cG || m) = false \/ B = B2) (h : ac w B (.op zs) v o) : ac w B2 (.op zs) v o := by
 rcases hm with hm | rfl
 ·simp only [Bool.or_eq_false_iff] at hm; exact jy (x := .op zs) hm.1 h
 ·exact h
theorem rk {lcs : List (Option Nat)} {vs : List Value} (hm : (zs.any cG || m) = false \/ B = B2) (h : cg w B lcs zs vs o) : cg w B2 lcs zs vs o := by
 rcases hm with hm | rfl
 ·simp only [Bool.or_eq_false_iff] at hm; exact lx hm.1 h
 ·exact h
theorem vu {lcs : List (Option Nat)} {xs : List D} (hm : (zs.any cG || m) = false \/ B = B2) (h : gj lcs w B (.agg xs) (.agg zs) v o) : gj lcs w B2 (.agg xs) (.agg zs) v o := by
 obtain ⟨vs,h1,h2⟩ := h
 exact ⟨vs,h1,rk hm h2⟩
end
def TB (P : Program) (h0 : Ups) (ts : List TypeId) (ls : List Low) (ys : List D) (n n' : Nat) (u : Ups) (m : Bool) : Prop :=
 ∀ {F : Fr} {hh : Ups} {loc : Nat -> Loc} {O : Nat -> List Res} {who : Nat -> Option (Option Nat)} {B B1 Bio B' : Nat -> Prop} {w w' : World} {o oa oI : List Res} {mode : Nat -> Mode} {LS : Nat -> List (Option Nat)} {i : Nat} {as : List A} {vs : List Value},
  HSc F hh loc O who B w -> Chg o w w' -> (aa o).Nodup -> (∀ b,B b -> w'.heap[b]? = w.heap[b]?) -> (∀ b,B b -> B' b) -> All2 (bx w B hh loc) as vs -> aA P hh mode i ts as = some ls ->
  (∀ id ∈ ls.flatMap ah,ae hh id = ae h0 id) -> (∀ j a,as[j]? = some a -> LS (i + j) = fi loc hh a) -> dr mode LS w B1 i (ls.map (·.x)) vs oa -> (∀ q ∈ oa,q ∈ o) -> fh mode LS w' Bio i (ls.map (·.x)) vs ys oI -> (m = false \/ Bio = B') ->
  ∀ {H : Ups} {locH : Nat -> Loc} {OH : Nat -> List Res} {whoH : Nat -> Option (Option Nat)} {X : Nat -> Prop},HS F.B0 F.w0 F.o0 X H locH OH whoH B' w' -> Floats F.w0 F.o0 whoH oI -> (∀ id ∈ ls.flatMap ah,ae H id = ae hh id /\ locH id = loc id /\ ∃ b,ae hh id = some b) ->
  (ls.flatMap ah).Nodup -> (∀ l ∈ ls,l.gone.Nodup) -> Ext hh loc H locH -> Fresh H n n' -> (∀ i ∈ u.map (·.1),i ∈ ls.flatMap ah \/ (n <= i /\ i < n')) /\ ∃ loc' O' who',Took F.B0 F.w0 F.o0 X H locH whoH B' w' (ls.flatMap ah) oI u loc' O' who'
set_option maxRecDepth 2000 in
theorem dc {P : Program} {h0 : Ups} {R : Type} {r : R} : ∀ {ts : List TypeId} {ls : List Low} {ys : List D} {n : Nat} {K : Nat -> Ups -> Bool -> Option R},aK P h0 n ts ls ys K = some r ->
  ∃ n' u m,K n' u m = some r /\ n <= n' /\ TB P h0 ts ls ys n n' u m
 | [],[],ys,n,K,hk => by
  simp only [aK] at hk
  obtain ⟨rfl,hk⟩ := gh hk
  refine ⟨n,[],false,hk,Nat.le_refl _,?_⟩
  intro F hh loc O who B B1 Bio B' w w' o oa oI mode LS i as vs s0 chg nod kB hB ha hlow heq hLS hx hsub hio hmB H locH OH whoH X s f hX hnd hgn ext0 hf
  exact ⟨by simp,locH,OH,whoH,rQ s oI⟩
 | [],_ :: _,ys,n,K,hk => by simp [aK] at hk
 | _ :: _,[],ys,n,K,hk => by simp [aK] at hk
 | t :: ts,l :: ls,ys,n,K,hk => by
  simp only [aK] at hk
  split at hk
  ·
   rename_i hb
   obtain ⟨n',u,m,h1,h2,h4⟩ := dc hk
   refine ⟨n',u,m,h1,h2,?_⟩
   intro F hh loc O who B B1 Bio B' w w' o oa oI mode LS i as vs s0 chg nod kB hB ha hlow heq hLS hx hsub hio hmB H locH OH whoH X s f hX hnd hgn ext0 hf
   have hbk : ah l = [] := by obtain ⟨x,le,go,bk⟩ := l; simp only at hb; subst hb; rfl
   simp only [List.flatMap_cons,hbk,List.nil_append] at heq hX hnd ⊢
   cases as with
   | nil => simp [aA] at hlow
   | cons a as =>
   simp only [aA] at hlow
   split at hlow
   case h_2 => cases hlow
   rename_i l' r' hl1 hl2
   cases hlow
   cases ha with | cons a1 a2 =>
   obtain ⟨v,vs',o1,o2,hv,rfl,hx1,hx2⟩ := hx
   cases hv
   have hio' : jS (mode i) l.x = false := by
    rcases dP a1 hl1 with h | ⟨id,off,e,cts,cs,xs,gone,_,_,_,_,_,_,rfl⟩ | ⟨_,_,as',_,gone,_,_,h,_⟩
    ·exact h.2
    ·cases hb
    ·rw [h] at hb; cases hb
   simp only [List.map_cons,fh,hio'] at hio
   obtain ⟨v',vs'',hv,hio2⟩ := hio
   cases hv
   exact h4 s0 chg nod kB hB a2 hl2 heq (fun j b hj => by have := hLS (j + 1) b (by simpa using hj); rw [<- this]; congr 1; omega) hx2 (fun q hq => hsub q (by simp [hq])) hio2 hmB s f hX hnd (fun l hl => hgn l (by simp [hl])) ext0 hf
  ·
   rename_i id off mm hb
   split at hk
   case h_2 => cases hk
   rename_i e cs xs hu hg hlx
   split at hk
   case h_2 => cases hk
   rename_i cts hcts
   obtain ⟨y,ys',rfl,hk1⟩ := dE hk
   clear hk
   obtain ⟨zs,rfl,hk2⟩ := kn hk1
   obtain ⟨hk3,hbc⟩ := bm hk2
   rcases hrz : ar n zs with ⟨as1,n1,u1⟩
   rw [hrz] at hk3
   obtain ⟨n',u,m,h1,h2,h4⟩ := dc hk3
   have hm1 : n <= n1 := by have := (bu zs n).1; rw [hrz] at this; exact this
   have hm2 : ∀ i ∈ u1.map (·.1),n <= i /\ i < n1 := by have := (bu zs n).2; rw [hrz] at this; exact this
   have hnn : n1 <= n' := h2
   refine ⟨n',_,_,h1,Nat.le_trans hm1 hnn,?_⟩
   intro F hh loc O who B B1 Bio B' w w' o oa oI mode LS i as vs s0 chg nod kB hB ha hlow heq hLS hx hsub hio hmB H locH OH whoH X s f hX hnd hgn ext0 hf
   cases as with
   | nil => simp [aA] at hlow
   | cons a as =>
   simp only [aA] at hlow
   split at hlow
   case h_2 => cases hlow
   rename_i l' r' hl1 hl2
   cases hlow
   cases ha with | cons a1 a2 =>
   rcases dP a1 hl1 with h | ⟨id',off',e',cts',cs',xs',gone,rfl,hu',hts',hg',hle',hgl,rfl⟩ | ⟨_,_,as',_,gone,_,_,h,_⟩
   ·rw [h.1] at hb; cases hb
   ·cases hb
    cases hlx
    rw [hu] at hu'; cases hu'
    rw [hcts] at hts'; cases hts'
    obtain ⟨v,vs',o1,o2,hv,rfl,hx1,hx2⟩ := hx
    cases hv
    have hio' : jS (mode i) (.op xs) = true := by cases mode i <;> rfl
    simp only [List.map_cons,fh,hio'] at hio
    obtain ⟨v',vs'',y,ys'',p1,p2,hv,hys,rfl,hb1,hio2⟩ := hio
    cases hv; cases hys
    have hbk : ∀ (x : D),ah { x := x,gone := gone,back := .ptr id off cts.length,lent := [] } = [id] := fun _ => rfl
    simp only [List.flatMap_cons,hbk] at heq hX hnd ⊢
    have hnd' := List.nodup_append.1 hnd
    have hgc : ae hh id = some (.var cs) := (heq id (by simp)).trans hg
    rw [hgc] at hg'; cases hg'
    have hlen : xs.length = cts.length := by rw [o7 hgl,List.length_take,List.length_drop]; omega
    have hxr := oi hx1
    have hmB2 : m = false \/ Bio = B' := hmB.imp (fun h => by simp only [Bool.or_eq_false_iff] at h; exact h.2) (fun h => h)
    obtain ⟨m2,loc2,O2,who2,t2⟩ := h4 s0 chg nod kB hB a2 hl2 (fun j hj => heq j (by simp at hj ⊢; exact .inr hj)) (fun j b hj => by have := hLS (j + 1) b (by simpa using hj); rw [<- this]; congr 1; omega) hx2 (fun q hq => hsub q (by simp [hq])) hio2 hmB2 (X := X) s f.right (fun j hj => hX j (by simp at hj ⊢; exact .inr hj)) hnd'.2.1 (fun l hl => hgn l (by simp [hl])) ext0 (fun j g1 g2 => hf j (Nat.le_trans hm1 g1) g2)
    have f1 : Floats F.w0 F.o0 who2 p1 := f.left.congr (fun b hb hw => by
     obtain ⟨q,hq,rfl⟩ := List.mem_map.1 hb
     exact t2.who _ (f.apart q hq) hw)
    obtain ⟨hX1,hX2,_⟩ := hX id (by simp)
    have hidu : id ∉ u.map (·.1) := by
     intro hmm
     rcases m2 id hmm with h5 | ⟨h5,h6⟩
     ·exact hnd'.2.2 id (by simp) id h5 rfl
     ·have := hf id (Nat.le_trans hm1 h5) h6
      rw [hget_some.1 (hX1.trans hgc)] at this; cases this
    have hgo : ae (u ++ H) id = ae H id := cM hidu
    have hlo : loc2 id = locH id := t2.ext.loc (hX1.trans hgc) (hgo.trans (hX1.trans hgc))
    have hfr : Fresh (u ++ H) n (ar n zs).2.1 := by
     rw [hrz]
     exact Fresh.over' (fun j g1 g2 => hf j g1 (Nat.lt_of_lt_of_le g2 hnn)) (fun j hj => by
     rcases m2 j hj with h5 | ⟨h5,_⟩
     ·right
      obtain ⟨h6,_,bb,h7⟩ := hX j (by simp only [List.mem_append]; exact .inr h5)
      rw [hget_some.1 (h6.trans h7)]; simp
     ·exact .inl h5)
    have hzc : ∀ z ∈ zs,dw z = true := fun z hz => by obtain ⟨a,_,h⟩ := hbc.mem z hz; exact h.1
    obtain ⟨loc1,O1,who1,t1⟩ := xq s0 chg nod (n := n) a1 hgc hxr (fun q hq => hsub q (by simp [hq])) (by omega) (vU hmB hb1) hbc.length.symm hzc kB hB (X := fun i => X i /\ i ∉ ls.flatMap ah) t2.hs f1 (hgo.trans hX1) (hlo.trans hX2) (ext0.trans t2.ext) hfr
    rw [hrz] at t1
    refine ⟨?_,loc1,O1,who1,?_⟩
    ·intro j hj
     simp only [List.map_cons,List.map_append,List.mem_cons,List.mem_append] at hj
     simp only [List.mem_append,List.mem_singleton]
     rcases hj with rfl | hj | hj
     ·exact .inl (.inl rfl)
     ·have := hm2 j hj; exact .inr ⟨this.1,by omega⟩
     ·rcases m2 j hj with h5 | ⟨h5,h6⟩
      ·exact .inl (.inr h5)
      ·exact .inr ⟨Nat.le_trans hm1 h5,h6⟩
    ·have := Took.trans t2 t1
     rw [hlen] at this
     exact this
   ·rw [h] at hb; cases hb
  ·
   rename_i gs as0 hb
   obtain ⟨y,ys',rfl,hk1⟩ := dE hk
   clear hk
   split at hk1
   ·rename_i xs hlx
    split at hk1
    case h_2 => cases hk1
    rename_i cts hcts
    obtain ⟨zs,rfl,hk2⟩ := cq hk1
    obtain ⟨hk3,hbc⟩ := bm hk2
    obtain ⟨n',u,m,h1,h2,h4⟩ := dc hk3
    refine ⟨n',_,_,h1,h2,?_⟩
    intro F hh loc O who B B1 Bio B' w w' o oa oI mode LS i as vs s0 chg nod kB hB ha hlow heq hLS hx hsub hio hmB H locH OH whoH X s f hX hnd hgn ext0 hf
    cases as with
    | nil => simp [aA] at hlow
    | cons a as =>
    simp only [aA] at hlow
    split at hlow
    case h_2 => cases hlow
    rename_i l' r' hl1 hl2
    cases hlow
    cases ha with | cons a1 a2 =>
    rcases dP a1 hl1 with h | ⟨id',off',e',cts',cs',xs',gone,rfl,hu',hts',hg',hle',hgl,rfl⟩ | ⟨hmode,ts',as2,xs',gone,hwh,hgl,hb2,hform⟩
    ·rw [h.1] at hb; cases hb
    ·cases hb
    ·rw [hb] at hb2; cases hb2
     obtain ⟨v,vs',o1,o2,hv,rfl,hx1,hx2⟩ := hx
     cases hv
     have hbk : ah l = gs := by obtain ⟨x,le,go,bk⟩ := l; simp only at hb; subst hb; rfl
     simp only [List.flatMap_cons,hbk] at heq hX hnd ⊢
     have hnd' := List.nodup_append.1 hnd
     have e : LS i = fi loc hh a := by simpa using hLS 0 a rfl
     have hio' : jS (mode i) l.x = true := by rw [hmode,hlx]; rfl
     simp only [List.map_cons,fh,hio'] at hio
     obtain ⟨v',vs'',y,ys'',p1,p2,hv,hys,rfl,hb1,hio2⟩ := hio
     cases hv; cases hys
     have hmB2 : m = false \/ Bio = B' := hmB.imp (fun h => by simp only [Bool.or_eq_false_iff] at h; exact h.2) (fun h => h)
     obtain ⟨m2,loc2,O2,who2,t2⟩ := h4 s0 chg nod kB hB a2 hl2 (fun j hj => heq j (by simp at hj ⊢; exact .inr hj)) (fun j b hj => by have := hLS (j + 1) b (by simpa using hj); rw [<- this]; congr 1; omega) hx2 (fun q hq => hsub q (by simp [hq])) hio2 hmB2 (X := X) s f.right (fun j hj => hX j (by simp at hj ⊢; exact .inr hj)) hnd'.2.1 (fun l hl => hgn l (by simp [hl])) ext0 hf
     have f1 : Floats F.w0 F.o0 who2 p1 := f.left.congr (fun b hb hw => by
      obtain ⟨q,hq,rfl⟩ := List.mem_map.1 hb
      exact t2.who _ (f.apart q hq) hw)
     have hxs : xs' = xs := by
      rcases hform with ⟨_,_,hxe⟩ | ⟨_,_,_,_,hic,_⟩
      ·rw [hlx] at hxe; cases hxe; rfl
      ·rw [hlx] at hic; exact hic.elim
     subst hxs
     have hall : ∃ vals,All2 (al w B hh loc) as0 vals /\ cg w' B' (as0.map (gw loc hh)) zs vals p1 := by
      rw [hlx] at hb1
      rcases hform with ⟨rfl,hts,hxe⟩ | ⟨_,_,_,_,hic,_⟩
      ·have hb1 := vu hmB hb1
       obtain ⟨va,rfl,hc⟩ := a1
       obtain ⟨vb,hvb,hcl⟩ := hb1
       cases hvb
       rw [e] at hcl
       exact ⟨_,hc,hcl⟩
      ·rw [hlx] at hic; exact hic.elim
     obtain ⟨vals,hv1,hv2⟩ := hall
     have hout : ∀ id ∈ gs,ae (u ++ H) id = ae hh id /\ loc2 id = loc id := by
      intro id hid
      obtain ⟨hX1,hX2,bb,hX3⟩ := hX id (by simp [hid])
      have hidu : id ∉ u.map (·.1) := by
       intro hmm
       rcases m2 id hmm with h5 | ⟨h5,h6⟩
       ·exact hnd'.2.2 id hid id h5 rfl
       ·have := hf id h5 h6
        rw [hget_some.1 (hX1.trans hX3)] at this; cases this
      have hgo : ae (u ++ H) id = ae H id := cM hidu
      exact ⟨hgo.trans hX1,(t2.ext.loc (hX1.trans hX3) (hgo.trans (hX1.trans hX3))).trans hX2⟩
     obtain ⟨m1,loc1,O1,who1,t1⟩ := qn s0 chg hv1 hgl hwh hnd'.1 hbc hv2 (X := fun i => X i /\ i ∉ ls.flatMap ah) t2.hs f1 hout
     refine ⟨?_,loc1,O1,who1,Took.trans t2 t1⟩
     intro j hj
     simp only [List.map_append,List.mem_append] at hj
     simp only [List.mem_append]
     rcases hj with hj | hj
     ·exact .inl (.inl (m1 j hj))
     ·rcases m2 j hj with h5 | h5
      ·exact .inl (.inr h5)
      ·exact .inr h5
   ·rename_i hlx
    obtain ⟨hk3,hbc⟩ := bm hk1
    obtain ⟨n',u,m,h1,h2,h4⟩ := dc hk3
    refine ⟨n',_,_,h1,h2,?_⟩
    intro F hh loc O who B B1 Bio B' w w' o oa oI mode LS i as vs s0 chg nod kB hB ha hlow heq hLS hx hsub hio hmB H locH OH whoH X s f hX hnd hgn ext0 hf
    cases as with
    | nil => simp [aA] at hlow
    | cons a as =>
    simp only [aA] at hlow
    split at hlow
    case h_2 => cases hlow
    rename_i l' r' hl1 hl2
    cases hlow
    cases ha with | cons a1 a2 =>
    rcases dP a1 hl1 with h | ⟨id',off',e',cts',cs',xs',gone,rfl,hu',hts',hg',hle',hgl,rfl⟩ | ⟨hmode,ts',as2,xs',gone,hwh,hgl,hb2,hform⟩
    ·rw [h.1] at hb; cases hb
    ·cases hb
    ·rw [hb] at hb2; cases hb2
     obtain ⟨v,vs',o1,o2,hv,rfl,hx1,hx2⟩ := hx
     cases hv
     have hbk : ah l = gs := by obtain ⟨x,le,go,bk⟩ := l; simp only at hb; subst hb; rfl
     simp only [List.flatMap_cons,hbk] at heq hX hnd ⊢
     have hnd' := List.nodup_append.1 hnd
     have e : LS i = fi loc hh a := by simpa using hLS 0 a rfl
     have hio' : jS (mode i) l.x = true := by rw [hmode]; unfold jS; split <;> simp_all
     simp only [List.map_cons,fh,hio'] at hio
     obtain ⟨v',vs'',y,ys'',p1,p2,hv,hys,rfl,hb1,hio2⟩ := hio
     cases hv; cases hys
     have hmB2 : m = false \/ Bio = B' := hmB.imp (fun h => by simp only [Bool.or_eq_false_iff] at h; exact h.2) (fun h => h)
     obtain ⟨m2,loc2,O2,who2,t2⟩ := h4 s0 chg nod kB hB a2 hl2 (fun j hj => heq j (by simp at hj ⊢; exact .inr hj)) (fun j b hj => by have := hLS (j + 1) b (by simpa using hj); rw [<- this]; congr 1; omega) hx2 (fun q hq => hsub q (by simp [hq])) hio2 hmB2 (X := X) s f.right (fun j hj => hX j (by simp at hj ⊢; exact .inr hj)) hnd'.2.1 (fun l hl => hgn l (by simp [hl])) ext0 hf
     have f1 : Floats F.w0 F.o0 who2 p1 := f.left.congr (fun b hb hw => by
      obtain ⟨q,hq,rfl⟩ := List.mem_map.1 hb
      exact t2.who _ (f.apart q hq) hw)
     have hall : ∃ vals,All2 (al w B hh loc) as0 vals /\ cg w' B' (as0.map (gw loc hh)) [y] vals p1 := by
      rcases hform with ⟨rfl,hts,hxe⟩ | ⟨rfl,_,hxe,hna,hic,hno⟩
      ·exact absurd hxe (hlx _)
      ·have hya : ∀ cs,y ≠ .agg cs := by
        rintro cs rfl
        cases hbc with | cons b1 _ => cases b1.1
       have hb2' := sc hno hb1
       have hlc : fi loc hh a = [gw loc hh a] := by cases a <;> first | rfl | exact absurd rfl (hna _)
       have ha1 := pn hna (by
        rintro f cs rfl
        cases ts' with
        | nil => simp [ax] at hgl
        | cons t0 ts0 => cases ts0 <;> simp [ax,aq] at hgl) a1
       rw [e,hlc] at hb2'
       exact ⟨[_],.cons ha1 .nil,rk hmB ((kH hya).1 hb2')⟩
     obtain ⟨vals,hv1,hv2⟩ := hall
     have hout : ∀ id ∈ gs,ae (u ++ H) id = ae hh id /\ loc2 id = loc id := by
      intro id hid
      obtain ⟨hX1,hX2,bb,hX3⟩ := hX id (by simp [hid])
      have hidu : id ∉ u.map (·.1) := by
       intro hmm
       rcases m2 id hmm with h5 | ⟨h5,h6⟩
       ·exact hnd'.2.2 id hid id h5 rfl
       ·have := hf id h5 h6
        rw [hget_some.1 (hX1.trans hX3)] at this; cases this
      have hgo : ae (u ++ H) id = ae H id := cM hidu
      exact ⟨hgo.trans hX1,(t2.ext.loc (hX1.trans hX3) (hgo.trans (hX1.trans hX3))).trans hX2⟩
     have hgl' : ax P hh ts' as0 = some ([l.x],gs) := by
      rcases hform with ⟨rfl,hts,hxe⟩ | ⟨rfl,_,hxe,_,_,_⟩
      ·exact absurd hxe (hlx _)
      ·rw [hxe] at hgl; exact hgl
     obtain ⟨m1,loc1,O1,who1,t1⟩ := qn s0 chg hv1 hgl' hwh hnd'.1 hbc hv2 (X := fun i => X i /\ i ∉ ls.flatMap ah) t2.hs f1 hout
     refine ⟨?_,loc1,O1,who1,Took.trans t2 t1⟩
     intro j hj
     simp only [List.map_append,List.mem_append] at hj
     simp only [List.mem_append]
     rcases hj with hj | hj
     ·exact .inl (.inl (m1 j hj))
     ·rcases m2 j hj with h5 | h5
      ·exact .inl (.inr h5)
      ·exact .inr h5
section
variable {P : Program} {h h' : Ups}
theorem lj {t : TypeId} {a : A} (e : ∀ id ∈ ct a,hfind h' id = hfind h id) : ce P h' t a = ce P h t a := by
 cases a with
 | asl id rng => simp only [ce,am (e id (by simp [ct]))]
 | d x => cases x <;> rfl
 | _ => rfl
theorem lm : ∀ {ts : List TypeId} {as : List A},(∀ id ∈ as.flatMap ct,hfind h' id = hfind h id) -> ef P h' ts as = ef P h ts as
 | [],[],_ => rfl
 | [],_ :: _,_ => rfl
 | _ :: _,[],_ => rfl
 | t :: ts,a :: as,e => by
  simp only [ef]
  rw [lj (fun id hid => e id (by simp [hid])),lm (fun id hid => e id (by simp only [List.flatMap_cons,List.mem_append]; exact .inr hid))]
theorem lp : ∀ {as : List A},(∀ id ∈ as.flatMap ct,hfind h' id = hfind h id) -> ie h' as = ie h as
 | [],_ => rfl
 | a :: as,e => by
  simp only [ie]
  rw [lp (fun id hid => e id (by simp only [List.flatMap_cons,List.mem_append]; exact .inr hid))]
  cases a with
  | asl id rng => simp only [am (e id (by simp [ct]))]
  | _ => rfl
theorem jX {a : A} {id : Nat} (hi : id ∈ d9 a) : id ∈ kr h a := by simp only [kr,List.mem_append]; exact .inl hi
theorem jY {a : A} {id j : Nat} {cs : List A} (hi : id ∈ d9 a) (hg : ae h id = some (.var cs)) (hj : j ∈ cs.flatMap ct) : j ∈ kr h a := by
 simp only [kr,List.mem_append]
 refine .inr (List.mem_flatMap.2 ⟨id,hi,?_⟩)
 simp only [hg]; exact hj
theorem jV {a : A} (e : ∀ id ∈ kr h a,hfind h' id = hfind h id) : bA h' a = bA h a := by
 cases a with
 | ref id i off =>
  cases i with
  | succ i => rfl
  | zero =>
   cases off with
   | succ off => rfl
   | zero =>
    have e1 := am (e id (jX (by simp [d9,ct])))
    simp only [bA,e1]
    split
    ·rename_i cs hg
     rw [lp (fun j hj => e j (jY (by simp [d9,ct]) hg hj))]
    ·rfl
 | _ => rfl
theorem i9 : ∀ {as : List A},(∀ id ∈ as.flatMap (kr h),hfind h' id = hfind h id) -> bC h' as = bC h as
 | [],_ => rfl
 | a :: as,e => by
  simp only [bC]
  rw [jV (fun id hid => e id (by simp [hid])),i9 (fun id hid => e id (by simp only [List.flatMap_cons,List.mem_append]; exact .inr hid))]
theorem mL {f : Nat} : ∀ {as : List A} {cs : List A},(∀ c ∈ as,c ∈ cs) -> (∀ id ∈ kr h (.fn f cs),hfind h' id = hfind h id) -> bC h' as = bC h as
 | [],_,_,_ => rfl
 | a :: as,cs,hs,e => by
  have e1 : bA h' a = bA h a := by
   have hm := hs a (by simp)
   cases a with
   | ref id i off =>
    refine jV (fun j hj => e j ?_)
    simp only [kr,d9,List.mem_append,List.mem_flatMap] at hj ⊢
    rcases hj with hj | ⟨k,hk,hj⟩
    ·exact .inl ⟨_,hm,hj⟩
    ·exact .inr ⟨k,⟨_,hm,hk⟩,hj⟩
   | _ => rfl
  simp only [bC]
  rw [e1,mL (fun c hc => hs c (by simp [hc])) e]
theorem pR {m : Mode} {t : TypeId} {a : A} (e : ∀ id ∈ kr h a,hfind h' id = hfind h id) : bI P h' m t a = bI P h m t a := by
 have one : ∀ {a : A},(∀ id ∈ ct a,hfind h' id = hfind h id) -> ce P h' t a = ce P h t a /\ aq P h' t a = aq P h t a := fun e => ⟨lj e,gZ e⟩
 cases a with
 | ref id i off =>
  cases i with
  | succ i => rfl
  | zero =>
   have e1 := am (e id (jX (by simp [d9,ct])))
   simp only [bI,e1]
   split
   ·split
    ·rename_i ts cs hts hg
     split
     ·rw [fg (h := h) (h' := h')]
      intro j hj
      refine e j (jY (by simp [d9,ct]) hg ?_)
      obtain ⟨c,hc,hj⟩ := List.mem_flatMap.1 hj
      exact List.mem_flatMap.2 ⟨c,List.mem_of_mem_drop (List.mem_of_mem_take hc),hj⟩
     ·rfl
    ·rfl
   ·rfl
 | rp z xs i off => rfl
 | fn f caps =>
  simp only [bI]
  rw [mL (fun c hc => hc) e]
 | agg cs =>
  have hcs : ∀ id ∈ cs.flatMap ct,hfind h' id = hfind h id := fun id hid => e id (jX hid)
  simp only [bI]
  split
  ·rw [lm hcs,fg hcs]
  ·rfl
 | tup vs => rfl
 | d x => cases x <;> rfl
 | asl id rng =>
  have hs : ∀ j ∈ ct (.asl id rng),hfind h' j = hfind h j := fun j hj => e j (jX hj)
  simp only [bI,(one hs).1,(one hs).2]
 | mp _ => rfl
 | undef => rfl
theorem i8 {mode : Nat -> Mode} : ∀ {ts : List TypeId} {as : List A} {i : Nat},(∀ id ∈ as.flatMap (kr h),hfind h' id = hfind h id) -> aA P h' mode i ts as = aA P h mode i ts as
 | [],[],_,_ => rfl
 | [],_ :: _,_,_ => rfl
 | _ :: _,[],_,_ => rfl
 | t :: ts,a :: as,i,e => by
  simp only [aA]
  rw [pR (fun id hid => e id (by simp [hid])),i8 (fun id hid => e id (by simp only [List.flatMap_cons,List.mem_append]; exact .inr hid))]
end
section
variable {B0 : Nat -> Prop} {w0 : World} {o0 : List Res} {X : Nat -> Prop} {h : Ups} {loc : Nat -> Loc} {O : Nat -> List Res} {who : Nat -> Option (Option Nat)} {B : Nat -> Prop} {w : World}
theorem HS.unwho (s : HS B0 w0 o0 X h loc O who B w) (ids : List Nat) (hO : ∀ id ∈ ids,∀ b,ae h id = some b -> O id = []) :
  HS B0 w0 o0 X h loc O (fun b => if ∃ i ∈ ids,who b = some (some i) then some none else who b) B w := by
 refine ⟨s.blk,?_,s.nod,s.okr,?_,s.blt,s.bsub,s.b0,s.chg⟩
 ·intro id b hb r hr
  have h2 := s.own id b hb r hr
  have h3 : ¬ ∃ i ∈ ids,who r.blk = some (some i) := by
   rintro ⟨i,hi,e⟩
   rw [h2] at e
   have : id = i := by simpa using e
   subst this
   rw [hO id hi b hb] at hr; cases hr
  simp only [h3,if_false]; exact h2
 ·intro b ow hb
  by_cases h1 : ∃ i ∈ ids,who b = some (some i)
  ·obtain ⟨i,_,e⟩ := h1; exact s.mine b _ e
  ·simp only [h1,if_false] at hb; exact s.mine b ow hb
theorem uY {w1 : World} {o1 : List Res} {q : Res} (hs : w0.heap.size <= w1.heap.size) (h1 : ∀ r ∈ o1,okR w0 o0 r) (h : okR w1 o1 q) : okR w0 o0 q := by
 by_cases hn : w0.heap.size <= q.blk
 ·exact .inl hn
 rcases h with h | ⟨h2,h3⟩
 ·exact absurd (Nat.le_trans hs h) hn
 ·obtain ⟨r,hr,e⟩ := List.mem_map.1 h2
  rcases h1 r hr with h4 | ⟨h4,_⟩
  ·rw [e] at h4; exact absurd h4 hn
  ·refine .inr ⟨by rw [<- e]; exact h4,fun j hj => ?_⟩
   obtain ⟨r1,hr1,hc1⟩ := h3 j hj
   have hb1 : r1.blk = q.blk := by cases r1 <;> simp_all [Res.covers,Res.blk]
   rcases h1 r1 hr1 with h6 | ⟨h6,h7⟩
   ·rw [hb1] at h6; exact absurd h6 hn
   ·rw [hb1] at h7
    exact h7 j hc1
end
section
variable {P : Program} {F : Fr} {h : Ups} {loc : Nat -> Loc} {O : Nat -> List Res} {who : Nat -> Option (Option Nat)} {B : Nat -> Prop} {w : World}
theorem og (s : HSc F h loc O who B w) {G L : List Nat} {o : List Res} (hfrom : FromC h O G o) {mode : Nat -> Mode} {LS : Nat -> List (Option Nat)} {ps : List D} {pv : List Value} {r : Ret} {v : Value} {w' : World} {B' : Nat -> Prop} {oR oI : List Res}
  (cb : CameBack mode LS w (LB B who L) o ps pv r v w' B' oR oI) :
  ∃ O' who',HS F.B0 F.w0 F.o0 (fun i => i ∈ G) h loc O' who' B w' /\ Floats F.w0 F.o0 who' (oR ++ oI) /\ (∀ b,B b -> w'.heap[b]? = w.heap[b]?) /\ (∀ id,id ∉ G -> O' id = O id) /\
   (∀ b,who' b = if ∃ i ∈ G,who b = some (some i) then some none else if b ∈ (aa (oR ++ oI)).filter (fun b => decide (w.heap.size <= b)) then some none else who b) := by
 have hho := hfrom.whose s
 have hok := hfrom.okr s
 have nBo : ∀ b,b ∈ aa o -> ¬ B b /\ ∃ i ∈ G,who b = some (some i) := by
  intro b hb
  obtain ⟨q,hq,rfl⟩ := List.mem_map.1 hb
  obtain ⟨i,hi,_,hw⟩ := hho q hq
  exact ⟨(s.mine _ _ hw).1,i,hi,hw⟩
 have kB : ∀ b,B b -> w'.heap[b]? = w.heap[b]? := fun b hb => cb.chg.same b (s.blt b hb) (fun hm => (nBo b hm).1 hb)
 have s1 := s.release G
 obtain ⟨s2,k2⟩ := s1.world (w' := w') cb.chg.size (s.chg.step cb.chg hok) (by
  intro b hb
  rcases hb with hb | ⟨i,hi,hx⟩
  ·exact kB b hb
  ·by_cases hg : ∃ j ∈ G,who b = some (some j)
   ·simp only [hg,if_true] at hi; cases hi
   ·simp only [hg,if_false] at hi
    exact cb.chg.same b (s.mine b _ hi).2.1 (fun hm => hg (nBo b hm).2))
 have s3 := s2.take ((aa (oR ++ oI)).filter (fun b => decide (w.heap.size <= b))) (by
  intro b hb
  rw [List.mem_filter] at hb
  obtain ⟨hb1,hb2⟩ := hb
  have hb2 := of_decide_eq_true hb2
  obtain ⟨q,hq,rfl⟩ := List.mem_map.1 hb1
  have hwn : who q.blk = none := by
   cases hw : who q.blk with
   | none => rfl
   | some ow => exact absurd (s.mine _ ow hw).2.1 (by omega)
  refine ⟨by simp [hwn],fun hB => absurd (s.blt _ hB) (by omega),(cb.own q hq).2.1,Nat.le_trans s.chg.size hb2⟩)
 refine ⟨_,_,s3.same (fun i hi => hi.elim (fun h => h.elim) (fun h => h)),⟨?_,cb.nod,?_⟩,kB,?_,?_⟩
 ·intro q hq
  rcases (cb.own q hq).2.2 with hn | ⟨hm,_⟩
  ·have : q.blk ∈ (aa (oR ++ oI)).filter (fun b => decide (w.heap.size <= b)) := List.mem_filter.2 ⟨List.mem_map.2 ⟨q,hq,rfl⟩,decide_eq_true hn⟩
   simp [this]
  ·obtain ⟨_,i,hi,hw⟩ := nBo _ hm
   have : ∃ i ∈ G,who q.blk = some (some i) := ⟨i,hi,hw⟩
   simp [this]
 ·intro q hq
  exact uY s.chg.size hok (cb.own q hq).2.2
 ·intro id hid; simp [hid]
 ·intro b
  by_cases hg : ∃ j ∈ G,who b = some (some j)
  ·simp only [hg,if_true]; split <;> rfl
  ·simp only [hg,if_false]
end
section
variable {P : Program} {F : Fr} {h : Ups} {loc : Nat -> Loc} {O : Nat -> List Res} {who : Nat -> Option (Option Nat)} {B : Nat -> Prop} {w : World}
open Classical in
theorem ut (s : HSc F h loc O who B w) {G L : List Nat} {o : List Res} (hfrom : FromC h O G o) {mode : Nat -> Mode} {LS : Nat -> List (Option Nat)} {ps : List D} {pv : List Value} {r : Ret} {v : Value} {w' : World} {B' : Nat -> Prop} {oR oI : List Res}
  (cb : CameBack mode LS w (LB B who L) o ps pv r v w' B' oR oI) (hd : ∀ i ∈ L,i ∉ G) (hL : gT h L = true) :
  ∃ O' who',HS F.B0 F.w0 F.o0 (fun i => i ∈ G \/ i ∈ L) h loc O' who' B' w' /\ Floats F.w0 F.o0 who' (oR ++ oI) /\ (∀ b,B b -> w'.heap[b]? = w.heap[b]?) /\ (∀ id ∈ L,O' id = []) := by
 obtain ⟨O1,who1,s1,f1,kB,hO1,hw1⟩ := og s hfrom cb
 have s2 := s1.release L
 have s3 := s2.drop (fun b => B' b) (by
  intro b hb i hi
  by_cases h1 : ∃ j ∈ L,who1 b = some (some j)
  ·simp only [h1,if_true] at hi; cases hi
  ·simp only [h1,if_false] at hi
   rw [hw1] at hi
   by_cases hg : ∃ j ∈ G,who b = some (some j)
   ·simp only [hg,if_true] at hi; cases hi
   ·simp only [hg,if_false] at hi
    split at hi
    ·cases hi
    ·rename_i hnf
     rcases (cb.bnew b hb).2 with (hB | ⟨j,hj,hwj⟩) | hsz | hbo
     ·exact (s.mine b _ hi).1 hB
     ·refine h1 ⟨j,hj,?_⟩
      rw [hw1]
      simp only [hg,if_false,hnf]
      exact hwj
     ·exact absurd (s.mine b _ hi).2.1 (by omega)
     ·obtain ⟨q,hq,e⟩ := List.mem_map.1 hbo
      obtain ⟨i',hi',_,hw⟩ := hfrom.whose s q hq
      rw [e] at hw
      exact hg ⟨i',hi',hw⟩)
 obtain ⟨s4,k4⟩ := s3.lend (B' := B') (fun b hb => cb.bsub b (.inl hb)) (by
  intro b hb
  refine ⟨(cb.bnew b hb).1,?_,fun ow e => by simp [hb] at e⟩
  rcases (cb.bnew b hb).2 with (hB | ⟨j,hj,hwj⟩) | hsz | hbo
  ·exact s.bsub b hB
  ·exact .inr (s.mine b _ hwj).2.2
  ·exact .inr (.inl (Nat.le_trans s.chg.size hsz))
  ·obtain ⟨q,hq,e⟩ := List.mem_map.1 hbo
   obtain ⟨i',hi',_,hw⟩ := hfrom.whose s q hq
   rw [e] at hw
   exact .inr (s.mine b _ hw).2.2)
 refine ⟨_,_,s4,⟨?_,f1.nod,f1.okr⟩,kB,fun id hid => by simp [hid]⟩
 intro q hq
 have h1 := f1.who q hq
 have h2 : ¬ B' q.blk := (cb.own q hq).1
 have h3 : ¬ ∃ j ∈ L,who1 q.blk = some (some j) := by rintro ⟨j,_,e⟩; rw [h1] at e; cases e
 simp only [h2,if_false,h3]
 exact h1
theorem HS.close {B0 : Nat -> Prop} {w0 : World} {o0 : List Res} {X Y : Nat -> Prop} (s : HS B0 w0 o0 X h loc O who B w) (hY : ∀ id b,ae h id = some b -> X id -> ¬ Y id -> dF w B h loc (loc id) (O id) b) : HS B0 w0 o0 Y h loc O who B w :=
 ⟨fun id b hb hy => by
  by_cases hx : X id
  ·exact hY id b hb hx hy
  ·exact s.blk id b hb hx,s.own,s.nod,s.okr,s.mine,s.blt,s.bsub,s.b0,s.chg⟩
theorem ia {id : Nat} {z : Z} {xs : List D} (hg : ae h id = some (.arr z xs)) : ∀ (r : List Nat),ae (freeze h r ++ h) id = some (.arr z xs) \/ ae (freeze h r ++ h) id = some (.fz z xs)
 | [] => .inl hg
 | j :: r => by
  simp only [freeze]
  split
  ·rename_i z' xs' hj
   simp only [List.cons_append,iJ]
   by_cases e : j = id
   ·subst e
    rw [hg] at hj; cases hj
    exact .inr (by simp)
   ·simp only [e,if_false]; exact ia hg r
  ·exact ia hg r
theorem frozen (s0 : HSc F h loc O who B w) {G L : List Nat} {w' : World} {B' : Nat -> Prop} (kB : ∀ b,B b -> w'.heap[b]? = w.heap[b]?) (hB : ∀ b,B b -> B' b) (hsame : ∀ id ∈ L,∀ b,who b = some (some id) -> w'.heap[b]? = w.heap[b]? /\ B' b)
  (hkind : ∀ id ∈ L,∀ z xs,ae h id = some (.arr z xs) -> z.2 <= 1) (hL : gT h L = true) {O1 : Nat -> List Res} {who1 : Nat -> Option (Option Nat)} (s : HS F.B0 F.w0 F.o0 (fun i => i ∈ G \/ i ∈ L) h loc O1 who1 B' w') (hO1 : ∀ id ∈ L,O1 id = []) :
  ∀ (r : List Nat),(∀ id ∈ r,id ∈ L) -> ∃ O2 who2,HS F.B0 F.w0 F.o0 (fun i => i ∈ G \/ (i ∈ L /\ i ∉ r /\ ∃ z xs,ae h i = some (.arr z xs))) (freeze h r ++ h) loc O2 who2 B' w' /\ Ext h loc (freeze h r ++ h) loc /\ (∀ b,who1 b = some none -> who2 b = some none)
 | [],_ => by
  refine ⟨O1,who1,s.close ?_,Ext.refl h loc,fun _ h => h⟩
  intro id b hg hx hy
  rcases hx with hx | hx
  ·exact absurd (.inl hx) hy
  ·rw [hO1 id hx]
   have ha := List.all_eq_true.1 hL id hx
   simp only [hg] at ha
   cases b with
   | var cs => cases ha
   | mp sh xs => cases ha
   | arr z xs => exact absurd (.inr ⟨hx,by simp,z,xs,hg⟩) hy
   | fz z xs =>
    obtain ⟨_,hz,hb⟩ := s0.blk id _ hg (fun hx => hx)
    refine ⟨rfl,hz,hb.imp (fun h => h) ?_⟩
    rintro ⟨b,base,sz,hl,he,hBb⟩
    exact ⟨b,base,sz,hl,av hB b base z xs [] (fun b' hb' => kB b' (hb'.resolve_right (by simp [aa]))) (fun hn => kB b (hBb hn)) he,fun hn => hB b (hBb hn)⟩
 | id :: r,hr => by
  obtain ⟨O2,who2,s2,e2,w2⟩ := frozen s0 kB hB hsame hkind hL s hO1 r (fun j hj => hr j (by simp [hj]))
  have hid := hr id (by simp)
  simp only [freeze]
  split
  ·rename_i z xs hg
   have hz := hkind id hid z xs hg
   have hext : Ext (freeze h r ++ h) loc ((id,some (.fz z xs)) :: (freeze h r ++ h)) loc := by
    rcases ia hg r with h1 | h1
    ·exact ch h1 rfl rfl
    ·exact ch h1 rfl rfl
   have hrep : dF w' B' ((id,some (.fz z xs)) :: (freeze h r ++ h)) loc (loc id) [] (.fz z xs) := by
    refine ⟨rfl,hz,?_⟩
    rcases s0.blk id _ hg (fun hx => hx) with ⟨h1,h2,_⟩ | ⟨b,base,sz,c,ty,fr,o',hl,hh,hsz,hu,he,hO⟩
    ·exact .inl ⟨h1,h2⟩
    ·have hw := s0.own id _ hg (.arr b) (by rw [hO]; simp)
     have e0 := cQ hz he
     subst e0
     exact .inr ⟨b,base,sz,hl,av hB b base z xs [] (fun b' hb' => kB b' (hb'.resolve_right (by simp [aa]))) (fun _ => (hsame id hid b hw).1) he,fun _ => (hsame id hid b hw).2⟩
   have s3 := s2.set id (.fz z xs) (loc id) [] (by rw [aX loc id rfl]; exact hext) (by rw [aX loc id rfl]; exact hrep) (by simp) (by simp [aa]) (by simp)
   rw [aX loc id rfl] at s3
   refine ⟨_,_,s3.same (fun i hi => ?_),e2.trans hext,fun b hb => by simp [aa,w2 b hb]⟩
   rcases hi.1 with h1 | ⟨h1,h2,h3⟩
   ·exact .inl h1
   ·exact .inr ⟨h1,by simp [hi.2,h2],h3⟩
  ·rename_i hna
   refine ⟨O2,who2,s2.same (fun i hi => ?_),e2,w2⟩
   rcases hi with h1 | ⟨h1,h2,h3⟩
   ·exact .inl h1
   ·refine .inr ⟨h1,?_,h3⟩
    simp only [List.mem_cons,not_or]
    refine ⟨?_,h2⟩
    rintro rfl
    obtain ⟨z,xs,h4⟩ := h3
    exact hna z xs h4
end
def fA (h : Ups) (i : Nat) : Prop := ∃ b,ae h i = some b /\ ∀ z xs,b = .arr z xs -> z.2 <= 1
section
variable {P : Program} {h : Ups}
theorem lk {t : TypeId} {a : A} {x : D} {ids : List Nat} (hl : ce P h t a = some (x,ids)) : ∀ i ∈ ids,fA h i := by
 cases a with
 | asl id rng =>
  simp only [ce] at hl
  split at hl
  ·rename_i z xs hg
   split at hl
   ·rename_i hz
    cases hl
    intro i hi
    simp only [List.mem_singleton] at hi; subst hi
    exact ⟨_,hg,fun z' xs' e => by cases e; exact of_decide_eq_true hz⟩
   ·cases hl
  ·rename_i z xs hg
   cases hl
   intro i hi
   simp only [List.mem_singleton] at hi; subst hi
   exact ⟨_,hg,fun z' xs' e => by cases e⟩
  ·cases hl
 | d y =>
  by_cases hy : y = .nl
  ·subst hy
   simp only [ce] at hl
   split at hl
   ·simp only [Option.map_eq_some_iff] at hl
    obtain ⟨z,_,hz⟩ := hl
    cases hz; simp
   ·cases hl
  ·have : ce P h t (.d y) = some (y,[]) := by cases y <;> first | rfl | exact absurd rfl hy
   rw [this] at hl; cases hl; simp
 | _ => simp [ce] at hl
theorem ln : ∀ {ts : List TypeId} {as : List A} {xs : List D} {ids : List Nat},ef P h ts as = some (xs,ids) -> ∀ i ∈ ids,fA h i
 | [],[],xs,ids,hl => by simp [ef] at hl; simp [hl.2]
 | [],_ :: _,xs,ids,hl => by simp [ef] at hl
 | _ :: _,[],xs,ids,hl => by simp [ef] at hl
 | t :: ts,a :: as,xs,ids,hl => by
  simp only [ef] at hl
  split at hl
  ·rename_i x i r j h1 h2
   cases hl
   intro k hk
   rcases List.mem_append.1 hk with hk | hk
   ·exact lk h1 k hk
   ·exact ln h2 k hk
  ·cases hl
theorem lq : ∀ {as : List A} {xs : List D} {ids : List Nat},ie h as = some (xs,ids) -> ∀ i ∈ ids,fA h i
 | [],xs,ids,hl => by simp [ie] at hl; simp [hl.2]
 | a :: as,xs,ids,hl => by
  simp only [ie] at hl
  split at hl
  ·cases hl
  rename_i r j h2
  have ih := lq h2
  split at hl
  ·rename_i id rng
   split at hl
   ·rename_i z ys hg
    split at hl
    ·rename_i hz
     cases hl
     intro k hk
     rcases List.mem_cons.1 hk with rfl | hk
     ·exact ⟨_,hg,fun z' xs' e => by cases e; exact of_decide_eq_true hz⟩
     ·exact ih k hk
    ·cases hl
   ·rename_i z ys hg
    cases hl
    intro k hk
    rcases List.mem_cons.1 hk with rfl | hk
    ·exact ⟨_,hg,fun z' xs' e => by cases e⟩
    ·exact ih k hk
   ·cases hl
  ·cases hl; exact ih
  ·cases hl
theorem pU {a : A} {x : D} {ids : List Nat} (hl : bA h a = some (x,ids)) : ∀ i ∈ ids,fA h i := by
 cases a with
 | rp z xs i off =>
  simp only [bA] at hl
  split at hl
  ·cases hl; simp
  ·cases hl
 | ref id i off =>
  cases i with
  | succ i => simp [bA] at hl
  | zero =>
   cases off with
   | succ off => simp [bA] at hl
   | zero =>
    simp only [bA] at hl
    split at hl
    ·rename_i cs hg
     simp only [Option.map_eq_some_iff] at hl
     obtain ⟨⟨r,j⟩,hr,e⟩ := hl
     cases e
     intro k hk
     rcases List.mem_cons.1 hk with rfl | hk
     ·exact ⟨_,hg,fun z' xs' e => by cases e⟩
     ·exact lq hr k hk
    ·cases hl
 | _ => simp [bA] at hl
theorem fH : ∀ {as : List A} {xs : List D} {ids : List Nat},bC h as = some (xs,ids) -> ∀ i ∈ ids,fA h i
 | [],xs,ids,hl => by simp [bC] at hl; simp [hl.2]
 | a :: as,xs,ids,hl => by
  simp only [bC] at hl
  split at hl
  ·rename_i x i r j h1 h2
   cases hl
   intro k hk
   rcases List.mem_append.1 hk with hk | hk
   ·exact pU h1 k hk
   ·exact fH h2 k hk
  ·cases hl
structure LowIds (P : Program) (h : Ups) (l : Low) : Prop where
 lent : ∀ i ∈ l.lent,fA h i
 got : ∀ i ∈ l.gone ++ ah l,∃ b,ae h i = some b
 arrs : ∀ gs as,l.back = .arrs gs as -> ∃ ts xs,ax P h ts as = some (xs,gs) /\ (l.x = .agg xs \/ (xs = [l.x] /\ ∃ a t,as = [a] /\ aq P h t a = some (l.x,gs)))
theorem pT {m : Mode} {t : TypeId} {a : A} {l : Low} (hl : bI P h m t a = some l) : LowIds P h l := by
 have ro : ∀ {x : D} {ids : List Nat},(∀ i ∈ ids,fA h i) -> LowIds P h { x := x,lent := ids } := fun hi => ⟨hi,by simp [ah],fun gs as e => by cases e⟩
 have mv : ∀ {x : D} {ids : List Nat},(∀ i ∈ ids,∃ b,ae h i = some b) -> LowIds P h { x := x,gone := ids } := fun hi => ⟨by simp,by simpa [ah] using hi,fun gs as e => by cases e⟩
 have cell : (match m with | .ro => (ce P h t a).map fun r => ({ x := r.1,lent := r.2 } : Low) | .mv => (aq P h t a).map fun r => { x := r.1,gone := r.2 } | .mut => match bg [a] with | true => (aq P h t a).map fun r => { x := r.1,back := .arrs r.2 [a] } | false => none) = some l ->
   LowIds P h l := by
  intro hl
  cases m with
  | ro =>
   simp only [Option.map_eq_some_iff] at hl
   obtain ⟨⟨x,ids⟩,h1,rfl⟩ := hl
   exact ro (lk h1)
  | mv =>
   simp only [Option.map_eq_some_iff] at hl
   obtain ⟨⟨x,ids⟩,h1,rfl⟩ := hl
   exact mv (dz h1)
  | «mut» =>
   simp only at hl
   split at hl
   ·simp only [Option.map_eq_some_iff] at hl
    obtain ⟨⟨x,ids⟩,h1,rfl⟩ := hl
    exact ⟨by simp,by simpa [ah] using dz h1,fun gs as e => by cases e; exact ⟨[t],[x],by simp [ax,h1],.inr ⟨rfl,a,t,rfl,h1⟩⟩⟩
   ·cases hl
 cases a with
 | ref id i off =>
  cases i with
  | succ i => exact cell (by cases m <;> exact hl)
  | zero =>
   simp only [bI] at hl
   split at hl
   case h_2 => cases hl
   rename_i e hu
   split at hl
   case h_2 => cases hl
   rename_i ts cs hts hg
   split at hl
   case h_2 => cases hl
   rename_i hle'
   simp only [Option.map_eq_some_iff] at hl
   obtain ⟨⟨xs,gone⟩,h1,rfl⟩ := hl
   refine ⟨by simp,?_,fun gs as e => by cases e⟩
   intro i hi
   simp only [ah,List.mem_append,List.mem_singleton] at hi
   rcases hi with hi | rfl
   ·exact dA h1 i hi
   ·exact ⟨_,hg⟩
 | rp z xs i off =>
  simp only [bI] at hl
  have hm : m ≠ .mut := by rintro rfl; cases hl
  have : (bA h (.rp z xs i off)).map (fun r => ({ x := r.1 } : Low)) = some l := by cases m <;> first | exact hl | cases hl
  simp only [Option.map_eq_some_iff] at this
  obtain ⟨⟨x,ids⟩,h1,rfl⟩ := this
  exact ro (by simp)
 | fn f caps =>
  simp only [bI] at hl
  have hm : m ≠ .mut := by rintro rfl; cases hl
  have : (bC h caps).map (fun r => ({ x := .fn f r.1,lent := r.2 } : Low)) = some l := by cases m <;> first | exact hl | cases hl
  simp only [Option.map_eq_some_iff] at this
  obtain ⟨⟨xs,ids⟩,h1,rfl⟩ := this
  exact ro (fH h1)
 | agg cs =>
  simp only [bI] at hl
  split at hl
  case h_2 => cases hl
  rename_i ts hts
  cases m with
  | ro =>
   simp only [Option.map_eq_some_iff] at hl
   obtain ⟨⟨xs,ids⟩,h1,rfl⟩ := hl
   exact ro (ln h1)
  | mv =>
   simp only [Option.map_eq_some_iff] at hl
   obtain ⟨⟨xs,ids⟩,h1,rfl⟩ := hl
   exact mv (dA h1)
  | «mut» =>
   simp only at hl
   split at hl
   ·rename_i hw
    simp only [Option.map_eq_some_iff] at hl
    obtain ⟨⟨xs,ids⟩,h1,rfl⟩ := hl
    exact ⟨by simp,by simpa [ah] using dA h1,fun gs as e => by cases e; exact ⟨ts,xs,h1,.inl rfl⟩⟩
   ·cases hl
 | tup vs => exact cell (by cases m <;> exact hl)
 | d x => exact cell (by cases m <;> exact hl)
 | asl id rng => exact cell (by cases m <;> exact hl)
 | mp _ => exact cell (by cases m <;> exact hl)
 | undef => exact cell (by cases m <;> exact hl)
theorem fG {mode : Nat -> Mode} : ∀ {ts : List TypeId} {as : List A} {i : Nat} {ls : List Low},aA P h mode i ts as = some ls -> (∀ l ∈ ls,LowIds P h l) /\ ls.length = ts.length /\ as.length = ts.length
 | [],[],i,ls,hl => by simp [aA] at hl; simp [hl]
 | [],_ :: _,i,ls,hl => by simp [aA] at hl
 | _ :: _,[],i,ls,hl => by simp [aA] at hl
 | t :: ts,a :: as,i,ls,hl => by
  simp only [aA] at hl
  split at hl
  ·rename_i x r h1 h2
   cases hl
   obtain ⟨i1,i2,i3⟩ := fG h2
   refine ⟨?_,by simp [i2],by simp [i3]⟩
   intro l hl
   rcases List.mem_cons.1 hl with rfl | hl
   ·exact pT h1
   ·exact i1 l hl
  ·cases hl
theorem iz : ∀ {ts : List TypeId} {as : List A} {xs zs : List D} {gone : List Nat},ax P h ts as = some (xs,gone) -> All2 lV xs zs -> ∀ i ∈ (aV as zs).map (·.1),i ∈ gone
 | [],[],xs,zs,gone,hg,hb,i,hi => by simp [aV] at hi
 | [],_ :: _,xs,zs,gone,hg,hb,i,hi => by simp [ax] at hg
 | _ :: _,[],xs,zs,gone,hg,hb,i,hi => by simp [ax] at hg
 | t :: ts,a :: as,xs,zs,gone,hg,hb,i,hi => by
  simp only [ax] at hg
  split at hg
  case h_2 => cases hg
  rename_i x i' r j h1 h2
  cases hg
  cases hb with | cons b1 b2 =>
  rename_i y zs'
  rw [List.mem_append]
  have rest : i ∈ (aV as zs').map (·.1) -> i ∈ i' \/ i ∈ j := fun h => .inr (iz h2 b2 i h)
  cases a with
  | asl id rng =>
   cases y with
   | os z l =>
    simp only [aV,List.map_cons,List.mem_cons] at hi
    rcases hi with rfl | hi
    ·simp only [aq] at h1
     split at h1
     ·cases h1; exact .inl (by simp)
     ·cases h1
      obtain ⟨l',e⟩ := b1.2.2 _ _ rfl
      cases e
     ·cases h1
    ·exact rest hi
   | _ => exact rest (by simpa [aV] using hi)
  | _ => exact rest (by simpa [aV] using hi)
theorem eZ {R : Type} {r : R} {ts : List TypeId} {ls : List Low} {ys : List D} {n : Nat} {K : Nat -> Ups -> Bool -> Option R} (hk : aK P h n ts ls ys K = some r) :
  ∃ n' u m,aK P h n ts ls ys (fun n u m => some (n,u,m)) = some (n',u,m) /\ K n' u m = some r := by
 have e : (aK P h n ts ls ys fun n u m => some (n,u,m)).bind (fun p => K p.1 p.2.1 p.2.2) = some r := (ck P h ts n ls ys _ _).trans hk
 obtain ⟨⟨n2,u2,m2⟩,h5,h6⟩ := Option.bind_eq_some_iff.1 e
 exact ⟨n2,u2,m2,h5,h6⟩
theorem dT : ∀ {ts : List TypeId} {ls : List Low} {ys : List D} {n n' : Nat} {u : Ups} {m : Bool},aK P h n ts ls ys (fun n u m => some (n,u,m)) = some (n',u,m) -> (∀ l ∈ ls,LowIds P h l) ->
  n <= n' /\ ∀ i ∈ u.map (·.1),i ∈ ls.flatMap ah \/ (n <= i /\ i < n')
 | [],[],ys,n,n',u,m,hk,hl => by
  simp only [aK] at hk
  obtain ⟨rfl,hk⟩ := gh hk
  cases hk; simp
 | [],_ :: _,ys,n,n',u,m,hk,hl => by simp [aK] at hk
 | _ :: _,[],ys,n,n',u,m,hk,hl => by simp [aK] at hk
 | t :: ts,l :: ls,ys,n,n',u,m,hk,hl => by
  have hl2 : ∀ l ∈ ls,LowIds P h l := fun l h => hl l (by simp [h])
  have hl1 := hl l (by simp)
  simp only [aK] at hk
  simp only [List.flatMap_cons,List.mem_append]
  split at hk
  ·obtain ⟨i1,i2⟩ := dT hk hl2
   refine ⟨i1,fun i hi => ?_⟩
   rcases i2 i hi with h3 | h3
   ·exact .inl (.inr h3)
   ·exact .inr h3
  ·rename_i id off mm hb
   split at hk
   case h_2 => cases hk
   split at hk
   case h_2 => cases hk
   obtain ⟨y,ys',rfl,hk1⟩ := dE hk
   obtain ⟨zs,rfl,hk2⟩ := kn hk1
   obtain ⟨hk3,hbc⟩ := bm hk2
   rcases hrz : ar n zs with ⟨as1,n1,u1⟩
   rw [hrz] at hk3
   have hm1 : n <= n1 := by have := (bu zs n).1; rw [hrz] at this; exact this
   have hm2 : ∀ i ∈ u1.map (·.1),n <= i /\ i < n1 := by have := (bu zs n).2; rw [hrz] at this; exact this
   simp only at hk3
   obtain ⟨n2,u2,m2,h5,h6⟩ := eZ hk3
   cases h6
   obtain ⟨i1,i2⟩ := dT h5 hl2
   refine ⟨Nat.le_trans hm1 i1,fun i hi => ?_⟩
   simp only [List.map_cons,List.map_append,List.mem_cons,List.mem_append] at hi
   rcases hi with rfl | hi | hi
   ·refine .inl (.inl ?_)
    obtain ⟨x,le,go,bk⟩ := l
    simp only at hb; subst hb
    simp [ah]
   ·have := hm2 i hi; exact .inr ⟨this.1,by omega⟩
   ·rcases i2 i hi with h3 | h3
    ·exact .inl (.inr h3)
    ·exact .inr ⟨by omega,h3.2⟩
  ·rename_i gs as0 hb
   obtain ⟨y,ys',rfl,hk1⟩ := dE hk
   have hbk : ah l = gs := by obtain ⟨x,le,go,bk⟩ := l; simp only at hb; subst hb; rfl
   obtain ⟨ts0,xs0,hg0,hx0⟩ := hl1.arrs gs as0 hb
   have fin : ∀ {zs' : List D} {cts : List TypeId} {xs' : List D},(∀ i ∈ (aV as0 zs').map (·.1),i ∈ gs) -> aK P h n ts ls ys' (fun n2 u2 m2 => some (n2,aV as0 zs' ++ u2,zs'.any cG || m2)) = some (n',u,m) ->
     n <= n' /\ ∀ i ∈ u.map (·.1),(i ∈ ah l \/ i ∈ ls.flatMap ah) \/ (n <= i /\ i < n') := by
    intro zs' cts xs' hset hk4
    obtain ⟨n2,u2,m2,h5,h6⟩ := eZ hk4
    cases h6
    obtain ⟨i1,i2⟩ := dT h5 hl2
    refine ⟨i1,fun i hi => ?_⟩
    simp only [List.map_append,List.mem_append] at hi
    rcases hi with hi | hi
    ·exact .inl (.inl (by rw [hbk]; exact hset i hi))
    ·rcases i2 i hi with h3 | h3
     ·exact .inl (.inr h3)
     ·exact .inr h3
   split at hk1
   ·rename_i xs hlx
    split at hk1
    case h_2 => cases hk1
    rename_i cts hcts
    obtain ⟨zs,rfl,hk2⟩ := cq hk1
    obtain ⟨hk3,hbc⟩ := bm hk2
    refine fin (cts := cts) (xs' := xs) ?_ hk3
    rcases hx0 with hx0 | ⟨rfl,a,t',rfl,hg1⟩
    ·rw [hlx] at hx0; cases hx0
     exact iz hg0 hbc
    ·rw [hlx] at hg1
     rcases jP hg1 with ⟨_,_,e⟩ | ⟨_,_,e⟩ | e
     ·cases e
     ·cases e
     ·subst e
      intro i hi
      cases zs <;> simp [aV] at hi
   ·rename_i hlx
    obtain ⟨hk3,hbc⟩ := bm hk1
    refine fin (cts := [t]) (xs' := [l.x]) ?_ hk3
    rcases hx0 with hx0 | ⟨rfl,a,t',rfl,hg1⟩
    ·exact absurd hx0 (hlx _)
    ·exact iz hg0 hbc
end
def fj : D -> D
 | .os z xs => .rs z xs
 | x => x
def ij : D -> D
 | .agg cs => .agg (cs.map fj)
 | x => fj x
def ra : D -> D
 | .tup vs => .tup (vs.map ij)
 | x => ij x
def lc1 : D -> Bool
 | .os z _ => decide (z.2 <= 1)
 | .int _ _ | .bool _ | .str _ | .rs _ _ => true
 | _ => false
def lcV : D -> Bool
 | .agg cs => cs.all lc1
 | x => lc1 x
def lcR : D -> Bool
 | .tup vs => vs.all lcV
 | x => lcV x
section
variable {P : Program} {R : Type} {r : R}
theorem nA {n : Nat} {t : TypeId} {x : D} {K : D -> Option R} (h : lF P n t x K = some r) : K (fj x) = some r /\ lc1 x = true /\ dw (fj x) = true := by
 cases n with
 | zero => simp [lF] at h
 | succ n =>
  simp only [lF] at h
  split at h
  ·cases x <;> simp only [asB] at h <;> first | exact ⟨h,rfl,rfl⟩ | cases h
  ·cases x <;> simp only [asI] at h <;> first | cases h | skip
   split at h
   ·rename_i e; subst e; exact ⟨h,rfl,rfl⟩
   ·cases h
  ·cases x <;> simp only [asS] at h <;> first | exact ⟨h,rfl,rfl⟩ | cases h
  ·split at h
   ·cases x <;> simp only [mc] at h <;> first | cases h | skip
    ·split at h
     ·rename_i e; subst e; exact ⟨h,rfl,rfl⟩
     ·cases h
    ·split at h
     ·rename_i e; obtain ⟨e,hz⟩ := e; subst e; exact ⟨h,decide_eq_true hz,rfl⟩
     ·cases h
   ·cases h
  ·cases h
theorem lH : ∀ {ts : List TypeId} {xs : List D} {K : List D -> Option R},gI P ts xs K = some r -> K (xs.map fj) = some r /\ xs.all lc1 = true /\ (xs.map fj).all dw = true
 | [],xs,K,h => by
  simp only [gI] at h
  obtain ⟨rfl,h⟩ := gh h
  exact ⟨h,rfl,rfl⟩
 | t :: ts,xs,K,h => by
  simp only [gI] at h
  obtain ⟨y,ys,rfl,h'⟩ := dE h
  obtain ⟨h1,h2,h3⟩ := nA h'
  obtain ⟨h4,h5,h6⟩ := lH h1
  exact ⟨h4,by rw [List.all_cons,h2,h5]; rfl,by rw [List.map_cons,List.all_cons,h3,h6]; rfl⟩
theorem wC {x : D} (h : lc1 x = true) : lcV x = true /\ ij x = fj x := by
 cases x <;> first | exact ⟨h,rfl⟩ | cases h
theorem lJ {t : TypeId} {x : D} {K : D -> Option R} (h : jE P t x K = some r) : K (ij x) = some r /\ lcV x = true /\ okV (ij x) = true := by
 unfold jE at h
 split at h
 ·split at h
  ·obtain ⟨cs,rfl,h⟩ := cq h
   obtain ⟨h1,h2,h3⟩ := lH h
   exact ⟨h1,h2,h3⟩
  ·cases h
 ·obtain ⟨h1,h2,h3⟩ := nA h
  obtain ⟨h4,h5⟩ := wC h2
  rw [h5]
  refine ⟨h1,h4,?_⟩
  cases x <;> first | exact h3 | cases h2
theorem kh : ∀ {ts : List TypeId} {xs : List D} {K : List D -> Option R},dV P ts xs K = some r -> K (xs.map ij) = some r /\ xs.all lcV = true /\ (xs.map ij).all okV = true
 | [],xs,K,h => by
  simp only [dV] at h
  obtain ⟨rfl,h⟩ := gh h
  exact ⟨h,rfl,rfl⟩
 | t :: ts,xs,K,h => by
  simp only [dV] at h
  obtain ⟨y,ys,rfl,h'⟩ := dE h
  obtain ⟨h1,h2,h3⟩ := lJ h'
  obtain ⟨h4,h5,h6⟩ := kh h1
  exact ⟨h4,by rw [List.all_cons,h2,h5]; rfl,by rw [List.map_cons,List.all_cons,h3,h6]; rfl⟩
theorem tE {own : Bool} {ts : List TypeId} {x : D} {K : D -> Option R} (h : pA P own ts x K = some r) : ∃ x',K x' = some r /\ wH x' = true /\ (x' = x \/ (x' = ra x /\ lcR x = true)) := by
 unfold pA at h
 split at h
 ·obtain ⟨h1,h2⟩ := tH h
  exact ⟨x,h1,h2,.inl rfl⟩
 ·unfold tz at h
  split at h
  ·split at h
   ·obtain ⟨h1,h2⟩ := jG h
    refine ⟨x,h1,?_,.inl rfl⟩
    cases x <;> first | exact h2 | cases h2
   ·obtain ⟨h1,h2,h3⟩ := lJ h
    refine ⟨ij x,h1,?_,.inr ⟨?_,?_⟩⟩
    ·cases x <;> first | exact h3 | cases h2
    ·cases x <;> first | rfl | cases h2
    ·cases x <;> first | exact h2 | cases h2
  ·obtain ⟨cs,rfl,h⟩ := mg h
   obtain ⟨h1,h2,h3⟩ := kh h
   exact ⟨_,h1,h3,.inr ⟨rfl,h2⟩⟩
end
section
variable {w : World} {B B' : Nat -> Prop}
theorem pf (hB : ∀ b,B b -> B' b) {x : D} {v : Value} {o : List Res} (hl : lc1 x = true) (h : ac w B x v o) (ho : ∀ b ∈ aa o,B' b) : ac w B' (fj x) v [] := by
 cases x with
 | int k n => simp only [ac] at h; simp only [fj,ac]; exact ⟨h.1,trivial⟩
 | bool b => simp only [ac] at h; simp only [fj,ac]; exact ⟨h.1,trivial⟩
 | str s => simp only [ac] at h; simp only [fj,ac]; exact ⟨h.1,trivial⟩
 | rs z xs =>
  have h' := dn hB h
  simp only [ac] at h
  obtain ⟨rfl,_⟩ := h
  exact h'
 | os z xs =>
  have hz : z.2 <= 1 := of_decide_eq_true hl
  simp only [ac] at h
  simp only [fj,ac]
  refine ⟨trivial,?_⟩
  rcases h with ⟨rfl,_,a,rfl⟩ | ⟨b,off,cap,c,ty,fr,o',rfl,h1,_,_,_,h5,rfl⟩
  ·exact .inl ⟨rfl,a,0,rfl⟩
  ·have e0 := cQ hz h5
   subst e0
   exact .inr ⟨b,off,cap,rfl,h1,hz,fun _ => ho b (by simp [aa,Res.blk]),av hB b off z xs [] (fun _ _ => rfl) (fun _ => rfl) h5⟩
 | _ => cases hl
theorem ou {o1 o2 : List Res} (ho : ∀ b ∈ aa (o1 ++ o2),B' b) : ∀ b ∈ aa o1,B' b := fun b hb => ho b (by unfold aa at *; rw [List.map_append]; exact List.mem_append.2 (.inl hb))
theorem mh {o1 o2 : List Res} (ho : ∀ b ∈ aa (o1 ++ o2),B' b) : ∀ b ∈ aa o2,B' b := fun b hb => ho b (by unfold aa at *; rw [List.map_append]; exact List.mem_append.2 (.inr hb))
theorem su {x : D} (hl : lc1 x = true) : bV (fj x) := by cases x <;> first | exact trivial | cases hl
theorem mG (hB : ∀ b,B b -> B' b) : ∀ {cs : List D} {vs : List Value} {o : List Res},cs.all lc1 = true -> ak w B cs vs o -> (∀ b ∈ aa o,B' b) -> ak w B' (cs.map fj) vs []
 | [],vs,o,_,h,_ => by
  simp only [ak] at h
  simp only [List.map_nil,ak]; exact ⟨h.1,trivial⟩
 | c :: cs,vs,o,hl,h,ho => by
  simp only [ak] at h
  obtain ⟨v,vs',o1,o2,rfl,rfl,hi,h1,h2⟩ := h
  rw [List.all_cons,Bool.and_eq_true] at hl
  simp only [List.map_cons,ak]
  exact ⟨v,vs',[],[],rfl,rfl,su hl.1,pf hB hl.1 h1 (ou ho),mG hB hl.2 h2 (mh ho)⟩
theorem pg (hB : ∀ b,B b -> B' b) {x : D} {v : Value} {o : List Res} (hl : lcV x = true) (h : ac w B x v o) (ho : ∀ b ∈ aa o,B' b) : ac w B' (ij x) v [] := by
 cases x with
 | agg cs =>
  simp only [ac] at h
  obtain ⟨vs,rfl,h⟩ := h
  simp only [ij,ac]
  exact ⟨vs,rfl,mG hB hl h ho⟩
 | _ => exact pf hB (by simpa only [lcV] using hl) h ho
theorem mH (hB : ∀ b,B b -> B' b) : ∀ {cs : List D} {vs : List Value} {o : List Res},cs.all lcV = true -> bv w B cs vs o -> (∀ b ∈ aa o,B' b) -> bv w B' (cs.map ij) vs []
 | [],vs,o,_,h,_ => by
  simp only [bv] at h
  simp only [List.map_nil,bv]; exact ⟨h.1,trivial⟩
 | c :: cs,vs,o,hl,h,ho => by
  simp only [bv] at h
  obtain ⟨v,vs',o1,o2,rfl,rfl,h1,h2⟩ := h
  rw [List.all_cons,Bool.and_eq_true] at hl
  simp only [List.map_cons,bv]
  exact ⟨v,vs',[],[],rfl,rfl,pg hB hl.1 h1 (ou ho),mH hB hl.2 h2 (mh ho)⟩
theorem uO (hB : ∀ b,B b -> B' b) {x : D} {v : Value} {o : List Res} (hl : lcR x = true) (h : ac w B x v o) (ho : ∀ b ∈ aa o,B' b) : ac w B' (ra x) v [] := by
 cases x with
 | tup cs =>
  simp only [ac] at h
  obtain ⟨vs,rfl,h⟩ := h
  simp only [ra,ac]
  exact ⟨vs,rfl,mH hB hl h ho⟩
 | _ => exact pg hB (by simpa only [lcR] using hl) h ho
theorem jt {mode : Nat -> Mode} {L : Nat -> List (Option Nat)} (hB : ∀ b,B b -> B' b) : ∀ {i : Nat} {xs : List D} {vs : List Value} {ys : List D} {o : List Res},fh mode L w B i xs vs ys o -> fh mode L w B' i xs vs ys o
 | i,[],vs,ys,o,h => h
 | i,x :: xs,vs,ys,o,h => by
  simp only [fh] at h ⊢
  split at h
  ·obtain ⟨v,vs',y,ys',o1,o2,rfl,rfl,rfl,h1,h2⟩ := h
   refine ⟨v,vs',y,ys',o1,o2,rfl,rfl,rfl,?_,jt hB h2⟩
   unfold gj at h1 ⊢
   split at h1
   ·exact dn hB h1
   ·exact u6 hB h1
  ·obtain ⟨v,vs',rfl,h2⟩ := h
   exact ⟨v,vs',rfl,jt hB h2⟩
end
theorem CameBack.lent {mode : Nat -> Mode} {L : Nat -> List (Option Nat)} {w : World} {B : Nat -> Prop} {o : List Res} {ps : List D} {pv : List Value} {x : D} {ios : List D} {v : Value} {w' : World} {B' : Nat -> Prop} {oR oI : List Res}
  (cb : CameBack mode L w B o ps pv (x,ios) v w' B' oR oI) (hl : lcR x = true) : CameBack mode L w B o ps pv (ra x,ios) v w' (fun b => B' b \/ b ∈ aa oR) [] oI where
 chg := cb.chg
 bsub := fun b h => .inl (cb.bsub b h)
 bnew := by
  intro b hb
  rcases hb with hb | hb
  ·exact cb.bnew b hb
  ·obtain ⟨q,hq,rfl⟩ := List.mem_map.1 hb
   obtain ⟨h1,h2,h3⟩ := cb.own q (List.mem_append.2 (.inl hq))
   exact ⟨h2,.inr (h3.imp id (fun h => h.1))⟩
 res := uO (fun b h => .inl h) hl cb.res (fun b h => .inr h)
 io := jt (fun b h => .inl h) cb.io
 nod := by
  have := cb.nod
  unfold aa at this ⊢
  rw [List.map_append] at this
  simpa using (List.nodup_append.1 this).2.1
 own := by
  intro q hq
  have hq' : q ∈ oI := by simpa using hq
  obtain ⟨h1,h2,h3⟩ := cb.own q (List.mem_append.2 (.inr hq'))
  refine ⟨?_,h2,h3⟩
  rintro (h | h)
  ·exact h1 h
  ·have := cb.nod
   unfold aa at this h
   rw [List.map_append] at this
   exact (List.nodup_append.1 this).2.2 _ h _ (List.mem_map.2 ⟨q,hq',rfl⟩) rfl
theorem Meets.lent {P : Program} {mode : Nat -> Mode} {f : Nat} {ds : List D} {x : D} {ios : List D} (h : Meets P mode f ds (x,ios)) (hl : lcR x = true) : Meets P mode f ds (ra x,ios) := by
 intro fn hf w B L pv cv o h1 h2 h3 h4 h5
 refine (h fn hf w B L pv cv o h1 h2 h3 h4 h5).mono ?_
 rintro e w' ⟨v,B',oR,oI,he,cb⟩
 exact ⟨v,_,[],oI,he,cb.lent hl⟩
def pD (P : Program) (f : Nat) : Prop := ∃ fn : Func, P.funcs[f]? = some fn ∧ fn.body.isNone = false ∧ (fn.name == "runtime.NumGoroutine") = false
def df (P : Program) (cf : Cfg) (call : Nat -> List D -> Option Ret) : Prop := ∀ f ds r,call f ds = some r -> Meets P (cf.mode f) f ds r /\ pD P f
theorem Runs.enter {P : Program} {o : Oper} {a : Act} {w w1 : World} {Post : Value -> World -> Prop} {f : Nat} {args : Array Value} (h : (execOp a.eval o).run P w = .ok (.enter f args) w1)
  (hc : Calls P f args w1 fun e w' => ∃ v,e = .returned v /\ Post v w') : Runs P o a w Post := by
 intro next Q hn
 unfold Oper.wp; rw [h]
 exact Calls.mono hc (fun e w' ⟨v,he,hp⟩ => by subst he; exact hn v w' hp)
theorem uH {P : Program} {o : Oper} {a : Act} {w : World} {c : Call} {x : Operand} {f : Nat} {vs : Array Value} (ho : o.op = .call c) (hc : c.callee = .value x) (hx : a.eval x = .func (.func f) #[] vs) (he : pD P f) :
  (execOp a.eval o).run P w = .ok (.enter f (c.args.map a.eval ++ vs)) w := by
 obtain ⟨fn,hf,hb,hn⟩ := he
 have hn' : ¬ fn.name = "runtime.NumGoroutine" := by simpa using hn
 have hb' : ¬ fn.body = none := by intro e; rw [e] at hb; cases hb
 simp [execOp,ho,resolve,hc,hx,Deferred.ofValue,invoke,callFunc,program,Sem.run,hf,hb',hn']
section
variable {P : Program} {F : Fr} {h : Ups} {loc : Nat -> Loc} {O : Nat -> List Res} {who : Nat -> Option (Option Nat)} {B : Nat -> Prop} {w : World}
theorem HS.killsX {X : Nat -> Prop} (gone : List Nat) : ∀ {h : Ups} {who : Nat -> Option (Option Nat)},HS F.B0 F.w0 F.o0 X h loc O who B w -> (∀ id ∈ gone,∃ ob,hfind h id = some ob) ->
  ∃ who',HS F.B0 F.w0 F.o0 (fun i => X i /\ i ∉ gone) (gone.map (fun i => (i,(none : Option Blk))) ++ h) loc O who' B w /\ Ext h loc (gone.map (fun i => (i,(none : Option Blk))) ++ h) loc /\ (∀ b,who b = some none -> who' b = some none) := by
 induction gone with
 | nil => intro h who s _; exact ⟨who,s.same (fun i hi => ⟨hi,by simp⟩),Ext.refl h loc,fun _ h => h⟩
 | cons g gone ih =>
  intro h who s hg
  obtain ⟨who1,s1,e1,w1⟩ := ih s (fun id hid => hg id (by simp [hid]))
  have hf : ∃ ob,hfind (gone.map (fun i => (i,(none : Option Blk))) ++ h) g = some ob := by
   obtain ⟨ob,ho⟩ := hg g (by simp)
   obtain ⟨ob',h1,_⟩ := e1 g ob ho
   exact ⟨ob',h1⟩
  obtain ⟨s2,e2⟩ := s1.kill g hf
  refine ⟨_,s2.close ?_,e1.trans e2,fun b hb => by simp [w1 b hb]⟩
  intro id b hgb hx hy
  exfalso
  simp only [iJ] at hgb
  by_cases e : g = id
  ·simp [e] at hgb
  ·refine hy ⟨hx.1,?_⟩
   simp only [List.mem_cons,not_or]
   exact ⟨fun h => e h.symm,hx.2⟩
theorem gR {mode : Nat -> Mode} {L : Nat -> List (Option Nat)} : ∀ {xs : List D} {vs : List Value} {o : List Res} {i : Nat},dr mode L w B i xs vs o -> vs.length = xs.length
 | [],vs,o,i,h => by rw [h.1]; rfl
 | x :: xs,vs,o,i,h => by
  obtain ⟨v,vs',o1,o2,rfl,_,_,h2⟩ := h
  simp [gR h2]
theorem j3 {mode : Nat -> Mode} : ∀ {ts : List TypeId} {as : List A} {vs : List Value} {i : Nat} {ls : List Low},aA P h mode i ts as = some ls -> All2 (aJ w B h loc) as vs -> All2 (bx w B h loc) as vs
 | [],[],vs,i,ls,hl,ha => by cases ha; exact .nil
 | [],_ :: _,vs,i,ls,hl,ha => by simp [aA] at hl
 | _ :: _,[],vs,i,ls,hl,ha => by simp [aA] at hl
 | t :: ts,a :: as,vs,i,ls,hl,ha => by
  simp only [aA] at hl
  split at hl
  ·rename_i x r h1 h2
   cases ha with | cons a1 a2 =>
   refine .cons ?_ (j3 h2 a2)
   cases a with
   | tup cs =>
    exfalso
    cases hm : mode i <;> rw [hm] at h1 <;> simp [bI,ce,aq,bg] at h1
   | _ => exact a1
  ·cases hl
theorem iW {xs ys : List Nat} (hd : fK xs ys = true) : ∀ i ∈ xs,i ∉ ys := by
 intro i hi hm
 have := List.all_eq_true.1 hd i hi
 simp [hm] at this
theorem vt (s : HSc F h loc O who B w) {mode : Nat -> Mode} {LS : Nat -> List (Option Nat)} {ts : List TypeId} {as : List A} {vs : List Value} {ls : List Low} {h0 : Ups} {clent : List Nat} {n n1 n2 : Nat} {u1 u2 : Ups} {m1 : Bool} {r : Ret} {v : A} {o : List Res} {val : Value} {w' : World} {B' : Nat -> Prop} {oR oI : List Res}
  (ha : All2 (bx w B h loc) as vs) (hlow : aA P h mode 0 ts as = some ls) (heq : ∀ id ∈ ls.flatMap ah,ae h id = ae h0 id) (hLS : ∀ j a,as[j]? = some a -> LS (0 + j) = fi loc h a)
  (hcl : ∀ i ∈ clent,fA h i)
  (hx : dr mode LS w (LB B who (clent ++ ls.flatMap (·.lent))) 0 (ls.map (·.x)) vs o) (hfrom : FromC h O (ls.flatMap fun l => l.gone ++ ah l) o) (hnod : (aa o).Nodup)
  (hnd : (ls.flatMap fun l => l.gone ++ ah l).Nodup) (hdj : ∀ i ∈ clent ++ ls.flatMap (·.lent),i ∉ ls.flatMap fun l => l.gone ++ ah l)
  (hok : wH r.1 = true) (tb : TB P h0 ts ls r.2 n n1 u1 m1) (hn1 : n <= n1) (hu1 : ∀ i ∈ u1.map (·.1),i ∈ ls.flatMap ah \/ (n <= i /\ i < n1)) (hraise : cu n1 r.1 = (v,n2,u2)) (hfresh : Fresh h n n2)
  (harr : (m1 || jW r.1) = true -> gT h (clent ++ ls.flatMap (·.lent)) = true)
  (cb : CameBack mode LS w (LB B who (clent ++ ls.flatMap (·.lent))) o (ls.map (·.x)) vs r val w' B' oR oI) :
  ∃ (loc' : Nat -> Loc) (O' : Nat -> List Res) (who' : Nat -> Option (Option Nat)) (B2 : Nat -> Prop),
   HSc F ((u1 ++ (u2 ++ ((ls.flatMap (·.gone)).map (·,none) ++ (match m1 || jW r.1 with | true => freeze h (clent ++ ls.flatMap (·.lent)) | false => [])))) ++ h) loc' O' who' B2 w' /\
   Kp w B h loc w' B2 ((u1 ++ (u2 ++ ((ls.flatMap (·.gone)).map (·,none) ++ (match m1 || jW r.1 with | true => freeze h (clent ++ ls.flatMap (·.lent)) | false => [])))) ++ h) loc' /\
   aJ w' B2 ((u1 ++ (u2 ++ ((ls.flatMap (·.gone)).map (·,none) ++ (match m1 || jW r.1 with | true => freeze h (clent ++ ls.flatMap (·.lent)) | false => [])))) ++ h) loc' v val := by
 have hn2 : n1 <= n2 := by have := (fm n1 r.1).1; rw [hraise] at this; exact this
 have hu2 : ∀ i ∈ u2.map (·.1),n1 <= i /\ i < n2 := by have := (fm n1 r.1).2; rw [hraise] at this; exact this
 obtain ⟨hids,hlen,_⟩ := fG hlow
 have hbackmem : ∀ i ∈ ls.flatMap ah,i ∈ ls.flatMap fun l => l.gone ++ ah l := by
  intro i hi
  obtain ⟨l,hl,hi⟩ := List.mem_flatMap.1 hi
  exact List.mem_flatMap.2 ⟨l,hl,by simp [hi]⟩
 have hgonemem : ∀ i ∈ ls.flatMap (·.gone),i ∈ ls.flatMap fun l => l.gone ++ ah l := by
  intro i hi
  obtain ⟨l,hl,hi⟩ := List.mem_flatMap.1 hi
  exact List.mem_flatMap.2 ⟨l,hl,by simp [hi]⟩
 have hgot : ∀ i ∈ ls.flatMap (fun l => l.gone ++ ah l),∃ b,ae h i = some b := by
  intro i hi
  obtain ⟨l,hl,hi⟩ := List.mem_flatMap.1 hi
  exact (hids l hl).got i hi
 have hback_gone : ∀ i ∈ ls.flatMap ah,i ∉ ls.flatMap (·.gone) := by
  clear tb hx hfrom hlow hgot hids hbackmem hgonemem cb hdj harr heq hu1 hlen
  revert hnd
  induction ls with
  | nil => simp
  | cons l ls ih =>
   intro hnd i hi
   simp only [List.flatMap_cons,List.mem_append] at hi hnd ⊢
   obtain ⟨p1,p2,p3⟩ := List.nodup_append.1 hnd
   obtain ⟨q1,q2,q3⟩ := List.nodup_append.1 p1
   rintro (hg | hg)
   ·rcases hi with hi | hi
    ·exact q3 i hg i hi rfl
    ·refine p3 i (List.mem_append.2 (.inl hg)) i ?_ rfl
     obtain ⟨l',hl',hi'⟩ := List.mem_flatMap.1 hi
     exact List.mem_flatMap.2 ⟨l',hl',by simp [hi']⟩
   ·rcases hi with hi | hi
    ·refine p3 i (List.mem_append.2 (.inr hi)) i ?_ rfl
     obtain ⟨l',hl',hi'⟩ := List.mem_flatMap.1 hg
     exact List.mem_flatMap.2 ⟨l',hl',by simp [hi']⟩
    ·exact ih p2 i hi hg
 have hbnod : (ls.flatMap ah).Nodup := by
  clear tb hx hfrom hlow hgot hids hbackmem hgonemem cb hdj harr hback_gone heq hu1 hlen
  revert hnd
  induction ls with
  | nil => simp
  | cons l ls ih =>
   intro hnd
   simp only [List.flatMap_cons] at hnd ⊢
   obtain ⟨p1,p2,p3⟩ := List.nodup_append.1 hnd
   obtain ⟨q1,q2,q3⟩ := List.nodup_append.1 p1
   refine List.nodup_append.2 ⟨q2,ih p2,fun i hi j hj e => ?_⟩
   obtain ⟨l',hl',hj'⟩ := List.mem_flatMap.1 hj
   exact p3 i (List.mem_append.2 (.inr hi)) j (List.mem_flatMap.2 ⟨l',hl',by simp [hj']⟩) e
 have hgnod : ∀ l ∈ ls,l.gone.Nodup := by
  clear tb hx hfrom hlow hgot hids hbackmem hgonemem cb hdj harr hback_gone heq hu1 hlen hbnod
  revert hnd
  induction ls with
  | nil => simp
  | cons l ls ih =>
   intro hnd
   simp only [List.flatMap_cons] at hnd
   obtain ⟨p1,p2,p3⟩ := List.nodup_append.1 hnd
   intro l' hl'
   rcases List.mem_cons.1 hl' with rfl | hl'
   ·exact (List.nodup_append.1 p1).1
   ·exact ih p2 l' hl'
 have hlent : ∀ i ∈ clent ++ ls.flatMap (·.lent),fA h i := by
  intro i hi
  rcases List.mem_append.1 hi with hi | hi
  ·exact hcl i hi
  ·obtain ⟨l,hl,hi⟩ := List.mem_flatMap.1 hi
   exact (hids l hl).lent i hi
 -- the same from a memory in which lent arrays are frozen or not
 have fin : ∀ {fzs : Ups} {O1 : Nat -> List Res} {who1 : Nat -> Option (Option Nat)} {B2 Bio : Nat -> Prop},HS F.B0 F.w0 F.o0 (fun i => i ∈ ls.flatMap fun l => l.gone ++ ah l) (fzs ++ h) loc O1 who1 B2 w' -> Ext h loc (fzs ++ h) loc -> (∀ i ∈ fzs.map (·.1),i ∈ clent ++ ls.flatMap (·.lent)) ->
   Floats F.w0 F.o0 who1 (oR ++ oI) -> (∀ b,B b -> w'.heap[b]? = w.heap[b]?) -> (∀ b,B b -> B2 b) -> ac w' B2 r.1 val oR -> fh mode LS w' Bio 0 (ls.map (·.x)) vs r.2 oI -> (m1 = false \/ Bio = B2) ->
   ∃ (loc' : Nat -> Loc) (O' : Nat -> List Res) (who' : Nat -> Option (Option Nat)) (B2 : Nat -> Prop),HSc F ((u1 ++ (u2 ++ ((ls.flatMap (·.gone)).map (·,none) ++ fzs))) ++ h) loc' O' who' B2 w' /\ Kp w B h loc w' B2 ((u1 ++ (u2 ++ ((ls.flatMap (·.gone)).map (·,none) ++ fzs))) ++ h) loc' /\ aJ w' B2 ((u1 ++ (u2 ++ ((ls.flatMap (·.gone)).map (·,none) ++ fzs))) ++ h) loc' v val := by
  intro fzs O1 who1 B2 Bio s1 e1 hfz f1 kB hB2 hres hio hmB
  obtain ⟨who2,s2,e2,hw2⟩ := HS.killsX (ls.flatMap (·.gone)) s1 (by
   intro id hid
   obtain ⟨b,hb⟩ := hgot id (hgonemem id hid)
   obtain ⟨ob',h1,_⟩ := e1 id _ (hget_some.1 hb)
   exact ⟨ob',h1⟩)
  have f2 : Floats F.w0 F.o0 who2 (oR ++ oI) := f1.congr (fun b hb hw => hw2 b hw)
  have hfound : ∀ i,hfind h i = none -> hfind ((ls.flatMap (·.gone)).map (fun i => (i,(none : Option Blk))) ++ (fzs ++ h)) i = none := by
   intro i hi
   rw [az,dB]
   have h1 : i ∉ ls.flatMap (·.gone) := by
    intro hm
    obtain ⟨b,hb⟩ := hgot i (hgonemem i hm)
    rw [hget_some.1 hb] at hi; cases hi
   have h2 : i ∉ fzs.map (·.1) := by
    intro hm
    obtain ⟨b,hb,_⟩ := hlent i (hfz i hm)
    rw [hget_some.1 hb] at hi; cases hi
   rw [if_neg h1]
   simp only
   rw [az,bU h2]
   exact hi
  obtain ⟨loc3,O3,who3,r3,a3⟩ := sP (n := n1) s2 hok hres f2.left (fun i h1 h2 => hfound i (hfresh i (by omega) (by rw [hraise] at h2; exact h2)))
  rw [hraise] at r3 a3
  simp only at r3 a3
  have f3 : Floats F.w0 F.o0 who3 oI := f2.right.congr (fun b hb hw => by
   obtain ⟨q,hq,rfl⟩ := List.mem_map.1 hb
   refine r3.who _ (fun hm => ?_) hw
   obtain ⟨q',hq',e⟩ := List.mem_map.1 hm
   exact f2.apart q' hq' (by rw [e]; exact hb))
  have hgetk : ∀ id ∈ ls.flatMap ah,ae (u2 ++ ((ls.flatMap (·.gone)).map (fun i => (i,(none : Option Blk))) ++ (fzs ++ h))) id = ae h id /\ loc3 id = loc id /\ ∃ b,ae h id = some b := by
   intro id hid
   obtain ⟨b,hb⟩ := hgot id (hbackmem id hid)
   have hidf : ¬ (n1 <= id /\ id < n2) := by
    rintro ⟨h1,h2⟩
    have := hfresh id (by omega) h2
    rw [hget_some.1 hb] at this; cases this
   have h1 : id ∉ u2.map (·.1) := fun hm => hidf (hu2 id hm)
   have h2 : id ∉ ((ls.flatMap (·.gone)).map (fun i => (i,(none : Option Blk)))).map (·.1) := by
    simpa using fun l hl hg => hback_gone id hid (List.mem_flatMap.2 ⟨l,hl,hg⟩)
   have h3 : id ∉ fzs.map (·.1) := fun hm => hdj id (hfz id hm) (hbackmem id hid)
   refine ⟨by rw [cM h1,cM h2,cM h3],r3.loc id (by omega),b,hb⟩
  have e3 := (e1.trans e2).trans r3.ext
  obtain ⟨_,loc4,O4,who4,t4⟩ := tb s cb.chg hnod kB hB2 ha hlow heq hLS hx (fun q hq => hq) hio hmB r3.hs f3 hgetk hbnod hgnod e3 (by
   intro i h1 h2
   rw [az,bU (fun hm => by have := hu2 i hm; omega)]
   exact hfound i (hfresh i h1 (by omega)))
  have e4 := e3.trans t4.ext
  have hassoc : (u1 ++ (u2 ++ ((ls.flatMap (·.gone)).map (fun i => (i,(none : Option Blk))) ++ fzs))) ++ h = u1 ++ (u2 ++ ((ls.flatMap (·.gone)).map (fun i => (i,(none : Option Blk))) ++ (fzs ++ h))) := by simp [List.append_assoc]
  refine ⟨loc4,O4,who4,B2,?_,?_,?_⟩
  ·rw [hassoc]
   refine t4.hs.same (fun i hi => ?_)
   obtain ⟨⟨h1,h2⟩,h3⟩ := hi
   obtain ⟨l,hl,hi⟩ := List.mem_flatMap.1 h1
   rcases List.mem_append.1 hi with hi | hi
   ·exact h2 (List.mem_flatMap.2 ⟨l,hl,hi⟩)
   ·exact h3 (List.mem_flatMap.2 ⟨l,hl,hi⟩)
  ·rw [hassoc]; exact Kp.of hB2 kB e4
  ·rw [hassoc]; exact Kp.a (Kp.of (fun _ h => h) (fun _ _ => rfl) t4.ext) a3
 cases hm : (m1 || jW r.1) with
 | false =>
  simp only [Bool.or_eq_false_iff] at hm
  obtain ⟨O1,who1,s1,f1,kB,_,_⟩ := og s hfrom cb
  exact fin (fzs := []) s1 (Ext.refl h loc) (by simp) f1 kB (fun _ h => h) (u4 hm.2 cb.res) cb.io (.inl hm.1)
 | true =>
  have hL := harr hm
  obtain ⟨O1,who1,s1,f1,kB,hO1⟩ := ut s hfrom cb hdj hL
  obtain ⟨O2,who2,s2,e2,hw2⟩ := frozen s kB (fun b hb => cb.bsub b (.inl hb)) (by
   intro id hid b hb
   refine ⟨cb.chg.same b (s.mine b _ hb).2.1 (fun hm => ?_),cb.bsub b (.inr ⟨id,hid,hb⟩)⟩
   obtain ⟨q,hq,e⟩ := List.mem_map.1 hm
   obtain ⟨i,hi,_,hw⟩ := hfrom.whose s q hq
   rw [e,hb] at hw
   have : id = i := by simpa using hw
   subst this
   exact hdj id hid hi) (by
   intro id hid z xs hg
   obtain ⟨b,hb,hz⟩ := hlent id hid
   rw [hg] at hb; cases hb
   exact hz z xs rfl) hL s1 hO1 (clent ++ ls.flatMap (·.lent)) (fun _ h => h)
  have hfz : ∀ (r : List Nat),∀ i ∈ (freeze h r).map (·.1),i ∈ r := by
   intro r
   induction r with
   | nil => simp [freeze]
   | cons j r ih =>
    intro i hi
    simp only [freeze] at hi
    split at hi
    ·simp only [List.map_cons,List.mem_cons] at hi ⊢
     exact hi.imp (fun h => h) (ih i)
    ·exact List.mem_cons_of_mem _ (ih i hi)
  refine fin (fzs := freeze h (clent ++ ls.flatMap (·.lent))) (s2.same (fun i hi => ?_)) e2 (hfz _) (f1.congr (fun b hb hw => hw2 b hw)) kB (fun b hb => cb.bsub b (.inl hb)) cb.res cb.io (.inr rfl)
  rcases hi with hi | ⟨h1,h2,_⟩
  ·exact hi
  ·exact absurd h1 h2
end
section
variable {P : Program} {cf : Cfg} {call : Nat -> List D -> Option Ret} {n : Nat} {o : Oper} {σ : St} {R : Type} {K : A -> Ups -> List Nat -> Option R} {r : R}
theorem qB {α β γ : Type} {R : β -> γ -> Prop} {f : α -> β} {g : α -> γ} : ∀ {l : List α},(∀ x ∈ l,R (f x) (g x)) -> All2 R (l.map f) (l.map g)
 | [],_ => .nil
 | x :: l,h => .cons (h x (by simp)) (qB (fun y hy => h y (by simp [hy])))
theorem vf {x : Operand} {c : Call} (ho : o.op = .call c) (hc : c.callee = .value x) (hs : df P cf call) (h : gV P cf call n σ.heap (ev σ x) (c.args.toList.map (ev σ)) K = some r) : bc P n o σ K r := by
 unfold gV at h
 split at h
 case h_2 => cases h
 rename_i _ f caps hx
 unfold jK at h
 split at h
 case h_1 => cases h
 rename_i fn hfn
 split at h
 case h_1 => cases h
 case h_2 => cases h
 rename_i ls cds clent hls hcaps
 simp only at h
 split at h
 case h_1 => cases h
 rename_i hdj
 simp only [Bool.and_eq_true] at hdj
 obtain ⟨hnd,hdj⟩ := hdj
 have hnd := ez hnd
 have hdj := iW hdj
 unfold jb at h
 split at h
 case h_2 => cases h
 rename_i rr0 hcall
 obtain ⟨hmeets0,hent⟩ := hs _ _ _ hcall
 obtain ⟨x',h,hok,hl⟩ := tE h
 obtain ⟨rr,hr1,hr2,hmeets⟩ : ∃ rr : Ret,rr.1 = x' /\ rr.2 = rr0.2 /\ Meets P (cf.mode f) f (ls.map (·.x) ++ cds) rr := by
  refine ⟨(x',rr0.2),rfl,rfl,?_⟩
  rcases hl with rfl | ⟨rfl,hl⟩
  ·exact hmeets0
  ·exact Meets.lent hmeets0 hl
 subst hr1
 rw [<- hr2] at h
 obtain ⟨n1,u1,m1,htb,h⟩ := eZ h
 obtain ⟨hids,hlen,hlen2⟩ := fG hls
 obtain ⟨hn1,hu1⟩ := dT htb hids
 obtain ⟨n1',u1',m1',heq,_,tb⟩ := dc htb
 cases heq
 rcases hraise : cu n1 rr.1 with ⟨v,n2,u2⟩
 rw [hraise] at h
 simp only at h
 split at h
 case h_1 => cases h
 rename_i hfit
 simp only [Bool.and_eq_true,decide_eq_true_eq] at hfit
 obtain ⟨hstr,harr⟩ := hfit
 have hn2 : n1 <= n2 := by have := (fm n1 rr.1).1; rw [hraise] at this; exact this
 have hu2 : ∀ i ∈ u2.map (·.1),n1 <= i /\ i < n2 := by have := (fm n1 rr.1).2; rw [hraise] at this; exact this
 refine ⟨v,_,_,h,⟨?_,?_⟩⟩
 ·
  intro id hid
  simp only [List.map_append,List.mem_append] at hid ⊢
  rcases hid with hid | hid | hid | hid
  ·rcases hu1 id hid with h1 | h1
   ·obtain ⟨l,hl,h1⟩ := List.mem_flatMap.1 h1
    exact .inl (.inl (.inr (List.mem_flatMap.2 ⟨l,hl,by simp [h1]⟩)))
   ·exact .inr ⟨h1.1,by omega⟩
  ·have := hu2 id hid; exact .inr ⟨by omega,by omega⟩
  ·simp only [List.map_map,List.mem_map,Function.comp_apply,exists_eq_right] at hid
   obtain ⟨l,hl,h1⟩ := List.mem_flatMap.1 hid
   exact .inl (.inl (.inr (List.mem_flatMap.2 ⟨l,hl,by simp [h1]⟩)))
  ·have hfz : ∀ (r : List Nat),∀ i ∈ (freeze σ.heap r).map (·.1),i ∈ r := by
    intro r
    induction r with
    | nil => simp [freeze]
    | cons j r ih =>
     intro i hi
     simp only [freeze] at hi
     split at hi
     ·simp only [List.map_cons,List.mem_cons] at hi ⊢
      exact hi.imp (fun h => h) (ih i)
     ·exact List.mem_cons_of_mem _ (ih i hi)
   have hin : id ∈ clent ++ ls.flatMap (·.lent) := by
    cases hm : (m1 || jW rr.1) <;> simp only [hm] at hid
    ·cases hid
    ·exact hfz _ id hid
   rcases List.mem_append.1 hin with h1 | h1
   ·exact .inl (.inl (.inl h1))
   ·obtain ⟨l,hl,h1⟩ := List.mem_flatMap.1 h1
    exact .inl (.inl (.inr (List.mem_flatMap.2 ⟨l,hl,by simp [h1]⟩)))
 ·intro F hh a w loc O who B hvals hfoot hfresh s
  have hfoot1 : ∀ id ∈ (c.args.toList.map (ev σ)).flatMap (kr σ.heap),hfind hh id = hfind σ.heap id := fun id hid => hfoot id (by
   simp only [List.flatMap_append,List.mem_append]; exact .inr (.inl hid))
  have hfoot2 : ∀ id ∈ caps.flatMap (kr σ.heap),hfind hh id = hfind σ.heap id := fun id hid => hfoot id (by
   simp only [List.flatMap_append,List.mem_append]; exact .inr (.inr hid))
  have hfootL : ∀ id ∈ clent ++ ls.flatMap (·.lent),hfind hh id = hfind σ.heap id := fun id hid => hfoot id (by
   rcases List.mem_append.1 hid with h1 | h1
   ·simp [h1]
   ·obtain ⟨l,hl,h1⟩ := List.mem_flatMap.1 h1
    exact List.mem_append.2 (.inl (List.mem_append.2 (.inr (List.mem_flatMap.2 ⟨l,hl,by simp [h1]⟩)))))
  have hfootB : ∀ id ∈ ls.flatMap ah,hfind hh id = hfind σ.heap id := fun id hid => hfoot id (by
   obtain ⟨l,hl,h1⟩ := List.mem_flatMap.1 hid
   exact List.mem_append.2 (.inl (List.mem_append.2 (.inr (List.mem_flatMap.2 ⟨l,hl,by simp [h1]⟩)))))
  have hls' : aA P hh (cf.mode f) 0 fn.params.toList (c.args.toList.map (ev σ)) = some ls := by rw [i8 hfoot1]; exact hls
  have hcaps' : bC hh caps = some (cds,clent) := by rw [i9 hfoot2]; exact hcaps
  have hfv : aJ w B hh loc (.fn f caps) (a.eval x) := by rw [<- hx]; exact hvals x (by simp [ho,Op.operands,Call.operands,hc])
  obtain ⟨cvs,hcv,hca⟩ := hfv
  have ha0 : All2 (aJ w B hh loc) (c.args.toList.map (ev σ)) (c.args.toList.map a.eval) := qB fun y hy => hvals y (by
   simp only [ho,Op.operands,Call.operands]
   simp [Array.mem_toList_iff.1 hy])
  have ha := j3 hls' ha0
  obtain ⟨oo,hargs,hfrom,hnod⟩ := lr s (L := clent ++ ls.flatMap (·.lent)) (LS := fun j => match (c.args.toList.map (ev σ))[j]? with | some b => fi loc hh b | none => []) ha hls' (fun j hj => List.mem_append.2 (.inr hj)) hnd (by
   intro j b hj
   simp only [Nat.zero_add,hj])
  have hcapr := il s (L := clent ++ ls.flatMap (·.lent)) hca hcaps' (fun i hi => List.mem_append.2 (.inl hi))
  have hpl : (ls.map (·.x)).length = fn.params.size := by simp [hlen]
  have htake : (ls.map (·.x) ++ cds).take fn.params.size = ls.map (·.x) := by rw [<- hpl]; exact List.take_left
  have hdrop : (ls.map (·.x) ++ cds).drop fn.params.size = cds := by rw [<- hpl]; exact List.drop_left
  have hcalls := hmeets fn hfn w (LB B who (clent ++ ls.flatMap (·.lent))) _ _ _ oo (by rw [htake]; exact hargs) (by rw [hdrop]; exact hcapr) hnod (by
   intro q hq
   obtain ⟨i,hi,_,hw⟩ := hfrom.whose s q hq
   refine ⟨?_,(s.mine _ _ hw).2.1⟩
   rintro (hB | ⟨j,hj,hwj⟩)
   ·exact (s.mine _ _ hw).1 hB
   ·rw [hw] at hwj
    have : i = j := by simpa using hwj
    subst this
    exact hdj i hj hi) (by
   rintro b (hB | ⟨j,hj,hwj⟩)
   ·exact s.blt b hB
   ·exact (s.mine _ _ hwj).2.1)
  have hexec := uH (w := w) ho hc hcv hent
  refine Runs.enter (f := f) (args := (c.args.toList.map a.eval ++ cvs.toList).toArray) (by rw [hexec]; congr; apply Array.ext'; simp) (hcalls.mono ?_)
  rintro e w' ⟨val,B',oR,oI,he,cb⟩
  refine ⟨val,he,?_⟩
  rw [htake] at cb
  have hclok : ∀ i ∈ clent,fA hh i := fH hcaps'
  have hfr : Fresh hh n n2 := fun i h1 h2 => hfresh i h1 (by omega)
  have hfzeq : ∀ (r : List Nat),(∀ i ∈ r,hfind hh i = hfind σ.heap i) -> freeze hh r = freeze σ.heap r := by
   intro r
   induction r with
   | nil => intro _; rfl
   | cons j r ih =>
    intro hr
    simp only [freeze]
    rw [am (hr j (by simp)),ih (fun i hi => hr i (by simp [hi]))]
  have := vt s ha hls' (fun id hid => am (hfootB id hid)) (by intro j b hj; simp only [Nat.zero_add,hj]) hclok hargs hfrom hnod hnd hdj hok tb hn1 hu1 hraise hfr (by
   intro hm
   have h1 : gT σ.heap (clent ++ ls.flatMap (·.lent)) = true := by
    rw [hm] at harr; simpa using harr
   refine List.all_eq_true.2 (fun id hid => ?_)
   have h2 := List.all_eq_true.1 h1 id hid
   rw [am (hfootL id hid)]; exact h2) cb
  rw [hfzeq _ hfootL] at this
  exact this
end
section
variable {P : Program} {cf : Cfg} {call : Nat -> List D -> Option Ret} {n : Nat} {o : Oper} {σ : St} {R : Type} {K : A -> Ups -> List Nat -> Option R} {r : R}
theorem sA {t : TypeId} {x : Operand} (ho : o.op = .load t x) (h : ph P n σ.heap t (ev σ x) K = some r) : bc P n o σ K r := by
 unfold ph at h
 split at h
 ·rename_i id i off hx
  split at h
  ·rename_i cs hg
   split at h
   ·rename_i s hs
    split at h
    ·rename_i v hl hv
     exact qw ho hx hg hs (of_decide_eq_true hl) hv h
    ·cases h
   ·cases h
  ·rename_i z xs hg
   exact gF ho hx hg (.inr rfl) h
  ·rename_i z xs hg
   split at h
   ·exact gF ho hx hg (.inl rfl) h
   ·rename_i hz
    split at h
    ·rename_i e' hu
     split at h
     ·rename_i z' hz'
      exact qv ho hx hg (of_decide_eq_false hz) hu h
     ·cases h
    ·cases h
    ·exact gF ho hx hg (.inl rfl) h
  ·cases h
  ·cases h
 ·rename_i z xs i off hx
  exact rK ho hx h
 ·cases h
theorem rI {t : TypeId} {x y : Operand} (ho : o.op = .store t x y) (h : (kO P σ.heap t (ev σ x) (ev σ y) fun u f => K (.tup []) u f) = some r) : bc P n o σ K r := by
 unfold kO at h
 split at h
 case h_2 => cases h
 rename_i id i off hx
 split at h
 ·rename_i cs ts hg hts
  split at h
  case h_2 => cases h
  rename_i hc
  simp only [Bool.and_eq_true,beq_iff_eq,decide_eq_true_eq] at hc
  obtain ⟨⟨⟨⟨⟨rfl,h2⟩,h3⟩,h4⟩,h5⟩,h6⟩ := hc
  rw [<- h2] at h h3 h6
  exact oc ho hx hg h6 h3 h4 h5 h
 ·rename_i z xs ts hg hts
  split at h
  case h_2 => cases h
  rename_i x' gone hel
  split at h
  case h_2 => cases h
  rename_i hc
  simp only [Bool.and_eq_true,beq_iff_eq,decide_eq_true_eq,Bool.not_eq_true'] at hc
  obtain ⟨⟨⟨⟨⟨⟨⟨h1,h2⟩,h3⟩,h4⟩,h5⟩,h6⟩,h7⟩,h8⟩ := hc
  refine nY ho hx hg h5 hel (by simpa using h1) (ez h2) h3 h4 h6 h7 ?_ h
  intro c hcm
  obtain ⟨z1,z2⟩ := z
  simp only at h8 ⊢
  split at h8
  ·exact List.all_eq_true.1 h8 c hcm
  ·have := List.all_eq_true.1 h8 c hcm
   cases c <;> simp_all [cK]
  ·rename_i hz0 hz1
   rcases z2 with _ | _ | z2
   ·exact absurd rfl hz0
   ·exact absurd rfl hz1
   ·trivial
 ·cases h
theorem sk {src dst : TypeId} {x : Operand} (ho : o.op = .convert src dst x) (h : ox P n σ.heap src dst (ev σ x) K = some r) : bc P n o σ K r := by
 unfold ox at h
 split at h
 ·rename_i sd k hs hd
  split at h
  ·rename_i k' m hx
   exact qo ho hs hd hx h
  ·cases h
 ·rename_i k hs hd
  split at h
  ·rename_i k' m hx
   exact nQ ho hs hd hx h
  ·cases h
 ·rename_i hs hd
  split at h
  ·rename_i t hx
   exact qp ho hs hd hx h
  ·cases h
 ·rename_i e hs hd
  split at h
  ·rename_i t he hx
   exact nt ho hs hd he hx h
  ·cases h
 ·rename_i e0 e hs hd
  split at h
  ·rename_i id he hx
   split at h
   ·rename_i z xs hg
    split at h
    ·rename_i hc
     simp only [Bool.and_eq_true,beq_iff_eq,decide_eq_true_eq] at hc
     obtain ⟨hsd,hz⟩ := hc
     subst hsd
     obtain ⟨hne,h⟩ := aE h
     exact nT ho hd he hx hg hz (of_decide_eq_true hne) h
    ·cases h
   ·cases h
  ·cases h
 ·rename_i e hs hd
  split at h
  ·cases h
  ·rename_i x' he hns
   split at h
   ·rename_i xs z f hall
    exact nN ho hs he hd hall (fun t e => hns t e) h
   ·cases h
  ·cases h
 ·cases h
end
end
end Go.Eng
