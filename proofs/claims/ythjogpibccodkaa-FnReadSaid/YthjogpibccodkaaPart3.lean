/- the program and the reference on plain data, part 3 -/
import Derived.Test.YthjogpibccodkaaPart2
import Derived.Test.YthjogpibccodkaaPart1
import Derived.Test.YthjogpibccodkaaEngC
/-! what is read is written,and read again: plain -/
namespace Go.Eng
noncomputable section

def GW (x : Nd) : Prop := ∃ w : List UInt8,w ≠ [] /\ w.all xN = true /\ xZ w = some x
theorem Ax {w : List UInt8} {x : Nd} (h : xZ w = some x) : x = ⟨2,1,⟨#[]⟩,0,0⟩ \/ x = ⟨2,0,⟨#[]⟩,0,0⟩ \/ (∃ n,x = ⟨3,n,⟨#[]⟩,0,0⟩) \/ x = ⟨4,0,mk w,0,0⟩ := by
 unfold xZ at h
 split at h
 ·cases h; exact .inl rfl
 split at h
 ·cases h; exact .inr (.inl rfl)
 unfold zT at h
 split at h
 ·cases h; exact .inr (.inr (.inl ⟨_,rfl⟩))
 ·split at h
  ·cases h; exact .inr (.inr (.inr rfl))
  ·cases h
theorem DQ {x : Nd} {i : Int} (h : GW x) (ho : okN x i = true) : yd x ≠ [] /\ (yd x).all xN = true /\ xZ (yd x) = some x /\ x.kind ≠ 5 /\ x.kind ≠ 1 := by
 obtain ⟨w,w1,w2,w3⟩ := h
 rcases Ax w3 with rfl | rfl | ⟨n,rfl⟩ | rfl
 ·exact ⟨by decide,by decide,by rfl,by decide,by decide⟩
 ·exact ⟨by decide,by decide,by rfl,by decide,by decide⟩
 ·have hn := AX ho (show (3 : Int) ≠ 4 by decide)
  have e : yd ⟨3,n,⟨#[]⟩,0,0⟩ = yr n := rfl
  obtain ⟨d,r,hd,_,ha⟩ := Dv (n := n)
  rw [e]
  exact ⟨by rw [hd]; simp,ha,II hn,(show (3 : Int) ≠ 5 by decide),(show (3 : Int) ≠ 1 by decide)⟩
 ·have e : yd ⟨4,0,mk w,0,0⟩ = w := Cz w
  rw [e]
  exact ⟨w1,w2,w3,(show (4 : Int) ≠ 5 by decide),(show (4 : Int) ≠ 1 by decide)⟩
inductive Rv (q : List Nd) : Bool -> Nat -> Prop where
 | atom (v : Nat) (x : Nd) : q[v]? = some x -> GW x -> Rv q false v
 | nil (m : Bool) (v : Nat) (x : Nd) : q[v]? = some x -> x.kind = 1 -> Rv q m v
 | pair (m : Bool) (v : Nat) (x : Nd) : q[v]? = some x -> x.kind = 5 -> Rv q false x.a.toNat -> Rv q true x.b.toNat -> Rv q m v
theorem Rv.app {q : List Nd} {m : Bool} {v : Nat} (h : Rv q m v) (e : List Nd) : Rv (q ++ e) m v := by
 have up : ∀ {v : Nat} {x : Nd},q[v]? = some x -> (q ++ e)[v]? = some x := fun h => by rw [List.getElem?_append_left (aQ h)]; exact h
 induction h with
 | atom v x h1 h2 => exact .atom v x (up h1) h2
 | nil m v x h1 h2 => exact .nil m v x (up h1) h2
 | pair m v x h1 h2 h3 h4 ih1 ih2 => exact .pair m v x (up h1) h2 ih1 ih2
theorem Ce : ∀ (l : List Int) (x : Int) (q : List Nd) (c : Nat),yE (l ++ [x]) q c = ((yE l q c).1 ++ [⟨5,0,⟨#[]⟩,x,((yE l q c).2 : Int)⟩],(yE l q c).1.length)
 | [],x,q,c => rfl
 | y :: l,x,q,c => by
  rw [List.cons_append,yE,Ce l x]
  rfl
theorem DG (q : List Nd) : xr q [] = (q ++ [ndN],q.length) := rfl
theorem AV (q : List Nd) (x : Int) (l : List Int) : xr q (x :: l) = ((xr q l).1 ++ [ndP x (xr q l).2],(xr q l).1.length) := by
 unfold xr
 rw [List.reverse_cons,Ce]
theorem zQ (q : List Nd) : ∀ l : List Int,∃ e,(xr q l).1 = q ++ e
 | [] => ⟨[ndN],rfl⟩
 | x :: l => by
  obtain ⟨e,h⟩ := zQ q l
  exact ⟨e ++ [ndP x (xr q l).2],by rw [AV,h,List.append_assoc]⟩
theorem Fk {q : List Nd} (m : Bool) : ∀ l : List Int,(∀ v ∈ l,Rv q false v.toNat) -> Rv (xr q l).1 m (xr q l).2
 | [],_ => by
  rw [DG]
  exact .nil m _ ndN (by simp) rfl
 | x :: l,h => by
  have ih := Fk (q := q) true l (fun v hv => h v (by simp [hv]))
  obtain ⟨e,he⟩ := zQ q l
  have hx := (h x (by simp)).app e
  rw [<- he] at hx
  rw [AV]
  refine .pair m _ (ndP x (xr q l).2) (by simp) rfl (hx.app _) ?_
  show Rv _ true ((xr q l).2 : Int).toNat
  rw [Int.toNat_natCast]
  exact ih.app _
theorem zW {l : List UInt8} : ∀ (k i : Nat) (o : List RwF) (t : RwF) (q : List Nd),(∀ r ∈ t :: o,∀ v ∈ r.2,0 <= v /\ Rv q false v.toNat) -> ∀ q' row,yp l k i o t q = .ok q' row -> (∀ v ∈ row,0 <= v /\ Rv q' false v.toNat) /\ ∃ e,q' = q ++ e
 | 0,i,o,t,q,_,q',row,h => by rw [yp] at h; cases h
 | k + 1,i,o,t,q,hr,q',row,h => by
  rw [zl] at h
  have put : ∀ {e : List Nd} {v : Int},0 <= v /\ Rv (q ++ e) false v.toNat -> ∀ u ∈ t.2 ++ [v],0 <= u /\ Rv (q ++ e) false u.toNat := by
   intro e v hv u hu
   rcases List.mem_append.1 hu with hu | hu
   ·have := hr t (by simp) u hu; exact ⟨this.1,this.2.app e⟩
   ·rw [List.mem_singleton.1 hu]; exact hv
  cases hx : l[i]? with
  | none =>
   rw [hx,z7] at h
   split at h
   ·cases h; exact ⟨fun v hv => hr t (by simp) v hv,[],by simp⟩
   ·cases h
  | some x =>
   rw [hx,za] at h
   split at h
   ·exact zW k (i + 1) o t q hr q' row h
   split at h
   ·refine zW k (i + 1) (t :: o) ((i : Int),[]) q ?_ q' row h
    intro r hm v hv
    rcases List.mem_cons.1 hm with rfl | hm
    ·simp at hv
    ·exact hr r hm v hv
   split at h
   ·cases o with
    | nil => cases h
    | cons u o =>
     obtain ⟨e,he⟩ := zQ q t.2
     obtain ⟨g1,e2,g2⟩ := zW k (i + 1) o (u.1,u.2 ++ [((xr q t.2).2 : Int)]) (xr q t.2).1 (by
      intro r hm v hv
      rcases List.mem_cons.1 hm with rfl | hm
      ·rcases List.mem_append.1 hv with hv | hv
       ·have := hr u (by simp) v hv; rw [he]; exact ⟨this.1,this.2.app e⟩
       ·rw [List.mem_singleton.1 hv,Int.toNat_natCast]
        exact ⟨by omega,Fk false t.2 (fun w hw => (hr t (by simp) w hw).2)⟩
      ·have := hr r (by simp [hm]) v hv; rw [he]; exact ⟨this.1,this.2.app e⟩) q' row h
     exact ⟨g1,e ++ e2,by rw [g2,he,List.append_assoc]⟩
   split at h
   ·rename_i hw
    cases hwd : xZ ((l.drop i).take (yj l i - i)) with
    | none => rw [hwd] at h; cases h
    | some nd =>
     rw [hwd] at h
     have hword : GW nd := by
      have hil := aQ hx
      have hd : l.drop i = x :: l.drop (i + 1) := rV hx
      refine ⟨(l.drop i).take (yj l i - i),?_,?_,hwd⟩
      ·unfold yj
       rw [Nat.add_sub_cancel_left,hd,List.takeWhile_cons_of_pos hw]
       simp
      ·unfold yj
       rw [Nat.add_sub_cancel_left]
       have : (l.drop i).take ((l.drop i).takeWhile xN).length = (l.drop i).takeWhile xN := by
        have e := List.takeWhile_append_dropWhile (p := xN) (l := l.drop i)
        generalize (l.drop i).takeWhile xN = a at e ⊢
        rw [<- e,List.take_left]
       rw [this]
       exact List.all_takeWhile
     obtain ⟨g1,e2,g2⟩ := zW k (yj l i) o (t.1,t.2 ++ [(q.length : Int)]) (q ++ [nd]) (by
      intro r hm v hv
      rcases List.mem_cons.1 hm with rfl | hm
      ·refine put ⟨by omega,?_⟩ v hv
       rw [Int.toNat_natCast]
       exact .atom _ nd (by simp) hword
      ·have := hr r (by simp [hm]) v hv; exact ⟨this.1,this.2.app [nd]⟩) q' row h
     exact ⟨g1,nd :: e2,by rw [g2,List.append_assoc]; rfl⟩
   ·cases h

def tv (q : List Nd) : Nat -> Bool -> Nat -> List Tk
 | 0,_,_ => []
 | g + 1,false,v => match q[v]? with
  | some x => if x.kind = 5 then .op :: (tv q g false x.a.toNat ++ tv q g true x.b.toNat) else if x.kind = 1 then [.op,.cl] else [.wd (yd x) x]
  | none => []
 | g + 1,true,v => match q[v]? with
  | some x => if x.kind = 5 then .sp :: (tv q g false x.a.toNat ++ tv q g true x.b.toNat) else [.cl]
  | none => []
theorem FM {q : List Nd} : ∀ (g : Nat) (m : Bool) (v : Nat) (out : List UInt8),Rv q m v -> (wr q g m v out).length <= 400 -> wr q g m v out = out ++ xJ (tv q g m v)
 | 0,m,v,out,_,_ => by simp [wr,tv,xJ]
 | g + 1,false,v,out,h,hl => by
  have ho := yC (p := q) (g + 1) false v out
  have ho4 : ¬ out.length > 400 := by omega
  rw [wr,if_neg ho4] at hl ⊢
  rw [tv]
  cases h with
  | atom _ x h1 h2 =>
   rw [h1] at hl ⊢
   obtain ⟨w,w1,w2,w3⟩ := h2
   have k : x.kind ≠ 5 /\ x.kind ≠ 1 := by
    rcases Ax w3 with rfl | rfl | ⟨n,rfl⟩ | rfl
    ·exact ⟨by decide,by decide⟩
    ·exact ⟨by decide,by decide⟩
    ·exact ⟨(show (3 : Int) ≠ 5 by decide),(show (3 : Int) ≠ 1 by decide)⟩
    ·exact ⟨(show (4 : Int) ≠ 5 by decide),(show (4 : Int) ≠ 1 by decide)⟩
   simp only
   rw [if_neg k.1,if_neg k.1,if_neg k.2]
   simp [xJ,Tk.text]
  | nil _ _ x h1 h2 =>
   rw [h1]
   simp only
   rw [if_neg (by omega),if_neg (by omega),if_pos h2]
   unfold yd
   rw [if_pos h2]
   rfl
  | pair _ _ x h1 h2 h3 h4 =>
   rw [h1] at hl ⊢
   simp only at hl ⊢
   rw [if_pos h2] at hl ⊢
   rw [if_pos h2]
   have m1 := yC (p := q) g true x.b.toNat (wr q g false x.a.toNat (out ++ [40]))
   have i1 := FM g false x.a.toNat (out ++ [40]) h3 (by omega)
   rw [FM g true x.b.toNat _ h4 hl,i1]
   simp [xJ,Tk.text,DC]
 | g + 1,true,v,out,h,hl => by
  have ho := yC (p := q) (g + 1) true v out
  have hl4 : out.length <= 400 := by omega
  rw [wr] at hl ⊢
  rw [tv]
  cases h with
  | nil _ _ x h1 h2 =>
   rw [h1]
   simp only
   rw [if_neg (fun q => by omega),if_pos h2,if_neg (by omega)]
   rfl
  | pair _ _ x h1 h2 h3 h4 =>
   have ho4 : out.length <= 400 := hl4
   rw [h1] at hl ⊢
   simp only at hl ⊢
   rw [if_pos ⟨h2,ho4⟩] at hl ⊢
   rw [if_pos h2]
   have m1 := yC (p := q) g true x.b.toNat (wr q g false x.a.toNat (out ++ [32]))
   have i1 := FM g false x.a.toNat (out ++ [32]) h3 (by omega)
   rw [FM g true x.b.toNat _ h4 hl,i1]
   simp [xJ,Tk.text,DC]

theorem Ft {a b : List Tk} (ha : Ge a = true) (hb : a = [] -> Ge b = true) : Ge (a ++ b) = true := by
 cases a with
 | nil => exact hb rfl
 | cons x a => cases x <;> first | exact ha | rfl
def Pre (a : List Tk) : Prop := ∀ r,Ge r = true -> OkT r -> OkT (a ++ r)
theorem FG {q : List Nd} (hq : AE q) : ∀ (g : Nat) (m : Bool) (v : Nat),Rv q m v -> Pre (tv q g m v) /\ (m = true -> Ge (tv q g m v) = true) /\ (m = true -> 0 < g -> tv q g m v ≠ [])
 | 0,m,v,_ => ⟨fun r _ h => h,fun _ => rfl,fun _ h => by omega⟩
 | g + 1,false,v,h => by
  refine ⟨?_,fun e => absurd e (by decide),fun e => absurd e (by decide)⟩
  intro r hr ho
  rw [tv]
  cases h with
  | atom _ x h1 h2 =>
   rw [h1]
   obtain ⟨a1,a2,a3,a4,a5⟩ := DQ h2 (hq v x h1)
   simp only
   rw [if_neg a4,if_neg a5]
   exact ⟨⟨a1,a2,a3⟩,hr,ho⟩
  | nil _ _ x h1 h2 =>
   rw [h1]
   simp only
   rw [if_neg (by omega),if_pos h2]
   exact ho
  | pair _ _ x h1 h2 h3 h4 =>
   rw [h1]
   simp only
   rw [if_pos h2]
   obtain ⟨p1,_,_⟩ := FG hq g false x.a.toNat h3
   obtain ⟨p2,n2,e2⟩ := FG hq g true x.b.toNat h4
   show OkT ((tv q g false x.a.toNat ++ tv q g true x.b.toNat) ++ r)
   rw [List.append_assoc]
   exact p1 _ (Ft (n2 rfl) (fun _ => hr)) (p2 r hr ho)
 | g + 1,true,v,h => by
  rw [tv]
  cases h with
  | nil _ _ x h1 h2 =>
   rw [h1]
   simp only
   rw [if_neg (by omega)]
   exact ⟨fun r _ ho => ho,fun _ => rfl,fun _ _ => by simp⟩
  | pair _ _ x h1 h2 h3 h4 =>
   rw [h1]
   simp only
   rw [if_pos h2]
   obtain ⟨p1,_,_⟩ := FG hq g false x.a.toNat h3
   obtain ⟨p2,n2,e2⟩ := FG hq g true x.b.toNat h4
   refine ⟨?_,fun _ => rfl,fun _ _ => by simp⟩
   intro r hr ho
   show OkT ((tv q g false x.a.toNat ++ tv q g true x.b.toNat) ++ r)
   rw [List.append_assoc]
   exact p1 _ (Ft (n2 rfl) (fun _ => hr)) (p2 r hr ho)
inductive AlkL (q p : List Nd) : Nat -> List Int -> Prop where
 | nil (v : Nat) (x : Nd) : q[v]? = some x -> x.kind = 1 -> AlkL q p v []
 | cons (v u : Nat) (x : Nd) (l : List Int) : q[v]? = some x -> x.kind = 5 -> Alk q p x.a.toNat u -> AlkL q p x.b.toNat l -> AlkL q p v ((u : Int) :: l)
theorem AlkL.right {q p : List Nd} {v : Nat} {l : List Int} (h : AlkL q p v l) (e : List Nd) : AlkL q (p ++ e) v l := by
 induction h with
 | nil v x h1 h2 => exact .nil v x h1 h2
 | cons v u x l h1 h2 h3 h4 ih => exact .cons v u x l h1 h2 (h3.right e) ih
theorem Jk {x : Nd} {i : Int} (h : okN x i = true) (k : x.kind = 1) : x.n = 0 /\ x.s = ⟨#[]⟩ := by
 unfold okN at h
 rw [if_pos k] at h
 simp only [Bool.and_eq_true] at h
 have hn := wi_iff.1 h.1
 have hs := h.2.1
 unfold nz at hs
 rw [yQ] at hs
 exact ⟨by omega,of_decide_eq_true hs⟩
theorem Jv {x : Nd} {i : Int} (h : okN x i = true) (k : x.kind = 5) : x.n = 0 /\ x.s = ⟨#[]⟩ := by
 unfold okN at h
 rw [if_neg (by omega),if_neg (by omega),if_neg (by omega),if_neg (by omega),if_pos k] at h
 simp only [Bool.and_eq_true] at h
 have hn := wi_iff.1 h.1
 have hs := h.2.1
 unfold nz at hs
 rw [yQ] at hs
 exact ⟨by omega,of_decide_eq_true hs⟩
theorem DF {q : List Nd} (hq : AE q) {p : List Nd} : ∀ (l : List Int) (v : Nat),AlkL q p v l -> Alk q (xr p l).1 v (xr p l).2
 | [],v,h => by
  cases h with
  | nil _ x h1 h2 =>
   obtain ⟨a1,a2⟩ := Jk (hq v x h1) h2
   rw [DG]
   exact .mk v _ x ndN h1 (by simp) h2 a1 a2 (fun e => by omega) (fun e => by omega)
 | w :: l,v,h => by
  cases h with
  | cons _ u x _ h1 h2 h3 h4 =>
   have ih := DF hq l x.b.toNat h4
   obtain ⟨e,he⟩ := zQ p l
   obtain ⟨a1,a2⟩ := Jv (hq v x h1) h2
   have h3' := h3.right e
   rw [<- he] at h3'
   rw [AV]
   refine .mk v _ x (ndP u (xr p l).2) h1 (by simp) h2 a1 a2 (fun _ => ?_) (fun _ => ?_)
   ·show Alk q _ x.a.toNat (u : Int).toNat
    rw [Int.toNat_natCast]
    exact h3'.right _
   ·show Alk q _ x.b.toNat ((xr p l).2 : Int).toNat
    rw [Int.toNat_natCast]
    exact ih.right _
theorem FF {q : List Nd} (hq : AE q) : ∀ (g : Nat),
  (∀ v,Rv q false v -> 2 * v + 1 <= g -> ∀ P,∃ E,∃ u : Nat,(∀ rest o t,rdT (tv q g false v ++ rest) o t P = rdT rest o (t ++ [(u : Int)]) (P ++ E)) /\ Alk q (P ++ E) v u) /\
  (∀ v,Rv q true v -> 2 * v + 1 <= g -> ∀ P,∃ E l,(∀ rest u o t,rdT (tv q g true v ++ rest) (u :: o) t P = rdT rest o (u ++ [((xr (P ++ E) (t ++ l)).2 : Int)]) (xr (P ++ E) (t ++ l)).1) /\ AlkL q (P ++ E) v l)
 | 0 => ⟨fun v _ h => by omega,fun v _ h => by omega⟩
 | g + 1 => by
  obtain ⟨ihF,ihT⟩ := FF hq g
  refine ⟨fun v h hg P => ?_,fun v h hg P => ?_⟩
  ·rw [tv]
   cases h with
   | atom _ x h1 h2 =>
    rw [h1]
    obtain ⟨a1,a2,a3,a4,a5⟩ := DQ h2 (hq v x h1)
    simp only
    rw [if_neg a4,if_neg a5]
    refine ⟨[x],P.length,fun rest o t => rfl,.mk v _ x x h1 (by simp) rfl rfl rfl (fun k => ?_) (fun k => absurd k a4)⟩
    exfalso
    obtain ⟨w,w1,w2,w3⟩ := h2
    rcases Ax w3 with rfl | rfl | ⟨n,rfl⟩ | rfl
    ·revert k; decide
    ·revert k; decide
    ·have : (3 : Int) = 5 \/ (3 : Int) = 6 \/ (3 : Int) = 7 := k
     omega
    ·have : (4 : Int) = 5 \/ (4 : Int) = 6 \/ (4 : Int) = 7 := k
     omega
   | nil _ _ x h1 h2 =>
    rw [h1]
    simp only
    rw [if_neg (by omega),if_pos h2]
    obtain ⟨a1,a2⟩ := Jk (hq v x h1) h2
    exact ⟨[ndN],P.length,fun rest o t => rfl,.mk v _ x ndN h1 (by simp) h2 a1 a2 (fun e => by omega) (fun e => by omega)⟩
   | pair _ _ x h1 h2 h3 h4 =>
    rw [h1]
    simp only
    rw [if_pos h2]
    have op := yP (hq v x h1) h2
    obtain ⟨E1,u1,r1,k1⟩ := ihF x.a.toNat h3 (by omega) P
    obtain ⟨E2,l,r2,k2⟩ := ihT x.b.toNat h4 (by omega) (P ++ E1)
    obtain ⟨E3,he3⟩ := zQ (P ++ E1 ++ E2) ([(u1 : Int)] ++ l)
    have hal : AlkL q (P ++ E1 ++ E2) v ((u1 : Int) :: l) := .cons v u1 x l h1 h2 (k1.right E2) k2
    have hfin := DF hq _ v hal
    refine ⟨E1 ++ E2 ++ E3,(xr (P ++ E1 ++ E2) ([(u1 : Int)] ++ l)).2,fun rest o t => ?_,?_⟩
    ·show rdT ((tv q g false x.a.toNat ++ tv q g true x.b.toNat) ++ rest) (t :: o) [] P = _
     rw [List.append_assoc,r1,r2]
     show rdT rest o _ (xr (P ++ E1 ++ E2) ([] ++ [(u1 : Int)] ++ l)).1 = _
     rw [List.nil_append,he3]
     simp only [List.append_assoc]
    ·have : P ++ (E1 ++ E2 ++ E3) = (xr (P ++ E1 ++ E2) ([(u1 : Int)] ++ l)).1 := by rw [he3]; simp only [List.append_assoc]
     rw [this]
     exact hfin
  ·rw [tv]
   cases h with
   | nil _ _ x h1 h2 =>
    rw [h1]
    simp only
    rw [if_neg (by omega)]
    exact ⟨[],[],fun rest u o t => by simp [rdT],.nil v x h1 h2⟩
   | pair _ _ x h1 h2 h3 h4 =>
    rw [h1]
    simp only
    rw [if_pos h2]
    have op := yP (hq v x h1) h2
    obtain ⟨E1,u1,r1,k1⟩ := ihF x.a.toNat h3 (by omega) P
    obtain ⟨E2,l,r2,k2⟩ := ihT x.b.toNat h4 (by omega) (P ++ E1)
    refine ⟨E1 ++ E2,(u1 : Int) :: l,fun rest u o t => ?_,?_⟩
    ·show rdT ((tv q g false x.a.toNat ++ tv q g true x.b.toNat) ++ rest) (u :: o) t P = _
     rw [List.append_assoc,r1,r2]
     simp only [List.append_assoc,List.cons_append,List.nil_append]
    ·rw [<- List.append_assoc]
     exact .cons v u1 x l h1 h2 (k1.right E2) k2
theorem Gk {q : List Nd} (hp : xq q = true) {v : Int} (hv : 0 <= v) (hr : Rv q false v.toNat) (hs : ym q v ≠ []) :
  (xQ q (ym q v)).2.2.1 = 6 \/ ((xQ q (ym q v)).2.2.1 = 0 /\ ∃ u : Int,(xQ q (ym q v)).2.1 = [u] /\ GC (xQ q (ym q v)).1 v u = true /\ xq (xQ q (ym q v)).1 = true /\ InP (xQ q (ym q v)).1 v /\ InP (xQ q (ym q v)).1 u) := by
 have hq := (okPool_iff.1 hp).1
 have hw : ∃ w,w = wr q (2 * v.toNat + 1) false v.toNat [] /\ w.length <= 400 /\ ym q v = w := by
  unfold ym at hs ⊢
  split at hs
  ·rename_i hc
   split at hs
   ·exact absurd rfl hs
   ·rename_i h4
    rw [if_pos hc,if_neg h4]
    exact ⟨_,rfl,by omega,rfl⟩
  ·exact absurd rfl hs
 obtain ⟨w,e1,e2,e3⟩ := hw
 have e4 := FM (q := q) (2 * v.toNat + 1) false v.toNat [] hr (by rw [<- e1]; exact e2)
 rw [List.nil_append,<- e1] at e4
 have hok : OkT (tv q (2 * v.toNat + 1) false v.toNat) := by
  have := (FG hq (2 * v.toNat + 1) false v.toNat hr).1 [] rfl trivial
  rwa [List.append_nil] at this
 obtain ⟨E,u,r1,k1⟩ := (FF hq (2 * v.toNat + 1)).1 v.toNat hr (Nat.le_refl _) q
 have hrd : rdT (tv q (2 * v.toNat + 1) false v.toNat) [] [] q = some (q ++ E,[(u : Int)]) := by
  have := r1 [] [] []
  rw [List.append_nil] at this
  rw [this]; rfl
 have hread := GP hok hp (by rw [<- e4]; exact e2) hrd
 rw [e3,e4,hread]
 by_cases hE : xq (q ++ E) = true
 ·rw [if_pos hE]
  refine .inr ⟨rfl,(u : Int),rfl,?_,hE,?_,?_⟩
  ·refine GX (okPool_iff.1 hE).1 ?_
   rw [Int.toNat_natCast]
   exact k1.left E
  ·cases k1 with
   | mk _ _ x y h1 h2 => have := aQ h1; exact ⟨hv,by rw [lnA]; omega⟩
  ·cases k1 with
   | mk _ _ x y h1 h2 => have h9 := aQ h2; exact ⟨Int.natCast_nonneg _,Int.ofNat_lt.2 h9⟩
 ·rw [if_neg hE]
  exact .inl rfl
theorem Iq {p : List Nd} {l : List UInt8} (h : (xQ p l).2.2.1 = 0) : (∀ v ∈ (xQ p l).2.1,0 <= v /\ Rv (xQ p l).1 false v.toNat) /\ xq (xQ p l).1 = true /\ (xQ p l).2.2.2 = (l.length : Int) := by
 unfold xQ at h ⊢
 split at h
 ·revert h; simp
 rename_i h1
 rw [if_neg h1]
 split at h
 ·revert h; simp
 rename_i h2
 rw [if_neg h2]
 cases hr : yp l (l.length + 1) 0 [] (0,[]) p with
 | err c a =>
  rw [hr] at h
  exfalso
  have hc : c = 0 := h
  have := (zX (l := l) (l.length + 1) 0 [] (0,[]) p (by omega) (by omega) (by intro x hx; simp at hx; subst hx; simp) c a hr).1
  exact this hc
 | ok q row =>
  rw [hr] at h
  unfold Gl at h ⊢
  simp only at h ⊢
  by_cases hq : xq q = true
  ·rw [if_pos hq]
   exact ⟨(zW (l := l) (l.length + 1) 0 [] (0,[]) p (by intro r hm v hv; simp at hm; subst hm; simp at hv) q row hr).1,hq,rfl⟩
  ·rw [if_neg hq] at h; revert h; simp
end
end Go.Eng
/-! the functions as the interpreter has them -/
/-! what is drawn: the cursor -/
namespace Go.Eng
noncomputable section
open Go.Proofs Go.Proofs.Try

def eB (x : Int) : D := .int .u8 x
abbrev eC (b : List Int) (c : Int × Int) : D := .op [.rs (1,0) (b.map eB),iN c.1,iN c.2]
def xK (b : List Int) (c : Int × Int) : Prop := 0 <= c.1 /\ c.1 <= b.length
theorem DR (x : Int) : 0 <= w6 (ni (BitVec.toNat (BitVec.ofInt (IntKind.bits IntKind.i64) x &&& BitVec.ofInt (IntKind.bits IntKind.i64) 255))) /\ w6 (ni (BitVec.toNat (BitVec.ofInt (IntKind.bits IntKind.i64) x &&& BitVec.ofInt (IntKind.bits IntKind.i64) 255))) <= 255 := by
 have h : BitVec.toNat (BitVec.ofInt (IntKind.bits IntKind.i64) x &&& BitVec.ofInt (IntKind.bits IntKind.i64) 255) <= 255 := by
  rw [BitVec.toNat_and]
  exact Nat.le_trans Nat.and_le_right (by decide)
 rw [w64 (by simp only [ni]; omega) (by simp only [ni]; omega)]
 simp only [ni]; omega

section
variable {b : List Int} {c : Int × Int}
theorem Ah (hb : b.length < 4611686018427387904) (h : xK b c) : ∃ v c',V 34 [eC b c] = some (iN v,[eC b c']) /\ xK b c' /\ 0 <= v /\ v <= 255 := by
 obtain ⟨h1,h2⟩ := h
 rw [Ec,wT (by decide),wT (by decide)]
 by_cases hi : c.1 < b.length
 ·obtain ⟨k,hk⟩ := Int.eq_ofNat_of_zero_le h1
  obtain ⟨x,hx⟩ := vI (l := b) (i := k) (by omega)
  rw [hk]
  rw [vX (by rw [lnM]; exact wX (by omega)),wT (by rw [lnM]; exact wW (by omega)),Int.toNat_natCast,wk hx]
  unfold eB
  rw [wv]
  refine ⟨_,(_,_),rfl,⟨?_,?_⟩,(DR _).1,(DR _).2⟩
  ·show 0 <= w6 ((k : Int) + 1)
   rw [w64 (by omega) (by omega)]; omega
  ·show w6 ((k : Int) + 1) <= _
   rw [w64 (by omega) (by omega)]; omega
 ·rw [vi (decide_eq_false (by simp only [ni,lnM]; omega))]
  exact ⟨_,(c.1,w6 (w6 (c.2 * 6364136223846793005) + 1442695040888963407)),rfl,⟨h1,h2⟩,(DR _).1,(DR _).2⟩

theorem BG (hb : b.length < 4611686018427387904) (h : xK b c) (n : Int) : ∃ v c',V 16 [eC b c,iN n] = some (iN v,[eC b c']) /\ xK b c' /\ 0 <= v /\ (0 < n -> v < n) := by
 rw [Dm]
 by_cases hn : n <= 0
 ·rw [vX (by simpa using hn)]
  exact ⟨_,c,rfl,h,by omega,by omega⟩
 rw [vi (by simpa using hn)]
 by_cases h256 : n <= 256
 ·rw [vX (by simpa using h256)]
  obtain ⟨v,c1,hv,h1,hv1,hv2⟩ := Ah hb h
  rw [y1 hv]
  try simp only [wv,vV,wz,wx,wy,vG,vH,ww,ws,wJ,wY]
  rw [wT (by simp; omega)]
  exact ⟨_,c1,rfl,h1,Int.tmod_nonneg _ hv1,fun _ => Int.tmod_lt_of_pos _ (by omega)⟩
 ·rw [vi (by simpa using h256)]
  obtain ⟨v1,c1,hv1,a1,b1⟩ := Ah hb h
  obtain ⟨v2,c2,hv2,a2,b2⟩ := Ah hb a1
  obtain ⟨v3,c3,hv3,a3,b3⟩ := Ah hb a2
  obtain ⟨v4,c4,hv4,a4,b4⟩ := Ah hb a3
  rw [y1 hv1,y1 hv2,y1 hv3,y1 hv4]
  try simp only [wv,vV,wz,wx,wy,vG,vH,ww,ws,wJ,wY]
  rw [wT (by simp; omega)]
  refine ⟨_,c4,rfl,a4,Int.tmod_nonneg _ ?_,fun _ => Int.tmod_lt_of_pos _ (by omega)⟩
  rw [w64 (n := v1 * 16777216) (by omega) (by omega),w64 (n := v2 * 65536) (by omega) (by omega),w64 (n := v3 * 256) (by omega) (by omega)]
  rw [w64 (n := v1 * 16777216 + v2 * 65536) (by omega) (by omega),w64 (n := v1 * 16777216 + v2 * 65536 + v3 * 256) (by omega) (by omega),w64 (by omega) (by omega)]
  omega

theorem ER (hb : b.length < 4611686018427387904) (h : xK b c) {l : List Int} (hl : 0 < l.length) : ∃ v c',V 52 [eC b c,.rs (1,0) (l.map (D.int .i64))] = some (iN v,[eC b c']) /\ xK b c' /\ v ∈ l := by
 obtain ⟨v,c1,hv,a1,b1,b2⟩ := BG hb h (ni (l.map (D.int .i64)).length)
 rw [Cu,Bl hv]
 try simp only [wv,vV,wz,wx,wy,vG,vH,ww,ws,wJ,wY]
 simp only [ni,lnM] at b2
 obtain ⟨k,rfl⟩ := Int.eq_ofNat_of_zero_le b1
 have hk : k < l.length := by have := b2 (by omega); omega
 obtain ⟨x,hx⟩ := vI hk
 rw [wT (by rw [lnM]; exact wW hk),Int.toNat_natCast,wk hx,wv]
 exact ⟨_,c1,rfl,a1,List.mem_of_getElem? hx⟩

theorem GZ (hb : b.length < 4611686018427387904) (h : xK b c) {l : List ByteArray} (hl : 0 < l.length) : ∃ v c',V 32 [eC b c,.rs (1,0) (l.map D.str)] = some (.str v,[eC b c']) /\ xK b c' /\ v ∈ l := by
 obtain ⟨v,c1,hv,a1,b1,b2⟩ := BG hb h (ni (l.map D.str).length)
 rw [Ee,Bl hv]
 try simp only [wv,vV,wz,wx,wy,vG,vH,ww,ws,wJ,wY]
 simp only [ni,lnM] at b2
 obtain ⟨k,rfl⟩ := Int.eq_ofNat_of_zero_le b1
 have hk : k < l.length := by have := b2 (by omega); omega
 obtain ⟨x,hx⟩ := vI hk
 rw [wT (by rw [lnM]; exact wW hk),Int.toNat_natCast,wk hx,wz]
 exact ⟨_,c1,rfl,a1,List.mem_of_getElem? hx⟩

theorem Fp (hb : b.length < 4611686018427387904) : ∀ (k i : Nat) (h : Int),i + k = b.length -> ∃ h',yW (b.map eB) h (i : Int) = some (eC b (0,h'),[])
 | 0,i,h,hi => by
  rw [zK,vi (by rw [lnM]; exact wQ (by omega))]
  exact ⟨_,rfl⟩
 | k + 1,i,h,hi => by
  obtain ⟨x,hx⟩ := vI (l := b) (i := i) (by omega)
  rw [zK,vX (by rw [lnM]; exact wX (by omega)),wT (by rw [lnM]; exact wW (by omega)),Int.toNat_natCast,wk hx]
  cases h4 : decide ((i : Int) < 4000) with
  | false => exact ⟨_,rfl⟩
  | true =>
   unfold eB
   rw [wC,wv,xh (by omega)]
   exact Fp hb k (i + 1) _ (by omega)
theorem IP (hb : b.length < 4611686018427387904) : ∃ c,V 11 [.rs (1,0) (b.map eB)] = some (eC b c,[]) /\ xK b c := by
 rw [Ff]
 obtain ⟨h',he⟩ := Fp hb b.length 0 (w6 (17000 + ni (List.length (b.map eB)))) (by omega)
 exact ⟨(0,h'),he,Int.le_refl _,Int.natCast_nonneg _⟩
end
theorem Jz (b : List Int) : V 4 [.rs (1,0) (b.map eB)] = some (.bool (decide ((b.length : Int) > 1048576)),[]) := by
 rw [GG,lnM]
set_option maxRecDepth 100000 in
theorem GY {x : D} (h : ShapeV prog 22 x) : ∃ b : List Int,x = .rs (1,0) (b.map eB) /\ b.length < 4611686018427387904 := by
 obtain ⟨ys,hs,rfl⟩ := h
 obtain ⟨bs,rfl,h1,h2⟩ := hs.slice Try.underlying22 (show zOf prog 5 = some (1,0) by kernel_rfl)
 obtain ⟨l,rfl,-⟩ := qU (enc := eB) (p := fun _ => True) (ys := bs) (fun x hx => by
  obtain ⟨ps,hs,rfl⟩ := h2 x hx
  obtain ⟨n,rfl,_⟩ := hs.int Try.underlying5
  exact ⟨n,qP Try.underlying5,trivial⟩)
 have hby : prog.bytesOf 5 = 1 := by kernel_rfl
 have hr : reachBytes = 140737488351232 := rfl
 rw [hby,lnM] at h1
 exact ⟨l,by rw [uI Try.underlying22],by omega⟩
end
end Go.Eng
/-! draws: what is drawn fits,and the cursor goes on -/
namespace Go.Eng
noncomputable section
open Go.Proofs Go.Proofs.Try

def Got (P : D -> List D -> Prop) (r : Option Ret) : Prop := ∃ v l,r = some (v,l) /\ P v l
theorem GI {r s : Option Ret} (h : r = s) (P : D -> List D -> Prop) : Got P r = Got P s := by rw [h]
attribute [congr] GI
section
variable {P Q : D -> List D -> Prop}
theorem Ak {v : D} {l : List D} (h : P v l) : Got P (some (v,l)) := ⟨v,l,rfl,h⟩
theorem xx {b : Bool} {x y : Option Ret} (h1 : b = true -> Got P x) (h2 : b = false -> Got P y) : Got P (br b x y) := by
 cases b with
 | true => exact h1 rfl
 | false => exact h2 rfl
theorem ye {b : Bool} {x : Option Ret} (h : b = true) (h1 : Got P x) : Got P (grd b x) := by rw [wT h]; exact h1
theorem Cy {v : D} {l : List D} {f : Nat} {ds : List D} {K : D -> List D -> Option Ret} (h : V f ds = some (v,l)) (h2 : Got P (K v l)) : Got P (ib V f ds K) := by
 rw [vp h]; exact h2
end
abbrev y7 (b : List Int) (Q : D -> Prop) : Option Ret -> Prop := Got (fun v l => ∃ c',l = [eC b c'] /\ xK b c' /\ Q v)
section
variable {b : List Int} {Q : D -> Prop} {P : D -> List D -> Prop}
theorem xk {f : Nat} {ds : List D} {K : D -> List D -> Option Ret} (h : y7 b Q (V f ds)) (h2 : ∀ v c',xK b c' -> Q v -> Got P (K v [eC b c'])) : Got P (ib V f ds K) := by
 obtain ⟨v,l,e,c',rfl,hc,hq⟩ := h
 rw [vp e]; exact h2 v c' hc hq
theorem xn {v : D} {c' : Int × Int} (h : xK b c') (hq : Q v) : y7 b Q (some (v,[eC b c'])) := ⟨v,_,rfl,c',rfl,h,hq⟩
theorem BH {Q' : D -> Prop} {r : Option Ret} (h : y7 b Q r) (h2 : ∀ v,Q v -> Q' v) : y7 b Q' r := by
 obtain ⟨v,l,e,c',e2,hc,hq⟩ := h
 exact ⟨v,l,e,c',e2,hc,h2 v hq⟩
end
theorem zj : (⟨#[]⟩ : ByteArray).size <= 100 := by decide
def Js (n : Int) (v : D) : Prop := ∃ m : Int,v = iN m /\ 0 <= m /\ (0 < n -> m < n)
def IsB (v : D) : Prop := ∃ m : Bool,v = .bool m
section
variable {b : List Int} {c : Int × Int}
theorem xA (hb : b.length < 4611686018427387904) (h : xK b c) (n : Int) : y7 b (Js n) (V 16 [eC b c,iN n]) := by
 obtain ⟨v,c',e,h1,h2,h3⟩ := BG hb h n
 exact ⟨_,_,e,c',rfl,h1,v,rfl,h2,h3⟩
theorem yA (hb : b.length < 4611686018427387904) (h : xK b c) (n : Int) : y7 b IsB (V 14 [eC b c,iN n]) := by
 rw [Ed]
 refine xk (xA hb h n) fun v c1 a1 ⟨m,e,_⟩ => ?_
 subst e
 simp (disch := first | omega | (simp only [lnA,lnC,lnN,lnM,xj,u9]; omega)) only [↓wJ,↓ws,↓wv,↓wy,↓ww]
 exact xn a1 ⟨_,rfl⟩
theorem FU (hb : b.length < 4611686018427387904) (h : xK b c) (l : List Int) (hl : 0 < l.length) : y7 b (fun v => ∃ m : Int,v = iN m /\ m ∈ l) (V 52 [eC b c,.rs (1,0) (l.map (D.int .i64))]) := by
 obtain ⟨v,c',e,h1,h2⟩ := ER hb h hl
 exact ⟨_,_,e,c',rfl,h1,v,rfl,h2⟩
theorem Ay (hb : b.length < 4611686018427387904) (h : xK b c) (l : List ByteArray) (hl : 0 < l.length) : y7 b (fun v => ∃ m : ByteArray,v = .str m /\ m ∈ l) (V 32 [eC b c,.rs (1,0) (l.map D.str)]) := by
 obtain ⟨v,c',e,h1,h2⟩ := GZ hb h hl
 exact ⟨_,_,e,c',rfl,h1,v,rfl,h2⟩

def IJ (v : D) : Prop := ∃ x : Nd,v = eN x /\ x.s.size <= 100
theorem IW (hb : b.length < 4611686018427387904) (h : xK b c) : y7 b IJ (V 59 [eC b c]) := by
 rw [BL]
 refine xk (xA hb h _) fun v c1 a1 ⟨m,e,m0,m1⟩ => ?_
 subst e
 simp (disch := first | omega | (simp only [lnA,lnC,lnN,lnM,xj,u9]; omega)) only [↓wJ,↓ws,↓wv,↓wy,↓ww]
 refine xx (fun _ => xn a1 ⟨⟨_,_,_,_,_⟩,rfl,zj⟩) fun _ => xx (fun _ => ?_) fun _ => xx (fun _ => ?_) fun _ => xx (fun _ => ?_) fun _ => xx (fun _ => ?_) fun _ => ?_
 ·refine xk (xA hb a1 _) fun v c2 a2 ⟨m,e,m0,m1⟩ => ?_
  subst e
  simp (disch := first | omega | (simp only [lnA,lnC,lnN,lnM,xj,u9]; omega)) only [↓wJ,↓ws,↓wv,↓wy,↓ww]
  exact xn a2 ⟨⟨_,_,_,_,_⟩,rfl,zj⟩
 ·refine xk (Ay hb a1 [⟨#[97]⟩,⟨#[98,99]⟩,⟨#[120]⟩,⟨#[102]⟩,⟨#[43]⟩,⟨#[108,105,115,116]⟩] (by simp)) fun v c2 a2 ⟨m,e,hm⟩ => ?_
  subst e
  simp (disch := first | omega | (simp only [lnA,lnC,lnN,lnM,xj,u9]; omega)) only [↓wJ,↓ws,↓wv,↓wz,↓wy,↓ww]
  refine xn a2 ⟨⟨_,_,m,_,_⟩,rfl,?_⟩
  simp only [List.mem_cons,List.not_mem_nil,or_false] at hm
  rcases hm with rfl | rfl | rfl | rfl | rfl | rfl <;> decide
 all_goals
  refine xk (xA hb a1 _) fun v c2 a2 ⟨m,e,m0,m1⟩ => ?_
  subst e
  simp (disch := first | omega | (simp only [lnA,lnC,lnN,lnM,xj,u9]; omega)) only [↓wJ,↓ws,↓wv,↓wy,↓ww]
  exact xn a2 ⟨⟨_,_,_,_,_⟩,rfl,zj⟩
theorem Gv (hb : b.length < 4611686018427387904) (h : xK b c) (n : Int) : y7 b IJ (V 51 [eC b c,iN n]) := by
 have hat : ∀ {c : Int × Int},xK b c -> y7 b IJ (V 59 [eC b c]) := fun h => IW hb h
 rw [BM]
 refine xx (fun _ => ?_) fun _ => ?_
 ·refine xk (hat h) fun v c1 a1 ⟨x,e,hx⟩ => ?_
  subst e
  simp (disch := first | omega | (simp only [lnA,lnC,lnN,lnM,xj,u9]; omega)) only [↓wJ,↓ws,↓wv,↓wz,↓wy,↓vG,↓ww]
  exact xn a1 ⟨x,rfl,hx⟩
 refine xk (yA hb h 2) fun v c1 a1 ⟨o,e⟩ => ?_
 subst e
 simp (disch := first | omega | (simp only [lnA,lnC,lnN,lnM,xj,u9]; omega)) only [↓wJ,↓ws,↓wv,↓vV,↓wy,↓ww]
 refine xx (fun _ => ?_) fun _ => ?_
 ·refine xk (hat a1) fun v c1 a1 ⟨x,e,hx⟩ => ?_
  subst e
  simp (disch := first | omega | (simp only [lnA,lnC,lnN,lnM,xj,u9]; omega)) only [↓wJ,↓ws,↓wv,↓wz,↓wy,↓vG,↓ww]
  exact xn a1 ⟨x,rfl,hx⟩
 refine Cy (EF _ _) ?_
 simp (disch := first | omega | (simp only [lnA,lnC,lnN,lnM,xj,u9]; omega)) only [↓wJ,↓wv]
 refine xk (xA hb a1 _) fun v c2 a2 ⟨m,e,m0,m1⟩ => ?_
 subst e
 simp (disch := first | omega | (simp only [lnA,lnC,lnN,lnM,xj,u9]; omega)) only [↓wJ,↓ws,↓wv,↓wy,↓ww]
 refine xk (xA hb a2 _) fun v c3 a3 ⟨m3,e,_,_⟩ => ?_
 subst e
 simp (disch := first | omega | (simp only [lnA,lnC,lnN,lnM,xj,u9]; omega)) only [↓wJ,↓ws,↓wv,↓wy,↓ww]
 refine xx (fun _ => ?_) fun _ => xx (fun _ => xn a3 ⟨⟨_,_,_,_,_⟩,rfl,zj⟩) fun _ => ?_
 ·refine xk (xA hb a3 _) fun v c4 a4 ⟨m4,e,_,_⟩ => ?_
  subst e
  simp (disch := first | omega | (simp only [lnA,lnC,lnN,lnM,xj,u9]; omega)) only [↓wJ,↓ws,↓wv,↓wy,↓ww]
  exact xn a4 ⟨⟨_,_,_,_,_⟩,rfl,zj⟩
 refine Cy (EF _ _) ?_
 simp (disch := first | omega | (simp only [lnA,lnC,lnN,lnM,xj,u9]; omega)) only [↓wJ,↓wv]
 refine xk (xA hb a3 _) fun v c4 a4 ⟨m4,e,_,_⟩ => ?_
 subst e
 simp (disch := first | omega | (simp only [lnA,lnC,lnN,lnM,xj,u9]; omega)) only [↓wJ,↓ws,↓wv,↓wy,↓ww]
 exact xn a4 ⟨⟨_,_,_,_,_⟩,rfl,zj⟩
def FT (p : List Nd) : Prop := ∀ x ∈ p,x.s.size <= 100
theorem GQ {p : List Nd} (h : FT p) : zd p := fun x hx => by have := h x hx; omega
def FQ (v : D) : Prop := ∃ p : List Nd,v = oP p /\ FT p /\ (p.length <= 15 \/ (p.length <= 3001 /\ ∀ x ∈ p,x.kind = 1))
theorem AF (hb : b.length < 4611686018427387904) {n : Int} (hn : n < 16) : ∀ (k i : Nat) (c : Int × Int) (p : List Nd),(i : Int) + k = n -> xK b c -> FT p -> p.length <= i -> 0 < i -> y7 b (fun v => ∃ p : List Nd,v = oP p /\ FT p /\ p.length <= 15) (xW n (i : Int) (b.map eB) c.1 c.2 (p.map eN))
 | 0,i,c,p,hi,hc,hp,hl,h0 => by
  rw [yF]
  simp (disch := first | omega | (simp only [lnA,lnC,lnN,lnM,xj,u9]; omega)) only [↓vW,xd]
  exact xn hc ⟨p,rfl,hp,by omega⟩
 | k + 1,i,c,p,hi,hc,hp,hl,h0 => by
  rw [yF,vX (decide_eq_true (by omega))]
  refine xk (Gv hb hc _) fun v c1 a1 ⟨x,e,hx⟩ => ?_
  subst e
  simp (disch := first | omega | (simp only [lnA,lnC,lnN,lnM,xj,u9]; omega)) only [↓vc,vq,↓wJ,↓ws,↓wv,↓wz,↓wx,↓wy,↓vG,↓ww,wS,Az (p := p) (by omega) x]
  refine AF hb hn k (i + 1) c1 (p ++ [x]) (by omega) a1 ?_ (by simp; omega) (by omega)
  intro y hy
  rcases List.mem_append.1 hy with hy | hy
  ·exact hp y hy
  ·simp at hy; subst hy; exact hx
theorem G7 (hb : b.length < 4611686018427387904) (h : xK b c) : y7 b (fun v => ∃ p : List Nd,v = oP p /\ FT p /\ p.length <= 15) (V 30 [eC b c]) := by
 rw [Bh]
 refine xk (xA hb h _) fun v c1 a1 ⟨m,e,m0,m1⟩ => ?_
 subst e
 have := m1 (by omega)
 simp (disch := first | omega | (simp only [lnA,lnC,lnN,lnM,xj,u9]; omega)) only [↓wJ,↓ws,↓wv,↓wy,↓ww]
 rw [z0]
 refine xx (fun h0 => ?_) fun _ => xn a1 ⟨[],rfl,fun x hx => by simp at hx,by simp⟩
 have h0 := of_decide_eq_true h0
 refine xk (Gv hb a1 _) fun v c2 a2 ⟨x,e,hx⟩ => ?_
 subst e
 have ha : V 24 [.op [.os (5,0) []],eN x] = some (iN 0,[rP [x]]) := Az (p := []) (by simp) x
 simp (disch := first | omega | (simp only [lnA,lnC,lnN,lnM,xj,u9]; omega)) only [↓vc,vq,↓wJ,↓ws,↓wv,↓wz,↓wx,↓wy,↓vG,↓ww,Int.reduceAdd,wS,ha]
 obtain ⟨k,hk⟩ := Int.eq_ofNat_of_zero_le (show 0 <= m - 1 by omega)
 exact AF hb (by omega) k 1 c2 [x] (by simp; omega) a2 (by simpa [FT] using hx) (by simp) (by omega)
theorem G9 (hb : b.length < 4611686018427387904) (h : xK b c) {x : Nd} (hx : x.s.size <= 100) : y7 b IJ (V 31 [eC b c,eN x]) := by
 rw [Dn]
 refine xk (xA hb h _) fun v c1 a1 ⟨m,e,m0,m1⟩ => ?_
 subst e
 simp (disch := first | omega | (simp only [lnA,lnC,lnN,lnM,xj,u9]; omega)) only [↓wJ,↓ws,↓wv,↓wy,↓ww]
 refine xx (fun _ => ?_) fun _ => xx (fun _ => ?_) fun _ => xx (fun _ => ?_) fun _ => xx (fun _ => ?_) fun _ => xx (fun _ => ?_) fun _ => xn a1 ⟨x,rfl,hx⟩
 ·refine xk (xA hb a1 _) fun v c2 a2 ⟨m2,e,_,_⟩ => ?_
  subst e
  simp (disch := first | omega | (simp only [lnA,lnC,lnN,lnM,xj,u9]; omega)) only [↓wJ,↓ws,↓wv,↓wy,↓ww]
  exact xn a2 ⟨⟨m2,x.n,x.s,x.a,x.b⟩,rfl,hx⟩
 ·refine xk (xA hb a1 _) fun v c2 a2 ⟨m2,e,_,h2⟩ => ?_
  subst e
  have := h2 (by omega)
  simp (disch := first | omega | (simp only [lnA,lnC,lnN,lnM,xj,u9]; omega)) only [↓wJ,↓ws,↓wv,↓wy,↓ww]
  exact xn a2 ⟨⟨x.kind,x.n,x.s,w6 (m2 - 1),x.b⟩,rfl,hx⟩
 ·refine xk (xA hb a1 _) fun v c2 a2 ⟨m2,e,_,h2⟩ => ?_
  subst e
  have := h2 (by omega)
  simp (disch := first | omega | (simp only [lnA,lnC,lnN,lnM,xj,u9]; omega)) only [↓wJ,↓ws,↓wv,↓wy,↓ww]
  exact xn a2 ⟨⟨x.kind,x.n,x.s,x.a,w6 (m2 - 1)⟩,rfl,hx⟩
 ·refine xk (FU hb a1 [-1,2,99,100,1000000000,1000000001,-1000000000,-1000000001] (by simp)) fun v c2 a2 ⟨m2,e,_⟩ => ?_
  subst e
  simp (disch := first | omega | (simp only [lnA,lnC,lnN,lnM,xj,u9]; omega)) only [↓wJ,↓ws,↓wv,↓wy,↓ww]
  exact xn a2 ⟨⟨x.kind,m2,x.s,x.a,x.b⟩,rfl,hx⟩
 ·refine xk (Ay hb a1 [⟨#[]⟩,⟨#[97]⟩,⟨#[65,98]⟩,⟨#[97,98,99,100,101,102,103,104,105,106,107,108]⟩,⟨#[97,98,99,100,101,102,103,104,105,106,107,108,109]⟩,⟨#[97,49]⟩] (by simp)) fun v c2 a2 ⟨m2,e,hm⟩ => ?_
  subst e
  simp (disch := first | omega | (simp only [lnA,lnC,lnN,lnM,xj,u9]; omega)) only [↓wJ,↓ws,↓wv,↓wz,↓wy,↓ww]
  refine xn a2 ⟨⟨x.kind,x.n,m2,x.a,x.b⟩,rfl,?_⟩
  show m2.size <= 100
  simp only [List.mem_cons,List.not_mem_nil,or_false] at hm
  rcases hm with rfl | rfl | rfl | rfl | rfl | rfl <;> decide
theorem Gu (hb : b.length < 4611686018427387904) (h : xK b c) {N : Nat} (hN : N <= 3001) : ∀ (k i : Nat) (q : List Nd),i + k = N -> q.length = N -> FT q -> (∀ (j : Nat) (x : Nd),j < i -> q[j]? = some x -> x.kind = 1) -> y7 b FQ (xR (i : Int) (b.map eB) c.1 c.2 (q.map eN))
 | 0,i,q,hi,hq,hs,hk => by
  rw [zw]
  simp (disch := first | omega | (simp only [lnA,lnC,lnN,lnM,xj,u9]; omega)) only [↓vW,xd,lnM,u9]
  refine xn h ⟨q,rfl,hs,.inr ⟨by omega,fun x hx => ?_⟩⟩
  obtain ⟨j,hj⟩ := List.getElem?_of_mem hx
  exact hk j x (by have := aQ hj; omega) hj
 | k + 1,i,q,hi,hq,hs,hk => by
  obtain ⟨x,hx⟩ := vI (l := q) (i := i) (by omega)
  have e : (D.agg (List.take 0 [iN x.kind,iN x.n,.str x.s,iN x.a,iN x.b] ++ [iN 1] ++ List.drop 1 [iN x.kind,iN x.n,.str x.s,iN x.a,iN x.b])) = eN ⟨1,x.n,x.s,x.a,x.b⟩ := rfl
  rw [zw,vX (decide_eq_true (by rw [lnM]; simp only [ni]; omega)),wT (by rw [lnM]; exact wW (by omega)),Int.toNat_natCast,wk hx,vG,wY,xh (by omega),e,<- List.map_set]
  refine Gu hb h hN k (i + 1) _ (by omega) (by simp; omega) ?_ ?_
  ·intro y hy
   rcases List.mem_or_eq_of_mem_set hy with hy | hy
   ·exact hs y hy
   ·rw [hy]; exact hs x (List.mem_of_getElem? hx)
  ·intro j y hj hy
   by_cases e : i = j
   ·subst e
    rw [List.getElem?_set_self (by omega)] at hy
    cases hy; rfl
   ·rw [List.getElem?_set_ne e] at hy
    exact hk j y (by omega) hy
theorem IZ (hb : b.length < 4611686018427387904) (h : xK b c) : y7 b FQ (V 12 [eC b c]) := by
 have fin : ∀ {c : Int × Int} {k : Nat},xK b c -> k < 2 -> y7 b FQ (grd (decide (0 <= w6 (3000 + (k : Int))) && decide (w6 (3000 + (k : Int)) <= LIM)) (xR 0 (b.map eB) c.1 c.2 (List.replicate (Int.toNat (w6 (3000 + (k : Int)))) (D.agg [iN 0,iN 0,D.str ⟨#[]⟩,iN 0,iN 0])))) := by
  intro c k h hk
  rw [w64 (by omega) (by omega),wT (by rw [nV]; simp only [Bool.and_eq_true,decide_eq_true_eq]; omega)]
  have e2 : (3000 + (k : Int)).toNat = 3000 + k := by omega
  have e3 : List.replicate (3000 + k) (D.agg [iN 0,iN 0,D.str ⟨#[]⟩,iN 0,iN 0]) = (List.replicate (3000 + k) (⟨0,0,⟨#[]⟩,0,0⟩ : Nd)).map eN := by rw [List.map_replicate]
  rw [e2,e3]
  refine Gu hb h (N := 3000 + k) (by omega) (3000 + k) 0 _ (by omega) (by simp) ?_ (fun j x h _ => by omega)
  intro x hx
  rw [(List.mem_replicate.1 hx).2]
  exact zj
 rw [Eh]
 refine xk (G7 hb h) fun v c1 a1 ⟨p,e,hp,hl⟩ => ?_
 subst e
 simp (disch := first | omega | (simp only [lnA,lnC,lnN,lnM,xj,u9]; omega)) only [↓wJ,↓ws,↓wv,↓wx,↓wy,↓vG,↓ww,↓wY]
 refine xx (fun h0 => ?_) fun _ => ?_
 ·have h0 := of_decide_eq_true h0
  rw [lnM] at h0
  refine xk (yA hb a1 12) fun v c2 a2 ⟨o,e⟩ => ?_
  subst e
  simp (disch := first | omega | (simp only [lnA,lnC,lnN,lnM,xj,u9]; omega)) only [↓wJ,↓ws,↓wv,↓vV,↓wy,↓ww]
  refine xx (fun _ => ?_) fun _ => ?_
  ·refine xk (xA hb a2 _) fun v c3 a3 ⟨m,e,m0,m1⟩ => ?_
   subst e
   have hm := m1 (by rw [lnM]; exact h0)
   rw [lnM] at hm
   obtain ⟨k,hk⟩ := Int.eq_ofNat_of_zero_le m0
   subst hk
   obtain ⟨x,hx⟩ := vI (l := p) (i := k) (by simp only [ni] at hm; omega)
   simp (disch := first | omega | (simp only [lnA,lnC,lnN,lnM,xj,u9]; omega)) only [↓wJ,↓ws,↓wv,↓wy,↓ww]
   rw [wT (by rw [lnM]; exact wW (by simp only [ni] at hm; omega)),Int.toNat_natCast,wk hx,vG,ws,wv,ws,wv,ws,wz,ws,wv,ws,wv,wJ]
   refine xk (G9 hb a3 (hp x (List.mem_of_getElem? hx))) fun v c4 a4 ⟨y,e,hy⟩ => ?_
   subst e
   simp (disch := first | omega | (simp only [lnA,lnC,lnN,lnM,xj,u9]; omega)) only [↓wJ,↓ws,↓wv,↓wz,↓wy,↓vG,↓ww]
   rw [wT (by rw [lnM]; exact wW (by simp only [ni] at hm; omega)),wk hx]
   have e : List.set (p.map eN) k (D.agg [iN y.kind,iN y.n,.str y.s,iN y.a,iN y.b]) = (p.set k y).map eN := by rw [List.map_set]
   rw [e]
   refine xk (yA hb a4 60) fun v c5 a5 ⟨o,e⟩ => ?_
   subst e
   simp (disch := first | omega | (simp only [lnA,lnC,lnN,lnM,xj,u9]; omega)) only [↓wJ,↓ws,↓wv,↓vV,↓wy,↓ww]
   refine xx (fun _ => ?_) fun _ => xn a5 ⟨p.set k y,rfl,?_,.inl (by simpa using hl)⟩
   ·refine xk (xA hb a5 _) fun v c6 a6 ⟨m,e,m0,m1⟩ => ?_
    subst e
    have := m1 (by omega)
    obtain ⟨k,hk⟩ := Int.eq_ofNat_of_zero_le m0
    subst hk
    simp (disch := first | omega | (simp only [lnA,lnC,lnN,lnM,xj,u9]; omega)) only [↓wJ,↓ws,↓wv,↓wy,↓ww]
    exact fin a6 (by omega)
   ·intro z hz
    rcases List.mem_or_eq_of_mem_set hz with hz | hz
    ·exact hp z hz
    ·rw [hz]; exact hy
  ·refine xk (yA hb a2 60) fun v c5 a5 ⟨o,e⟩ => ?_
   subst e
   simp (disch := first | omega | (simp only [lnA,lnC,lnN,lnM,xj,u9]; omega)) only [↓wJ,↓ws,↓wv,↓vV,↓wy,↓ww]
   refine xx (fun _ => ?_) fun _ => xn a5 ⟨p,rfl,hp,.inl hl⟩
   refine xk (xA hb a5 _) fun v c6 a6 ⟨m,e,m0,m1⟩ => ?_
   subst e
   have := m1 (by omega)
   obtain ⟨k,hk⟩ := Int.eq_ofNat_of_zero_le m0
   subst hk
   simp (disch := first | omega | (simp only [lnA,lnC,lnN,lnM,xj,u9]; omega)) only [↓wJ,↓ws,↓wv,↓wy,↓ww]
   exact fin a6 (by omega)
 ·refine xk (yA hb a1 60) fun v c5 a5 ⟨o,e⟩ => ?_
  subst e
  simp (disch := first | omega | (simp only [lnA,lnC,lnN,lnM,xj,u9]; omega)) only [↓wJ,↓ws,↓wv,↓vV,↓wy,↓ww]
  refine xx (fun _ => ?_) fun _ => xn a5 ⟨p,rfl,hp,.inl hl⟩
  refine xk (xA hb a5 _) fun v c6 a6 ⟨m,e,m0,m1⟩ => ?_
  subst e
  have := m1 (by omega)
  obtain ⟨k,hk⟩ := Int.eq_ofNat_of_zero_le m0
  subst hk
  simp (disch := first | omega | (simp only [lnA,lnC,lnN,lnM,xj,u9]; omega)) only [↓wJ,↓ws,↓wv,↓wy,↓ww]
  exact fin a6 (by omega)
end
theorem Im {p : List Nd} (h : p.length <= 15 \/ (p.length <= 3001 /\ ∀ x ∈ p,x.kind = 1)) : p.length <= 3001 := by omega
end
end Go.Eng
/-! what is written is well formed; the law -/
namespace Go.Eng
open Go.Proofs Go.Proofs.Try
set_option maxHeartbeats 4000000

end Go.Eng
/-! what is written is well formed: the law -/
namespace Go.Eng
open Go.Proofs Go.Proofs.Try
set_option maxHeartbeats 4000000

noncomputable def TxB : Nat -> Nat
 | 0 => 12
 | d + 1 => 2 + 5 * (2 + TxB d)
theorem xB (a b : ByteArray) : (a ++ b).size = a.size + b.size := ByteArray.size_append
noncomputable def IsT (n : Nat) (v : D) : Prop := ∃ s : ByteArray,v = .str s /\ s.size <= n
section
variable {b : List Int}
theorem Gw (hb : b.length < 4611686018427387904) {c : Int × Int} (h : xK b c) : y7 b (IsT 12) (V 32 [eC b c,.rs (1,0) [(.str ({ data := #[97] })),(.str ({ data := #[98,99] })),(.str ({ data := #[49,50] })),(.str ({ data := #[45,51] })),(.str ({ data := #[48] })),(.str ({ data := #[35,116] })),(.str ({ data := #[35,102] })),(.str ({ data := #[40,41] })),(.str ({ data := #[43] })),(.str ({ data := #[105,102] })),(.str ({ data := #[120] })),(.str ({ data := #[110,117,108,108,63] })),(.str ({ data := #[49,48,48,48,48,48,48,48,48,48] }))]]) := by
 refine BH (Ay hb h [⟨#[97]⟩,⟨#[98,99]⟩,⟨#[49,50]⟩,⟨#[45,51]⟩,⟨#[48]⟩,⟨#[35,116]⟩,⟨#[35,102]⟩,⟨#[40,41]⟩,⟨#[43]⟩,⟨#[105,102]⟩,⟨#[120]⟩,⟨#[110,117,108,108,63]⟩,⟨#[49,48,48,48,48,48,48,48,48,48]⟩] (by simp)) ?_
 rintro v ⟨m,rfl,hm⟩
 refine ⟨m,rfl,?_⟩
 simp only [List.mem_cons,List.not_mem_nil,or_false] at hm
 rcases hm with rfl | rfl | rfl | rfl | rfl | rfl | rfl | rfl | rfl | rfl | rfl | rfl | rfl <;> decide
theorem G8 (hb : b.length < 4611686018427387904) {c : Int × Int} (h : xK b c) : y7 b (IsT 2) (V 32 [eC b c,.rs (1,0) [(.str ({ data := #[32] })),(.str ({ data := #[32] })),(.str ({ data := #[32,32] }))]]) := by
 refine BH (Ay hb h [⟨#[32]⟩,⟨#[32]⟩,⟨#[32,32]⟩] (by simp)) ?_
 rintro v ⟨m,rfl,hm⟩
 refine ⟨m,rfl,?_⟩
 simp only [List.mem_cons,List.not_mem_nil,or_false] at hm
 rcases hm with rfl | rfl | rfl <;> decide
theorem z3 (hb : b.length < 4611686018427387904) {d : Nat} (hd : d <= 4) (hT : TxB d <= 100000) (hrec : ∀ c,xK b c -> y7 b (IsT (TxB d)) (V 13 [eC b c,iN (d : Int)])) {n : Nat} (hn : n <= 5) : ∀ (k i : Nat) (s : ByteArray) (c : Int × Int),i + k = n -> s.size <= 1 + i * (2 + TxB d) -> xK b c ->
  y7 b (IsT (2 + 5 * (2 + TxB d))) (xT ((d + 1 : Nat) : Int) s (n : Int) (i : Int) (b.map eB) c.1 c.2)
 | 0,i,s,c,hi,hs,hc => by
  have h5 : i * (2 + TxB d) <= 5 * (2 + TxB d) := Nat.mul_le_mul_right _ (by omega)
  have h1 : (⟨#[41]⟩ : ByteArray).size = 1 := rfl
  rw [yR,vi (decide_eq_false (by omega)),wT (decide_eq_true (by rw [nV,h1]; simp only [ni]; omega))]
  exact xn hc ⟨_,rfl,by rw [xB,h1]; omega⟩
 | k + 1,i,s,c,hi,hs,hc => by
  have h5 : i * (2 + TxB d) <= 5 * (2 + TxB d) := Nat.mul_le_mul_right _ (by omega)
  have h6 : (i + 1) * (2 + TxB d) = i * (2 + TxB d) + (2 + TxB d) := Nat.succ_mul _ _
  have ew : w6 (((d + 1 : Nat) : Int) - 1) = (d : Int) := by rw [w64 (by omega) (by omega)]; omega
  rw [yR,vX (decide_eq_true (by omega)),ew]
  refine xx (fun _ => ?_) fun _ => ?_
  ·refine xk (G8 hb hc) fun v c1 a1 ⟨m,e,hm⟩ => ?_
   subst e
   simp (disch := first | omega | (simp only [lnA,lnC,lnN,lnM,xj,u9]; omega)) only [↓wJ,↓ws,↓wv,↓wz,↓wy,↓ww]
   refine ye (decide_eq_true (by rw [nV]; simp only [ni]; omega)) ?_
   refine xk (hrec c1 a1) fun v c2 a2 ⟨m2,e,hm2⟩ => ?_
   subst e
   simp (disch := first | omega | (simp only [lnA,lnC,lnN,lnM,xj,u9]; omega)) only [↓wJ,↓ws,↓wv,↓wz,↓wy,↓ww]
   refine ye (decide_eq_true (by rw [nV]; simp only [ni,xB]; omega)) ?_
   rw [xh (by omega)]
   exact z3 hb hd hT hrec hn k (i + 1) (s ++ m ++ m2) c2 (by omega) (by rw [xB,xB]; omega) a2
  ·refine xk (hrec c hc) fun v c2 a2 ⟨m2,e,hm2⟩ => ?_
   subst e
   simp (disch := first | omega | (simp only [lnA,lnC,lnN,lnM,xj,u9]; omega)) only [↓wJ,↓ws,↓wv,↓wz,↓wy,↓ww]
   refine ye (decide_eq_true (by rw [nV]; simp only [ni]; omega)) ?_
   rw [xh (by omega)]
   exact z3 hb hd hT hrec hn k (i + 1) (s ++ m2) c2 (by omega) (by rw [xB]; omega) a2
theorem Jo : ∀ d,d <= 4 -> TxB d <= 100000 := by decide
theorem Jn : ∀ d,d <= 4 -> 12 <= TxB d := by decide
theorem DW (hb : b.length < 4611686018427387904) : ∀ (d : Nat),d <= 4 -> ∀ c,xK b c -> y7 b (IsT (TxB d)) (V 13 [eC b c,iN (d : Int)])
 | 0,_,c,hc => by
  rw [zO,vX (by rfl)]
  refine xk (Gw hb hc) fun v c1 a1 ⟨m,e,hm⟩ => ?_
  subst e
  simp (disch := first | omega | (simp only [lnA,lnC,lnN,lnM,xj,u9]; omega)) only [↓wJ,↓ws,↓wv,↓wz,↓wy,↓ww]
  exact xn a1 ⟨m,rfl,hm⟩
 | d + 1,hd,c,hc => by
  rw [zO,vi (decide_eq_false (by omega))]
  refine xk (yA hb hc 3) fun v c1 a1 ⟨o,e⟩ => ?_
  subst e
  simp (disch := first | omega | (simp only [lnA,lnC,lnN,lnM,xj,u9]; omega)) only [↓wJ,↓ws,↓wv,↓vV,↓wy,↓ww]
  refine xx (fun _ => ?_) fun _ => ?_
  ·refine xk (Gw hb a1) fun v c2 a2 ⟨m,e,hm⟩ => ?_
   subst e
   simp (disch := first | omega | (simp only [lnA,lnC,lnN,lnM,xj,u9]; omega)) only [↓wJ,↓ws,↓wv,↓wz,↓wy,↓ww]
   exact xn a2 ⟨m,rfl,by have := Jn (d + 1) hd; omega⟩
  ·refine xk (xA hb a1 5) fun v c2 a2 ⟨m,e,m0,m1⟩ => ?_
   subst e
   have := m1 (by omega)
   obtain ⟨n,rfl⟩ := Int.eq_ofNat_of_zero_le m0
   simp (disch := first | omega | (simp only [lnA,lnC,lnN,lnM,xj,u9]; omega)) only [↓wJ,↓ws,↓wv,↓wy,↓ww]
   exact z3 hb (d := d) (by omega) (Jo d (by omega)) (DW hb d (by omega)) (n := n) (by omega) n 0 ⟨#[40]⟩ c2 (by omega) (by show 1 <= _; omega) a2
end
end Go.Eng
/-! draws of texts: dents,and what is to be read -/
namespace Go.Eng
open Go.Proofs Go.Proofs.Try
set_option maxHeartbeats 4000000

theorem yi (s : ByteArray) (i j : Nat) : (s.extract i j).size <= s.size := by rw [ByteArray.size_extract]; omega
section
variable {b : List Int}
theorem IY (hb : b.length < 4611686018427387904) {c : Int × Int} (h : xK b c) {s : ByteArray} (hs : s.size <= 1000000) {l : List ByteArray} (hl : 0 < l.length) (hm : ∀ x ∈ l,x.size <= 100) :
  y7 b (IsT (2 * s.size + 100)) (V 15 [eC b c,.str s,.rs (1,0) (l.map D.str)]) := by
 have hw : w6 (ni s.size + 1) = ((s.size + 1 : Nat) : Int) := xh (by omega)
 rw [Ek,hw]
 refine xk (xA hb h _) fun v c1 a1 ⟨n,e,n0,n1⟩ => ?_
 subst e
 have n1 := n1 (by omega)
 obtain ⟨n,rfl⟩ := Int.eq_ofNat_of_zero_le n0
 simp (disch := first | omega | (simp only [lnA,lnC,lnN,lnM,xj,u9]; omega)) only [↓wJ,↓ws,↓wv,↓wy,↓ww]
 refine xk (xA hb a1 _) fun v c2 a2 ⟨m,e,m0,m1⟩ => ?_
 subst e
 simp (disch := first | omega | (simp only [lnA,lnC,lnN,lnM,xj,u9]; omega)) only [↓wJ,↓ws,↓wv,↓wy,↓ww]
 have x1 := yi s 0 n
 have x2 := yi s n s.size
 refine xx (fun _ => ?_) fun _ => xx (fun _ => ?_) fun _ => ?_
 ·refine ye (by unfold cG; simp; omega) ?_
  exact xn a2 ⟨_,rfl,by simp only [Int.toNat_natCast] at *; have := yi s 0 (Int.toNat (n : Int)); omega⟩
 ·refine ye (by unfold cG; simp; omega) ?_
  refine xk (Ay hb a2 l hl) fun v c3 a3 ⟨t,e,ht⟩ => ?_
  subst e
  have ht := hm t ht
  simp (disch := first | omega | (simp only [lnA,lnC,lnN,lnM,xj,u9]; omega)) only [↓wJ,↓ws,↓wv,↓wz,↓wy,↓ww]
  refine ye (decide_eq_true (by rw [nV]; simp only [ni]; have := yi s 0 (Int.toNat (n : Int)); omega)) ?_
  refine Cy (EF _ _) ?_
  simp (disch := first | omega | (simp only [lnA,lnC,lnN,lnM,xj,u9]; omega)) only [↓wJ,↓wv]
  have hmn : 0 <= mnI (w6 ((n : Int) + 1)) (ni s.size) /\ mnI (w6 ((n : Int) + 1)) (ni s.size) <= ni s.size := by
   rw [xh (by omega)]
   unfold mnI
   have hni : ni s.size = (s.size : Int) := rfl
   rw [hni]
   split <;> omega
  obtain ⟨k,hk⟩ := Int.eq_ofNat_of_zero_le hmn.1
  have hk2 := hmn.2
  rw [hk] at hk2 ⊢
  have hk3 : (k : Int) <= (s.size : Int) := hk2
  refine ye (by unfold cG; simp only [Bool.and_eq_true,decide_eq_true_eq]; omega) ?_
  refine ye (decide_eq_true (by rw [nV]; simp only [ni,xB]; have := yi s 0 (Int.toNat (n : Int)); have := yi s (Int.toNat (k : Int)) s.size; omega)) ?_
  exact xn a3 ⟨_,rfl,by rw [xB,xB]; have := yi s 0 (Int.toNat (n : Int)); have := yi s (Int.toNat (k : Int)) s.size; omega⟩
 ·refine ye (by unfold cG; simp; omega) ?_
  refine xk (Ay hb a2 l hl) fun v c3 a3 ⟨t,e,ht⟩ => ?_
  subst e
  have ht := hm t ht
  simp (disch := first | omega | (simp only [lnA,lnC,lnN,lnM,xj,u9]; omega)) only [↓wJ,↓ws,↓wv,↓wz,↓wy,↓ww]
  refine ye (decide_eq_true (by rw [nV]; simp only [ni]; have := yi s 0 (Int.toNat (n : Int)); omega)) ?_
  refine ye (by unfold cG; simp; omega) ?_
  refine ye (decide_eq_true (by rw [nV]; simp only [ni,xB]; have := yi s 0 (Int.toNat (n : Int)); have := yi s (Int.toNat (n : Int)) s.size; omega)) ?_
  exact xn a3 ⟨_,rfl,by rw [xB,xB]; have := yi s 0 (Int.toNat (n : Int)); have := yi s (Int.toNat (n : Int)) s.size; omega⟩
noncomputable def PT (v : D) (l : List D) : Prop := l = [] /\ ∃ (p : List Nd) (s : ByteArray),v = .tup [.agg [.os (5,0) (p.map eN)],.str s] /\ zd p /\ p.length <= 4000 /\ s.size <= 100000
theorem DV (hb : b.length < 4611686018427387904) {p : List Nd} (hf : zd p) (hl : p.length <= 4000) : ∀ (k : Nat) (s : ByteArray) (c : Int × Int),402 <= s.size + k -> s.size <= 404 -> xK b c -> Got PT (xt s (b.map eB) c.1 c.2 (p.map eN))
 | k,s,c,hk,hs,hc => by
  rw [Af]
  refine xk (xA hb hc 2) fun v c1 a1 ⟨n,e,n0,n1⟩ => ?_
  subst e
  have n1 := n1 (by omega)
  simp (disch := first | omega | (simp only [lnA,lnC,lnN,lnM,xj,u9]; omega)) only [↓wJ,↓ws,↓wv,↓wy,↓ww]
  have hw : w6 (400 + n) = 400 + n := w64 (by omega) (by omega)
  rw [hw]
  have z1 : (⟨#[97]⟩ : ByteArray).size = 1 := rfl
  have z2 : (⟨#[32]⟩ : ByteArray).size = 1 := rfl
  refine xx (fun h => ?_) fun _ => Ak ⟨rfl,p,s,rfl,hf,hl,by omega⟩
  have h := of_decide_eq_true h
  simp only [ni] at h
  match k with
  | 0 => omega
  | k + 1 =>
   refine ye (decide_eq_true (by rw [nV,z1]; simp only [ni]; omega)) ?_
   refine ye (by decide) ?_
   refine xx (fun _ => ?_) fun _ => ?_
   ·refine ye (decide_eq_true (by rw [nV,xB,z1,z2]; simp only [ni]; omega)) ?_
    exact DV hb hf hl k _ c1 (by rw [xB,xB,z1,z2]; omega) (by rw [xB,xB,z1,z2]; omega) a1
   ·exact DV hb hf hl k _ c1 (by rw [xB,z1]; omega) (by rw [xB,z1]; omega) a1
 termination_by k => k
theorem Gt (hb : b.length < 4611686018427387904) {c : Int × Int} (h : xK b c) {s : ByteArray} (hs : s.size <= 10000) : y7 b (IsT 100000) (V 15 [eC b c,.str s,.rs (1,0) [(.str ({ data := #[40] })),(.str ({ data := #[41] })),(.str ({ data := #[32] })),(.str ({ data := #[48,53] })),(.str ({ data := #[45] })),(.str ({ data := #[35] })),(.str ({ data := #[65] })),(.str ({ data := #[46] })),(.str ({ data := #[49,48,48,48,48,48,48,48,48,49] })),(.str ({ data := #[97,49] })),(.str ({ data := #[45,45,53] }))]]) := by
 refine BH (IY hb h (s := s) (by omega) (l := [⟨#[40]⟩,⟨#[41]⟩,⟨#[32]⟩,⟨#[48,53]⟩,⟨#[45]⟩,⟨#[35]⟩,⟨#[65]⟩,⟨#[46]⟩,⟨#[49,48,48,48,48,48,48,48,48,49]⟩,⟨#[97,49]⟩,⟨#[45,45,53]⟩]) (by simp) ?_) ?_
 ·intro x hx
  simp only [List.mem_cons,List.not_mem_nil,or_false] at hx
  rcases hx with rfl | rfl | rfl | rfl | rfl | rfl | rfl | rfl | rfl | rfl | rfl <;> decide
 ·rintro v ⟨t,rfl,ht⟩
  exact ⟨t,rfl,by omega⟩
theorem I0 (hb : b.length < 4611686018427387904) : Got PT (V 5 [.rs (1,0) (b.map eB)]) := by
 obtain ⟨c,e,hc⟩ := IP hb
 rw [CR]
 refine Cy e ?_
 simp (disch := first | omega | (simp only [lnA,lnC,lnN,lnM,xj,u9]; omega)) only [↓wJ,↓ws,↓wv,↓wy,↓ww]
 refine xk (IZ hb hc) fun v c1 a1 ⟨p,e,hp,hl⟩ => ?_
 subst e
 have hl := Im hl
 have hf := GQ hp
 have hlong : ∀ {c : Int × Int},xK b c -> Got PT (xt ⟨#[]⟩ (b.map eB) c.1 c.2 (p.map eN)) := fun h => DV hb hf (by omega) 402 ⟨#[]⟩ _ (by omega) (by decide) h
 have z2 : (⟨#[32]⟩ : ByteArray).size = 1 := rfl
 have t3 : TxB 3 = 1872 := by decide
 have t2 : TxB 2 = 372 := by decide
 simp (disch := first | omega | (simp only [lnA,lnC,lnN,lnM,xj,u9]; omega)) only [↓wJ,↓ws,↓wv,↓wx,↓wy,↓vG,↓ww]
 refine xk (DW hb 3 (by omega) c1 a1) fun v c2 a2 ⟨s,e,hs⟩ => ?_
 subst e
 rw [t3] at hs
 simp (disch := first | omega | (simp only [lnA,lnC,lnN,lnM,xj,u9]; omega)) only [↓wJ,↓ws,↓wv,↓wz,↓wy,↓ww]
 refine xk (yA hb a2 3) fun v c3 a3 ⟨o,e⟩ => ?_
 subst e
 simp (disch := first | omega | (simp only [lnA,lnC,lnN,lnM,xj,u9]; omega)) only [↓wJ,↓ws,↓wv,↓vV,↓wy,↓ww]
 refine xx (fun _ => ?_) fun _ => ?_
 ·refine ye (decide_eq_true (by rw [nV,z2]; simp only [ni]; omega)) ?_
  refine xk (DW hb 2 (by omega) c3 a3) fun v c4 a4 ⟨s2,e,hs2⟩ => ?_
  subst e
  rw [t2] at hs2
  simp (disch := first | omega | (simp only [lnA,lnC,lnN,lnM,xj,u9]; omega)) only [↓wJ,↓ws,↓wv,↓wz,↓wy,↓ww]
  refine ye (decide_eq_true (by rw [nV,xB,z2]; simp only [ni]; omega)) ?_
  have hsz : (s ++ ⟨#[32]⟩ ++ s2).size <= 10000 := by rw [xB,xB,z2]; omega
  refine xk (yA hb a4 3) fun v c5 a5 ⟨o,e⟩ => ?_
  subst e
  simp (disch := first | omega | (simp only [lnA,lnC,lnN,lnM,xj,u9]; omega)) only [↓wJ,↓ws,↓wv,↓vV,↓wy,↓ww]
  refine xx (fun _ => ?_) fun _ => ?_
  ·refine xk (Gt hb a5 hsz) fun v c6 a6 ⟨s3,e,hs3⟩ => ?_
   subst e
   simp (disch := first | omega | (simp only [lnA,lnC,lnN,lnM,xj,u9]; omega)) only [↓wJ,↓ws,↓wv,↓wz,↓wy,↓ww]
   refine xk (yA hb a6 40) fun v c7 a7 ⟨o,e⟩ => ?_
   subst e
   simp (disch := first | omega | (simp only [lnA,lnC,lnN,lnM,xj,u9]; omega)) only [↓wJ,↓ws,↓wv,↓vV,↓wy,↓ww]
   exact xx (fun _ => hlong a7) fun _ => Ak ⟨rfl,p,_,rfl,hf,by omega,hs3⟩
  ·refine xk (yA hb a5 40) fun v c7 a7 ⟨o,e⟩ => ?_
   subst e
   simp (disch := first | omega | (simp only [lnA,lnC,lnN,lnM,xj,u9]; omega)) only [↓wJ,↓ws,↓wv,↓vV,↓wy,↓ww]
   exact xx (fun _ => hlong a7) fun _ => Ak ⟨rfl,p,_,rfl,hf,by omega,by omega⟩
 ·have hsz : s.size <= 10000 := by omega
  refine xk (yA hb a3 3) fun v c5 a5 ⟨o,e⟩ => ?_
  subst e
  simp (disch := first | omega | (simp only [lnA,lnC,lnN,lnM,xj,u9]; omega)) only [↓wJ,↓ws,↓wv,↓vV,↓wy,↓ww]
  refine xx (fun _ => ?_) fun _ => ?_
  ·refine xk (Gt hb a5 hsz) fun v c6 a6 ⟨s3,e,hs3⟩ => ?_
   subst e
   simp (disch := first | omega | (simp only [lnA,lnC,lnN,lnM,xj,u9]; omega)) only [↓wJ,↓ws,↓wv,↓wz,↓wy,↓ww]
   refine xk (yA hb a6 40) fun v c7 a7 ⟨o,e⟩ => ?_
   subst e
   simp (disch := first | omega | (simp only [lnA,lnC,lnN,lnM,xj,u9]; omega)) only [↓wJ,↓ws,↓wv,↓vV,↓wy,↓ww]
   exact xx (fun _ => hlong a7) fun _ => Ak ⟨rfl,p,_,rfl,hf,by omega,hs3⟩
  ·refine xk (yA hb a5 40) fun v c7 a7 ⟨o,e⟩ => ?_
   subst e
   simp (disch := first | omega | (simp only [lnA,lnC,lnN,lnM,xj,u9]; omega)) only [↓wJ,↓ws,↓wv,↓vV,↓wy,↓ww]
   exact xx (fun _ => hlong a7) fun _ => Ak ⟨rfl,p,_,rfl,hf,by omega,by omega⟩
end
end Go.Eng
/-! what is built in: both sides -/
namespace Go.Eng
open Go.Proofs Go.Proofs.Try
set_option maxHeartbeats 4000000

theorem Ia {R : Type} {l : List Int} {v x : Int} (h0 : 0 <= v) (h : l[v.toNat]? = some x) (K : Int -> Option R) : grd (decide (0 <= v) && decide (v < ni (l.map eI).length)) (cD (l.map eI) v.toNat fun x => asI .i64 x fun n => K n) = K x := by
 have := aQ h
 rw [z4 h0 (by omega),List.getD_eq_getElem?_getD,h]; rfl
theorem Jp {R : Type} {a : Int} {r : List Int} (K : Int -> Option R) : grd (decide ((0 : Nat) <= 0) && decide ((0 : Int) < ni ((a :: r).map eI).length)) (cD ((a :: r).map eI) 0 fun x => asI .i64 x fun n => K n) = K a := Ia (l := a :: r) (v := 0) (by omega) rfl K
theorem I8 {x : Nd} {h : Int} (ho : okN x h = true) : x.s.size <= 12 := by
 have nz0 : nz x.s = true -> x.s.size <= 12 := by
  intro e
  unfold nz at e
  rw [yQ] at e
  rw [of_decide_eq_true e]; decide
 have nm : z5 x.s = true -> x.s.size <= 12 := by
  intro e
  unfold z5 at e
  simp only [Bool.and_eq_true] at e
  have := wi_iff.1 e.1
  omega
 unfold okN at ho
 repeat' split at ho
 all_goals first | cases ho | skip
 all_goals (simp only [Bool.and_eq_true] at ho; first | exact nz0 ho.2.1 | exact nm ho.2.1)
theorem AW {p : List Nd} (hp : AE p) : zd p := fun x hx => by
 obtain ⟨j,hj⟩ := List.getElem?_of_mem hx
 have := I8 (hp j x hj)
 omega
end Go.Eng
/-! what is read of a drawn text: the law -/
namespace Go.Eng
open Go.Proofs Go.Proofs.Try
set_option maxHeartbeats 4000000

theorem Gz {q : List Nd} (hq : xq q = true) {row : List Int} (hr : ∀ v ∈ row,0 <= v /\ Rv q false v.toNat) (hrl : row.length < 4000000000) (s : ByteArray) : ∀ (k i : Nat),i + k = row.length -> yb s (s.size : Int) (i : Int) (row.map eI) (q.map eN) = some (.bool true,[])
 | 0,i,hi => by
  have hl := yl hq
  have h1 := xH (AW (okPool_iff.1 hq).1) (by omega)
  rw [hq] at h1
  rw [zh,vi (by rw [lnM]; exact wQ (by omega)),vX (xa rfl),zA h1]
 | k + 1,i,hi => by
  have hl := yl hq
  have hf := AW (okPool_iff.1 hq).1
  obtain ⟨v,hv⟩ := vI (l := row) (i := i) (by omega)
  obtain ⟨v0,v1⟩ := hr v (List.mem_of_getElem? hv)
  have ih := Gz hq hr hrl s k (i + 1) (by omega)
  have h1 := EE hf (by omega) v
  have h2 : V 6 [eP q,.str (mk (ym q v))] = _ := Cp hf (by omega) (ym q v)
  have es : jt (mk (ym q v)) ⟨#[]⟩ = decide (ym q v = []) := by
   rw [yQ]
   exact decide_eq_decide.2 (Ic (a := ym q v) (b := []))
  rw [zh,vX (by rw [lnM]; exact wX (by omega)),wT (by rw [lnM]; exact wW (by omega)),Int.toNat_natCast,wk hv,wv,Gh h1,DH h2,es]
  by_cases hs : ym q v = []
  ·rw [vX (decide_eq_true hs),xh (by omega)]
   exact ih
  rw [vi (decide_eq_false hs)]
  rcases Gk hq v0 v1 hs with h6 | ⟨h0,u,hu,hsm,hok,iv,iu⟩
  ·rw [vX (xa h6),xh (by omega)]
   exact ih
  ·have ho3 := yl hok
   have h3 := FH (AW (okPool_iff.1 hok).1) (by omega) v u
   have hsf : GB (xQ q (ym q v)).1 v u = true := by
    unfold GB I4
    rw [hok,hsm,wi_iff.2 ⟨iv.1,by have := iv.2; omega⟩,wi_iff.2 ⟨iu.1,by have := iu.2; omega⟩]
    rfl
   rw [hsf] at h3
   rw [h0,hu,vi (w9 (by decide)),vi (xb rfl),vi (xb (by rfl)),wT (by rw [lnM]; exact wW (by omega)),wk hv,wv,Jp,GK h3,Bool.not_true,vW,xh (by omega)]
   exact ih
theorem Gc {b : List Int} (hb : b.length < 4611686018427387904) : V 3 [.rs (1,0) (b.map eB)] = some (.bool true,[]) := by
 obtain ⟨v,l,hd,rfl,p,s,rfl,hf,hl,hs⟩ := I0 hb
 have k1 : V 6 [eP p,.str (mk s.data.toList)] = _ := Cp hf (by omega) s.data.toList
 have k2 : V 7 [eP p,.str (mk s.data.toList)] = _ := FJ hf (by omega) s.data.toList
 rw [Gy] at k1 k2
 have hne : ∀ z : Int,(z != z) = false := fun z => by simp
 rw [D6,Ij (Jz b)]
 cases hbig : decide ((b.length : Int) > 1048576) with
 | true => rfl
 | false =>
  rw [vW]
  refine (vp hd _).trans ?_
  rw [vH,ws,vG,ws,wt,wJ,ws,wz,wJ,wJ]
  rw [DH k1,GL k2,vi (hne _),vi (hne _)]
  have hsz : s.data.toList.length = s.size := rfl
  by_cases h0 : (xQ p s.data.toList).2.2.1 = 0
  ·obtain ⟨r1,r2,r3⟩ := Iq h0
   have hlen := (GN hf s.data.toList).2
   rw [h0,vi (xb rfl),r3,hsz]
   exact Gz r2 r1 hlen s (xQ p s.data.toList).2.1.length 0 (by omega)
  ·obtain ⟨r1,r2,r3,r4⟩ := GM s.data.toList h0
   rw [vX (xc h0),r1,vX (by rfl),vX (decide_eq_true r2),vX (decide_eq_true (by rw [hsz] at r3; exact r3))]
   rcases r4 with r4 | r4
   ·rw [r4,vX (by simp)]
   ·rw [r4]
    cases p with
    | nil => rw [vX (by rfl)]
    | cons x p => rw [vi (w9 (by rw [lnM,lnM]; simp only [ni,lnN,lnC]; omega))]; rfl
theorem EP (xs : List D) (h : All2 (fun t x => ShapeV Try.prog t x) Try.f3.params.toList xs) : V 3 xs = some (.bool true,[]) := by
 rw [Try.params3] at h
 cases h with | cons h1 h =>
 cases h
 obtain ⟨b,rfl,hb⟩ := GY h1
 exact Gc hb
end Go.Eng
