/- the program and the reference on plain data, part 4 -/
import Derived.Test.YtkndfhaehnfnmaaPart3
import Derived.Test.YtkndfhaehnfnmaaPart1
import Derived.Test.YtkndfhaehnfnmaaPart2
import Derived.Test.YtkndfhaehnfnmaaEngC
/-! a step of a machine: the program's side: calls -/
namespace Go.Eng
open Go.Proofs Go.Proofs.Try
set_option maxHeartbeats 4000000

theorem SQ {R : Type} (x : Df) (K : ByteArray -> Int -> Int -> Option R) : Qd (eDf x) (fun n4 n7 n10 => (K n4 n7 n10)) = K x.name x.at' x.args := rfl
theorem Jp {α : Type} {f : α -> D} {l : List α} {k : Int} (h : (l.length : Int) = k) : ni (l.map f).length = k := by rw [lnM]; exact h
theorem QQ {α : Type} {f : α -> D} {l : List α} {k : Int} (h : ¬ (l.length : Int) = k) : ¬ ni (l.map f).length = k := by rw [lnM]; exact h
theorem Aq {c : Cd} (hc : c.list.length <= 400) (n : Int) : V 48 [eCd c,iN n] = some (.bool (zF c n),[]) := KV (by omega) n
theorem Nq {c : Cd} (hf : FitsC c) (hc : yp c = true) {m : Mc} (hl : m.pool.length < 4294967200) (s : ByteArray) : Fw c (V 74 [eSt c m,.str s]) (Jb c m s) := by
 have hd := Dl hf s
 have c2 := (y4 hc).2.1
 rw [DQ,Jv hd]
 unfold Jb
 by_cases h0 : 0 <= Ay c s
 ·obtain ⟨d,hg⟩ := Kx h0
  have hok := KN hc hg
  unfold PQ at hok
  simp only [Bool.and_eq_true] at hok
  have a1 := wi_iff.1 hok.2.2.1
  have a2 := wi_iff.1 hok.2.2.2
  have hlt := aQ hg
  have h1 := AY (p := m.pool) (by omega) ndN
  have h2 := AY (p := m.pool ++ [ndN]) (by simp; omega) (ndF (8 * d.at' + d.args) m.pool.length)
  have h3 := AP (c := c) (m := ⟨m.pool ++ [ndN] ++ [ndF (8 * d.at' + d.args) m.pool.length],m.at',m.s,m.e,m.d,m.state,m.ask,m.arg⟩) (by simp; omega) (m.pool.length + 1)
  have e1 : w6 (w6 (8 * d.at') + d.args) = 8 * d.at' + d.args := by rw [w64 (n := 8 * d.at') (by omega) (by omega),w64 (by omega) (by omega)]
  have e2 : ((m.pool ++ [ndN]).length : Int) = m.pool.length + 1 := by simp
  rw [e2] at h2
  rw [if_pos h0,wK (decide_eq_true h0),xu (by rw [lnM]; simp only [ni,Bool.and_eq_true,decide_eq_true_eq]; omega),w8 hg,SQ]
  simp only [List.getD_eq_getElem?_getD,hg,Option.getD_some]
  show _ = _
  rw [yd h1,e1,yd h2,yH h3]
 ·rw [if_neg h0,vQ (decide_eq_false h0)]
  have hp := Kn s
  have hb := FU s
  rw [MH hp]
  by_cases hz : AU s = 0
  ·rw [if_pos hz,wK (xG hz)]
   exact ⟨by decide,m,rfl⟩
  ·have h1 := AY (p := m.pool) (by omega) (ndR (AU s))
   have h3 := AP (c := c) (m := ⟨m.pool ++ [ndR (AU s)],m.at',m.s,m.e,m.d,m.state,m.ask,m.arg⟩) (by simp; omega) m.pool.length
   rw [if_neg hz,vQ (xF hz),yd h1,yH h3]
   rfl
theorem Ox {c : Cd} (hc : c.list.length <= 400) {m : Mc} (hl : m.pool.length < 4294967200) (ha : zF c m.at' = true) {f : Nd} (hf : 0 <= f.n /\ f.n <= 1000000000) {l : List Int} (_ : l.length <= 10) : Fw c (V 81 [eSt c m,eN f,.rs (1,0) (l.map eI)]) (DT c m f l) := by
 have hpl := isPl_iff.1 ha
 have t1 : Int.tmod f.n 8 = f.n % 8 := Int.tmod_eq_emod_of_nonneg hf.1
 have t2 : Int.tdiv f.n 8 = f.n / 8 := Int.tdiv_eq_ediv_of_nonneg hf.1
 rw [EW,xu (by decide),t1,t2]
 unfold DT
 by_cases h1 : f.n % 8 = (l.length : Int)
 ·rw [if_neg (by omega),vQ (xH (by rw [Jp rfl]; exact h1)),xu (by decide),w64 (n := f.n / 8) (by omega) (by omega),yl (Aq hc _)]
  cases h2 : zF c (f.n / 8) with
  | false => rw [if_pos rfl]; exact ⟨by decide,m,rfl⟩
  | true =>
   rw [if_neg (by simp),Bool.not_true,wJ,w64 (n := m.at' + 1) (by omega) (by omega)]
   have a1 := AY (p := m.pool) (by omega) (ndI (m.at' + 1))
   have l1 := CN (m.pool ++ [ndI (m.at' + 1)]) [(m.pool.length : Int),m.s,m.e]
   simp only [lnA,lnC,lnN] at l1
   have a2 : V 57 [rP (m.pool ++ [ndI (m.at' + 1)]),.rs (1,0) [iN (m.pool.length : Int),iN m.s,iN m.e]] = _ := JV (q := m.pool ++ [ndI (m.at' + 1)]) (row := [(m.pool.length : Int),m.s,m.e]) (by simp only [lnA,lnC,lnN]; omega)
   have a3 := LN (q := (xT (m.pool ++ [ndI (m.at' + 1)]) [(m.pool.length : Int),m.s,m.e]).1) (by omega) (xT (m.pool ++ [ndI (m.at' + 1)]) [(m.pool.length : Int),m.s,m.e]).2 m.d
   rw [yd a1,Ac a2,Ba a3]
   generalize hB : xT (m.pool ++ [ndI (m.at' + 1)]) [(m.pool.length : Int),m.s,m.e] = B at l1 ⊢
   have l2 := CN (B.1 ++ [ndP B.2 m.d]) l
   simp only [lnA,lnC,lnN] at l2
   have a4 := JV (q := B.1 ++ [ndP B.2 m.d]) (row := l) (by simp only [lnA,lnC,lnN]; omega)
   have a5 := LN (q := (xT (B.1 ++ [ndP B.2 m.d]) l).1) (by omega) (xT (B.1 ++ [ndP B.2 m.d]) l).2 f.a
   have a6 := AY (p := (xT (B.1 ++ [ndP B.2 m.d]) l).1 ++ [ndP (xT (B.1 ++ [ndP B.2 m.d]) l).2 f.a]) (by simp only [lnA,lnC,lnN]; omega) ndN
   have e6 : (((xT (B.1 ++ [ndP B.2 m.d]) l).1 ++ [ndP (xT (B.1 ++ [ndP B.2 m.d]) l).2 f.a]).length : Int) = (xT (B.1 ++ [ndP B.2 m.d]) l).1.length + 1 := by simp
   rw [e6] at a6
   rw [Ac a4,Ba a5,yd a6,xu (by decide)]
   rfl
 ·rw [if_pos h1,wK (xI (by rw [Jp rfl]; exact h1))]
  exact ⟨by decide,m,rfl⟩
theorem Mr {c : Cd} {p : List Nd} {v : Int} {many : Nat} {xs : List Int} {b : Bool} (h : Cm p v = (xs,b)) (hm : 0 < many) : DU c p v many = if b = true /\ xs.length = many /\ (nod p (xs.getD 0 0)).kind = 3 /\ zF c (nod p (xs.getD 0 0)).n = true then some ((nod p (xs.getD 0 0)).n,xs.drop 1) else none := by
 unfold DU
 rw [h]
 cases b with
 | false => rw [if_neg (fun h => by simp at h)]; cases xs <;> rfl
 | true =>
  cases xs with
  | nil => rw [if_neg (fun h => by have := h.2.1; simp at this; omega)]
  | cons a r =>
   simp only [lnC,List.getD_cons_zero,true_and,List.drop_one,List.tail_cons]
theorem Nr {c : Cd} (hc : c.list.length <= 400) {m : Mc} (hp : yb m.pool) (hl : m.pool.length < 2147483648) {st : Int} (hs : InP m.pool st) {l : List Int} (hll : l.length <= 10) : Fw c (V 83 [eSt c m,iN st,.rs (1,0) (l.map eI)]) (MW c m st l) := by
 have hlst := C7 hp hl hs
 have hin := Dd hp hs
 rw [DR]
 unfold MW
 by_cases h1 : l.length = 1
 ·rw [if_neg (by omega),vQ (xH (Jp (by omega))),zb hlst]
  obtain ⟨v,rfl⟩ : ∃ v,l = [v] := by
   match l,h1 with
   | [v],_ => exact ⟨v,rfl⟩
   | [],h => simp at h
   | _ :: _ :: _,h => simp at h
  rcases hq : Cm m.pool st with ⟨xs,b⟩
  have hfr := Mr (c := c) hq (many := 4) (by omega)
  rw [hq] at hin
  have none : ∀ {X : Option Ret},¬ (b = true /\ xs.length = 4 /\ (nod m.pool (xs.getD 0 0)).kind = 3 /\ zF c (nod m.pool (xs.getD 0 0)).n = true) -> X = some (iN 7,[eSt c m]) -> Fw c X (match DU c m.pool st 4 with
    | some (n,[s,e,d]) => .ok (JF ⟨m.pool,n,s,e,d,m.state,m.ask,m.arg⟩ ([v].getD 0 0))
    | _ => .error 7) := by
   intro X hn hX
   rw [hfr,if_neg hn]
   exact ⟨by decide,m,hX⟩
  cases b with
  | false => exact none (fun h => by simp at h) rfl
  | true =>
   rw [Bool.not_true,wJ]
   by_cases h4 : xs.length = 4
   ·obtain ⟨a,s,e,d,rfl⟩ : ∃ a s e d,xs = [a,s,e,d] := by
     match xs,h4 with
     | [a,s,e,d],_ => exact ⟨a,s,e,d,rfl⟩
     | [],h => simp at h
     | [_],h => simp at h
     | [_,_],h => simp at h
     | [_,_,_],h => simp at h
     | _ :: _ :: _ :: _ :: _ :: _,h => simp at h
    have ha := hin a (by simp)
    rw [vQ (xH (Jp (k := 4) rfl)),zr,KZ ha]
    by_cases h3 : (nod m.pool a).kind = 3
    ·rw [vQ (xH h3),zr,Qq ha,yl (Aq hc _)]
     cases h5 : zF c (nod m.pool a).n with
     | false => exact none (fun h => by have := h.2.2.2; simp only [List.getD_cons_zero,h5] at this; cases this) rfl
     | true =>
      have a3 := AP (c := c) (m := ⟨m.pool,(nod m.pool a).n,s,e,d,m.state,m.ask,m.arg⟩) (by show m.pool.length < _; omega) v
      rw [hfr,if_pos ⟨rfl,rfl,h3,h5⟩,Bool.not_true,wJ,zr,Qq ha,Dc,Lv,QH,zr,yH a3]
      rfl
    ·rw [wK (xI h3)]
     exact none (fun h => h3 h.2.2.1) rfl
   ·rw [wK (xI (QQ (l := xs) (k := 4) (fun h => h4 (by omega))))]
    exact none (fun h => h4 h.2.1) rfl
 ·rw [if_pos h1,wK (xI (QQ (l := l) (k := 1) (fun h => h1 (by omega))))]
  exact ⟨by decide,m,rfl⟩
theorem Au {c : Cd} {X : Option Ret} {m : Mc} (h : Fw c X (.ok m)) : X = some (iN 0,[eSt c m]) := h
theorem zL {c : Cd} {X : Option Ret} {h : Int} (e : Fw c X (.error h)) : h ≠ 0 /\ ∃ m',X = some (iN h,[eSt c m']) := e
theorem KX {c : Cd} (hc : c.list.length <= 400) : ∀ (k : Nat) {m : Mc} {f : Int} {l : List Int},RunM c m -> zF c (m.at' + 1) = true -> m.pool.length + 100 * k < 2147483600 -> InP m.pool f -> (∀ v ∈ l,InP m.pool v) -> l.length <= 4 -> ((nod m.pool f).n = 11 -> l.length = 2 -> xR m.pool = true) -> Aj c k m f l ≠ .error 0 ->
  Fw c (V 70 [eSt c m,iN f,.rs (1,0) (l.map eI)]) (Aj c k m f l)
 | 0,m,f,l,h,hnx,hl,hf,hv,h4,h11,h0 => absurd rfl h0
 | k + 1,m,f,l,h,hnx,hl,hf,hv,h4,h11,h0 => by
  have hok := D5 h.gm.ok hf
  have hpl := isPl_iff.1 h.pl
  rw [FI,DH hf]
  unfold Aj at h0 ⊢
  simp only at h0 ⊢
  by_cases h6 : (nod m.pool f).kind = 6
  ·rw [if_pos h6,wK (xG h6)]
   have hfn : 0 <= (nod m.pool f).n /\ (nod m.pool f).n <= 1000000000 := by
    simp [okN,h6] at hok
    exact wi_iff.1 hok.1
   have he := Ox hc (m := m) (by omega) h.pl (f := nod m.pool f) hfn (l := l) (by omega)
   cases hr : DT c m (nod m.pool f) l with
   | ok m' => rw [hr] at he; rw [CU (Au he)]; rfl
   | error q =>
    rw [hr] at he
    obtain ⟨q0,m',hx⟩ := zL he
    rw [CU hx]
    exact ⟨q0,m',rfl⟩
  rw [if_neg h6] at h0 ⊢
  rw [vQ (xF h6)]
  by_cases h8 : (nod m.pool f).kind = 8
  ·rw [if_pos h8] at h0 ⊢
   rw [wK (xG h8)]
   -- what is built in
   have prim : Fw c (V 82 [eSt c m,iN (nod m.pool f).n,.rs (1,0) (l.map eI)]) (if yf (nod m.pool f).n ≠ (l.length : Int) then .error 2
     else if (nod m.pool f).n = 18 then
      Aj c k ⟨(xT (m.pool ++ [ndI (m.at' + 1)]) [(m.pool.length : Int),m.s,m.e,m.d]).1 ++ [ndK (xT (m.pool ++ [ndI (m.at' + 1)]) [(m.pool.length : Int),m.s,m.e,m.d]).2],m.at',m.s,m.e,m.d,m.state,m.ask,m.arg⟩ (l.getD 0 0) [((xT (m.pool ++ [ndI (m.at' + 1)]) [(m.pool.length : Int),m.s,m.e,m.d]).1.length : Int)]
     else if (nod m.pool f).n > 12 then
      .ok ⟨(xT m.pool l).1,m.at',m.s,m.e,m.d,1,(nod m.pool f).n,(xT m.pool l).2⟩
     else match Gw m.pool (nod m.pool f).n l with
      | .error h => .error (h + 1)
      | .ok (p,v) => .ok ⟨p ++ [ndP v m.s],m.at' + 1,p.length,m.e,m.d,m.state,m.ask,m.arg⟩) := by
    rw [CI,Kj IA]
    by_cases hargs : yf (nod m.pool f).n = (l.length : Int)
    ·have hargs' : ¬ yf (nod m.pool f).n ≠ (l.length : Int) := fun h => h hargs
     obtain ⟨n1,n19,l2⟩ := Af hargs
     rw [if_neg hargs'] at h0 ⊢
     rw [vQ (xH (by rw [Jp rfl]; exact hargs))]
     by_cases h18 : (nod m.pool f).n = 18
     ·rw [if_pos h18] at h0 ⊢
      rw [wK (xG h18),w64 (n := m.at' + 1) (by omega) (by omega)]
      obtain ⟨v,rfl⟩ : ∃ v,l = [v] := by
       rw [h18] at hargs
       match l,hargs with
       | [v],_ => exact ⟨v,rfl⟩
       | [],h => cases h
       | _ :: _ :: r,h => simp only [lnC] at h; have : yf 18 = 1 := rfl; omega
      have a1 := AY (p := m.pool) (by omega) (ndI (m.at' + 1))
      have l1 := CN (m.pool ++ [ndI (m.at' + 1)]) [(m.pool.length : Int),m.s,m.e,m.d]
      simp only [lnA,lnC,lnN] at l1
      have a2 : V 57 [rP (m.pool ++ [ndI (m.at' + 1)]),.rs (1,0) [iN (m.pool.length : Int),iN m.s,iN m.e,iN m.d]] = _ := JV (q := m.pool ++ [ndI (m.at' + 1)]) (row := [(m.pool.length : Int),m.s,m.e,m.d]) (by simp only [lnA,lnC,lnN]; omega)
      have o1 : yb (m.pool ++ [ndI (m.at' + 1)]) := yj h.gm.ok (LI (by omega))
      obtain ⟨b1,⟨t,b2,b3⟩,b4⟩ := AE (row := [(m.pool.length : Int),m.s,m.e,m.d]) o1 (fun v hv => by
       simp only [List.mem_cons,List.not_mem_nil,or_false] at hv
       rcases hv with rfl | rfl | rfl | rfl
       ·exact y2 _ _
       ·exact xZ _ h.gm.s
       ·exact xZ _ h.gm.e
       ·exact xZ _ h.gm.d)
      have e1 : (xT (m.pool ++ [ndI (m.at' + 1)]) [(m.pool.length : Int),m.s,m.e,m.d]).1 = m.pool ++ (ndI (m.at' + 1) :: t) := by rw [b2]; simp
      have up : ∀ {v : Int},InP m.pool v -> InP ((xT (m.pool ++ [ndI (m.at' + 1)]) [(m.pool.length : Int),m.s,m.e,m.d]).1 ++ [ndK ((xT (m.pool ++ [ndI (m.at' + 1)]) [(m.pool.length : Int),m.s,m.e,m.d]).2 : Int)]) v := fun hv => xZ _ (by rw [e1]; exact xZ _ hv)
      have g2 : RunM c ⟨(xT (m.pool ++ [ndI (m.at' + 1)]) [(m.pool.length : Int),m.s,m.e,m.d]).1 ++ [ndK ((xT (m.pool ++ [ndI (m.at' + 1)]) [(m.pool.length : Int),m.s,m.e,m.d]).2 : Int)],m.at',m.s,m.e,m.d,m.state,m.ask,m.arg⟩ :=
       ⟨⟨yj b1 (O9 b4),up h.gm.s,up h.gm.e,up h.gm.d⟩,h.st,h.ask,h.arg,h.pl⟩
      rw [yd a1,Ac a2]
      generalize hB : xT (m.pool ++ [ndI (m.at' + 1)]) [(m.pool.length : Int),m.s,m.e,m.d] = B at l1 b1 b2 b4 e1 up g2 h0 ⊢
      have a3 := AY (p := B.1) (by omega) (ndK (B.2 : Int))
      have a4 := KX hc k g2 hnx (by show (B.1 ++ [ndK (B.2 : Int)]).length + 100 * k < _; simp only [lnA,lnC,lnN]; omega) (up (hv v (by simp))) (l := [(B.1.length : Int)]) (fun u hu => by
       simp only [List.mem_singleton] at hu; subst hu; exact y2 _ _) (by simp) (fun _ h => by simp at h) h0
      rw [yd a3,zr]
      simp only [List.getD_cons_zero] at a4 ⊢
      simp only [List.map_cons,List.map_nil] at a4
      cases hr : Aj c k ⟨B.1 ++ [ndK (B.2 : Int)],m.at',m.s,m.e,m.d,m.state,m.ask,m.arg⟩ v [(B.1.length : Int)] with
      | ok m' => rw [hr] at a4; rw [zP (Au a4)]; rfl
      | error q =>
       rw [hr] at a4
       obtain ⟨q0,m',hx⟩ := zL a4
       rw [zP hx]
       exact ⟨q0,m',rfl⟩
     rw [if_neg h18] at h0 ⊢
     rw [vQ (xF h18)]
     by_cases h12 : (nod m.pool f).n > 12
     ·rw [if_pos h12,wK (decide_eq_true h12)]
      have a1 := JV (q := m.pool) (row := l) (by omega)
      rw [Ac a1]
      rfl
     rw [if_neg h12,vQ (decide_eq_false h12)]
     have hp := Nk h.gm.ok (by omega) (n := (nod m.pool f).n) hv (by omega) hargs.symm (fun e => h11 e (by
      rw [e] at hargs
      have : yf 11 = 2 := rfl
      omega))
     cases hr : Gw m.pool (nod m.pool f).n l with
     | error q =>
      rw [hr] at hp
      rw [Gt hp]
      have hq : q = 3 \/ q = 4 := by
       rw [Ef (by omega) hargs.symm] at hr
       split at hr
       ·split at hr
        ·cases hr
        ·split at hr
         ·cases hr
         ·split at hr
          ·cases hr
          ·cases hr; exact .inr rfl
       ·cases hr; exact .inl rfl
      rcases hq with rfl | rfl
      ·exact ⟨by decide,m,rfl⟩
      ·exact ⟨by decide,m,rfl⟩
     | ok r =>
      obtain ⟨p,v⟩ := r
      rw [hr] at hp
      obtain ⟨q1,q2,t,q3,q4⟩ := MT h.gm.ok hv (by omega) hargs.symm hr
      have hpl' : p.length < 4294967296 := by rw [q3]; simp only [lnA]; omega
      have a3 := AP (c := c) (m := ⟨p,m.at',m.s,m.e,m.d,m.state,m.ask,m.arg⟩) hpl' v
      rw [Gt hp,vQ (xF (by omega)),vQ (xF (by omega)),yH a3]
      show some (iN 0,[D.op [_,iN (w6 (m.at' + 1)),_,_,_,_,_,_,_,_,_]]) = _
      rw [w64 (by omega) (by omega)]
      rfl
    ·rw [if_pos hargs,wK (xI (by rw [Jp rfl]; exact hargs))]
     exact ⟨by decide,m,rfl⟩
   revert prim h0
   generalize (if yf (nod m.pool f).n ≠ (l.length : Int) then (.error 2 : Except Int Mc) else _) = r
   intro h0 prim
   cases r with
   | ok m' => rw [AJ (Au prim)]; rfl
   | error q =>
    obtain ⟨q0,m',hx⟩ := zL prim
    rw [AJ hx]
    exact ⟨q0,m',rfl⟩
  rw [if_neg h8,vQ (xF h8)]
  by_cases h7 : (nod m.pool f).kind = 7
  ·rw [if_pos h7,wK (xG h7)]
   have he := Nr hc h.gm.ok (by omega) (Gr h.gm.ok hf (.inr (.inr h7))) (l := l) (by omega)
   cases hr : MW c m (nod m.pool f).a l with
   | ok m' => rw [hr] at he; rw [B9 (Au he)]; rfl
   | error q =>
    rw [hr] at he
    obtain ⟨q0,m',hx⟩ := zL he
    rw [B9 hx]
    exact ⟨q0,m',rfl⟩
  ·rw [if_neg h7,vQ (xF h7)]
   exact ⟨by decide,m,rfl⟩
end Go.Eng
/-! a step of a machine: the program's side: whole -/
namespace Go.Eng
open Go.Proofs Go.Proofs.Try
set_option maxHeartbeats 4000000

theorem Jh : ∀ (r : List Int) (q : List Nd) (c : Nat),∃ t,(zt r q c).1 = q ++ t
 | [],q,c => ⟨[],by simp [zt]⟩
 | x :: r,q,c => by
  obtain ⟨t,h⟩ := Jh r (q ++ [ndP x c]) q.length
  exact ⟨ndP x c :: t,by rw [zt,h]; simp⟩
theorem PC (q : List Nd) (row : List Int) : ∃ t,(xT q row).1 = q ++ t := by
 obtain ⟨t,h⟩ := Jh row.reverse (q ++ [ndN]) q.length
 exact ⟨ndN :: t,by unfold xT; rw [h]; simp⟩
theorem QT (p : List Nd) (x : Nd) : nod (p ++ [x]) (p.length : Int) = x := by simp [nod]
theorem IU {c : Cd} : ∀ (k : Nat) {m : Mc} {f : Int} {l : List Int},(∀ v ∈ l,InP m.pool v) -> (3 <= k \/ (2 <= k /\ (nod m.pool (l.getD 0 0)).kind = 7) \/ (1 <= k /\ (nod m.pool f).kind = 7)) -> Aj c k m f l ≠ .error 0
 | 0,m,f,l,hv,hk => by omega
 | k + 1,m,f,l,hv,hk => by
  unfold Aj
  simp only
  split
  ·unfold DT
   split
   ·intro h; cases h
   ·split
    ·intro h; cases h
    ·intro h; cases h
  split
  ·rename_i h6 h8
   split
   ·intro h; cases h
   rename_i hargs
   split
   ·rename_i h18
    obtain ⟨v,r,rfl⟩ : ∃ v r,l = v :: r := by
     cases l with
     | nil => exact absurd (by rw [h18]; decide) hargs
     | cons v r => exact ⟨v,r,rfl⟩
    obtain ⟨t,ht⟩ := PC (m.pool ++ [ndI (m.at' + 1)]) [(m.pool.length : Int),m.s,m.e,m.d]
    have e1 : (xT (m.pool ++ [ndI (m.at' + 1)]) [(m.pool.length : Int),m.s,m.e,m.d]).1 = m.pool ++ (ndI (m.at' + 1) :: t) := by rw [ht]; simp
    have hv0 := hv v (by simp)
    have up : nod ((xT (m.pool ++ [ndI (m.at' + 1)]) [(m.pool.length : Int),m.s,m.e,m.d]).1 ++ [ndK ((xT (m.pool ++ [ndI (m.at' + 1)]) [(m.pool.length : Int),m.s,m.e,m.d]).2 : Int)]) v = nod m.pool v := by
     rw [e1,List.append_assoc,R8 hv0]
    refine IU k (fun u hu => ?_) ?_
    ·simp only [List.mem_singleton] at hu; subst hu
     exact y2 _ _
    ·rcases hk with hk | ⟨hk,h7⟩ | ⟨hk,h7⟩
     ·refine .inr (.inl ⟨by omega,?_⟩)
      simp only [List.getD_cons_zero]
      rw [QT]
     ·refine .inr (.inr ⟨by omega,?_⟩)
      simp only [List.getD_cons_zero] at h7 ⊢
      rw [up,h7]
     ·omega
   split
   ·intro h; cases h
   split
   ·rename_i q hq
    intro h
    have hz : q + 1 = 0 := by injection h
    obtain ⟨n1,n19,l2⟩ := Af (n := (nod m.pool f).n) (k := l.length) (by simpa using hargs)
    rw [Ef (by omega) (by simpa using (Eq.symm (by simpa using hargs : yf (nod m.pool f).n = (l.length : Int))))] at hq
    split at hq
    ·split at hq
     ·cases hq
     ·split at hq
      ·cases hq
      ·split at hq
       ·cases hq
       ·cases hq; omega
    ·cases hq; omega
   ·intro h; cases h
  split
  ·unfold MW
   split
   ·intro h; cases h
   ·split <;> (intro h; cases h)
  ·intro h; cases h
theorem Ku {c : Cd} : ∀ (k : Nat) {m : Mc} {f : Int} {l : List Int} {h : Int},Aj c k m f l = .error h -> h = 0 \/ (1 <= h /\ h <= 7)
 | 0,m,f,l,h,he => by cases he; exact .inl rfl
 | k + 1,m,f,l,h,he => by
  unfold Aj at he
  simp only at he
  split at he
  ·unfold DT at he
   split at he
   ·cases he; omega
   ·split at he
    ·cases he; omega
    ·cases he
  split at he
  ·split at he
   ·cases he; omega
   rename_i hargs
   split at he
   ·exact Ku k he
   split at he
   ·cases he
   split at he
   ·rename_i q hq
    cases he
    obtain ⟨n1,n19,l2⟩ := Af (n := (nod m.pool f).n) (k := l.length) (by simpa using hargs)
    rw [Ef (by omega) (by simpa using (Eq.symm (by simpa using hargs : yf (nod m.pool f).n = (l.length : Int))))] at hq
    split at hq
    ·split at hq
     ·cases hq
     ·split at hq
      ·cases hq
      ·split at hq
       ·cases hq
       ·cases hq; omega
    ·cases hq; omega
   ·cases he
  split at he
  ·unfold MW at he
   split at he
   ·cases he; omega
   ·split at he
    ·cases he
    ·cases he; omega
  ·cases he; omega
theorem RQ {c : Cd} (_ : yp c = true) {m : Mc} (h : RunM c m) {q : Int} (he : doM c m = .error q) : 1 <= q /\ q <= 7 := by
 unfold doM at he
 simp only at he
 split at he
 ·unfold z9 at he
  split at he
  ·cases he; omega
  split at he
  ·cases he; omega
  ·rename_i l m1 ht
   obtain ⟨f1,f2,f3,f4,f5,f6,f7,f8,f9⟩ := GR h.gm ht
   rcases Ku 3 he with rfl | h1
   ·exact absurd he (IU 3 (fun v hv => f2 v (by have := List.mem_of_mem_drop hv; simpa using this)) (.inl (Nat.le_refl _)))
   ·exact h1
 split at he
 ·unfold GX at he
  split at he
  ·cases he; omega
  simp only at he
  split at he
  ·cases he
  split at he
  ·cases he; omega
  split at he
  ·cases he
  ·cases he; omega
 ·have go : ∀ {r : Except Int Mc} {n : Int},(∀ q',r = .error q' -> 1 <= q' /\ q' <= 7) -> goM c r n = .error q -> 1 <= q /\ q <= 7 := by
   intro r n hr hg
   unfold goM at hg
   split at hg
   ·cases hg; exact hr _ rfl
   ·split at hg
    ·cases hg
    ·cases hg; omega
  unfold Ee at he
  split at he
  ·exact go (fun q' e => by cases e) he
  split at he
  ·refine go (fun q' e => ?_) he
   unfold OE at e
   split at e
   ·cases e; omega
   ·split at e
    ·cases e; omega
    ·cases e
  split at he
  ·refine go (fun q' e => ?_) he
   unfold Jb at e
   split at e
   ·cases e
   ·split at e
    ·cases e; omega
    ·cases e
  split at he
  ·exact go (fun q' e => by cases e) he
  split at he
  ·exact go (fun q' e => by cases e) he
  split at he
  ·cases he; omega
  ·exact go (fun q' e => by cases e) he
theorem M8 {c : Cd} {m : Mc} (h : zW c m = true) (h0 : m.state = 0) : zW c (Cg c m) = true := by
 obtain ⟨hr,hc,hl⟩ := JA h h0
 unfold Cg
 cases he : doM c m with
 | error q => exact Ml h (RQ hc hr he)
 | ok m' =>
  obtain ⟨g1,⟨t,g2,g3⟩,g4⟩ := Mf hc hr he
  simp only
  split
  ·exact O6 hc g1.ok ‹_› g1.s g1.e g1.d g4
  ·exact Ml h (by omega)

theorem MY : ∀ (n : Nat) (pre mid post : List Int) (i j : Int),mid.length <= n -> i = pre.length -> j = i + mid.length - 1 -> (pre ++ mid ++ post).length < 4611686018427387904 ->
  yx i j ((pre ++ mid ++ post).map eI) = some (.tup [],[.os (1,0) ((pre ++ mid.reverse ++ post).map eI)])
 | 0,pre,mid,post,i,j,hn,hi,hj,hl => by
  have : mid = [] := List.length_eq_zero_iff.1 (by omega)
  subst this
  rw [yo,vQ (decide_eq_false (by simp at hj; omega))]
  rfl
 | n + 1,pre,mid,post,i,j,hn,hi,hj,hl => by
  match mid,hn,hj,hl with
  | [],hn,hj,hl =>
   rw [yo,vQ (decide_eq_false (by simp at hj; omega))]
   rfl
  | [x],hn,hj,hl =>
   rw [yo,vQ (decide_eq_false (by simp at hj; omega))]
   rfl
  | x :: z :: r,hn,hj,hl =>
   obtain ⟨m,y,hm⟩ : ∃ m y,z :: r = m ++ [y] := ⟨(z :: r).dropLast,(z :: r).getLast (by simp),(List.dropLast_concat_getLast (by simp)).symm⟩
   rw [hm] at hn hj hl ⊢
   simp only [lnC,lnA,lnN] at hn hj hl
   subst hi
   have hj' : j = ((pre.length + m.length + 1 : Nat) : Int) := by omega
   subst hj'
   have hx : (pre ++ x :: (m ++ [y]) ++ post)[pre.length]? = some x := by simp
   have hy : (pre ++ x :: (m ++ [y]) ++ post)[pre.length + m.length + 1]? = some y := by
    have e : pre ++ x :: (m ++ [y]) ++ post = (pre ++ x :: m) ++ y :: post := by simp
    have e2 : pre.length + m.length + 1 = (pre ++ x :: m).length := by simp; omega
    rw [e,e2]; simp
   have len : (pre ++ x :: (m ++ [y]) ++ post).length = pre.length + m.length + 2 + post.length := by simp; omega
   have s1 : List.set ((pre ++ x :: (m ++ [y]) ++ post).map eI) pre.length (iN y) = (pre ++ y :: (m ++ [y]) ++ post).map eI := by
    rw [<- List.map_set]; simp
   have hy2 : (pre ++ y :: (m ++ [y]) ++ post)[pre.length + m.length + 1]? = some y := by
    have e : pre ++ y :: (m ++ [y]) ++ post = (pre ++ y :: m) ++ y :: post := by simp
    have e2 : pre.length + m.length + 1 = (pre ++ y :: m).length := by simp; omega
    rw [e,e2]; simp
   have s2 : List.set ((pre ++ y :: (m ++ [y]) ++ post).map eI) (pre.length + m.length + 1) (iN x) = ((pre ++ [y]) ++ m ++ (x :: post)).map eI := by
    have e : pre ++ y :: (m ++ [y]) ++ post = (pre ++ y :: m) ++ y :: post := by simp
    have e2 : pre.length + m.length + 1 = (pre ++ y :: m).length := by simp; omega
    rw [<- List.map_set,e,e2]; simp
   have len2 : (pre ++ y :: (m ++ [y]) ++ post).length = pre.length + m.length + 2 + post.length := by simp; omega
   have ih := MY n (pre ++ [y]) m (x :: post) ((pre.length : Int) + 1) (((pre.length + m.length + 1 : Nat) : Int) - 1) (by omega) (by simp) (by simp; omega) (by simp; omega)
   rw [yo,wK (decide_eq_true (by omega)),
    AC (l := pre ++ x :: (m ++ [y]) ++ post) (v := ((pre.length + m.length + 1 : Nat) : Int)) (x := y) (by omega) (by rw [Int.toNat_natCast]; exact hy),
    AC (l := pre ++ x :: (m ++ [y]) ++ post) (v := (pre.length : Int)) (x := x) (by omega) (by rw [Int.toNat_natCast]; exact hx),
    xu (by rw [lnM]; exact xz (by omega)),Int.toNat_natCast,w8 hx,xB,s1,
    xu (by rw [lnM]; exact xz (by omega)),Int.toNat_natCast,w8 hy2,xB,s2,w64 (n := (pre.length : Int) + 1) (by omega) (by omega),w64 (n := ((pre.length + m.length + 1 : Nat) : Int) - 1) (by omega) (by omega),ih]
   simp
theorem Qi {l : List Int} (hl : l.length < 4611686018427387904) : V 69 [.os (1,0) (l.map eI)] = some (.tup [],[.os (1,0) (l.reverse.map eI)]) := by
 have h := MY l.length [] l [] 0 ((l.length : Int) - 1) (Nat.le_refl _) rfl (by omega) (by simpa using hl)
 simp only [List.nil_append,List.append_nil] at h
 rw [CK,lnM,w64 (n := ni l.length - 1) (by simp only [ni]; omega) (by simp only [ni]; omega)]
 exact h

theorem PR (a : Int) (r : List Int) : part ((a :: r).map eI) (some (Int.toNat 1,((a :: r).map eI).length - Int.toNat 1)) = r.map eI := by
 simp only [part,List.map_cons,lnC]
 show (r.map eI).take ((r.map eI).length + 1 - 1) = _
 exact List.take_of_length_le (by simp)
theorem Dw {c : Cd} (hc : c.list.length <= 400) {many : Nat} (hm : many <= 4) : ∀ (k i : Nat) {m : Mc} {acc : List Int},i + k = many + 1 -> acc.length = i -> RunM c m -> zF c (m.at' + 1) = true -> m.pool.length <= 3000 -> (∀ v ∈ acc,InP m.pool v) ->
  Fw c (yK ((many : Int) + 1) (i : Int) m.at' m.s m.e m.d m.state m.ask m.arg (c.pool.map eN) (c.list.map eIn) (c.defs.map eDf) (acc.map eI) (m.pool.map eN)) (match BG k m with
   | none => .error 7
   | some (l,m') => Aj c 3 m' ((acc ++ l).reverse.getD 0 0) ((acc ++ l).reverse.drop 1))
 | 0,i,m,acc,hi,ha,hr,hnx,hl,hv => by
  rw [zq,vQ (decide_eq_false (by omega)),BM (Qi (l := acc) (by omega))]
  simp only [BG,List.append_nil]
  obtain ⟨a,r,hq⟩ : ∃ a r,acc.reverse = a :: r := by
   cases hq : acc.reverse with
   | nil => have h := congrArg List.length hq; rw [List.length_reverse,lnN] at h; omega
   | cons a r => exact ⟨a,r,rfl⟩
  have hlen : r.length = many := by have h := congrArg List.length hq; rw [List.length_reverse,lnC] at h; omega
  have hvr : ∀ v ∈ a :: r,InP m.pool v := fun v hv' => hv v (by rw [<- hq] at hv'; simpa using hv')
  rw [hq,zr,xu (by simp [cG]; omega),PR]
  simp only [List.getD_cons_zero,List.drop_one,List.tail_cons]
  have h0 := IU (c := c) 3 (m := m) (f := a) (l := r) (fun v hv' => hvr v (by simp [hv'])) (.inl (Nat.le_refl _))
  have hcall := KX hc 3 hr hnx (by omega) (hvr a (by simp)) (fun v hv' => hvr v (by simp [hv'])) (by omega) (fun _ _ => okPool_iff.2 ⟨hr.gm.ok,hl⟩) h0
  cases he : Aj c 3 m a r with
  | ok m' => rw [he] at hcall; rw [zP (Au hcall)]; rfl
  | error q =>
   rw [he] at hcall
   obtain ⟨q0,m',hx⟩ := zL hcall
   rw [zP hx]
   exact ⟨q0,m',rfl⟩
 | k + 1,i,m,acc,hi,ha,hr,hnx,hl,hv => by
  rw [zq,wK (decide_eq_true (by omega))]
  unfold BG
  cases ht : CZ m with
  | none =>
   have h1 := Dn (c := c) hr.gm.s ht
   rw [yX h1]
   exact ⟨by decide,m,rfl⟩
  | some q =>
   obtain ⟨v,m1⟩ := q
   have h1 := GU (c := c) hr.gm.s ht
   obtain ⟨g1,g2,g3,g4,g5,g6,g7,g8⟩ := C5 hr.gm ht
   have ea : acc.map eI ++ [iN v] = (acc ++ [v]).map eI := by simp
   have ih := Dw hc hm k (i + 1) (m := m1) (acc := acc ++ [v]) (by omega) (by simp [ha]) ⟨g1,g5.trans hr.st,g6.trans hr.ask,g7.trans hr.arg,by rw [g4]; exact hr.pl⟩ (by rw [g4]; exact hnx) (by rw [g3]; exact hl) (fun u hu => by
    rw [g3]
    rcases List.mem_append.1 hu with hu | hu
    ·exact hv u hu
    ·simp only [List.mem_singleton] at hu; subst hu; rw [<- g3]; exact g2)
   rw [yX h1,Bool.not_true,wJ,xu (QK (by omega) v),xB,ea,xN (by omega)]
   simp only
   cases ht2 : BG k m1 with
   | none => rw [ht2] at ih; exact ih
   | some q2 =>
    obtain ⟨l2,m2⟩ := q2
    rw [ht2] at ih
    simp only [List.append_assoc,List.singleton_append] at ih
    exact ih
theorem LP {c : Cd} (hc : c.list.length <= 400) {m : Mc} (hr : RunM c m) (hl : m.pool.length <= 3000) {k : Int} (hk : 0 <= k /\ k <= 4) : Fw c (V 50 [eSt c m,iN k]) (z9 c m k.toNat) := by
 have hpl := isPl_iff.1 hr.pl
 rw [DE,w64 (n := m.at' + 1) (by omega) (by omega),yl (Aq hc _)]
 unfold z9
 cases hp : zF c (m.at' + 1) with
 | false => rw [if_pos rfl]; exact ⟨by decide,m,rfl⟩
 | true =>
  have h := Dw hc (many := k.toNat) (by omega) (k.toNat + 1) 0 (acc := []) (by omega) rfl hr hp hl (by simp)
  rw [Int.natCast_zero,Int.toNat_of_nonneg hk.1] at h
  rw [if_neg (by simp),Bool.not_true,wJ,w64 (n := k + 1) (by omega) (by omega)]
  simp only [List.nil_append] at h
  exact h
theorem Qk {c : Cd} (hc : c.list.length <= 400) {m : Mc} (hr : RunM c m) (hl : m.pool.length <= 3000) : Fw c (V 51 [eSt c m]) (GX c m) := by
 rw [FH]
 unfold GX
 cases ht : CZ m with
 | none =>
  have h1 := Dn (c := c) hr.gm.s ht
  rw [yX h1]
  exact ⟨by decide,m,rfl⟩
 | some q =>
  obtain ⟨v,m1⟩ := q
  have h1 := GU (c := c) hr.gm.s ht
  obtain ⟨g1,g2,g3,g4,g5,g6,g7,g8⟩ := C5 hr.gm ht
  rw [yX h1,Bool.not_true,wJ,DH g1.d]
  simp only
  by_cases k1 : (nod m1.pool m1.d).kind = 1
  ·rw [if_pos k1,wK (xG k1)]; rfl
  rw [if_neg k1,vQ (xF k1)]
  by_cases k5 : (nod m1.pool m1.d).kind = 5
  ·rw [if_neg (fun h => h k5),vQ (xH k5)]
   have ha := Gr g1.ok g1.d (.inl k5)
   have hlst := C7 g1.ok (by rw [g3]; omega) ha
   have hin := Dd g1.ok ha
   rw [zb hlst]
   rcases hq : Cm m1.pool (nod m1.pool m1.d).a with ⟨xs,b⟩
   have hfr := Mr (c := c) hq (many := 3) (by omega)
   rw [hq] at hin
   have none : ∀ {X : Option Ret},¬ (b = true /\ xs.length = 3 /\ (nod m1.pool (xs.getD 0 0)).kind = 3 /\ zF c (nod m1.pool (xs.getD 0 0)).n = true) -> X = some (iN 7,[eSt c m1]) -> Fw c X (match DU c m1.pool (nod m1.pool m1.d).a 3 with
     | some (n,[s,e]) => .ok (JF ⟨m1.pool,n,s,e,(nod m1.pool m1.d).b,m1.state,m1.ask,m1.arg⟩ v)
     | _ => .error 7) := by
    intro X hn hX
    rw [hfr,if_neg hn]
    exact ⟨by decide,m1,hX⟩
   cases b with
   | false => exact none (fun h => by simp at h) rfl
   | true =>
    rw [Bool.not_true,wJ]
    by_cases h4 : xs.length = 3
    ·obtain ⟨a,s,e,rfl⟩ : ∃ a s e,xs = [a,s,e] := by
      match xs,h4 with
      | [a,s,e],_ => exact ⟨a,s,e,rfl⟩
      | [],h => simp at h
      | [_],h => simp at h
      | [_,_],h => simp at h
      | _ :: _ :: _ :: _ :: _,h => simp at h
     have ha' := hin a (by simp)
     rw [vQ (xH (Jp (k := 3) rfl)),zr,KZ ha']
     by_cases h3 : (nod m1.pool a).kind = 3
     ·rw [vQ (xH h3),zr,Qq ha',yl (Aq hc _)]
      cases h5 : zF c (nod m1.pool a).n with
      | false => exact none (fun h => by have := h.2.2.2; simp only [List.getD_cons_zero,h5] at this; cases this) rfl
      | true =>
       have a3 := AP (c := c) (m := ⟨m1.pool,(nod m1.pool a).n,s,e,(nod m1.pool m1.d).b,m1.state,m1.ask,m1.arg⟩) (by show m1.pool.length < _; rw [g3]; omega) v
       rw [hfr,if_pos ⟨rfl,rfl,h3,h5⟩,Bool.not_true,wJ,zr,Qq ha',Dc,Lv,yH a3]
       rfl
     ·rw [wK (xI h3)]
      exact none (fun h => h3 h.2.2.1) rfl
    ·rw [wK (xI (QQ (l := xs) (k := 3) (fun h => h4 (by omega))))]
     exact none (fun h => h4 h.2.1) rfl
  ·rw [if_pos k5,wK (xI k5)]
   exact ⟨by decide,m1,rfl⟩
end Go.Eng
/-! a step of a machine: the program's side: every instruction; runs -/
namespace Go.Eng
open Go.Proofs Go.Proofs.Try
set_option maxHeartbeats 4000000

theorem Qb {q : List Nd} {v : Int} (hv : InP q v) : yh q [v] = true := by
 simp only [yh,List.all_cons,List.all_nil,Bool.and_true]
 exact wi_iff.2 ⟨hv.1,by omega⟩
theorem QI {l : List Int} {v : Int} (h : 0 <= v /\ v < (l.length : Int)) {R : Type} (K : Int -> Option R) : grd (decide (0 <= v) && decide (v < ni (l.map eI).length)) (cz (l.map eI) v.toNat fun x => asI .i64 x fun n => K n) = K (l.getD v.toNat 0) := by
 obtain ⟨u,hu⟩ := Db (l := l) h.1 h.2
 rw [AC h.1 hu]
 simp [hu]
theorem Ol {q acc : List Nd} (hp : xR q = true) {v : Int} (hv : InP q v) (hc : acc.length + q.length < 4294967296) : V 72 [rP acc,eP q,iN v] = some (iN (Bq (-1) q v acc).2,[rP (Bq (-1) q v acc).1]) := by
 have hm : V 80 [rP acc,eP q,.rs (1,0) [iN v]] = _ := Nn (acc := acc) hp (rs := [v]) (by simp) (Qb hv) hc
 have hl : (zJ (-1) q [v] acc).1.length = q.length := by unfold zJ; rw [BX]; simp
 rw [EH,D6 hm,QI ⟨hv.1,by rw [hl]; exact hv.2⟩]
 rfl
theorem Bg {c : Cd} (_ : c.list.length <= 400) {m : Mc} {n : Int} {X : Option Ret} (h : X = match zF c n with
  | false => some (iN 7,[eSt c m])
  | true => some (iN 0,[eSt c ⟨m.pool,n,m.s,m.e,m.d,m.state,m.ask,m.arg⟩])) : Fw c X (goM c (.ok m) n) := by
 unfold goM
 cases hp : zF c n with
 | false => rw [hp] at h; exact ⟨by decide,m,h⟩
 | true => rw [hp] at h; exact h
theorem Oz {c : Cd} (hf : FitsC c) (hok : yp c = true) {m : Mc} (hr : RunM c m) (hl : m.pool.length <= 3000) {x : In} {k : Nat} (hx : c.list[k]? = some x) : Fw c (V 52 [eSt c m,eIn x]) (Ee c m x) := by
 obtain ⟨c1,c2,c3⟩ := y4 hok
 have cl := ym c1
 have hin := Ez hok hx
 have hat := isPl_iff.1 hr.pl
 have w1 : w6 (m.at' + 1) = m.at' + 1 := w64 (by omega) (by omega)
 rw [EZ]
 unfold Ee
 by_cases h1 : x.op = 1
 ·have hlit := MQ hin h1
  have f := GZ c1 hr.gm.ok hlit (-1)
  obtain ⟨f1,f2,t,f3,f4⟩ := f
  have hlen := congrArg List.length f3
  rw [lnA] at hlen
  have h2 := Ol (acc := m.pool) c1 hlit (by omega)
  have h3 := AP (c := c) (m := ⟨(Bq (-1) c.pool x.n m.pool).1,m.at',m.s,m.e,m.d,m.state,m.ask,m.arg⟩) (by show (Bq (-1) c.pool x.n m.pool).1.length < _; omega) (Bq (-1) c.pool x.n m.pool).2
  rw [if_pos h1,wK (xG h1),GP h2,yH h3,w1,yl (Aq c2 _)]
  refine Bg c2 ?_
  cases zF c (m.at' + 1) <;> rfl
 rw [if_neg h1,vQ (xF h1)]
 by_cases h2 : x.op = 2
 ·have hv := QY hin h2
  have hX := Kr (c := c) (m := m) hr.gm.ok (by omega) hr.gm.e (o := x.n) (i := x.i) (by omega) (by omega) (by omega) (by omega)
  rw [if_pos h2,wK (xG h2)]
  cases e : OE m x.n x.i with
  | ok m' =>
   rw [e] at hX
   rw [AW (Au hX),wK (xG rfl),w1,yl (Aq c2 _)]
   refine Bg c2 ?_
   cases zF c (m.at' + 1) <;> rfl
  | error q =>
   rw [e] at hX
   obtain ⟨q0,m',hx'⟩ := zL hX
   rw [AW hx',vQ (xF q0),w1]
   exact ⟨q0,⟨m'.pool,m.at' + 1,m'.s,m'.e,m'.d,m'.state,m'.ask,m'.arg⟩,rfl⟩
 rw [if_neg h2,vQ (xF h2)]
 by_cases h3 : x.op = 3
 ·have hX := Nq hf hok (m := m) (by omega) x.s
  rw [if_pos h3,wK (xG h3)]
  cases e : Jb c m x.s with
  | ok m' =>
   rw [e] at hX
   rw [B7 (Au hX),wK (xG rfl),w1,yl (Aq c2 _)]
   refine Bg c2 ?_
   cases zF c (m.at' + 1) <;> rfl
  | error q =>
   rw [e] at hX
   obtain ⟨q0,m',hx'⟩ := zL hX
   rw [B7 hx',vQ (xF q0),w1]
   exact ⟨q0,⟨m'.pool,m.at' + 1,m'.s,m'.e,m'.d,m'.state,m'.ask,m'.arg⟩,rfl⟩
 rw [if_neg h3,vQ (xF h3)]
 by_cases h5 : x.op = 5
 ·rw [if_pos h5,wK (xG h5),yl (Aq c2 _)]
  refine Bg c2 ?_
  cases zF c x.n <;> rfl
 rw [if_neg h5,vQ (xF h5)]
 by_cases h6 : x.op = 6
 ·have hfn := MO hin h6
  have h7 := AY (p := m.pool) (by omega) (ndF (8 * x.n + x.i) m.e)
  have h8 := AP (c := c) (m := ⟨m.pool ++ [ndF (8 * x.n + x.i) m.e],m.at',m.s,m.e,m.d,m.state,m.ask,m.arg⟩) (by simp; omega) m.pool.length
  rw [if_pos h6,wK (xG h6),w64 (n := 8 * x.n) (by omega) (by omega),w64 (n := 8 * x.n + x.i) (by omega) (by omega),yd h7,yH h8,w1,yl (Aq c2 _)]
  refine Bg c2 ?_
  cases zF c (m.at' + 1) <;> rfl
 rw [if_neg h6,vQ (xF h6)]
 cases ht : CZ m with
 | none =>
  have h1 := Dn (c := c) hr.gm.s ht
  rw [yX h1]
  exact ⟨by decide,m,rfl⟩
 | some q =>
  obtain ⟨v,m1⟩ := q
  have hX := GU (c := c) hr.gm.s ht
  obtain ⟨g1,g2,g3,g4,g5,g6,g7,g8⟩ := C5 hr.gm ht
  rw [yX hX,Bool.not_true,wJ,DH g2,w1]
  simp only
  by_cases h4 : x.op = 4
  ·rw [wK (xG h4)]
   by_cases k2 : (nod m1.pool v).kind = 2
   ·rw [wK (xG k2)]
    by_cases k0 : (nod m1.pool v).n = 0
    ·rw [wK (xG k0),if_pos ⟨h4,k2,k0⟩,yl (Aq c2 _)]
     refine Bg c2 ?_
     cases zF c x.n <;> rfl
    ·rw [vQ (xF k0),if_neg (fun h => k0 h.2.2),yl (Aq c2 _)]
     refine Bg c2 ?_
     cases zF c (m.at' + 1) <;> rfl
   ·rw [vQ (xF k2),if_neg (fun h => k2 h.2.1),yl (Aq c2 _)]
    refine Bg c2 ?_
    cases zF c (m.at' + 1) <;> rfl
  ·rw [vQ (xF h4),if_neg (fun h => h4 h.1),yl (Aq c2 _)]
   refine Bg c2 ?_
   cases zF c (m.at' + 1) <;> rfl

theorem Ru {m : Mc} (hl : m.pool.length <= 4294967296) (q : Int) : V 53 [eMc m,iN q] = some (oMc (Mj m q),[]) := by
 rw [Lk,zx (zM hl)]
 rfl
theorem Rx {c : Cd} (hf : FitsC c) (hok : yp c = true) {m : Mc} (hr : RunM c m) (hl : m.pool.length <= 3000) : V 28 [eCd c,eMc m] = some (oMc (Cg c m),[]) := by
 obtain ⟨c1,c2,c3⟩ := y4 hok
 have cl := ym c1
 obtain ⟨x,hx⟩ := Pe hr
 have hin := Ez hok hx
 have hat := isPl_iff.1 hr.pl
 have hgd : c.list.getD m.at'.toNat ⟨0,0,0,⟨#[]⟩⟩ = x := by rw [List.getD_eq_getElem?_getD,hx]; rfl
 have hfail := fun q => Ru (m := m) (by omega) q
 have big : ∀ {m' : Mc},doM c m = .ok m' -> m'.pool.length < 4294967296 := fun e => by
  obtain ⟨g1,⟨t,g2,g3⟩,g4⟩ := Mf hok hr e
  have hlen := congrArg List.length g2
  rw [lnA] at hlen
  omega
 rw [NH,zx (zM (by omega)),xu (by rw [lnM]; simp only [ni,Bool.and_eq_true,decide_eq_true_eq]; omega),w8 hx,SW]
 have hdo : doM c m = if x.op = 7 then z9 c m x.i.toNat else if x.op = 8 then GX c m else Ee c m x := by unfold doM; rw [hgd]
 unfold Cg
 by_cases h7 : x.op = 7
 ·rw [if_pos h7] at hdo
  rw [hdo] at big ⊢
  have hX := LP c2 hr hl (KQ hin h7)
  rw [wK (xG h7)]
  cases e : z9 c m x.i.toNat with
  | ok m' =>
   rw [e] at hX
   have hb := big e
   rw [Bz (Au hX),wK (xG rfl),lnM]
   simp only
   by_cases h3 : m'.pool.length <= 3000
   ·rw [vQ (decide_eq_false (by simp only [ni]; omega)),vQ (xH rfl),if_pos h3]
   ·rw [wK (decide_eq_true (by simp only [ni]; omega)),z4 (hfail 6),if_neg h3]
  | error q =>
   rw [e] at hX
   obtain ⟨q0,m',hx'⟩ := zL hX
   rw [Bz hx',vQ (xF q0),wK (xI q0),z4 (hfail q)]
 rw [if_neg h7] at hdo
 rw [vQ (xF h7)]
 by_cases h8 : x.op = 8
 ·rw [if_pos h8] at hdo
  rw [hdo] at big ⊢
  have hX := Qk c2 hr hl
  rw [wK (xG h8)]
  cases e : GX c m with
  | ok m' =>
   rw [e] at hX
   have hb := big e
   rw [Dv (Au hX),wK (xG rfl),lnM]
   simp only
   by_cases h3 : m'.pool.length <= 3000
   ·rw [vQ (decide_eq_false (by simp only [ni]; omega)),vQ (xH rfl),if_pos h3]
   ·rw [wK (decide_eq_true (by simp only [ni]; omega)),z4 (hfail 6),if_neg h3]
  | error q =>
   rw [e] at hX
   obtain ⟨q0,m',hx'⟩ := zL hX
   rw [Dv hx',vQ (xF q0),wK (xI q0),z4 (hfail q)]
 rw [if_neg h8] at hdo
 rw [vQ (xF h8)]
 rw [hdo] at big ⊢
 have hX := Oz hf hok hr hl hx
 cases e : Ee c m x with
 | ok m' =>
  rw [e] at hX
  have hb := big e
  rw [CW (Au hX),wK (xG rfl),lnM]
  simp only
  by_cases h3 : m'.pool.length <= 3000
  ·rw [vQ (decide_eq_false (by simp only [ni]; omega)),vQ (xH rfl),if_pos h3]
  ·rw [wK (decide_eq_true (by simp only [ni]; omega)),z4 (hfail 6),if_neg h3]
 | error q =>
  rw [e] at hX
  obtain ⟨q0,m',hx'⟩ := zL hX
  rw [CW hx',vQ (xF q0),wK (xI q0),z4 (hfail q)]
theorem Nh {c : Cd} (hf : FitsC c) {m : Mc} (hm : Bi m.pool) (hl : m.pool.length <= 4294967296) : V 25 [eCd c,eMc m] = some (oMc (Re c m),[]) := by
 have h1 := C6 hf hm (by omega)
 rw [NE,D8 h1]
 unfold Re
 cases h : zW c m with
 | false => rw [Bool.not_false,xl,if_neg (by simp)]; rfl
 | true =>
  rw [Bool.not_true,wJ,if_pos rfl]
  by_cases h0 : m.state = 0
  ·obtain ⟨r1,r2,r3⟩ := JA h h0
   rw [vQ (xH h0),KM (Rx hf r2 r1 r3),if_pos h0]
  ·rw [wK (xI h0),zx (zM hl),if_neg h0]
theorem Ry {m : Mc} (hf : Bi m.pool) (hl : m.pool.length <= 4294967296) : V 27 [oMc m] = some (oMc (zR m),[]) := by
 rw [Lp,lnM]
 unfold zR
 by_cases h : m.pool.length <= 2000
 ·rw [vQ (decide_eq_false (by simp only [ni]; omega)),if_pos h]
 ·rw [wK (decide_eq_true (by simp only [ni]; omega)),PP (Nj hf hl),if_neg h]
theorem Ig {c : Cd} (hf : FitsC c) {steps : Int} : ∀ (k : Nat) {m : Mc} (n : Int),zW c m = true -> 0 <= n -> ((n + k = mnI steps 2000) \/ (k = 0 /\ mnI steps 2000 <= n)) -> n <= 2000 ->
  z8 steps n (c.pool.map eN) (c.list.map eIn) (c.defs.map eDf) m.at' m.s m.e m.d m.state m.ask m.arg 0 0 0 0 0 0 0 (m.pool.map eN) = some (.tup [oMc (AX c k m).1,iN (n + (AX c k m).2)],[])
 | 0,m,n,h,hn,hk,h2 => by
  rw [BV]
  by_cases h0 : m.state = 0
  ·rw [wK (xG h0),vQ (decide_eq_false (by omega))]
   simp [AX]
  ·rw [vQ (xF h0)]
   simp [AX]
 | k + 1,m,n,h,hn,hk,h2 => by
  have mn : mnI steps 2000 <= 2000 := by unfold mnI; split <;> omega
  rw [BV]
  unfold AX
  by_cases h0 : m.state = 0
  ·obtain ⟨r1,r2,r3⟩ := JA h h0
   have s1 := M8 h h0
   obtain ⟨q1,q2,q3,q4⟩ := Dh s1
   have ht := Ry (zU q2) (by omega)
   have t1 : zW c (zR (Cg c m)) = true := by
    unfold zR
    split
    ·exact s1
    ·exact Pi s1
   have ih := Ig hf (steps := steps) k (m := zR (Cg c m)) (n + 1) t1 (by omega) (.inl (by omega)) (by omega)
   rw [wK (xG h0),wK (decide_eq_true (by omega)),KM (Rx hf r2 r1 r3),ML ht,w64 (n := n + 1) (by omega) (by omega),ih,if_pos h0]
   simp only [Int.natCast_add,Int.natCast_one]
   rw [show n + 1 + ((AX c k (zR (Cg c m))).2 : Int) = n + (((AX c k (zR (Cg c m))).2 : Int) + 1) by omega]
  ·rw [vQ (xF h0),if_neg h0]
   simp
theorem Ko {c : Cd} (hf : FitsC c) {m : Mc} (hm : Bi m.pool) (hl : m.pool.length <= 4294967296) (steps : Int) : V 11 [eCd c,eMc m,iN steps] = some (.tup [oMc (Rc c m steps).1,iN (Rc c m steps).2],[]) := by
 have h1 := C6 hf hm (by omega)
 rw [Lj,D8 h1]
 unfold Rc
 cases h : zW c m with
 | false =>
  have h2 := Nh hf hm hl
  rw [Bool.not_false,xl,PO h2,if_neg (by simp)]
  unfold Re
  rw [if_neg (by simp [h])]
  rfl
 | true =>
  have hlo := Ig hf (steps := steps) (mnI steps 2000).toNat 0 h (Int.le_refl _) (by omega) (by omega)
  rw [Bool.not_true,wJ,zx (zM hl),if_pos rfl]
  simp only [Int.zero_add] at hlo
  exact hlo

end Go.Eng
/-! compiling: the program's side,where nothing comes up -/
namespace Go.Eng
noncomputable section
open Go.Proofs Go.Proofs.Try
set_option maxHeartbeats 4000000

def emI (L : List In) (x : In) : Option (List In) := if L.length < 400 then some (L ++ [x]) else none
def toI (L : List In) (k : Nat) : List In := L.set k ⟨(L.getD k (inO 0)).op,L.length,(L.getD k (inO 0)).i,(L.getD k (inO 0)).s⟩
def RT : List ByteArray -> List ByteArray -> Bool
 | _,[] => true
 | pre,s :: r => !(pre.any fun t => jJ s t) && RT (pre ++ [s]) r
def QS (p : List Nd) (xs : List Int) : Option (List ByteArray) := if xs.all (nmC p) = true /\ xs.length <= 4 /\ RT [] (xs.map fun x => (nod p x).s) = true then some (xs.map fun x => (nod p x).s) else none
def Ql (s : ByteArray) : List (List ByteArray) -> Nat -> Option (Nat × Int)
 | [],_ => none
 | e :: r,n => if 0 <= xb (fun t => jJ s t) e then some (n,xb (fun t => jJ s t) e) else Ql s r (n + 1)
section
variable (E : List (List ByteArray) -> Int -> List In -> Option (List In))
def Ff (env : List (List ByteArray)) : List Int -> Bool -> List In -> Option (List In)
 | [],_,L => some L
 | x :: r,f,L => (if f = true then some L else emI L (inO 9)).bind fun L1 => (E env x L1).bind fun L2 => Ff env r false L2
def PB (names : List ByteArray) (body : List Int) (env : List (List ByteArray)) (L : List In) : Option (List In) :=
 (emI L ⟨6,(L.length : Int) + 2,names.length,⟨#[]⟩⟩).bind fun L1 => (emI L1 (inO 5)).bind fun L2 => (Ff E (names :: env) body true L2).bind fun L3 => (emI L3 (inO 8)).bind fun L4 => some (toI L4 L1.length)
def Mq (p : List Nd) (s : ByteArray) (xs : List Int) (env : List (List ByteArray)) (L : List In) : Option (List In) :=
 if jJ s (mk [113,117,111,116,101]) = true then
  if xs.length = 2 then emI L ⟨1,xs.getD 1 0,0,⟨#[]⟩⟩ else none
 else if jJ s (mk [105,102]) = true then
  if xs.length = 4 then
   (E env (xs.getD 1 0) L).bind fun L1 => (emI L1 (inO 4)).bind fun L2 => (E env (xs.getD 2 0) L2).bind fun L3 => (emI L3 (inO 5)).bind fun L4 =>
    (E env (xs.getD 3 0) (toI L4 L1.length)).bind fun L5 => some (toI L5 L3.length)
  else none
 else if jJ s (mk [100,111]) = true then none
 else if jJ s (mk [102,110]) = true then
  if 3 <= xs.length /\ (Cm p (xs.getD 1 0)).2 = true then (QS p (Cm p (xs.getD 1 0)).1).bind fun ns => PB E ns (xs.drop 2) env L else none
 else if jJ s (mk [108,101,116]) = true then
  if 4 <= xs.length then (QS p [xs.getD 1 0]).bind fun ns => (PB E ns (xs.drop 3) env L).bind fun L1 => (E env (xs.getD 2 0) L1).bind fun L2 => emI L2 ⟨7,0,1,⟨#[]⟩⟩ else none
 else none
def FX (env : List (List ByteArray)) : List Int -> List In -> Option (List In)
 | [],L => some L
 | x :: r,L => (E env x L).bind fun L1 => FX env r L1
end
def Fh (p : List Nd) : Nat -> List (List ByteArray) -> Int -> List In -> Option (List In)
 | 0,_,_,_ => none
 | k + 1,env,v,L =>
  let x := nod p v
  if x.kind = 1 \/ x.kind = 2 \/ x.kind = 3 then emI L ⟨1,v,0,⟨#[]⟩⟩
  else if x.kind = 4 then
   if PZ x.s = true then none else match Ql x.s env 0 with
    | some (n,i) => emI L ⟨2,n,i,⟨#[]⟩⟩
    | none => emI L ⟨3,0,0,x.s⟩
  else if x.kind = 5 /\ (Cm p v).2 = true then
   let xs := (Cm p v).1
   let h := nod p (xs.getD 0 0)
   if h.kind = 4 /\ PZ h.s = true then Mq (Fh p k) p h.s xs env L
   else if xs.length > 5 then none
   else (FX (Fh p k) env xs L).bind fun L1 => emI L1 ⟨7,0,(xs.length : Int) - 1,⟨#[]⟩⟩
  else none
def QE (p : List Nd) (env : List (List ByteArray)) (v : Int) (L : List In) : Option (List In) := Fh p (v.toNat + 1) env v L
def QB (p : List Nd) (s : ByteArray) (names : List ByteArray) (body : List Int) (L : List In) (ds : List Df) : Option (List In × List Df) :=
 if (ds.any fun d => jJ d.name s) = true \/ 20 <= ds.length then none else (Ff (QE p) [names] body true L).bind fun L1 => (emI L1 (inO 8)).bind fun L2 => some (L2,ds ++ [⟨s,L.length,names.length⟩])
def Qe (p : List Nd) (v : Int) (L : List In) (ds : List Df) : Option (List In × List Df) :=
 let l := Cm p v
 if l.2 = true /\ 0 < l.1.length /\ (nod p (l.1.getD 0 0)).kind = 4 /\ jJ (nod p (l.1.getD 0 0)).s (mk [100,101,102,105,110,101]) = true then
  let a := Cm p (l.1.getD 1 0)
  if 3 <= l.1.length /\ a.2 = true /\ 0 < a.1.length /\ nmC p (a.1.getD 0 0) = true then
   (QS p (a.1.drop 1)).bind fun ns => QB p (nod p (a.1.getD 0 0)).s ns (l.1.drop 2) L ds
  else none
 else QB p Gp [] [v] L ds
def DK (p : List Nd) (n : Int) : List Int -> List In -> List Df -> Option Cd
 | [],L,ds => if yp ⟨p,L,ds⟩ = true then some ⟨p,L,ds⟩ else none
 | x :: r,L,ds => (Qe p x L ds).bind fun q => DK p n r q.1 q.2

abbrev eCo (p : List Nd) (L : List In) (ds : List Df) : D := .op [.os (5,0) (p.map eN),.os (4,0) (L.map eIn),.os (3,0) (ds.map eDf),iN 0]
abbrev eEn (env : List (List ByteArray)) : List D := env.reverse.map fun e => D.rs (1,0) (e.map D.str)
theorem QM (b : ByteArray) : mk b.data.toList = b := by cases b; rfl
theorem SC {l : List ByteArray} (hl : l.length < 4611686018427387904) (s : ByteArray) : V 87 [.rs (1,0) (l.map D.str),.str s] = some (iN (xb (fun t => jJ s t) l),[]) := by
 have e1 : l.map D.str = (l.map fun b => b.data.toList).map fun x => D.str (mk x) := by
  rw [List.map_map]; exact List.map_congr_left fun b _ => by simp only [Function.comp_apply,QM]
 have e2 : xb (fun x => jJ s (mk x)) (l.map fun b => b.data.toList) = xb (fun t => jJ s t) l := by
  unfold xb; rw [List.findIdx?_map]; have : (fun x => jJ s (mk x)) ∘ (fun b : ByteArray => b.data.toList) = fun t => jJ s t := by funext b; simp only [Function.comp_apply,QM]
  rw [this]
 have h := FP (l := l.map fun b => b.data.toList) (by simpa using hl) s l.length 0 (by simp)
 rw [vy,e2,Int.natCast_zero,<- e1,lnM] at h
 rw [zl,lnM]
 exact h
theorem SB {l : List ByteArray} (hl : l.length < 4611686018427387904) (s : ByteArray) : V 77 [.rs (1,0) (l.map D.str),.str s] = some (.bool (l.any fun t => jJ s t),[]) := by
 rw [Al,yG (SC hl s),ED]
theorem EF (s : ByteArray) : V 62 [.str s] = some (.bool (PZ s),[]) := by
 have h : V 77 [.rs (1,0) [.str ⟨#[113,117,111,116,101]⟩,.str ⟨#[105,102]⟩,.str ⟨#[102,110]⟩,.str ⟨#[100,111]⟩,.str ⟨#[108,101,116]⟩,.str ⟨#[100,101,102,105,110,101]⟩],.str s] = some (.bool ((wrds.map mk).any fun t => jJ s t),[]) := SB (l := wrds.map mk) (by decide) s
 rw [List.any_map] at h
 rw [Kh,y3 h]
 rfl
theorem Pm {p : List Nd} (L : List In) (ds : List Df) {v : Int} (hv : InP p v) : V 41 [eCo p L ds,iN v] = some (.tup [.str (nod p v).s,.bool ((nod p v).kind == 4)],[eCo p L ds]) := by
 rw [DD,DH hv]
theorem Lr {L L' : List In} {x : In} (h : emI L x = some L') : L.length < 400 /\ L' = L ++ [x] := by
 unfold emI at h
 split at h
 ·cases h; exact ⟨‹_›,rfl⟩
 ·cases h
theorem Ar {p : List Nd} {L L' : List In} (ds : List Df) {x : In} (h : emI L x = some L') : V 65 [eCo p L ds,eIn x] = some (iN L.length,[eCo p L' ds]) := by
 obtain ⟨h1,rfl⟩ := Lr h
 have e : L.map eIn ++ [D.agg [iN x.op,iN x.n,iN x.i,D.str x.s]] = (L ++ [x]).map eIn := by simp
 rw [FE,e,vQ (xF (by rw [lnM]; simp only [ni]; omega)),vQ (xH rfl),xu (decide_eq_true (by rw [oQ,lnM]; simp only [ni,lnA,lnC,lnN]; omega)),xB,w64 (by rw [lnM]; simp only [ni,lnA,lnC,lnN]; omega) (by rw [lnM]; simp only [ni,lnA,lnC,lnN]; omega)]
 rw [lnM,lnA,lnC,lnN]
 simp [ni]
theorem Oq {p : List Nd} {L : List In} (ds : List Df) {k : Nat} (hk : k < L.length) : V 97 [eCo p L ds,iN k] = some (.tup [],[eCo p (toI L k) ds]) := by
 obtain ⟨x,hx⟩ := wt hk
 have hg : L.getD k (inO 0) = x := by rw [List.getD_eq_getElem?_getD,hx]; rfl
 have e : List.set (L.map eIn) k (D.agg (List.take 1 [iN x.op,iN x.n,iN x.i,D.str x.s] ++ [iN (ni (L.map eIn).length)] ++ List.drop 2 [iN x.op,iN x.n,iN x.i,D.str x.s])) = (toI L k).map eIn := by
  unfold toI; rw [hg,List.map_set,lnM]; rfl
 rw [EO,wK (xG rfl),xu (by rw [lnM]; exact xz hk),Int.toNat_natCast,w8 hx,wq,xB,e]
theorem KI {p : List Nd} (L : List In) (ds : List Df) {xs : List Int} (hl : xs.length <= 100000) (hx : ∀ x ∈ xs,InP p x) (hn : xs.all (nmC p) = true) : ∀ (k i : Nat),i + k = xs.length ->
  yr (xs.map eI) (ni (xs.map eI).length) (i : Int) 0 ((xs.take i).map fun x => D.str (nod p x).s) (p.map eN) (L.map eIn) (ds.map eDf) = yr (xs.map eI) (ni (xs.map eI).length) (xs.length : Int) 0 (xs.map fun x => D.str (nod p x).s) (p.map eN) (L.map eIn) (ds.map eDf)
 | 0,i,hi => by
  have : i = xs.length := by omega
  subst this
  rw [List.take_of_length_le (Nat.le_refl _)]
 | k + 1,i,hi => by
  obtain ⟨x,hg⟩ := wt (l := xs) (i := i) (by omega)
  have hp := hx x (List.mem_of_getElem? hg)
  have hnx := List.all_eq_true.1 hn x (List.mem_of_getElem? hg)
  unfold nmC at hnx
  rw [Bool.and_eq_true,Bool.not_eq_true'] at hnx
  have et : (xs.take i).map (fun x => D.str (nod p x).s) ++ [D.str (nod p x).s] = (xs.take (i + 1)).map fun x => D.str (nod p x).s := by
   rw [xo hg,List.map_append]; rfl
  have hlim : decide (ni ((xs.take (i + 1)).map fun x => D.str (nod p x).s).length <= LIM) = true := decide_eq_true (by rw [oQ]; simp only [ni,lnM,List.length_take]; omega)
  have hsp := EF (nod p x).s
  rw [hnx.2] at hsp
  rw [<- KI L ds hl hx hn k (i + 1) (by omega),zA,wK (by rw [lnM]; exact xA (by omega)),xu (by rw [lnM]; exact xz (by omega)),Int.toNat_natCast,w8 hg,xf,zh (Pm L ds hp),hnx.1,Bool.not_true,wJ,Bf hsp,wJ,et,xu hlim,xB,xN (by omega)]
theorem KJ {p : List Nd} (L : List In) (ds : List Df) {out : List ByteArray} (hl : out.length <= 100000) : ∀ (k i : Nat),i + k = out.length -> RT (out.take i) (out.drop i) = true ->
  yJ (ni (out.map D.str).length) (i : Int) (out.map D.str) 0 (p.map eN) (L.map eIn) (ds.map eDf) = some (.tup [.os (1,0) (out.map D.str),iN 0],[eCo p L ds])
 | 0,i,hi,_ => by
  rw [zp,vQ (by rw [lnM]; exact xt (by omega))]
 | k + 1,i,hi,hd => by
  obtain ⟨s,hs⟩ := wt (l := out) (i := i) (by omega)
  rw [sy hs,RT,Bool.and_eq_true,Bool.not_eq_true'] at hd
  have et : out.take i ++ [s] = out.take (i + 1) := by rw [xo hs]
  have ep : part (out.map D.str) (some (0,Int.toNat (i : Int))) = (out.take i).map D.str := by
   simp only [part,List.drop_zero,Int.toNat_natCast,List.map_take]
  have hh := SB (l := out.take i) (by simp only [List.length_take]; omega) s
  rw [hd.1] at hh
  rw [zp,wK (by rw [lnM]; exact xA (by omega)),xu (by rw [lnM]; exact xz (by omega)),Int.toNat_natCast,w8 hs,xj,xu (by simp only [cG,lnM,Bool.and_eq_true,decide_eq_true_eq]; omega),<- Int.toNat_natCast i,ep,y3 hh,wJ,Int.toNat_natCast,xN (by omega)]
  exact KJ L ds hl k (i + 1) (by omega) (by rw [<- et]; exact hd.2)
theorem Rv {p : List Nd} (L : List In) (ds : List Df) {xs : List Int} {ns : List ByteArray} (hx : ∀ x ∈ xs,InP p x) (h : QS p xs = some ns) : V 63 [eCo p L ds,.rs (1,0) (xs.map eI)] = some (.tup [.os (1,0) (ns.map D.str),iN 0],[eCo p L ds]) /\ ns.length <= 4 := by
 unfold QS at h
 split at h
 ·rename_i hc
  obtain ⟨h1,h2,h3⟩ := hc
  cases h
  have a := KI (p := p) L ds (by omega) hx h1 xs.length 0 (by omega)
  have b := KJ (p := p) L ds (out := xs.map fun x => (nod p x).s) (by rw [lnM]; omega) xs.length 0 (by rw [lnM]; omega) (by rw [List.take_zero,List.drop_zero]; exact h3)
  rw [List.map_map,Int.natCast_zero] at b
  rw [Int.natCast_zero,List.take_zero,List.map_nil] at a
  refine ⟨?_,by rw [lnM]; exact h2⟩
  rw [DN,a,zA,vQ (by rw [lnM]; exact xt (by omega)),vQ (decide_eq_false (by rw [lnM]; simp only [ni]; omega)),List.map_map]
  exact b
 ·cases h
end
end Go.Eng
/-! compiling: the program's side: expressions,definitions,programs -/
namespace Go.Eng
noncomputable section
open Go.Proofs Go.Proofs.Try
set_option maxHeartbeats 4000000

theorem bnd {α β : Type} {x : Option α} {f : α -> Option β} {b : β} (h : x.bind f = some b) : ∃ a,x = some a /\ f a = some b := by
 cases x with
 | none => cases h
 | some a => exact ⟨a,rfl,h⟩
def GV (E : List (List ByteArray) -> Int -> List In -> Option (List In)) : Prop := ∀ env v L L',E env v L = some L' -> L.length <= L'.length
theorem AA {L L' : List In} {x : In} (h : emI L x = some L') : L.length < L'.length := by
 obtain ⟨_,rfl⟩ := Lr h
 simp
theorem LK (L : List In) (k : Nat) : (toI L k).length = L.length := by unfold toI; simp
theorem K7 {E : List (List ByteArray) -> Int -> List In -> Option (List In)} (hE : GV E) (env : List (List ByteArray)) : ∀ (xs : List Int) (f : Bool) (L L' : List In),Ff E env xs f L = some L' -> L.length <= L'.length
 | [],f,L,L',h => by rw [Ff] at h; cases h; exact Nat.le_refl _
 | x :: r,f,L,L',h => by
  rw [Ff] at h
  obtain ⟨L1,h1,h⟩ := bnd h
  obtain ⟨L2,h2,h⟩ := bnd h
  have a := hE _ _ _ _ h2
  have b := K7 hE env r false L2 L' h
  cases f with
  | true => cases h1; omega
  | false => have := AA h1; omega
theorem OI {E : List (List ByteArray) -> Int -> List In -> Option (List In)} (hE : GV E) (env : List (List ByteArray)) : ∀ (xs : List Int) (L L' : List In),FX E env xs L = some L' -> L.length <= L'.length
 | [],L,L',h => by rw [FX] at h; cases h; exact Nat.le_refl _
 | x :: r,L,L',h => by
  rw [FX] at h
  obtain ⟨L1,h1,h⟩ := bnd h
  have a := hE _ _ _ _ h1
  have b := OI hE env r L1 L' h
  omega
theorem QF {E : List (List ByteArray) -> Int -> List In -> Option (List In)} (hE : GV E) {names : List ByteArray} {body : List Int} {env : List (List ByteArray)} {L L' : List In} (h : PB E names body env L = some L') : L.length <= L'.length := by
 unfold PB at h
 obtain ⟨L1,h1,h⟩ := bnd h
 obtain ⟨L2,h2,h⟩ := bnd h
 obtain ⟨L3,h3,h⟩ := bnd h
 obtain ⟨L4,h4,h⟩ := bnd h
 cases h
 have a1 := AA h1
 have a2 := AA h2
 have a3 := K7 hE _ _ _ _ _ h3
 have a4 := AA h4
 rw [LK]; omega
theorem RV {E : List (List ByteArray) -> Int -> List In -> Option (List In)} (hE : GV E) {p : List Nd} {s : ByteArray} {xs : List Int} {env : List (List ByteArray)} {L L' : List In} (h : Mq E p s xs env L = some L') : L.length <= L'.length := by
 unfold Mq at h
 split at h
 ·split at h
  ·have := AA h; omega
  ·cases h
 split at h
 ·split at h
  ·obtain ⟨L1,h1,h⟩ := bnd h
   obtain ⟨L2,h2,h⟩ := bnd h
   obtain ⟨L3,h3,h⟩ := bnd h
   obtain ⟨L4,h4,h⟩ := bnd h
   obtain ⟨L5,h5,h⟩ := bnd h
   cases h
   have a1 := hE _ _ _ _ h1
   have a2 := AA h2
   have a3 := hE _ _ _ _ h3
   have a4 := AA h4
   have a5 := hE _ _ _ _ h5
   rw [LK] at a5 ⊢
   omega
  ·cases h
 split at h
 ·cases h
 split at h
 ·split at h
  ·obtain ⟨ns,h1,h⟩ := bnd h
   exact QF hE h
  ·cases h
 split at h
 ·split at h
  ·obtain ⟨ns,h1,h⟩ := bnd h
   obtain ⟨L1,h2,h⟩ := bnd h
   obtain ⟨L2,h3,h⟩ := bnd h
   have a1 := QF hE h2
   have a2 := hE _ _ _ _ h3
   have a3 := AA h
   omega
  ·cases h
 ·cases h
theorem Lu (p : List Nd) : ∀ k,GV (Fh p k)
 | 0 => fun env v L L' h => by rw [Fh] at h; cases h
 | k + 1 => fun env v L L' h => by
  rw [Fh] at h
  simp only at h
  split at h
  ·have := AA h; omega
  split at h
  ·split at h
   ·cases h
   ·split at h
    ·have := AA h; omega
    ·have := AA h; omega
  split at h
  ·split at h
   ·exact RV (Lu p k) h
   ·split at h
    ·cases h
    ·obtain ⟨L1,h1,h⟩ := bnd h
     have a1 := OI (Lu p k) _ _ _ _ h1
     have a2 := AA h
     omega
  ·cases h

def EnvJ (env : List (List ByteArray)) (k : Nat) : Prop := env.length + k <= 10000 /\ ∀ e ∈ env,e.length <= 4
def GW (p : List Nd) (ds : List Df) (b : Int) (k : Nat) (E : List (List ByteArray) -> Int -> List In -> Option (List In)) : Prop :=
 ∀ env v L L',InP p v -> v < b -> EnvJ env k -> E env v L = some L' -> V 78 [eCo p L ds,iN v,.rs (1,1) (eEn env)] = some (.tup [],[eCo p L' ds])
theorem IP {p : List Nd} {ds : List Df} {b : Int} {k0 : Nat} {E : List (List ByteArray) -> Int -> List In -> Option (List In)} (hS : GW p ds b k0 E) {env : List (List ByteArray)} (he : EnvJ env k0) {xs : List Int} (hl : xs.length <= 100000) (hx : ∀ x ∈ xs,InP p x /\ x < b) : ∀ (k i : Nat) (L L' : List In),i + k = xs.length -> Ff E env (xs.drop i) (i == 0) L = some L' ->
  yz (eEn env) (xs.map eI) (ni (xs.map eI).length) (i : Int) 0 (p.map eN) (L.map eIn) (ds.map eDf) = some (.tup [],[eCo p L' ds])
 | 0,i,L,L',hi,h => by
  rw [List.drop_of_length_le (by omega),Ff] at h
  cases h
  rw [zG,vQ (by rw [lnM]; exact xt (by omega))]
 | k + 1,i,L,L',hi,h => by
  obtain ⟨x,hg⟩ := wt (l := xs) (i := i) (by omega)
  have hp := hx x (List.mem_of_getElem? hg)
  rw [sy hg,Ff] at h
  obtain ⟨L1,h1,h⟩ := bnd h
  obtain ⟨L2,h2,h⟩ := bnd h
  have hS2 := hS env x L1 L2 hp.1 hp.2 he h2
  have ih := IP hS he hl hx k (i + 1) L2 L' (by omega) (by rw [show (i + 1 == 0) = false by simp]; exact h)
  rw [zG,wK (by rw [lnM]; exact xA (by omega)),xu (by rw [lnM]; exact xz (by omega)),Int.toNat_natCast,w8 hg,xf]
  by_cases hi0 : i = 0
  ·subst hi0
   cases h1
   rw [vQ (decide_eq_false (by omega)),yB hS2,xN (by omega)]
   exact ih
  ·have hb : (i == 0) = false := by simpa using hi0
   rw [hb,if_neg (by decide)] at h1
   rw [wK (decide_eq_true (by omega)),xX (Ar ds h1),yB hS2,xN (by omega)]
   exact ih
theorem Pj {p : List Nd} {ds : List Df} {b : Int} {k0 : Nat} {E : List (List ByteArray) -> Int -> List In -> Option (List In)} (hS : GW p ds b k0 E) {env : List (List ByteArray)} (he : EnvJ env k0) {xs : List Int} (hl : xs.length <= 100000) (hx : ∀ x ∈ xs,InP p x /\ x < b) {L L' : List In} (h : Ff E env xs true L = some L') :
  V 64 [eCo p L ds,.rs (1,0) (xs.map eI),.rs (1,1) (eEn env)] = some (.tup [],[eCo p L' ds]) := by
 have := IP hS he hl hx xs.length 0 L L' (by omega) h
 rw [EJ]
 exact this
theorem IK {p : List Nd} {ds : List Df} {b : Int} {k0 : Nat} {E : List (List ByteArray) -> Int -> List In -> Option (List In)} (hS : GW p ds b k0 E) {env : List (List ByteArray)} (he : EnvJ env k0) {xs : List Int} (hl : xs.length <= 100000) (hx : ∀ x ∈ xs,InP p x /\ x < b) : ∀ (k i : Nat) (L L1 L' : List In),i + k = xs.length -> FX E env (xs.drop i) L = some L1 -> emI L1 ⟨7,0,(xs.length : Int) - 1,⟨#[]⟩⟩ = some L' ->
  xW (eEn env) (ni (xs.map eI).length) (i : Int) 0 (xs.map eI) (p.map eN) (L.map eIn) (ds.map eDf) = some (.tup [],[eCo p L' ds])
 | 0,i,L,L1,L',hi,h,h2 => by
  rw [List.drop_of_length_le (by omega),FX] at h
  cases h
  have h3 := Ar (p := p) ds h2
  rw [zz,vQ (by rw [lnM]; exact xt (by omega)),lnM,w64 (by simp only [ni]; omega) (by simp only [ni]; omega)]
  rw [xX h3]
 | k + 1,i,L,L1,L',hi,h,h2 => by
  obtain ⟨x,hg⟩ := wt (l := xs) (i := i) (by omega)
  have hp := hx x (List.mem_of_getElem? hg)
  rw [sy hg,FX] at h
  obtain ⟨L2,h1,h⟩ := bnd h
  have hS2 := hS env x L L2 hp.1 hp.2 he h1
  have ih := IK hS he hl hx k (i + 1) L2 L1 L' (by omega) h h2
  rw [zz,wK (by rw [lnM]; exact xA (by omega)),xu (by rw [lnM]; exact xz (by omega)),Int.toNat_natCast,w8 hg,xf,yB hS2,xN (by omega)]
  exact ih
theorem RU {env : List (List ByteArray)} {n : Nat} {e : List ByteArray} (h : env[n]? = some e) : (eEn env)[env.length - 1 - n]? = some (D.rs (1,0) (e.map D.str)) := by
 have hn := aQ h
 rw [List.getElem?_map,List.getElem?_reverse (by omega),show env.length - 1 - (env.length - 1 - n) = n by omega,h]
 rfl
theorem Gd (env : List (List ByteArray)) : (eEn env).length = env.length := by simp
theorem KY {p : List Nd} {ds : List Df} {env : List (List ByteArray)} (he : env.length <= 10000) (h4 : ∀ e ∈ env,e.length <= 4) {s : ByteArray} {L L' : List In} : ∀ (k n : Nat),n + k = env.length -> (match Ql s (env.drop n) n with | some (a,i) => emI L ⟨2,a,i,⟨#[]⟩⟩ | none => emI L ⟨3,0,0,s⟩) = some L' ->
  yv s (eEn env) ((env.length : Int) - 1 - n) 0 (p.map eN) (L.map eIn) (ds.map eDf) = some (.tup [],[eCo p L' ds])
 | 0,n,hn,h => by
  rw [List.drop_of_length_le (by omega),Ql] at h
  rw [zi,vQ (decide_eq_false (by omega)),xX (Ar ds h)]
 | k + 1,n,hn,h => by
  obtain ⟨e,hg⟩ := wt (l := env) (i := n) (by omega)
  have hx := RU hg
  have ht : ((env.length : Int) - 1 - n).toNat = env.length - 1 - n := by omega
  have hi := SC (l := e) (by have := h4 e (List.mem_of_getElem? hg); omega) s
  rw [sy hg,Ql] at h
  rw [zi,wK (decide_eq_true (by omega)),xu (by rw [Gd]; simp only [ni,Bool.and_eq_true,decide_eq_true_eq]; omega),ht]
  unfold cz
  rw [hx]
  simp only
  rw [xi,yG hi]
  by_cases h0 : 0 <= xb (fun t => jJ s t) e
  ·rw [if_pos h0] at h
   have h3 := Ar (p := p) ds h
   rw [wK (decide_eq_true h0),Gd,w64 (n := ni env.length - 1) (by simp only [ni]; omega) (by simp only [ni]; omega),w64 (by simp only [ni]; omega) (by simp only [ni]; omega),show ni env.length - 1 - ((env.length : Int) - 1 - n) = (n : Int) by simp only [ni]; omega,xX h3]
  ·rw [if_neg h0] at h
   rw [vQ (decide_eq_false h0),w64 (by omega) (by omega),show (env.length : Int) - 1 - n - 1 = (env.length : Int) - 1 - ((n + 1 : Nat) : Int) by omega]
   exact KY he h4 k (n + 1) (by omega) h
theorem OC {p : List Nd} {ds : List Df} {env : List (List ByteArray)} {k : Nat} (he : EnvJ env k) {s : ByteArray} (hs : PZ s = false) {L L' : List In} (h : (match Ql s env 0 with | some (a,i) => emI L ⟨2,a,i,⟨#[]⟩⟩ | none => emI L ⟨3,0,0,s⟩) = some L') :
  V 88 [eCo p L ds,.str s,.rs (1,1) (eEn env)] = some (.tup [],[eCo p L' ds]) := by
 have h1 := EF s
 rw [hs] at h1
 have h2 := KY (p := p) (ds := ds) (by have := he.1; omega) he.2 env.length 0 (by omega) h
 rw [CH,Bf h1,wJ,Gd,w64 (by simp only [ni]; omega) (by have := he.1; simp only [ni]; omega)]
 rw [show (env.length : Int) - 1 - ((0 : Nat) : Int) = ni env.length - 1 by simp only [ni]; omega] at h2
 exact h2
theorem Sf {env : List (List ByteArray)} {k : Nat} (he : EnvJ env k) : V 98 [.rs (1,1) (eEn env)] = some (.os (1,1) (eEn env),[]) := by
 rw [A8,List.nil_append,xu (decide_eq_true (by have := he.1; rw [oQ,Gd]; simp only [ni]; omega)),xB]
 exact vX _ _
theorem JS {p : List Nd} {ds : List Df} {b : Int} {k0 : Nat} {E : List (List ByteArray) -> Int -> List In -> Option (List In)} (hE : GV E) (hS : GW p ds b k0 E) {env : List (List ByteArray)} (he : EnvJ env (k0 + 1)) {names : List ByteArray} (hn : names.length <= 4) {xs : List Int} (hl : xs.length <= 100000) (hx : ∀ x ∈ xs,InP p x /\ x < b) {L L' : List In} (h : PB E names xs env L = some L') :
  V 95 [eCo p L ds,.rs (1,0) (names.map D.str),.rs (1,0) (xs.map eI),.rs (1,1) (eEn env)] = some (.tup [],[eCo p L' ds]) := by
 unfold PB at h
 obtain ⟨L1,h1,h⟩ := bnd h
 obtain ⟨L2,h2,h⟩ := bnd h
 obtain ⟨L3,h3,h⟩ := bnd h
 obtain ⟨L4,h4,h⟩ := bnd h
 cases h
 have g1 := (Lr h1).1
 have a1 := AA h1
 have a2 := AA h2
 have a3 := K7 hE _ _ _ _ _ h3
 have a4 := AA h4
 have b1 := Ar (p := p) ds h1
 have e1 : w6 (ni (L.map eIn).length + 2) = (L.length : Int) + 2 := by rw [lnM]; exact w64 (by simp only [ni]; omega) (by simp only [ni]; omega)
 have e2 : ni (names.map D.str).length = (names.length : Int) := by rw [lnM]
 have e3 : eEn env ++ [D.rs (1,0) (names.map D.str)] = eEn (names :: env) := by simp
 have he2 : EnvJ (names :: env) k0 := ⟨by have := he.1; simp; omega,fun e h => by rcases List.mem_cons.1 h with rfl | h; exact hn; exact he.2 e h⟩
 have b3 := Pj hS he2 hl hx h3
 rw [CG,e1,e2,xX b1,xX (Ar ds h2),AI (Sf he),e3,xu (decide_eq_true (by have := he2.1; rw [oQ,Gd]; simp only [ni]; omega)),xB,CR b3,xX (Ar ds h4),Am (Oq ds (L := L4) (k := L1.length) (by omega))]
theorem Rl {p : List Nd} {ds : List Df} {b : Int} {k0 : Nat} {E : List (List ByteArray) -> Int -> List In -> Option (List In)} (hE : GV E) (hS : GW p ds b k0 E) {env : List (List ByteArray)} (he : EnvJ env k0) {w x y z : Int} (hx : InP p x /\ x < b) (hy : InP p y /\ y < b) (hz : InP p z /\ z < b) {L L1 L2 L3 L4 L5 : List In}
  (h1 : E env x L = some L1) (h2 : emI L1 (inO 4) = some L2) (h3 : E env y L2 = some L3) (h4 : emI L3 (inO 5) = some L4) (h5 : E env z (toI L4 L1.length) = some L5) :
  V 94 [eCo p L ds,.rs (1,0) ([w,x,y,z].map eI),.rs (1,1) (eEn env)] = some (.tup [],[eCo p (toI L5 L3.length) ds]) := by
 have a2 := AA h2
 have a3 := hE _ _ _ _ h3
 have a4 := AA h4
 have a5 := hE _ _ _ _ h5
 rw [LK] at a5
 rw [DB,Dc,yB (hS _ _ _ _ hx.1 hx.2 he h1),xX (Ar ds h2),Lv,yB (hS _ _ _ _ hy.1 hy.2 he h3),xX (Ar ds h4),Am (Oq ds (L := L4) (k := L1.length) (by omega)),QH,yB (hS _ _ _ _ hz.1 hz.2 he h5),Am (Oq ds (L := L5) (k := L3.length) (by omega))]
theorem EnvJ.less {env : List (List ByteArray)} {k : Nat} (h : EnvJ env (k + 1)) : EnvJ env k := ⟨by have := h.1; omega,h.2⟩
theorem Ny (l : List Int) (k : Nat) (K : Int) (hK : K.toNat = k) : vi (l.map eI) K = (l.drop k).map eI := by
 unfold vi; rw [hK,<- List.map_drop]
theorem Si {p : List Nd} (hp : yb p) (hpl : p.length <= 5000) {ds : List Df} {b : Int} {k0 : Nat} {E : List (List ByteArray) -> Int -> List In -> Option (List In)} (hE : GV E) (hS : GW p ds b k0 E) {env : List (List ByteArray)} (he : EnvJ env (k0 + 1)) {s : ByteArray} {xs : List Int} (hl : xs.length <= 100000) (hx : ∀ x ∈ xs,InP p x /\ x < b) {L L' : List In} (h : Mq E p s xs env L = some L') :
  V 89 [eCo p L ds,.str s,.rs (1,0) (xs.map eI),.rs (1,1) (eEn env)] = some (.tup [],[eCo p L' ds]) := by
 have kill : ∀ {x : List UInt8} {y : Bool},jJ s (mk x) = y -> jJ s ⟨⟨x⟩⟩ = y := fun h => h
 unfold Mq at h
 by_cases hq : jJ s (mk [113,117,111,116,101]) = true
 ·rw [if_pos hq] at h
  split at h
  ·rename_i h2
   obtain ⟨a,c,rfl⟩ : ∃ a c,xs = [a,c] := by
    match xs,h2 with
    | [a,c],_ => exact ⟨a,c,rfl⟩
   have h : emI L ⟨1,c,0,⟨#[]⟩⟩ = some L' := h
   rw [y8,wK (kill hq),wK (by rfl),Dc,xX (Ar ds h)]
  ·cases h
 rw [if_neg hq] at h
 have hq := eq_false_of_ne_true hq
 by_cases hif : jJ s (mk [105,102]) = true
 ·rw [if_pos hif] at h
  split at h
  ·rename_i h4
   obtain ⟨w,x,y,z,rfl⟩ : ∃ w x y z,xs = [w,x,y,z] := by
    match xs,h4 with
    | [w,x,y,z],_ => exact ⟨w,x,y,z,rfl⟩
   obtain ⟨L1,h1,h⟩ := bnd h
   obtain ⟨L2,h2,h⟩ := bnd h
   obtain ⟨L3,h3,h⟩ := bnd h
   obtain ⟨L4,h4,h⟩ := bnd h
   obtain ⟨L5,h5,h⟩ := bnd h
   cases h
   have hb := Rl hE hS he.less (w := w) (hx x (by simp)) (hx y (by simp)) (hx z (by simp)) h1 h2 h3 h4 h5
   rw [y8,vQ (kill hq),wK (kill hif),wK (by rfl),FQ hb]
  ·cases h
 rw [if_neg hif] at h
 have hif := eq_false_of_ne_true hif
 by_cases hdo : jJ s (mk [100,111]) = true
 ·rw [if_pos hdo] at h; cases h
 rw [if_neg hdo] at h
 have hdo := eq_false_of_ne_true hdo
 by_cases hfn : jJ s (mk [102,110]) = true
 ·rw [if_pos hfn] at h
  split at h
  ·rename_i h3
   obtain ⟨h3,h2⟩ := h3
   obtain ⟨ns,h1,h6⟩ := bnd h
   obtain ⟨w,x,r,rfl⟩ : ∃ w x r,xs = w :: x :: r := by
    match xs,h3 with
    | w :: x :: r,_ => exact ⟨w,x,r,rfl⟩
    | [_],h => simp at h
    | [],h => simp at h
   have hx1 := (hx x (by simp)).1
   have b1 := C7 hp (by omega) hx1
   simp only [List.getD_cons_succ,List.getD_cons_zero] at h1 h2
   rw [h2] at b1
   obtain ⟨b2,b3⟩ := Rv L ds (Dd hp hx1) h1
   have b4 := JS hE hS he b3 (xs := (w :: x :: r).drop 2) (by rw [List.length_drop]; omega) (fun x h => hx x (List.mem_of_mem_drop h)) h6
   rw [y8,vQ (kill hq),vQ (kill hif),vQ (kill hdo),wK (kill hfn),wK (decide_eq_true (by rw [lnM]; simp only [ni]; omega)),Dc,zb b1,Bool.not_true,wJ,Ae b2,vQ (xH rfl),xu (by simp only [cG,lnM,Bool.and_eq_true,decide_eq_true_eq]; omega),Ny _ 2 2 rfl,AF b4]
  ·cases h
 rw [if_neg hfn] at h
 have hfn := eq_false_of_ne_true hfn
 by_cases hlt : jJ s (mk [108,101,116]) = true
 ·rw [if_pos hlt] at h
  split at h
  ·rename_i h4
   obtain ⟨ns,h1,h⟩ := bnd h
   obtain ⟨L1,h2,h⟩ := bnd h
   obtain ⟨L2,h3,h6⟩ := bnd h
   obtain ⟨w,x,y,r,rfl⟩ : ∃ w x y r,xs = w :: x :: y :: r := by
    match xs,h4 with
    | w :: x :: y :: r,_ => exact ⟨w,x,y,r,rfl⟩
    | [_,_],h => simp at h
    | [_],h => simp at h
    | [],h => simp at h
   simp only [List.getD_cons_succ,List.getD_cons_zero] at h1 h3
   obtain ⟨b2,b3⟩ := Rv (p := p) L ds (xs := [x]) (fun u h => by rw [List.mem_singleton.1 h]; exact (hx x (by simp)).1) h1
   have b4 := JS hE hS he b3 (xs := (w :: x :: y :: r).drop 3) (by rw [List.length_drop]; omega) (fun x h => hx x (List.mem_of_mem_drop h)) h2
   have hy := hx y (by simp)
   have ec : vi (vh ((w :: x :: y :: r).map eI) 2) 1 = [x].map eI := rfl
   rw [y8,vQ (kill hq),vQ (kill hif),vQ (kill hdo),vQ (kill hfn),wK (kill hlt),wK (decide_eq_true (by rw [lnM]; simp only [ni]; omega)),xu (by simp only [cG,lnM,lnC,Bool.and_eq_true,decide_eq_true_eq]; omega),ec,Ae b2,vQ (xH rfl),xu (by simp only [cG,lnM,Bool.and_eq_true,decide_eq_true_eq]; omega),Ny _ 3 3 rfl,AF b4,Lv,yB (hS _ _ _ _ hy.1 hy.2 he.less h3),xX (Ar ds h6)]
  ·cases h
 rw [if_neg hlt] at h
 cases h
end
end Go.Eng
/-! a step of a machine: the reference's side: the stack,the frames,calls -/
namespace Go.Eng
open Go.Proofs Go.Proofs.Try
set_option maxHeartbeats 4000000

end Go.Eng
/-! compiling: the reference's side -/
namespace Go.Eng
open Go.Proofs Go.Proofs.Try
set_option maxHeartbeats 4000000

structure Le (m m' : Ms) : Prop where
 len : m.list.length <= m'.list.length
 four : m'.list.length <= 400
 how : m'.how = 0 -> m.how = 0
 defs : m'.defs = m.defs
theorem Le.refl {m : Ms} (h : m.list.length <= 400) : Le m m := ⟨Nat.le_refl _,h,id,rfl⟩
theorem Le.trans {a b c : Ms} (h : Le a b) (h2 : Le b c) : Le a c := ⟨Nat.le_trans h.len h2.len,h2.four,fun x => h.how (h2.how x),h2.defs.trans h.defs⟩
end Go.Eng
/-! compiling: the reference's side: expressions -/
namespace Go.Eng
open Go.Proofs Go.Proofs.Try
set_option maxHeartbeats 4000000

theorem OX {p : List Nd} (hp : yb p) : ∀ (k : Nat) (v : Int),InP p v -> ∀ x ∈ (Fc p k v).1,x < v
 | 0,v,hv,x,hx => by simp [Fc] at hx
 | k + 1,v,hv,x,hx => by
  unfold Fc at hx
  split at hx
  ·rename_i h5
   have := yN (D5 hp hv) h5
   rcases List.mem_cons.1 hx with rfl | hx
   ·omega
   ·have := OX hp k _ (Ic hp hv h5) x hx; omega
  ·simp at hx
theorem R4 {p : List Nd} (hp : yb p) {v : Int} (hv : InP p v) : ∀ x ∈ (Cm p v).1,x < v := OX hp _ v hv
theorem Mz {p : List Nd} (v : Int) : (Cm p v).1.length <= v.toNat + 1 := My _ _
section
variable {p : List Nd} {k : Nat} {E : List (List ByteArray) -> Int -> Ms -> Ms}
end
theorem R5 {p : List Nd} {v : Int} (h : (nod p v).kind = 5) : (Cm p v).1 ≠ [] := by
 unfold Cm Fc
 rw [if_pos h]
 simp
end Go.Eng
/-! compiling: the program's side: every expression; programs -/
namespace Go.Eng
open Go.Proofs Go.Proofs.Try
set_option maxHeartbeats 4000000

theorem Pk {p : List Nd} (hp : yb p) (hpl : p.length <= 5000) (ds : List Df) : ∀ k : Nat,k <= 5000 -> GW p ds k k (Fh p k)
 | 0,_ => fun env v L L' hv hlt he h => by rw [Fh] at h; cases h
 | k + 1,hk => fun env v L L' hv hlt he h => by
  have ih := Pk hp hpl ds k (by omega)
  have hG := Lu p k
  rw [Fh] at h
  simp only at h
  rw [EK,vQ (xH rfl),DH hv]
  by_cases k123 : (nod p v).kind = 1 \/ (nod p v).kind = 2 \/ (nod p v).kind = 3
  ·rw [if_pos k123] at h
   have b := Ar (p := p) ds h
   rcases k123 with k1 | k1 | k1
   ·rw [vQ (xF (by omega)),vQ (xF (by omega)),wK (xG k1),xX b]
   ·rw [wK (xG k1),wK (xG k1),xX b]
   ·rw [vQ (xF (by omega)),wK (xG k1),wK (xG k1),xX b]
  rw [if_neg k123] at h
  have k1 : (nod p v).kind ≠ 1 := fun h => k123 (.inl h)
  have k2 : (nod p v).kind ≠ 2 := fun h => k123 (.inr (.inl h))
  have k3 : (nod p v).kind ≠ 3 := fun h => k123 (.inr (.inr h))
  rw [vQ (xF k2),vQ (xF k3),vQ (xF k1)]
  by_cases k4 : (nod p v).kind = 4
  ·rw [if_pos k4] at h
   split at h
   ·cases h
   ·rename_i hr
    rw [wK (xG k4),D7 (OC he (eq_false_of_ne_true hr) h)]
  rw [if_neg k4] at h
  rw [vQ (xF k4)]
  split at h
  ·rename_i h5
   obtain ⟨k5,hb⟩ := h5
   have b1 := C7 hp (by omega) hv
   have ll := Mz (p := p) v
   have hne := R5 k5
   have hin := Dd hp hv
   have hlt2 := R4 hp hv
   rw [hb] at b1
   rw [wK (xG k5),zb b1,Bool.not_true,wJ]
   generalize hxs : (Cm p v).1 = xs at ll hne hin hlt2 h ⊢
   have hx : ∀ x ∈ xs,InP p x /\ x < (k : Int) := fun x h => ⟨hin x h,by have := hlt2 x h; omega⟩
   obtain ⟨a,r,rfl⟩ : ∃ a r,xs = a :: r := by
    cases xs with
    | nil => exact absurd rfl hne
    | cons a r => exact ⟨a,r,rfl⟩
   have ha := hin a (by simp)
   have hl : (a :: r).length <= 100000 := by have := hv.2; omega
   simp only [List.getD_cons_zero] at h
   rw [zr,zh (Pm L ds ha)]
   have fin : (a :: r).length <= 5 -> ∀ L1,FX (Fh p k) env (a :: r) L = some L1 -> emI L1 ⟨7,0,((a :: r).length : Int) - 1,⟨#[]⟩⟩ = some L' -> br (decide (w6 (ni ((a :: r).map eI).length - 1) > 4)) (iy V 61 [eCo p L ds,iN 1] fun x_1 l_1 => il x_1 fun l => unn l (unc l_1 fun x1 l1 => tk2 x1 fun l5 l8 l11 n14 => (unn l1 (some (.tup [],[.op [.os (5,0) l5,.os (4,0) l8,.os (3,0) l11,iN n14]]))))) (xW (eEn env) (ni ((a :: r).map eI).length) 0 0 ((a :: r).map eI) (p.map eN) (L.map eIn) (ds.map eDf)) = some (.tup [],[eCo p L' ds]) := fun h5 L1 h1 h2 => by
    have w : w6 (ni ((a :: r).map eI).length - 1) = ((a :: r).length : Int) - 1 := by rw [lnM]; exact w64 (by simp only [ni]; omega) (by simp only [ni]; omega)
    have hlo := IK ih he.less hl hx (a :: r).length 0 L L1 L' (by omega) h1 h2
    rw [w,vQ (decide_eq_false (by omega))]
    exact hlo
   by_cases h4 : (nod p a).kind = 4
   ·rw [xG h4,xl,Bf (EF _)]
    cases hr : PZ (nod p a).s with
    | true =>
     rw [if_pos ⟨h4,hr⟩] at h
     have b := Si hp hpl hG ih he hl hx h
     rw [xl,GQ b]
    | false =>
     rw [if_neg (fun q => by rw [hr] at q; exact absurd q.2 (by decide))] at h
     split at h
     ·cases h
     ·rename_i h5
      obtain ⟨L1,h1,h2⟩ := bnd h
      rw [wJ]
      exact fin (by omega) L1 h1 h2
   ·rw [if_neg (fun q => h4 q.1)] at h
    rw [xF h4,wJ]
    split at h
    ·cases h
    ·rename_i h5
     obtain ⟨L1,h1,h2⟩ := bnd h
     exact fin (by omega) L1 h1 h2
  ·cases h
theorem Tt {p : List Nd} (hp : yb p) (hpl : p.length <= 4000) (ds : List Df) : GW p ds p.length 5000 (QE p) := fun env v L L' hv hlt he h => by
 unfold QE at h
 exact Pk hp (by omega) ds (v.toNat + 1) (by have := hv.2; omega) env v L L' hv (by have := hv.1; omega) ⟨by have := he.1; have := hv.2; omega,he.2⟩ h
theorem Rt {p : List Nd} {L : List In} {ds : List Df} (hd : ds.length <= 20) (s : ByteArray) : V 23 [.agg [.rs (5,0) (p.map eN),.rs (4,0) (L.map eIn),.rs (3,0) (ds.map eDf)],.str s] = some (iN (xb (fun d : Df => jJ d.name s) ds),[]) := by
 have h := Cj (l := ds) (by omega) s ds.length 0 (Nat.zero_add _)
 rw [vy,Int.natCast_zero] at h
 have h2 : V 46 [.rs (3,0) (ds.map eDf),.fn 47 [.bp [.str s]]] = some (iN (xb (fun d : Df => jJ d.name s) ds),[]) := by
  rw [CE]; exact h
 rw [G9,zT h2]
theorem Rq {p : List Nd} (hp : yb p) (hpl : p.length <= 4000) {s : ByteArray} {names : List ByteArray} (hn : names.length <= 4) {body : List Int} (hbl : body.length <= 100000) (hb : ∀ x ∈ body,InP p x) {L : List In} {ds : List Df} {r : List In × List Df} (h : QB p s names body L ds = some r) :
  V 43 [eCo p L ds,.str s,.rs (1,0) (names.map D.str),.rs (1,0) (body.map eI)] = some (.tup [],[eCo p r.1 r.2]) /\ r.2.length <= 20 := by
 unfold QB at h
 split at h
 ·cases h
 ·rename_i hc
  have hany : (ds.any fun d => jJ d.name s) = false := eq_false_of_ne_true fun e => hc (.inl e)
  have hd : ds.length < 20 := Nat.lt_of_not_le fun e => hc (.inr e)
  obtain ⟨L1,h1,h⟩ := bnd h
  obtain ⟨L2,h2,h⟩ := bnd h
  cases h
  have e1 := Rt (p := p) (L := L) (ds := ds) (by omega) s
  have e2 : ds.map eDf ++ [D.agg [D.str s,iN (ni (L.map eIn).length),iN (ni (names.map D.str).length)]] = (ds ++ [(⟨s,L.length,names.length⟩ : Df)]).map eDf := by
   rw [List.map_append,lnM,lnM]; rfl
  have e3 : V 64 [eCo p L (ds ++ [(⟨s,L.length,names.length⟩ : Df)]),.rs (1,0) (body.map eI),.rs (1,1) [.rs (1,0) (names.map D.str)]] = _ := Pj (Tt hp hpl (ds ++ [(⟨s,L.length,names.length⟩ : Df)])) (env := [names]) ⟨by simp,fun e he => by rw [List.mem_singleton.1 he]; exact hn⟩ hbl (fun x h => ⟨hb x h,(hb x h).2⟩) h1
  have e4 := Ar (p := p) (ds ++ [(⟨s,L.length,names.length⟩ : Df)]) h2
  refine ⟨?_,by simp; omega⟩
  rw [DC,Jv e1,ED,hany,wJ,e2,xu (decide_eq_true (by rw [oQ,lnM]; simp only [ni,lnA,lnC,lnN]; omega)),xB]
  rw [CR e3,xX e4]
theorem Tm {p : List Nd} (hp : yb p) (hpl : p.length <= 4000) {v : Int} (hv : InP p v) {L : List In} {ds : List Df} {res : List In × List Df} (h : Qe p v L ds = some res) :
  V 21 [eCo p L ds,iN v] = some (.tup [],[eCo p res.1 res.2]) /\ (ds.length <= 20 -> res.2.length <= 20) := by
 have b1 := C7 hp (by omega) hv
 have dm : QB p Gp [] [v] L ds = some res -> V 43 [eCo p L ds,.str ⟨#[109,97,105,110]⟩,.rs (1,0) [],.rs (1,0) [iN v]] = some (.tup [],[eCo p res.1 res.2]) /\ res.2.length <= 20 := fun h => Rq hp hpl (names := []) (by simp) (body := [v]) (by simp) (fun x h => by rw [List.mem_singleton.1 h]; exact hv) h
 unfold Qe at h
 simp only at h
 rw [FF,zb b1]
 have hin := Dd hp hv
 have ll := Mz (p := p) v
 generalize (Cm p v).1 = xs at h hin ll ⊢
 cases hb : (Cm p v).2 with
 | false =>
  rw [hb,if_neg (fun q => absurd q.1 (by decide))] at h
  obtain ⟨g1,g2⟩ := dm h
  rw [wJ,yQ g1]
  exact ⟨rfl,fun _ => g2⟩
 | true =>
  rw [hb] at h
  rw [xl]
  match xs,h,hin,ll with
  | [],h,hin,ll =>
   rw [if_neg (fun q => absurd q.2.1 (by simp))] at h
   obtain ⟨g1,g2⟩ := dm h
   rw [vQ (by rfl),yQ g1]
   exact ⟨rfl,fun _ => g2⟩
  | a :: r',h,hin,ll =>
   have ha := hin a (by simp)
   simp only [List.getD_cons_zero] at h
   rw [wK (decide_eq_true (by rw [lnM]; simp only [ni,lnC]; omega)),zr,zh (Pm L ds ha)]
   by_cases h4 : (nod p a).kind = 4
   ·rw [xG h4,xl]
    by_cases hs : jJ (nod p a).s (mk [100,101,102,105,110,101]) = true
    ·have hs' : jJ (nod p a).s ⟨#[100,101,102,105,110,101]⟩ = true := hs
     rw [if_pos ⟨trivial,by simp,h4,hs⟩] at h
     rw [hs',xl]
     split at h
     ·rename_i hc
      obtain ⟨c1,c2,c3,c4⟩ := hc
      obtain ⟨ns,h1,h⟩ := bnd h
      obtain ⟨b,c,r,rfl⟩ : ∃ b c r'',r' = b :: c :: r'' := by
       match r',c1 with
       | b :: c :: r',_ => exact ⟨b,c,r',rfl⟩
       | [],h => simp at h
       | [_],h => simp at h
      simp only [List.getD_cons_succ,List.getD_cons_zero] at c2 c3 c4 h1 h
      have hb1 := hin b (by simp)
      have b2 := C7 hp (by omega) hb1
      have i2 := Dd hp hb1
      rw [c2] at b2
      generalize (Cm p b).1 = ys at b2 c3 c4 i2 h1 h
      obtain ⟨f,q,rfl⟩ : ∃ f q,ys = f :: q := by
       cases ys with
       | nil => simp at c3
       | cons f q => exact ⟨f,q,rfl⟩
      have hf := i2 f (by simp)
      simp only [List.getD_cons_zero] at c4 h
      unfold nmC at c4
      rw [Bool.and_eq_true,Bool.not_eq_true'] at c4
      have hsp := EF (nod p f).s
      rw [c4.2] at hsp
      obtain ⟨g1,g2⟩ := Rv L ds (xs := (f :: q).drop 1) (fun x h => i2 x (List.mem_of_mem_drop h)) h1
      obtain ⟨g3,g4⟩ := Rq hp hpl g2 (body := (a :: b :: c :: r).drop 2) (by have := hv.2; rw [List.length_drop]; omega) (fun x h => hin x (List.mem_of_mem_drop h)) h
      have ep : part ((f :: q).map eI) (some (Int.toNat 1,((f :: q).map eI).length - Int.toNat 1)) = ((f :: q).drop 1).map eI := by
       simp only [part,List.map_cons,List.drop_succ_cons,List.drop_zero,Int.toNat_one]
       exact List.take_of_length_le (by simp)
      have hdef : V 42 [eCo p L ds,.rs (1,0) ((a :: b :: c :: r).map eI)] = some (.tup [],[eCo p res.1 res.2]) := by
       rw [BI,vQ (decide_eq_false (by rw [lnM]; simp only [ni,lnC]; omega)),Dc,zb b2,Bool.not_true,wJ,vQ (xF (by rw [lnM]; simp only [ni,lnC]; omega)),zr,zh (Pm L ds hf),c4.1,Bool.not_true,wJ,Bf hsp,wJ,xu (by simp only [cG,lnM,lnC,Bool.and_eq_true,decide_eq_true_eq]; omega),ep,Ae g1,vQ (xH rfl),xu (by simp only [cG,lnM,lnC,Bool.and_eq_true,decide_eq_true_eq]; omega),Ny _ 2 2 rfl,yQ g3]
      rw [De hdef]
      exact ⟨rfl,fun _ => g4⟩
     ·cases h
    ·have hs' : jJ (nod p a).s ⟨#[100,101,102,105,110,101]⟩ = false := eq_false_of_ne_true hs
     rw [if_neg (fun q => hs q.2.2.2)] at h
     obtain ⟨g1,g2⟩ := dm h
     rw [hs',wJ,yQ g1]
     exact ⟨rfl,fun _ => g2⟩
   ·rw [if_neg (fun q => h4 q.2.2.1)] at h
    obtain ⟨g1,g2⟩ := dm h
    rw [xF h4,wJ,yQ g1]
    exact ⟨rfl,fun _ => g2⟩
noncomputable def Mo (c : Cd) : Bool := c.list.all (fun x => decide (x.s.size <= 1000000)) && c.defs.all (fun x => decide (x.name.size <= 1000000))
theorem Kw {p : List Nd} (hpo : xR p = true) (hpl : p.length <= 3000) {xs : List Int} (hxl : xs.length <= 100000) (hx : ∀ x ∈ xs,InP p x) {c : Cd} (hfc : Mo c = true) : ∀ (k i : Nat) (L : List In) (ds : List Df),i + k = xs.length -> ds.length <= 20 -> DK p xs.length (xs.drop i) L ds = some c ->
  yI (xs.map eI) (xs.map eI) (ni (xs.map eI).length) (i : Int) 0 (p.map eN) (L.map eIn) (ds.map eDf) = some (.tup [oCd c,iN 0,iN xs.length],[])
 | 0,i,L,ds,hi,hd,h => by
  rw [List.drop_of_length_le (by omega),DK] at h
  split at h
  ·rename_i hok
   cases h
   have hp : yb p := (okPool_iff.1 hpo).1
   unfold Mo at hfc
   simp only [Bool.and_eq_true,List.all_eq_true,decide_eq_true_eq] at hfc
   have hc := Cw (c := ⟨p,L,ds⟩) ⟨zU hp,by show p.length < _; omega,fun x h => by have := hfc.1 x h; omega,by have := (y4 hok).2.1; show L.length < _; simp only at this; omega,fun x h => by have := hfc.2 x h; omega,by show ds.length < _; omega⟩
   rw [hok] at hc
   rw [zn,vQ (by rw [lnM]; exact xt (by omega)),MG hc,Bool.not_true,wJ,lnM]
  ·cases h
 | k + 1,i,L,ds,hi,hd,h => by
  have hp : yb p := (okPool_iff.1 hpo).1
  obtain ⟨x,hg⟩ := wt (l := xs) (i := i) (by omega)
  rw [sy hg,DK] at h
  obtain ⟨q,h1,h⟩ := bnd h
  obtain ⟨g1,g2⟩ := Tm hp (by omega) (hx x (List.mem_of_getElem? hg)) h1
  have ih := Kw hpo hpl hxl hx hfc k (i + 1) q.1 q.2 (by omega) (g2 hd) h
  rw [zn,wK (by rw [lnM]; exact xA (by omega)),xu (by rw [lnM]; exact xz (by omega)),Int.toNat_natCast,w8 hg,xf,Iy g1,vQ (xF (by decide)),vQ (xF (by decide)),vQ (xF (by decide)),xN (by omega)]
  exact ih
theorem IY {p : List Nd} (hl : p.length < 4611686018427387904) {l : List Int} (h2 : l.length < 4611686018427387904) : ∀ (k i : Nat),i + k = l.length -> yZ (l.map eI) (p.map eN) (ni (l.map eI).length) (i : Int) = some (iN (dw (fun r => !wi r 0 ((p.length : Int) - 1)) l i),[])
 | 0,i,hi => by
  rw [zZ,vQ (by rw [lnM]; exact xt (by omega)),vN (by omega)]
 | k + 1,i,hi => by
  obtain ⟨x,hx⟩ := wt (l := l) (i := i) (by omega)
  have ih := IY hl h2 k (i + 1) (by omega)
  have hr : V 19 [iN x,.bp [.rs (5,0) (p.map eN)]] = some (.bool (!wi x 0 ((p.length : Int) - 1)),[]) := by
   rw [NA,BZ (zf hl x)]
  rw [zZ,wK (by rw [lnM]; exact xA (by omega)),xu (by rw [lnM]; exact xz (by omega)),Int.toNat_natCast,w8 hx,xf,Ju hr]
  cases h : (!wi x 0 ((p.length : Int) - 1)) with
  | true => rw [xl,vO hx h]
  | false => rw [wJ,xN (by omega),ih,vx hx h]
theorem Nc {p : List Nd} (hl : p.length < 4611686018427387904) {l : List Int} (h2 : l.length < 4611686018427387904) (hx : yh p l = true) : V 18 [.rs (1,0) (l.map eI),.fn 19 [.bp [.rs (5,0) (p.map eN)]]] = some (.bool false,[]) := by
 have h : V 38 [.rs (1,0) (l.map eI),.fn 19 [.bp [.rs (5,0) (p.map eN)]]] = some (iN (xb (fun r => !wi r 0 ((p.length : Int) - 1)) l),[]) := by
  rw [FA,<- vy]
  exact IY hl h2 l.length 0 (Nat.zero_add _)
 rw [Dz,zm h,ED]
 congr 3
 unfold yh at hx
 rw [List.any_eq_false]
 intro x hm
 have := List.all_eq_true.1 hx x hm
 rw [this]; decide
theorem JT {p : List Nd} (hpo : xR p = true) {xs : List Int} (hxl : xs.length <= 100000) (hx : yh p xs = true) {c : Cd} (h : DK p xs.length xs [] [] = some c) (hfc : Mo c = true) (hne : xs ≠ []) :
  V 9 [eP p,.rs (1,0) (xs.map eI)] = some (.tup [oCd c,iN 0,iN xs.length],[]) := by
 have hpl := ym hpo
 have hp : yb p := (okPool_iff.1 hpo).1
 have hxi : ∀ x ∈ xs,InP p x := fun x h => by
  have := List.all_eq_true.1 hx x h
  have := wi_iff.1 this
  exact ⟨this.1,by omega⟩
 obtain ⟨x,r,rfl⟩ : ∃ x r,xs = x :: r := by
  cases xs with
  | nil => exact absurd rfl hne
  | cons x r => exact ⟨x,r,rfl⟩
 have hlo := Kw hpo hpl hxl hxi hfc (x :: r).length 0 [] [] (by omega) (by simp) h
 rw [J6,AH (yk (zU hp) (by omega)),hpo,Bool.not_true,wJ,zd (Nc (by omega) (by omega) hx),wJ,zK (JR (by omega))]
 rw [zn] at hlo
 rw [Fu]
 exact hlo
end Go.Eng
/-! the functions as the interpreter has them -/
/-! marks,equality,sizes and copies of nodes and numbers -/
namespace Go.Eng
open Go.Proofs Go.Proofs.Try
set_option maxHeartbeats 4000000

end Go.Eng
/-! sizes,copies and equality of what a law's arguments hold -/
namespace Go.Eng
open Go.Proofs Go.Proofs.Try
set_option maxHeartbeats 4000000

end Go.Eng
/-! a law's arguments: pools,code,machines,processes -/
namespace Go.Eng
open Go.Proofs Go.Proofs.Try
set_option maxHeartbeats 4000000
set_option maxRecDepth 100000

end Go.Eng
/-! machines as bytes,on both sides -/
namespace Go.Eng
open Go.Proofs Go.Proofs.Try
set_option maxHeartbeats 4000000

end Go.Eng
/-! nodes of bytes,on both sides -/
namespace Go.Eng
open Go.Proofs Go.Proofs.Try
set_option maxHeartbeats 4000000

section
variable {b : List UInt8} (hb : b.length < 4611686018427387904)
include hb
end
end Go.Eng
/-! nodes of bytes: the reference's side,and what both come to -/
namespace Go.Eng
open Go.Proofs Go.Proofs.Try
set_option maxHeartbeats 4000000

end Go.Eng
/-! a value read of bytes: both sides come to the same -/
namespace Go.Eng
open Go.Proofs Go.Proofs.Try
set_option maxHeartbeats 4000000

end Go.Eng
/-! a value read of bytes: both sides come to the same -/
namespace Go.Eng
open Go.Proofs Go.Proofs.Try
set_option maxHeartbeats 4000000

end Go.Eng
/-! processes: when they are right,on both sides -/
namespace Go.Eng
open Go.Proofs Go.Proofs.Try
set_option maxHeartbeats 4000000

structure Pr where
 pid : Int
 m : Mc
 box : List ByteArray
 out : List ByteArray
structure FitsR (p : Pr) : Prop where
 pool : Bi p.m.pool
 plen : p.m.pool.length <= 4294967296
 box : ∀ x ∈ p.box,x.size < 4294967296
 blen : p.box.length < 4294967296
 out : ∀ x ∈ p.out,x.size < 4294967296
 olen : p.out.length < 4294967296
end Go.Eng
/-! new machines and processes,on both sides -/
namespace Go.Eng
noncomputable section
open Go.Proofs Go.Proofs.Try
set_option maxHeartbeats 4000000

theorem Oe {α : Type} (p : α -> Bool) (l : List α) : -1 <= xb p l /\ xb p l < l.length := by
 unfold xb
 cases h : l.findIdx? p with
 | none => simp only; omega
 | some k =>
  rw [List.findIdx?_eq_some_iff_getElem] at h
  obtain ⟨hk,_⟩ := h
  simp only; omega
def zMc : Mc := ⟨[],0,0,0,0,0,0,0⟩
def QP (d : Df) : Mc := ⟨[⟨1,0,⟨#[]⟩,0,0⟩,⟨5,0,⟨#[]⟩,0,0⟩],d.at',0,1,0,0,0,0⟩
def PI (c : Cd) (s : ByteArray) : Option Mc := if yp c = true /\ 0 <= Ay c s then
  (match c.defs[(Ay c s).toNat]? with | some d => if d.args = 0 then some (QP d) else none | none => none) else none
def TK (r : Option Mc) : D := match r with | some m => .tup [oMc m,.bool true] | none => .tup [oMc zMc,.bool false]
theorem GB {c : Cd} (hf : FitsC c) (s : ByteArray) : V 10 [eCd c,.str s] = some (TK (PI c s),[]) := by
 have hd := Dl hf s
 have hc := Cw hf
 have hb := Oe (fun d : Df => jJ d.name s) c.defs
 rw [GH]
 unfold PI
 cases e1 : yp c with
 | false => rw [e1] at hc; rw [if_neg (by simp)]; simp (disch := first | omega | (simp only [lnA,lnC,lnN,lnM,xP,vJ]; omega)) only [↓vK,vZ,↓xl,↓xp,↓xf,↓wH,Bool.not_false,hd,hc]; rfl
 | true =>
  rw [e1] at hc
  by_cases e2 : 0 <= Ay c s
  ·rw [if_pos ⟨rfl,e2⟩]
   obtain ⟨k,hk⟩ := Int.eq_ofNat_of_zero_le e2
   have hkl : k < c.defs.length := by unfold Ay at hk; omega
   obtain ⟨d,hx⟩ := wt hkl
   rw [hk] at hd ⊢
   rw [Int.toNat_natCast,hx]
   by_cases e3 : d.args = 0
   ·simp only [e3,if_true]
    simp (disch := first | omega | (simp only [lnA,lnC,lnN,lnM,xP,vJ]; omega)) only [↓vK,vZ,↓wJ,↓wW,↓xp,↓xf,↓wH,↓wq,↓ww,↓wx,ww,wx,↓w9,xK,xJ,xH,Bool.and_true,Bool.not_true,lnM,vJ,hd,hc,↓w8 hx]
    rfl
   ·simp only [e3,if_false]
    simp (disch := first | omega | (simp only [lnA,lnC,lnN,lnM,xP,vJ]; omega)) only [↓vK,vZ,↓xl,↓wJ,↓wW,↓xp,↓xf,↓wH,↓wq,↓wx,wx,↓w9,xK,xJ,xI,Bool.and_true,Bool.not_true,lnM,vJ,hd,hc,↓w8 hx]
    rfl
  ·rw [if_neg (fun h => e2 h.2)]
   simp (disch := first | omega | (simp only [lnA,lnC,lnN,lnM,xP,vJ]; omega)) only [↓vK,vZ,↓xl,↓wJ,↓xp,↓xf,↓wH,xK,Bool.not_true,hd,hc]
   rfl
end
end Go.Eng
/-! programs that are read,compiled and run,plain and with their calls -/
namespace Go.Eng
noncomputable section
open Go.Proofs Go.Proofs.Try
set_option maxHeartbeats 4000000

def tS (w : List UInt8) : Tk := .wd w ⟨4,0,mk w,0,0⟩
def tN (n : Int) : Tk := .wd (zw n) (ndI n)
def BF (c : Cd) : Nat -> Mc -> Option Mc
 | 0,m => some m
 | k + 1,m => if m.state = 0 then BF c k (zR (Cg c m)) else none
theorem JL {c : Cd} : ∀ (j : Nat) (m m' : Mc),BF c j m = some m' -> ∀ k,AX c (j + k) m = ((AX c k m').1,(AX c k m').2 + j)
 | 0,m,m',h,k => by
  rw [BF] at h; cases h
  simp
 | j + 1,m,m',h,k => by
  rw [BF] at h
  by_cases h0 : m.state = 0
  ·rw [if_pos h0] at h
   have ih := JL j _ m' h k
   rw [show j + 1 + k = (j + k) + 1 by omega,AX,if_pos h0,ih]
   simp only [Nat.add_assoc]
  ·rw [if_neg h0] at h; cases h
theorem Og {c : Cd} {m : Mc} (h : m.state ≠ 0) : ∀ k,AX c k m = (m,0)
 | 0 => rfl
 | k + 1 => by rw [AX,if_neg h]
theorem MZ {c : Cd} {i j : Nat} {m m1 m2 : Mc} (h1 : BF c i m = some m1) (h2 : BF c j m1 = some m2) : BF c (i + j) m = some m2 := by
 induction i generalizing m with
 | zero => rw [BF] at h1; cases h1; rw [Nat.zero_add]; exact h2
 | succ i ih =>
  rw [BF] at h1
  rw [show i + 1 + j = (i + j) + 1 by omega,BF]
  by_cases h0 : m.state = 0
  ·rw [if_pos h0] at h1 ⊢; exact ih h1
  ·rw [if_neg h0] at h1; cases h1
theorem Tl {c : Cd} (hf : FitsC c) {m m' : Mc} {j : Nat} (hok : zW c m = true) (h : BF c j m = some m') (hs : m'.state ≠ 0) {steps : Int} (h1 : (j : Int) <= steps) (h2 : j <= 2000) : V 11 [eCd c,eMc m,iN steps] = some (.tup [oMc m',iN j],[]) := by
 obtain ⟨r1,r2,r3,_⟩ := Dh hok
 have hv := Ko hf (zU r2) (by omega) steps
 have hm : j <= (mnI steps 2000).toNat := by unfold mnI; split <;> omega
 have hr : Rc c m steps = (m',j) := by
  unfold Rc
  rw [if_pos hok,show (mnI steps 2000).toNat = j + ((mnI steps 2000).toNat - j) by omega,JL j m m' h,Og hs]
  simp
 rw [hr] at hv
 exact hv
theorem Pz : Bi [] := fun x h => by simp at h
structure Prog1 (ts : List Tk) (q : List Nd) (rs : List Int) (c : Cd) (m : Mc) : Prop where
 ok : OkT ts
 len : (yL ts).length <= 400
 read : rdT ts [] [] [] = some (q,rs)
 few : rs ≠ [] /\ rs.length <= 1000
 pool : xR q = true
 root : yh q rs = true
 comp : DK q rs.length rs [] [] = some c
 fits : Mo c = true
 new : PI c Gp = some m
 mok : zW c m = true
section
variable {ts : List Tk} {q : List Nd} {rs : List Int} {c : Cd} {m : Mc}
theorem Pa (h : Prog1 ts q rs c m) : FitsC c := by
 obtain ⟨r1,r2,r3,_⟩ := Dh h.mok
 obtain ⟨c1,c2,c3⟩ := y4 r1
 have hl := ym c1
 have hfc := h.fits
 unfold Mo at hfc
 simp only [Bool.and_eq_true,List.all_eq_true,decide_eq_true_eq] at hfc
 exact ⟨zU (okPool_iff.1 c1).1,by omega,fun x h => by have := hfc.1 x h; omega,by omega,fun x h => by have := hfc.2 x h; omega,by omega⟩
theorem Se (h : Prog1 ts q rs c m) : V 8 [.agg [.rs (5,0) []],.str (mk (yL ts))] = some (.tup [oP q,.os (1,0) (rs.map eI),iN 0,iN ((yL ts).length : Int)],[]) := by
 have h1 : V 8 [.agg [.rs (5,0) []],.str (mk (yL ts))] = _ := Nf Pz (by simp) (yL ts)
 rw [PU h.ok (by decide) h.len h.read,if_pos h.pool] at h1
 exact h1
theorem Sc (h : Prog1 ts q rs c m) : V 9 [eP q,.rs (1,0) (rs.map eI)] = some (.tup [oCd c,iN 0,iN rs.length],[]) :=
 JT h.pool (by have := h.few.2; omega) h.root h.comp h.fits h.few.1
theorem Tg (h : Prog1 ts q rs c m) : V 10 [eCd c,.str ⟨#[109,97,105,110]⟩] = some (.tup [oMc m,.bool true],[]) := by
 have h1 : V 10 [eCd c,.str ⟨#[109,97,105,110]⟩] = _ := GB (Pa h) Gp
 rw [h.new] at h1
 exact h1
end
theorem Qn {p : List Nd} (hp : xR p = true) {v : Int} (hv : InP p v) {n : Int} (hn : nod p v = ndI n) (h : n.natAbs <= 1000000000) : LR p v = zw n := by
 have hx : p[v.toNat]? = some (ndI n) := by
  have : v.toNat < p.length := by have := hv.1; have := hv.2; omega
  rw [List.getElem?_eq_getElem this]
  have e : nod p v = p[v.toNat] := by unfold nod; rw [List.getD_eq_getElem?_getD,List.getElem?_eq_getElem this]; rfl
  rw [<- e,hn]
 have hw : wr p (2 * v.toNat + 1) false v.toNat [] = zw n := by
  rw [wr,if_neg (by simp),hx]
  rfl
 have hl := Bu h
 unfold LR
 rw [if_pos ⟨hp,wi_iff.2 ⟨hv.1,by have := hv.2; omega⟩⟩,hw,if_neg (by omega)]
theorem Nt {p : List Nd} (hp : xR p = true) {v : Int} (hv : InP p v) {n : Int} (hn : nod p v = ndI n) (h : n.natAbs <= 1000000000) : V 13 [eP p,iN v] = some (.str (mk (zw n)),[]) := by
 have hl := ym hp
 have h1 := LM (zU (okPool_iff.1 hp).1) (by omega) v
 rw [Qn hp hv hn h] at h1
 exact h1

theorem R7 {x y : Nd} (h : BJ x y = true) : x = y := by
 unfold BJ at h
 simp only [Bool.and_eq_true,beq_iff_eq] at h
 obtain ⟨h1,h2,h3,h4,h5⟩ := h
 rw [AM] at h3
 have h3 := of_decide_eq_true h3
 cases x; cases y
 simp only at h1 h2 h3 h4 h5
 rw [h1,h2,h3,h4,h5]
theorem M9 (s : ByteArray) : jJ s s = true := by rw [AM]; simp
def tL (w : List UInt8) (n : Int) : Tk := .wd w (ndI n)
def okW (w : List UInt8) (n : Nd) : Bool := (!w.isEmpty && w.all zu) && (match AZ w with | some m => BJ m n | none => false)
theorem CX {w : List UInt8} {n : Nd} {r : List Tk} (h : okW w n = true) (hn : R9 r = true) (hr : OkT r) : OkT (.wd w n :: r) := by
 unfold okW at h
 rw [Bool.and_eq_true,Bool.and_eq_true] at h
 obtain ⟨⟨h1,h2⟩,h3⟩ := h
 refine ⟨⟨?_,h2,?_⟩,hn,hr⟩
 ·rintro rfl; simp at h1
 ·cases e : AZ w with
  | none => rw [e] at h3; cases h3
  | some m => rw [e] at h3; rw [R7 h3]
theorem Sw {n : Int} {r : List Tk} (h : n.natAbs <= 1000000000) (hn : R9 r = true) (hr : OkT r) : OkT (tN n :: r) := by
 obtain ⟨d,s,hd,_,ha⟩ := Ky (n := n)
 exact ⟨⟨by rw [hd]; simp,ha,RC h⟩,hn,hr⟩
theorem Pd {c : Cd} : ∀ (j : Nat) {m m' : Mc},zW c m = true -> BF c j m = some m' -> zW c m' = true
 | 0,m,m',h,hr => by rw [BF] at hr; cases hr; exact h
 | j + 1,m,m',h,hr => by
  rw [BF] at hr
  by_cases h0 : m.state = 0
  ·rw [if_pos h0] at hr
   refine Pd j ?_ hr
   have s1 := M8 h h0
   unfold zR
   split
   ·exact s1
   ·exact Pi s1
  ·rw [if_neg h0] at hr; cases hr
theorem Te {c : Cd} {m : Mc} (h : zW c m = true) (hs : m.state = 2) : xR m.pool = true /\ InP m.pool m.arg /\ InP m.pool m.arg := by
 obtain ⟨q1,q2,_⟩ := Jz h
 have hm : m.arg ∈ yq m := by unfold yq holds; rw [if_pos (by simp [hs])]; simp
 have := wi_iff.1 (List.all_eq_true.1 q2 _ hm)
 exact ⟨q1,⟨this.1,by omega⟩,⟨this.1,by omega⟩⟩
end
end Go.Eng
/-! a step that takes two numbers,told; pools with other numbers in them -/
namespace Go.Eng
noncomputable section

theorem JD {p : List Nd} (h : xR p = true) (i : Nat) {x : Int} (hx : x.natAbs <= 1000000000) : xR (p.set i (ndI x)) = true := by
 obtain ⟨h1,h2⟩ := okPool_iff.1 h
 refine okPool_iff.2 ⟨fun j y hy => ?_,by rw [List.length_set]; exact h2⟩
 rw [List.getElem?_set] at hy
 split at hy
 ·split at hy
  ·cases hy
   have hw : wi x (-1000000000) 1000000000 = true := wi_iff.2 ⟨by omega,by omega⟩
   show (if (3 : Int) = 1 then _ else if (3 : Int) = 2 then _ else if (3 : Int) = 3 then wi x (-1000000000) 1000000000 && (nz ⟨#[]⟩ && ((0 : Int) == 0 && (0 : Int) == 0)) else _) = true
   rw [if_neg (by decide),if_neg (by decide),if_pos rfl,hw,Cn]
   rfl
  ·cases hy
 ·exact h1 j y hy
def Js (n X Y : Int) : Nd := if n = 1 then ndI (X + Y) else if n = 2 then ndI (X - Y) else if n = 3 then ndI (X * Y) else if n = 4 then ndB (decide (X < Y)) else ndB (X == Y)
def Fx (m1 : Mc) (z : Nd) : Mc := ⟨m1.pool ++ [z] ++ [ndP m1.pool.length m1.s],m1.at' + 1,((m1.pool ++ [z]).length : Int),m1.e,m1.d,m1.state,m1.ask,m1.arg⟩
theorem Rf {c : Cd} {m m1 : Mc} {l : List Int} {n X Y : Int} (h0 : m.state = 0) (h7 : (c.list.getD m.at'.toNat ⟨0,0,0,⟨#[]⟩⟩).op = 7) (hi : (c.list.getD m.at'.toNat ⟨0,0,0,⟨#[]⟩⟩).i.toNat = 2) (hp : zF c (m.at' + 1) = true) (ht : BG 3 m = some (l,m1))
  (hf : nod m1.pool (l.reverse.getD 0 0) = ndR n) (hpa : yf n = ((l.reverse.drop 1).length : Int)) (h5 : n <= 5) (hX : nod m1.pool ((l.reverse.drop 1).getD 0 0) = ndI X) (hY : nod m1.pool ((l.reverse.drop 1).getD 1 0) = ndI Y)
  (hw : wi (Js n X Y).n (-1000000000) 1000000000 = true) (hl : m1.pool.length <= 1990) : BF c 1 m = some (Fx m1 (Js n X Y)) := by
 have hpr : Gw m1.pool n (l.reverse.drop 1) = .ok (m1.pool ++ [Js n X Y],m1.pool.length) := by
  unfold Gw
  simp only
  rw [if_pos h5,hX,hY,if_pos ⟨rfl,rfl⟩]
  have e : (if n = 1 then ndI ((ndI X).n + (ndI Y).n) else if n = 2 then ndI ((ndI X).n - (ndI Y).n) else if n = 3 then ndI ((ndI X).n * (ndI Y).n) else if n = 4 then ndB (decide ((ndI X).n < (ndI Y).n)) else ndB ((ndI X).n == (ndI Y).n)) = Js n X Y := rfl
  rw [e,if_pos hw]
 have hc : Aj c 3 m1 (l.reverse.getD 0 0) (l.reverse.drop 1) = .ok (Fx m1 (Js n X Y)) := by
  show Aj c (2 + 1) m1 _ _ = _
  rw [Aj,hf]
  simp only
  rw [if_neg (by decide),if_pos trivial,if_neg (by rw [hpa]; simp),if_neg (by omega),if_neg (by omega),hpr]
  rfl
 have hd : doM c m = .ok (Fx m1 (Js n X Y)) := by
  unfold doM
  simp only
  rw [if_pos h7,hi]
  unfold z9
  rw [if_neg (by rw [hp]; decide),ht]
  exact hc
 have hs : Cg c m = Fx m1 (Js n X Y) := by
  unfold Cg
  rw [hd]
  simp only
  rw [if_pos (by unfold Fx; simp; omega)]
 rw [BF,if_pos h0,BF,hs]
 unfold zR
 rw [if_pos (by unfold Fx; simp; omega)]
def Rb (c : Cd) : Bool := decide (c.list.length <= 400) && (decide (c.defs.length <= 20) && (BC c 0 c.list.length && AL c 0 c.defs.length))
theorem RL {p : List Nd} {L : List In} {ds : List Df} (h : xR p = true) (hr : Rb ⟨p,L,ds⟩ = true) : yp ⟨p,L,ds⟩ = true := by
 unfold yp
 show (xR p && Rb ⟨p,L,ds⟩) = true
 rw [h,hr]; rfl
def Ra (c : Cd) (m : Mc) : Bool := xR m.pool && (A9 m.pool m.s && (A9 m.pool m.e && (A9 m.pool m.d && FT c m)))
theorem S9 {c : Cd} {m : Mc} (h : yp c = true) (hr : Ra c m = true) : zW c m = true := by
 unfold zW
 show (yp c && Ra c m) = true
 rw [h,hr]; rfl
theorem RM {p : List Nd} {r : Int} {L : List In} {ds : List Df} (ht : Qe p r [] [] = some (L,ds)) (hc : yp ⟨p,L,ds⟩ = true) : DK p 1 [r] [] [] = some ⟨p,L,ds⟩ := by
 rw [DK,ht]
 show DK p 1 [] L ds = _
 rw [DK,if_pos hc]
theorem Tc {c : Cd} {d : Df} (hc : yp c = true) (h0 : decide (0 <= Ay c Gp) = true) (hd : c.defs[(Ay c Gp).toNat]? = some d) (ha : d.args = 0) : PI c Gp = some (QP d) := by
 unfold PI
 rw [if_pos ⟨hc,of_decide_eq_true h0⟩,hd]
 simp only [ha,if_true]
end
end Go.Eng
/-! a function that knows what was bound: its run -/
namespace Go.Eng
noncomputable section
set_option maxHeartbeats 4000000

def Nw (x y : Int) : List Tk := [.op,tS [108,101,116],.sp,tS [97],.sp,tN x,.sp,.op,tS [108,101,116],.sp,tS [102],.sp,.op,tS [102,110],.sp,.op,tS [98],.cl,.sp,.op,tS [45],.sp,tS [97],.sp,tS [98],.cl,.cl,.sp,.op,tS [108,101,116],.sp,tS [97],.sp,tL [48] 0,.sp,.op,tS [102],.sp,tN y,.cl,.cl,.cl,.cl]
set_option maxRecDepth 100000 in
theorem SM {x y : Int} (hx : x.natAbs <= 1000000000) (hy : y.natAbs <= 1000000000) : OkT (Nw x y) := CX (by decide +kernel) rfl (CX (by decide +kernel) rfl (Sw hx rfl (CX (by decide +kernel) rfl (CX (by decide +kernel) rfl (CX (by decide +kernel) rfl (CX (by decide +kernel) rfl (CX (by decide +kernel) rfl (CX (by decide +kernel) rfl (CX (by decide +kernel) rfl (CX (by decide +kernel) rfl (CX (by decide +kernel) rfl (CX (by decide +kernel) rfl (CX (by decide +kernel) rfl (Sw hy rfl (True.intro)))))))))))))))
def IV (x y : Int) : List Nd := ((rdT (Nw x y) [] [] []).getD ([],[])).1
def cloK : List In × List Df := (Qe (IV 0 0) 42 [] []).getD ([],[])
def J5 (x y : Int) : Cd := ⟨IV x y,cloK.1,cloK.2⟩
theorem SN (x y : Int) : rdT (Nw x y) [] [] [] = some (IV x y,[42]) := by kernel_rfl
theorem RI (x y : Int) : IV x y = ((IV 0 0).set 2 (ndI x)).set 24 (ndI y) := by kernel_rfl
theorem LV {x y : Int} (hx : x.natAbs <= 1000000000) (hy : y.natAbs <= 1000000000) : xR (IV x y) = true := by rw [RI]; exact (JD (JD (by decide +kernel) 2 hx) 24 hy)
theorem Qy (x y : Int) : yh (IV x y) [42] = true := by kernel_rfl
theorem RJ (x y : Int) : Qe (IV x y) 42 [] [] = some (cloK.1,cloK.2) := by kernel_rfl
theorem IW {x y : Int} (hx : x.natAbs <= 1000000000) (hy : y.natAbs <= 1000000000) : yp ⟨IV x y,cloK.1,cloK.2⟩ = true := RL (LV hx hy) (by kernel_rfl)
theorem Qv {x y : Int} (hx : x.natAbs <= 1000000000) (hy : y.natAbs <= 1000000000) : DK (IV x y) 1 [42] [] [] = some (J5 x y) := RM (RJ x y) (IW hx hy)
def Pt : Mc := QP (cloK.2.getD 0 ⟨Gp,0,0⟩)
theorem RF {x y : Int} (hx : x.natAbs <= 1000000000) (hy : y.natAbs <= 1000000000) : PI (J5 x y) Gp = some Pt := Tc (IW hx hy) (by kernel_rfl) (by kernel_rfl) (by kernel_rfl)
theorem RE {x y : Int} (hx : x.natAbs <= 1000000000) (hy : y.natAbs <= 1000000000) : zW (J5 x y) Pt = true := S9 (IW hx hy) (by kernel_rfl)
def Qr (x y : Int) : Mc := (BF (J5 x y) 19 (Pt)).getD zMc
def Qu (x y : Int) : List Int × Mc := (BG 3 (Qr x y)).getD ([],zMc)
def Qs (x y : Int) : Mc := Fx (Qu x y).2 (Js 2 x y)
theorem SJ (x y : Int) : BF (J5 x y) 19 (Pt) = some (Qr x y) := by kernel_rfl
theorem SK {x y : Int} (hw : wi (Js 2 x y).n (-1000000000) 1000000000 = true) : BF (J5 x y) 1 (Qr x y) = some (Qs x y) :=
 Rf (n := 2) (X := x) (Y := y) (l := (Qu x y).1) (m1 := (Qu x y).2) (by kernel_rfl) (by kernel_rfl) (by kernel_rfl) (by kernel_rfl) (by kernel_rfl) (by kernel_rfl) (by kernel_rfl) (by decide) (by kernel_rfl) (by kernel_rfl) hw (of_decide_eq_true (by kernel_rfl))
def Qt (x y : Int) : Mc := (BF (J5 x y) 5 (Qs x y)).getD zMc
theorem Tn (x y : Int) : BF (J5 x y) 5 (Qs x y) = some (Qt x y) := by kernel_rfl
theorem RH {x y : Int} (hw1 : wi (Js 2 x y).n (-1000000000) 1000000000 = true) : BF (J5 x y) (19 + (1 + (5))) Pt = some (Qt x y) := MZ (SJ x y) (MZ (SK hw1) (Tn x y))
theorem Pu (x y : Int) : (Qt x y).state = 2 := by kernel_rfl
theorem Qx {x y : Int} (hx : x.natAbs <= 1000000000) (hy : y.natAbs <= 1000000000) (hl : (yL (Nw x y)).length <= 400) : Prog1 (Nw x y) (IV x y) [42] (J5 x y) Pt :=
 ⟨SM hx hy,hl,SN x y,⟨by simp,by simp⟩,LV hx hy,Qy x y,Qv hx hy,by kernel_rfl,RF hx hy,RE hx hy⟩
theorem RK (x y : Int) : nod (Qt x y).pool (Qt x y).arg = ndI (x - y) := by kernel_rfl
end
end Go.Eng
/-! what is drawn: the cursor -/
namespace Go.Eng
open Go.Proofs Go.Proofs.Try

noncomputable def eB (x : Int) : D := .int .u8 x
section
variable {b : List Int} {c : Int × Int}
end
theorem Tv (b : List Int) : V 7 [.rs (1,0) (b.map eB)] = some (.bool (decide ((b.length : Int) > 1048576)),[]) := by
 rw [Px,lnM]
end Go.Eng
/-! a draw's bytes,for the laws that look at them -/
namespace Go.Eng
open Go.Proofs Go.Proofs.Try
set_option maxHeartbeats 4000000

set_option maxRecDepth 100000 in
theorem Pp {x : D} (h : ShapeV prog 22 x) : ∃ b : List Int,x = .rs (1,0) (b.map eB) /\ b.length < 4611686018427387904 /\ ∀ n ∈ b,0 <= n /\ n <= 255 := by
 obtain ⟨ys,hs,rfl⟩ := h
 obtain ⟨bs,rfl,h1,h2⟩ := hs.slice Try.underlying22 (show zOf prog 5 = some (1,0) by kernel_rfl)
 obtain ⟨l,rfl,hl⟩ := ru (enc := eB) (p := fun n : Int => 0 <= n /\ n <= 255) (ys := bs) (fun x hx => by
  obtain ⟨ps,hs,rfl⟩ := h2 x hx
  obtain ⟨n,rfl,hw⟩ := hs.int Try.underlying5
  exact ⟨n,rl Try.underlying5,wf8 hw⟩)
 have hby : prog.bytesOf 5 = 1 := by kernel_rfl
 have hr : reachBytes = 140737488351232 := rfl
 rw [hby,lnM] at h1
 exact ⟨l,by rw [vj Try.underlying22],by omega,hl⟩
theorem SA {b : List Int} (hb : b.length < 4611686018427387000) (h8 : ∀ n ∈ b,0 <= n /\ n <= 255) {i : Int} (h0 : 0 <= i) (h1 : i < 1000) : ∃ v : Int,V 12 [.rs (1,0) (b.map eB),iN i] = some (iN v,[]) /\ 0 <= v /\ v <= 255 := by
 rw [QD,lnM]
 by_cases h : i < (b.length : Int)
 ·obtain ⟨x,hx⟩ := wt (l := b) (i := i.toNat) (by omega)
  obtain ⟨x0,x1⟩ := h8 x (List.mem_of_getElem? hx)
  refine ⟨x,?_,x0,x1⟩
  rw [wK (decide_eq_true h),xu (by simp only [ni,Bool.and_eq_true,decide_eq_true_eq]; omega),w8 hx]
  show (asI .u8 (D.int .u8 x) fun n1 => some (iN (w6 n1),([] : List D))) = _
  rw [xf,w64 (by omega) (by omega)]
 ·refine ⟨Int.tmod (w6 (w6 (i * 7) + ni b.length)) 256,?_,?_⟩
  ·rw [vQ (decide_eq_false h),xu (by decide)]
  ·rw [w64 (n := i * 7) (by omega) (by omega),w64 (n := i * 7 + ni b.length) (by simp only [ni]; omega) (by simp only [ni]; omega)]
   have : 0 <= i * 7 + ni b.length := by simp only [ni]; omega
   rw [Int.tmod_eq_emod_of_nonneg this]
   omega
end Go.Eng
/-! a law's own digits -/
namespace Go.Eng
open Go.Proofs Go.Proofs.Try

theorem MF {d : Nat} (h : d < 10) (K : ByteArray -> Option Ret) : gb [D.int .u8 (IntKind.wrap .u8 (w6 (48 + (d : Int))))] K = K (mk [UInt8.ofNat (48 + d)]) := by
 have e : [D.int .u8 (IntKind.wrap .u8 (w6 (48 + (d : Int))))] = [UInt8.ofNat (48 + d)].map eU := by
  rw [Rk h]
  simp only [List.map_cons,List.map_nil,eU,Ce (show 48 + d < 256 by omega)]
  simp
 rw [e,Jt]
theorem Mw : ∀ (n : Nat),n < 1000000000000000000 -> V 14 [iN (n : Int)] = some (.str (mk (BH n)),[]) := by
 intro n
 induction n using Nat.strongRecOn with
 | _ n ih =>
  intro hn
  rw [Gj,vQ (decide_eq_false (by omega))]
  by_cases h : n < 10
  ·rw [wK (decide_eq_true (by omega)),MF h,y5 h]
  ·rw [vQ (decide_eq_false (by omega)),xu (by decide),Oh,w64 (by omega) (by omega),AK (ih (n / 10) (by omega) (by omega)),xu (by decide),Oi,MF (by omega),xu (Gl (by have := Ak (n := n / 10) (by omega); omega) (by simp)),yO,Az h]
theorem Ot {n : Int} (h : n.natAbs < 1000000000000000000) : V 14 [iN n] = some (.str (mk (zw n)),[]) := by
 by_cases h0 : n < 0
 ·have hd := Mw n.natAbs h
  rw [Gj,wK (decide_eq_true h0),show (0 : Int) - n = (n.natAbs : Int) by omega,w64 (by omega) (by omega),AK hd]
  rw [<- show mk [45] = ⟨#[45]⟩ from rfl,xu (Gl (a := [45]) (by simp) (by have := Ak h; omega)),yO,zw,if_pos h0]
  rfl
 ·have := Mw n.natAbs h
  rw [show (n.natAbs : Int) = n by omega] at this
  rw [this,zw,if_neg h0]
end Go.Eng
/-! FnClosure: the law -/
namespace Go.Eng
open Go.Proofs Go.Proofs.Try
set_option maxHeartbeats 4000000

theorem DI (l : List UInt8) : ByteArray.size (ByteArray.mk (List.toArray l)) = l.length := rfl
theorem OT (a b : ByteArray) (h : a.size + b.size <= 4000000000) : decide (ni (a.size + b.size) <= LIM) = true := decide_eq_true (by rw [oQ]; simp only [ni]; omega)
set_option maxRecDepth 100000 in
theorem LZ (x y : Int) : (⟨#[40,108,101,116,32,97,32]⟩ : ByteArray) ++ mk (zw x) ++ (⟨#[32,40,108,101,116,32,102,32,40,102,110,32,40,98,41,32,40,45,32,97,32,98,41,41,32,40,108,101,116,32,97,32,48,32,40,102,32]⟩ : ByteArray) ++ mk (zw y) ++ (⟨#[41,41,41,41]⟩ : ByteArray) = mk (yL (Nw x y)) := by
 show mk [40,108,101,116,32,97,32] ++ mk (zw x) ++ mk [32,40,108,101,116,32,102,32,40,102,110,32,40,98,41,32,40,45,32,97,32,98,41,41,32,40,108,101,116,32,97,32,48,32,40,102,32] ++ mk (zw y) ++ mk [41,41,41,41] = _
 rw [yO,yO,yO,yO]
 refine congrArg mk ?_
 simp only [List.append_assoc]
 rfl
set_option maxRecDepth 100000 in
theorem Qw (x y : Int) : (yL (Nw x y)).length = (zw x).length + (zw y).length + 48 := by
 have h := congrArg ByteArray.size (LZ x y)
 simp only [ByteArray.size_append,xP,DI,lnC,lnN] at h
 omega
set_option maxRecDepth 100000 in
theorem Ki {b : List Int} (hb : b.length < 4611686018427387904) (h8 : ∀ n ∈ b,0 <= n /\ n <= 255) : V 4 [.rs (1,0) (b.map eB)] = some (.bool true,[]) := by
 rw [Iv,QX (Tv b)]
 cases hbig : decide ((b.length : Int) > 1048576) with
 | true => rfl
 | false =>
  have hbig := of_decide_eq_false hbig
  obtain ⟨v,hv,v0,v1⟩ := SA (b := b) (by omega) h8 (i := 1) (by omega) (by omega)
  obtain ⟨u,hu,u0,u1⟩ := SA (b := b) (by omega) h8 (i := 2) (by omega) (by omega)
  rw [wJ,O5 hv,O5 hu]
  obtain ⟨x,ex⟩ : ∃ x,v = x := ⟨_,rfl⟩
  obtain ⟨y,ey⟩ : ∃ y,u = y := ⟨_,rfl⟩
  rw [ex] at v0 v1 ⊢
  rw [ey] at u0 u1 ⊢
  have hdx := Ot (n := x) (by omega)
  have hdy := Ot (n := y) (by omega)
  have lx := Bu (n := x) (by omega)
  have ly := Bu (n := y) (by omega)
  have hfl := Qw x y
  have hp := Qx (x := x) (y := y) (by omega) (by omega) (by omega)
  have w1 : wi (Js 2 x y).n (-1000000000) 1000000000 = true := by
   show wi (x - y) _ _ = true
   exact wi_iff.2 ⟨by omega,by omega⟩
  have hr := RH (x := x) (y := y) w1
  have hok := Pd _ hp.mok hr
  have hs := Pu x y
  obtain ⟨o1,o2,_⟩ := Te hok hs
  have k1 := Se hp
  have k4 := Tl (Pa hp) hp.mok hr (by omega) (steps := 200) (by omega) (by omega)
  rw [AK hdx,xu (OT _ _ (by simp only [xP,DI,lnC,lnN]; omega)),xu (OT _ _ (by simp only [ByteArray.size_append,xP,DI,lnC,lnN]; omega)),AK hdy,xu (OT _ _ (by simp only [ByteArray.size_append,xP,DI,lnC,lnN]; omega)),xu (OT _ _ (by simp only [ByteArray.size_append,xP,DI,lnC,lnN]; omega))]
  rw [LZ x y,PM k1,LF (Sc hp),Iz (Tg hp),MI k4]
  have w1 := Nt o1 o2 (RK x y) (by omega)
  have hd2 := Ot (n := x - y) (by omega)
  rw [wK (by decide),wK (by decide),xl,wK (xG hs),NY w1,w64 (n := x - y) (by omega) (by omega),AK hd2,M9]
theorem IZ (xs : List D) (h : All2 (fun t x => ShapeV Try.prog t x) Try.f4.params.toList xs) : V 4 xs = some (.bool true,[]) := by
 rw [Try.params4] at h
 cases h with | cons h1 h =>
 cases h
 obtain ⟨b,rfl,hb,h8⟩ := Pp h1
 exact Ki hb h8
end Go.Eng
