/- the program and the reference on plain data, part 4 -/
import Derived.Test.YtkndfhaehnfnmaaPart3
import Derived.Test.YtkndfhaehnfnmaaPart1
import Derived.Test.YtkndfhaehnfnmaaPart2
import Derived.Test.YtkndfhaehnfnmaaEngC
/-! a step of a machine: the program's side: calls -/
namespace Go.Eng
open Go.Proofs Go.Proofs.Try
set_option maxHeartbeats 4000000

theorem RE {R : Type} (x : Df) (K : ByteArray -> Int -> Int -> Option R) : PA (eDf x) (fun n4 n7 n10 => (K n4 n7 n10)) = K x.name x.at' x.args := rfl
theorem Jd {α : Type} {f : α -> D} {l : List α} {k : Int} (h : (l.length : Int) = k) : ni (l.map f).length = k := by rw [lnM]; exact h
theorem Qh {α : Type} {f : α -> D} {l : List α} {k : Int} (h : ¬ (l.length : Int) = k) : ¬ ni (l.map f).length = k := by rw [lnM]; exact h
theorem Ae {c : Cd} (hc : c.list.length <= 400) (n : Int) : V 48 [eCd c,iN n] = some (.bool (zy c n),[]) := KE (by omega) n
theorem MR {c : Cd} (hf : FitsC c) (hc : yG c = true) {m : Mc} (hl : m.pool.length < 4294967200) (s : ByteArray) : Fh c (V 74 [eSt c m,.str s]) (IV c m s) := by
 have hd := Db hf s
 have c2 := (yV hc).2.1
 rw [DD,Jj hd]
 unfold IV
 by_cases h0 : 0 <= Bc c s
 ·obtain ⟨d,hg⟩ := Kf h0
  have hok := Kv hc hg
  unfold Pm at hok
  simp only [Bool.and_eq_true] at hok
  have a1 := wi_iff.1 hok.2.2.1
  have a2 := wi_iff.1 hok.2.2.2
  have hlt := aQ hg
  have h1 := AJ (p := m.pool) (by omega) ndN
  have h2 := AJ (p := m.pool ++ [ndN]) (by simp; omega) (ndF (8 * d.at' + d.args) m.pool.length)
  have h3 := AA (c := c) (m := ⟨m.pool ++ [ndN] ++ [ndF (8 * d.at' + d.args) m.pool.length],m.at',m.s,m.e,m.d,m.state,m.ask,m.arg⟩) (by simp; omega) (m.pool.length + 1)
  have e1 : w6 (w6 (8 * d.at') + d.args) = 8 * d.at' + d.args := by rw [w64 (n := 8 * d.at') (by omega) (by omega),w64 (by omega) (by omega)]
  have e2 : ((m.pool ++ [ndN]).length : Int) = m.pool.length + 1 := by simp
  rw [e2] at h2
  rw [if_pos h0,wz (decide_eq_true h0),xl (by rw [lnM]; simp only [ni,Bool.and_eq_true,decide_eq_true_eq]; omega),wT hg,RE]
  simp only [List.getD_eq_getElem?_getD,hg,Option.getD_some]
  show _ = _
  rw [xT h1,e1,xT h2,yx h3]
 ·rw [if_neg h0,vJ (decide_eq_false h0)]
  have hp := J0 s
  have hb := FE s
  rw [Mf hp]
  by_cases hz : AF s = 0
  ·rw [if_pos hz,wz (xx hz)]
   exact ⟨by decide,m,rfl⟩
  ·have h1 := AJ (p := m.pool) (by omega) (ndR (AF s))
   have h3 := AA (c := c) (m := ⟨m.pool ++ [ndR (AF s)],m.at',m.s,m.e,m.d,m.state,m.ask,m.arg⟩) (by simp; omega) m.pool.length
   rw [if_neg hz,vJ (xw hz),xT h1,yx h3]
   rfl
theorem NK {c : Cd} (hc : c.list.length <= 400) {m : Mc} (hl : m.pool.length < 4294967200) (ha : zy c m.at' = true) {f : Nd} (hf : 0 <= f.n /\ f.n <= 1000000000) {l : List Int} (_ : l.length <= 10) : Fh c (V 81 [eSt c m,eN f,.rs (1,0) (l.map eI)]) (DF c m f l) := by
 have hpl := isPl_iff.1 ha
 have t1 : Int.tmod f.n 8 = f.n % 8 := Int.tmod_eq_emod_of_nonneg hf.1
 have t2 : Int.tdiv f.n 8 = f.n / 8 := Int.tdiv_eq_ediv_of_nonneg hf.1
 rw [Ez,xl (by decide),t1,t2]
 unfold DF
 by_cases h1 : f.n % 8 = (l.length : Int)
 ·rw [if_neg (by omega),vJ (xz (by rw [Jd rfl]; exact h1)),xl (by decide),w64 (n := f.n / 8) (by omega) (by omega),yd (Ae hc _)]
  cases h2 : zy c (f.n / 8) with
  | false => rw [if_pos rfl]; exact ⟨by decide,m,rfl⟩
  | true =>
   rw [if_neg (by simp),Bool.not_true,wy,w64 (n := m.at' + 1) (by omega) (by omega)]
   have a1 := AJ (p := m.pool) (by omega) (ndI (m.at' + 1))
   have l1 := Cw (m.pool ++ [ndI (m.at' + 1)]) [(m.pool.length : Int),m.s,m.e]
   simp only [lnA,lnC,lnN] at l1
   have a2 : V 57 [rP (m.pool ++ [ndI (m.at' + 1)]),.rs (1,0) [iN (m.pool.length : Int),iN m.s,iN m.e]] = _ := JJ (q := m.pool ++ [ndI (m.at' + 1)]) (row := [(m.pool.length : Int),m.s,m.e]) (by simp only [lnA,lnC,lnN]; omega)
   have a3 := Lr (q := (xK (m.pool ++ [ndI (m.at' + 1)]) [(m.pool.length : Int),m.s,m.e]).1) (by omega) (xK (m.pool ++ [ndI (m.at' + 1)]) [(m.pool.length : Int),m.s,m.e]).2 m.d
   rw [xT a1,z0 a2,AP a3]
   generalize hB : xK (m.pool ++ [ndI (m.at' + 1)]) [(m.pool.length : Int),m.s,m.e] = B at l1 ⊢
   have l2 := Cw (B.1 ++ [ndP B.2 m.d]) l
   simp only [lnA,lnC,lnN] at l2
   have a4 := JJ (q := B.1 ++ [ndP B.2 m.d]) (row := l) (by simp only [lnA,lnC,lnN]; omega)
   have a5 := Lr (q := (xK (B.1 ++ [ndP B.2 m.d]) l).1) (by omega) (xK (B.1 ++ [ndP B.2 m.d]) l).2 f.a
   have a6 := AJ (p := (xK (B.1 ++ [ndP B.2 m.d]) l).1 ++ [ndP (xK (B.1 ++ [ndP B.2 m.d]) l).2 f.a]) (by simp only [lnA,lnC,lnN]; omega) ndN
   have e6 : (((xK (B.1 ++ [ndP B.2 m.d]) l).1 ++ [ndP (xK (B.1 ++ [ndP B.2 m.d]) l).2 f.a]).length : Int) = (xK (B.1 ++ [ndP B.2 m.d]) l).1.length + 1 := by simp
   rw [e6] at a6
   rw [z0 a4,AP a5,xT a6,xl (by decide)]
   rfl
 ·rw [if_pos h1,wz (xA (by rw [Jd rfl]; exact h1))]
  exact ⟨by decide,m,rfl⟩
theorem LN {c : Cd} {p : List Nd} {v : Int} {many : Nat} {xs : List Int} {b : Bool} (h : BX p v = (xs,b)) (hm : 0 < many) : DG c p v many = if b = true /\ xs.length = many /\ (nod p (xs.getD 0 0)).kind = 3 /\ zy c (nod p (xs.getD 0 0)).n = true then some ((nod p (xs.getD 0 0)).n,xs.drop 1) else none := by
 unfold DG
 rw [h]
 cases b with
 | false => rw [if_neg (fun h => by simp at h)]; cases xs <;> rfl
 | true =>
  cases xs with
  | nil => rw [if_neg (fun h => by have := h.2.1; simp at this; omega)]
  | cons a r =>
   simp only [lnC,List.getD_cons_zero,true_and,List.drop_one,List.tail_cons]
theorem MS {c : Cd} (hc : c.list.length <= 400) {m : Mc} (hp : xQ m.pool) (hl : m.pool.length < 2147483648) {st : Int} (hs : InP m.pool st) {l : List Int} (hll : l.length <= 10) : Fh c (V 83 [eSt c m,iN st,.rs (1,0) (l.map eI)]) (Mw c m st l) := by
 have hlst := CN hp hl hs
 have hin := CY hp hs
 rw [DE]
 unfold Mw
 by_cases h1 : l.length = 1
 ·rw [if_neg (by omega),vJ (xz (Jd (by omega))),y4 hlst]
  obtain ⟨v,rfl⟩ : ∃ v,l = [v] := by
   match l,h1 with
   | [v],_ => exact ⟨v,rfl⟩
   | [],h => simp at h
   | _ :: _ :: _,h => simp at h
  rcases hq : BX m.pool st with ⟨xs,b⟩
  have hfr := LN (c := c) hq (many := 4) (by omega)
  rw [hq] at hin
  have none : ∀ {X : Option Ret},¬ (b = true /\ xs.length = 4 /\ (nod m.pool (xs.getD 0 0)).kind = 3 /\ zy c (nod m.pool (xs.getD 0 0)).n = true) -> X = some (iN 7,[eSt c m]) -> Fh c X (match DG c m.pool st 4 with
    | some (n,[s,e,d]) => .ok (Js ⟨m.pool,n,s,e,d,m.state,m.ask,m.arg⟩ ([v].getD 0 0))
    | _ => .error 7) := by
   intro X hn hX
   rw [hfr,if_neg hn]
   exact ⟨by decide,m,hX⟩
  cases b with
  | false => exact none (fun h => by simp at h) rfl
  | true =>
   rw [Bool.not_true,wy]
   by_cases h4 : xs.length = 4
   ·obtain ⟨a,s,e,d,rfl⟩ : ∃ a s e d,xs = [a,s,e,d] := by
     match xs,h4 with
     | [a,s,e,d],_ => exact ⟨a,s,e,d,rfl⟩
     | [],h => simp at h
     | [_],h => simp at h
     | [_,_],h => simp at h
     | [_,_,_],h => simp at h
     | _ :: _ :: _ :: _ :: _ :: _,h => simp at h
    have ha := hin a (by simp)
    rw [vJ (xz (Jd (k := 4) rfl)),zk,KI ha]
    by_cases h3 : (nod m.pool a).kind = 3
    ·rw [vJ (xz h3),zk,PN ha,yd (Ae hc _)]
     cases h5 : zy c (nod m.pool a).n with
     | false => exact none (fun h => by have := h.2.2.2; simp only [List.getD_cons_zero,h5] at this; cases this) rfl
     | true =>
      have a3 := AA (c := c) (m := ⟨m.pool,(nod m.pool a).n,s,e,d,m.state,m.ask,m.arg⟩) (by show m.pool.length < _; omega) v
      rw [hfr,if_pos ⟨rfl,rfl,h3,h5⟩,Bool.not_true,wy,zk,PN ha,CX,Lf,PZ,zk,yx a3]
      rfl
    ·rw [wz (xA h3)]
     exact none (fun h => h3 h.2.2.1) rfl
   ·rw [wz (xA (Qh (l := xs) (k := 4) (fun h => h4 (by omega))))]
    exact none (fun h => h4 h.2.1) rfl
 ·rw [if_pos h1,wz (xA (Qh (l := l) (k := 1) (fun h => h1 (by omega))))]
  exact ⟨by decide,m,rfl⟩
theorem Ah {c : Cd} {X : Option Ret} {m : Mc} (h : Fh c X (.ok m)) : X = some (iN 0,[eSt c m]) := h
theorem zB {c : Cd} {X : Option Ret} {h : Int} (e : Fh c X (.error h)) : h ≠ 0 /\ ∃ m',X = some (iN h,[eSt c m']) := e
theorem KG {c : Cd} (hc : c.list.length <= 400) : ∀ (k : Nat) {m : Mc} {f : Int} {l : List Int},RunM c m -> zy c (m.at' + 1) = true -> m.pool.length + 100 * k < 2147483600 -> InP m.pool f -> (∀ v ∈ l,InP m.pool v) -> l.length <= 4 -> ((nod m.pool f).n = 11 -> l.length = 2 -> xJ m.pool = true) -> A8 c k m f l ≠ .error 0 ->
  Fh c (V 70 [eSt c m,iN f,.rs (1,0) (l.map eI)]) (A8 c k m f l)
 | 0,m,f,l,h,hnx,hl,hf,hv,h4,h11,h0 => absurd rfl h0
 | k + 1,m,f,l,h,hnx,hl,hf,hv,h4,h11,h0 => by
  have hok := DQ h.gm.ok hf
  have hpl := isPl_iff.1 h.pl
  rw [Ft,Dz hf]
  unfold A8 at h0 ⊢
  simp only at h0 ⊢
  by_cases h6 : (nod m.pool f).kind = 6
  ·rw [if_pos h6,wz (xx h6)]
   have hfn : 0 <= (nod m.pool f).n /\ (nod m.pool f).n <= 1000000000 := by
    simp [okN,h6] at hok
    exact wi_iff.1 hok.1
   have he := NK hc (m := m) (by omega) h.pl (f := nod m.pool f) hfn (l := l) (by omega)
   cases hr : DF c m (nod m.pool f) l with
   | ok m' => rw [hr] at he; rw [CE (Ah he)]; rfl
   | error q =>
    rw [hr] at he
    obtain ⟨q0,m',hx⟩ := zB he
    rw [CE hx]
    exact ⟨q0,m',rfl⟩
  rw [if_neg h6] at h0 ⊢
  rw [vJ (xw h6)]
  by_cases h8 : (nod m.pool f).kind = 8
  ·rw [if_pos h8] at h0 ⊢
   rw [wz (xx h8)]
   -- what is built in
   have prim : Fh c (V 82 [eSt c m,iN (nod m.pool f).n,.rs (1,0) (l.map eI)]) (if xX (nod m.pool f).n ≠ (l.length : Int) then .error 2
     else if (nod m.pool f).n = 18 then
      A8 c k ⟨(xK (m.pool ++ [ndI (m.at' + 1)]) [(m.pool.length : Int),m.s,m.e,m.d]).1 ++ [ndK (xK (m.pool ++ [ndI (m.at' + 1)]) [(m.pool.length : Int),m.s,m.e,m.d]).2],m.at',m.s,m.e,m.d,m.state,m.ask,m.arg⟩ (l.getD 0 0) [((xK (m.pool ++ [ndI (m.at' + 1)]) [(m.pool.length : Int),m.s,m.e,m.d]).1.length : Int)]
     else if (nod m.pool f).n > 12 then
      .ok ⟨(xK m.pool l).1,m.at',m.s,m.e,m.d,1,(nod m.pool f).n,(xK m.pool l).2⟩
     else match Jr m.pool (nod m.pool f).n l with
      | .error h => .error (h + 1)
      | .ok (p,v) => .ok ⟨p ++ [ndP v m.s],m.at' + 1,p.length,m.e,m.d,m.state,m.ask,m.arg⟩) := by
    rw [Cq,JY Il]
    by_cases hargs : xX (nod m.pool f).n = (l.length : Int)
    ·have hargs' : ¬ xX (nod m.pool f).n ≠ (l.length : Int) := fun h => h hargs
     obtain ⟨n1,n19,l2⟩ := z5 hargs
     rw [if_neg hargs'] at h0 ⊢
     rw [vJ (xz (by rw [Jd rfl]; exact hargs))]
     by_cases h18 : (nod m.pool f).n = 18
     ·rw [if_pos h18] at h0 ⊢
      rw [wz (xx h18),w64 (n := m.at' + 1) (by omega) (by omega)]
      obtain ⟨v,rfl⟩ : ∃ v,l = [v] := by
       rw [h18] at hargs
       match l,hargs with
       | [v],_ => exact ⟨v,rfl⟩
       | [],h => cases h
       | _ :: _ :: r,h => simp only [lnC] at h; have : xX 18 = 1 := rfl; omega
      have a1 := AJ (p := m.pool) (by omega) (ndI (m.at' + 1))
      have l1 := Cw (m.pool ++ [ndI (m.at' + 1)]) [(m.pool.length : Int),m.s,m.e,m.d]
      simp only [lnA,lnC,lnN] at l1
      have a2 : V 57 [rP (m.pool ++ [ndI (m.at' + 1)]),.rs (1,0) [iN (m.pool.length : Int),iN m.s,iN m.e,iN m.d]] = _ := JJ (q := m.pool ++ [ndI (m.at' + 1)]) (row := [(m.pool.length : Int),m.s,m.e,m.d]) (by simp only [lnA,lnC,lnN]; omega)
      have o1 : xQ (m.pool ++ [ndI (m.at' + 1)]) := yb h.gm.ok (Lm (by omega))
      obtain ⟨b1,⟨t,b2,b3⟩,b4⟩ := Au (row := [(m.pool.length : Int),m.s,m.e,m.d]) o1 (fun v hv => by
       simp only [List.mem_cons,List.not_mem_nil,or_false] at hv
       rcases hv with rfl | rfl | rfl | rfl
       ·exact yR _ _
       ·exact xO _ h.gm.s
       ·exact xO _ h.gm.e
       ·exact xO _ h.gm.d)
      have e1 : (xK (m.pool ++ [ndI (m.at' + 1)]) [(m.pool.length : Int),m.s,m.e,m.d]).1 = m.pool ++ (ndI (m.at' + 1) :: t) := by rw [b2]; simp
      have up : ∀ {v : Int},InP m.pool v -> InP ((xK (m.pool ++ [ndI (m.at' + 1)]) [(m.pool.length : Int),m.s,m.e,m.d]).1 ++ [ndK ((xK (m.pool ++ [ndI (m.at' + 1)]) [(m.pool.length : Int),m.s,m.e,m.d]).2 : Int)]) v := fun hv => xO _ (by rw [e1]; exact xO _ hv)
      have g2 : RunM c ⟨(xK (m.pool ++ [ndI (m.at' + 1)]) [(m.pool.length : Int),m.s,m.e,m.d]).1 ++ [ndK ((xK (m.pool ++ [ndI (m.at' + 1)]) [(m.pool.length : Int),m.s,m.e,m.d]).2 : Int)],m.at',m.s,m.e,m.d,m.state,m.ask,m.arg⟩ :=
       ⟨⟨yb b1 (Oq b4),up h.gm.s,up h.gm.e,up h.gm.d⟩,h.st,h.ask,h.arg,h.pl⟩
      rw [xT a1,z0 a2]
      generalize hB : xK (m.pool ++ [ndI (m.at' + 1)]) [(m.pool.length : Int),m.s,m.e,m.d] = B at l1 b1 b2 b4 e1 up g2 h0 ⊢
      have a3 := AJ (p := B.1) (by omega) (ndK (B.2 : Int))
      have a4 := KG hc k g2 hnx (by show (B.1 ++ [ndK (B.2 : Int)]).length + 100 * k < _; simp only [lnA,lnC,lnN]; omega) (up (hv v (by simp))) (l := [(B.1.length : Int)]) (fun u hu => by
       simp only [List.mem_singleton] at hu; subst hu; exact yR _ _) (by simp) (fun _ h => by simp at h) h0
      rw [xT a3,zk]
      simp only [List.getD_cons_zero] at a4 ⊢
      simp only [List.map_cons,List.map_nil] at a4
      cases hr : A8 c k ⟨B.1 ++ [ndK (B.2 : Int)],m.at',m.s,m.e,m.d,m.state,m.ask,m.arg⟩ v [(B.1.length : Int)] with
      | ok m' => rw [hr] at a4; rw [zH (Ah a4)]; rfl
      | error q =>
       rw [hr] at a4
       obtain ⟨q0,m',hx⟩ := zB a4
       rw [zH hx]
       exact ⟨q0,m',rfl⟩
     rw [if_neg h18] at h0 ⊢
     rw [vJ (xw h18)]
     by_cases h12 : (nod m.pool f).n > 12
     ·rw [if_pos h12,wz (decide_eq_true h12)]
      have a1 := JJ (q := m.pool) (row := l) (by omega)
      rw [z0 a1]
      rfl
     rw [if_neg h12,vJ (decide_eq_false h12)]
     have hp := MO h.gm.ok (by omega) (n := (nod m.pool f).n) hv (by omega) hargs.symm (fun e => h11 e (by
      rw [e] at hargs
      have : xX 11 = 2 := rfl
      omega))
     cases hr : Jr m.pool (nod m.pool f).n l with
     | error q =>
      rw [hr] at hp
      rw [Gg hp]
      have hq : q = 3 \/ q = 4 := by
       rw [D0 (by omega) hargs.symm] at hr
       split at hr
       ·split at hr
        ·cases hr
        ·split at hr
         ·cases hr
         ·split at hr
          ·cases hr
          ·cases hr; exact .inr rfl
       ·cases hr; exact .inl rfl
      rcases hq with rfl | rfl
      ·exact ⟨by decide,m,rfl⟩
      ·exact ⟨by decide,m,rfl⟩
     | ok r =>
      obtain ⟨p,v⟩ := r
      rw [hr] at hp
      obtain ⟨q1,q2,t,q3,q4⟩ := Mr h.gm.ok hv (by omega) hargs.symm hr
      have hpl' : p.length < 4294967296 := by rw [q3]; simp only [lnA]; omega
      have a3 := AA (c := c) (m := ⟨p,m.at',m.s,m.e,m.d,m.state,m.ask,m.arg⟩) hpl' v
      rw [Gg hp,vJ (xw (by omega)),vJ (xw (by omega)),yx a3]
      show some (iN 0,[D.op [_,iN (w6 (m.at' + 1)),_,_,_,_,_,_,_,_,_]]) = _
      rw [w64 (by omega) (by omega)]
      rfl
    ·rw [if_pos hargs,wz (xA (by rw [Jd rfl]; exact hargs))]
     exact ⟨by decide,m,rfl⟩
   revert prim h0
   generalize (if xX (nod m.pool f).n ≠ (l.length : Int) then (.error 2 : Except Int Mc) else _) = r
   intro h0 prim
   cases r with
   | ok m' => rw [Ay (Ah prim)]; rfl
   | error q =>
    obtain ⟨q0,m',hx⟩ := zB prim
    rw [Ay hx]
    exact ⟨q0,m',rfl⟩
  rw [if_neg h8,vJ (xw h8)]
  by_cases h7 : (nod m.pool f).kind = 7
  ·rw [if_pos h7,wz (xx h7)]
   have he := MS hc h.gm.ok (by omega) (Gf h.gm.ok hf (.inr (.inr h7))) (l := l) (by omega)
   cases hr : Mw c m (nod m.pool f).a l with
   | ok m' => rw [hr] at he; rw [BJ (Ah he)]; rfl
   | error q =>
    rw [hr] at he
    obtain ⟨q0,m',hx⟩ := zB he
    rw [BJ hx]
    exact ⟨q0,m',rfl⟩
  ·rw [if_neg h7,vJ (xw h7)]
   exact ⟨by decide,m,rfl⟩
end Go.Eng
/-! a step of a machine: the program's side: whole -/
namespace Go.Eng
open Go.Proofs Go.Proofs.Try
set_option maxHeartbeats 4000000

theorem I5 : ∀ (r : List Int) (q : List Nd) (c : Nat),∃ t,(zl r q c).1 = q ++ t
 | [],q,c => ⟨[],by simp [zl]⟩
 | x :: r,q,c => by
  obtain ⟨t,h⟩ := I5 r (q ++ [ndP x c]) q.length
  exact ⟨ndP x c :: t,by rw [zl,h]; simp⟩
theorem O9 (q : List Nd) (row : List Int) : ∃ t,(xK q row).1 = q ++ t := by
 obtain ⟨t,h⟩ := I5 row.reverse (q ++ [ndN]) q.length
 exact ⟨ndN :: t,by unfold xK; rw [h]; simp⟩
theorem Qk (p : List Nd) (x : Nd) : nod (p ++ [x]) (p.length : Int) = x := by simp [nod]
theorem IB {c : Cd} : ∀ (k : Nat) {m : Mc} {f : Int} {l : List Int},(∀ v ∈ l,InP m.pool v) -> (3 <= k \/ (2 <= k /\ (nod m.pool (l.getD 0 0)).kind = 7) \/ (1 <= k /\ (nod m.pool f).kind = 7)) -> A8 c k m f l ≠ .error 0
 | 0,m,f,l,hv,hk => by omega
 | k + 1,m,f,l,hv,hk => by
  unfold A8
  simp only
  split
  ·unfold DF
   split
   ·intro h; cases h
   ·split
    ·intro h; cases h
    ·intro h; cases h
  split
  ·rename_i h6 h8
   split
   ·intro h; cases h
   rename_i hargs
   split
   ·rename_i h18
    obtain ⟨v,r,rfl⟩ : ∃ v r,l = v :: r := by
     cases l with
     | nil => exact absurd (by rw [h18]; decide) hargs
     | cons v r => exact ⟨v,r,rfl⟩
    obtain ⟨t,ht⟩ := O9 (m.pool ++ [ndI (m.at' + 1)]) [(m.pool.length : Int),m.s,m.e,m.d]
    have e1 : (xK (m.pool ++ [ndI (m.at' + 1)]) [(m.pool.length : Int),m.s,m.e,m.d]).1 = m.pool ++ (ndI (m.at' + 1) :: t) := by rw [ht]; simp
    have hv0 := hv v (by simp)
    have up : nod ((xK (m.pool ++ [ndI (m.at' + 1)]) [(m.pool.length : Int),m.s,m.e,m.d]).1 ++ [ndK ((xK (m.pool ++ [ndI (m.at' + 1)]) [(m.pool.length : Int),m.s,m.e,m.d]).2 : Int)]) v = nod m.pool v := by
     rw [e1,List.append_assoc,Q6 hv0]
    refine IB k (fun u hu => ?_) ?_
    ·simp only [List.mem_singleton] at hu; subst hu
     exact yR _ _
    ·rcases hk with hk | ⟨hk,h7⟩ | ⟨hk,h7⟩
     ·refine .inr (.inl ⟨by omega,?_⟩)
      simp only [List.getD_cons_zero]
      rw [Qk]
     ·refine .inr (.inr ⟨by omega,?_⟩)
      simp only [List.getD_cons_zero] at h7 ⊢
      rw [up,h7]
     ·omega
   split
   ·intro h; cases h
   split
   ·rename_i q hq
    intro h
    have hz : q + 1 = 0 := by injection h
    obtain ⟨n1,n19,l2⟩ := z5 (n := (nod m.pool f).n) (k := l.length) (by simpa using hargs)
    rw [D0 (by omega) (by simpa using (Eq.symm (by simpa using hargs : xX (nod m.pool f).n = (l.length : Int))))] at hq
    split at hq
    ·split at hq
     ·cases hq
     ·split at hq
      ·cases hq
      ·split at hq
       ·cases hq
       ·cases hq; omega
    ·cases hq; omega
   ·intro h; cases h
  split
  ·unfold Mw
   split
   ·intro h; cases h
   ·split <;> (intro h; cases h)
  ·intro h; cases h
theorem J9 {c : Cd} : ∀ (k : Nat) {m : Mc} {f : Int} {l : List Int} {h : Int},A8 c k m f l = .error h -> h = 0 \/ (1 <= h /\ h <= 7)
 | 0,m,f,l,h,he => by cases he; exact .inl rfl
 | k + 1,m,f,l,h,he => by
  unfold A8 at he
  simp only at he
  split at he
  ·unfold DF at he
   split at he
   ·cases he; omega
   ·split at he
    ·cases he; omega
    ·cases he
  split at he
  ·split at he
   ·cases he; omega
   rename_i hargs
   split at he
   ·exact J9 k he
   split at he
   ·cases he
   split at he
   ·rename_i q hq
    cases he
    obtain ⟨n1,n19,l2⟩ := z5 (n := (nod m.pool f).n) (k := l.length) (by simpa using hargs)
    rw [D0 (by omega) (by simpa using (Eq.symm (by simpa using hargs : xX (nod m.pool f).n = (l.length : Int))))] at hq
    split at hq
    ·split at hq
     ·cases hq
     ·split at hq
      ·cases hq
      ·split at hq
       ·cases hq
       ·cases hq; omega
    ·cases hq; omega
   ·cases he
  split at he
  ·unfold Mw at he
   split at he
   ·cases he; omega
   ·split at he
    ·cases he
    ·cases he; omega
  ·cases he; omega
theorem QP {c : Cd} (_ : yG c = true) {m : Mc} (h : RunM c m) {q : Int} (he : doM c m = .error q) : 1 <= q /\ q <= 7 := by
 unfold doM at he
 simp only at he
 split at he
 ·unfold Am at he
  split at he
  ·cases he; omega
  split at he
  ·cases he; omega
  ·rename_i l m1 ht
   obtain ⟨f1,f2,f3,f4,f5,f6,f7,f8,f9⟩ := GG h.gm ht
   rcases J9 3 he with rfl | h1
   ·exact absurd he (IB 3 (fun v hv => f2 v (by have := List.mem_of_mem_drop hv; simpa using this)) (.inl (Nat.le_refl _)))
   ·exact h1
 split at he
 ·unfold GL at he
  split at he
  ·cases he; omega
  simp only at he
  split at he
  ·cases he
  split at he
  ·cases he; omega
  split at he
  ·cases he
  ·cases he; omega
 ·have go : ∀ {r : Except Int Mc} {n : Int},(∀ q',r = .error q' -> 1 <= q' /\ q' <= 7) -> goM c r n = .error q -> 1 <= q /\ q <= 7 := by
   intro r n hr hg
   unfold goM at hg
   split at hg
   ·cases hg; exact hr _ rfl
   ·split at hg
    ·cases hg
    ·cases hg; omega
  unfold DZ at he
  split at he
  ·exact go (fun q' e => by cases e) he
  split at he
  ·refine go (fun q' e => ?_) he
   unfold NT at e
   split at e
   ·cases e; omega
   ·split at e
    ·cases e; omega
    ·cases e
  split at he
  ·refine go (fun q' e => ?_) he
   unfold IV at e
   split at e
   ·cases e
   ·split at e
    ·cases e; omega
    ·cases e
  split at he
  ·exact go (fun q' e => by cases e) he
  split at he
  ·exact go (fun q' e => by cases e) he
  split at he
  ·cases he; omega
  ·exact go (fun q' e => by cases e) he
theorem MC {c : Cd} {m : Mc} (h : z4 c m = true) (h0 : m.state = 0) : z4 c (D8 c m) = true := by
 obtain ⟨hr,hc,hl⟩ := Jo h h0
 unfold D8
 cases he : doM c m with
 | error q => exact LK h (QP hc hr he)
 | ok m' =>
  obtain ⟨g1,⟨t,g2,g3⟩,g4⟩ := LF hc hr he
  simp only
  split
  ·exact Oi hc g1.ok ‹_› g1.s g1.e g1.d g4
  ·exact LK h (by omega)

theorem My : ∀ (n : Nat) (pre mid post : List Int) (i j : Int),mid.length <= n -> i = pre.length -> j = i + mid.length - 1 -> (pre ++ mid ++ post).length < 4611686018427387904 ->
  ym i j ((pre ++ mid ++ post).map eI) = some (.tup [],[.os (1,0) ((pre ++ mid.reverse ++ post).map eI)])
 | 0,pre,mid,post,i,j,hn,hi,hj,hl => by
  have : mid = [] := List.length_eq_zero_iff.1 (by omega)
  subst this
  rw [yg,vJ (decide_eq_false (by simp at hj; omega))]
  rfl
 | n + 1,pre,mid,post,i,j,hn,hi,hj,hl => by
  match mid,hn,hj,hl with
  | [],hn,hj,hl =>
   rw [yg,vJ (decide_eq_false (by simp at hj; omega))]
   rfl
  | [x],hn,hj,hl =>
   rw [yg,vJ (decide_eq_false (by simp at hj; omega))]
   rfl
  | x :: z :: r,hn,hj,hl =>
   obtain ⟨m,y,hm⟩ : ∃ m y,z :: r = m ++ [y] := ⟨(z :: r).dropLast,(z :: r).getLast (by simp),(List.dropLast_concat_getLast (by simp)).symm⟩
   rw [hm] at hn hj hl ⊢
   simp only [lnC,lnA,lnN] at hn hj hl
   subst hi
   have hj' : j = ((pre.length + m.length + 1 : Nat) : Int) := by omega
   subst hj'
   have hx : (pre ++ x :: (m ++ [y]) ++ post)[pre.length]? = some x := by simp
   have hy : (pre ++ x :: (m ++ [y]) ++ post)[pre.length + m.length + 1]? = some y := by
    have e : pre ++ x :: (m ++ [y]) ++ post = (pre ++ x :: m) ++ y :: post := by simp
    have e2 : pre.length + m.length + 1 = (pre ++ x :: m).length := by simp; omega
    rw [e,e2]; simp
   have len : (pre ++ x :: (m ++ [y]) ++ post).length = pre.length + m.length + 2 + post.length := by simp; omega
   have s1 : List.set ((pre ++ x :: (m ++ [y]) ++ post).map eI) pre.length (iN y) = (pre ++ y :: (m ++ [y]) ++ post).map eI := by
    rw [<- List.map_set]; simp
   have hy2 : (pre ++ y :: (m ++ [y]) ++ post)[pre.length + m.length + 1]? = some y := by
    have e : pre ++ y :: (m ++ [y]) ++ post = (pre ++ y :: m) ++ y :: post := by simp
    have e2 : pre.length + m.length + 1 = (pre ++ y :: m).length := by simp; omega
    rw [e,e2]; simp
   have s2 : List.set ((pre ++ y :: (m ++ [y]) ++ post).map eI) (pre.length + m.length + 1) (iN x) = ((pre ++ [y]) ++ m ++ (x :: post)).map eI := by
    have e : pre ++ y :: (m ++ [y]) ++ post = (pre ++ y :: m) ++ y :: post := by simp
    have e2 : pre.length + m.length + 1 = (pre ++ y :: m).length := by simp; omega
    rw [<- List.map_set,e,e2]; simp
   have len2 : (pre ++ y :: (m ++ [y]) ++ post).length = pre.length + m.length + 2 + post.length := by simp; omega
   have ih := My n (pre ++ [y]) m (x :: post) ((pre.length : Int) + 1) (((pre.length + m.length + 1 : Nat) : Int) - 1) (by omega) (by simp) (by simp; omega) (by simp; omega)
   rw [yg,wz (decide_eq_true (by omega)),
    Ar (l := pre ++ x :: (m ++ [y]) ++ post) (v := ((pre.length + m.length + 1 : Nat) : Int)) (x := y) (by omega) (by rw [Int.toNat_natCast]; exact hy),
    Ar (l := pre ++ x :: (m ++ [y]) ++ post) (v := (pre.length : Int)) (x := x) (by omega) (by rw [Int.toNat_natCast]; exact hx),
    xl (by rw [lnM]; exact xo (by omega)),Int.toNat_natCast,wT hx,xq,s1,
    xl (by rw [lnM]; exact xo (by omega)),Int.toNat_natCast,wT hy2,xq,s2,w64 (n := (pre.length : Int) + 1) (by omega) (by omega),w64 (n := ((pre.length + m.length + 1 : Nat) : Int) - 1) (by omega) (by omega),ih]
   simp
theorem PE {l : List Int} (hl : l.length < 4611686018427387904) : V 69 [.os (1,0) (l.map eI)] = some (.tup [],[.os (1,0) (l.reverse.map eI)]) := by
 have h := My l.length [] l [] 0 ((l.length : Int) - 1) (Nat.le_refl _) rfl (by omega) (by simpa using hl)
 simp only [List.nil_append,List.append_nil] at h
 rw [Ct,lnM,w64 (n := ni l.length - 1) (by simp only [ni]; omega) (by simp only [ni]; omega)]
 exact h

theorem Pn (a : Int) (r : List Int) : part ((a :: r).map eI) (some (Int.toNat 1,((a :: r).map eI).length - Int.toNat 1)) = r.map eI := by
 simp only [part,List.map_cons,lnC]
 show (r.map eI).take ((r.map eI).length + 1 - 1) = _
 exact List.take_of_length_le (by simp)
theorem Dl {c : Cd} (hc : c.list.length <= 400) {many : Nat} (hm : many <= 4) : ∀ (k i : Nat) {m : Mc} {acc : List Int},i + k = many + 1 -> acc.length = i -> RunM c m -> zy c (m.at' + 1) = true -> m.pool.length <= 3000 -> (∀ v ∈ acc,InP m.pool v) ->
  Fh c (yB ((many : Int) + 1) (i : Int) m.at' m.s m.e m.d m.state m.ask m.arg (c.pool.map eN) (c.list.map eIn) (c.defs.map eDf) (acc.map eI) (m.pool.map eN)) (match Da k m with
   | none => .error 7
   | some (l,m') => A8 c 3 m' ((acc ++ l).reverse.getD 0 0) ((acc ++ l).reverse.drop 1))
 | 0,i,m,acc,hi,ha,hr,hnx,hl,hv => by
  rw [zj,vJ (decide_eq_false (by omega)),Bv (PE (l := acc) (by omega))]
  simp only [Da,List.append_nil]
  obtain ⟨a,r,hq⟩ : ∃ a r,acc.reverse = a :: r := by
   cases hq : acc.reverse with
   | nil => have h := congrArg List.length hq; rw [List.length_reverse,lnN] at h; omega
   | cons a r => exact ⟨a,r,rfl⟩
  have hlen : r.length = many := by have h := congrArg List.length hq; rw [List.length_reverse,lnC] at h; omega
  have hvr : ∀ v ∈ a :: r,InP m.pool v := fun v hv' => hv v (by rw [<- hq] at hv'; simpa using hv')
  rw [hq,zk,xl (by simp [cE]; omega),Pn]
  simp only [List.getD_cons_zero,List.drop_one,List.tail_cons]
  have h0 := IB (c := c) 3 (m := m) (f := a) (l := r) (fun v hv' => hvr v (by simp [hv'])) (.inl (Nat.le_refl _))
  have hcall := KG hc 3 hr hnx (by omega) (hvr a (by simp)) (fun v hv' => hvr v (by simp [hv'])) (by omega) (fun _ _ => okPool_iff.2 ⟨hr.gm.ok,hl⟩) h0
  cases he : A8 c 3 m a r with
  | ok m' => rw [he] at hcall; rw [zH (Ah hcall)]; rfl
  | error q =>
   rw [he] at hcall
   obtain ⟨q0,m',hx⟩ := zB hcall
   rw [zH hx]
   exact ⟨q0,m',rfl⟩
 | k + 1,i,m,acc,hi,ha,hr,hnx,hl,hv => by
  rw [zj,wz (decide_eq_true (by omega))]
  unfold Da
  cases ht : CJ m with
  | none =>
   have h1 := Dc (c := c) hr.gm.s ht
   rw [yN h1]
   exact ⟨by decide,m,rfl⟩
  | some q =>
   obtain ⟨v,m1⟩ := q
   have h1 := GI (c := c) hr.gm.s ht
   obtain ⟨g1,g2,g3,g4,g5,g6,g7,g8⟩ := CK hr.gm ht
   have ea : acc.map eI ++ [iN v] = (acc ++ [v]).map eI := by simp
   have ih := Dl hc hm k (i + 1) (m := m1) (acc := acc ++ [v]) (by omega) (by simp [ha]) ⟨g1,g5.trans hr.st,g6.trans hr.ask,g7.trans hr.arg,by rw [g4]; exact hr.pl⟩ (by rw [g4]; exact hnx) (by rw [g3]; exact hl) (fun u hu => by
    rw [g3]
    rcases List.mem_append.1 hu with hu | hu
    ·exact hv u hu
    ·simp only [List.mem_singleton] at hu; subst hu; rw [<- g3]; exact g2)
   rw [yN h1,Bool.not_true,wy,xl (Qc (by omega) v),xq,ea,xF (by omega)]
   simp only
   cases ht2 : Da k m1 with
   | none => rw [ht2] at ih; exact ih
   | some q2 =>
    obtain ⟨l2,m2⟩ := q2
    rw [ht2] at ih
    simp only [List.append_assoc,List.singleton_append] at ih
    exact ih
theorem Lt {c : Cd} (hc : c.list.length <= 400) {m : Mc} (hr : RunM c m) (hl : m.pool.length <= 3000) {k : Int} (hk : 0 <= k /\ k <= 4) : Fh c (V 50 [eSt c m,iN k]) (Am c m k.toNat) := by
 have hpl := isPl_iff.1 hr.pl
 rw [Du,w64 (n := m.at' + 1) (by omega) (by omega),yd (Ae hc _)]
 unfold Am
 cases hp : zy c (m.at' + 1) with
 | false => rw [if_pos rfl]; exact ⟨by decide,m,rfl⟩
 | true =>
  have h := Dl hc (many := k.toNat) (by omega) (k.toNat + 1) 0 (acc := []) (by omega) rfl hr hp hl (by simp)
  rw [Int.natCast_zero,Int.toNat_of_nonneg hk.1] at h
  rw [if_neg (by simp),Bool.not_true,wy,w64 (n := k + 1) (by omega) (by omega)]
  simp only [List.nil_append] at h
  exact h
theorem PG {c : Cd} (hc : c.list.length <= 400) {m : Mc} (hr : RunM c m) (hl : m.pool.length <= 3000) : Fh c (V 51 [eSt c m]) (GL c m) := by
 rw [Fq]
 unfold GL
 cases ht : CJ m with
 | none =>
  have h1 := Dc (c := c) hr.gm.s ht
  rw [yN h1]
  exact ⟨by decide,m,rfl⟩
 | some q =>
  obtain ⟨v,m1⟩ := q
  have h1 := GI (c := c) hr.gm.s ht
  obtain ⟨g1,g2,g3,g4,g5,g6,g7,g8⟩ := CK hr.gm ht
  rw [yN h1,Bool.not_true,wy,Dz g1.d]
  simp only
  by_cases k1 : (nod m1.pool m1.d).kind = 1
  ·rw [if_pos k1,wz (xx k1)]; rfl
  rw [if_neg k1,vJ (xw k1)]
  by_cases k5 : (nod m1.pool m1.d).kind = 5
  ·rw [if_neg (fun h => h k5),vJ (xz k5)]
   have ha := Gf g1.ok g1.d (.inl k5)
   have hlst := CN g1.ok (by rw [g3]; omega) ha
   have hin := CY g1.ok ha
   rw [y4 hlst]
   rcases hq : BX m1.pool (nod m1.pool m1.d).a with ⟨xs,b⟩
   have hfr := LN (c := c) hq (many := 3) (by omega)
   rw [hq] at hin
   have none : ∀ {X : Option Ret},¬ (b = true /\ xs.length = 3 /\ (nod m1.pool (xs.getD 0 0)).kind = 3 /\ zy c (nod m1.pool (xs.getD 0 0)).n = true) -> X = some (iN 7,[eSt c m1]) -> Fh c X (match DG c m1.pool (nod m1.pool m1.d).a 3 with
     | some (n,[s,e]) => .ok (Js ⟨m1.pool,n,s,e,(nod m1.pool m1.d).b,m1.state,m1.ask,m1.arg⟩ v)
     | _ => .error 7) := by
    intro X hn hX
    rw [hfr,if_neg hn]
    exact ⟨by decide,m1,hX⟩
   cases b with
   | false => exact none (fun h => by simp at h) rfl
   | true =>
    rw [Bool.not_true,wy]
    by_cases h4 : xs.length = 3
    ·obtain ⟨a,s,e,rfl⟩ : ∃ a s e,xs = [a,s,e] := by
      match xs,h4 with
      | [a,s,e],_ => exact ⟨a,s,e,rfl⟩
      | [],h => simp at h
      | [_],h => simp at h
      | [_,_],h => simp at h
      | _ :: _ :: _ :: _ :: _,h => simp at h
     have ha' := hin a (by simp)
     rw [vJ (xz (Jd (k := 3) rfl)),zk,KI ha']
     by_cases h3 : (nod m1.pool a).kind = 3
     ·rw [vJ (xz h3),zk,PN ha',yd (Ae hc _)]
      cases h5 : zy c (nod m1.pool a).n with
      | false => exact none (fun h => by have := h.2.2.2; simp only [List.getD_cons_zero,h5] at this; cases this) rfl
      | true =>
       have a3 := AA (c := c) (m := ⟨m1.pool,(nod m1.pool a).n,s,e,(nod m1.pool m1.d).b,m1.state,m1.ask,m1.arg⟩) (by show m1.pool.length < _; rw [g3]; omega) v
       rw [hfr,if_pos ⟨rfl,rfl,h3,h5⟩,Bool.not_true,wy,zk,PN ha',CX,Lf,yx a3]
       rfl
     ·rw [wz (xA h3)]
      exact none (fun h => h3 h.2.2.1) rfl
    ·rw [wz (xA (Qh (l := xs) (k := 3) (fun h => h4 (by omega))))]
     exact none (fun h => h4 h.2.1) rfl
  ·rw [if_pos k5,wz (xA k5)]
   exact ⟨by decide,m1,rfl⟩
end Go.Eng
/-! a step of a machine: the program's side: every instruction; runs -/
namespace Go.Eng
open Go.Proofs Go.Proofs.Try
set_option maxHeartbeats 4000000

theorem Px {q : List Nd} {v : Int} (hv : InP q v) : xZ q [v] = true := by
 simp only [xZ,List.all_cons,List.all_nil,Bool.and_true]
 exact wi_iff.2 ⟨hv.1,by omega⟩
theorem Qa {l : List Int} {v : Int} (h : 0 <= v /\ v < (l.length : Int)) {R : Type} (K : Int -> Option R) : grd (decide (0 <= v) && decide (v < ni (l.map eI).length)) (cy (l.map eI) v.toNat fun x => asI .i64 x fun n => K n) = K (l.getD v.toNat 0) := by
 obtain ⟨u,hu⟩ := CW (l := l) h.1 h.2
 rw [Ar h.1 hu]
 simp [hu]
theorem NG {q acc : List Nd} (hp : xJ q = true) {v : Int} (hv : InP q v) (hc : acc.length + q.length < 4294967296) : V 72 [rP acc,eP q,iN v] = some (iN (Ba (-1) q v acc).2,[rP (Ba (-1) q v acc).1]) := by
 have hm : V 80 [rP acc,eP q,.rs (1,0) [iN v]] = _ := MQ (acc := acc) hp (rs := [v]) (by simp) (Px hv) hc
 have hl : (zz (-1) q [v] acc).1.length = q.length := by unfold zz; rw [BG]; simp
 rw [Ej,DR hm,Qa ⟨hv.1,by rw [hl]; exact hv.2⟩]
 rfl
theorem AV {c : Cd} (_ : c.list.length <= 400) {m : Mc} {n : Int} {X : Option Ret} (h : X = match zy c n with
  | false => some (iN 7,[eSt c m])
  | true => some (iN 0,[eSt c ⟨m.pool,n,m.s,m.e,m.d,m.state,m.ask,m.arg⟩])) : Fh c X (goM c (.ok m) n) := by
 unfold goM
 cases hp : zy c n with
 | false => rw [hp] at h; exact ⟨by decide,m,h⟩
 | true => rw [hp] at h; exact h
theorem NN {c : Cd} (hf : FitsC c) (hok : yG c = true) {m : Mc} (hr : RunM c m) (hl : m.pool.length <= 3000) {x : In} {k : Nat} (hx : c.list[k]? = some x) : Fh c (V 52 [eSt c m,eIn x]) (DZ c m x) := by
 obtain ⟨c1,c2,c3⟩ := yV hok
 have cl := ye c1
 have hin := Ed hok hx
 have hat := isPl_iff.1 hr.pl
 have w1 : w6 (m.at' + 1) = m.at' + 1 := w64 (by omega) (by omega)
 rw [ED]
 unfold DZ
 by_cases h1 : x.op = 1
 ·have hlit := Ml hin h1
  have f := GP c1 hr.gm.ok hlit (-1)
  obtain ⟨f1,f2,t,f3,f4⟩ := f
  have hlen := congrArg List.length f3
  rw [lnA] at hlen
  have h2 := NG (acc := m.pool) c1 hlit (by omega)
  have h3 := AA (c := c) (m := ⟨(Ba (-1) c.pool x.n m.pool).1,m.at',m.s,m.e,m.d,m.state,m.ask,m.arg⟩) (by show (Ba (-1) c.pool x.n m.pool).1.length < _; omega) (Ba (-1) c.pool x.n m.pool).2
  rw [if_pos h1,wz (xx h1),GE h2,yx h3,w1,yd (Ae c2 _)]
  refine AV c2 ?_
  cases zy c (m.at' + 1) <;> rfl
 rw [if_neg h1,vJ (xw h1)]
 by_cases h2 : x.op = 2
 ·have hv := Qp hin h2
  have hX := J7 (c := c) (m := m) hr.gm.ok (by omega) hr.gm.e (o := x.n) (i := x.i) (by omega) (by omega) (by omega) (by omega)
  rw [if_pos h2,wz (xx h2)]
  cases e : NT m x.n x.i with
  | ok m' =>
   rw [e] at hX
   rw [AI (Ah hX),wz (xx rfl),w1,yd (Ae c2 _)]
   refine AV c2 ?_
   cases zy c (m.at' + 1) <;> rfl
  | error q =>
   rw [e] at hX
   obtain ⟨q0,m',hx'⟩ := zB hX
   rw [AI hx',vJ (xw q0),w1]
   exact ⟨q0,⟨m'.pool,m.at' + 1,m'.s,m'.e,m'.d,m'.state,m'.ask,m'.arg⟩,rfl⟩
 rw [if_neg h2,vJ (xw h2)]
 by_cases h3 : x.op = 3
 ·have hX := MR hf hok (m := m) (by omega) x.s
  rw [if_pos h3,wz (xx h3)]
  cases e : IV c m x.s with
  | ok m' =>
   rw [e] at hX
   rw [BI (Ah hX),wz (xx rfl),w1,yd (Ae c2 _)]
   refine AV c2 ?_
   cases zy c (m.at' + 1) <;> rfl
  | error q =>
   rw [e] at hX
   obtain ⟨q0,m',hx'⟩ := zB hX
   rw [BI hx',vJ (xw q0),w1]
   exact ⟨q0,⟨m'.pool,m.at' + 1,m'.s,m'.e,m'.d,m'.state,m'.ask,m'.arg⟩,rfl⟩
 rw [if_neg h3,vJ (xw h3)]
 by_cases h5 : x.op = 5
 ·rw [if_pos h5,wz (xx h5),yd (Ae c2 _)]
  refine AV c2 ?_
  cases zy c x.n <;> rfl
 rw [if_neg h5,vJ (xw h5)]
 by_cases h6 : x.op = 6
 ·have hfn := Mj hin h6
  have h7 := AJ (p := m.pool) (by omega) (ndF (8 * x.n + x.i) m.e)
  have h8 := AA (c := c) (m := ⟨m.pool ++ [ndF (8 * x.n + x.i) m.e],m.at',m.s,m.e,m.d,m.state,m.ask,m.arg⟩) (by simp; omega) m.pool.length
  rw [if_pos h6,wz (xx h6),w64 (n := 8 * x.n) (by omega) (by omega),w64 (n := 8 * x.n + x.i) (by omega) (by omega),xT h7,yx h8,w1,yd (Ae c2 _)]
  refine AV c2 ?_
  cases zy c (m.at' + 1) <;> rfl
 rw [if_neg h6,vJ (xw h6)]
 cases ht : CJ m with
 | none =>
  have h1 := Dc (c := c) hr.gm.s ht
  rw [yN h1]
  exact ⟨by decide,m,rfl⟩
 | some q =>
  obtain ⟨v,m1⟩ := q
  have hX := GI (c := c) hr.gm.s ht
  obtain ⟨g1,g2,g3,g4,g5,g6,g7,g8⟩ := CK hr.gm ht
  rw [yN hX,Bool.not_true,wy,Dz g2,w1]
  simp only
  by_cases h4 : x.op = 4
  ·rw [wz (xx h4)]
   by_cases k2 : (nod m1.pool v).kind = 2
   ·rw [wz (xx k2)]
    by_cases k0 : (nod m1.pool v).n = 0
    ·rw [wz (xx k0),if_pos ⟨h4,k2,k0⟩,yd (Ae c2 _)]
     refine AV c2 ?_
     cases zy c x.n <;> rfl
    ·rw [vJ (xw k0),if_neg (fun h => k0 h.2.2),yd (Ae c2 _)]
     refine AV c2 ?_
     cases zy c (m.at' + 1) <;> rfl
   ·rw [vJ (xw k2),if_neg (fun h => k2 h.2.1),yd (Ae c2 _)]
    refine AV c2 ?_
    cases zy c (m.at' + 1) <;> rfl
  ·rw [vJ (xw h4),if_neg (fun h => h4 h.1),yd (Ae c2 _)]
   refine AV c2 ?_
   cases zy c (m.at' + 1) <;> rfl

theorem QE {m : Mc} (hl : m.pool.length <= 4294967296) (q : Int) : V 53 [eMc m,iN q] = some (oMc (LJ m q),[]) := by
 rw [KV,zn (zD hl)]
 rfl
theorem QH {c : Cd} (hf : FitsC c) (hok : yG c = true) {m : Mc} (hr : RunM c m) (hl : m.pool.length <= 3000) : V 28 [eCd c,eMc m] = some (oMc (D8 c m),[]) := by
 obtain ⟨c1,c2,c3⟩ := yV hok
 have cl := ye c1
 obtain ⟨x,hx⟩ := Oz hr
 have hin := Ed hok hx
 have hat := isPl_iff.1 hr.pl
 have hgd : c.list.getD m.at'.toNat ⟨0,0,0,⟨#[]⟩⟩ = x := by rw [List.getD_eq_getElem?_getD,hx]; rfl
 have hfail := fun q => QE (m := m) (by omega) q
 have big : ∀ {m' : Mc},doM c m = .ok m' -> m'.pool.length < 4294967296 := fun e => by
  obtain ⟨g1,⟨t,g2,g3⟩,g4⟩ := LF hok hr e
  have hlen := congrArg List.length g2
  rw [lnA] at hlen
  omega
 rw [Nf,zn (zD (by omega)),xl (by rw [lnM]; simp only [ni,Bool.and_eq_true,decide_eq_true_eq]; omega),wT hx,RH]
 have hdo : doM c m = if x.op = 7 then Am c m x.i.toNat else if x.op = 8 then GL c m else DZ c m x := by unfold doM; rw [hgd]
 unfold D8
 by_cases h7 : x.op = 7
 ·rw [if_pos h7] at hdo
  rw [hdo] at big ⊢
  have hX := Lt c2 hr hl (Kx hin h7)
  rw [wz (xx h7)]
  cases e : Am c m x.i.toNat with
  | ok m' =>
   rw [e] at hX
   have hb := big e
   rw [Bi (Ah hX),wz (xx rfl),lnM]
   simp only
   by_cases h3 : m'.pool.length <= 3000
   ·rw [vJ (decide_eq_false (by simp only [ni]; omega)),vJ (xz rfl),if_pos h3]
   ·rw [wz (decide_eq_true (by simp only [ni]; omega)),zR (hfail 6),if_neg h3]
  | error q =>
   rw [e] at hX
   obtain ⟨q0,m',hx'⟩ := zB hX
   rw [Bi hx',vJ (xw q0),wz (xA q0),zR (hfail q)]
 rw [if_neg h7] at hdo
 rw [vJ (xw h7)]
 by_cases h8 : x.op = 8
 ·rw [if_pos h8] at hdo
  rw [hdo] at big ⊢
  have hX := PG c2 hr hl
  rw [wz (xx h8)]
  cases e : GL c m with
  | ok m' =>
   rw [e] at hX
   have hb := big e
   rw [Dk (Ah hX),wz (xx rfl),lnM]
   simp only
   by_cases h3 : m'.pool.length <= 3000
   ·rw [vJ (decide_eq_false (by simp only [ni]; omega)),vJ (xz rfl),if_pos h3]
   ·rw [wz (decide_eq_true (by simp only [ni]; omega)),zR (hfail 6),if_neg h3]
  | error q =>
   rw [e] at hX
   obtain ⟨q0,m',hx'⟩ := zB hX
   rw [Dk hx',vJ (xw q0),wz (xA q0),zR (hfail q)]
 rw [if_neg h8] at hdo
 rw [vJ (xw h8)]
 rw [hdo] at big ⊢
 have hX := NN hf hok hr hl hx
 cases e : DZ c m x with
 | ok m' =>
  rw [e] at hX
  have hb := big e
  rw [CG (Ah hX),wz (xx rfl),lnM]
  simp only
  by_cases h3 : m'.pool.length <= 3000
  ·rw [vJ (decide_eq_false (by simp only [ni]; omega)),vJ (xz rfl),if_pos h3]
  ·rw [wz (decide_eq_true (by simp only [ni]; omega)),zR (hfail 6),if_neg h3]
 | error q =>
  rw [e] at hX
  obtain ⟨q0,m',hx'⟩ := zB hX
  rw [CG hx',vJ (xw q0),wz (xA q0),zR (hfail q)]
theorem MJ {c : Cd} (hf : FitsC c) {m : Mc} (hm : AX m.pool) (hl : m.pool.length <= 4294967296) : V 25 [eCd c,eMc m] = some (oMc (Qv c m),[]) := by
 have h1 := CM hf hm (by omega)
 rw [Na,DU h1]
 unfold Qv
 cases h : z4 c m with
 | false => rw [Bool.not_false,xd,if_neg (by simp)]; rfl
 | true =>
  rw [Bool.not_true,wy,if_pos rfl]
  by_cases h0 : m.state = 0
  ·obtain ⟨r1,r2,r3⟩ := Jo h h0
   rw [vJ (xz h0),Ku (QH hf r2 r1 r3),if_pos h0]
  ·rw [wz (xA h0),zn (zD hl),if_neg h0]
theorem QI {m : Mc} (hf : AX m.pool) (hl : m.pool.length <= 4294967296) : V 27 [oMc m] = some (oMc (Ai m),[]) := by
 rw [KY,lnM]
 unfold Ai
 by_cases h : m.pool.length <= 2000
 ·rw [vJ (decide_eq_false (by simp only [ni]; omega)),if_pos h]
 ·rw [wz (decide_eq_true (by simp only [ni]; omega)),Pk (ML hf hl),if_neg h]
theorem GW {c : Cd} (hf : FitsC c) {steps : Int} : ∀ (k : Nat) {m : Mc} (n : Int),z4 c m = true -> 0 <= n -> ((n + k = mnI steps 2000) \/ (k = 0 /\ mnI steps 2000 <= n)) -> n <= 2000 ->
  zX steps n (c.pool.map eN) (c.list.map eIn) (c.defs.map eDf) m.at' m.s m.e m.d m.state m.ask m.arg 0 0 0 0 0 0 0 (m.pool.map eN) = some (.tup [oMc (yF c k m).1,iN (n + (yF c k m).2)],[])
 | 0,m,n,h,hn,hk,h2 => by
  rw [BC]
  by_cases h0 : m.state = 0
  ·rw [wz (xx h0),vJ (decide_eq_false (by omega))]
   simp [yF]
  ·rw [vJ (xw h0)]
   simp [yF]
 | k + 1,m,n,h,hn,hk,h2 => by
  have mn : mnI steps 2000 <= 2000 := by unfold mnI; split <;> omega
  rw [BC]
  unfold yF
  by_cases h0 : m.state = 0
  ·obtain ⟨r1,r2,r3⟩ := Jo h h0
   have s1 := MC h h0
   obtain ⟨q1,q2,q3,q4⟩ := C7 s1
   have ht := QI (zL q2) (by omega)
   have t1 : z4 c (Ai (D8 c m)) = true := by
    unfold Ai
    split
    ·exact s1
    ·exact OG s1
   have ih := GW hf (steps := steps) k (m := Ai (D8 c m)) (n + 1) t1 (by omega) (.inl (by omega)) (by omega)
   rw [wz (xx h0),wz (decide_eq_true (by omega)),Ku (QH hf r2 r1 r3),Mi ht,w64 (n := n + 1) (by omega) (by omega),ih,if_pos h0]
   simp only [Int.natCast_add,Int.natCast_one]
   rw [show n + 1 + ((yF c k (Ai (D8 c m))).2 : Int) = n + (((yF c k (Ai (D8 c m))).2 : Int) + 1) by omega]
  ·rw [vJ (xw h0),if_neg h0]
   simp
theorem J5 {c : Cd} (hf : FitsC c) {m : Mc} (hm : AX m.pool) (hl : m.pool.length <= 4294967296) (steps : Int) : V 11 [eCd c,eMc m,iN steps] = some (.tup [oMc (Qu c m steps).1,iN (Qu c m steps).2],[]) := by
 have h1 := CM hf hm (by omega)
 rw [KU,DU h1]
 unfold Qu
 cases h : z4 c m with
 | false =>
  have h2 := MJ hf hm hl
  rw [Bool.not_false,xd,Pj h2,if_neg (by simp)]
  unfold Qv
  rw [if_neg (by simp [h])]
  rfl
 | true =>
  have hlo := GW hf (steps := steps) (mnI steps 2000).toNat 0 h (Int.le_refl _) (by omega) (by omega)
  rw [Bool.not_true,wy,zn (zD hl),if_pos rfl]
  simp only [Int.zero_add] at hlo
  exact hlo

end Go.Eng
/-! compiling: the program's side,where nothing comes up -/
namespace Go.Eng
noncomputable section
open Go.Proofs Go.Proofs.Try
set_option maxHeartbeats 4000000

def emI (L : List In) (x : In) : Option (List In) := if L.length < 400 then some (L ++ [x]) else none
def toI (L : List In) (k : Nat) : List In := L.set k ⟨(L.getD k (inO 0)).op,L.length,(L.getD k (inO 0)).i,(L.getD k (inO 0)).s⟩
def QQ : List ByteArray -> List ByteArray -> Bool
 | _,[] => true
 | pre,s :: r => !(pre.any fun t => jH s t) && QQ (pre ++ [s]) r
def Qj (p : List Nd) (xs : List Int) : Option (List ByteArray) := if xs.all (nmC p) = true /\ xs.length <= 4 /\ QQ [] (xs.map fun x => (nod p x).s) = true then some (xs.map fun x => (nod p x).s) else none
def PH (s : ByteArray) : List (List ByteArray) -> Nat -> Option (Nat × Int)
 | [],_ => none
 | e :: r,n => if 0 <= wW (fun t => jH s t) e then some (n,wW (fun t => jH s t) e) else PH s r (n + 1)
section
variable (E : List (List ByteArray) -> Int -> List In -> Option (List In))
def EJ (env : List (List ByteArray)) : List Int -> Bool -> List In -> Option (List In)
 | [],_,L => some L
 | x :: r,f,L => (if f = true then some L else emI L (inO 9)).bind fun L1 => (E env x L1).bind fun L2 => EJ env r false L2
def O8 (names : List ByteArray) (body : List Int) (env : List (List ByteArray)) (L : List In) : Option (List In) :=
 (emI L ⟨6,(L.length : Int) + 2,names.length,⟨#[]⟩⟩).bind fun L1 => (emI L1 (inO 5)).bind fun L2 => (EJ E (names :: env) body true L2).bind fun L3 => (emI L3 (inO 8)).bind fun L4 => some (toI L4 L1.length)
def LM (p : List Nd) (s : ByteArray) (xs : List Int) (env : List (List ByteArray)) (L : List In) : Option (List In) :=
 if jH s (mk [113,117,111,116,101]) = true then
  if xs.length = 2 then emI L ⟨1,xs.getD 1 0,0,⟨#[]⟩⟩ else none
 else if jH s (mk [105,102]) = true then
  if xs.length = 4 then
   (E env (xs.getD 1 0) L).bind fun L1 => (emI L1 (inO 4)).bind fun L2 => (E env (xs.getD 2 0) L2).bind fun L3 => (emI L3 (inO 5)).bind fun L4 =>
    (E env (xs.getD 3 0) (toI L4 L1.length)).bind fun L5 => some (toI L5 L3.length)
  else none
 else if jH s (mk [100,111]) = true then none
 else if jH s (mk [102,110]) = true then
  if 3 <= xs.length /\ (BX p (xs.getD 1 0)).2 = true then (Qj p (BX p (xs.getD 1 0)).1).bind fun ns => O8 E ns (xs.drop 2) env L else none
 else if jH s (mk [108,101,116]) = true then
  if 4 <= xs.length then (Qj p [xs.getD 1 0]).bind fun ns => (O8 E ns (xs.drop 3) env L).bind fun L1 => (E env (xs.getD 2 0) L1).bind fun L2 => emI L2 ⟨7,0,1,⟨#[]⟩⟩ else none
 else none
def FH (env : List (List ByteArray)) : List Int -> List In -> Option (List In)
 | [],L => some L
 | x :: r,L => (E env x L).bind fun L1 => FH env r L1
end
def EO (p : List Nd) : Nat -> List (List ByteArray) -> Int -> List In -> Option (List In)
 | 0,_,_,_ => none
 | k + 1,env,v,L =>
  let x := nod p v
  if x.kind = 1 \/ x.kind = 2 \/ x.kind = 3 then emI L ⟨1,v,0,⟨#[]⟩⟩
  else if x.kind = 4 then
   if Pu x.s = true then none else match PH x.s env 0 with
    | some (n,i) => emI L ⟨2,n,i,⟨#[]⟩⟩
    | none => emI L ⟨3,0,0,x.s⟩
  else if x.kind = 5 /\ (BX p v).2 = true then
   let xs := (BX p v).1
   let h := nod p (xs.getD 0 0)
   if h.kind = 4 /\ Pu h.s = true then LM (EO p k) p h.s xs env L
   else if xs.length > 5 then none
   else (FH (EO p k) env xs L).bind fun L1 => emI L1 ⟨7,0,(xs.length : Int) - 1,⟨#[]⟩⟩
  else none
def PU (p : List Nd) (env : List (List ByteArray)) (v : Int) (L : List In) : Option (List In) := EO p (v.toNat + 1) env v L
def PQ (p : List Nd) (s : ByteArray) (names : List ByteArray) (body : List Int) (L : List In) (ds : List Df) : Option (List In × List Df) :=
 if (ds.any fun d => jH d.name s) = true \/ 20 <= ds.length then none else (EJ (PU p) [names] body true L).bind fun L1 => (emI L1 (inO 8)).bind fun L2 => some (L2,ds ++ [⟨s,L.length,names.length⟩])
def RT (p : List Nd) (v : Int) (L : List In) (ds : List Df) : Option (List In × List Df) :=
 let l := BX p v
 if l.2 = true /\ 0 < l.1.length /\ (nod p (l.1.getD 0 0)).kind = 4 /\ jH (nod p (l.1.getD 0 0)).s (mk [100,101,102,105,110,101]) = true then
  let a := BX p (l.1.getD 1 0)
  if 3 <= l.1.length /\ a.2 = true /\ 0 < a.1.length /\ nmC p (a.1.getD 0 0) = true then
   (Qj p (a.1.drop 1)).bind fun ns => PQ p (nod p (a.1.getD 0 0)).s ns (l.1.drop 2) L ds
  else none
 else PQ p LV [] [v] L ds
def IC (p : List Nd) (n : Int) : List Int -> List In -> List Df -> Option Cd
 | [],L,ds => if yG ⟨p,L,ds⟩ = true then some ⟨p,L,ds⟩ else none
 | x :: r,L,ds => (RT p x L ds).bind fun q => IC p n r q.1 q.2

abbrev eCo (p : List Nd) (L : List In) (ds : List Df) : D := .op [.os (5,0) (p.map eN),.os (4,0) (L.map eIn),.os (3,0) (ds.map eDf),iN 0]
abbrev eEn (env : List (List ByteArray)) : List D := env.reverse.map fun e => D.rs (1,0) (e.map D.str)
theorem Qe (b : ByteArray) : mk b.data.toList = b := by cases b; rfl
theorem Ry {l : List ByteArray} (hl : l.length < 4611686018427387904) (s : ByteArray) : V 87 [.rs (1,0) (l.map D.str),.str s] = some (iN (wW (fun t => jH s t) l),[]) := by
 have e1 : l.map D.str = (l.map fun b => b.data.toList).map fun x => D.str (mk x) := by
  rw [List.map_map]; exact List.map_congr_left fun b _ => by simp only [Function.comp_apply,Qe]
 have e2 : wW (fun x => jH s (mk x)) (l.map fun b => b.data.toList) = wW (fun t => jH s t) l := by
  unfold wW; rw [List.findIdx?_map]; have : (fun x => jH s (mk x)) ∘ (fun b : ByteArray => b.data.toList) = fun t => jH s t := by funext b; simp only [Function.comp_apply,Qe]
  rw [this]
 have h := FA (l := l.map fun b => b.data.toList) (by simpa using hl) s l.length 0 (by simp)
 rw [vq,e2,Int.natCast_zero,<- e1,lnM] at h
 rw [zd,lnM]
 exact h
theorem Rx {l : List ByteArray} (hl : l.length < 4611686018427387904) (s : ByteArray) : V 77 [.rs (1,0) (l.map D.str),.str s] = some (.bool (l.any fun t => jH s t),[]) := by
 rw [z9,yw (Ry hl s),Ee]
theorem Eh (s : ByteArray) : V 62 [.str s] = some (.bool (Pu s),[]) := by
 have h : V 77 [.rs (1,0) [.str ⟨#[113,117,111,116,101]⟩,.str ⟨#[105,102]⟩,.str ⟨#[102,110]⟩,.str ⟨#[100,111]⟩,.str ⟨#[108,101,116]⟩,.str ⟨#[100,101,102,105,110,101]⟩],.str s] = some (.bool ((wrds.map mk).any fun t => jH s t),[]) := Rx (l := wrds.map mk) (by decide) s
 rw [List.any_map] at h
 rw [JX,yU h]
 rfl
theorem OL {p : List Nd} (L : List In) (ds : List Df) {v : Int} (hv : InP p v) : V 41 [eCo p L ds,iN v] = some (.tup [.str (nod p v).s,.bool ((nod p v).kind == 4)],[eCo p L ds]) := by
 rw [Dt,Dz hv]
theorem K7 {L L' : List In} {x : In} (h : emI L x = some L') : L.length < 400 /\ L' = L ++ [x] := by
 unfold emI at h
 split at h
 ·cases h; exact ⟨‹_›,rfl⟩
 ·cases h
theorem Af {p : List Nd} {L L' : List In} (ds : List Df) {x : In} (h : emI L x = some L') : V 65 [eCo p L ds,eIn x] = some (iN L.length,[eCo p L' ds]) := by
 obtain ⟨h1,rfl⟩ := K7 h
 have e : L.map eIn ++ [D.agg [iN x.op,iN x.n,iN x.i,D.str x.s]] = (L ++ [x]).map eIn := by simp
 rw [Fk,e,vJ (xw (by rw [lnM]; simp only [ni]; omega)),vJ (xz rfl),xl (decide_eq_true (by rw [oE,lnM]; simp only [ni,lnA,lnC,lnN]; omega)),xq,w64 (by rw [lnM]; simp only [ni,lnA,lnC,lnN]; omega) (by rw [lnM]; simp only [ni,lnA,lnC,lnN]; omega)]
 rw [lnM,lnA,lnC,lnN]
 simp [ni]
theorem NH {p : List Nd} {L : List In} (ds : List Df) {k : Nat} (hk : k < L.length) : V 97 [eCo p L ds,iN k] = some (.tup [],[eCo p (toI L k) ds]) := by
 obtain ⟨x,hx⟩ := wj hk
 have hg : L.getD k (inO 0) = x := by rw [List.getD_eq_getElem?_getD,hx]; rfl
 have e : List.set (L.map eIn) k (D.agg (List.take 1 [iN x.op,iN x.n,iN x.i,D.str x.s] ++ [iN (ni (L.map eIn).length)] ++ List.drop 2 [iN x.op,iN x.n,iN x.i,D.str x.s])) = (toI L k).map eIn := by
  unfold toI; rw [hg,List.map_set,lnM]; rfl
 rw [Eu,wz (xx rfl),xl (by rw [lnM]; exact xo hk),Int.toNat_natCast,wT hx,wg,xq,e]
theorem Kr {p : List Nd} (L : List In) (ds : List Df) {xs : List Int} (hl : xs.length <= 100000) (hx : ∀ x ∈ xs,InP p x) (hn : xs.all (nmC p) = true) : ∀ (k i : Nat),i + k = xs.length ->
  yi (xs.map eI) (ni (xs.map eI).length) (i : Int) 0 ((xs.take i).map fun x => D.str (nod p x).s) (p.map eN) (L.map eIn) (ds.map eDf) = yi (xs.map eI) (ni (xs.map eI).length) (xs.length : Int) 0 (xs.map fun x => D.str (nod p x).s) (p.map eN) (L.map eIn) (ds.map eDf)
 | 0,i,hi => by
  have : i = xs.length := by omega
  subst this
  rw [List.take_of_length_le (Nat.le_refl _)]
 | k + 1,i,hi => by
  obtain ⟨x,hg⟩ := wj (l := xs) (i := i) (by omega)
  have hp := hx x (List.mem_of_getElem? hg)
  have hnx := List.all_eq_true.1 hn x (List.mem_of_getElem? hg)
  unfold nmC at hnx
  rw [Bool.and_eq_true,Bool.not_eq_true'] at hnx
  have et : (xs.take i).map (fun x => D.str (nod p x).s) ++ [D.str (nod p x).s] = (xs.take (i + 1)).map fun x => D.str (nod p x).s := by
   rw [xg hg,List.map_append]; rfl
  have hlim : decide (ni ((xs.take (i + 1)).map fun x => D.str (nod p x).s).length <= LIM) = true := decide_eq_true (by rw [oE]; simp only [ni,lnM,List.length_take]; omega)
  have hsp := Eh (nod p x).s
  rw [hnx.2] at hsp
  rw [<- Kr L ds hl hx hn k (i + 1) (by omega),zq,wz (by rw [lnM]; exact xp (by omega)),xl (by rw [lnM]; exact xo (by omega)),Int.toNat_natCast,wT hg,w7,y8 (OL L ds hp),hnx.1,Bool.not_true,wy,AU hsp,wy,et,xl hlim,xq,xF (by omega)]
theorem Kt {p : List Nd} (L : List In) (ds : List Df) {out : List ByteArray} (hl : out.length <= 100000) : ∀ (k i : Nat),i + k = out.length -> QQ (out.take i) (out.drop i) = true ->
  yA (ni (out.map D.str).length) (i : Int) (out.map D.str) 0 (p.map eN) (L.map eIn) (ds.map eDf) = some (.tup [.os (1,0) (out.map D.str),iN 0],[eCo p L ds])
 | 0,i,hi,_ => by
  rw [zi,vJ (by rw [lnM]; exact xk (by omega))]
 | k + 1,i,hi,hd => by
  obtain ⟨s,hs⟩ := wj (l := out) (i := i) (by omega)
  rw [sn hs,QQ,Bool.and_eq_true,Bool.not_eq_true'] at hd
  have et : out.take i ++ [s] = out.take (i + 1) := by rw [xg hs]
  have ep : part (out.map D.str) (some (0,Int.toNat (i : Int))) = (out.take i).map D.str := by
   simp only [part,List.drop_zero,Int.toNat_natCast,List.map_take]
  have hh := Rx (l := out.take i) (by simp only [List.length_take]; omega) s
  rw [hd.1] at hh
  rw [zi,wz (by rw [lnM]; exact xp (by omega)),xl (by rw [lnM]; exact xo (by omega)),Int.toNat_natCast,wT hs,xb,xl (by simp only [cE,lnM,Bool.and_eq_true,decide_eq_true_eq]; omega),<- Int.toNat_natCast i,ep,yU hh,wy,Int.toNat_natCast,xF (by omega)]
  exact Kt L ds hl k (i + 1) (by omega) (by rw [<- et]; exact hd.2)
theorem QG {p : List Nd} (L : List In) (ds : List Df) {xs : List Int} {ns : List ByteArray} (hx : ∀ x ∈ xs,InP p x) (h : Qj p xs = some ns) : V 63 [eCo p L ds,.rs (1,0) (xs.map eI)] = some (.tup [.os (1,0) (ns.map D.str),iN 0],[eCo p L ds]) /\ ns.length <= 4 := by
 unfold Qj at h
 split at h
 ·rename_i hc
  obtain ⟨h1,h2,h3⟩ := hc
  cases h
  have a := Kr (p := p) L ds (by omega) hx h1 xs.length 0 (by omega)
  have b := Kt (p := p) L ds (out := xs.map fun x => (nod p x).s) (by rw [lnM]; omega) xs.length 0 (by rw [lnM]; omega) (by rw [List.take_zero,List.drop_zero]; exact h3)
  rw [List.map_map,Int.natCast_zero] at b
  rw [Int.natCast_zero,List.take_zero,List.map_nil] at a
  refine ⟨?_,by rw [lnM]; exact h2⟩
  rw [DB,a,zq,vJ (by rw [lnM]; exact xk (by omega)),vJ (decide_eq_false (by rw [lnM]; simp only [ni]; omega)),List.map_map]
  exact b
 ·cases h
end
end Go.Eng
/-! compiling: the program's side: expressions,definitions,programs -/
namespace Go.Eng
noncomputable section
open Go.Proofs Go.Proofs.Try
set_option maxHeartbeats 4000000

theorem bnd {α β : Type} {x : Option α} {f : α -> Option β} {b : β} (h : x.bind f = some b) : ∃ a,x = some a /\ f a = some b := by
 cases x with
 | none => cases h
 | some a => exact ⟨a,rfl,h⟩
def GJ (E : List (List ByteArray) -> Int -> List In -> Option (List In)) : Prop := ∀ env v L L',E env v L = some L' -> L.length <= L'.length
theorem Aq {L L' : List In} {x : In} (h : emI L x = some L') : L.length < L'.length := by
 obtain ⟨_,rfl⟩ := K7 h
 simp
theorem Lp (L : List In) (k : Nat) : (toI L k).length = L.length := by unfold toI; simp
theorem KJ {E : List (List ByteArray) -> Int -> List In -> Option (List In)} (hE : GJ E) (env : List (List ByteArray)) : ∀ (xs : List Int) (f : Bool) (L L' : List In),EJ E env xs f L = some L' -> L.length <= L'.length
 | [],f,L,L',h => by rw [EJ] at h; cases h; exact Nat.le_refl _
 | x :: r,f,L,L',h => by
  rw [EJ] at h
  obtain ⟨L1,h1,h⟩ := bnd h
  obtain ⟨L2,h2,h⟩ := bnd h
  have a := hE _ _ _ _ h2
  have b := KJ hE env r false L2 L' h
  cases f with
  | true => cases h1; omega
  | false => have := Aq h1; omega
theorem NV {E : List (List ByteArray) -> Int -> List In -> Option (List In)} (hE : GJ E) (env : List (List ByteArray)) : ∀ (xs : List Int) (L L' : List In),FH E env xs L = some L' -> L.length <= L'.length
 | [],L,L',h => by rw [FH] at h; cases h; exact Nat.le_refl _
 | x :: r,L,L',h => by
  rw [FH] at h
  obtain ⟨L1,h1,h⟩ := bnd h
  have a := hE _ _ _ _ h1
  have b := NV hE env r L1 L' h
  omega
theorem PW {E : List (List ByteArray) -> Int -> List In -> Option (List In)} (hE : GJ E) {names : List ByteArray} {body : List Int} {env : List (List ByteArray)} {L L' : List In} (h : O8 E names body env L = some L') : L.length <= L'.length := by
 unfold O8 at h
 obtain ⟨L1,h1,h⟩ := bnd h
 obtain ⟨L2,h2,h⟩ := bnd h
 obtain ⟨L3,h3,h⟩ := bnd h
 obtain ⟨L4,h4,h⟩ := bnd h
 cases h
 have a1 := Aq h1
 have a2 := Aq h2
 have a3 := KJ hE _ _ _ _ _ h3
 have a4 := Aq h4
 rw [Lp]; omega
theorem QS {E : List (List ByteArray) -> Int -> List In -> Option (List In)} (hE : GJ E) {p : List Nd} {s : ByteArray} {xs : List Int} {env : List (List ByteArray)} {L L' : List In} (h : LM E p s xs env L = some L') : L.length <= L'.length := by
 unfold LM at h
 split at h
 ·split at h
  ·have := Aq h; omega
  ·cases h
 split at h
 ·split at h
  ·obtain ⟨L1,h1,h⟩ := bnd h
   obtain ⟨L2,h2,h⟩ := bnd h
   obtain ⟨L3,h3,h⟩ := bnd h
   obtain ⟨L4,h4,h⟩ := bnd h
   obtain ⟨L5,h5,h⟩ := bnd h
   cases h
   have a1 := hE _ _ _ _ h1
   have a2 := Aq h2
   have a3 := hE _ _ _ _ h3
   have a4 := Aq h4
   have a5 := hE _ _ _ _ h5
   rw [Lp] at a5 ⊢
   omega
  ·cases h
 split at h
 ·cases h
 split at h
 ·split at h
  ·obtain ⟨ns,h1,h⟩ := bnd h
   exact PW hE h
  ·cases h
 split at h
 ·split at h
  ·obtain ⟨ns,h1,h⟩ := bnd h
   obtain ⟨L1,h2,h⟩ := bnd h
   obtain ⟨L2,h3,h⟩ := bnd h
   have a1 := PW hE h2
   have a2 := hE _ _ _ _ h3
   have a3 := Aq h
   omega
  ·cases h
 ·cases h
theorem Ld (p : List Nd) : ∀ k,GJ (EO p k)
 | 0 => fun env v L L' h => by rw [EO] at h; cases h
 | k + 1 => fun env v L L' h => by
  rw [EO] at h
  simp only at h
  split at h
  ·have := Aq h; omega
  split at h
  ·split at h
   ·cases h
   ·split at h
    ·have := Aq h; omega
    ·have := Aq h; omega
  split at h
  ·split at h
   ·exact QS (Ld p k) h
   ·split at h
    ·cases h
    ·obtain ⟨L1,h1,h⟩ := bnd h
     have a1 := NV (Ld p k) _ _ _ _ h1
     have a2 := Aq h
     omega
  ·cases h

def EnvJ (env : List (List ByteArray)) (k : Nat) : Prop := env.length + k <= 10000 /\ ∀ e ∈ env,e.length <= 4
def GK (p : List Nd) (ds : List Df) (b : Int) (k : Nat) (E : List (List ByteArray) -> Int -> List In -> Option (List In)) : Prop :=
 ∀ env v L L',InP p v -> v < b -> EnvJ env k -> E env v L = some L' -> V 78 [eCo p L ds,iN v,.rs (1,1) (eEn env)] = some (.tup [],[eCo p L' ds])
theorem Iz {p : List Nd} {ds : List Df} {b : Int} {k0 : Nat} {E : List (List ByteArray) -> Int -> List In -> Option (List In)} (hS : GK p ds b k0 E) {env : List (List ByteArray)} (he : EnvJ env k0) {xs : List Int} (hl : xs.length <= 100000) (hx : ∀ x ∈ xs,InP p x /\ x < b) : ∀ (k i : Nat) (L L' : List In),i + k = xs.length -> EJ E env (xs.drop i) (i == 0) L = some L' ->
  yn (eEn env) (xs.map eI) (ni (xs.map eI).length) (i : Int) 0 (p.map eN) (L.map eIn) (ds.map eDf) = some (.tup [],[eCo p L' ds])
 | 0,i,L,L',hi,h => by
  rw [List.drop_of_length_le (by omega),EJ] at h
  cases h
  rw [zu,vJ (by rw [lnM]; exact xk (by omega))]
 | k + 1,i,L,L',hi,h => by
  obtain ⟨x,hg⟩ := wj (l := xs) (i := i) (by omega)
  have hp := hx x (List.mem_of_getElem? hg)
  rw [sn hg,EJ] at h
  obtain ⟨L1,h1,h⟩ := bnd h
  obtain ⟨L2,h2,h⟩ := bnd h
  have hS2 := hS env x L1 L2 hp.1 hp.2 he h2
  have ih := Iz hS he hl hx k (i + 1) L2 L' (by omega) (by rw [show (i + 1 == 0) = false by simp]; exact h)
  rw [zu,wz (by rw [lnM]; exact xp (by omega)),xl (by rw [lnM]; exact xo (by omega)),Int.toNat_natCast,wT hg,w7]
  by_cases hi0 : i = 0
  ·subst hi0
   cases h1
   rw [vJ (decide_eq_false (by omega)),yp hS2,xF (by omega)]
   exact ih
  ·have hb : (i == 0) = false := by simpa using hi0
   rw [hb,if_neg (by decide)] at h1
   rw [wz (decide_eq_true (by omega)),xN (Af ds h1),yp hS2,xF (by omega)]
   exact ih
theorem OI {p : List Nd} {ds : List Df} {b : Int} {k0 : Nat} {E : List (List ByteArray) -> Int -> List In -> Option (List In)} (hS : GK p ds b k0 E) {env : List (List ByteArray)} (he : EnvJ env k0) {xs : List Int} (hl : xs.length <= 100000) (hx : ∀ x ∈ xs,InP p x /\ x < b) {L L' : List In} (h : EJ E env xs true L = some L') :
  V 64 [eCo p L ds,.rs (1,0) (xs.map eI),.rs (1,1) (eEn env)] = some (.tup [],[eCo p L' ds]) := by
 have := Iz hS he hl hx xs.length 0 L L' (by omega) h
 rw [Ek]
 exact this
theorem Iw {p : List Nd} {ds : List Df} {b : Int} {k0 : Nat} {E : List (List ByteArray) -> Int -> List In -> Option (List In)} (hS : GK p ds b k0 E) {env : List (List ByteArray)} (he : EnvJ env k0) {xs : List Int} (hl : xs.length <= 100000) (hx : ∀ x ∈ xs,InP p x /\ x < b) : ∀ (k i : Nat) (L L1 L' : List In),i + k = xs.length -> FH E env (xs.drop i) L = some L1 -> emI L1 ⟨7,0,(xs.length : Int) - 1,⟨#[]⟩⟩ = some L' ->
  xM (eEn env) (ni (xs.map eI).length) (i : Int) 0 (xs.map eI) (p.map eN) (L.map eIn) (ds.map eDf) = some (.tup [],[eCo p L' ds])
 | 0,i,L,L1,L',hi,h,h2 => by
  rw [List.drop_of_length_le (by omega),FH] at h
  cases h
  have h3 := Af (p := p) ds h2
  rw [zp,vJ (by rw [lnM]; exact xk (by omega)),lnM,w64 (by simp only [ni]; omega) (by simp only [ni]; omega)]
  rw [xN h3]
 | k + 1,i,L,L1,L',hi,h,h2 => by
  obtain ⟨x,hg⟩ := wj (l := xs) (i := i) (by omega)
  have hp := hx x (List.mem_of_getElem? hg)
  rw [sn hg,FH] at h
  obtain ⟨L2,h1,h⟩ := bnd h
  have hS2 := hS env x L L2 hp.1 hp.2 he h1
  have ih := Iw hS he hl hx k (i + 1) L2 L1 L' (by omega) h h2
  rw [zp,wz (by rw [lnM]; exact xp (by omega)),xl (by rw [lnM]; exact xo (by omega)),Int.toNat_natCast,wT hg,w7,yp hS2,xF (by omega)]
  exact ih
theorem QR {env : List (List ByteArray)} {n : Nat} {e : List ByteArray} (h : env[n]? = some e) : (eEn env)[env.length - 1 - n]? = some (D.rs (1,0) (e.map D.str)) := by
 have hn := aQ h
 rw [List.getElem?_map,List.getElem?_reverse (by omega),show env.length - 1 - (env.length - 1 - n) = n by omega,h]
 rfl
theorem FM (env : List (List ByteArray)) : (eEn env).length = env.length := by simp
theorem KH {p : List Nd} {ds : List Df} {env : List (List ByteArray)} (he : env.length <= 10000) (h4 : ∀ e ∈ env,e.length <= 4) {s : ByteArray} {L L' : List In} : ∀ (k n : Nat),n + k = env.length -> (match PH s (env.drop n) n with | some (a,i) => emI L ⟨2,a,i,⟨#[]⟩⟩ | none => emI L ⟨3,0,0,s⟩) = some L' ->
  yk s (eEn env) ((env.length : Int) - 1 - n) 0 (p.map eN) (L.map eIn) (ds.map eDf) = some (.tup [],[eCo p L' ds])
 | 0,n,hn,h => by
  rw [List.drop_of_length_le (by omega),PH] at h
  rw [y9,vJ (decide_eq_false (by omega)),xN (Af ds h)]
 | k + 1,n,hn,h => by
  obtain ⟨e,hg⟩ := wj (l := env) (i := n) (by omega)
  have hx := QR hg
  have ht : ((env.length : Int) - 1 - n).toNat = env.length - 1 - n := by omega
  have hi := Ry (l := e) (by have := h4 e (List.mem_of_getElem? hg); omega) s
  rw [sn hg,PH] at h
  rw [y9,wz (decide_eq_true (by omega)),xl (by rw [FM]; simp only [ni,Bool.and_eq_true,decide_eq_true_eq]; omega),ht]
  unfold cy
  rw [hx]
  simp only
  rw [xa,yw hi]
  by_cases h0 : 0 <= wW (fun t => jH s t) e
  ·rw [if_pos h0] at h
   have h3 := Af (p := p) ds h
   rw [wz (decide_eq_true h0),FM,w64 (n := ni env.length - 1) (by simp only [ni]; omega) (by simp only [ni]; omega),w64 (by simp only [ni]; omega) (by simp only [ni]; omega),show ni env.length - 1 - ((env.length : Int) - 1 - n) = (n : Int) by simp only [ni]; omega,xN h3]
  ·rw [if_neg h0] at h
   rw [vJ (decide_eq_false h0),w64 (by omega) (by omega),show (env.length : Int) - 1 - n - 1 = (env.length : Int) - 1 - ((n + 1 : Nat) : Int) by omega]
   exact KH he h4 k (n + 1) (by omega) h
theorem NQ {p : List Nd} {ds : List Df} {env : List (List ByteArray)} {k : Nat} (he : EnvJ env k) {s : ByteArray} (hs : Pu s = false) {L L' : List In} (h : (match PH s env 0 with | some (a,i) => emI L ⟨2,a,i,⟨#[]⟩⟩ | none => emI L ⟨3,0,0,s⟩) = some L') :
  V 88 [eCo p L ds,.str s,.rs (1,1) (eEn env)] = some (.tup [],[eCo p L' ds]) := by
 have h1 := Eh s
 rw [hs] at h1
 have h2 := KH (p := p) (ds := ds) (by have := he.1; omega) he.2 env.length 0 (by omega) h
 rw [Cn,AU h1,wy,FM,w64 (by simp only [ni]; omega) (by have := he.1; simp only [ni]; omega)]
 rw [show (env.length : Int) - 1 - ((0 : Nat) : Int) = ni env.length - 1 by simp only [ni]; omega] at h2
 exact h2
theorem Rh {env : List (List ByteArray)} {k : Nat} (he : EnvJ env k) : V 98 [.rs (1,1) (eEn env)] = some (.os (1,1) (eEn env),[]) := by
 rw [AM,List.nil_append,xl (decide_eq_true (by have := he.1; rw [oE,FM]; simp only [ni]; omega)),xq]
 exact vP _ _
theorem JF {p : List Nd} {ds : List Df} {b : Int} {k0 : Nat} {E : List (List ByteArray) -> Int -> List In -> Option (List In)} (hE : GJ E) (hS : GK p ds b k0 E) {env : List (List ByteArray)} (he : EnvJ env (k0 + 1)) {names : List ByteArray} (hn : names.length <= 4) {xs : List Int} (hl : xs.length <= 100000) (hx : ∀ x ∈ xs,InP p x /\ x < b) {L L' : List In} (h : O8 E names xs env L = some L') :
  V 95 [eCo p L ds,.rs (1,0) (names.map D.str),.rs (1,0) (xs.map eI),.rs (1,1) (eEn env)] = some (.tup [],[eCo p L' ds]) := by
 unfold O8 at h
 obtain ⟨L1,h1,h⟩ := bnd h
 obtain ⟨L2,h2,h⟩ := bnd h
 obtain ⟨L3,h3,h⟩ := bnd h
 obtain ⟨L4,h4,h⟩ := bnd h
 cases h
 have g1 := (K7 h1).1
 have a1 := Aq h1
 have a2 := Aq h2
 have a3 := KJ hE _ _ _ _ _ h3
 have a4 := Aq h4
 have b1 := Af (p := p) ds h1
 have e1 : w6 (ni (L.map eIn).length + 2) = (L.length : Int) + 2 := by rw [lnM]; exact w64 (by simp only [ni]; omega) (by simp only [ni]; omega)
 have e2 : ni (names.map D.str).length = (names.length : Int) := by rw [lnM]
 have e3 : eEn env ++ [D.rs (1,0) (names.map D.str)] = eEn (names :: env) := by simp
 have he2 : EnvJ (names :: env) k0 := ⟨by have := he.1; simp; omega,fun e h => by rcases List.mem_cons.1 h with rfl | h; exact hn; exact he.2 e h⟩
 have b3 := OI hS he2 hl hx h3
 rw [Cm,e1,e2,xN b1,xN (Af ds h2),Ax (Rh he),e3,xl (decide_eq_true (by have := he2.1; rw [oE,FM]; simp only [ni]; omega)),xq,Cy b3,xN (Af ds h4),Aa (NH ds (L := L4) (k := L1.length) (by omega))]
theorem QA {p : List Nd} {ds : List Df} {b : Int} {k0 : Nat} {E : List (List ByteArray) -> Int -> List In -> Option (List In)} (hE : GJ E) (hS : GK p ds b k0 E) {env : List (List ByteArray)} (he : EnvJ env k0) {w x y z : Int} (hx : InP p x /\ x < b) (hy : InP p y /\ y < b) (hz : InP p z /\ z < b) {L L1 L2 L3 L4 L5 : List In}
  (h1 : E env x L = some L1) (h2 : emI L1 (inO 4) = some L2) (h3 : E env y L2 = some L3) (h4 : emI L3 (inO 5) = some L4) (h5 : E env z (toI L4 L1.length) = some L5) :
  V 94 [eCo p L ds,.rs (1,0) ([w,x,y,z].map eI),.rs (1,1) (eEn env)] = some (.tup [],[eCo p (toI L5 L3.length) ds]) := by
 have a2 := Aq h2
 have a3 := hE _ _ _ _ h3
 have a4 := Aq h4
 have a5 := hE _ _ _ _ h5
 rw [Lp] at a5
 rw [Dq,CX,yp (hS _ _ _ _ hx.1 hx.2 he h1),xN (Af ds h2),Lf,yp (hS _ _ _ _ hy.1 hy.2 he h3),xN (Af ds h4),Aa (NH ds (L := L4) (k := L1.length) (by omega)),PZ,yp (hS _ _ _ _ hz.1 hz.2 he h5),Aa (NH ds (L := L5) (k := L3.length) (by omega))]
theorem EnvJ.less {env : List (List ByteArray)} {k : Nat} (h : EnvJ env (k + 1)) : EnvJ env k := ⟨by have := h.1; omega,h.2⟩
theorem MY (l : List Int) (k : Nat) (K : Int) (hK : K.toNat = k) : u9 (l.map eI) K = (l.drop k).map eI := by
 unfold u9; rw [hK,<- List.map_drop]
theorem Rj {p : List Nd} (hp : xQ p) (hpl : p.length <= 5000) {ds : List Df} {b : Int} {k0 : Nat} {E : List (List ByteArray) -> Int -> List In -> Option (List In)} (hE : GJ E) (hS : GK p ds b k0 E) {env : List (List ByteArray)} (he : EnvJ env (k0 + 1)) {s : ByteArray} {xs : List Int} (hl : xs.length <= 100000) (hx : ∀ x ∈ xs,InP p x /\ x < b) {L L' : List In} (h : LM E p s xs env L = some L') :
  V 89 [eCo p L ds,.str s,.rs (1,0) (xs.map eI),.rs (1,1) (eEn env)] = some (.tup [],[eCo p L' ds]) := by
 have kill : ∀ {x : List UInt8} {y : Bool},jH s (mk x) = y -> jH s ⟨⟨x⟩⟩ = y := fun h => h
 unfold LM at h
 by_cases hq : jH s (mk [113,117,111,116,101]) = true
 ·rw [if_pos hq] at h
  split at h
  ·rename_i h2
   obtain ⟨a,c,rfl⟩ : ∃ a c,xs = [a,c] := by
    match xs,h2 with
    | [a,c],_ => exact ⟨a,c,rfl⟩
   have h : emI L ⟨1,c,0,⟨#[]⟩⟩ = some L' := h
   rw [y0,wz (kill hq),wz (by rfl),CX,xN (Af ds h)]
  ·cases h
 rw [if_neg hq] at h
 have hq := eq_false_of_ne_true hq
 by_cases hif : jH s (mk [105,102]) = true
 ·rw [if_pos hif] at h
  split at h
  ·rename_i h4
   obtain ⟨w,x,y,z,rfl⟩ : ∃ w x y z,xs = [w,x,y,z] := by
    match xs,h4 with
    | [w,x,y,z],_ => exact ⟨w,x,y,z,rfl⟩
   obtain ⟨L1,h1,h⟩ := bnd h
   obtain ⟨L2,h2,h⟩ := bnd h
   obtain ⟨L3,h3,h⟩ := bnd h
   obtain ⟨L4,h4,h⟩ := bnd h
   obtain ⟨L5,h5,h⟩ := bnd h
   cases h
   have hb := QA hE hS he.less (w := w) (hx x (by simp)) (hx y (by simp)) (hx z (by simp)) h1 h2 h3 h4 h5
   rw [y0,vJ (kill hq),wz (kill hif),wz (by rfl),FC hb]
  ·cases h
 rw [if_neg hif] at h
 have hif := eq_false_of_ne_true hif
 by_cases hdo : jH s (mk [100,111]) = true
 ·rw [if_pos hdo] at h; cases h
 rw [if_neg hdo] at h
 have hdo := eq_false_of_ne_true hdo
 by_cases hfn : jH s (mk [102,110]) = true
 ·rw [if_pos hfn] at h
  split at h
  ·rename_i h3
   obtain ⟨h3,h2⟩ := h3
   obtain ⟨ns,h1,h6⟩ := bnd h
   obtain ⟨w,x,r,rfl⟩ : ∃ w x r,xs = w :: x :: r := by
    match xs,h3 with
    | w :: x :: r,_ => exact ⟨w,x,r,rfl⟩
    | [_],h => simp at h
    | [],h => simp at h
   have hx1 := (hx x (by simp)).1
   have b1 := CN hp (by omega) hx1
   simp only [List.getD_cons_succ,List.getD_cons_zero] at h1 h2
   rw [h2] at b1
   obtain ⟨b2,b3⟩ := QG L ds (CY hp hx1) h1
   have b4 := JF hE hS he b3 (xs := (w :: x :: r).drop 2) (by rw [List.length_drop]; omega) (fun x h => hx x (List.mem_of_mem_drop h)) h6
   rw [y0,vJ (kill hq),vJ (kill hif),vJ (kill hdo),wz (kill hfn),wz (decide_eq_true (by rw [lnM]; simp only [ni]; omega)),CX,y4 b1,Bool.not_true,wy,z3 b2,vJ (xz rfl),xl (by simp only [cE,lnM,Bool.and_eq_true,decide_eq_true_eq]; omega),MY _ 2 2 rfl,Av b4]
  ·cases h
 rw [if_neg hfn] at h
 have hfn := eq_false_of_ne_true hfn
 by_cases hlt : jH s (mk [108,101,116]) = true
 ·rw [if_pos hlt] at h
  split at h
  ·rename_i h4
   obtain ⟨ns,h1,h⟩ := bnd h
   obtain ⟨L1,h2,h⟩ := bnd h
   obtain ⟨L2,h3,h6⟩ := bnd h
   obtain ⟨w,x,y,r,rfl⟩ : ∃ w x y r,xs = w :: x :: y :: r := by
    match xs,h4 with
    | w :: x :: y :: r,_ => exact ⟨w,x,y,r,rfl⟩
    | [_,_],h => simp at h
    | [_],h => simp at h
    | [],h => simp at h
   simp only [List.getD_cons_succ,List.getD_cons_zero] at h1 h3
   obtain ⟨b2,b3⟩ := QG (p := p) L ds (xs := [x]) (fun u h => by rw [List.mem_singleton.1 h]; exact (hx x (by simp)).1) h1
   have b4 := JF hE hS he b3 (xs := (w :: x :: y :: r).drop 3) (by rw [List.length_drop]; omega) (fun x h => hx x (List.mem_of_mem_drop h)) h2
   have hy := hx y (by simp)
   have ec : u9 (u7 ((w :: x :: y :: r).map eI) 2) 1 = [x].map eI := rfl
   rw [y0,vJ (kill hq),vJ (kill hif),vJ (kill hdo),vJ (kill hfn),wz (kill hlt),wz (decide_eq_true (by rw [lnM]; simp only [ni]; omega)),xl (by simp only [cE,lnM,lnC,Bool.and_eq_true,decide_eq_true_eq]; omega),ec,z3 b2,vJ (xz rfl),xl (by simp only [cE,lnM,Bool.and_eq_true,decide_eq_true_eq]; omega),MY _ 3 3 rfl,Av b4,Lf,yp (hS _ _ _ _ hy.1 hy.2 he.less h3),xN (Af ds h6)]
  ·cases h
 rw [if_neg hlt] at h
 cases h
end
end Go.Eng
/-! a step of a machine: the reference's side: the stack,the frames,calls -/
namespace Go.Eng
open Go.Proofs Go.Proofs.Try
set_option maxHeartbeats 4000000

end Go.Eng
/-! compiling: the reference's side -/
namespace Go.Eng
open Go.Proofs Go.Proofs.Try
set_option maxHeartbeats 4000000

structure Le (m m' : Ms) : Prop where
 len : m.list.length <= m'.list.length
 four : m'.list.length <= 400
 how : m'.how = 0 -> m.how = 0
 defs : m'.defs = m.defs
theorem Le.refl {m : Ms} (h : m.list.length <= 400) : Le m m := ⟨Nat.le_refl _,h,id,rfl⟩
theorem Le.trans {a b c : Ms} (h : Le a b) (h2 : Le b c) : Le a c := ⟨Nat.le_trans h.len h2.len,h2.four,fun x => h.how (h2.how x),h2.defs.trans h.defs⟩
end Go.Eng
/-! compiling: the reference's side: expressions -/
namespace Go.Eng
open Go.Proofs Go.Proofs.Try
set_option maxHeartbeats 4000000

theorem Oe {p : List Nd} (hp : xQ p) : ∀ (k : Nat) (v : Int),InP p v -> ∀ x ∈ (EF p k v).1,x < v
 | 0,v,hv,x,hx => by simp [EF] at hx
 | k + 1,v,hv,x,hx => by
  unfold EF at hx
  split at hx
  ·rename_i h5
   have := yE (DQ hp hv) h5
   rcases List.mem_cons.1 hx with rfl | hx
   ·omega
   ·have := Oe hp k _ (GU hp hv h5) x hx; omega
  ·simp at hx
theorem QW {p : List Nd} (hp : xQ p) {v : Int} (hv : InP p v) : ∀ x ∈ (BX p v).1,x < v := Oe hp _ v hv
theorem LU {p : List Nd} (v : Int) : (BX p v).1.length <= v.toNat + 1 := LT _ _
section
variable {p : List Nd} {k : Nat} {E : List (List ByteArray) -> Int -> Ms -> Ms}
end
theorem QX {p : List Nd} {v : Int} (h : (nod p v).kind = 5) : (BX p v).1 ≠ [] := by
 unfold BX EF
 rw [if_pos h]
 simp
end Go.Eng
/-! compiling: the program's side: every expression; programs -/
namespace Go.Eng
open Go.Proofs Go.Proofs.Try
set_option maxHeartbeats 4000000

theorem OJ {p : List Nd} (hp : xQ p) (hpl : p.length <= 5000) (ds : List Df) : ∀ k : Nat,k <= 5000 -> GK p ds k k (EO p k)
 | 0,_ => fun env v L L' hv hlt he h => by rw [EO] at h; cases h
 | k + 1,hk => fun env v L L' hv hlt he h => by
  have ih := OJ hp hpl ds k (by omega)
  have hG := Ld p k
  rw [EO] at h
  simp only at h
  rw [Eo,vJ (xz rfl),Dz hv]
  by_cases k123 : (nod p v).kind = 1 \/ (nod p v).kind = 2 \/ (nod p v).kind = 3
  ·rw [if_pos k123] at h
   have b := Af (p := p) ds h
   rcases k123 with k1 | k1 | k1
   ·rw [vJ (xw (by omega)),vJ (xw (by omega)),wz (xx k1),xN b]
   ·rw [wz (xx k1),wz (xx k1),xN b]
   ·rw [vJ (xw (by omega)),wz (xx k1),wz (xx k1),xN b]
  rw [if_neg k123] at h
  have k1 : (nod p v).kind ≠ 1 := fun h => k123 (.inl h)
  have k2 : (nod p v).kind ≠ 2 := fun h => k123 (.inr (.inl h))
  have k3 : (nod p v).kind ≠ 3 := fun h => k123 (.inr (.inr h))
  rw [vJ (xw k2),vJ (xw k3),vJ (xw k1)]
  by_cases k4 : (nod p v).kind = 4
  ·rw [if_pos k4] at h
   split at h
   ·cases h
   ·rename_i hr
    rw [wz (xx k4),DT (NQ he (eq_false_of_ne_true hr) h)]
  rw [if_neg k4] at h
  rw [vJ (xw k4)]
  split at h
  ·rename_i h5
   obtain ⟨k5,hb⟩ := h5
   have b1 := CN hp (by omega) hv
   have ll := LU (p := p) v
   have hne := QX k5
   have hin := CY hp hv
   have hlt2 := QW hp hv
   rw [hb] at b1
   rw [wz (xx k5),y4 b1,Bool.not_true,wy]
   generalize hxs : (BX p v).1 = xs at ll hne hin hlt2 h ⊢
   have hx : ∀ x ∈ xs,InP p x /\ x < (k : Int) := fun x h => ⟨hin x h,by have := hlt2 x h; omega⟩
   obtain ⟨a,r,rfl⟩ : ∃ a r,xs = a :: r := by
    cases xs with
    | nil => exact absurd rfl hne
    | cons a r => exact ⟨a,r,rfl⟩
   have ha := hin a (by simp)
   have hl : (a :: r).length <= 100000 := by have := hv.2; omega
   simp only [List.getD_cons_zero] at h
   rw [zk,y8 (OL L ds ha)]
   have fin : (a :: r).length <= 5 -> ∀ L1,FH (EO p k) env (a :: r) L = some L1 -> emI L1 ⟨7,0,((a :: r).length : Int) - 1,⟨#[]⟩⟩ = some L' -> br (decide (w6 (ni ((a :: r).map eI).length - 1) > 4)) (iw V 61 [eCo p L ds,iN 1] fun x_1 l_1 => ik x_1 fun l => unn l (unc l_1 fun x1 l1 => tk2 x1 fun l5 l8 l11 n14 => (unn l1 (some (.tup [],[.op [.os (5,0) l5,.os (4,0) l8,.os (3,0) l11,iN n14]]))))) (xM (eEn env) (ni ((a :: r).map eI).length) 0 0 ((a :: r).map eI) (p.map eN) (L.map eIn) (ds.map eDf)) = some (.tup [],[eCo p L' ds]) := fun h5 L1 h1 h2 => by
    have w : w6 (ni ((a :: r).map eI).length - 1) = ((a :: r).length : Int) - 1 := by rw [lnM]; exact w64 (by simp only [ni]; omega) (by simp only [ni]; omega)
    have hlo := Iw ih he.less hl hx (a :: r).length 0 L L1 L' (by omega) h1 h2
    rw [w,vJ (decide_eq_false (by omega))]
    exact hlo
   by_cases h4 : (nod p a).kind = 4
   ·rw [xx h4,xd,AU (Eh _)]
    cases hr : Pu (nod p a).s with
    | true =>
     rw [if_pos ⟨h4,hr⟩] at h
     have b := Rj hp hpl hG ih he hl hx h
     rw [xd,GF b]
    | false =>
     rw [if_neg (fun q => by rw [hr] at q; exact absurd q.2 (by decide))] at h
     split at h
     ·cases h
     ·rename_i h5
      obtain ⟨L1,h1,h2⟩ := bnd h
      rw [wy]
      exact fin (by omega) L1 h1 h2
   ·rw [if_neg (fun q => h4 q.1)] at h
    rw [xw h4,wy]
    split at h
    ·cases h
    ·rename_i h5
     obtain ⟨L1,h1,h2⟩ := bnd h
     exact fin (by omega) L1 h1 h2
  ·cases h
theorem Si {p : List Nd} (hp : xQ p) (hpl : p.length <= 4000) (ds : List Df) : GK p ds p.length 5000 (PU p) := fun env v L L' hv hlt he h => by
 unfold PU at h
 exact OJ hp (by omega) ds (v.toNat + 1) (by have := hv.2; omega) env v L L' hv (by have := hv.1; omega) ⟨by have := he.1; have := hv.2; omega,he.2⟩ h
theorem QD {p : List Nd} {L : List In} {ds : List Df} (hd : ds.length <= 20) (s : ByteArray) : V 23 [.agg [.rs (5,0) (p.map eN),.rs (4,0) (L.map eIn),.rs (3,0) (ds.map eDf)],.str s] = some (iN (wW (fun d : Df => jH d.name s) ds),[]) := by
 have h := BV (l := ds) (by omega) s ds.length 0 (Nat.zero_add _)
 rw [vq,Int.natCast_zero] at h
 have h2 : V 46 [.rs (3,0) (ds.map eDf),.fn 47 [.bp [.str s]]] = some (iN (wW (fun d : Df => jH d.name s) ds),[]) := by
  rw [Ck]; exact h
 rw [GQ,zK h2]
theorem QC {p : List Nd} (hp : xQ p) (hpl : p.length <= 4000) {s : ByteArray} {names : List ByteArray} (hn : names.length <= 4) {body : List Int} (hbl : body.length <= 100000) (hb : ∀ x ∈ body,InP p x) {L : List In} {ds : List Df} {r : List In × List Df} (h : PQ p s names body L ds = some r) :
  V 43 [eCo p L ds,.str s,.rs (1,0) (names.map D.str),.rs (1,0) (body.map eI)] = some (.tup [],[eCo p r.1 r.2]) /\ r.2.length <= 20 := by
 unfold PQ at h
 split at h
 ·cases h
 ·rename_i hc
  have hany : (ds.any fun d => jH d.name s) = false := eq_false_of_ne_true fun e => hc (.inl e)
  have hd : ds.length < 20 := Nat.lt_of_not_le fun e => hc (.inr e)
  obtain ⟨L1,h1,h⟩ := bnd h
  obtain ⟨L2,h2,h⟩ := bnd h
  cases h
  have e1 := QD (p := p) (L := L) (ds := ds) (by omega) s
  have e2 : ds.map eDf ++ [D.agg [D.str s,iN (ni (L.map eIn).length),iN (ni (names.map D.str).length)]] = (ds ++ [(⟨s,L.length,names.length⟩ : Df)]).map eDf := by
   rw [List.map_append,lnM,lnM]; rfl
  have e3 : V 64 [eCo p L (ds ++ [(⟨s,L.length,names.length⟩ : Df)]),.rs (1,0) (body.map eI),.rs (1,1) [.rs (1,0) (names.map D.str)]] = _ := OI (Si hp hpl (ds ++ [(⟨s,L.length,names.length⟩ : Df)])) (env := [names]) ⟨by simp,fun e he => by rw [List.mem_singleton.1 he]; exact hn⟩ hbl (fun x h => ⟨hb x h,(hb x h).2⟩) h1
  have e4 := Af (p := p) (ds ++ [(⟨s,L.length,names.length⟩ : Df)]) h2
  refine ⟨?_,by simp; omega⟩
  rw [Dr,Jj e1,Ee,hany,wy,e2,xl (decide_eq_true (by rw [oE,lnM]; simp only [ni,lnA,lnC,lnN]; omega)),xq]
  rw [Cy e3,xN e4]
theorem RX {p : List Nd} (hp : xQ p) (hpl : p.length <= 4000) {v : Int} (hv : InP p v) {L : List In} {ds : List Df} {res : List In × List Df} (h : RT p v L ds = some res) :
  V 21 [eCo p L ds,iN v] = some (.tup [],[eCo p res.1 res.2]) /\ (ds.length <= 20 -> res.2.length <= 20) := by
 have b1 := CN hp (by omega) hv
 have dm : PQ p LV [] [v] L ds = some res -> V 43 [eCo p L ds,.str ⟨#[109,97,105,110]⟩,.rs (1,0) [],.rs (1,0) [iN v]] = some (.tup [],[eCo p res.1 res.2]) /\ res.2.length <= 20 := fun h => QC hp hpl (names := []) (by simp) (body := [v]) (by simp) (fun x h => by rw [List.mem_singleton.1 h]; exact hv) h
 unfold RT at h
 simp only at h
 rw [Fm,y4 b1]
 have hin := CY hp hv
 have ll := LU (p := p) v
 generalize (BX p v).1 = xs at h hin ll ⊢
 cases hb : (BX p v).2 with
 | false =>
  rw [hb,if_neg (fun q => absurd q.1 (by decide))] at h
  obtain ⟨g1,g2⟩ := dm h
  rw [wy,yI g1]
  exact ⟨rfl,fun _ => g2⟩
 | true =>
  rw [hb] at h
  rw [xd]
  match xs,h,hin,ll with
  | [],h,hin,ll =>
   rw [if_neg (fun q => absurd q.2.1 (by simp))] at h
   obtain ⟨g1,g2⟩ := dm h
   rw [vJ (by rfl),yI g1]
   exact ⟨rfl,fun _ => g2⟩
  | a :: r',h,hin,ll =>
   have ha := hin a (by simp)
   simp only [List.getD_cons_zero] at h
   rw [wz (decide_eq_true (by rw [lnM]; simp only [ni,lnC]; omega)),zk,y8 (OL L ds ha)]
   by_cases h4 : (nod p a).kind = 4
   ·rw [xx h4,xd]
    by_cases hs : jH (nod p a).s (mk [100,101,102,105,110,101]) = true
    ·have hs' : jH (nod p a).s ⟨#[100,101,102,105,110,101]⟩ = true := hs
     rw [if_pos ⟨trivial,by simp,h4,hs⟩] at h
     rw [hs',xd]
     split at h
     ·rename_i hc
      obtain ⟨c1,c2,c3,c4⟩ := hc
      obtain ⟨ns,h1,h⟩ := bnd h
      obtain ⟨b,c,r,rfl⟩ : ∃ b c r'',r' = b :: c :: r'' := by
       match r',c1 with
       | b :: c :: r',_ => exact ⟨b,c,r',rfl⟩
       | [],h => simp at h
       | [_],h => simp at h
      simp only [List.getD_cons_succ,List.getD_cons_zero] at c2 c3 c4 h1 h
      have hb1 := hin b (by simp)
      have b2 := CN hp (by omega) hb1
      have i2 := CY hp hb1
      rw [c2] at b2
      generalize (BX p b).1 = ys at b2 c3 c4 i2 h1 h
      obtain ⟨f,q,rfl⟩ : ∃ f q,ys = f :: q := by
       cases ys with
       | nil => simp at c3
       | cons f q => exact ⟨f,q,rfl⟩
      have hf := i2 f (by simp)
      simp only [List.getD_cons_zero] at c4 h
      unfold nmC at c4
      rw [Bool.and_eq_true,Bool.not_eq_true'] at c4
      have hsp := Eh (nod p f).s
      rw [c4.2] at hsp
      obtain ⟨g1,g2⟩ := QG L ds (xs := (f :: q).drop 1) (fun x h => i2 x (List.mem_of_mem_drop h)) h1
      obtain ⟨g3,g4⟩ := QC hp hpl g2 (body := (a :: b :: c :: r).drop 2) (by have := hv.2; rw [List.length_drop]; omega) (fun x h => hin x (List.mem_of_mem_drop h)) h
      have ep : part ((f :: q).map eI) (some (Int.toNat 1,((f :: q).map eI).length - Int.toNat 1)) = ((f :: q).drop 1).map eI := by
       simp only [part,List.map_cons,List.drop_succ_cons,List.drop_zero,Int.toNat_one]
       exact List.take_of_length_le (by simp)
      have hdef : V 42 [eCo p L ds,.rs (1,0) ((a :: b :: c :: r).map eI)] = some (.tup [],[eCo p res.1 res.2]) := by
       rw [Bq,vJ (decide_eq_false (by rw [lnM]; simp only [ni,lnC]; omega)),CX,y4 b2,Bool.not_true,wy,vJ (xw (by rw [lnM]; simp only [ni,lnC]; omega)),zk,y8 (OL L ds hf),c4.1,Bool.not_true,wy,AU hsp,wy,xl (by simp only [cE,lnM,lnC,Bool.and_eq_true,decide_eq_true_eq]; omega),ep,z3 g1,vJ (xz rfl),xl (by simp only [cE,lnM,lnC,Bool.and_eq_true,decide_eq_true_eq]; omega),MY _ 2 2 rfl,yI g3]
      rw [C5 hdef]
      exact ⟨rfl,fun _ => g4⟩
     ·cases h
    ·have hs' : jH (nod p a).s ⟨#[100,101,102,105,110,101]⟩ = false := eq_false_of_ne_true hs
     rw [if_neg (fun q => hs q.2.2.2)] at h
     obtain ⟨g1,g2⟩ := dm h
     rw [hs',wy,yI g1]
     exact ⟨rfl,fun _ => g2⟩
   ·rw [if_neg (fun q => h4 q.2.2.1)] at h
    obtain ⟨g1,g2⟩ := dm h
    rw [xw h4,wy,yI g1]
    exact ⟨rfl,fun _ => g2⟩
noncomputable def Km (c : Cd) : Bool := c.list.all (fun x => decide (x.s.size <= 1000000)) && c.defs.all (fun x => decide (x.name.size <= 1000000))
theorem Ke {p : List Nd} (hpo : xJ p = true) (hpl : p.length <= 3000) {xs : List Int} (hxl : xs.length <= 100000) (hx : ∀ x ∈ xs,InP p x) {c : Cd} (hfc : Km c = true) : ∀ (k i : Nat) (L : List In) (ds : List Df),i + k = xs.length -> ds.length <= 20 -> IC p xs.length (xs.drop i) L ds = some c ->
  yz (xs.map eI) (xs.map eI) (ni (xs.map eI).length) (i : Int) 0 (p.map eN) (L.map eIn) (ds.map eDf) = some (.tup [oCd c,iN 0,iN xs.length],[])
 | 0,i,L,ds,hi,hd,h => by
  rw [List.drop_of_length_le (by omega),IC] at h
  split at h
  ·rename_i hok
   cases h
   have hp : xQ p := (okPool_iff.1 hpo).1
   unfold Km at hfc
   simp only [Bool.and_eq_true,List.all_eq_true,decide_eq_true_eq] at hfc
   have hc := Cg (c := ⟨p,L,ds⟩) ⟨zL hp,by show p.length < _; omega,fun x h => by have := hfc.1 x h; omega,by have := (yV hok).2.1; show L.length < _; simp only at this; omega,fun x h => by have := hfc.2 x h; omega,by show ds.length < _; omega⟩
   rw [hok] at hc
   rw [zg,vJ (by rw [lnM]; exact xk (by omega)),Me hc,Bool.not_true,wy,lnM]
  ·cases h
 | k + 1,i,L,ds,hi,hd,h => by
  have hp : xQ p := (okPool_iff.1 hpo).1
  obtain ⟨x,hg⟩ := wj (l := xs) (i := i) (by omega)
  rw [sn hg,IC] at h
  obtain ⟨q,h1,h⟩ := bnd h
  obtain ⟨g1,g2⟩ := RX hp (by omega) (hx x (List.mem_of_getElem? hg)) h1
  have ih := Ke hpo hpl hxl hx hfc k (i + 1) q.1 q.2 (by omega) (g2 hd) h
  rw [zg,wz (by rw [lnM]; exact xp (by omega)),xl (by rw [lnM]; exact xo (by omega)),Int.toNat_natCast,wT hg,w7,Ij g1,vJ (xw (by decide)),vJ (xw (by decide)),vJ (xw (by decide)),xF (by omega)]
  exact ih
theorem IE {p : List Nd} (hl : p.length < 4611686018427387904) {l : List Int} (h2 : l.length < 4611686018427387904) : ∀ (k i : Nat),i + k = l.length -> yO (l.map eI) (p.map eN) (ni (l.map eI).length) (i : Int) = some (iN (dv (fun r => !wi r 0 ((p.length : Int) - 1)) l i),[])
 | 0,i,hi => by
  rw [zO,vJ (by rw [lnM]; exact xk (by omega)),vG (by omega)]
 | k + 1,i,hi => by
  obtain ⟨x,hx⟩ := wj (l := l) (i := i) (by omega)
  have ih := IE hl h2 k (i + 1) (by omega)
  have hr : V 19 [iN x,.bp [.rs (5,0) (p.map eN)]] = some (.bool (!wi x 0 ((p.length : Int) - 1)),[]) := by
   rw [MZ,BH (y6 hl x)]
  rw [zO,wz (by rw [lnM]; exact xp (by omega)),xl (by rw [lnM]; exact xo (by omega)),Int.toNat_natCast,wT hx,w7,Jh hr]
  cases h : (!wi x 0 ((p.length : Int) - 1)) with
  | true => rw [xd,vH hx h]
  | false => rw [wy,xF (by omega),ih,vp hx h]
theorem MG {p : List Nd} (hl : p.length < 4611686018427387904) {l : List Int} (h2 : l.length < 4611686018427387904) (hx : xZ p l = true) : V 18 [.rs (1,0) (l.map eI),.fn 19 [.bp [.rs (5,0) (p.map eN)]]] = some (.bool false,[]) := by
 have h : V 38 [.rs (1,0) (l.map eI),.fn 19 [.bp [.rs (5,0) (p.map eN)]]] = some (iN (wW (fun r => !wi r 0 ((p.length : Int) - 1)) l),[]) := by
  rw [Fi,<- vq]
  exact IE hl h2 l.length 0 (Nat.zero_add _)
 rw [Dn,zf h,Ee]
 congr 3
 unfold xZ at hx
 rw [List.any_eq_false]
 intro x hm
 have := List.all_eq_true.1 hx x hm
 rw [this]; decide
theorem JG {p : List Nd} (hpo : xJ p = true) {xs : List Int} (hxl : xs.length <= 100000) (hx : xZ p xs = true) {c : Cd} (h : IC p xs.length xs [] [] = some c) (hfc : Km c = true) (hne : xs ≠ []) :
  V 9 [eP p,.rs (1,0) (xs.map eI)] = some (.tup [oCd c,iN 0,iN xs.length],[]) := by
 have hpl := ye hpo
 have hp : xQ p := (okPool_iff.1 hpo).1
 have hxi : ∀ x ∈ xs,InP p x := fun x h => by
  have := List.all_eq_true.1 hx x h
  have := wi_iff.1 this
  exact ⟨this.1,by omega⟩
 obtain ⟨x,r,rfl⟩ : ∃ x r,xs = x :: r := by
  cases xs with
  | nil => exact absurd rfl hne
  | cons x r => exact ⟨x,r,rfl⟩
 have hlo := Ke hpo hpl hxl hxi hfc (x :: r).length 0 [] [] (by omega) (by simp) h
 rw [JP,Aw (yc (zL hp) (by omega)),hpo,Bool.not_true,wy,y5 (MG (by omega) (by omega) hx),wy,zA (JE (by omega))]
 rw [zg] at hlo
 rw [Fg]
 exact hlo
end Go.Eng
/-! the functions as the interpreter has them -/
/-! marks,equality,sizes and copies of nodes and numbers -/
namespace Go.Eng
open Go.Proofs Go.Proofs.Try
set_option maxHeartbeats 4000000

end Go.Eng
/-! sizes,copies and equality of what a law's arguments hold -/
namespace Go.Eng
open Go.Proofs Go.Proofs.Try
set_option maxHeartbeats 4000000

end Go.Eng
/-! a law's arguments: pools,code,machines,processes -/
namespace Go.Eng
open Go.Proofs Go.Proofs.Try
set_option maxHeartbeats 4000000
set_option maxRecDepth 100000

end Go.Eng
/-! machines as bytes,on both sides -/
namespace Go.Eng
open Go.Proofs Go.Proofs.Try
set_option maxHeartbeats 4000000

end Go.Eng
/-! nodes of bytes,on both sides -/
namespace Go.Eng
open Go.Proofs Go.Proofs.Try
set_option maxHeartbeats 4000000

section
variable {b : List UInt8} (hb : b.length < 4611686018427387904)
include hb
end
end Go.Eng
/-! nodes of bytes: the reference's side,and what both come to -/
namespace Go.Eng
open Go.Proofs Go.Proofs.Try
set_option maxHeartbeats 4000000

end Go.Eng
/-! a value read of bytes: both sides come to the same -/
namespace Go.Eng
open Go.Proofs Go.Proofs.Try
set_option maxHeartbeats 4000000

end Go.Eng
/-! a value read of bytes: both sides come to the same -/
namespace Go.Eng
open Go.Proofs Go.Proofs.Try
set_option maxHeartbeats 4000000

end Go.Eng
/-! processes: when they are right,on both sides -/
namespace Go.Eng
open Go.Proofs Go.Proofs.Try
set_option maxHeartbeats 4000000

structure Pr where
 pid : Int
 m : Mc
 box : List ByteArray
 out : List ByteArray
structure FitsR (p : Pr) : Prop where
 pool : AX p.m.pool
 plen : p.m.pool.length <= 4294967296
 box : ∀ x ∈ p.box,x.size < 4294967296
 blen : p.box.length < 4294967296
 out : ∀ x ∈ p.out,x.size < 4294967296
 olen : p.out.length < 4294967296
end Go.Eng
/-! new machines and processes,on both sides -/
namespace Go.Eng
noncomputable section
open Go.Proofs Go.Proofs.Try
set_option maxHeartbeats 4000000

theorem NA {α : Type} (p : α -> Bool) (l : List α) : -1 <= wW p l /\ wW p l < l.length := by
 unfold wW
 cases h : l.findIdx? p with
 | none => simp only; omega
 | some k =>
  rw [List.findIdx?_eq_some_iff_getElem] at h
  obtain ⟨hk,_⟩ := h
  simp only; omega
def zMc : Mc := ⟨[],0,0,0,0,0,0,0⟩
def RZ (d : Df) : Mc := ⟨[⟨1,0,⟨#[]⟩,0,0⟩,⟨5,0,⟨#[]⟩,0,0⟩],d.at',0,1,0,0,0,0⟩
def QZ (c : Cd) (s : ByteArray) : Option Mc := if yG c = true /\ 0 <= Bc c s then
  (match c.defs[(Bc c s).toNat]? with | some d => if d.args = 0 then some (RZ d) else none | none => none) else none
def SC (r : Option Mc) : D := match r with | some m => .tup [oMc m,.bool true] | none => .tup [oMc zMc,.bool false]
theorem Gq {c : Cd} (hf : FitsC c) (s : ByteArray) : V 10 [eCd c,.str s] = some (SC (QZ c s),[]) := by
 have hd := Db hf s
 have hc := Cg hf
 have hb := NA (fun d : Df => jH d.name s) c.defs
 rw [Gy]
 unfold QZ
 cases e1 : yG c with
 | false => rw [e1] at hc; rw [if_neg (by simp)]; simp (disch := first | omega | (simp only [lnA,lnC,lnN,lnM,xH,vC]; omega)) only [↓vE,vT,↓xd,↓xh,↓w7,↓wx,Bool.not_false,hd,hc]; rfl
 | true =>
  rw [e1] at hc
  by_cases e2 : 0 <= Bc c s
  ·rw [if_pos ⟨rfl,e2⟩]
   obtain ⟨k,hk⟩ := Int.eq_ofNat_of_zero_le e2
   have hkl : k < c.defs.length := by unfold Bc at hk; omega
   obtain ⟨d,hx⟩ := wj hkl
   rw [hk] at hd ⊢
   rw [Int.toNat_natCast,hx]
   by_cases e3 : d.args = 0
   ·simp only [e3,if_true]
    simp (disch := first | omega | (simp only [lnA,lnC,lnN,lnM,xH,vC]; omega)) only [↓vE,vT,↓wy,↓wH,↓xh,↓w7,↓wx,↓wg,↓wl,↓wo,wl,wo,↓wU,xC,xB,xz,Bool.and_true,Bool.not_true,lnM,vC,hd,hc,↓wT hx]
    rfl
   ·simp only [e3,if_false]
    simp (disch := first | omega | (simp only [lnA,lnC,lnN,lnM,xH,vC]; omega)) only [↓vE,vT,↓xd,↓wy,↓wH,↓xh,↓w7,↓wx,↓wg,↓wo,wo,↓wU,xC,xB,xA,Bool.and_true,Bool.not_true,lnM,vC,hd,hc,↓wT hx]
    rfl
  ·rw [if_neg (fun h => e2 h.2)]
   simp (disch := first | omega | (simp only [lnA,lnC,lnN,lnM,xH,vC]; omega)) only [↓vE,vT,↓xd,↓wy,↓xh,↓w7,↓wx,xC,Bool.not_true,hd,hc]
   rfl
end
end Go.Eng
/-! programs that are read,compiled and run,plain and with their calls -/
namespace Go.Eng
noncomputable section
open Go.Proofs Go.Proofs.Try
set_option maxHeartbeats 4000000

def tS (w : List UInt8) : Tk := .wd w ⟨4,0,mk w,0,0⟩
def tN (n : Int) : Tk := .wd (zY n) (ndI n)
theorem NB {c : Cd} {m : Mc} (h : m.state ≠ 0) : ∀ k,yF c k m = (m,0)
 | 0 => rfl
 | k + 1 => by rw [yF,if_neg h]
theorem O6 : AX [] := fun x h => by simp at h
theorem Jx {c : Cd} : ∀ (k : Nat) (m : Mc) (e : Nat),(yF c k m).1.state ≠ 0 -> yF c (k + e) m = yF c k m
 | 0,m,e,h => by
  rw [yF] at h ⊢
  rw [Nat.zero_add,NB h]
 | k + 1,m,e,h => by
  rw [yF] at h
  rw [show k + 1 + e = (k + e) + 1 by omega,yF,yF]
  by_cases h0 : m.state = 0
  ·rw [if_pos h0] at h
   rw [if_pos h0,if_pos h0,Jx k _ e h]
  ·rw [if_neg h0,if_neg h0]
theorem RV {c : Cd} (hf : FitsC c) {m : Mc} {k : Nat} (hok : z4 c m = true) (hs : (yF c k m).1.state ≠ 0) {steps : Int} (h1 : (k : Int) <= steps) (h2 : k <= 2000) : V 11 [eCd c,eMc m,iN steps] = some (.tup [oMc (yF c k m).1,iN (yF c k m).2],[]) := by
 obtain ⟨r1,r2,r3,_⟩ := C7 hok
 have hv := J5 hf (zL r2) (by omega) steps
 have hm : k <= (mnI steps 2000).toNat := by unfold mnI; split <;> omega
 have hr : Qu c m steps = yF c k m := by
  unfold Qu
  rw [if_pos hok,show (mnI steps 2000).toNat = k + ((mnI steps 2000).toNat - k) by omega,Jx k m _ hs]
 rw [hr] at hv
 exact hv
theorem Mz {c : Cd} : ∀ (k : Nat) {m : Mc},z4 c m = true -> z4 c (yF c k m).1 = true
 | 0,m,h => h
 | k + 1,m,h => by
  rw [yF]
  by_cases h0 : m.state = 0
  ·rw [if_pos h0]
   refine Mz k ?_
   have s1 := MC h h0
   unfold Ai
   split
   ·exact s1
   ·exact OG s1
  ·rw [if_neg h0]; exact h
structure Prog1 (ts : List Tk) (q : List Nd) (rs : List Int) (c : Cd) (m : Mc) : Prop where
 ok : OkT ts
 len : (yD ts).length <= 400
 read : rdT ts [] [] [] = some (q,rs)
 few : rs ≠ [] /\ rs.length <= 1000
 pool : xJ q = true
 root : xZ q rs = true
 comp : IC q rs.length rs [] [] = some c
 fits : Km c = true
 new : QZ c LV = some m
 mok : z4 c m = true
section
variable {ts : List Tk} {q : List Nd} {rs : List Int} {c : Cd} {m : Mc}
theorem Ot (h : Prog1 ts q rs c m) : FitsC c := by
 obtain ⟨r1,r2,r3,_⟩ := C7 h.mok
 obtain ⟨c1,c2,c3⟩ := yV r1
 have hl := ye c1
 have hfc := h.fits
 unfold Km at hfc
 simp only [Bool.and_eq_true,List.all_eq_true,decide_eq_true_eq] at hfc
 exact ⟨zL (okPool_iff.1 c1).1,by omega,fun x h => by have := hfc.1 x h; omega,by omega,fun x h => by have := hfc.2 x h; omega,by omega⟩
theorem Re (h : Prog1 ts q rs c m) : V 8 [.agg [.rs (5,0) []],.str (mk (yD ts))] = some (.tup [oP q,.os (1,0) (rs.map eI),iN 0,iN ((yD ts).length : Int)],[]) := by
 have h1 : V 8 [.agg [.rs (5,0) []],.str (mk (yD ts))] = _ := MH O6 (by simp) (yD ts)
 rw [Pp h.ok (by decide) h.len h.read,if_pos h.pool] at h1
 exact h1
theorem Rc (h : Prog1 ts q rs c m) : V 9 [eP q,.rs (1,0) (rs.map eI)] = some (.tup [oCd c,iN 0,iN rs.length],[]) :=
 JG h.pool (by have := h.few.2; omega) h.root h.comp h.fits h.few.1
theorem RK (h : Prog1 ts q rs c m) : V 10 [eCd c,.str ⟨#[109,97,105,110]⟩] = some (.tup [oMc m,.bool true],[]) := by
 have h1 : V 10 [eCd c,.str ⟨#[109,97,105,110]⟩] = _ := Gq (Ot h) LV
 rw [h.new] at h1
 exact h1
end
theorem PJ {p : List Nd} (hp : xJ p = true) {v : Int} (hv : InP p v) {n : Int} (hn : nod p v = ndI n) (h : n.natAbs <= 1000000000) : Lv p v = zY n := by
 have hx : p[v.toNat]? = some (ndI n) := by
  have : v.toNat < p.length := by have := hv.1; have := hv.2; omega
  rw [List.getElem?_eq_getElem this]
  have e : nod p v = p[v.toNat] := by unfold nod; rw [List.getD_eq_getElem?_getD,List.getElem?_eq_getElem this]; rfl
  rw [<- e,hn]
 have hw : wr p (2 * v.toNat + 1) false v.toNat [] = zY n := by
  rw [wr,if_neg (by simp),hx]
  rfl
 have hl := CT h
 unfold Lv
 rw [if_pos ⟨hp,wi_iff.2 ⟨hv.1,by have := hv.2; omega⟩⟩,hw,if_neg (by omega)]
theorem MT {p : List Nd} (hp : xJ p = true) {v : Int} (hv : InP p v) {n : Int} (hn : nod p v = ndI n) (h : n.natAbs <= 1000000000) : V 13 [eP p,iN v] = some (.str (mk (zY n)),[]) := by
 have hl := ye hp
 have h1 := Lq (zL (okPool_iff.1 hp).1) (by omega) v
 rw [PJ hp hv hn h] at h1
 exact h1

theorem Oh {x y : Nd} (h : Bg x y = true) : x = y := by
 unfold Bg at h
 simp only [Bool.and_eq_true,beq_iff_eq] at h
 obtain ⟨h1,h2,h3,h4,h5⟩ := h
 rw [Az] at h3
 have h3 := of_decide_eq_true h3
 cases x; cases y
 simp only at h1 h2 h3 h4 h5
 rw [h1,h2,h3,h4,h5]
theorem MD (s : ByteArray) : jH s s = true := by rw [Az]; simp
def tL (w : List UInt8) (n : Int) : Tk := .wd w (ndI n)
def BF (n : Int) (p : List Nd) (v : Int) (k : Nat) : Bool := Bg (nod p v) (ndI n) && decide (5 < k)
def okW (w : List UInt8) (n : Nd) : Bool := (!w.isEmpty && w.all zm) && (match AK w with | some m => Bg m n | none => false)
theorem Bl {w : List UInt8} {n : Nd} {r : List Tk} (h : okW w n = true) (hn : Q8 r = true) (hr : OkT r) : OkT (.wd w n :: r) := by
 unfold okW at h
 rw [Bool.and_eq_true,Bool.and_eq_true] at h
 obtain ⟨⟨h1,h2⟩,h3⟩ := h
 refine ⟨⟨?_,h2,?_⟩,hn,hr⟩
 ·rintro rfl; simp at h1
 ·cases e : AK w with
  | none => rw [e] at h3; cases h3
  | some m => rw [e] at h3; rw [Oh h3]
theorem R4 {n : Int} {r : List Tk} (h : n.natAbs <= 1000000000) (hn : Q8 r = true) (hr : OkT r) : OkT (tN n :: r) := by
 obtain ⟨d,s,hd,_,ha⟩ := Kg (n := n)
 exact ⟨⟨by rw [hd]; simp,ha,QM h⟩,hn,hr⟩
def zJ (ts : List Tk) (k : Nat) (F : List Nd -> Int -> Nat -> Bool) : Bool :=
 match rdT ts [] [] [] with
 | some (q,rs) => xJ q && (xZ q rs && ((!rs.isEmpty && decide (rs.length <= 1000)) && (match IC q rs.length rs [] [] with
  | some c => Km c && (match QZ c LV with
   | some m => z4 c m && (decide ((yF c k m).1.state = 2) && F (yF c k m).1.pool (yF c k m).1.arg (yF c k m).2)
   | none => false)
  | none => false)))
 | none => false
theorem QN {ts : List Tk} {k : Nat} {F : List Nd -> Int -> Nat -> Bool} (ho : OkT ts) (hl : (yD ts).length <= 400) (h : zJ ts k F = true) : ∃ q rs c m,Prog1 ts q rs c m /\ (yF c k m).1.state = 2 /\ F (yF c k m).1.pool (yF c k m).1.arg (yF c k m).2 = true := by
 unfold zJ at h
 split at h
 ·rename_i q rs hr
  simp only [Bool.and_eq_true] at h
  obtain ⟨h1,h2,⟨h6,h7⟩,h3⟩ := h
  split at h3
  ·rename_i c hc
   simp only [Bool.and_eq_true] at h3
   obtain ⟨h3,h4⟩ := h3
   split at h4
   ·rename_i m hm
    simp only [Bool.and_eq_true] at h4
    obtain ⟨h4,h5,h8⟩ := h4
    exact ⟨q,rs,c,m,⟨ho,hl,hr,⟨by rintro rfl; simp at h6,of_decide_eq_true h7⟩,h1,h2,hc,h3,hm,h4⟩,of_decide_eq_true h5,h8⟩
   ·cases h4
  ·cases h3
 ·cases h
theorem RJ {c : Cd} {m : Mc} (h : z4 c m = true) (hs : m.state = 2) : xJ m.pool = true /\ InP m.pool m.arg /\ InP m.pool m.arg := by
 obtain ⟨q1,q2,_⟩ := Jn h
 have hm : m.arg ∈ yh m := by unfold yh holds; rw [if_pos (by simp [hs])]; simp
 have := wi_iff.1 (List.all_eq_true.1 q2 _ hm)
 exact ⟨q1,⟨this.1,by omega⟩,⟨this.1,by omega⟩⟩
end
end Go.Eng
/-! what is drawn: the cursor -/
namespace Go.Eng
open Go.Proofs Go.Proofs.Try

noncomputable def eB (x : Int) : D := .int .u8 x
section
variable {b : List Int} {c : Int × Int}
end
theorem Sm (b : List Int) : V 7 [.rs (1,0) (b.map eB)] = some (.bool (decide ((b.length : Int) > 1048576)),[]) := by
 rw [O5,lnM]
end Go.Eng
/-! a draw's bytes,for the laws that look at them -/
namespace Go.Eng
open Go.Proofs Go.Proofs.Try
set_option maxHeartbeats 4000000

set_option maxRecDepth 100000 in
theorem OU {x : D} (h : ShapeV prog 22 x) : ∃ b : List Int,x = .rs (1,0) (b.map eB) /\ b.length < 4611686018427387904 /\ ∀ n ∈ b,0 <= n /\ n <= 255 := by
 obtain ⟨ys,hs,rfl⟩ := h
 obtain ⟨bs,rfl,h1,h2⟩ := hs.slice Try.underlying22 (show zOf prog 5 = some (1,0) by kernel_rfl)
 obtain ⟨l,rfl,hl⟩ := rl (enc := eB) (p := fun n : Int => 0 <= n /\ n <= 255) (ys := bs) (fun x hx => by
  obtain ⟨ps,hs,rfl⟩ := h2 x hx
  obtain ⟨n,rfl,hw⟩ := hs.int Try.underlying5
  exact ⟨n,rf Try.underlying5,wf8 hw⟩)
 have hby : prog.bytesOf 5 = 1 := by kernel_rfl
 have hr : reachBytes = 140737488351232 := rfl
 rw [hby,lnM] at h1
 exact ⟨l,by rw [vc Try.underlying22],by omega,hl⟩
theorem Sk {b : List Int} (hb : b.length < 4611686018427387000) (h8 : ∀ n ∈ b,0 <= n /\ n <= 255) {i : Int} (h0 : 0 <= i) (h1 : i < 1000) : ∃ v : Int,V 12 [.rs (1,0) (b.map eB),iN i] = some (iN v,[]) /\ 0 <= v /\ v <= 255 := by
 rw [PT,lnM]
 by_cases h : i < (b.length : Int)
 ·obtain ⟨x,hx⟩ := wj (l := b) (i := i.toNat) (by omega)
  obtain ⟨x0,x1⟩ := h8 x (List.mem_of_getElem? hx)
  refine ⟨x,?_,x0,x1⟩
  rw [wz (decide_eq_true h),xl (by simp only [ni,Bool.and_eq_true,decide_eq_true_eq]; omega),wT hx]
  show (asI .u8 (D.int .u8 x) fun n1 => some (iN (w6 n1),([] : List D))) = _
  rw [w7,w64 (by omega) (by omega)]
 ·refine ⟨Int.tmod (w6 (w6 (i * 7) + ni b.length)) 256,?_,?_⟩
  ·rw [vJ (decide_eq_false h),xl (by decide)]
  ·rw [w64 (n := i * 7) (by omega) (by omega),w64 (n := i * 7 + ni b.length) (by simp only [ni]; omega) (by simp only [ni]; omega)]
   have : 0 <= i * 7 + ni b.length := by simp only [ni]; omega
   rw [Int.tmod_eq_emod_of_nonneg this]
   omega
end Go.Eng
/-! a law's own digits -/
namespace Go.Eng
open Go.Proofs Go.Proofs.Try

theorem Md {d : Nat} (h : d < 10) (K : ByteArray -> Option Ret) : ga [D.int .u8 (IntKind.wrap .u8 (w6 (48 + (d : Int))))] K = K (mk [UInt8.ofNat (48 + d)]) := by
 have e : [D.int .u8 (IntKind.wrap .u8 (w6 (48 + (d : Int))))] = [UInt8.ofNat (48 + d)].map eU := by
  rw [Qz h]
  simp only [List.map_cons,List.map_nil,eU,BM (show 48 + d < 256 by omega)]
  simp
 rw [e,Jg]
theorem LR : ∀ (n : Nat),n < 1000000000000000000 -> V 14 [iN (n : Int)] = some (.str (mk (Bn n)),[]) := by
 intro n
 induction n using Nat.strongRecOn with
 | _ n ih =>
  intro hn
  rw [Ga,vJ (decide_eq_false (by omega))]
  by_cases h : n < 10
  ·rw [wz (decide_eq_true (by omega)),Md h,yW h]
  ·rw [vJ (decide_eq_false (by omega)),xl (by decide),NC,w64 (by omega) (by omega),BL (ih (n / 10) (by omega) (by omega)),xl (by decide),NE,Md (by omega),xl (Gc (by have := z8 (n := n / 10) (by omega); omega) (by simp)),y3,Ap h]
theorem QF {n : Int} (h : n.natAbs < 1000000000000000000) : V 14 [iN n] = some (.str (mk (zY n)),[]) := by
 by_cases h0 : n < 0
 ·have hd := LR n.natAbs h
  rw [Ga,wz (decide_eq_true h0),show (0 : Int) - n = (n.natAbs : Int) by omega,w64 (by omega) (by omega),BL hd]
  rw [<- show mk [45] = ⟨#[45]⟩ from rfl,xl (Gc (a := [45]) (by simp) (by have := z8 h; omega)),y3,zY,if_pos h0]
  rfl
 ·have := LR n.natAbs h
  rw [show (n.natAbs : Int) = n by omega] at this
  rw [this,zY,if_neg h0]
end Go.Eng
/-! a function that calls itself: the law -/
namespace Go.Eng
open Go.Proofs Go.Proofs.Try
set_option maxHeartbeats 4000000

noncomputable def FF (n : Int) : List Tk := [.op,tS [100,101,102,105,110,101],.sp,.op,tS [102],.sp,tS [110],.cl,.sp,.op,tS [105,102],.sp,.op,tS [60],.sp,tS [110],.sp,tL [49] 1,.cl,.sp,tL [48] 0,.sp,.op,tS [43],.sp,tS [110],.sp,.op,tS [102],.sp,.op,tS [45],.sp,tS [110],.sp,tL [49] 1,.cl,.cl,.cl,.cl,.cl,.sp,.op,tS [102],.sp,tN n,.cl]
set_option maxRecDepth 100000 in
theorem RQ {n : Int} (h : n.natAbs <= 1000000000) : OkT (FF n) := Bl (by decide +kernel) rfl (Bl (by decide +kernel) rfl (Bl (by decide +kernel) rfl (Bl (by decide +kernel) rfl (Bl (by decide +kernel) rfl (Bl (by decide +kernel) rfl (Bl (by decide +kernel) rfl (Bl (by decide +kernel) rfl (Bl (by decide +kernel) rfl (Bl (by decide +kernel) rfl (Bl (by decide +kernel) rfl (Bl (by decide +kernel) rfl (Bl (by decide +kernel) rfl (Bl (by decide +kernel) rfl (Bl (by decide +kernel) rfl (R4 h rfl (True.intro))))))))))))))))
set_option maxRecDepth 100000 in
theorem Mu (n : Int) : yD (FF n) = [40,100,101,102,105,110,101,32,40,102,32,110,41,32,40,105,102,32,40,60,32,110,32,49,41,32,48,32,40,43,32,110,32,40,102,32,40,45,32,110,32,49,41,41,41,41,41,32,40,102,32] ++ (zY n ++ [41]) := rfl
theorem R5 : zJ (FF 0) 400 (BF 0) = true := by decide +kernel
theorem R6 : zJ (FF 1) 400 (BF 1) = true := by decide +kernel
theorem R7 : zJ (FF 2) 400 (BF 3) = true := by decide +kernel
theorem R8 : zJ (FF 3) 400 (BF 6) = true := by decide +kernel
theorem R9 : zJ (FF 4) 400 (BF 10) = true := by decide +kernel
theorem Sa : zJ (FF 5) 400 (BF 15) = true := by decide +kernel
theorem Sb : zJ (FF 6) 400 (BF 21) = true := by decide +kernel
theorem Sc : zJ (FF 7) 400 (BF 28) = true := by decide +kernel
theorem Se : zJ (FF 8) 400 (BF 36) = true := by decide +kernel
theorem Sf : zJ (FF 9) 400 (BF 45) = true := by decide +kernel
theorem RM : zJ (FF 10) 400 (BF 55) = true := by decide +kernel
theorem RN : zJ (FF 11) 400 (BF 66) = true := by decide +kernel
theorem Rf {n : Nat} (h : n < 12) : zJ (FF n) 400 (BF ((n * (n + 1) / 2 : Nat) : Int)) = true := by
 match n,h with
 | 0,_ => exact R5
 | 1,_ => exact R6
 | 2,_ => exact R7
 | 3,_ => exact R8
 | 4,_ => exact R9
 | 5,_ => exact Sa
 | 6,_ => exact Sb
 | 7,_ => exact Sc
 | 8,_ => exact Se
 | 9,_ => exact Sf
 | 10,_ => exact RM
 | 11,_ => exact RN
 | _ + 12,h => omega
set_option maxRecDepth 100000 in
theorem Ie {b : List Int} (hb : b.length < 4611686018427387904) (h8 : ∀ n ∈ b,0 <= n /\ n <= 255) : V 5 [.rs (1,0) (b.map eB)] = some (.bool true,[]) := by
 rw [FX,Qo (Sm b)]
 cases hbig : decide ((b.length : Int) > 1048576) with
 | true => rfl
 | false =>
  have hbig := of_decide_eq_false hbig
  obtain ⟨v,hv,v0,v1⟩ := Sk (b := b) (by omega) h8 (i := 1) (by omega) (by omega)
  have e : Int.tmod v 12 = v % 12 := Int.tmod_eq_emod_of_nonneg v0
  obtain ⟨n,hn⟩ : ∃ n : Nat,v % 12 = n := ⟨(v % 12).toNat,by omega⟩
  have hn12 : n < 12 := by omega
  have hd := QF (n := (n : Int)) (by omega)
  have hdl := CT (n := (n : Int)) (by omega)
  have hfl := congrArg List.length (Mu n)
  rw [lnA,lnA] at hfl
  have hpre : ([40,100,101,102,105,110,101,32,40,102,32,110,41,32,40,105,102,32,40,60,32,110,32,49,41,32,48,32,40,43,32,110,32,40,102,32,40,45,32,110,32,49,41,41,41,41,41,32,40,102,32] : List UInt8).length = 51 := rfl
  rw [hpre,lnC,lnN] at hfl
  obtain ⟨q,rs,c,m,hp,hs,hF⟩ := QN (RQ (n := n) (by omega)) (by omega) (Rf hn12)
  unfold BF at hF
  rw [Bool.and_eq_true] at hF
  have hok := Mz 400 hp.mok
  obtain ⟨o1,o2,_⟩ := RJ hok hs
  have hsum : ((n * (n + 1) / 2 : Nat) : Int) <= 1000 := by
   have : n * (n + 1) <= 11 * 12 := Nat.mul_le_mul (by omega) (by omega)
   omega
  have hnn : 0 <= ((n * (n + 1) / 2 : Nat) : Int) := Int.natCast_nonneg _
  have w1 := MT o1 o2 (Oh hF.1) (by generalize ((n * (n + 1) / 2 : Nat) : Int) = z at hsum hnn ⊢; omega)
  have hd2 := QF (n := ((n * (n + 1) / 2 : Nat) : Int)) (by generalize ((n * (n + 1) / 2 : Nat) : Int) = z at hsum hnn ⊢; omega)
  have k1 := Re hp
  rw [Mu] at k1
  have k4 := RV (Ot hp) hp.mok (k := 400) (by omega) (steps := 1000) (by omega) (by omega)
  have g1 : (⟨#[40,100,101,102,105,110,101,32,40,102,32,110,41,32,40,105,102,32,40,60,32,110,32,49,41,32,48,32,40,43,32,110,32,40,102,32,40,45,32,110,32,49,41,41,41,41,41,32,40,102,32]⟩ : ByteArray) = mk [40,100,101,102,105,110,101,32,40,102,32,110,41,32,40,105,102,32,40,60,32,110,32,49,41,32,48,32,40,43,32,110,32,40,102,32,40,45,32,110,32,49,41,41,41,41,41,32,40,102,32] := rfl
  have g2 : (⟨#[41]⟩ : ByteArray) = mk [41] := rfl
  rw [wy,Q9 hv,e,hn,xl (by decide),BL hd,g1,g2,y3,y3]
  rw [xl (decide_eq_true (by rw [oE,xH,xH,hpre]; simp only [ni]; omega)),xl (decide_eq_true (by rw [oE,xH,xH,lnA,hpre]; simp only [ni,lnC,lnN]; omega)),List.append_assoc]
  have hm1 : Int.tdiv (w6 ((n : Int) * w6 ((n : Int) + 1))) 2 = ((n * (n + 1) / 2 : Nat) : Int) := by
   have hmul : (n : Int) * ((n : Int) + 1) = ((n * (n + 1) : Nat) : Int) := by simp
   have : n * (n + 1) <= 11 * 12 := Nat.mul_le_mul (by omega) (by omega)
   rw [w64 (n := (n : Int) + 1) (by omega) (by omega),hmul,w64 (by omega) (by omega),Int.tdiv_eq_ediv_of_nonneg (by omega)]
   omega
  rw [Ph k1,Li (Rc hp),Ik (RK hp),Mg k4,wz (by decide),wz (by decide),xd,wz (xx hs),Nv w1,xl (by decide),hm1,w64 (by omega) (by omega),BL hd2,MD]
theorem Gx (xs : List D) (h : All2 (fun t x => ShapeV Try.prog t x) Try.f5.params.toList xs) : V 5 xs = some (.bool true,[]) := by
 rw [Try.params5] at h
 cases h with | cons h1 h =>
 cases h
 obtain ⟨b,rfl,hb,h8⟩ := OU h1
 exact Ie hb h8
end Go.Eng
