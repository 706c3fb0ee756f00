/- the program and the reference on plain data, part 4 -/
import Derived.Test.YtkndfhaehnfnmaaPart3
import Derived.Test.YtkndfhaehnfnmaaPart1
import Derived.Test.YtkndfhaehnfnmaaPart2
import Derived.Test.YtkndfhaehnfnmaaEngC
/-! a step of a machine: the program's side: calls -/
namespace Go.Eng
open Go.Proofs Go.Proofs.Try
set_option maxHeartbeats 4000000

theorem RA {R : Type} (x : Df) (K : ByteArray -> Int -> Int -> Option R) : Pw (eDf x) (fun n4 n7 n10 => (K n4 n7 n10)) = K x.name x.at' x.args := rfl
theorem Jd {α : Type} {f : α -> D} {l : List α} {k : Int} (h : (l.length : Int) = k) : ni (l.map f).length = k := by rw [lnM]; exact h
theorem Qg {α : Type} {f : α -> D} {l : List α} {k : Int} (h : ¬ (l.length : Int) = k) : ¬ ni (l.map f).length = k := by rw [lnM]; exact h
theorem Ak {c : Cd} (hc : c.list.length <= 400) (n : Int) : V 48 [eCd c,iN n] = some (.bool (zF c n),[]) := KC (by omega) n
theorem MT {c : Cd} (hf : FitsC c) (hc : yN c = true) {m : Mc} (hl : m.pool.length < 4294967200) (s : ByteArray) : Fi c (V 74 [eSt c m,.str s]) (IV c m s) := by
 have hd := Db hf s
 have c2 := (y4 hc).2.1
 rw [DE,Jh hd]
 unfold IV
 by_cases h0 : 0 <= Bh c s
 ·obtain ⟨d,hg⟩ := Ke h0
  have hok := Ku hc hg
  unfold Pj at hok
  simp only [Bool.and_eq_true] at hok
  have a1 := wi_iff.1 hok.2.2.1
  have a2 := wi_iff.1 hok.2.2.2
  have hlt := aQ hg
  have h1 := AP (p := m.pool) (by omega) ndN
  have h2 := AP (p := m.pool ++ [ndN]) (by simp; omega) (ndF (8 * d.at' + d.args) m.pool.length)
  have h3 := AH (c := c) (m := ⟨m.pool ++ [ndN] ++ [ndF (8 * d.at' + d.args) m.pool.length],m.at',m.s,m.e,m.d,m.state,m.ask,m.arg⟩) (by simp; omega) (m.pool.length + 1)
  have e1 : w6 (w6 (8 * d.at') + d.args) = 8 * d.at' + d.args := by rw [w64 (n := 8 * d.at') (by omega) (by omega),w64 (by omega) (by omega)]
  have e2 : ((m.pool ++ [ndN]).length : Int) = m.pool.length + 1 := by simp
  rw [e2] at h2
  rw [if_pos h0,wK (decide_eq_true h0),xu (by rw [lnM]; simp only [ni,Bool.and_eq_true,decide_eq_true_eq]; omega),w8 hg,RA]
  simp only [List.getD_eq_getElem?_getD,hg,Option.getD_some]
  show _ = _
  rw [yd h1,e1,yd h2,yG h3]
 ·rw [if_neg h0,vQ (decide_eq_false h0)]
  have hp := J0 s
  have hb := FH s
  rw [Ml hp]
  by_cases hz : AK s = 0
  ·rw [if_pos hz,wK (xG hz)]
   exact ⟨by decide,m,rfl⟩
  ·have h1 := AP (p := m.pool) (by omega) (ndR (AK s))
   have h3 := AH (c := c) (m := ⟨m.pool ++ [ndR (AK s)],m.at',m.s,m.e,m.d,m.state,m.ask,m.arg⟩) (by simp; omega) m.pool.length
   rw [if_neg hz,vQ (xF hz),yd h1,yG h3]
   rfl
theorem NJ {c : Cd} (hc : c.list.length <= 400) {m : Mc} (hl : m.pool.length < 4294967200) (ha : zF c m.at' = true) {f : Nd} (hf : 0 <= f.n /\ f.n <= 1000000000) {l : List Int} (_ : l.length <= 10) : Fi c (V 81 [eSt c m,eN f,.rs (1,0) (l.map eI)]) (DG c m f l) := by
 have hpl := isPl_iff.1 ha
 have t1 : Int.tmod f.n 8 = f.n % 8 := Int.tmod_eq_emod_of_nonneg hf.1
 have t2 : Int.tdiv f.n 8 = f.n / 8 := Int.tdiv_eq_ediv_of_nonneg hf.1
 rw [ED,xu (by decide),t1,t2]
 unfold DG
 by_cases h1 : f.n % 8 = (l.length : Int)
 ·rw [if_neg (by omega),vQ (xH (by rw [Jd rfl]; exact h1)),xu (by decide),w64 (n := f.n / 8) (by omega) (by omega),yl (Ak hc _)]
  cases h2 : zF c (f.n / 8) with
  | false => rw [if_pos rfl]; exact ⟨by decide,m,rfl⟩
  | true =>
   rw [if_neg (by simp),Bool.not_true,wJ,w64 (n := m.at' + 1) (by omega) (by omega)]
   have a1 := AP (p := m.pool) (by omega) (ndI (m.at' + 1))
   have l1 := Cw (m.pool ++ [ndI (m.at' + 1)]) [(m.pool.length : Int),m.s,m.e]
   simp only [lnA,lnC,lnN] at l1
   have a2 : V 57 [rP (m.pool ++ [ndI (m.at' + 1)]),.rs (1,0) [iN (m.pool.length : Int),iN m.s,iN m.e]] = _ := JJ (q := m.pool ++ [ndI (m.at' + 1)]) (row := [(m.pool.length : Int),m.s,m.e]) (by simp only [lnA,lnC,lnN]; omega)
   have a3 := Lu (q := (xT (m.pool ++ [ndI (m.at' + 1)]) [(m.pool.length : Int),m.s,m.e]).1) (by omega) (xT (m.pool ++ [ndI (m.at' + 1)]) [(m.pool.length : Int),m.s,m.e]).2 m.d
   rw [yd a1,z6 a2,AV a3]
   generalize hB : xT (m.pool ++ [ndI (m.at' + 1)]) [(m.pool.length : Int),m.s,m.e] = B at l1 ⊢
   have l2 := Cw (B.1 ++ [ndP B.2 m.d]) l
   simp only [lnA,lnC,lnN] at l2
   have a4 := JJ (q := B.1 ++ [ndP B.2 m.d]) (row := l) (by simp only [lnA,lnC,lnN]; omega)
   have a5 := Lu (q := (xT (B.1 ++ [ndP B.2 m.d]) l).1) (by omega) (xT (B.1 ++ [ndP B.2 m.d]) l).2 f.a
   have a6 := AP (p := (xT (B.1 ++ [ndP B.2 m.d]) l).1 ++ [ndP (xT (B.1 ++ [ndP B.2 m.d]) l).2 f.a]) (by simp only [lnA,lnC,lnN]; omega) ndN
   have e6 : (((xT (B.1 ++ [ndP B.2 m.d]) l).1 ++ [ndP (xT (B.1 ++ [ndP B.2 m.d]) l).2 f.a]).length : Int) = (xT (B.1 ++ [ndP B.2 m.d]) l).1.length + 1 := by simp
   rw [e6] at a6
   rw [z6 a4,AV a5,yd a6,xu (by decide)]
   rfl
 ·rw [if_pos h1,wK (xI (by rw [Jd rfl]; exact h1))]
  exact ⟨by decide,m,rfl⟩
theorem LU {c : Cd} {p : List Nd} {v : Int} {many : Nat} {xs : List Int} {b : Bool} (h : BX p v = (xs,b)) (hm : 0 < many) : DH c p v many = if b = true /\ xs.length = many /\ (nod p (xs.getD 0 0)).kind = 3 /\ zF c (nod p (xs.getD 0 0)).n = true then some ((nod p (xs.getD 0 0)).n,xs.drop 1) else none := by
 unfold DH
 rw [h]
 cases b with
 | false => rw [if_neg (fun h => by simp at h)]; cases xs <;> rfl
 | true =>
  cases xs with
  | nil => rw [if_neg (fun h => by have := h.2.1; simp at this; omega)]
  | cons a r =>
   simp only [lnC,List.getD_cons_zero,true_and,List.drop_one,List.tail_cons]
theorem MU {c : Cd} (hc : c.list.length <= 400) {m : Mc} (hp : yb m.pool) (hl : m.pool.length < 2147483648) {st : Int} (hs : InP m.pool st) {l : List Int} (hll : l.length <= 10) : Fi c (V 83 [eSt c m,iN st,.rs (1,0) (l.map eI)]) (MD c m st l) := by
 have hlst := CN hp hl hs
 have hin := CY hp hs
 rw [DF]
 unfold MD
 by_cases h1 : l.length = 1
 ·rw [if_neg (by omega),vQ (xH (Jd (by omega))),za hlst]
  obtain ⟨v,rfl⟩ : ∃ v,l = [v] := by
   match l,h1 with
   | [v],_ => exact ⟨v,rfl⟩
   | [],h => simp at h
   | _ :: _ :: _,h => simp at h
  rcases hq : BX m.pool st with ⟨xs,b⟩
  have hfr := LU (c := c) hq (many := 4) (by omega)
  rw [hq] at hin
  have none : ∀ {X : Option Ret},¬ (b = true /\ xs.length = 4 /\ (nod m.pool (xs.getD 0 0)).kind = 3 /\ zF c (nod m.pool (xs.getD 0 0)).n = true) -> X = some (iN 7,[eSt c m]) -> Fi c X (match DH c m.pool st 4 with
    | some (n,[s,e,d]) => .ok (Jr ⟨m.pool,n,s,e,d,m.state,m.ask,m.arg⟩ ([v].getD 0 0))
    | _ => .error 7) := by
   intro X hn hX
   rw [hfr,if_neg hn]
   exact ⟨by decide,m,hX⟩
  cases b with
  | false => exact none (fun h => by simp at h) rfl
  | true =>
   rw [Bool.not_true,wJ]
   by_cases h4 : xs.length = 4
   ·obtain ⟨a,s,e,d,rfl⟩ : ∃ a s e d,xs = [a,s,e,d] := by
     match xs,h4 with
     | [a,s,e,d],_ => exact ⟨a,s,e,d,rfl⟩
     | [],h => simp at h
     | [_],h => simp at h
     | [_,_],h => simp at h
     | [_,_,_],h => simp at h
     | _ :: _ :: _ :: _ :: _ :: _,h => simp at h
    have ha := hin a (by simp)
    rw [vQ (xH (Jd (k := 4) rfl)),zq,KH ha]
    by_cases h3 : (nod m.pool a).kind = 3
    ·rw [vQ (xH h3),zq,PJ ha,yl (Ak hc _)]
     cases h5 : zF c (nod m.pool a).n with
     | false => exact none (fun h => by have := h.2.2.2; simp only [List.getD_cons_zero,h5] at this; cases this) rfl
     | true =>
      have a3 := AH (c := c) (m := ⟨m.pool,(nod m.pool a).n,s,e,d,m.state,m.ask,m.arg⟩) (by show m.pool.length < _; omega) v
      rw [hfr,if_pos ⟨rfl,rfl,h3,h5⟩,Bool.not_true,wJ,zq,PJ ha,CX,Lf,PW,zq,yG a3]
      rfl
    ·rw [wK (xI h3)]
     exact none (fun h => h3 h.2.2.1) rfl
   ·rw [wK (xI (Qg (l := xs) (k := 4) (fun h => h4 (by omega))))]
    exact none (fun h => h4 h.2.1) rfl
 ·rw [if_pos h1,wK (xI (Qg (l := l) (k := 1) (fun h => h1 (by omega))))]
  exact ⟨by decide,m,rfl⟩
theorem Am {c : Cd} {X : Option Ret} {m : Mc} (h : Fi c X (.ok m)) : X = some (iN 0,[eSt c m]) := h
theorem zI {c : Cd} {X : Option Ret} {h : Int} (e : Fi c X (.error h)) : h ≠ 0 /\ ∃ m',X = some (iN h,[eSt c m']) := e
theorem KF {c : Cd} (hc : c.list.length <= 400) : ∀ (k : Nat) {m : Mc} {f : Int} {l : List Int},RunM c m -> zF c (m.at' + 1) = true -> m.pool.length + 100 * k < 2147483600 -> InP m.pool f -> (∀ v ∈ l,InP m.pool v) -> l.length <= 4 -> ((nod m.pool f).n = 11 -> l.length = 2 -> xR m.pool = true) -> Bd c k m f l ≠ .error 0 ->
  Fi c (V 70 [eSt c m,iN f,.rs (1,0) (l.map eI)]) (Bd c k m f l)
 | 0,m,f,l,h,hnx,hl,hf,hv,h4,h11,h0 => absurd rfl h0
 | k + 1,m,f,l,h,hnx,hl,hf,hv,h4,h11,h0 => by
  have hok := DR h.gm.ok hf
  have hpl := isPl_iff.1 h.pl
  rw [Fw,DA hf]
  unfold Bd at h0 ⊢
  simp only at h0 ⊢
  by_cases h6 : (nod m.pool f).kind = 6
  ·rw [if_pos h6,wK (xG h6)]
   have hfn : 0 <= (nod m.pool f).n /\ (nod m.pool f).n <= 1000000000 := by
    simp [okN,h6] at hok
    exact wi_iff.1 hok.1
   have he := NJ hc (m := m) (by omega) h.pl (f := nod m.pool f) hfn (l := l) (by omega)
   cases hr : DG c m (nod m.pool f) l with
   | ok m' => rw [hr] at he; rw [Cz (Am he)]; rfl
   | error q =>
    rw [hr] at he
    obtain ⟨q0,m',hx⟩ := zI he
    rw [Cz hx]
    exact ⟨q0,m',rfl⟩
  rw [if_neg h6] at h0 ⊢
  rw [vQ (xF h6)]
  by_cases h8 : (nod m.pool f).kind = 8
  ·rw [if_pos h8] at h0 ⊢
   rw [wK (xG h8)]
   -- what is built in
   have prim : Fi c (V 82 [eSt c m,iN (nod m.pool f).n,.rs (1,0) (l.map eI)]) (if yg (nod m.pool f).n ≠ (l.length : Int) then .error 2
     else if (nod m.pool f).n = 18 then
      Bd c k ⟨(xT (m.pool ++ [ndI (m.at' + 1)]) [(m.pool.length : Int),m.s,m.e,m.d]).1 ++ [ndK (xT (m.pool ++ [ndI (m.at' + 1)]) [(m.pool.length : Int),m.s,m.e,m.d]).2],m.at',m.s,m.e,m.d,m.state,m.ask,m.arg⟩ (l.getD 0 0) [((xT (m.pool ++ [ndI (m.at' + 1)]) [(m.pool.length : Int),m.s,m.e,m.d]).1.length : Int)]
     else if (nod m.pool f).n > 12 then
      .ok ⟨(xT m.pool l).1,m.at',m.s,m.e,m.d,1,(nod m.pool f).n,(xT m.pool l).2⟩
     else match Jq m.pool (nod m.pool f).n l with
      | .error h => .error (h + 1)
      | .ok (p,v) => .ok ⟨p ++ [ndP v m.s],m.at' + 1,p.length,m.e,m.d,m.state,m.ask,m.arg⟩) := by
    rw [Cq,JY Il]
    by_cases hargs : yg (nod m.pool f).n = (l.length : Int)
    ·have hargs' : ¬ yg (nod m.pool f).n ≠ (l.length : Int) := fun h => h hargs
     obtain ⟨n1,n19,l2⟩ := z9 hargs
     rw [if_neg hargs'] at h0 ⊢
     rw [vQ (xH (by rw [Jd rfl]; exact hargs))]
     by_cases h18 : (nod m.pool f).n = 18
     ·rw [if_pos h18] at h0 ⊢
      rw [wK (xG h18),w64 (n := m.at' + 1) (by omega) (by omega)]
      obtain ⟨v,rfl⟩ : ∃ v,l = [v] := by
       rw [h18] at hargs
       match l,hargs with
       | [v],_ => exact ⟨v,rfl⟩
       | [],h => cases h
       | _ :: _ :: r,h => simp only [lnC] at h; have : yg 18 = 1 := rfl; omega
      have a1 := AP (p := m.pool) (by omega) (ndI (m.at' + 1))
      have l1 := Cw (m.pool ++ [ndI (m.at' + 1)]) [(m.pool.length : Int),m.s,m.e,m.d]
      simp only [lnA,lnC,lnN] at l1
      have a2 : V 57 [rP (m.pool ++ [ndI (m.at' + 1)]),.rs (1,0) [iN (m.pool.length : Int),iN m.s,iN m.e,iN m.d]] = _ := JJ (q := m.pool ++ [ndI (m.at' + 1)]) (row := [(m.pool.length : Int),m.s,m.e,m.d]) (by simp only [lnA,lnC,lnN]; omega)
      have o1 : yb (m.pool ++ [ndI (m.at' + 1)]) := yj h.gm.ok (Ln (by omega))
      obtain ⟨b1,⟨t,b2,b3⟩,b4⟩ := Ay (row := [(m.pool.length : Int),m.s,m.e,m.d]) o1 (fun v hv => by
       simp only [List.mem_cons,List.not_mem_nil,or_false] at hv
       rcases hv with rfl | rfl | rfl | rfl
       ·exact y2 _ _
       ·exact xZ _ h.gm.s
       ·exact xZ _ h.gm.e
       ·exact xZ _ h.gm.d)
      have e1 : (xT (m.pool ++ [ndI (m.at' + 1)]) [(m.pool.length : Int),m.s,m.e,m.d]).1 = m.pool ++ (ndI (m.at' + 1) :: t) := by rw [b2]; simp
      have up : ∀ {v : Int},InP m.pool v -> InP ((xT (m.pool ++ [ndI (m.at' + 1)]) [(m.pool.length : Int),m.s,m.e,m.d]).1 ++ [ndK ((xT (m.pool ++ [ndI (m.at' + 1)]) [(m.pool.length : Int),m.s,m.e,m.d]).2 : Int)]) v := fun hv => xZ _ (by rw [e1]; exact xZ _ hv)
      have g2 : RunM c ⟨(xT (m.pool ++ [ndI (m.at' + 1)]) [(m.pool.length : Int),m.s,m.e,m.d]).1 ++ [ndK ((xT (m.pool ++ [ndI (m.at' + 1)]) [(m.pool.length : Int),m.s,m.e,m.d]).2 : Int)],m.at',m.s,m.e,m.d,m.state,m.ask,m.arg⟩ :=
       ⟨⟨yj b1 (Ol b4),up h.gm.s,up h.gm.e,up h.gm.d⟩,h.st,h.ask,h.arg,h.pl⟩
      rw [yd a1,z6 a2]
      generalize hB : xT (m.pool ++ [ndI (m.at' + 1)]) [(m.pool.length : Int),m.s,m.e,m.d] = B at l1 b1 b2 b4 e1 up g2 h0 ⊢
      have a3 := AP (p := B.1) (by omega) (ndK (B.2 : Int))
      have a4 := KF hc k g2 hnx (by show (B.1 ++ [ndK (B.2 : Int)]).length + 100 * k < _; simp only [lnA,lnC,lnN]; omega) (up (hv v (by simp))) (l := [(B.1.length : Int)]) (fun u hu => by
       simp only [List.mem_singleton] at hu; subst hu; exact y2 _ _) (by simp) (fun _ h => by simp at h) h0
      rw [yd a3,zq]
      simp only [List.getD_cons_zero] at a4 ⊢
      simp only [List.map_cons,List.map_nil] at a4
      cases hr : Bd c k ⟨B.1 ++ [ndK (B.2 : Int)],m.at',m.s,m.e,m.d,m.state,m.ask,m.arg⟩ v [(B.1.length : Int)] with
      | ok m' => rw [hr] at a4; rw [zM (Am a4)]; rfl
      | error q =>
       rw [hr] at a4
       obtain ⟨q0,m',hx⟩ := zI a4
       rw [zM hx]
       exact ⟨q0,m',rfl⟩
     rw [if_neg h18] at h0 ⊢
     rw [vQ (xF h18)]
     by_cases h12 : (nod m.pool f).n > 12
     ·rw [if_pos h12,wK (decide_eq_true h12)]
      have a1 := JJ (q := m.pool) (row := l) (by omega)
      rw [z6 a1]
      rfl
     rw [if_neg h12,vQ (decide_eq_false h12)]
     have hp := MR h.gm.ok (by omega) (n := (nod m.pool f).n) hv (by omega) hargs.symm (fun e => h11 e (by
      rw [e] at hargs
      have : yg 11 = 2 := rfl
      omega))
     cases hr : Jq m.pool (nod m.pool f).n l with
     | error q =>
      rw [hr] at hp
      rw [Ge hp]
      have hq : q = 3 \/ q = 4 := by
       rw [D3 (by omega) hargs.symm] at hr
       split at hr
       ·split at hr
        ·cases hr
        ·split at hr
         ·cases hr
         ·split at hr
          ·cases hr
          ·cases hr; exact .inr rfl
       ·cases hr; exact .inl rfl
      rcases hq with rfl | rfl
      ·exact ⟨by decide,m,rfl⟩
      ·exact ⟨by decide,m,rfl⟩
     | ok r =>
      obtain ⟨p,v⟩ := r
      rw [hr] at hp
      obtain ⟨q1,q2,t,q3,q4⟩ := Mz h.gm.ok hv (by omega) hargs.symm hr
      have hpl' : p.length < 4294967296 := by rw [q3]; simp only [lnA]; omega
      have a3 := AH (c := c) (m := ⟨p,m.at',m.s,m.e,m.d,m.state,m.ask,m.arg⟩) hpl' v
      rw [Ge hp,vQ (xF (by omega)),vQ (xF (by omega)),yG a3]
      show some (iN 0,[D.op [_,iN (w6 (m.at' + 1)),_,_,_,_,_,_,_,_,_]]) = _
      rw [w64 (by omega) (by omega)]
      rfl
    ·rw [if_pos hargs,wK (xI (by rw [Jd rfl]; exact hargs))]
     exact ⟨by decide,m,rfl⟩
   revert prim h0
   generalize (if yg (nod m.pool f).n ≠ (l.length : Int) then (.error 2 : Except Int Mc) else _) = r
   intro h0 prim
   cases r with
   | ok m' => rw [AE (Am prim)]; rfl
   | error q =>
    obtain ⟨q0,m',hx⟩ := zI prim
    rw [AE hx]
    exact ⟨q0,m',rfl⟩
  rw [if_neg h8,vQ (xF h8)]
  by_cases h7 : (nod m.pool f).kind = 7
  ·rw [if_pos h7,wK (xG h7)]
   have he := MU hc h.gm.ok (by omega) (Gd h.gm.ok hf (.inr (.inr h7))) (l := l) (by omega)
   cases hr : MD c m (nod m.pool f).a l with
   | ok m' => rw [hr] at he; rw [BL (Am he)]; rfl
   | error q =>
    rw [hr] at he
    obtain ⟨q0,m',hx⟩ := zI he
    rw [BL hx]
    exact ⟨q0,m',rfl⟩
  ·rw [if_neg h7,vQ (xF h7)]
   exact ⟨by decide,m,rfl⟩
end Go.Eng
/-! a step of a machine: the program's side: whole -/
namespace Go.Eng
open Go.Proofs Go.Proofs.Try
set_option maxHeartbeats 4000000

theorem I5 : ∀ (r : List Int) (q : List Nd) (c : Nat),∃ t,(zr r q c).1 = q ++ t
 | [],q,c => ⟨[],by simp [zr]⟩
 | x :: r,q,c => by
  obtain ⟨t,h⟩ := I5 r (q ++ [ndP x c]) q.length
  exact ⟨ndP x c :: t,by rw [zr,h]; simp⟩
theorem O9 (q : List Nd) (row : List Int) : ∃ t,(xT q row).1 = q ++ t := by
 obtain ⟨t,h⟩ := I5 row.reverse (q ++ [ndN]) q.length
 exact ⟨ndN :: t,by unfold xT; rw [h]; simp⟩
theorem Qj (p : List Nd) (x : Nd) : nod (p ++ [x]) (p.length : Int) = x := by simp [nod]
theorem IB {c : Cd} : ∀ (k : Nat) {m : Mc} {f : Int} {l : List Int},(∀ v ∈ l,InP m.pool v) -> (3 <= k \/ (2 <= k /\ (nod m.pool (l.getD 0 0)).kind = 7) \/ (1 <= k /\ (nod m.pool f).kind = 7)) -> Bd c k m f l ≠ .error 0
 | 0,m,f,l,hv,hk => by omega
 | k + 1,m,f,l,hv,hk => by
  unfold Bd
  simp only
  split
  ·unfold DG
   split
   ·intro h; cases h
   ·split
    ·intro h; cases h
    ·intro h; cases h
  split
  ·rename_i h6 h8
   split
   ·intro h; cases h
   rename_i hargs
   split
   ·rename_i h18
    obtain ⟨v,r,rfl⟩ : ∃ v r,l = v :: r := by
     cases l with
     | nil => exact absurd (by rw [h18]; decide) hargs
     | cons v r => exact ⟨v,r,rfl⟩
    obtain ⟨t,ht⟩ := O9 (m.pool ++ [ndI (m.at' + 1)]) [(m.pool.length : Int),m.s,m.e,m.d]
    have e1 : (xT (m.pool ++ [ndI (m.at' + 1)]) [(m.pool.length : Int),m.s,m.e,m.d]).1 = m.pool ++ (ndI (m.at' + 1) :: t) := by rw [ht]; simp
    have hv0 := hv v (by simp)
    have up : nod ((xT (m.pool ++ [ndI (m.at' + 1)]) [(m.pool.length : Int),m.s,m.e,m.d]).1 ++ [ndK ((xT (m.pool ++ [ndI (m.at' + 1)]) [(m.pool.length : Int),m.s,m.e,m.d]).2 : Int)]) v = nod m.pool v := by
     rw [e1,List.append_assoc,QX hv0]
    refine IB k (fun u hu => ?_) ?_
    ·simp only [List.mem_singleton] at hu; subst hu
     exact y2 _ _
    ·rcases hk with hk | ⟨hk,h7⟩ | ⟨hk,h7⟩
     ·refine .inr (.inl ⟨by omega,?_⟩)
      simp only [List.getD_cons_zero]
      rw [Qj]
     ·refine .inr (.inr ⟨by omega,?_⟩)
      simp only [List.getD_cons_zero] at h7 ⊢
      rw [up,h7]
     ·omega
   split
   ·intro h; cases h
   split
   ·rename_i q hq
    intro h
    have hz : q + 1 = 0 := by injection h
    obtain ⟨n1,n19,l2⟩ := z9 (n := (nod m.pool f).n) (k := l.length) (by simpa using hargs)
    rw [D3 (by omega) (by simpa using (Eq.symm (by simpa using hargs : yg (nod m.pool f).n = (l.length : Int))))] at hq
    split at hq
    ·split at hq
     ·cases hq
     ·split at hq
      ·cases hq
      ·split at hq
       ·cases hq
       ·cases hq; omega
    ·cases hq; omega
   ·intro h; cases h
  split
  ·unfold MD
   split
   ·intro h; cases h
   ·split <;> (intro h; cases h)
  ·intro h; cases h
theorem J8 {c : Cd} : ∀ (k : Nat) {m : Mc} {f : Int} {l : List Int} {h : Int},Bd c k m f l = .error h -> h = 0 \/ (1 <= h /\ h <= 7)
 | 0,m,f,l,h,he => by cases he; exact .inl rfl
 | k + 1,m,f,l,h,he => by
  unfold Bd at he
  simp only at he
  split at he
  ·unfold DG at he
   split at he
   ·cases he; omega
   ·split at he
    ·cases he; omega
    ·cases he
  split at he
  ·split at he
   ·cases he; omega
   rename_i hargs
   split at he
   ·exact J8 k he
   split at he
   ·cases he
   split at he
   ·rename_i q hq
    cases he
    obtain ⟨n1,n19,l2⟩ := z9 (n := (nod m.pool f).n) (k := l.length) (by simpa using hargs)
    rw [D3 (by omega) (by simpa using (Eq.symm (by simpa using hargs : yg (nod m.pool f).n = (l.length : Int))))] at hq
    split at hq
    ·split at hq
     ·cases hq
     ·split at hq
      ·cases hq
      ·split at hq
       ·cases hq
       ·cases hq; omega
    ·cases hq; omega
   ·cases he
  split at he
  ·unfold MD at he
   split at he
   ·cases he; omega
   ·split at he
    ·cases he
    ·cases he; omega
  ·cases he; omega
theorem QM {c : Cd} (_ : yN c = true) {m : Mc} (h : RunM c m) {q : Int} (he : doM c m = .error q) : 1 <= q /\ q <= 7 := by
 unfold doM at he
 simp only at he
 split at he
 ·unfold Av at he
  split at he
  ·cases he; omega
  split at he
  ·cases he; omega
  ·rename_i l m1 ht
   obtain ⟨f1,f2,f3,f4,f5,f6,f7,f8,f9⟩ := GE h.gm ht
   rcases J8 3 he with rfl | h1
   ·exact absurd he (IB 3 (fun v hv => f2 v (by have := List.mem_of_mem_drop hv; simpa using this)) (.inl (Nat.le_refl _)))
   ·exact h1
 split at he
 ·unfold GJ at he
  split at he
  ·cases he; omega
  simp only at he
  split at he
  ·cases he
  split at he
  ·cases he; omega
  split at he
  ·cases he
  ·cases he; omega
 ·have go : ∀ {r : Except Int Mc} {n : Int},(∀ q',r = .error q' -> 1 <= q' /\ q' <= 7) -> goM c r n = .error q -> 1 <= q /\ q <= 7 := by
   intro r n hr hg
   unfold goM at hg
   split at hg
   ·cases hg; exact hr _ rfl
   ·split at hg
    ·cases hg
    ·cases hg; omega
  unfold D0 at he
  split at he
  ·exact go (fun q' e => by cases e) he
  split at he
  ·refine go (fun q' e => ?_) he
   unfold NR at e
   split at e
   ·cases e; omega
   ·split at e
    ·cases e; omega
    ·cases e
  split at he
  ·refine go (fun q' e => ?_) he
   unfold IV at e
   split at e
   ·cases e
   ·split at e
    ·cases e; omega
    ·cases e
  split at he
  ·exact go (fun q' e => by cases e) he
  split at he
  ·exact go (fun q' e => by cases e) he
  split at he
  ·cases he; omega
  ·exact go (fun q' e => by cases e) he
theorem MF {c : Cd} {m : Mc} (h : z8 c m = true) (h0 : m.state = 0) : z8 c (D9 c m) = true := by
 obtain ⟨hr,hc,hl⟩ := Jo h h0
 unfold D9
 cases he : doM c m with
 | error q => exact LR h (QM hc hr he)
 | ok m' =>
  obtain ⟨g1,⟨t,g2,g3⟩,g4⟩ := LK hc hr he
  simp only
  split
  ·exact Oh hc g1.ok ‹_› g1.s g1.e g1.d g4
  ·exact LR h (by omega)

theorem ME : ∀ (n : Nat) (pre mid post : List Int) (i j : Int),mid.length <= n -> i = pre.length -> j = i + mid.length - 1 -> (pre ++ mid ++ post).length < 4611686018427387904 ->
  yw i j ((pre ++ mid ++ post).map eI) = some (.tup [],[.os (1,0) ((pre ++ mid.reverse ++ post).map eI)])
 | 0,pre,mid,post,i,j,hn,hi,hj,hl => by
  have : mid = [] := List.length_eq_zero_iff.1 (by omega)
  subst this
  rw [yo,vQ (decide_eq_false (by simp at hj; omega))]
  rfl
 | n + 1,pre,mid,post,i,j,hn,hi,hj,hl => by
  match mid,hn,hj,hl with
  | [],hn,hj,hl =>
   rw [yo,vQ (decide_eq_false (by simp at hj; omega))]
   rfl
  | [x],hn,hj,hl =>
   rw [yo,vQ (decide_eq_false (by simp at hj; omega))]
   rfl
  | x :: z :: r,hn,hj,hl =>
   obtain ⟨m,y,hm⟩ : ∃ m y,z :: r = m ++ [y] := ⟨(z :: r).dropLast,(z :: r).getLast (by simp),(List.dropLast_concat_getLast (by simp)).symm⟩
   rw [hm] at hn hj hl ⊢
   simp only [lnC,lnA,lnN] at hn hj hl
   subst hi
   have hj' : j = ((pre.length + m.length + 1 : Nat) : Int) := by omega
   subst hj'
   have hx : (pre ++ x :: (m ++ [y]) ++ post)[pre.length]? = some x := by simp
   have hy : (pre ++ x :: (m ++ [y]) ++ post)[pre.length + m.length + 1]? = some y := by
    have e : pre ++ x :: (m ++ [y]) ++ post = (pre ++ x :: m) ++ y :: post := by simp
    have e2 : pre.length + m.length + 1 = (pre ++ x :: m).length := by simp; omega
    rw [e,e2]; simp
   have len : (pre ++ x :: (m ++ [y]) ++ post).length = pre.length + m.length + 2 + post.length := by simp; omega
   have s1 : List.set ((pre ++ x :: (m ++ [y]) ++ post).map eI) pre.length (iN y) = (pre ++ y :: (m ++ [y]) ++ post).map eI := by
    rw [<- List.map_set]; simp
   have hy2 : (pre ++ y :: (m ++ [y]) ++ post)[pre.length + m.length + 1]? = some y := by
    have e : pre ++ y :: (m ++ [y]) ++ post = (pre ++ y :: m) ++ y :: post := by simp
    have e2 : pre.length + m.length + 1 = (pre ++ y :: m).length := by simp; omega
    rw [e,e2]; simp
   have s2 : List.set ((pre ++ y :: (m ++ [y]) ++ post).map eI) (pre.length + m.length + 1) (iN x) = ((pre ++ [y]) ++ m ++ (x :: post)).map eI := by
    have e : pre ++ y :: (m ++ [y]) ++ post = (pre ++ y :: m) ++ y :: post := by simp
    have e2 : pre.length + m.length + 1 = (pre ++ y :: m).length := by simp; omega
    rw [<- List.map_set,e,e2]; simp
   have len2 : (pre ++ y :: (m ++ [y]) ++ post).length = pre.length + m.length + 2 + post.length := by simp; omega
   have ih := ME n (pre ++ [y]) m (x :: post) ((pre.length : Int) + 1) (((pre.length + m.length + 1 : Nat) : Int) - 1) (by omega) (by simp) (by simp; omega) (by simp; omega)
   rw [yo,wK (decide_eq_true (by omega)),
    Ax (l := pre ++ x :: (m ++ [y]) ++ post) (v := ((pre.length + m.length + 1 : Nat) : Int)) (x := y) (by omega) (by rw [Int.toNat_natCast]; exact hy),
    Ax (l := pre ++ x :: (m ++ [y]) ++ post) (v := (pre.length : Int)) (x := x) (by omega) (by rw [Int.toNat_natCast]; exact hx),
    xu (by rw [lnM]; exact xz (by omega)),Int.toNat_natCast,w8 hx,xB,s1,
    xu (by rw [lnM]; exact xz (by omega)),Int.toNat_natCast,w8 hy2,xB,s2,w64 (n := (pre.length : Int) + 1) (by omega) (by omega),w64 (n := ((pre.length + m.length + 1 : Nat) : Int) - 1) (by omega) (by omega),ih]
   simp
theorem PB {l : List Int} (hl : l.length < 4611686018427387904) : V 69 [.os (1,0) (l.map eI)] = some (.tup [],[.os (1,0) (l.reverse.map eI)]) := by
 have h := ME l.length [] l [] 0 ((l.length : Int) - 1) (Nat.le_refl _) rfl (by omega) (by simpa using hl)
 simp only [List.nil_append,List.append_nil] at h
 rw [Ct,lnM,w64 (n := ni l.length - 1) (by simp only [ni]; omega) (by simp only [ni]; omega)]
 exact h

theorem Pk (a : Int) (r : List Int) : part ((a :: r).map eI) (some (Int.toNat 1,((a :: r).map eI).length - Int.toNat 1)) = r.map eI := by
 simp only [part,List.map_cons,lnC]
 show (r.map eI).take ((r.map eI).length + 1 - 1) = _
 exact List.take_of_length_le (by simp)
theorem Dn {c : Cd} (hc : c.list.length <= 400) {many : Nat} (hm : many <= 4) : ∀ (k i : Nat) {m : Mc} {acc : List Int},i + k = many + 1 -> acc.length = i -> RunM c m -> zF c (m.at' + 1) = true -> m.pool.length <= 3000 -> (∀ v ∈ acc,InP m.pool v) ->
  Fi c (yJ ((many : Int) + 1) (i : Int) m.at' m.s m.e m.d m.state m.ask m.arg (c.pool.map eN) (c.list.map eIn) (c.defs.map eDf) (acc.map eI) (m.pool.map eN)) (match Da k m with
   | none => .error 7
   | some (l,m') => Bd c 3 m' ((acc ++ l).reverse.getD 0 0) ((acc ++ l).reverse.drop 1))
 | 0,i,m,acc,hi,ha,hr,hnx,hl,hv => by
  rw [zp,vQ (decide_eq_false (by omega)),Bx (PB (l := acc) (by omega))]
  simp only [Da,List.append_nil]
  obtain ⟨a,r,hq⟩ : ∃ a r,acc.reverse = a :: r := by
   cases hq : acc.reverse with
   | nil => have h := congrArg List.length hq; rw [List.length_reverse,lnN] at h; omega
   | cons a r => exact ⟨a,r,rfl⟩
  have hlen : r.length = many := by have h := congrArg List.length hq; rw [List.length_reverse,lnC] at h; omega
  have hvr : ∀ v ∈ a :: r,InP m.pool v := fun v hv' => hv v (by rw [<- hq] at hv'; simpa using hv')
  rw [hq,zq,xu (by simp [cG]; omega),Pk]
  simp only [List.getD_cons_zero,List.drop_one,List.tail_cons]
  have h0 := IB (c := c) 3 (m := m) (f := a) (l := r) (fun v hv' => hvr v (by simp [hv'])) (.inl (Nat.le_refl _))
  have hcall := KF hc 3 hr hnx (by omega) (hvr a (by simp)) (fun v hv' => hvr v (by simp [hv'])) (by omega) (fun _ _ => okPool_iff.2 ⟨hr.gm.ok,hl⟩) h0
  cases he : Bd c 3 m a r with
  | ok m' => rw [he] at hcall; rw [zM (Am hcall)]; rfl
  | error q =>
   rw [he] at hcall
   obtain ⟨q0,m',hx⟩ := zI hcall
   rw [zM hx]
   exact ⟨q0,m',rfl⟩
 | k + 1,i,m,acc,hi,ha,hr,hnx,hl,hv => by
  rw [zp,wK (decide_eq_true (by omega))]
  unfold Da
  cases ht : CJ m with
  | none =>
   have h1 := Dc (c := c) hr.gm.s ht
   rw [yX h1]
   exact ⟨by decide,m,rfl⟩
  | some q =>
   obtain ⟨v,m1⟩ := q
   have h1 := GG (c := c) hr.gm.s ht
   obtain ⟨g1,g2,g3,g4,g5,g6,g7,g8⟩ := CK hr.gm ht
   have ea : acc.map eI ++ [iN v] = (acc ++ [v]).map eI := by simp
   have ih := Dn hc hm k (i + 1) (m := m1) (acc := acc ++ [v]) (by omega) (by simp [ha]) ⟨g1,g5.trans hr.st,g6.trans hr.ask,g7.trans hr.arg,by rw [g4]; exact hr.pl⟩ (by rw [g4]; exact hnx) (by rw [g3]; exact hl) (fun u hu => by
    rw [g3]
    rcases List.mem_append.1 hu with hu | hu
    ·exact hv u hu
    ·simp only [List.mem_singleton] at hu; subst hu; rw [<- g3]; exact g2)
   rw [yX h1,Bool.not_true,wJ,xu (Qb (by omega) v),xB,ea,xN (by omega)]
   simp only
   cases ht2 : Da k m1 with
   | none => rw [ht2] at ih; exact ih
   | some q2 =>
    obtain ⟨l2,m2⟩ := q2
    rw [ht2] at ih
    simp only [List.append_assoc,List.singleton_append] at ih
    exact ih
theorem Lv {c : Cd} (hc : c.list.length <= 400) {m : Mc} (hr : RunM c m) (hl : m.pool.length <= 3000) {k : Int} (hk : 0 <= k /\ k <= 4) : Fi c (V 50 [eSt c m,iN k]) (Av c m k.toNat) := by
 have hpl := isPl_iff.1 hr.pl
 rw [Dv,w64 (n := m.at' + 1) (by omega) (by omega),yl (Ak hc _)]
 unfold Av
 cases hp : zF c (m.at' + 1) with
 | false => rw [if_pos rfl]; exact ⟨by decide,m,rfl⟩
 | true =>
  have h := Dn hc (many := k.toNat) (by omega) (k.toNat + 1) 0 (acc := []) (by omega) rfl hr hp hl (by simp)
  rw [Int.natCast_zero,Int.toNat_of_nonneg hk.1] at h
  rw [if_neg (by simp),Bool.not_true,wJ,w64 (n := k + 1) (by omega) (by omega)]
  simp only [List.nil_append] at h
  exact h
theorem PD {c : Cd} (hc : c.list.length <= 400) {m : Mc} (hr : RunM c m) (hl : m.pool.length <= 3000) : Fi c (V 51 [eSt c m]) (GJ c m) := by
 rw [Fu]
 unfold GJ
 cases ht : CJ m with
 | none =>
  have h1 := Dc (c := c) hr.gm.s ht
  rw [yX h1]
  exact ⟨by decide,m,rfl⟩
 | some q =>
  obtain ⟨v,m1⟩ := q
  have h1 := GG (c := c) hr.gm.s ht
  obtain ⟨g1,g2,g3,g4,g5,g6,g7,g8⟩ := CK hr.gm ht
  rw [yX h1,Bool.not_true,wJ,DA g1.d]
  simp only
  by_cases k1 : (nod m1.pool m1.d).kind = 1
  ·rw [if_pos k1,wK (xG k1)]; rfl
  rw [if_neg k1,vQ (xF k1)]
  by_cases k5 : (nod m1.pool m1.d).kind = 5
  ·rw [if_neg (fun h => h k5),vQ (xH k5)]
   have ha := Gd g1.ok g1.d (.inl k5)
   have hlst := CN g1.ok (by rw [g3]; omega) ha
   have hin := CY g1.ok ha
   rw [za hlst]
   rcases hq : BX m1.pool (nod m1.pool m1.d).a with ⟨xs,b⟩
   have hfr := LU (c := c) hq (many := 3) (by omega)
   rw [hq] at hin
   have none : ∀ {X : Option Ret},¬ (b = true /\ xs.length = 3 /\ (nod m1.pool (xs.getD 0 0)).kind = 3 /\ zF c (nod m1.pool (xs.getD 0 0)).n = true) -> X = some (iN 7,[eSt c m1]) -> Fi c X (match DH c m1.pool (nod m1.pool m1.d).a 3 with
     | some (n,[s,e]) => .ok (Jr ⟨m1.pool,n,s,e,(nod m1.pool m1.d).b,m1.state,m1.ask,m1.arg⟩ v)
     | _ => .error 7) := by
    intro X hn hX
    rw [hfr,if_neg hn]
    exact ⟨by decide,m1,hX⟩
   cases b with
   | false => exact none (fun h => by simp at h) rfl
   | true =>
    rw [Bool.not_true,wJ]
    by_cases h4 : xs.length = 3
    ·obtain ⟨a,s,e,rfl⟩ : ∃ a s e,xs = [a,s,e] := by
      match xs,h4 with
      | [a,s,e],_ => exact ⟨a,s,e,rfl⟩
      | [],h => simp at h
      | [_],h => simp at h
      | [_,_],h => simp at h
      | _ :: _ :: _ :: _ :: _,h => simp at h
     have ha' := hin a (by simp)
     rw [vQ (xH (Jd (k := 3) rfl)),zq,KH ha']
     by_cases h3 : (nod m1.pool a).kind = 3
     ·rw [vQ (xH h3),zq,PJ ha',yl (Ak hc _)]
      cases h5 : zF c (nod m1.pool a).n with
      | false => exact none (fun h => by have := h.2.2.2; simp only [List.getD_cons_zero,h5] at this; cases this) rfl
      | true =>
       have a3 := AH (c := c) (m := ⟨m1.pool,(nod m1.pool a).n,s,e,(nod m1.pool m1.d).b,m1.state,m1.ask,m1.arg⟩) (by show m1.pool.length < _; rw [g3]; omega) v
       rw [hfr,if_pos ⟨rfl,rfl,h3,h5⟩,Bool.not_true,wJ,zq,PJ ha',CX,Lf,yG a3]
       rfl
     ·rw [wK (xI h3)]
      exact none (fun h => h3 h.2.2.1) rfl
    ·rw [wK (xI (Qg (l := xs) (k := 3) (fun h => h4 (by omega))))]
     exact none (fun h => h4 h.2.1) rfl
  ·rw [if_pos k5,wK (xI k5)]
   exact ⟨by decide,m1,rfl⟩
end Go.Eng
/-! a step of a machine: the program's side: every instruction; runs -/
namespace Go.Eng
open Go.Proofs Go.Proofs.Try
set_option maxHeartbeats 4000000

theorem Pu {q : List Nd} {v : Int} (hv : InP q v) : yh q [v] = true := by
 simp only [yh,List.all_cons,List.all_nil,Bool.and_true]
 exact wi_iff.2 ⟨hv.1,by omega⟩
theorem PX {l : List Int} {v : Int} (h : 0 <= v /\ v < (l.length : Int)) {R : Type} (K : Int -> Option R) : grd (decide (0 <= v) && decide (v < ni (l.map eI).length)) (cz (l.map eI) v.toNat fun x => asI .i64 x fun n => K n) = K (l.getD v.toNat 0) := by
 obtain ⟨u,hu⟩ := CW (l := l) h.1 h.2
 rw [Ax h.1 hu]
 simp [hu]
theorem NF {q acc : List Nd} (hp : xR q = true) {v : Int} (hv : InP q v) (hc : acc.length + q.length < 4294967296) : V 72 [rP acc,eP q,iN v] = some (iN (Bg (-1) q v acc).2,[rP (Bg (-1) q v acc).1]) := by
 have hm : V 80 [rP acc,eP q,.rs (1,0) [iN v]] = _ := MS (acc := acc) hp (rs := [v]) (by simp) (Pu hv) hc
 have hl : (zG (-1) q [v] acc).1.length = q.length := by unfold zG; rw [BH]; simp
 rw [Ek,DT hm,PX ⟨hv.1,by rw [hl]; exact hv.2⟩]
 rfl
theorem AZ {c : Cd} (_ : c.list.length <= 400) {m : Mc} {n : Int} {X : Option Ret} (h : X = match zF c n with
  | false => some (iN 7,[eSt c m])
  | true => some (iN 0,[eSt c ⟨m.pool,n,m.s,m.e,m.d,m.state,m.ask,m.arg⟩])) : Fi c X (goM c (.ok m) n) := by
 unfold goM
 cases hp : zF c n with
 | false => rw [hp] at h; exact ⟨by decide,m,h⟩
 | true => rw [hp] at h; exact h
theorem NK {c : Cd} (hf : FitsC c) (hok : yN c = true) {m : Mc} (hr : RunM c m) (hl : m.pool.length <= 3000) {x : In} {k : Nat} (hx : c.list[k]? = some x) : Fi c (V 52 [eSt c m,eIn x]) (D0 c m x) := by
 obtain ⟨c1,c2,c3⟩ := y4 hok
 have cl := ym c1
 have hin := Ee hok hx
 have hat := isPl_iff.1 hr.pl
 have w1 : w6 (m.at' + 1) = m.at' + 1 := w64 (by omega) (by omega)
 rw [EE]
 unfold D0
 by_cases h1 : x.op = 1
 ·have hlit := Mt hin h1
  have f := GL c1 hr.gm.ok hlit (-1)
  obtain ⟨f1,f2,t,f3,f4⟩ := f
  have hlen := congrArg List.length f3
  rw [lnA] at hlen
  have h2 := NF (acc := m.pool) c1 hlit (by omega)
  have h3 := AH (c := c) (m := ⟨(Bg (-1) c.pool x.n m.pool).1,m.at',m.s,m.e,m.d,m.state,m.ask,m.arg⟩) (by show (Bg (-1) c.pool x.n m.pool).1.length < _; omega) (Bg (-1) c.pool x.n m.pool).2
  rw [if_pos h1,wK (xG h1),GC h2,yG h3,w1,yl (Ak c2 _)]
  refine AZ c2 ?_
  cases zF c (m.at' + 1) <;> rfl
 rw [if_neg h1,vQ (xF h1)]
 by_cases h2 : x.op = 2
 ·have hv := Qn hin h2
  have hX := J7 (c := c) (m := m) hr.gm.ok (by omega) hr.gm.e (o := x.n) (i := x.i) (by omega) (by omega) (by omega) (by omega)
  rw [if_pos h2,wK (xG h2)]
  cases e : NR m x.n x.i with
  | ok m' =>
   rw [e] at hX
   rw [AM (Am hX),wK (xG rfl),w1,yl (Ak c2 _)]
   refine AZ c2 ?_
   cases zF c (m.at' + 1) <;> rfl
  | error q =>
   rw [e] at hX
   obtain ⟨q0,m',hx'⟩ := zI hX
   rw [AM hx',vQ (xF q0),w1]
   exact ⟨q0,⟨m'.pool,m.at' + 1,m'.s,m'.e,m'.d,m'.state,m'.ask,m'.arg⟩,rfl⟩
 rw [if_neg h2,vQ (xF h2)]
 by_cases h3 : x.op = 3
 ·have hX := MT hf hok (m := m) (by omega) x.s
  rw [if_pos h3,wK (xG h3)]
  cases e : IV c m x.s with
  | ok m' =>
   rw [e] at hX
   rw [BJ (Am hX),wK (xG rfl),w1,yl (Ak c2 _)]
   refine AZ c2 ?_
   cases zF c (m.at' + 1) <;> rfl
  | error q =>
   rw [e] at hX
   obtain ⟨q0,m',hx'⟩ := zI hX
   rw [BJ hx',vQ (xF q0),w1]
   exact ⟨q0,⟨m'.pool,m.at' + 1,m'.s,m'.e,m'.d,m'.state,m'.ask,m'.arg⟩,rfl⟩
 rw [if_neg h3,vQ (xF h3)]
 by_cases h5 : x.op = 5
 ·rw [if_pos h5,wK (xG h5),yl (Ak c2 _)]
  refine AZ c2 ?_
  cases zF c x.n <;> rfl
 rw [if_neg h5,vQ (xF h5)]
 by_cases h6 : x.op = 6
 ·have hfn := Mr hin h6
  have h7 := AP (p := m.pool) (by omega) (ndF (8 * x.n + x.i) m.e)
  have h8 := AH (c := c) (m := ⟨m.pool ++ [ndF (8 * x.n + x.i) m.e],m.at',m.s,m.e,m.d,m.state,m.ask,m.arg⟩) (by simp; omega) m.pool.length
  rw [if_pos h6,wK (xG h6),w64 (n := 8 * x.n) (by omega) (by omega),w64 (n := 8 * x.n + x.i) (by omega) (by omega),yd h7,yG h8,w1,yl (Ak c2 _)]
  refine AZ c2 ?_
  cases zF c (m.at' + 1) <;> rfl
 rw [if_neg h6,vQ (xF h6)]
 cases ht : CJ m with
 | none =>
  have h1 := Dc (c := c) hr.gm.s ht
  rw [yX h1]
  exact ⟨by decide,m,rfl⟩
 | some q =>
  obtain ⟨v,m1⟩ := q
  have hX := GG (c := c) hr.gm.s ht
  obtain ⟨g1,g2,g3,g4,g5,g6,g7,g8⟩ := CK hr.gm ht
  rw [yX hX,Bool.not_true,wJ,DA g2,w1]
  simp only
  by_cases h4 : x.op = 4
  ·rw [wK (xG h4)]
   by_cases k2 : (nod m1.pool v).kind = 2
   ·rw [wK (xG k2)]
    by_cases k0 : (nod m1.pool v).n = 0
    ·rw [wK (xG k0),if_pos ⟨h4,k2,k0⟩,yl (Ak c2 _)]
     refine AZ c2 ?_
     cases zF c x.n <;> rfl
    ·rw [vQ (xF k0),if_neg (fun h => k0 h.2.2),yl (Ak c2 _)]
     refine AZ c2 ?_
     cases zF c (m.at' + 1) <;> rfl
   ·rw [vQ (xF k2),if_neg (fun h => k2 h.2.1),yl (Ak c2 _)]
    refine AZ c2 ?_
    cases zF c (m.at' + 1) <;> rfl
  ·rw [vQ (xF h4),if_neg (fun h => h4 h.1),yl (Ak c2 _)]
   refine AZ c2 ?_
   cases zF c (m.at' + 1) <;> rfl

theorem QF {m : Mc} (hl : m.pool.length <= 4294967296) (q : Int) : V 53 [eMc m,iN q] = some (oMc (LQ m q),[]) := by
 rw [KU,zt (zJ hl)]
 rfl
theorem QI {c : Cd} (hf : FitsC c) (hok : yN c = true) {m : Mc} (hr : RunM c m) (hl : m.pool.length <= 3000) : V 28 [eCd c,eMc m] = some (oMc (D9 c m),[]) := by
 obtain ⟨c1,c2,c3⟩ := y4 hok
 have cl := ym c1
 obtain ⟨x,hx⟩ := Oz hr
 have hin := Ee hok hx
 have hat := isPl_iff.1 hr.pl
 have hgd : c.list.getD m.at'.toNat ⟨0,0,0,⟨#[]⟩⟩ = x := by rw [List.getD_eq_getElem?_getD,hx]; rfl
 have hfail := fun q => QF (m := m) (by omega) q
 have big : ∀ {m' : Mc},doM c m = .ok m' -> m'.pool.length < 4294967296 := fun e => by
  obtain ⟨g1,⟨t,g2,g3⟩,g4⟩ := LK hok hr e
  have hlen := congrArg List.length g2
  rw [lnA] at hlen
  omega
 rw [Ng,zt (zJ (by omega)),xu (by rw [lnM]; simp only [ni,Bool.and_eq_true,decide_eq_true_eq]; omega),w8 hx,RC]
 have hdo : doM c m = if x.op = 7 then Av c m x.i.toNat else if x.op = 8 then GJ c m else D0 c m x := by unfold doM; rw [hgd]
 unfold D9
 by_cases h7 : x.op = 7
 ·rw [if_pos h7] at hdo
  rw [hdo] at big ⊢
  have hX := Lv c2 hr hl (Kw hin h7)
  rw [wK (xG h7)]
  cases e : Av c m x.i.toNat with
  | ok m' =>
   rw [e] at hX
   have hb := big e
   rw [Bm (Am hX),wK (xG rfl),lnM]
   simp only
   by_cases h3 : m'.pool.length <= 3000
   ·rw [vQ (decide_eq_false (by simp only [ni]; omega)),vQ (xH rfl),if_pos h3]
   ·rw [wK (decide_eq_true (by simp only [ni]; omega)),zY (hfail 6),if_neg h3]
  | error q =>
   rw [e] at hX
   obtain ⟨q0,m',hx'⟩ := zI hX
   rw [Bm hx',vQ (xF q0),wK (xI q0),zY (hfail q)]
 rw [if_neg h7] at hdo
 rw [vQ (xF h7)]
 by_cases h8 : x.op = 8
 ·rw [if_pos h8] at hdo
  rw [hdo] at big ⊢
  have hX := PD c2 hr hl
  rw [wK (xG h8)]
  cases e : GJ c m with
  | ok m' =>
   rw [e] at hX
   have hb := big e
   rw [Dl (Am hX),wK (xG rfl),lnM]
   simp only
   by_cases h3 : m'.pool.length <= 3000
   ·rw [vQ (decide_eq_false (by simp only [ni]; omega)),vQ (xH rfl),if_pos h3]
   ·rw [wK (decide_eq_true (by simp only [ni]; omega)),zY (hfail 6),if_neg h3]
  | error q =>
   rw [e] at hX
   obtain ⟨q0,m',hx'⟩ := zI hX
   rw [Dl hx',vQ (xF q0),wK (xI q0),zY (hfail q)]
 rw [if_neg h8] at hdo
 rw [vQ (xF h8)]
 rw [hdo] at big ⊢
 have hX := NK hf hok hr hl hx
 cases e : D0 c m x with
 | ok m' =>
  rw [e] at hX
  have hb := big e
  rw [CE (Am hX),wK (xG rfl),lnM]
  simp only
  by_cases h3 : m'.pool.length <= 3000
  ·rw [vQ (decide_eq_false (by simp only [ni]; omega)),vQ (xH rfl),if_pos h3]
  ·rw [wK (decide_eq_true (by simp only [ni]; omega)),zY (hfail 6),if_neg h3]
 | error q =>
  rw [e] at hX
  obtain ⟨q0,m',hx'⟩ := zI hX
  rw [CE hx',vQ (xF q0),wK (xI q0),zY (hfail q)]
theorem MO {c : Cd} (hf : FitsC c) {m : Mc} (hm : A8 m.pool) (hl : m.pool.length <= 4294967296) : V 25 [eCd c,eMc m] = some (oMc (Qv c m),[]) := by
 have h1 := CM hf hm (by omega)
 rw [Nb,DV h1]
 unfold Qv
 cases h : z8 c m with
 | false => rw [Bool.not_false,xl,if_neg (by simp)]; rfl
 | true =>
  rw [Bool.not_true,wJ,if_pos rfl]
  by_cases h0 : m.state = 0
  ·obtain ⟨r1,r2,r3⟩ := Jo h h0
   rw [vQ (xH h0),Kt (QI hf r2 r1 r3),if_pos h0]
  ·rw [wK (xI h0),zt (zJ hl),if_neg h0]
theorem QJ {m : Mc} (hf : A8 m.pool) (hl : m.pool.length <= 4294967296) : V 27 [oMc m] = some (oMc (Ap m),[]) := by
 rw [KX,lnM]
 unfold Ap
 by_cases h : m.pool.length <= 2000
 ·rw [vQ (decide_eq_false (by simp only [ni]; omega)),if_pos h]
 ·rw [wK (decide_eq_true (by simp only [ni]; omega)),Pi (MQ hf hl),if_neg h]
theorem GV {c : Cd} (hf : FitsC c) {steps : Int} : ∀ (k : Nat) {m : Mc} (n : Int),z8 c m = true -> 0 <= n -> ((n + k = mnI steps 2000) \/ (k = 0 /\ mnI steps 2000 <= n)) -> n <= 2000 ->
  z4 steps n (c.pool.map eN) (c.list.map eIn) (c.defs.map eDf) m.at' m.s m.e m.d m.state m.ask m.arg 0 0 0 0 0 0 0 (m.pool.map eN) = some (.tup [oMc (yM c k m).1,iN (n + (yM c k m).2)],[])
 | 0,m,n,h,hn,hk,h2 => by
  rw [BF]
  by_cases h0 : m.state = 0
  ·rw [wK (xG h0),vQ (decide_eq_false (by omega))]
   simp [yM]
  ·rw [vQ (xF h0)]
   simp [yM]
 | k + 1,m,n,h,hn,hk,h2 => by
  have mn : mnI steps 2000 <= 2000 := by unfold mnI; split <;> omega
  rw [BF]
  unfold yM
  by_cases h0 : m.state = 0
  ·obtain ⟨r1,r2,r3⟩ := Jo h h0
   have s1 := MF h h0
   obtain ⟨q1,q2,q3,q4⟩ := C7 s1
   have ht := QJ (zP q2) (by omega)
   have t1 : z8 c (Ap (D9 c m)) = true := by
    unfold Ap
    split
    ·exact s1
    ·exact OG s1
   have ih := GV hf (steps := steps) k (m := Ap (D9 c m)) (n + 1) t1 (by omega) (.inl (by omega)) (by omega)
   rw [wK (xG h0),wK (decide_eq_true (by omega)),Kt (QI hf r2 r1 r3),Mq ht,w64 (n := n + 1) (by omega) (by omega),ih,if_pos h0]
   simp only [Int.natCast_add,Int.natCast_one]
   rw [show n + 1 + ((yM c k (Ap (D9 c m))).2 : Int) = n + (((yM c k (Ap (D9 c m))).2 : Int) + 1) by omega]
  ·rw [vQ (xF h0),if_neg h0]
   simp
theorem J5 {c : Cd} (hf : FitsC c) {m : Mc} (hm : A8 m.pool) (hl : m.pool.length <= 4294967296) (steps : Int) : V 11 [eCd c,eMc m,iN steps] = some (.tup [oMc (Qu c m steps).1,iN (Qu c m steps).2],[]) := by
 have h1 := CM hf hm (by omega)
 rw [KT,DV h1]
 unfold Qu
 cases h : z8 c m with
 | false =>
  have h2 := MO hf hm hl
  rw [Bool.not_false,xl,Ph h2,if_neg (by simp)]
  unfold Qv
  rw [if_neg (by simp [h])]
  rfl
 | true =>
  have hlo := GV hf (steps := steps) (mnI steps 2000).toNat 0 h (Int.le_refl _) (by omega) (by omega)
  rw [Bool.not_true,wJ,zt (zJ hl),if_pos rfl]
  simp only [Int.zero_add] at hlo
  exact hlo

end Go.Eng
/-! compiling: the program's side,where nothing comes up -/
namespace Go.Eng
noncomputable section
open Go.Proofs Go.Proofs.Try
set_option maxHeartbeats 4000000

def emI (L : List In) (x : In) : Option (List In) := if L.length < 400 then some (L ++ [x]) else none
def toI (L : List In) (k : Nat) : List In := L.set k ⟨(L.getD k (inO 0)).op,L.length,(L.getD k (inO 0)).i,(L.getD k (inO 0)).s⟩
def QN : List ByteArray -> List ByteArray -> Bool
 | _,[] => true
 | pre,s :: r => !(pre.any fun t => jJ s t) && QN (pre ++ [s]) r
def Qi (p : List Nd) (xs : List Int) : Option (List ByteArray) := if xs.all (nmC p) = true /\ xs.length <= 4 /\ QN [] (xs.map fun x => (nod p x).s) = true then some (xs.map fun x => (nod p x).s) else none
def PE (s : ByteArray) : List (List ByteArray) -> Nat -> Option (Nat × Int)
 | [],_ => none
 | e :: r,n => if 0 <= xb (fun t => jJ s t) e then some (n,xb (fun t => jJ s t) e) else PE s r (n + 1)
section
variable (E : List (List ByteArray) -> Int -> List In -> Option (List In))
def EK (env : List (List ByteArray)) : List Int -> Bool -> List In -> Option (List In)
 | [],_,L => some L
 | x :: r,f,L => (if f = true then some L else emI L (inO 9)).bind fun L1 => (E env x L1).bind fun L2 => EK env r false L2
def O8 (names : List ByteArray) (body : List Int) (env : List (List ByteArray)) (L : List In) : Option (List In) :=
 (emI L ⟨6,(L.length : Int) + 2,names.length,⟨#[]⟩⟩).bind fun L1 => (emI L1 (inO 5)).bind fun L2 => (EK E (names :: env) body true L2).bind fun L3 => (emI L3 (inO 8)).bind fun L4 => some (toI L4 L1.length)
def LT (p : List Nd) (s : ByteArray) (xs : List Int) (env : List (List ByteArray)) (L : List In) : Option (List In) :=
 if jJ s (mk [113,117,111,116,101]) = true then
  if xs.length = 2 then emI L ⟨1,xs.getD 1 0,0,⟨#[]⟩⟩ else none
 else if jJ s (mk [105,102]) = true then
  if xs.length = 4 then
   (E env (xs.getD 1 0) L).bind fun L1 => (emI L1 (inO 4)).bind fun L2 => (E env (xs.getD 2 0) L2).bind fun L3 => (emI L3 (inO 5)).bind fun L4 =>
    (E env (xs.getD 3 0) (toI L4 L1.length)).bind fun L5 => some (toI L5 L3.length)
  else none
 else if jJ s (mk [100,111]) = true then none
 else if jJ s (mk [102,110]) = true then
  if 3 <= xs.length /\ (BX p (xs.getD 1 0)).2 = true then (Qi p (BX p (xs.getD 1 0)).1).bind fun ns => O8 E ns (xs.drop 2) env L else none
 else if jJ s (mk [108,101,116]) = true then
  if 4 <= xs.length then (Qi p [xs.getD 1 0]).bind fun ns => (O8 E ns (xs.drop 3) env L).bind fun L1 => (E env (xs.getD 2 0) L1).bind fun L2 => emI L2 ⟨7,0,1,⟨#[]⟩⟩ else none
 else none
def FJ (env : List (List ByteArray)) : List Int -> List In -> Option (List In)
 | [],L => some L
 | x :: r,L => (E env x L).bind fun L1 => FJ env r L1
end
def EU (p : List Nd) : Nat -> List (List ByteArray) -> Int -> List In -> Option (List In)
 | 0,_,_,_ => none
 | k + 1,env,v,L =>
  let x := nod p v
  if x.kind = 1 \/ x.kind = 2 \/ x.kind = 3 then emI L ⟨1,v,0,⟨#[]⟩⟩
  else if x.kind = 4 then
   if Pq x.s = true then none else match PE x.s env 0 with
    | some (n,i) => emI L ⟨2,n,i,⟨#[]⟩⟩
    | none => emI L ⟨3,0,0,x.s⟩
  else if x.kind = 5 /\ (BX p v).2 = true then
   let xs := (BX p v).1
   let h := nod p (xs.getD 0 0)
   if h.kind = 4 /\ Pq h.s = true then LT (EU p k) p h.s xs env L
   else if xs.length > 5 then none
   else (FJ (EU p k) env xs L).bind fun L1 => emI L1 ⟨7,0,(xs.length : Int) - 1,⟨#[]⟩⟩
  else none
def PR (p : List Nd) (env : List (List ByteArray)) (v : Int) (L : List In) : Option (List In) := EU p (v.toNat + 1) env v L
def PO (p : List Nd) (s : ByteArray) (names : List ByteArray) (body : List Int) (L : List In) (ds : List Df) : Option (List In × List Df) :=
 if (ds.any fun d => jJ d.name s) = true \/ 20 <= ds.length then none else (EK (PR p) [names] body true L).bind fun L1 => (emI L1 (inO 8)).bind fun L2 => some (L2,ds ++ [⟨s,L.length,names.length⟩])
def RJ (p : List Nd) (v : Int) (L : List In) (ds : List Df) : Option (List In × List Df) :=
 let l := BX p v
 if l.2 = true /\ 0 < l.1.length /\ (nod p (l.1.getD 0 0)).kind = 4 /\ jJ (nod p (l.1.getD 0 0)).s (mk [100,101,102,105,110,101]) = true then
  let a := BX p (l.1.getD 1 0)
  if 3 <= l.1.length /\ a.2 = true /\ 0 < a.1.length /\ nmC p (a.1.getD 0 0) = true then
   (Qi p (a.1.drop 1)).bind fun ns => PO p (nod p (a.1.getD 0 0)).s ns (l.1.drop 2) L ds
  else none
 else PO p Mf [] [v] L ds
def IC (p : List Nd) (n : Int) : List Int -> List In -> List Df -> Option Cd
 | [],L,ds => if yN ⟨p,L,ds⟩ = true then some ⟨p,L,ds⟩ else none
 | x :: r,L,ds => (RJ p x L ds).bind fun q => IC p n r q.1 q.2

abbrev eCo (p : List Nd) (L : List In) (ds : List Df) : D := .op [.os (5,0) (p.map eN),.os (4,0) (L.map eIn),.os (3,0) (ds.map eDf),iN 0]
abbrev eEn (env : List (List ByteArray)) : List D := env.reverse.map fun e => D.rs (1,0) (e.map D.str)
theorem Qd (b : ByteArray) : mk b.data.toList = b := by cases b; rfl
theorem Ru {l : List ByteArray} (hl : l.length < 4611686018427387904) (s : ByteArray) : V 87 [.rs (1,0) (l.map D.str),.str s] = some (iN (xb (fun t => jJ s t) l),[]) := by
 have e1 : l.map D.str = (l.map fun b => b.data.toList).map fun x => D.str (mk x) := by
  rw [List.map_map]; exact List.map_congr_left fun b _ => by simp only [Function.comp_apply,Qd]
 have e2 : xb (fun x => jJ s (mk x)) (l.map fun b => b.data.toList) = xb (fun t => jJ s t) l := by
  unfold xb; rw [List.findIdx?_map]; have : (fun x => jJ s (mk x)) ∘ (fun b : ByteArray => b.data.toList) = fun t => jJ s t := by funext b; simp only [Function.comp_apply,Qd]
  rw [this]
 have h := FE (l := l.map fun b => b.data.toList) (by simpa using hl) s l.length 0 (by simp)
 rw [vy,e2,Int.natCast_zero,<- e1,lnM] at h
 rw [zk,lnM]
 exact h
theorem Rt {l : List ByteArray} (hl : l.length < 4611686018427387904) (s : ByteArray) : V 77 [.rs (1,0) (l.map D.str),.str s] = some (.bool (l.any fun t => jJ s t),[]) := by
 rw [Af,yF (Ru hl s),Ef]
theorem Ej (s : ByteArray) : V 62 [.str s] = some (.bool (Pq s),[]) := by
 have h : V 77 [.rs (1,0) [.str ⟨#[113,117,111,116,101]⟩,.str ⟨#[105,102]⟩,.str ⟨#[102,110]⟩,.str ⟨#[100,111]⟩,.str ⟨#[108,101,116]⟩,.str ⟨#[100,101,102,105,110,101]⟩],.str s] = some (.bool ((wrds.map mk).any fun t => jJ s t),[]) := Rt (l := wrds.map mk) (by decide) s
 rw [List.any_map] at h
 rw [JX,y3 h]
 rfl
theorem OL {p : List Nd} (L : List In) (ds : List Df) {v : Int} (hv : InP p v) : V 41 [eCo p L ds,iN v] = some (.tup [.str (nod p v).s,.bool ((nod p v).kind == 4)],[eCo p L ds]) := by
 rw [Du,DA hv]
theorem K7 {L L' : List In} {x : In} (h : emI L x = some L') : L.length < 400 /\ L' = L ++ [x] := by
 unfold emI at h
 split at h
 ·cases h; exact ⟨‹_›,rfl⟩
 ·cases h
theorem Al {p : List Nd} {L L' : List In} (ds : List Df) {x : In} (h : emI L x = some L') : V 65 [eCo p L ds,eIn x] = some (iN L.length,[eCo p L' ds]) := by
 obtain ⟨h1,rfl⟩ := K7 h
 have e : L.map eIn ++ [D.agg [iN x.op,iN x.n,iN x.i,D.str x.s]] = (L ++ [x]).map eIn := by simp
 rw [Fp,e,vQ (xF (by rw [lnM]; simp only [ni]; omega)),vQ (xH rfl),xu (decide_eq_true (by rw [oQ,lnM]; simp only [ni,lnA,lnC,lnN]; omega)),xB,w64 (by rw [lnM]; simp only [ni,lnA,lnC,lnN]; omega) (by rw [lnM]; simp only [ni,lnA,lnC,lnN]; omega)]
 rw [lnM,lnA,lnC,lnN]
 simp [ni]
theorem NG {p : List Nd} {L : List In} (ds : List Df) {k : Nat} (hk : k < L.length) : V 97 [eCo p L ds,iN k] = some (.tup [],[eCo p (toI L k) ds]) := by
 obtain ⟨x,hx⟩ := wt hk
 have hg : L.getD k (inO 0) = x := by rw [List.getD_eq_getElem?_getD,hx]; rfl
 have e : List.set (L.map eIn) k (D.agg (List.take 1 [iN x.op,iN x.n,iN x.i,D.str x.s] ++ [iN (ni (L.map eIn).length)] ++ List.drop 2 [iN x.op,iN x.n,iN x.i,D.str x.s])) = (toI L k).map eIn := by
  unfold toI; rw [hg,List.map_set,lnM]; rfl
 rw [Ew,wK (xG rfl),xu (by rw [lnM]; exact xz hk),Int.toNat_natCast,w8 hx,wq,xB,e]
theorem Ko {p : List Nd} (L : List In) (ds : List Df) {xs : List Int} (hl : xs.length <= 100000) (hx : ∀ x ∈ xs,InP p x) (hn : xs.all (nmC p) = true) : ∀ (k i : Nat),i + k = xs.length ->
  yq (xs.map eI) (ni (xs.map eI).length) (i : Int) 0 ((xs.take i).map fun x => D.str (nod p x).s) (p.map eN) (L.map eIn) (ds.map eDf) = yq (xs.map eI) (ni (xs.map eI).length) (xs.length : Int) 0 (xs.map fun x => D.str (nod p x).s) (p.map eN) (L.map eIn) (ds.map eDf)
 | 0,i,hi => by
  have : i = xs.length := by omega
  subst this
  rw [List.take_of_length_le (Nat.le_refl _)]
 | k + 1,i,hi => by
  obtain ⟨x,hg⟩ := wt (l := xs) (i := i) (by omega)
  have hp := hx x (List.mem_of_getElem? hg)
  have hnx := List.all_eq_true.1 hn x (List.mem_of_getElem? hg)
  unfold nmC at hnx
  rw [Bool.and_eq_true,Bool.not_eq_true'] at hnx
  have et : (xs.take i).map (fun x => D.str (nod p x).s) ++ [D.str (nod p x).s] = (xs.take (i + 1)).map fun x => D.str (nod p x).s := by
   rw [xo hg,List.map_append]; rfl
  have hlim : decide (ni ((xs.take (i + 1)).map fun x => D.str (nod p x).s).length <= LIM) = true := decide_eq_true (by rw [oQ]; simp only [ni,lnM,List.length_take]; omega)
  have hsp := Ej (nod p x).s
  rw [hnx.2] at hsp
  rw [<- Ko L ds hl hx hn k (i + 1) (by omega),zx,wK (by rw [lnM]; exact xA (by omega)),xu (by rw [lnM]; exact xz (by omega)),Int.toNat_natCast,w8 hg,xf,zg (OL L ds hp),hnx.1,Bool.not_true,wJ,AY hsp,wJ,et,xu hlim,xB,xN (by omega)]
theorem Kq {p : List Nd} (L : List In) (ds : List Df) {out : List ByteArray} (hl : out.length <= 100000) : ∀ (k i : Nat),i + k = out.length -> QN (out.take i) (out.drop i) = true ->
  yI (ni (out.map D.str).length) (i : Int) (out.map D.str) 0 (p.map eN) (L.map eIn) (ds.map eDf) = some (.tup [.os (1,0) (out.map D.str),iN 0],[eCo p L ds])
 | 0,i,hi,_ => by
  rw [zo,vQ (by rw [lnM]; exact xt (by omega))]
 | k + 1,i,hi,hd => by
  obtain ⟨s,hs⟩ := wt (l := out) (i := i) (by omega)
  rw [sy hs,QN,Bool.and_eq_true,Bool.not_eq_true'] at hd
  have et : out.take i ++ [s] = out.take (i + 1) := by rw [xo hs]
  have ep : part (out.map D.str) (some (0,Int.toNat (i : Int))) = (out.take i).map D.str := by
   simp only [part,List.drop_zero,Int.toNat_natCast,List.map_take]
  have hh := Rt (l := out.take i) (by simp only [List.length_take]; omega) s
  rw [hd.1] at hh
  rw [zo,wK (by rw [lnM]; exact xA (by omega)),xu (by rw [lnM]; exact xz (by omega)),Int.toNat_natCast,w8 hs,xj,xu (by simp only [cG,lnM,Bool.and_eq_true,decide_eq_true_eq]; omega),<- Int.toNat_natCast i,ep,y3 hh,wJ,Int.toNat_natCast,xN (by omega)]
  exact Kq L ds hl k (i + 1) (by omega) (by rw [<- et]; exact hd.2)
theorem QG {p : List Nd} (L : List In) (ds : List Df) {xs : List Int} {ns : List ByteArray} (hx : ∀ x ∈ xs,InP p x) (h : Qi p xs = some ns) : V 63 [eCo p L ds,.rs (1,0) (xs.map eI)] = some (.tup [.os (1,0) (ns.map D.str),iN 0],[eCo p L ds]) /\ ns.length <= 4 := by
 unfold Qi at h
 split at h
 ·rename_i hc
  obtain ⟨h1,h2,h3⟩ := hc
  cases h
  have a := Ko (p := p) L ds (by omega) hx h1 xs.length 0 (by omega)
  have b := Kq (p := p) L ds (out := xs.map fun x => (nod p x).s) (by rw [lnM]; omega) xs.length 0 (by rw [lnM]; omega) (by rw [List.take_zero,List.drop_zero]; exact h3)
  rw [List.map_map,Int.natCast_zero] at b
  rw [Int.natCast_zero,List.take_zero,List.map_nil] at a
  refine ⟨?_,by rw [lnM]; exact h2⟩
  rw [DC,a,zx,vQ (by rw [lnM]; exact xt (by omega)),vQ (decide_eq_false (by rw [lnM]; simp only [ni]; omega)),List.map_map]
  exact b
 ·cases h
end
end Go.Eng
/-! compiling: the program's side: expressions,definitions,programs -/
namespace Go.Eng
noncomputable section
open Go.Proofs Go.Proofs.Try
set_option maxHeartbeats 4000000

theorem bnd {α β : Type} {x : Option α} {f : α -> Option β} {b : β} (h : x.bind f = some b) : ∃ a,x = some a /\ f a = some b := by
 cases x with
 | none => cases h
 | some a => exact ⟨a,rfl,h⟩
def GH (E : List (List ByteArray) -> Int -> List In -> Option (List In)) : Prop := ∀ env v L L',E env v L = some L' -> L.length <= L'.length
theorem Aw {L L' : List In} {x : In} (h : emI L x = some L') : L.length < L'.length := by
 obtain ⟨_,rfl⟩ := K7 h
 simp
theorem Lr (L : List In) (k : Nat) : (toI L k).length = L.length := by unfold toI; simp
theorem KI {E : List (List ByteArray) -> Int -> List In -> Option (List In)} (hE : GH E) (env : List (List ByteArray)) : ∀ (xs : List Int) (f : Bool) (L L' : List In),EK E env xs f L = some L' -> L.length <= L'.length
 | [],f,L,L',h => by rw [EK] at h; cases h; exact Nat.le_refl _
 | x :: r,f,L,L',h => by
  rw [EK] at h
  obtain ⟨L1,h1,h⟩ := bnd h
  obtain ⟨L2,h2,h⟩ := bnd h
  have a := hE _ _ _ _ h2
  have b := KI hE env r false L2 L' h
  cases f with
  | true => cases h1; omega
  | false => have := Aw h1; omega
theorem NU {E : List (List ByteArray) -> Int -> List In -> Option (List In)} (hE : GH E) (env : List (List ByteArray)) : ∀ (xs : List Int) (L L' : List In),FJ E env xs L = some L' -> L.length <= L'.length
 | [],L,L',h => by rw [FJ] at h; cases h; exact Nat.le_refl _
 | x :: r,L,L',h => by
  rw [FJ] at h
  obtain ⟨L1,h1,h⟩ := bnd h
  have a := hE _ _ _ _ h1
  have b := NU hE env r L1 L' h
  omega
theorem PT {E : List (List ByteArray) -> Int -> List In -> Option (List In)} (hE : GH E) {names : List ByteArray} {body : List Int} {env : List (List ByteArray)} {L L' : List In} (h : O8 E names body env L = some L') : L.length <= L'.length := by
 unfold O8 at h
 obtain ⟨L1,h1,h⟩ := bnd h
 obtain ⟨L2,h2,h⟩ := bnd h
 obtain ⟨L3,h3,h⟩ := bnd h
 obtain ⟨L4,h4,h⟩ := bnd h
 cases h
 have a1 := Aw h1
 have a2 := Aw h2
 have a3 := KI hE _ _ _ _ _ h3
 have a4 := Aw h4
 rw [Lr]; omega
theorem QP {E : List (List ByteArray) -> Int -> List In -> Option (List In)} (hE : GH E) {p : List Nd} {s : ByteArray} {xs : List Int} {env : List (List ByteArray)} {L L' : List In} (h : LT E p s xs env L = some L') : L.length <= L'.length := by
 unfold LT at h
 split at h
 ·split at h
  ·have := Aw h; omega
  ·cases h
 split at h
 ·split at h
  ·obtain ⟨L1,h1,h⟩ := bnd h
   obtain ⟨L2,h2,h⟩ := bnd h
   obtain ⟨L3,h3,h⟩ := bnd h
   obtain ⟨L4,h4,h⟩ := bnd h
   obtain ⟨L5,h5,h⟩ := bnd h
   cases h
   have a1 := hE _ _ _ _ h1
   have a2 := Aw h2
   have a3 := hE _ _ _ _ h3
   have a4 := Aw h4
   have a5 := hE _ _ _ _ h5
   rw [Lr] at a5 ⊢
   omega
  ·cases h
 split at h
 ·cases h
 split at h
 ·split at h
  ·obtain ⟨ns,h1,h⟩ := bnd h
   exact PT hE h
  ·cases h
 split at h
 ·split at h
  ·obtain ⟨ns,h1,h⟩ := bnd h
   obtain ⟨L1,h2,h⟩ := bnd h
   obtain ⟨L2,h3,h⟩ := bnd h
   have a1 := PT hE h2
   have a2 := hE _ _ _ _ h3
   have a3 := Aw h
   omega
  ·cases h
 ·cases h
theorem Ld (p : List Nd) : ∀ k,GH (EU p k)
 | 0 => fun env v L L' h => by rw [EU] at h; cases h
 | k + 1 => fun env v L L' h => by
  rw [EU] at h
  simp only at h
  split at h
  ·have := Aw h; omega
  split at h
  ·split at h
   ·cases h
   ·split at h
    ·have := Aw h; omega
    ·have := Aw h; omega
  split at h
  ·split at h
   ·exact QP (Ld p k) h
   ·split at h
    ·cases h
    ·obtain ⟨L1,h1,h⟩ := bnd h
     have a1 := NU (Ld p k) _ _ _ _ h1
     have a2 := Aw h
     omega
  ·cases h

def EnvJ (env : List (List ByteArray)) (k : Nat) : Prop := env.length + k <= 10000 /\ ∀ e ∈ env,e.length <= 4
def GI (p : List Nd) (ds : List Df) (b : Int) (k : Nat) (E : List (List ByteArray) -> Int -> List In -> Option (List In)) : Prop :=
 ∀ env v L L',InP p v -> v < b -> EnvJ env k -> E env v L = some L' -> V 78 [eCo p L ds,iN v,.rs (1,1) (eEn env)] = some (.tup [],[eCo p L' ds])
theorem Iz {p : List Nd} {ds : List Df} {b : Int} {k0 : Nat} {E : List (List ByteArray) -> Int -> List In -> Option (List In)} (hS : GI p ds b k0 E) {env : List (List ByteArray)} (he : EnvJ env k0) {xs : List Int} (hl : xs.length <= 100000) (hx : ∀ x ∈ xs,InP p x /\ x < b) : ∀ (k i : Nat) (L L' : List In),i + k = xs.length -> EK E env (xs.drop i) (i == 0) L = some L' ->
  yx (eEn env) (xs.map eI) (ni (xs.map eI).length) (i : Int) 0 (p.map eN) (L.map eIn) (ds.map eDf) = some (.tup [],[eCo p L' ds])
 | 0,i,L,L',hi,h => by
  rw [List.drop_of_length_le (by omega),EK] at h
  cases h
  rw [zA,vQ (by rw [lnM]; exact xt (by omega))]
 | k + 1,i,L,L',hi,h => by
  obtain ⟨x,hg⟩ := wt (l := xs) (i := i) (by omega)
  have hp := hx x (List.mem_of_getElem? hg)
  rw [sy hg,EK] at h
  obtain ⟨L1,h1,h⟩ := bnd h
  obtain ⟨L2,h2,h⟩ := bnd h
  have hS2 := hS env x L1 L2 hp.1 hp.2 he h2
  have ih := Iz hS he hl hx k (i + 1) L2 L' (by omega) (by rw [show (i + 1 == 0) = false by simp]; exact h)
  rw [zA,wK (by rw [lnM]; exact xA (by omega)),xu (by rw [lnM]; exact xz (by omega)),Int.toNat_natCast,w8 hg,xf]
  by_cases hi0 : i = 0
  ·subst hi0
   cases h1
   rw [vQ (decide_eq_false (by omega)),yA hS2,xN (by omega)]
   exact ih
  ·have hb : (i == 0) = false := by simpa using hi0
   rw [hb,if_neg (by decide)] at h1
   rw [wK (decide_eq_true (by omega)),xX (Al ds h1),yA hS2,xN (by omega)]
   exact ih
theorem OI {p : List Nd} {ds : List Df} {b : Int} {k0 : Nat} {E : List (List ByteArray) -> Int -> List In -> Option (List In)} (hS : GI p ds b k0 E) {env : List (List ByteArray)} (he : EnvJ env k0) {xs : List Int} (hl : xs.length <= 100000) (hx : ∀ x ∈ xs,InP p x /\ x < b) {L L' : List In} (h : EK E env xs true L = some L') :
  V 64 [eCo p L ds,.rs (1,0) (xs.map eI),.rs (1,1) (eEn env)] = some (.tup [],[eCo p L' ds]) := by
 have := Iz hS he hl hx xs.length 0 L L' (by omega) h
 rw [Eo]
 exact this
theorem Iw {p : List Nd} {ds : List Df} {b : Int} {k0 : Nat} {E : List (List ByteArray) -> Int -> List In -> Option (List In)} (hS : GI p ds b k0 E) {env : List (List ByteArray)} (he : EnvJ env k0) {xs : List Int} (hl : xs.length <= 100000) (hx : ∀ x ∈ xs,InP p x /\ x < b) : ∀ (k i : Nat) (L L1 L' : List In),i + k = xs.length -> FJ E env (xs.drop i) L = some L1 -> emI L1 ⟨7,0,(xs.length : Int) - 1,⟨#[]⟩⟩ = some L' ->
  xW (eEn env) (ni (xs.map eI).length) (i : Int) 0 (xs.map eI) (p.map eN) (L.map eIn) (ds.map eDf) = some (.tup [],[eCo p L' ds])
 | 0,i,L,L1,L',hi,h,h2 => by
  rw [List.drop_of_length_le (by omega),FJ] at h
  cases h
  have h3 := Al (p := p) ds h2
  rw [zw,vQ (by rw [lnM]; exact xt (by omega)),lnM,w64 (by simp only [ni]; omega) (by simp only [ni]; omega)]
  rw [xX h3]
 | k + 1,i,L,L1,L',hi,h,h2 => by
  obtain ⟨x,hg⟩ := wt (l := xs) (i := i) (by omega)
  have hp := hx x (List.mem_of_getElem? hg)
  rw [sy hg,FJ] at h
  obtain ⟨L2,h1,h⟩ := bnd h
  have hS2 := hS env x L L2 hp.1 hp.2 he h1
  have ih := Iw hS he hl hx k (i + 1) L2 L1 L' (by omega) h h2
  rw [zw,wK (by rw [lnM]; exact xA (by omega)),xu (by rw [lnM]; exact xz (by omega)),Int.toNat_natCast,w8 hg,xf,yA hS2,xN (by omega)]
  exact ih
theorem QO {env : List (List ByteArray)} {n : Nat} {e : List ByteArray} (h : env[n]? = some e) : (eEn env)[env.length - 1 - n]? = some (D.rs (1,0) (e.map D.str)) := by
 have hn := aQ h
 rw [List.getElem?_map,List.getElem?_reverse (by omega),show env.length - 1 - (env.length - 1 - n) = n by omega,h]
 rfl
theorem FP (env : List (List ByteArray)) : (eEn env).length = env.length := by simp
theorem KG {p : List Nd} {ds : List Df} {env : List (List ByteArray)} (he : env.length <= 10000) (h4 : ∀ e ∈ env,e.length <= 4) {s : ByteArray} {L L' : List In} : ∀ (k n : Nat),n + k = env.length -> (match PE s (env.drop n) n with | some (a,i) => emI L ⟨2,a,i,⟨#[]⟩⟩ | none => emI L ⟨3,0,0,s⟩) = some L' ->
  yu s (eEn env) ((env.length : Int) - 1 - n) 0 (p.map eN) (L.map eIn) (ds.map eDf) = some (.tup [],[eCo p L' ds])
 | 0,n,hn,h => by
  rw [List.drop_of_length_le (by omega),PE] at h
  rw [zh,vQ (decide_eq_false (by omega)),xX (Al ds h)]
 | k + 1,n,hn,h => by
  obtain ⟨e,hg⟩ := wt (l := env) (i := n) (by omega)
  have hx := QO hg
  have ht : ((env.length : Int) - 1 - n).toNat = env.length - 1 - n := by omega
  have hi := Ru (l := e) (by have := h4 e (List.mem_of_getElem? hg); omega) s
  rw [sy hg,PE] at h
  rw [zh,wK (decide_eq_true (by omega)),xu (by rw [FP]; simp only [ni,Bool.and_eq_true,decide_eq_true_eq]; omega),ht]
  unfold cz
  rw [hx]
  simp only
  rw [xi,yF hi]
  by_cases h0 : 0 <= xb (fun t => jJ s t) e
  ·rw [if_pos h0] at h
   have h3 := Al (p := p) ds h
   rw [wK (decide_eq_true h0),FP,w64 (n := ni env.length - 1) (by simp only [ni]; omega) (by simp only [ni]; omega),w64 (by simp only [ni]; omega) (by simp only [ni]; omega),show ni env.length - 1 - ((env.length : Int) - 1 - n) = (n : Int) by simp only [ni]; omega,xX h3]
  ·rw [if_neg h0] at h
   rw [vQ (decide_eq_false h0),w64 (by omega) (by omega),show (env.length : Int) - 1 - n - 1 = (env.length : Int) - 1 - ((n + 1 : Nat) : Int) by omega]
   exact KG he h4 k (n + 1) (by omega) h
theorem NN {p : List Nd} {ds : List Df} {env : List (List ByteArray)} {k : Nat} (he : EnvJ env k) {s : ByteArray} (hs : Pq s = false) {L L' : List In} (h : (match PE s env 0 with | some (a,i) => emI L ⟨2,a,i,⟨#[]⟩⟩ | none => emI L ⟨3,0,0,s⟩) = some L') :
  V 88 [eCo p L ds,.str s,.rs (1,1) (eEn env)] = some (.tup [],[eCo p L' ds]) := by
 have h1 := Ej s
 rw [hs] at h1
 have h2 := KG (p := p) (ds := ds) (by have := he.1; omega) he.2 env.length 0 (by omega) h
 rw [Cn,AY h1,wJ,FP,w64 (by simp only [ni]; omega) (by have := he.1; simp only [ni]; omega)]
 rw [show (env.length : Int) - 1 - ((0 : Nat) : Int) = ni env.length - 1 by simp only [ni]; omega] at h2
 exact h2
theorem Q9 {env : List (List ByteArray)} {k : Nat} (he : EnvJ env k) : V 98 [.rs (1,1) (eEn env)] = some (.os (1,1) (eEn env),[]) := by
 rw [AR,List.nil_append,xu (decide_eq_true (by have := he.1; rw [oQ,FP]; simp only [ni]; omega)),xB]
 exact vX _ _
theorem JF {p : List Nd} {ds : List Df} {b : Int} {k0 : Nat} {E : List (List ByteArray) -> Int -> List In -> Option (List In)} (hE : GH E) (hS : GI p ds b k0 E) {env : List (List ByteArray)} (he : EnvJ env (k0 + 1)) {names : List ByteArray} (hn : names.length <= 4) {xs : List Int} (hl : xs.length <= 100000) (hx : ∀ x ∈ xs,InP p x /\ x < b) {L L' : List In} (h : O8 E names xs env L = some L') :
  V 95 [eCo p L ds,.rs (1,0) (names.map D.str),.rs (1,0) (xs.map eI),.rs (1,1) (eEn env)] = some (.tup [],[eCo p L' ds]) := by
 unfold O8 at h
 obtain ⟨L1,h1,h⟩ := bnd h
 obtain ⟨L2,h2,h⟩ := bnd h
 obtain ⟨L3,h3,h⟩ := bnd h
 obtain ⟨L4,h4,h⟩ := bnd h
 cases h
 have g1 := (K7 h1).1
 have a1 := Aw h1
 have a2 := Aw h2
 have a3 := KI hE _ _ _ _ _ h3
 have a4 := Aw h4
 have b1 := Al (p := p) ds h1
 have e1 : w6 (ni (L.map eIn).length + 2) = (L.length : Int) + 2 := by rw [lnM]; exact w64 (by simp only [ni]; omega) (by simp only [ni]; omega)
 have e2 : ni (names.map D.str).length = (names.length : Int) := by rw [lnM]
 have e3 : eEn env ++ [D.rs (1,0) (names.map D.str)] = eEn (names :: env) := by simp
 have he2 : EnvJ (names :: env) k0 := ⟨by have := he.1; simp; omega,fun e h => by rcases List.mem_cons.1 h with rfl | h; exact hn; exact he.2 e h⟩
 have b3 := OI hS he2 hl hx h3
 rw [Cm,e1,e2,xX b1,xX (Al ds h2),AC (Q9 he),e3,xu (decide_eq_true (by have := he2.1; rw [oQ,FP]; simp only [ni]; omega)),xB,Cx b3,xX (Al ds h4),Ai (NG ds (L := L4) (k := L1.length) (by omega))]
theorem QB {p : List Nd} {ds : List Df} {b : Int} {k0 : Nat} {E : List (List ByteArray) -> Int -> List In -> Option (List In)} (hE : GH E) (hS : GI p ds b k0 E) {env : List (List ByteArray)} (he : EnvJ env k0) {w x y z : Int} (hx : InP p x /\ x < b) (hy : InP p y /\ y < b) (hz : InP p z /\ z < b) {L L1 L2 L3 L4 L5 : List In}
  (h1 : E env x L = some L1) (h2 : emI L1 (inO 4) = some L2) (h3 : E env y L2 = some L3) (h4 : emI L3 (inO 5) = some L4) (h5 : E env z (toI L4 L1.length) = some L5) :
  V 94 [eCo p L ds,.rs (1,0) ([w,x,y,z].map eI),.rs (1,1) (eEn env)] = some (.tup [],[eCo p (toI L5 L3.length) ds]) := by
 have a2 := Aw h2
 have a3 := hE _ _ _ _ h3
 have a4 := Aw h4
 have a5 := hE _ _ _ _ h5
 rw [Lr] at a5
 rw [Dr,CX,yA (hS _ _ _ _ hx.1 hx.2 he h1),xX (Al ds h2),Lf,yA (hS _ _ _ _ hy.1 hy.2 he h3),xX (Al ds h4),Ai (NG ds (L := L4) (k := L1.length) (by omega)),PW,yA (hS _ _ _ _ hz.1 hz.2 he h5),Ai (NG ds (L := L5) (k := L3.length) (by omega))]
theorem EnvJ.less {env : List (List ByteArray)} {k : Nat} (h : EnvJ env (k + 1)) : EnvJ env k := ⟨by have := h.1; omega,h.2⟩
theorem MZ (l : List Int) (k : Nat) (K : Int) (hK : K.toNat = k) : vi (l.map eI) K = (l.drop k).map eI := by
 unfold vi; rw [hK,<- List.map_drop]
theorem Rb {p : List Nd} (hp : yb p) (hpl : p.length <= 5000) {ds : List Df} {b : Int} {k0 : Nat} {E : List (List ByteArray) -> Int -> List In -> Option (List In)} (hE : GH E) (hS : GI p ds b k0 E) {env : List (List ByteArray)} (he : EnvJ env (k0 + 1)) {s : ByteArray} {xs : List Int} (hl : xs.length <= 100000) (hx : ∀ x ∈ xs,InP p x /\ x < b) {L L' : List In} (h : LT E p s xs env L = some L') :
  V 89 [eCo p L ds,.str s,.rs (1,0) (xs.map eI),.rs (1,1) (eEn env)] = some (.tup [],[eCo p L' ds]) := by
 have kill : ∀ {x : List UInt8} {y : Bool},jJ s (mk x) = y -> jJ s ⟨⟨x⟩⟩ = y := fun h => h
 unfold LT at h
 by_cases hq : jJ s (mk [113,117,111,116,101]) = true
 ·rw [if_pos hq] at h
  split at h
  ·rename_i h2
   obtain ⟨a,c,rfl⟩ : ∃ a c,xs = [a,c] := by
    match xs,h2 with
    | [a,c],_ => exact ⟨a,c,rfl⟩
   have h : emI L ⟨1,c,0,⟨#[]⟩⟩ = some L' := h
   rw [y7,wK (kill hq),wK (by rfl),CX,xX (Al ds h)]
  ·cases h
 rw [if_neg hq] at h
 have hq := eq_false_of_ne_true hq
 by_cases hif : jJ s (mk [105,102]) = true
 ·rw [if_pos hif] at h
  split at h
  ·rename_i h4
   obtain ⟨w,x,y,z,rfl⟩ : ∃ w x y z,xs = [w,x,y,z] := by
    match xs,h4 with
    | [w,x,y,z],_ => exact ⟨w,x,y,z,rfl⟩
   obtain ⟨L1,h1,h⟩ := bnd h
   obtain ⟨L2,h2,h⟩ := bnd h
   obtain ⟨L3,h3,h⟩ := bnd h
   obtain ⟨L4,h4,h⟩ := bnd h
   obtain ⟨L5,h5,h⟩ := bnd h
   cases h
   have hb := QB hE hS he.less (w := w) (hx x (by simp)) (hx y (by simp)) (hx z (by simp)) h1 h2 h3 h4 h5
   rw [y7,vQ (kill hq),wK (kill hif),wK (by rfl),FG hb]
  ·cases h
 rw [if_neg hif] at h
 have hif := eq_false_of_ne_true hif
 by_cases hdo : jJ s (mk [100,111]) = true
 ·rw [if_pos hdo] at h; cases h
 rw [if_neg hdo] at h
 have hdo := eq_false_of_ne_true hdo
 by_cases hfn : jJ s (mk [102,110]) = true
 ·rw [if_pos hfn] at h
  split at h
  ·rename_i h3
   obtain ⟨h3,h2⟩ := h3
   obtain ⟨ns,h1,h6⟩ := bnd h
   obtain ⟨w,x,r,rfl⟩ : ∃ w x r,xs = w :: x :: r := by
    match xs,h3 with
    | w :: x :: r,_ => exact ⟨w,x,r,rfl⟩
    | [_],h => simp at h
    | [],h => simp at h
   have hx1 := (hx x (by simp)).1
   have b1 := CN hp (by omega) hx1
   simp only [List.getD_cons_succ,List.getD_cons_zero] at h1 h2
   rw [h2] at b1
   obtain ⟨b2,b3⟩ := QG L ds (CY hp hx1) h1
   have b4 := JF hE hS he b3 (xs := (w :: x :: r).drop 2) (by rw [List.length_drop]; omega) (fun x h => hx x (List.mem_of_mem_drop h)) h6
   rw [y7,vQ (kill hq),vQ (kill hif),vQ (kill hdo),wK (kill hfn),wK (decide_eq_true (by rw [lnM]; simp only [ni]; omega)),CX,za b1,Bool.not_true,wJ,z7 b2,vQ (xH rfl),xu (by simp only [cG,lnM,Bool.and_eq_true,decide_eq_true_eq]; omega),MZ _ 2 2 rfl,Az b4]
  ·cases h
 rw [if_neg hfn] at h
 have hfn := eq_false_of_ne_true hfn
 by_cases hlt : jJ s (mk [108,101,116]) = true
 ·rw [if_pos hlt] at h
  split at h
  ·rename_i h4
   obtain ⟨ns,h1,h⟩ := bnd h
   obtain ⟨L1,h2,h⟩ := bnd h
   obtain ⟨L2,h3,h6⟩ := bnd h
   obtain ⟨w,x,y,r,rfl⟩ : ∃ w x y r,xs = w :: x :: y :: r := by
    match xs,h4 with
    | w :: x :: y :: r,_ => exact ⟨w,x,y,r,rfl⟩
    | [_,_],h => simp at h
    | [_],h => simp at h
    | [],h => simp at h
   simp only [List.getD_cons_succ,List.getD_cons_zero] at h1 h3
   obtain ⟨b2,b3⟩ := QG (p := p) L ds (xs := [x]) (fun u h => by rw [List.mem_singleton.1 h]; exact (hx x (by simp)).1) h1
   have b4 := JF hE hS he b3 (xs := (w :: x :: y :: r).drop 3) (by rw [List.length_drop]; omega) (fun x h => hx x (List.mem_of_mem_drop h)) h2
   have hy := hx y (by simp)
   have ec : vi (vh ((w :: x :: y :: r).map eI) 2) 1 = [x].map eI := rfl
   rw [y7,vQ (kill hq),vQ (kill hif),vQ (kill hdo),vQ (kill hfn),wK (kill hlt),wK (decide_eq_true (by rw [lnM]; simp only [ni]; omega)),xu (by simp only [cG,lnM,lnC,Bool.and_eq_true,decide_eq_true_eq]; omega),ec,z7 b2,vQ (xH rfl),xu (by simp only [cG,lnM,Bool.and_eq_true,decide_eq_true_eq]; omega),MZ _ 3 3 rfl,Az b4,Lf,yA (hS _ _ _ _ hy.1 hy.2 he.less h3),xX (Al ds h6)]
  ·cases h
 rw [if_neg hlt] at h
 cases h
end
end Go.Eng
/-! a step of a machine: the reference's side: the stack,the frames,calls -/
namespace Go.Eng
open Go.Proofs Go.Proofs.Try
set_option maxHeartbeats 4000000

end Go.Eng
/-! compiling: the reference's side -/
namespace Go.Eng
open Go.Proofs Go.Proofs.Try
set_option maxHeartbeats 4000000

structure Le (m m' : Ms) : Prop where
 len : m.list.length <= m'.list.length
 four : m'.list.length <= 400
 how : m'.how = 0 -> m.how = 0
 defs : m'.defs = m.defs
theorem Le.refl {m : Ms} (h : m.list.length <= 400) : Le m m := ⟨Nat.le_refl _,h,id,rfl⟩
theorem Le.trans {a b c : Ms} (h : Le a b) (h2 : Le b c) : Le a c := ⟨Nat.le_trans h.len h2.len,h2.four,fun x => h.how (h2.how x),h2.defs.trans h.defs⟩
end Go.Eng
/-! compiling: the reference's side: expressions -/
namespace Go.Eng
open Go.Proofs Go.Proofs.Try
set_option maxHeartbeats 4000000

theorem Oe {p : List Nd} (hp : yb p) : ∀ (k : Nat) (v : Int),InP p v -> ∀ x ∈ (EH p k v).1,x < v
 | 0,v,hv,x,hx => by simp [EH] at hx
 | k + 1,v,hv,x,hx => by
  unfold EH at hx
  split at hx
  ·rename_i h5
   have := yL (DR hp hv) h5
   rcases List.mem_cons.1 hx with rfl | hx
   ·omega
   ·have := Oe hp k _ (GR hp hv h5) x hx; omega
  ·simp at hx
theorem QT {p : List Nd} (hp : yb p) {v : Int} (hv : InP p v) : ∀ x ∈ (BX p v).1,x < v := Oe hp _ v hv
theorem Me {p : List Nd} (v : Int) : (BX p v).1.length <= v.toNat + 1 := Md _ _
section
variable {p : List Nd} {k : Nat} {E : List (List ByteArray) -> Int -> Ms -> Ms}
end
theorem QU {p : List Nd} {v : Int} (h : (nod p v).kind = 5) : (BX p v).1 ≠ [] := by
 unfold BX EH
 rw [if_pos h]
 simp
end Go.Eng
/-! compiling: the program's side: every expression; programs -/
namespace Go.Eng
open Go.Proofs Go.Proofs.Try
set_option maxHeartbeats 4000000

theorem OJ {p : List Nd} (hp : yb p) (hpl : p.length <= 5000) (ds : List Df) : ∀ k : Nat,k <= 5000 -> GI p ds k k (EU p k)
 | 0,_ => fun env v L L' hv hlt he h => by rw [EU] at h; cases h
 | k + 1,hk => fun env v L L' hv hlt he h => by
  have ih := OJ hp hpl ds k (by omega)
  have hG := Ld p k
  rw [EU] at h
  simp only at h
  rw [Eu,vQ (xH rfl),DA hv]
  by_cases k123 : (nod p v).kind = 1 \/ (nod p v).kind = 2 \/ (nod p v).kind = 3
  ·rw [if_pos k123] at h
   have b := Al (p := p) ds h
   rcases k123 with k1 | k1 | k1
   ·rw [vQ (xF (by omega)),vQ (xF (by omega)),wK (xG k1),xX b]
   ·rw [wK (xG k1),wK (xG k1),xX b]
   ·rw [vQ (xF (by omega)),wK (xG k1),wK (xG k1),xX b]
  rw [if_neg k123] at h
  have k1 : (nod p v).kind ≠ 1 := fun h => k123 (.inl h)
  have k2 : (nod p v).kind ≠ 2 := fun h => k123 (.inr (.inl h))
  have k3 : (nod p v).kind ≠ 3 := fun h => k123 (.inr (.inr h))
  rw [vQ (xF k2),vQ (xF k3),vQ (xF k1)]
  by_cases k4 : (nod p v).kind = 4
  ·rw [if_pos k4] at h
   split at h
   ·cases h
   ·rename_i hr
    rw [wK (xG k4),DU (NN he (eq_false_of_ne_true hr) h)]
  rw [if_neg k4] at h
  rw [vQ (xF k4)]
  split at h
  ·rename_i h5
   obtain ⟨k5,hb⟩ := h5
   have b1 := CN hp (by omega) hv
   have ll := Me (p := p) v
   have hne := QU k5
   have hin := CY hp hv
   have hlt2 := QT hp hv
   rw [hb] at b1
   rw [wK (xG k5),za b1,Bool.not_true,wJ]
   generalize hxs : (BX p v).1 = xs at ll hne hin hlt2 h ⊢
   have hx : ∀ x ∈ xs,InP p x /\ x < (k : Int) := fun x h => ⟨hin x h,by have := hlt2 x h; omega⟩
   obtain ⟨a,r,rfl⟩ : ∃ a r,xs = a :: r := by
    cases xs with
    | nil => exact absurd rfl hne
    | cons a r => exact ⟨a,r,rfl⟩
   have ha := hin a (by simp)
   have hl : (a :: r).length <= 100000 := by have := hv.2; omega
   simp only [List.getD_cons_zero] at h
   rw [zq,zg (OL L ds ha)]
   have fin : (a :: r).length <= 5 -> ∀ L1,FJ (EU p k) env (a :: r) L = some L1 -> emI L1 ⟨7,0,((a :: r).length : Int) - 1,⟨#[]⟩⟩ = some L' -> br (decide (w6 (ni ((a :: r).map eI).length - 1) > 4)) (iy V 61 [eCo p L ds,iN 1] fun x_1 l_1 => il x_1 fun l => unn l (unc l_1 fun x1 l1 => tk3 x1 fun l5 l8 l11 n14 => (unn l1 (some (.tup [],[.op [.os (5,0) l5,.os (4,0) l8,.os (3,0) l11,iN n14]]))))) (xW (eEn env) (ni ((a :: r).map eI).length) 0 0 ((a :: r).map eI) (p.map eN) (L.map eIn) (ds.map eDf)) = some (.tup [],[eCo p L' ds]) := fun h5 L1 h1 h2 => by
    have w : w6 (ni ((a :: r).map eI).length - 1) = ((a :: r).length : Int) - 1 := by rw [lnM]; exact w64 (by simp only [ni]; omega) (by simp only [ni]; omega)
    have hlo := Iw ih he.less hl hx (a :: r).length 0 L L1 L' (by omega) h1 h2
    rw [w,vQ (decide_eq_false (by omega))]
    exact hlo
   by_cases h4 : (nod p a).kind = 4
   ·rw [xG h4,xl,AY (Ej _)]
    cases hr : Pq (nod p a).s with
    | true =>
     rw [if_pos ⟨h4,hr⟩] at h
     have b := Rb hp hpl hG ih he hl hx h
     rw [xl,GD b]
    | false =>
     rw [if_neg (fun q => by rw [hr] at q; exact absurd q.2 (by decide))] at h
     split at h
     ·cases h
     ·rename_i h5
      obtain ⟨L1,h1,h2⟩ := bnd h
      rw [wJ]
      exact fin (by omega) L1 h1 h2
   ·rw [if_neg (fun q => h4 q.1)] at h
    rw [xF h4,wJ]
    split at h
    ·cases h
    ·rename_i h5
     obtain ⟨L1,h1,h2⟩ := bnd h
     exact fin (by omega) L1 h1 h2
  ·cases h
theorem RT {p : List Nd} (hp : yb p) (hpl : p.length <= 4000) (ds : List Df) : GI p ds p.length 5000 (PR p) := fun env v L L' hv hlt he h => by
 unfold PR at h
 exact OJ hp (by omega) ds (v.toNat + 1) (by have := hv.2; omega) env v L L' hv (by have := hv.1; omega) ⟨by have := he.1; have := hv.2; omega,he.2⟩ h
theorem QE {p : List Nd} {L : List In} {ds : List Df} (hd : ds.length <= 20) (s : ByteArray) : V 23 [.agg [.rs (5,0) (p.map eN),.rs (4,0) (L.map eIn),.rs (3,0) (ds.map eDf)],.str s] = some (iN (xb (fun d : Df => jJ d.name s) ds),[]) := by
 have h := BV (l := ds) (by omega) s ds.length 0 (Nat.zero_add _)
 rw [vy,Int.natCast_zero] at h
 have h2 : V 46 [.rs (3,0) (ds.map eDf),.fn 47 [.bp [.str s]]] = some (iN (xb (fun d : Df => jJ d.name s) ds),[]) := by
  rw [Ck]; exact h
 rw [GN,zO h2]
theorem QD {p : List Nd} (hp : yb p) (hpl : p.length <= 4000) {s : ByteArray} {names : List ByteArray} (hn : names.length <= 4) {body : List Int} (hbl : body.length <= 100000) (hb : ∀ x ∈ body,InP p x) {L : List In} {ds : List Df} {r : List In × List Df} (h : PO p s names body L ds = some r) :
  V 43 [eCo p L ds,.str s,.rs (1,0) (names.map D.str),.rs (1,0) (body.map eI)] = some (.tup [],[eCo p r.1 r.2]) /\ r.2.length <= 20 := by
 unfold PO at h
 split at h
 ·cases h
 ·rename_i hc
  have hany : (ds.any fun d => jJ d.name s) = false := eq_false_of_ne_true fun e => hc (.inl e)
  have hd : ds.length < 20 := Nat.lt_of_not_le fun e => hc (.inr e)
  obtain ⟨L1,h1,h⟩ := bnd h
  obtain ⟨L2,h2,h⟩ := bnd h
  cases h
  have e1 := QE (p := p) (L := L) (ds := ds) (by omega) s
  have e2 : ds.map eDf ++ [D.agg [D.str s,iN (ni (L.map eIn).length),iN (ni (names.map D.str).length)]] = (ds ++ [(⟨s,L.length,names.length⟩ : Df)]).map eDf := by
   rw [List.map_append,lnM,lnM]; rfl
  have e3 : V 64 [eCo p L (ds ++ [(⟨s,L.length,names.length⟩ : Df)]),.rs (1,0) (body.map eI),.rs (1,1) [.rs (1,0) (names.map D.str)]] = _ := OI (RT hp hpl (ds ++ [(⟨s,L.length,names.length⟩ : Df)])) (env := [names]) ⟨by simp,fun e he => by rw [List.mem_singleton.1 he]; exact hn⟩ hbl (fun x h => ⟨hb x h,(hb x h).2⟩) h1
  have e4 := Al (p := p) (ds ++ [(⟨s,L.length,names.length⟩ : Df)]) h2
  refine ⟨?_,by simp; omega⟩
  rw [Dt,Jh e1,Ef,hany,wJ,e2,xu (decide_eq_true (by rw [oQ,lnM]; simp only [ni,lnA,lnC,lnN]; omega)),xB]
  rw [Cx e3,xX e4]
theorem RL {p : List Nd} (hp : yb p) (hpl : p.length <= 4000) {v : Int} (hv : InP p v) {L : List In} {ds : List Df} {res : List In × List Df} (h : RJ p v L ds = some res) :
  V 21 [eCo p L ds,iN v] = some (.tup [],[eCo p res.1 res.2]) /\ (ds.length <= 20 -> res.2.length <= 20) := by
 have b1 := CN hp (by omega) hv
 have dm : PO p Mf [] [v] L ds = some res -> V 43 [eCo p L ds,.str ⟨#[109,97,105,110]⟩,.rs (1,0) [],.rs (1,0) [iN v]] = some (.tup [],[eCo p res.1 res.2]) /\ res.2.length <= 20 := fun h => QD hp hpl (names := []) (by simp) (body := [v]) (by simp) (fun x h => by rw [List.mem_singleton.1 h]; exact hv) h
 unfold RJ at h
 simp only at h
 rw [Fq,za b1]
 have hin := CY hp hv
 have ll := Me (p := p) v
 generalize (BX p v).1 = xs at h hin ll ⊢
 cases hb : (BX p v).2 with
 | false =>
  rw [hb,if_neg (fun q => absurd q.1 (by decide))] at h
  obtain ⟨g1,g2⟩ := dm h
  rw [wJ,yQ g1]
  exact ⟨rfl,fun _ => g2⟩
 | true =>
  rw [hb] at h
  rw [xl]
  match xs,h,hin,ll with
  | [],h,hin,ll =>
   rw [if_neg (fun q => absurd q.2.1 (by simp))] at h
   obtain ⟨g1,g2⟩ := dm h
   rw [vQ (by rfl),yQ g1]
   exact ⟨rfl,fun _ => g2⟩
  | a :: r',h,hin,ll =>
   have ha := hin a (by simp)
   simp only [List.getD_cons_zero] at h
   rw [wK (decide_eq_true (by rw [lnM]; simp only [ni,lnC]; omega)),zq,zg (OL L ds ha)]
   by_cases h4 : (nod p a).kind = 4
   ·rw [xG h4,xl]
    by_cases hs : jJ (nod p a).s (mk [100,101,102,105,110,101]) = true
    ·have hs' : jJ (nod p a).s ⟨#[100,101,102,105,110,101]⟩ = true := hs
     rw [if_pos ⟨trivial,by simp,h4,hs⟩] at h
     rw [hs',xl]
     split at h
     ·rename_i hc
      obtain ⟨c1,c2,c3,c4⟩ := hc
      obtain ⟨ns,h1,h⟩ := bnd h
      obtain ⟨b,c,r,rfl⟩ : ∃ b c r'',r' = b :: c :: r'' := by
       match r',c1 with
       | b :: c :: r',_ => exact ⟨b,c,r',rfl⟩
       | [],h => simp at h
       | [_],h => simp at h
      simp only [List.getD_cons_succ,List.getD_cons_zero] at c2 c3 c4 h1 h
      have hb1 := hin b (by simp)
      have b2 := CN hp (by omega) hb1
      have i2 := CY hp hb1
      rw [c2] at b2
      generalize (BX p b).1 = ys at b2 c3 c4 i2 h1 h
      obtain ⟨f,q,rfl⟩ : ∃ f q,ys = f :: q := by
       cases ys with
       | nil => simp at c3
       | cons f q => exact ⟨f,q,rfl⟩
      have hf := i2 f (by simp)
      simp only [List.getD_cons_zero] at c4 h
      unfold nmC at c4
      rw [Bool.and_eq_true,Bool.not_eq_true'] at c4
      have hsp := Ej (nod p f).s
      rw [c4.2] at hsp
      obtain ⟨g1,g2⟩ := QG L ds (xs := (f :: q).drop 1) (fun x h => i2 x (List.mem_of_mem_drop h)) h1
      obtain ⟨g3,g4⟩ := QD hp hpl g2 (body := (a :: b :: c :: r).drop 2) (by have := hv.2; rw [List.length_drop]; omega) (fun x h => hin x (List.mem_of_mem_drop h)) h
      have ep : part ((f :: q).map eI) (some (Int.toNat 1,((f :: q).map eI).length - Int.toNat 1)) = ((f :: q).drop 1).map eI := by
       simp only [part,List.map_cons,List.drop_succ_cons,List.drop_zero,Int.toNat_one]
       exact List.take_of_length_le (by simp)
      have hdef : V 42 [eCo p L ds,.rs (1,0) ((a :: b :: c :: r).map eI)] = some (.tup [],[eCo p res.1 res.2]) := by
       rw [Bv,vQ (decide_eq_false (by rw [lnM]; simp only [ni,lnC]; omega)),CX,za b2,Bool.not_true,wJ,vQ (xF (by rw [lnM]; simp only [ni,lnC]; omega)),zq,zg (OL L ds hf),c4.1,Bool.not_true,wJ,AY hsp,wJ,xu (by simp only [cG,lnM,lnC,Bool.and_eq_true,decide_eq_true_eq]; omega),ep,z7 g1,vQ (xH rfl),xu (by simp only [cG,lnM,lnC,Bool.and_eq_true,decide_eq_true_eq]; omega),MZ _ 2 2 rfl,yQ g3]
      rw [C5 hdef]
      exact ⟨rfl,fun _ => g4⟩
     ·cases h
    ·have hs' : jJ (nod p a).s ⟨#[100,101,102,105,110,101]⟩ = false := eq_false_of_ne_true hs
     rw [if_neg (fun q => hs q.2.2.2)] at h
     obtain ⟨g1,g2⟩ := dm h
     rw [hs',wJ,yQ g1]
     exact ⟨rfl,fun _ => g2⟩
   ·rw [if_neg (fun q => h4 q.2.2.1)] at h
    obtain ⟨g1,g2⟩ := dm h
    rw [xF h4,wJ,yQ g1]
    exact ⟨rfl,fun _ => g2⟩
noncomputable def Ki (c : Cd) : Bool := c.list.all (fun x => decide (x.s.size <= 1000000)) && c.defs.all (fun x => decide (x.name.size <= 1000000))
theorem Kc {p : List Nd} (hpo : xR p = true) (hpl : p.length <= 3000) {xs : List Int} (hxl : xs.length <= 100000) (hx : ∀ x ∈ xs,InP p x) {c : Cd} (hfc : Ki c = true) : ∀ (k i : Nat) (L : List In) (ds : List Df),i + k = xs.length -> ds.length <= 20 -> IC p xs.length (xs.drop i) L ds = some c ->
  yH (xs.map eI) (xs.map eI) (ni (xs.map eI).length) (i : Int) 0 (p.map eN) (L.map eIn) (ds.map eDf) = some (.tup [oCd c,iN 0,iN xs.length],[])
 | 0,i,L,ds,hi,hd,h => by
  rw [List.drop_of_length_le (by omega),IC] at h
  split at h
  ·rename_i hok
   cases h
   have hp : yb p := (okPool_iff.1 hpo).1
   unfold Ki at hfc
   simp only [Bool.and_eq_true,List.all_eq_true,decide_eq_true_eq] at hfc
   have hc := Cg (c := ⟨p,L,ds⟩) ⟨zP hp,by show p.length < _; omega,fun x h => by have := hfc.1 x h; omega,by have := (y4 hok).2.1; show L.length < _; simp only at this; omega,fun x h => by have := hfc.2 x h; omega,by show ds.length < _; omega⟩
   rw [hok] at hc
   rw [zm,vQ (by rw [lnM]; exact xt (by omega)),Mj hc,Bool.not_true,wJ,lnM]
  ·cases h
 | k + 1,i,L,ds,hi,hd,h => by
  have hp : yb p := (okPool_iff.1 hpo).1
  obtain ⟨x,hg⟩ := wt (l := xs) (i := i) (by omega)
  rw [sy hg,IC] at h
  obtain ⟨q,h1,h⟩ := bnd h
  obtain ⟨g1,g2⟩ := RL hp (by omega) (hx x (List.mem_of_getElem? hg)) h1
  have ih := Kc hpo hpl hxl hx hfc k (i + 1) q.1 q.2 (by omega) (g2 hd) h
  rw [zm,wK (by rw [lnM]; exact xA (by omega)),xu (by rw [lnM]; exact xz (by omega)),Int.toNat_natCast,w8 hg,xf,Ik g1,vQ (xF (by decide)),vQ (xF (by decide)),vQ (xF (by decide)),xN (by omega)]
  exact ih
theorem IE {p : List Nd} (hl : p.length < 4611686018427387904) {l : List Int} (h2 : l.length < 4611686018427387904) : ∀ (k i : Nat),i + k = l.length -> yZ (l.map eI) (p.map eN) (ni (l.map eI).length) (i : Int) = some (iN (dw (fun r => !wi r 0 ((p.length : Int) - 1)) l i),[])
 | 0,i,hi => by
  rw [zU,vQ (by rw [lnM]; exact xt (by omega)),vN (by omega)]
 | k + 1,i,hi => by
  obtain ⟨x,hx⟩ := wt (l := l) (i := i) (by omega)
  have ih := IE hl h2 k (i + 1) (by omega)
  have hr : V 19 [iN x,.bp [.rs (5,0) (p.map eN)]] = some (.bool (!wi x 0 ((p.length : Int) - 1)),[]) := by
   rw [M8,BI (zd hl x)]
  rw [zU,wK (by rw [lnM]; exact xA (by omega)),xu (by rw [lnM]; exact xz (by omega)),Int.toNat_natCast,w8 hx,xf,Jg hr]
  cases h : (!wi x 0 ((p.length : Int) - 1)) with
  | true => rw [xl,vO hx h]
  | false => rw [wJ,xN (by omega),ih,vx hx h]
theorem MI {p : List Nd} (hl : p.length < 4611686018427387904) {l : List Int} (h2 : l.length < 4611686018427387904) (hx : yh p l = true) : V 18 [.rs (1,0) (l.map eI),.fn 19 [.bp [.rs (5,0) (p.map eN)]]] = some (.bool false,[]) := by
 have h : V 38 [.rs (1,0) (l.map eI),.fn 19 [.bp [.rs (5,0) (p.map eN)]]] = some (iN (xb (fun r => !wi r 0 ((p.length : Int) - 1)) l),[]) := by
  rw [Fk,<- vy]
  exact IE hl h2 l.length 0 (Nat.zero_add _)
 rw [Dp,zl h,Ef]
 congr 3
 unfold yh at hx
 rw [List.any_eq_false]
 intro x hm
 have := List.all_eq_true.1 hx x hm
 rw [this]; decide
theorem JG {p : List Nd} (hpo : xR p = true) {xs : List Int} (hxl : xs.length <= 100000) (hx : yh p xs = true) {c : Cd} (h : IC p xs.length xs [] [] = some c) (hfc : Ki c = true) (hne : xs ≠ []) :
  V 9 [eP p,.rs (1,0) (xs.map eI)] = some (.tup [oCd c,iN 0,iN xs.length],[]) := by
 have hpl := ym hpo
 have hp : yb p := (okPool_iff.1 hpo).1
 have hxi : ∀ x ∈ xs,InP p x := fun x h => by
  have := List.all_eq_true.1 hx x h
  have := wi_iff.1 this
  exact ⟨this.1,by omega⟩
 obtain ⟨x,r,rfl⟩ : ∃ x r,xs = x :: r := by
  cases xs with
  | nil => exact absurd rfl hne
  | cons x r => exact ⟨x,r,rfl⟩
 have hlo := Kc hpo hpl hxl hxi hfc (x :: r).length 0 [] [] (by omega) (by simp) h
 rw [JP,AA (yk (zP hp) (by omega)),hpo,Bool.not_true,wJ,zb (MI (by omega) (by omega) hx),wJ,zH (JE (by omega))]
 rw [zm] at hlo
 rw [Fh]
 exact hlo
end Go.Eng
/-! the functions as the interpreter has them -/
/-! marks,equality,sizes and copies of nodes and numbers -/
namespace Go.Eng
open Go.Proofs Go.Proofs.Try
set_option maxHeartbeats 4000000

end Go.Eng
/-! sizes,copies and equality of what a law's arguments hold -/
namespace Go.Eng
open Go.Proofs Go.Proofs.Try
set_option maxHeartbeats 4000000

end Go.Eng
/-! a law's arguments: pools,code,machines,processes -/
namespace Go.Eng
open Go.Proofs Go.Proofs.Try
set_option maxHeartbeats 4000000
set_option maxRecDepth 100000

end Go.Eng
/-! machines as bytes,on both sides -/
namespace Go.Eng
open Go.Proofs Go.Proofs.Try
set_option maxHeartbeats 4000000

end Go.Eng
/-! nodes of bytes,on both sides -/
namespace Go.Eng
open Go.Proofs Go.Proofs.Try
set_option maxHeartbeats 4000000

section
variable {b : List UInt8} (hb : b.length < 4611686018427387904)
include hb
end
end Go.Eng
/-! nodes of bytes: the reference's side,and what both come to -/
namespace Go.Eng
open Go.Proofs Go.Proofs.Try
set_option maxHeartbeats 4000000

end Go.Eng
/-! a value read of bytes: both sides come to the same -/
namespace Go.Eng
open Go.Proofs Go.Proofs.Try
set_option maxHeartbeats 4000000

end Go.Eng
/-! a value read of bytes: both sides come to the same -/
namespace Go.Eng
open Go.Proofs Go.Proofs.Try
set_option maxHeartbeats 4000000

end Go.Eng
/-! processes: when they are right,on both sides -/
namespace Go.Eng
open Go.Proofs Go.Proofs.Try
set_option maxHeartbeats 4000000

structure Pr where
 pid : Int
 m : Mc
 box : List ByteArray
 out : List ByteArray
structure FitsR (p : Pr) : Prop where
 pool : A8 p.m.pool
 plen : p.m.pool.length <= 4294967296
 box : ∀ x ∈ p.box,x.size < 4294967296
 blen : p.box.length < 4294967296
 out : ∀ x ∈ p.out,x.size < 4294967296
 olen : p.out.length < 4294967296
end Go.Eng
/-! new machines and processes,on both sides -/
namespace Go.Eng
noncomputable section
open Go.Proofs Go.Proofs.Try
set_option maxHeartbeats 4000000

theorem NB {α : Type} (p : α -> Bool) (l : List α) : -1 <= xb p l /\ xb p l < l.length := by
 unfold xb
 cases h : l.findIdx? p with
 | none => simp only; omega
 | some k =>
  rw [List.findIdx?_eq_some_iff_getElem] at h
  obtain ⟨hk,_⟩ := h
  simp only; omega
def zMc : Mc := ⟨[],0,0,0,0,0,0,0⟩
def RN (d : Df) : Mc := ⟨[⟨1,0,⟨#[]⟩,0,0⟩,⟨5,0,⟨#[]⟩,0,0⟩],d.at',0,1,0,0,0,0⟩
def QW (c : Cd) (s : ByteArray) : Option Mc := if yN c = true /\ 0 <= Bh c s then
  (match c.defs[(Bh c s).toNat]? with | some d => if d.args = 0 then some (RN d) else none | none => none) else none
def R9 (r : Option Mc) : D := match r with | some m => .tup [oMc m,.bool true] | none => .tup [oMc zMc,.bool false]
theorem Gp {c : Cd} (hf : FitsC c) (s : ByteArray) : V 10 [eCd c,.str s] = some (R9 (QW c s),[]) := by
 have hd := Db hf s
 have hc := Cg hf
 have hb := NB (fun d : Df => jJ d.name s) c.defs
 rw [Gw]
 unfold QW
 cases e1 : yN c with
 | false => rw [e1] at hc; rw [if_neg (by simp)]; simp (disch := first | omega | (simp only [lnA,lnC,lnN,lnM,xP,vJ]; omega)) only [↓vK,vZ,↓xl,↓xp,↓xf,↓wH,Bool.not_false,hd,hc]; rfl
 | true =>
  rw [e1] at hc
  by_cases e2 : 0 <= Bh c s
  ·rw [if_pos ⟨rfl,e2⟩]
   obtain ⟨k,hk⟩ := Int.eq_ofNat_of_zero_le e2
   have hkl : k < c.defs.length := by unfold Bh at hk; omega
   obtain ⟨d,hx⟩ := wt hkl
   rw [hk] at hd ⊢
   rw [Int.toNat_natCast,hx]
   by_cases e3 : d.args = 0
   ·simp only [e3,if_true]
    simp (disch := first | omega | (simp only [lnA,lnC,lnN,lnM,xP,vJ]; omega)) only [↓vK,vZ,↓wJ,↓wW,↓xp,↓xf,↓wH,↓wq,↓ww,↓wx,ww,wx,↓w9,xK,xJ,xH,Bool.and_true,Bool.not_true,lnM,vJ,hd,hc,↓w8 hx]
    rfl
   ·simp only [e3,if_false]
    simp (disch := first | omega | (simp only [lnA,lnC,lnN,lnM,xP,vJ]; omega)) only [↓vK,vZ,↓xl,↓wJ,↓wW,↓xp,↓xf,↓wH,↓wq,↓wx,wx,↓w9,xK,xJ,xI,Bool.and_true,Bool.not_true,lnM,vJ,hd,hc,↓w8 hx]
    rfl
  ·rw [if_neg (fun h => e2 h.2)]
   simp (disch := first | omega | (simp only [lnA,lnC,lnN,lnM,xP,vJ]; omega)) only [↓vK,vZ,↓xl,↓wJ,↓xp,↓xf,↓wH,xK,Bool.not_true,hd,hc]
   rfl
end
end Go.Eng
/-! programs that are read,compiled and run,plain and with their calls -/
namespace Go.Eng
noncomputable section
open Go.Proofs Go.Proofs.Try
set_option maxHeartbeats 4000000

def tS (w : List UInt8) : Tk := .wd w ⟨4,0,mk w,0,0⟩
theorem NC {c : Cd} {m : Mc} (h : m.state ≠ 0) : ∀ k,yM c k m = (m,0)
 | 0 => rfl
 | k + 1 => by rw [yM,if_neg h]
theorem O6 : A8 [] := fun x h => by simp at h
theorem Jw {c : Cd} : ∀ (k : Nat) (m : Mc) (e : Nat),(yM c k m).1.state ≠ 0 -> yM c (k + e) m = yM c k m
 | 0,m,e,h => by
  rw [yM] at h ⊢
  rw [Nat.zero_add,NC h]
 | k + 1,m,e,h => by
  rw [yM] at h
  rw [show k + 1 + e = (k + e) + 1 by omega,yM,yM]
  by_cases h0 : m.state = 0
  ·rw [if_pos h0] at h
   rw [if_pos h0,if_pos h0,Jw k _ e h]
  ·rw [if_neg h0,if_neg h0]
theorem QH {c : Cd} (hf : FitsC c) {m : Mc} {k : Nat} (hok : z8 c m = true) (hs : (yM c k m).1.state ≠ 0) {steps : Int} (h1 : (k : Int) <= steps) (h2 : k <= 2000) : V 11 [eCd c,eMc m,iN steps] = some (.tup [oMc (yM c k m).1,iN (yM c k m).2],[]) := by
 obtain ⟨r1,r2,r3,_⟩ := C7 hok
 have hv := J5 hf (zP r2) (by omega) steps
 have hm : k <= (mnI steps 2000).toNat := by unfold mnI; split <;> omega
 have hr : Qu c m steps = yM c k m := by
  unfold Qu
  rw [if_pos hok,show (mnI steps 2000).toNat = k + ((mnI steps 2000).toNat - k) by omega,Jw k m _ hs]
 rw [hr] at hv
 exact hv
theorem Jx {c : Cd} : ∀ (k : Nat) {m : Mc},z8 c m = true -> z8 c (yM c k m).1 = true
 | 0,m,h => h
 | k + 1,m,h => by
  rw [yM]
  by_cases h0 : m.state = 0
  ·rw [if_pos h0]
   refine Jx k ?_
   have s1 := MF h h0
   unfold Ap
   split
   ·exact s1
   ·exact OG s1
  ·rw [if_neg h0]; exact h
structure Prog1 (ts : List Tk) (q : List Nd) (rs : List Int) (c : Cd) (m : Mc) : Prop where
 ok : OkT ts
 len : (yO ts).length <= 400
 read : rdT ts [] [] [] = some (q,rs)
 few : rs ≠ [] /\ rs.length <= 1000
 pool : xR q = true
 root : yh q rs = true
 comp : IC q rs.length rs [] [] = some c
 fits : Ki c = true
 new : QW c Mf = some m
 mok : z8 c m = true
section
variable {ts : List Tk} {q : List Nd} {rs : List Int} {c : Cd} {m : Mc}
theorem Lq (h : Prog1 ts q rs c m) : FitsC c := by
 obtain ⟨r1,r2,r3,_⟩ := C7 h.mok
 obtain ⟨c1,c2,c3⟩ := y4 r1
 have hl := ym c1
 have hfc := h.fits
 unfold Ki at hfc
 simp only [Bool.and_eq_true,List.all_eq_true,decide_eq_true_eq] at hfc
 exact ⟨zP (okPool_iff.1 c1).1,by omega,fun x h => by have := hfc.1 x h; omega,by omega,fun x h => by have := hfc.2 x h; omega,by omega⟩
theorem Ot (h : Prog1 ts q rs c m) : V 8 [.agg [.rs (5,0) []],.str (mk (yO ts))] = some (.tup [oP q,.os (1,0) (rs.map eI),iN 0,iN ((yO ts).length : Int)],[]) := by
 have h1 : V 8 [.agg [.rs (5,0) []],.str (mk (yO ts))] = _ := MJ O6 (by simp) (yO ts)
 rw [Pn h.ok (by decide) h.len h.read,if_pos h.pool] at h1
 exact h1
theorem Oq (h : Prog1 ts q rs c m) : V 9 [eP q,.rs (1,0) (rs.map eI)] = some (.tup [oCd c,iN 0,iN rs.length],[]) :=
 JG h.pool (by have := h.few.2; omega) h.root h.comp h.fits h.few.1
theorem Qr (h : Prog1 ts q rs c m) : V 10 [eCd c,.str ⟨#[109,97,105,110]⟩] = some (.tup [oMc m,.bool true],[]) := by
 have h1 : V 10 [eCd c,.str ⟨#[109,97,105,110]⟩] = _ := Gp (Lq h) Mf
 rw [h.new] at h1
 exact h1
end
theorem PG {p : List Nd} (hp : xR p = true) {v : Int} (hv : InP p v) {n : Int} (hn : nod p v = ndI n) (h : n.natAbs <= 1000000000) : LD p v = Bu n := by
 have hx : p[v.toNat]? = some (ndI n) := by
  have : v.toNat < p.length := by have := hv.1; have := hv.2; omega
  rw [List.getElem?_eq_getElem this]
  have e : nod p v = p[v.toNat] := by unfold nod; rw [List.getD_eq_getElem?_getD,List.getElem?_eq_getElem this]; rfl
  rw [<- e,hn]
 have hw : wr p (2 * v.toNat + 1) false v.toNat [] = Bu n := by
  rw [wr,if_neg (by simp),hx]
  rfl
 have hl := Fj h
 unfold LD
 rw [if_pos ⟨hp,wi_iff.2 ⟨hv.1,by have := hv.2; omega⟩⟩,hw,if_neg (by omega)]
theorem GZ {p : List Nd} (hp : xR p = true) {v : Int} (hv : InP p v) {n : Int} (hn : nod p v = ndI n) (h : n.natAbs <= 1000000000) : V 13 [eP p,iN v] = some (.str (mk (Bu n)),[]) := by
 have hl := ym hp
 have h1 := Lt (zP (okPool_iff.1 hp).1) (by omega) v
 rw [PG hp hv hn h] at h1
 exact h1

theorem Lj {x y : Nd} (h : AU x y = true) : x = y := by
 unfold AU at h
 simp only [Bool.and_eq_true,beq_iff_eq] at h
 obtain ⟨h1,h2,h3,h4,h5⟩ := h
 rw [AF] at h3
 have h3 := of_decide_eq_true h3
 cases x; cases y
 simp only at h1 h2 h3 h4 h5
 rw [h1,h2,h3,h4,h5]
theorem GW (s : ByteArray) : jJ s s = true := by rw [AF]; simp
def tL (w : List UInt8) (n : Int) : Tk := .wd w (ndI n)
def Rm (n : Int) (p : List Nd) (v : Int) (k : Nat) : Bool := AU (nod p v) (ndI n) && decide (5 < k)
def okW (w : List UInt8) (n : Nd) : Bool := (!w.isEmpty && w.all Aa) && (match BM w with | some m => AU m n | none => false)
theorem CH {w : List UInt8} {n : Nd} {r : List Tk} (h : okW w n = true) (hn : RF r = true) (hr : OkT r) : OkT (.wd w n :: r) := by
 unfold okW at h
 rw [Bool.and_eq_true,Bool.and_eq_true] at h
 obtain ⟨⟨h1,h2⟩,h3⟩ := h
 refine ⟨⟨?_,h2,?_⟩,hn,hr⟩
 ·rintro rfl; simp at h1
 ·cases e : BM w with
  | none => rw [e] at h3; cases h3
  | some m => rw [e] at h3; rw [Lj h3]
def KM (ts : List Tk) (k : Nat) (F : List Nd -> Int -> Nat -> Bool) : Bool :=
 match rdT ts [] [] [] with
 | some (q,rs) => xR q && (yh q rs && ((!rs.isEmpty && decide (rs.length <= 1000)) && (match IC q rs.length rs [] [] with
  | some c => Ki c && (match QW c Mf with
   | some m => z8 c m && (decide ((yM c k m).1.state = 2) && F (yM c k m).1.pool (yM c k m).1.arg (yM c k m).2)
   | none => false)
  | none => false)))
 | none => false
theorem NW {ts : List Tk} {k : Nat} {F : List Nd -> Int -> Nat -> Bool} (ho : OkT ts) (hl : (yO ts).length <= 400) (h : KM ts k F = true) : ∃ q rs c m,Prog1 ts q rs c m /\ (yM c k m).1.state = 2 /\ F (yM c k m).1.pool (yM c k m).1.arg (yM c k m).2 = true := by
 unfold KM at h
 split at h
 ·rename_i q rs hr
  simp only [Bool.and_eq_true] at h
  obtain ⟨h1,h2,⟨h6,h7⟩,h3⟩ := h
  split at h3
  ·rename_i c hc
   simp only [Bool.and_eq_true] at h3
   obtain ⟨h3,h4⟩ := h3
   split at h4
   ·rename_i m hm
    simp only [Bool.and_eq_true] at h4
    obtain ⟨h4,h5,h8⟩ := h4
    exact ⟨q,rs,c,m,⟨ho,hl,hr,⟨by rintro rfl; simp at h6,of_decide_eq_true h7⟩,h1,h2,hc,h3,hm,h4⟩,of_decide_eq_true h5,h8⟩
   ·cases h4
  ·cases h3
 ·cases h
theorem Qq {c : Cd} {m : Mc} (h : z8 c m = true) (hs : m.state = 2) : xR m.pool = true /\ InP m.pool m.arg /\ InP m.pool m.arg := by
 obtain ⟨q1,q2,_⟩ := Jn h
 have hm : m.arg ∈ yp m := by unfold yp holds; rw [if_pos (by simp [hs])]; simp
 have := wi_iff.1 (List.all_eq_true.1 q2 _ hm)
 exact ⟨q1,⟨this.1,by omega⟩,⟨this.1,by omega⟩⟩
end
end Go.Eng
/-! what is drawn: the cursor -/
namespace Go.Eng
open Go.Proofs Go.Proofs.Try

noncomputable def eB (x : Int) : D := .int .u8 x
section
variable {b : List Int} {c : Int × Int}
end
theorem RX (b : List Int) : V 7 [.rs (1,0) (b.map eB)] = some (.bool (decide ((b.length : Int) > 1048576)),[]) := by
 rw [O5,lnM]
end Go.Eng
/-! a draw's bytes,for the laws that look at them -/
namespace Go.Eng
open Go.Proofs Go.Proofs.Try
set_option maxHeartbeats 4000000

set_option maxRecDepth 100000 in
theorem OT {x : D} (h : ShapeV prog 22 x) : ∃ b : List Int,x = .rs (1,0) (b.map eB) /\ b.length < 4611686018427387904 /\ ∀ n ∈ b,0 <= n /\ n <= 255 := by
 obtain ⟨ys,hs,rfl⟩ := h
 obtain ⟨bs,rfl,h1,h2⟩ := hs.slice Try.underlying22 (show zOf prog 5 = some (1,0) by kernel_rfl)
 obtain ⟨l,rfl,hl⟩ := ru (enc := eB) (p := fun n : Int => 0 <= n /\ n <= 255) (ys := bs) (fun x hx => by
  obtain ⟨ps,hs,rfl⟩ := h2 x hx
  obtain ⟨n,rfl,hw⟩ := hs.int Try.underlying5
  exact ⟨n,rl Try.underlying5,wf8 hw⟩)
 have hby : prog.bytesOf 5 = 1 := by kernel_rfl
 have hr : reachBytes = 140737488351232 := rfl
 rw [hby,lnM] at h1
 exact ⟨l,by rw [vj Try.underlying22],by omega,hl⟩
theorem RV {b : List Int} (hb : b.length < 4611686018427387000) (h8 : ∀ n ∈ b,0 <= n /\ n <= 255) {i : Int} (h0 : 0 <= i) (h1 : i < 1000) : ∃ v : Int,V 12 [.rs (1,0) (b.map eB),iN i] = some (iN v,[]) /\ 0 <= v /\ v <= 255 := by
 rw [PQ,lnM]
 by_cases h : i < (b.length : Int)
 ·obtain ⟨x,hx⟩ := wt (l := b) (i := i.toNat) (by omega)
  obtain ⟨x0,x1⟩ := h8 x (List.mem_of_getElem? hx)
  refine ⟨x,?_,x0,x1⟩
  rw [wK (decide_eq_true h),xu (by simp only [ni,Bool.and_eq_true,decide_eq_true_eq]; omega),w8 hx]
  show (asI .u8 (D.int .u8 x) fun n1 => some (iN (w6 n1),([] : List D))) = _
  rw [xf,w64 (by omega) (by omega)]
 ·refine ⟨Int.tmod (w6 (w6 (i * 7) + ni b.length)) 256,?_,?_⟩
  ·rw [vQ (decide_eq_false h),xu (by decide)]
  ·rw [w64 (n := i * 7) (by omega) (by omega),w64 (n := i * 7 + ni b.length) (by simp only [ni]; omega) (by simp only [ni]; omega)]
   have : 0 <= i * 7 + ni b.length := by simp only [ni]; omega
   rw [Int.tmod_eq_emod_of_nonneg this]
   omega
end Go.Eng
/-! what is caught: the law -/
namespace Go.Eng
noncomputable section
open Go.Proofs Go.Proofs.Try
set_option maxHeartbeats 4000000

def Rk : List Tk := [.op,tS [43],.sp,tL [49] 1,.sp,.op,tS [99,97,108,108,99,99],.sp,.op,tS [102,110],.sp,.op,tS [107],.cl,.sp,.op,tS [43],.sp,tL [49,48,48] 100,.sp,.op,tS [107],.sp,tL [55] 7,.cl,.cl,.cl,.cl,.cl]
def Rl : List Tk := [.op,tS [99,97,108,108,99,99],.sp,.op,tS [102,110],.sp,.op,tS [107],.cl,.sp,tL [53] 5,.cl,.cl]
def PZ (n : Int) (p : List Nd) (v : Int) (k : Nat) : Bool := AU (nod p v) (ndI n) && decide (3 < k)
theorem PM : OkT Rk := CH (by decide +kernel) rfl (CH (by decide +kernel) rfl (CH (by decide +kernel) rfl (CH (by decide +kernel) rfl (CH (by decide +kernel) rfl (CH (by decide +kernel) rfl (CH (by decide +kernel) rfl (CH (by decide +kernel) rfl (CH (by decide +kernel) rfl (True.intro)))))))))
theorem PN : OkT Rl := CH (by decide +kernel) rfl (CH (by decide +kernel) rfl (CH (by decide +kernel) rfl (CH (by decide +kernel) rfl (True.intro))))
theorem OX : KM Rk 20 (Rm 8) = true := by decide +kernel
theorem OZ : KM Rl 20 (PZ 5) = true := by decide +kernel
set_option maxRecDepth 100000 in
theorem Nt {b : List Int} (hb : b.length < 4611686018427387904) (h8 : ∀ n ∈ b,0 <= n /\ n <= 255) : V 3 [.rs (1,0) (b.map eB)] = some (.bool true,[]) := by
 obtain ⟨q,r,c,m,hp,hs,hF⟩ := NW PM (by decide) OX
 obtain ⟨q2,r2,c2,m2,hp2,hs2,hF2⟩ := NW PN (by decide) OZ
 have k1 : V 8 [.agg [.rs (5,0) []],.str ⟨#[40,43,32,49,32,40,99,97,108,108,99,99,32,40,102,110,32,40,107,41,32,40,43,32,49,48,48,32,40,107,32,55,41,41,41,41,41]⟩] = _ := Ot hp
 have k2 := Oq hp
 have k3 := Qr hp
 have j1 : V 8 [.agg [.rs (5,0) []],.str ⟨#[40,99,97,108,108,99,99,32,40,102,110,32,40,107,41,32,53,41,41]⟩] = _ := Ot hp2
 have j2 := Oq hp2
 have j3 := Qr hp2
 have hok := Jx 20 hp.mok
 unfold Rm at hF
 unfold PZ at hF2
 rw [Bool.and_eq_true] at hF hF2
 have hj := of_decide_eq_true hF.2
 have hj2 := of_decide_eq_true hF2.2
 have hok2 := Jx 20 hp2.mok
 obtain ⟨o1,o2,_⟩ := Qq hok hs
 obtain ⟨o3,o4,_⟩ := Qq hok2 hs2
 have w1 := GZ o1 o2 (Lj hF.1) (by decide)
 have w2 := GZ o3 o4 (Lj hF2.1) (by decide)
 have d1 : Bu 8 = [56] := by unfold Bu; rw [if_neg (by decide)]; exact Ae (by decide)
 have d2 : Bu 5 = [53] := by unfold Bu; rw [if_neg (by decide)]; exact Ae (by decide)
 rw [d1] at w1
 rw [d2] at w2
 rw [KZ,Qm (RX b)]
 cases hbig : decide ((b.length : Int) > 1048576) with
 | true => rfl
 | false =>
  have hbig := of_decide_eq_false hbig
  obtain ⟨v,hv,v0,v1⟩ := RV (b := b) (by omega) h8 (i := 1) (by omega) (by omega)
  have k4 := QH (Lq hp) hp.mok (k := 20) (by omega) (steps := 200 + v) (by omega) (by omega)
  have j4 := QH (Lq hp2) hp2.mok (k := 20) (by omega) (steps := 200) (by omega) (by omega)
  rw [wJ,Kr k1,Gf k2,Dg k3,QZ hv,w64 (n := 200 + v) (by omega) (by omega),GU k4,Kr j1,Gf j2,Dg j3,GU j4]
  rw [wK (by decide),wK (by decide),xl,xl,wK (decide_eq_true (by omega)),wK (decide_eq_true (by omega)),wK (xG hs),wK (xG hs2),Jj w1,wK (show jJ (mk [56]) ⟨#[56]⟩ = true from GW _),Jj w2]
  rw [show jJ (mk [53]) ⟨#[53]⟩ = true from GW _]
theorem LI (xs : List D) (h : All2 (fun t x => ShapeV Try.prog t x) Try.f3.params.toList xs) : V 3 xs = some (.bool true,[]) := by
 rw [Try.params3] at h
 cases h with | cons h1 h =>
 cases h
 obtain ⟨b,rfl,hb,h8⟩ := OT h1
 exact Nt hb h8
end
end Go.Eng
