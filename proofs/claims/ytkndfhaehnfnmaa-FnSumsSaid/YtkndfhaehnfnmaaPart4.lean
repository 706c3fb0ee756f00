/- the program and the reference on plain data, part 4 -/
import Derived.Test.YtkndfhaehnfnmaaPart3
import Derived.Test.YtkndfhaehnfnmaaPart1
import Derived.Test.YtkndfhaehnfnmaaPart2
import Derived.Test.YtkndfhaehnfnmaaEngC
/-! a step of a machine: the program's side: calls -/
namespace Go.Eng
open Go.Proofs Go.Proofs.Try
set_option maxHeartbeats 4000000

theorem Tu {R : Type} (x : Df) (K : ByteArray -> Int -> Int -> Option R) : Qg (eDf x) (fun n4 n7 n10 => (K n4 n7 n10)) = K x.name x.at' x.args := rfl
theorem Ju {α : Type} {f : α -> D} {l : List α} {k : Int} (h : (l.length : Int) = k) : ni (l.map f).length = k := by rw [lnM]; exact h
theorem QK {α : Type} {f : α -> D} {l : List α} {k : Int} (h : ¬ (l.length : Int) = k) : ¬ ni (l.map f).length = k := by rw [lnM]; exact h
theorem Az {c : Cd} (hc : c.list.length <= 400) (n : Int) : V 48 [eCd c,iN n] = some (.bool (zK c n),[]) := K7 (by omega) n
theorem Nw {c : Cd} (hf : FitsC c) (hc : yv c = true) {m : Mc} (hl : m.pool.length < 4294967200) (s : ByteArray) : FG c (V 74 [eSt c m,.str s]) (Jh c m s) := by
 have hd := Dv hf s
 have c2 := (y8 hc).2.1
 rw [DZ,Jz hd]
 unfold Jh
 by_cases h0 : 0 <= AI c s
 ·obtain ⟨d,hg⟩ := KF h0
  have hok := KU hc hg
  unfold PQ at hok
  simp only [Bool.and_eq_true] at hok
  have a1 := wi_iff.1 hok.2.2.1
  have a2 := wi_iff.1 hok.2.2.2
  have hlt := aQ hg
  have h1 := Bd (p := m.pool) (by omega) ndN
  have h2 := Bd (p := m.pool ++ [ndN]) (by simp; omega) (ndF (8 * d.at' + d.args) m.pool.length)
  have h3 := AY (c := c) (m := ⟨m.pool ++ [ndN] ++ [ndF (8 * d.at' + d.args) m.pool.length],m.at',m.s,m.e,m.d,m.state,m.ask,m.arg⟩) (by simp; omega) (m.pool.length + 1)
  have e1 : w6 (w6 (8 * d.at') + d.args) = 8 * d.at' + d.args := by rw [w64 (n := 8 * d.at') (by omega) (by omega),w64 (by omega) (by omega)]
  have e2 : ((m.pool ++ [ndN]).length : Int) = m.pool.length + 1 := by simp
  rw [e2] at h2
  rw [if_pos h0,wK (decide_eq_true h0),xu (by rw [lnM]; simp only [ni,Bool.and_eq_true,decide_eq_true_eq]; omega),w8 hg,Tu]
  simp only [List.getD_eq_getElem?_getD,hg,Option.getD_some]
  show _ = _
  rw [yg h1,e1,yg h2,yL h3]
 ·rw [if_neg h0,vQ (decide_eq_false h0)]
  have hp := Ku s
  have hb := Gc s
  rw [MQ hp]
  by_cases hz : A8 s = 0
  ·rw [if_pos hz,wK (xG hz)]
   exact ⟨by decide,m,rfl⟩
  ·have h1 := Bd (p := m.pool) (by omega) (ndR (A8 s))
   have h3 := AY (c := c) (m := ⟨m.pool ++ [ndR (A8 s)],m.at',m.s,m.e,m.d,m.state,m.ask,m.arg⟩) (by simp; omega) m.pool.length
   rw [if_neg hz,vQ (xF hz),yg h1,yL h3]
   rfl
theorem OD {c : Cd} (hc : c.list.length <= 400) {m : Mc} (hl : m.pool.length < 4294967200) (ha : zK c m.at' = true) {f : Nd} (hf : 0 <= f.n /\ f.n <= 1000000000) {l : List Int} (_ : l.length <= 10) : FG c (V 81 [eSt c m,eN f,.rs (1,0) (l.map eI)]) (D3 c m f l) := by
 have hpl := isPl_iff.1 ha
 have t1 : Int.tmod f.n 8 = f.n % 8 := Int.tmod_eq_emod_of_nonneg hf.1
 have t2 : Int.tdiv f.n 8 = f.n / 8 := Int.tdiv_eq_ediv_of_nonneg hf.1
 rw [Fg,xu (by decide),t1,t2]
 unfold D3
 by_cases h1 : f.n % 8 = (l.length : Int)
 ·rw [if_neg (by omega),vQ (xH (by rw [Ju rfl]; exact h1)),xu (by decide),w64 (n := f.n / 8) (by omega) (by omega),yp (Az hc _)]
  cases h2 : zK c (f.n / 8) with
  | false => rw [if_pos rfl]; exact ⟨by decide,m,rfl⟩
  | true =>
   rw [if_neg (by simp),Bool.not_true,wJ,w64 (n := m.at' + 1) (by omega) (by omega)]
   have a1 := Bd (p := m.pool) (by omega) (ndI (m.at' + 1))
   have l1 := CX (m.pool ++ [ndI (m.at' + 1)]) [(m.pool.length : Int),m.s,m.e]
   simp only [lnA,lnC,lnN] at l1
   have a2 : V 57 [rP (m.pool ++ [ndI (m.at' + 1)]),.rs (1,0) [iN (m.pool.length : Int),iN m.s,iN m.e]] = _ := J6 (q := m.pool ++ [ndI (m.at' + 1)]) (row := [(m.pool.length : Int),m.s,m.e]) (by simp only [lnA,lnC,lnN]; omega)
   have a3 := LV (q := (xU (m.pool ++ [ndI (m.at' + 1)]) [(m.pool.length : Int),m.s,m.e]).1) (by omega) (xU (m.pool ++ [ndI (m.at' + 1)]) [(m.pool.length : Int),m.s,m.e]).2 m.d
   rw [yg a1,Ak a2,Bj a3]
   generalize hB : xU (m.pool ++ [ndI (m.at' + 1)]) [(m.pool.length : Int),m.s,m.e] = B at l1 ⊢
   have l2 := CX (B.1 ++ [ndP B.2 m.d]) l
   simp only [lnA,lnC,lnN] at l2
   have a4 := J6 (q := B.1 ++ [ndP B.2 m.d]) (row := l) (by simp only [lnA,lnC,lnN]; omega)
   have a5 := LV (q := (xU (B.1 ++ [ndP B.2 m.d]) l).1) (by omega) (xU (B.1 ++ [ndP B.2 m.d]) l).2 f.a
   have a6 := Bd (p := (xU (B.1 ++ [ndP B.2 m.d]) l).1 ++ [ndP (xU (B.1 ++ [ndP B.2 m.d]) l).2 f.a]) (by simp only [lnA,lnC,lnN]; omega) ndN
   have e6 : (((xU (B.1 ++ [ndP B.2 m.d]) l).1 ++ [ndP (xU (B.1 ++ [ndP B.2 m.d]) l).2 f.a]).length : Int) = (xU (B.1 ++ [ndP B.2 m.d]) l).1.length + 1 := by simp
   rw [e6] at a6
   rw [Ak a4,Bj a5,yg a6,xu (by decide)]
   rfl
 ·rw [if_pos h1,wK (xI (by rw [Ju rfl]; exact h1))]
  exact ⟨by decide,m,rfl⟩
theorem Mz {c : Cd} {p : List Nd} {v : Int} {many : Nat} {xs : List Int} {b : Bool} (h : Cw p v = (xs,b)) (hm : 0 < many) : D4 c p v many = if b = true /\ xs.length = many /\ (nod p (xs.getD 0 0)).kind = 3 /\ zK c (nod p (xs.getD 0 0)).n = true then some ((nod p (xs.getD 0 0)).n,xs.drop 1) else none := by
 unfold D4
 rw [h]
 cases b with
 | false => rw [if_neg (fun h => by simp at h)]; cases xs <;> rfl
 | true =>
  cases xs with
  | nil => rw [if_neg (fun h => by have := h.2.1; simp at this; omega)]
  | cons a r =>
   simp only [lnC,List.getD_cons_zero,true_and,List.drop_one,List.tail_cons]
theorem Ny {c : Cd} (hc : c.list.length <= 400) {m : Mc} (hp : ye m.pool) (hl : m.pool.length < 2147483648) {st : Int} (hs : InP m.pool st) {l : List Int} (hll : l.length <= 10) : FG c (V 83 [eSt c m,iN st,.rs (1,0) (l.map eI)]) (Na c m st l) := by
 have hlst := Dd hp hl hs
 have hin := Dl hp hs
 rw [D0]
 unfold Na
 by_cases h1 : l.length = 1
 ·rw [if_neg (by omega),vQ (xH (Ju (by omega))),zi hlst]
  obtain ⟨v,rfl⟩ : ∃ v,l = [v] := by
   match l,h1 with
   | [v],_ => exact ⟨v,rfl⟩
   | [],h => simp at h
   | _ :: _ :: _,h => simp at h
  rcases hq : Cw m.pool st with ⟨xs,b⟩
  have hfr := Mz (c := c) hq (many := 4) (by omega)
  rw [hq] at hin
  have none : ∀ {X : Option Ret},¬ (b = true /\ xs.length = 4 /\ (nod m.pool (xs.getD 0 0)).kind = 3 /\ zK c (nod m.pool (xs.getD 0 0)).n = true) -> X = some (iN 7,[eSt c m]) -> FG c X (match D4 c m.pool st 4 with
    | some (n,[s,e,d]) => .ok (JK ⟨m.pool,n,s,e,d,m.state,m.ask,m.arg⟩ ([v].getD 0 0))
    | _ => .error 7) := by
   intro X hn hX
   rw [hfr,if_neg hn]
   exact ⟨by decide,m,hX⟩
  cases b with
  | false => exact none (fun h => by simp at h) rfl
  | true =>
   rw [Bool.not_true,wJ]
   by_cases h4 : xs.length = 4
   ·obtain ⟨a,s,e,d,rfl⟩ : ∃ a s e d,xs = [a,s,e,d] := by
     match xs,h4 with
     | [a,s,e,d],_ => exact ⟨a,s,e,d,rfl⟩
     | [],h => simp at h
     | [_],h => simp at h
     | [_,_],h => simp at h
     | [_,_,_],h => simp at h
     | _ :: _ :: _ :: _ :: _ :: _,h => simp at h
    have ha := hin a (by simp)
    rw [vQ (xH (Ju (k := 4) rfl)),zz,Lg ha]
    by_cases h3 : (nod m.pool a).kind = 3
    ·rw [vQ (xH h3),zz,Qs ha,yp (Az hc _)]
     cases h5 : zK c (nod m.pool a).n with
     | false => exact none (fun h => by have := h.2.2.2; simp only [List.getD_cons_zero,h5] at this; cases this) rfl
     | true =>
      have a3 := AY (c := c) (m := ⟨m.pool,(nod m.pool a).n,s,e,d,m.state,m.ask,m.arg⟩) (by show m.pool.length < _; omega) v
      rw [hfr,if_pos ⟨rfl,rfl,h3,h5⟩,Bool.not_true,wJ,zz,Qs ha,Dk,LI,QB,zz,yL a3]
      rfl
    ·rw [wK (xI h3)]
     exact none (fun h => h3 h.2.2.1) rfl
   ·rw [wK (xI (QK (l := xs) (k := 4) (fun h => h4 (by omega))))]
    exact none (fun h => h4 h.2.1) rfl
 ·rw [if_pos h1,wK (xI (QK (l := l) (k := 1) (fun h => h1 (by omega))))]
  exact ⟨by decide,m,rfl⟩
theorem AC {c : Cd} {X : Option Ret} {m : Mc} (h : FG c X (.ok m)) : X = some (iN 0,[eSt c m]) := h
theorem zQ {c : Cd} {X : Option Ret} {h : Int} (e : FG c X (.error h)) : h ≠ 0 /\ ∃ m',X = some (iN h,[eSt c m']) := e
theorem Ld {c : Cd} (hc : c.list.length <= 400) : ∀ (k : Nat) {m : Mc} {f : Int} {l : List Int},RunM c m -> zK c (m.at' + 1) = true -> m.pool.length + 100 * k < 2147483600 -> InP m.pool f -> (∀ v ∈ l,InP m.pool v) -> l.length <= 4 -> ((nod m.pool f).n = 11 -> l.length = 2 -> xT m.pool = true) -> Au c k m f l ≠ .error 0 ->
  FG c (V 70 [eSt c m,iN f,.rs (1,0) (l.map eI)]) (Au c k m f l)
 | 0,m,f,l,h,hnx,hl,hf,hv,h4,h11,h0 => absurd rfl h0
 | k + 1,m,f,l,h,hnx,hl,hf,hv,h4,h11,h0 => by
  have hok := Ee h.gm.ok hf
  have hpl := isPl_iff.1 h.pl
  rw [FQ,DR hf]
  unfold Au at h0 ⊢
  simp only at h0 ⊢
  by_cases h6 : (nod m.pool f).kind = 6
  ·rw [if_pos h6,wK (xG h6)]
   have hfn : 0 <= (nod m.pool f).n /\ (nod m.pool f).n <= 1000000000 := by
    simp [okN,h6] at hok
    exact wi_iff.1 hok.1
   have he := OD hc (m := m) (by omega) h.pl (f := nod m.pool f) hfn (l := l) (by omega)
   cases hr : D3 c m (nod m.pool f) l with
   | ok m' => rw [hr] at he; rw [C6 (AC he)]; rfl
   | error q =>
    rw [hr] at he
    obtain ⟨q0,m',hx⟩ := zQ he
    rw [C6 hx]
    exact ⟨q0,m',rfl⟩
  rw [if_neg h6] at h0 ⊢
  rw [vQ (xF h6)]
  by_cases h8 : (nod m.pool f).kind = 8
  ·rw [if_pos h8] at h0 ⊢
   rw [wK (xG h8)]
   -- what is built in
   have prim : FG c (V 82 [eSt c m,iN (nod m.pool f).n,.rs (1,0) (l.map eI)]) (if yi (nod m.pool f).n ≠ (l.length : Int) then .error 2
     else if (nod m.pool f).n = 18 then
      Au c k ⟨(xU (m.pool ++ [ndI (m.at' + 1)]) [(m.pool.length : Int),m.s,m.e,m.d]).1 ++ [ndK (xU (m.pool ++ [ndI (m.at' + 1)]) [(m.pool.length : Int),m.s,m.e,m.d]).2],m.at',m.s,m.e,m.d,m.state,m.ask,m.arg⟩ (l.getD 0 0) [((xU (m.pool ++ [ndI (m.at' + 1)]) [(m.pool.length : Int),m.s,m.e,m.d]).1.length : Int)]
     else if (nod m.pool f).n > 12 then
      .ok ⟨(xU m.pool l).1,m.at',m.s,m.e,m.d,1,(nod m.pool f).n,(xU m.pool l).2⟩
     else match GC m.pool (nod m.pool f).n l with
      | .error h => .error (h + 1)
      | .ok (p,v) => .ok ⟨p ++ [ndP v m.s],m.at' + 1,p.length,m.e,m.d,m.state,m.ask,m.arg⟩) := by
    rw [CR,Kr IP]
    by_cases hargs : yi (nod m.pool f).n = (l.length : Int)
    ·have hargs' : ¬ yi (nod m.pool f).n ≠ (l.length : Int) := fun h => h hargs
     obtain ⟨n1,n19,l2⟩ := Am hargs
     rw [if_neg hargs'] at h0 ⊢
     rw [vQ (xH (by rw [Ju rfl]; exact hargs))]
     by_cases h18 : (nod m.pool f).n = 18
     ·rw [if_pos h18] at h0 ⊢
      rw [wK (xG h18),w64 (n := m.at' + 1) (by omega) (by omega)]
      obtain ⟨v,rfl⟩ : ∃ v,l = [v] := by
       rw [h18] at hargs
       match l,hargs with
       | [v],_ => exact ⟨v,rfl⟩
       | [],h => cases h
       | _ :: _ :: r,h => simp only [lnC] at h; have : yi 18 = 1 := rfl; omega
      have a1 := Bd (p := m.pool) (by omega) (ndI (m.at' + 1))
      have l1 := CX (m.pool ++ [ndI (m.at' + 1)]) [(m.pool.length : Int),m.s,m.e,m.d]
      simp only [lnA,lnC,lnN] at l1
      have a2 : V 57 [rP (m.pool ++ [ndI (m.at' + 1)]),.rs (1,0) [iN (m.pool.length : Int),iN m.s,iN m.e,iN m.d]] = _ := J6 (q := m.pool ++ [ndI (m.at' + 1)]) (row := [(m.pool.length : Int),m.s,m.e,m.d]) (by simp only [lnA,lnC,lnN]; omega)
      have o1 : ye (m.pool ++ [ndI (m.at' + 1)]) := yn h.gm.ok (LQ (by omega))
      obtain ⟨b1,⟨t,b2,b3⟩,b4⟩ := AM (row := [(m.pool.length : Int),m.s,m.e,m.d]) o1 (fun v hv => by
       simp only [List.mem_cons,List.not_mem_nil,or_false] at hv
       rcases hv with rfl | rfl | rfl | rfl
       ·exact y6 _ _
       ·exact ya _ h.gm.s
       ·exact ya _ h.gm.e
       ·exact ya _ h.gm.d)
      have e1 : (xU (m.pool ++ [ndI (m.at' + 1)]) [(m.pool.length : Int),m.s,m.e,m.d]).1 = m.pool ++ (ndI (m.at' + 1) :: t) := by rw [b2]; simp
      have up : ∀ {v : Int},InP m.pool v -> InP ((xU (m.pool ++ [ndI (m.at' + 1)]) [(m.pool.length : Int),m.s,m.e,m.d]).1 ++ [ndK ((xU (m.pool ++ [ndI (m.at' + 1)]) [(m.pool.length : Int),m.s,m.e,m.d]).2 : Int)]) v := fun hv => ya _ (by rw [e1]; exact ya _ hv)
      have g2 : RunM c ⟨(xU (m.pool ++ [ndI (m.at' + 1)]) [(m.pool.length : Int),m.s,m.e,m.d]).1 ++ [ndK ((xU (m.pool ++ [ndI (m.at' + 1)]) [(m.pool.length : Int),m.s,m.e,m.d]).2 : Int)],m.at',m.s,m.e,m.d,m.state,m.ask,m.arg⟩ :=
       ⟨⟨yn b1 (Pb b4),up h.gm.s,up h.gm.e,up h.gm.d⟩,h.st,h.ask,h.arg,h.pl⟩
      rw [yg a1,Ak a2]
      generalize hB : xU (m.pool ++ [ndI (m.at' + 1)]) [(m.pool.length : Int),m.s,m.e,m.d] = B at l1 b1 b2 b4 e1 up g2 h0 ⊢
      have a3 := Bd (p := B.1) (by omega) (ndK (B.2 : Int))
      have a4 := Ld hc k g2 hnx (by show (B.1 ++ [ndK (B.2 : Int)]).length + 100 * k < _; simp only [lnA,lnC,lnN]; omega) (up (hv v (by simp))) (l := [(B.1.length : Int)]) (fun u hu => by
       simp only [List.mem_singleton] at hu; subst hu; exact y6 _ _) (by simp) (fun _ h => by simp at h) h0
      rw [yg a3,zz]
      simp only [List.getD_cons_zero] at a4 ⊢
      simp only [List.map_cons,List.map_nil] at a4
      cases hr : Au c k ⟨B.1 ++ [ndK (B.2 : Int)],m.at',m.s,m.e,m.d,m.state,m.ask,m.arg⟩ v [(B.1.length : Int)] with
      | ok m' => rw [hr] at a4; rw [zX (AC a4)]; rfl
      | error q =>
       rw [hr] at a4
       obtain ⟨q0,m',hx⟩ := zQ a4
       rw [zX hx]
       exact ⟨q0,m',rfl⟩
     rw [if_neg h18] at h0 ⊢
     rw [vQ (xF h18)]
     by_cases h12 : (nod m.pool f).n > 12
     ·rw [if_pos h12,wK (decide_eq_true h12)]
      have a1 := J6 (q := m.pool) (row := l) (by omega)
      rw [Ak a1]
      rfl
     rw [if_neg h12,vQ (decide_eq_false h12)]
     have hp := Nu h.gm.ok (by omega) (n := (nod m.pool f).n) hv (by omega) hargs.symm (fun e => h11 e (by
      rw [e] at hargs
      have : yi 11 = 2 := rfl
      omega))
     cases hr : GC m.pool (nod m.pool f).n l with
     | error q =>
      rw [hr] at hp
      rw [Gy hp]
      have hq : q = 3 \/ q = 4 := by
       rw [Ew (by omega) hargs.symm] at hr
       split at hr
       ·split at hr
        ·cases hr
        ·split at hr
         ·cases hr
         ·split at hr
          ·cases hr
          ·cases hr; exact .inr rfl
       ·cases hr; exact .inl rfl
      rcases hq with rfl | rfl
      ·exact ⟨by decide,m,rfl⟩
      ·exact ⟨by decide,m,rfl⟩
     | ok r =>
      obtain ⟨p,v⟩ := r
      rw [hr] at hp
      obtain ⟨q1,q2,t,q3,q4⟩ := M8 h.gm.ok hv (by omega) hargs.symm hr
      have hpl' : p.length < 4294967296 := by rw [q3]; simp only [lnA]; omega
      have a3 := AY (c := c) (m := ⟨p,m.at',m.s,m.e,m.d,m.state,m.ask,m.arg⟩) hpl' v
      rw [Gy hp,vQ (xF (by omega)),vQ (xF (by omega)),yL a3]
      show some (iN 0,[D.op [_,iN (w6 (m.at' + 1)),_,_,_,_,_,_,_,_,_]]) = _
      rw [w64 (by omega) (by omega)]
      rfl
    ·rw [if_pos hargs,wK (xI (by rw [Ju rfl]; exact hargs))]
     exact ⟨by decide,m,rfl⟩
   revert prim h0
   generalize (if yi (nod m.pool f).n ≠ (l.length : Int) then (.error 2 : Except Int Mc) else _) = r
   intro h0 prim
   cases r with
   | ok m' => rw [AU (AC prim)]; rfl
   | error q =>
    obtain ⟨q0,m',hx⟩ := zQ prim
    rw [AU hx]
    exact ⟨q0,m',rfl⟩
  rw [if_neg h8,vQ (xF h8)]
  by_cases h7 : (nod m.pool f).kind = 7
  ·rw [if_pos h7,wK (xG h7)]
   have he := Ny hc h.gm.ok (by omega) (Gx h.gm.ok hf (.inr (.inr h7))) (l := l) (by omega)
   cases hr : Na c m (nod m.pool f).a l with
   | ok m' => rw [hr] at he; rw [Cj (AC he)]; rfl
   | error q =>
    rw [hr] at he
    obtain ⟨q0,m',hx⟩ := zQ he
    rw [Cj hx]
    exact ⟨q0,m',rfl⟩
  ·rw [if_neg h7,vQ (xF h7)]
   exact ⟨by decide,m,rfl⟩
end Go.Eng
/-! a step of a machine: the program's side: whole -/
namespace Go.Eng
open Go.Proofs Go.Proofs.Try
set_option maxHeartbeats 4000000

theorem Jn : ∀ (r : List Int) (q : List Nd) (c : Nat),∃ t,(zA r q c).1 = q ++ t
 | [],q,c => ⟨[],by simp [zA]⟩
 | x :: r,q,c => by
  obtain ⟨t,h⟩ := Jn r (q ++ [ndP x c]) q.length
  exact ⟨ndP x c :: t,by rw [zA,h]; simp⟩
theorem PC (q : List Nd) (row : List Int) : ∃ t,(xU q row).1 = q ++ t := by
 obtain ⟨t,h⟩ := Jn row.reverse (q ++ [ndN]) q.length
 exact ⟨ndN :: t,by unfold xU; rw [h]; simp⟩
theorem QN (p : List Nd) (x : Nd) : nod (p ++ [x]) (p.length : Int) = x := by simp [nod]
theorem I7 {c : Cd} : ∀ (k : Nat) {m : Mc} {f : Int} {l : List Int},(∀ v ∈ l,InP m.pool v) -> (3 <= k \/ (2 <= k /\ (nod m.pool (l.getD 0 0)).kind = 7) \/ (1 <= k /\ (nod m.pool f).kind = 7)) -> Au c k m f l ≠ .error 0
 | 0,m,f,l,hv,hk => by omega
 | k + 1,m,f,l,hv,hk => by
  unfold Au
  simp only
  split
  ·unfold D3
   split
   ·intro h; cases h
   ·split
    ·intro h; cases h
    ·intro h; cases h
  split
  ·rename_i h6 h8
   split
   ·intro h; cases h
   rename_i hargs
   split
   ·rename_i h18
    obtain ⟨v,r,rfl⟩ : ∃ v r,l = v :: r := by
     cases l with
     | nil => exact absurd (by rw [h18]; decide) hargs
     | cons v r => exact ⟨v,r,rfl⟩
    obtain ⟨t,ht⟩ := PC (m.pool ++ [ndI (m.at' + 1)]) [(m.pool.length : Int),m.s,m.e,m.d]
    have e1 : (xU (m.pool ++ [ndI (m.at' + 1)]) [(m.pool.length : Int),m.s,m.e,m.d]).1 = m.pool ++ (ndI (m.at' + 1) :: t) := by rw [ht]; simp
    have hv0 := hv v (by simp)
    have up : nod ((xU (m.pool ++ [ndI (m.at' + 1)]) [(m.pool.length : Int),m.s,m.e,m.d]).1 ++ [ndK ((xU (m.pool ++ [ndI (m.at' + 1)]) [(m.pool.length : Int),m.s,m.e,m.d]).2 : Int)]) v = nod m.pool v := by
     rw [e1,List.append_assoc,Sb hv0]
    refine I7 k (fun u hu => ?_) ?_
    ·simp only [List.mem_singleton] at hu; subst hu
     exact y6 _ _
    ·rcases hk with hk | ⟨hk,h7⟩ | ⟨hk,h7⟩
     ·refine .inr (.inl ⟨by omega,?_⟩)
      simp only [List.getD_cons_zero]
      rw [QN]
     ·refine .inr (.inr ⟨by omega,?_⟩)
      simp only [List.getD_cons_zero] at h7 ⊢
      rw [up,h7]
     ·omega
   split
   ·intro h; cases h
   split
   ·rename_i q hq
    intro h
    have hz : q + 1 = 0 := by injection h
    obtain ⟨n1,n19,l2⟩ := Am (n := (nod m.pool f).n) (k := l.length) (by simpa using hargs)
    rw [Ew (by omega) (by simpa using (Eq.symm (by simpa using hargs : yi (nod m.pool f).n = (l.length : Int))))] at hq
    split at hq
    ·split at hq
     ·cases hq
     ·split at hq
      ·cases hq
      ·split at hq
       ·cases hq
       ·cases hq; omega
    ·cases hq; omega
   ·intro h; cases h
  split
  ·unfold Na
   split
   ·intro h; cases h
   ·split <;> (intro h; cases h)
  ·intro h; cases h
theorem Kz {c : Cd} : ∀ (k : Nat) {m : Mc} {f : Int} {l : List Int} {h : Int},Au c k m f l = .error h -> h = 0 \/ (1 <= h /\ h <= 7)
 | 0,m,f,l,h,he => by cases he; exact .inl rfl
 | k + 1,m,f,l,h,he => by
  unfold Au at he
  simp only at he
  split at he
  ·unfold D3 at he
   split at he
   ·cases he; omega
   ·split at he
    ·cases he; omega
    ·cases he
  split at he
  ·split at he
   ·cases he; omega
   rename_i hargs
   split at he
   ·exact Kz k he
   split at he
   ·cases he
   split at he
   ·rename_i q hq
    cases he
    obtain ⟨n1,n19,l2⟩ := Am (n := (nod m.pool f).n) (k := l.length) (by simpa using hargs)
    rw [Ew (by omega) (by simpa using (Eq.symm (by simpa using hargs : yi (nod m.pool f).n = (l.length : Int))))] at hq
    split at hq
    ·split at hq
     ·cases hq
     ·split at hq
      ·cases hq
      ·split at hq
       ·cases hq
       ·cases hq; omega
    ·cases hq; omega
   ·cases he
  split at he
  ·unfold Na at he
   split at he
   ·cases he; omega
   ·split at he
    ·cases he
    ·cases he; omega
  ·cases he; omega
theorem RV {c : Cd} (_ : yv c = true) {m : Mc} (h : RunM c m) {q : Int} (he : doM c m = .error q) : 1 <= q /\ q <= 7 := by
 unfold doM at he
 simp only at he
 split at he
 ·unfold Ai at he
  split at he
  ·cases he; omega
  split at he
  ·cases he; omega
  ·rename_i l m1 ht
   obtain ⟨f1,f2,f3,f4,f5,f6,f7,f8,f9⟩ := GZ h.gm ht
   rcases Kz 3 he with rfl | h1
   ·exact absurd he (I7 3 (fun v hv => f2 v (by have := List.mem_of_mem_drop hv; simpa using this)) (.inl (Nat.le_refl _)))
   ·exact h1
 split at he
 ·unfold Ie at he
  split at he
  ·cases he; omega
  simp only at he
  split at he
  ·cases he
  split at he
  ·cases he; omega
  split at he
  ·cases he
  ·cases he; omega
 ·have go : ∀ {r : Except Int Mc} {n : Int},(∀ q',r = .error q' -> 1 <= q' /\ q' <= 7) -> goM c r n = .error q -> 1 <= q /\ q <= 7 := by
   intro r n hr hg
   unfold goM at hg
   split at hg
   ·cases hg; exact hr _ rfl
   ·split at hg
    ·cases hg
    ·cases hg; omega
  unfold Eu at he
  split at he
  ·exact go (fun q' e => by cases e) he
  split at he
  ·refine go (fun q' e => ?_) he
   unfold OJ at e
   split at e
   ·cases e; omega
   ·split at e
    ·cases e; omega
    ·cases e
  split at he
  ·refine go (fun q' e => ?_) he
   unfold Jh at e
   split at e
   ·cases e
   ·split at e
    ·cases e; omega
    ·cases e
  split at he
  ·exact go (fun q' e => by cases e) he
  split at he
  ·exact go (fun q' e => by cases e) he
  split at he
  ·cases he; omega
  ·exact go (fun q' e => by cases e) he
theorem Nc {c : Cd} {m : Mc} (h : z4 c m = true) (h0 : m.state = 0) : z4 c (Cm c m) = true := by
 obtain ⟨hr,hc,hl⟩ := JG h h0
 unfold Cm
 cases he : doM c m with
 | error q => exact Mu h (RV hc hr he)
 | ok m' =>
  obtain ⟨g1,⟨t,g2,g3⟩,g4⟩ := Ml hc hr he
  simp only
  split
  ·exact O8 hc g1.ok ‹_› g1.s g1.e g1.d g4
  ·exact Mu h (by omega)

theorem Nb : ∀ (n : Nat) (pre mid post : List Int) (i j : Int),mid.length <= n -> i = pre.length -> j = i + mid.length - 1 -> (pre ++ mid ++ post).length < 4611686018427387904 ->
  yC i j ((pre ++ mid ++ post).map eI) = some (.tup [],[.os (1,0) ((pre ++ mid.reverse ++ post).map eI)])
 | 0,pre,mid,post,i,j,hn,hi,hj,hl => by
  have : mid = [] := List.length_eq_zero_iff.1 (by omega)
  subst this
  rw [yu,vQ (decide_eq_false (by simp at hj; omega))]
  rfl
 | n + 1,pre,mid,post,i,j,hn,hi,hj,hl => by
  match mid,hn,hj,hl with
  | [],hn,hj,hl =>
   rw [yu,vQ (decide_eq_false (by simp at hj; omega))]
   rfl
  | [x],hn,hj,hl =>
   rw [yu,vQ (decide_eq_false (by simp at hj; omega))]
   rfl
  | x :: z :: r,hn,hj,hl =>
   obtain ⟨m,y,hm⟩ : ∃ m y,z :: r = m ++ [y] := ⟨(z :: r).dropLast,(z :: r).getLast (by simp),(List.dropLast_concat_getLast (by simp)).symm⟩
   rw [hm] at hn hj hl ⊢
   simp only [lnC,lnA,lnN] at hn hj hl
   subst hi
   have hj' : j = ((pre.length + m.length + 1 : Nat) : Int) := by omega
   subst hj'
   have hx : (pre ++ x :: (m ++ [y]) ++ post)[pre.length]? = some x := by simp
   have hy : (pre ++ x :: (m ++ [y]) ++ post)[pre.length + m.length + 1]? = some y := by
    have e : pre ++ x :: (m ++ [y]) ++ post = (pre ++ x :: m) ++ y :: post := by simp
    have e2 : pre.length + m.length + 1 = (pre ++ x :: m).length := by simp; omega
    rw [e,e2]; simp
   have len : (pre ++ x :: (m ++ [y]) ++ post).length = pre.length + m.length + 2 + post.length := by simp; omega
   have s1 : List.set ((pre ++ x :: (m ++ [y]) ++ post).map eI) pre.length (iN y) = (pre ++ y :: (m ++ [y]) ++ post).map eI := by
    rw [<- List.map_set]; simp
   have hy2 : (pre ++ y :: (m ++ [y]) ++ post)[pre.length + m.length + 1]? = some y := by
    have e : pre ++ y :: (m ++ [y]) ++ post = (pre ++ y :: m) ++ y :: post := by simp
    have e2 : pre.length + m.length + 1 = (pre ++ y :: m).length := by simp; omega
    rw [e,e2]; simp
   have s2 : List.set ((pre ++ y :: (m ++ [y]) ++ post).map eI) (pre.length + m.length + 1) (iN x) = ((pre ++ [y]) ++ m ++ (x :: post)).map eI := by
    have e : pre ++ y :: (m ++ [y]) ++ post = (pre ++ y :: m) ++ y :: post := by simp
    have e2 : pre.length + m.length + 1 = (pre ++ y :: m).length := by simp; omega
    rw [<- List.map_set,e,e2]; simp
   have len2 : (pre ++ y :: (m ++ [y]) ++ post).length = pre.length + m.length + 2 + post.length := by simp; omega
   have ih := Nb n (pre ++ [y]) m (x :: post) ((pre.length : Int) + 1) (((pre.length + m.length + 1 : Nat) : Int) - 1) (by omega) (by simp) (by simp; omega) (by simp; omega)
   rw [yu,wK (decide_eq_true (by omega)),
    AL (l := pre ++ x :: (m ++ [y]) ++ post) (v := ((pre.length + m.length + 1 : Nat) : Int)) (x := y) (by omega) (by rw [Int.toNat_natCast]; exact hy),
    AL (l := pre ++ x :: (m ++ [y]) ++ post) (v := (pre.length : Int)) (x := x) (by omega) (by rw [Int.toNat_natCast]; exact hx),
    xu (by rw [lnM]; exact xz (by omega)),Int.toNat_natCast,w8 hx,xB,s1,
    xu (by rw [lnM]; exact xz (by omega)),Int.toNat_natCast,w8 hy2,xB,s2,w64 (n := (pre.length : Int) + 1) (by omega) (by omega),w64 (n := ((pre.length + m.length + 1 : Nat) : Int) - 1) (by omega) (by omega),ih]
   simp
theorem Ql {l : List Int} (hl : l.length < 4611686018427387904) : V 69 [.os (1,0) (l.map eI)] = some (.tup [],[.os (1,0) (l.reverse.map eI)]) := by
 have h := Nb l.length [] l [] 0 ((l.length : Int) - 1) (Nat.le_refl _) rfl (by omega) (by simpa using hl)
 simp only [List.nil_append,List.append_nil] at h
 rw [CU,lnM,w64 (n := ni l.length - 1) (by simp only [ni]; omega) (by simp only [ni]; omega)]
 exact h

theorem PR (a : Int) (r : List Int) : part ((a :: r).map eI) (some (Int.toNat 1,((a :: r).map eI).length - Int.toNat 1)) = r.map eI := by
 simp only [part,List.map_cons,lnC]
 show (r.map eI).take ((r.map eI).length + 1 - 1) = _
 exact List.take_of_length_le (by simp)
theorem DF {c : Cd} (hc : c.list.length <= 400) {many : Nat} (hm : many <= 4) : ∀ (k i : Nat) {m : Mc} {acc : List Int},i + k = many + 1 -> acc.length = i -> RunM c m -> zK c (m.at' + 1) = true -> m.pool.length <= 3000 -> (∀ v ∈ acc,InP m.pool v) ->
  FG c (yO ((many : Int) + 1) (i : Int) m.at' m.s m.e m.d m.state m.ask m.arg (c.pool.map eN) (c.list.map eIn) (c.defs.map eDf) (acc.map eI) (m.pool.map eN)) (match Ap k m with
   | none => .error 7
   | some (l,m') => Au c 3 m' ((acc ++ l).reverse.getD 0 0) ((acc ++ l).reverse.drop 1))
 | 0,i,m,acc,hi,ha,hr,hnx,hl,hv => by
  rw [zy,vQ (decide_eq_false (by omega)),BW (Ql (l := acc) (by omega))]
  simp only [Ap,List.append_nil]
  obtain ⟨a,r,hq⟩ : ∃ a r,acc.reverse = a :: r := by
   cases hq : acc.reverse with
   | nil => have h := congrArg List.length hq; rw [List.length_reverse,lnN] at h; omega
   | cons a r => exact ⟨a,r,rfl⟩
  have hlen : r.length = many := by have h := congrArg List.length hq; rw [List.length_reverse,lnC] at h; omega
  have hvr : ∀ v ∈ a :: r,InP m.pool v := fun v hv' => hv v (by rw [<- hq] at hv'; simpa using hv')
  rw [hq,zz,xu (by simp [cG]; omega),PR]
  simp only [List.getD_cons_zero,List.drop_one,List.tail_cons]
  have h0 := I7 (c := c) 3 (m := m) (f := a) (l := r) (fun v hv' => hvr v (by simp [hv'])) (.inl (Nat.le_refl _))
  have hcall := Ld hc 3 hr hnx (by omega) (hvr a (by simp)) (fun v hv' => hvr v (by simp [hv'])) (by omega) (fun _ _ => okPool_iff.2 ⟨hr.gm.ok,hl⟩) h0
  cases he : Au c 3 m a r with
  | ok m' => rw [he] at hcall; rw [zX (AC hcall)]; rfl
  | error q =>
   rw [he] at hcall
   obtain ⟨q0,m',hx⟩ := zQ hcall
   rw [zX hx]
   exact ⟨q0,m',rfl⟩
 | k + 1,i,m,acc,hi,ha,hr,hnx,hl,hv => by
  rw [zy,wK (decide_eq_true (by omega))]
  unfold Ap
  cases ht : Da m with
  | none =>
   have h1 := Dw (c := c) hr.gm.s ht
   rw [y2 h1]
   exact ⟨by decide,m,rfl⟩
  | some q =>
   obtain ⟨v,m1⟩ := q
   have h1 := Ia (c := c) hr.gm.s ht
   obtain ⟨g1,g2,g3,g4,g5,g6,g7,g8⟩ := Db hr.gm ht
   have ea : acc.map eI ++ [iN v] = (acc ++ [v]).map eI := by simp
   have ih := DF hc hm k (i + 1) (m := m1) (acc := acc ++ [v]) (by omega) (by simp [ha]) ⟨g1,g5.trans hr.st,g6.trans hr.ask,g7.trans hr.arg,by rw [g4]; exact hr.pl⟩ (by rw [g4]; exact hnx) (by rw [g3]; exact hl) (fun u hu => by
    rw [g3]
    rcases List.mem_append.1 hu with hu | hu
    ·exact hv u hu
    ·simp only [List.mem_singleton] at hu; subst hu; rw [<- g3]; exact g2)
   rw [y2 h1,Bool.not_true,wJ,xu (QE (by omega) v),xB,ea,xN (by omega)]
   simp only
   cases ht2 : Ap k m1 with
   | none => rw [ht2] at ih; exact ih
   | some q2 =>
    obtain ⟨l2,m2⟩ := q2
    rw [ht2] at ih
    simp only [List.append_assoc,List.singleton_append] at ih
    exact ih
theorem LZ {c : Cd} (hc : c.list.length <= 400) {m : Mc} (hr : RunM c m) (hl : m.pool.length <= 3000) {k : Int} (hk : 0 <= k /\ k <= 4) : FG c (V 50 [eSt c m,iN k]) (Ai c m k.toNat) := by
 have hpl := isPl_iff.1 hr.pl
 rw [DN,w64 (n := m.at' + 1) (by omega) (by omega),yp (Az hc _)]
 unfold Ai
 cases hp : zK c (m.at' + 1) with
 | false => rw [if_pos rfl]; exact ⟨by decide,m,rfl⟩
 | true =>
  have h := DF hc (many := k.toNat) (by omega) (k.toNat + 1) 0 (acc := []) (by omega) rfl hr hp hl (by simp)
  rw [Int.natCast_zero,Int.toNat_of_nonneg hk.1] at h
  rw [if_neg (by simp),Bool.not_true,wJ,w64 (n := k + 1) (by omega) (by omega)]
  simp only [List.nil_append] at h
  exact h
theorem Qn {c : Cd} (hc : c.list.length <= 400) {m : Mc} (hr : RunM c m) (hl : m.pool.length <= 3000) : FG c (V 51 [eSt c m]) (Ie c m) := by
 rw [FP]
 unfold Ie
 cases ht : Da m with
 | none =>
  have h1 := Dw (c := c) hr.gm.s ht
  rw [y2 h1]
  exact ⟨by decide,m,rfl⟩
 | some q =>
  obtain ⟨v,m1⟩ := q
  have h1 := Ia (c := c) hr.gm.s ht
  obtain ⟨g1,g2,g3,g4,g5,g6,g7,g8⟩ := Db hr.gm ht
  rw [y2 h1,Bool.not_true,wJ,DR g1.d]
  simp only
  by_cases k1 : (nod m1.pool m1.d).kind = 1
  ·rw [if_pos k1,wK (xG k1)]; rfl
  rw [if_neg k1,vQ (xF k1)]
  by_cases k5 : (nod m1.pool m1.d).kind = 5
  ·rw [if_neg (fun h => h k5),vQ (xH k5)]
   have ha := Gx g1.ok g1.d (.inl k5)
   have hlst := Dd g1.ok (by rw [g3]; omega) ha
   have hin := Dl g1.ok ha
   rw [zi hlst]
   rcases hq : Cw m1.pool (nod m1.pool m1.d).a with ⟨xs,b⟩
   have hfr := Mz (c := c) hq (many := 3) (by omega)
   rw [hq] at hin
   have none : ∀ {X : Option Ret},¬ (b = true /\ xs.length = 3 /\ (nod m1.pool (xs.getD 0 0)).kind = 3 /\ zK c (nod m1.pool (xs.getD 0 0)).n = true) -> X = some (iN 7,[eSt c m1]) -> FG c X (match D4 c m1.pool (nod m1.pool m1.d).a 3 with
     | some (n,[s,e]) => .ok (JK ⟨m1.pool,n,s,e,(nod m1.pool m1.d).b,m1.state,m1.ask,m1.arg⟩ v)
     | _ => .error 7) := by
    intro X hn hX
    rw [hfr,if_neg hn]
    exact ⟨by decide,m1,hX⟩
   cases b with
   | false => exact none (fun h => by simp at h) rfl
   | true =>
    rw [Bool.not_true,wJ]
    by_cases h4 : xs.length = 3
    ·obtain ⟨a,s,e,rfl⟩ : ∃ a s e,xs = [a,s,e] := by
      match xs,h4 with
      | [a,s,e],_ => exact ⟨a,s,e,rfl⟩
      | [],h => simp at h
      | [_],h => simp at h
      | [_,_],h => simp at h
      | _ :: _ :: _ :: _ :: _,h => simp at h
     have ha' := hin a (by simp)
     rw [vQ (xH (Ju (k := 3) rfl)),zz,Lg ha']
     by_cases h3 : (nod m1.pool a).kind = 3
     ·rw [vQ (xH h3),zz,Qs ha',yp (Az hc _)]
      cases h5 : zK c (nod m1.pool a).n with
      | false => exact none (fun h => by have := h.2.2.2; simp only [List.getD_cons_zero,h5] at this; cases this) rfl
      | true =>
       have a3 := AY (c := c) (m := ⟨m1.pool,(nod m1.pool a).n,s,e,(nod m1.pool m1.d).b,m1.state,m1.ask,m1.arg⟩) (by show m1.pool.length < _; rw [g3]; omega) v
       rw [hfr,if_pos ⟨rfl,rfl,h3,h5⟩,Bool.not_true,wJ,zz,Qs ha',Dk,LI,yL a3]
       rfl
     ·rw [wK (xI h3)]
      exact none (fun h => h3 h.2.2.1) rfl
    ·rw [wK (xI (QK (l := xs) (k := 3) (fun h => h4 (by omega))))]
     exact none (fun h => h4 h.2.1) rfl
  ·rw [if_pos k5,wK (xI k5)]
   exact ⟨by decide,m1,rfl⟩
end Go.Eng
/-! a step of a machine: the program's side: every instruction; runs -/
namespace Go.Eng
open Go.Proofs Go.Proofs.Try
set_option maxHeartbeats 4000000

theorem Qb {q : List Nd} {v : Int} (hv : InP q v) : yk q [v] = true := by
 simp only [yk,List.all_cons,List.all_nil,Bool.and_true]
 exact wi_iff.2 ⟨hv.1,by omega⟩
theorem QC {l : List Int} {v : Int} (h : 0 <= v /\ v < (l.length : Int)) {R : Type} (K : Int -> Option R) : grd (decide (0 <= v) && decide (v < ni (l.map eI).length)) (cz (l.map eI) v.toNat fun x => asI .i64 x fun n => K n) = K (l.getD v.toNat 0) := by
 obtain ⟨u,hu⟩ := Di (l := l) h.1 h.2
 rw [AL h.1 hu]
 simp [hu]
theorem Ox {q acc : List Nd} (hp : xT q = true) {v : Int} (hv : InP q v) (hc : acc.length + q.length < 4294967296) : V 72 [rP acc,eP q,iN v] = some (iN (BD (-1) q v acc).2,[rP (BD (-1) q v acc).1]) := by
 have hm : V 80 [rP acc,eP q,.rs (1,0) [iN v]] = _ := Nv (acc := acc) hp (rs := [v]) (by simp) (Qb hv) hc
 have hl : (zO (-1) q [v] acc).1.length = q.length := by unfold zO; rw [Cg]; simp
 rw [EZ,Ef hm,QC ⟨hv.1,by rw [hl]; exact hv.2⟩]
 rfl
theorem Bq {c : Cd} (_ : c.list.length <= 400) {m : Mc} {n : Int} {X : Option Ret} (h : X = match zK c n with
  | false => some (iN 7,[eSt c m])
  | true => some (iN 0,[eSt c ⟨m.pool,n,m.s,m.e,m.d,m.state,m.ask,m.arg⟩])) : FG c X (goM c (.ok m) n) := by
 unfold goM
 cases hp : zK c n with
 | false => rw [hp] at h; exact ⟨by decide,m,h⟩
 | true => rw [hp] at h; exact h
theorem OE {c : Cd} (hf : FitsC c) (hok : yv c = true) {m : Mc} (hr : RunM c m) (hl : m.pool.length <= 3000) {x : In} {k : Nat} (hx : c.list[k]? = some x) : FG c (V 52 [eSt c m,eIn x]) (Eu c m x) := by
 obtain ⟨c1,c2,c3⟩ := y8 hok
 have cl := yq c1
 have hin := EK hok hx
 have hat := isPl_iff.1 hr.pl
 have w1 : w6 (m.at' + 1) = m.at' + 1 := w64 (by omega) (by omega)
 rw [Fh]
 unfold Eu
 by_cases h1 : x.op = 1
 ·have hlit := MW hin h1
  have f := Ij c1 hr.gm.ok hlit (-1)
  obtain ⟨f1,f2,t,f3,f4⟩ := f
  have hlen := congrArg List.length f3
  rw [lnA] at hlen
  have h2 := Ox (acc := m.pool) c1 hlit (by omega)
  have h3 := AY (c := c) (m := ⟨(BD (-1) c.pool x.n m.pool).1,m.at',m.s,m.e,m.d,m.state,m.ask,m.arg⟩) (by show (BD (-1) c.pool x.n m.pool).1.length < _; omega) (BD (-1) c.pool x.n m.pool).2
  rw [if_pos h1,wK (xG h1),GX h2,yL h3,w1,yp (Az c2 _)]
  refine Bq c2 ?_
  cases zK c (m.at' + 1) <;> rfl
 rw [if_neg h1,vQ (xF h1)]
 by_cases h2 : x.op = 2
 ·have hv := QS hin h2
  have hX := Kx (c := c) (m := m) hr.gm.ok (by omega) hr.gm.e (o := x.n) (i := x.i) (by omega) (by omega) (by omega) (by omega)
  rw [if_pos h2,wK (xG h2)]
  cases e : OJ m x.n x.i with
  | ok m' =>
   rw [e] at hX
   rw [Ba (AC hX),wK (xG rfl),w1,yp (Az c2 _)]
   refine Bq c2 ?_
   cases zK c (m.at' + 1) <;> rfl
  | error q =>
   rw [e] at hX
   obtain ⟨q0,m',hx'⟩ := zQ hX
   rw [Ba hx',vQ (xF q0),w1]
   exact ⟨q0,⟨m'.pool,m.at' + 1,m'.s,m'.e,m'.d,m'.state,m'.ask,m'.arg⟩,rfl⟩
 rw [if_neg h2,vQ (xF h2)]
 by_cases h3 : x.op = 3
 ·have hX := Nw hf hok (m := m) (by omega) x.s
  rw [if_pos h3,wK (xG h3)]
  cases e : Jh c m x.s with
  | ok m' =>
   rw [e] at hX
   rw [Ci (AC hX),wK (xG rfl),w1,yp (Az c2 _)]
   refine Bq c2 ?_
   cases zK c (m.at' + 1) <;> rfl
  | error q =>
   rw [e] at hX
   obtain ⟨q0,m',hx'⟩ := zQ hX
   rw [Ci hx',vQ (xF q0),w1]
   exact ⟨q0,⟨m'.pool,m.at' + 1,m'.s,m'.e,m'.d,m'.state,m'.ask,m'.arg⟩,rfl⟩
 rw [if_neg h3,vQ (xF h3)]
 by_cases h5 : x.op = 5
 ·rw [if_pos h5,wK (xG h5),yp (Az c2 _)]
  refine Bq c2 ?_
  cases zK c x.n <;> rfl
 rw [if_neg h5,vQ (xF h5)]
 by_cases h6 : x.op = 6
 ·have hfn := MU hin h6
  have h7 := Bd (p := m.pool) (by omega) (ndF (8 * x.n + x.i) m.e)
  have h8 := AY (c := c) (m := ⟨m.pool ++ [ndF (8 * x.n + x.i) m.e],m.at',m.s,m.e,m.d,m.state,m.ask,m.arg⟩) (by simp; omega) m.pool.length
  rw [if_pos h6,wK (xG h6),w64 (n := 8 * x.n) (by omega) (by omega),w64 (n := 8 * x.n + x.i) (by omega) (by omega),yg h7,yL h8,w1,yp (Az c2 _)]
  refine Bq c2 ?_
  cases zK c (m.at' + 1) <;> rfl
 rw [if_neg h6,vQ (xF h6)]
 cases ht : Da m with
 | none =>
  have h1 := Dw (c := c) hr.gm.s ht
  rw [y2 h1]
  exact ⟨by decide,m,rfl⟩
 | some q =>
  obtain ⟨v,m1⟩ := q
  have hX := Ia (c := c) hr.gm.s ht
  obtain ⟨g1,g2,g3,g4,g5,g6,g7,g8⟩ := Db hr.gm ht
  rw [y2 hX,Bool.not_true,wJ,DR g2,w1]
  simp only
  by_cases h4 : x.op = 4
  ·rw [wK (xG h4)]
   by_cases k2 : (nod m1.pool v).kind = 2
   ·rw [wK (xG k2)]
    by_cases k0 : (nod m1.pool v).n = 0
    ·rw [wK (xG k0),if_pos ⟨h4,k2,k0⟩,yp (Az c2 _)]
     refine Bq c2 ?_
     cases zK c x.n <;> rfl
    ·rw [vQ (xF k0),if_neg (fun h => k0 h.2.2),yp (Az c2 _)]
     refine Bq c2 ?_
     cases zK c (m.at' + 1) <;> rfl
   ·rw [vQ (xF k2),if_neg (fun h => k2 h.2.1),yp (Az c2 _)]
    refine Bq c2 ?_
    cases zK c (m.at' + 1) <;> rfl
  ·rw [vQ (xF h4),if_neg (fun h => h4 h.1),yp (Az c2 _)]
   refine Bq c2 ?_
   cases zK c (m.at' + 1) <;> rfl

theorem RF {m : Mc} (hl : m.pool.length <= 4294967296) (q : Int) : V 53 [eMc m,iN q] = some (oMc (Mt m q),[]) := by
 rw [Lr,zF (zT hl)]
 rfl
theorem RI {c : Cd} (hf : FitsC c) (hok : yv c = true) {m : Mc} (hr : RunM c m) (hl : m.pool.length <= 3000) : V 28 [eCd c,eMc m] = some (oMc (Cm c m),[]) := by
 obtain ⟨c1,c2,c3⟩ := y8 hok
 have cl := yq c1
 obtain ⟨x,hx⟩ := Pg hr
 have hin := EK hok hx
 have hat := isPl_iff.1 hr.pl
 have hgd : c.list.getD m.at'.toNat ⟨0,0,0,⟨#[]⟩⟩ = x := by rw [List.getD_eq_getElem?_getD,hx]; rfl
 have hfail := fun q => RF (m := m) (by omega) q
 have big : ∀ {m' : Mc},doM c m = .ok m' -> m'.pool.length < 4294967296 := fun e => by
  obtain ⟨g1,⟨t,g2,g3⟩,g4⟩ := Ml hok hr e
  have hlen := congrArg List.length g2
  rw [lnA] at hlen
  omega
 rw [NN,zF (zT (by omega)),xu (by rw [lnM]; simp only [ni,Bool.and_eq_true,decide_eq_true_eq]; omega),w8 hx,Tw]
 have hdo : doM c m = if x.op = 7 then Ai c m x.i.toNat else if x.op = 8 then Ie c m else Eu c m x := by unfold doM; rw [hgd]
 unfold Cm
 by_cases h7 : x.op = 7
 ·rw [if_pos h7] at hdo
  rw [hdo] at big ⊢
  have hX := LZ c2 hr hl (KW hin h7)
  rw [wK (xG h7)]
  cases e : Ai c m x.i.toNat with
  | ok m' =>
   rw [e] at hX
   have hb := big e
   rw [BJ (AC hX),wK (xG rfl),lnM]
   simp only
   by_cases h3 : m'.pool.length <= 3000
   ·rw [vQ (decide_eq_false (by simp only [ni]; omega)),vQ (xH rfl),if_pos h3]
   ·rw [wK (decide_eq_true (by simp only [ni]; omega)),Aa (hfail 6),if_neg h3]
  | error q =>
   rw [e] at hX
   obtain ⟨q0,m',hx'⟩ := zQ hX
   rw [BJ hx',vQ (xF q0),wK (xI q0),Aa (hfail q)]
 rw [if_neg h7] at hdo
 rw [vQ (xF h7)]
 by_cases h8 : x.op = 8
 ·rw [if_pos h8] at hdo
  rw [hdo] at big ⊢
  have hX := Qn c2 hr hl
  rw [wK (xG h8)]
  cases e : Ie c m with
  | ok m' =>
   rw [e] at hX
   have hb := big e
   rw [DE (AC hX),wK (xG rfl),lnM]
   simp only
   by_cases h3 : m'.pool.length <= 3000
   ·rw [vQ (decide_eq_false (by simp only [ni]; omega)),vQ (xH rfl),if_pos h3]
   ·rw [wK (decide_eq_true (by simp only [ni]; omega)),Aa (hfail 6),if_neg h3]
  | error q =>
   rw [e] at hX
   obtain ⟨q0,m',hx'⟩ := zQ hX
   rw [DE hx',vQ (xF q0),wK (xI q0),Aa (hfail q)]
 rw [if_neg h8] at hdo
 rw [vQ (xF h8)]
 rw [hdo] at big ⊢
 have hX := OE hf hok hr hl hx
 cases e : Eu c m x with
 | ok m' =>
  rw [e] at hX
  have hb := big e
  rw [C7 (AC hX),wK (xG rfl),lnM]
  simp only
  by_cases h3 : m'.pool.length <= 3000
  ·rw [vQ (decide_eq_false (by simp only [ni]; omega)),vQ (xH rfl),if_pos h3]
  ·rw [wK (decide_eq_true (by simp only [ni]; omega)),Aa (hfail 6),if_neg h3]
 | error q =>
  rw [e] at hX
  obtain ⟨q0,m',hx'⟩ := zQ hX
  rw [C7 hx',vQ (xF q0),wK (xI q0),Aa (hfail q)]
theorem Nr {c : Cd} (hf : FitsC c) {m : Mc} (hm : Bv m.pool) (hl : m.pool.length <= 4294967296) : V 25 [eCd c,eMc m] = some (oMc (Q6 c m),[]) := by
 have h1 := Dc hf hm (by omega)
 rw [NH,Ej h1]
 unfold Q6
 cases h : z4 c m with
 | false => rw [Bool.not_false,xl,if_neg (by simp)]; rfl
 | true =>
  rw [Bool.not_true,wJ,if_pos rfl]
  by_cases h0 : m.state = 0
  ·obtain ⟨r1,r2,r3⟩ := JG h h0
   rw [vQ (xH h0),KT (RI hf r2 r1 r3),if_pos h0]
  ·rw [wK (xI h0),zF (zT hl),if_neg h0]
theorem RJ {m : Mc} (hf : Bv m.pool) (hl : m.pool.length <= 4294967296) : V 27 [oMc m] = some (oMc (zZ m),[]) := by
 rw [Lv,lnM]
 unfold zZ
 by_cases h : m.pool.length <= 2000
 ·rw [vQ (decide_eq_false (by simp only [ni]; omega)),if_pos h]
 ·rw [wK (decide_eq_true (by simp only [ni]; omega)),PP (Nt hf hl),if_neg h]
theorem Iv {c : Cd} (hf : FitsC c) {steps : Int} : ∀ (k : Nat) {m : Mc} (n : Int),z4 c m = true -> 0 <= n -> ((n + k = mnI steps 2000) \/ (k = 0 /\ mnI steps 2000 <= n)) -> n <= 2000 ->
  Ah steps n (c.pool.map eN) (c.list.map eIn) (c.defs.map eDf) m.at' m.s m.e m.d m.state m.ask m.arg 0 0 0 0 0 0 0 (m.pool.map eN) = some (.tup [oMc (Bc c k m).1,iN (n + (Bc c k m).2)],[])
 | 0,m,n,h,hn,hk,h2 => by
  rw [B9]
  by_cases h0 : m.state = 0
  ·rw [wK (xG h0),vQ (decide_eq_false (by omega))]
   simp [Bc]
  ·rw [vQ (xF h0)]
   simp [Bc]
 | k + 1,m,n,h,hn,hk,h2 => by
  have mn : mnI steps 2000 <= 2000 := by unfold mnI; split <;> omega
  rw [B9]
  unfold Bc
  by_cases h0 : m.state = 0
  ·obtain ⟨r1,r2,r3⟩ := JG h h0
   have s1 := Nc h h0
   obtain ⟨q1,q2,q3,q4⟩ := Dq s1
   have ht := RJ (z3 q2) (by omega)
   have t1 : z4 c (zZ (Cm c m)) = true := by
    unfold zZ
    split
    ·exact s1
    ·exact Pk s1
   have ih := Iv hf (steps := steps) k (m := zZ (Cm c m)) (n + 1) t1 (by omega) (.inl (by omega)) (by omega)
   rw [wK (xG h0),wK (decide_eq_true (by omega)),KT (RI hf r2 r1 r3),MT ht,w64 (n := n + 1) (by omega) (by omega),ih,if_pos h0]
   simp only [Int.natCast_add,Int.natCast_one]
   rw [show n + 1 + ((Bc c k (zZ (Cm c m))).2 : Int) = n + (((Bc c k (zZ (Cm c m))).2 : Int) + 1) by omega]
  ·rw [vQ (xF h0),if_neg h0]
   simp
theorem Kv {c : Cd} (hf : FitsC c) {m : Mc} (hm : Bv m.pool) (hl : m.pool.length <= 4294967296) (steps : Int) : V 11 [eCd c,eMc m,iN steps] = some (.tup [oMc (QZ c m steps).1,iN (QZ c m steps).2],[]) := by
 have h1 := Dc hf hm (by omega)
 rw [Lq,Ej h1]
 unfold QZ
 cases h : z4 c m with
 | false =>
  have h2 := Nr hf hm hl
  rw [Bool.not_false,xl,PO h2,if_neg (by simp)]
  unfold Q6
  rw [if_neg (by simp [h])]
  rfl
 | true =>
  have hlo := Iv hf (steps := steps) (mnI steps 2000).toNat 0 h (Int.le_refl _) (by omega) (by omega)
  rw [Bool.not_true,wJ,zF (zT hl),if_pos rfl]
  simp only [Int.zero_add] at hlo
  exact hlo

end Go.Eng
/-! compiling: the program's side,where nothing comes up -/
namespace Go.Eng
noncomputable section
open Go.Proofs Go.Proofs.Try
set_option maxHeartbeats 4000000

def emI (L : List In) (x : In) : Option (List In) := if L.length < 400 then some (L ++ [x]) else none
def toI (L : List In) (k : Nat) : List In := L.set k ⟨(L.getD k (inO 0)).op,L.length,(L.getD k (inO 0)).i,(L.getD k (inO 0)).s⟩
def RX : List ByteArray -> List ByteArray -> Bool
 | _,[] => true
 | pre,s :: r => !(pre.any fun t => jJ s t) && RX (pre ++ [s]) r
def QM (p : List Nd) (xs : List Int) : Option (List ByteArray) := if xs.all (nmC p) = true /\ xs.length <= 4 /\ RX [] (xs.map fun x => (nod p x).s) = true then some (xs.map fun x => (nod p x).s) else none
def Qo (s : ByteArray) : List (List ByteArray) -> Nat -> Option (Nat × Int)
 | [],_ => none
 | e :: r,n => if 0 <= xb (fun t => jJ s t) e then some (n,xb (fun t => jJ s t) e) else Qo s r (n + 1)
section
variable (E : List (List ByteArray) -> Int -> List In -> Option (List In))
def Fm (env : List (List ByteArray)) : List Int -> Bool -> List In -> Option (List In)
 | [],_,L => some L
 | x :: r,f,L => (if f = true then some L else emI L (inO 9)).bind fun L1 => (E env x L1).bind fun L2 => Fm env r false L2
def PB (names : List ByteArray) (body : List Int) (env : List (List ByteArray)) (L : List In) : Option (List In) :=
 (emI L ⟨6,(L.length : Int) + 2,names.length,⟨#[]⟩⟩).bind fun L1 => (emI L1 (inO 5)).bind fun L2 => (Fm E (names :: env) body true L2).bind fun L3 => (emI L3 (inO 8)).bind fun L4 => some (toI L4 L1.length)
def My (p : List Nd) (s : ByteArray) (xs : List Int) (env : List (List ByteArray)) (L : List In) : Option (List In) :=
 if jJ s (mk [113,117,111,116,101]) = true then
  if xs.length = 2 then emI L ⟨1,xs.getD 1 0,0,⟨#[]⟩⟩ else none
 else if jJ s (mk [105,102]) = true then
  if xs.length = 4 then
   (E env (xs.getD 1 0) L).bind fun L1 => (emI L1 (inO 4)).bind fun L2 => (E env (xs.getD 2 0) L2).bind fun L3 => (emI L3 (inO 5)).bind fun L4 =>
    (E env (xs.getD 3 0) (toI L4 L1.length)).bind fun L5 => some (toI L5 L3.length)
  else none
 else if jJ s (mk [100,111]) = true then none
 else if jJ s (mk [102,110]) = true then
  if 3 <= xs.length /\ (Cw p (xs.getD 1 0)).2 = true then (QM p (Cw p (xs.getD 1 0)).1).bind fun ns => PB E ns (xs.drop 2) env L else none
 else if jJ s (mk [108,101,116]) = true then
  if 4 <= xs.length then (QM p [xs.getD 1 0]).bind fun ns => (PB E ns (xs.drop 3) env L).bind fun L1 => (E env (xs.getD 2 0) L1).bind fun L2 => emI L2 ⟨7,0,1,⟨#[]⟩⟩ else none
 else none
def Ge (env : List (List ByteArray)) : List Int -> List In -> Option (List In)
 | [],L => some L
 | x :: r,L => (E env x L).bind fun L1 => Ge env r L1
end
def Fq (p : List Nd) : Nat -> List (List ByteArray) -> Int -> List In -> Option (List In)
 | 0,_,_,_ => none
 | k + 1,env,v,L =>
  let x := nod p v
  if x.kind = 1 \/ x.kind = 2 \/ x.kind = 3 then emI L ⟨1,v,0,⟨#[]⟩⟩
  else if x.kind = 4 then
   if PZ x.s = true then none else match Qo x.s env 0 with
    | some (n,i) => emI L ⟨2,n,i,⟨#[]⟩⟩
    | none => emI L ⟨3,0,0,x.s⟩
  else if x.kind = 5 /\ (Cw p v).2 = true then
   let xs := (Cw p v).1
   let h := nod p (xs.getD 0 0)
   if h.kind = 4 /\ PZ h.s = true then My (Fq p k) p h.s xs env L
   else if xs.length > 5 then none
   else (Ge (Fq p k) env xs L).bind fun L1 => emI L1 ⟨7,0,(xs.length : Int) - 1,⟨#[]⟩⟩
  else none
def Qy (p : List Nd) (env : List (List ByteArray)) (v : Int) (L : List In) : Option (List In) := Fq p (v.toNat + 1) env v L
def Qv (p : List Nd) (s : ByteArray) (names : List ByteArray) (body : List Int) (L : List In) (ds : List Df) : Option (List In × List Df) :=
 if (ds.any fun d => jJ d.name s) = true \/ 20 <= ds.length then none else (Fm (Qy p) [names] body true L).bind fun L1 => (emI L1 (inO 8)).bind fun L2 => some (L2,ds ++ [⟨s,L.length,names.length⟩])
def Qh (p : List Nd) (v : Int) (L : List In) (ds : List Df) : Option (List In × List Df) :=
 let l := Cw p v
 if l.2 = true /\ 0 < l.1.length /\ (nod p (l.1.getD 0 0)).kind = 4 /\ jJ (nod p (l.1.getD 0 0)).s (mk [100,101,102,105,110,101]) = true then
  let a := Cw p (l.1.getD 1 0)
  if 3 <= l.1.length /\ a.2 = true /\ 0 < a.1.length /\ nmC p (a.1.getD 0 0) = true then
   (QM p (a.1.drop 1)).bind fun ns => Qv p (nod p (a.1.getD 0 0)).s ns (l.1.drop 2) L ds
  else none
 else Qv p Gv [] [v] L ds
def DT (p : List Nd) (n : Int) : List Int -> List In -> List Df -> Option Cd
 | [],L,ds => if yv ⟨p,L,ds⟩ = true then some ⟨p,L,ds⟩ else none
 | x :: r,L,ds => (Qh p x L ds).bind fun q => DT p n r q.1 q.2

abbrev eCo (p : List Nd) (L : List In) (ds : List Df) : D := .op [.os (5,0) (p.map eN),.os (4,0) (L.map eIn),.os (3,0) (ds.map eDf),iN 0]
abbrev eEn (env : List (List ByteArray)) : List D := env.reverse.map fun e => D.rs (1,0) (e.map D.str)
theorem QG (b : ByteArray) : mk b.data.toList = b := by cases b; rfl
theorem Tl {l : List ByteArray} (hl : l.length < 4611686018427387904) (s : ByteArray) : V 87 [.rs (1,0) (l.map D.str),.str s] = some (iN (xb (fun t => jJ s t) l),[]) := by
 have e1 : l.map D.str = (l.map fun b => b.data.toList).map fun x => D.str (mk x) := by
  rw [List.map_map]; exact List.map_congr_left fun b _ => by simp only [Function.comp_apply,QG]
 have e2 : xb (fun x => jJ s (mk x)) (l.map fun b => b.data.toList) = xb (fun t => jJ s t) l := by
  unfold xb; rw [List.findIdx?_map]; have : (fun x => jJ s (mk x)) ∘ (fun b : ByteArray => b.data.toList) = fun t => jJ s t := by funext b; simp only [Function.comp_apply,QG]
  rw [this]
 have h := FX (l := l.map fun b => b.data.toList) (by simpa using hl) s l.length 0 (by simp)
 rw [vy,e2,Int.natCast_zero,<- e1,lnM] at h
 rw [zr,lnM]
 exact h
theorem Tj {l : List ByteArray} (hl : l.length < 4611686018427387904) (s : ByteArray) : V 77 [.rs (1,0) (l.map D.str),.str s] = some (.bool (l.any fun t => jJ s t),[]) := by
 rw [Aw,yK (Tl hl s),EO]
theorem EW (s : ByteArray) : V 62 [.str s] = some (.bool (PZ s),[]) := by
 have h : V 77 [.rs (1,0) [.str ⟨#[113,117,111,116,101]⟩,.str ⟨#[105,102]⟩,.str ⟨#[102,110]⟩,.str ⟨#[100,111]⟩,.str ⟨#[108,101,116]⟩,.str ⟨#[100,101,102,105,110,101]⟩],.str s] = some (.bool ((wrds.map mk).any fun t => jJ s t),[]) := Tj (l := wrds.map mk) (by decide) s
 rw [List.any_map] at h
 rw [Kq,y7 h]
 rfl
theorem Po {p : List Nd} (L : List In) (ds : List Df) {v : Int} (hv : InP p v) : V 41 [eCo p L ds,iN v] = some (.tup [.str (nod p v).s,.bool ((nod p v).kind == 4)],[eCo p L ds]) := by
 rw [DL,DR hv]
theorem LF {L L' : List In} {x : In} (h : emI L x = some L') : L.length < 400 /\ L' = L ++ [x] := by
 unfold emI at h
 split at h
 ·cases h; exact ⟨‹_›,rfl⟩
 ·cases h
theorem AA {p : List Nd} {L L' : List In} (ds : List Df) {x : In} (h : emI L x = some L') : V 65 [eCo p L ds,eIn x] = some (iN L.length,[eCo p L' ds]) := by
 obtain ⟨h1,rfl⟩ := LF h
 have e : L.map eIn ++ [D.agg [iN x.op,iN x.n,iN x.i,D.str x.s]] = (L ++ [x]).map eIn := by simp
 rw [FJ,e,vQ (xF (by rw [lnM]; simp only [ni]; omega)),vQ (xH rfl),xu (decide_eq_true (by rw [oQ,lnM]; simp only [ni,lnA,lnC,lnN]; omega)),xB,w64 (by rw [lnM]; simp only [ni,lnA,lnC,lnN]; omega) (by rw [lnM]; simp only [ni,lnA,lnC,lnN]; omega)]
 rw [lnM,lnA,lnC,lnN]
 simp [ni]
theorem Oz {p : List Nd} {L : List In} (ds : List Df) {k : Nat} (hk : k < L.length) : V 97 [eCo p L ds,iN k] = some (.tup [],[eCo p (toI L k) ds]) := by
 obtain ⟨x,hx⟩ := wt hk
 have hg : L.getD k (inO 0) = x := by rw [List.getD_eq_getElem?_getD,hx]; rfl
 have e : List.set (L.map eIn) k (D.agg (List.take 1 [iN x.op,iN x.n,iN x.i,D.str x.s] ++ [iN (ni (L.map eIn).length)] ++ List.drop 2 [iN x.op,iN x.n,iN x.i,D.str x.s])) = (toI L k).map eIn := by
  unfold toI; rw [hg,List.map_set,lnM]; rfl
 rw [Fe,wK (xG rfl),xu (by rw [lnM]; exact xz hk),Int.toNat_natCast,w8 hx,wq,xB,e]
theorem KQ {p : List Nd} (L : List In) (ds : List Df) {xs : List Int} (hl : xs.length <= 100000) (hx : ∀ x ∈ xs,InP p x) (hn : xs.all (nmC p) = true) : ∀ (k i : Nat),i + k = xs.length ->
  yx (xs.map eI) (ni (xs.map eI).length) (i : Int) 0 ((xs.take i).map fun x => D.str (nod p x).s) (p.map eN) (L.map eIn) (ds.map eDf) = yx (xs.map eI) (ni (xs.map eI).length) (xs.length : Int) 0 (xs.map fun x => D.str (nod p x).s) (p.map eN) (L.map eIn) (ds.map eDf)
 | 0,i,hi => by
  have : i = xs.length := by omega
  subst this
  rw [List.take_of_length_le (Nat.le_refl _)]
 | k + 1,i,hi => by
  obtain ⟨x,hg⟩ := wt (l := xs) (i := i) (by omega)
  have hp := hx x (List.mem_of_getElem? hg)
  have hnx := List.all_eq_true.1 hn x (List.mem_of_getElem? hg)
  unfold nmC at hnx
  rw [Bool.and_eq_true,Bool.not_eq_true'] at hnx
  have et : (xs.take i).map (fun x => D.str (nod p x).s) ++ [D.str (nod p x).s] = (xs.take (i + 1)).map fun x => D.str (nod p x).s := by
   rw [xo hg,List.map_append]; rfl
  have hlim : decide (ni ((xs.take (i + 1)).map fun x => D.str (nod p x).s).length <= LIM) = true := decide_eq_true (by rw [oQ]; simp only [ni,lnM,List.length_take]; omega)
  have hsp := EW (nod p x).s
  rw [hnx.2] at hsp
  rw [<- KQ L ds hl hx hn k (i + 1) (by omega),zI,wK (by rw [lnM]; exact xA (by omega)),xu (by rw [lnM]; exact xz (by omega)),Int.toNat_natCast,w8 hg,xf,zm (Po L ds hp),hnx.1,Bool.not_true,wJ,Bn hsp,wJ,et,xu hlim,xB,xN (by omega)]
theorem KR {p : List Nd} (L : List In) (ds : List Df) {out : List ByteArray} (hl : out.length <= 100000) : ∀ (k i : Nat),i + k = out.length -> RX (out.take i) (out.drop i) = true ->
  yN (ni (out.map D.str).length) (i : Int) (out.map D.str) 0 (p.map eN) (L.map eIn) (ds.map eDf) = some (.tup [.os (1,0) (out.map D.str),iN 0],[eCo p L ds])
 | 0,i,hi,_ => by
  rw [zx,vQ (by rw [lnM]; exact xt (by omega))]
 | k + 1,i,hi,hd => by
  obtain ⟨s,hs⟩ := wt (l := out) (i := i) (by omega)
  rw [sy hs,RX,Bool.and_eq_true,Bool.not_eq_true'] at hd
  have et : out.take i ++ [s] = out.take (i + 1) := by rw [xo hs]
  have ep : part (out.map D.str) (some (0,Int.toNat (i : Int))) = (out.take i).map D.str := by
   simp only [part,List.drop_zero,Int.toNat_natCast,List.map_take]
  have hh := Tj (l := out.take i) (by simp only [List.length_take]; omega) s
  rw [hd.1] at hh
  rw [zx,wK (by rw [lnM]; exact xA (by omega)),xu (by rw [lnM]; exact xz (by omega)),Int.toNat_natCast,w8 hs,xj,xu (by simp only [cG,lnM,Bool.and_eq_true,decide_eq_true_eq]; omega),<- Int.toNat_natCast i,ep,y7 hh,wJ,Int.toNat_natCast,xN (by omega)]
  exact KR L ds hl k (i + 1) (by omega) (by rw [<- et]; exact hd.2)
theorem RH {p : List Nd} (L : List In) (ds : List Df) {xs : List Int} {ns : List ByteArray} (hx : ∀ x ∈ xs,InP p x) (h : QM p xs = some ns) : V 63 [eCo p L ds,.rs (1,0) (xs.map eI)] = some (.tup [.os (1,0) (ns.map D.str),iN 0],[eCo p L ds]) /\ ns.length <= 4 := by
 unfold QM at h
 split at h
 ·rename_i hc
  obtain ⟨h1,h2,h3⟩ := hc
  cases h
  have a := KQ (p := p) L ds (by omega) hx h1 xs.length 0 (by omega)
  have b := KR (p := p) L ds (out := xs.map fun x => (nod p x).s) (by rw [lnM]; omega) xs.length 0 (by rw [lnM]; omega) (by rw [List.take_zero,List.drop_zero]; exact h3)
  rw [List.map_map,Int.natCast_zero] at b
  rw [Int.natCast_zero,List.take_zero,List.map_nil] at a
  refine ⟨?_,by rw [lnM]; exact h2⟩
  rw [DV,a,zI,vQ (by rw [lnM]; exact xt (by omega)),vQ (decide_eq_false (by rw [lnM]; simp only [ni]; omega)),List.map_map]
  exact b
 ·cases h
end
end Go.Eng
/-! compiling: the program's side: expressions,definitions,programs -/
namespace Go.Eng
noncomputable section
open Go.Proofs Go.Proofs.Try
set_option maxHeartbeats 4000000

theorem bnd {α β : Type} {x : Option α} {f : α -> Option β} {b : β} (h : x.bind f = some b) : ∃ a,x = some a /\ f a = some b := by
 cases x with
 | none => cases h
 | some a => exact ⟨a,rfl,h⟩
def Ib (E : List (List ByteArray) -> Int -> List In -> Option (List In)) : Prop := ∀ env v L L',E env v L = some L' -> L.length <= L'.length
theorem AK {L L' : List In} {x : In} (h : emI L x = some L') : L.length < L'.length := by
 obtain ⟨_,rfl⟩ := LF h
 simp
theorem LT (L : List In) (k : Nat) : (toI L k).length = L.length := by unfold toI; simp
theorem Lh {E : List (List ByteArray) -> Int -> List In -> Option (List In)} (hE : Ib E) (env : List (List ByteArray)) : ∀ (xs : List Int) (f : Bool) (L L' : List In),Fm E env xs f L = some L' -> L.length <= L'.length
 | [],f,L,L',h => by rw [Fm] at h; cases h; exact Nat.le_refl _
 | x :: r,f,L,L',h => by
  rw [Fm] at h
  obtain ⟨L1,h1,h⟩ := bnd h
  obtain ⟨L2,h2,h⟩ := bnd h
  have a := hE _ _ _ _ h2
  have b := Lh hE env r false L2 L' h
  cases f with
  | true => cases h1; omega
  | false => have := AK h1; omega
theorem OQ {E : List (List ByteArray) -> Int -> List In -> Option (List In)} (hE : Ib E) (env : List (List ByteArray)) : ∀ (xs : List Int) (L L' : List In),Ge E env xs L = some L' -> L.length <= L'.length
 | [],L,L',h => by rw [Ge] at h; cases h; exact Nat.le_refl _
 | x :: r,L,L',h => by
  rw [Ge] at h
  obtain ⟨L1,h1,h⟩ := bnd h
  have a := hE _ _ _ _ h1
  have b := OQ hE env r L1 L' h
  omega
theorem Qz {E : List (List ByteArray) -> Int -> List In -> Option (List In)} (hE : Ib E) {names : List ByteArray} {body : List Int} {env : List (List ByteArray)} {L L' : List In} (h : PB E names body env L = some L') : L.length <= L'.length := by
 unfold PB at h
 obtain ⟨L1,h1,h⟩ := bnd h
 obtain ⟨L2,h2,h⟩ := bnd h
 obtain ⟨L3,h3,h⟩ := bnd h
 obtain ⟨L4,h4,h⟩ := bnd h
 cases h
 have a1 := AK h1
 have a2 := AK h2
 have a3 := Lh hE _ _ _ _ _ h3
 have a4 := AK h4
 rw [LT]; omega
theorem RZ {E : List (List ByteArray) -> Int -> List In -> Option (List In)} (hE : Ib E) {p : List Nd} {s : ByteArray} {xs : List Int} {env : List (List ByteArray)} {L L' : List In} (h : My E p s xs env L = some L') : L.length <= L'.length := by
 unfold My at h
 split at h
 ·split at h
  ·have := AK h; omega
  ·cases h
 split at h
 ·split at h
  ·obtain ⟨L1,h1,h⟩ := bnd h
   obtain ⟨L2,h2,h⟩ := bnd h
   obtain ⟨L3,h3,h⟩ := bnd h
   obtain ⟨L4,h4,h⟩ := bnd h
   obtain ⟨L5,h5,h⟩ := bnd h
   cases h
   have a1 := hE _ _ _ _ h1
   have a2 := AK h2
   have a3 := hE _ _ _ _ h3
   have a4 := AK h4
   have a5 := hE _ _ _ _ h5
   rw [LT] at a5 ⊢
   omega
  ·cases h
 split at h
 ·cases h
 split at h
 ·split at h
  ·obtain ⟨ns,h1,h⟩ := bnd h
   exact Qz hE h
  ·cases h
 split at h
 ·split at h
  ·obtain ⟨ns,h1,h⟩ := bnd h
   obtain ⟨L1,h2,h⟩ := bnd h
   obtain ⟨L2,h3,h⟩ := bnd h
   have a1 := Qz hE h2
   have a2 := hE _ _ _ _ h3
   have a3 := AK h
   omega
  ·cases h
 ·cases h
theorem LH (p : List Nd) : ∀ k,Ib (Fq p k)
 | 0 => fun env v L L' h => by rw [Fq] at h; cases h
 | k + 1 => fun env v L L' h => by
  rw [Fq] at h
  simp only at h
  split at h
  ·have := AK h; omega
  split at h
  ·split at h
   ·cases h
   ·split at h
    ·have := AK h; omega
    ·have := AK h; omega
  split at h
  ·split at h
   ·exact RZ (LH p k) h
   ·split at h
    ·cases h
    ·obtain ⟨L1,h1,h⟩ := bnd h
     have a1 := OQ (LH p k) _ _ _ _ h1
     have a2 := AK h
     omega
  ·cases h

def EnvJ (env : List (List ByteArray)) (k : Nat) : Prop := env.length + k <= 10000 /\ ∀ e ∈ env,e.length <= 4
def Ic (p : List Nd) (ds : List Df) (b : Int) (k : Nat) (E : List (List ByteArray) -> Int -> List In -> Option (List In)) : Prop :=
 ∀ env v L L',InP p v -> v < b -> EnvJ env k -> E env v L = some L' -> V 78 [eCo p L ds,iN v,.rs (1,1) (eEn env)] = some (.tup [],[eCo p L' ds])
theorem I5 {p : List Nd} {ds : List Df} {b : Int} {k0 : Nat} {E : List (List ByteArray) -> Int -> List In -> Option (List In)} (hS : Ic p ds b k0 E) {env : List (List ByteArray)} (he : EnvJ env k0) {xs : List Int} (hl : xs.length <= 100000) (hx : ∀ x ∈ xs,InP p x /\ x < b) : ∀ (k i : Nat) (L L' : List In),i + k = xs.length -> Fm E env (xs.drop i) (i == 0) L = some L' ->
  yD (eEn env) (xs.map eI) (ni (xs.map eI).length) (i : Int) 0 (p.map eN) (L.map eIn) (ds.map eDf) = some (.tup [],[eCo p L' ds])
 | 0,i,L,L',hi,h => by
  rw [List.drop_of_length_le (by omega),Fm] at h
  cases h
  rw [zL,vQ (by rw [lnM]; exact xt (by omega))]
 | k + 1,i,L,L',hi,h => by
  obtain ⟨x,hg⟩ := wt (l := xs) (i := i) (by omega)
  have hp := hx x (List.mem_of_getElem? hg)
  rw [sy hg,Fm] at h
  obtain ⟨L1,h1,h⟩ := bnd h
  obtain ⟨L2,h2,h⟩ := bnd h
  have hS2 := hS env x L1 L2 hp.1 hp.2 he h2
  have ih := I5 hS he hl hx k (i + 1) L2 L' (by omega) (by rw [show (i + 1 == 0) = false by simp]; exact h)
  rw [zL,wK (by rw [lnM]; exact xA (by omega)),xu (by rw [lnM]; exact xz (by omega)),Int.toNat_natCast,w8 hg,xf]
  by_cases hi0 : i = 0
  ·subst hi0
   cases h1
   rw [vQ (decide_eq_false (by omega)),yF hS2,xN (by omega)]
   exact ih
  ·have hb : (i == 0) = false := by simpa using hi0
   rw [hb,if_neg (by decide)] at h1
   rw [wK (decide_eq_true (by omega)),xZ (AA ds h1),yF hS2,xN (by omega)]
   exact ih
theorem Pm {p : List Nd} {ds : List Df} {b : Int} {k0 : Nat} {E : List (List ByteArray) -> Int -> List In -> Option (List In)} (hS : Ic p ds b k0 E) {env : List (List ByteArray)} (he : EnvJ env k0) {xs : List Int} (hl : xs.length <= 100000) (hx : ∀ x ∈ xs,InP p x /\ x < b) {L L' : List In} (h : Fm E env xs true L = some L') :
  V 64 [eCo p L ds,.rs (1,0) (xs.map eI),.rs (1,1) (eEn env)] = some (.tup [],[eCo p L' ds]) := by
 have := I5 hS he hl hx xs.length 0 L L' (by omega) h
 rw [Fa]
 exact this
theorem IZ {p : List Nd} {ds : List Df} {b : Int} {k0 : Nat} {E : List (List ByteArray) -> Int -> List In -> Option (List In)} (hS : Ic p ds b k0 E) {env : List (List ByteArray)} (he : EnvJ env k0) {xs : List Int} (hl : xs.length <= 100000) (hx : ∀ x ∈ xs,InP p x /\ x < b) : ∀ (k i : Nat) (L L1 L' : List In),i + k = xs.length -> Ge E env (xs.drop i) L = some L1 -> emI L1 ⟨7,0,(xs.length : Int) - 1,⟨#[]⟩⟩ = some L' ->
  xX (eEn env) (ni (xs.map eI).length) (i : Int) 0 (xs.map eI) (p.map eN) (L.map eIn) (ds.map eDf) = some (.tup [],[eCo p L' ds])
 | 0,i,L,L1,L',hi,h,h2 => by
  rw [List.drop_of_length_le (by omega),Ge] at h
  cases h
  have h3 := AA (p := p) ds h2
  rw [zH,vQ (by rw [lnM]; exact xt (by omega)),lnM,w64 (by simp only [ni]; omega) (by simp only [ni]; omega)]
  rw [xZ h3]
 | k + 1,i,L,L1,L',hi,h,h2 => by
  obtain ⟨x,hg⟩ := wt (l := xs) (i := i) (by omega)
  have hp := hx x (List.mem_of_getElem? hg)
  rw [sy hg,Ge] at h
  obtain ⟨L2,h1,h⟩ := bnd h
  have hS2 := hS env x L L2 hp.1 hp.2 he h1
  have ih := IZ hS he hl hx k (i + 1) L2 L1 L' (by omega) h h2
  rw [zH,wK (by rw [lnM]; exact xA (by omega)),xu (by rw [lnM]; exact xz (by omega)),Int.toNat_natCast,w8 hg,xf,yF hS2,xN (by omega)]
  exact ih
theorem RY {env : List (List ByteArray)} {n : Nat} {e : List ByteArray} (h : env[n]? = some e) : (eEn env)[env.length - 1 - n]? = some (D.rs (1,0) (e.map D.str)) := by
 have hn := aQ h
 rw [List.getElem?_map,List.getElem?_reverse (by omega),show env.length - 1 - (env.length - 1 - n) = n by omega,h]
 rfl
theorem Gi (env : List (List ByteArray)) : (eEn env).length = env.length := by simp
theorem Lf {p : List Nd} {ds : List Df} {env : List (List ByteArray)} (he : env.length <= 10000) (h4 : ∀ e ∈ env,e.length <= 4) {s : ByteArray} {L L' : List In} : ∀ (k n : Nat),n + k = env.length -> (match Qo s (env.drop n) n with | some (a,i) => emI L ⟨2,a,i,⟨#[]⟩⟩ | none => emI L ⟨3,0,0,s⟩) = some L' ->
  yA s (eEn env) ((env.length : Int) - 1 - n) 0 (p.map eN) (L.map eIn) (ds.map eDf) = some (.tup [],[eCo p L' ds])
 | 0,n,hn,h => by
  rw [List.drop_of_length_le (by omega),Qo] at h
  rw [zn,vQ (decide_eq_false (by omega)),xZ (AA ds h)]
 | k + 1,n,hn,h => by
  obtain ⟨e,hg⟩ := wt (l := env) (i := n) (by omega)
  have hx := RY hg
  have ht : ((env.length : Int) - 1 - n).toNat = env.length - 1 - n := by omega
  have hi := Tl (l := e) (by have := h4 e (List.mem_of_getElem? hg); omega) s
  rw [sy hg,Qo] at h
  rw [zn,wK (decide_eq_true (by omega)),xu (by rw [Gi]; simp only [ni,Bool.and_eq_true,decide_eq_true_eq]; omega),ht]
  unfold cz
  rw [hx]
  simp only
  rw [xi,yK hi]
  by_cases h0 : 0 <= xb (fun t => jJ s t) e
  ·rw [if_pos h0] at h
   have h3 := AA (p := p) ds h
   rw [wK (decide_eq_true h0),Gi,w64 (n := ni env.length - 1) (by simp only [ni]; omega) (by simp only [ni]; omega),w64 (by simp only [ni]; omega) (by simp only [ni]; omega),show ni env.length - 1 - ((env.length : Int) - 1 - n) = (n : Int) by simp only [ni]; omega,xZ h3]
  ·rw [if_neg h0] at h
   rw [vQ (decide_eq_false h0),w64 (by omega) (by omega),show (env.length : Int) - 1 - n - 1 = (env.length : Int) - 1 - ((n + 1 : Nat) : Int) by omega]
   exact Lf he h4 k (n + 1) (by omega) h
theorem OG {p : List Nd} {ds : List Df} {env : List (List ByteArray)} {k : Nat} (he : EnvJ env k) {s : ByteArray} (hs : PZ s = false) {L L' : List In} (h : (match Qo s env 0 with | some (a,i) => emI L ⟨2,a,i,⟨#[]⟩⟩ | none => emI L ⟨3,0,0,s⟩) = some L') :
  V 88 [eCo p L ds,.str s,.rs (1,1) (eEn env)] = some (.tup [],[eCo p L' ds]) := by
 have h1 := EW s
 rw [hs] at h1
 have h2 := Lf (p := p) (ds := ds) (by have := he.1; omega) he.2 env.length 0 (by omega) h
 rw [CQ,Bn h1,wJ,Gi,w64 (by simp only [ni]; omega) (by have := he.1; simp only [ni]; omega)]
 rw [show (env.length : Int) - 1 - ((0 : Nat) : Int) = ni env.length - 1 by simp only [ni]; omega] at h2
 exact h2
theorem SK {env : List (List ByteArray)} {k : Nat} (he : EnvJ env k) : V 98 [.rs (1,1) (eEn env)] = some (.os (1,1) (eEn env),[]) := by
 rw [Bh,List.nil_append,xu (decide_eq_true (by have := he.1; rw [oQ,Gi]; simp only [ni]; omega)),xB]
 exact vX _ _
theorem JY {p : List Nd} {ds : List Df} {b : Int} {k0 : Nat} {E : List (List ByteArray) -> Int -> List In -> Option (List In)} (hE : Ib E) (hS : Ic p ds b k0 E) {env : List (List ByteArray)} (he : EnvJ env (k0 + 1)) {names : List ByteArray} (hn : names.length <= 4) {xs : List Int} (hl : xs.length <= 100000) (hx : ∀ x ∈ xs,InP p x /\ x < b) {L L' : List In} (h : PB E names xs env L = some L') :
  V 95 [eCo p L ds,.rs (1,0) (names.map D.str),.rs (1,0) (xs.map eI),.rs (1,1) (eEn env)] = some (.tup [],[eCo p L' ds]) := by
 unfold PB at h
 obtain ⟨L1,h1,h⟩ := bnd h
 obtain ⟨L2,h2,h⟩ := bnd h
 obtain ⟨L3,h3,h⟩ := bnd h
 obtain ⟨L4,h4,h⟩ := bnd h
 cases h
 have g1 := (LF h1).1
 have a1 := AK h1
 have a2 := AK h2
 have a3 := Lh hE _ _ _ _ _ h3
 have a4 := AK h4
 have b1 := AA (p := p) ds h1
 have e1 : w6 (ni (L.map eIn).length + 2) = (L.length : Int) + 2 := by rw [lnM]; exact w64 (by simp only [ni]; omega) (by simp only [ni]; omega)
 have e2 : ni (names.map D.str).length = (names.length : Int) := by rw [lnM]
 have e3 : eEn env ++ [D.rs (1,0) (names.map D.str)] = eEn (names :: env) := by simp
 have he2 : EnvJ (names :: env) k0 := ⟨by have := he.1; simp; omega,fun e h => by rcases List.mem_cons.1 h with rfl | h; exact hn; exact he.2 e h⟩
 have b3 := Pm hS he2 hl hx h3
 rw [CN,e1,e2,xZ b1,xZ (AA ds h2),AR (SK he),e3,xu (decide_eq_true (by have := he2.1; rw [oQ,Gi]; simp only [ni]; omega)),xB,CZ b3,xZ (AA ds h4),Ax (Oz ds (L := L4) (k := L1.length) (by omega))]
theorem RA {p : List Nd} {ds : List Df} {b : Int} {k0 : Nat} {E : List (List ByteArray) -> Int -> List In -> Option (List In)} (hE : Ib E) (hS : Ic p ds b k0 E) {env : List (List ByteArray)} (he : EnvJ env k0) {w x y z : Int} (hx : InP p x /\ x < b) (hy : InP p y /\ y < b) (hz : InP p z /\ z < b) {L L1 L2 L3 L4 L5 : List In}
  (h1 : E env x L = some L1) (h2 : emI L1 (inO 4) = some L2) (h3 : E env y L2 = some L3) (h4 : emI L3 (inO 5) = some L4) (h5 : E env z (toI L4 L1.length) = some L5) :
  V 94 [eCo p L ds,.rs (1,0) ([w,x,y,z].map eI),.rs (1,1) (eEn env)] = some (.tup [],[eCo p (toI L5 L3.length) ds]) := by
 have a2 := AK h2
 have a3 := hE _ _ _ _ h3
 have a4 := AK h4
 have a5 := hE _ _ _ _ h5
 rw [LT] at a5
 rw [DI,Dk,yF (hS _ _ _ _ hx.1 hx.2 he h1),xZ (AA ds h2),LI,yF (hS _ _ _ _ hy.1 hy.2 he h3),xZ (AA ds h4),Ax (Oz ds (L := L4) (k := L1.length) (by omega)),QB,yF (hS _ _ _ _ hz.1 hz.2 he h5),Ax (Oz ds (L := L5) (k := L3.length) (by omega))]
theorem EnvJ.less {env : List (List ByteArray)} {k : Nat} (h : EnvJ env (k + 1)) : EnvJ env k := ⟨by have := h.1; omega,h.2⟩
theorem NC (l : List Int) (k : Nat) (K : Int) (hK : K.toNat = k) : vi (l.map eI) K = (l.drop k).map eI := by
 unfold vi; rw [hK,<- List.map_drop]
theorem SN {p : List Nd} (hp : ye p) (hpl : p.length <= 5000) {ds : List Df} {b : Int} {k0 : Nat} {E : List (List ByteArray) -> Int -> List In -> Option (List In)} (hE : Ib E) (hS : Ic p ds b k0 E) {env : List (List ByteArray)} (he : EnvJ env (k0 + 1)) {s : ByteArray} {xs : List Int} (hl : xs.length <= 100000) (hx : ∀ x ∈ xs,InP p x /\ x < b) {L L' : List In} (h : My E p s xs env L = some L') :
  V 89 [eCo p L ds,.str s,.rs (1,0) (xs.map eI),.rs (1,1) (eEn env)] = some (.tup [],[eCo p L' ds]) := by
 have kill : ∀ {x : List UInt8} {y : Bool},jJ s (mk x) = y -> jJ s ⟨⟨x⟩⟩ = y := fun h => h
 unfold My at h
 by_cases hq : jJ s (mk [113,117,111,116,101]) = true
 ·rw [if_pos hq] at h
  split at h
  ·rename_i h2
   obtain ⟨a,c,rfl⟩ : ∃ a c,xs = [a,c] := by
    match xs,h2 with
    | [a,c],_ => exact ⟨a,c,rfl⟩
   have h : emI L ⟨1,c,0,⟨#[]⟩⟩ = some L' := h
   rw [zf,wK (kill hq),wK (by rfl),Dk,xZ (AA ds h)]
  ·cases h
 rw [if_neg hq] at h
 have hq := eq_false_of_ne_true hq
 by_cases hif : jJ s (mk [105,102]) = true
 ·rw [if_pos hif] at h
  split at h
  ·rename_i h4
   obtain ⟨w,x,y,z,rfl⟩ : ∃ w x y z,xs = [w,x,y,z] := by
    match xs,h4 with
    | [w,x,y,z],_ => exact ⟨w,x,y,z,rfl⟩
   obtain ⟨L1,h1,h⟩ := bnd h
   obtain ⟨L2,h2,h⟩ := bnd h
   obtain ⟨L3,h3,h⟩ := bnd h
   obtain ⟨L4,h4,h⟩ := bnd h
   obtain ⟨L5,h5,h⟩ := bnd h
   cases h
   have hb := RA hE hS he.less (w := w) (hx x (by simp)) (hx y (by simp)) (hx z (by simp)) h1 h2 h3 h4 h5
   rw [zf,vQ (kill hq),wK (kill hif),wK (by rfl),Ga hb]
  ·cases h
 rw [if_neg hif] at h
 have hif := eq_false_of_ne_true hif
 by_cases hdo : jJ s (mk [100,111]) = true
 ·rw [if_pos hdo] at h; cases h
 rw [if_neg hdo] at h
 have hdo := eq_false_of_ne_true hdo
 by_cases hfn : jJ s (mk [102,110]) = true
 ·rw [if_pos hfn] at h
  split at h
  ·rename_i h3
   obtain ⟨h3,h2⟩ := h3
   obtain ⟨ns,h1,h6⟩ := bnd h
   obtain ⟨w,x,r,rfl⟩ : ∃ w x r,xs = w :: x :: r := by
    match xs,h3 with
    | w :: x :: r,_ => exact ⟨w,x,r,rfl⟩
    | [_],h => simp at h
    | [],h => simp at h
   have hx1 := (hx x (by simp)).1
   have b1 := Dd hp (by omega) hx1
   simp only [List.getD_cons_succ,List.getD_cons_zero] at h1 h2
   rw [h2] at b1
   obtain ⟨b2,b3⟩ := RH L ds (Dl hp hx1) h1
   have b4 := JY hE hS he b3 (xs := (w :: x :: r).drop 2) (by rw [List.length_drop]; omega) (fun x h => hx x (List.mem_of_mem_drop h)) h6
   rw [zf,vQ (kill hq),vQ (kill hif),vQ (kill hdo),wK (kill hfn),wK (decide_eq_true (by rw [lnM]; simp only [ni]; omega)),Dk,zi b1,Bool.not_true,wJ,Al b2,vQ (xH rfl),xu (by simp only [cG,lnM,Bool.and_eq_true,decide_eq_true_eq]; omega),NC _ 2 2 rfl,AP b4]
  ·cases h
 rw [if_neg hfn] at h
 have hfn := eq_false_of_ne_true hfn
 by_cases hlt : jJ s (mk [108,101,116]) = true
 ·rw [if_pos hlt] at h
  split at h
  ·rename_i h4
   obtain ⟨ns,h1,h⟩ := bnd h
   obtain ⟨L1,h2,h⟩ := bnd h
   obtain ⟨L2,h3,h6⟩ := bnd h
   obtain ⟨w,x,y,r,rfl⟩ : ∃ w x y r,xs = w :: x :: y :: r := by
    match xs,h4 with
    | w :: x :: y :: r,_ => exact ⟨w,x,y,r,rfl⟩
    | [_,_],h => simp at h
    | [_],h => simp at h
    | [],h => simp at h
   simp only [List.getD_cons_succ,List.getD_cons_zero] at h1 h3
   obtain ⟨b2,b3⟩ := RH (p := p) L ds (xs := [x]) (fun u h => by rw [List.mem_singleton.1 h]; exact (hx x (by simp)).1) h1
   have b4 := JY hE hS he b3 (xs := (w :: x :: y :: r).drop 3) (by rw [List.length_drop]; omega) (fun x h => hx x (List.mem_of_mem_drop h)) h2
   have hy := hx y (by simp)
   have ec : vi (vh ((w :: x :: y :: r).map eI) 2) 1 = [x].map eI := rfl
   rw [zf,vQ (kill hq),vQ (kill hif),vQ (kill hdo),vQ (kill hfn),wK (kill hlt),wK (decide_eq_true (by rw [lnM]; simp only [ni]; omega)),xu (by simp only [cG,lnM,lnC,Bool.and_eq_true,decide_eq_true_eq]; omega),ec,Al b2,vQ (xH rfl),xu (by simp only [cG,lnM,Bool.and_eq_true,decide_eq_true_eq]; omega),NC _ 3 3 rfl,AP b4,LI,yF (hS _ _ _ _ hy.1 hy.2 he.less h3),xZ (AA ds h6)]
  ·cases h
 rw [if_neg hlt] at h
 cases h
end
end Go.Eng
/-! a step of a machine: the reference's side: the stack,the frames,calls -/
namespace Go.Eng
open Go.Proofs Go.Proofs.Try
set_option maxHeartbeats 4000000

end Go.Eng
/-! compiling: the reference's side -/
namespace Go.Eng
open Go.Proofs Go.Proofs.Try
set_option maxHeartbeats 4000000

structure Le (m m' : Ms) : Prop where
 len : m.list.length <= m'.list.length
 four : m'.list.length <= 400
 how : m'.how = 0 -> m.how = 0
 defs : m'.defs = m.defs
theorem Le.refl {m : Ms} (h : m.list.length <= 400) : Le m m := ⟨Nat.le_refl _,h,id,rfl⟩
theorem Le.trans {a b c : Ms} (h : Le a b) (h2 : Le b c) : Le a c := ⟨Nat.le_trans h.len h2.len,h2.four,fun x => h.how (h2.how x),h2.defs.trans h.defs⟩
end Go.Eng
/-! compiling: the reference's side: expressions -/
namespace Go.Eng
open Go.Proofs Go.Proofs.Try
set_option maxHeartbeats 4000000

theorem O5 {p : List Nd} (hp : ye p) : ∀ (k : Nat) (v : Int),InP p v -> ∀ x ∈ (Fj p k v).1,x < v
 | 0,v,hv,x,hx => by simp [Fj] at hx
 | k + 1,v,hv,x,hx => by
  unfold Fj at hx
  split at hx
  ·rename_i h5
   have := yR (Ee hp hv) h5
   rcases List.mem_cons.1 hx with rfl | hx
   ·omega
   ·have := O5 hp k _ (Iq hp hv h5) x hx; omega
  ·simp at hx
theorem R7 {p : List Nd} (hp : ye p) {v : Int} (hv : InP p v) : ∀ x ∈ (Cw p v).1,x < v := O5 hp _ v hv
theorem MG {p : List Nd} (v : Int) : (Cw p v).1.length <= v.toNat + 1 := MF _ _
section
variable {p : List Nd} {k : Nat} {E : List (List ByteArray) -> Int -> Ms -> Ms}
end
theorem R8 {p : List Nd} {v : Int} (h : (nod p v).kind = 5) : (Cw p v).1 ≠ [] := by
 unfold Cw Fj
 rw [if_pos h]
 simp
end Go.Eng
/-! compiling: the program's side: every expression; programs -/
namespace Go.Eng
open Go.Proofs Go.Proofs.Try
set_option maxHeartbeats 4000000

theorem Pn {p : List Nd} (hp : ye p) (hpl : p.length <= 5000) (ds : List Df) : ∀ k : Nat,k <= 5000 -> Ic p ds k k (Fq p k)
 | 0,_ => fun env v L L' hv hlt he h => by rw [Fq] at h; cases h
 | k + 1,hk => fun env v L L' hv hlt he h => by
  have ih := Pn hp hpl ds k (by omega)
  have hG := LH p k
  rw [Fq] at h
  simp only at h
  rw [Fc,vQ (xH rfl),DR hv]
  by_cases k123 : (nod p v).kind = 1 \/ (nod p v).kind = 2 \/ (nod p v).kind = 3
  ·rw [if_pos k123] at h
   have b := AA (p := p) ds h
   rcases k123 with k1 | k1 | k1
   ·rw [vQ (xF (by omega)),vQ (xF (by omega)),wK (xG k1),xZ b]
   ·rw [wK (xG k1),wK (xG k1),xZ b]
   ·rw [vQ (xF (by omega)),wK (xG k1),wK (xG k1),xZ b]
  rw [if_neg k123] at h
  have k1 : (nod p v).kind ≠ 1 := fun h => k123 (.inl h)
  have k2 : (nod p v).kind ≠ 2 := fun h => k123 (.inr (.inl h))
  have k3 : (nod p v).kind ≠ 3 := fun h => k123 (.inr (.inr h))
  rw [vQ (xF k2),vQ (xF k3),vQ (xF k1)]
  by_cases k4 : (nod p v).kind = 4
  ·rw [if_pos k4] at h
   split at h
   ·cases h
   ·rename_i hr
    rw [wK (xG k4),Eh (OG he (eq_false_of_ne_true hr) h)]
  rw [if_neg k4] at h
  rw [vQ (xF k4)]
  split at h
  ·rename_i h5
   obtain ⟨k5,hb⟩ := h5
   have b1 := Dd hp (by omega) hv
   have ll := MG (p := p) v
   have hne := R8 k5
   have hin := Dl hp hv
   have hlt2 := R7 hp hv
   rw [hb] at b1
   rw [wK (xG k5),zi b1,Bool.not_true,wJ]
   generalize hxs : (Cw p v).1 = xs at ll hne hin hlt2 h ⊢
   have hx : ∀ x ∈ xs,InP p x /\ x < (k : Int) := fun x h => ⟨hin x h,by have := hlt2 x h; omega⟩
   obtain ⟨a,r,rfl⟩ : ∃ a r,xs = a :: r := by
    cases xs with
    | nil => exact absurd rfl hne
    | cons a r => exact ⟨a,r,rfl⟩
   have ha := hin a (by simp)
   have hl : (a :: r).length <= 100000 := by have := hv.2; omega
   simp only [List.getD_cons_zero] at h
   rw [zz,zm (Po L ds ha)]
   have fin : (a :: r).length <= 5 -> ∀ L1,Ge (Fq p k) env (a :: r) L = some L1 -> emI L1 ⟨7,0,((a :: r).length : Int) - 1,⟨#[]⟩⟩ = some L' -> br (decide (w6 (ni ((a :: r).map eI).length - 1) > 4)) (iy V 61 [eCo p L ds,iN 1] fun x_1 l_1 => il x_1 fun l => unn l (unc l_1 fun x1 l1 => tk2 x1 fun l5 l8 l11 n14 => (unn l1 (some (.tup [],[.op [.os (5,0) l5,.os (4,0) l8,.os (3,0) l11,iN n14]]))))) (xX (eEn env) (ni ((a :: r).map eI).length) 0 0 ((a :: r).map eI) (p.map eN) (L.map eIn) (ds.map eDf)) = some (.tup [],[eCo p L' ds]) := fun h5 L1 h1 h2 => by
    have w : w6 (ni ((a :: r).map eI).length - 1) = ((a :: r).length : Int) - 1 := by rw [lnM]; exact w64 (by simp only [ni]; omega) (by simp only [ni]; omega)
    have hlo := IZ ih he.less hl hx (a :: r).length 0 L L1 L' (by omega) h1 h2
    rw [w,vQ (decide_eq_false (by omega))]
    exact hlo
   by_cases h4 : (nod p a).kind = 4
   ·rw [xG h4,xl,Bn (EW _)]
    cases hr : PZ (nod p a).s with
    | true =>
     rw [if_pos ⟨h4,hr⟩] at h
     have b := SN hp hpl hG ih he hl hx h
     rw [xl,GY b]
    | false =>
     rw [if_neg (fun q => by rw [hr] at q; exact absurd q.2 (by decide))] at h
     split at h
     ·cases h
     ·rename_i h5
      obtain ⟨L1,h1,h2⟩ := bnd h
      rw [wJ]
      exact fin (by omega) L1 h1 h2
   ·rw [if_neg (fun q => h4 q.1)] at h
    rw [xF h4,wJ]
    split at h
    ·cases h
    ·rename_i h5
     obtain ⟨L1,h1,h2⟩ := bnd h
     exact fin (by omega) L1 h1 h2
  ·cases h
theorem Ua {p : List Nd} (hp : ye p) (hpl : p.length <= 4000) (ds : List Df) : Ic p ds p.length 5000 (Qy p) := fun env v L L' hv hlt he h => by
 unfold Qy at h
 exact Pn hp (by omega) ds (v.toNat + 1) (by have := hv.2; omega) env v L L' hv (by have := hv.1; omega) ⟨by have := he.1; have := hv.2; omega,he.2⟩ h
theorem RE {p : List Nd} {L : List In} {ds : List Df} (hd : ds.length <= 20) (s : ByteArray) : V 23 [.agg [.rs (5,0) (p.map eN),.rs (4,0) (L.map eIn),.rs (3,0) (ds.map eDf)],.str s] = some (iN (xb (fun d : Df => jJ d.name s) ds),[]) := by
 have h := Ct (l := ds) (by omega) s ds.length 0 (Nat.zero_add _)
 rw [vy,Int.natCast_zero] at h
 have h2 : V 46 [.rs (3,0) (ds.map eDf),.fn 47 [.bp [.str s]]] = some (iN (xb (fun d : Df => jJ d.name s) ds),[]) := by
  rw [CM]; exact h
 rw [Ik,z0 h2]
theorem RC {p : List Nd} (hp : ye p) (hpl : p.length <= 4000) {s : ByteArray} {names : List ByteArray} (hn : names.length <= 4) {body : List Int} (hbl : body.length <= 100000) (hb : ∀ x ∈ body,InP p x) {L : List In} {ds : List Df} {r : List In × List Df} (h : Qv p s names body L ds = some r) :
  V 43 [eCo p L ds,.str s,.rs (1,0) (names.map D.str),.rs (1,0) (body.map eI)] = some (.tup [],[eCo p r.1 r.2]) /\ r.2.length <= 20 := by
 unfold Qv at h
 split at h
 ·cases h
 ·rename_i hc
  have hany : (ds.any fun d => jJ d.name s) = false := eq_false_of_ne_true fun e => hc (.inl e)
  have hd : ds.length < 20 := Nat.lt_of_not_le fun e => hc (.inr e)
  obtain ⟨L1,h1,h⟩ := bnd h
  obtain ⟨L2,h2,h⟩ := bnd h
  cases h
  have e1 := RE (p := p) (L := L) (ds := ds) (by omega) s
  have e2 : ds.map eDf ++ [D.agg [D.str s,iN (ni (L.map eIn).length),iN (ni (names.map D.str).length)]] = (ds ++ [(⟨s,L.length,names.length⟩ : Df)]).map eDf := by
   rw [List.map_append,lnM,lnM]; rfl
  have e3 : V 64 [eCo p L (ds ++ [(⟨s,L.length,names.length⟩ : Df)]),.rs (1,0) (body.map eI),.rs (1,1) [.rs (1,0) (names.map D.str)]] = _ := Pm (Ua hp hpl (ds ++ [(⟨s,L.length,names.length⟩ : Df)])) (env := [names]) ⟨by simp,fun e he => by rw [List.mem_singleton.1 he]; exact hn⟩ hbl (fun x h => ⟨hb x h,(hb x h).2⟩) h1
  have e4 := AA (p := p) (ds ++ [(⟨s,L.length,names.length⟩ : Df)]) h2
  refine ⟨?_,by simp; omega⟩
  rw [DK,Jz e1,EO,hany,wJ,e2,xu (decide_eq_true (by rw [oQ,lnM]; simp only [ni,lnA,lnC,lnN]; omega)),xB]
  rw [CZ e3,xZ e4]
theorem T6 {p : List Nd} (hp : ye p) (hpl : p.length <= 4000) {v : Int} (hv : InP p v) {L : List In} {ds : List Df} {res : List In × List Df} (h : Qh p v L ds = some res) :
  V 21 [eCo p L ds,iN v] = some (.tup [],[eCo p res.1 res.2]) /\ (ds.length <= 20 -> res.2.length <= 20) := by
 have b1 := Dd hp (by omega) hv
 have dm : Qv p Gv [] [v] L ds = some res -> V 43 [eCo p L ds,.str ⟨#[109,97,105,110]⟩,.rs (1,0) [],.rs (1,0) [iN v]] = some (.tup [],[eCo p res.1 res.2]) /\ res.2.length <= 20 := fun h => RC hp hpl (names := []) (by simp) (body := [v]) (by simp) (fun x h => by rw [List.mem_singleton.1 h]; exact hv) h
 unfold Qh at h
 simp only at h
 rw [FK,zi b1]
 have hin := Dl hp hv
 have ll := MG (p := p) v
 generalize (Cw p v).1 = xs at h hin ll ⊢
 cases hb : (Cw p v).2 with
 | false =>
  rw [hb,if_neg (fun q => absurd q.1 (by decide))] at h
  obtain ⟨g1,g2⟩ := dm h
  rw [wJ,yW g1]
  exact ⟨rfl,fun _ => g2⟩
 | true =>
  rw [hb] at h
  rw [xl]
  match xs,h,hin,ll with
  | [],h,hin,ll =>
   rw [if_neg (fun q => absurd q.2.1 (by simp))] at h
   obtain ⟨g1,g2⟩ := dm h
   rw [vQ (by rfl),yW g1]
   exact ⟨rfl,fun _ => g2⟩
  | a :: r',h,hin,ll =>
   have ha := hin a (by simp)
   simp only [List.getD_cons_zero] at h
   rw [wK (decide_eq_true (by rw [lnM]; simp only [ni,lnC]; omega)),zz,zm (Po L ds ha)]
   by_cases h4 : (nod p a).kind = 4
   ·rw [xG h4,xl]
    by_cases hs : jJ (nod p a).s (mk [100,101,102,105,110,101]) = true
    ·have hs' : jJ (nod p a).s ⟨#[100,101,102,105,110,101]⟩ = true := hs
     rw [if_pos ⟨trivial,by simp,h4,hs⟩] at h
     rw [hs',xl]
     split at h
     ·rename_i hc
      obtain ⟨c1,c2,c3,c4⟩ := hc
      obtain ⟨ns,h1,h⟩ := bnd h
      obtain ⟨b,c,r,rfl⟩ : ∃ b c r'',r' = b :: c :: r'' := by
       match r',c1 with
       | b :: c :: r',_ => exact ⟨b,c,r',rfl⟩
       | [],h => simp at h
       | [_],h => simp at h
      simp only [List.getD_cons_succ,List.getD_cons_zero] at c2 c3 c4 h1 h
      have hb1 := hin b (by simp)
      have b2 := Dd hp (by omega) hb1
      have i2 := Dl hp hb1
      rw [c2] at b2
      generalize (Cw p b).1 = ys at b2 c3 c4 i2 h1 h
      obtain ⟨f,q,rfl⟩ : ∃ f q,ys = f :: q := by
       cases ys with
       | nil => simp at c3
       | cons f q => exact ⟨f,q,rfl⟩
      have hf := i2 f (by simp)
      simp only [List.getD_cons_zero] at c4 h
      unfold nmC at c4
      rw [Bool.and_eq_true,Bool.not_eq_true'] at c4
      have hsp := EW (nod p f).s
      rw [c4.2] at hsp
      obtain ⟨g1,g2⟩ := RH L ds (xs := (f :: q).drop 1) (fun x h => i2 x (List.mem_of_mem_drop h)) h1
      obtain ⟨g3,g4⟩ := RC hp hpl g2 (body := (a :: b :: c :: r).drop 2) (by have := hv.2; rw [List.length_drop]; omega) (fun x h => hin x (List.mem_of_mem_drop h)) h
      have ep : part ((f :: q).map eI) (some (Int.toNat 1,((f :: q).map eI).length - Int.toNat 1)) = ((f :: q).drop 1).map eI := by
       simp only [part,List.map_cons,List.drop_succ_cons,List.drop_zero,Int.toNat_one]
       exact List.take_of_length_le (by simp)
      have hdef : V 42 [eCo p L ds,.rs (1,0) ((a :: b :: c :: r).map eI)] = some (.tup [],[eCo p res.1 res.2]) := by
       rw [BQ,vQ (decide_eq_false (by rw [lnM]; simp only [ni,lnC]; omega)),Dk,zi b2,Bool.not_true,wJ,vQ (xF (by rw [lnM]; simp only [ni,lnC]; omega)),zz,zm (Po L ds hf),c4.1,Bool.not_true,wJ,Bn hsp,wJ,xu (by simp only [cG,lnM,lnC,Bool.and_eq_true,decide_eq_true_eq]; omega),ep,Al g1,vQ (xH rfl),xu (by simp only [cG,lnM,lnC,Bool.and_eq_true,decide_eq_true_eq]; omega),NC _ 2 2 rfl,yW g3]
      rw [Dn hdef]
      exact ⟨rfl,fun _ => g4⟩
     ·cases h
    ·have hs' : jJ (nod p a).s ⟨#[100,101,102,105,110,101]⟩ = false := eq_false_of_ne_true hs
     rw [if_neg (fun q => hs q.2.2.2)] at h
     obtain ⟨g1,g2⟩ := dm h
     rw [hs',wJ,yW g1]
     exact ⟨rfl,fun _ => g2⟩
   ·rw [if_neg (fun q => h4 q.2.2.1)] at h
    obtain ⟨g1,g2⟩ := dm h
    rw [xF h4,wJ,yW g1]
    exact ⟨rfl,fun _ => g2⟩
noncomputable def Mw (c : Cd) : Bool := c.list.all (fun x => decide (x.s.size <= 1000000)) && c.defs.all (fun x => decide (x.name.size <= 1000000))
theorem KE {p : List Nd} (hpo : xT p = true) (hpl : p.length <= 3000) {xs : List Int} (hxl : xs.length <= 100000) (hx : ∀ x ∈ xs,InP p x) {c : Cd} (hfc : Mw c = true) : ∀ (k i : Nat) (L : List In) (ds : List Df),i + k = xs.length -> ds.length <= 20 -> DT p xs.length (xs.drop i) L ds = some c ->
  yM (xs.map eI) (xs.map eI) (ni (xs.map eI).length) (i : Int) 0 (p.map eN) (L.map eIn) (ds.map eDf) = some (.tup [oCd c,iN 0,iN xs.length],[])
 | 0,i,L,ds,hi,hd,h => by
  rw [List.drop_of_length_le (by omega),DT] at h
  split at h
  ·rename_i hok
   cases h
   have hp : ye p := (okPool_iff.1 hpo).1
   unfold Mw at hfc
   simp only [Bool.and_eq_true,List.all_eq_true,decide_eq_true_eq] at hfc
   have hc := CH (c := ⟨p,L,ds⟩) ⟨z3 hp,by show p.length < _; omega,fun x h => by have := hfc.1 x h; omega,by have := (y8 hok).2.1; show L.length < _; simp only at this; omega,fun x h => by have := hfc.2 x h; omega,by show ds.length < _; omega⟩
   rw [hok] at hc
   rw [zu,vQ (by rw [lnM]; exact xt (by omega)),MO hc,Bool.not_true,wJ,lnM]
  ·cases h
 | k + 1,i,L,ds,hi,hd,h => by
  have hp : ye p := (okPool_iff.1 hpo).1
  obtain ⟨x,hg⟩ := wt (l := xs) (i := i) (by omega)
  rw [sy hg,DT] at h
  obtain ⟨q,h1,h⟩ := bnd h
  obtain ⟨g1,g2⟩ := T6 hp (by omega) (hx x (List.mem_of_getElem? hg)) h1
  have ih := KE hpo hpl hxl hx hfc k (i + 1) q.1 q.2 (by omega) (g2 hd) h
  rw [zu,wK (by rw [lnM]; exact xA (by omega)),xu (by rw [lnM]; exact xz (by omega)),Int.toNat_natCast,w8 hg,xf,IK g1,vQ (xF (by decide)),vQ (xF (by decide)),vQ (xF (by decide)),xN (by omega)]
  exact ih
theorem I8 {p : List Nd} (hl : p.length < 4611686018427387904) {l : List Int} (h2 : l.length < 4611686018427387904) : ∀ (k i : Nat),i + k = l.length -> y3 (l.map eI) (p.map eN) (ni (l.map eI).length) (i : Int) = some (iN (dw (fun r => !wi r 0 ((p.length : Int) - 1)) l i),[])
 | 0,i,hi => by
  rw [z7,vQ (by rw [lnM]; exact xt (by omega)),vN (by omega)]
 | k + 1,i,hi => by
  obtain ⟨x,hx⟩ := wt (l := l) (i := i) (by omega)
  have ih := I8 hl h2 k (i + 1) (by omega)
  have hr : V 19 [iN x,.bp [.rs (5,0) (p.map eN)]] = some (.bool (!wi x 0 ((p.length : Int) - 1)),[]) := by
   rw [NE,Ch (zk hl x)]
  rw [z7,wK (by rw [lnM]; exact xA (by omega)),xu (by rw [lnM]; exact xz (by omega)),Int.toNat_natCast,w8 hx,xf,Jy hr]
  cases h : (!wi x 0 ((p.length : Int) - 1)) with
  | true => rw [xl,vO hx h]
  | false => rw [wJ,xN (by omega),ih,vx hx h]
theorem Nk {p : List Nd} (hl : p.length < 4611686018427387904) {l : List Int} (h2 : l.length < 4611686018427387904) (hx : yk p l = true) : V 18 [.rs (1,0) (l.map eI),.fn 19 [.bp [.rs (5,0) (p.map eN)]]] = some (.bool false,[]) := by
 have h : V 38 [.rs (1,0) (l.map eI),.fn 19 [.bp [.rs (5,0) (p.map eN)]]] = some (iN (xb (fun r => !wi r 0 ((p.length : Int) - 1)) l),[]) := by
  rw [FH,<- vy]
  exact I8 hl h2 l.length 0 (Nat.zero_add _)
 rw [DG,zt h,EO]
 congr 3
 unfold yk at hx
 rw [List.any_eq_false]
 intro x hm
 have := List.all_eq_true.1 hx x hm
 rw [this]; decide
theorem JZ {p : List Nd} (hpo : xT p = true) {xs : List Int} (hxl : xs.length <= 100000) (hx : yk p xs = true) {c : Cd} (h : DT p xs.length xs [] [] = some c) (hfc : Mw c = true) (hne : xs ≠ []) :
  V 9 [eP p,.rs (1,0) (xs.map eI)] = some (.tup [oCd c,iN 0,iN xs.length],[]) := by
 have hpl := yq hpo
 have hp : ye p := (okPool_iff.1 hpo).1
 have hxi : ∀ x ∈ xs,InP p x := fun x h => by
  have := List.all_eq_true.1 hx x h
  have := wi_iff.1 this
  exact ⟨this.1,by omega⟩
 obtain ⟨x,r,rfl⟩ : ∃ x r,xs = x :: r := by
  cases xs with
  | nil => exact absurd rfl hne
  | cons x r => exact ⟨x,r,rfl⟩
 have hlo := KE hpo hpl hxl hxi hfc (x :: r).length 0 [] [] (by omega) (by simp) h
 rw [Kf,AQ (yo (z3 hp) (by omega)),hpo,Bool.not_true,wJ,zj (Nk (by omega) (by omega) hx),wJ,zP (JX (by omega))]
 rw [zu] at hlo
 rw [FF]
 exact hlo
end Go.Eng
/-! the functions as the interpreter has them -/
/-! marks,equality,sizes and copies of nodes and numbers -/
namespace Go.Eng
open Go.Proofs Go.Proofs.Try
set_option maxHeartbeats 4000000

end Go.Eng
/-! sizes,copies and equality of what a law's arguments hold -/
namespace Go.Eng
open Go.Proofs Go.Proofs.Try
set_option maxHeartbeats 4000000

end Go.Eng
/-! a law's arguments: pools,code,machines,processes -/
namespace Go.Eng
open Go.Proofs Go.Proofs.Try
set_option maxHeartbeats 4000000
set_option maxRecDepth 100000

end Go.Eng
/-! machines as bytes,on both sides -/
namespace Go.Eng
open Go.Proofs Go.Proofs.Try
set_option maxHeartbeats 4000000

end Go.Eng
/-! nodes of bytes,on both sides -/
namespace Go.Eng
open Go.Proofs Go.Proofs.Try
set_option maxHeartbeats 4000000

section
variable {b : List UInt8} (hb : b.length < 4611686018427387904)
include hb
end
end Go.Eng
/-! nodes of bytes: the reference's side,and what both come to -/
namespace Go.Eng
open Go.Proofs Go.Proofs.Try
set_option maxHeartbeats 4000000

end Go.Eng
/-! a value read of bytes: both sides come to the same -/
namespace Go.Eng
open Go.Proofs Go.Proofs.Try
set_option maxHeartbeats 4000000

end Go.Eng
/-! a value read of bytes: both sides come to the same -/
namespace Go.Eng
open Go.Proofs Go.Proofs.Try
set_option maxHeartbeats 4000000

end Go.Eng
/-! processes: when they are right,on both sides -/
namespace Go.Eng
open Go.Proofs Go.Proofs.Try
set_option maxHeartbeats 4000000

structure Pr where
 pid : Int
 m : Mc
 box : List ByteArray
 out : List ByteArray
structure FitsR (p : Pr) : Prop where
 pool : Bv p.m.pool
 plen : p.m.pool.length <= 4294967296
 box : ∀ x ∈ p.box,x.size < 4294967296
 blen : p.box.length < 4294967296
 out : ∀ x ∈ p.out,x.size < 4294967296
 olen : p.out.length < 4294967296
end Go.Eng
/-! new machines and processes,on both sides -/
namespace Go.Eng
noncomputable section
open Go.Proofs Go.Proofs.Try
set_option maxHeartbeats 4000000

theorem Oi {α : Type} (p : α -> Bool) (l : List α) : -1 <= xb p l /\ xb p l < l.length := by
 unfold xb
 cases h : l.findIdx? p with
 | none => simp only; omega
 | some k =>
  rw [List.findIdx?_eq_some_iff_getElem] at h
  obtain ⟨hk,_⟩ := h
  simp only; omega
def zMc : Mc := ⟨[],0,0,0,0,0,0,0⟩
def QJ (d : Df) : Mc := ⟨[⟨1,0,⟨#[]⟩,0,0⟩,⟨5,0,⟨#[]⟩,0,0⟩],d.at',0,1,0,0,0,0⟩
def PI (c : Cd) (s : ByteArray) : Option Mc := if yv c = true /\ 0 <= AI c s then
  (match c.defs[(AI c s).toNat]? with | some d => if d.args = 0 then some (QJ d) else none | none => none) else none
def Um (r : Option Mc) : D := match r with | some m => .tup [oMc m,.bool true] | none => .tup [oMc zMc,.bool false]
theorem GI {c : Cd} (hf : FitsC c) (s : ByteArray) : V 10 [eCd c,.str s] = some (Um (PI c s),[]) := by
 have hd := Dv hf s
 have hc := CH hf
 have hb := Oi (fun d : Df => jJ d.name s) c.defs
 rw [GQ]
 unfold PI
 cases e1 : yv c with
 | false => rw [e1] at hc; rw [if_neg (by simp)]; simp (disch := first | omega | (simp only [lnA,lnC,lnN,lnM,xP,vJ]; omega)) only [↓vK,vZ,↓xl,↓xp,↓xf,↓wH,Bool.not_false,hd,hc]; rfl
 | true =>
  rw [e1] at hc
  by_cases e2 : 0 <= AI c s
  ·rw [if_pos ⟨rfl,e2⟩]
   obtain ⟨k,hk⟩ := Int.eq_ofNat_of_zero_le e2
   have hkl : k < c.defs.length := by unfold AI at hk; omega
   obtain ⟨d,hx⟩ := wt hkl
   rw [hk] at hd ⊢
   rw [Int.toNat_natCast,hx]
   by_cases e3 : d.args = 0
   ·simp only [e3,if_true]
    simp (disch := first | omega | (simp only [lnA,lnC,lnN,lnM,xP,vJ]; omega)) only [↓vK,vZ,↓wJ,↓wW,↓xp,↓xf,↓wH,↓wq,↓ww,↓wx,ww,wx,↓w9,xK,xJ,xH,Bool.and_true,Bool.not_true,lnM,vJ,hd,hc,↓w8 hx]
    rfl
   ·simp only [e3,if_false]
    simp (disch := first | omega | (simp only [lnA,lnC,lnN,lnM,xP,vJ]; omega)) only [↓vK,vZ,↓xl,↓wJ,↓wW,↓xp,↓xf,↓wH,↓wq,↓wx,wx,↓w9,xK,xJ,xI,Bool.and_true,Bool.not_true,lnM,vJ,hd,hc,↓w8 hx]
    rfl
  ·rw [if_neg (fun h => e2 h.2)]
   simp (disch := first | omega | (simp only [lnA,lnC,lnN,lnM,xP,vJ]; omega)) only [↓vK,vZ,↓xl,↓wJ,↓xp,↓xf,↓wH,xK,Bool.not_true,hd,hc]
   rfl
end
end Go.Eng
/-! programs that are read,compiled and run,plain and with their calls -/
namespace Go.Eng
noncomputable section
open Go.Proofs Go.Proofs.Try
set_option maxHeartbeats 4000000

def tS (w : List UInt8) : Tk := .wd w ⟨4,0,mk w,0,0⟩
def tN (n : Int) : Tk := .wd (yc n) (ndI n)
def zR (c : Cd) : Nat -> Mc -> Option Mc
 | 0,m => some m
 | k + 1,m => if m.state = 0 then zR c k (zZ (Cm c m)) else none
theorem JP {c : Cd} : ∀ (j : Nat) (m m' : Mc),zR c j m = some m' -> ∀ k,Bc c (j + k) m = ((Bc c k m').1,(Bc c k m').2 + j)
 | 0,m,m',h,k => by
  rw [zR] at h; cases h
  simp
 | j + 1,m,m',h,k => by
  rw [zR] at h
  by_cases h0 : m.state = 0
  ·rw [if_pos h0] at h
   have ih := JP j _ m' h k
   rw [show j + 1 + k = (j + k) + 1 by omega,Bc,if_pos h0,ih]
   simp only [Nat.add_assoc]
  ·rw [if_neg h0] at h; cases h
theorem Oj {c : Cd} {m : Mc} (h : m.state ≠ 0) : ∀ k,Bc c k m = (m,0)
 | 0 => rfl
 | k + 1 => by rw [Bc,if_neg h]
theorem AW {c : Cd} {i j : Nat} {m m1 m2 : Mc} (h1 : zR c i m = some m1) (h2 : zR c j m1 = some m2) : zR c (i + j) m = some m2 := by
 induction i generalizing m with
 | zero => rw [zR] at h1; cases h1; rw [Nat.zero_add]; exact h2
 | succ i ih =>
  rw [zR] at h1
  rw [show i + 1 + j = (i + j) + 1 by omega,zR]
  by_cases h0 : m.state = 0
  ·rw [if_pos h0] at h1 ⊢; exact ih h1
  ·rw [if_neg h0] at h1; cases h1
theorem T5 {c : Cd} (hf : FitsC c) {m m' : Mc} {j : Nat} (hok : z4 c m = true) (h : zR c j m = some m') (hs : m'.state ≠ 0) {steps : Int} (h1 : (j : Int) <= steps) (h2 : j <= 2000) : V 11 [eCd c,eMc m,iN steps] = some (.tup [oMc m',iN j],[]) := by
 obtain ⟨r1,r2,r3,_⟩ := Dq hok
 have hv := Kv hf (z3 r2) (by omega) steps
 have hm : j <= (mnI steps 2000).toNat := by unfold mnI; split <;> omega
 have hr : QZ c m steps = (m',j) := by
  unfold QZ
  rw [if_pos hok,show (mnI steps 2000).toNat = j + ((mnI steps 2000).toNat - j) by omega,JP j m m' h,Oj hs]
  simp
 rw [hr] at hv
 exact hv
theorem Pz : Bv [] := fun x h => by simp at h
structure Prog1 (ts : List Tk) (q : List Nd) (rs : List Int) (c : Cd) (m : Mc) : Prop where
 ok : OkT ts
 len : (yP ts).length <= 400
 read : rdT ts [] [] [] = some (q,rs)
 few : rs ≠ [] /\ rs.length <= 1000
 pool : xT q = true
 root : yk q rs = true
 comp : DT q rs.length rs [] [] = some c
 fits : Mw c = true
 new : PI c Gv = some m
 mok : z4 c m = true
section
variable {ts : List Tk} {q : List Nd} {rs : List Int} {c : Cd} {m : Mc}
theorem Pc (h : Prog1 ts q rs c m) : FitsC c := by
 obtain ⟨r1,r2,r3,_⟩ := Dq h.mok
 obtain ⟨c1,c2,c3⟩ := y8 r1
 have hl := yq c1
 have hfc := h.fits
 unfold Mw at hfc
 simp only [Bool.and_eq_true,List.all_eq_true,decide_eq_true_eq] at hfc
 exact ⟨z3 (okPool_iff.1 c1).1,by omega,fun x h => by have := hfc.1 x h; omega,by omega,fun x h => by have := hfc.2 x h; omega,by omega⟩
theorem Si (h : Prog1 ts q rs c m) : V 8 [.agg [.rs (5,0) []],.str (mk (yP ts))] = some (.tup [oP q,.os (1,0) (rs.map eI),iN 0,iN ((yP ts).length : Int)],[]) := by
 have h1 : V 8 [.agg [.rs (5,0) []],.str (mk (yP ts))] = _ := Nn Pz (by simp) (yP ts)
 rw [PU h.ok (by decide) h.len h.read,if_pos h.pool] at h1
 exact h1
theorem Sg (h : Prog1 ts q rs c m) : V 9 [eP q,.rs (1,0) (rs.map eI)] = some (.tup [oCd c,iN 0,iN rs.length],[]) :=
 JZ h.pool (by have := h.few.2; omega) h.root h.comp h.fits h.few.1
theorem TH (h : Prog1 ts q rs c m) : V 10 [eCd c,.str ⟨#[109,97,105,110]⟩] = some (.tup [oMc m,.bool true],[]) := by
 have h1 : V 10 [eCd c,.str ⟨#[109,97,105,110]⟩] = _ := GI (Pc h) Gv
 rw [h.new] at h1
 exact h1
end
theorem Sa {x y : Nd} (h : BU x y = true) : x = y := by
 unfold BU at h
 simp only [Bool.and_eq_true,beq_iff_eq] at h
 obtain ⟨h1,h2,h3,h4,h5⟩ := h
 rw [AX] at h3
 have h3 := of_decide_eq_true h3
 cases x; cases y
 simp only at h1 h2 h3 h4 h5
 rw [h1,h2,h3,h4,h5]
theorem Iw (s : ByteArray) : jJ s s = true := by rw [AX]; simp
def okW (w : List UInt8) (n : Nd) : Bool := (!w.isEmpty && w.all zD) && (match Bf w with | some m => BU m n | none => false)
theorem GB {w : List UInt8} {n : Nd} {r : List Tk} (h : okW w n = true) (hn : Sc r = true) (hr : OkT r) : OkT (.wd w n :: r) := by
 unfold okW at h
 rw [Bool.and_eq_true,Bool.and_eq_true] at h
 obtain ⟨⟨h1,h2⟩,h3⟩ := h
 refine ⟨⟨?_,h2,?_⟩,hn,hr⟩
 ·rintro rfl; simp at h1
 ·cases e : Bf w with
  | none => rw [e] at h3; cases h3
  | some m => rw [e] at h3; rw [Sa h3]
theorem Iu {n : Int} {r : List Tk} (h : n.natAbs <= 1000000000) (hn : Sc r = true) (hr : OkT r) : OkT (tN n :: r) := by
 obtain ⟨d,s,hd,_,ha⟩ := KG (n := n)
 exact ⟨⟨by rw [hd]; simp,ha,RN h⟩,hn,hr⟩
theorem Pf {c : Cd} : ∀ (j : Nat) {m m' : Mc},z4 c m = true -> zR c j m = some m' -> z4 c m' = true
 | 0,m,m',h,hr => by rw [zR] at hr; cases hr; exact h
 | j + 1,m,m',h,hr => by
  rw [zR] at hr
  by_cases h0 : m.state = 0
  ·rw [if_pos h0] at hr
   refine Pf j ?_ hr
   have s1 := Nc h h0
   unfold zZ
   split
   ·exact s1
   ·exact Pk s1
  ·rw [if_neg h0] at hr; cases hr
theorem TG {c : Cd} {m : Mc} (h : z4 c m = true) (hs : m.state = 2) : xT m.pool = true /\ InP m.pool m.arg /\ InP m.pool m.arg := by
 obtain ⟨q1,q2,_⟩ := JF h
 have hm : m.arg ∈ yw m := by unfold yw holds; rw [if_pos (by simp [hs])]; simp
 have := wi_iff.1 (List.all_eq_true.1 q2 _ hm)
 exact ⟨q1,⟨this.1,by omega⟩,⟨this.1,by omega⟩⟩
end
end Go.Eng
/-! a step that takes two numbers,told; pools with other numbers in them -/
namespace Go.Eng
noncomputable section

theorem zB {p : List Nd} (h : xT p = true) (i : Nat) {x : Int} (hx : x.natAbs <= 1000000000) : xT (p.set i (ndI x)) = true := by
 obtain ⟨h1,h2⟩ := okPool_iff.1 h
 refine okPool_iff.2 ⟨fun j y hy => ?_,by rw [List.length_set]; exact h2⟩
 rw [List.getElem?_set] at hy
 split at hy
 ·split at hy
  ·cases hy
   have hw : wi x (-1000000000) 1000000000 = true := wi_iff.2 ⟨by omega,by omega⟩
   show (if (3 : Int) = 1 then _ else if (3 : Int) = 2 then _ else if (3 : Int) = 3 then wi x (-1000000000) 1000000000 && (nz ⟨#[]⟩ && ((0 : Int) == 0 && (0 : Int) == 0)) else _) = true
   rw [if_neg (by decide),if_neg (by decide),if_pos rfl,hw,Cx]
   rfl
  ·cases hy
 ·exact h1 j y hy
def BH (n X Y : Int) : Nd := if n = 1 then ndI (X + Y) else if n = 2 then ndI (X - Y) else if n = 3 then ndI (X * Y) else if n = 4 then ndB (decide (X < Y)) else ndB (X == Y)
def Cq (m1 : Mc) (z : Nd) : Mc := ⟨m1.pool ++ [z] ++ [ndP m1.pool.length m1.s],m1.at' + 1,((m1.pool ++ [z]).length : Int),m1.e,m1.d,m1.state,m1.ask,m1.arg⟩
theorem GH {c : Cd} {m m1 : Mc} {l : List Int} {n X Y : Int} (h0 : m.state = 0) (h7 : (c.list.getD m.at'.toNat ⟨0,0,0,⟨#[]⟩⟩).op = 7) (hi : (c.list.getD m.at'.toNat ⟨0,0,0,⟨#[]⟩⟩).i.toNat = 2) (hp : zK c (m.at' + 1) = true) (ht : Ap 3 m = some (l,m1))
  (hf : nod m1.pool (l.reverse.getD 0 0) = ndR n) (hpa : yi n = ((l.reverse.drop 1).length : Int)) (h5 : n <= 5) (hX : nod m1.pool ((l.reverse.drop 1).getD 0 0) = ndI X) (hY : nod m1.pool ((l.reverse.drop 1).getD 1 0) = ndI Y)
  (hw : wi (BH n X Y).n (-1000000000) 1000000000 = true) (hl : m1.pool.length <= 1990) : zR c 1 m = some (Cq m1 (BH n X Y)) := by
 have hpr : GC m1.pool n (l.reverse.drop 1) = .ok (m1.pool ++ [BH n X Y],m1.pool.length) := by
  unfold GC
  simp only
  rw [if_pos h5,hX,hY,if_pos ⟨rfl,rfl⟩]
  have e : (if n = 1 then ndI ((ndI X).n + (ndI Y).n) else if n = 2 then ndI ((ndI X).n - (ndI Y).n) else if n = 3 then ndI ((ndI X).n * (ndI Y).n) else if n = 4 then ndB (decide ((ndI X).n < (ndI Y).n)) else ndB ((ndI X).n == (ndI Y).n)) = BH n X Y := rfl
  rw [e,if_pos hw]
 have hc : Au c 3 m1 (l.reverse.getD 0 0) (l.reverse.drop 1) = .ok (Cq m1 (BH n X Y)) := by
  show Au c (2 + 1) m1 _ _ = _
  rw [Au,hf]
  simp only
  rw [if_neg (by decide),if_pos trivial,if_neg (by rw [hpa]; simp),if_neg (by omega),if_neg (by omega),hpr]
  rfl
 have hd : doM c m = .ok (Cq m1 (BH n X Y)) := by
  unfold doM
  simp only
  rw [if_pos h7,hi]
  unfold Ai
  rw [if_neg (by rw [hp]; decide),ht]
  exact hc
 have hs : Cm c m = Cq m1 (BH n X Y) := by
  unfold Cm
  rw [hd]
  simp only
  rw [if_pos (by unfold Cq; simp; omega)]
 rw [zR,if_pos h0,zR,hs]
 unfold zZ
 rw [if_pos (by unfold Cq; simp; omega)]
def QY (c : Cd) : Bool := decide (c.list.length <= 400) && (decide (c.defs.length <= 20) && (BL c 0 c.list.length && AV c 0 c.defs.length))
theorem RQ {p : List Nd} {L : List In} {ds : List Df} (h : xT p = true) (hr : QY ⟨p,L,ds⟩ = true) : yv ⟨p,L,ds⟩ = true := by
 unfold yv
 show (xT p && QY ⟨p,L,ds⟩) = true
 rw [h,hr]; rfl
def QX (c : Cd) (m : Mc) : Bool := xT m.pool && (Bi m.pool m.s && (Bi m.pool m.e && (Bi m.pool m.d && Gb c m)))
theorem TC {c : Cd} {m : Mc} (h : yv c = true) (hr : QX c m = true) : z4 c m = true := by
 unfold z4
 show (yv c && QX c m) = true
 rw [h,hr]; rfl
theorem RT {p : List Nd} {r : Int} {L : List In} {ds : List Df} (ht : Qh p r [] [] = some (L,ds)) (hc : yv ⟨p,L,ds⟩ = true) : DT p 1 [r] [] [] = some ⟨p,L,ds⟩ := by
 rw [DT,ht]
 show DT p 1 [] L ds = _
 rw [DT,if_pos hc]
theorem TE {c : Cd} {d : Df} (hc : yv c = true) (h0 : decide (0 <= AI c Gv) = true) (hd : c.defs[(AI c Gv).toNat]? = some d) (ha : d.args = 0) : PI c Gv = some (QJ d) := by
 unfold PI
 rw [if_pos ⟨hc,of_decide_eq_true h0⟩,hd]
 simp only [ha,if_true]
end
end Go.Eng
/-! sums: their run -/
namespace Go.Eng
noncomputable section
set_option maxHeartbeats 4000000

def Ol (x y : Int) : List Tk := [.op,tS [99,111,110,115],.sp,.op,tS [43],.sp,tN x,.sp,tN y,.cl,.sp,.op,tS [99,111,110,115],.sp,.op,tS [45],.sp,tN x,.sp,tN y,.cl,.sp,.op,tS [99,111,110,115],.sp,.op,tS [42],.sp,tN x,.sp,tN y,.cl,.sp,.op,tS [99,111,110,115],.sp,.op,tS [60],.sp,tN x,.sp,tN y,.cl,.sp,.op,tS [113,117,111,116,101],.sp,.op,.cl,.cl,.cl,.cl,.cl,.cl]
set_option maxRecDepth 100000 in
theorem TV {x y : Int} (hx : x.natAbs <= 1000000000) (hy : y.natAbs <= 1000000000) : OkT (Ol x y) := GB (by decide +kernel) rfl (GB (by decide +kernel) rfl (Iu hx rfl (Iu hy rfl (GB (by decide +kernel) rfl (GB (by decide +kernel) rfl (Iu hx rfl (Iu hy rfl (GB (by decide +kernel) rfl (GB (by decide +kernel) rfl (Iu hx rfl (Iu hy rfl (GB (by decide +kernel) rfl (GB (by decide +kernel) rfl (Iu hx rfl (Iu hy rfl (GB (by decide +kernel) rfl (True.intro)))))))))))))))))
def JT (x y : Int) : List Nd := ((rdT (Ol x y) [] [] []).getD ([],[])).1
def sumK : List In × List Df := (Qh (JT 0 0) 52 [] []).getD ([],[])
def Du (x y : Int) : Cd := ⟨JT x y,sumK.1,sumK.2⟩
theorem TW (x y : Int) : rdT (Ol x y) [] [] [] = some (JT x y,[52]) := by kernel_rfl
theorem SI (x y : Int) : JT x y = ((((((((JT 0 0).set 2 (ndI x)).set 3 (ndI y)).set 10 (ndI x)).set 11 (ndI y)).set 18 (ndI x)).set 19 (ndI y)).set 26 (ndI x)).set 27 (ndI y) := by kernel_rfl
theorem Nf {x y : Int} (hx : x.natAbs <= 1000000000) (hy : y.natAbs <= 1000000000) : xT (JT x y) = true := by rw [SI]; exact (zB (zB (zB (zB (zB (zB (zB (zB (by decide +kernel) 2 hx) 3 hy) 10 hx) 11 hy) 18 hx) 19 hy) 26 hx) 27 hy)
theorem Rv (x y : Int) : yk (JT x y) [52] = true := by kernel_rfl
theorem SJ (x y : Int) : Qh (JT x y) 52 [] [] = some (sumK.1,sumK.2) := by kernel_rfl
theorem JU {x y : Int} (hx : x.natAbs <= 1000000000) (hy : y.natAbs <= 1000000000) : yv ⟨JT x y,sumK.1,sumK.2⟩ = true := RQ (Nf hx hy) (by kernel_rfl)
theorem Rq {x y : Int} (hx : x.natAbs <= 1000000000) (hy : y.natAbs <= 1000000000) : DT (JT x y) 1 [52] [] [] = some (Du x y) := RT (SJ x y) (JU hx hy)
def Qc : Mc := QJ (sumK.2.getD 0 ⟨Gv,0,0⟩)
theorem Sn {x y : Int} (hx : x.natAbs <= 1000000000) (hy : y.natAbs <= 1000000000) : PI (Du x y) Gv = some Qc := TE (JU hx hy) (by kernel_rfl) (by kernel_rfl) (by kernel_rfl)
theorem Sk {x y : Int} (hx : x.natAbs <= 1000000000) (hy : y.natAbs <= 1000000000) : z4 (Du x y) Qc = true := TC (JU hx hy) (by kernel_rfl)
def Q9 (x y : Int) : Mc := (zR (Du x y) 4 (Qc)).getD zMc
def Rj (x y : Int) : List Int × Mc := (Ap 3 (Q9 x y)).getD ([],zMc)
def Re (x y : Int) : Mc := Cq (Rj x y).2 (BH 1 x y)
theorem TK (x y : Int) : zR (Du x y) 4 (Qc) = some (Q9 x y) := by kernel_rfl
theorem TP {x y : Int} (hw : wi (BH 1 x y).n (-1000000000) 1000000000 = true) : zR (Du x y) 1 (Q9 x y) = some (Re x y) :=
 GH (n := 1) (X := x) (Y := y) (l := (Rj x y).1) (m1 := (Rj x y).2) (by kernel_rfl) (by kernel_rfl) (by kernel_rfl) (by kernel_rfl) (by kernel_rfl) (by kernel_rfl) (by kernel_rfl) (by decide) (by kernel_rfl) (by kernel_rfl) hw (of_decide_eq_true (by kernel_rfl))
def Ra (x y : Int) : Mc := (zR (Du x y) 4 (Re x y)).getD zMc
def Rk (x y : Int) : List Int × Mc := (Ap 3 (Ra x y)).getD ([],zMc)
def Rf (x y : Int) : Mc := Cq (Rk x y).2 (BH 2 x y)
theorem TL (x y : Int) : zR (Du x y) 4 (Re x y) = some (Ra x y) := by kernel_rfl
theorem TQ {x y : Int} (hw : wi (BH 2 x y).n (-1000000000) 1000000000 = true) : zR (Du x y) 1 (Ra x y) = some (Rf x y) :=
 GH (n := 2) (X := x) (Y := y) (l := (Rk x y).1) (m1 := (Rk x y).2) (by kernel_rfl) (by kernel_rfl) (by kernel_rfl) (by kernel_rfl) (by kernel_rfl) (by kernel_rfl) (by kernel_rfl) (by decide) (by kernel_rfl) (by kernel_rfl) hw (of_decide_eq_true (by kernel_rfl))
def Rb (x y : Int) : Mc := (zR (Du x y) 4 (Rf x y)).getD zMc
def Rl (x y : Int) : List Int × Mc := (Ap 3 (Rb x y)).getD ([],zMc)
def Rh (x y : Int) : Mc := Cq (Rl x y).2 (BH 3 x y)
theorem TM (x y : Int) : zR (Du x y) 4 (Rf x y) = some (Rb x y) := by kernel_rfl
theorem TT {x y : Int} (hw : wi (BH 3 x y).n (-1000000000) 1000000000 = true) : zR (Du x y) 1 (Rb x y) = some (Rh x y) :=
 GH (n := 3) (X := x) (Y := y) (l := (Rl x y).1) (m1 := (Rl x y).2) (by kernel_rfl) (by kernel_rfl) (by kernel_rfl) (by kernel_rfl) (by kernel_rfl) (by kernel_rfl) (by kernel_rfl) (by decide) (by kernel_rfl) (by kernel_rfl) hw (of_decide_eq_true (by kernel_rfl))
def Rc (x y : Int) : Mc := (zR (Du x y) 4 (Rh x y)).getD zMc
def Rm (x y : Int) : List Int × Mc := (Ap 3 (Rc x y)).getD ([],zMc)
def Ri (x y : Int) : Mc := Cq (Rm x y).2 (BH 4 x y)
theorem TN (x y : Int) : zR (Du x y) 4 (Rh x y) = some (Rc x y) := by kernel_rfl
theorem TU {x y : Int} (hw : wi (BH 4 x y).n (-1000000000) 1000000000 = true) : zR (Du x y) 1 (Rc x y) = some (Ri x y) :=
 GH (n := 4) (X := x) (Y := y) (l := (Rm x y).1) (m1 := (Rm x y).2) (by kernel_rfl) (by kernel_rfl) (by kernel_rfl) (by kernel_rfl) (by kernel_rfl) (by kernel_rfl) (by kernel_rfl) (by decide) (by kernel_rfl) (by kernel_rfl) hw (of_decide_eq_true (by kernel_rfl))
def C9 (x y : Int) : Mc := (zR (Du x y) 6 (Ri x y)).getD zMc
theorem Ub (x y : Int) : zR (Du x y) 6 (Ri x y) = some (C9 x y) := by kernel_rfl
theorem SG {x y : Int} (hw1 : wi (BH 1 x y).n (-1000000000) 1000000000 = true) (hw2 : wi (BH 2 x y).n (-1000000000) 1000000000 = true) (hw3 : wi (BH 3 x y).n (-1000000000) 1000000000 = true) (hw4 : wi (BH 4 x y).n (-1000000000) 1000000000 = true) : zR (Du x y) (4 + (1 + (4 + (1 + (4 + (1 + (4 + (1 + (6))))))))) Qc = some (C9 x y) := AW (TK x y) (AW (TP hw1) (AW (TL x y) (AW (TQ hw2) (AW (TM x y) (AW (TT hw3) (AW (TN x y) (AW (TU hw4) (Ub x y))))))))
theorem Qd (x y : Int) : (C9 x y).state = 2 := by kernel_rfl
theorem Ru {x y : Int} (hx : x.natAbs <= 1000000000) (hy : y.natAbs <= 1000000000) (hl : (yP (Ol x y)).length <= 400) : Prog1 (Ol x y) (JT x y) [52] (Du x y) Qc :=
 ⟨TV hx hy,hl,TW x y,⟨by simp,by simp⟩,Nf hx hy,Rv x y,Rq hx hy,by kernel_rfl,Sn hx hy,Sk hx hy⟩
end
end Go.Eng
/-! what is drawn: the cursor -/
namespace Go.Eng
open Go.Proofs Go.Proofs.Try

noncomputable def eB (x : Int) : D := .int .u8 x
section
variable {b : List Int} {c : Int × Int}
end
theorem Ue (b : List Int) : V 7 [.rs (1,0) (b.map eB)] = some (.bool (decide ((b.length : Int) > 1048576)),[]) := by
 rw [Px,lnM]
end Go.Eng
/-! a draw's bytes,for the laws that look at them -/
namespace Go.Eng
open Go.Proofs Go.Proofs.Try
set_option maxHeartbeats 4000000

set_option maxRecDepth 100000 in
theorem Pt {x : D} (h : ShapeV prog 22 x) : ∃ b : List Int,x = .rs (1,0) (b.map eB) /\ b.length < 4611686018427387904 /\ ∀ n ∈ b,0 <= n /\ n <= 255 := by
 obtain ⟨ys,hs,rfl⟩ := h
 obtain ⟨bs,rfl,h1,h2⟩ := hs.slice Try.underlying22 (show zOf prog 5 = some (1,0) by kernel_rfl)
 obtain ⟨l,rfl,hl⟩ := ru (enc := eB) (p := fun n : Int => 0 <= n /\ n <= 255) (ys := bs) (fun x hx => by
  obtain ⟨ps,hs,rfl⟩ := h2 x hx
  obtain ⟨n,rfl,hw⟩ := hs.int Try.underlying5
  exact ⟨n,rl Try.underlying5,wf8 hw⟩)
 have hby : prog.bytesOf 5 = 1 := by kernel_rfl
 have hr : reachBytes = 140737488351232 := rfl
 rw [hby,lnM] at h1
 exact ⟨l,by rw [vj Try.underlying22],by omega,hl⟩
theorem Th {b : List Int} (hb : b.length < 4611686018427387000) (h8 : ∀ n ∈ b,0 <= n /\ n <= 255) {i : Int} (h0 : 0 <= i) (h1 : i < 1000) : ∃ v : Int,V 12 [.rs (1,0) (b.map eB),iN i] = some (iN v,[]) /\ 0 <= v /\ v <= 255 := by
 rw [Qx,lnM]
 by_cases h : i < (b.length : Int)
 ·obtain ⟨x,hx⟩ := wt (l := b) (i := i.toNat) (by omega)
  obtain ⟨x0,x1⟩ := h8 x (List.mem_of_getElem? hx)
  refine ⟨x,?_,x0,x1⟩
  rw [wK (decide_eq_true h),xu (by simp only [ni,Bool.and_eq_true,decide_eq_true_eq]; omega),w8 hx]
  show (asI .u8 (D.int .u8 x) fun n1 => some (iN (w6 n1),([] : List D))) = _
  rw [xf,w64 (by omega) (by omega)]
 ·refine ⟨Int.tmod (w6 (w6 (i * 7) + ni b.length)) 256,?_,?_⟩
  ·rw [vQ (decide_eq_false h),xu (by decide)]
  ·rw [w64 (n := i * 7) (by omega) (by omega),w64 (n := i * 7 + ni b.length) (by simp only [ni]; omega) (by simp only [ni]; omega)]
   have : 0 <= i * 7 + ni b.length := by simp only [ni]; omega
   rw [Int.tmod_eq_emod_of_nonneg this]
   omega
end Go.Eng
/-! a law's own digits -/
namespace Go.Eng
open Go.Proofs Go.Proofs.Try

theorem ML {d : Nat} (h : d < 10) (K : ByteArray -> Option Ret) : gb [D.int .u8 (IntKind.wrap .u8 (w6 (48 + (d : Int))))] K = K (mk [UInt8.ofNat (48 + d)]) := by
 have e : [D.int .u8 (IntKind.wrap .u8 (w6 (48 + (d : Int))))] = [UInt8.ofNat (48 + d)].map eU := by
  rw [Rz h]
  simp only [List.map_cons,List.map_nil,eU,Ck (show 48 + d < 256 by omega)]
  simp
 rw [e,Jx]
theorem ME : ∀ (n : Nat),n < 1000000000000000000 -> V 14 [iN (n : Int)] = some (.str (mk (BN n)),[]) := by
 intro n
 induction n using Nat.strongRecOn with
 | _ n ih =>
  intro hn
  rw [Gq,vQ (decide_eq_false (by omega))]
  by_cases h : n < 10
  ·rw [wK (decide_eq_true (by omega)),ML h,za h]
  ·rw [vQ (decide_eq_false (by omega)),xu (by decide),Oq,w64 (by omega) (by omega),yl (ih (n / 10) (by omega) (by omega)),xu (by decide),Ot,ML (by omega),xu (Gt (by have := Av (n := n / 10) (by omega); omega) (by simp)),xQ,AJ h]
theorem J5 {n : Int} (h : n.natAbs < 1000000000000000000) : V 14 [iN n] = some (.str (mk (yc n)),[]) := by
 by_cases h0 : n < 0
 ·have hd := ME n.natAbs h
  rw [Gq,wK (decide_eq_true h0),show (0 : Int) - n = (n.natAbs : Int) by omega,w64 (by omega) (by omega),yl hd]
  rw [<- show mk [45] = ⟨#[45]⟩ from rfl,xu (Gt (a := [45]) (by simp) (by have := Av h; omega)),xQ,yc,if_pos h0]
  rfl
 ·have := ME n.natAbs h
  rw [show (n.natAbs : Int) = n by omega] at this
  rw [this,yc,if_neg h0]
end Go.Eng
/-! FnSums: the law -/
namespace Go.Eng
open Go.Proofs Go.Proofs.Try
set_option maxHeartbeats 4000000

theorem yb (l : List UInt8) : ByteArray.size (ByteArray.mk (List.toArray l)) = l.length := rfl
theorem yU (a b : ByteArray) (h : a.size + b.size <= 4000000000) : decide (ni (a.size + b.size) <= LIM) = true := decide_eq_true (by rw [oQ]; simp only [ni]; omega)
set_option maxRecDepth 100000 in
theorem Ng (x y : Int) : (⟨#[40,99,111,110,115,32,40,43,32]⟩ : ByteArray) ++ mk (yc x) ++ (⟨#[32]⟩ : ByteArray) ++ mk (yc y) ++ (⟨#[41,32,40,99,111,110,115,32,40,45,32]⟩ : ByteArray) ++ mk (yc x) ++ (⟨#[32]⟩ : ByteArray) ++ mk (yc y) ++ (⟨#[41,32,40,99,111,110,115,32,40,42,32]⟩ : ByteArray) ++ mk (yc x) ++ (⟨#[32]⟩ : ByteArray) ++ mk (yc y) ++ (⟨#[41,32,40,99,111,110,115,32,40,60,32]⟩ : ByteArray) ++ mk (yc x) ++ (⟨#[32]⟩ : ByteArray) ++ mk (yc y) ++ (⟨#[41,32,40,113,117,111,116,101,32,40,41,41,41,41,41,41]⟩ : ByteArray) = mk (yP (Ol x y)) := by
 show mk [40,99,111,110,115,32,40,43,32] ++ mk (yc x) ++ mk [32] ++ mk (yc y) ++ mk [41,32,40,99,111,110,115,32,40,45,32] ++ mk (yc x) ++ mk [32] ++ mk (yc y) ++ mk [41,32,40,99,111,110,115,32,40,42,32] ++ mk (yc x) ++ mk [32] ++ mk (yc y) ++ mk [41,32,40,99,111,110,115,32,40,60,32] ++ mk (yc x) ++ mk [32] ++ mk (yc y) ++ mk [41,32,40,113,117,111,116,101,32,40,41,41,41,41,41,41] = _
 rw [xQ,xQ,xQ,xQ,xQ,xQ,xQ,xQ,xQ,xQ,xQ,xQ,xQ,xQ,xQ,xQ]
 refine congrArg mk ?_
 simp only [List.append_assoc]
 rfl
set_option maxRecDepth 100000 in
theorem Rt (x y : Int) : (yP (Ol x y)).length = (yc x).length + (yc y).length + (yc x).length + (yc y).length + (yc x).length + (yc y).length + (yc x).length + (yc y).length + 62 := by
 have h := congrArg ByteArray.size (Ng x y)
 simp only [ByteArray.size_append,xP,yb,lnC,lnN] at h
 omega
theorem Sm (x y : Int) : (C9 x y).arg = 50 := by kernel_rfl
theorem SF (x y : Int) : (C9 x y).pool[50]? = some (ndP 10 48) := by kernel_rfl
theorem SE (x y : Int) : (C9 x y).pool[48]? = some (ndP 20 46) := by kernel_rfl
theorem SC (x y : Int) : (C9 x y).pool[46]? = some (ndP 30 44) := by kernel_rfl
theorem SB (x y : Int) : (C9 x y).pool[44]? = some (ndP 40 42) := by kernel_rfl
theorem SA (x y : Int) : (C9 x y).pool[42]? = some ndN := by kernel_rfl
theorem Sq (x y : Int) : (C9 x y).pool[10]? = some (ndI (x + y)) := by kernel_rfl
theorem Sr (x y : Int) : (C9 x y).pool[20]? = some (ndI (x - y)) := by kernel_rfl
theorem Su (x y : Int) : (C9 x y).pool[30]? = some (ndI (x * y)) := by kernel_rfl
theorem Sw (x y : Int) : (C9 x y).pool[40]? = some (ndB (decide (x < y))) := by kernel_rfl
theorem Sj (x y : Int) : (C9 x y).pool.length = 52 := by kernel_rfl
theorem Ux {p : List Nd} {g v a b : Nat} {out : List UInt8} (h : p[v]? = some (ndP a b)) (ho : out.length <= 400) : wr p (g + 1) false v out = wr p g true b (wr p g false a (out ++ [40])) := by
 rw [wr,if_neg (by omega),h]
 rfl
theorem T7 {p : List Nd} {g v a b : Nat} {out : List UInt8} (h : p[v]? = some (ndP a b)) (ho : out.length <= 400) : wr p (g + 1) true v out = wr p g true b (wr p g false a (out ++ [32])) := by
 rw [wr,h]
 exact if_pos ⟨rfl,ho⟩
theorem Uy {p : List Nd} {g v : Nat} {out : List UInt8} (h : p[v]? = some ndN) : wr p (g + 1) true v out = out ++ [41] := by
 rw [wr,h]
 rfl
theorem S9 {p : List Nd} {g v : Nat} {x : Nd} {out : List UInt8} (h : p[v]? = some x) (hk : x.kind ≠ 5) (ho : out.length <= 400) : wr p (g + 1) false v out = out ++ zq x := by
 rw [wr,if_neg (by omega),h]
 exact if_neg hk
noncomputable def bW (t : Bool) : List UInt8 := match t with | true => [35,116] | false => [35,102]
theorem Tt (t : Bool) : zq (ndB t) = bW t := by cases t <;> rfl
theorem Qe {x y : Int} (hx : (x + y).natAbs <= 1000000000) (hy : (x - y).natAbs <= 1000000000) (hz : (x * y).natAbs <= 1000000000) (hp : xT (C9 x y).pool = true) : Me (C9 x y).pool (C9 x y).arg = [40] ++ yc (x + y) ++ [32] ++ yc (x - y) ++ [32] ++ yc (x * y) ++ [32] ++ bW (decide (x < y)) ++ [41] := by
 have l1 := y9 hx
 have l2 := y9 hy
 have l3 := y9 hz
 have l4 : (bW (decide (x < y))).length = 2 := by cases decide (x < y) <;> rfl
 have hk : (ndB (decide (x < y))).kind ≠ 5 := by cases decide (x < y) <;> decide
 rw [Sm]
 have hw : wr (C9 x y).pool (2 * (50 : Int).toNat + 1) false (50 : Int).toNat [] = [40] ++ yc (x + y) ++ [32] ++ yc (x - y) ++ [32] ++ yc (x * y) ++ [32] ++ bW (decide (x < y)) ++ [41] := by
  show wr (C9 x y).pool (100 + 1) false 50 [] = _
  rw [Ux (SF x y) (by simp)]
  show wr _ (99 + 1) true 48 (wr _ (99 + 1) false 10 ([] ++ [40])) = _
  rw [S9 (Sq x y) (show (3 : Int) ≠ 5 by decide) (by simp),List.nil_append]
  show wr _ (99 + 1) true 48 ([40] ++ yc (x + y)) = _
  rw [T7 (SE x y) (by simp; omega)]
  show wr _ (98 + 1) true 46 (wr _ (98 + 1) false 20 ([40] ++ yc (x + y) ++ [32])) = _
  rw [S9 (Sr x y) (show (3 : Int) ≠ 5 by decide) (by simp; omega)]
  show wr _ (98 + 1) true 46 ([40] ++ yc (x + y) ++ [32] ++ yc (x - y)) = _
  rw [T7 (SC x y) (by simp; omega)]
  show wr _ (97 + 1) true 44 (wr _ (97 + 1) false 30 ([40] ++ yc (x + y) ++ [32] ++ yc (x - y) ++ [32])) = _
  rw [S9 (Su x y) (show (3 : Int) ≠ 5 by decide) (by simp; omega)]
  show wr _ (97 + 1) true 44 ([40] ++ yc (x + y) ++ [32] ++ yc (x - y) ++ [32] ++ yc (x * y)) = _
  rw [T7 (SB x y) (by simp; omega)]
  show wr _ (96 + 1) true 42 (wr _ (96 + 1) false 40 ([40] ++ yc (x + y) ++ [32] ++ yc (x - y) ++ [32] ++ yc (x * y) ++ [32])) = _
  rw [S9 (Sw x y) hk (by simp; omega),Uy (SA x y),Tt]
 unfold Me
 rw [if_pos ⟨hp,wi_iff.2 ⟨by decide,by rw [Sj]; decide⟩⟩,hw,if_neg (by simp only [lnA,lnC,lnN]; omega)]
set_option maxRecDepth 100000 in
theorem NY {b : List Int} (hb : b.length < 4611686018427387904) (h8 : ∀ n ∈ b,0 <= n /\ n <= 255) : V 6 [.rs (1,0) (b.map eB)] = some (.bool true,[]) := by
 rw [LD,QR (Ue b)]
 cases hbig : decide ((b.length : Int) > 1048576) with
 | true => rfl
 | false =>
  have hbig := of_decide_eq_false hbig
  obtain ⟨v,hv,v0,v1⟩ := Th (b := b) (by omega) h8 (i := 1) (by omega) (by omega)
  obtain ⟨u,hu,u0,u1⟩ := Th (b := b) (by omega) h8 (i := 2) (by omega) (by omega)
  rw [wJ,O7 hv,O7 hu]
  rw [w64 (n := v - 100) (by omega) (by omega),w64 (n := u - 100) (by omega) (by omega)]
  obtain ⟨x,ex⟩ : ∃ x,v - 100 = x := ⟨_,rfl⟩
  obtain ⟨y,ey⟩ : ∃ y,u - 100 = y := ⟨_,rfl⟩
  rw [ex,ey]
  have hdx := J5 (n := x) (by omega)
  have hdy := J5 (n := y) (by omega)
  have lx := y9 (n := x) (by omega)
  have ly := y9 (n := y) (by omega)
  have hfl := Rt x y
  have hp := Ru (x := x) (y := y) (by omega) (by omega) (by omega)
  have xy : -24025 <= x * y /\ x * y <= 24025 := by
   have hx : x.natAbs <= 155 := by omega
   have hy : y.natAbs <= 155 := by omega
   have := Nat.mul_le_mul hx hy
   have e := Int.natAbs_mul x y
   omega
  have w1 : wi (BH 1 x y).n (-1000000000) 1000000000 = true := by
   show wi (x + y) _ _ = true
   exact wi_iff.2 ⟨by omega,by omega⟩
  have w2 : wi (BH 2 x y).n (-1000000000) 1000000000 = true := by
   show wi (x - y) _ _ = true
   exact wi_iff.2 ⟨by omega,by omega⟩
  have w3 : wi (BH 3 x y).n (-1000000000) 1000000000 = true := by
   show wi (x * y) _ _ = true
   exact wi_iff.2 ⟨by omega,by omega⟩
  have w4 : wi (BH 4 x y).n (-1000000000) 1000000000 = true := by
   show wi (ndB (decide (x < y))).n _ _ = true
   cases decide (x < y) <;> decide
  have hr := SG (x := x) (y := y) w1 w2 w3 w4
  have hok := Pf _ hp.mok hr
  have hs := Qd x y
  obtain ⟨o1,o2,_⟩ := TG hok hs
  have k1 := Si hp
  have k4 := T5 (Pc hp) hp.mok hr (by omega) (steps := 200) (by omega) (by omega)
  rw [yl hdx,xu (yU _ _ (by simp only [xP,yb,lnC,lnN]; omega)),xu (yU _ _ (by simp only [ByteArray.size_append,xP,yb,lnC,lnN]; omega)),yl hdy,xu (yU _ _ (by simp only [ByteArray.size_append,xP,yb,lnC,lnN]; omega)),xu (yU _ _ (by simp only [ByteArray.size_append,xP,yb,lnC,lnN]; omega)),yl hdx,xu (yU _ _ (by simp only [ByteArray.size_append,xP,yb,lnC,lnN]; omega)),xu (yU _ _ (by simp only [ByteArray.size_append,xP,yb,lnC,lnN]; omega)),yl hdy,xu (yU _ _ (by simp only [ByteArray.size_append,xP,yb,lnC,lnN]; omega)),xu (yU _ _ (by simp only [ByteArray.size_append,xP,yb,lnC,lnN]; omega)),yl hdx,xu (yU _ _ (by simp only [ByteArray.size_append,xP,yb,lnC,lnN]; omega)),xu (yU _ _ (by simp only [ByteArray.size_append,xP,yb,lnC,lnN]; omega)),yl hdy,xu (yU _ _ (by simp only [ByteArray.size_append,xP,yb,lnC,lnN]; omega)),xu (yU _ _ (by simp only [ByteArray.size_append,xP,yb,lnC,lnN]; omega)),yl hdx,xu (yU _ _ (by simp only [ByteArray.size_append,xP,yb,lnC,lnN]; omega)),xu (yU _ _ (by simp only [ByteArray.size_append,xP,yb,lnC,lnN]; omega)),yl hdy,xu (yU _ _ (by simp only [ByteArray.size_append,xP,yb,lnC,lnN]; omega)),xu (yU _ _ (by simp only [ByteArray.size_append,xP,yb,lnC,lnN]; omega))]
  rw [Ng x y,PM k1,LM (Sg hp),IL (TH hp),MR k4]
  have l1 := y9 (n := x + y) (by omega)
  have l2 := y9 (n := x - y) (by omega)
  have l3 := y9 (n := x * y) (by omega)
  have hd2 := J5 (n := x + y) (by omega)
  have hd3 := J5 (n := x - y) (by omega)
  have hd4 := J5 (n := x * y) (by omega)
  have wv := LU (z3 (okPool_iff.1 o1).1) (by have := yq o1; omega) (C9 x y).arg
  rw [Qe (by omega) (by omega) (by omega) o1] at wv
  revert wv
  cases hlt : decide (x < y) with
  | true =>
   intro wv
   rw [xl,wK (by decide),wK (by decide),xl,wK (xG hs),JA wv,w64 (n := x + y) (by omega) (by omega),yl hd2,xu (yU _ _ (by simp only [xP,yb,lnC,lnN]; omega)),xu (yU _ _ (by simp only [ByteArray.size_append,xP,yb,lnC,lnN]; omega)),w64 (n := x - y) (by omega) (by omega),yl hd3,xu (yU _ _ (by simp only [ByteArray.size_append,xP,yb,lnC,lnN]; omega)),xu (yU _ _ (by simp only [ByteArray.size_append,xP,yb,lnC,lnN]; omega)),w64 (n := x * y) (by omega) (by omega),yl hd4,xu (yU _ _ (by simp only [ByteArray.size_append,xP,yb,lnC,lnN]; omega)),xu (yU _ _ (by simp only [ByteArray.size_append,xP,yb,lnC,lnN]; omega)),xu (yU _ _ (by simp only [ByteArray.size_append,xP,yb,lnC,lnN]; omega)),xu (yU _ _ (by simp only [ByteArray.size_append,xP,yb,lnC,lnN]; omega))]
   have e : (⟨#[40]⟩ : ByteArray) ++ mk (yc (x + y)) ++ ⟨#[32]⟩ ++ mk (yc (x - y)) ++ ⟨#[32]⟩ ++ mk (yc (x * y)) ++ ⟨#[32]⟩ ++ ⟨#[35,116]⟩ ++ ⟨#[41]⟩ = mk ([40] ++ yc (x + y) ++ [32] ++ yc (x - y) ++ [32] ++ yc (x * y) ++ [32] ++ bW true ++ [41]) := by
    show mk [40] ++ mk (yc (x + y)) ++ mk [32] ++ mk (yc (x - y)) ++ mk [32] ++ mk (yc (x * y)) ++ mk [32] ++ mk (bW true) ++ mk [41] = _
    rw [xQ,xQ,xQ,xQ,xQ,xQ,xQ,xQ]
   rw [e,Iw]
  | false =>
   intro wv
   rw [wJ,wK (by decide),wK (by decide),xl,wK (xG hs),JA wv,w64 (n := x + y) (by omega) (by omega),yl hd2,xu (yU _ _ (by simp only [xP,yb,lnC,lnN]; omega)),xu (yU _ _ (by simp only [ByteArray.size_append,xP,yb,lnC,lnN]; omega)),w64 (n := x - y) (by omega) (by omega),yl hd3,xu (yU _ _ (by simp only [ByteArray.size_append,xP,yb,lnC,lnN]; omega)),xu (yU _ _ (by simp only [ByteArray.size_append,xP,yb,lnC,lnN]; omega)),w64 (n := x * y) (by omega) (by omega),yl hd4,xu (yU _ _ (by simp only [ByteArray.size_append,xP,yb,lnC,lnN]; omega)),xu (yU _ _ (by simp only [ByteArray.size_append,xP,yb,lnC,lnN]; omega)),xu (yU _ _ (by simp only [ByteArray.size_append,xP,yb,lnC,lnN]; omega)),xu (yU _ _ (by simp only [ByteArray.size_append,xP,yb,lnC,lnN]; omega))]
   have e : (⟨#[40]⟩ : ByteArray) ++ mk (yc (x + y)) ++ ⟨#[32]⟩ ++ mk (yc (x - y)) ++ ⟨#[32]⟩ ++ mk (yc (x * y)) ++ ⟨#[32]⟩ ++ ⟨#[35,102]⟩ ++ ⟨#[41]⟩ = mk ([40] ++ yc (x + y) ++ [32] ++ yc (x - y) ++ [32] ++ yc (x * y) ++ [32] ++ bW false ++ [41]) := by
    show mk [40] ++ mk (yc (x + y)) ++ mk [32] ++ mk (yc (x - y)) ++ mk [32] ++ mk (yc (x * y)) ++ mk [32] ++ mk (bW false) ++ mk [41] = _
    rw [xQ,xQ,xQ,xQ,xQ,xQ,xQ,xQ]
   rw [e,Iw]
theorem Mi (xs : List D) (h : All2 (fun t x => ShapeV Try.prog t x) Try.f6.params.toList xs) : V 6 xs = some (.bool true,[]) := by
 rw [Try.params6] at h
 cases h with | cons h1 h =>
 cases h
 obtain ⟨b,rfl,hb,h8⟩ := Pt h1
 exact NY hb h8
end Go.Eng
