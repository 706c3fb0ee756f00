/- the program and the reference on plain data, part 5 -/
import Derived.Test.YtkndfhaehnfnmaaGreatPart4
import Derived.Test.YtkndfhaehnfnmaaGreatPart1
import Derived.Test.YtkndfhaehnfnmaaGreatPart2
import Derived.Test.YtkndfhaehnfnmaaGreatPart3
import Derived.Test.YtkndfhaehnfnmaaGreatEngC
/-! a step of a machine: the program's side: calls -/
namespace Go.Eng
open Go.Proofs Go.Proofs.Tryz
set_option maxHeartbeats 4000000

theorem aaX {R : Type} (x : Df) (K : ByteArray -> Int -> Int -> Option R) : tk3 (eDf x) (fun n4 n7 n10 => (K n4 n7 n10)) = K x.name x.at' x.args := rfl
theorem Gd {α : Type} {f : α -> D} {l : List α} {k : Int} (h : (l.length : Int) = k) : ni (l.map f).length = k := by rw [lnM]; exact h
theorem Mz {α : Type} {f : α -> D} {l : List α} {k : Int} (h : ¬ (l.length : Int) = k) : ¬ ni (l.map f).length = k := by rw [lnM]; exact h
theorem DH {c : Cd} (hc : c.list.length <= 400) (n : Int) : V 57 [eCd c,iN n] = some (.bool (zP c n),[]) := Sb (by omega) n
theorem WA {c : Cd} (hf : FitsC c) (hc : zy c = true) {m : Mc} (hl : m.pool.length < 4294967200) (s : ByteArray) : Lt c (V 187 [eSt c m,.str s]) (JU c m s) := by
 have hd := M8 hf s
 have c2 := (zu hc).2.1
 rw [JQ,Xr hd]
 unfold JU
 by_cases h0 : 0 <= CW c s
 ·obtain ⟨d,hg⟩ := Nn h0
  have hok := NQ hc hg
  unfold VU at hok
  simp only [Bool.and_eq_true] at hok
  have a1 := wi_iff.1 hok.2.2.1
  have a2 := wi_iff.1 hok.2.2.2
  have hlt := aQ hg
  have h1 := Gn (p := m.pool) (by omega) ndN
  have h2 := Gn (p := m.pool ++ [ndN]) (by simp; omega) (ndF (8 * d.at' + d.args) m.pool.length)
  have h3 := Ew (c := c) (m := ⟨m.pool ++ [ndN] ++ [ndF (8 * d.at' + d.args) m.pool.length],m.at',m.s,m.e,m.d,m.state,m.ask,m.arg⟩) (by simp; omega) (m.pool.length + 1)
  have e1 : w6 (w6 (8 * d.at') + d.args) = 8 * d.at' + d.args := by rw [w64 (n := 8 * d.at') (by omega) (by omega),w64 (by omega) (by omega)]
  have e2 : ((m.pool ++ [ndN]).length : Int) = m.pool.length + 1 := by simp
  rw [e2] at h2
  rw [if_pos h0,xK (decide_eq_true h0),yu (by rw [lnM]; simp only [ni,Bool.and_eq_true,decide_eq_true_eq]; omega),xW hg,aaX]
  simp only [List.getD_eq_getElem?_getD,hg,Option.getD_some]
  show _ = _
  rw [zp h1,e1,zp h2,zQ h3]
 ·rw [if_neg h0,xb (decide_eq_false h0)]
  have hp := Rh s
  have hb := Jr s
  rw [VF hp]
  by_cases hz : Ch s = 0
  ·rw [if_pos hz,xK (yF hz)]
   exact ⟨by decide,m,rfl⟩
  ·have h1 := Gn (p := m.pool) (by omega) (ndR (Ch s))
   have h3 := Ew (c := c) (m := ⟨m.pool ++ [ndR (Ch s)],m.at',m.s,m.e,m.d,m.state,m.ask,m.arg⟩) (by simp; omega) m.pool.length
   rw [if_neg hz,xb (yE hz),zp h1,zQ h3]
   rfl
theorem XN {c : Cd} (hc : c.list.length <= 400) {m : Mc} (hl : m.pool.length < 4294967200) (ha : zP c m.at' = true) {f : Nd} (hf : 0 <= f.n /\ f.n <= 1000000000) {l : List Int} (_ : l.length <= 10) : Lt c (V 204 [eSt c m,eN f,.rs (1,0) (l.map eI)]) (Jg c m f l) := by
 have hpl := isPl_iff.1 ha
 have t1 : Int.tmod f.n 8 = f.n % 8 := Int.tmod_eq_emod_of_nonneg hf.1
 have t2 : Int.tdiv f.n 8 = f.n / 8 := Int.tdiv_eq_ediv_of_nonneg hf.1
 rw [KQ,yu (by decide),t1,t2]
 unfold Jg
 by_cases h1 : f.n % 8 = (l.length : Int)
 ·rw [if_neg (by omega),xb (yG (by rw [Gd rfl]; exact h1)),yu (by decide),w64 (n := f.n / 8) (by omega) (by omega),zt (DH hc _)]
  cases h2 : zP c (f.n / 8) with
  | false => rw [if_pos rfl]; exact ⟨by decide,m,rfl⟩
  | true =>
   rw [if_neg (by simp),Bool.not_true,xJ,w64 (n := m.at' + 1) (by omega) (by omega)]
   have a1 := Gn (p := m.pool) (by omega) (ndI (m.at' + 1))
   have l1 := BU (m.pool ++ [ndI (m.at' + 1)]) [(m.pool.length : Int),m.s,m.e]
   simp only [lnA,lnC,lnN] at l1
   have a2 : V 222 [rP (m.pool ++ [ndI (m.at' + 1)]),.rs (1,0) [iN (m.pool.length : Int),iN m.s,iN m.e]] = _ := Ux (q := m.pool ++ [ndI (m.at' + 1)]) (row := [(m.pool.length : Int),m.s,m.e]) (by simp only [lnA,lnC,lnN]; omega)
   have a3 := Uz (q := (yR (m.pool ++ [ndI (m.at' + 1)]) [(m.pool.length : Int),m.s,m.e]).1) (by omega) (yR (m.pool ++ [ndI (m.at' + 1)]) [(m.pool.length : Int),m.s,m.e]).2 m.d
   rw [zp a1,Fj a2,Fk a3]
   generalize hB : yR (m.pool ++ [ndI (m.at' + 1)]) [(m.pool.length : Int),m.s,m.e] = B at l1 ⊢
   have l2 := BU (B.1 ++ [ndP B.2 m.d]) l
   simp only [lnA,lnC,lnN] at l2
   have a4 := Ux (q := B.1 ++ [ndP B.2 m.d]) (row := l) (by simp only [lnA,lnC,lnN]; omega)
   have a5 := Uz (q := (yR (B.1 ++ [ndP B.2 m.d]) l).1) (by omega) (yR (B.1 ++ [ndP B.2 m.d]) l).2 f.a
   have a6 := Gn (p := (yR (B.1 ++ [ndP B.2 m.d]) l).1 ++ [ndP (yR (B.1 ++ [ndP B.2 m.d]) l).2 f.a]) (by simp only [lnA,lnC,lnN]; omega) ndN
   have e6 : (((yR (B.1 ++ [ndP B.2 m.d]) l).1 ++ [ndP (yR (B.1 ++ [ndP B.2 m.d]) l).2 f.a]).length : Int) = (yR (B.1 ++ [ndP B.2 m.d]) l).1.length + 1 := by simp
   rw [e6] at a6
   rw [Fj a4,Fk a5,zp a6,yu (by decide)]
   rfl
 ·rw [if_pos h1,xK (yH (by rw [Gd rfl]; exact h1))]
  exact ⟨by decide,m,rfl⟩
theorem PJ {c : Cd} {p : List Nd} {v : Int} {many : Nat} {xs : List Int} {b : Bool} (h : zR p v = (xs,b)) (hm : 0 < many) : Jj c p v many = if b = true /\ xs.length = many /\ (nod p (xs.getD 0 0)).kind = 3 /\ zP c (nod p (xs.getD 0 0)).n = true then some ((nod p (xs.getD 0 0)).n,xs.drop 1) else none := by
 unfold Jj
 rw [h]
 cases b with
 | false => rw [if_neg (fun h => by simp at h)]; cases xs <;> rfl
 | true =>
  cases xs with
  | nil => rw [if_neg (fun h => by have := h.2.1; simp at this; omega)]
  | cons a r =>
   simp only [lnC,List.getD_cons_zero,true_and,List.drop_one,List.tail_cons]
theorem WB {c : Cd} (hc : c.list.length <= 400) {m : Mc} (hp : y2 m.pool) (hl : m.pool.length < 2147483648) {st : Int} (hs : InP m.pool st) {l : List Int} (hll : l.length <= 10) : Lt c (V 206 [eSt c m,iN st,.rs (1,0) (l.map eI)]) (Um c m st l) := by
 have hlst := Wu hp hl hs
 have hin := GL hp hs
 rw [JR]
 unfold Um
 by_cases h1 : l.length = 1
 ·rw [if_neg (by omega),xb (yG (Gd (by omega))),J5 hlst]
  obtain ⟨v,rfl⟩ : ∃ v,l = [v] := by
   match l,h1 with
   | [v],_ => exact ⟨v,rfl⟩
   | [],h => simp at h
   | _ :: _ :: _,h => simp at h
  rcases hq : zR m.pool st with ⟨xs,b⟩
  have hfr := PJ (c := c) hq (many := 4) (by omega)
  rw [hq] at hin
  have none : ∀ {X : Option Ret},¬ (b = true /\ xs.length = 4 /\ (nod m.pool (xs.getD 0 0)).kind = 3 /\ zP c (nod m.pool (xs.getD 0 0)).n = true) -> X = some (iN 7,[eSt c m]) -> Lt c X (match Jj c m.pool st 4 with
    | some (n,[s,e,d]) => .ok (LI ⟨m.pool,n,s,e,d,m.state,m.ask,m.arg⟩ ([v].getD 0 0))
    | _ => .error 7) := by
   intro X hn hX
   rw [hfr,if_neg hn]
   exact ⟨by decide,m,hX⟩
  cases b with
  | false => exact none (fun h => by simp at h) rfl
  | true =>
   rw [Bool.not_true,xJ]
   by_cases h4 : xs.length = 4
   ·obtain ⟨a,s,e,d,rfl⟩ : ∃ a s e d,xs = [a,s,e,d] := by
     match xs,h4 with
     | [a,s,e,d],_ => exact ⟨a,s,e,d,rfl⟩
     | [],h => simp at h
     | [_],h => simp at h
     | [_,_],h => simp at h
     | [_,_,_],h => simp at h
     | _ :: _ :: _ :: _ :: _ :: _,h => simp at h
    have ha := hin a (by simp)
    rw [xb (yG (Gd (k := 4) rfl)),zG,JJ ha]
    by_cases h3 : (nod m.pool a).kind = 3
    ·rw [xb (yG h3),zG,YB ha,zt (DH hc _)]
     cases h5 : zP c (nod m.pool a).n with
     | false => exact none (fun h => by have := h.2.2.2; simp only [List.getD_cons_zero,h5] at this; cases this) rfl
     | true =>
      have a3 := Ew (c := c) (m := ⟨m.pool,(nod m.pool a).n,s,e,d,m.state,m.ask,m.arg⟩) (by show m.pool.length < _; omega) v
      rw [hfr,if_pos ⟨rfl,rfl,h3,h5⟩,Bool.not_true,xJ,zG,YB ha,Du,TV,aaZ,zG,zQ a3]
      rfl
    ·rw [xK (yH h3)]
     exact none (fun h => h3 h.2.2.1) rfl
   ·rw [xK (yH (Mz (l := xs) (k := 4) (fun h => h4 (by omega))))]
    exact none (fun h => h4 h.2.1) rfl
 ·rw [if_pos h1,xK (yH (Mz (l := l) (k := 1) (fun h => h1 (by omega))))]
  exact ⟨by decide,m,rfl⟩
theorem DR {c : Cd} {X : Option Ret} {m : Mc} (h : Lt c X (.ok m)) : X = some (iN 0,[eSt c m]) := h
theorem Cy {c : Cd} {X : Option Ret} {h : Int} (e : Lt c X (.error h)) : h ≠ 0 /\ ∃ m',X = some (iN h,[eSt c m']) := e
theorem Si {c : Cd} (hc : c.list.length <= 400) : ∀ (k : Nat) {m : Mc} {f : Int} {l : List Int},RunM c m -> zP c (m.at' + 1) = true -> m.pool.length + 100 * k < 2147483600 -> InP m.pool f -> (∀ v ∈ l,InP m.pool v) -> l.length <= 4 -> ((nod m.pool f).n = 11 -> l.length = 2 -> yU m.pool = true) -> CU c k m f l ≠ .error 0 ->
  Lt c (V 184 [eSt c m,iN f,.rs (1,0) (l.map eI)]) (CU c k m f l)
 | 0,m,f,l,h,hnx,hl,hf,hv,h4,h11,h0 => absurd rfl h0
 | k + 1,m,f,l,h,hnx,hl,hf,hv,h4,h11,h0 => by
  have hok := EJ h.gm.ok hf
  have hpl := isPl_iff.1 h.pl
  rw [LD,Ce hf]
  unfold CU at h0 ⊢
  simp only at h0 ⊢
  by_cases h6 : (nod m.pool f).kind = 6
  ·rw [if_pos h6,xK (yF h6)]
   have hfn : 0 <= (nod m.pool f).n /\ (nod m.pool f).n <= 1000000000 := by
    simp [okN,h6] at hok
    exact wi_iff.1 hok.1
   have he := XN hc (m := m) (by omega) h.pl (f := nod m.pool f) hfn (l := l) (by omega)
   cases hr : Jg c m (nod m.pool f) l with
   | ok m' => rw [hr] at he; rw [IL (DR he)]; rfl
   | error q =>
    rw [hr] at he
    obtain ⟨q0,m',hx⟩ := Cy he
    rw [IL hx]
    exact ⟨q0,m',rfl⟩
  rw [if_neg h6] at h0 ⊢
  rw [xb (yE h6)]
  by_cases h8 : (nod m.pool f).kind = 8
  ·rw [if_pos h8] at h0 ⊢
   rw [xK (yF h8)]
   -- what is built in
   have prim : Lt c (V 205 [eSt c m,iN (nod m.pool f).n,.rs (1,0) (l.map eI)]) (if y1 (nod m.pool f).n ≠ (l.length : Int) then .error 2
     else if (nod m.pool f).n = 18 then
      CU c k ⟨(yR (m.pool ++ [ndI (m.at' + 1)]) [(m.pool.length : Int),m.s,m.e,m.d]).1 ++ [ndK (yR (m.pool ++ [ndI (m.at' + 1)]) [(m.pool.length : Int),m.s,m.e,m.d]).2],m.at',m.s,m.e,m.d,m.state,m.ask,m.arg⟩ (l.getD 0 0) [((yR (m.pool ++ [ndI (m.at' + 1)]) [(m.pool.length : Int),m.s,m.e,m.d]).1.length : Int)]
     else if (nod m.pool f).n > 12 then
      .ok ⟨(yR m.pool l).1,m.at',m.s,m.e,m.d,1,(nod m.pool f).n,(yR m.pool l).2⟩
     else match JE m.pool (nod m.pool f).n l with
      | .error h => .error (h + 1)
      | .ok (p,v) => .ok ⟨p ++ [ndP v m.s],m.at' + 1,p.length,m.e,m.d,m.state,m.ask,m.arg⟩) := by
    rw [IA,Ra O9]
    by_cases hargs : y1 (nod m.pool f).n = (l.length : Int)
    ·have hargs' : ¬ y1 (nod m.pool f).n ≠ (l.length : Int) := fun h => h hargs
     obtain ⟨n1,n19,l2⟩ := BG hargs
     rw [if_neg hargs'] at h0 ⊢
     rw [xb (yG (by rw [Gd rfl]; exact hargs))]
     by_cases h18 : (nod m.pool f).n = 18
     ·rw [if_pos h18] at h0 ⊢
      rw [xK (yF h18),w64 (n := m.at' + 1) (by omega) (by omega)]
      obtain ⟨v,rfl⟩ : ∃ v,l = [v] := by
       rw [h18] at hargs
       match l,hargs with
       | [v],_ => exact ⟨v,rfl⟩
       | [],h => cases h
       | _ :: _ :: r,h => simp only [lnC] at h; have : y1 18 = 1 := rfl; omega
      have a1 := Gn (p := m.pool) (by omega) (ndI (m.at' + 1))
      have l1 := BU (m.pool ++ [ndI (m.at' + 1)]) [(m.pool.length : Int),m.s,m.e,m.d]
      simp only [lnA,lnC,lnN] at l1
      have a2 : V 222 [rP (m.pool ++ [ndI (m.at' + 1)]),.rs (1,0) [iN (m.pool.length : Int),iN m.s,iN m.e,iN m.d]] = _ := Ux (q := m.pool ++ [ndI (m.at' + 1)]) (row := [(m.pool.length : Int),m.s,m.e,m.d]) (by simp only [lnA,lnC,lnN]; omega)
      have o1 : y2 (m.pool ++ [ndI (m.at' + 1)]) := zb h.gm.ok (Pe (by omega))
      obtain ⟨b1,⟨t,b2,b3⟩,b4⟩ := CX (row := [(m.pool.length : Int),m.s,m.e,m.d]) o1 (fun v hv => by
       simp only [List.mem_cons,List.not_mem_nil,or_false] at hv
       rcases hv with rfl | rfl | rfl | rfl
       ·exact zO _ _
       ·exact yX _ h.gm.s
       ·exact yX _ h.gm.e
       ·exact yX _ h.gm.d)
      have e1 : (yR (m.pool ++ [ndI (m.at' + 1)]) [(m.pool.length : Int),m.s,m.e,m.d]).1 = m.pool ++ (ndI (m.at' + 1) :: t) := by rw [b2]; simp
      have up : ∀ {v : Int},InP m.pool v -> InP ((yR (m.pool ++ [ndI (m.at' + 1)]) [(m.pool.length : Int),m.s,m.e,m.d]).1 ++ [ndK ((yR (m.pool ++ [ndI (m.at' + 1)]) [(m.pool.length : Int),m.s,m.e,m.d]).2 : Int)]) v := fun hv => yX _ (by rw [e1]; exact yX _ hv)
      have g2 : RunM c ⟨(yR (m.pool ++ [ndI (m.at' + 1)]) [(m.pool.length : Int),m.s,m.e,m.d]).1 ++ [ndK ((yR (m.pool ++ [ndI (m.at' + 1)]) [(m.pool.length : Int),m.s,m.e,m.d]).2 : Int)],m.at',m.s,m.e,m.d,m.state,m.ask,m.arg⟩ :=
       ⟨⟨zb b1 (Uf b4),up h.gm.s,up h.gm.e,up h.gm.d⟩,h.st,h.ask,h.arg,h.pl⟩
      rw [zp a1,Fj a2]
      generalize hB : yR (m.pool ++ [ndI (m.at' + 1)]) [(m.pool.length : Int),m.s,m.e,m.d] = B at l1 b1 b2 b4 e1 up g2 h0 ⊢
      have a3 := Gn (p := B.1) (by omega) (ndK (B.2 : Int))
      have a4 := Si hc k g2 hnx (by show (B.1 ++ [ndK (B.2 : Int)]).length + 100 * k < _; simp only [lnA,lnC,lnN]; omega) (up (hv v (by simp))) (l := [(B.1.length : Int)]) (fun u hu => by
       simp only [List.mem_singleton] at hu; subst hu; exact zO _ _) (by simp) (fun _ h => by simp at h) h0
      rw [zp a3,zG]
      simp only [List.getD_cons_zero] at a4 ⊢
      simp only [List.map_cons,List.map_nil] at a4
      cases hr : CU c k ⟨B.1 ++ [ndK (B.2 : Int)],m.at',m.s,m.e,m.d,m.state,m.ask,m.arg⟩ v [(B.1.length : Int)] with
      | ok m' => rw [hr] at a4; rw [CM (DR a4)]; rfl
      | error q =>
       rw [hr] at a4
       obtain ⟨q0,m',hx⟩ := Cy a4
       rw [CM hx]
       exact ⟨q0,m',rfl⟩
     rw [if_neg h18] at h0 ⊢
     rw [xb (yE h18)]
     by_cases h12 : (nod m.pool f).n > 12
     ·rw [if_pos h12,xK (decide_eq_true h12)]
      have a1 := Ux (q := m.pool) (row := l) (by omega)
      rw [Fj a1]
      rfl
     rw [if_neg h12,xb (decide_eq_false h12)]
     have hp := Wo h.gm.ok (by omega) (n := (nod m.pool f).n) hv (by omega) hargs.symm (fun e => h11 e (by
      rw [e] at hargs
      have : y1 11 = 2 := rfl
      omega))
     cases hr : JE m.pool (nod m.pool f).n l with
     | error q =>
      rw [hr] at hp
      rw [MF hp]
      have hq : q = 3 \/ q = 4 := by
       rw [IU (by omega) hargs.symm] at hr
       split at hr
       ·split at hr
        ·cases hr
        ·split at hr
         ·cases hr
         ·split at hr
          ·cases hr
          ·cases hr; exact .inr rfl
       ·cases hr; exact .inl rfl
      rcases hq with rfl | rfl
      ·exact ⟨by decide,m,rfl⟩
      ·exact ⟨by decide,m,rfl⟩
     | ok r =>
      obtain ⟨p,v⟩ := r
      rw [hr] at hp
      obtain ⟨q1,q2,t,q3,q4⟩ := Qp h.gm.ok hv (by omega) hargs.symm hr
      have hpl' : p.length < 4294967296 := by rw [q3]; simp only [lnA]; omega
      have a3 := Ew (c := c) (m := ⟨p,m.at',m.s,m.e,m.d,m.state,m.ask,m.arg⟩) hpl' v
      rw [MF hp,xb (yE (by omega)),xb (yE (by omega)),zQ a3]
      show some (iN 0,[D.op [_,iN (w6 (m.at' + 1)),_,_,_,_,_,_,_,_,_]]) = _
      rw [w64 (by omega) (by omega)]
      rfl
    ·rw [if_pos hargs,xK (yH (by rw [Gd rfl]; exact hargs))]
     exact ⟨by decide,m,rfl⟩
   revert prim h0
   generalize (if y1 (nod m.pool f).n ≠ (l.length : Int) then (.error 2 : Except Int Mc) else _) = r
   intro h0 prim
   cases r with
   | ok m' => rw [Eh (DR prim)]; rfl
   | error q =>
    obtain ⟨q0,m',hx⟩ := Cy prim
    rw [Eh hx]
    exact ⟨q0,m',rfl⟩
  rw [if_neg h8,xb (yE h8)]
  by_cases h7 : (nod m.pool f).kind = 7
  ·rw [if_pos h7,xK (yF h7)]
   have he := WB hc h.gm.ok (by omega) (J4 h.gm.ok hf (.inr (.inr h7))) (l := l) (by omega)
   cases hr : Um c m (nod m.pool f).a l with
   | ok m' => rw [hr] at he; rw [GR (DR he)]; rfl
   | error q =>
    rw [hr] at he
    obtain ⟨q0,m',hx⟩ := Cy he
    rw [GR hx]
    exact ⟨q0,m',rfl⟩
  ·rw [if_neg h7,xb (yE h7)]
   exact ⟨by decide,m,rfl⟩
end Go.Eng
/-! a step of a machine: the program's side: whole -/
namespace Go.Eng
open Go.Proofs Go.Proofs.Tryz
set_option maxHeartbeats 4000000

theorem PQ : ∀ (r : List Int) (q : List Nd) (c : Nat),∃ t,(AK r q c).1 = q ++ t
 | [],q,c => ⟨[],by simp [AK]⟩
 | x :: r,q,c => by
  obtain ⟨t,h⟩ := PQ r (q ++ [ndP x c]) q.length
  exact ⟨ndP x c :: t,by rw [AK,h]; simp⟩
theorem YL (q : List Nd) (row : List Int) : ∃ t,(yR q row).1 = q ++ t := by
 obtain ⟨t,h⟩ := PQ row.reverse (q ++ [ndN]) q.length
 exact ⟨ndN :: t,by unfold yR; rw [h]; simp⟩
theorem ZP (p : List Nd) (x : Nd) : nod (p ++ [x]) (p.length : Int) = x := by simp [nod]
theorem LT {c : Cd} : ∀ (k : Nat) {m : Mc} {f : Int} {l : List Int},(∀ v ∈ l,InP m.pool v) -> (3 <= k \/ (2 <= k /\ (nod m.pool (l.getD 0 0)).kind = 7) \/ (1 <= k /\ (nod m.pool f).kind = 7)) -> CU c k m f l ≠ .error 0
 | 0,m,f,l,hv,hk => by omega
 | k + 1,m,f,l,hv,hk => by
  unfold CU
  simp only
  split
  ·unfold Jg
   split
   ·intro h; cases h
   ·split
    ·intro h; cases h
    ·intro h; cases h
  split
  ·rename_i h6 h8
   split
   ·intro h; cases h
   rename_i hargs
   split
   ·rename_i h18
    obtain ⟨v,r,rfl⟩ : ∃ v r,l = v :: r := by
     cases l with
     | nil => exact absurd (by rw [h18]; decide) hargs
     | cons v r => exact ⟨v,r,rfl⟩
    obtain ⟨t,ht⟩ := YL (m.pool ++ [ndI (m.at' + 1)]) [(m.pool.length : Int),m.s,m.e,m.d]
    have e1 : (yR (m.pool ++ [ndI (m.at' + 1)]) [(m.pool.length : Int),m.s,m.e,m.d]).1 = m.pool ++ (ndI (m.at' + 1) :: t) := by rw [ht]; simp
    have hv0 := hv v (by simp)
    have up : nod ((yR (m.pool ++ [ndI (m.at' + 1)]) [(m.pool.length : Int),m.s,m.e,m.d]).1 ++ [ndK ((yR (m.pool ++ [ndI (m.at' + 1)]) [(m.pool.length : Int),m.s,m.e,m.d]).2 : Int)]) v = nod m.pool v := by
     rw [e1,List.append_assoc,aaw hv0]
    refine LT k (fun u hu => ?_) ?_
    ·simp only [List.mem_singleton] at hu; subst hu
     exact zO _ _
    ·rcases hk with hk | ⟨hk,h7⟩ | ⟨hk,h7⟩
     ·refine .inr (.inl ⟨by omega,?_⟩)
      simp only [List.getD_cons_zero]
      rw [ZP]
     ·refine .inr (.inr ⟨by omega,?_⟩)
      simp only [List.getD_cons_zero] at h7 ⊢
      rw [up,h7]
     ·omega
   split
   ·intro h; cases h
   split
   ·rename_i q hq
    intro h
    have hz : q + 1 = 0 := by injection h
    obtain ⟨n1,n19,l2⟩ := BG (n := (nod m.pool f).n) (k := l.length) (by simpa using hargs)
    rw [IU (by omega) (by simpa using (Eq.symm (by simpa using hargs : y1 (nod m.pool f).n = (l.length : Int))))] at hq
    split at hq
    ·split at hq
     ·cases hq
     ·split at hq
      ·cases hq
      ·split at hq
       ·cases hq
       ·cases hq; omega
    ·cases hq; omega
   ·intro h; cases h
  split
  ·unfold Um
   split
   ·intro h; cases h
   ·split <;> (intro h; cases h)
  ·intro h; cases h
theorem Rt {c : Cd} : ∀ (k : Nat) {m : Mc} {f : Int} {l : List Int} {h : Int},CU c k m f l = .error h -> h = 0 \/ (1 <= h /\ h <= 7)
 | 0,m,f,l,h,he => by cases he; exact .inl rfl
 | k + 1,m,f,l,h,he => by
  unfold CU at he
  simp only at he
  split at he
  ·unfold Jg at he
   split at he
   ·cases he; omega
   ·split at he
    ·cases he; omega
    ·cases he
  split at he
  ·split at he
   ·cases he; omega
   rename_i hargs
   split at he
   ·exact Rt k he
   split at he
   ·cases he
   split at he
   ·rename_i q hq
    cases he
    obtain ⟨n1,n19,l2⟩ := BG (n := (nod m.pool f).n) (k := l.length) (by simpa using hargs)
    rw [IU (by omega) (by simpa using (Eq.symm (by simpa using hargs : y1 (nod m.pool f).n = (l.length : Int))))] at hq
    split at hq
    ·split at hq
     ·cases hq
     ·split at hq
      ·cases hq
      ·split at hq
       ·cases hq
       ·cases hq; omega
    ·cases hq; omega
   ·cases he
  split at he
  ·unfold Um at he
   split at he
   ·cases he; omega
   ·split at he
    ·cases he
    ·cases he; omega
  ·cases he; omega
theorem aan {c : Cd} (_ : zy c = true) {m : Mc} (h : RunM c m) {q : Int} (he : doM c m = .error q) : 1 <= q /\ q <= 7 := by
 unfold doM at he
 simp only at he
 split at he
 ·unfold Bh at he
  split at he
  ·cases he; omega
  split at he
  ·cases he; omega
  ·rename_i l m1 ht
   obtain ⟨f1,f2,f3,f4,f5,f6,f7,f8,f9⟩ := KG h.gm ht
   rcases Rt 3 he with rfl | h1
   ·exact absurd he (LT 3 (fun v hv => f2 v (by have := List.mem_of_mem_drop hv; simpa using this)) (.inl (Nat.le_refl _)))
   ·exact h1
 split at he
 ·unfold Jz at he
  split at he
  ·cases he; omega
  simp only at he
  split at he
  ·cases he
  split at he
  ·cases he; omega
  split at he
  ·cases he
  ·cases he; omega
 ·have go : ∀ {r : Except Int Mc} {n : Int},(∀ q',r = .error q' -> 1 <= q' /\ q' <= 7) -> goM c r n = .error q -> 1 <= q /\ q <= 7 := by
   intro r n hr hg
   unfold goM at hg
   split at hg
   ·cases hg; exact hr _ rfl
   ·split at hg
    ·cases hg
    ·cases hg; omega
  unfold Gh at he
  split at he
  ·exact go (fun q' e => by cases e) he
  split at he
  ·refine go (fun q' e => ?_) he
   unfold WD at e
   split at e
   ·cases e; omega
   ·split at e
    ·cases e; omega
    ·cases e
  split at he
  ·refine go (fun q' e => ?_) he
   unfold JU at e
   split at e
   ·cases e
   ·split at e
    ·cases e; omega
    ·cases e
  split at he
  ·exact go (fun q' e => by cases e) he
  split at he
  ·exact go (fun q' e => by cases e) he
  split at he
  ·cases he; omega
  ·exact go (fun q' e => by cases e) he
theorem MY {c : Cd} {m : Mc} (h : Bm c m = true) (h0 : m.state = 0) : Bm c (Az c m) = true := by
 obtain ⟨hr,hc,hl⟩ := Kc h h0
 unfold Az
 cases he : doM c m with
 | error q => exact Vj h (aan hc hr he)
 | ok m' =>
  obtain ⟨g1,⟨t,g2,g3⟩,g4⟩ := Pm hc hr he
  simp only
  split
  ·exact Yo hc g1.ok ‹_› g1.s g1.e g1.d g4
  ·exact Vj h (by omega)

theorem Wc : ∀ (n : Nat) (pre mid post : List Int) (i j : Int),mid.length <= n -> i = pre.length -> j = i + mid.length - 1 -> (pre ++ mid ++ post).length < 4611686018427387904 ->
  zK i j ((pre ++ mid ++ post).map eI) = some (.tup [],[.os (1,0) ((pre ++ mid.reverse ++ post).map eI)])
 | 0,pre,mid,post,i,j,hn,hi,hj,hl => by
  have : mid = [] := List.length_eq_zero_iff.1 (by omega)
  subst this
  rw [zB,xb (decide_eq_false (by simp at hj; omega))]
  rfl
 | n + 1,pre,mid,post,i,j,hn,hi,hj,hl => by
  match mid,hn,hj,hl with
  | [],hn,hj,hl =>
   rw [zB,xb (decide_eq_false (by simp at hj; omega))]
   rfl
  | [x],hn,hj,hl =>
   rw [zB,xb (decide_eq_false (by simp at hj; omega))]
   rfl
  | x :: z :: r,hn,hj,hl =>
   obtain ⟨m,y,hm⟩ : ∃ m y,z :: r = m ++ [y] := ⟨(z :: r).dropLast,(z :: r).getLast (by simp),(List.dropLast_concat_getLast (by simp)).symm⟩
   rw [hm] at hn hj hl ⊢
   simp only [lnC,lnA,lnN] at hn hj hl
   subst hi
   have hj' : j = ((pre.length + m.length + 1 : Nat) : Int) := by omega
   subst hj'
   have hx : (pre ++ x :: (m ++ [y]) ++ post)[pre.length]? = some x := by simp
   have hy : (pre ++ x :: (m ++ [y]) ++ post)[pre.length + m.length + 1]? = some y := by
    have e : pre ++ x :: (m ++ [y]) ++ post = (pre ++ x :: m) ++ y :: post := by simp
    have e2 : pre.length + m.length + 1 = (pre ++ x :: m).length := by simp; omega
    rw [e,e2]; simp
   have len : (pre ++ x :: (m ++ [y]) ++ post).length = pre.length + m.length + 2 + post.length := by simp; omega
   have s1 : List.set ((pre ++ x :: (m ++ [y]) ++ post).map eI) pre.length (iN y) = (pre ++ y :: (m ++ [y]) ++ post).map eI := by
    rw [<- List.map_set]; simp
   have hy2 : (pre ++ y :: (m ++ [y]) ++ post)[pre.length + m.length + 1]? = some y := by
    have e : pre ++ y :: (m ++ [y]) ++ post = (pre ++ y :: m) ++ y :: post := by simp
    have e2 : pre.length + m.length + 1 = (pre ++ y :: m).length := by simp; omega
    rw [e,e2]; simp
   have s2 : List.set ((pre ++ y :: (m ++ [y]) ++ post).map eI) (pre.length + m.length + 1) (iN x) = ((pre ++ [y]) ++ m ++ (x :: post)).map eI := by
    have e : pre ++ y :: (m ++ [y]) ++ post = (pre ++ y :: m) ++ y :: post := by simp
    have e2 : pre.length + m.length + 1 = (pre ++ y :: m).length := by simp; omega
    rw [<- List.map_set,e,e2]; simp
   have len2 : (pre ++ y :: (m ++ [y]) ++ post).length = pre.length + m.length + 2 + post.length := by simp; omega
   have ih := Wc n (pre ++ [y]) m (x :: post) ((pre.length : Int) + 1) (((pre.length + m.length + 1 : Nat) : Int) - 1) (by omega) (by simp) (by simp; omega) (by simp; omega)
   rw [zB,xK (decide_eq_true (by omega)),
    D8 (l := pre ++ x :: (m ++ [y]) ++ post) (v := ((pre.length + m.length + 1 : Nat) : Int)) (x := y) (by omega) (by rw [Int.toNat_natCast]; exact hy),
    D8 (l := pre ++ x :: (m ++ [y]) ++ post) (v := (pre.length : Int)) (x := x) (by omega) (by rw [Int.toNat_natCast]; exact hx),
    yu (by rw [lnM]; exact yx (by omega)),Int.toNat_natCast,xW hx,yA,s1,
    yu (by rw [lnM]; exact yx (by omega)),Int.toNat_natCast,xW hy2,yA,s2,w64 (n := (pre.length : Int) + 1) (by omega) (by omega),w64 (n := ((pre.length + m.length + 1 : Nat) : Int) - 1) (by omega) (by omega),ih]
   simp
theorem Zf {l : List Int} (hl : l.length < 4611686018427387904) : V 183 [.os (1,0) (l.map eI)] = some (.tup [],[.os (1,0) (l.reverse.map eI)]) := by
 have h := Wc l.length [] l [] 0 ((l.length : Int) - 1) (Nat.le_refl _) rfl (by omega) (by simpa using hl)
 simp only [List.nil_append,List.append_nil] at h
 rw [IC,lnM,w64 (n := ni l.length - 1) (by simp only [ni]; omega) (by simp only [ni]; omega)]
 exact h

theorem RT (a : Int) (r : List Int) : part ((a :: r).map eI) (some (Int.toNat 1,((a :: r).map eI).length - Int.toNat 1)) = r.map eI := by
 simp only [part,List.map_cons,lnC]
 show (r.map eI).take ((r.map eI).length + 1 - 1) = _
 exact List.take_of_length_le (by simp)
theorem JG {c : Cd} (hc : c.list.length <= 400) {many : Nat} (hm : many <= 4) : ∀ (k i : Nat) {m : Mc} {acc : List Int},i + k = many + 1 -> acc.length = i -> RunM c m -> zP c (m.at' + 1) = true -> m.pool.length <= 3000 -> (∀ v ∈ acc,InP m.pool v) ->
  Lt c (zT ((many : Int) + 1) (i : Int) m.at' m.s m.e m.d m.state m.ask m.arg (c.pool.map eN) (c.list.map eIn) (c.defs.map eDf) (acc.map eI) (m.pool.map eN)) (match Dw k m with
   | none => .error 7
   | some (l,m') => CU c 3 m' ((acc ++ l).reverse.getD 0 0) ((acc ++ l).reverse.drop 1))
 | 0,i,m,acc,hi,ha,hr,hnx,hl,hv => by
  rw [Bv,xb (decide_eq_false (by omega)),Gr (Zf (l := acc) (by omega))]
  simp only [Dw,List.append_nil]
  obtain ⟨a,r,hq⟩ : ∃ a r,acc.reverse = a :: r := by
   cases hq : acc.reverse with
   | nil => have h := congrArg List.length hq; rw [List.length_reverse,lnN] at h; omega
   | cons a r => exact ⟨a,r,rfl⟩
  have hlen : r.length = many := by have h := congrArg List.length hq; rw [List.length_reverse,lnC] at h; omega
  have hvr : ∀ v ∈ a :: r,InP m.pool v := fun v hv' => hv v (by rw [<- hq] at hv'; simpa using hv')
  rw [hq,zG,yu (by simp [cW]; omega),RT]
  simp only [List.getD_cons_zero,List.drop_one,List.tail_cons]
  have h0 := LT (c := c) 3 (m := m) (f := a) (l := r) (fun v hv' => hvr v (by simp [hv'])) (.inl (Nat.le_refl _))
  have hcall := Si hc 3 hr hnx (by omega) (hvr a (by simp)) (fun v hv' => hvr v (by simp [hv'])) (by omega) (fun _ _ => okPool_iff.2 ⟨hr.gm.ok,hl⟩) h0
  cases he : CU c 3 m a r with
  | ok m' => rw [he] at hcall; rw [CM (DR hcall)]; rfl
  | error q =>
   rw [he] at hcall
   obtain ⟨q0,m',hx⟩ := Cy hcall
   rw [CM hx]
   exact ⟨q0,m',rfl⟩
 | k + 1,i,m,acc,hi,ha,hr,hnx,hl,hv => by
  rw [Bv,xK (decide_eq_true (by omega))]
  unfold Dw
  cases ht : CG m with
  | none =>
   have h1 := Jw (c := c) hr.gm.s ht
   rw [Am h1]
   exact ⟨by decide,m,rfl⟩
  | some q =>
   obtain ⟨v,m1⟩ := q
   have h1 := NV (c := c) hr.gm.s ht
   obtain ⟨g1,g2,g3,g4,g5,g6,g7,g8⟩ := CH hr.gm ht
   have ea : acc.map eI ++ [iN v] = (acc ++ [v]).map eI := by simp
   have ih := JG hc hm k (i + 1) (m := m1) (acc := acc ++ [v]) (by omega) (by simp [ha]) ⟨g1,g5.trans hr.st,g6.trans hr.ask,g7.trans hr.arg,by rw [g4]; exact hr.pl⟩ (by rw [g4]; exact hnx) (by rw [g3]; exact hl) (fun u hu => by
    rw [g3]
    rcases List.mem_append.1 hu with hu | hu
    ·exact hv u hu
    ·simp only [List.mem_singleton] at hu; subst hu; rw [<- g3]; exact g2)
   rw [Am h1,Bool.not_true,xJ,yu (Vt (by omega) v),yA,ea,yM (by omega)]
   simp only
   cases ht2 : Dw k m1 with
   | none => rw [ht2] at ih; exact ih
   | some q2 =>
    obtain ⟨l2,m2⟩ := q2
    rw [ht2] at ih
    simp only [List.append_assoc,List.singleton_append] at ih
    exact ih
theorem UA {c : Cd} (hc : c.list.length <= 400) {m : Mc} (hr : RunM c m) (hl : m.pool.length <= 3000) {k : Int} (hk : 0 <= k /\ k <= 4) : Lt c (V 132 [eSt c m,iN k]) (Bh c m k.toNat) := by
 have hpl := isPl_iff.1 hr.pl
 rw [JL,w64 (n := m.at' + 1) (by omega) (by omega),zt (DH hc _)]
 unfold Bh
 cases hp : zP c (m.at' + 1) with
 | false => rw [if_pos rfl]; exact ⟨by decide,m,rfl⟩
 | true =>
  have h := JG hc (many := k.toNat) (by omega) (k.toNat + 1) 0 (acc := []) (by omega) rfl hr hp hl (by simp)
  rw [Int.natCast_zero,Int.toNat_of_nonneg hk.1] at h
  rw [if_neg (by simp),Bool.not_true,xJ,w64 (n := k + 1) (by omega) (by omega)]
  simp only [List.nil_append] at h
  exact h
theorem Zh {c : Cd} (hc : c.list.length <= 400) {m : Mc} (hr : RunM c m) (hl : m.pool.length <= 3000) : Lt c (V 133 [eSt c m]) (Jz c m) := by
 rw [Lz]
 unfold Jz
 cases ht : CG m with
 | none =>
  have h1 := Jw (c := c) hr.gm.s ht
  rw [Am h1]
  exact ⟨by decide,m,rfl⟩
 | some q =>
  obtain ⟨v,m1⟩ := q
  have h1 := NV (c := c) hr.gm.s ht
  obtain ⟨g1,g2,g3,g4,g5,g6,g7,g8⟩ := CH hr.gm ht
  rw [Am h1,Bool.not_true,xJ,Ce g1.d]
  simp only
  by_cases k1 : (nod m1.pool m1.d).kind = 1
  ·rw [if_pos k1,xK (yF k1)]; rfl
  rw [if_neg k1,xb (yE k1)]
  by_cases k5 : (nod m1.pool m1.d).kind = 5
  ·rw [if_neg (fun h => h k5),xb (yG k5)]
   have ha := J4 g1.ok g1.d (.inl k5)
   have hlst := Wu g1.ok (by rw [g3]; omega) ha
   have hin := GL g1.ok ha
   rw [J5 hlst]
   rcases hq : zR m1.pool (nod m1.pool m1.d).a with ⟨xs,b⟩
   have hfr := PJ (c := c) hq (many := 3) (by omega)
   rw [hq] at hin
   have none : ∀ {X : Option Ret},¬ (b = true /\ xs.length = 3 /\ (nod m1.pool (xs.getD 0 0)).kind = 3 /\ zP c (nod m1.pool (xs.getD 0 0)).n = true) -> X = some (iN 7,[eSt c m1]) -> Lt c X (match Jj c m1.pool (nod m1.pool m1.d).a 3 with
     | some (n,[s,e]) => .ok (LI ⟨m1.pool,n,s,e,(nod m1.pool m1.d).b,m1.state,m1.ask,m1.arg⟩ v)
     | _ => .error 7) := by
    intro X hn hX
    rw [hfr,if_neg hn]
    exact ⟨by decide,m1,hX⟩
   cases b with
   | false => exact none (fun h => by simp at h) rfl
   | true =>
    rw [Bool.not_true,xJ]
    by_cases h4 : xs.length = 3
    ·obtain ⟨a,s,e,rfl⟩ : ∃ a s e,xs = [a,s,e] := by
      match xs,h4 with
      | [a,s,e],_ => exact ⟨a,s,e,rfl⟩
      | [],h => simp at h
      | [_],h => simp at h
      | [_,_],h => simp at h
      | _ :: _ :: _ :: _ :: _,h => simp at h
     have ha' := hin a (by simp)
     rw [xb (yG (Gd (k := 3) rfl)),zG,JJ ha']
     by_cases h3 : (nod m1.pool a).kind = 3
     ·rw [xb (yG h3),zG,YB ha',zt (DH hc _)]
      cases h5 : zP c (nod m1.pool a).n with
      | false => exact none (fun h => by have := h.2.2.2; simp only [List.getD_cons_zero,h5] at this; cases this) rfl
      | true =>
       have a3 := Ew (c := c) (m := ⟨m1.pool,(nod m1.pool a).n,s,e,(nod m1.pool m1.d).b,m1.state,m1.ask,m1.arg⟩) (by show m1.pool.length < _; rw [g3]; omega) v
       rw [hfr,if_pos ⟨rfl,rfl,h3,h5⟩,Bool.not_true,xJ,zG,YB ha',Du,TV,zQ a3]
       rfl
     ·rw [xK (yH h3)]
      exact none (fun h => h3 h.2.2.1) rfl
    ·rw [xK (yH (Mz (l := xs) (k := 3) (fun h => h4 (by omega))))]
     exact none (fun h => h4 h.2.1) rfl
  ·rw [if_pos k5,xK (yH k5)]
   exact ⟨by decide,m1,rfl⟩
end Go.Eng
/-! a step of a machine: the reference's side: the stack,the frames,calls -/
namespace Go.Eng
noncomputable section
open Go.Proofs Go.Proofs.Tryz
set_option maxHeartbeats 4000000

abbrev eMo (m : Mc) : D := .op [.os (5,0) (m.pool.map eN),iN m.at',iN m.s,iN m.e,iN m.d,iN m.state,iN m.ask,iN m.arg]
def Nf (c : Cd) (X : Option Ret) (r : Except Int Mc) : Prop := match r with
 | .ok m => X = some (iN 0,[eMo m])
 | .error h => (h ≠ 0 /\ ∃ m',X = some (iN h,[eMo m'])) \/ (h = 7 /\ ∃ m',zP c m'.at' = false /\ X = some (iN 0,[eMo m']))
theorem Uh {c : Cd} {X : Option Ret} {m : Mc} (h : Nf c X (.ok m)) : X = some (iN 0,[eMo m]) := h
theorem Qm {c : Cd} {X : Option Ret} {h : Int} (e : Nf c X (.error h)) : (h ≠ 0 /\ ∃ m',X = some (iN h,[eMo m'])) \/ (h = 7 /\ ∃ m',zP c m'.at' = false /\ X = some (iN 0,[eMo m'])) := e
theorem Kf {c : Cd} {X Y : Option Ret} {r : Except Int Mc} (h : Nf c X r) (hy : ∀ q m',X = some (iN q,[eMo m']) -> Y = some (iN q,[eMo m'])) : Nf c Y r := by
 cases r with
 | ok m => exact hy _ _ (Uh h)
 | error q =>
  rcases Qm h with ⟨q0,m',hx⟩ | ⟨q7,m',hp,hx⟩
  ·exact .inl ⟨q0,m',hy _ _ hx⟩
  ·exact .inr ⟨q7,m',hp,hy _ _ hx⟩
theorem zm {c : Cd} {X : Option Ret} {h : Int} (m : Mc) (h0 : h ≠ 0) (e : X = some (iN h,[eMo m])) : Nf c X (.error h) := .inl ⟨h0,m,e⟩

theorem Ft {m : Mc} (hl : m.pool.length < 4294967296) (v : Int) : V 95 [eMo m,iN v] = some (.tup [],[eMo (LI m v)]) := by
 have h := zi hl (ndP v m.s)
 rw [Vg,yV h]
 rfl
theorem Nb {m : Mc} (hs : InP m.pool m.s) {v : Int} {m' : Mc} (h : CG m = some (v,m')) : V 218 [eMo m] = some (.tup [iN v,.bool true],[eMo m']) := by
 unfold CG at h
 rw [Ml,Ce hs]
 split at h
 ·rename_i h5
  cases h
  rw [xb (yG h5)]
 ·cases h
theorem GT {m : Mc} (hs : InP m.pool m.s) (h : CG m = none) : V 218 [eMo m] = some (.tup [iN 0,.bool false],[eMo m]) := by
 unfold CG at h
 rw [Ml,Ce hs]
 split at h
 ·cases h
 ·rename_i h5
  rw [xK (yH h5)]
theorem Qv {p : List Nd} (hp : y2 p) : ∀ (k : Nat) (v : Int),InP p v -> k < 4611686018427387904 ->
  DN v (k : Int) (p.map eN) = some (alD (JM p k v),[])
 | 0,v,hv,hk => by
  rw [Ir,xb (decide_eq_false (by omega)),JJ hv]
  unfold JM
  by_cases h5 : (nod p v).kind = 5
  ·rw [if_pos h5,xb (yG h5),Zo hv]; rfl
  ·rw [if_neg h5,xK (yH h5)]; rfl
 | k + 1,v,hv,hk => by
  have hw : w6 (((k + 1 : Nat) : Int) - 1) = (k : Int) := by rw [w64 (by omega) (by omega)]; omega
  rw [Ir,xK (decide_eq_true (by omega)),JJ hv]
  unfold JM
  by_cases h5 : (nod p v).kind = 5
  ·have ih := Qv hp k (nod p v).b (Lh hp hv h5) (by omega)
   rw [if_pos h5,xK (yF h5),Zp hv,hw,ih]
  ·rw [if_neg h5,xb (yE h5),JJ hv,xK (yH h5)]; rfl
theorem Yw {p : List Nd} (hp : y2 p) {v : Int} (hv : InP p v) {n : Int} (h0 : 0 <= n) (h1 : n < 4611686018427387904) : V 216 [eP p,iN v,iN n] = some (alD (JM p n.toNat v),[]) := by
 have := Qv hp n.toNat v hv (by omega)
 rw [Int.toNat_of_nonneg h0] at this
 rw [Vf]
 exact this
theorem Lk {p : List Nd} (hp : y2 p) (hl : p.length < 4294967290) : ∀ (k : Nat) (v : Int) (acc : List Int),InP p v -> v < k -> acc.length + k < 4294967296 ->
  BJ v (p.map eN) (acc.map eI) = some (.tup [.os (1,0) ((if (IJ p k v).2 = true then acc ++ (IJ p k v).1 else []).map eI),.bool (IJ p k v).2],[])
 | 0,v,acc,hv,hk,ha => by omega
 | k + 1,v,acc,hv,hk,ha => by
  rw [KI,JJ hv]
  unfold IJ
  by_cases h5 : (nod p v).kind = 5
  ·have hb := z5 (EJ hp hv) h5
   have ih := Lk hp hl k (nod p v).b (acc ++ [(nod p v).a]) (Lh hp hv h5) (by omega) (by simp only [lnA,lnC,lnN]; omega)
   have ea : acc.map eI ++ [iN (nod p v).a] = (acc ++ [(nod p v).a]).map eI := by simp
   have hlim : decide (ni ((acc ++ [(nod p v).a]).map eI).length <= LIM) = true := decide_eq_true (by rw [pE]; simp only [ni,lnM,lnA,lnC,lnN]; omega)
   rw [if_pos h5,xK (yF h5),Zo hv,ea,yu hlim,yA,Zp hv,ih]
   simp
  ·rw [if_neg h5,xb (yE h5),JJ hv]
   by_cases h1 : (nod p v).kind = 1
   ·rw [xb (yG h1)]; simp [h1]
   ·rw [xK (yH h1)]; simp [h1]
theorem Gp {p : List Nd} (hp : y2 p) (hl : p.length < 2147483648) {v : Int} (hv : InP p v) : V 228 [eP p,iN v] = some (.tup [.os (1,0) ((if (zR p v).2 = true then (zR p v).1 else []).map eI),.bool (zR p v).2],[]) := by
 have := Lk hp (by omega) (v.toNat + 1) v [] hv (by omega) (by simp only [lnN]; omega)
 rw [PB]
 simp only [List.nil_append] at this
 exact this
def JT (p : List Nd) (v : Int) (many : Nat) : Option (Int × List Int) := if (zR p v).2 = true /\ (zR p v).1.length = many /\ (nod p ((zR p v).1.getD 0 0)).kind = 3 then some ((nod p ((zR p v).1.getD 0 0)).n,(zR p v).1.drop 1) else none
theorem RE {c : Cd} {p : List Nd} {v : Int} {many : Nat} (hm : 0 < many) : Jj c p v many = match JT p v many with
  | none => none
  | some (n,r) => if zP c n = true then some (n,r) else none := by
 rw [PJ (xs := (zR p v).1) (b := (zR p v).2) rfl hm]
 unfold JT
 by_cases h : (zR p v).2 = true /\ (zR p v).1.length = many /\ (nod p ((zR p v).1.getD 0 0)).kind = 3
 ·rw [if_pos h]
  simp only
  by_cases h2 : zP c (nod p ((zR p v).1.getD 0 0)).n = true
  ·rw [if_pos ⟨h.1,h.2.1,h.2.2,h2⟩,if_pos h2]
  ·rw [if_neg (fun q => h2 q.2.2.2),if_neg h2]
 ·rw [if_neg h,if_neg (fun q => h ⟨q.1,q.2.1,q.2.2.1⟩)]
theorem PI {p : List Nd} {v : Int} {many : Nat} {n : Int} {r : List Int} (hm : 0 < many) (h : JT p v many = some (n,r)) : r.length + 1 = many := by
 unfold JT at h
 split at h
 ·rename_i hh; cases h; rw [List.length_drop]; omega
 ·cases h
def frD (r : Option (Int × List Int)) : D := match r with | some (n,l) => .tup [iN n,.os (1,0) (l.map eI),.bool true] | none => .tup [iN 0,.os (1,0) [],.bool false]
theorem Sg {p : List Nd} (hp : y2 p) (hl : p.length < 2147483648) {v : Int} (hv : InP p v) {many : Nat} (hm : 0 < many) : V 234 [eP p,iN v,iN (many : Int)] = some (frD (JT p v many),[]) := by
 have hlst := Gp hp hl hv
 have hin := GL hp hv
 rw [QZ,Cu hlst]
 unfold JT
 cases hb : (zR p v).2 with
 | false => rw [if_neg (fun h => by simp at h)]; rfl
 | true =>
  rw [if_pos rfl,Bool.not_true,xJ]
  by_cases h4 : (zR p v).1.length = many
  ·cases hq : (zR p v).1 with
   | nil => rw [hq] at h4; simp at h4; omega
   | cons a r =>
    rw [hq] at hin h4
    have ha := hin a (by simp)
    rw [xb (yG (Gd (by rw [h4]))),zG,JJ ha]
    by_cases h3 : (nod p a).kind = 3
    ·rw [xb (yG h3),zG,YB ha,yu (by simp [cW]; omega),RT,if_pos ⟨rfl,h4,h3⟩]
     rfl
    ·rw [xK (yH h3),if_neg (fun h => h3 h.2.2)]; rfl
  ·rw [xK (yH (Mz (fun h => h4 (by omega)))),if_neg (fun h => h4 h.2.1)]; rfl

theorem Y0 {p : List Nd} {n q : Int} {l : List Int} (h12 : 1 <= n /\ n <= 12) (hargs : (l.length : Int) = y1 n) (hr : JE p n l = .error q) : q = 3 \/ q = 4 := by
 rw [IU h12 hargs] at hr
 split at hr
 ·split at hr
  ·cases hr
  ·split at hr
   ·cases hr
   ·split at hr
    ·cases hr
    ·cases hr; exact .inr rfl
 ·cases hr; exact .inl rfl
theorem Sf {c : Cd} (hc : c.list.length <= 400) : ∀ (k : Nat) {m : Mc} {f : Int} {l : List Int},RunM c m -> zP c (m.at' + 1) = true -> m.pool.length + 100 * k < 2147483600 -> InP m.pool f -> (∀ v ∈ l,InP m.pool v) -> l.length <= 4 -> CU c k m f l ≠ .error 0 ->
  Nf c (V 233 [eCd c,eMo m,iN f,.rs (1,0) (l.map eI),iN (m.at' + 1)]) (CU c k m f l)
 | 0,m,f,l,h,hnx,hl,hf,hv,h4,h0 => absurd rfl h0
 | k + 1,m,f,l,h,hnx,hl,hf,hv,h4,h0 => by
  have hok := EJ h.gm.ok hf
  have hpl := isPl_iff.1 h.pl
  rw [QY,Ce hf]
  unfold CU at h0 ⊢
  simp only at h0 ⊢
  by_cases h6 : (nod m.pool f).kind = 6
  ·rw [if_pos h6,xK (yF h6)]
   have hfn : 0 <= (nod m.pool f).n /\ (nod m.pool f).n <= 1000000000 := by
    simp [okN,h6] at hok
    exact wi_iff.1 hok.1
   have t1 : Int.tmod (nod m.pool f).n 8 = (nod m.pool f).n % 8 := Int.tmod_eq_emod_of_nonneg hfn.1
   have t2 : Int.tdiv (nod m.pool f).n 8 = (nod m.pool f).n / 8 := Int.tdiv_eq_ediv_of_nonneg hfn.1
   rw [yu (by decide),t1,t2]
   unfold Jg
   by_cases h1 : (nod m.pool f).n % 8 = (l.length : Int)
   ·rw [if_neg (by omega),xb (yG (by rw [Gd rfl]; exact h1)),yu (by decide),w64 (n := (nod m.pool f).n / 8) (by omega) (by omega),lnM]
    cases h2 : zP c ((nod m.pool f).n / 8) with
    | false =>
     have : ¬ ((nod m.pool f).n / 8 <= (c.list.length : Int) - 1) := fun h => by
      have := isPl_iff.2 ⟨by omega,h⟩
      rw [h2] at this; cases this
     rw [if_pos rfl,xK (decide_eq_true (by simp only [ni]; omega))]
     exact zm m (by decide) rfl
    | true =>
     have h2' := isPl_iff.1 h2
     rw [if_neg (by simp),xb (decide_eq_false (by simp only [ni]; omega))]
     have a1 := zi (p := m.pool) (by omega) (ndI (m.at' + 1))
     have l1 := BU (m.pool ++ [ndI (m.at' + 1)]) [(m.pool.length : Int),m.s,m.e]
     simp only [lnA,lnC,lnN] at l1
     have a2 : V 210 [rP (m.pool ++ [ndI (m.at' + 1)]),.rs (1,0) [iN (m.pool.length : Int),iN m.s,iN m.e]] = _ := Ku (q := m.pool ++ [ndI (m.at' + 1)]) (row := [(m.pool.length : Int),m.s,m.e]) (by simp only [lnA,lnC,lnN]; omega)
     have a3 := zi (p := (yR (m.pool ++ [ndI (m.at' + 1)]) [(m.pool.length : Int),m.s,m.e]).1) (by omega) (ndP (yR (m.pool ++ [ndI (m.at' + 1)]) [(m.pool.length : Int),m.s,m.e]).2 m.d)
     rw [yV a1,C9 a2,yV a3]
     generalize hB : yR (m.pool ++ [ndI (m.at' + 1)]) [(m.pool.length : Int),m.s,m.e] = B at l1 ⊢
     have l2 := BU (B.1 ++ [ndP B.2 m.d]) l
     simp only [lnA,lnC,lnN] at l2
     have a4 := Ku (q := B.1 ++ [ndP B.2 m.d]) (row := l) (by simp only [lnA,lnC,lnN]; omega)
     have a5 := zi (p := (yR (B.1 ++ [ndP B.2 m.d]) l).1) (by omega) (ndP (yR (B.1 ++ [ndP B.2 m.d]) l).2 (nod m.pool f).a)
     have a6 := zi (p := (yR (B.1 ++ [ndP B.2 m.d]) l).1 ++ [ndP (yR (B.1 ++ [ndP B.2 m.d]) l).2 (nod m.pool f).a]) (by simp only [lnA,lnC,lnN]; omega) ndN
     have e6 : (((yR (B.1 ++ [ndP B.2 m.d]) l).1 ++ [ndP (yR (B.1 ++ [ndP B.2 m.d]) l).2 (nod m.pool f).a]).length : Int) = (yR (B.1 ++ [ndP B.2 m.d]) l).1.length + 1 := by simp
     rw [e6] at a6
     rw [C9 a4,yV a5,yV a6,yu (by decide)]
     rfl
   ·rw [if_pos h1,xK (yH (by rw [Gd rfl]; exact h1))]
    exact zm m (by decide) rfl
  rw [if_neg h6] at h0 ⊢
  rw [xb (yE h6)]
  by_cases h8 : (nod m.pool f).kind = 8
  ·rw [if_pos h8] at h0 ⊢
   rw [xK (yF h8)]
   have prim : Nf c (V 240 [eCd c,eMo m,iN (nod m.pool f).n,.rs (1,0) (l.map eI),iN (m.at' + 1)]) (if y1 (nod m.pool f).n ≠ (l.length : Int) then .error 2
     else if (nod m.pool f).n = 18 then
      CU c k ⟨(yR (m.pool ++ [ndI (m.at' + 1)]) [(m.pool.length : Int),m.s,m.e,m.d]).1 ++ [ndK (yR (m.pool ++ [ndI (m.at' + 1)]) [(m.pool.length : Int),m.s,m.e,m.d]).2],m.at',m.s,m.e,m.d,m.state,m.ask,m.arg⟩ (l.getD 0 0) [((yR (m.pool ++ [ndI (m.at' + 1)]) [(m.pool.length : Int),m.s,m.e,m.d]).1.length : Int)]
     else if (nod m.pool f).n > 12 then
      .ok ⟨(yR m.pool l).1,m.at',m.s,m.e,m.d,1,(nod m.pool f).n,(yR m.pool l).2⟩
     else match JE m.pool (nod m.pool f).n l with
      | .error h => .error (h + 1)
      | .ok (p,v) => .ok ⟨p ++ [ndP v m.s],m.at' + 1,p.length,m.e,m.d,m.state,m.ask,m.arg⟩) := by
    rw [TH,Rc Pa]
    by_cases hargs : y1 (nod m.pool f).n = (l.length : Int)
    ·have hargs' : ¬ y1 (nod m.pool f).n ≠ (l.length : Int) := fun h => h hargs
     obtain ⟨n1,n19,l2⟩ := BG hargs
     rw [if_neg hargs'] at h0 ⊢
     rw [xb (yG (Gd hargs.symm))]
     by_cases h18 : (nod m.pool f).n = 18
     ·rw [if_pos h18] at h0 ⊢
      rw [xK (yF h18)]
      obtain ⟨v,rfl⟩ : ∃ v,l = [v] := by
       rw [h18] at hargs
       match l,hargs with
       | [v],_ => exact ⟨v,rfl⟩
       | [],h => cases h
       | _ :: _ :: r,h => simp only [lnC] at h; have : y1 18 = 1 := rfl; omega
      have a1 := zi (p := m.pool) (by omega) (ndI (m.at' + 1))
      have l1 := BU (m.pool ++ [ndI (m.at' + 1)]) [(m.pool.length : Int),m.s,m.e,m.d]
      simp only [lnA,lnC,lnN] at l1
      have a2 : V 210 [rP (m.pool ++ [ndI (m.at' + 1)]),.rs (1,0) [iN (m.pool.length : Int),iN m.s,iN m.e,iN m.d]] = _ := Ku (q := m.pool ++ [ndI (m.at' + 1)]) (row := [(m.pool.length : Int),m.s,m.e,m.d]) (by simp only [lnA,lnC,lnN]; omega)
      have o1 : y2 (m.pool ++ [ndI (m.at' + 1)]) := zb h.gm.ok (Pe (by omega))
      obtain ⟨b1,⟨t,b2,b3⟩,b4⟩ := CX (row := [(m.pool.length : Int),m.s,m.e,m.d]) o1 (fun v hv => by
       simp only [List.mem_cons,List.not_mem_nil,or_false] at hv
       rcases hv with rfl | rfl | rfl | rfl
       ·exact zO _ _
       ·exact yX _ h.gm.s
       ·exact yX _ h.gm.e
       ·exact yX _ h.gm.d)
      have e1 : (yR (m.pool ++ [ndI (m.at' + 1)]) [(m.pool.length : Int),m.s,m.e,m.d]).1 = m.pool ++ (ndI (m.at' + 1) :: t) := by rw [b2]; simp
      have up : ∀ {v : Int},InP m.pool v -> InP ((yR (m.pool ++ [ndI (m.at' + 1)]) [(m.pool.length : Int),m.s,m.e,m.d]).1 ++ [ndK ((yR (m.pool ++ [ndI (m.at' + 1)]) [(m.pool.length : Int),m.s,m.e,m.d]).2 : Int)]) v := fun hv => yX _ (by rw [e1]; exact yX _ hv)
      have g2 : RunM c ⟨(yR (m.pool ++ [ndI (m.at' + 1)]) [(m.pool.length : Int),m.s,m.e,m.d]).1 ++ [ndK ((yR (m.pool ++ [ndI (m.at' + 1)]) [(m.pool.length : Int),m.s,m.e,m.d]).2 : Int)],m.at',m.s,m.e,m.d,m.state,m.ask,m.arg⟩ :=
       ⟨⟨zb b1 (Uf b4),up h.gm.s,up h.gm.e,up h.gm.d⟩,h.st,h.ask,h.arg,h.pl⟩
      rw [yV a1,C9 a2]
      generalize hB : yR (m.pool ++ [ndI (m.at' + 1)]) [(m.pool.length : Int),m.s,m.e,m.d] = B at l1 b1 b2 b4 e1 up g2 h0 ⊢
      have a3 := zi (p := B.1) (by omega) (ndK (B.2 : Int))
      have a4 := Sf hc k g2 hnx (by show (B.1 ++ [ndK (B.2 : Int)]).length + 100 * k < _; simp only [lnA,lnC,lnN]; omega) (up (hv v (by simp))) (l := [(B.1.length : Int)]) (fun u hu => by
       simp only [List.mem_singleton] at hu; subst hu; exact zO _ _) (by simp) h0
      rw [yV a3,zG]
      simp only [List.getD_cons_zero] at a4 ⊢
      simp only [List.map_cons,List.map_nil] at a4
      exact Kf a4 (fun q m' hx => by rw [MJ hx])
     rw [if_neg h18] at h0 ⊢
     rw [xb (yE h18)]
     by_cases h12 : (nod m.pool f).n > 12
     ·rw [if_pos h12,xK (decide_eq_true h12)]
      have a1 := Ku (q := m.pool) (row := l) (by omega)
      rw [C9 a1]
      rfl
     rw [if_neg h12,xb (decide_eq_false h12)]
     have hp := aa6 h.gm.ok (by omega) (n := (nod m.pool f).n) hv (by omega) hargs.symm
     cases hr : JE m.pool (nod m.pool f).n l with
     | error q =>
      rw [hr] at hp
      have hq := Y0 (by omega) hargs.symm hr
      rw [RN hp]
      rcases hq with rfl | rfl
      ·exact zm m (by decide) rfl
      ·exact zm m (by decide) rfl
     | ok r =>
      obtain ⟨p,v⟩ := r
      rw [hr] at hp
      obtain ⟨q1,q2,t,q3,q4⟩ := Qp h.gm.ok hv (by omega) hargs.symm hr
      have hpl' : p.length < 4294967296 := by rw [q3]; simp only [lnA]; omega
      have a3 := Ft (m := ⟨p,m.at',m.s,m.e,m.d,m.state,m.ask,m.arg⟩) hpl' v
      rw [RN hp,xb (yE (by omega)),xb (yE (by omega)),Ac a3]
      rfl
    ·rw [if_pos hargs,xK (yH (Mz (fun h => hargs h.symm)))]
     exact zm m (by decide) rfl
   exact Kf prim (fun q m' hx => by rw [VQ hx])
  rw [if_neg h8,xb (yE h8)]
  by_cases h7 : (nod m.pool f).kind = 7
  ·rw [if_pos h7,xK (yF h7)]
   unfold Um
   by_cases h1 : l.length = 1
   ·have hs := J4 h.gm.ok hf (.inr (.inr h7))
    have hfr : V 234 [eP m.pool,iN (nod m.pool f).a,iN 4] = _ := Sg h.gm.ok (by omega) hs (many := 4) (by omega)
    rw [if_neg (by omega),xb (yG (Gd (by omega))),RE (by omega)]
    obtain ⟨v,rfl⟩ : ∃ v,l = [v] := by
     match l,h1 with
     | [v],_ => exact ⟨v,rfl⟩
     | [],h => simp at h
     | _ :: _ :: _,h => simp at h
    cases hq : JT m.pool (nod m.pool f).a 4 with
    | none =>
     rw [hq] at hfr
     rw [BX hfr]
     exact zm m (by decide) rfl
    | some nr =>
     obtain ⟨n,r⟩ := nr
     rw [hq] at hfr
     have hlen := PI (by omega) hq
     obtain ⟨s,e,d,rfl⟩ : ∃ s e d,r = [s,e,d] := by
      match r,hlen with
      | [s,e,d],_ => exact ⟨s,e,d,rfl⟩
      | [],h => simp at h
      | [_],h => simp at h
      | [_,_],h => simp at h
      | _ :: _ :: _ :: _ :: _,h => simp at h
     have a3 := Ft (m := ⟨m.pool,n,s,e,d,m.state,m.ask,m.arg⟩) (by show m.pool.length < _; omega) v
     by_cases h5 : zP c n = true
     ·simp only [h5,if_true]
      rw [BX hfr,Bool.not_true,xJ,zG,Du,TV,zG,Ac a3]
      rfl
     ·have h5f : zP c n = false := by cases hz : zP c n with | true => exact absurd hz h5 | false => rfl
      simp only [h5f]
      refine .inr ⟨rfl,LI ⟨m.pool,n,s,e,d,m.state,m.ask,m.arg⟩ v,h5f,?_⟩
      rw [BX hfr,Bool.not_true,xJ,zG,Du,TV,zG,Ac a3]
   ·rw [if_pos h1,xK (yH (Mz (l := l) (k := 1) (fun h => h1 (by omega))))]
    exact zm m (by decide) rfl
  ·rw [if_neg h7,xb (yE h7)]
   exact zm m (by decide) rfl
end
end Go.Eng
/-! a step of a machine: the program's side: every instruction; runs -/
namespace Go.Eng
open Go.Proofs Go.Proofs.Tryz
set_option maxHeartbeats 4000000

theorem NU {q : List Nd} {v : Int} (hv : InP q v) : y4 q [v] = true := by
 simp only [y4,List.all_cons,List.all_nil,Bool.and_true]
 exact wi_iff.2 ⟨hv.1,by omega⟩
theorem Vo {l : List Int} {v : Int} (h : 0 <= v /\ v < (l.length : Int)) {R : Type} (K : Int -> Option R) : grd (decide (0 <= v) && decide (v < ni (l.map eI).length)) (cT (l.map eI) v.toNat fun x => asI .i64 x fun n => K n) = K (l.getD v.toNat 0) := by
 obtain ⟨u,hu⟩ := BQ (l := l) h.1 h.2
 rw [D8 h.1 hu]
 simp [hu]
theorem XG {q acc : List Nd} (hp : yU q = true) {v : Int} (hv : InP q v) (hc : acc.length + q.length < 4294967296) : V 93 [rP acc,eP q,iN v] = some (iN (z3 (-1) q v acc).2,[rP (z3 (-1) q v acc).1]) := by
 have hm : V 137 [rP acc,eP q,.rs (1,0) [iN v]] = _ := Wv (acc := acc) hp (rs := [v]) (by simp) (NU hv) hc
 have hl : (AP (-1) q [v] acc).1.length = q.length := by unfold AP; rw [CY]; simp
 rw [KN,J6 hm,Vo ⟨hv.1,by rw [hl]; exact hv.2⟩]
 rfl
theorem Fw {c : Cd} (_ : c.list.length <= 400) {m : Mc} {n : Int} {X : Option Ret} (h : X = match zP c n with
  | false => some (iN 7,[eSt c m])
  | true => some (iN 0,[eSt c ⟨m.pool,n,m.s,m.e,m.d,m.state,m.ask,m.arg⟩])) : Lt c X (goM c (.ok m) n) := by
 unfold goM
 cases hp : zP c n with
 | false => rw [hp] at h; exact ⟨by decide,m,h⟩
 | true => rw [hp] at h; exact h
theorem XO {c : Cd} (hf : FitsC c) (hok : zy c = true) {m : Mc} (hr : RunM c m) (hl : m.pool.length <= 3000) {x : In} {k : Nat} (hx : c.list[k]? = some x) : Lt c (V 134 [eSt c m,eIn x]) (Gh c m x) := by
 obtain ⟨c1,c2,c3⟩ := zu hok
 have cl := y5 c1
 have hin := IQ hok hx
 have hat := isPl_iff.1 hr.pl
 have w1 : w6 (m.at' + 1) = m.at' + 1 := w64 (by omega) (by omega)
 rw [KR]
 unfold Gh
 by_cases h1 : x.op = 1
 ·have hlit := Ql hin h1
  have f := D6 c1 hr.gm.ok hlit (-1)
  obtain ⟨f1,f2,t,f3,f4⟩ := f
  have hlen := congrArg List.length f3
  rw [lnA] at hlen
  have h2 := XG (acc := m.pool) c1 hlit (by omega)
  have h3 := Ew (c := c) (m := ⟨(z3 (-1) c.pool x.n m.pool).1,m.at',m.s,m.e,m.d,m.state,m.ask,m.arg⟩) (by show (z3 (-1) c.pool x.n m.pool).1.length < _; omega) (z3 (-1) c.pool x.n m.pool).2
  rw [if_pos h1,xK (yF h1),NK h2,zQ h3,w1,zt (DH c2 _)]
  refine Fw c2 ?_
  cases zP c (m.at' + 1) <;> rfl
 rw [if_neg h1,xb (yE h1)]
 by_cases h2 : x.op = 2
 ·have hv := VW hin h2
  have hX := Rm (c := c) (m := m) hr.gm.ok (by omega) hr.gm.e (o := x.n) (i := x.i) (by omega) (by omega) (by omega) (by omega)
  rw [if_pos h2,xK (yF h2)]
  cases e : WD m x.n x.i with
  | ok m' =>
   rw [e] at hX
   rw [Fe (DR hX),xK (yF rfl),w1,zt (DH c2 _)]
   refine Fw c2 ?_
   cases zP c (m.at' + 1) <;> rfl
  | error q =>
   rw [e] at hX
   obtain ⟨q0,m',hx'⟩ := Cy hX
   rw [Fe hx',xb (yE q0),w1]
   exact ⟨q0,⟨m'.pool,m.at' + 1,m'.s,m'.e,m'.d,m'.state,m'.ask,m'.arg⟩,rfl⟩
 rw [if_neg h2,xb (yE h2)]
 by_cases h3 : x.op = 3
 ·have hX := WA hf hok (m := m) (by omega) x.s
  rw [if_pos h3,xK (yF h3)]
  cases e : JU c m x.s with
  | ok m' =>
   rw [e] at hX
   rw [GQ (DR hX),xK (yF rfl),w1,zt (DH c2 _)]
   refine Fw c2 ?_
   cases zP c (m.at' + 1) <;> rfl
  | error q =>
   rw [e] at hX
   obtain ⟨q0,m',hx'⟩ := Cy hX
   rw [GQ hx',xb (yE q0),w1]
   exact ⟨q0,⟨m'.pool,m.at' + 1,m'.s,m'.e,m'.d,m'.state,m'.ask,m'.arg⟩,rfl⟩
 rw [if_neg h3,xb (yE h3)]
 by_cases h5 : x.op = 5
 ·rw [if_pos h5,xK (yF h5),zt (DH c2 _)]
  refine Fw c2 ?_
  cases zP c x.n <;> rfl
 rw [if_neg h5,xb (yE h5)]
 by_cases h6 : x.op = 6
 ·have hfn := Qk hin h6
  have h7 := Gn (p := m.pool) (by omega) (ndF (8 * x.n + x.i) m.e)
  have h8 := Ew (c := c) (m := ⟨m.pool ++ [ndF (8 * x.n + x.i) m.e],m.at',m.s,m.e,m.d,m.state,m.ask,m.arg⟩) (by simp; omega) m.pool.length
  rw [if_pos h6,xK (yF h6),w64 (n := 8 * x.n) (by omega) (by omega),w64 (n := 8 * x.n + x.i) (by omega) (by omega),zp h7,zQ h8,w1,zt (DH c2 _)]
  refine Fw c2 ?_
  cases zP c (m.at' + 1) <;> rfl
 rw [if_neg h6,xb (yE h6)]
 cases ht : CG m with
 | none =>
  have h1 := Jw (c := c) hr.gm.s ht
  rw [Am h1]
  exact ⟨by decide,m,rfl⟩
 | some q =>
  obtain ⟨v,m1⟩ := q
  have hX := NV (c := c) hr.gm.s ht
  obtain ⟨g1,g2,g3,g4,g5,g6,g7,g8⟩ := CH hr.gm ht
  rw [Am hX,Bool.not_true,xJ,Ce g2,w1]
  simp only
  by_cases h4 : x.op = 4
  ·rw [xK (yF h4)]
   by_cases k2 : (nod m1.pool v).kind = 2
   ·rw [xK (yF k2)]
    by_cases k0 : (nod m1.pool v).n = 0
    ·rw [xK (yF k0),if_pos ⟨h4,k2,k0⟩,zt (DH c2 _)]
     refine Fw c2 ?_
     cases zP c x.n <;> rfl
    ·rw [xb (yE k0),if_neg (fun h => k0 h.2.2),zt (DH c2 _)]
     refine Fw c2 ?_
     cases zP c (m.at' + 1) <;> rfl
   ·rw [xb (yE k2),if_neg (fun h => k2 h.2.1),zt (DH c2 _)]
    refine Fw c2 ?_
    cases zP c (m.at' + 1) <;> rfl
  ·rw [xb (yE h4),if_neg (fun h => h4 h.1),zt (DH c2 _)]
   refine Fw c2 ?_
   cases zP c (m.at' + 1) <;> rfl

theorem Z5 {m : Mc} (hl : m.pool.length <= 4294967296) (q : Int) : V 92 [eMc m,iN q] = some (oMc (NW m q),[]) := by
 rw [SG,BW (CI hl)]
 rfl
theorem aab {c : Cd} (hf : FitsC c) (hok : zy c = true) {m : Mc} (hr : RunM c m) (hl : m.pool.length <= 3000) : V 64 [eCd c,eMc m] = some (oMc (Az c m),[]) := by
 obtain ⟨c1,c2,c3⟩ := zu hok
 have cl := y5 c1
 obtain ⟨x,hx⟩ := Un hr
 have hin := IQ hok hx
 have hat := isPl_iff.1 hr.pl
 have hgd : c.list.getD m.at'.toNat ⟨0,0,0,⟨#[]⟩⟩ = x := by rw [List.getD_eq_getElem?_getD,hx]; rfl
 have hfail := fun q => Z5 (m := m) (by omega) q
 have big : ∀ {m' : Mc},doM c m = .ok m' -> m'.pool.length < 4294967296 := fun e => by
  obtain ⟨g1,⟨t,g2,g3⟩,g4⟩ := Pm hok hr e
  have hlen := congrArg List.length g2
  rw [lnA] at hlen
  omega
 rw [W9,BW (CI (by omega)),yu (by rw [lnM]; simp only [ni,Bool.and_eq_true,decide_eq_true_eq]; omega),xW hx,ZM]
 have hdo : doM c m = if x.op = 7 then Bh c m x.i.toNat else if x.op = 8 then Jz c m else Gh c m x := by unfold doM; rw [hgd]
 unfold Az
 by_cases h7 : x.op = 7
 ·rw [if_pos h7] at hdo
  rw [hdo] at big ⊢
  have hX := UA c2 hr hl (NT hin h7)
  rw [xK (yF h7)]
  cases e : Bh c m x.i.toNat with
  | ok m' =>
   rw [e] at hX
   have hb := big e
   rw [Gg (DR hX),xK (yF rfl),lnM]
   simp only
   by_cases h3 : m'.pool.length <= 3000
   ·rw [xb (decide_eq_false (by simp only [ni]; omega)),xb (yG rfl),if_pos h3]
   ·rw [xK (decide_eq_true (by simp only [ni]; omega)),CZ (hfail 6),if_neg h3]
  | error q =>
   rw [e] at hX
   obtain ⟨q0,m',hx'⟩ := Cy hX
   rw [Gg hx',xb (yE q0),xK (yH q0),CZ (hfail q)]
 rw [if_neg h7] at hdo
 rw [xb (yE h7)]
 by_cases h8 : x.op = 8
 ·rw [if_pos h8] at hdo
  rw [hdo] at big ⊢
  have hX := Zh c2 hr hl
  rw [xK (yF h8)]
  cases e : Jz c m with
  | ok m' =>
   rw [e] at hX
   have hb := big e
   rw [JD (DR hX),xK (yF rfl),lnM]
   simp only
   by_cases h3 : m'.pool.length <= 3000
   ·rw [xb (decide_eq_false (by simp only [ni]; omega)),xb (yG rfl),if_pos h3]
   ·rw [xK (decide_eq_true (by simp only [ni]; omega)),CZ (hfail 6),if_neg h3]
  | error q =>
   rw [e] at hX
   obtain ⟨q0,m',hx'⟩ := Cy hX
   rw [JD hx',xb (yE q0),xK (yH q0),CZ (hfail q)]
 rw [if_neg h8] at hdo
 rw [xb (yE h8)]
 rw [hdo] at big ⊢
 have hX := XO hf hok hr hl hx
 cases e : Gh c m x with
 | ok m' =>
  rw [e] at hX
  have hb := big e
  rw [IP (DR hX),xK (yF rfl),lnM]
  simp only
  by_cases h3 : m'.pool.length <= 3000
  ·rw [xb (decide_eq_false (by simp only [ni]; omega)),xb (yG rfl),if_pos h3]
  ·rw [xK (decide_eq_true (by simp only [ni]; omega)),CZ (hfail 6),if_neg h3]
 | error q =>
  rw [e] at hX
  obtain ⟨q0,m',hx'⟩ := Cy hX
  rw [IP hx',xb (yE q0),xK (yH q0),CZ (hfail q)]
theorem Wk {c : Cd} (hf : FitsC c) {m : Mc} (hm : z9 m.pool) (hl : m.pool.length <= 4294967296) : V 17 [eCd c,eMc m] = some (oMc (MW c m),[]) := by
 have h1 := IY hf hm (by omega)
 rw [WZ,J7 h1]
 unfold MW
 cases h : Bm c m with
 | false => rw [Bool.not_false,yk,if_neg (by simp)]; rfl
 | true =>
  rw [Bool.not_true,xJ,if_pos rfl]
  by_cases h0 : m.state = 0
  ·obtain ⟨r1,r2,r3⟩ := Kc h h0
   rw [xb (yG h0),RK (aab hf r2 r1 r3),if_pos h0]
  ·rw [xK (yH h0),BW (CI hl),if_neg h0]
theorem aac {m : Mc} (hf : z9 m.pool) (hl : m.pool.length <= 4294967296) : V 73 [oMc m] = some (oMc (zn m),[]) := by
 rw [SK,lnM]
 unfold zn
 by_cases h : m.pool.length <= 2000
 ·rw [xb (decide_eq_false (by simp only [ni]; omega)),if_pos h]
 ·rw [xK (decide_eq_true (by simp only [ni]; omega)),YW (Wl hf hl),if_neg h]
theorem Ot {c : Cd} (hf : FitsC c) {steps : Int} : ∀ (k : Nat) {m : Mc} (n : Int),Bm c m = true -> 0 <= n -> ((n + k = mnI steps 2000) \/ (k = 0 /\ mnI steps 2000 <= n)) -> n <= 2000 ->
  Dg steps n (c.pool.map eN) (c.list.map eIn) (c.defs.map eDf) m.at' m.s m.e m.d m.state m.ask m.arg 0 0 0 0 0 0 0 (m.pool.map eN) = some (.tup [oMc (zl c k m).1,iN (n + (zl c k m).2)],[])
 | 0,m,n,h,hn,hk,h2 => by
  rw [Gw]
  by_cases h0 : m.state = 0
  ·rw [xK (yF h0),xb (decide_eq_false (by omega))]
   simp [zl]
  ·rw [xb (yE h0)]
   simp [zl]
 | k + 1,m,n,h,hn,hk,h2 => by
  have mn : mnI steps 2000 <= 2000 := by unfold mnI; split <;> omega
  rw [Gw]
  unfold zl
  by_cases h0 : m.state = 0
  ·obtain ⟨r1,r2,r3⟩ := Kc h h0
   have s1 := MY h h0
   obtain ⟨q1,q2,q3,q4⟩ := CN s1
   have ht := aac (DF q2) (by omega)
   have t1 : Bm c (zn (Az c m)) = true := by
    unfold zn
    split
    ·exact s1
    ·exact Uq s1
   have ih := Ot hf (steps := steps) k (m := zn (Az c m)) (n + 1) t1 (by omega) (.inl (by omega)) (by omega)
   rw [xK (yF h0),xK (decide_eq_true (by omega)),RK (aab hf r2 r1 r3),VH ht,w64 (n := n + 1) (by omega) (by omega),ih,if_pos h0]
   simp only [Int.natCast_add,Int.natCast_one]
   rw [show n + 1 + ((zl c k (zn (Az c m))).2 : Int) = n + (((zl c k (zn (Az c m))).2 : Int) + 1) by omega]
  ·rw [xb (yE h0),if_neg h0]
   simp
theorem Ic {c : Cd} (hf : FitsC c) {m : Mc} (hm : z9 m.pool) (hl : m.pool.length <= 4294967296) (steps : Int) : V 22 [eCd c,eMc m,iN steps] = some (.tup [oMc (Wd c m steps).1,iN (Wd c m steps).2],[]) := by
 have h1 := IY hf hm (by omega)
 rw [SF,J7 h1]
 unfold Wd
 cases h : Bm c m with
 | false =>
  have h2 := Wk hf hm hl
  rw [Bool.not_false,yk,YV h2,if_neg (by simp)]
  unfold MW
  rw [if_neg (by simp [h])]
  rfl
 | true =>
  have hlo := Ot hf (steps := steps) (mnI steps 2000).toNat 0 h (Int.le_refl _) (by omega) (by omega)
  rw [Bool.not_true,xJ,BW (CI hl),if_pos rfl]
  simp only [Int.zero_add] at hlo
  exact hlo

noncomputable def Uk (m : Mc) (p : List Nd) (v : Int) : Mc := ⟨(z3 (-1) p v m.pool).1 ++ [ndP (z3 (-1) p v m.pool).2 m.s],m.at' + 1,(z3 (-1) p v m.pool).1.length,m.e,m.d,0,0,0⟩
noncomputable def LN (c : Cd) (m : Mc) (p : List Nd) (v : Int) : Mc :=
 if Bm c m = true then
  if m.state = 1 /\ yU p = true /\ wi v 0 ((p.length : Int) - 1) = true then
   if zP c (m.at' + 1) = true then (if (Uk m p v).pool.length <= 3000 then Uk m p v else NW m 6) else NW m 7
  else m
 else WH
end Go.Eng
/-! compiling: the reference's side -/
namespace Go.Eng
noncomputable section
open Go.Proofs Go.Proofs.Tryz
set_option maxHeartbeats 4000000

abbrev eMs (p : List Nd) (m : Ms) : D := .op [.os (5,0) (p.map eN),.os (4,0) (m.list.map eIn),.os (3,0) (m.defs.map eDf),iN m.how]
abbrev eEs (env : List (List ByteArray)) : List D := env.map fun e => D.rs (1,0) (e.map D.str)
structure Le (m m' : Ms) : Prop where
 len : m.list.length <= m'.list.length
 four : m'.list.length <= 400
 how : m'.how = 0 -> m.how = 0
 defs : m'.defs = m.defs
theorem Le.refl {m : Ms} (h : m.list.length <= 400) : Le m m := ⟨Nat.le_refl _,h,id,rfl⟩
theorem Le.trans {a b c : Ms} (h : Le a b) (h2 : Le b c) : Le a c := ⟨Nat.le_trans h.len h2.len,h2.four,fun x => h.how (h2.how x),h2.defs.trans h.defs⟩
theorem zW {m : Ms} (h : m.list.length <= 400) (x : In) : Le m (z4 m x) := by
 unfold z4
 split
 ·rename_i h0
  split
  ·exact ⟨Nat.le_refl _,h,fun _ => h0,rfl⟩
  ·exact ⟨by simp,by simp; omega,fun _ => h0,rfl⟩
 ·exact Le.refl h
theorem Pb {m : Ms} (_ : m.list.length <= 400) (x : In) (h0 : (z4 m x).how = 0) : 0 <= Dt m /\ Dt m < ((z4 m x).list.length : Int) := by
 unfold z4 at h0 ⊢
 unfold Dt
 split at h0
 ·rename_i e
  split at h0
  ·simp at h0
  ·rename_i e2
   rw [if_pos e,if_pos e,if_neg e2,if_neg e2]
   simp
   omega
 ·rename_i e; exact absurd h0 e
theorem Sa {m : Ms} (h : m.list.length <= 400) (k : Int) : Le m (toC m k) := by
 unfold toC
 split
 ·exact ⟨by simp,by simpa using h,fun _ => ‹_›,rfl⟩
 ·exact Le.refl h
theorem XI {p : List Nd} {m : Ms} (h : m.list.length <= 400) (x : In) : V 237 [eMs p m,eIn x] = some (iN (Dt m),[eMs p (z4 m x)]) := by
 have e : m.list.map eIn ++ [D.agg [iN x.op,iN x.n,iN x.i,D.str x.s]] = (m.list ++ [x]).map eIn := by simp
 rw [Tn,e]
 unfold z4 Dt
 by_cases h0 : m.how = 0
 ·rw [xK (yF h0),if_pos h0,if_pos h0]
  by_cases h4 : m.list.length = 400
  ·rw [xK (yF (Gd (by omega))),if_pos h4,if_pos h4]
  ·rw [xb (yE (Mz (by omega))),xb (yG h0),if_neg h4,if_neg h4,yu (decide_eq_true (by rw [pE,lnM]; simp only [ni,lnA,lnC,lnN]; omega)),yA,w64 (by rw [lnM]; simp only [ni,lnA,lnC,lnN]; omega) (by rw [lnM]; simp only [ni,lnA,lnC,lnN]; omega),h0]
   simp [ni]
 ·rw [xb (yE h0),xK (yH h0),if_neg h0,if_neg h0]
theorem aaH {p : List Nd} {m : Ms} (_ : m.list.length <= 400) {k : Int} (hk : m.how = 0 -> 0 <= k /\ k < (m.list.length : Int)) : V 253 [eMs p m,iN k] = some (.tup [],[eMs p (toC m k)]) := by
 rw [Xf]
 unfold toC
 by_cases h0 : m.how = 0
 ·obtain ⟨k0,k1⟩ := hk h0
  obtain ⟨x,hx⟩ := xx (l := m.list) (i := k.toNat) (by omega)
  have hg : m.list.getD k.toNat (inO 0) = x := by rw [List.getD_eq_getElem?_getD,hx]; rfl
  have e : List.set (m.list.map eIn) k.toNat (D.agg (List.take 1 [iN x.op,iN x.n,iN x.i,D.str x.s] ++ [iN (ni (m.list.map eIn).length)] ++ List.drop 2 [iN x.op,iN x.n,iN x.i,D.str x.s])) = (m.list.set k.toNat ⟨x.op,m.list.length,x.i,x.s⟩).map eIn := by
   rw [List.map_set,lnM]; rfl
  rw [xK (yF h0),if_pos h0,yu (by rw [lnM]; simp only [ni,Bool.and_eq_true,decide_eq_true_eq]; omega),xW hx,xu,yA,e,hg,h0]
 ·rw [xb (yE h0),if_neg h0]
theorem XL (s : ByteArray) : V 238 [.str s] = some (.bool (XD s),[]) := by
 rw [NG]
 unfold XD wrds
 simp only [List.any_cons,List.any_nil,Bool.or_false]
 show br (kc s (mk [113,117,111,116,101])) (some (D.bool true,[])) (br (kc s (mk [105,102])) (some (D.bool true,[])) (br (kc s (mk [102,110])) (some (D.bool true,[])) (br (kc s (mk [100,111])) (some (D.bool true,[])) (br (kc s (mk [108,101,116])) (some (D.bool true,[])) (some (D.bool (kc s (mk [100,101,102,105,110,101])),[])))))) = _
 cases kc s (mk [113,117,111,116,101]) <;> cases kc s (mk [105,102]) <;> cases kc s (mk [102,110]) <;> cases kc s (mk [100,111]) <;> cases kc s (mk [108,101,116]) <;> rfl
theorem Z9 {p : List Nd} (m : Ms) {v : Int} (hv : InP p v) : V 230 [eMs p m,iN v] = some (.tup [.str (nod p v).s,.bool (nmC p v)],[eMs p m]) := by
 rw [Tu,Ce hv]
 unfold nmC
 by_cases h4 : (nod p v).kind = 4
 ·rw [xK (yF h4),EO (XL _),yF h4,Bool.true_and]
 ·rw [xb (yE h4),yE h4,Bool.false_and]
theorem LR {p : List Nd} (m : Ms) {xs : List Int} (hl : xs.length <= 100000) (hx : ∀ x ∈ xs,InP p x) : ∀ (k i : Nat) (h : Int) (out : List ByteArray),i + k = xs.length -> out.length <= i ->
  zY (xs.map eI) (i : Int) h (out.map D.str) (p.map eN) (m.list.map eIn) (m.defs.map eDf) = zL 0 (KU p (xs.drop i) h out).2 ((KU p (xs.drop i) h out).1.map D.str) (p.map eN) (m.list.map eIn) (m.defs.map eDf) /\ (KU p (xs.drop i) h out).1.length <= xs.length
 | 0,i,h,out,hi,ho => by
  rw [FG,xb (by rw [lnM]; exact yr (by omega)),List.drop_of_length_le (by omega),KU]
  exact ⟨rfl,by show out.length <= _; omega⟩
 | k + 1,i,h,out,hi,ho => by
  obtain ⟨x,hg⟩ := xx (l := xs) (i := i) (by omega)
  have hp := hx x (List.mem_of_getElem? hg)
  rw [FG,xK (by rw [lnM]; exact yz (by omega)),tU hg,KU]
  by_cases h0 : h = 0
  ·have ea : out.map D.str ++ [D.str (nod p x).s] = (out ++ [(nod p x).s]).map D.str := by simp
   have hlim : decide (ni ((out ++ [(nod p x).s]).map D.str).length <= LIM) = true := decide_eq_true (by rw [pE]; simp only [ni,lnM,lnA,lnC,lnN]; omega)
   have hn : V 230 [.op [.os (5,0) (p.map eN),.os (4,0) (m.list.map eIn),.os (3,0) (m.defs.map eDf),iN h],iN x] = _ := Z9 (p := p) ⟨m.list,m.defs,h⟩ hp
   rw [xK (yF h0),yu (by rw [lnM]; exact yx (by omega)),Int.toNat_natCast,xW hg,ye,Oi hn,ea,yM (by omega),if_pos h0]
   have ih := fun h' => LR m hl hx k (i + 1) h' (out ++ [(nod p x).s]) (by omega) (by simp; omega)
   cases hc : nmC p x with
   | false => rw [Bool.not_false,yk,if_neg (by simp),yu hlim,yA]; exact ih 1
   | true => rw [Bool.not_true,xJ,if_pos rfl,h0,yu hlim,yA]; exact ih 0
  ·rw [xb (yE h0),if_neg h0]
   exact ⟨rfl,by show out.length <= _; omega⟩
theorem WX {p : List Nd} (m : Ms) {out : List ByteArray} (hl : out.length <= 100000) {i : Nat} (hi : i < out.length) {s : ByteArray} (hs : out[i]? = some s) : ∀ (k j : Nat) (h : Int),j + k = i ->
  AF (i : Int) (j : Int) h (out.map D.str) (p.map eN) (m.list.map eIn) (m.defs.map eDf) = zL ((i + 1 : Nat) : Int) (if ((out.take i).drop j).any (fun t => kc t s) = true then 2 else h) (out.map D.str) (p.map eN) (m.list.map eIn) (m.defs.map eDf)
 | 0,j,h,hj => by
  rw [Fc,xb (decide_eq_false (by omega)),yM (by omega),List.drop_of_length_le (by simp; omega)]
  rfl
 | k + 1,j,h,hj => by
  obtain ⟨t,ht⟩ := xx (l := out) (i := j) (by omega)
  have ht2 : (out.take i)[j]? = some t := by rw [List.getElem?_take]; rw [if_pos (by omega)]; exact ht
  rw [Fc,xK (decide_eq_true (by omega)),yu (by rw [lnM]; exact yx (by omega)),Int.toNat_natCast,xW ht,yi,yu (by rw [lnM]; exact yx (by omega)),Int.toNat_natCast,xW hs,yi,yM (by omega),WX m hl hi hs k (j + 1) 2 (by omega),WX m hl hi hs k (j + 1) h (by omega),tU ht2,List.any_cons]
  cases kc t s with
  | true => rw [yk,Bool.true_or,if_pos rfl]; split <;> rfl
  | false => rw [xJ,Bool.false_or]
theorem UV {p : List Nd} (m : Ms) {out : List ByteArray} (hl : out.length <= 100000) : ∀ (k i : Nat) (h : Int),i + k = out.length ->
  zL (i : Int) h (out.map D.str) (p.map eN) (m.list.map eIn) (m.defs.map eDf) = some (.os (1,0) (out.map D.str),[eMs p (D5 m (Po out k i h))])
 | 0,i,h,hi => by
  rw [Fa,xb (by rw [lnM]; exact yr (by omega))]
  rfl
 | k + 1,i,h,hi => by
  obtain ⟨s,hs⟩ := xx (l := out) (i := i) (by omega)
  have hg : out.getD i ⟨#[]⟩ = s := by rw [List.getD_eq_getElem?_getD,hs]; rfl
  have hin := WX (p := p) m hl (i := i) (by omega) hs i 0 h (by omega)
  rw [Int.natCast_zero,List.drop_zero] at hin
  rw [Fa,xK (by rw [lnM]; exact yz (by omega)),hin,UV m hl k (i + 1) _ (by omega),Po,hg]
  by_cases h0 : h = 0
  ·rw [xK (yF h0),if_pos h0,h0]
  ·rw [xb (yE h0),if_neg h0]
   rfl
theorem Uy {p : List Nd} (m : Ms) {xs : List Int} (hl : xs.length <= 100000) (hx : ∀ x ∈ xs,InP p x) : V 231 [eMs p m,.rs (1,0) (xs.map eI)] = some (.os (1,0) ((Ax p xs m.how).1.map D.str),[eMs p (D5 m (Ax p xs m.how).2)]) /\ (Ax p xs m.how).1.length <= xs.length := by
 have h := fun h' => LR (p := p) m hl hx xs.length 0 h' [] (by omega) (by simp)
 simp only [Int.natCast_zero,List.drop_zero,List.map_nil] at h
 have key : ∀ h',zY (xs.map eI) 0 h' [] (p.map eN) (m.list.map eIn) (m.defs.map eDf) = some (.os (1,0) ((KU p xs h' []).1.map D.str),[eMs p (D5 m (Po (KU p xs h' []).1 (KU p xs h' []).1.length 0 (KU p xs h' []).2))]) := fun h' => by
  have hd := UV (p := p) m (out := (KU p xs h' []).1) (by have := (h h').2; omega) (KU p xs h' []).1.length 0 (KU p xs h' []).2 (by omega)
  rw [(h h').1]
  exact hd
 rw [QV,lnM]
 unfold Ax
 by_cases h4 : xs.length > 4
 ·rw [xK (decide_eq_true (by simp only [ni]; omega)),if_pos h4]
  exact ⟨key 1,(h 1).2⟩
 ·rw [xb (decide_eq_false (by simp only [ni]; omega)),if_neg h4]
  exact ⟨key m.how,(h m.how).2⟩

def vrD (r : Option (Nat × Nat)) : D := match r with | some (n,i) => .tup [iN n,iN i] | none => .tup [iN (-1),iN 0]
theorem aae {env : List (List ByteArray)} {s : ByteArray} (h1 : env.length <= 100000) {n : Nat} {e : List ByteArray} (he : env[n]? = some e) (h2 : e.length <= 100000) : ∀ (k i : Nat),i + k = e.length ->
  DL (eEs env) s (n : Int) (i : Int) = match aad s (e.drop i) i with
   | some j => some (.tup [iN n,iN j],[])
   | none => Cq (eEs env) s ((n + 1 : Nat) : Int)
 | 0,i,hi => by
  have hn := aQ he
  rw [Iq,yu (by rw [lnM]; exact yx (by omega)),Int.toNat_natCast,xW he,yh,lnM,xb (yr (by omega)),List.drop_of_length_le (by omega),yM (by omega)]
  rfl
 | k + 1,i,hi => by
  have hn := aQ he
  obtain ⟨t,ht⟩ := xx (l := e) (i := i) (by omega)
  rw [Iq,yu (by rw [lnM]; exact yx (by omega)),Int.toNat_natCast,xW he,yh,lnM,xK (yz (by omega)),xW he,yh,yu (by rw [lnM]; exact yx (by omega)),Int.toNat_natCast,xW ht,yi,tU ht,aad,yM (by omega),aae h1 he h2 k (i + 1) (by omega),yu (by rw [lnM]; exact yx (by omega))]
  cases kc t s with
  | true => rw [yk,if_pos rfl]
  | false => rw [xJ,if_neg (by simp)]
theorem WE {env : List (List ByteArray)} {s : ByteArray} (h1 : env.length <= 100000) (h2 : ∀ e ∈ env,e.length <= 100000) : ∀ (k n : Nat),n + k = env.length -> Cq (eEs env) s (n : Int) = some (vrD (Zj s (env.drop n) n),[])
 | 0,n,hn => by
  rw [Ip,xb (by rw [lnM]; exact yr (by omega)),List.drop_of_length_le (by omega)]
  rfl
 | k + 1,n,hn => by
  obtain ⟨e,he⟩ := xx (l := env) (i := n) (by omega)
  have hi := aae (s := s) h1 he (h2 e (List.mem_of_getElem? he)) e.length 0 (by omega)
  rw [Int.natCast_zero,List.drop_zero] at hi
  rw [Ip,xK (by rw [lnM]; exact yz (by omega)),hi,tU he,Zj,WE h1 h2 k (n + 1) (by omega)]
  cases aad s e 0 <;> rfl
theorem abp {env : List (List ByteArray)} (s : ByteArray) (h1 : env.length <= 100000) (h2 : ∀ e ∈ env,e.length <= 100000) : V 248 [.rs (1,1) (eEs env),.str s] = some (vrD (Zj s env 0),[]) := by
 rw [Ve]
 exact WE h1 h2 env.length 0 (by omega)
end
end Go.Eng
/-! compiling: the reference's side: expressions -/
namespace Go.Eng
noncomputable section
open Go.Proofs Go.Proofs.Tryz
set_option maxHeartbeats 4000000

theorem Yh {p : List Nd} (hp : y2 p) : ∀ (k : Nat) (v : Int),InP p v -> ∀ x ∈ (IJ p k v).1,x < v
 | 0,v,hv,x,hx => by simp [IJ] at hx
 | k + 1,v,hv,x,hx => by
  unfold IJ at hx
  split at hx
  ·rename_i h5
   have := z5 (EJ hp hv) h5
   rcases List.mem_cons.1 hx with rfl | hx
   ·omega
   ·have := Yh hp k _ (Lh hp hv h5) x hx; omega
  ·simp at hx
theorem aau {p : List Nd} (hp : y2 p) {v : Int} (hv : InP p v) : ∀ x ∈ (zR p v).1,x < v := Yh hp _ v hv
theorem Mw {p : List Nd} (v : Int) : (zR p v).1.length <= v.toNat + 1 := Vv _ _
def Jx (E : List (List ByteArray) -> Int -> Ms -> Ms) : Prop := ∀ env v (m : Ms),m.list.length <= 400 -> Le m (E env v m)
theorem GV {m : Ms} (h : m.list.length <= 400) {k : Int} (hk : k = 0 -> m.how = 0) : Le m (D5 m k) := ⟨Nat.le_refl _,h,hk,rfl⟩
theorem GI {E} (hE : Jx E) (env : List (List ByteArray)) : ∀ (xs : List Int) (f : Bool) (m : Ms),m.list.length <= 400 -> Le m (FM E env xs f m)
 | [],f,m,h => Le.refl h
 | x :: r,f,m,h => by
  unfold FM
  split
  ·have h1 : Le m (if f = true then m else z4 m (inO 9)) := by
    split
    ·exact Le.refl h
    ·exact zW h _
   have h2 := hE env x _ h1.four
   exact (h1.trans h2).trans (GI hE env r false _ h2.four)
  ·exact Le.refl h
theorem Xm {E} (hE : Jx E) (names : List ByteArray) (body : List Int) (env : List (List ByteArray)) {m : Ms} (h : m.list.length <= 400) : Le m (Xl E names body env m) := by
 unfold Xl
 simp only
 have a1 := zW h ⟨6,0,names.length,⟨#[]⟩⟩
 have a2 := zW a1.four (inO 5)
 have a3 := Sa a2.four (Dt m)
 have a4 := GI hE (names :: env) body true _ a3.four
 have a5 := zW a4.four (inO 8)
 have a6 := Sa a5.four (Dt (z4 m ⟨6,0,names.length,⟨#[]⟩⟩))
 exact ((((a1.trans a2).trans a3).trans a4).trans a5).trans a6
theorem aaq (out : List ByteArray) : ∀ (k i : Nat) (h : Int),Po out k i h = 0 -> h = 0
 | 0,i,h,e => e
 | k + 1,i,h,e => by
  unfold Po at e
  split at e
  ·assumption
  ·exact e
theorem aa0 (p : List Nd) : ∀ (xs : List Int) (h : Int) (out : List ByteArray),(KU p xs h out).2 = 0 -> h = 0
 | [],h,out,e => e
 | x :: r,h,out,e => by
  unfold KU at e
  split at e
  ·assumption
  ·exact e
theorem Kz {p : List Nd} {xs : List Int} {h : Int} (e : (Ax p xs h).2 = 0) : h = 0 := by
 unfold Ax at e
 have := aa0 p xs _ _ (aaq _ _ _ _ e)
 split at this
 ·omega
 ·exact this
theorem aar {E} (hE : Jx E) (p : List Nd) (s : ByteArray) (xs : List Int) (env : List (List ByteArray)) {m : Ms} (h : m.list.length <= 400) : Le m (PH E p s xs env m) := by
 unfold PH
 simp only
 split
 ·exact zW h _
 split
 ·have a1 := hE env (xs.getD 1 0) m h
  have a2 := zW a1.four (inO 4)
  have a3 := hE env (xs.getD 2 0) _ a2.four
  have a4 := zW a3.four (inO 5)
  have a5 := Sa a4.four (Dt (E env (xs.getD 1 0) m))
  have a6 := hE env (xs.getD 3 0) _ a5.four
  exact (((((a1.trans a2).trans a3).trans a4).trans a5).trans a6).trans (Sa a6.four _)
 split
 ·exact GI hE env _ true m h
 split
 ·split
  ·exact GV h (by omega)
  ·have a1 : Le m (D5 m (Ax p (zR p (xs.getD 1 0)).1 m.how).2) := GV h Kz
   exact a1.trans (Xm hE _ _ env a1.four)
 split
 ·have a1 : Le m (D5 m (Ax p [xs.getD 1 0] m.how).2) := GV h Kz
  have a2 := Xm hE (Ax p [xs.getD 1 0] m.how).1 (xs.drop 3) env a1.four
  have a3 := hE env (xs.getD 2 0) _ a2.four
  exact ((a1.trans a2).trans a3).trans (zW a3.four _)
 ·exact GV h (by omega)
theorem Ya {E} (hE : Jx E) (env : List (List ByteArray)) : ∀ (xs : List Int) (m : Ms),m.list.length <= 400 -> Le m (xs.foldl (fun m x => E env x m) m)
 | [],m,h => Le.refl h
 | x :: r,m,h => by
  have a1 := hE env x m h
  exact a1.trans (Ya hE env r _ a1.four)
theorem Jh (p : List Nd) : ∀ k,Jx (KY p k)
 | 0,env,v,m,h => Le.refl h
 | k + 1,env,v,m,h => by
  unfold KY
  split
  ·exact Le.refl h
  simp only
  split
  ·exact zW h _
  split
  ·split
   ·exact GV h (by omega)
   ·split <;> exact zW h _
  split
  ·exact GV h (by omega)
  split
  ·exact GV h (by omega)
  split
  ·exact aar (Jh p k) p _ _ env h
  split
  ·exact GV h (by omega)
  ·have a1 := Ya (Jh p k) env (zR p v).1 m h
   exact a1.trans (zW a1.four _)

def LK (env : List (List ByteArray)) (n : Nat) : Prop := env.length + n <= 10000 /\ ∀ e ∈ env,e.length <= 10000
def Pf (p : List Nd) (k : Nat) (E : List (List ByteArray) -> Int -> Ms -> Ms) : Prop := ∀ env v (m : Ms),InP p v -> v < (k : Int) -> LK env k -> m.list.length <= 400 -> V 244 [eMs p m,iN v,.rs (1,1) (eEs env)] = some (.tup [],[eMs p (E env v m)])
section
variable {p : List Nd} {k : Nat} {E : List (List ByteArray) -> Int -> Ms -> Ms}
theorem Ng (hG : Jx E) (hS : Pf p k E) {env : List (List ByteArray)} (he : LK env k) {xs : List Int} (hl : xs.length <= 100000) (hx : ∀ x ∈ xs,InP p x /\ x < (k : Int)) : ∀ (j i : Nat) (m : Ms),i + j = xs.length -> m.list.length <= 400 ->
  Bx (xs.map eI) (eEs env) (i : Int) m.how (p.map eN) (m.list.map eIn) (m.defs.map eDf) = some (.tup [],[eMs p (FM E env (xs.drop i) (decide (i = 0)) m)])
 | 0,i,m,hi,hm => by
  rw [GE,xb (by rw [lnM]; exact yr (by omega)),List.drop_of_length_le (by omega)]
  rfl
 | j + 1,i,m,hi,hm => by
  obtain ⟨x,hg⟩ := xx (l := xs) (i := i) (by omega)
  obtain ⟨x1,x2⟩ := hx x (List.mem_of_getElem? hg)
  rw [GE,xK (by rw [lnM]; exact yz (by omega)),tU hg,FM]
  by_cases h0 : m.how = 0
  ·rw [xK (yF h0),if_pos h0]
   by_cases hi0 : i = 0
   ·have a1 := hS env x m x1 x2 he hm
    have ih := Ng hG hS he hl hx j (i + 1) (E env x m) (by omega) (hG env x m hm).four
    rw [xb (decide_eq_false (by omega)),yu (by rw [lnM]; exact yx (by omega)),Int.toNat_natCast,xW hg,ye,BC a1,yM (by omega),ih,decide_eq_true hi0,if_pos rfl,decide_eq_false (by omega)]
   ·have a0 : V 237 [eMs p m,.agg [iN 9,iN 0,iN 0,.str ⟨#[]⟩]] = _ := XI (p := p) hm (inO 9)
    have le := zW hm (inO 9)
    have a1 := hS env x _ x1 x2 he le.four
    have ih := Ng hG hS he hl hx j (i + 1) (E env x (z4 m (inO 9))) (by omega) (hG env x _ le.four).four
    rw [xK (decide_eq_true (by omega)),zk a0,yu (by rw [lnM]; exact yx (by omega)),Int.toNat_natCast,xW hg,ye,BC a1,yM (by omega),ih,decide_eq_false hi0,if_neg (by simp),decide_eq_false (by omega)]
  ·rw [xb (yE h0),if_neg h0]
theorem XE (hG : Jx E) (hS : Pf p k E) {env : List (List ByteArray)} (he : LK env k) {xs : List Int} (hl : xs.length <= 100000) (hx : ∀ x ∈ xs,InP p x /\ x < (k : Int)) {m : Ms} (hm : m.list.length <= 400) : V 236 [eMs p m,.rs (1,0) (xs.map eI),.rs (1,1) (eEs env)] = some (.tup [],[eMs p (FM E env xs true m)]) := by
 have h := Ng hG hS he hl hx xs.length 0 m (by omega) hm
 rw [Tk]
 simpa using h
theorem Dz {p : List Nd} {m : Ms} (h : m.list.length <= 400) (op n i : Int) : V 237 [eMs p m,.agg [iN op,iN n,iN i,.str ⟨#[]⟩]] = some (iN (Dt m),[eMs p (z4 m ⟨op,n,i,⟨#[]⟩⟩)]) := XI h ⟨op,n,i,⟨#[]⟩⟩
theorem aaP (hG : Jx E) (hS : Pf p k E) {names : List ByteArray} (hn : names.length <= 10000) {env : List (List ByteArray)} (he : LK env (k + 1)) {xs : List Int} (hl : xs.length <= 100000) (hx : ∀ x ∈ xs,InP p x /\ x < (k : Int)) {m : Ms} (hm : m.list.length <= 400) : V 254 [eMs p m,.rs (1,0) (names.map D.str),.rs (1,0) (xs.map eI),.rs (1,1) (eEs env)] = some (.tup [],[eMs p (Xl E names xs env m)]) := by
 have he1 := he.1
 have e1 : [D.rs (1,0) (names.map D.str)] ++ eEs env = eEs (names :: env) := rfl
 have hlim : decide (ni (eEs (names :: env)).length <= LIM) = true := decide_eq_true (by rw [pE]; simp only [ni,lnM,lnC]; omega)
 have he2 : LK (names :: env) k := ⟨by simp only [lnC]; omega,fun e h => by
  rcases List.mem_cons.1 h with rfl | h
  ·exact hn
  ·exact he.2 e h⟩
 have a1 := zW hm ⟨6,0,names.length,⟨#[]⟩⟩
 have i1 := Pb hm ⟨6,0,names.length,⟨#[]⟩⟩
 have a2 := zW a1.four (inO 5)
 have i2 := Pb a1.four (inO 5)
 have a3 := Sa a2.four (Dt m)
 have a4 := GI hG (names :: env) xs true _ a3.four
 have a5 := zW a4.four (inO 8)
 have e0 : ni (names.map D.str).length = (names.length : Int) := by rw [lnM]
 have b1 := Dz (p := p) hm 6 0 names.length
 have b2 := Dz (p := p) a1.four 5 0 0
 have b3 := aaH (p := p) a2.four (k := Dt m) (fun h => by have := i1 (a2.how h); have := a2.len; omega)
 have b4 := XE hG hS he2 hl hx a3.four
 have b5 := Dz (p := p) a4.four 8 0 0
 have b6 := aaH (p := p) a5.four (k := Dt (z4 m ⟨6,0,names.length,⟨#[]⟩⟩)) (fun h => by have := i2 (a3.how (a4.how (a5.how h))); have := a5.len; have := a4.len; have := a3.len; omega)
 rw [U9,e0,zk b1,zk b2,KC b3,e1,yu hlim,yA,GP b4,zk b5,KC b6]
 rfl
theorem AM {s : ByteArray} {a b : List UInt8} (h : kc s (mk a) = true) (hn : a ≠ b) : kc s (mk b) = false := by
 rw [BH] at h ⊢
 simp only [decide_eq_true_eq,decide_eq_false_iff_not] at h ⊢
 intro e
 exact hn (mk_inj.1 (h.symm.trans e))
theorem aa4 (hp : y2 p) (hl : p.length < 100000) (hG : Jx E) (hS : Pf p k E) {env : List (List ByteArray)} (he : LK env (k + 1)) {xs : List Int} (hn : xs ≠ []) (hxl : xs.length <= 100000) (hx : ∀ x ∈ xs,InP p x /\ x < (k : Int)) {m : Ms} (hm : m.list.length <= 400) (s : ByteArray) : V 249 [eMs p m,.str s,.rs (1,0) (xs.map eI),.rs (1,1) (eEs env)] = some (.tup [],[eMs p (PH E p s xs env m)]) := by
 have he1 := he.1
 have he2 : LK env k := ⟨by omega,he.2⟩
 have get : ∀ i : Nat,i < xs.length -> InP p (xs.getD i 0) /\ xs.getD i 0 < (k : Int) /\ xs[i]? = some (xs.getD i 0) := fun i hi => by
  obtain ⟨x,hg⟩ := xx (l := xs) (i := i) hi
  have e : xs.getD i 0 = x := by rw [List.getD_eq_getElem?_getD,hg]; rfl
  obtain ⟨g1,g2⟩ := hx x (List.mem_of_getElem? hg)
  rw [e]
  exact ⟨g1,g2,hg⟩
 have hdrop : ∀ n,∀ x ∈ xs.drop n,InP p x /\ x < (k : Int) := fun n x h => hx x (List.mem_of_mem_drop h)
 have hdl : ∀ n,(xs.drop n).length <= 100000 := fun n => by rw [List.length_drop]; omega
 have cut : ∀ n : Int,0 <= n -> n <= (xs.length : Int) -> cW (xs.map eI).length (some n) none = true := fun n h0 h1 => by simp [cW]; omega
 have cutd1 : wu (xs.map eI) 1 = (xs.drop 1).map eI := by unfold wu; rw [List.map_drop]; rfl
 have cutd2 : wu (xs.map eI) 2 = (xs.drop 2).map eI := by unfold wu; rw [List.map_drop]; rfl
 have cutd3 : wu (xs.map eI) 3 = (xs.drop 3).map eI := by unfold wu; rw [List.map_drop]; rfl
 have other : ∀ {a b : List UInt8},kc s (mk a) = true -> a ≠ b -> ¬ kc s (mk b) = true := fun h hn e => by rw [AM h hn] at e; cases e
 rw [Tt]
 unfold PH
 by_cases hq : kc s (mk [113,117,111,116,101]) = true
 ·have tq : kc s ⟨#[113,117,111,116,101]⟩ = true := hq
  have ti : kc s ⟨#[105,102]⟩ = false := AM hq (by decide)
  have td : kc s ⟨#[100,111]⟩ = false := AM hq (by decide)
  have tf : kc s ⟨#[102,110]⟩ = false := AM hq (by decide)
  have tl : kc s ⟨#[108,101,116]⟩ = false := AM hq (by decide)
  by_cases h2 : xs.length = 2
  ·obtain ⟨g1,g2,g3⟩ := get 1 (by omega)
   have b1 := Dz (p := p) hm 1 (xs.getD 1 0) 0
   rw [if_pos ⟨hq,h2⟩,xK tq,xK (yF (Gd (by omega))),yu (by rw [lnM]; simp only [ni,Bool.and_eq_true,decide_eq_true_eq]; omega),xW g3,ye,zk b1]
  ·rw [if_neg (fun h => h2 h.2),if_neg (fun h => other hq (by decide) h.1),if_neg (fun h => other hq (by decide) h.1),if_neg (fun h => other hq (by decide) h.1),if_neg (fun h => other hq (by decide) h.1),xK tq,xb (yE (Mz (by omega))),xb ti,xb td,xb tf,xb tl]
   rfl
 have tq : kc s ⟨#[113,117,111,116,101]⟩ = false := by cases e : kc s ⟨#[113,117,111,116,101]⟩ with | true => exact absurd e hq | false => rfl
 rw [if_neg (fun h => hq h.1),xb tq]
 by_cases hi : kc s (mk [105,102]) = true
 ·have ti : kc s ⟨#[105,102]⟩ = true := hi
  have td : kc s ⟨#[100,111]⟩ = false := AM hi (by decide)
  have tf : kc s ⟨#[102,110]⟩ = false := AM hi (by decide)
  have tl : kc s ⟨#[108,101,116]⟩ = false := AM hi (by decide)
  by_cases h4 : xs.length = 4
  ·obtain ⟨g1,g2,g3⟩ := get 1 (by omega)
   obtain ⟨g4,g5,g6⟩ := get 2 (by omega)
   obtain ⟨g7,g8,g9⟩ := get 3 (by omega)
   have l1 := hG env (xs.getD 1 0) m hm
   have l2 := zW l1.four (inO 4)
   have i2 := Pb l1.four (inO 4)
   have l3 := hG env (xs.getD 2 0) _ l2.four
   have l4 := zW l3.four (inO 5)
   have i4 := Pb l3.four (inO 5)
   have l5 := Sa l4.four (Dt (E env (xs.getD 1 0) m))
   have l6 := hG env (xs.getD 3 0) _ l5.four
   have b1 := hS env (xs.getD 1 0) m g1 g2 he2 hm
   have b2 := Dz (p := p) l1.four 4 0 0
   have b3 := hS env (xs.getD 2 0) _ g4 g5 he2 l2.four
   have b4 := Dz (p := p) l3.four 5 0 0
   have b5 := aaH (p := p) l4.four (k := Dt (E env (xs.getD 1 0) m)) (fun h => by have := i2 (l3.how (l4.how h)); have := l4.len; have := l3.len; omega)
   have b6 := hS env (xs.getD 3 0) _ g7 g8 he2 l5.four
   have b7 := aaH (p := p) l6.four (k := Dt (E env (xs.getD 2 0) (z4 (E env (xs.getD 1 0) m) (inO 4)))) (fun h => by have := i4 (l5.how (l6.how h)); have := l6.len; have := l5.len; omega)
   rw [if_pos ⟨hi,h4⟩,xK ti,xK (yF (Gd (by omega))),yu (by rw [lnM]; simp only [ni,Bool.and_eq_true,decide_eq_true_eq]; omega),xW g3,ye,BC b1,zk b2,yu (by rw [lnM]; simp only [ni,Bool.and_eq_true,decide_eq_true_eq]; omega),xW g6,ye,BC b3,zk b4,KC b5,yu (by rw [lnM]; simp only [ni,Bool.and_eq_true,decide_eq_true_eq]; omega),xW g9,ye,BC b6,KC b7]
  ·rw [if_neg (fun h => h4 h.2),if_neg (fun h => other hi (by decide) h.1),if_neg (fun h => other hi (by decide) h.1),if_neg (fun h => other hi (by decide) h.1),xK ti,xb (yE (Mz (by omega))),xb td,xb tf,xb tl]
   rfl
 have ti : kc s ⟨#[105,102]⟩ = false := by cases e : kc s ⟨#[105,102]⟩ with | true => exact absurd e hi | false => rfl
 rw [if_neg (fun h => hi h.1),xb ti]
 by_cases hd : kc s (mk [100,111]) = true
 ·have td : kc s ⟨#[100,111]⟩ = true := hd
  have tf : kc s ⟨#[102,110]⟩ = false := AM hd (by decide)
  have tl : kc s ⟨#[108,101,116]⟩ = false := AM hd (by decide)
  by_cases h2 : 2 <= xs.length
  ·have b1 := XE hG hS he2 (hdl 1) (hdrop 1) hm
   rw [if_pos ⟨hd,h2⟩,xK td,lnM,xK (decide_eq_true (by simp only [ni]; omega)),<- lnM (f := eI),yu (cut 1 (by omega) (by omega)),cutd1,GP b1]
  ·rw [if_neg (fun h => h2 h.2),if_neg (fun h => other hd (by decide) h.1),if_neg (fun h => other hd (by decide) h.1),xK td,xb (decide_eq_false (by rw [lnM]; simp only [ni]; omega)),xb tf,xb tl]
   rfl
 have td : kc s ⟨#[100,111]⟩ = false := by cases e : kc s ⟨#[100,111]⟩ with | true => exact absurd e hd | false => rfl
 rw [if_neg (fun h => hd h.1),xb td]
 by_cases hf : kc s (mk [102,110]) = true
 ·have tf : kc s ⟨#[102,110]⟩ = true := hf
  have tl : kc s ⟨#[108,101,116]⟩ = false := AM hf (by decide)
  by_cases h3 : 3 <= xs.length
  ·obtain ⟨g1,g2,g3⟩ := get 1 (by omega)
   have b1 := Gp hp (by omega) g1
   rw [if_pos ⟨hf,h3⟩,xK tf,xK (decide_eq_true (by rw [lnM]; simp only [ni]; omega)),yu (by rw [lnM]; simp only [ni,Bool.and_eq_true,decide_eq_true_eq]; omega),xW g3,ye,Cu b1]
   simp only
   cases hb : (zR p (xs.getD 1 0)).2 with
   | false => rw [if_pos rfl,Bool.not_false,yk]; rfl
   | true =>
    have ll := Mw (p := p) (xs.getD 1 0)
    obtain ⟨b2,b3⟩ := Uy (p := p) m (xs := (zR p (xs.getD 1 0)).1) (by have := g1.2; omega) (GL hp g1)
    have l1 : Le m (D5 m (Ax p (zR p (xs.getD 1 0)).1 m.how).2) := GV hm Kz
    have b4 := aaP hG hS (names := (Ax p (zR p (xs.getD 1 0)).1 m.how).1) (by have := g1.2; omega) he (hdl 2) (hdrop 2) l1.four
    rw [if_pos (rfl : true = true),if_neg (by decide : ¬ true = false),Bool.not_true,xJ,Jo b2,yu (cut 2 (by omega) (by omega)),cutd2,Qh b4]
  ·rw [if_neg (fun h => h3 h.2),if_neg (fun h => other hf (by decide) h.1),xK tf,xb (decide_eq_false (by rw [lnM]; simp only [ni]; omega)),xb tl]
   rfl
 have tf : kc s ⟨#[102,110]⟩ = false := by cases e : kc s ⟨#[102,110]⟩ with | true => exact absurd e hf | false => rfl
 rw [if_neg (fun h => hf h.1),xb tf]
 by_cases hl : kc s (mk [108,101,116]) = true
 ·have tl : kc s ⟨#[108,101,116]⟩ = true := hl
  by_cases h4 : 4 <= xs.length
  ·obtain ⟨g1,g2,g3⟩ := get 1 (by omega)
   obtain ⟨g4,g5,g6⟩ := get 2 (by omega)
   have ec : wu (wt (xs.map eI) 2) 1 = [xs.getD 1 0].map eI := by
    obtain ⟨g7,g8,g9⟩ := get 0 (by omega)
    match xs,h4 with
    | a :: b :: r,_ => rfl
   obtain ⟨b2,b3⟩ := Uy (p := p) m (xs := [xs.getD 1 0]) (by simp) (fun x h => by rw [List.mem_singleton.1 h]; exact g1)
   have l1 : Le m (D5 m (Ax p [xs.getD 1 0] m.how).2) := GV hm Kz
   have b4 := aaP hG hS (names := (Ax p [xs.getD 1 0] m.how).1) (by have : [xs.getD 1 0].length = 1 := rfl; omega) he (hdl 3) (hdrop 3) l1.four
   have l2 := Xm hG (Ax p [xs.getD 1 0] m.how).1 (xs.drop 3) env l1.four
   have b5 := hS env (xs.getD 2 0) _ g4 g5 he2 l2.four
   have l3 := hG env (xs.getD 2 0) _ l2.four
   have b6 := Dz (p := p) l3.four 7 0 1
   rw [if_pos ⟨hl,h4⟩,xK tl,xK (decide_eq_true (by rw [List.length_map]; simp only [ni]; omega)),yu (by simp [cW]; omega),ec,Jo b2,yu (cut 3 (by omega) (by omega)),cutd3,Qh b4,yu (by rw [List.length_map]; simp only [ni,Bool.and_eq_true,decide_eq_true_eq]; omega),xW g6,ye,BC b5,zk b6]
  ·rw [if_neg (fun h => h4 h.2),xK tl,xb (decide_eq_false (by rw [lnM]; simp only [ni]; omega))]
   rfl
 have tl : kc s ⟨#[108,101,116]⟩ = false := by cases e : kc s ⟨#[108,101,116]⟩ with | true => exact absurd e hl | false => rfl
 rw [if_neg (fun h => hl h.1),xb tl]
 rfl
end
theorem TW {p : List Nd} {v : Int} (h : (nod p v).kind = 5) : (zR p v).1 ≠ [] := by
 unfold zR IJ
 rw [if_pos h]
 simp
theorem Ru {p : List Nd} {k : Nat} {E : List (List ByteArray) -> Int -> Ms -> Ms} (hG : Jx E) (hS : Pf p k E) {env : List (List ByteArray)} (he : LK env k) {xs : List Int} (hl : xs.length <= 100000) (hx : ∀ x ∈ xs,InP p x /\ x < (k : Int)) : ∀ (j i : Nat) (m : Ms),i + j = xs.length -> m.list.length <= 400 ->
  zr (eEs env) (i : Int) m.how (xs.map eI) (p.map eN) (m.list.map eIn) (m.defs.map eDf) = some (.tup [],[eMs p (z4 ((xs.drop i).foldl (fun m x => E env x m) m) ⟨7,0,(xs.length : Int) - 1,⟨#[]⟩⟩)])
 | 0,i,m,hi,hm => by
  have b : V 237 [eMs p m,.agg [iN 7,iN 0,iN (ni xs.length - 1),.str ⟨#[]⟩]] = _ := Dz (p := p) hm 7 0 ((xs.length : Int) - 1)
  rw [FF,lnM,xb (yr (by omega)),List.drop_of_length_le (by omega),w64 (n := ni xs.length - 1) (by simp only [ni]; omega) (by simp only [ni]; omega),zk b]
  rfl
 | j + 1,i,m,hi,hm => by
  obtain ⟨x,hg⟩ := xx (l := xs) (i := i) (by omega)
  obtain ⟨x1,x2⟩ := hx x (List.mem_of_getElem? hg)
  have a1 := hS env x m x1 x2 he hm
  have ih := Ru hG hS he hl hx j (i + 1) (E env x m) (by omega) (hG env x m hm).four
  rw [FF,xK (by rw [lnM]; exact yz (by omega)),yu (by rw [lnM]; exact yx (by omega)),Int.toNat_natCast,xW hg,ye,BC a1,yM (by omega),ih,tU hg,List.foldl_cons]
theorem Z4 {p : List Nd} (hp : y2 p) (hl : p.length < 100000) : ∀ k,k <= 100000 -> Pf p k (KY p k)
 | 0,hk,env,v,m,hv,hlt,he,hm => by have := hv.1; omega
 | k + 1,hk,env,v,m,hv,hlt,he,hm => by
  have ih := Z4 hp hl k (by omega)
  have hG := Jh p k
  have he2 : LK env k := ⟨by have := he.1; omega,he.2⟩
  rw [Tp]
  unfold KY
  by_cases h0 : m.how = 0
  ·rw [xb (yG h0),if_neg (fun h => h h0),Ce hv]
   simp only
   have bl := Dz (p := p) hm 1 v 0
   by_cases k1 : (nod p v).kind = 1
   ·rw [xK (yF k1),xK (yF k1),zk bl,if_pos (.inl k1)]
   rw [xb (yE k1)]
   by_cases k2 : (nod p v).kind = 2
   ·rw [xK (yF k2),xK (yF k2),zk bl,if_pos (.inr (.inl k2))]
   rw [xb (yE k2)]
   by_cases k3 : (nod p v).kind = 3
   ·rw [xK (yF k3),zk bl,if_pos (.inr (.inr k3))]
   rw [xb (yE k3),if_neg (by omega)]
   by_cases k4 : (nod p v).kind = 4
   ·rw [xK (yF k4),if_pos k4,EO (XL _)]
    cases hr : XD (nod p v).s with
    | true => rw [yk,if_pos rfl]; rfl
    | false =>
     have hw := abp (nod p v).s (env := env) (by have := he.1; omega) (fun e h => by have := he.2 e h; omega)
     rw [xJ,if_neg (by decide)]
     cases hvn : Zj (nod p v).s env 0 with
     | none =>
      rw [hvn] at hw
      have b := XI (p := p) hm ⟨3,0,0,(nod p v).s⟩
      rw [Qi hw,xb (decide_eq_false (by omega)),zk b]
     | some ni =>
      obtain ⟨n,i⟩ := ni
      rw [hvn] at hw
      have b := Dz (p := p) hm 2 n i
      rw [Qi hw,xK (decide_eq_true (by omega)),zk b]
   rw [xb (yE k4),if_neg k4]
   by_cases k5 : (nod p v).kind = 5
   ·have b1 := Gp hp (by omega) hv
    rw [xb (yG k5),if_neg (fun h => h k5),Cu b1]
    cases hb : (zR p v).2 with
    | false => rw [if_pos rfl,Bool.not_false,yk]; rfl
    | true =>
     have ll := Mw (p := p) v
     have hne := TW k5
     have hin := GL hp hv
     have hlt2 := aau hp hv
     rw [if_pos (rfl : true = true),if_neg (by decide : ¬ true = false),Bool.not_true,xJ]
     generalize hxs : (zR p v).1 = xs at ll hne hin hlt2 ⊢
     have hx : ∀ x ∈ xs,InP p x /\ x < (k : Int) := fun x h => ⟨hin x h,by have := hlt2 x h; omega⟩
     obtain ⟨a,r,rfl⟩ : ∃ a r,xs = a :: r := by
      cases xs with
      | nil => exact absurd rfl hne
      | cons a r => exact ⟨a,r,rfl⟩
     have ha := hin a (by simp)
     have hcl := Ru hG ih he2 (xs := a :: r) (by have := hv.2; omega) hx (a :: r).length 0 m (by omega) hm
     rw [Int.natCast_zero,List.drop_zero] at hcl
     rw [zG,Ce ha]
     simp only [List.getD_cons_zero]
     have fin : (br (decide (ni ((a :: r).map eI).length > 5)) (some (.tup [],[.op [.os (5,0) (p.map eN),.os (4,0) (m.list.map eIn),.os (3,0) (m.defs.map eDf),iN 1]])) (zr (eEs env) 0 m.how ((a :: r).map eI) (p.map eN) (m.list.map eIn) (m.defs.map eDf))) = some (.tup [],[eMs p (if (a :: r).length > 5 then D5 m 1 else z4 ((a :: r).foldl (fun m x => KY p k env x m) m) ⟨7,0,((a :: r).length : Int) - 1,⟨#[]⟩⟩)]) := by
      rw [lnM]
      by_cases h5 : (a :: r).length > 5
      ·rw [xK (decide_eq_true (by simp only [ni]; omega)),if_pos h5]; rfl
      ·rw [xb (decide_eq_false (by simp only [ni]; omega)),if_neg h5,hcl]
     by_cases ka : (nod p a).kind = 4
     ·rw [xK (yF ka),EO (XL _)]
      cases hr : XD (nod p a).s with
      | true =>
       have bf := aa4 hp hl hG ih he (xs := a :: r) (by simp) (by have := hv.2; omega) hx hm (nod p a).s
       rw [yk,VN bf,if_pos ⟨ka,rfl⟩]
      | false => rw [xJ,if_neg (fun h => by simp at h)]; exact fin
     ·rw [xb (yE ka),if_neg (fun h => ka h.1)]; exact fin
   ·rw [xK (yH k5),if_pos k5]; rfl
  ·rw [xK (yH h0),if_pos h0]
end
end Go.Eng
/-! compiling: the reference's side: definitions,programs -/
namespace Go.Eng
open Go.Proofs Go.Proofs.Tryz
set_option maxHeartbeats 4000000

theorem abe {R : Type} (x : Df) (K : ByteArray -> Option R) : (asAgg (eDf x) fun l => cT l 0 fun y => asS y fun n => K n) = K x.name := rfl
theorem aaW {p : List Nd} (s : ByteArray) (names : List ByteArray) (body : List Int) {m : Ms} (h : m.list.length <= 400) : (Nk p s names body m).list.length <= 400 /\ m.list.length <= (Nk p s names body m).list.length /\ ((Nk p s names body m).how = 0 -> m.list.length < (Nk p s names body m).list.length) := by
 unfold Nk
 have a1 := GI (E := JA p) (fun env v m h => Jh p _ env v m h) [names] body true ⟨m.list,m.defs ++ [⟨s,m.list.length,names.length⟩],KV s m.defs m.how⟩ h
 have a2 := zW a1.four (inO 8)
 have a3 := a1.len
 have a4 := a2.len
 refine ⟨a2.four,by simp only at a3; omega,fun h0 => ?_⟩
 have h1 := a2.how h0
 have : (z4 (FM (JA p) [names] body true ⟨m.list,m.defs ++ [⟨s,m.list.length,names.length⟩],KV s m.defs m.how⟩) (inO 8)).list.length = (FM (JA p) [names] body true ⟨m.list,m.defs ++ [⟨s,m.list.length,names.length⟩],KV s m.defs m.how⟩).list.length + 1 := by
  unfold z4 at h0 ⊢
  rw [if_pos h1] at h0 ⊢
  split at h0
  ·simp at h0
  ·rename_i e; rw [if_neg e]; simp
 simp only at a3
 omega
theorem abm {p : List Nd} (hp : y2 p) (hl : p.length <= 5000) : Pf p p.length (JA p) := fun env v m hv hlt he hm => by
 unfold JA
 exact Z4 hp (by omega) (v.toNat + 1) (by omega) env v m hv (by have := hv.1; omega) ⟨by have := he.1; omega,he.2⟩ hm
theorem Rz {p : List Nd} (hp : y2 p) (hl : p.length <= 5000) {s : ByteArray} {names : List ByteArray} (hn : names.length <= 10000) {body : List Int} (hbl : body.length <= 100000) (hb : ∀ x ∈ body,InP p x) {m : Ms} (hm : m.list.length <= 400) (hd : m.defs.length <= 1000000) : ∀ (k i : Nat) (h : Int),i + k = m.defs.length ->
  AE s (names.map D.str) (body.map eI) (i : Int) h (p.map eN) (m.list.map eIn) (m.defs.map eDf) = some (.tup [],[eMs p (z4 (FM (JA p) [names] body true ⟨m.list,m.defs ++ [⟨s,m.list.length,names.length⟩],KV s (m.defs.drop i) h⟩) (inO 8))])
 | k,i,h,hi => by
  have ea : m.defs.map eDf ++ [D.agg [D.str s,iN (ni (m.list.map eIn).length),iN (ni (names.map D.str).length)]] = (m.defs ++ [(⟨s,m.list.length,names.length⟩ : Df)]).map eDf := by
   rw [List.map_append,lnM,lnM]; rfl
  have hlim : decide (ni ((m.defs ++ [(⟨s,m.list.length,names.length⟩ : Df)]).map eDf).length <= LIM) = true := decide_eq_true (by rw [pE]; simp only [ni,lnM,lnA,lnC,lnN]; omega)
  have hG : Jx (JA p) := fun env v m h => Jh p _ env v m h
  have b1 : ∀ h' : Int,V 236 [eMs p ⟨m.list,m.defs ++ [(⟨s,m.list.length,names.length⟩ : Df)],h'⟩,.rs (1,0) (body.map eI),.rs (1,1) [.rs (1,0) (names.map D.str)]] = some (.tup [],[eMs p (FM (JA p) [names] body true ⟨m.list,m.defs ++ [(⟨s,m.list.length,names.length⟩ : Df)],h'⟩)]) := fun h' => XE (m := ⟨m.list,m.defs ++ [(⟨s,m.list.length,names.length⟩ : Df)],h'⟩) hG (abm hp hl) (env := [names]) ⟨by simp; omega,fun e he => by rw [List.mem_singleton.1 he]; exact hn⟩ hbl (fun x h => ⟨hb x h,(hb x h).2⟩) hm
  have b2 := fun h' : Int => Dz (p := p) (GI hG [names] body true ⟨m.list,m.defs ++ [(⟨s,m.list.length,names.length⟩ : Df)],h'⟩ hm).four 8 0 0
  rw [KJ,ea]
  match k with
  | 0 =>
   rw [xb (by rw [lnM]; exact yr (by omega)),List.drop_of_length_le (by omega),KV,yu hlim,yA,GP (b1 h),zk (b2 h)]
  | k + 1 =>
   obtain ⟨d,hg⟩ := xx (l := m.defs) (i := i) (by omega)
   rw [xK (by rw [lnM]; exact yz (by omega)),tU hg,KV]
   by_cases h0 : h = 0
   ·have ih := fun h' => Rz hp hl (s := s) hn hbl hb hm hd k (i + 1) h' (by omega)
    rw [xK (yF h0),if_pos h0,yu (by rw [lnM]; exact yx (by omega)),Int.toNat_natCast,xW hg,abe,yM (by omega),ih,ih,h0]
    cases kc d.name s with
    | true => rw [yk,if_pos rfl]
    | false => rw [xJ,if_neg (by decide)]
   ·rw [xb (yE h0),if_neg h0,yu hlim,yA,GP (b1 h),zk (b2 h)]
 termination_by k => k
theorem aaO {p : List Nd} (hp : y2 p) (hl : p.length <= 5000) (s : ByteArray) {names : List ByteArray} (hn : names.length <= 10000) {body : List Int} (hbl : body.length <= 100000) (hb : ∀ x ∈ body,InP p x) {m : Ms} (hm : m.list.length <= 400) (hd : m.defs.length <= 1000000) : V 229 [eMs p m,.str s,.rs (1,0) (names.map D.str),.rs (1,0) (body.map eI)] = some (.tup [],[eMs p (Nk p s names body m)]) := by
 have h := Rz hp hl (s := s) hn hbl hb hm hd m.defs.length 0 m.how (by omega)
 rw [PC]
 rw [Int.natCast_zero,List.drop_zero] at h
 exact h
theorem ZT (l : List Int) (k : Nat) (K : Int) (hK : K.toNat = k) : part (l.map eI) (some (K.toNat,(l.map eI).length - K.toNat)) = (l.drop k).map eI := by
 rw [hK]
 simp only [part]
 rw [<- List.map_drop]
 exact List.take_of_length_le (by simp)
theorem abo {p : List Nd} (hp : y2 p) (hl : p.length <= 5000) {v : Int} (hv : InP p v) {m : Ms} (hm : m.list.length <= 400) (hd : m.defs.length <= 1000000) : V 215 [eMs p m,iN v] = some (.tup [],[eMs p (QA p v m)]) := by
 have dm : V 229 [eMs p m,.str ⟨#[109,97,105,110]⟩,.rs (1,0) [],.rs (1,0) [iN v]] = some (.tup [],[eMs p (Nk p ZO [] [v] m)]) := aaO hp hl ZO (names := []) (by simp) (body := [v]) (by simp) (fun x h => by rw [List.mem_singleton.1 h]; exact hv) hm hd
 rw [Vc,JJ hv]
 unfold QA
 simp only
 by_cases k5 : (nod p v).kind = 5
 ·have b1 := Gp hp (by omega) hv
  rw [xK (yF k5),Cu b1]
  cases hb : (zR p v).2 with
  | false => rw [if_neg (by decide : ¬ false = true),Bool.not_false,yk,Cw dm,if_neg (fun h => by simp at h)]
  | true =>
   have ll := Mw (p := p) v
   have hne := TW k5
   have hin := GL hp hv
   rw [if_pos (rfl : true = true),Bool.not_true,xJ]
   generalize hxs : (zR p v).1 = xs at ll hne hin ⊢
   obtain ⟨a,r,rfl⟩ : ∃ a r,xs = a :: r := by
    cases xs with
    | nil => exact absurd rfl hne
    | cons a r => exact ⟨a,r,rfl⟩
   have ha := hin a (by simp)
   have e2 := ab5 (R := Ret) (nod p a)
   rw [zG,JJ ha]
   simp only [List.getD_cons_zero]
   by_cases k4 : (nod p a).kind = 4
   ·rw [xb (yG k4),zG,yu (RF ha),xW (Jl ha),e2]
    by_cases hs : kc (nod p a).s (mk [100,101,102,105,110,101]) = true
    ·have hs' : kc (nod p a).s ⟨#[100,101,102,105,110,101]⟩ = true := hs
     rw [hs',Bool.not_true,xJ,if_pos ⟨k5,trivial,k4,hs⟩]
     by_cases h3 : (a :: r).length < 3
     ·rw [xK (decide_eq_true (by rw [lnM]; simp only [ni]; omega)),if_pos (.inl h3)]; rfl
     ·rw [xb (decide_eq_false (by rw [lnM]; simp only [ni]; omega))]
      obtain ⟨b,c,r,rfl⟩ : ∃ b c r',r = b :: c :: r' := by
       match r,h3 with
       | b :: c :: r',_ => exact ⟨b,c,r',rfl⟩
       | [],h => simp at h
       | [_],h => simp at h
      have hb1 := hin b (by simp)
      rw [Du,JJ hb1]
      simp only [List.getD_cons_succ,List.getD_cons_zero]
      by_cases kb : (nod p b).kind = 5
      ·have b2 := Gp hp (by omega) hb1
       rw [xb (yG kb),Du,if_neg (fun h => h.elim h3 (fun h => h kb)),Cu b2]
       cases hbb : (zR p b).2 with
       | false => rw [if_neg (by decide : ¬ false = true),Bool.not_false,yk,if_pos rfl]; rfl
       | true =>
        have l2 := Mw (p := p) b
        have n2 := TW kb
        have i2 := GL hp hb1
        rw [if_pos (rfl : true = true),Bool.not_true,xJ,if_neg (by decide : ¬ true = false)]
        generalize hys : (zR p b).1 = ys at l2 n2 i2 ⊢
        obtain ⟨f,q,rfl⟩ : ∃ f q,ys = f :: q := by
         cases ys with
         | nil => exact absurd rfl n2
         | cons f q => exact ⟨f,q,rfl⟩
        have hf := i2 f (by simp)
        have bn := Z9 (p := p) m hf
        rw [zG,Oi bn]
        simp only [List.getD_cons_zero]
        cases hnm : nmC p f with
        | false => rw [Bool.not_false,yk,if_pos rfl]; rfl
        | true =>
         have hq : ∀ x ∈ (f :: q).drop 1,InP p x := fun x h => i2 x (List.mem_of_mem_drop h)
         have hql : ((f :: q).drop 1).length <= 5001 := by have := hb1.2; rw [List.length_drop]; omega
         obtain ⟨b3,b4⟩ := Uy (p := p) m (xs := (f :: q).drop 1) (by omega) hq
         have bd := aaO hp hl (nod p f).s (names := (Ax p ((f :: q).drop 1) m.how).1) (by omega) (body := (a :: b :: c :: r).drop 2) (by have := hv.2; rw [List.length_drop]; omega) (fun x h => hin x (List.mem_of_mem_drop h)) (m := D5 m (Ax p ((f :: q).drop 1) m.how).2) hm hd
         rw [Bool.not_true,xJ,if_neg (by decide : ¬ true = false),yu (by simp [cW]; omega),ZT _ 1 1 rfl,Jo b3,yu (by simp [cW]; omega),ZT _ 2 2 rfl,Cw bd]
      ·rw [xK (yH kb),if_pos (.inr kb)]; rfl
    ·have hs' : kc (nod p a).s ⟨#[100,101,102,105,110,101]⟩ = false := by cases e : kc (nod p a).s ⟨#[100,101,102,105,110,101]⟩ with | true => exact absurd e hs | false => rfl
     rw [hs',Bool.not_false,yk,Cw dm,if_neg (fun h => hs h.2.2.2)]
   ·rw [xK (yH k4),Cw dm,if_neg (fun h => k4 h.2.2.1)]
 ·rw [xb (yE k5),Cw dm,if_neg (fun h => k5 h.1)]
end Go.Eng
/-! compiling: the reference's side: whole programs -/
namespace Go.Eng
noncomputable section
open Go.Proofs Go.Proofs.Tryz
set_option maxHeartbeats 4000000

structure LeD (m m' : Ms) : Prop where
 len : m.list.length <= m'.list.length
 four : m'.list.length <= 400
 grew : m'.how = 0 -> m.list.length < m'.list.length
 defs : m'.defs.length <= m.defs.length + 1
theorem XQ {p : List Nd} (s : ByteArray) (names : List ByteArray) (body : List Int) {m : Ms} (h : m.list.length <= 400) : LeD m (Nk p s names body m) := by
 obtain ⟨h1,h2,h3⟩ := aaW (p := p) s names body h
 refine ⟨h2,h1,h3,?_⟩
 unfold Nk
 have a1 := GI (E := JA p) (fun env v m h => Jh p _ env v m h) [names] body true ⟨m.list,m.defs ++ [⟨s,m.list.length,names.length⟩],KV s m.defs m.how⟩ h
 rw [(zW a1.four (inO 8)).defs,a1.defs]
 simp
theorem ZZ {p : List Nd} {v : Int} {m : Ms} (h : m.list.length <= 400) : LeD m (QA p v m) := by
 unfold QA
 simp only
 split
 ·split
  ·exact ⟨Nat.le_refl _,h,fun h => by simp [D5] at h,Nat.le_succ _⟩
  ·split
   ·exact ⟨Nat.le_refl _,h,fun h => by simp [D5] at h,Nat.le_succ _⟩
   ·split
    ·exact ⟨Nat.le_refl _,h,fun h => by simp [D5] at h,Nat.le_succ _⟩
    ·have h2 : (D5 m (Ax p (List.drop 1 (zR p ((zR p v).1.getD 1 0)).1) m.how).2).list.length <= 400 := h
     have := XQ (p := p) (nod p ((zR p ((zR p v).1.getD 1 0)).1.getD 0 0)).s (Ax p (List.drop 1 (zR p ((zR p v).1.getD 1 0)).1) m.how).1 (List.drop 2 (zR p v).1) h2
     exact ⟨this.len,this.four,this.grew,this.defs⟩
 ·exact XQ _ _ _ h
def Lu (l : List In) : Prop := ∀ x ∈ l,x.s.size < 4611686018427387904
def Yz (E : List (List ByteArray) -> Int -> Ms -> Ms) : Prop := ∀ env v (m : Ms),Lu m.list -> Lu (E env v m).list
theorem AH {m : Ms} (h : Lu m.list) {x : In} (hx : x.s.size < 4611686018427387904) : Lu (z4 m x).list := by
 unfold z4
 split
 ·split
  ·exact h
  ·intro y hy
   rcases List.mem_append.1 hy with hy | hy
   ·exact h y hy
   ·rw [List.mem_singleton.1 hy]; exact hx
 ·exact h
theorem EE : (⟨#[]⟩ : ByteArray).size < 4611686018427387904 := by decide
theorem Ut {m : Ms} (h : Lu m.list) (k : Int) : Lu (toC m k).list := by
 unfold toC
 split
 ·intro y hy
  rcases List.mem_or_eq_of_mem_set hy with hy | rfl
  ·exact h y hy
  ·simp only
   rw [List.getD_eq_getElem?_getD]
   cases hg : m.list[k.toNat]? with
   | none => exact EE
   | some x => exact h x (List.mem_of_getElem? hg)
 ·exact h
theorem LQ {E} (hE : Yz E) (env : List (List ByteArray)) : ∀ (xs : List Int) (f : Bool) (m : Ms),Lu m.list -> Lu (FM E env xs f m).list
 | [],f,m,h => h
 | x :: r,f,m,h => by
  unfold FM
  split
  ·refine LQ hE env r false _ (hE env x _ ?_)
   split
   ·exact h
   ·exact AH h EE
  ·exact h
theorem Yb {E} (hE : Yz E) (names : List ByteArray) (body : List Int) (env : List (List ByteArray)) {m : Ms} (h : Lu m.list) : Lu (Xl E names body env m).list := by
 unfold Xl
 exact Ut (AH (LQ hE _ _ _ _ (Ut (AH (AH h EE) EE) _)) EE) _
theorem ZJ {E} (hE : Yz E) (p : List Nd) (s : ByteArray) (xs : List Int) (env : List (List ByteArray)) {m : Ms} (h : Lu m.list) : Lu (PH E p s xs env m).list := by
 unfold PH
 simp only
 split
 ·exact AH h EE
 split
 ·exact Ut (hE _ _ _ (Ut (AH (hE _ _ _ (AH (hE _ _ _ h) EE)) EE) _)) _
 split
 ·exact LQ hE _ _ _ _ h
 split
 ·split
  ·exact h
  ·exact Yb hE _ _ _ h
 split
 ·refine AH (hE _ _ _ (Yb hE _ _ _ ?_)) ?_
  ·exact h
  ·exact EE
 ·exact h
theorem Vk {E} (hE : Yz E) (env : List (List ByteArray)) : ∀ (xs : List Int) (m : Ms),Lu m.list -> Lu (xs.foldl (fun m x => E env x m) m).list
 | [],_,h => h
 | x :: r,m,h => Vk hE env r _ (hE env x m h)
theorem Ym {p : List Nd} (hf : z9 p) (v : Int) : (nod p v).s.size < 4611686018427387904 := by
 unfold nod
 rw [List.getD_eq_getElem?_getD]
 cases hg : p[v.toNat]? with
 | none => exact EE
 | some x => exact hf x (List.mem_of_getElem? hg)
theorem PF {p : List Nd} (hf : z9 p) : ∀ k,Yz (KY p k)
 | 0,env,v,m,h => h
 | k + 1,env,v,m,h => by
  unfold KY
  split
  ·exact h
  simp only
  split
  ·exact AH h EE
  split
  ·split
   ·exact h
   ·split
    ·exact AH h EE
    ·exact AH h (Ym hf v)
  split
  ·exact h
  split
  ·exact h
  split
  ·exact ZJ (PF hf k) p _ _ env h
  split
  ·exact h
  ·exact AH (Vk (PF hf k) env _ m h) EE
def WQ (m : Ms) : Prop := Lu m.list /\ ∀ x ∈ m.defs,x.name.size < 4611686018427387904
theorem XR {p : List Nd} (hf : z9 p) {s : ByteArray} (hs : s.size < 4611686018427387904) (names : List ByteArray) (body : List Int) {m : Ms} (hm : m.list.length <= 400) (h : WQ m) : WQ (Nk p s names body m) := by
 have hE : Yz (JA p) := fun env v m h => PF hf _ env v m h
 have hG : Jx (JA p) := fun env v m h => Jh p _ env v m h
 unfold Nk
 refine ⟨?_,?_⟩
 ·refine AH (LQ hE _ _ _ _ ?_) ?_
  ·exact h.1
  ·exact EE
 have a1 := GI hG [names] body true ⟨m.list,m.defs ++ [⟨s,m.list.length,names.length⟩],KV s m.defs m.how⟩ hm
 rw [(zW a1.four (inO 8)).defs,a1.defs]
 intro x hx
 rcases List.mem_append.1 hx with hx | hx
 ·exact h.2 x hx
 ·rw [List.mem_singleton.1 hx]; exact hs
theorem Yv {p : List Nd} (hf : z9 p) {v : Int} {m : Ms} (hm : m.list.length <= 400) (h : WQ m) : WQ (QA p v m) := by
 unfold QA
 simp only
 split
 ·split
  ·exact h
  ·split
   ·exact h
   ·split
    ·exact h
    ·exact XR hf (Ym hf _) _ _ hm h
 ·exact XR hf (by decide) _ _ hm h
abbrev Rv (r : Cd × Int × Int) : Option Ret := some (.tup [oCd r.1,iN r.2.1,iN r.2.2],[])
theorem Ry {p : List Nd} (hp : y2 p) (hf : z9 p) (hl : p.length <= 5000) {xs : List Int} (hxl : xs.length <= 1000000) (hx : ∀ x ∈ xs,InP p x) : ∀ (k i : Nat) (m : Ms),i + k = xs.length -> m.list.length <= 400 -> m.defs.length <= i -> WQ m ->
  AU (xs.map eI) (i : Int) m.how (p.map eN) (m.list.map eIn) (m.defs.map eDf) = Rv (FQ p xs.length (xs.drop i) i m)
 | 0,i,m,hi,hm,hd,hs => by
  have hfc : FitsC ⟨p,m.list,m.defs⟩ := ⟨hf,by show p.length < _; omega,hs.1,by show m.list.length < _; omega,hs.2,by show m.defs.length < _; omega⟩
  have hok := DV hfc
  rw [Bj,xb (by rw [lnM]; exact yr (by omega)),Og hok,List.drop_of_length_le (by omega),FQ,lnM]
  cases zy ⟨p,m.list,m.defs⟩ with
  | false => rw [Bool.not_false,yk,if_neg (by decide)]; rfl
  | true => rw [Bool.not_true,xJ,if_pos rfl]
 | k + 1,i,m,hi,hm,hd,hs => by
  obtain ⟨x,hg⟩ := xx (l := xs) (i := i) (by omega)
  have ht := abo hp hl (hx x (List.mem_of_getElem? hg)) hm (by omega)
  have le := ZZ (p := p) (v := x) hm
  have ih := Ry hp hf hl hxl hx k (i + 1) (QA p x m) (by omega) le.four (by have := le.defs; omega) (Yv hf hm hs)
  rw [Bj,xK (by rw [lnM]; exact yz (by omega)),yu (by rw [lnM]; exact yx (by omega)),Int.toNat_natCast,xW hg,ye,Xw ht,tU hg,FQ,yM (by omega),ih]
  by_cases h3 : (QA p x m).how = 3
  ·rw [xK (yF h3),if_pos h3]; rfl
  ·rw [xb (yE h3),if_neg h3]
   by_cases h0 : (QA p x m).how = 0
   ·rw [xb (yG h0),if_neg (fun h => h h0)]; rfl
   ·rw [xK (yH h0),if_pos h0]; rfl
theorem WU {p : List Nd} (hp : y2 p) (hf : z9 p) (hl : p.length <= 5000) {xs : List Int} (hxl : xs.length <= 1000000) (hx : ∀ x ∈ xs,InP p x) : DD (xs.map eI) 0 0 (p.map eN) = Rv (FQ p xs.length xs 0 ⟨[],[],0⟩) := by
 have hs : WQ ⟨[],[],0⟩ := ⟨fun x h => by simp at h,fun x h => by simp at h⟩
 have h := Ry hp hf hl hxl hx xs.length 0 ⟨[],[],0⟩ (by omega) (by simp) (by simp) hs
 rw [Int.natCast_zero,List.drop_zero] at h
 rw [<- h,KH,Bj]
 rfl
theorem Vl {p : List Nd} (hp : y2 p) (hf : z9 p) (hl : p.length <= 4999) {xs : List Int} (hxl : xs.length <= 1000000) : ∀ (k i : Nat),i + k = xs.length -> (∀ x ∈ xs.take i,wi x 0 ((p.length : Int) - 1) = true) ->
  CK (xs.map eI) (i : Int) (p.map eN) = Rv (if y4 p (xs.drop i) = true then FQ p xs.length xs 0 ⟨[],[],0⟩ else (⟨[],[],[]⟩,3,0))
 | 0,i,hi,ht => by
  have hx : ∀ x ∈ xs,InP p x := fun x h => by
   have := wi_iff.1 (ht x (by rw [List.take_of_length_le (by omega)]; exact h))
   exact ⟨this.1,by omega⟩
  have hcp := QC (p := p) (by omega)
  rw [FE,xb (by rw [lnM]; exact yr (by omega)),zj hcp,WU hp hf (by omega) hxl hx,List.drop_of_length_le (by omega),if_pos (by rfl)]
 | k + 1,i,hi,ht => by
  obtain ⟨x,hg⟩ := xx (l := xs) (i := i) (by omega)
  rw [FE,xK (by rw [lnM]; exact yz (by omega)),yu (by rw [lnM]; exact yx (by omega)),Int.toNat_natCast,xW hg,ye,Jn (Fq (by omega) x),tU hg,yM (by omega)]
  have er : y4 p (x :: xs.drop (i + 1)) = (wi x 0 ((p.length : Int) - 1) && y4 p (xs.drop (i + 1))) := rfl
  rw [er]
  cases hw : wi x 0 ((p.length : Int) - 1) with
  | false => rw [Bool.not_false,yk,Bool.false_and,if_neg (by decide)]; rfl
  | true =>
   have ih := Vl hp hf hl hxl k (i + 1) (by omega) (fun y hy => by
    rw [List.take_add_one,hg] at hy
    rcases List.mem_append.1 hy with hy | hy
    ·exact ht y hy
    ·simp at hy; rw [hy]; exact hw)
   rw [Bool.not_true,xJ,Bool.true_and,ih]
theorem Kv {p : List Nd} (hf : z9 p) (hl : p.length < 4611686018427387904) {xs : List Int} (hxl : xs.length <= 1000000) : V 193 [eP p,.rs (1,0) (xs.map eI)] = Rv (LX p xs) := by
 rw [QP,Bz (z8 hf hl)]
 unfold LX
 cases h : yU p with
 | false => rw [Bool.not_false,yk,if_neg (by simp)]; rfl
 | true =>
  obtain ⟨h1,h2⟩ := okPool_iff.1 h
  have hh := Vl h1 hf (by omega) hxl xs.length 0 (by omega) (by simp)
  rw [Int.natCast_zero,List.drop_zero] at hh
  rw [Bool.not_true,xJ,hh]
  by_cases hr : y4 p xs = true
  ·rw [if_pos hr,if_pos ⟨rfl,hr⟩]
  ·rw [if_neg hr,if_neg (fun h => hr h.2)]
end
end Go.Eng
/-! the functions as the interpreter has them -/
/-! what is drawn: the cursor -/
namespace Go.Eng
noncomputable section
open Go.Proofs Go.Proofs.Tryz

def eB (x : Int) : D := .int .u8 x
abbrev eC (b : List Int) (c : Int × Int) : D := .op [.rs (1,0) (b.map eB),iN c.1,iN c.2]
def zH (b : List Int) (c : Int × Int) : Prop := 0 <= c.1 /\ c.1 <= b.length
theorem Sn (x : Int) : 0 <= w6 (ni (BitVec.toNat (BitVec.ofInt (IntKind.bits IntKind.i64) x &&& BitVec.ofInt (IntKind.bits IntKind.i64) 255))) /\ w6 (ni (BitVec.toNat (BitVec.ofInt (IntKind.bits IntKind.i64) x &&& BitVec.ofInt (IntKind.bits IntKind.i64) 255))) <= 255 := by
 have h : BitVec.toNat (BitVec.ofInt (IntKind.bits IntKind.i64) x &&& BitVec.ofInt (IntKind.bits IntKind.i64) 255) <= 255 := by
  rw [BitVec.toNat_and]
  exact Nat.le_trans Nat.and_le_right (by decide)
 rw [w64 (by simp only [ni]; omega) (by simp only [ni]; omega)]
 simp only [ni]; omega

section
variable {b : List Int} {c : Int × Int}
theorem JO (hb : b.length < 4611686018427387904) (h : zH b c) : ∃ v c',V 143 [eC b c] = some (iN v,[eC b c']) /\ zH b c' /\ 0 <= v /\ v <= 255 := by
 obtain ⟨h1,h2⟩ := h
 rw [S6,yu (by decide),yu (by decide)]
 by_cases hi : c.1 < b.length
 ·obtain ⟨k,hk⟩ := Int.eq_ofNat_of_zero_le h1
  obtain ⟨x,hx⟩ := xx (l := b) (i := k) (by omega)
  rw [hk]
  rw [xK (by rw [lnM]; exact yz (by omega)),yu (by rw [lnM]; exact yx (by omega)),Int.toNat_natCast,xW hx]
  unfold eB
  rw [ye]
  refine ⟨_,(_,_),rfl,⟨?_,?_⟩,(Sn _).1,(Sn _).2⟩
  ·show 0 <= w6 ((k : Int) + 1)
   rw [w64 (by omega) (by omega)]; omega
  ·show w6 ((k : Int) + 1) <= _
   rw [w64 (by omega) (by omega)]; omega
 ·rw [xb (decide_eq_false (by simp only [ni,lnM]; omega))]
  exact ⟨_,(c.1,w6 (w6 (c.2 * 6364136223846793005) + 1442695040888963407)),rfl,⟨h1,h2⟩,(Sn _).1,(Sn _).2⟩

theorem Nj (hb : b.length < 4611686018427387904) (h : zH b c) (n : Int) : ∃ v c',V 76 [eC b c,iN n] = some (iN v,[eC b c']) /\ zH b c' /\ 0 <= v /\ (0 < n -> v < n) := by
 rw [QQ]
 by_cases hn : n <= 0
 ·rw [xK (by simpa using hn)]
  exact ⟨_,c,rfl,h,by omega,by omega⟩
 rw [xb (by simpa using hn)]
 by_cases h256 : n <= 256
 ·rw [xK (by simpa using h256)]
  obtain ⟨v,c1,hv,h1,hv1,hv2⟩ := JO hb h
  rw [D9 hv]
  try simp only [ye,xI,yi,yg,yh,xu,xw,yf,yb,yo,yA]
  rw [yu (by simp; omega)]
  exact ⟨_,c1,rfl,h1,Int.tmod_nonneg _ hv1,fun _ => Int.tmod_lt_of_pos _ (by omega)⟩
 ·rw [xb (by simpa using h256)]
  obtain ⟨v1,c1,hv1,a1,b1⟩ := JO hb h
  obtain ⟨v2,c2,hv2,a2,b2⟩ := JO hb a1
  obtain ⟨v3,c3,hv3,a3,b3⟩ := JO hb a2
  obtain ⟨v4,c4,hv4,a4,b4⟩ := JO hb a3
  rw [D9 hv1,D9 hv2,D9 hv3,D9 hv4]
  try simp only [ye,xI,yi,yg,yh,xu,xw,yf,yb,yo,yA]
  rw [yu (by simp; omega)]
  refine ⟨_,c4,rfl,a4,Int.tmod_nonneg _ ?_,fun _ => Int.tmod_lt_of_pos _ (by omega)⟩
  rw [w64 (n := v1 * 16777216) (by omega) (by omega),w64 (n := v2 * 65536) (by omega) (by omega),w64 (n := v3 * 256) (by omega) (by omega)]
  rw [w64 (n := v1 * 16777216 + v2 * 65536) (by omega) (by omega),w64 (n := v1 * 16777216 + v2 * 65536 + v3 * 256) (by omega) (by omega),w64 (by omega) (by omega)]
  omega

theorem UM (hb : b.length < 4611686018427387904) (h : zH b c) {l : List Int} (hl : 0 < l.length) : ∃ v c',V 122 [eC b c,.rs (1,0) (l.map (D.int .i64))] = some (iN v,[eC b c']) /\ zH b c' /\ v ∈ l := by
 obtain ⟨v,c1,hv,a1,b1,b2⟩ := Nj hb h (ni (l.map (D.int .i64)).length)
 rw [O5,MH hv]
 try simp only [ye,xI,yi,yg,yh,xu,xw,yf,yb,yo,yA]
 simp only [ni,lnM] at b2
 obtain ⟨k,rfl⟩ := Int.eq_ofNat_of_zero_le b1
 have hk : k < l.length := by have := b2 (by omega); omega
 obtain ⟨x,hx⟩ := xx hk
 rw [yu (by rw [lnM]; exact yx hk),Int.toNat_natCast,xW hx,ye]
 exact ⟨_,c1,rfl,a1,List.mem_of_getElem? hx⟩

theorem ZA (hb : b.length < 4611686018427387904) (h : zH b c) {l : List ByteArray} (hl : 0 < l.length) : ∃ v c',V 75 [eC b c,.rs (1,0) (l.map D.str)] = some (.str v,[eC b c']) /\ zH b c' /\ v ∈ l := by
 obtain ⟨v,c1,hv,a1,b1,b2⟩ := Nj hb h (ni (l.map D.str).length)
 rw [Tc,MH hv]
 try simp only [ye,xI,yi,yg,yh,xu,xw,yf,yb,yo,yA]
 simp only [ni,lnM] at b2
 obtain ⟨k,rfl⟩ := Int.eq_ofNat_of_zero_le b1
 have hk : k < l.length := by have := b2 (by omega); omega
 obtain ⟨x,hx⟩ := xx hk
 rw [yu (by rw [lnM]; exact yx hk),Int.toNat_natCast,xW hx,yi]
 exact ⟨_,c1,rfl,a1,List.mem_of_getElem? hx⟩

theorem Vy (hb : b.length < 4611686018427387904) : ∀ (k i : Nat) (h : Int),i + k = b.length -> ∃ h',DK (b.map eB) h (i : Int) = some (eC b (0,h'),[])
 | 0,i,h,hi => by
  rw [Ik,xb (by rw [lnM]; exact yr (by omega))]
  exact ⟨_,rfl⟩
 | k + 1,i,h,hi => by
  obtain ⟨x,hx⟩ := xx (l := b) (i := i) (by omega)
  rw [Ik,xK (by rw [lnM]; exact yz (by omega)),yu (by rw [lnM]; exact yx (by omega)),Int.toNat_natCast,xW hx]
  cases h4 : decide ((i : Int) < 4000) with
  | false => exact ⟨_,rfl⟩
  | true =>
   unfold eB
   rw [yk,ye,yM (by omega)]
   exact Vy hb k (i + 1) _ (by omega)
theorem aam (hb : b.length < 4611686018427387904) : ∃ c,V 51 [.rs (1,0) (b.map eB)] = some (eC b c,[]) /\ zH b c := by
 rw [U4]
 obtain ⟨h',he⟩ := Vy hb b.length 0 (w6 (17000 + ni (List.length (b.map eB)))) (by omega)
 exact ⟨(0,h'),he,Int.le_refl _,Int.natCast_nonneg _⟩
end
theorem abn (b : List Int) : V 12 [.rs (1,0) (b.map eB)] = some (.bool (decide ((b.length : Int) > 1048576)),[]) := by
 rw [YJ,lnM]
end
end Go.Eng
/-! draws: what is drawn fits,and the cursor goes on -/
namespace Go.Eng
noncomputable section
open Go.Proofs Go.Proofs.Tryz

def Got (P : D -> List D -> Prop) (r : Option Ret) : Prop := ∃ v l,r = some (v,l) /\ P v l
theorem YK {r s : Option Ret} (h : r = s) (P : D -> List D -> Prop) : Got P r = Got P s := by rw [h]
attribute [congr] YK
section
variable {P Q : D -> List D -> Prop}
theorem ZL {v : D} {l : List D} (h : P v l) : Got P (some (v,l)) := ⟨v,l,rfl,h⟩
theorem y0 {b : Bool} {x y : Option Ret} (h1 : b = true -> Got P x) (h2 : b = false -> Got P y) : Got P (br b x y) := by
 cases b with
 | true => exact h1 rfl
 | false => exact h2 rfl
theorem AW {b : Bool} {x : Option Ret} (h : b = true) (h1 : Got P x) : Got P (grd b x) := by rw [yu h]; exact h1
theorem Mq {v : D} {l : List D} {f : Nat} {ds : List D} {K : D -> List D -> Option Ret} (h : V f ds = some (v,l)) (h2 : Got P (K v l)) : Got P (jb V f ds K) := by
 rw [xh h]; exact h2
end
abbrev Cj (b : List Int) (Q : D -> Prop) : Option Ret -> Prop := Got (fun v l => ∃ c',l = [eC b c'] /\ zH b c' /\ Q v)
section
variable {b : List Int} {Q : D -> Prop} {P : D -> List D -> Prop}
theorem yP {f : Nat} {ds : List D} {K : D -> List D -> Option Ret} (h : Cj b Q (V f ds)) (h2 : ∀ v c',zH b c' -> Q v -> Got P (K v [eC b c'])) : Got P (jb V f ds K) := by
 obtain ⟨v,l,e,c',rfl,hc,hq⟩ := h
 rw [xh e]; exact h2 v c' hc hq
theorem yQ {v : D} {c' : Int × Int} (h : zH b c') (hq : Q v) : Cj b Q (some (v,[eC b c'])) := ⟨v,_,rfl,c',rfl,h,hq⟩
theorem Nq {Q' : D -> Prop} {r : Option Ret} (h : Cj b Q r) (h2 : ∀ v,Q v -> Q' v) : Cj b Q' r := by
 obtain ⟨v,l,e,c',e2,hc,hq⟩ := h
 exact ⟨v,l,e,c',e2,hc,h2 v hq⟩
end
theorem Ge : (⟨#[]⟩ : ByteArray).size <= 100 := by decide
def abb (n : Int) (v : D) : Prop := ∃ m : Int,v = iN m /\ 0 <= m /\ (0 < n -> m < n)
def IsB (v : D) : Prop := ∃ m : Bool,v = .bool m
section
variable {b : List Int} {c : Int × Int}
theorem yZ (hb : b.length < 4611686018427387904) (h : zH b c) (n : Int) : Cj b (abb n) (V 76 [eC b c,iN n]) := by
 obtain ⟨v,c',e,h1,h2,h3⟩ := Nj hb h n
 exact ⟨_,_,e,c',rfl,h1,v,rfl,h2,h3⟩
theorem Je (hb : b.length < 4611686018427387904) (h : zH b c) (n : Int) : Cj b IsB (V 155 [eC b c,iN n]) := by
 rw [S9]
 refine yP (yZ hb h n) fun v c1 a1 ⟨m,e,_⟩ => ?_
 subst e
 simp (disch := first | omega | (simp only [lnA,lnC,lnN,lnM,yO,wY]; omega)) only [↓yo,↓yb,↓ye,↓yh,↓yf]
 exact yQ a1 ⟨_,rfl⟩
theorem FT (hb : b.length < 4611686018427387904) (h : zH b c) (l : List Int) (hl : 0 < l.length) : Cj b (fun v => ∃ m : Int,v = iN m /\ m ∈ l) (V 122 [eC b c,.rs (1,0) (l.map (D.int .i64))]) := by
 obtain ⟨v,c',e,h1,h2⟩ := UM hb h hl
 exact ⟨_,_,e,c',rfl,h1,v,rfl,h2⟩
theorem GJ (hb : b.length < 4611686018427387904) (h : zH b c) (l : List ByteArray) (hl : 0 < l.length) : Cj b (fun v => ∃ m : ByteArray,v = .str m /\ m ∈ l) (V 75 [eC b c,.rs (1,0) (l.map D.str)]) := by
 obtain ⟨v,c',e,h1,h2⟩ := ZA hb h hl
 exact ⟨_,_,e,c',rfl,h1,v,rfl,h2⟩

def aah (v : D) : Prop := ∃ x : Nd,v = eN x /\ x.s.size <= 100
theorem XU (hb : b.length < 4611686018427387904) (h : zH b c) : Cj b aah (V 201 [eC b c]) := by
 rw [Ny]
 refine yP (yZ hb h _) fun v c1 a1 ⟨m,e,m0,m1⟩ => ?_
 subst e
 simp (disch := first | omega | (simp only [lnA,lnC,lnN,lnM,yO,wY]; omega)) only [↓yo,↓yb,↓ye,↓yh,↓yf]
 refine y0 (fun _ => yQ a1 ⟨⟨_,_,_,_,_⟩,rfl,Ge⟩) fun _ => y0 (fun _ => ?_) fun _ => y0 (fun _ => ?_) fun _ => y0 (fun _ => ?_) fun _ => y0 (fun _ => ?_) fun _ => ?_
 ·refine yP (yZ hb a1 _) fun v c2 a2 ⟨m,e,m0,m1⟩ => ?_
  subst e
  simp (disch := first | omega | (simp only [lnA,lnC,lnN,lnM,yO,wY]; omega)) only [↓yo,↓yb,↓ye,↓yh,↓yf]
  exact yQ a2 ⟨⟨_,_,_,_,_⟩,rfl,Ge⟩
 ·refine yP (GJ hb a1 [⟨#[97]⟩,⟨#[98,99]⟩,⟨#[120]⟩,⟨#[102]⟩,⟨#[43]⟩,⟨#[108,105,115,116]⟩] (by simp)) fun v c2 a2 ⟨m,e,hm⟩ => ?_
  subst e
  simp (disch := first | omega | (simp only [lnA,lnC,lnN,lnM,yO,wY]; omega)) only [↓yo,↓yb,↓ye,↓yi,↓yh,↓yf]
  refine yQ a2 ⟨⟨_,_,m,_,_⟩,rfl,?_⟩
  simp only [List.mem_cons,List.not_mem_nil,or_false] at hm
  rcases hm with rfl | rfl | rfl | rfl | rfl | rfl <;> decide
 all_goals
  refine yP (yZ hb a1 _) fun v c2 a2 ⟨m,e,m0,m1⟩ => ?_
  subst e
  simp (disch := first | omega | (simp only [lnA,lnC,lnN,lnM,yO,wY]; omega)) only [↓yo,↓yb,↓ye,↓yh,↓yf]
  exact yQ a2 ⟨⟨_,_,_,_,_⟩,rfl,Ge⟩
theorem XZ (hb : b.length < 4611686018427387904) (h : zH b c) (n : Int) : Cj b aah (V 197 [eC b c,iN n]) := by
 have hat : ∀ {c : Int × Int},zH b c -> Cj b aah (V 201 [eC b c]) := fun h => XU hb h
 rw [NA]
 refine y0 (fun _ => ?_) fun _ => ?_
 ·refine yP (hat h) fun v c1 a1 ⟨x,e,hx⟩ => ?_
  subst e
  simp (disch := first | omega | (simp only [lnA,lnC,lnN,lnM,yO,wY]; omega)) only [↓yo,↓yb,↓ye,↓yi,↓yh,↓xu,↓yf]
  exact yQ a1 ⟨x,rfl,hx⟩
 refine yP (Je hb h 2) fun v c1 a1 ⟨o,e⟩ => ?_
 subst e
 simp (disch := first | omega | (simp only [lnA,lnC,lnN,lnM,yO,wY]; omega)) only [↓yo,↓yb,↓ye,↓xI,↓yh,↓yf]
 refine y0 (fun _ => ?_) fun _ => ?_
 ·refine yP (hat a1) fun v c1 a1 ⟨x,e,hx⟩ => ?_
  subst e
  simp (disch := first | omega | (simp only [lnA,lnC,lnN,lnM,yO,wY]; omega)) only [↓yo,↓yb,↓ye,↓yi,↓yh,↓xu,↓yf]
  exact yQ a1 ⟨x,rfl,hx⟩
 refine Mq (M9 _ _) ?_
 simp (disch := first | omega | (simp only [lnA,lnC,lnN,lnM,yO,wY]; omega)) only [↓yo,↓ye]
 refine yP (yZ hb a1 _) fun v c2 a2 ⟨m,e,m0,m1⟩ => ?_
 subst e
 simp (disch := first | omega | (simp only [lnA,lnC,lnN,lnM,yO,wY]; omega)) only [↓yo,↓yb,↓ye,↓yh,↓yf]
 refine yP (yZ hb a2 _) fun v c3 a3 ⟨m3,e,_,_⟩ => ?_
 subst e
 simp (disch := first | omega | (simp only [lnA,lnC,lnN,lnM,yO,wY]; omega)) only [↓yo,↓yb,↓ye,↓yh,↓yf]
 refine y0 (fun _ => ?_) fun _ => y0 (fun _ => yQ a3 ⟨⟨_,_,_,_,_⟩,rfl,Ge⟩) fun _ => ?_
 ·refine yP (yZ hb a3 _) fun v c4 a4 ⟨m4,e,_,_⟩ => ?_
  subst e
  simp (disch := first | omega | (simp only [lnA,lnC,lnN,lnM,yO,wY]; omega)) only [↓yo,↓yb,↓ye,↓yh,↓yf]
  exact yQ a4 ⟨⟨_,_,_,_,_⟩,rfl,Ge⟩
 refine Mq (M9 _ _) ?_
 simp (disch := first | omega | (simp only [lnA,lnC,lnN,lnM,yO,wY]; omega)) only [↓yo,↓ye]
 refine yP (yZ hb a3 _) fun v c4 a4 ⟨m4,e,_,_⟩ => ?_
 subst e
 simp (disch := first | omega | (simp only [lnA,lnC,lnN,lnM,yO,wY]; omega)) only [↓yo,↓yb,↓ye,↓yh,↓yf]
 exact yQ a4 ⟨⟨_,_,_,_,_⟩,rfl,Ge⟩
def WO (p : List Nd) : Prop := ∀ x ∈ p,x.s.size <= 100
theorem RZ {p : List Nd} (h : WO p) : z9 p := fun x hx => by have := h x hx; omega
def WL (v : D) : Prop := ∃ p : List Nd,v = oP p /\ WO p /\ (p.length <= 15 \/ (p.length <= 3001 /\ ∀ x ∈ p,x.kind = 1))
theorem KX (hb : b.length < 4611686018427387904) {n : Int} (hn : n < 16) : ∀ (k i : Nat) (c : Int × Int) (p : List Nd),(i : Int) + k = n -> zH b c -> WO p -> p.length <= i -> 0 < i -> Cj b (fun v => ∃ p : List Nd,v = oP p /\ WO p /\ p.length <= 15) (Ah n (i : Int) (b.map eB) c.1 c.2 (p.map eN))
 | 0,i,c,p,hi,hc,hp,hl,h0 => by
  rw [Cn]
  simp (disch := first | omega | (simp only [lnA,lnC,lnN,lnM,yO,wY]; omega)) only [↓xJ,yI]
  exact yQ hc ⟨p,rfl,hp,by omega⟩
 | k + 1,i,c,p,hi,hc,hp,hl,h0 => by
  rw [Cn,xK (decide_eq_true (by omega))]
  refine yP (XZ hb hc _) fun v c1 a1 ⟨x,e,hx⟩ => ?_
  subst e
  simp (disch := first | omega | (simp only [lnA,lnC,lnN,lnM,yO,wY]; omega)) only [↓wZ,xi,↓yo,↓yb,↓ye,↓yi,↓yg,↓yh,↓xu,↓yf,wS,zi (p := p) (by omega) x]
  refine KX hb hn k (i + 1) c1 (p ++ [x]) (by omega) a1 ?_ (by simp; omega) (by omega)
  intro y hy
  rcases List.mem_append.1 hy with hy | hy
  ·exact hp y hy
  ·simp at hy; subst hy; exact hx
theorem ZD (hb : b.length < 4611686018427387904) (h : zH b c) : Cj b (fun v => ∃ p : List Nd,v = oP p /\ WO p /\ p.length <= 15) (V 154 [eC b c]) := by
 rw [Mi]
 refine yP (yZ hb h _) fun v c1 a1 ⟨m,e,m0,m1⟩ => ?_
 subst e
 have := m1 (by omega)
 simp (disch := first | omega | (simp only [lnA,lnC,lnN,lnM,yO,wY]; omega)) only [↓yo,↓yb,↓ye,↓yh,↓yf]
 rw [Jb]
 refine y0 (fun h0 => ?_) fun _ => yQ a1 ⟨[],rfl,fun x hx => by simp at hx,by simp⟩
 have h0 := of_decide_eq_true h0
 refine yP (XZ hb a1 _) fun v c2 a2 ⟨x,e,hx⟩ => ?_
 subst e
 have ha : V 158 [.op [.os (5,0) []],eN x] = some (iN 0,[rP [x]]) := zi (p := []) (by simp) x
 simp (disch := first | omega | (simp only [lnA,lnC,lnN,lnM,yO,wY]; omega)) only [↓wZ,xi,↓yo,↓yb,↓ye,↓yi,↓yg,↓yh,↓xu,↓yf,Int.reduceAdd,wS,ha]
 obtain ⟨k,hk⟩ := Int.eq_ofNat_of_zero_le (show 0 <= m - 1 by omega)
 exact KX hb (by omega) k 1 c2 [x] (by simp; omega) a2 (by simpa [WO] using hx) (by simp) (by omega)
theorem ZF (hb : b.length < 4611686018427387904) (h : zH b c) {x : Nd} (hx : x.s.size <= 100) : Cj b aah (V 156 [eC b c,eN x]) := by
 rw [QR]
 refine yP (yZ hb h _) fun v c1 a1 ⟨m,e,m0,m1⟩ => ?_
 subst e
 simp (disch := first | omega | (simp only [lnA,lnC,lnN,lnM,yO,wY]; omega)) only [↓yo,↓yb,↓ye,↓yh,↓yf]
 refine y0 (fun _ => ?_) fun _ => y0 (fun _ => ?_) fun _ => y0 (fun _ => ?_) fun _ => y0 (fun _ => ?_) fun _ => y0 (fun _ => ?_) fun _ => yQ a1 ⟨x,rfl,hx⟩
 ·refine yP (yZ hb a1 _) fun v c2 a2 ⟨m2,e,_,_⟩ => ?_
  subst e
  simp (disch := first | omega | (simp only [lnA,lnC,lnN,lnM,yO,wY]; omega)) only [↓yo,↓yb,↓ye,↓yh,↓yf]
  exact yQ a2 ⟨⟨m2,x.n,x.s,x.a,x.b⟩,rfl,hx⟩
 ·refine yP (yZ hb a1 _) fun v c2 a2 ⟨m2,e,_,h2⟩ => ?_
  subst e
  have := h2 (by omega)
  simp (disch := first | omega | (simp only [lnA,lnC,lnN,lnM,yO,wY]; omega)) only [↓yo,↓yb,↓ye,↓yh,↓yf]
  exact yQ a2 ⟨⟨x.kind,x.n,x.s,w6 (m2 - 1),x.b⟩,rfl,hx⟩
 ·refine yP (yZ hb a1 _) fun v c2 a2 ⟨m2,e,_,h2⟩ => ?_
  subst e
  have := h2 (by omega)
  simp (disch := first | omega | (simp only [lnA,lnC,lnN,lnM,yO,wY]; omega)) only [↓yo,↓yb,↓ye,↓yh,↓yf]
  exact yQ a2 ⟨⟨x.kind,x.n,x.s,x.a,w6 (m2 - 1)⟩,rfl,hx⟩
 ·refine yP (FT hb a1 [-1,2,99,100,1000000000,1000000001,-1000000000,-1000000001] (by simp)) fun v c2 a2 ⟨m2,e,_⟩ => ?_
  subst e
  simp (disch := first | omega | (simp only [lnA,lnC,lnN,lnM,yO,wY]; omega)) only [↓yo,↓yb,↓ye,↓yh,↓yf]
  exact yQ a2 ⟨⟨x.kind,m2,x.s,x.a,x.b⟩,rfl,hx⟩
 ·refine yP (GJ hb a1 [⟨#[]⟩,⟨#[97]⟩,⟨#[65,98]⟩,⟨#[97,98,99,100,101,102,103,104,105,106,107,108]⟩,⟨#[97,98,99,100,101,102,103,104,105,106,107,108,109]⟩,⟨#[97,49]⟩] (by simp)) fun v c2 a2 ⟨m2,e,hm⟩ => ?_
  subst e
  simp (disch := first | omega | (simp only [lnA,lnC,lnN,lnM,yO,wY]; omega)) only [↓yo,↓yb,↓ye,↓yi,↓yh,↓yf]
  refine yQ a2 ⟨⟨x.kind,x.n,m2,x.a,x.b⟩,rfl,?_⟩
  show m2.size <= 100
  simp only [List.mem_cons,List.not_mem_nil,or_false] at hm
  rcases hm with rfl | rfl | rfl | rfl | rfl | rfl <;> decide
theorem XX (hb : b.length < 4611686018427387904) (h : zH b c) {N : Nat} (hN : N <= 3001) : ∀ (k i : Nat) (q : List Nd),i + k = N -> q.length = N -> WO q -> (∀ (j : Nat) (x : Nd),j < i -> q[j]? = some x -> x.kind = 1) -> Cj b WL (Aa (i : Int) (b.map eB) c.1 c.2 (q.map eN))
 | 0,i,q,hi,hq,hs,hk => by
  rw [GC]
  simp (disch := first | omega | (simp only [lnA,lnC,lnN,lnM,yO,wY]; omega)) only [↓xJ,yI,lnM,wY]
  refine yQ h ⟨q,rfl,hs,.inr ⟨by omega,fun x hx => ?_⟩⟩
  obtain ⟨j,hj⟩ := List.getElem?_of_mem hx
  exact hk j x (by have := aQ hj; omega) hj
 | k + 1,i,q,hi,hq,hs,hk => by
  obtain ⟨x,hx⟩ := xx (l := q) (i := i) (by omega)
  have e : (D.agg (List.take 0 [iN x.kind,iN x.n,.str x.s,iN x.a,iN x.b] ++ [iN 1] ++ List.drop 1 [iN x.kind,iN x.n,.str x.s,iN x.a,iN x.b])) = eN ⟨1,x.n,x.s,x.a,x.b⟩ := rfl
  rw [GC,xK (decide_eq_true (by rw [lnM]; simp only [ni]; omega)),yu (by rw [lnM]; exact yx (by omega)),Int.toNat_natCast,xW hx,xu,yA,yM (by omega),e,<- List.map_set]
  refine XX hb h hN k (i + 1) _ (by omega) (by simp; omega) ?_ ?_
  ·intro y hy
   rcases List.mem_or_eq_of_mem_set hy with hy | hy
   ·exact hs y hy
   ·rw [hy]; exact hs x (List.mem_of_getElem? hx)
  ·intro j y hj hy
   by_cases e : i = j
   ·subst e
    rw [List.getElem?_set_self (by omega)] at hy
    cases hy; rfl
   ·rw [List.getElem?_set_ne e] at hy
    exact hk j y (by omega) hy
theorem XW (hb : b.length < 4611686018427387904) (h : zH b c) : Cj b WL (V 90 [eC b c]) := by
 have fin : ∀ {c : Int × Int} {k : Nat},zH b c -> k < 2 -> Cj b WL (grd (decide (0 <= w6 (3000 + (k : Int))) && decide (w6 (3000 + (k : Int)) <= LIM)) (Aa 0 (b.map eB) c.1 c.2 (List.replicate (Int.toNat (w6 (3000 + (k : Int)))) (D.agg [iN 0,iN 0,D.str ⟨#[]⟩,iN 0,iN 0])))) := by
  intro c k h hk
  rw [w64 (by omega) (by omega),yu (by rw [pE]; simp only [Bool.and_eq_true,decide_eq_true_eq]; omega)]
  have e2 : (3000 + (k : Int)).toNat = 3000 + k := by omega
  have e3 : List.replicate (3000 + k) (D.agg [iN 0,iN 0,D.str ⟨#[]⟩,iN 0,iN 0]) = (List.replicate (3000 + k) (⟨0,0,⟨#[]⟩,0,0⟩ : Nd)).map eN := by rw [List.map_replicate]
  rw [e2,e3]
  refine XX hb h (N := 3000 + k) (by omega) (3000 + k) 0 _ (by omega) (by simp) ?_ (fun j x h _ => by omega)
  intro x hx
  rw [(List.mem_replicate.1 hx).2]
  exact Ge
 rw [Te]
 refine yP (ZD hb h) fun v c1 a1 ⟨p,e,hp,hl⟩ => ?_
 subst e
 simp (disch := first | omega | (simp only [lnA,lnC,lnN,lnM,yO,wY]; omega)) only [↓yo,↓yb,↓ye,↓yg,↓yh,↓xu,↓yf,↓yA]
 refine y0 (fun h0 => ?_) fun _ => ?_
 ·have h0 := of_decide_eq_true h0
  rw [lnM] at h0
  refine yP (Je hb a1 12) fun v c2 a2 ⟨o,e⟩ => ?_
  subst e
  simp (disch := first | omega | (simp only [lnA,lnC,lnN,lnM,yO,wY]; omega)) only [↓yo,↓yb,↓ye,↓xI,↓yh,↓yf]
  refine y0 (fun _ => ?_) fun _ => ?_
  ·refine yP (yZ hb a2 _) fun v c3 a3 ⟨m,e,m0,m1⟩ => ?_
   subst e
   have hm := m1 (by rw [lnM]; exact h0)
   rw [lnM] at hm
   obtain ⟨k,hk⟩ := Int.eq_ofNat_of_zero_le m0
   subst hk
   obtain ⟨x,hx⟩ := xx (l := p) (i := k) (by simp only [ni] at hm; omega)
   simp (disch := first | omega | (simp only [lnA,lnC,lnN,lnM,yO,wY]; omega)) only [↓yo,↓yb,↓ye,↓yh,↓yf]
   rw [yu (by rw [lnM]; exact yx (by simp only [ni] at hm; omega)),Int.toNat_natCast,xW hx,xu,yb,ye,yb,ye,yb,yi,yb,ye,yb,ye,yo]
   refine yP (ZF hb a3 (hp x (List.mem_of_getElem? hx))) fun v c4 a4 ⟨y,e,hy⟩ => ?_
   subst e
   simp (disch := first | omega | (simp only [lnA,lnC,lnN,lnM,yO,wY]; omega)) only [↓yo,↓yb,↓ye,↓yi,↓yh,↓xu,↓yf]
   rw [yu (by rw [lnM]; exact yx (by simp only [ni] at hm; omega)),xW hx]
   have e : List.set (p.map eN) k (D.agg [iN y.kind,iN y.n,.str y.s,iN y.a,iN y.b]) = (p.set k y).map eN := by rw [List.map_set]
   rw [e]
   refine yP (Je hb a4 60) fun v c5 a5 ⟨o,e⟩ => ?_
   subst e
   simp (disch := first | omega | (simp only [lnA,lnC,lnN,lnM,yO,wY]; omega)) only [↓yo,↓yb,↓ye,↓xI,↓yh,↓yf]
   refine y0 (fun _ => ?_) fun _ => yQ a5 ⟨p.set k y,rfl,?_,.inl (by simpa using hl)⟩
   ·refine yP (yZ hb a5 _) fun v c6 a6 ⟨m,e,m0,m1⟩ => ?_
    subst e
    have := m1 (by omega)
    obtain ⟨k,hk⟩ := Int.eq_ofNat_of_zero_le m0
    subst hk
    simp (disch := first | omega | (simp only [lnA,lnC,lnN,lnM,yO,wY]; omega)) only [↓yo,↓yb,↓ye,↓yh,↓yf]
    exact fin a6 (by omega)
   ·intro z hz
    rcases List.mem_or_eq_of_mem_set hz with hz | hz
    ·exact hp z hz
    ·rw [hz]; exact hy
  ·refine yP (Je hb a2 60) fun v c5 a5 ⟨o,e⟩ => ?_
   subst e
   simp (disch := first | omega | (simp only [lnA,lnC,lnN,lnM,yO,wY]; omega)) only [↓yo,↓yb,↓ye,↓xI,↓yh,↓yf]
   refine y0 (fun _ => ?_) fun _ => yQ a5 ⟨p,rfl,hp,.inl hl⟩
   refine yP (yZ hb a5 _) fun v c6 a6 ⟨m,e,m0,m1⟩ => ?_
   subst e
   have := m1 (by omega)
   obtain ⟨k,hk⟩ := Int.eq_ofNat_of_zero_le m0
   subst hk
   simp (disch := first | omega | (simp only [lnA,lnC,lnN,lnM,yO,wY]; omega)) only [↓yo,↓yb,↓ye,↓yh,↓yf]
   exact fin a6 (by omega)
 ·refine yP (Je hb a1 60) fun v c5 a5 ⟨o,e⟩ => ?_
  subst e
  simp (disch := first | omega | (simp only [lnA,lnC,lnN,lnM,yO,wY]; omega)) only [↓yo,↓yb,↓ye,↓xI,↓yh,↓yf]
  refine y0 (fun _ => ?_) fun _ => yQ a5 ⟨p,rfl,hp,.inl hl⟩
  refine yP (yZ hb a5 _) fun v c6 a6 ⟨m,e,m0,m1⟩ => ?_
  subst e
  have := m1 (by omega)
  obtain ⟨k,hk⟩ := Int.eq_ofNat_of_zero_le m0
  subst hk
  simp (disch := first | omega | (simp only [lnA,lnC,lnN,lnM,yO,wY]; omega)) only [↓yo,↓yb,↓ye,↓yh,↓yf]
  exact fin a6 (by omega)
theorem XT (hb : b.length < 4611686018427387904) (h : zH b c) {p : List Nd} (hp : p.length <= 4000) : Cj b (fun v => ∃ m : Int,v = iN m /\ -1 <= m /\ m <= 4000) (V 91 [eC b c,eP p]) := by
 have pk : ∀ {c : Int × Int},zH b c -> Cj b (fun v => ∃ m : Int,v = iN m /\ m ∈ [-1,0,(p.length : Int)]) (V 122 [eC b c,.rs (1,0) [iN (-1),iN 0,iN (p.length : Int)]]) := fun h => FT hb h [-1,0,(p.length : Int)] (by simp)
 have fin : ∀ {m : Int},m ∈ [-1,0,(p.length : Int)] -> -1 <= m /\ m <= 4000 := by
  intro m hm
  simp only [List.mem_cons,List.not_mem_nil,or_false] at hm
  omega
 rw [Pz,lnM]
 refine y0 (fun _ => ?_) fun h0 => ?_
 ·refine yP (pk h) fun v c1 a1 ⟨m,e,hm⟩ => ?_
  subst e
  simp (disch := first | omega | (simp only [lnA,lnC,lnN,lnM,yO,wY]; omega)) only [↓yo,↓yb,↓ye,↓yh,↓yf]
  exact yQ a1 ⟨m,rfl,fin hm⟩
 refine yP (Je hb h 20) fun v c1 a1 ⟨o,e⟩ => ?_
 subst e
 simp (disch := first | omega | (simp only [lnA,lnC,lnN,lnM,yO,wY]; omega)) only [↓yo,↓yb,↓ye,↓xI,↓yh,↓yf]
 refine y0 (fun _ => ?_) fun _ => ?_
 ·refine yP (pk a1) fun v c1 a1 ⟨m,e,hm⟩ => ?_
  subst e
  simp (disch := first | omega | (simp only [lnA,lnC,lnN,lnM,yO,wY]; omega)) only [↓yo,↓yb,↓ye,↓yh,↓yf]
  exact yQ a1 ⟨m,rfl,fin hm⟩
 refine Mq (M9 _ _) ?_
 simp (disch := first | omega | (simp only [lnA,lnC,lnN,lnM,yO,wY]; omega)) only [↓yo,↓ye]
 refine yP (yZ hb a1 _) fun v c2 a2 ⟨m,e,m0,m1⟩ => ?_
 subst e
 simp (disch := first | omega | (simp only [lnA,lnC,lnN,lnM,yO,wY]; omega)) only [↓yo,↓yb,↓ye,↓yh,↓yf]
 have hne : p.length ≠ 0 := by
  intro e
  rw [e] at h0
  exact absurd h0 (by decide)
 have hmn : m < mnI (ni p.length) 9 := m1 (by unfold mnI; simp only [ni]; split <;> omega)
 have hm9 : m < p.length /\ m < 9 := by
  unfold mnI at hmn
  simp only [ni] at hmn
  split at hmn <;> omega
 rw [w64 (n := ni p.length - 1) (by simp only [ni]; omega) (by simp only [ni]; omega),w64 (by simp only [ni]; omega) (by simp only [ni]; omega)]
 exact yQ a2 ⟨_,rfl,by simp only [ni]; omega,by simp only [ni]; omega⟩
end
theorem VY {p : List Nd} (h : p.length <= 15 \/ (p.length <= 3001 /\ ∀ x ∈ p,x.kind = 1)) : p.length <= 3001 := by omega
end
end Go.Eng
/-! draws of programs: their texts -/
namespace Go.Eng
noncomputable section
open Go.Proofs Go.Proofs.Tryz
set_option maxHeartbeats 4000000
set_option maxRecDepth 10000

theorem zo (a b : ByteArray) : (a ++ b).size = a.size + b.size := ByteArray.size_append
theorem BI (a : Array UInt8) : ByteArray.size ⟨a⟩ = a.size := rfl
def Hd (s : ByteArray) : Prop := ∃ (x : UInt8) (r : List UInt8),s.data.toList = x :: r /\ x ≠ 32
theorem JV {a : ByteArray} (h : Hd a) (b : ByteArray) : Hd (a ++ b) := by
 obtain ⟨x,r,h1,h2⟩ := h
 exact ⟨x,r ++ b.data.toList,by simp [h1],h2⟩
theorem Gc (x : UInt8) (r : List UInt8) (h : x ≠ 32) : Hd ⟨(x :: r).toArray⟩ := ⟨x,r,by simp,h⟩
def Zk (n : Nat) (v : D) : Prop := ∃ s : ByteArray,v = .str s /\ s.size <= n /\ Hd s
def SzE : Nat -> Nat
 | 0 => 9
 | d + 1 => 3 * SzE d + 30
section
variable {b : List Int}
theorem abf (hb : b.length < 4611686018427387904) {c : Int × Int} (h : zH b c) : Cj b (Zk 9) (V 75 [eC b c,.rs (1,0) [(.str ({ data := #[49] })),(.str ({ data := #[120] })),(.str ({ data := #[121] })),(.str ({ data := #[45,50] })),(.str ({ data := #[35,116] })),(.str ({ data := #[40,41] })),(.str ({ data := #[102] })),(.str ({ data := #[40,113,117,111,116,101,32,97,41] })),(.str ({ data := #[48] }))]]) := by
 refine Nq (GJ hb h [⟨#[49]⟩,⟨#[120]⟩,⟨#[121]⟩,⟨#[45,50]⟩,⟨#[35,116]⟩,⟨#[40,41]⟩,⟨#[102]⟩,⟨#[40,113,117,111,116,101,32,97,41]⟩,⟨#[48]⟩] (by simp)) ?_
 rintro v ⟨m,rfl,hm⟩
 refine ⟨m,rfl,?_⟩
 simp only [List.mem_cons,List.not_mem_nil,or_false] at hm
 rcases hm with rfl | rfl | rfl | rfl | rfl | rfl | rfl | rfl | rfl <;> exact ⟨by decide,Gc _ _ (by decide)⟩
theorem abg (hb : b.length < 4611686018427387904) {c : Int × Int} (h : zH b c) : Cj b (Zk 4) (V 75 [eC b c,.rs (1,0) [(.str ({ data := #[43] })),(.str ({ data := #[45] })),(.str ({ data := #[42] })),(.str ({ data := #[60] })),(.str ({ data := #[61] })),(.str ({ data := #[99,111,110,115] })),(.str ({ data := #[101,113,63] }))]]) := by
 refine Nq (GJ hb h [⟨#[43]⟩,⟨#[45]⟩,⟨#[42]⟩,⟨#[60]⟩,⟨#[61]⟩,⟨#[99,111,110,115]⟩,⟨#[101,113,63]⟩] (by simp)) ?_
 rintro v ⟨m,rfl,hm⟩
 refine ⟨m,rfl,?_⟩
 simp only [List.mem_cons,List.not_mem_nil,or_false] at hm
 rcases hm with rfl | rfl | rfl | rfl | rfl | rfl | rfl <;> exact ⟨by decide,Gc _ _ (by decide)⟩
theorem abh (hb : b.length < 4611686018427387904) {c : Int × Int} (h : zH b c) : Cj b (Zk 6) (V 75 [eC b c,.rs (1,0) [(.str ({ data := #[99,97,114] })),(.str ({ data := #[99,100,114] })),(.str ({ data := #[110,117,108,108,63] })),(.str ({ data := #[112,97,105,114,63] })),(.str ({ data := #[110,111,116] })),(.str ({ data := #[99,97,108,108,99,99] }))]]) := by
 refine Nq (GJ hb h [⟨#[99,97,114]⟩,⟨#[99,100,114]⟩,⟨#[110,117,108,108,63]⟩,⟨#[112,97,105,114,63]⟩,⟨#[110,111,116]⟩,⟨#[99,97,108,108,99,99]⟩] (by simp)) ?_
 rintro v ⟨m,rfl,hm⟩
 refine ⟨m,rfl,?_⟩
 simp only [List.mem_cons,List.not_mem_nil,or_false] at hm
 rcases hm with rfl | rfl | rfl | rfl | rfl | rfl <;> exact ⟨by decide,Gc _ _ (by decide)⟩
theorem aaS : ∀ d,d <= 3 -> SzE d <= 633 := by decide
theorem aaL : ∀ d,9 <= SzE d
 | 0 => Nat.le_refl _
 | d + 1 => by have := aaL d; unfold SzE; omega
theorem Zn : ∀ d,SzE (d - 1) <= SzE d
 | 0 => Nat.le_refl _
 | d + 1 => by simp only [Nat.add_sub_cancel]; rw [show SzE (d + 1) = 3 * SzE d + 30 from rfl]; omega
theorem Sw (hb : b.length < 4611686018427387904) : ∀ (k : Nat) (n : Int),n <= k -> -5 <= n -> k <= 3 -> ∀ c,zH b c -> Cj b (Zk (SzE n.toNat)) (V 214 [eC b c,iN n])
 | k,n,hk,hn,h3,c,hc => by
  rw [NF]
  by_cases h0 : n <= 0
  ·rw [xK (decide_eq_true h0)]
   refine yP (abf hb hc) fun v c1 a1 ⟨s,e,hs,hh⟩ => ?_
   subst e
   simp (disch := first | omega | (simp only [lnA,lnC,lnN,lnM,yO,wY]; omega)) only [↓yo,↓yb,↓ye,↓yi,↓yh,↓yf]
   exact yQ a1 ⟨s,rfl,by have := aaL n.toNat; omega,hh⟩
  ·rw [xb (decide_eq_false h0)]
   obtain ⟨k,rfl⟩ : ∃ j,k = j + 1 := ⟨k - 1,by omega⟩
   have w1 : w6 (n - 1) = n - 1 := w64 (by omega) (by omega)
   have w2 : w6 (n - 2) = n - 2 := w64 (by omega) (by omega)
   obtain ⟨d,hd⟩ : ∃ d,n.toNat = d + 1 := ⟨n.toNat - 1,by omega⟩
   have e1 : (n - 1).toNat = d := by omega
   have e2 : (n - 2).toNat = d - 1 := by omega
   have hz : SzE n.toNat = 3 * SzE d + 30 := by rw [hd]; rfl
   have hp := Zn d
   have hm := aaS d (by omega)
   have i1 := fun c a => Sw hb k (n - 1) (by omega) (by omega) (by omega) c a
   have i2 := fun c a => Sw hb k (n - 2) (by omega) (by omega) (by omega) c a
   rw [e1] at i1
   rw [e2] at i2
   rw [w1,w2,hz]
   refine yP (i1 c hc) fun v c1 a1 ⟨s,e,hs,hh⟩ => ?_
   subst e
   simp (disch := first | omega | (simp only [lnA,lnC,lnN,lnM,yO,wY]; omega)) only [↓yo,↓yb,↓ye,↓yi,↓yh,↓yf]
   refine yP (i1 c1 a1) fun v c2 a2 ⟨t,e,ht,hh2⟩ => ?_
   subst e
   simp (disch := first | omega | (simp only [lnA,lnC,lnN,lnM,yO,wY]; omega)) only [↓yo,↓yb,↓ye,↓yi,↓yh,↓yf]
   refine yP (yZ hb a2 _) fun v c3 a3 ⟨m,e,m0,m1⟩ => ?_
   subst e
   simp (disch := first | omega | (simp only [lnA,lnC,lnN,lnM,yO,wY]; omega)) only [↓yo,↓yb,↓ye,↓yh,↓yf]
   refine y0 (fun _ => ?_) fun _ => y0 (fun _ => ?_) fun _ => y0 (fun _ => ?_) fun _ => y0 (fun _ => ?_) fun _ => y0 (fun _ => ?_) fun _ => y0 (fun _ => ?_) fun _ => y0 (fun _ => ?_) fun _ => y0 (fun _ => ?_) fun _ => ?_
   ·repeat refine AW (decide_eq_true (by rw [pE]; simp only [ni,zo,BI,List.size_toArray,lnC,lnN]; omega)) ?_
    refine yP (i2 c3 a3) fun v c4 a4 ⟨u,e,hu,hh3⟩ => ?_
    subst e
    simp (disch := first | omega | (simp only [lnA,lnC,lnN,lnM,yO,wY]; omega)) only [↓yo,↓yb,↓ye,↓yi,↓yh,↓yf]
    repeat refine AW (decide_eq_true (by rw [pE]; simp only [ni,zo,BI,List.size_toArray,lnC,lnN]; omega)) ?_
    exact yQ a4 ⟨_,rfl,by simp only [zo,BI,List.size_toArray,lnC,lnN]; omega,by repeat (first | exact Gc _ _ (by decide) | refine JV ?_ _)⟩
   ·repeat refine AW (decide_eq_true (by rw [pE]; simp only [ni,zo,BI,List.size_toArray,lnC,lnN]; omega)) ?_
    exact yQ a3 ⟨_,rfl,by simp only [zo,BI,List.size_toArray,lnC,lnN]; omega,by repeat (first | exact Gc _ _ (by decide) | refine JV ?_ _)⟩
   ·repeat refine AW (decide_eq_true (by rw [pE]; simp only [ni,zo,BI,List.size_toArray,lnC,lnN]; omega)) ?_
    exact yQ a3 ⟨_,rfl,by simp only [zo,BI,List.size_toArray,lnC,lnN]; omega,by repeat (first | exact Gc _ _ (by decide) | refine JV ?_ _)⟩
   ·repeat refine AW (decide_eq_true (by rw [pE]; simp only [ni,zo,BI,List.size_toArray,lnC,lnN]; omega)) ?_
    exact yQ a3 ⟨_,rfl,by simp only [zo,BI,List.size_toArray,lnC,lnN]; omega,by repeat (first | exact Gc _ _ (by decide) | refine JV ?_ _)⟩
   ·repeat refine AW (decide_eq_true (by rw [pE]; simp only [ni,zo,BI,List.size_toArray,lnC,lnN]; omega)) ?_
    exact yQ a3 ⟨_,rfl,by simp only [zo,BI,List.size_toArray,lnC,lnN]; omega,by repeat (first | exact Gc _ _ (by decide) | refine JV ?_ _)⟩
   ·repeat refine AW (decide_eq_true (by rw [pE]; simp only [ni,zo,BI,List.size_toArray,lnC,lnN]; omega)) ?_
    exact yQ a3 ⟨_,rfl,by simp only [zo,BI,List.size_toArray,lnC,lnN]; omega,by repeat (first | exact Gc _ _ (by decide) | refine JV ?_ _)⟩
   ·refine yP (abg hb a3) fun v c4 a4 ⟨u,e,hu,hh3⟩ => ?_
    subst e
    simp (disch := first | omega | (simp only [lnA,lnC,lnN,lnM,yO,wY]; omega)) only [↓yo,↓yb,↓ye,↓yi,↓yh,↓yf]
    repeat refine AW (decide_eq_true (by rw [pE]; simp only [ni,zo,BI,List.size_toArray,lnC,lnN]; omega)) ?_
    exact yQ a4 ⟨_,rfl,by simp only [zo,BI,List.size_toArray,lnC,lnN]; omega,by repeat (first | exact Gc _ _ (by decide) | refine JV ?_ _)⟩
   ·refine yP (abh hb a3) fun v c4 a4 ⟨u,e,hu,hh3⟩ => ?_
    subst e
    simp (disch := first | omega | (simp only [lnA,lnC,lnN,lnM,yO,wY]; omega)) only [↓yo,↓yb,↓ye,↓yi,↓yh,↓yf]
    repeat refine AW (decide_eq_true (by rw [pE]; simp only [ni,zo,BI,List.size_toArray,lnC,lnN]; omega)) ?_
    exact yQ a4 ⟨_,rfl,by simp only [zo,BI,List.size_toArray,lnC,lnN]; omega,by repeat (first | exact Gc _ _ (by decide) | refine JV ?_ _)⟩
   ·exact yQ a3 ⟨s,rfl,by omega,hh⟩
def texts : List ByteArray := [(⟨#[40,100,101,102,105,110,101,32,40,102,32,110,41,32,40,105,102,32,40,60,32,110,32,50,41,32,110,32,40,43,32,40,102,32,40,45,32,110,32,49,41,41,32,40,102,32,40,45,32,110,32,50,41,41,41,41,41,32,40,102,32,54,41]⟩ : ByteArray),(⟨List.toArray (List.append [40,100,101,102,105,110,101,32,40,117,112,32,110,41,32,40,105,102,32,40,60,32,110,32,51,41,32,40,100,111,32,40] [112,114,105,110,116,32,110,41,32,40,117,112,32,40,43,32,110,32,49,41,41,41,32,110,41,41,32,40,117,112,32,48,41])⟩ : ByteArray),(⟨#[40,108,101,116,32,120,32,53,32,40,108,101,116,32,102,32,40,102,110,32,40,121,41,32,40,43,32,120,32,121,41,41,32,40,112,114,105,110,116,32,40,102,32,52,41,41,41,41]⟩ : ByteArray),(⟨#[40,112,114,105,110,116,32,40,99,97,108,108,99,99,32,40,102,110,32,40,107,41,32,40,100,111,32,40,107,32,55,41,32,56,41,41,41,41]⟩ : ByteArray),(⟨List.toArray (List.append [40,100,101,102,105,110,101,32,40,109,97,112,32,102,32,108,41,32,40,105,102,32,40,110,117,108,108,63,32,108,41,32,40,41,32,40,99,111,110,115,32,40,102,32,40,99,97,114,32,108,41,41,32,40,109,97,112,32,102] [32,40,99,100,114,32,108,41,41,41,41,41,32,40,112,114,105,110,116,32,40,109,97,112,32,40,102,110,32,40,120,41,32,40,42,32,120,32,120,41,41,32,40,113,117,111,116,101,32,40,49,32,50,32,51,41,41,41,41])⟩ : ByteArray),(⟨#[40,100,111,32,40,115,112,97,119,110,32,40,102,110,32,40,41,32,40,100,111,32,40,112,114,105,110,116,32,49,41,32,40,112,114,105,110,116,32,50,41,41,41,41,32,40,112,114,105,110,116,32,51,41,41]⟩ : ByteArray),(⟨List.toArray (List.append [40,108,101,116,32,112,32,40,115,112,97,119,110,32,40,102,110,32,40,41,32,40,112,114,105,110,116,32,40,114,101,99,118,41] [41,41,41,32,40,100,111,32,40,115,101,110,100,32,112,32,40,113,117,111,116,101,32,40,97,32,98,41,41,41,32,48,41,41])⟩ : ByteArray),(⟨List.toArray (List.append [40,108,101,116,32,112,32,40,115,112,97,119,110,32,40,102,110,32,40,41,32,40,108,101,116,32,102,32,40,114,101,99,118,41,32,40,112,114,105,110,116,32,40,102] [32,53,41,41,41,41,41,32,40,108,101,116,32,122,32,57,32,40,115,101,110,100,32,112,32,40,102,110,32,40,120,41,32,40,43,32,120,32,122,41,41,41,41,41])⟩ : ByteArray),(⟨#[40,100,111,32,40,112,114,105,110,116,32,49,41,32,40,103,111,32,49,41,32,40,112,114,105,110,116,32,50,41,32,40,103,111,32,48,41,32,40,112,114,105,110,116,32,51,41,41]⟩ : ByteArray),(⟨List.toArray (List.append [40,108,101,116,32,109,101,32,40,115,101,108,102,41,32,40,100,111,32,40,115,112,97,119,110,32,40,102,110,32,40,41,32,40,100,111,32,40] [103,111,32,49,41,32,40,115,101,110,100,32,109,101,32,52,50,41,41,41,41,32,40,112,114,105,110,116,32,40,114,101,99,118,41,41,41,41])⟩ : ByteArray),(⟨List.toArray (List.append [40,100,101,102,105,110,101,32,40,108,111,111,112,32,110,41,32,40,105,102,32,40,61,32,110,32,48,41,32,40,112,114,105,110,116,32,40] [113,117,111,116,101,32,101,110,100,41,41,32,40,108,111,111,112,32,40,45,32,110,32,49,41,41,41,41,32,40,108,111,111,112,32,57,41])⟩ : ByteArray),(⟨#[40,112,114,105,110,116,32,40,99,97,114,32,40,113,117,111,116,101,32,40,41,41,41,41]⟩ : ByteArray),(⟨#[40,112,114,105,110,116,32,40,102,32,49,41,41]⟩ : ByteArray),(⟨#[40,43,32,49,32,35,116,41]⟩ : ByteArray),(⟨#[40,112,114,105,110,116,32,40,99,111,110,115,32,49,32,40,99,111,110,115,32,50,32,40,41,41,41,41]⟩ : ByteArray),(⟨List.toArray (List.append (List.append [40,100,101,102,105,110,101,32,40,112,105,110,103,32,112,32,110,41,32,40,105,102,32,40,60,32,110,32,49,41,32,48,32,40,100,111,32,40,115,101,110,100,32,112,32] [110,41,32,40,112,114,105,110,116,32,40,114,101,99,118,41,41,32,40,112,105,110,103,32,112,32,40,45,32,110,32,49,41,41,41,41,41,32,40,108,101,116,32,109,101,32]) (List.append [40,115,101,108,102,41,32,40,112,105,110,103,32,40,115,112,97,119,110,32,40,102,110,32,40,41,32,40,100,111,32,40,103,111,32,49,41,32,40,115,101,110,100,32,109,101] [32,40,43,32,49,48,32,40,114,101,99,118,41,41,41,32,40,115,101,110,100,32,109,101,32,40,43,32,49,48,32,40,114,101,99,118,41,41,41,41,41,41,32,50,41,41]))⟩ : ByteArray),(⟨List.toArray (List.append [40,108,101,116,32,107,32,40,99,97,108,108,99,99,32,40,102,110,32,40,99,41,32,99,41,41,32,40,105,102,32,40,112,97,105,114,63] [32,107,41,32,40,112,114,105,110,116,32,40,99,97,114,32,107,41,41,32,40,107,32,40,113,117,111,116,101,32,40,53,41,41,41,41,41])⟩ : ByteArray),(⟨List.toArray (List.append [40,108,101,116,32,112,32,40,115,112,97,119,110,32,40,102,110,32,40,41,32,40,100,111,32,40,103,111,32,49,41,32,40,108,101,116,32,107,32,40,114,101,99,118,41,32,40,107,32,56] [41,41,41,41,41,32,40,112,114,105,110,116,32,40,99,97,108,108,99,99,32,40,102,110,32,40,107,41,32,40,100,111,32,40,115,101,110,100,32,112,32,107,41,32,51,41,41,41,41,41])⟩ : ByteArray)]
theorem ZY : ∀ s ∈ texts,s.size <= 633 /\ Hd s := by
 intro s hs
 simp only [texts,List.mem_cons,List.not_mem_nil,or_false] at hs
 rcases hs with rfl | rfl | rfl | rfl | rfl | rfl | rfl | rfl | rfl | rfl | rfl | rfl | rfl | rfl | rfl | rfl | rfl | rfl <;> exact ⟨by decide,⟨40,_,rfl,by decide⟩⟩
theorem aap (hb : b.length < 4611686018427387904) {c : Int × Int} (h : zH b c) : Cj b (Zk 633) (V 192 [eC b c]) := by
 have ht : V 213 [] = some (.os (1,0) (texts.map D.str),[]) := QW
 rw [KT]
 refine yP (Je hb h 4) fun v c1 a1 ⟨o,e⟩ => ?_
 subst e
 simp (disch := first | omega | (simp only [lnA,lnC,lnN,lnM,yO,wY]; omega)) only [↓yo,↓yb,↓ye,↓xI,↓yh,↓yf]
 refine y0 (fun _ => ?_) fun _ => ?_
 ·refine Mq ht ?_
  simp (disch := first | omega | (simp only [lnA,lnC,lnN,lnM,yO,wY]; omega)) only [↓yo,↓yg]
  refine yP (GJ hb a1 texts (by decide)) fun v c2 a2 ⟨m,e,hm⟩ => ?_
  subst e
  simp (disch := first | omega | (simp only [lnA,lnC,lnN,lnM,yO,wY]; omega)) only [↓yo,↓yb,↓ye,↓yi,↓yh,↓yf]
  exact yQ a2 ⟨m,rfl,ZY m hm⟩
 ·refine yP (Sw hb 3 3 (by omega) (by omega) (by omega) c1 a1) fun v c2 a2 ⟨m,e,hm⟩ => ?_
  subst e
  simp (disch := first | omega | (simp only [lnA,lnC,lnN,lnM,yO,wY]; omega)) only [↓yo,↓yb,↓ye,↓yi,↓yh,↓yf]
  exact yQ a2 ⟨m,rfl,hm⟩
end
end
end Go.Eng
