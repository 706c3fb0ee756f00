/- the program and the reference on plain data, part 4 -/
import Derived.Test.YtkndfhaehnfnmaaGreatPart3
import Derived.Test.YtkndfhaehnfnmaaGreatEngC
/-! reading a text,on both sides -/
namespace Go.Eng
noncomputable section
open Go.Proofs Go.Proofs.Tryz
set_option maxHeartbeats 4000000

def AI : List Int -> List Nd -> Nat -> List Nd × Nat
 | [],q,c => (q,c)
 | x :: r,q,c => AI r (q ++ [⟨5,0,⟨#[]⟩,x,(c : Int)⟩]) q.length
def yV (q : List Nd) (row : List Int) : List Nd × Nat := AI row.reverse (q ++ [⟨1,0,⟨#[]⟩,0,0⟩]) q.length
theorem ML : ∀ (r : List Int) (q : List Nd) (c : Nat),(AI r q c).1.length = q.length + r.length
 | [],q,c => rfl
 | x :: r,q,c => by rw [AI,ML r]; simp only [lnA,lnC,lnN]; omega
theorem DC (q : List Nd) (row : List Int) : (yV q row).1.length = q.length + row.length + 1 := by
 rw [yV,ML]; simp only [lnA,lnC,lnN,List.length_reverse]; omega
theorem Ge {q : List Nd} (h : Ac q) {x : Nd} (hx : x.s.size < 4611686018427387904) : Ac (q ++ [x]) := by
 intro y hy
 rcases List.mem_append.1 hy with h1 | h1
 ·exact h y h1
 ·rw [List.mem_singleton.1 h1]; exact hx
theorem KW : ∀ (r : List Int) (q : List Nd) (c : Nat),Ac q -> Ac (AI r q c).1
 | [],q,c,h => h
 | x :: r,q,c,h => KW r _ _ (Ge h (x := ⟨5,0,⟨#[]⟩,x,(c : Int)⟩) (by show (0 : Nat) < _; omega))
theorem MQ {q : List Nd} (h : Ac q) (row : List Int) : Ac (yV q row).1 := KW _ _ _ (Ge h (x := ⟨1,0,⟨#[]⟩,0,0⟩) (by show (0 : Nat) < _; omega))
theorem Wh {row : List Int} {k : Nat} {x : Int} (hx : row[k]? = some x) : (row.take (k + 1)).reverse = x :: (row.take k).reverse := by
 rw [List.take_add_one,hx]; simp
theorem XE {q : List Nd} (h : q.length < 4294967296) (a b : Int) : V 94 [rP q,iN a,iN b] = some (iN q.length,[rP (q ++ [⟨5,0,⟨#[]⟩,a,b⟩])]) := by
 have := SG h ⟨5,0,⟨#[]⟩,a,b⟩
 rw [Lt,CY this]
theorem NA {row : List Int} (hr : row.length < 4294967296) : ∀ (k : Nat) (q : List Nd) (c : Nat),k <= row.length -> q.length + k < 4294967296 ->
  BZ (row.map eI) (c : Int) ((k : Int) - 1) (q.map eN) = some (iN (AI (row.take k).reverse q c).2,[rP (AI (row.take k).reverse q c).1])
 | 0,q,c,_,_ => by rw [EO,xb (decide_eq_false (by omega))]; rfl
 | k + 1,q,c,hk,hq => by
  obtain ⟨x,hx⟩ := xx (l := row) (i := k) (by omega)
  have hp := y7 (p := q) (by omega) ⟨5,0,⟨#[]⟩,x,(c : Int)⟩
  have ih := NA hr k (q ++ [⟨5,0,⟨#[]⟩,x,(c : Int)⟩]) q.length (by omega) (by simp only [lnA,lnC,lnN]; omega)
  have e : ((k + 1 : Nat) : Int) - 1 = (k : Int) := by omega
  rw [EO,e,xK (decide_eq_true (by omega)),yu (by rw [lnM]; exact yx (by omega)),Int.toNat_natCast,xW hx,ye,yU hp,w64 (by omega) (by omega),ih,Wh hx,AI]
theorem Iv {q : List Nd} {row : List Int} (h : q.length + row.length < 4294967290) : V 210 [rP q,.rs (1,0) (row.map eI)] = some (iN (yV q row).2,[rP (yV q row).1]) := by
 have ha := y7 (p := q) (by omega) ⟨1,0,⟨#[]⟩,0,0⟩
 have hl := NA (row := row) (by omega) row.length (q ++ [⟨1,0,⟨#[]⟩,0,0⟩]) q.length (Nat.le_refl _) (by simp only [lnA,lnC,lnN]; omega)
 rw [List.take_length] at hl
 rw [Qc,yU ha,lnM,w64 (by simp only [ni]; omega) (by simp only [ni]; omega)]
 exact hl
abbrev RwF := Int × List Int
inductive RdR where
 | err (c a : Int)
 | ok (q : List Nd) (row : List Int)
def Dc (l : List UInt8) (j : Nat) : Nat := j + ((l.drop j).takeWhile GG).length
def UK (l : List UInt8) (G : Nat -> List RwF -> RwF -> List Nd -> RdR) (i : Nat) (o : List RwF) (t : RwF) (q : List Nd) : Option UInt8 -> RdR
 | none => if o = [] then .ok q t.2 else .err 4 t.1
 | some x =>
   if x = 32 then G (i + 1) o t q
   else if x = 40 then G (i + 1) (t :: o) ((i : Int),[]) q
   else if x = 41 then match o with
    | [] => .err 5 (i : Int)
    | u :: o => G (i + 1) o (u.1,u.2 ++ [((yV q t.2).2 : Int)]) (yV q t.2).1
   else if GG x = true then match Dr ((l.drop i).take (Dc l i - i)) with
    | none => .err 3 (i : Int)
    | some nd => G (Dc l i) o (t.1,t.2 ++ [(q.length : Int)]) (q ++ [nd])
   else .err 2 (i : Int)
def Ba (l : List UInt8) : Nat -> Nat -> List RwF -> RwF -> List Nd -> RdR
 | 0,_,_,_,_ => .err 1 0
 | k + 1,i,o,t,q => UK l (Ba l k) i o t q l[i]?
theorem J6 (l : List UInt8) (G : Nat -> List RwF -> RwF -> List Nd -> RdR) (i : Nat) (o : List RwF) (t : RwF) (q : List Nd) : UK l G i o t q none = if o = [] then .ok q t.2 else .err 4 t.1 := rfl
theorem IG (l : List UInt8) (G : Nat -> List RwF -> RwF -> List Nd -> RdR) (i : Nat) (o : List RwF) (t : RwF) (q : List Nd) (x : UInt8) : UK l G i o t q (some x) = (if x = 32 then G (i + 1) o t q
   else if x = 40 then G (i + 1) (t :: o) ((i : Int),[]) q
   else if x = 41 then match o with
    | [] => .err 5 (i : Int)
    | u :: o => G (i + 1) o (u.1,u.2 ++ [((yV q t.2).2 : Int)]) (yV q t.2).1
   else if GG x = true then match Dr ((l.drop i).take (Dc l i - i)) with
    | none => .err 3 (i : Int)
    | some nd => G (Dc l i) o (t.1,t.2 ++ [(q.length : Int)]) (q ++ [nd])
   else .err 2 (i : Int)) := rfl
theorem Gh (l : List UInt8) (k i : Nat) (o : List RwF) (t : RwF) (q : List Nd) : Ba l (k + 1) i o t q = UK l (Ba l k) i o t q l[i]? := rfl
theorem Iz {l : List UInt8} {j : Nat} {x : UInt8} (hx : l[j]? = some x) (h : GG x = true) : Dc l j = Dc l (j + 1) := by
 unfold Dc; rw [tU hx,List.takeWhile_cons,if_pos h]; simp only [lnC]; omega
theorem Pu {l : List UInt8} {j : Nat} {x : UInt8} (hx : l[j]? = some x) (h : GG x = false) : Dc l j = j := by
 unfold Dc; rw [tU hx,List.takeWhile_cons,if_neg (by rw [h]; simp)]; rfl
theorem SU {l : List UInt8} {j : Nat} (h : l.length <= j) : Dc l j = j := by
 unfold Dc; rw [List.drop_of_length_le h]; rfl
theorem QV {l : List UInt8} {j : Nat} (h : j <= l.length) : j <= Dc l j /\ Dc l j <= l.length := by
 unfold Dc
 have := (List.takeWhile_sublist (p := GG) (l := l.drop j)).length_le
 rw [List.length_drop] at this
 omega
def phi (o : List RwF) (t : RwF) (q : List Nd) : Nat := q.length + t.2.length + (o.map fun x => x.2.length).sum
theorem Jz {l : List UInt8} {x : Nd} (h : Dr l = some x) : x.s.size <= l.length := by
 unfold Dr UG at h
 split at h
 ·cases h; exact Nat.zero_le _
 split at h
 ·cases h; exact Nat.zero_le _
 split at h
 ·cases h; exact Nat.zero_le _
 split at h
 ·cases h; exact Nat.le_of_eq (yO _)
 ·cases h
theorem Ar {A B : List D} {x : D} (K : D -> Option Ret) : cT (A ++ x :: B) A.length K = K x := by simp [cT]
theorem AU {A B : List D} {x v : D} : (A ++ x :: B).set A.length v = A ++ v :: B := by simp
theorem RL {l : List D} (h : l.length <= 4294967296) : decide (ni l.length <= LIM) = true := decide_eq_true (by rw [pE]; simp only [ni]; omega)
theorem Dg {x : UInt8} (c : UInt8) (n : Int) (hn : (c.toNat : Int) = n) (h : ¬ x = c) : ((x.toNat : Int) == n) = false := by
 subst hn
 simp only [beq_eq_false_iff_ne,ne_eq]
 intro e
 exact h (UInt8.toNat_inj.1 (by omega))
end
end Go.Eng
/-! a step of a machine,plain -/
namespace Go.Eng
noncomputable section

abbrev ndN : Nd := ⟨1,0,⟨#[]⟩,0,0⟩
abbrev ndI (n : Int) : Nd := ⟨3,n,⟨#[]⟩,0,0⟩
abbrev ndP (a b : Int) : Nd := ⟨5,0,⟨#[]⟩,a,b⟩
abbrev ndF (n a : Int) : Nd := ⟨6,n,⟨#[]⟩,a,0⟩
abbrev ndK (a : Int) : Nd := ⟨7,0,⟨#[]⟩,a,0⟩
abbrev ndR (n : Int) : Nd := ⟨8,n,⟨#[]⟩,0,0⟩
def ndB (b : Bool) : Nd := match b with | true => ⟨2,1,⟨#[]⟩,0,0⟩ | false => ⟨2,0,⟨#[]⟩,0,0⟩
def nod (p : List Nd) (v : Int) : Nd := p.getD v.toNat ndN
abbrev InP (p : List Nd) (v : Int) : Prop := 0 <= v /\ v < (p.length : Int)

def prNames : List (List UInt8) := [[43],[45],[42],[60],[61],[99,111,110,115],[99,97,114],[99,100,114],[110,117,108,108,63],[112,97,105,114,63],[101,113,63],[110,111,116],[112,114,105,110,116],[115,101,108,102],[115,101,110,100],[114,101,99,118],[115,112,97,119,110],[99,97,108,108,99,99],[103,111]]
def D5 (s : ByteArray) : Int := ya (fun x => kc s (mk x)) prNames + 1
def prArgs : List Int := [2,2,2,2,2,2,1,1,1,1,2,1,1,0,2,0,1,1,1]
def zl (n : Int) : Int := if wi n 1 19 = true then prArgs.getD (n - 1).toNat 0 else -1

def De (out : List Int) (x : Nd) : Nd :=
 if x.kind = 5 then ⟨x.kind,x.n,x.s,out.getD x.a.toNat 0,out.getD x.b.toNat 0⟩
 else if x.kind = 6 \/ x.kind = 7 then ⟨x.kind,x.n,x.s,out.getD x.a.toNat 0,x.b⟩ else x
def RQ (x y : Nd) : Bool := (x.kind == y.kind) && ((x.n == y.n) && (kc x.s y.s && ((x.a == y.a) && (x.b == y.b))))
def Th : List Nd -> List Int -> List Nd -> List Int × List Nd
 | [],out,keys => (out,keys)
 | x :: r,out,keys => Th r (out ++ [match keys.findIdx? (fun y => RQ y (De out x)) with | some k => (k : Int) | none => (out.length : Int)]) (keys ++ [De out x])
def VH (p : List Nd) : List Int := (Th p [] []).1
def Xk (p : List Nd) (a b : Int) : Bool := (VH p).getD a.toNat 0 == (VH p).getD b.toNat 0

def J4 (p : List Nd) (n : Int) (l : List Int) : Except Int (List Nd × Int) :=
 let x := nod p (l.getD 0 0); let y := nod p (l.getD 1 0)
 if n <= 5 then
  if x.kind = 3 /\ y.kind = 3 then
   let z := if n = 1 then ndI (x.n + y.n) else if n = 2 then ndI (x.n - y.n) else if n = 3 then ndI (x.n * y.n) else if n = 4 then ndB (decide (x.n < y.n)) else ndB (x.n == y.n)
   if wi z.n (-1000000000) 1000000000 = true then .ok (p ++ [z],p.length) else .error 4
  else .error 3
 else if n = 6 then .ok (p ++ [ndP (l.getD 0 0) (l.getD 1 0)],p.length)
 else if n = 7 \/ n = 8 then
  if x.kind = 5 then .ok (p,if n = 7 then x.a else x.b) else .error 3
 else if n = 9 then .ok (p ++ [ndB (x.kind == 1)],p.length)
 else if n = 10 then .ok (p ++ [ndB (x.kind == 5)],p.length)
 else if n = 11 then .ok (p ++ [ndB (Xk p (l.getD 0 0) (l.getD 1 0))],p.length)
 else .ok (p ++ [ndB (x.kind == 2 && x.n == 0)],p.length)

def LG (m : Mc) (v : Int) : Mc := ⟨m.pool ++ [ndP v m.s],m.at',m.pool.length,m.e,m.d,m.state,m.ask,m.arg⟩
def Fk (m : Mc) : Option (Int × Mc) := if (nod m.pool m.s).kind = 5 then some ((nod m.pool m.s).a,⟨m.pool,m.at',(nod m.pool m.s).b,m.e,m.d,m.state,m.ask,m.arg⟩) else none
def FF : Nat -> Mc -> Option (List Int × Mc)
 | 0,m => some ([],m)
 | k + 1,m => match Fk m with
  | none => none
  | some (v,m') => match FF k m' with
   | none => none
   | some (l,m'') => some (v :: l,m'')
def LD (p : List Nd) : Nat -> Int -> Option Int
 | 0,v => if (nod p v).kind = 5 then some (nod p v).a else none
 | k + 1,v => if (nod p v).kind = 5 then LD p k (nod p v).b else none
def GX (p : List Nd) : Nat -> Int -> List Int × Bool
 | 0,_ => ([],false)
 | k + 1,v => if (nod p v).kind = 5 then ((nod p v).a :: (GX p k (nod p v).b).1,(GX p k (nod p v).b).2) else ([],(nod p v).kind == 1)
def zP (p : List Nd) (v : Int) : List Int × Bool := GX p (v.toNat + 1) v
def AA (c : Cd) (n : Int) : Bool := wi n 0 ((c.list.length : Int) - 1)
def Jv (c : Cd) (p : List Nd) (v : Int) (many : Nat) : Option (Int × List Int) := match zP p v with
 | (a :: r,true) => if r.length + 1 = many /\ (nod p a).kind = 3 /\ AA c (nod p a).n = true then some ((nod p a).n,r) else none
 | _ => none

def WA (m : Mc) (o i : Int) : Except Int Mc := match LD m.pool o.toNat m.e with
 | none => .error 7
 | some fr => match LD m.pool i.toNat fr with
  | none => .error 7
  | some v => .ok (LG m v)
def KV (c : Cd) (m : Mc) (s : ByteArray) : Except Int Mc :=
 if 0 <= Cg c s then
  let d := c.defs.getD (Cg c s).toNat ⟨⟨#[]⟩,0,0⟩
  .ok (LG ⟨m.pool ++ [ndN] ++ [ndF (8 * d.at' + d.args) m.pool.length],m.at',m.s,m.e,m.d,m.state,m.ask,m.arg⟩ (m.pool.length + 1))
 else if D5 s = 0 then .error 1
 else .ok (LG ⟨m.pool ++ [ndR (D5 s)],m.at',m.s,m.e,m.d,m.state,m.ask,m.arg⟩ m.pool.length)
def Kw (c : Cd) (m : Mc) (f : Nd) (l : List Int) : Except Int Mc :=
 if f.n % 8 ≠ (l.length : Int) then .error 2
 else if AA c (f.n / 8) = false then .error 7
 else
  let b := yV (m.pool ++ [ndI (m.at' + 1)]) [(m.pool.length : Int),m.s,m.e]
  let v := yV (b.1 ++ [ndP b.2 m.d]) l
  .ok ⟨v.1 ++ [ndP v.2 f.a] ++ [ndN],f.n / 8,((v.1.length : Int) + 1),v.1.length,b.1.length,m.state,m.ask,m.arg⟩
def Vk (c : Cd) (m : Mc) (st : Int) (l : List Int) : Except Int Mc :=
 if l.length ≠ 1 then .error 2
 else match Jv c m.pool st 4 with
  | some (n,[s,e,d]) => .ok (LG ⟨m.pool,n,s,e,d,m.state,m.ask,m.arg⟩ (l.getD 0 0))
  | _ => .error 7
def Ga (c : Cd) : Nat -> Mc -> Int -> List Int -> Except Int Mc
 | 0,_,_,_ => .error 0
 | k + 1,m,f,l =>
  let x := nod m.pool f
  if x.kind = 6 then Kw c m x l
  else if x.kind = 8 then
   if zl x.n ≠ (l.length : Int) then .error 2
   else if x.n = 18 then
    let st := yV (m.pool ++ [ndI (m.at' + 1)]) [(m.pool.length : Int),m.s,m.e,m.d]
    Ga c k ⟨st.1 ++ [ndK st.2],m.at',m.s,m.e,m.d,m.state,m.ask,m.arg⟩ (l.getD 0 0) [(st.1.length : Int)]
   else if x.n > 12 then
    let r := yV m.pool l
    .ok ⟨r.1,m.at',m.s,m.e,m.d,1,x.n,r.2⟩
   else match J4 m.pool x.n l with
    | .error h => .error (h + 1)
    | .ok (p,v) => .ok ⟨p ++ [ndP v m.s],m.at' + 1,p.length,m.e,m.d,m.state,m.ask,m.arg⟩
  else if x.kind = 7 then Vk c m x.a l
  else .error 3
def CT (c : Cd) (m : Mc) (many : Nat) : Except Int Mc :=
 if AA c (m.at' + 1) = false then .error 7
 else match FF (many + 1) m with
  | none => .error 7
  | some (l,m') => Ga c 3 m' (l.reverse.getD 0 0) (l.reverse.drop 1)
def KT (c : Cd) (m : Mc) : Except Int Mc := match Fk m with
 | none => .error 7
 | some (v,m1) =>
  let d := nod m1.pool m1.d
  if d.kind = 1 then .ok ⟨m1.pool,0,m1.s,m1.e,m1.d,2,m1.ask,v⟩
  else if d.kind ≠ 5 then .error 7
  else match Jv c m1.pool d.a 3 with
   | some (n,[s,e]) => .ok (LG ⟨m1.pool,n,s,e,d.b,m1.state,m1.ask,m1.arg⟩ v)
   | _ => .error 7
def zu (d : Int) (q : List Nd) (v : Int) (acc : List Nd) : List Nd × Int := ((DW d q [v] acc).2,(DW d q [v] acc).1.getD v.toNat 0)
def Ye (c : Cd) (m : Mc) (v : Int) : Mc := LG ⟨(zu (-1) c.pool v m.pool).1,m.at',m.s,m.e,m.d,m.state,m.ask,m.arg⟩ (zu (-1) c.pool v m.pool).2
def goM (c : Cd) (r : Except Int Mc) (next : Int) : Except Int Mc := match r with
 | .error h => .error h
 | .ok m => if AA c next = true then .ok ⟨m.pool,next,m.s,m.e,m.d,m.state,m.ask,m.arg⟩ else .error 7
def Jx (c : Cd) (m : Mc) (x : In) : Except Int Mc :=
 if x.op = 1 then goM c (.ok (Ye c m x.n)) (m.at' + 1)
 else if x.op = 2 then goM c (WA m x.n x.i) (m.at' + 1)
 else if x.op = 3 then goM c (KV c m x.s) (m.at' + 1)
 else if x.op = 5 then goM c (.ok m) x.n
 else if x.op = 6 then goM c (.ok (LG ⟨m.pool ++ [ndF (8 * x.n + x.i) m.e],m.at',m.s,m.e,m.d,m.state,m.ask,m.arg⟩ m.pool.length)) (m.at' + 1)
 else match Fk m with
  | none => .error 7
  | some (v,m1) => goM c (.ok m1) (if x.op = 4 /\ (nod m1.pool v).kind = 2 /\ (nod m1.pool v).n = 0 then x.n else m.at' + 1)
def Gd (m : Mc) (h : Int) : Mc := ⟨m.pool,0,m.s,m.e,m.d,3,h,0⟩
def doM (c : Cd) (m : Mc) : Except Int Mc :=
 let x := c.list.getD m.at'.toNat ⟨0,0,0,⟨#[]⟩⟩
 if x.op = 7 then CT c m x.i.toNat else if x.op = 8 then KT c m else Jx c m x
def SE (c : Cd) (m : Mc) : Mc := match doM c m with
 | .error h => Gd m h
 | .ok m' => if m'.pool.length <= 3000 then m' else Gd m 6
def SY : Mc := ⟨[],0,0,0,0,3,7,0⟩
def NB (c : Cd) (m : Mc) : Mc := if Db c m = true then (if m.state = 0 then SE c m else m) else SY
end
end Go.Eng
/-! reading a text: the spec -/
namespace Go.Eng
noncomputable section
open Go.Proofs Go.Proofs.Tryz
set_option maxHeartbeats 4000000

theorem QP {p : List Nd} (hl : p.length <= 4294967296) : V 147 [eP p] = some (oP p,[]) := by
 rw [JM,List.nil_append]
 simp (disch := first | omega | (simp only [lnA,lnC,lnN,lnM,yO,wY]; omega)) only [↓xP,↓yA,yJ,lnM,pE,wY]

abbrev eO (x : RwF) : D := .agg [iN x.1,.os (1,0) (x.2.map eI)]
theorem CI (t : RwF) (K : List D -> List D -> Option Ret) : (asAgg (eO t) fun l => cT l 1 fun y => jl (1,0) y fun r => asAgg (eO t) fun l2 => K r l2) = K (t.2.map eI) [iN t.1,.os (1,0) (t.2.map eI)] := rfl
theorem Xi (t : RwF) (K : Int -> Option Ret) : (asAgg (eO t) fun l => cT l 0 fun y => asI .i64 y fun r => K r) = K t.1 := rfl
theorem tdd (a b : D) : List.take 1 [a,b] ++ [D.dead] ++ List.drop 2 [a,b] = [a,.dead] := rfl
theorem tds (a b c : D) : List.take 1 [a,b] ++ [c] ++ List.drop 2 [a,b] = [a,c] := rfl
theorem XR (A J : List D) (x : D) : part (A ++ x :: J) (some (0,A.length + 1)) = A ++ [x] := by
 simp only [part,List.drop_zero]
 rw [show A ++ x :: J = (A ++ [x]) ++ J by simp,List.take_left' (by simp)]
def SR (P : List D) (n : Nat) (r : RdR) : Option Ret := match r with
 | .err c a => some (.tup [.agg [.os (5,0) P],.os (1,0) [],iN c,iN a],[])
 | .ok q row => if yR q = true then some (.tup [.agg [.os (5,0) (q.map eN)],.os (1,0) (row.map eI),iN 0,iN (n : Int)],[]) else some (.tup [.agg [.os (5,0) P],.os (1,0) [],iN 6,iN 0],[])
def Pw (r : Option Nd) (p : List Nd) (i : Nat) (X : Nd -> Option Ret) : Option Ret := match r with
 | none => some (.tup [.agg [.os (5,0) (p.map eN)],.os (1,0) [],iN 3,iN (i : Int)],[])
 | some nd => X nd
theorem Xl {l : List UInt8} (hl : l.length < 1000000000) {i : Nat} {p q : List Nd} {A : List D} {t : RwF} (hp : p.length < 4294967290) (hq : q.length < 4294967290) (hA : A.length < 4294967290) (ht : t.2.length < 4294967290) : ∀ (m j : Nat),j + m = l.length -> i <= j ->
  z6 (mk l) (j : Int) (A.length : Int) (i : Int) (p.map eN) [] (A ++ [eO t]) (q.map eN) = Pw (Dr ((l.drop i).take (Dc l j - i))) p i fun nd => y4 (mk l) (Dc l j : Nat) (p.map eN) [] (A ++ [eO (t.1,t.2 ++ [(q.length : Int)])]) ((q ++ [nd]).map eN)
 | m,j,hm,hij => by
  have hcut : cW l.length (some (i : Int)) (some (j : Int)) = true := by unfold cW; simp; omega
  obtain ⟨x,b,h1,h2⟩ := SK (l := (l.drop i).take (j - i)) (by simp only [List.length_take,List.length_drop]; omega)
  have ha := y7 (p := q) (by omega) x
  have hc := QP (p := p) (by omega)
  have hin : ∀ x : D,(decide (0 <= (A.length : Int)) && decide ((A.length : Int) < ni (A ++ [x]).length)) = true := fun x => yx (by simp)
  have hlim : decide (ni (t.2.map eI ++ [iN (q.length : Int)]).length <= LIM) = true := RL (by simp only [lnA,lnM,lnC,lnN]; omega)
  have hrow : (t.2 ++ [(q.length : Int)]).map eI = t.2.map eI ++ [iN (q.length : Int)] := by simp
  match m with
  | 0 =>
   rw [Fq,yO,xb (yr (by omega)),yu hcut,Int.toNat_natCast,Int.toNat_natCast,DT,Fi h1,SU (by omega)]
   cases hw : Dr ((l.drop i).take (j - i)) with
   | none =>
    rw [hw] at h2
    have h2 : b = false := h2
    rw [h2,Bool.not_false,yk,y8 hc]; rfl
   | some nd =>
    rw [hw] at h2
    obtain ⟨rfl,rfl⟩ : x = nd /\ b = true := h2
    rw [Bool.not_true,xJ,yu (hin _),Int.toNat_natCast,Ar,CI,yU ha,yu hlim,yA,AU,tdd,yu (hin _),Ar,xu,AU,tds,yA,Pw,eO,hrow]
  | m + 1 =>
   obtain ⟨y,hy⟩ := xx (l := l) (i := j) (by omega)
   have hb := OI hy
   have hwb := GC y
   rw [Fq,yO,xK (yz (by omega)),yu (yx (by omega)),hb,zZ hwb]
   cases hwu : GG y with
   | true =>
    have ih := Xl hl hp hq hA ht (A := A) (i := i) m (j + 1) (by omega) (by omega)
    rw [yk,yM (by omega),ih,Iz hy hwu]
   | false =>
    rw [xJ,yu hcut,Int.toNat_natCast,Int.toNat_natCast,DT,Fi h1,Pu hy hwu]
    cases hw : Dr ((l.drop i).take (j - i)) with
    | none =>
     rw [hw] at h2
     have h2 : b = false := h2
     rw [h2,Bool.not_false,yk,y8 hc]; rfl
    | some nd =>
     rw [hw] at h2
     obtain ⟨rfl,rfl⟩ : x = nd /\ b = true := h2
     rw [Bool.not_true,xJ,yu (hin _),Int.toNat_natCast,Ar,CI,yU ha,yu hlim,yA,AU,tdd,yu (hin _),Ar,xu,AU,tds,yA,Pw,eO,hrow]
theorem Qx {A J : List D} {x : D} : (decide (0 <= (A.length : Int)) && decide ((A.length : Int) < ni (A.length + 1)) && decide (0 + (A.length + 1) <= (A ++ x :: J).length)) = true := by
 simp only [ni,Bool.and_eq_true,decide_eq_true_eq,lnA,lnC]; omega
theorem Wd {l : List UInt8} (hl : l.length < 1000000000) {i : Nat} {p q : List Nd} {A J : List D} {t : RwF} (hp : p.length < 4294967290) (hq : q.length < 4294967290) (hA : A.length < 4294967290) (ht : t.2.length < 4294967290) : ∀ (m j : Nat),j + m = l.length -> i <= j ->
  zH (mk l) (A.length + 1) (j : Int) (A.length : Int) (i : Int) (p.map eN) [] (A ++ eO t :: J) (q.map eN) = Pw (Dr ((l.drop i).take (Dc l j - i))) p i fun nd => y1 (mk l) (A.length + 1) (Dc l j : Nat) (p.map eN) [] (A ++ eO (t.1,t.2 ++ [(q.length : Int)]) :: J) ((q ++ [nd]).map eN)
 | m,j,hm,hij => by
  have hcut : cW l.length (some (i : Int)) (some (j : Int)) = true := by unfold cW; simp; omega
  obtain ⟨x,b,h1,h2⟩ := SK (l := (l.drop i).take (j - i)) (by simp only [List.length_take,List.length_drop]; omega)
  have ha := y7 (p := q) (by omega) x
  have hc := QP (p := p) (by omega)
  have hlim : decide (ni (t.2.map eI ++ [iN (q.length : Int)]).length <= LIM) = true := RL (by simp only [lnA,lnM,lnC,lnN]; omega)
  have hrow : (t.2 ++ [(q.length : Int)]).map eI = t.2.map eI ++ [iN (q.length : Int)] := by simp
  match m with
  | 0 =>
   rw [Dt,yO,xb (yr (by omega)),yu hcut,Int.toNat_natCast,Int.toNat_natCast,DT,Fi h1,SU (by omega)]
   cases hw : Dr ((l.drop i).take (j - i)) with
   | none =>
    rw [hw] at h2
    have h2 : b = false := h2
    rw [h2,Bool.not_false,yk,y8 hc]; rfl
   | some nd =>
    rw [hw] at h2
    obtain ⟨rfl,rfl⟩ : x = nd /\ b = true := h2
    rw [Bool.not_true,xJ,yu Qx,Int.toNat_natCast,Nat.zero_add,Ar,CI,yU ha,yu hlim,yA,AU,tdd,yu Qx,Ar,xu,AU,tds,yA,Pw,eO,hrow]
  | m + 1 =>
   obtain ⟨y,hy⟩ := xx (l := l) (i := j) (by omega)
   have hb := OI hy
   have hwb := GC y
   rw [Dt,yO,xK (yz (by omega)),yu (yx (by omega)),hb,zZ hwb]
   cases hwu : GG y with
   | true =>
    have ih := Wd hl hp hq hA ht (A := A) (J := J) (i := i) m (j + 1) (by omega) (by omega)
    rw [yk,yM (by omega),ih,Iz hy hwu]
   | false =>
    rw [xJ,yu hcut,Int.toNat_natCast,Int.toNat_natCast,DT,Fi h1,Pu hy hwu]
    cases hw : Dr ((l.drop i).take (j - i)) with
    | none =>
     rw [hw] at h2
     have h2 : b = false := h2
     rw [h2,Bool.not_false,yk,y8 hc]; rfl
    | some nd =>
     rw [hw] at h2
     obtain ⟨rfl,rfl⟩ : x = nd /\ b = true := h2
     rw [Bool.not_true,xJ,yu Qx,Int.toNat_natCast,Nat.zero_add,Ar,CI,yU ha,yu hlim,yA,AU,tdd,yu Qx,Ar,xu,AU,tds,yA,Pw,eO,hrow]
theorem XT {A J : List D} {x y v : D} : ((A ++ [x]) ++ y :: J).set (A.length + 1) v = A ++ x :: v :: J := by
 have := AU (A := A ++ [x]) (B := J) (x := y) (v := v)
 rw [lnA,List.length_singleton] at this
 rw [this,List.append_assoc]; rfl
theorem XQ {A J : List D} {x y : D} (K : D -> Option Ret) : cT ((A ++ [x]) ++ y :: J) (A.length + 1) K = K y := by
 have := Ar (A := A ++ [x]) (B := J) (x := y) K
 rw [lnA,List.length_singleton] at this
 exact this
theorem WC {n : Nat} (h : n < 4611686018427387904) : w6 (((n + 1 : Nat) : Int) - 1) = (n : Int) := by
 rw [w64 (by omega) (by omega)]; omega
theorem VC (P : List D) (n : Nat) (q : List Nd) (row : List Int) : SR P n (.ok q row) = if yR q = true then some (.tup [.agg [.os (5,0) (q.map eN)],.os (1,0) (row.map eI),iN 0,iN (n : Int)],[]) else some (.tup [.agg [.os (5,0) P],.os (1,0) [],iN 6,iN 0],[]) := rfl
theorem Pm {l : List UInt8} (hl : l.length < 1000000000) {p : List Nd} (hp : p.length < 4294967290) : ∀ (k i : Nat) (o : List RwF) (t : RwF) (q : List Nd),l.length < i + k -> i <= l.length -> phi o t q + 2 * (l.length - i) < 4000000000 -> o.length + (l.length - i) < 4000000000 -> Ac q ->
  y4 (mk l) (i : Int) (p.map eN) [] (o.reverse.map eO ++ [eO t]) (q.map eN) = SR (p.map eN) l.length (Ba l k i o t q) /\
  ∀ J,y1 (mk l) (o.length + 1) (i : Int) (p.map eN) [] (o.reverse.map eO ++ eO t :: J) (q.map eN) = SR (p.map eN) l.length (Ba l k i o t q)
 | 0,i,o,t,q,h1,h2,_,_,_ => by omega
 | k + 1,i,o,t,q,h1,h2,h3,h4,hf => by
  have hph : phi o t q = q.length + t.2.length + (o.map fun x => x.2.length).sum := rfl
  have hc := QP (p := p) (by omega)
  have hAl : (o.reverse.map eO).length = o.length := by rw [lnM,List.length_reverse]
  have hn1 : (o.reverse.map eO ++ [eO t]).length = o.length + 1 := by rw [lnA,hAl]; rfl
  have hw1 : w6 (ni (o.length + 1) - 1) = ((o.reverse.map eO).length : Int) := by rw [hAl]; exact WC (by omega)
  have hin : ∀ J,(decide (0 <= ((o.reverse.map eO).length : Int)) && decide (((o.reverse.map eO).length : Int) < ni (o.length + 1)) && decide (0 + (o.length + 1) <= (o.reverse.map eO ++ eO t :: J).length)) = true := fun J => by
   rw [<- hAl]; exact Qx
  rw [Gh]
  by_cases hi : i = l.length
  ·have hx : l[i]? = none := List.getElem?_eq_none (by omega)
   have hok := z8 hf (by omega)
   rw [hx,J6]
   cases o with
   | nil =>
    have hlim : decide (ni ([] ++ t.2.map eI).length <= LIM) = true := RL (by rw [List.nil_append,lnM]; omega)
    rw [if_pos rfl]
    constructor
    ·rw [zq,yO,xb (yr (by omega)),xb (by rfl),BC hok]
     rw [VC]
     cases hq : yR q with
     | false => rw [Bool.not_false,yk,y8 hc,if_neg (by simp)]
     | true => rw [Bool.not_true,xJ,yu (by rfl),if_pos rfl,show ∀ K : D -> Option Ret,cT (([] : List RwF).reverse.map eO ++ [eO t]) 0 K = K (eO t) from fun K => rfl,CI,yu hlim,yA,List.nil_append]
    ·intro J
     rw [zi,yO,xb (yr (by omega)),xb (by rfl),BC hok]
     rw [VC]
     cases hq : yR q with
     | false => rw [Bool.not_false,yk,y8 hc,if_neg (by simp)]
     | true => rw [Bool.not_true,xJ,yu (by simp [ni]),if_pos rfl,show ∀ K : D -> Option Ret,cT (([] : List RwF).reverse.map eO ++ eO t :: J) 0 K = K (eO t) from fun K => rfl,CI,yu hlim,yA,List.nil_append]
   | cons u o =>
    rw [if_neg (by simp)]
    constructor
    ·rw [zq,yO,xb (yr (by omega)),hn1,xK (decide_eq_true (by simp only [ni,lnC]; omega)),y8 hc,hw1,yu (by rw [hAl]; exact yx (by omega)),Int.toNat_natCast,Ar,Xi]; rfl
    ·intro J
     rw [zi,yO,xb (yr (by omega)),xK (decide_eq_true (by simp only [ni,lnC]; omega)),y8 hc,hw1,yu (hin J),Int.toNat_natCast,Nat.zero_add,Ar,Xi]; rfl
  obtain ⟨x,hx⟩ := xx (l := l) (i := i) (by omega)
  have hb := OI hx
  rw [hx,IG]
  by_cases h32 : x = 32
  ·subst h32
   have ih := Pm hl hp k (i + 1) o t q (by omega) (by omega) (by omega) (by omega) hf
   rw [if_pos rfl]
   constructor
   ·rw [zq,yO,xK (yz (by omega)),yu (yx (by omega)),hb,xK (by rfl),yM (by omega)]
    exact ih.1
   ·intro J
    rw [zi,yO,xK (yz (by omega)),yu (yx (by omega)),hb,xK (by rfl),yM (by omega)]
    exact ih.2 J
  rw [if_neg h32]
  by_cases h40 : x = 40
  ·subst h40
   have hlo : decide (ni (o.reverse.map eO ++ [eO t] ++ [D.agg [iN (i : Int),.os (1,0) []]]).length <= LIM) = true := RL (by rw [lnA,hn1]; simp only [lnC,lnN]; omega)
   have ih := (Pm hl hp k (i + 1) (t :: o) ((i : Int),[]) q (by omega) (by omega) (by simp only [phi,List.map_cons,List.sum_cons,lnN]; omega) (by simp only [lnC]; omega) hf).1
   rw [show (t :: o).reverse.map eO = o.reverse.map eO ++ [eO t] by simp] at ih
   rw [if_pos rfl]
   constructor
   ·rw [zq,yO,xK (yz (by omega)),yu (yx (by omega)),hb,xb (by rfl),xK (by rfl),yu hlo,yA,yM (by omega)]
    exact ih
   ·intro J
    have hpt := XR (o.reverse.map eO) J (eO t)
    rw [hAl] at hpt
    rw [zi,yO,xK (yz (by omega)),yu (yx (by omega)),hb,xb (by rfl),xK (by rfl),hpt,yu hlo,yA,yM (by omega)]
    exact ih
  rw [if_neg h40]
  by_cases h41 : x = 41
  ·subst h41
   rw [if_pos rfl]
   cases o with
   | nil =>
    constructor
    ·rw [zq,yO,xK (yz (by omega)),yu (yx (by omega)),hb,xb (by rfl),xb (by rfl),xK (by rfl),hn1,hw1,xK (by rfl),y8 hc]; rfl
    ·intro J
     rw [zi,yO,xK (yz (by omega)),yu (yx (by omega)),hb,xb (by rfl),xb (by rfl),xK (by rfl),hw1,xK (by rfl),y8 hc]; rfl
   | cons u o =>
    simp only [List.map_cons,List.sum_cons] at hph
    simp only [lnC] at h4
    have hll := Iv (q := q) (row := t.2) (by omega)
    have ih := (Pm hl hp k (i + 1) o (u.1,u.2 ++ [((yV q t.2).2 : Int)]) (yV q t.2).1 (by omega) (by omega) (by simp only [phi,DC,lnA,lnC,lnN]; omega) (by omega) (MQ hf _)).2
    obtain ⟨O,hO⟩ : ∃ O,O = o.reverse.map eO := ⟨_,rfl⟩
    have hA : O.length = o.length := by rw [hO,lnM,List.length_reverse]
    have hrev : (u :: o).reverse.map eO = O ++ [eO u] := by rw [hO]; simp
    have hlim : decide (ni (u.2.map eI ++ [iN ((yV q t.2).2 : Int)]).length <= LIM) = true := RL (by simp only [lnA,lnM,lnC,lnN]; omega)
    have hrow : (u.2 ++ [((yV q t.2).2 : Int)]).map eI = u.2.map eI ++ [iN ((yV q t.2).2 : Int)] := by simp
    have hl2 : (u :: o).length = O.length + 1 := by rw [hA]; rfl
    have hn2 : (O ++ [eO u] ++ [eO t]).length = O.length + 1 + 1 := by simp
    have hw2 : w6 (ni (O.length + 1 + 1) - 1) = ((O.length + 1 : Nat) : Int) := WC (by omega)
    have hw3 : w6 (((O.length + 1 : Nat) : Int) - 1) = (O.length : Int) := WC (by omega)
    have hne : (((O.length + 1 : Nat) : Int) == 0) = false := by simp only [beq_eq_false_iff_ne,ne_eq]; omega
    rw [<- hA,<- hO] at ih
    rw [hrev,hl2]
    constructor
    ·rw [zq,yO,xK (yz (by omega)),yu (yx (by omega)),hb,xb (by rfl),xb (by rfl),xK (by rfl),hn2,hw2,xb hne,yu (yx (by omega)),Int.toNat_natCast,XQ,CI,BG hll,tdd,XT,hw3,Int.toNat_natCast,Nat.zero_add O.length]
     rw [yu (by unfold cW; simp; try omega),yu Qx,Ar,CI,yu hlim,yA,AU,tdd,yu Qx,Ar,xu,AU,tds,yA,yM (by omega),<- hrow]
     exact ih _
    ·intro J
     rw [zi,yO,xK (yz (by omega)),yu (yx (by omega)),hb,xb (by rfl),xb (by rfl),xK (by rfl),hw2,xb hne,yu (by simp only [ni,Bool.and_eq_true,decide_eq_true_eq,lnA,lnC,lnN]; omega),Int.toNat_natCast,Nat.zero_add (O.length + 1),XQ,CI,BG hll,tdd,XT,hw3,Int.toNat_natCast,Nat.zero_add O.length]
     rw [yu (by unfold gW; simp; try omega),yu (by have := Qx (A := O) (J := D.agg [iN t.1,.dead] :: J) (x := eO u); rwa [Nat.zero_add] at this),Ar,CI,yu hlim,yA,AU,tdd,yu (by have := Qx (A := O) (J := D.agg [iN t.1,.dead] :: J) (x := .agg [iN u.1,.dead]); rwa [Nat.zero_add] at this),Ar,xu,AU,tds,yA,yM (by omega),<- hrow]
     exact ih _
  rw [if_neg h41]
  have hwb := GC x
  cases hw : GG x with
  | false =>
   rw [hw] at hwb
   rw [if_neg (by simp)]
   constructor
   ·rw [zq,yO,xK (yz (by omega)),yu (yx (by omega)),hb,xb (Dg 32 32 rfl h32),xb (Dg 40 40 rfl h40),xb (Dg 41 41 rfl h41),zZ hwb,xJ,y8 hc]; rfl
   ·intro J
    rw [zi,yO,xK (yz (by omega)),yu (yx (by omega)),hb,xb (Dg 32 32 rfl h32),xb (Dg 40 40 rfl h40),xb (Dg 41 41 rfl h41),zZ hwb,xJ,y8 hc]; rfl
  | true =>
   rw [hw] at hwb
   have hs := Xl hl (i := i) (p := p) (q := q) (A := o.reverse.map eO) (t := t) hp (by omega) (by rw [hAl]; omega) (by omega) (l.length - i) i (by omega) (by omega)
   have hs1 := fun J => Wd hl (i := i) (p := p) (q := q) (A := o.reverse.map eO) (J := J) (t := t) hp (by omega) (by rw [hAl]; omega) (by omega) (l.length - i) i (by omega) (by omega)
   rw [hAl] at hs hs1
   have hwe := Iz hx hw
   have hwl := QV (l := l) (j := i + 1) (by omega)
   rw [hAl] at hw1
   rw [if_pos rfl]
   constructor
   ·rw [zq,yO,xK (yz (by omega)),yu (yx (by omega)),hb,xb (Dg 32 32 rfl h32),xb (Dg 40 40 rfl h40),xb (Dg 41 41 rfl h41),zZ hwb,yk,hn1,hw1,hs]
    cases hwd : Dr ((l.drop i).take (Dc l i - i)) with
    | none => rfl
    | some nd =>
     have hz := Jz hwd
     exact (Pm hl hp k (Dc l i) o (t.1,t.2 ++ [(q.length : Int)]) (q ++ [nd]) (by omega) (by omega) (by simp only [phi,lnA,lnC,lnN]; omega) (by omega) (Ge hf (by rw [List.length_take,List.length_drop] at hz; omega))).1
   ·intro J
    rw [zi,yO,xK (yz (by omega)),yu (yx (by omega)),hb,xb (Dg 32 32 rfl h32),xb (Dg 40 40 rfl h40),xb (Dg 41 41 rfl h41),zZ hwb,yk,hw1,hs1]
    cases hwd : Dr ((l.drop i).take (Dc l i - i)) with
    | none => rfl
    | some nd =>
     have hz := Jz hwd
     exact (Pm hl hp k (Dc l i) o (t.1,t.2 ++ [(q.length : Int)]) (q ++ [nd]) (by omega) (by omega) (by simp only [phi,lnA,lnC,lnN]; omega) (by omega) (Ge hf (by rw [List.length_take,List.length_drop] at hz; omega))).2 J
end
end Go.Eng
/-! reading a text: both sides agree -/
namespace Go.Eng
noncomputable section
open Go.Proofs Go.Proofs.Tryz
set_option maxHeartbeats 4000000

theorem Gi {l : List UInt8} (hl : l.length < 1000000000) : ∀ (k i : Nat) (o : List RwF) (t : RwF) (q : List Nd),i <= l.length -> phi o t q + 2 * (l.length - i) < 4000000000 -> Ac q -> ∀ q' row,Ba l k i o t q = .ok q' row -> Ac q' /\ q'.length < 4000000000 /\ row.length < 4000000000
 | 0,i,o,t,q,_,_,_,q',row,h => by rw [Ba] at h; cases h
 | k + 1,i,o,t,q,h2,h3,hf,q',row,h => by
  have hph : phi o t q = q.length + t.2.length + (o.map fun x => x.2.length).sum := rfl
  rw [Gh] at h
  by_cases hi : i = l.length
  ·have hx : l[i]? = none := List.getElem?_eq_none (by omega)
   rw [hx,J6] at h
   by_cases ho : o = []
   ·rw [if_pos ho] at h
    cases h
    exact ⟨hf,by omega,by omega⟩
   ·rw [if_neg ho] at h; cases h
  obtain ⟨x,hx⟩ := xx (l := l) (i := i) (by omega)
  rw [hx,IG] at h
  by_cases h32 : x = 32
  ·rw [if_pos h32] at h
   exact Gi hl k (i + 1) o t q (by omega) (by omega) hf q' row h
  rw [if_neg h32] at h
  by_cases h40 : x = 40
  ·rw [if_pos h40] at h
   exact Gi hl k (i + 1) (t :: o) ((i : Int),[]) q (by omega) (by simp only [phi,List.map_cons,List.sum_cons,lnN]; omega) hf q' row h
  rw [if_neg h40] at h
  by_cases h41 : x = 41
  ·rw [if_pos h41] at h
   cases o with
   | nil => cases h
   | cons u o =>
    simp only [List.map_cons,List.sum_cons] at hph
    exact Gi hl k (i + 1) o (u.1,u.2 ++ [((yV q t.2).2 : Int)]) (yV q t.2).1 (by omega) (by simp only [phi,DC,lnA,lnC,lnN]; omega) (MQ hf _) q' row h
  rw [if_neg h41] at h
  by_cases hw : GG x = true
  ·rw [if_pos hw] at h
   have hwe := Iz hx hw
   have hwl := QV (l := l) (j := i + 1) (by omega)
   cases hwd : Dr ((l.drop i).take (Dc l i - i)) with
   | none => rw [hwd] at h; cases h
   | some nd =>
    rw [hwd] at h
    have hz := Jz hwd
    exact Gi hl k (Dc l i) o (t.1,t.2 ++ [(q.length : Int)]) (q ++ [nd]) (by omega) (by simp only [phi,lnA,lnC,lnN]; omega) (Ge hf (by rw [List.length_take,List.length_drop] at hz; omega)) q' row h
  ·rw [if_neg hw] at h; cases h
def Vo (p : List Nd) (n : Nat) (r : RdR) : List Nd × List Int × Int × Int := match r with
 | .err c a => (p,[],c,a)
 | .ok q row => if yR q = true then (q,row,0,(n : Int)) else (p,[],6,0)
def Bu (p : List Nd) (l : List UInt8) : List Nd × List Int × Int × Int := if yR p = false then ([],[],6,0) else if 400 < l.length then (p,[],1,0) else Vo p l.length (Ba l (l.length + 1) 0 [] (0,[]) p)
abbrev QM (r : List Nd × List Int × Int × Int) : Option Ret := some (.tup [oP r.1,.os (1,0) (r.2.1.map eI),iN r.2.2.1,iN r.2.2.2],[])
theorem WG (p : List Nd) (n : Nat) (r : RdR) : SR (p.map eN) n r = QM (Vo p n r) := by
 cases r with
 | err c a => rfl
 | ok q row =>
  rw [VC]
  unfold Vo
  by_cases h : yR q = true
  ·rw [if_pos h]; simp only [if_pos h]
  ·rw [if_neg h]; simp only [if_neg h]; rfl
theorem Ln {p : List Nd} (hf : Ac p) (hl : p.length < 4611686018427387904) (l : List UInt8) : V 191 [eP p,.str (mk l)] = QM (Bu p l) := by
 have hok := z8 hf hl
 unfold Bu
 rw [S6,BC hok]
 cases h : yR p with
 | false => rw [Bool.not_false,yk,if_pos rfl]; rfl
 | true =>
  have hp := zh h
  have hc := QP (p := p) (by omega)
  rw [Bool.not_true,xJ,if_neg (by simp),yO]
  by_cases h4 : 400 < l.length
  ·rw [xK (decide_eq_true (by simp only [ni]; omega)),y8 hc,if_pos h4]; rfl
  ·have hs := (Pm (l := l) (by omega) (p := p) (by omega) (l.length + 1) 0 [] (0,[]) p (by omega) (by omega) (by simp only [phi,List.map_nil,List.sum_nil,lnN]; omega) (by simp only [lnN]; omega) hf).1
   rw [xb (decide_eq_false (by simp only [ni]; omega)),y8 hc,if_neg h4,<- WG]
   exact hs
end
end Go.Eng
/-! compiling,plain (the reference's way) -/
namespace Go.Eng
noncomputable section

structure Ms where
 list : List In
 defs : List Df
 how : Int
abbrev inO (op : Int) : In := ⟨op,0,0,⟨#[]⟩⟩
def wrds : List (List UInt8) := [[113,117,111,116,101],[105,102],[102,110],[100,111],[108,101,116],[100,101,102,105,110,101]]
def TZ (s : ByteArray) : Bool := wrds.any fun x => kc s (mk x)
def zL (m : Ms) (x : In) : Ms := if m.how = 0 then (if m.list.length = 400 then ⟨m.list,m.defs,3⟩ else ⟨m.list ++ [x],m.defs,0⟩) else m
def Ci (m : Ms) : Int := if m.how = 0 then (if m.list.length = 400 then 0 else m.list.length) else 0
def toC (m : Ms) (k : Int) : Ms := if m.how = 0 then ⟨m.list.set k.toNat ⟨(m.list.getD k.toNat (inO 0)).op,m.list.length,(m.list.getD k.toNat (inO 0)).i,(m.list.getD k.toNat (inO 0)).s⟩,m.defs,0⟩ else m
def CR (m : Ms) (h : Int) : Ms := ⟨m.list,m.defs,h⟩
def nmC (p : List Nd) (v : Int) : Bool := (nod p v).kind == 4 && !TZ (nod p v).s
def IY (p : List Nd) : List Int -> Int -> List ByteArray -> List ByteArray × Int
 | [],h,out => (out,h)
 | x :: r,h,out => if h = 0 then IY p r (if nmC p x = true then 0 else 1) (out ++ [(nod p x).s]) else (out,h)
def Mg (out : List ByteArray) : Nat -> Nat -> Int -> Int
 | 0,_,h => h
 | k + 1,i,h => if h = 0 then Mg out k (i + 1) (if (out.take i).any (fun t => kc t (out.getD i ⟨#[]⟩)) = true then 2 else 0) else h
def z7 (p : List Nd) (xs : List Int) (h : Int) : List ByteArray × Int :=
 let r := IY p xs (if xs.length > 4 then 1 else h) []
 (r.1,Mg r.1 r.1.length 0 r.2)
def Wz (s : ByteArray) : List ByteArray -> Nat -> Option Nat
 | [],_ => none
 | x :: r,i => if kc x s = true then some i else Wz s r (i + 1)
def Vy (s : ByteArray) : List (List ByteArray) -> Nat -> Option (Nat × Nat)
 | [],_ => none
 | e :: r,n => match Wz s e 0 with
  | some i => some (n,i)
  | none => Vy s r (n + 1)
section
variable (E : List (List ByteArray) -> Int -> Ms -> Ms)
def DN (env : List (List ByteArray)) : List Int -> Bool -> Ms -> Ms
 | [],_,m => m
 | x :: r,f,m => if m.how = 0 then DN env r false (E env x (if f = true then m else zL m (inO 9))) else m
def TC (names : List ByteArray) (body : List Int) (env : List (List ByteArray)) (m : Ms) : Ms :=
 let m1 := zL m ⟨6,0,names.length,⟨#[]⟩⟩
 let m2 := zL m1 (inO 5)
 let m3 := DN E (names :: env) body true (toC m2 (Ci m))
 toC (zL m3 (inO 8)) (Ci m1)
def Mz (p : List Nd) (s : ByteArray) (xs : List Int) (env : List (List ByteArray)) (m : Ms) : Ms :=
 if kc s (mk [113,117,111,116,101]) = true /\ xs.length = 2 then zL m ⟨1,xs.getD 1 0,0,⟨#[]⟩⟩
 else if kc s (mk [105,102]) = true /\ xs.length = 4 then
  let m1 := E env (xs.getD 1 0) m
  let m3 := E env (xs.getD 2 0) (zL m1 (inO 4))
  let m5 := toC (zL m3 (inO 5)) (Ci m1)
  toC (E env (xs.getD 3 0) m5) (Ci m3)
 else if kc s (mk [100,111]) = true /\ 2 <= xs.length then DN E env (xs.drop 1) true m
 else if kc s (mk [102,110]) = true /\ 3 <= xs.length then
  let a := zP p (xs.getD 1 0)
  if a.2 = false then CR m 1 else
  let r := z7 p a.1 m.how
  TC E r.1 (xs.drop 2) env (CR m r.2)
 else if kc s (mk [108,101,116]) = true /\ 4 <= xs.length then
  let r := z7 p [xs.getD 1 0] m.how
  zL (E env (xs.getD 2 0) (TC E r.1 (xs.drop 3) env (CR m r.2))) ⟨7,0,1,⟨#[]⟩⟩
 else CR m 1
end
def Jd (p : List Nd) : Nat -> List (List ByteArray) -> Int -> Ms -> Ms
 | 0,_,_,m => m
 | k + 1,env,v,m => if m.how ≠ 0 then m else
  let x := nod p v
  if x.kind = 1 \/ x.kind = 2 \/ x.kind = 3 then zL m ⟨1,v,0,⟨#[]⟩⟩
  else if x.kind = 4 then
   if TZ x.s = true then CR m 1 else match Vy x.s env 0 with
    | some (n,i) => zL m ⟨2,n,i,⟨#[]⟩⟩
    | none => zL m ⟨3,0,0,x.s⟩
  else if x.kind ≠ 5 then CR m 1
  else if (zP p v).2 = false then CR m 1
  else
   let xs := (zP p v).1
   let h := nod p (xs.getD 0 0)
   if h.kind = 4 /\ TZ h.s = true then Mz (Jd p k) p h.s xs env m
   else if xs.length > 5 then CR m 1
   else zL (xs.foldl (fun m x => Jd p k env x m) m) ⟨7,0,(xs.length : Int) - 1,⟨#[]⟩⟩
def GE (p : List Nd) (env : List (List ByteArray)) (v : Int) (m : Ms) : Ms := Jd p (v.toNat + 1) env v m
def I8 (s : ByteArray) : List Df -> Int -> Int
 | [],h => h
 | d :: r,h => if h = 0 then I8 s r (if kc d.name s = true then 2 else 0) else h
def Kq (p : List Nd) (s : ByteArray) (names : List ByteArray) (body : List Int) (m : Ms) : Ms :=
 zL (DN (GE p) [names] body true ⟨m.list,m.defs ++ [⟨s,m.list.length,names.length⟩],I8 s m.defs m.how⟩) (inO 8)
def VU : ByteArray := mk [109,97,105,110]
def NC (p : List Nd) (v : Int) (m : Ms) : Ms :=
 let l := zP p v
 if (nod p v).kind = 5 /\ l.2 = true /\ (nod p (l.1.getD 0 0)).kind = 4 /\ kc (nod p (l.1.getD 0 0)).s (mk [100,101,102,105,110,101]) = true then
  if l.1.length < 3 \/ (nod p (l.1.getD 1 0)).kind ≠ 5 then CR m 1 else
  let a := zP p (l.1.getD 1 0)
  if a.2 = false then CR m 1
  else if nmC p (a.1.getD 0 0) = false then CR m 1
  else
   let r := z7 p (a.1.drop 1) m.how
   Kq p (nod p (a.1.getD 0 0)).s r.1 (l.1.drop 2) (CR m r.2)
 else Kq p VU [] [v] m
def DP (p : List Nd) (n : Int) : List Int -> Int -> Ms -> Cd × Int × Int
 | [],_,m => if zw ⟨p,m.list,m.defs⟩ = true then (⟨p,m.list,m.defs⟩,0,n) else (⟨[],[],[]⟩,3,0)
 | x :: r,i,m =>
  let m1 := NC p x m
  if m1.how = 3 then (⟨[],[],[]⟩,3,0) else if m1.how ≠ 0 then (⟨[],[],[]⟩,m1.how,i) else DP p n r (i + 1) m1
def JH (p : List Nd) (xs : List Int) : Cd × Int × Int := if yR p = true /\ z9 p xs = true then DP p xs.length xs 0 ⟨[],[],0⟩ else (⟨[],[],[]⟩,3,0)
end
end Go.Eng
/-! a step of a machine: the program's side: the stack,the frames,lists -/
namespace Go.Eng
open Go.Proofs Go.Proofs.Tryz
set_option maxHeartbeats 4000000

theorem Fh {p : List Nd} {v : Int} (h : InP p v) : p[v.toNat]? = some (nod p v) := by
 have : v.toNat < p.length := by omega
 simp [nod,List.getD_eq_getElem?_getD,List.getElem?_eq_getElem this]
theorem GZ {p : List Nd} (hp : y2 p) {v : Int} (h : InP p v) : okN (nod p v) v = true := by
 have := hp _ _ (Fh h)
 rwa [Int.toNat_of_nonneg h.1] at this
theorem JX {p : List Nd} (hp : y2 p) {v : Int} (h : InP p v) (hk : (nod p v).kind = 5 \/ (nod p v).kind = 6 \/ (nod p v).kind = 7) : InP p (nod p v).a := by
 rcases hk with hk | hk
 ·have := zx (GZ hp h) hk; exact ⟨by omega,by omega⟩
 ·have := Au (GZ hp h) hk; exact ⟨by omega,by omega⟩
theorem KY {p : List Nd} (hp : y2 p) {v : Int} (h : InP p v) (hk : (nod p v).kind = 5) : InP p (nod p v).b := by
 have := zx (GZ hp h) hk; exact ⟨by omega,by omega⟩
theorem WX {p q : List Nd} {v : Int} (h : InP p v) : nod (p ++ q) v = nod p v := by
 have : v.toNat < p.length := by omega
 simp [nod,List.getD_eq_getElem?_getD,List.getElem?_append_left this]
theorem yW {p : List Nd} (q : List Nd) {v : Int} (h : InP p v) : InP (p ++ q) v := ⟨h.1,by simp only [lnA]; omega⟩
section
variable {R : Type} {p : List Nd} {v : Int}
theorem MH (h : InP p v) : (decide (0 <= v) && decide (v < ni (p.map eN).length)) = true := by
 rw [lnM]; simp only [ni,Bool.and_eq_true,decide_eq_true_eq]; exact ⟨h.1,h.2⟩
theorem Fu (h : InP p v) (K : Int -> Int -> ByteArray -> Int -> Int -> Option R) : grd (decide (0 <= v) && decide (v < ni (p.map eN).length)) (cT (p.map eN) v.toNat fun x => tk6 x fun n4 n7 s10 n13 n16 => (K n4 n7 s10 n13 n16)) = K (nod p v).kind (nod p v).n (nod p v).s (nod p v).a (nod p v).b := by
 rw [yu (MH h),xW (Fh h),GY]
theorem PD (h : InP p v) (K : Int -> Option R) : grd (decide (0 <= v) && decide (v < ni (p.map eN).length)) (cT (p.map eN) v.toNat fun x => asAgg x fun l => cT l 0 fun y => asI .i64 y fun n => K n) = K (nod p v).kind := by
 rw [yu (MH h),xW (Fh h),Yf]
theorem Yb (h : InP p v) (K : Int -> Option R) : grd (decide (0 <= v) && decide (v < ni (p.map eN).length)) (cT (p.map eN) v.toNat fun x => asAgg x fun l => cT l 1 fun y => asI .i64 y fun n => K n) = K (nod p v).n := by
 rw [yu (MH h),xW (Fh h),Yg]
theorem XK (h : InP p v) (K : Int -> Option R) : grd (decide (0 <= v) && decide (v < ni (p.map eN).length)) (cT (p.map eN) v.toNat fun x => asAgg x fun l => cT l 3 fun y => asI .i64 y fun n => K n) = K (nod p v).a := by
 rw [yu (MH h),xW (Fh h),Yi]
theorem XL (h : InP p v) (K : Int -> Option R) : grd (decide (0 <= v) && decide (v < ni (p.map eN).length)) (cT (p.map eN) v.toNat fun x => asAgg x fun l => cT l 4 fun y => asI .i64 y fun n => K n) = K (nod p v).b := by
 rw [yu (MH h),xW (Fh h),Yj]
end

theorem SF {m : Mc} (hp : y2 m.pool) (hs : InP m.pool m.s) {v : Int} {m' : Mc} (h : Fk m = some (v,m')) : InP m.pool v /\ m'.pool = m.pool /\ InP m.pool m'.s /\ m'.e = m.e /\ m'.d = m.d /\ m'.at' = m.at' /\ m'.state = m.state /\ m'.ask = m.ask /\ m'.arg = m.arg := by
 unfold Fk at h
 split at h
 ·rename_i h5
  cases h
  exact ⟨JX hp hs (.inl h5),rfl,KY hp hs h5,rfl,rfl,rfl,rfl,rfl,rfl⟩
 ·cases h
noncomputable def alD (r : Option Int) : D := match r with | some v => .tup [iN v,.bool true] | none => .tup [iN 0,.bool false]
theorem LK {p : List Nd} (hp : y2 p) : ∀ (k : Nat) (v a : Int),InP p v -> LD p k v = some a -> InP p a
 | 0,v,a,hv,h => by
  unfold LD at h
  split at h
  ·cases h; exact JX hp hv (.inl ‹_›)
  ·cases h
 | k + 1,v,a,hv,h => by
  unfold LD at h
  split at h
  ·exact LK hp k _ a (KY hp hv ‹_›) h
  ·cases h
theorem UA {p : List Nd} (hp : y2 p) : ∀ (k : Nat) (v : Int),InP p v -> ∀ x ∈ (GX p k v).1,InP p x
 | 0,v,hv,x,hx => by simp [GX] at hx
 | k + 1,v,hv,x,hx => by
  unfold GX at hx
  split at hx
  ·rename_i h5
   rcases List.mem_cons.1 hx with rfl | hx
   ·exact JX hp hv (.inl h5)
   ·exact UA hp k _ (KY hp hv h5) x hx
  ·simp at hx
theorem RM {p : List Nd} : ∀ (k : Nat) (v : Int),(GX p k v).1.length <= k
 | 0,v => by simp [GX]
 | k + 1,v => by
  unfold GX
  split
  ·have := RM (p := p) k (nod p v).b; simp only [lnC]; omega
  ·simp
end Go.Eng
/-! which nodes are alike: both sides -/
namespace Go.Eng
open Go.Proofs Go.Proofs.Tryz
set_option maxHeartbeats 4000000

noncomputable def clV (keys : List Nd) (y : Nd) (i : Nat) : Int := match keys.findIdx? (fun z => RQ z y) with | some k => (k : Int) | none => (i : Int)
theorem Xj {l : List Int} (h : l.length < 4294967290) (x : Int) : decide (ni (l.map eI ++ [iN x]).length <= LIM) = true :=
 decide_eq_true (by rw [pE]; simp only [ni,lnA,lnM,lnC,lnN]; omega)
theorem Ff {R : Type} {l : List Int} {v : Int} (h0 : 0 <= v) (h1 : v < (l.length : Int)) (K : Int -> Option R) : grd (decide (0 <= v) && decide (v < ni (l.map eI).length)) (cT (l.map eI) v.toNat fun x => asI .i64 x fun n => K n) = K (l.getD v.toNat 0) := by
 obtain ⟨x,hx⟩ := xx (l := l) (i := v.toNat) (by omega)
 rw [yu (by rw [lnM]; simp only [ni,Bool.and_eq_true,decide_eq_true_eq]; exact ⟨h0,h1⟩),xW hx,ye,List.getD_eq_getElem?_getD,hx]; rfl
theorem OQ (x : Nd) (r : List Nd) (out : List Int) (keys : List Nd) : Th (x :: r) out keys = Th r (out ++ [clV keys (De out x) out.length]) (keys ++ [De out x]) := rfl
theorem QY : ∀ (r : List Nd) (out : List Int) (keys : List Nd),(Th r out keys).1.length = out.length + r.length
 | [],out,keys => rfl
 | x :: r,out,keys => by
  rw [OQ,QY r]; simp only [lnA,lnC,lnN]; omega
theorem QZ (p : List Nd) : (VH p).length = p.length := by
 unfold VH; rw [QY]; simp
theorem WW (x : Nd) {R : Type} (K : Int -> Int -> ByteArray -> Int -> Int -> Option R) : tk6 (eN x) (fun n4 n7 s10 n13 n16 => (K n4 n7 s10 n13 n16)) = K x.kind x.n x.s x.a x.b := rfl
theorem Uy {keys : List Nd} (h : keys.length < 4294967290) (y : Nd) : decide (ni (keys.map eN ++ [eN y]).length <= LIM) = true :=
 decide_eq_true (by rw [pE]; simp only [ni,lnA,lnM,lnC,lnN]; omega)
theorem Il {p keys : List Nd} {out : List Int} {i : Nat} (hi : i < 4294967290) (hk : keys.length = i) (ho : out.length = i) (y : Nd) : ∀ (k j : Nat),j + k = i -> (∀ t,t < j -> ∀ z,keys[t]? = some z -> RQ z y = false) ->
  y6 (i : Int) (i : Int) (j : Int) (p.map eN) (out.map eI) (keys.map eN) y.kind y.n y.s y.a y.b = zF ((i + 1 : Nat) : Int) (p.map eN) ((out ++ [clV keys y i]).map eI) ((keys ++ [y]).map eN)
 | 0,j,hj,hn => by
  have hnone : keys.findIdx? (fun z => RQ z y) = none := by
   rw [List.findIdx?_eq_none_iff]
   intro z hz
   obtain ⟨t,ht⟩ := List.getElem?_of_mem hz
   exact hn t (by have := aQ ht; omega) z ht
  have ek : keys.map eN ++ [D.agg [iN y.kind,iN y.n,D.str y.s,iN y.a,iN y.b]] = (keys ++ [y]).map eN := by simp
  have el : out.map eI ++ [iN (i : Int)] = (out ++ [clV keys y i]).map eI := by simp [clV,hnone]
  have hkl : decide (ni ((keys ++ [y]).map eN).length <= LIM) = true := by have := Uy (keys := keys) (by omega) y; simpa using this
  have hol := Xj (l := out) (by omega) (i : Int)
  rw [Cu,xb (decide_eq_false (by omega)),ek,yu hkl,yA,yu hol,yA,el,yM (by omega)]
 | k + 1,j,hj,hn => by
  obtain ⟨z,hz⟩ := xx (l := keys) (i := j) (by omega)
  have ek : keys.map eN ++ [D.agg [iN y.kind,iN y.n,D.str y.s,iN y.a,iN y.b]] = (keys ++ [y]).map eN := by simp
  have hkl : decide (ni ((keys ++ [y]).map eN).length <= LIM) = true := by have := Uy (keys := keys) (by omega) y; simpa using this
  have hol := Xj (l := out) (by omega) (j : Int)
  rw [Cu,xK (decide_eq_true (by omega)),yu (by rw [lnM]; exact yx (by omega)),Int.toNat_natCast,xW hz,WW]
  have et : (z.kind == y.kind && (z.n == y.n && (kc z.s y.s && (z.a == y.a && (z.b == y.b && true))))) = RQ z y := by simp [RQ]
  rw [et]
  cases hq : RQ z y with
  | false =>
   rw [xJ,yM (by omega)]
   refine Il hi hk ho y k (j + 1) (by omega) (fun t ht u hu => ?_)
   rcases Nat.lt_or_ge t j with h | h
   ·exact hn t h u hu
   ·have : t = j := by omega
    subst this
    rw [hz] at hu; cases hu; exact hq
  | true =>
   have hsome : keys.findIdx? (fun z => RQ z y) = some j := by
    rw [List.findIdx?_eq_some_iff_getElem]
    have hlt := aQ hz
    refine ⟨hlt,?_,fun t ht => ?_⟩
    ·rw [List.getElem?_eq_getElem hlt] at hz; cases hz; exact hq
    ·have htl : t < keys.length := by omega
     have := hn t ht keys[t] (List.getElem?_eq_getElem htl)
     simp [this]
   have el : out.map eI ++ [iN (j : Int)] = (out ++ [clV keys y i]).map eI := by simp [clV,hsome]
   rw [yk,ek,yu hkl,yA,yu hol,yA,el,yM (by omega)]
theorem Jk {p : List Nd} (hp : y2 p) (hl : p.length < 4294967290) : ∀ (k i : Nat) (keys : List Nd) (out : List Int),i + k = p.length -> out.length = i -> keys.length = i ->
  zF (i : Int) (p.map eN) (out.map eI) (keys.map eN) = some (.os (1,0) ((Th (p.drop i) out keys).1.map eI),[])
 | 0,i,keys,out,hi,ho,hk => by
  rw [CQ,xb (by rw [lnM]; exact yr (by omega)),List.drop_of_length_le (by omega)]
  rfl
 | k + 1,i,keys,out,hi,ho,hk => by
  obtain ⟨x,hx⟩ := xx (l := p) (i := i) (by omega)
  have hxo := hp i x hx
  rw [CQ,xK (by rw [lnM]; exact yz (by omega)),yu (by rw [lnM]; exact yx (by omega)),Int.toNat_natCast,xW hx,GY,tU hx,OQ,ho]
  have fin : ∀ (y : Nd),y = De out x -> y6 (i : Int) (i : Int) 0 (p.map eN) (out.map eI) (keys.map eN) y.kind y.n y.s y.a y.b = some (.os (1,0) ((Th (p.drop (i + 1)) (out ++ [clV keys (De out x) i]) (keys ++ [De out x])).1.map eI),[]) := by
   rintro y rfl
   have h1 := Il (p := p) (i := i) (by omega) hk ho (De out x) i 0 (Nat.zero_add _) (fun t ht => by omega)
   rw [Int.natCast_zero] at h1
   rw [h1]
   exact Jk hp hl k (i + 1) _ _ (by omega) (by simp [ho]) (by simp [hk])
  by_cases h5 : x.kind = 5
  ·have hb := zx hxo h5
   rw [xK (yF h5),Ff hb.1 (by omega),Ff hb.2.2.1 (by omega)]
   exact fin ⟨x.kind,x.n,x.s,out.getD x.a.toNat 0,out.getD x.b.toNat 0⟩ (by simp only [De,h5,if_true])
  ·rw [xb (yE h5)]
   by_cases h6 : x.kind = 6
   ·have hb := Au hxo (.inl h6)
    rw [xK (yF h6),xK (yF h6),Ff hb.1 (by omega)]
    exact fin ⟨x.kind,x.n,x.s,out.getD x.a.toNat 0,x.b⟩ (by simp only [De,h6]; simp)
   ·rw [xb (yE h6)]
    by_cases h7 : x.kind = 7
    ·have hb := Au hxo (.inr h7)
     rw [xK (yF h7),Ff hb.1 (by omega)]
     exact fin ⟨x.kind,x.n,x.s,out.getD x.a.toNat 0,x.b⟩ (by simp only [De,h7]; simp)
    ·rw [xb (yE h7)]
     exact fin x (by simp only [De,h5,h6,h7,if_false,or_self])
theorem SJ {p : List Nd} (hp : y2 p) (hl : p.length < 4294967290) : V 252 [eP p] = some (.os (1,0) ((VH p).map eI),[]) := by
 have h := Jk hp hl p.length 0 [] [] (Nat.zero_add _) rfl rfl
 rw [Int.natCast_zero] at h
 rw [Ly]
 exact h
end Go.Eng
/-! what is built in: both sides -/
namespace Go.Eng
noncomputable section
open Go.Proofs Go.Proofs.Tryz
set_option maxHeartbeats 4000000

theorem JS {R : Type} {l : List Int} {v x : Int} (h0 : 0 <= v) (h : l[v.toNat]? = some x) (K : Int -> Option R) : grd (decide (0 <= v) && decide (v < ni (l.map eI).length)) (cT (l.map eI) v.toNat fun x => asI .i64 x fun n => K n) = K x := by
 have := aQ h
 rw [Ff h0 (by omega),List.getD_eq_getElem?_getD,h]; rfl
theorem AY {R : Type} {a : Int} {r : List Int} (K : Int -> Option R) : grd (decide ((0 : Nat) <= 0) && decide ((0 : Int) < ni ((a :: r).map eI).length)) (cT ((a :: r).map eI) 0 fun x => asI .i64 x fun n => K n) = K a := JS (l := a :: r) (v := 0) (by omega) rfl K
theorem Gu {R : Type} {a b : Int} {r : List Int} (K : Int -> Option R) : grd (decide ((0 : Nat) <= 1) && decide ((1 : Int) < ni ((a :: b :: r).map eI).length)) (cT ((a :: b :: r).map eI) 1 fun x => asI .i64 x fun n => K n) = K b := JS (l := a :: b :: r) (v := 1) (by omega) rfl K
theorem VT {R : Type} {a b c : Int} {r : List Int} (K : Int -> Option R) : grd (decide ((0 : Nat) <= 2) && decide ((2 : Int) < ni ((a :: b :: c :: r).map eI).length)) (cT ((a :: b :: c :: r).map eI) 2 fun x => asI .i64 x fun n => K n) = K c := JS (l := a :: b :: c :: r) (v := 2) (by omega) rfl K
theorem Gv : nz ⟨#[]⟩ = true := by unfold nz; rw [Cm]; simp
theorem LH {n : Int} : V 245 [iN n] = some (iN (zl n),[]) := by
 rw [Mj,zB (zU _ _ _)]
 unfold zl
 cases h : wi n 1 19 with
 | false => rfl
 | true =>
  have hb := wi_iff.1 h
  rw [Bool.not_true,xJ]
  have e : prArgs.getD (n - 1).toNat 0 = (0 :: prArgs).getD n.toNat 0 := by
   have : n.toNat = (n - 1).toNat + 1 := by omega
   rw [this]; rfl
  simp only [if_true]
  rw [e]
  exact Ff (l := 0 :: prArgs) (by omega) (by show n < 20; omega) _
theorem Wg {R : Type} {l : List (List UInt8)} {i : Nat} {x : List UInt8} (h : l[i]? = some x) (K : ByteArray -> Option R) : grd (decide (0 <= (i : Int)) && decide ((i : Int) < ni (l.map fun x => D.str (mk x)).length)) (cT (l.map fun x => D.str (mk x)) (i : Int).toNat fun x => asS x fun n => K n) = K (mk x) := by
 have := aQ h
 rw [yu (by rw [lnM]; exact yx this),Int.toNat_natCast,xW h,yi]
theorem Vq (a b : ByteArray) : kc a b = kc b a := by
 rw [Cm,Cm]
 exact decide_eq_decide.2 ⟨Eq.symm,Eq.symm⟩
theorem Nq (s : ByteArray) : 0 <= D5 s /\ D5 s <= 19 := by
 unfold D5 ya
 cases h : prNames.findIdx? fun x => kc s (mk x) with
 | none => simp
 | some k =>
  rw [List.findIdx?_eq_some_iff_getElem] at h
  obtain ⟨hk,_⟩ := h
  have : prNames.length = 19 := rfl
  simp only; omega
theorem Iu (s : ByteArray) : ∀ (k i : Nat),i + k = 19 -> BX s ((i + 1 : Nat) : Int) (([] :: prNames).map fun x => D.str (mk x)) = some (iN (dQ (fun x => kc s (mk x)) prNames i + 1),[])
 | 0,i,hi => by
  have : i = 19 := by omega
  subst this
  rw [EH,xb (decide_eq_false (by omega)),w8 (by decide)]
  rfl
 | k + 1,i,hi => by
  obtain ⟨x,hx⟩ := xx (l := prNames) (i := i) (by show i < 19; omega)
  have hx' : ([] :: prNames)[i + 1]? = some x := hx
  have ih := Iu s k (i + 1) (by omega)
  rw [EH,xK (decide_eq_true (by omega)),Wg hx',Vq]
  cases h : kc s (mk x) with
  | true => rw [yk,w9 hx h]; rfl
  | false => rw [xJ,yM (by omega),ih,wJ hx h]
theorem OG (s : ByteArray) : V 232 [.str s] = some (iN (D5 s),[]) := by
 have h := Iu s 19 0 (Nat.zero_add _)
 rw [wK] at h
 have h2 : V 239 [] = some (.os (1,0) (([] :: prNames).map fun x => D.str (mk x)),[]) := Oj
 rw [PW,QE h2]
 exact h
theorem Gl (b : Bool) : V 251 [.bool b] = some (eN (ndB b),[]) := by
 rw [Ql]; cases b <;> rfl
def GJ (n a b : Int) : Nd := if n = 1 then ndI (a + b) else if n = 2 then ndI (a - b) else if n = 3 then ndI (a * b) else if n = 4 then ndB (decide (a < b)) else ndB (a == b)
theorem U9 {a b : Int} (ha : -1000000000 <= a /\ a <= 1000000000) (hb : -1000000000 <= b /\ b <= 1000000000) : -1000000000000000000 <= a * b /\ a * b <= 1000000000000000000 := by
 have h1 : a.natAbs <= 1000000000 := by omega
 have h2 : b.natAbs <= 1000000000 := by omega
 have h3 : (a * b).natAbs <= 1000000000 * 1000000000 := by rw [Int.natAbs_mul]; exact Nat.mul_le_mul h1 h2
 omega
theorem W7 {x : Nd} {h : Int} (ho : okN x h = true) : x.s.size <= 12 := by
 have nz0 : nz x.s = true -> x.s.size <= 12 := by
  intro e
  unfold nz at e
  rw [Cm] at e
  rw [of_decide_eq_true e]; decide
 have nm : GI x.s = true -> x.s.size <= 12 := by
  intro e
  unfold GI at e
  simp only [Bool.and_eq_true] at e
  have := wi_iff.1 e.1
  omega
 unfold okN at ho
 repeat' split at ho
 all_goals first | cases ho | skip
 all_goals (simp only [Bool.and_eq_true] at ho; first | exact nz0 ho.2.1 | exact nm ho.2.1)
theorem Gy {p : List Nd} (hp : y2 p) : Ac p := fun x hx => by
 obtain ⟨j,hj⟩ := List.getElem?_of_mem hx
 have := W7 (hp j x hj)
 omega
theorem UH {x : Nd} {h : Int} (ho : okN x h = true) (hk : x.kind = 3) : -1000000000 <= x.n /\ x.n <= 1000000000 := by
 simp [okN,hk] at ho
 exact wi_iff.1 ho.1
def NT (p : List Nd) (n : Int) (v : Int) : Bool := if n <= 5 then (nod p v).kind == 3 else if n = 7 \/ n = 8 then (nod p v).kind == 5 else true
def Yl (p : List Nd) (r : Except Int (List Nd × Int)) : Option Ret := match r with
 | .ok (q,v) => some (.tup [iN v,iN 0],[rP q])
 | .error h => some (.tup [iN (-1),iN h],[rP p])
def GA (p : List Nd) (n : Int) (l : List Int) : Nd :=
 let x := nod p (l.getD 0 0); let y := nod p (l.getD 1 0)
 if n = 6 then ndP (l.getD 0 0) (l.getD 1 0)
 else if n = 9 then ndB (x.kind == 1)
 else if n = 10 then ndB (x.kind == 5)
 else if n = 11 then ndB (Xk p (l.getD 0 0) (l.getD 1 0))
 else if n = 12 then ndB (x.kind == 2 && x.n == 0)
 else GJ n x.n y.n
theorem FX {n : Int} {l : List Int} (hlen : (l.length : Int) = zl n) (h : 1 <= n /\ n <= 6 \/ n = 11) : ∃ a b,l = [a,b] := by
 have h2 : zl n = 2 := by
  have : n = 1 \/ n = 2 \/ n = 3 \/ n = 4 \/ n = 5 \/ n = 6 \/ n = 11 := by omega
  rcases this with rfl | rfl | rfl | rfl | rfl | rfl | rfl <;> rfl
 rw [h2] at hlen
 match l,hlen with
 | [a,b],_ => exact ⟨a,b,rfl⟩
 | [],h => simp at h
 | [_],h => simp at h
 | _ :: _ :: _ :: _,h => simp at h; omega
theorem LT {n : Int} {l : List Int} (hlen : (l.length : Int) = zl n) (h : 7 <= n /\ n <= 10 \/ n = 12) : ∃ a,l = [a] := by
 have h2 : zl n = 1 := by
  have : n = 7 \/ n = 8 \/ n = 9 \/ n = 10 \/ n = 12 := by omega
  rcases this with rfl | rfl | rfl | rfl | rfl <;> rfl
 rw [h2] at hlen
 match l,hlen with
 | [a],_ => exact ⟨a,rfl⟩
 | [],h => simp at h
 | _ :: _ :: _,h => simp at h; omega
theorem TT {p : List Nd} (_ : y2 p) {n : Int} {l : List Int} (hv : ∀ v ∈ l,InP p v) (hlen : (l.length : Int) = zl n) (_ : 1 <= n /\ n <= 12) (_ : n ≠ 7 /\ n ≠ 8) (hw : wi (GA p n l).n (-1000000000) 1000000000 = true) : okN (GA p n l) p.length = true := by
 have hB : ∀ b,okN (ndB b) p.length = true := by intro b; cases b <;> simp [ndB,okN,wi,Gv]
 unfold GA at hw ⊢
 simp only at hw ⊢
 by_cases h6 : n = 6
 ·rw [if_pos h6]
  obtain ⟨a,b,rfl⟩ := FX hlen (by omega)
  have ha := hv a (by simp)
  have hb := hv b (by simp)
  show (wi 0 0 0 && (nz ⟨#[]⟩ && (wi a 0 _ && wi b 0 _))) = true
  rw [wi_iff.2 ⟨ha.1,by omega⟩,wi_iff.2 ⟨hb.1,by omega⟩,Gv]
  rfl
 rw [if_neg h6] at hw ⊢
 by_cases h9 : n = 9
 ·rw [if_pos h9]; exact hB _
 rw [if_neg h9] at hw ⊢
 by_cases h10 : n = 10
 ·rw [if_pos h10]; exact hB _
 rw [if_neg h10] at hw ⊢
 by_cases h11 : n = 11
 ·rw [if_pos h11]; exact hB _
 rw [if_neg h11] at hw ⊢
 by_cases hn12 : n = 12
 ·rw [if_pos hn12]; exact hB _
 rw [if_neg hn12] at hw ⊢
 unfold GJ at hw ⊢
 have hI : ∀ x,wi x (-1000000000) 1000000000 = true -> okN (ndI x) p.length = true := fun x hx => by
  show (wi x (-1000000000) 1000000000 && (nz ⟨#[]⟩ && _)) = true
  rw [hx,Gv]; rfl
 split at hw
 ·rw [if_pos ‹_›]; exact hI _ hw
 rw [if_neg ‹_›]
 split at hw
 ·rw [if_pos ‹_›]; exact hI _ hw
 rw [if_neg ‹_›]
 split at hw
 ·rw [if_pos ‹_›]; exact hI _ hw
 rw [if_neg ‹_›]
 split <;> exact hB _
theorem J5 {p : List Nd} {n : Int} {l : List Int} (h12 : 1 <= n /\ n <= 12) (hlen : (l.length : Int) = zl n) : J4 p n l =
  if l.all (NT p n) = true then (if n = 7 then .ok (p,(nod p (l.getD 0 0)).a) else if n = 8 then .ok (p,(nod p (l.getD 0 0)).b) else if wi (GA p n l).n (-1000000000) 1000000000 = true then .ok (p ++ [GA p n l],p.length) else .error 4) else .error 3 := by
 unfold J4
 simp only
 have hBw : ∀ b,wi (ndB b).n (-1000000000) 1000000000 = true := by intro b; cases b <;> rfl
 by_cases h5 : n <= 5
 ·obtain ⟨a,b,rfl⟩ := FX hlen (by omega)
  have hc : [a,b].all (NT p n) = true ↔ (nod p a).kind = 3 /\ (nod p b).kind = 3 := by
   simp [NT,h5]
  rw [if_pos h5]
  simp only [List.getD_cons_zero,List.getD_cons_succ]
  by_cases hk : (nod p a).kind = 3 /\ (nod p b).kind = 3
  ·have n7 : ¬ n = 7 := by omega
   have n8 : ¬ n = 8 := by omega
   rw [if_pos hk,if_pos (hc.2 hk),if_neg n7,if_neg n8]
   have e : GA p n [a,b] = GJ n (nod p a).n (nod p b).n := by
    unfold GA
    simp only [List.getD_cons_zero,List.getD_cons_succ]
    rw [if_neg (by omega),if_neg (by omega),if_neg (by omega),if_neg (by omega),if_neg (by omega)]
   rw [e]
   rfl
  ·rw [if_neg hk,if_neg (fun h => hk (hc.1 h))]
 rw [if_neg h5]
 by_cases h6 : n = 6
 ·subst h6
  have hc : l.all (NT p 6) = true := by simp [NT]
  rw [hc]
  simp only [if_true,GA]
  rfl
 rw [if_neg h6]
 by_cases h78 : n = 7 \/ n = 8
 ·obtain ⟨a,rfl⟩ := LT hlen (by omega)
  have hc : [a].all (NT p n) = true ↔ (nod p a).kind = 5 := by simp [NT,h5,h78]
  rw [if_pos h78]
  simp only [List.getD_cons_zero]
  by_cases hk : (nod p a).kind = 5
  ·rw [if_pos hk,if_pos (hc.2 hk)]
   rcases h78 with rfl | rfl <;> rfl
  ·rw [if_neg hk,if_neg (fun h => hk (hc.1 h))]
 have hc : l.all (NT p n) = true := by simp [NT,h5,h78]
 rw [if_neg h78,if_pos hc,if_neg (fun h => h78 (.inl h)),if_neg (fun h => h78 (.inr h))]
 unfold GA
 simp only
 rw [if_neg h6]
 by_cases h9 : n = 9
 ·simp only [h9,if_true]; rw [if_pos (hBw _)]
 rw [if_neg h9,if_neg h9]
 by_cases h10 : n = 10
 ·simp only [h10,if_true]; rw [if_pos (hBw _)]
 rw [if_neg h10,if_neg h10]
 by_cases h11 : n = 11
 ·simp only [h11,if_true]; rw [if_pos (hBw _)]
 have hn12 : n = 12 := by omega
 rw [if_neg h11,if_neg h11,if_pos hn12,if_pos (hBw _)]
theorem Uj {n : Int} (h5 : 1 <= n /\ n <= 5) {x y : Nd} (hx : x.kind = 3 -> -1000000000 <= x.n /\ x.n <= 1000000000) (hy : y.kind = 3 -> -1000000000 <= y.n /\ y.n <= 1000000000) :
  ∃ z,V 250 [iN n,eN x,eN y] = some (.tup [eN (if x.kind = 3 /\ y.kind = 3 /\ wi (GJ n x.n y.n).n (-1000000000) 1000000000 = true then GJ n x.n y.n else z),iN (if x.kind = 3 /\ y.kind = 3 then (if wi (GJ n x.n y.n).n (-1000000000) 1000000000 = true then 0 else 4) else 3)],[]) := by
 have hBw : ∀ b,wi (ndB b).n (-1000000000) 1000000000 = true := by intro b; cases b <;> rfl
 refine ⟨⟨0,0,⟨#[]⟩,0,0⟩,?_⟩
 rw [Mr]
 by_cases k1 : x.kind = 3
 ·rw [xb (yG k1)]
  by_cases k2 : y.kind = 3
  ·have a1 := hx k1
   have a2 := hy k2
   have hm := U9 a1 a2
   have hk : x.kind = 3 /\ y.kind = 3 := ⟨k1,k2⟩
   rw [xb (yG k2),if_pos hk]
   have fin : ∀ (q : Int),GJ n x.n y.n = ndI q -> (jb V 62 [iN q,iN (-1000000000),iN 1000000000] fun v0 v1 => asB v0 fun b => unn v1 (br (!b) (some (D.tup [.agg [iN 0,iN 0,.str ⟨#[]⟩,iN 0,iN 0],iN 4],[])) (some (D.tup [.agg [iN 3,iN q,.str ⟨#[]⟩,iN 0,iN 0],iN 0],([] : List D))))) =
     some (D.tup [eN (if x.kind = 3 /\ y.kind = 3 /\ wi (GJ n x.n y.n).n (-1000000000) 1000000000 = true then GJ n x.n y.n else ⟨0,0,⟨#[]⟩,0,0⟩),iN (if wi (GJ n x.n y.n).n (-1000000000) 1000000000 = true then 0 else 4)],[]) := by
    intro q hq
    rw [zB (zU _ _ _),hq]
    simp only
    cases hw : wi q (-1000000000) 1000000000 with
    | false => rw [if_neg (by simp),if_neg (by simp)]; rfl
    | true => rw [if_pos ⟨k1,k2,rfl⟩,if_pos rfl]; rfl
   have My : ∀ b,GJ n x.n y.n = ndB b -> (jb V 251 [.bool b] fun v0 v1 => tk6 v0 fun n4 n7 s10 n13 n16 => (unn v1 (some (D.tup [.agg [iN n4,iN n7,.str s10,iN n13,iN n16],iN 0],([] : List D))))) =
     some (D.tup [eN (if x.kind = 3 /\ y.kind = 3 /\ wi (GJ n x.n y.n).n (-1000000000) 1000000000 = true then GJ n x.n y.n else ⟨0,0,⟨#[]⟩,0,0⟩),iN (if wi (GJ n x.n y.n).n (-1000000000) 1000000000 = true then 0 else 4)],[]) := by
    intro b hb
    rw [BH (Gl b),hb,if_pos ⟨k1,k2,hBw b⟩,if_pos (hBw b)]
   have w1 : w6 (x.n - y.n) = x.n - y.n := w64 (by omega) (by omega)
   have w2 : w6 (x.n * y.n) = x.n * y.n := w64 (by omega) (by omega)
   have w3 : w6 (x.n + y.n) = x.n + y.n := w64 (by omega) (by omega)
   rw [w1,w2,w3]
   by_cases c2 : n = 2
   ·rw [xK (yF c2)]; exact fin _ (by subst c2; rfl)
   rw [xb (yE c2)]
   by_cases c3 : n = 3
   ·rw [xK (yF c3)]; exact fin _ (by subst c3; rfl)
   rw [xb (yE c3)]
   by_cases c4 : n = 4
   ·rw [xK (yF c4)]; exact My _ (by subst c4; rfl)
   rw [xb (yE c4)]
   by_cases c5 : n = 5
   ·rw [xK (yF c5)]; exact My _ (by subst c5; rfl)
   rw [xb (yE c5)]
   have c1 : n = 1 := by omega
   exact fin _ (by subst c1; rfl)
  ·rw [xK (yH k2),if_neg (fun h => k2 h.2.1),if_neg (fun h => k2 h.2)]
 ·rw [xK (yH k1),if_neg (fun h => k1 h.1),if_neg (fun h => k1 h.1)]
theorem XC {p : List Nd} (hp : y2 p) (hl : p.length < 4294967290) {n : Int} {l : List Int} (hv : ∀ v ∈ l,InP p v) (h12 : 1 <= n /\ n <= 12) (hlen : (l.length : Int) = zl n) :
  V 246 [rP p,iN n,.rs (1,0) (l.map eI)] = Yl p (J4 p n l) := by
 obtain ⟨a,r,rfl⟩ : ∃ a r,l = a :: r := by
  by_cases h : n <= 6 \/ n = 11
  ·obtain ⟨a,b,rfl⟩ := FX hlen (by omega); exact ⟨_,_,rfl⟩
  ·obtain ⟨a,rfl⟩ := LT hlen (by omega); exact ⟨_,_,rfl⟩
 have ha := hv a (by simp)
 rw [Tw,AY,Fu ha]
 unfold J4
 simp only [List.getD_cons_zero]
 by_cases h5 : n <= 5
 ·obtain ⟨a',b,e⟩ := FX hlen (by omega)
  cases e
  have hb := hv b (by simp)
  obtain ⟨z,hz⟩ := Uj (n := n) (by omega) (x := nod p a) (y := nod p b) (UH (GZ hp ha)) (UH (GZ hp hb))
  rw [xK (decide_eq_true h5),if_pos h5,Gu,Fu hb,Ox hz]
  simp only [List.getD_cons_zero,List.getD_cons_succ]
  by_cases hk : (nod p a).kind = 3 /\ (nod p b).kind = 3
  ·have e : (if n = 1 then ndI ((nod p a).n + (nod p b).n) else if n = 2 then ndI ((nod p a).n - (nod p b).n) else if n = 3 then ndI ((nod p a).n * (nod p b).n) else if n = 4 then ndB (decide ((nod p a).n < (nod p b).n)) else ndB ((nod p a).n == (nod p b).n)) = GJ n (nod p a).n (nod p b).n := rfl
   rw [if_pos hk,if_pos hk,e]
   by_cases hw : wi (GJ n (nod p a).n (nod p b).n).n (-1000000000) 1000000000 = true
   ·have hc : (nod p a).kind = 3 /\ (nod p b).kind = 3 /\ wi (GJ n (nod p a).n (nod p b).n).n (-1000000000) 1000000000 = true := ⟨hk.1,hk.2,hw⟩
    rw [if_pos hw,if_pos hw,xb (yG rfl)]
    simp only [if_pos hc]
    rw [yU (y7 (by omega) (GJ n (nod p a).n (nod p b).n))]
    rfl
   ·rw [if_neg hw,if_neg hw]; rfl
  ·rw [if_neg hk,if_neg hk]; rfl
 rw [xb (decide_eq_false h5),if_neg h5]
 by_cases h6 : n = 6
 ·obtain ⟨a',b,e⟩ := FX hlen (by omega)
  cases e
  rw [xK (yF h6),if_pos h6,AY,Gu,yU (y7 (by omega) (ndP a b))]
  rfl
 rw [xb (yE h6),if_neg h6]
 by_cases h8 : n <= 8
 ·rw [xK (decide_eq_true h8),if_pos (by omega)]
  by_cases hk : (nod p a).kind = 5
  ·rw [xb (yG hk),if_pos hk]
   by_cases h7 : n = 7
   ·rw [xK (yF h7),if_pos h7]; rfl
   ·rw [xb (yE h7),if_neg h7]; rfl
  ·rw [xK (yH hk),if_neg hk]; rfl
 rw [xb (decide_eq_false h8),if_neg (by omega)]
 by_cases h9 : n = 9
 ·rw [xK (yF h9),if_pos h9,BH (Gl _),yU (y7 (by omega) (ndB _))]; rfl
 rw [xb (yE h9),if_neg h9]
 by_cases h10 : n = 10
 ·rw [xK (yF h10),if_pos h10,BH (Gl _),yU (y7 (by omega) (ndB _))]; rfl
 rw [xb (yE h10),if_neg h10]
 by_cases h11 : n = 11
 ·obtain ⟨a',b,e⟩ := FX hlen (by omega)
  cases e
  have hb := hv b (by simp)
  rw [xK (yF h11),if_pos h11,Nc (SJ hp hl),AY,Ff ha.1 (by rw [QZ]; exact ha.2),Gu,Ff hb.1 (by rw [QZ]; exact hb.2),BH (Gl _),yU (y7 (by omega) (ndB _))]
  rfl
 rw [xb (yE h11),if_neg h11]
 cases hk2 : (nod p a).kind == 2 with
 | true => rw [yk,BH (Gl _),yU (y7 (by omega) (ndB _)),Bool.true_and]; rfl
 | false => rw [xJ,BH (Gl _),yU (y7 (by omega) (ndB _)),Bool.false_and]; rfl
end
end Go.Eng
/-! a step of a machine keeps it right: plain -/
namespace Go.Eng

theorem za {p : List Nd} (hp : y2 p) {x : Nd} (hx : okN x p.length = true) : y2 (p ++ [x]) := by
 intro j y hy
 rcases Nat.lt_or_ge j p.length with h | h
 ·rw [List.getElem?_append_left h] at hy; exact hp j y hy
 ·rw [List.getElem?_append_right h] at hy
  have : j = p.length := by have := aQ hy; simp at this; omega
  subst this
  simp at hy; subst hy; exact hx
theorem QI (h : Int) : okN ndN h = true := by
 show (wi 0 0 0 && (nz ⟨#[]⟩ && _)) = true
 rw [Gv]; rfl
theorem IE {a b : Int} {n : Nat} (ha : 0 <= a /\ a < (n : Int)) (hb : 0 <= b /\ b < (n : Int)) : okN (ndP a b) n = true := by
 show (wi 0 0 0 && (nz ⟨#[]⟩ && (wi a 0 _ && wi b 0 _))) = true
 rw [wi_iff.2 ⟨ha.1,by omega⟩,wi_iff.2 ⟨hb.1,by omega⟩,Gv]; rfl
theorem QH {n h : Int} (hn : -1000000000 <= n /\ n <= 1000000000) : okN (ndI n) h = true := by
 show (wi n (-1000000000) 1000000000 && (nz ⟨#[]⟩ && _)) = true
 rw [wi_iff.2 hn,Gv]; rfl
theorem UI {k a : Int} {n : Nat} (hk : 0 <= k /\ k <= 1000000000) (ha : 0 <= a /\ a < (n : Int)) : okN (ndF k a) n = true := by
 show (wi k 0 1000000000 && (nz ⟨#[]⟩ && (wi a 0 _ && _))) = true
 rw [wi_iff.2 hk,wi_iff.2 ⟨ha.1,by omega⟩,Gv]; rfl
theorem UJ {a : Int} {n : Nat} (ha : 0 <= a /\ a < (n : Int)) : okN (ndK a) n = true := by
 show (wi 0 0 0 && (nz ⟨#[]⟩ && (wi a 0 _ && _))) = true
 rw [wi_iff.2 ⟨ha.1,by omega⟩,Gv]; rfl
theorem WZ {k h : Int} (hk : 0 <= k /\ k <= 99) : okN (ndR k) h = true := by
 show (wi k 0 99 && (nz ⟨#[]⟩ && _)) = true
 rw [wi_iff.2 hk,Gv]; rfl
theorem zR (p : List Nd) (x : Nd) : InP (p ++ [x]) (p.length : Int) := ⟨by omega,by simp only [lnA,lnC,lnN]; omega⟩
theorem JV : ∀ (r : List Int) (q : List Nd) (c : Nat),y2 q -> c < q.length -> (∀ v ∈ r,InP q v) -> y2 (AI r q c).1 /\ (∃ t,(AI r q c).1 = q ++ t /\ t.length = r.length) /\ (AI r q c).2 < (AI r q c).1.length
 | [],q,c,hq,hc,hr => ⟨hq,⟨[],by simp [AI],rfl⟩,hc⟩
 | x :: r,q,c,hq,hc,hr => by
  have hx := hr x (by simp)
  obtain ⟨h1,⟨t,h2,h3⟩,h4⟩ := JV r (q ++ [ndP x c]) q.length (za hq (IE hx ⟨by omega,by omega⟩)) (by simp) (fun v hv => yW _ (hr v (by simp [hv])))
  exact ⟨h1,⟨ndP x c :: t,by rw [AI,h2]; simp,by simp [h3]⟩,h4⟩
theorem CX {q : List Nd} {row : List Int} (hq : y2 q) (hr : ∀ v ∈ row,InP q v) : y2 (yV q row).1 /\ (∃ t,(yV q row).1 = q ++ t /\ t.length = row.length + 1) /\ InP (yV q row).1 ((yV q row).2 : Int) := by
 obtain ⟨h1,⟨t,h2,h3⟩,h4⟩ := JV row.reverse (q ++ [ndN]) q.length (za hq (QI _)) (by simp) (fun v hv => yW _ (hr v (by simpa using hv)))
 refine ⟨h1,⟨ndN :: t,by unfold yV; rw [h2]; simp,by simp [h3]⟩,⟨by omega,?_⟩⟩
 have : (yV q row).2 < (yV q row).1.length := h4
 omega
structure GM (m : Mc) : Prop where
 ok : y2 m.pool
 s : InP m.pool m.s
 e : InP m.pool m.e
 d : InP m.pool m.d
theorem GB {m : Mc} (h : GM m) {v : Int} (hv : InP m.pool v) : GM (LG m v) :=
 ⟨za h.ok (IE hv h.s),zR _ _,yW _ h.e,yW _ h.d⟩
theorem D9 {m m' : Mc} (h : GM m) {v : Int} (ht : Fk m = some (v,m')) : GM m' /\ InP m'.pool v /\ m'.pool = m.pool /\ m'.at' = m.at' /\ m'.state = m.state /\ m'.ask = m.ask /\ m'.arg = m.arg /\ m'.d = m.d := by
 obtain ⟨h1,h2,h3,h4,h5,h6,h7,h8,h9⟩ := SF h.ok h.s ht
 exact ⟨⟨by rw [h2]; exact h.ok,by rw [h2]; exact h3,by rw [h2,h4]; exact h.e,by rw [h2,h5]; exact h.d⟩,by rw [h2]; exact h1,h2,h6,h7,h8,h9,h5⟩
theorem IK : ∀ {k : Nat} {m m' : Mc} {l : List Int},GM m -> FF k m = some (l,m') -> GM m' /\ (∀ v ∈ l,InP m'.pool v) /\ l.length = k /\ m'.pool = m.pool /\ m'.at' = m.at' /\ m'.state = m.state /\ m'.ask = m.ask /\ m'.arg = m.arg /\ m'.d = m.d
 | 0,m,m',l,h,ht => by
  simp only [FF,Option.some.injEq,Prod.mk.injEq] at ht
  obtain ⟨rfl,rfl⟩ := ht
  exact ⟨h,by simp,rfl,rfl,rfl,rfl,rfl,rfl,rfl⟩
 | k + 1,m,m',l,h,ht => by
  simp only [FF] at ht
  split at ht
  ·cases ht
  ·rename_i v m1 h1
   split at ht
   ·cases ht
   ·rename_i l2 m2 h2
    cases ht
    obtain ⟨g1,g2,g3,g4,g5,g6,g7,g8⟩ := D9 h h1
    obtain ⟨f1,f2,f3,f4,f5,f6,f7,f8,f9⟩ := IK g1 h2
    refine ⟨f1,fun u hu => ?_,by simp [f3],f4.trans g3,f5.trans g4,f6.trans g5,f7.trans g6,f8.trans g7,f9.trans g8⟩
    rcases List.mem_cons.1 hu with rfl | hu
    ·rw [f4]; exact g2
    ·exact f2 u hu
theorem IA {p : List Nd} (hp : y2 p) {v : Int} (hv : InP p v) : ∀ x ∈ (zP p v).1,InP p x := UA hp _ v hv
theorem O7 {c : Cd} {p : List Nd} (hp : y2 p) {v : Int} (hv : InP p v) {many : Nat} {n : Int} {r : List Int} (h : Jv c p v many = some (n,r)) : AA c n = true /\ (∀ x ∈ r,InP p x) /\ r.length + 1 = many := by
 unfold Jv at h
 split at h
 ·rename_i a r' he
  split at h
  ·rename_i hc
   cases h
   have := IA hp hv
   rw [he] at this
   exact ⟨hc.2.2,fun x hx => this x (by simp [hx]),hc.1⟩
  ·cases h
 ·cases h
structure GoesM (c : Cd) (m m' : Mc) (k : Nat) : Prop where
 gm : GM m'
 ext : ∃ t,m'.pool = m.pool ++ t /\ t.length <= k
 st : IZ c m' = true
theorem Gg {c : Cd} {m : Mc} (h0 : m.state = 0) (h1 : m.ask = 0) (h2 : m.arg = 0) (h3 : AA c m.at' = true) : IZ c m = true := by
 unfold IZ
 rw [if_pos h0,h1,h2]
 unfold AA at h3
 rw [h3]; rfl
structure RunM (c : Cd) (m : Mc) : Prop where
 gm : GM m
 st : m.state = 0
 ask : m.ask = 0
 arg : m.arg = 0
 pl : AA c m.at' = true
theorem isPl_iff {c : Cd} {n : Int} : AA c n = true ↔ 0 <= n /\ n <= (c.list.length : Int) - 1 := wi_iff
theorem Rl {c : Cd} (hc : c.list.length <= 400) {m m' : Mc} (h : RunM c m) {f : Nd} (hf : InP m.pool f.a) {l : List Int} (hl : ∀ v ∈ l,InP m.pool v) (he : Kw c m f l = .ok m') : GoesM c m m' (l.length + 9) := by
 unfold Kw at he
 split at he
 ·cases he
 split at he
 ·cases he
 rename_i h1 h2
 have hpl := isPl_iff.1 h.pl
 simp only [Except.ok.injEq] at he
 have o1 : y2 (m.pool ++ [ndI (m.at' + 1)]) := za h.gm.ok (QH (by omega))
 obtain ⟨b1,⟨t,b2,b3⟩,b4⟩ := CX (row := [(m.pool.length : Int),m.s,m.e]) o1 (fun v hv => by
  simp only [List.mem_cons,List.not_mem_nil,or_false] at hv
  rcases hv with rfl | rfl | rfl
  ·exact zR _ _
  ·exact yW _ h.gm.s
  ·exact yW _ h.gm.e)
 have e1 : (yV (m.pool ++ [ndI (m.at' + 1)]) [(m.pool.length : Int),m.s,m.e]).1 = m.pool ++ (ndI (m.at' + 1) :: t) := by rw [b2]; simp
 have up : ∀ {v : Int},InP m.pool v -> InP (yV (m.pool ++ [ndI (m.at' + 1)]) [(m.pool.length : Int),m.s,m.e]).1 v := fun hv => by rw [e1]; exact yW _ hv
 have o2 := za b1 (IE b4 (up h.gm.d))
 obtain ⟨v1,⟨t2,v2,v3⟩,v4⟩ := CX (row := l) o2 (fun v hv => yW _ (up (hl v hv)))
 have up2 : ∀ {v : Int},InP ((yV (m.pool ++ [ndI (m.at' + 1)]) [(m.pool.length : Int),m.s,m.e]).1 ++ [ndP ((yV (m.pool ++ [ndI (m.at' + 1)]) [(m.pool.length : Int),m.s,m.e]).2 : Int) m.d]) v -> InP (yV ((yV (m.pool ++ [ndI (m.at' + 1)]) [(m.pool.length : Int),m.s,m.e]).1 ++ [ndP ((yV (m.pool ++ [ndI (m.at' + 1)]) [(m.pool.length : Int),m.s,m.e]).2 : Int) m.d]) l).1 v := fun hv => by rw [v2]; exact yW _ hv
 have o3 := za v1 (IE v4 (up2 (yW _ (up hf))))
 have o4 := za o3 (QI _)
 subst he
 refine ⟨⟨o4,?_,?_,?_⟩,⟨ndI (m.at' + 1) :: t ++ [ndP ((yV (m.pool ++ [ndI (m.at' + 1)]) [(m.pool.length : Int),m.s,m.e]).2 : Int) m.d] ++ t2 ++ [ndP ((yV ((yV (m.pool ++ [ndI (m.at' + 1)]) [(m.pool.length : Int),m.s,m.e]).1 ++ [ndP ((yV (m.pool ++ [ndI (m.at' + 1)]) [(m.pool.length : Int),m.s,m.e]).2 : Int) m.d]) l).2 : Int) f.a] ++ [ndN],?_,?_⟩,?_⟩
 ·have := zR ((yV ((yV (m.pool ++ [ndI (m.at' + 1)]) [(m.pool.length : Int),m.s,m.e]).1 ++ [ndP ((yV (m.pool ++ [ndI (m.at' + 1)]) [(m.pool.length : Int),m.s,m.e]).2 : Int) m.d]) l).1 ++ [ndP ((yV ((yV (m.pool ++ [ndI (m.at' + 1)]) [(m.pool.length : Int),m.s,m.e]).1 ++ [ndP ((yV (m.pool ++ [ndI (m.at' + 1)]) [(m.pool.length : Int),m.s,m.e]).2 : Int) m.d]) l).2 : Int) f.a]) ndN
  simpa using this
 ·exact yW _ (zR _ _)
 ·exact yW _ (yW _ (up2 (zR _ _)))
 ·show _ ++ _ ++ _ = _
  rw [v2,b2]
  simp
 ·simp only [lnA,lnC,lnN,b3,v3]; omega
 ·exact Gg h.st h.ask h.arg (by simpa using h2)
theorem Vl {c : Cd} {m m' : Mc} (h : RunM c m) {st : Int} (hs : InP m.pool st) {l : List Int} (hl : ∀ v ∈ l,InP m.pool v) (he : Vk c m st l = .ok m') : GoesM c m m' 1 := by
 unfold Vk at he
 split at he
 ·cases he
 rename_i h1
 split at he
 ·rename_i n s e d hf
  obtain ⟨f1,f2,f3⟩ := O7 h.gm.ok hs hf
  cases he
  have hv : InP m.pool (l.getD 0 0) := by
   match l,h1 with
   | [v],_ => exact hl v (by simp)
   | [],h => simp at h
   | _ :: _ :: _,h => simp at h
  have g : GM ⟨m.pool,n,s,e,d,m.state,m.ask,m.arg⟩ := ⟨h.gm.ok,f2 s (by simp),f2 e (by simp),f2 d (by simp)⟩
  exact ⟨GB g hv,⟨[_],rfl,Nat.le_refl _⟩,Gg h.st h.ask h.arg f1⟩
 ·cases he
theorem SA {p q : List Nd} (hp : y2 p) {n v : Int} {l : List Int} (hv : ∀ v ∈ l,InP p v) (h12 : 1 <= n /\ n <= 12) (hlen : (l.length : Int) = zl n) (h : J4 p n l = .ok (q,v)) : y2 q /\ InP q v /\ ∃ t,q = p ++ t /\ t.length <= 1 := by
 rw [J5 h12 hlen] at h
 split at h
 ·rename_i hc
  have one : n = 7 \/ n = 8 -> ∃ a,l = [a] /\ (nod p a).kind = 5 := by
   intro h78
   obtain ⟨a,rfl⟩ := LT hlen (by omega)
   have := List.all_eq_true.1 hc a (by simp)
   refine ⟨a,rfl,?_⟩
   have h5 : ¬ n <= 5 := by omega
   simpa [NT,h5,h78] using this
  split at h
  ·rename_i h7
   cases h
   obtain ⟨a,rfl,hk⟩ := one (.inl h7)
   exact ⟨hp,JX hp (hv a (by simp)) (.inl hk),[],by simp,by simp⟩
  ·split at h
   ·rename_i h7 h8
    cases h
    obtain ⟨a,rfl,hk⟩ := one (.inr h8)
    exact ⟨hp,KY hp (hv a (by simp)) hk,[],by simp,by simp⟩
   ·rename_i h7 h8
    split at h
    ·rename_i hw
     cases h
     exact ⟨za hp (TT hp hv hlen h12 ⟨h7,h8⟩ hw),zR _ _,_,rfl,Nat.le_refl _⟩
    ·cases h
 ·cases h
theorem Ck {n : Int} {k : Nat} (h : zl n = (k : Int)) : 1 <= n /\ n <= 19 /\ k <= 2 := by
 unfold zl at h
 split at h
 ·rename_i hw
  have := wi_iff.1 hw
  refine ⟨this.1,this.2,?_⟩
  have hm : prArgs.getD (n - 1).toNat 0 <= 2 := by
   rcases Nat.lt_or_ge (n - 1).toNat prArgs.length with h | h
   ·have := List.getElem_mem (l := prArgs) h
    rw [List.getD_eq_getElem?_getD,List.getElem?_eq_getElem h,Option.getD_some]
    have all : ∀ x ∈ prArgs,x <= 2 := by decide
    exact all _ this
   ·rw [List.getD_eq_getElem?_getD,List.getElem?_eq_none h]; decide
  omega
 ·omega
theorem LU {c : Cd} (hc : c.list.length <= 400) : ∀ (k : Nat) {m m' : Mc} {f : Int} {l : List Int},RunM c m -> AA c (m.at' + 1) = true -> InP m.pool f -> (∀ v ∈ l,InP m.pool v) -> l.length <= 4 -> Ga c k m f l = .ok m' -> ∃ t,GoesM c m m' t /\ t <= 13 + 7 * k
 | 0,m,m',f,l,h,hnx,hf,hl,h4,he => by cases he
 | k + 1,m,m',f,l,h,hnx,hf,hl,h4,he => by
  unfold Ga at he
  simp only at he
  split at he
  ·rename_i h6
   exact ⟨_,Rl hc h (JX h.gm.ok hf (.inr (.inl h6))) hl he,by omega⟩
  split at he
  ·rename_i h6 h8
   split at he
   ·cases he
   rename_i hargs
   have hargs : zl (nod m.pool f).n = (l.length : Int) := by omega
   obtain ⟨n1,n19,l2⟩ := Ck hargs
   split at he
   ·rename_i h18
    have hpl := isPl_iff.1 h.pl
    have o1 : y2 (m.pool ++ [ndI (m.at' + 1)]) := za h.gm.ok (QH (by omega))
    obtain ⟨b1,⟨t,b2,b3⟩,b4⟩ := CX (row := [(m.pool.length : Int),m.s,m.e,m.d]) o1 (fun v hv => by
     simp only [List.mem_cons,List.not_mem_nil,or_false] at hv
     rcases hv with rfl | rfl | rfl | rfl
     ·exact zR _ _
     ·exact yW _ h.gm.s
     ·exact yW _ h.gm.e
     ·exact yW _ h.gm.d)
    have e1 : (yV (m.pool ++ [ndI (m.at' + 1)]) [(m.pool.length : Int),m.s,m.e,m.d]).1 = m.pool ++ (ndI (m.at' + 1) :: t) := by rw [b2]; simp
    have up : ∀ {v : Int},InP m.pool v -> InP ((yV (m.pool ++ [ndI (m.at' + 1)]) [(m.pool.length : Int),m.s,m.e,m.d]).1 ++ [ndK ((yV (m.pool ++ [ndI (m.at' + 1)]) [(m.pool.length : Int),m.s,m.e,m.d]).2 : Int)]) v := fun hv => yW _ (by rw [e1]; exact yW _ hv)
    have hl0 : InP m.pool (l.getD 0 0) := by
     match l,hargs with
     | v :: _,_ => exact hl v (by simp)
     | [],h => rw [h18] at h; cases h
    have g2 : RunM c ⟨(yV (m.pool ++ [ndI (m.at' + 1)]) [(m.pool.length : Int),m.s,m.e,m.d]).1 ++ [ndK ((yV (m.pool ++ [ndI (m.at' + 1)]) [(m.pool.length : Int),m.s,m.e,m.d]).2 : Int)],m.at',m.s,m.e,m.d,m.state,m.ask,m.arg⟩ :=
     ⟨⟨za b1 (UJ b4),up h.gm.s,up h.gm.e,up h.gm.d⟩,h.st,h.ask,h.arg,h.pl⟩
    obtain ⟨q,⟨g3,⟨t3,g4,g5⟩,g6⟩,g7⟩ := LU hc k g2 hnx (up hl0) (fun v hv => by
     simp only [List.mem_singleton] at hv; subst hv; exact zR _ _) (by simp) he
    refine ⟨q + 7,⟨g3,⟨ndI (m.at' + 1) :: t ++ [ndK ((yV (m.pool ++ [ndI (m.at' + 1)]) [(m.pool.length : Int),m.s,m.e,m.d]).2 : Int)] ++ t3,?_,?_⟩,g6⟩,by omega⟩
    ·rw [g4]
     show _ ++ _ ++ _ = _
     rw [b2]
     simp
    ·simp only [lnA,lnC,lnN,b3]; omega
   split at he
   ·rename_i h18 h12
    simp only [Except.ok.injEq] at he
    obtain ⟨b1,⟨t,b2,b3⟩,b4⟩ := CX (row := l) h.gm.ok hl
    subst he
    have up : ∀ {v : Int},InP m.pool v -> InP (yV m.pool l).1 v := fun hv => by rw [b2]; exact yW _ hv
    refine ⟨l.length + 1,⟨⟨b1,up h.gm.s,up h.gm.e,up h.gm.d⟩,⟨t,b2,by omega⟩,?_⟩,by omega⟩
    unfold IZ
    have hpl : wi m.at' 0 ((c.list.length : Int) - 1) = true := h.pl
    have hn : wi (nod m.pool f).n 13 19 = true := wi_iff.2 ⟨by omega,n19⟩
    have hr : JR (yV m.pool l).1 ((yV m.pool l).2 : Int) = true := wi_iff.2 ⟨b4.1,by have := b4.2; omega⟩
    simp only
    rw [if_neg (by omega),if_pos trivial,hpl,hn,hr,yH h18]
    rfl
   split at he
   ·cases he
   ·rename_i h18 h12 p v hp
    cases he
    obtain ⟨q1,q2,t,q3,q4⟩ := SA h.gm.ok hl (by omega) hargs.symm hp
    have up : ∀ {v : Int},InP m.pool v -> InP p v := fun hv => by rw [q3]; exact yW _ hv
    refine ⟨2,⟨⟨za q1 (IE q2 (up h.gm.s)),zR _ _,yW _ (up h.gm.e),yW _ (up h.gm.d)⟩,⟨t ++ [ndP v m.s],by show p ++ _ = _; rw [q3]; simp,by simp; omega⟩,?_⟩,by omega⟩
    exact Gg h.st h.ask h.arg hnx
  split at he
  ·rename_i h6 h8 h7
   exact ⟨1,Vl h (JX h.gm.ok hf (.inr (.inr h7))) hl he,by omega⟩
  ·cases he
theorem NQ {c : Cd} (hc : c.list.length <= 400) {m m' : Mc} (h : RunM c m) {k : Nat} (hk : k <= 4) (he : CT c m k = .ok m') : ∃ t,GoesM c m m' t /\ t <= 34 := by
 unfold CT at he
 split at he
 ·cases he
 rename_i hnx
 split at he
 ·cases he
 ·rename_i l m1 ht
  obtain ⟨f1,f2,f3,f4,f5,f6,f7,f8,f9⟩ := IK h.gm ht
  have g : RunM c m1 := ⟨f1,f6.trans h.st,f7.trans h.ask,f8.trans h.arg,by rw [f5]; exact h.pl⟩
  have hrev : ∀ v ∈ l.reverse,InP m1.pool v := fun v hv => f2 v (by simpa using hv)
  obtain ⟨a,r,hr⟩ : ∃ a r,l.reverse = a :: r := by
   cases hq : l.reverse with
   | nil => rw [<- List.length_reverse,hq] at f3; simp at f3
   | cons a r => exact ⟨a,r,rfl⟩
  rw [hr] at he hrev
  have hlen : r.length = k := by rw [<- List.length_reverse,hr] at f3; simpa using f3
  obtain ⟨t,⟨g1,⟨q,g2,g3⟩,g4⟩,g5⟩ := LU hc 3 g (by rw [f5]; simpa using hnx) (hrev a (by simp)) (fun v hv => hrev v (by simpa using .inr hv)) (by simpa using (by omega : r.length <= 4)) he
  exact ⟨t,⟨g1,⟨q,by rw [g2,f4],g3⟩,g4⟩,by omega⟩
theorem Tg {c : Cd} {m m' : Mc} (h : RunM c m) (he : KT c m = .ok m') : GoesM c m m' 1 := by
 unfold KT at he
 split at he
 ·cases he
 ·rename_i v m1 ht
  obtain ⟨f1,f2,f4,f5,f6,f7,f8,f9⟩ := D9 h.gm ht
  simp only at he
  split at he
  ·cases he
   refine ⟨⟨f1.ok,f1.s,f1.e,f1.d⟩,⟨[],by rw [List.append_nil]; exact f4,by simp⟩,?_⟩
   unfold IZ
   have hv : JR m1.pool v = true := wi_iff.2 ⟨f2.1,by have := f2.2; omega⟩
   show (if (2 : Int) = 0 then _ else if (2 : Int) = 1 then _ else if (2 : Int) = 2 then _ else _) = true
   rw [if_neg (by omega),if_neg (by omega),if_pos rfl,hv,f7,h.ask]
   rfl
  ·split at he
   ·cases he
   ·rename_i h1 h5
    have h5 : (nod m1.pool m1.d).kind = 5 := by simpa using h5
    split at he
    ·rename_i n s e hf
     obtain ⟨q1,q2,q3⟩ := O7 f1.ok (JX f1.ok f1.d (.inl h5)) hf
     cases he
     have g : GM ⟨m1.pool,n,s,e,(nod m1.pool m1.d).b,m1.state,m1.ask,m1.arg⟩ := ⟨f1.ok,q2 s (by simp),q2 e (by simp),KY f1.ok f1.d h5⟩
     exact ⟨GB g f2,⟨[_],by rw [<- f4]; rfl,Nat.le_refl _⟩,Gg (f6.trans h.st) (f7.trans h.ask) (f8.trans h.arg) q1⟩
    ·cases he
theorem CU {q p : List Nd} (hq : yR q = true) (hp : y2 p) {v : Int} (hv : InP q v) (d : Int) : y2 (zu d q v p).1 /\ InP (zu d q v p).1 (zu d q v p).2 /\ ∃ t,(zu d q v p).1 = p ++ t /\ t.length <= q.length := by
 obtain ⟨h1,h2⟩ := MR hq hp [v] d
 have hr : z9 q [v] = true := by
  simp only [z9,List.all_cons,List.all_nil,Bool.and_true]
  exact wi_iff.2 ⟨hv.1,by omega⟩
 have hon := Ij hr v (by simp)
 obtain ⟨x,hx⟩ := xx (l := q) (i := v.toNat) (by omega)
 obtain ⟨j,hj,hj2⟩ := h2 v.toNat x hx hon
 refine ⟨h1,?_,?_⟩
 ·unfold zu
  simp only
  rw [List.getD_eq_getElem?_getD,hj,Option.getD_some]
  have := aQ hj2
  exact ⟨by omega,by omega⟩
 ·obtain ⟨r,hr⟩ := MY d q (Dk q [v]) q.length [] p
  have hl := MU d q (Dk q [v]) q.length [] p
  refine ⟨r,hr,?_⟩
  rw [hr] at hl
  simp only [lnA] at hl
  omega
theorem KQ {c : Cd} (hc : zw c = true) {k : Nat} {x : In} (hx : c.list[k]? = some x) : Gz c x k = true := by
 unfold zw at hc
 simp only [Bool.and_eq_true] at hc
 have key : ∀ (n i : Nat),Da c i n = true -> ∀ j,i <= j -> j < i + n -> ∀ x,c.list[j]? = some x -> Gz c x j = true := by
  intro n
  induction n with
  | zero => intro i _ j h1 h2; omega
  | succ n ih =>
   intro i h j h1 h2 x hx
   simp only [Da,Bool.and_eq_true] at h
   rcases Nat.lt_or_ge i j with hij | hij
   ·exact ih (i + 1) h.2 j hij (by omega) x hx
   ·have : j = i := by omega
    subst this
    have h3 := h.1
    rw [hx] at h3
    exact h3
 exact key c.list.length 0 hc.2.2.2.1 k (Nat.zero_le _) (by have := aQ hx; omega) x hx
theorem Pf {c : Cd} (hc : zw c = true) {k : Nat} {x : Df} (hx : c.defs[k]? = some x) : TP c x k = true := by
 unfold zw at hc
 simp only [Bool.and_eq_true] at hc
 have key : ∀ (n i : Nat),Bq c i n = true -> ∀ j,i <= j -> j < i + n -> ∀ x,c.defs[j]? = some x -> TP c x j = true := by
  intro n
  induction n with
  | zero => intro i _ j h1 h2; omega
  | succ n ih =>
   intro i h j h1 h2 x hx
   simp only [Bq,Bool.and_eq_true] at h
   rcases Nat.lt_or_ge i j with hij | hij
   ·exact ih (i + 1) h.2 j hij (by omega) x hx
   ·have : j = i := by omega
    subst this
    have h3 := h.1
    rw [hx] at h3
    exact h3
 exact key c.defs.length 0 hc.2.2.2.2 k (Nat.zero_le _) (by have := aQ hx; omega) x hx
theorem zn {c : Cd} (hc : zw c = true) : yR c.pool = true /\ c.list.length <= 400 /\ c.defs.length <= 20 := by
 unfold zw at hc
 simp only [Bool.and_eq_true,decide_eq_true_eq] at hc
 exact ⟨hc.1,hc.2.1,hc.2.2.1⟩
theorem Gf {c : Cd} {m : Mc} {r : Except Int Mc} {next : Int} {m' : Mc} {k : Nat} (hr : ∀ m1,r = .ok m1 -> GM m1 /\ (∃ t,m1.pool = m.pool ++ t /\ t.length <= k) /\ m1.state = 0 /\ m1.ask = 0 /\ m1.arg = 0) (he : goM c r next = .ok m') : GoesM c m m' k := by
 unfold goM at he
 split at he
 ·cases he
 ·rename_i m1
  obtain ⟨h1,h2,h3,h4,h5⟩ := hr m1 rfl
  split at he
  ·rename_i hp
   cases he
   exact ⟨⟨h1.ok,h1.s,h1.e,h1.d⟩,h2,Gg h3 h4 h5 hp⟩
  ·cases he
theorem Xd {m m1 : Mc} (h : GM m) {o i : Int} (he : WA m o i = .ok m1) : GM m1 /\ (∃ t,m1.pool = m.pool ++ t /\ t.length <= 1) /\ m1.state = m.state /\ m1.ask = m.ask /\ m1.arg = m.arg := by
 unfold WA at he
 split at he
 ·cases he
 ·rename_i fr hfr
  split at he
  ·cases he
  ·rename_i v hv
   cases he
   exact ⟨GB h (LK h.ok _ _ _ (LK h.ok _ _ _ h.e hfr) hv),⟨[_],rfl,Nat.le_refl _⟩,rfl,rfl,rfl⟩
theorem OZ {c : Cd} {s : ByteArray} (h : 0 <= Cg c s) : ∃ d,c.defs[(Cg c s).toNat]? = some d := by
 have hb : Cg c s < (c.defs.length : Int) := by
  unfold Cg ya at h ⊢
  cases hq : c.defs.findIdx? (fun d : Df => kc d.name s) with
  | none => rw [hq] at h; simp at h
  | some k =>
   rw [List.findIdx?_eq_some_iff_getElem] at hq
   obtain ⟨hk,_⟩ := hq
   simp only; omega
 exact xx (by omega)
theorem VQ {c : Cd} (hc : zw c = true) {m m1 : Mc} (h : GM m) {s : ByteArray} (he : KV c m s = .ok m1) : GM m1 /\ (∃ t,m1.pool = m.pool ++ t /\ t.length <= 3) /\ m1.state = m.state /\ m1.ask = m.ask /\ m1.arg = m.arg := by
 obtain ⟨_,c2,_⟩ := zn hc
 unfold KV at he
 split at he
 ·rename_i hd
  obtain ⟨d,hdg⟩ := OZ hd
  have hok := Pf hc hdg
  unfold TP at hok
  simp only [Bool.and_eq_true] at hok
  have a1 := wi_iff.1 hok.2.2.1
  have a2 := wi_iff.1 hok.2.2.2
  simp only [List.getD_eq_getElem?_getD,hdg,Option.getD_some,Except.ok.injEq] at he
  subst he
  have o1 := za h.ok (QI (m.pool.length : Int))
  have o2 := za o1 (UI (k := 8 * d.at' + d.args) (a := (m.pool.length : Int)) (n := (m.pool ++ [ndN]).length) (by omega) ⟨by omega,by simp only [lnA,lnC,lnN]; omega⟩)
  have g : GM ⟨m.pool ++ [ndN] ++ [ndF (8 * d.at' + d.args) m.pool.length],m.at',m.s,m.e,m.d,m.state,m.ask,m.arg⟩ := ⟨o2,yW _ (yW _ h.s),yW _ (yW _ h.e),yW _ (yW _ h.d)⟩
  refine ⟨GB g ⟨by omega,by simp only [lnA,lnC,lnN]; omega⟩,⟨_,by show _ ++ _ ++ _ ++ _ = _; rw [List.append_assoc,List.append_assoc],by simp⟩,rfl,rfl,rfl⟩
 ·split at he
  ·cases he
  ·simp only [Except.ok.injEq] at he
   subst he
   have hb := Nq s
   have o1 := za h.ok (WZ (k := D5 s) (h := (m.pool.length : Int)) (by omega))
   have g : GM ⟨m.pool ++ [ndR (D5 s)],m.at',m.s,m.e,m.d,m.state,m.ask,m.arg⟩ := ⟨o1,yW _ h.s,yW _ h.e,yW _ h.d⟩
   exact ⟨GB g (zR _ _),⟨_,by show _ ++ _ ++ _ = _; rw [List.append_assoc],by simp⟩,rfl,rfl,rfl⟩
theorem Sq {c : Cd} {x : In} {k : Int} (h : Gz c x k = true) (h1 : x.op = 1) : InP c.pool x.n := by
 unfold Gz at h
 rw [if_pos h1] at h
 simp only [Bool.and_eq_true] at h
 have := wi_iff.1 h.1
 exact ⟨this.1,by omega⟩
theorem VY {c : Cd} {x : In} {k : Int} (h : Gz c x k = true) (h1 : x.op = 2) : (0 <= x.n /\ x.n <= 20) /\ 0 <= x.i /\ x.i <= 3 := by
 unfold Gz at h
 rw [if_neg (by omega),if_pos h1] at h
 simp only [Bool.and_eq_true] at h
 exact ⟨wi_iff.1 h.1,wi_iff.1 h.2.1⟩
theorem Sp {c : Cd} {x : In} {k : Int} (h : Gz c x k = true) (h1 : x.op = 6) : (k + 1 <= x.n /\ x.n <= (c.list.length : Int) - 1) /\ 0 <= x.i /\ x.i <= 4 := by
 unfold Gz at h
 rw [if_neg (by omega),if_neg (by omega),if_neg (by omega),if_neg (by omega),if_pos h1] at h
 simp only [Bool.and_eq_true] at h
 exact ⟨wi_iff.1 h.1,wi_iff.1 h.2.1⟩
theorem Ph {c : Cd} {x : In} {k : Int} (h : Gz c x k = true) (h1 : x.op = 7) : 0 <= x.i /\ x.i <= 4 := by
 unfold Gz at h
 rw [if_neg (by omega),if_neg (by omega),if_neg (by omega),if_neg (by omega),if_neg (by omega),if_pos h1] at h
 simp only [Bool.and_eq_true] at h
 exact wi_iff.1 h.2.1
theorem Sw {c : Cd} (hc : zw c = true) {m m' : Mc} (h : RunM c m) {x : In} {k : Nat} (hx : c.list[k]? = some x) (he : Jx c m x = .ok m') : GoesM c m m' (c.pool.length + 3) := by
 have hok := KQ hc hx
 have hk := aQ hx
 obtain ⟨c1,c2,_⟩ := zn hc
 unfold Jx at he
 split at he
 ·rename_i h1
  have hlit := Sq hok h1
  obtain ⟨f1,f2,t,f3,f4⟩ := CU c1 h.gm.ok hlit (-1)
  refine Gf (fun m1 e => ?_) he
  cases e
  have up : ∀ {v : Int},InP m.pool v -> InP (zu (-1) c.pool x.n m.pool).1 v := fun hv => by rw [f3]; exact yW _ hv
  have g : GM ⟨(zu (-1) c.pool x.n m.pool).1,m.at',m.s,m.e,m.d,m.state,m.ask,m.arg⟩ := ⟨f1,up h.gm.s,up h.gm.e,up h.gm.d⟩
  refine ⟨GB g f2,⟨t ++ [_],by show (zu (-1) c.pool x.n m.pool).1 ++ _ = _; rw [f3,List.append_assoc],by simp; omega⟩,h.st,h.ask,h.arg⟩
 split at he
 ·refine Gf (fun m1 e => ?_) he
  obtain ⟨g1,⟨t,g2,g3⟩,g4,g5,g6⟩ := Xd h.gm e
  exact ⟨g1,⟨t,g2,by omega⟩,g4.trans h.st,g5.trans h.ask,g6.trans h.arg⟩
 split at he
 ·refine Gf (fun m1 e => ?_) he
  obtain ⟨g1,⟨t,g2,g3⟩,g4,g5,g6⟩ := VQ hc h.gm e
  exact ⟨g1,⟨t,g2,by omega⟩,g4.trans h.st,g5.trans h.ask,g6.trans h.arg⟩
 split at he
 ·refine Gf (fun m1 e => ?_) he
  cases e
  exact ⟨h.gm,⟨[],by simp,by simp⟩,h.st,h.ask,h.arg⟩
 split at he
 ·rename_i h6
  have hf := Sp hok h6
  refine Gf (fun m1 e => ?_) he
  cases e
  have o1 := za h.gm.ok (UI (k := 8 * x.n + x.i) (n := m.pool.length) (by omega) h.gm.e)
  have g : GM ⟨m.pool ++ [ndF (8 * x.n + x.i) m.e],m.at',m.s,m.e,m.d,m.state,m.ask,m.arg⟩ := ⟨o1,yW _ h.gm.s,yW _ h.gm.e,yW _ h.gm.d⟩
  exact ⟨GB g (zR _ _),⟨_,by show _ ++ _ ++ _ = _; rw [List.append_assoc],by simp⟩,h.st,h.ask,h.arg⟩
 ·split at he
  ·cases he
  ·rename_i v m1 ht
   obtain ⟨f1,f2,f4,f5,f6,f7,f8,f9⟩ := D9 h.gm ht
   refine Gf (fun m2 e => ?_) he
   cases e
   exact ⟨f1,⟨[],by simp [f4],by simp⟩,f6.trans h.st,f7.trans h.ask,f8.trans h.arg⟩
theorem Su {c : Cd} {m : Mc} (h : Db c m = true) (h0 : m.state = 0) : RunM c m /\ zw c = true /\ m.pool.length <= 3000 := by
 unfold Db at h
 simp only [Bool.and_eq_true] at h
 obtain ⟨h1,h2,h3,h4,h5,h6⟩ := h
 obtain ⟨p1,p2⟩ := okPool_iff.1 h2
 have a3 := wi_iff.1 h3
 have a4 := wi_iff.1 h4
 have a5 := wi_iff.1 h5
 unfold IZ at h6
 rw [if_pos h0] at h6
 simp only [Bool.and_eq_true,beq_iff_eq] at h6
 exact ⟨⟨⟨p1,⟨a3.1,by omega⟩,⟨a4.1,by omega⟩,⟨a5.1,by omega⟩⟩,h0,h6.2.1,h6.2.2,h6.1⟩,h1,p2⟩
theorem UL {c : Cd} {m : Mc} (h : RunM c m) : ∃ x,c.list[m.at'.toNat]? = some x := by
 have := isPl_iff.1 h.pl
 exact xx (by omega)
theorem Rf {c : Cd} (hc : zw c = true) {m m' : Mc} (h : RunM c m) (he : doM c m = .ok m') : GoesM c m m' (c.pool.length + 34) := by
 obtain ⟨x,hx⟩ := UL h
 have hok := KQ hc hx
 obtain ⟨c1,c2,_⟩ := zn hc
 unfold doM at he
 simp only [List.getD_eq_getElem?_getD,hx,Option.getD_some] at he
 split at he
 ·rename_i h7
  have := Ph hok h7
  obtain ⟨t,⟨g1,⟨q,g2,g3⟩,g4⟩,g5⟩ := NQ c2 h (k := x.i.toNat) (by omega) he
  exact ⟨g1,⟨q,g2,by omega⟩,g4⟩
 split at he
 ·obtain ⟨g1,⟨q,g2,g3⟩,g4⟩ := Tg h he
  exact ⟨g1,⟨q,g2,by omega⟩,g4⟩
 ·obtain ⟨g1,⟨q,g2,g3⟩,g4⟩ := Sw hc h hx he
  exact ⟨g1,⟨q,g2,by omega⟩,g4⟩
theorem QG {c : Cd} {m : Mc} (hc : zw c = true) (hp : y2 m.pool) (hl : m.pool.length <= 3000) (hs : InP m.pool m.s) (he : InP m.pool m.e) (hd : InP m.pool m.d) (ht : IZ c m = true) : Db c m = true := by
 unfold Db
 have h1 : yR m.pool = true := okPool_iff.2 ⟨hp,hl⟩
 have h2 : JR m.pool m.s = true := wi_iff.2 ⟨hs.1,by omega⟩
 have h3 : JR m.pool m.e = true := wi_iff.2 ⟨he.1,by omega⟩
 have h4 : JR m.pool m.d = true := wi_iff.2 ⟨hd.1,by omega⟩
 rw [hc,h1,h2,h3,h4,ht]
 rfl
theorem AL {c : Cd} {m : Mc} (h : Db c m = true) : zw c = true /\ y2 m.pool /\ m.pool.length <= 3000 /\ InP m.pool m.s /\ InP m.pool m.e /\ InP m.pool m.d /\ IZ c m = true := by
 unfold Db at h
 simp only [Bool.and_eq_true] at h
 obtain ⟨h1,h2,h3,h4,h5,h6⟩ := h
 obtain ⟨p1,p2⟩ := okPool_iff.1 h2
 have a3 := wi_iff.1 h3
 have a4 := wi_iff.1 h4
 have a5 := wi_iff.1 h5
 exact ⟨h1,p1,p2,⟨a3.1,by omega⟩,⟨a4.1,by omega⟩,⟨a5.1,by omega⟩,h6⟩
theorem RF {c : Cd} {m : Mc} (h : Db c m = true) {k : Int} (hk : 1 <= k /\ k <= 7) : Db c (Gd m k) = true := by
 obtain ⟨h1,h2,h3,h4,h5,h6,_⟩ := AL h
 refine QG h1 h2 h3 h4 h5 h6 ?_
 unfold IZ Gd
 simp only
 rw [if_neg (by omega),if_neg (by omega),if_neg (by omega),wi_iff.2 hk]
 rfl
end Go.Eng
/-! a step of a machine: the program's side: calls -/
namespace Go.Eng
open Go.Proofs Go.Proofs.Tryz
set_option maxHeartbeats 4000000

theorem KX {α : Type} {f : α -> D} {l : List α} {k : Int} (h : (l.length : Int) = k) : ni (l.map f).length = k := by rw [lnM]; exact h
theorem Pc {α : Type} {f : α -> D} {l : List α} {k : Int} (h : ¬ (l.length : Int) = k) : ¬ ni (l.map f).length = k := by rw [lnM]; exact h
theorem XB {c : Cd} (hc : c.list.length <= 400) (n : Int) : V 57 [eCd c,iN n] = some (.bool (AA c n),[]) := Po (by omega) n
theorem VP {c : Cd} {p : List Nd} {v : Int} {many : Nat} {xs : List Int} {b : Bool} (h : zP p v = (xs,b)) (hm : 0 < many) : Jv c p v many = if b = true /\ xs.length = many /\ (nod p (xs.getD 0 0)).kind = 3 /\ AA c (nod p (xs.getD 0 0)).n = true then some ((nod p (xs.getD 0 0)).n,xs.drop 1) else none := by
 unfold Jv
 rw [h]
 cases b with
 | false => rw [if_neg (fun h => by simp at h)]; cases xs <;> rfl
 | true =>
  cases xs with
  | nil => rw [if_neg (fun h => by have := h.2.1; simp at this; omega)]
  | cons a r =>
   simp only [lnC,List.getD_cons_zero,true_and,List.drop_one,List.tail_cons]
end Go.Eng
/-! a step of a machine: the program's side: whole -/
namespace Go.Eng
open Go.Proofs Go.Proofs.Tryz
set_option maxHeartbeats 4000000

theorem MO : ∀ (r : List Int) (q : List Nd) (c : Nat),∃ t,(AI r q c).1 = q ++ t
 | [],q,c => ⟨[],by simp [AI]⟩
 | x :: r,q,c => by
  obtain ⟨t,h⟩ := MO r (q ++ [ndP x c]) q.length
  exact ⟨ndP x c :: t,by rw [AI,h]; simp⟩
theorem U4 (q : List Nd) (row : List Int) : ∃ t,(yV q row).1 = q ++ t := by
 obtain ⟨t,h⟩ := MO row.reverse (q ++ [ndN]) q.length
 exact ⟨ndN :: t,by unfold yV; rw [h]; simp⟩
theorem RV (p : List Nd) (x : Nd) : nod (p ++ [x]) (p.length : Int) = x := by simp [nod]
theorem LV {c : Cd} : ∀ (k : Nat) {m : Mc} {f : Int} {l : List Int},(∀ v ∈ l,InP m.pool v) -> (3 <= k \/ (2 <= k /\ (nod m.pool (l.getD 0 0)).kind = 7) \/ (1 <= k /\ (nod m.pool f).kind = 7)) -> Ga c k m f l ≠ .error 0
 | 0,m,f,l,hv,hk => by omega
 | k + 1,m,f,l,hv,hk => by
  unfold Ga
  simp only
  split
  ·unfold Kw
   split
   ·intro h; cases h
   ·split
    ·intro h; cases h
    ·intro h; cases h
  split
  ·rename_i h6 h8
   split
   ·intro h; cases h
   rename_i hargs
   split
   ·rename_i h18
    obtain ⟨v,r,rfl⟩ : ∃ v r,l = v :: r := by
     cases l with
     | nil => exact absurd (by rw [h18]; decide) hargs
     | cons v r => exact ⟨v,r,rfl⟩
    obtain ⟨t,ht⟩ := U4 (m.pool ++ [ndI (m.at' + 1)]) [(m.pool.length : Int),m.s,m.e,m.d]
    have e1 : (yV (m.pool ++ [ndI (m.at' + 1)]) [(m.pool.length : Int),m.s,m.e,m.d]).1 = m.pool ++ (ndI (m.at' + 1) :: t) := by rw [ht]; simp
    have hv0 := hv v (by simp)
    have up : nod ((yV (m.pool ++ [ndI (m.at' + 1)]) [(m.pool.length : Int),m.s,m.e,m.d]).1 ++ [ndK ((yV (m.pool ++ [ndI (m.at' + 1)]) [(m.pool.length : Int),m.s,m.e,m.d]).2 : Int)]) v = nod m.pool v := by
     rw [e1,List.append_assoc,WX hv0]
    refine LV k (fun u hu => ?_) ?_
    ·simp only [List.mem_singleton] at hu; subst hu
     exact zR _ _
    ·rcases hk with hk | ⟨hk,h7⟩ | ⟨hk,h7⟩
     ·refine .inr (.inl ⟨by omega,?_⟩)
      simp only [List.getD_cons_zero]
      rw [RV]
     ·refine .inr (.inr ⟨by omega,?_⟩)
      simp only [List.getD_cons_zero] at h7 ⊢
      rw [up,h7]
     ·omega
   split
   ·intro h; cases h
   split
   ·rename_i q hq
    intro h
    have hz : q + 1 = 0 := by injection h
    obtain ⟨n1,n19,l2⟩ := Ck (n := (nod m.pool f).n) (k := l.length) (by simpa using hargs)
    rw [J5 (by omega) (by simpa using (Eq.symm (by simpa using hargs : zl (nod m.pool f).n = (l.length : Int))))] at hq
    split at hq
    ·split at hq
     ·cases hq
     ·split at hq
      ·cases hq
      ·split at hq
       ·cases hq
       ·cases hq; omega
    ·cases hq; omega
   ·intro h; cases h
  split
  ·unfold Vk
   split
   ·intro h; cases h
   ·split <;> (intro h; cases h)
  ·intro h; cases h
theorem OJ {c : Cd} : ∀ (k : Nat) {m : Mc} {f : Int} {l : List Int} {h : Int},Ga c k m f l = .error h -> h = 0 \/ (1 <= h /\ h <= 7)
 | 0,m,f,l,h,he => by cases he; exact .inl rfl
 | k + 1,m,f,l,h,he => by
  unfold Ga at he
  simp only at he
  split at he
  ·unfold Kw at he
   split at he
   ·cases he; omega
   ·split at he
    ·cases he; omega
    ·cases he
  split at he
  ·split at he
   ·cases he; omega
   rename_i hargs
   split at he
   ·exact OJ k he
   split at he
   ·cases he
   split at he
   ·rename_i q hq
    cases he
    obtain ⟨n1,n19,l2⟩ := Ck (n := (nod m.pool f).n) (k := l.length) (by simpa using hargs)
    rw [J5 (by omega) (by simpa using (Eq.symm (by simpa using hargs : zl (nod m.pool f).n = (l.length : Int))))] at hq
    split at hq
    ·split at hq
     ·cases hq
     ·split at hq
      ·cases hq
      ·split at hq
       ·cases hq
       ·cases hq; omega
    ·cases hq; omega
   ·cases he
  split at he
  ·unfold Vk at he
   split at he
   ·cases he; omega
   ·split at he
    ·cases he
    ·cases he; omega
  ·cases he; omega
theorem WJ {c : Cd} (_ : zw c = true) {m : Mc} (h : RunM c m) {q : Int} (he : doM c m = .error q) : 1 <= q /\ q <= 7 := by
 unfold doM at he
 simp only at he
 split at he
 ·unfold CT at he
  split at he
  ·cases he; omega
  split at he
  ·cases he; omega
  ·rename_i l m1 ht
   obtain ⟨f1,f2,f3,f4,f5,f6,f7,f8,f9⟩ := IK h.gm ht
   rcases OJ 3 he with rfl | h1
   ·exact absurd he (LV 3 (fun v hv => f2 v (by have := List.mem_of_mem_drop hv; simpa using this)) (.inl (Nat.le_refl _)))
   ·exact h1
 split at he
 ·unfold KT at he
  split at he
  ·cases he; omega
  simp only at he
  split at he
  ·cases he
  split at he
  ·cases he; omega
  split at he
  ·cases he
  ·cases he; omega
 ·have go : ∀ {r : Except Int Mc} {n : Int},(∀ q',r = .error q' -> 1 <= q' /\ q' <= 7) -> goM c r n = .error q -> 1 <= q /\ q <= 7 := by
   intro r n hr hg
   unfold goM at hg
   split at hg
   ·cases hg; exact hr _ rfl
   ·split at hg
    ·cases hg
    ·cases hg; omega
  unfold Jx at he
  split at he
  ·exact go (fun q' e => by cases e) he
  split at he
  ·refine go (fun q' e => ?_) he
   unfold WA at e
   split at e
   ·cases e; omega
   ·split at e
    ·cases e; omega
    ·cases e
  split at he
  ·refine go (fun q' e => ?_) he
   unfold KV at e
   split at e
   ·cases e
   ·split at e
    ·cases e; omega
    ·cases e
  split at he
  ·exact go (fun q' e => by cases e) he
  split at he
  ·exact go (fun q' e => by cases e) he
  split at he
  ·cases he; omega
  ·exact go (fun q' e => by cases e) he
theorem We {c : Cd} {m : Mc} (h : Db c m = true) (h0 : m.state = 0) : Db c (SE c m) = true := by
 obtain ⟨hr,hc,hl⟩ := Su h h0
 unfold SE
 cases he : doM c m with
 | error q => exact RF h (WJ hc hr he)
 | ok m' =>
  obtain ⟨g1,⟨t,g2,g3⟩,g4⟩ := Rf hc hr he
  simp only
  split
  ·exact QG hc g1.ok ‹_› g1.s g1.e g1.d g4
  ·exact RF h (by omega)

theorem Vg (a : Int) (r : List Int) : part ((a :: r).map eI) (some (Int.toNat 1,((a :: r).map eI).length - Int.toNat 1)) = r.map eI := by
 simp only [part,List.map_cons,lnC]
 show (r.map eI).take ((r.map eI).length + 1 - 1) = _
 exact List.take_of_length_le (by simp)
end Go.Eng
/-! a step of a machine: the reference's side: the stack,the frames,calls -/
namespace Go.Eng
noncomputable section
open Go.Proofs Go.Proofs.Tryz
set_option maxHeartbeats 4000000

abbrev eMo (m : Mc) : D := .op [.os (5,0) (m.pool.map eN),iN m.at',iN m.s,iN m.e,iN m.d,iN m.state,iN m.ask,iN m.arg]
def Kj (c : Cd) (X : Option Ret) (r : Except Int Mc) : Prop := match r with
 | .ok m => X = some (iN 0,[eMo m])
 | .error h => (h ≠ 0 /\ ∃ m',X = some (iN h,[eMo m'])) \/ (h = 7 /\ ∃ m',AA c m'.at' = false /\ X = some (iN 0,[eMo m']))
theorem QJ {c : Cd} {X : Option Ret} {m : Mc} (h : Kj c X (.ok m)) : X = some (iN 0,[eMo m]) := h
theorem Nk {c : Cd} {X : Option Ret} {h : Int} (e : Kj c X (.error h)) : (h ≠ 0 /\ ∃ m',X = some (iN h,[eMo m'])) \/ (h = 7 /\ ∃ m',AA c m'.at' = false /\ X = some (iN 0,[eMo m'])) := e
theorem Ib {c : Cd} {X Y : Option Ret} {r : Except Int Mc} (h : Kj c X r) (hy : ∀ q m',X = some (iN q,[eMo m']) -> Y = some (iN q,[eMo m'])) : Kj c Y r := by
 cases r with
 | ok m => exact hy _ _ (QJ h)
 | error q =>
  rcases Nk h with ⟨q0,m',hx⟩ | ⟨q7,m',hp,hx⟩
  ·exact .inl ⟨q0,m',hy _ _ hx⟩
  ·exact .inr ⟨q7,m',hp,hy _ _ hx⟩
theorem zd {c : Cd} {X : Option Ret} {h : Int} (m : Mc) (h0 : h ≠ 0) (e : X = some (iN h,[eMo m])) : Kj c X (.error h) := .inl ⟨h0,m,e⟩

theorem Dz {m : Mc} (hl : m.pool.length < 4294967296) (v : Int) : V 95 [eMo m,iN v] = some (.tup [],[eMo (LG m v)]) := by
 have h := y7 hl (ndP v m.s)
 rw [RC,yU h]
 rfl
theorem Kf {m : Mc} (hs : InP m.pool m.s) {v : Int} {m' : Mc} (h : Fk m = some (v,m')) : V 218 [eMo m] = some (.tup [iN v,.bool true],[eMo m']) := by
 unfold Fk at h
 rw [JP,Fu hs]
 split at h
 ·rename_i h5
  cases h
  rw [xb (yG h5)]
 ·cases h
theorem Fp {m : Mc} (hs : InP m.pool m.s) (h : Fk m = none) : V 218 [eMo m] = some (.tup [iN 0,.bool false],[eMo m]) := by
 unfold Fk at h
 rw [JP,Fu hs]
 split at h
 ·cases h
 ·rename_i h5
  rw [xK (yH h5)]
theorem Nv {p : List Nd} (hp : y2 p) : ∀ (k : Nat) (v : Int),InP p v -> k < 4611686018427387904 ->
  CH v (k : Int) (p.map eN) = some (alD (LD p k v),[])
 | 0,v,hv,hk => by
  rw [FU,xb (decide_eq_false (by omega)),PD hv]
  unfold LD
  by_cases h5 : (nod p v).kind = 5
  ·rw [if_pos h5,xb (yG h5),XK hv]; rfl
  ·rw [if_neg h5,xK (yH h5)]; rfl
 | k + 1,v,hv,hk => by
  have hw : w6 (((k + 1 : Nat) : Int) - 1) = (k : Int) := by rw [w64 (by omega) (by omega)]; omega
  rw [FU,xK (decide_eq_true (by omega)),PD hv]
  unfold LD
  by_cases h5 : (nod p v).kind = 5
  ·have ih := Nv hp k (nod p v).b (KY hp hv h5) (by omega)
   rw [if_pos h5,xK (yF h5),XL hv,hw,ih]
  ·rw [if_neg h5,xb (yE h5),PD hv,xK (yH h5)]; rfl
theorem UN {p : List Nd} (hp : y2 p) {v : Int} (hv : InP p v) {n : Int} (h0 : 0 <= n) (h1 : n < 4611686018427387904) : V 216 [eP p,iN v,iN n] = some (alD (LD p n.toNat v),[]) := by
 have := Nv hp n.toNat v hv (by omega)
 rw [Int.toNat_of_nonneg h0] at this
 rw [RB]
 exact this
theorem Jj {p : List Nd} (hp : y2 p) (hl : p.length < 4294967290) : ∀ (k : Nat) (v : Int) (acc : List Int),InP p v -> v < k -> acc.length + k < 4294967296 ->
  AP v (p.map eN) (acc.map eI) = some (.tup [.os (1,0) ((if (GX p k v).2 = true then acc ++ (GX p k v).1 else []).map eI),.bool (GX p k v).2],[])
 | 0,v,acc,hv,hk,ha => by omega
 | k + 1,v,acc,hv,hk,ha => by
  rw [IP,PD hv]
  unfold GX
  by_cases h5 : (nod p v).kind = 5
  ·have hb := zx (GZ hp hv) h5
   have ih := Jj hp hl k (nod p v).b (acc ++ [(nod p v).a]) (KY hp hv h5) (by omega) (by simp only [lnA,lnC,lnN]; omega)
   have ea : acc.map eI ++ [iN (nod p v).a] = (acc ++ [(nod p v).a]).map eI := by simp
   have hlim : decide (ni ((acc ++ [(nod p v).a]).map eI).length <= LIM) = true := decide_eq_true (by rw [pE]; simp only [ni,lnM,lnA,lnC,lnN]; omega)
   rw [if_pos h5,xK (yF h5),XK hv,ea,yu hlim,yA,XL hv,ih]
   simp
  ·rw [if_neg h5,xb (yE h5),PD hv]
   by_cases h1 : (nod p v).kind = 1
   ·rw [xb (yG h1)]; simp [h1]
   ·rw [xK (yH h1)]; simp [h1]
theorem Ee {p : List Nd} (hp : y2 p) (hl : p.length < 2147483648) {v : Int} (hv : InP p v) : V 228 [eP p,iN v] = some (.tup [.os (1,0) ((if (zP p v).2 = true then (zP p v).1 else []).map eI),.bool (zP p v).2],[]) := by
 have := Jj hp (by omega) (v.toNat + 1) v [] hv (by omega) (by simp only [lnN]; omega)
 rw [Mo]
 simp only [List.nil_append] at this
 exact this
def GQ (p : List Nd) (v : Int) (many : Nat) : Option (Int × List Int) := if (zP p v).2 = true /\ (zP p v).1.length = many /\ (nod p ((zP p v).1.getD 0 0)).kind = 3 then some ((nod p ((zP p v).1.getD 0 0)).n,(zP p v).1.drop 1) else none
theorem O8 {c : Cd} {p : List Nd} {v : Int} {many : Nat} (hm : 0 < many) : Jv c p v many = match GQ p v many with
  | none => none
  | some (n,r) => if AA c n = true then some (n,r) else none := by
 rw [VP (xs := (zP p v).1) (b := (zP p v).2) rfl hm]
 unfold GQ
 by_cases h : (zP p v).2 = true /\ (zP p v).1.length = many /\ (nod p ((zP p v).1.getD 0 0)).kind = 3
 ·rw [if_pos h]
  simp only
  by_cases h2 : AA c (nod p ((zP p v).1.getD 0 0)).n = true
  ·rw [if_pos ⟨h.1,h.2.1,h.2.2,h2⟩,if_pos h2]
  ·rw [if_neg (fun q => h2 q.2.2.2),if_neg h2]
 ·rw [if_neg h,if_neg (fun q => h ⟨q.1,q.2.1,q.2.2.1⟩)]
theorem MC {p : List Nd} {v : Int} {many : Nat} {n : Int} {r : List Int} (hm : 0 < many) (h : GQ p v many = some (n,r)) : r.length + 1 = many := by
 unfold GQ at h
 split at h
 ·rename_i hh; cases h; rw [List.length_drop]; omega
 ·cases h
def frD (r : Option (Int × List Int)) : D := match r with | some (n,l) => .tup [iN n,.os (1,0) (l.map eI),.bool true] | none => .tup [iN 0,.os (1,0) [],.bool false]
theorem Pt {p : List Nd} (hp : y2 p) (hl : p.length < 2147483648) {v : Int} (hv : InP p v) {many : Nat} (hm : 0 < many) : V 234 [eP p,iN v,iN (many : Int)] = some (frD (GQ p v many),[]) := by
 have hlst := Ee hp hl hv
 have hin := IA hp hv
 rw [Oq,Bj hlst]
 unfold GQ
 cases hb : (zP p v).2 with
 | false => rw [if_neg (fun h => by simp at h)]; rfl
 | true =>
  rw [if_pos rfl,Bool.not_true,xJ]
  by_cases h4 : (zP p v).1.length = many
  ·cases hq : (zP p v).1 with
   | nil => rw [hq] at h4; simp at h4; omega
   | cons a r =>
    rw [hq] at hin h4
    have ha := hin a (by simp)
    rw [xb (yG (KX (by rw [h4]))),AY,PD ha]
    by_cases h3 : (nod p a).kind = 3
    ·rw [xb (yG h3),AY,Yb ha,yu (by simp [cW]; omega),Vg,if_pos ⟨rfl,h4,h3⟩]
     rfl
    ·rw [xK (yH h3),if_neg (fun h => h3 h.2.2)]; rfl
  ·rw [xK (yH (Pc (fun h => h4 (by omega)))),if_neg (fun h => h4 h.2.1)]; rfl

theorem Vh {p : List Nd} {n q : Int} {l : List Int} (h12 : 1 <= n /\ n <= 12) (hargs : (l.length : Int) = zl n) (hr : J4 p n l = .error q) : q = 3 \/ q = 4 := by
 rw [J5 h12 hargs] at hr
 split at hr
 ·split at hr
  ·cases hr
  ·split at hr
   ·cases hr
   ·split at hr
    ·cases hr
    ·cases hr; exact .inr rfl
 ·cases hr; exact .inl rfl
theorem Pq {c : Cd} (hc : c.list.length <= 400) : ∀ (k : Nat) {m : Mc} {f : Int} {l : List Int},RunM c m -> AA c (m.at' + 1) = true -> m.pool.length + 100 * k < 2147483600 -> InP m.pool f -> (∀ v ∈ l,InP m.pool v) -> l.length <= 4 -> Ga c k m f l ≠ .error 0 ->
  Kj c (V 233 [eCd c,eMo m,iN f,.rs (1,0) (l.map eI),iN (m.at' + 1)]) (Ga c k m f l)
 | 0,m,f,l,h,hnx,hl,hf,hv,h4,h0 => absurd rfl h0
 | k + 1,m,f,l,h,hnx,hl,hf,hv,h4,h0 => by
  have hok := GZ h.gm.ok hf
  have hpl := isPl_iff.1 h.pl
  rw [Ol,Fu hf]
  unfold Ga at h0 ⊢
  simp only at h0 ⊢
  by_cases h6 : (nod m.pool f).kind = 6
  ·rw [if_pos h6,xK (yF h6)]
   have hfn : 0 <= (nod m.pool f).n /\ (nod m.pool f).n <= 1000000000 := by
    simp [okN,h6] at hok
    exact wi_iff.1 hok.1
   have t1 : Int.tmod (nod m.pool f).n 8 = (nod m.pool f).n % 8 := Int.tmod_eq_emod_of_nonneg hfn.1
   have t2 : Int.tdiv (nod m.pool f).n 8 = (nod m.pool f).n / 8 := Int.tdiv_eq_ediv_of_nonneg hfn.1
   rw [yu (by decide),t1,t2]
   unfold Kw
   by_cases h1 : (nod m.pool f).n % 8 = (l.length : Int)
   ·rw [if_neg (by omega),xb (yG (by rw [KX rfl]; exact h1)),yu (by decide),w64 (n := (nod m.pool f).n / 8) (by omega) (by omega),lnM]
    cases h2 : AA c ((nod m.pool f).n / 8) with
    | false =>
     have : ¬ ((nod m.pool f).n / 8 <= (c.list.length : Int) - 1) := fun h => by
      have := isPl_iff.2 ⟨by omega,h⟩
      rw [h2] at this; cases this
     rw [if_pos rfl,xK (decide_eq_true (by simp only [ni]; omega))]
     exact zd m (by decide) rfl
    | true =>
     have h2' := isPl_iff.1 h2
     rw [if_neg (by simp),xb (decide_eq_false (by simp only [ni]; omega))]
     have a1 := y7 (p := m.pool) (by omega) (ndI (m.at' + 1))
     have l1 := DC (m.pool ++ [ndI (m.at' + 1)]) [(m.pool.length : Int),m.s,m.e]
     simp only [lnA,lnC,lnN] at l1
     have a2 : V 210 [rP (m.pool ++ [ndI (m.at' + 1)]),.rs (1,0) [iN (m.pool.length : Int),iN m.s,iN m.e]] = _ := Iv (q := m.pool ++ [ndI (m.at' + 1)]) (row := [(m.pool.length : Int),m.s,m.e]) (by simp only [lnA,lnC,lnN]; omega)
     have a3 := y7 (p := (yV (m.pool ++ [ndI (m.at' + 1)]) [(m.pool.length : Int),m.s,m.e]).1) (by omega) (ndP (yV (m.pool ++ [ndI (m.at' + 1)]) [(m.pool.length : Int),m.s,m.e]).2 m.d)
     rw [yU a1,BG a2,yU a3]
     generalize hB : yV (m.pool ++ [ndI (m.at' + 1)]) [(m.pool.length : Int),m.s,m.e] = B at l1 ⊢
     have l2 := DC (B.1 ++ [ndP B.2 m.d]) l
     simp only [lnA,lnC,lnN] at l2
     have a4 := Iv (q := B.1 ++ [ndP B.2 m.d]) (row := l) (by simp only [lnA,lnC,lnN]; omega)
     have a5 := y7 (p := (yV (B.1 ++ [ndP B.2 m.d]) l).1) (by omega) (ndP (yV (B.1 ++ [ndP B.2 m.d]) l).2 (nod m.pool f).a)
     have a6 := y7 (p := (yV (B.1 ++ [ndP B.2 m.d]) l).1 ++ [ndP (yV (B.1 ++ [ndP B.2 m.d]) l).2 (nod m.pool f).a]) (by simp only [lnA,lnC,lnN]; omega) ndN
     have e6 : (((yV (B.1 ++ [ndP B.2 m.d]) l).1 ++ [ndP (yV (B.1 ++ [ndP B.2 m.d]) l).2 (nod m.pool f).a]).length : Int) = (yV (B.1 ++ [ndP B.2 m.d]) l).1.length + 1 := by simp
     rw [e6] at a6
     rw [BG a4,yU a5,yU a6,yu (by decide)]
     rfl
   ·rw [if_pos h1,xK (yH (by rw [KX rfl]; exact h1))]
    exact zd m (by decide) rfl
  rw [if_neg h6] at h0 ⊢
  rw [xb (yE h6)]
  by_cases h8 : (nod m.pool f).kind = 8
  ·rw [if_pos h8] at h0 ⊢
   rw [xK (yF h8)]
   have prim : Kj c (V 240 [eCd c,eMo m,iN (nod m.pool f).n,.rs (1,0) (l.map eI),iN (m.at' + 1)]) (if zl (nod m.pool f).n ≠ (l.length : Int) then .error 2
     else if (nod m.pool f).n = 18 then
      Ga c k ⟨(yV (m.pool ++ [ndI (m.at' + 1)]) [(m.pool.length : Int),m.s,m.e,m.d]).1 ++ [ndK (yV (m.pool ++ [ndI (m.at' + 1)]) [(m.pool.length : Int),m.s,m.e,m.d]).2],m.at',m.s,m.e,m.d,m.state,m.ask,m.arg⟩ (l.getD 0 0) [((yV (m.pool ++ [ndI (m.at' + 1)]) [(m.pool.length : Int),m.s,m.e,m.d]).1.length : Int)]
     else if (nod m.pool f).n > 12 then
      .ok ⟨(yV m.pool l).1,m.at',m.s,m.e,m.d,1,(nod m.pool f).n,(yV m.pool l).2⟩
     else match J4 m.pool (nod m.pool f).n l with
      | .error h => .error (h + 1)
      | .ok (p,v) => .ok ⟨p ++ [ndP v m.s],m.at' + 1,p.length,m.e,m.d,m.state,m.ask,m.arg⟩) := by
    rw [Qr,Ou LH]
    by_cases hargs : zl (nod m.pool f).n = (l.length : Int)
    ·have hargs' : ¬ zl (nod m.pool f).n ≠ (l.length : Int) := fun h => h hargs
     obtain ⟨n1,n19,l2⟩ := Ck hargs
     rw [if_neg hargs'] at h0 ⊢
     rw [xb (yG (KX hargs.symm))]
     by_cases h18 : (nod m.pool f).n = 18
     ·rw [if_pos h18] at h0 ⊢
      rw [xK (yF h18)]
      obtain ⟨v,rfl⟩ : ∃ v,l = [v] := by
       rw [h18] at hargs
       match l,hargs with
       | [v],_ => exact ⟨v,rfl⟩
       | [],h => cases h
       | _ :: _ :: r,h => simp only [lnC] at h; have : zl 18 = 1 := rfl; omega
      have a1 := y7 (p := m.pool) (by omega) (ndI (m.at' + 1))
      have l1 := DC (m.pool ++ [ndI (m.at' + 1)]) [(m.pool.length : Int),m.s,m.e,m.d]
      simp only [lnA,lnC,lnN] at l1
      have a2 : V 210 [rP (m.pool ++ [ndI (m.at' + 1)]),.rs (1,0) [iN (m.pool.length : Int),iN m.s,iN m.e,iN m.d]] = _ := Iv (q := m.pool ++ [ndI (m.at' + 1)]) (row := [(m.pool.length : Int),m.s,m.e,m.d]) (by simp only [lnA,lnC,lnN]; omega)
      have o1 : y2 (m.pool ++ [ndI (m.at' + 1)]) := za h.gm.ok (QH (by omega))
      obtain ⟨b1,⟨t,b2,b3⟩,b4⟩ := CX (row := [(m.pool.length : Int),m.s,m.e,m.d]) o1 (fun v hv => by
       simp only [List.mem_cons,List.not_mem_nil,or_false] at hv
       rcases hv with rfl | rfl | rfl | rfl
       ·exact zR _ _
       ·exact yW _ h.gm.s
       ·exact yW _ h.gm.e
       ·exact yW _ h.gm.d)
      have e1 : (yV (m.pool ++ [ndI (m.at' + 1)]) [(m.pool.length : Int),m.s,m.e,m.d]).1 = m.pool ++ (ndI (m.at' + 1) :: t) := by rw [b2]; simp
      have up : ∀ {v : Int},InP m.pool v -> InP ((yV (m.pool ++ [ndI (m.at' + 1)]) [(m.pool.length : Int),m.s,m.e,m.d]).1 ++ [ndK ((yV (m.pool ++ [ndI (m.at' + 1)]) [(m.pool.length : Int),m.s,m.e,m.d]).2 : Int)]) v := fun hv => yW _ (by rw [e1]; exact yW _ hv)
      have g2 : RunM c ⟨(yV (m.pool ++ [ndI (m.at' + 1)]) [(m.pool.length : Int),m.s,m.e,m.d]).1 ++ [ndK ((yV (m.pool ++ [ndI (m.at' + 1)]) [(m.pool.length : Int),m.s,m.e,m.d]).2 : Int)],m.at',m.s,m.e,m.d,m.state,m.ask,m.arg⟩ :=
       ⟨⟨za b1 (UJ b4),up h.gm.s,up h.gm.e,up h.gm.d⟩,h.st,h.ask,h.arg,h.pl⟩
      rw [yU a1,BG a2]
      generalize hB : yV (m.pool ++ [ndI (m.at' + 1)]) [(m.pool.length : Int),m.s,m.e,m.d] = B at l1 b1 b2 b4 e1 up g2 h0 ⊢
      have a3 := y7 (p := B.1) (by omega) (ndK (B.2 : Int))
      have a4 := Pq hc k g2 hnx (by show (B.1 ++ [ndK (B.2 : Int)]).length + 100 * k < _; simp only [lnA,lnC,lnN]; omega) (up (hv v (by simp))) (l := [(B.1.length : Int)]) (fun u hu => by
       simp only [List.mem_singleton] at hu; subst hu; exact zR _ _) (by simp) h0
      rw [yU a3,AY]
      simp only [List.getD_cons_zero] at a4 ⊢
      simp only [List.map_cons,List.map_nil] at a4
      exact Ib a4 (fun q m' hx => by rw [J3 hx])
     rw [if_neg h18] at h0 ⊢
     rw [xb (yE h18)]
     by_cases h12 : (nod m.pool f).n > 12
     ·rw [if_pos h12,xK (decide_eq_true h12)]
      have a1 := Iv (q := m.pool) (row := l) (by omega)
      rw [BG a1]
      rfl
     rw [if_neg h12,xb (decide_eq_false h12)]
     have hp := XC h.gm.ok (by omega) (n := (nod m.pool f).n) hv (by omega) hargs.symm
     cases hr : J4 m.pool (nod m.pool f).n l with
     | error q =>
      rw [hr] at hp
      have hq := Vh (by omega) hargs.symm hr
      rw [Pe hp]
      rcases hq with rfl | rfl
      ·exact zd m (by decide) rfl
      ·exact zd m (by decide) rfl
     | ok r =>
      obtain ⟨p,v⟩ := r
      rw [hr] at hp
      obtain ⟨q1,q2,t,q3,q4⟩ := SA h.gm.ok hv (by omega) hargs.symm hr
      have hpl' : p.length < 4294967296 := by rw [q3]; simp only [lnA]; omega
      have a3 := Dz (m := ⟨p,m.at',m.s,m.e,m.d,m.state,m.ask,m.arg⟩) hpl' v
      rw [Pe hp,xb (yE (by omega)),xb (yE (by omega)),zT a3]
      rfl
    ·rw [if_pos hargs,xK (yH (Pc (fun h => hargs h.symm)))]
     exact zd m (by decide) rfl
   exact Ib prim (fun q m' hx => by rw [Sk hx])
  rw [if_neg h8,xb (yE h8)]
  by_cases h7 : (nod m.pool f).kind = 7
  ·rw [if_pos h7,xK (yF h7)]
   unfold Vk
   by_cases h1 : l.length = 1
   ·have hs := JX h.gm.ok hf (.inr (.inr h7))
    have hfr : V 234 [eP m.pool,iN (nod m.pool f).a,iN 4] = _ := Pt h.gm.ok (by omega) hs (many := 4) (by omega)
    rw [if_neg (by omega),xb (yG (KX (by omega))),O8 (by omega)]
    obtain ⟨v,rfl⟩ : ∃ v,l = [v] := by
     match l,h1 with
     | [v],_ => exact ⟨v,rfl⟩
     | [],h => simp at h
     | _ :: _ :: _,h => simp at h
    cases hq : GQ m.pool (nod m.pool f).a 4 with
    | none =>
     rw [hq] at hfr
     rw [AW hfr]
     exact zd m (by decide) rfl
    | some nr =>
     obtain ⟨n,r⟩ := nr
     rw [hq] at hfr
     have hlen := MC (by omega) hq
     obtain ⟨s,e,d,rfl⟩ : ∃ s e d,r = [s,e,d] := by
      match r,hlen with
      | [s,e,d],_ => exact ⟨s,e,d,rfl⟩
      | [],h => simp at h
      | [_],h => simp at h
      | [_,_],h => simp at h
      | _ :: _ :: _ :: _ :: _,h => simp at h
     have a3 := Dz (m := ⟨m.pool,n,s,e,d,m.state,m.ask,m.arg⟩) (by show m.pool.length < _; omega) v
     by_cases h5 : AA c n = true
     ·simp only [h5,if_true]
      rw [AW hfr,Bool.not_true,xJ,AY,Gu,VT,AY,zT a3]
      rfl
     ·have h5f : AA c n = false := by cases hz : AA c n with | true => exact absurd hz h5 | false => rfl
      simp only [h5f]
      refine .inr ⟨rfl,LG ⟨m.pool,n,s,e,d,m.state,m.ask,m.arg⟩ v,h5f,?_⟩
      rw [AW hfr,Bool.not_true,xJ,AY,Gu,VT,AY,zT a3]
   ·rw [if_pos h1,xK (yH (Pc (l := l) (k := 1) (fun h => h1 (by omega))))]
    exact zd m (by decide) rfl
  ·rw [if_neg h7,xb (yE h7)]
   exact zd m (by decide) rfl
end
end Go.Eng
/-! a step of a machine: the program's side: every instruction; runs -/
namespace Go.Eng
open Go.Proofs Go.Proofs.Tryz
set_option maxHeartbeats 4000000

theorem IJ {q : List Nd} {v : Int} (hv : InP q v) : z9 q [v] = true := by
 simp only [z9,List.all_cons,List.all_nil,Bool.and_true]
 exact wi_iff.2 ⟨hv.1,by omega⟩
theorem RJ {l : List Int} {v : Int} (h : 0 <= v /\ v < (l.length : Int)) {R : Type} (K : Int -> Option R) : grd (decide (0 <= v) && decide (v < ni (l.map eI).length)) (cT (l.map eI) v.toNat fun x => asI .i64 x fun n => K n) = K (l.getD v.toNat 0) := by
 obtain ⟨u,hu⟩ := Cj (l := l) h.1 h.2
 rw [JS h.1 hu]
 simp [hu]
theorem Ug {q acc : List Nd} (hp : yR q = true) {v : Int} (hv : InP q v) (hc : acc.length + q.length < 4294967296) : V 93 [rP acc,eP q,iN v] = some (iN (zu (-1) q v acc).2,[rP (zu (-1) q v acc).1]) := by
 have hm : V 137 [rP acc,eP q,.rs (1,0) [iN v]] = _ := Wv (acc := acc) hp (rs := [v]) (by simp) (IJ hv) hc
 have hl : (DW (-1) q [v] acc).1.length = q.length := by unfold DW; rw [Fg]; simp
 rw [IU,M9 hm,RJ ⟨hv.1,by rw [hl]; exact hv.2⟩]
 rfl
theorem SI {m : Mc} (hl : m.pool.length <= 4294967296) (q : Int) : V 92 [eMc m,iN q] = some (oMc (Gd m q),[]) := by
 rw [PJ,Aj (Jn hl)]
 rfl
noncomputable def Dw (m : Mc) (p : List Nd) (v : Int) : Mc := ⟨(zu (-1) p v m.pool).1 ++ [ndP (zu (-1) p v m.pool).2 m.s],m.at' + 1,(zu (-1) p v m.pool).1.length,m.e,m.d,0,0,0⟩
noncomputable def AR (c : Cd) (m : Mc) (p : List Nd) (v : Int) : Mc :=
 if Db c m = true then
  if m.state = 1 /\ yR p = true /\ wi v 0 ((p.length : Int) - 1) = true then
   if AA c (m.at' + 1) = true then (if (Dw m p v).pool.length <= 3000 then Dw m p v else Gd m 6) else Gd m 7
  else m
 else SY
theorem Oz {c : Cd} (hf : FitsC c) {m : Mc} (hm : Ac m.pool) (hl : m.pool.length <= 4294967296) {p : List Nd} (hp : Ac p) (hpl : p.length < 4611686018427387904) (v : Int) : V 31 [eCd c,eMc m,eP p,iN v] = some (oMc (AR c m p v),[]) := by
 have h1 := Gk hf hm (by omega)
 have hcp := Jn hl
 rw [PF,Ia h1]
 unfold AR
 cases h : Db c m with
 | false => rw [Bool.not_false,yk,if_neg (by simp)]; rfl
 | true =>
  obtain ⟨r1,r2,r3,r4,r5,r6,r7⟩ := AL h
  obtain ⟨c1,c2,c3⟩ := zn r1
  rw [Bool.not_true,xJ,if_pos rfl]
  by_cases hs : m.state = 1
  ·rw [xb (yG hs),Sa (zO hp hpl)]
   cases hpo : yR p with
   | false => rw [Bool.not_false,yk,Aj hcp,if_neg (by simp)]
   | true =>
    rw [Bool.not_true,xJ,Sb (Bv hpl v)]
    cases hv : wi v 0 ((p.length : Int) - 1) with
    | false => rw [Bool.not_false,yk,Aj hcp,if_neg (by simp)]
    | true =>
     have hat : -1 <= m.at' /\ m.at' <= 1000 := by
      unfold IZ at r7
      rw [if_neg (by omega),if_pos hs] at r7
      simp only [Bool.and_eq_true] at r7
      have := wi_iff.1 r7.1
      omega
     have hv' := wi_iff.1 hv
     have hin : InP p v := ⟨hv'.1,by omega⟩
     obtain ⟨f1,f2,t,f3,f4⟩ := CU hpo r2 hin (-1)
     have hlen := congrArg List.length f3
     have hpl' := zh hpo
     rw [lnA] at hlen
     rw [Bool.not_true,xJ,if_pos ⟨hs,rfl,rfl⟩,w64 (n := m.at' + 1) (by omega) (by omega),QD (XB c2 _)]
     cases hp1 : AA c (m.at' + 1) with
     | false => rw [Bool.not_false,yk,KZ (SI hl 7),if_neg (by simp)]
     | true =>
      have h2 := Ug (acc := m.pool) hpo hin (by omega)
      have h3 := XE (q := (zu (-1) p v m.pool).1) (by omega) (zu (-1) p v m.pool).2 m.s
      rw [Bool.not_true,xJ,if_pos rfl,Aj hcp,KM h2,QC h3,lnM,w64 (n := m.at' + 1) (by omega) (by omega)]
      rw [show ((zu (-1) p v m.pool).1 ++ [ndP (zu (-1) p v m.pool).2 m.s]).length = (Dw m p v).pool.length from rfl]
      by_cases h3k : (Dw m p v).pool.length <= 3000
      ·rw [xb (decide_eq_false (by simp only [ni]; omega)),if_pos h3k]; rfl
      ·rw [xK (decide_eq_true (by simp only [ni]; omega)),KZ (SI hl 6),if_neg h3k]
  ·rw [xK (yH hs),Aj hcp,if_neg (fun h => hs h.1)]
end Go.Eng
/-! compiling: the reference's side -/
namespace Go.Eng
noncomputable section
open Go.Proofs Go.Proofs.Tryz
set_option maxHeartbeats 4000000

abbrev eMs (p : List Nd) (m : Ms) : D := .op [.os (5,0) (p.map eN),.os (4,0) (m.list.map eIn),.os (3,0) (m.defs.map eDf),iN m.how]
abbrev eEs (env : List (List ByteArray)) : List D := env.map fun e => D.rs (1,0) (e.map D.str)
structure Le (m m' : Ms) : Prop where
 len : m.list.length <= m'.list.length
 four : m'.list.length <= 400
 how : m'.how = 0 -> m.how = 0
 defs : m'.defs = m.defs
theorem Le.refl {m : Ms} (h : m.list.length <= 400) : Le m m := ⟨Nat.le_refl _,h,id,rfl⟩
theorem Le.trans {a b c : Ms} (h : Le a b) (h2 : Le b c) : Le a c := ⟨Nat.le_trans h.len h2.len,h2.four,fun x => h.how (h2.how x),h2.defs.trans h.defs⟩
theorem zG {m : Ms} (h : m.list.length <= 400) (x : In) : Le m (zL m x) := by
 unfold zL
 split
 ·rename_i h0
  split
  ·exact ⟨Nat.le_refl _,h,fun _ => h0,rfl⟩
  ·exact ⟨by simp,by simp; omega,fun _ => h0,rfl⟩
 ·exact Le.refl h
theorem LI {m : Ms} (_ : m.list.length <= 400) (x : In) (h0 : (zL m x).how = 0) : 0 <= Ci m /\ Ci m < ((zL m x).list.length : Int) := by
 unfold zL at h0 ⊢
 unfold Ci
 split at h0
 ·rename_i e
  split at h0
  ·simp at h0
  ·rename_i e2
   rw [if_pos e,if_pos e,if_neg e2,if_neg e2]
   simp
   omega
 ·rename_i e; exact absurd h0 e
theorem Pn {m : Ms} (h : m.list.length <= 400) (k : Int) : Le m (toC m k) := by
 unfold toC
 split
 ·exact ⟨by simp,by simpa using h,fun _ => ‹_›,rfl⟩
 ·exact Le.refl h
theorem Ui {p : List Nd} {m : Ms} (h : m.list.length <= 400) (x : In) : V 237 [eMs p m,eIn x] = some (iN (Ci m),[eMs p (zL m x)]) := by
 have e : m.list.map eIn ++ [D.agg [iN x.op,iN x.n,iN x.i,D.str x.s]] = (m.list ++ [x]).map eIn := by simp
 rw [Qh,e]
 unfold zL Ci
 by_cases h0 : m.how = 0
 ·rw [xK (yF h0),if_pos h0,if_pos h0]
  by_cases h4 : m.list.length = 400
  ·rw [xK (yF (KX (by omega))),if_pos h4,if_pos h4]
  ·rw [xb (yE (Pc (by omega))),xb (yG h0),if_neg h4,if_neg h4,yu (decide_eq_true (by rw [pE,lnM]; simp only [ni,lnA,lnC,lnN]; omega)),yA,w64 (by rw [lnM]; simp only [ni,lnA,lnC,lnN]; omega) (by rw [lnM]; simp only [ni,lnA,lnC,lnN]; omega),h0]
   simp [ni]
 ·rw [xb (yE h0),xK (yH h0),if_neg h0,if_neg h0]
theorem Xc {p : List Nd} {m : Ms} (_ : m.list.length <= 400) {k : Int} (hk : m.how = 0 -> 0 <= k /\ k < (m.list.length : Int)) : V 253 [eMs p m,iN k] = some (.tup [],[eMs p (toC m k)]) := by
 rw [Tv]
 unfold toC
 by_cases h0 : m.how = 0
 ·obtain ⟨k0,k1⟩ := hk h0
  obtain ⟨x,hx⟩ := xx (l := m.list) (i := k.toNat) (by omega)
  have hg : m.list.getD k.toNat (inO 0) = x := by rw [List.getD_eq_getElem?_getD,hx]; rfl
  have e : List.set (m.list.map eIn) k.toNat (D.agg (List.take 1 [iN x.op,iN x.n,iN x.i,D.str x.s] ++ [iN (ni (m.list.map eIn).length)] ++ List.drop 2 [iN x.op,iN x.n,iN x.i,D.str x.s])) = (m.list.set k.toNat ⟨x.op,m.list.length,x.i,x.s⟩).map eIn := by
   rw [List.map_set,lnM]; rfl
  rw [xK (yF h0),if_pos h0,yu (by rw [lnM]; simp only [ni,Bool.and_eq_true,decide_eq_true_eq]; omega),xW hx,xu,yA,e,hg,h0]
 ·rw [xb (yE h0),if_neg h0]
theorem Uk (s : ByteArray) : V 238 [.str s] = some (.bool (TZ s),[]) := by
 rw [KH]
 unfold TZ wrds
 simp only [List.any_cons,List.any_nil,Bool.or_false]
 show br (kc s (mk [113,117,111,116,101])) (some (D.bool true,[])) (br (kc s (mk [105,102])) (some (D.bool true,[])) (br (kc s (mk [102,110])) (some (D.bool true,[])) (br (kc s (mk [100,111])) (some (D.bool true,[])) (br (kc s (mk [108,101,116])) (some (D.bool true,[])) (some (D.bool (kc s (mk [100,101,102,105,110,101])),[])))))) = _
 cases kc s (mk [113,117,111,116,101]) <;> cases kc s (mk [105,102]) <;> cases kc s (mk [102,110]) <;> cases kc s (mk [100,111]) <;> cases kc s (mk [108,101,116]) <;> rfl
theorem Ww {p : List Nd} (m : Ms) {v : Int} (hv : InP p v) : V 230 [eMs p m,iN v] = some (.tup [.str (nod p v).s,.bool (nmC p v)],[eMs p m]) := by
 rw [Qk,Fu hv]
 unfold nmC
 by_cases h4 : (nod p v).kind = 4
 ·rw [xK (yF h4),Dh (Uk _),yF h4,Bool.true_and]
 ·rw [xb (yE h4),yE h4,Bool.false_and]
theorem JG {p : List Nd} (m : Ms) {xs : List Int} (hl : xs.length <= 100000) (hx : ∀ x ∈ xs,InP p x) : ∀ (k i : Nat) (h : Int) (out : List ByteArray),i + k = xs.length -> out.length <= i ->
  zI (xs.map eI) (i : Int) h (out.map D.str) (p.map eN) (m.list.map eIn) (m.defs.map eDf) = zA 0 (IY p (xs.drop i) h out).2 ((IY p (xs.drop i) h out).1.map D.str) (p.map eN) (m.list.map eIn) (m.defs.map eDf) /\ (IY p (xs.drop i) h out).1.length <= xs.length
 | 0,i,h,out,hi,ho => by
  rw [DI,xb (by rw [lnM]; exact yr (by omega)),List.drop_of_length_le (by omega),IY]
  exact ⟨rfl,by show out.length <= _; omega⟩
 | k + 1,i,h,out,hi,ho => by
  obtain ⟨x,hg⟩ := xx (l := xs) (i := i) (by omega)
  have hp := hx x (List.mem_of_getElem? hg)
  rw [DI,xK (by rw [lnM]; exact yz (by omega)),tU hg,IY]
  by_cases h0 : h = 0
  ·have ea : out.map D.str ++ [D.str (nod p x).s] = (out ++ [(nod p x).s]).map D.str := by simp
   have hlim : decide (ni ((out ++ [(nod p x).s]).map D.str).length <= LIM) = true := decide_eq_true (by rw [pE]; simp only [ni,lnM,lnA,lnC,lnN]; omega)
   have hn : V 230 [.op [.os (5,0) (p.map eN),.os (4,0) (m.list.map eIn),.os (3,0) (m.defs.map eDf),iN h],iN x] = _ := Ww (p := p) ⟨m.list,m.defs,h⟩ hp
   rw [xK (yF h0),yu (by rw [lnM]; exact yx (by omega)),Int.toNat_natCast,xW hg,ye,Lh hn,ea,yM (by omega),if_pos h0]
   have ih := fun h' => JG m hl hx k (i + 1) h' (out ++ [(nod p x).s]) (by omega) (by simp; omega)
   cases hc : nmC p x with
   | false => rw [Bool.not_false,yk,if_neg (by simp),yu hlim,yA]; exact ih 1
   | true => rw [Bool.not_true,xJ,if_pos rfl,h0,yu hlim,yA]; exact ih 0
  ·rw [xb (yE h0),if_neg h0]
   exact ⟨rfl,by show out.length <= _; omega⟩
theorem Tn {p : List Nd} (m : Ms) {out : List ByteArray} (hl : out.length <= 100000) {i : Nat} (hi : i < out.length) {s : ByteArray} (hs : out[i]? = some s) : ∀ (k j : Nat) (h : Int),j + k = i ->
  Af (i : Int) (j : Int) h (out.map D.str) (p.map eN) (m.list.map eIn) (m.defs.map eDf) = zA ((i + 1 : Nat) : Int) (if ((out.take i).drop j).any (fun t => kc t s) = true then 2 else h) (out.map D.str) (p.map eN) (m.list.map eIn) (m.defs.map eDf)
 | 0,j,h,hj => by
  rw [Dq,xb (decide_eq_false (by omega)),yM (by omega),List.drop_of_length_le (by simp; omega)]
  rfl
 | k + 1,j,h,hj => by
  obtain ⟨t,ht⟩ := xx (l := out) (i := j) (by omega)
  have ht2 : (out.take i)[j]? = some t := by rw [List.getElem?_take]; rw [if_pos (by omega)]; exact ht
  rw [Dq,xK (decide_eq_true (by omega)),yu (by rw [lnM]; exact yx (by omega)),Int.toNat_natCast,xW ht,yi,yu (by rw [lnM]; exact yx (by omega)),Int.toNat_natCast,xW hs,yi,yM (by omega),Tn m hl hi hs k (j + 1) 2 (by omega),Tn m hl hi hs k (j + 1) h (by omega),tU ht2,List.any_cons]
  cases kc t s with
  | true => rw [yk,Bool.true_or,if_pos rfl]; split <;> rfl
  | false => rw [xJ,Bool.false_or]
theorem Rh {p : List Nd} (m : Ms) {out : List ByteArray} (hl : out.length <= 100000) : ∀ (k i : Nat) (h : Int),i + k = out.length ->
  zA (i : Int) h (out.map D.str) (p.map eN) (m.list.map eIn) (m.defs.map eDf) = some (.os (1,0) (out.map D.str),[eMs p (CR m (Mg out k i h))])
 | 0,i,h,hi => by
  rw [Dp,xb (by rw [lnM]; exact yr (by omega))]
  rfl
 | k + 1,i,h,hi => by
  obtain ⟨s,hs⟩ := xx (l := out) (i := i) (by omega)
  have hg : out.getD i ⟨#[]⟩ = s := by rw [List.getD_eq_getElem?_getD,hs]; rfl
  have hin := Tn (p := p) m hl (i := i) (by omega) hs i 0 h (by omega)
  rw [Int.natCast_zero,List.drop_zero] at hin
  rw [Dp,xK (by rw [lnM]; exact yz (by omega)),hin,Rh m hl k (i + 1) _ (by omega),Mg,hg]
  by_cases h0 : h = 0
  ·rw [xK (yF h0),if_pos h0,h0]
  ·rw [xb (yE h0),if_neg h0]
   rfl
theorem QU {p : List Nd} (m : Ms) {xs : List Int} (hl : xs.length <= 100000) (hx : ∀ x ∈ xs,InP p x) : V 231 [eMs p m,.rs (1,0) (xs.map eI)] = some (.os (1,0) ((z7 p xs m.how).1.map D.str),[eMs p (CR m (z7 p xs m.how).2)]) /\ (z7 p xs m.how).1.length <= xs.length := by
 have h := fun h' => JG (p := p) m hl hx xs.length 0 h' [] (by omega) (by simp)
 simp only [Int.natCast_zero,List.drop_zero,List.map_nil] at h
 have key : ∀ h',zI (xs.map eI) 0 h' [] (p.map eN) (m.list.map eIn) (m.defs.map eDf) = some (.os (1,0) ((IY p xs h' []).1.map D.str),[eMs p (CR m (Mg (IY p xs h' []).1 (IY p xs h' []).1.length 0 (IY p xs h' []).2))]) := fun h' => by
  have hd := Rh (p := p) m (out := (IY p xs h' []).1) (by have := (h h').2; omega) (IY p xs h' []).1.length 0 (IY p xs h' []).2 (by omega)
  rw [(h h').1]
  exact hd
 rw [Oh,lnM]
 unfold z7
 by_cases h4 : xs.length > 4
 ·rw [xK (decide_eq_true (by simp only [ni]; omega)),if_pos h4]
  exact ⟨key 1,(h 1).2⟩
 ·rw [xb (decide_eq_false (by simp only [ni]; omega)),if_neg h4]
  exact ⟨key m.how,(h m.how).2⟩

def vrD (r : Option (Nat × Nat)) : D := match r with | some (n,i) => .tup [iN n,iN i] | none => .tup [iN (-1),iN 0]
theorem WB {env : List (List ByteArray)} {s : ByteArray} (h1 : env.length <= 100000) {n : Nat} {e : List ByteArray} (he : env[n]? = some e) (h2 : e.length <= 100000) : ∀ (k i : Nat),i + k = e.length ->
  CG (eEs env) s (n : Int) (i : Int) = match Wz s (e.drop i) i with
   | some j => some (.tup [iN n,iN j],[])
   | none => Bh (eEs env) s ((n + 1 : Nat) : Int)
 | 0,i,hi => by
  have hn := aQ he
  rw [FT,yu (by rw [lnM]; exact yx (by omega)),Int.toNat_natCast,xW he,yh,lnM,xb (yr (by omega)),List.drop_of_length_le (by omega),yM (by omega)]
  rfl
 | k + 1,i,hi => by
  have hn := aQ he
  obtain ⟨t,ht⟩ := xx (l := e) (i := i) (by omega)
  rw [FT,yu (by rw [lnM]; exact yx (by omega)),Int.toNat_natCast,xW he,yh,lnM,xK (yz (by omega)),xW he,yh,yu (by rw [lnM]; exact yx (by omega)),Int.toNat_natCast,xW ht,yi,tU ht,Wz,yM (by omega),WB h1 he h2 k (i + 1) (by omega),yu (by rw [lnM]; exact yx (by omega))]
  cases kc t s with
  | true => rw [yk,if_pos rfl]
  | false => rw [xJ,if_neg (by simp)]
theorem SQ {env : List (List ByteArray)} {s : ByteArray} (h1 : env.length <= 100000) (h2 : ∀ e ∈ env,e.length <= 100000) : ∀ (k n : Nat),n + k = env.length -> Bh (eEs env) s (n : Int) = some (vrD (Vy s (env.drop n) n),[])
 | 0,n,hn => by
  rw [FQ,xb (by rw [lnM]; exact yr (by omega)),List.drop_of_length_le (by omega)]
  rfl
 | k + 1,n,hn => by
  obtain ⟨e,he⟩ := xx (l := env) (i := n) (by omega)
  have hi := WB (s := s) h1 he (h2 e (List.mem_of_getElem? he)) e.length 0 (by omega)
  rw [Int.natCast_zero,List.drop_zero] at hi
  rw [FQ,xK (by rw [lnM]; exact yz (by omega)),hi,tU he,Vy,SQ h1 h2 k (n + 1) (by omega)]
  cases Wz s e 0 <;> rfl
theorem XZ {env : List (List ByteArray)} (s : ByteArray) (h1 : env.length <= 100000) (h2 : ∀ e ∈ env,e.length <= 100000) : V 248 [.rs (1,1) (eEs env),.str s] = some (vrD (Vy s env 0),[]) := by
 rw [RA]
 exact SQ h1 h2 env.length 0 (by omega)
end
end Go.Eng
