/- An interpreter of the model's code over pure data,proved against the model: part 1. No conditions. -/
import Derived.Orders
import Derived.Laws.Append
import Derived.Laws.AppendOwn
import Derived.Laws.IdiomStrings
import Derived.Laws.BytesString
import Derived.Laws.StructEq
import Derived.Laws.Concat
import Derived.Laws.Slices
import Derived.Laws.Tables
import Derived.Great.BuildSlice
import Derived.IntWalk
set_option linter.unusedVariables false
namespace Go.Eng
def shd {α : Type} (x : Option α) (K : Option α → Option α) : Option α := K x
theorem shd_eq {α : Type} (x : Option α) (K : Option α → Option α) : shd x K = K x := rfl
abbrev w6 : Int → Int := IntKind.wrap IntKind.i64
universe u v
theorem lnA {α : Type u} {as bs : List α} : (as ++ bs).length = as.length + bs.length := List.length_append
theorem lnC {α : Type u} {a : α} {as : List α} : (a :: as).length = as.length + 1 := List.length_cons
theorem lnN {α : Type u} : ([] : List α).length = 0 := List.length_nil
theorem lnM {α : Type u} {β : Type v} {as : List α} (f : α → β) : (as.map f).length = as.length := List.length_map f
noncomputable section
abbrev Z := Nat × Nat
inductive D where
 | int (k : IntKind) (n : Int)
 | bool (b : Bool)
 | str (s : ByteArray)
 | nl
 | np
 | rs (z : Z) (xs : List D)
 | os (z : Z) (xs : List D)
 | agg (cs : List D)
 | tup (vs : List D)
 | bp (cs : List D)
 | op (cs : List D)
 | fn (f : Nat) (caps : List D)
 | dead
 deriving Inhabited
inductive A where
 | d (x : D)
 | ref (id i off : Nat)
 | rp (z : Z) (xs : List D) (i off : Nat)
 | asl (id : Nat) (rng : Option (Nat × Nat))
 | agg (cs : List A)
 | tup (vs : List A)
 | fn (f : Nat) (caps : List A)
 | mp (id : Nat)
 | undef
 deriving Inhabited
inductive Blk where
 | arr (z : Z) (xs : List D)
 | fz (z : Z) (xs : List D)
 | var (cs : List A)
 | mp (sh : List D) (xs : List D)
abbrev Ups := List (Nat × Option Blk)
abbrev Ret := D × List D
structure St where
 slots : List A
 heap : Ups
 next : Nat
 io : List A
def aC : A -> List A
 | .agg cs => cs
 | x => [x]
def ay : D -> List D
 | .agg cs => cs
 | x => [x]
def ae : Ups -> Nat -> Option Blk
 | [],_ => none
 | (i,b) :: r,id => if i == id then b else ae r id
def aL : List A -> Nat -> A
 | [],_ => .undef
 | a :: _,0 => a
 | _ :: r,n + 1 => aL r n
def sset : List A -> Nat -> A -> List A
 | [],_,_ => []
 | _ :: r,0,v => v :: r
 | a :: r,n + 1,v => a :: sset r n v
def br {R : Type} (b : Bool) (x y : Option R) : Option R := match b with | true => x | false => y
def grd {R : Type} (b : Bool) (x : Option R) : Option R := match b with | true => x | false => none
def cT {R : Type} (xs : List D) (i : Nat) (K : D -> Option R) : Option R := match xs[i]? with | some x => K x | none => none
def asI {R : Type} (k : IntKind) (x : D) (K : Int -> Option R) : Option R := match x with | .int k' n => if k' = k then K n else none | _ => none
def asB {R : Type} (x : D) (K : Bool -> Option R) : Option R := match x with | .bool b => K b | _ => none
def asS {R : Type} (x : D) (K : ByteArray -> Option R) : Option R := match x with | .str s => K s | _ => none
def kq {R : Type} (z : Z) (x : D) (K : List D -> Option R) : Option R := match x with | .rs z' xs => if z' = z then K xs else none | _ => none
def jl {R : Type} (z : Z) (x : D) (K : List D -> Option R) : Option R := match x with | .os z' xs => if z' = z then K xs else none | _ => none
def asAgg {R : Type} (x : D) (K : List D -> Option R) : Option R := match x with | .agg xs => K xs | _ => none
def iV {R : Type} (x : D) (K : List D -> Option R) : Option R := match x with | .tup xs => K xs | _ => none
def nC {R : Type} (x : D) (K : List D -> Option R) : Option R := match x with | .op xs => K xs | _ => none
def unc {R : Type} (xs : List D) (K : D -> List D -> Option R) : Option R := match xs with | x :: r => K x r | [] => none
def unn {R : Type} (xs : List D) (K : Option R) : Option R := match xs with | [] => K | _ :: _ => none
def jb {R : Type} (call : Nat -> List D -> Option Ret) (f : Nat) (ds : List D) (K : D -> List D -> Option R) : Option R :=
 match call f ds with | some r => K r.1 r.2 | none => none
def gy {R : Type} (xs : List D) (K : ByteArray -> Option R) : Option R :=
 match xs.mapM (fun d => match d with | .int .u8 n => some (UInt8.ofNat n.toNat) | _ => none) with | some l => K ⟨l.toArray⟩ | none => none
def nam {R : Type} (xs : List D) (K : List D -> Option R) : Option R := K xs
def tT (t x y : Bool) : Bool := match t with | true => x | false => y
def gU (s : ByteArray) : List D := s.data.toList.map fun b => .int .u8 b.toNat
def bt (s : ByteArray) (i : Int) : Int := ((s.data.toList.getD i.toNat 0).toNat : Int)
def kc (x y : ByteArray) : Bool := x.toList == y.toList
def mnI (x y : Int) : Int := if y < x then y else x
def wu (xs : List D) (l : Int) : List D := xs.drop l.toNat
def wt (xs : List D) (h : Int) : List D := xs.take h.toNat
theorem vo : ∃ x : Int,x = 4294967296 := ⟨_,rfl⟩
def LIM : Int := Classical.choose vo
theorem pE : LIM = 4294967296 := Classical.choose_spec vo
def vn : Nat := 64
def tsz (P : Program) (t : TypeId) : Option Nat := (P.info? t).map (·.size)
def tag (P : Program) (t : TypeId) : Bool := match P.underlying t with | some (.struct _) => true | _ => false
def aH (P : Program) : Nat -> TypeId -> Option (List TypeId)
 | 0,_ => none
 | n + 1,t =>
  match P.underlying t with
  | some (.struct fs) => (fs.toList.mapM fun (f : Field) => aH P n f.type).map List.flatten
  | some (.array _ _) => none
  | some _ => some [t]
  | none => none
def ofV : Value -> A
 | .int k n => .d (.int k n)
 | .bool b => .d (.bool b)
 | .string s => .d (.str s)
 | .slice none 0 0 => .d .nl
 | .pointer none => .d .np
 | _ => .undef
def iR : Value -> A
 | .agg cs => .agg (cs.toList.map ofV)
 | v => ofV v
def dd (P : Program) (t : TypeId) : Option A := match P.info? t with | some i => i.zero.map iR | none => none
def ev (σ : St) : Operand -> A
 | .tmp t => aL σ.slots t
 | .const v => iR v
 | .func f => .fn f []
 | .global _ => .undef
def qU (P : Program) (e : TypeId) : Bool :=
 match aH P 8 e with
 | some ts => ts.all fun t => match P.underlying t with | some (.int _) | some .bool | some .string => true | _ => false
 | none => false
def zOf (P : Program) (e : TypeId) : Option Z := (tsz P e).map fun n => (n,match qU P e with | true => 0 | false => 1)
def j4 : D -> Bool
 | .int _ _ => true
 | .bool _ => true
 | .str _ => true
 | _ => false
def kf {R : Type} (P : Program) (own : Bool) : Nat -> TypeId -> D -> (D -> Option R) -> Option R
 | 0,_,_,_ => none
 | _ + 1,t,x,K =>
  match P.underlying t with
  | some .bool => asB x fun b => K (.bool b)
  | some (.int k) => asI k x fun n => K (.int k n)
  | some .string => asS x fun s => K (.str s)
  | some (.slice e) => match zOf P e with
   | some z => match own with
    | true => jl z x fun xs => K (.os z xs)
    | false => kq z x fun xs => K (.rs z xs)
   | none => none
  | _ => none
def dK {R : Type} (P : Program) (own : Bool) : List TypeId -> List D -> (List D -> Option R) -> Option R
 | [],xs,K => unn xs (K [])
 | t :: ts,xs,K => unc xs fun x r => kf P own 8 t x fun x' => dK P own ts r fun r' => K (x' :: r')
def lK {R : Type} (P : Program) (own : Bool) (t : TypeId) (x : D) (K : D -> Option R) : Option R :=
 match P.underlying t with
 | some (.struct _) => match aH P 8 t with | some ts => asAgg x fun cs => dK P own ts cs fun cs' => K (.agg cs') | none => none
 | some (.pointer e) => match aH P 8 e with | some ts => nC x fun cs => dK P own ts cs fun cs' => K (.op cs') | none => none
 | _ => kf P own 8 t x K
def gK {R : Type} (P : Program) (own : Bool) : List TypeId -> List D -> (List D -> Option R) -> Option R
 | [],xs,K => unn xs (K [])
 | t :: ts,xs,K => unc xs fun x r => lK P own t x fun x' => gK P own ts r fun r' => K (x' :: r')
def pB {R : Type} (P : Program) (own : Bool) (ts : List TypeId) (x : D) (K : D -> Option R) : Option R :=
 match ts with
 | [t] => lK P own t x K
 | ts => iV x fun vs => gK P own ts vs fun vs' => K (.tup vs')
def mc {R : Type} (z : Z) (x : D) (K : List D -> Option R) : Option R := match x with | .rs z' xs => if z' = z then K xs else none | .os z' xs => if z' = z /\ z.2 <= 1 then K xs else none | _ => none
def lF {R : Type} (P : Program) : Nat -> TypeId -> D -> (D -> Option R) -> Option R
 | 0,_,_,_ => none
 | _ + 1,t,x,K =>
  match P.underlying t with
  | some .bool => asB x fun b => K (.bool b)
  | some (.int k) => asI k x fun n => K (.int k n)
  | some .string => asS x fun s => K (.str s)
  | some (.slice e) => match zOf P e with
   | some z => mc z x fun xs => K (.rs z xs)
   | none => none
  | _ => none
def gI {R : Type} (P : Program) : List TypeId -> List D -> (List D -> Option R) -> Option R
 | [],xs,K => unn xs (K [])
 | t :: ts,xs,K => unc xs fun x r => lF P 8 t x fun x' => gI P ts r fun r' => K (x' :: r')
def jE {R : Type} (P : Program) (t : TypeId) (x : D) (K : D -> Option R) : Option R :=
 match P.underlying t with
 | some (.struct _) => match aH P 8 t with | some ts => asAgg x fun cs => gI P ts cs fun cs' => K (.agg cs') | none => none
 | _ => lF P 8 t x K
def dV {R : Type} (P : Program) : List TypeId -> List D -> (List D -> Option R) -> Option R
 | [],xs,K => unn xs (K [])
 | t :: ts,xs,K => unc xs fun x r => jE P t x fun x' => dV P ts r fun r' => K (x' :: r')
def xQ (P : Program) (t : TypeId) : Bool := match P.underlying t with | some (.pointer _) => true | _ => false
def tz {R : Type} (P : Program) (ts : List TypeId) (x : D) (K : D -> Option R) : Option R :=
 match ts with
 | [t] => match xQ P t with | true => lK P false t x K | false => jE P t x K
 | ts => iV x fun vs => dV P ts vs fun vs' => K (.tup vs')
def pA {R : Type} (P : Program) (own : Bool) (ts : List TypeId) (x : D) (K : D -> Option R) : Option R :=
 match own with | true => pB P true ts x K | false => tz P ts x K
def af (n : Nat) : D -> A × Nat × Ups
 | .os z xs => (.asl n none,n + 1,[(n,some (.arr z xs))])
 | x => (.d x,n,[])
def ar (n : Nat) : List D -> List A × Nat × Ups
 | [] => ([],n,[])
 | x :: r => match af n x with
  | (a,n1,u1) => match ar n1 r with
   | (as,n2,u2) => (a :: as,n2,u1 ++ u2)
def bpA (cs : List D) : A := match cs with
 | [c] => .rp (1,1) [c] 0 0
 | cs => .rp (cs.length,1) [.agg cs] 0 0
def ap (n : Nat) : D -> A × Nat × Ups
 | .agg cs => match ar n cs with | (as,n',u) => (.agg as,n',u)
 | .op cs => match ar (n + 1) cs with | (as,n',u) => (.ref n 0 0,n',(n,some (.var as)) :: u)
 | .bp cs => (bpA cs,n,[])
 | .fn f caps => (.fn f (caps.map fun c => match c with | .bp cs => bpA cs | _ => .undef),n,[])
 | x => af n x
def dw : D -> Bool
 | .int _ _ | .bool _ | .str _ | .nl | .np | .rs _ _ | .os _ _ => true
 | _ => false
def eh : D -> Bool
 | .rs _ _ => true
 | c => j4 c
def okV : D -> Bool
 | .agg cs => cs.all dw
 | .op cs => cs.all dw
 | .bp cs => cs.all eh
 | .fn _ caps => caps.all fun c => match c with | .bp cs => cs.all eh | _ => true
 | x => dw x
def aF (n : Nat) : List D -> List A × Nat × Ups
 | [] => ([],n,[])
 | x :: r => match ap n x with
  | (a,n1,u1) => match aF n1 r with
   | (as,n2,u2) => (a :: as,n2,u1 ++ u2)
def cu (n : Nat) : D -> A × Nat × Ups
 | .tup vs => match aF n vs with | (as,n',u) => (.tup as,n',u)
 | x => ap n x
def part (xs : List D) : Option (Nat × Nat) -> List D
 | none => xs
 | some (o,l) => (xs.drop o).take l
def ce (P : Program) (h : Ups) (t : TypeId) : A -> Option (D × List Nat)
 | .asl id rng => match ae h id with
  | some (.arr z xs) => match decide (z.2 <= 1) with | true => some (.rs z (part xs rng),[id]) | false => none
  | some (.fz z xs) => some (.rs z (part xs rng),[id])
  | _ => none
 | .d .nl => match P.underlying t with
  | some (.slice e) => (zOf P e).map fun z => (.rs z [],[])
  | _ => none
 | .d x => some (x,[])
 | _ => none
def ef (P : Program) (h : Ups) : List TypeId -> List A -> Option (List D × List Nat)
 | [],[] => some ([],[])
 | t :: ts,a :: as => match ce P h t a,ef P h ts as with
  | some (x,i),some (r,j) => some (x :: r,i ++ j)
  | _,_ => none
 | _,_ => none
def aq (P : Program) (h : Ups) (t : TypeId) : A -> Option (D × List Nat)
 | .asl id rng => match ae h id with
  | some (.arr z xs) => some (.os z (part xs rng),[id])
  | some (.fz z xs) => some (.rs z (part xs rng),[])
  | _ => none
 | .d .nl => match P.underlying t with
  | some (.slice e) => (zOf P e).map fun z => (.os z [],[])
  | _ => none
 | .d x => some (x,[])
 | _ => none
def ax (P : Program) (h : Ups) : List TypeId -> List A -> Option (List D × List Nat)
 | [],[] => some ([],[])
 | t :: ts,a :: as => match aq P h t a,ax P h ts as with
  | some (x,i),some (r,j) => some (x :: r,i ++ j)
  | _,_ => none
 | _,_ => none
def ct : A -> List Nat
 | .ref id _ _ => [id]
 | .asl id _ => [id]
 | .mp id => [id]
 | _ => []
def d9 : A -> List Nat
 | .agg cs => cs.flatMap ct
 | .fn _ cs => cs.flatMap ct
 | .tup cs => cs.flatMap ct
 | x => ct x
def ai : Nat := 64
inductive Mode where
 | ro | mv | mut
 deriving DecidableEq,Inhabited
structure Cfg where
 ext : Nat -> Option (List D -> Option Ret)
 mode : Nat -> Nat -> Mode          -- function,parameter
 own : Nat -> Bool                 -- results are new memory
inductive Back where
 | no
 | ptr (id off : Nat) (n : Nat)          -- cells of a variable
 | arrs (ids : List Nat) (as : List A)   -- arrays: those of these cells
 deriving Inhabited
def ie (h : Ups) : List A -> Option (List D × List Nat)
 | [] => some ([],[])
 | a :: as => match ie h as with
  | none => none
  | some (r,j) => match a with
   | .asl id rng => match ae h id with
    | some (.arr z xs) => match decide (z.2 <= 1) with | true => some (.rs z (part xs rng) :: r,id :: j) | false => none
    | some (.fz z xs) => some (.rs z (part xs rng) :: r,id :: j)
    | _ => none
   | .d x => some (x :: r,j)
   | _ => none
def bA (h : Ups) : A -> Option (D × List Nat)
 | .rp _ xs i off => match off,xs[i]? with
  | 0,some x => some (.bp (ay x),[])
  | _,_ => none
 | .ref id 0 0 => match ae h id with
  | some (.var cs) => (ie h cs).map fun r => (.bp r.1,id :: r.2)
  | _ => none
 | _ => none
def bC (h : Ups) : List A -> Option (List D × List Nat)
 | [] => some ([],[])
 | a :: as => match bA h a,bC h as with
  | some (x,i),some (r,j) => some (x :: r,i ++ j)
  | _,_ => none
structure Low where
 x : D
 lent : List Nat := []      -- read,kept
 gone : List Nat := []      -- given up
 back : Back := .no
def vv : List A -> List Nat
 | [] => []
 | .asl id _ :: r => id :: vv r
 | _ :: r => vv r
def bg : List A -> Bool
 | [] => true
 | .asl _ (some _) :: _ => false
 | _ :: r => bg r
def bI (P : Program) (h : Ups) (m : Mode) (t : TypeId) (a : A) : Option Low :=
 match a with
 | .ref id 0 off => match P.underlying t with
  | some (.pointer e) => match aH P 8 e,ae h id with
   | some ts,some (.var cs) => match decide (off + ts.length <= cs.length) with
    | true => (ax P h ts ((cs.drop off).take ts.length)).map fun r => { x := .op r.1,gone := r.2,back := .ptr id off ts.length,lent := [] }
    | false => none
   | _,_ => none
  | _ => none
 | .fn f caps => match m with
  | .mut => none
  | _ => (bC h caps).map fun r => { x := .fn f r.1,lent := r.2 }
 | .rp z xs i off => match m with
  | .mut => none
  | _ => (bA h (.rp z xs i off)).map fun r => { x := r.1 }
 | .agg cs => match aH P 8 t with
  | some ts => match m with
   | .ro => (ef P h ts cs).map fun r => { x := .agg r.1,lent := r.2 }
   | .mv => (ax P h ts cs).map fun r => { x := .agg r.1,gone := r.2 }
   | .mut => match bg cs with
    | true => (ax P h ts cs).map fun r => { x := .agg r.1,back := .arrs r.2 cs }
    | false => none
  | none => none
 | a => match m with
  | .ro => (ce P h t a).map fun r => { x := r.1,lent := r.2 }
  | .mv => (aq P h t a).map fun r => { x := r.1,gone := r.2 }
  | .mut => match bg [a] with
   | true => (aq P h t a).map fun r => { x := r.1,back := .arrs r.2 [a] }
   | false => none
def aA (P : Program) (h : Ups) (mode : Nat -> Mode) : Nat -> List TypeId -> List A -> Option (List Low)
 | _,[],[] => some []
 | i,t :: ts,a :: as => match bI P h (mode i) t a,aA P h mode (i + 1) ts as with
  | some x,some r => some (x :: r)
  | _,_ => none
 | _,_,_ => none
def fK (xs ys : List Nat) : Bool := xs.all fun x => !ys.contains x
def lt : List Nat -> Bool
 | [] => true
 | x :: r => !r.contains x && lt r
def ah : Low -> List Nat
 | { back := .ptr id _ _,.. } => [id]
 | { back := .arrs ids _,.. } => ids
 | _ => []
def cG : D -> Bool
 | .rs _ _ => true
 | .os z _ => decide (0 < z.2)
 | .int _ _ | .bool _ | .str _ | .nl | .np => false
 | _ => true
def pW : D -> Bool
 | .agg cs => cs.any cG
 | .op cs => cs.any cG
 | x => cG x
def jW : D -> Bool
 | .tup vs => vs.any pW
 | x => pW x
def freeze (h : Ups) : List Nat -> Ups
 | [] => []
 | id :: r => match ae h id with
  | some (.arr z xs) => (id,some (.fz z xs)) :: freeze h r
  | _ => freeze h r
def bJ {R : Type} (P : Program) : List TypeId -> List D -> List D -> (List D -> Option R) -> Option R
 | [],[],ys,K => unn ys (K [])
 | t :: ts,x :: xs,ys,K => unc ys fun y r =>
  match x with
  | .rs z _ => kq z y fun l => bJ P ts xs r fun r' => K (.rs z l :: r')
  | .os z _ => jl z y fun l => bJ P ts xs r fun r' => K (.os z l :: r')
  | _ => kf P true 8 t y fun y' => bJ P ts xs r fun r' => K (y' :: r')
 | _,_,_,_ => none
def aV : List A -> List D -> Ups
 | .asl id _ :: r,.os z xs :: ys => (id,some (.arr z xs)) :: aV r ys
 | _ :: r,_ :: ys => aV r ys
 | _,_ => []
def aK {R : Type} (P : Program) (h : Ups) (n : Nat) : List TypeId -> List Low -> List D -> (Nat -> Ups -> Bool -> Option R) -> Option R
 | [],[],ys,K => unn ys (K n [] false)
 | t :: ts,l :: ls,ys,K =>
  match l.back with
  | .no => aK P h n ts ls ys K
  | .ptr id off m => match P.underlying t,ae h id,l.x with
   | some (.pointer e),some (.var cs),.op xs => match aH P 8 e with
    | some cts => unc ys fun y r => nC y fun zs => bJ P cts xs zs fun zs' =>
     match ar n zs' with
     | (as,n1,u1) => aK P h n1 ts ls r fun n2 u2 m2 => K n2 ((id,some (.var (cs.take off ++ as ++ cs.drop (off + m)))) :: (u1 ++ u2)) (zs'.any cG || m2)
    | none => none
   | _,_,_ => none
  | .arrs _ as => unc ys fun y r => match l.x with
   | .agg xs => match aH P 8 t with
    | some cts => asAgg y fun zs => bJ P cts xs zs fun zs' => aK P h n ts ls r fun n2 u2 m2 => K n2 (aV as zs' ++ u2) (zs'.any cG || m2)
    | none => none
   | x => bJ P [t] [x] [y] fun zs' => aK P h n ts ls r fun n2 u2 m2 => K n2 (aV as zs' ++ u2) (zs'.any cG || m2)
 | _,_,_,_ => none
def kr (h : Ups) (a : A) : List Nat :=
 d9 a ++ (d9 a).flatMap fun id => match ae h id with | some (.var cs) => cs.flatMap ct | _ => []
def gT (h : Ups) (ids : List Nat) : Bool := ids.all fun id => match ae h id with | some (.arr _ _) => true | some (.fz _ _) => true | _ => false
def jK {R : Type} (P : Program) (cf : Cfg) (call : Nat -> List D -> Option Ret) (n : Nat) (h : Ups) (f : Nat) (as caps : List A)
  (K : A -> Ups -> List Nat -> Option R) : Option R :=
 match P.funcs[f]? with
 | none => none
 | some fn =>
  match aA P h (cf.mode f) 0 fn.params.toList as,bC h caps with
  | none,_ | _,none => none
  | some ls0,some (cds,clent) =>
   match ls0 with
   | ls =>
   match lt (ls.flatMap fun l => l.gone ++ ah l) && fK (clent ++ ls.flatMap (·.lent)) (ls.flatMap fun l => l.gone ++ ah l) with
   | false => none
   | true =>
    jb call f (ls.map (·.x) ++ cds) fun r ios =>
     pA P (cf.own f) fn.resultTypes.toList r fun r' =>
      aK P h n fn.params.toList ls ios fun n1 u1 m1 =>
       match cu n1 r' with
       | (v,n2,u2) => match decide (n2 <= n + ai) && (!(m1 || jW r') || gT h (clent ++ ls.flatMap (·.lent))) with
        | false => none
        | true =>
         K v (u1 ++ (u2 ++ ((ls.flatMap (·.gone)).map (·,none) ++ (match m1 || jW r' with | true => freeze h (clent ++ ls.flatMap (·.lent)) | false => []))))
          ((clent ++ ls.flatMap fun l => l.lent ++ l.gone ++ ah l) ++ (as ++ caps).flatMap (kr h))
def gV {R : Type} (P : Program) (cf : Cfg) (call : Nat -> List D -> Option Ret) (n : Nat) (h : Ups) (f : A) (as : List A)
  (K : A -> Ups -> List Nat -> Option R) : Option R :=
 match f with
 | .fn f caps => jK P cf call n h f as caps K
 | _ => none
def bz (n : Nat) : Option (Nat × Nat) -> Nat
 | none => n
 | some (_,l) => l
def lenOf (h : Ups) : A -> Option (Nat × List Nat)
 | .asl id rng => match ae h id with
  | some (.arr _ xs) => some (bz xs.length rng,[id])
  | some (.fz _ xs) => some (bz xs.length rng,[id])
  | _ => none
 | .d (.rs _ xs) => some (xs.length,[])
 | .d .nl => some (0,[])
 | _ => none
def cn (h : Ups) (sz : Nat) : A -> Option (List D × Z × List Nat)
 | .asl id rng => match ae h id with
  | some (.arr z xs) => some (part xs rng,z,[id])
  | some (.fz z xs) => some (part xs rng,z,[id])
  | _ => none
 | .d (.rs z xs) => some (xs,z,[])
 | .d .nl => some ([],(sz,0),[])
 | .d (.str s) => some (gU s,(1,0),[])
 | _ => none
def tJ (i : TypeInfo) : Bool := match i.zero with | some z => z.cells.size == i.size | none => false
def iE {R : Type} (P : Program) (n : Nat) (h : Ups) (t : TypeId) (s x : A) (K : A -> Ups -> List Nat -> Option R) : Option R :=
 match P.underlying t with
 | some (.slice e) => match P.info? e with
  | none => none
  | some i => match cn h i.size x with
   | none => none
   | some (ys,k,f) =>
    match decide (0 < i.size) && decide (i.size <= vn) && decide (i.bytes <= 1024) && tJ i && (k.1 == i.size) with
    | false => none
    | true =>
     match s with
     | .d .nl => grd (decide ((ys.length : Int) <= LIM)) (K (.asl n none) ((n,some (.arr k ys)) :: (match decide (k.2 <= 1) with | true => [] | false => f.map (·,none))) f)
     | .asl id rng => match ae h id with
      | some (.arr z xs) => match z.1 == i.size && (z.2 == k.2 || ys.isEmpty) with
       | true => match f.contains id,rng with
        | false,none => grd (decide (((xs ++ ys).length : Int) <= LIM)) (nam (xs ++ ys) fun xy => K (.asl n none) ((n,some (.arr z xy)) :: (id,none) :: (match decide (k.2 <= 1) with | true => [] | false => f.map (·,none))) (id :: f))
        | false,some (0,l) => grd (decide (((part xs (some (0,l)) ++ ys).length : Int) <= LIM)) (nam (part xs (some (0,l)) ++ ys) fun xy => K (.asl n none) ((n,some (.arr z xy)) :: (id,none) :: (match decide (k.2 <= 1) with | true => [] | false => f.map (·,none))) (id :: f))
        | true,some (0,l) => match z.2 == 0 with
         | true => grd (decide (l + ys.length <= xs.length)) (nam (xs.take l ++ ys ++ xs.drop (l + ys.length)) fun xy => K (.asl id (some (0,l + ys.length))) [(id,some (.arr z xy))] (id :: f))
         | false => none
        | _,_ => none
       | false => none
      | _ => none
     | _ => none
 | _ => none
def yL : A -> Option D
 | .d x => some x
 | _ => none
def fe (P : Program) (h : Ups) (ts : List TypeId) (a : A) : Option (D × List Nat) :=
 match a with
 | .agg cs => (ax P h ts cs).map fun r => (.agg r.1,r.2)
 | a => match ts with
  | [t] => aq P h t a
  | _ => none
def elems (P : Program) (h : Ups) (ts : List TypeId) : List A -> Option (List D × List Nat)
 | [] => some ([],[])
 | a :: as => match fe P h ts a,elems P h ts as with
  | some (x,i),some (r,j) => some (x :: r,i ++ j)
  | _,_ => none
def ic (P : Program) (e : TypeId) (xs : List D) : Option Nat :=
 match qU P e with
 | true => match xs.all fun x => (ay x).all j4 with | true => some 0 | false => none
 | false => match (xs.all fun x => (ay x).all fun c => match c with | .rs _ _ => true | c => j4 c) with
  | true => some 1
  | false => some 2
def db (σ : St) (l : List A) : List (Nat × Operand) -> List A
 | [] => l
 | (i,x) :: r => db σ (sset l i (ev σ x)) r
def bw : A -> Bool
 | .undef => false
 | .mp _ => false
 | .fn _ _ => false
 | .tup _ => false
 | _ => true
def xL : A -> Bool
 | .mp _ => false
 | .agg _ => false
 | .tup _ => false
 | .fn _ _ => false
 | _ => true
def xT : A -> Bool
 | .undef => false
 | .mp _ => false
 | _ => true
def oQ (P : Program) (σ : St) (fs : Array Field) (cells : List A) : List (Nat × Operand) -> Option (List A)
 | [] => some cells
 | (i,x) :: r => match fs[i]? with
  | none => none
  | some f => match tsz P f.type with
   | none => none
   | some s => match bw (ev σ x) && (aC (ev σ x)).length == s && decide (f.offset + s <= cells.length) with
    | true => oQ P σ fs (cells.take f.offset ++ aC (ev σ x) ++ cells.drop (f.offset + s)) r
    | false => none
def jm {R : Type} (z : Z) (e : D) (off : Nat) (K : D -> Option R) : Option R :=
 match z.1 with
 | 1 => match off with
  | 0 => K e
  | _ => none
 | _ => asAgg e fun cs => cT cs off K
def mkA (P : Program) (t : TypeId) (cs : List A) : Option A :=
 match P.underlying t with
 | some (.struct _) => some (.agg cs)
 | some (.array _ _) => none
 | some _ => match cs with
  | [c] => some c
  | _ => none
 | none => none
def eu {R : Type} (P : Program) (t : TypeId) (z : Z) (e : D) (off : Nat) (K : A -> Option R) : Option R :=
 match tag P t with
 | false => match decide (z.1 = 1) && decide (off = 0) with
  | true => kf P false 8 t e fun c => K (.d c)
  | false => asAgg e fun cs => cT cs off fun c => kf P false 8 t c fun c' => K (.d c')
 | true => match aH P 8 t with
  | some ts => match decide (ts.length = z.1) && decide (off = 0) && (tsz P t == some z.1) with
   | true => match z.1 with
    | 1 => dK P false ts (ay e) fun cs' => K (.agg (cs'.map .d))
    | _ => asAgg e fun cs => dK P false ts cs fun cs' => K (.agg (cs'.map .d))
   | false => none
  | none => none
def da {R : Type} (z : Z) (e : D) (off : Nat) (cs : List D) (isAgg : Bool) (K : D -> Option R) : Option R :=
 match decide (off = 0) && decide (cs.length = z.1) with
 | true => match isAgg with
  | true => K (.agg cs)
  | false => match cs with | [c] => K c | _ => none
 | false => asAgg e fun old => K (.agg (old.take off ++ cs ++ old.drop (off + cs.length)))
def gz (σ : St) : Option Operand -> Option (Option Int)
 | none => some none
 | some x => match ev σ x with | .d (.int _ n) => some (some n) | _ => none
def sm (xs : List D) : Option Int -> Option Int -> List D
 | none,none => xs
 | some l,none => wu xs l
 | none,some h => wt xs h
 | some l,some h => wu (wt xs h) l
def cW (n : Nat) : Option Int -> Option Int -> Bool
 | none,none => true
 | some l,none => decide (0 <= l) && decide (l <= n)
 | none,some h => decide (0 <= h) && decide (h <= n)
 | some l,some h => decide (0 <= l) && (decide (l <= h) && decide (h <= n))
def gW (n c : Nat) : Option Int -> Option Int -> Bool
 | none,none => true
 | some l,none => decide (0 <= l) && decide (l <= n)
 | none,some h => decide (0 <= h) && decide (h <= c)
 | some l,some h => decide (0 <= l) && (decide (l <= h) && decide (h <= c))
def jM (n : Nat) : Option (Nat × Nat) -> Option Int -> Option Int -> Option (Nat × Nat)
 | r,none,none => r
 | none,some l,none => some (l.toNat,n - l.toNat)
 | none,none,some h => some (0,h.toNat)
 | none,some l,some h => some (l.toNat,h.toNat - l.toNat)
 | some (o,m),some l,none => some (o + l.toNat,m - l.toNat)
 | some (o,_),none,some h => some (o,h.toNat)
 | some (o,_),some l,some h => some (o + l.toNat,h.toNat - l.toNat)
def ba (P : Program) : List Field -> List A -> List A -> Option Bool
 | [],[],[] => some true
 | f :: fs,.d x :: r,.d y :: s => match P.underlying f.type with
  | some (.int _) => match x,y with
   | .int j a,.int k b => match decide (j = k) with
    | true => (ba P fs r s).map fun t => (a == b) && t
    | false => none
   | _,_ => none
  | some .string => match x,y with
   | .str a,.str b => (ba P fs r s).map fun t => kc a b && t
   | _,_ => none
  | some .bool => match x,y with
   | .bool a,.bool b => (ba P fs r s).map fun t => (a == b) && t
   | _,_ => none
  | _ => none
 | _,_,_ => none
def uG (P : Program) (t : TypeId) : Bool :=
 match P.underlying t with
 | some (.struct fs) => !P.stoodInHeld t && !P.eqGuardType P.depth t && fs.toList.zipIdx.all fun p => p.1.name != "_" && p.1.offset == p.2
 | _ => false
def uK {R : Type} (op : BinOp) (k : IntKind) (x y : Int) (K : D -> Option R) : Option R :=
 match op with
 | .add => K (.int k (k.wrap (x + y)))
 | .sub => K (.int k (k.wrap (x - y)))
 | .mul => K (.int k (k.wrap (x * y)))
 | .quo => grd (!decide (y = 0)) (K (.int k (k.wrap (x.tdiv y))))
 | .rem => grd (!decide (y = 0)) (K (.int k (x.tmod y)))
 | .and => K (.int k (k.wrap (BitVec.ofInt k.bits x &&& BitVec.ofInt k.bits y).toNat))
 | .or => K (.int k (k.wrap (BitVec.ofInt k.bits x ||| BitVec.ofInt k.bits y).toNat))
 | .xor => K (.int k (k.wrap (BitVec.ofInt k.bits x ^^^ BitVec.ofInt k.bits y).toNat))
 | .eql => K (.bool (x == y))
 | .neq => K (.bool (x != y))
 | .lss => K (.bool (decide (x < y)))
 | .leq => K (.bool (decide (x <= y)))
 | .gtr => K (.bool (decide (x > y)))
 | .geq => K (.bool (decide (x >= y)))
 | _ => none
def se {R : Type} (P : Program) (op : BinOp) (t : TypeId) (x y : A) (K : D -> Option R) : Option R :=
 match x,y with
 | .d (.int k a),.d (.int k' b) => match op with
  | .shl => grd (!decide (b < 0)) (K (.int k (k.wrap (a * 2 ^ (min b.toNat k.bits)))))
  | .shr => grd (!decide (b < 0)) (K (.int k (a.fdiv (2 ^ (min b.toNat k.bits)))))
  | _ => match decide (k = k') with | true => uK op k a b K | false => none
 | .d (.str a),.d (.str b) => match op with
  | .add => grd (decide (((a.size + b.size : Nat) : Int) <= LIM)) (K (.str (a ++ b)))
  | .eql => K (.bool (kc a b))
  | .neq => K (.bool (!kc a b))
  | _ => none
 | .d (.bool a),.d (.bool b) => match op with
  | .eql => match P.underlying t with | some .bool => K (.bool (a == b)) | _ => none
  | .neq => match P.underlying t with | some .bool => K (.bool (!(a == b))) | _ => none
  | _ => none
 | .agg xs,.agg ys => match P.underlying t with
  | some (.struct fs) => match uG P t,ba P fs.toList xs ys with
   | true,some b => match op with
    | .eql => K (.bool b)
    | .neq => K (.bool (!b))
    | _ => none
   | _,_ => none
  | _ => none
 | _,_ => none
def ox {R : Type} (P : Program) (n : Nat) (h : Ups) (src dst : TypeId) (x : A) (K : A -> Ups -> List Nat -> Option R) : Option R :=
 match P.underlying src,P.underlying dst with
 | some _,some (.int k) => match x with | .d (.int _ a) => K (.d (.int k (k.wrap a))) [] [] | _ => none
 | some (.int _),some .string => match x with | .d (.int _ a) => K (.d (.str (Utf8.encode a))) [] [] | _ => none
 | some .string,some .string => match x with | .d (.str s) => K (.d (.str s)) [] [] | _ => none
 | some .string,some (.slice e) => match P.underlying e,x with
  | some (.int .u8),.d (.str s) => K (.asl n none) [(n,some (.arr (1,0) (gU s)))] []
  | _,_ => none
 | some (.slice _),some (.slice e) => match P.underlying e,x with
  | some (.int .u8),.asl id none => match ae h id with
   | some (.arr z xs) => match src == dst && decide (z.2 <= 1) with
    | true => grd (decide (0 < xs.length)) (K (.asl id none) [(id,some (.arr z xs))] [id])
    | false => none
   | _ => none
  | _,_ => none
 | some (.slice e),some .string => match P.underlying e,x with
  | some (.int .u8),.d (.str _) => none
  | some (.int .u8),x => match cn h 1 x with
   | some (xs,_,f) => gy xs fun s => K (.d (.str s)) [] f
   | none => none
  | _,_ => none
 | _,_ => none
def qm : Operand -> Operand -> Bool
 | .tmp a,.tmp b => a == b
 | .const (.int _ a),.const (.int _ b) => decide (a = b)
 | _,_ => false
def ph {R : Type} (P : Program) (n : Nat) (h : Ups) (t : TypeId) (a : A) (K : A -> Ups -> List Nat -> Option R) : Option R :=
 match a with
 | .ref id i off => match ae h id with
  | some (.var cs) => match i,tsz P t with
   | 0,some s => match decide (off + s <= cs.length),mkA P t ((cs.drop off).take s) with
    | true,some v => K v [] [id]
    | _,_ => none
   | _,_ => none
  | some (.fz z xs) => cT xs i fun e => eu P t z e off fun v => K v [] [id]
  | some (.arr z xs) => match decide (z.2 <= 1) with
   | true => cT xs i fun e => eu P t z e off fun v => K v [] [id]
   | false => match P.underlying t with
    | some (.slice e') => match zOf P e' with
     | some z' => cT xs i fun e => jm z e off fun c => jl z' c fun ys =>
       da z e off [.dead] (decide (1 < z.1)) fun e2 => K (.asl n none) [(n,some (.arr z' ys)),(id,some (.arr z (xs.set i e2)))] [id]
     | none => none
    | some (.struct _) => none
    | _ => cT xs i fun e => eu P t z e off fun v => K v [] [id]
  | some (.mp _ _) => none
  | none => none
 | .rp z xs i off => cT xs i fun e => eu P t z e off fun v => K v [] []
 | _ => none
def kO {R : Type} (P : Program) (h : Ups) (t : TypeId) (a v : A) (K : Ups -> List Nat -> Option R) : Option R :=
 match a with
 | .ref id i off => match ae h id,aH P 8 t with
  | some (.var cs),some ts => match i == 0 && (aC v).length == ts.length && decide (off + ts.length <= cs.length) && bw v && (aC v).all xT && (tsz P t == some ts.length) with
   | true => K [(id,some (.var (cs.take off ++ aC v ++ cs.drop (off + ts.length))))] [id]
   | false => none
  | some (.arr z xs),some ts => match fe P h ts v with
   | some (x,gone) => match !gone.contains id && lt gone && bw v && decide (0 < ts.length) && (tsz P t == some ts.length) && (ay x).length == ts.length && decide (off + ts.length <= z.1) && (match z.2 with | 0 => (ay x).all j4 | 1 => ((ay x).all fun c => match c with | .rs _ _ => true | c => j4 c) | _ => true) with
    | true => cT xs i fun e => da z e off (ay x) (tag P t || decide (1 < z.1)) fun e2 => nam (xs.set i e2) fun xy => K ((id,some (.arr z xy)) :: gone.map (·,none)) (id :: (gone ++ d9 v))
    | false => none
   | none => none
  | _,_ => none
 | _ => none
def eJ : D -> D -> Bool
 | .int k _,.int k' _ => decide (k = k')
 | .bool _,.bool _ => true
 | .str _,.str _ => true
 | _,_ => false
def cU : List D -> List D -> Bool
 | [],[] => true
 | s :: ss,x :: xs => eJ s x && cU ss xs
 | _,_ => false
def pQ : D -> D -> Bool
 | .int _ a,.int _ b => a == b
 | .bool a,.bool b => a == b
 | .str a,.str b => kc a b
 | _,_ => false
def jT : List D -> List D -> Bool
 | a :: r,b :: s => pQ a b && jT r s
 | _,_ => true
def cJ : List D -> List D -> Option Int
 | [],_ => none
 | .tup [.agg ks,.int _ v] :: r,key => match jT key ks with | true => some v | false => cJ r key
 | _ :: r,key => cJ r key
def ja (xs key : List D) : Bool := (cJ xs key).isSome
def mR (xs key : List D) : Int := (cJ xs key).getD 0
def vL (xs key : List D) (v : Int) : List D := xs ++ [.tup [.agg key,.int .i64 v]]
def j7 (P : Program) : List Field -> Option (List D)
 | [] => some []
 | f :: r => match P.underlying f.type,tsz P f.type with
  | some (.int k),some 1 => (j7 P r).map (.int k 0 :: ·)
  | some .bool,some 1 => (j7 P r).map (.bool false :: ·)
  | some .string,some 1 => (j7 P r).map (.str ⟨#[]⟩ :: ·)
  | _,_ => none
def re (P : Program) (t : TypeId) : Option (List D) :=
 match P.underlying t with
 | some (.map k e) => match P.underlying k,P.underlying e,dd P e with
  | some (.struct fs), some (.int .i64), some (.d (.int .i64 0)) => match uG P k && fs.toList.all fun f => f.name != "_" with
   | true => j7 P fs.toList
   | false => none
  | _,_,_ => none
 | _ => none
def dsA : List A -> Option (List D)
 | [] => some []
 | .d x :: r => (dsA r).map (x :: ·)
 | _ :: _ => none
def pi {R : Type} (P : Program) (h : Ups) (t : TypeId) (m k : A) (K : A -> Ups -> List Nat -> Option R) : Option R :=
 match m,k,re P t with
 | .mp id,.agg ks,some sh => match ae h id,dsA ks with
  | some (.mp sh' xs),some key => match cU sh key && cU sh sh' with
   | true => K (.tup [.d (.int .i64 (mR xs key)),.d (.bool (ja xs key))]) [] [id]
   | false => none
  | _,_ => none
 | _,_,_ => none
def uQ {R : Type} (P : Program) (h : Ups) (t : TypeId) (m k v : A) (K : A -> Ups -> List Nat -> Option R) : Option R :=
 match m,k,v,re P t with
 | .mp id,.agg ks,.d (.int .i64 n),some sh => match ae h id,dsA ks with
  | some (.mp sh' xs),some key => match cU sh key && cU sh sh' with
   | true => grd (!ja xs key) (nam (vL xs key n) fun xs' => K (.tup []) [(id,some (.mp sh' xs'))] [id])
   | false => none
  | _,_ => none
 | _,_,_,_ => none
def yK {R : Type} (K : D -> Ups -> List Nat -> Option R) : A -> Ups -> List Nat -> Option R := fun a u f => match a with | .d x => K x u f | _ => none
def opK {R : Type} (P : Program) (cf : Cfg) (call : Nat -> List D -> Option Ret) (n : Nat) (o : Oper) (σ : St) (K : A -> Ups -> List Nat -> Option R) : Option R :=
 match o.op with
 | .move x | .assign x => K (ev σ x) [] []
 | .pick c a b => match ev σ c,ev σ a,ev σ b with
  | .d (.bool t),.d (.bool x),.d (.bool y) => K (.d (.bool (tT t x y))) [] []
  | .d (.bool true),a,_ => K a [] []
  | .d (.bool false),_,b => K b [] []
  | _,_,_ => none
 | .alloc t => match dd P t with | some z => (match bw z with | true => K (.ref n 0 0) [(n,some (.var (aC z)))] [] | false => none) | none => none
 | .box _ x => match bw (ev σ x) with | true => K (.ref n 0 0) [(n,some (.var (aC (ev σ x))))] [] | false => none
 | .build t parts => match dd P t,P.underlying t with
  | some z,some (.struct fs) => match fs.toList.all (fun f => (tsz P f.type).isSome) && bw z,oQ P σ fs (aC z) parts.toList with | true,some cs => K (.agg cs) [] [] | _,_ => none
  | _,_ => none
 | .buildSlice t len parts => match P.underlying t with
  | some (.slice e) => match P.info? e,dd P e,aH P 8 e with
   | some i,some z,some ts => match decide (0 < i.size) && decide (i.size <= vn) && decide (len <= 4096) && decide (ts.length = i.size) && parts.toList.all (fun p => decide (p.1 < len) && bw (ev σ p.2) && (aC (ev σ p.2)).length == i.size) && bw z && (aC z).length == i.size with
    | true => match elems P σ.heap ts (db σ (List.replicate len z) parts.toList) with
     | some (xs,gone) => match lt gone,ic P e xs with
      | true,some k => K (.asl n none) ((n,some (.arr (i.size,k) xs)) :: gone.map (·,none)) (gone ++ parts.toList.flatMap fun p => d9 (ev σ p.2))
      | _,_ => none
     | none => none
    | false => none
   | _,_,_ => none
  | _ => none
 | .makeMap t none => match re P t with | some sh => K (.mp n) [(n,some (.mp sh []))] [] | none => none
 | .lookup t x i true => pi P σ.heap t (ev σ x) (ev σ i) K
 | .mapUpdate t m k v => uQ P σ.heap t (ev σ m) (ev σ k) (ev σ v) K
 | .load t a => ph P n σ.heap t (ev σ a) K
 | .store t a v => kO P σ.heap t (ev σ a) (ev σ v) fun u f => K (.tup []) u f
 | .nilCheck x => match ev σ x with
  | .ref id i off => K (.ref id i off) [] []
  | .rp z xs i off => K (.rp z xs i off) [] []
  | _ => none
 | .binOp op t x y _ => se P op t (ev σ x) (ev σ y) fun r => K (.d r) [] []
 | .unOp op _ x => match op,ev σ x with
  | .not,.d (.bool b) => K (.d (.bool (!b))) [] []
  | .neg,.d (.int k a) => K (.d (.int k (k.wrap (0 - a)))) [] []
  | _,_ => none
 | .convert src dst x => ox P n σ.heap src dst (ev σ x) K
 | .makeFunc (.func f) first caps => match first.size,caps.toList.all (fun x => xL (ev σ x)) with | 0,true => K (.fn f (caps.toList.map (ev σ))) [] [] | _,_ => none
 | .makeSlice t l c => match P.underlying t,ev σ l,qm l c with
  | some (.slice e),.d (.int .i64 k),true => match P.info? e,dd P e with
   | some i,some z => match fe P [] ((aH P 8 e).getD []) z with
    | some (x,[]) => match decide (0 < i.size) && decide (i.size <= vn) && decide (i.bytes <= 1024) && bw z && (aC z).length == i.size with
     | true => match ic P e [x] with
      | some q => grd (decide (0 <= k) && decide (k <= LIM)) (K (.asl n none) [(n,some (.arr (i.size,q) (List.replicate k.toNat x)))] [])
      | none => none
     | false => none
    | _ => none
   | _,_ => none
  | _,_,_ => none
 | .slice t x lo hi none => match ev σ x,gz σ lo,gz σ hi with
  | .d (.str s),some l,some h => match P.underlying t with
   | some .string => match l,h with
    | none,none => K (.d (.str s)) [] []
    | some l,none => grd (cW s.size (some l) none) (K (.d (.str (s.extract l.toNat s.size))) [] [])
    | none,some h => grd (cW s.size none (some h)) (K (.d (.str (s.extract 0 h.toNat))) [] [])
    | some l,some h => grd (cW s.size (some l) (some h)) (K (.d (.str (s.extract l.toNat h.toNat))) [] [])
   | _ => none
  | .d (.rs z xs),some l,some h => match P.underlying t with
   | some (.slice e) => match tsz P e == some z.1 with
    | true => grd (cW xs.length l h) (K (.d (.rs z (sm xs l h))) [] [])
    | false => none
   | _ => none
  | .asl id rng,some l,some h => match lenOf σ.heap (.asl id rng),P.underlying t,ae σ.heap id with
   | some (m,_),some (.slice e),some (.arr z _) | some (m,_),some (.slice e),some (.fz z _) => match tsz P e == some z.1 with
    | true => match rng with
     | none => grd (cW m l h) (K (.asl id (jM m none l h)) [] [id])
     | some (o,q) => match lenOf σ.heap (.asl id none) with
      | some (m0,_) => grd (gW q (m0 - o) l h) (K (.asl id (jM q (some (o,q)) l h)) [] [id])
      | none => none
    | false => none
   | _,_,_ => none
  | _,_,_ => none
 | .slice t x lo hi (some mx) => match ev σ x,gz σ lo,gz σ hi,ev σ mx with
  | .asl id rng,some l,some h,.d (.int _ m) => match lenOf σ.heap (.asl id rng),P.underlying t,ae σ.heap id with
   | some (q,_),some (.slice e),some (.arr z _) | some (q,_),some (.slice e),some (.fz z _) => match tsz P e == some z.1 with
    | true => grd (decide (0 <= m) && decide (m <= (q : Int)) && h.isSome && cW m.toNat l h) (K .undef [] [id])
    | false => none
   | _,_,_ => none
  | _,_,_,_ => none
 | .fieldAddr s a f => match P.underlying s with
  | some (.struct fs) => match fs[f]? with
   | some fd => match tsz P fd.type with
    | some (_ + 1) => match ev σ a with
     | .ref id i off => K (.ref id i (off + fd.offset)) [] []
     | .rp z xs i off => K (.rp z xs i (off + fd.offset)) [] []
     | _ => none
    | _ => none
   | none => none
  | _ => none
 | .field s x f => match P.underlying s,ev σ x with
  | some (.struct fs),.agg cs => match fs[f]? with
   | some fd => match tsz P fd.type with
    | some sz => match decide (fd.offset + sz <= cs.length),mkA P fd.type ((cs.drop fd.offset).take sz) with
     | true,some v => K v [] []
     | _,_ => none
    | none => none
   | none => none
  | _,_ => none
 | .indexAddr t x ix => match ev σ ix,P.underlying t with
  | .d (.int _ i),some (.slice e) => match ev σ x with
   | .d (.rs z xs) => match tsz P e == some z.1 with
    | true => grd (decide (0 <= i) && decide (i < (xs.length : Int))) (K (.rp z xs i.toNat 0) [] [])
    | false => none
   | .asl id rng => match ae σ.heap id with
    | some (.arr z xs) | some (.fz z xs) => match tsz P e == some z.1 with
     | true => match rng with
      | none => grd (decide (0 <= i) && decide (i < (xs.length : Int))) (K (.ref id i.toNat 0) [] [id])
      | some (o,l) => grd (decide (0 <= i) && decide (i < (l : Int)) && decide (o + l <= xs.length)) (K (.ref id (o + i.toNat) 0) [] [id])
     | false => none
    | _ => none
   | _ => none
  | _,_ => none
 | .index t x ix => match P.underlying t,ev σ x,ev σ ix with
  | some .string,.d (.str s),.d (.int _ i) => grd (decide (0 <= i) && decide (i < (s.size : Int))) (K (.d (.int .u8 (bt s i))) [] [])
  | _,_,_ => none
 | .extract a i => match ev σ a with
  | .tup vs => match vs[i]? with | some v => K v [] [] | none => none
  | _ => none
 | .call c => match c.callee with
  | .value f => gV P cf call n σ.heap (ev σ f) (c.args.toList.map (ev σ)) K
  | .builtin .len => match c.args.toList,c.argTypes.toList with
   | [x],[t] => match ev σ x,P.underlying t with
    | .d (.str s),some .string => K (.d (.int .i64 (s.size : Int))) [] []
    | x,some (.slice _) => match lenOf σ.heap x with | some (m,f) => K (.d (.int .i64 (m : Int))) [] f | none => none
    | _,_ => none
   | _,_ => none
  | .builtin .clear => match c.args.toList,c.argTypes.toList with
   | [x],[t] => match ev σ x,P.underlying t with
    | .asl id rng,some (.slice e) => match ae σ.heap id,P.info? e,dd P e with
     | some (.arr z xs),some i,some ze => match fe P [] ((aH P 8 e).getD []) ze with
      | some (x0,[]) => match decide (0 < i.size) && (i.size == z.1) && bw ze && ((aC ze).length == i.size) && (z.2 == 0),ic P e [x0],rng with
       | true,some 0,some (o,l) => grd (decide (o + l <= xs.length)) (nam (xs.take o ++ List.replicate l x0 ++ xs.drop (o + l)) fun xy => K (.tup []) [(id,some (.arr z xy))] [id])
       | _,_,_ => none
      | _ => none
     | _,_,_ => none
    | _,_ => none
   | _,_ => none
  | .builtin .min => match c.args.toList with
   | [x,y] => match ev σ x,ev σ y with
    | .d (.int k a),.d (.int _ b) => K (.d (.int k (mnI a b))) [] []
    | _,_ => none
   | _ => none
  | .builtin .append => match c.args.toList,c.argTypes.toList with
   | [s,x],[t,u] => match P.underlying u with
    | some (.slice _) | some .string => iE P n σ.heap t (ev σ s) (ev σ x) K
    | _ => none
   | _,_ => none
  | _ => none
 | _ => none
def xO {R : Type} (x : D) (K : D -> R) : R :=
 match x with
 | .int k n => K (.int k n)
 | .bool b => K (.bool b)
 | .str s => K (.str s)
 | .nl => K .nl
 | .np => K .np
 | .rs z xs => K (.rs z xs)
 | .os z xs => K (.os z xs)
 | .agg cs => K (.agg cs)
 | .tup vs => K (.tup vs)
 | .bp cs => K (.bp cs)
 | .op cs => K (.op cs)
 | .fn f caps => K (.fn f caps)
 | .dead => K .dead
def xd {R : Type} (a : A) (K : A -> R) : R :=
 match a with
 | .d x => xO x fun x => K (.d x)
 | .ref i j k => K (.ref i j k)
 | .rp z xs i off => K (.rp z xs i off)
 | .asl id rng => match rng with | none => K (.asl id none) | some (o,l) => K (.asl id (some (o,l)))
 | .agg cs => K (.agg cs)
 | .tup vs => K (.tup vs)
 | .fn f caps => K (.fn f caps)
 | .mp id => K (.mp id)
 | .undef => K .undef
def qV {R : Type} : List A -> (List A -> R) -> R
 | [],K => K []
 | a :: r,K => xd a fun a => qV r fun r => K (a :: r)
def xe {R : Type} (a : A) (K : A -> R) : R :=
 match a with
 | .agg cs => qV cs fun cs => K (.agg cs)
 | a => xd a K
def o5 {R : Type} : List A -> (List A -> R) -> R
 | [],K => K []
 | a :: r,K => xe a fun a => o5 r fun r => K (a :: r)
def xM {R : Type} (a : A) (K : A -> R) : R :=
 match a with
 | .tup vs => o5 vs fun vs => K (.tup vs)
 | a => xe a K
def xN {R : Type} (b : Blk) (K : Blk -> R) : R :=
 match b with
 | .arr z xs => match z with | (p,q) => K (.arr (p,q) xs)
 | .fz z xs => match z with | (p,q) => K (.fz (p,q) xs)
 | .var cs => qV cs fun cs => K (.var cs)
 | .mp sh xs => K (.mp sh xs)
def pN {R : Type} : Ups -> (Ups -> R) -> R
 | [],K => K []
 | (id,none) :: r,K => pN r fun r => K ((id,none) :: r)
 | (id,some b) :: r,K => xN b fun b => pN r fun r => K ((id,some b) :: r)
theorem wx {R : Type} (x : D) (K : D -> R) : xO x K = K x := by cases x <;> rfl
theorem pM {R : Type} (a : A) (K : A -> R) : xd a K = K a := by
 cases a with
 | d x => exact wx x fun x => K (.d x)
 | asl id rng => cases rng <;> rfl
 | _ => rfl
theorem iG {R : Type} : ∀ (as : List A) (K : List A -> R),qV as K = K as
 | [],K => rfl
 | a :: r,K => by simp only [qV,pM,iG r]
theorem lR {R : Type} (a : A) (K : A -> R) : xe a K = K a := by
 cases a with
 | agg cs => exact iG cs fun cs => K (.agg cs)
 | d x => exact pM (.d x) K
 | ref i j k => rfl
 | rp z xs i off => rfl
 | asl id rng => exact pM (.asl id rng) K
 | tup vs => rfl
 | fn f caps => rfl
 | mp id => rfl
 | undef => rfl
theorem mw {R : Type} : ∀ (as : List A) (K : List A -> R),o5 as K = K as
 | [],K => rfl
 | a :: r,K => by simp only [o5,lR,mw r]
theorem tW {R : Type} (a : A) (K : A -> R) : xM a K = K a := by
 cases a with
 | tup vs => exact mw vs fun vs => K (.tup vs)
 | agg cs => exact lR (.agg cs) K
 | d x => exact lR (.d x) K
 | ref i j k => rfl
 | rp z xs i off => rfl
 | asl id rng => exact lR (.asl id rng) K
 | fn f caps => rfl
 | mp id => rfl
 | undef => rfl
theorem ww {R : Type} (b : Blk) (K : Blk -> R) : xN b K = K b := by
 cases b with
 | arr z xs => cases z; rfl
 | fz z xs => cases z; rfl
 | var cs => exact iG cs fun cs => K (.var cs)
 | mp sh xs => rfl
theorem gq {R : Type} : ∀ (u : Ups) (K : Ups -> R),pN u K = K u
 | [],K => rfl
 | (id,none) :: r,K => by simp only [pN,gq r]
 | (id,some b) :: r,K => by simp only [pN,ww,gq r]
structure Foot where
 dst : Option Nat
 uses : List Nat
 rd : List Nat
 wr : List Nat
 base : Nat
def wV (n : Nat) : Ups -> Bool
 | [] => true
 | p :: r => Nat.blt p.1 (n + ai) && wV n r
def gG (ops : Array Oper) (o : Oper) : List Nat :=
 (o.op.operands.toList.filterMap fun | .tmp t => some t | _ => none) ++ (match o.guard with | some (j,_) => ((ops[j]?).bind (·.dst)).toList | none => [])
def put (σ : St) (dst : Option Nat) (v : A) (u : Ups) : St :=
 { σ with slots := (match dst with | some d => sset σ.slots d v | none => σ.slots),heap := u ++ σ.heap }
def eW {R : Type} (ops : Array Oper) (o : Oper) (n : Nat) (σ : St) (l : List Foot) (K : St -> List Foot -> Option R) : A -> Ups -> List Nat -> Option R :=
 fun v u f => match wV n u with
  | true => xM v fun v => pN u fun u => K (put σ o.dst v u) (l ++ [⟨o.dst,gG ops o,f,u.map (·.1),n⟩])
  | false => none
def fU {R : Type} (P : Program) (cf : Cfg) (call : Nat -> List D -> Option Ret) (ops : Array Oper) : List Oper -> Nat -> St -> List Foot -> (St -> List Foot -> Option R) -> Option R
 | [],_,σ,l,K => K σ l
 | o :: rest,n,σ,l,K =>
  match o.guard with
  | none => opK P cf call n o σ (eW ops o n σ l fun σ' l' => fU P cf call ops rest (n + ai) σ' l' K)
  | some (j,want) =>
   match (ops[j]?).bind (·.dst) with
   | none => none
   | some dj =>
    match aL σ.slots dj with
    | .tup [] => eW ops o n σ l (fun σ' l' => fU P cf call ops rest (n + ai) σ' l' K) (.tup []) [] []
    | .d (.bool b) =>
     br b
      (match want with
       | true => opK P cf call n o (put σ (some dj) (.d (.bool true)) []) (eW ops o n (put σ (some dj) (.d (.bool true)) []) l fun σ' l' => fU P cf call ops rest (n + ai) σ' l' K)
       | false => eW ops o n (put σ (some dj) (.d (.bool true)) []) l (fun σ' l' => fU P cf call ops rest (n + ai) σ' l' K) (.tup []) [] [])
      (match want with
       | true => eW ops o n (put σ (some dj) (.d (.bool false)) []) l (fun σ' l' => fU P cf call ops rest (n + ai) σ' l' K) (.tup []) [] []
       | false => opK P cf call n o (put σ (some dj) (.d (.bool false)) []) (eW ops o n (put σ (some dj) (.d (.bool false)) []) l fun σ' l' => fU P cf call ops rest (n + ai) σ' l' K))
    | _ => none
def km : List Oper -> List Nat -> List Nat
 | [],acc => acc
 | o :: r,acc => km r (acc ++ [o.after.toList.foldl (fun m e => match Region.binds .any e with | true => m ||| (2 ^ e.on) ||| acc.getD e.on 0 | false => m) 0])
def dg : List Oper -> Nat -> Bool
 | [],_ => true
 | o :: r,i => o.after.toList.all (fun e => !Region.binds .any e || decide (e.on < i)) && dg r (i + 1)
def wz (n : Nat) : List Nat -> Bool
 | [] => false
 | id :: r => (Nat.ble n id && Nat.blt id (n + ai)) || wz n r
def fk (x y : Foot) : Bool :=
 wz x.base y.wr || (match x.dst with | some d => y.uses.contains d || y.dst == some d | none => false) || (match y.dst with | some d => x.uses.contains d | none => false) || !fK x.wr (y.rd ++ y.wr) || !fK x.rd y.wr
def iC (f : Foot) (a : Nat) : List Foot -> Nat -> Bool
 | [],_ => true
 | g :: r,i => (!fk g f || a.testBit i) && iC f a r (i + 1)
def dv : List Foot -> List Nat -> List Foot -> Bool
 | [],_,_ => true
 | f :: r,a :: as,seen => iC f a seen 0 && dv r as (seen ++ [f])
 | _ :: _,[],_ => false
def yw : Option Blk -> List Nat
 | some (.var cs) => cs.flatMap d9
 | _ => []
def kE (h : Ups) : Nat -> List Nat -> List Nat -> List Nat
 | 0,_,seen => seen
 | _,[],seen => seen
 | g + 1,id :: todo,seen => match seen.contains id with
  | true => kE h g todo seen
  | false => kE h g (todo ++ yw (ae h id)) (seen ++ [id])
def idx (l : List Nat) (id : Nat) : Option Nat := match l with | [] => none | x :: r => if x == id then some 0 else (idx r id).map (· + 1)
def c9 (l : List Nat) : A -> A
 | .ref id i off => match idx l id with | some k => .ref k i off | none => .undef
 | .asl id r => match idx l id with | some k => .asl k r | none => .undef
 | .mp id => match idx l id with | some k => .mp k | none => .undef
 | .agg _ => .undef
 | .tup _ => .undef
 | .fn _ _ => .undef
 | x => x
def fW (l : List Nat) : A -> A
 | .agg cs => .agg (cs.map (c9 l))
 | .tup cs => .tup (cs.map (c9 l))
 | .fn f cs => .fn f (cs.map (c9 l))
 | x => c9 l x
def qi (l : List Nat) : Blk -> Blk
 | .var cs => .var (cs.map (fW l))
 | b => b
def fI (h : Ups) (l : List Nat) : List Nat -> Nat -> Ups
 | [],_ => []
 | id :: r,k => match ae h id with
  | some b => (k,some (qi l b)) :: fI h l r (k + 1)
  | none => (k,none) :: fI h l r (k + 1)
def cj (live : Nat) : List A -> Nat -> List A
 | [],_ => []
 | a :: r,i => (match live.testBit i with | true => a | false => .undef) :: cj live r (i + 1)
def norm (live : Nat) (σ : St) : St :=
 let sl := cj live σ.slots 0
 let l := kE σ.heap 400 ((sl ++ σ.io).flatMap d9) []
 { slots := sl.map (fW l),heap := fI σ.heap l l 0,next := l.length,io := σ.io.map (fW l) }
def wy {R : Type} (n : Nat) (K : Nat -> R) : R := match n with | 0 => K 0 | m + 1 => K (m + 1)
def ua {R : Type} : List Nat -> (List Nat -> R) -> R
 | [],K => K []
 | n :: r,K => wy n fun n => ua r fun r => K (n :: r)
theorem tZ {R : Type} (n : Nat) (K : Nat -> R) : wy n K = K n := by cases n <;> rfl
theorem qW {R : Type} : ∀ (l : List Nat) (K : List Nat -> R),ua l K = K l
 | [],K => rfl
 | n :: r,K => by simp only [ua,tZ,qW r]
def vP (live : Nat) (σ : St) : St :=
 wy live fun live => qV (cj live σ.slots 0) fun sl => ua (kE σ.heap 400 ((sl ++ σ.io).flatMap d9) []) fun l =>
  o5 (sl.map (fW l)) fun sl => pN (fI σ.heap l l 0) fun hp => wy l.length fun n => o5 (σ.io.map (fW l)) fun io => { slots := sl,heap := hp,next := n,io := io }
theorem rf (live : Nat) (σ : St) : vP live σ = norm live σ := by
 simp only [vP,tZ,iG,qW,mw,gq,norm]
def bits : List Nat -> Nat
 | [] => 0
 | i :: r => 2 ^ i ||| bits r
def xj (m : Nat) : Option Nat -> Nat
 | some d => match m.testBit d with | true => m ^^^ 2 ^ d | false => m
 | none => m
def uc (ops : Array Oper) : List Oper -> Nat -> Nat
 | [],out => out
 | o :: r,out => xj (uc ops r out) o.dst ||| bits (gG ops o)
def wW : Operand -> Nat
 | .tmp t => 2 ^ t
 | _ => 0
def qT (id : Nat) : List (Nat × Nat) -> Nat
 | [] => 0
 | (i,m) :: r => match i == id with | true => m | false => qT id r
def ej (ret : Nat) : Code -> Nat -> List (Nat × Nat) -> Nat
 | .region _ ops _,out,_ => uc ops ops.toList out
 | .seq a b,out,ex => ej ret a (ej ret b out ex) ex
 | .cond c a b,out,ex => wW c ||| ej ret a out ex ||| ej ret b out ex
 | .block id a,out,ex => ej ret a out ((id,out) :: ex)
 | .loop a,_,ex => ej ret a (ej ret a (ej ret a 0 ex) ex) ex
 | .exit id,_,ex => qT id ex
 | .ret,_,_ => ret
 | _,out,_ => out
def bH : Code -> Option Nat
 | .region id _ _ => some id
 | .seq a b => match bH a with | some i => some i | none => bH b
 | .cond _ a b => match bH a with | some i => some i | none => bH b
 | .block _ a => bH a
 | .loop a => bH a
 | .scope a => bH a
 | _ => none
def uk (fn : Func) : Nat := bits (fn.results.toList.map fun r => match r with | .tmp t => t | .cell a _ => a)
def eo (ret r : Nat) : Code -> Nat -> List (Nat × Nat) -> Option Nat
 | .seq a b,out,ex => match eo ret r a (ej ret b out ex) ex with | some x => some x | none => eo ret r b out ex
 | .cond _ a b,out,ex => match eo ret r a out ex with | some x => some x | none => eo ret r b out ex
 | .block id a,out,ex => eo ret r a out ((id,out) :: ex)
 | .loop a,out,ex => match bH a == some r with
  | true => some (ej ret (.loop a) out ex)
  | false => eo ret r a (ej ret (.loop a) out ex) ex
 | _,_,_ => none
def xf (fn : Func) (r : Nat) : Option Nat :=
 match fn.body with
 | some b => eo (uk fn) r b (uk fn) []
 | none => none
def uj (P : Program) (fn : Func) (σ : St) : Option A :=
 let rs := fn.results.toList.mapM fun r => match r with
  | .tmp t => some (aL σ.slots t)
  | .cell a t => match aL σ.slots a,tsz P t with
   | .ref id 0 0,some s => match ae σ.heap id with
    | some (.var cs) => match cs.length == s with | true => mkA P t cs | false => none
    | _ => none
   | _,_ => none
 match rs with
 | some [v] => some v
 | some vs => some (.tup vs)
 | none => none
def d8 (P : Program) (h : Ups) (t : TypeId) (a : A) : Option (D × List Nat) :=
 match a with
 | .agg cs => match aH P 8 t with | some ts => (ax P h ts cs).map fun r => (.agg r.1,r.2) | none => none
 | .ref id 0 0 => match P.underlying t with
  | some (.pointer e) => match aH P 8 e,ae h id with
   | some ts,some (.var cs) => match cs.length == ts.length with
    | true => (ax P h ts cs).map fun r => (.op r.1,id :: r.2)
    | false => none
   | _,_ => none
  | _ => none
 | a => aq P h t a
def jr (P : Program) (h : Ups) : List TypeId -> List A -> Option (List D × List Nat)
 | [],[] => some ([],[])
 | t :: ts,a :: as => match d8 P h t a,jr P h ts as with
  | some (x,i),some (r,j) => some (x :: r,i ++ j)
  | _,_ => none
 | _,_ => none
def vC (P : Program) (h : Ups) (ts : List TypeId) (a : A) : Option (D × List Nat) :=
 match ts,a with
 | [t],a => d8 P h t a
 | ts,.tup as => (jr P h ts as).map fun r => (.tup r.1,r.2)
 | _,_ => none
def cE : List A -> Bool
 | [] => true
 | .asl _ (some _) :: _ => false
 | .d .nl :: _ => false
 | _ :: r => cE r
def my (P : Program) (h : Ups) : List (TypeId × A) -> Option (List D × List Nat)
 | [] => some ([],[])
 | (t,a) :: r => match my P h r with
  | none => none
  | some (ds,j) => match a with
   | .ref id 0 0 => match P.underlying t with
    | some (.pointer e) => match aH P 8 e,ae h id with
     | some ts,some (.var cs) => (ax P h ts cs).map fun r => (.op r.1 :: ds,id :: r.2 ++ j)
     | _,_ => none
    | _ => none
   | .agg cs => match aH P 8 t,cE cs with
    | some ts,true => (ax P h ts cs).map fun r => (.agg r.1 :: ds,r.2 ++ j)
    | _,_ => none
   | a => match cE [a] with
    | true => (aq P h t a).map fun r => (r.1 :: ds,r.2 ++ j)
    | false => none
def mr (P : Program) (fn : Func) (iot : List TypeId) (σ : St) : Option Ret :=
 match uj P fn σ with
 | none => none
 | some v => match vC P σ.heap fn.resultTypes.toList v,my P σ.heap (iot.zip σ.io) with
  | some (r,i),some (ds,j) => match lt (i ++ j) with | true => some (r,ds) | false => none
  | _,_ => none
def amb (x y : Option Ret) : Option Ret := open Classical in if x = y then x else none
def vO (xs : List D) (x y : Option Ret) : Option Ret := match xs with | [] => amb x y | _ :: _ => y
def qa (P : Program) (ops : Array Oper) (draw : Bool) (σ : St) : Option (St × St × List D) :=
 match draw,ops.toList with
 | false,[o1,o2] => match o1.op,o1.dst,o1.guard,o2.op,o2.dst,o2.guard with
  | .move x,some a,none,.binOp .eql t (.tmp a') (.const (.slice none 0 0)) _,some b,none =>
   match a == a' && Nat.blt a σ.slots.length,ev σ x,P.underlying t with
   | true,.d (.rs z xs),some (.slice _) => some (put (put σ (some a) (.d (.rs z xs)) []) (some b) (.d (.bool true)) [],put (put σ (some a) (.d (.rs z xs)) []) (some b) (.d (.bool false)) [],xs)
   | _,_,_ => none
  | _,_,_,_,_,_ => none
 | _,_ => none
def dp (P : Program) (cf : Cfg) (call : Nat -> List D -> Option Ret) (f : Nat) (fn : Func) (iot : List TypeId) (next : List Item -> St -> Option Ret) : Nat -> List Item -> St -> Option Ret
 | 0,_,_ => none
 | g + 1,todo,σ =>
  match todo with
  | [] => mr P fn iot σ
  | .code .ret :: _ => mr P fn iot σ
  | .code .skip :: k | .inBlock _ :: k => dp P cf call f fn iot next g k σ
  | .code (.seq a b) :: k => dp P cf call f fn iot next g (.code a :: .code b :: k) σ
  | .code (.cond c x y) :: k => match ev σ c with
   | .d (.bool b) => br b (dp P cf call f fn iot next g (.code x :: k) σ) (dp P cf call f fn iot next g (.code y :: k) σ)
   | _ => none
  | .code (.block id a) :: k => dp P cf call f fn iot next g (.code a :: .inBlock id :: k) σ
  | .code (.loop body) :: k | .inLoop body :: k => match bH body with
   | some r => match xf fn r with
    | some live => next (.code body :: .inLoop body :: k) (vP live σ)
    | none => none
   | none => none
  | .code (.exit id) :: k => match exitTo id k with
   | some k' => dp P cf call f fn iot next g k' σ
   | none => none
  | .code (.region _ ops draw) :: k => match qa P ops draw σ with
   | some (σt,σf,xs) => vO xs (dp P cf call f fn iot next g k σt) (dp P cf call f fn iot next g k σf)
   | none =>
   fU P cf call ops ops.toList σ.next σ [] fun σ' l =>
    match draw with
    | false => qV σ'.slots fun sl => pN σ'.heap fun hp => dp P cf call f fn iot next g k { slots := sl,heap := hp,next := σ.next + ai * ops.size,io := σ'.io }
    | true => match dg ops.toList 0 && dv l (km ops.toList []) [] with
     | true => qV σ'.slots fun sl => pN σ'.heap fun hp => dp P cf call f fn iot next g k { slots := sl,heap := hp,next := σ.next + ai * ops.size,io := σ'.io }
     | false => none
  | _ => none
def BIG : Nat := 2000
def run (P : Program) (cf : Cfg) (call : Nat -> List D -> Option Ret) (f : Nat) (fn : Func) (iot : List TypeId) : Nat -> List Item -> St -> Option Ret
 | 0 => fun _ _ => none
 | k + 1 => dp P cf call f fn iot (run P cf call f fn iot k) BIG
def ju (r : Nat) : Code -> List Item -> Option (List Item)
 | .seq a b,k => match ju r a (.code b :: k) with | some x => some x | none => ju r b k
 | .cond _ a b,k => match ju r a k with | some x => some x | none => ju r b k
 | .block id a,k => ju r a (.inBlock id :: k)
 | .loop body,k => match bH body == some r with
  | true => some (.code body :: .inLoop body :: k)
  | false => ju r body (.inLoop body :: k)
 | _,_ => none
def yv (fn : Func) (r : Nat) : List Item :=
 match fn.body with
 | some b => match ju r b [] with | some x => x | none => []
 | none => []
def ky (mode : Nat -> Mode) : Nat -> List TypeId -> List D -> List A -> List (TypeId × A)
 | i,t :: ts,x :: xs,a :: as => match x,mode i with
  | .op _,_ => (t,a) :: ky mode (i + 1) ts xs as
  | _,.mut => (t,a) :: ky mode (i + 1) ts xs as
  | _,_ => ky mode (i + 1) ts xs as
 | _,_,_,_ => []
def mq (cf : Cfg) (f : Nat) (fn : Func) (ds : List D) : Option (Code × List TypeId × St) :=
 match fn.body with
 | none => none
 | some body => match aF 0 ds with
  | (as,n,u) => match as.length == fn.params.size + fn.nfree && ds.all okV with
   | true => some (body,(ky (cf.mode f) 0 fn.params.toList ds as).map (·.1),
     { slots := as ++ List.replicate (fn.ntmps - as.length) (.tup []),heap := u,next := n,io := (ky (cf.mode f) 0 fn.params.toList ds as).map (·.2) })
   | false => none
def sr (P : Program) (cf : Cfg) (call : Nat -> List D -> Option Ret) (next : List TypeId -> List Item -> St -> Option Ret) (f : Nat) (fn : Func) (ds : List D) : Option Ret :=
 match mq cf f fn ds with
 | some (body,iot,σ) => dp P cf call f fn iot (next iot) BIG [.code body] σ
 | none => none
def ku (P : Program) (cf : Cfg) (call : Nat -> List D -> Option Ret) (k f : Nat) (fn : Func) (ds : List D) : Option Ret :=
 match mq cf f fn ds with
 | some (body,iot,σ) => run P cf call f fn iot k [.code body] σ
 | none => none
def den (P : Program) (cf : Cfg) : Nat -> Nat -> List D -> Option Ret
 | 0,_,_ => none
 | k + 1,f,ds => match cf.ext f with
  | some F => F ds
  | none => match P.funcs[f]? with
   | some fn => ku P cf (den P cf k) k f fn ds
   | none => none
inductive Res where
 | arr (b : Nat)
 | rng (b lo hi : Nat)
def Res.blk : Res -> Nat
 | .arr b => b
 | .rng b _ _ => b
def Res.covers : Res -> Nat -> Nat -> Prop
 | .arr b,b',_ => b = b'
 | .rng b lo hi,b',j => b = b' /\ lo <= j /\ j < hi
def aa (o : List Res) : List Nat := o.map Res.blk
def cellsAt (w : World) (b off : Nat) (vs : List Value) : Prop := ∀ (j : Nat) (v : Value),vs[j]? = some v -> w.cell? ⟨b,off + j,none⟩ = some v
def iU (n : Nat) (fr : Nat × Nat) : Prop := ∀ j,j < n -> ¬ (fr.1 <= j /\ j < fr.2) /\ fr.1 <= fr.2
def cK : Nat -> D -> Prop
 | 0,c => j4 c = true
 | 1,c => (match c with | .rs _ _ => True | c => j4 c = true)
 | _,_ => True
def eE : Value -> Prop
 | .agg _ | .tuple _ => False
 | _ => True
def bV : D -> Prop
 | .agg _ | .tup _ => False
 | _ => True
mutual
def ac (w : World) (B : Nat -> Prop) : D -> Value -> List Res -> Prop
 | .int k n,v,o => v = .int k n /\ o = []
 | .bool b,v,o => v = .bool b /\ o = []
 | .str s,v,o => v = .string s /\ o = []
 | .nl,v,o => v = .slice none 0 0 /\ o = []
 | .np,v,o => v = .pointer none /\ o = []
 | .rs z xs,v,o => o = [] /\ ((xs = [] /\ ∃ a cap,v = .slice a 0 cap) \/ ∃ b off cap,v = .slice (some ⟨b,off,none⟩) xs.length cap /\ xs.length <= cap /\ z.2 <= 1 /\ (xs ≠ [] -> B b) /\ au w B b off z xs [])
 | .os z xs,v,o => (xs = [] /\ o = [] /\ ∃ a,v = .slice a 0 0) \/ ∃ b off cap c ty fr o',v = .slice (some ⟨b,off,none⟩) xs.length cap /\ xs.length <= cap /\ w.heap[b]? = some (.cells c ty fr) /\ iU c.size fr /\ (0 < cap -> off + cap * z.1 <= c.size) /\ au w B b off z xs o' /\ o = .arr b :: o'
 | .agg cs,v,o => ∃ vs : Array Value,v = .agg vs /\ ak w B cs vs.toList o
 | .tup cs,v,o => ∃ vs : Array Value,v = .tuple vs /\ bv w B cs vs.toList o
 | .bp cs,v,o => o = [] /\ ∃ b off vs,v = .pointer (some ⟨b,off,none⟩) /\ B b /\ cellsAt w b off vs /\ ak w B cs vs []
 | .op cs,v,o => ∃ b off vs c ty fr o',v = .pointer (some ⟨b,off,none⟩) /\ w.heap[b]? = some (.cells c ty fr) /\ iU c.size fr /\ off + cs.length <= c.size /\ cellsAt w b off vs /\ ak w B cs vs o' /\ o = .rng b off (off + cs.length) :: o'
 | .fn f caps,v,o => o = [] /\ ∃ vs : Array Value,v = .func (.func f) #[] vs /\ bv w B caps vs.toList []
 | .dead,v,o => eE v /\ o = []
def ak (w : World) (B : Nat -> Prop) : List D -> List Value -> List Res -> Prop
 | [],vs,o => vs = [] /\ o = []
 | c :: cs,vs,o => ∃ v vs' o1 o2,vs = v :: vs' /\ o = o1 ++ o2 /\ bV c /\ ac w B c v o1 /\ ak w B cs vs' o2
def bv (w : World) (B : Nat -> Prop) : List D -> List Value -> List Res -> Prop
 | [],vs,o => vs = [] /\ o = []
 | c :: cs,vs,o => ∃ v vs' o1 o2,vs = v :: vs' /\ o = o1 ++ o2 /\ ac w B c v o1 /\ bv w B cs vs' o2
def au (w : World) (B : Nat -> Prop) (b off : Nat) (z : Z) : List D -> List Res -> Prop
 | [],o => o = []
 | .agg cs :: es,o => ∃ vs o1 o2,o = o1 ++ o2 /\ cs.length = z.1 /\ (∀ c ∈ cs,cK z.2 c) /\ ak w B cs vs o1 /\ cellsAt w b off vs /\ au w B b (off + z.1) z es o2
 | e :: es,o => ∃ v o1 o2,o = o1 ++ o2 /\ z.1 = 1 /\ cK z.2 e /\ bV e /\ ac w B e v o1 /\ w.cell? ⟨b,off,none⟩ = some v /\ au w B b (off + z.1) z es o2
end
theorem bM {w w' : World} {b off : Nat} (h : w'.heap[b]? = w.heap[b]?) : w'.cell? ⟨b,off,none⟩ = w.cell? ⟨b,off,none⟩ := by
 unfold World.cell?; simp only [h]
theorem dL {w w' : World} {b off : Nat} {vs : List Value} (h : w'.heap[b]? = w.heap[b]?) (hc : cellsAt w b off vs) : cellsAt w' b off vs :=
 fun j v hj => (bM h).trans (hc j v hj)
def Same (w w' : World) (B : Nat -> Prop) (o : List Res) : Prop := ∀ b,(B b \/ b ∈ aa o) -> w'.heap[b]? = w.heap[b]?
theorem Same.left {w w' : World} {B : Nat -> Prop} {o1 o2 : List Res} (h : Same w w' B (o1 ++ o2)) : Same w w' B o1 :=
 fun b hb => h b (hb.imp id (fun h => by unfold aa at *; rw [List.map_append]; exact List.mem_append.2 (.inl h)))
theorem Same.right {w w' : World} {B : Nat -> Prop} {o1 o2 : List Res} (h : Same w w' B (o1 ++ o2)) : Same w w' B o2 :=
 fun b hb => h b (hb.imp id (fun h => by unfold aa at *; rw [List.map_append]; exact List.mem_append.2 (.inr h)))
theorem Same.tail {w w' : World} {B : Nat -> Prop} {r : Res} {o : List Res} (h : Same w w' B (r :: o)) : Same w w' B o :=
 Same.right (o1 := [r]) h
theorem Same.head {w w' : World} {B : Nat -> Prop} {r : Res} {o : List Res} (h : Same w w' B (r :: o)) : w'.heap[r.blk]? = w.heap[r.blk]? :=
 h _ (.inr (by simp [aa]))
theorem Same.nil {w w' : World} {B : Nat -> Prop} {o : List Res} (h : Same w w' B o) : Same w w' B [] := fun b hb => h b (hb.imp id (by simp [aa]))
mutual
theorem aR {w w' : World} {B B' : Nat -> Prop} (hB : ∀ b,B b -> B' b) : ∀ (d : D) (v : Value) (o : List Res),Same w w' B o -> ac w B d v o -> ac w' B' d v o
 | .int k n,v,o,_,h => by simpa only [ac] using h
 | .bool b,v,o,_,h => by simpa only [ac] using h
 | .str s,v,o,_,h => by simpa only [ac] using h
 | .nl,v,o,_,h => by simpa only [ac] using h
 | .np,v,o,_,h => by simpa only [ac] using h
 | .dead,v,o,_,h => by simpa only [ac] using h
 | .rs z xs,v,o,hs,h => by
  simp only [ac] at h ⊢
  obtain ⟨rfl,h⟩ := h
  refine ⟨rfl,h.imp id ?_⟩
  rintro ⟨b,off,cap,hv,hc,hz,hb,he⟩
  exact ⟨b,off,cap,hv,hc,hz,fun hx => hB _ (hb hx),av hB b off z xs [] hs (fun hx => hs _ (.inl (hb hx))) he⟩
 | .os z xs,v,o,hs,h => by
  simp only [ac] at h ⊢
  refine h.imp id ?_
  rintro ⟨b,off,cap,c,ty,fr,o',hv,hc,hh,hu,hz,he,rfl⟩
  exact ⟨b,off,cap,c,ty,fr,o',hv,hc,hs.head.trans hh,hu,hz,av hB b off z xs o' hs.tail (fun _ => hs.head) he,rfl⟩
 | .agg cs,v,o,hs,h => by
  simp only [ac] at h ⊢
  obtain ⟨vs,hv,h⟩ := h
  exact ⟨vs,hv,bQ hB cs _ o hs h⟩
 | .tup cs,v,o,hs,h => by
  simp only [ac] at h ⊢
  obtain ⟨vs,hv,h⟩ := h
  exact ⟨vs,hv,fw hB cs _ o hs h⟩
 | .bp cs,v,o,hs,h => by
  simp only [ac] at h ⊢
  obtain ⟨rfl,b,off,vs,hv,hb,hc,h⟩ := h
  exact ⟨rfl,b,off,vs,hv,hB _ hb,dL (hs _ (.inl hb)) hc,bQ hB cs vs [] hs h⟩
 | .op cs,v,o,hs,h => by
  simp only [ac] at h ⊢
  obtain ⟨b,off,vs,c,ty,fr,o',hv,hh,hu,hl,hc,h,rfl⟩ := h
  exact ⟨b,off,vs,c,ty,fr,o',hv,hs.head.trans hh,hu,hl,dL hs.head hc,bQ hB cs vs o' hs.tail h,rfl⟩
 | .fn f caps,v,o,hs,h => by
  simp only [ac] at h ⊢
  obtain ⟨rfl,vs,hv,h⟩ := h
  exact ⟨rfl,vs,hv,fw hB caps _ [] hs h⟩
theorem bQ {w w' : World} {B B' : Nat -> Prop} (hB : ∀ b,B b -> B' b) : ∀ (cs : List D) (vs : List Value) (o : List Res),Same w w' B o -> ak w B cs vs o -> ak w' B' cs vs o
 | [],vs,o,_,h => by simpa only [ak] using h
 | c :: cs,vs,o,hs,h => by
  simp only [ak] at h ⊢
  obtain ⟨v,vs',o1,o2,rfl,rfl,hi,h1,h2⟩ := h
  exact ⟨v,vs',o1,o2,rfl,rfl,hi,aR hB c v o1 hs.left h1,bQ hB cs vs' o2 hs.right h2⟩
theorem fw {w w' : World} {B B' : Nat -> Prop} (hB : ∀ b,B b -> B' b) : ∀ (cs : List D) (vs : List Value) (o : List Res),Same w w' B o -> bv w B cs vs o -> bv w' B' cs vs o
 | [],vs,o,_,h => by simpa only [bv] using h
 | c :: cs,vs,o,hs,h => by
  simp only [bv] at h ⊢
  obtain ⟨v,vs',o1,o2,rfl,rfl,h1,h2⟩ := h
  exact ⟨v,vs',o1,o2,rfl,rfl,aR hB c v o1 hs.left h1,fw hB cs vs' o2 hs.right h2⟩
theorem av {w w' : World} {B B' : Nat -> Prop} (hB : ∀ b,B b -> B' b) (b off : Nat) (z : Z) : ∀ (es : List D) (o : List Res),Same w w' B o -> (es ≠ [] -> w'.heap[b]? = w.heap[b]?) -> au w B b off z es o -> au w' B' b off z es o
 | [],o,_,_,h => by simpa only [au] using h
 | .agg cs :: es,o,hs,hb,h => by
  simp only [au] at h ⊢
  obtain ⟨vs,o1,o2,rfl,hl,hk,h1,hc,h2⟩ := h
  exact ⟨vs,o1,o2,rfl,hl,hk,bQ hB cs vs o1 hs.left h1,dL (hb (by simp)) hc,av hB b (off + z.1) z es o2 hs.right (fun _ => hb (by simp)) h2⟩
 | .int k n :: es,o,hs,hb,h => by
  simp only [au] at h ⊢
  obtain ⟨v,o1,o2,rfl,hz,hk,hi,h1,hc,h2⟩ := h
  exact ⟨v,o1,o2,rfl,hz,hk,hi,aR hB _ v o1 hs.left h1,(bM (hb (by simp))).trans hc,av hB b (off + z.1) z es o2 hs.right (fun _ => hb (by simp)) h2⟩
 | .bool x :: es,o,hs,hb,h => by
  simp only [au] at h ⊢
  obtain ⟨v,o1,o2,rfl,hz,hk,hi,h1,hc,h2⟩ := h
  exact ⟨v,o1,o2,rfl,hz,hk,hi,aR hB _ v o1 hs.left h1,(bM (hb (by simp))).trans hc,av hB b (off + z.1) z es o2 hs.right (fun _ => hb (by simp)) h2⟩
 | .str x :: es,o,hs,hb,h => by
  simp only [au] at h ⊢
  obtain ⟨v,o1,o2,rfl,hz,hk,hi,h1,hc,h2⟩ := h
  exact ⟨v,o1,o2,rfl,hz,hk,hi,aR hB _ v o1 hs.left h1,(bM (hb (by simp))).trans hc,av hB b (off + z.1) z es o2 hs.right (fun _ => hb (by simp)) h2⟩
 | .nl :: es,o,hs,hb,h => by
  simp only [au] at h ⊢
  obtain ⟨v,o1,o2,rfl,hz,hk,hi,h1,hc,h2⟩ := h
  exact ⟨v,o1,o2,rfl,hz,hk,hi,aR hB _ v o1 hs.left h1,(bM (hb (by simp))).trans hc,av hB b (off + z.1) z es o2 hs.right (fun _ => hb (by simp)) h2⟩
 | .np :: es,o,hs,hb,h => by
  simp only [au] at h ⊢
  obtain ⟨v,o1,o2,rfl,hz,hk,hi,h1,hc,h2⟩ := h
  exact ⟨v,o1,o2,rfl,hz,hk,hi,aR hB _ v o1 hs.left h1,(bM (hb (by simp))).trans hc,av hB b (off + z.1) z es o2 hs.right (fun _ => hb (by simp)) h2⟩
 | .rs y x :: es,o,hs,hb,h => by
  simp only [au] at h ⊢
  obtain ⟨v,o1,o2,rfl,hz,hk,hi,h1,hc,h2⟩ := h
  exact ⟨v,o1,o2,rfl,hz,hk,hi,aR hB (.rs y x) v o1 hs.left h1,(bM (hb (by simp))).trans hc,av hB b (off + z.1) z es o2 hs.right (fun _ => hb (by simp)) h2⟩
 | .os y x :: es,o,hs,hb,h => by
  simp only [au] at h ⊢
  obtain ⟨v,o1,o2,rfl,hz,hk,hi,h1,hc,h2⟩ := h
  exact ⟨v,o1,o2,rfl,hz,hk,hi,aR hB (.os y x) v o1 hs.left h1,(bM (hb (by simp))).trans hc,av hB b (off + z.1) z es o2 hs.right (fun _ => hb (by simp)) h2⟩
 | .tup x :: es,o,hs,hb,h => by
  simp only [au] at h ⊢
  obtain ⟨v,o1,o2,rfl,hz,hk,hi,h1,hc,h2⟩ := h
  exact absurd hi (by simp [bV])
 | .bp x :: es,o,hs,hb,h => by
  simp only [au] at h ⊢
  obtain ⟨v,o1,o2,rfl,hz,hk,hi,h1,hc,h2⟩ := h
  exact ⟨v,o1,o2,rfl,hz,hk,hi,aR hB (.bp x) v o1 hs.left h1,(bM (hb (by simp))).trans hc,av hB b (off + z.1) z es o2 hs.right (fun _ => hb (by simp)) h2⟩
 | .op x :: es,o,hs,hb,h => by
  simp only [au] at h ⊢
  obtain ⟨v,o1,o2,rfl,hz,hk,hi,h1,hc,h2⟩ := h
  exact ⟨v,o1,o2,rfl,hz,hk,hi,aR hB (.op x) v o1 hs.left h1,(bM (hb (by simp))).trans hc,av hB b (off + z.1) z es o2 hs.right (fun _ => hb (by simp)) h2⟩
 | .fn f x :: es,o,hs,hb,h => by
  simp only [au] at h ⊢
  obtain ⟨v,o1,o2,rfl,hz,hk,hi,h1,hc,h2⟩ := h
  exact ⟨v,o1,o2,rfl,hz,hk,hi,aR hB (.fn f x) v o1 hs.left h1,(bM (hb (by simp))).trans hc,av hB b (off + z.1) z es o2 hs.right (fun _ => hb (by simp)) h2⟩
 | .dead :: es,o,hs,hb,h => by
  simp only [au] at h ⊢
  obtain ⟨v,o1,o2,rfl,hz,hk,hi,h1,hc,h2⟩ := h
  exact ⟨v,o1,o2,rfl,hz,hk,hi,aR hB _ v o1 hs.left h1,(bM (hb (by simp))).trans hc,av hB b (off + z.1) z es o2 hs.right (fun _ => hb (by simp)) h2⟩
end
def bW (w : World) (B : Nat -> Prop) (z : Z) (e : D) (vs : List Value) (o : List Res) : Prop :=
 ak w B (ay e) vs o /\ (ay e).length = z.1 /\ ∀ c ∈ ay e,cK z.2 c
theorem repDs_one {w : World} {B : Nat -> Prop} {e : D} {vs : List Value} {o : List Res} :
  ak w B [e] vs o ↔ ∃ v,vs = [v] /\ bV e /\ ac w B e v o := by
 constructor
 ·intro h
  simp only [ak] at h
  obtain ⟨v,vs',o1,o2,rfl,rfl,hi,h1,rfl,rfl⟩ := h
  exact ⟨v,rfl,hi,by simpa using h1⟩
 ·rintro ⟨v,rfl,hi,h⟩
  simp only [ak]
  exact ⟨v,[],o,[],rfl,by simp,hi,h,rfl,rfl⟩
theorem cellsAt_one {w : World} {b off : Nat} {v : Value} : cellsAt w b off [v] ↔ w.cell? ⟨b,off,none⟩ = some v := by
 constructor
 ·intro h; simpa using h 0 v rfl
 ·intro h j u hj
  cases j with
  | zero => simp at hj; subst hj; simpa using h
  | succ j => simp at hj
theorem repEs_cons {w : World} {B : Nat -> Prop} {b off : Nat} {z : Z} {e : D} {es : List D} {o : List Res} :
  au w B b off z (e :: es) o ↔ ∃ vs o1 o2,o = o1 ++ o2 /\ bW w B z e vs o1 /\ cellsAt w b off vs /\ au w B b (off + z.1) z es o2 := by
 have key : ∀ e : D,(∀ cs,e ≠ .agg cs) -> ((∃ v o1 o2,o = o1 ++ o2 /\ z.1 = 1 /\ cK z.2 e /\ bV e /\ ac w B e v o1 /\ w.cell? ⟨b,off,none⟩ = some v /\ au w B b (off + z.1) z es o2) ↔
   ∃ vs o1 o2,o = o1 ++ o2 /\ bW w B z e vs o1 /\ cellsAt w b off vs /\ au w B b (off + z.1) z es o2) := by
  intro e he
  have hc : ay e = [e] := by cases e <;> first | rfl | exact absurd rfl (he _)
  constructor
  ·rintro ⟨v,o1,o2,ho,hz,hk,hi,h1,hcell,h2⟩
   exact ⟨[v],o1,o2,ho,⟨by rw [hc]; exact repDs_one.2 ⟨v,rfl,hi,h1⟩,by rw [hc]; exact hz.symm,by rw [hc]; simpa using hk⟩,cellsAt_one.2 hcell,h2⟩
  ·rintro ⟨vs,o1,o2,ho,⟨h1,hz,hk⟩,hcell,h2⟩
   rw [hc] at h1 hz hk
   obtain ⟨v,rfl,hi,h1⟩ := repDs_one.1 h1
   exact ⟨v,o1,o2,ho,hz.symm,by simpa using hk,hi,h1,cellsAt_one.1 hcell,h2⟩
 cases e with
 | agg cs =>
  simp only [au,bW,ay]
  constructor
  ·rintro ⟨vs,o1,o2,ho,hl,hk,h1,hc,h2⟩; exact ⟨vs,o1,o2,ho,⟨h1,hl,hk⟩,hc,h2⟩
  ·rintro ⟨vs,o1,o2,ho,⟨h1,hl,hk⟩,hc,h2⟩; exact ⟨vs,o1,o2,ho,hl,hk,h1,hc,h2⟩
 | _ => simp only [au]; exact key _ (by intro cs h; cases h)
theorem repEs_nil {w : World} {B : Nat -> Prop} {b off : Nat} {z : Z} {o : List Res} : au w B b off z [] o ↔ o = [] := by simp only [au]
theorem bG {w : World} {B : Nat -> Prop} {b : Nat} {z : Z} {ys : List D} : ∀ (xs : List D) (off : Nat) (o : List Res),
  au w B b off z (xs ++ ys) o ↔ ∃ o1 o2,o = o1 ++ o2 /\ au w B b off z xs o1 /\ au w B b (off + xs.length * z.1) z ys o2
 | [],off,o => by
  simp only [List.nil_append,repEs_nil,lnN,Nat.zero_mul,Nat.add_zero]
  constructor
  ·intro h; exact ⟨[],o,rfl,rfl,h⟩
  ·rintro ⟨o1,o2,rfl,rfl,h⟩; simpa using h
 | x :: xs,off,o => by
  have hl : off + z.1 + xs.length * z.1 = off + (x :: xs).length * z.1 := by rw [lnC,Nat.succ_mul]; omega
  rw [List.cons_append]
  constructor
  ·intro h
   obtain ⟨vs,p1,p2,rfl,h1,hc,h2⟩ := repEs_cons.1 h
   obtain ⟨q1,q2,rfl,h3,h4⟩ := (bG xs (off + z.1) p2).1 h2
   exact ⟨p1 ++ q1,q2,by simp,repEs_cons.2 ⟨vs,p1,q1,rfl,h1,hc,h3⟩,hl ▸ h4⟩
  ·rintro ⟨o1,o2,rfl,h1,h2⟩
   obtain ⟨vs,p1,p2,rfl,h3,hc,h4⟩ := repEs_cons.1 h1
   exact repEs_cons.2 ⟨vs,p1,p2 ++ o2,by simp,h3,hc,(bG xs (off + z.1) _).2 ⟨p2,o2,rfl,h4,by rw [hl]; exact h2⟩⟩
theorem rE {α : Type} {xs : List α} {i : Nat} {e : α} (h : xs[i]? = some e) : xs = xs.take i ++ e :: xs.drop (i + 1) := by
 have hi : i < xs.length := by
  rcases Nat.lt_or_ge i xs.length with h' | h'
  ·exact h'
  ·rw [List.getElem?_eq_none h'] at h; cases h
 rw [List.getElem?_eq_getElem hi] at h
 cases h
 conv => lhs; rw [<- List.take_append_drop i xs,List.drop_eq_getElem_cons hi]
theorem u9 {α : Type} {xs : List α} {i : Nat} {e e' : α} (h : xs[i]? = some e) : xs.set i e' = xs.take i ++ e' :: xs.drop (i + 1) := by
 have hi : i < xs.length := by
  rcases Nat.lt_or_ge i xs.length with h' | h'
  ·exact h'
  ·rw [List.getElem?_eq_none h'] at h; cases h
 rw [List.set_eq_take_append_cons_drop,if_pos hi]
theorem aQ {α : Type} {xs : List α} {i : Nat} {e : α} (h : xs[i]? = some e) : i < xs.length := by
 rcases Nat.lt_or_ge i xs.length with h' | h'
 ·exact h'
 ·rw [List.getElem?_eq_none h'] at h; cases h
theorem d0 {w : World} {B : Nat -> Prop} {b off : Nat} {z : Z} {xs : List D} {o : List Res} {i : Nat} {e : D} (h : au w B b off z xs o) (hi : xs[i]? = some e) :
  ∃ vs o1 o2 o3,o = o1 ++ (o2 ++ o3) /\ bW w B z e vs o2 /\ cellsAt w b (off + i * z.1) vs /\ au w B b off z (xs.take i) o1 /\ au w B b (off + i * z.1 + z.1) z (xs.drop (i + 1)) o3 := by
 rw [rE hi] at h
 obtain ⟨o1,p,rfl,h1,h2⟩ := (bG _ _ _).1 h
 have hl : (xs.take i).length = i := by rw [List.length_take]; have := aQ hi; omega
 rw [hl] at h2
 obtain ⟨vs,o2,o3,rfl,h3,hc,h4⟩ := repEs_cons.1 h2
 exact ⟨vs,o1,o2,o3,rfl,h3,hc,h1,h4⟩
theorem po {w : World} {B : Nat -> Prop} {b off : Nat} {z : Z} {xs : List D} {o1 o2 o3 : List Res} {i : Nat} {e e' : D} {vs : List Value} (hi : xs[i]? = some e)
  (h1 : au w B b off z (xs.take i) o1) (h2 : bW w B z e' vs o2) (hc : cellsAt w b (off + i * z.1) vs) (h3 : au w B b (off + i * z.1 + z.1) z (xs.drop (i + 1)) o3) :
  au w B b off z (xs.set i e') (o1 ++ (o2 ++ o3)) := by
 have hl : (xs.take i).length = i := by rw [List.length_take]; have := aQ hi; omega
 rw [u9 hi]
 exact (bG _ _ _).2 ⟨o1,_,rfl,h1,by rw [hl]; exact repEs_cons.2 ⟨vs,o2,o3,rfl,h2,hc,h3⟩⟩
theorem jB {w : World} {B : Nat -> Prop} {b off : Nat} {z : Z} {xs : List D} {o : List Res} (k : Nat) (h : au w B b off z xs o) :
  ∃ o1,List.Sublist o1 o /\ au w B b off z (xs.take k) o1 := by
 rw [<- List.take_append_drop k xs] at h
 obtain ⟨o1,o2,rfl,h1,_⟩ := (bG _ _ _).1 h
 exact ⟨o1,List.sublist_append_left _ _,h1⟩
theorem ng {w : World} {B : Nat -> Prop} {b off : Nat} {z : Z} {xs : List D} {o : List Res} (k : Nat) (hk : k <= xs.length) (h : au w B b off z xs o) :
  ∃ o1,List.Sublist o1 o /\ au w B b (off + k * z.1) z (xs.drop k) o1 := by
 rw [<- List.take_append_drop k xs] at h
 obtain ⟨o1,o2,rfl,_,h2⟩ := (bG _ _ _).1 h
 have hl : (xs.take k).length = k := by rw [List.length_take]; omega
 rw [hl] at h2
 exact ⟨o2,List.sublist_append_right _ _,h2⟩
theorem nj {w : World} {B : Nat -> Prop} {b off : Nat} {z : Z} {xs : List D} {o : List Res} {k m : Nat} (hk : k + m <= xs.length) (h : au w B b off z xs o) :
  ∃ o1,List.Sublist o1 o /\ au w B b (off + k * z.1) z ((xs.drop k).take m) o1 := by
 obtain ⟨o1,s1,h1⟩ := ng k (by omega) h
 obtain ⟨o2,s2,h2⟩ := jB m h1
 exact ⟨o2,s2.trans s1,h2⟩
theorem sU {w : World} {B : Nat -> Prop} {k : Nat} (hk : k <= 1) {c : D} (h : cK k c) {v : Value} {o : List Res} (hr : ac w B c v o) : o = [] := by
 have hk' : k = 0 \/ k = 1 := by omega
 rcases hk' with rfl | rfl <;> cases c <;> simp_all [cK,j4,ac]
theorem ft {w : World} {B : Nat -> Prop} {k : Nat} (hk : k <= 1) : ∀ {cs : List D},(∀ c ∈ cs,cK k c) -> ∀ {vs : List Value} {o : List Res},ak w B cs vs o -> o = []
 | [],_,vs,o,h => by simp only [ak] at h; exact h.2
 | c :: cs,hc,vs,o,h => by
  simp only [ak] at h
  obtain ⟨v,vs',o1,o2,rfl,rfl,hi,h1,h2⟩ := h
  rw [sU hk (hc c (by simp)) h1,ft hk (fun c' h' => hc c' (by simp [h'])) h2]
  rfl
theorem cQ {w : World} {B : Nat -> Prop} {b : Nat} {z : Z} (hk : z.2 <= 1) : ∀ {xs : List D} {off : Nat} {o : List Res},au w B b off z xs o -> o = []
 | [],_,_,h => repEs_nil.1 h
 | x :: xs,off,o,h => by
  obtain ⟨vs,o1,o2,rfl,⟨h1,_,h3⟩,_,h2⟩ := repEs_cons.1 h
  rw [ft hk h3 h1,cQ hk h2]
  rfl
def hfind : Ups -> Nat -> Option (Option Blk)
 | [],_ => none
 | (i,b) :: r,id => if i == id then some b else hfind r id
theorem dh (h : Ups) (id : Nat) : ae h id = (hfind h id).getD none := by
 induction h with
 | nil => rfl
 | cons x r ih => obtain ⟨i,b⟩ := x; simp only [ae,hfind]; split <;> simp_all
theorem hget_some {h : Ups} {id : Nat} {b : Blk} : ae h id = some b ↔ hfind h id = some (some b) := by
 rw [dh]
 cases hfind h id with
 | none => simp
 | some o => cases o <;> simp
inductive Loc where
 | nil
 | at (b base sz : Nat)
 deriving Inhabited
def b9 : Blk -> Nat
 | .arr z _ => z.1
 | .fz z _ => z.1
 | .var _ => 1
 | .mp _ _ => 1
def aI : Blk -> Option Nat
 | .arr _ xs => some xs.length
 | .fz _ xs => some xs.length
 | .var _ => none
 | .mp _ _ => none
def dI (l : Loc) (z n : Nat) (rng : Option (Nat × Nat)) (v : Value) : Prop :=
 match l,rng with
 | .nil,none => n = 0 /\ ∃ a,v = .slice a 0 0
 | .nil,some (o,m) => o = 0 /\ m = 0 /\ n = 0 /\ ∃ a,v = .slice a 0 0
 | .at b base sz,none => ∃ a cap,v = .slice (some a) n cap /\ n <= cap /\ (0 < cap -> a = ⟨b,base,none⟩ /\ base + cap * z <= sz)
 | .at b base sz,some (o,m) => o + m <= n /\ ∃ a cap,v = .slice (some a) m cap /\ (m <= cap /\ n <= o + cap) /\ (0 < cap -> a = ⟨b,base + o * z,none⟩ /\ base + o * z + cap * z <= sz)
def cX : D -> Prop
 | .int _ _ | .bool _ | .str _ | .nl | .np | .rs _ _ => True
 | _ => False
def al (w : World) (B : Nat -> Prop) (h : Ups) (loc : Nat -> Loc) : A -> Value -> Prop
 | .d x,v => cX x /\ ac w B x v []
 | .ref id i off,v => (∃ a,v = .pointer (some a)) /\ ∃ ob,hfind h id = some ob /\ ∀ blk,ob = some blk -> ∃ b base sz,loc id = .at b base sz /\ v = .pointer (some ⟨b,base + i * b9 blk + off,none⟩)
 | .rp z xs i off,v => ∃ b base,v = .pointer (some ⟨b,base + i * z.1 + off,none⟩) /\ B b /\ z.2 <= 1 /\ au w B b base z xs []
 | .asl id rng,v => (∃ a n c,v = .slice a n c) /\ ∃ ob,hfind h id = some ob /\ ∀ blk,ob = some blk -> ∃ n,aI blk = some n /\ dI (loc id) (b9 blk) n rng v
 | .mp id,v => (∃ b,v = .map (some b)) /\ ∃ ob,hfind h id = some ob /\ ∀ blk,ob = some blk -> ∃ b base sz,loc id = .at b base sz /\ v = .map (some b)
 | .undef,_ => True
 | .agg _,_ => False
 | .tup _,_ => False
 | .fn _ _,_ => False
inductive All2 {α β : Type} (R : α -> β -> Prop) : List α -> List β -> Prop
 | nil : All2 R [] []
 | cons {a : α} {b : β} {as : List α} {bs : List β} : R a b -> All2 R as bs -> All2 R (a :: as) (b :: bs)
theorem All2.mono {α β : Type} {R S : α -> β -> Prop} (h : ∀ a b,R a b -> S a b) {as : List α} {bs : List β} (h' : All2 R as bs) : All2 S as bs := by
 induction h' with
 | nil => exact .nil
 | cons h1 _ ih => exact .cons (h _ _ h1) ih
theorem All2.length {α β : Type} {R : α -> β -> Prop} {as : List α} {bs : List β} (h' : All2 R as bs) : as.length = bs.length := by
 induction h' with
 | nil => rfl
 | cons _ _ ih => simp [ih]
theorem All2.get {α β : Type} {R : α -> β -> Prop} {as : List α} {bs : List β} (h : All2 R as bs) : ∀ {i : Nat} {a : α},as[i]? = some a -> ∃ b,bs[i]? = some b /\ R a b := by
 induction h with
 | nil => intro i a hi; simp at hi
 | @cons a b as bs h1 _ ih =>
  intro i x hi
  cases i with
  | zero => simp at hi; subst hi; exact ⟨b,rfl,h1⟩
  | succ i => simp at hi; obtain ⟨y,hy,hr⟩ := ih hi; exact ⟨y,by simpa using hy,hr⟩
theorem All2.append {α β : Type} {R : α -> β -> Prop} {as as' : List α} {bs bs' : List β} (h : All2 R as bs) (h' : All2 R as' bs') : All2 R (as ++ as') (bs ++ bs') := by
 induction h with
 | nil => exact h'
 | cons h1 _ ih => exact .cons h1 ih
theorem All2.take {α β : Type} {R : α -> β -> Prop} {as : List α} {bs : List β} (h : All2 R as bs) : ∀ n,All2 R (as.take n) (bs.take n) := by
 induction h with
 | nil => intro n; simp; exact .nil
 | cons h1 _ ih => intro n; cases n with
  | zero => simp; exact .nil
  | succ n => simp; exact .cons h1 (ih n)
theorem All2.drop {α β : Type} {R : α -> β -> Prop} {as : List α} {bs : List β} (h : All2 R as bs) : ∀ n,All2 R (as.drop n) (bs.drop n) := by
 induction h with
 | nil => intro n; simp; exact .nil
 | cons h1 h2 ih => intro n; cases n with
  | zero => simpa using .cons h1 h2
  | succ n => simpa using ih n
def bx (w : World) (B : Nat -> Prop) (h : Ups) (loc : Nat -> Loc) : A -> Value -> Prop
 | .agg cs,v => ∃ vs : Array Value,v = .agg vs /\ All2 (al w B h loc) cs vs.toList
 | .fn f cs,v => ∃ vs : Array Value,v = .func (.func f) #[] vs /\ All2 (al w B h loc) cs vs.toList
 | .tup _,_ => False
 | a,v => al w B h loc a v
def aJ (w : World) (B : Nat -> Prop) (h : Ups) (loc : Nat -> Loc) : A -> Value -> Prop
 | .tup cs,v => ∃ vs : Array Value,v = .tuple vs /\ All2 (bx w B h loc) cs vs.toList
 | a,v => bx w B h loc a v
def gH : D -> Value
 | .int k n => .int k n
 | .bool b => .bool b
 | .str s => .string s
 | _ => .agg #[]
def gn (sh : List D) (x : D) (e : MapEntry) : Prop := ∃ ks v,x = .tup [.agg ks,.int .i64 v] /\ cU sh ks = true /\ e.key = .agg (ks.map gH).toArray /\ e.val = .int .i64 v
def dF (w : World) (B : Nat -> Prop) (h : Ups) (loc : Nat -> Loc) (l : Loc) (o : List Res) : Blk -> Prop
 | .arr z xs => (l = .nil /\ xs = [] /\ o = []) \/ ∃ b base sz c ty fr o',l = .at b base sz /\ w.heap[b]? = some (.cells c ty fr) /\ c.size = sz /\ iU sz fr /\ au w B b base z xs o' /\ o = .arr b :: o'
 | .fz z xs => o = [] /\ z.2 <= 1 /\ ((l = .nil /\ xs = []) \/ ∃ b base sz,l = .at b base sz /\ au w B b base z xs [] /\ (xs ≠ [] -> B b))
 | .var cs => ∃ b base sz c ty fr vs,l = .at b base sz /\ w.heap[b]? = some (.cells c ty fr) /\ c.size = sz /\ iU sz fr /\ base + cs.length <= sz /\ cellsAt w b base vs /\ All2 (al w B h loc) cs vs /\ o = [.rng b base (base + cs.length)]
 | .mp sh xs => ∃ b base sz es clock,l = .at b base sz /\ w.heap[b]? = some (.map es clock) /\ All2 (gn sh) xs es.toList /\ o = [.arr b]
structure Chg (o : List Res) (w w' : World) : Prop where
 os : w'.os = w.os
 out : w'.output = w.output
 size : w.heap.size <= w'.heap.size
 same : ∀ b,b < w.heap.size -> b ∉ aa o -> w'.heap[b]? = w.heap[b]?
 cells : ∀ (b : Nat) (c : Array Value) (ty : TypeId) (fr : Nat × Nat),w.heap[b]? = some (.cells c ty fr) ->
  ∃ (c' : Array Value) (fr' : Nat × Nat),w'.heap[b]? = some (.cells c' ty fr') /\ c'.size = c.size /\ (iU c.size fr -> iU c.size fr') /\ ∀ j : Nat,(∀ r ∈ o,¬ r.covers b j) -> c'[j]? = c[j]?
theorem Chg.refl (o : List Res) (w : World) : Chg o w w := ⟨rfl,rfl,Nat.le_refl _,fun _ _ _ => rfl,fun b c ty fr h => ⟨c,fr,h,rfl,id,fun _ _ => rfl⟩⟩
def okR (w0 : World) (o : List Res) (r : Res) : Prop := w0.heap.size <= r.blk \/ (r.blk ∈ aa o /\ ∀ j,r.covers r.blk j -> ∃ r0 ∈ o,r0.covers r.blk j)
theorem ew {w : World} {b : Nat} {x : Obj} (h : w.heap[b]? = some x) : b < w.heap.size := by
 rcases Nat.lt_or_ge b w.heap.size with h' | h'
 ·exact h'
 ·rw [Array.getElem?_eq_none h'] at h; cases h
theorem Chg.step {o o' : List Res} {w0 w w' : World} (h : Chg o w0 w) (h' : Chg o' w w') (ho : ∀ r ∈ o',okR w0 o r) : Chg o w0 w' := by
 refine ⟨h'.os.trans h.os,h'.out.trans h.out,Nat.le_trans h.size h'.size,?_,?_⟩
 ·intro b hb hn
  rw [h'.same b (Nat.lt_of_lt_of_le hb h.size),h.same b hb hn]
  intro hm
  obtain ⟨r,hr,rfl⟩ := List.mem_map.1 hm
  rcases ho r hr with h1 | h1
  ·omega
  ·exact hn h1.1
 ·intro b c ty fr hb
  obtain ⟨c1,f1,h1,hs1,hu1,hc1⟩ := h.cells b c ty fr hb
  obtain ⟨c2,f2,h2,hs2,hu2,hc2⟩ := h'.cells b c1 ty f1 h1
  refine ⟨c2,f2,h2,hs2.trans hs1,fun hu => by have := hu2 (by rw [hs1]; exact hu1 hu); rwa [hs1] at this,fun j hj => ?_⟩
  rw [hc2 j ?_,hc1 j hj]
  intro r hr hcov
  have hbr : r.blk = b := by cases r <;> simp_all [Res.covers,Res.blk]
  rcases ho r hr with h3 | h3
  ·have := ew hb; omega
  ·subst hbr
   obtain ⟨r0,hr0,hcov0⟩ := h3.2 j hcov
   exact hj r0 hr0 hcov0
structure HS (B0 : Nat -> Prop) (w0 : World) (o0 : List Res) (X : Nat -> Prop) (h : Ups) (loc : Nat -> Loc) (O : Nat -> List Res) (who : Nat -> Option (Option Nat)) (B : Nat -> Prop) (w : World) : Prop where
 blk : ∀ id b,ae h id = some b -> ¬ X id -> dF w B h loc (loc id) (O id) b
 own : ∀ id b,ae h id = some b -> ∀ r ∈ O id,who r.blk = some (some id)
 nod : ∀ id b,ae h id = some b -> (aa (O id)).Nodup
 okr : ∀ id b,ae h id = some b -> ∀ r ∈ O id,okR w0 o0 r
 mine : ∀ b ow,who b = some ow -> ¬ B b /\ b < w.heap.size /\ (w0.heap.size <= b \/ b ∈ aa o0)
 blt : ∀ b,B b -> b < w.heap.size
 bsub : ∀ b,B b -> B0 b \/ w0.heap.size <= b \/ b ∈ aa o0
 b0 : ∀ b,B0 b -> B b
 chg : Chg o0 w0 w
def Ext (h : Ups) (loc : Nat -> Loc) (h' : Ups) (loc' : Nat -> Loc) : Prop :=
 ∀ id ob,hfind h id = some ob -> ∃ ob',hfind h' id = some ob' /\ ∀ blk',ob' = some blk' -> ∃ blk,ob = some blk /\ b9 blk' = b9 blk /\ aI blk' = aI blk /\ loc' id = loc id
theorem Ext.refl (h : Ups) (loc : Nat -> Loc) : Ext h loc h loc := fun id ob ho => ⟨ob,ho,fun blk' hb => ⟨blk',hb,rfl,rfl,rfl⟩⟩
theorem Ext.trans {h h' h'' : Ups} {loc loc' loc'' : Nat -> Loc} (e : Ext h loc h' loc') (e' : Ext h' loc' h'' loc'') : Ext h loc h'' loc'' := by
 intro id ob ho
 obtain ⟨ob',h1,h2⟩ := e id ob ho
 obtain ⟨ob'',h3,h4⟩ := e' id ob' h1
 refine ⟨ob'',h3,fun blk'' hb => ?_⟩
 obtain ⟨blk',hb',a1,a2,a3⟩ := h4 blk'' hb
 obtain ⟨blk,hb0,b1,b2,b3⟩ := h2 blk' hb'
 exact ⟨blk,hb0,a1.trans b1,a2.trans b2,a3.trans b3⟩
def Kp (w : World) (B : Nat -> Prop) (h : Ups) (loc : Nat -> Loc) (w' : World) (B' : Nat -> Prop) (h' : Ups) (loc' : Nat -> Loc) : Prop :=
 ∀ a v,al w B h loc a v -> al w' B' h' loc' a v
theorem Kp.refl (w : World) (B : Nat -> Prop) (h : Ups) (loc : Nat -> Loc) : Kp w B h loc w B h loc := fun _ _ h => h
theorem Kp.trans {w w' w'' : World} {B B' B'' : Nat -> Prop} {h h' h'' : Ups} {l l' l'' : Nat -> Loc} (k : Kp w B h l w' B' h' l') (k' : Kp w' B' h' l' w'' B'' h'' l'') : Kp w B h l w'' B'' h'' l'' :=
 fun a v x => k' a v (k a v x)
theorem Kp.of {w w' : World} {B B' : Nat -> Prop} {h h' : Ups} {l l' : Nat -> Loc} (hB : ∀ b,B b -> B' b) (hw : ∀ b,B b -> w'.heap[b]? = w.heap[b]?) (e : Ext h l h' l') : Kp w B h l w' B' h' l' := by
 have hs : Same w w' B [] := fun b hb => hw b (hb.resolve_right (by simp [aa]))
 intro a v ha
 cases a with
 | d x => exact ⟨ha.1,aR hB x v [] hs ha.2⟩
 | ref id i off =>
  obtain ⟨hp,ob,ho,hb⟩ := ha
  obtain ⟨ob',h1,h2⟩ := e id ob ho
  refine ⟨hp,ob',h1,fun blk' hb' => ?_⟩
  obtain ⟨blk,hb0,a1,a2,a3⟩ := h2 blk' hb'
  obtain ⟨b,base,sz,hl,hv⟩ := hb blk hb0
  exact ⟨b,base,sz,a3.trans hl,by rw [a1]; exact hv⟩
 | rp z xs i off =>
  obtain ⟨b,base,hv,hb,hz,he⟩ := ha
  exact ⟨b,base,hv,hB b hb,hz,av hB b base z xs [] hs (fun _ => hw b hb) he⟩
 | asl id rng =>
  obtain ⟨hp,ob,ho,hb⟩ := ha
  obtain ⟨ob',h1,h2⟩ := e id ob ho
  refine ⟨hp,ob',h1,fun blk' hb' => ?_⟩
  obtain ⟨blk,hb0,a1,a2,a3⟩ := h2 blk' hb'
  obtain ⟨n,hn,hv⟩ := hb blk hb0
  exact ⟨n,a2.trans hn,by rw [a1,a3]; exact hv⟩
 | agg cs => exact ha.elim
 | tup cs => exact ha.elim
 | fn f cs => exact ha.elim
 | mp id =>
  obtain ⟨hp,ob,ho,hb⟩ := ha
  obtain ⟨ob',h1,h2⟩ := e id ob ho
  refine ⟨hp,ob',h1,fun blk' hb' => ?_⟩
  obtain ⟨blk,hb0,a1,a2,a3⟩ := h2 blk' hb'
  obtain ⟨b,base,sz,hl,hv⟩ := hb blk hb0
  exact ⟨b,base,sz,a3.trans hl,hv⟩
 | undef => trivial
theorem Kp.a2 {w w' : World} {B B' : Nat -> Prop} {h h' : Ups} {l l' : Nat -> Loc} (k : Kp w B h l w' B' h' l') {a : A} {v : Value} (ha : bx w B h l a v) : bx w' B' h' l' a v := by
 cases a with
 | agg cs => obtain ⟨vs,hv,hh⟩ := ha; exact ⟨vs,hv,hh.mono k⟩
 | fn f cs => obtain ⟨vs,hv,hh⟩ := ha; exact ⟨vs,hv,hh.mono k⟩
 | tup cs => exact ha.elim
 | d x => exact k (.d x) v ha
 | ref i j o => exact k (.ref i j o) v ha
 | rp z xs i o => exact k (.rp z xs i o) v ha
 | asl i r => exact k (.asl i r) v ha
 | mp i => exact k (.mp i) v ha
 | undef => trivial
theorem Kp.a {w w' : World} {B B' : Nat -> Prop} {h h' : Ups} {l l' : Nat -> Loc} (k : Kp w B h l w' B' h' l') {a : A} {v : Value} (ha : aJ w B h l a v) : aJ w' B' h' l' a v := by
 cases a with
 | tup cs => obtain ⟨vs,hv,hh⟩ := ha; exact ⟨vs,hv,hh.mono (fun a v => k.a2)⟩
 | agg cs => exact k.a2 (a := .agg cs) ha
 | fn f cs => exact k.a2 (a := .fn f cs) ha
 | d x => exact k.a2 (a := .d x) ha
 | ref i j o => exact k.a2 (a := .ref i j o) ha
 | rp z xs i o => exact k.a2 (a := .rp z xs i o) ha
 | asl i r => exact k.a2 (a := .asl i r) ha
 | mp i => exact k.a2 (a := .mp i) ha
 | undef => trivial
theorem cy {w w' : World} {B B' : Nat -> Prop} {h h' : Ups} {l l' : Nat -> Loc} (k : Kp w B h l w' B' h' l') (hB : ∀ b,B b -> B' b) {lo : Loc} {o : List Res} {blk : Blk}
  (hw : ∀ b,(B b \/ b ∈ aa o) -> w'.heap[b]? = w.heap[b]?) (hb : dF w B h l lo o blk) : dF w' B' h' l' lo o blk := by
 cases blk with
 | arr z xs =>
  refine hb.imp id ?_
  rintro ⟨b,base,sz,c,ty,fr,o',hl,hh,hs,hu,he,rfl⟩
  have hs' : Same w w' B (.arr b :: o') := hw
  exact ⟨b,base,sz,c,ty,fr,o',hl,hs'.head.trans hh,hs,hu,av hB b base z xs o' hs'.tail (fun _ => hs'.head) he,rfl⟩
 | fz z xs =>
  obtain ⟨ho,hz,hb⟩ := hb
  refine ⟨ho,hz,hb.imp id ?_⟩
  rintro ⟨b,base,sz,hl,he,hx⟩
  have hs' : Same w w' B [] := Same.nil (o := o) hw
  exact ⟨b,base,sz,hl,av hB b base z xs [] hs' (fun hn => hw b (.inl (hx hn))) he,fun hn => hB _ (hx hn)⟩
 | var cs =>
  obtain ⟨b,base,sz,c,ty,fr,vs,hl,hh,hs,hu,hle,hc,ha,rfl⟩ := hb
  have he : w'.heap[b]? = w.heap[b]? := hw b (.inr (by simp [aa,Res.blk]))
  exact ⟨b,base,sz,c,ty,fr,vs,hl,he.trans hh,hs,hu,hle,dL he hc,ha.mono k,rfl⟩
 | mp sh xs =>
  obtain ⟨b,base,sz,es,clock,hl,hh,ha,rfl⟩ := hb
  exact ⟨b,base,sz,es,clock,hl,(hw b (.inr (by simp [aa,Res.blk]))).trans hh,ha,rfl⟩
section steps
variable {B0 : Nat -> Prop} {w0 : World} {o0 : List Res} {X : Nat -> Prop} {h : Ups} {loc : Nat -> Loc} {O : Nat -> List Res} {who : Nat -> Option (Option Nat)} {B : Nat -> Prop} {w : World}
theorem aj (n id : Nat) (b : Option Blk) (h : Ups) : hfind ((n,b) :: h) id = if n = id then some b else hfind h id := by
 simp only [hfind]; by_cases e : n = id <;> simp [e]
theorem iJ (n id : Nat) (b : Option Blk) (h : Ups) : ae ((n,b) :: h) id = if n = id then b else ae h id := by
 simp only [ae]; by_cases e : n = id <;> simp [e]
theorem HS.kill (s : HS B0 w0 o0 X h loc O who B w) (n : Nat) (hn : ∃ ob,hfind h n = some ob) :
  HS B0 w0 o0 X ((n,none) :: h) loc O (fun b => if who b = some (some n) then some none else who b) B w /\ Ext h loc ((n,none) :: h) loc := by
 have ext : Ext h loc ((n,none) :: h) loc := by
  intro id ob ho
  rw [aj]
  by_cases e : n = id
  ·exact ⟨none,by simp [e],by simp⟩
  ·exact ⟨ob,by simp [e,ho],fun b hb => ⟨b,hb,rfl,rfl,rfl⟩⟩
 have hg : ∀ {id b},ae ((n,none) :: h) id = some b -> n ≠ id /\ ae h id = some b := by
  intro id b hb
  rw [iJ] at hb
  by_cases e : n = id
  ·simp [e] at hb
  ·exact ⟨e,by simpa [e] using hb⟩
 refine ⟨⟨?_,?_,?_,?_,?_,s.blt,s.bsub,s.b0,s.chg⟩,ext⟩
 ·intro id b hb hx
  exact cy (Kp.of (fun _ h => h) (fun _ _ => rfl) ext) (fun _ h => h) (fun _ _ => rfl) (s.blk id b (hg hb).2 hx)
 ·intro id b hb r hr
  have := s.own id b (hg hb).2 r hr
  have hne : ¬ who r.blk = some (some n) := by rw [this]; intro he; exact (hg hb).1 (by simpa using he.symm)
  simp only [hne,if_false]; exact this
 ·intro id b hb; exact s.nod id b (hg hb).2
 ·intro id b hb; exact s.okr id b (hg hb).2
 ·intro b ow hb
  by_cases e : who b = some (some n)
  ·exact s.mine b _ e
  ·simp only [e,if_false] at hb; exact s.mine b ow hb
theorem HS.set (s : HS B0 w0 o0 X h loc O who B w) (n : Nat) (blk : Blk) (l : Loc) (o : List Res)
  (ext : Ext h loc ((n,some blk) :: h) (fun i => if i = n then l else loc i))
  (hb : dF w B ((n,some blk) :: h) (fun i => if i = n then l else loc i) l o blk)
  (hw : ∀ r ∈ o,who r.blk = some none \/ who r.blk = some (some n)) (hn : (aa o).Nodup) (hok : ∀ r ∈ o,okR w0 o0 r) :
  HS B0 w0 o0 (fun i => X i /\ i ≠ n) ((n,some blk) :: h) (fun i => if i = n then l else loc i) (fun i => if i = n then o else O i)
   (fun b => if b ∈ aa o then some (some n) else if who b = some (some n) then some none else who b) B w := by
 have hg : ∀ {id b},ae ((n,some blk) :: h) id = some b -> (id = n /\ b = blk) \/ (id ≠ n /\ ae h id = some b) := by
  intro id b hb
  rw [iJ] at hb
  by_cases e : n = id
  ·exact .inl ⟨e.symm,by simpa [e] using hb.symm⟩
  ·exact .inr ⟨fun h => e h.symm,by simpa [e] using hb⟩
 refine ⟨?_,?_,?_,?_,?_,s.blt,s.bsub,s.b0,s.chg⟩
 ·intro id b hgb hx
  rcases hg hgb with ⟨rfl,rfl⟩ | ⟨hne,hgb⟩
  ·simpa using hb
  ·simp only [hne,if_false]
   exact cy (Kp.of (fun _ h => h) (fun _ _ => rfl) ext) (fun _ h => h) (fun _ _ => rfl) (s.blk id b hgb (fun hx' => hx ⟨hx',hne⟩))
 ·intro id b hgb r hr
  rcases hg hgb with ⟨rfl,rfl⟩ | ⟨hne,hgb⟩
  ·simp only [if_true] at hr
   have : r.blk ∈ aa o := List.mem_map.2 ⟨r,hr,rfl⟩
   simp [this]
  ·simp only [hne,if_false] at hr
   have h1 := s.own id b hgb r hr
   have h2 : r.blk ∉ aa o := by
    intro hm
    obtain ⟨r',hr',he⟩ := List.mem_map.1 hm
    rcases hw r' hr' with h3 | h3 <;> rw [he,h1] at h3 <;> simp at h3
    exact hne h3
   have h3 : ¬ who r.blk = some (some n) := by rw [h1]; simpa using hne
   simp [h2,h1,hne]
 ·intro id b hgb
  rcases hg hgb with ⟨rfl,rfl⟩ | ⟨hne,hgb⟩
  ·simpa using hn
  ·simpa [hne] using s.nod id b hgb
 ·intro id b hgb
  rcases hg hgb with ⟨rfl,rfl⟩ | ⟨hne,hgb⟩
  ·simpa using hok
  ·simpa [hne] using s.okr id b hgb
 ·intro b ow hb'
  by_cases e : b ∈ aa o
  ·obtain ⟨r',hr',rfl⟩ := List.mem_map.1 e
   rcases hw r' hr' with h3 | h3 <;> exact s.mine _ _ h3
  ·simp only [e,if_false] at hb'
   by_cases e2 : who b = some (some n)
   ·exact s.mine b _ e2
   ·simp only [e2,if_false] at hb'; exact s.mine b ow hb'
theorem HS.world (s : HS B0 w0 o0 X h loc O who B w) {w' : World} (hsz : w.heap.size <= w'.heap.size) (hc : Chg o0 w0 w')
  (hw : ∀ b,(B b \/ ∃ id,who b = some (some id) /\ ¬ X id) -> w'.heap[b]? = w.heap[b]?) :
  HS B0 w0 o0 X h loc O who B w' /\ Kp w B h loc w' B h loc := by
 have k : Kp w B h loc w' B h loc := Kp.of (fun _ h => h) (fun b hb => hw b (.inl hb)) (Ext.refl h loc)
 refine ⟨⟨?_,s.own,s.nod,s.okr,?_,?_,s.bsub,s.b0,hc⟩,k⟩
 ·intro id b hb hx
  refine cy k (fun _ h => h) ?_ (s.blk id b hb hx)
  intro b' hb'
  rcases hb' with hb' | hb'
  ·exact hw b' (.inl hb')
  ·obtain ⟨r,hr,rfl⟩ := List.mem_map.1 hb'
   exact hw _ (.inr ⟨id,s.own id b hb r hr,hx⟩)
 ·intro b ow hb; have := s.mine b ow hb; exact ⟨this.1,Nat.lt_of_lt_of_le this.2.1 hsz,this.2.2⟩
 ·intro b hb; exact Nat.lt_of_lt_of_le (s.blt b hb) hsz
theorem HS.take (s : HS B0 w0 o0 X h loc O who B w) (bs : List Nat) (hbs : ∀ b ∈ bs,who b = none /\ ¬ B b /\ b < w.heap.size /\ w0.heap.size <= b) :
  HS B0 w0 o0 X h loc O (fun b => if b ∈ bs then some none else who b) B w := by
 refine ⟨s.blk,?_,s.nod,s.okr,?_,s.blt,s.bsub,s.b0,s.chg⟩
 ·intro id b hb r hr
  have := s.own id b hb r hr
  have hn : r.blk ∉ bs := fun hm => by rw [(hbs _ hm).1] at this; cases this
  simp [hn,this]
 ·intro b ow hb
  by_cases e : b ∈ bs
  ·have := hbs b e; exact ⟨this.2.1,this.2.2.1,.inl this.2.2.2⟩
  ·simp only [e,if_false] at hb; exact s.mine b ow hb
theorem HS.lend (s : HS B0 w0 o0 X h loc O who B w) {B' : Nat -> Prop} (hB : ∀ b,B b -> B' b) (hn : ∀ b,B' b -> b < w.heap.size /\ (B0 b \/ w0.heap.size <= b \/ b ∈ aa o0) /\ ∀ ow,who b ≠ some ow) :
  HS B0 w0 o0 X h loc O who B' w /\ Kp w B h loc w B' h loc := by
 have k : Kp w B h loc w B' h loc := Kp.of hB (fun _ _ => rfl) (Ext.refl h loc)
 exact ⟨⟨fun id b hb hx => cy k hB (fun _ _ => rfl) (s.blk id b hb hx),s.own,s.nod,s.okr,
  fun b ow hb => ⟨fun hb' => (hn b hb').2.2 ow hb,(s.mine b ow hb).2⟩,fun b hb => (hn b hb).1,fun b hb => (hn b hb).2.1,fun b hb => hB _ (s.b0 b hb),s.chg⟩,k⟩
theorem HS.opn (s : HS B0 w0 o0 X h loc O who B w) (Y : Nat -> Prop) : HS B0 w0 o0 (fun i => X i \/ Y i) h loc O who B w :=
 ⟨fun id b hb hx => s.blk id b hb (fun h => hx (.inl h)),s.own,s.nod,s.okr,s.mine,s.blt,s.bsub,s.b0,s.chg⟩
theorem HS.same (s : HS B0 w0 o0 X h loc O who B w) {Y : Nat -> Prop} (hY : ∀ i,X i -> Y i) : HS B0 w0 o0 Y h loc O who B w :=
 ⟨fun id b hb hx => s.blk id b hb (fun h => hx (hY _ h)),s.own,s.nod,s.okr,s.mine,s.blt,s.bsub,s.b0,s.chg⟩
end steps
structure Wr (b lo : Nat) (vs : List Value) (w w' : World) : Prop where
 os : w'.os = w.os
 out : w'.output = w.output
 size : w'.heap.size = w.heap.size
 other : ∀ b',b' ≠ b -> w'.heap[b']? = w.heap[b']?
 cells : ∃ (c : Array Value) (ty : TypeId) (fr : Nat × Nat) (c' : Array Value),w.heap[b]? = some (.cells c ty fr) /\ w'.heap[b]? = some (.cells c' ty fr) /\ c'.size = c.size /\
  (∀ j : Nat,j < lo \/ lo + vs.length <= j -> c'[j]? = c[j]?) /\ ∀ (j : Nat) (v : Value),vs[j]? = some v -> c'[lo + j]? = some v
theorem nH {P : Program} {w : World} {b o : Nat} {v u : Value} (hv : eE v) (hc : w.cell? ⟨b,o,none⟩ = some u) (hf : w.frozen? ⟨b,o,none⟩ = false) :
  (store ⟨b,o,none⟩ v).run P w = .ok () (w.setCell ⟨b,o,none⟩ v) := by
 cases v <;> first | exact hv.elim | simp [store,Sem.run,hc,hf]
theorem j5 {w : World} {b o : Nat} {c : Array Value} {ty : TypeId} {fr : Nat × Nat} {v : Value} (h : w.heap[b]? = some (.cells c ty fr)) :
  (w.setCell ⟨b,o,none⟩ v).heap[b]? = some (.cells (c.setIfInBounds o v) ty fr) := by
 have hb := ew h
 simp only [World.setCell]
 rw [Array.getElem?_modify]
 simp [h]
theorem nJ {w : World} {b b' o : Nat} {v : Value} (h : b' ≠ b) : (w.setCell ⟨b,o,none⟩ v).heap[b']? = w.heap[b']? := by
 simp only [World.setCell]
 rw [Array.getElem?_modify]
 simp [Ne.symm h]
theorem cH (b o i : Nat) : (⟨b,o,none⟩ : Addr).add i = ⟨b,o + i,none⟩ := by unfold Addr.add; split <;> simp_all
theorem cx {P : Program} {b o : Nat} {ty : TypeId} {fr : Nat × Nat} : ∀ (vs : List Value) (i : Nat) (c : Array Value) (w : World),w.heap[b]? = some (.cells c ty fr) -> iU c.size fr ->
  o + i + vs.length <= c.size -> (∀ v ∈ vs,eE v) -> ∃ w',(storeCells ⟨b,o,none⟩ vs i).run P w = .ok () w' /\ Wr b (o + i) vs w w'
 | [],i,c,w,h,hu,hl,hv => ⟨w,rfl,rfl,rfl,rfl,fun _ _ => rfl,c,ty,fr,c,h,h,rfl,fun _ _ => rfl,fun j v hj => by simp at hj⟩
 | v :: vs,i,c,w,h,hu,hl,hv => by
  have hl' : o + i < c.size := by simp at hl; omega
  have hc : w.cell? ⟨b,o + i,none⟩ = some c[o + i] := by simp [World.cell?,h,hl']
  have hf : w.frozen? ⟨b,o + i,none⟩ = false := by
   have := hu (o + i) hl'
   simp only [World.frozen?,h]
   rw [Bool.and_eq_false_iff]
   by_cases h1 : fr.1 <= o + i
   ·right; simp; omega
   ·left; simpa using h1
  have hst := nH (P := P) (hv v (by simp)) hc hf
  obtain ⟨w',hr,hw⟩ := cx (P := P) (o := o) vs (i + 1) (c.setIfInBounds (o + i) v) (w.setCell ⟨b,o + i,none⟩ v) (j5 h) (by simpa using hu) (by simp at hl ⊢; omega) (fun u hu' => hv u (by simp [hu']))
  refine ⟨w',?_,?_⟩
  ·simp only [storeCells,Sem.run_bind,cH,hst,Result.andThen_ok,hr]
  ·obtain ⟨h1,h2,h3,h4,c0,ty0,fr0,c',h5,h6,h7,h8,h9⟩ := hw
   rw [j5 h] at h5
   cases h5
   refine ⟨h1,h2,by rw [h3]; simp [World.setCell],fun b' hb => by rw [h4 b' hb,nJ hb],c,ty,fr,c',h,h6,by rw [h7]; simp,?_,?_⟩
   ·intro j hj
    rw [h8 j (by simp at hj ⊢; omega),Array.getElem?_setIfInBounds]
    simp at hj
    simp [show ¬ (o + i = j) by omega]
   ·intro j u hj
    cases j with
    | zero =>
     simp at hj; subst hj
     rw [Nat.add_zero,h8 _ (by omega),Array.getElem?_setIfInBounds]
     simp [hl']
    | succ j =>
     simp at hj
     have := h9 j u hj
     rw [<- this]; congr 1; omega
theorem eH {P : Program} {w : World} (e : TypeId) (c : Array Value) : (newRow e c).run P w = .ok ⟨w.heap.size,0,none⟩ { w with heap := w.heap.push (.cells c e) } := by
 simp [newRow,newObj,Sem.run]
theorem mZ {w : World} {o : Obj} {b : Nat} (h : b < w.heap.size) : (w.heap.push o)[b]? = w.heap[b]? := by
 rw [Array.getElem?_push]; simp [show ¬ (b = w.heap.size) by omega]
theorem mY {w : World} {o : Obj} : (w.heap.push o)[w.heap.size]? = some o := by simp
structure New (c : Array Value) (ty : TypeId) (fr : Nat × Nat) (w w' : World) : Prop where
 os : w'.os = w.os
 out : w'.output = w.output
 size : w'.heap.size = w.heap.size + 1
 old : ∀ b,b < w.heap.size -> w'.heap[b]? = w.heap[b]?
 new : w'.heap[w.heap.size]? = some (.cells c ty fr)
theorem New.chg {c : Array Value} {ty : TypeId} {fr : Nat × Nat} {w w' : World} (h : New c ty fr w w') (o : List Res) : Chg o w w' :=
 ⟨h.os,h.out,by rw [h.size]; omega,fun b hb _ => h.old b hb,fun b c ty fr hb => ⟨c,fr,(h.old b (ew hb)).trans hb,rfl,id,fun _ _ => rfl⟩⟩
theorem Wr.chg {b lo : Nat} {vs : List Value} {w w' : World} (h : Wr b lo vs w w') : Chg [.rng b lo (lo + vs.length)] w w' := by
 obtain ⟨h1,h2,h3,h4,c,ty,fr,c',h5,h6,h7,h8,h9⟩ := h
 refine ⟨h1,h2,by omega,fun b' _ hb' => h4 b' (by simpa [aa,Res.blk] using hb'),?_⟩
 intro b' c0 ty0 fr0 hb'
 by_cases e : b' = b
 ·subst e
  rw [h5] at hb'; cases hb'
  refine ⟨c',_,h6,h7,id,fun j hj => h8 j ?_⟩
  have := hj (.rng b' lo (lo + vs.length)) (by simp)
  simp only [Res.covers,true_and] at this
  omega
 ·exact ⟨c0,_,(h4 b' e).trans hb',rfl,id,fun _ _ => rfl⟩
theorem Wr.cellsAt {b lo : Nat} {vs : List Value} {w w' : World} (h : Wr b lo vs w w') : Go.Eng.cellsAt w' b lo vs := by
 obtain ⟨h1,h2,h3,h4,c,ty,fr,c',h5,h6,h7,h8,h9⟩ := h
 intro j v hj
 simp [World.cell?,h6,h9 j v hj]
theorem Wr.keep {b lo off : Nat} {vs us : List Value} {w w' : World} (h : Wr b lo vs w w') (hc : Go.Eng.cellsAt w b off us) (hd : off + us.length <= lo \/ lo + vs.length <= off) : Go.Eng.cellsAt w' b off us := by
 obtain ⟨h1,h2,h3,h4,c,ty,fr,c',h5,h6,h7,h8,h9⟩ := h
 intro j v hj
 have := hc j v hj
 have hjl := aQ hj
 simp only [World.cell?,h5,h6] at this ⊢
 rw [h8 _ (by omega)]; exact this
theorem fF {P : Program} {w : World} {b o : Nat} {vs : List Value} (h : cellsAt w b o vs) : (loadCells ⟨b,o,none⟩ vs.length).run P w = .ok vs.toArray w :=
 run_loadCells_list w ⟨b,o,none⟩ vs (fun j v hj => by rw [cH]; exact h j v hj)
theorem vH {P : Program} {w : World} {b o : Nat} {v : Value} (h : w.cell? ⟨b,o,none⟩ = some v) : (load ⟨b,o,none⟩).run P w = .ok v w := by
 simp [load,Sem.run,h]
theorem cR {P : Program} {t : TypeId} {i : TypeInfo} (h : P.info? t = some i) (w : World) : (typeInfo t).run P w = .ok i w := by
 simp [typeInfo,program,Sem.run,h]
theorem aP {P : Program} {t : TypeId} {n : Nat} (h : tsz P t = some n) (w : World) : (sizeOf t).run P w = .ok n w := by
 unfold tsz at h
 cases hi : P.info? t with
 | none => simp [hi] at h
 | some i => simp [hi] at h; simp [sizeOf,cR hi,h]
theorem xE {P : Program} {t : TypeId} {d : TypeDesc} (h : P.underlying t = some d) (hd : ∀ n e,d ≠ .array n e) (w : World) : (isAgg t).run P w = .ok (tag P t) w := by
 simp only [isAgg,Sem.run_bind,run_underlying h,Result.andThen_ok,tag,h]
 cases d <;> first | rfl | exact absurd rfl (hd _ _)
def Runs (P : Program) (o : Oper) (a : Act) (w : World) (Post : Value -> World -> Prop) : Prop :=
 ∀ (next : Act -> World -> Prop) (Q : Exit -> Act -> World -> Prop),(∀ v w',Post v w' -> next (a.put o.dst v) w') -> o.wp P a w next Q
theorem Runs.value {P : Program} {o : Oper} {a : Act} {w w' : World} {v : Value} {Post : Value -> World -> Prop} (h : (execOp a.eval o).run P w = .ok (.value v) w') (hp : Post v w') : Runs P o a w Post := by
 intro next Q hn
 unfold Oper.wp; rw [h]; exact hn v w' hp
theorem Runs.skip {P : Program} {o : Oper} {a : Act} {w w' : World} {Post : Value -> World -> Prop} (h : (execOp a.eval o).run P w = .ok .skip w') (hp : Post undef w') : Runs P o a w Post := by
 intro next Q hn
 unfold Oper.wp; rw [h]; exact hn undef w' hp
theorem Runs.mono {P : Program} {o : Oper} {a : Act} {w : World} {Post Post' : Value -> World -> Prop} (h : Runs P o a w Post) (hm : ∀ v w',Post v w' -> Post' v w') : Runs P o a w Post' :=
 fun next Q hn => h next Q (fun v w' hp => hn v w' (hm v w' hp))
structure Fr where
 B0 : Nat -> Prop
 w0 : World
 o0 : List Res
def NoX : Nat -> Prop := fun _ => False
abbrev HSc (F : Fr) (h : Ups) (loc : Nat -> Loc) (O : Nat -> List Res) (who : Nat -> Option (Option Nat)) (B : Nat -> Prop) (w : World) : Prop :=
 HS F.B0 F.w0 F.o0 NoX h loc O who B w
def Done (F : Fr) (h : Ups) (loc : Nat -> Loc) (B : Nat -> Prop) (w : World) (u : Ups) (v : A) (val : Value) (w' : World) : Prop :=
 ∃ (loc' : Nat -> Loc) (O' : Nat -> List Res) (who' : Nat -> Option (Option Nat)) (B' : Nat -> Prop),
  HSc F (u ++ h) loc' O' who' B' w' /\ Kp w B h loc w' B' (u ++ h) loc' /\ aJ w' B' (u ++ h) loc' v val
def tK (h : Ups) (n : Nat) : Prop := ∀ id,n <= id -> id < n + ai -> hfind h id = none
structure Sound (P : Program) (n : Nat) (o : Oper) (σ : St) (v : A) (u : Ups) (f : List Nat) : Prop where
 ids : ∀ id ∈ u.map (·.1),id ∈ f \/ (n <= id /\ id < n + ai)
 run : ∀ (F : Fr) (h : Ups) (a : Act) (w : World) (loc : Nat -> Loc) (O : Nat -> List Res) (who : Nat -> Option (Option Nat)) (B : Nat -> Prop),
  (∀ x ∈ o.op.operands,aJ w B h loc (ev σ x) (a.eval x)) -> (∀ id ∈ f,hfind h id = hfind σ.heap id) -> tK h n -> HSc F h loc O who B w ->
  Runs P o a w (Done F h loc B w u v)
theorem Done.pure {F : Fr} {h : Ups} {loc : Nat -> Loc} {O : Nat -> List Res} {who : Nat -> Option (Option Nat)} {B : Nat -> Prop} {w : World} {v : A} {val : Value}
  (s : HSc F h loc O who B w) (hv : aJ w B h loc v val) : Done F h loc B w [] v val w :=
 ⟨loc,O,who,B,s,Kp.refl w B h loc,hv⟩
theorem Sound.pure {P : Program} {n : Nat} {o : Oper} {σ : St} {v : A} {f : List Nat}
  (H : ∀ (h : Ups) (a : Act) (w : World) (loc : Nat -> Loc) (B : Nat -> Prop),(∀ x ∈ o.op.operands,aJ w B h loc (ev σ x) (a.eval x)) -> (∀ id ∈ f,hfind h id = hfind σ.heap id) ->
   ∃ val,(execOp a.eval o).run P w = .ok (.value val) w /\ aJ w B h loc v val) : Sound P n o σ v [] f :=
 ⟨by simp,fun F h a w loc O who B hx hf hn s => by
  obtain ⟨val,hr,hv⟩ := H h a w loc B hx hf
  exact Runs.value hr (Done.pure s hv)⟩
section vals
variable {w : World} {B : Nat -> Prop} {h : Ups} {loc : Nat -> Loc} {v : Value}
theorem uh {x : D} : aJ w B h loc (.d x) v ↔ cX x /\ ac w B x v [] := Iff.rfl
theorem rep_int {k : IntKind} {n : Int} : aJ w B h loc (.d (.int k n)) v ↔ v = .int k n := by simp [uh,cX,ac]
theorem rep_bool {b : Bool} : aJ w B h loc (.d (.bool b)) v ↔ v = .bool b := by simp [uh,cX,ac]
theorem rep_str {s : ByteArray} : aJ w B h loc (.d (.str s)) v ↔ v = .string s := by simp [uh,cX,ac]
theorem rep_nl : aJ w B h loc (.d .nl) v ↔ v = .slice none 0 0 := by simp [uh,cX,ac]
theorem ym {id i off : Nat} : aJ w B h loc (.ref id i off) v ↔ al w B h loc (.ref id i off) v := Iff.rfl
theorem yB {z : Z} {xs : List D} {i off : Nat} : aJ w B h loc (.rp z xs i off) v ↔ al w B h loc (.rp z xs i off) v := Iff.rfl
theorem rep_asl {id : Nat} {r : Option (Nat × Nat)} : aJ w B h loc (.asl id r) v ↔ al w B h loc (.asl id r) v := Iff.rfl
theorem wL {cs : List A} : aJ w B h loc (.agg cs) v ↔ ∃ vs : Array Value,v = .agg vs /\ All2 (al w B h loc) cs vs.toList := Iff.rfl
theorem ui {cs : List A} : aJ w B h loc (.tup cs) v ↔ ∃ vs : Array Value,v = .tuple vs /\ All2 (bx w B h loc) cs vs.toList := Iff.rfl
theorem bZ {a : A} (ha : bx w B h loc a v) : aJ w B h loc a v := by
 cases a with
 | tup _ => exact ha.elim
 | _ => exact ha
theorem pp {a : A} (ha : al w B h loc a v) : aJ w B h loc a v := by
 cases a with
 | tup _ => exact ha.elim
 | agg _ => exact ha.elim
 | fn _ _ => exact ha.elim
 | _ => exact ha
theorem rq (x : Value) : al w B h loc (ofV x) x := by
 unfold ofV
 split
 ·exact ⟨trivial,by simp [ac]⟩
 ·exact ⟨trivial,by simp [ac]⟩
 ·exact ⟨trivial,by simp [ac]⟩
 ·exact ⟨trivial,by simp [ac]⟩
 ·exact ⟨trivial,by simp [ac]⟩
 ·trivial
theorem fX (x : Value) : aJ w B h loc (iR x) x := by
 unfold iR
 split
 ·rename_i cs
  refine ⟨cs,rfl,?_⟩
  have : ∀ l : List Value,All2 (al w B h loc) (l.map ofV) l := by
   intro l
   induction l with
   | nil => exact .nil
   | cons x l ih => exact .cons (rq x) ih
  exact this cs.toList
 ·exact pp (rq x)
end vals
section ops
variable {P : Program} {cf : Cfg} {call : Nat -> List D -> Option Ret} {n : Nat} {o : Oper} {σ : St} {R : Type} {K : A -> Ups -> List Nat -> Option R} {r : R}
def bc (P : Program) (n : Nat) (o : Oper) (σ : St) (K : A -> Ups -> List Nat -> Option R) (r : R) : Prop :=
 ∃ v u f,K v u f = some r /\ Sound P n o σ v u f
theorem aE {b : Bool} {x : Option R} (h : grd b x = some r) : b = true /\ x = some r := by
 cases b <;> simp_all [grd]
theorem vg {x : Operand} (ho : o.op = .move x) (h : K (ev σ x) [] [] = some r) : bc P n o σ K r :=
 ⟨_,_,_,h,Sound.pure fun hh a w loc B hx _ => ⟨a.eval x,by simp [execOp,ho],hx x (by simp [ho,Op.operands])⟩⟩
theorem rJ {x : Operand} (ho : o.op = .assign x) (h : K (ev σ x) [] [] = some r) : bc P n o σ K r :=
 ⟨_,_,_,h,Sound.pure fun hh a w loc B hx _ => ⟨a.eval x,by simp [execOp,ho],hx x (by simp [ho,Op.operands])⟩⟩
theorem vh {c x y : Operand} {t p q : Bool} (ho : o.op = .pick c x y) (hc : ev σ c = .d (.bool t)) (hx : ev σ x = .d (.bool p)) (hy : ev σ y = .d (.bool q))
  (h : K (.d (.bool (tT t p q))) [] [] = some r) : bc P n o σ K r :=
 ⟨_,_,_,h,Sound.pure fun hh a w loc B hv _ => by
  have h1 := hv c (by simp [ho,Op.operands]); have h2 := hv x (by simp [ho,Op.operands]); have h3 := hv y (by simp [ho,Op.operands])
  rw [hc,rep_bool] at h1; rw [hx,rep_bool] at h2; rw [hy,rep_bool] at h3
  refine ⟨.bool (tT t p q),?_,rep_bool.2 rfl⟩
  cases t <;> simp [execOp,ho,h1,h2,h3,asBool,tT]⟩
theorem tv {c x y : Operand} (ho : o.op = .pick c x y) (hc : ev σ c = .d (.bool true)) (h : K (ev σ x) [] [] = some r) : bc P n o σ K r :=
 ⟨_,_,_,h,Sound.pure fun hh a w loc B hv _ => by
  have h1 := hv c (by simp [ho,Op.operands]); rw [hc,rep_bool] at h1
  exact ⟨a.eval x,by simp [execOp,ho,h1,asBool],hv x (by simp [ho,Op.operands])⟩⟩
theorem tu {c x y : Operand} (ho : o.op = .pick c x y) (hc : ev σ c = .d (.bool false)) (h : K (ev σ y) [] [] = some r) : bc P n o σ K r :=
 ⟨_,_,_,h,Sound.pure fun hh a w loc B hv _ => by
  have h1 := hv c (by simp [ho,Op.operands]); rw [hc,rep_bool] at h1
  exact ⟨a.eval y,by simp [execOp,ho,h1,asBool],hv y (by simp [ho,Op.operands])⟩⟩
theorem rL {x : Operand} {i j k : Nat} (ho : o.op = .nilCheck x) (hx : ev σ x = .ref i j k) (h : K (.ref i j k) [] [] = some r) : bc P n o σ K r :=
 ⟨_,_,_,h,Sound.pure fun hh a w loc B hv _ => by
  have h1 := hv x (by simp [ho,Op.operands]); rw [hx] at h1
  obtain ⟨b,hb⟩ := h1.1
  exact ⟨a.eval x,by simp [execOp,ho,hb],h1⟩⟩
theorem tt {x : Operand} {z : Z} {xs : List D} {i k : Nat} (ho : o.op = .nilCheck x) (hx : ev σ x = .rp z xs i k) (h : K (.rp z xs i k) [] [] = some r) : bc P n o σ K r :=
 ⟨_,_,_,h,Sound.pure fun hh a w loc B hv _ => by
  have h1 := hv x (by simp [ho,Op.operands]); rw [hx] at h1
  obtain ⟨b,base,hb,_⟩ := id h1
  exact ⟨a.eval x,by simp [execOp,ho,hb],h1⟩⟩
theorem wg {op : UnOp} {t : TypeId} {x : Operand} {b : Bool} (ho : o.op = .unOp .not t x) (hx : ev σ x = .d (.bool b)) (h : K (.d (.bool (!b))) [] [] = some r) : bc P n o σ K r :=
 ⟨_,_,_,h,Sound.pure fun hh a w loc B hv _ => by
  have h1 := hv x (by simp [ho,Op.operands]); rw [hx,rep_bool] at h1
  exact ⟨.bool (!b),by simp [execOp,ho,h1,Op.unary],rep_bool.2 rfl⟩⟩
theorem we {t : TypeId} {x : Operand} {k : IntKind} {m : Int} (ho : o.op = .unOp .neg t x) (hx : ev σ x = .d (.int k m)) (h : K (.d (.int k (k.wrap (0 - m)))) [] [] = some r) : bc P n o σ K r :=
 ⟨_,_,_,h,Sound.pure fun hh a w loc B hv _ => by
  have h1 := hv x (by simp [ho,Op.operands]); rw [hx,rep_int] at h1
  exact ⟨.int k (k.wrap (0 - m)),by simp [execOp,ho,h1,Op.unary,Op.intArith],rep_int.2 rfl⟩⟩
theorem nV {f : FuncId} {first caps : Array Operand} (ho : o.op = .makeFunc (.func f) first caps) (hf : first.size = 0) (h : K (.fn f (caps.toList.map (ev σ))) [] [] = some r)
  (hc : ∀ x ∈ caps,match ev σ x with | .agg _ | .tup _ | .fn _ _ => False | _ => True) : bc P n o σ K r :=
 ⟨_,_,_,h,Sound.pure fun hh a w loc B hv _ => by
  have hf' : first = #[] := by simpa using hf
  subst hf'
  refine ⟨.func (.func f) #[] (caps.map a.eval),by simp [execOp,ho,Instr.makeFunc],?_⟩
  refine ⟨caps.map a.eval,rfl,?_⟩
  have : ∀ l : List Operand,(∀ x ∈ l,x ∈ caps) -> All2 (al w B hh loc) (l.map (ev σ)) (l.map a.eval) := by
   intro l
   induction l with
   | nil => intro _; exact .nil
   | cons x l ih =>
    intro hl
    refine .cons ?_ (ih fun y hy => hl y (by simp [hy]))
    have h1 := hv x (by simp [ho,Op.operands,hl x (by simp)])
    have h2 := hc x (hl x (by simp))
    cases he : ev σ x <;> rw [he] at h1 h2 <;> first | exact h1 | exact h2.elim
  rw [Array.toList_map]
  exact this caps.toList (by simp)⟩
theorem qq {x : Operand} {i : Nat} {vs : List A} {v : A} (ho : o.op = .extract x i) (hx : ev σ x = .tup vs) (hi : vs[i]? = some v) (h : K v [] [] = some r) : bc P n o σ K r :=
 ⟨_,_,_,h,Sound.pure fun hh a w loc B hv _ => by
  have h1 := hv x (by simp [ho,Op.operands]); rw [hx,ui] at h1
  obtain ⟨us,hu,h2⟩ := h1
  obtain ⟨u,hu2,h3⟩ := h2.get hi
  refine ⟨u,?_,bZ h3⟩
  have : us[i]? = some u := by simpa using hu2
  simp [execOp,ho,hu,Instr.extract,this]⟩
theorem qu {x : Operand} {t : TypeId} {s : ByteArray} {c : Call} (ho : o.op = .call c) (hc : c.callee = .builtin .len) (ha : c.args.toList = [x]) (ht : c.argTypes.toList = [t]) (hu : P.underlying t = some .string)
  (hx : ev σ x = .d (.str s)) (h : K (.d (.int .i64 (s.size : Int))) [] [] = some r) : bc P n o σ K r :=
 ⟨_,_,_,h,Sound.pure fun hh a w loc B hv _ => by
  have ha' : c.args = #[x] := by rw [<- ha]
  have ht' : c.argTypes = #[t] := by rw [<- ht]
  have h1 := hv x (by simp [ho,Op.operands,Call.operands,hc,ha']); rw [hx,rep_str] at h1
  exact ⟨.int .i64 (s.size : Int),by simp [execOp,ho,resolve,hc,ha',ht',invoke,builtin,Builtin.len_,run_underlying hu,h1,goInt],rep_int.2 rfl⟩⟩
theorem wd {x y : Operand} {k k' : IntKind} {p q : Int} {c : Call} (ho : o.op = .call c) (hc : c.callee = .builtin .min) (ha : c.args.toList = [x,y])
  (hx : ev σ x = .d (.int k p)) (hy : ev σ y = .d (.int k' q)) (h : K (.d (.int k (mnI p q))) [] [] = some r) : bc P n o σ K r :=
 ⟨_,_,_,h,Sound.pure fun hh a w loc B hv _ => by
  have ha' : c.args = #[x,y] := by rw [<- ha]
  have h1 := hv x (by simp [ho,Op.operands,Call.operands,hc,ha']); rw [hx,rep_int] at h1
  have h2 := hv y (by simp [ho,Op.operands,Call.operands,hc,ha']); rw [hy,rep_int] at h2
  exact ⟨.int k (mnI p q),by simp [execOp,ho,resolve,hc,ha',invoke,builtin,Builtin.min_,Builtin.min2,h1,h2,mnI],rep_int.2 rfl⟩⟩
theorem wU {s : ByteArray} {i : Int} (h0 : 0 <= i) (h1 : i < (s.size : Int)) : ∃ b : UInt8,s[i.toNat]? = some b /\ bt s i = (b.toNat : Int) := by
 have hi : i.toNat < s.size := by omega
 refine ⟨s[i.toNat],by simp [hi],?_⟩
 unfold bt
 have : s.data.toList.getD i.toNat 0 = s[i.toNat] := by
  rw [List.getD_eq_getElem?_getD,Array.getElem?_toList]
  have : s.data[i.toNat]? = some s[i.toNat] := by
   rw [Array.getElem?_eq_getElem (by exact hi)]; rfl
  rw [this]; rfl
 rw [this]
theorem tp {t : TypeId} {x ix : Operand} {s : ByteArray} {k : IntKind} {i : Int} (ho : o.op = .index t x ix) (hu : P.underlying t = some .string) (hx : ev σ x = .d (.str s)) (hi : ev σ ix = .d (.int k i))
  (hb : (decide (0 <= i) && decide (i < (s.size : Int))) = true) (h : K (.d (.int .u8 (bt s i))) [] [] = some r) : bc P n o σ K r :=
 ⟨_,_,_,h,Sound.pure fun hh a w loc B hv _ => by
  have h1 := hv x (by simp [ho,Op.operands]); rw [hx,rep_str] at h1
  have h2 := hv ix (by simp [ho,Op.operands]); rw [hi,rep_int] at h2
  simp only [Bool.and_eq_true,decide_eq_true_eq] at hb
  obtain ⟨b,hg,hbt⟩ := wU hb.1 hb.2
  refine ⟨.int .u8 (bt s i),?_,rep_int.2 rfl⟩
  simp [execOp,ho,Instr.index,h1,h2,asIntOf,run_underlying hu,hb.1,hg,hbt]⟩
theorem dG {op : BinOp} {t : TypeId} {x y : Operand} {k k' : IntKind} {a b : Int} {w : World} : (eqGuard op t x y (.int k a) (.int k' b)).run P w = .ok () w := by
 cases op <;> simp [eqGuard]
theorem dH {op : BinOp} {t : TypeId} {x y : Operand} {a b : ByteArray} {w : World} : (eqGuard op t x y (.string a) (.string b)).run P w = .ok () w := by
 cases op <;> simp [eqGuard]
theorem ga {op : BinOp} {t : TypeId} {x y : Operand} {a b : Bool} {w : World} : (eqGuard op t x y (.bool a) (.bool b)).run P w = .ok () w := by
 cases op <;> simp [eqGuard]
theorem uM {op : BinOp} {k : IntKind} {x y : Int} {K' : D -> Option R} (h : uK op k x y K' = some r) :
  ∃ d,K' d = some r /\ cX d /\ ∀ (w : World) (B : Nat -> Prop) (t : TypeId),op ≠ .shl -> op ≠ .shr -> ∃ v,(binOp op t (.int k x) (.int k y)).run P w = .ok v w /\ ac w B d v [] := by
 cases op <;> simp only [uK] at h
 case add => exact ⟨_,h,trivial,fun w B t _ _ => ⟨_,by simp [binOp,Op.intArith]; rfl,by simp [ac]⟩⟩
 case sub => exact ⟨_,h,trivial,fun w B t _ _ => ⟨_,by simp [binOp,Op.intArith]; rfl,by simp [ac]⟩⟩
 case mul => exact ⟨_,h,trivial,fun w B t _ _ => ⟨_,by simp [binOp,Op.intArith]; rfl,by simp [ac]⟩⟩
 case quo =>
  obtain ⟨h1,h2⟩ := aE h
  exact ⟨_,h2,trivial,fun w B t _ _ => ⟨.int k (k.wrap (x.tdiv y)),by simp at h1; simp [binOp,Op.intDiv,h1],by simp [ac]⟩⟩
 case rem =>
  obtain ⟨h1,h2⟩ := aE h
  exact ⟨_,h2,trivial,fun w B t _ _ => ⟨.int k (x.tmod y),by simp at h1; simp [binOp,Op.intDiv,h1],by simp [ac]⟩⟩
 case and => exact ⟨_,h,trivial,fun w B t _ _ => ⟨_,by simp [binOp,Op.intBits]; rfl,by simp [ac]⟩⟩
 case or => exact ⟨_,h,trivial,fun w B t _ _ => ⟨_,by simp [binOp,Op.intBits]; rfl,by simp [ac]⟩⟩
 case xor => exact ⟨_,h,trivial,fun w B t _ _ => ⟨_,by simp [binOp,Op.intBits]; rfl,by simp [ac]⟩⟩
 case eql => exact ⟨_,h,trivial,fun w B t _ _ => ⟨_,by simp [binOp,Op.intCmp]; rfl,by simp [ac]⟩⟩
 case neq => exact ⟨_,h,trivial,fun w B t _ _ => ⟨_,by simp [binOp,Op.intCmp]; rfl,by simp [ac]⟩⟩
 case lss => exact ⟨_,h,trivial,fun w B t _ _ => ⟨_,by simp [binOp,Op.intCmp]; rfl,by simp [ac]⟩⟩
 case leq => exact ⟨_,h,trivial,fun w B t _ _ => ⟨_,by simp [binOp,Op.intCmp]; rfl,by simp [ac]⟩⟩
 case gtr => exact ⟨_,h,trivial,fun w B t _ _ => ⟨_,by simp [binOp,Op.intCmp]; rfl,by simp [ac]⟩⟩
 case geq => exact ⟨_,h,trivial,fun w B t _ _ => ⟨_,by simp [binOp,Op.intCmp]; rfl,by simp [ac]⟩⟩
 all_goals cases h
theorem m9 {w : World} {B : Nat -> Prop} {h : Ups} {loc : Nat -> Loc} {v : Value} {k : IntKind} {m : Int} (hr : al w B h loc (.d (.int k m)) v) : v = .int k m := (rep_int (h := h) (loc := loc)).1 hr
theorem na {w : World} {B : Nat -> Prop} {h : Ups} {loc : Nat -> Loc} {v : Value} {s : ByteArray} (hr : al w B h loc (.d (.str s)) v) : v = .string s := (rep_str (h := h) (loc := loc)).1 hr
theorem kF {w : World} {B : Nat -> Prop} {h : Ups} {loc : Nat -> Loc} {v : Value} {b : Bool} (hr : al w B h loc (.d (.bool b)) v) : v = .bool b := (rep_bool (h := h) (loc := loc)).1 hr
theorem mW {w : World} {t : TypeId} {vs : Array Value} {k : Nat} {v : Value} (hg : vs[k]? = some v) {td : TypeDesc} (hu : P.underlying t = some td) (ht : td = .bool \/ td = .string \/ ∃ q,td = .int q) :
  (Go.part t vs k).run P w = .ok v w := by
 have : (isAgg t).run P w = .ok false w := by
  simp only [isAgg,Sem.run_bind,run_underlying hu,Result.andThen_ok]
  rcases ht with rfl | rfl | ⟨q,rfl⟩ <;> rfl
 simp [Go.part,this,hg]
theorem gp {w : World} {B : Nat -> Prop} {h : Ups} {loc : Nat -> Loc} {vs us : Array Value} {d : Nat} : ∀ (fs : List Field) (k : Nat) (xs ys : List A) (b : Bool),
  (∀ (i : Nat) (f : Field), fs[i]? = some f → f.name ≠ "_" ∧ f.offset = k + i) → All2 (al w B h loc) xs (vs.toList.drop k) → All2 (al w B h loc) ys (us.toList.drop k) →
  ba P fs xs ys = some b -> (Op.eqFields (d + 1) vs us fs).run P w = .ok b w
 | [],k,[],[],b,_,_,_,he => by simp [ba] at he; simp [Op.eqFields,he]
 | [],k,_ :: _,_,b,_,_,_,he => by simp [ba] at he
 | [],k,[],_ :: _,b,_,_,_,he => by simp [ba] at he
 | f :: fs,k,[],_,b,_,_,_,he => by simp [ba] at he
 | f :: fs,k,x :: xs,[],b,_,_,_,he => by cases x <;> simp [ba] at he
 | f :: fs,k,x :: xs,y :: ys,b,hf,h1,h2,he => by
  have hf0 := hf 0 f rfl
  have hft : ∀ (i : Nat) (g : Field), fs[i]? = some g → g.name ≠ "_" ∧ g.offset = k + 1 + i := fun i g hg => by
   have := hf (i + 1) g (by simpa using hg); exact ⟨this.1,by omega⟩
  cases hv : vs.toList.drop k with
  | nil => rw [hv] at h1; cases h1
  | cons v vr =>
   cases hu : us.toList.drop k with
   | nil => rw [hu] at h2; cases h2
   | cons u ur =>
    rw [hv] at h1; rw [hu] at h2
    cases h1 with | cons a1 t1 =>
    cases h2 with | cons a2 t2 =>
    have e1 : vs.toList.drop (k + 1) = vr := by rw [<- List.drop_drop,hv]; rfl
    have e2 : us.toList.drop (k + 1) = ur := by rw [<- List.drop_drop,hu]; rfl
    have g1 : vs[k]? = some v := by
     have : (vs.toList.drop k)[0]? = some v := by rw [hv]; rfl
     rw [List.getElem?_drop] at this; simpa using this
    have g2 : us[k]? = some u := by
     have : (us.toList.drop k)[0]? = some u := by rw [hu]; rfl
     rw [List.getElem?_drop] at this; simpa using this
    have hoff : f.offset = k := by simpa using hf0.2
    have fin : ∀ (q t : Bool) (td : TypeDesc),P.underlying f.type = some td -> (td = .bool \/ td = .string \/ ∃ q,td = .int q) -> (Op.equalIn (d + 1) f.type v u).run P w = .ok q w -> ba P fs xs ys = some t -> b = (q && t) -> (Op.eqFields (d + 1) vs us (f :: fs)).run P w = .ok b w := by
     intro q t td htd htd' hq ht hb
     have ih := gp (d := d) fs (k + 1) xs ys t hft (by rw [e1]; exact t1) (by rw [e2]; exact t2) ht
     simp only [Op.eqFields,if_pos hf0.1,hoff,Sem.run_bind,mW g1 htd htd',mW g2 htd htd',hq,Result.andThen_ok]
     cases q
     ·simp [hb]
     ·simp [hb,ih]
    cases x with
    | d dx =>
     cases y with
     | d dy =>
      simp only [ba] at he
      split at he
      ·rename_i kk hut
       split at he
       ·rename_i j p k' q
        split at he
        ·rename_i hjk
         simp only [decide_eq_true_eq] at hjk
         subst hjk
         cases hq : ba P fs xs ys with
         | none => rw [hq] at he; simp at he
         | some t =>
          rw [hq] at he; simp at he
          refine fin (p == q) t _ hut (.inr (.inr ⟨_,rfl⟩)) ?_ hq he.symm
          rw [m9 a1,m9 a2]
          exact run_equalIn_int w d f.type j kk p q hut
        ·cases he
       ·cases he
      ·rename_i hut
       split at he
       ·rename_i p q
        cases hq : ba P fs xs ys with
        | none => rw [hq] at he; simp at he
        | some t =>
         rw [hq] at he; simp at he
         refine fin (kc p q) t _ hut (.inr (.inl rfl)) ?_ hq he.symm
         rw [na a1,na a2]
         exact run_equalIn_string w d f.type p q hut
       ·cases he
      ·rename_i hut
       split at he
       ·rename_i p q
        cases hq : ba P fs xs ys with
        | none => rw [hq] at he; simp at he
        | some t =>
         rw [hq] at he; simp at he
         refine fin (p == q) t _ hut (.inl rfl) ?_ hq he.symm
         rw [kF a1,kF a2]
         exact run_equalIn_bool' w d f.type p q hut
       ·cases he
      ·cases he
     | _ => simp [ba] at he
    | _ => simp [ba] at he
theorem jJ {fs : List Field} {p : Field × Nat -> Bool} : ∀ (k : Nat),(fs.zipIdx k).all p = true -> ∀ (i : Nat) (f : Field),fs[i]? = some f -> p (f,k + i) = true := by
 induction fs with
 | nil => intro k _ i f hf; simp at hf
 | cons g fs ih =>
  intro k h i f hf
  simp only [List.zipIdx_cons,List.all_cons,Bool.and_eq_true] at h
  cases i with
  | zero => simp at hf; subst hf; simpa using h.1
  | succ i => simp at hf; have := ih (k + 1) h.2 i f hf; rw [show k + (i + 1) = k + 1 + i by omega]; exact this
theorem uC {op : BinOp} {t : TypeId} {x y : Operand} {p q : A} {K' : D -> Option R} (h : se P op t p q K' = some r) :
  ∃ d,K' d = some r /\ cX d /\ ∀ (w : World) (B : Nat -> Prop) (hh : Ups) (loc : Nat -> Loc) (v u : Value),aJ w B hh loc p v -> aJ w B hh loc q u ->
   (eqGuard op t x y v u).run P w = .ok () w /\ ∃ z,(binOp op t v u).run P w = .ok z w /\ ac w B d z [] := by
 unfold se at h
 split at h
 ·rename_i k a k' b
  have base : ∀ (w : World) (B : Nat -> Prop) (hh : Ups) (loc : Nat -> Loc) (v u : Value),aJ w B hh loc (.d (.int k a)) v -> aJ w B hh loc (.d (.int k' b)) u -> v = .int k a /\ u = .int k' b :=
   fun w B hh loc v u h1 h2 => ⟨rep_int.1 h1,rep_int.1 h2⟩
  split at h
  ·obtain ⟨h1,h2⟩ := aE h
   simp at h1
   refine ⟨_,h2,trivial,fun w B hh loc v u hv hu => ?_⟩
   obtain ⟨rfl,rfl⟩ := base w B hh loc v u hv hu
   exact ⟨dG,_,by simp [binOp,Op.shift,show ¬ b < 0 by omega]; rfl,by simp [ac]⟩
  ·obtain ⟨h1,h2⟩ := aE h
   simp at h1
   refine ⟨_,h2,trivial,fun w B hh loc v u hv hu => ?_⟩
   obtain ⟨rfl,rfl⟩ := base w B hh loc v u hv hu
   exact ⟨dG,_,by simp [binOp,Op.shift,show ¬ b < 0 by omega]; rfl,by simp [ac]⟩
  ·rename_i h5 h6
   split at h
   ·rename_i hk
    simp only [decide_eq_true_eq] at hk
    subst hk
    obtain ⟨d,hd,hval,hz⟩ := uM (P := P) h
    refine ⟨d,hd,hval,fun w B hh loc v u hv hu => ?_⟩
    obtain ⟨rfl,rfl⟩ := base w B hh loc v u hv hu
    exact ⟨dG,hz w B t (fun e => h5 e) (fun e => h6 e)⟩
   ·cases h
 ·rename_i a b
  have base : ∀ (w : World) (B : Nat -> Prop) (hh : Ups) (loc : Nat -> Loc) (v u : Value),aJ w B hh loc (.d (.str a)) v -> aJ w B hh loc (.d (.str b)) u -> v = .string a /\ u = .string b :=
   fun w B hh loc v u h1 h2 => ⟨rep_str.1 h1,rep_str.1 h2⟩
  split at h
  ·obtain ⟨h1,h2⟩ := aE h
   simp only [decide_eq_true_eq] at h1
   refine ⟨_,h2,trivial,fun w B hh loc v u hv hu => ?_⟩
   obtain ⟨rfl,rfl⟩ := base w B hh loc v u hv hu
   refine ⟨dH,.string (a ++ b),?_,by simp [ac]⟩
   have h3 : (a.size + b.size : Nat) <= 4294967296 := by rw [pE] at h1; omega
   simp only [binOp]
   rw [run_string_add_sum _ a b (by omega)]
  ·refine ⟨_,h,trivial,fun w B hh loc v u hv hu => ?_⟩
   obtain ⟨rfl,rfl⟩ := base w B hh loc v u hv hu
   exact ⟨dH,.bool (kc a b),by simp [binOp,Op.stringOp,kc],by simp [ac]⟩
  ·refine ⟨_,h,trivial,fun w B hh loc v u hv hu => ?_⟩
   obtain ⟨rfl,rfl⟩ := base w B hh loc v u hv hu
   exact ⟨dH,.bool (!kc a b),by simp [binOp,Op.stringOp,kc],by simp [ac]⟩
  ·cases h
 ·rename_i a b
  have base : ∀ (w : World) (B : Nat -> Prop) (hh : Ups) (loc : Nat -> Loc) (v u : Value),aJ w B hh loc (.d (.bool a)) v -> aJ w B hh loc (.d (.bool b)) u -> v = .bool a /\ u = .bool b :=
   fun w B hh loc v u h1 h2 => ⟨rep_bool.1 h1,rep_bool.1 h2⟩
  split at h
  ·split at h
   ·rename_i hut
    refine ⟨_,h,trivial,fun w B hh loc v u hv hu => ?_⟩
    obtain ⟨rfl,rfl⟩ := base w B hh loc v u hv hu
    refine ⟨ga,.bool (a == b),?_,by simp [ac]⟩
    simp [binOp,Op.equal,Op.maxDepth,run_equalIn_bool' w 9999 t a b hut]
   ·cases h
  ·split at h
   ·rename_i hut
    refine ⟨_,h,trivial,fun w B hh loc v u hv hu => ?_⟩
    obtain ⟨rfl,rfl⟩ := base w B hh loc v u hv hu
    refine ⟨ga,.bool (!(a == b)),?_,by simp [ac]⟩
    simp [binOp,Op.equal,Op.maxDepth,run_equalIn_bool' w 9999 t a b hut]
   ·cases h
  ·cases h
 ·rename_i xs ys
  split at h
  ·rename_i fs hut
   split at h
   ·rename_i b he hc
    have heq : ∀ (w : World) (B : Nat -> Prop) (hh : Ups) (loc : Nat -> Loc) (v u : Value),aJ w B hh loc (.agg xs) v -> aJ w B hh loc (.agg ys) u ->
      ∃ vs us,v = .agg vs /\ u = .agg us /\ (∀ (o : BinOp) (x y : Operand),(eqGuard o t x y (.agg vs) (.agg us)).run P w = .ok () w) /\ (Op.equalIn 10000 t (.agg vs) (.agg us)).run P w = .ok b w := by
     intro w B hh loc v u hv hu
     obtain ⟨vs,rfl,hv⟩ := hv
     obtain ⟨us,rfl,hu⟩ := hu
     unfold uG at he
     rw [hut] at he
     simp only [Bool.and_eq_true,Bool.not_eq_true'] at he
     have hfo : P.fieldsOf t = fs := by simp [Program.fieldsOf,hut]
     refine ⟨vs,us,rfl,rfl,fun o x y => run_eqGuard_agg w o t x y vs us he.1.2,?_⟩
     rw [run_equalIn_struct w 9999 t vs us (by rw [hfo]; exact hut) he.1.1,hfo]
     refine gp (d := 9998) fs.toList 0 xs ys b (fun i f hf => ?_) (by simpa using hv) (by simpa using hu) hc
     have := jJ 0 he.2 i f hf
     simp only [Bool.and_eq_true] at this
     exact ⟨by simpa using this.1,by simpa using this.2⟩
    split at h
    ·refine ⟨_,h,trivial,fun w B hh loc v u hv hu => ?_⟩
     obtain ⟨vs,us,rfl,rfl,hg,hq⟩ := heq w B hh loc v u hv hu
     exact ⟨hg _ _ _,.bool b,by rw [run_eql_struct,hq]; rfl,by simp [ac]⟩
    ·refine ⟨_,h,trivial,fun w B hh loc v u hv hu => ?_⟩
     obtain ⟨vs,us,rfl,rfl,hg,hq⟩ := heq w B hh loc v u hv hu
     exact ⟨hg _ _ _,.bool (!b),by rw [run_neq_struct,hq]; rfl,by simp [ac]⟩
    ·cases h
   ·cases h
  ·cases h
 ·cases h
theorem wa {op : BinOp} {t yt : TypeId} {x y : Operand} (ho : o.op = .binOp op t x y yt) (h : (se P op t (ev σ x) (ev σ y) fun r => K (.d r) [] []) = some r) : bc P n o σ K r := by
 obtain ⟨d,hd,hval,hz⟩ := uC (x := x) (y := y) h
 refine ⟨_,_,_,hd,Sound.pure fun hh a w loc B hv _ => ?_⟩
 obtain ⟨hg,z,hr,hrep⟩ := hz w B hh loc _ _ (hv x (by simp [ho,Op.operands])) (hv y (by simp [ho,Op.operands]))
 exact ⟨z,by simp [execOp,ho,hg,hr],hval,hrep⟩
end ops
section ops
variable {P : Program} {cf : Cfg} {call : Nat -> List D -> Option Ret} {n : Nat} {o : Oper} {σ : St} {R : Type} {K : A -> Ups -> List Nat -> Option R} {r : R}
theorem pX {t : TypeId} {cs : List A} {v : A} (h : mkA P t cs = some v) {w : World} {B : Nat -> Prop} {hh : Ups} {loc : Nat -> Loc} {vs : List Value} (hc : All2 (al w B hh loc) cs vs) :
  (∃ fs,P.underlying t = some (.struct fs) /\ v = .agg cs /\ aJ w B hh loc v (.agg vs.toArray)) \/
  (∃ td c u,P.underlying t = some td /\ (∀ fs,td ≠ .struct fs) /\ (∀ n e,td ≠ .array n e) /\ cs = [c] /\ v = c /\ vs = [u] /\ aJ w B hh loc v u) := by
 unfold mkA at h
 split at h
 ·rename_i fs hu
  cases h
  exact .inl ⟨fs,hu,rfl,vs.toArray,rfl,hc⟩
 ·cases h
 ·rename_i td h1 h2 hu
  split at h
  ·rename_i c
   cases h
   cases hc with | cons a t =>
   cases t
   exact .inr ⟨td,_,_,hu,fun fs e => h1 fs e,fun n e e' => h2 n e e',rfl,rfl,rfl,pp a⟩
  ·cases h
 ·cases h
theorem jR {t : TypeId} {fs : Array Field} (hu : P.underlying t = some (.struct fs)) (w : World) : (isAgg t).run P w = .ok true w := by
 simp [isAgg,run_underlying hu]
theorem pc {t : TypeId} {td : TypeDesc} (hu : P.underlying t = some td) (h1 : ∀ fs,td ≠ .struct fs) (h2 : ∀ n e,td ≠ .array n e) (w : World) : (isAgg t).run P w = .ok false w := by
 simp only [isAgg,Sem.run_bind,run_underlying hu,Result.andThen_ok]
 cases td <;> first | rfl | exact absurd rfl (h1 _) | exact absurd rfl (h2 _ _)
theorem pI (a : Array Value) (i k : Nat) : (a.extract i (i + k)).toList = (a.toList.drop i).take k := by
 simp [Array.toList_extract,List.take_drop]
theorem tn {s : TypeId} {x : Operand} {f sz : Nat} {fs : Array Field} {fd : Field} {cs : List A} {v : A} (ho : o.op = .field s x f) (hu : P.underlying s = some (.struct fs)) (hx : ev σ x = .agg cs)
  (hf : fs[f]? = some fd) (hs : tsz P fd.type = some sz) (hl : fd.offset + sz <= cs.length) (hv : mkA P fd.type ((cs.drop fd.offset).take sz) = some v) (h : K v [] [] = some r) : bc P n o σ K r :=
 ⟨_,_,_,h,Sound.pure fun hh a w loc B hr _ => by
  have h1 := hr x (by simp [ho,Op.operands]); rw [hx,wL] at h1
  obtain ⟨vs,hvs,hc⟩ := h1
  have hc' := (hc.drop fd.offset).take sz
  rcases pX hv hc' with ⟨fs',hu',rfl,hrep⟩ | ⟨td,c,u,hu',n1,n2,hcs,rfl,hvs',hrep⟩
  ·refine ⟨_,?_,hrep⟩
   simp only [execOp,ho,Instr.field,Sem.run_bind,run_underlying hu,Result.andThen_ok,hf,hvs,Go.asAgg,Sem.run_pure,Go.part,jR hu',if_true,aP hs]
   congr 3
   apply Array.ext'
   rw [pI]
  ·refine ⟨u,?_,hrep⟩
   have hg : vs[fd.offset]? = some u := by
    have : ((vs.toList.drop fd.offset).take sz)[0]? = some u := by rw [hvs']; rfl
    rw [List.getElem?_take] at this
    split at this
    ·rw [List.getElem?_drop] at this; simpa using this
    ·cases this
   simp [execOp,ho,Instr.field,run_underlying hu,hf,hvs,Go.asAgg,Go.part,pc hu' n1 n2,hg]⟩
theorem nU {s : TypeId} {x : Operand} {f sz id i off : Nat} {fs : Array Field} {fd : Field} (ho : o.op = .fieldAddr s x f) (hu : P.underlying s = some (.struct fs)) (hx : ev σ x = .ref id i off)
  (hf : fs[f]? = some fd) (hs : tsz P fd.type = some (sz + 1)) (h : K (.ref id i (off + fd.offset)) [] [] = some r) : bc P n o σ K r :=
 ⟨_,_,_,h,Sound.pure fun hh a w loc B hr _ => by
  have h1 := hr x (by simp [ho,Op.operands]); rw [hx] at h1
  obtain ⟨⟨ad,had⟩,ob,hob,hb⟩ := h1
  refine ⟨.pointer (some (ad.add fd.offset)),?_,⟨_,rfl⟩,ob,hob,fun blk hblk => ?_⟩
  ·simp [execOp,ho,Instr.fieldAt,run_underlying hu,hf,had,Instr.sureAddr,fieldPlace,aP hs]
  ·obtain ⟨b,base,sz',hl,hv⟩ := hb blk hblk
   rw [had] at hv
   injection hv with hv; injection hv with hv
   refine ⟨b,base,sz',hl,?_⟩
   rw [hv,cH]
   simp [Nat.add_assoc]⟩
theorem qr {s : TypeId} {x : Operand} {f sz i off : Nat} {z : Z} {xs : List D} {fs : Array Field} {fd : Field} (ho : o.op = .fieldAddr s x f) (hu : P.underlying s = some (.struct fs)) (hx : ev σ x = .rp z xs i off)
  (hf : fs[f]? = some fd) (hs : tsz P fd.type = some (sz + 1)) (h : K (.rp z xs i (off + fd.offset)) [] [] = some r) : bc P n o σ K r :=
 ⟨_,_,_,h,Sound.pure fun hh a w loc B hr _ => by
  have h1 := hr x (by simp [ho,Op.operands]); rw [hx] at h1
  obtain ⟨b,base,hv,hB,hz,he⟩ := h1
  refine ⟨.pointer (some ⟨b,base + i * z.1 + (off + fd.offset),none⟩),?_,b,base,rfl,hB,hz,he⟩
  simp [execOp,ho,Instr.fieldAt,run_underlying hu,hf,hv,Instr.sureAddr,fieldPlace,aP hs,cH,Nat.add_assoc]⟩
theorem wh {e : TypeId} {m : Nat} (h : (tsz P e == some m) = true) : tsz P e = some m := by simpa using h
theorem qt {t e : TypeId} {x ix : Operand} {k : IntKind} {i : Int} {z : Z} {xs : List D} (ho : o.op = .indexAddr t x ix) (hu : P.underlying t = some (.slice e)) (hx : ev σ x = .d (.rs z xs)) (hi : ev σ ix = .d (.int k i))
  (hz : (tsz P e == some z.1) = true) (hb : (decide (0 <= i) && decide (i < (xs.length : Int))) = true) (h : K (.rp z xs i.toNat 0) [] [] = some r) : bc P n o σ K r :=
 ⟨_,_,_,h,Sound.pure fun hh a w loc B hr _ => by
  have h1 := hr x (by simp [ho,Op.operands]); rw [hx] at h1
  have h2 := hr ix (by simp [ho,Op.operands]); rw [hi,rep_int] at h2
  simp only [Bool.and_eq_true,decide_eq_true_eq] at hb
  have h3 := h1.2
  simp only [ac,true_and] at h3
  have hne : xs ≠ [] := by intro e; subst e; simp at hb; omega
  rcases h3 with ⟨h4,_⟩ | ⟨b,off,cap,hv,hc,hz2,hB,he⟩
  ·exact absurd h4 hne
  ·refine ⟨.pointer (some ⟨b,off + i.toNat * z.1 + 0,none⟩),?_,b,off,rfl,hB hne,hz2,he⟩
   simp [execOp,ho,Instr.indexAt,h2,asIntOf,run_underlying hu,hv,hb.1,hb.2,aP (wh hz),cH]⟩
theorem te {l : Loc} {z m : Nat} {rng : Option (Nat × Nat)} {v : Value} (h : dI l z m rng v) (hn : 0 < bz m rng) :
  ∃ b base sz cap,l = .at b base sz /\ bz m rng <= cap /\ v = .slice (some ⟨b,base + (rng.getD (0,m)).1 * z,none⟩) (bz m rng) cap /\ (rng.getD (0,m)).1 + bz m rng <= m /\ base + (rng.getD (0,m)).1 * z + cap * z <= sz := by
 cases l with
 | nil =>
  cases rng with
  | none => obtain ⟨h1,_⟩ := h; simp [bz,h1] at hn
  | some p => obtain ⟨o,m'⟩ := p; obtain ⟨_,h1,_⟩ := h; simp [bz,h1] at hn
 | «at» b base sz =>
  cases rng with
  | none =>
   obtain ⟨a,cap,hv,hc,ha⟩ := h
   simp only [bz] at hn ⊢
   obtain ⟨rfl,hs⟩ := ha (by omega)
   exact ⟨b,base,sz,cap,rfl,hc,by simpa using hv,by simp,by simpa using hs⟩
  | some p =>
   obtain ⟨o,m'⟩ := p
   obtain ⟨h0,a,cap,hv,⟨hc,_⟩,ha⟩ := h
   simp only [bz] at hn ⊢
   obtain ⟨rfl,hs⟩ := ha (by omega)
   exact ⟨b,base,sz,cap,rfl,hc,by simpa using hv,by simpa using h0,by simpa using hs⟩
theorem jg {t e : TypeId} {x ix : Operand} {k : IntKind} {i : Int} {z : Z} {xs : List D} {id : Nat} {rng : Option (Nat × Nat)} {blk : Blk} (ho : o.op = .indexAddr t x ix) (hu : P.underlying t = some (.slice e)) (hx : ev σ x = .asl id rng) (hi : ev σ ix = .d (.int k i))
  (hg : ae σ.heap id = some blk) (hblk : blk = .arr z xs \/ blk = .fz z xs) (hz : (tsz P e == some z.1) = true) (hb : 0 <= i /\ i < (bz xs.length rng : Nat))
  (h : K (.ref id ((rng.getD (0,xs.length)).1 + i.toNat) 0) [] [id] = some r) : bc P n o σ K r :=
 ⟨_,_,_,h,Sound.pure fun hh a w loc B hr hf => by
  have h1 := hr x (by simp [ho,Op.operands]); rw [hx] at h1
  have h2 := hr ix (by simp [ho,Op.operands]); rw [hi,rep_int] at h2
  obtain ⟨_,ob,hob,hbb⟩ := h1
  have hfid := hf id (by simp)
  rw [hget_some.1 hg] at hfid
  rw [hfid] at hob
  cases hob
  obtain ⟨m,hm,hs⟩ := hbb blk rfl
  have hml : m = xs.length := by rcases hblk with rfl | rfl <;> simp [aI] at hm <;> exact hm.symm
  have hzz : b9 blk = z.1 := by rcases hblk with rfl | rfl <;> rfl
  subst hml
  rw [hzz] at hs
  obtain ⟨b,base,sz,cap,hl,hc,hv,_,_⟩ := te hs (by omega)
  refine ⟨.pointer (some ⟨b,base + (rng.getD (0,xs.length)).1 * z.1 + i.toNat * z.1,none⟩),?_,⟨_,rfl⟩,some blk,hfid,fun blk' hb' => ?_⟩
  ·simp [execOp,ho,Instr.indexAt,h2,asIntOf,run_underlying hu,hv,hb.1,hb.2,aP (wh hz),cH]
  ·cases hb'
   exact ⟨b,base,sz,hl,by rw [hzz,Nat.add_mul]; simp [Nat.add_assoc]⟩⟩
end ops
theorem tV (off : Nat) : ∀ (vs : List Value) (k : Nat) (cells : Array Value),off + k + vs.length <= cells.size ->
  ((vs.zipIdx k).foldl (fun cs (p : Value × Nat) => cs.setIfInBounds (off + p.2) p.1) cells).toList = cells.toList.take (off + k) ++ vs ++ cells.toList.drop (off + k + vs.length)
 | [],k,cells,h => by simp
 | v :: vs,k,cells,h => by
  simp only [lnC] at h
  rw [List.zipIdx_cons,List.foldl_cons,tV off vs (k + 1) _ (by simp; omega)]
  have := list_seg_step cells.toList (off + k) v vs (by simp; omega)
  simpa [Array.toList_setIfInBounds,Nat.add_assoc] using this
theorem oU {place : Nat -> Option (Nat × Nat)} {cells : Array Value} {i off size : Nat} {v : Value} {rest : List (Nat × Value)} (hp : place i = some (off,size)) (hs : v.cells.size = size) (hl : off + size <= cells.size) :
  Instr.fill place cells ((i,v) :: rest) = Instr.fill place (cells.toList.take off ++ v.cells.toList ++ cells.toList.drop (off + size)).toArray rest := by
 subst hs
 simp only [Instr.fill,hp]
 rw [if_neg (by simp; omega)]
 congr 1
 have := tV off v.cells.toList 0 cells (by simpa using hl)
 apply Array.ext'
 rw [<- Array.foldl_toList,Array.toList_zipIdx]
 simpa using this
section ops
variable {P : Program} {cf : Cfg} {call : Nat -> List D -> Option Ret} {n : Nat} {o : Oper} {σ : St} {R : Type} {K : A -> Ups -> List Nat -> Option R} {r : R}
theorem tw {w : World} {B : Nat -> Prop} {x : D} {v : Value} {o : List Res} (hx : cX x) (h : ac w B x v o) : eE v := by
 cases x <;> first | exact hx.elim | (simp only [ac] at h; first | (obtain ⟨rfl,_⟩ := h; trivial) | skip)
 obtain ⟨_,⟨_,a,cap,rfl⟩ | ⟨b,off,cap,rfl,_⟩⟩ := h <;> trivial
theorem qb {v : Value} (h : eE v) : v.cells = #[v] := by cases v <;> first | rfl | exact h.elim
theorem lv {w : World} {B : Nat -> Prop} {hh : Ups} {loc : Nat -> Loc} {a : A} {v : Value} (h : al w B hh loc a v) (hu : a ≠ .undef) : eE v := by
 cases a with
 | agg cs => exact h.elim
 | tup cs => exact h.elim
 | fn f cs => exact h.elim
 | undef => exact absurd rfl hu
 | d x => exact tw h.1 h.2
 | ref i j k => obtain ⟨⟨b,rfl⟩,_⟩ := h; trivial
 | rp z xs i k => obtain ⟨b,base,rfl,_⟩ := h; trivial
 | asl i rg => obtain ⟨⟨b,x,y,rfl⟩,_⟩ := h; trivial
 | mp i => obtain ⟨⟨b,rfl⟩,_⟩ := h; trivial
theorem ci {w : World} {B : Nat -> Prop} {hh : Ups} {loc : Nat -> Loc} {a : A} {v : Value} (h : aJ w B hh loc a v) (hp : bw a = true) :
  All2 (al w B hh loc) (aC a) v.cells.toList := by
 have one : al w B hh loc a v -> a ≠ .undef -> aC a = [a] -> All2 (al w B hh loc) (aC a) v.cells.toList := by
  intro h1 hu hc
  rw [qb (lv h1 hu),hc]; exact .cons h1 .nil
 cases a with
 | agg cs => obtain ⟨vs,rfl,hc⟩ := h; exact hc
 | tup cs => cases hp
 | fn f cs => cases hp
 | undef => cases hp
 | d x => exact one h (by simp) rfl
 | ref i j k => exact one h (by simp) rfl
 | rp z xs i k => exact one h (by simp) rfl
 | asl i rg => exact one h (by simp) rfl
 | mp i => cases hp
theorem oT {w : World} {B : Nat -> Prop} {hh : Ups} {loc : Nat -> Loc} {fs : Array Field} {a : Act} : ∀ (parts : List (Nat × Operand)) (cs cs' : List A) (cells : Array Value),
  oQ P σ fs cs parts = some cs' -> All2 (al w B hh loc) cs cells.toList -> (∀ p ∈ parts,aJ w B hh loc (ev σ p.2) (a.eval p.2)) ->
  ∃ cells',Instr.fill (fun i => (fs[i]?).bind fun f => (tsz P f.type).map fun s => (f.offset,s)) cells (parts.map fun p => (p.1,a.eval p.2)) = some cells' /\ All2 (al w B hh loc) cs' cells'.toList
 | [],cs,cs',cells,h,hc,_ => by simp [oQ] at h; subst h; exact ⟨cells,rfl,hc⟩
 | (i,x) :: parts,cs,cs',cells,h,hc,hp => by
  simp only [oQ] at h
  split at h
  ·cases h
  ·rename_i f hf
   split at h
   ·cases h
   ·rename_i s hs
    split at h
    ·rename_i hb
     simp only [Bool.and_eq_true,decide_eq_true_eq,beq_iff_eq] at hb
     have hx := hp (i,x) (by simp)
     have hlen := hc.length
     have hsz : (a.eval x).cells.toList.length = s /\ All2 (al w B hh loc) (aC (ev σ x)) (a.eval x).cells.toList := by
      have h1 := ci hx hb.1.1
      exact ⟨by rw [<- h1.length]; exact hb.1.2,h1⟩
     obtain ⟨cells',h1,h2⟩ := oT parts _ cs' (cells.toList.take f.offset ++ (a.eval x).cells.toList ++ cells.toList.drop (f.offset + s)).toArray h
      (by simpa using ((hc.take f.offset).append hsz.2).append (hc.drop (f.offset + s))) (fun p hp' => hp p (by simp [hp']))
     refine ⟨cells',?_,h2⟩
     rw [List.map_cons,oU (off := f.offset) (size := s) (by simp [hf,hs]) (by simpa using hsz.1) (by simpa [hlen] using hb.2)]
     exact h1
    ·cases h
theorem pm : ∀ (fs : List Field),fs.all (fun f => (tsz P f.type).isSome) = true -> ∃ places,fs.mapM (fun f => (P.info? f.type).map fun i => (f.offset,i.size)) = some places /\
  ∀ i : Nat,places[i]? = (fs[i]?).bind fun f => (tsz P f.type).map fun s => (f.offset,s)
 | [],_ => ⟨[],rfl,fun i => by simp⟩
 | f :: fs,h => by
  simp only [List.all_cons,Bool.and_eq_true] at h
  obtain ⟨places,h1,h2⟩ := pm fs h.2
  have h3 := h.1
  unfold tsz at h3
  cases hi : P.info? f.type with
  | none => rw [hi] at h3; simp at h3
  | some ti =>
   refine ⟨(f.offset,ti.size) :: places,?_,fun i => ?_⟩
   ·simp [List.mapM_cons,hi,h1]
   ·cases i with
    | zero => simp [tsz,hi]
    | succ i => simpa using h2 i
theorem tk {t : TypeId} {parts : Array (Nat × Operand)} {z : A} {fs : Array Field} {cs : List A} (ho : o.op = .build t parts) (hz : dd P t = some z) (hu : P.underlying t = some (.struct fs))
  (ha : fs.toList.all (fun f => (tsz P f.type).isSome) = true) (hzp : bw z = true) (hf : oQ P σ fs (aC z) parts.toList = some cs) (h : K (.agg cs) [] [] = some r) : bc P n o σ K r :=
 ⟨_,_,_,h,Sound.pure fun hh a w loc B hr _ => by
  unfold dd at hz
  split at hz
  ·rename_i it hit
   cases hzz : it.zero with
   | none => rw [hzz] at hz; simp at hz
   | some zv =>
    rw [hzz] at hz; simp at hz; subst hz
    have hzr : All2 (al w B hh loc) (aC (iR zv)) zv.cells.toList := ci (fX zv) hzp
    have hpr : ∀ p ∈ parts.toList,aJ w B hh loc (ev σ p.2) (a.eval p.2) := fun p hp => hr p.2 (by simp only [ho,Op.operands]; simp; exact ⟨p.1,by simpa using hp⟩)
    obtain ⟨cells',h1,h2⟩ := oT (a := a) parts.toList _ cs zv.cells hf hzr hpr
    obtain ⟨places,hp1,hp2⟩ := pm (P := P) fs.toList ha
    refine ⟨.agg cells',?_,cells',rfl,h2⟩
    have hb : P.built t (parts.map fun (i,x) => (i,a.eval x)).toList = some cells' := by
     unfold Program.built
     simp only [hit,hu,hzz,hp1]
     have he : (fun (i : Nat) => places.toArray[i]?) = fun (i : Nat) => (fs[i]?).bind fun (f : Field) => (tsz P f.type).map fun s => (f.offset,s) := by
      funext i
      have := hp2 i
      simpa using this
     rw [he,Array.toList_map]
     exact h1
    simp only [execOp,ho,Sem.run_bind,run_build w t _ cells' hb,Result.andThen_ok,Sem.run_pure]
  ·cases hz⟩
end ops
def aZ (w : World) (B : Nat -> Prop) (z : Z) : List D -> List Value -> List Res -> Prop
 | [],fl,o => fl = [] /\ o = []
 | e :: es,fl,o => ∃ vs fr o1 o2,fl = vs ++ fr /\ o = o1 ++ o2 /\ bW w B z e vs o1 /\ aZ w B z es fr o2
theorem bi {w : World} {B : Nat -> Prop} : ∀ {cs : List D} {vs : List Value} {o : List Res},ak w B cs vs o -> vs.length = cs.length
 | [],vs,o,h => by simp only [ak] at h; rw [h.1]; rfl
 | c :: cs,vs,o,h => by
  simp only [ak] at h
  obtain ⟨v,vs',o1,o2,rfl,rfl,_,_,h2⟩ := h
  simp [bi h2]
theorem bq {w : World} {B : Nat -> Prop} {z : Z} {e : D} {vs : List Value} {o : List Res} (h : bW w B z e vs o) : vs.length = z.1 := (bi h.1).trans h.2.1
theorem aw {w : World} {B : Nat -> Prop} {z : Z} : ∀ {es : List D} {fl : List Value} {o : List Res},aZ w B z es fl o -> fl.length = es.length * z.1
 | [],fl,o,h => by rw [h.1]; simp
 | e :: es,fl,o,h => by
  obtain ⟨vs,fr,o1,o2,rfl,rfl,h1,h2⟩ := h
  rw [lnA,bq h1,aw h2,lnC,Nat.succ_mul]; omega
theorem bh {w w' : World} {B B' : Nat -> Prop} {z : Z} (hB : ∀ b,B b -> B' b) : ∀ {es : List D} {fl : List Value} {o : List Res},Same w w' B o -> aZ w B z es fl o -> aZ w' B' z es fl o
 | [],fl,o,_,h => h
 | e :: es,fl,o,hs,h => by
  obtain ⟨vs,fr,o1,o2,rfl,rfl,h1,h2⟩ := h
  exact ⟨vs,fr,o1,o2,rfl,rfl,⟨bQ hB _ vs o1 hs.left h1.1,h1.2⟩,bh hB hs.right h2⟩
theorem cellsAt_append {w : World} {b off : Nat} {vs us : List Value} : cellsAt w b off (vs ++ us) ↔ cellsAt w b off vs /\ cellsAt w b (off + vs.length) us := by
 constructor
 ·intro h
  refine ⟨fun j v hj => h j v ?_,fun j v hj => ?_⟩
  ·rw [List.getElem?_append_left (aQ hj)]; exact hj
  ·have := h (vs.length + j) v (by rw [List.getElem?_append_right (by omega)]; simpa using hj)
   rw [<- Nat.add_assoc] at this; exact this
 ·rintro ⟨h1,h2⟩ j v hj
  by_cases hl : j < vs.length
  ·rw [List.getElem?_append_left hl] at hj; exact h1 j v hj
  ·rw [List.getElem?_append_right (by omega)] at hj
   have := h2 (j - vs.length) v hj
   rw [show off + vs.length + (j - vs.length) = off + j by omega] at this; exact this
theorem bj {w : World} {B : Nat -> Prop} {b : Nat} {z : Z} : ∀ {es : List D} {fl : List Value} {o : List Res} {off : Nat},aZ w B z es fl o -> cellsAt w b off fl -> au w B b off z es o
 | [],fl,o,off,h,_ => repEs_nil.2 h.2
 | e :: es,fl,o,off,h,hc => by
  obtain ⟨vs,fr,o1,o2,rfl,rfl,h1,h2⟩ := h
  obtain ⟨c1,c2⟩ := cellsAt_append.1 hc
  rw [bq h1] at c2
  exact repEs_cons.2 ⟨vs,o1,o2,rfl,h1,c1,bj h2 c2⟩
theorem aW {w : World} {B : Nat -> Prop} {b : Nat} {z : Z} : ∀ {es : List D} {o : List Res} {off : Nat},au w B b off z es o -> ∃ fl,aZ w B z es fl o /\ cellsAt w b off fl
 | [],o,off,h => ⟨[],⟨rfl,repEs_nil.1 h⟩,fun j v hj => by simp at hj⟩
 | e :: es,o,off,h => by
  obtain ⟨vs,o1,o2,rfl,h1,c1,h2⟩ := repEs_cons.1 h
  obtain ⟨fr,h3,c2⟩ := aW h2
  exact ⟨vs ++ fr,⟨vs,fr,o1,o2,rfl,rfl,h1,h3⟩,cellsAt_append.2 ⟨c1,by rw [bq h1]; exact c2⟩⟩
theorem iY {w : World} {B : Nat -> Prop} {z : Z} : ∀ {es fs : List D} {fl fl' : List Value} {o o' : List Res},aZ w B z es fl o -> aZ w B z fs fl' o' -> aZ w B z (es ++ fs) (fl ++ fl') (o ++ o')
 | [],fs,fl,fl',o,o',h,h' => by rw [h.1,h.2]; exact h'
 | e :: es,fs,fl,fl',o,o',h,h' => by
  obtain ⟨vs,fr,o1,o2,rfl,rfl,h1,h2⟩ := h
  exact ⟨vs,fr ++ fl',o1,o2 ++ o',by simp,by simp,h1,iY h2 h'⟩
theorem kW {w : World} {b : Nat} {c : Array Value} {ty : TypeId} {fr : Nat × Nat} (h : w.heap[b]? = some (.cells c ty fr)) : cellsAt w b 0 c.toList := by
 intro j v hj
 simp [World.cell?,h]
 simpa using hj
section alloc
variable {F : Fr} {h : Ups} {loc : Nat -> Loc} {O : Nat -> List Res} {who : Nat -> Option (Option Nat)} {B : Nat -> Prop} {w w' : World}
theorem rV (s : HSc F h loc O who B w) : who w.heap.size = none := by
 cases hw : who w.heap.size with
 | none => rfl
 | some ow => exact absurd (s.mine _ ow hw).2.1 (by omega)
theorem gf (n : Nat) : iU n (0,0) := fun j _ => ⟨fun h => by simp at h,Nat.le_refl _⟩
theorem HS.fresh (s : HSc F h loc O who B w) {c : Array Value} {ty : TypeId} {fr : Nat × Nat} (hn : New c ty fr w w') (n : Nat) (hf : hfind h n = none) (blk : Blk) (r0 : Res) (hr0 : r0.blk = w.heap.size) (o' : List Res)
  (hfl : ∀ r ∈ o',who r.blk = some none) (hnd : (aa o').Nodup) (hok : ∀ r ∈ o',okR F.w0 F.o0 r)
  (hb : ∀ h' loc',Kp w B h loc w' B h' loc' -> dF w' B h' loc' (.at w.heap.size 0 c.size) (r0 :: o') blk) :
  ∃ loc' O' who',HSc F ((n,some blk) :: h) loc' O' who' B w' /\ Kp w B h loc w' B ((n,some blk) :: h) loc' /\ loc' n = .at w.heap.size 0 c.size := by
 have hw0 : F.w0.heap.size <= w.heap.size := s.chg.size
 have hsame : ∀ b,b < w.heap.size -> w'.heap[b]? = w.heap[b]? := hn.old
 obtain ⟨s1,k1⟩ := s.world (w' := w') (by rw [hn.size]; omega) (s.chg.step (hn.chg []) (by simp)) (by
  intro b hb'
  rcases hb' with hb' | ⟨id,hid,_⟩
  ·exact hsame b (s.blt b hb')
  ·exact hsame b (s.mine b _ hid).2.1)
 have s2 := s1.take [w.heap.size] (by
  intro b hb'
  simp at hb'; subst hb'
  refine ⟨rV s,fun hB => absurd (s.blt _ hB) (by omega),by rw [hn.size]; omega,hw0⟩)
 have ext : Ext h loc ((n,some blk) :: h) (fun i => if i = n then .at w.heap.size 0 c.size else loc i) := by
  intro id ob ho
  rw [aj]
  have hne : ¬ n = id := by intro e; subst e; rw [hf] at ho; cases ho
  exact ⟨ob,by simp [hne,ho],fun b hb => ⟨b,hb,rfl,rfl,by simp [show ¬ id = n from fun e => hne e.symm]⟩⟩
 have k2 : Kp w' B h loc w' B ((n,some blk) :: h) (fun i => if i = n then .at w.heap.size 0 c.size else loc i) := Kp.of (fun _ h => h) (fun _ _ => rfl) ext
 have hlt : ∀ r ∈ o',r.blk < w.heap.size := fun r hr => (s.mine _ _ (hfl r hr)).2.1
 have s3 := s2.set n blk (.at w.heap.size 0 c.size) (r0 :: o') ext (hb _ _ (k1.trans k2)) (by
  intro r hr
  left
  rcases List.mem_cons.1 hr with rfl | hr
  ·simp [hr0]
  ·have := hlt r hr
   simp [show ¬ r.blk = w.heap.size by omega,hfl r hr]) (by
  simp only [aa,List.map_cons,List.nodup_cons,hr0]
  refine ⟨fun hm => ?_,hnd⟩
  obtain ⟨r,hr,he⟩ := List.mem_map.1 hm
  have := hlt r hr; omega) (by
  intro r hr
  rcases List.mem_cons.1 hr with rfl | hr
  ·exact .inl (by rw [hr0]; exact hw0)
  ·exact hok r hr)
 exact ⟨_,_,_,s3.same (fun i hi => hi.1.elim),k1.trans k2,by simp⟩
theorem oh (s : HSc F h loc O who B w) {c : Array Value} {ty : TypeId} (hn : New c ty (0,0) w w') (n : Nat) (hf : hfind h n = none) {cs : List A} (hc : All2 (al w B h loc) cs c.toList) :
  Done F h loc B w [(n,some (.var cs))] (.ref n 0 0) (.pointer (some ⟨w.heap.size,0,none⟩)) w' := by
 have hl : cs.length = c.size := by rw [hc.length]; simp
 obtain ⟨loc',O',who',s',k',hl'⟩ := s.fresh hn n hf (.var cs) (.rng w.heap.size 0 c.size) rfl [] (by simp) (by simp [aa]) (by simp) (by
  intro h' loc' k
  exact ⟨w.heap.size,0,c.size,c,ty,(0,0),c.toList,rfl,hn.new,rfl,gf _,by omega,kW hn.new,hc.mono k,by simp [hl]⟩)
 exact ⟨loc',O',who',B,s',k',⟨_,rfl⟩,some (.var cs),by rw [List.singleton_append,aj]; simp,fun blk hb => by cases hb; exact ⟨w.heap.size,0,c.size,hl',by simp [b9]⟩⟩
theorem kj (s : HSc F h loc O who B w) {c : Array Value} {ty : TypeId} {fr : Nat × Nat} (hn : New c ty fr w w') (hu : iU c.size fr) (n : Nat) (hf : hfind h n = none) {z : Z} {xs : List D} {fl : List Value} {o' : List Res}
  (he : aZ w B z xs fl o') (hpre : ∃ rest,c.toList = fl ++ rest) (hfl : ∀ r ∈ o',who r.blk = some none) (hnd : (aa o').Nodup) (hok : ∀ r ∈ o',okR F.w0 F.o0 r) (cap : Nat) (hcap : xs.length <= cap) (hcz : cap * z.1 <= c.size) :
  Done F h loc B w [(n,some (.arr z xs))] (.asl n none) (.slice (some ⟨w.heap.size,0,none⟩) xs.length cap) w' := by
 obtain ⟨rest,hrest⟩ := hpre
 have hold : ∀ b,(B b \/ b ∈ aa o') -> w'.heap[b]? = w.heap[b]? := by
  intro b hb
  refine hn.old b ?_
  rcases hb with hb | hb
  ·exact s.blt b hb
  ·obtain ⟨r,hr,rfl⟩ := List.mem_map.1 hb; exact (s.mine _ _ (hfl r hr)).2.1
 have he' : au w' B w.heap.size 0 z xs o' := by
  refine bj (bh (fun _ h => h) hold he) ?_
  have := kW hn.new
  rw [hrest] at this
  exact (cellsAt_append.1 this).1
 obtain ⟨loc',O',who',s',k',hl'⟩ := s.fresh hn n hf (.arr z xs) (.arr w.heap.size) rfl o' hfl hnd hok (by
  intro h' loc' k
  exact .inr ⟨w.heap.size,0,c.size,c,ty,fr,o',rfl,hn.new,rfl,hu,he',rfl⟩)
 refine ⟨loc',O',who',B,s',k',⟨_,_,_,rfl⟩,some (.arr z xs),by rw [List.singleton_append,aj]; simp,fun blk hb => ?_⟩
 cases hb
 refine ⟨xs.length,rfl,?_⟩
 rw [hl']
 exact ⟨_,cap,rfl,hcap,fun _ => ⟨rfl,by simpa [b9] using hcz⟩⟩
end alloc
theorem New.push (w : World) (c : Array Value) (e : TypeId) : New c e (0,0) w { w with heap := w.heap.push (.cells c e) } :=
 ⟨rfl,rfl,by simp,fun b hb => mZ hb,mY⟩
section ops
variable {P : Program} {cf : Cfg} {call : Nat -> List D -> Option Ret} {n : Nat} {o : Oper} {σ : St} {R : Type} {K : A -> Ups -> List Nat -> Option R} {r : R}
theorem tj {t : TypeId} {z : A} (ho : o.op = .alloc t) (hz : dd P t = some z) (hp : bw z = true) (h : K (.ref n 0 0) [(n,some (.var (aC z)))] [] = some r) : bc P n o σ K r := by
 refine ⟨_,_,_,h,⟨fun id hid => .inr (by simp at hid; subst hid; simp [ai]),fun F hh a w loc O who B hr hf hfr s => ?_⟩⟩
 unfold dd at hz
 split at hz
 ·rename_i it hit
  cases hzz : it.zero with
  | none => rw [hzz] at hz; simp at hz
  | some zv =>
   rw [hzz] at hz; simp at hz; subst hz
   refine Runs.value (w' := { w with heap := w.heap.push (.cells zv.cells t) }) ?_ (oh s (New.push w zv.cells t) n (hfr n (Nat.le_refl _) (by simp [ai])) (ci (fX zv) hp))
   simp [execOp,ho,Instr.alloc,zeroValue,cR hit,hzz,newVar,eH]
 ·cases hz
theorem wb {t : TypeId} {x : Operand} (ho : o.op = .box t x) (hp : bw (ev σ x) = true) (h : K (.ref n 0 0) [(n,some (.var (aC (ev σ x))))] [] = some r) : bc P n o σ K r := by
 refine ⟨_,_,_,h,⟨fun id hid => .inr (by simp at hid; subst hid; simp [ai]),fun F hh a w loc O who B hr hf hfr s => ?_⟩⟩
 have hx := hr x (by simp [ho,Op.operands])
 refine Runs.value (w' := { w with heap := w.heap.push (.cells (a.eval x).cells t) }) ?_ (oh s (New.push w (a.eval x).cells t) n (hfr n (Nat.le_refl _) (by simp [ai])) (ci hx hp))
 simp [execOp,ho,Instr.box,newVar,eH]
end ops
theorem am {h h' : Ups} {id : Nat} (e : hfind h' id = hfind h id) : ae h' id = ae h id := by rw [dh,dh,e]
theorem gZ {P : Program} {h h' : Ups} {t : TypeId} {a : A} (e : ∀ id ∈ ct a,hfind h' id = hfind h id) : aq P h' t a = aq P h t a := by
 cases a with
 | asl id rng => simp only [aq,am (e id (by simp [ct]))]
 | d x => cases x <;> rfl
 | _ => rfl
theorem fg {P : Program} {h h' : Ups} : ∀ {ts : List TypeId} {as : List A},(∀ id ∈ as.flatMap ct,hfind h' id = hfind h id) -> ax P h' ts as = ax P h ts as
 | [],[],_ => rfl
 | [],_ :: _,_ => rfl
 | _ :: _,[],_ => rfl
 | t :: ts,a :: as,e => by
  simp only [ax]
  rw [gZ (fun id hid => e id (by simp [hid])),fg (fun id hid => e id (by simp only [List.flatMap_cons,List.mem_append]; exact .inr hid))]
section
variable {P : Program} {F : Fr} {h : Ups} {loc : Nat -> Loc} {O : Nat -> List Res} {who : Nat -> Option (Option Nat)} {B : Nat -> Prop} {w : World}
def From (h : Ups) (O : Nat -> List Res) (gone : List Nat) (o : List Res) : Prop :=
 (∀ r ∈ o,∃ id ∈ gone,(∃ b,ae h id = some b) /\ r ∈ O id)
theorem dN {x : D} (h : cX x) : bV x := by cases x <;> first | trivial | exact h.elim
theorem cz {l : Loc} {z m : Nat} {rng : Option (Nat × Nat)} {v : Value} (h : dI l z m rng v) :
  (l = .nil /\ m = 0 /\ bz m rng = 0 /\ ∃ a,v = .slice a 0 0) \/ ∃ b base sz a cap,l = .at b base sz /\ v = .slice (some a) (bz m rng) cap /\ bz m rng <= cap /\ (rng.getD (0,m)).1 + bz m rng <= m /\
   (0 < cap -> a = ⟨b,base + (rng.getD (0,m)).1 * z,none⟩ /\ base + (rng.getD (0,m)).1 * z + cap * z <= sz) := by
 cases l with
 | nil =>
  cases rng with
  | none => obtain ⟨h1,h2⟩ := h; exact .inl ⟨rfl,h1,by simpa [bz] using h1,h2⟩
  | some p => obtain ⟨o,m'⟩ := p; obtain ⟨_,h1,h2,h3⟩ := h; exact .inl ⟨rfl,h2,by simpa [bz] using h1,h3⟩
 | «at» b base sz =>
  cases rng with
  | none =>
   obtain ⟨a,cap,hv,hc,ha⟩ := h
   exact .inr ⟨b,base,sz,a,cap,rfl,hv,hc,by simp [bz],fun h0 => by simpa using ha h0⟩
  | some p =>
   obtain ⟨o,m'⟩ := p
   obtain ⟨h0,a,cap,hv,⟨hc,_⟩,ha⟩ := h
   exact .inr ⟨b,base,sz,a,cap,rfl,hv,hc,by simpa [bz] using h0,fun h0 => by simpa using ha h0⟩
theorem ip {xs : List D} {rng : Option (Nat × Nat)} (h : (rng.getD (0,xs.length)).1 + bz xs.length rng <= xs.length) : (part xs rng).length = bz xs.length rng := by
 cases rng with
 | none => rfl
 | some p => obtain ⟨o,m⟩ := p; simp [part,bz] at h ⊢; omega
theorem fu {b base : Nat} {z : Z} {xs : List D} {o : List Res} {rng : Option (Nat × Nat)} (h : (rng.getD (0,xs.length)).1 + bz xs.length rng <= xs.length) (hr : au w B b base z xs o) :
  ∃ o1,List.Sublist o1 o /\ au w B b (base + (rng.getD (0,xs.length)).1 * z.1) z (part xs rng) o1 := by
 cases rng with
 | none => exact ⟨o,List.Sublist.refl _,by simpa [part] using hr⟩
 | some p => obtain ⟨k,m⟩ := p; exact nj (by simpa [bz] using h) hr
theorem xZ {xs : List D} {rng : Option (Nat × Nat)} (h : (part xs rng).length = 0) : part xs rng = [] := List.length_eq_zero_iff.1 h
theorem pP {l : Loc} {z : Z} {xs : List D} {rng : Option (Nat × Nat)} {v : Value} (hz : z.2 <= 1) (hb : (l = .nil /\ xs = []) \/ ∃ b base sz,l = .at b base sz /\ au w B b base z xs [] /\ (xs ≠ [] -> B b))
  (hs : dI l z.1 xs.length rng v) : ac w B (.rs z (part xs rng)) v [] := by
 simp only [ac,true_and]
 have empty : bz xs.length rng = 0 -> part xs rng = [] := by
  intro h0
  cases rng with
  | none => simpa [part,bz] using h0
  | some p => obtain ⟨k,q⟩ := p; simp [bz] at h0; simp [part,h0]
 rcases cz hs with ⟨hl,hm0,hl0,ad,hv⟩ | ⟨b,base,sz,ad,cap,hl,hv,hc,hle,had⟩
 ·exact .inl ⟨empty hl0,ad,0,hv⟩
 ·by_cases h0 : bz xs.length rng = 0
  ·exact .inl ⟨empty h0,_,_,by rw [hv,h0]⟩
  ·rcases hb with ⟨h1,_⟩ | ⟨b',base',sz',hl',he,hB⟩
   ·rw [hl] at h1; cases h1
   ·rw [hl] at hl'; cases hl'
    obtain ⟨rfl,_⟩ := had (by omega)
    obtain ⟨o1,hsub,he1⟩ := fu hle he
    have : o1 = [] := List.sublist_nil.1 hsub
    subst this
    have hpl := ip hle
    have hne : xs ≠ [] := by
     intro e
     have h1 : xs.length = 0 := by rw [e]; rfl
     omega
    exact .inr ⟨b,_,cap,by rw [hpl]; exact hv,by rw [hpl]; exact hc,hz,fun _ => hB hne,he1⟩
theorem fM (s : HSc F h loc O who B w) {t : TypeId} {a : A} {v : Value} {x : D} {gone : List Nat} (ha : al w B h loc a v) (hg : aq P h t a = some (x,gone)) :
  ∃ o,ac w B x v o /\ bV x /\ From h O gone o /\ (aa o).Nodup /\ (∀ id ∈ gone,id ∈ ct a) := by
 cases a with
 | ref i j k => simp [aq] at hg
 | rp z xs i k => simp [aq] at hg
 | agg cs => simp [aq] at hg
 | tup cs => simp [aq] at hg
 | fn f cs => simp [aq] at hg
 | undef => simp [aq] at hg
 | mp i => simp [aq] at hg
 | d y =>
  by_cases hy : y = .nl
  ·subst hy
   have hv : v = .slice none 0 0 := (rep_nl (w := w) (B := B) (h := h) (loc := loc)).1 ha
   simp only [aq] at hg
   split at hg
   ·simp only [Option.map_eq_some_iff] at hg
    obtain ⟨z,_,hz⟩ := hg
    cases hz
    exact ⟨[],by simp [ac,hv],trivial,by simp [From],by simp [aa],by simp⟩
   ·cases hg
  ·have : aq P h t (.d y) = some (y,[]) := by cases y <;> first | rfl | exact absurd rfl hy
   rw [this] at hg; cases hg
   exact ⟨[],ha.2,dN ha.1,by simp [From],by simp [aa],by simp⟩
 | asl id rng =>
  obtain ⟨_,ob,hob,hb⟩ := ha
  simp only [aq] at hg
  split at hg
  ·rename_i z xs hget'
   cases hg
   have hfd := hget_some.1 hget'
   rw [hfd] at hob; cases hob
   obtain ⟨m,hm,hs⟩ := hb _ rfl
   simp [aI] at hm; subst hm
   have hblk := s.blk id _ hget' (fun hx => hx)
   have hnod := s.nod id _ hget'
   have empty : bz xs.length rng = 0 -> part xs rng = [] := by
    intro h0
    cases rng with
    | none => simpa [part,bz] using h0
    | some p => obtain ⟨k,q⟩ := p; simp [bz] at h0; simp [part,h0]
   rcases cz hs with ⟨hl,hm0,hl0,ad,hv⟩ | ⟨b,base,sz,ad,cap,hl,hv,hc,hle,had⟩
   ·exact ⟨[],by rw [empty hl0]; simp [ac,hv],trivial,by simp [From],by simp [aa],by simp [ct]⟩
   ·rcases hblk with ⟨h1,_⟩ | ⟨b',base',sz',c,ty,fr,o',hl',hh,hsz,hu,he,hO⟩
    ·rw [hl] at h1; cases h1
    ·rw [hl] at hl'; cases hl'
     obtain ⟨o1,hsub,he1⟩ := fu hle he
     have hpl := ip hle
     have hfrom : From h O [id] (.arr b :: o1) := by
      intro r hr
      refine ⟨id,by simp,⟨_,hget'⟩,?_⟩
      rw [hO]
      rcases List.mem_cons.1 hr with rfl | hr
      ·simp
      ·exact List.mem_cons_of_mem _ (hsub.subset hr)
     have hnd : (aa (.arr b :: o1)).Nodup := by
      rw [hO] at hnod
      exact hnod.sublist ((hsub.cons_cons _).map _)
     by_cases h0 : 0 < cap
     ·obtain ⟨rfl,hcz⟩ := had h0
      refine ⟨.arr b :: o1,?_,trivial,hfrom,hnd,by simp [ct]⟩
      simp only [ac]
      exact .inr ⟨b,_,cap,c,ty,fr,o1,by rw [hpl]; exact hv,by rw [hpl]; exact hc,hh,hsz ▸ hu,fun _ => by simpa [b9,hsz] using hcz,he1,rfl⟩
     ·have hcap : cap = 0 := by omega
      have hl0 : bz xs.length rng = 0 := by omega
      subst hcap
      exact ⟨[],by rw [empty hl0]; simp [ac,hv,hl0],trivial,by simp [From],by simp [aa],by simp [ct]⟩
  ·rename_i z xs hget'
   cases hg
   have hfd := hget_some.1 hget'
   rw [hfd] at hob; cases hob
   obtain ⟨m,hm,hs⟩ := hb _ rfl
   simp [aI] at hm; subst hm
   have hblk := s.blk id _ hget' (fun hx => hx)
   obtain ⟨_,hz,hblk⟩ := hblk
   refine ⟨[],?_,trivial,by simp [From],by simp [aa],by simp⟩
   exact pP hz hblk hs
  ·cases hg
theorem xR : bV D.nl := trivial
theorem From.append (s : HSc F h loc O who B w) {g1 g2 : List Nat} {o1 o2 : List Res} (h1 : From h O g1 o1) (h2 : From h O g2 o2) (hn : (g1 ++ g2).Nodup) (n1 : (aa o1).Nodup) (n2 : (aa o2).Nodup) :
  From h O (g1 ++ g2) (o1 ++ o2) /\ (aa (o1 ++ o2)).Nodup := by
 constructor
 ·intro r hr
  rcases List.mem_append.1 hr with hr | hr
  ·obtain ⟨id,hid,x⟩ := h1 r hr; exact ⟨id,List.mem_append.2 (.inl hid),x⟩
  ·obtain ⟨id,hid,x⟩ := h2 r hr; exact ⟨id,List.mem_append.2 (.inr hid),x⟩
 ·unfold aa at *
  rw [List.map_append,List.nodup_append]
  refine ⟨n1,n2,?_⟩
  intro x hx y hy e
  obtain ⟨r1,hr1,rfl⟩ := List.mem_map.1 hx
  obtain ⟨r2,hr2,rfl⟩ := List.mem_map.1 hy
  obtain ⟨i1,hi1,⟨b1,hb1⟩,hm1⟩ := h1 r1 hr1
  obtain ⟨i2,hi2,⟨b2,hb2⟩,hm2⟩ := h2 r2 hr2
  have w1 := s.own i1 b1 hb1 r1 hm1
  have w2 := s.own i2 b2 hb2 r2 hm2
  rw [e,w2] at w1
  have : i2 = i1 := by simpa using w1
  subst this
  exact (List.nodup_append.1 hn).2.2 i2 hi1 i2 hi2 rfl
theorem dW (s : HSc F h loc O who B w) : ∀ {ts : List TypeId} {as : List A} {vs : List Value} {xs : List D} {gone : List Nat},All2 (al w B h loc) as vs -> ax P h ts as = some (xs,gone) -> gone.Nodup ->
  ∃ o,ak w B xs vs o /\ From h O gone o /\ (aa o).Nodup /\ (∀ id ∈ gone,id ∈ as.flatMap ct) /\ xs.length = as.length
 | [],[],vs,xs,gone,ha,hg,hn => by
  simp [ax] at hg
  obtain ⟨rfl,rfl⟩ := hg
  cases ha
  exact ⟨[],by simp [ak],by simp [From],by simp [aa],by simp,rfl⟩
 | [],_ :: _,vs,xs,gone,ha,hg,hn => by simp [ax] at hg
 | _ :: _,[],vs,xs,gone,ha,hg,hn => by simp [ax] at hg
 | t :: ts,a :: as,vs,xs,gone,ha,hg,hn => by
  simp only [ax] at hg
  split at hg
  ·rename_i x i r j h1 h2
   simp only [Option.some.injEq,Prod.mk.injEq] at hg
   obtain ⟨rfl,rfl⟩ := hg
   cases ha with | cons a1 a2 =>
   obtain ⟨o1,p1,p2,p3,p4,p5⟩ := fM s a1 h1
   obtain ⟨o2,q1,q2,q3,q4,q5⟩ := dW s a2 h2 (List.nodup_append.1 hn).2.1
   obtain ⟨f1,f2⟩ := From.append s p3 q2 hn p4 q3
   refine ⟨o1 ++ o2,?_,f1,f2,?_,by simp [q5]⟩
   ·simp only [ak]; exact ⟨_,_,o1,o2,rfl,rfl,p2,p1,q1⟩
   ·intro id hid
    simp only [List.flatMap_cons,List.mem_append]
    rcases List.mem_append.1 hid with hid | hid
    ·exact .inl (p5 id hid)
    ·exact .inr (q4 id hid)
  ·cases hg
theorem HS.kills (s : HSc F h loc O who B w) : ∀ (gone : List Nat),(∀ id ∈ gone,∃ ob,hfind h id = some ob) ->
  ∃ who',HSc F (gone.map (·,none) ++ h) loc O who' B w /\ Ext h loc (gone.map (·,none) ++ h) loc /\
   (∀ b,(∃ id ∈ gone,who b = some (some id)) -> who' b = some none) /\ (∀ b,(∀ id ∈ gone,who b ≠ some (some id)) -> who' b = who b)
 | [],_ => ⟨who,s,Ext.refl h loc,by simp,fun _ _ => rfl⟩
 | g :: gone,hf => by
  obtain ⟨who1,s1,e1,a1,a2⟩ := HS.kills s gone (fun id hid => hf id (by simp [hid]))
  obtain ⟨ob,hob⟩ := hf g (by simp)
  obtain ⟨ob',hob',_⟩ := e1 g ob hob
  obtain ⟨s2,e2⟩ := s1.kill g ⟨ob',hob'⟩
  refine ⟨_,s2,e1.trans e2,?_,?_⟩
  ·rintro b ⟨id,hid,hw⟩
   by_cases hm : ∃ id ∈ gone,who b = some (some id)
   ·rw [a1 b hm]; simp
   ·have : id = g := by
     rcases List.mem_cons.1 hid with h' | h'
     ·exact h'
     ·exact absurd ⟨id,h',hw⟩ hm
    subst this
    rw [a2 b (fun i hi he => hm ⟨i,hi,he⟩),hw]; simp
  ·intro b hb
   have h2 := a2 b (fun i hi => hb i (by simp [hi]))
   have h3 := hb g (by simp)
   rw [h2]; simp [h3]
end
theorem az (u h : Ups) (id : Nat) : hfind (u ++ h) id = match hfind u id with | some x => some x | none => hfind h id := by
 induction u with
 | nil => rfl
 | cons x u ih => obtain ⟨i,b⟩ := x; simp only [List.cons_append,hfind]; split <;> simp_all
theorem dB (gone : List Nat) (id : Nat) : hfind (gone.map (fun i => (i,(none : Option Blk)))) id = if id ∈ gone then some none else none := by
 induction gone with
 | nil => simp [hfind]
 | cons g gone ih =>
  simp only [List.map_cons,aj,ih]
  by_cases e : g = id
  ·simp [e]
  ·have : id ≠ g := fun h => e h.symm
   simp [e,this]
theorem All2.sset {R : A -> List Value -> Prop} {as : List A} {bs : List (List Value)} (h : All2 R as bs) : ∀ {i : Nat} {a : A} {b : List Value},R a b -> All2 R (sset as i a) (bs.set i b) := by
 induction h with
 | nil => intro i a b _; exact .nil
 | cons h1 h2 ih => intro i a b hr; cases i with
  | zero => exact .cons hr h2
  | succ i => exact .cons h1 (ih hr)
theorem fx : ∀ (l : List A) (i : Nat) (a : A),(sset l i a).length = l.length
 | [],_,_ => rfl
 | _ :: _,0,_ => rfl
 | _ :: l,i + 1,a => by simp [sset,fx l i a]
theorem ld {s : Nat} : ∀ (rows : List (List Value)) (i : Nat) (r : List Value),(∀ x ∈ rows,x.length = s) -> i < rows.length -> r.length = s ->
  (rows.set i r).flatten = rows.flatten.take (i * s) ++ r ++ rows.flatten.drop (i * s + s) /\ i * s + s <= rows.flatten.length
 | [],i,r,_,hi,_ => by simp at hi
 | x :: rows,0,r,h,hi,hr => by
  have hx := h x (by simp)
  simp only [List.set_cons_zero,List.flatten_cons,Nat.zero_mul,List.take_zero,List.nil_append,Nat.zero_add,lnA]
  refine ⟨?_,by omega⟩
  rw [<- hx,List.drop_left]
 | x :: rows,i + 1,r,h,hi,hr => by
  have hx := h x (by simp)
  obtain ⟨ih,hl⟩ := ld rows i r (fun y hy => h y (by simp [hy])) (by simpa using hi) hr
  simp only [List.set_cons_succ,List.flatten_cons,lnA]
  have e1 : (i + 1) * s = x.length + i * s := by rw [Nat.succ_mul,hx]; omega
  refine ⟨?_,by omega⟩
  rw [ih,e1,List.take_length_add_append,show x.length + i * s + s = x.length + (i * s + s) by omega,List.drop_length_add_append]
  simp
section
variable {P : Program} {σ : St} {w : World} {B : Nat -> Prop} {hh : Ups} {loc : Nat -> Loc} {a : Act} {s : Nat}
def od (w : World) (B : Nat -> Prop) (hh : Ups) (loc : Nat -> Loc) (s : Nat) (x : A) (row : List Value) : Prop := row.length = s /\ All2 (al w B hh loc) (aC x) row
theorem oX : ∀ (parts : List (Nat × Operand)) (es : List A) (rows : List (List Value)),All2 (od w B hh loc s) es rows ->
  (∀ p ∈ parts,p.1 < es.length /\ bw (ev σ p.2) = true /\ (aC (ev σ p.2)).length = s /\ aJ w B hh loc (ev σ p.2) (a.eval p.2)) ->
  ∃ rows',Instr.fill (fun i => some (i * s,s)) rows.flatten.toArray (parts.map fun p => (p.1,a.eval p.2)) = some rows'.flatten.toArray /\ All2 (od w B hh loc s) (db σ es parts) rows'
 | [],es,rows,h,_ => ⟨rows,rfl,h⟩
 | (i,x) :: parts,es,rows,h,hp => by
  obtain ⟨hi,hpl,hl,hx⟩ := hp (i,x) (by simp)
  have hc := ci hx hpl
  have hlen : (a.eval x).cells.toList.length = s := by rw [<- hc.length]; exact hl
  have hrl : ∀ y ∈ rows,y.length = s := by
   intro y hy
   obtain ⟨j,hj⟩ := List.mem_iff_getElem?.1 hy
   have : ∃ b,es[j]? = some b := by
    have hjl := aQ hj
    rw [<- h.length] at hjl
    exact ⟨es[j],by simp [hjl]⟩
   obtain ⟨b,hb⟩ := this
   obtain ⟨c,hc',hr⟩ := h.get hb
   rw [hj] at hc'; cases hc'; exact hr.1
  have hi' : i < rows.length := by rw [<- h.length]; exact hi
  obtain ⟨e1,e2⟩ := ld rows i (a.eval x).cells.toList hrl hi' hlen
  have h' := h.sset (i := i) (a := ev σ x) (b := (a.eval x).cells.toList) ⟨hlen,hc⟩
  obtain ⟨rows',f1,f2⟩ := oX parts (sset es i (ev σ x)) (rows.set i (a.eval x).cells.toList) h' (by
   intro p hp'
   obtain ⟨q1,q2⟩ := hp p (by simp [hp'])
   exact ⟨by rw [fx]; exact q1,q2⟩)
  refine ⟨rows',?_,f2⟩
  rw [List.map_cons,oU (off := i * s) (size := s) rfl (by simpa using hlen) (by simpa using e2)]
  rw [e1] at f1
  exact f1
theorem iy {z : A} {row : List Value} (h : od w B hh loc s z row) : ∀ len : Nat,All2 (od w B hh loc s) (List.replicate len z) (List.replicate len row)
 | 0 => .nil
 | n + 1 => by rw [List.replicate_succ,List.replicate_succ]; exact .cons h (iy h n)
theorem jw {zc : Array Value} (h0 : 0 < zc.size) : ∀ len : Nat,((Array.range (len * zc.size)).map (zc[· % zc.size]!)).toList = (List.replicate len zc.toList).flatten := by
 intro len
 apply List.ext_getElem?
 intro i
 rw [Array.toList_map,Array.toList_range,List.getElem?_map]
 by_cases hi : i < len * zc.size
 ·rw [List.getElem?_range hi]
  have hm : i % zc.size < zc.size := Nat.mod_lt _ h0
  have key : ∀ (len i : Nat),i < len * zc.size -> (List.replicate len zc.toList).flatten[i]? = zc[i % zc.size]? := by
   intro len
   induction len with
   | zero => intro i hi; simp at hi
   | succ len ih =>
    intro i hi
    rw [List.replicate_succ,List.flatten_cons]
    by_cases hlt : i < zc.size
    ·rw [List.getElem?_append_left (by simpa using hlt),Nat.mod_eq_of_lt hlt]; simp
    ·rw [List.getElem?_append_right (by simpa using Nat.le_of_not_lt hlt)]
     have hi2 : i - zc.size < len * zc.size := by rw [Nat.succ_mul] at hi; omega
     have := ih (i - zc.size) hi2
     rw [show i - zc.toList.length = i - zc.size by simp,this]
     congr 1
     rw [Nat.mod_eq_sub_mod (Nat.le_of_not_lt hlt)]
  rw [key len i hi]
  simp [hm]
 ·rw [List.getElem?_eq_none (by simpa using Nat.le_of_not_lt hi)]
  rw [List.getElem?_eq_none]
  ·rfl
  ·simp; omega
end
section
variable {P : Program} {F : Fr} {h : Ups} {loc : Nat -> Loc} {O : Nat -> List Res} {who : Nat -> Option (Option Nat)} {B : Nat -> Prop} {w : World} {s : Nat}
theorem jN (hs : HSc F h loc O who B w) {ts : List TypeId} {a : A} {row : List Value} {x : D} {gone : List Nat} (ha : od w B h loc s a row) (hg : fe P h ts a = some (x,gone)) (hn : gone.Nodup) (hpl : bw a = true) :
  ∃ o,ak w B (ay x) row o /\ From h O gone o /\ (aa o).Nodup /\ (∀ id ∈ gone,id ∈ d9 a) /\ (ay x).length = s := by
 have cell : ∀ (t : TypeId),(∀ cs,a ≠ .agg cs) -> aq P h t a = some (x,gone) -> ∃ o,ak w B (ay x) row o /\ From h O gone o /\ (aa o).Nodup /\ (∀ id ∈ gone,id ∈ d9 a) /\ (ay x).length = s := by
  intro t hna hg1
  have hca : aC a = [a] := by cases a <;> first | rfl | exact absurd rfl (hna _)
  obtain ⟨hl,hc⟩ := ha
  rw [hca] at hc
  cases hc with | cons a1 a2 =>
  cases a2
  obtain ⟨o,p1,p2,p3,p4,p5⟩ := fM hs a1 hg1
  have hcx : ay x = [x] := by cases x <;> first | rfl | exact p2.elim
  refine ⟨o,by rw [hcx]; exact repDs_one.2 ⟨_,rfl,p2,p1⟩,p3,p4,?_,by rw [hcx]; exact hl⟩
  intro id hid
  have := p5 id hid
  cases a <;> first | exact this | exact absurd rfl (hna _) | simp [ct] at this
 cases a with
 | agg cs =>
  simp only [fe,Option.map_eq_some_iff] at hg
  obtain ⟨⟨xs,g⟩,h1,h2⟩ := hg
  cases h2
  obtain ⟨hl,hc⟩ := ha
  obtain ⟨o,q1,q2,q3,q4,q5⟩ := dW hs hc h1 hn
  exact ⟨o,q1,q2,q3,q4,by
   have h1 : cs.length = row.length := hc.length
   have h2 : xs.length = cs.length := q5
   show xs.length = s
   omega⟩
 | tup cs => cases hpl
 | fn f cs => cases hpl
 | mp _ => cases hpl
 | undef => cases hpl
 | ref i j k =>
  simp only [fe] at hg
  split at hg
  ·exact cell _ (by simp) hg
  ·cases hg
 | rp z xs i k =>
  simp only [fe] at hg
  split at hg
  ·exact cell _ (by simp) hg
  ·cases hg
 | asl id rng =>
  simp only [fe] at hg
  split at hg
  ·exact cell _ (by simp) hg
  ·cases hg
 | d y =>
  simp only [fe] at hg
  split at hg
  ·exact cell _ (by simp) hg
  ·cases hg
theorem oG (hs : HSc F h loc O who B w) {ts : List TypeId} {k : Nat} : ∀ {as : List A} {rows : List (List Value)} {xs : List D} {gone : List Nat},All2 (od w B h loc s) as rows -> elems P h ts as = some (xs,gone) -> gone.Nodup ->
  (∀ a ∈ as,bw a = true) -> (∀ x ∈ xs,∀ c ∈ ay x,cK k c) ->
  ∃ o,aZ w B (s,k) xs rows.flatten o /\ From h O gone o /\ (aa o).Nodup /\ (∀ id ∈ gone,id ∈ as.flatMap d9) /\ xs.length = as.length
 | [],rows,xs,gone,ha,hg,hn,_,_ => by
  simp [elems] at hg
  obtain ⟨rfl,rfl⟩ := hg
  cases ha
  exact ⟨[],⟨rfl,rfl⟩,by simp [From],by simp [aa],by simp,rfl⟩
 | a :: as,rows,xs,gone,ha,hg,hn,hpl,hk => by
  simp only [elems] at hg
  split at hg
  ·rename_i x i r j h1 h2
   simp only [Option.some.injEq,Prod.mk.injEq] at hg
   obtain ⟨rfl,rfl⟩ := hg
   cases ha with | cons a1 a2 =>
   obtain ⟨o1,p1,p2,p3,p4,p5⟩ := jN hs a1 h1 (List.nodup_append.1 hn).1 (hpl a (by simp))
   obtain ⟨o2,q1,q2,q3,q4,q5⟩ := oG hs a2 h2 (List.nodup_append.1 hn).2.1 (fun b hb => hpl b (by simp [hb])) (fun y hy => hk y (by simp [hy]))
   obtain ⟨f1,f2⟩ := From.append hs p2 q2 hn p3 q3
   refine ⟨o1 ++ o2,⟨_,_,o1,o2,rfl,rfl,⟨p1,p5,hk x (by simp)⟩,q1⟩,f1,f2,?_,by simp [q5]⟩
   intro id hid
   simp only [List.flatMap_cons,List.mem_append]
   rcases List.mem_append.1 hid with hid | hid
   ·exact .inl (p4 id hid)
   ·exact .inr (q4 id hid)
  ·cases hg
theorem gv {e : TypeId} {xs : List D} {k : Nat} (h : ic P e xs = some k) : ∀ x ∈ xs,∀ c ∈ ay x,cK k c := by
 unfold ic at h
 split at h
 ·split at h
  ·rename_i ha
   cases h
   intro x hx c hc
   exact List.all_eq_true.1 (List.all_eq_true.1 ha x hx) c hc
  ·cases h
 ·split at h
  ·rename_i ha
   cases h
   intro x hx c hc
   have := List.all_eq_true.1 (List.all_eq_true.1 ha x hx) c hc
   cases c <;> simp_all [cK]
  ·cases h
   intro x hx c hc
   simp [cK]
end
theorem gk {P : Program} {h h' : Ups} {ts : List TypeId} {a : A} (e : ∀ id ∈ d9 a,hfind h' id = hfind h id) : fe P h' ts a = fe P h ts a := by
 cases a with
 | agg cs => simp only [fe,fg (fun id hid => e id hid)]
 | asl id rng =>
  rcases ts with _ | ⟨t,_ | ⟨t2,ts⟩⟩
  ·rfl
  ·exact gZ (P := P) (t := t) (a := .asl id rng) (fun i hi => e i hi)
  ·rfl
 | d x =>
  rcases ts with _ | ⟨t,_ | ⟨t2,ts⟩⟩
  ·rfl
  ·cases x <;> rfl
  ·rfl
 | ref i j k => rcases ts with _ | ⟨t,_ | ⟨t2,ts⟩⟩ <;> rfl
 | rp z xs i k => rcases ts with _ | ⟨t,_ | ⟨t2,ts⟩⟩ <;> rfl
 | tup cs => rcases ts with _ | ⟨t,_ | ⟨t2,ts⟩⟩ <;> rfl
 | fn f cs => rcases ts with _ | ⟨t,_ | ⟨t2,ts⟩⟩ <;> rfl
 | mp _ => rcases ts with _ | ⟨t,_ | ⟨t2,ts⟩⟩ <;> rfl
 | undef => rcases ts with _ | ⟨t,_ | ⟨t2,ts⟩⟩ <;> rfl
theorem dz {P : Program} {h : Ups} {t : TypeId} {a : A} {x : D} {gone : List Nat} (hg : aq P h t a = some (x,gone)) : ∀ id ∈ gone,∃ b,ae h id = some b := by
 cases a with
 | asl id rng =>
  simp only [aq] at hg
  split at hg
  ·rename_i hb; cases hg; intro i hi; simp at hi; subst hi; exact ⟨_,hb⟩
  ·cases hg; simp
  ·cases hg
 | d y =>
  by_cases hy : y = .nl
  ·subst hy
   simp only [aq] at hg
   split at hg
   ·simp only [Option.map_eq_some_iff] at hg
    obtain ⟨z,_,hz⟩ := hg; cases hz; simp
   ·cases hg
  ·have : aq P h t (.d y) = some (y,[]) := by cases y <;> first | rfl | exact absurd rfl hy
   rw [this] at hg; cases hg; simp
 | _ => simp [aq] at hg
theorem dA {P : Program} {h : Ups} : ∀ {ts : List TypeId} {as : List A} {xs : List D} {gone : List Nat},ax P h ts as = some (xs,gone) -> ∀ id ∈ gone,∃ b,ae h id = some b
 | [],[],xs,gone,hg => by simp [ax] at hg; simp [hg.2]
 | [],_ :: _,_,_,hg => by simp [ax] at hg
 | _ :: _,[],_,_,hg => by simp [ax] at hg
 | t :: ts,a :: as,xs,gone,hg => by
  simp only [ax] at hg
  split at hg
  ·rename_i h1 h2
   cases hg
   intro id hid
   rcases List.mem_append.1 hid with hid | hid
   ·exact dz h1 id hid
   ·exact dA h2 id hid
  ·cases hg
theorem ml {P : Program} {h : Ups} {ts : List TypeId} {a : A} {x : D} {gone : List Nat} (hg : fe P h ts a = some (x,gone)) : ∀ id ∈ gone,∃ b,ae h id = some b := by
 cases a with
 | agg cs =>
  simp only [fe,Option.map_eq_some_iff] at hg
  obtain ⟨⟨xs,g⟩,h1,h2⟩ := hg
  cases h2
  exact dA h1
 | asl id rng =>
  rcases ts with _ | ⟨t,_ | ⟨t2,ts⟩⟩
  ·cases hg
  ·exact dz (P := P) (t := t) (a := .asl id rng) hg
  ·cases hg
 | d y =>
  rcases ts with _ | ⟨t,_ | ⟨t2,ts⟩⟩
  ·cases hg
  ·exact dz (P := P) (t := t) (a := .d y) hg
  ·cases hg
 | _ => rcases ts with _ | ⟨t,_ | ⟨t2,ts⟩⟩ <;> first | cases hg | (simp [fe,aq] at hg)
theorem kZ {P : Program} {h : Ups} {ts : List TypeId} : ∀ {as : List A} {xs : List D} {gone : List Nat},elems P h ts as = some (xs,gone) -> ∀ id ∈ gone,∃ b,ae h id = some b
 | [],xs,gone,hg => by simp [elems] at hg; simp [hg.2]
 | a :: as,xs,gone,hg => by
  simp only [elems] at hg
  split at hg
  ·rename_i h1 h2
   cases hg
   intro id hid
   rcases List.mem_append.1 hid with hid | hid
   ·exact ml h1 id hid
   ·exact kZ h2 id hid
  ·cases hg
theorem kY {P : Program} {h h' : Ups} {ts : List TypeId} : ∀ {as : List A},(∀ id ∈ as.flatMap d9,hfind h' id = hfind h id) -> elems P h' ts as = elems P h ts as
 | [],_ => rfl
 | a :: as,e => by
  simp only [elems]
  rw [gk (fun id hid => e id (by simp [hid])),kY (fun id hid => e id (by simp only [List.flatMap_cons,List.mem_append]; exact .inr hid))]
theorem vG (v : Value) : ct (ofV v) = [] := by unfold ofV; split <;> rfl
theorem kx (v : Value) : d9 (iR v) = [] := by
 unfold iR
 split
 ·simp only [d9,List.flatMap_eq_nil_iff,List.mem_map]
  rintro x ⟨y,_,rfl⟩; exact vG y
 ·unfold ofV; split <;> rfl
theorem vI {l : List A} {i : Nat} {a b : A} (h : b ∈ sset l i a) : b ∈ l \/ b = a := by
 induction l generalizing i with
 | nil => cases h
 | cons x l ih =>
  cases i with
  | zero =>
       rcases List.mem_cons.1 h with h | h
       ·exact .inr h
       ·exact .inl (by simp [h])
  | succ i =>
        rcases List.mem_cons.1 h with h | h
        ·exact .inl (by simp [h])
        ·exact (ih h).imp (fun h => by simp [h]) id
theorem gx {σ : St} {b : A} : ∀ {parts : List (Nat × Operand)} {l : List A},b ∈ db σ l parts -> b ∈ l \/ ∃ p ∈ parts,b = ev σ p.2
 | [],l,h => .inl h
 | (i,x) :: parts,l,h => by
  rcases gx (parts := parts) h with h | ⟨p,hp,h⟩
  ·rcases vI h with h | h
   ·exact .inl h
   ·exact .inr ⟨(i,x),by simp,h⟩
  ·exact .inr ⟨p,by simp [hp],h⟩
theorem ez : ∀ {l : List Nat},lt l = true -> l.Nodup
 | [],_ => List.nodup_nil
 | x :: r,h => by
  simp only [lt,Bool.and_eq_true,Bool.not_eq_true',List.contains_eq_mem,decide_eq_false_iff_not] at h
  exact List.nodup_cons.2 ⟨h.1,ez h.2⟩
section
variable {P : Program} {n : Nat} {o : Oper} {σ : St} {R : Type} {K : A -> Ups -> List Nat -> Option R} {r : R}
theorem js {F : Fr} {h : Ups} {loc : Nat -> Loc} {O : Nat -> List Res} {who : Nat -> Option (Option Nat)} {B : Nat -> Prop} {w w' : World} (s : HSc F h loc O who B w) {gone : List Nat} {o' : List Res} (hfrom : From h O gone o') (hnd : (aa o').Nodup)
  (hgf : ∀ id ∈ gone,∃ ob,hfind h id = some ob) {c : Array Value} {ty : TypeId} {fr : Nat × Nat} (hn : New c ty fr w w') (hu : iU c.size fr) (n : Nat) (hf : hfind h n = none) {z : Z} {xs : List D} {fl : List Value}
  (he : aZ w B z xs fl o') (hpre : ∃ rest,c.toList = fl ++ rest) (cap : Nat) (hcap : xs.length <= cap) (hcz : cap * z.1 <= c.size) :
  Done F h loc B w ((n,some (.arr z xs)) :: gone.map (·,none)) (.asl n none) (.slice (some ⟨w.heap.size,0,none⟩) xs.length cap) w' := by
 obtain ⟨who',s',e',a1,a2⟩ := s.kills gone hgf
 have hf' : hfind (gone.map (fun i => (i,(none : Option Blk))) ++ h) n = none := by
  rw [az,dB]
  by_cases hm : n ∈ gone
  ·obtain ⟨ob,hob⟩ := hgf n hm; rw [hf] at hob; cases hob
  ·simp [hm,hf]
 have hfl : ∀ r ∈ o',who' r.blk = some none := by
  intro r hr
  obtain ⟨id,hid,⟨b,hb⟩,hm⟩ := hfrom r hr
  exact a1 _ ⟨id,hid,s.own id b hb r hm⟩
 have hok : ∀ r ∈ o',okR F.w0 F.o0 r := by
  intro r hr
  obtain ⟨id,hid,⟨b,hb⟩,hm⟩ := hfrom r hr
  exact s.okr id b hb r hm
 obtain ⟨loc2,O2,who2,B2,s2,k2,r2⟩ := kj s' hn hu n hf' he hpre hfl hnd hok cap hcap hcz
 have k1 : Kp w B h loc w B (gone.map (fun i => (i,(none : Option Blk))) ++ h) loc := Kp.of (fun _ h => h) (fun _ _ => rfl) e'
 exact ⟨loc2,O2,who2,B2,s2,k1.trans k2,r2⟩
theorem lQ {t e : TypeId} {len k : Nat} {parts : Array (Nat × Operand)} {i : TypeInfo} {z : A} {ts : List TypeId} {xs : List D} {gone : List Nat} (ho : o.op = .buildSlice t len parts) (hu : P.underlying t = some (.slice e))
  (hi : P.info? e = some i) (hz : dd P e = some z) (hlen : len <= 4096) (hsz : 0 < i.size) (hsz2 : i.size <= vn)
  (hall : parts.toList.all (fun p => decide (p.1 < len) && bw (ev σ p.2) && (aC (ev σ p.2)).length == i.size) = true) (hzp : bw z = true) (hzl : (aC z).length = i.size)
  (hel : elems P σ.heap ts (db σ (List.replicate len z) parts.toList) = some (xs,gone)) (hnd : lt gone = true) (hk : ic P e xs = some k)
  (h : K (.asl n none) ((n,some (.arr (i.size,k) xs)) :: gone.map (·,none)) (gone ++ parts.toList.flatMap fun p => d9 (ev σ p.2)) = some r) : bc P n o σ K r := by
 refine ⟨_,_,_,h,⟨?_,?_⟩⟩
 ·intro id hid
  simp only [List.map_cons,List.map_map,List.mem_cons,List.mem_map] at hid
  rcases hid with rfl | ⟨g,hg,rfl⟩
  ·exact .inr (by simp [ai])
  ·exact .inl (by simp [hg])
 ·intro F hh a w loc O who B hr hf hfr s
  unfold dd at hz
  rw [hi] at hz
  simp only [Option.map_eq_some_iff] at hz
  obtain ⟨zv,hzz,rfl⟩ := hz
  have hzr : All2 (al w B hh loc) (aC (iR zv)) zv.cells.toList := ci (fX zv) hzp
  have hzc : zv.cells.size = i.size := by have := hzr.length; simp at this; omega
  have hpr : ∀ p ∈ parts.toList,p.1 < len /\ bw (ev σ p.2) = true /\ (aC (ev σ p.2)).length = i.size /\ aJ w B hh loc (ev σ p.2) (a.eval p.2) := by
   intro p hp
   have := List.all_eq_true.1 hall p hp
   simp only [Bool.and_eq_true,decide_eq_true_eq,beq_iff_eq] at this
   exact ⟨this.1.1,this.1.2,this.2,hr p.2 (by simp only [ho,Op.operands]; simp; exact ⟨p.1,by simpa using hp⟩)⟩
  have hrows := iy (w := w) (B := B) (hh := hh) (loc := loc) (s := i.size) (z := iR zv) (row := zv.cells.toList) ⟨by simpa using hzc,hzr⟩ len
  obtain ⟨rows',f1,f2⟩ := oX (a := a) parts.toList _ _ hrows (by
   intro p hp; have := hpr p hp; exact ⟨by simpa using this.1,this.2⟩)
  have hel' : elems P hh ts (db σ (List.replicate len (iR zv)) parts.toList) = some (xs,gone) := by
   rw [kY (h := σ.heap),hel]
   intro id hid
   simp only [List.mem_flatMap] at hid
   obtain ⟨b,hb,hid⟩ := hid
   refine hf id ?_
   rcases gx hb with hb | ⟨p,hp,rfl⟩
   ·have := List.eq_of_mem_replicate hb; subst this
    rw [kx] at hid; cases hid
   ·simp only [List.mem_append,List.mem_flatMap]; exact .inr ⟨p,hp,hid⟩
  have hgn := ez hnd
  have hplain : ∀ b ∈ db σ (List.replicate len (iR zv)) parts.toList,bw b = true := by
   intro b hb
   rcases gx hb with hb | ⟨p,hp,rfl⟩
   ·rw [List.eq_of_mem_replicate hb]; exact hzp
   ·exact (hpr p hp).2.1
  obtain ⟨o',p1,p2,p3,p4,p5⟩ := oG s f2 hel' hgn hplain (gv hk)
  have hxl : xs.length = len := by
   rw [p5]
   have : ∀ (ps : List (Nat × Operand)) (l : List A),(db σ l ps).length = l.length := by
    intro ps
    induction ps with
    | nil => intro l; rfl
    | cons q ps ih => intro l; obtain ⟨i,x⟩ := q; simp only [db]; rw [ih,fx]
   rw [this]; simp
  have hgf : ∀ id ∈ gone,∃ ob,hfind hh id = some ob := by
   intro id hid
   obtain ⟨b,hb⟩ := kZ hel' id hid
   exact ⟨_,hget_some.1 hb⟩
  have hrow := aw p1
  have hcap : len * i.size <= rows'.flatten.toArray.size := by simp only [List.size_toArray]; rw [hrow,hxl]; exact Nat.le_refl _
  have hd := js s p2 p3 hgf (New.push w rows'.flatten.toArray e) (gf _) n (hfr n (Nat.le_refl _) (by simp [ai])) p1 ⟨[],by simp⟩ len (by omega) hcap
  refine Runs.value (w' := { w with heap := w.heap.push (.cells rows'.flatten.toArray e) }) ?_ (hxl ▸ hd)
  have hsmall : ¬ len * i.size > 2 ^ 24 := by
   have : len * i.size <= 4096 * 64 := Nat.mul_le_mul hlen hsz2
   omega
  by_cases h0 : len = 0
  ·subst h0
   have hp0 : parts.toList = [] := by
    cases hq : parts.toList with
    | nil => rfl
    | cons p l => have := (hpr p (by rw [hq]; simp)).1; omega
   have hparts : parts = #[] := by rw [<- Array.toArray_toList (xs := parts),hp0]
   have hrl : rows'.flatten = [] := by
    exact List.length_eq_zero_iff.1 (by rw [hrow,hxl]; simp)
   have hr0 : ∀ (f : Nat -> Value),Array.map f (Array.range 0) = #[] := fun f => by simp
   rw [hrl]
   simp [hr0,execOp,ho,Instr.buildSlice,run_underlying hu,aP (show tsz P e = some i.size by simp [tsz,hi]),hparts,Instr.fill,eH]
  ·have hpos : ¬ len * i.size = 0 := by
    intro e0
    rcases Nat.mul_eq_zero.1 e0 with h1 | h1 <;> omega
   have hfill : Instr.fill (fun j => some (j * i.size,i.size)) ((Array.range (len * i.size)).map (zv.cells[· % zv.cells.size]!)) (parts.map fun (j,x) => (j,a.eval x)).toList = some rows'.flatten.toArray := by
    have e1 := jw (zc := zv.cells) (by omega) len
    rw [hzc] at e1
    have e2 : ((Array.range (len * i.size)).map (zv.cells[· % zv.cells.size]!)) = (List.replicate len zv.cells.toList).flatten.toArray := by
     apply Array.ext'
     rw [hzc]; simpa using e1
    rw [e2,Array.toList_map]
    exact f1
   simp only [execOp,ho,Sem.run_bind,run_buildSlice w t e len _ _ i zv hu hi hzz hsmall hpos hfill,Result.andThen_ok,Sem.run_pure]
   rfl
end
theorem rx {P : Program} {w : World} (b : Nat) : (askRoom b).run P w = .ok () w := by
 unfold askRoom; split <;> simp [mark,Sem.run]
theorem rX {k : Int} (h0 : 0 <= k) (h1 : k <= 4294967296) : IntKind.i64.wrap k = k := by
 exact IntWalk.i64_in k (by omega)
theorem New.drewAlloc (w : World) (c : Array Value) (e : TypeId) (fr : Nat × Nat) : New c e fr w (w.drew.alloc (.cells c e fr)) :=
 ⟨rfl,rfl,Array.size_push _,fun b hb => mZ (w := w) hb,mY (w := w)⟩
section
variable {P : Program} {n : Nat} {o : Oper} {σ : St} {R : Type} {K : A -> Ups -> List Nat -> Option R} {r : R}
theorem fE {w : World} {B : Nat -> Prop} {z : Z} {x : D} {row : List Value} (h : bW w B z x row []) : ∀ m : Nat,aZ w B z (List.replicate m x) (List.replicate m row).flatten []
 | 0 => ⟨rfl,rfl⟩
 | m + 1 => ⟨row,_,[],[],by rw [List.replicate_succ,List.flatten_cons],rfl,h,fE h m⟩
theorem nu {t e : TypeId} {l c : Operand} {i : TypeInfo} {z : A} {ts : List TypeId} {x : D} {k : Int} {q : Nat} (ho : o.op = .makeSlice t l c) (hu : P.underlying t = some (.slice e)) (hi : P.info? e = some i) (hz : dd P e = some z)
  (hl : ev σ l = .d (.int .i64 k)) (hsame : qm l c = true) (hel : fe P [] ts z = some (x,[])) (hpl : bw z = true) (hzl : (aC z).length = i.size) (hsz : 0 < i.size) (hsz2 : i.size <= vn) (hby : i.bytes <= 1024)
  (hk : ic P e [x] = some q) (hb : 0 <= k /\ k <= LIM) (h : K (.asl n none) [(n,some (.arr (i.size,q) (List.replicate k.toNat x)))] [] = some r) : bc P n o σ K r := by
 refine ⟨_,_,_,h,⟨fun id hid => .inr (by simp at hid; subst hid; simp [ai]),fun F hh a w loc O who B hr hf hfr s => ?_⟩⟩
 have hlv := hr l (by simp [ho,Op.operands]); rw [hl,rep_int] at hlv
 have hcv : ∃ kk,a.eval c = .int kk k := by
  unfold qm at hsame
  split at hsame
  ·simp at hsame; subst hsame; exact ⟨_,hlv⟩
  ·simp at hsame; subst hsame
   simp only [Act.eval] at hlv; cases hlv; exact ⟨_,rfl⟩
  ·cases hsame
 obtain ⟨kk,hcv⟩ := hcv
 unfold dd at hz
 rw [hi] at hz
 simp only [Option.map_eq_some_iff] at hz
 obtain ⟨zv,hzz,rfl⟩ := hz
 have hzr : All2 (al w B hh loc) (aC (iR zv)) zv.cells.toList := ci (fX zv) hpl
 have hzc : zv.cells.size = i.size := by have := hzr.length; simp at this; omega
 have hel' : fe P hh ts (iR zv) = some (x,[]) := by
  rw [gk (h := []),hel]; intro id hid; rw [kx] at hid; cases hid
 obtain ⟨o',p1,p2,p3,p4,p5⟩ := jN s (s := i.size) ⟨by simpa using hzc,hzr⟩ hel' List.nodup_nil hpl
 have ho' : o' = [] := by
  cases o' with
  | nil => rfl
  | cons r rs => obtain ⟨id,hid,_⟩ := p2 r (by simp); cases hid
 subst ho'
 have hkk := gv hk x (by simp)
 have hels := fE (m := k.toNat) (z := (i.size,q)) ⟨p1,p5,hkk⟩
 have hd := kj s (New.push w (List.replicate k.toNat zv.cells.toList).flatten.toArray e) (gf _) n (hfr n (Nat.le_refl _) (by simp [ai])) hels ⟨[],by simp⟩ (by simp) (by simp [aa]) (by simp) k.toNat (by simp) (by
  simp only [List.size_toArray]
  have := aw hels
  rw [this]; simp)
 have hLIM : k <= 4294967296 := pE ▸ hb.2
 have hnl : ¬ ((i.bytes : Int) * k > 281474976710656) := by
  have : (i.bytes : Int) * k <= 1024 * 4294967296 := by
   apply Int.mul_le_mul (by omega) (by omega) hb.1 (by omega)
  omega
 refine Runs.value (w' := { w with heap := w.heap.push (.cells (List.replicate k.toNat zv.cells.toList).flatten.toArray e) }) (v := .slice (some ⟨w.heap.size,0,none⟩) k.toNat k.toNat) ?_ (by simpa using hd)
 have hrange : ((Array.range (k.toNat * i.size)).map (zv.cells[· % zv.cells.size]!)) = (List.replicate k.toNat zv.cells.toList).flatten.toArray := by
  apply Array.ext'
  rw [show i.size = zv.cells.size from hzc.symm]
  simpa using jw (zc := zv.cells) (by omega) k.toNat
 have hk0 : ¬ k < 0 := by omega
 by_cases h0 : k.toNat * i.size = 0
 ·have hk' : k.toNat = 0 := by rcases Nat.mul_eq_zero.1 h0 with h1 | h1 <;> omega
  have hempty : (List.replicate k.toNat zv.cells.toList).flatten.toArray = #[] := by rw [hk']; rfl
  rw [hempty]
  have hr0 : ∀ (f : Nat -> Value),Array.map f (Array.range 0) = #[] := fun f => by simp
  simp [execOp,ho,Instr.makeSlice,run_underlying hu,hlv,hcv,asInt,asIntOf,cR hi,rX hb.1 hLIM,hk0,hnl,aP (show tsz P e = some i.size by simp [tsz,hi]),h0,hr0,eH]
 ·simp [execOp,ho,Instr.makeSlice,run_underlying hu,hlv,hcv,asInt,asIntOf,cR hi,rX hb.1 hLIM,hk0,hnl,aP (show tsz P e = some i.size by simp [tsz,hi]),h0,zeroValue,hzz,hrange,eH]
theorem qo {src dst : TypeId} {x : Operand} {k k' : IntKind} {m : Int} {sd : TypeDesc} (ho : o.op = .convert src dst x) (hs : P.underlying src = some sd) (hd : P.underlying dst = some (.int k)) (hx : ev σ x = .d (.int k' m))
  (h : K (.d (.int k (k.wrap m))) [] [] = some r) : bc P n o σ K r :=
 ⟨_,_,_,h,Sound.pure fun hh a w loc B hr _ => by
  have h1 := hr x (by simp [ho,Op.operands]); rw [hx,rep_int] at h1
  exact ⟨.int k (k.wrap m),by simp [execOp,ho,convert,run_underlying hs,run_underlying hd,h1,Conv.intToInt],rep_int.2 rfl⟩⟩
theorem nQ {src dst : TypeId} {x : Operand} {k k' : IntKind} {m : Int} (ho : o.op = .convert src dst x) (hs : P.underlying src = some (.int k)) (hd : P.underlying dst = some .string) (hx : ev σ x = .d (.int k' m))
  (h : K (.d (.str (Utf8.encode m))) [] [] = some r) : bc P n o σ K r :=
 ⟨_,_,_,h,Sound.pure fun hh a w loc B hr _ => by
  have h1 := hr x (by simp [ho,Op.operands]); rw [hx,rep_int] at h1
  exact ⟨.string (Utf8.encode m),by simp [execOp,ho,convert,run_underlying hs,run_underlying hd,h1,Conv.intToString],rep_str.2 rfl⟩⟩
theorem qp {src dst : TypeId} {x : Operand} {t : ByteArray} (ho : o.op = .convert src dst x) (hs : P.underlying src = some .string) (hd : P.underlying dst = some .string) (hx : ev σ x = .d (.str t))
  (h : K (.d (.str t)) [] [] = some r) : bc P n o σ K r :=
 ⟨_,_,_,h,Sound.pure fun hh a w loc B hr _ => by
  have h1 := hr x (by simp [ho,Op.operands]); rw [hx,rep_str] at h1
  exact ⟨.string t,by simp [execOp,ho,convert,run_underlying hs,run_underlying hd,h1],rep_str.2 rfl⟩⟩
theorem mj {w : World} {B : Nat -> Prop} (l : List UInt8) : aZ w B (1,0) (l.map fun b => D.int .u8 b.toNat) (l.map fun b => Value.int .u8 b.toNat) [] := by
 induction l with
 | nil => exact ⟨rfl,rfl⟩
 | cons b l ih =>
  refine ⟨[.int .u8 b.toNat],_,[],[],rfl,rfl,⟨?_,rfl,?_⟩,ih⟩
  ·exact repDs_one.2 ⟨_,rfl,trivial,by simp [ac]⟩
  ·intro c hc; simp [ay] at hc; subst hc; rfl
theorem nt {src dst e : TypeId} {x : Operand} {t : ByteArray} (ho : o.op = .convert src dst x) (hs : P.underlying src = some .string) (hd : P.underlying dst = some (.slice e)) (he : P.underlying e = some (.int .u8)) (hx : ev σ x = .d (.str t))
  (h : K (.asl n none) [(n,some (.arr (1,0) (gU t)))] [] = some r) : bc P n o σ K r := by
 refine ⟨_,_,_,h,⟨fun id hid => .inr (by simp at hid; subst hid; simp [ai]),fun F hh a w loc O who B hr hf hfr s => ?_⟩⟩
 have h1 := hr x (by simp [ho,Op.operands]); rw [hx,rep_str] at h1
 have hrun := run_bytes_of_string (P := P) w src dst e t hs hd he
 have hcap : t.size <= grownCap w t.size 0 e := grownCap_ge w _ _ _
 have hlen : (gU t).length = t.size := by unfold gU; rw [lnM,Array.length_toList]; rfl
 have hbs : (bytesRow t (grownCap w t.size 0 e)).size = grownCap w t.size 0 e := by
  unfold bytesRow
  rw [Array.size_append,Array.size_map,Array.size_replicate]
  have : t.data.size = t.size := rfl
  omega
 have hd' := kj (c := bytesRow t (grownCap w t.size 0 e)) (ty := e) (fr := ((bytesRow t (grownCap w t.size 0 e)).size,(bytesRow t (grownCap w t.size 0 e)).size + 1)) (z := (1,0)) (xs := gU t)
  (fl := t.data.toList.map fun b => Value.int .u8 b.toNat) (o' := []) (w' := w.drew.alloc (.cells (bytesRow t (grownCap w t.size 0 e)) e ((bytesRow t (grownCap w t.size 0 e)).size,(bytesRow t (grownCap w t.size 0 e)).size + 1)))
  s (New.drewAlloc w _ _ _)
  (fun j hj => ⟨fun hh => by simp at hh; omega,by simp⟩) n (hfr n (Nat.le_refl _) (by simp [ai])) (mj _) ⟨_,by simp [bytesRow]; rfl⟩ (by simp) (by simp [aa]) (by simp) (grownCap w t.size 0 e) (by omega) (by rw [hbs]; simp)
 refine Runs.value (w' := _) ?_ (hlen ▸ hd')
 simp only [execOp,ho,h1,Sem.run_bind,hrun,Result.andThen_ok,Sem.run_pure]
end
section
variable {P : Program} {F : Fr} {h : Ups} {loc : Nat -> Loc} {O : Nat -> List Res} {who : Nat -> Option (Option Nat)} {B : Nat -> Prop} {w : World}
theorem mo {xs : List D} {rng : Option (Nat × Nat)} (h0 : bz xs.length rng = 0) : part xs rng = [] := by
 cases rng with
 | none => simpa [part,bz] using h0
 | some p => obtain ⟨k,q⟩ := p; simp [bz] at h0; simp [part,h0]
theorem gN (s : HSc F h loc O who B w) {a : A} {v : Value} {sz : Nat} {xs : List D} {z : Z} {f : List Nat} (ha : aJ w B h loc a v) (hall : cn h sz a = some (xs,z,f)) (hns : ∀ t,a ≠ .d (.str t)) :
  ∃ o fl base cap,v = .slice base xs.length cap /\ xs.length <= cap /\ aZ w B z xs fl o /\ (xs ≠ [] -> ∃ b off,base = some ⟨b,off,none⟩ /\ cellsAt w b off fl) /\ From h O f o /\ (aa o).Nodup /\ (∀ id ∈ f,∃ b,ae h id = some b) := by
 cases a with
 | d y =>
  cases y with
  | str t => exact absurd rfl (hns t)
  | nl =>
   simp only [cn] at hall
   cases hall
   have hv := rep_nl.1 ha
   exact ⟨[],[],none,0,hv,Nat.le_refl _,⟨rfl,rfl⟩,fun h => absurd rfl h,by simp [From],by simp [aa],by simp⟩
  | rs z' xs' =>
   simp only [cn] at hall
   cases hall
   have h2 := ha.2
   simp only [ac,true_and] at h2
   rcases h2 with ⟨rfl,ad,cap,hv⟩ | ⟨b,off,cap,hv,hc,hz,hB,he⟩
   ·exact ⟨[],[],ad,cap,hv,Nat.zero_le _,⟨rfl,rfl⟩,fun h => absurd rfl h,by simp [From],by simp [aa],by simp⟩
   ·obtain ⟨fl,h3,h4⟩ := aW he
    exact ⟨[],fl,_,cap,hv,hc,h3,fun _ => ⟨b,off,rfl,h4⟩,by simp [From],by simp [aa],by simp⟩
  | _ => simp [cn] at hall
 | asl id rng =>
  have ha1 : al w B h loc (.asl id rng) v := ha
  obtain ⟨_,ob,hob,hb⟩ := ha1
  have arrc : ∀ (blk : Blk) (z' : Z) (xs' : List D),ae h id = some blk -> (blk = .arr z' xs' \/ blk = .fz z' xs') -> ∃ o fl base cap,v = .slice base (part xs' rng).length cap /\ (part xs' rng).length <= cap /\ aZ w B z' (part xs' rng) fl o /\
    (part xs' rng ≠ [] -> ∃ b off,base = some ⟨b,off,none⟩ /\ cellsAt w b off fl) /\ From h O [id] o /\ (aa o).Nodup := by
   intro blk z' xs' hg hblk
   have hfd := hget_some.1 hg
   rw [hfd] at hob; cases hob
   obtain ⟨m,hm,hs⟩ := hb _ rfl
   have hm' : m = xs'.length := by rcases hblk with rfl | rfl <;> simp [aI] at hm <;> exact hm.symm
   have hz' : b9 blk = z'.1 := by rcases hblk with rfl | rfl <;> rfl
   subst hm'; rw [hz'] at hs
   have hrep := s.blk id _ hg (fun hx => hx)
   have hnod := s.nod id _ hg
   rcases cz hs with ⟨hl,hm0,hl0,ad,hv⟩ | ⟨b,base,sz',ad,cap,hl,hv,hc,hle,had⟩
   ·rw [mo hl0]
    exact ⟨[],[],ad,0,hv,Nat.le_refl _,⟨rfl,rfl⟩,fun h => absurd rfl h,by simp [From],by simp [aa]⟩
   ·have hpl := ip hle
    by_cases h0 : bz xs'.length rng = 0
    ·rw [mo h0]
     exact ⟨[],[],some ad,cap,by rw [hv,h0]; rfl,Nat.zero_le _,⟨rfl,rfl⟩,fun h => absurd rfl h,by simp [From],by simp [aa]⟩
    ·obtain ⟨rfl,_⟩ := had (by omega)
     rcases hblk with rfl | rfl
     ·rcases hrep with ⟨h1,_⟩ | ⟨b',base',sz'',c,ty,fr,o',hl',hh,hsz,hu,he,hO⟩
      ·rw [hl] at h1; cases h1
      ·rw [hl] at hl'; cases hl'
       obtain ⟨o1,hsub,he1⟩ := fu hle he
       obtain ⟨fl,h3,h4⟩ := aW he1
       refine ⟨o1,fl,_,cap,by rw [hpl]; exact hv,by rw [hpl]; exact hc,h3,fun _ => ⟨b,_,rfl,h4⟩,?_,?_⟩
       ·intro r hr
        exact ⟨id,by simp,⟨_,hg⟩,by rw [hO]; exact List.mem_cons_of_mem _ (hsub.subset hr)⟩
       ·rw [hO] at hnod
        exact (List.nodup_cons.1 (by simpa [aa] using hnod)).2.sublist (hsub.map _)
     ·obtain ⟨_,hz,hb'⟩ := hrep
      rcases hb' with ⟨h1,_⟩ | ⟨b',base',sz'',hl',he,hB⟩
      ·rw [hl] at h1; cases h1
      ·rw [hl] at hl'; cases hl'
       obtain ⟨o1,hsub,he1⟩ := fu hle he
       have : o1 = [] := List.sublist_nil.1 hsub
       subst this
       obtain ⟨fl,h3,h4⟩ := aW he1
       exact ⟨[],fl,_,cap,by rw [hpl]; exact hv,by rw [hpl]; exact hc,h3,fun _ => ⟨b,_,rfl,h4⟩,by simp [From],by simp [aa]⟩
  simp only [cn] at hall
  split at hall
  ·rename_i z' xs' hg
   cases hall
   obtain ⟨o,fl,base,cap,h1,h2,h3,h4,h5,h6⟩ := arrc _ _ _ hg (.inl rfl)
   exact ⟨o,fl,base,cap,h1,h2,h3,h4,h5,h6,by simp [hg]⟩
  ·rename_i z' xs' hg
   cases hall
   obtain ⟨o,fl,base,cap,h1,h2,h3,h4,h5,h6⟩ := arrc _ _ _ hg (.inr rfl)
   exact ⟨o,fl,base,cap,h1,h2,h3,h4,h5,h6,by simp [hg]⟩
  ·cases hall
 | _ => simp [cn] at hall
theorem kT {h h' : Ups} {sz : Nat} {a : A} {xs : List D} {z : Z} {f : List Nat} (hall : cn h sz a = some (xs,z,f)) (e : ∀ id ∈ f,hfind h' id = hfind h id) : cn h' sz a = some (xs,z,f) := by
 cases a with
 | asl id rng =>
  simp only [cn] at hall ⊢
  have key : ∀ b,ae h id = some b -> f = [id] -> ae h' id = some b := fun b hb hf => by rw [am (e id (by simp [hf])),hb]
  split at hall
  ·rename_i hg; cases hall; rw [key _ hg rfl]
  ·rename_i hg; cases hall; rw [key _ hg rfl]
  ·cases hall
 | d y => cases y <;> (first | (simp [cn] at hall; done) | simpa [cn] using hall)
 | _ => simp [cn] at hall
theorem d6 {size len cap : Nat} {base : Option Addr} {fl : List Value} (hl : fl.length = len * size) (hc : len ≠ 0 -> ∃ b off,base = some ⟨b,off,none⟩ /\ cellsAt w b off fl) :
  (Builtin.firstCells size len (.slice base len cap)).run P w = .ok fl.toArray w := by
 by_cases h0 : len = 0
 ·subst h0
  have : fl = [] := List.length_eq_zero_iff.1 (by simpa using hl)
  subst this
  cases base <;> simp [Builtin.firstCells,loadCells,loadCellsFrom]
 ·obtain ⟨b,off,rfl,h1⟩ := hc h0
  simp only [Builtin.firstCells]
  rw [<- hl]
  exact fF h1
theorem mu {size : Nat} {t : ByteArray} : (Builtin.firstCells size t.size (.string t)).run P w = .ok (t.data.toList.map fun b => Value.int .u8 b.toNat).toArray w := by
 have e : t.extract 0 t.size = t := ByteArray.extract_zero_size
 simp only [Builtin.firstCells,Sem.run_pure,e]
 congr 1
 apply Array.ext'
 rw [Array.toList_map]
theorem o9 (newLen : Nat) : ∀ (r c : Nat),Builtin.growBy newLen r c <= max c (newLen + (newLen + 768) / 4)
 | 0,c => Nat.le_max_left _ _
 | r + 1,c => by
  simp only [Builtin.growBy]
  split
  ·exact Nat.le_max_left _ _
  ·have := o9 newLen r (c + (c + 768) / 4)
   refine Nat.le_trans this ?_
   simp only [Nat.max_le]
   omega
theorem sG {need cap : Nat} (h : cap < need) : Builtin.nextslicecap need cap <= 2 * need + 1000 := by
 unfold Builtin.nextslicecap
 split
 ·omega
 ·split
  ·omega
  ·have := o9 need 4 cap
   refine Nat.le_trans this ?_
   simp only [Nat.max_le]
   omega
theorem wX {base : Option Addr} {len cap : Nat} : (Builtin.lenOf (.slice base len cap)).run P w = .ok len w := rfl
theorem ff {t u ty e : TypeId} {i : TypeInfo} {base : Option Addr} {sLen sCap m : Nat} {x : Value} {news : List Value} {ud : TypeDesc} (hu : P.underlying t = some (.slice e)) (hi : P.info? e = some i) (hud : P.underlying u = some ud) (hni : ∀ k,ud ≠ .int k)
  (hx : (Builtin.lenOf x).run P w = .ok m w) (hfx : (Builtin.firstCells i.size m x).run P w = .ok news.toArray w) (hroom : sLen + m <= sCap) :
  (Builtin.append_ #[t,u] ty #[.slice base sLen sCap,x]).run P w =
   ((match base with | some a => storeCells (a.add (sLen * i.size)) news | none => pure ()).run P w).andThen fun _ w' => .ok (.slice base (sLen + m) sCap) w' := by
 have hz : (match ud with | .int _ => true | _ => false) = false := by cases ud <;> first | rfl | exact absurd rfl (hni _)
 cases base <;> simp [Builtin.append_,run_underlying hu,run_underlying hud,sizeOf,cR hi,hx,hroom,hfx]
theorem lZ {t u ty e : TypeId} {i : TypeInfo} {z : Value} {base : Option Addr} {sLen sCap m : Nat} {x : Value} {olds news : List Value} {ud : TypeDesc} (hu : P.underlying t = some (.slice e)) (hi : P.info? e = some i) (hz : i.zero = some z) (hud : P.underlying u = some ud) (hni : ∀ k,ud ≠ .int k)
  (hx : (Builtin.lenOf x).run P w = .ok m w) (hfx : ∀ w',(∀ b o,w'.cell? ⟨b,o,none⟩ = w.cell? ⟨b,o,none⟩) -> (Builtin.firstCells i.size m x).run P w' = .ok news.toArray w')
  (hfo : ∀ w',(∀ b o,w'.cell? ⟨b,o,none⟩ = w.cell? ⟨b,o,none⟩) -> (Builtin.firstCells i.size sLen (.slice base sLen sCap)).run P w' = .ok olds.toArray w') (hroom : sCap < sLen + m) (hby : i.bytes <= 1024) (hlim : sLen + m <= 4294967296) :
  ∃ c cap,(Builtin.append_ #[t,u] ty #[.slice base sLen sCap,x]).run P w = .ok (.slice (some ⟨w.heap.size,0,none⟩) (sLen + m) cap) (w.drew.alloc (.cells c e)) /\ sLen + m <= cap /\ (∃ rest,c.toList = olds ++ news ++ rest) /\ c.size = (olds.length + news.length) + (cap - (sLen + m)) * z.cells.size := by
 have hzz : (match ud with | .int _ => true | _ => false) = false := by cases ud <;> first | rfl | exact absurd rfl (hni _)
 have hn : ¬ (sLen + m <= sCap) := by omega
 have h63 : ¬ (9223372036854775807 < ((sLen : Int) + (m : Int))) := by omega
 have h48 : ¬ (281474976710656 < Builtin.nextslicecap (sLen + m) sCap * i.bytes) := by
  have h1 := sG hroom
  have h2 : Builtin.nextslicecap (sLen + m) sCap * i.bytes <= (2 * 4294967296 + 1000) * 1024 := Nat.mul_le_mul (by omega) hby
  omega
 have hfx' := hfx w.drew (fun b o => rfl)
 have hfo' := hfo w.drew (fun b o => rfl)
 refine ⟨olds.toArray ++ news.toArray ++ Builtin.zeroCells z.cells (grownCap w (sLen + m) sCap e - (sLen + m)),grownCap w (sLen + m) sCap e,?_,grownCap_ge w _ _ _,⟨(Builtin.zeroCells z.cells (grownCap w (sLen + m) sCap e - (sLen + m))).toList,by simp⟩,?_⟩
 ·have hk : ∀ W : World,(askRoom (grownCap w (sLen + m) sCap e * i.bytes)).run P W = .ok () W := fun W => rx _
  simp only [grownCap] at hk
  simp [Builtin.append_,run_underlying hu,run_underlying hud,sizeOf,cR hi,zeroValue,hz,hx,hn,h63,h48,Question.forced,hfx',hfo',newRow,grownCap]
  congr 2
  apply Array.ext'
  simp
 ·simp [size_zeroCells]
end
theorem kt {w : World} {B : Nat -> Prop} {z : Z} (hk : z.2 <= 1) : ∀ {xs : List D} {fl : List Value} {o : List Res},aZ w B z xs fl o -> o = []
 | [],_,_,h => h.2
 | x :: xs,fl,o,h => by
  obtain ⟨vs,fr,o1,o2,rfl,rfl,h1,h2⟩ := h
  rw [ft hk h1.2.2 h1.1,kt hk h2]; rfl
theorem kV {w : World} {B : Nat -> Prop} {c : D} {v : Value} {o : List Res} (hi : bV c) (h : ac w B c v o) : eE v := by
 cases c <;> first | exact hi.elim | skip
 case rs z xs => simp only [ac] at h; obtain ⟨_,⟨_,a,cap,rfl⟩ | ⟨b,off,cap,rfl,_⟩⟩ := h <;> trivial
 case os z xs => simp only [ac] at h; rcases h with ⟨_,_,a,rfl⟩ | ⟨b,off,cap,c,ty,fr,o',rfl,_⟩ <;> trivial
 case bp cs => simp only [ac] at h; obtain ⟨_,b,off,vs,rfl,_⟩ := h; trivial
 case op cs => simp only [ac] at h; obtain ⟨b,off,vs,c,ty,fr,o',rfl,_⟩ := h; trivial
 case fn f caps => simp only [ac] at h; obtain ⟨_,vs,rfl,_⟩ := h; trivial
 case dead => simp only [ac] at h; exact h.1
 all_goals (simp only [ac] at h; obtain ⟨rfl,_⟩ := h; trivial)
theorem gD {w : World} {B : Nat -> Prop} : ∀ {cs : List D} {vs : List Value} {o : List Res},ak w B cs vs o -> ∀ v ∈ vs,eE v
 | [],vs,o,h => by simp only [ak] at h; rw [h.1]; simp
 | c :: cs,vs,o,h => by
  simp only [ak] at h
  obtain ⟨u,us,p1,p2,rfl,rfl,hi,g1,g2⟩ := h
  intro v hv
  rcases List.mem_cons.1 hv with rfl | hv
  ·exact kV hi g1
  ·exact gD g2 v hv
theorem gl {w : World} {B : Nat -> Prop} {z : Z} : ∀ {xs : List D} {fl : List Value} {o : List Res},aZ w B z xs fl o -> ∀ v ∈ fl,eE v
 | [],fl,o,h => by rw [h.1]; simp
 | x :: xs,fl,o,h => by
  obtain ⟨vs,fr,o1,o2,rfl,rfl,h1,h2⟩ := h
  intro v hv
  rcases List.mem_append.1 hv with hv | hv
  ·exact gD h1.1 v hv
  ·exact gl h2 v hv
theorem oJ {w : World} {B : Nat -> Prop} {z k : Z} {ys : List D} {fl : List Value} {o : List Res} (h : aZ w B k ys fl o) (hz : z.1 = k.1) (hk : z.2 = k.2 \/ ys = []) : aZ w B z ys fl o := by
 rcases hk with hk | rfl
 ·have : z = k := Prod.ext hz hk
  subst this; exact h
 ·exact h
section
variable {P : Program} {F : Fr} {h : Ups} {loc : Nat -> Loc} {O : Nat -> List Res} {who : Nat -> Option (Option Nat)} {B : Nat -> Prop} {w : World}
theorem From.nil {g : List Nat} : From h O g [] := by simp [From]
theorem qd (s : HSc F h loc O who B w) {id n : Nat} {g : List Nat} {z : Z} {xs ys : List D} {fl2 : List Value} {oy : List Res} {l : Nat} {b base sz : Nat} {w' : World}
  (hg : ae h id = some (.arr z xs)) (hl : l <= xs.length) (hloc : loc id = .at b base sz) (hy : aZ w B z ys fl2 oy) (hfrom : From h O g oy) (hnd : (aa oy).Nodup) (hgf : ∀ i ∈ g,∃ b,ae h i = some b)
  (hid : id ∉ g) (hf : hfind h n = none) (hw : Wr b (base + l * z.1) fl2 w w') :
  ∃ loc' O' who',HSc F ((n,some (.arr z (xs.take l ++ ys))) :: (id :: g).map (·,none) ++ h) loc' O' who' B w' /\ Kp w B h loc w' B ((n,some (.arr z (xs.take l ++ ys))) :: (id :: g).map (·,none) ++ h) loc' /\ loc' n = .at b base sz := by
 have hrep := s.blk id _ hg (fun hx => hx)
 rcases hrep with ⟨h1,_⟩ | ⟨b',base',sz',c,ty,fr,o',hl',hh,hsz,hu,he,hO⟩
 ·rw [hloc] at h1; cases h1
 rw [hloc] at hl'; cases hl'
 have hnodI := s.nod id _ hg
 rw [hO] at hnodI
 obtain ⟨o1,hsub,he1⟩ := jB l he
 obtain ⟨fl1,hfl1,hc1⟩ := aW he1
 have hfound : ∀ i ∈ id :: g,∃ ob,hfind h i = some ob := by
  intro i hi
  rcases List.mem_cons.1 hi with rfl | hi
  ·exact ⟨_,hget_some.1 hg⟩
  ·obtain ⟨bb,hb⟩ := hgf i hi; exact ⟨_,hget_some.1 hb⟩
 obtain ⟨who1,s1,e1,a1,a2⟩ := s.kills (id :: g) hfound
 have whoB : who b = some (some id) := s.own id _ hg (.arr b) (by rw [hO]; simp)
 have fb : who1 b = some none := a1 b ⟨id,by simp,whoB⟩
 have fy : ∀ r ∈ oy,who1 r.blk = some none := by
  intro r hr
  obtain ⟨i,hi,⟨bb,hb⟩,hm⟩ := hfrom r hr
  exact a1 _ ⟨i,by simp [hi],s.own i bb hb r hm⟩
 have fo : ∀ r ∈ o1,who1 r.blk = some none := by
  intro r hr
  exact a1 _ ⟨id,by simp,s.own id _ hg r (by rw [hO]; exact List.mem_cons_of_mem _ (hsub.subset hr))⟩
 have nby : b ∉ aa oy := by
  intro hm
  obtain ⟨r,hr,e⟩ := List.mem_map.1 hm
  obtain ⟨i,hi,⟨bb,hb⟩,hm'⟩ := hfrom r hr
  have := s.own i bb hb r hm'
  rw [e,whoB] at this
  have : id = i := by simpa using this
  subst this; exact hid hi
 have nbo : b ∉ aa o1 := by
  intro hm
  have := (List.nodup_cons.1 (show (b :: aa o').Nodup from hnodI)).1
  exact this ((hsub.map _).subset hm)
 have nB : ¬ B b := (s.mine b _ whoB).1
 have hother := hw.other
 -- the world goes on
 obtain ⟨s2,k2⟩ := s1.world (w' := w') (by rw [hw.size]; exact Nat.le_refl _) (s1.chg.step hw.chg (by
  intro r hr
  simp at hr; subst hr
  have hok := s.okr id _ hg (.arr b) (by rw [hO]; simp)
  rcases hok with hok | ⟨hok1,hok2⟩
  ·exact .inl hok
  ·exact .inr ⟨hok1,fun j hj => hok2 j rfl⟩)) (by
  intro b' hb'
  refine hother b' ?_
  rintro rfl
  rcases hb' with hb' | ⟨i,hi,_⟩
  ·exact nB hb'
  ·rw [fb] at hi; cases hi)
 have hcell : ∃ c',w'.heap[b]? = some (.cells c' ty fr) /\ c'.size = c.size := by
  obtain ⟨c0,ty0,fr0,c',h5,h6,h7,_⟩ := hw.cells
  rw [hh] at h5; cases h5
  exact ⟨c',h6,h7⟩
 obtain ⟨c',hh',hsz'⟩ := hcell
 have hlen1 : fl1.length = (xs.take l).length * z.1 := aw hfl1
 have htl : (xs.take l).length = l := by rw [List.length_take]; omega
 have same1 : Same w w' B o1 := by
  intro b' hb'
  refine hother b' ?_
  rintro rfl
  rcases hb' with hb' | hb'
  ·exact nB hb'
  ·exact nbo hb'
 have same2 : Same w w' B oy := by
  intro b' hb'
  refine hother b' ?_
  rintro rfl
  rcases hb' with hb' | hb'
  ·exact nB hb'
  ·exact nby hb'
 have he' : au w' B b base z (xs.take l ++ ys) (o1 ++ oy) := by
  refine (bG _ _ _).2 ⟨o1,oy,rfl,bj (bh (fun _ h => h) same1 hfl1) (hw.keep hc1 (.inl (by rw [hlen1,htl]; exact Nat.le_refl _))),?_⟩
  rw [htl]
  exact bj (bh (fun _ h => h) same2 hy) hw.cellsAt
 have hf' : hfind ((id :: g).map (fun i => (i,(none : Option Blk))) ++ h) n = none := by
  rw [az,dB]
  by_cases hm : n ∈ id :: g
  ·obtain ⟨ob,hob⟩ := hfound n hm; rw [hf] at hob; cases hob
  ·simp only [hm,if_false]; exact hf
 have ext : Ext ((id :: g).map (fun i => (i,(none : Option Blk))) ++ h) loc ((n,some (.arr z (xs.take l ++ ys))) :: ((id :: g).map (fun i => (i,(none : Option Blk))) ++ h)) (fun i => if i = n then .at b base sz else loc i) := by
  intro i ob ho
  rw [aj]
  have hne : ¬ n = i := by intro e; subst e; rw [hf'] at ho; cases ho
  exact ⟨ob,by simp only [hne,if_false]; exact ho,fun bb hb => ⟨bb,hb,rfl,rfl,by simp [show ¬ i = n from fun e => hne e.symm]⟩⟩
 have hoyid : ∀ x ∈ aa o1,∀ y ∈ aa oy,x ≠ y := by
  intro x hx y hy e
  obtain ⟨r1,hr1,rfl⟩ := List.mem_map.1 hx
  obtain ⟨r2,hr2,rfl⟩ := List.mem_map.1 hy
  have w1 := s.own id _ hg r1 (by rw [hO]; exact List.mem_cons_of_mem _ (hsub.subset hr1))
  obtain ⟨i,hi,⟨bb,hb⟩,hm'⟩ := hfrom r2 hr2
  have w2 := s.own i bb hb r2 hm'
  rw [e,w2] at w1
  have : i = id := by simpa using w1
  subst this; exact hid hi
 have s3 := s2.set n (.arr z (xs.take l ++ ys)) (.at b base sz) (.arr b :: (o1 ++ oy)) ext (.inr ⟨b,base,sz,c',ty,fr,o1 ++ oy,rfl,hh',by rw [hsz',hsz],hsz ▸ hu,he',rfl⟩) (by
   intro r hr
   left
   rcases List.mem_cons.1 hr with rfl | hr
   ·exact fb
   ·rcases List.mem_append.1 hr with hr | hr
    ·exact fo r hr
    ·exact fy r hr) (by
   show (b :: aa (o1 ++ oy)).Nodup
   have e : aa (o1 ++ oy) = aa o1 ++ aa oy := List.map_append
   rw [e,List.nodup_cons,List.mem_append,not_or,List.nodup_append]
   exact ⟨⟨nbo,nby⟩,(List.nodup_cons.1 (show (b :: aa o').Nodup from hnodI)).2.sublist (hsub.map _),hnd,hoyid⟩) (by
   intro r hr
   rcases List.mem_cons.1 hr with rfl | hr
   ·exact s.okr id _ hg _ (by rw [hO]; simp)
   ·rcases List.mem_append.1 hr with hr | hr
    ·exact s.okr id _ hg r (by rw [hO]; exact List.mem_cons_of_mem _ (hsub.subset hr))
    ·obtain ⟨i,hi,⟨bb,hb⟩,hm'⟩ := hfrom r hr
     exact s.okr i bb hb r hm')
 have k1 : Kp w B h loc w B ((id :: g).map (fun i => (i,(none : Option Blk))) ++ h) loc := Kp.of (fun _ h => h) (fun _ _ => rfl) e1
 have k3 := Kp.of (w := w') (w' := w') (B := B) (B' := B) (fun _ h => h) (fun _ _ => rfl) ext
 exact ⟨_,_,_,s3.same (fun i hi => hi.1.elim),(k1.trans k2).trans k3,by simp⟩
end
theorem Wr.refl {w : World} {b lo : Nat} {c : Array Value} {ty : TypeId} {fr : Nat × Nat} (h : w.heap[b]? = some (.cells c ty fr)) : Wr b lo [] w w :=
 ⟨rfl,rfl,rfl,fun _ _ => rfl,c,ty,fr,c,h,h,rfl,fun _ _ => rfl,fun j v hj => by simp at hj⟩
section
variable {P : Program} {F : Fr} {h : Ups} {loc : Nat -> Loc} {O : Nat -> List Res} {who : Nat -> Option (Option Nat)} {B : Nat -> Prop} {w : World}
theorem pj (s : HSc F h loc O who B w) {n : Nat} {gone : List Nat} (hgf : ∀ id ∈ gone,∃ ob,hfind h id = some ob) (hf : hfind h n = none) (z : Z) (a : Option Addr) :
  Done F h loc B w ((n,some (.arr z [])) :: gone.map (·,none)) (.asl n none) (.slice a 0 0) w := by
 obtain ⟨who1,s1,e1,a1,a2⟩ := s.kills gone hgf
 have hf' : hfind (gone.map (fun i => (i,(none : Option Blk))) ++ h) n = none := by
  rw [az,dB]
  by_cases hm : n ∈ gone
  ·obtain ⟨ob,hob⟩ := hgf n hm; rw [hf] at hob; cases hob
  ·simp only [hm,if_false]; exact hf
 have ext : Ext (gone.map (fun i => (i,(none : Option Blk))) ++ h) loc ((n,some (.arr z [])) :: (gone.map (fun i => (i,(none : Option Blk))) ++ h)) (fun i => if i = n then .nil else loc i) := by
  intro i ob ho
  rw [aj]
  have hne : ¬ n = i := by intro e; subst e; rw [hf'] at ho; cases ho
  exact ⟨ob,by simp only [hne,if_false]; exact ho,fun bb hb => ⟨bb,hb,rfl,rfl,by simp [show ¬ i = n from fun e => hne e.symm]⟩⟩
 have s2 := s1.set n (.arr z []) .nil [] ext (.inl ⟨rfl,rfl,rfl⟩) (by simp) (by simp [aa]) (by simp)
 have k1 : Kp w B h loc w B (gone.map (fun i => (i,(none : Option Blk))) ++ h) loc := Kp.of (fun _ h => h) (fun _ _ => rfl) e1
 refine ⟨_,_,_,B,s2.same (fun i hi => hi.1.elim),k1.trans (Kp.of (fun _ h => h) (fun _ _ => rfl) ext),⟨_,_,_,rfl⟩,some (.arr z []),?_,?_⟩
 ·show hfind ((n,_) :: (gone.map _ ++ h)) n = _
  rw [aj]; simp
 ·intro blk hb
  cases hb
  exact ⟨0,rfl,by simp [dI]⟩
theorem uv (s : HSc F h loc O who B w) {id n : Nat} {g : List Nat} {z : Z} {xs ys : List D} {fl2 : List Value} {oy : List Res} {l : Nat} {rng : Option (Nat × Nat)} {v : Value}
  (hg : ae h id = some (.arr z xs)) (hrng : (rng = none /\ l = xs.length) \/ rng = some (0,l)) (hv : dI (loc id) z.1 xs.length rng v)
  (hy : aZ w B z ys fl2 oy) (hfrom : From h O g oy) (hnd : (aa oy).Nodup) (hgf : ∀ i ∈ g,∃ b,ae h i = some b) (hid : id ∉ g) (hf : hfind h n = none) :
  ∃ base cap,v = .slice base l cap /\ l <= cap /\ (l + ys.length <= cap -> ∃ w',(match base with | some a => storeCells (a.add (l * z.1)) fl2 | none => pure ()).run P w = .ok () w' /\
   Done F h loc B w ((n,some (.arr z (xs.take l ++ ys))) :: (id :: g).map (·,none)) (.asl n none) (.slice base (l + ys.length) cap) w') := by
 have hlr : bz xs.length rng = l := by rcases hrng with ⟨rfl,h2⟩ | rfl <;> simp [bz]; exact h2.symm
 have h0 : (rng.getD (0,xs.length)).1 = 0 := by rcases hrng with ⟨rfl,_⟩ | rfl <;> rfl
 have hfound : ∀ i ∈ id :: g,∃ ob,hfind h i = some ob := by
  intro i hi
  rcases List.mem_cons.1 hi with rfl | hi
  ·exact ⟨_,hget_some.1 hg⟩
  ·obtain ⟨bb,hb⟩ := hgf i hi; exact ⟨_,hget_some.1 hb⟩
 rcases cz hv with ⟨hl,hm0,hl0,ad,rfl⟩ | ⟨b,base,sz,ad,cap,hl,rfl,hc,hle,had⟩
 ·rw [hlr] at hl0; subst hl0
  refine ⟨ad,0,rfl,Nat.le_refl _,fun hr => ?_⟩
  have hys : ys = [] := List.length_eq_zero_iff.1 (by omega)
  subst hys
  have hfl : fl2 = [] := hy.1
  subst hfl
  refine ⟨w,by cases ad <;> rfl,?_⟩
  exact pj s (gone := id :: g) hfound hf z ad
 ·rw [hlr] at hc hle ⊢
  rw [h0] at had hle
  simp only [Nat.zero_mul,Nat.add_zero,Nat.zero_add] at had hle
  refine ⟨some ad,cap,rfl,hc,fun hr => ?_⟩
  have hrep := s.blk id _ hg (fun hx => hx)
  rcases hrep with ⟨h1,_⟩ | ⟨b',base',sz',c,ty,fr,o',hl',hh,hsz,hu,he,hO⟩
  ·rw [hl] at h1; cases h1
  rw [hl] at hl'; cases hl'
  have hflen : fl2.length = ys.length * z.1 := aw hy
  have hrun : ∃ w',(storeCells (ad.add (l * z.1)) fl2).run P w = .ok () w' /\ Wr b (base + l * z.1) fl2 w w' := by
   by_cases hy0 : ys = []
   ·subst hy0
    have hfl : fl2 = [] := hy.1
    subst hfl
    exact ⟨w,rfl,Wr.refl hh⟩
   ·have hpos : 0 < ys.length := List.length_pos_iff.2 hy0
    obtain ⟨rfl,hcz⟩ := had (by omega)
    rw [cH]
    have h3 : (l + ys.length) * z.1 <= cap * z.1 := Nat.mul_le_mul_right _ hr
    rw [Nat.add_mul] at h3
    obtain ⟨w',h1,h2⟩ := cx (P := P) (o := base + l * z.1) fl2 0 c w hh (hsz ▸ hu) (by omega) (gl hy)
    exact ⟨w',h1,h2⟩
  obtain ⟨w',hst,hwr⟩ := hrun
  refine ⟨w',hst,?_⟩
  obtain ⟨loc',O',who',s',k',hl'⟩ := qd s hg hle hl hy hfrom hnd hgf hid hf hwr
  refine ⟨loc',O',who',B,s',k',⟨_,_,_,rfl⟩,some (.arr z (xs.take l ++ ys)),?_,?_⟩
  ·show hfind ((n,_) :: (_ ++ h)) n = _
   rw [aj]; simp
  ·intro blk hb
   cases hb
   refine ⟨(xs.take l ++ ys).length,rfl,?_⟩
   rw [hl']
   have hlen : (xs.take l ++ ys).length = l + ys.length := by rw [lnA,List.length_take]; omega
   rw [hlen]
   exact ⟨ad,cap,rfl,hr,fun h => had h⟩
theorem pZ (s : HSc F h loc O who B w) {x : A} {xv : Value} {sz : Nat} {ys : List D} {k : Z} {f : List Nat} (hx : aJ w B h loc x xv) (hall : cn h sz x = some (ys,k,f)) (hk : k.1 = sz) :
  ∃ o fl,(Builtin.lenOf xv).run P w = .ok ys.length w /\ (∀ w',(∀ b o,w'.cell? ⟨b,o,none⟩ = w.cell? ⟨b,o,none⟩) -> (Builtin.firstCells sz ys.length xv).run P w' = .ok fl.toArray w') /\
   aZ w B k ys fl o /\ From h O f o /\ (aa o).Nodup /\ (∀ id ∈ f,∃ b,ae h id = some b) /\ f.Nodup := by
 by_cases hs : ∃ t,x = .d (.str t)
 ·obtain ⟨t,rfl⟩ := hs
  simp only [cn] at hall
  cases hall
  have := rep_str.1 hx
  subst this
  simp at hk; subst hk
  have hlen : (gU t).length = t.size := by simp [gU]
  refine ⟨[],_,?_,?_,mj t.data.toList,by simp [From],by simp [aa],by simp,by simp⟩
  ·rw [hlen]; rfl
  ·intro w' _; rw [hlen]; exact mu
 ·obtain ⟨o,fl,base,cap,rfl,hc,he,hcell,hfrom,hnd,hgf⟩ := gN s hx hall (fun t e => hs ⟨t,e⟩)
  refine ⟨o,fl,rfl,?_,he,hfrom,hnd,hgf,?_⟩
  ·intro w' hw'
   refine d6 (by rw [aw he,hk]) (fun h0 => ?_)
   obtain ⟨b,off,h1,h2⟩ := hcell (fun e => h0 (by simp [e]))
   exact ⟨b,off,h1,fun j v hj => by rw [hw']; exact h2 j v hj⟩
  ·cases x with
   | d y => cases y <;> simp [cn] at hall <;> simp [hall]
   | asl id rng =>
    simp only [cn] at hall
    split at hall
    ·cases hall; simp
    ·cases hall; simp
    ·cases hall
   | _ => simp [cn] at hall
end
section
variable {P : Program} {F : Fr} {h : Ups} {loc : Nat -> Loc} {O : Nat -> List Res} {who : Nat -> Option (Option Nat)} {B : Nat -> Prop} {w : World}
theorem aX (loc : Nat -> Loc) (id : Nat) {l : Loc} (hl : loc id = l) : (fun i => if i = id then l else loc i) = loc := by
 funext i; by_cases e : i = id
 ·subst e; simp [hl]
 ·simp [e]
theorem ch {id : Nat} {blk blk' : Blk} (hg : ae h id = some blk) (hz : b9 blk' = b9 blk) (hl : aI blk' = aI blk) : Ext h loc ((id,some blk') :: h) loc := by
 intro i ob ho
 rw [aj]
 by_cases e : id = i
 ·subst e
  rw [hget_some.1 hg] at ho
  cases ho
  exact ⟨_,if_pos rfl,fun bb hb => by cases hb; exact ⟨blk,rfl,hz,hl,rfl⟩⟩
 ·exact ⟨ob,by simp [e,ho],fun bb hb => ⟨bb,hb,rfl,rfl,rfl⟩⟩
theorem ru (s : HSc F h loc O who B w) {id b lo : Nat} {blk blk' : Blk} {vs : List Value} {o'' : List Res} {w' : World} (hg : ae h id = some blk) (hz : b9 blk' = b9 blk) (hl : aI blk' = aI blk)
  (hb : who b = some (some id)) (hok1 : ∀ j,lo <= j -> j < lo + vs.length -> ∃ r ∈ O id,r.covers b j) (hwr : Wr b lo vs w w')
  (hrep : dF w' B ((id,some blk') :: h) loc (loc id) o'' blk') (ho : ∀ r ∈ o'',who r.blk = some none \/ who r.blk = some (some id)) (hnd : (aa o'').Nodup) (hok : ∀ r ∈ o'',okR F.w0 F.o0 r) :
  ∃ O',HSc F ((id,some blk') :: h) loc O' (fun b => if b ∈ aa o'' then some (some id) else if who b = some (some id) then some none else who b) B w' /\ Kp w B h loc w' B ((id,some blk') :: h) loc := by
 have s1 := s.opn (fun i => i = id)
 have nB : ¬ B b := (s.mine b _ hb).1
 have chg : Chg F.o0 F.w0 w' := s.chg.step (o' := [.rng b lo (lo + vs.length)]) hwr.chg (by
  intro r hr
  simp only [List.mem_singleton] at hr; subst hr
  by_cases hnew : F.w0.heap.size <= b
  ·exact .inl hnew
  ·right
   refine ⟨?_,?_⟩
   ·rcases (s.mine b _ hb).2.2 with h1 | h1
    ·exact absurd h1 hnew
    ·exact h1
   ·intro j hj
    simp only [Res.covers,Res.blk,true_and] at hj
    obtain ⟨r,hr,hc⟩ := hok1 j hj.1 hj.2
    have hrb : r.blk = b := by cases r <;> simp_all [Res.covers,Res.blk]
    rcases s.okr id _ hg r hr with h1 | ⟨_,h2⟩
    ·rw [hrb] at h1; exact absurd h1 hnew
    ·rw [hrb] at h2; exact h2 j hc)
 obtain ⟨s2,k2⟩ := s1.world (w' := w') (by rw [hwr.size]; exact Nat.le_refl _) chg (by
  intro b' hb'
  refine hwr.other b' ?_
  rintro rfl
  rcases hb' with hb' | ⟨i,hi,hx⟩
  ·exact nB hb'
  ·rw [hb] at hi; cases hi; exact hx (.inr rfl))
 have ext : Ext h loc ((id,some blk') :: h) loc := ch hg hz hl
 have s3 := s2.set id blk' (loc id) o'' (by rw [aX loc id rfl]; exact ext) (by rw [aX loc id rfl]; exact hrep) ho hnd hok
 rw [aX loc id rfl] at s3
 refine ⟨_,s3.same (fun i hi => ?_),k2.trans (Kp.of (fun _ h => h) (fun _ _ => rfl) ext)⟩
 rcases hi.1 with h1 | h1
 ·exact h1.elim
 ·exact absurd h1 hi.2
theorem ql (s : HSc F h loc O who B w) {id b lo : Nat} {blk blk' : Blk} {vs : List Value} {o'' : List Res} {w' : World} (hg : ae h id = some blk) (hz : b9 blk' = b9 blk) (hl : aI blk' = aI blk)
  (hb : who b = some (some id)) (hok1 : ∀ j,lo <= j -> j < lo + vs.length -> ∃ r ∈ O id,r.covers b j) (hwr : Wr b lo vs w w')
  (hrep : dF w' B ((id,some blk') :: h) loc (loc id) o'' blk') (ho : ∀ r ∈ o'',who r.blk = some none \/ who r.blk = some (some id)) (hnd : (aa o'').Nodup) (hok : ∀ r ∈ o'',okR F.w0 F.o0 r) :
  ∃ O' who',HSc F ((id,some blk') :: h) loc O' who' B w' /\ Kp w B h loc w' B ((id,some blk') :: h) loc := by
 obtain ⟨O',s',k'⟩ := ru s hg hz hl hb hok1 hwr hrep ho hnd hok
 exact ⟨O',_,s',k'⟩
theorem vZ (s : HSc F h loc O who B w) {id b base sz l : Nat} {z : Z} {xs ys : List D} {fl : List Value} {oy : List Res} {w' : World} (hg : ae h id = some (.arr z xs)) (hloc : loc id = .at b base sz) (hz1 : z.2 <= 1)
  (hle : l + ys.length <= xs.length) (hy : aZ w B z ys fl oy) (hwr : Wr b (base + l * z.1) fl w w') :
  ∃ O' who',HSc F ((id,some (.arr z (xs.take l ++ ys ++ xs.drop (l + ys.length)))) :: h) loc O' who' B w' /\ Kp w B h loc w' B ((id,some (.arr z (xs.take l ++ ys ++ xs.drop (l + ys.length)))) :: h) loc := by
 have hrep := s.blk id _ hg (fun hx => hx)
 rcases hrep with ⟨h1,_⟩ | ⟨b',base',sz',c,ty,fr,o',hl',hh,hsz,hu,he,hO⟩
 ·rw [hloc] at h1; cases h1
 rw [hloc] at hl'; cases hl'
 have e0 := cQ hz1 he; subst e0
 have ey := kt hz1 hy; subst ey
 have hb : who b = some (some id) := s.own id _ hg (.arr b) (by rw [hO]; simp)
 have nB : ¬ B b := (s.mine b _ hb).1
 have hfl : fl.length = ys.length * z.1 := aw hy
 have same : Same w w' B [] := by
  intro b' hb'
  refine hwr.other b' ?_
  rintro rfl
  rcases hb' with hb' | hb'
  ·exact nB hb'
  ·simp [aa] at hb'
 obtain ⟨o1,hs1,ht⟩ := jB l he
 obtain ⟨o2,hs2,hd⟩ := ng (l + ys.length) hle he
 have e1 := List.sublist_nil.1 hs1; subst e1
 have e2 := List.sublist_nil.1 hs2; subst e2
 obtain ⟨f1,ht1,hc1⟩ := aW ht
 obtain ⟨f2,hd1,hc2⟩ := aW hd
 have htl : (xs.take l).length = l := by rw [List.length_take]; omega
 have hf1 : f1.length = l * z.1 := by rw [aw ht1,htl]
 have hnew : au w' B b base z (xs.take l ++ ys ++ xs.drop (l + ys.length)) [] := by
  refine (bG _ _ _).2 ⟨[],[],rfl,(bG _ _ _).2 ⟨[],[],rfl,?_,?_⟩,?_⟩
  ·exact bj (bh (fun _ h => h) same ht1) (hwr.keep hc1 (.inl (by rw [hf1]; exact Nat.le_refl _)))
  ·rw [htl]; exact bj (bh (fun _ h => h) same hy) hwr.cellsAt
  ·rw [lnA,htl]
   exact bj (bh (fun _ h => h) same hd1) (hwr.keep hc2 (.inr (by rw [hfl,Nat.add_mul]; omega)))
 obtain ⟨c',hh',hsz'⟩ : ∃ c',w'.heap[b]? = some (.cells c' ty fr) /\ c'.size = c.size := by
  obtain ⟨c0,ty0,fr0,c',h5,h6,h7,_⟩ := hwr.cells
  rw [hh] at h5; cases h5
  exact ⟨c',h6,h7⟩
 refine ql s (blk' := .arr z (xs.take l ++ ys ++ xs.drop (l + ys.length))) (o'' := [.arr b]) hg rfl ?_ hb ?_ hwr (.inr ⟨b,base,sz,c',ty,fr,[],hloc,hh',by rw [hsz',hsz],hsz ▸ hu,hnew,rfl⟩) ?_ (by simp [aa]) ?_
 ·simp [aI,List.length_append,List.length_take,List.length_drop]; omega
 ·intro j _ _; exact ⟨.arr b,by rw [hO]; simp,by simp [Res.covers]⟩
 ·intro r hr; simp only [List.mem_singleton] at hr; subst hr; exact .inr hb
 ·intro r hr; simp only [List.mem_singleton] at hr; subst hr; exact s.okr id _ hg _ (by rw [hO]; simp)
end
section ops
variable {P : Program} {cf : Cfg} {call : Nat -> List D -> Option Ret} {n : Nat} {o : Oper} {σ : St} {R : Type} {K : A -> Ups -> List Nat -> Option R} {r : R}
theorem nv {k : Z} {f : List Nat} : (match decide (k.2 <= 1) with | true => ([] : Ups) | false => f.map (·,none)) = (if k.2 <= 1 then [] else f).map (·,none) := by
 by_cases h : k.2 <= 1 <;> simp [h]
theorem rY {i : TypeInfo} (h : tJ i = true) : ∃ z,i.zero = some z /\ z.cells.size = i.size := by
 unfold tJ at h
 split at h
 ·rename_i z hz; exact ⟨z,hz,by simpa using h⟩
 ·cases h
theorem lz {s x : Operand} {t u : TypeId} {ud : TypeDesc} {c : Call} (ho : o.op = .call c) (hc : c.callee = .builtin .append) (ha : c.args.toList = [s,x]) (ht : c.argTypes.toList = [t,u])
  (hud : P.underlying u = some ud) (hni : ∀ k,ud ≠ .int k) (h : iE P n σ.heap t (ev σ s) (ev σ x) K = some r) : bc P n o σ K r := by
 have ha' : c.args = #[s,x] := by rw [<- ha]
 have ht' : c.argTypes = #[t,u] := by rw [<- ht]
 have exec : ∀ (a : Act) (w : World) (sv xv v : Value) (w' : World),a.eval s = sv -> a.eval x = xv -> (Builtin.append_ #[t,u] o.type #[sv,xv]).run P w = .ok v w' -> (execOp a.eval o).run P w = .ok (.value v) w' := by
  rintro a w _ _ v w' rfl rfl hr
  simp [execOp,ho,resolve,hc,ha',ht',invoke,builtin,hr]
 have ops : ∀ {w : World} {B : Nat -> Prop} {hh : Ups} {loc : Nat -> Loc} {a : Act},(∀ y ∈ o.op.operands,aJ w B hh loc (ev σ y) (a.eval y)) -> aJ w B hh loc (ev σ s) (a.eval s) /\ aJ w B hh loc (ev σ x) (a.eval x) := by
  intro w B hh loc a hr
  exact ⟨hr s (by simp [ho,Op.operands,Call.operands,hc,ha']),hr x (by simp [ho,Op.operands,Call.operands,hc,ha'])⟩
 unfold iE at h
 split at h
 case h_2 => cases h
 rename_i e hu
 split at h
 ·cases h
 rename_i i hi
 split at h
 ·cases h
 rename_i ys k f hall
 split at h
 ·cases h
 rename_i hsz
 simp only [Bool.and_eq_true,decide_eq_true_eq,beq_iff_eq] at hsz
 obtain ⟨⟨⟨⟨hpos,hlz⟩,hby⟩,hzo⟩,hk⟩ := hsz
 obtain ⟨zv,hzv,hzs⟩ := rY hzo
 have hsame : ∀ {hh : Ups} {f' : List Nat},(∀ id ∈ f',hfind hh id = hfind σ.heap id) -> (∀ id ∈ f,id ∈ f') -> cn hh i.size (ev σ x) = some (ys,k,f) := fun he hs => kT hall (fun id hid => he id (hs id hid))
 -- what owns
 have own : ∀ {F : Fr} {w : World} {B : Nat -> Prop} {hh : Ups} {loc : Nat -> Loc} {O : Nat -> List Res} {who : Nat -> Option (Option Nat)} {oy : List Res} {fl : List Value},HSc F hh loc O who B w -> aZ w B k ys fl oy -> From hh O f oy -> (∀ id ∈ f,∃ b,ae hh id = some b) ->
   From hh O (if k.2 <= 1 then [] else f) oy /\ (∀ id ∈ (if k.2 <= 1 then [] else f),∃ b,ae hh id = some b) := by
  intro F w B hh loc O who oy fl s he hfrom hgf
  by_cases hk1 : k.2 <= 1
  ·have := kt hk1 he; subst this; simp [hk1,From]
  ·simp only [hk1,if_false]; exact ⟨hfrom,hgf⟩
 have gsub : ∀ id ∈ (if k.2 <= 1 then [] else f),id ∈ f := by intro id hid; by_cases hk1 : k.2 <= 1 <;> simp_all
 -- a new array,or room
 have grow : ∀ {id l : Nat} {z : Z} {xs : List D} {rng : Option (Nat × Nat)},ev σ s = .asl id rng -> ae σ.heap id = some (.arr z xs) -> z.1 = i.size -> (z.2 = k.2 \/ ys = []) -> id ∉ f -> ((rng = none /\ l = xs.length) \/ rng = some (0,l)) ->
   ((xs.take l ++ ys).length : Int) <= LIM -> part xs rng = xs.take l ->
   Sound P n o σ (.asl n none) ((n,some (.arr z (xs.take l ++ ys))) :: (id :: (if k.2 <= 1 then [] else f)).map (·,none)) (id :: f) := by
  intro id l z xs rng hs hg hz hzk hid hrng hlim hpart
  refine ⟨?_,?_⟩
  ·intro j hj
   simp only [List.map_cons,List.map_map,List.mem_cons,List.mem_map] at hj
   rcases hj with rfl | rfl | ⟨g,hg,rfl⟩
   ·exact .inr (by simp [ai])
   ·exact .inl (by simp)
   ·exact .inl (List.mem_cons_of_mem _ (gsub g hg))
  ·intro F hh a w loc O who B hr hf hfr st
   obtain ⟨hsv,hxv⟩ := ops hr
   have hallh := hsame hf (fun id hid => List.mem_cons_of_mem _ hid)
   obtain ⟨oy,fl2,n1,n2,n3,n4,n5,n6,n7⟩ := pZ (P := P) st hxv hallh hk
   obtain ⟨o1,o2⟩ := own st n3 n4 n6
   have hg' : ae hh id = some (.arr z xs) := by rw [am (hf id (by simp)),hg]
   rw [hs] at hsv
   obtain ⟨_,ob,hob,hbv⟩ := (rep_asl.1 hsv)
   have hfd := hget_some.1 hg'
   rw [hfd] at hob; cases hob
   obtain ⟨m,hm,hsl⟩ := hbv _ rfl
   simp only [aI,Option.some.injEq] at hm; subst hm
   have hid' : id ∉ (if k.2 <= 1 then [] else f) := fun hm => hid (gsub id hm)
   have hn0 := hfr n (Nat.le_refl _) (by simp [ai])
   have hy' : aZ w B z ys fl2 oy := oJ n3 (hz.trans hk.symm) hzk
   obtain ⟨base,cap,hv,hlc,hroom⟩ := uv (P := P) st hg' hrng hsl hy' o1 n5 o2 hid' hn0
   by_cases hr' : l + ys.length <= cap
   ·obtain ⟨w',hst,hd⟩ := hroom hr'
    refine Runs.value (exec a w _ _ _ w' hv rfl ?_) hd
    rw [ff hu hi hud hni n1 (n2 w (fun _ _ => rfl)) hr']
    rw [hz] at hst
    exact congrArg (fun r => Result.andThen r fun _ w' => Result.ok (Value.slice base (l + ys.length) cap) w') hst
   ·have hallS : cn hh i.size (.asl id rng) = some (part xs rng,z,[id]) := by simp [cn,hg']
    obtain ⟨oo,flo,bo,co,ho1,ho2,ho3,ho4,ho5,ho6,ho7⟩ := gN st hsv hallS (fun t e => by cases e)
    rw [hpart] at ho1 ho2 ho3 ho4
    rw [hv] at ho1
    have hlen : (xs.take l).length = l := by have := ho1; injection this with e1 e2 e3; exact e2.symm
    injection ho1 with e1 e2 e3
    subst e1; subst e3
    obtain ⟨f1,f2⟩ := From.append st ho5 o1 (by
     rw [List.nodup_append]
     refine ⟨by simp,?_,?_⟩
     ·by_cases hk1 : k.2 <= 1 <;> simp [hk1,n7]
     ·intro p hp q hq e
      simp only [List.mem_singleton] at hp
      subst hp; subst e; exact hid' hq) ho6 n5
    have hlim' : l + ys.length <= 4294967296 := by
     rw [lnA,hlen] at hlim
     rw [pE] at hlim; omega
    obtain ⟨cc,cap',hrun,hcap,⟨rest,hrest⟩,hcs⟩ := lZ (t := t) (u := u) (ty := o.type) (base := base) (sLen := l) (sCap := cap) (x := a.eval x) (olds := flo) (news := fl2) hu hi hzv hud hni n1 n2 (fun w' hw' => d6 (by rw [aw ho3,hlen,hz]) (fun h0 => by
     obtain ⟨b,off,h1,h2⟩ := ho4 (fun e => h0 (by rw [<- hlen,e]; rfl))
     exact ⟨b,off,h1,fun j v hj => by rw [hw']; exact h2 j v hj⟩)) (by omega) hby hlim'
    refine Runs.value (exec a w _ _ _ _ hv rfl hrun) ?_
    have hlen2 : (xs.take l ++ ys).length = l + ys.length := by rw [lnA,hlen]
    rw [<- hlen2]
    refine js (gone := id :: (if k.2 <= 1 then [] else f)) st f1 f2 ?_ (New.drewAlloc w cc e (0,0)) (gf _) n hn0 (iY ho3 hy') ⟨rest,hrest⟩ cap' (by rw [hlen2]; exact hcap) ?_
    ·intro j hj
     rcases List.mem_cons.1 hj with rfl | hj
     ·exact ⟨_,hfd⟩
     ·obtain ⟨b,hb⟩ := o2 j hj; exact ⟨_,hget_some.1 hb⟩
    ·rw [hcs,aw ho3,aw n3,hlen,hzs,hz,hk]
     have : cap' = (l + ys.length) + (cap' - (l + ys.length)) := by omega
     rw [this,Nat.add_mul,Nat.add_mul]
     have : l + ys.length + (cap' - (l + ys.length)) - (l + ys.length) = cap' - (l + ys.length) := by omega
     rw [this]; exact Nat.le_refl _
 split at h
 ·
  rename_i hs
  obtain ⟨hlim,h⟩ := aE h
  replace h : K (.asl n none) ((n,some (.arr k ys)) :: (if k.2 <= 1 then [] else f).map (·,none)) f = some r := by rw [<- nv]; exact h
  refine ⟨_,_,_,h,⟨?_,?_⟩⟩
  ·intro j hj
   simp only [List.map_cons,List.map_map,List.mem_cons,List.mem_map] at hj
   rcases hj with rfl | ⟨g,hg,rfl⟩
   ·exact .inr (by simp [ai])
   ·exact .inl (gsub g hg)
  ·intro F hh a w loc O who B hr hf hfr st
   obtain ⟨hsv,hxv⟩ := ops hr
   rw [hs] at hsv
   have hsv := rep_nl.1 hsv
   obtain ⟨oy,fl2,n1,n2,n3,n4,n5,n6,n7⟩ := pZ (P := P) st hxv (hsame hf (fun _ h => h)) hk
   obtain ⟨o1,o2⟩ := own st n3 n4 n6
   have hn0 := hfr n (Nat.le_refl _) (by simp [ai])
   have o3 : ∀ id ∈ (if k.2 <= 1 then [] else f),∃ ob,hfind hh id = some ob := fun id hid => by obtain ⟨b,hb⟩ := o2 id hid; exact ⟨_,hget_some.1 hb⟩
   by_cases hr' : 0 + ys.length <= 0
   ·have hys : ys = [] := List.length_eq_zero_iff.1 (by omega)
    subst hys
    refine Runs.value (exec a w _ _ (.slice none 0 0) w hsv rfl ?_) (pj st o3 hn0 k none)
    rw [ff hu hi hud hni n1 (n2 w (fun _ _ => rfl)) hr']
    rfl
   ·have hlim' : 0 + ys.length <= 4294967296 := by
     have := of_decide_eq_true hlim
     rw [pE] at this; omega
    obtain ⟨cc,cap',hrun,hcap,⟨rest,hrest⟩,hcs⟩ := lZ (t := t) (u := u) (ty := o.type) (base := none) (sLen := 0) (sCap := 0) (x := a.eval x) (olds := []) (news := fl2) hu hi hzv hud hni n1 n2 (fun w' hw' => d6 (by simp) (fun h0 => absurd rfl h0)) (by omega) hby hlim'
    refine Runs.value (exec a w _ _ _ _ hsv rfl hrun) ?_
    rw [Nat.zero_add]
    refine js st o1 n5 o3 (New.drewAlloc w cc e (0,0)) (gf _) n hn0 n3 ⟨rest,by simpa using hrest⟩ cap' (by omega) ?_
    rw [hcs,aw n3,hzs,hk]
    have : cap' = ys.length + (cap' - ys.length) := by omega
    rw [this,Nat.add_mul]
    simp
 ·
  rename_i id rng hs
  split at h
  case h_2 => cases h
  rename_i z xs hg
  split at h
  case h_2 => cases h
  rename_i hcond
  simp only [Bool.and_eq_true,beq_iff_eq,Bool.or_eq_true,List.isEmpty_iff] at hcond
  obtain ⟨hz,hzk⟩ := hcond
  split at h
  ·rename_i hid
   obtain ⟨hlim,h⟩ := aE h
   replace h : K (.asl n none) ((n,some (.arr z (xs ++ ys))) :: (id,none) :: (if k.2 <= 1 then [] else f).map (·,none)) (id :: f) = some r := by rw [<- nv]; exact h
   have := grow (l := xs.length) (rng := none) hs hg hz hzk (by simpa using hid) (.inl ⟨rfl,rfl⟩) (by rw [List.take_length]; exact of_decide_eq_true hlim) (by simp [part])
   rw [List.take_length] at this
   exact ⟨_,_,_,h,this⟩
  ·rename_i l hid
   obtain ⟨hlim,h⟩ := aE h
   replace h : K (.asl n none) ((n,some (.arr z (part xs (some (0,l)) ++ ys))) :: (id,none) :: (if k.2 <= 1 then [] else f).map (·,none)) (id :: f) = some r := by rw [<- nv]; exact h
   exact ⟨_,_,_,h,grow (l := l) (rng := some (0,l)) hs hg hz hzk (by simpa using hid) (.inr rfl) (by have := of_decide_eq_true hlim; simpa [part] using this) (by simp [part])⟩
  ·rename_i l hid
   split at h
   case h_2 => cases h
   rename_i hz0
   have hz0 : z.2 = 0 := by simpa using hz0
   obtain ⟨hle,h⟩ := aE h
   have hle := of_decide_eq_true hle
   refine ⟨_,_,_,h,⟨fun j hj => .inl (by simp at hj; simp [hj]),?_⟩⟩
   intro F hh a w loc O who B hr hf hfr st
   obtain ⟨hsv,hxv⟩ := ops hr
   obtain ⟨oy,fl2,n1,n2,n3,n4,n5,n6,n7⟩ := pZ (P := P) st hxv (hsame hf (fun id hid => List.mem_cons_of_mem _ hid)) hk
   have hg' : ae hh id = some (.arr z xs) := by rw [am (hf id (by simp)),hg]
   rw [hs] at hsv
   obtain ⟨_,ob,hob,hbv⟩ := (rep_asl.1 hsv)
   have hfd := hget_some.1 hg'
   rw [hfd] at hob; cases hob
   obtain ⟨m,hm,hsl⟩ := hbv _ rfl
   simp only [aI,Option.some.injEq] at hm; subst hm
   have hy' : aZ w B z ys fl2 oy := oJ n3 (hz.trans hk.symm) hzk
   have hnl : (xs.take l ++ ys ++ xs.drop (l + ys.length)).length = xs.length := by
    simp only [lnA,List.length_take,List.length_drop]; omega
   cases hloc : loc id with
   | nil =>
    rw [hloc] at hsl
    obtain ⟨_,rfl,hx0,ad,hv⟩ := hsl
    have hxs : xs = [] := List.length_eq_zero_iff.1 hx0
    subst hxs
    have hys : ys = [] := by simpa using hle
    subst hys
    have hfl : fl2 = [] := n3.1
    subst hfl
    refine Runs.value (exec a w _ _ (.slice ad 0 0) w hv rfl ?_) ?_
    ·rw [ff hu hi hud hni n1 (n2 w (fun _ _ => rfl)) (show 0 + 0 <= 0 by omega)]
     cases ad <;> rfl
    ·have ext : Ext hh loc ((id,some (.arr z [])) :: hh) loc := ch hg' rfl rfl
     have s2 := st.set id (.arr z []) (loc id) [] (by rw [aX loc id rfl]; exact ext) (.inl ⟨hloc,rfl,rfl⟩) (by simp) (by simp [aa]) (by simp)
     rw [aX loc id rfl] at s2
     refine ⟨_,_,_,B,s2.same (fun i hi => hi.1.elim),Kp.of (fun _ h => h) (fun _ _ => rfl) ext,⟨_,_,_,rfl⟩,some (.arr z []),by rw [List.singleton_append,aj]; simp,fun blk hb => ?_⟩
     cases hb
     exact ⟨0,rfl,by rw [hloc]; simp [dI]⟩
   | «at» b base sz =>
    rw [hloc] at hsl
    simp only [dI] at hsl
    obtain ⟨hln,ad,cap,hv,⟨hlc,hnc⟩,had⟩ := hsl
    simp only [Nat.zero_add,Nat.zero_mul,Nat.add_zero,b9] at hln hnc had
    have hrep := st.blk id _ hg' (fun hx => hx)
    rcases hrep with ⟨h1,_⟩ | ⟨b',base',sz',c0,ty,fr,o',hl',hh',hsz',hu',he,hO⟩
    ·rw [hloc] at h1; cases h1
    rw [hloc] at hl'; cases hl'
    have hrun : ∃ w',(storeCells (ad.add (l * i.size)) fl2).run P w = .ok () w' /\ Wr b (base + l * z.1) fl2 w w' := by
     by_cases hy0 : ys = []
     ·subst hy0
      have hfl : fl2 = [] := n3.1
      subst hfl
      exact ⟨w,rfl,Wr.refl hh'⟩
     ·have hpos : 0 < ys.length := List.length_pos_iff.2 hy0
      obtain ⟨rfl,hcz⟩ := had (by omega)
      rw [cH,<- hz]
      have h3 : (l + ys.length) * z.1 <= cap * z.1 := Nat.mul_le_mul_right _ (by omega)
      rw [Nat.add_mul] at h3
      have hfl := aw hy'
      obtain ⟨w',h1,h2⟩ := cx (P := P) (o := base + l * z.1) fl2 0 c0 w hh' (hsz' ▸ hu') (by omega) (gl hy')
      exact ⟨w',h1,h2⟩
    obtain ⟨w',hst,hwr⟩ := hrun
    obtain ⟨O',who',s',k'⟩ := vZ st hg' hloc (by omega) hle hy' hwr
    refine Runs.value (w' := w') (exec a w _ _ (.slice (some ad) (l + ys.length) cap) w' hv rfl ?_) ⟨loc,O',who',B,s',k',⟨_,_,_,rfl⟩,some (.arr z (xs.take l ++ ys ++ xs.drop (l + ys.length))),by rw [List.singleton_append,aj]; simp,fun blk hb => ?_⟩
    ·rw [ff hu hi hud hni n1 (n2 w (fun _ _ => rfl)) (by omega)]
     exact congrArg (fun r => Result.andThen r fun _ w' => Result.ok (Value.slice (some ad) (l + ys.length) cap) w') hst
    ·cases hb
     refine ⟨xs.length,by simp only [aI,hnl],?_⟩
     rw [hloc]
     exact ⟨by omega,ad,cap,rfl,⟨by omega,by omega⟩,fun h => by simpa [b9] using had h⟩
  ·cases h
 ·cases h
end ops
end
end Go.Eng
