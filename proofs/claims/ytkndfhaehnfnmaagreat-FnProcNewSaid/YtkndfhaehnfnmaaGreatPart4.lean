/- the program and the reference on plain data, part 4 -/
import Derived.Test.YtkndfhaehnfnmaaGreatPart3
import Derived.Test.YtkndfhaehnfnmaaGreatPart1
import Derived.Test.YtkndfhaehnfnmaaGreatPart2
import Derived.Test.YtkndfhaehnfnmaaGreatEngC
/-! nodes as bytes,on both sides -/
namespace Go.Eng
open Go.Proofs Go.Proofs.Tryz
set_option maxHeartbeats 4000000

theorem c7 {z : Int} (h0 : 0 <= z) (h1 : z < 4611686018427387904) : V 67 [.int .i64 z] = some (.os (1,0) ((cD z.toNat).map eU),[]) := by
 obtain ⟨n,rfl⟩ := Int.eq_ofNat_of_zero_le h0
 exact rA (by omega)
theorem cY {z : Int} (h0 : 0 <= z) (h1 : z < 4611686018427387904) : V 69 [.int .i64 z] = some (.os (1,0) ((cD z.toNat).map eU),[]) := by
 obtain ⟨n,rfl⟩ := Int.eq_ofNat_of_zero_le h0
 exact rx (by omega)
theorem nn (s : ByteArray) : s.data.toList.length = s.size := by rw [Array.length_toList]; rfl
theorem wv {s : ByteArray} (h : s.size < 4294967200) : V 138 [.str s] = some (.os (1,0) ((sG s.data.toList).map eU),[]) := by
 have := yB (s := s.data.toList) (by rw [nn]; exact h)
 rw [sy] at this
 exact this
theorem wG {s : ByteArray} (h : s.size < 4294967200) : V 139 [.str s] = some (.os (1,0) ((sG s.data.toList).map eU),[]) := by
 have := xD (s := s.data.toList) (by rw [nn]; exact h)
 rw [sy] at this
 exact this
noncomputable def dK (x : Nd) : List UInt8 := cD x.kind.toNat ++
 (if x.kind = 2 \/ x.kind = 8 \/ x.kind = 9 then cD x.n.toNat
 else if x.kind = 3 then cD (x.n + 1000000000).toNat
 else if x.kind = 4 then sG x.s.data.toList
 else if x.kind = 5 then cD x.a.toNat ++ cD x.b.toNat
 else if x.kind = 6 then cD x.n.toNat ++ cD x.a.toNat
 else if x.kind = 7 then cD x.a.toNat else [])
theorem CM {x : Nd} (h : x.kind = 1) : dK x = cD x.kind.toNat := by simp [dK,h]
theorem gQ {x : Nd} (h : x.kind = 2 \/ x.kind = 8 \/ x.kind = 9) : dK x = cD x.kind.toNat ++ cD x.n.toNat := by simp [dK,h]
theorem wO {x : Nd} (h : x.kind = 3) : dK x = cD x.kind.toNat ++ cD (x.n + 1000000000).toNat := by simp [dK,h]
theorem wQ {x : Nd} (h : x.kind = 4) : dK x = cD x.kind.toNat ++ sG x.s.data.toList := by simp [dK,h]
theorem wV {x : Nd} (h : x.kind = 5) : dK x = cD x.kind.toNat ++ cD x.a.toNat ++ cD x.b.toNat := by simp [dK,h]
theorem wU {x : Nd} (h : x.kind = 6) : dK x = cD x.kind.toNat ++ cD x.n.toNat ++ cD x.a.toNat := by simp [dK,h]
theorem w4 {x : Nd} (h : x.kind = 7) : dK x = cD x.kind.toNat ++ cD x.a.toNat := by simp [dK,h]
structure NdOk (x : Nd) (i : Nat) : Prop where
 k1 : 1 <= x.kind
 k9 : x.kind <= 9
 n3 : -1000000000 <= x.n
 n9 : x.n <= 1000000000
 n0 : x.kind ≠ 3 -> 0 <= x.n
 a0 : 0 <= x.a
 a1 : x.a <= i
 b0 : 0 <= x.b
 b1 : x.b <= i
 s4 : x.s.size <= 12
theorem ou {x : Nd} {h : Int} (ho : okN x h = true) (h4 : ¬ x.kind = 4) : x.s.size = 0 := by
 have hz : nz x.s = true := by
  unfold okN at ho
  simp only [h4,if_false] at ho
  repeat' split at ho
  all_goals (first | (simp only [Bool.and_eq_true] at ho; exact ho.2.1) | (cases ho))
 rw [nz,kV] at hz
 rw [of_decide_eq_true hz]; rfl
theorem qF {x : Nd} {i : Nat} (ho : okN x i = true) : NdOk x i := by
 have hk := NV ho
 have hs : x.s.size <= 12 := by
  by_cases h4 : x.kind = 4
  ·exact PB (Pa ho h4)
  ·rw [ou ho h4]; omega
 have rest : (-1000000000 <= x.n /\ x.n <= 1000000000) /\ (x.kind ≠ 3 -> 0 <= x.n) /\ (0 <= x.a /\ x.a <= i) /\ (0 <= x.b /\ x.b <= i) := by
  unfold okN at ho
  repeat' split at ho
  all_goals (try simp only [Bool.and_eq_true,wi,decide_eq_true_eq,beq_iff_eq] at ho)
  all_goals (first | (cases ho; done) | (refine ⟨⟨?_,?_⟩,fun _ => ?_,⟨?_,?_⟩,⟨?_,?_⟩⟩ <;> omega))
 exact ⟨hk.1,hk.2,rest.1.1,rest.1.2,rest.2.1,rest.2.2.1.1,rest.2.2.1.2,rest.2.2.2.1,rest.2.2.2.2,hs⟩
noncomputable def vq (p : List Nd) : List UInt8 := cD p.length ++ p.flatMap dK
theorem xq {s : List UInt8} (h : s.length < 4611686018427387904) : (sG s).length <= 9 + s.length := by
 have := ch h
 simp only [sG,lnA]; omega
theorem Ac {x : Nd} {i : Nat} (ho : okN x i = true) (hi : i <= 3000) : (dK x).length <= 30 := by
 obtain ⟨k1,k9,n3,n9,n0,a0,a1,b0,b1,s4⟩ := qF ho
 have l1 := ch (n := x.kind.toNat) (by omega)
 have l2 := ch (n := x.n.toNat) (by omega)
 have l3 := ch (n := (x.n + 1000000000).toNat) (by omega)
 have l4 := ch (n := x.a.toNat) (by omega)
 have l5 := ch (n := x.b.toNat) (by omega)
 have e : x.s.data.toList.length = x.s.size := by rw [Array.length_toList]; rfl
 have l6 := xq (s := x.s.data.toList) (by omega)
 unfold dK
 repeat' split
 all_goals (simp only [lnA,lnN]; omega)
theorem qe {p : List Nd} (hp : bu p = true) : ∀ (k i : Nat) (out : List UInt8),i + k = p.length -> out.length <= 9 + 30 * i -> aM (p.map eN) (ni (p.map eN).length) (i : Int) (out.map eU) = some (.os (1,0) ((out ++ (p.drop i).flatMap dK).map eU),[])
 | 0,i,out,hi,ho => by
  have hl := bJ hp
  rw [jM,List.drop_of_length_le (by omega)]
  simp (disch := first | omega | (simp only [lnA,lnC,lnN,lnM,af,aa]; omega)) only [↓al,cZ,lnM,aa,List.flatMap_nil,List.append_nil]
 | k + 1,i,out,hi,ho => by
  have hl := bJ hp
  obtain ⟨x,hx⟩ := aE (l := p) (i := i) (by omega)
  have hok := eH hp hx
  have hlen := Ac hok (by omega)
  obtain ⟨k1,k9,n3,n9,n0,a0,a1,b0,b1,s4⟩ := qF hok
  have l1 := ch (n := x.kind.toNat) (by omega)
  have l2 := ch (n := x.n.toNat) (by omega)
  have l3 := ch (n := (x.n + 1000000000).toNat) (by omega)
  have l4 := ch (n := x.a.toNat) (by omega)
  have l5 := ch (n := x.b.toNat) (by omega)
  have e : x.s.data.toList.length = x.s.size := by rw [Array.length_toList]; rfl
  have l6 := xq (s := x.s.data.toList) (by omega)
  have ih := qe hp k (i + 1) (out ++ dK x) (by omega) (by simp only [lnA]; omega)
  have hw : IntKind.wrap IntKind.i64 ((i : Int) + 1) = ((i + 1 : Nat) : Int) := dd (by omega)
  have ed : out ++ (p.drop i).flatMap dK = out ++ dK x ++ (p.drop (i + 1)).flatMap dK := by rw [cX hx,List.flatMap_cons,List.append_assoc]
  rw [ed,jM]
  rw [lnM] at ih ⊢
  have hk : x.kind = 1 \/ x.kind = 2 \/ x.kind = 3 \/ x.kind = 4 \/ x.kind = 5 \/ x.kind = 6 \/ x.kind = 7 \/ x.kind = 8 \/ x.kind = 9 := by omega
  rcases hk with h | h | h | h | h | h | h | h | h
  ·rw [CM h] at ih ⊢; simp (disch := first | omega | (simp only [lnA,lnC,lnN,lnM,af,aa]; omega)) only [↓ae,ah,↓am,↓al,↓ay,↓aj,↓ai,↓ak,↓aF,↓aJ,↓aw,↓aU,↓aR,aW,bg,Bool.and_true,lnM,lnA,bh,aa,↓aq hx,c7,dI,hw]; exact ih
  ·rw [gQ (.inl h),<- List.append_assoc] at ih ⊢; simp (disch := first | omega | (simp only [lnA,lnC,lnN,lnM,af,aa]; omega)) only [↓ae,ah,↓am,↓ay,↓aj,↓ai,↓ak,↓aF,↓aJ,↓aw,↓aU,↓aR,aW,bc,Bool.and_true,lnM,lnA,bh,aa,↓aq hx,c7,dI,hw]; exact ih
  ·rw [wO h,<- List.append_assoc] at ih ⊢; simp (disch := first | omega | (simp only [lnA,lnC,lnN,lnM,af,aa]; omega)) only [↓ae,ah,↓am,↓al,↓ay,↓aj,↓ai,↓ak,↓aF,↓aJ,↓aw,↓aU,↓aR,aW,bc,bg,Bool.and_true,lnM,lnA,bh,wS,aa,↓aq hx,c7,dI,hw]; exact ih
  ·rw [wQ h,<- List.append_assoc] at ih ⊢; simp (disch := first | omega | (simp only [lnA,lnC,lnN,lnM,af,aa]; omega)) only [↓ae,ah,↓am,↓al,↓ay,↓aj,↓ai,↓ak,↓aF,↓aJ,↓aw,↓aU,↓aR,aW,bc,bg,Bool.and_true,lnM,lnA,bh,aa,↓aq hx,c7,wv,dI,hw]; exact ih
  ·rw [wV h,<- List.append_assoc,<- List.append_assoc] at ih ⊢; simp (disch := first | omega | (simp only [lnA,lnC,lnN,lnM,af,aa]; omega)) only [↓ae,ah,↓am,↓al,↓ay,↓aj,↓ai,↓ak,↓aF,↓aJ,↓aw,↓aU,↓aR,aW,bc,bg,Bool.and_true,lnM,lnA,bh,aa,↓aq hx,c7,dI,hw]; exact ih
  ·rw [wU h,<- List.append_assoc,<- List.append_assoc] at ih ⊢; simp (disch := first | omega | (simp only [lnA,lnC,lnN,lnM,af,aa]; omega)) only [↓ae,ah,↓am,↓al,↓ay,↓aj,↓ai,↓ak,↓aF,↓aJ,↓aw,↓aU,↓aR,aW,bc,bg,Bool.and_true,lnM,lnA,bh,aa,↓aq hx,c7,dI,hw]; exact ih
  ·rw [w4 h,<- List.append_assoc] at ih ⊢; simp (disch := first | omega | (simp only [lnA,lnC,lnN,lnM,af,aa]; omega)) only [↓ae,ah,↓am,↓al,↓ay,↓aj,↓ai,↓ak,↓aF,↓aJ,↓aw,↓aU,↓aR,aW,bc,bg,Bool.and_true,lnM,lnA,bh,aa,↓aq hx,c7,dI,hw]; exact ih
  ·rw [gQ (.inr (.inl h)),<- List.append_assoc] at ih ⊢; simp (disch := first | omega | (simp only [lnA,lnC,lnN,lnM,af,aa]; omega)) only [↓ae,ah,↓am,↓al,↓ay,↓aj,↓ai,↓ak,↓aF,↓aJ,↓aw,↓aU,↓aR,aW,bc,bg,Bool.and_true,lnM,lnA,bh,aa,↓aq hx,c7,dI,hw]; exact ih
  ·rw [gQ (.inr (.inr h)),<- List.append_assoc] at ih ⊢; simp (disch := first | omega | (simp only [lnA,lnC,lnN,lnM,af,aa]; omega)) only [↓ae,ah,↓am,↓al,↓ay,↓aj,↓ai,↓ak,↓aF,↓aJ,↓aw,↓aU,↓aR,aW,bc,bg,Bool.and_true,lnM,lnA,bh,aa,↓aq hx,c7,dI,hw]; exact ih
theorem pj {p : List Nd} (hp : bu p = true) : ∀ (k i : Nat) (out : List UInt8),i + k = p.length -> out.length <= 9 + 30 * i -> aY (i : Int) (p.map eN) (out.map eU) = some (.os (1,0) ((out ++ (p.drop i).flatMap dK).map eU),[])
 | 0,i,out,hi,ho => by
  have hl := bJ hp
  rw [lm,List.drop_of_length_le (by omega)]
  simp (disch := first | omega | (simp only [lnA,lnC,lnN,lnM,af,aa]; omega)) only [↓al,cZ,lnM,aa,List.flatMap_nil,List.append_nil]
 | k + 1,i,out,hi,ho => by
  have hl := bJ hp
  obtain ⟨x,hx⟩ := aE (l := p) (i := i) (by omega)
  have hok := eH hp hx
  have hlen := Ac hok (by omega)
  obtain ⟨k1,k9,n3,n9,n0,a0,a1,b0,b1,s4⟩ := qF hok
  have l1 := ch (n := x.kind.toNat) (by omega)
  have l2 := ch (n := x.n.toNat) (by omega)
  have l3 := ch (n := (x.n + 1000000000).toNat) (by omega)
  have l4 := ch (n := x.a.toNat) (by omega)
  have l5 := ch (n := x.b.toNat) (by omega)
  have e : x.s.data.toList.length = x.s.size := by rw [Array.length_toList]; rfl
  have l6 := xq (s := x.s.data.toList) (by omega)
  have ih := pj hp k (i + 1) (out ++ dK x) (by omega) (by simp only [lnA]; omega)
  have hw : IntKind.wrap IntKind.i64 ((i : Int) + 1) = ((i + 1 : Nat) : Int) := dd (by omega)
  have ed : out ++ (p.drop i).flatMap dK = out ++ dK x ++ (p.drop (i + 1)).flatMap dK := by rw [cX hx,List.flatMap_cons,List.append_assoc]
  rw [ed,lm]
  have hk : x.kind = 1 \/ x.kind = 2 \/ x.kind = 3 \/ x.kind = 4 \/ x.kind = 5 \/ x.kind = 6 \/ x.kind = 7 \/ x.kind = 8 \/ x.kind = 9 := by omega
  rcases hk with h | h | h | h | h | h | h | h | h
  ·rw [CM h] at ih ⊢; simp (disch := first | omega | (simp only [lnA,lnC,lnN,lnM,af,aa]; omega)) only [↓ae,ah,↓am,↓al,↓ay,↓aj,↓ai,↓ak,↓aF,↓aJ,↓aw,↓aU,↓aR,aW,bg,Bool.and_true,lnM,lnA,bh,aa,↓aq hx,cY,dI,hw]; exact ih
  ·rw [gQ (.inl h),<- List.append_assoc] at ih ⊢; simp (disch := first | omega | (simp only [lnA,lnC,lnN,lnM,af,aa]; omega)) only [↓ae,ah,↓am,↓ay,↓aj,↓ai,↓ak,↓aF,↓aJ,↓aw,↓aU,↓aR,aW,bc,Bool.and_true,lnM,lnA,bh,aa,↓aq hx,cY,dI,hw]; exact ih
  ·rw [wO h,<- List.append_assoc] at ih ⊢; simp (disch := first | omega | (simp only [lnA,lnC,lnN,lnM,af,aa]; omega)) only [↓ae,ah,↓am,↓al,↓ay,↓aj,↓ai,↓ak,↓aF,↓aJ,↓aw,↓aU,↓aR,aW,bc,bg,Bool.and_true,lnM,lnA,bh,wS,aa,↓aq hx,cY,dI,hw]; exact ih
  ·rw [wQ h,<- List.append_assoc] at ih ⊢; simp (disch := first | omega | (simp only [lnA,lnC,lnN,lnM,af,aa]; omega)) only [↓ae,ah,↓am,↓al,↓ay,↓aj,↓ai,↓ak,↓aF,↓aJ,↓aw,↓aU,↓aR,aW,bc,bg,Bool.and_true,lnM,lnA,bh,aa,↓aq hx,cY,wG,dI,hw]; exact ih
  ·rw [wV h,<- List.append_assoc,<- List.append_assoc] at ih ⊢; simp (disch := first | omega | (simp only [lnA,lnC,lnN,lnM,af,aa]; omega)) only [↓ae,ah,↓am,↓al,↓ay,↓aj,↓ai,↓ak,↓aF,↓aJ,↓aw,↓aU,↓aR,aW,bc,bg,Bool.and_true,lnM,lnA,bh,aa,↓aq hx,cY,dI,hw]; exact ih
  ·rw [wU h,<- List.append_assoc,<- List.append_assoc] at ih ⊢; simp (disch := first | omega | (simp only [lnA,lnC,lnN,lnM,af,aa]; omega)) only [↓ae,ah,↓am,↓al,↓ay,↓aj,↓ai,↓ak,↓aF,↓aJ,↓aw,↓aU,↓aR,aW,bc,bg,Bool.and_true,lnM,lnA,bh,aa,↓aq hx,cY,dI,hw]; exact ih
  ·rw [w4 h,<- List.append_assoc] at ih ⊢; simp (disch := first | omega | (simp only [lnA,lnC,lnN,lnM,af,aa]; omega)) only [↓ae,ah,↓am,↓al,↓ay,↓aj,↓ai,↓ak,↓aF,↓aJ,↓aw,↓aU,↓aR,aW,bc,bg,Bool.and_true,lnM,lnA,bh,aa,↓aq hx,cY,dI,hw]; exact ih
  ·rw [gQ (.inr (.inl h)),<- List.append_assoc] at ih ⊢; simp (disch := first | omega | (simp only [lnA,lnC,lnN,lnM,af,aa]; omega)) only [↓ae,ah,↓am,↓al,↓ay,↓aj,↓ai,↓ak,↓aF,↓aJ,↓aw,↓aU,↓aR,aW,bc,bg,Bool.and_true,lnM,lnA,bh,aa,↓aq hx,cY,dI,hw]; exact ih
  ·rw [gQ (.inr (.inr h)),<- List.append_assoc] at ih ⊢; simp (disch := first | omega | (simp only [lnA,lnC,lnN,lnM,af,aa]; omega)) only [↓ae,ah,↓am,↓al,↓ay,↓aj,↓ai,↓ak,↓aF,↓aJ,↓aw,↓aU,↓aR,aW,bc,bg,Bool.and_true,lnM,lnA,bh,aa,↓aq hx,cY,dI,hw]; exact ih
theorem F4 {p : List Nd} (hp : bu p = true) : V 68 [eP p] = some (.os (1,0) ((vq p).map eU),[]) := by
 have hl := bJ hp
 have h := qe hp p.length 0 (cD p.length) (Nat.zero_add _) (ch (by omega))
 rw [lnM,List.drop_zero,Int.natCast_zero] at h
 rw [wJ]
 simp (disch := first | omega | (simp only [lnA,lnC,lnN,lnM,af,aa]; omega)) only [↓ae,ah,↓aj,↓aJ,lnM,aa,c7,Int.toNat_natCast]
 exact h
theorem Ma {p : List Nd} (hp : bu p = true) : V 70 [eP p] = some (.os (1,0) ((vq p).map eU),[]) := by
 have hl := bJ hp
 have h := pj hp p.length 0 (cD p.length) (Nat.zero_add _) (ch (by omega))
 rw [List.drop_zero,Int.natCast_zero] at h
 rw [za]
 simp (disch := first | omega | (simp only [lnA,lnC,lnN,lnM,af,aa]; omega)) only [↓ae,ah,↓aj,↓aJ,lnM,aa,cY,Int.toNat_natCast]
 exact h
noncomputable def nH (p : List Nd) (v : Int) : Option (List UInt8) := if bu p = true /\ wi v 0 ((p.length : Int) - 1) = true then some (vq (dv (-1) p [v]).1) else none
noncomputable def wl (r : Option (List UInt8)) : D := match r with | some l => .tup [.str (mk l),.bool true] | none => .tup [.str ⟨#[]⟩,.bool false]
theorem kg {p : List Nd} {v : Int} (h : wi v 0 ((p.length : Int) - 1) = true) : dl p [v] = true := by simp [dl,h]
theorem ux {p : List Nd} (hf : fW p) (hl : p.length < 4611686018427387904) (v : Int) : V 195 [eP p,.int .i64 v] = some (wl (nH p v),[]) := by
 rw [wD]
 unfold nH
 cases hp : bu p with
 | false => rw [if_neg (by simp)]; simp (disch := first | omega | (simp only [lnA,lnC,lnN,lnM,af,aa]; omega)) only [↓ae,ah,↓am,↓aj,↓ap,Bool.not_false,gE hf hl,hp]; rfl
 | true =>
  cases hv : wi v 0 ((p.length : Int) - 1) with
  | false => rw [if_neg (by simp)]; simp (disch := first | omega | (simp only [lnA,lnC,lnN,lnM,af,aa]; omega)) only [↓ae,ah,↓am,↓al,↓aj,↓ap,Bool.not_true,Bool.not_false,gE hf hl,hp,lj hl v,hv]; rfl
  | true =>
   have hk : V 66 [eP p,.rs (1,0) [.int .i64 v]] = _ := Ru hp (rs := [v]) (by simp) (kg hv)
   have ha := (rL hp (kg hv) (-1) (-1)).1
   rw [if_pos (And.intro rfl rfl)]
   simp (disch := first | omega | (simp only [lnA,lnC,lnN,lnM,af,aa]; omega)) only [↓ae,ah,↓al,↓aj,↓ai,↓ap,↓aJ,↓aw,↓bC,Bool.not_true,gE hf hl,hp,lj hl v,hv,hk,F4 ha,↓oE]
   rfl
theorem uE {p : List Nd} (hf : fW p) (hl : p.length < 4611686018427387904) (v : Int) : V 194 [eP p,.int .i64 v] = some (wl (nH p v),[]) := by
 rw [wu]
 unfold nH
 cases hp : bu p with
 | false => rw [if_neg (by simp)]; simp (disch := first | omega | (simp only [lnA,lnC,lnN,lnM,af,aa]; omega)) only [↓ae,ah,↓am,↓aj,↓ap,Bool.not_false,de hf hl,hp]; rfl
 | true =>
  cases hv : wi v 0 ((p.length : Int) - 1) with
  | false => rw [if_neg (by simp)]; simp (disch := first | omega | (simp only [lnA,lnC,lnN,lnM,af,aa]; omega)) only [↓ae,ah,↓am,↓al,↓aj,↓ap,Bool.not_true,Bool.not_false,de hf hl,hp,mg hl v,hv]; rfl
  | true =>
   have hk : V 86 [eP p,.rs (1,0) [.int .i64 v]] = _ := PZ hp (rs := [v]) (by simp) (kg hv)
   rw [IZ hp (kg hv) 0 (-1)] at hk
   have ha := (rL hp (kg hv) (-1) (-1)).1
   rw [if_pos (And.intro rfl rfl)]
   simp (disch := first | omega | (simp only [lnA,lnC,lnN,lnM,af,aa]; omega)) only [↓ae,ah,↓al,↓aj,↓ai,↓ap,↓aJ,↓aw,↓bC,Bool.not_true,de hf hl,hp,mg hl v,hv,hk,Ma ha,↓oE]
   rfl
end Go.Eng
/-! tidying,and machines as bytes,on both sides -/
namespace Go.Eng
open Go.Proofs Go.Proofs.Tryz
set_option maxHeartbeats 4000000

theorem Ny {p : List Nd} (hl : p.length <= 4294967296) : V 147 [eP p] = some (oP p,[]) := by
 rw [su,List.nil_append]
 simp (disch := first | omega | (simp only [lnA,lnC,lnN,lnM,af,aa]; omega)) only [↓ay,↓aU,aW,lnM,bh,aa]
noncomputable def holds (m : Mc) : Bool := decide (m.state = 1 \/ m.state = 2)
noncomputable def RA (m : Mc) : List Int := if holds m = true then [m.s,m.e,m.d,m.arg] else [m.s,m.e,m.d]
noncomputable def tf (m : Mc) (r : Int) : Int := (gW (-1) m.pool (RA m) []).1.getD r.toNat 0
end Go.Eng
/-! words of a text,on both sides -/
namespace Go.Eng
open Go.Proofs Go.Proofs.Tryz
set_option maxHeartbeats 4000000

noncomputable def dU (x : UInt8) : Bool := decide (48 <= x.toNat) && decide (x.toNat <= 57)
noncomputable def o7 (x : UInt8) : Bool := nmB (x.toNat : Int) || (dU x || (x.toNat : Int) == 35)
theorem dU_iff {x : UInt8} : dU x = true ↔ 48 <= x.toNat /\ x.toNat <= 57 := by simp [dU]
theorem Rm (x : UInt8) : br (decide ((x.toNat : Int) >= 48)) (some (D.bool (decide ((x.toNat : Int) <= 57)),([] : List D))) (some (D.bool false,[])) = some (.bool (dU x),[]) := by
 unfold dU
 by_cases h1 : 48 <= x.toNat
 ·by_cases h2 : x.toNat <= 57
  ·rw [aC (decide_eq_true (by omega)),decide_eq_true (by omega),decide_eq_true h1,decide_eq_true h2]; rfl
  ·rw [aC (decide_eq_true (by omega)),decide_eq_false (by omega),decide_eq_true h1,decide_eq_false h2]; rfl
 ·rw [av (decide_eq_false (by omega)),decide_eq_false h1]; rfl
theorem Am (x : UInt8) : V 226 [.int .u8 (x.toNat : Int)] = some (.bool (dU x),[]) := (zg _).trans (Rm x)
theorem nV (x : UInt8) : V 211 [.int .u8 (x.toNat : Int)] = some (.bool (o7 x),[]) := by
 rw [uy,o5 (te _),tg (Am x),Ol,Ol]; rfl

noncomputable def eE (acc : Nat) (l : List UInt8) : Nat := l.foldl (fun n x => 10 * n + (x.toNat - 48)) acc
theorem Kq : ∀ (l : List UInt8) (acc k : Nat),l.all dU = true -> acc < 10 ^ k -> eE acc l < 10 ^ (k + l.length)
 | [],acc,k,_,h => h
 | x :: l,acc,k,hl,h => by
  rw [List.all_cons,Bool.and_eq_true] at hl
  have hx := dU_iff.1 hl.1
  have := Kq l (10 * acc + (x.toNat - 48)) (k + 1) hl.2 (by rw [Nat.pow_succ]; omega)
  rw [lnC]
  have e : k + (l.length + 1) = k + 1 + l.length := by omega
  rw [e]; exact this
noncomputable abbrev noW : D := .tup [.int .i64 0,.bool false]
theorem xP {k : Nat} (h : k <= 10) : 10 ^ k <= 10000000000 := by
 have : 10 ^ k <= 10 ^ 10 := Nat.pow_le_pow_right (by omega) h
 simpa using this
noncomputable def gz (l : List UInt8) : Option Nat := if l.length = 0 \/ 10 < l.length \/ (l[0]? = some 48 /\ 1 < l.length) \/ l.all dU = false then none else some (eE 0 l)
theorem LX (l : List UInt8) (x : UInt8) (acc : Nat) : eE acc (l ++ [x]) = 10 * eE acc l + (x.toNat - 48) := by simp [eE]
theorem FW : ∀ (l : List UInt8) (acc : Nat),0 < acc -> 0 < eE acc l
 | [],acc,h => h
 | x :: l,acc,h => FW l (10 * acc + (x.toNat - 48)) (by omega)
theorem Ez : ∀ (n : Nat) (l : List UInt8),l.length = n + 1 -> l.all dU = true -> (l[0]? ≠ some 48 \/ l.length = 1) -> nq (eE 0 l) = l
 | 0,l,hn,ha,h0 => by
  match l,hn with
  | [x],_ =>
   have hx := dU_iff.1 (by simpa using ha)
   have e : eE 0 [x] = x.toNat - 48 := by simp [eE]
   rw [e,eK (by omega)]
   congr 1
   apply UInt8.toNat_inj.1
   simp; omega
 | n + 1,l,hn,ha,h0 => by
  have hne : l ≠ [] := by intro h; rw [h] at hn; simp at hn
  obtain ⟨l',x,rfl⟩ : ∃ l' x,l = l' ++ [x] := ⟨l.dropLast,l.getLast hne,(List.dropLast_concat_getLast hne).symm⟩
  have hl' : l'.length = n + 1 := by simp at hn; omega
  have ha' : l'.all dU = true /\ dU x = true := by simpa using ha
  have hx := dU_iff.1 ha'.2
  have h48 : l'[0]? ≠ some 48 := by
   rcases h0 with h | h
   ·rwa [List.getElem?_append_left (by omega)] at h
   ·exfalso; rw [lnA,List.length_singleton] at h; omega
  have ih := Ez n l' hl' ha'.1 (.inl h48)
  rw [LX]
  have hpos : 0 < eE 0 l' := by
   match l',hl' with
   | y :: r,_ =>
    have hy := dU_iff.1 (by simpa using (show (y :: r).all dU = true from ha'.1) : dU y = true /\ _).1
    have hy48 : y.toNat ≠ 48 := by
     intro h; apply h48; simp; exact UInt8.toNat_inj.1 h
    exact FW r (10 * 0 + (y.toNat - 48)) (by omega)
  rw [pn (by omega)]
  have e1 : (10 * eE 0 l' + (x.toNat - 48)) / 10 = eE 0 l' := by omega
  have e2 : (10 * eE 0 l' + (x.toNat - 48)) % 10 = x.toNat - 48 := by omega
  rw [e1,e2,ih]
  congr 2
  apply UInt8.toNat_inj.1
  simp; omega
theorem Mt : ∀ (n : Nat),(nq n)[0]? ≠ some 48 \/ n = 0 := by
 intro n
 induction n using Nat.strongRecOn with
 | _ n ih =>
  by_cases h : n < 10
  ·by_cases h0 : n = 0
   ·exact .inr h0
   ·left
    rw [eK h]
    intro e
    simp at e
    have := congrArg UInt8.toNat e
    simp at this
    omega
  ·left
   rw [pn h,List.getElem?_append_left (Od _)]
   rcases ih (n / 10) (by omega) with h1 | h1
   ·exact h1
   ·omega
theorem Gv {l : List UInt8} (h0 : l.length ≠ 0) (h10 : ¬ 10 < l.length) (ha : l.all dU = true) : nq (eE 0 l) = l ↔ ¬ (l[0]? = some 48 /\ 1 < l.length) := by
 constructor
 ·rintro h ⟨h1,h2⟩
  rcases Mt (eE 0 l) with h3 | h3
  ·rw [h] at h3; exact h3 h1
  ·rw [h3,eK (by omega)] at h
   have := congrArg List.length h
   simp at this; omega
 ·intro h
  refine Ez (l.length - 1) l (by omega) ha ?_
  by_cases h1 : l[0]? = some 48
  ·exact .inr (by have : ¬ 1 < l.length := fun h2 => h ⟨h1,h2⟩
           omega)
  ·exact .inl h1
end Go.Eng
/-! the node of a word,on both sides -/
namespace Go.Eng
open Go.Proofs Go.Proofs.Tryz
set_option maxHeartbeats 4000000

noncomputable def D5 (r : Option Nat) : Option Int := match r with | some n => if n <= 1000000000 then some (n : Int) else none | none => none
noncomputable def Na (r : Option Nat) : Option Int := match r with | some n => if 0 < n /\ n <= 1000000000 then some (-(n : Int)) else none | none => none
noncomputable def IV (l : List UInt8) : Option Int := match l with
 | x :: d :: r => if x = 45 /\ dU d = true then Na (gz (d :: r)) else D5 (gz l)
 | _ => D5 (gz l)
noncomputable def KX (r : Option Int) (l : List UInt8) : Option Nd := match r with | some n => some ⟨3,n,⟨#[]⟩,0,0⟩ | none => if qQ (mk l) = true then some ⟨4,0,mk l,0,0⟩ else none
noncomputable def jV (l : List UInt8) : Option Nd := if l = [35,116] then some ⟨2,1,⟨#[]⟩,0,0⟩ else if l = [35,102] then some ⟨2,0,⟨#[]⟩,0,0⟩ else KX (IV l) l
noncomputable def KE (r : Option Nd) (x : Nd) (b : Bool) : Prop := match r with | some y => x = y /\ b = true | none => b = false
theorem zX {l : List UInt8} {n : Nat} (h : gz l = some n) : l.length ≠ 0 /\ ¬ 10 < l.length /\ ¬ (l[0]? = some 48 /\ 1 < l.length) /\ l.all dU = true /\ n = eE 0 l /\ n < 10000000000 := by
 unfold gz at h
 split at h
 ·cases h
 ·rename_i hn
  cases h
  have ha : l.all dU = true := by
   cases e : l.all dU with
   | true => rfl
   | false => exact absurd (.inr (.inr (.inr e))) hn
  have h10 : ¬ 10 < l.length := fun e => hn (.inr (.inl e))
  have := Kq l 0 0 ha (by simp)
  rw [Nat.zero_add] at this
  have := xP (k := l.length) (by omega)
  exact ⟨fun e => hn (.inl e),h10,fun e => hn (.inr (.inr (.inl e))),ha,rfl,by omega⟩
noncomputable def tb (l : List UInt8) : Bool := match gz l with | some n => decide (n <= 1000000000) | none => qQ (mk l)
theorem O9 {l : List UInt8} (h : ¬ (l[0]? = some 45 /\ 1 < l.length)) : IV l = D5 (gz l) := by
 match l with
 | [] => rfl
 | [x] => rfl
 | x :: d :: r => rw [IV,if_neg]; rintro ⟨e,_⟩; exact h ⟨by rw [e]; rfl,by simp⟩
noncomputable def wy (a r : List UInt8) (v : Nat) : Int := if r.length = a.length then (v : Int) else -(v : Int)
noncomputable def FP (a r : List UInt8) (v : Nat) : Bool := decide (oC (wy a r v) = a) && wi (wy a r v) (-1000000000) 1000000000
theorem Qn {a r : List UInt8} {v : Nat} (hv : v < 100000000000) : @Eq (Option Ret) (br (ni r.length != ni a.length)
  (ac V 202 [(.int .i64 (IntKind.wrap IntKind.i64 (0 - (v : Int))))] fun x3 l4 => asS x3 fun s5 => unn l4 (br (ax s5 (mk a))
    (ac V 62 [(.int .i64 (IntKind.wrap IntKind.i64 (0 - (v : Int)))),(.int .i64 (-1000000000)),(.int .i64 (1000000000))] fun x6 l7 => asB x6 fun b8 => unn l7 (some ((.tup [(.int .i64 (IntKind.wrap IntKind.i64 (0 - (v : Int)))),(.bool b8)]),[])))
    (some ((.tup [(.int .i64 (IntKind.wrap IntKind.i64 (0 - (v : Int)))),(.bool false)]),[]))))
  (ac V 202 [(.int .i64 (v : Int))] fun x9 l10 => asS x9 fun s11 => unn l10 (br (ax s11 (mk a))
    (ac V 62 [(.int .i64 (v : Int)),(.int .i64 (-1000000000)),(.int .i64 (1000000000))] fun x12 l13 => asB x12 fun b14 => unn l13 (some ((.tup [(.int .i64 (v : Int)),(.bool b14)]),[])))
    (some ((.tup [(.int .i64 (v : Int)),(.bool false)]),[]))))) (some (.tup [.int .i64 (wy a r v),.bool (FP a r v)],[])) := by
 unfold FP wy
 by_cases h : r.length = a.length
 ·have hd := xR (n := (v : Int)) (by omega)
  rw [av (by simp [ni,h]),if_pos h,mC hd,kM]
  by_cases h2 : oC (v : Int) = a
  ·rw [decide_eq_true h2,am,fg (dP _ _ _),Bool.true_and]
  ·rw [decide_eq_false h2,al,Bool.false_and]
 ·have hd := xR (n := -(v : Int)) (by omega)
  rw [aC (by simp only [ni,bne_iff_ne,ne_eq]; omega),if_neg h,show (0 : Int) - (v : Int) = -(v : Int) by omega,w64 (by omega) (by omega),mC hd,kM]
  by_cases h2 : oC (-(v : Int)) = a
  ·rw [decide_eq_true h2,am,fg (dP _ _ _),Bool.true_and]
  ·rw [decide_eq_false h2,al,Bool.false_and]
theorem Ej {a l : List UInt8} (hl : l.length <= 10) : ∀ (k i acc : Nat),i + k = l.length -> acc < 10 ^ i -> d7 (mk a) (mk l) (acc : Int) (i : Int) = some (if (l.drop i).all dU = true then .tup [.int .i64 (wy a l (eE acc (l.drop i))),.bool (FP a l (eE acc (l.drop i)))] else noW,[])
 | 0,i,acc,hi,ha => by
  have hp := xP (k := i) (by omega)
  have he := Qn (a := a) (r := l) (v := acc) (by omega)
  rw [m8,List.drop_of_length_le (by omega),af,af,av (dc (by omega)),he]
  rfl
 | k + 1,i,acc,hi,ha => by
  obtain ⟨x,hx⟩ := aE (l := l) (i := i) (by omega)
  have hp := xP (k := i) (by omega)
  have hb := Ai hx
  have hd := Am x
  rw [m8,af,aC (cm (by omega)),au (bj (by omega)),hb,tg hd,cX hx,List.all_cons]
  cases h : dU x with
  | false => rw [Bool.not_false,am,if_neg (by simp)]
  | true =>
   have hx2 := dU_iff.1 h
   have e2 : IntKind.wrap IntKind.i64 (IntKind.wrap IntKind.i64 (IntKind.wrap IntKind.i64 (10 * (acc : Int)) + IntKind.wrap IntKind.i64 ((x.toNat : Nat) : Int)) - 48) = ((10 * acc + (x.toNat - 48) : Nat) : Int) := by
    rw [w64 (n := 10 * (acc : Int)) (by omega) (by omega),w64 (n := ((x.toNat : Nat) : Int)) (by omega) (by omega),w64 (n := 10 * (acc : Int) + _) (by omega) (by omega),w64 (by omega) (by omega)]; omega
   have ih := Ej (a := a) hl k (i + 1) (10 * acc + (x.toNat - 48)) (by omega) (by rw [Nat.pow_succ]; omega)
   rw [Bool.not_true,al,au (bj (by omega)),e2,dd (by omega),ih,Bool.true_and]
   rfl
theorem CW {l : List UInt8} (h0 : l.length ≠ 0) (h10 : ¬ 10 < l.length) (ha : l.all dU = true) : wy l l (eE 0 l) = (eE 0 l : Int) /\ FP l l (eE 0 l) = (D5 (gz l)).isSome /\ (∀ m,D5 (gz l) = some m -> m = (eE 0 l : Int)) := by
 have hz := Gv h0 h10 ha
 have e1 : wy l l (eE 0 l) = (eE 0 l : Int) := by simp [wy]
 have e2 : oC ((eE 0 l : Nat) : Int) = nq (eE 0 l) := by simp [oC]
 refine ⟨e1,?_,?_⟩
 ·unfold FP
  rw [e1,e2]
  by_cases h : l[0]? = some 48 /\ 1 < l.length
  ·rw [decide_eq_false (fun e => hz.1 e h),gz,if_pos (.inr (.inr (.inl h)))]; rfl
  ·have hn : gz l = some (eE 0 l) := by rw [gz,if_neg (by rintro (e | e | e | e) <;> first | omega | exact h e | (rw [ha] at e; cases e))]
   rw [decide_eq_true (hz.2 h),hn]
   unfold D5 wi
   by_cases h1 : eE 0 l <= 1000000000
   ·simp [h1]; omega
   ·simp [h1]; omega
 ·intro m hm
  cases hn : gz l with
  | none => rw [hn] at hm; cases hm
  | some n =>
   have := (zX hn).2.2.2.2.1
   rw [hn] at hm
   unfold D5 at hm
   simp only at hm
   split at hm
   ·cases hm; rw [this]
   ·cases hm
theorem Dn {l : List UInt8} (h0 : l.length ≠ 0) (h10 : ¬ 10 < l.length) (ha : l.all dU = true) : wy (45 :: l) l (eE 0 l) = -(eE 0 l : Int) /\ FP (45 :: l) l (eE 0 l) = (Na (gz l)).isSome /\ (∀ m,Na (gz l) = some m -> m = -(eE 0 l : Int)) := by
 have hz := Gv h0 h10 ha
 have e1 : wy (45 :: l) l (eE 0 l) = -(eE 0 l : Int) := by simp [wy]
 refine ⟨e1,?_,?_⟩
 ·unfold FP
  rw [e1]
  by_cases h : l[0]? = some 48 /\ 1 < l.length
  ·have : oC (-(eE 0 l : Int)) ≠ 45 :: l := by
    unfold oC
    split
    ·intro e; rw [Int.natAbs_neg,Int.natAbs_natCast] at e; exact hz.1 (List.cons_inj_right _ |>.1 e) h
    ·intro e
     have e0 : eE 0 l = 0 := by omega
     rw [e0] at e
     have := eK (n := 0) (by omega)
     simp [this] at e
   rw [decide_eq_false this,gz,if_pos (.inr (.inr (.inl h)))]; rfl
  ·have hn : gz l = some (eE 0 l) := by rw [gz,if_neg (by rintro (e | e | e | e) <;> first | omega | exact h e | (rw [ha] at e; cases e))]
   rw [hn]
   by_cases h1 : eE 0 l = 0
   ·have : oC (-(eE 0 l : Int)) ≠ 45 :: l := by
     intro e
     rw [h1] at e
     have := eK (n := 0) (by omega)
     simp [oC,this] at e
    rw [decide_eq_false this,h1]; rfl
   ·have : oC (-(eE 0 l : Int)) = 45 :: l := by
     unfold oC
     rw [if_pos (by omega),Int.natAbs_neg,Int.natAbs_natCast,hz.2 h]
    rw [decide_eq_true this]
    unfold Na wi
    by_cases h2 : eE 0 l <= 1000000000
    ·have : 0 < eE 0 l := by omega
     simp [h2,this]; omega
    ·simp [h2]; omega
 ·intro m hm
  cases hn : gz l with
  | none => rw [hn] at hm; cases hm
  | some n =>
   have := (zX hn).2.2.2.2.1
   rw [hn] at hm
   unfold Na at hm
   simp only at hm
   split at hm
   ·cases hm; rw [this]
   ·cases hm
theorem GY {a r : List UInt8} {F : Option Nat -> Option Int} (hF : F none = none)
  (hfin : r.length ≠ 0 -> ¬ 10 < r.length -> r.all dU = true -> FP a r (eE 0 r) = (F (gz r)).isSome /\ (∀ m,F (gz r) = some m -> m = wy a r (eE 0 r))) :
  ∃ n b,br (decide (ni r.length > 10)) (some (noW,[])) (br (ni r.length == 0) (some (noW,[])) (d7 (mk a) (mk r) 0 0)) = some (.tup [.int .i64 n,.bool b],[]) /\ b = (F (gz r)).isSome /\ (∀ m,F (gz r) = some m -> m = n) := by
 by_cases h10 : 10 < r.length
 ·have hn : gz r = none := by rw [gz,if_pos (.inr (.inl h10))]
  rw [aC (decide_eq_true (by simp only [ni]; omega)),hn,hF]
  exact ⟨0,false,rfl,rfl,fun m h => by cases h⟩
 ·rw [av (decide_eq_false (by simp only [ni]; omega))]
  by_cases h0 : r.length = 0
  ·have hn : gz r = none := by rw [gz,if_pos (.inl h0)]
   rw [aC (by simp [ni,h0]),hn,hF]
   exact ⟨0,false,rfl,rfl,fun m h => by cases h⟩
  ·rw [av (by simp only [ni,beq_eq_false_iff_ne,ne_eq]; omega)]
   have hl := Ej (a := a) (l := r) (by omega) r.length 0 0 (by omega) (by simp)
   rw [Int.natCast_zero,List.drop_zero] at hl
   rw [hl]
   cases ha : r.all dU with
   | false =>
    have hn : gz r = none := by rw [gz,if_pos (.inr (.inr (.inr ha)))]
    rw [if_neg (by simp),hn,hF]
    exact ⟨0,false,rfl,rfl,fun m h => by cases h⟩
   | true =>
    rw [if_pos rfl]
    obtain ⟨e1,e2⟩ := hfin h0 h10 ha
    exact ⟨_,_,rfl,e1,e2⟩
theorem Qi (l : List UInt8) : ∃ n b,V 227 [.str (mk l)] = some (.tup [.int .i64 n,.bool b],[]) /\ b = (IV l).isSome /\ (∀ m,IV l = some m -> m = n) := by
 have hpos : ∃ n b,br (decide (ni l.length > 10)) (some (noW,[])) (br (ni l.length == 0) (some (noW,[])) (d7 (mk l) (mk l) 0 0)) = some (.tup [.int .i64 n,.bool b],[]) /\ b = (D5 (gz l)).isSome /\ (∀ m,D5 (gz l) = some m -> m = n) :=
  GY rfl (fun h0 h10 ha => ⟨(CW h0 h10 ha).2.1,fun m hm => ((CW h0 h10 ha).2.2 m hm).trans (CW h0 h10 ha).1.symm⟩)
 rw [EH,af]
 by_cases hn : l[0]? = some 45 /\ 1 < l.length
 ·obtain ⟨hx,hl⟩ := hn
  match l,hx,hl with
  | x :: d :: r,hx,hl =>
   have hx : x = 45 := by simpa using hx
   subst hx
   have hb0 : bt (mk (45 :: d :: r)) 0 = 45 := Ai (i := 0) (x := 45) rfl
   have e : ByteArray.extract (mk (45 :: d :: r)) (Int.toNat 1) (45 :: d :: r).length = mk (d :: r) := by
    rw [lk]; congr 1; simp
   rw [aC (decide_eq_true (by simp only [ni]; omega)),au (by simp only [ni,Bool.and_eq_true,decide_eq_true_eq]; omega),hb0,aC (by decide),au (by unfold bi; simp; omega),e,af]
   obtain ⟨n,b,h1,h2,h3⟩ := GY (a := 45 :: d :: r) (r := d :: r) (F := Na) rfl (fun h0 h10 ha => ⟨(Dn h0 h10 ha).2.1,fun m hm => ((Dn h0 h10 ha).2.2 m hm).trans (Dn h0 h10 ha).1.symm⟩)
   refine ⟨n,b,h1,?_⟩
   rw [IV]
   by_cases hd : dU d = true
   ·rw [if_pos ⟨rfl,hd⟩]; exact ⟨h2,h3⟩
   ·rw [if_neg (fun h => hd h.2)]
    have hf : ∀ c : UInt8,dU c = false -> ∀ q,gz (c :: q) = none := by
     intro c hc q
     rw [gz,if_pos (.inr (.inr (.inr (by rw [List.all_cons,hc]; rfl))))]
    rw [hf 45 rfl] 
    rw [hf d (by simpa using hd)] at h2 h3
    exact ⟨h2,h3⟩
 ·rw [O9 hn]
  by_cases hl : 1 < l.length
  ·obtain ⟨x,hx⟩ := aE (l := l) (i := 0) (by omega)
   have hbt : bt (mk l) 0 = (x.toNat : Int) := Ai hx
   have hne : x.toNat ≠ 45 := by
    intro h; apply hn; rw [hx]; exact ⟨by congr 1; exact UInt8.toNat_inj.1 h,hl⟩
   rw [aC (decide_eq_true (by simp only [ni]; omega)),au (by simp only [ni,Bool.and_eq_true,decide_eq_true_eq]; omega),hbt,av (by simp only [beq_eq_false_iff_ne,ne_eq]; omega)]
   exact hpos
  ·rw [av (decide_eq_false (by simp only [ni]; omega))]
   exact hpos
theorem GH {l : List UInt8} (hb : l.length < 4611686018427387904) : ∃ x b,V 212 [.str (mk l)] = some (.tup [eN x,.bool b],[]) /\ KE (jV l) x b := by
 have e1 : ax (mk l) ⟨#[35,116]⟩ = decide (l = [35,116]) := kM l _
 have e2 : ax (mk l) ⟨#[35,102]⟩ = decide (l = [35,102]) := kM l _
 obtain ⟨n,b,h3,h4,h5⟩ := Qi l
 have hnm := jp (s := mk l) (by rw [af]; exact hb)
 rw [CI,e1,e2,IK h3]
 unfold jV
 by_cases h1 : l = [35,116]
 ·rw [aC (decide_eq_true h1),if_pos h1]; exact ⟨⟨2,1,⟨#[]⟩,0,0⟩,true,rfl,rfl,rfl⟩
 rw [av (decide_eq_false h1),if_neg h1]
 by_cases h2 : l = [35,102]
 ·rw [aC (decide_eq_true h2),if_pos h2]; exact ⟨⟨2,0,⟨#[]⟩,0,0⟩,true,rfl,rfl,rfl⟩
 rw [av (decide_eq_false h2),if_neg h2]
 cases hf : IV l with
 | some m =>
  rw [hf] at h4 h5
  have := h5 m rfl
  rw [h4,<- this]
  exact ⟨⟨3,m,⟨#[]⟩,0,0⟩,true,rfl,rfl,rfl⟩
 | none =>
  rw [hf] at h4
  rw [h4,show (none : Option Int).isSome = false from rfl,al,vu hnm]
  refine ⟨⟨4,0,mk l,0,0⟩,qQ (mk l),rfl,?_⟩
  cases e : qQ (mk l) with
  | true => simp [KX,e,KE]
  | false => simp [KX,e,KE]
end Go.Eng
/-! sizes told: printed by mkz.py -/
namespace Go.Eng
open Go.Proofs Go.Proofs.Tryz
set_option maxHeartbeats 4000000
set_option maxRecDepth 100000

theorem sz3 : TypeInfo.size (Tables.types (Program.toTables Tryz.prog))[3] = 1 := by kernel_rfl
theorem fl3 : m6 Tryz.prog (3) = true := by kernel_rfl

theorem cK (p0 : ByteArray) (p1 : Nat) (p2 : Int) (p3 : List D) (p4 : List D) (p5 : List D) (p6 : List D) : bZ p0 p1 p2 p3 p4 p5 p6 =
 br (decide (p2 < ni (ByteArray.size p0)))
  (
  grd (decide (0 <= p2) && decide (p2 < ni (ByteArray.size p0))) (br (bt p0 p2 == 32)
  (bZ p0 p1 (IntKind.wrap IntKind.i64 (p2 + 1)) p3 p4 p5 p6)
  (
   br (bt p0 p2 == 40)
   (grd (decide
 (ni
   (List.length
    (part p5 (some (0,p1)) ++
     [D.agg
       [D.int IntKind.i64 p2,
        D.os
         (1,0)
         []]])) <=
  LIM)) (nam (part p5 (some (0,p1)) ++
 [D.agg
   [D.int IntKind.i64 p2,
    D.os
     (1,0)
     []]]) fun l79 =>
   cg p0 (IntKind.wrap IntKind.i64 (p2 + 1)) p3 p4 l79 p6))
   (
   br (bt p0 p2 == 41)
   (
    br (IntKind.wrap IntKind.i64 (ni p1 - 1) == 0)
    (
    ac V 147 [(.agg [(.rs (5,0) p3)])] fun x80 l81 =>
    asAgg x80 fun l82 => unc l82 fun x83 l84 => aI (5,0) x83 fun l85 => unn l84 (unn l81 (some ((.tup [(.agg [(.os (5,0) l85)]),(.os (1,0) p4),(.int .i64 (5)),(.int .i64 p2)]),[]))))
    (
    grd (decide (0 <= IntKind.wrap IntKind.i64 (ni p1 - 1)) && decide (IntKind.wrap IntKind.i64 (ni p1 - 1) < ni p1) && decide (0 + p1 <= List.length p5)) (az p5 (0 + Int.toNat (IntKind.wrap IntKind.i64 (ni p1 - 1))) fun x86 =>
    asAgg x86 fun l87 => az l87 1 fun x88 =>
     aI (1,0) x88 fun l89 => asAgg x86 fun l90 => ac V 210 [(.op [(.os (5,0) p6)]),(.rs (1,0) l89)] fun x91 l92 =>
       asI .i64 x91 fun n93 => unc l92 fun x94 l95 => bH x94 fun l96 => unc l96 fun x97 l98 => aI (5,0) x97 fun l99 => unn l98 (unn l95 (grd (kt p1 (List.length (List.set p5 (0 + Int.toNat (IntKind.wrap IntKind.i64 (ni p1 - 1))) (D.agg (List.take 1 l90 ++ [D.dead] ++ List.drop 2 l90))) - 0) none (some (IntKind.wrap IntKind.i64 (ni p1 - 1)))) (grd (decide (0 <= IntKind.wrap IntKind.i64 (IntKind.wrap IntKind.i64 (ni p1 - 1) - 1)) && decide (IntKind.wrap IntKind.i64 (IntKind.wrap IntKind.i64 (ni p1 - 1) - 1) < ni (Int.toNat (IntKind.wrap IntKind.i64 (ni p1 - 1)))) && decide (0 + Int.toNat (IntKind.wrap IntKind.i64 (ni p1 - 1)) <= List.length (List.set p5 (0 + Int.toNat (IntKind.wrap IntKind.i64 (ni p1 - 1))) (D.agg (List.take 1 l90 ++ [D.dead] ++ List.drop 2 l90))))) (az (List.set p5 (0 + Int.toNat (IntKind.wrap IntKind.i64 (ni p1 - 1))) (D.agg (List.take 1 l90 ++ [D.dead] ++ List.drop 2 l90))) (0 + Int.toNat (IntKind.wrap IntKind.i64 (IntKind.wrap IntKind.i64 (ni p1 - 1) - 1))) fun x100 =>
          asAgg x100 fun l101 => az l101 1 fun x102 =>
           aI (1,0) x102 fun l103 => asAgg x100 fun l104 => grd (decide (ni (List.length (l103 ++ [D.int IntKind.i64 n93])) <= LIM)) (nam (l103 ++ [D.int IntKind.i64 n93]) fun l105 =>
            grd (decide (0 <= IntKind.wrap IntKind.i64 (IntKind.wrap IntKind.i64 (ni p1 - 1) - 1)) && decide (IntKind.wrap IntKind.i64 (IntKind.wrap IntKind.i64 (ni p1 - 1) - 1) < ni (Int.toNat (IntKind.wrap IntKind.i64 (ni p1 - 1)))) && decide (0 + Int.toNat (IntKind.wrap IntKind.i64 (ni p1 - 1)) <= List.length (List.set (List.set p5 (0 + Int.toNat (IntKind.wrap IntKind.i64 (ni p1 - 1))) (D.agg (List.take 1 l90 ++ [D.dead] ++ List.drop 2 l90))) (0 + Int.toNat (IntKind.wrap IntKind.i64 (IntKind.wrap IntKind.i64 (ni p1 - 1) - 1))) (D.agg (List.take 1 l104 ++ [D.dead] ++ List.drop 2 l104))))) (az (List.set (List.set p5 (0 + Int.toNat (IntKind.wrap IntKind.i64 (ni p1 - 1))) (D.agg (List.take 1 l90 ++ [D.dead] ++ List.drop 2 l90))) (0 + Int.toNat (IntKind.wrap IntKind.i64 (IntKind.wrap IntKind.i64 (ni p1 - 1) - 1))) (D.agg (List.take 1 l104 ++ [D.dead] ++ List.drop 2 l104))) (0 + Int.toNat (IntKind.wrap IntKind.i64 (IntKind.wrap IntKind.i64 (ni p1 - 1) - 1))) fun x106 =>
             asAgg x106 fun l107 => nam (List.set (List.set (List.set p5 (0 + Int.toNat (IntKind.wrap IntKind.i64 (ni p1 - 1))) (D.agg (List.take 1 l90 ++ [D.dead] ++ List.drop 2 l90))) (0 + Int.toNat (IntKind.wrap IntKind.i64 (IntKind.wrap IntKind.i64 (ni p1 - 1) - 1))) (D.agg (List.take 1 l104 ++ [D.dead] ++ List.drop 2 l104))) (0 + Int.toNat (IntKind.wrap IntKind.i64 (IntKind.wrap IntKind.i64 (ni p1 - 1) - 1)))
 (D.agg
  (List.take 1 l107 ++
    [D.os
      (1,0)
      l105] ++
   List.drop 2 l107))) fun l108 =>
              bZ p0 (Int.toNat (IntKind.wrap IntKind.i64 (ni p1 - 1))) (IntKind.wrap IntKind.i64 (p2 + 1)) p3 p4 l108 l99)))))))))
   (
    ac V 211 [(.int .u8 (bt p0 p2))] fun x109 l110 =>
    asB x109 fun b111 => unn l110 (br b111
     (dQ p0 p1 p2 (IntKind.wrap IntKind.i64 (ni p1 - 1)) p2 p3 p4 p5 p6)
     (
     ac V 147 [(.agg [(.rs (5,0) p3)])] fun x112 l113 =>
     asAgg x112 fun l114 => unc l114 fun x115 l116 => aI (5,0) x115 fun l117 => unn l116 (unn l113 (some ((.tup [(.agg [(.os (5,0) l117)]),(.os (1,0) p4),(.int .i64 (2)),(.int .i64 p2)]),[]))))))))))
  (
  br (decide (ni p1 > 1))
  (
   ac V 147 [(.agg [(.rs (5,0) p3)])] fun x118 l119 =>
   asAgg x118 fun l120 => unc l120 fun x121 l122 => aI (5,0) x121 fun l123 => unn l122 (unn l119 (grd (decide (0 <= IntKind.wrap IntKind.i64 (ni p1 - 1)) && decide (IntKind.wrap IntKind.i64 (ni p1 - 1) < ni p1) && decide (0 + p1 <= List.length p5)) (az p5 (0 + Int.toNat (IntKind.wrap IntKind.i64 (ni p1 - 1))) fun x124 =>
     asAgg x124 fun l125 => az l125 0 fun x126 =>
      asI .i64 x126 fun n127 => some ((.tup [(.agg [(.os (5,0) l123)]),(.os (1,0) p4),(.int .i64 (4)),(.int .i64 n127)]),[])))))
  (
   ac V 60 [(.agg [(.rs (5,0) p6)])] fun x128 l129 =>
   asB x128 fun b130 => unn l129 (br (!b130)
    (
    ac V 147 [(.agg [(.rs (5,0) p3)])] fun x131 l132 =>
    asAgg x131 fun l133 => unc l133 fun x134 l135 => aI (5,0) x134 fun l136 => unn l135 (unn l132 (some ((.tup [(.agg [(.os (5,0) l136)]),(.os (1,0) p4),(.int .i64 (6)),(.int .i64 (0))]),[]))))
    (
    grd (decide (0 <= 0) && decide (0 < ni p1) && decide (0 + p1 <= List.length p5)) (az p5 0 fun x137 =>
    asAgg x137 fun l138 => az l138 1 fun x139 =>
     aI (1,0) x139 fun l140 => asAgg x137 fun _ => grd (decide (ni (List.length ([] ++ l140)) <= LIM)) (nam ([] ++ l140) fun l142 =>
       some ((.tup [(.agg [(.os (5,0) p6)]),(.os (1,0) l142),(.int .i64 (0)),(.int .i64 (ni (ByteArray.size p0)))]),[]))))))) := by
 have h := tU p0 p1 p2 p3 p4 p5 p6
 simp only [sz3,fl3] at h
 exact h
theorem da (p0 : ByteArray) (p1 : Int) (p2 : List D) (p3 : List D) (p4 : List D) (p5 : List D) : cg p0 p1 p2 p3 p4 p5 =
 br (decide (p1 < ni (ByteArray.size p0)))
  (
  grd (decide (0 <= p1) && decide (p1 < ni (ByteArray.size p0))) (br (bt p0 p1 == 32)
  (cg p0 (IntKind.wrap IntKind.i64 (p1 + 1)) p2 p3 p4 p5)
  (
   br (bt p0 p1 == 40)
   (grd (decide
 (ni
   (List.length
    (p4 ++
     [D.agg
       [D.int IntKind.i64 p1,
        D.os
         (1,0)
         []]])) <=
  LIM)) (nam (p4 ++
 [D.agg
   [D.int IntKind.i64 p1,
    D.os
     (1,0)
     []]]) fun l15 =>
   cg p0 (IntKind.wrap IntKind.i64 (p1 + 1)) p2 p3 l15 p5))
   (
   br (bt p0 p1 == 41)
   (
    br (IntKind.wrap IntKind.i64 (ni p4.length - 1) == 0)
    (
    ac V 147 [(.agg [(.rs (5,0) p2)])] fun x16 l17 =>
    asAgg x16 fun l18 => unc l18 fun x19 l20 => aI (5,0) x19 fun l21 => unn l20 (unn l17 (some ((.tup [(.agg [(.os (5,0) l21)]),(.os (1,0) p3),(.int .i64 (5)),(.int .i64 p1)]),[]))))
    (
    grd (decide (0 <= IntKind.wrap IntKind.i64 (ni p4.length - 1)) && decide (IntKind.wrap IntKind.i64 (ni p4.length - 1) < ni p4.length)) (az p4 (Int.toNat (IntKind.wrap IntKind.i64 (ni p4.length - 1))) fun x22 =>
    asAgg x22 fun l23 => az l23 1 fun x24 =>
     aI (1,0) x24 fun l25 => asAgg x22 fun l26 => ac V 210 [(.op [(.os (5,0) p5)]),(.rs (1,0) l25)] fun x27 l28 =>
       asI .i64 x27 fun n29 => unc l28 fun x30 l31 => bH x30 fun l32 => unc l32 fun x33 l34 => aI (5,0) x33 fun l35 => unn l34 (unn l31 (grd (bi (List.length (List.set p4 (Int.toNat (IntKind.wrap IntKind.i64 (ni p4.length - 1))) (D.agg (List.take 1 l26 ++ [D.dead] ++ List.drop 2 l26)))) none (some (IntKind.wrap IntKind.i64 (ni p4.length - 1)))) (grd (decide (0 <= IntKind.wrap IntKind.i64 (IntKind.wrap IntKind.i64 (ni p4.length - 1) - 1)) && decide (IntKind.wrap IntKind.i64 (IntKind.wrap IntKind.i64 (ni p4.length - 1) - 1) < ni (Int.toNat (IntKind.wrap IntKind.i64 (ni p4.length - 1)))) && decide (0 + Int.toNat (IntKind.wrap IntKind.i64 (ni p4.length - 1)) <= List.length (List.set p4 (Int.toNat (IntKind.wrap IntKind.i64 (ni p4.length - 1))) (D.agg (List.take 1 l26 ++ [D.dead] ++ List.drop 2 l26))))) (az (List.set p4 (Int.toNat (IntKind.wrap IntKind.i64 (ni p4.length - 1))) (D.agg (List.take 1 l26 ++ [D.dead] ++ List.drop 2 l26))) (0 + Int.toNat (IntKind.wrap IntKind.i64 (IntKind.wrap IntKind.i64 (ni p4.length - 1) - 1))) fun x36 =>
          asAgg x36 fun l37 => az l37 1 fun x38 =>
           aI (1,0) x38 fun l39 => asAgg x36 fun l40 => grd (decide (ni (List.length (l39 ++ [D.int IntKind.i64 n29])) <= LIM)) (nam (l39 ++ [D.int IntKind.i64 n29]) fun l41 =>
            grd (decide (0 <= IntKind.wrap IntKind.i64 (IntKind.wrap IntKind.i64 (ni p4.length - 1) - 1)) && decide (IntKind.wrap IntKind.i64 (IntKind.wrap IntKind.i64 (ni p4.length - 1) - 1) < ni (Int.toNat (IntKind.wrap IntKind.i64 (ni p4.length - 1)))) && decide (0 + Int.toNat (IntKind.wrap IntKind.i64 (ni p4.length - 1)) <= List.length (List.set (List.set p4 (Int.toNat (IntKind.wrap IntKind.i64 (ni p4.length - 1))) (D.agg (List.take 1 l26 ++ [D.dead] ++ List.drop 2 l26))) (0 + Int.toNat (IntKind.wrap IntKind.i64 (IntKind.wrap IntKind.i64 (ni p4.length - 1) - 1))) (D.agg (List.take 1 l40 ++ [D.dead] ++ List.drop 2 l40))))) (az (List.set (List.set p4 (Int.toNat (IntKind.wrap IntKind.i64 (ni p4.length - 1))) (D.agg (List.take 1 l26 ++ [D.dead] ++ List.drop 2 l26))) (0 + Int.toNat (IntKind.wrap IntKind.i64 (IntKind.wrap IntKind.i64 (ni p4.length - 1) - 1))) (D.agg (List.take 1 l40 ++ [D.dead] ++ List.drop 2 l40))) (0 + Int.toNat (IntKind.wrap IntKind.i64 (IntKind.wrap IntKind.i64 (ni p4.length - 1) - 1))) fun x42 =>
             asAgg x42 fun l43 => nam (List.set (List.set (List.set p4 (Int.toNat (IntKind.wrap IntKind.i64 (ni p4.length - 1))) (D.agg (List.take 1 l26 ++ [D.dead] ++ List.drop 2 l26))) (0 + Int.toNat (IntKind.wrap IntKind.i64 (IntKind.wrap IntKind.i64 (ni p4.length - 1) - 1))) (D.agg (List.take 1 l40 ++ [D.dead] ++ List.drop 2 l40))) (0 + Int.toNat (IntKind.wrap IntKind.i64 (IntKind.wrap IntKind.i64 (ni p4.length - 1) - 1)))
 (D.agg
  (List.take 1 l43 ++
    [D.os
      (1,0)
      l41] ++
   List.drop 2 l43))) fun l44 =>
              bZ p0 (Int.toNat (IntKind.wrap IntKind.i64 (ni p4.length - 1))) (IntKind.wrap IntKind.i64 (p1 + 1)) p2 p3 l44 l35)))))))))
   (
    ac V 211 [(.int .u8 (bt p0 p1))] fun x45 l46 =>
    asB x45 fun b47 => unn l46 (br b47
     (eW p0 p1 (IntKind.wrap IntKind.i64 (ni p4.length - 1)) p1 p2 p3 p4 p5)
     (
     ac V 147 [(.agg [(.rs (5,0) p2)])] fun x48 l49 =>
     asAgg x48 fun l50 => unc l50 fun x51 l52 => aI (5,0) x51 fun l53 => unn l52 (unn l49 (some ((.tup [(.agg [(.os (5,0) l53)]),(.os (1,0) p3),(.int .i64 (2)),(.int .i64 p1)]),[]))))))))))
  (
  br (decide (ni p4.length > 1))
  (
   ac V 147 [(.agg [(.rs (5,0) p2)])] fun x54 l55 =>
   asAgg x54 fun l56 => unc l56 fun x57 l58 => aI (5,0) x57 fun l59 => unn l58 (unn l55 (grd (decide (0 <= IntKind.wrap IntKind.i64 (ni p4.length - 1)) && decide (IntKind.wrap IntKind.i64 (ni p4.length - 1) < ni p4.length)) (az p4 (Int.toNat (IntKind.wrap IntKind.i64 (ni p4.length - 1))) fun x60 =>
     asAgg x60 fun l61 => az l61 0 fun x62 =>
      asI .i64 x62 fun n63 => some ((.tup [(.agg [(.os (5,0) l59)]),(.os (1,0) p3),(.int .i64 (4)),(.int .i64 n63)]),[])))))
  (
   ac V 60 [(.agg [(.rs (5,0) p5)])] fun x64 l65 =>
   asB x64 fun b66 => unn l65 (br (!b66)
    (
    ac V 147 [(.agg [(.rs (5,0) p2)])] fun x67 l68 =>
    asAgg x67 fun l69 => unc l69 fun x70 l71 => aI (5,0) x70 fun l72 => unn l71 (unn l68 (some ((.tup [(.agg [(.os (5,0) l72)]),(.os (1,0) p3),(.int .i64 (6)),(.int .i64 (0))]),[]))))
    (
    grd (decide (0 <= 0) && decide (0 < ni p4.length)) (az p4 0 fun x73 =>
    asAgg x73 fun l74 => az l74 1 fun x75 =>
     aI (1,0) x75 fun l76 => asAgg x73 fun _ => grd (decide (ni (List.length ([] ++ l76)) <= LIM)) (nam ([] ++ l76) fun l78 =>
       some ((.tup [(.agg [(.os (5,0) p5)]),(.os (1,0) l78),(.int .i64 (0)),(.int .i64 (ni (ByteArray.size p0)))]),[]))))))) := by
 have h := wL p0 p1 p2 p3 p4 p5
 simp only [sz3,fl3] at h
 exact h
theorem lR (p0 : ByteArray) (p1 : Int) (p2 : Int) (p3 : Int) (p4 : List D) (p5 : List D) (p6 : List D) (p7 : List D) : eW p0 p1 p2 p3 p4 p5 p6 p7 =
 br (decide (p1 < ni (ByteArray.size p0)))
  (
  grd (decide (0 <= p1) && decide (p1 < ni (ByteArray.size p0))) (ac V 211 [(.int .u8 (bt p0 p1))] fun x143 l144 =>
  asB x143 fun b145 => unn l144 (br b145
   (eW p0 (IntKind.wrap IntKind.i64 (p1 + 1)) p2 p3 p4 p5 p6 p7)
   (
    grd (bi (ByteArray.size p0) (some p3) (some p1)) (ac V 212 [(.str (ByteArray.extract p0 p3.toNat p1.toNat))] fun x146 l147 =>
    aP x146 fun l148 => unc l148 fun x149 l150 => tk1 x149 fun n154 n157 s160 n163 n166 => (unc l150 fun x167 l168 => asB x167 fun b169 => unn l168 (unn l147 (br (!b169)
            (
            ac V 147 [(.agg [(.rs (5,0) p4)])] fun x170 l171 =>
            asAgg x170 fun l172 => unc l172 fun x173 l174 => aI (5,0) x173 fun l175 => unn l174 (unn l171 (some ((.tup [(.agg [(.os (5,0) l175)]),(.os (1,0) p5),(.int .i64 (3)),(.int .i64 p3)]),[]))))
            (
            grd (decide (0 <= p2) && decide (p2 < ni p6.length)) (az p6 p2.toNat fun x176 =>
            asAgg x176 fun l177 => az l177 1 fun x178 =>
             aI (1,0) x178 fun l179 => asAgg x176 fun l180 => ac V 158 [(.op [(.os (5,0) p7)]),(.agg [(.int .i64 n154),(.int .i64 n157),(.str s160),(.int .i64 n163),(.int .i64 n166)])] fun x181 l182 =>
               asI .i64 x181 fun n183 => unc l182 fun x184 l185 => bH x184 fun l186 => unc l186 fun x187 l188 => aI (5,0) x187 fun l189 => unn l188 (unn l185 (grd (decide (ni (List.length (l179 ++ [D.int IntKind.i64 n183])) <= LIM)) (nam (l179 ++ [D.int IntKind.i64 n183]) fun l190 =>
                  grd (decide (0 <= p2) && decide (p2 < ni (List.length (List.set p6 p2.toNat (D.agg (List.take 1 l180 ++ [D.dead] ++ List.drop 2 l180)))))) (az (List.set p6 p2.toNat (D.agg (List.take 1 l180 ++ [D.dead] ++ List.drop 2 l180))) p2.toNat fun x191 =>
                  asAgg x191 fun l192 => nam (List.set (List.set p6 p2.toNat (D.agg (List.take 1 l180 ++ [D.dead] ++ List.drop 2 l180))) p2.toNat
 (D.agg
  (List.take 1 l192 ++
    [D.os
      (1,0)
      l190] ++
   List.drop 2 l192))) fun l193 =>
                   cg p0 p1 p4 p5 l193 l189))))))))))))))
  (
  grd (bi (ByteArray.size p0) (some p3) (some p1)) (ac V 212 [(.str (ByteArray.extract p0 p3.toNat p1.toNat))] fun x194 l195 =>
  aP x194 fun l196 => unc l196 fun x197 l198 => tk1 x197 fun n202 n205 s208 n211 n214 => (unc l198 fun x215 l216 => asB x215 fun b217 => unn l216 (unn l195 (br (!b217)
          (
           ac V 147 [(.agg [(.rs (5,0) p4)])] fun x218 l219 =>
           asAgg x218 fun l220 => unc l220 fun x221 l222 => aI (5,0) x221 fun l223 => unn l222 (unn l219 (some ((.tup [(.agg [(.os (5,0) l223)]),(.os (1,0) p5),(.int .i64 (3)),(.int .i64 p3)]),[]))))
          (
           grd (decide (0 <= p2) && decide (p2 < ni p6.length)) (az p6 p2.toNat fun x224 =>
           asAgg x224 fun l225 => az l225 1 fun x226 =>
            aI (1,0) x226 fun l227 => asAgg x224 fun l228 => ac V 158 [(.op [(.os (5,0) p7)]),(.agg [(.int .i64 n202),(.int .i64 n205),(.str s208),(.int .i64 n211),(.int .i64 n214)])] fun x229 l230 =>
             asI .i64 x229 fun n231 => unc l230 fun x232 l233 => bH x232 fun l234 => unc l234 fun x235 l236 => aI (5,0) x235 fun l237 => unn l236 (unn l233 (grd (decide (ni (List.length (l227 ++ [D.int IntKind.i64 n231])) <= LIM)) (nam (l227 ++ [D.int IntKind.i64 n231]) fun l238 =>
                grd (decide (0 <= p2) && decide (p2 < ni (List.length (List.set p6 p2.toNat (D.agg (List.take 1 l228 ++ [D.dead] ++ List.drop 2 l228)))))) (az (List.set p6 p2.toNat (D.agg (List.take 1 l228 ++ [D.dead] ++ List.drop 2 l228))) p2.toNat fun x239 =>
                 asAgg x239 fun l240 => nam (List.set (List.set p6 p2.toNat (D.agg (List.take 1 l228 ++ [D.dead] ++ List.drop 2 l228))) p2.toNat
 (D.agg
  (List.take 1 l240 ++
    [D.os
      (1,0)
      l238] ++
   List.drop 2 l240))) fun l241 =>
                  cg p0 p1 p4 p5 l241 l237))))))))))) := by
 have h := uX p0 p1 p2 p3 p4 p5 p6 p7
 simp only [sz3,fl3] at h
 exact h
theorem jW (p0 : ByteArray) (p1 : Nat) (p2 : Int) (p3 : Int) (p4 : Int) (p5 : List D) (p6 : List D) (p7 : List D) (p8 : List D) : dQ p0 p1 p2 p3 p4 p5 p6 p7 p8 =
 br (decide (p2 < ni (ByteArray.size p0)))
  (
  grd (decide (0 <= p2) && decide (p2 < ni (ByteArray.size p0))) (ac V 211 [(.int .u8 (bt p0 p2))] fun x242 l243 =>
  asB x242 fun b244 => unn l243 (br b244
   (dQ p0 p1 (IntKind.wrap IntKind.i64 (p2 + 1)) p3 p4 p5 p6 p7 p8)
   (
    grd (bi (ByteArray.size p0) (some p4) (some p2)) (ac V 212 [(.str (ByteArray.extract p0 p4.toNat p2.toNat))] fun x245 l246 =>
    aP x245 fun l247 => unc l247 fun x248 l249 => tk1 x248 fun n253 n256 s259 n262 n265 => (unc l249 fun x266 l267 => asB x266 fun b268 => unn l267 (unn l246 (br (!b268)
            (
            ac V 147 [(.agg [(.rs (5,0) p5)])] fun x269 l270 =>
            asAgg x269 fun l271 => unc l271 fun x272 l273 => aI (5,0) x272 fun l274 => unn l273 (unn l270 (some ((.tup [(.agg [(.os (5,0) l274)]),(.os (1,0) p6),(.int .i64 (3)),(.int .i64 p4)]),[]))))
            (
            grd (decide (0 <= p3) && decide (p3 < ni p1) && decide (0 + p1 <= List.length p7)) (az p7 (0 + Int.toNat p3) fun x275 =>
            asAgg x275 fun l276 => az l276 1 fun x277 =>
             aI (1,0) x277 fun l278 => asAgg x275 fun l279 => ac V 158 [(.op [(.os (5,0) p8)]),(.agg [(.int .i64 n253),(.int .i64 n256),(.str s259),(.int .i64 n262),(.int .i64 n265)])] fun x280 l281 =>
               asI .i64 x280 fun n282 => unc l281 fun x283 l284 => bH x283 fun l285 => unc l285 fun x286 l287 => aI (5,0) x286 fun l288 => unn l287 (unn l284 (grd (decide (ni (List.length (l278 ++ [D.int IntKind.i64 n282])) <= LIM)) (nam (l278 ++ [D.int IntKind.i64 n282]) fun l289 =>
                  grd (decide (0 <= p3) && decide (p3 < ni p1) && decide (0 + p1 <= List.length (List.set p7 (0 + Int.toNat p3) (D.agg (List.take 1 l279 ++ [D.dead] ++ List.drop 2 l279))))) (az (List.set p7 (0 + Int.toNat p3) (D.agg (List.take 1 l279 ++ [D.dead] ++ List.drop 2 l279))) (0 + Int.toNat p3) fun x290 =>
                  asAgg x290 fun l291 => nam (List.set (List.set p7 (0 + Int.toNat p3) (D.agg (List.take 1 l279 ++ [D.dead] ++ List.drop 2 l279))) (0 + Int.toNat p3)
 (D.agg
  (List.take 1 l291 ++
    [D.os
      (1,0)
      l289] ++
   List.drop 2 l291))) fun l292 =>
                   bZ p0 p1 p2 p5 p6 l292 l288))))))))))))))
  (
  grd (bi (ByteArray.size p0) (some p4) (some p2)) (ac V 212 [(.str (ByteArray.extract p0 p4.toNat p2.toNat))] fun x293 l294 =>
  aP x293 fun l295 => unc l295 fun x296 l297 => tk1 x296 fun n301 n304 s307 n310 n313 => (unc l297 fun x314 l315 => asB x314 fun b316 => unn l315 (unn l294 (br (!b316)
          (
           ac V 147 [(.agg [(.rs (5,0) p5)])] fun x317 l318 =>
           asAgg x317 fun l319 => unc l319 fun x320 l321 => aI (5,0) x320 fun l322 => unn l321 (unn l318 (some ((.tup [(.agg [(.os (5,0) l322)]),(.os (1,0) p6),(.int .i64 (3)),(.int .i64 p4)]),[]))))
          (
           grd (decide (0 <= p3) && decide (p3 < ni p1) && decide (0 + p1 <= List.length p7)) (az p7 (0 + Int.toNat p3) fun x323 =>
           asAgg x323 fun l324 => az l324 1 fun x325 =>
            aI (1,0) x325 fun l326 => asAgg x323 fun l327 => ac V 158 [(.op [(.os (5,0) p8)]),(.agg [(.int .i64 n301),(.int .i64 n304),(.str s307),(.int .i64 n310),(.int .i64 n313)])] fun x328 l329 =>
             asI .i64 x328 fun n330 => unc l329 fun x331 l332 => bH x331 fun l333 => unc l333 fun x334 l335 => aI (5,0) x334 fun l336 => unn l335 (unn l332 (grd (decide (ni (List.length (l326 ++ [D.int IntKind.i64 n330])) <= LIM)) (nam (l326 ++ [D.int IntKind.i64 n330]) fun l337 =>
                grd (decide (0 <= p3) && decide (p3 < ni p1) && decide (0 + p1 <= List.length (List.set p7 (0 + Int.toNat p3) (D.agg (List.take 1 l327 ++ [D.dead] ++ List.drop 2 l327))))) (az (List.set p7 (0 + Int.toNat p3) (D.agg (List.take 1 l327 ++ [D.dead] ++ List.drop 2 l327))) (0 + Int.toNat p3) fun x338 =>
                 asAgg x338 fun l339 => nam (List.set (List.set p7 (0 + Int.toNat p3) (D.agg (List.take 1 l327 ++ [D.dead] ++ List.drop 2 l327))) (0 + Int.toNat p3)
 (D.agg
  (List.take 1 l339 ++
    [D.os
      (1,0)
      l337] ++
   List.drop 2 l339))) fun l340 =>
                  bZ p0 p1 p2 p5 p6 l340 l336))))))))))) := by
 have h := rX p0 p1 p2 p3 p4 p5 p6 p7 p8
 simp only [sz3,fl3] at h
 exact h
theorem FG (a0_0 : List D) (a1_ : ByteArray) : V 191 [.agg [.rs (5,0) a0_0],.str a1_] =
 ac V 60 [(.agg [(.rs (5,0) a0_0)])] fun x0 l1 =>
  asB x0 fun b2 => unn l1 (br (!b2)
   (some ((.tup [(.agg [(.os (5,0) [])]),(.os (1,0) []),(.int .i64 (6)),(.int .i64 (0))]),[]))
   (
   br (decide (ni (ByteArray.size a1_) > 400))
   (
    ac V 147 [(.agg [(.rs (5,0) a0_0)])] fun x3 l4 =>
    asAgg x3 fun l5 => unc l5 fun x6 l7 => aI (5,0) x6 fun l8 => unn l7 (unn l4 (some ((.tup [(.agg [(.os (5,0) l8)]),(.os (1,0) []),(.int .i64 (1)),(.int .i64 (0))]),[]))))
   (
    ac V 147 [(.agg [(.rs (5,0) a0_0)])] fun x9 l10 =>
    asAgg x9 fun l11 => unc l11 fun x12 l13 => aI (5,0) x12 fun l14 => unn l13 (unn l10 (cg a1_ (0) a0_0 [] ([D.agg
  [D.int IntKind.i64 (0),
   D.os
    (1,0)
    []]]) l14))))) := by
 have h := Jh a0_0 a1_
 simp only [sz3,fl3] at h
 exact h

end Go.Eng
/-! reading a text,on both sides -/
namespace Go.Eng
open Go.Proofs Go.Proofs.Tryz
set_option maxHeartbeats 4000000

noncomputable def pU : List Int -> List Nd -> Nat -> List Nd × Nat
 | [],q,c => (q,c)
 | x :: r,q,c => pU r (q ++ [⟨5,0,⟨#[]⟩,x,(c : Int)⟩]) q.length
noncomputable def i7 (q : List Nd) (row : List Int) : List Nd × Nat := pU row.reverse (q ++ [⟨1,0,⟨#[]⟩,0,0⟩]) q.length
theorem xM : ∀ (r : List Int) (q : List Nd) (c : Nat),(pU r q c).1.length = q.length + r.length
 | [],q,c => rfl
 | x :: r,q,c => by rw [pU,xM r]; simp only [lnA,lnC,lnN]; omega
theorem u7 (q : List Nd) (row : List Int) : (i7 q row).1.length = q.length + row.length + 1 := by
 rw [i7,xM]; simp only [lnA,lnC,lnN,List.length_reverse]; omega
theorem nb {q : List Nd} (h : fW q) {x : Nd} (hx : x.s.size < 4611686018427387904) : fW (q ++ [x]) := by
 intro y hy
 rcases List.mem_append.1 hy with h1 | h1
 ·exact h y h1
 ·rw [List.mem_singleton.1 h1]; exact hx
theorem vt : ∀ (r : List Int) (q : List Nd) (c : Nat),fW q -> fW (pU r q c).1
 | [],q,c,h => h
 | x :: r,q,c,h => vt r _ _ (nb h (x := ⟨5,0,⟨#[]⟩,x,(c : Int)⟩) (by show (0 : Nat) < _; omega))
theorem xo {q : List Nd} (h : fW q) (row : List Int) : fW (i7 q row).1 := vt _ _ _ (nb h (x := ⟨1,0,⟨#[]⟩,0,0⟩) (by show (0 : Nat) < _; omega))
theorem OX {row : List Int} {k : Nat} {x : Int} (hx : row[k]? = some x) : (row.take (k + 1)).reverse = x :: (row.take k).reverse := by
 rw [List.take_add_one,hx]; simp
theorem yC {row : List Int} (hr : row.length < 4294967296) : ∀ (k : Nat) (q : List Nd) (c : Nat),k <= row.length -> q.length + k < 4294967296 ->
  iY (row.map eI) (c : Int) ((k : Int) - 1) (q.map eN) = some (.int .i64 (pU (row.take k).reverse q c).2,[rP (pU (row.take k).reverse q c).1])
 | 0,q,c,_,_ => by rw [lB,av (decide_eq_false (by omega))]; rfl
 | k + 1,q,c,hk,hq => by
  obtain ⟨x,hx⟩ := aE (l := row) (i := k) (by omega)
  have hp := jr (p := q) (by omega) ⟨5,0,⟨#[]⟩,x,(c : Int)⟩
  have ih := yC hr k (q ++ [⟨5,0,⟨#[]⟩,x,(c : Int)⟩]) q.length (by omega) (by simp only [lnA,lnC,lnN]; omega)
  have e : ((k + 1 : Nat) : Int) - 1 = (k : Int) := by omega
  rw [lB,e,aC (decide_eq_true (by omega)),au (by rw [lnM]; exact bj (by omega)),Int.toNat_natCast,aq hx,ak,eZ hp,w64 (by omega) (by omega),ih,OX hx,pU]
theorem O6 {q : List Nd} {row : List Int} (h : q.length + row.length < 4294967290) : V 210 [rP q,.rs (1,0) (row.map eI)] = some (.int .i64 (i7 q row).2,[rP (i7 q row).1]) := by
 have ha := jr (p := q) (by omega) ⟨1,0,⟨#[]⟩,0,0⟩
 have hl := yC (row := row) (by omega) row.length (q ++ [⟨1,0,⟨#[]⟩,0,0⟩]) q.length (Nat.le_refl _) (by simp only [lnA,lnC,lnN]; omega)
 rw [List.take_length] at hl
 rw [BX,eZ ha,lnM,w64 (by simp only [ni]; omega) (by simp only [ni]; omega)]
 exact hl
noncomputable abbrev RwF := Int × List Int
inductive RdR where
 | err (c a : Int)
 | ok (q : List Nd) (row : List Int)
noncomputable def jK (l : List UInt8) (j : Nat) : Nat := j + ((l.drop j).takeWhile o7).length
noncomputable def KO (l : List UInt8) (G : Nat -> List RwF -> RwF -> List Nd -> RdR) (i : Nat) (o : List RwF) (t : RwF) (q : List Nd) : Option UInt8 -> RdR
 | none => if o = [] then .ok q t.2 else .err 4 t.1
 | some x =>
   if x = 32 then G (i + 1) o t q
   else if x = 40 then G (i + 1) (t :: o) ((i : Int),[]) q
   else if x = 41 then match o with
    | [] => .err 5 (i : Int)
    | u :: o => G (i + 1) o (u.1,u.2 ++ [((i7 q t.2).2 : Int)]) (i7 q t.2).1
   else if o7 x = true then match jV ((l.drop i).take (jK l i - i)) with
    | none => .err 3 (i : Int)
    | some nd => G (jK l i) o (t.1,t.2 ++ [(q.length : Int)]) (q ++ [nd])
   else .err 2 (i : Int)
noncomputable def gA (l : List UInt8) : Nat -> Nat -> List RwF -> RwF -> List Nd -> RdR
 | 0,_,_,_,_ => .err 1 0
 | k + 1,i,o,t,q => KO l (gA l k) i o t q l[i]?
theorem sN (l : List UInt8) (G : Nat -> List RwF -> RwF -> List Nd -> RdR) (i : Nat) (o : List RwF) (t : RwF) (q : List Nd) : KO l G i o t q none = if o = [] then .ok q t.2 else .err 4 t.1 := rfl
theorem qD (l : List UInt8) (G : Nat -> List RwF -> RwF -> List Nd -> RdR) (i : Nat) (o : List RwF) (t : RwF) (q : List Nd) (x : UInt8) : KO l G i o t q (some x) = (if x = 32 then G (i + 1) o t q
   else if x = 40 then G (i + 1) (t :: o) ((i : Int),[]) q
   else if x = 41 then match o with
    | [] => .err 5 (i : Int)
    | u :: o => G (i + 1) o (u.1,u.2 ++ [((i7 q t.2).2 : Int)]) (i7 q t.2).1
   else if o7 x = true then match jV ((l.drop i).take (jK l i - i)) with
    | none => .err 3 (i : Int)
    | some nd => G (jK l i) o (t.1,t.2 ++ [(q.length : Int)]) (q ++ [nd])
   else .err 2 (i : Int)) := rfl
theorem nf (l : List UInt8) (k i : Nat) (o : List RwF) (t : RwF) (q : List Nd) : gA l (k + 1) i o t q = KO l (gA l k) i o t q l[i]? := rfl
theorem qt {l : List UInt8} {j : Nat} {x : UInt8} (hx : l[j]? = some x) (h : o7 x = true) : jK l j = jK l (j + 1) := by
 unfold jK; rw [cX hx,List.takeWhile_cons,if_pos h]; simp only [lnC]; omega
theorem AR {l : List UInt8} {j : Nat} {x : UInt8} (hx : l[j]? = some x) (h : o7 x = false) : jK l j = j := by
 unfold jK; rw [cX hx,List.takeWhile_cons,if_neg (by rw [h]; simp)]; rfl
theorem IB {l : List UInt8} {j : Nat} (h : l.length <= j) : jK l j = j := by
 unfold jK; rw [List.drop_of_length_le h]; rfl
theorem Dw {l : List UInt8} {j : Nat} (h : j <= l.length) : j <= jK l j /\ jK l j <= l.length := by
 unfold jK
 have := (List.takeWhile_sublist (p := o7) (l := l.drop j)).length_le
 rw [List.length_drop] at this
 omega
noncomputable def phi (o : List RwF) (t : RwF) (q : List Nd) : Nat := q.length + t.2.length + (o.map fun x => x.2.length).sum
theorem si {l : List UInt8} {x : Nd} (h : jV l = some x) : x.s.size <= l.length := by
 unfold jV KX at h
 split at h
 ·cases h; exact Nat.zero_le _
 split at h
 ·cases h; exact Nat.zero_le _
 split at h
 ·cases h; exact Nat.zero_le _
 split at h
 ·cases h; exact Nat.le_of_eq (af _)
 ·cases h
theorem fE {A B : List D} {x : D} (K : D -> Option Ret) : az (A ++ x :: B) A.length K = K x := by simp [az]
theorem gt {A B : List D} {x v : D} : (A ++ x :: B).set A.length v = A ++ v :: B := by simp
theorem GK {l : List D} (h : l.length <= 4294967296) : decide (ni l.length <= LIM) = true := decide_eq_true (by rw [bh]; simp only [ni]; omega)
theorem jS {x : UInt8} (c : UInt8) (n : Int) (hn : (c.toNat : Int) = n) (h : ¬ x = c) : ((x.toNat : Int) == n) = false := by
 subst hn
 simp only [beq_eq_false_iff_ne,ne_eq]
 intro e
 exact h (UInt8.toNat_inj.1 (by omega))
end Go.Eng
/-! a step of a machine,plain -/
namespace Go.Eng

noncomputable abbrev ndN : Nd := ⟨1,0,⟨#[]⟩,0,0⟩
noncomputable def nod (p : List Nd) (v : Int) : Nd := p.getD v.toNat ndN
noncomputable abbrev InP (p : List Nd) (v : Int) : Prop := 0 <= v /\ v < (p.length : Int)

noncomputable def qd (p : List Nd) : Nat -> Int -> List Int × Bool
 | 0,_ => ([],false)
 | k + 1,v => if (nod p v).kind = 5 then ((nod p v).a :: (qd p k (nod p v).b).1,(qd p k (nod p v).b).2) else ([],(nod p v).kind == 1)
noncomputable def gI (p : List Nd) (v : Int) : List Int × Bool := qd p (v.toNat + 1) v
noncomputable def Si (c : Cd) (n : Int) : Bool := wi n 0 ((c.list.length : Int) - 1)
end Go.Eng
/-! reading a text: the spec -/
namespace Go.Eng
open Go.Proofs Go.Proofs.Tryz
set_option maxHeartbeats 4000000

theorem BV {p : List Nd} (hl : p.length <= 4294967296) : V 147 [eP p] = some (oP p,[]) := by
 rw [su,List.nil_append]
 simp (disch := first | omega | (simp only [lnA,lnC,lnN,lnM,af,aa]; omega)) only [↓ay,↓aU,aW,lnM,bh,aa]

noncomputable abbrev eO (x : RwF) : D := .agg [.int .i64 x.1,.os (1,0) (x.2.map eI)]
theorem js (t : RwF) (K : List D -> List D -> Option Ret) : (asAgg (eO t) fun l => az l 1 fun y => aI (1,0) y fun r => asAgg (eO t) fun l2 => K r l2) = K (t.2.map eI) [.int .i64 t.1,.os (1,0) (t.2.map eI)] := rfl
theorem QY (t : RwF) (K : Int -> Option Ret) : (asAgg (eO t) fun l => az l 0 fun y => asI .i64 y fun r => K r) = K t.1 := rfl
theorem tdd (a b : D) : List.take 1 [a,b] ++ [D.dead] ++ List.drop 2 [a,b] = [a,.dead] := rfl
theorem tds (a b c : D) : List.take 1 [a,b] ++ [c] ++ List.drop 2 [a,b] = [a,c] := rfl
theorem RZ (A J : List D) (x : D) : part (A ++ x :: J) (some (0,A.length + 1)) = A ++ [x] := by
 simp only [part,List.drop_zero]
 rw [show A ++ x :: J = (A ++ [x]) ++ J by simp,List.take_left' (by simp)]
noncomputable def SR (P : List D) (n : Nat) (r : RdR) : Option Ret := match r with
 | .err c a => some (.tup [.agg [.os (5,0) P],.os (1,0) [],.int .i64 c,.int .i64 a],[])
 | .ok q row => if bu q = true then some (.tup [.agg [.os (5,0) (q.map eN)],.os (1,0) (row.map eI),.int .i64 0,.int .i64 (n : Int)],[]) else some (.tup [.agg [.os (5,0) P],.os (1,0) [],.int .i64 6,.int .i64 0],[])
noncomputable def Aa (r : Option Nd) (p : List Nd) (i : Nat) (X : Nd -> Option Ret) : Option Ret := match r with
 | none => some (.tup [.agg [.os (5,0) (p.map eN)],.os (1,0) [],.int .i64 3,.int .i64 (i : Int)],[])
 | some nd => X nd
theorem QZ {l : List UInt8} (hl : l.length < 1000000000) {i : Nat} {p q : List Nd} {A : List D} {t : RwF} (hp : p.length < 4294967290) (hq : q.length < 4294967290) (hA : A.length < 4294967290) (ht : t.2.length < 4294967290) : ∀ (m j : Nat),j + m = l.length -> i <= j ->
  eW (mk l) (j : Int) (A.length : Int) (i : Int) (p.map eN) [] (A ++ [eO t]) (q.map eN) = Aa (jV ((l.drop i).take (jK l j - i))) p i fun nd => cg (mk l) (jK l j : Nat) (p.map eN) [] (A ++ [eO (t.1,t.2 ++ [(q.length : Int)])]) ((q ++ [nd]).map eN)
 | m,j,hm,hij => by
  have hcut : bi l.length (some (i : Int)) (some (j : Int)) = true := by unfold bi; simp; omega
  obtain ⟨x,b,h1,h2⟩ := GH (l := (l.drop i).take (j - i)) (by simp only [List.length_take,List.length_drop]; omega)
  have ha := jr (p := q) (by omega) x
  have hc := BV (p := p) (by omega)
  have hin : ∀ x : D,(decide (0 <= (A.length : Int)) && decide ((A.length : Int) < ni (A ++ [x]).length)) = true := fun x => bj (by simp)
  have hlim : decide (ni (t.2.map eI ++ [D.int .i64 (q.length : Int)]).length <= LIM) = true := GK (by simp only [lnA,lnM,lnC,lnN]; omega)
  have hrow : (t.2 ++ [(q.length : Int)]).map eI = t.2.map eI ++ [D.int .i64 (q.length : Int)] := by simp
  match m with
  | 0 =>
   rw [lR,af,av (dc (by omega)),au hcut,Int.toNat_natCast,Int.toNat_natCast,lk,mj h1,IB (by omega)]
   cases hw : jV ((l.drop i).take (j - i)) with
   | none =>
    rw [hw] at h2
    have h2 : b = false := h2
    rw [h2,Bool.not_false,am,cH hc]; rfl
   | some nd =>
    rw [hw] at h2
    obtain ⟨rfl,rfl⟩ : x = nd /\ b = true := h2
    rw [Bool.not_true,al,au (hin _),Int.toNat_natCast,fE,js,eZ ha,au hlim,aU,gt,tdd,au (hin _),fE,aw,gt,tds,aU,Aa,eO,hrow]
  | m + 1 =>
   obtain ⟨y,hy⟩ := aE (l := l) (i := j) (by omega)
   have hb := Ai hy
   have hwb := nV y
   rw [lR,af,aC (cm (by omega)),au (bj (by omega)),hb,el hwb]
   cases hwu : o7 y with
   | true =>
    have ih := QZ hl hp hq hA ht (A := A) (i := i) m (j + 1) (by omega) (by omega)
    rw [am,dd (by omega),ih,qt hy hwu]
   | false =>
    rw [al,au hcut,Int.toNat_natCast,Int.toNat_natCast,lk,mj h1,AR hy hwu]
    cases hw : jV ((l.drop i).take (j - i)) with
    | none =>
     rw [hw] at h2
     have h2 : b = false := h2
     rw [h2,Bool.not_false,am,cH hc]; rfl
    | some nd =>
     rw [hw] at h2
     obtain ⟨rfl,rfl⟩ : x = nd /\ b = true := h2
     rw [Bool.not_true,al,au (hin _),Int.toNat_natCast,fE,js,eZ ha,au hlim,aU,gt,tdd,au (hin _),fE,aw,gt,tds,aU,Aa,eO,hrow]
theorem CJ {A J : List D} {x : D} : (decide (0 <= (A.length : Int)) && decide ((A.length : Int) < ni (A.length + 1)) && decide (0 + (A.length + 1) <= (A ++ x :: J).length)) = true := by
 simp only [ni,Bool.and_eq_true,decide_eq_true_eq,lnA,lnC]; omega
theorem PW {l : List UInt8} (hl : l.length < 1000000000) {i : Nat} {p q : List Nd} {A J : List D} {t : RwF} (hp : p.length < 4294967290) (hq : q.length < 4294967290) (hA : A.length < 4294967290) (ht : t.2.length < 4294967290) : ∀ (m j : Nat),j + m = l.length -> i <= j ->
  dQ (mk l) (A.length + 1) (j : Int) (A.length : Int) (i : Int) (p.map eN) [] (A ++ eO t :: J) (q.map eN) = Aa (jV ((l.drop i).take (jK l j - i))) p i fun nd => bZ (mk l) (A.length + 1) (jK l j : Nat) (p.map eN) [] (A ++ eO (t.1,t.2 ++ [(q.length : Int)]) :: J) ((q ++ [nd]).map eN)
 | m,j,hm,hij => by
  have hcut : bi l.length (some (i : Int)) (some (j : Int)) = true := by unfold bi; simp; omega
  obtain ⟨x,b,h1,h2⟩ := GH (l := (l.drop i).take (j - i)) (by simp only [List.length_take,List.length_drop]; omega)
  have ha := jr (p := q) (by omega) x
  have hc := BV (p := p) (by omega)
  have hlim : decide (ni (t.2.map eI ++ [D.int .i64 (q.length : Int)]).length <= LIM) = true := GK (by simp only [lnA,lnM,lnC,lnN]; omega)
  have hrow : (t.2 ++ [(q.length : Int)]).map eI = t.2.map eI ++ [D.int .i64 (q.length : Int)] := by simp
  match m with
  | 0 =>
   rw [jW,af,av (dc (by omega)),au hcut,Int.toNat_natCast,Int.toNat_natCast,lk,mj h1,IB (by omega)]
   cases hw : jV ((l.drop i).take (j - i)) with
   | none =>
    rw [hw] at h2
    have h2 : b = false := h2
    rw [h2,Bool.not_false,am,cH hc]; rfl
   | some nd =>
    rw [hw] at h2
    obtain ⟨rfl,rfl⟩ : x = nd /\ b = true := h2
    rw [Bool.not_true,al,au CJ,Int.toNat_natCast,Nat.zero_add,fE,js,eZ ha,au hlim,aU,gt,tdd,au CJ,fE,aw,gt,tds,aU,Aa,eO,hrow]
  | m + 1 =>
   obtain ⟨y,hy⟩ := aE (l := l) (i := j) (by omega)
   have hb := Ai hy
   have hwb := nV y
   rw [jW,af,aC (cm (by omega)),au (bj (by omega)),hb,el hwb]
   cases hwu : o7 y with
   | true =>
    have ih := PW hl hp hq hA ht (A := A) (J := J) (i := i) m (j + 1) (by omega) (by omega)
    rw [am,dd (by omega),ih,qt hy hwu]
   | false =>
    rw [al,au hcut,Int.toNat_natCast,Int.toNat_natCast,lk,mj h1,AR hy hwu]
    cases hw : jV ((l.drop i).take (j - i)) with
    | none =>
     rw [hw] at h2
     have h2 : b = false := h2
     rw [h2,Bool.not_false,am,cH hc]; rfl
    | some nd =>
     rw [hw] at h2
     obtain ⟨rfl,rfl⟩ : x = nd /\ b = true := h2
     rw [Bool.not_true,al,au CJ,Int.toNat_natCast,Nat.zero_add,fE,js,eZ ha,au hlim,aU,gt,tdd,au CJ,fE,aw,gt,tds,aU,Aa,eO,hrow]
theorem RY {A J : List D} {x y v : D} : ((A ++ [x]) ++ y :: J).set (A.length + 1) v = A ++ x :: v :: J := by
 have := gt (A := A ++ [x]) (B := J) (x := y) (v := v)
 rw [lnA,List.length_singleton] at this
 rw [this,List.append_assoc]; rfl
theorem R4 {A J : List D} {x y : D} (K : D -> Option Ret) : az ((A ++ [x]) ++ y :: J) (A.length + 1) K = K y := by
 have := fE (A := A ++ [x]) (B := J) (x := y) K
 rw [lnA,List.length_singleton] at this
 exact this
theorem NN {n : Nat} (h : n < 4611686018427387904) : IntKind.wrap IntKind.i64 (((n + 1 : Nat) : Int) - 1) = (n : Int) := by
 rw [w64 (by omega) (by omega)]; omega
theorem Pk (P : List D) (n : Nat) (q : List Nd) (row : List Int) : SR P n (.ok q row) = if bu q = true then some (.tup [.agg [.os (5,0) (q.map eN)],.os (1,0) (row.map eI),.int .i64 0,.int .i64 (n : Int)],[]) else some (.tup [.agg [.os (5,0) P],.os (1,0) [],.int .i64 6,.int .i64 0],[]) := rfl
theorem zO {l : List UInt8} (hl : l.length < 1000000000) {p : List Nd} (hp : p.length < 4294967290) : ∀ (k i : Nat) (o : List RwF) (t : RwF) (q : List Nd),l.length < i + k -> i <= l.length -> phi o t q + 2 * (l.length - i) < 4000000000 -> o.length + (l.length - i) < 4000000000 -> fW q ->
  cg (mk l) (i : Int) (p.map eN) [] (o.reverse.map eO ++ [eO t]) (q.map eN) = SR (p.map eN) l.length (gA l k i o t q) /\
  ∀ J,bZ (mk l) (o.length + 1) (i : Int) (p.map eN) [] (o.reverse.map eO ++ eO t :: J) (q.map eN) = SR (p.map eN) l.length (gA l k i o t q)
 | 0,i,o,t,q,h1,h2,_,_,_ => by omega
 | k + 1,i,o,t,q,h1,h2,h3,h4,hf => by
  have hph : phi o t q = q.length + t.2.length + (o.map fun x => x.2.length).sum := rfl
  have hc := BV (p := p) (by omega)
  have hAl : (o.reverse.map eO).length = o.length := by rw [lnM,List.length_reverse]
  have hn1 : (o.reverse.map eO ++ [eO t]).length = o.length + 1 := by rw [lnA,hAl]; rfl
  have hw1 : IntKind.wrap IntKind.i64 (ni (o.length + 1) - 1) = ((o.reverse.map eO).length : Int) := by rw [hAl]; exact NN (by omega)
  have hin : ∀ J,(decide (0 <= ((o.reverse.map eO).length : Int)) && decide (((o.reverse.map eO).length : Int) < ni (o.length + 1)) && decide (0 + (o.length + 1) <= (o.reverse.map eO ++ eO t :: J).length)) = true := fun J => by
   rw [<- hAl]; exact CJ
  rw [nf]
  by_cases hi : i = l.length
  ·have hx : l[i]? = none := List.getElem?_eq_none (by omega)
   have hok := de hf (by omega)
   rw [hx,sN]
   cases o with
   | nil =>
    have hlim : decide (ni ([] ++ t.2.map eI).length <= LIM) = true := GK (by rw [List.nil_append,lnM]; omega)
    rw [if_pos rfl]
    constructor
    ·rw [da,af,av (dc (by omega)),av (by rfl),lD hok]
     rw [Pk]
     cases hq : bu q with
     | false => rw [Bool.not_false,am,cH hc,if_neg (by simp)]
     | true => rw [Bool.not_true,al,au (by rfl),if_pos rfl,show ∀ K : D -> Option Ret,az (([] : List RwF).reverse.map eO ++ [eO t]) 0 K = K (eO t) from fun K => rfl,js,au hlim,aU,List.nil_append]
    ·intro J
     rw [cK,af,av (dc (by omega)),av (by rfl),lD hok]
     rw [Pk]
     cases hq : bu q with
     | false => rw [Bool.not_false,am,cH hc,if_neg (by simp)]
     | true => rw [Bool.not_true,al,au (by simp [ni]),if_pos rfl,show ∀ K : D -> Option Ret,az (([] : List RwF).reverse.map eO ++ eO t :: J) 0 K = K (eO t) from fun K => rfl,js,au hlim,aU,List.nil_append]
   | cons u o =>
    rw [if_neg (by simp)]
    constructor
    ·rw [da,af,av (dc (by omega)),hn1,aC (decide_eq_true (by simp only [ni,lnC]; omega)),cH hc,hw1,au (by rw [hAl]; exact bj (by omega)),Int.toNat_natCast,fE,QY]; rfl
    ·intro J
     rw [cK,af,av (dc (by omega)),aC (decide_eq_true (by simp only [ni,lnC]; omega)),cH hc,hw1,au (hin J),Int.toNat_natCast,Nat.zero_add,fE,QY]; rfl
  obtain ⟨x,hx⟩ := aE (l := l) (i := i) (by omega)
  have hb := Ai hx
  rw [hx,qD]
  by_cases h32 : x = 32
  ·subst h32
   have ih := zO hl hp k (i + 1) o t q (by omega) (by omega) (by omega) (by omega) hf
   rw [if_pos rfl]
   constructor
   ·rw [da,af,aC (cm (by omega)),au (bj (by omega)),hb,aC (by rfl),dd (by omega)]
    exact ih.1
   ·intro J
    rw [cK,af,aC (cm (by omega)),au (bj (by omega)),hb,aC (by rfl),dd (by omega)]
    exact ih.2 J
  rw [if_neg h32]
  by_cases h40 : x = 40
  ·subst h40
   have hlo : decide (ni (o.reverse.map eO ++ [eO t] ++ [D.agg [.int .i64 (i : Int),.os (1,0) []]]).length <= LIM) = true := GK (by rw [lnA,hn1]; simp only [lnC,lnN]; omega)
   have ih := (zO hl hp k (i + 1) (t :: o) ((i : Int),[]) q (by omega) (by omega) (by simp only [phi,List.map_cons,List.sum_cons,lnN]; omega) (by simp only [lnC]; omega) hf).1
   rw [show (t :: o).reverse.map eO = o.reverse.map eO ++ [eO t] by simp] at ih
   rw [if_pos rfl]
   constructor
   ·rw [da,af,aC (cm (by omega)),au (bj (by omega)),hb,av (by rfl),aC (by rfl),au hlo,aU,dd (by omega)]
    exact ih
   ·intro J
    have hpt := RZ (o.reverse.map eO) J (eO t)
    rw [hAl] at hpt
    rw [cK,af,aC (cm (by omega)),au (bj (by omega)),hb,av (by rfl),aC (by rfl),hpt,au hlo,aU,dd (by omega)]
    exact ih
  rw [if_neg h40]
  by_cases h41 : x = 41
  ·subst h41
   rw [if_pos rfl]
   cases o with
   | nil =>
    constructor
    ·rw [da,af,aC (cm (by omega)),au (bj (by omega)),hb,av (by rfl),av (by rfl),aC (by rfl),hn1,hw1,aC (by rfl),cH hc]; rfl
    ·intro J
     rw [cK,af,aC (cm (by omega)),au (bj (by omega)),hb,av (by rfl),av (by rfl),aC (by rfl),hw1,aC (by rfl),cH hc]; rfl
   | cons u o =>
    simp only [List.map_cons,List.sum_cons] at hph
    simp only [lnC] at h4
    have hll := O6 (q := q) (row := t.2) (by omega)
    have ih := (zO hl hp k (i + 1) o (u.1,u.2 ++ [((i7 q t.2).2 : Int)]) (i7 q t.2).1 (by omega) (by omega) (by simp only [phi,u7,lnA,lnC,lnN]; omega) (by omega) (xo hf _)).2
    obtain ⟨O,hO⟩ : ∃ O,O = o.reverse.map eO := ⟨_,rfl⟩
    have hA : O.length = o.length := by rw [hO,lnM,List.length_reverse]
    have hrev : (u :: o).reverse.map eO = O ++ [eO u] := by rw [hO]; simp
    have hlim : decide (ni (u.2.map eI ++ [D.int .i64 ((i7 q t.2).2 : Int)]).length <= LIM) = true := GK (by simp only [lnA,lnM,lnC,lnN]; omega)
    have hrow : (u.2 ++ [((i7 q t.2).2 : Int)]).map eI = u.2.map eI ++ [D.int .i64 ((i7 q t.2).2 : Int)] := by simp
    have hl2 : (u :: o).length = O.length + 1 := by rw [hA]; rfl
    have hn2 : (O ++ [eO u] ++ [eO t]).length = O.length + 1 + 1 := by simp
    have hw2 : IntKind.wrap IntKind.i64 (ni (O.length + 1 + 1) - 1) = ((O.length + 1 : Nat) : Int) := NN (by omega)
    have hw3 : IntKind.wrap IntKind.i64 (((O.length + 1 : Nat) : Int) - 1) = (O.length : Int) := NN (by omega)
    have hne : (((O.length + 1 : Nat) : Int) == 0) = false := by simp only [beq_eq_false_iff_ne,ne_eq]; omega
    rw [<- hA,<- hO] at ih
    rw [hrev,hl2]
    constructor
    ·rw [da,af,aC (cm (by omega)),au (bj (by omega)),hb,av (by rfl),av (by rfl),aC (by rfl),hn2,hw2,av hne,au (bj (by omega)),Int.toNat_natCast,R4,js,vj hll,tdd,RY,hw3,Int.toNat_natCast,Nat.zero_add O.length]
     rw [au (by unfold bi; simp; try omega),au CJ,fE,js,au hlim,aU,gt,tdd,au CJ,fE,aw,gt,tds,aU,dd (by omega),<- hrow]
     exact ih _
    ·intro J
     rw [cK,af,aC (cm (by omega)),au (bj (by omega)),hb,av (by rfl),av (by rfl),aC (by rfl),hw2,av hne,au (by simp only [ni,Bool.and_eq_true,decide_eq_true_eq,lnA,lnC,lnN]; omega),Int.toNat_natCast,Nat.zero_add (O.length + 1),R4,js,vj hll,tdd,RY,hw3,Int.toNat_natCast,Nat.zero_add O.length]
     rw [au (by unfold kt; simp; try omega),au (by have := CJ (A := O) (J := D.agg [.int .i64 t.1,.dead] :: J) (x := eO u); rwa [Nat.zero_add] at this),fE,js,au hlim,aU,gt,tdd,au (by have := CJ (A := O) (J := D.agg [.int .i64 t.1,.dead] :: J) (x := .agg [.int .i64 u.1,.dead]); rwa [Nat.zero_add] at this),fE,aw,gt,tds,aU,dd (by omega),<- hrow]
     exact ih _
  rw [if_neg h41]
  have hwb := nV x
  cases hw : o7 x with
  | false =>
   rw [hw] at hwb
   rw [if_neg (by simp)]
   constructor
   ·rw [da,af,aC (cm (by omega)),au (bj (by omega)),hb,av (jS 32 32 rfl h32),av (jS 40 40 rfl h40),av (jS 41 41 rfl h41),el hwb,al,cH hc]; rfl
   ·intro J
    rw [cK,af,aC (cm (by omega)),au (bj (by omega)),hb,av (jS 32 32 rfl h32),av (jS 40 40 rfl h40),av (jS 41 41 rfl h41),el hwb,al,cH hc]; rfl
  | true =>
   rw [hw] at hwb
   have hs := QZ hl (i := i) (p := p) (q := q) (A := o.reverse.map eO) (t := t) hp (by omega) (by rw [hAl]; omega) (by omega) (l.length - i) i (by omega) (by omega)
   have hs1 := fun J => PW hl (i := i) (p := p) (q := q) (A := o.reverse.map eO) (J := J) (t := t) hp (by omega) (by rw [hAl]; omega) (by omega) (l.length - i) i (by omega) (by omega)
   rw [hAl] at hs hs1
   have hwe := qt hx hw
   have hwl := Dw (l := l) (j := i + 1) (by omega)
   rw [hAl] at hw1
   rw [if_pos rfl]
   constructor
   ·rw [da,af,aC (cm (by omega)),au (bj (by omega)),hb,av (jS 32 32 rfl h32),av (jS 40 40 rfl h40),av (jS 41 41 rfl h41),el hwb,am,hn1,hw1,hs]
    cases hwd : jV ((l.drop i).take (jK l i - i)) with
    | none => rfl
    | some nd =>
     have hz := si hwd
     exact (zO hl hp k (jK l i) o (t.1,t.2 ++ [(q.length : Int)]) (q ++ [nd]) (by omega) (by omega) (by simp only [phi,lnA,lnC,lnN]; omega) (by omega) (nb hf (by rw [List.length_take,List.length_drop] at hz; omega))).1
   ·intro J
    rw [cK,af,aC (cm (by omega)),au (bj (by omega)),hb,av (jS 32 32 rfl h32),av (jS 40 40 rfl h40),av (jS 41 41 rfl h41),el hwb,am,hw1,hs1]
    cases hwd : jV ((l.drop i).take (jK l i - i)) with
    | none => rfl
    | some nd =>
     have hz := si hwd
     exact (zO hl hp k (jK l i) o (t.1,t.2 ++ [(q.length : Int)]) (q ++ [nd]) (by omega) (by omega) (by simp only [phi,lnA,lnC,lnN]; omega) (by omega) (nb hf (by rw [List.length_take,List.length_drop] at hz; omega))).2 J
end Go.Eng
/-! reading a text: both sides agree -/
namespace Go.Eng
open Go.Proofs Go.Proofs.Tryz
set_option maxHeartbeats 4000000

theorem mR {l : List UInt8} (hl : l.length < 1000000000) : ∀ (k i : Nat) (o : List RwF) (t : RwF) (q : List Nd),i <= l.length -> phi o t q + 2 * (l.length - i) < 4000000000 -> fW q -> ∀ q' row,gA l k i o t q = .ok q' row -> fW q' /\ q'.length < 4000000000 /\ row.length < 4000000000
 | 0,i,o,t,q,_,_,_,q',row,h => by rw [gA] at h; cases h
 | k + 1,i,o,t,q,h2,h3,hf,q',row,h => by
  have hph : phi o t q = q.length + t.2.length + (o.map fun x => x.2.length).sum := rfl
  rw [nf] at h
  by_cases hi : i = l.length
  ·have hx : l[i]? = none := List.getElem?_eq_none (by omega)
   rw [hx,sN] at h
   by_cases ho : o = []
   ·rw [if_pos ho] at h
    cases h
    exact ⟨hf,by omega,by omega⟩
   ·rw [if_neg ho] at h; cases h
  obtain ⟨x,hx⟩ := aE (l := l) (i := i) (by omega)
  rw [hx,qD] at h
  by_cases h32 : x = 32
  ·rw [if_pos h32] at h
   exact mR hl k (i + 1) o t q (by omega) (by omega) hf q' row h
  rw [if_neg h32] at h
  by_cases h40 : x = 40
  ·rw [if_pos h40] at h
   exact mR hl k (i + 1) (t :: o) ((i : Int),[]) q (by omega) (by simp only [phi,List.map_cons,List.sum_cons,lnN]; omega) hf q' row h
  rw [if_neg h40] at h
  by_cases h41 : x = 41
  ·rw [if_pos h41] at h
   cases o with
   | nil => cases h
   | cons u o =>
    simp only [List.map_cons,List.sum_cons] at hph
    exact mR hl k (i + 1) o (u.1,u.2 ++ [((i7 q t.2).2 : Int)]) (i7 q t.2).1 (by omega) (by simp only [phi,u7,lnA,lnC,lnN]; omega) (xo hf _) q' row h
  rw [if_neg h41] at h
  by_cases hw : o7 x = true
  ·rw [if_pos hw] at h
   have hwe := qt hx hw
   have hwl := Dw (l := l) (j := i + 1) (by omega)
   cases hwd : jV ((l.drop i).take (jK l i - i)) with
   | none => rw [hwd] at h; cases h
   | some nd =>
    rw [hwd] at h
    have hz := si hwd
    exact mR hl k (jK l i) o (t.1,t.2 ++ [(q.length : Int)]) (q ++ [nd]) (by omega) (by simp only [phi,lnA,lnC,lnN]; omega) (nb hf (by rw [List.length_take,List.length_drop] at hz; omega)) q' row h
  ·rw [if_neg hw] at h; cases h
noncomputable def LY (p : List Nd) (n : Nat) (r : RdR) : List Nd × List Int × Int × Int := match r with
 | .err c a => (p,[],c,a)
 | .ok q row => if bu q = true then (q,row,0,(n : Int)) else (p,[],6,0)
noncomputable def gF (p : List Nd) (l : List UInt8) : List Nd × List Int × Int × Int := if bu p = false then ([],[],6,0) else if 400 < l.length then (p,[],1,0) else LY p l.length (gA l (l.length + 1) 0 [] (0,[]) p)
noncomputable abbrev Cw (r : List Nd × List Int × Int × Int) : Option Ret := some (.tup [oP r.1,.os (1,0) (r.2.1.map eI),.int .i64 r.2.2.1,.int .i64 r.2.2.2],[])
theorem Qo (p : List Nd) (n : Nat) (r : RdR) : SR (p.map eN) n r = Cw (LY p n r) := by
 cases r with
 | err c a => rfl
 | ok q row =>
  rw [Pk]
  unfold LY
  by_cases h : bu q = true
  ·rw [if_pos h]; simp only [if_pos h]
  ·rw [if_neg h]; simp only [if_neg h]; rfl
theorem wa {p : List Nd} (hf : fW p) (hl : p.length < 4611686018427387904) (l : List UInt8) : V 191 [eP p,.str (mk l)] = Cw (gF p l) := by
 have hok := de hf hl
 unfold gF
 rw [FG,lD hok]
 cases h : bu p with
 | false => rw [Bool.not_false,am,if_pos rfl]; rfl
 | true =>
  have hp := bJ h
  have hc := BV (p := p) (by omega)
  rw [Bool.not_true,al,if_neg (by simp),af]
  by_cases h4 : 400 < l.length
  ·rw [aC (decide_eq_true (by simp only [ni]; omega)),cH hc,if_pos h4]; rfl
  ·have hs := (zO (l := l) (by omega) (p := p) (by omega) (l.length + 1) 0 [] (0,[]) p (by omega) (by omega) (by simp only [phi,List.map_nil,List.sum_nil,lnN]; omega) (by simp only [lnN]; omega) hf).1
   rw [av (decide_eq_false (by simp only [ni]; omega)),cH hc,if_neg h4,<- Qo]
   exact hs
end Go.Eng
/-! compiling,plain (the reference's way) -/
namespace Go.Eng

structure Ms where
 list : List In
 defs : List Df
 how : Int
noncomputable abbrev inO (op : Int) : In := ⟨op,0,0,⟨#[]⟩⟩
noncomputable def wrds : List (List UInt8) := [[113,117,111,116,101],[105,102],[102,110],[100,111],[108,101,116],[100,101,102,105,110,101]]
noncomputable def IY (s : ByteArray) : Bool := wrds.any fun x => ax s (mk x)
noncomputable def dR (m : Ms) (x : In) : Ms := if m.how = 0 then (if m.list.length = 400 then ⟨m.list,m.defs,3⟩ else ⟨m.list ++ [x],m.defs,0⟩) else m
noncomputable def ip (m : Ms) : Int := if m.how = 0 then (if m.list.length = 400 then 0 else m.list.length) else 0
noncomputable def toC (m : Ms) (k : Int) : Ms := if m.how = 0 then ⟨m.list.set k.toNat ⟨(m.list.getD k.toNat (inO 0)).op,m.list.length,(m.list.getD k.toNat (inO 0)).i,(m.list.getD k.toNat (inO 0)).s⟩,m.defs,0⟩ else m
noncomputable def jD (m : Ms) (h : Int) : Ms := ⟨m.list,m.defs,h⟩
noncomputable def nmC (p : List Nd) (v : Int) : Bool := (nod p v).kind == 4 && !IY (nod p v).s
noncomputable def qR (p : List Nd) : List Int -> Int -> List ByteArray -> List ByteArray × Int
 | [],h,out => (out,h)
 | x :: r,h,out => if h = 0 then qR p r (if nmC p x = true then 0 else 1) (out ++ [(nod p x).s]) else (out,h)
noncomputable def yh (out : List ByteArray) : Nat -> Nat -> Int -> Int
 | 0,_,h => h
 | k + 1,i,h => if h = 0 then yh out k (i + 1) (if (out.take i).any (fun t => ax t (out.getD i ⟨#[]⟩)) = true then 2 else 0) else h
noncomputable def eJ (p : List Nd) (xs : List Int) (h : Int) : List ByteArray × Int :=
 let r := qR p xs (if xs.length > 4 then 1 else h) []
 (r.1,yh r.1 r.1.length 0 r.2)
noncomputable def OT (s : ByteArray) : List ByteArray -> Nat -> Option Nat
 | [],_ => none
 | x :: r,i => if ax x s = true then some i else OT s r (i + 1)
noncomputable def Mz (s : ByteArray) : List (List ByteArray) -> Nat -> Option (Nat × Nat)
 | [],_ => none
 | e :: r,n => match OT s e 0 with
  | some i => some (n,i)
  | none => Mz s r (n + 1)
section
variable (E : List (List ByteArray) -> Int -> Ms -> Ms)
noncomputable def ln (env : List (List ByteArray)) : List Int -> Bool -> Ms -> Ms
 | [],_,m => m
 | x :: r,f,m => if m.how = 0 then ln env r false (E env x (if f = true then m else dR m (inO 9))) else m
noncomputable def JY (names : List ByteArray) (body : List Int) (env : List (List ByteArray)) (m : Ms) : Ms :=
 let m1 := dR m ⟨6,0,names.length,⟨#[]⟩⟩
 let m2 := dR m1 (inO 5)
 let m3 := ln E (names :: env) body true (toC m2 (ip m))
 toC (dR m3 (inO 8)) (ip m1)
noncomputable def xb (p : List Nd) (s : ByteArray) (xs : List Int) (env : List (List ByteArray)) (m : Ms) : Ms :=
 if ax s (mk [113,117,111,116,101]) = true /\ xs.length = 2 then dR m ⟨1,xs.getD 1 0,0,⟨#[]⟩⟩
 else if ax s (mk [105,102]) = true /\ xs.length = 4 then
  let m1 := E env (xs.getD 1 0) m
  let m3 := E env (xs.getD 2 0) (dR m1 (inO 4))
  let m5 := toC (dR m3 (inO 5)) (ip m1)
  toC (E env (xs.getD 3 0) m5) (ip m3)
 else if ax s (mk [100,111]) = true /\ 2 <= xs.length then ln E env (xs.drop 1) true m
 else if ax s (mk [102,110]) = true /\ 3 <= xs.length then
  let a := gI p (xs.getD 1 0)
  if a.2 = false then jD m 1 else
  let r := eJ p a.1 m.how
  JY E r.1 (xs.drop 2) env (jD m r.2)
 else if ax s (mk [108,101,116]) = true /\ 4 <= xs.length then
  let r := eJ p [xs.getD 1 0] m.how
  dR (E env (xs.getD 2 0) (JY E r.1 (xs.drop 3) env (jD m r.2))) ⟨7,0,1,⟨#[]⟩⟩
 else jD m 1
end
noncomputable def rE (p : List Nd) : Nat -> List (List ByteArray) -> Int -> Ms -> Ms
 | 0,_,_,m => m
 | k + 1,env,v,m => if m.how ≠ 0 then m else
  let x := nod p v
  if x.kind = 1 \/ x.kind = 2 \/ x.kind = 3 then dR m ⟨1,v,0,⟨#[]⟩⟩
  else if x.kind = 4 then
   if IY x.s = true then jD m 1 else match Mz x.s env 0 with
    | some (n,i) => dR m ⟨2,n,i,⟨#[]⟩⟩
    | none => dR m ⟨3,0,0,x.s⟩
  else if x.kind ≠ 5 then jD m 1
  else if (gI p v).2 = false then jD m 1
  else
   let xs := (gI p v).1
   let h := nod p (xs.getD 0 0)
   if h.kind = 4 /\ IY h.s = true then xb (rE p k) p h.s xs env m
   else if xs.length > 5 then jD m 1
   else dR (xs.foldl (fun m x => rE p k env x m) m) ⟨7,0,(xs.length : Int) - 1,⟨#[]⟩⟩
noncomputable def o8 (p : List Nd) (env : List (List ByteArray)) (v : Int) (m : Ms) : Ms := rE p (v.toNat + 1) env v m
noncomputable def qV (s : ByteArray) : List Df -> Int -> Int
 | [],h => h
 | d :: r,h => if h = 0 then qV s r (if ax d.name s = true then 2 else 0) else h
noncomputable def u3 (p : List Nd) (s : ByteArray) (names : List ByteArray) (body : List Int) (m : Ms) : Ms :=
 dR (ln (o8 p) [names] body true ⟨m.list,m.defs ++ [⟨s,m.list.length,names.length⟩],qV s m.defs m.how⟩) (inO 8)
noncomputable def Ot : ByteArray := mk [109,97,105,110]
noncomputable def yb (p : List Nd) (v : Int) (m : Ms) : Ms :=
 let l := gI p v
 if (nod p v).kind = 5 /\ l.2 = true /\ (nod p (l.1.getD 0 0)).kind = 4 /\ ax (nod p (l.1.getD 0 0)).s (mk [100,101,102,105,110,101]) = true then
  if l.1.length < 3 \/ (nod p (l.1.getD 1 0)).kind ≠ 5 then jD m 1 else
  let a := gI p (l.1.getD 1 0)
  if a.2 = false then jD m 1
  else if nmC p (a.1.getD 0 0) = false then jD m 1
  else
   let r := eJ p (a.1.drop 1) m.how
   u3 p (nod p (a.1.getD 0 0)).s r.1 (l.1.drop 2) (jD m r.2)
 else u3 p Ot [] [v] m
noncomputable def kW (p : List Nd) (n : Int) : List Int -> Int -> Ms -> Cd × Int × Int
 | [],_,m => if gx ⟨p,m.list,m.defs⟩ = true then (⟨p,m.list,m.defs⟩,0,n) else (⟨[],[],[]⟩,3,0)
 | x :: r,i,m =>
  let m1 := yb p x m
  if m1.how = 3 then (⟨[],[],[]⟩,3,0) else if m1.how ≠ 0 then (⟨[],[],[]⟩,m1.how,i) else kW p n r (i + 1) m1
noncomputable def sY (p : List Nd) (xs : List Int) : Cd × Int × Int := if bu p = true /\ dl p xs = true then kW p xs.length xs 0 ⟨[],[],0⟩ else (⟨[],[],[]⟩,3,0)
end Go.Eng
/-! a step of a machine: the program's side: the stack,the frames,lists -/
namespace Go.Eng
open Go.Proofs Go.Proofs.Tryz
set_option maxHeartbeats 4000000

theorem qH {p : List Nd} {v : Int} (h : InP p v) : p[v.toNat]? = some (nod p v) := by
 have : v.toNat < p.length := by omega
 simp [nod,List.getD_eq_getElem?_getD,List.getElem?_eq_getElem this]
theorem yd {p : List Nd} (hp : fa p) {v : Int} (h : InP p v) : okN (nod p v) v = true := by
 have := hp _ _ (qH h)
 rwa [Int.toNat_of_nonneg h.1] at this
theorem R9 {p : List Nd} (hp : fa p) {v : Int} (h : InP p v) (hk : (nod p v).kind = 5 \/ (nod p v).kind = 6 \/ (nod p v).kind = 7) : InP p (nod p v).a := by
 rcases hk with hk | hk
 ·have := fj (yd hp h) hk; exact ⟨by omega,by omega⟩
 ·have := f4 (yd hp h) hk; exact ⟨by omega,by omega⟩
theorem PI {p : List Nd} (hp : fa p) {v : Int} (h : InP p v) (hk : (nod p v).kind = 5) : InP p (nod p v).b := by
 have := fj (yd hp h) hk; exact ⟨by omega,by omega⟩
section
variable {R : Type} {p : List Nd} {v : Int}
theorem Gx (h : InP p v) : (decide (0 <= v) && decide (v < ni (p.map eN).length)) = true := by
 rw [lnM]; simp only [ni,Bool.and_eq_true,decide_eq_true_eq]; exact ⟨h.1,h.2⟩
theorem IG (h : InP p v) (K : Int -> Int -> ByteArray -> Int -> Int -> Option R) : grd (decide (0 <= v) && decide (v < ni (p.map eN).length)) (az (p.map eN) v.toNat fun x => tk1 x fun n4 n7 s10 n13 n16 => (K n4 n7 s10 n13 n16)) = K (nod p v).kind (nod p v).n (nod p v).s (nod p v).a (nod p v).b := by
 rw [au (Gx h),aq (qH h),pQ]
theorem OC (h : InP p v) (K : Int -> Option R) : grd (decide (0 <= v) && decide (v < ni (p.map eN).length)) (az (p.map eN) v.toNat fun x => asAgg x fun l => az l 0 fun y => asI .i64 y fun n => K n) = K (nod p v).kind := by
 rw [au (Gx h),aq (qH h),Sn]
theorem Sm (h : InP p v) (K : Int -> Option R) : grd (decide (0 <= v) && decide (v < ni (p.map eN).length)) (az (p.map eN) v.toNat fun x => asAgg x fun l => az l 3 fun y => asI .i64 y fun n => K n) = K (nod p v).a := by
 rw [au (Gx h),aq (qH h),SA]
theorem Su (h : InP p v) (K : Int -> Option R) : grd (decide (0 <= v) && decide (v < ni (p.map eN).length)) (az (p.map eN) v.toNat fun x => asAgg x fun l => az l 4 fun y => asI .i64 y fun n => K n) = K (nod p v).b := by
 rw [au (Gx h),aq (qH h),SG]
end

theorem Lg {p : List Nd} (hp : fa p) : ∀ (k : Nat) (v : Int),InP p v -> ∀ x ∈ (qd p k v).1,InP p x
 | 0,v,hv,x,hx => by simp [qd] at hx
 | k + 1,v,hv,x,hx => by
  unfold qd at hx
  split at hx
  ·rename_i h5
   rcases List.mem_cons.1 hx with rfl | hx
   ·exact R9 hp hv (.inl h5)
   ·exact Lg hp k _ (PI hp hv h5) x hx
  ·simp at hx
theorem Gy {p : List Nd} : ∀ (k : Nat) (v : Int),(qd p k v).1.length <= k
 | 0,v => by simp [qd]
 | k + 1,v => by
  unfold qd
  split
  ·have := Gy (p := p) k (nod p v).b; simp only [lnC]; omega
  ·simp
end Go.Eng
/-! which nodes are alike: both sides -/
namespace Go.Eng
open Go.Proofs Go.Proofs.Tryz
set_option maxHeartbeats 4000000

theorem QP {R : Type} {l : List Int} {v : Int} (h0 : 0 <= v) (h1 : v < (l.length : Int)) (K : Int -> Option R) : grd (decide (0 <= v) && decide (v < ni (l.map eI).length)) (az (l.map eI) v.toNat fun x => asI .i64 x fun n => K n) = K (l.getD v.toNat 0) := by
 obtain ⟨x,hx⟩ := aE (l := l) (i := v.toNat) (by omega)
 rw [au (by rw [lnM]; simp only [ni,Bool.and_eq_true,decide_eq_true_eq]; exact ⟨h0,h1⟩),aq hx,ak,List.getD_eq_getElem?_getD,hx]; rfl
end Go.Eng
/-! what is built in: both sides -/
namespace Go.Eng
open Go.Proofs Go.Proofs.Tryz
set_option maxHeartbeats 4000000

theorem GB {R : Type} {l : List Int} {v x : Int} (h0 : 0 <= v) (h : l[v.toNat]? = some x) (K : Int -> Option R) : grd (decide (0 <= v) && decide (v < ni (l.map eI).length)) (az (l.map eI) v.toNat fun x => asI .i64 x fun n => K n) = K x := by
 have := bw h
 rw [QP h0 (by omega),List.getD_eq_getElem?_getD,h]; rfl
theorem Cl {R : Type} {a : Int} {r : List Int} (K : Int -> Option R) : grd (decide ((0 : Nat) <= 0) && decide ((0 : Int) < ni ((a :: r).map eI).length)) (az ((a :: r).map eI) 0 fun x => asI .i64 x fun n => K n) = K a := GB (l := a :: r) (v := 0) (by omega) rfl K
theorem Px {R : Type} {a b : Int} {r : List Int} (K : Int -> Option R) : grd (decide ((0 : Nat) <= 1) && decide ((1 : Int) < ni ((a :: b :: r).map eI).length)) (az ((a :: b :: r).map eI) 1 fun x => asI .i64 x fun n => K n) = K b := GB (l := a :: b :: r) (v := 1) (by omega) rfl K
end Go.Eng
/-! a step of a machine keeps it right: plain -/
namespace Go.Eng

structure GM (m : Mc) : Prop where
 ok : fa m.pool
 s : InP m.pool m.s
 e : InP m.pool m.e
 d : InP m.pool m.d
theorem wY {p : List Nd} (hp : fa p) {v : Int} (hv : InP p v) : ∀ x ∈ (gI p v).1,InP p x := Lg hp _ v hv
structure GoesM (c : Cd) (m m' : Mc) (k : Nat) : Prop where
 gm : GM m'
 ext : ∃ t,m'.pool = m.pool ++ t /\ t.length <= k
 st : Qm c m' = true
structure RunM (c : Cd) (m : Mc) : Prop where
 gm : GM m
 st : m.state = 0
 ask : m.ask = 0
 arg : m.arg = 0
 pl : Si c m.at' = true
theorem oD {c : Cd} (hc : gx c = true) : bu c.pool = true /\ c.list.length <= 400 /\ c.defs.length <= 20 := by
 unfold gx at hc
 simp only [Bool.and_eq_true,decide_eq_true_eq] at hc
 exact ⟨hc.1,hc.2.1,hc.2.2.1⟩
end Go.Eng
/-! a step of a machine: the program's side: calls -/
namespace Go.Eng
open Go.Proofs Go.Proofs.Tryz
set_option maxHeartbeats 4000000

theorem Pp {α : Type} {f : α -> D} {l : List α} {k : Int} (h : (l.length : Int) = k) : ni (l.map f).length = k := by rw [lnM]; exact h
theorem Ou {α : Type} {f : α -> D} {l : List α} {k : Int} (h : ¬ (l.length : Int) = k) : ¬ ni (l.map f).length = k := by rw [lnM]; exact h
end Go.Eng
/-! a step of a machine: the program's side: whole -/
namespace Go.Eng
open Go.Proofs Go.Proofs.Tryz
set_option maxHeartbeats 4000000

end Go.Eng
/-! a step of a machine: the reference's side: the stack,the frames,calls -/
namespace Go.Eng
open Go.Proofs Go.Proofs.Tryz
set_option maxHeartbeats 4000000

theorem rC {p : List Nd} (hp : fa p) (hl : p.length < 4294967290) : ∀ (k : Nat) (v : Int) (acc : List Int),InP p v -> v < k -> acc.length + k < 4294967296 ->
  gp v (p.map eN) (acc.map eI) = some (.tup [.os (1,0) ((if (qd p k v).2 = true then acc ++ (qd p k v).1 else []).map eI),.bool (qd p k v).2],[])
 | 0,v,acc,hv,hk,ha => by omega
 | k + 1,v,acc,hv,hk,ha => by
  rw [qO,OC hv]
  unfold qd
  by_cases h5 : (nod p v).kind = 5
  ·have hb := fj (yd hp hv) h5
   have ih := rC hp hl k (nod p v).b (acc ++ [(nod p v).a]) (PI hp hv h5) (by omega) (by simp only [lnA,lnC,lnN]; omega)
   have ea : acc.map eI ++ [D.int .i64 (nod p v).a] = (acc ++ [(nod p v).a]).map eI := by simp
   have hlim : decide (ni ((acc ++ [(nod p v).a]).map eI).length <= LIM) = true := decide_eq_true (by rw [bh]; simp only [ni,lnM,lnA,lnC,lnN]; omega)
   rw [if_pos h5,aC (bc h5),Sm hv,ea,au hlim,aU,Su hv,ih]
   simp
  ·rw [if_neg h5,av (bg h5),OC hv]
   by_cases h1 : (nod p v).kind = 1
   ·rw [av (pu h1)]; simp [h1]
   ·rw [aC (pi h1)]; simp [h1]
theorem nJ {p : List Nd} (hp : fa p) (hl : p.length < 2147483648) {v : Int} (hv : InP p v) : V 228 [eP p,.int .i64 v] = some (.tup [.os (1,0) ((if (gI p v).2 = true then (gI p v).1 else []).map eI),.bool (gI p v).2],[]) := by
 have := rC hp (by omega) (v.toNat + 1) v [] hv (by omega) (by simp only [lnN]; omega)
 rw [xW]
 simp only [List.nil_append] at this
 exact this
end Go.Eng
/-! a step of a machine: the program's side: every instruction; runs -/
namespace Go.Eng
open Go.Proofs Go.Proofs.Tryz
set_option maxHeartbeats 4000000

end Go.Eng
/-! compiling: the reference's side -/
namespace Go.Eng
open Go.Proofs Go.Proofs.Tryz
set_option maxHeartbeats 4000000

noncomputable abbrev eMs (p : List Nd) (m : Ms) : D := .op [.os (5,0) (p.map eN),.os (4,0) (m.list.map eIn),.os (3,0) (m.defs.map eDf),.int .i64 m.how]
noncomputable abbrev eEs (env : List (List ByteArray)) : List D := env.map fun e => D.rs (1,0) (e.map D.str)
structure Le (m m' : Ms) : Prop where
 len : m.list.length <= m'.list.length
 four : m'.list.length <= 400
 how : m'.how = 0 -> m.how = 0
 defs : m'.defs = m.defs
theorem Le.refl {m : Ms} (h : m.list.length <= 400) : Le m m := ⟨Nat.le_refl _,h,id,rfl⟩
theorem Le.trans {a b c : Ms} (h : Le a b) (h2 : Le b c) : Le a c := ⟨Nat.le_trans h.len h2.len,h2.four,fun x => h.how (h2.how x),h2.defs.trans h.defs⟩
theorem dH {m : Ms} (h : m.list.length <= 400) (x : In) : Le m (dR m x) := by
 unfold dR
 split
 ·rename_i h0
  split
  ·exact ⟨Nat.le_refl _,h,fun _ => h0,rfl⟩
  ·exact ⟨by simp,by simp; omega,fun _ => h0,rfl⟩
 ·exact Le.refl h
theorem wX {m : Ms} (_ : m.list.length <= 400) (x : In) (h0 : (dR m x).how = 0) : 0 <= ip m /\ ip m < ((dR m x).list.length : Int) := by
 unfold dR at h0 ⊢
 unfold ip
 split at h0
 ·rename_i e
  split at h0
  ·simp at h0
  ·rename_i e2
   rw [if_pos e,if_pos e,if_neg e2,if_neg e2]
   simp
   omega
 ·rename_i e; exact absurd h0 e
theorem z5 {m : Ms} (h : m.list.length <= 400) (k : Int) : Le m (toC m k) := by
 unfold toC
 split
 ·exact ⟨by simp,by simpa using h,fun _ => ‹_›,rfl⟩
 ·exact Le.refl h
theorem JX {p : List Nd} {m : Ms} (h : m.list.length <= 400) (x : In) : V 237 [eMs p m,eIn x] = some (.int .i64 (ip m),[eMs p (dR m x)]) := by
 have e : m.list.map eIn ++ [D.agg [D.int .i64 x.op,D.int .i64 x.n,D.int .i64 x.i,D.str x.s]] = (m.list ++ [x]).map eIn := by simp
 rw [Dz,e]
 unfold dR ip
 by_cases h0 : m.how = 0
 ·rw [aC (bc h0),if_pos h0,if_pos h0]
  by_cases h4 : m.list.length = 400
  ·rw [aC (bc (Pp (by omega))),if_pos h4,if_pos h4]
  ·rw [av (bg (Ou (by omega))),av (pu h0),if_neg h4,if_neg h4,au (decide_eq_true (by rw [bh,lnM]; simp only [ni,lnA,lnC,lnN]; omega)),aU,w64 (by rw [lnM]; simp only [ni,lnA,lnC,lnN]; omega) (by rw [lnM]; simp only [ni,lnA,lnC,lnN]; omega),h0]
   simp [ni]
 ·rw [av (bg h0),aC (pi h0),if_neg h0,if_neg h0]
theorem QC {p : List Nd} {m : Ms} (_ : m.list.length <= 400) {k : Int} (hk : m.how = 0 -> 0 <= k /\ k < (m.list.length : Int)) : V 253 [eMs p m,.int .i64 k] = some (.tup [],[eMs p (toC m k)]) := by
 rw [JM]
 unfold toC
 by_cases h0 : m.how = 0
 ·obtain ⟨k0,k1⟩ := hk h0
  obtain ⟨x,hx⟩ := aE (l := m.list) (i := k.toNat) (by omega)
  have hg : m.list.getD k.toNat (inO 0) = x := by rw [List.getD_eq_getElem?_getD,hx]; rfl
  have e : List.set (m.list.map eIn) k.toNat (D.agg (List.take 1 [D.int .i64 x.op,D.int .i64 x.n,D.int .i64 x.i,D.str x.s] ++ [D.int .i64 (ni (m.list.map eIn).length)] ++ List.drop 2 [D.int .i64 x.op,D.int .i64 x.n,D.int .i64 x.i,D.str x.s])) = (m.list.set k.toNat ⟨x.op,m.list.length,x.i,x.s⟩).map eIn := by
   rw [List.map_set,lnM]; rfl
  rw [aC (bc h0),if_pos h0,au (by rw [lnM]; simp only [ni,Bool.and_eq_true,decide_eq_true_eq]; omega),aq hx,aw,aU,e,hg,h0]
 ·rw [av (bg h0),if_neg h0]
theorem IU (s : ByteArray) : V 238 [.str s] = some (.bool (IY s),[]) := by
 rw [u4]
 unfold IY wrds
 simp only [List.any_cons,List.any_nil,Bool.or_false]
 show br (ax s (mk [113,117,111,116,101])) (some (D.bool true,[])) (br (ax s (mk [105,102])) (some (D.bool true,[])) (br (ax s (mk [102,110])) (some (D.bool true,[])) (br (ax s (mk [100,111])) (some (D.bool true,[])) (br (ax s (mk [108,101,116])) (some (D.bool true,[])) (some (D.bool (ax s (mk [100,101,102,105,110,101])),[])))))) = _
 cases ax s (mk [113,117,111,116,101]) <;> cases ax s (mk [105,102]) <;> cases ax s (mk [102,110]) <;> cases ax s (mk [100,111]) <;> cases ax s (mk [108,101,116]) <;> rfl
theorem PJ {p : List Nd} (m : Ms) {v : Int} (hv : InP p v) : V 230 [eMs p m,.int .i64 v] = some (.tup [.str (nod p v).s,.bool (nmC p v)],[eMs p m]) := by
 rw [Cy,IG hv]
 unfold nmC
 by_cases h4 : (nod p v).kind = 4
 ·rw [aC (bc h4),jO (IU _),bc h4,Bool.true_and]
 ·rw [av (bg h4),bg h4,Bool.false_and]
theorem sK {p : List Nd} (m : Ms) {xs : List Int} (hl : xs.length <= 100000) (hx : ∀ x ∈ xs,InP p x) : ∀ (k i : Nat) (h : Int) (out : List ByteArray),i + k = xs.length -> out.length <= i ->
  dN (xs.map eI) (i : Int) h (out.map D.str) (p.map eN) (m.list.map eIn) (m.defs.map eDf) = dz 0 (qR p (xs.drop i) h out).2 ((qR p (xs.drop i) h out).1.map D.str) (p.map eN) (m.list.map eIn) (m.defs.map eDf) /\ (qR p (xs.drop i) h out).1.length <= xs.length
 | 0,i,h,out,hi,ho => by
  rw [la,av (by rw [lnM]; exact dc (by omega)),List.drop_of_length_le (by omega),qR]
  exact ⟨rfl,by show out.length <= _; omega⟩
 | k + 1,i,h,out,hi,ho => by
  obtain ⟨x,hg⟩ := aE (l := xs) (i := i) (by omega)
  have hp := hx x (List.mem_of_getElem? hg)
  rw [la,aC (by rw [lnM]; exact cm (by omega)),cX hg,qR]
  by_cases h0 : h = 0
  ·have ea : out.map D.str ++ [D.str (nod p x).s] = (out ++ [(nod p x).s]).map D.str := by simp
   have hlim : decide (ni ((out ++ [(nod p x).s]).map D.str).length <= LIM) = true := decide_eq_true (by rw [bh]; simp only [ni,lnM,lnA,lnC,lnN]; omega)
   have hn : V 230 [.op [.os (5,0) (p.map eN),.os (4,0) (m.list.map eIn),.os (3,0) (m.defs.map eDf),.int .i64 h],.int .i64 x] = _ := PJ (p := p) ⟨m.list,m.defs,h⟩ hp
   rw [aC (bc h0),au (by rw [lnM]; exact bj (by omega)),Int.toNat_natCast,aq hg,ak,wq hn,ea,dd (by omega),if_pos h0]
   have ih := fun h' => sK m hl hx k (i + 1) h' (out ++ [(nod p x).s]) (by omega) (by simp; omega)
   cases hc : nmC p x with
   | false => rw [Bool.not_false,am,if_neg (by simp),au hlim,aU]; exact ih 1
   | true => rw [Bool.not_true,al,if_pos rfl,h0,au hlim,aU]; exact ih 0
  ·rw [av (bg h0),if_neg h0]
   exact ⟨rfl,by show out.length <= _; omega⟩
theorem Jl {p : List Nd} (m : Ms) {out : List ByteArray} (hl : out.length <= 100000) {i : Nat} (hi : i < out.length) {s : ByteArray} (hs : out[i]? = some s) : ∀ (k j : Nat) (h : Int),j + k = i ->
  fm (i : Int) (j : Int) h (out.map D.str) (p.map eN) (m.list.map eIn) (m.defs.map eDf) = dz ((i + 1 : Nat) : Int) (if ((out.take i).drop j).any (fun t => ax t s) = true then 2 else h) (out.map D.str) (p.map eN) (m.list.map eIn) (m.defs.map eDf)
 | 0,j,h,hj => by
  rw [jX,av (decide_eq_false (by omega)),dd (by omega),List.drop_of_length_le (by simp; omega)]
  rfl
 | k + 1,j,h,hj => by
  obtain ⟨t,ht⟩ := aE (l := out) (i := j) (by omega)
  have ht2 : (out.take i)[j]? = some t := by rw [List.getElem?_take]; rw [if_pos (by omega)]; exact ht
  rw [jX,aC (decide_eq_true (by omega)),au (by rw [lnM]; exact bj (by omega)),Int.toNat_natCast,aq ht,aF,au (by rw [lnM]; exact bj (by omega)),Int.toNat_natCast,aq hs,aF,dd (by omega),Jl m hl hi hs k (j + 1) 2 (by omega),Jl m hl hi hs k (j + 1) h (by omega),cX ht2,List.any_cons]
  cases ax t s with
  | true => rw [am,Bool.true_or,if_pos rfl]; split <;> rfl
  | false => rw [al,Bool.false_or]
theorem Iz {p : List Nd} (m : Ms) {out : List ByteArray} (hl : out.length <= 100000) : ∀ (k i : Nat) (h : Int),i + k = out.length ->
  dz (i : Int) h (out.map D.str) (p.map eN) (m.list.map eIn) (m.defs.map eDf) = some (.os (1,0) (out.map D.str),[eMs p (jD m (yh out k i h))])
 | 0,i,h,hi => by
  rw [jY,av (by rw [lnM]; exact dc (by omega))]
  rfl
 | k + 1,i,h,hi => by
  obtain ⟨s,hs⟩ := aE (l := out) (i := i) (by omega)
  have hg : out.getD i ⟨#[]⟩ = s := by rw [List.getD_eq_getElem?_getD,hs]; rfl
  have hin := Jl (p := p) m hl (i := i) (by omega) hs i 0 h (by omega)
  rw [Int.natCast_zero,List.drop_zero] at hin
  rw [jY,aC (by rw [lnM]; exact cm (by omega)),hin,Iz m hl k (i + 1) _ (by omega),yh,hg]
  by_cases h0 : h = 0
  ·rw [aC (bc h0),if_pos h0,h0]
  ·rw [av (bg h0),if_neg h0]
   rfl
theorem DF {p : List Nd} (m : Ms) {xs : List Int} (hl : xs.length <= 100000) (hx : ∀ x ∈ xs,InP p x) : V 231 [eMs p m,.rs (1,0) (xs.map eI)] = some (.os (1,0) ((eJ p xs m.how).1.map D.str),[eMs p (jD m (eJ p xs m.how).2)]) /\ (eJ p xs m.how).1.length <= xs.length := by
 have h := fun h' => sK (p := p) m hl hx xs.length 0 h' [] (by omega) (by simp)
 simp only [Int.natCast_zero,List.drop_zero,List.map_nil] at h
 have key : ∀ h',dN (xs.map eI) 0 h' [] (p.map eN) (m.list.map eIn) (m.defs.map eDf) = some (.os (1,0) ((qR p xs h' []).1.map D.str),[eMs p (jD m (yh (qR p xs h' []).1 (qR p xs h' []).1.length 0 (qR p xs h' []).2))]) := fun h' => by
  have hd := Iz (p := p) m (out := (qR p xs h' []).1) (by have := (h h').2; omega) (qR p xs h' []).1.length 0 (qR p xs h' []).2 (by omega)
  rw [(h h').1]
  exact hd
 rw [y3,lnM]
 unfold eJ
 by_cases h4 : xs.length > 4
 ·rw [aC (decide_eq_true (by simp only [ni]; omega)),if_pos h4]
  exact ⟨key 1,(h 1).2⟩
 ·rw [av (decide_eq_false (by simp only [ni]; omega)),if_neg h4]
  exact ⟨key m.how,(h m.how).2⟩

noncomputable def vrD (r : Option (Nat × Nat)) : D := match r with | some (n,i) => .tup [.int .i64 n,.int .i64 i] | none => .tup [.int .i64 (-1),.int .i64 0]
theorem OJ {env : List (List ByteArray)} {s : ByteArray} (h1 : env.length <= 100000) {n : Nat} {e : List ByteArray} (he : env[n]? = some e) (h2 : e.length <= 100000) : ∀ (k i : Nat),i + k = e.length ->
  jn (eEs env) s (n : Int) (i : Int) = match OT s (e.drop i) i with
   | some j => some (.tup [.int .i64 n,.int .i64 j],[])
   | none => gC (eEs env) s ((n + 1 : Nat) : Int)
 | 0,i,hi => by
  have hn := bw he
  rw [nC,au (by rw [lnM]; exact bj (by omega)),Int.toNat_natCast,aq he,aZ,lnM,av (dc (by omega)),List.drop_of_length_le (by omega),dd (by omega)]
  rfl
 | k + 1,i,hi => by
  have hn := bw he
  obtain ⟨t,ht⟩ := aE (l := e) (i := i) (by omega)
  rw [nC,au (by rw [lnM]; exact bj (by omega)),Int.toNat_natCast,aq he,aZ,lnM,aC (cm (by omega)),aq he,aZ,au (by rw [lnM]; exact bj (by omega)),Int.toNat_natCast,aq ht,aF,cX ht,OT,dd (by omega),OJ h1 he h2 k (i + 1) (by omega),au (by rw [lnM]; exact bj (by omega))]
  cases ax t s with
  | true => rw [am,if_pos rfl]
  | false => rw [al,if_neg (by simp)]
theorem Ir {env : List (List ByteArray)} {s : ByteArray} (h1 : env.length <= 100000) (h2 : ∀ e ∈ env,e.length <= 100000) : ∀ (k n : Nat),n + k = env.length -> gC (eEs env) s (n : Int) = some (vrD (Mz s (env.drop n) n),[])
 | 0,n,hn => by
  rw [mO,av (by rw [lnM]; exact dc (by omega)),List.drop_of_length_le (by omega)]
  rfl
 | k + 1,n,hn => by
  obtain ⟨e,he⟩ := aE (l := env) (i := n) (by omega)
  have hi := OJ (s := s) h1 he (h2 e (List.mem_of_getElem? he)) e.length 0 (by omega)
  rw [Int.natCast_zero,List.drop_zero] at hi
  rw [mO,aC (by rw [lnM]; exact cm (by omega)),hi,cX he,Mz,Ir h1 h2 k (n + 1) (by omega)]
  cases OT s e 0 <;> rfl
theorem RK {env : List (List ByteArray)} (s : ByteArray) (h1 : env.length <= 100000) (h2 : ∀ e ∈ env,e.length <= 100000) : V 248 [.rs (1,1) (eEs env),.str s] = some (vrD (Mz s env 0),[]) := by
 rw [Gt]
 exact Ir h1 h2 env.length 0 (by omega)
end Go.Eng
/-! compiling: the reference's side: expressions -/
namespace Go.Eng
open Go.Proofs Go.Proofs.Tryz
set_option maxHeartbeats 4000000

theorem KT {p : List Nd} (hp : fa p) : ∀ (k : Nat) (v : Int),InP p v -> ∀ x ∈ (qd p k v).1,x < v
 | 0,v,hv,x,hx => by simp [qd] at hx
 | k + 1,v,hv,x,hx => by
  unfold qd at hx
  split at hx
  ·rename_i h5
   have := fj (yd hp hv) h5
   rcases List.mem_cons.1 hx with rfl | hx
   ·omega
   ·have := KT hp k _ (PI hp hv h5) x hx; omega
  ·simp at hx
theorem Qw {p : List Nd} (hp : fa p) {v : Int} (hv : InP p v) : ∀ x ∈ (gI p v).1,x < v := KT hp _ v hv
theorem tp {p : List Nd} (v : Int) : (gI p v).1.length <= v.toNat + 1 := Gy _ _
noncomputable def pa (E : List (List ByteArray) -> Int -> Ms -> Ms) : Prop := ∀ env v (m : Ms),m.list.length <= 400 -> Le m (E env v m)
theorem mw {m : Ms} (h : m.list.length <= 400) {k : Int} (hk : k = 0 -> m.how = 0) : Le m (jD m k) := ⟨Nat.le_refl _,h,hk,rfl⟩
theorem mn {E} (hE : pa E) (env : List (List ByteArray)) : ∀ (xs : List Int) (f : Bool) (m : Ms),m.list.length <= 400 -> Le m (ln E env xs f m)
 | [],f,m,h => Le.refl h
 | x :: r,f,m,h => by
  unfold ln
  split
  ·have h1 : Le m (if f = true then m else dR m (inO 9)) := by
    split
    ·exact Le.refl h
    ·exact dH h _
   have h2 := hE env x _ h1.four
   exact (h1.trans h2).trans (mn hE env r false _ h2.four)
  ·exact Le.refl h
theorem JN {E} (hE : pa E) (names : List ByteArray) (body : List Int) (env : List (List ByteArray)) {m : Ms} (h : m.list.length <= 400) : Le m (JY E names body env m) := by
 unfold JY
 simp only
 have a1 := dH h ⟨6,0,names.length,⟨#[]⟩⟩
 have a2 := dH a1.four (inO 5)
 have a3 := z5 a2.four (ip m)
 have a4 := mn hE (names :: env) body true _ a3.four
 have a5 := dH a4.four (inO 8)
 have a6 := z5 a5.four (ip (dR m ⟨6,0,names.length,⟨#[]⟩⟩))
 exact ((((a1.trans a2).trans a3).trans a4).trans a5).trans a6
theorem Qp (out : List ByteArray) : ∀ (k i : Nat) (h : Int),yh out k i h = 0 -> h = 0
 | 0,i,h,e => e
 | k + 1,i,h,e => by
  unfold yh at e
  split at e
  ·assumption
  ·exact e
theorem Ri (p : List Nd) : ∀ (xs : List Int) (h : Int) (out : List ByteArray),(qR p xs h out).2 = 0 -> h = 0
 | [],h,out,e => e
 | x :: r,h,out,e => by
  unfold qR at e
  split at e
  ·assumption
  ·exact e
theorem qu {p : List Nd} {xs : List Int} {h : Int} (e : (eJ p xs h).2 = 0) : h = 0 := by
 unfold eJ at e
 have := Ri p xs _ _ (Qp _ _ _ _ e)
 split at this
 ·omega
 ·exact this
theorem QA {E} (hE : pa E) (p : List Nd) (s : ByteArray) (xs : List Int) (env : List (List ByteArray)) {m : Ms} (h : m.list.length <= 400) : Le m (xb E p s xs env m) := by
 unfold xb
 simp only
 split
 ·exact dH h _
 split
 ·have a1 := hE env (xs.getD 1 0) m h
  have a2 := dH a1.four (inO 4)
  have a3 := hE env (xs.getD 2 0) _ a2.four
  have a4 := dH a3.four (inO 5)
  have a5 := z5 a4.four (ip (E env (xs.getD 1 0) m))
  have a6 := hE env (xs.getD 3 0) _ a5.four
  exact (((((a1.trans a2).trans a3).trans a4).trans a5).trans a6).trans (z5 a6.four _)
 split
 ·exact mn hE env _ true m h
 split
 ·split
  ·exact mw h (by omega)
  ·have a1 : Le m (jD m (eJ p (gI p (xs.getD 1 0)).1 m.how).2) := mw h qu
   exact a1.trans (JN hE _ _ env a1.four)
 split
 ·have a1 : Le m (jD m (eJ p [xs.getD 1 0] m.how).2) := mw h qu
  have a2 := JN hE (eJ p [xs.getD 1 0] m.how).1 (xs.drop 3) env a1.four
  have a3 := hE env (xs.getD 2 0) _ a2.four
  exact ((a1.trans a2).trans a3).trans (dH a3.four _)
 ·exact mw h (by omega)
theorem KM {E} (hE : pa E) (env : List (List ByteArray)) : ∀ (xs : List Int) (m : Ms),m.list.length <= 400 -> Le m (xs.foldl (fun m x => E env x m) m)
 | [],m,h => Le.refl h
 | x :: r,m,h => by
  have a1 := hE env x m h
  exact a1.trans (KM hE env r _ a1.four)
theorem nQ (p : List Nd) : ∀ k,pa (rE p k)
 | 0,env,v,m,h => Le.refl h
 | k + 1,env,v,m,h => by
  unfold rE
  split
  ·exact Le.refl h
  simp only
  split
  ·exact dH h _
  split
  ·split
   ·exact mw h (by omega)
   ·split <;> exact dH h _
  split
  ·exact mw h (by omega)
  split
  ·exact mw h (by omega)
  split
  ·exact QA (nQ p k) p _ _ env h
  split
  ·exact mw h (by omega)
  ·have a1 := KM (nQ p k) env (gI p v).1 m h
   exact a1.trans (dH a1.four _)

noncomputable def tm (env : List (List ByteArray)) (n : Nat) : Prop := env.length + n <= 10000 /\ ∀ e ∈ env,e.length <= 10000
noncomputable def xJ (p : List Nd) (k : Nat) (E : List (List ByteArray) -> Int -> Ms -> Ms) : Prop := ∀ env v (m : Ms),InP p v -> v < (k : Int) -> tm env k -> m.list.length <= 400 -> V 244 [eMs p m,.int .i64 v,.rs (1,1) (eEs env)] = some (.tup [],[eMs p (E env v m)])
section
variable {p : List Nd} {k : Nat} {E : List (List ByteArray) -> Int -> Ms -> Ms}
theorem u9 (hG : pa E) (hS : xJ p k E) {env : List (List ByteArray)} (he : tm env k) {xs : List Int} (hl : xs.length <= 100000) (hx : ∀ x ∈ xs,InP p x /\ x < (k : Int)) : ∀ (j i : Nat) (m : Ms),i + j = xs.length -> m.list.length <= 400 ->
  ga (xs.map eI) (eEs env) (i : Int) m.how (p.map eN) (m.list.map eIn) (m.defs.map eDf) = some (.tup [],[eMs p (ln E env (xs.drop i) (decide (i = 0)) m)])
 | 0,i,m,hi,hm => by
  rw [mo,av (by rw [lnM]; exact dc (by omega)),List.drop_of_length_le (by omega)]
  rfl
 | j + 1,i,m,hi,hm => by
  obtain ⟨x,hg⟩ := aE (l := xs) (i := i) (by omega)
  obtain ⟨x1,x2⟩ := hx x (List.mem_of_getElem? hg)
  rw [mo,aC (by rw [lnM]; exact cm (by omega)),cX hg,ln]
  by_cases h0 : m.how = 0
  ·rw [aC (bc h0),if_pos h0]
   by_cases hi0 : i = 0
   ·have a1 := hS env x m x1 x2 he hm
    have ih := u9 hG hS he hl hx j (i + 1) (E env x m) (by omega) (hG env x m hm).four
    rw [av (decide_eq_false (by omega)),au (by rw [lnM]; exact bj (by omega)),Int.toNat_natCast,aq hg,ak,gi a1,dd (by omega),ih,decide_eq_true hi0,if_pos rfl,decide_eq_false (by omega)]
   ·have a0 : V 237 [eMs p m,.agg [.int .i64 9,.int .i64 0,.int .i64 0,.str ⟨#[]⟩]] = _ := JX (p := p) hm (inO 9)
    have le := dH hm (inO 9)
    have a1 := hS env x _ x1 x2 he le.four
    have ih := u9 hG hS he hl hx j (i + 1) (E env x (dR m (inO 9))) (by omega) (hG env x _ le.four).four
    rw [aC (decide_eq_true (by omega)),cw a0,au (by rw [lnM]; exact bj (by omega)),Int.toNat_natCast,aq hg,ak,gi a1,dd (by omega),ih,decide_eq_false hi0,if_neg (by simp),decide_eq_false (by omega)]
  ·rw [av (bg h0),if_neg h0]
theorem J2 (hG : pa E) (hS : xJ p k E) {env : List (List ByteArray)} (he : tm env k) {xs : List Int} (hl : xs.length <= 100000) (hx : ∀ x ∈ xs,InP p x /\ x < (k : Int)) {m : Ms} (hm : m.list.length <= 400) : V 236 [eMs p m,.rs (1,0) (xs.map eI),.rs (1,1) (eEs env)] = some (.tup [],[eMs p (ln E env xs true m)]) := by
 have h := u9 hG hS he hl hx xs.length 0 m (by omega) hm
 rw [Dt]
 simpa using h
theorem iV {p : List Nd} {m : Ms} (h : m.list.length <= 400) (op n i : Int) : V 237 [eMs p m,.agg [.int .i64 op,.int .i64 n,.int .i64 i,.str ⟨#[]⟩]] = some (.int .i64 (ip m),[eMs p (dR m ⟨op,n,i,⟨#[]⟩⟩)]) := JX h ⟨op,n,i,⟨#[]⟩⟩
theorem Q6 (hG : pa E) (hS : xJ p k E) {names : List ByteArray} (hn : names.length <= 10000) {env : List (List ByteArray)} (he : tm env (k + 1)) {xs : List Int} (hl : xs.length <= 100000) (hx : ∀ x ∈ xs,InP p x /\ x < (k : Int)) {m : Ms} (hm : m.list.length <= 400) : V 254 [eMs p m,.rs (1,0) (names.map D.str),.rs (1,0) (xs.map eI),.rs (1,1) (eEs env)] = some (.tup [],[eMs p (JY E names xs env m)]) := by
 have he1 := he.1
 have e1 : [D.rs (1,0) (names.map D.str)] ++ eEs env = eEs (names :: env) := rfl
 have hlim : decide (ni (eEs (names :: env)).length <= LIM) = true := decide_eq_true (by rw [bh]; simp only [ni,lnM,lnC]; omega)
 have he2 : tm (names :: env) k := ⟨by simp only [lnC]; omega,fun e h => by
  rcases List.mem_cons.1 h with rfl | h
  ·exact hn
  ·exact he.2 e h⟩
 have a1 := dH hm ⟨6,0,names.length,⟨#[]⟩⟩
 have i1 := wX hm ⟨6,0,names.length,⟨#[]⟩⟩
 have a2 := dH a1.four (inO 5)
 have i2 := wX a1.four (inO 5)
 have a3 := z5 a2.four (ip m)
 have a4 := mn hG (names :: env) xs true _ a3.four
 have a5 := dH a4.four (inO 8)
 have e0 : ni (names.map D.str).length = (names.length : Int) := by rw [lnM]
 have b1 := iV (p := p) hm 6 0 names.length
 have b2 := iV (p := p) a1.four 5 0 0
 have b3 := QC (p := p) a2.four (k := ip m) (fun h => by have := i1 (a2.how h); have := a2.len; omega)
 have b4 := J2 hG hS he2 hl hx a3.four
 have b5 := iV (p := p) a4.four 8 0 0
 have b6 := QC (p := p) a5.four (k := ip (dR m ⟨6,0,names.length,⟨#[]⟩⟩)) (fun h => by have := i2 (a3.how (a4.how (a5.how h))); have := a5.len; have := a4.len; have := a3.len; omega)
 rw [Ee,e0,cw b1,cw b2,qA b3,e1,au hlim,aU,lP b4,cw b5,qA b6]
 rfl
theorem fq {s : ByteArray} {a b : List UInt8} (h : ax s (mk a) = true) (hn : a ≠ b) : ax s (mk b) = false := by
 rw [kV] at h ⊢
 simp only [decide_eq_true_eq,decide_eq_false_iff_not] at h ⊢
 intro e
 exact hn (mk_inj.1 (h.symm.trans e))
theorem RI (hp : fa p) (hl : p.length < 100000) (hG : pa E) (hS : xJ p k E) {env : List (List ByteArray)} (he : tm env (k + 1)) {xs : List Int} (hn : xs ≠ []) (hxl : xs.length <= 100000) (hx : ∀ x ∈ xs,InP p x /\ x < (k : Int)) {m : Ms} (hm : m.list.length <= 400) (s : ByteArray) : V 249 [eMs p m,.str s,.rs (1,0) (xs.map eI),.rs (1,1) (eEs env)] = some (.tup [],[eMs p (xb E p s xs env m)]) := by
 have he1 := he.1
 have he2 : tm env k := ⟨by omega,he.2⟩
 have get : ∀ i : Nat,i < xs.length -> InP p (xs.getD i 0) /\ xs.getD i 0 < (k : Int) /\ xs[i]? = some (xs.getD i 0) := fun i hi => by
  obtain ⟨x,hg⟩ := aE (l := xs) (i := i) hi
  have e : xs.getD i 0 = x := by rw [List.getD_eq_getElem?_getD,hg]; rfl
  obtain ⟨g1,g2⟩ := hx x (List.mem_of_getElem? hg)
  rw [e]
  exact ⟨g1,g2,hg⟩
 have hdrop : ∀ n,∀ x ∈ xs.drop n,InP p x /\ x < (k : Int) := fun n x h => hx x (List.mem_of_mem_drop h)
 have hdl : ∀ n,(xs.drop n).length <= 100000 := fun n => by rw [List.length_drop]; omega
 have cut : ∀ n : Int,0 <= n -> n <= (xs.length : Int) -> bi (xs.map eI).length (some n) none = true := fun n h0 h1 => by simp [bi]; omega
 have cutd1 : dk (xs.map eI) 1 = (xs.drop 1).map eI := by unfold dk; rw [List.map_drop]; rfl
 have cutd2 : dk (xs.map eI) 2 = (xs.drop 2).map eI := by unfold dk; rw [List.map_drop]; rfl
 have cutd3 : dk (xs.map eI) 3 = (xs.drop 3).map eI := by unfold dk; rw [List.map_drop]; rfl
 have other : ∀ {a b : List UInt8},ax s (mk a) = true -> a ≠ b -> ¬ ax s (mk b) = true := fun h hn e => by rw [fq h hn] at e; cases e
 rw [BQ]
 unfold xb
 by_cases hq : ax s (mk [113,117,111,116,101]) = true
 ·have tq : ax s ⟨#[113,117,111,116,101]⟩ = true := hq
  have ti : ax s ⟨#[105,102]⟩ = false := fq hq (by decide)
  have td : ax s ⟨#[100,111]⟩ = false := fq hq (by decide)
  have tf : ax s ⟨#[102,110]⟩ = false := fq hq (by decide)
  have tl : ax s ⟨#[108,101,116]⟩ = false := fq hq (by decide)
  by_cases h2 : xs.length = 2
  ·obtain ⟨g1,g2,g3⟩ := get 1 (by omega)
   have b1 := iV (p := p) hm 1 (xs.getD 1 0) 0
   rw [if_pos ⟨hq,h2⟩,aC tq,aC (bc (Pp (by omega))),au (by rw [lnM]; simp only [ni,Bool.and_eq_true,decide_eq_true_eq]; omega),aq g3,ak,cw b1]
  ·rw [if_neg (fun h => h2 h.2),if_neg (fun h => other hq (by decide) h.1),if_neg (fun h => other hq (by decide) h.1),if_neg (fun h => other hq (by decide) h.1),if_neg (fun h => other hq (by decide) h.1),aC tq,av (bg (Ou (by omega))),av ti,av td,av tf,av tl]
   rfl
 have tq : ax s ⟨#[113,117,111,116,101]⟩ = false := by cases e : ax s ⟨#[113,117,111,116,101]⟩ with | true => exact absurd e hq | false => rfl
 rw [if_neg (fun h => hq h.1),av tq]
 by_cases hi : ax s (mk [105,102]) = true
 ·have ti : ax s ⟨#[105,102]⟩ = true := hi
  have td : ax s ⟨#[100,111]⟩ = false := fq hi (by decide)
  have tf : ax s ⟨#[102,110]⟩ = false := fq hi (by decide)
  have tl : ax s ⟨#[108,101,116]⟩ = false := fq hi (by decide)
  by_cases h4 : xs.length = 4
  ·obtain ⟨g1,g2,g3⟩ := get 1 (by omega)
   obtain ⟨g4,g5,g6⟩ := get 2 (by omega)
   obtain ⟨g7,g8,g9⟩ := get 3 (by omega)
   have l1 := hG env (xs.getD 1 0) m hm
   have l2 := dH l1.four (inO 4)
   have i2 := wX l1.four (inO 4)
   have l3 := hG env (xs.getD 2 0) _ l2.four
   have l4 := dH l3.four (inO 5)
   have i4 := wX l3.four (inO 5)
   have l5 := z5 l4.four (ip (E env (xs.getD 1 0) m))
   have l6 := hG env (xs.getD 3 0) _ l5.four
   have b1 := hS env (xs.getD 1 0) m g1 g2 he2 hm
   have b2 := iV (p := p) l1.four 4 0 0
   have b3 := hS env (xs.getD 2 0) _ g4 g5 he2 l2.four
   have b4 := iV (p := p) l3.four 5 0 0
   have b5 := QC (p := p) l4.four (k := ip (E env (xs.getD 1 0) m)) (fun h => by have := i2 (l3.how (l4.how h)); have := l4.len; have := l3.len; omega)
   have b6 := hS env (xs.getD 3 0) _ g7 g8 he2 l5.four
   have b7 := QC (p := p) l6.four (k := ip (E env (xs.getD 2 0) (dR (E env (xs.getD 1 0) m) (inO 4)))) (fun h => by have := i4 (l5.how (l6.how h)); have := l6.len; have := l5.len; omega)
   rw [if_pos ⟨hi,h4⟩,aC ti,aC (bc (Pp (by omega))),au (by rw [lnM]; simp only [ni,Bool.and_eq_true,decide_eq_true_eq]; omega),aq g3,ak,gi b1,cw b2,au (by rw [lnM]; simp only [ni,Bool.and_eq_true,decide_eq_true_eq]; omega),aq g6,ak,gi b3,cw b4,qA b5,au (by rw [lnM]; simp only [ni,Bool.and_eq_true,decide_eq_true_eq]; omega),aq g9,ak,gi b6,qA b7]
  ·rw [if_neg (fun h => h4 h.2),if_neg (fun h => other hi (by decide) h.1),if_neg (fun h => other hi (by decide) h.1),if_neg (fun h => other hi (by decide) h.1),aC ti,av (bg (Ou (by omega))),av td,av tf,av tl]
   rfl
 have ti : ax s ⟨#[105,102]⟩ = false := by cases e : ax s ⟨#[105,102]⟩ with | true => exact absurd e hi | false => rfl
 rw [if_neg (fun h => hi h.1),av ti]
 by_cases hd : ax s (mk [100,111]) = true
 ·have td : ax s ⟨#[100,111]⟩ = true := hd
  have tf : ax s ⟨#[102,110]⟩ = false := fq hd (by decide)
  have tl : ax s ⟨#[108,101,116]⟩ = false := fq hd (by decide)
  by_cases h2 : 2 <= xs.length
  ·have b1 := J2 hG hS he2 (hdl 1) (hdrop 1) hm
   rw [if_pos ⟨hd,h2⟩,aC td,lnM,aC (decide_eq_true (by simp only [ni]; omega)),<- lnM (f := eI),au (cut 1 (by omega) (by omega)),cutd1,lP b1]
  ·rw [if_neg (fun h => h2 h.2),if_neg (fun h => other hd (by decide) h.1),if_neg (fun h => other hd (by decide) h.1),aC td,av (decide_eq_false (by rw [lnM]; simp only [ni]; omega)),av tf,av tl]
   rfl
 have td : ax s ⟨#[100,111]⟩ = false := by cases e : ax s ⟨#[100,111]⟩ with | true => exact absurd e hd | false => rfl
 rw [if_neg (fun h => hd h.1),av td]
 by_cases hf : ax s (mk [102,110]) = true
 ·have tf : ax s ⟨#[102,110]⟩ = true := hf
  have tl : ax s ⟨#[108,101,116]⟩ = false := fq hf (by decide)
  by_cases h3 : 3 <= xs.length
  ·obtain ⟨g1,g2,g3⟩ := get 1 (by omega)
   have b1 := nJ hp (by omega) g1
   rw [if_pos ⟨hf,h3⟩,aC tf,aC (decide_eq_true (by rw [lnM]; simp only [ni]; omega)),au (by rw [lnM]; simp only [ni,Bool.and_eq_true,decide_eq_true_eq]; omega),aq g3,ak,jm b1]
   simp only
   cases hb : (gI p (xs.getD 1 0)).2 with
   | false => rw [if_pos rfl,Bool.not_false,am]; rfl
   | true =>
    have ll := tp (p := p) (xs.getD 1 0)
    obtain ⟨b2,b3⟩ := DF (p := p) m (xs := (gI p (xs.getD 1 0)).1) (by have := g1.2; omega) (wY hp g1)
    have l1 : Le m (jD m (eJ p (gI p (xs.getD 1 0)).1 m.how).2) := mw hm qu
    have b4 := Q6 hG hS (names := (eJ p (gI p (xs.getD 1 0)).1 m.how).1) (by have := g1.2; omega) he (hdl 2) (hdrop 2) l1.four
    rw [if_pos (rfl : true = true),if_neg (by decide : ¬ true = false),Bool.not_true,al,oG b2,au (cut 2 (by omega) (by omega)),cutd2,yw b4]
  ·rw [if_neg (fun h => h3 h.2),if_neg (fun h => other hf (by decide) h.1),aC tf,av (decide_eq_false (by rw [lnM]; simp only [ni]; omega)),av tl]
   rfl
 have tf : ax s ⟨#[102,110]⟩ = false := by cases e : ax s ⟨#[102,110]⟩ with | true => exact absurd e hf | false => rfl
 rw [if_neg (fun h => hf h.1),av tf]
 by_cases hl : ax s (mk [108,101,116]) = true
 ·have tl : ax s ⟨#[108,101,116]⟩ = true := hl
  by_cases h4 : 4 <= xs.length
  ·obtain ⟨g1,g2,g3⟩ := get 1 (by omega)
   obtain ⟨g4,g5,g6⟩ := get 2 (by omega)
   have ec : dk (jP (xs.map eI) 2) 1 = [xs.getD 1 0].map eI := by
    obtain ⟨g7,g8,g9⟩ := get 0 (by omega)
    match xs,h4 with
    | a :: b :: r,_ => rfl
   obtain ⟨b2,b3⟩ := DF (p := p) m (xs := [xs.getD 1 0]) (by simp) (fun x h => by rw [List.mem_singleton.1 h]; exact g1)
   have l1 : Le m (jD m (eJ p [xs.getD 1 0] m.how).2) := mw hm qu
   have b4 := Q6 hG hS (names := (eJ p [xs.getD 1 0] m.how).1) (by have : [xs.getD 1 0].length = 1 := rfl; omega) he (hdl 3) (hdrop 3) l1.four
   have l2 := JN hG (eJ p [xs.getD 1 0] m.how).1 (xs.drop 3) env l1.four
   have b5 := hS env (xs.getD 2 0) _ g4 g5 he2 l2.four
   have l3 := hG env (xs.getD 2 0) _ l2.four
   have b6 := iV (p := p) l3.four 7 0 1
   rw [if_pos ⟨hl,h4⟩,aC tl,aC (decide_eq_true (by rw [List.length_map]; simp only [ni]; omega)),au (by simp [bi]; omega),ec,oG b2,au (cut 3 (by omega) (by omega)),cutd3,yw b4,au (by rw [List.length_map]; simp only [ni,Bool.and_eq_true,decide_eq_true_eq]; omega),aq g6,ak,gi b5,cw b6]
  ·rw [if_neg (fun h => h4 h.2),aC tl,av (decide_eq_false (by rw [lnM]; simp only [ni]; omega))]
   rfl
 have tl : ax s ⟨#[108,101,116]⟩ = false := by cases e : ax s ⟨#[108,101,116]⟩ with | true => exact absurd e hl | false => rfl
 rw [if_neg (fun h => hl h.1),av tl]
 rfl
end
theorem D6 {p : List Nd} {v : Int} (h : (nod p v).kind = 5) : (gI p v).1 ≠ [] := by
 unfold gI qd
 rw [if_pos h]
 simp
theorem zW {p : List Nd} {k : Nat} {E : List (List ByteArray) -> Int -> Ms -> Ms} (hG : pa E) (hS : xJ p k E) {env : List (List ByteArray)} (he : tm env k) {xs : List Int} (hl : xs.length <= 100000) (hx : ∀ x ∈ xs,InP p x /\ x < (k : Int)) : ∀ (j i : Nat) (m : Ms),i + j = xs.length -> m.list.length <= 400 ->
  cN (eEs env) (i : Int) m.how (xs.map eI) (p.map eN) (m.list.map eIn) (m.defs.map eDf) = some (.tup [],[eMs p (dR ((xs.drop i).foldl (fun m x => E env x m) m) ⟨7,0,(xs.length : Int) - 1,⟨#[]⟩⟩)])
 | 0,i,m,hi,hm => by
  have b := iV (p := p) hm 7 0 ((xs.length : Int) - 1)
  rw [ku,lnM,av (dc (by omega)),List.drop_of_length_le (by omega),w64 (n := ni xs.length - 1) (by simp only [ni]; omega) (by simp only [ni]; omega)]
  show ac _ _ [_,.agg [_,_,.int .i64 ((xs.length : Int) - 1),_]] _ = _
  rw [cw b]
  rfl
 | j + 1,i,m,hi,hm => by
  obtain ⟨x,hg⟩ := aE (l := xs) (i := i) (by omega)
  obtain ⟨x1,x2⟩ := hx x (List.mem_of_getElem? hg)
  have a1 := hS env x m x1 x2 he hm
  have ih := zW hG hS he hl hx j (i + 1) (E env x m) (by omega) (hG env x m hm).four
  rw [ku,aC (by rw [lnM]; exact cm (by omega)),au (by rw [lnM]; exact bj (by omega)),Int.toNat_natCast,aq hg,ak,gi a1,dd (by omega),ih,cX hg,List.foldl_cons]
theorem Pd {p : List Nd} (hp : fa p) (hl : p.length < 100000) : ∀ k,k <= 100000 -> xJ p k (rE p k)
 | 0,hk,env,v,m,hv,hlt,he,hm => by have := hv.1; omega
 | k + 1,hk,env,v,m,hv,hlt,he,hm => by
  have ih := Pd hp hl k (by omega)
  have hG := nQ p k
  have he2 : tm env k := ⟨by have := he.1; omega,he.2⟩
  rw [Cg]
  unfold rE
  by_cases h0 : m.how = 0
  ·rw [av (pu h0),if_neg (fun h => h h0),IG hv]
   simp only
   have bl := iV (p := p) hm 1 v 0
   by_cases k1 : (nod p v).kind = 1
   ·rw [aC (bc k1),aC (bc k1),cw bl,if_pos (.inl k1)]
   rw [av (bg k1)]
   by_cases k2 : (nod p v).kind = 2
   ·rw [aC (bc k2),aC (bc k2),cw bl,if_pos (.inr (.inl k2))]
   rw [av (bg k2)]
   by_cases k3 : (nod p v).kind = 3
   ·rw [aC (bc k3),cw bl,if_pos (.inr (.inr k3))]
   rw [av (bg k3),if_neg (by omega)]
   by_cases k4 : (nod p v).kind = 4
   ·rw [aC (bc k4),if_pos k4,jO (IU _)]
    cases hr : IY (nod p v).s with
    | true => rw [am,if_pos rfl]; rfl
    | false =>
     have hw := RK (nod p v).s (env := env) (by have := he.1; omega) (fun e h => by have := he.2 e h; omega)
     rw [al,if_neg (by decide)]
     cases hvn : Mz (nod p v).s env 0 with
     | none =>
      rw [hvn] at hw
      have b := JX (p := p) hm ⟨3,0,0,(nod p v).s⟩
      rw [yi hw,av (decide_eq_false (by omega)),cw b]
     | some ni =>
      obtain ⟨n,i⟩ := ni
      rw [hvn] at hw
      have b := iV (p := p) hm 2 n i
      rw [yi hw,aC (decide_eq_true (by omega)),cw b]
   rw [av (bg k4),if_neg k4]
   by_cases k5 : (nod p v).kind = 5
   ·have b1 := nJ hp (by omega) hv
    rw [av (pu k5),if_neg (fun h => h k5),jm b1]
    cases hb : (gI p v).2 with
    | false => rw [if_pos rfl,Bool.not_false,am]; rfl
    | true =>
     have ll := tp (p := p) v
     have hne := D6 k5
     have hin := wY hp hv
     have hlt2 := Qw hp hv
     rw [if_pos (rfl : true = true),if_neg (by decide : ¬ true = false),Bool.not_true,al]
     generalize hxs : (gI p v).1 = xs at ll hne hin hlt2 ⊢
     have hx : ∀ x ∈ xs,InP p x /\ x < (k : Int) := fun x h => ⟨hin x h,by have := hlt2 x h; omega⟩
     obtain ⟨a,r,rfl⟩ : ∃ a r,xs = a :: r := by
      cases xs with
      | nil => exact absurd rfl hne
      | cons a r => exact ⟨a,r,rfl⟩
     have ha := hin a (by simp)
     have hcl := zW hG ih he2 (xs := a :: r) (by have := hv.2; omega) hx (a :: r).length 0 m (by omega) hm
     rw [Int.natCast_zero,List.drop_zero] at hcl
     rw [Cl,IG ha]
     simp only [List.getD_cons_zero]
     have fin : (br (decide (ni ((a :: r).map eI).length > 5)) (some (.tup [],[.op [.os (5,0) (p.map eN),.os (4,0) (m.list.map eIn),.os (3,0) (m.defs.map eDf),.int .i64 1]])) (cN (eEs env) 0 m.how ((a :: r).map eI) (p.map eN) (m.list.map eIn) (m.defs.map eDf))) = some (.tup [],[eMs p (if (a :: r).length > 5 then jD m 1 else dR ((a :: r).foldl (fun m x => rE p k env x m) m) ⟨7,0,((a :: r).length : Int) - 1,⟨#[]⟩⟩)]) := by
      rw [lnM]
      by_cases h5 : (a :: r).length > 5
      ·rw [aC (decide_eq_true (by simp only [ni]; omega)),if_pos h5]; rfl
      ·rw [av (decide_eq_false (by simp only [ni]; omega)),if_neg h5,hcl]
     by_cases ka : (nod p a).kind = 4
     ·rw [aC (bc ka),jO (IU _)]
      cases hr : IY (nod p a).s with
      | true =>
       have bf := RI hp hl hG ih he (xs := a :: r) (by simp) (by have := hv.2; omega) hx hm (nod p a).s
       rw [am,Gb bf,if_pos ⟨ka,rfl⟩]
      | false => rw [al,if_neg (fun h => by simp at h)]; exact fin
     ·rw [av (bg ka),if_neg (fun h => ka h.1)]; exact fin
   ·rw [aC (pi k5),if_pos k5]; rfl
  ·rw [aC (pi h0),if_pos h0]
end Go.Eng
/-! compiling: the reference's side: definitions,programs -/
namespace Go.Eng
open Go.Proofs Go.Proofs.Tryz
set_option maxHeartbeats 4000000

theorem Sj {R : Type} (x : Df) (K : ByteArray -> Option R) : (asAgg (eDf x) fun l => az l 0 fun y => asS y fun n => K n) = K x.name := rfl
theorem Rk {p : List Nd} (s : ByteArray) (names : List ByteArray) (body : List Int) {m : Ms} (h : m.list.length <= 400) : (u3 p s names body m).list.length <= 400 /\ m.list.length <= (u3 p s names body m).list.length /\ ((u3 p s names body m).how = 0 -> m.list.length < (u3 p s names body m).list.length) := by
 unfold u3
 have a1 := mn (E := o8 p) (fun env v m h => nQ p _ env v m h) [names] body true ⟨m.list,m.defs ++ [⟨s,m.list.length,names.length⟩],qV s m.defs m.how⟩ h
 have a2 := dH a1.four (inO 8)
 have a3 := a1.len
 have a4 := a2.len
 refine ⟨a2.four,by simp only at a3; omega,fun h0 => ?_⟩
 have h1 := a2.how h0
 have : (dR (ln (o8 p) [names] body true ⟨m.list,m.defs ++ [⟨s,m.list.length,names.length⟩],qV s m.defs m.how⟩) (inO 8)).list.length = (ln (o8 p) [names] body true ⟨m.list,m.defs ++ [⟨s,m.list.length,names.length⟩],qV s m.defs m.how⟩).list.length + 1 := by
  unfold dR at h0 ⊢
  rw [if_pos h1] at h0 ⊢
  split at h0
  ·simp at h0
  ·rename_i e; rw [if_neg e]; simp
 simp only at a3
 omega
theorem Sf {p : List Nd} (hp : fa p) (hl : p.length <= 5000) : xJ p p.length (o8 p) := fun env v m hv hlt he hm => by
 unfold o8
 exact Pd hp (by omega) (v.toNat + 1) (by omega) env v m hv (by have := hv.1; omega) ⟨by have := he.1; omega,he.2⟩ hm
theorem z3 {p : List Nd} (hp : fa p) (hl : p.length <= 5000) {s : ByteArray} {names : List ByteArray} (hn : names.length <= 10000) {body : List Int} (hbl : body.length <= 100000) (hb : ∀ x ∈ body,InP p x) {m : Ms} (hm : m.list.length <= 400) (hd : m.defs.length <= 1000000) : ∀ (k i : Nat) (h : Int),i + k = m.defs.length ->
  fk s (names.map D.str) (body.map eI) (i : Int) h (p.map eN) (m.list.map eIn) (m.defs.map eDf) = some (.tup [],[eMs p (dR (ln (o8 p) [names] body true ⟨m.list,m.defs ++ [⟨s,m.list.length,names.length⟩],qV s (m.defs.drop i) h⟩) (inO 8))])
 | k,i,h,hi => by
  have ea : m.defs.map eDf ++ [D.agg [D.str s,D.int .i64 (ni (m.list.map eIn).length),D.int .i64 (ni (names.map D.str).length)]] = (m.defs ++ [(⟨s,m.list.length,names.length⟩ : Df)]).map eDf := by
   rw [List.map_append,lnM,lnM]; rfl
  have hlim : decide (ni ((m.defs ++ [(⟨s,m.list.length,names.length⟩ : Df)]).map eDf).length <= LIM) = true := decide_eq_true (by rw [bh]; simp only [ni,lnM,lnA,lnC,lnN]; omega)
  have hG : pa (o8 p) := fun env v m h => nQ p _ env v m h
  have b1 : ∀ h' : Int,V 236 [eMs p ⟨m.list,m.defs ++ [(⟨s,m.list.length,names.length⟩ : Df)],h'⟩,.rs (1,0) (body.map eI),.rs (1,1) [.rs (1,0) (names.map D.str)]] = some (.tup [],[eMs p (ln (o8 p) [names] body true ⟨m.list,m.defs ++ [(⟨s,m.list.length,names.length⟩ : Df)],h'⟩)]) := fun h' => J2 (m := ⟨m.list,m.defs ++ [(⟨s,m.list.length,names.length⟩ : Df)],h'⟩) hG (Sf hp hl) (env := [names]) ⟨by simp; omega,fun e he => by rw [List.mem_singleton.1 he]; exact hn⟩ hbl (fun x h => ⟨hb x h,(hb x h).2⟩) hm
  have b2 := fun h' : Int => iV (p := p) (mn hG [names] body true ⟨m.list,m.defs ++ [(⟨s,m.list.length,names.length⟩ : Df)],h'⟩ hm).four 8 0 0
  rw [qT,ea]
  match k with
  | 0 =>
   rw [av (by rw [lnM]; exact dc (by omega)),List.drop_of_length_le (by omega),qV,au hlim,aU,lP (b1 h),cw (b2 h)]
  | k + 1 =>
   obtain ⟨d,hg⟩ := aE (l := m.defs) (i := i) (by omega)
   rw [aC (by rw [lnM]; exact cm (by omega)),cX hg,qV]
   by_cases h0 : h = 0
   ·have ih := fun h' => z3 hp hl (s := s) hn hbl hb hm hd k (i + 1) h' (by omega)
    rw [aC (bc h0),if_pos h0,au (by rw [lnM]; exact bj (by omega)),Int.toNat_natCast,aq hg,Sj,dd (by omega),ih,ih,h0]
    cases ax d.name s with
    | true => rw [am,if_pos rfl]
    | false => rw [al,if_neg (by decide)]
   ·rw [av (bg h0),if_neg h0,au hlim,aU,lP (b1 h),cw (b2 h)]
 termination_by k => k
theorem QV {p : List Nd} (hp : fa p) (hl : p.length <= 5000) (s : ByteArray) {names : List ByteArray} (hn : names.length <= 10000) {body : List Int} (hbl : body.length <= 100000) (hb : ∀ x ∈ body,InP p x) {m : Ms} (hm : m.list.length <= 400) (hd : m.defs.length <= 1000000) : V 229 [eMs p m,.str s,.rs (1,0) (names.map D.str),.rs (1,0) (body.map eI)] = some (.tup [],[eMs p (u3 p s names body m)]) := by
 have h := z3 hp hl (s := s) hn hbl hb hm hd m.defs.length 0 m.how (by omega)
 rw [xi]
 rw [Int.natCast_zero,List.drop_zero] at h
 exact h
theorem Og (l : List Int) (k : Nat) (K : Int) (hK : K.toNat = k) : part (l.map eI) (some (K.toNat,(l.map eI).length - K.toNat)) = (l.drop k).map eI := by
 rw [hK]
 simp only [part]
 rw [<- List.map_drop]
 exact List.take_of_length_le (by simp)
theorem RX {p : List Nd} (hp : fa p) (hl : p.length <= 5000) {v : Int} (hv : InP p v) {m : Ms} (hm : m.list.length <= 400) (hd : m.defs.length <= 1000000) : V 215 [eMs p m,.int .i64 v] = some (.tup [],[eMs p (yb p v m)]) := by
 have dm : V 229 [eMs p m,.str ⟨#[109,97,105,110]⟩,.rs (1,0) [],.rs (1,0) [.int .i64 v]] = some (.tup [],[eMs p (u3 p Ot [] [v] m)]) := QV hp hl Ot (names := []) (by simp) (body := [v]) (by simp) (fun x h => by rw [List.mem_singleton.1 h]; exact hv) hm hd
 rw [Eo,OC hv]
 unfold yb
 simp only
 by_cases k5 : (nod p v).kind = 5
 ·have b1 := nJ hp (by omega) hv
  rw [aC (bc k5),jm b1]
  cases hb : (gI p v).2 with
  | false => rw [if_neg (by decide : ¬ false = true),Bool.not_false,am,gD dm,if_neg (fun h => by simp at h)]
  | true =>
   have ll := tp (p := p) v
   have hne := D6 k5
   have hin := wY hp hv
   rw [if_pos (rfl : true = true),Bool.not_true,al]
   generalize hxs : (gI p v).1 = xs at ll hne hin ⊢
   obtain ⟨a,r,rfl⟩ : ∃ a r,xs = a :: r := by
    cases xs with
    | nil => exact absurd rfl hne
    | cons a r => exact ⟨a,r,rfl⟩
   have ha := hin a (by simp)
   have e2 := SC (R := Ret) (nod p a)
   rw [Cl,OC ha]
   simp only [List.getD_cons_zero]
   by_cases k4 : (nod p a).kind = 4
   ·rw [av (pu k4),Cl,au (Gx ha),aq (qH ha),e2]
    by_cases hs : ax (nod p a).s (mk [100,101,102,105,110,101]) = true
    ·have hs' : ax (nod p a).s ⟨#[100,101,102,105,110,101]⟩ = true := hs
     rw [hs',Bool.not_true,al,if_pos ⟨k5,trivial,k4,hs⟩]
     by_cases h3 : (a :: r).length < 3
     ·rw [aC (decide_eq_true (by rw [lnM]; simp only [ni]; omega)),if_pos (.inl h3)]; rfl
     ·rw [av (decide_eq_false (by rw [lnM]; simp only [ni]; omega))]
      obtain ⟨b,c,r,rfl⟩ : ∃ b c r',r = b :: c :: r' := by
       match r,h3 with
       | b :: c :: r',_ => exact ⟨b,c,r',rfl⟩
       | [],h => simp at h
       | [_],h => simp at h
      have hb1 := hin b (by simp)
      rw [Px,OC hb1]
      simp only [List.getD_cons_succ,List.getD_cons_zero]
      by_cases kb : (nod p b).kind = 5
      ·have b2 := nJ hp (by omega) hb1
       rw [av (pu kb),Px,if_neg (fun h => h.elim h3 (fun h => h kb)),jm b2]
       cases hbb : (gI p b).2 with
       | false => rw [if_neg (by decide : ¬ false = true),Bool.not_false,am,if_pos rfl]; rfl
       | true =>
        have l2 := tp (p := p) b
        have n2 := D6 kb
        have i2 := wY hp hb1
        rw [if_pos (rfl : true = true),Bool.not_true,al,if_neg (by decide : ¬ true = false)]
        generalize hys : (gI p b).1 = ys at l2 n2 i2 ⊢
        obtain ⟨f,q,rfl⟩ : ∃ f q,ys = f :: q := by
         cases ys with
         | nil => exact absurd rfl n2
         | cons f q => exact ⟨f,q,rfl⟩
        have hf := i2 f (by simp)
        have bn := PJ (p := p) m hf
        rw [Cl,wq bn]
        simp only [List.getD_cons_zero]
        cases hnm : nmC p f with
        | false => rw [Bool.not_false,am,if_pos rfl]; rfl
        | true =>
         have hq : ∀ x ∈ (f :: q).drop 1,InP p x := fun x h => i2 x (List.mem_of_mem_drop h)
         have hql : ((f :: q).drop 1).length <= 5001 := by have := hb1.2; rw [List.length_drop]; omega
         obtain ⟨b3,b4⟩ := DF (p := p) m (xs := (f :: q).drop 1) (by omega) hq
         have bd := QV hp hl (nod p f).s (names := (eJ p ((f :: q).drop 1) m.how).1) (by omega) (body := (a :: b :: c :: r).drop 2) (by have := hv.2; rw [List.length_drop]; omega) (fun x h => hin x (List.mem_of_mem_drop h)) (m := jD m (eJ p ((f :: q).drop 1) m.how).2) hm hd
         rw [Bool.not_true,al,if_neg (by decide : ¬ true = false),au (by simp [bi]; omega),Og _ 1 1 rfl,oG b3,au (by simp [bi]; omega),Og _ 2 2 rfl,gD bd]
      ·rw [aC (pi kb),if_pos (.inr kb)]; rfl
    ·have hs' : ax (nod p a).s ⟨#[100,101,102,105,110,101]⟩ = false := by cases e : ax (nod p a).s ⟨#[100,101,102,105,110,101]⟩ with | true => exact absurd e hs | false => rfl
     rw [hs',Bool.not_false,am,gD dm,if_neg (fun h => hs h.2.2.2)]
   ·rw [aC (pi k4),gD dm,if_neg (fun h => k4 h.2.2.1)]
 ·rw [av (bg k5),gD dm,if_neg (fun h => k5 h.1)]
end Go.Eng
