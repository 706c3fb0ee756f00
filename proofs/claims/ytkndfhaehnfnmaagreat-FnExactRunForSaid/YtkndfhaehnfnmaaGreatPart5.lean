/- the program and the reference on plain data, part 5 -/
import Derived.Test.YtkndfhaehnfnmaaGreatPart3
import Derived.Test.YtkndfhaehnfnmaaGreatPart4
/-! marks,equality,sizes and copies of nodes and numbers -/
namespace Go.Eng
open Go.Proofs Go.Proofs.Tryz
set_option maxHeartbeats 4000000

theorem rt : ∀ (n : Nat) (p : Int) (s : ByteArray),0 ≤ p → p < 4611686018427387904 → p < 10 ^ n → s.size + n + 1 ≤ 1000 → ∃ t,gc p s = some (.str t,[])
  | 0,p,s,h0,hp,h1,hs => by
    rw [gp,ah (decide_eq_false (by simp at h1; omega)),av (decide_eq_true (by rw [cU]; simp only [ni,show ByteArray.size { data := #[109] } = 1 from rfl]; omega))]
    exact ⟨_,rfl⟩
  | n + 1,p,s,h0,hp,h1,hs => by
    by_cases h : p > 0
    · have ht : 0 ≤ Int.tmod p 10 ∧ Int.tmod p 10 < 10 := ⟨Int.tmod_nonneg _ h0,Int.tmod_lt_of_pos _ (by omega)⟩
      have hd : Int.tdiv p 10 = p / 10 := Int.tdiv_eq_ediv_of_nonneg h0
      rw [gp,ap (decide_eq_true h),av (by decide)]
      rw [Jt]
      rw [av (decide_eq_true (by rw [cU,ak]; simp only [ni,List.length_cons,List.length_nil]; omega)),av (by decide),hd,w64 (n := p / 10) (by omega) (by omega)]
      refine rt n _ _ (by omega) (by omega) ?_ ?_
      · rw [Int.pow_succ] at h1; omega
      · rw [ByteArray.size_append,ak]; simp only [List.length_cons,List.length_nil]; omega
    · rw [gp,ah (decide_eq_false h),av (decide_eq_true (by rw [cU]; simp only [ni,show ByteArray.size { data := #[109] } = 1 from rfl]; omega))]
      exact ⟨_,rfl⟩
theorem yZ {p : Int} (h1 : p < 4611686018427387904) : ∃ t,V 121 [.int .i64 p] = some (.str t,[]) := by
  rw [wV]
  by_cases h : p ≤ 0
  · rw [ap (decide_eq_true h)]; exact ⟨_,rfl⟩
  · rw [ah (decide_eq_false h)]
    exact rt 20 p _ (by omega) h1 (by omega) (by simp [show ByteArray.size { data := #[] } = 0 from rfl])
noncomputable def mt (p : Int) : ByteArray := match V 121 [.int .i64 p] with | some (.str t,[]) => t | _ => ⟨#[]⟩
theorem Qa {p : Int} (h1 : p < 4611686018427387904) : V 121 [.int .i64 p] = some (.str (mt p),[]) := by
  obtain ⟨t,ht⟩ := yZ h1
  simp only [mt,ht]

theorem dP {A r : List D} {x : D} {i : Nat} (h : A.length = i) (K : D → Option Ret) : am (A ++ x :: r) i K = K x := by
  subst h; simp [am]
theorem dL {A r : List D} {x y : D} {i : Nat} (h : A.length = i) : List.set (A ++ x :: r) i y = A ++ y :: r := by
  subst h; simp
noncomputable def b9 {α : Type} (f : Int → α) (w : Int) (c : Int) (n : Nat) : List α := (List.range n).map fun i : Nat => f (c + w * (i : Int))
theorem cz {α : Type} (f : Int → α) (w c : Int) (n : Nat) : (b9 f w c n).length = n := by simp [b9]
theorem I9 {α : Type} (f : Int → α) (w c : Int) {n i : Nat} (h : i < n) : (b9 f w c n)[i]? = some (f (c + w * (i : Int))) := by
  simp only [b9,List.getElem?_map,List.getElem?_range h,Option.map_some]
theorem ED {α : Type} (f : Int → α) (w c : Int) (n : Nat) : b9 f w c (n + 1) = b9 f w c n ++ [f (c + w * (n : Int))] := by
  simp [b9,List.range_succ]
theorem sp {α : Type} (enc : α → D) {M l : List α} {i : Nat} {x : α} (hM : M.length = i) (hx : l[i]? = some x) : (M ++ l.drop i).map enc = M.map enc ++ enc x :: (l.drop (i + 1)).map enc := by
  rw [iz hx]; simp
theorem uc {α : Type} (enc : α → D) (f : Int → α) (w c : Int) {l : List α} {i : Nat} : (b9 f w c i).map enc ++ enc (f (c + w * (i : Int))) :: (l.drop (i + 1)).map enc = (b9 f w c (i + 1) ++ l.drop (i + 1)).map enc := by
  rw [ED]; simp

noncomputable def pk (k : Int) : Nd := ⟨k,k + 1,mt (k + 2),k + 3,k + 4⟩
theorem yO {l : List Nd} {c : Int} (h0 : 0 ≤ c) (h1 : c < 1152921504606846976) (h2 : l.length < 115292150460684697) : ∀ (k i : Nat),i + k = l.length → fu (c + 5 * (i : Int)) (i : Int) ((b9 pk 5 c i ++ l.drop i).map eN) = some (.int .i64 (c + 5 * (l.length : Int)),[.os (5,0) ((b9 pk 5 c l.length).map eN)])
  | 0,i,hi => by
    have : i = l.length := by omega
    subst this
    rw [jC,List.drop_length,List.append_nil,List.length_map,cz]
    simp (disch := first | omega | (simp only [List.length_append,List.length_cons,List.length_nil,List.length_map,ak,aa]; omega)) only [↓ae,cJ,aa]
  | k + 1,i,hi => by
    obtain ⟨x,hx⟩ := aA (l := l) (i := i) (by omega)
    have ih := yO h0 h1 h2 k (i + 1) (by omega)
    have hA : ((b9 pk 5 c i).map eN).length = i := by rw [List.length_map,cz]
    have hj := uc eN pk 5 c (l := l) (i := i)
    have hw : IntKind.wrap IntKind.i64 ((i : Int) + 1) = ((i + 1 : Nat) : Int) := dG (by omega)
    have hc : c + 5 * ((i + 1 : Nat) : Int) = c + 5 * (i : Int) + 5 := by omega
    have hl1 : ∀ y : D,((b9 pk 5 c i).map eN ++ y :: (l.drop (i + 1)).map eN).length = l.length := by
      intro y
      rw [List.length_append,hA,List.length_cons,List.length_map,List.length_drop]; omega
    have hg : (decide (0 ≤ (i : Int)) && decide ((i : Int) < ni l.length)) = true := bG (by omega)
    have w1 : IntKind.wrap IntKind.i64 (c + 5 * (i : Int) + 1) = c + 5 * (i : Int) + 1 := w64 (by omega) (by omega)
    have w2 : IntKind.wrap IntKind.i64 (c + 5 * (i : Int) + 1 + 1) = c + 5 * (i : Int) + 2 := by rw [w64 (by omega) (by omega)]; omega
    have w3 : IntKind.wrap IntKind.i64 (c + 5 * (i : Int) + 2 + 1) = c + 5 * (i : Int) + 3 := by rw [w64 (by omega) (by omega)]; omega
    have w4 : IntKind.wrap IntKind.i64 (c + 5 * (i : Int) + 3 + 1) = c + 5 * (i : Int) + 4 := by rw [w64 (by omega) (by omega)]; omega
    have w5 : IntKind.wrap IntKind.i64 (c + 5 * (i : Int) + 4 + 1) = c + 5 * ((i + 1 : Nat) : Int) := by rw [w64 (by omega) (by omega)]; omega
    have hm := Qa (p := c + 5 * (i : Int) + 2) (by omega)
    have e1 : D.agg (List.take 4 (List.take 3 (List.take 2 (List.take 1 (List.take 0 [D.int .i64 x.kind,.int .i64 x.n,.str x.s,.int .i64 x.a,.int .i64 x.b] ++ [D.int .i64 (c + 5 * (i : Int))] ++ List.drop 1 [D.int .i64 x.kind,.int .i64 x.n,.str x.s,.int .i64 x.a,.int .i64 x.b]) ++ [D.int .i64 (c + 5 * (i : Int) + 1)] ++ List.drop 2 (List.take 0 [D.int .i64 x.kind,.int .i64 x.n,.str x.s,.int .i64 x.a,.int .i64 x.b] ++ [D.int .i64 (c + 5 * (i : Int))] ++ List.drop 1 [D.int .i64 x.kind,.int .i64 x.n,.str x.s,.int .i64 x.a,.int .i64 x.b])) ++ [D.str (mt (c + 5 * (i : Int) + 2))] ++ [D.int .i64 x.a,D.int .i64 x.b]) ++ [D.int .i64 (c + 5 * (i : Int) + 3)] ++ [D.int .i64 x.b]) ++ [D.int .i64 (c + 5 * (i : Int) + 4)] ++ []) = eN (pk (c + 5 * (i : Int))) := rfl
    rw [jC,sp eN (cz pk 5 c i) hx,hl1,ap (ez (by omega)),av hg,Int.toNat_natCast,dP hA,au,be,dL hA,hl1,av hg,dP hA,au,be,dL hA,w1,w2,ai hm,a9,aq,hl1,av hg,dP hA,au,be,dL hA,w3,hl1,av hg,dP hA,au,be,dL hA,w4,hl1,av hg,dP hA,au,be,dL hA,w5,hw]
    refine Eq.trans ?_ ih
    rw [← hj]
    rfl
theorem PW {l : List Nd} {c : Int} (h0 : 0 ≤ c) (h1 : c < 1152921504606846976) (h2 : l.length < 115292150460684697) : V 169 [.os (5,0) (l.map eN),.int .i64 c] = some (.int .i64 (c + 5 * (l.length : Int)),[.os (5,0) ((b9 pk 5 c l.length).map eN)]) := by
  have h := yO h0 h1 h2 l.length 0 (Nat.zero_add _)
  rw [show c + 5 * ((0 : Nat) : Int) = c by omega,Int.natCast_zero,show b9 pk 5 c 0 = [] from rfl,List.nil_append,List.drop_zero] at h
  rw [wg]
  exact h
theorem yu {n : Nat} {c : Int} (h0 : 0 ≤ c) (h1 : c < 1152921504606846976) (h2 : n < 115292150460684697) : ∀ (k i : Nat),i + k = n → fw ((b9 pk 5 c n).map eN) (c + 5 * (i : Int)) (i : Int) = some (.int .i64 (c + 5 * (n : Int)),[])
  | 0,i,hi => by
    have : i = n := by omega
    subst this
    rw [jF,List.length_map,cz]
    simp (disch := first | omega | (simp only [List.length_append,List.length_cons,List.length_nil,List.length_map,ak,aa]; omega)) only [↓ae,cJ,aa]
  | k + 1,i,hi => by
    have hx := I9 pk 5 c (n := n) (i := i) (by omega)
    have ih := yu h0 h1 h2 k (i + 1) (by omega)
    have hw : IntKind.wrap IntKind.i64 ((i : Int) + 1) = ((i + 1 : Nat) : Int) := dG (by omega)
    have w1 : IntKind.wrap IntKind.i64 (c + 5 * (i : Int) + 1) = c + 5 * (i : Int) + 1 := w64 (by omega) (by omega)
    have w2 : IntKind.wrap IntKind.i64 (c + 5 * (i : Int) + 1 + 1) = c + 5 * (i : Int) + 2 := by rw [w64 (by omega) (by omega)]; omega
    have w3 : IntKind.wrap IntKind.i64 (c + 5 * (i : Int) + 2 + 1) = c + 5 * (i : Int) + 3 := by rw [w64 (by omega) (by omega)]; omega
    have w4 : IntKind.wrap IntKind.i64 (c + 5 * (i : Int) + 3 + 1) = c + 5 * (i : Int) + 4 := by rw [w64 (by omega) (by omega)]; omega
    have w5 : IntKind.wrap IntKind.i64 (c + 5 * (i : Int) + 4 + 1) = c + 5 * ((i + 1 : Nat) : Int) := by rw [w64 (by omega) (by omega)]; omega
    have hm := Qa (p := c + 5 * (i : Int) + 2) (by omega)
    have hs : aQ (mt (c + 5 * (i : Int) + 2)) (mt (c + 5 * (i : Int) + 2)) = true := by rw [ep]; simp
    have hl1 : ((b9 pk 5 c n).map eN).length = n := by rw [List.length_map,cz]
    rw [jF,hl1]
    simp only [w1,w2,w3,w4,w5]
    simp (disch := first | omega | (simp only [List.length_append,List.length_cons,List.length_nil,List.length_map,ak,aa]; omega)) only [↓af,aj,↓ar,↓ae,↓aH,↓aq,↓ax,↓a9,↓au,↓cy,↓dq,↓dm,↓fk,↓AY,cy,dq,dm,fk,AY,↓aR,ba,cq,Bool.and_true,Bool.not_true,aa,↓al hx,pk,hm,hs,hw,ih]
theorem PH {n : Nat} {c : Int} (h0 : 0 ≤ c) (h1 : c < 1152921504606846976) (h2 : n < 115292150460684697) : V 170 [.rs (5,0) ((b9 pk 5 c n).map eN),.int .i64 c] = some (.int .i64 (c + 5 * (n : Int)),[]) := by
  have h := yu h0 h1 h2 n 0 (Nat.zero_add _)
  rw [show c + 5 * ((0 : Nat) : Int) = c by omega,Int.natCast_zero] at h
  rw [wu]
  exact h
theorem xf {l : List Nd} {c : Int} (h0 : 0 ≤ c) (h1 : c < 1152921504606846976) (h2 : l.length < 115292150460684697) : V 108 [oP l,.int .i64 c] = some (.int .i64 (c + 5 * (l.length : Int)),[oP (b9 pk 5 c l.length)]) := by
  rw [yE]
  simp (disch := first | omega | (simp only [List.length_append,List.length_cons,List.length_nil,List.length_map,ak,aa]; omega)) only [↓af,aj,↓aq,↓aF,↓ax,↓da,PW (l := l) h0 h1 h2]
theorem JO {n : Nat} {c : Int} (h0 : 0 ≤ c) (h1 : c < 1152921504606846976) (h2 : n < 115292150460684697) : V 111 [eP (b9 pk 5 c n),.int .i64 c] = some (.int .i64 (c + 5 * (n : Int)),[]) := by
  rw [xI]
  simp (disch := first | omega | (simp only [List.length_append,List.length_cons,List.length_nil,List.length_map,ak,aa]; omega)) only [↓af,aj,↓ae,↓aq,↓ax,cJ,PH (n := n) h0 h1 h2]
theorem Nn (x : Nd) : V 200 [eN x,eN x] = some (.bool true,[]) := by
  have hs : aQ x.s x.s = true := by rw [ep]; simp
  rw [Dm]
  simp (disch := first | omega | (simp only [List.length_append,List.length_cons,List.length_nil,List.length_map,ak,aa]; omega)) only [↓ae,cq,Bool.not_true,hs]
theorem Ip {l : List Nd} (hl : l.length < 4611686018427387904) : ∀ (k i : Nat),i + k = l.length → gH (l.map eN) (l.map eN) (i : Int) = some (.bool true,[])
  | 0,i,hi => by rw [ln]; simp (disch := first | omega | (simp only [List.length_append,List.length_cons,List.length_nil,List.length_map,ak,aa]; omega)) only [↓ae,cJ,List.length_map,aa]
  | k + 1,i,hi => by
    obtain ⟨x,hx⟩ := aA (l := l) (i := i) (by omega)
    have ih := Ip hl k (i + 1) (by omega)
    have hw : IntKind.wrap IntKind.i64 ((i : Int) + 1) = ((i + 1 : Nat) : Int) := dG (by omega)
    rw [ln]
    simp (disch := first | omega | (simp only [List.length_append,List.length_cons,List.length_nil,List.length_map,ak,aa]; omega)) only [↓af,aj,↓ar,↓ae,↓aH,↓aq,↓aF,↓ax,↓aw,↓a9,↓au,↓aR,ba,Bool.and_true,Bool.not_true,List.length_map,aa,↓al hx,Nn x,hw,ih]
theorem FX {l : List Nd} (hl : l.length < 4611686018427387904) : V 105 [eP l,eP l] = some (.bool true,[]) := by
  have h := Ip hl l.length 0 (Nat.zero_add _)
  rw [Int.natCast_zero] at h
  have h2 : V 166 [.rs (5,0) (l.map eN),.rs (5,0) (l.map eN)] = some (.bool true,[]) := by
    rw [zn]
    simp (disch := first | omega | (simp only [List.length_append,List.length_cons,List.length_nil,List.length_map,ak,aa]; omega)) only [↓ae,cq,List.length_map,aa,h]
  rw [BH]
  simp (disch := first | omega | (simp only [List.length_append,List.length_cons,List.length_nil,List.length_map,ak,aa]; omega)) only [↓af,aj,↓ae,↓aq,↓aw,Bool.not_true,h2]
end Go.Eng
/-! sizes,copies and equality of what a law's arguments hold -/
namespace Go.Eng
open Go.Proofs Go.Proofs.Tryz
set_option maxHeartbeats 4000000

theorem Ny (x : In) : V 167 [eIn x,eIn x] = some (.bool true,[]) := by
  have hs : aQ x.s x.s = true := by rw [ep]; simp
  rw [zb]
  simp (disch := first | omega | (simp only [List.length_append,List.length_cons,List.length_nil,List.length_map,ak,aa]; omega)) only [↓ae,cq,Bool.not_true,hs]
theorem ML (x : Df) : V 168 [eDf x,eDf x] = some (.bool true,[]) := by
  have hs : aQ x.name x.name = true := by rw [ep]; simp
  rw [Fw]
  simp (disch := first | omega | (simp only [List.length_append,List.length_cons,List.length_nil,List.length_map,ak,aa]; omega)) only [↓ae,cq,Bool.not_true,hs]

theorem vL {l : List Nd} (hl : l.length < 4611686018427387904) (Z : D) : ∀ (k i : Nat),i + k = l.length → gI (l.map eN) (i : Int) ((l.take i).map eN ++ List.replicate k Z) = some (.os (5,0) (l.map eN),[])
  | 0,i,hi => by
    have : i = l.length := by omega
    subst this
    rw [kV,List.take_length,List.replicate_zero,List.append_nil]
    simp (disch := first | omega | (simp only [List.length_append,List.length_cons,List.length_nil,List.length_map,ak,aa]; omega)) only [↓ae,cJ,List.length_map,aa]
  | k + 1,i,hi => by
    obtain ⟨x,hx⟩ := aA (l := l) (i := i) (by omega)
    have ih := vL hl Z k (i + 1) (by omega)
    have hA : ((l.take i).map eN).length = i := by rw [List.length_map,List.length_take]; omega
    have hw : IntKind.wrap IntKind.i64 ((i : Int) + 1) = ((i + 1 : Nat) : Int) := dG (by omega)
    have hto : V 199 [eN x] = some (eN x,[]) := by rw [Ct]
    have hj : (l.take i).map eN ++ eN x :: List.replicate k Z = (l.take (i + 1)).map eN ++ List.replicate k Z := by rw [ww hx]; simp
    rw [kV,List.replicate_succ]
    simp (disch := first | omega | (simp only [List.length_append,List.length_cons,List.length_nil,List.length_map,ak,aa]; omega)) only [↓af,aj,↓ar,↓aH,↓aq,↓aF,↓ax,↓a9,↓au,↓be,↓aR,ba,Bool.and_true,List.length_map,List.length_append,List.length_cons,aa,↓al hx,hto,↓dP hA,dL hA,List.length_take,List.length_replicate,Int.toNat_natCast,hw,hj,ih]
theorem ME {l : List Nd} (hl : l.length ≤ 4294967296) : V 163 [.rs (5,0) (l.map eN)] = some (.os (5,0) (l.map eN),[]) := by
  have h := vL (l := l) (by omega) (eN ⟨0,0,⟨#[]⟩,0,0⟩) l.length 0 (Nat.zero_add _)
  rw [Int.natCast_zero,List.take_zero,List.map_nil,List.nil_append] at h
  rw [zr]
  simp (disch := first | omega | (simp only [List.length_append,List.length_cons,List.length_nil,List.length_map,ak,aa]; omega)) only [↓aH,ba,Bool.and_true,List.length_map,cU,aa,Int.toNat_natCast]
  exact h
theorem vP {l : List Nd} (hl : l.length < 4611686018427387904) (hs : ∀ x ∈ l,x.s.size < 4611686018427387904) : ∀ (k i : Nat) (left : Int),i + k = l.length → 0 ≤ left → left ≤ 4611686018427387904 → ∃ n : Int,gE (l.map eN) left (i : Int) = some (.int .i64 n,[]) ∧ n ≤ left
  | 0,i,left,hi,h0,h1 => by
    refine ⟨left,?_,Int.le_refl _⟩
    rw [gJ]
    simp (disch := first | omega | (simp only [List.length_append,List.length_cons,List.length_nil,List.length_map,ak,aa]; omega)) only [↓ae,cJ,List.length_map,aa]
  | k + 1,i,left,hi,h0,h1 => by
    obtain ⟨x,hx⟩ := aA (l := l) (i := i) (by omega)
    have hsx := hs x (List.mem_of_getElem? hx)
    have hw : IntKind.wrap IntKind.i64 ((i : Int) + 1) = ((i + 1 : Nat) : Int) := dG (by omega)
    have hsz : V 198 [eN x,.int .i64 left] = some (.int .i64 (if left - x.s.size < 0 then -1 else left - x.s.size),[]) := by
      rw [CU]
      by_cases h : left - (x.s.size : Int) < 0
      · rw [if_pos h]; simp (disch := first | omega | (simp only [List.length_append,List.length_cons,List.length_nil,List.length_map,ak,aa]; omega)) only [↓ar,ba,wS,aa]
      · rw [if_neg h]; simp (disch := first | omega | (simp only [List.length_append,List.length_cons,List.length_nil,List.length_map,ak,aa]; omega)) only [↓ae,cJ,wS,aa]
    by_cases h : left - (x.s.size : Int) < 0
    · rw [if_pos h] at hsz
      refine ⟨-1,?_,by omega⟩
      rw [gJ]
      simp (disch := first | omega | (simp only [List.length_append,List.length_cons,List.length_nil,List.length_map,ak,aa]; omega)) only [↓af,aj,↓ar,↓aH,↓aq,↓aF,↓ax,↓a9,↓au,↓aR,ba,Bool.and_true,List.length_map,aa,↓al hx,hsz]
    · rw [if_neg h] at hsz
      obtain ⟨n,hn,hle⟩ := vP hl hs k (i + 1) (left - x.s.size) (by omega) (by omega) (by omega)
      refine ⟨n,?_,by omega⟩
      rw [gJ]
      simp (disch := first | omega | (simp only [List.length_append,List.length_cons,List.length_nil,List.length_map,ak,aa]; omega)) only [↓af,aj,↓ar,↓ae,↓aH,↓aq,↓aF,↓ax,↓a9,↓au,↓aR,ba,cJ,Bool.and_true,List.length_map,aa,↓al hx,hsz,hw,hn]
theorem Mr {l : List Nd} (hl : l.length < 4611686018427387904) (hs : ∀ x ∈ l,x.s.size < 4611686018427387904) {left : Int} (h0 : 0 ≤ left) (h1 : left ≤ 4611686018427387904) : ∃ n : Int,V 159 [.rs (5,0) (l.map eN),.int .i64 left] = some (.int .i64 n,[]) ∧ n ≤ left ∧ (0 ≤ n → (l.length : Int) ≤ left) := by
  by_cases h : left - (l.length : Int) < 0
  · refine ⟨-1,?_,by omega,by omega⟩
    rw [rq]
    simp (disch := first | omega | (simp only [List.length_append,List.length_cons,List.length_nil,List.length_map,ak,aa]; omega)) only [↓ar,ba,List.length_map,wS,aa]
  · obtain ⟨n,hn,hle⟩ := vP hl hs l.length 0 (left - l.length) (Nat.zero_add _) (by omega) (by omega)
    rw [Int.natCast_zero] at hn
    refine ⟨n,?_,by omega,by omega⟩
    rw [rq]
    simp (disch := first | omega | (simp only [List.length_append,List.length_cons,List.length_nil,List.length_map,ak,aa]; omega)) only [↓ae,cJ,List.length_map,wS,aa,hn]

theorem sY {l : List In} (hl : l.length < 4611686018427387904) (Z : D) : ∀ (k i : Nat),i + k = l.length → gk (l.map eIn) (i : Int) ((l.take i).map eIn ++ List.replicate k Z) = some (.os (4,0) (l.map eIn),[])
  | 0,i,hi => by
    have : i = l.length := by omega
    subst this
    rw [j4,List.take_length,List.replicate_zero,List.append_nil]
    simp (disch := first | omega | (simp only [List.length_append,List.length_cons,List.length_nil,List.length_map,ak,aa]; omega)) only [↓ae,cJ,List.length_map,aa]
  | k + 1,i,hi => by
    obtain ⟨x,hx⟩ := aA (l := l) (i := i) (by omega)
    have ih := sY hl Z k (i + 1) (by omega)
    have hA : ((l.take i).map eIn).length = i := by rw [List.length_map,List.length_take]; omega
    have hw : IntKind.wrap IntKind.i64 ((i : Int) + 1) = ((i + 1 : Nat) : Int) := dG (by omega)
    have hto : V 164 [eIn x] = some (eIn x,[]) := by rw [zf]
    have hj : (l.take i).map eIn ++ eIn x :: List.replicate k Z = (l.take (i + 1)).map eIn ++ List.replicate k Z := by rw [ww hx]; simp
    rw [j4,List.replicate_succ]
    simp (disch := first | omega | (simp only [List.length_append,List.length_cons,List.length_nil,List.length_map,ak,aa]; omega)) only [↓af,aj,↓ar,↓aH,↓aq,↓aF,↓ax,↓a9,↓au,↓be,↓aR,ba,Bool.and_true,List.length_map,List.length_append,List.length_cons,aa,↓al hx,hto,↓dP hA,dL hA,List.length_take,List.length_replicate,Int.toNat_natCast,hw,hj,ih]
theorem KG {l : List In} (hl : l.length ≤ 4294967296) : V 103 [.rs (4,0) (l.map eIn)] = some (.os (4,0) (l.map eIn),[]) := by
  have h := sY (l := l) (by omega) (eIn ⟨0,0,0,⟨#[]⟩⟩) l.length 0 (Nat.zero_add _)
  rw [Int.natCast_zero,List.take_zero,List.map_nil,List.nil_append] at h
  rw [w9]
  simp (disch := first | omega | (simp only [List.length_append,List.length_cons,List.length_nil,List.length_map,ak,aa]; omega)) only [↓aH,ba,Bool.and_true,List.length_map,cU,aa,Int.toNat_natCast]
  exact h
theorem tE {l : List In} (hl : l.length < 4611686018427387904) (hs : ∀ x ∈ l,x.s.size < 4611686018427387904) : ∀ (k i : Nat) (left : Int),i + k = l.length → 0 ≤ left → left ≤ 4611686018427387904 → ∃ n : Int,gj (l.map eIn) left (i : Int) = some (.int .i64 n,[]) ∧ n ≤ left
  | 0,i,left,hi,h0,h1 => by
    refine ⟨left,?_,Int.le_refl _⟩
    rw [gr]
    simp (disch := first | omega | (simp only [List.length_append,List.length_cons,List.length_nil,List.length_map,ak,aa]; omega)) only [↓ae,cJ,List.length_map,aa]
  | k + 1,i,left,hi,h0,h1 => by
    obtain ⟨x,hx⟩ := aA (l := l) (i := i) (by omega)
    have hsx := hs x (List.mem_of_getElem? hx)
    have hw : IntKind.wrap IntKind.i64 ((i : Int) + 1) = ((i + 1 : Nat) : Int) := dG (by omega)
    have hsz : V 160 [eIn x,.int .i64 left] = some (.int .i64 (if left - x.s.size < 0 then -1 else left - x.s.size),[]) := by
      rw [zw]
      by_cases h : left - (x.s.size : Int) < 0
      · rw [if_pos h]; simp (disch := first | omega | (simp only [List.length_append,List.length_cons,List.length_nil,List.length_map,ak,aa]; omega)) only [↓ar,ba,wS,aa]
      · rw [if_neg h]; simp (disch := first | omega | (simp only [List.length_append,List.length_cons,List.length_nil,List.length_map,ak,aa]; omega)) only [↓ae,cJ,wS,aa]
    by_cases h : left - (x.s.size : Int) < 0
    · rw [if_pos h] at hsz
      refine ⟨-1,?_,by omega⟩
      rw [gr]
      simp (disch := first | omega | (simp only [List.length_append,List.length_cons,List.length_nil,List.length_map,ak,aa]; omega)) only [↓af,aj,↓ar,↓aH,↓aq,↓aF,↓ax,↓a9,↓au,↓aR,ba,Bool.and_true,List.length_map,aa,↓al hx,hsz]
    · rw [if_neg h] at hsz
      obtain ⟨n,hn,hle⟩ := tE hl hs k (i + 1) (left - x.s.size) (by omega) (by omega) (by omega)
      refine ⟨n,?_,by omega⟩
      rw [gr]
      simp (disch := first | omega | (simp only [List.length_append,List.length_cons,List.length_nil,List.length_map,ak,aa]; omega)) only [↓af,aj,↓ar,↓ae,↓aH,↓aq,↓aF,↓ax,↓a9,↓au,↓aR,ba,cJ,Bool.and_true,List.length_map,aa,↓al hx,hsz,hw,hn]
theorem Kx {l : List In} (hl : l.length < 4611686018427387904) (hs : ∀ x ∈ l,x.s.size < 4611686018427387904) {left : Int} (h0 : 0 ≤ left) (h1 : left ≤ 4611686018427387904) : ∃ n : Int,V 99 [.rs (4,0) (l.map eIn),.int .i64 left] = some (.int .i64 n,[]) ∧ n ≤ left ∧ (0 ≤ n → (l.length : Int) ≤ left) := by
  by_cases h : left - (l.length : Int) < 0
  · refine ⟨-1,?_,by omega,by omega⟩
    rw [qC]
    simp (disch := first | omega | (simp only [List.length_append,List.length_cons,List.length_nil,List.length_map,ak,aa]; omega)) only [↓ar,ba,List.length_map,wS,aa]
  · obtain ⟨n,hn,hle⟩ := tE hl hs l.length 0 (left - l.length) (Nat.zero_add _) (by omega) (by omega)
    rw [Int.natCast_zero] at hn
    refine ⟨n,?_,by omega,by omega⟩
    rw [qC]
    simp (disch := first | omega | (simp only [List.length_append,List.length_cons,List.length_nil,List.length_map,ak,aa]; omega)) only [↓ae,cJ,List.length_map,wS,aa,hn]
theorem th {l : List In} (hl : l.length < 4611686018427387904) : ∀ (k i : Nat),i + k = l.length → gb (l.map eIn) (l.map eIn) (i : Int) = some (.bool true,[])
  | 0,i,hi => by rw [j2]; simp (disch := first | omega | (simp only [List.length_append,List.length_cons,List.length_nil,List.length_map,ak,aa]; omega)) only [↓ae,cJ,List.length_map,aa]
  | k + 1,i,hi => by
    obtain ⟨x,hx⟩ := aA (l := l) (i := i) (by omega)
    have ih := th hl k (i + 1) (by omega)
    have hw : IntKind.wrap IntKind.i64 ((i : Int) + 1) = ((i + 1 : Nat) : Int) := dG (by omega)
    have hr := Ny x
    rw [j2]
    simp (disch := first | omega | (simp only [List.length_append,List.length_cons,List.length_nil,List.length_map,ak,aa]; omega)) only [↓af,aj,↓ar,↓ae,↓aH,↓aq,↓aF,↓ax,↓aw,↓a9,↓au,↓aR,ba,Bool.and_true,Bool.not_true,List.length_map,aa,↓al hx,hr,hw,ih]
theorem JS {l : List In} (hl : l.length < 4611686018427387904) : V 106 [.rs (4,0) (l.map eIn),.rs (4,0) (l.map eIn)] = some (.bool true,[]) := by
  have h := th hl l.length 0 (Nat.zero_add _)
  rw [Int.natCast_zero] at h
  rw [yq]
  simp (disch := first | omega | (simp only [List.length_append,List.length_cons,List.length_nil,List.length_map,ak,aa]; omega)) only [↓ae,cq,List.length_map,aa,h]

theorem yB {l : List Df} (hl : l.length < 4611686018427387904) (Z : D) : ∀ (k i : Nat),i + k = l.length → iG (l.map eDf) (i : Int) ((l.take i).map eDf ++ List.replicate k Z) = some (.os (3,0) (l.map eDf),[])
  | 0,i,hi => by
    have : i = l.length := by omega
    subst this
    rw [lF,List.take_length,List.replicate_zero,List.append_nil]
    simp (disch := first | omega | (simp only [List.length_append,List.length_cons,List.length_nil,List.length_map,ak,aa]; omega)) only [↓ae,cJ,List.length_map,aa]
  | k + 1,i,hi => by
    obtain ⟨x,hx⟩ := aA (l := l) (i := i) (by omega)
    have ih := yB hl Z k (i + 1) (by omega)
    have hA : ((l.take i).map eDf).length = i := by rw [List.length_map,List.length_take]; omega
    have hw : IntKind.wrap IntKind.i64 ((i : Int) + 1) = ((i + 1 : Nat) : Int) := dG (by omega)
    have hto : V 165 [eDf x] = some (eDf x,[]) := by rw [GU]
    have hj : (l.take i).map eDf ++ eDf x :: List.replicate k Z = (l.take (i + 1)).map eDf ++ List.replicate k Z := by rw [ww hx]; simp
    rw [lF,List.replicate_succ]
    simp (disch := first | omega | (simp only [List.length_append,List.length_cons,List.length_nil,List.length_map,ak,aa]; omega)) only [↓af,aj,↓ar,↓aH,↓aq,↓aF,↓ax,↓a9,↓au,↓be,↓aR,ba,Bool.and_true,List.length_map,List.length_append,List.length_cons,aa,↓al hx,hto,↓dP hA,dL hA,List.length_take,List.length_replicate,Int.toNat_natCast,hw,hj,ih]
theorem OQ {l : List Df} (hl : l.length ≤ 4294967296) : V 104 [.rs (3,0) (l.map eDf)] = some (.os (3,0) (l.map eDf),[]) := by
  have h := yB (l := l) (by omega) (eDf ⟨⟨#[]⟩,0,0⟩) l.length 0 (Nat.zero_add _)
  rw [Int.natCast_zero,List.take_zero,List.map_nil,List.nil_append] at h
  rw [Dv]
  simp (disch := first | omega | (simp only [List.length_append,List.length_cons,List.length_nil,List.length_map,ak,aa]; omega)) only [↓aH,ba,Bool.and_true,List.length_map,cU,aa,Int.toNat_natCast]
  exact h
theorem wY {l : List Df} (hl : l.length < 4611686018427387904) (hs : ∀ x ∈ l,x.name.size < 4611686018427387904) : ∀ (k i : Nat) (left : Int),i + k = l.length → 0 ≤ left → left ≤ 4611686018427387904 → ∃ n : Int,iP (l.map eDf) left (i : Int) = some (.int .i64 n,[]) ∧ n ≤ left
  | 0,i,left,hi,h0,h1 => by
    refine ⟨left,?_,Int.le_refl _⟩
    rw [iY]
    simp (disch := first | omega | (simp only [List.length_append,List.length_cons,List.length_nil,List.length_map,ak,aa]; omega)) only [↓ae,cJ,List.length_map,aa]
  | k + 1,i,left,hi,h0,h1 => by
    obtain ⟨x,hx⟩ := aA (l := l) (i := i) (by omega)
    have hsx := hs x (List.mem_of_getElem? hx)
    have hw : IntKind.wrap IntKind.i64 ((i : Int) + 1) = ((i + 1 : Nat) : Int) := dG (by omega)
    have hsz : V 161 [eDf x,.int .i64 left] = some (.int .i64 (if left - x.name.size < 0 then -1 else left - x.name.size),[]) := by
      rw [GX]
      by_cases h : left - (x.name.size : Int) < 0
      · rw [if_pos h]; simp (disch := first | omega | (simp only [List.length_append,List.length_cons,List.length_nil,List.length_map,ak,aa]; omega)) only [↓ar,ba,wS,aa]
      · rw [if_neg h]; simp (disch := first | omega | (simp only [List.length_append,List.length_cons,List.length_nil,List.length_map,ak,aa]; omega)) only [↓ae,cJ,wS,aa]
    by_cases h : left - (x.name.size : Int) < 0
    · rw [if_pos h] at hsz
      refine ⟨-1,?_,by omega⟩
      rw [iY]
      simp (disch := first | omega | (simp only [List.length_append,List.length_cons,List.length_nil,List.length_map,ak,aa]; omega)) only [↓af,aj,↓ar,↓aH,↓aq,↓aF,↓ax,↓a9,↓au,↓aR,ba,Bool.and_true,List.length_map,aa,↓al hx,hsz]
    · rw [if_neg h] at hsz
      obtain ⟨n,hn,hle⟩ := wY hl hs k (i + 1) (left - x.name.size) (by omega) (by omega) (by omega)
      refine ⟨n,?_,by omega⟩
      rw [iY]
      simp (disch := first | omega | (simp only [List.length_append,List.length_cons,List.length_nil,List.length_map,ak,aa]; omega)) only [↓af,aj,↓ar,↓ae,↓aH,↓aq,↓aF,↓ax,↓a9,↓au,↓aR,ba,cJ,Bool.and_true,List.length_map,aa,↓al hx,hsz,hw,hn]
theorem NG {l : List Df} (hl : l.length < 4611686018427387904) (hs : ∀ x ∈ l,x.name.size < 4611686018427387904) {left : Int} (h0 : 0 ≤ left) (h1 : left ≤ 4611686018427387904) : ∃ n : Int,V 100 [.rs (3,0) (l.map eDf),.int .i64 left] = some (.int .i64 n,[]) ∧ n ≤ left ∧ (0 ≤ n → (l.length : Int) ≤ left) := by
  by_cases h : left - (l.length : Int) < 0
  · refine ⟨-1,?_,by omega,by omega⟩
    rw [sO]
    simp (disch := first | omega | (simp only [List.length_append,List.length_cons,List.length_nil,List.length_map,ak,aa]; omega)) only [↓ar,ba,List.length_map,wS,aa]
  · obtain ⟨n,hn,hle⟩ := wY hl hs l.length 0 (left - l.length) (Nat.zero_add _) (by omega) (by omega)
    rw [Int.natCast_zero] at hn
    refine ⟨n,?_,by omega,by omega⟩
    rw [sO]
    simp (disch := first | omega | (simp only [List.length_append,List.length_cons,List.length_nil,List.length_map,ak,aa]; omega)) only [↓ae,cJ,List.length_map,wS,aa,hn]
theorem wU {l : List Df} (hl : l.length < 4611686018427387904) : ∀ (k i : Nat),i + k = l.length → iq (l.map eDf) (l.map eDf) (i : Int) = some (.bool true,[])
  | 0,i,hi => by rw [lB]; simp (disch := first | omega | (simp only [List.length_append,List.length_cons,List.length_nil,List.length_map,ak,aa]; omega)) only [↓ae,cJ,List.length_map,aa]
  | k + 1,i,hi => by
    obtain ⟨x,hx⟩ := aA (l := l) (i := i) (by omega)
    have ih := wU hl k (i + 1) (by omega)
    have hw : IntKind.wrap IntKind.i64 ((i : Int) + 1) = ((i + 1 : Nat) : Int) := dG (by omega)
    have hr := ML x
    rw [lB]
    simp (disch := first | omega | (simp only [List.length_append,List.length_cons,List.length_nil,List.length_map,ak,aa]; omega)) only [↓af,aj,↓ar,↓ae,↓aH,↓aq,↓aF,↓ax,↓aw,↓a9,↓au,↓aR,ba,Bool.and_true,Bool.not_true,List.length_map,aa,↓al hx,hr,hw,ih]
theorem Ou {l : List Df} (hl : l.length < 4611686018427387904) : V 107 [.rs (3,0) (l.map eDf),.rs (3,0) (l.map eDf)] = some (.bool true,[]) := by
  have h := wU hl l.length 0 (Nat.zero_add _)
  rw [Int.natCast_zero] at h
  rw [Ck]
  simp (disch := first | omega | (simp only [List.length_append,List.length_cons,List.length_nil,List.length_map,ak,aa]; omega)) only [↓ae,cq,List.length_map,aa,h]

end Go.Eng
/-! a law's arguments: pools,code,machines,processes -/
namespace Go.Eng
open Go.Proofs Go.Proofs.Tryz
set_option maxHeartbeats 4000000
set_option maxRecDepth 100000

theorem QP : zOf prog 219 = some (5,0) := by kernel_rfl
theorem Qu : zOf prog 182 = some (4,0) := by kernel_rfl
theorem Rm : zOf prog 184 = some (3,0) := by kernel_rfl
theorem QR : prog.bytesOf 219 = 48 := by kernel_rfl
theorem QG : prog.bytesOf 182 = 40 := by kernel_rfl
theorem Rf : prog.bytesOf 184 = 32 := by kernel_rfl
theorem yc : reachBytes = 140737488351232 := rfl
theorem NV {n : Nat} {xs : List D} (h : Shape prog (n + 3) 60 xs) : ∃ l : List Nd,xs = [.rs (5,0) (l.map eN)] ∧ (∀ x ∈ l,x.s.size ≤ 140737488351232) ∧ l.length ≤ 140737488351232 := by
  obtain ⟨qs,rfl,h1,h2⟩ := h.slice Tryz.underlying60 QP
  obtain ⟨l,rfl,hl⟩ := ox (enc := eN) (p := fun x : Nd => x.s.size ≤ 140737488351232) (ys := qs) (fun x hx => by
    obtain ⟨ps,hs,rfl⟩ := h2 x hx
    obtain ⟨parts,rfl,hp⟩ := hs.struct Tryz.underlying219
    cases hp with | cons r1 hp =>
    cases hp with | cons r2 hp =>
    cases hp with | cons r3 hp =>
    cases hp with | cons r4 hp =>
    cases hp with | cons r5 hp =>
    cases hp
    obtain ⟨k,rfl,_⟩ := r1.int Tryz.underlying3
    obtain ⟨m,rfl,_⟩ := r2.int Tryz.underlying3
    obtain ⟨s,rfl,hsz⟩ := r3.str Tryz.underlying9
    obtain ⟨a,rfl,_⟩ := r4.int Tryz.underlying3
    obtain ⟨b,rfl,_⟩ := r5.int Tryz.underlying3
    rw [gC Tryz.underlying219]
    exact ⟨⟨k,m,s,a,b⟩,rfl,hsz⟩)
  rw [QR,yc,List.length_map] at h1
  exact ⟨l,rfl,hl,by omega⟩
theorem LL {n : Nat} {xs : List D} (h : Shape prog (n + 3) 63 xs) : ∃ l : List In,xs = [.rs (4,0) (l.map eIn)] ∧ (∀ x ∈ l,x.s.size ≤ 140737488351232) ∧ l.length ≤ 140737488351232 := by
  obtain ⟨qs,rfl,h1,h2⟩ := h.slice Tryz.underlying63 Qu
  obtain ⟨l,rfl,hl⟩ := ox (enc := eIn) (p := fun x : In => x.s.size ≤ 140737488351232) (ys := qs) (fun x hx => by
    obtain ⟨ps,hs,rfl⟩ := h2 x hx
    obtain ⟨parts,rfl,hp⟩ := hs.struct Tryz.underlying182
    cases hp with | cons r1 hp =>
    cases hp with | cons r2 hp =>
    cases hp with | cons r3 hp =>
    cases hp with | cons r4 hp =>
    cases hp
    obtain ⟨k,rfl,_⟩ := r1.int Tryz.underlying3
    obtain ⟨m,rfl,_⟩ := r2.int Tryz.underlying3
    obtain ⟨a,rfl,_⟩ := r3.int Tryz.underlying3
    obtain ⟨s,rfl,hsz⟩ := r4.str Tryz.underlying9
    rw [gC Tryz.underlying182]
    exact ⟨⟨k,m,a,s⟩,rfl,hsz⟩)
  rw [QG,yc,List.length_map] at h1
  exact ⟨l,rfl,hl,by omega⟩
theorem Qg {n : Nat} {xs : List D} (h : Shape prog (n + 3) 64 xs) : ∃ l : List Df,xs = [.rs (3,0) (l.map eDf)] ∧ (∀ x ∈ l,x.name.size ≤ 140737488351232) ∧ l.length ≤ 140737488351232 := by
  obtain ⟨qs,rfl,h1,h2⟩ := h.slice Tryz.underlying64 Rm
  obtain ⟨l,rfl,hl⟩ := ox (enc := eDf) (p := fun x : Df => x.name.size ≤ 140737488351232) (ys := qs) (fun x hx => by
    obtain ⟨ps,hs,rfl⟩ := h2 x hx
    obtain ⟨parts,rfl,hp⟩ := hs.struct Tryz.underlying184
    cases hp with | cons r1 hp =>
    cases hp with | cons r2 hp =>
    cases hp with | cons r3 hp =>
    cases hp
    obtain ⟨s,rfl,hsz⟩ := r1.str Tryz.underlying9
    obtain ⟨k,rfl,_⟩ := r2.int Tryz.underlying3
    obtain ⟨m,rfl,_⟩ := r3.int Tryz.underlying3
    rw [gC Tryz.underlying184]
    exact ⟨⟨s,k,m⟩,rfl,hsz⟩)
  rw [Rf,yc,List.length_map] at h1
  exact ⟨l,rfl,hl,by omega⟩
noncomputable def Lim (p : List Nd) : Prop := (∀ x ∈ p,x.s.size ≤ 140737488351232) ∧ p.length ≤ 140737488351232
theorem sE {p : List Nd} (h : Lim p) : lu p := fun x hx => by have := h.1 x hx; omega
theorem Lf {n : Nat} {xs : List D} (h : Shape prog (n + 4) 62 xs) : ∃ l : List Nd,xs = [.rs (5,0) (l.map eN)] ∧ Lim l := by
  obtain ⟨parts,rfl,hp⟩ := h.struct Tryz.underlying62
  cases hp with | cons r1 hp =>
  cases hp
  obtain ⟨l,rfl,h1,h2⟩ := NV r1
  exact ⟨l,rfl,h1,h2⟩
theorem Qq {x : D} (h : ShapeV prog 66 x) : ∃ c : Cd,x = eCd c ∧ FitsC c ∧ Lim c.pool := by
  obtain ⟨ys,hs,rfl⟩ := h
  obtain ⟨parts,rfl,hp⟩ := hs.struct Tryz.underlying66
  cases hp with | cons r1 hp =>
  cases hp with | cons r2 hp =>
  cases hp with | cons r3 hp =>
  cases hp
  obtain ⟨p,rfl,hp⟩ := Lf r1
  obtain ⟨l,rfl,l1,l2⟩ := LL r2
  obtain ⟨d,rfl,d1,d2⟩ := Qg r3
  refine ⟨⟨p,l,d⟩,by rw [gC Tryz.underlying66]; rfl,⟨sE hp,?_,?_,?_,?_,?_⟩,hp⟩
  · have := hp.2; simp only; omega
  · intro x hx; have := l1 x hx; omega
  · simp only; omega
  · intro x hx; have := d1 x hx; omega
  · simp only; omega
theorem QO {n : Nat} {xs : List D} (h : Shape prog (n + 5) 68 xs) : ∃ m : Mc,xs = [.rs (5,0) (m.pool.map eN),.int .i64 m.at',.int .i64 m.s,.int .i64 m.e,.int .i64 m.d,.int .i64 m.state,.int .i64 m.ask,.int .i64 m.arg] ∧ Lim m.pool := by
  obtain ⟨parts,rfl,hp⟩ := h.struct Tryz.underlying68
  cases hp with | cons r1 hp =>
  cases hp with | cons r2 hp =>
  cases hp with | cons r3 hp =>
  cases hp with | cons r4 hp =>
  cases hp with | cons r5 hp =>
  cases hp with | cons r6 hp =>
  cases hp with | cons r7 hp =>
  cases hp with | cons r8 hp =>
  cases hp
  obtain ⟨p,rfl,hp⟩ := Lf r1
  obtain ⟨a2,rfl,_⟩ := r2.int Tryz.underlying3
  obtain ⟨a3,rfl,_⟩ := r3.int Tryz.underlying3
  obtain ⟨a4,rfl,_⟩ := r4.int Tryz.underlying3
  obtain ⟨a5,rfl,_⟩ := r5.int Tryz.underlying3
  obtain ⟨a6,rfl,_⟩ := r6.int Tryz.underlying3
  obtain ⟨a7,rfl,_⟩ := r7.int Tryz.underlying3
  obtain ⟨a8,rfl,_⟩ := r8.int Tryz.underlying3
  exact ⟨⟨p,a2,a3,a4,a5,a6,a7,a8⟩,rfl,hp⟩
theorem QH {x : D} (h : ShapeV prog 68 x) : ∃ m : Mc,x = eMc m ∧ Lim m.pool := by
  obtain ⟨ys,hs,rfl⟩ := h
  obtain ⟨m,rfl,hm⟩ := QO hs
  exact ⟨m,by rw [gC Tryz.underlying68],hm⟩
theorem Iw {p : List Nd} (hp : Lim p) {left : Int} (h0 : 0 ≤ left) (h1 : left ≤ 4611686018427387904) : ∃ n : Int,V 98 [eP p,.int .i64 left] = some (.int .i64 n,[]) ∧ n ≤ left ∧ (0 ≤ n → (p.length : Int) ≤ left) := by
  obtain ⟨n,hn,h2,h3⟩ := Mr (l := p) (by have := hp.2; omega) (sE hp) h0 h1
  by_cases c : n < 0
  · refine ⟨-1,?_,by omega,by omega⟩
    rw [tq]; simp (disch := first | omega | (simp only [List.length_append,List.length_cons,List.length_nil,List.length_map,ak,aa]; omega)) only [↓af,aj,↓ar,↓aq,↓ax,ba,hn]
  · refine ⟨n,?_,h2,h3⟩
    rw [tq]; simp (disch := first | omega | (simp only [List.length_append,List.length_cons,List.length_nil,List.length_map,ak,aa]; omega)) only [↓af,aj,↓ae,↓aq,↓ax,cJ,hn]
theorem Gq {p : List Nd} (hl : p.length ≤ 4294967296) : V 102 [eP p] = some (oP p,[]) := by
  rw [Cz]; simp (disch := first | omega | (simp only [List.length_append,List.length_cons,List.length_nil,List.length_map,ak,aa]; omega)) only [↓af,aj,↓aq,↓da,ME hl]
theorem OL {c : Cd} (hf : FitsC c) {left : Int} (h0 : 0 ≤ left) (h1 : left ≤ 4611686018427387904) (hp : Lim c.pool) : ∃ n : Int,V 33 [eCd c,.int .i64 left] = some (.int .i64 n,[]) ∧ n ≤ left ∧ (0 ≤ n → (c.pool.length : Int) ≤ left ∧ (c.list.length : Int) ≤ left ∧ (c.defs.length : Int) ≤ left) := by
  obtain ⟨n,hn,h2,h3⟩ := Iw hp h0 h1
  by_cases c1 : n < 0
  · refine ⟨-1,?_,by omega,by omega⟩
    rw [ko]; simp (disch := first | omega | (simp only [List.length_append,List.length_cons,List.length_nil,List.length_map,ak,aa]; omega)) only [↓af,aj,↓ar,↓aq,↓ax,ba,hn]
  obtain ⟨n2,hn2,h4,h5⟩ := Kx hf.llen hf.list (left := n) (by omega) (by omega)
  by_cases c2 : n2 < 0
  · refine ⟨-1,?_,by omega,by omega⟩
    rw [ko]; simp (disch := first | omega | (simp only [List.length_append,List.length_cons,List.length_nil,List.length_map,ak,aa]; omega)) only [↓af,aj,↓ar,↓ae,↓aq,↓ax,ba,cJ,hn,hn2]
  obtain ⟨n3,hn3,h6,h7⟩ := NG hf.dlen hf.defs (left := n2) (by omega) (by omega)
  by_cases c3 : n3 < 0
  · refine ⟨-1,?_,by omega,by omega⟩
    rw [ko]; simp (disch := first | omega | (simp only [List.length_append,List.length_cons,List.length_nil,List.length_map,ak,aa]; omega)) only [↓af,aj,↓ar,↓ae,↓aq,↓ax,ba,cJ,hn,hn2,hn3]
  · refine ⟨n3,?_,by omega,fun h => ⟨by omega,by omega,by omega⟩⟩
    rw [ko]; simp (disch := first | omega | (simp only [List.length_append,List.length_cons,List.length_nil,List.length_map,ak,aa]; omega)) only [↓af,aj,↓ae,↓aq,↓ax,cJ,hn,hn2,hn3]
theorem NC {c : Cd} (h1 : c.pool.length ≤ 4294967296) (h2 : c.list.length ≤ 4294967296) (h3 : c.defs.length ≤ 4294967296) : V 36 [eCd c] = some (oCd c,[]) := by
  rw [Cq]; simp (disch := first | omega | (simp only [List.length_append,List.length_cons,List.length_nil,List.length_map,ak,aa]; omega)) only [↓af,aj,↓aq,↓aF,↓da,↓au,Gq h1,KG h2,OQ h3]
theorem OC {c : Cd} (hf : FitsC c) : V 39 [eCd c,eCd c] = some (.bool true,[]) := by
  rw [DE]; simp (disch := first | omega | (simp only [List.length_append,List.length_cons,List.length_nil,List.length_map,ak,aa]; omega)) only [↓af,aj,↓ae,↓aq,↓aw,Bool.not_true,FX hf.plen,JS hf.llen,Ou hf.dlen]
theorem Ga {m : Mc} (hp : Lim m.pool) {left : Int} (h0 : 0 ≤ left) (h1 : left ≤ 4611686018427387904) : ∃ n : Int,V 34 [eMc m,.int .i64 left] = some (.int .i64 n,[]) ∧ n ≤ left ∧ (0 ≤ n → (m.pool.length : Int) ≤ left) := by
  obtain ⟨n,hn,h2,h3⟩ := Iw hp h0 h1
  by_cases c : n < 0
  · refine ⟨-1,?_,by omega,by omega⟩
    rw [pa]; simp (disch := first | omega | (simp only [List.length_append,List.length_cons,List.length_nil,List.length_map,ak,aa]; omega)) only [↓af,aj,↓ar,↓aq,↓ax,ba,hn]
  · refine ⟨n,?_,h2,h3⟩
    rw [pa]; simp (disch := first | omega | (simp only [List.length_append,List.length_cons,List.length_nil,List.length_map,ak,aa]; omega)) only [↓af,aj,↓ae,↓aq,↓ax,cJ,hn]
theorem GV {m : Mc} (hl : m.pool.length ≤ 4294967296) : V 37 [eMc m] = some (oMc m,[]) := by
  rw [vY]; simp (disch := first | omega | (simp only [List.length_append,List.length_cons,List.length_nil,List.length_map,ak,aa]; omega)) only [↓af,aj,↓aq,↓aF,↓da,↓au,Gq hl]
theorem vp {m : Mc} (hl : m.pool.length < 4611686018427387904) : V 38 [eMc m,eMc m] = some (.bool true,[]) := by
  rw [wj]; simp (disch := first | omega | (simp only [List.length_append,List.length_cons,List.length_nil,List.length_map,ak,aa]; omega)) only [↓af,aj,↓ae,↓aq,↓aw,cq,Bool.not_true,FX hl]
end Go.Eng
/-! machines as bytes,on both sides -/
namespace Go.Eng
open Go.Proofs Go.Proofs.Tryz
set_option maxHeartbeats 4000000

end Go.Eng
/-! nodes of bytes,on both sides -/
namespace Go.Eng
open Go.Proofs Go.Proofs.Tryz
set_option maxHeartbeats 4000000

section
variable {b : List UInt8} (hb : b.length < 4611686018427387904)
include hb
end
end Go.Eng
/-! nodes of bytes: the reference's side,and what both come to -/
namespace Go.Eng
open Go.Proofs Go.Proofs.Tryz
set_option maxHeartbeats 4000000

end Go.Eng
/-! a value read of bytes: both sides come to the same -/
namespace Go.Eng
open Go.Proofs Go.Proofs.Tryz
set_option maxHeartbeats 4000000

end Go.Eng
/-! a value read of bytes: both sides come to the same -/
namespace Go.Eng
open Go.Proofs Go.Proofs.Tryz
set_option maxHeartbeats 4000000

end Go.Eng
/-! processes: when they are right,on both sides -/
namespace Go.Eng
open Go.Proofs Go.Proofs.Tryz
set_option maxHeartbeats 4000000

structure Pr where
  pid : Int
  m : Mc
  box : List ByteArray
  out : List ByteArray
structure FitsR (p : Pr) : Prop where
  pool : lu p.m.pool
  plen : p.m.pool.length ≤ 4294967296
  box : ∀ x ∈ p.box,x.size < 4294967296
  blen : p.box.length < 4294967296
  out : ∀ x ∈ p.out,x.size < 4294967296
  olen : p.out.length < 4294967296
end Go.Eng
/-! processes as arguments -/
namespace Go.Eng
open Go.Proofs Go.Proofs.Tryz
set_option maxHeartbeats 4000000
set_option maxRecDepth 100000

structure LimR (p : Pr) : Prop where
  pool : Lim p.m.pool
  box : ∀ x ∈ p.box,x.size ≤ 140737488351232
  blen : p.box.length ≤ 140737488351232
  out : ∀ x ∈ p.out,x.size ≤ 140737488351232
  olen : p.out.length ≤ 140737488351232
end Go.Eng
/-! marks of code,machines,processes -/
namespace Go.Eng
open Go.Proofs Go.Proofs.Tryz
set_option maxHeartbeats 4000000

noncomputable def DA (k : Int) : In := ⟨k,k + 1,k + 2,mt (k + 3)⟩
theorem qG {l : List In} {c : Int} (h0 : 0 ≤ c) (h1 : c < 1152921504606846976) (h2 : l.length < 115292150460684697) : ∀ (k i : Nat),i + k = l.length → eU (c + 4 * (i : Int)) (i : Int) ((b9 DA 4 c i ++ l.drop i).map eIn) = some (.int .i64 (c + 4 * (l.length : Int)),[.os (4,0) ((b9 DA 4 c l.length).map eIn)])
  | 0,i,hi => by
    have : i = l.length := by omega
    subst this
    rw [i8,List.drop_length,List.append_nil,List.length_map,cz]
    simp (disch := first | omega | (simp only [List.length_append,List.length_cons,List.length_nil,List.length_map,ak,aa]; omega)) only [↓ae,cJ,aa]
  | k + 1,i,hi => by
    obtain ⟨x,hx⟩ := aA (l := l) (i := i) (by omega)
    have ih := qG h0 h1 h2 k (i + 1) (by omega)
    have hA : ((b9 DA 4 c i).map eIn).length = i := by rw [List.length_map,cz]
    have hj := uc eIn DA 4 c (l := l) (i := i)
    have hw : IntKind.wrap IntKind.i64 ((i : Int) + 1) = ((i + 1 : Nat) : Int) := dG (by omega)
    have hl1 : ∀ y : D,((b9 DA 4 c i).map eIn ++ y :: (l.drop (i + 1)).map eIn).length = l.length := by
      intro y
      rw [List.length_append,hA,List.length_cons,List.length_map,List.length_drop]; omega
    have hg : (decide (0 ≤ (i : Int)) && decide ((i : Int) < ni l.length)) = true := bG (by omega)
    have w1 : IntKind.wrap IntKind.i64 (c + 4 * (i : Int) + 1) = c + 4 * (i : Int) + 1 := by rw [w64 (by omega) (by omega)]
    have w2 : IntKind.wrap IntKind.i64 (c + 4 * (i : Int) + 1 + 1) = c + 4 * (i : Int) + 2 := by rw [w64 (by omega) (by omega)]; omega
    have w3 : IntKind.wrap IntKind.i64 (c + 4 * (i : Int) + 2 + 1) = c + 4 * (i : Int) + 3 := by rw [w64 (by omega) (by omega)]; omega
    have w4 : IntKind.wrap IntKind.i64 (c + 4 * (i : Int) + 3 + 1) = c + 4 * ((i + 1 : Nat) : Int) := by rw [w64 (by omega) (by omega)]; omega
    have hm := Qa (p := c + 4 * (i : Int) + 3) (by omega)
    rw [i8,sp eIn (cz DA 4 c i) hx,w1,w2,w3,w4,hw,hl1,ap (ez (by omega)),av hg,Int.toNat_natCast,dP hA,au,be,dL hA,hl1,av hg,dP hA,au,be,dL hA,hl1,av hg,dP hA,au,be,dL hA,ai hm,a9,aq,hl1,av hg,dP hA,au,be,dL hA]
    refine Eq.trans ?_ ih
    rw [← hj]
    rfl
theorem Gc {l : List In} {c : Int} (h0 : 0 ≤ c) (h1 : c < 1152921504606846976) (h2 : l.length < 115292150460684697) : V 109 [.os (4,0) (l.map eIn),.int .i64 c] = some (.int .i64 (c + 4 * (l.length : Int)),[.os (4,0) ((b9 DA 4 c l.length).map eIn)]) := by
  have h := qG (l := l) h0 h1 h2 l.length 0 (Nat.zero_add _)
  rw [show c + 4 * ((0 : Nat) : Int) = c by omega,Int.natCast_zero,show b9 DA 4 c 0 = [] from rfl,List.nil_append,List.drop_zero] at h
  rw [uk]
  exact h
noncomputable def DW (k : Int) : Df := ⟨mt k,k + 1,k + 2⟩
theorem tx {l : List Df} {c : Int} (h0 : 0 ≤ c) (h1 : c < 1152921504606846976) (h2 : l.length < 115292150460684697) : ∀ (k i : Nat),i + k = l.length → fX (c + 3 * (i : Int)) (i : Int) ((b9 DW 3 c i ++ l.drop i).map eDf) = some (.int .i64 (c + 3 * (l.length : Int)),[.os (3,0) ((b9 DW 3 c l.length).map eDf)])
  | 0,i,hi => by
    have : i = l.length := by omega
    subst this
    rw [j7,List.drop_length,List.append_nil,List.length_map,cz]
    simp (disch := first | omega | (simp only [List.length_append,List.length_cons,List.length_nil,List.length_map,ak,aa]; omega)) only [↓ae,cJ,aa]
  | k + 1,i,hi => by
    obtain ⟨x,hx⟩ := aA (l := l) (i := i) (by omega)
    have ih := tx h0 h1 h2 k (i + 1) (by omega)
    have hA : ((b9 DW 3 c i).map eDf).length = i := by rw [List.length_map,cz]
    have hj := uc eDf DW 3 c (l := l) (i := i)
    have hw : IntKind.wrap IntKind.i64 ((i : Int) + 1) = ((i + 1 : Nat) : Int) := dG (by omega)
    have hl1 : ∀ y : D,((b9 DW 3 c i).map eDf ++ y :: (l.drop (i + 1)).map eDf).length = l.length := by
      intro y
      rw [List.length_append,hA,List.length_cons,List.length_map,List.length_drop]; omega
    have hg : (decide (0 ≤ (i : Int)) && decide ((i : Int) < ni l.length)) = true := bG (by omega)
    have w1 : IntKind.wrap IntKind.i64 (c + 3 * (i : Int) + 1) = c + 3 * (i : Int) + 1 := by rw [w64 (by omega) (by omega)]
    have w2 : IntKind.wrap IntKind.i64 (c + 3 * (i : Int) + 1 + 1) = c + 3 * (i : Int) + 2 := by rw [w64 (by omega) (by omega)]; omega
    have w3 : IntKind.wrap IntKind.i64 (c + 3 * (i : Int) + 2 + 1) = c + 3 * ((i + 1 : Nat) : Int) := by rw [w64 (by omega) (by omega)]; omega
    have hm := Qa (p := c + 3 * (i : Int)) (by omega)
    rw [j7,sp eDf (cz DW 3 c i) hx,w1,w2,w3,hw,hl1,ap (ez (by omega)),ai hm,a9,aq,av hg,Int.toNat_natCast,dP hA,au,be,dL hA,hl1,av hg,dP hA,au,be,dL hA,hl1,av hg,dP hA,au,be,dL hA]
    refine Eq.trans ?_ ih
    rw [← hj]
    rfl
theorem LY {l : List Df} {c : Int} (h0 : 0 ≤ c) (h1 : c < 1152921504606846976) (h2 : l.length < 115292150460684697) : V 110 [.os (3,0) (l.map eDf),.int .i64 c] = some (.int .i64 (c + 3 * (l.length : Int)),[.os (3,0) ((b9 DW 3 c l.length).map eDf)]) := by
  have h := tx (l := l) h0 h1 h2 l.length 0 (Nat.zero_add _)
  rw [show c + 3 * ((0 : Nat) : Int) = c by omega,Int.natCast_zero,show b9 DW 3 c 0 = [] from rfl,List.nil_append,List.drop_zero] at h
  rw [yj]
  exact h
noncomputable def QZ (c : Cd) (k : Int) : Cd := ⟨b9 pk 5 k c.pool.length,b9 DA 4 (k + 5 * c.pool.length) c.list.length,b9 DW 3 (k + 5 * c.pool.length + 4 * c.list.length) c.defs.length⟩
noncomputable def nCd (c : Cd) : Int := 5 * c.pool.length + 4 * c.list.length + 3 * c.defs.length
theorem Js {c : Cd} (h1 : c.pool.length ≤ 4294967296) (h2 : c.list.length ≤ 4294967296) (h3 : c.defs.length ≤ 4294967296) {k : Int} (k0 : 0 ≤ k) (k1 : k < 1000000000) : V 40 [oCd c,.int .i64 k] = some (.int .i64 (k + nCd c),[oCd (QZ c k)]) := by
  have a1 := xf (l := c.pool) k0 (by omega) (by omega)
  have a2 := Gc (l := c.list) (c := k + 5 * c.pool.length) (by omega) (by omega) (by omega)
  have a3 := LY (l := c.defs) (c := k + 5 * c.pool.length + 4 * c.list.length) (by omega) (by omega) (by omega)
  rw [yg]
  simp (disch := first | omega | (simp only [List.length_append,List.length_cons,List.length_nil,List.length_map,ak,aa]; omega)) only [↓af,aj,↓aq,↓aF,↓ax,↓da,↓au,a1,a2,a3]
  unfold nCd QZ
  simp only [Int.add_assoc]
noncomputable def Qe (m : Mc) (k : Int) : Mc := { m with pool := b9 pk 5 k m.pool.length }
noncomputable def nMc (m : Mc) : Int := 5 * m.pool.length
theorem ri {m : Mc} (h1 : m.pool.length ≤ 4294967296) {k : Int} (k0 : 0 ≤ k) (k1 : k < 1000000000) : V 41 [oMc m,.int .i64 k] = some (.int .i64 (k + nMc m),[oMc (Qe m k)]) := by
  have a1 := xf (l := m.pool) k0 (by omega) (by omega)
  rw [tK]
  simp (disch := first | omega | (simp only [List.length_append,List.length_cons,List.length_nil,List.length_map,ak,aa]; omega)) only [↓af,aj,↓aq,↓aF,↓ax,↓da,↓au,a1]
  rfl
theorem zm {m : Mc} (h1 : m.pool.length ≤ 4294967296) {k : Int} (k0 : 0 ≤ k) (k1 : k < 1000000000) : V 42 [eMc (Qe m k),.int .i64 k] = some (.int .i64 (k + nMc m),[]) := by
  have a1 := JO (n := m.pool.length) k0 (by omega) (by omega)
  rw [t9]
  unfold nMc
  simp (disch := first | omega | (simp only [List.length_append,List.length_cons,List.length_nil,List.length_map,ak,aa]; omega)) only [↓af,aj,↓ae,↓aq,↓ax,cJ,Qe,a1]
noncomputable abbrev eMk (m : Mc) (k : Int) : D := .agg [.rs (5,0) ((Qe m k).pool.map eN),.int .i64 m.at',.int .i64 m.s,.int .i64 m.e,.int .i64 m.d,.int .i64 m.state,.int .i64 m.ask,.int .i64 m.arg]
theorem xH {m : Mc} (h1 : m.pool.length ≤ 4294967296) {k : Int} (k0 : 0 ≤ k) (k1 : k < 1000000000) : V 42 [eMk m k,.int .i64 k] = some (.int .i64 (k + nMc m),[]) := zm h1 k0 k1
end Go.Eng
/-! the program's RunFor returns what the reference's returns -/
namespace Go.Eng
open Go.Proofs Go.Proofs.Tryz
set_option maxHeartbeats 4000000

theorem Er {c : Cd} : ∀ (k : Nat) {m : Mc},gu c m = true → gu c (g9 c k m).1 = true
  | 0,m,h => h
  | k + 1,m,h => by
    unfold g9
    by_cases h0 : m.state = 0
    · rw [if_pos h0]
      have s1 := yo h h0
      refine Er k ?_
      unfold d5
      split
      · exact s1
      · exact BG s1
    · rw [if_neg h0]; exact h
theorem Oq {c : Cd} {m : Mc} {n : Int} : (xq c m n).1.pool.length ≤ 3000 := by
  unfold xq
  split
  · rename_i h
    exact (nN (Er _ h)).2.2.1
  · simp [NK]
theorem tv {c : Cd} (hf : FitsC c) (hc : Lim c.pool) {m : Mc} (hm : Lim m.pool) (steps : Int) : V 8 [eCd c,eMc m,.int .i64 steps] = some (.bool true,[]) := by
  obtain ⟨n,hn,h2,h3⟩ := OL hf (left := 1048576) (by omega) (by omega) hc
  rw [rc,Gx hn]
  by_cases c1 : n < 0
  · rw [ap (decide_eq_true c1)]
  obtain ⟨n2,hn2,h4,h5⟩ := Ga hm (left := n) (by omega) (by omega)
  rw [ah (decide_eq_false c1),xW hn2]
  by_cases c2 : n2 < 0
  · rw [ap (decide_eq_true c2)]
  have h3 := h3 (by omega)
  have h5 := h5 (by omega)
  have q1 := NC (c := c) (by omega) (by omega) (by omega)
  have q2 := GV (m := m) (by omega)
  have k1 := zg hf (sE hm) (by omega) steps
  have k2 := zu hf (sE hm) (by omega) steps
  have hl : (xq c m steps).1.pool.length ≤ 3000 := Oq
  have e1 := OC hf
  have e2 := vp (m := m) (by omega)
  generalize (xq c m steps).1 = r at k1 k2 hl
  generalize (((xq c m steps).2 : Nat) : Int) = u at k1 k2
  have e3 := vp (m := r) (by omega)
  have m1 := Js (c := c) (k := 1) (by omega) (by omega) (by omega) (by omega) (by omega)
  have hn0 : 0 ≤ nCd c ∧ nCd c ≤ 20000000 := by unfold nCd; omega
  have m2 := ri (m := m) (k := 1 + nCd c) (by omega) (by omega) (by omega)
  have hm0 : 0 ≤ nMc m := by unfold nMc; omega
  have m3 := ri (m := r) (k := 1) (by omega) (by omega) (by omega)
  have d3 := xH (m := r) (k := 1) (by omega) (by omega) (by omega)
  have hr0 : 0 ≤ nMc r := by unfold nMc; omega
  have hne : ∀ z : Int,(z != z) = false := fun z => by simp
  rw [ah (decide_eq_false c2),lH q1,iW q2,Ig k2,lH q1,iW q2,vv k1,iy e3,Bool.not_true,ae,ah (hne _),lH q1,Gu e1,Bool.not_true,ae,iW q2,iy e2,Bool.not_true,ae,
    zo m1,ny m2,ah (decide_eq_false (by omega)),iy e3,Bool.not_true,ae,ah (hne _),ny m3,mQ d3,ah (decide_eq_false (by omega)),ah (hne _),
    lH q1,iW q2,vv k1,iy e3,Bool.not_true,ae,ah (hne _),mQ d3,ah (decide_eq_false (by omega)),ah (hne _)]
theorem sr (xs : List D) (h : All2 (fun t x => ShapeV Tryz.prog t x) Tryz.f8.params.toList xs) : V 8 xs = some (.bool true,[]) := by
  rw [Tryz.params8] at h
  cases h with | cons h1 h =>
  cases h with | cons h2 h =>
  cases h with | cons h3 h =>
  cases h
  obtain ⟨c,rfl,hf,hc⟩ := Qq h1
  obtain ⟨m,rfl,hm⟩ := QH h2
  obtain ⟨k,rfl,_⟩ := h3.int Tryz.underlying3
  exact tv hf hc hm k
end Go.Eng
