/- a machine read of bytes, on both sides -/
import Derived.Test.YtgoidfkdnkjojaaGreatMPack
import Derived.Test.YtgoidfkdnkjojaaGreatWire6
namespace Go.Eng
open Go.Proofs Go.Proofs.Tryz
set_option maxHeartbeats 4000000

/-- so many numbers, read -/
noncomputable def numsR (num : RS → Nat × RS) : Nat → RS → List Nat × RS
  | 0, s => ([], s)
  | k + 1, s => ((num s).1 :: (numsR num k (num s).2).1, (numsR num k (num s).2).2)
theorem numsI_in {b : List UInt8} : ∀ (k : Nat) (s : RS), InB b s → InB b (numsR (numI b) k s).2
  | 0, s, h => h
  | k + 1, s, h => numsI_in k _ (numI_in h)
theorem numsS_in {b : List UInt8} : ∀ (k : Nat) (s : RS), InB b s → InB b (numsR (numS b) k s).2
  | 0, s, h => h
  | k + 1, s, h => numsS_in k _ (numS_in h)
theorem numsI_bad {b : List UInt8} : ∀ (k : Nat) (s : RS), s.2 = false → (numsR (numI b) k s).2.2 = false
  | 0, s, h => h
  | k + 1, s, h => numsI_bad k _ (numI_bad h)
theorem numsS_bad {b : List UInt8} : ∀ (k : Nat) (s : RS), s.2 = false → (numsR (numS b) k s).2.2 = false
  | 0, s, h => h
  | k + 1, s, h => numsS_bad k _ (numS_bad h)
theorem nums_sync (b : List UInt8) : ∀ (k a : Nat), Sy (numsR (numI b) k (a, true)) (numsR (numS b) k (a, true))
  | 0, a => ⟨rfl, fun _ => rfl⟩
  | k + 1, a => by
    have e := num_same b a
    simp only [numsR]
    rw [← e]
    cases hk : (numI b (a, true)).2.2 with
    | false =>
      have h1 := numsI_bad (b := b) k _ hk
      have h2 := numsS_bad (b := b) k _ hk
      exact ⟨by simp only [h1, h2], fun h => by simp only [h1] at h; cases h⟩
    | true =>
      obtain ⟨a1, ha1⟩ : ∃ a1, (numI b (a, true)).2 = (a1, true) := ⟨_, Prod.ext rfl hk⟩
      rw [ha1]
      have ih := nums_sync b k a1
      exact ⟨ih.1, fun h => by rw [ih.2 h]⟩
theorem nums_put {b : List UInt8} : ∀ (l : List Int), SmallN l → ∀ (a : Nat) (rest : List UInt8), b.drop a = numsB l ++ rest → numsR (numI b) l.length (a, true) = (l.map Int.toNat, (a + (numsB l).length, true))
  | [], hs, a, rest, h => by simp [numsR, numsB]
  | x :: l, hs, a, rest, h => by
    have hx := hs x (by simp)
    have e : numsB (x :: l) = putU x.toNat ++ numsB l := by simp [numsB]
    rw [e, List.append_assoc] at h
    have h1 := numI_put (b := b) (s := (a, true)) (n := x.toNat) (by omega) h
    have h2 := drop_more h
    have ih := nums_put l (fun y hy => hs y (by simp [hy])) (a + (putU x.toNat).length) rest h2
    rw [List.length_cons]
    simp only [numsR]
    rw [h1]
    simp only
    rw [ih, e, List.length_append, Nat.add_assoc]
    rfl
/-- nodes behind anything: the two readers go together -/
theorem nodes_fwd {b : List UInt8} {a : Nat} (ho : (nodesI b (a, true)).2.2 = true) (hp : okPool (nodesI b (a, true)).1 = true) (hat : (nodesI b (a, true)).2.1 = b.length) : nodesS b (a, true) = nodesI b (a, true) := by
  have hn := num_same b a
  have hS : nodesS b (a, true) = if (numI b (a, true)).1 > 3000 then restS b ([], ((numI b (a, true)).2.1, false)) else restS b (goS b (numI b (a, true)).1 3001 0 (numI b (a, true)).2 []) := by
    unfold nodesS; rw [← hn]
  have hI : nodesI b (a, true) = goI b (numI b (a, true)).1 3002 0 (numI b (a, true)).2 [] := rfl
  have hlen := okPool_len hp
  have hcnt : (numI b (a, true)).1 ≤ 3000 := by
    by_cases hbig : 3000 < (numI b (a, true)).1
    · have := goI_long hbig 3002 0 (numI b (a, true)).2 [] rfl (by omega) rfl (by rw [← hI]; exact ho)
      rw [← hI] at this; omega
    · omega
  have hok : (numI b (a, true)).2.2 = true := by
    cases e : (numI b (a, true)).2.2 with
    | true => rfl
    | false =>
      obtain ⟨a1, ha1⟩ : ∃ a1, (numI b (a, true)).2 = (a1, false) := ⟨_, Prod.ext rfl e⟩
      rw [hI, ha1, goI_bad] at ho; cases ho
  obtain ⟨a1, ha1⟩ : ∃ a1, (numI b (a, true)).2 = (a1, true) := ⟨_, Prod.ext rfl hok⟩
  have hsy := go_sync (b := b) hcnt 3001 0 a1 [] (by omega)
  have hII : nodesI b (a, true) = goI b (numI b (a, true)).1 3002 0 (a1, true) [] := by rw [hI, ha1]
  have he := hsy.2 (by rw [← hII]; exact ho)
  rw [← hII] at he
  rw [hS, if_neg (show ¬ (numI b (a, true)).1 > 3000 by omega), ha1, ← he]
  unfold restS
  rw [hat, ho, hp]
  exact (Prod.ext rfl (Prod.ext hat.symm (by simp [ho])))
theorem nodes_bwd {b : List UInt8} {a : Nat} (s1 : (nodesS b (a, true)).2.2 = true) : nodesS b (a, true) = nodesI b (a, true) ∧ okPool (nodesI b (a, true)).1 = true := by
  have hn := num_same b a
  have hS : nodesS b (a, true) = if (numI b (a, true)).1 > 3000 then restS b ([], ((numI b (a, true)).2.1, false)) else restS b (goS b (numI b (a, true)).1 3001 0 (numI b (a, true)).2 []) := by
    unfold nodesS; rw [← hn]
  have hI : nodesI b (a, true) = goI b (numI b (a, true)).1 3002 0 (numI b (a, true)).2 [] := rfl
  by_cases hbig : (numI b (a, true)).1 > 3000
  · rw [hS, if_pos hbig] at s1; simp [restS] at s1
  · rw [hS, if_neg hbig] at s1
    have hok : (numI b (a, true)).2.2 = true := by
      cases e : (numI b (a, true)).2.2 with
      | true => rfl
      | false =>
        obtain ⟨a1, ha1⟩ : ∃ a1, (numI b (a, true)).2 = (a1, false) := ⟨_, Prod.ext rfl e⟩
        rw [ha1, goS_bad] at s1; simp [restS] at s1
    obtain ⟨a1, ha1⟩ : ∃ a1, (numI b (a, true)).2 = (a1, true) := ⟨_, Prod.ext rfl hok⟩
    have hsy := go_sync (b := b) (cnt := (numI b (a, true)).1) (by omega) 3001 0 a1 [] (by omega)
    have hII : nodesI b (a, true) = goI b (numI b (a, true)).1 3002 0 (a1, true) [] := by rw [hI, ha1]
    rw [ha1] at s1
    simp only [restS, Bool.and_eq_true, decide_eq_true_eq] at s1
    have he := hsy.2 (by rw [hsy.1]; exact s1.1)
    rw [← hII] at he
    rw [← he] at s1
    refine ⟨?_, s1.2.2⟩
    rw [hS, if_neg hbig, ha1, ← he]
    unfold restS
    refine Prod.ext rfl (Prod.ext rfl ?_)
    simp only [s1.1, s1.2.1, s1.2.2, decide_true, Bool.and_true]
/-- a machine of numbers and nodes -/
noncomputable def mcOf (l : List Nat) (p : List Nd) : Mc := ⟨p, (l.getD 0 0 : Nat), (l.getD 3 0 : Nat), (l.getD 4 0 : Nat), (l.getD 5 0 : Nat), (l.getD 1 0 : Nat), (l.getD 2 0 : Nat), (l.getD 6 0 : Nat)⟩
noncomputable def readI (s : List UInt8) : Mc × Bool := (mcOf (numsR (numI s) 7 (0, true)).1 (nodesI s (numsR (numI s) 7 (0, true)).2).1, (nodesI s (numsR (numI s) 7 (0, true)).2).2.2)
/-- a machine read of bytes -/
noncomputable def readM (c : Cd) (s : List UInt8) : Option Mc := if (readI s).2 = true ∧ packM c (readI s).1 = some s then some (readI s).1 else none
noncomputable def zMc' : Mc := ⟨[], 0, 0, 0, 0, 0, 0, 0⟩
noncomputable def readMD (r : Option Mc) : D := match r with | some m => .tup [oMc m, .bool true] | none => .tup [oMc zMc', .bool false]
theorem nodesI_bad {b : List UInt8} {s : RS} (h : s.2 = false) : (nodesI b s).2.2 = false := by
  have h1 := numI_bad (b := b) h
  unfold nodesI
  obtain ⟨a1, ha1⟩ : ∃ a1, (numI b s).2 = (a1, false) := ⟨_, Prod.ext rfl h1⟩
  rw [ha1, goI_bad]
theorem nodesS_bad {b : List UInt8} {s : RS} (h : s.2 = false) : (nodesS b s).2.2 = false := by
  have h1 := numS_bad (b := b) h
  unfold nodesS
  obtain ⟨a1, ha1⟩ : ∃ a1, (numS b s).2 = (a1, false) := ⟨_, Prod.ext rfl h1⟩
  rw [ha1, goS_bad]
  split <;> simp [restS]
theorem packM_some {c : Cd} {m : Mc} {s : List UInt8} (h : packM c m = some s) : okMc c m = true ∧ s = numsB (numsOf (tidyM m)) ++ packN (tidyM m).pool := by
  unfold packM at h
  split at h
  · rename_i hc; cases h; exact ⟨hc, rfl⟩
  · cases h
/-- what a machine is packed as is read to its end -/
theorem readI_pack {c : Cd} {m : Mc} {s : List UInt8} (h : packM c m = some s) : readI s = (tidyM m, true) ∧ (nodesI s (numsR (numI s) 7 (0, true)).2).2.1 = s.length := by
  obtain ⟨h1, h2⟩ := packM_some h
  have h3 := tidy_ok h1
  have hs := okMc_nums h3
  have hn := nums_put (b := s) (numsOf (tidyM m)) hs 0 (packN (tidyM m).pool) (by rw [List.drop_zero]; exact h2)
  have hd : s.drop (0 + (numsB (numsOf (tidyM m))).length) = packN (tidyM m).pool ++ [] := by rw [Nat.zero_add, h2, List.drop_left, List.append_nil]
  have hp := nodesI_put (okMc_roots h3).1 hd
  have hl : (numsOf (tidyM m)).length = 7 := rfl
  rw [hl] at hn
  unfold readI
  rw [hn]
  simp only
  rw [hp]
  have e : ∀ x ∈ numsOf (tidyM m), ((x.toNat : Nat) : Int) = x := fun x hx => by have := hs x hx; omega
  refine ⟨?_, by simp only [Nat.zero_add]; rw [h2, List.length_append]⟩
  simp only [numsOf, List.mem_cons, List.not_mem_nil, or_false] at e
  have e0 := e (tidyM m).at' (by simp)
  have e1 := e (tidyM m).state (by simp)
  have e2 := e (tidyM m).ask (by simp)
  have e3 := e (tidyM m).s (by simp)
  have e4 := e (tidyM m).e (by simp)
  have e5 := e (tidyM m).d (by simp)
  have e6 := e (tidyM m).arg (by simp)
  refine Prod.ext ?_ rfl
  show mcOf ([(tidyM m).at'.toNat, (tidyM m).state.toNat, (tidyM m).ask.toNat, (tidyM m).s.toNat, (tidyM m).e.toNat, (tidyM m).d.toNat, (tidyM m).arg.toNat]) (tidyM m).pool = tidyM m
  show (⟨(tidyM m).pool, ((tidyM m).at'.toNat : Nat), ((tidyM m).s.toNat : Nat), ((tidyM m).e.toNat : Nat), ((tidyM m).d.toNat : Nat), ((tidyM m).state.toNat : Nat), ((tidyM m).ask.toNat : Nat), ((tidyM m).arg.toNat : Nat)⟩ : Mc) = tidyM m
  rw [e0, e1, e2, e3, e4, e5, e6]
theorem readI_2 (s : List UInt8) : (readI s).2 = (nodesI s (numsR (numI s) 7 (0, true)).2).2.2 := by simp only [readI]
theorem readI_1 (s : List UInt8) : (readI s).1 = mcOf (numsR (numI s) 7 (0, true)).1 (nodesI s (numsR (numI s) 7 (0, true)).2).1 := by simp only [readI]
theorem mcOf_pool (l : List Nat) (p : List Nd) : (mcOf l p).pool = p := by simp only [mcOf]
theorem readM_same (c : Cd) (s : List UInt8) : readM c s = if (nodesS s (numsR (numS s) 7 (0, true)).2).2.2 = true ∧ packM c (mcOf (numsR (numS s) 7 (0, true)).1 (nodesS s (numsR (numS s) 7 (0, true)).2).1) = some s then some (mcOf (numsR (numS s) 7 (0, true)).1 (nodesS s (numsR (numS s) 7 (0, true)).2).1) else none := by
  have hsy := nums_sync s 7 0
  have hpk := @readI_pack c (readI s).1 s
  unfold readM
  rw [readI_2, readI_1] at *
  generalize numsR (numI s) 7 (0, true) = r at *
  generalize numsR (numS s) 7 (0, true) = r' at *
  obtain ⟨l, a, o⟩ := r
  obtain ⟨l', a', o'⟩ := r'
  obtain ⟨hs1, hs2⟩ := hsy
  simp only at hs1 hs2 hpk ⊢
  subst hs1
  cases o with
  | false =>
    have b1 := nodesI_bad (b := s) (s := (a, false)) rfl
    have b2 := nodesS_bad (b := s) (s := (a', false)) rfl
    rw [if_neg (by rw [b1]; simp), if_neg (by rw [b2]; simp)]
  | true =>
    have he := hs2 rfl
    injection he with e1 e2
    injection e2 with e2 _
    subst e1 e2
    by_cases hc : (nodesI s (a, true)).2.2 = true ∧ packM c (mcOf l (nodesI s (a, true)).1) = some s
    · obtain ⟨h1, h2⟩ := hc
      obtain ⟨p1, p2⟩ := packM_some h2
      obtain ⟨_, hat⟩ := hpk h2
      have hpool := (okMc_roots p1).1
      rw [mcOf_pool] at hpool
      have hf := nodes_fwd h1 hpool hat
      rw [hf]
    · rw [if_neg hc]
      by_cases hs : (nodesS s (a, true)).2.2 = true ∧ packM c (mcOf l (nodesS s (a, true)).1) = some s
      · exfalso
        obtain ⟨s1, s2⟩ := hs
        obtain ⟨hb, _⟩ := nodes_bwd s1
        rw [hb] at s1 s2
        exact hc ⟨s1, s2⟩
      · rw [if_neg hs]
end Go.Eng
