/- An interpreter of the model's code over pure data,proved against the model: part 3. No conditions. -/
import Derived.Test.YtkndfhaehnfnmaaGreatEngB
import Derived.WideKeyRuns
import Derived.Carry
import Derived.MapKept
import Derived.WalkSpells
import Derived.ChangeOld
import Derived.ChangeArms
import Derived.SizedLaws
import Derived.WideKeyArgs
import Derived.WideShapes
import Derived.ChangeShapes
import Derived.OpenShut
import Derived.RowKit
import Derived.Below
import Derived.IntWalk
set_option linter.unusedVariables false
namespace Go.Eng
noncomputable section
section plain
variable {P : Program}
theorem vc {s x : D} (h : eJ s x = true) (w : World) (B : Nat -> Prop) (hh : Ups) (loc : Nat -> Loc) : al w B hh loc (.d x) (gH x) := by
 cases x <;> first | (refine ⟨trivial,?_⟩; simp [ac,gH]; done) | (cases s <;> simp [eJ] at h)
theorem nq : ∀ {sh ks : List D},cU sh ks = true -> ∀ (w : World) (B : Nat -> Prop) (hh : Ups) (loc : Nat -> Loc),All2 (al w B hh loc) (ks.map .d) (ks.map gH)
 | [],[],_,_,_,_,_ => .nil
 | [],_ :: _,h,_,_,_,_ => by cases h
 | _ :: _,[],h,_,_,_,_ => by cases h
 | s :: sh,x :: ks,h,w,B,hh,loc => by
  simp only [cU,Bool.and_eq_true] at h
  exact .cons (vc h.1 w B hh loc) (nq h.2 w B hh loc)
theorem nn {w : World} {B : Nat -> Prop} {hh : Ups} {loc : Nat -> Loc} : ∀ {sh ks : List D} {vs : List Value},cU sh ks = true -> All2 (al w B hh loc) (ks.map .d) vs -> vs = ks.map gH
 | [],[],vs,_,ha => by cases ha; rfl
 | [],_ :: _,_,h,_ => by cases h
 | _ :: _,[],_,h,_ => by cases h
 | s :: sh,x :: ks,vs,h,ha => by
  simp only [cU,Bool.and_eq_true] at h
  cases ha with | cons a1 a2 =>
  rw [List.map_cons,<- nn h.2 a2]
  congr 1
  have h1 := h.1
  cases x <;> first | exact m9 a1 | exact kF a1 | exact na a1 | (cases s <;> simp [eJ] at h1)
theorem um : ∀ {fs : List Field} {sh ks ks' : List D},j7 P fs = some sh -> cU sh ks = true -> cU sh ks' = true -> ba P fs (ks.map .d) (ks'.map .d) = some (jT ks ks')
 | [],sh,ks,ks',hs,h1,h2 => by
  simp only [j7,Option.some.injEq] at hs
  subst hs
  cases ks with
  | nil => cases ks' with
   | nil => rfl
   | cons _ _ => cases h2
  | cons _ _ => cases h1
 | f :: fs,sh,ks,ks',hs,h1,h2 => by
  have one : ∀ (s : D) (r : List D),j7 P fs = some r -> sh = s :: r -> ∃ x xs y ys,ks = x :: xs /\ ks' = y :: ys /\ eJ s x = true /\ eJ s y = true /\ ba P fs (xs.map .d) (ys.map .d) = some (jT xs ys) := by
   intro s r hr he
   subst he
   cases ks with
   | nil => cases h1
   | cons x xs =>
    cases ks' with
    | nil => cases h2
    | cons y ys =>
     simp only [cU,Bool.and_eq_true] at h1 h2
     exact ⟨x,xs,y,ys,rfl,rfl,h1.1,h2.1,um hr h1.2 h2.2⟩
  simp only [j7] at hs
  split at hs
  ·rename_i k hu _
   obtain ⟨r,hr,he⟩ := Option.map_eq_some_iff.1 hs
   obtain ⟨x,xs,y,ys,rfl,rfl,a1,a2,ih⟩ := one _ r hr he.symm
   cases x <;> simp only [eJ] at a1 <;> first | cases a1 | skip
   cases y <;> simp only [eJ] at a2 <;> first | cases a2 | skip
   have a1 := of_decide_eq_true a1
   have a2 := of_decide_eq_true a2
   subst a1; subst a2
   simp [ba,hu,ih,jT,pQ]
  ·rename_i hu _
   obtain ⟨r,hr,he⟩ := Option.map_eq_some_iff.1 hs
   obtain ⟨x,xs,y,ys,rfl,rfl,a1,a2,ih⟩ := one _ r hr he.symm
   cases x <;> simp only [eJ] at a1 <;> first | cases a1 | skip
   cases y <;> simp only [eJ] at a2 <;> first | cases a2 | skip
   simp [ba,hu,ih,jT,pQ]
  ·rename_i hu _
   obtain ⟨r,hr,he⟩ := Option.map_eq_some_iff.1 hs
   obtain ⟨x,xs,y,ys,rfl,rfl,a1,a2,ih⟩ := one _ r hr he.symm
   cases x <;> simp only [eJ] at a1 <;> first | cases a1 | skip
   cases y <;> simp only [eJ] at a2 <;> first | cases a2 | skip
   simp [ba,hu,ih,jT,pQ]
  ·cases hs
theorem j8 : ∀ {fs : List Field} {sh : List D},j7 P fs = some sh -> sh.length = fs.length
 | [],sh,hs => by simp only [j7,Option.some.injEq] at hs; subst hs; rfl
 | f :: fs,sh,hs => by
  simp only [j7] at hs
  split at hs
  ·obtain ⟨r,hr,rfl⟩ := Option.map_eq_some_iff.1 hs; simp [j8 hr]
  ·obtain ⟨r,hr,rfl⟩ := Option.map_eq_some_iff.1 hs; simp [j8 hr]
  ·obtain ⟨r,hr,rfl⟩ := Option.map_eq_some_iff.1 hs; simp [j8 hr]
  ·cases hs
theorem rz : ∀ {sh ks : List D},cU sh ks = true -> ks.length = sh.length
 | [],[],_ => rfl
 | [],_ :: _,h => by cases h
 | _ :: _,[],h => by cases h
 | s :: sh,x :: ks,h => by
  simp only [cU,Bool.and_eq_true] at h
  simp [rz h.2]
theorem lU : ∀ {fs : List Field} {sh : List D},j7 P fs = some sh -> ∀ f ∈ fs,∃ td,P.underlying f.type = some td /\ (td = .bool \/ td = .string \/ ∃ q,td = .int q)
 | [],sh,hs,f,hf => by cases hf
 | g :: fs,sh,hs,f,hf => by
  simp only [j7] at hs
  split at hs
  ·rename_i k hu _
   obtain ⟨r,hr,rfl⟩ := Option.map_eq_some_iff.1 hs
   rcases List.mem_cons.1 hf with rfl | hf
   ·exact ⟨_,hu,.inr (.inr ⟨_,rfl⟩)⟩
   ·exact lU hr f hf
  ·rename_i hu _
   obtain ⟨r,hr,rfl⟩ := Option.map_eq_some_iff.1 hs
   rcases List.mem_cons.1 hf with rfl | hf
   ·exact ⟨_,hu,.inl rfl⟩
   ·exact lU hr f hf
  ·rename_i hu _
   obtain ⟨r,hr,rfl⟩ := Option.map_eq_some_iff.1 hs
   rcases List.mem_cons.1 hf with rfl | hf
   ·exact ⟨_,hu,.inr (.inl rfl)⟩
   ·exact lU hr f hf
  ·cases hs
structure MapT (P : Program) (t : TypeId) (sh : List D) (k e : TypeId) (fs : Array Field) : Prop where
 map : P.underlying t = some (.map k e)
 key : P.underlying k = some (.struct fs)
 zero : dd P e = some (.d (.int .i64 0))
 eq : uG P k = true
 nm : ∀ f ∈ fs.toList, f.name ≠ "_"
 sh : j7 P fs.toList = some sh
theorem mQ {t : TypeId} {sh : List D} (h : re P t = some sh) : ∃ k e fs,MapT P t sh k e fs := by
 unfold re at h
 split at h
 ·rename_i k e hm
  split at h
  ·rename_i fs hk he hz
   split at h
   ·rename_i hc
    simp only [Bool.and_eq_true] at hc
    exact ⟨k,e,fs,hm,hk,hz,hc.1,fun f hf => by simpa using List.all_eq_true.1 hc.2 f hf,h⟩
   ·cases h
  ·cases h
 ·cases h
variable {t k e : TypeId} {sh : List D} {fs : Array Field}
theorem MapT.equal (M : MapT P t sh k e fs) (w : World) {ks ks' : List D} (h1 : cU sh ks = true) (h2 : cU sh ks' = true) : (Op.equal k (.agg (ks.map gH).toArray) (.agg (ks'.map gH).toArray)).run P w = .ok (jT ks ks') w := by
 have he := M.eq
 unfold uG at he
 rw [M.key] at he
 simp only [Bool.and_eq_true,Bool.not_eq_true'] at he
 have hfo : P.fieldsOf k = fs := by simp [Program.fieldsOf,M.key]
 show (Op.equalIn 10000 k _ _).run P w = _
 rw [run_equalIn_struct w 9999 k _ _ (by rw [hfo]; exact M.key) he.1.1,hfo]
 refine gp (B := fun _ => False) (h := []) (loc := fun _ => .nil) (d := 9998) fs.toList 0 (ks.map .d) (ks'.map .d) _ (fun i f hf => ?_) (by simpa using nq h1 w _ _ _) (by simpa using nq h2 w _ _ _) (um M.sh h1 h2)
 have := jJ 0 he.2 i f hf
 simp only [Bool.and_eq_true] at this
 exact ⟨by simpa using this.1,by simpa using this.2⟩
theorem MapT.asking (M : MapT P t sh k e fs) (w : World) {ks : List D} (h1 : cU sh ks = true) : ∀ {xs : List D} {es : List MapEntry} (i : Nat),All2 (gn sh) xs es ->
  ∃ r,(Instr.findAsking k (.agg (ks.map gH).toArray) es i).run P w = .ok r w /\ (∀ v,cJ xs ks = some v -> ∃ j,r = some (j,.int .i64 v)) /\ (cJ xs ks = none -> r = none)
 | _,_,i,.nil => ⟨none,by simp [Instr.findAsking],by simp [cJ],fun _ => rfl⟩
 | x :: xs,en :: es,i,.cons a1 a2 => by
  obtain ⟨ks',v,rfl,h2,hk,hv⟩ := a1
  have he := M.equal w h1 h2
  obtain ⟨r,hr,r1,r2⟩ := M.asking w h1 (i + 1) a2
  simp only [Instr.findAsking,Sem.run_bind,hk,he,Result.andThen_ok,cJ]
  cases jT ks ks' with
  | true => exact ⟨some (i,.int .i64 v),by simp [hv],fun v' h => by cases h; exact ⟨i,rfl⟩,fun h => by cases h⟩
  | false => exact ⟨r,by simpa using hr,r1,r2⟩
theorem MapT.check (M : MapT P t sh k e fs) (w : World) (em : Bool) {ks : List D} (h1 : cU sh ks = true) : (Instr.checkKey em 10000 k (.agg (ks.map gH).toArray)).run P w = .ok () w := by
 have he := M.eq
 unfold uG at he
 rw [M.key] at he
 simp only [Bool.and_eq_true,Bool.not_eq_true'] at he
 have each : ∀ (i : Nat) (f : Field), fs.toList[i]? = some f → f.name ≠ "_" ∧ ∃ a, (Go.part f.type (ks.map gH).toArray f.offset).run P w = .ok a w ∧ (Instr.checkKey em 9999 f.type a).run P w = .ok () w := by
  intro i f hf
  have hz := jJ 0 he.2 i f hf
  simp only [Bool.and_eq_true] at hz
  have hoff : f.offset = i := by simpa using hz.2
  have hm := List.mem_of_getElem? hf
  obtain ⟨td,htd,htd'⟩ := lU M.sh f hm
  have hi : i < ks.length := by rw [rz h1,j8 M.sh]; exact aQ hf
  have hg : (ks.map gH).toArray[i]? = some (gH ks[i]) := by simp [hi]
  refine ⟨M.nm f hm,_,by rw [hoff]; exact mW hg htd htd',?_⟩
  rw [show (9999 : Nat) = 9998 + 1 from rfl,Instr.checkKey]
  simp only [Sem.run_bind,run_underlying htd,Result.andThen_ok]
  rcases htd' with rfl | rfl | ⟨q,rfl⟩ <;> rfl
 rw [show (10000 : Nat) = 9999 + 1 from rfl,Instr.checkKey]
 simp only [Sem.run_bind,run_underlying M.key,Result.andThen_ok]
 rw [<- Array.forIn_toList]
 generalize fs.toList = L at each
 induction L with
 | nil => simp
 | cons f L ih =>
  obtain ⟨hn,a,p1,p2⟩ := each 0 f rfl
  simp only [List.forIn_cons,Sem.run_bind,hn,ne_eq,not_false_eq_true,if_true,Result.andThen_ok,p1,p2,Sem.run_pure]
  exact ih (fun i g hg => each (i + 1) g (by simpa using hg))
theorem MapT.find (M : MapT P t sh k e fs) (w : World) {ks : List D} (h1 : cU sh ks = true) {xs : List D} {es : List MapEntry} (ha : All2 (gn sh) xs es) :
  ∃ r,(Instr.findKey k (.agg (ks.map gH).toArray) es).run P w = .ok r w /\ (∀ v,cJ xs ks = some v -> ∃ j,r = some (j,.int .i64 v)) /\ (cJ xs ks = none -> r = none) := by
 rw [run_findKey_eq w (by rw [M.key])]
 exact M.asking w h1 0 ha
theorem wk {w : World} {n : Int} {kk : IntKind} (hz : dd P e = some (.d (.int kk n))) : (zeroValue e).run P w = .ok (.int kk n) w := by
 unfold dd at hz
 split at hz
 ·rename_i it hit
  cases hzz : it.zero with
  | none => rw [hzz] at hz; simp at hz
  | some zv =>
   rw [hzz] at hz; simp at hz
   have : zv = .int kk n := by
    unfold iR at hz
    split at hz
    ·cases hz
    ·unfold ofV at hz
     split at hz <;> cases hz
     rfl
   subst this
   simp [zeroValue,cR hit,hzz]
 ·cases hz
theorem vK {xs ks : List D} {v : Int} (h : cJ xs ks = some v) : mR xs ks = v /\ ja xs ks = true := by simp [mR,ja,h]
theorem vJ {xs ks : List D} (h : cJ xs ks = none) : mR xs ks = 0 /\ ja xs ks = false := by simp [mR,ja,h]
theorem MapT.look (M : MapT P t sh k e fs) {w : World} {b : Nat} {es : Array MapEntry} {clock : Nat} (hb : w.heap[b]? = some (.map es clock)) {ks : List D} (h1 : cU sh ks = true) {xs : List D} (ha : All2 (gn sh) xs es.toList) :
  (Instr.lookup t (.map (some b)) (.agg (ks.map gH).toArray) true).run P w = .ok (.tuple #[.int .i64 (mR xs ks),.bool (ja xs ks)]) w := by
 obtain ⟨r,hr,r1,r2⟩ := M.find w h1 ha
 cases hm : cJ xs ks with
 | some v =>
  obtain ⟨j,rfl⟩ := r1 v hm
  obtain ⟨e1,e2⟩ := vK hm
  simp [Instr.lookup,run_underlying M.map,MapKept.run_getObj_map hb,M.check w _ h1,hr,Result.andThen,e1,e2]
 | none =>
  have := r2 hm
  subst this
  obtain ⟨e1,e2⟩ := vJ hm
  simp [Instr.lookup,run_underlying M.map,MapKept.run_getObj_map hb,M.check w _ h1,hr,Result.andThen,e1,e2,wk M.zero]
theorem MapT.put (M : MapT P t sh k e fs) {w : World} {b : Nat} {es : Array MapEntry} {clock : Nat} (hb : w.heap[b]? = some (.map es clock)) {ks : List D} (h1 : cU sh ks = true) {xs : List D} (ha : All2 (gn sh) xs es.toList) (hn : ja xs ks = false) (v : Int) :
  (Instr.mapUpdate t (.map (some b)) (.agg (ks.map gH).toArray) (.int .i64 v)).run P w = .ok () { w with heap := w.heap.setIfInBounds b (.map (es.push ⟨.agg (ks.map gH).toArray,.int .i64 v,clock⟩) (clock + 1)) } := by
 obtain ⟨r,hr,r1,r2⟩ := M.find w h1 ha
 have hm : cJ xs ks = none := by
  unfold ja at hn
  cases h : cJ xs ks with
  | none => rfl
  | some v => rw [h] at hn; cases hn
 have := r2 hm
 subst this
 simp [Instr.mapUpdate,run_underlying M.map,MapKept.run_getObj_map hb,M.check w _ h1,hr,Result.andThen,MapKept.run_setObj_map _ hb]
theorem pH : ∀ {as : List A} {ks : List D},dsA as = some ks -> as = ks.map .d
 | [],ks,h => by simp only [dsA,Option.some.injEq] at h; subst h; rfl
 | .d x :: r,ks,h => by
  simp only [dsA] at h
  obtain ⟨q,hq,rfl⟩ := Option.map_eq_some_iff.1 h
  rw [pH hq]; rfl
 | .ref _ _ _ :: _,ks,h => by cases h
 | .rp _ _ _ _ :: _,ks,h => by cases h
 | .asl _ _ :: _,ks,h => by cases h
 | .agg _ :: _,ks,h => by cases h
 | .tup _ :: _,ks,h => by cases h
 | .fn _ _ :: _,ks,h => by cases h
 | .mp _ :: _,ks,h => by cases h
 | .undef :: _,ks,h => by cases h
theorem jD : ∀ {sh sh' ks : List D},cU sh sh' = true -> cU sh ks = true -> cU sh' ks = true
 | [],[],ks,_,h2 => h2
 | [],_ :: _,_,h,_ => by cases h
 | _ :: _,[],_,h,_ => by cases h
 | s :: sh,x :: sh',[],_,h2 => by cases h2
 | s :: sh,x :: sh',y :: ks,h1,h2 => by
  simp only [cU,Bool.and_eq_true] at h1 h2 ⊢
  refine ⟨?_,jD h1.2 h2.2⟩
  have a := h1.1; have b := h2.1
  cases s <;> cases x <;> simp only [eJ] at a <;> first | cases a | skip
  all_goals cases y <;> simp only [eJ] at b ⊢ <;> first | cases b | skip
  have a := of_decide_eq_true a; have b := of_decide_eq_true b
  subst a; subst b; exact decide_eq_true rfl
theorem pr : ∀ {sh sh' : List D},cU sh sh' = true -> cU sh' sh = true
 | [],[],_ => rfl
 | [],_ :: _,h => by cases h
 | _ :: _,[],h => by cases h
 | s :: sh,x :: sh',h1 => by
  simp only [cU,Bool.and_eq_true] at h1 ⊢
  refine ⟨?_,pr h1.2⟩
  have a := h1.1
  cases s <;> cases x <;> simp only [eJ] at a ⊢ <;> first | cases a | skip
  have a := of_decide_eq_true a
  subst a; exact decide_eq_true rfl
theorem oL {sh sh' : List D} (h : cU sh' sh = true) {x : D} {en : MapEntry} (hx : gn sh x en) : gn sh' x en := by
 obtain ⟨ks,v,h1,h2,h3⟩ := hx
 exact ⟨ks,v,h1,jD (pr h) h2,h3⟩
end plain
section mem
variable {F : Fr} {h : Ups} {loc : Nat -> Loc} {O : Nat -> List Res} {who : Nat -> Option (Option Nat)} {B : Nat -> Prop} {w w' : World}
theorem wE (s : HSc F h loc O who B w) (n : Nat) (hf : hfind h n = none) (sh : List D) : Done F h loc B w [(n,some (.mp sh []))] (.mp n) (.map (some w.heap.size)) (w.alloc (.map #[] 0)) := by
 have hw0 : F.w0.heap.size <= w.heap.size := s.chg.size
 have hsame : ∀ b,b < w.heap.size -> (w.alloc (.map #[] 0)).heap[b]? = w.heap[b]? := fun b hb => mZ hb
 have hsz : (w.alloc (.map #[] 0)).heap.size = w.heap.size + 1 := by show (w.heap.push _).size = _; simp
 have hnew : (w.alloc (.map #[] 0)).heap[w.heap.size]? = some (.map #[] 0) := mY
 have hch : Chg [] w (w.alloc (.map #[] 0)) := ⟨rfl,rfl,by omega,fun b hb _ => hsame b hb,fun b c ty fr hb => ⟨c,fr,(hsame b (ew hb)).trans hb,rfl,id,fun _ _ => rfl⟩⟩
 obtain ⟨s1,k1⟩ := s.world (w' := w.alloc (.map #[] 0)) (by omega) (s.chg.step hch (by simp)) (by
  intro b hb'
  rcases hb' with hb' | ⟨id,hid,_⟩
  ·exact hsame b (s.blt b hb')
  ·exact hsame b (s.mine b _ hid).2.1)
 have s2 := s1.take [w.heap.size] (by
  intro b hb'
  simp at hb'; subst hb'
  refine ⟨rV s,fun hB => absurd (s.blt _ hB) (by omega),by omega,hw0⟩)
 have ext : Ext h loc ((n,some (.mp sh [])) :: h) (fun i => if i = n then .at w.heap.size 0 0 else loc i) := by
  intro id ob ho
  rw [aj]
  have hne : ¬ n = id := by intro e; subst e; rw [hf] at ho; cases ho
  exact ⟨ob,by simp [hne,ho],fun b hb => ⟨b,hb,rfl,rfl,by simp [show ¬ id = n from fun e => hne e.symm]⟩⟩
 have k2 : Kp (w.alloc (.map #[] 0)) B h loc (w.alloc (.map #[] 0)) B ((n,some (.mp sh [])) :: h) (fun i => if i = n then .at w.heap.size 0 0 else loc i) := Kp.of (fun _ h => h) (fun _ _ => rfl) ext
 have s3 := s2.set n (.mp sh []) (.at w.heap.size 0 0) [.arr w.heap.size] ext ⟨w.heap.size,0,0,#[],0,rfl,hnew,.nil,rfl⟩ (by
  intro r hr
  simp only [List.mem_singleton] at hr; subst hr
  left; simp [Res.blk]) (by simp [aa]) (by
  intro r hr
  simp only [List.mem_singleton] at hr; subst hr
  exact .inl hw0)
 refine ⟨_,_,_,_,s3.same (fun i hi => hi.1.elim),k1.trans k2,⟨_,rfl⟩,some (.mp sh []),by rw [List.singleton_append,aj]; simp,fun blk hb => by cases hb; exact ⟨w.heap.size,0,0,by simp,rfl⟩⟩
theorem wG (s : HSc F h loc O who B w) {id b base sz : Nat} {sh xs xs' : List D} (hg : ae h id = some (.mp sh xs)) (hloc : loc id = .at b base sz) {es es' : Array MapEntry} {clock clock' : Nat} (hb : w.heap[b]? = some (.map es clock))
  (ha : All2 (gn sh) xs' es'.toList) : Done F h loc B w [(id,some (.mp sh xs'))] (.tup []) undef { w with heap := w.heap.setIfInBounds b (.map es' clock') } := by
 obtain ⟨b',base',sz',es0,clock0,hl',hh,ha0,hO⟩ := s.blk id _ hg (fun hx => hx)
 rw [hloc] at hl'; cases hl'
 have hwho : who b = some (some id) := s.own id _ hg (.arr b) (by rw [hO]; simp)
 have nB : ¬ B b := (s.mine b _ hwho).1
 have hlt := (s.mine b _ hwho).2.1
 have hset := MapKept.heap_set (o' := .map es' clock') hb
 have hsz : (w.heap.setIfInBounds b (.map es' clock')).size = w.heap.size := by simp
 have hch : Chg [.arr b] w { w with heap := w.heap.setIfInBounds b (.map es' clock') } := ⟨rfl,rfl,by simp,fun b' _ hb' => hset.2 b' (by rintro rfl; exact hb' (by simp [aa,Res.blk])),fun b' c ty fr hc => by
  have hne : b' ≠ b := by rintro rfl; rw [hb] at hc; cases hc
  exact ⟨c,fr,(hset.2 b' hne).trans hc,rfl,fun h => h,fun _ _ => rfl⟩⟩
 obtain ⟨s1,k1⟩ := (s.opn (fun i => i = id)).world (w' := { w with heap := w.heap.setIfInBounds b (.map es' clock') }) (by simp) (s.chg.step hch (fun r hr => by
   simp only [List.mem_singleton] at hr; subst hr
   exact s.okr id _ hg _ (by rw [hO]; simp))) (by
  intro b' hb'
  refine hset.2 b' ?_
  rintro rfl
  rcases hb' with hb' | ⟨j,hj,hx⟩
  ·exact nB hb'
  ·rw [hwho] at hj; cases hj; exact hx (.inr rfl))
 have ext : Ext h loc ((id,some (.mp sh xs')) :: h) loc := ch hg rfl rfl
 have k2 : Kp { w with heap := w.heap.setIfInBounds b (.map es' clock') } B h loc { w with heap := w.heap.setIfInBounds b (.map es' clock') } B ((id,some (.mp sh xs')) :: h) loc := Kp.of (fun _ h => h) (fun _ _ => rfl) ext
 have s3 := s1.set id (.mp sh xs') (loc id) (O id) (by rw [aX loc id rfl]; exact ext) (by
  rw [aX loc id rfl,hO]
  exact ⟨b,base,sz,es',clock',hloc,hset.1,ha,rfl⟩) (fun r hr => by right; exact s.own id _ hg r hr) (s.nod id _ hg) (s.okr id _ hg)
 rw [aX loc id rfl] at s3
 exact ⟨loc,_,_,B,s3.same (fun i hi => by
  rcases hi.1 with h1 | h1
  ·exact h1
  ·exact absurd h1 hi.2),k1.trans k2,#[],rfl,.nil⟩
end mem
section ops
variable {P : Program} {cf : Cfg} {call : Nat -> List D -> Option Ret} {n : Nat} {o : Oper} {σ : St} {R : Type} {K : A -> Ups -> List Nat -> Option R} {r : R}
theorem qx {t : TypeId} {sh : List D} (ho : o.op = .makeMap t none) (h : K (.mp n) [(n,some (.mp sh []))] [] = some r) : bc P n o σ K r := by
 refine ⟨_,_,_,h,⟨fun id hid => .inr (by simp at hid; subst hid; simp [ai]),fun F hh a w loc O who B hr hf hfr s => ?_⟩⟩
 refine Runs.value (w' := w.alloc (.map #[] 0)) ?_ (wE s n (hfr n (Nat.le_refl _) (by simp [ai])) sh)
 have hr : (Instr.makeMap t none).run P w = .ok (.map (some w.heap.size)) (w.alloc (.map #[] 0)) := rfl
 simp [execOp,ho,hr]
theorem sC {t : TypeId} {x i : Operand} (ho : o.op = .lookup t x i true) (h : pi P σ.heap t (ev σ x) (ev σ i) K = some r) : bc P n o σ K r := by
 unfold pi at h
 split at h
 case h_2 => cases h
 rename_i id ks sh hx hi hm
 split at h
 case h_2 => cases h
 rename_i sh' xs key hg hd
 split at h
 case h_2 => cases h
 rename_i hc
 simp only [Bool.and_eq_true] at hc
 obtain ⟨k,e,fs,M⟩ := mQ hm
 refine ⟨_,_,_,h,Sound.mk (by simp) (fun F hh a w loc O who B hv hf hfr s => ?_)⟩
 have h1 := hv x (by simp [ho,Op.operands])
 have h2 := hv i (by simp [ho,Op.operands])
 rw [hx] at h1; rw [hi,pH hd] at h2
 obtain ⟨_,ob,hob,hb⟩ := h1
 have hg' : ae hh id = some (.mp sh' xs) := by rw [am (hf id (by simp)),hg]
 rw [hget_some.1 hg'] at hob; cases hob
 obtain ⟨b,base,sz,hloc,hval⟩ := hb _ rfl
 obtain ⟨b',base',sz',es,clock,hl',hh',ha,hO⟩ := s.blk id _ hg' (fun hx => hx)
 rw [hloc] at hl'; cases hl'
 obtain ⟨vs,hve,hvs⟩ := h2
 have hve2 : a.eval i = .agg (key.map gH).toArray := by
  rw [hve]
  congr 1
  apply Array.ext'
  simpa using nn hc.1 hvs
 have hrun := M.look hh' hc.1 (ha.mono (fun _ _ h => oL hc.2 h))
 refine Runs.value (w' := w) ?_ ⟨loc,O,who,B,s,Kp.refl _ _ _ _,#[.int .i64 (mR xs key),.bool (ja xs key)],rfl,.cons ⟨trivial,by simp [ac]⟩ (.cons ⟨trivial,by simp [ac]⟩ .nil)⟩
 simp [execOp,ho,hval,hve2,hrun]
theorem uV {t : TypeId} {x y z : Operand} (ho : o.op = .mapUpdate t x y z) (h : uQ P σ.heap t (ev σ x) (ev σ y) (ev σ z) K = some r) : bc P n o σ K r := by
 unfold uQ at h
 split at h
 case h_2 => cases h
 rename_i id ks v sh hx hi hz hm
 split at h
 case h_2 => cases h
 rename_i sh' xs key hg hd
 split at h
 case h_2 => cases h
 rename_i hc
 simp only [Bool.and_eq_true] at hc
 obtain ⟨hn,h⟩ := aE h
 simp only [Bool.not_eq_true'] at hn
 obtain ⟨k,e,fs,M⟩ := mQ hm
 refine ⟨_,_,_,h,Sound.mk (by simp) (fun F hh a w loc O who B hv hf hfr s => ?_)⟩
 have h1 := hv x (by simp [ho,Op.operands])
 have h2 := hv y (by simp [ho,Op.operands])
 have h3 := hv z (by simp [ho,Op.operands])
 rw [hx] at h1; rw [hi,pH hd] at h2; rw [hz] at h3
 have h3 := rep_int.1 h3
 obtain ⟨_,ob,hob,hb⟩ := h1
 have hg' : ae hh id = some (.mp sh' xs) := by rw [am (hf id (by simp)),hg]
 rw [hget_some.1 hg'] at hob; cases hob
 obtain ⟨b,base,sz,hloc,hval⟩ := hb _ rfl
 obtain ⟨b',base',sz',es,clock,hl',hh',ha,hO⟩ := s.blk id _ hg' (fun hx => hx)
 rw [hloc] at hl'; cases hl'
 obtain ⟨vs,hve,hvs⟩ := h2
 have hve2 : a.eval y = .agg (key.map gH).toArray := by
  rw [hve]
  congr 1
  apply Array.ext'
  simpa using nn hc.1 hvs
 have hrun := M.put hh' hc.1 (ha.mono (fun _ _ h => oL hc.2 h)) hn v
 have ha2 : All2 (gn sh') (vL xs key v) (es.push ⟨.agg (key.map gH).toArray,.int .i64 v,clock⟩).toList := by
  unfold vL
  rw [Array.toList_push]
  exact ha.append (.cons ⟨key,v,rfl,jD hc.2 hc.1,rfl,rfl⟩ .nil)
 refine Runs.skip ?_ (wG s hg' hloc hh' (clock' := clock + 1) ha2)
 simp only [execOp,ho,hval,hve2,h3,Sem.run_bind,hrun,Result.andThen_ok,Sem.run_pure]
end ops
section
variable {P : Program} {cf : Cfg} {call : Nat -> List D -> Option Ret} {n : Nat} {o : Oper} {σ : St} {R : Type} {K : A -> Ups -> List Nat -> Option R} {r : R}
set_option maxHeartbeats 1000000 in
theorem uZ (hs : df P cf call) (h : opK P cf call n o σ K = some r) : bc P n o σ K r := by
 unfold opK at h
 split at h
 ·rename_i x ho; exact vg ho h
 ·rename_i x ho; exact rJ ho h
 ·rename_i c a b ho
  split at h
  ·rename_i t x y h1 h2 h3; exact vh ho h1 h2 h3 h
  ·rename_i h1 _; exact tv ho h1 h
  ·rename_i h1 _; exact tu ho h1 h
  ·cases h
 ·rename_i t ho
  split at h
  ·rename_i z hz
   split at h
   ·rename_i hp; exact tj ho hz hp h
   ·cases h
  ·cases h
 ·rename_i t x ho
  split at h
  ·rename_i hp; exact wb ho hp h
  ·cases h
 ·rename_i t parts ho
  split at h
  ·rename_i z fs hz hu
   split at h
   ·rename_i cs hc hf
    simp only [Bool.and_eq_true] at hc
    exact tk ho hz hu hc.1 hc.2 hf h
   ·cases h
  ·cases h
 ·rename_i t len parts ho
  split at h
  ·rename_i e hu
   split at h
   ·rename_i i z ts hi hz hts
    split at h
    ·rename_i hc
     simp only [Bool.and_eq_true,decide_eq_true_eq,beq_iff_eq] at hc
     obtain ⟨⟨⟨⟨⟨⟨h1,h2⟩,h3⟩,h4⟩,h5⟩,h6⟩,h7⟩ := hc
     split at h
     ·rename_i xs gone hel
      split at h
      ·rename_i k hnd hk
       exact lQ ho hu hi hz h3 h1 h2 h5 h6 h7 hel hnd hk h
      ·cases h
     ·cases h
    ·cases h
   ·cases h
  ·cases h
 ·rename_i t ho
  split at h
  ·exact qx ho h
  ·cases h
 ·rename_i t x i ho; exact sC ho h
 ·rename_i t m k v ho; exact uV ho h
 ·rename_i t a ho; exact sA ho h
 ·rename_i t a v ho; exact rI ho h
 ·rename_i x ho
  split at h
  ·rename_i id i off hx; exact rL ho hx h
  ·rename_i z xs i off hx; exact tt ho hx h
  ·cases h
 ·rename_i op t x y yt ho; exact wa ho h
 ·rename_i op t x ho
  split at h
  ·rename_i b hx; exact wg (op := .not) ho hx h
  ·rename_i k a hx; exact we ho hx h
  ·cases h
 ·rename_i src dst x ho; exact sk ho h
 ·rename_i f first caps ho
  split at h
  ·rename_i hf hc
   refine nV ho hf h (fun x hx => ?_)
   have := List.all_eq_true.1 hc x (by simpa using hx)
   cases he : ev σ x <;> rw [he] at this <;> first | trivial | cases this
  ·cases h
 ·rename_i t l c ho
  split at h
  ·rename_i e k hu hl hsame
   split at h
   ·rename_i i z hi hz
    split at h
    ·rename_i x hel
     split at h
     ·rename_i hc
      simp only [Bool.and_eq_true,decide_eq_true_eq,beq_iff_eq] at hc
      obtain ⟨⟨⟨⟨h1,h2⟩,h3⟩,h4⟩,h5⟩ := hc
      split at h
      ·rename_i q hk
       obtain ⟨hb,h⟩ := aE h
       simp only [Bool.and_eq_true,decide_eq_true_eq] at hb
       exact nu ho hu hi hz hl hsame hel h4 h5 h1 h2 h3 hk hb h
      ·cases h
     ·cases h
    ·cases h
   ·cases h
  ·cases h
 ·rename_i t x lo hi ho
  split at h
  ·rename_i s l hh hx hl hhi
   split at h
   ·rename_i hu
    split at h
    ·refine dt ho hu hx hl hhi (by rfl) ?_
     have e : s.extract (aU none) (aM s.size none) = s := ByteArray.extract_zero_size ..
     rw [e]; exact h
    ·obtain ⟨hc,h⟩ := aE h; exact dt ho hu hx hl hhi hc h
    ·obtain ⟨hc,h⟩ := aE h; exact dt ho hu hx hl hhi hc h
    ·obtain ⟨hc,h⟩ := aE h; exact dt ho hu hx hl hhi hc h
   ·cases h
  ·rename_i z xs l hh hx hl hhi
   split at h
   ·rename_i e hu
    split at h
    ·rename_i hz
     obtain ⟨hc,h⟩ := aE h
     exact qy ho hu (by simpa using hz) hx hl hhi hc h
    ·cases h
   ·cases h
  ·rename_i id rng l hh hx hl hhi
   have go : ∀ (m : Nat) (f : List Nat) (e : TypeId) (z : Z) (xs : List D) (blk : Blk),lenOf σ.heap (.asl id rng) = some (m,f) -> P.underlying t = some (.slice e) -> ae σ.heap id = some blk -> (blk = .arr z xs \/ blk = .fz z xs) -> (match (tsz P e == some z.1) with
     | true => match (generalizing := false) rng with
      | none => grd (cW m l hh) (K (.asl id (jM m none l hh)) [] [id])
      | some (o,q) => match lenOf σ.heap (.asl id none) with
       | some (m0,_) => grd (gW q (m0 - o) l hh) (K (.asl id (jM q (some (o,q)) l hh)) [] [id])
       | none => none
     | false => none) = some r -> bc P n o σ K r := by
    intro m f e z xs blk hm hu hg hblk h
    have hlen : ∀ rg,lenOf σ.heap (.asl id rg) = some (bz xs.length rg,[id]) := by
     intro rg
     rcases hblk with rfl | rfl <;> simp only [lenOf,hg]
    have hbz : b9 blk = z.1 := by rcases hblk with rfl | rfl <;> rfl
    have hbl : aI blk = some xs.length := by rcases hblk with rfl | rfl <;> rfl
    split at h
    ·rename_i hz
     cases rng with
     | none =>
      obtain ⟨hc,h⟩ := aE h
      rw [hlen] at hm
      have hm' : bz xs.length none = m := by simp only [Option.some.injEq,Prod.mk.injEq] at hm; exact hm.1
      exact nW ho hu (by simpa using hz) hx hg hbz hbl hm' hl hhi hc h
     | some p =>
      obtain ⟨o1,q⟩ := p
      simp only [hlen] at h
      obtain ⟨hc,h⟩ := aE h
      exact rN ho hu (by simpa using hz) hx hg hbz hbl hl hhi hc h
    ·cases h
   split at h
   ·rename_i m f e z xs hm hu hg; exact go m f e z xs _ hm hu hg (.inl rfl) h
   ·rename_i m f e z xs hm hu hg; exact go m f e z xs _ hm hu hg (.inr rfl) h
   ·cases h
  ·cases h
 ·rename_i t x lo hi mx ho
  split at h
  ·rename_i id rng l hh k m hx hl hhi hm
   have go : ∀ (q : Nat) (f : List Nat) (e : TypeId) (z : Z) (xs : List D) (blk : Blk),lenOf σ.heap (.asl id rng) = some (q,f) -> P.underlying t = some (.slice e) -> ae σ.heap id = some blk -> (blk = .arr z xs \/ blk = .fz z xs) -> (match (tsz P e == some z.1) with
     | true => grd (decide (0 <= m) && decide (m <= (q : Int)) && hh.isSome && cW m.toNat l hh) (K .undef [] [id])
     | false => none) = some r -> bc P n o σ K r := by
    intro q f e z xs blk hq hu hg hblk h
    have hlen : lenOf σ.heap (.asl id rng) = some (bz xs.length rng,[id]) := by
     rcases hblk with rfl | rfl <;> simp only [lenOf,hg]
    have hbl : aI blk = some xs.length := by rcases hblk with rfl | rfl <;> rfl
    split at h
    ·rename_i hz
     obtain ⟨hc,h9⟩ := aE h
     simp only [Bool.and_eq_true,decide_eq_true_eq] at hc
     obtain ⟨⟨⟨h1,h2⟩,h3⟩,h4⟩ := hc
     clear h
     obtain ⟨y,hy⟩ := Option.isSome_iff_exists.1 h3
     rw [hy] at hhi h4
     rw [hlen] at hq
     have hq' : bz xs.length rng = q := by simp only [Option.some.injEq,Prod.mk.injEq] at hq; exact hq.1
     exact rM ho hu (by simpa using hz) hx hg hbl hq' hl hhi hm h1 h2 h4 h9
    ·cases h
   split at h
   ·rename_i q f e z xs hq hu hg; exact go q f e z xs _ hq hu hg (.inl rfl) h
   ·rename_i q f e z xs hq hu hg; exact go q f e z xs _ hq hu hg (.inr rfl) h
   ·cases h
  ·cases h
 ·rename_i s a f ho
  split at h
  ·rename_i fs hu
   split at h
   ·rename_i fd hf
    split at h
    ·rename_i sz hs
     split at h
     ·rename_i id i off hx; exact nU ho hu hx hf hs h
     ·rename_i z xs i off hx; exact qr ho hu hx hf hs h
     ·cases h
    ·cases h
   ·cases h
  ·cases h
 ·rename_i s x f ho
  split at h
  ·rename_i fs cs hu hx
   split at h
   ·rename_i fd hf
    split at h
    ·rename_i sz hs
     split at h
     ·rename_i v hl hv; exact tn ho hu hx hf hs (of_decide_eq_true hl) hv h
     ·cases h
    ·cases h
   ·cases h
  ·cases h
 ·rename_i t x ix ho
  split at h
  ·rename_i k i e hi hu
   split at h
   ·rename_i z xs hx
    split at h
    ·rename_i hz
     obtain ⟨hb,h⟩ := aE h
     exact qt ho hu hx hi hz hb h
    ·cases h
   ·rename_i id rng hx
    have go : ∀ (z : Z) (xs : List D) (blk : Blk),ae σ.heap id = some blk -> (blk = .arr z xs \/ blk = .fz z xs) -> (match (tsz P e == some z.1) with
     | true => match (generalizing := false) rng with
      | none => grd (decide (0 <= i) && decide (i < (xs.length : Int))) (K (.ref id i.toNat 0) [] [id])
      | some (o,l) => grd (decide (0 <= i) && decide (i < (l : Int)) && decide (o + l <= xs.length)) (K (.ref id (o + i.toNat) 0) [] [id])
     | false => none) = some r -> bc P n o σ K r := by
     intro z xs blk hg hblk h
     split at h
     ·rename_i hz
      cases rng with
      | none =>
       obtain ⟨hb,h⟩ := aE h
       simp only [Bool.and_eq_true,decide_eq_true_eq] at hb
       refine jg ho hu hx hi hg hblk hz ⟨hb.1,hb.2⟩ ?_
       simpa using h
      | some p =>
       obtain ⟨o1,l1⟩ := p
       obtain ⟨hb,h⟩ := aE h
       simp only [Bool.and_eq_true,decide_eq_true_eq] at hb
       exact jg ho hu hx hi hg hblk hz ⟨hb.1.1,hb.1.2⟩ h
     ·cases h
    split at h
    ·rename_i z xs hg; exact go z xs _ hg (.inl rfl) h
    ·rename_i z xs hg; exact go z xs _ hg (.inr rfl) h
    ·cases h
   ·cases h
  ·cases h
 ·rename_i t x ix ho
  split at h
  ·rename_i s k i hu hx hi
   obtain ⟨hb,h⟩ := aE h
   exact tp ho hu hx hi hb h
  ·cases h
 ·rename_i x i ho
  split at h
  ·rename_i vs hx
   split at h
   ·rename_i v hv; exact qq ho hx hv h
   ·cases h
  ·cases h
 ·rename_i c ho
  split at h
  ·rename_i f hc; exact vf ho hc hs h
  ·rename_i hc
   split at h
   ·rename_i x t ha ht
    split at h
    ·rename_i s hx hu; exact qu ho hc ha ht hu hx h
    ·rename_i e _ hu
     split at h
     ·rename_i m f hm; exact wc ho hc ha ht hu hm h
     ·cases h
    ·cases h
   ·cases h
  ·rename_i hc
   split at h
   ·rename_i x t ha ht
    split at h
    ·rename_i id rng e hx hu
     split at h
     ·rename_i z xs i ze hg hi hz
      split at h
      ·rename_i x0 hel
       split at h
       ·rename_i o1 l hcc hk
        simp only [Bool.and_eq_true,decide_eq_true_eq,beq_iff_eq] at hcc
        obtain ⟨⟨⟨⟨h1,h2⟩,h3⟩,h4⟩,h5⟩ := hcc
        obtain ⟨hle,h⟩ := aE h
        exact tm ho hc ha ht hu hx hg hi hz hel h1 h2 h3 h4 h5 hk (of_decide_eq_true hle) h
       ·cases h
      ·cases h
     ·cases h
    ·cases h
   ·cases h
  ·rename_i hc
   split at h
   ·rename_i x y ha
    split at h
    ·rename_i k a k' b hx hy; exact wd ho hc ha hx hy h
    ·cases h
   ·cases h
  ·rename_i hc
   split at h
   ·rename_i s x t u ha ht
    split at h
    ·rename_i e hu; exact lz ho hc ha ht hu (by intro k; simp) h
    ·rename_i hu; exact lz ho hc ha ht hu (by intro k; simp) h
    ·cases h
   ·cases h
  ·cases h
 ·cases h
end
structure Stp where
 v : A
 u : Ups
 f : List Nat
 go : Bool
def kR (ops : Array Oper) (o : Oper) (σ : St) : Prop :=
 match o.guard with
 | none => True
 | some (j,want) => ∃ dj,(ops[j]?).bind (·.dst) = some dj /\ aL σ.slots dj = .d (.bool want)
def du (ops : Array Oper) (o : Oper) (σ : St) : Prop :=
 match o.guard with
 | none => False
 | some (j,want) => ∃ dj,(ops[j]?).bind (·.dst) = some dj /\ (aL σ.slots dj = .tup [] \/ aL σ.slots dj = .d (.bool (!want)))
structure StepOk (P : Program) (ops : Array Oper) (n : Nat) (o : Oper) (σ : St) (s : Stp) : Prop where
 bnd : ∀ id ∈ s.u.map (·.1),id < n + ai
 run : s.go = true -> kR ops o σ /\ Sound P n o σ s.v s.u s.f
 skip : s.go = false -> du ops o σ /\ s.v = .tup [] /\ s.u = []
inductive Trace (P : Program) (ops : Array Oper) : List Oper -> Nat -> St -> List Stp -> St -> Prop
 | nil {n : Nat} {σ : St} : Trace P ops [] n σ [] σ
 | cons {o : Oper} {os : List Oper} {n : Nat} {σ σ' : St} {s : Stp} {ss : List Stp} : StepOk P ops n o σ s -> Trace P ops os (n + ai) (put σ o.dst s.v s.u) ss σ' -> Trace P ops (o :: os) n σ (s :: ss) σ'
def jn (ops : Array Oper) (o : Oper) (n : Nat) (s : Stp) : Foot := ⟨o.dst,gG ops o,s.f,s.u.map (·.1),n⟩
def kv (ops : Array Oper) : List Oper -> Nat -> List Stp -> List Foot
 | o :: os,n,s :: ss => jn ops o n s :: kv ops os (n + ai) ss
 | _,_,_ => []
theorem px {n : Nat} : ∀ {u : Ups},wV n u = true -> ∀ id ∈ u.map (·.1),id < n + ai
 | [],_,id,hid => by simp at hid
 | p :: r,h,id,hid => by
  simp only [wV,Bool.and_eq_true] at h
  simp only [List.map_cons,List.mem_cons] at hid
  rcases hid with rfl | hid
  ·simpa using h.1
  ·exact px h.2 id hid
theorem pu : ∀ {l : List A} {i : Nat} {a : A},aL l i = a -> a ≠ .undef -> sset l i a = l
 | [],i,a,h,hn => rfl
 | x :: r,0,a,h,hn => by simp only [aL] at h; subst h; rfl
 | x :: r,i + 1,a,h,hn => by simp only [aL] at h; simp only [sset,pu h hn]
theorem rn {σ : St} {d : Nat} {a : A} (h : aL σ.slots d = a) (hn : a ≠ .undef) : put σ (some d) a [] = σ := by
 simp only [put,List.nil_append,pu h hn]
section
variable {P : Program} {cf : Cfg} {call : Nat -> List D -> Option Ret} {ops : Array Oper} {R : Type} {r : R}
theorem mU (hs : df P cf call) : ∀ (os : List Oper) {n : Nat} {σ : St} {l : List Foot} {K : St -> List Foot -> Option R},fU P cf call ops os n σ l K = some r ->
  ∃ ss σ',Trace P ops os n σ ss σ' /\ K σ' (l ++ kv ops os n ss) = some r /\ ss.length = os.length
 | [],n,σ,l,K,h => ⟨[],σ,.nil,by simpa [kv,fU] using h,rfl⟩
 | o :: os,n,σ,l,K,h => by
  have fin : ∀ {σ : St} {s : Stp},(s.go = true -> kR ops o σ /\ Sound P n o σ s.v s.u s.f) -> (s.go = false -> du ops o σ /\ s.v = .tup [] /\ s.u = []) ->
    eW ops o n σ l (fun σ' l' => fU P cf call ops os (n + ai) σ' l' K) s.v s.u s.f = some r ->
    ∃ ss σ',Trace P ops (o :: os) n σ ss σ' /\ K σ' (l ++ kv ops (o :: os) n ss) = some r /\ ss.length = (o :: os).length := by
   intro σ s h1 h2 h3
   unfold eW at h3
   simp only [tW,gq] at h3
   split at h3
   ·rename_i hb
    obtain ⟨ss,σ',ht,hk,hlen⟩ := mU hs os h3
    refine ⟨s :: ss,σ',.cons ⟨px hb,h1,h2⟩ ht,?_,by simp [hlen]⟩
    simp only [kv,jn]
    simpa using hk
   ·cases h3
  have run : ∀ {σ : St},kR ops o σ -> opK P cf call n o σ (eW ops o n σ l fun σ' l' => fU P cf call ops os (n + ai) σ' l' K) = some r ->
    ∃ ss σ',Trace P ops (o :: os) n σ ss σ' /\ K σ' (l ++ kv ops (o :: os) n ss) = some r /\ ss.length = (o :: os).length := by
   intro σ hw h
   obtain ⟨v,u,f,hk,hsd⟩ := uZ hs h
   exact fin (s := ⟨v,u,f,true⟩) (fun _ => ⟨hw,hsd⟩) (fun h => by cases h) hk
  have skip : ∀ {σ : St},du ops o σ -> eW ops o n σ l (fun σ' l' => fU P cf call ops os (n + ai) σ' l' K) (.tup []) [] [] = some r ->
    ∃ ss σ',Trace P ops (o :: os) n σ ss σ' /\ K σ' (l ++ kv ops (o :: os) n ss) = some r /\ ss.length = (o :: os).length := by
   intro σ hw h
   exact fin (s := ⟨.tup [],[],[],false⟩) (fun h => by cases h) (fun _ => ⟨hw,rfl,rfl⟩) h
  simp only [fU] at h
  split at h
  ·rename_i hg
   exact run (by simp only [kR,hg]) h
  ·rename_i j want hg
   split at h
   ·cases h
   ·rename_i dj hdj
    split at h
    ·rename_i hsl
     exact skip (by simp only [du,hg]; exact ⟨dj,hdj,.inl hsl⟩) h
    ·rename_i b hsl
     cases b with
     | true =>
      simp only [br] at h
      rw [rn hsl (by simp)] at h
      split at h
      ·exact run (by simp only [kR,hg]; exact ⟨dj,hdj,hsl⟩) h
      ·exact skip (by simp only [du,hg]; exact ⟨dj,hdj,.inr hsl⟩) h
     | false =>
      simp only [br] at h
      rw [rn hsl (by simp)] at h
      split at h
      ·exact skip (by simp only [du,hg]; exact ⟨dj,hdj,.inr hsl⟩) h
      ·exact run (by simp only [kR,hg]; exact ⟨dj,hdj,hsl⟩) h
    ·cases h
end
def hS (S : Nat -> Bool) : List Stp -> Nat -> Ups -> Ups
 | [],_,h => h
 | s :: ss,k,h => hS S ss (k + 1) (match S k with | true => s.u ++ h | false => h)
def iA (l : List A) (dst : Option Nat) (v : A) : List A := match dst with | some d => sset l d v | none => l
def slS (S : Nat -> Bool) : List Oper -> List Stp -> Nat -> List A -> List A
 | o :: os,s :: ss,k,l => slS S os ss (k + 1) (match S k with | true => iA l o.dst s.v | false => l)
 | _,_,_,l => l
theorem gr {S : Nat -> Bool} : ∀ {ss : List Stp} {k : Nat} {h : Ups},(∀ j,k <= j -> S j = false) -> hS S ss k h = h
 | [],k,h,_ => rfl
 | s :: ss,k,h,hs => by simp only [hS,hs k (Nat.le_refl _)]; exact gr (fun j hj => hs j (by omega))
theorem gd {S : Nat -> Bool} : ∀ {os : List Oper} {ss : List Stp} {k : Nat} {l : List A},(∀ j,k <= j -> S j = false) -> slS S os ss k l = l
 | [],_,k,l,_ => by simp [slS]
 | _ :: _,[],k,l,_ => by simp [slS]
 | o :: os,s :: ss,k,l,hs => by simp only [slS,hs k (Nat.le_refl _)]; exact gd (fun j hj => hs j (by omega))
theorem vE {S S' : Nat -> Bool} : ∀ {ss : List Stp} {k : Nat} {h : Ups},(∀ m,m < ss.length -> S (k + m) = S' (k + m)) -> hS S ss k h = hS S' ss k h
 | [],k,h,_ => rfl
 | s :: ss,k,h,hs => by
  simp only [hS]
  have h0 : S k = S' k := hs 0 (by simp)
  rw [h0]
  exact vE (fun m hm => by have := hs (m + 1) (by simpa using hm); rwa [show k + (m + 1) = k + 1 + m by omega] at this)
theorem tg {S S' : Nat -> Bool} : ∀ {os : List Oper} {ss : List Stp} {k : Nat} {l : List A},(∀ m,m < ss.length -> S (k + m) = S' (k + m)) -> slS S os ss k l = slS S' os ss k l
 | [],_,k,l,_ => by simp [slS]
 | _ :: _,[],k,l,_ => by simp [slS]
 | o :: os,s :: ss,k,l,hs => by
  simp only [slS]
  have h0 : S k = S' k := hs 0 (by simp)
  rw [h0]
  exact tg (fun m hm => by have := hs (m + 1) (by simpa using hm); rwa [show k + (m + 1) = k + 1 + m by omega] at this)
theorem fQ {S S' : Nat -> Bool} {id : Nat} : ∀ {ss : List Stp} {k : Nat} {h h' : Ups},(∀ m s,ss[m]? = some s -> hfind s.u id ≠ none -> S (k + m) = S' (k + m)) -> hfind h id = hfind h' id -> hfind (hS S ss k h) id = hfind (hS S' ss k h') id
 | [],k,h,h',_,e => e
 | s :: ss,k,h,h',hs,e => by
  simp only [hS]
  refine fQ (fun m s' hm hne => by have := hs (m + 1) s' (by simpa using hm) hne; rwa [show k + (m + 1) = k + 1 + m by omega] at this) ?_
  by_cases hn : hfind s.u id = none
  ·have e1 : ∀ b : Bool,∀ h : Ups,hfind (match b with | true => s.u ++ h | false => h) id = hfind h id := by
    intro b h
    cases b
    ·rfl
    ·simp only [az,hn]
   rw [e1,e1]; exact e
  ·have h0 : S k = S' k := hs 0 s rfl hn
   rw [h0]
   cases S' k
   ·exact e
   ·simp only [az,e]
def de (S : Nat -> Bool) (i : Nat) : Nat -> Bool := fun j => j == i || S j
theorem vF {S : Nat -> Bool} {id : Nat} : ∀ {ss : List Stp} {k m : Nat} {h : Ups} {s : Stp},ss[m]? = some s -> S (k + m) = false ->
  (∀ m' s',ss[m']? = some s' -> m < m' -> S (k + m') = true -> hfind s'.u id = none \/ hfind s.u id = none) -> hfind (hS (de S (k + m)) ss k h) id = hfind (s.u ++ hS S ss k h) id
 | [],k,m,h,s,hm,_,_ => by simp at hm
 | s0 :: ss,k,0,h,s,hm,hf,hl => by
  simp only [List.getElem?_cons_zero,Option.some.injEq] at hm
  subst hm
  simp only [Nat.add_zero] at hf ⊢
  simp only [hS,hf,de,beq_self_eq_true,Bool.true_or]
  rw [az]
  by_cases hn : hfind s0.u id = none
  ·rw [hn]
   simp only
   refine fQ (fun m s' hm hne => ?_) (by rw [az,hn])
   have : (k + 1 + m == k) = false := by simp; omega
   simp only [de,this,Bool.false_or]
  ·have e : hfind (hS (de S k) ss (k + 1) (s0.u ++ h)) id = hfind (hS (fun _ => false) ss (k + 1) (s0.u ++ h)) id := by
    refine fQ (fun m s' hm hne => ?_) rfl
    have : (k + 1 + m == k) = false := by simp; omega
    simp only [de,this,Bool.false_or]
    cases hS' : S (k + 1 + m) with
    | false => rfl
    | true =>
     rcases hl (m + 1) s' (by simpa using hm) (by omega) (by rw [show k + (m + 1) = k + 1 + m by omega]; exact hS') with h1 | h1
     ·exact absurd h1 hne
     ·exact absurd h1 hn
   rw [e,gr (fun _ _ => rfl),az]
   cases hx : hfind s0.u id with
   | none => exact absurd hx hn
   | some x => rfl
 | s0 :: ss,k,m + 1,h,s,hm,hf,hl => by
  simp only [List.getElem?_cons_succ] at hm
  have hk : de S (k + (m + 1)) k = S k := by simp [de]
  simp only [hS,hk]
  have := vF (S := S) (id := id) (ss := ss) (k := k + 1) (m := m) (h := match S k with | true => s0.u ++ h | false => h) hm (by rw [show k + 1 + m = k + (m + 1) by omega]; exact hf)
   (fun m' s' hm' hlt hS' => hl (m' + 1) s' (by simpa using hm') (by omega) (by rw [show k + (m' + 1) = k + 1 + m' by omega]; exact hS'))
  rw [show k + 1 + m = k + (m + 1) by omega] at this
  exact this
theorem gb : ∀ {l : List A} {d t : Nat} {v : A},aL (sset l d v) t = if t = d /\ d < l.length then v else aL l t
 | [],d,t,v => by simp [sset,aL]
 | x :: l,0,0,v => by simp [sset,aL]
 | x :: l,0,t + 1,v => by simp [sset,aL]
 | x :: l,d + 1,0,v => by simp [sset,aL]
 | x :: l,d + 1,t + 1,v => by simp [sset,aL,gb (l := l)]
theorem dD {l : List A} {dst : Option Nat} {v : A} : (iA l dst v).length = l.length := by
 cases dst with
 | none => rfl
 | some d => exact fx l d v
theorem gE {l : List A} {dst : Option Nat} {v : A} {t : Nat} (h : dst ≠ some t) : aL (iA l dst v) t = aL l t := by
 cases dst with
 | none => rfl
 | some d =>
  simp only [iA,gb]
  rw [if_neg]
  rintro ⟨rfl,_⟩
  exact h rfl
theorem dq {S : Nat -> Bool} : ∀ {os : List Oper} {ss : List Stp} {k : Nat} {l : List A},(slS S os ss k l).length = l.length
 | [],_,k,l => by simp [slS]
 | _ :: _,[],k,l => by simp [slS]
 | o :: os,s :: ss,k,l => by
  simp only [slS]
  rw [dq]
  cases S k
  ·rfl
  ·exact dD
theorem gc {S S' : Nat -> Bool} {t : Nat} : ∀ {os : List Oper} {ss : List Stp} {k : Nat} {l l' : List A},(∀ m o,os[m]? = some o -> o.dst = some t -> S (k + m) = S' (k + m)) -> l.length = l'.length -> aL l t = aL l' t -> aL (slS S os ss k l) t = aL (slS S' os ss k l') t
 | [],_,k,l,l',_,_,e => by simpa [slS] using e
 | _ :: _,[],k,l,l',_,_,e => by simpa [slS] using e
 | o :: os,s :: ss,k,l,l',hs,hl,e => by
  simp only [slS]
  refine gc (fun m o' hm hne => by have := hs (m + 1) o' (by simpa using hm) hne; rwa [show k + (m + 1) = k + 1 + m by omega] at this) ?_ ?_
  ·have e1 : ∀ b : Bool,∀ l : List A,(match b with | true => iA l o.dst s.v | false => l).length = l.length := by
    intro b l; cases b
    ·rfl
    ·exact dD
   rw [e1,e1]; exact hl
  ·by_cases hd : o.dst = some t
   ·have h0 : S k = S' k := hs 0 o rfl hd
    rw [h0]
    cases S' k
    ·exact e
    ·simp only [iA,hd,gb,hl,e]
   ·have e1 : ∀ b : Bool,∀ l : List A,aL (match b with | true => iA l o.dst s.v | false => l) t = aL l t := by
     intro b l; cases b
     ·rfl
     ·exact gE hd
    rw [e1,e1]; exact e
theorem un {S : Nat -> Bool} {t : Nat} : ∀ {os : List Oper} {ss : List Stp} {k m : Nat} {l : List A} {o : Oper} {s : Stp},os[m]? = some o -> ss[m]? = some s -> S (k + m) = false ->
  (∀ m' o',os[m']? = some o' -> m < m' -> S (k + m') = true -> o.dst = some t -> o'.dst ≠ some t) -> aL (slS (de S (k + m)) os ss k l) t = aL (iA (slS S os ss k l) o.dst s.v) t
 | [],_,k,m,l,o,s,ho,_,_,_ => by simp at ho
 | _ :: _,[],k,m,l,o,s,_,hm,_,_ => by simp at hm
 | o0 :: os,s0 :: ss,k,0,l,o,s,ho,hm,hf,hl => by
  simp only [List.getElem?_cons_zero,Option.some.injEq] at ho hm
  subst ho hm
  simp only [Nat.add_zero] at hf ⊢
  simp only [slS,hf,de,beq_self_eq_true,Bool.true_or]
  by_cases hd : o0.dst = some t
  ·have e : aL (slS (de S k) os ss (k + 1) (iA l o0.dst s0.v)) t = aL (slS (fun _ => false) os ss (k + 1) (iA l o0.dst s0.v)) t := by
    refine gc (fun m o' hm hne => ?_) rfl rfl
    have : (k + 1 + m == k) = false := by simp; omega
    simp only [de,this,Bool.false_or]
    cases hS' : S (k + 1 + m) with
    | false => rfl
    | true => exact absurd hne (hl (m + 1) o' (by simpa using hm) (by omega) (by rw [show k + (m + 1) = k + 1 + m by omega]; exact hS') hd)
   rw [e,gd (fun _ _ => rfl)]
   have e2 : aL (slS S os ss (k + 1) l) t = aL (slS (fun _ => false) os ss (k + 1) l) t := by
    refine gc (fun m o' hm hne => ?_) rfl rfl
    cases hS' : S (k + 1 + m) with
    | false => rfl
    | true => exact absurd hne (hl (m + 1) o' (by simpa using hm) (by omega) (by rw [show k + (m + 1) = k + 1 + m by omega]; exact hS') hd)
   rw [gd (fun _ _ => rfl)] at e2
   simp only [iA,hd,gb,dq,e2]
  ·rw [gE hd]
   refine gc (fun m o' hm hne => ?_) dD (gE hd)
   have : (k + 1 + m == k) = false := by simp; omega
   simp only [de,this,Bool.false_or]
 | o0 :: os,s0 :: ss,k,m + 1,l,o,s,ho,hm,hf,hl => by
  simp only [List.getElem?_cons_succ] at ho hm
  have hk : de S (k + (m + 1)) k = S k := by simp [de]
  simp only [slS,hk]
  have := un (S := S) (t := t) (os := os) (ss := ss) (k := k + 1) (m := m) (l := match S k with | true => iA l o0.dst s0.v | false => l) ho hm (by rw [show k + 1 + m = k + (m + 1) by omega]; exact hf)
   (fun m' o' hm' hlt hS' => hl (m' + 1) o' (by simpa using hm') (by omega) (by rw [show k + (m' + 1) = k + 1 + m' by omega]; exact hS'))
  rw [show k + 1 + m = k + (m + 1) by omega] at this
  exact this
theorem xn {σ : St} {dst : Option Nat} {v : A} {u : Ups} : put σ dst v u = { σ with slots := iA σ.slots dst v,heap := u ++ σ.heap } := rfl
theorem vi {P : Program} {ops : Array Oper} {os : List Oper} {n : Nat} {σ σ' : St} {ss : List Stp} (tr : Trace P ops os n σ ss σ') : ∀ (k i : Nat) (o : Oper) (s : Stp),os[i]? = some o -> ss[i]? = some s ->
  StepOk P ops (n + ai * i) o { σ with slots := slS (fun j => decide (j < k + i)) os ss k σ.slots,heap := hS (fun j => decide (j < k + i)) ss k σ.heap } s := by
 induction tr with
 | nil => intro k i o s ho; simp at ho
 | @cons o0 os n σ σ' s0 ss h1 h2 ih =>
  intro k i o s ho hs
  cases i with
  | zero =>
   simp only [List.getElem?_cons_zero,Option.some.injEq] at ho hs
   subst ho hs
   rw [gd (fun j hj => by simp; omega),gr (fun j hj => by simp; omega)]
   exact h1
  | succ i =>
   simp only [List.getElem?_cons_succ] at ho hs
   have h3 := ih (k + 1) i o s ho hs
   rw [show n + ai + ai * i = n + ai * (i + 1) by rw [Nat.mul_succ]; omega,show k + 1 + i = k + (i + 1) by omega] at h3
   have hk : decide (k < k + (i + 1)) = true := by simp
   simp only [slS,hS,hk]
   exact h3
theorem kQ {P : Program} {ops : Array Oper} {os : List Oper} {n : Nat} {σ σ' : St} {ss : List Stp} (tr : Trace P ops os n σ ss σ') : ∀ (k : Nat),σ' = { σ with slots := slS (fun _ => true) os ss k σ.slots,heap := hS (fun _ => true) ss k σ.heap } := by
 induction tr with
 | nil => intro k; simp [slS,hS]
 | @cons o0 os n σ σ' s0 ss h1 h2 ih =>
  intro k
  rw [ih (k + 1)]
  simp only [slS,hS,xn]
theorem pw {P : Program} {ops : Array Oper} {os : List Oper} {n : Nat} {σ σ' : St} {ss : List Stp} (tr : Trace P ops os n σ ss σ') : ∀ (i : Nat) (s : Stp),ss[i]? = some s -> ∀ id ∈ s.u.map (·.1),id < n + ai * (i + 1) := by
 induction tr with
 | nil => intro i s hs; simp at hs
 | @cons o0 os n σ σ' s0 ss h1 h2 ih =>
  intro i s hs id hid
  cases i with
  | zero =>
   simp only [List.getElem?_cons_zero,Option.some.injEq] at hs
   subst hs
   have := h1.bnd id hid; omega
  | succ i =>
   simp only [List.getElem?_cons_succ] at hs
   have := ih i s hs id hid
   rw [Nat.mul_succ]; omega
theorem ge {P : Program} {ops : Array Oper} {os : List Oper} {n : Nat} {σ σ' : St} {ss : List Stp} (tr : Trace P ops os n σ ss σ') : ss.length = os.length := by
 induction tr with
 | nil => rfl
 | cons h1 h2 ih => simp [ih]
theorem Ext.congr {h h' : Ups} {loc : Nat -> Loc} (e : ∀ id,hfind h' id = hfind h id) : Ext h loc h' loc :=
 fun id ob ho => ⟨ob,(e id).trans ho,fun blk hb => ⟨blk,hb,rfl,rfl,rfl⟩⟩
theorem Kp.congr {w : World} {B : Nat -> Prop} {h h' : Ups} {loc : Nat -> Loc} (e : ∀ id,hfind h' id = hfind h id) : Kp w B h loc w B h' loc :=
 Kp.of (fun _ h => h) (fun _ _ => rfl) (Ext.congr e)
theorem HS.congr {B0 : Nat -> Prop} {w0 : World} {o0 : List Res} {X : Nat -> Prop} {h h' : Ups} {loc : Nat -> Loc} {O : Nat -> List Res} {who : Nat -> Option (Option Nat)} {B : Nat -> Prop} {w : World} (e : ∀ id,hfind h' id = hfind h id)
  (s : HS B0 w0 o0 X h loc O who B w) : HS B0 w0 o0 X h' loc O who B w := by
 have eg : ∀ id,ae h' id = ae h id := fun id => am (e id)
 refine ⟨fun id b hb hx => ?_,fun id b hb => s.own id b ((eg id).symm.trans hb),fun id b hb => s.nod id b ((eg id).symm.trans hb),fun id b hb => s.okr id b ((eg id).symm.trans hb),s.mine,s.blt,s.bsub,s.b0,s.chg⟩
 exact cy (Kp.congr e) (fun _ h => h) (fun _ _ => rfl) (s.blk id b ((eg id).symm.trans hb) hx)
structure Slots (w : World) (B : Nat -> Prop) (h : Ups) (loc : Nat -> Loc) (l : List A) (tmps : Array Value) : Prop where
 len : l.length = tmps.size
 rep : ∀ t,aJ w B h loc (aL l t) (tmps.getD t undef)
theorem Slots.mono {w w' : World} {B B' : Nat -> Prop} {h h' : Ups} {loc loc' : Nat -> Loc} {l : List A} {tmps : Array Value} (k : Kp w B h loc w' B' h' loc') (s : Slots w B h loc l tmps) : Slots w' B' h' loc' l tmps :=
 ⟨s.len,fun t => k.a (s.rep t)⟩
theorem vY : ∀ {l : List A} {t : Nat},l.length <= t -> aL l t = .undef
 | [],t,_ => rfl
 | _ :: _,0,h => by simp at h
 | _ :: l,t + 1,h => by simp only [aL]; exact vY (by simpa using h)
theorem u7 {w : World} {B : Nat -> Prop} {h : Ups} {loc : Nat -> Loc} {v : Value} : aJ w B h loc .undef v := trivial
theorem Slots.put {w : World} {B : Nat -> Prop} {h : Ups} {loc : Nat -> Loc} {l l' : List A} {a : Act} {dst : Option Nat} {v : A} {val : Value} (s : Slots w B h loc l a.tmps) (hv : aJ w B h loc v val) (hl : l'.length = l.length) (hp : ∀ t,aL l' t = aL (iA l dst v) t) :
  Slots w B h loc l' (a.put dst val).tmps := by
 cases dst with
 | none => exact ⟨hl.trans s.len,fun t => by rw [hp]; exact s.rep t⟩
 | some d =>
  refine ⟨by simp [Act.put,hl,s.len],fun t => ?_⟩
  rw [hp]
  simp only [iA,gb,Act.put]
  by_cases ht : t = d /\ d < l.length
  ·obtain ⟨rfl,hlt⟩ := ht
   rw [if_pos ⟨rfl,hlt⟩]
   have : t < a.tmps.size := by rw [<- s.len]; exact hlt
   simpa [this] using hv
  ·rw [if_neg ht]
   have : (a.tmps.setIfInBounds d val).getD t undef = a.tmps.getD t undef := by
    by_cases e : t = d
    ·subst e
     have : ¬ t < a.tmps.size := by rw [<- s.len]; exact fun h => ht ⟨rfl,h⟩
     simp [this]
    ·simp [Array.getElem?_setIfInBounds_ne (fun h => e h.symm),Array.getD_eq_getD_getElem?]
   rw [this]; exact s.rep t
theorem Slots.ev {w : World} {B : Nat -> Prop} {h : Ups} {loc : Nat -> Loc} {σ : St} {l : List A} {a : Act} (s : Slots w B h loc l a.tmps) {x : Operand} (hx : ∀ t,x = .tmp t -> aL σ.slots t = aL l t) : aJ w B h loc (Go.Eng.ev σ x) (a.eval x) := by
 cases x with
 | tmp t => simp only [Go.Eng.ev,Act.eval]; rw [hx t rfl]; exact s.rep t
 | const v => exact fX v
 | global g => exact u7
 | func f => exact ⟨#[],rfl,.nil⟩
theorem sF {ops : Array Oper} {o : Oper} {t : Nat} (h : Operand.tmp t ∈ o.op.operands) : t ∈ gG ops o := by
 simp only [gG,List.mem_append,List.mem_filterMap]
 exact .inl ⟨.tmp t,by simpa using h,rfl⟩
theorem kz {ops : Array Oper} {o : Oper} {j d : Nat} {want : Bool} (hg : o.guard = some (j,want)) (hd : (ops[j]?).bind (·.dst) = some d) : d ∈ gG ops o := by
 simp only [gG,List.mem_append,hg,hd]
 exact .inr (by simp)
theorem rep_emptyTup {w : World} {B : Nat -> Prop} {h : Ups} {loc : Nat -> Loc} {v : Value} : aJ w B h loc (.tup []) v ↔ v = undef := by
 rw [ui]
 constructor
 ·rintro ⟨vs,rfl,ha⟩
  have : vs.toList = [] := by cases hv : vs.toList with
   | nil => rfl
   | cons x l => rw [hv] at ha; cases ha
  have : vs = #[] := by apply Array.ext'; simpa using this
  rw [this]; rfl
 ·rintro rfl
  exact ⟨#[],rfl,.nil⟩
theorem vl {ops : Array Oper} {o : Oper} {σ : St} {w : World} {B : Nat -> Prop} {h : Ups} {loc : Nat -> Loc} {l : List A} {a : Act} (s : Slots w B h loc l a.tmps) (hu : ∀ t ∈ gG ops o,aL σ.slots t = aL l t) :
  (kR ops o σ -> Region.wanted o (yielded ops a.tmps) = true) /\ (du ops o σ -> Region.wanted o (yielded ops a.tmps) = false) := by
 unfold kR du Region.wanted
 cases hg : o.guard with
 | none => exact ⟨fun _ => rfl,fun h => h.elim⟩
 | some p =>
  obtain ⟨j,want⟩ := p
  simp only
  have val : ∀ d,(ops[j]?).bind (·.dst) = some d -> aJ w B h loc (aL σ.slots d) (a.tmps.getD d undef) := fun d hd => by rw [hu d (kz hg hd)]; exact s.rep d
  constructor
  ·rintro ⟨d,hd,hs⟩
   have hv := val d hd
   rw [hs,rep_bool] at hv
   have hx : a.tmps[d]? = some (.bool want) := by
    rw [Array.getD_eq_getD_getElem?] at hv
    cases hq : a.tmps[d]? with
    | none => rw [hq] at hv; cases hv
    | some q => rw [hq] at hv; exact congrArg some hv
   simp [yielded,hd,hx]
  ·rintro ⟨d,hd,hs⟩
   have hv := val d hd
   have hy : yielded ops a.tmps j ≠ some want := by
    unfold yielded
    rw [hd]
    simp only [Option.bind_some]
    cases hq : a.tmps[d]? with
    | none => simp
    | some q =>
     rw [Array.getD_eq_getD_getElem?,hq] at hv
     simp only [Option.getD_some] at hv
     rcases hs with hs | hs
     ·rw [hs,rep_emptyTup] at hv; subst hv; simp [undef]
     ·rw [hs,rep_bool] at hv; subst hv; simp
   simpa using hy
def qz (F : Fr) (wA : World) (BA : Nat -> Prop) (locA : Nat -> Loc) (os : List Oper) (ss : List Stp) (σ : St) (S : Nat -> Bool) (a : Act) (w : World) : Prop :=
 a.defers = [] /\ ∃ (loc : Nat -> Loc) (O : Nat -> List Res) (who : Nat -> Option (Option Nat)) (B : Nat -> Prop),
  HSc F (hS S ss 0 σ.heap) loc O who B w /\ Slots w B (hS S ss 0 σ.heap) loc (slS S os ss 0 σ.slots) a.tmps /\ Kp wA BA σ.heap locA w B (hS S ss 0 σ.heap) loc
structure Ordered (ops : Array Oper) (os : List Oper) (ss : List Stp) (n : Nat) (S : Nat -> Bool) (i : Nat) (x : Foot) : Prop where
 ahead : ∀ (j : Nat) (o : Oper) (s : Stp),os[j]? = some o -> ss[j]? = some s -> j < i -> fk (jn ops o (n + ai * j) s) x = true -> S j = true
 behind : ∀ (j : Nat) (o : Oper) (s : Stp),os[j]? = some o -> ss[j]? = some s -> i < j -> fk x (jn ops o (n + ai * j) s) = true -> S j = false
theorem pa {n id : Nat} : ∀ {l : List Nat},id ∈ l -> n <= id -> id < n + ai -> wz n l = true
 | [],h,_,_ => by cases h
 | x :: r,h,h1,h2 => by
  simp only [wz,Bool.or_eq_true,Bool.and_eq_true]
  rcases List.mem_cons.1 h with rfl | h
  ·exact .inl ⟨by simpa using h1,by simpa using h2⟩
  ·exact .inr (pa h h1 h2)
theorem gX {xs ys : List Nat} {i : Nat} (h1 : i ∈ xs) (h2 : i ∈ ys) : fK xs ys = false := by
 cases h : fK xs ys with
 | false => rfl
 | true => exact absurd h2 (iW h i h1)
theorem cY {u : Ups} {id : Nat} (h : hfind u id ≠ none) : id ∈ u.map (·.1) := by
 by_cases hm : id ∈ u.map (·.1)
 ·exact hm
 ·exact absurd (bU hm) h
def Bnd (h : Ups) (n : Nat) : Prop := ∀ id,n <= id -> hfind h id = none
theorem rF {P : Program} {ops : Array Oper} {n : Nat} {σ σ' : St} {ss : List Stp} (tr : Trace P ops ops.toList n σ ss σ') (hb : Bnd σ.heap n) {i : Nat} {o : Oper} {s : Stp} (ho : ops[i]? = some o) (hs : ss[i]? = some s) {S : Nat -> Bool} (hSi : S i = false)
  (ord : Ordered ops ops.toList ss n S i (jn ops o (n + ai * i) s)) {F : Fr} {wA : World} {BA : Nat -> Prop} {locA : Nat -> Loc} {a : Act} {w : World} (inv : qz F wA BA locA ops.toList ss σ S a w)
  {Q : Exit -> Act -> World -> Prop} {K : Act -> World -> Prop} (next : ∀ a' w',qz F wA BA locA ops.toList ss σ (de S i) a' w' -> K a' w') : wpOp P ops Q i K a w := by
 have hlen := ge tr
 have hoL : ops.toList[i]? = some o := by simpa using ho
 have st := vi tr 0 i o s hoL hs
 simp only [Nat.zero_add] at st
 obtain ⟨hdef,loc,O,who,B,hs0,hsl,hkp⟩ := inv
 have oat : ∀ (j : Nat) (s' : Stp),ss[j]? = some s' -> ∃ o',ops.toList[j]? = some o' := by
  intro j s' hj
  have := aQ hj
  rw [hlen] at this
  exact ⟨ops.toList[j],List.getElem?_eq_getElem this⟩
 have sat : ∀ (j : Nat) (o' : Oper),ops.toList[j]? = some o' -> ∃ s',ss[j]? = some s' := by
  intro j o' hj
  have := aQ hj
  rw [<- hlen] at this
  exact ⟨ss[j],List.getElem?_eq_getElem this⟩
 have meet3 : ∀ {x y : Foot} {id : Nat},id ∈ x.wr -> (id ∈ y.rd \/ id ∈ y.wr) -> fk x y = true := by
  intro x y id h1 h2
  have := gX h1 (show id ∈ y.rd ++ y.wr from List.mem_append.2 h2)
  simp [fk,this]
 have meet4 : ∀ {x y : Foot} {id : Nat},id ∈ x.rd -> id ∈ y.wr -> fk x y = true := by
  intro x y id h1 h2
  have := gX h1 h2
  simp [fk,this]
 have meetD : ∀ {x y : Foot} {d : Nat},x.dst = some d -> (d ∈ y.uses \/ y.dst = some d) -> fk x y = true := by
  intro x y d h1 h2
  simp only [fk,h1]
  rcases h2 with h2 | h2
  ·simp [h2]
  ·simp [h2]
 have meetU : ∀ {x y : Foot} {d : Nat},y.dst = some d -> d ∈ x.uses -> fk x y = true := by
  intro x y d h1 h2
  simp [fk,h1,h2]
 -- the slots that are used
 have huse : ∀ t ∈ gG ops o,aL (slS (fun j => decide (j < i)) ops.toList ss 0 σ.slots) t = aL (slS S ops.toList ss 0 σ.slots) t := by
  intro t ht
  refine gc (fun m o' hm hd => ?_) rfl rfl
  simp only [Nat.zero_add]
  obtain ⟨s',hs'⟩ := sat m o' hm
  rcases Nat.lt_trichotomy m i with h | rfl | h
  ·rw [ord.ahead m o' s' hm hs' h (meetD (d := t) hd (.inl ht))]
   simpa using h
  ·rw [hSi]; simp
  ·rw [ord.behind m o' s' hm hs' h (meetU (d := t) hd ht)]
   simp; omega
 have hread : ∀ id ∈ s.f,hfind (hS S ss 0 σ.heap) id = hfind (hS (fun j => decide (j < i)) ss 0 σ.heap) id := by
  intro id hid
  refine fQ (fun m s' hm hne => ?_) rfl
  simp only [Nat.zero_add]
  obtain ⟨o',ho'⟩ := oat m s' hm
  have hw := cY hne
  rcases Nat.lt_trichotomy m i with h | rfl | h
  ·rw [ord.ahead m o' s' ho' hm h (meet3 (id := id) hw (.inl hid))]
   simpa using h
  ·rw [hSi]; simp
  ·rw [ord.behind m o' s' ho' hm h (meet4 (id := id) hid hw)]
   simp; omega
 have hfresh : tK (hS S ss 0 σ.heap) (n + ai * i) := by
  intro id h1 h2
  have : hfind (hS S ss 0 σ.heap) id = hfind (hS (fun _ => false) ss 0 σ.heap) id := by
   refine fQ (fun m s' hm hne => ?_) rfl
   simp only [Nat.zero_add]
   obtain ⟨o',ho'⟩ := oat m s' hm
   have hw := cY hne
   have hbd := pw tr m s' hm id hw
   rcases Nat.lt_trichotomy m i with h | rfl | h
   ·exfalso
    have : ai * (m + 1) <= ai * i := Nat.mul_le_mul_left _ h
    omega
   ·exact hSi
   ·refine ord.behind m o' s' ho' hm h ?_
    have := pa hw h1 h2
    simp [fk,jn,this]
  rw [this,gr (fun _ _ => rfl)]
  exact hb id (by omega)
 have hset : ∀ id,hfind (hS (de S i) ss 0 σ.heap) id = hfind (s.u ++ hS S ss 0 σ.heap) id := by
  intro id
  have := vF (S := S) (id := id) (k := 0) (m := i) (h := σ.heap) hs (by simpa using hSi) (fun m' s' hm' hlt hS' => by
   simp only [Nat.zero_add] at hS'
   obtain ⟨o',ho'⟩ := oat m' s' hm'
   by_cases h1 : hfind s'.u id = none
   ·exact .inl h1
   ·refine .inr ?_
    by_cases h2 : hfind s.u id = none
    ·exact h2
    ·have := ord.behind m' o' s' ho' hm' hlt (meet3 (id := id) (cY h2) (.inr (cY h1)))
     rw [hS'] at this; cases this)
  simpa using this
 have hslset : ∀ t,aL (slS (de S i) ops.toList ss 0 σ.slots) t = aL (iA (slS S ops.toList ss 0 σ.slots) o.dst s.v) t := by
  intro t
  have := un (S := S) (t := t) (k := 0) (m := i) (l := σ.slots) hoL hs (by simpa using hSi) (fun m' o' hm' hlt hS' hd hd' => by
   simp only [Nat.zero_add] at hS'
   obtain ⟨s',hs'⟩ := sat m' o' hm'
   have := ord.behind m' o' s' hm' hs' hlt (meetD (d := t) hd (.inr hd'))
   rw [hS'] at this; cases this)
  simpa using this
 obtain ⟨hw1,hw2⟩ := vl (σ := { σ with slots := slS (fun j => decide (j < i)) ops.toList ss 0 σ.slots,heap := hS (fun j => decide (j < i)) ss 0 σ.heap }) hsl huse
 unfold wpOp
 simp only [ho]
 cases hgo : s.go with
 | true =>
  obtain ⟨hwant,hsound⟩ := st.run hgo
  rw [if_pos (hw1 hwant)]
  refine .inl ?_
  refine hsound.run F (hS S ss 0 σ.heap) a w loc O who B (fun x hx => hsl.ev (fun t e => huse t (sF (e ▸ hx)))) hread hfresh hs0 K Q ?_
  rintro val w' ⟨loc',O',who',B',h1,h2,h3⟩
  refine next _ _ ⟨?_,loc',O',who',B',h1.congr hset,?_,?_⟩
  ·cases o.dst <;> exact hdef
  ·exact (Slots.put (hsl.mono h2) h3 (by rw [dq,dq]) hslset).mono (Kp.congr hset)
  ·exact (hkp.trans h2).trans (Kp.congr hset)
 | false =>
  obtain ⟨hwant,hv,hu⟩ := st.skip hgo
  rw [if_neg (by rw [hw2 hwant]; simp)]
  have e : ∀ id,hfind (hS (de S i) ss 0 σ.heap) id = hfind (hS S ss 0 σ.heap) id := fun id => by rw [hset,hu]; rfl
  refine next _ _ ⟨?_,loc,O,who,B,hs0.congr e,?_,hkp.trans (Kp.congr e)⟩
  ·cases o.dst <;> exact hdef
  ·exact (Slots.put hsl (v := s.v) (by rw [hv,rep_emptyTup]) (by rw [dq,dq]) hslset).mono (Kp.congr e)
def unl (f : Nat -> Bool) : Nat -> Nat
 | 0 => 0
 | n + 1 => unl f n + (match f n with | true => 0 | false => 1)
theorem rT {f : Nat -> Bool} : ∀ {n : Nat},unl f n = 0 -> ∀ j,j < n -> f j = true
 | 0,_,j,hj => by omega
 | n + 1,h,j,hj => by
  simp only [unl] at h
  by_cases e : j = n
  ·subst e
   cases hf : f j with
   | true => rfl
   | false => rw [hf] at h; simp at h
  ·exact rT (n := n) (by omega) j (by omega)
theorem wj {f : Nat -> Bool} : ∀ {n : Nat},unl f n <= n
 | 0 => Nat.le_refl _
 | n + 1 => by
  simp only [unl]
  have := wj (f := f) (n := n)
  cases f n <;> simp <;> omega
theorem pz {f g : Nat -> Bool} : ∀ {n : Nat},(∀ j,j < n -> f j = g j) -> unl f n = unl g n
 | 0,_ => rfl
 | n + 1,h => by simp only [unl,h n (by omega),pz (f := f) (g := g) (n := n) (fun j hj => h j (by omega))]
theorem uo {f : Nat -> Bool} {i : Nat} (hf : f i = false) : ∀ {n : Nat},i < n -> unl (de f i) n + 1 = unl f n
 | 0,h => by omega
 | n + 1,h => by
  by_cases e : i = n
  ·subst e
   have : unl (de f i) i = unl f i := pz (fun j hj => by simp [de]; omega)
   simp only [unl,this,hf]
   simp [de]
  ·have := uo (f := f) (i := i) hf (n := n) (by omega)
   have h2 : de f i n = f n := by simp only [de]; rw [show (n == i) = false by simp; omega,Bool.false_or]
   simp only [unl,h2]
   omega
theorem gP {f : Foot} {a : Nat} : ∀ {l : List Foot} {k : Nat},iC f a l k = true -> ∀ (j : Nat) (g : Foot),l[j]? = some g -> fk g f = true -> a.testBit (k + j) = true
 | [],k,_,j,g,hj,_ => by simp at hj
 | x :: r,k,h,j,g,hj,hm => by
  simp only [iC,Bool.and_eq_true,Bool.or_eq_true,Bool.not_eq_true'] at h
  cases j with
  | zero =>
   simp only [List.getElem?_cons_zero,Option.some.injEq] at hj
   subst hj
   rcases h.1 with h1 | h1
   ·rw [hm] at h1; cases h1
   ·exact h1
  | succ j =>
   simp only [List.getElem?_cons_succ] at hj
   have := gP h.2 j g hj hm
   rw [show k + (j + 1) = k + 1 + j by omega]; exact this
theorem fC : ∀ {fs : List Foot} {as : List Nat} {seen : List Foot},dv fs as seen = true -> ∀ (m : Nat) (f : Foot),fs[m]? = some f -> ∀ (j : Nat) (g : Foot),(seen ++ fs)[j]? = some g -> j < seen.length + m -> fk g f = true -> (as.getD m 0).testBit j = true
 | [],as,seen,_,m,f,hf,j,g,_,_,_ => by simp at hf
 | f0 :: fs,[],seen,h,m,f,hf,j,g,_,_,_ => by simp [dv] at h
 | f0 :: fs,a :: as,seen,h,m,f,hf,j,g,hg,hj,hm => by
  simp only [dv,Bool.and_eq_true] at h
  cases m with
  | zero =>
   simp only [List.getElem?_cons_zero,Option.some.injEq] at hf
   subst hf
   have : seen[j]? = some g := by rw [List.getElem?_append_left (by omega)] at hg; exact hg
   have := gP h.1 j g this hm
   simpa using this
  | succ m =>
   simp only [List.getElem?_cons_succ] at hf
   have := fC h.2 m f hf j g (by simpa using hg) (by simp; omega) hm
   simpa using this
theorem gY : ∀ {os : List Oper} {k : Nat},dg os k = true -> ∀ (m : Nat) (o : Oper),os[m]? = some o -> ∀ e ∈ o.after,Region.binds .any e = true -> e.on < k + m
 | [],k,_,m,o,ho,_,_,_ => by simp at ho
 | o0 :: os,k,h,m,o,ho,e,he,hb => by
  simp only [dg,Bool.and_eq_true] at h
  cases m with
  | zero =>
   simp only [List.getElem?_cons_zero,Option.some.injEq] at ho
   subst ho
   have := List.all_eq_true.1 h.1 e (by simpa using he)
   simpa [hb] using this
  | succ m =>
   simp only [List.getElem?_cons_succ] at ho
   have := gY h.2 m o ho e he hb
   omega
theorem lY : ∀ {os : List Oper} {acc : List Nat} {i : Nat},i < acc.length -> (km os acc).getD i 0 = acc.getD i 0
 | [],acc,i,h => rfl
 | o :: os,acc,i,h => by
  simp only [km]
  rw [lY (by simp; omega)]
  simp [List.getD_eq_getElem?_getD,List.getElem?_append_left h]
theorem oZ {acc : List Nat} {j : Nat} : ∀ {l : List Edge} {m0 : Nat},(l.foldl (fun m e => match Region.binds .any e with | true => m ||| (2 ^ e.on) ||| acc.getD e.on 0 | false => m) m0).testBit j = true -> m0.testBit j = true \/ ∃ e ∈ l,Region.binds .any e = true /\ (e.on = j \/ (acc.getD e.on 0).testBit j = true)
 | [],m0,h => .inl h
 | e :: l,m0,h => by
  simp only [List.foldl_cons] at h
  rcases oZ h with h1 | ⟨e',he',h1⟩
  ·split at h1
   ·rename_i hb
    simp only [Nat.testBit_or,Bool.or_eq_true] at h1
    rcases h1 with (h1 | h1) | h1
    ·exact .inl h1
    ·rw [Nat.testBit_two_pow] at h1
     exact .inr ⟨e,by simp,hb,.inl (by simpa using h1)⟩
    ·exact .inr ⟨e,by simp,hb,.inr h1⟩
   ·exact .inl h1
  ·exact .inr ⟨e',by simp [he'],h1⟩
theorem tN : ∀ {os : List Oper} {acc : List Nat} {m : Nat} {o : Oper},os[m]? = some o -> ∀ j,((km os acc).getD (acc.length + m) 0).testBit j = true -> ∃ e ∈ o.after,Region.binds .any e = true /\ (e.on = j \/ ((km os acc).getD e.on 0).testBit j = true)
 | [],acc,m,o,ho,j,_ => by simp at ho
 | o0 :: os,acc,0,o,ho,j,h => by
  simp only [List.getElem?_cons_zero,Option.some.injEq] at ho
  subst ho
  simp only [km,Nat.add_zero] at h ⊢
  rw [lY (by simp)] at h
  simp only [List.getD_eq_getElem?_getD] at h
  rw [List.getElem?_append_right (Nat.le_refl _)] at h
  simp only [Nat.sub_self,List.getElem?_cons_zero,Option.getD_some] at h
  simp only [<- List.getD_eq_getElem?_getD] at h
  rcases oZ h with h1 | ⟨e,he,hb,h1⟩
  ·simp at h1
  ·refine ⟨e,by simpa using he,hb,h1.imp (fun h => h) (fun h1 => ?_)⟩
   have hlt : e.on < acc.length := by
    rcases Nat.lt_or_ge e.on acc.length with h2 | h2
    ·exact h2
    ·rw [List.getD_eq_getElem?_getD,List.getElem?_eq_none h2] at h1; simp at h1
   rw [lY (by simp; omega)]
   rw [List.getD_eq_getElem?_getD,List.getElem?_append_left hlt,<- List.getD_eq_getElem?_getD]; exact h1
 | o0 :: os,acc,m + 1,o,ho,j,h => by
  simp only [List.getElem?_cons_succ] at ho
  simp only [km] at h ⊢
  exact tN (acc := acc ++ [_]) ho j (by simpa [Nat.add_assoc,Nat.add_comm 1 m] using h)
theorem jO {ops : Array Oper} : ∀ {os : List Oper} {n : Nat} {ss : List Stp} {i : Nat} {o : Oper} {s : Stp},os[i]? = some o -> ss[i]? = some s -> (kv ops os n ss)[i]? = some (jn ops o (n + ai * i) s)
 | [],n,ss,i,o,s,ho,_ => by simp at ho
 | _ :: _,n,[],i,o,s,_,hs => by simp at hs
 | o0 :: os,n,s0 :: ss,0,o,s,ho,hs => by
  simp only [List.getElem?_cons_zero,Option.some.injEq] at ho hs
  subst ho hs
  simp [kv]
 | o0 :: os,n,s0 :: ss,i + 1,o,s,ho,hs => by
  simp only [List.getElem?_cons_succ] at ho hs
  simp only [kv,List.getElem?_cons_succ]
  rw [jO ho hs,show n + ai + ai * i = n + ai * (i + 1) by rw [Nat.mul_succ]; omega]
section
variable {P : Program} {ops : Array Oper} {n : Nat} {σ σ' : St} {ss : List Stp} {F : Fr} {wA : World} {BA : Nat -> Prop} {locA : Nat -> Loc} {Q : Exit -> Act -> World -> Prop}
theorem nw (tr : Trace P ops ops.toList n σ ss σ') {i : Nat} (hi : i < ops.size) : ∃ o s,ops[i]? = some o /\ ss[i]? = some s := by
 have h1 : i < ss.length := by rw [ge tr]; simpa using hi
 exact ⟨ops[i],ss[i],Array.getElem?_eq_getElem hi,List.getElem?_eq_getElem h1⟩
theorem lu (tr : Trace P ops ops.toList n σ ss σ') (hb : Bnd σ.heap n) (hQ : ∀ a w,qz F wA BA locA ops.toList ss σ (fun _ => true) a w -> Q .normal a w) :
  ∀ (m i : Nat) {a : Act} {w : World},i + m = ops.size -> qz F wA BA locA ops.toList ss σ (fun j => decide (j < i)) a w -> wpOps P ops Q (List.range' i m) a w
 | 0,i,a,w,hi,inv => by
  refine hQ a w ?_
  obtain ⟨h1,loc,O,who,B,h2,h3,h4⟩ := inv
  have hl := ge tr
  have e1 : hS (fun _ => true) ss 0 σ.heap = hS (fun j => decide (j < i)) ss 0 σ.heap := vE (fun m hm => by simp; simp at hl; omega)
  have e2 : slS (fun _ => true) ops.toList ss 0 σ.slots = slS (fun j => decide (j < i)) ops.toList ss 0 σ.slots := tg (fun m hm => by simp; simp at hl; omega)
  exact ⟨h1,loc,O,who,B,by rw [e1]; exact h2,by rw [e1,e2]; exact h3,by rw [e1]; exact h4⟩
 | m + 1,i,a,w,hi,inv => by
  obtain ⟨o,s,ho,hs⟩ := nw tr (i := i) (by omega)
  simp only [List.range'_succ]
  rw [wpOps_cons]
  refine rF tr hb ho hs (by simp) ⟨fun j o s _ _ hj _ => by simpa using hj,fun j o s _ _ hj _ => by simp; omega⟩ inv (fun a' w' inv' => ?_)
  have e : de (fun j => decide (j < i)) i = fun j => decide (j < i + 1) := by
   funext j
   simp only [de]
   by_cases h1 : j = i
   ·subst h1; simp
   ·have : (j == i) = false := by simpa using h1
    rw [this,Bool.false_or]
    exact decide_eq_decide.2 (by omega)
  rw [e] at inv'
  exact lu tr hb hQ m (i + 1) (by omega) inv'
theorem sQ (tr : Trace P ops ops.toList n σ ss σ') (hb : Bnd σ.heap n) (he : dg ops.toList 0 = true) (ha : dv (kv ops ops.toList n ss) (km ops.toList []) [] = true) (hQ : ∀ a w,qz F wA BA locA ops.toList ss σ (fun _ => true) a w -> Q .normal a w) :
  ∀ (fuel : Nat) (listed : Array Bool) (a : Act) (w : World),listed.size = ops.size -> unl (fun j => listed.getD j false) ops.size <= fuel ->
   (∀ j,listed.getD j false = true -> ∀ k,((km ops.toList []).getD j 0).testBit k = true -> listed.getD k false = true) -> qz F wA BA locA ops.toList ss σ (fun j => listed.getD j false) a w -> wpAny P .any ops Q fuel listed a w := by
 have hl := ge tr
 have fin : ∀ (listed : Array Bool) (a : Act) (w : World),(∀ j,j < ops.size -> listed.getD j false = true) -> qz F wA BA locA ops.toList ss σ (fun j => listed.getD j false) a w -> Q .normal a w := by
  intro listed a w hall inv
  refine hQ a w ?_
  obtain ⟨h1,loc,O,who,B,h2,h3,h4⟩ := inv
  have e1 : hS (fun _ => true) ss 0 σ.heap = hS (fun j => listed.getD j false) ss 0 σ.heap := vE (fun m hm => by rw [Nat.zero_add]; exact (hall m (by simp at hl; omega)).symm)
  have e2 : slS (fun _ => true) ops.toList ss 0 σ.slots = slS (fun j => listed.getD j false) ops.toList ss 0 σ.slots := tg (fun m hm => by rw [Nat.zero_add]; exact (hall m (by simp at hl; omega)).symm)
  exact ⟨h1,loc,O,who,B,by rw [e1]; exact h2,by rw [e1,e2]; exact h3,by rw [e1]; exact h4⟩
 have ready_all : ∀ (listed : Array Bool),listed.size = ops.size -> Region.ready .any ops listed = [] -> ∀ j,j < ops.size -> listed.getD j false = true := by
  intro listed hsz hr j
  induction j using Nat.strongRecOn with
  | _ j ih =>
   intro hj
   cases hx : listed.getD j false with
   | true => rfl
   | false =>
    exfalso
    have hmem : j ∈ Region.ready .any ops listed := by
     rw [mem_ready]
     refine ⟨?_,ops[j],Array.getElem?_eq_getElem hj,fun e hem hbd => ?_⟩
     ·have hj' : j < listed.size := by omega
      simpa [hj'] using hx
     ·have hlt := gY he j ops[j] (by simp [hj]) e hem hbd
      exact ih e.on (by omega) (by omega)
    rw [hr] at hmem; cases hmem
 intro fuel
 induction fuel with
 | zero =>
  intro listed a w hsz hu hcl inv
  have hall := rT (f := fun j => listed.getD j false) (n := ops.size) (by omega)
  refine ⟨?_,fin listed a w hall inv⟩
  cases hr : Region.ready .any ops listed with
  | nil => rfl
  | cons i r =>
   exfalso
   have : i ∈ Region.ready .any ops listed := by rw [hr]; simp
   obtain ⟨h1,o,ho,_⟩ := mem_ready.1 this
   have hi := (Array.getElem?_eq_some_iff.1 ho).1
   have h2 := hall i hi
   have hj' : i < listed.size := by omega
   simp [hj'] at h1 h2
   rw [h1] at h2; cases h2
 | succ fuel ih =>
  intro listed a w hsz hu hcl inv
  refine ⟨fun hr => fin listed a w (ready_all listed hsz hr) inv,fun i hi => ?_⟩
  obtain ⟨h1,o,ho,haft⟩ := mem_ready.1 hi
  have hlt := (Array.getElem?_eq_some_iff.1 ho).1
  have hlt' : i < listed.size := by omega
  have hSi : listed.getD i false = false := by simpa [hlt'] using h1
  obtain ⟨o',s,ho',hs⟩ := nw tr hlt
  rw [ho] at ho'; cases ho'
  have hoL : ops.toList[i]? = some o := by simpa using ho
  have hanc : ∀ k,((km ops.toList []).getD i 0).testBit k = true -> listed.getD k false = true := by
   intro k hk
   obtain ⟨e,hem,hbd,h2⟩ := tN (acc := []) hoL k (by simpa using hk)
   have h3 := haft e hem hbd
   rcases h2 with h2 | h2
   ·rw [<- h2]; exact h3
   ·exact hcl e.on h3 k h2
  have hfi := jO (ops := ops) (n := n) hoL hs
  refine rF tr hb ho hs hSi ⟨fun j o' s' ho' hs' hj hm => ?_,fun j o' s' ho' hs' hj hm => ?_⟩ inv (fun a' w' inv' => ?_)
  ·exact hanc j (fC ha i _ hfi j _ (by simpa using jO (ops := ops) (n := n) ho' hs') (by simpa using hj) hm)
  ·cases hx : listed.getD j false with
   | false => rfl
   | true =>
    have := fC ha j _ (jO (ops := ops) (n := n) ho' hs') i _ (by simpa using hfi) (by simpa using hj) hm
    have := hcl j hx i this
    rw [hSi] at this; cases this
  ·have e : de (fun j => listed.getD j false) i = fun j => (listed.setIfInBounds i true).getD j false := by
    funext j
    simp only [de]
    by_cases h2 : j = i
    ·subst h2; simp [hlt']
    ·have : (j == i) = false := by simpa using h2
     rw [this,Bool.false_or]
     exact (getD_set_ne false (fun h => h2 h.symm)).symm
   rw [e] at inv'
   refine ih _ a' w' (by simpa using hsz) ?_ ?_ inv'
   ·have := uo (f := fun j => listed.getD j false) hSi hlt
    rw [e] at this
    omega
   ·intro j hj k hk
    by_cases h2 : j = i
    ·subst h2
     by_cases h3 : k = j
     ·subst h3; exact hj
     ·rw [getD_set_ne false (fun h => h3 h.symm)]; exact hanc k hk
    ·rw [getD_set_ne false (fun h => h2 h.symm)] at hj
     exact getD_set_true (hcl j hj k hk)
theorem uF (o : List Res) (w : World) : Chg o w { w with drawn := w.drawn + 1 } := ⟨rfl,rfl,Nat.le_refl _,fun _ _ _ => rfl,fun b c ty fr h => ⟨c,fr,h,rfl,id,fun _ _ => rfl⟩⟩
theorem qh {id : Nat} {draw : Bool} (hm : P.follows .mixedOrders = true) (tr : Trace P ops ops.toList n σ ss σ') (hb : Bnd σ.heap n) (hd : draw = true -> (dg ops.toList 0 && dv (kv ops ops.toList n ss) (km ops.toList []) []) = true)
  {a : Act} {w : World} {loc : Nat -> Loc} {O : Nat -> List Res} {who : Nat -> Option (Option Nat)} {B : Nat -> Prop} (hdef : a.defers = []) (s : HSc F σ.heap loc O who B w) (hsl : Slots w B σ.heap loc σ.slots a.tmps)
  (hQ : ∀ (a' : Act) (w' : World) (loc' : Nat -> Loc) (O' : Nat -> List Res) (who' : Nat -> Option (Option Nat)) (B' : Nat -> Prop),a'.defers = [] -> HSc F σ'.heap loc' O' who' B' w' -> Slots w' B' σ'.heap loc' σ'.slots a'.tmps -> Kp w B σ.heap loc w' B' σ'.heap loc' -> Q .normal a' w') :
  (Code.region id ops draw).wp P Q a w := by
 have hend := kQ tr 0
 have hQ' : ∀ a' w',qz F w B loc ops.toList ss σ (fun _ => true) a' w' -> Q .normal a' w' := by
  rintro a' w' ⟨h1,loc',O',who',B',h2,h3,h4⟩
  refine hQ a' w' loc' O' who' B' h1 ?_ ?_ ?_ <;> rw [hend] <;> assumption
 cases draw with
 | false =>
  refine wp_region ?_
  rw [List.range_eq_range']
  refine lu tr hb hQ' ops.size 0 (by omega) ?_
  have e1 : hS (fun j => decide (j < 0)) ss 0 σ.heap = σ.heap := gr (fun j _ => by simp)
  have e2 : slS (fun j => decide (j < 0)) ops.toList ss 0 σ.slots = σ.slots := gd (fun j _ => by simp)
  exact ⟨hdef,loc,O,who,B,by rw [e1]; exact s,by rw [e1,e2]; exact hsl,by rw [e1]; exact Kp.refl w B σ.heap loc⟩
 | true =>
  have hd := hd rfl
  simp only [Bool.and_eq_true] at hd
  refine wp_region_any hm ?_
  obtain ⟨s',k'⟩ := HS.world s (w' := { w with drawn := w.drawn + 1 }) (Nat.le_refl _) (s.chg.step (uF F.o0 w) (fun r hr => .inr ⟨List.mem_map.2 ⟨r,hr,rfl⟩,fun j hj => ⟨r,hr,hj⟩⟩)) (fun _ _ => rfl)
  have e0 : (fun j => (Array.replicate ops.size false).getD j false) = fun _ => false := by
   funext j
   simp [Array.getD_eq_getD_getElem?,Array.getElem?_replicate]
   split <;> rfl
  refine sQ tr hb hd.1 hd.2 hQ' ops.size _ a _ (by simp) wj (fun j hj => ?_) ?_
  ·have : (fun j => (Array.replicate ops.size false).getD j false) j = false := by rw [e0]
   simp only at this
   rw [this] at hj; cases hj
  ·rw [e0]
   have e1 : hS (fun _ => false) ss 0 σ.heap = σ.heap := gr (fun _ _ => rfl)
   have e2 : slS (fun _ => false) ops.toList ss 0 σ.slots = σ.slots := gd (fun _ _ => rfl)
   exact ⟨hdef,loc,O,who,B,by rw [e1]; exact s',by rw [e1,e2]; exact hsl.mono k',by rw [e1]; exact k'⟩
theorem wo (tr : Trace P ops ops.toList n σ ss σ') (hb : Bnd σ.heap n) : Bnd σ'.heap (n + ai * ops.size) := by
 intro id hid
 rw [kQ tr 0]
 simp only
 have : hfind (hS (fun _ => true) ss 0 σ.heap) id = hfind (hS (fun _ => false) ss 0 σ.heap) id := by
  refine fQ (fun m s hm hne => ?_) rfl
  exfalso
  have h1 := pw tr m s hm id (cY hne)
  have h2 := aQ hm
  rw [ge tr] at h2
  have : ai * (m + 1) <= ai * ops.size := Nat.mul_le_mul_left _ (by simp at h2; omega)
  omega
 rw [this,gr (fun _ _ => rfl)]
 exact hb id (by omega)
end
theorem jQ : ∀ {l : List Nat} {id k : Nat},idx l id = some k -> l[k]? = some id
 | [],id,k,h => by simp [idx] at h
 | x :: r,id,k,h => by
  simp only [idx] at h
  split at h
  ·rename_i e
   cases h
   simpa using e
  ·simp only [Option.map_eq_some_iff] at h
   obtain ⟨k',h',rfl⟩ := h
   simpa using jQ h'
theorem pb : ∀ {l : List Nat} {id k : Nat},l.Nodup -> l[k]? = some id -> idx l id = some k
 | [],id,k,_,h => by simp at h
 | x :: r,id,0,hn,h => by
  simp only [List.getElem?_cons_zero,Option.some.injEq] at h
  subst h
  simp [idx]
 | x :: r,id,k + 1,hn,h => by
  simp only [List.getElem?_cons_succ] at h
  rw [List.nodup_cons] at hn
  have hm := List.mem_of_getElem? h
  have hne : (x == id) = false := by simp; intro e; subst e; exact hn.1 hm
  simp [idx,hne,pb hn.2 h]
theorem gC {h : Ups} : ∀ (g : Nat) {todo seen : List Nat},seen.Nodup -> (kE h g todo seen).Nodup
 | 0,todo,seen,hn => by cases todo <;> exact hn
 | g + 1,[],seen,hn => hn
 | g + 1,id :: todo,seen,hn => by
  simp only [kE]
  split
  ·exact gC g hn
  ·rename_i hc
   refine gC g ?_
   rw [List.nodup_append]
   refine ⟨hn,by simp,?_⟩
   intro x hx y hy e
   simp only [List.mem_singleton] at hy
   subst hy e
   simp [hx] at hc
theorem gt {h : Ups} {l : List Nat} : ∀ {r : List Nat} {k0 k : Nat},hfind (fI h l r k0) k = if k0 <= k then (r[k - k0]?).map (fun id => (ae h id).map (qi l)) else none
 | [],k0,k => by simp [fI,hfind]
 | id :: r,k0,k => by
  have ih := gt (h := h) (l := l) (r := r) (k0 := k0 + 1) (k := k)
  have step : ∀ b : Option Blk,hfind ((k0,b) :: fI h l r (k0 + 1)) k = if k0 = k then some b else hfind (fI h l r (k0 + 1)) k := fun b => aj _ _ _ _
  have fin : ∀ b : Option Blk,b = (ae h id).map (qi l) -> hfind ((k0,b) :: fI h l r (k0 + 1)) k = if k0 <= k then ((id :: r)[k - k0]?).map (fun id => (ae h id).map (qi l)) else none := by
   intro b hb
   rw [step,ih]
   by_cases e : k0 = k
   ·subst e; simp [hb]
   ·rw [if_neg e]
    by_cases hle : k0 <= k
    ·rw [if_pos hle,if_pos (by omega)]
     have : k - k0 = (k - (k0 + 1)) + 1 := by omega
     rw [this,List.getElem?_cons_succ]
    ·rw [if_neg hle,if_neg (by omega)]
  simp only [fI]
  cases hg : ae h id with
  | some b => exact fin (some (qi l b)) (by rw [hg]; rfl)
  | none => exact fin none (by rw [hg]; rfl)
theorem qI {l : List Nat} (b : Blk) : b9 (qi l b) = b9 b := by cases b <;> rfl
theorem sf {l : List Nat} (b : Blk) : aI (qi l b) = aI b := by cases b <;> rfl
section
variable {F : Fr} {h : Ups} {loc : Nat -> Loc} {O : Nat -> List Res} {who : Nat -> Option (Option Nat)} {B : Nat -> Prop} {w : World} {l : List Nat}
theorem gu {id k : Nat} {ob : Option Blk} (hk : l[k]? = some id) (ho : hfind h id = some ob) : hfind (fI h l l 0) k = some (ob.map (qi l)) := by
 rw [gt]
 simp only [Nat.zero_le,if_true,Nat.sub_zero,hk,Option.map_some]
 rw [dh,ho]; rfl
def nF (loc : Nat -> Loc) (l : List Nat) : Nat -> Loc := fun k => loc (l.getD k 0)
theorem lT {id k : Nat} (hk : l[k]? = some id) : nF loc l k = loc id := by simp [nF,List.getD_eq_getElem?_getD,hk]
theorem cw {a : A} {v : Value} (ha : al w B h loc a v) : al w B (fI h l l 0) (nF loc l) (c9 l a) v := by
 cases a with
 | d x => exact ha
 | rp z xs i off => exact ha
 | undef => exact ha
 | mp id =>
  simp only [c9]
  split
  ·rename_i k hk
   have hk := jQ hk
   obtain ⟨hp,ob,hob,hb⟩ := ha
   refine ⟨hp,_,gu hk hob,fun blk' hb' => ?_⟩
   cases ob with
   | none => cases hb'
   | some blk =>
    cases hb'
    obtain ⟨b,base,sz,h1,h2⟩ := hb blk rfl
    exact ⟨b,base,sz,(lT hk).trans h1,h2⟩
  ·trivial
 | agg cs => exact ha.elim
 | tup cs => exact ha.elim
 | fn f cs => exact ha.elim
 | ref id i off =>
  simp only [c9]
  split
  ·rename_i k hk
   have hk := jQ hk
   obtain ⟨hp,ob,hob,hb⟩ := ha
   refine ⟨hp,_,gu hk hob,fun blk' hb' => ?_⟩
   cases ob with
   | none => cases hb'
   | some blk =>
    cases hb'
    obtain ⟨b,base,sz,h1,h2⟩ := hb blk rfl
    exact ⟨b,base,sz,(lT hk).trans h1,by rw [qI]; exact h2⟩
  ·trivial
 | asl id rng =>
  simp only [c9]
  split
  ·rename_i k hk
   have hk := jQ hk
   obtain ⟨hp,ob,hob,hb⟩ := ha
   refine ⟨hp,_,gu hk hob,fun blk' hb' => ?_⟩
   cases ob with
   | none => cases hb'
   | some blk =>
    cases hb'
    obtain ⟨n,h1,h2⟩ := hb blk rfl
    exact ⟨n,(sf blk).trans h1,by rw [qI,lT hk]; exact h2⟩
  ·trivial
theorem All2.map {α β γ : Type} {R : α -> β -> Prop} {S : γ -> β -> Prop} {f : α -> γ} (hf : ∀ a b,R a b -> S (f a) b) {as : List α} {bs : List β} (h : All2 R as bs) : All2 S (as.map f) bs := by
 induction h with
 | nil => exact .nil
 | cons h1 _ ih => exact .cons (hf _ _ h1) ih
theorem vV {a : A} {v : Value} (ha : al w B h loc a v) : al w B (fI h l l 0) (nF loc l) (fW l a) v := by
 cases a with
 | agg cs => exact ha.elim
 | tup cs => exact ha.elim
 | fn f cs => exact ha.elim
 | _ => exact cw ha
theorem cN {a : A} {v : Value} (ha : bx w B h loc a v) : bx w B (fI h l l 0) (nF loc l) (fW l a) v := by
 cases a with
 | agg cs => obtain ⟨vs,hv,hc⟩ := ha; exact ⟨vs,hv,hc.map (f := c9 l) (fun _ _ h => cw h)⟩
 | fn f cs => obtain ⟨vs,hv,hc⟩ := ha; exact ⟨vs,hv,hc.map (f := c9 l) (fun _ _ h => cw h)⟩
 | tup cs => exact ha.elim
 | d x => exact ha
 | rp z xs i off => exact ha
 | mp id =>
  have := cw (w := w) (B := B) (a := .mp id) (l := l) ha
  simp only [fW]
  simp only [c9] at this ⊢
  split
  ·rename_i hk; rw [hk] at this; exact this
  ·trivial
 | undef => trivial
 | ref id i off =>
  have := cw (w := w) (B := B) (a := .ref id i off) (l := l) ha
  simp only [fW]
  simp only [c9] at this ⊢
  split
  ·rename_i hk; rw [hk] at this; exact this
  ·trivial
 | asl id i =>
  have := cw (w := w) (B := B) (a := .asl id i) (l := l) ha
  simp only [fW]
  simp only [c9] at this ⊢
  split
  ·rename_i hk; rw [hk] at this; exact this
  ·trivial
theorem vW {a : A} {v : Value} (ha : aJ w B h loc a v) : aJ w B (fI h l l 0) (nF loc l) (fW l a) v := by
 cases a with
 | tup cs =>
  obtain ⟨vs,hv,hc⟩ := ha
  refine ⟨vs,hv,hc.map (f := c9 l) (fun a v ha => ?_)⟩
  cases a with
  | agg cs => trivial
  | tup cs => exact ha.elim
  | fn f cs => trivial
  | ref id i off =>
   have := cw (w := w) (B := B) (a := .ref id i off) (l := l) ha
   simp only [c9] at this ⊢
   split
   ·rename_i hk; rw [hk] at this; exact this
   ·trivial
  | asl id i =>
   have := cw (w := w) (B := B) (a := .asl id i) (l := l) ha
   simp only [c9] at this ⊢
   split
   ·rename_i hk; rw [hk] at this; exact this
   ·trivial
  | d x => exact ha
  | rp z xs i off => exact ha
  | mp id =>
   have := cw (w := w) (B := B) (a := .mp id) (l := l) ha
   simp only [c9] at this ⊢
   split
   ·rename_i hk; rw [hk] at this; exact this
   ·trivial
  | undef => trivial
 | agg cs => exact bZ (cN (a := .agg cs) ha)
 | fn f cs => exact bZ (cN (a := .fn f cs) ha)
 | d x => exact bZ (cN (a := .d x) ha)
 | ref id i off => exact bZ (cN (a := .ref id i off) ha)
 | rp z xs i off => exact bZ (cN (a := .rp z xs i off) ha)
 | asl id i => exact bZ (cN (a := .asl id i) ha)
 | mp id => exact bZ (cN (a := .mp id) ha)
 | undef => trivial
def xt (who : Nat -> Option (Option Nat)) (l : List Nat) : Nat -> Option (Option Nat) := fun b => match who b with
 | none => none
 | some none => some none
 | some (some id) => match idx l id with
  | some k => some (some k)
  | none => some none
theorem HS.ren (s : HSc F h loc O who B w) (hn : l.Nodup) : HSc F (fI h l l 0) (nF loc l) (fun k => O (l.getD k 0)) (xt who l) B w := by
 have hg : ∀ {k b'},ae (fI h l l 0) k = some b' -> ∃ id b,l[k]? = some id /\ ae h id = some b /\ b' = qi l b := by
  intro k b' hb
  have hb := hget_some.1 hb
  rw [gt] at hb
  simp only [Nat.zero_le,if_true,Nat.sub_zero,Option.map_eq_some_iff] at hb
  obtain ⟨id,hk,b,hb2,rfl⟩ := hb
  exact ⟨id,b,hk,hb2,rfl⟩
 have hd : ∀ {k id},l[k]? = some id -> l.getD k 0 = id := fun hk => by simp [List.getD_eq_getElem?_getD,hk]
 refine ⟨?_,?_,?_,?_,?_,s.blt,s.bsub,s.b0,s.chg⟩
 ·intro k b' hb hx
  obtain ⟨id,b,hk,hb2,rfl⟩ := hg hb
  rw [lT hk]
  simp only [hd hk]
  have := s.blk id b hb2 (fun h => h)
  cases b with
  | arr z xs => exact this
  | fz z xs => exact this
  | mp sh xs => exact this
  | var cs =>
   obtain ⟨b,base,sz,c,ty,fr,vs,h1,h2,h3,h4,h5,h6,h7,h8⟩ := this
   refine ⟨b,base,sz,c,ty,fr,vs,h1,h2,h3,h4,by simpa using h5,h6,h7.map (f := fW l) (fun _ _ h => vV h),by simpa using h8⟩
 ·intro k b' hb r hr
  obtain ⟨id,b,hk,hb2,rfl⟩ := hg hb
  simp only [hd hk] at hr
  simp only [xt,s.own id b hb2 r hr,pb hn hk]
 ·intro k b' hb
  obtain ⟨id,b,hk,hb2,rfl⟩ := hg hb
  simp only [hd hk]; exact s.nod id b hb2
 ·intro k b' hb
  obtain ⟨id,b,hk,hb2,rfl⟩ := hg hb
  simp only [hd hk]; exact s.okr id b hb2
 ·intro b ow hb
  simp only [xt] at hb
  split at hb
  ·cases hb
  ·exact s.mine b _ (by assumption)
  ·exact s.mine b _ (by assumption)
theorem fT {live : Nat} : ∀ {as : List A} {i : Nat},(cj live as i).length = as.length
 | [],i => rfl
 | a :: as,i => by simp [cj,fT (as := as)]
theorem iZ {live : Nat} : ∀ {as : List A} {i t : Nat},aL (cj live as i) t = aL as t \/ aL (cj live as i) t = .undef
 | [],i,t => .inl rfl
 | a :: as,i,0 => by
  simp only [cj,aL]
  split
  ·exact .inl rfl
  ·exact .inr rfl
 | a :: as,i,t + 1 => by simp only [cj,aL]; exact iZ
theorem ry {f : A -> A} (hf : f .undef = .undef) : ∀ {as : List A} {t : Nat},aL (as.map f) t = f (aL as t)
 | [],t => by simp [aL,hf]
 | a :: as,0 => rfl
 | a :: as,t + 1 => by simp only [List.map_cons,aL]; exact ry hf
theorem Slots.ren {as : List A} {tmps : Array Value} (s : Slots w B h loc as tmps) (live : Nat) : Slots w B (fI h l l 0) (nF loc l) ((cj live as 0).map (fW l)) tmps := by
 refine ⟨by simp [fT,s.len],fun t => ?_⟩
 rw [ry rfl]
 rcases iZ (live := live) (as := as) (i := 0) (t := t) with e | e
 ·rw [e]; exact vW (s.rep t)
 ·rw [e]; trivial
def d7 (w : World) (B : Nat -> Prop) (h : Ups) (loc : Nat -> Loc) (a : A) (lc : Option Nat) : Prop :=
 match a with
 | .asl id none => match lc with
  | none => al w B h loc (.asl id none) (.slice none 0 0)
  | some b => ∃ base,al w B h loc (.ref id 0 0) (.pointer (some ⟨b,base,none⟩))
 | _ => True
def qY (w : World) (B : Nat -> Prop) (h : Ups) (loc : Nat -> Loc) (a : A) (lcs : List (Option Nat)) : Prop :=
 match a with
 | .agg cs => All2 (d7 w B h loc) cs lcs
 | a => All2 (d7 w B h loc) [a] lcs
def IoOk (w : World) (B : Nat -> Prop) (h : Ups) (loc : Nat -> Loc) (a : A) (e : D × Value × List (Option Nat)) : Prop :=
 bx w B h loc a e.2.1 /\ match e.1 with
  | .op _ => (∃ id i off,a = .ref id i off) \/ a = .undef
  | _ => (∀ id i off,a ≠ .ref id i off) /\ qY w B h loc a e.2.2
theorem lg {w' : World} {B' : Nat -> Prop} {h' : Ups} {loc' : Nat -> Loc} (k : Kp w B h loc w' B' h' loc') {a : A} {lc : Option Nat} (g : d7 w B h loc a lc) : d7 w' B' h' loc' a lc := by
 cases a with
 | asl id rng =>
  cases rng with
  | none =>
   cases lc with
   | none => exact k (.asl id none) (.slice none 0 0) g
   | some b => obtain ⟨base,g⟩ := g; exact ⟨base,k (.ref id 0 0) _ g⟩
  | some r => trivial
 | _ => trivial
theorem jo {a : A} {lc : Option Nat} (g : d7 w B h loc a lc) : d7 w B (fI h l l 0) (nF loc l) (c9 l a) lc := by
 cases a with
 | asl id rng =>
  cases rng with
  | none =>
   cases lc with
   | none =>
    have := cw (w := w) (B := B) (a := .asl id none) (l := l) g
    simp only [c9] at this ⊢
    split
    ·rename_i k hk; rw [hk] at this; exact this
    ·trivial
   | some b =>
    obtain ⟨base,g⟩ := g
    have := cw (l := l) g
    simp only [c9] at this ⊢
    split
    ·rename_i k hk; rw [hk] at this; exact ⟨base,this⟩
    ·trivial
  | some r => simp only [c9]; split <;> trivial
 | ref id i off => simp only [c9]; split <;> trivial
 | mp id => simp only [c9]; split <;> trivial
 | _ => trivial
theorem kw {a : A} {lcs : List (Option Nat)} (h1 : ∀ cs,a ≠ .agg cs) : qY w B h loc a lcs ↔ All2 (d7 w B h loc) [a] lcs := by
 cases a <;> first | exact Iff.rfl | exact absurd rfl (h1 _)
theorem m8 {a : A} : ∀ cs,c9 l a ≠ .agg cs := by
 intro cs
 cases a <;> simp only [c9] <;> first | (intro e; cases e; done) | (split <;> (intro e; cases e))
theorem IoOk.mono {w' : World} {B' : Nat -> Prop} {h' : Ups} {loc' : Nat -> Loc} (k : Kp w B h loc w' B' h' loc') {a : A} {e : D × Value × List (Option Nat)} (g : IoOk w B h loc a e) : IoOk w' B' h' loc' a e := by
 refine ⟨k.a2 g.1,?_⟩
 have g2 := g.2
 split at g2
 ·exact g2
 ·refine ⟨g2.1,?_⟩
  have g3 := g2.2
  cases a <;> exact All2.mono (fun _ _ => lg k) g3
theorem IoOk.ren {a : A} {e : D × Value × List (Option Nat)} (g : IoOk w B h loc a e) : IoOk w B (fI h l l 0) (nF loc l) (fW l a) e := by
 obtain ⟨x0,v0,lcs⟩ := e
 refine ⟨cN g.1,?_⟩
 have g2 := g.2
 split at g2
 ·rcases g2 with ⟨id,i,off,rfl⟩ | rfl
  ·simp only [fW,c9]
   split
   ·exact .inl ⟨_,_,_,rfl⟩
   ·exact .inr rfl
  ·exact .inr rfl
 ·obtain ⟨g3,g4⟩ := g2
  cases a with
  | agg cs => exact ⟨(fun _ _ _ e => by cases e),All2.map (f := c9 l) (fun _ _ h => jo h) g4⟩
  | ref id i off => exact absurd rfl (g3 _ _ _)
  | tup cs => exact g.1.elim
  | fn f cs => exact ⟨(fun _ _ _ e => by cases e),by cases g4 with | cons h1 h2 => exact .cons trivial (by cases h2; exact .nil)⟩
  | asl id rng =>
   refine ⟨fun _ _ _ e => ?_,?_⟩
   ·simp only [fW,c9] at e
    split at e <;> cases e
   ·simp only [fW]
    rw [kw m8]
    cases g4 with | cons h1 h2 => cases h2; exact .cons (jo h1) .nil
  | d x => exact ⟨(fun _ _ _ e => by cases e),by cases g4 with | cons h1 h2 => cases h2; exact .cons trivial .nil⟩
  | rp z xs i off => exact ⟨(fun _ _ _ e => by cases e),by cases g4 with | cons h1 h2 => cases h2; exact .cons trivial .nil⟩
  | mp id =>
   refine ⟨fun _ _ _ e => ?_,?_⟩
   ·simp only [fW,c9] at e
    split at e <;> cases e
   ·simp only [fW]
    rw [kw m8]
    cases g4 with | cons h1 h2 => cases h2; exact .cons (jo h1) .nil
  | undef => exact ⟨(fun _ _ _ e => by cases e),by cases g4 with | cons h1 h2 => cases h2; exact .cons trivial .nil⟩
end
structure Rel (F : Fr) (ies : List (D × Value × List (Option Nat))) (σ : St) (a : Act) (w : World) : Prop where
 defers : a.defers = []
 bnd : Bnd σ.heap σ.next
 mem : ∃ (loc : Nat -> Loc) (O : Nat -> List Res) (who : Nat -> Option (Option Nat)) (B : Nat -> Prop),
  HSc F σ.heap loc O who B w /\ Slots w B σ.heap loc σ.slots a.tmps /\ All2 (IoOk w B σ.heap loc) σ.io ies
theorem wq {h : Ups} {l : List Nat} : Bnd (fI h l l 0) l.length := by
 intro id hid
 rw [gt]
 simp only [Nat.zero_le,if_true,Nat.sub_zero]
 rw [List.getElem?_eq_none hid]; rfl
theorem Rel.norm {F : Fr} {ies : List (D × Value × List (Option Nat))} {σ : St} {a : Act} {w : World} (r : Rel F ies σ a w) (live : Nat) : Rel F ies (norm live σ) a w := by
 obtain ⟨loc,O,who,B,h1,h2,h3⟩ := r.mem
 exact ⟨r.defers,wq,_,_,_,B,h1.ren (gC _ (by simp)),h2.ren live,h3.map (f := fW _) (fun _ _ h => IoOk.ren h)⟩
theorem qC {x y : Option Ret} {r : Ret} (h : amb x y = some r) : x = some r /\ y = some r := by
 unfold amb at h
 split at h
 ·rename_i e; exact ⟨h,e ▸ h⟩
 ·cases h
theorem xa {x y : Option Ret} {r : Ret} (h1 : x = some r) (h2 : y = some r) : amb x y = some r := by
 unfold amb; rw [if_pos (h1.trans h2.symm)]; exact h1
theorem s6 {P : Program} {w : World} {t e : TypeId} {a : Option Addr} {n c : Nat} (h : P.underlying t = some (.slice e)) :
  (binOp .eql t (.slice a n c) (.slice none 0 0)).run P w = .ok (.bool a.isNone) w := by
 simp only [binOp]
 simp [Op.equal,Op.maxDepth,Lib.run_equalIn_slice_nil w 9999 t e a n c 0 0 h]
theorem sI {P : Program} {ops : Array Oper} {id : Nat} {draw : Bool} {σ σt σf : St} {xs : List D} (ht : qa P ops draw σ = some (σt,σf,xs)) {F : Fr} {ies : List (D × Value × List (Option Nat))} {a : Act} {w : World} (rel : Rel F ies σ a w) {Q : Exit -> Act -> World -> Prop}
  (hT : xs = [] -> ∀ a' w',Rel F ies σt a' w' -> Q .normal a' w') (hF : ∀ a' w',Rel F ies σf a' w' -> Q .normal a' w') : (Code.region id ops draw).wp P Q a w := by
 unfold qa at ht
 split at ht
 case h_2 => cases ht
 rename_i o1 o2 hops
 split at ht
 case h_2 => cases ht
 rename_i x d1 t a' ty d2 e1 e2 e3 e4 e5 e6
 split at ht
 case h_2 => cases ht
 rename_i z ys e haa hx hu
 simp only [Bool.and_eq_true,beq_iff_eq] at haa
 obtain ⟨rfl,hlt⟩ := haa
 have hlt : d1 < σ.slots.length := by simpa using hlt
 simp only [Option.some.injEq,Prod.mk.injEq] at ht
 obtain ⟨rfl,rfl,rfl⟩ := ht
 obtain ⟨hdef,hbnd,loc,O,who,B,s,sl,io⟩ := rel
 have hops' : ops = #[o1,o2] := by apply Array.ext'; simpa using hops
 subst hops'
 refine wp_region ?_
 have hr : List.range (#[o1,o2] : Array Oper).size = [0,1] := rfl
 rw [hr]
 have hv := sl.ev (σ := σ) (x := x) (fun t _ => rfl)
 rw [hx] at hv
 -- the slice's value
 have hval : ∃ base n cap,a.eval x = .slice base n cap /\ (base.isNone = true -> ys = []) := by
  have h2 := hv.2
  simp only [ac,true_and] at h2
  rcases h2 with ⟨rfl,ad,cap,hv⟩ | ⟨b,off,cap,hv,_⟩
  ·exact ⟨ad,_,cap,hv,fun _ => rfl⟩
  ·exact ⟨_,_,cap,hv,fun h => by cases h⟩
 obtain ⟨base,n,cap,hval,hnil⟩ := hval
 have wn1 : Region.wanted o1 (yielded #[o1,o2] a.tmps) = true := by simp [Region.wanted,e3]
 have s1 : Slots w B σ.heap loc (iA σ.slots (some d1) (.d (.rs z ys))) (a.put (some d1) (a.eval x)).tmps := Slots.put sl hv dD (fun t => rfl)
 have hlt' : d1 < a.tmps.size := by rw [<- sl.len]; exact hlt
 have hv1 : (a.put (some d1) (a.eval x)).eval (.tmp d1) = .slice base n cap := by rw [<- hval]; simp [Act.eval,Act.put,hlt']
 have wn2 : Region.wanted o2 (yielded #[o1,o2] (a.put (some d1) (a.eval x)).tmps) = true := by simp [Region.wanted,e6]
 have r1 : (execOp a.eval o1).run P w = .ok (.value (a.eval x)) w := by simp [execOp,e1]
 have r2 : (execOp (a.put (some d1) (a.eval x)).eval o2).run P w = .ok (.value (.bool base.isNone)) w := by
  have hc : (a.put (some d1) (a.eval x)).eval (.const (.slice none 0 0)) = .slice none 0 0 := rfl
  have hg : (eqGuard .eql t (.tmp d1) (.const (.slice none 0 0)) (.slice base n cap) (.slice none 0 0)).run P w = .ok () w := rfl
  simp only [execOp,e4,hv1,hc,Sem.run_bind,hg,Result.andThen_ok,s6 hu,Sem.run_pure]
 have fin : ∀ b : Bool,base.isNone = b -> Rel F ies (put (put σ (some d1) (.d (.rs z ys)) []) (some d2) (.d (.bool b)) []) ((a.put (some d1) (a.eval x)).put (some d2) (.bool base.isNone)) w := by
  intro b hb
  refine ⟨hdef,hbnd,loc,O,who,B,s,?_,io⟩
  have := Slots.put s1 (dst := some d2) (v := .d (.bool b)) (val := .bool base.isNone) (rep_bool.2 (by rw [hb])) dD (fun t => rfl)
  exact this
 have goal2 : Q .normal ((a.put (some d1) (a.eval x)).put (some d2) (.bool base.isNone)) w := by
  cases hb : base.isNone with
  | true => exact hb ▸ hT (hnil hb) _ _ (fin true hb)
  | false => exact hb ▸ hF _ _ (fin false hb)
 simp only [wpOps]
 have g0 : (#[o1,o2] : Array Oper)[0]? = some o1 := rfl
 have g1 : (#[o1,o2] : Array Oper)[1]? = some o2 := rfl
 rw [g0]
 simp only [wn1,if_true]
 refine .inl ?_
 unfold Oper.wp
 rw [r1]
 simp only [Oper.upon,e2,g1,wn2,if_true]
 refine .inl ?_
 rw [r2]
 simp only [e5]
 exact goal2
section
variable {P : Program} {F : Fr} {h : Ups} {loc : Nat -> Loc} {O : Nat -> List Res} {who : Nat -> Option (Option Nat)} {B : Nat -> Prop} {w : World}
theorem uq (s : HSc F h loc O who B w) {id : Nat} {cs : List A} {v : Value} (ha : al w B h loc (.ref id 0 0) v) (hg : ae h id = some (.var cs)) :
  ∃ b base sz c ty fr vs,v = .pointer (some ⟨b,base,none⟩) /\ w.heap[b]? = some (.cells c ty fr) /\ c.size = sz /\ iU c.size fr /\ base + cs.length <= c.size /\ cellsAt w b base vs /\ All2 (al w B h loc) cs vs /\ O id = [.rng b base (base + cs.length)] := by
 obtain ⟨_,ob,hob,hb⟩ := ha
 rw [hget_some.1 hg] at hob; cases hob
 obtain ⟨b,base,sz,hloc,rfl⟩ := hb _ rfl
 obtain ⟨b',base',sz',c,ty,fr,vs,hl',hh,hsz,hu',hle,hc,hcs,hO⟩ := s.blk id _ hg (fun hx => hx)
 rw [hloc] at hl'; cases hl'
 subst hsz
 exact ⟨b,base,_,c,ty,fr,vs,by simp [b9],hh,rfl,hu',hle,hc,hcs,hO⟩
theorem li (s : HSc F h loc O who B w) {ts : List TypeId} {id : Nat} {cs : List A} {v : Value} {xs : List D} {gone : List Nat} (ha : al w B h loc (.ref id 0 0) v) (hg : ae h id = some (.var cs)) (h1 : ax P h ts cs = some (xs,gone)) (hn : (id :: gone).Nodup) :
  ∃ o,ac w B (.op xs) v o /\ From h O (id :: gone) o /\ (aa o).Nodup := by
 obtain ⟨b,base,sz,c,ty,fr,vs,rfl,hh,hsz,hu,hle,hc,hcs,hO⟩ := uq s ha hg
 rw [List.nodup_cons] at hn
 obtain ⟨o',q1,q2,q3,q4,q5⟩ := dW s hcs h1 hn.2
 refine ⟨.rng b base (base + cs.length) :: o',?_,?_,?_⟩
 ·simp only [ac]
  exact ⟨b,base,vs,c,ty,fr,o',rfl,hh,hu,by omega,hc,q1,by rw [q5]⟩
 ·intro q hq
  rcases List.mem_cons.1 hq with rfl | hq
  ·exact ⟨id,by simp,⟨_,hg⟩,by rw [hO]; simp⟩
  ·obtain ⟨i,hi,x⟩ := q2 q hq
   exact ⟨i,by simp [hi],x⟩
 ·show (b :: aa o').Nodup
  rw [List.nodup_cons]
  refine ⟨fun hm => ?_,q3⟩
  obtain ⟨q,hq,e⟩ := List.mem_map.1 hm
  obtain ⟨i,hi,_,hw⟩ := q2.toC.whose s q hq
  have hwb : who b = some (some id) := s.own id _ hg (.rng b base (base + cs.length)) (by rw [hO]; simp)
  rw [e,hwb] at hw
  have : id = i := by simpa using hw
  subst this
  exact hn.1 hi
theorem lh {t : TypeId} {a : A} {r : D × List Nat} (hg : d8 P h t a = some r) : ∀ cs,a ≠ .tup cs := by
 rintro cs rfl
 simp [d8,aq] at hg
theorem iu {a : A} {v : Value} (h1 : ∀ cs,a ≠ .tup cs) (ha : aJ w B h loc a v) : bx w B h loc a v := by
 cases a <;> first | exact ha | exact absurd rfl (h1 _)
theorem o8 (s : HSc F h loc O who B w) {t : TypeId} {a : A} {v : Value} {x : D} {gone : List Nat} (ha : bx w B h loc a v) (hg : d8 P h t a = some (x,gone)) (hn : gone.Nodup) :
  ∃ o,ac w B x v o /\ From h O gone o /\ (aa o).Nodup := by
 have cell : al w B h loc a v -> aq P h t a = some (x,gone) -> ∃ o,ac w B x v o /\ From h O gone o /\ (aa o).Nodup := by
  intro h1 h2
  obtain ⟨o,p1,p2,p3,p4,p5⟩ := fM s h1 h2
  exact ⟨o,p1,p3,p4⟩
 cases a with
 | agg cs =>
  simp only [d8] at hg
  split at hg
  ·simp only [Option.map_eq_some_iff] at hg
   obtain ⟨⟨xs,g⟩,h1,e⟩ := hg
   cases e
   obtain ⟨vs,rfl,hc⟩ := ha
   obtain ⟨o,p1,p2,p3,p4,p5⟩ := dW s hc h1 hn
   exact ⟨o,by simp only [ac]; exact ⟨vs,rfl,p1⟩,p2,p3⟩
  ·cases hg
 | ref id i off =>
  cases i with
  | succ i => exact cell ha (by simpa [d8] using hg)
  | zero =>
   cases off with
   | succ off => exact cell ha (by simpa [d8] using hg)
   | zero =>
    simp only [d8] at hg
    split at hg
    ·split at hg
     ·rename_i ts cs hts hgv
      split at hg
      ·simp only [Option.map_eq_some_iff] at hg
       obtain ⟨⟨xs,g⟩,h1,e⟩ := hg
       cases e
       exact li s ha hgv h1 hn
      ·cases hg
     ·cases hg
    ·cases hg
 | fn f cs => simp [d8,aq] at hg
 | tup cs => exact ha.elim
 | d x => exact cell ha (by simpa [d8] using hg)
 | rp z xs i off => exact cell ha (by simpa [d8] using hg)
 | asl id rng => exact cell ha (by simpa [d8] using hg)
 | mp _ => exact cell ha (by simpa [d8] using hg)
 | undef => exact cell ha (by simpa [d8] using hg)
theorem mC (s : HSc F h loc O who B w) : ∀ {ts : List TypeId} {as : List A} {vs : List Value} {xs : List D} {gone : List Nat},All2 (aJ w B h loc) as vs -> jr P h ts as = some (xs,gone) -> gone.Nodup ->
  ∃ o,bv w B xs vs o /\ From h O gone o /\ (aa o).Nodup
 | [],[],vs,xs,gone,ha,hg,hn => by
  simp [jr] at hg
  obtain ⟨rfl,rfl⟩ := hg
  cases ha
  exact ⟨[],by simp [bv],by simp [From],by simp [aa]⟩
 | [],_ :: _,vs,xs,gone,ha,hg,hn => by simp [jr] at hg
 | _ :: _,[],vs,xs,gone,ha,hg,hn => by simp [jr] at hg
 | t :: ts,a :: as,vs,xs,gone,ha,hg,hn => by
  simp only [jr] at hg
  split at hg
  ·rename_i x i r j h1 h2
   simp only [Option.some.injEq,Prod.mk.injEq] at hg
   obtain ⟨rfl,rfl⟩ := hg
   cases ha with | cons a1 a2 =>
   obtain ⟨o1,p1,p2,p3⟩ := o8 s (iu (lh h1) a1) h1 (List.nodup_append.1 hn).1
   obtain ⟨o2,q1,q2,q3⟩ := mC s a2 h2 (List.nodup_append.1 hn).2.1
   obtain ⟨f1,f2⟩ := From.append s p2 q2 hn p3 q3
   refine ⟨o1 ++ o2,?_,f1,f2⟩
   simp only [bv]
   exact ⟨_,_,o1,o2,rfl,rfl,p1,q1⟩
  ·cases hg
theorem uI (s : HSc F h loc O who B w) {ts : List TypeId} {a : A} {v : Value} {x : D} {gone : List Nat} (ha : (∃ as vs,a = .tup as /\ v = .tuple vs /\ All2 (aJ w B h loc) as vs.toList) \/ ((∀ cs,a ≠ .tup cs) /\ bx w B h loc a v)) (hg : vC P h ts a = some (x,gone)) (hn : gone.Nodup) :
  ∃ o,ac w B x v o /\ From h O gone o /\ (aa o).Nodup := by
 unfold vC at hg
 split at hg
 ·rcases ha with ⟨as,vs,rfl,_,_⟩ | ⟨_,ha⟩
  ·exact absurd rfl (lh hg _)
  ·exact o8 s ha hg hn
 ·simp only [Option.map_eq_some_iff] at hg
  obtain ⟨⟨xs,g⟩,h1,e⟩ := hg
  cases e
  rcases ha with ⟨as',vs,e,rfl,ha⟩ | ⟨ha,_⟩
  ·cases e
   obtain ⟨o,p1,p2,p3⟩ := mC s ha h1 hn
   exact ⟨o,by simp only [ac]; exact ⟨vs,rfl,p1⟩,p2,p3⟩
  ·exact absurd rfl (ha _)
 ·cases hg
def ib (mode : Nat -> Mode) (L : Nat -> List (Option Nat)) : Nat -> List D -> List Value -> List (D × Value × List (Option Nat))
 | i,x :: xs,v :: vs => match jS (mode i) x with
  | true => (x,v,L i) :: ib mode L (i + 1) xs vs
  | false => ib mode L (i + 1) xs vs
 | _,_,_ => []
def ot (w : World) (B : Nat -> Prop) : List (D × Value × List (Option Nat)) -> List D -> List Res -> Prop
 | [],ys,o => ys = [] /\ o = []
 | e :: es,ys,o => ∃ y ys' o1 o2,ys = y :: ys' /\ o = o1 ++ o2 /\ gj e.2.2 w B e.1 y e.2.1 o1 /\ ot w B es ys' o2
theorem mF {mode : Nat -> Mode} {L : Nat -> List (Option Nat)} : ∀ {i : Nat} {xs : List D} {vs : List Value} {ys : List D} {o : List Res},vs.length = xs.length -> ot w B (ib mode L i xs vs) ys o -> fh mode L w B i xs vs ys o
 | i,[],[],ys,o,_,hb => ⟨rfl,hb.1,hb.2⟩
 | i,[],_ :: _,ys,o,hl,hb => by simp at hl
 | i,_ :: _,[],ys,o,hl,hb => by simp at hl
 | i,x :: xs,v :: vs,ys,o,hl,hb => by
  simp only [ib] at hb
  simp only [fh]
  split
  ·rename_i hx
   rw [hx] at hb
   obtain ⟨y,ys',o1,o2,rfl,rfl,h1,h2⟩ := hb
   exact ⟨v,vs,y,ys',o1,o2,rfl,rfl,rfl,h1,mF (by simpa using hl) h2⟩
  ·rename_i hx
   rw [hx] at hb
   exact ⟨v,vs,rfl,mF (by simpa using hl) hb⟩
theorem qZ (s : HSc F h loc O who B w) {t : TypeId} {a : A} {lc : Option Nat} {v : Value} {x : D} {gone : List Nat} (ha : al w B h loc a v) (hg : aq P h t a = some (x,gone)) (hw : cE [a] = true) (g : d7 w B h loc a lc) {o : List Res} (hr : iv (gw loc h a) w B x v o) : iv lc w B x v o := by
 cases a with
 | asl id rng =>
  have hr' : rng = none := by cases rng <;> first | rfl | cases hw
  subst hr'
  simp only [aq] at hg
  split at hg
  ·rename_i z xs hgt
   cases hg
   simp only [gw,hgt] at hr
   cases lc with
   | none =>
    obtain ⟨_,ob,hob,hb⟩ := g
    rw [hget_some.1 hgt] at hob; cases hob
    obtain ⟨m,hm,hs⟩ := hb _ rfl
    cases hl : loc id with
    | nil => rw [hl] at hr; exact hr
    | «at» b base sz =>
     rw [hl] at hs
     obtain ⟨ad,cap,hv,_⟩ := hs
     cases hv
   | some b =>
    obtain ⟨base,_,ob,hob,hb⟩ := g
    rw [hget_some.1 hgt] at hob; cases hob
    obtain ⟨b',base',sz',hl,hv⟩ := hb _ rfl
    rw [hl] at hr
    simp only at hr
    injection hv with hv; injection hv with hv; injection hv with e1 e2
    rw [e1]; exact hr
  ·rename_i z xs hgt
   cases hg
   exact hr
  ·cases hg
 | d y =>
  have hy : y ≠ .nl \/ y = .nl := by cases y <;> simp
  rcases hy with hy | rfl
  ·have : aq P h t (.d y) = some (y,[]) := by cases y <;> first | rfl | exact absurd rfl hy
   rw [this] at hg; cases hg
   have h1 := ha.1
   cases x <;> first | exact hr | exact h1.elim
  ·cases hw
 | _ => simp [aq] at hg
theorem ki {a : A} {as : List A} (h : cE (a :: as) = true) : cE [a] = true /\ cE as = true := by
 cases a with
 | asl id rng => cases rng <;> simp_all [cE]
 | d x => cases x <;> simp_all [cE]
 | _ => exact ⟨rfl,h⟩
theorem lP {as : List A} (h : cE as = true) : bg as = true := by
 induction as with
 | nil => rfl
 | cons a as ih =>
  obtain ⟨h1,h2⟩ := ki h
  cases a with
  | asl id rng => cases rng <;> simp_all [cE,bg]
  | _ => exact ih h2
theorem o6 (s : HSc F h loc O who B w) : ∀ {ts : List TypeId} {as : List A} {lcs : List (Option Nat)} {vs : List Value} {xs : List D} {gone : List Nat} {o : List Res},All2 (al w B h loc) as vs -> ax P h ts as = some (xs,gone) -> cE as = true -> All2 (d7 w B h loc) as lcs -> cg w B (as.map (gw loc h)) xs vs o -> cg w B lcs xs vs o
 | [],[],lcs,vs,xs,gone,o,ha,hg,hw,g,hr => by cases g; exact hr
 | [],_ :: _,lcs,vs,xs,gone,o,ha,hg,hw,g,hr => by simp [ax] at hg
 | _ :: _,[],lcs,vs,xs,gone,o,ha,hg,hw,g,hr => by simp [ax] at hg
 | t :: ts,a :: as,lcs,vs,xs,gone,o,ha,hg,hw,g,hr => by
  simp only [ax] at hg
  split at hg
  ·rename_i x i r j h1 h2
   cases hg
   cases ha with | cons a1 a2 =>
   cases g with | cons g1 g2 =>
   obtain ⟨w1,w2⟩ := ki hw
   obtain ⟨v,vs',o1,o2,hv,ho,hr1,hr2⟩ := hr
   cases hv
   exact ⟨_,_,o1,o2,rfl,ho,qZ s a1 h1 w1 g1 hr1,o6 s a2 h2 w2 g2 hr2⟩
  ·cases hg
theorem mz (s : HSc F h loc O who B w) : ∀ {iot : List TypeId} {as : List A} {es : List (D × Value × List (Option Nat))} {ys : List D} {gone : List Nat},iot.length = as.length -> All2 (IoOk w B h loc) as es -> my P h (iot.zip as) = some (ys,gone) -> gone.Nodup ->
  ∃ o,ot w B es ys o /\ From h O gone o /\ (aa o).Nodup
 | [],[],es,ys,gone,hl,ha,hg,hn => by
  simp [my] at hg
  obtain ⟨rfl,rfl⟩ := hg
  cases ha
  exact ⟨[],by simp [ot],by simp [From],by simp [aa]⟩
 | [],_ :: _,es,ys,gone,hl,ha,hg,hn => by simp at hl
 | _ :: _,[],es,ys,gone,hl,ha,hg,hn => by simp at hl
 | t :: ts,a :: as,es,ys,gone,hl,ha,hg,hn => by
  simp only [List.zip_cons_cons,my] at hg
  split at hg
  ·cases hg
  rename_i ds j h2
  cases ha with | cons a1 a2 =>
  rename_i e es
  obtain ⟨x0,v0,lcs⟩ := e
  have fin : ∀ {y : D} {g : List Nat},ys = y :: ds -> gone = g ++ j -> (g.Nodup -> ∃ o,gj lcs w B x0 y v0 o /\ From h O g o /\ (aa o).Nodup) -> ∃ o,ot w B ((x0,v0,lcs) :: es) ys o /\ From h O gone o /\ (aa o).Nodup := by
   rintro y g rfl rfl h1
   obtain ⟨o1,p1,p2,p3⟩ := h1 (List.nodup_append.1 hn).1
   obtain ⟨o2,q1,q2,q3⟩ := mz s (by simpa using hl) a2 h2 (List.nodup_append.1 hn).2.1
   obtain ⟨f1,f2⟩ := From.append s p2 q2 hn p3 q3
   exact ⟨o1 ++ o2,⟨y,ds,o1,o2,rfl,rfl,p1,q1⟩,f1,f2⟩
  have notOp : (∀ id i off,a ≠ .ref id i off) -> a ≠ .undef -> (∀ xs,x0 ≠ .op xs) /\ qY w B h loc a lcs := by
   intro n1 n2
   have g2 := a1.2
   simp only at g2
   split at g2
   ·rcases g2 with ⟨id,i,off,e⟩ | e
    ·exact absurd e (n1 _ _ _)
    ·exact absurd e n2
   ·rename_i hno
    exact ⟨hno,g2.2⟩
  have one : (∀ id i off,a ≠ .ref id i off) -> (∀ cs,a ≠ .agg cs) -> (match cE [a] with | true => (aq P h t a).map fun r => (r.1 :: ds,r.2 ++ j) | false => none) = some (ys,gone) -> ∃ o,ot w B ((x0,v0,lcs) :: es) ys o /\ From h O gone o /\ (aa o).Nodup := by
   intro n1 n2 hg
   split at hg
   case h_2 => cases hg
   rename_i hwh
   simp only [Option.map_eq_some_iff] at hg
   obtain ⟨⟨y,g⟩,h1,e⟩ := hg
   cases e
   obtain ⟨hno,hgh⟩ := notOp n1 (by rintro rfl; simp [aq] at h1)
   refine fin rfl rfl (fun hgn => ?_)
   have ha1 := pn n2 (by rintro f cs rfl; simp [aq] at h1) a1.1
   obtain ⟨o,p1,p3,p4,p5⟩ := jp s ha1 h1 (lP hwh)
   refine ⟨o,?_,p3,p4⟩
   rw [kw n2] at hgh
   cases hgh with | cons g1 g2 =>
   cases g2
   have hcl := qZ s ha1 h1 hwh g1 p1
   have hcls : ∀ lc,iv lc w B y v0 o -> qj [lc] w B y v0 o := by
    intro lc hc
    have hya : ∀ cs,y ≠ .agg cs := by
     rintro cs rfl
     rcases jP h1 with ⟨_,_,e⟩ | ⟨_,_,e⟩ | e
     ·cases e
     ·cases e
     ·subst e; exact ha1.1
    rw [kH hya]
    exact ⟨v0,[],o,[],rfl,by simp,hc,rfl,rfl⟩
   have := hcls _ hcl
   cases x0 <;> first | exact this | exact absurd rfl (hno _)
  split at hg
  ·rename_i id
   split at hg
   case h_2 => cases hg
   rename_i e hu
   split at hg
   case h_2 => cases hg
   rename_i cts cs hts hgv
   simp only [Option.map_eq_some_iff] at hg
   obtain ⟨⟨xs,g⟩,h1,e⟩ := hg
   cases e
   have hop : ∃ xs,x0 = .op xs := by
    have g2 := a1.2
    simp only at g2
    split at g2
    ·exact ⟨_,rfl⟩
    ·exact absurd rfl (g2.1 _ _ _)
   obtain ⟨xs0,rfl⟩ := hop
   refine fin (y := .op xs) (g := id :: g) rfl rfl (fun hgn => ?_)
   exact li s a1.1 hgv h1 hgn
  ·rename_i cs
   split at hg
   ·rename_i cts hts hwh
    simp only [Option.map_eq_some_iff] at hg
    obtain ⟨⟨xs,g⟩,h1,e⟩ := hg
    cases e
    obtain ⟨hno,hgh⟩ := notOp (by simp) (by simp)
    refine fin rfl rfl (fun hgn => ?_)
    obtain ⟨vs,hv,hc⟩ := a1.1
    obtain ⟨o,p1,p2,p3⟩ := jq s hc h1 (lP hwh) hgn
    have hb : qj lcs w B (.agg xs) v0 o := ⟨vs,hv,o6 s hc h1 hwh hgh p1⟩
    refine ⟨o,?_,p2,p3⟩
    cases x0 <;> first | exact hb | exact absurd rfl (hno _)
   ·cases hg
  ·rename_i n1 n2
   have nref : ∀ id i off,a ≠ .ref id i off := by
    rintro id i off rfl
    split at hg
    ·simp [aq] at hg
    ·cases hg
   exact one nref (fun cs e => n2 cs e) hg
end
structure Ent where
 mode : Nat -> Mode
 L : Nat -> List (Option Nat)
 w0 : World
 B0 : Nat -> Prop
 o0 : List Res
 ps : List D
 pv : List Value
def Ent.fr (E : Ent) : Fr := ⟨E.B0,E.w0,E.o0⟩
def Ent.ies (E : Ent) : List (D × Value × List (Option Nat)) := ib E.mode E.L 0 E.ps E.pv
def Ent.post (E : Ent) (r : Ret) (v : Value) (w : World) : Prop := ∃ B' oR oI,CameBack E.mode E.L E.w0 E.B0 E.o0 E.ps E.pv r v w B' oR oI
section
variable {P : Program}
def vX (P : Program) (σ : St) (r : ResultVar) : Option A :=
 match r with
 | .tmp t => some (aL σ.slots t)
 | .cell a t => match aL σ.slots a,tsz P t with
  | .ref id 0 0,some s => match ae σ.heap id with
   | some (.var cs) => match cs.length == s with | true => mkA P t cs | false => none
   | _ => none
  | _,_ => none
def sW (tmps : Array Value) (r : ResultVar) : Sem Value :=
 match r with
 | .tmp t => pure (tmps.getD t undef)
 | .cell a t => do loadVar t (<- asAddr (tmps.getD a undef))
theorem wQ {F : Fr} {σ : St} {loc : Nat -> Loc} {O : Nat -> List Res} {who : Nat -> Option (Option Nat)} {B : Nat -> Prop} {w : World} {tmps : Array Value} (s : HSc F σ.heap loc O who B w) (sl : Slots w B σ.heap loc σ.slots tmps) {r : ResultVar} {a : A} (h : vX P σ r = some a) :
  ∃ v,(sW tmps r).run P w = .ok v w /\ aJ w B σ.heap loc a v := by
 cases r with
 | tmp t =>
  simp only [vX,Option.some.injEq] at h
  subst h
  exact ⟨_,rfl,sl.rep t⟩
 | cell ad t =>
  simp only [vX] at h
  split at h
  case h_2 => cases h
  rename_i id sz hsl hsz
  split at h
  case h_2 => cases h
  rename_i cs hg
  split at h
  case h_2 => cases h
  rename_i hl
  have hl : cs.length = sz := by simpa using hl
  have hr := sl.rep ad
  rw [hsl] at hr
  obtain ⟨b,base,sz',c,ty,fr,vs,hv,hh,_,hu,hle,hc,hcs,hO⟩ := uq s hr hg
  have hvl := hcs.length
  rcases pX h hcs with ⟨fs,hu',rfl,hrep⟩ | ⟨td,c',u,hu',n1,n2,hcs',rfl,hvs',hrep⟩
  ·refine ⟨_,?_,hrep⟩
   have := ik hu' (by rw [<- hvl,hl]; exact hsz) hc
   simp only [sW,hv,asAddr,Sem.run_bind,Sem.run_pure,Result.andThen_ok,this]
  ·refine ⟨_,?_,hrep⟩
   rw [hvs'] at hc
   have := dC hu' ⟨n1,n2⟩ (cellsAt_one.1 hc)
   simp only [sW,hv,asAddr,Sem.run_bind,Sem.run_pure,Result.andThen_ok,this]
theorem qk {F : Fr} {σ : St} {loc : Nat -> Loc} {O : Nat -> List Res} {who : Nat -> Option (Option Nat)} {B : Nat -> Prop} {w : World} {tmps : Array Value} (s : HSc F σ.heap loc O who B w) (sl : Slots w B σ.heap loc σ.slots tmps) : ∀ {rs : List ResultVar} {as : List A},rs.mapM (vX P σ) = some as ->
  ∃ vs,(rs.mapM (sW tmps)).run P w = .ok vs w /\ All2 (aJ w B σ.heap loc) as vs
 | [],as,h => by
  simp at h
  subst h
  exact ⟨[],by simp,.nil⟩
 | r :: rs,as,h => by
  simp only [List.mapM_cons,Option.bind_eq_bind,Option.pure_def] at h
  obtain ⟨a,h1,h2⟩ := Option.bind_eq_some_iff.1 h
  obtain ⟨as',h3,h4⟩ := Option.bind_eq_some_iff.1 h2
  cases h4
  obtain ⟨v,e1,r1⟩ := wQ s sl h1
  obtain ⟨vs,e2,r2⟩ := qk s sl h3
  exact ⟨v :: vs,by simp [List.mapM_cons,e1,e2],.cons r1 r2⟩
theorem nG {F : Fr} {σ : St} {loc : Nat -> Loc} {O : Nat -> List Res} {who : Nat -> Option (Option Nat)} {B : Nat -> Prop} {w : World} {tmps : Array Value} (s : HSc F σ.heap loc O who B w) (sl : Slots w B σ.heap loc σ.slots tmps) {fn : Func} {a : A} (h : uj P fn σ = some a) :
  ∃ v,(results fn tmps).run P w = .ok v w /\ ((∃ as vs,a = .tup as /\ v = .tuple vs /\ All2 (aJ w B σ.heap loc) as vs.toList) \/ aJ w B σ.heap loc a v) := by
 have h' : (match fn.results.toList.mapM (vX P σ) with | some [v] => some v | some vs => some (.tup vs) | none => none) = some a := h
 have hrun : ∀ vs : List Value,(fn.results.toList.mapM (sW tmps)).run P w = .ok vs w -> (results fn tmps).run P w = .ok (if h : vs.toArray.size = 1 then vs.toArray[0] else .tuple vs.toArray) w := by
  intro vs hvs
  have e : (fn.results.mapM (sW tmps)).run P w = .ok vs.toArray w := by
   rw [Array.mapM_eq_mapM_toList]
   simp [hvs]
  show (do let vs <- fn.results.mapM (sW tmps); pure (if h : vs.size = 1 then vs[0] else .tuple vs) : Sem Value).run P w = _
  simp [e]
 split at h'
 ·rename_i v hm
  cases h'
  obtain ⟨vs,e,r⟩ := qk s sl hm
  cases r with | cons r1 r2 =>
  cases r2
  exact ⟨_,hrun _ e,.inr (by simpa using r1)⟩
 ·rename_i as hne hm
  cases h'
  obtain ⟨vs,e,r⟩ := qk s sl hm
  refine ⟨_,hrun _ e,.inl ⟨as,vs.toArray,rfl,?_,r⟩⟩
  rw [dif_neg]
  intro h1
  have h1 : vs.length = 1 := by simpa using h1
  rw [<- r.length] at h1
  match as,h1,hne with
  | [x],_,hne => exact hne x rfl
 ·cases h'
theorem pJ {fn : Func} {E : Ent} {iot : List TypeId} {σ : St} {r : Ret} {a : Act} {w : World} (h : mr P fn iot σ = some r) (hpv : E.pv.length = E.ps.length) (hiot : iot.length = E.ies.length) (rel : Rel E.fr E.ies σ a w) :
  a.defers = [] /\ ∃ v,(results fn a.tmps).run P w = .ok v w /\ E.post r v w := by
 obtain ⟨hdef,hbnd,loc,O,who,B,s,sl,io⟩ := rel
 refine ⟨hdef,?_⟩
 unfold mr at h
 split at h
 ·cases h
 rename_i va hva
 split at h
 ·rename_i r0 i ds j hr hio
  split at h
  ·rename_i hnd
   cases h
   have hnd := ez hnd
   obtain ⟨v,hrun,hrep⟩ := nG s sl hva
   refine ⟨v,hrun,?_⟩
   have hrep' : (∃ as vs,va = .tup as /\ v = .tuple vs /\ All2 (aJ w B σ.heap loc) as vs.toList) \/ ((∀ cs,va ≠ .tup cs) /\ bx w B σ.heap loc va v) := by
    rcases hrep with h1 | h1
    ·exact .inl h1
    ·by_cases ht : ∃ cs,va = .tup cs
     ·obtain ⟨cs,rfl⟩ := ht
      obtain ⟨vs,rfl,hc⟩ := h1
      exact .inl ⟨cs,vs,rfl,rfl,hc.mono (fun _ _ => bZ)⟩
     ·have ht' : ∀ cs,va ≠ .tup cs := fun cs e => ht ⟨cs,e⟩
      exact .inr ⟨ht',iu ht' h1⟩
   obtain ⟨oR,p1,p2,p3⟩ := uI s hrep' hr (List.nodup_append.1 hnd).1
   obtain ⟨oI,q1,q2,q3⟩ := mz s (by rw [hiot,io.length]) io hio (List.nodup_append.1 hnd).2.1
   obtain ⟨f1,f2⟩ := From.append s p2 q2 hnd p3 q3
   refine ⟨B,oR,oI,s.chg,s.b0,?_,p1,mF hpv q1,f2,?_⟩
   ·intro b hb
    refine ⟨s.blt b hb,?_⟩
    rcases s.bsub b hb with h1 | h1 | h1
    ·exact .inl h1
    ·exact .inr (.inl h1)
    ·exact .inr (.inr h1)
   ·intro q hq
    obtain ⟨id,_,_,hw⟩ := f1.toC.whose s q hq
    have hm := s.mine _ _ hw
    exact ⟨hm.1,hm.2.1,f1.toC.okr s q hq⟩
  ·cases h
 ·cases h
def Goes (P : Program) (f : Nat) (E : Ent) (r : Ret) (todo : List Item) (a : Act) (w : World) : Prop :=
 ∀ (b : Frame) (cs : List Frame),b.fn = f -> b.kind = .normal ->
  ∃ v w' fr,E.post r v w' /\ Steps P (lone (b.at a todo) cs w) (lone fr cs w') /\ fr.fn = f /\ fr.leaving P w' (.returned v)
theorem Goes.step {f : Nat} {E : Ent} {r : Ret} {todo todo' : List Item} {a : Act} {w : World} (h : ∀ (b : Frame) (cs : List Frame),step P (lone (b.at a todo) cs w) = .next (lone (b.at a todo') cs w)) (g : Goes P f E r todo' a w) : Goes P f E r todo a w := by
 intro b cs h1 h2
 obtain ⟨v,w',fr,p1,p2,p3,p4⟩ := g b cs h1 h2
 exact ⟨v,w',fr,p1,.head (h b cs) p2,p3,p4⟩
def qA (P : Program) (f : Nat) (E : Ent) (next : List Item -> St -> Option Ret) : Prop :=
 ∀ todo σ r,next todo σ = some r -> ∀ a w,Rel E.fr E.ies σ a w -> Goes P f E r todo a w
theorem q8 {f : Nat} {fn : Func} {E : Ent} {iot : List TypeId} (hf : P.funcs[f]? = some fn) (hpv : E.pv.length = E.ps.length) (hiot : iot.length = E.ies.length) {σ : St} {r : Ret} (h : mr P fn iot σ = some r) {a : Act} {w : World} (rel : Rel E.fr E.ies σ a w) {todo : List Item}
  (hs : ∀ (b : Frame) (cs : List Frame),step P (lone (b.at a todo) cs w) = .next (lone { b.at a todo with mode := .returning } cs w)) : Goes P f E r todo a w := by
 intro b cs h1 h2
 obtain ⟨hd,v,hr,hp⟩ := pJ h hpv hiot rel
 exact ⟨v,w,_,hp,.one (hs b cs),h1,rfl,hd,h2,fn,by rw [<- h1] at hf; exact hf,hr⟩
theorem Rel.of_mem {F : Fr} {ies : List (D × Value × List (Option Nat))} {σ : St} {n : Nat} (σ' : St) {a : Act} {w : World} (hd : a.defers = []) (hb : Bnd σ'.heap n) {loc loc' : Nat -> Loc} {O' : Nat -> List Res} {who' : Nat -> Option (Option Nat)} {B B' : Nat -> Prop} {w0 : World}
  (s : HSc F σ'.heap loc' O' who' B' w) (sl : Slots w B' σ'.heap loc' σ'.slots a.tmps) (k : Kp w0 B σ.heap loc w B' σ'.heap loc') (hio : σ'.io = σ.io) (io : All2 (IoOk w0 B σ.heap loc) σ.io ies) : Rel F ies { σ' with next := n } a w :=
 ⟨hd,hb,loc',O',who',B',s,sl,by show All2 _ σ'.io ies; rw [hio]; exact io.mono (fun _ _ g => g.mono k)⟩
theorem sY {cf : Cfg} {call : Nat -> List D -> Option Ret} (hs : df P cf call) (hm : P.follows .mixedOrders = true) {f : Nat} {fn : Func} (hf : P.funcs[f]? = some fn) {E : Ent} {iot : List TypeId} (hpv : E.pv.length = E.ps.length) (hiot : iot.length = E.ies.length)
  {next : List Item -> St -> Option Ret} (hn : qA P f E next) : ∀ (g : Nat) (todo : List Item) (σ : St) (r : Ret),dp P cf call f fn iot next g todo σ = some r -> ∀ a w,Rel E.fr E.ies σ a w -> Goes P f E r todo a w := by
 intro g
 induction g with
 | zero => intro todo σ r h; simp [dp] at h
 | succ g ih =>
  intro todo σ r h a w rel
  simp only [dp,iG,gq,rf] at h
  split at h
  ·exact q8 hf hpv hiot h rel (fun b cs => step_end)
  ·exact q8 hf hpv hiot h rel (fun b cs => step_ret)
  ·exact Goes.step (fun b cs => step_skip) (ih _ _ _ h a w rel)
  ·exact Goes.step (fun b cs => step_inBlock) (ih _ _ _ h a w rel)
  ·exact Goes.step (fun b cs => step_seq) (ih _ _ _ h a w rel)
  ·rename_i c x y k
   split at h
   ·rename_i b hc
    obtain ⟨hdef,hbnd,loc,O,who,B,s,sl,io⟩ := id rel
    have hv := sl.ev (σ := σ) (x := c) (fun t _ => rfl)
    rw [hc,rep_bool] at hv
    cases b with
    | true => exact Goes.step (fun b cs => by have := step_cond (P := P) (b := b) (a := a) (k := k) (cs := cs) (w := w) (x := x) (y := y) hv; simpa using this) (ih _ _ _ h a w rel)
    | false => exact Goes.step (fun b cs => by have := step_cond (P := P) (b := b) (a := a) (k := k) (cs := cs) (w := w) (x := x) (y := y) hv; simpa using this) (ih _ _ _ h a w rel)
   ·cases h
  ·exact Goes.step (fun b cs => step_block) (ih _ _ _ h a w rel)
  ·split at h
   ·split at h
    ·exact Goes.step (fun b cs => step_loop) (hn _ _ _ h a w (rel.norm _))
    ·cases h
   ·cases h
  ·split at h
   ·split at h
    ·exact Goes.step (fun b cs => step_inLoop) (hn _ _ _ h a w (rel.norm _))
    ·cases h
   ·cases h
  ·rename_i id k
   split at h
   ·rename_i k' hk
    exact Goes.step (fun b cs => step_exit hk) (ih _ _ _ h a w rel)
   ·cases h
  ·rename_i rid ops draw k
   split at h
   ·rename_i σt σf xs hnt
    intro b cs h1 h2
    have hY : dp P cf call f fn iot next g k σf = some r /\ (xs = [] -> dp P cf call f fn iot next g k σt = some r) := by
     unfold vO at h
     split at h
     ·obtain ⟨hx,hy⟩ := qC h; exact ⟨hy,fun _ => hx⟩
     ·exact ⟨h,fun e => by cases e⟩
    have hwp := sI (id := rid) (Q := fun e a' w' => e = .normal /\ Goes P f E r k a' w') hnt rel
     (fun hxs a' w' rel' => ⟨rfl,ih _ _ _ (hY.2 hxs) a' w' rel'⟩) (fun a' w' rel' => ⟨rfl,ih _ _ _ hY.1 a' w' rel'⟩)
    obtain ⟨e,a',w',⟨he,hgo⟩,harr⟩ := hwp b k cs
    subst he
    obtain ⟨v,w2,fr,p1,p2,p3,p4⟩ := hgo b cs h1 h2
    exact ⟨v,w2,fr,p1,Steps.trans harr p2,p3,p4⟩
   obtain ⟨ss,σ',tr,h,hlen⟩ := mU hs _ h
   obtain ⟨hdef,hbnd,loc,O,who,B,s,sl,io⟩ := rel
   have hio : σ'.io = σ.io := by rw [kQ tr 0]
   have go : ∀ (hd : draw = true -> (dg ops.toList 0 && dv (kv ops ops.toList σ.next ss) (km ops.toList []) []) = true),dp P cf call f fn iot next g k { σ' with next := σ.next + ai * ops.size } = some r -> Goes P f E r (.code (.region rid ops draw) :: k) a w := by
    intro hd h b cs h1 h2
    have hwp := qh (id := rid) (draw := draw) (Q := fun e a' w' => e = .normal /\ Rel E.fr E.ies { σ' with next := σ.next + ai * ops.size } a' w') hm tr hbnd hd hdef s sl
     (fun a' w' loc' O' who' B' d1 s1 sl1 k1 => ⟨rfl,Rel.of_mem σ' d1 (wo tr hbnd) s1 sl1 k1 hio io⟩)
    obtain ⟨e,a',w',⟨he,hrel⟩,harr⟩ := hwp b k cs
    subst he
    obtain ⟨v,w2,fr,p1,p2,p3,p4⟩ := ih _ _ _ h a' w' hrel b cs h1 h2
    exact ⟨v,w2,fr,p1,Steps.trans harr p2,p3,p4⟩
   simp only [List.nil_append] at h
   cases draw with
   | false => exact go (fun h => by cases h) h
   | true =>
    simp only at h
    split at h
    ·rename_i hd; exact go (fun _ => hd) h
    ·cases h
  ·cases h
end
section
variable {B0 : Nat -> Prop} {w0 : World} {o0 : List Res} {X : Nat -> Prop} {B : Nat -> Prop} {w : World}
theorem j0 {h : Ups} {loc : Nat -> Loc} {O : Nat -> List Res} {who : Nat -> Option (Option Nat)} (s : HS B0 w0 o0 X h loc O who B w) {n : Nat} {x : D} {v : Value} {o : List Res} {lc : Option Nat} (hx : dw x = true) (hr : iv lc w B x v o) (f : Floats w0 o0 who o) (hf : Fresh h n (af n x).2.1) :
  ∃ loc' O' who',Raised B0 w0 o0 X h loc who B w o n (af n x).2.1 (af n x).2.2 loc' O' who' /\ al w B ((af n x).2.2 ++ h) loc' (af n x).1 v /\ d7 w B ((af n x).2.2 ++ h) loc' (af n x).1 lc := by
 rcases kU hx with hv | ⟨z,xs,rfl⟩
 ·have hr' : cX x /\ ac w B x v o := by cases x <;> first | exact hr | exact hv.elim
  obtain ⟨loc',O',who',r,a⟩ := jv s hx hr'.2 f hf
  refine ⟨loc',O',who',r,a,?_⟩
  have e : (af n x).1 = .d x := by cases x <;> first | rfl | exact hv.elim
  rw [e]; trivial
 ·have hf0 : hfind h n = none := hf n (Nat.le_refl _) (by simp [af])
  cases lc with
  | none =>
   obtain ⟨rfl,rfl,ad,rfl⟩ := hr
   obtain ⟨O',who',r⟩ := dl s hf0 (.arr z []) .nil f (fun _ _ _ => .inl ⟨rfl,rfl,rfl⟩)
   refine ⟨_,O',who',r,⟨⟨_,_,_,rfl⟩,some (.arr z []),by simp [af,aj],fun blk hb => ?_⟩,⟨⟨_,_,_,rfl⟩,some (.arr z []),by simp [af,aj],fun blk hb => ?_⟩⟩
   ·cases hb; exact ⟨0,rfl,by simp [dI]⟩
   ·cases hb; exact ⟨0,rfl,by simp [dI]⟩
  | some b =>
   obtain ⟨c,ty,fr,hh,hu,hr⟩ := hr
   rcases hr with ⟨off,cap,o',rfl,hc0,hcp,hcz,he,rfl⟩ | ⟨rfl,⟨ad,rfl⟩,rfl⟩
   ·obtain ⟨O',who',r⟩ := dl s hf0 (.arr z xs) (.at b off c.size) f (fun _ _ _ => .inr ⟨b,off,c.size,c,ty,fr,o',rfl,hh,rfl,hu,he,rfl⟩)
    refine ⟨_,O',who',r,⟨⟨_,_,_,rfl⟩,some (.arr z xs),by simp [af,aj],fun blk hb => ?_⟩,⟨off,⟨_,rfl⟩,some (.arr z xs),by simp [af,aj],fun blk hb => ?_⟩⟩
    ·cases hb
     refine ⟨xs.length,rfl,?_⟩
     simp only [if_true]
     exact ⟨_,cap,rfl,hcp,fun h0 => ⟨rfl,by simpa [b9] using hcz⟩⟩
    ·cases hb
     exact ⟨b,off,c.size,by simp,by simp [b9]⟩
   ·obtain ⟨O',who',r⟩ := dl s hf0 (.arr z []) (.at b 0 c.size) f (fun _ _ _ => .inr ⟨b,0,c.size,c,ty,fr,[],rfl,hh,rfl,hu,repEs_nil.2 rfl,rfl⟩)
    refine ⟨_,O',who',r,⟨⟨_,_,_,rfl⟩,some (.arr z []),by simp [af,aj],fun blk hb => ?_⟩,⟨0,⟨_,rfl⟩,some (.arr z []),by simp [af,aj],fun blk hb => ?_⟩⟩
    ·cases hb
     refine ⟨0,rfl,?_⟩
     simp only [if_true]
     exact ⟨_,0,rfl,Nat.le_refl _,fun h0 => by omega⟩
    ·cases hb
     exact ⟨b,0,c.size,by simp,by simp [b9]⟩
theorem je : ∀ {xs : List D} {lcs : List (Option Nat)} {n : Nat} {h : Ups} {loc : Nat -> Loc} {O : Nat -> List Res} {who : Nat -> Option (Option Nat)} {vs : List Value} {o : List Res},HS B0 w0 o0 X h loc O who B w -> (∀ x ∈ xs,dw x = true) -> cg w B lcs xs vs o -> Floats w0 o0 who o -> Fresh h n (ar n xs).2.1 ->
  ∃ loc' O' who',Raised B0 w0 o0 X h loc who B w o n (ar n xs).2.1 (ar n xs).2.2 loc' O' who' /\ All2 (al w B ((ar n xs).2.2 ++ h) loc') (ar n xs).1 vs /\ All2 (d7 w B ((ar n xs).2.2 ++ h) loc') (ar n xs).1 lcs
 | [],[],n,h,loc,O,who,vs,o,s,_,hr,f,hf => by
  obtain ⟨rfl,rfl⟩ := hr
  exact ⟨loc,O,who,dk s [] n,.nil,.nil⟩
 | [],_ :: _,n,h,loc,O,who,vs,o,s,_,hr,f,hf => hr.elim
 | _ :: _,[],n,h,loc,O,who,vs,o,s,_,hr,f,hf => hr.elim
 | x :: xs,lc :: lcs,n,h,loc,O,who,vs,o,s,hc,hr,f,hf => by
  obtain ⟨v,vs',o1,o2,rfl,rfl,h1,h2⟩ := hr
  have m1 := aY n x
  have m2 := bu xs (af n x).2.1
  rw [iq] at hf ⊢
  simp only at hf ⊢
  obtain ⟨loc2,O2,who2,r2,a2,g2⟩ := je (n := (af n x).2.1) s (fun y hy => hc y (by simp [hy])) h2 f.right (fun i h1 h2 => hf i (by omega) h2)
  have f1 : Floats w0 o0 who2 o1 := f.left.congr (fun b hb hw => by
   obtain ⟨q,hq,rfl⟩ := List.mem_map.1 hb
   exact r2.who _ (f.apart q hq) hw)
  obtain ⟨loc1,O1,who1,r1,a1,g1⟩ := j0 (n := n) r2.hs (hc x (by simp)) h1 f1 (Fresh.over (h := h) (fun i h1 h2 => hf i h1 (by omega)) (fun i hi => (m2.2 i hi).1))
  refine ⟨loc1,O1,who1,Raised.trans m1.1 m2.1 r2 r1,?_,?_⟩
  ·rw [List.append_assoc]
   exact .cons a1 (a2.mono (Kp.of (fun _ h => h) (fun _ _ => rfl) r1.ext))
  ·rw [List.append_assoc]
   exact .cons g1 (g2.mono (fun _ _ => lg (Kp.of (fun _ h => h) (fun _ _ => rfl) r1.ext)))
theorem qg {n : Nat} {x : D} (hx : ∀ cs,x ≠ .op cs) : ∀ id i off,(ap n x).1 ≠ .ref id i off := by
 intro id i off e
 cases x with
 | bp cs =>
  simp only [ap] at e
  unfold bpA at e
  split at e <;> cases e
 | op cs => exact hx _ rfl
 | _ => simp [ap,af] at e
theorem qf {h : Ups} {loc : Nat -> Loc} {O : Nat -> List Res} {who : Nat -> Option (Option Nat)} (s : HS B0 w0 o0 X h loc O who B w) {n : Nat} {m : Mode} {x : D} {v : Value} {o : List Res} {lcs : List (Option Nat)} (hx : okV x = true) (hr : gQ m lcs w B x v o) (f : Floats w0 o0 who o) (hf : Fresh h n (ap n x).2.1) :
  ∃ loc' O' who',Raised B0 w0 o0 X h loc who B w o n (ap n x).2.1 (ap n x).2.2 loc' O' who' /\ bx w B ((ap n x).2.2 ++ h) loc' (ap n x).1 v /\ (jS m x = true -> IoOk w B ((ap n x).2.2 ++ h) loc' (ap n x).1 (x,v,lcs)) := by
 by_cases hop : ∃ cs,x = .op cs
 ·obtain ⟨cs,rfl⟩ := hop
  obtain ⟨loc',O',who',r,a⟩ := gB s hx (oi hr) f hf
  exact ⟨loc',O',who',r,a,fun _ => ⟨a,.inl ⟨_,_,_,rfl⟩⟩⟩
 ·have hop : ∀ cs,x ≠ .op cs := fun cs e => hop ⟨cs,e⟩
  by_cases hm : m = .mut
  ·subst hm
   have hr' : qj lcs w B x v o := by cases x <;> first | exact hr | exact absurd rfl (hop _)
   have io : ∀ {h' : Ups} {loc' : Nat -> Loc},bx w B h' loc' (ap n x).1 v -> qY w B h' loc' (ap n x).1 lcs -> IoOk w B h' loc' (ap n x).1 (x,v,lcs) := by
    intro h' loc' a g
    refine ⟨a,?_⟩
    have : (∀ id i off,(ap n x).1 ≠ .ref id i off) /\ qY w B h' loc' (ap n x).1 lcs := ⟨qg hop,g⟩
    cases x <;> first | exact this | exact absurd rfl (hop _)
   by_cases hag : ∃ cs,x = .agg cs
   ·obtain ⟨cs,rfl⟩ := hag
    obtain ⟨vs,rfl,hr'⟩ := hr'
    obtain ⟨loc',O',who',r,a,g⟩ := je s (fun c hc => List.all_eq_true.1 hx c hc) hr' f hf
    exact ⟨loc',O',who',r,⟨vs,rfl,a⟩,fun _ => io ⟨vs,rfl,a⟩ g⟩
   ·have hag : ∀ cs,x ≠ .agg cs := fun cs e => hag ⟨cs,e⟩
    have hcl := (kH hag).1 hr'
    cases lcs with
    | nil => exact hcl.elim
    | cons lc lcs =>
    obtain ⟨v1,vs1,o1,o2,e1,rfl,hc,hrest⟩ := hcl
    cases e1
    cases lcs with
    | cons _ _ => exact hrest.elim
    | nil =>
    obtain ⟨_,rfl⟩ := hrest
    rw [List.append_nil] at f ⊢
    have hc2 : dw x = true /\ ap n x = af n x := by
     cases x <;> first | exact ⟨rfl,rfl⟩ | exact absurd rfl (hop _) | exact absurd rfl (hag _) | exact hc.1.elim
    rw [hc2.2] at hf io ⊢
    obtain ⟨loc',O',who',r,a,g⟩ := j0 s hc2.1 hc f hf
    have hA : (∃ d,(af n x).1 = .d d) \/ (af n x).1 = .asl n none := by cases x <;> first | exact .inl ⟨_,rfl⟩ | exact .inr rfl
    have a2 : bx w B ((af n x).2.2 ++ h) loc' (af n x).1 v := by
     rcases hA with ⟨d,e⟩ | e <;> rw [e] at a ⊢ <;> exact a
    refine ⟨loc',O',who',r,a2,fun _ => io a2 ?_⟩
    rcases hA with ⟨d,e⟩ | e
    ·rw [e] at g ⊢; exact .cons g .nil
    ·rw [e] at g ⊢; exact .cons g .nil
  ·have hr' : ac w B x v o := by cases m <;> first | exact hr | exact absurd rfl hm
   obtain ⟨loc',O',who',r,a⟩ := gB s hx hr' f hf
   exact ⟨loc',O',who',r,a,fun h => by rw [ee hm hop] at h; cases h⟩
theorem jd {mode : Nat -> Mode} {L : Nat -> List (Option Nat)} {fv : List D} {cv : List Value} : ∀ {xs : List D} {ts : List TypeId} {i n : Nat} {h : Ups} {loc : Nat -> Loc} {O : Nat -> List Res} {who : Nat -> Option (Option Nat)} {pv : List Value} {o : List Res},HS B0 w0 o0 X h loc O who B w -> (∀ x ∈ xs ++ fv,okV x = true) -> ts.length = xs.length ->
  dr mode L w B i xs pv o -> bv w B fv cv [] -> Floats w0 o0 who o -> Fresh h n (aF n (xs ++ fv)).2.1 ->
  ∃ loc' O' who',Raised B0 w0 o0 X h loc who B w o n (aF n (xs ++ fv)).2.1 (aF n (xs ++ fv)).2.2 loc' O' who' /\ All2 (bx w B ((aF n (xs ++ fv)).2.2 ++ h) loc') (aF n (xs ++ fv)).1 (pv ++ cv) /\
   All2 (IoOk w B ((aF n (xs ++ fv)).2.2 ++ h) loc') ((ky mode i ts (xs ++ fv) (aF n (xs ++ fv)).1).map (·.2)) (ib mode L i xs pv)
 | [],ts,i,n,h,loc,O,who,pv,o,s,hc,ht,hr,hfv,f,hf => by
  obtain ⟨rfl,rfl⟩ := hr
  obtain ⟨loc',O',who',r,a⟩ := ir s (by simpa using hc) hfv f hf
  have : ts = [] := List.length_eq_zero_iff.1 (by simpa using ht)
  subst this
  refine ⟨loc',O',who',r,a,?_⟩
  simp only [ky,List.map_nil,ib]
  exact .nil
 | x :: xs,[],i,n,h,loc,O,who,pv,o,s,hc,ht,hr,hfv,f,hf => by simp at ht
 | x :: xs,t :: ts,i,n,h,loc,O,who,pv,o,s,hc,ht,hr,hfv,f,hf => by
  obtain ⟨v,vs',o1,o2,rfl,rfl,h1,h2⟩ := hr
  have m1 := fp n x
  have m2 := cZ (xs ++ fv) (ap n x).2.1
  rw [List.cons_append] at hc hf ⊢
  rw [dR] at hf ⊢
  simp only at hf ⊢
  obtain ⟨loc2,O2,who2,r2,a2,g2⟩ := jd (n := (ap n x).2.1) s (fun y hy => hc y (List.mem_cons_of_mem _ hy)) (by simpa using ht) h2 hfv f.right (fun i h1 h2 => hf i (by omega) h2)
  have f1 : Floats w0 o0 who2 o1 := f.left.congr (fun b hb hw => by
   obtain ⟨q,hq,rfl⟩ := List.mem_map.1 hb
   exact r2.who _ (f.apart q hq) hw)
  obtain ⟨loc1,O1,who1,r1,a1,g1⟩ := qf (n := n) r2.hs (hc x (by simp)) h1 f1 (Fresh.over (h := h) (fun i h1 h2 => hf i h1 (by omega)) (fun i hi => (m2.2 i hi).1))
  have k := Kp.of (w := w) (B := B) (fun _ h => h) (fun _ _ => rfl) r1.ext
  refine ⟨loc1,O1,who1,Raised.trans m1.1 m2.1 r2 r1,?_,?_⟩
  ·rw [List.append_assoc]
   exact .cons a1 (All2.mono2 k a2)
  ·rw [List.append_assoc]
   have g2' := g2.mono (fun _ _ g => IoOk.mono k g)
   simp only [ib]
   cases hio : jS (mode i) x with
   | true =>
    have : ky mode i (t :: ts) (x :: (xs ++ fv)) ((ap n x).1 :: (aF (ap n x).2.1 (xs ++ fv)).1) = (t,(ap n x).1) :: ky mode (i + 1) ts (xs ++ fv) (aF (ap n x).2.1 (xs ++ fv)).1 := by
     simp only [ky]
     unfold jS at hio
     split <;> simp_all
    rw [this]
    exact .cons (g1 hio) g2'
   | false =>
    have : ky mode i (t :: ts) (x :: (xs ++ fv)) ((ap n x).1 :: (aF (ap n x).2.1 (xs ++ fv)).1) = ky mode (i + 1) ts (xs ++ fv) (aF (ap n x).2.1 (xs ++ fv)).1 := by
     simp only [ky]
     unfold jS at hio
     split <;> simp_all
    rw [this]
    exact g2'
end
theorem gL {as : List A} {k t : Nat} : aL (as ++ List.replicate k (.tup [])) t = if t < as.length then aL as t else if t < as.length + k then .tup [] else .undef := by
 induction as generalizing t with
 | nil =>
  simp only [List.nil_append,lnN,Nat.not_lt_zero,if_false,Nat.zero_add]
  induction k generalizing t with
  | zero => simp [aL]
  | succ k ih =>
   cases t with
   | zero => simp [List.replicate_succ,aL]
   | succ t => simp only [List.replicate_succ,aL,ih]; simp
 | cons a as ih =>
  cases t with
  | zero => simp [aL]
  | succ t => simp only [List.cons_append,aL,ih]; simp [Nat.add_right_comm]
theorem wT {as : List A} {t : Nat} {a : A} (h : as[t]? = some a) : aL as t = a := by
 induction as generalizing t with
 | nil => simp at h
 | cons x as ih =>
  cases t with
  | zero => simpa [aL] using h
  | succ t => simp only [aL]; exact ih (by simpa using h)
theorem rB {w : World} {B : Nat -> Prop} {h : Ups} {loc : Nat -> Loc} {as : List A} {vs : List Value} {n : Nat} (ha : All2 (bx w B h loc) as vs) : Slots w B h loc (as ++ List.replicate (n - as.length) (.tup [])) (vs.toArray ++ Array.replicate (n - vs.toArray.size) undef) := by
 have hl := ha.length
 refine ⟨by simp [hl],fun t => ?_⟩
 rw [gL]
 by_cases h1 : t < as.length
 ·rw [if_pos h1]
  obtain ⟨v,hv,hr⟩ := ha.get (List.getElem?_eq_getElem h1)
  have e1 : aL as t = as[t] := wT (List.getElem?_eq_getElem h1)
  have e2 : (vs.toArray ++ Array.replicate (n - vs.toArray.size) undef).getD t undef = v := by
   rw [Array.getD_eq_getD_getElem?,Array.getElem?_append_left (by simpa [<- hl] using h1)]
   simp [hv]
  rw [e1,e2]; exact bZ hr
 ·rw [if_neg h1]
  have e2 : (vs.toArray ++ Array.replicate (n - vs.toArray.size) undef).getD t undef = undef := by
   rw [Array.getD_eq_getD_getElem?,Array.getElem?_append_right (by simp [<- hl]; omega),Array.getElem?_replicate]
   split <;> rfl
  rw [e2]
  split
  ·exact rep_emptyTup.2 rfl
  ·trivial
section
variable {P : Program}
open Classical in
theorem qR {cf : Cfg} {f : Nat} {fn : Func} {ds : List D} {body : Code} {iot : List TypeId} {σ : St} (he : mq cf f fn ds = some (body,iot,σ)) {w : World} {B : Nat -> Prop} {L : Nat -> List (Option Nat)} {pv cv : List Value} {o : List Res}
  (hargs : dr (cf.mode f) L w B 0 (ds.take fn.params.size) pv o) (hfv : bv w B (ds.drop fn.params.size) cv []) (hnod : (aa o).Nodup) (hown : ∀ q ∈ o,¬ B q.blk /\ q.blk < w.heap.size) (hB : ∀ b,B b -> b < w.heap.size) :
  fn.body = some body /\ iot.length = (Ent.ies ⟨cf.mode f,L,w,B,o,ds.take fn.params.size,pv⟩).length /\ pv.length = (ds.take fn.params.size).length /\
   Rel ⟨B,w,o⟩ (Ent.ies ⟨cf.mode f,L,w,B,o,ds.take fn.params.size,pv⟩) σ { tmps := (pv ++ cv).toArray ++ Array.replicate (fn.ntmps - (pv ++ cv).toArray.size) undef,defers := [] } w := by
 unfold mq at he
 split at he
 ·cases he
 rename_i body' hbody
 rcases hr : aF 0 ds with ⟨as,n,u⟩
 rw [hr] at he
 simp only at he
 split at he
 case h_2 => cases he
 rename_i hc
 simp only [Bool.and_eq_true,beq_iff_eq] at hc
 obtain ⟨hlen,hok⟩ := hc
 cases he
 have hpl := gR hargs
 have hlds : as.length = ds.length := by
  have : ∀ (xs : List D) (n : Nat),(aF n xs).1.length = xs.length := by
   intro xs
   induction xs with
   | nil => intro n; rfl
   | cons x xs ih => intro n; rw [dR]; simp [ih]
  have h1 := this ds 0
  rw [hr] at h1; exact h1
 have htl : (ds.take fn.params.size).length = fn.params.size := by rw [List.length_take]; omega
 have hsplit : ds.take fn.params.size ++ ds.drop fn.params.size = ds := List.take_append_drop ..
 have s0 : HS B w o NoX [] (fun _ => .nil) (fun _ => []) (fun b => if b ∈ aa o then some none else none) B w := by
  refine ⟨fun id b h => by simp [ae] at h,fun id b h => by simp [ae] at h,fun id b h => by simp [ae] at h,fun id b h => by simp [ae] at h,?_,hB,fun b h => .inl h,fun b h => h,Chg.refl o w⟩
  intro b ow hb
  by_cases e : b ∈ aa o
  ·obtain ⟨q,hq,rfl⟩ := List.mem_map.1 e
   exact ⟨(hown q hq).1,(hown q hq).2,.inr e⟩
  ·simp [e] at hb
 have f0 : Floats w o (fun b => if b ∈ aa o then some none else none) o := by
  refine ⟨fun q hq => ?_,hnod,fun q hq => .inr ⟨List.mem_map.2 ⟨q,hq,rfl⟩,fun j hj => ⟨q,hq,hj⟩⟩⟩
  have : q.blk ∈ aa o := List.mem_map.2 ⟨q,hq,rfl⟩
  simp [this]
 obtain ⟨loc',O',who',r,a,g⟩ := jd (n := 0) (i := 0) (ts := fn.params.toList) (xs := ds.take fn.params.size) (fv := ds.drop fn.params.size) s0 (by rw [hsplit]; exact fun x hx => List.all_eq_true.1 hok x hx) (by rw [htl]; simp) hargs hfv f0 (fun i _ _ => rfl)
 rw [hsplit,hr] at r a g
 simp only [List.append_nil] at r a g
 have m := cZ ds 0
 rw [hr] at m
 simp only at m
 refine ⟨hbody,?_,hpl,rfl,?_,loc',O',who',B,?_,?_,g⟩
 ·have := g.length
  simpa [Ent.ies] using this
 ·intro id hid
  exact bU (fun hm => by have := m.2 id hm; simp only at hid; omega)
 ·have := r.hs
  rw [List.append_nil] at this
  exact this
 ·exact rB a
theorem pq {cf : Cfg} {call : Nat -> List D -> Option Ret} (hs : df P cf call) (hm : P.follows .mixedOrders = true) {f : Nat} {fn : Func} (hf : P.funcs[f]? = some fn) {E : Ent} {iot : List TypeId} (hpv : E.pv.length = E.ps.length) (hiot : iot.length = E.ies.length) :
  ∀ k,qA P f E (run P cf call f fn iot k)
 | 0 => fun todo σ r h => by simp [run] at h
 | k + 1 => fun todo σ r h a w rel => sY hs hm hf hpv hiot (pq hs hm hf hpv hiot k) _ _ _ _ h a w rel
theorem qQ {cf : Cfg} {call : Nat → List D → Option Ret} (hs : df P cf call) (hm : P.follows .mixedOrders = true) (hnm : P.funcs.all (fun fn => !(fn.name == "runtime.NumGoroutine")) = true) {f : Nat} {fn : Func} (hf : P.funcs[f]? = some fn) {k : Nat} {ds : List D} {r : Ret} (h : ku P cf call k f fn ds = some r) :
  Meets P (cf.mode f) f ds r /\ pD P f := by
 unfold ku at h
 split at h
 case h_2 => cases h
 rename_i body iot σ he
 constructor
 ·intro fn' hf' w B L pv cv o hargs hfv hnod hown hB
  rw [hf] at hf'; cases hf'
  obtain ⟨hbody,hiot,hpl,rel⟩ := qR he hargs hfv hnod hown hB
  have g := pq (E := ⟨cf.mode f,L,w,B,o,ds.take fn.params.size,pv⟩) hs hm hf hpl hiot k _ _ _ h _ _ rel
  intro cs
  let b : Frame := { (default : Frame) with fn := f,kind := .normal }
  have henter : Frame.enter P f (pv ++ cv).toArray .normal =
    b.at { tmps := (pv ++ cv).toArray ++ Array.replicate (fn.ntmps - (pv ++ cv).toArray.size) undef,defers := [] } [.code body] := by
   simp [Frame.enter,Frame.at,hf,hbody,b]
  obtain ⟨v,w',fr,hp,hst,hfr,hlv⟩ := g b cs rfl rfl
  refine ⟨.returned v,w',fr,?_,by rw [henter]; exact hst,hfr,hlv⟩
  obtain ⟨B',oR,oI,cb⟩ := hp
  exact ⟨v,B',oR,oI,rfl,cb⟩
 ·refine ⟨fn,hf,?_,?_⟩
  ·unfold mq at he
   split at he
   ·cases he
   ·rename_i hb; rw [hb]; rfl
  ·have := Array.all_eq_true_iff_forall_mem.1 hnm fn (Array.mem_of_getElem? hf)
   simpa using this
def lX (P : Program) (cf : Cfg) : Prop := ∀ f F,cf.ext f = some F -> ∀ ds r,F ds = some r -> Meets P (cf.mode f) f ds r /\ pD P f
theorem oD {cf : Cfg} (hx : lX P cf) (hm : P.follows .mixedOrders = true) (hnm : P.funcs.all (fun fn => !(fn.name == "runtime.NumGoroutine")) = true) : ∀ k, df P cf (den P cf k)
 | 0 => fun f ds r h => by simp [den] at h
 | k + 1 => fun f ds r h => by
  simp only [den] at h
  split at h
  ·rename_i F hF; exact hx f F hF ds r h
  ·split at h
   ·rename_i fn hf; exact qQ (oD hx hm hnm k) hm hnm hf h
   ·cases h
end
structure Fil (ι : Type) where
 E : (ι -> Prop) -> Prop
 top : ∀ {p : ι -> Prop},(∀ i,p i) -> E p
 and : ∀ {p q : ι -> Prop},E p -> E q -> E fun i => p i /\ q i
 up : ∀ {p q : ι -> Prop},E p -> (∀ i,p i -> q i) -> E q
section
variable {ι : Type} (Φ : Fil ι) {P : Program} {cf : Cfg}
def pC (c : ι -> Nat -> List D -> Option Ret) (C : Nat -> List D -> Option Ret) : Prop := ∀ f ds r,C f ds = some r -> Φ.E fun i => c i f ds = some r
theorem sM {c1 c2 : Nat -> List D -> Option Ret} {n : Nat} {o : Oper} {σ : St} {R : Type} {K : A -> Ups -> List Nat -> Option R} (h : ∀ c,o.op = .call c -> ∀ f,c.callee ≠ .value f) : opK P cf c1 n o σ K = opK P cf c2 n o σ K := by
 unfold opK
 split
 all_goals first
  | rfl
  | (
    rename_i c hop
    split
    all_goals first
     | rfl
     | (rename_i f hc; exact absurd hc (h _ hop _)))
theorem vz {call : Nat -> List D -> Option Ret} {n : Nat} {h : Ups} {f : Nat} {as caps : List A} {R : Type} {r : R} {K : A -> Ups -> List Nat -> Option R} (hk : jK P cf call n h f as caps K = some r) :
  ∃ ds x,call f ds = some x /\ ∀ call' : Nat -> List D -> Option Ret,call' f ds = some x -> jK P cf call' n h f as caps K = some r := by
 unfold jK at hk
 split at hk
 case h_1 => cases hk
 rename_i fn hfn
 split at hk
 case h_1 => cases hk
 case h_2 => cases hk
 rename_i ls cds clent hls hcaps
 simp only at hk
 split at hk
 case h_1 => cases hk
 rename_i hdj
 unfold jb at hk
 split at hk
 case h_2 => cases hk
 rename_i x hx
 refine ⟨_,x,hx,fun call' hc' => ?_⟩
 unfold jK
 simp only [hfn,hls,hcaps,hdj,jb,hc']
 exact hk
theorem u3 {call : Nat -> List D -> Option Ret} {n : Nat} {o : Oper} {σ : St} {R : Type} {r : R} {J : A -> Ups -> List Nat -> Option R} (h : opK P cf call n o σ J = some r) :
  ∃ v u f,opK P cf call n o σ (fun v u f => some (v,u,f)) = some (v,u,f) /\ J v u f = some r := by
 have e : (opK P cf call n o σ fun v u f => some (v,u,f)).bind (fun p => J p.1 p.2.1 p.2.2) = some r := (rl P cf call n o σ _ _).trans h
 obtain ⟨⟨v,u,f⟩,h1,h2⟩ := Option.bind_eq_some_iff.1 e
 exact ⟨v,u,f,h1,h2⟩
theorem vQ {call : Nat -> List D -> Option Ret} {n : Nat} {o : Oper} {σ : St} {R : Type} {v : A} {u : Ups} {f : List Nat} {J : A -> Ups -> List Nat -> Option R} (h : opK P cf call n o σ (fun v u f => some (v,u,f)) = some (v,u,f)) :
  opK P cf call n o σ J = J v u f := by
 have e : (opK P cf call n o σ fun v u f => some (v,u,f)).bind (fun p => J p.1 p.2.1 p.2.2) = opK P cf call n o σ J := rl P cf call n o σ _ _
 rw [<- e,h]; rfl
variable {c : ι -> Nat -> List D -> Option Ret} {C : Nat -> List D -> Option Ret}
theorem xk (hc : pC Φ c C) {n : Nat} {o : Oper} {σ : St} {R : Type} {r : R} {K : A -> Ups -> List Nat -> Option R} (h : opK P cf C n o σ K = some r) : Φ.E fun i => opK P cf (c i) n o σ K = some r := by
 by_cases hop : ∃ cc f,o.op = .call cc /\ cc.callee = .value f
 ·obtain ⟨cc,f,h1,h2⟩ := hop
  have e : ∀ call : Nat -> List D -> Option Ret,opK P cf call n o σ K = gV P cf call n σ.heap (ev σ f) (cc.args.toList.map (ev σ)) K := by
   intro call; unfold opK; simp only [h1,h2]
  rw [e] at h
  simp only [e]
  unfold gV at h ⊢
  split at h
  ·rename_i g caps hg
   obtain ⟨ds,x,h3,h4⟩ := vz h
   exact Φ.up (hc _ _ _ h3) (fun i hi => h4 _ hi)
  ·cases h
 ·have e : ∀ i,opK P cf (c i) n o σ K = opK P cf C n o σ K := fun i => sM (fun cc h1 f h2 => hop ⟨cc,f,h1,h2⟩)
  exact Φ.top (fun i => (e i).trans h)
theorem ug (hc : pC Φ c C) {ops : Array Oper} {R : Type} {r : R} {k : ι -> St -> List Foot -> Option R} {K : St -> List Foot -> Option R} (hk : ∀ σ l,K σ l = some r -> Φ.E fun i => k i σ l = some r) :
  ∀ (os : List Oper) {n : Nat} {σ : St} {l : List Foot},fU P cf C ops os n σ l K = some r -> Φ.E fun i => fU P cf (c i) ops os n σ l (k i) = some r
 | [],n,σ,l,h => hk σ l h
 | o :: os,n,σ,l,h => by
  have step : ∀ {σ : St} {v : A} {u : Ups} {f : List Nat},eW ops o n σ l (fun σ' l' => fU P cf C ops os (n + ai) σ' l' K) v u f = some r -> Φ.E fun i => eW ops o n σ l (fun σ' l' => fU P cf (c i) ops os (n + ai) σ' l' (k i)) v u f = some r := by
   intro σ v u f h
   unfold eW at h ⊢
   simp only [tW,gq] at h ⊢
   split at h
   ·rename_i hb
    try simp only []
    exact ug hc hk os h
   ·cases h
  have run : ∀ {σ : St},opK P cf C n o σ (eW ops o n σ l fun σ' l' => fU P cf C ops os (n + ai) σ' l' K) = some r -> Φ.E fun i => opK P cf (c i) n o σ (eW ops o n σ l fun σ' l' => fU P cf (c i) ops os (n + ai) σ' l' (k i)) = some r := by
   intro σ h
   obtain ⟨v,u,f,h1,h2⟩ := u3 h
   refine Φ.up (Φ.and (xk Φ hc h1) (step h2)) (fun i hi => ?_)
   rw [vQ hi.1]; exact hi.2
  simp only [fU] at h ⊢
  split at h
  ·rename_i hg; exact run h
  ·rename_i j want hg
   split at h
   ·cases h
   ·rename_i dj hdj
    split at h
    ·rename_i hsl; exact step h
    ·rename_i b hsl
     cases b with
     | true =>
      simp only [br] at h ⊢
      cases want with
      | true => exact run h
      | false => exact step h
     | false =>
      simp only [br] at h ⊢
      cases want with
      | true => exact step h
      | false => exact run h
    ·cases h
theorem ul (hc : pC Φ c C) {f : Nat} {fn : Func} {iot : List TypeId} {nx : ι -> List Item -> St -> Option Ret} {NX : List Item -> St -> Option Ret} (hn : ∀ todo σ r,NX todo σ = some r -> Φ.E fun i => nx i todo σ = some r) :
  ∀ (g : Nat) (todo : List Item) (σ : St) (r : Ret),dp P cf C f fn iot NX g todo σ = some r -> Φ.E fun i => dp P cf (c i) f fn iot (nx i) g todo σ = some r := by
 intro g
 induction g with
 | zero => intro todo σ r h; simp [dp] at h
 | succ g ih =>
  intro todo σ r h
  simp only [dp,iG,gq,rf] at h ⊢
  split at h
  ·exact Φ.top (fun _ => h)
  ·exact Φ.top (fun _ => h)
  ·exact ih _ _ _ h
  ·exact ih _ _ _ h
  ·exact ih _ _ _ h
  ·split at h
   ·rename_i b hcv
    cases b with
    | true => exact ih _ _ _ h
    | false => exact ih _ _ _ h
   ·cases h
  ·exact ih _ _ _ h
  ·split at h
   ·rename_i h1
    split at h
    ·rename_i h2; exact hn _ _ _ h
    ·cases h
   ·cases h
  ·split at h
   ·rename_i h1
    split at h
    ·rename_i h2; exact hn _ _ _ h
    ·cases h
   ·cases h
  ·split at h
   ·rename_i h1; exact ih _ _ _ h
   ·cases h
  ·split at h
   ·unfold vO at h ⊢
    split at h
    ·obtain ⟨hx,hy⟩ := qC h
     exact Φ.up (Φ.and (ih _ _ _ hx) (ih _ _ _ hy)) (fun i hi => xa hi.1 hi.2)
    ·exact ih _ _ _ h
   refine ug Φ hc (fun σ' l h => ?_) _ h
   split at h
   ·exact ih _ _ _ h
   ·split at h
    ·rename_i hd
     exact ih _ _ _ h
    ·cases h
  ·cases h
end
def one : Fil Unit := ⟨fun p => p (),fun h => h (),fun h1 h2 => ⟨h1,h2⟩,fun h1 h2 => h2 () h1⟩
section
variable {P : Program} {cf : Cfg}
theorem kI {c C : Nat -> List D -> Option Ret} {nx NX : List Item -> St -> Option Ret} (hc : ∀ f ds r,C f ds = some r -> c f ds = some r) (hn : ∀ todo σ r,NX todo σ = some r -> nx todo σ = some r) {f : Nat} {fn : Func} {iot : List TypeId} {g : Nat} {todo : List Item} {σ : St} {r : Ret}
  (h : dp P cf C f fn iot NX g todo σ = some r) : dp P cf c f fn iot nx g todo σ = some r :=
 ul one (c := fun _ => c) (nx := fun _ => nx) hc hn g todo σ r h
theorem eF {c C : Nat -> List D -> Option Ret} (hc : ∀ f ds r,C f ds = some r -> c f ds = some r) {f : Nat} {fn : Func} {iot : List TypeId} : ∀ {k j : Nat},k <= j -> ∀ todo σ r,run P cf C f fn iot k todo σ = some r -> run P cf c f fn iot j todo σ = some r
 | 0,j,hk,todo,σ,r,h => by simp [run] at h
 | k + 1,0,hk,todo,σ,r,h => by omega
 | k + 1,j + 1,hk,todo,σ,r,h => kI hc (eF hc (k := k) (j := j) (by omega)) h
theorem oC : ∀ (m : Nat) (f : Nat) (ds : List D) (r : Ret),den P cf m f ds = some r -> den P cf (m + 1) f ds = some r
 | 0,f,ds,r,h => by simp [den] at h
 | m + 1,f,ds,r,h => by
  rw [den] at h ⊢
  split at h
  ·rename_i h1; exact h
  ·rename_i h1
   split at h
   ·rename_i h2
    unfold ku at h ⊢
    split at h
    ·rename_i h3
     exact eF (oC m) (Nat.le_succ _) _ _ _ h
    ·cases h
   ·cases h
theorem fJ {m j : Nat} (h : m <= j) {f : Nat} {ds : List D} {r : Ret} (hd : den P cf m f ds = some r) : den P cf j f ds = some r := by
 induction h with
 | refl => exact hd
 | step _ ih => exact oC _ _ _ _ ih
open Classical in
def lim {α : Type} (p : α -> Prop) : Option α := if h : ∃ r,p r then some (Classical.choose h) else none
theorem rb {α : Type} {p : α -> Prop} {r : α} (h : lim p = some r) : p r := by
 unfold lim at h
 split at h
 ·rename_i hx
  cases h
  exact Classical.choose_spec hx
 ·cases h
theorem rC {α : Type} {p : α -> Prop} (hu : ∀ r r',p r -> p r' -> r = r') {r : α} (h : p r) : lim p = some r := by
 unfold lim
 have hx : ∃ r,p r := ⟨r,h⟩
 rw [dif_pos hx]
 exact congrArg some (hu _ _ (Classical.choose_spec hx) h)
def Vn (P : Program) (cf : Cfg) (f : Nat) (ds : List D) : Option Ret := lim fun r => ∃ k,den P cf k f ds = some r
def Rn (P : Program) (cf : Cfg) (f : Nat) (fn : Func) (iot : List TypeId) (todo : List Item) (σ : St) : Option Ret := lim fun r => ∃ k,run P cf (den P cf k) f fn iot k todo σ = some r
theorem tM {f : Nat} {ds : List D} {r : Ret} {k : Nat} (h : den P cf k f ds = some r) : Vn P cf f ds = some r := by
 refine rC (fun r r' ⟨k,h1⟩ ⟨j,h2⟩ => ?_) ⟨k,h⟩
 have h3 := fJ (Nat.le_max_left k j) h1
 have h4 := fJ (Nat.le_max_right k j) h2
 rw [h3] at h4; exact Option.some.inj h4
theorem uf {f : Nat} {ds : List D} {r : Ret} (h : Vn P cf f ds = some r) : ∃ k,den P cf k f ds = some r := rb (p := fun r => ∃ k,den P cf k f ds = some r) h
theorem kJ {k j : Nat} (h : k <= j) {f : Nat} {fn : Func} {iot : List TypeId} {todo : List Item} {σ : St} {r : Ret} (hr : run P cf (den P cf k) f fn iot k todo σ = some r) : run P cf (den P cf j) f fn iot j todo σ = some r :=
 eF (fun f ds r => fJ h) h _ _ _ hr
theorem vp {f : Nat} {fn : Func} {iot : List TypeId} {todo : List Item} {σ : St} {r : Ret} {k : Nat} (h : run P cf (den P cf k) f fn iot k todo σ = some r) : Rn P cf f fn iot todo σ = some r := by
 refine rC (fun r r' ⟨k,h1⟩ ⟨j,h2⟩ => ?_) ⟨k,h⟩
 have h3 := kJ (Nat.le_max_left k j) h1
 have h4 := kJ (Nat.le_max_right k j) h2
 rw [h3] at h4; exact Option.some.inj h4
theorem w7 {f : Nat} {fn : Func} {iot : List TypeId} {todo : List Item} {σ : St} {r : Ret} (h : Rn P cf f fn iot todo σ = some r) : ∃ k,run P cf (den P cf k) f fn iot k todo σ = some r := rb (p := fun r => ∃ k,run P cf (den P cf k) f fn iot k todo σ = some r) h
def far : Fil Nat := ⟨fun p => ∃ k,∀ i,k <= i -> p i,fun h => ⟨0,fun i _ => h i⟩,fun ⟨k,h1⟩ ⟨j,h2⟩ => ⟨max k j,fun i hi => ⟨h1 i (Nat.le_trans (Nat.le_max_left _ _) hi),h2 i (Nat.le_trans (Nat.le_max_right _ _) hi)⟩⟩,fun ⟨k,h1⟩ h2 => ⟨k,fun i hi => h2 i (h1 i hi)⟩⟩
theorem rv {f : Nat} {fn : Func} {iot : List TypeId} {g : Nat} {todo : List Item} {σ : St} {r : Ret} (h : dp P cf (Vn P cf) f fn iot (Rn P cf f fn iot) g todo σ = some r) : ∃ k,∀ i,k <= i -> dp P cf (den P cf i) f fn iot (run P cf (den P cf i) f fn iot i) g todo σ = some r :=
 ul far (c := fun i => den P cf i) (nx := fun i => run P cf (den P cf i) f fn iot i)
  (fun f ds r h => by obtain ⟨k,h1⟩ := uf h; exact ⟨k,fun i hi => fJ hi h1⟩)
  (fun todo σ r h => by obtain ⟨k,h1⟩ := w7 h; exact ⟨k,fun i hi => kJ hi h1⟩) g todo σ r h
theorem yC {f : Nat} {fn : Func} (iot : List TypeId) (todo : List Item) (σ : St) : Rn P cf f fn iot todo σ = dp P cf (Vn P cf) f fn iot (Rn P cf f fn iot) BIG todo σ := by
 apply Option.ext
 intro r
 constructor
 ·intro h
  obtain ⟨k,h1⟩ := w7 h
  cases k with
  | zero => simp [run] at h1
  | succ k => exact kI (fun f ds r h => tM h) (fun todo σ r h => vp (k := k + 1) (eF (fun _ _ _ h => h) (Nat.le_succ k) _ _ _ h)) h1
 ·intro h
  obtain ⟨k,h1⟩ := rv h
  have h2 := h1 k (Nat.le_refl _)
  have h3 : run P cf (den P cf k) f fn iot (k + 1) todo σ = some r := h2
  exact vp (k := k + 1) (eF (fun f ds r => fJ (Nat.le_succ k)) (Nat.le_refl _) _ _ _ h3)
theorem yD {f : Nat} {fn : Func} (hf : P.funcs[f]? = some fn) (he : cf.ext f = none) (ds : List D) : Vn P cf f ds = sr P cf (Vn P cf) (Rn P cf f fn) f fn ds := by
 apply Option.ext
 intro r
 constructor
 ·intro h
  obtain ⟨k,h1⟩ := uf h
  cases k with
  | zero => simp [den] at h1
  | succ k =>
   simp only [den,he,hf] at h1
   unfold ku at h1
   unfold sr
   split at h1
   ·rename_i h3
    cases k with
    | zero => simp [run] at h1
    | succ k => exact kI (fun f ds r h => tM h) (fun todo σ r h => vp (k := k + 1) (eF (fun _ _ _ h => h) (Nat.le_succ k) _ _ _ h)) h1
   ·cases h1
 ·intro h
  unfold sr at h
  split at h
  ·rename_i body iot σ hent
   obtain ⟨k,h1⟩ := rv h
   have h2 := h1 k (Nat.le_refl _)
   have h3 : run P cf (den P cf k) f fn iot (k + 1) [.code body] σ = some r := h2
   have h4 := eF (fun f ds r => fJ (Nat.le_succ k)) (Nat.le_refl _) _ _ _ h3
   refine tM (k := k + 2) ?_
   simp only [den,he,hf]
   unfold ku
   rw [hent]
   exact h4
  ·cases h
theorem vq (hx : lX P cf) (hm : P.follows .mixedOrders = true) (hnm : P.funcs.all (fun fn => !(fn.name == "runtime.NumGoroutine")) = true) {f : Nat} {ds : List D} {r : Ret} (h : Vn P cf f ds = some r) : Meets P (cf.mode f) f ds r := by
 obtain ⟨k,h1⟩ := uf h
 exact (oD hx hm hnm k f ds r h1).1
theorem yp {f : Nat} {F : List D -> Option Ret} (he : cf.ext f = some F) (ds : List D) : Vn P cf f ds = F ds := by
 apply Option.ext
 intro r
 constructor
 ·intro h
  obtain ⟨k,h1⟩ := uf h
  cases k with
  | zero => simp [den] at h1
  | succ k => simpa only [den,he] using h1
 ·intro h
  refine tM (k := 1) ?_
  simpa only [den,he] using h
end
open Go.ChangeShapes Go.WideShapes Go.RowKit
def okTy (P : Program) : Nat -> TypeId -> Bool
 | 0,_ => false
 | n + 1,t => match P.underlying t with
  | some .bool => P.cellsOf t == 1
  | some (.int _) => P.cellsOf t == 1
  | some .string => P.cellsOf t == 1
  | some (.slice e) => P.cellsOf t == 1 && okTy P n e && (tsz P e == some (P.cellsOf e)) && Nat.blt 0 (P.cellsOf e) && (tag P e || P.cellsOf e == 1)
  | some (.struct fs) => fs.toList.all (fun f => okTy P n f.type) && okFs P fs.toList 0 (P.cellsOf t)
  | _ => false
where
 okFs (P : Program) : List Field -> Nat -> Nat -> Bool
  | [],off,tot => off == tot
  | f :: fs,off,tot => f.offset == off && okFs P fs (off + P.cellsOf f.type) tot
def bX (P : Program) (t : TypeId) (xs : List D) : D := match tag P t with | true => .agg xs | false => xs.headD .dead
def Shape (P : Program) : Nat -> TypeId -> List D -> Prop
 | 0,_,_ => False
 | n + 1,t,cs => match P.underlying t with
  | some .bool => ∃ b,cs = [.bool b]
  | some (.int k) => ∃ m,cs = [.int k m] /\ (Lit.int k m).wf = true
  | some .string => ∃ s,cs = [.str s] /\ s.size <= reachBytes
  | some (.slice e) => ∃ z xs,cs = [.rs z xs] /\ zOf P e = some z /\ xs.length * P.bytesOf e <= reachBytes /\ ∀ x ∈ xs,∃ ys,Shape P n e ys /\ x = bX P e ys
  | some (.struct fs) => ∃ parts : List (List D),cs = parts.flatten /\ All2 (fun (ys : List D) (f : Field) => Shape P n f.type ys) parts fs.toList
  | _ => False
theorem mO {α β : Type} {f : α -> Option β} : ∀ {l : List α} {r : List β},l.mapM f = some r -> All2 (fun a b => f a = some b) l r
 | [],r,h => by simp at h; subst h; exact .nil
 | a :: l,r,h => by
  simp only [List.mapM_cons,Option.bind_eq_bind,Option.pure_def] at h
  obtain ⟨b,h1,h2⟩ := Option.bind_eq_some_iff.1 h
  obtain ⟨r',h3,h4⟩ := Option.bind_eq_some_iff.1 h2
  cases h4
  exact .cons h1 (mO h3)
section
variable {H : Type} {enc : TypeId × Value -> H} {P : Program} {w : World}
def pF (w : World) : Nat -> Prop := fun b => b < w.heap.size
theorem qO {a : Addr} {n : Nat} {vs : List Value} (h : w.cells? 0 a n = some vs) : vs.length = n /\ ∀ (j : Nat) (v : Value),vs[j]? = some v -> w.cell? (a.add j) = some v := by
 unfold World.cells? at h
 rw [if_pos (Nat.zero_le _)] at h
 have h1 := mO h
 have hl := h1.length
 simp at hl
 refine ⟨hl.symm,fun j v hj => ?_⟩
 have hlt := aQ hj
 obtain ⟨b,hb,hc⟩ := h1.get (i := j) (a := j) (by rw [List.getElem?_range (by omega)])
 rw [hj] at hb; cases hb
 exact hc
theorem kM {n : Nat} : ∀ {t : TypeId} {xs : List D},okTy P n t = true -> Shape P n t xs -> xs.length = P.cellsOf t := by
 induction n with
 | zero => intro t xs h; simp [okTy] at h
 | succ n ih =>
  intro t xs h hs
  simp only [okTy] at h
  simp only [Shape] at hs
  split at h
  ·rename_i hu; rw [hu] at hs; obtain ⟨b,rfl⟩ := hs; simpa using (beq_iff_eq.1 h).symm
  ·rename_i hu; rw [hu] at hs; obtain ⟨b,rfl,_⟩ := hs; simpa using (beq_iff_eq.1 h).symm
  ·rename_i hu; rw [hu] at hs; obtain ⟨b,rfl,_⟩ := hs; simpa using (beq_iff_eq.1 h).symm
  ·rename_i e hu
   rw [hu] at hs
   obtain ⟨z,xs,rfl,_⟩ := hs
   simp only [Bool.and_eq_true,beq_iff_eq] at h
   exact h.1.1.1.1.symm
  ·rename_i fs hu
   rw [hu] at hs
   obtain ⟨parts,rfl,hp⟩ := hs
   simp only [Bool.and_eq_true] at h
   obtain ⟨h1,h2⟩ := h
   have key : ∀ {fs : List Field} {parts : List (List D)} {off tot : Nat},(∀ f ∈ fs,okTy P n f.type = true) -> okTy.okFs P fs off tot = true -> All2 (fun (ys : List D) (f : Field) => Shape P n f.type ys) parts fs -> off + parts.flatten.length = tot := by
    intro fs
    induction fs with
    | nil => intro parts off tot _ h3 h4; cases h4; simpa [okTy.okFs] using h3
    | cons f fs ihf =>
     intro parts off tot h1 h3 h4
     simp only [okTy.okFs,Bool.and_eq_true] at h3
     cases h4 with | cons p1 p2 =>
     have := ihf (fun g hg => h1 g (by simp [hg])) h3.2 p2
     have hl := ih (h1 f (by simp)) p1
     simp only [List.flatten_cons,lnA]
     omega
   have := key (fun f hf => List.all_eq_true.1 h1 f hf) h2 hp
   omega
  ·cases h
theorem ve {n : Nat} : ∀ {m : Nat} {t : TypeId} {xs : List D} {ts : List TypeId},Shape P n t xs -> aH P m t = some ts ->
  All2 (fun (x : D) (t : TypeId) => (match P.underlying t with | some (.int _) | some .bool | some .string => j4 x = true | _ => True) /\ bV x /\ (match x with | .rs _ _ => True | c => j4 c = true)) xs ts := by
 induction n with
 | zero => intro m t xs ts h; exact h.elim
 | succ n ih =>
  intro m t xs ts hs hc
  cases m with
  | zero => simp [aH] at hc
  | succ m =>
   simp only [Shape] at hs
   simp only [aH] at hc
   split at hs
   ·rename_i hu
    rw [hu] at hc
    simp only [Option.some.injEq] at hc
    subst hc
    obtain ⟨b,rfl⟩ := hs
    exact .cons ⟨by rw [hu]; rfl,trivial,rfl⟩ .nil
   ·rename_i hu
    rw [hu] at hc
    simp only [Option.some.injEq] at hc
    subst hc
    obtain ⟨b,rfl,_⟩ := hs
    exact .cons ⟨by rw [hu]; rfl,trivial,rfl⟩ .nil
   ·rename_i hu
    rw [hu] at hc
    simp only [Option.some.injEq] at hc
    subst hc
    obtain ⟨b,rfl,_⟩ := hs
    exact .cons ⟨by rw [hu]; rfl,trivial,rfl⟩ .nil
   ·rename_i e hu
    rw [hu] at hc
    simp only [Option.some.injEq] at hc
    subst hc
    obtain ⟨z,xs,rfl,_⟩ := hs
    exact .cons ⟨by rw [hu]; trivial,trivial,trivial⟩ .nil
   ·rename_i fs hu
    rw [hu] at hc
    simp only [Option.map_eq_some_iff] at hc
    obtain ⟨tss,hm,rfl⟩ := hc
    obtain ⟨parts,rfl,hp⟩ := hs
    have key : ∀ {fs : List Field} {parts : List (List D)} {tss : List (List TypeId)},All2 (fun (f : Field) ts => aH P m f.type = some ts) fs tss -> All2 (fun (ys : List D) (f : Field) => Shape P n f.type ys) parts fs ->
      All2 (fun (x : D) (t : TypeId) => (match P.underlying t with | some (.int _) | some .bool | some .string => j4 x = true | _ => True) /\ bV x /\ (match x with | .rs _ _ => True | c => j4 c = true)) parts.flatten tss.flatten := by
     intro fs
     induction fs with
     | nil => intro parts tss h1 h2; cases h1; cases h2; exact .nil
     | cons f fs ihf =>
      intro parts tss h1 h2
      cases h1 with | cons a1 a2 =>
      cases h2 with | cons b1 b2 =>
      simp only [List.flatten_cons]
      exact (ih b1 a1).append (ihf a2 b2)
    exact key (mO hm) hp
   ·exact hs.elim
theorem All2.left {α β : Type} {R : α -> β -> Prop} {as : List α} {bs : List β} (h : All2 R as bs) : ∀ a ∈ as,∃ b ∈ bs,R a b := by
 induction h with
 | nil => intro a ha; cases ha
 | @cons a b as bs h1 _ ih =>
  intro x hx
  rcases List.mem_cons.1 hx with rfl | hx
  ·exact ⟨b,by simp,h1⟩
  ·obtain ⟨y,hy,hr⟩ := ih x hx
   exact ⟨y,by simp [hy],hr⟩
theorem rA {n : Nat} {e : TypeId} {z : Z} {ys : List D} (hz : zOf P e = some z) (hs : Shape P n e ys) (hc : ∃ ts,aH P 8 e = some ts) : ∀ c ∈ ys,cK z.2 c := by
 obtain ⟨ts,hts⟩ := hc
 intro c hcm
 have ha := ve hs hts
 obtain ⟨t,ht,h1,h2,h3⟩ := ha.left c hcm
 unfold zOf at hz
 simp only [Option.map_eq_some_iff] at hz
 obtain ⟨k,_,rfl⟩ := hz
 simp only
 cases hf : qU P e with
 | true =>
  simp only
  unfold qU at hf
  rw [hts] at hf
  simp only at hf
  have := List.all_eq_true.1 hf t ht
  split at this
  ·rename_i hu; rw [hu] at h1; exact h1
  ·rename_i hu; rw [hu] at h1; exact h1
  ·rename_i hu; rw [hu] at h1; exact h1
  ·cases this
 | false => simp only; cases c <;> first | trivial | exact h3
theorem rt {B : Nat -> Prop} {b : Nat} {z : Z} : ∀ {xs : List D} {vss : List (List Value)} {off : Nat},All2 (fun x vs => bW w B z x vs []) xs vss -> (∀ (i : Nat) (vs : List Value),vss[i]? = some vs -> cellsAt w b (off + i * z.1) vs) -> au w B b off z xs []
 | [],_,off,h,hc => repEs_nil.2 rfl
 | x :: xs,[],off,h,hc => by cases h
 | x :: xs,vs :: vss,off,h,hc => by
  cases h with | cons h1 h2 =>
  refine repEs_cons.2 ⟨vs,[],[],rfl,h1,by simpa using hc 0 vs rfl,rt h2 (fun i us hi => ?_)⟩
  have := hc (i + 1) us (by simpa using hi)
  rw [Nat.succ_mul,show off + (i * z.1 + z.1) = off + z.1 + i * z.1 by omega] at this
  exact this
def ke (P : Program) : Nat -> TypeId -> Bool
 | 0,_ => false
 | n + 1,t => match P.underlying t with
  | some (.slice e) => (aH P 8 e).isSome && ke P n e
  | some (.struct fs) => fs.toList.all fun f => ke P n f.type
  | _ => true
theorem rU {e : TypeId} {d : DataW H} {elems : List (DataW H)} (hd : d ∈ elems) : ∀ x ∈ d.weights P e,x ∈ DataW.weightsAll P e elems := by
 induction elems with
 | nil => cases hd
 | cons a r ih =>
  intro x hx
  simp only [DataW.weightsAll,List.mem_append]
  rcases List.mem_cons.1 hd with rfl | hd
  ·exact .inl hx
  ·exact .inr (ih hd x hx)
theorem xF {e : TypeId} {n : Nat} (h : tsz P e = some n) : P.cellsOf e = n := by
 unfold tsz at h
 simp [Program.cellsOf,h]
theorem sq {n : Nat} {e : TypeId} {ys : List D} (hok : okTy P n e = true) (ht : (tag P e || P.cellsOf e == 1) = true) (hs : Shape P n e ys) : ay (bX P e ys) = ys := by
 unfold bX
 cases hg : tag P e with
 | true => rfl
 | false =>
  simp only
  rw [hg,Bool.false_or,beq_iff_eq] at ht
  have hl := kM hok hs
  rw [ht] at hl
  match ys,hl with
  | [y],_ =>
   simp only [List.headD_cons]
   cases n with
   | zero => exact hs.elim
   | succ n =>
    simp only [Shape] at hs
    split at hs
    ·obtain ⟨b,e⟩ := hs; cases e; rfl
    ·obtain ⟨b,e,_⟩ := hs; cases e; rfl
    ·obtain ⟨b,e,_⟩ := hs; cases e; rfl
    ·obtain ⟨z,xs,e,_⟩ := hs; cases e; rfl
    ·rename_i fs hu
     simp only [tag,hu] at hg
     cases hg
    ·exact hs.elim
theorem sN {n : Nat} : ∀ {t : TypeId} {cs : List Value} {fuel : Nat} {d : DataW H} {ps : List MemPlace},okTy P n t = true -> ke P n t = true -> DataW.trod enc P w 0 (fun _ => true) true fuel t cs = some (d,ps) -> (∀ x ∈ d.weights P t,x <= reachBytes) ->
  ∃ xs,Shape P n t xs /\ ak w (pF w) xs cs [] := by
 induction n with
 | zero => intro t cs fuel d ps h; simp [okTy] at h
 | succ n ih =>
  intro t cs fuel d ps hok hty htr hw
  simp only [okTy] at hok
  simp only [ke] at hty
  simp only [Shape]
  split at hok
  ·rename_i hu
   obtain ⟨b,rfl,hx⟩ := DataW.trod_bool hu htr
   exact ⟨[.bool b],⟨b,rfl⟩,repDs_one.2 ⟨_,rfl,trivial,by simp [ac]⟩⟩
  ·rename_i k hu
   obtain ⟨m,rfl,hx,hwf⟩ := DataW.trod_int hu htr
   exact ⟨[.int k m],⟨m,rfl,hwf⟩,repDs_one.2 ⟨_,rfl,trivial,by simp [ac]⟩⟩
  ·rename_i hu
   obtain ⟨s,rfl,hx,hsz⟩ := DataW.trod_string hu htr
   cases hx
   have := hw s.data.toList.length (by simp [DataW.weights])
   exact ⟨[.str s],⟨s,rfl,by simpa using this⟩,repDs_one.2 ⟨_,rfl,trivial,by simp [ac]⟩⟩
  ·rename_i e hu
   rw [hu] at hty
   simp only [Bool.and_eq_true,beq_iff_eq] at hok hty
   obtain ⟨⟨⟨⟨h1,h2⟩,h3⟩,h4⟩,h5⟩ := hok
   have h4 : 0 < P.cellsOf e := by simpa using h4
   have hct : ∃ ts,aH P 8 e = some ts := Option.isSome_iff_exists.1 hty.1
   have hz : zOf P e = some (P.cellsOf e,match qU P e with | true => 0 | false => 1) := by unfold zOf; rw [h3]; rfl
   have hz2 : (match qU P e with | true => 0 | false => 1) <= 1 := by cases qU P e <;> simp
   rcases DataW.trod_slice hu htr with ⟨rfl,hx⟩ | ⟨a,len,cap,elems,rest,m,_,rfl,hx,_,hl,hm,hlen,hel,_⟩
   ·refine ⟨[.rs _ []],⟨_,[],rfl,hz,by simp,by simp⟩,repDs_one.2 ⟨_,rfl,trivial,?_⟩⟩
    simp only [ac,true_and]
    exact .inl ⟨_,_,rfl⟩
   ·cases hx
    simp only [DataW.weights,hu] at hw
    have hbytes : len * P.bytesOf e <= reachBytes := by
     have := hw _ (List.mem_cons_self ..)
     simp only [lnM,hlen] at this
     exact Nat.le_trans (Nat.mul_le_mul_right _ (Nat.le_add_right _ _)) this
    -- the elements,one by one
    have each : ∀ i,i < len -> ∃ vs ys,w.cells? 0 (a.add (i * P.cellsOf e)) (P.cellsOf e) = some vs /\ Shape P n e ys /\ ak w (pF w) ys vs [] := by
     intro i hi
     have := hel i hi
     have hi' : i < elems.length := by omega
     rw [List.getElem?_eq_getElem hi'] at this
     obtain ⟨vs,hv,ht⟩ := Option.bind_eq_some_iff.1 this
     obtain ⟨ys,hs,hr⟩ := ih (d := elems[i].1) (ps := elems[i].2) h2 hty.2 ht (fun x hx => hw x (List.mem_cons_of_mem _ (List.mem_append.2 (.inl (rU (List.mem_map.2 ⟨elems[i],List.getElem_mem _,rfl⟩) x hx)))))
     exact ⟨vs,ys,hv,hs,hr⟩
    have all : ∀ k,k <= len -> ∃ (vss : List (List Value)) (yss : List (List D)),vss.length = k /\ All2 (fun ys vs => Shape P n e ys /\ ak w (pF w) ys vs []) yss vss /\ ∀ (i : Nat) (vs : List Value),vss[i]? = some vs -> w.cells? 0 (a.add (i * P.cellsOf e)) (P.cellsOf e) = some vs := by
     intro k
     induction k with
     | zero => intro _; exact ⟨[],[],rfl,.nil,by simp⟩
     | succ k ihk =>
      intro hk
      obtain ⟨vss,yss,p1,p2,p3⟩ := ihk (by omega)
      obtain ⟨vs,ys,hv,hs,hr⟩ := each k (by omega)
      refine ⟨vss ++ [vs],yss ++ [ys],by simp [p1],p2.append (.cons ⟨hs,hr⟩ .nil),?_⟩
      intro i us hi
      rcases Nat.lt_or_ge i vss.length with h6 | h6
      ·rw [List.getElem?_append_left h6] at hi; exact p3 i us hi
      ·rw [List.getElem?_append_right h6] at hi
       have h7 : i = k := by have := aQ hi; simp at this; omega
       subst h7
       rw [p1] at hi
       simp at hi
       subst hi; exact hv
    obtain ⟨vss,yss,p1,p2,p3⟩ := all len (Nat.le_refl _)
    have hyl : yss.length = len := by rw [p2.length,p1]
    refine ⟨[.rs _ (yss.map (bX P e))],⟨_,yss.map (bX P e),rfl,hz,by simpa [hyl] using hbytes,?_⟩,repDs_one.2 ⟨_,rfl,trivial,?_⟩⟩
    ·intro x hx
     obtain ⟨ys,hy,rfl⟩ := List.mem_map.1 hx
     obtain ⟨vs,_,hs,_⟩ := p2.left ys hy
     exact ⟨ys,hs,rfl⟩
    ·simp only [ac,true_and]
     by_cases h0 : len = 0
     ·subst h0
      have : yss = [] := List.length_eq_zero_iff.1 hyl
      subst this
      exact .inl ⟨rfl,_,_,rfl⟩
     ·
      obtain ⟨vs0,ys0,hv0,_,_⟩ := each 0 (by omega)
      obtain ⟨hl0,hc0⟩ := qO hv0
      simp only [Nat.zero_mul] at hc0
      have hspot : ∃ u,w.cell? a = some u := by
       have : 0 < vs0.length := by omega
       exact ⟨vs0[0],by have := hc0 0 vs0[0] (List.getElem?_eq_getElem this); simpa [Addr.add] using this⟩
      obtain ⟨u,hu0⟩ := hspot
      obtain ⟨ab,ao,asp⟩ := a
      have hblk : ∃ c ty fr,w.heap[ab]? = some (.cells c ty fr) /\ asp = none := by
       unfold World.cell? at hu0
       split at hu0
       ·rename_i c ty fr hh
        split at hu0
        ·cases hu0
        ·rename_i hs; exact ⟨c,ty,fr,hh,by cases asp <;> simp_all⟩
       ·cases hu0
      obtain ⟨c,ty,fr,hh,rfl⟩ := hblk
      refine .inr ⟨ab,ao,cap,by simp [hyl],by simpa [hyl] using hl,hz2,fun _ => ew hh,?_⟩
      refine rt (vss := vss) ?_ (fun i vs hi => ?_)
      ·clear p3 all each
       have : ∀ {yss : List (List D)} {vss : List (List Value)},All2 (fun ys vs => Shape P n e ys /\ ak w (pF w) ys vs []) yss vss -> All2 (fun x vs => bW w (pF w) (P.cellsOf e,match qU P e with | true => 0 | false => 1) x vs []) (yss.map (bX P e)) vss := by
        intro yss vss h
        refine h.map (fun ys vs ⟨hs,hr⟩ => ?_)
        have hce := sq h2 (by simpa using h5) hs
        exact ⟨by rw [hce]; exact hr,by rw [hce]; exact kM h2 hs,by rw [hce]; exact rA hz hs hct⟩
       exact this p2
      ·obtain ⟨_,hc⟩ := qO (p3 i vs hi)
       intro j v hj
       have := hc j v hj
       rw [cH,cH] at this
       exact this
  ·rename_i fs hu
   rw [hu] at hty
   simp only [Bool.and_eq_true] at hok
   obtain ⟨h1,h2⟩ := hok
   obtain ⟨xs,m,_,hx,hl,hxl,hf⟩ := DataW.trod_struct hu htr
   cases hx
   simp only [DataW.weights,hu] at hw
   have key : ∀ {fs : List Field} {ds : List (DataW H)} {off : Nat},(∀ f ∈ fs,okTy P n f.type = true /\ ke P n f.type = true) -> okTy.okFs P fs off (P.cellsOf t) = true -> ds.length = fs.length ->
     (∀ (i : Nat) (f : Field),fs[i]? = some f -> ∃ ps,∀ d,ds[i]? = some d -> DataW.trod enc P w 0 (fun _ => true) true m f.type ((cs.drop f.offset).take (P.cellsOf f.type)) = some (d,ps)) -> (∀ x ∈ DataW.weightsEach P (fs.map (·.type)) ds,x <= reachBytes) ->
     ∃ parts : List (List D),All2 (fun (ys : List D) (f : Field) => Shape P n f.type ys) parts fs /\ ak w (pF w) parts.flatten (cs.drop off) [] := by
    intro fs
    induction fs with
    | nil =>
     intro ds off _ ho _ _ _
     have ho : off = P.cellsOf t := by simpa [okTy.okFs] using ho
     refine ⟨[],.nil,?_⟩
     rw [List.drop_of_length_le (by omega)]
     simp [ak]
    | cons f fs ihf =>
     intro ds off hfs ho hdl hd hw
     cases ds with
     | nil => simp at hdl
     | cons d ds =>
     simp only [okTy.okFs,Bool.and_eq_true,beq_iff_eq] at ho
     obtain ⟨rfl,ho⟩ := ho
     simp only [List.map_cons,DataW.weightsEach,List.mem_append] at hw
     obtain ⟨ps,hp⟩ := hd 0 f rfl
     obtain ⟨ys,hs,hr⟩ := ih (hfs f (by simp)).1 (hfs f (by simp)).2 (hp d rfl) (fun x hx => hw x (.inl hx))
     obtain ⟨parts,q1,q2⟩ := ihf (ds := ds) (off := f.offset + P.cellsOf f.type) (fun g hg => hfs g (by simp [hg])) ho (by simpa using hdl) (fun i g hg => by
      obtain ⟨ps,hp⟩ := hd (i + 1) g (by simpa using hg)
      exact ⟨ps,fun d hd => hp d (by simpa using hd)⟩) (fun x hx => hw x (.inr hx))
     refine ⟨ys :: parts,.cons hs q1,?_⟩
     rw [List.flatten_cons]
     refine repDs_append.2 ⟨_,_,[],[],?_,rfl,hr,q2⟩
     rw [<- List.drop_drop,List.take_append_drop]
   obtain ⟨parts,q1,q2⟩ := key (fs := fs.toList) (ds := xs.map (·.1)) (off := 0) (fun f hf => ⟨List.all_eq_true.1 h1 f hf,List.all_eq_true.1 hty f hf⟩) h2 (by simpa using hxl) (fun i f hi => by
    have := hf i f (by simpa using hi)
    have hi' : i < xs.length := by have := aQ hi; simp at this; omega
    rw [List.getElem?_eq_getElem hi'] at this
    refine ⟨xs[i].2,fun d hd => ?_⟩
    rw [List.getElem?_map,List.getElem?_eq_getElem hi'] at hd
    cases hd
    exact this) hw
   exact ⟨parts.flatten,⟨parts,rfl,q1⟩,by simpa using q2⟩
  ·cases hok
def ShapeV (P : Program) (t : TypeId) (x : D) : Prop := ∃ xs,Shape P 8 t xs /\ x = bX P t xs
theorem vT {t : TypeId} {v : Value} {d : DataW H} {ps : List MemPlace} {r : Reach} {base : Nat} (hok : okTy P 8 t = true) (hty : ke P 8 t = true) (hone : (tag P t || P.cellsOf t == 1) = true) (hval : Value.okWide P w r base t v)
  (htr : DataW.Trod enc P w 0 (fun _ => true) true t v d ps) (hw : ∀ x ∈ d.weights P t,x <= reachBytes) : ∃ x,ShapeV P t x /\ ac w (pF w) x v [] := by
 obtain ⟨fuel,hf⟩ := htr
 obtain ⟨xs,hs,hr⟩ := sN hok hty hf hw
 refine ⟨bX P t xs,⟨xs,hs,rfl⟩,?_⟩
 unfold bX
 cases hg : tag P t with
 | true =>
  simp only
  have hag : ∃ cs,v = .agg cs := by
   unfold tag at hg
   split at hg
   ·rename_i fs hu
    unfold Value.okWide at hval
    rw [hu] at hval
    obtain ⟨cs,hv,_⟩ := hval
    exact ⟨cs,hv⟩
   ·cases hg
  obtain ⟨cs,rfl⟩ := hag
  simp only [ac]
  exact ⟨cs,rfl,hr⟩
 | false =>
  simp only
  rw [hg,Bool.false_or,beq_iff_eq] at hone
  have hl := kM hok hs
  rw [hone] at hl
  match xs,hl with
  | [x],_ =>
   obtain ⟨u,hu,_,hrx⟩ := repDs_one.1 hr
   simp only [List.headD_cons]
   have hnag : ∀ cs,v ≠ .agg cs := by
    rintro cs rfl
    simp only [okTy] at hok
    unfold Value.okWide at hval
    split at hok
    ·rename_i hu'; rw [hu'] at hval; simp [Cell.okWide,Cell.ok] at hval
    ·rename_i hu'; rw [hu'] at hval; simp [Cell.okWide,Cell.ok] at hval
    ·rename_i hu'; rw [hu'] at hval; simp [Cell.okWide,Cell.ok] at hval
    ·rename_i hu'; rw [hu'] at hval; simp [Cell.okWide,Cell.ok] at hval
    ·rename_i hu'; simp [tag,hu'] at hg
    ·cases hok
   have hc : v.cells.toList = [v] := by cases v <;> first | rfl | exact absurd rfl (hnag _)
   rw [hc] at hu
   cases hu
   exact hrx
theorem rm {r : Reach} {base : Nat} : ∀ {ts : List TypeId} {vs : List Value} {ds : List (DataW H)} {ps : List MemPlace},(∀ t ∈ ts,okTy P 8 t = true /\ ke P 8 t = true /\ (tag P t || P.cellsOf t == 1) = true) -> (∀ (j : Nat) (t : TypeId) (v : Value),ts[j]? = some t -> vs[j]? = some v -> Value.okWide P w r base t v) ->
  DataW.TrodAll enc P w 0 (fun _ => true) true ts vs ds ps -> (∀ x ∈ DataW.weightsEach P ts ds,x <= reachBytes) -> ∃ xs,All2 (ShapeV P) ts xs /\ All2 (fun x v => ac w (pF w) x v []) xs vs
 | [],vs,ds,ps,_,_,ht,_ => by
  obtain ⟨rfl,rfl,rfl⟩ := trodAll_nil ht
  exact ⟨[],.nil,.nil⟩
 | t :: ts,vs,ds,ps,hts,hval,ht,hw => by
  obtain ⟨v,vs',d,ds',p,q,rfl,rfl,rfl,h1,h2⟩ := trodAll_cons ht
  simp only [DataW.weightsEach,List.mem_append] at hw
  obtain ⟨x,p1,p2⟩ := vT (hts t (by simp)).1 (hts t (by simp)).2.1 (hts t (by simp)).2.2 (hval 0 t v rfl rfl) h1 (fun x hx => hw x (.inl hx))
  obtain ⟨xs,q1,q2⟩ := rm (fun t h => hts t (by simp [h])) (fun j t v h1 h2 => hval (j + 1) t v (by simpa using h1) (by simpa using h2)) h2 (fun x hx => hw x (.inr hx))
  exact ⟨x :: xs,.cons p1 q1,.cons p2 q2⟩
theorem tP {mode : Nat -> Mode} {L : Nat -> List (Option Nat)} {B : Nat -> Prop} : ∀ {xs : List D} {vs : List Value} {i : Nat},(∀ j,mode j ≠ .mut) -> All2 (fun x v => ac w B x v []) xs vs -> dr mode L w B i xs vs []
 | [],vs,i,hm,h => by cases h; exact ⟨rfl,rfl⟩
 | x :: xs,vs,i,hm,h => by
  cases h with | cons h1 h2 =>
  refine ⟨_,_,[],[],rfl,rfl,?_,tP hm h2⟩
  cases hmi : mode i <;> first | exact h1 | exact absurd hmi (hm i)
theorem jh (laid : laidOutB P = true) {W W' : World} (hsame : ∀ b,b < W.heap.size -> W'.heap[b]? = W.heap[b]?) : ∀ {ts : List TypeId} {vs : List Value} {ds : List (DataW H)} {ps : List MemPlace},(∀ t ∈ ts,P.readableRec t = true /\ t < P.types.size) ->
  DataW.TrodAll enc P W 0 (fun _ => true) true ts vs ds ps -> DataW.TrodAll enc P W' 0 (fun b => decide (b < W.heap.size)) true ts vs ds ps
 | [],vs,ds,ps,_,ht => by
  obtain ⟨rfl,rfl,rfl⟩ := trodAll_nil ht
  exact trodAll_mk0
 | t :: ts,vs,ds,ps,hts,ht => by
  obtain ⟨v,vs',d,ds',p,q,rfl,rfl,rfl,h1,h2⟩ := trodAll_cons ht
  have hlt : ∀ x ∈ p,x.block < W.heap.size := by
   obtain ⟨m,hm⟩ := h1
   exact DataW.trod_lt m _ _ _ hm
  refine trodAll_cons_mk (WideElems.Trod_stays laid (hts t (by simp)).1 (hts t (by simp)).2 h1 (fun x hx => ?_) (fun x hx => by simpa using hlt x hx)) (jh laid hsame (fun t h => hts t (by simp [h])) h2)
  have := hsame _ (hlt x hx)
  cases x with
  | cell b o => exact World.cell?_of_block (w := W) this
  | map b => exact this
def xr (P : Program) (ts : List TypeId) : Bool := ts.all fun t => okTy P 8 t && ke P 8 t && (tag P t || P.cellsOf t == 1) && P.readableRec t && decide (t < P.types.size)
theorem wB {C : Checked} {cf : Cfg} {f : Nat} {fn : Func} {s : ChangeSpec} {conds : List PathCond} {t : TypeId} (hfn : C.prog.funcs[f]? = some fn) (hvars : s.vars = []) (hs : ∀ ds : List (DataW H),ds.length = fn.params.size -> s.fn H ds = { results := [.lit (.bool true)],args := ds })
  (hres : fn.resultTypes = #[t]) (hbool : C.prog.underlying t = some .bool) (laid : laidOutB C.prog = true) (htys : xr C.prog fn.params.toList = true) (hro : ∀ j,cf.mode f j ≠ .mut)
  (hx : lX C.prog cf) (hm : C.prog.follows .mixedOrders = true) (hnm : C.prog.funcs.all (fun fn => !(fn.name == "runtime.NumGoroutine")) = true)
  (core : ∀ xs,All2 (ShapeV C.prog) fn.params.toList xs -> Vn C.prog cf f xs = some (.bool true,[]))
  (W : World) (base : Nat) (args : Array Value) (ds gs : List (DataW H)) (before : List MemPlace)
  (hval : ∀ (j : Nat) t v,fn.params[j]? = some t -> args[j]? = some v -> Value.okWide C.prog W .any base t v)
  (hW : DataW.Whole enc C.prog fn.params.toList s.vars false W args.toList ds gs before)
  (hsz : (DataW.weightsEach C.prog (fn.params.toList ++ s.plain.varTypes C.prog) (ds ++ gs)).all (· <= reachBytes) = true) :
  Calls C.prog f args W fun e W' => ∃ v,e = .returned v /\ s.post enc C.prog fn false true false false W args v W' := by
 have hW' := hW
 obtain ⟨p,q,hA,hV,rfl,hfz,hnd⟩ := hW
 rw [hvars] at hV
 obtain ⟨rfl,rfl⟩ := trodVars_none hV
 have htl : ∀ t ∈ fn.params.toList,(okTy C.prog 8 t = true /\ ke C.prog 8 t = true /\ (tag C.prog t || C.prog.cellsOf t == 1) = true) /\ C.prog.readableRec t = true /\ t < C.prog.types.size := by
  intro t ht
  have := List.all_eq_true.1 htys t ht
  simp only [Bool.and_eq_true,decide_eq_true_eq] at this
  obtain ⟨⟨⟨⟨h1,h2⟩,h3⟩,h4⟩,h5⟩ := this
  exact ⟨⟨h1,h2,h3⟩,h4,h5⟩
 have hdl : ds.length = fn.params.size /\ args.size = fn.params.size := by
  have : ∀ {ts : List TypeId} {vs : List Value} {ds : List (DataW H)} {ps : List MemPlace},DataW.TrodAll enc C.prog W 0 (fun _ => true) true ts vs ds ps -> ds.length = ts.length /\ vs.length = ts.length := by
   intro ts
   induction ts with
   | nil => intro vs ds ps h; obtain ⟨rfl,rfl,rfl⟩ := trodAll_nil h; exact ⟨rfl,rfl⟩
   | cons t ts ih =>
    intro vs ds ps h
    obtain ⟨v,vs',d,ds',p,q,rfl,rfl,rfl,h1,h2⟩ := trodAll_cons h
    have := ih h2
    exact ⟨by simp [this.1],by simp [this.2]⟩
  have := this hA
  simpa using this
 have hwt : ∀ x ∈ DataW.weightsEach C.prog fn.params.toList ds,x <= reachBytes := by
  intro x hx
  have key : ∀ {ts us : List TypeId} {ds : List (DataW H)},ds.length = ts.length -> ∀ x ∈ DataW.weightsEach C.prog ts ds,x ∈ DataW.weightsEach C.prog (ts ++ us) (ds ++ []) := by
   intro ts us
   induction ts with
   | nil => intro ds _ x hx; simp [DataW.weightsEach] at hx
   | cons t ts ih =>
    intro ds hl x hx
    cases ds with
    | nil => simp at hl
    | cons d ds =>
     simp only [List.cons_append,DataW.weightsEach,List.mem_append] at hx ⊢
     exact hx.imp (fun h => h) (ih (by simpa using hl) x)
  have := List.all_eq_true.1 hsz x (key (by simpa using hdl.1) x hx)
  simpa using this
 obtain ⟨xs,hsh,hrep⟩ := rm (enc := enc) (fun t ht => (htl t ht).1) (fun j t v h1 h2 => hval j t v (by simpa using h1) (by simpa using h2)) hA hwt
 have hd := core xs hsh
 have hxl : xs.length = fn.params.size := by rw [<- hsh.length]; simp
 have hmeets := vq hx hm hnm hd fn hfn W (pF W) (fun _ => []) args.toList [] [] (by rw [List.take_of_length_le (by omega)]; exact tP hro hrep) (by rw [List.drop_of_length_le (by omega)]; simp [bv]) (by simp [aa]) (by simp) (fun b h => h)
 rw [List.append_nil,Array.toArray_toList] at hmeets
 refine hmeets.mono ?_
 rintro e W' ⟨v,B',oR,oI,rfl,cb⟩
 have hv : v = .bool true := by
  have := cb.res
  simp only [ac] at this
  exact this.1
 subst hv
 have hsame : ∀ b,b < W.heap.size -> W'.heap[b]? = W.heap[b]? := fun b hb => cb.chg.same b hb (by simp [aa])
 refine ⟨_,rfl,ds,[],_,[],p,[],hW',?_,?_,?_,⟨cb.chg.os,cb.chg.out,fun i hi => ?_⟩,fun h => by cases h⟩
 ·rw [List.append_nil,hs ds hdl.1,hres]
  exact trodAll_mk1 (shut_bool hbool _)
 ·rw [List.append_nil,hs ds hdl.1]
  exact jh laid hsame (fun t ht => (htl t ht).2) hA
 ·rw [List.append_nil,hs ds hdl.1,hvars]
  rfl
 ·rw [hsame i hi]
  split <;> simp_all
end
abbrev ni (n : Nat) : Int := n
section
variable {P : Program} {n : Nat} {t e : TypeId} {xs : List D}
theorem Shape.int {k : IntKind} (hu : P.underlying t = some (.int k)) (h : Shape P (n + 1) t xs) : ∃ m,xs = [.int k m] /\ (Lit.int k m).wf = true := by
 simp only [Shape,hu] at h; exact h
theorem Shape.bool (hu : P.underlying t = some .bool) (h : Shape P (n + 1) t xs) : ∃ b,xs = [.bool b] := by
 simp only [Shape,hu] at h; exact h
theorem Shape.str (hu : P.underlying t = some .string) (h : Shape P (n + 1) t xs) : ∃ s,xs = [.str s] /\ s.size <= reachBytes := by
 simp only [Shape,hu] at h; exact h
theorem Shape.slice {z : Z} (hu : P.underlying t = some (.slice e)) (hz : zOf P e = some z) (h : Shape P (n + 1) t xs) : ∃ ys,xs = [.rs z ys] /\ ys.length * P.bytesOf e <= reachBytes /\ ∀ x ∈ ys,∃ zs,Shape P n e zs /\ x = bX P e zs := by
 simp only [Shape,hu] at h
 obtain ⟨z',ys,h1,h2,h3,h4⟩ := h
 rw [hz] at h2; cases h2
 exact ⟨ys,h1,h3,h4⟩
theorem Shape.struct {fs : Array Field} (hu : P.underlying t = some (.struct fs)) (h : Shape P (n + 1) t xs) : ∃ parts : List (List D),xs = parts.flatten /\ All2 (fun (ys : List D) (f : Field) => Shape P n f.type ys) parts fs.toList := by
 simp only [Shape,hu] at h; exact h
theorem wl {fs : Array Field} (hu : P.underlying t = some (.struct fs)) : bX P t xs = .agg xs := by simp [bX,tag,hu]
theorem sn {k : IntKind} {x : D} (hu : P.underlying t = some (.int k)) : bX P t [x] = x := by simp [bX,tag,hu]
theorem sp {x : D} (hu : P.underlying t = some .string) : bX P t [x] = x := by simp [bX,tag,hu]
theorem qP {x : D} (hu : P.underlying t = some .bool) : bX P t [x] = x := by simp [bX,tag,hu]
theorem wv {x : D} (hu : P.underlying t = some (.slice e)) : bX P t [x] = x := by simp [bX,tag,hu]
theorem ShapeV.int {k : IntKind} {x : D} (hu : P.underlying t = some (.int k)) (h : ShapeV P t x) : ∃ m,x = .int k m /\ (Lit.int k m).wf = true := by
 obtain ⟨xs,hs,rfl⟩ := h
 obtain ⟨m,rfl,hw⟩ := hs.int hu
 exact ⟨m,sn hu,hw⟩
theorem ShapeV.str {x : D} (hu : P.underlying t = some .string) (h : ShapeV P t x) : ∃ s,x = .str s /\ s.size <= reachBytes := by
 obtain ⟨xs,hs,rfl⟩ := h
 obtain ⟨m,rfl,hw⟩ := hs.str hu
 exact ⟨m,sp hu,hw⟩
theorem ShapeV.bool {x : D} (hu : P.underlying t = some .bool) (h : ShapeV P t x) : ∃ b,x = .bool b := by
 obtain ⟨xs,hs,rfl⟩ := h
 obtain ⟨m,rfl⟩ := hs.bool hu
 exact ⟨m,qP hu⟩
theorem sw {α : Type} {enc : α -> D} {p : α -> Prop} : ∀ {ys : List D},(∀ x ∈ ys,∃ a,x = enc a /\ p a) -> ∃ l : List α,ys = l.map enc /\ ∀ a ∈ l,p a
 | [],_ => ⟨[],rfl,by simp⟩
 | y :: ys,h => by
  obtain ⟨a,rfl,ha⟩ := h y (by simp)
  obtain ⟨l,rfl,hl⟩ := sw (ys := ys) (fun x hx => h x (by simp [hx]))
  exact ⟨a :: l,rfl,by simpa using ⟨ha,hl⟩⟩
end
theorem yN {n : Int} (h : (Lit.int .i64 n).wf = true) : -9223372036854775808 <= n /\ n <= 9223372036854775807 := by
 simpa [Lit.wf,IntKind.min,IntKind.max,IntKind.signed,IntKind.bits] using h
theorem wf8 {n : Int} (h : (Lit.int .u8 n).wf = true) : 0 <= n /\ n <= 255 := by
 simpa [Lit.wf,IntKind.min,IntKind.max,IntKind.signed,IntKind.bits] using h
section
variable {R : Type}
theorem yk (x y : Option R) : br true x y = x := rfl
theorem xJ (x y : Option R) : br false x y = y := rfl
theorem xP (x : Option R) : grd true x = x := rfl
theorem yo (K : Option R) : unn [] K = K := rfl
theorem yb (x : D) (r : List D) (K : D -> List D -> Option R) : unc (x :: r) K = K x r := rfl
theorem ye (k : IntKind) (n : Int) (K : Int -> Option R) : asI k (.int k n) K = K n := by simp [asI]
theorem xI (b : Bool) (K : Bool -> Option R) : asB (.bool b) K = K b := rfl
theorem yi (s : ByteArray) (K : ByteArray -> Option R) : asS (.str s) K = K s := rfl
theorem yg (z : Z) (l : List D) (K : List D -> Option R) : jl z (.os z l) K = K l := by simp [jl]
theorem yh (z : Z) (l : List D) (K : List D -> Option R) : kq z (.rs z l) K = K l := by simp [kq]
theorem xu (l : List D) (K : List D -> Option R) : asAgg (.agg l) K = K l := rfl
theorem xw (l : List D) (K : List D -> Option R) : iV (.tup l) K = K l := rfl
theorem yf (l : List D) (K : List D -> Option R) : nC (.op l) K = K l := rfl
theorem xh {call : Nat -> List D -> Option Ret} {f : Nat} {ds : List D} {x : D} {l : List D} (h : call f ds = some (x,l)) (K : D -> List D -> Option R) : jb call f ds K = K x l := by simp only [jb,h]
theorem yA (xs : List D) (K : List D -> Option R) : nam xs K = K xs := rfl
theorem xW {α : Type} {enc : α -> D} {l : List α} {i : Nat} {x : α} (h : l[i]? = some x) (K : D -> Option R) : cT (l.map enc) i K = K (enc x) := by simp only [cT,List.getElem?_map,h,Option.map_some]
theorem xz (x : D) (r : List D) (K : D -> Option R) : cT (x :: r) 0 K = K x := rfl
theorem xA (a x : D) (r : List D) (K : D -> Option R) : cT (a :: x :: r) 1 K = K x := rfl
theorem xB (a b x : D) (r : List D) (K : D -> Option R) : cT (a :: b :: x :: r) 2 K = K x := rfl
theorem xC (a b c x : D) (r : List D) (K : D -> Option R) : cT (a :: b :: c :: x :: r) 3 K = K x := rfl
theorem xD (a b c d x : D) (r : List D) (K : D -> Option R) : cT (a :: b :: c :: d :: x :: r) 4 K = K x := rfl
theorem yu {b : Bool} (h : b = true) (x : Option R) : grd b x = x := by rw [h]; rfl
theorem xK {b : Bool} (h : b = true) (x y : Option R) : br b x y = x := by rw [h]; rfl
theorem xb {b : Bool} (h : b = false) (x y : Option R) : br b x y = y := by rw [h]; rfl
end
theorem w64 {n : Int} (h1 : -4611686018427387904 <= n) (h2 : n <= 4611686018427387904) : w6 n = n := IntWalk.i64_in n (by omega)
theorem yM {i : Nat} (h : i < 4611686018427387904) : w6 ((i : Int) + 1) = ((i + 1 : Nat) : Int) := by
 rw [w64 (by omega) (by omega)]; rfl
theorem yx {i n : Nat} (h : i < n) : (decide (0 <= (i : Int)) && decide ((i : Int) < ni n)) = true := by
 simp only [ni,Bool.and_eq_true,decide_eq_true_eq]; omega
theorem yz {i n : Nat} (h : i < n) : decide ((i : Int) < ni n) = true := by
 simp only [ni,decide_eq_true_eq]; omega
theorem yr {i n : Nat} (h : n <= i) : decide ((i : Int) < ni n) = false := by
 simp only [ni,decide_eq_false_iff_not]; omega
theorem xx {α : Type} {l : List α} {i : Nat} (h : i < l.length) : ∃ x,l[i]? = some x := ⟨l[i],List.getElem?_eq_getElem h⟩
theorem tU {α : Type} {l : List α} {i : Nat} {x : α} (h : l[i]? = some x) : l.drop i = x :: l.drop (i + 1) := by
 have hi := aQ h
 rw [List.getElem?_eq_getElem hi] at h; cases h
 exact List.drop_eq_getElem_cons hi
theorem yn {α : Type} {l : List α} {i : Nat} {x : α} (h : l[i]? = some x) : l.take (i + 1) = l.take i ++ [x] := by
 have hi := aQ h
 rw [List.getElem?_eq_getElem hi] at h; cases h
 exact List.take_succ_eq_append_getElem hi
theorem xg (z : Z) (l : List D) : vO l (some (D.os z [],[])) (some (D.os z l,[])) = some (D.os z l,[]) := by
 cases l with
 | nil => simp [vO,amb]
 | cons x l => rfl
def wi (n lo hi : Int) : Bool := decide (lo <= n) && decide (n <= hi)
theorem xG {lo hi n : Int} : br (decide (n >= lo)) (some (D.bool (decide (n <= hi)),([] : List D))) (some (D.bool false,[])) = some (.bool (wi n lo hi),[]) := by
 unfold wi
 by_cases h : lo <= n
 ·rw [xK (by simpa using h)]; simp [h]
 ·rw [xb (by simpa using h)]; simp [h]
def ya {α : Type} (p : α -> Bool) (l : List α) : Int := match l.findIdx? p with | some k => (k : Int) | none => -1
def dQ {α : Type} (p : α -> Bool) (l : List α) (i : Nat) : Int := match (l.drop i).findIdx? p with | some k => ((i + k : Nat) : Int) | none => -1
theorem wK {α : Type} (p : α -> Bool) (l : List α) : dQ p l 0 = ya p l := by simp [dQ,ya]
theorem w9 {α : Type} {p : α -> Bool} {l : List α} {i : Nat} {x : α} (h : l[i]? = some x) (hp : p x = true) : dQ p l i = i := by
 simp [dQ,tU h,List.findIdx?_cons,hp]
theorem wJ {α : Type} {p : α -> Bool} {l : List α} {i : Nat} {x : α} (h : l[i]? = some x) (hp : p x = false) : dQ p l i = dQ p l (i + 1) := by
 simp only [dQ,tU h,List.findIdx?_cons,hp]
 cases (l.drop (i + 1)).findIdx? p with
 | none => rfl
 | some k => simp; omega
theorem w8 {α : Type} {p : α -> Bool} {l : List α} {i : Nat} (h : l.length <= i) : dQ p l i = -1 := by
 simp [dQ,List.drop_of_length_le h]
section
variable {R : Type}
theorem vx {b c : Bool} (h : b = c) (x y : Option R) : br b x y = br c x y := by rw [h]
theorem uJ {b c : Bool} (h : b = c) (x : Option R) : grd b x = grd c x := by rw [h]
theorem sK {l m : List D} {i j : Nat} (h : l = m) (h2 : i = j) (K : D -> Option R) : cT l i K = cT m j K := by rw [h,h2]
theorem uy {k : IntKind} {x y : D} (h : x = y) (K : Int -> Option R) : asI k x K = asI k y K := by rw [h]
theorem ux {x y : D} (h : x = y) (K : Bool -> Option R) : asB x K = asB y K := by rw [h]
theorem uA {x y : D} (h : x = y) (K : ByteArray -> Option R) : asS x K = asS y K := by rw [h]
theorem sb {z : Z} {x y : D} (h : x = y) (K : List D -> Option R) : kq z x K = kq z y K := by rw [h]
theorem sa {z : Z} {x y : D} (h : x = y) (K : List D -> Option R) : jl z x K = jl z y K := by rw [h]
theorem rZ {z : Z} {x y : D} (h : x = y) (K : List D -> Option R) : mc z x K = mc z y K := by rw [h]
theorem yd (z : Z) (l : List D) (K : List D -> Option R) : mc z (.rs z l) K = K l := by simp [mc]
theorem yc (n : Nat) (l : List D) (K : List D -> Option R) : mc (n,0) (.os (n,0) l) K = K l := by simp [mc]
theorem qD {x y : D} (h : x = y) (K : List D -> Option R) : asAgg x K = asAgg y K := by rw [h]
theorem qH {x y : D} (h : x = y) (K : List D -> Option R) : iV x K = iV y K := by rw [h]
theorem r9 {x y : D} (h : x = y) (K : List D -> Option R) : nC x K = nC y K := by rw [h]
theorem vj {l m : List D} (h : l = m) (K : D -> List D -> Option R) : unc l K = unc m K := by rw [h]
theorem vk {l m : List D} (h : l = m) (K : Option R) : unn l K = unn m K := by rw [h]
theorem qc {l m : List D} (h : l = m) (K : ByteArray -> Option R) : gy l K = gy m K := by rw [h]
theorem uW {l m : List D} (h : l = m) (K : List D -> Option R) : nam l K = nam m K := by rw [h]
def ue (r : Option Ret) (K : D -> List D -> Option R) : Option R := match r with | some r => K r.1 r.2 | none => none
theorem rj {r s : Option Ret} (h : r = s) (K : D -> List D -> Option R) : ue r K = ue s K := by rw [h]
theorem xi (x : D) (l : List D) (K : D -> List D -> Option R) : ue (some (x,l)) K = K x l := rfl
theorem wZ (call : Nat -> List D -> Option Ret) (f : Nat) (ds : List D) (K : D -> List D -> Option R) : jb call f ds K = ue (call f ds) K := rfl
theorem xX (l : List D) (n : Nat) (K : D -> Option R) : cT l (Int.toNat (n : Int)) K = cT l n K := rfl
theorem xU {l : List D} {i : Nat} {x : D} (h : l[i]? = some x) (K : D -> Option R) : cT l i K = K x := by simp only [cT,h]
end
theorem yJ {p : Prop} [Decidable p] (h : p) : decide p = true := decide_eq_true h
theorem yI {p : Prop} [Decidable p] (h : ¬ p) : decide p = false := decide_eq_false h
theorem yF {a b : Int} (h : a = b) : (a == b) = true := by simp [h]
theorem yE {a b : Int} (h : ¬ a = b) : (a == b) = false := by simp [h]
theorem yH {a b : Int} (h : ¬ a = b) : (a != b) = true := by simp [h]
theorem yG {a b : Int} (h : a = b) : (a != b) = false := by simp [h]
theorem yl {α β : Type} (f : α -> β) (a b : List α) : a.map f ++ b.map f = (a ++ b).map f := List.map_append.symm
theorem wY (n : Nat) : ni n = (n : Int) := rfl
theorem wS {n : Int} (h : -4611686018427387904 <= n /\ n <= 4611686018427387904) : w6 n = n := w64 h.1 h.2
attribute [congr] vx uJ sK uy ux uA sb rZ sa qD qH r9 vj vk qc uW rj
end
end Go.Eng
