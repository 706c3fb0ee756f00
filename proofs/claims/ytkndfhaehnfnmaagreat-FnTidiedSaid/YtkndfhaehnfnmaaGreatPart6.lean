/- the program and the reference on plain data, part 6 -/
import Derived.Test.YtkndfhaehnfnmaaGreatPart5
import Derived.Test.YtkndfhaehnfnmaaGreatPart4
import Derived.Test.YtkndfhaehnfnmaaGreatPart3
/-! runs of machines that stand for each other -/
namespace Go.Eng

noncomputable def Lit (c:Cd) (K:Nat):Prop:=∀y∈c.list,y.op=1->0<=y.n->Lq c.pool y.n K
theorem aaT {c:Cd}{K:Nat}{m m':Mc}(hK:∀y,c.list[m.at'.toNat]? = some y->y.op=1->0<=y.n->Lq c.pool y.n K)(h:RunM c m)(hc:AX c=true)(he:doM c m=.ok m'):m'.pool.length<=m.pool.length+max (K+1) 24:=by
 obtain⟨x,hx⟩:=QZ h
 have hok:=Gn hc hx
 obtain⟨c1,c2,_⟩:=AM hc
 by_cases h1:x.op=1
 ·unfold doM at he
  simp only[List.getD_eq_getElem?_getD,hx,Option.getD_some]at he
  rw[if_neg (by omega),if_neg (by omega)]at he
  unfold D7 at he
  rw[if_pos h1]at he
  unfold goM at he
  simp only at he
  split at he
  ·cases he
   have:=hK x hx h1 (Oi hok h1).1 m.pool
   show (adN c m x.n).pool.length<=_
   unfold adN Je
   simp only[lnA,lnC,lnN]
   omega
  ·cases he
 ·by_cases h7:x.op=7
  ·unfold doM at he
   simp only[List.getD_eq_getElem?_getD,hx,Option.getD_some]at he
   rw[if_pos h7]at he
   have:=O7 hok h7
   obtain⟨t,⟨g1,⟨q,g2,g3⟩,g4⟩,g5⟩:=Pj c2 h (k:=x.i.toNat) (by omega) he
   rw[g2,lnA];omega
  ·by_cases h8:x.op=8
   ·unfold doM at he
    simp only[List.getD_eq_getElem?_getD,hx,Option.getD_some]at he
    rw[if_neg h7,if_pos h8]at he
    obtain⟨g1,⟨q,g2,g3⟩,g4⟩:=Tw h he
    rw[g2,lnA];omega
   ·
    unfold doM at he
    simp only[List.getD_eq_getElem?_getD,hx,Option.getD_some]at he
    rw[if_neg h7,if_neg h8]at he
    have go:∀{r:Except Int Mc} {k:Int},(∀y,r=.ok y->y.pool.length<=m.pool.length+3)->goM c r k=.ok m'->m'.pool.length<=m.pool.length+max (K+1) 24:=by
     intro r k hr hg
     unfold goM at hg
     cases r with
     |error e=>cases hg
     |ok y=>
      simp only at hg
      split at hg
      ·cases hg;have:=hr y rfl;simp only;omega
      ·cases hg
    unfold D7 at he
    rw[if_neg h1]at he
    split at he
    ·refine go (fun y e=>?_) he
     obtain⟨g1,⟨t,g2,g3⟩,_⟩:=aca h.gm e
     rw[g2,lnA];omega
    split at he
    ·refine go (fun y e=>?_) he
     obtain⟨g1,⟨t,g2,g3⟩,_⟩:=ZG hc h.gm e
     rw[g2,lnA];omega
    split at he
    ·exact go (fun y e=>by cases e;omega) he
    split at he
    ·exact go (fun y e=>by cases e;simp[Je]) he
    split at he
    ·cases he
    ·rename_i v m1 ht
     obtain⟨f1,f2,f4,_⟩:=DP h.gm ht
     exact go (fun y e=>by cases e;rw[f4];omega) he
theorem ae3 {ρ:Nat->Nat->Prop}{c:Cd}{m m':Mc}(h:BiT ρ m m')(hm:DG c m=true)(hm':DG c m'=true)(h0:m.state=0)
  (hn:∀n,doM c m=.ok n->n.pool.length<=3000) (hn':∀n,doM c m'=.ok n->n.pool.length<=3000):∃ρ',BiT ρ' (Mr c m) (Mr c m'):=by
 obtain⟨hr,hc,_⟩:=J8 hm h0
 have h0':m'.state=0:=h.state▸h0
 obtain⟨hr',_,_⟩:=J8 hm' h0'
 obtain⟨c1,c2,_⟩:=AM hc
 obtain⟨x,hx⟩:=QZ hr
 have hat:=isPl_iff.1 hr.pl
 have hd:=afv (h.toM h0) h0 hr.gm hr'.gm c1 c2 hat.1 (fun h1=>by
  simp only[List.getD_eq_getElem?_getD,hx,Option.getD_some]at h1⊢
  have hl:=Oi (Gn hc hx) h1
  simp only[Ar,List.all_cons,List.all_nil,Bool.and_true]
  exact wi_iff.2 ⟨hl.1,by have:=hl.2;omega⟩)
 unfold Mr
 cases e1:doM c m with
 |error a=>
  cases e2:doM c m' with
  |error b=>
   rw[e1,e2]at hd
   have:a=b:=hd
   subst this
   exact⟨ρ,h.bi,rfl,h.s,h.e,h.d,rfl,rfl,fun _=>rfl,fun e=>by simp[holds,Po]at e⟩
  |ok b=>rw[e1,e2]at hd;exact hd.elim
 |ok a=>
  cases e2:doM c m' with
  |error b=>rw[e1,e2]at hd;exact hd.elim
  |ok b=>
   rw[e1,e2]at hd
   obtain⟨ρ',g,hb⟩:=hd
   simp only
   rw[if_pos (hn a e1),if_pos (hn' b e2)]
   exact⟨ρ',hb⟩
theorem acZ (m:Mc):(EF m).pool.length<=m.pool.length:=by
 unfold EF
 split
 ·have:=Mf (-1) m.pool (Bu m.pool (Ax m)) m.pool.length [] []
  simpa[Bj,Ba]using this
 ·exact Nat.le_refl _
structure Pair (c:Cd) (m m':Mc):Prop where
 ok:DG c m=true
 ok':DG c m'=true
 bi:∃ρ,BiT ρ m m'
 small:(m.pool.length<=2000/\m'.pool.length<=2000)\/m=m'
end Go.Eng
/-! codes that are small: their literals -/
namespace Go.Eng
noncomputable section

structure SmallC (x:Cd):Prop where
 ok:Ah x.pool
 lit:∀y∈x.list,y.op=1->Lq x.pool y.n 7
 len:x.list.length<=61
def Alt (c:Cd):Prop:=∀(k:Nat) (y z:In),c.list[k]? = some y->c.list[k+1]? = some z->y.op=1->z.op=1->Lq c.pool y.n 23\/Lq c.pool z.n 23
theorem SmallC.numbers {x:Cd}(hs:SmallC x)(hok:AX x=true){k:Nat}{y:In}(hy:x.list[k]? = some y):y.n<=62\/y.op=1:=by
 have h:=Gn hok hy
 have hl:=hs.len
 by_cases h1:y.op=1
 ·exact .inr h1
 by_cases h2:y.op=2
 ·exact .inl (by have:=(UL h h2).1;omega)
 by_cases h3:y.op=4\/y.op=5
 ·exact .inl (by have:=acF h h3;omega)
 by_cases h6:y.op=6
 ·exact .inl (by have:=(QV h h6).1;omega)
 refine .inl ?_
 unfold Kn at h
 rw[if_neg h1,if_neg h2,if_neg h3,if_neg h6]at h
 have e:y.n=0:=by
  repeat' split at h
  all_goals first|(simp only[Bool.and_eq_true,beq_iff_eq]at h;exact h.1)|cases h
 omega
theorem aeK {p:List Nd}(hp:Ah p)(v:Int):Lq p v (v.toNat+1):=by
 have:∀i,Rch p [v] i->i<=v.toNat:=by
  intro i hi
  induction hi with
  |root hr=>rw[List.mem_singleton.1 hr];exact Nat.le_refl _
  |@a i x hi hx hk ih=>
   rcases hk with hk|hk
   ·have:=Az (hp i x hx) hk;omega
   ·have:=Bz (hp i x hx) hk;omega
  |@b i x hi hx hk ih=>have:=Az (hp i x hx) hk;omega
 exact CN (Ww (lo:=0) (hi:=v.toNat) fun i hi=>⟨Nat.zero_le _,this i hi⟩) (by omega)
theorem SmallC.any {x:Cd}(hs:SmallC x){v:Int}(hv:v<=62):Lq x.pool v 63:=CN (aeK hs.ok v) (by omega)
theorem Uy (d:Int)(q:List Nd)(m:List Bool):∀(k:Nat) (pre pre':List Int) (acc acc':List Nd),pre.length=pre'.length->(BH d q m k pre acc).2.length+acc'.length=(BH d q m k pre' acc').2.length+acc.length
 |0,pre,pre',acc,acc',h=>by simp only[BH];omega
 |k+1,pre,pre',acc,acc',h=>by
  simp only[BH,h]
  split
  ·rename_i x h1 h2
   have:=Uy d q m k (pre++[(acc.length:Int)]) (pre'++[(acc'.length:Int)]) (acc++[Aj pre x]) (acc'++[Aj pre' x]) (by simp[h])
   simp only[lnA,lnC,lnN]at this
   omega
  ·exact Uy d q m k _ _ acc acc' (by simp[h])
def trL (p:List Nd)(v:Int):Nat:=(BW (-1) p v []).1.length
theorem afx (p:List Nd)(v:Int):Lq p v (trL p v):=fun acc=>by
 have:=Uy (-1) p (Bu p [v]) p.length [] [] acc [] rfl
 simp only[lnN]at this
 show (BH (-1) p (Bu p [v]) p.length [] acc).2.length<=acc.length+(BH (-1) p (Bu p [v]) p.length [] []).2.length
 omega
def chk (x:Cd):Bool:=(Af x.pool||x.pool.length==0)&&(x.list.all (fun y=>y.op != 1||decide (trL x.pool y.n<=7))&&decide (x.list.length<=61))
theorem R9 {x:Cd}(h:chk x=true):SmallC x:=by
 unfold chk at h
 simp only[Bool.and_eq_true,Bool.or_eq_true,List.all_eq_true,decide_eq_true_eq,bne_iff_ne,beq_iff_eq]at h
 obtain⟨h1,h2,h3⟩:=h
 refine⟨?_,fun y hy ho=>?_,h3⟩
 ·rcases h1 with h1|h1
  ·exact (okPool_iff.1 h1).1
  ·rw[List.eq_nil_of_length_eq_zero h1]
   exact fun j x h=>by simp at h
 ·rcases h2 y hy with h|h
  ·exact absurd ho h
  ·exact CN (afx _ _) h
theorem acY:(texts.all fun s=>chk (IV (Ck [] s.data.toList).1 (Ck [] s.data.toList).2.1).1)=true:=by decide +kernel
theorem Wt {p:List Nd}(hp:Ah p){a d:SX}(hl:isL d=true){v:Nat}(ht:Tree p (.cons a d) v):∃h:Nat,(Bc p (v:Int)).1.getD 0 0=(h:Int)/\Tree p a h:=by
 obtain⟨vs,g1,g2,g3⟩:=Uv hp (.cons a d) v (v+1) hl ht (by omega)
 have e:Bc p (v:Int)=(vs,true):=by unfold Bc;rw[Int.toNat_natCast];exact g1
 obtain⟨h,r,rfl,t1,_⟩:=Aw g2
 exact⟨h,by rw[e];rfl,t1⟩
theorem aeB {p:List Nd}(hp:Ah p){d:Nat}{e:SX}(hd:Dx d e):∀v:Nat,Tree p e v->¬((nod p (v:Int)).kind=5/\(Bc p (v:Int)).2=true/\(nod p ((Bc p (v:Int)).1.getD 0 0)).kind=4/\kJ (nod p ((Bc p (v:Int)).1.getD 0 0)).s (mk [100,101,102,105,110,101])=true):=by
 have sy:∀{s:List UInt8} {d:SX},isL d=true->kJ (mk s) (mk [100,101,102,105,110,101])=false->∀v:Nat,Tree p (.cons (sw s) d) v->¬((nod p (v:Int)).kind=5/\(Bc p (v:Int)).2=true/\(nod p ((Bc p (v:Int)).1.getD 0 0)).kind=4/\kJ (nod p ((Bc p (v:Int)).1.getD 0 0)).s (mk [100,101,102,105,110,101])=true):=by
  intro s d hl hs v ht h
  obtain⟨w,e,t1⟩:=Wt hp hl ht
  have t1:p[w]? = _:=t1
  rw[e,QN t1]at h
  have h4:=h.2.2.2
  simp only[hs]at h4
  cases h4
 induction hd with
 |leaf d e h=>
  intro v ht h5
  have h5:=h5.1
  simp only[lfs,List.mem_cons,List.not_mem_nil,or_false]at h
  rcases h with rfl|rfl|rfl|rfl|rfl|rfl|rfl|rfl<;>(rw[QN ht]at h5;revert h5;decide)
 |quo d=>exact sy rfl (by decide +kernel)
 |iff _ _ _ _ _ _=>exact sy rfl (by decide +kernel)
 |fn _ _=>exact sy rfl (by decide +kernel)
 |lt _ _ _ _=>exact sy rfl (by decide +kernel)
 |doo _ _ _ _=>exact sy rfl (by decide +kernel)
 |op1 s hs _ _=>
  refine sy rfl ?_
  simp only[abp,List.mem_cons,List.not_mem_nil,or_false]at hs
  rcases hs with rfl|rfl|rfl|rfl|rfl|rfl|rfl<;>decide +kernel
 |app _ _ _ _=>
  intro v ht h
  obtain⟨w,e,t1⟩:=Wt hp rfl ht
  have k5:(nod p (w:Int)).kind=5:=Sa t1
  rw[e]at h
  omega
 |op2 s hs _ _ _ _=>
  refine sy rfl ?_
  simp only[acH,List.mem_cons,List.not_mem_nil,or_false]at hs
  rcases hs with rfl|rfl|rfl|rfl|rfl|rfl|rfl<;>decide +kernel
 |up _ ih=>exact ih
theorem ad1 {p:List Nd}(hp:Af p=true){e:SX}(hd:Dx 3 e){v:Nat}(ht:Tree p e v) (h:(IV p [(v:Int)]).2.1=0):SmallC (IV p [(v:Int)]).1:=by
 have ho:=(okPool_iff.1 hp).1
 unfold IV at h⊢
 split at h
 ·rename_i hh
  rw[if_pos hh]
  have hT:Nu p (v:Int) ⟨[],[],0⟩=PQ p NU [] [(v:Int)] ⟨[],[],0⟩:=by
   unfold Nu
   exact if_neg (aeB ho hd v ht)
  have h1:Bd p (BB 3) ⟨[],[]++[⟨NU,0,0⟩],LM NU [] 0⟩ (DR (KJ p) [[]] [(v:Int)] true ⟨[],[]++[⟨NU,0,0⟩],LM NU [] 0⟩):=
   Tz (fun env m=>afW ho hd v ht _ (by rw[Int.toNat_natCast];omega) env m) _ _
  have h2:=h1.trans (Ez (p:=p) _ (x:=inO 8) (fun e=>by cases e))
  have hD:PQ p NU [] [(v:Int)] ⟨[],[],0⟩=Av (DR (KJ p) [[]] [(v:Int)] true ⟨[],[]++[⟨NU,0,0⟩],LM NU [] 0⟩) (inO 8):=rfl
  rw[<-hD,<-hT]at h2
  have e:∀n i,GG p n [(v:Int)] i ⟨[],[],0⟩=if (Nu p (v:Int) ⟨[],[],0⟩).how=3 then (⟨[],[],[]⟩,3,0) else if (Nu p (v:Int) ⟨[],[],0⟩).how≠0 then (⟨[],[],[]⟩,(Nu p (v:Int) ⟨[],[],0⟩).how,i) else GG p n [] (i+1) (Nu p (v:Int) ⟨[],[],0⟩):=fun n i=>rfl
  rw[e]
  have z:SmallC ⟨[],[],[]⟩:=R9 (by decide +kernel)
  split
  ·exact z
  split
  ·exact z
  unfold GG
  split
  ·refine⟨ho,fun y hy h1=>?_,?_⟩
   ·obtain⟨k,hk⟩:=List.getElem?_of_mem hy
    exact CN (h2.new k y hk (Nat.zero_le _) h1) (by omega)
   ·have hi:=h2.hi
    have hB:BB 3+1=50:=rfl
    rw[hB]at hi
    simp only[lnN]at hi
    show (Nu p (v:Int) ⟨[],[],0⟩).list.length<=61
    omega
  ·exact z
 ·simp at h
theorem ad2 {s:ByteArray}(hx:afo s)(h:(Ck [] s.data.toList).2.2.1=0) (h':(IV (Ck [] s.data.toList).1 (Ck [] s.data.toList).2.1).2.1=0):SmallC (IV (Ck [] s.data.toList).1 (Ck [] s.data.toList).2.1).1:=by
 rcases hx with hx|⟨e,hd,hs⟩
 ·exact R9 (List.all_eq_true.1 acY s hx)
 ·rw[hs]at h h'⊢
  rcases acQ (aeA hd) with hr|⟨v,q,hr,hq,ht⟩
  ·exact absurd h hr
  ·rw[hr]at h'⊢
   exact ad1 hq hd ht h'
end
end Go.Eng
/-! draws of code -/
namespace Go.Eng
noncomputable section
open Go.Proofs Go.Proofs.Tryz
set_option maxHeartbeats 4000000
set_option maxRecDepth 10000

theorem JJ {l:List UInt8}:∀(k i:Nat) (o:List RwF) (t:RwF) (q q':List Nd) (row:List Int),(o≠[]\/t.2≠[])->Fj l k i o t q=.ok q' row->row≠[]
 |0,i,o,t,q,q',row,h,e=>by rw[Fj]at e;cases e
 |k+1,i,o,t,q,q',row,h,e=>by
  rw[Jg]at e
  cases hx:l[i]? with
  |none=>
   rw[hx,O9]at e
   split at e
   ·rename_i ho
    cases e
    rcases h with h|h
    ·exact absurd ho h
    ·exact h
   ·cases e
  |some x=>
   rw[hx,Iy]at e
   split at e
   ·exact JJ k _ _ _ _ _ _ h e
   split at e
   ·exact JJ k _ _ _ _ _ _ (.inl (by simp)) e
   split at e
   ·split at e
    ·cases e
    ·exact JJ k _ _ _ _ _ _ (.inr (by simp)) e
   split at e
   ·split at e
    ·cases e
    ·exact JJ k _ _ _ _ _ _ (.inr (by simp)) e
   ·cases e
theorem Kc {l:List UInt8}:∀(k i:Nat) (o:List RwF) (t:RwF) (q:List Nd) (c a:Int),Fj l k i o t q=.err c a->c≠0
 |0,i,o,t,q,c,a,e=>by rw[Fj]at e;cases e;decide
 |k+1,i,o,t,q,c,a,e=>by
  rw[Jg]at e
  cases hx:l[i]? with
  |none=>
   rw[hx,O9]at e
   split at e
   ·cases e
   ·cases e;decide
  |some x=>
   rw[hx,Iy]at e
   split at e
   ·exact Kc k _ _ _ _ _ _ e
   split at e
   ·exact Kc k _ _ _ _ _ _ e
   split at e
   ·split at e
    ·cases e;decide
    ·exact Kc k _ _ _ _ _ _ e
   split at e
   ·split at e
    ·cases e;decide
    ·exact Kc k _ _ _ _ _ _ e
   ·cases e;decide
theorem Ke {l:List UInt8}:∀(k i:Nat) (o:List RwF) (t:RwF) (q:List Nd),i<=l.length->∀q' row,Fj l k i o t q=.ok q' row->q'.length+row.length<=phi o t q+2*(l.length-i)
 |0,i,o,t,q,_,q',row,h=>by rw[Fj]at h;cases h
 |k+1,i,o,t,q,h2,q',row,h=>by
  have hph:phi o t q=q.length+t.2.length+(o.map fun x=>x.2.length).sum:=rfl
  rw[Jg]at h
  by_cases hi:i=l.length
  ·have hx:l[i]? = none:=List.getElem?_eq_none (by omega)
   rw[hx,O9]at h
   by_cases ho:o=[]
   ·rw[if_pos ho]at h
    cases h
    omega
   ·rw[if_neg ho]at h;cases h
  obtain⟨x,hx⟩:=yM (l:=l) (i:=i) (by omega)
  rw[hx,Iy]at h
  by_cases h32:x=32
  ·rw[if_pos h32]at h
   have:=Ke k (i+1) o t q (by omega) q' row h
   omega
  rw[if_neg h32]at h
  by_cases h40:x=40
  ·rw[if_pos h40]at h
   have:=Ke k (i+1) (t::o) ((i:Int),[]) q (by omega) q' row h
   simp only[phi,List.map_cons,List.sum_cons,lnN]at this
   omega
  rw[if_neg h40]at h
  by_cases h41:x=41
  ·rw[if_pos h41]at h
   cases o with
   |nil=>cases h
   |cons u o=>
    simp only[List.map_cons,List.sum_cons]at hph
    have:=Ke k (i+1) o (u.1,u.2++[((Ac q t.2).2:Int)]) (Ac q t.2).1 (by omega) q' row h
    simp only[phi,Ft,lnA,lnC,lnN]at this
    omega
  rw[if_neg h41]at h
  by_cases hw:FA x=true
  ·rw[if_pos hw]at h
   have hwe:=OT hx hw
   have hwl:=Tu (l:=l) (j:=i+1) (by omega)
   cases hwd:GT ((l.drop i).take (FX l i-i)) with
   |none=>rw[hwd]at h;cases h
   |some nd=>
    rw[hwd]at h
    have:=Ke k (FX l i) o (t.1,t.2++[(q.length:Int)]) (q++[nd]) (by omega) q' row h
    simp only[phi,lnA,lnC,lnN]at this
    omega
  ·rw[if_neg hw]at h;cases h
theorem aam {p:List Nd}{s:ByteArray}(hs:Hd s)(h:(Ck p s.data.toList).2.2.1=0):(Ck p s.data.toList).2.1≠[]:=by
 obtain⟨x,r,hl,hx⟩:=hs
 unfold Ck at h⊢
 split at h
 ·simp at h
 split at h
 ·simp at h
 rename_i h1 h2
 rw[if_neg h1,if_neg h2]
 generalize hg:Fj s.data.toList (s.data.toList.length+1) 0 [] (0,[]) p=g at h⊢
 cases g with
 |err c a=>
  simp only[acS]at h
  exact absurd h (Kc _ _ _ _ _ _ _ hg)
 |ok q row=>
  simp only[acS]at h⊢
  split at h
  ·rename_i hq
   rw[if_pos hq]
   rw[Jg,hl]at hg
   simp only[List.getElem?_cons_zero]at hg
   rw[Iy,if_neg hx]at hg
   split at hg
   ·exact JJ _ _ _ _ _ _ _ (.inl (by simp)) hg
   split at hg
   ·cases hg
   split at hg
   ·split at hg
    ·cases hg
    ·exact JJ _ _ _ _ _ _ _ (.inr (by simp)) hg
   ·cases hg
  ·simp at h
structure RightB (x:Cd):Prop where
 ok:AX x=true
 ne:0<x.list.length
 fits:FitsC x
theorem Wg {p:List Nd}(hf:Du p){n:Int}:∀(xs:List Int) (i:Int) (m:Ms) {x:Cd} {j:Int},GG p n xs i m=(x,0,j)->m.list.length<=400->aaL m->m.how=0->(0<m.list.length\/xs≠[])->RightB x
 |[],i,m,x,j,e,hm,hs,h0,hne=>by
  unfold GG at e
  split at e
  ·rename_i hok
   cases e
   obtain⟨c1,c2,c3⟩:=AM hok
   have:=Aq c1
   exact⟨hok,by rcases hne with h|h;exact h;exact absurd rfl h,⟨hf,by omega,hs.1,by omega,hs.2,by omega⟩⟩
  ·cases e
 |y::r,i,m,x,j,e,hm,hs,h0,hne=>by
  unfold GG at e
  simp only at e
  have le:=aea (p:=p) (v:=y) hm
  split at e
  ·cases e
  split at e
  ·rename_i h;have:=congrArg (fun r=>r.2.1) e;exact absurd this h
  ·rename_i h
   have h:(Nu p y m).how=0:=by omega
   exact Wg hf r (i+1) _ e le.four (ab5 hf hm hs) h (.inl (by have:=le.grew h;omega))
theorem Y9 {p:List Nd}(hf:Du p){xs:List Int}(hne:xs≠[])(h:(IV p xs).2.1=0):RightB (IV p xs).1:=by
 unfold IV at h⊢
 split at h
 ·rename_i hh
  rw[if_pos hh]
  generalize hg:GG p xs.length xs 0 ⟨[],[],0⟩=g at h⊢
  obtain⟨x,a,j⟩:=g
  simp only at h
  subst h
  exact Wg hf xs 0 ⟨[],[],0⟩ hg (by simp) ⟨fun x h=>by simp at h,fun x h=>by simp at h⟩ rfl (.inr hne)
 ·simp at h
structure RightC (x:Cd):Prop extends RightB x where
 small:SmallC x
def lastS:ByteArray:=⟨#[40,112,114,105,110,116,32,49,41]⟩
theorem last_ok:(Ck [] lastS.data.toList).2.2.1=0/\(IV (Ck [] lastS.data.toList).1 (Ck [] lastS.data.toList).2.1).2.1=0:=by decide +kernel
theorem abe:SmallC (IV (Ck [] lastS.data.toList).1 (Ck [] lastS.data.toList).2.1).1:=R9 (by decide +kernel)
theorem JZ:Du []:=fun x h=>by simp at h
theorem WQ (l:List UInt8):Du (Ck [] l).1/\(Ck [] l).1.length<=800/\(Ck [] l).2.1.length<=800:=by
 unfold Ck
 rw[if_neg (by decide)]
 by_cases h4:400<l.length
 ·rw[if_pos h4];exact⟨JZ,by simp,by simp⟩
 rw[if_neg h4]
 unfold acS
 cases hr:Fj l (l.length+1) 0 [] (0,[]) [] with
 |err c a=>exact⟨JZ,by simp,by simp⟩
 |ok q row=>
  have h1:=Mo (l:=l) (by omega) (l.length+1) 0 [] (0,[]) [] (by omega) (by simp only[phi,List.map_nil,List.sum_nil,lnN];omega) JZ q row hr
  have h2:=Ke (l:=l) (l.length+1) 0 [] (0,[]) [] (by omega) q row hr
  simp only[phi,List.map_nil,List.sum_nil,lnN]at h2
  simp only
  split
  ·exact⟨h1.1,by simp only;omega,by simp only;omega⟩
  ·exact⟨JZ,by simp,by simp⟩
def afO (v:D):Prop:=∃x:Cd,v=oCd x/\RightC x
section
variable {b:List Int}
theorem acO (s:ByteArray):∃R C,V 191 [.agg [.rs (5,0) []],.str s]=YF R/\V 193 [eP R.1,.rs (1,0) (R.2.1.map eI)]=We C/\(Hd s->afo s->R.2.2.1=0->C.2.1=0->RightC C.1):=by
 have h1:V 191 [.agg [.rs (5,0) []],.str (mk s.data.toList)]=_:=SA JZ (by simp) s.data.toList
 rw[ZP]at h1
 obtain⟨r1,r2,r3⟩:=WQ s.data.toList
 exact⟨Ck [] s.data.toList,IV (Ck [] s.data.toList).1 (Ck [] s.data.toList).2.1,h1,OQ r1 (by omega) (by omega),fun hh hx h h'=>⟨Y9 r1 (aam hh h) h',ad2 hx h h'⟩⟩
theorem aeI:∃s:ByteArray,s=⟨#[40,112,114,105,110,116,32,49,41]⟩/\Hd s/\(Ck [] s.data.toList).2.2.1=0/\(IV (Ck [] s.data.toList).1 (Ck [] s.data.toList).2.1).2.1=0/\SmallC (IV (Ck [] s.data.toList).1 (Ck [] s.data.toList).2.1).1:=⟨lastS,rfl,⟨40,_,rfl,by decide⟩,last_ok.1,last_ok.2,abe⟩
theorem acP:∃R C,V 191 [.agg [.rs (5,0) []],.str ⟨#[40,112,114,105,110,116,32,49,41]⟩]=YF R/\V 193 [eP R.1,.rs (1,0) (R.2.1.map eI)]=We C/\RightC C.1:=by
 obtain⟨s,hs,hh,l1,l2,l3⟩:=aeI
 rw[<-hs]
 have h1:V 191 [.agg [.rs (5,0) []],.str (mk s.data.toList)]=_:=SA JZ (by simp) s.data.toList
 rw[ZP]at h1
 obtain⟨r1,r2,r3⟩:=WQ s.data.toList
 exact⟨Ck [] s.data.toList,IV (Ck [] s.data.toList).1 (Ck [] s.data.toList).2.1,h1,OQ r1 (by omega) (by omega),⟨Y9 r1 (aam hh l1) l2,l3⟩⟩
theorem Pm (hb:b.length<4611686018427387904):∀(k i:Nat) (c:Int×Int),i+k=4->BU b c->FG b afO (CE (i:Int) (b.map eB) c.1 c.2)
 |0,i,c,hi,hc=>by
  obtain⟨R,C,h1,h2,hok⟩:=acP
  rw[GE,yp (decide_eq_false (by omega)),WE h1,QQ h2]
  exact Aa hc ⟨C.1,rfl,hok⟩
 |k+1,i,c,hi,hc=>by
  rw[GE,y6 (decide_eq_true (by omega))]
  refine z9 (aey hb hc) fun v c1 a1 ⟨s,e,hh,hx⟩=>?_
  subst e
  obtain⟨R,C,h1,h2,hok⟩:=acO s
  have ih:=Pm hb k (i+1) c1 (by omega) a1
  rw[zw,zn,zr,zn,zu,zn,zq,zn,zq,zF,zF]
  try dsimp only
  rw[WE h1,QQ h2]
  by_cases hr:R.2.2.1=0
  ·rw[y6 (zU hr)]
   by_cases hc0:C.2.1=0
   ·rw[y6 (zU hc0)]
    exact Aa a1 ⟨C.1,rfl,hok hh hx hr hc0⟩
   ·rw[yp (zT hc0),z6 (by omega)]
    exact ih
  ·rw[yp (zT hr),z6 (by omega)]
   exact ih
theorem TK (hb:b.length<4611686018427387904){c:Int×Int}(h:BU b c):FG b afO (V 142 [eC b c]):=by
 rw[QB]
 exact Pm hb 4 0 c (by omega) h
structure SomeC (x:Cd):Prop where
 fits:FitsC x
 pool:x.pool.length<=3001
 list:x.list.length<=400
 defs:x.defs.length<=21
 lit:Lit x 63
 alt:Alt x
def af7 (v:D):Prop:=∃x:Cd,v=oCd x/\SomeC x
theorem Qf {x:Cd}(h:RightC x):SomeC x:=by
 obtain⟨c1,c2,c3⟩:=AM h.ok
 have:=Aq c1
 exact⟨h.fits,by omega,c2,by omega,fun y hy h1 _=>CN (h.small.lit y hy h1) (by omega),fun k y z hy hz h1 h2=>.inl (CN (h.small.lit y (List.mem_of_getElem? hy) h1) (by omega))⟩
theorem Q8 {x:Cd}(hr:RightC x)(k:Nat){y:In}(hy:y.s.size<4611686018427387904)(hl:y.op=1->0<=y.n->Lq x.pool y.n 63):SomeC ⟨x.pool,x.list.set k y,x.defs⟩:=by
 obtain⟨f,p,l,d,t,_⟩:=Qf hr
 refine⟨⟨f.pool,f.plen,?_,by simpa using f.llen,f.defs,f.dlen⟩,p,by simpa using l,d,fun z hz h1 h2=>?_,fun a u v hu hv h1 h2=>?_⟩
 ·intro z hz
  rcases List.mem_or_eq_of_mem_set hz with hz|rfl
  ·exact f.list z hz
  ·exact hy
 ·rcases List.mem_or_eq_of_mem_set hz with hz|rfl
  ·exact t z hz h1 h2
  ·exact hl h1 h2
 ·by_cases e:k=a
  ·refine .inr ?_
   simp only at hv
   rw[List.getElem?_set_ne (by omega)]at hv
   exact CN (hr.small.lit v (List.mem_of_getElem? hv) h2) (by omega)
  ·refine .inl ?_
   simp only at hu
   rw[List.getElem?_set_ne e]at hu
   exact CN (hr.small.lit u (List.mem_of_getElem? hu) h1) (by omega)
end
end
end Go.Eng
/-! draws of code,mostly right -/
namespace Go.Eng
open Go.Proofs Go.Proofs.Tryz
set_option maxHeartbeats 4000000

section
variable {b:List Int}
theorem acl (hb:b.length<4611686018427387904){c:Int×Int}(h:BU b c):FG b af7 (V 74 [eC b c]):=by
 rw[XN]
 refine z9 (TK hb h) fun v c1 a1 ⟨x,e,hx⟩=>?_
 subst e
 have hs:=Qf hx
 have hne:=hx.ne
 have hll:=hs.list
 rw[yK,zn,zt,zn,zt,zn,zt,zF,zn,zr,zn,zu,zn,zq,zn,zq,zF,zF]
 try dsimp only
 rw[lnM]
 refine z9 (Ap hb a1 _) fun v c2 a2 ⟨m,e,m0,m1⟩=>?_
 subst e
 have m1:=m1 (by simp only[ni];omega)
 obtain⟨y,hy⟩:=yM (l:=x.list) (i:=m.toNat) (by simp only[ni]at m1;omega)
 have hg:(decide (0<=m)&&decide (m<ni x.list.length))=true:=by simp only[Bool.and_eq_true,decide_eq_true_eq];exact⟨m0,m1⟩
 have hys:=hx.fits.list y (List.mem_of_getElem? hy)
 have hyn:=hx.small.numbers hx.ok hy
 have hyl:y.op=1->0<=y.n->Lq x.pool y.n 63:=fun h1 h2=>CN (hx.small.lit y (List.mem_of_getElem? hy) h1) (by omega)
 have st:∀(z:In) ,List.set (x.list.map eIn) m.toNat (eIn z)=(x.list.set m.toNat z).map eIn:=fun z=>by rw[List.map_set]
 rw[zq,zn,zr,zn,zu,zn,zq,zn,zq,zF,zF]
 refine z9 (Ap hb a2 _) fun v c3 a3 ⟨n,e,n0,n1⟩=>?_
 subst e
 rw[zq,zn,zr,zn,zu,zn,zq,zn,zq,zF,zF]
 refine Au (fun _=>?_) fun _=>Au (fun _=>?_) fun _=>Au (fun _=>?_) fun _=>Au (fun _=>?_) fun _=>Au (fun _=>?_) fun _=>Au (fun _=>?_) fun _=>?_
 ·refine z9 (Ap hb a3 _) fun v c4 a4 ⟨u,e,u0,u1⟩=>?_
  subst e
  rw[zq,zn,zr,zn,zu,zn,zq,zn,zq,zF,zF]
  refine DW hg ?_
  rw[zj hy,yK,zO]
  exact Aa a4 ⟨⟨x.pool,x.list.set m.toNat ⟨u,y.n,y.i,y.s⟩,x.defs⟩,congrArg (fun l=>D.agg [.os (5,0) (x.pool.map eN),.os (4,0) l,.os (3,0) (x.defs.map eDf)]) (st ⟨u,y.n,y.i,y.s⟩),Q8 hx _ hys (fun _ h2=>hyn.elim (fun h=>hx.small.any h) (fun h=>hyl h h2))⟩
 ·refine z9 (JV hb a3 [-1,0,m,w6 (m+1),ni x.list.length,w6 (ni x.list.length+1)] (by simp)) fun v c4 a4 ⟨u,e,hu⟩=>?_
  subst e
  rw[zq,zn,zr,zn,zu,zn,zq,zn,zq,zF,zF]
  refine DW hg ?_
  rw[zj hy,yK,zO]
  exact Aa a4 ⟨⟨x.pool,x.list.set m.toNat ⟨y.op,u,y.i,y.s⟩,x.defs⟩,congrArg (fun l=>D.agg [.os (5,0) (x.pool.map eN),.os (4,0) l,.os (3,0) (x.defs.map eDf)]) (st ⟨y.op,u,y.i,y.s⟩),Q8 hx _ hys (fun _ h2=>hx.small.any (by show u<=62;have:=hx.small.len;simp only[List.mem_cons,List.not_mem_nil,or_false]at hu;rw[w64 (n:=m+1) (by simp only[ni]at m1;omega) (by simp only[ni]at m1;omega),w64 (n:=ni x.list.length+1) (by simp only[ni];omega) (by simp only[ni];omega)]at hu;simp only[ni]at hu m1;omega))⟩
 ·refine z9 (Ap hb a3 _) fun v c4 a4 ⟨u,e,u0,u1⟩=>?_
  subst e
  rw[zq,zn,zr,zn,zu,zn,zq,zn,zq,zF,zF]
  refine DW hg ?_
  rw[zj hy,yK,zO]
  exact Aa a4 ⟨⟨x.pool,x.list.set m.toNat ⟨y.op,y.n,w6 (u-1),y.s⟩,x.defs⟩,congrArg (fun l=>D.agg [.os (5,0) (x.pool.map eN),.os (4,0) l,.os (3,0) (x.defs.map eDf)]) (st ⟨y.op,y.n,w6 (u-1),y.s⟩),Q8 hx _ hys hyl⟩
 ·refine z9 (KI hb a3 [⟨#[]⟩,⟨#[97]⟩,⟨#[65]⟩] (by simp)) fun v c4 a4 ⟨u,e,hu⟩=>?_
  subst e
  rw[zw,zn,zr,zn,zu,zn,zq,zn,zq,zF,zF]
  refine DW hg ?_
  rw[zj hy,yK,zO]
  have hz:u.size<4611686018427387904:=by
   simp only[List.mem_cons,List.not_mem_nil,or_false]at hu
   rcases hu with rfl|rfl|rfl<;>decide
  exact Aa a4 ⟨⟨x.pool,x.list.set m.toNat ⟨y.op,y.n,y.i,u⟩,x.defs⟩,congrArg (fun l=>D.agg [.os (5,0) (x.pool.map eN),.os (4,0) l,.os (3,0) (x.defs.map eDf)]) (st ⟨y.op,y.n,y.i,u⟩),Q8 hx _ hz hyl⟩
 ·refine z9 (KI hb a3 [⟨#[102]⟩,⟨#[109,97,105,110]⟩,⟨#[122,122]⟩,⟨#[65]⟩] (by simp)) fun v c4 a4 ⟨u,e,hu⟩=>?_
  subst e
  rw[zw,zn,zr,zn,zu,zn,zq,zn,zq,zF,zF]
  refine z9 (Ap hb a4 _) fun v c5 a5 ⟨w,e,w0,w1⟩=>?_
  subst e
  rw[zq,zn,zr,zn,zu,zn,zq,zn,zq,zF,zF]
  refine z9 (Ap hb a5 _) fun v c6 a6 ⟨z,e,z0,z1⟩=>?_
  subst e
  rw[zq,zn,zr,zn,zu,zn,zq,zn,zq,zF,zF]
  have hz:u.size<4611686018427387904:=by
   simp only[List.mem_cons,List.not_mem_nil,or_false]at hu
   rcases hu with rfl|rfl|rfl|rfl<;>decide
  have ea:x.defs.map eDf++[D.agg [D.str u,iN w,iN z]]=(x.defs++[(⟨u,w,z⟩:Df)]).map eDf:=by simp
  obtain⟨c1,c2,c3⟩:=AM hx.ok
  try dsimp only
  rw[ea]
  refine DW (decide_eq_true (by rw[qA,lnM];simp only[ni,lnA,lnC,lnN];omega)) ?_
  obtain⟨f,p,l,d,t,ta⟩:=hs
  refine Aa a6 ⟨⟨x.pool,x.list,x.defs++[⟨u,w,z⟩]⟩,rfl,⟨⟨f.pool,f.plen,f.list,f.llen,?_,by simp only[lnA,lnC,lnN];omega⟩,p,l,by simp only[lnA,lnC,lnN];omega,t,ta⟩⟩
  intro q hq
  rcases List.mem_append.1 hq with hq|hq
  ·exact f.defs q hq
  ·rw[List.mem_singleton.1 hq];exact hz
 ·refine z9 (abK hb a3) fun v c4 a4 ⟨p,e,hp,hl⟩=>?_
  subst e
  rw[yK,zn,zt,zF,zn,zr,zn,zu,zn,zq,zn,zq,zF,zF]
  obtain⟨f,p',l,d,t,ta⟩:=hs
  have ht:Lit ⟨p,x.list,x.defs⟩ 63:=fun y _ _ _=>CN (ZN hl y.n) (by omega)
  have ha:Alt ⟨p,x.list,x.defs⟩:=fun k y z _ _ _ _=>.inl (CN (ZN hl y.n) (by omega))
  have hl:=aah hl
  exact Aa a4 ⟨⟨p,x.list,x.defs⟩,rfl,⟨⟨WT hp,by show p.length<_;omega,f.list,f.llen,f.defs,f.dlen⟩,hl,l,d,ht,ha⟩⟩
 ·exact Aa a3 ⟨x,rfl,hs⟩
end
end Go.Eng
/-! a step of a machine: the reference's side: instructions,steps,runs,answers -/
namespace Go.Eng
open Go.Proofs Go.Proofs.Tryz
set_option maxHeartbeats 4000000

theorem aaS {q:List Nd}(hp:Af q=true){v:Int}(hv:InP q v)(acc:List Nd)(d d':Int):BW d q v acc=BW d' q v acc:=by
 have h:=RT hp (FW hp [v]) (Dr q [v]) d d' q.length [] [] acc rfl (Nat.zero_add _) (fun _ _=>rfl)
 unfold BW
 refine Prod.ext h.1 ?_
 have:=h.2 v.toNat (Jf (RZ hv) v (by simp))
 simp only[List.getD_eq_getElem?_getD]
 exact congrArg (fun o=>Option.getD o 0) this
theorem aaB {q acc:List Nd}(hp:Af q=true){v:Int}(hv:InP q v)(hc:acc.length+q.length<4294967296):V 96 [rP acc,eP q,iN v]=some (iN (BW (-1) q v acc).2,[rP (BW (-1) q v acc).1]):=by
 have h1:V 149 [eP q,.rs (1,0) [iN v]]=_:=ac2 hp (l:=[v]) (by simp) (RZ hv)
 have h2:=aef (acc:=acc) hp (rs:=[v]) hc
 have hl:(Ba 0 q [v] acc).1.length=q.length:=by unfold Ba;rw[Fc];simp
 rw[aaS hp hv acc (-1) 0,Yd,Yw h1,aac h2,ZI ⟨hv.1,by rw[hl];exact hv.2⟩]
 rfl

theorem agJ {R:Type}(x:Df)(K:Int->Option R):(asAgg (eDf x) fun l=>dd l 1 fun y=>asI .i64 y fun n=>K n)=K x.at':=rfl
theorem agK {R:Type}(x:Df)(K:Int->Option R):(asAgg (eDf x) fun l=>dd l 2 fun y=>asI .i64 y fun n=>K n)=K x.args:=rfl
theorem aae {c:Cd}{x:In}{k:Int}(h:Kn c x k=true)(h1:¬x.op=1)(h2:¬x.op=2)(h3:¬x.op=3)(h4:¬x.op=4)(h5:¬x.op=5)(h6:¬x.op=6)(h7:¬x.op=7)(h8:¬x.op=8):x.op=9:=by
 unfold Kn at h
 rw[if_neg h1,if_neg h2,if_neg h3,if_neg (by omega),if_neg h6,if_neg h7]at h
 split at h
 ·omega
 ·cases h
theorem abA {c:Cd}(hf:FitsC c)(hc:AX c=true){m:Mc}(hl:m.pool.length<4294967200)(s:ByteArray):Rj c (V 217 [eCd c,eMo m,.str s]) (J0 c m s):=by
 have hd:=JF hf s
 have c2:=(AM hc).2.1
 rw[Uf,UG hd]
 unfold J0
 by_cases h0:0<=Ew c s
 ·obtain⟨d,hg⟩:=Ru h0
  have hok:=RX hc hg
  unfold aad at hok
  simp only[Bool.and_eq_true]at hok
  have a1:=wi_iff.1 hok.2.2.1
  have a2:=wi_iff.1 hok.2.2.2
  have hlt:=aQ hg
  have h1:=AP (p:=m.pool) (by omega) ndN
  have h2:=AP (p:=m.pool++[ndN]) (by simp;omega) (ndF (8*d.at'+d.args) m.pool.length)
  have h3:=JE (m:=⟨m.pool++[ndN]++[ndF (8*d.at'+d.args) m.pool.length],m.at',m.s,m.e,m.d,m.state,m.ask,m.arg⟩) (by simp;omega) (m.pool.length+1)
  have e1:w6 (w6 (8*d.at')+d.args)=8*d.at'+d.args:=by rw[w64 (n:=8*d.at') (by omega) (by omega),w64 (by omega) (by omega)]
  have e2:((m.pool++[ndN]).length:Int)=m.pool.length+1:=by simp
  rw[e2]at h2
  have hgr:(decide (0<=Ew c s)&&decide (Ew c s<ni (c.defs.map eDf).length))=true:=by rw[lnM];simp only[ni,Bool.and_eq_true,decide_eq_true_eq];omega
  rw[if_pos h0,y6 (decide_eq_true h0),Ak h1,zJ hgr,zj hg,agJ,zJ hgr,zj hg,agK]
  simp only[List.getD_eq_getElem?_getD,hg,Option.getD_some]
  rw[e1,Ak h2,CQ h3]
  rfl
 ·rw[if_neg h0,yp (decide_eq_false h0)]
  have hp:=VX s
  have hb:=MY s
  rw[Z5 hp]
  by_cases hz:Eo s=0
  ·rw[if_pos hz,y6 (zU hz)]
   exact AU m (by decide) rfl
  ·have h1:=AP (p:=m.pool) (by omega) (ndR (Eo s))
   have h3:=JE (m:=⟨m.pool++[ndR (Eo s)],m.at',m.s,m.e,m.d,m.state,m.ask,m.arg⟩) (by simp;omega) m.pool.length
   rw[if_neg hz,yp (zT hz),Ak h1,CQ h3]
   rfl
theorem aeh {c:Cd}(_:c.list.length<=400){m:Mc}(hr:RunM c m)(hl:m.pool.length<=3000):Rj c (V 220 [eMo m]) (JT c m):=by
 rw[XU]
 unfold JT
 cases ht:DN m with
 |none=>
  have h1:=KW hr.gm.s ht
  rw[CI h1]
  exact AU m (by decide) rfl
 |some q=>
  obtain⟨v,m1⟩:=q
  have h1:=Rh hr.gm.s ht
  obtain⟨g1,g2,g3,g4,g5,g6,g7,g8⟩:=DP hr.gm ht
  rw[CI h1,Bool.not_true,y0,FC g1.d]
  simp only
  by_cases k1:(nod m1.pool m1.d).kind=1
  ·rw[if_pos k1,y6 (zU k1)];rfl
  rw[if_neg k1,yp (zT k1)]
  by_cases k5:(nod m1.pool m1.d).kind=5
  ·rw[if_neg (fun h=>h k5),yp (zW k5)]
   have ha:=NY g1.ok g1.d (.inl k5)
   have hfr:V 234 [eP m1.pool,iN (nod m1.pool m1.d).a,iN 3]=_:=W7 g1.ok (by rw[g3];omega) ha (many:=3) (by omega)
   rw[Wq (by omega)]
   cases hq:NF m1.pool (nod m1.pool m1.d).a 3 with
   |none=>
    rw[hq]at hfr
    rw[Fw hfr]
    exact AU m1 (by decide) rfl
   |some nr=>
    obtain⟨n,r⟩:=nr
    rw[hq]at hfr
    have hlen:=Ui (by omega) hq
    obtain⟨s,e,rfl⟩:∃s e,r=[s,e]:=by
     match r,hlen with
     |[s,e],_=>exact⟨s,e,rfl⟩
     |[],h=>simp at h
     |[_],h=>simp at h
     |_::_::_::_,h=>simp at h
    have a3:=JE (m:=⟨m1.pool,n,s,e,(nod m1.pool m1.d).b,m1.state,m1.ask,m1.arg⟩) (by show m1.pool.length<_;rw[g3];omega) v
    by_cases h5:Ce c n=true
    ·simp only[h5,if_true]
     rw[Fw hfr,Bool.not_true,y0,BQ,GK,CQ a3]
     rfl
    ·have h5f:Ce c n=false:=by cases hz:Ce c n with|true=>exact absurd hz h5|false=>rfl
     simp only[h5f]
     refine .inr ⟨rfl,Je ⟨m1.pool,n,s,e,(nod m1.pool m1.d).b,m1.state,m1.ask,m1.arg⟩ v,h5f,?_⟩
     rw[Fw hfr,Bool.not_true,y0,BQ,GK,CQ a3]
  ·rw[if_pos k5,y6 (zX k5)]
   exact AU m1 (by decide) rfl
theorem ZJ {c:Cd}{n:Int}(h:Ce c n=false)(h0:0<=n):(c.list.length:Int)<=n:=by
 rcases Int.lt_or_le n c.list.length with h1|h1
 ·have:=isPl_iff.2 ⟨h0,(by omega:n<=(c.list.length:Int)-1)⟩
  rw[h]at this;cases this
 ·exact h1
theorem Sm {c:Cd}(hc:c.list.length<=400):∀(k:Nat) {m:Mc} {acc:List Int},k+acc.length<=4->RunM c m->m.pool.length<=3000->(∀v∈acc,InP m.pool v) ->
  Rj c (GF (m.at'+1) ((k:Int)-1) m.at' m.s m.e m.d m.state m.ask m.arg (c.pool.map eN) (c.list.map eIn) (c.defs.map eDf) ((List.replicate k 0++acc).map eI) (m.pool.map eN)) (if Ce c (m.at'+1)=false then .error 7 else match D8 (k+1) m with
   |none=>.error 7
   |some (l,m')=>EZ c 3 m' (l.getD k 0) ((l.take k).reverse++acc))
 |0,m,acc,hk,hr,hl,hv=>by
  have hpl:=isPl_iff.1 hr.pl
  rw[KF,yp (decide_eq_false (by omega))]
  simp only[D8]
  cases ht:DN m with
  |none=>
   have h1:=KW hr.gm.s ht
   rw[CI h1]
   simp only[ite_self]
   exact AU m (by decide) rfl
  |some q=>
   obtain⟨v,m1⟩:=q
   have h1:=Rh hr.gm.s ht
   obtain⟨g1,g2,g3,g4,g5,g6,g7,g8⟩:=DP hr.gm ht
   rw[CI h1,Bool.not_true,y0,lnM]
   simp only[List.getD_cons_zero,List.take_zero,List.reverse_nil,List.nil_append,List.replicate_zero]
   cases hp:Ce c (m.at'+1) with
   |false=>
    have:=ZJ hp (by omega)
    rw[if_pos rfl,y6 (decide_eq_true (by simp only[ni];omega))]
    exact AU m1 (by decide) rfl
   |true=>
    have:=isPl_iff.1 hp
    have hr1:RunM c m1:=⟨g1,g5.trans hr.st,g6.trans hr.ask,g7.trans hr.arg,by rw[g4];exact hr.pl⟩
    have hva:∀u∈acc,InP m1.pool u:=fun u hu=>by rw[g3];exact hv u hu
    have ha:=WZ hc 3 hr1 (f:=v) (l:=acc) (by rw[g4];exact hp) (by rw[g3];omega) g2 hva (by omega) (Qp 3 hva (.inl (Nat.le_refl _)))
    rw[g4]at ha
    rw[if_neg (by simp),yp (decide_eq_false (by simp only[ni];omega))]
    exact Ol ha (fun q m' hx=>by rw[QU hx])
 |k+1,m,acc,hk,hr,hl,hv=>by
  have e1:(((k+1:Nat):Int)-1)=(k:Int):=by omega
  rw[KF,e1,y6 (decide_eq_true (by omega))]
  rw[D8]
  cases ht:DN m with
  |none=>
   have h1:=KW hr.gm.s ht
   rw[CI h1]
   simp only[ite_self]
   exact AU m (by decide) rfl
  |some q=>
   obtain⟨v,m1⟩:=q
   have h1:=Rh hr.gm.s ht
   obtain⟨g1,g2,g3,g4,g5,g6,g7,g8⟩:=DP hr.gm ht
   have ih:=Sm hc k (m:=m1) (acc:=v::acc) (by simp only[lnC];omega) ⟨g1,g5.trans hr.st,g6.trans hr.ask,g7.trans hr.arg,by rw[g4];exact hr.pl⟩ (by rw[g3];exact hl) (fun u hu=>by
    rcases List.mem_cons.1 hu with rfl|hu
    ·exact g2
    ·rw[g3];exact hv u hu)
   rw[g4]at ih
   have ae:(List.replicate (k+1) (0:Int)++acc)[k]? = some 0:=by
    rw[List.getElem?_append_left (by simp)];simp
   have hset:List.set ((List.replicate (k+1) (0:Int)++acc).map eI) k (iN v)=(List.replicate k 0++v::acc).map eI:=by
    rw[<-List.map_set (f:=eI) (a:=v),List.replicate_succ',List.append_assoc]
    simp
   rw[CI h1,Bool.not_true,y0,zJ (by rw[lnM];exact zM (by simp only[lnA,List.length_replicate];omega)),Int.toNat_natCast,zj ae,zO,hset,w64 (n:=(k:Int)-1) (by omega) (by omega)]
   simp only
   cases ht2:D8 (k+1) m1 with
   |none=>rw[ht2]at ih;rw[g4] ;exact ih
   |some q2=>
    obtain⟨l2,m2⟩:=q2
    rw[ht2]at ih
    simp only[List.getD_cons_succ,List.take_succ_cons,List.reverse_cons,List.append_assoc,List.singleton_append]
    rw[g4]
    exact ih
theorem aaA {c:Cd}(hc:c.list.length<=400){m:Mc}(hr:RunM c m)(hl:m.pool.length<=3000){k:Int}(hk:0<=k/\k<=4):Rj c (V 219 [eCd c,eMo m,iN k,iN (m.at'+1)]) (CK c m k.toNat):=by
 have h:=Sm hc k.toNat (m:=m) (acc:=[]) (by simp only[lnN];omega) hr hl (by simp)
 rw[XW,zJ (by rw[qA];simp only[Bool.and_eq_true,decide_eq_true_eq];omega),w64 (n:=k-1) (by omega) (by omega)]
 rw[Int.toNat_of_nonneg hk.1,List.append_nil,List.map_replicate]at h
 unfold CK
 cases ht:D8 (k.toNat+1) m with
 |none=>rw[ht]at h;exact h
 |some q=>
  obtain⟨l,m'⟩:=q
  obtain⟨f1,f2,f3,f4,f5,f6,f7,f8,f9⟩:=JK hr.gm ht
  rw[ht]at h
  simp only[List.append_nil]at h⊢
  obtain⟨l0,f,rfl⟩:∃l0 f,l=l0++[f]:=⟨l.dropLast,l.getLast (by intro e;subst e;simp at f3),(List.dropLast_concat_getLast _).symm⟩
  have e3:l0.length=k.toNat:=by simpa using f3
  have e4:(l0++[f]).getD k.toNat 0=f:=by rw[<-e3];simp
  have e5:(l0++[f]).take k.toNat=l0:=by rw[<-e3];simp
  rw[e4,e5]at h
  simp only[List.reverse_append,List.reverse_cons,List.reverse_nil,List.nil_append,List.singleton_append,List.getD_cons_zero,List.drop_one,List.tail_cons]
  exact h
theorem JD {c:Cd}{m:Mc}{n:Int}{X:Option Ret}(h:X=some (iN 0,[eMo ⟨m.pool,n,m.s,m.e,m.d,m.state,m.ask,m.arg⟩])):Rj c X (goM c (.ok m) n):=by
 unfold goM
 cases hp:Ce c n with
 |false=>exact .inr ⟨rfl,_,hp,h⟩
 |true=>exact h
theorem afI {c:Cd}(hf:FitsC c)(hok:AX c=true){m:Mc}(hr:RunM c m)(hl:m.pool.length<=3000){x:In}{k:Nat}(hx:c.list[k]? = some x):Rj c (V 196 [eCd c,eMo m,eIn x]) (if x.op=7 then CK c m x.i.toNat else if x.op=8 then JT c m else D7 c m x):=by
 obtain⟨c1,c2,c3⟩:=AM hok
 have cl:=Aq c1
 have hin:=Gn hok hx
 have hat:=isPl_iff.1 hr.pl
 have w1:w6 (m.at'+1)=m.at'+1:=w64 (by omega) (by omega)
 rw[aa7]
 by_cases h7:x.op=7
 ·rw[if_pos h7,yp (zT (by omega)),yp (zT (by omega)),yp (zT (by omega)),yp (zT (by omega)),yp (zT (by omega)),yp (zT (by omega)),y6 (zU h7),w1]
  exact Ol (aaA c2 hr hl (O7 hin h7)) (fun q m' hx=>by rw[Z9 hx])
 rw[if_neg h7]
 by_cases h8:x.op=8
 ·rw[if_pos h8,yp (zT (by omega)),yp (zT (by omega)),yp (zT (by omega)),yp (zT (by omega)),yp (zT (by omega)),yp (zT (by omega)),yp (zT (by omega)),y6 (zU h8)]
  exact Ol (aeh c2 hr hl) (fun q m' hx=>by rw[Z8 hx])
 rw[if_neg h8]
 unfold D7
 by_cases h1:x.op=1
 ·have hlit:=Oi hin h1
  have f:=IW c1 hr.gm.ok hlit (-1)
  obtain⟨f1,f2,t,f3,f4⟩:=f
  have hlen:=congrArg List.length f3
  rw[lnA]at hlen
  have h2:=aaB (acc:=m.pool) c1 hlit (by omega)
  have h3:=JE (m:=⟨(BW (-1) c.pool x.n m.pool).1,m.at',m.s,m.e,m.d,m.state,m.ask,m.arg⟩) (by show (BW (-1) c.pool x.n m.pool).1.length<_;omega) (BW (-1) c.pool x.n m.pool).2
  rw[if_pos h1,y6 (zU h1),Sk h2,CQ h3,w1]
  exact JD rfl
 rw[if_neg h1,yp (zT h1)]
 by_cases h2:x.op=2
 ·have hv:=UL hin h2
  have hX:=ab8 hr.gm.ok hr.gm.e (n:=x.n) (by omega) (by omega)
  rw[if_pos h2,y6 (zU h2)]
  unfold Tj
  cases e1:Jy m.pool x.n.toNat m.e with
  |none=>
   rw[e1]at hX
   rw[MW hX]
   exact AU m (by decide) rfl
  |some fr=>
   rw[e1]at hX
   have hY:=ab8 hr.gm.ok (QO hr.gm.ok _ _ _ hr.gm.e e1) (n:=x.i) (by omega) (by omega)
   rw[MW hX,Bool.not_true,y0]
   simp only
   cases e2:Jy m.pool x.i.toNat fr with
   |none=>
    rw[e2]at hY
    rw[MW hY]
    exact AU m (by decide) rfl
   |some v=>
    rw[e2]at hY
    have h3:=JE (m:=m) (by omega) v
    rw[MW hY,Bool.not_true,y0,CQ h3,w1]
    exact JD rfl
 rw[if_neg h2,yp (zT h2)]
 by_cases h3:x.op=3
 ·have hX:=abA hf hok (m:=m) (by omega) x.s
  rw[if_pos h3,y6 (zU h3)]
  cases e:J0 c m x.s with
  |ok m'=>
   rw[e]at hX
   rw[Pz (YA hX),yp (zW rfl),w1]
   exact JD rfl
  |error q=>
   rw[e]at hX
   rcases UM hX with ⟨q0,m',hx'⟩|⟨q7,m',hp,hx'⟩
   ·rw[Pz hx',y6 (zX q0)]
    exact AU m' q0 rfl
   ·exfalso
    unfold J0 at e
    split at e
    ·cases e
    ·split at e
     ·cases e;omega
     ·cases e
 rw[if_neg h3,yp (zT h3)]
 by_cases h5:x.op=5
 ·rw[if_pos h5,yp (zT (by omega)),y6 (zU h5)]
  exact JD rfl
 rw[if_neg h5]
 by_cases h6:x.op=6
 ·have hfn:=QV hin h6
  have a7:=AP (p:=m.pool) (by omega) (ndF (8*x.n+x.i) m.e)
  have a8:=JE (m:=⟨m.pool++[ndF (8*x.n+x.i) m.e],m.at',m.s,m.e,m.d,m.state,m.ask,m.arg⟩) (by simp;omega) m.pool.length
  rw[if_pos h6,yp (zT (by omega)),yp (zT (by omega)),y6 (zU h6),w64 (n:=8*x.n) (by omega) (by omega),w64 (n:=8*x.n+x.i) (by omega) (by omega),Ak a7,CQ a8,w1]
  exact JD rfl
 rw[if_neg h6]
 cases ht:DN m with
 |none=>
  have t1:=KW hr.gm.s ht
  by_cases h4:x.op=4
  ·rw[y6 (zU h4),CI t1]
   exact AU m (by decide) rfl
  ·have h9:x.op=9:=aae hin h1 h2 h3 h4 h5 h6 h7 h8
   rw[yp (zT h4),yp (zT h5),yp (zT h6),yp (zT h7),yp (zT h8),y6 (zU h9),CI t1]
   exact AU m (by decide) rfl
 |some q=>
  obtain⟨v,m1⟩:=q
  have hX:=Rh hr.gm.s ht
  obtain⟨g1,g2,g3,g4,g5,g6,g7,g8⟩:=DP hr.gm ht
  simp only
  by_cases h4:x.op=4
  ·rw[y6 (zU h4),CI hX,Bool.not_true,y0,FC g2]
   by_cases k2:(nod m1.pool v).kind=2
   ·rw[y6 (zU k2)]
    by_cases k0:(nod m1.pool v).n=0
    ·rw[y6 (zU k0),if_pos ⟨h4,k2,k0⟩]
     exact JD rfl
    ·rw[yp (zT k0),if_neg (fun h=>k0 h.2.2),w1]
     exact JD rfl
   ·rw[yp (zT k2),if_neg (fun h=>k2 h.2.1),w1]
    exact JD rfl
  ·have h9:x.op=9:=aae hin h1 h2 h3 h4 h5 h6 h7 h8
   rw[yp (zT h4),yp (zT h5),yp (zT h6),yp (zT h7),yp (zT h8),y6 (zU h9),CI hX,if_neg (fun h=>h4 h.1),Bool.not_true,y0,w1]
   exact JD rfl

theorem Vi {m:Mc}(hl:m.pool.length<=4294967296)(q:Int):V 97 [eMc m,iN q]=some (oMc (Po m q),[]):=by
 rw[Ya,Fg (Rf hl)]
 rfl
theorem abo {c:Cd}{m:Mc}(h:Nt c m=true)(hc:0<c.list.length):Ce c m.at'=true:=by
 unfold Nt at h
 have z:Ce c 0=true:=isPl_iff.2 ⟨Int.le_refl _,by omega⟩
 split at h
 ·simp only[Bool.and_eq_true]at h;exact h.1
 split at h
 ·simp only[Bool.and_eq_true]at h;exact h.1
 split at h
 ·simp only[Bool.and_eq_true,beq_iff_eq]at h;rw[h.1];exact z
 split at h
 ·simp only[Bool.and_eq_true,beq_iff_eq]at h;rw[h.1];exact z
 ·cases h
theorem aei {c:Cd}(hf:FitsC c)(hok:AX c=true){m:Mc}(hr:RunM c m)(hl:m.pool.length<=3000):V 153 [eCd c,eMc m]=some (oMc (Mr c m),[]):=by
 obtain⟨c1,c2,c3⟩:=AM hok
 have cl:=Aq c1
 obtain⟨x,hx⟩:=QZ hr
 have hlt:=aQ hx
 have hat:=isPl_iff.1 hr.pl
 have hgd:c.list.getD m.at'.toNat ⟨0,0,0,⟨#[]⟩⟩=x:=by rw[List.getD_eq_getElem?_getD,hx];rfl
 have hfail:=fun q=>Vi (m:=m) (by omega) q
 have hdo:doM c m=if x.op=7 then CK c m x.i.toNat else if x.op=8 then JT c m else D7 c m x:=by unfold doM;rw[hgd]
 have hX:=afI hf hok hr hl hx
 rw[<-hdo]at hX
 have hin:∀n:Int,V 62 [iN n,iN 0,iN (w6 (ni c.list.length-1))]=some (.bool (Ce c n),[]):=fun n=>by
  rw[w64 (n:=ni c.list.length-1) (by simp only[ni];omega) (by simp only[ni];omega)]
  exact CR n 0 _
 rw[Yc,Fg (Rf (by omega)),zJ (by rw[lnM];simp only[ni,Bool.and_eq_true,decide_eq_true_eq];omega),zj hx,adL,lnM]
 unfold Mr
 cases e:doM c m with
 |ok m'=>
  rw[e]at hX
  obtain⟨g1,⟨t,g2,g3⟩,g4⟩:=TJ hok hr e
  have hlen:=congrArg List.length g2
  rw[lnA]at hlen
  rw[RV (YA hX),yp (zW rfl),Cn (hin m'.at'),abo g4 (by omega),Bool.not_true,y0,lnM]
  simp only
  by_cases h3:m'.pool.length<=3000
  ·rw[yp (decide_eq_false (by simp only[ni];omega)),if_pos h3]
  ·rw[y6 (decide_eq_true (by simp only[ni];omega)),I9 (hfail 6),if_neg h3]
 |error q=>
  rw[e]at hX
  simp only
  rcases UM hX with ⟨q0,m',hx'⟩|⟨q7,m',hp,hx'⟩
  ·rw[RV hx',y6 (zX q0),I9 (hfail q)]
  ·rw[RV hx',yp (zW rfl),Cn (hin m'.at'),hp,Bool.not_false,zy,I9 (hfail 7),q7]

theorem aaC {c:Cd}(hf:FitsC c){m:Mc}(hm:Du m.pool)(hl:m.pool.length<=4294967296):V 89 [eCd c,eMc m]=some (oMc (Mq c m),[]):=by
 have h1:=Il hf hm (by omega)
 rw[aa3,GN h1]
 unfold Mq
 cases h:DG c m with
 |false=>rw[Bool.not_false,zy,if_neg (by simp)];rfl
 |true=>
  rw[Bool.not_true,y0,if_pos rfl]
  by_cases h0:m.state=0
  ·obtain⟨r1,r2,r3⟩:=J8 h h0
   rw[yp (zW h0),aab (aei hf r2 r1 r3),if_pos h0]
  ·rw[y6 (zX h0),Fg (Rf hl),if_neg h0]
theorem VW {c:Cd}(hf:FitsC c){m:Mc}(hm:Du m.pool)(hl:m.pool.length<=4294967296){p:List Nd}(hp:Du p)(hpl:p.length<4611686018427387904)(v:Int):V 32 [eCd c,eMc m,eP p,iN v]=some (oMc (MF c m p v),[]):=by
 have h1:=Il hf hm (by omega)
 have hcp:=Rf hl
 rw[Xw,GN h1]
 unfold MF
 cases h:DG c m with
 |false=>rw[Bool.not_false,zy,if_neg (by simp)];rfl
 |true=>
  obtain⟨r1,r2,r3,r4,r5,r6,r7⟩:=D5 h
  obtain⟨c1,c2,c3⟩:=AM r1
  rw[Bool.not_true,y0,if_pos rfl]
  by_cases hs:m.state=1
  ·rw[yp (zW hs),Gj (Dt hp hpl)]
   cases hpo:Af p with
   |false=>rw[Bool.not_false,zy,Fg hcp,if_neg (by simp)]
   |true=>
    rw[Bool.not_true,y0,Qd (KV hpl v)]
    cases hv:wi v 0 ((p.length:Int)-1) with
    |false=>rw[Bool.not_false,zy,Fg hcp,if_neg (by simp)]
    |true=>
     have hat:0<=m.at'/\m.at'<=1000:=by
      unfold Nt at r7
      rw[if_neg (by omega),if_pos hs]at r7
      simp only[Bool.and_eq_true]at r7
      have:=wi_iff.1 r7.1
      omega
     have hv':=wi_iff.1 hv
     have hin:InP p v:=⟨hv'.1,by omega⟩
     obtain⟨f1,f2,t,f3,f4⟩:=IW hpo r2 hin (-1)
     have hlen:=congrArg List.length f3
     have hpl':=Aq hpo
     rw[lnA]at hlen
     have h2:=aaB (acc:=m.pool) hpo hin (by omega)
     have h3:=JE (m:=⟨(BW (-1) p v m.pool).1,m.at',m.s,m.e,m.d,m.state,m.ask,m.arg⟩) (by show (BW (-1) p v m.pool).1.length<_;omega) (BW (-1) p v m.pool).2
     rw[Bool.not_true,y0,if_pos ⟨hs,rfl,rfl⟩,Fg hcp,Sk h2,CQ h3,w64 (n:=m.at'+1) (by omega) (by omega),lnM,lnM]
     rw[show (Je ⟨(BW (-1) p v m.pool).1,m.at',m.s,m.e,m.d,m.state,m.ask,m.arg⟩ (BW (-1) p v m.pool).2).pool.length=(VQ m p v).pool.length from rfl]
     cases hp1:Ce c (m.at'+1) with
     |false=>
      have:=ZJ hp1 (by omega)
      rw[y6 (decide_eq_true (by simp only[ni];omega)),I9 (Vi hl 7),if_neg (by simp)]
     |true=>
      have:=isPl_iff.1 hp1
      rw[yp (decide_eq_false (by simp only[ni];omega)),if_pos rfl]
      by_cases h3k:(VQ m p v).pool.length<=3000
      ·rw[yp (decide_eq_false (by simp only[ni];omega)),if_pos h3k];rfl
      ·rw[y6 (decide_eq_true (by simp only[ni];omega)),I9 (Vi hl 6),if_neg h3k]
  ·rw[y6 (zX hs),Fg hcp,if_neg (fun h=>hs h.1)]
end Go.Eng
/-! marks,equality,sizes and copies of nodes and numbers -/
namespace Go.Eng
open Go.Proofs Go.Proofs.Tryz
set_option maxHeartbeats 4000000

end Go.Eng
/-! sizes,copies and equality of what a law's arguments hold -/
namespace Go.Eng
open Go.Proofs Go.Proofs.Tryz
set_option maxHeartbeats 4000000

end Go.Eng
/-! a law's arguments: pools,code,machines,processes -/
namespace Go.Eng
open Go.Proofs Go.Proofs.Tryz
set_option maxHeartbeats 4000000
set_option maxRecDepth 100000

end Go.Eng
/-! machines as bytes,on both sides -/
namespace Go.Eng
noncomputable section
open Go.Proofs Go.Proofs.Tryz
set_option maxHeartbeats 4000000

def WB (l:List Int):List UInt8:=l.flatMap fun x=>DQ x.toNat
def adc (l:List Int):Prop:=∀x∈l,0<=x/\x<4611686018427387904
theorem QF {p:List Nd}(hp:Af p=true){l:List Int}(hs:adc l)(hl:l.length<=1000)(a b c d e f g:Int):∀(k i:Nat) (out:List UInt8),i+k=l.length->out.length<=9*i ->
  Dv (ni l.length) (i:Int) a b c d e f g (out.map eU) (l.map eI) (p.map eN)=some (.tup [.str (mk (out++WB (l.drop i)++UN p)),.bool true],[])
 |0,i,out,hi,ho=>by
  have hpk:=adE hp
  rw[Gu,List.drop_of_length_le (by omega)]
  simp (disch:=first|omega|(simp only[lnA,lnC,lnN,lnM,z8,yj];omega)) only[↓yk,yz,↓y0,↓zd,↓zF,↓zt,↓zO,zZ,zY,lnM,lnA,qA,yj,aaz hp,zz,↓abh,WB,List.flatMap_nil,List.append_nil]
 |k+1,i,out,hi,ho=>by
  obtain⟨x,hx⟩:=yM (l:=l) (i:=i) (by omega)
  have hxs:=hs x (List.mem_of_getElem? hx)
  have hlx:=B9 (n:=x.toNat) (by omega)
  have ih:=QF hp hs hl a b c d e f g k (i+1) (out++DQ x.toNat) (by omega) (by simp only[lnA];omega)
  have hw:w6 ((i:Int)+1)=((i+1:Nat):Int):=z6 (by omega)
  have en:out++WB (l.drop i)++UN p=out++DQ x.toNat++WB (l.drop (i+1))++UN p:=by
   rw[vc hx];simp[WB]
  have hn:=AY hxs.1 hxs.2
  rw[en,Gu]
  simp (disch:=first|omega|(simp only[lnA,lnC,lnN,lnM,z8,yj];omega)) only[↓yk,yz,↓zy,↓zd,↓zF,↓zq,↓zt,↓zO,↓zk,zZ,Bool.and_true,lnM,lnA,qA,yj,↓zj hx,hn,zz,hw]
  exact ih
def Yq (m:Mc):List Int:=[m.at',m.state,m.ask,m.s,m.e,m.d,m.arg]
def adW (c:Cd)(m:Mc):Option (List UInt8):=if DG c m=true then some (WB (Yq (EF m))++UN (EF m).pool) else none
theorem acG {c:Cd}{m:Mc}(h:DG c m=true):adc (Yq m):=by
 obtain⟨hp,hr,h1,h2,h3,h4,h5,h6,h7,h8⟩:=Ie h
 have hlen:=Aq hp
 have hs:wi m.s 0 ((m.pool.length:Int)-1)=true/\wi m.e 0 ((m.pool.length:Int)-1)=true/\wi m.d 0 ((m.pool.length:Int)-1)=true:=by
  unfold DG Jx at h
  simp only[Bool.and_eq_true]at h
  exact⟨h.2.2.1,h.2.2.2.1,h.2.2.2.2.1⟩
 have w1:=wi_iff.1 hs.1
 have w2:=wi_iff.1 hs.2.1
 have w3:=wi_iff.1 hs.2.2
 intro x hx
 simp only[Yq,List.mem_cons,List.not_mem_nil,or_false]at hx
 omega
theorem Kh {c:Cd}(hf:FitsC c){m:Mc}(hm:Du m.pool)(hl:m.pool.length<=4294967296):V 19 [eCd c,eMc m]=some (adV (adW c m),[]):=by
 have hok:=Ij hf hm (by omega)
 have ht:=Su hm hl
 rw[Qu]
 unfold adW
 cases h:DG c m with
 |false=>rw[h]at hok;simp (disch:=first|omega|(simp only[lnA,lnC,lnN,lnM,z8,yj];omega)) only[↓yk,yz,↓zy,↓zF,↓yZ,Bool.not_false,hok];rfl
 |true=>
  rw[h]at hok
  have h2:=ab3 h
  have hlp:=QF (Ie h2).1 (acG h2) (by simp[Yq]) (EF m).at' (EF m).s (EF m).e (EF m).d (EF m).state (EF m).ask (EF m).arg 7 0 [] rfl (by simp)
  rw[List.drop_zero,List.nil_append]at hlp
  simp (disch:=first|omega|(simp only[lnA,lnC,lnN,lnM,z8,yj];omega)) only[↓yk,yz,↓y0,↓zF,↓zn,↓zq,↓yZ,↓zt,↓yK,Bool.not_true,yj,hok,ht]
  exact hlp
end
end Go.Eng
/-! nodes of bytes,on both sides -/
namespace Go.Eng
open Go.Proofs Go.Proofs.Tryz
set_option maxHeartbeats 4000000

section
variable {b:List UInt8}(hb:b.length<4611686018427387904)
include hb
end
end Go.Eng
/-! nodes of bytes: the reference's side,and what both come to -/
namespace Go.Eng
open Go.Proofs Go.Proofs.Tryz
set_option maxHeartbeats 4000000

end Go.Eng
/-! a value read of bytes: both sides come to the same -/
namespace Go.Eng
open Go.Proofs Go.Proofs.Tryz
set_option maxHeartbeats 4000000

end Go.Eng
/-! a value read of bytes: both sides come to the same -/
namespace Go.Eng
open Go.Proofs Go.Proofs.Tryz
set_option maxHeartbeats 4000000

end Go.Eng
/-! processes: when they are right,on both sides -/
namespace Go.Eng
open Go.Proofs Go.Proofs.Tryz
set_option maxHeartbeats 4000000

structure Pr where
 pid:Int
 m:Mc
 box:List ByteArray
 out:List ByteArray
structure FitsR (p:Pr):Prop where
 pool:Du p.m.pool
 plen:p.m.pool.length<=4294967296
 box:∀x∈p.box,x.size<4294967296
 blen:p.box.length<4294967296
 out:∀x∈p.out,x.size<4294967296
 olen:p.out.length<4294967296
end Go.Eng
/-! new machines and processes,on both sides -/
namespace Go.Eng
noncomputable section
open Go.Proofs Go.Proofs.Tryz
set_option maxHeartbeats 4000000

theorem abq {α:Type}(p:α->Bool)(l:List α) : -1<=zm p l/\zm p l<l.length:=by
 unfold zm
 cases h:l.findIdx? p with
 |none=>simp only;omega
 |some k=>
  rw[List.findIdx?_eq_some_iff_getElem]at h
  obtain⟨hk,_⟩:=h
  simp only;omega
def zMc:Mc:=⟨[],0,0,0,0,0,0,0⟩
def ZT (d:Df):Mc:=⟨[⟨1,0,⟨#[]⟩,0,0⟩,⟨5,0,⟨#[]⟩,0,0⟩],d.at',0,1,0,0,0,0⟩
def ZR (c:Cd)(s:ByteArray):Option Mc:=if AX c=true/\0<=Ew c s then
  (match c.defs[(Ew c s).toNat]? with|some d=>if d.args=0 then some (ZT d) else none|none=>none) else none
def agQ (r:Option Mc):D:=match r with|some m=>.tup [oMc m,.bool true] | none=>.tup [oMc zMc,.bool false]
theorem GQ {c:Cd}(hf:FitsC c)(s:ByteArray):V 78 [eCd c,.str s]=some (agQ (ZR c s),[]):=by
 have hd:=JF hf s
 have hc:=IJ hf
 have hb:=abq (fun d:Df=>kJ d.name s) c.defs
 rw[RC]
 unfold ZR
 cases e1:AX c with
 |false=>rw[e1]at hc;rw[if_neg (by simp)];simp (disch:=first|omega|(simp only[lnA,lnC,lnN,lnM,z8,yj];omega)) only[↓yk,yz,↓zy,↓zF,↓zq,↓yZ,Bool.not_false,hd,hc];rfl
 |true=>
  rw[e1]at hc
  by_cases e2:0<=Ew c s
  ·rw[if_pos ⟨rfl,e2⟩]
   obtain⟨k,hk⟩:=Int.eq_ofNat_of_zero_le e2
   have hkl:k<c.defs.length:=by unfold Ew at hk;omega
   obtain⟨d,hx⟩:=yM hkl
   rw[hk]at hd⊢
   rw[Int.toNat_natCast,hx]
   by_cases e3:d.args=0
   ·simp only[e3,if_true]
    simp (disch:=first|omega|(simp only[lnA,lnC,lnN,lnM,z8,yj];omega)) only[↓yk,yz,↓y0,↓zd,↓zF,↓zq,↓yZ,↓yK,↓yO,↓yP,yO,yP,↓zk,zZ,zY,zW,Bool.and_true,Bool.not_true,lnM,yj,hd,hc,↓zj hx]
    rfl
   ·simp only[e3,if_false]
    simp (disch:=first|omega|(simp only[lnA,lnC,lnN,lnM,z8,yj];omega)) only[↓yk,yz,↓zy,↓y0,↓zd,↓zF,↓zq,↓yZ,↓yK,↓yP,yP,↓zk,zZ,zY,zX,Bool.and_true,Bool.not_true,lnM,yj,hd,hc,↓zj hx]
    rfl
  ·rw[if_neg (fun h=>e2 h.2)]
   simp (disch:=first|omega|(simp only[lnA,lnC,lnN,lnM,z8,yj];omega)) only[↓yk,yz,↓zy,↓y0,↓zF,↓zq,↓yZ,zZ,Bool.not_true,hd,hc]
   rfl
theorem acz {c:Cd}{s:ByteArray}{m:Mc}(h:ZR c s=some m):∃d∈c.defs,d.args=0/\m=ZT d/\AX c=true:=by
 unfold ZR at h
 split at h
 ·rename_i hc
  split at h
  ·rename_i d hx
   split at h
   ·rename_i ha
    cases h
    exact⟨d,List.mem_of_getElem? hx,ha,rfl,hc.1⟩
   ·cases h
  ·cases h
 ·cases h
end
end Go.Eng
/-! draws of machines -/
namespace Go.Eng
noncomputable section
open Go.Proofs Go.Proofs.Tryz
set_option maxHeartbeats 4000000
set_option maxRecDepth 10000

structure SomeM (m:Mc):Prop where
 fits:Du m.pool
 len:m.pool.length<=3001
theorem aeZ {c:Cd}{m:Mc}(h:DG c m=true):SomeM m:=by
 obtain⟨r1,r2,r3,_⟩:=D5 h
 exact⟨Fh r2,by omega⟩
theorem Xe:SomeM acb:=⟨JZ,by simp[acb]⟩
theorem acV {c:Cd}{m:Mc}(h:SomeM m):SomeM (Mq c m):=by
 unfold Mq
 split
 ·split
  ·exact aeZ (U5 ‹_› ‹_›)
  ·exact h
 ·exact Xe
theorem ae0 {c:Cd}{m:Mc}(h:DG c m=true){p:List Nd}(hp:Af p=true){v:Int}(hv:InP p v):Ah (VQ m p v).pool/\InP (VQ m p v).pool (VQ m p v).s/\∃t,(VQ m p v).pool=m.pool++t:=by
 obtain⟨r1,r2,r3,r4,r5,r6,r7⟩:=D5 h
 obtain⟨f1,f2,t,f3,f4⟩:=IW hp r2 hv (-1)
 have hs:InP (BW (-1) p v m.pool).1 m.s:=by rw[f3];exact Ai _ r4
 exact⟨AA f1 (O8 f2 hs),Cj _ _,t++[ndP (BW (-1) p v m.pool).2 m.s],by unfold VQ;simp only;rw[f3,List.append_assoc]⟩
theorem YR {c:Cd}{m:Mc}(h:SomeM m){p:List Nd}{v:Int}:SomeM (MF c m p v):=by
 unfold MF
 split
 ·rename_i hok
  split
  ·rename_i hc
   have hv:=wi_iff.1 hc.2.2
   split
   ·split
    ·exact⟨Fh (ae0 hok hc.2.1 ⟨hv.1,by omega⟩).1,by omega⟩
    ·exact⟨h.fits,h.len⟩
   ·exact⟨h.fits,h.len⟩
  ·exact h
 ·exact Xe
theorem ad5 {c:Cd}(hL:Lit c 23)(m:Mc):(Mq c m).pool.length<=m.pool.length+24:=by
 unfold Mq
 split
 ·rename_i hok
  split
  ·rename_i h0
   obtain⟨hr,hc,_⟩:=J8 hok h0
   unfold Mr
   split
   ·exact Nat.le_add_right _ _
   ·rename_i m' he
    have:=aaT (fun y hy=>hL y (List.mem_of_getElem? hy)) hr hc he
    split
    ·omega
    ·exact Nat.le_add_right _ _
  ·exact Nat.le_add_right _ _
 ·exact Nat.zero_le _
theorem aaM (c:Cd)(m:Mc)(y:Nd)(v:Int):(MF c m [y] v).pool.length<=m.pool.length+24:=by
 unfold MF
 split
 ·split
  ·split
   ·split
    ·have:=ZM [y] v m.pool
     unfold VQ
     simp only[lnA,lnC,lnN]at this⊢
     omega
    ·exact Nat.le_add_right _ _
   ·exact Nat.le_add_right _ _
  ·exact Nat.le_add_right _ _
 ·exact Nat.zero_le _
def afL (N:Nat)(v:D):Prop:=∃m:Mc,v=oMc m/\SomeM m/\m.pool.length<=N
section
variable {b:List Int}
theorem aaU (hb:b.length<4611686018427387904){x:Cd}(hx:FitsC x)(hL:Lit x 23){n:Int}(hn:n<60):∀(k i:Nat) (c:Int×Int) (m:Mc),(i:Int)+k=n->BU b c->SomeM m->m.pool.length<=4+24*i ->
  FG b (afL 1420) (FM n (i:Int) (b.map eB) c.1 c.2 (x.pool.map eN) (x.list.map eIn) (x.defs.map eDf) m.at' m.s m.e m.d m.state m.ask m.arg 0 0 0 0 0 0 0 (m.pool.map eN))
 |0,i,c,m,hi,hc,hm,hn2=>by
  rw[LG,yp (decide_eq_false (by omega))]
  exact Aa hc ⟨m,rfl,hm,by omega⟩
 |k+1,i,c,m,hi,hc,hm,hn2=>by
  have hl:=hm.len
  rw[LG,y6 (decide_eq_true (by omega))]
  by_cases h1:m.state=1
  ·rw[y6 (zU h1)]
   refine z9 (abJ hb hc) fun v c1 a1 ⟨y,e,hy⟩=>?_
   subst e
   have ha:V 32 [eCd x,eMc m,.agg [.rs (5,0) [eN y]],iN 0]=_:=VW hx hm.fits (by omega) (p:=[y]) (fun z h=>by rw[List.mem_singleton.1 h];omega) (by simp) 0
   have ih:=aaU hb hx hL hn k (i+1) c1 (MF x m [y] 0) (by omega) a1 (YR hm) (by have:=aaM x m y 0;omega)
   rw[yK,zn,zq,zn,zq,zn,zw,zn,zq,zn,zq,zF,zn,zr,zn,zu,zn,zq,zn,zq,zF,zF]
   try dsimp only
   rw[Z4 ha,z6 (by omega)]
   exact ih
  ·have hs:=aaC hx hm.fits (by omega)
   have ih:=aaU hb hx hL hn k (i+1) c (Mq x m) (by omega) hc (acV hm) (by have:=ad5 hL m;omega)
   rw[yp (zT h1),acE hs,z6 (by omega)]
   exact ih
theorem LP (hb:b.length<4611686018427387904){x:Cd}(hx:FitsC x)(hL:Lit x 23){n:Int}(h0:0<=n)(hn:n<60){c:Int×Int}(hc:BU b c){m:Mc}(hm:SomeM m)(h4:m.pool.length<=4):FG b (afL 1420) (V 172 [eC b c,eCd x,oMc m,iN n]):=by
 rw[ZA]
 exact aaU hb hx hL hn n.toNat 0 c m (by omega) hc hm (by omega)
def PW:Mc:=⟨[ndN,ndF 0 0,ndN,ndP 2 0],0,2,3,2,0,0,0⟩
theorem afH {x:Cd}(hx:RightC x):V 171 [eCd x,.agg [.rs (5,0) [.agg [iN 1,iN 0,.str ⟨#[]⟩,iN 0,iN 0],.agg [iN 6,iN 0,.str ⟨#[]⟩,iN 0,iN 0]]],iN 1]=some (.tup [oMc PW,.bool true],[]):=by
 have hf:Du [ndN,ndF 0 0]:=fun z h=>by
  simp only[List.mem_cons,List.not_mem_nil,or_false]at h
  rcases h with rfl|rfl<;>exact Jk
 have h1:=IJ hx.fits
 have h2:V 60 [.agg [.rs (5,0) [.agg [iN 1,iN 0,.str ⟨#[]⟩,iN 0,iN 0],.agg [iN 6,iN 0,.str ⟨#[]⟩,iN 0,iN 0]]]]=some (.bool true,[]):=by
  have h:=Dt (p:=[ndN,ndF 0 0]) hf (by simp)
  rw[show Af [ndN,ndF 0 0]=true by decide +kernel]at h
  exact h
 have h3:V 61 [.agg [.rs (5,0) [.agg [iN 1,iN 0,.str ⟨#[]⟩,iN 0,iN 0],.agg [iN 6,iN 0,.str ⟨#[]⟩,iN 0,iN 0]]],iN 1]=some (.bool true,[]):=KV (p:=[ndN,ndF 0 0]) (by simp) 1
 have h4:V 147 [.agg [.rs (5,0) [.agg [iN 1,iN 0,.str ⟨#[]⟩,iN 0,iN 0],.agg [iN 6,iN 0,.str ⟨#[]⟩,iN 0,iN 0]]]]=_:=Vg (p:=[ndN,ndF 0 0]) (by simp)
 have h5:=AP (p:=[ndN,ndF 0 0]) (by simp) ndN
 have h6:=AP (p:=[ndN,ndF 0 0]++[ndN]) (by simp) (ndP ((([ndN,ndF 0 0]:List Nd).length:Nat):Int) 0)
 have hne:=hx.ne
 rw[hx.ok]at h1
 rw[SM,Sg h1,Bool.not_true,y0,Gj h2,Bool.not_true,y0,Qd h3,Bool.not_true,y0,yp (by decide),zJ (by decide)]
 show br (decide (w6 (Int.tdiv 0 8)>=ni (x.list.map eIn).length)) _ _=_
 rw[lnM,yp (decide_eq_false (by rw[w64 (by decide) (by decide)];simp only[ni];have:Int.tdiv 0 8=0:=rfl;omega)),AQ h4,Ak h5,Ak h6]
 rfl
theorem PZ:SomeM PW:=⟨fun z h=>by
 simp only[PW,List.mem_cons,List.not_mem_nil,or_false]at h
 rcases h with rfl|rfl|rfl|rfl<;>exact Jk,by simp[PW]⟩
theorem UC {x:Cd}{s:ByteArray}{m:Mc}(h:ZR x s=some m):SomeM m/\m.pool.length<=4:=by
 obtain⟨d,_,_,rfl,_⟩:=acz h
 exact⟨⟨fun z h=>by
  simp only[ZT,List.mem_cons,List.not_mem_nil,or_false]at h
  rcases h with rfl|rfl<;>exact Jk,by simp[ZT]⟩,by simp[ZT]⟩
theorem Cq {x:Cd}(h:RightC x):Lit x 23:=fun y hy h1 _=>CN (h.small.lit y hy h1) (by omega)
def afl (v:D):Prop:=∃(x:Cd) (m:Mc),v=.tup [eCd x,oMc m]/\RightC x/\SomeM m/\m.pool.length<=1420
theorem aex (hb:b.length<4611686018427387904){c:Int×Int}(h:BU b c):FG b afl (V 112 [eC b c]):=by
 rw[RL]
 refine z9 (TK hb h) fun v c1 a1 ⟨x,e,hx⟩=>?_
 subst e
 rw[yK,zn,zt,zn,zt,zn,zt,zF,zn,zr,zn,zu,zn,zq,zn,zq,zF,zF]
 try dsimp only
 rw[UG (JF hx.fits _),lnM]
 refine Au (fun _=>Au (fun h0=>?_) fun _=>?_) fun _=>?_
 ·have h0:=of_decide_eq_true h0
  obtain⟨d,hd⟩:=yM (l:=x.defs) (i:=0) (by simp only[ni]at h0;omega)
  refine DW (by simp only[ni,Bool.and_eq_true,decide_eq_true_eq]at h0⊢;omega) ?_
  rw[zj hd,afR]
  have hm:=GQ hx.fits d.name
  cases hq:ZR x d.name with
  |none=>
   rw[hq]at hm
   rw[CZ hm,Bool.not_false,zy,J6 (afH hx)]
   refine z9 (Ap hb a1 _) fun v c2 a2 ⟨n,e,n0,n1⟩=>?_
   subst e
   have n1:=n1 (by omega)
   rw[zq,zn,zr,zn,zu,zn,zq,zn,zq,zF,zF]
   refine z9 (LP hb hx.fits (Cq hx) n0 (by omega) a2 (m:=PW) PZ (by decide)) fun v c3 a3 ⟨m,e,hm⟩=>?_
   subst e
   rw[yK,zn,zt,zn,zq,zn,zq,zn,zq,zn,zq,zn,zq,zn,zq,zn,zq,zF,zn,zr,zn,zu,zn,zq,zn,zq,zF,zF]
   exact Aa a3 ⟨x,m,rfl,hx,hm⟩
  |some q=>
   have hqs:=UC hq
   rw[hq]at hm
   rw[CZ hm,Bool.not_true,y0]
   refine z9 (Ap hb a1 _) fun v c2 a2 ⟨n,e,n0,n1⟩=>?_
   subst e
   have n1:=n1 (by omega)
   rw[zq,zn,zr,zn,zu,zn,zq,zn,zq,zF,zF]
   refine z9 (LP hb hx.fits (Cq hx) n0 (by omega) a2 (m:=q) hqs.1 hqs.2) fun v c3 a3 ⟨m,e,hm⟩=>?_
   subst e
   rw[yK,zn,zt,zn,zq,zn,zq,zn,zq,zn,zq,zn,zq,zn,zq,zn,zq,zF,zn,zr,zn,zu,zn,zq,zn,zq,zF,zF]
   exact Aa a3 ⟨x,m,rfl,hx,hm⟩
 ·skip
  have hm:=GQ hx.fits ⟨#[109,97,105,110]⟩
  cases hq:ZR x ⟨#[109,97,105,110]⟩ with
  |none=>
   rw[hq]at hm
   rw[CZ hm,Bool.not_false,zy,J6 (afH hx)]
   refine z9 (Ap hb a1 _) fun v c2 a2 ⟨n,e,n0,n1⟩=>?_
   subst e
   have n1:=n1 (by omega)
   rw[zq,zn,zr,zn,zu,zn,zq,zn,zq,zF,zF]
   refine z9 (LP hb hx.fits (Cq hx) n0 (by omega) a2 (m:=PW) PZ (by decide)) fun v c3 a3 ⟨m,e,hm⟩=>?_
   subst e
   rw[yK,zn,zt,zn,zq,zn,zq,zn,zq,zn,zq,zn,zq,zn,zq,zn,zq,zF,zn,zr,zn,zu,zn,zq,zn,zq,zF,zF]
   exact Aa a3 ⟨x,m,rfl,hx,hm⟩
  |some q=>
   have hqs:=UC hq
   rw[hq]at hm
   rw[CZ hm,Bool.not_true,y0]
   refine z9 (Ap hb a1 _) fun v c2 a2 ⟨n,e,n0,n1⟩=>?_
   subst e
   have n1:=n1 (by omega)
   rw[zq,zn,zr,zn,zu,zn,zq,zn,zq,zF,zF]
   refine z9 (LP hb hx.fits (Cq hx) n0 (by omega) a2 (m:=q) hqs.1 hqs.2) fun v c3 a3 ⟨m,e,hm⟩=>?_
   subst e
   rw[yK,zn,zt,zn,zq,zn,zq,zn,zq,zn,zq,zn,zq,zn,zq,zn,zq,zF,zn,zr,zn,zu,zn,zq,zn,zq,zF,zF]
   exact Aa a3 ⟨x,m,rfl,hx,hm⟩
 ·skip
  have hm:=GQ hx.fits ⟨#[109,97,105,110]⟩
  cases hq:ZR x ⟨#[109,97,105,110]⟩ with
  |none=>
   rw[hq]at hm
   rw[CZ hm,Bool.not_false,zy,J6 (afH hx)]
   refine z9 (Ap hb a1 _) fun v c2 a2 ⟨n,e,n0,n1⟩=>?_
   subst e
   have n1:=n1 (by omega)
   rw[zq,zn,zr,zn,zu,zn,zq,zn,zq,zF,zF]
   refine z9 (LP hb hx.fits (Cq hx) n0 (by omega) a2 (m:=PW) PZ (by decide)) fun v c3 a3 ⟨m,e,hm⟩=>?_
   subst e
   rw[yK,zn,zt,zn,zq,zn,zq,zn,zq,zn,zq,zn,zq,zn,zq,zn,zq,zF,zn,zr,zn,zu,zn,zq,zn,zq,zF,zF]
   exact Aa a3 ⟨x,m,rfl,hx,hm⟩
  |some q=>
   have hqs:=UC hq
   rw[hq]at hm
   rw[CZ hm,Bool.not_true,y0]
   refine z9 (Ap hb a1 _) fun v c2 a2 ⟨n,e,n0,n1⟩=>?_
   subst e
   have n1:=n1 (by omega)
   rw[zq,zn,zr,zn,zu,zn,zq,zn,zq,zF,zF]
   refine z9 (LP hb hx.fits (Cq hx) n0 (by omega) a2 (m:=q) hqs.1 hqs.2) fun v c3 a3 ⟨m,e,hm⟩=>?_
   subst e
   rw[yK,zn,zt,zn,zq,zn,zq,zn,zq,zn,zq,zn,zq,zn,zq,zn,zq,zF,zn,zr,zn,zu,zn,zq,zn,zq,zF,zF]
   exact Aa a3 ⟨x,m,rfl,hx,hm⟩
end
end
end Go.Eng
/-! draws of machines,mostly right -/
namespace Go.Eng
noncomputable section
open Go.Proofs Go.Proofs.Tryz
set_option maxHeartbeats 4000000
set_option maxRecDepth 10000

def Any (n:Nat)(X:D)(l:List D):Prop:=X=.rs (n,0) l\/X=.os (n,0) l
theorem Ql {n:Nat}{X:D}{l:List D}(h:Any n X l){R:Type}(K:List D->Option R):nk (n,0) X K=K l:=by
 rcases h with rfl|rfl
 ·rw[zp]
 ·rw[zo]
def afm (x:Cd)(m:Mc):Prop:=Lit x 23\/(Lit x 63/\Alt x/\m.pool.length<=1420)
def aem (v:D):Prop:=∃(x:Cd) (m:Mc) (X1 X2 X3 Y:D),v=.tup [.agg [X1,X2,X3],.agg [Y,iN m.at',iN m.s,iN m.e,iN m.d,iN m.state,iN m.ask,iN m.arg]]/\Any 5 X1 (x.pool.map eN)/\Any 4 X2 (x.list.map eIn)/\Any 3 X3 (x.defs.map eDf)/\Any 5 Y (m.pool.map eN)/\SomeC x/\SomeM m/\afm x m
section
variable {b:List Int}
theorem acm (hb:b.length<4611686018427387904){c:Int×Int}(h:BU b c):FG b aem (V 52 [eC b c]):=by
 rw[XZ]
 refine z9 (aex hb h) fun v c1 a1 ⟨x,m,e,hx,hm,hm14⟩=>?_
 subst e
 have hs:=Qf hx
 have hl:=hm.len
 rw[yL,zn,yK,zn,zp,zn,zp,zn,zp,zF,zn,yK,zn,zo,zn,zq,zn,zq,zn,zq,zn,zq,zn,zq,zn,zq,zn,zq,zF,zF,zn,zr,zn,zu,zn,zq,zn,zq,zF,zF]
 refine z9 (Ap hb a1 _) fun v c2 a2 ⟨n,e,n0,n1⟩=>?_
 subst e
 rw[zq,zn,zr,zn,zu,zn,zq,zn,zq,zF,zF]
 refine Au (fun _=>?_) fun _=>Au (fun _=>?_) fun _=>Au (fun _=>?_) fun _=>Au (fun _=>?_) fun _=>Au (fun _=>?_) fun _=>Au (fun _=>?_) fun _=>Au (fun _=>?_) fun _=>Au (fun _=>?_) fun _=>Au (fun _=>?_) fun _=>?_
 ·refine z9 (Ap hb a2 _) fun v c3 a3 ⟨u,e,u0,u1⟩=>?_
  subst e
  rw[zq,zn,zr,zn,zu,zn,zq,zn,zq,zF,zF]
  refine z9 (JV hb a3 [-1,0,w6 (ni (x.list.map eIn).length-1),ni (x.list.map eIn).length,u] (by simp)) fun v c4 a4 ⟨w,e,_⟩=>?_
  subst e
  rw[zq,zn,zr,zn,zu,zn,zq,zn,zq,zF,zF]
  exact Aa a4 ⟨x,⟨m.pool,w,m.s,m.e,m.d,m.state,m.ask,m.arg⟩,_,_,_,_,rfl,.inl rfl,.inl rfl,.inl rfl,.inl rfl,hs,⟨hm.fits,hm.len⟩,Or.inl (Cq hx)⟩
 ·refine z9 (Ap hb a2 _) fun v c3 a3 ⟨w,e,u0,u1⟩=>?_
  subst e
  rw[zq,zn,zr,zn,zu,zn,zq,zn,zq,zF,zF]
  exact Aa a3 ⟨x,⟨m.pool,m.at',m.s,m.e,m.d,w,m.ask,m.arg⟩,_,_,_,_,rfl,.inl rfl,.inl rfl,.inl rfl,.inl rfl,hs,⟨hm.fits,hm.len⟩,Or.inl (Cq hx)⟩
 ·refine z9 (Ap hb a2 _) fun v c3 a3 ⟨w,e,u0,u1⟩=>?_
  subst e
  rw[zq,zn,zr,zn,zu,zn,zq,zn,zq,zF,zF]
  exact Aa a3 ⟨x,⟨m.pool,m.at',m.s,m.e,m.d,m.state,w,m.arg⟩,_,_,_,_,rfl,.inl rfl,.inl rfl,.inl rfl,.inl rfl,hs,⟨hm.fits,hm.len⟩,Or.inl (Cq hx)⟩
 ·refine z9 (abI hb a2 (p:=m.pool) (by omega)) fun v c3 a3 ⟨w,e,u0,u1⟩=>?_
  subst e
  rw[zq,zn,zr,zn,zu,zn,zq,zn,zq,zF,zF]
  exact Aa a3 ⟨x,⟨m.pool,m.at',m.s,m.e,m.d,m.state,m.ask,w⟩,_,_,_,_,rfl,.inl rfl,.inl rfl,.inl rfl,.inl rfl,hs,⟨hm.fits,hm.len⟩,Or.inl (Cq hx)⟩
 ·refine z9 (abI hb a2 (p:=m.pool) (by omega)) fun v c3 a3 ⟨w,e,u0,u1⟩=>?_
  subst e
  rw[zq,zn,zr,zn,zu,zn,zq,zn,zq,zF,zF]
  exact Aa a3 ⟨x,⟨m.pool,m.at',w,m.e,m.d,m.state,m.ask,m.arg⟩,_,_,_,_,rfl,.inl rfl,.inl rfl,.inl rfl,.inl rfl,hs,⟨hm.fits,hm.len⟩,Or.inl (Cq hx)⟩
 ·refine z9 (abI hb a2 (p:=m.pool) (by omega)) fun v c3 a3 ⟨w,e,u0,u1⟩=>?_
  subst e
  rw[zq,zn,zr,zn,zu,zn,zq,zn,zq,zF,zF]
  exact Aa a3 ⟨x,⟨m.pool,m.at',m.s,w,m.d,m.state,m.ask,m.arg⟩,_,_,_,_,rfl,.inl rfl,.inl rfl,.inl rfl,.inl rfl,hs,⟨hm.fits,hm.len⟩,Or.inl (Cq hx)⟩
 ·refine z9 (abI hb a2 (p:=m.pool) (by omega)) fun v c3 a3 ⟨w,e,u0,u1⟩=>?_
  subst e
  rw[zq,zn,zr,zn,zu,zn,zq,zn,zq,zF,zF]
  exact Aa a3 ⟨x,⟨m.pool,m.at',m.s,m.e,w,m.state,m.ask,m.arg⟩,_,_,_,_,rfl,.inl rfl,.inl rfl,.inl rfl,.inl rfl,hs,⟨hm.fits,hm.len⟩,Or.inl (Cq hx)⟩
 ·refine z9 (acl hb a2) fun v c3 a3 ⟨y,e,hy⟩=>?_
  subst e
  rw[yK,zn,zt,zn,zt,zn,zt,zF,zn,zr,zn,zu,zn,zq,zn,zq,zF,zF]
  exact Aa a3 ⟨y,m,_,_,_,_,rfl,.inr rfl,.inr rfl,.inr rfl,.inl rfl,hy,hm,Or.inr ⟨hy.lit,hy.alt,hm14⟩⟩
 ·refine z9 (abK hb a2) fun v c3 a3 ⟨p,e,hp,hpl⟩=>?_
  subst e
  rw[yK,zn,zt,zF,zn,zr,zn,zu,zn,zq,zn,zq,zF,zF]
  exact Aa a3 ⟨x,⟨p,m.at',m.s,m.e,m.d,m.state,m.ask,m.arg⟩,_,_,_,_,rfl,.inl rfl,.inl rfl,.inl rfl,.inr rfl,hs,⟨WT hp,aah hpl⟩,Or.inl (Cq hx)⟩
 ·exact Aa a2 ⟨x,m,_,_,_,_,rfl,.inl rfl,.inl rfl,.inl rfl,.inl rfl,hs,hm,Or.inl (Cq hx)⟩
theorem adA (hb:b.length<4611686018427387904){c:Int×Int}(h:BU b c):FG b (fun v=>∃n:Int,v=iN n) (V 53 [eC b c]):=by
 rw[QD]
 refine z9 (Ap hb h _) fun v c2 a2 ⟨n,e,n0,n1⟩=>?_
 subst e
 rw[zq,zn,zr,zn,zu,zn,zq,zn,zq,zF,zF]
 refine Au (fun _=>?_) fun _=>Au (fun _=>Aa a2 ⟨_,rfl⟩) fun _=>?_
 ·refine z9 (JV hb a2 [-1,0,1,2000,2001] (by simp)) fun v c4 a4 ⟨w,e,_⟩=>?_
  subst e
  rw[zq,zn,zr,zn,zu,zn,zq,zn,zq,zF,zF]
  exact Aa a4 ⟨w,rfl⟩
 ·refine z9 (Ap hb a2 _) fun v c4 a4 ⟨w,e,_⟩=>?_
  subst e
  rw[zq,zn,zr,zn,zu,zn,zq,zn,zq,zF,zF]
  exact Aa a4 ⟨w,rfl⟩
theorem acn (hb:b.length<4611686018427387904):∃(x:Cd) (m:Mc) (n:Int),V 13 [.rs (1,0) (b.map eB)]=some (.tup [eCd x,eMc m,iN n],[])/\SomeC x/\SomeM m/\afm x m:=by
 obtain⟨c,e,hc⟩:=aev hb
 have h:Got (fun v l=>l=[]/\∃(x:Cd) (m:Mc) (n:Int),v=.tup [eCd x,eMc m,iN n]/\SomeC x/\SomeM m/\afm x m) (V 13 [.rs (1,0) (b.map eB)]):=by
  rw[Rz]
  refine QE e ?_
  rw[zr,zn,zu,zn,zq,zn,zq,zF,zF]
  refine z9 (acm hb hc) fun v c1 a1 ⟨x,m,X1,X2,X3,Y,e,h1,h2,h3,h4,hx,hm,hro⟩=>?_
  subst e
  rw[yL,zn,yK,zn,Ql h1,zn,Ql h2,zn,Ql h3,zF,zn,yK,zn,Ql h4,zn,zq,zn,zq,zn,zq,zn,zq,zn,zq,zn,zq,zn,zq,zF,zF,zn,zr,zn,zu,zn,zq,zn,zq,zF,zF]
  refine z9 (adA hb a1) fun v c3 a3 ⟨n,e⟩=>?_
  subst e
  rw[zq,zn,zr,zn,zu,zn,zq,zn,zq,zF,zF]
  exact adK ⟨rfl,x,m,n,rfl,hx,hm,hro⟩
 obtain⟨v,l,e,rfl,x,m,n,rfl,hx,hm,hro⟩:=h
 exact⟨x,m,n,e,hx,hm,hro⟩
end
end
end Go.Eng
/-! a draw's code: its bytes -/
namespace Go.Eng
open Go.Proofs Go.Proofs.Tryz
set_option maxHeartbeats 4000000

set_option maxRecDepth 100000 in
theorem ace {x:D}(h:ShapeV prog 22 x):∃b:List Int,x=.rs (1,0) (b.map eB)/\b.length<4611686018427387904/\∀n∈b,0<=n/\n<=255:=by
 obtain⟨ys,hs,rfl⟩:=h
 obtain⟨bs,rfl,h1,h2⟩:=hs.slice Tryz.underlying22 (show zOf prog 5=some (1,0) by kernel_rfl)
 obtain⟨l,rfl,hl⟩:=uc (enc:=eB) (p:=fun n:Int=>0<=n/\n<=255) (ys:=bs) (fun x hx=>by
  obtain⟨ps,hs,rfl⟩:=h2 x hx
  obtain⟨n,rfl,hw⟩:=hs.int Tryz.underlying5
  exact⟨n,tV Tryz.underlying5,wf8 hw⟩)
 have hby:prog.bytesOf 5=1:=by kernel_rfl
 have hr:reachBytes=140737488351232:=rfl
 rw[hby,lnM]at h1
 exact⟨l,by rw[xM Tryz.underlying22],by omega,hl⟩
theorem af3 {b:List Int}(hb:b.length<4611686018427387000)(h8:∀n∈b,0<=n/\n<=255){i:Int}(h0:0<=i)(h1:i<1000):∃v:Int,V 16 [.rs (1,0) (b.map eB),iN i]=some (iN v,[])/\0<=v/\v<=255:=by
 rw[adC,lnM]
 by_cases h:i<(b.length:Int)
 ·obtain⟨x,hx⟩:=yM (l:=b) (i:=i.toNat) (by omega)
  obtain⟨x0,x1⟩:=h8 x (List.mem_of_getElem? hx)
  refine⟨x,?_,x0,x1⟩
  rw[y6 (decide_eq_true h),zJ (by simp only[ni,Bool.and_eq_true,decide_eq_true_eq];omega),zj hx]
  show (asI .u8 (D.int .u8 x) fun n1=>some (iN (w6 n1),([]:List D)))=_
  rw[zq,w64 (by omega) (by omega)]
 ·refine⟨Int.tmod (w6 (w6 (i*7)+ni b.length)) 256,?_,?_⟩
  ·rw[yp (decide_eq_false h),zJ (by decide)]
  ·rw[w64 (n:=i*7) (by omega) (by omega),w64 (n:=i*7+ni b.length) (by simp only[ni];omega) (by simp only[ni];omega)]
   have:0<=i*7+ni b.length:=by simp only[ni];omega
   rw[Int.tmod_eq_emod_of_nonneg this]
   omega
end Go.Eng
/-! when a machine is tidied never matters: the law -/
namespace Go.Eng
open Go.Proofs Go.Proofs.Tryz
set_option maxHeartbeats 4000000

noncomputable def aeo (c:Cd) (m:Mc):Prop:=∀y,c.list[m.at'.toNat]? = some y->y.op=1->0<=y.n->Lq c.pool y.n 23
noncomputable def Took2 (c:Cd) (N s:Nat) (m:Mc):Prop:=m.pool.length<=N+s/\(¬aeo c m->m.pool.length<=N)
theorem Took2.more {c:Cd}{N s d:Nat}{m:Mc}(h:Took2 c N s m):Took2 c (N+d) s m:=⟨by have:=h.1;omega,fun hn=>by have:=h.2 hn;omega⟩
structure Rm (c:Cd) (A s:Nat):Prop where
 a:24+s<=A
 big:(∀m,aeo c m)\/(64<=A+s/\Lit c 63/\Alt c)
theorem adO {c:Cd}{m m':Mc}(_:RunM c m){y:In}(hy:c.list[m.at'.toNat]? = some y)(h1:y.op=1)(he:doM c m=.ok m'):m'.at'=m.at'+1:=by
 unfold doM at he
 simp only[List.getD_eq_getElem?_getD,hy,Option.getD_some]at he
 rw[if_neg (by omega),if_neg (by omega)]at he
 unfold D7 at he
 rw[if_pos h1]at he
 unfold goM at he
 simp only at he
 split at he
 ·cases he;rfl
 ·cases he
theorem Took2.step {c:Cd}{N A s:Nat}(hR:Rm c A s){m:Mc}(ok:DG c m=true)(h:Took2 c N s m)(h0:m.state=0):Took2 c (N+A) s (Mr c m)/\∀n,doM c m=.ok n->n.pool.length<=N+A+s:=by
 obtain⟨hr,hc,_⟩:=J8 ok h0
 have hA:=hR.a
 obtain⟨h1,h2⟩:=h
 have key:∀n,doM c m=.ok n->Took2 c (N+A) s n:=by
  intro n he
  by_cases hn:aeo c m
  ·have:=aaT hn hr hc he
   exact⟨by omega,fun _=>by omega⟩
  ·rcases hR.big with hb|⟨hB,hL,hAlt⟩
   ·exact absurd (hb m) hn
   ·have:=aaT (fun y hy=>hL y (List.mem_of_getElem? hy)) hr hc he
    have:=h2 hn
    refine⟨by omega,fun hn'=>absurd (fun z hz hz1 hz0=>?_) hn'⟩
    refine Classical.byContradiction fun hz23=>hn fun y hy hy1 hy0=>?_
    have e:=adO hr hy hy1 he
    have e2:n.at'.toNat=m.at'.toNat+1:=by have:=(isPl_iff.1 hr.pl).1;omega
    rw[e2]at hz
    rcases hAlt _ y z hy hz hy1 hz1 with h|h
    ·exact h
    ·exact absurd h hz23
 have same:Took2 c (N+A) s m:=Took2.more ⟨h1,h2⟩
 refine⟨?_,fun n e=>(key n e).1⟩
 unfold Mr
 have fail:∀k,Took2 c (N+A) s (Po m k):=fun k=>⟨same.1,fun _=>by show m.pool.length<=_;omega⟩
 split
 ·exact fail _
 ·rename_i q e
  split
  ·exact key q e
  ·exact fail _
structure Tdd (c:Cd) (N s:Nat) (m m':Mc):Prop where
 ok:DG c m=true
 ok':DG c m'=true
 bi:∃ρ,BiT ρ m m'
 len:Took2 c N s m
 len':Took2 c N s m'
theorem Tdd.step {c:Cd}{N A s:Nat}(hR:Rm c A s){m m':Mc}(h:Tdd c N s m m')(hN:N+A+s<=3000):Tdd c (N+A) s (Mq c m) (Mq c m'):=by
 obtain⟨ok,ok',⟨ρ,hb⟩,l,l'⟩:=h
 unfold Mq
 rw[if_pos ok,if_pos ok',<-hb.state]
 by_cases h0:m.state=0
 ·rw[if_pos h0,if_pos h0]
  have h0':m'.state=0:=hb.state▸h0
  obtain⟨a1,a2⟩:=l.step hR ok h0
  obtain⟨b1,b2⟩:=l'.step hR ok' h0'
  exact⟨U5 ok h0,U5 ok' h0',ae3 hb ok ok' h0 (fun n e=>by have:=a2 n e;omega) (fun n e=>by have:=b2 n e;omega),a1,b1⟩
 ·rw[if_neg h0,if_neg h0]
  exact⟨ok,ok',⟨ρ,hb⟩,l.more,l'.more⟩
theorem ad8 (m:Mc):(EF m).at'=m.at':=by
 unfold EF
 split<;>rfl
theorem Tdd.tidy {c:Cd}{N s:Nat}{m m':Mc}(h:Tdd c N s m m'):Tdd c N s m (EF m'):=by
 obtain⟨ok,ok',⟨ρ,hb⟩,l,l'⟩:=h
 obtain⟨σ,hs⟩:=ab2 ok'
 have hl:=acZ m'
 refine⟨ok,ab3 ok',⟨_,hb.trans hs⟩,l,Nat.le_trans hl l'.1,fun hn=>Nat.le_trans hl (l'.2 fun hn'=>hn ?_)⟩
 unfold aeo at hn'⊢
 rw[ad8];exact hn'
theorem ad6 (s:ByteArray):kJ s s=true:=by rw[DK];simp
theorem U9 {b:List Int}(hb:b.length<4611686018427387000)(h8:∀n∈b,0<=n/\n<=255){x:Cd}(hx:FitsC x){A s N:Nat}(hR:Rm x A s)(hN:N+29*A+s<=3000)
  {v:Int} (hv:V 16 [.rs (1,0) (b.map eB),iN 1]=some (iN v,[])) (v0:0<=v) {n:Nat} (hn:Int.tmod v 30=(n:Int)) (h29:n<=29):∀(k i:Nat) (m m':Mc),i+k=n->Tdd x (N+i*A) s m m' ->
  Bm (b.map eB) (i:Int) (x.pool.map eN) (x.list.map eIn) (x.defs.map eDf) m.at' m.s m.e m.d m.state m.ask m.arg m'.at' m'.s m'.e m'.d m'.state m'.ask m'.arg (m.pool.map eN) (m'.pool.map eN)=some (.bool true,[])
 |0,i,m,m',hi,h=>by
  obtain⟨ok,ok',⟨ρ,hm⟩,_,_⟩:=h
  obtain⟨_,a2,a3,_⟩:=D5 ok
  obtain⟨_,b2,b3,_⟩:=D5 ok'
  have k1:=Kh hx (Fh a2) (by omega)
  have k2:=Kh hx (Fh b2) (by omega)
  unfold adW at k1 k2
  rw[if_pos ok,adV]at k1
  rw[if_pos ok',adV,<-hm.tidy ok ok']at k2
  rw[DU,Yx hv,zJ (by decide),yp (decide_eq_false (by omega)),Mh k1,Mh k2,zy,zy,ad6]
 |k+1,i,m,m',hi,h=>by
  obtain⟨_,a2,a3,_⟩:=D5 h.ok
  obtain⟨_,b2,b3,_⟩:=D5 h.ok'
  have k1:=Sr hx (Fh a2) (by omega)
  have k2:=Sr hx (Fh b2) (by omega)
  have hB:i*A+A<=29*A:=by
   have:=Nat.mul_le_mul_right A (show i+1<=29 by omega)
   rw[Nat.add_mul,Nat.one_mul]at this
   exact this
  have h2:=h.step hR (by omega)
  have eN':N+(i+1)*A=N+i*A+A:=by rw[Nat.add_mul,Nat.one_mul];omega
  obtain⟨_,c2,c3,_⟩:=D5 h2.ok'
  have k3:=Su (Fh c2) (by omega)
  obtain⟨w,hw,_,_⟩:=af3 hb h8 (i:=(i:Int)+2) (by omega) (by omega)
  have w2:w6 ((i:Int)+2)=(i:Int)+2:=w64 (by omega) (by omega)
  have w1:w6 ((i:Int)+1)=((i+1:Nat):Int):=z6 (by omega)
  have ih:=fun m'' h=>U9 hb h8 hx hR hN hv v0 hn h29 k (i+1) (Mq x m) m'' (by omega) h
  rw[eN']at ih
  rw[DU,Yx hv,zJ (by decide),y6 (decide_eq_true (by omega)),WC k1,WC k2,w2,Yx hw,zJ (by decide),w1]
  by_cases h3:Int.tmod w 3=0
  ·rw[y6 (zU h3),acB k3]
   exact ih _ h2.tidy
  ·rw[yp (zT h3)]
   exact ih _ h2
theorem acX (p0:List D)(p1:Int)(p2 p3 p4 p5:List D)(p6 p7 p8 p9 p10 p11 p12:Int)(p13:List D)(p14 p15 p16 p17 p18 p19 p20:Int):Gy p0 p1 p2 p3 p4 p5 p6 p7 p8 p9 p10 p11 p12 p13 p14 p15 p16 p17 p18 p19 p20=Bm p0 p1 p2 p3 p4 p6 p7 p8 p9 p10 p11 p12 p14 p15 p16 p17 p18 p19 p20 p5 p13:=by
 rw[Nv,DU]
theorem Yj {b:List Int}(hb:b.length<4611686018427387904)(h8:∀n∈b,0<=n/\n<=255):V 3 [.rs (1,0) (b.map eB)]=some (.bool true,[]):=by
 rw[TW,adS (af4 b)]
 cases hbig:decide ((b.length:Int)>1048576) with
 |true=>rfl
 |false=>
  have hbig:=of_decide_eq_false hbig
  obtain⟨x,m,steps,hd,hx,hm,hro⟩:=acn hb
  have hl:=hm.len
  have k1:=Ij hx.fits hm.fits (by omega)
  have k2:=Il hx.fits hm.fits (by omega)
  have hb1:∀o:Bool,(!(o==o))=false:=fun o=>by cases o<;>rfl
  obtain⟨v,hv,v0,v1⟩:=af3 (b:=b) (by omega) h8 (i:=1) (by omega) (by omega)
  rw[y0]
  refine (yx hd _).trans ?_
  rw[yL,zn,yK,zn,zp,zn,zp,zn,zp,zF,zn,yK,zn,zp,zn,zq,zn,zq,zn,zq,zn,zq,zn,zq,zn,zq,zn,zq,zF,zn,zq,zF,zF]
  try dsimp only
  rw[Og k1,GN k2,yp (hb1 _),GN k2]
  cases hok:DG x m with
  |false=>rw[Bool.not_false,zy]
  |true=>
   rw[Bool.not_true,y0,lnM]
   by_cases h2:ni m.pool.length>2000
   ·rw[y6 (decide_eq_true h2)]
   simp only[ni]at h2
   obtain⟨σ,hs⟩:=ab2 hok
   have hn:Int.tmod v 30=((v.toNat % 30:Nat):Int):=by rw[Int.tmod_eq_emod_of_nonneg v0];omega
   rw[yp (decide_eq_false (by simp only[ni];omega)),acX]
   have fst:Tdd x (m.pool.length+0*24) 0 m m/\Tdd x (m.pool.length+0*44) 20 m m:=⟨⟨hok,hok,⟨_,hs.trans hs.flip⟩,⟨by omega,fun _=>by omega⟩,⟨by omega,fun _=>by omega⟩⟩,⟨hok,hok,⟨_,hs.trans hs.flip⟩,⟨by omega,fun _=>by omega⟩,⟨by omega,fun _=>by omega⟩⟩⟩
   rcases hro with h23|⟨h63,hA,h14⟩
   ·exact U9 (A:=24) (s:=0) (N:=m.pool.length) (by omega) h8 hx.fits ⟨by omega,.inl fun _ y hy=>h23 y (List.mem_of_getElem? hy)⟩ (by omega) hv v0 hn (by omega) (v.toNat % 30) 0 m m (by omega) fst.1
   ·exact U9 (A:=44) (s:=20) (N:=m.pool.length) (by omega) h8 hx.fits ⟨by omega,.inr ⟨by omega,h63,hA⟩⟩ (by omega) hv v0 hn (by omega) (v.toNat % 30) 0 m m (by omega) fst.2
theorem Vl (xs:List D)(h:All2 (fun t x=>ShapeV Tryz.prog t x) Tryz.f3.params.toList xs):V 3 xs=some (.bool true,[]):=by
 rw[Tryz.params3]at h
 cases h with|cons h1 h=>
 cases h
 obtain⟨b,rfl,hb,h8⟩:=ace h1
 exact Yj hb h8
end Go.Eng
