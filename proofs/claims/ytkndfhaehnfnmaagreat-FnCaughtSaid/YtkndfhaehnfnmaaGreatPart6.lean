/- the program and the reference on plain data, part 6 -/
import Derived.Test.YtkndfhaehnfnmaaGreatPart5
import Derived.Test.YtkndfhaehnfnmaaGreatPart3
import Derived.Test.YtkndfhaehnfnmaaGreatPart4
/-! a step of a machine: the reference's side: instructions,steps,runs,answers -/
namespace Go.Eng
open Go.Proofs Go.Proofs.Tryz
set_option maxHeartbeats 4000000

theorem acd {q:List Nd}(hp:Ac q=true){v:Int}(hv:InP q v)(acc:List Nd)(d d':Int):Ce d q v acc=Ce d' q v acc:=by
 have h:=PI hp (EE hp [v]) (CT q [v]) d d' q.length [] [] acc rfl (bX _) (fun _ _=>rfl)
 unfold Ce
 refine Prod.ext h.1 ?_
 have:=h.2 v.toNat (GB (TU hv) v (by simp))
 simp only[aN]
 exact congrArg (fun o=>Option.getD o 0) this
theorem abX {q acc:List Nd}(hp:Ac q=true){v:Int}(hv:InP q v)(hc:acc.length+q.length<4294967296):V 96 [rP acc,eP q,iN v]=some (iN (Ce (-1) q v acc).2,[rP (Ce (-1) q v acc).1]):=by
 have h1:V 149 [eP q,.rs (1,0) [iN v]]=_:=YC hp (l:=[v]) (by simp) (TU hv)
 have h2:=abS (acc:=acc) hp (rs:=[v]) hc
 have hl:(Bc 0 q [v] acc).1.length=q.length:=by unfold Bc;rw[D5];simp
 rw[acd hp hv acc (-1) 0,ZJ,Sj h1,Ui h2,aa5 ⟨hv.1,by rw[hl];exact hv.2⟩]
 rfl

theorem ah6 {R:Type}(x:Df)(K:Int->Option R):(asAgg (eDf x) fun l=>dd l 1 fun y=>asI .i64 y fun n=>K n)=K x.at':=rfl
theorem ah7 {R:Type}(x:Df)(K:Int->Option R):(asAgg (eDf x) fun l=>dd l 2 fun y=>asI .i64 y fun n=>K n)=K x.args:=rfl
theorem abx {c:Cd}{x:In}{k:Int}(h:NA c x k=true)(h1:¬x.op=1)(h2:¬x.op=2)(h3:¬x.op=3)(h4:¬x.op=4)(h5:¬x.op=5)(h6:¬x.op=6)(h7:¬x.op=7)(h8:¬x.op=8):x.op=9:=by
 unfold NA at h
 rw[aD h1,aD h2,aD h3,aD (by omega),aD h6,aD h7]at h
 split at h
 ·omega
 ·cases h
theorem ac0 {c:Cd}(hf:FitsC c)(hc:Bu c=true){m:Mc}(hl:m.pool.length<4294967200)(s:ByteArray):SM c (V 217 [eCd c,eMo m,.str s]) (Kw c m s):=by
 have hd:=J0 hf s
 have c2:=(AU hc).2.1
 rw[VC,Wl hd]
 unfold Kw
 by_cases h0:0<=EW c s
 ·obtain⟨d,hg⟩:=Tg h0
  have hok:=TT hc hg
  unfold abw at hok
  simp only[aB]at hok
  have a1:=wi_iff.1 hok.2.2.1
  have a2:=wi_iff.1 hok.2.2.2
  have hlt:=aQ hg
  have h1:=AV (p:=m.pool) (by omega) ndN
  have h2:=AV (p:=m.pool++[ndN]) (by simp;omega) (ndF (8*d.at'+d.args) m.pool.length)
  have h3:=JZ (m:=⟨m.pool++[ndN]++[ndF (8*d.at'+d.args) m.pool.length],m.at',m.s,m.e,m.d,m.state,m.ask,m.arg⟩) (by simp;omega) (m.pool.length+1)
  have e1:w6 (w6 (8*d.at')+d.args)=8*d.at'+d.args:=by rw[w64 (n:=8*d.at') (by omega) (by omega),w64 (by omega) (by omega)]
  have e2:((m.pool++[ndN]).length:Int)=m.pool.length+1:=by simp
  rw[e2]at h2
  have hgr:(decide (0<=EW c s)&&decide (EW c s<ni (c.defs.map eDf).length))=true:=by rw[lnM];simp only[ni,aB,bL];omega
  rw[aG h0,y6 (bE h0),Ar h1,zJ hgr,zj hg,ah6,zJ hgr,zj hg,ah7]
  simp only[aN,hg,dX]
  rw[e1,Ar h2,CZ h3]
  rfl
 ·rw[aD h0,yp (bK h0)]
  have hp:=XM s
  have hb:=NC s
  rw[abp hp]
  by_cases hz:EO s=0
  ·rw[aG hz,y6 (zU hz)]
   exact AZ m (by decide) rfl
  ·have h1:=AV (p:=m.pool) (by omega) (ndR (EO s))
   have h3:=JZ (m:=⟨m.pool++[ndR (EO s)],m.at',m.s,m.e,m.d,m.state,m.ask,m.arg⟩) (by simp;omega) m.pool.length
   rw[aD hz,yp (zT hz),Ar h1,CZ h3]
   rfl
theorem afC {c:Cd}(_:c.list.length<=400){m:Mc}(hr:RunM c m)(hl:m.pool.length<=3000):SM c (V 220 [eMo m]) (Km c m):=by
 rw[Zz]
 unfold Km
 cases ht:D3 m with
 |none=>
  have h1:=LK hr.gm.s ht
  rw[CR h1]
  exact AZ m (by decide) rfl
 |some q=>
  obtain⟨v,m1⟩:=q
  have h1:=SI hr.gm.s ht
  obtain⟨g1,g2,g3,g4,g5,g6,g7,g8⟩:=D4 hr.gm ht
  rw[CR h1,aO,y0,FP g1.d]
  simp only
  by_cases k1:(nod m1.pool m1.d).kind=1
  ·rw[aG k1,y6 (zU k1)];rfl
  rw[aD k1,yp (zT k1)]
  by_cases k5:(nod m1.pool m1.d).kind=5
  ·rw[aD (fun h=>h k5),yp (zW k5)]
   have ha:=O9 g1.ok g1.d (.inl k5)
   have hfr:V 234 [eP m1.pool,iN (nod m1.pool m1.d).a,iN 3]=_:=YE g1.ok (by rw[g3];omega) ha (many:=3) (by omega)
   rw[Yc (by omega)]
   cases hq:OC m1.pool (nod m1.pool m1.d).a 3 with
   |none=>
    rw[hq]at hfr
    rw[FH hfr]
    exact AZ m1 (by decide) rfl
   |some nr=>
    obtain⟨n,r⟩:=nr
    rw[hq]at hfr
    have hlen:=VI (by omega) hq
    obtain⟨s,e,rfl⟩:∃s e,r=[s,e]:=by
     match r,hlen with
     |[s,e],_=>exact⟨s,e,rfl⟩
     |[],h=>simp at h
     |[_],h=>simp at h
     |_::_::_::_,h=>simp at h
    have a3:=JZ (m:=⟨m1.pool,n,s,e,(nod m1.pool m1.d).b,m1.state,m1.ask,m1.arg⟩) (by show m1.pool.length<_;rw[g3];omega) v
    by_cases h5:Cg c n=true
    ·simp only[h5,if_true]
     rw[FH hfr,aO,y0,BU,Ig,CZ a3]
     rfl
    ·have h5f:Cg c n=false:=by cases hz:Cg c n with|true=>exact absurd hz h5|false=>rfl
     simp only[h5f]
     refine .inr ⟨rfl,Jx ⟨m1.pool,n,s,e,(nod m1.pool m1.d).b,m1.state,m1.ask,m1.arg⟩ v,h5f,?_⟩
     rw[FH hfr,aO,y0,BU,Ig,CZ a3]
  ·rw[aG k5,y6 (zX k5)]
   exact AZ m1 (by decide) rfl
theorem aa6 {c:Cd}{n:Int}(h:Cg c n=false)(h0:0<=n):(c.list.length:Int)<=n:=by
 rcases Int.lt_or_le n c.list.length with h1|h1
 ·have:=isPl_iff.2 ⟨h0,(by omega:n<=(c.list.length:Int)-1)⟩
  rw[h]at this;cases this
 ·exact h1
theorem Uk {c:Cd}(hc:c.list.length<=400):∀(k:Nat){m:Mc}{acc:List Int},k+acc.length<=4->RunM c m->m.pool.length<=3000->(∀v∈acc,InP m.pool v) ->
  SM c (GW (m.at'+1) ((k:Int)-1) m.at' m.s m.e m.d m.state m.ask m.arg (c.pool.map eN) (c.list.map eIn) (c.defs.map eDf) ((List.replicate k 0++acc).map eI) (m.pool.map eN)) (if Cg c (m.at'+1)=false then .error 7 else match Ef (k+1) m with
   |none=>.error 7
   |some (l,m')=>Fh c 3 m' (l.getD k 0) ((l.take k).reverse++acc))
 |0,m,acc,hk,hr,hl,hv=>by
  have hpl:=isPl_iff.1 hr.pl
  rw[Ln,yp (bK (by omega))]
  simp only[Ef]
  cases ht:D3 m with
  |none=>
   have h1:=LK hr.gm.s ht
   rw[CR h1]
   simp only[ite_self]
   exact AZ m (by decide) rfl
  |some q=>
   obtain⟨v,m1⟩:=q
   have h1:=SI hr.gm.s ht
   obtain⟨g1,g2,g3,g4,g5,g6,g7,g8⟩:=D4 hr.gm ht
   rw[CR h1,aO,y0,lnM]
   simp only[dc,List.take_zero,List.reverse_nil,dA,List.replicate_zero]
   cases hp:Cg c (m.at'+1) with
   |false=>
    have:=aa6 hp (by omega)
    rw[aG rfl,y6 (bE (by simp only[ni];omega))]
    exact AZ m1 (by decide) rfl
   |true=>
    have:=isPl_iff.1 hp
    have hr1:RunM c m1:=⟨g1,g5.trans hr.st,g6.trans hr.ask,g7.trans hr.arg,by rw[g4];exact hr.pl⟩
    have hva:∀u∈acc,InP m1.pool u:=fun u hu=>by rw[g3];exact hv u hu
    have ha:=YD hc 3 hr1 (f:=v) (l:=acc) (by rw[g4];exact hp) (by rw[g3];omega) g2 hva (by omega) (Rk 3 hva (.inl (cB _)))
    rw[g4]at ha
    rw[aD (by simp),yp (bK (by simp only[ni];omega))]
    exact Pg ha (fun q m' hx=>by rw[Si hx])
 |k+1,m,acc,hk,hr,hl,hv=>by
  have e1:(((k+1:Nat):Int)-1)=(k:Int):=by omega
  rw[Ln,e1,y6 (bE (by omega))]
  rw[Ef]
  cases ht:D3 m with
  |none=>
   have h1:=LK hr.gm.s ht
   rw[CR h1]
   simp only[ite_self]
   exact AZ m (by decide) rfl
  |some q=>
   obtain⟨v,m1⟩:=q
   have h1:=SI hr.gm.s ht
   obtain⟨g1,g2,g3,g4,g5,g6,g7,g8⟩:=D4 hr.gm ht
   have ih:=Uk hc k (m:=m1) (acc:=v::acc) (by simp only[lnC];omega) ⟨g1,g5.trans hr.st,g6.trans hr.ask,g7.trans hr.arg,by rw[g4];exact hr.pl⟩ (by rw[g3];exact hl) (fun u hu=>by
    rcases bN.1 hu with rfl|hu
    ·exact g2
    ·rw[g3];exact hv u hu)
   rw[g4]at ih
   have ae:(List.replicate (k+1) (0:Int)++acc)[k]? = some 0:=by
    rw[cC (by simp)];simp
   have hset:List.set ((List.replicate (k+1) (0:Int)++acc).map eI) k (iN v)=(List.replicate k 0++v::acc).map eI:=by
    rw[<-List.map_set (f:=eI) (a:=v),List.replicate_succ',bD]
    simp
   rw[CR h1,aO,y0,zJ (by rw[lnM];exact zM (by simp only[lnA,List.length_replicate];omega)),bI,zj ae,zO,hset,w64 (n:=(k:Int)-1) (by omega) (by omega)]
   simp only
   cases ht2:Ef (k+1) m1 with
   |none=>rw[ht2]at ih;rw[g4] ;exact ih
   |some q2=>
    obtain⟨l2,m2⟩:=q2
    rw[ht2]at ih
    simp only[List.getD_cons_succ,List.take_succ_cons,List.reverse_cons,bD,List.singleton_append]
    rw[g4]
    exact ih
theorem abW {c:Cd}(hc:c.list.length<=400){m:Mc}(hr:RunM c m)(hl:m.pool.length<=3000){k:Int}(hk:0<=k/\k<=4):SM c (V 219 [eCd c,eMo m,iN k,iN (m.at'+1)]) (CY c m k.toNat):=by
 have h:=Uk hc k.toNat (m:=m) (acc:=[]) (by simp only[lnN];omega) hr hl (by simp)
 rw[ZA,zJ (by rw[qA];simp only[aB,bL];omega),w64 (n:=k-1) (by omega) (by omega)]
 rw[Int.toNat_of_nonneg hk.1,eK,List.map_replicate]at h
 unfold CY
 cases ht:Ef (k.toNat+1) m with
 |none=>rw[ht]at h;exact h
 |some q=>
  obtain⟨l,m'⟩:=q
  obtain⟨f1,f2,f3,f4,f5,f6,f7,f8,f9⟩:=J6 hr.gm ht
  rw[ht]at h
  simp only[eK]at h⊢
  obtain⟨l0,f,rfl⟩:∃l0 f,l=l0++[f]:=⟨l.dropLast,l.getLast (by intro e;subst e;simp at f3),(List.dropLast_concat_getLast _).symm⟩
  have e3:l0.length=k.toNat:=by simpa using f3
  have e4:(l0++[f]).getD k.toNat 0=f:=by rw[<-e3];simp
  have e5:(l0++[f]).take k.toNat=l0:=by rw[<-e3];simp
  rw[e4,e5]at h
  simp only[List.reverse_append,List.reverse_cons,List.reverse_nil,dA,List.singleton_append,dc,List.drop_one,List.tail_cons]
  exact h
theorem JX {c:Cd}{m:Mc}{n:Int}{X:Option Ret}(h:X=some (iN 0,[eMo ⟨m.pool,n,m.s,m.e,m.d,m.state,m.ask,m.arg⟩])):SM c X (goM c (.ok m) n):=by
 unfold goM
 cases hp:Cg c n with
 |false=>exact .inr ⟨rfl,_,hp,h⟩
 |true=>exact h
theorem ag3 {c:Cd}(hf:FitsC c)(hok:Bu c=true){m:Mc}(hr:RunM c m)(hl:m.pool.length<=3000){x:In}{k:Nat}(hx:c.list[k]? = some x):SM c (V 196 [eCd c,eMo m,eIn x]) (if x.op=7 then CY c m x.i.toNat else if x.op=8 then Km c m else EH c m x):=by
 obtain⟨c1,c2,c3⟩:=AU hok
 have cl:=Ak c1
 have hin:=IL hok hx
 have hat:=isPl_iff.1 hr.pl
 have w1:w6 (m.at'+1)=m.at'+1:=w64 (by omega) (by omega)
 rw[acs]
 by_cases h7:x.op=7
 ·rw[aG h7,yp (zT (by omega)),yp (zT (by omega)),yp (zT (by omega)),yp (zT (by omega)),yp (zT (by omega)),yp (zT (by omega)),y6 (zU h7),w1]
  exact Pg (abW c2 hr hl (PN hin h7)) (fun q m' hx=>by rw[abt hx])
 rw[aD h7]
 by_cases h8:x.op=8
 ·rw[aG h8,yp (zT (by omega)),yp (zT (by omega)),yp (zT (by omega)),yp (zT (by omega)),yp (zT (by omega)),yp (zT (by omega)),yp (zT (by omega)),y6 (zU h8)]
  exact Pg (afC c2 hr hl) (fun q m' hx=>by rw[abs hx])
 rw[aD h8]
 unfold EH
 by_cases h1:x.op=1
 ·have hlit:=Pe hin h1
  have f:=Jo c1 hr.gm.ok hlit (-1)
  obtain⟨f1,f2,t,f3,f4⟩:=f
  have hlen:=congrArg List.length f3
  rw[lnA]at hlen
  have h2:=abX (acc:=m.pool) c1 hlit (by omega)
  have h3:=JZ (m:=⟨(Ce (-1) c.pool x.n m.pool).1,m.at',m.s,m.e,m.d,m.state,m.ask,m.arg⟩) (by show(Ce (-1) c.pool x.n m.pool).1.length<_;omega) (Ce (-1) c.pool x.n m.pool).2
  rw[aG h1,y6 (zU h1),Uh h2,CZ h3,w1]
  exact JX rfl
 rw[aD h1,yp (zT h1)]
 by_cases h2:x.op=2
 ·have hv:=aby hin h2
  have hX:=adC hr.gm.ok hr.gm.e (n:=x.n) (by omega) (by omega)
  rw[aG h2,y6 (zU h2)]
  unfold UQ
  cases e1:JT m.pool x.n.toNat m.e with
  |none=>
   rw[e1]at hX
   rw[Ny hX]
   exact AZ m (by decide) rfl
  |some fr=>
   rw[e1]at hX
   have hY:=adC hr.gm.ok (Sb hr.gm.ok _ _ _ hr.gm.e e1) (n:=x.i) (by omega) (by omega)
   rw[Ny hX,aO,y0]
   simp only
   cases e2:JT m.pool x.i.toNat fr with
   |none=>
    rw[e2]at hY
    rw[Ny hY]
    exact AZ m (by decide) rfl
   |some v=>
    rw[e2]at hY
    have h3:=JZ (m:=m) (by omega) v
    rw[Ny hY,aO,y0,CZ h3,w1]
    exact JX rfl
 rw[aD h2,yp (zT h2)]
 by_cases h3:x.op=3
 ·have hX:=ac0 hf hok (m:=m) (by omega) x.s
  rw[aG h3,y6 (zU h3)]
  cases e:Kw c m x.s with
  |ok m'=>
   rw[e]at hX
   rw[Qq (Z8 hX),yp (zW rfl),w1]
   exact JX rfl
  |error q=>
   rw[e]at hX
   rcases Wv hX with ⟨q0,m',hx'⟩|⟨q7,m',hp,hx'⟩
   ·rw[Qq hx',y6 (zX q0)]
    exact AZ m' q0 rfl
   ·exfalso
    unfold Kw at e
    split at e
    ·cases e
    ·split at e
     ·cases e;omega
     ·cases e
 rw[aD h3,yp (zT h3)]
 by_cases h5:x.op=5
 ·rw[aG h5,yp (zT (by omega)),y6 (zU h5)]
  exact JX rfl
 rw[aD h5]
 by_cases h6:x.op=6
 ·have hfn:=Wu hin h6
  have a7:=AV (p:=m.pool) (by omega) (ndF (8*x.n+x.i) m.e)
  have a8:=JZ (m:=⟨m.pool++[ndF (8*x.n+x.i) m.e],m.at',m.s,m.e,m.d,m.state,m.ask,m.arg⟩) (by simp;omega) m.pool.length
  rw[aG h6,yp (zT (by omega)),yp (zT (by omega)),y6 (zU h6),w64 (n:=8*x.n) (by omega) (by omega),w64 (n:=8*x.n+x.i) (by omega) (by omega),Ar a7,CZ a8,w1]
  exact JX rfl
 rw[aD h6]
 cases ht:D3 m with
 |none=>
  have t1:=LK hr.gm.s ht
  by_cases h4:x.op=4
  ·rw[y6 (zU h4),CR t1]
   exact AZ m (by decide) rfl
  ·have h9:x.op=9:=abx hin h1 h2 h3 h4 h5 h6 h7 h8
   rw[yp (zT h4),yp (zT h5),yp (zT h6),yp (zT h7),yp (zT h8),y6 (zU h9),CR t1]
   exact AZ m (by decide) rfl
 |some q=>
  obtain⟨v,m1⟩:=q
  have hX:=SI hr.gm.s ht
  obtain⟨g1,g2,g3,g4,g5,g6,g7,g8⟩:=D4 hr.gm ht
  simp only
  by_cases h4:x.op=4
  ·rw[y6 (zU h4),CR hX,aO,y0,FP g2]
   by_cases k2:(nod m1.pool v).kind=2
   ·rw[y6 (zU k2)]
    by_cases k0:(nod m1.pool v).n=0
    ·rw[y6 (zU k0),aG ⟨h4,k2,k0⟩]
     exact JX rfl
    ·rw[yp (zT k0),aD (fun h=>k0 h.2.2),w1]
     exact JX rfl
   ·rw[yp (zT k2),aD (fun h=>k2 h.2.1),w1]
    exact JX rfl
  ·have h9:x.op=9:=abx hin h1 h2 h3 h4 h5 h6 h7 h8
   rw[yp (zT h4),yp (zT h5),yp (zT h6),yp (zT h7),yp (zT h8),y6 (zU h9),CR hX,aD (fun h=>h4 h.1),aO,y0,w1]
   exact JX rfl

theorem WW {m:Mc}(hl:m.pool.length<=4294967296)(q:Int):V 97 [eMc m,iN q]=some (oMc (RQ m q),[]):=by
 rw[ZG,Fq (PD hl)]
 rfl
theorem acL {c:Cd}{m:Mc}(h:Oj c m=true)(hc:0<c.list.length):Cg c m.at'=true:=by
 unfold Oj at h
 have z:Cg c 0=true:=isPl_iff.2 ⟨Int.le_refl _,by omega⟩
 split at h
 ·simp only[aB]at h;exact h.1
 split at h
 ·simp only[aB]at h;exact h.1
 split at h
 ·simp only[aB,beq_iff_eq]at h;rw[h.1];exact z
 split at h
 ·simp only[aB,beq_iff_eq]at h;rw[h.1];exact z
 ·cases h
theorem afD {c:Cd}(hf:FitsC c)(hok:Bu c=true){m:Mc}(hr:RunM c m)(hl:m.pool.length<=3000):V 153 [eCd c,eMc m]=some (oMc (Iz c m),[]):=by
 obtain⟨c1,c2,c3⟩:=AU hok
 have cl:=Ak c1
 obtain⟨x,hx⟩:=SA hr
 have hlt:=aQ hx
 have hat:=isPl_iff.1 hr.pl
 have hgd:c.list.getD m.at'.toNat ⟨0,0,0,⟨#[]⟩⟩=x:=by rw[aN,hx];rfl
 have hfail:=fun q=>WW (m:=m) (by omega) q
 have hdo:doM c m=if x.op=7 then CY c m x.i.toNat else if x.op=8 then Km c m else EH c m x:=by unfold doM;rw[hgd]
 have hX:=ag3 hf hok hr hl hx
 rw[<-hdo]at hX
 have hin:∀n:Int,V 62 [iN n,iN 0,iN (w6 (ni c.list.length-1))]=some (.bool (Cg c n),[]):=fun n=>by
  rw[w64 (n:=ni c.list.length-1) (by simp only[ni];omega) (by simp only[ni];omega)]
  exact Dg n 0 _
 rw[ZI,Fq (PD (by omega)),zJ (by rw[lnM];simp only[ni,aB,bL];omega),zj hx,ae7,lnM]
 unfold Iz
 cases e:doM c m with
 |ok m'=>
  rw[e]at hX
  obtain⟨g1,⟨t,g2,g3⟩,g4⟩:=Vi hok hr e
  have hlen:=congrArg List.length g2
  rw[lnA]at hlen
  rw[TP (Z8 hX),yp (zW rfl),Cq (hin m'.at'),acL g4 (by omega),aO,y0,lnM]
  simp only
  by_cases h3:m'.pool.length<=3000
  ·rw[yp (bK (by simp only[ni];omega)),aG h3]
  ·rw[y6 (bE (by simp only[ni];omega)),Js (hfail 6),aD h3]
 |error q=>
  rw[e]at hX
  simp only
  rcases Wv hX with ⟨q0,m',hx'⟩|⟨q7,m',hp,hx'⟩
  ·rw[TP hx',y6 (zX q0),Js (hfail q)]
  ·rw[TP hx',yp (zW rfl),Cq (hin m'.at'),hp,bO,zy,Js (hfail 7),q7]

theorem abY {c:Cd}(hf:FitsC c){m:Mc}(hm:Cu m.pool)(hl:m.pool.length<=4294967296):V 89 [eCd c,eMc m]=some (oMc (Ul c m),[]):=by
 have h1:=IW hf hm (by omega)
 rw[acn,Pd h1]
 unfold Ul
 cases h:CN c m with
 |false=>rw[bO,zy,aD (by simp)];rfl
 |true=>
  rw[aO,y0,aG rfl]
  by_cases h0:m.state=0
  ·obtain⟨r1,r2,r3⟩:=Jw h h0
   rw[yp (zW h0),abv (afD hf r2 r1 r3),aG h0]
  ·rw[y6 (zX h0),Fq (PD hl),aD h0]
theorem XL {c:Cd}(hf:FitsC c){m:Mc}(hm:Cu m.pool)(hl:m.pool.length<=4294967296){p:List Nd}(hp:Cu p)(hpl:p.length<4611686018427387904)(v:Int):V 32 [eCd c,eMc m,eP p,iN v]=some (oMc (Re c m p v),[]):=by
 have h1:=IW hf hm (by omega)
 have hcp:=PD hl
 rw[Za,Pd h1]
 unfold Re
 cases h:CN c m with
 |false=>rw[bO,zy,aD (by simp)];rfl
 |true=>
  obtain⟨r1,r2,r3,r4,r5,r6,r7⟩:=Gt h
  obtain⟨c1,c2,c3⟩:=AU r1
  rw[aO,y0,aG rfl]
  by_cases hs:m.state=1
  ·rw[yp (zW hs),Fm (CU hp hpl)]
   cases hpo:Ac p with
   |false=>rw[bO,zy,Fq hcp,aD (by simp)]
   |true=>
    rw[aO,y0,Nv (JY hpl v)]
    cases hv:wi v 0 ((p.length:Int)-1) with
    |false=>rw[bO,zy,Fq hcp,aD (by simp)]
    |true=>
     have hat:0<=m.at'/\m.at'<=1000:=by
      unfold Oj at r7
      rw[aD (by omega),aG hs]at r7
      simp only[aB]at r7
      have:=wi_iff.1 r7.1
      omega
     have hv':=wi_iff.1 hv
     have hin:InP p v:=⟨hv'.1,by omega⟩
     obtain⟨f1,f2,t,f3,f4⟩:=Jo hpo r2 hin (-1)
     have hlen:=congrArg List.length f3
     have hpl':=Ak hpo
     rw[lnA]at hlen
     have h2:=abX (acc:=m.pool) hpo hin (by omega)
     have h3:=JZ (m:=⟨(Ce (-1) p v m.pool).1,m.at',m.s,m.e,m.d,m.state,m.ask,m.arg⟩) (by show(Ce (-1) p v m.pool).1.length<_;omega) (Ce (-1) p v m.pool).2
     rw[aO,y0,aG ⟨hs,rfl,rfl⟩,Fq hcp,Uh h2,CZ h3,w64 (n:=m.at'+1) (by omega) (by omega),lnM,lnM]
     rw[show(Jx ⟨(Ce (-1) p v m.pool).1,m.at',m.s,m.e,m.d,m.state,m.ask,m.arg⟩ (Ce (-1) p v m.pool).2).pool.length=(aac m p v).pool.length from rfl]
     cases hp1:Cg c (m.at'+1) with
     |false=>
      have:=aa6 hp1 (by omega)
      rw[y6 (bE (by simp only[ni];omega)),Js (WW hl 7),aD (by simp)]
     |true=>
      have:=isPl_iff.1 hp1
      rw[yp (bK (by simp only[ni];omega)),aG rfl]
      by_cases h3k:(aac m p v).pool.length<=3000
      ·rw[yp (bK (by simp only[ni];omega)),aG h3k];rfl
      ·rw[y6 (bE (by simp only[ni];omega)),Js (WW hl 6),aD h3k]
  ·rw[y6 (zX hs),Fq hcp,aD (fun h=>hs h.1)]
end Go.Eng
/-! marks,equality,sizes and copies of nodes and numbers -/
namespace Go.Eng
open Go.Proofs Go.Proofs.Tryz
set_option maxHeartbeats 4000000

end Go.Eng
/-! sizes,copies and equality of what a law's arguments hold -/
namespace Go.Eng
open Go.Proofs Go.Proofs.Tryz
set_option maxHeartbeats 4000000

end Go.Eng
/-! a law's arguments: pools,code,machines,processes -/
namespace Go.Eng
open Go.Proofs Go.Proofs.Tryz
set_option maxHeartbeats 4000000
set_option maxRecDepth 100000

noncomputable def Lim (p:List Nd):Prop:=(∀x∈p,x.s.size<=140737488351232)/\p.length<=140737488351232
end Go.Eng
/-! machines as bytes,on both sides -/
namespace Go.Eng
noncomputable section
open Go.Proofs Go.Proofs.Tryz
set_option maxHeartbeats 4000000

def FM (l:List Int):List UInt8:=l.flatMap fun x=>AQ x.toNat
def U9 (l:List Int):Prop:=∀x∈l,0<=x/\x<4611686018427387904
theorem RU {p:List Nd}(hp:Ac p=true){l:List Int}(hs:U9 l)(hl:l.length<=1000)(a b c d e f g:Int):∀(k i:Nat)(out:List UInt8),i+k=l.length->out.length<=9*i ->
  DL (ni l.length) (i:Int) a b c d e f g (out.map eU) (l.map eI) (p.map eN)=some (.tup [.str (mk (out++FM (l.drop i)++Ik p)),.bool true],[])
 |0,i,out,hi,ho=>by
  have hpk:=VG hp
  rw[GF,cD (by omega)]
  simp (disch:=first|omega|(simp only[lnA,lnC,lnN,lnM,z8,yj];omega)) only[↓yk,yz,↓y0,↓zd,↓zF,↓zt,↓zO,zZ,zY,lnM,lnA,qA,yj,abV hp,zz,↓QW,FM,List.flatMap_nil,eK]
 |k+1,i,out,hi,ho=>by
  obtain⟨x,hx⟩:=yM (l:=l) (i:=i) (by omega)
  have hxs:=hs x (bT hx)
  have hlx:=Ay (n:=x.toNat) (by omega)
  have ih:=RU hp hs hl a b c d e f g k (i+1) (out++AQ x.toNat) (by omega) (by simp only[lnA];omega)
  have hw:w6 ((i:Int)+1)=((i+1:Nat):Int):=z6 (by omega)
  have en:out++FM (l.drop i)++Ik p=out++AQ x.toNat++FM (l.drop (i+1))++Ik p:=by
   rw[vc hx];simp[FM]
  have hn:=Bh hxs.1 hxs.2
  rw[en,GF]
  simp (disch:=first|omega|(simp only[lnA,lnC,lnN,lnM,z8,yj];omega)) only[↓yk,yz,↓zy,↓zd,↓zF,↓zq,↓zt,↓zO,↓zk,zZ,bP,lnM,lnA,qA,yj,↓zj hx,hn,zz,hw]
  exact ih
theorem SE {p:List Nd}(hp:Ac p=true){l:List Int}(hs:U9 l)(hl:l.length<=1000)(a b c d e f g:Int):∀(k i:Nat)(out:List UInt8),i+k=l.length->out.length<=9*i ->
  DP (i:Int) a b c d e f g (out.map eU) (l.map eI) (p.map eN)=some (.tup [.str (mk (out++FM (l.drop i)++Ik p)),.bool true],[])
 |0,i,out,hi,ho=>by
  have hpk:=VG hp
  rw[GN,cD (by omega)]
  simp (disch:=first|omega|(simp only[lnA,lnC,lnN,lnM,z8,yj];omega)) only[↓yk,yz,↓y0,↓zd,↓zF,↓zt,↓zO,zZ,zY,lnM,lnA,qA,yj,aen hp,zz,↓QW,FM,List.flatMap_nil,eK]
 |k+1,i,out,hi,ho=>by
  obtain⟨x,hx⟩:=yM (l:=l) (i:=i) (by omega)
  have hxs:=hs x (bT hx)
  have hlx:=Ay (n:=x.toNat) (by omega)
  have ih:=SE hp hs hl a b c d e f g k (i+1) (out++AQ x.toNat) (by omega) (by simp only[lnA];omega)
  have hw:w6 ((i:Int)+1)=((i+1:Nat):Int):=z6 (by omega)
  have en:out++FM (l.drop i)++Ik p=out++AQ x.toNat++FM (l.drop (i+1))++Ik p:=by
   rw[vc hx];simp[FM]
  have hn:=Bj hxs.1 hxs.2
  rw[en,GN]
  simp (disch:=first|omega|(simp only[lnA,lnC,lnN,lnM,z8,yj];omega)) only[↓yk,yz,↓zy,↓zd,↓zF,↓zq,↓zt,↓zO,↓zk,zZ,bP,lnM,lnA,qA,yj,↓zj hx,hn,zz,hw]
  exact ih
def JF (m:Mc):List Int:=[m.at',m.state,m.ask,m.s,m.e,m.d,m.arg]
def EZ (c:Cd)(m:Mc):Option (List UInt8):=if CN c m=true then some (FM (JF (Ai m))++Ik (Ai m).pool) else none
theorem PO {c:Cd}{m:Mc}(h:CN c m=true):U9 (JF m):=by
 obtain⟨hp,hr,h1,h2,h3,h4,h5,h6,h7,h8⟩:=Dd h
 have hlen:=Ak hp
 have hs:wi m.s 0 ((m.pool.length:Int)-1)=true/\wi m.e 0 ((m.pool.length:Int)-1)=true/\wi m.d 0 ((m.pool.length:Int)-1)=true:=by
  unfold CN JS at h
  simp only[aB]at h
  exact⟨h.2.2.1,h.2.2.2.1,h.2.2.2.2.1⟩
 have w1:=wi_iff.1 hs.1
 have w2:=wi_iff.1 hs.2.1
 have w3:=wi_iff.1 hs.2.2
 intro x hx
 simp only[JF,bN,dY,or_false]at hx
 omega
theorem Eh {c:Cd}(hf:FitsC c){m:Mc}(hm:Cu m.pool)(hl:m.pool.length<=4294967296):V 19 [eCd c,eMc m]=some (Qr (EZ c m),[]):=by
 have hok:=FJ hf hm (by omega)
 have ht:=Uo hm hl
 rw[Rv]
 unfold EZ
 cases h:CN c m with
 |false=>rw[h]at hok;simp (disch:=first|omega|(simp only[lnA,lnC,lnN,lnM,z8,yj];omega)) only[↓yk,yz,↓zy,↓zF,↓yZ,bO,hok];rfl
 |true=>
  rw[h]at hok
  have h2:=Je h
  have hlp:=RU (Dd h2).1 (PO h2) (by simp[JF]) (Ai m).at' (Ai m).s (Ai m).e (Ai m).d (Ai m).state (Ai m).ask (Ai m).arg 7 0 [] rfl (by simp)
  rw[eR,dA]at hlp
  simp (disch:=first|omega|(simp only[lnA,lnC,lnN,lnM,z8,yj];omega)) only[↓yk,yz,↓y0,↓zF,↓zn,↓zq,↓yZ,↓zt,↓yK,aO,yj,hok,ht]
  exact hlp
theorem QY {c:Cd}(hf:FitsC c){m:Mc}(hm:Cu m.pool)(hl:m.pool.length<=4294967296):V 20 [eCd c,eMc m]=some (Qr (EZ c m),[]):=by
 have hok:=IW hf hm (by omega)
 have ht:=abZ hm hl
 rw[RI]
 unfold EZ
 cases h:CN c m with
 |false=>rw[h]at hok;simp (disch:=first|omega|(simp only[lnA,lnC,lnN,lnM,z8,yj];omega)) only[↓yk,yz,↓zy,↓zF,↓yZ,bO,hok];rfl
 |true=>
  rw[h]at hok
  have h2:=Je h
  have hlp:=SE (Dd h2).1 (PO h2) (by simp[JF]) (Ai m).at' (Ai m).s (Ai m).e (Ai m).d (Ai m).state (Ai m).ask (Ai m).arg 7 0 [] rfl (by simp)
  rw[eR,dA]at hlp
  simp (disch:=first|omega|(simp only[lnA,lnC,lnN,lnM,z8,yj];omega)) only[↓yk,yz,↓y0,↓zF,↓zn,↓zq,↓yZ,↓zt,↓yK,aO,hok,ht]
  exact hlp
end
end Go.Eng
/-! nodes of bytes,on both sides -/
namespace Go.Eng
noncomputable section
open Go.Proofs Go.Proofs.Tryz
set_option maxHeartbeats 4000000

abbrev RS:=Nat×Bool
abbrev rO (b:List UInt8)(s:RS):D:=.op [.os (1,0) (b.map eU),iN (s.1:Int),.bool s.2]
def InB (b:List UInt8)(s:RS):Prop:=s.1<=b.length
def BC (b:List UInt8)(s:RS):Nat×RS:=match Nn 9 (b.drop s.1) with|some (v,c)=>(v,(s.1+c,s.2))|none=>(0,(s.1,false))
def acE (b:List UInt8)(s:RS):Nat×RS:=match Nn 9 (b.drop s.1) with|some (v,c)=>(match s.2 with|true=>(v,(s.1+c,true))|false=>(0,(s.1,false)))|none=>(0,(s.1,false))
def VO (b:List UInt8)(i:Nat):Option (List UInt8×Nat):=match Nn 9 (b.drop i) with|some (v,c)=>(if i+c+v<=b.length then some ((b.drop (i+c)).take v,i+c+v) else none)|none=>none
def Gv (b:List UInt8)(s:RS):List UInt8×RS:=match VO b s.1 with|some (t,i)=>(t,(i,s.2))|none=>([],(s.1,false))
def ahk (b:List UInt8)(s:RS):List UInt8×RS:=match VO b s.1 with|some (t,i)=>(t,(i,s.2))|none=>([],(0,false))
theorem aeZ (b:List UInt8)(i:Nat):VK b i 0 0=match Nn 9 (b.drop i) with|some (v,c)=>.tup [iN (v:Int),iN ((i+c:Nat):Int),.bool true] | none=>noN:=by
 unfold VK
 simp only[Nat.add_zero,Nat.sub_zero]
 cases Nn 9 (b.drop i) with
 |none=>rfl
 |some p=>simp
theorem ZM {b:List UInt8}{i v c:Nat}(h:Nn 9 (b.drop i)=some (v,c)):v<9223372036854775808/\i+c<=b.length/\1<=c:=by
 have h1:=VL 9 _ v c h
 rw[c8]at h1
 have e:(128:Nat) ^ 9=9223372036854775808:=rfl
 omega
section
variable {b:List UInt8}(hb:b.length<4611686018427387904)
include hb
theorem B9 {s:RS}(hs:InB b s):V 71 [rO b s]=some (iN ((BC b s).1:Int),[rO b (BC b s).2]):=by
 have h:=QA hb hs
 rw[aeZ]at h
 rw[Tn]
 unfold BC
 cases e:Nn 9 (b.drop s.1) with
 |none=>rw[e]at h;simp (disch:=first|omega|(simp only[lnA,lnC,lnN,lnM,z8,yj];omega)) only[↓yk,yz,↓zy,↓zF,↓zn,↓zq,↓yZ,↓yL,bO,h];rfl
 |some p=>obtain⟨v,c⟩:=p;rw[e]at h;simp (disch:=first|omega|(simp only[lnA,lnC,lnN,lnM,z8,yj];omega)) only[↓yk,yz,↓y0,↓zF,↓zn,↓zq,↓yZ,↓yL,aO,h]
def ae0 (r:Option (List UInt8×Nat)):D:=match r with|some (t,i)=>.tup [.str (mk t),iN (i:Int),.bool true] | none=>.tup [.str ⟨#[]⟩,iN 0,.bool false]
omit hb in
theorem ag9 (i v:Nat):xL (xK (b.map eU) ((i+v:Nat):Int)) (i:Int)=((b.drop i).take v).map eU:=by
 simp only[xL,xK,bI,<-List.map_take,<-List.map_drop]
 rw[List.drop_take]
 congr 2
 omega
theorem WO {i:Nat}(hi:i<=b.length):V 209 [.rs (1,0) (b.map eU),iN (i:Int)]=some (ae0 (VO b i),[]):=by
 have h:=QA hb hi
 rw[aeZ]at h
 rw[W7]
 unfold VO
 cases e:Nn 9 (b.drop i) with
 |none=>rw[e]at h;simp (disch:=first|omega|(simp only[lnA,lnC,lnN,lnM,z8,yj];omega)) only[↓yk,yz,↓zy,↓zF,↓zn,↓zq,↓yZ,↓yL,bO,h];rfl
 |some p=>
  obtain⟨v,c⟩:=p
  rw[e]at h
  have hle:=ZM e
  by_cases ht:i+c+v<=b.length
  ·have hc:=ag9 (b:=b) (i+c) v
   have hw:w6 (((i+c:Nat):Int)+(v:Int))=((i+c+v:Nat):Int):=by rw[w64 (by omega) (by omega)];omega
   have hk:df b.length (some ((i+c:Nat):Int)) (some ((i+c+v:Nat):Int))=true:=by
    simp only[df,aB,bL];omega
   simp only[aG ht]
   simp (disch:=first|omega|(simp only[lnA,lnC,lnN,lnM,z8,yj];omega)) only[↓yk,yz,↓y0,↓zd,↓zF,↓zn,↓zq,↓yZ,↓yL,zY,aO,lnM,wS,yj,h,hw,hk,hc,↓QW]
   rfl
  ·simp only[aD ht]
   simp (disch:=first|omega|(simp only[lnA,lnC,lnN,lnM,z8,yj];omega)) only[↓yk,yz,↓zy,↓y0,↓zF,↓zn,↓zq,↓yZ,↓yL,zZ,aO,lnM,wS,yj,h]
   rfl
theorem XK {s:RS}(hs:InB b s):V 190 [rO b s]=some (.str (mk (Gv b s).1),[rO b (Gv b s).2]):=by
 have h:=WO hb hs
 rw[RF]
 unfold Gv
 cases e:VO b s.1 with
 |none=>rw[e,ae0]at h;simp (disch:=first|omega|(simp only[lnA,lnC,lnN,lnM,z8,yj];omega)) only[↓yk,yz,↓zy,↓zF,↓zn,↓zq,↓yZ,↓zw,↓yL,bO,h];rfl
 |some p=>obtain⟨t,i⟩:=p;rw[e,ae0]at h;simp (disch:=first|omega|(simp only[lnA,lnC,lnN,lnM,z8,yj];omega)) only[↓yk,yz,↓y0,↓zF,↓zn,↓zq,↓yZ,↓zw,↓yL,aO,h]
omit hb in
theorem Gn {s:RS}(hs:InB b s):InB b (BC b s).2:=by
 unfold BC
 split
 ·rename_i v c e;exact(ZM e).2.1
 ·exact hs
omit hb in
theorem af2 {i j:Nat}{t:List UInt8}(h:VO b i=some (t,j)):j<=b.length:=by
 unfold VO at h
 split at h
 ·split at h
  ·cases h;assumption
  ·cases h
 ·cases h
omit hb in
theorem ae1 {i j:Nat}{t:List UInt8}(h:VO b i=some (t,j)):t.length<=b.length:=by
 unfold VO at h
 split at h
 ·split at h
  ·cases h;simp;omega
  ·cases h
 ·cases h
omit hb in
theorem adB {s:RS}(hs:InB b s):InB b (Gv b s).2:=by
 unfold Gv
 split
 ·rename_i t i e;exact af2 e
 ·exact hs
omit hb in
theorem adu (s:RS):(BC b s).1<9223372036854775808:=by
 unfold BC
 split
 ·rename_i v c e;exact(ZM e).1
 ·simp
end
abbrev nilS:ByteArray:=⟨#[]⟩
def Dk (num:RS->Nat×RS)(txt:RS->List UInt8×RS)(s:RS):Nd×RS:=
 if (num s).1=2\/(num s).1=8\/(num s).1=9 then (⟨(num s).1,(num (num s).2).1,nilS,0,0⟩,(num (num s).2).2)
 else if (num s).1=3 then (⟨(num s).1,(num (num s).2).1-1000000000,nilS,0,0⟩,(num (num s).2).2)
 else if (num s).1=4 then (⟨(num s).1,0,mk (txt (num s).2).1,0,0⟩,(txt (num s).2).2)
 else if (num s).1=5 then (⟨(num s).1,0,nilS,(num (num s).2).1,(num (num (num s).2).2).1⟩,(num (num (num s).2).2).2)
 else if (num s).1=6 then (⟨(num s).1,(num (num s).2).1,nilS,(num (num (num s).2).2).1,0⟩,(num (num (num s).2).2).2)
 else if (num s).1=7 then (⟨(num s).1,0,nilS,(num (num s).2).1,0⟩,(num (num s).2).2)
 else (⟨(num s).1,0,nilS,0,0⟩,(num s).2)
theorem abe {b:List UInt8}{num:RS->Nat×RS}{txt:RS->List UInt8×RS}(hn:∀s,InB b s->InB b (num s).2)(ht:∀s,InB b s->InB b (txt s).2){s:RS}(hs:InB b s):InB b (Dk num txt s).2:=by
 unfold Dk
 repeat' split
 all_goals (first|exact hn _ (hn _ (hn _ hs))|exact hn _ (hn _ hs)|exact ht _ (hn _ hs)|exact hn _ hs)
theorem QD {b:List UInt8}(hb:b.length<4611686018427387904){s:RS}(hs:InB b s):V 141 [rO b s]=some (eN (Dk (BC b) (Gv b) s).1,[rO b (Dk (BC b) (Gv b) s).2]):=by
 have h1:=B9 hb hs
 have i1:=Gn hs
 have h2:=B9 hb i1
 have i2:=Gn i1
 have h3:=B9 hb i2
 have h4:=XK hb i1
 have l2:=adu (b:=b) (BC b s).2
 have hw:w6 (((BC b (BC b s).2).1:Int)-1000000000)=((BC b (BC b s).2).1:Int)-1000000000:=afJ (by omega) (by omega)
 rw[RE]
 unfold Dk
 by_cases k2:(BC b s).1=2
 ·rw[aG (.inl k2)];simp (disch:=first|omega|(simp only[lnA,lnC,lnN,lnM,z8,yj];omega)) only[↓yk,yz,↓zy,↓zF,↓zn,↓zq,↓yZ,↓zt,↓zr,zU,h1,h2]
 by_cases k8:(BC b s).1=8
 ·rw[aG (.inr (.inl k8))];simp (disch:=first|omega|(simp only[lnA,lnC,lnN,lnM,z8,yj];omega)) only[↓yk,yz,↓zy,↓y0,↓zF,↓zn,↓zq,↓yZ,↓zt,↓zr,zU,zT,h1,h2]
 by_cases k9:(BC b s).1=9
 ·rw[aG (.inr (.inr k9))];simp (disch:=first|omega|(simp only[lnA,lnC,lnN,lnM,z8,yj];omega)) only[↓yk,yz,↓zy,↓y0,↓zF,↓zn,↓zq,↓yZ,↓zt,↓zr,zU,zT,h1,h2]
 rw[aD (by omega)]
 by_cases k3:(BC b s).1=3
 ·rw[aG k3];simp (disch:=first|omega|(simp only[lnA,lnC,lnN,lnM,z8,yj];omega)) only[↓yk,yz,↓zy,↓y0,↓zF,↓zn,↓zq,↓yZ,↓zt,↓zr,zU,zT,h1,h2,hw]
 rw[aD k3]
 by_cases k4:(BC b s).1=4
 ·rw[aG k4];simp (disch:=first|omega|(simp only[lnA,lnC,lnN,lnM,z8,yj];omega)) only[↓yk,yz,↓zy,↓y0,↓zF,↓zn,↓zq,↓yZ,↓zw,↓zt,↓zr,zU,zT,h1,h4]
 rw[aD k4]
 by_cases k5:(BC b s).1=5
 ·rw[aG k5];simp (disch:=first|omega|(simp only[lnA,lnC,lnN,lnM,z8,yj];omega)) only[↓yk,yz,↓zy,↓y0,↓zF,↓zn,↓zq,↓yZ,↓zt,↓zr,zU,zT,h1,h2,h3]
 rw[aD k5]
 by_cases k6:(BC b s).1=6
 ·rw[aG k6];simp (disch:=first|omega|(simp only[lnA,lnC,lnN,lnM,z8,yj];omega)) only[↓yk,yz,↓zy,↓y0,↓zF,↓zn,↓zq,↓yZ,↓zt,↓zr,zU,zT,h1,h2,h3]
 rw[aD k6]
 by_cases k7:(BC b s).1=7
 ·rw[aG k7];simp (disch:=first|omega|(simp only[lnA,lnC,lnN,lnM,z8,yj];omega)) only[↓yk,yz,↓zy,↓y0,↓zF,↓zn,↓zq,↓yZ,↓zt,↓zr,zU,zT,h1,h2]
 rw[aD k7]
 simp (disch:=first|omega|(simp only[lnA,lnC,lnN,lnM,z8,yj];omega)) only[↓yk,yz,↓y0,↓zF,↓zn,↓zq,↓yZ,↓zt,↓zr,zT,h1]

def goI (b:List UInt8)(cnt:Nat):Nat->Nat->RS->List Nd->List Nd×RS
 |0,_,s,p=>(p,s)
 |k+1,i,s,p=>if i<cnt/\s.2=true/\i<=3000 then goI b cnt k (i+1) (Dk (BC b) (Gv b) s).2 (p++[(Dk (BC b) (Gv b) s).1]) else (p,s)
def goS (b:List UInt8)(cnt:Nat):Nat->Nat->RS->List Nd->List Nd×RS
 |0,_,s,p=>(p,s)
 |k+1,i,s,p=>if i<cnt/\s.2=true then goS b cnt k (i+1) (Dk (acE b) (ahk b) s).2 (p++[(Dk (acE b) (ahk b) s).1]) else (p,s)
theorem agn (p:List Nd)(x:Nd):p.map eN++[D.agg [iN x.kind,iN x.n,.str x.s,iN x.a,iN x.b]]=(p++[x]).map eN:=by simp
theorem aa3 {b:List UInt8}(hb:b.length<4611686018427387904)(cnt:Nat)(hcnt:cnt<9223372036854775808):∀(k i:Nat)(s:RS)(p:List Nd),i+k=3002->InB b s->p.length<=i ->
  BW (cnt:Int) (i:Int) (s.1:Int) s.2 (b.map eU) (p.map eN)=some (oP (goI b cnt k i s p).1,[rO b (goI b cnt k i s p).2])
 |0,i,s,p,hi,hs,hp=>by
  rw[FK]
  obtain⟨a,o⟩:=s
  simp only[goI]
  cases h1:decide ((i:Int)<(cnt:Int)) with
  |false=>rfl
  |true=>
   cases o with
   |false=>rfl
   |true=>simp (disch:=first|omega|(simp only[lnA,lnC,lnN,lnM,z8,yj];omega)) only[↓zy,↓y0,zY]
 |k+1,i,s,p,hi,hs,hp=>by
  obtain⟨a,o⟩:=s
  have hn:=QD hb hs
  have hin:=abe (fun s h=>Gn h) (fun s h=>adB h) hs
  rw[FK]
  simp only[goI]
  by_cases h1:i<cnt
  ·cases o with
   |false=>rw[aD (by simp)];simp (disch:=first|omega|(simp only[lnA,lnC,lnN,lnM,z8,yj];omega)) only[↓zy,↓y0,zZ]
   |true=>
    by_cases h3:i<=3000
    ·have ih:=aa3 hb cnt hcnt k (i+1) _ (p++[(Dk (BC b) (Gv b) (a,true)).1]) (by omega) hin (by simp;omega)
     have hw:w6 ((i:Int)+1)=((i+1:Nat):Int):=z6 (by omega)
     rw[aG ⟨h1,rfl,h3⟩]
     simp (disch:=first|omega|(simp only[lnA,lnC,lnN,lnM,z8,yj];omega)) only[↓yk,yz,↓zy,↓zd,↓zF,↓zn,↓zq,↓yZ,↓zw,↓zt,↓yK,↓zr,↓zO,zZ,lnM,lnA,lnC,lnN,qA,yj,hn,agn,hw]
     exact ih
    ·rw[aD (fun h=>h3 h.2.2)];simp (disch:=first|omega|(simp only[lnA,lnC,lnN,lnM,z8,yj];omega)) only[↓zy,↓y0,zZ,zY]
  ·rw[aD (fun h=>h1 h.1)];simp (disch:=first|omega|(simp only[lnA,lnC,lnN,lnM,z8,yj];omega)) only[↓y0,zY]
def Dl (b:List UInt8)(s:RS):List Nd×RS:=goI b (BC b s).1 3002 0 (BC b s).2 []
theorem WV {b:List UInt8}(hb:b.length<4611686018427387904){s:RS}(hs:InB b s):V 72 [rO b s]=some (oP (Dl b s).1,[rO b (Dl b s).2]):=by
 have h1:=B9 hb hs
 have i1:=Gn hs
 have l1:=adu (b:=b) s
 rw[QM]
 unfold Dl
 generalize BC b s=m at *
 obtain⟨cnt,s⟩:=m
 have hn:=QD hb i1
 have hin:=abe (fun s h=>Gn h) (fun s h=>adB h) i1
 have ih:=aa3 hb cnt l1 3001 1 _ [(Dk (BC b) (Gv b) s).1] (by omega) hin (by simp)
 have e:goI b cnt 3002 0 s []=if 0<cnt/\s.2=true/\0<=3000 then goI b cnt 3001 1 (Dk (BC b) (Gv b) s).2 [(Dk (BC b) (Gv b) s).1] else ([],s):=rfl
 rw[e]
 obtain⟨a,o⟩:=s
 have hf:Fc (cnt:Int) 0 (a:Int) o (b.map eU)=some (oP (if 0<cnt/\(a,o).2=true/\0<=3000 then goI b cnt 3001 1 (Dk (BC b) (Gv b) (a,o)).2 [(Dk (BC b) (Gv b) (a,o)).1] else ([],(a,o))).1,[rO b (if 0<cnt/\(a,o).2=true/\0<=3000 then goI b cnt 3001 1 (Dk (BC b) (Gv b) (a,o)).2 [(Dk (BC b) (Gv b) (a,o)).1] else ([],(a,o))).2]):=by
  rw[Mh]
  by_cases hz:0<cnt
  ·cases o with
   |false=>rw[aD (by simp)];simp (disch:=first|omega|(simp only[lnA,lnC,lnN,lnM,z8,yj];omega)) only[↓zy,↓y0,zZ];rfl
   |true=>
    rw[aG ⟨hz,rfl,by omega⟩]
    have hw:w6 ((0:Int)+1)=1:=by decide
    have ih':BW (cnt:Int) 1 ((Dk (BC b) (Gv b) (a,true)).2.1:Int) (Dk (BC b) (Gv b) (a,true)).2.2 (b.map eU) [D.agg [iN (Dk (BC b) (Gv b) (a,true)).1.kind,iN (Dk (BC b) (Gv b) (a,true)).1.n,.str (Dk (BC b) (Gv b) (a,true)).1.s,iN (Dk (BC b) (Gv b) (a,true)).1.a,iN (Dk (BC b) (Gv b) (a,true)).1.b]]=_:=ih
    simp (disch:=first|omega|(simp only[lnA,lnC,lnN,lnM,z8,yj];omega)) only[↓yk,yz,↓zy,↓zd,↓zF,↓zn,↓zq,↓yZ,↓zw,↓zt,↓yK,↓zr,Int.reduceAdd,zZ,qA,wS,yj,hn]
    exact ih'
  ·rw[aD (fun h=>hz h.1)];simp (disch:=first|omega|(simp only[lnA,lnC,lnN,lnM,z8,yj];omega)) only[↓y0,zY];rfl
 simp (disch:=first|omega|(simp only[lnA,lnC,lnN,lnM,z8,yj];omega)) only[↓yk,yz,↓zF,↓zn,↓zq,↓yZ,↓zt,↓zr,h1]
 exact hf
end
end Go.Eng
/-! nodes of bytes: the reference's side,and what both come to -/
namespace Go.Eng
open Go.Proofs Go.Proofs.Tryz
set_option maxHeartbeats 4000000

noncomputable def agx (b:List UInt8) (r:List Nd×RS):List Nd×RS:=(r.1,(r.2.1,r.2.2&&(decide (r.2.1=b.length)&&Ac r.1)))
theorem af0 {p:List Nd}{n:Nat}(hn:n<4611686018427387904)(h:∀x∈p,x.s.size<=n):Cu p:=fun x hx=>by have:=h x hx;omega
theorem afg {b:List UInt8}{num:RS->Nat×RS}{txt:RS->List UInt8×RS}(ht:∀s,(txt s).1.length<=b.length)(s:RS):(Dk num txt s).1.s.size<=b.length:=by
 unfold Dk
 have h0:nilS.size<=b.length:=by show 0<=_;omega
 repeat' split
 all_goals (first|exact h0|(show(mk _).size<=_;rw[z8];exact ht _))
theorem afu {b:List UInt8}(s:RS):(Gv b s).1.length<=b.length:=by
 unfold Gv
 split
 ·rename_i t i e;exact ae1 e
 ·simp
noncomputable def agR (b:List UInt8) (s:RS):List Nd×RS:=
 if (acE b s).1>3000 then agx b ([],((acE b s).2.1,false)) else agx b (goS b (acE b s).1 3001 0 (acE b s).2 [])
end Go.Eng
/-! a value read of bytes: both sides come to the same -/
namespace Go.Eng
open Go.Proofs Go.Proofs.Tryz
set_option maxHeartbeats 4000000

theorem VN:∀(f n:Nat)(rest:List UInt8),n<128 ^ (f+1)->(n=0->8<=f)->Nn (f+1) (AQ n++rest)=some (n,(AQ n).length)
 |f,n,rest,hn,h0=>by
  by_cases h:n<=127
  ·rw[IQ h]
   have e:(UInt8.ofNat n).toNat=n:=by simp;omega
   simp only[List.cons_append,dA,Nn,e]
   rw[aG (by omega),aD (by omega)];rfl
  ·rw[Ph h]
   have e:(UInt8.ofNat (n % 128+128)).toNat=n % 128+128:=by simp;omega
   cases f with
   |zero=>simp at hn;omega
   |succ f=>
   have ih:=VN f (n / 128) rest (by rw[Nat.pow_succ]at hn;omega) (fun h=>by omega)
   simp only[List.cons_append,Nn,e]
   rw[aD (by omega)]
   rw[show Nn (f+1) (AQ (n / 128)++rest)=some (n / 128,(AQ (n / 128)).length) from ih]
   have e1:(n % 128+128) % 128+128*(n / 128)=n:=by omega
   simp only[e1,lnC]
theorem IG {b l rest:List UInt8}{i:Nat}(h:b.drop i=l++rest):b.drop (i+l.length)=rest:=by
 rw[<-List.drop_drop,h,List.drop_left]
theorem Ez {b:List UInt8}{s:RS}{n:Nat}{rest:List UInt8}(hn:n<9223372036854775808)(h:b.drop s.1=AQ n++rest):BC b s=(n,(s.1+(AQ n).length,s.2)):=by
 have e:(128:Nat) ^ (8+1)=9223372036854775808:=rfl
 have:=VN 8 n rest (by omega) (fun _=>cB _)
 unfold BC
 rw[h,this]
theorem ae2 {b:List UInt8}{i:Nat}{t rest:List UInt8}(hn:t.length<4611686018427387904)(h:b.drop i=Sm t++rest):VO b i=some (t,i+(Sm t).length):=by
 have e:(128:Nat) ^ (8+1)=9223372036854775808:=rfl
 rw[Sm,bD]at h
 have h1:=VN 8 t.length (t++rest) (by omega) (fun _=>cB _)
 have h2:=IG h
 have hl:(b.drop i).length=(AQ t.length).length+(t.length+rest.length):=by rw[h];simp
 rw[c8]at hl
 have hp:=Ay hn
 have hi:(AQ t.length).length>=1:=by
  by_cases c:t.length<=127
  ·rw[IQ c];simp
  ·rw[Ph c];simp
 unfold VO
 rw[h,h1]
 simp only
 rw[aG (by omega),h2,List.take_left]
 simp only[Sm,lnA,Nat.add_assoc]
theorem afv {b:List UInt8}{s:RS}{t rest:List UInt8}(hn:t.length<4611686018427387904)(h:b.drop s.1=Sm t++rest):Gv b s=(t,(s.1+(Sm t).length,s.2)):=by
 unfold Gv
 rw[ae2 hn h]
theorem O8 {s:ByteArray}(h:s.size=0):s=nilS:=by
 apply ByteArray.ext
 have:s.data.size=0:=h
 exact Array.eq_empty_of_size_eq_zero this
theorem ad0 {b:List UInt8}{s:RS}{x:Nd}{i:Nat}(hi:i<=3000)(ho:okN x i=true){rest:List UInt8}(h:b.drop s.1=Cr x++rest):Dk (BC b) (Gv b) s=(x,(s.1+(Cr x).length,s.2)):=by
 obtain⟨k1,k9,n3,n9,n0,a0,a1,b0,b1,s4⟩:=PP ho
 obtain⟨kd,n,sx,a,c⟩:=x
 simp only at k1 k9 n3 n9 n0 a0 a1 b0 b1 s4
 obtain⟨k,rfl⟩:=cP (show 0<=kd by omega)
 obtain⟨a,rfl⟩:=cP a0
 obtain⟨c,rfl⟩:=cP b0
 have hk:k=1\/k=2\/k=3\/k=4\/k=5\/k=6\/k=7\/k=8\/k=9:=by omega
 have hd:∃r2,b.drop s.1=AQ k++r2:=by
  rw[h];unfold Cr;exact⟨_,by rw[bD];rfl⟩
 obtain⟨r2,hr2⟩:=hd
 have hn1:=Ez (by omega) hr2
 have hr:=IG hr2
 have er:Cr ⟨(k:Int),n,sx,(a:Int),(c:Int)⟩++rest=AQ k++r2:=by rw[<-h,hr2]
 unfold Dk
 rw[hn1]
 simp only
 rcases hk with e|e|e|e|e|e|e|e|e<;>subst e
 ·
  have hs:=O8 (NB ho (by simp))
  simp[okN,wi]at ho
  rw[ZZ rfl]at er⊢
  simp
  refine⟨by omega,hs.symm,by omega,by omega⟩
 ·have hs:=O8 (NB ho (by simp))
  simp[okN,wi]at ho
  obtain⟨m,rfl⟩:=cP (show 0<=n by omega)
  rw[Gl (.inl rfl),bD]at er
  have er2:=List.append_cancel_left er
  have h2:=Ez (b:=b) (s:=(s.1+(AQ 2).length,s.2)) (n:=m) (rest:=rest) (by omega) (by rw[hr,<-er2];rfl)
  rw[h2,Gl (.inl rfl)]
  simp
  refine⟨⟨hs.symm,by omega,by omega⟩,by omega⟩
 ·have hs:=O8 (NB ho (by simp))
  simp[okN,wi]at ho
  obtain⟨m,hm⟩:=cP (show 0<=n+1000000000 by omega)
  rw[UW rfl,bD]at er
  have er2:=List.append_cancel_left er
  have h2:=Ez (b:=b) (s:=(s.1+(AQ 3).length,s.2)) (n:=m) (rest:=rest) (by omega) (by rw[hr,<-er2,hm];rfl)
  rw[h2,UW rfl]
  simp
  refine⟨⟨by omega,hs.symm,by omega,by omega⟩,by rw[hm];simp;omega⟩
 ·have hz:sx.data.toList.length=sx.size:=SU sx
  simp[okN,wi]at ho
  rw[UX rfl,bD]at er
  have er2:=List.append_cancel_left er
  have h2:=afv (b:=b) (s:=(s.1+(AQ 4).length,s.2)) (t:=sx.data.toList) (rest:=rest) (by omega) (by rw[hr,<-er2])
  rw[h2,UX rfl]
  simp[VZ]
  refine⟨⟨by omega,by omega,by omega⟩,by omega⟩
 ·have hs:=O8 (NB ho (by simp))
  simp[okN,wi]at ho
  rw[UY rfl,bD,bD]at er
  have er2:=List.append_cancel_left er
  have h2:=Ez (b:=b) (s:=(s.1+(AQ 5).length,s.2)) (n:=a) (rest:=AQ c++rest) (by omega) (by rw[hr,<-er2];rfl)
  have hr3:=IG (b:=b) (i:=s.1+(AQ 5).length) (l:=AQ a) (rest:=AQ c++rest) (by rw[hr,<-er2];rfl)
  have h3:=Ez (b:=b) (s:=(s.1+(AQ 5).length+(AQ a).length,s.2)) (n:=c) (rest:=rest) (by omega) hr3
  rw[h2]
  simp only
  rw[h3,UY rfl]
  simp
  refine⟨⟨by omega,hs.symm⟩,by omega⟩
 ·have hs:=O8 (NB ho (by simp))
  simp[okN,wi]at ho
  obtain⟨m,rfl⟩:=cP (show 0<=n by omega)
  rw[UZ rfl,bD,bD]at er
  have er2:=List.append_cancel_left er
  have h2:=Ez (b:=b) (s:=(s.1+(AQ 6).length,s.2)) (n:=m) (rest:=AQ a++rest) (by omega) (by rw[hr,<-er2];rfl)
  have hr3:=IG (b:=b) (i:=s.1+(AQ 6).length) (l:=AQ m) (rest:=AQ a++rest) (by rw[hr,<-er2];rfl)
  have h3:=Ez (b:=b) (s:=(s.1+(AQ 6).length+(AQ m).length,s.2)) (n:=a) (rest:=rest) (by omega) hr3
  rw[h2]
  simp only
  rw[h3,UZ rfl]
  simp
  refine⟨⟨hs.symm,by omega⟩,by omega⟩
 ·have hs:=O8 (NB ho (by simp))
  simp[okN,wi]at ho
  rw[U3 rfl,bD]at er
  have er2:=List.append_cancel_left er
  have h2:=Ez (b:=b) (s:=(s.1+(AQ 7).length,s.2)) (n:=a) (rest:=rest) (by omega) (by rw[hr,<-er2];rfl)
  rw[h2,U3 rfl]
  simp
  refine⟨⟨by omega,hs.symm,by omega⟩,by omega⟩
 ·have hs:=O8 (NB ho (by simp))
  simp[okN,wi]at ho
  obtain⟨m,rfl⟩:=cP (show 0<=n by omega)
  rw[Gl (.inr (.inl rfl)),bD]at er
  have er2:=List.append_cancel_left er
  have h2:=Ez (b:=b) (s:=(s.1+(AQ 8).length,s.2)) (n:=m) (rest:=rest) (by omega) (by rw[hr,<-er2];rfl)
  rw[h2,Gl (.inr (.inl rfl))]
  simp
  refine⟨⟨hs.symm,by omega,by omega⟩,by omega⟩
 ·have hs:=O8 (NB ho (by simp))
  simp[okN,wi]at ho
  obtain⟨m,rfl⟩:=cP (show 0<=n by omega)
  rw[Gl (.inr (.inr rfl)),bD]at er
  have er2:=List.append_cancel_left er
  have h2:=Ez (b:=b) (s:=(s.1+(AQ 9).length,s.2)) (n:=m) (rest:=rest) (by omega) (by rw[hr,<-er2];rfl)
  rw[h2,Gl (.inr (.inr rfl))]
  simp
  refine⟨⟨hs.symm,by omega,by omega⟩,by omega⟩
end Go.Eng
/-! a value read of bytes: both sides come to the same -/
namespace Go.Eng
open Go.Proofs Go.Proofs.Tryz
set_option maxHeartbeats 4000000

theorem adh {b:List UInt8}{p:List Nd}(hp:Ac p=true){rest:List UInt8}{o:Bool}(ho:o=true):∀(k i a:Nat),i+k=3002->i<=p.length->b.drop a=(p.drop i).flatMap Cr++rest->goI b p.length k i (a,o) (p.take i)=(p,(a+((p.drop i).flatMap Cr).length,o))
 |0,i,a,hi,hl,h=>by have:=Ak hp;omega
 |k+1,i,a,hi,hl,h=>by
  have hlen:=Ak hp
  rw[goI]
  by_cases h1:i<p.length
  ·obtain⟨x,hx⟩:=yM h1
   rw[aG ⟨h1,ho,by omega⟩]
   rw[vc hx,eJ,bD]at h
   have hn:=ad0 (b:=b) (s:=(a,o)) (i:=i) (by omega) (De hp hx) h
   have h2:=IG h
   rw[hn]
   simp only
   rw[<-zD hx,adh hp ho k (i+1) (a+(Cr x).length) (by omega) (by omega) h2,vc hx,eJ,lnA,Nat.add_assoc]
  ·rw[aD (fun h=>h1 h.1)]
   have:i=p.length:=by omega
   subst this
   rw[List.take_length,List.drop_length];rfl
theorem acB {b rest:List UInt8}{a:Nat}{p:List Nd}(hp:Ac p=true)(h:b.drop a=Ik p++rest):Dl b (a,true)=(p,(a+(Ik p).length,true)):=by
 have hlen:=Ak hp
 rw[Ik,bD]at h
 have h1:=Ez (b:=b) (s:=(a,true)) (n:=p.length) (by omega) h
 have h2:=IG h
 unfold Dl
 rw[h1]
 have:=adh (b:=b) hp (rest:=rest) (o:=true) rfl 3002 0 (a+(AQ p.length).length) (by omega) (Nat.zero_le _) h2
 rw[List.take_zero,eR]at this
 simp only
 rw[this,Ik,lnA,Nat.add_assoc]
theorem ae5 {b:List UInt8}{cnt:Nat}:∀(k i:Nat)(s:RS)(p:List Nd),(∀x∈p,x.s.size<=b.length)->∀x∈(goI b cnt k i s p).1,x.s.size<=b.length
 |0,i,s,p,h=>h
 |k+1,i,s,p,h=>by
  rw[goI]
  split
  ·apply ae5 k
   intro x hx
   rcases bF.1 hx with hx|hx
   ·exact h x hx
   ·simp at hx;subst hx;exact afg (fun s=>afu s) _
  ·exact h
theorem adg {b:List UInt8}{cnt:Nat}:∀(k i:Nat)(s:RS)(p:List Nd),(goI b cnt k i s p).1.length<=p.length+k
 |0,i,s,p=>cB _
 |k+1,i,s,p=>by
  rw[goI]
  split
  ·have:=adg (b:=b) (cnt:=cnt) k (i+1) (Dk (BC b) (Gv b) s).2 (p++[(Dk (BC b) (Gv b) s).1])
   simp at this;omega
  ·simp
theorem acA (b:List UInt8)(s:RS):(Dl b s).1.length<=3002:=by
 have:=adg (b:=b) (cnt:=(BC b s).1) 3002 0 (BC b s).2 []
 simpa[Dl]using this
theorem abf {b:List UInt8}(hb:b.length<4611686018427387904)(s:RS):Cu (Dl b s).1:=
 af0 hb (ae5 3002 0 (BC b s).2 [] (fun x h=>by simp at h))
end Go.Eng
/-! processes: when they are right,on both sides -/
namespace Go.Eng
open Go.Proofs Go.Proofs.Tryz
set_option maxHeartbeats 4000000

structure Pr where
 pid:Int
 m:Mc
 box:List ByteArray
 out:List ByteArray
structure FitsR (p:Pr):Prop where
 pool:Cu p.m.pool
 plen:p.m.pool.length<=4294967296
 box:∀x∈p.box,x.size<4294967296
 blen:p.box.length<4294967296
 out:∀x∈p.out,x.size<4294967296
 olen:p.out.length<4294967296
end Go.Eng
/-! new machines and processes,on both sides -/
namespace Go.Eng
noncomputable section
open Go.Proofs Go.Proofs.Tryz
set_option maxHeartbeats 4000000

theorem acM {α:Type}(p:α->Bool)(l:List α) : -1<=zm p l/\zm p l<l.length:=by
 unfold zm
 cases h:l.findIdx? p with
 |none=>simp only;omega
 |some k=>
  rw[List.findIdx?_eq_some_iff_getElem]at h
  obtain⟨hk,_⟩:=h
  simp only;omega
def zMc:Mc:=⟨[],0,0,0,0,0,0,0⟩
def adq (d:Df):Mc:=⟨[⟨1,0,⟨#[]⟩,0,0⟩,⟨5,0,⟨#[]⟩,0,0⟩],d.at',0,1,0,0,0,0⟩
def abc (c:Cd)(s:ByteArray):Option Mc:=if Bu c=true/\0<=EW c s then
  (match c.defs[(EW c s).toNat]? with|some d=>if d.args=0 then some (adq d) else none|none=>none) else none
def aid (r:Option Mc):D:=match r with|some m=>.tup [oMc m,.bool true] | none=>.tup [oMc zMc,.bool false]
theorem Iq {c:Cd}(hf:FitsC c)(s:ByteArray):V 78 [eCd c,.str s]=some (aid (abc c s),[]):=by
 have hd:=J0 hf s
 have hc:=Jg hf
 have hb:=acM (fun d:Df=>kJ d.name s) c.defs
 rw[Tt]
 unfold abc
 cases e1:Bu c with
 |false=>rw[e1]at hc;rw[aD (by simp)];simp (disch:=first|omega|(simp only[lnA,lnC,lnN,lnM,z8,yj];omega)) only[↓yk,yz,↓zy,↓zF,↓zq,↓yZ,bO,hd,hc];rfl
 |true=>
  rw[e1]at hc
  by_cases e2:0<=EW c s
  ·rw[aG ⟨rfl,e2⟩]
   obtain⟨k,hk⟩:=cP e2
   have hkl:k<c.defs.length:=by unfold EW at hk;omega
   obtain⟨d,hx⟩:=yM hkl
   rw[hk]at hd⊢
   rw[bI,hx]
   by_cases e3:d.args=0
   ·simp only[e3,if_true]
    simp (disch:=first|omega|(simp only[lnA,lnC,lnN,lnM,z8,yj];omega)) only[↓yk,yz,↓y0,↓zd,↓zF,↓zq,↓yZ,↓yK,↓yO,↓yP,yO,yP,↓zk,zZ,zY,zW,bP,aO,lnM,yj,hd,hc,↓zj hx]
    rfl
   ·simp only[e3,if_false]
    simp (disch:=first|omega|(simp only[lnA,lnC,lnN,lnM,z8,yj];omega)) only[↓yk,yz,↓zy,↓y0,↓zd,↓zF,↓zq,↓yZ,↓yK,↓yP,yP,↓zk,zZ,zY,zX,bP,aO,lnM,yj,hd,hc,↓zj hx]
    rfl
  ·rw[aD (fun h=>e2 h.2)]
   simp (disch:=first|omega|(simp only[lnA,lnC,lnN,lnM,z8,yj];omega)) only[↓yk,yz,↓zy,↓y0,↓zF,↓zq,↓yZ,zZ,aO,hd,hc]
   rfl
theorem adZ {c:Cd}{s:ByteArray}{m:Mc}(h:abc c s=some m):∃d∈c.defs,d.args=0/\m=adq d/\Bu c=true:=by
 unfold abc at h
 split at h
 ·rename_i hc
  split at h
  ·rename_i d hx
   split at h
   ·rename_i ha
    cases h
    exact⟨d,bT hx,ha,rfl,hc.1⟩
   ·cases h
  ·cases h
 ·cases h
end
end Go.Eng
/-! draws of machines -/
namespace Go.Eng
noncomputable section
open Go.Proofs Go.Proofs.Tryz
set_option maxHeartbeats 4000000
set_option maxRecDepth 10000

structure SomeM (m:Mc):Prop where
 fits:Cu m.pool
 len:m.pool.length<=3001
theorem age {c:Cd}{m:Mc}(h:CN c m=true):SomeM m:=by
 obtain⟨r1,r2,r3,_⟩:=Gt h
 exact⟨Gq r2,by omega⟩
theorem YI:SomeM ab5:=⟨Kv,by simp[ab5]⟩
theorem aeh {c:Cd}{m:Mc}(h:SomeM m):SomeM (Ul c m):=by
 unfold Ul
 split
 ·split
  ·exact age (PA ‹_› ‹_›)
  ·exact h
 ·exact YI
theorem agh {c:Cd}{m:Mc}(h:CN c m=true){p:List Nd}(hp:Ac p=true){v:Int}(hv:InP p v):Al (aac m p v).pool/\InP (aac m p v).pool (aac m p v).s/\∃t,(aac m p v).pool=m.pool++t:=by
 obtain⟨r1,r2,r3,r4,r5,r6,r7⟩:=Gt h
 obtain⟨f1,f2,t,f3,f4⟩:=Jo hp r2 hv (-1)
 have hs:InP (Ce (-1) p v m.pool).1 m.s:=by rw[f3];exact Am _ r4
 exact⟨AC f1 (PQ f2 hs),Cm _ _,t++[ndP (Ce (-1) p v m.pool).2 m.s],by unfold aac;simp only;rw[f3,bD]⟩
theorem aar {c:Cd}{m:Mc}(h:SomeM m){p:List Nd}{v:Int}:SomeM (Re c m p v):=by
 unfold Re
 split
 ·rename_i hok
  split
  ·rename_i hc
   have hv:=wi_iff.1 hc.2.2
   split
   ·split
    ·exact⟨Gq (agh hok hc.2.1 ⟨hv.1,by omega⟩).1,by omega⟩
    ·exact⟨h.fits,h.len⟩
   ·exact⟨h.fits,h.len⟩
  ·exact h
 ·exact YI
def ag5 (v:D):Prop:=∃m:Mc,v=oMc m/\SomeM m
section
variable {b:List Int}
theorem ace (hb:b.length<4611686018427387904){x:Cd}(hx:FitsC x){n:Int}(hn:n<1000):∀(k i:Nat)(c:Int×Int)(m:Mc),((i:Int)+k=n\/(k=0/\n<=i))->BV b c->SomeM m ->
  FU b ag5 (Gc n (i:Int) (b.map eB) c.1 c.2 (x.pool.map eN) (x.list.map eIn) (x.defs.map eDf) m.at' m.s m.e m.d m.state m.ask m.arg 0 0 0 0 0 0 0 (m.pool.map eN))
 |0,i,c,m,hi,hc,hm=>by
  rw[Mu,yp (bK (by omega))]
  exact Aa hc ⟨m,rfl,hm⟩
 |k+1,i,c,m,hi,hc,hm=>by
  have hl:=hm.len
  rw[Mu,y6 (bE (by omega))]
  by_cases h1:m.state=1
  ·rw[y6 (zU h1)]
   refine z9 (ac9 hb hc) fun v c1 a1 ⟨y,e,hy⟩=>?_
   subst e
   have ha:V 32 [eCd x,eMc m,.agg [.rs (5,0) [eN y]],iN 0]=_:=XL hx hm.fits (by omega) (p:=[y]) (fun z h=>by rw[cH.1 h];omega) (by simp) 0
   have ih:=ace hb hx hn k (i+1) c1 (Re x m [y] 0) (by omega) a1 (aar hm)
   rw[yK,zn,zq,zn,zq,zn,zw,zn,zq,zn,zq,zF,zn,zr,zn,zu,zn,zq,zn,zq,zF,zF]
   try dsimp only
   rw[abo ha,z6 (by omega)]
   exact ih
  ·have hs:=abY hx hm.fits (by omega)
   have ih:=ace hb hx hn k (i+1) c (Ul x m) (by omega) hc (aeh hm)
   rw[yp (zT h1),ad4 hs,z6 (by omega)]
   exact ih
theorem MC (hb:b.length<4611686018427387904){x:Cd}(hx:FitsC x){n:Int}(h0:0<=n)(hn:n<1000){c:Int×Int}(hc:BV b c){m:Mc}(hm:SomeM m):FU b ag5 (V 172 [eC b c,eCd x,oMc m,iN n]):=by
 rw[aaZ]
 exact ace hb hx hn n.toNat 0 c m (by omega) hc hm
def QP:Mc:=⟨[ndN,ndF 0 0,ndN,ndP 2 0],0,2,3,2,0,0,0⟩
theorem ag2 {x:Cd}(hx:RightC x):V 171 [eCd x,.agg [.rs (5,0) [.agg [iN 1,iN 0,.str ⟨#[]⟩,iN 0,iN 0],.agg [iN 6,iN 0,.str ⟨#[]⟩,iN 0,iN 0]]],iN 1]=some (.tup [oMc QP,.bool true],[]):=by
 have hf:Cu [ndN,ndF 0 0]:=fun z h=>by
  simp only[bN,dY,or_false]at h
  rcases h with rfl|rfl<;>exact JB
 have h1:=Jg hx.fits
 have h2:V 60 [.agg [.rs (5,0) [.agg [iN 1,iN 0,.str ⟨#[]⟩,iN 0,iN 0],.agg [iN 6,iN 0,.str ⟨#[]⟩,iN 0,iN 0]]]]=some (.bool true,[]):=by
  have h:=CU (p:=[ndN,ndF 0 0]) hf (by simp)
  rw[show Ac [ndN,ndF 0 0]=true by decide +kernel]at h
  exact h
 have h3:V 61 [.agg [.rs (5,0) [.agg [iN 1,iN 0,.str ⟨#[]⟩,iN 0,iN 0],.agg [iN 6,iN 0,.str ⟨#[]⟩,iN 0,iN 0]]],iN 1]=some (.bool true,[]):=JY (p:=[ndN,ndF 0 0]) (by simp) 1
 have h4:V 147 [.agg [.rs (5,0) [.agg [iN 1,iN 0,.str ⟨#[]⟩,iN 0,iN 0],.agg [iN 6,iN 0,.str ⟨#[]⟩,iN 0,iN 0]]]]=_:=WT (p:=[ndN,ndF 0 0]) (by simp)
 have h5:=AV (p:=[ndN,ndF 0 0]) (by simp) ndN
 have h6:=AV (p:=[ndN,ndF 0 0]++[ndN]) (by simp) (ndP ((([ndN,ndF 0 0]:List Nd).length:Nat):Int) 0)
 have hne:=hx.ne
 rw[hx.ok]at h1
 rw[UE,Ue h1,aO,y0,Fm h2,aO,y0,Nv h3,aO,y0,yp (by decide),zJ (by decide)]
 show br (decide (w6 (Int.tdiv 0 8)>=ni (x.list.map eIn).length)) _ _=_
 rw[lnM,yp (bK (by rw[w64 (by decide) (by decide)];simp only[ni];have:Int.tdiv 0 8=0:=rfl;omega)),AW h4,Ar h5,Ar h6]
 rfl
theorem QQ:SomeM QP:=⟨fun z h=>by
 simp only[QP,bN,dY,or_false]at h
 rcases h with rfl|rfl|rfl|rfl<;>exact JB,by simp[QP]⟩
theorem Wh {x:Cd}{s:ByteArray}{m:Mc}(h:abc x s=some m):SomeM m:=by
 obtain⟨d,_,_,rfl,_⟩:=adZ h
 exact⟨fun z h=>by
  simp only[adq,bN,dY,or_false]at h
  rcases h with rfl|rfl<;>exact JB,by simp[adq]⟩
def agD (v:D):Prop:=∃(x:Cd)(m:Mc),v=.tup [eCd x,oMc m]/\RightC x/\SomeM m
theorem afX (hb:b.length<4611686018427387904){c:Int×Int}(h:BV b c):FU b agD (V 112 [eC b c]):=by
 rw[TG]
 refine z9 (Vj hb h) fun v c1 a1 ⟨x,e,hx⟩=>?_
 subst e
 rw[yK,zn,zt,zn,zt,zn,zt,zF,zn,zr,zn,zu,zn,zq,zn,zq,zF,zF]
 try dsimp only
 rw[Wl (J0 hx.fits _),lnM]
 refine Ax (fun _=>Ax (fun h0=>?_) fun _=>?_) fun _=>?_
 ·have h0:=cV h0
  obtain⟨d,hd⟩:=yM (l:=x.defs) (i:=0) (by simp only[ni]at h0;omega)
  refine D8 (by simp only[ni,aB,bL]at h0⊢;omega) ?_
  rw[zj hd,aha]
  have hm:=Iq hx.fits d.name
  cases hq:abc x d.name with
  |none=>
   rw[hq]at hm
   rw[Dq hm,bO,zy,KF (ag2 hx)]
   refine z9 (Aw hb a1 _) fun v c2 a2 ⟨n,e,n0,n1⟩=>?_
   subst e
   have n1:=n1 (by omega)
   rw[zq,zn,zr,zn,zu,zn,zq,zn,zq,zF,zF]
   refine z9 (MC hb hx.fits n0 (by omega) a2 (m:=QP) QQ) fun v c3 a3 ⟨m,e,hm⟩=>?_
   subst e
   rw[yK,zn,zt,zn,zq,zn,zq,zn,zq,zn,zq,zn,zq,zn,zq,zn,zq,zF,zn,zr,zn,zu,zn,zq,zn,zq,zF,zF]
   exact Aa a3 ⟨x,m,rfl,hx,hm⟩
  |some q=>
   have hqs:=Wh hq
   rw[hq]at hm
   rw[Dq hm,aO,y0]
   refine z9 (Aw hb a1 _) fun v c2 a2 ⟨n,e,n0,n1⟩=>?_
   subst e
   have n1:=n1 (by omega)
   rw[zq,zn,zr,zn,zu,zn,zq,zn,zq,zF,zF]
   refine z9 (MC hb hx.fits n0 (by omega) a2 (m:=q) hqs) fun v c3 a3 ⟨m,e,hm⟩=>?_
   subst e
   rw[yK,zn,zt,zn,zq,zn,zq,zn,zq,zn,zq,zn,zq,zn,zq,zn,zq,zF,zn,zr,zn,zu,zn,zq,zn,zq,zF,zF]
   exact Aa a3 ⟨x,m,rfl,hx,hm⟩
 ·skip
  have hm:=Iq hx.fits ⟨#[109,97,105,110]⟩
  cases hq:abc x ⟨#[109,97,105,110]⟩ with
  |none=>
   rw[hq]at hm
   rw[Dq hm,bO,zy,KF (ag2 hx)]
   refine z9 (Aw hb a1 _) fun v c2 a2 ⟨n,e,n0,n1⟩=>?_
   subst e
   have n1:=n1 (by omega)
   rw[zq,zn,zr,zn,zu,zn,zq,zn,zq,zF,zF]
   refine z9 (MC hb hx.fits n0 (by omega) a2 (m:=QP) QQ) fun v c3 a3 ⟨m,e,hm⟩=>?_
   subst e
   rw[yK,zn,zt,zn,zq,zn,zq,zn,zq,zn,zq,zn,zq,zn,zq,zn,zq,zF,zn,zr,zn,zu,zn,zq,zn,zq,zF,zF]
   exact Aa a3 ⟨x,m,rfl,hx,hm⟩
  |some q=>
   have hqs:=Wh hq
   rw[hq]at hm
   rw[Dq hm,aO,y0]
   refine z9 (Aw hb a1 _) fun v c2 a2 ⟨n,e,n0,n1⟩=>?_
   subst e
   have n1:=n1 (by omega)
   rw[zq,zn,zr,zn,zu,zn,zq,zn,zq,zF,zF]
   refine z9 (MC hb hx.fits n0 (by omega) a2 (m:=q) hqs) fun v c3 a3 ⟨m,e,hm⟩=>?_
   subst e
   rw[yK,zn,zt,zn,zq,zn,zq,zn,zq,zn,zq,zn,zq,zn,zq,zn,zq,zF,zn,zr,zn,zu,zn,zq,zn,zq,zF,zF]
   exact Aa a3 ⟨x,m,rfl,hx,hm⟩
 ·skip
  have hm:=Iq hx.fits ⟨#[109,97,105,110]⟩
  cases hq:abc x ⟨#[109,97,105,110]⟩ with
  |none=>
   rw[hq]at hm
   rw[Dq hm,bO,zy,KF (ag2 hx)]
   refine z9 (Aw hb a1 _) fun v c2 a2 ⟨n,e,n0,n1⟩=>?_
   subst e
   have n1:=n1 (by omega)
   rw[zq,zn,zr,zn,zu,zn,zq,zn,zq,zF,zF]
   refine z9 (MC hb hx.fits n0 (by omega) a2 (m:=QP) QQ) fun v c3 a3 ⟨m,e,hm⟩=>?_
   subst e
   rw[yK,zn,zt,zn,zq,zn,zq,zn,zq,zn,zq,zn,zq,zn,zq,zn,zq,zF,zn,zr,zn,zu,zn,zq,zn,zq,zF,zF]
   exact Aa a3 ⟨x,m,rfl,hx,hm⟩
  |some q=>
   have hqs:=Wh hq
   rw[hq]at hm
   rw[Dq hm,aO,y0]
   refine z9 (Aw hb a1 _) fun v c2 a2 ⟨n,e,n0,n1⟩=>?_
   subst e
   have n1:=n1 (by omega)
   rw[zq,zn,zr,zn,zu,zn,zq,zn,zq,zF,zF]
   refine z9 (MC hb hx.fits n0 (by omega) a2 (m:=q) hqs) fun v c3 a3 ⟨m,e,hm⟩=>?_
   subst e
   rw[yK,zn,zt,zn,zq,zn,zq,zn,zq,zn,zq,zn,zq,zn,zq,zn,zq,zF,zn,zr,zn,zu,zn,zq,zn,zq,zF,zF]
   exact Aa a3 ⟨x,m,rfl,hx,hm⟩
end
end
end Go.Eng
/-! draws of machines,mostly right -/
namespace Go.Eng
open Go.Proofs Go.Proofs.Tryz
set_option maxHeartbeats 4000000
set_option maxRecDepth 10000

noncomputable def Any (n:Nat) (X:D) (l:List D):Prop:=X=.rs (n,0) l\/X=.os (n,0) l
theorem Rf {n:Nat}{X:D}{l:List D}(h:Any n X l){R:Type}(K:List D->Option R):nk (n,0) X K=K l:=by
 rcases h with rfl|rfl
 ·rw[zp]
 ·rw[zo]
noncomputable def afK (v:D):Prop:=∃(x:Cd)(m:Mc)(X1 X2 X3 Y:D),v=.tup [.agg [X1,X2,X3],.agg [Y,iN m.at',iN m.s,iN m.e,iN m.d,iN m.state,iN m.ask,iN m.arg]]/\Any 5 X1 (x.pool.map eN)/\Any 4 X2 (x.list.map eIn)/\Any 3 X3 (x.defs.map eDf)/\Any 5 Y (m.pool.map eN)/\SomeC x/\SomeM m
section
variable {b:List Int}
theorem adM (hb:b.length<4611686018427387904){c:Int×Int}(h:BV b c):FU b afK (V 52 [eC b c]):=by
 rw[ZF]
 refine z9 (afX hb h) fun v c1 a1 ⟨x,m,e,hx,hm⟩=>?_
 subst e
 have hs:=WA hx
 have hl:=hm.len
 rw[yL,zn,yK,zn,zp,zn,zp,zn,zp,zF,zn,yK,zn,zo,zn,zq,zn,zq,zn,zq,zn,zq,zn,zq,zn,zq,zn,zq,zF,zF,zn,zr,zn,zu,zn,zq,zn,zq,zF,zF]
 refine z9 (Aw hb a1 _) fun v c2 a2 ⟨n,e,n0,n1⟩=>?_
 subst e
 rw[zq,zn,zr,zn,zu,zn,zq,zn,zq,zF,zF]
 refine Ax (fun _=>?_) fun _=>Ax (fun _=>?_) fun _=>Ax (fun _=>?_) fun _=>Ax (fun _=>?_) fun _=>Ax (fun _=>?_) fun _=>Ax (fun _=>?_) fun _=>Ax (fun _=>?_) fun _=>Ax (fun _=>?_) fun _=>Ax (fun _=>?_) fun _=>?_
 ·refine z9 (Aw hb a2 _) fun v c3 a3 ⟨u,e,u0,u1⟩=>?_
  subst e
  rw[zq,zn,zr,zn,zu,zn,zq,zn,zq,zF,zF]
  refine z9 (Kq hb a3 [-1,0,w6 (ni (x.list.map eIn).length-1),ni (x.list.map eIn).length,u] (by simp)) fun v c4 a4 ⟨w,e,_⟩=>?_
  subst e
  rw[zq,zn,zr,zn,zu,zn,zq,zn,zq,zF,zF]
  exact Aa a4 ⟨x,⟨m.pool,w,m.s,m.e,m.d,m.state,m.ask,m.arg⟩,_,_,_,_,rfl,.inl rfl,.inl rfl,.inl rfl,.inl rfl,hs,⟨hm.fits,hm.len⟩⟩
 ·refine z9 (Aw hb a2 _) fun v c3 a3 ⟨w,e,u0,u1⟩=>?_
  subst e
  rw[zq,zn,zr,zn,zu,zn,zq,zn,zq,zF,zF]
  exact Aa a3 ⟨x,⟨m.pool,m.at',m.s,m.e,m.d,w,m.ask,m.arg⟩,_,_,_,_,rfl,.inl rfl,.inl rfl,.inl rfl,.inl rfl,hs,⟨hm.fits,hm.len⟩⟩
 ·refine z9 (Aw hb a2 _) fun v c3 a3 ⟨w,e,u0,u1⟩=>?_
  subst e
  rw[zq,zn,zr,zn,zu,zn,zq,zn,zq,zF,zF]
  exact Aa a3 ⟨x,⟨m.pool,m.at',m.s,m.e,m.d,m.state,w,m.arg⟩,_,_,_,_,rfl,.inl rfl,.inl rfl,.inl rfl,.inl rfl,hs,⟨hm.fits,hm.len⟩⟩
 ·refine z9 (ac8 hb a2 (p:=m.pool) (by omega)) fun v c3 a3 ⟨w,e,u0,u1⟩=>?_
  subst e
  rw[zq,zn,zr,zn,zu,zn,zq,zn,zq,zF,zF]
  exact Aa a3 ⟨x,⟨m.pool,m.at',m.s,m.e,m.d,m.state,m.ask,w⟩,_,_,_,_,rfl,.inl rfl,.inl rfl,.inl rfl,.inl rfl,hs,⟨hm.fits,hm.len⟩⟩
 ·refine z9 (ac8 hb a2 (p:=m.pool) (by omega)) fun v c3 a3 ⟨w,e,u0,u1⟩=>?_
  subst e
  rw[zq,zn,zr,zn,zu,zn,zq,zn,zq,zF,zF]
  exact Aa a3 ⟨x,⟨m.pool,m.at',w,m.e,m.d,m.state,m.ask,m.arg⟩,_,_,_,_,rfl,.inl rfl,.inl rfl,.inl rfl,.inl rfl,hs,⟨hm.fits,hm.len⟩⟩
 ·refine z9 (ac8 hb a2 (p:=m.pool) (by omega)) fun v c3 a3 ⟨w,e,u0,u1⟩=>?_
  subst e
  rw[zq,zn,zr,zn,zu,zn,zq,zn,zq,zF,zF]
  exact Aa a3 ⟨x,⟨m.pool,m.at',m.s,w,m.d,m.state,m.ask,m.arg⟩,_,_,_,_,rfl,.inl rfl,.inl rfl,.inl rfl,.inl rfl,hs,⟨hm.fits,hm.len⟩⟩
 ·refine z9 (ac8 hb a2 (p:=m.pool) (by omega)) fun v c3 a3 ⟨w,e,u0,u1⟩=>?_
  subst e
  rw[zq,zn,zr,zn,zu,zn,zq,zn,zq,zF,zF]
  exact Aa a3 ⟨x,⟨m.pool,m.at',m.s,m.e,w,m.state,m.ask,m.arg⟩,_,_,_,_,rfl,.inl rfl,.inl rfl,.inl rfl,.inl rfl,hs,⟨hm.fits,hm.len⟩⟩
 ·refine z9 (adL hb a2) fun v c3 a3 ⟨y,e,hy⟩=>?_
  subst e
  rw[yK,zn,zt,zn,zt,zn,zt,zF,zn,zr,zn,zu,zn,zq,zn,zq,zF,zF]
  exact Aa a3 ⟨y,m,_,_,_,_,rfl,.inr rfl,.inr rfl,.inr rfl,.inl rfl,hy,hm⟩
 ·refine z9 (ada hb a2) fun v c3 a3 ⟨p,e,hp,hpl⟩=>?_
  subst e
  rw[yK,zn,zt,zF,zn,zr,zn,zu,zn,zq,zn,zq,zF,zF]
  exact Aa a3 ⟨x,⟨p,m.at',m.s,m.e,m.d,m.state,m.ask,m.arg⟩,_,_,_,_,rfl,.inl rfl,.inl rfl,.inl rfl,.inr rfl,hs,⟨Yu hp,abC hpl⟩⟩
 ·exact Aa a2 ⟨x,m,_,_,_,_,rfl,.inl rfl,.inl rfl,.inl rfl,.inl rfl,hs,hm⟩
theorem aeW (hb:b.length<4611686018427387904){c:Int×Int}(h:BV b c):FU b (fun v=>∃n:Int,v=iN n) (V 53 [eC b c]):=by
 rw[RN]
 refine z9 (Aw hb h _) fun v c2 a2 ⟨n,e,n0,n1⟩=>?_
 subst e
 rw[zq,zn,zr,zn,zu,zn,zq,zn,zq,zF,zF]
 refine Ax (fun _=>?_) fun _=>Ax (fun _=>Aa a2 ⟨_,rfl⟩) fun _=>?_
 ·refine z9 (Kq hb a2 [-1,0,1,2000,2001] (by simp)) fun v c4 a4 ⟨w,e,_⟩=>?_
  subst e
  rw[zq,zn,zr,zn,zu,zn,zq,zn,zq,zF,zF]
  exact Aa a4 ⟨w,rfl⟩
 ·refine z9 (Aw hb a2 _) fun v c4 a4 ⟨w,e,_⟩=>?_
  subst e
  rw[zq,zn,zr,zn,zu,zn,zq,zn,zq,zF,zF]
  exact Aa a4 ⟨w,rfl⟩
theorem adN (hb:b.length<4611686018427387904):∃(x:Cd)(m:Mc)(n:Int),V 13 [.rs (1,0) (b.map eB)]=some (.tup [eCd x,eMc m,iN n],[])/\SomeC x/\SomeM m:=by
 obtain⟨c,e,hc⟩:=afV hb
 have h:Got (fun v l=>l=[]/\∃(x:Cd)(m:Mc)(n:Int),v=.tup [eCd x,eMc m,iN n]/\SomeC x/\SomeM m) (V 13 [.rs (1,0) (b.map eB)]):=by
  rw[Tp]
  refine RT e ?_
  rw[zr,zn,zu,zn,zq,zn,zq,zF,zF]
  refine z9 (adM hb hc) fun v c1 a1 ⟨x,m,X1,X2,X3,Y,e,h1,h2,h3,h4,hx,hm⟩=>?_
  subst e
  rw[yL,zn,yK,zn,Rf h1,zn,Rf h2,zn,Rf h3,zF,zn,yK,zn,Rf h4,zn,zq,zn,zq,zn,zq,zn,zq,zn,zq,zn,zq,zn,zq,zF,zF,zn,zr,zn,zu,zn,zq,zn,zq,zF,zF]
  refine z9 (aeW hb a1) fun v c3 a3 ⟨n,e⟩=>?_
  subst e
  rw[zq,zn,zr,zn,zu,zn,zq,zn,zq,zF,zF]
  exact ae6 ⟨rfl,x,m,n,rfl,hx,hm⟩
 obtain⟨v,l,e,rfl,x,m,n,rfl,hx,hm⟩:=h
 exact⟨x,m,n,e,hx,hm⟩
end
end Go.Eng
/-! what is kept fits -/
namespace Go.Eng
open Go.Proofs Go.Proofs.Tryz

end Go.Eng
/-! a drawn machine that is tidied: the law -/
namespace Go.Eng
open Go.Proofs Go.Proofs.Tryz
set_option maxHeartbeats 4000000

theorem afd {l:List Int}{f:Int->Int}(h:l.map f=l):∀r∈l,f r=r:=by
 induction l with
 |nil=>intro r hr;cases hr
 |cons a t ih=>
  rw[bR]at h
  injection h with h1 h2
  intro r hr
  rcases bN.1 hr with rfl|hr
  ·exact h1
  ·exact ih h2 r hr
theorem acR {m:Mc}(hq:Ac m.pool=true)(hr:Ap m.pool (Ah m)=true):Ah (Ai m)=(AA (-1) m.pool (Ah m)).2/\(Ai m).pool=(AA (-1) m.pool (Ah m)).1/\(Ai m).s=tf m m.s/\(Ai m).e=tf m m.e/\(Ai m).d=tf m m.d/\(Ai m).state=m.state/\(Ai m).at'=m.at'/\(Ai m).ask=m.ask:=by
 have e:Ai m=⟨(AA (-1) m.pool (Ah m)).1,m.at',tf m m.s,tf m m.e,tf m m.d,m.state,m.ask,if holds m=true then tf m m.arg else m.arg⟩:=by unfold Ai;rw[aG ⟨hq,hr⟩]
 refine⟨?_,by rw[e],by rw[e],by rw[e],by rw[e],by rw[e],by rw[e],by rw[e]⟩
 have hh:holds (Ai m)=holds m:=by rw[e];rfl
 by_cases h:holds m=true
 ·have e2:Ah m=[m.s,m.e,m.d,m.arg]:=by unfold Ah;rw[aG h]
  have e3:Ah (Ai m)=[(Ai m).s,(Ai m).e,(Ai m).d,(Ai m).arg]:=by unfold Ah;rw[hh,aG h]
  rw[e3,e]
  simp only[aG h]
  unfold tf AA
  rw[e2]
  rfl
 ·have e2:Ah m=[m.s,m.e,m.d]:=by unfold Ah;rw[aD h]
  have e3:Ah (Ai m)=[(Ai m).s,(Ai m).e,(Ai m).d]:=by unfold Ah;rw[hh,aD h]
  rw[e3,e]
  unfold tf AA
  rw[e2]
  rfl
theorem Rj (s:ByteArray):kJ s s=true:=by rw[Dz];simp
end Go.Eng
/-! a machine read of bytes,on both sides -/
namespace Go.Eng
noncomputable section
open Go.Proofs Go.Proofs.Tryz
set_option maxHeartbeats 4000000

def Iw (num:RS->Nat×RS):Nat->RS->List Nat×RS
 |0,s=>([],s)
 |k+1,s=>((num s).1::(Iw num k (num s).2).1,(Iw num k (num s).2).2)
theorem abj {b:List UInt8}:∀(l:List Int),U9 l->∀(a:Nat)(rest:List UInt8),b.drop a=FM l++rest->Iw (BC b) l.length (a,true)=(l.map Int.toNat,(a+(FM l).length,true))
 |[],hs,a,rest,h=>by simp[Iw,FM]
 |x::l,hs,a,rest,h=>by
  have hx:=hs x (by simp)
  have e:FM (x::l)=AQ x.toNat++FM l:=by simp[FM]
  rw[e,bD]at h
  have h1:=Ez (b:=b) (s:=(a,true)) (n:=x.toNat) (by omega) h
  have h2:=IG h
  have ih:=abj l (fun y hy=>hs y (by simp[hy])) (a+(AQ x.toNat).length) rest h2
  rw[lnC]
  simp only[Iw]
  rw[h1]
  simp only
  rw[ih,e,lnA,Nat.add_assoc]
  rfl
def QT (l:List Nat)(p:List Nd):Mc:=⟨p,(l.getD 0 0:Nat),(l.getD 3 0:Nat),(l.getD 4 0:Nat),(l.getD 5 0:Nat),(l.getD 1 0:Nat),(l.getD 2 0:Nat),(l.getD 6 0:Nat)⟩
def Sq (s:List UInt8):Mc×Bool:=(QT (Iw (BC s) 7 (0,true)).1 (Dl s (Iw (BC s) 7 (0,true)).2).1,(Dl s (Iw (BC s) 7 (0,true)).2).2.2)
def abF (c:Cd)(s:List UInt8):Option Mc:=if (Sq s).2=true/\EZ c (Sq s).1=some s then some (Sq s).1 else none
def aij:Mc:=⟨[],0,0,0,0,0,0,0⟩
def acO (r:Option Mc):D:=match r with|some m=>.tup [oMc m,.bool true] | none=>.tup [oMc aij,.bool false]
theorem Gu {c:Cd}{m:Mc}{s:List UInt8}(h:EZ c m=some s):CN c m=true/\s=FM (JF (Ai m))++Ik (Ai m).pool:=by
 unfold EZ at h
 split at h
 ·rename_i hc;cases h;exact⟨hc,rfl⟩
 ·cases h
theorem acN {c:Cd}{m:Mc}{s:List UInt8}(h:EZ c m=some s):Sq s=(Ai m,true)/\(Dl s (Iw (BC s) 7 (0,true)).2).2.1=s.length:=by
 obtain⟨h1,h2⟩:=Gu h
 have h3:=Je h1
 have hs:=PO h3
 have hn:=abj (b:=s) (JF (Ai m)) hs 0 (Ik (Ai m).pool) (by rw[eR];exact h2)
 have hd:s.drop (0+(FM (JF (Ai m))).length)=Ik (Ai m).pool++[]:=by rw[bX,h2,List.drop_left,eK]
 have hp:=acB (Dd h3).1 hd
 have hl:(JF (Ai m)).length=7:=rfl
 rw[hl]at hn
 unfold Sq
 rw[hn]
 simp only
 rw[hp]
 have e:∀x∈JF (Ai m),((x.toNat:Nat):Int)=x:=fun x hx=>by have:=hs x hx;omega
 refine⟨?_,by simp only[bX];rw[h2,lnA]⟩
 simp only[JF,bN,dY,or_false]at e
 have e0:=e (Ai m).at' (by simp)
 have e1:=e (Ai m).state (by simp)
 have e2:=e (Ai m).ask (by simp)
 have e3:=e (Ai m).s (by simp)
 have e4:=e (Ai m).e (by simp)
 have e5:=e (Ai m).d (by simp)
 have e6:=e (Ai m).arg (by simp)
 refine Prod.ext ?_ rfl
 show QT ([(Ai m).at'.toNat,(Ai m).state.toNat,(Ai m).ask.toNat,(Ai m).s.toNat,(Ai m).e.toNat,(Ai m).d.toNat,(Ai m).arg.toNat]) (Ai m).pool=Ai m
 show(⟨(Ai m).pool,((Ai m).at'.toNat:Nat),((Ai m).s.toNat:Nat),((Ai m).e.toNat:Nat),((Ai m).d.toNat:Nat),((Ai m).state.toNat:Nat),((Ai m).ask.toNat:Nat),((Ai m).arg.toNat:Nat)⟩:Mc)=Ai m
 rw[e0,e1,e2,e3,e4,e5,e6]
theorem agk (s:List UInt8):(Sq s).2=(Dl s (Iw (BC s) 7 (0,true)).2).2.2:=by simp only[Sq]
theorem agj (s:List UInt8):(Sq s).1=QT (Iw (BC s) 7 (0,true)).1 (Dl s (Iw (BC s) 7 (0,true)).2).1:=by simp only[Sq]
theorem Yf (l:List Nat)(p:List Nd):(QT l p).pool=p:=by simp only[QT]
end
end Go.Eng
/-! processes as arguments -/
namespace Go.Eng
open Go.Proofs Go.Proofs.Tryz
set_option maxHeartbeats 4000000
set_option maxRecDepth 100000

structure LimR (p:Pr):Prop where
 pool:Lim p.m.pool
 box:∀x∈p.box,x.size<=140737488351232
 blen:p.box.length<=140737488351232
 out:∀x∈p.out,x.size<=140737488351232
 olen:p.out.length<=140737488351232
end Go.Eng
/-! marks of code,machines,processes -/
namespace Go.Eng
open Go.Proofs Go.Proofs.Tryz
set_option maxHeartbeats 4000000

end Go.Eng
/-! a machine read of bytes,on both sides -/
namespace Go.Eng
open Go.Proofs Go.Proofs.Tryz
set_option maxHeartbeats 400000

attribute [local irreducible] BC acE Dl agR
theorem adT {l:List Nat}{p:List Nd}(h:Cu p):Cu (QT l p).pool:=by rw[Yf];exact h
theorem ZO {c:Cd}{s:List UInt8}(r1 r2 r3 r4 r5 r6 r7:Nat×RS)(r8:List Nd×RS)
  (h1:V 71 [.op [.os (1,0) (s.map eU),iN 0,.bool true]]=some (iN (r1.1:Int),[rO s r1.2]))
  (h2:V 71 [rO s r1.2]=some (iN (r2.1:Int),[rO s r2.2]))
  (h3:V 71 [rO s r2.2]=some (iN (r3.1:Int),[rO s r3.2]))
  (h4:V 71 [rO s r3.2]=some (iN (r4.1:Int),[rO s r4.2]))
  (h5:V 71 [rO s r4.2]=some (iN (r5.1:Int),[rO s r5.2]))
  (h6:V 71 [rO s r5.2]=some (iN (r6.1:Int),[rO s r6.2]))
  (h7:V 71 [rO s r6.2]=some (iN (r7.1:Int),[rO s r7.2]))
  (h8:V 72 [rO s r7.2]=some (oP r8.1,[rO s r8.2]))
  (hm:V 19 [eCd c,.agg [.rs (5,0) (r8.1.map eN),iN (r1.1:Int),iN (r4.1:Int),iN (r5.1:Int),iN (r6.1:Int),iN (r2.1:Int),iN (r3.1:Int),iN (r7.1:Int)]]=some (Qr (EZ c (QT [r1.1,r2.1,r3.1,r4.1,r5.1,r6.1,r7.1] r8.1)),[])) :
  V 21 [eCd c,.str (mk s)]=some (acO (if r8.2.2=true/\EZ c (QT [r1.1,r2.1,r3.1,r4.1,r5.1,r6.1,r7.1] r8.1)=some s then some (QT [r1.1,r2.1,r3.1,r4.1,r5.1,r6.1,r7.1] r8.1) else none),[]):=by
 rw[Rx,SQ,DK h1,DK h2,DK h3,DK h4,DK h5,DK h6,DK h7,UK h8]
 cases e:EZ c (QT [r1.1,r2.1,r3.1,r4.1,r5.1,r6.1,r7.1] r8.1) with
 |none=>
  rw[e,Qr]at hm
  rw[CW hm,aD (by simp)]
  cases r8.2.2<;>rfl
 |some q=>
  rw[e,Qr]at hm
  rw[CW hm]
  cases ho:r8.2.2 with
  |false=>rw[aD (by simp)];rfl
  |true=>
   by_cases hq:q=s
   ·subst hq
    have hs:kJ (mk q) (mk q)=true:=by rw[Dz];simp
    rw[aG ⟨rfl,rfl⟩,aO,y0,y0,hs]
    rfl
   ·have hs:kJ (mk q) (mk s)=false:=by rw[PB];exact bK hq
    rw[aD (fun h=>hq (Option.some.inj h.2)),aO,y0,y0,hs]
    rfl
theorem QX {c:Cd}(hf:FitsC c){s:List UInt8}(hb:s.length<4294967296):V 21 [eCd c,.str (mk s)]=some (acO (abF c s),[]):=by
 have hB:s.length<4611686018427387904:=by omega
 have i0:InB s (0,true):=Nat.zero_le _
 have h1:V 71 [.op [.os (1,0) (s.map eU),iN 0,.bool true]]=some (iN ((BC s (0,true)).1:Int),[rO s (BC s (0,true)).2]):=B9 hB i0
 have i1:=Gn i0
 have h2:=B9 hB i1
 have i2:=Gn i1
 have h3:=B9 hB i2
 have i3:=Gn i2
 have h4:=B9 hB i3
 have i4:=Gn i3
 have h5:=B9 hB i4
 have i5:=Gn i4
 have h6:=B9 hB i5
 have i6:=Gn i5
 have h7:=B9 hB i6
 have i7:=Gn i6
 have h8:=WV hB i7
 have hfit:∀t,Cu (Dl s t).1/\(Dl s t).1.length<=3002:=fun t=>⟨abf hB t,acA s t⟩
 have hm:∀(l:List Nat)(t:RS),V 19 [eCd c,eMc (QT l (Dl s t).1)]=some (Qr (EZ c (QT l (Dl s t).1)),[]):=fun l t=>Eh hf (m:=QT l (Dl s t).1) (adT (hfit t).1) (by rw[Yf];have:=(hfit t).2;omega)
 have hr:abF c s=if (Dl s (Iw (BC s) 7 (0,true)).2).2.2=true/\EZ c (QT (Iw (BC s) 7 (0,true)).1 (Dl s (Iw (BC s) 7 (0,true)).2).1)=some s then some (QT (Iw (BC s) 7 (0,true)).1 (Dl s (Iw (BC s) 7 (0,true)).2).1) else none:=by unfold abF;rw[agk,agj]
 simp only[Iw]at hr
 rw[hr]
 exact ZO _ _ _ _ _ _ _ _ h1 h2 h3 h4 h5 h6 h7 h8 (hm [_,_,_,_,_,_,_] _)
end Go.Eng
/-! machines as bytes,there and back: the law -/
namespace Go.Eng
open Go.Proofs Go.Proofs.Tryz
set_option maxHeartbeats 4000000

theorem aej {m:Mc}(hq:Ac m.pool=true)(hr:Ap m.pool (Ah m)=true):Ai (Ai m)=Ai m:=by
 obtain⟨a1,a2,a3,a4,a5,a6,a7,a8⟩:=acR hq hr
 obtain⟨b1,b2,b3⟩:=VU hq hr (-1) (-1)
 have hq2:Ac (Ai m).pool=true:=by rw[a2];exact b1
 have hr2:Ap (Ai m).pool (Ah (Ai m))=true:=by rw[a1,a2];exact b2
 have e3:AA (-1) (Ai m).pool (Ah (Ai m))=(AA (-1) m.pool (Ah m)):=by rw[a1,a2];exact b3
 have fix:∀r∈Ah (Ai m),tf (Ai m) r=r:=afd (by
  have:=congrArg Prod.snd e3
  rw[<-a1]at this
  exact this)
 have ms:(Ai m).s∈Ah (Ai m):=by unfold Ah;split<;>simp
 have me:(Ai m).e∈Ah (Ai m):=by unfold Ah;split<;>simp
 have md:(Ai m).d∈Ah (Ai m):=by unfold Ah;split<;>simp
 have ma:holds (Ai m)=true->(Ai m).arg∈Ah (Ai m):=fun h=>by unfold Ah;rw[aG h];simp
 have ep:(AA (-1) (Ai m).pool (Ah (Ai m))).1=(Ai m).pool:=by rw[e3,<-a2]
 generalize Ai m=t at *
 unfold Ai
 rw[aG ⟨hq2,hr2⟩,ep,fix _ ms,fix _ me,fix _ md]
 by_cases h:holds t=true
 ·rw[aG h,fix _ (ma h)]
 ·rw[aD h]
theorem acP {c:Cd}{m:Mc}{s:List UInt8}(h:EZ c m=some s):abF c s=some (Ai m):=by
 obtain⟨h1,h2⟩:=Gu h
 obtain⟨q1,q2,_⟩:=Dd h1
 have hp:EZ c (Ai m)=some s:=by
  unfold EZ
  rw[aG (Je h1),aej q1 q2,h2]
 have hr:=(acN h).1
 unfold abF
 rw[hr,aG ⟨rfl,hp⟩]
theorem abi:∀l:List Int,U9 l->(FM l).length<=9*l.length
 |[],_=>by simp[FM]
 |x::l,h=>by
  have h1:=Ay (n:=x.toNat) (by have:=h x (by simp);omega)
  have h2:=abi l (fun y hy=>h y (by simp[hy]))
  simp only[FM,eJ,lnA,lnC]at *
  omega
theorem ad5 {c:Cd}{m:Mc}{s:List UInt8}(h:EZ c m=some s):s.length<=200000:=by
 obtain⟨h1,h2⟩:=Gu h
 have h3:=Je h1
 have h4:=abi _ (PO h3)
 have h5:(Ik (Ai m).pool).length<=100000:=VG (Dd h3).1
 have h6:(JF (Ai m)).length=7:=rfl
 rw[h2,lnA]
 omega
end Go.Eng
/-! two pools that hold the same,in the same order -/
namespace Go.Eng

noncomputable def kid (k:Int):Prop:=k=5\/k=6\/k=7
structure Bi (ρ:Nat->Nat->Prop) (q p:List Nd):Prop where
 node:∀i j,ρ i j->∃x y,q[i]? = some x/\p[j]? = some y/\x.kind=y.kind/\x.n=y.n/\x.s=y.s/\(kid x.kind->ρ x.a.toNat y.a.toNat)/\(x.kind=5->ρ x.b.toNat y.b.toNat)
 ord:∀i j i' j',ρ i j->ρ i' j'->(i<i'↔j<j')
theorem Bi.one {ρ:Nat->Nat->Prop}{q p:List Nd}(h:Bi ρ q p){i j i' j':Nat}(h1:ρ i j)(h2:ρ i' j'):i=i'↔j=j':=by
 have a:=h.ord _ _ _ _ h1 h2
 have b:=h.ord _ _ _ _ h2 h1
 omega
theorem Bi.flip {ρ:Nat->Nat->Prop}{q p:List Nd}(h:Bi ρ q p):Bi (fun i j=>ρ j i) p q:=
 ⟨fun i j hr=>by
  obtain⟨x,y,h1,h2,h3,h4,h5,h6,h7⟩:=h.node _ _ hr
  exact⟨y,x,h2,h1,h3.symm,h4.symm,h5.symm,fun hk=>h6 (h3▸hk),fun hk=>h7 (h3▸hk)⟩,
  fun i j i' j' h1 h2=>(h.ord _ _ _ _ h1 h2).symm⟩
theorem Bi.trans {ρ σ:Nat->Nat->Prop}{q p t:List Nd}(h:Bi ρ q p)(g:Bi σ p t):Bi (fun i k=>∃j,ρ i j/\σ j k) q t:=
 ⟨fun i k ⟨j,h1,h2⟩=>by
  obtain⟨x,y,a1,a2,a3,a4,a5,a6,a7⟩:=h.node _ _ h1
  obtain⟨y',z,b1,b2,b3,b4,b5,b6,b7⟩:=g.node _ _ h2
  rw[a2]at b1;cases b1
  exact⟨x,z,a1,b2,a3.trans b3,a4.trans b4,a5.trans b5,fun hk=>⟨_,a6 hk,b6 (a3▸hk)⟩,fun hk=>⟨_,a7 hk,b7 (a3▸hk)⟩⟩,
  fun i k i' k' ⟨j,h1,h2⟩ ⟨j',h3,h4⟩=>(h.ord _ _ _ _ h1 h3).trans (g.ord _ _ _ _ h2 h4)⟩
theorem Bi.same {ρ:Nat->Nat->Prop}{q p:List Nd}(h:Bi ρ q p)(hq:Al q)(hp:Al p)(t1:∀i,i<q.length->∃j,ρ i j)(t2:∀j,j<p.length->∃i,ρ i j):q=p/\∀i j,ρ i j->i=j:=by
 have id1:∀i j,ρ i j->i=j:=by
  intro i
  induction i using Nat.strongRecOn with
  |_ i ih=>
   intro j hr
   obtain⟨x,y,hx,hy,_⟩:=h.node _ _ hr
   have li:=aQ hx
   have lj:=aQ hy
   have all:∀k,k<i->ρ k k:=fun k hk=>by
    obtain⟨j',hj'⟩:=t1 k (by omega)
    have:=ih k hk j' hj'
    rw[<-this]at hj';exact hj'
   rcases Nat.lt_trichotomy i j with hlt|he|hgt
   ·exfalso
    obtain⟨i',hi'⟩:=t2 i (by omega)
    have h1:=(h.ord _ _ _ _ hi' hr).2 hlt
    have h2:=(h.one hi' (all i' h1)).1 rfl
    omega
   ·exact he
   ·exfalso
    have:=(h.ord _ _ _ _ (all j hgt) hr).1 hgt
    omega
 refine⟨?_,id1⟩
 have hr:∀i,i<q.length->ρ i i:=fun i hi=>by
  obtain⟨j,hj⟩:=t1 i hi
  have:=id1 _ _ hj
  rw[<-this]at hj;exact hj
 have hlen:q.length=p.length:=by
  rcases Nat.lt_trichotomy q.length p.length with hlt|he|hgt
  ·obtain⟨i,hi⟩:=t2 q.length hlt
   have:=id1 _ _ hi
   obtain⟨x,y,hx,_⟩:=h.node _ _ hi
   have:=aQ hx
   omega
  ·exact he
  ·obtain⟨x,y,_,hy,_⟩:=h.node _ _ (hr p.length hgt)
   have:=aQ hy
   omega
 refine List.ext_getElem? fun i=>?_
 by_cases hi:i<q.length
 ·obtain⟨x,y,hx,hy,h3,h4,h5,h6,h7⟩:=h.node _ _ (hr i hi)
  rw[hx,hy]
  have ox:=hq _ _ hx
  have oy:=hp _ _ hy
  obtain⟨k1,n1,s1,a1,b1⟩:=x
  obtain⟨k2,n2,s2,a2,b2⟩:=y
  simp only at h3 h4 h5 h6 h7
  subst h3;subst h4;subst h5
  have hab:a1=a2/\b1=b2:=by
   by_cases e5:k1=5
   ·have u:=AH ox e5
    have v:=AH oy e5
    have w1:=id1 _ _ (h6 (.inl e5))
    have w2:=id1 _ _ (h7 e5)
    simp only at u v
    omega
   ·by_cases e6:k1=6\/k1=7
    ·have u:=BM ox e6
     have v:=BM oy e6
     have w1:=id1 _ _ (h6 (.inr e6))
     simp only at u v
     have zb:∀{a b:Int},okN ⟨k1,n1,s1,a,b⟩ (i:Int)=true->b=0:=by
      intro a b ho
      unfold okN at ho
      rcases e6 with e|e<;>subst e<;>simp at ho<;>exact ho.2.2.2
     rw[zb ox,zb oy]
     exact⟨by omega,rfl⟩
    ·have z:∀{a b:Int},okN ⟨k1,n1,s1,a,b⟩ (i:Int)=true->a=0/\b=0:=by
      intro a b ho
      unfold okN at ho
      simp only[e5,if_false]at ho
      have n6:¬k1=6:=fun e=>e6 (.inl e)
      have n7:¬k1=7:=fun e=>e6 (.inr e)
      simp only[n6,n7,if_false]at ho
      repeat' split at ho
      all_goals first|(simp at ho;done)|(simp at ho;exact ho.2.2)
     rw[(z ox).1,(z oy).1,(z ox).2,(z oy).2]
     exact⟨rfl,rfl⟩
  rw[hab.1,hab.2]
 ·rw[eS (by omega),eS (by omega)]
theorem TJ (d:Int){q:List Nd}{m:List Bool}(hm:m.length=q.length):∀(k:Nat)(pre:List Int)(acc:List Nd),pre.length+k=q.length ->
  (∀(i:Nat)(u:Int),m[i]? = some true->pre[i]? = some u->0<=u/\u<acc.length)->(∀(i i':Nat)(u u':Int),i<i'->m[i]? = some true->m[i']? = some true->pre[i]? = some u->pre[i']? = some u'->u<u') ->
  ∀(i i':Nat)(u u':Int),i<i'->m[i]? = some true->m[i']? = some true->(Ci d q m k pre acc).1[i]? = some u->(Ci d q m k pre acc).1[i']? = some u'->u<u'
 |0,pre,acc,hk,h1,h2=>h2
 |k+1,pre,acc,hk,h1,h2=>by
  obtain⟨x,hx⟩:=yM (l:=q) (i:=pre.length) (by omega)
  obtain⟨b,hb⟩:=yM (l:=m) (i:=pre.length) (by omega)
  have old:∀{i:Nat}{u v:Int},(pre++[v])[i]? = some u->(i<pre.length/\pre[i]? = some u)\/(i=pre.length/\u=v):=by
   intro i u v h
   by_cases hi:i<pre.length
   ·rw[cC hi]at h;exact .inl ⟨hi,h⟩
   ·have:=aQ h
    simp at this
    have e:i=pre.length:=by omega
    subst e
    simp at h
    exact .inr ⟨rfl,h.symm⟩
  simp only[Ci,hx,hb]
  cases b with
  |false=>
   refine TJ d hm k (pre++[d]) acc (by simp;omega) (fun i u hmi hu=>?_) (fun i i' u u' hlt hmi hmi' hu hu'=>?_)
   ·rcases old hu with ⟨_,h⟩|⟨e,_⟩
    ·exact h1 _ _ hmi h
    ·subst e;rw[hb]at hmi;cases hmi
   ·rcases old hu with ⟨_,h⟩|⟨e,_⟩
    ·rcases old hu' with ⟨_,h'⟩|⟨e,_⟩
     ·exact h2 _ _ _ _ hlt hmi hmi' h h'
     ·subst e;rw[hb]at hmi';cases hmi'
    ·subst e;rw[hb]at hmi;cases hmi
  |true=>
   refine TJ d hm k (pre++[(acc.length:Int)]) (acc++[Aq pre x]) (by simp;omega) (fun i u hmi hu=>?_) (fun i i' u u' hlt hmi hmi' hu hu'=>?_)
   ·rcases old hu with ⟨_,h⟩|⟨e,e2⟩
    ·have:=h1 _ _ hmi h
     simp;omega
    ·simp;omega
   ·rcases old hu with ⟨l1,h⟩|⟨e,e2⟩
    ·rcases old hu' with ⟨_,h'⟩|⟨e,e2⟩
     ·exact h2 _ _ _ _ hlt hmi hmi' h h'
     ·have:=h1 _ _ hmi h
      omega
    ·have:i'<pre.length+1:=by have:=aQ hu';simpa using this
     omega
theorem ZR {q:List Nd}(hq:Ac q=true){rs:List Int}(hr:Ap q rs=true)(d:Int) :
  Bi (fun i j=>Rch q rs i/\(Bc d q rs []).1[i]? = some (j:Int)) q (AA d q rs).1/\Al (AA d q rs).1 /\
  (∀j,j<(AA d q rs).1.length->∃i,Rch q rs i/\(Bc d q rs []).1[i]? = some (j:Int))/\(∀i,Rch q rs i->∃j:Nat,(Bc d q rs []).1[i]? = some (j:Int)):=by
 obtain⟨h1,h2⟩:=QU hq (acc:=[]) (fun j x h=>by simp at h) rs d
 have hm:(BG q rs).length=q.length:=CT q rs
 have hin:∀i,Rch q rs i->∃x,q[i]? = some x:=by
  intro i hi
  have:=aQ (DW hq hr hi)
  exact yM (by omega)
 have hto:∀i,Rch q rs i->∃(j:Nat)(x:Nd),q[i]? = some x/\(Bc d q rs []).1[i]? = some (j:Int)/\(Bc d q rs []).2[j]? = some (Aq (Bc d q rs []).1 x):=by
  intro i hi
  obtain⟨x,hx⟩:=hin i hi
  obtain⟨j,e1,e2⟩:=h2 i x hx (DW hq hr hi)
  exact⟨j,x,hx,e1,e2⟩
 have mono:∀(i i':Nat)(u u':Int),i<i'->(BG q rs)[i]? = some true->(BG q rs)[i']? = some true->(Bc d q rs []).1[i]? = some u->(Bc d q rs []).1[i']? = some u'->u<u':=
  TJ d hm q.length [] [] (by simp) (fun i u _ h=>by simp at h) (fun i i' u u' _ _ _ h=>by simp at h)
 refine⟨⟨fun i j hr'=>?_,fun i j i' j' g1 g2=>?_⟩,h1,fun j hj=>?_,fun i hi=>?_⟩
 ·obtain⟨hi,hj⟩:=hr'
  obtain⟨j',x,hx,e1,e2⟩:=hto i hi
  rw[hj]at e1
  have ej:j=j':=by injection e1 with e1;omega
  subst ej
  obtain⟨k1,k2,k3⟩:=R9 (Bc d q rs []).1 x
  have at':∀v:Int,Rch q rs v.toNat->(Bc d q rs []).1[v.toNat]? = some (((Bc d q rs []).1.getD v.toNat 0).toNat:Int):=by
   intro v hv
   obtain⟨j,_,_,e1,_⟩:=hto _ hv
   rw[aN,e1];rfl
  refine⟨x,_,hx,e2,k1.symm,k2.symm,k3.symm,fun hk=>?_,fun hk=>?_⟩
  ·have ra:=Rch.a hi hx hk
   refine⟨ra,?_⟩
   have ea:(Aq (Bc d q rs []).1 x).a=(Bc d q rs []).1.getD x.a.toNat 0:=by
    unfold Aq
    rcases hk with hk|hk
    ·rw[aG hk]
    ·rw[aD (by omega),aG hk]
   rw[ea];exact at' _ ra
  ·have rb:=Rch.b hi hx hk
   refine⟨rb,?_⟩
   have eb:(Aq (Bc d q rs []).1 x).b=(Bc d q rs []).1.getD x.b.toNat 0:=by
    unfold Aq;rw[aG hk]
   rw[eb];exact at' _ rb
 ·have c1:=DW hq hr g1.1
  have c2:=DW hq hr g2.1
  constructor
  ·intro h;have:=mono _ _ _ _ h c1 c2 g1.2 g2.2;omega
  ·intro h
   rcases Nat.lt_trichotomy i i' with h'|h'|h'
   ·exact h'
   ·subst h'
    have:=g1.2.symm.trans g2.2
    injection this with this;omega
   ·have:=mono _ _ _ _ h' c2 c1 g2.2 g1.2;omega
 ·obtain⟨i,a1,a2⟩:=PH d hm q.length [] [] (by simp) (fun j hj=>by simp at hj) j hj
  exact⟨i,Pm a1,a2⟩
 ·obtain⟨j,_,_,e1,_⟩:=hto i hi
  exact⟨j,e1⟩
noncomputable def Bis (ρ:Nat->Nat->Prop):List Int->List Int->Prop
 |[],[]=>True
 |r::rs,t::ts=>ρ r.toNat t.toNat/\Bis ρ rs ts
 |_,_=>False
theorem Bis.fwd {ρ:Nat->Nat->Prop}:∀{rs ts:List Int},Bis ρ rs ts->∀r∈rs,∃t∈ts,ρ r.toNat t.toNat
 |[],[],_,r,hr=>by simp at hr
 |r::rs,t::ts,h,x,hx=>by
  rcases bN.1 hx with rfl|hx
  ·exact⟨t,by simp,h.1⟩
  ·obtain⟨t',h1,h2⟩:=Bis.fwd h.2 x hx
   exact⟨t',by simp[h1],h2⟩
theorem Bis.flip {ρ:Nat->Nat->Prop}:∀{rs ts:List Int},Bis ρ rs ts->Bis (fun i j=>ρ j i) ts rs
 |[],[],_=>trivial
 |_::_,_::_,h=>⟨h.1,Bis.flip h.2⟩
theorem abE {ρ:Nat->Nat->Prop}{q p:List Nd}(h:Bi ρ q p){rs ts:List Int}(hb:Bis ρ rs ts){i:Nat}(hi:Rch q rs i):∃j,ρ i j/\Rch p ts j:=by
 induction hi with
 |root hr=>
  obtain⟨t,h1,h2⟩:=hb.fwd _ hr
  exact⟨_,h2,.root h1⟩
 |a hi hx hk ih=>
  obtain⟨j,h1,h2⟩:=ih
  obtain⟨x',y,e1,e2,e3,_,_,e6,_⟩:=h.node _ _ h1
  rw[hx]at e1;cases e1
  exact⟨_,e6 hk,.a h2 e2 (e3▸hk)⟩
 |b hi hx hk ih=>
  obtain⟨j,h1,h2⟩:=ih
  obtain⟨x',y,e1,e2,e3,_,_,_,e7⟩:=h.node _ _ h1
  rw[hx]at e1;cases e1
  exact⟨_,e7 hk,.b h2 e2 (e3▸hk)⟩
theorem af4 {ρ:Nat->Nat->Prop}{q p:List Nd}(h:Bi ρ q p)(hq:Ac q=true)(hp:Ac p=true){rs ts:List Int}(hr:Ap q rs=true)(ht:Ap p ts=true)(hb:Bis ρ rs ts)(d:Int):AA d q rs=AA d p ts:=by
 obtain⟨b1,o1,c1,d1⟩:=ZR hq hr d
 obtain⟨b2,o2,c2,d2⟩:=ZR hp ht d
 have hB:=(b1.flip.trans h).trans b2
 obtain⟨e,id1⟩:=hB.same o1 o2 (fun j hj=>by
  obtain⟨i,hi,hj'⟩:=c1 j hj
  obtain⟨i',h1,h2⟩:=abE h hb hi
  obtain⟨j',h3⟩:=d2 i' h2
  exact⟨j',i',⟨i,⟨hi,hj'⟩,h1⟩,h2,h3⟩) (fun j hj=>by
  obtain⟨i,hi,hj'⟩:=c2 j hj
  obtain⟨i',h1,h2⟩:=abE h.flip hb.flip hi
  obtain⟨j',h3⟩:=d1 i' h2
  exact⟨j',i,⟨i',⟨h2,h3⟩,h1⟩,hi,hj'⟩)
 have roots:∀(rs' ts':List Int),Bis ρ rs' ts'->(∀r∈rs',r∈rs)->(∀t∈ts',t∈ts)->(rs'.map fun r=>(Bc d q rs []).1.getD r.toNat 0)=ts'.map fun r=>(Bc d p ts []).1.getD r.toNat 0:=by
  intro rs'
  induction rs' with
  |nil=>
   intro ts' hb' _ _
   cases ts' with
   |nil=>rfl
   |cons _ _=>exact hb'.elim
  |cons r rs' ih=>
   intro ts' hb' h1 h2
   cases ts' with
   |nil=>exact hb'.elim
   |cons t ts'=>
    have r1:=Rch.root (q:=q) (h1 r (by simp))
    have r2:=Rch.root (q:=p) (h2 t (by simp))
    obtain⟨j1,e1⟩:=d1 _ r1
    obtain⟨j2,e2⟩:=d2 _ r2
    have ej:=id1 j1 j2 ⟨_,⟨_,⟨r1,e1⟩,hb'.1⟩,r2,e2⟩
    subst ej
    have:=ih ts' hb'.2 (fun x hx=>h1 x (by simp[hx])) (fun x hx=>h2 x (by simp[hx]))
    have hd:(Bc d q rs []).1.getD r.toNat 0=(Bc d p ts []).1.getD t.toNat 0:=by rw[aN,aN,e1,e2]
    rw[bR,bR,this,hd]
 exact Prod.ext e (roots rs ts hb (fun _ h=>h) (fun _ h=>h))
end Go.Eng
/-! a machine and one that holds the same: their steps,first part -/
namespace Go.Eng
noncomputable section

structure Grow (ρ:Nat->Nat->Prop) (q p:List Nd) (ρ':Nat->Nat->Prop) (q' p':List Nd):Prop where
 sub:∀i j,ρ i j->ρ' i j
 bi:Bi ρ' q' p'
 len:q'.length+p.length=p'.length+q.length
theorem Grow.refl {ρ:Nat->Nat->Prop}{q p:List Nd}(h:Bi ρ q p):Grow ρ q p ρ q p:=⟨fun _ _ h=>h,h,Nat.add_comm _ _⟩
theorem Grow.trans {ρ σ τ:Nat->Nat->Prop}{q p q1 p1 q2 p2:List Nd}(h:Grow ρ q p σ q1 p1)(g:Grow σ q1 p1 τ q2 p2):Grow ρ q p τ q2 p2:=
 ⟨fun i j hr=>g.sub _ _ (h.sub _ _ hr),g.bi,by have:=h.len;have:=g.len;omega⟩
def Nds (ρ:Nat->Nat->Prop)(x y:Nd):Prop:=x.kind=y.kind/\x.n=y.n/\x.s=y.s/\(kid x.kind->ρ x.a.toNat y.a.toNat)/\(x.kind=5->ρ x.b.toNat y.b.toNat)
theorem Bi.add {ρ:Nat->Nat->Prop}{q p:List Nd}(h:Bi ρ q p){x y:Nd}(hx:Nds ρ x y):∃ρ',Grow ρ q p ρ' (q++[x]) (p++[y])/\ρ' q.length p.length:=by
 have hl:∀i j,ρ i j->i<q.length/\j<p.length:=fun i j hr=>by
  obtain⟨x,y,h1,h2,_⟩:=h.node _ _ hr
  exact⟨aQ h1,aQ h2⟩
 refine⟨fun i j=>ρ i j\/(i=q.length/\j=p.length),⟨fun i j hr=>.inl hr,⟨fun i j hr=>?_,fun i j i' j' h1 h2=>?_⟩,by simp only[lnA,lnC,lnN];omega⟩,.inr ⟨rfl,rfl⟩⟩
 ·rcases hr with hr|⟨rfl,rfl⟩
  ·obtain⟨x',y',h1,h2,h3,h4,h5,h6,h7⟩:=h.node _ _ hr
   exact⟨x',y',by rw[cC (aQ h1)];exact h1,by rw[cC (aQ h2)];exact h2,h3,h4,h5,fun hk=>.inl (h6 hk),fun hk=>.inl (h7 hk)⟩
  ·exact⟨x,y,by simp,by simp,hx.1,hx.2.1,hx.2.2.1,fun hk=>.inl (hx.2.2.2.1 hk),fun hk=>.inl (hx.2.2.2.2 hk)⟩
 ·rcases h1 with h1|⟨rfl,rfl⟩
  ·rcases h2 with h2|⟨rfl,rfl⟩
   ·exact h.ord _ _ _ _ h1 h2
   ·have:=hl _ _ h1;omega
  ·rcases h2 with h2|⟨rfl,rfl⟩
   ·have:=hl _ _ h2;omega
   ·omega
def Vs (ρ:Nat->Nat->Prop)(v v':Int):Prop:=ρ v.toNat v'.toNat
theorem adr {p:List Nd}{v:Int}{x:Nd}(h:p[v.toNat]? = some x):nod p v=x:=by
 unfold nod;rw[aN,h];rfl
theorem Bi.nod {ρ:Nat->Nat->Prop}{q p:List Nd}(h:Bi ρ q p){v v':Int}(hv:Vs ρ v v'):Nds ρ (nod q v) (nod p v'):=by
 obtain⟨x,y,h1,h2,h3⟩:=h.node _ _ hv
 rw[adr h1,adr h2];exact h3
structure BiM (ρ:Nat->Nat->Prop) (m m':Mc):Prop where
 bi:Bi ρ m.pool m'.pool
 at':m.at'=m'.at'
 s:Vs ρ m.s m'.s
 e:Vs ρ m.e m'.e
 d:Vs ρ m.d m'.d
 state:m.state=m'.state
 ask:m.ask=m'.ask
 arg:m.arg=m'.arg
theorem agi {ρ:Nat->Nat->Prop}{m m':Mc}(h:BiM ρ m m'){v v':Int}(hv:Vs ρ v v'):∃ρ',Grow ρ m.pool m'.pool ρ' (Jx m v).pool (Jx m' v').pool/\BiM ρ' (Jx m v) (Jx m' v'):=by
 obtain⟨ρ',g,h2⟩:=h.bi.add (x:=ndP v m.s) (y:=ndP v' m'.s) ⟨rfl,rfl,rfl,fun _=>hv,fun _=>h.s⟩
 exact⟨ρ',g,⟨g.bi,h.at',by simpa[Vs,Jx]using h2,g.sub _ _ h.e,g.sub _ _ h.d,h.state,h.ask,h.arg⟩⟩
theorem WJ {ρ:Nat->Nat->Prop}{m m':Mc}(h:BiM ρ m m'):(D3 m=none/\D3 m'=none)\/∃v v' n n',D3 m=some (v,n)/\D3 m'=some (v',n')/\Vs ρ v v'/\BiM ρ n n'/\n.pool=m.pool/\n'.pool=m'.pool:=by
 obtain⟨h1,h2,h3,h4,h5⟩:=h.bi.nod h.s
 unfold D3
 by_cases hk:(Go.Eng.nod m.pool m.s).kind=5
 ·rw[aG hk,aG (h1▸hk)]
  exact .inr ⟨_,_,_,_,rfl,rfl,h4 (.inl hk),⟨h.bi,h.at',h5 hk,h.e,h.d,h.state,h.ask,h.arg⟩,rfl,rfl⟩
 ·rw[aD hk,aD (h1▸hk)]
  exact .inl ⟨rfl,rfl⟩
def Ls (ρ:Nat->Nat->Prop):List Int->List Int->Prop
 |[],[]=>True
 |v::l,v'::l'=>Vs ρ v v'/\Ls ρ l l'
 |_,_=>False
theorem Ls.len {ρ:Nat->Nat->Prop}:∀{l l':List Int},Ls ρ l l'->l.length=l'.length
 |[],[],_=>rfl
 |_::_,_::_,h=>by simp[Ls.len h.2]
theorem Ls.mono {ρ ρ':Nat->Nat->Prop}(hs:∀i j,ρ i j->ρ' i j):∀{l l':List Int},Ls ρ l l'->Ls ρ' l l'
 |[],[],_=>trivial
 |_::_,_::_,h=>⟨hs _ _ h.1,Ls.mono hs h.2⟩
theorem Ls.app {ρ:Nat->Nat->Prop}:∀{l l' k k':List Int},Ls ρ l l'->Ls ρ k k'->Ls ρ (l++k) (l'++k')
 |[],[],_,_,_,h=>h
 |_::_,_::_,_,_,h,h2=>⟨h.1,Ls.app h.2 h2⟩
theorem Ls.rev {ρ:Nat->Nat->Prop}:∀{l l':List Int},Ls ρ l l'->Ls ρ l.reverse l'.reverse
 |[],[],_=>trivial
 |v::l,v'::l',h=>by
  rw[List.reverse_cons,List.reverse_cons]
  exact(Ls.rev h.2).app ⟨h.1,trivial⟩
theorem Ls.drop {ρ:Nat->Nat->Prop}:∀{l l':List Int}(k:Nat),Ls ρ l l'->Ls ρ (l.drop k) (l'.drop k)
 |[],[],k,_=>by simp[Ls]
 |_::_,_::_,0,h=>h
 |_::_,_::_,k+1,h=>Ls.drop k h.2
theorem Ls.get {ρ:Nat->Nat->Prop}:∀{l l':List Int}(k:Nat),Ls ρ l l'->k<l.length->Vs ρ (l.getD k 0) (l'.getD k 0)
 |[],[],k,_,hk=>by simp at hk
 |_::_,_::_,0,h,_=>h.1
 |_::_,_::_,k+1,h,hk=>by simpa using Ls.get k h.2 (by simpa using hk)
theorem Yw:∀(k:Nat){ρ:Nat->Nat->Prop}{m m':Mc},BiM ρ m m'->(Ef k m=none/\Ef k m'=none)\/∃l l' n n',Ef k m=some (l,n)/\Ef k m'=some (l',n')/\Ls ρ l l'/\l.length=k/\BiM ρ n n'/\n.pool=m.pool/\n'.pool=m'.pool
 |0,ρ,m,m',h=>.inr ⟨[],[],m,m',rfl,rfl,trivial,rfl,h,rfl,rfl⟩
 |k+1,ρ,m,m',h=>by
  simp only[Ef]
  rcases WJ h with ⟨e1,e2⟩|⟨v,v',n,n',e1,e2,hv,hn,p1,p2⟩
  ·rw[e1,e2];exact .inl ⟨rfl,rfl⟩
  ·rw[e1,e2]
   rcases Yw k hn with ⟨f1,f2⟩|⟨l,l',t,t',f1,f2,hl,hk,ht,p3,p4⟩
   ·simp only[f1,f2];exact .inl ⟨trivial,trivial⟩
   ·simp only[f1,f2]
    exact .inr ⟨_,_,_,_,rfl,rfl,⟨hv,hl⟩,by simp[hk],ht,p3.trans p1,p4.trans p2⟩
theorem Z3:∀(k:Nat){ρ:Nat->Nat->Prop}{q p:List Nd},Bi ρ q p->∀{v v':Int},Vs ρ v v'->(JT q k v=none/\JT p k v'=none)\/∃u u',JT q k v=some u/\JT p k v'=some u'/\Vs ρ u u'
 |0,ρ,q,p,h,v,v',hv=>by
  obtain⟨h1,h2,h3,h4,h5⟩:=h.nod hv
  simp only[JT]
  by_cases hk:(Go.Eng.nod q v).kind=5
  ·rw[aG hk,aG (h1▸hk)];exact .inr ⟨_,_,rfl,rfl,h4 (.inl hk)⟩
  ·rw[aD hk,aD (h1▸hk)];exact .inl ⟨rfl,rfl⟩
 |k+1,ρ,q,p,h,v,v',hv=>by
  obtain⟨h1,h2,h3,h4,h5⟩:=h.nod hv
  simp only[JT]
  by_cases hk:(Go.Eng.nod q v).kind=5
  ·rw[aG hk,aG (h1▸hk)];exact Z3 k h (h5 hk)
  ·rw[aD hk,aD (h1▸hk)];exact .inl ⟨rfl,rfl⟩
end
end Go.Eng
/-! a machine and one that holds the same: their steps,second part -/
namespace Go.Eng

theorem adp {ρ:Nat->Nat->Prop}{q p:List Nd}(h:Bi ρ q p)(hq:Al q)(hp:Al p):∀(k k':Nat){v v':Int},Vs ρ v v'->v.toNat<k->v'.toNat<k'->Ls ρ (IJ q k v).1 (IJ p k' v').1/\(IJ q k v).2=(IJ p k' v').2
 |0,k',v,v',hv,h1,h2=>by omega
 |k+1,0,v,v',hv,h1,h2=>by omega
 |k+1,k'+1,v,v',hv,h1,h2=>by
  obtain⟨x,y,e1,e2,e3,e4,e5,e6,e7⟩:=h.node _ _ hv
  simp only[IJ,adr e1,adr e2]
  by_cases hk:x.kind=5
  ·rw[aG hk,aG (e3▸hk)]
   have ox:=AH (hq _ _ e1) hk
   have oy:=AH (hp _ _ e2) (e3▸hk)
   obtain⟨i1,i2⟩:=adp h hq hp k k' (v:=x.b) (v':=y.b) (e7 hk) (by omega) (by omega)
   exact⟨⟨e6 (.inl hk),i1⟩,i2⟩
  ·rw[aD hk,aD (e3▸hk)]
   exact⟨trivial,by rw[e3]⟩
theorem Yd {ρ:Nat->Nat->Prop}{q p:List Nd}(h:Bi ρ q p)(hq:Al q)(hp:Al p)(c:Cd)(many:Nat){v v':Int}(hv:Vs ρ v v') :
  (Ie c q v many=none/\Ie c p v' many=none)\/∃n r r',Ie c q v many=some (n,r)/\Ie c p v' many=some (n,r')/\Ls ρ r r'/\r.length+1=many:=by
 obtain⟨i1,i2⟩:=adp h hq hp (v.toNat+1) (v'.toNat+1) hv (by omega) (by omega)
 unfold Ie
 unfold Cw
 cases hl:IJ q (v.toNat+1) v with
 |mk l f=>
  cases hl':IJ p (v'.toNat+1) v' with
  |mk l' f'=>
   rw[hl,hl']at i1 i2
   simp only at i1 i2
   subst i2
   match l,l',i1 with
   |[],[],_=>exact .inl ⟨rfl,rfl⟩
   |a::r,a'::r',i1=>
    cases f with
    |false=>exact .inl ⟨rfl,rfl⟩
    |true=>
     obtain⟨h1,h2,_⟩:=h.nod i1.1
     simp only
     rw[<-h1,<-h2,<-i1.2.len]
     split
     ·rename_i hc
      exact .inr ⟨_,_,_,rfl,rfl,i1.2,hc.1⟩
     ·exact .inl ⟨rfl,rfl⟩
noncomputable def Ans (ρ:Nat->Nat->Prop) (m m':Mc) (r r':Except Int Mc):Prop:=match r,r' with
 |.error h,.error h'=>h=h'
 |.ok n,.ok n'=>∃ρ',Grow ρ m.pool m'.pool ρ' n.pool n'.pool/\BiM ρ' n n'
 |_,_=>False
theorem Ans.over {ρ ρ1:Nat->Nat->Prop}{m m' n n':Mc}{r r':Except Int Mc}(g:Grow ρ m.pool m'.pool ρ1 n.pool n'.pool)(h:Ans ρ1 n n' r r'):Ans ρ m m' r r':=by
 unfold Ans at h⊢
 cases r<;>cases r'<;>simp only at h⊢
 ·exact h
 ·obtain⟨ρ',g2,h2⟩:=h;exact⟨ρ',g.trans g2,h2⟩
theorem Nc {ρ:Nat->Nat->Prop}{m m':Mc}(h:BiM ρ m m'){v v':Int}(hv:Vs ρ v v'):Ans ρ m m' (.ok (Jx m v)) (.ok (Jx m' v')):=agi h hv
theorem BiM.pool {ρ ρ':Nat->Nat->Prop}{m m':Mc}{q p:List Nd}(h:BiM ρ m m')(g:Grow ρ m.pool m'.pool ρ' q p):BiM ρ' ⟨q,m.at',m.s,m.e,m.d,m.state,m.ask,m.arg⟩ ⟨p,m'.at',m'.s,m'.e,m'.d,m'.state,m'.ask,m'.arg⟩:=
 ⟨g.bi,h.at',g.sub _ _ h.s,g.sub _ _ h.e,g.sub _ _ h.d,h.state,h.ask,h.arg⟩
theorem agt {ρ:Nat->Nat->Prop}{m m':Mc}(h:BiM ρ m m')(o i:Int):Ans ρ m m' (UQ m o i) (UQ m' o i):=by
 unfold UQ
 rcases Z3 o.toNat h.bi h.e with ⟨e1,e2⟩|⟨u,u',e1,e2,hu⟩
 ·rw[e1,e2];exact rfl
 ·rw[e1,e2]
  rcases Z3 i.toNat h.bi hu with ⟨f1,f2⟩|⟨v,v',f1,f2,hv⟩
  ·simp only[f1,f2];exact rfl
  ·simp only[f1,f2];exact Nc h hv
theorem Fk {ρ:Nat->Nat->Prop}{x:Nd}(hk:¬kid x.kind):Nds ρ x x:=⟨rfl,rfl,rfl,fun h=>absurd h hk,fun h=>absurd (.inl h) hk⟩
theorem ae4 {ρ:Nat->Nat->Prop}{m m':Mc}(h:BiM ρ m m')(c:Cd)(s:ByteArray):Ans ρ m m' (Kw c m s) (Kw c m' s):=by
 unfold Kw
 split
 ·obtain⟨ρ1,g1,h1⟩:=h.bi.add (x:=ndN) (y:=ndN) (Fk (by simp[kid]))
  obtain⟨ρ2,g2,h2⟩:=g1.bi.add (x:=ndF (8*(c.defs.getD (EW c s).toNat ⟨⟨#[]⟩,0,0⟩).at'+(c.defs.getD (EW c s).toNat ⟨⟨#[]⟩,0,0⟩).args) m.pool.length) (y:=ndF (8*(c.defs.getD (EW c s).toNat ⟨⟨#[]⟩,0,0⟩).at'+(c.defs.getD (EW c s).toNat ⟨⟨#[]⟩,0,0⟩).args) m'.pool.length) ⟨rfl,rfl,rfl,fun _=>by simpa using h1,fun e=>by cases e⟩
  have g:=g1.trans g2
  refine Ans.over (n:=⟨_,m.at',m.s,m.e,m.d,m.state,m.ask,m.arg⟩) (n':=⟨_,m'.at',m'.s,m'.e,m'.d,m'.state,m'.ask,m'.arg⟩) g (Nc (h.pool g) ?_)
  have:Vs ρ2 ((m.pool++[ndN]).length:Int) ((m'.pool++[ndN]).length:Int):=by simpa[Vs]using h2
  simpa using this
 ·split
  ·exact rfl
  ·obtain⟨ρ1,g1,h1⟩:=h.bi.add (x:=ndR (EO s)) (y:=ndR (EO s)) (Fk (by simp[kid]))
   refine Ans.over (n:=⟨_,m.at',m.s,m.e,m.d,m.state,m.ask,m.arg⟩) (n':=⟨_,m'.at',m'.s,m'.e,m'.d,m'.state,m'.ask,m'.arg⟩) g1 (Nc (h.pool g1) ?_)
   simpa[Vs]using h1
theorem VX:∀{l l':List Int}{ρ:Nat->Nat->Prop}{q p:List Nd}{a a':Nat},Bi ρ q p->Ls ρ l l'->ρ a a'->∃ρ',Grow ρ q p ρ' (CM l q a).1 (CM l' p a').1/\ρ' (CM l q a).2 (CM l' p a').2
 |[],[],ρ,q,p,a,a',h,_,ha=>⟨ρ,Grow.refl h,ha⟩
 |v::l,v'::l',ρ,q,p,a,a',h,hl,ha=>by
  obtain⟨ρ1,g1,h1⟩:=h.add (x:=⟨5,0,⟨#[]⟩,v,(a:Int)⟩) (y:=⟨5,0,⟨#[]⟩,v',(a':Int)⟩) ⟨rfl,rfl,rfl,fun _=>hl.1,fun _=>by simpa using ha⟩
  obtain⟨ρ2,g2,h2⟩:=VX (l:=l) (l':=l') g1.bi (hl.2.mono g1.sub) h1
  exact⟨ρ2,g1.trans g2,h2⟩
theorem RY {l l':List Int}{ρ:Nat->Nat->Prop}{q p:List Nd}(h:Bi ρ q p)(hl:Ls ρ l l'):∃ρ',Grow ρ q p ρ' (Af q l).1 (Af p l').1/\ρ' (Af q l).2 (Af p l').2:=by
 obtain⟨ρ1,g1,h1⟩:=h.add (x:=ndN) (y:=ndN) (Fk (by simp[kid]))
 obtain⟨ρ2,g2,h2⟩:=VX (l:=l.reverse) (l':=l'.reverse) g1.bi (hl.rev.mono g1.sub) h1
 exact⟨ρ2,g1.trans g2,h2⟩
theorem adP {ρ:Nat->Nat->Prop}{m m':Mc}(h:BiM ρ m m')(c:Cd){f f':Nd}(hf:Nds ρ f f')(h6:f.kind=6){l l':List Int}(hl:Ls ρ l l'):Ans ρ m m' (GZ c m f l) (GZ c m' f' l'):=by
 unfold GZ
 rw[<-hf.2.1,<-hl.len]
 split
 ·exact rfl
 ·split
  ·exact rfl
  ·obtain⟨ρ1,g1,h1⟩:=h.bi.add (x:=ndI (m.at'+1)) (y:=ndI (m'.at'+1)) (by rw[h.at'];exact Fk (by simp[kid]))
   obtain⟨ρ2,g2,h2⟩:=RY (l:=[(m.pool.length:Int),m.s,m.e]) (l':=[(m'.pool.length:Int),m'.s,m'.e]) g1.bi ⟨by simpa[Vs]using h1,g1.sub _ _ h.s,g1.sub _ _ h.e,trivial⟩
   have g12:=g1.trans g2
   obtain⟨ρ3,g3,h3⟩:=g2.bi.add (x:=ndP (Af (m.pool++[ndI (m.at'+1)]) [(m.pool.length:Int),m.s,m.e]).2 m.d) (y:=ndP (Af (m'.pool++[ndI (m'.at'+1)]) [(m'.pool.length:Int),m'.s,m'.e]).2 m'.d) ⟨rfl,rfl,rfl,fun _=>by simpa using h2,fun _=>g12.sub _ _ h.d⟩
   have g13:=g12.trans g3
   obtain⟨ρ4,g4,h4⟩:=RY (l:=l) (l':=l') g3.bi (hl.mono g13.sub)
   have g14:=g13.trans g4
   obtain⟨ρ5,g5,h5⟩:=g4.bi.add (x:=ndP (Af ((Af (m.pool++[ndI (m.at'+1)]) [(m.pool.length:Int),m.s,m.e]).1++[ndP (Af (m.pool++[ndI (m.at'+1)]) [(m.pool.length:Int),m.s,m.e]).2 m.d]) l).2 f.a) (y:=ndP (Af ((Af (m'.pool++[ndI (m'.at'+1)]) [(m'.pool.length:Int),m'.s,m'.e]).1++[ndP (Af (m'.pool++[ndI (m'.at'+1)]) [(m'.pool.length:Int),m'.s,m'.e]).2 m'.d]) l').2 f'.a) ⟨rfl,rfl,rfl,fun _=>by simpa using h4,fun _=>g14.sub _ _ (hf.2.2.2.1 (.inr (.inl h6)))⟩
   have g15:=g14.trans g5
   obtain⟨ρ6,g6,h6'⟩:=g5.bi.add (x:=ndN) (y:=ndN) (Fk (by simp[kid]))
   have g16:=g15.trans g6
   refine⟨ρ6,g16,⟨g16.bi,rfl,?_,?_,?_,h.state,h.ask,h.arg⟩⟩
   ·simpa[Vs]using h6'
   ·have:=g6.sub _ _ h5
    simpa[Vs]using this
   ·have:=g6.sub _ _ (g5.sub _ _ (g4.sub _ _ h3))
    simpa[Vs]using this
theorem agl {ρ:Nat->Nat->Prop}{m m':Mc}(h:BiM ρ m m')(hq:Al m.pool)(hp:Al m'.pool)(c:Cd){st st':Int}(hs:Vs ρ st st'){l l':List Int}(hl:Ls ρ l l'):Ans ρ m m' (Sr c m st l) (Sr c m' st' l'):=by
 unfold Sr
 rw[<-hl.len]
 split
 ·exact rfl
 ·rename_i hlen
  rcases Yd h.bi hq hp c 4 hs with ⟨e1,e2⟩|⟨n,r,r',e1,e2,hr,hn⟩
  ·rw[e1,e2];exact rfl
  ·rw[e1,e2]
   match r,r',hr,hn with
   |[s,e,d],[s',e',d'],hr,_=>
    exact Nc (m:=⟨m.pool,n,s,e,d,m.state,m.ask,m.arg⟩) (m':=⟨m'.pool,n,s',e',d',m'.state,m'.ask,m'.arg⟩) ⟨h.bi,rfl,hr.1,hr.2.1,hr.2.2.1,h.state,h.ask,h.arg⟩ (hl.get 0 (by omega))
end Go.Eng
/-! which nodes are alike: by their trees -/
namespace Go.Eng

inductive Alk (q p:List Nd):Nat->Nat->Prop where
 |mk (v u:Nat) (x y:Nd):q[v]? = some x->p[u]? = some y->x.kind=y.kind->x.n=y.n->x.s=y.s->((x.kind=5\/x.kind=6\/x.kind=7)->Alk q p x.a.toNat y.a.toNat)->(x.kind=5->Alk q p x.b.toNat y.b.toNat)->Alk q p v u
theorem Alk.left {q p:List Nd}{v u:Nat}(h:Alk q p v u)(e:List Nd):Alk (q++e) p v u:=by
 induction h with
 |mk v u x y h1 h2 h3 h4 h5 h6 h7 ih1 ih2=>exact .mk v u x y (by rw[cC (aQ h1)];exact h1) h2 h3 h4 h5 ih1 ih2
theorem Alk.right {q p:List Nd}{v u:Nat}(h:Alk q p v u)(e:List Nd):Alk q (p++e) v u:=by
 induction h with
 |mk v u x y h1 h2 h3 h4 h5 h6 h7 ih1 ih2=>exact .mk v u x y h1 (by rw[cC (aQ h2)];exact h2) h3 h4 h5 ih1 ih2

noncomputable def S6 (keys:List Nd) (key:Nd) (i:Nat):Int:=match keys.findIdx? (fun y=>Ij y key) with|some k=>(k:Int)|none=>(i:Int)
theorem QK (x:Nd)(r:List Nd)(out:List Int)(keys:List Nd):Nf (x::r) out keys=Nf r (out++[S6 keys (Az out x) out.length]) (keys++[Az out x]):=rfl
theorem aaB:∀(r:List Nd)(out:List Int)(keys:List Nd),∃a b,Nf r out keys=(out++a,keys++b)
 |[],out,keys=>⟨[],[],by simp[Nf]⟩
 |x::r,out,keys=>by
  obtain⟨a,b,h⟩:=aaB r (out++[S6 keys (Az out x) out.length]) (keys++[Az out x])
  exact⟨S6 keys (Az out x) out.length::a,Az out x::b,by rw[QK,h];simp⟩
structure ClOf (O:List Int) (K:List Nd) (i:Nat) (x:Nd):Prop where
 key:K[i]? = some (Az (O.take i) x)
 out:O[i]? = some (S6 (K.take i) (Az (O.take i) x) i)
theorem Rl:∀(r:List Nd)(out:List Int)(keys:List Nd),out.length=keys.length->∀(j:Nat)(x:Nd),r[j]? = some x->ClOf (Nf r out keys).1 (Nf r out keys).2 (out.length+j) x
 |[],out,keys,hl,j,x,h=>by simp at h
 |y::r,out,keys,hl,j,x,h=>by
  rw[QK]
  match j with
  |0=>
   simp only[eD,cA]at h
   subst h
   obtain⟨a,b,e⟩:=aaB r (out++[S6 keys (Az out y) out.length]) (keys++[Az out y])
   rw[e]
   have t1:(out++[S6 keys (Az out y) out.length]++a).take (out.length+0)=out:=by
    rw[Nat.add_zero,bD,List.take_left]
   have t2:(keys++[Az out y]++b).take (out.length+0)=keys:=by
    rw[Nat.add_zero,hl,bD,List.take_left]
   refine⟨?_,?_⟩
   ·show(keys++[Az out y]++b)[out.length+0]? = _
    rw[t1,Nat.add_zero,hl,bD,List.getElem?_append_right (cB _)]
    simp
   ·show(out++[S6 keys (Az out y) out.length]++a)[out.length+0]? = _
    rw[t1,t2,Nat.add_zero,bD,List.getElem?_append_right (cB _)]
    simp
  |j+1=>
   simp only[eG]at h
   have:=Rl r (out++[S6 keys (Az out y) out.length]) (keys++[Az out y]) (by simp[hl]) j x h
   rw[lnA,lnC,lnN]at this
   rw[show out.length+(j+1)=out.length+(0+1)+j by omega]
   exact this
theorem XR {K:List Nd}{i j:Nat}{key:Nd}(hij:i<=j)(_:j<=K.length)(hi:K[i]? = some key):S6 (K.take i) key i=S6 (K.take j) key j\/i=j:=by
 by_cases e:i=j
 ·exact .inr e
 refine .inl ?_
 have hsplit:K.take j=K.take i++(K.drop i).take (j-i):=by
  rw[<-List.take_add];congr 1;omega
 have hd:(K.drop i).take (j-i)=key::(K.drop (i+1)).take (j-i-1):=by
  rw[vc hi,show j-i=(j-i-1)+1 by omega,List.take_succ_cons]
  congr 2
 have hk:Ij key key=true:=ndEq_iff.2 rfl
 unfold S6
 rw[hsplit,hd,List.findIdx?_append]
 have hli:(K.take i).length=i:=by rw[cS];have:=aQ hi;omega
 cases h:(K.take i).findIdx? (fun y=>Ij y key) with
 |some k=>simp
 |none=>simp[List.findIdx?_cons,hk,hli]
theorem afU {p:List Nd}{i j:Nat}{x y:Nd}(hx:p[i]? = some x)(hy:p[j]? = some y)(hk:Az ((FA p).take i) x=Az ((FA p).take j) y):(FA p)[i]? = (FA p)[j]?:=by
 have a:=Rl p [] [] rfl i x hx
 have b:=Rl p [] [] rfl j y hy
 rw[lnN,bX]at a b
 have e:FA p=(Nf p [] []).1:=rfl
 rw[e]at hk⊢
 obtain⟨a1,a2⟩:=a
 obtain⟨b1,b2⟩:=b
 rw[hk]at a1 a2
 have li:=aQ a1
 have lj:=aQ b1
 rw[a2,b2]
 rcases Nat.le_total i j with h|h
 ·rcases XR h (by omega) a1 with q|q
  ·rw[q]
  ·subst q;rfl
 ·rcases XR h (by omega) b1 with q|q
  ·rw[q]
  ·subst q;rfl
theorem ac5 (p:List Nd):(FA p).length=p.length:=by
 have h:∀(r:List Nd)(out:List Int)(keys:List Nd),(Nf r out keys).1.length=out.length+r.length:=by
  intro r
  induction r with
  |nil=>intro out keys;simp[Nf]
  |cons x r ih=>intro out keys;rw[QK,ih];simp;omega
 have:=h p [] []
 simp at this
 exact this
theorem afN {p:List Nd}(hp:Al p){v u:Nat}(h:Alk p p v u):(FA p)[v]? = (FA p)[u]?:=by
 induction h with
 |mk v u x y h1 h2 h3 h4 h5 h6 h7 ih1 ih2=>
  refine afU h1 h2 ?_
  have ox:=hp v x h1
  have oy:=hp u y h2
  have lv:=aQ h1
  have lu:=aQ h2
  have ch:∀{a b:Int}{i j:Nat},0<=a->a<(i:Int)->0<=b->b<(j:Int)->i<=p.length->j<=p.length->(FA p)[a.toNat]? = (FA p)[b.toNat]?->((FA p).take i).getD a.toNat 0=((FA p).take j).getD b.toNat 0:=by
   intro a b i j a0 a1 b0 b1 _ _ he
   rw[aN,aN,List.getElem?_take,List.getElem?_take,aG (by omega),aG (by omega),he]
  unfold Az
  by_cases k5:x.kind=5
  ·have k5':y.kind=5:=by rw[<-h3];exact k5
   have px:=AH ox k5
   have py:=AH oy k5'
   rw[aG k5,aG k5',h3,h4,h5,ch px.1 px.2.1 py.1 py.2.1 (by omega) (by omega) (ih1 (.inl k5)),ch px.2.2.1 px.2.2.2 py.2.2.1 py.2.2.2 (by omega) (by omega) (ih2 k5)]
  ·have k5':¬y.kind=5:=by rw[<-h3];exact k5
   rw[aD k5,aD k5']
   by_cases k67:x.kind=6\/x.kind=7
   ·have k67':y.kind=6\/y.kind=7:=by rw[<-h3];exact k67
    have px:=BM ox k67
    have py:=BM oy k67'
    have bx:x.b=0:=by rcases k67 with k|k<;>(simp[okN,k]at ox;omega)
    have by':y.b=0:=by rcases k67' with k|k<;>(simp[okN,k]at oy;omega)
    rw[aG k67,aG k67',h3,h4,h5,ch px.1 px.2 py.1 py.2 (by omega) (by omega) (ih1 (.inr k67)),bx,by']
   ·have k67':¬(y.kind=6\/y.kind=7):=by rw[<-h3];exact k67
    rw[aD k67,aD k67']
    have flat0:∀{z:Nd}{i:Int},okN z i=true->z.kind≠5->¬(z.kind=6\/z.kind=7)->z.a=0/\z.b=0:=by
     intro z i hz k5 k67
     unfold okN at hz
     repeat' split at hz
     all_goals first
      |(exfalso;omega)
      |(cases hz;done)
      |(simp only[aB,beq_iff_eq]at hz;exact⟨hz.2.2.1,hz.2.2.2⟩)
    obtain⟨a1,a2⟩:=flat0 ox k5 k67
    obtain⟨b1,b2⟩:=flat0 oy k5' k67'
    cases x;cases y
    simp only at h3 h4 h5 a1 a2 b1 b2
    rw[h3,h4,h5,a1,a2,b1,b2]
theorem aey {p:List Nd}(hp:Al p){a b:Int}(h:Alk p p a.toNat b.toNat):Qv p a b=true:=by
 unfold Qv
 rw[aN,aN,afN hp h]
 simp
end Go.Eng
/-! one class: one tree -/
namespace Go.Eng

theorem aaA {K:List Nd}{i:Nat}{key:Nd}(hi:K[i]? = some key):∃k:Nat,S6 (K.take i) key i=(k:Int)/\K[k]? = some key:=by
 unfold S6
 cases hf:(K.take i).findIdx? (fun y=>Ij y key) with
 |none=>exact⟨i,rfl,hi⟩
 |some k=>
  have h1:=List.findIdx?_eq_some_iff_getElem.1 hf
  obtain⟨hk,h2,_⟩:=h1
  refine⟨k,rfl,?_⟩
  have h3:=ndEq_iff.1 h2
  rw[List.getElem_take]at h3
  rw[cS]at hk
  rw[cL (by omega),h3]
theorem aeO {p:List Nd}{i j:Nat}{x y:Nd}(hx:p[i]? = some x)(hy:p[j]? = some y)(hk:(FA p)[i]? = (FA p)[j]?):Az ((FA p).take i) x=Az ((FA p).take j) y:=by
 have a:=Rl p [] [] rfl i x hx
 have b:=Rl p [] [] rfl j y hy
 rw[lnN,bX]at a b
 have e:FA p=(Nf p [] []).1:=rfl
 rw[e]at hk⊢
 obtain⟨a1,a2⟩:=a
 obtain⟨b1,b2⟩:=b
 obtain⟨k,c1,c2⟩:=aaA a1
 obtain⟨k',d1,d2⟩:=aaA b1
 rw[a2,b2,c1,d1]at hk
 injection hk with hk
 have:k=k':=by omega
 subst this
 rw[c2]at d2
 injection d2
theorem ac4 {p:List Nd}(hp:Al p):∀(n v u:Nat),v<n->u<n->v<p.length->u<p.length->(FA p)[v]? = (FA p)[u]?->Alk p p v u
 |0,v,u,h1,_,_,_,_=>by omega
 |n+1,v,u,h1,h2,hv,hu,hc=>by
  obtain⟨x,hx⟩:=yM hv
  obtain⟨y,hy⟩:=yM hu
  have hk:=aeO hx hy hc
  have ox:=hp _ _ hx
  have oy:=hp _ _ hy
  have kx:∀{i:Nat}{z:Nd},(Az ((FA p).take i) z).kind=z.kind/\(Az ((FA p).take i) z).n=z.n/\(Az ((FA p).take i) z).s=z.s:=by
   intro i z;unfold Az;split
   ·exact⟨rfl,rfl,rfl⟩
   ·split<;>exact⟨rfl,rfl,rfl⟩
  have e1:x.kind=y.kind:=by rw[<-(kx (i:=v) (z:=x)).1,hk,(kx (i:=u) (z:=y)).1]
  have e2:x.n=y.n:=by rw[<-(kx (i:=v) (z:=x)).2.1,hk,(kx (i:=u) (z:=y)).2.1]
  have e3:x.s=y.s:=by rw[<-(kx (i:=v) (z:=x)).2.2,hk,(kx (i:=u) (z:=y)).2.2]
  have sub:∀{a b:Int},0<=a->a<v->0<=b->b<u->((FA p).take v).getD a.toNat 0=((FA p).take u).getD b.toNat 0->Alk p p a.toNat b.toNat:=by
   intro a b a0 a1 b0 b1 he
   have l1:=ac5 p
   refine ac4 hp n a.toNat b.toNat (by omega) (by omega) (by omega) (by omega) ?_
   rw[aN,aN,List.getElem?_take_of_lt (by omega),List.getElem?_take_of_lt (by omega)]at he
   obtain⟨w1,g1⟩:=yM (l:=FA p) (i:=a.toNat) (by omega)
   obtain⟨w2,g2⟩:=yM (l:=FA p) (i:=b.toNat) (by omega)
   rw[g1,g2]at he⊢
   simpa using he
  refine .mk v u x y hx hy e1 e2 e3 (fun h=>?_) (fun h=>?_)
  ·by_cases h5:x.kind=5
   ·have u1:=AH ox h5
    have u2:=AH oy (e1▸h5)
    simp only[Az,h5,<-e1,if_true,Nd.mk.injEq,true_and]at hk
    exact sub u1.1 u1.2.1 u2.1 u2.2.1 hk.2.2.1
   ·have h6:x.kind=6\/x.kind=7:=by rcases h with h|h|h<;>simp_all
    have u1:=BM ox h6
    have u2:=BM oy (e1▸h6)
    simp only[Az,h5,h6,<-e1,if_true,if_false,Nd.mk.injEq,true_and]at hk
    exact sub u1.1 u1.2 u2.1 u2.2 hk.2.2.1
  ·have u1:=AH ox h
   have u2:=AH oy (e1▸h)
   simp only[Az,h,<-e1,if_true,Nd.mk.injEq,true_and]at hk
   exact sub u1.2.2.1 u1.2.2.2 u2.2.2.1 u2.2.2.2 hk.2.2.2
theorem abJ {p:List Nd}(hp:Al p){a b:Int}(ha:a.toNat<p.length)(hb:b.toNat<p.length):Qv p a b=true↔Alk p p a.toNat b.toNat:=by
 constructor
 ·intro h
  have l1:=ac5 p
  refine ac4 hp p.length _ _ ha hb ha hb ?_
  obtain⟨w1,g1⟩:=yM (l:=FA p) (i:=a.toNat) (by omega)
  obtain⟨w2,g2⟩:=yM (l:=FA p) (i:=b.toNat) (by omega)
  simp only[Qv,aN,g1,g2,dX,beq_iff_eq]at h
  rw[g1,g2,h]
 ·exact aey hp
end Go.Eng
/-! a machine and one that holds the same: their steps,third part -/
namespace Go.Eng

theorem aaq {ρ:Nat->Nat->Prop}{q p:List Nd}(h:Bi ρ q p){v u:Nat}(ha:Alk q q v u):∀{v' u':Nat},ρ v v'->ρ u u'->Alk p p v' u':=by
 induction ha with
 |mk v u x y hx hy e1 e2 e3 h4 h5 ih1 ih2=>
  intro v' u' hv hu
  obtain⟨x1,x',a1,a2,a3,a4,a5,a6,a7⟩:=h.node _ _ hv
  obtain⟨y1,y',b1,b2,b3,b4,b5,b6,b7⟩:=h.node _ _ hu
  rw[hx]at a1;cases a1
  rw[hy]at b1;cases b1
  refine .mk v' u' x' y' a2 b2 (by rw[<-a3,e1,b3]) (by rw[<-a4,e2,b4]) (by rw[<-a5,e3,b5]) (fun hk=>?_) (fun hk=>?_)
  ·have hk':x.kind=5\/x.kind=6\/x.kind=7:=by rw[a3];exact hk
   exact ih1 hk' (a6 hk') (b6 (e1▸hk'))
  ·have hk':x.kind=5:=by rw[a3];exact hk
   exact ih2 hk' (a7 hk') (b7 (e1▸hk'))
theorem afq {ρ:Nat->Nat->Prop}{q p:List Nd}(h:Bi ρ q p)(hq:Al q)(hp:Al p){a b a' b':Int}(ha:Vs ρ a a')(hb:Vs ρ b b'):Qv q a b=Qv p a' b':=by
 obtain⟨_,_,x1,x2,_⟩:=h.node _ _ ha
 obtain⟨_,_,y1,y2,_⟩:=h.node _ _ hb
 have f:=abJ hq (aQ x1) (aQ y1)
 have g:=abJ hp (aQ x2) (aQ y2)
 rw[Bool.eq_iff_iff,f,g]
 exact⟨fun k=>aaq h k ha hb,fun k=>aaq h.flip k ha hb⟩
noncomputable def agC (ρ:Nat->Nat->Prop) (q p:List Nd) (r r':Except Int (List Nd×Int)):Prop:=match r,r' with
 |.error h,.error h'=>h=h'
 |.ok (q',v),.ok (p',v')=>∃ρ',Grow ρ q p ρ' q' p'/\Vs ρ' v v'
 |_,_=>False
theorem Mw {ρ:Nat->Nat->Prop}{q p:List Nd}(h:Bi ρ q p){x y:Nd}(hx:Nds ρ x y):agC ρ q p (.ok (q++[x],q.length)) (.ok (p++[y],p.length)):=by
 obtain⟨ρ',g,h2⟩:=h.add hx
 exact⟨ρ',g,by simpa[Vs]using h2⟩
theorem O7 (b:Bool):¬kid (ndB b).kind:=by cases b<;>simp[ndB,kid]
theorem aez {ρ:Nat->Nat->Prop}{q p:List Nd}(h:Bi ρ q p){z:Nd}(hk:¬kid z.kind):agC ρ q p (if wi z.n (-1000000000) 1000000000=true then .ok (q++[z],q.length) else .error 4) (if wi z.n (-1000000000) 1000000000=true then .ok (p++[z],p.length) else .error 4):=by
 by_cases c:wi z.n (-1000000000) 1000000000=true
 ·rw[aG c,aG c];exact Mw h (Fk hk)
 ·rw[aD c,aD c];exact rfl
theorem afo {ρ:Nat->Nat->Prop}{q p:List Nd}(h:Bi ρ q p)(hq:Al q)(hp:Al p)(n:Int){l l':List Int}(hl:Ls ρ l l')(h1:1<=l.length)(h2:(n<=6\/n=11)->2<=l.length):agC ρ q p (Iy q n l) (Iy p n l'):=by
 have v0:=hl.get 0 (by omega)
 obtain⟨x1,x2,x3,x4,x5⟩:=h.nod v0
 unfold Iy
 simp only
 by_cases c5:n<=5
 ·have v1:=hl.get 1 (by have:=h2 (.inl (by omega));omega)
  obtain⟨y1,y2,y3,y4,y5⟩:=h.nod v1
  rw[aG c5,aG c5,<-x1,<-x2,<-y1,<-y2]
  by_cases hxy:(nod q (l.getD 0 0)).kind=3/\(nod q (l.getD 1 0)).kind=3
  ·rw[aG hxy,aG hxy]
   refine aez h ?_
   repeat' split
   all_goals first|exact O7 _|simp[kid]
  ·rw[aD hxy,aD hxy];exact rfl
 rw[aD c5,aD c5]
 by_cases c6:n=6
 ·have v1:=hl.get 1 (by have:=h2 (.inl (by omega));omega)
  rw[aG c6,aG c6]
  exact Mw h ⟨rfl,rfl,rfl,fun _=>v0,fun _=>v1⟩
 rw[aD c6,aD c6]
 by_cases c7:n=7\/n=8
 ·rw[aG c7,aG c7,<-x1]
  by_cases hk:(nod q (l.getD 0 0)).kind=5
  ·rw[aG hk,aG hk]
   refine⟨ρ,Grow.refl h,?_⟩
   by_cases e7:n=7
   ·rw[aG e7,aG e7];exact x4 (.inl hk)
   ·rw[aD e7,aD e7];exact x5 hk
  ·rw[aD hk,aD hk];exact rfl
 rw[aD c7,aD c7]
 by_cases c9:n=9
 ·rw[aG c9,aG c9,<-x1];exact Mw h (Fk (O7 _))
 rw[aD c9,aD c9]
 by_cases c10:n=10
 ·rw[aG c10,aG c10,<-x1];exact Mw h (Fk (O7 _))
 rw[aD c10,aD c10]
 by_cases c11:n=11
 ·have v1:=hl.get 1 (by have:=h2 (.inr c11);omega)
  rw[aG c11,aG c11,afq h hq hp v0 v1];exact Mw h (Fk (O7 _))
 rw[aD c11,aD c11,<-x1,<-x2];exact Mw h (Fk (O7 _))
end Go.Eng
/-! a machine and one that holds the same: their steps,fourth part -/
namespace Go.Eng

structure BiT (ρ:Nat->Nat->Prop) (m m':Mc):Prop where
 bi:Bi ρ m.pool m'.pool
 at':m.at'=m'.at'
 s:Vs ρ m.s m'.s
 e:Vs ρ m.e m'.e
 d:Vs ρ m.d m'.d
 state:m.state=m'.state
 ask:m.ask=m'.ask
 arg:holds m=false->m.arg=m'.arg
 argH:holds m=true->Vs ρ m.arg m'.arg
noncomputable def AnsT (ρ:Nat->Nat->Prop) (m m':Mc) (r r':Except Int Mc):Prop:=match r,r' with
 |.error h,.error h'=>h=h'
 |.ok n,.ok n'=>∃ρ',Grow ρ m.pool m'.pool ρ' n.pool n'.pool/\BiT ρ' n n'
 |_,_=>False
theorem AnsT.over {ρ ρ1:Nat->Nat->Prop}{m m' n n':Mc}{r r':Except Int Mc}(g:Grow ρ m.pool m'.pool ρ1 n.pool n'.pool)(h:AnsT ρ1 n n' r r'):AnsT ρ m m' r r':=by
 unfold AnsT at h⊢
 cases r<;>cases r'<;>simp only at h⊢
 ·exact h
 ·obtain⟨ρ',g2,h2⟩:=h;exact⟨ρ',g.trans g2,h2⟩
theorem QR {m:Mc}(h:m.state=0):holds m=false:=by unfold holds;rw[h];rfl
theorem BiM.toT {ρ:Nat->Nat->Prop}{m m':Mc}(h:BiM ρ m m')(h0:m.state=0):BiT ρ m m':=
 ⟨h.bi,h.at',h.s,h.e,h.d,h.state,h.ask,fun _=>h.arg,fun e=>by rw[QR h0]at e;cases e⟩
theorem Ans.toT {ρ:Nat->Nat->Prop}{m m':Mc}{r r':Except Int Mc}(h:Ans ρ m m' r r')(h0:∀n,r=.ok n->n.state=0):AnsT ρ m m' r r':=by
 unfold Ans at h;unfold AnsT
 cases r<;>cases r'<;>simp only at h⊢
 ·exact h
 ·obtain⟨ρ',g,h2⟩:=h;exact⟨ρ',g,h2.toT (h0 _ rfl)⟩
theorem aaN {c:Cd}{m n:Mc}{f:Nd}{l:List Int}(h:GZ c m f l=.ok n):n.state=m.state:=by
 unfold GZ at h
 split at h
 ·cases h
 split at h
 ·cases h
 cases h;rfl
theorem aef {c:Cd}{m n:Mc}{st:Int}{l:List Int}(h:Sr c m st l=.ok n):n.state=m.state:=by
 unfold Sr at h
 split at h
 ·cases h
 split at h
 ·cases h;rfl
 ·cases h
theorem aab {n:Int}{k:Nat}(h:Av n=(k:Int))(hn:n<=12):1<=k/\((n<=6\/n=11)->2<=k):=by
 unfold Av at h
 split at h
 ·rename_i hw
  have hw:=wi_iff.1 hw
  have:n=1\/n=2\/n=3\/n=4\/n=5\/n=6\/n=7\/n=8\/n=9\/n=10\/n=11\/n=12:=by omega
  rcases this with e|e|e|e|e|e|e|e|e|e|e|e<;>subst e<;>simp[prArgs]at h<;>omega
 ·omega
theorem aas (c:Cd):∀(k:Nat){ρ:Nat->Nat->Prop}{m m':Mc}{f f':Int}{l l':List Int},BiM ρ m m'->m.state=0->GM m->GM m'->Cg c (m.at'+1)=true->c.list.length<=400->0<=m.at'->Vs ρ f f'->Ls ρ l l'->AnsT ρ m m' (Fh c k m f l) (Fh c k m' f' l')
 |0,ρ,m,m',f,f',l,l',h,h0,g,g',hpl,hc,hat,hf,hl=>rfl
 |k+1,ρ,m,m',f,f',l,l',h,h0,g,g',hpl,hc,hat,hf,hl=>by
  obtain⟨x1,x2,x3,x4,x5⟩:=h.bi.nod hf
  unfold Fh
  simp only
  rw[<-x1,<-x2,<-hl.len]
  by_cases k6:(nod m.pool f).kind=6
  ·rw[aG k6,aG k6]
   exact(adP h c ⟨x1,x2,x3,x4,x5⟩ k6 hl).toT fun n e=>(aaN e).trans h0
  rw[aD k6,aD k6]
  by_cases k8:(nod m.pool f).kind=8
  ·rw[aG k8,aG k8]
   by_cases ka:Av (nod m.pool f).n≠(l.length:Int)
   ·rw[aG ka,aG ka];exact rfl
   rw[aD ka,aD ka]
   have ka:Av (nod m.pool f).n=(l.length:Int):=by omega
   by_cases k18:(nod m.pool f).n=18
   ·rw[aG k18,aG k18]
    have hp:=isPl_iff.1 hpl
    obtain⟨ρ1,g1,h1⟩:=h.bi.add (x:=ndI (m.at'+1)) (y:=ndI (m'.at'+1)) (by rw[h.at'];exact Fk (by simp[kid]))
    obtain⟨ρ2,g2,h2⟩:=RY (l:=[(m.pool.length:Int),m.s,m.e,m.d]) (l':=[(m'.pool.length:Int),m'.s,m'.e,m'.d]) g1.bi ⟨by simpa[Vs]using h1,g1.sub _ _ h.s,g1.sub _ _ h.e,g1.sub _ _ h.d,trivial⟩
    obtain⟨ρ3,g3,h3⟩:=g2.bi.add (x:=ndK (Af (m.pool++[ndI (m.at'+1)]) [(m.pool.length:Int),m.s,m.e,m.d]).2) (y:=ndK (Af (m'.pool++[ndI (m'.at'+1)]) [(m'.pool.length:Int),m'.s,m'.e,m'.d]).2) ⟨rfl,rfl,rfl,fun _=>by simpa using h2,fun e=>by cases e⟩
    have g13:=(g1.trans g2).trans g3
    have gm:∀{m:Mc},GM m->0<=m.at'->m.at'+1<=400->GM ⟨(Af (m.pool++[ndI (m.at'+1)]) [(m.pool.length:Int),m.s,m.e,m.d]).1++[ndK ((Af (m.pool++[ndI (m.at'+1)]) [(m.pool.length:Int),m.s,m.e,m.d]).2:Int)],m.at',m.s,m.e,m.d,m.state,m.ask,m.arg⟩:=by
     intro m g a0 a1
     have o1:Al (m.pool++[ndI (m.at'+1)]):=AC g.ok (Sk (by omega))
     obtain⟨b1,⟨t,b2,b3⟩,b4⟩:=Fj (row:=[(m.pool.length:Int),m.s,m.e,m.d]) o1 (fun v hv=>by
      simp only[bN,dY,or_false]at hv
      rcases hv with rfl|rfl|rfl|rfl
      ·exact Cm _ _
      ·exact Am _ g.s
      ·exact Am _ g.e
      ·exact Am _ g.d)
     have e1:(Af (m.pool++[ndI (m.at'+1)]) [(m.pool.length:Int),m.s,m.e,m.d]).1=m.pool++(ndI (m.at'+1)::t):=by rw[b2];simp
     have up:∀{v:Int},InP m.pool v->InP ((Af (m.pool++[ndI (m.at'+1)]) [(m.pool.length:Int),m.s,m.e,m.d]).1++[ndK ((Af (m.pool++[ndI (m.at'+1)]) [(m.pool.length:Int),m.s,m.e,m.d]).2:Int)]) v:=fun hv=>Am _ (by rw[e1];exact Am _ hv)
     exact⟨AC b1 (U5 b4),up g.s,up g.e,up g.d⟩
    have hl1:1<=l.length:=by
                   rw[k18]at ka;have:Av 18=1:=by decide
                   omega
    refine AnsT.over g13 (aas c k (h.pool g13) h0 (gm g hat (by omega)) (gm g' (by rw[<-h.at'];exact hat) (by rw[<-h.at'];omega)) hpl hc hat (g13.sub _ _ (hl.get 0 (by omega))) ⟨?_,trivial⟩)
    simpa[Vs]using h3
   rw[aD k18,aD k18]
   by_cases k12:(nod m.pool f).n>12
   ·rw[aG k12,aG k12]
    obtain⟨ρ1,g1,h1⟩:=RY h.bi hl
    exact⟨ρ1,g1,⟨g1.bi,h.at',g1.sub _ _ h.s,g1.sub _ _ h.e,g1.sub _ _ h.d,rfl,rfl,fun e=>by simp[holds]at e,fun _=>by simpa[Vs]using h1⟩⟩
   ·rw[aD k12,aD k12]
    obtain⟨p1,p2⟩:=aab ka (by omega)
    have hp:=afo h.bi g.ok g'.ok (nod m.pool f).n hl p1 p2
    cases r1:Iy m.pool (nod m.pool f).n l with
    |error e=>
     cases r2:Iy m'.pool (nod m.pool f).n l' with
     |error e'=>rw[r1,r2]at hp;have:e=e':=hp;subst this;exact rfl
     |ok v=>rw[r1,r2]at hp;exact hp.elim
    |ok v=>
     cases r2:Iy m'.pool (nod m.pool f).n l' with
     |error e'=>rw[r1,r2]at hp;exact hp.elim
     |ok v'=>
      rw[r1,r2]at hp
      obtain⟨ρ1,g1,h1⟩:=hp
      obtain⟨ρ2,g2,h2⟩:=g1.bi.add (x:=ndP v.2 m.s) (y:=ndP v'.2 m'.s) ⟨rfl,rfl,rfl,fun _=>h1,fun _=>g1.sub _ _ h.s⟩
      have g12:=g1.trans g2
      exact⟨ρ2,g12,⟨g12.bi,by rw[h.at'],by simpa[Vs]using h2,g12.sub _ _ h.e,g12.sub _ _ h.d,h.state,h.ask,fun _=>h.arg,fun e=>by
       have z:=QR (m:=(⟨v.1++[ndP v.2 m.s],m.at'+1,v.1.length,m.e,m.d,m.state,m.ask,m.arg⟩:Mc)) h0
       rw[z]at e;cases e⟩⟩
  rw[aD k8,aD k8]
  by_cases k7:(nod m.pool f).kind=7
  ·rw[aG k7,aG k7]
   exact(agl h g.ok g'.ok c (x4 (.inr (.inr k7))) hl).toT fun n e=>(aef e).trans h0
  ·rw[aD k7,aD k7];exact rfl
end Go.Eng
/-! a machine and one that holds the same: their steps,fifth part -/
namespace Go.Eng

theorem acz (d:Int){q:List Nd}(hq:Al q){m:List Bool}(hm:m.length=q.length)(hc:YJ q m):∀(k:Nat){pre pre':List Int}{acc acc':List Nd}{ρ:Nat->Nat->Prop},Bi ρ acc acc'->pre.length=pre'.length->pre.length+k=q.length ->
  (∀(i:Nat)(u u':Int),m[i]? = some true->pre[i]? = some u->pre'[i]? = some u'->Vs ρ u u') ->
  ∃ρ',Grow ρ acc acc' ρ' (Ci d q m k pre acc).2 (Ci d q m k pre' acc').2/\∀(i:Nat)(u u':Int),m[i]? = some true->(Ci d q m k pre acc).1[i]? = some u->(Ci d q m k pre' acc').1[i]? = some u'->Vs ρ' u u'
 |0,pre,pre',acc,acc',ρ,h,hl,hk,hv=>⟨ρ,Grow.refl h,hv⟩
 |k+1,pre,pre',acc,acc',ρ,h,hl,hk,hv=>by
  obtain⟨x,hx⟩:=yM (l:=q) (i:=pre.length) (by omega)
  obtain⟨b,hb⟩:=yM (l:=m) (i:=pre.length) (by omega)
  have old:∀{pre:List Int}{i:Nat}{u v:Int},(pre++[v])[i]? = some u->(i<pre.length/\pre[i]? = some u)\/(i=pre.length/\u=v):=by
   intro pre i u v h
   by_cases hi:i<pre.length
   ·rw[cC hi]at h;exact .inl ⟨hi,h⟩
   ·have:=aQ h
    simp at this
    have e:i=pre.length:=by omega
    subst e
    simp at h
    exact .inr ⟨rfl,h.symm⟩
  have hx':q[pre'.length]? = some x:=by rw[<-hl];exact hx
  have hb':m[pre'.length]? = some b:=by rw[<-hl];exact hb
  simp only[Ci,hx,hb,hx',hb']
  cases b with
  |false=>
   refine acz d hq hm hc k (pre:=pre++[d]) (pre':=pre'++[d]) h (by simp[hl]) (by simp;omega) (fun i u u' hmi hu hu'=>?_)
   rcases old hu with ⟨_,g⟩|⟨e,_⟩
   ·rcases old hu' with ⟨_,g'⟩|⟨e,_⟩
    ·exact hv _ _ _ hmi g g'
    ·rw[e,hb']at hmi;cases hmi
   ·rw[e,hb]at hmi;cases hmi
  |true=>
   have at2:∀{v:Int},0<=v->v<pre.length->m[v.toNat]? = some true->Vs ρ (pre.getD v.toNat 0) (pre'.getD v.toNat 0):=by
    intro v v0 v1 hmv
    obtain⟨u,hu⟩:=yM (l:=pre) (i:=v.toNat) (by omega)
    obtain⟨u',hu'⟩:=yM (l:=pre') (i:=v.toNat) (by omega)
    rw[aN,aN,hu,hu']
    exact hv _ _ _ hmv hu hu'
   obtain⟨k1,k2,k3⟩:=R9 pre x
   obtain⟨j1,j2,j3⟩:=R9 pre' x
   have ox:=hq _ _ hx
   have cl:=hc _ _ hx hb
   have nd:Nds ρ (Aq pre x) (Aq pre' x):=by
    refine⟨by rw[k1,j1],by rw[k2,j2],by rw[k3,j3],fun hk=>?_,fun hk=>?_⟩
    ·rw[k1]at hk
     by_cases h5:x.kind=5
     ·have o:=AH ox h5
      simp only[Aq,h5,if_true]
      exact at2 o.1 o.2.1 (cl.1 h5).1
     ·have h6:x.kind=6\/x.kind=7:=by rcases hk with e|e|e<;>simp_all
      have o:=BM ox h6
      simp only[Aq,h5,h6,if_true,if_false]
      exact at2 o.1 o.2 (cl.2 h6)
    ·rw[k1]at hk
     have o:=AH ox hk
     simp only[Aq,hk,if_true]
     exact at2 o.2.2.1 o.2.2.2 (cl.1 hk).2
   obtain⟨ρ1,g1,h1⟩:=h.add nd
   obtain⟨ρ2,g2,h2⟩:=acz d hq hm hc k (pre:=pre++[(acc.length:Int)]) (pre':=pre'++[(acc'.length:Int)]) g1.bi (by simp[hl]) (by simp;omega) (fun i u u' hmi hu hu'=>by
    rcases old hu with ⟨l1,g⟩|⟨e,e2⟩
    ·rcases old hu' with ⟨_,g'⟩|⟨e',_⟩
     ·exact g1.sub _ _ (hv _ _ _ hmi g g')
     ·omega
    ·rcases old hu' with ⟨l1,g'⟩|⟨e',e2'⟩
     ·omega
     ·subst e2;subst e2';simpa[Vs]using h1)
   exact⟨ρ2,g1.trans g2,h2⟩
theorem aeP (d:Int){q:List Nd}(hq:Ac q=true){v:Int}(hv:Ap q [v]=true){acc acc':List Nd}{ρ:Nat->Nat->Prop}(h:Bi ρ acc acc'):∃ρ',Grow ρ acc acc' ρ' (Ce d q v acc).1 (Ce d q v acc').1/\Vs ρ' (Ce d q v acc).2 (Ce d q v acc').2:=by
 obtain⟨ρ',g,hvs⟩:=acz d (okPool_iff.1 hq).1 (CT q [v]) (EE hq [v]) q.length (pre:=[]) (pre':=[]) h rfl (by simp) (fun i u u' _ hu _=>by simp at hu)
 refine⟨ρ',g,?_⟩
 have hr:=GB hv v (by simp)
 have hin:=IU hv v (by simp)
 have l1:=D5 d q (BG q [v]) q.length [] acc
 have l2:=D5 d q (BG q [v]) q.length [] acc'
 obtain⟨u,hu⟩:=yM (l:=(Ci d q (BG q [v]) q.length [] acc).1) (i:=v.toNat) (by rw[l1];simp;omega)
 obtain⟨u',hu'⟩:=yM (l:=(Ci d q (BG q [v]) q.length [] acc').1) (i:=v.toNat) (by rw[l2];simp;omega)
 have:=hvs _ _ _ hr hu hu'
 show Vs ρ' ((Ci d q (BG q [v]) q.length [] acc).1.getD v.toNat 0) ((Ci d q (BG q [v]) q.length [] acc').1.getD v.toNat 0)
 rw[aN,aN,hu,hu']
 exact this
end Go.Eng
/-! a machine and one that holds the same: their steps,sixth part -/
namespace Go.Eng

theorem af7 {ρ:Nat->Nat->Prop}{m m':Mc}(h:BiM ρ m m'){c:Cd}(hq:Ac c.pool=true){v:Int}(hv:Ap c.pool [v]=true):Ans ρ m m' (.ok (ae9 c m v)) (.ok (ae9 c m' v)):=by
 obtain⟨ρ1,g1,h1⟩:=aeP (-1) hq hv h.bi
 exact Ans.over (n:=⟨_,m.at',m.s,m.e,m.d,m.state,m.ask,m.arg⟩) (n':=⟨_,m'.at',m'.s,m'.e,m'.d,m'.state,m'.ask,m'.arg⟩) g1 (Nc (h.pool g1) h1)
theorem TH {ρ:Nat->Nat->Prop}{m m':Mc}{r r':Except Int Mc}(h:Ans ρ m m' r r')(c:Cd)(next:Int):Ans ρ m m' (goM c r next) (goM c r' next):=by
 unfold Ans at h
 cases r with
 |error e=>
  cases r' with
  |error e'=>exact h
  |ok n'=>exact h.elim
 |ok n=>
  cases r' with
  |error e'=>exact h.elim
  |ok n'=>
   obtain⟨ρ',g,h2⟩:=h
   simp only[goM]
   by_cases hp:Cg c next=true
   ·rw[aG hp,aG hp]
    exact⟨ρ',g,⟨h2.bi,rfl,h2.s,h2.e,h2.d,h2.state,h2.ask,h2.arg⟩⟩
   ·rw[aD hp,aD hp];exact rfl
theorem ad7 {ρ:Nat->Nat->Prop}{m m':Mc}(h:BiM ρ m m'){c:Cd}(hq:Ac c.pool=true)(x:In)(hx:x.op=1->Ap c.pool [x.n]=true):Ans ρ m m' (EH c m x) (EH c m' x):=by
 have fn:Ans ρ m m' (.ok (Jx ⟨m.pool++[ndF (8*x.n+x.i) m.e],m.at',m.s,m.e,m.d,m.state,m.ask,m.arg⟩ m.pool.length)) (.ok (Jx ⟨m'.pool++[ndF (8*x.n+x.i) m'.e],m'.at',m'.s,m'.e,m'.d,m'.state,m'.ask,m'.arg⟩ m'.pool.length)):=by
  obtain⟨ρ1,g1,h1⟩:=h.bi.add (x:=ndF (8*x.n+x.i) m.e) (y:=ndF (8*x.n+x.i) m'.e) ⟨rfl,rfl,rfl,fun _=>h.e,fun e=>by cases e⟩
  exact Ans.over (n:=⟨_,m.at',m.s,m.e,m.d,m.state,m.ask,m.arg⟩) (n':=⟨_,m'.at',m'.s,m'.e,m'.d,m'.state,m'.ask,m'.arg⟩) g1 (Nc (h.pool g1) (by simpa[Vs]using h1))
 unfold EH
 rw[<-h.at']
 by_cases o1:x.op=1
 ·rw[aG o1,aG o1];exact TH (af7 h hq (hx o1)) c _
 rw[aD o1,aD o1]
 by_cases o2:x.op=2
 ·rw[aG o2,aG o2];exact TH (agt h _ _) c _
 rw[aD o2,aD o2]
 by_cases o3:x.op=3
 ·rw[aG o3,aG o3];exact TH (ae4 h c _) c _
 rw[aD o3,aD o3]
 by_cases o5:x.op=5
 ·rw[aG o5,aG o5];exact TH (r:=.ok m) (r':=.ok m') ⟨ρ,Grow.refl h.bi,h⟩ c _
 rw[aD o5,aD o5]
 by_cases o6:x.op=6
 ·rw[aG o6,aG o6];exact TH (h.at'▸fn) c _
 rw[aD o6,aD o6]
 rcases WJ h with ⟨e1,e2⟩|⟨v,v',n,n',e1,e2,hv,hn,p1,p2⟩
 ·rw[e1,e2];exact rfl
 ·rw[e1,e2]
  obtain⟨x1,x2,_⟩:=hn.bi.nod hv
  simp only
  rw[<-x1,<-x2]
  exact TH (r:=.ok n) (r':=.ok n') ⟨ρ,by rw[<-p1,<-p2];exact Grow.refl hn.bi,hn⟩ c _
end Go.Eng
/-! a machine and one that holds the same: their steps,seventh part -/
namespace Go.Eng

theorem aat {ρ:Nat->Nat->Prop}{m m':Mc}(h:BiM ρ m m')(h0:m.state=0)(g:GM m)(g':GM m'){c:Cd}(hc:c.list.length<=400)(hat:0<=m.at')(many:Nat):AnsT ρ m m' (CY c m many) (CY c m' many):=by
 unfold CY
 rw[<-h.at']
 by_cases hp:Cg c (m.at'+1)=false
 ·rw[aG hp,aG hp];exact rfl
 rw[aD hp,aD hp]
 have hp:Cg c (m.at'+1)=true:=by simpa using hp
 rcases Yw (many+1) h with ⟨e1,e2⟩|⟨l,l',n,n',e1,e2,hl,hk,hn,p1,p2⟩
 ·rw[e1,e2];exact rfl
 ·rw[e1,e2]
  obtain⟨a1,a2,a3,a4,a5,a6,a7⟩:=J6 g e1
  obtain⟨b1,b2,b3,b4,b5,b6,b7⟩:=J6 g' e2
  have hr:=hl.rev
  have gr:Grow ρ m.pool m'.pool ρ n.pool n'.pool:=by rw[p1,p2];exact Grow.refl h.bi
  exact AnsT.over gr (aas c 3 hn (a6.trans h0) a1 b1 (by rw[a5];exact hp) hc (by rw[a5];exact hat) (hr.get 0 (by rw[List.length_reverse];omega)) (hr.drop 1))
theorem aeD {ρ:Nat->Nat->Prop}{m m':Mc}(h:BiM ρ m m')(h0:m.state=0)(g:GM m)(g':GM m')(c:Cd):AnsT ρ m m' (Km c m) (Km c m'):=by
 unfold Km
 rcases WJ h with ⟨e1,e2⟩|⟨v,v',n,n',e1,e2,hv,hn,p1,p2⟩
 ·rw[e1,e2];exact rfl
 rw[e1,e2]
 simp only
 obtain⟨a1,a2,a3,a4,a5,_⟩:=D4 g e1
 obtain⟨b1,b2,b3,b4,b5,_⟩:=D4 g' e2
 obtain⟨x1,x2,x3,x4,x5⟩:=hn.bi.nod hn.d
 have gr:Grow ρ m.pool m'.pool ρ n.pool n'.pool:=by rw[p1,p2];exact Grow.refl h.bi
 rw[<-x1]
 by_cases k1:(nod n.pool n.d).kind=1
 ·rw[aG k1,aG k1]
  exact⟨ρ,gr,⟨hn.bi,rfl,hn.s,hn.e,hn.d,rfl,hn.ask,fun e=>by simp[holds]at e,fun _=>hv⟩⟩
 rw[aD k1,aD k1]
 by_cases k5:(nod n.pool n.d).kind≠5
 ·rw[aG k5,aG k5];exact rfl
 rw[aD k5,aD k5]
 have k5:(nod n.pool n.d).kind=5:=by omega
 rcases Yd hn.bi a1.ok b1.ok c 3 (x4 (.inl k5)) with ⟨f1,f2⟩|⟨t,r,r',f1,f2,hr,hl⟩
 ·rw[f1,f2];exact rfl
 ·rw[f1,f2]
  match r,r',hr,hl with
  |[s,e],[s',e'],hr,_=>
   have st:n.state=0:=a5.trans h0
   refine AnsT.over gr ((Nc (m:=⟨n.pool,t,s,e,(nod n.pool n.d).b,n.state,n.ask,n.arg⟩) (m':=⟨n'.pool,t,s',e',(nod n'.pool n'.d).b,n'.state,n'.ask,n'.arg⟩) ⟨hn.bi,rfl,hr.1,hr.2.1,x5 k5,hn.state,hn.ask,hn.arg⟩ hv).toT fun y hy=>?_)
   cases hy;exact st
theorem abB {c:Cd}{m n:Mc}{x:In}(h:EH c m x=.ok n):n.state=m.state:=by
 have go:∀{r:Except Int Mc}{k:Int},(∀y,r=.ok y->y.state=m.state)->goM c r k=.ok n->n.state=m.state:=by
  intro r k hr hg
  unfold goM at hg
  cases r with
  |error e=>cases hg
  |ok y=>
   simp only at hg
   split at hg
   ·cases hg;exact hr y rfl
   ·cases hg
 unfold EH at h
 split at h
 ·exact go (fun y e=>by cases e;rfl) h
 split at h
 ·refine go (fun y e=>?_) h
  unfold UQ at e
  split at e
  ·cases e
  split at e
  ·cases e
  cases e;rfl
 split at h
 ·refine go (fun y e=>?_) h
  unfold Kw at e
  split at e
  ·cases e;rfl
  split at e
  ·cases e
  cases e;rfl
 split at h
 ·exact go (fun y e=>by cases e;rfl) h
 split at h
 ·exact go (fun y e=>by cases e;rfl) h
 split at h
 ·cases h
 ·rename_i v m1 ht
  refine go (fun y e=>?_) h
  cases e
  unfold D3 at ht
  split at ht
  ·cases ht;rfl
  ·cases ht
theorem agO {ρ:Nat->Nat->Prop}{m m':Mc}(h:BiM ρ m m')(h0:m.state=0)(g:GM m)(g':GM m'){c:Cd}(hq:Ac c.pool=true)(hc:c.list.length<=400)(hat:0<=m.at') (hx:(c.list.getD m.at'.toNat ⟨0,0,0,⟨#[]⟩⟩).op=1->Ap c.pool [(c.list.getD m.at'.toNat ⟨0,0,0,⟨#[]⟩⟩).n]=true):AnsT ρ m m' (doM c m) (doM c m'):=by
 unfold doM
 rw[<-h.at']
 simp only
 by_cases k7:(c.list.getD m.at'.toNat ⟨0,0,0,⟨#[]⟩⟩).op=7
 ·rw[aG k7,aG k7];exact aat h h0 g g' hc hat _
 rw[aD k7,aD k7]
 by_cases k8:(c.list.getD m.at'.toNat ⟨0,0,0,⟨#[]⟩⟩).op=8
 ·rw[aG k8,aG k8];exact aeD h h0 g g' c
 ·rw[aD k8,aD k8];exact(ad7 h hq _ hx).toT fun n e=>(abB e).trans h0
end Go.Eng
/-! a machine and its tidied one -/
namespace Go.Eng

theorem WK {m:Mc}(hp:Ac m.pool=true)(hr:Ap m.pool (Ah m)=true):Ai m=⟨(AA (-1) m.pool (Ah m)).1,m.at',tf m m.s,tf m m.e,tf m m.d,m.state,m.ask,if holds m=true then tf m m.arg else m.arg⟩:=by
 unfold Ai;rw[aG ⟨hp,hr⟩]
theorem U6 {c:Cd}{m:Mc}(h:CN c m=true):∃ρ,BiT ρ m (Ai m):=by
 obtain⟨hp,hr,_⟩:=Dd h
 obtain⟨b,_,_,d1⟩:=ZR hp hr (-1)
 have root:∀r∈Ah m,Vs (fun i j=>Rch m.pool (Ah m) i/\(Bc (-1) m.pool (Ah m) []).1[i]? = some (j:Int)) r (tf m r):=by
  intro r hm
  have hR:=Rch.root (q:=m.pool) hm
  obtain⟨j,hj⟩:=d1 _ hR
  refine⟨hR,?_⟩
  have e:tf m r=(j:Int):=by unfold tf;rw[aN,hj];rfl
  rw[e,hj];rfl
 have ht:Ai m=⟨(AA (-1) m.pool (Ah m)).1,m.at',tf m m.s,tf m m.e,tf m m.d,m.state,m.ask,if holds m=true then tf m m.arg else m.arg⟩:=WK hp hr
 have hs:m.s∈Ah m/\m.e∈Ah m/\m.d∈Ah m:=by unfold Ah;split<;>simp
 refine⟨_,by rw[ht];exact b,by rw[ht],by rw[ht];exact root _ hs.1,by rw[ht];exact root _ hs.2.1,by rw[ht];exact root _ hs.2.2,by rw[ht],by rw[ht],fun e=>by rw[ht];simp[e],fun e=>?_⟩
 rw[ht]
 simp only[e,if_true]
 exact root _ (by unfold Ah;rw[aG e];simp)
theorem BiT.tidy {ρ:Nat->Nat->Prop}{m m':Mc}(h:BiT ρ m m'){c c':Cd}(hm:CN c m=true)(hm':CN c' m'=true):Ai m=Ai m':=by
 obtain⟨hp,hr,_⟩:=Dd hm
 obtain⟨hp',hr',_⟩:=Dd hm'
 have hh:holds m'=holds m:=by unfold holds;rw[h.state]
 have hb:Bis ρ (Ah m) (Ah m'):=by
  unfold Ah
  rw[hh]
  by_cases e:holds m=true
  ·rw[aG e,aG e];exact⟨h.s,h.e,h.d,h.argH e,trivial⟩
  ·rw[aD e,aD e];exact⟨h.s,h.e,h.d,trivial⟩
 have hk:=af4 h.bi hp hp' hr hr' hb (-1)
 have h1:(AA (-1) m.pool (Ah m)).1=(AA (-1) m'.pool (Ah m')).1:=by rw[hk]
 have h2:(Ah m).map (tf m)=(Ah m').map (tf m'):=congrArg Prod.snd hk
 rw[WK hp hr,WK hp' hr',h1,h.at',h.state,h.ask,hh]
 unfold Ah at h2
 rw[hh]at h2
 by_cases e:holds m=true
 ·rw[aG e,aG e]at h2
  simp only[bR,eL,List.cons.injEq,and_true]at h2
  rw[aG e,aG e,h2.1,h2.2.1,h2.2.2.1,h2.2.2.2]
 ·rw[aD e,aD e]at h2
  simp only[bR,eL,List.cons.injEq,and_true]at h2
  rw[if_neg e,if_neg e,h2.1,h2.2.1,h2.2.2,h.arg (by simpa using e)]
theorem BiT.toM {ρ:Nat->Nat->Prop}{m m':Mc}(h:BiT ρ m m')(h0:m.state=0):BiM ρ m m':=⟨h.bi,h.at',h.s,h.e,h.d,h.state,h.ask,h.arg (QR h0)⟩
theorem BiT.flip {ρ:Nat->Nat->Prop}{m m':Mc}(h:BiT ρ m m'):BiT (fun i j=>ρ j i) m' m:=by
 have hh:holds m'=holds m:=by unfold holds;rw[h.state]
 exact⟨h.bi.flip,h.at'.symm,h.s,h.e,h.d,h.state.symm,h.ask.symm,fun e=>(h.arg (hh▸e)).symm,fun e=>h.argH (hh▸e)⟩
theorem BiT.trans {ρ σ:Nat->Nat->Prop}{m n t:Mc}(h:BiT ρ m n)(g:BiT σ n t):BiT (fun i k=>∃j,ρ i j/\σ j k) m t:=by
 have hh:holds n=holds m:=by unfold holds;rw[h.state]
 exact⟨h.bi.trans g.bi,h.at'.trans g.at',⟨_,h.s,g.s⟩,⟨_,h.e,g.e⟩,⟨_,h.d,g.d⟩,h.state.trans g.state,h.ask.trans g.ask,fun e=>(h.arg e).trans (g.arg (hh▸e)),fun e=>⟨_,h.argH e,g.argH (hh▸e)⟩⟩
end Go.Eng
/-! runs of machines that stand for each other -/
namespace Go.Eng

noncomputable def Lit (c:Cd) (K:Nat):Prop:=∀y∈c.list,y.op=1->0<=y.n->YK c.pool y.n K
theorem aeT {c:Cd}{K:Nat}{m m':Mc}(hK:∀y,c.list[m.at'.toNat]? = some y->y.op=1->0<=y.n->YK c.pool y.n K)(h:RunM c m)(hc:Bu c=true)(he:doM c m=.ok m'):m'.pool.length<=m.pool.length+max (K+1) 24:=by
 obtain⟨x,hx⟩:=SA h
 have hok:=IL hc hx
 obtain⟨c1,c2,_⟩:=AU hc
 by_cases h1:x.op=1
 ·unfold doM at he
  simp only[aN,hx,dX]at he
  rw[aD (by omega),aD (by omega)]at he
  unfold EH at he
  rw[aG h1]at he
  unfold goM at he
  simp only at he
  split at he
  ·cases he
   have:=hK x hx h1 (Pe hok h1).1 m.pool
   show(ae9 c m x.n).pool.length<=_
   unfold ae9 Jx
   simp only[lnA,lnC,lnN]
   omega
  ·cases he
 ·by_cases h7:x.op=7
  ·unfold doM at he
   simp only[aN,hx,dX]at he
   rw[aG h7]at he
   have:=PN hok h7
   obtain⟨t,⟨g1,⟨q,g2,g3⟩,g4⟩,g5⟩:=Qf c2 h (k:=x.i.toNat) (by omega) he
   rw[g2,lnA];omega
  ·by_cases h8:x.op=8
   ·unfold doM at he
    simp only[aN,hx,dX]at he
    rw[aD h7,aG h8]at he
    obtain⟨g1,⟨q,g2,g3⟩,g4⟩:=Vc h he
    rw[g2,lnA];omega
   ·
    unfold doM at he
    simp only[aN,hx,dX]at he
    rw[aD h7,aD h8]at he
    have go:∀{r:Except Int Mc}{k:Int},(∀y,r=.ok y->y.pool.length<=m.pool.length+3)->goM c r k=.ok m'->m'.pool.length<=m.pool.length+max (K+1) 24:=by
     intro r k hr hg
     unfold goM at hg
     cases r with
     |error e=>cases hg
     |ok y=>
      simp only at hg
      split at hg
      ·cases hg;have:=hr y rfl;simp only;omega
      ·cases hg
    unfold EH at he
    rw[aD h1]at he
    split at he
    ·refine go (fun y e=>?_) he
     obtain⟨g1,⟨t,g2,g3⟩,_⟩:=adF h.gm e
     rw[g2,lnA];omega
    split at he
    ·refine go (fun y e=>?_) he
     obtain⟨g1,⟨t,g2,g3⟩,_⟩:=aa2 hc h.gm e
     rw[g2,lnA];omega
    split at he
    ·exact go (fun y e=>by cases e;omega) he
    split at he
    ·exact go (fun y e=>by cases e;simp[Jx]) he
    split at he
    ·cases he
    ·rename_i v m1 ht
     obtain⟨f1,f2,f4,_⟩:=D4 h.gm ht
     exact go (fun y e=>by cases e;rw[f4];omega) he
theorem ago {ρ:Nat->Nat->Prop}{c:Cd}{m m':Mc}(h:BiT ρ m m')(hm:CN c m=true)(hm':CN c m'=true)(h0:m.state=0)
  (hn:∀n,doM c m=.ok n->n.pool.length<=3000) (hn':∀n,doM c m'=.ok n->n.pool.length<=3000):∃ρ',BiT ρ' (Iz c m) (Iz c m'):=by
 obtain⟨hr,hc,_⟩:=Jw hm h0
 have h0':m'.state=0:=h.state▸h0
 obtain⟨hr',_,_⟩:=Jw hm' h0'
 obtain⟨c1,c2,_⟩:=AU hc
 obtain⟨x,hx⟩:=SA hr
 have hat:=isPl_iff.1 hr.pl
 have hd:=agO (h.toM h0) h0 hr.gm hr'.gm c1 c2 hat.1 (fun h1=>by
  simp only[aN,hx,dX]at h1⊢
  have hl:=Pe (IL hc hx) h1
  simp only[Ap,List.all_cons,List.all_nil,bP]
  exact wi_iff.2 ⟨hl.1,by have:=hl.2;omega⟩)
 unfold Iz
 cases e1:doM c m with
 |error a=>
  cases e2:doM c m' with
  |error b=>
   rw[e1,e2]at hd
   have:a=b:=hd
   subst this
   exact⟨ρ,h.bi,rfl,h.s,h.e,h.d,rfl,rfl,fun _=>rfl,fun e=>by simp[holds,RQ]at e⟩
  |ok b=>rw[e1,e2]at hd;exact hd.elim
 |ok a=>
  cases e2:doM c m' with
  |error b=>rw[e1,e2]at hd;exact hd.elim
  |ok b=>
   rw[e1,e2]at hd
   obtain⟨ρ',g,hb⟩:=hd
   simp only
   rw[aG (hn a e1),aG (hn' b e2)]
   exact⟨ρ',hb⟩
theorem TV (m:Mc):(Ai m).pool.length<=m.pool.length:=by
 unfold Ai
 split
 ·have:=ML (-1) m.pool (BG m.pool (Ah m)) m.pool.length [] []
  simpa[AA,Bc]using this
 ·exact cB _
structure Pair (c:Cd) (m m':Mc):Prop where
 ok:CN c m=true
 ok':CN c m'=true
 bi:∃ρ,BiT ρ m m'
 small:(m.pool.length<=2000/\m'.pool.length<=2000)\/m=m'
theorem Yx {c:Cd}{m:Mc}(h:CN c m=true):CN c (DD m)=true:=by
 unfold DD;split
 ·exact h
 ·exact Je h
theorem abz {c:Cd}{m m':Mc}(ok:CN c m=true)(ok':CN c m'=true)(bi:∃ρ,BiT ρ m m'):Pair c (DD m) (DD m'):=by
 obtain⟨ρ,h⟩:=bi
 have ht:=h.tidy ok ok'
 refine⟨Yx ok,Yx ok',?_,?_⟩
 ·unfold DD
  obtain⟨σ,hs⟩:=U6 ok
  obtain⟨τ,hT⟩:=U6 ok'
  split
  ·split
   ·exact⟨_,h⟩
   ·exact⟨_,h.trans hT⟩
  ·split
   ·exact⟨_,hs.flip.trans h⟩
   ·exact⟨_,(hs.flip.trans h).trans hT⟩
 ·unfold DD
  by_cases a:m.pool.length<=2000
  ·rw[aG a]
   by_cases b:m'.pool.length<=2000
   ·rw[aG b];exact .inl ⟨a,b⟩
   ·rw[aD b,<-ht];exact .inl ⟨a,Nat.le_trans (TV m) a⟩
  ·rw[aD a]
   by_cases b:m'.pool.length<=2000
   ·rw[aG b,ht];exact .inl ⟨Nat.le_trans (TV m') b,b⟩
   ·rw[aD b];exact .inr ht
theorem ad6 {c:Cd}{K:Nat}(hK:Lit c K)(hK2:K+1<=1000){m m':Mc}(h:Pair c m m')(h0:m.state=0):Pair c (DD (Iz c m)) (DD (Iz c m')):=by
 obtain⟨ρ,hb⟩:=h.bi
 have h0':m'.state=0:=hb.state▸h0
 refine abz (PA h.ok h0) (PA h.ok' h0') ?_
 rcases h.small with ⟨a,b⟩|e
 ·obtain⟨hr,hc,_⟩:=Jw h.ok h0
  obtain⟨hr',_,_⟩:=Jw h.ok' h0'
  exact ago hb h.ok h.ok' h0 (fun n e=>by have:=aeT (fun y hy=>hK y (bT hy)) hr hc e;omega) (fun n e=>by have:=aeT (fun y hy=>hK y (bT hy)) hr' hc e;omega)
 ·subst e
  obtain⟨σ,hs⟩:=U6 (PA h.ok h0)
  exact⟨_,hs.trans hs.flip⟩
theorem afp {c:Cd}{K:Nat}(hK:Lit c K)(hK2:K+1<=1000):∀(k:Nat){m m':Mc},Pair c m m'->Pair c (Il c k m).1 (Il c k m').1/\(Il c k m).2=(Il c k m').2
 |0,m,m',h=>⟨h,rfl⟩
 |k+1,m,m',h=>by
  obtain⟨ρ,hb⟩:=h.bi
  simp only[Il]
  rw[<-hb.state]
  by_cases h0:m.state=0
  ·rw[aG h0,aG h0]
   obtain⟨i1,i2⟩:=afp hK hK2 k (ad6 hK hK2 h h0)
   exact⟨i1,by simp only;rw[i2]⟩
  ·rw[aD h0,aD h0];exact⟨h,rfl⟩
end Go.Eng
/-! a machine that is written as bytes and read goes on as it would have: the law -/
namespace Go.Eng
open Go.Proofs Go.Proofs.Tryz
set_option maxHeartbeats 4000000

theorem agF {c:Cd}{m:Mc}{s:List UInt8}(hs:EZ c m=some s)(hL:Lit c 800)(h2:m.pool.length<=2000)(k:Nat) :
  (Il c k m).2=(Il c k (Ai m)).2/\∃x,EZ c (Il c k m).1=some x/\EZ c (Il c k (Ai m)).1=some x:=by
 have hm:=(Gu hs).1
 have hp:Pair c m (Ai m):=⟨hm,Je hm,U6 hm,.inl ⟨h2,Nat.le_trans (TV m) h2⟩⟩
 obtain⟨⟨o1,o2,⟨ρ,hb⟩,_⟩,h⟩:=afp hL (by omega) k hp
 refine⟨h,_,by unfold EZ;rw[aG o1],?_⟩
 unfold EZ
 rw[aG o2,hb.tidy o1 o2]
theorem ZT {b:List Int}(hb:b.length<4611686018427387904):V 4 [.rs (1,0) (b.map eB)]=some (.bool true,[]):=by
 rw[Vu,afi (ahm b)]
 cases hbig:decide ((b.length:Int)>1048576) with
 |true=>rfl
 |false=>
  obtain⟨x,m,steps,hd,hx,hm⟩:=adN hb
  have hl:=hm.len
  have k1:=Eh hx.fits hm.fits (by omega)
  have k2:=QY hx.fits hm.fits (by omega)
  have k3:=FJ hx.fits hm.fits (by omega)
  have k4:=QC hx.fits hm.fits (by omega) steps
  have hb1:∀o:Bool,(!(o==o))=false:=fun o=>by cases o<;>rfl
  rw[y0]
  refine(yx hd _).trans ?_
  rw[yL,zn,yK,zn,zp,zn,zp,zn,zp,zF,zn,yK,zn,zp,zn,zq,zn,zq,zn,zq,zn,zq,zn,zq,zn,zq,zn,zq,zF,zn,zq,zF,zF]
  try dsimp only
  cases hs:EZ x m with
  |none=>
   have hok:CN x m=false:=by
    unfold EZ at hs
    by_cases h:CN x m=true
    ·rw[aG h]at hs;cases hs
    ·simpa using h
   rw[hs,Qr]at k1 k2
   rw[hok]at k3
   rw[CW k1,MQ k2,yp (hb1 _),bO,zy,Rj,zy,KE k3]
   rfl
  |some s=>
   rw[hs,Qr]at k1 k2
   rw[CW k1,MQ k2,yp (hb1 _),aO,y0,lnM]
   by_cases h2:ni m.pool.length>2000
   ·rw[y6 (bE h2)]
   simp only[ni]at h2
   have hok:=(Gu hs).1
   have k5:=QX hx.fits (s:=s) (by have:=ad5 hs;omega)
   rw[acP hs,acO]at k5
   obtain⟨hp,hr,_⟩:=Dd (Je hok)
   have hf:=Gq (okPool_iff.1 hp).1
   have hl2:=Ak hp
   have k6:=QC hx.fits hf (by omega) steps
   unfold agm at k4 k6
   rw[aG hok]at k4
   rw[aG (Je hok)]at k6
   obtain⟨e,t,p1,p2⟩:=agF hs (fun y _ _ _=>hx.lit y.n) (by omega) (mnI steps 2000).toNat
   obtain⟨a1,a2,a3,_⟩:=Gt (Gu p1).1
   obtain⟨b1,b2,b3,_⟩:=Gt (Gu p2).1
   have k7:=Eh hx.fits (Gq a2) (by omega)
   have k8:=Eh hx.fits (Gq b2) (by omega)
   rw[p1,Qr]at k7
   rw[p2,Qr]at k8
   rw[<-e]at k6
   rw[yp (bK (by simp only[ni];omega)),TN k5,Uc k4,Uc k6,CW k7,CW k8,zy,y6 (zU rfl),zy,zy,Rj]
theorem WZ (xs:List D)(h:All2 (fun t x=>ShapeV Tryz.prog t x) Tryz.f4.params.toList xs):V 4 xs=some (.bool true,[]):=by
 rw[Tryz.params4]at h
 cases h with|cons h1 h=>
 cases h
 obtain⟨b,rfl,hb⟩:=aeA h1
 exact ZT hb
end Go.Eng
