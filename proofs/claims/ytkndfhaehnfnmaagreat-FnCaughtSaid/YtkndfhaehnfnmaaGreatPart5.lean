/- the program and the reference on plain data, part 5 -/
import Derived.Test.YtkndfhaehnfnmaaGreatPart4
import Derived.Test.YtkndfhaehnfnmaaGreatPart1
import Derived.Test.YtkndfhaehnfnmaaGreatPart2
import Derived.Test.YtkndfhaehnfnmaaGreatPart3
import Derived.Test.YtkndfhaehnfnmaaGreatEngC
/-! a step of a machine: the program's side: whole -/
namespace Go.Eng
open Go.Proofs Go.Proofs.Tryz
set_option maxHeartbeats 4000000

theorem VW:∀(r:List Int)(q:List Nd)(c:Nat),∃t,(CM r q c).1=q++t
 |[],q,c=>⟨[],by simp[CM]⟩
 |x::r,q,c=>by
  obtain⟨t,h⟩:=VW r (q++[ndP x c]) q.length
  exact⟨ndP x c::t,by rw[CM,h];simp⟩
theorem adR (q:List Nd)(row:List Int):∃t,(Af q row).1=q++t:=by
 obtain⟨t,h⟩:=VW row.reverse (q++[ndN]) q.length
 exact⟨ndN::t,by unfold Af;rw[h];simp⟩
theorem aff (p:List Nd)(x:Nd):nod (p++[x]) (p.length:Int)=x:=by simp[nod]
theorem Rk {c:Cd}:∀(k:Nat){m:Mc}{f:Int}{l:List Int},(∀v∈l,InP m.pool v)->(3<=k\/(2<=k/\(nod m.pool (l.getD 0 0)).kind=7)\/(1<=k/\(nod m.pool f).kind=7))->Fh c k m f l≠.error 0
 |0,m,f,l,hv,hk=>by omega
 |k+1,m,f,l,hv,hk=>by
  unfold Fh
  simp only
  split
  ·unfold GZ
   split
   ·intro h;cases h
   ·split
    ·intro h;cases h
    ·intro h;cases h
  split
  ·rename_i h6 h8
   split
   ·intro h;cases h
   rename_i hargs
   split
   ·rename_i h18
    obtain⟨v,r,rfl⟩:∃v r,l=v::r:=by
     cases l with
     |nil=>exact absurd (by rw[h18];decide) hargs
     |cons v r=>exact⟨v,r,rfl⟩
    obtain⟨t,ht⟩:=adR (m.pool++[ndI (m.at'+1)]) [(m.pool.length:Int),m.s,m.e,m.d]
    have e1:(Af (m.pool++[ndI (m.at'+1)]) [(m.pool.length:Int),m.s,m.e,m.d]).1=m.pool++(ndI (m.at'+1)::t):=by rw[ht];simp
    have hv0:=hv v (by simp)
    have up:nod ((Af (m.pool++[ndI (m.at'+1)]) [(m.pool.length:Int),m.s,m.e,m.d]).1++[ndK ((Af (m.pool++[ndI (m.at'+1)]) [(m.pool.length:Int),m.s,m.e,m.d]).2:Int)]) v=nod m.pool v:=by
     rw[e1,bD,aga hv0]
    refine Rk k (fun u hu=>?_) ?_
    ·simp only[cH]at hu;subst hu
     exact Cm _ _
    ·rcases hk with hk|⟨hk,h7⟩|⟨hk,h7⟩
     ·refine .inr (.inl ⟨by omega,?_⟩)
      simp only[dc]
      rw[aff]
     ·refine .inr (.inr ⟨by omega,?_⟩)
      simp only[dc]at h7⊢
      rw[up,h7]
     ·omega
   split
   ·intro h;cases h
   split
   ·rename_i q hq
    intro h
    have hz:q+1=0:=by injection h
    obtain⟨n1,n19,l2⟩:=Ft (n:=(nod m.pool f).n) (k:=l.length) (by simpa using hargs)
    rw[MW (by omega) (by simpa using (Eq.symm (by simpa using hargs:Av (nod m.pool f).n=(l.length:Int))))]at hq
    split at hq
    ·split at hq
     ·cases hq
     ·split at hq
      ·cases hq
      ·split at hq
       ·cases hq
       ·cases hq;omega
    ·cases hq;omega
   ·intro h;cases h
  split
  ·unfold Sr
   split
   ·intro h;cases h
   ·split<;>(intro h;cases h)
  ·intro h;cases h
theorem XP {c:Cd}:∀(k:Nat){m:Mc}{f:Int}{l:List Int}{h:Int},Fh c k m f l=.error h->h=0\/(1<=h/\h<=7)
 |0,m,f,l,h,he=>by cases he;exact .inl rfl
 |k+1,m,f,l,h,he=>by
  unfold Fh at he
  simp only at he
  split at he
  ·unfold GZ at he
   split at he
   ·cases he;omega
   ·split at he
    ·cases he;omega
    ·cases he
  split at he
  ·split at he
   ·cases he;omega
   rename_i hargs
   split at he
   ·exact XP k he
   split at he
   ·cases he
   split at he
   ·rename_i q hq
    cases he
    obtain⟨n1,n19,l2⟩:=Ft (n:=(nod m.pool f).n) (k:=l.length) (by simpa using hargs)
    rw[MW (by omega) (by simpa using (Eq.symm (by simpa using hargs:Av (nod m.pool f).n=(l.length:Int))))]at hq
    split at hq
    ·split at hq
     ·cases hq
     ·split at hq
      ·cases hq
      ·split at hq
       ·cases hq
       ·cases hq;omega
    ·cases hq;omega
   ·cases he
  split at he
  ·unfold Sr at he
   split at he
   ·cases he;omega
   ·split at he
    ·cases he
    ·cases he;omega
  ·cases he;omega
theorem afW {c:Cd}(_:Bu c=true){m:Mc}(h:RunM c m){q:Int}(he:doM c m=.error q):1<=q/\q<=7:=by
 unfold doM at he
 simp only at he
 split at he
 ·unfold CY at he
  split at he
  ·cases he;omega
  split at he
  ·cases he;omega
  ·rename_i l m1 ht
   obtain⟨f1,f2,f3,f4,f5,f6,f7,f8,f9⟩:=J6 h.gm ht
   rcases XP 3 he with rfl|h1
   ·exact absurd he (Rk 3 (fun v hv=>f2 v (by have:=List.mem_of_mem_drop hv;simpa using this)) (.inl (Nat.le_refl _)))
   ·exact h1
 split at he
 ·unfold Km at he
  split at he
  ·cases he;omega
  simp only at he
  split at he
  ·cases he
  split at he
  ·cases he;omega
  split at he
  ·cases he
  ·cases he;omega
 ·have go:∀{r:Except Int Mc}{n:Int},(∀q',r=.error q'->1<=q'/\q'<=7)->goM c r n=.error q->1<=q/\q<=7:=by
   intro r n hr hg
   unfold goM at hg
   split at hg
   ·cases hg;exact hr _ rfl
   ·split at hg
    ·cases hg
    ·cases hg;omega
  unfold EH at he
  split at he
  ·exact go (fun q' e=>by cases e) he
  split at he
  ·refine go (fun q' e=>?_) he
   unfold UQ at e
   split at e
   ·cases e;omega
   ·split at e
    ·cases e;omega
    ·cases e
  split at he
  ·refine go (fun q' e=>?_) he
   unfold Kw at e
   split at e
   ·cases e
   ·split at e
    ·cases e;omega
    ·cases e
  split at he
  ·exact go (fun q' e=>by cases e) he
  split at he
  ·exact go (fun q' e=>by cases e) he
  split at he
  ·cases he;omega
  ·exact go (fun q' e=>by cases e) he
theorem PA {c:Cd}{m:Mc}(h:CN c m=true)(h0:m.state=0):CN c (Iz c m)=true:=by
 obtain⟨hr,hc,hl⟩:=Jw h h0
 unfold Iz
 cases he:doM c m with
 |error q=>exact aa0 h (afW hc hr he)
 |ok m'=>
  obtain⟨g1,⟨t,g2,g3⟩,g4⟩:=Vi hc hr he
  simp only
  split
  ·exact adv hc g1.ok ‹_› g1.s g1.e g1.d g4
  ·exact aa0 h (by omega)

theorem abI:∀(n:Nat)(pre mid post:List Int)(i j:Int),mid.length<=n->i=pre.length->j=i+mid.length-1->(pre++mid++post).length<4611686018427387904 ->
  Ck i j ((pre++mid++post).map eI)=some (.tup [],[.os (1,0) ((pre++mid.reverse++post).map eI)])
 |0,pre,mid,post,i,j,hn,hi,hj,hl=>by
  have:mid=[]:=List.length_eq_zero_iff.1 (by omega)
  subst this
  rw[BH,yp (decide_eq_false (by simp at hj;omega))]
  rfl
 |n+1,pre,mid,post,i,j,hn,hi,hj,hl=>by
  match mid,hn,hj,hl with
  |[],hn,hj,hl=>
   rw[BH,yp (decide_eq_false (by simp at hj;omega))]
   rfl
  |[x],hn,hj,hl=>
   rw[BH,yp (decide_eq_false (by simp at hj;omega))]
   rfl
  |x::z::r,hn,hj,hl=>
   obtain⟨m,y,hm⟩:∃m y,z::r=m++[y]:=⟨(z::r).dropLast,(z::r).getLast (by simp),(List.dropLast_concat_getLast (by simp)).symm⟩
   rw[hm]at hn hj hl⊢
   simp only[lnC,lnA,lnN]at hn hj hl
   subst hi
   have hj':j=((pre.length+m.length+1:Nat):Int):=by omega
   subst hj'
   have hx:(pre++x::(m++[y])++post)[pre.length]? = some x:=by simp
   have hy:(pre++x::(m++[y])++post)[pre.length+m.length+1]? = some y:=by
    have e:pre++x::(m++[y])++post=(pre++x::m)++y::post:=by simp
    have e2:pre.length+m.length+1=(pre++x::m).length:=by simp;omega
    rw[e,e2];simp
   have len:(pre++x::(m++[y])++post).length=pre.length+m.length+2+post.length:=by simp;omega
   have s1:List.set ((pre++x::(m++[y])++post).map eI) pre.length (iN y)=(pre++y::(m++[y])++post).map eI:=by
    rw[<-List.map_set];simp
   have hy2:(pre++y::(m++[y])++post)[pre.length+m.length+1]? = some y:=by
    have e:pre++y::(m++[y])++post=(pre++y::m)++y::post:=by simp
    have e2:pre.length+m.length+1=(pre++y::m).length:=by simp;omega
    rw[e,e2];simp
   have s2:List.set ((pre++y::(m++[y])++post).map eI) (pre.length+m.length+1) (iN x)=((pre++[y])++m++(x::post)).map eI:=by
    have e:pre++y::(m++[y])++post=(pre++y::m)++y::post:=by simp
    have e2:pre.length+m.length+1=(pre++y::m).length:=by simp;omega
    rw[<-List.map_set,e,e2];simp
   have len2:(pre++y::(m++[y])++post).length=pre.length+m.length+2+post.length:=by simp;omega
   have ih:=abI n (pre++[y]) m (x::post) ((pre.length:Int)+1) (((pre.length+m.length+1:Nat):Int)-1) (by omega) (by simp) (by simp;omega) (by simp;omega)
   rw[BH,y6 (bE (by omega)),
    Jq (l:=pre++x::(m++[y])++post) (v:=((pre.length+m.length+1:Nat):Int)) (x:=y) (by omega) (by rw[bI];exact hy),
    Jq (l:=pre++x::(m++[y])++post) (v:=(pre.length:Int)) (x:=x) (by omega) (by rw[bI];exact hx),
    zJ (by rw[lnM];exact zM (by omega)),bI,zj hx,zO,s1,
    zJ (by rw[lnM];exact zM (by omega)),bI,zj hy2,zO,s2,w64 (n:=(pre.length:Int)+1) (by omega) (by omega),w64 (n:=((pre.length+m.length+1:Nat):Int)-1) (by omega) (by omega),ih]
   simp
theorem aep {l:List Int}(hl:l.length<4611686018427387904):V 183 [.os (1,0) (l.map eI)]=some (.tup [],[.os (1,0) (l.reverse.map eI)]):=by
 have h:=abI l.length [] l [] 0 ((l.length:Int)-1) (Nat.le_refl _) rfl (by omega) (by simpa using hl)
 simp only[dA,eK]at h
 rw[MH,lnM,w64 (n:=ni l.length-1) (by simp only[ni];omega) (by simp only[ni];omega)]
 exact h

theorem Yn (a:Int)(r:List Int):part ((a::r).map eI) (some (Int.toNat 1,((a::r).map eI).length-Int.toNat 1))=r.map eI:=by
 simp only[part,bR,lnC]
 show(r.map eI).take ((r.map eI).length+1-1)=_
 exact List.take_of_length_le (by simp)
theorem NY {c:Cd}(hc:c.list.length<=400){many:Nat}(hm:many<=4):∀(k i:Nat){m:Mc}{acc:List Int},i+k=many+1->acc.length=i->RunM c m->Cg c (m.at'+1)=true->m.pool.length<=3000->(∀v∈acc,InP m.pool v) ->
  QG c (Cy ((many:Int)+1) (i:Int) m.at' m.s m.e m.d m.state m.ask m.arg (c.pool.map eN) (c.list.map eIn) (c.defs.map eDf) (acc.map eI) (m.pool.map eN)) (match Ef k m with
   |none=>.error 7
   |some (l,m')=>Fh c 3 m' ((acc++l).reverse.getD 0 0) ((acc++l).reverse.drop 1))
 |0,i,m,acc,hi,ha,hr,hnx,hl,hv=>by
  rw[Fe,yp (bK (by omega)),KQ (aep (l:=acc) (by omega))]
  simp only[Ef,eK]
  obtain⟨a,r,hq⟩:∃a r,acc.reverse=a::r:=by
   cases hq:acc.reverse with
   |nil=>have h:=congrArg List.length hq;rw[List.length_reverse,lnN]at h;omega
   |cons a r=>exact⟨a,r,rfl⟩
  have hlen:r.length=many:=by have h:=congrArg List.length hq;rw[List.length_reverse,lnC]at h;omega
  have hvr:∀v∈a::r,InP m.pool v:=fun v hv'=>hv v (by rw[<-hq]at hv';simpa using hv')
  rw[hq,BU,zJ (by simp[df];omega),Yn]
  simp only[dc,List.drop_one,List.tail_cons]
  have h0:=Rk (c:=c) 3 (m:=m) (f:=a) (l:=r) (fun v hv'=>hvr v (by simp[hv'])) (.inl (Nat.le_refl _))
  have hcall:=YF hc 3 hr hnx (by omega) (hvr a (by simp)) (fun v hv'=>hvr v (by simp[hv'])) (by omega) (fun _ _=>okPool_iff.2 ⟨hr.gm.ok,hl⟩) h0
  cases he:Fh c 3 m a r with
  |ok m'=>rw[he]at hcall;rw[Gp (Jb hcall)];rfl
  |error q=>
   rw[he]at hcall
   obtain⟨q0,m',hx⟩:=Gg hcall
   rw[Gp hx]
   exact⟨q0,m',rfl⟩
 |k+1,i,m,acc,hi,ha,hr,hnx,hl,hv=>by
  rw[Fe,y6 (bE (by omega))]
  unfold Ef
  cases ht:D3 m with
  |none=>
   have h1:=NK (c:=c) hr.gm.s ht
   rw[Dt h1]
   exact⟨by decide,m,rfl⟩
  |some q=>
   obtain⟨v,m1⟩:=q
   have h1:=TW (c:=c) hr.gm.s ht
   obtain⟨g1,g2,g3,g4,g5,g6,g7,g8⟩:=D4 hr.gm ht
   have ea:acc.map eI++[iN v]=(acc++[v]).map eI:=by simp
   have ih:=NY hc hm k (i+1) (m:=m1) (acc:=acc++[v]) (by omega) (by simp[ha]) ⟨g1,g5.trans hr.st,g6.trans hr.ask,g7.trans hr.arg,by rw[g4];exact hr.pl⟩ (by rw[g4];exact hnx) (by rw[g3];exact hl) (fun u hu=>by
    rw[g3]
    rcases bF.1 hu with hu|hu
    ·exact hv u hu
    ·simp only[cH]at hu;subst hu;rw[<-g3];exact g2)
   rw[Dt h1,aO,y0,zJ (aa7 (by omega) v),zO,ea,z6 (by omega)]
   simp only
   cases ht2:Ef k m1 with
   |none=>rw[ht2]at ih;exact ih
   |some q2=>
    obtain⟨l2,m2⟩:=q2
    rw[ht2]at ih
    simp only[bD,List.singleton_append]at ih
    exact ih
theorem aao {c:Cd}(hc:c.list.length<=400){m:Mc}(hr:RunM c m)(hl:m.pool.length<=3000){k:Int}(hk:0<=k/\k<=4):QG c (V 132 [eSt c m,iN k]) (CY c m k.toNat):=by
 have hpl:=isPl_iff.1 hr.pl
 rw[Oh,w64 (n:=m.at'+1) (by omega) (by omega),Bq (IV hc _)]
 unfold CY
 cases hp:Cg c (m.at'+1) with
 |false=>rw[aG rfl];exact⟨by decide,m,rfl⟩
 |true=>
  have h:=NY hc (many:=k.toNat) (by omega) (k.toNat+1) 0 (acc:=[]) (by omega) rfl hr hp hl (by simp)
  rw[Int.natCast_zero,Int.toNat_of_nonneg hk.1]at h
  rw[aD (by simp),aO,y0,w64 (n:=k+1) (by omega) (by omega)]
  simp only[dA]at h
  exact h
theorem aer {c:Cd}(hc:c.list.length<=400){m:Mc}(hr:RunM c m)(hl:m.pool.length<=3000):QG c (V 133 [eSt c m]) (Km c m):=by
 rw[QN]
 unfold Km
 cases ht:D3 m with
 |none=>
  have h1:=NK (c:=c) hr.gm.s ht
  rw[Dt h1]
  exact⟨by decide,m,rfl⟩
 |some q=>
  obtain⟨v,m1⟩:=q
  have h1:=TW (c:=c) hr.gm.s ht
  obtain⟨g1,g2,g3,g4,g5,g6,g7,g8⟩:=D4 hr.gm ht
  rw[Dt h1,aO,y0,FP g1.d]
  simp only
  by_cases k1:(nod m1.pool m1.d).kind=1
  ·rw[aG k1,y6 (zU k1)];rfl
  rw[aD k1,yp (zT k1)]
  by_cases k5:(nod m1.pool m1.d).kind=5
  ·rw[aD (fun h=>h k5),yp (zW k5)]
   have ha:=O9 g1.ok g1.d (.inl k5)
   have hlst:=abT g1.ok (by rw[g3];omega) ha
   have hin:=Lz g1.ok ha
   rw[Pa hlst]
   rcases hq:Cw m1.pool (nod m1.pool m1.d).a with ⟨xs,b⟩
   have hfr:=VJ (c:=c) hq (many:=3) (by omega)
   rw[hq]at hin
   have none:∀{X:Option Ret},¬(b=true/\xs.length=3/\(nod m1.pool (xs.getD 0 0)).kind=3/\Cg c (nod m1.pool (xs.getD 0 0)).n=true)->X=some (iN 7,[eSt c m1])->QG c X (match Ie c m1.pool (nod m1.pool m1.d).a 3 with
     |some (n,[s,e])=>.ok (Jx ⟨m1.pool,n,s,e,(nod m1.pool m1.d).b,m1.state,m1.ask,m1.arg⟩ v)
     |_=>.error 7):=by
    intro X hn hX
    rw[hfr,aD hn]
    exact⟨by decide,m1,hX⟩
   cases b with
   |false=>exact none (fun h=>by simp at h) rfl
   |true=>
    rw[aO,y0]
    by_cases h4:xs.length=3
    ·obtain⟨a,s,e,rfl⟩:∃a s e,xs=[a,s,e]:=by
      match xs,h4 with
      |[a,s,e],_=>exact⟨a,s,e,rfl⟩
      |[],h=>simp at h
      |[_],h=>simp at h
      |[_,_],h=>simp at h
      |_::_::_::_::_,h=>simp at h
     have ha':=hin a (by simp)
     rw[yp (zW (Kz (k:=3) rfl)),BU,Od ha']
     by_cases h3:(nod m1.pool a).kind=3
     ·rw[yp (zW h3),BU,adH ha',Bq (IV hc _)]
      cases h5:Cg c (nod m1.pool a).n with
      |false=>exact none (fun h=>by have:=h.2.2.2;simp only[dc,h5]at this;cases this) rfl
      |true=>
       have a3:=Jz (c:=c) (m:=⟨m1.pool,(nod m1.pool a).n,s,e,(nod m1.pool m1.d).b,m1.state,m1.ask,m1.arg⟩) (by show m1.pool.length<_;rw[g3];omega) v
       rw[hfr,aG ⟨rfl,rfl,h3,h5⟩,aO,y0,BU,adH ha',Ig,ZQ,Cx a3]
       rfl
     ·rw[y6 (zX h3)]
      exact none (fun h=>h3 h.2.2.1) rfl
    ·rw[y6 (zX (Sa (l:=xs) (k:=3) (fun h=>h4 (by omega))))]
     exact none (fun h=>h4 h.2.1) rfl
  ·rw[aG k5,y6 (zX k5)]
   exact⟨by decide,m1,rfl⟩
end Go.Eng
/-! a step of a machine: the reference's side: the stack,the frames,calls -/
namespace Go.Eng
noncomputable section
open Go.Proofs Go.Proofs.Tryz
set_option maxHeartbeats 4000000

abbrev eMo (m:Mc):D:=.op [.os (5,0) (m.pool.map eN),iN m.at',iN m.s,iN m.e,iN m.d,iN m.state,iN m.ask,iN m.arg]
def SM (c:Cd)(X:Option Ret)(r:Except Int Mc):Prop:=match r with
 |.ok m=>X=some (iN 0,[eMo m])
 |.error h=>(h≠0/\∃m',X=some (iN h,[eMo m']))\/(h=7/\∃m',Cg c m'.at'=false/\X=some (iN 0,[eMo m']))
theorem Z8 {c:Cd}{X:Option Ret}{m:Mc}(h:SM c X (.ok m)):X=some (iN 0,[eMo m]):=h
theorem Wv {c:Cd}{X:Option Ret}{h:Int}(e:SM c X (.error h)):(h≠0/\∃m',X=some (iN h,[eMo m']))\/(h=7/\∃m',Cg c m'.at'=false/\X=some (iN 0,[eMo m'])):=e
theorem Pg {c:Cd}{X Y:Option Ret}{r:Except Int Mc}(h:SM c X r)(hy:∀q m',X=some (iN q,[eMo m'])->Y=some (iN q,[eMo m'])):SM c Y r:=by
 cases r with
 |ok m=>exact hy _ _ (Z8 h)
 |error q=>
  rcases Wv h with ⟨q0,m',hx⟩|⟨q7,m',hp,hx⟩
  ·exact .inl ⟨q0,m',hy _ _ hx⟩
  ·exact .inr ⟨q7,m',hp,hy _ _ hx⟩
theorem AZ {c:Cd}{X:Option Ret}{h:Int}(m:Mc)(h0:h≠0)(e:X=some (iN h,[eMo m])):SM c X (.error h):=.inl ⟨h0,m,e⟩

theorem JZ {m:Mc}(hl:m.pool.length<4294967296)(v:Int):V 95 [eMo m,iN v]=some (.tup [],[eMo (Jx m v)]):=by
 have h:=AV hl (ndP v m.s)
 rw[aaY,Ar h]
 rfl
theorem SI {m:Mc}(hs:InP m.pool m.s){v:Int}{m':Mc}(h:D3 m=some (v,m')):V 218 [eMo m]=some (.tup [iN v,.bool true],[eMo m']):=by
 unfold D3 at h
 rw[RM,FP hs]
 split at h
 ·rename_i h5
  cases h
  rw[yp (zW h5)]
 ·cases h
theorem LK {m:Mc}(hs:InP m.pool m.s)(h:D3 m=none):V 218 [eMo m]=some (.tup [iN 0,.bool false],[eMo m]):=by
 unfold D3 at h
 rw[RM,FP hs]
 split at h
 ·cases h
 ·rename_i h5
  rw[y6 (zX h5)]
theorem WC {p:List Nd}(hp:Al p):∀(k:Nat)(v:Int),InP p v->k<4611686018427387904 ->
  I9 v (k:Int) (p.map eN)=some (alD (JT p k v),[])
 |0,v,hv,hk=>by
  rw[Mr,yp (bK (by omega)),Od hv]
  unfold JT
  by_cases h5:(nod p v).kind=5
  ·rw[aG h5,yp (zW h5),aeB hv];rfl
  ·rw[aD h5,y6 (zX h5)];rfl
 |k+1,v,hv,hk=>by
  have hw:w6 (((k+1:Nat):Int)-1)=(k:Int):=by rw[w64 (by omega) (by omega)];omega
  rw[Mr,y6 (bE (by omega)),Od hv]
  unfold JT
  by_cases h5:(nod p v).kind=5
  ·have ih:=WC hp k (nod p v).b (Qp hp hv h5) (by omega)
   rw[aG h5,y6 (zU h5),aeC hv,hw,ih]
  ·rw[aD h5,yp (zT h5),Od hv,y6 (zX h5)];rfl
theorem adC {p:List Nd}(hp:Al p){v:Int}(hv:InP p v){n:Int}(h0:0<=n)(h1:n<4611686018427387904):V 216 [eP p,iN v,iN n]=some (alD (JT p n.toNat v),[]):=by
 have:=WC hp n.toNat v hv (by omega)
 rw[Int.toNat_of_nonneg h0]at this
 rw[aaX]
 exact this
theorem Qu {p:List Nd}(hp:Al p)(hl:p.length<4294967290):∀(k:Nat)(v:Int)(acc:List Int),InP p v->v<k->acc.length+k<4294967296 ->
  Fw v (p.map eN) (acc.map eI)=some (.tup [.os (1,0) ((if (IJ p k v).2=true then acc++(IJ p k v).1 else []).map eI),.bool (IJ p k v).2],[])
 |0,v,acc,hv,hk,ha=>by omega
 |k+1,v,acc,hv,hk,ha=>by
  rw[PU,Od hv]
  unfold IJ
  by_cases h5:(nod p v).kind=5
  ·have hb:=AH (JE hp hv) h5
   have ih:=Qu hp hl k (nod p v).b (acc++[(nod p v).a]) (Qp hp hv h5) (by omega) (by simp only[lnA,lnC,lnN];omega)
   have ea:acc.map eI++[iN (nod p v).a]=(acc++[(nod p v).a]).map eI:=by simp
   have hlim:decide (ni ((acc++[(nod p v).a]).map eI).length<=LIM)=true:=bE (by rw[qA];simp only[ni,lnM,lnA,lnC,lnN];omega)
   rw[aG h5,y6 (zU h5),aeB hv,ea,zJ hlim,zO,aeC hv,ih]
   simp
  ·rw[aD h5,yp (zT h5),Od hv]
   by_cases h1:(nod p v).kind=1
   ·rw[yp (zW h1)];simp[h1]
   ·rw[y6 (zX h1)];simp[h1]
theorem KN {p:List Nd}(hp:Al p)(hl:p.length<2147483648){v:Int}(hv:InP p v):V 228 [eP p,iN v]=some (.tup [.os (1,0) ((if (Cw p v).2=true then (Cw p v).1 else []).map eI),.bool (Cw p v).2],[]):=by
 have:=Qu hp (by omega) (v.toNat+1) v [] hv (by omega) (by simp only[lnN];omega)
 rw[Vx]
 simp only[dA]at this
 exact this
def OC (p:List Nd)(v:Int)(many:Nat):Option (Int×List Int):=if (Cw p v).2=true/\(Cw p v).1.length=many/\(nod p ((Cw p v).1.getD 0 0)).kind=3 then some ((nod p ((Cw p v).1.getD 0 0)).n,(Cw p v).1.drop 1) else none
theorem Yc {c:Cd}{p:List Nd}{v:Int}{many:Nat}(hm:0<many):Ie c p v many=match OC p v many with
  |none=>none
  |some (n,r)=>if Cg c n=true then some (n,r) else none:=by
 rw[VJ (xs:=(Cw p v).1) (b:=(Cw p v).2) rfl hm]
 unfold OC
 by_cases h:(Cw p v).2=true/\(Cw p v).1.length=many/\(nod p ((Cw p v).1.getD 0 0)).kind=3
 ·rw[aG h]
  simp only
  by_cases h2:Cg c (nod p ((Cw p v).1.getD 0 0)).n=true
  ·rw[aG ⟨h.1,h.2.1,h.2.2,h2⟩,aG h2]
  ·rw[aD (fun q=>h2 q.2.2.2),aD h2]
 ·rw[aD h,aD (fun q=>h ⟨q.1,q.2.1,q.2.2.1⟩)]
theorem VI {p:List Nd}{v:Int}{many:Nat}{n:Int}{r:List Int}(hm:0<many)(h:OC p v many=some (n,r)):r.length+1=many:=by
 unfold OC at h
 split at h
 ·rename_i hh;cases h;rw[c8];omega
 ·cases h
def frD (r:Option (Int×List Int)):D:=match r with|some (n,l)=>.tup [iN n,.os (1,0) (l.map eI),.bool true] | none=>.tup [iN 0,.os (1,0) [],.bool false]
theorem YE {p:List Nd}(hp:Al p)(hl:p.length<2147483648){v:Int}(hv:InP p v){many:Nat}(hm:0<many):V 234 [eP p,iN v,iN (many:Int)]=some (frD (OC p v many),[]):=by
 have hlst:=KN hp hl hv
 have hin:=Lz hp hv
 rw[Xr,Gd hlst]
 unfold OC
 cases hb:(Cw p v).2 with
 |false=>rw[if_neg (fun h=>by simp at h)];rfl
 |true=>
  rw[aG rfl,aO,y0]
  by_cases h4:(Cw p v).1.length=many
  ·cases hq:(Cw p v).1 with
   |nil=>rw[hq]at h4;simp at h4;omega
   |cons a r=>
    rw[hq]at hin h4
    have ha:=hin a (by simp)
    rw[yp (zW (Kz (by rw[h4]))),BU,Od ha]
    by_cases h3:(nod p a).kind=3
    ·rw[yp (zW h3),BU,adH ha,zJ (by simp[df];omega),Yn,if_pos ⟨rfl,h4,h3⟩]
     rfl
    ·rw[y6 (zX h3),aD (fun h=>h3 h.2.2)];rfl
  ·rw[y6 (zX (Sa (fun h=>h4 (by omega)))),aD (fun h=>h4 h.2.1)];rfl

theorem ad9 {p:List Nd}{n q:Int}{l:List Int}(h12:1<=n/\n<=12)(hargs:(l.length:Int)=Av n)(hr:Iy p n l=.error q):q=3\/q=4:=by
 rw[MW h12 hargs]at hr
 split at hr
 ·split at hr
  ·cases hr
  ·split at hr
   ·cases hr
   ·split at hr
    ·cases hr
    ·cases hr;exact .inr rfl
 ·cases hr;exact .inl rfl
theorem YD {c:Cd}(hc:c.list.length<=400):∀(k:Nat){m:Mc}{f:Int}{l:List Int},RunM c m->Cg c (m.at'+1)=true->m.pool.length+100*k<2147483600->InP m.pool f->(∀v∈l,InP m.pool v)->l.length<=4->Fh c k m f l≠.error 0 ->
  SM c (V 233 [eCd c,eMo m,iN f,.rs (1,0) (l.map eI),iN (m.at'+1)]) (Fh c k m f l)
 |0,m,f,l,h,hnx,hl,hf,hv,h4,h0=>absurd rfl h0
 |k+1,m,f,l,h,hnx,hl,hf,hv,h4,h0=>by
  have hok:=JE h.gm.ok hf
  have hpl:=isPl_iff.1 h.pl
  rw[Xq,FP hf]
  unfold Fh at h0⊢
  simp only at h0⊢
  by_cases h6:(nod m.pool f).kind=6
  ·rw[aG h6,y6 (zU h6)]
   have hfn:0<=(nod m.pool f).n/\(nod m.pool f).n<=1000000000:=by
    simp[okN,h6]at hok
    exact wi_iff.1 hok.1
   have t1:Int.tmod (nod m.pool f).n 8=(nod m.pool f).n % 8:=Int.tmod_eq_emod_of_nonneg hfn.1
   have t2:Int.tdiv (nod m.pool f).n 8=(nod m.pool f).n / 8:=Int.tdiv_eq_ediv_of_nonneg hfn.1
   rw[zJ (by decide),t1,t2]
   unfold GZ
   by_cases h1:(nod m.pool f).n % 8=(l.length:Int)
   ·rw[aD (by omega),yp (zW (by rw[Kz rfl];exact h1)),zJ (by decide),w64 (n:=(nod m.pool f).n / 8) (by omega) (by omega),lnM]
    cases h2:Cg c ((nod m.pool f).n / 8) with
    |false=>
     have:¬((nod m.pool f).n / 8<=(c.list.length:Int)-1):=fun h=>by
      have:=isPl_iff.2 ⟨by omega,h⟩
      rw[h2]at this;cases this
     rw[aG rfl,y6 (bE (by simp only[ni];omega))]
     exact AZ m (by decide) rfl
    |true=>
     have h2':=isPl_iff.1 h2
     rw[aD (by simp),yp (bK (by simp only[ni];omega))]
     have a1:=AV (p:=m.pool) (by omega) (ndI (m.at'+1))
     have l1:=FE (m.pool++[ndI (m.at'+1)]) [(m.pool.length:Int),m.s,m.e]
     simp only[lnA,lnC,lnN]at l1
     have a2:V 210 [rP (m.pool++[ndI (m.at'+1)]),.rs (1,0) [iN (m.pool.length:Int),iN m.s,iN m.e]]=_:=PC (q:=m.pool++[ndI (m.at'+1)]) (row:=[(m.pool.length:Int),m.s,m.e]) (by simp only[lnA,lnC,lnN];omega)
     have a3:=AV (p:=(Af (m.pool++[ndI (m.at'+1)]) [(m.pool.length:Int),m.s,m.e]).1) (by omega) (ndP (Af (m.pool++[ndI (m.at'+1)]) [(m.pool.length:Int),m.s,m.e]).2 m.d)
     rw[Ar a1,Gz a2,Ar a3]
     generalize hB:Af (m.pool++[ndI (m.at'+1)]) [(m.pool.length:Int),m.s,m.e]=B at l1⊢
     have l2:=FE (B.1++[ndP B.2 m.d]) l
     simp only[lnA,lnC,lnN]at l2
     have a4:=PC (q:=B.1++[ndP B.2 m.d]) (row:=l) (by simp only[lnA,lnC,lnN];omega)
     have a5:=AV (p:=(Af (B.1++[ndP B.2 m.d]) l).1) (by omega) (ndP (Af (B.1++[ndP B.2 m.d]) l).2 (nod m.pool f).a)
     have a6:=AV (p:=(Af (B.1++[ndP B.2 m.d]) l).1++[ndP (Af (B.1++[ndP B.2 m.d]) l).2 (nod m.pool f).a]) (by simp only[lnA,lnC,lnN];omega) ndN
     have e6:(((Af (B.1++[ndP B.2 m.d]) l).1++[ndP (Af (B.1++[ndP B.2 m.d]) l).2 (nod m.pool f).a]).length:Int)=(Af (B.1++[ndP B.2 m.d]) l).1.length+1:=by simp
     rw[e6]at a6
     rw[Gz a4,Ar a5,Ar a6,zJ (by decide)]
     rfl
   ·rw[aG h1,y6 (zX (by rw[Kz rfl];exact h1))]
    exact AZ m (by decide) rfl
  rw[aD h6]at h0⊢
  rw[yp (zT h6)]
  by_cases h8:(nod m.pool f).kind=8
  ·rw[aG h8]at h0⊢
   rw[y6 (zU h8)]
   have prim:SM c (V 240 [eCd c,eMo m,iN (nod m.pool f).n,.rs (1,0) (l.map eI),iN (m.at'+1)]) (if Av (nod m.pool f).n≠(l.length:Int) then .error 2
     else if (nod m.pool f).n=18 then
      Fh c k ⟨(Af (m.pool++[ndI (m.at'+1)]) [(m.pool.length:Int),m.s,m.e,m.d]).1++[ndK (Af (m.pool++[ndI (m.at'+1)]) [(m.pool.length:Int),m.s,m.e,m.d]).2],m.at',m.s,m.e,m.d,m.state,m.ask,m.arg⟩ (l.getD 0 0) [((Af (m.pool++[ndI (m.at'+1)]) [(m.pool.length:Int),m.s,m.e,m.d]).1.length:Int)]
     else if (nod m.pool f).n>12 then
      .ok ⟨(Af m.pool l).1,m.at',m.s,m.e,m.d,1,(nod m.pool f).n,(Af m.pool l).2⟩
     else match Iy m.pool (nod m.pool f).n l with
      |.error h=>.error (h+1)
      |.ok (p,v)=>.ok ⟨p++[ndP v m.s],m.at'+1,p.length,m.e,m.d,m.state,m.ask,m.arg⟩):=by
    rw[ZH,XE UN]
    by_cases hargs:Av (nod m.pool f).n=(l.length:Int)
    ·have hargs':¬Av (nod m.pool f).n≠(l.length:Int):=fun h=>h hargs
     obtain⟨n1,n19,l2⟩:=Ft hargs
     rw[aD hargs']at h0⊢
     rw[yp (zW (Kz hargs.symm))]
     by_cases h18:(nod m.pool f).n=18
     ·rw[aG h18]at h0⊢
      rw[y6 (zU h18)]
      obtain⟨v,rfl⟩:∃v,l=[v]:=by
       rw[h18]at hargs
       match l,hargs with
       |[v],_=>exact⟨v,rfl⟩
       |[],h=>cases h
       |_::_::r,h=>simp only[lnC]at h;have:Av 18=1:=rfl;omega
      have a1:=AV (p:=m.pool) (by omega) (ndI (m.at'+1))
      have l1:=FE (m.pool++[ndI (m.at'+1)]) [(m.pool.length:Int),m.s,m.e,m.d]
      simp only[lnA,lnC,lnN]at l1
      have a2:V 210 [rP (m.pool++[ndI (m.at'+1)]),.rs (1,0) [iN (m.pool.length:Int),iN m.s,iN m.e,iN m.d]]=_:=PC (q:=m.pool++[ndI (m.at'+1)]) (row:=[(m.pool.length:Int),m.s,m.e,m.d]) (by simp only[lnA,lnC,lnN];omega)
      have o1:Al (m.pool++[ndI (m.at'+1)]):=AC h.gm.ok (Sk (by omega))
      obtain⟨b1,⟨t,b2,b3⟩,b4⟩:=Fj (row:=[(m.pool.length:Int),m.s,m.e,m.d]) o1 (fun v hv=>by
       simp only[bN,dY,or_false]at hv
       rcases hv with rfl|rfl|rfl|rfl
       ·exact Cm _ _
       ·exact Am _ h.gm.s
       ·exact Am _ h.gm.e
       ·exact Am _ h.gm.d)
      have e1:(Af (m.pool++[ndI (m.at'+1)]) [(m.pool.length:Int),m.s,m.e,m.d]).1=m.pool++(ndI (m.at'+1)::t):=by rw[b2];simp
      have up:∀{v:Int},InP m.pool v->InP ((Af (m.pool++[ndI (m.at'+1)]) [(m.pool.length:Int),m.s,m.e,m.d]).1++[ndK ((Af (m.pool++[ndI (m.at'+1)]) [(m.pool.length:Int),m.s,m.e,m.d]).2:Int)]) v:=fun hv=>Am _ (by rw[e1];exact Am _ hv)
      have g2:RunM c ⟨(Af (m.pool++[ndI (m.at'+1)]) [(m.pool.length:Int),m.s,m.e,m.d]).1++[ndK ((Af (m.pool++[ndI (m.at'+1)]) [(m.pool.length:Int),m.s,m.e,m.d]).2:Int)],m.at',m.s,m.e,m.d,m.state,m.ask,m.arg⟩:=
       ⟨⟨AC b1 (U5 b4),up h.gm.s,up h.gm.e,up h.gm.d⟩,h.st,h.ask,h.arg,h.pl⟩
      rw[Ar a1,Gz a2]
      generalize hB:Af (m.pool++[ndI (m.at'+1)]) [(m.pool.length:Int),m.s,m.e,m.d]=B at l1 b1 b2 b4 e1 up g2 h0⊢
      have a3:=AV (p:=B.1) (by omega) (ndK (B.2:Int))
      have a4:=YD hc k g2 hnx (by show(B.1++[ndK (B.2:Int)]).length+100*k<_;simp only[lnA,lnC,lnN];omega) (up (hv v (by simp))) (l:=[(B.1.length:Int)]) (fun u hu=>by
       simp only[cH]at hu;subst hu;exact Cm _ _) (by simp) h0
      rw[Ar a3,BU]
      simp only[dc]at a4⊢
      simp only[bR,eL]at a4
      exact Pg a4 (fun q m' hx=>by rw[Si hx])
     rw[aD h18]at h0⊢
     rw[yp (zT h18)]
     by_cases h12:(nod m.pool f).n>12
     ·rw[aG h12,y6 (bE h12)]
      have a1:=PC (q:=m.pool) (row:=l) (by omega)
      rw[Gz a1]
      rfl
     rw[aD h12,yp (bK h12)]
     have hp:=ag1 h.gm.ok (by omega) (n:=(nod m.pool f).n) hv (by omega) hargs.symm
     cases hr:Iy m.pool (nod m.pool f).n l with
     |error q=>
      rw[hr]at hp
      have hq:=ad9 (by omega) hargs.symm hr
      rw[Yl hp]
      rcases hq with rfl|rfl
      ·exact AZ m (by decide) rfl
      ·exact AZ m (by decide) rfl
     |ok r=>
      obtain⟨p,v⟩:=r
      rw[hr]at hp
      obtain⟨q1,q2,t,q3,q4⟩:=Wx h.gm.ok hv (by omega) hargs.symm hr
      have hpl':p.length<4294967296:=by rw[q3];simp only[lnA];omega
      have a3:=JZ (m:=⟨p,m.at',m.s,m.e,m.d,m.state,m.ask,m.arg⟩) hpl' v
      rw[Yl hp,yp (zT (by omega)),yp (zT (by omega)),CZ a3]
      rfl
    ·rw[aG hargs,y6 (zX (Sa (fun h=>hargs h.symm)))]
     exact AZ m (by decide) rfl
   exact Pg prim (fun q m' hx=>by rw[abu hx])
  rw[aD h8,yp (zT h8)]
  by_cases h7:(nod m.pool f).kind=7
  ·rw[aG h7,y6 (zU h7)]
   unfold Sr
   by_cases h1:l.length=1
   ·have hs:=O9 h.gm.ok hf (.inr (.inr h7))
    have hfr:V 234 [eP m.pool,iN (nod m.pool f).a,iN 4]=_:=YE h.gm.ok (by omega) hs (many:=4) (by omega)
    rw[aD (by omega),yp (zW (Kz (by omega))),Yc (by omega)]
    obtain⟨v,rfl⟩:∃v,l=[v]:=by
     match l,h1 with
     |[v],_=>exact⟨v,rfl⟩
     |[],h=>simp at h
     |_::_::_,h=>simp at h
    cases hq:OC m.pool (nod m.pool f).a 4 with
    |none=>
     rw[hq]at hfr
     rw[FH hfr]
     exact AZ m (by decide) rfl
    |some nr=>
     obtain⟨n,r⟩:=nr
     rw[hq]at hfr
     have hlen:=VI (by omega) hq
     obtain⟨s,e,d,rfl⟩:∃s e d,r=[s,e,d]:=by
      match r,hlen with
      |[s,e,d],_=>exact⟨s,e,d,rfl⟩
      |[],h=>simp at h
      |[_],h=>simp at h
      |[_,_],h=>simp at h
      |_::_::_::_::_,h=>simp at h
     have a3:=JZ (m:=⟨m.pool,n,s,e,d,m.state,m.ask,m.arg⟩) (by show m.pool.length<_;omega) v
     by_cases h5:Cg c n=true
     ·simp only[h5,if_true]
      rw[FH hfr,aO,y0,BU,Ig,ZQ,BU,CZ a3]
      rfl
     ·have h5f:Cg c n=false:=by cases hz:Cg c n with|true=>exact absurd hz h5|false=>rfl
      simp only[h5f]
      refine .inr ⟨rfl,Jx ⟨m.pool,n,s,e,d,m.state,m.ask,m.arg⟩ v,h5f,?_⟩
      rw[FH hfr,aO,y0,BU,Ig,ZQ,BU,CZ a3]
   ·rw[aG h1,y6 (zX (Sa (l:=l) (k:=1) (fun h=>h1 (by omega))))]
    exact AZ m (by decide) rfl
  ·rw[aD h7,yp (zT h7)]
   exact AZ m (by decide) rfl
end
end Go.Eng
/-! a step of a machine: the program's side: every instruction; runs -/
namespace Go.Eng
open Go.Proofs Go.Proofs.Tryz
set_option maxHeartbeats 4000000

theorem TU {q:List Nd}{v:Int}(hv:InP q v):Ap q [v]=true:=by
 simp only[Ap,List.all_cons,List.all_nil,bP]
 exact wi_iff.2 ⟨hv.1,by omega⟩
theorem aa5 {l:List Int}{v:Int}(h:0<=v/\v<(l.length:Int)){R:Type}(K:Int->Option R):grd (decide (0<=v)&&decide (v<ni (l.map eI).length)) (dd (l.map eI) v.toNat fun x=>asI .i64 x fun n=>K n)=K (l.getD v.toNat 0):=by
 obtain⟨u,hu⟩:=FC (l:=l) h.1 h.2
 rw[Jq h.1 hu]
 simp[hu]
theorem acU {q acc:List Nd}(hp:Ac q=true){v:Int}(hv:InP q v)(hc:acc.length+q.length<4294967296):V 93 [rP acc,eP q,iN v]=some (iN (Ce (-1) q v acc).2,[rP (Ce (-1) q v acc).1]):=by
 have hm:V 137 [rP acc,eP q,.rs (1,0) [iN v]]=_:=abU (acc:=acc) hp (rs:=[v]) (by simp) (TU hv) hc
 have hl:(Bc (-1) q [v] acc).1.length=q.length:=by unfold Bc;rw[D5];simp
 rw[PZ,Pb hm,aa5 ⟨hv.1,by rw[hl];exact hv.2⟩]
 rfl
theorem J4 {c:Cd}(_:c.list.length<=400){m:Mc}{n:Int}{X:Option Ret} (h:X=match Cg c n with
  |false=>some (iN 7,[eSt c m])
  |true=>some (iN 0,[eSt c ⟨m.pool,n,m.s,m.e,m.d,m.state,m.ask,m.arg⟩])):QG c X (goM c (.ok m) n):=by
 unfold goM
 cases hp:Cg c n with
 |false=>rw[hp]at h;exact⟨by decide,m,h⟩
 |true=>rw[hp]at h;exact h
theorem ac2 {c:Cd}(hf:FitsC c)(hok:Bu c=true){m:Mc}(hr:RunM c m)(hl:m.pool.length<=3000){x:In}{k:Nat}(hx:c.list[k]? = some x):QG c (V 134 [eSt c m,eIn x]) (EH c m x):=by
 obtain⟨c1,c2,c3⟩:=AU hok
 have cl:=Ak c1
 have hin:=IL hok hx
 have hat:=isPl_iff.1 hr.pl
 have w1:w6 (m.at'+1)=m.at'+1:=w64 (by omega) (by omega)
 rw[Qc]
 unfold EH
 by_cases h1:x.op=1
 ·have hlit:=Pe hin h1
  have f:=Jo c1 hr.gm.ok hlit (-1)
  obtain⟨f1,f2,t,f3,f4⟩:=f
  have hlen:=congrArg List.length f3
  rw[lnA]at hlen
  have h2:=acU (acc:=m.pool) c1 hlit (by omega)
  have h3:=Jz (c:=c) (m:=⟨(Ce (-1) c.pool x.n m.pool).1,m.at',m.s,m.e,m.d,m.state,m.ask,m.arg⟩) (by show(Ce (-1) c.pool x.n m.pool).1.length<_;omega) (Ce (-1) c.pool x.n m.pool).2
  rw[aG h1,y6 (zU h1),TM h2,Cx h3,w1,Bq (IV c2 _)]
  refine J4 c2 ?_
  cases Cg c (m.at'+1)<;>rfl
 rw[aD h1,yp (zT h1)]
 by_cases h2:x.op=2
 ·have hv:=aby hin h2
  have hX:=XN (c:=c) (m:=m) hr.gm.ok (by omega) hr.gm.e (o:=x.n) (i:=x.i) (by omega) (by omega) (by omega) (by omega)
  rw[aG h2,y6 (zU h2)]
  cases e:UQ m x.n x.i with
  |ok m'=>
   rw[e]at hX
   rw[JN (Jb hX),y6 (zU rfl),w1,Bq (IV c2 _)]
   refine J4 c2 ?_
   cases Cg c (m.at'+1)<;>rfl
  |error q=>
   rw[e]at hX
   obtain⟨q0,m',hx'⟩:=Gg hX
   rw[JN hx',yp (zT q0),w1]
   exact⟨q0,⟨m'.pool,m.at'+1,m'.s,m'.e,m'.d,m'.state,m'.ask,m'.arg⟩,rfl⟩
 rw[aD h2,yp (zT h2)]
 by_cases h3:x.op=3
 ·have hX:=ab0 hf hok (m:=m) (by omega) x.s
  rw[aG h3,y6 (zU h3)]
  cases e:Kw c m x.s with
  |ok m'=>
   rw[e]at hX
   rw[LG (Jb hX),y6 (zU rfl),w1,Bq (IV c2 _)]
   refine J4 c2 ?_
   cases Cg c (m.at'+1)<;>rfl
  |error q=>
   rw[e]at hX
   obtain⟨q0,m',hx'⟩:=Gg hX
   rw[LG hx',yp (zT q0),w1]
   exact⟨q0,⟨m'.pool,m.at'+1,m'.s,m'.e,m'.d,m'.state,m'.ask,m'.arg⟩,rfl⟩
 rw[aD h3,yp (zT h3)]
 by_cases h5:x.op=5
 ·rw[aG h5,y6 (zU h5),Bq (IV c2 _)]
  refine J4 c2 ?_
  cases Cg c x.n<;>rfl
 rw[aD h5,yp (zT h5)]
 by_cases h6:x.op=6
 ·have hfn:=Wu hin h6
  have h7:=KM (p:=m.pool) (by omega) (ndF (8*x.n+x.i) m.e)
  have h8:=Jz (c:=c) (m:=⟨m.pool++[ndF (8*x.n+x.i) m.e],m.at',m.s,m.e,m.d,m.state,m.ask,m.arg⟩) (by simp;omega) m.pool.length
  rw[aG h6,y6 (zU h6),w64 (n:=8*x.n) (by omega) (by omega),w64 (n:=8*x.n+x.i) (by omega) (by omega),Bg h7,Cx h8,w1,Bq (IV c2 _)]
  refine J4 c2 ?_
  cases Cg c (m.at'+1)<;>rfl
 rw[aD h6,yp (zT h6)]
 cases ht:D3 m with
 |none=>
  have h1:=NK (c:=c) hr.gm.s ht
  rw[Dt h1]
  exact⟨by decide,m,rfl⟩
 |some q=>
  obtain⟨v,m1⟩:=q
  have hX:=TW (c:=c) hr.gm.s ht
  obtain⟨g1,g2,g3,g4,g5,g6,g7,g8⟩:=D4 hr.gm ht
  rw[Dt hX,aO,y0,FP g2,w1]
  simp only
  by_cases h4:x.op=4
  ·rw[y6 (zU h4)]
   by_cases k2:(nod m1.pool v).kind=2
   ·rw[y6 (zU k2)]
    by_cases k0:(nod m1.pool v).n=0
    ·rw[y6 (zU k0),aG ⟨h4,k2,k0⟩,Bq (IV c2 _)]
     refine J4 c2 ?_
     cases Cg c x.n<;>rfl
    ·rw[yp (zT k0),aD (fun h=>k0 h.2.2),Bq (IV c2 _)]
     refine J4 c2 ?_
     cases Cg c (m.at'+1)<;>rfl
   ·rw[yp (zT k2),aD (fun h=>k2 h.2.1),Bq (IV c2 _)]
    refine J4 c2 ?_
    cases Cg c (m.at'+1)<;>rfl
  ·rw[yp (zT h4),aD (fun h=>h4 h.1),Bq (IV c2 _)]
   refine J4 c2 ?_
   cases Cg c (m.at'+1)<;>rfl

theorem afy {m:Mc}(hl:m.pool.length<=4294967296)(q:Int):V 92 [eMc m,iN q]=some (oMc (RQ m q),[]):=by
 rw[Y0,FG (Gi hl)]
 rfl
theorem afE {c:Cd}(hf:FitsC c)(hok:Bu c=true){m:Mc}(hr:RunM c m)(hl:m.pool.length<=3000):V 64 [eCd c,eMc m]=some (oMc (Iz c m),[]):=by
 obtain⟨c1,c2,c3⟩:=AU hok
 have cl:=Ak c1
 obtain⟨x,hx⟩:=SA hr
 have hin:=IL hok hx
 have hat:=isPl_iff.1 hr.pl
 have hgd:c.list.getD m.at'.toNat ⟨0,0,0,⟨#[]⟩⟩=x:=by rw[aN,hx];rfl
 have hfail:=fun q=>afy (m:=m) (by omega) q
 have big:∀{m':Mc},doM c m=.ok m'->m'.pool.length<4294967296:=fun e=>by
  obtain⟨g1,⟨t,g2,g3⟩,g4⟩:=Vi hok hr e
  have hlen:=congrArg List.length g2
  rw[lnA]at hlen
  omega
 rw[ack,FG (Gi (by omega)),zJ (by rw[lnM];simp only[ni,aB,bL];omega),zj hx,ae7]
 have hdo:doM c m=if x.op=7 then CY c m x.i.toNat else if x.op=8 then Km c m else EH c m x:=by unfold doM;rw[hgd]
 unfold Iz
 by_cases h7:x.op=7
 ·rw[aG h7]at hdo
  rw[hdo]at big⊢
  have hX:=aao c2 hr hl (PN hin h7)
  rw[y6 (zU h7)]
  cases e:CY c m x.i.toNat with
  |ok m'=>
   rw[e]at hX
   have hb:=big e
   rw[KG (Jb hX),y6 (zU rfl),lnM]
   simp only
   by_cases h3:m'.pool.length<=3000
   ·rw[yp (bK (by simp only[ni];omega)),yp (zW rfl),aG h3]
   ·rw[y6 (bE (by simp only[ni];omega)),Gy (hfail 6),aD h3]
  |error q=>
   rw[e]at hX
   obtain⟨q0,m',hx'⟩:=Gg hX
   rw[KG hx',yp (zT q0),y6 (zX q0),Gy (hfail q)]
 rw[aD h7]at hdo
 rw[yp (zT h7)]
 by_cases h8:x.op=8
 ·rw[aG h8]at hdo
  rw[hdo]at big⊢
  have hX:=aer c2 hr hl
  rw[y6 (zU h8)]
  cases e:Km c m with
  |ok m'=>
   rw[e]at hX
   have hb:=big e
   rw[NV (Jb hX),y6 (zU rfl),lnM]
   simp only
   by_cases h3:m'.pool.length<=3000
   ·rw[yp (bK (by simp only[ni];omega)),yp (zW rfl),aG h3]
   ·rw[y6 (bE (by simp only[ni];omega)),Gy (hfail 6),aD h3]
  |error q=>
   rw[e]at hX
   obtain⟨q0,m',hx'⟩:=Gg hX
   rw[NV hx',yp (zT q0),y6 (zX q0),Gy (hfail q)]
 rw[aD h8]at hdo
 rw[yp (zT h8)]
 rw[hdo]at big⊢
 have hX:=ac2 hf hok hr hl hx
 cases e:EH c m x with
 |ok m'=>
  rw[e]at hX
  have hb:=big e
  rw[MU (Jb hX),y6 (zU rfl),lnM]
  simp only
  by_cases h3:m'.pool.length<=3000
  ·rw[yp (bK (by simp only[ni];omega)),yp (zW rfl),aG h3]
  ·rw[y6 (bE (by simp only[ni];omega)),Gy (hfail 6),aD h3]
 |error q=>
  rw[e]at hX
  obtain⟨q0,m',hx'⟩:=Gg hX
  rw[MU hx',yp (zT q0),y6 (zX q0),Gy (hfail q)]
theorem abO {c:Cd}(hf:FitsC c){m:Mc}(hm:Cu m.pool)(hl:m.pool.length<=4294967296):V 17 [eCd c,eMc m]=some (oMc (Ul c m),[]):=by
 have h1:=FJ hf hm (by omega)
 rw[ach,KE h1]
 unfold Ul
 cases h:CN c m with
 |false=>rw[bO,zy,aD (by simp)];rfl
 |true=>
  rw[aO,y0,aG rfl]
  by_cases h0:m.state=0
  ·obtain⟨r1,r2,r3⟩:=Jw h h0
   rw[yp (zW h0),Yj (afE hf r2 r1 r3),aG h0]
  ·rw[y6 (zX h0),FG (Gi hl),aD h0]
theorem afF {m:Mc}(hf:Cu m.pool)(hl:m.pool.length<=4294967296):V 73 [oMc m]=some (oMc (DD m),[]):=by
 rw[Y8,lnM]
 unfold DD
 by_cases h:m.pool.length<=2000
 ·rw[yp (bK (by simp only[ni];omega)),aG h]
 ·rw[y6 (bE (by simp only[ni];omega)),ad3 (Uo hf hl),aD h]
theorem Uj {c:Cd}(hf:FitsC c){steps:Int}:∀(k:Nat){m:Mc}(n:Int),CN c m=true->0<=n->((n+k=mnI steps 2000)\/(k=0/\mnI steps 2000<=n))->n<=2000 ->
  GJ steps n (c.pool.map eN) (c.list.map eIn) (c.defs.map eDf) m.at' m.s m.e m.d m.state m.ask m.arg 0 0 0 0 0 0 0 (m.pool.map eN)=some (.tup [oMc (Il c k m).1,iN (n+(Il c k m).2)],[])
 |0,m,n,h,hn,hk,h2=>by
  rw[KW]
  by_cases h0:m.state=0
  ·rw[y6 (zU h0),yp (bK (by omega))]
   simp[Il]
  ·rw[yp (zT h0)]
   simp[Il]
 |k+1,m,n,h,hn,hk,h2=>by
  have mn:mnI steps 2000<=2000:=by unfold mnI;split<;>omega
  rw[KW]
  unfold Il
  by_cases h0:m.state=0
  ·obtain⟨r1,r2,r3⟩:=Jw h h0
   have s1:=PA h h0
   obtain⟨q1,q2,q3,q4⟩:=Gt s1
   have ht:=afF (Gq q2) (by omega)
   have t1:CN c (DD (Iz c m))=true:=by
    unfold DD
    split
    ·exact s1
    ·exact Je s1
   have ih:=Uj hf (steps:=steps) k (m:=DD (Iz c m)) (n+1) t1 (by omega) (.inl (by omega)) (by omega)
   rw[y6 (zU h0),y6 (bE (by omega)),Yj (afE hf r2 r1 r3),abn ht,w64 (n:=n+1) (by omega) (by omega),ih,aG h0]
   simp only[Int.natCast_add,Int.natCast_one]
   rw[show n+1+((Il c k (DD (Iz c m))).2:Int)=n+(((Il c k (DD (Iz c m))).2:Int)+1) by omega]
  ·rw[yp (zT h0),aD h0]
   simp
theorem QC {c:Cd}(hf:FitsC c){m:Mc}(hm:Cu m.pool)(hl:m.pool.length<=4294967296)(steps:Int):V 22 [eCd c,eMc m,iN steps]=some (.tup [oMc (agm c m steps).1,iN (agm c m steps).2],[]):=by
 have h1:=FJ hf hm (by omega)
 rw[YZ,KE h1]
 unfold agm
 cases h:CN c m with
 |false=>
  have h2:=abO hf hm hl
  rw[bO,zy,ad2 h2,aD (by simp)]
  unfold Ul
  rw[if_neg (by simp[h])]
  rfl
 |true=>
  have hlo:=Uj hf (steps:=steps) (mnI steps 2000).toNat 0 h (Int.le_refl _) (by omega) (by omega)
  rw[aO,y0,FG (Gi hl),aG rfl]
  simp only[Int.zero_add]at hlo
  exact hlo

noncomputable def aac (m:Mc) (p:List Nd) (v:Int):Mc:=⟨(Ce (-1) p v m.pool).1++[ndP (Ce (-1) p v m.pool).2 m.s],m.at'+1,(Ce (-1) p v m.pool).1.length,m.e,m.d,0,0,0⟩
noncomputable def Re (c:Cd) (m:Mc) (p:List Nd) (v:Int):Mc:=
 if CN c m=true then
  if m.state=1/\Ac p=true/\wi v 0 ((p.length:Int)-1)=true then
   if Cg c (m.at'+1)=true then (if (aac m p v).pool.length<=3000 then aac m p v else RQ m 6) else RQ m 7
  else m
 else ab5
end Go.Eng
/-! compiling: the reference's side -/
namespace Go.Eng
noncomputable section
open Go.Proofs Go.Proofs.Tryz
set_option maxHeartbeats 4000000

abbrev eMs (p:List Nd)(m:Ms):D:=.op [.os (5,0) (p.map eN),.os (4,0) (m.list.map eIn),.os (3,0) (m.defs.map eDf),iN m.how]
abbrev eEs (env:List (List ByteArray)):List D:=env.map fun e=>D.rs (1,0) (e.map D.str)
structure Le (m m':Ms):Prop where
 len:m.list.length<=m'.list.length
 four:m'.list.length<=400
 how:m'.how=0->m.how=0
 defs:m'.defs=m.defs
theorem Le.refl {m:Ms}(h:m.list.length<=400):Le m m:=⟨cB _,h,id,rfl⟩
theorem Le.trans {a b c:Ms}(h:Le a b)(h2:Le b c):Le a c:=⟨Nat.le_trans h.len h2.len,h2.four,fun x=>h.how (h2.how x),h2.defs.trans h.defs⟩
theorem CE {m:Ms}(h:m.list.length<=400)(x:In):Le m (CK m x):=by
 unfold CK
 split
 ·rename_i h0
  split
  ·exact⟨cB _,h,fun _=>h0,rfl⟩
  ·exact⟨by simp,by simp;omega,fun _=>h0,rfl⟩
 ·exact Le.refl h
theorem UT {m:Ms}(_:m.list.length<=400)(x:In)(h0:(CK m x).how=0):0<=GY m/\GY m<((CK m x).list.length:Int):=by
 unfold CK at h0⊢
 unfold GY
 split at h0
 ·rename_i e
  split at h0
  ·simp at h0
  ·rename_i e2
   rw[aG e,aG e,aD e2,aD e2]
   simp
   omega
 ·rename_i e;exact absurd h0 e
theorem Yz {m:Ms}(h:m.list.length<=400)(k:Int):Le m (toC m k):=by
 unfold toC
 split
 ·exact⟨by simp,by simpa using h,fun _=>‹_›,rfl⟩
 ·exact Le.refl h
theorem acW {p:List Nd}{m:Ms}(h:m.list.length<=400)(x:In):V 237 [eMs p m,eIn x]=some (iN (GY m),[eMs p (CK m x)]):=by
 have e:m.list.map eIn++[D.agg [iN x.op,iN x.n,iN x.i,D.str x.s]]=(m.list++[x]).map eIn:=by simp
 rw[Zt,e]
 unfold CK GY
 by_cases h0:m.how=0
 ·rw[y6 (zU h0),aG h0,aG h0]
  by_cases h4:m.list.length=400
  ·rw[y6 (zU (Kz (by omega))),aG h4,aG h4]
  ·rw[yp (zT (Sa (by omega))),yp (zW h0),aD h4,aD h4,zJ (bE (by rw[qA,lnM];simp only[ni,lnA,lnC,lnN];omega)),zO,w64 (by rw[lnM];simp only[ni,lnA,lnC,lnN];omega) (by rw[lnM];simp only[ni,lnA,lnC,lnN];omega),h0]
   simp[ni]
 ·rw[yp (zT h0),y6 (zX h0),aD h0,aD h0]
theorem ags {p:List Nd}{m:Ms}(_:m.list.length<=400){k:Int}(hk:m.how=0->0<=k/\k<(m.list.length:Int)):V 253 [eMs p m,iN k]=some (.tup [],[eMs p (toC m k)]):=by
 rw[acq]
 unfold toC
 by_cases h0:m.how=0
 ·obtain⟨k0,k1⟩:=hk h0
  obtain⟨x,hx⟩:=yM (l:=m.list) (i:=k.toNat) (by omega)
  have hg:m.list.getD k.toNat (inO 0)=x:=by rw[aN,hx];rfl
  have e:List.set (m.list.map eIn) k.toNat (D.agg (List.take 1 [iN x.op,iN x.n,iN x.i,D.str x.s]++[iN (ni (m.list.map eIn).length)]++List.drop 2 [iN x.op,iN x.n,iN x.i,D.str x.s]))=(m.list.set k.toNat ⟨x.op,m.list.length,x.i,x.s⟩).map eIn:=by
   rw[List.map_set,lnM];rfl
  rw[y6 (zU h0),aG h0,zJ (by rw[lnM];simp only[ni,aB,bL];omega),zj hx,yK,zO,e,hg,h0]
 ·rw[yp (zT h0),aD h0]
theorem acZ (s:ByteArray):V 238 [.str s]=some (.bool (acQ s),[]):=by
 rw[TE]
 unfold acQ wrds
 simp only[List.any_cons,List.any_nil,Bool.or_false]
 show br (kJ s (mk [113,117,111,116,101])) (some (D.bool true,[])) (br (kJ s (mk [105,102])) (some (D.bool true,[])) (br (kJ s (mk [102,110])) (some (D.bool true,[])) (br (kJ s (mk [100,111])) (some (D.bool true,[])) (br (kJ s (mk [108,101,116])) (some (D.bool true,[])) (some (D.bool (kJ s (mk [100,101,102,105,110,101])),[]))))))=_
 cases kJ s (mk [113,117,111,116,101])<;>cases kJ s (mk [105,102])<;>cases kJ s (mk [102,110])<;>cases kJ s (mk [100,111])<;>cases kJ s (mk [108,101,116])<;>rfl
theorem afB {p:List Nd}(m:Ms){v:Int}(hv:InP p v):V 230 [eMs p m,iN v]=some (.tup [.str (nod p v).s,.bool (nmC p v)],[eMs p m]):=by
 rw[Zx,FP hv]
 unfold nmC
 by_cases h4:(nod p v).kind=4
 ·rw[y6 (zU h4),JG (acZ _),zU h4,dJ]
 ·rw[yp (zT h4),zT h4,dB]
theorem Ri {p:List Nd}(m:Ms){xs:List Int}(hl:xs.length<=100000)(hx:∀x∈xs,InP p x):∀(k i:Nat)(h:Int)(out:List ByteArray),i+k=xs.length->out.length<=i ->
  CI (xs.map eI) (i:Int) h (out.map D.str) (p.map eN) (m.list.map eIn) (m.defs.map eDf)=Cn 0 (Qe p (xs.drop i) h out).2 ((Qe p (xs.drop i) h out).1.map D.str) (p.map eN) (m.list.map eIn) (m.defs.map eDf)/\(Qe p (xs.drop i) h out).1.length<=xs.length
 |0,i,h,out,hi,ho=>by
  rw[Ke,yp (by rw[lnM];exact zI (by omega)),cD (by omega),Qe]
  exact⟨rfl,by show out.length<=_;omega⟩
 |k+1,i,h,out,hi,ho=>by
  obtain⟨x,hg⟩:=yM (l:=xs) (i:=i) (by omega)
  have hp:=hx x (bT hg)
  rw[Ke,y6 (by rw[lnM];exact zN (by omega)),vc hg,Qe]
  by_cases h0:h=0
  ·have ea:out.map D.str++[D.str (nod p x).s]=(out++[(nod p x).s]).map D.str:=by simp
   have hlim:decide (ni ((out++[(nod p x).s]).map D.str).length<=LIM)=true:=bE (by rw[qA];simp only[ni,lnM,lnA,lnC,lnN];omega)
   have hn:V 230 [.op [.os (5,0) (p.map eN),.os (4,0) (m.list.map eIn),.os (3,0) (m.defs.map eDf),iN h],iN x]=_:=afB (p:=p) ⟨m.list,m.defs,h⟩ hp
   rw[y6 (zU h0),zJ (by rw[lnM];exact zM (by omega)),bI,zj hg,zq,Ug hn,ea,z6 (by omega),aG h0]
   have ih:=fun h'=>Ri m hl hx k (i+1) h' (out++[(nod p x).s]) (by omega) (by simp;omega)
   cases hc:nmC p x with
   |false=>rw[bO,zy,aD (by simp),zJ hlim,zO];exact ih 1
   |true=>rw[aO,y0,aG rfl,h0,zJ hlim,zO];exact ih 0
  ·rw[yp (zT h0),aD h0]
   exact⟨rfl,by show out.length<=_;omega⟩
theorem acf {p:List Nd}(m:Ms){out:List ByteArray}(hl:out.length<=100000){i:Nat}(hi:i<out.length){s:ByteArray}(hs:out[i]? = some s):∀(k j:Nat)(h:Int),j+k=i ->
  DR (i:Int) (j:Int) h (out.map D.str) (p.map eN) (m.list.map eIn) (m.defs.map eDf)=Cn ((i+1:Nat):Int) (if ((out.take i).drop j).any (fun t=>kJ t s)=true then 2 else h) (out.map D.str) (p.map eN) (m.list.map eIn) (m.defs.map eDf)
 |0,j,h,hj=>by
  rw[JM,yp (bK (by omega)),z6 (by omega),cD (by simp;omega)]
  rfl
 |k+1,j,h,hj=>by
  obtain⟨t,ht⟩:=yM (l:=out) (i:=j) (by omega)
  have ht2:(out.take i)[j]? = some t:=by rw[List.getElem?_take];rw[aG (by omega)];exact ht
  rw[JM,y6 (bE (by omega)),zJ (by rw[lnM];exact zM (by omega)),bI,zj ht,zw,zJ (by rw[lnM];exact zM (by omega)),bI,zj hs,zw,z6 (by omega),acf m hl hi hs k (j+1) 2 (by omega),acf m hl hi hs k (j+1) h (by omega),vc ht2,List.any_cons]
  cases kJ t s with
  |true=>rw[zy,Bool.true_or,aG rfl];split<;>rfl
  |false=>rw[y0,Bool.false_or]
theorem aaJ {p:List Nd}(m:Ms){out:List ByteArray}(hl:out.length<=100000):∀(k i:Nat)(h:Int),i+k=out.length ->
  Cn (i:Int) h (out.map D.str) (p.map eN) (m.list.map eIn) (m.defs.map eDf)=some (.os (1,0) (out.map D.str),[eMs p (Jn m (Vk out k i h))])
 |0,i,h,hi=>by
  rw[JL,yp (by rw[lnM];exact zI (by omega))]
  rfl
 |k+1,i,h,hi=>by
  obtain⟨s,hs⟩:=yM (l:=out) (i:=i) (by omega)
  have hg:out.getD i ⟨#[]⟩=s:=by rw[aN,hs];rfl
  have hin:=acf (p:=p) m hl (i:=i) (by omega) hs i 0 h (by omega)
  rw[Int.natCast_zero,eR]at hin
  rw[JL,y6 (by rw[lnM];exact zN (by omega)),hin,aaJ m hl k (i+1) _ (by omega),Vk,hg]
  by_cases h0:h=0
  ·rw[y6 (zU h0),aG h0,h0]
  ·rw[yp (zT h0),aD h0]
   rfl
theorem aam {p:List Nd}(m:Ms){xs:List Int}(hl:xs.length<=100000)(hx:∀x∈xs,InP p x):V 231 [eMs p m,.rs (1,0) (xs.map eI)]=some (.os (1,0) ((DH p xs m.how).1.map D.str),[eMs p (Jn m (DH p xs m.how).2)])/\(DH p xs m.how).1.length<=xs.length:=by
 have h:=fun h'=>Ri (p:=p) m hl hx xs.length 0 h' [] (by omega) (by simp)
 simp only[Int.natCast_zero,eR,eL]at h
 have key:∀h',CI (xs.map eI) 0 h' [] (p.map eN) (m.list.map eIn) (m.defs.map eDf)=some (.os (1,0) ((Qe p xs h' []).1.map D.str),[eMs p (Jn m (Vk (Qe p xs h' []).1 (Qe p xs h' []).1.length 0 (Qe p xs h' []).2))]):=fun h'=>by
  have hd:=aaJ (p:=p) m (out:=(Qe p xs h' []).1) (by have:=(h h').2;omega) (Qe p xs h' []).1.length 0 (Qe p xs h' []).2 (by omega)
  rw[(h h').1]
  exact hd
 rw[Xn,lnM]
 unfold DH
 by_cases h4:xs.length>4
 ·rw[y6 (bE (by simp only[ni];omega)),aG h4]
  exact⟨key 1,(h 1).2⟩
 ·rw[yp (bK (by simp only[ni];omega)),aD h4]
  exact⟨key m.how,(h m.how).2⟩

def vrD (r:Option (Nat×Nat)):D:=match r with|some (n,i)=>.tup [iN n,iN i] | none=>.tup [iN (-1),iN 0]
theorem afH {env:List (List ByteArray)}{s:ByteArray}(h1:env.length<=100000){n:Nat}{e:List ByteArray}(he:env[n]? = some e)(h2:e.length<=100000):∀(k i:Nat),i+k=e.length ->
  I8 (eEs env) s (n:Int) (i:Int)=match afG s (e.drop i) i with
   |some j=>some (.tup [iN n,iN j],[])
   |none=>Gb (eEs env) s ((n+1:Nat):Int)
 |0,i,hi=>by
  have hn:=aQ he
  rw[Mq,zJ (by rw[lnM];exact zM (by omega)),bI,zj he,zu,lnM,yp (zI (by omega)),cD (by omega),z6 (by omega)]
  rfl
 |k+1,i,hi=>by
  have hn:=aQ he
  obtain⟨t,ht⟩:=yM (l:=e) (i:=i) (by omega)
  rw[Mq,zJ (by rw[lnM];exact zM (by omega)),bI,zj he,zu,lnM,y6 (zN (by omega)),zj he,zu,zJ (by rw[lnM];exact zM (by omega)),bI,zj ht,zw,vc ht,afG,z6 (by omega),afH h1 he h2 k (i+1) (by omega),zJ (by rw[lnM];exact zM (by omega))]
  cases kJ t s with
  |true=>rw[zy,aG rfl]
  |false=>rw[y0,aD (by simp)]
theorem ab3 {env:List (List ByteArray)}{s:ByteArray}(h1:env.length<=100000)(h2:∀e∈env,e.length<=100000):∀(k n:Nat),n+k=env.length->Gb (eEs env) s (n:Int)=some (vrD (aet s (env.drop n) n),[])
 |0,n,hn=>by
  rw[Mo,yp (by rw[lnM];exact zI (by omega)),cD (by omega)]
  rfl
 |k+1,n,hn=>by
  obtain⟨e,he⟩:=yM (l:=env) (i:=n) (by omega)
  have hi:=afH (s:=s) h1 he (h2 e (bT he)) e.length 0 (by omega)
  rw[Int.natCast_zero,eR]at hi
  rw[Mo,y6 (by rw[lnM];exact zN (by omega)),hi,vc he,aet,ab3 h1 h2 k (n+1) (by omega)]
  cases afG s e 0<;>rfl
theorem aho {env:List (List ByteArray)}(s:ByteArray)(h1:env.length<=100000)(h2:∀e∈env,e.length<=100000):V 248 [.rs (1,1) (eEs env),.str s]=some (vrD (aet s env 0),[]):=by
 rw[aaW]
 exact ab3 h1 h2 env.length 0 (by omega)
end
end Go.Eng
/-! compiling: the reference's side: expressions -/
namespace Go.Eng
noncomputable section
open Go.Proofs Go.Proofs.Tryz
set_option maxHeartbeats 4000000

theorem ado {p:List Nd}(hp:Al p):∀(k:Nat)(v:Int),InP p v->∀x∈(IJ p k v).1,x<v
 |0,v,hv,x,hx=>by simp[IJ]at hx
 |k+1,v,hv,x,hx=>by
  unfold IJ at hx
  split at hx
  ·rename_i h5
   have:=AH (JE hp hv) h5
   rcases bN.1 hx with rfl|hx
   ·omega
   ·have:=ado hp k _ (Qp hp hv h5) x hx;omega
  ·simp at hx
theorem af8 {p:List Nd}(hp:Al p){v:Int}(hv:InP p v):∀x∈(Cw p v).1,x<v:=ado hp _ v hv
theorem RZ {p:List Nd}(v:Int):(Cw p v).1.length<=v.toNat+1:=aba _ _
def NN (E:List (List ByteArray)->Int->Ms->Ms):Prop:=∀env v (m:Ms),m.list.length<=400->Le m (E env v m)
theorem LN {m:Ms}(h:m.list.length<=400){k:Int}(hk:k=0->m.how=0):Le m (Jn m k):=⟨cB _,h,hk,rfl⟩
theorem Lr {E}(hE:NN E)(env:List (List ByteArray)):∀(xs:List Int)(f:Bool)(m:Ms),m.list.length<=400->Le m (Kn E env xs f m)
 |[],f,m,h=>Le.refl h
 |x::r,f,m,h=>by
  unfold Kn
  split
  ·have h1:Le m (if f=true then m else CK m (inO 9)):=by
    split
    ·exact Le.refl h
    ·exact CE h _
   have h2:=hE env x _ h1.four
   exact(h1.trans h2).trans (Lr hE env r false _ h2.four)
  ·exact Le.refl h
theorem acx {E}(hE:NN E)(names:List ByteArray)(body:List Int)(env:List (List ByteArray)){m:Ms}(h:m.list.length<=400):Le m (acw E names body env m):=by
 unfold acw
 simp only
 have a1:=CE h ⟨6,0,names.length,⟨#[]⟩⟩
 have a2:=CE a1.four (inO 5)
 have a3:=Yz a2.four (GY m)
 have a4:=Lr hE (names::env) body true _ a3.four
 have a5:=CE a4.four (inO 8)
 have a6:=Yz a5.four (GY (CK m ⟨6,0,names.length,⟨#[]⟩⟩))
 exact((((a1.trans a2).trans a3).trans a4).trans a5).trans a6
theorem afZ (out:List ByteArray):∀(k i:Nat)(h:Int),Vk out k i h=0->h=0
 |0,i,h,e=>e
 |k+1,i,h,e=>by
  unfold Vk at e
  split at e
  ·assumption
  ·exact e
theorem agQ (p:List Nd):∀(xs:List Int)(h:Int)(out:List ByteArray),(Qe p xs h out).2=0->h=0
 |[],h,out,e=>e
 |x::r,h,out,e=>by
  unfold Qe at e
  split at e
  ·assumption
  ·exact e
theorem PJ {p:List Nd}{xs:List Int}{h:Int}(e:(DH p xs h).2=0):h=0:=by
 unfold DH at e
 have:=agQ p xs _ _ (afZ _ _ _ _ e)
 split at this
 ·omega
 ·exact this
theorem af1 {E}(hE:NN E)(p:List Nd)(s:ByteArray)(xs:List Int)(env:List (List ByteArray)){m:Ms}(h:m.list.length<=400):Le m (VH E p s xs env m):=by
 unfold VH
 simp only
 split
 ·exact CE h _
 split
 ·have a1:=hE env (xs.getD 1 0) m h
  have a2:=CE a1.four (inO 4)
  have a3:=hE env (xs.getD 2 0) _ a2.four
  have a4:=CE a3.four (inO 5)
  have a5:=Yz a4.four (GY (E env (xs.getD 1 0) m))
  have a6:=hE env (xs.getD 3 0) _ a5.four
  exact(((((a1.trans a2).trans a3).trans a4).trans a5).trans a6).trans (Yz a6.four _)
 split
 ·exact Lr hE env _ true m h
 split
 ·split
  ·exact LN h (by omega)
  ·have a1:Le m (Jn m (DH p (Cw p (xs.getD 1 0)).1 m.how).2):=LN h PJ
   exact a1.trans (acx hE _ _ env a1.four)
 split
 ·have a1:Le m (Jn m (DH p [xs.getD 1 0] m.how).2):=LN h PJ
  have a2:=acx hE (DH p [xs.getD 1 0] m.how).1 (xs.drop 3) env a1.four
  have a3:=hE env (xs.getD 2 0) _ a2.four
  exact((a1.trans a2).trans a3).trans (CE a3.four _)
 ·exact LN h (by omega)
theorem ade {E}(hE:NN E)(env:List (List ByteArray)):∀(xs:List Int)(m:Ms),m.list.length<=400->Le m (xs.foldl (fun m x=>E env x m) m)
 |[],m,h=>Le.refl h
 |x::r,m,h=>by
  have a1:=hE env x m h
  exact a1.trans (ade hE env r _ a1.four)
theorem Nk (p:List Nd):∀k,NN (Qj p k)
 |0,env,v,m,h=>Le.refl h
 |k+1,env,v,m,h=>by
  unfold Qj
  split
  ·exact Le.refl h
  simp only
  split
  ·exact CE h _
  split
  ·split
   ·exact LN h (by omega)
   ·split<;>exact CE h _
  split
  ·exact LN h (by omega)
  split
  ·exact LN h (by omega)
  split
  ·exact af1 (Nk p k) p _ _ env h
  split
  ·exact LN h (by omega)
  ·have a1:=ade (Nk p k) env (Cw p v).1 m h
   exact a1.trans (CE a1.four _)

def Q6 (env:List (List ByteArray))(n:Nat):Prop:=env.length+n<=10000/\∀e∈env,e.length<=10000
def U7 (p:List Nd)(k:Nat)(E:List (List ByteArray)->Int->Ms->Ms):Prop:=∀env v (m:Ms),InP p v->v<(k:Int)->Q6 env k->m.list.length<=400->V 244 [eMs p m,iN v,.rs (1,1) (eEs env)]=some (.tup [],[eMs p (E env v m)])
section
variable {p:List Nd}{k:Nat}{E:List (List ByteArray)->Int->Ms->Ms}
theorem SN (hG:NN E)(hS:U7 p k E){env:List (List ByteArray)}(he:Q6 env k){xs:List Int}(hl:xs.length<=100000)(hx:∀x∈xs,InP p x/\x<(k:Int)):∀(j i:Nat)(m:Ms),i+j=xs.length->m.list.length<=400 ->
  Fg (xs.map eI) (eEs env) (i:Int) m.how (p.map eN) (m.list.map eIn) (m.defs.map eDf)=some (.tup [],[eMs p (Kn E env (xs.drop i) (decide (i=0)) m)])
 |0,i,m,hi,hm=>by
  rw[Lm,yp (by rw[lnM];exact zI (by omega)),cD (by omega)]
  rfl
 |j+1,i,m,hi,hm=>by
  obtain⟨x,hg⟩:=yM (l:=xs) (i:=i) (by omega)
  obtain⟨x1,x2⟩:=hx x (bT hg)
  rw[Lm,y6 (by rw[lnM];exact zN (by omega)),vc hg,Kn]
  by_cases h0:m.how=0
  ·rw[y6 (zU h0),aG h0]
   by_cases hi0:i=0
   ·have a1:=hS env x m x1 x2 he hm
    have ih:=SN hG hS he hl hx j (i+1) (E env x m) (by omega) (hG env x m hm).four
    rw[yp (bK (by omega)),zJ (by rw[lnM];exact zM (by omega)),bI,zj hg,zq,Fp a1,z6 (by omega),ih,bE hi0,aG rfl,bK (by omega)]
   ·have a0:V 237 [eMs p m,.agg [iN 9,iN 0,iN 0,.str ⟨#[]⟩]]=_:=acW (p:=p) hm (inO 9)
    have le:=CE hm (inO 9)
    have a1:=hS env x _ x1 x2 he le.four
    have ih:=SN hG hS he hl hx j (i+1) (E env x (CK m (inO 9))) (by omega) (hG env x _ le.four).four
    rw[y6 (bE (by omega)),AX a0,zJ (by rw[lnM];exact zM (by omega)),bI,zj hg,zq,Fp a1,z6 (by omega),ih,bK hi0,aD (by simp),bK (by omega)]
  ·rw[yp (zT h0),aD h0]
theorem acS (hG:NN E)(hS:U7 p k E){env:List (List ByteArray)}(he:Q6 env k){xs:List Int}(hl:xs.length<=100000)(hx:∀x∈xs,InP p x/\x<(k:Int)){m:Ms}(hm:m.list.length<=400):V 236 [eMs p m,.rs (1,0) (xs.map eI),.rs (1,1) (eEs env)]=some (.tup [],[eMs p (Kn E env xs true m)]):=by
 have h:=SN hG hS he hl hx xs.length 0 m (by omega) hm
 rw[Zq]
 simpa using h
theorem Ip {p:List Nd}{m:Ms}(h:m.list.length<=400)(op n i:Int):V 237 [eMs p m,.agg [iN op,iN n,iN i,.str ⟨#[]⟩]]=some (iN (GY m),[eMs p (CK m ⟨op,n,i,⟨#[]⟩⟩)]):=acW h ⟨op,n,i,⟨#[]⟩⟩
theorem agA (hG:NN E)(hS:U7 p k E){names:List ByteArray}(hn:names.length<=10000){env:List (List ByteArray)}(he:Q6 env (k+1)){xs:List Int}(hl:xs.length<=100000)(hx:∀x∈xs,InP p x/\x<(k:Int)){m:Ms}(hm:m.list.length<=400):V 254 [eMs p m,.rs (1,0) (names.map D.str),.rs (1,0) (xs.map eI),.rs (1,1) (eEs env)]=some (.tup [],[eMs p (acw E names xs env m)]):=by
 have he1:=he.1
 have e1:[D.rs (1,0) (names.map D.str)]++eEs env=eEs (names::env):=rfl
 have hlim:decide (ni (eEs (names::env)).length<=LIM)=true:=bE (by rw[qA];simp only[ni,lnM,lnC];omega)
 have he2:Q6 (names::env) k:=⟨by simp only[lnC];omega,fun e h=>by
  rcases bN.1 h with rfl|h
  ·exact hn
  ·exact he.2 e h⟩
 have a1:=CE hm ⟨6,0,names.length,⟨#[]⟩⟩
 have i1:=UT hm ⟨6,0,names.length,⟨#[]⟩⟩
 have a2:=CE a1.four (inO 5)
 have i2:=UT a1.four (inO 5)
 have a3:=Yz a2.four (GY m)
 have a4:=Lr hG (names::env) xs true _ a3.four
 have a5:=CE a4.four (inO 8)
 have e0:ni (names.map D.str).length=(names.length:Int):=by rw[lnM]
 have b1:=Ip (p:=p) hm 6 0 names.length
 have b2:=Ip (p:=p) a1.four 5 0 0
 have b3:=ags (p:=p) a2.four (k:=GY m) (fun h=>by have:=i1 (a2.how h);have:=a2.len;omega)
 have b4:=acS hG hS he2 hl hx a3.four
 have b5:=Ip (p:=p) a4.four 8 0 0
 have b6:=ags (p:=p) a5.four (k:=GY (CK m ⟨6,0,names.length,⟨#[]⟩⟩)) (fun h=>by have:=i2 (a3.how (a4.how (a5.how h)));have:=a5.len;have:=a4.len;have:=a3.len;omega)
 rw[aaU,e0,AX b1,AX b2,PM b3,e1,zJ hlim,zO,LF b4,AX b5,PM b6]
 rfl
theorem D0 {s:ByteArray}{a b:List UInt8}(h:kJ s (mk a)=true)(hn:a≠b):kJ s (mk b)=false:=by
 rw[Dz]at h⊢
 simp only[bL,decide_eq_false_iff_not]at h⊢
 intro e
 exact hn (mk_inj.1 (h.symm.trans e))
theorem agZ (hp:Al p)(hl:p.length<100000)(hG:NN E)(hS:U7 p k E){env:List (List ByteArray)}(he:Q6 env (k+1)){xs:List Int}(hn:xs≠[])(hxl:xs.length<=100000)(hx:∀x∈xs,InP p x/\x<(k:Int)){m:Ms}(hm:m.list.length<=400)(s:ByteArray):V 249 [eMs p m,.str s,.rs (1,0) (xs.map eI),.rs (1,1) (eEs env)]=some (.tup [],[eMs p (VH E p s xs env m)]):=by
 have he1:=he.1
 have he2:Q6 env k:=⟨by omega,he.2⟩
 have get:∀i:Nat,i<xs.length->InP p (xs.getD i 0)/\xs.getD i 0<(k:Int)/\xs[i]? = some (xs.getD i 0):=fun i hi=>by
  obtain⟨x,hg⟩:=yM (l:=xs) (i:=i) hi
  have e:xs.getD i 0=x:=by rw[aN,hg];rfl
  obtain⟨g1,g2⟩:=hx x (bT hg)
  rw[e]
  exact⟨g1,g2,hg⟩
 have hdrop:∀n,∀x∈xs.drop n,InP p x/\x<(k:Int):=fun n x h=>hx x (List.mem_of_mem_drop h)
 have hdl:∀n,(xs.drop n).length<=100000:=fun n=>by rw[c8];omega
 have cut:∀n:Int,0<=n->n<=(xs.length:Int)->df (xs.map eI).length (some n) none=true:=fun n h0 h1=>by simp[df];omega
 have cutd1:xL (xs.map eI) 1=(xs.drop 1).map eI:=by unfold xL;rw[List.map_drop];rfl
 have cutd2:xL (xs.map eI) 2=(xs.drop 2).map eI:=by unfold xL;rw[List.map_drop];rfl
 have cutd3:xL (xs.map eI) 3=(xs.drop 3).map eI:=by unfold xL;rw[List.map_drop];rfl
 have other:∀{a b:List UInt8},kJ s (mk a)=true->a≠b->¬kJ s (mk b)=true:=fun h hn e=>by rw[D0 h hn]at e;cases e
 rw[Zw]
 repeat rw[shd_eq]
 unfold VH
 by_cases hq:kJ s (mk [113,117,111,116,101])=true
 ·have tq:kJ s ⟨#[113,117,111,116,101]⟩=true:=hq
  have ti:kJ s ⟨#[105,102]⟩=false:=D0 hq (by decide)
  have td:kJ s ⟨#[100,111]⟩=false:=D0 hq (by decide)
  have tf:kJ s ⟨#[102,110]⟩=false:=D0 hq (by decide)
  have tl:kJ s ⟨#[108,101,116]⟩=false:=D0 hq (by decide)
  by_cases h2:xs.length=2
  ·obtain⟨g1,g2,g3⟩:=get 1 (by omega)
   have b1:=Ip (p:=p) hm 1 (xs.getD 1 0) 0
   rw[aG ⟨hq,h2⟩,y6 tq,y6 (zU (Kz (by omega))),zJ (by rw[lnM];simp only[ni,aB,bL];omega),zj g3,zq,AX b1]
  ·rw[aD (fun h=>h2 h.2),aD (fun h=>other hq (by decide) h.1),aD (fun h=>other hq (by decide) h.1),aD (fun h=>other hq (by decide) h.1),aD (fun h=>other hq (by decide) h.1),y6 tq,yp (zT (Sa (by omega))),yp ti,yp td,yp tf,yp tl]
   rfl
 have tq:kJ s ⟨#[113,117,111,116,101]⟩=false:=by cases e:kJ s ⟨#[113,117,111,116,101]⟩ with|true=>exact absurd e hq|false=>rfl
 rw[aD (fun h=>hq h.1),yp tq]
 by_cases hi:kJ s (mk [105,102])=true
 ·have ti:kJ s ⟨#[105,102]⟩=true:=hi
  have td:kJ s ⟨#[100,111]⟩=false:=D0 hi (by decide)
  have tf:kJ s ⟨#[102,110]⟩=false:=D0 hi (by decide)
  have tl:kJ s ⟨#[108,101,116]⟩=false:=D0 hi (by decide)
  by_cases h4:xs.length=4
  ·obtain⟨g1,g2,g3⟩:=get 1 (by omega)
   obtain⟨g4,g5,g6⟩:=get 2 (by omega)
   obtain⟨g7,g8,g9⟩:=get 3 (by omega)
   have l1:=hG env (xs.getD 1 0) m hm
   have l2:=CE l1.four (inO 4)
   have i2:=UT l1.four (inO 4)
   have l3:=hG env (xs.getD 2 0) _ l2.four
   have l4:=CE l3.four (inO 5)
   have i4:=UT l3.four (inO 5)
   have l5:=Yz l4.four (GY (E env (xs.getD 1 0) m))
   have l6:=hG env (xs.getD 3 0) _ l5.four
   have b1:=hS env (xs.getD 1 0) m g1 g2 he2 hm
   have b2:=Ip (p:=p) l1.four 4 0 0
   have b3:=hS env (xs.getD 2 0) _ g4 g5 he2 l2.four
   have b4:=Ip (p:=p) l3.four 5 0 0
   have b5:=ags (p:=p) l4.four (k:=GY (E env (xs.getD 1 0) m)) (fun h=>by have:=i2 (l3.how (l4.how h));have:=l4.len;have:=l3.len;omega)
   have b6:=hS env (xs.getD 3 0) _ g7 g8 he2 l5.four
   have b7:=ags (p:=p) l6.four (k:=GY (E env (xs.getD 2 0) (CK (E env (xs.getD 1 0) m) (inO 4)))) (fun h=>by have:=i4 (l5.how (l6.how h));have:=l6.len;have:=l5.len;omega)
   rw[aG ⟨hi,h4⟩,y6 ti,y6 (zU (Kz (by omega))),zJ (by rw[lnM];simp only[ni,aB,bL];omega),zj g3,zq,Fp b1,AX b2,zJ (by rw[lnM];simp only[ni,aB,bL];omega),zj g6,zq,Fp b3,AX b4,PM b5,zJ (by rw[lnM];simp only[ni,aB,bL];omega),zj g9,zq,Fp b6,PM b7]
  ·rw[aD (fun h=>h4 h.2),aD (fun h=>other hi (by decide) h.1),aD (fun h=>other hi (by decide) h.1),aD (fun h=>other hi (by decide) h.1),y6 ti,yp (zT (Sa (by omega))),yp td,yp tf,yp tl]
   rfl
 have ti:kJ s ⟨#[105,102]⟩=false:=by cases e:kJ s ⟨#[105,102]⟩ with|true=>exact absurd e hi|false=>rfl
 rw[aD (fun h=>hi h.1),yp ti]
 by_cases hd:kJ s (mk [100,111])=true
 ·have td:kJ s ⟨#[100,111]⟩=true:=hd
  have tf:kJ s ⟨#[102,110]⟩=false:=D0 hd (by decide)
  have tl:kJ s ⟨#[108,101,116]⟩=false:=D0 hd (by decide)
  by_cases h2:2<=xs.length
  ·have b1:=acS hG hS he2 (hdl 1) (hdrop 1) hm
   rw[aG ⟨hd,h2⟩,y6 td,lnM,y6 (bE (by simp only[ni];omega)),<-lnM (f:=eI),zJ (cut 1 (by omega) (by omega)),cutd1,LF b1]
  ·rw[aD (fun h=>h2 h.2),aD (fun h=>other hd (by decide) h.1),aD (fun h=>other hd (by decide) h.1),y6 td,yp (bK (by rw[lnM];simp only[ni];omega)),yp tf,yp tl]
   rfl
 have td:kJ s ⟨#[100,111]⟩=false:=by cases e:kJ s ⟨#[100,111]⟩ with|true=>exact absurd e hd|false=>rfl
 rw[aD (fun h=>hd h.1),yp td]
 by_cases hf:kJ s (mk [102,110])=true
 ·have tf:kJ s ⟨#[102,110]⟩=true:=hf
  have tl:kJ s ⟨#[108,101,116]⟩=false:=D0 hf (by decide)
  by_cases h3:3<=xs.length
  ·obtain⟨g1,g2,g3⟩:=get 1 (by omega)
   have b1:=KN hp (by omega) g1
   rw[aG ⟨hf,h3⟩,y6 tf,y6 (bE (by rw[lnM];simp only[ni];omega)),zJ (by rw[lnM];simp only[ni,aB,bL];omega),zj g3,zq,Gd b1]
   simp only
   cases hb:(Cw p (xs.getD 1 0)).2 with
   |false=>rw[aG rfl,bO,zy];rfl
   |true=>
    have ll:=RZ (p:=p) (xs.getD 1 0)
    obtain⟨b2,b3⟩:=aam (p:=p) m (xs:=(Cw p (xs.getD 1 0)).1) (by have:=g1.2;omega) (Lz hp g1)
    have l1:Le m (Jn m (DH p (Cw p (xs.getD 1 0)).1 m.how).2):=LN hm PJ
    have b4:=agA hG hS (names:=(DH p (Cw p (xs.getD 1 0)).1 m.how).1) (by have:=g1.2;omega) he (hdl 2) (hdrop 2) l1.four
    rw[aG (rfl:true=true),aD (by decide:¬true=false),aO,y0,Nw b2,zJ (cut 2 (by omega) (by omega)),cutd2,Wq b4]
  ·rw[aD (fun h=>h3 h.2),aD (fun h=>other hf (by decide) h.1),y6 tf,yp (bK (by rw[lnM];simp only[ni];omega)),yp tl]
   rfl
 have tf:kJ s ⟨#[102,110]⟩=false:=by cases e:kJ s ⟨#[102,110]⟩ with|true=>exact absurd e hf|false=>rfl
 rw[aD (fun h=>hf h.1),yp tf]
 by_cases hl:kJ s (mk [108,101,116])=true
 ·have tl:kJ s ⟨#[108,101,116]⟩=true:=hl
  by_cases h4:4<=xs.length
  ·obtain⟨g1,g2,g3⟩:=get 1 (by omega)
   obtain⟨g4,g5,g6⟩:=get 2 (by omega)
   have ec:xL (xK (xs.map eI) 2) 1=[xs.getD 1 0].map eI:=by
    obtain⟨g7,g8,g9⟩:=get 0 (by omega)
    match xs,h4 with
    |a::b::r,_=>rfl
   obtain⟨b2,b3⟩:=aam (p:=p) m (xs:=[xs.getD 1 0]) (by simp) (fun x h=>by rw[cH.1 h];exact g1)
   have l1:Le m (Jn m (DH p [xs.getD 1 0] m.how).2):=LN hm PJ
   have b4:=agA hG hS (names:=(DH p [xs.getD 1 0] m.how).1) (by have:[xs.getD 1 0].length=1:=rfl;omega) he (hdl 3) (hdrop 3) l1.four
   have l2:=acx hG (DH p [xs.getD 1 0] m.how).1 (xs.drop 3) env l1.four
   have b5:=hS env (xs.getD 2 0) _ g4 g5 he2 l2.four
   have l3:=hG env (xs.getD 2 0) _ l2.four
   have b6:=Ip (p:=p) l3.four 7 0 1
   rw[if_pos ⟨hl,h4⟩,y6 tl,y6 (decide_eq_true (by rw[List.length_map];simp only[ni];omega)),zJ (by simp[df];omega),ec,Nw b2,zJ (cut 3 (by omega) (by omega)),cutd3,Wq b4,zJ (by rw[List.length_map];simp only[ni,Bool.and_eq_true,decide_eq_true_eq];omega),zj g6,zq,Fp b5,AX b6]
  ·rw[aD (fun h=>h4 h.2),y6 tl,yp (bK (by rw[lnM];simp only[ni];omega))]
   rfl
 have tl:kJ s ⟨#[108,101,116]⟩=false:=by cases e:kJ s ⟨#[108,101,116]⟩ with|true=>exact absurd e hl|false=>rfl
 rw[aD (fun h=>hl h.1),yp tl]
 rfl
end
theorem ZU {p:List Nd}{v:Int}(h:(nod p v).kind=5):(Cw p v).1≠[]:=by
 unfold Cw IJ
 rw[aG h]
 simp
theorem XQ {p:List Nd}{k:Nat}{E:List (List ByteArray)->Int->Ms->Ms}(hG:NN E)(hS:U7 p k E){env:List (List ByteArray)}(he:Q6 env k){xs:List Int}(hl:xs.length<=100000)(hx:∀x∈xs,InP p x/\x<(k:Int)):∀(j i:Nat)(m:Ms),i+j=xs.length->m.list.length<=400 ->
  Dn (eEs env) (i:Int) m.how (xs.map eI) (p.map eN) (m.list.map eIn) (m.defs.map eDf)=some (.tup [],[eMs p (CK ((xs.drop i).foldl (fun m x=>E env x m) m) ⟨7,0,(xs.length:Int)-1,⟨#[]⟩⟩)])
 |0,i,m,hi,hm=>by
  have b:V 237 [eMs p m,.agg [iN 7,iN 0,iN (ni xs.length-1),.str ⟨#[]⟩]]=_:=Ip (p:=p) hm 7 0 ((xs.length:Int)-1)
  rw[Kc,lnM,yp (zI (by omega)),cD (by omega),w64 (n:=ni xs.length-1) (by simp only[ni];omega) (by simp only[ni];omega),AX b]
  rfl
 |j+1,i,m,hi,hm=>by
  obtain⟨x,hg⟩:=yM (l:=xs) (i:=i) (by omega)
  obtain⟨x1,x2⟩:=hx x (bT hg)
  have a1:=hS env x m x1 x2 he hm
  have ih:=XQ hG hS he hl hx j (i+1) (E env x m) (by omega) (hG env x m hm).four
  rw[Kc,y6 (by rw[lnM];exact zN (by omega)),zJ (by rw[lnM];exact zM (by omega)),bI,zj hg,zq,Fp a1,z6 (by omega),ih,vc hg,List.foldl_cons]
theorem afx {p:List Nd}(hp:Al p)(hl:p.length<100000):∀k,k<=100000->U7 p k (Qj p k)
 |0,hk,env,v,m,hv,hlt,he,hm=>by have:=hv.1;omega
 |k+1,hk,env,v,m,hv,hlt,he,hm=>by
  have ih:=afx hp hl k (by omega)
  have hG:=Nk p k
  have he2:Q6 env k:=⟨by have:=he.1;omega,he.2⟩
  rw[Zu]
  repeat rw[shd_eq]
  unfold Qj
  by_cases h0:m.how=0
  ·rw[yp (zW h0),aD (fun h=>h h0),FP hv]
   simp only
   have bl:=Ip (p:=p) hm 1 v 0
   by_cases k1:(nod p v).kind=1
   ·rw[y6 (zU k1),y6 (zU k1),AX bl,aG (.inl k1)]
   rw[yp (zT k1)]
   by_cases k2:(nod p v).kind=2
   ·rw[y6 (zU k2),y6 (zU k2),AX bl,aG (.inr (.inl k2))]
   rw[yp (zT k2)]
   by_cases k3:(nod p v).kind=3
   ·rw[y6 (zU k3),AX bl,aG (.inr (.inr k3))]
   rw[yp (zT k3),aD (by omega)]
   by_cases k4:(nod p v).kind=4
   ·rw[y6 (zU k4),aG k4,JG (acZ _)]
    cases hr:acQ (nod p v).s with
    |true=>rw[zy,aG rfl];rfl
    |false=>
     have hw:=aho (nod p v).s (env:=env) (by have:=he.1;omega) (fun e h=>by have:=he.2 e h;omega)
     rw[y0,aD (by decide)]
     cases hvn:aet (nod p v).s env 0 with
     |none=>
      rw[hvn]at hw
      have b:=acW (p:=p) hm ⟨3,0,0,(nod p v).s⟩
      rw[Ws hw,yp (bK (by omega)),AX b]
     |some ni=>
      obtain⟨n,i⟩:=ni
      rw[hvn]at hw
      have b:=Ip (p:=p) hm 2 n i
      rw[Ws hw,y6 (bE (by omega)),AX b]
   rw[yp (zT k4),aD k4]
   by_cases k5:(nod p v).kind=5
   ·have b1:=KN hp (by omega) hv
    rw[yp (zW k5),aD (fun h=>h k5),Gd b1]
    cases hb:(Cw p v).2 with
    |false=>rw[aG rfl,bO,zy];rfl
    |true=>
     have ll:=RZ (p:=p) v
     have hne:=ZU k5
     have hin:=Lz hp hv
     have hlt2:=af8 hp hv
     rw[aG (rfl:true=true),aD (by decide:¬true=false),aO,y0]
     generalize hxs:(Cw p v).1=xs at ll hne hin hlt2⊢
     have hx:∀x∈xs,InP p x/\x<(k:Int):=fun x h=>⟨hin x h,by have:=hlt2 x h;omega⟩
     obtain⟨a,r,rfl⟩:∃a r,xs=a::r:=by
      cases xs with
      |nil=>exact absurd rfl hne
      |cons a r=>exact⟨a,r,rfl⟩
     have ha:=hin a (by simp)
     have hcl:=XQ hG ih he2 (xs:=a::r) (by have:=hv.2;omega) hx (a::r).length 0 m (by omega) hm
     rw[Int.natCast_zero,eR]at hcl
     rw[BU,FP ha]
     simp only[dc]
     have fin:(br (decide (ni ((a::r).map eI).length>5)) (some (.tup [],[.op [.os (5,0) (p.map eN),.os (4,0) (m.list.map eIn),.os (3,0) (m.defs.map eDf),iN 1]])) (Dn (eEs env) 0 m.how ((a::r).map eI) (p.map eN) (m.list.map eIn) (m.defs.map eDf)))=some (.tup [],[eMs p (if (a::r).length>5 then Jn m 1 else CK ((a::r).foldl (fun m x=>Qj p k env x m) m) ⟨7,0,((a::r).length:Int)-1,⟨#[]⟩⟩)]):=by
      rw[lnM]
      by_cases h5:(a::r).length>5
      ·rw[y6 (bE (by simp only[ni];omega)),aG h5];rfl
      ·rw[yp (bK (by simp only[ni];omega)),aD h5,hcl]
     by_cases ka:(nod p a).kind=4
     ·rw[y6 (zU ka),JG (acZ _)]
      cases hr:acQ (nod p a).s with
      |true=>
       have bf:=agZ hp hl hG ih he (xs:=a::r) (by simp) (by have:=hv.2;omega) hx hm (nod p a).s
       rw[zy,abr bf,aG ⟨ka,rfl⟩]
      |false=>rw[y0,if_neg (fun h=>by simp at h)];exact fin
     ·rw[yp (zT ka),aD (fun h=>ka h.1)];exact fin
   ·rw[y6 (zX k5),aG k5];rfl
  ·rw[y6 (zX h0),aG h0]
end
end Go.Eng
/-! compiling: the reference's side: definitions,programs -/
namespace Go.Eng
open Go.Proofs Go.Proofs.Tryz
set_option maxHeartbeats 4000000

theorem aha {R:Type}(x:Df)(K:ByteArray->Option R):(asAgg (eDf x) fun l=>dd l 0 fun y=>asS y fun n=>K n)=K x.name:=rfl
theorem agL {p:List Nd}(s:ByteArray)(names:List ByteArray)(body:List Int){m:Ms}(h:m.list.length<=400):(Te p s names body m).list.length<=400/\m.list.length<=(Te p s names body m).list.length/\((Te p s names body m).how=0->m.list.length<(Te p s names body m).list.length):=by
 unfold Te
 have a1:=Lr (E:=NT p) (fun env v m h=>Nk p _ env v m h) [names] body true ⟨m.list,m.defs++[⟨s,m.list.length,names.length⟩],Qg s m.defs m.how⟩ h
 have a2:=CE a1.four (inO 8)
 have a3:=a1.len
 have a4:=a2.len
 refine⟨a2.four,by simp only at a3;omega,fun h0=>?_⟩
 have h1:=a2.how h0
 have:(CK (Kn (NT p) [names] body true ⟨m.list,m.defs++[⟨s,m.list.length,names.length⟩],Qg s m.defs m.how⟩) (inO 8)).list.length=(Kn (NT p) [names] body true ⟨m.list,m.defs++[⟨s,m.list.length,names.length⟩],Qg s m.defs m.how⟩).list.length+1:=by
  unfold CK at h0⊢
  rw[aG h1]at h0⊢
  split at h0
  ·simp at h0
  ·rename_i e;rw[aD e];simp
 simp only at a3
 omega
theorem ahj {p:List Nd}(hp:Al p)(hl:p.length<=5000):U7 p p.length (NT p):=fun env v m hv hlt he hm=>by
 unfold NT
 exact afx hp (by omega) (v.toNat+1) (by omega) env v m hv (by have:=hv.1;omega) ⟨by have:=he.1;omega,he.2⟩ hm
theorem XX {p:List Nd}(hp:Al p)(hl:p.length<=5000){s:ByteArray}{names:List ByteArray}(hn:names.length<=10000){body:List Int}(hbl:body.length<=100000)(hb:∀x∈body,InP p x){m:Ms}(hm:m.list.length<=400)(hd:m.defs.length<=1000000):∀(k i:Nat)(h:Int),i+k=m.defs.length ->
  DQ s (names.map D.str) (body.map eI) (i:Int) h (p.map eN) (m.list.map eIn) (m.defs.map eDf)=some (.tup [],[eMs p (CK (Kn (NT p) [names] body true ⟨m.list,m.defs++[⟨s,m.list.length,names.length⟩],Qg s (m.defs.drop i) h⟩) (inO 8))])
 |k,i,h,hi=>by
  have ea:m.defs.map eDf++[D.agg [D.str s,iN (ni (m.list.map eIn).length),iN (ni (names.map D.str).length)]]=(m.defs++[(⟨s,m.list.length,names.length⟩:Df)]).map eDf:=by
   rw[eA,lnM,lnM];rfl
  have hlim:decide (ni ((m.defs++[(⟨s,m.list.length,names.length⟩:Df)]).map eDf).length<=LIM)=true:=bE (by rw[qA];simp only[ni,lnM,lnA,lnC,lnN];omega)
  have hG:NN (NT p):=fun env v m h=>Nk p _ env v m h
  have b1:∀h':Int,V 236 [eMs p ⟨m.list,m.defs++[(⟨s,m.list.length,names.length⟩:Df)],h'⟩,.rs (1,0) (body.map eI),.rs (1,1) [.rs (1,0) (names.map D.str)]]=some (.tup [],[eMs p (Kn (NT p) [names] body true ⟨m.list,m.defs++[(⟨s,m.list.length,names.length⟩:Df)],h'⟩)]):=fun h'=>acS (m:=⟨m.list,m.defs++[(⟨s,m.list.length,names.length⟩:Df)],h'⟩) hG (ahj hp hl) (env:=[names]) ⟨by simp;omega,fun e he=>by rw[cH.1 he];exact hn⟩ hbl (fun x h=>⟨hb x h,(hb x h).2⟩) hm
  have b2:=fun h':Int=>Ip (p:=p) (Lr hG [names] body true ⟨m.list,m.defs++[(⟨s,m.list.length,names.length⟩:Df)],h'⟩ hm).four 8 0 0
  rw[PW,ea]
  match k with
  |0=>
   rw[yp (by rw[lnM];exact zI (by omega)),cD (by omega),Qg,zJ hlim,zO,LF (b1 h),AX (b2 h)]
  |k+1=>
   obtain⟨d,hg⟩:=yM (l:=m.defs) (i:=i) (by omega)
   rw[y6 (by rw[lnM];exact zN (by omega)),vc hg,Qg]
   by_cases h0:h=0
   ·have ih:=fun h'=>XX hp hl (s:=s) hn hbl hb hm hd k (i+1) h' (by omega)
    rw[y6 (zU h0),aG h0,zJ (by rw[lnM];exact zM (by omega)),bI,zj hg,aha,z6 (by omega),ih,ih,h0]
    cases kJ d.name s with
    |true=>rw[zy,aG rfl]
    |false=>rw[y0,aD (by decide)]
   ·rw[yp (zT h0),aD h0,zJ hlim,zO,LF (b1 h),AX (b2 h)]
 termination_by k=>k
theorem agz {p:List Nd}(hp:Al p)(hl:p.length<=5000)(s:ByteArray){names:List ByteArray}(hn:names.length<=10000){body:List Int}(hbl:body.length<=100000)(hb:∀x∈body,InP p x){m:Ms}(hm:m.list.length<=400)(hd:m.defs.length<=1000000):V 229 [eMs p m,.str s,.rs (1,0) (names.map D.str),.rs (1,0) (body.map eI)]=some (.tup [],[eMs p (Te p s names body m)]):=by
 have h:=XX hp hl (s:=s) hn hbl hb hm hd m.defs.length 0 m.how (by omega)
 rw[Vy]
 rw[Int.natCast_zero,eR]at h
 exact h
theorem afl (l:List Int)(k:Nat)(K:Int)(hK:K.toNat=k):part (l.map eI) (some (K.toNat,(l.map eI).length-K.toNat))=(l.drop k).map eI:=by
 rw[hK]
 simp only[part]
 rw[<-List.map_drop]
 exact List.take_of_length_le (by simp)
theorem ahn {p:List Nd}(hp:Al p)(hl:p.length<=5000){v:Int}(hv:InP p v){m:Ms}(hm:m.list.length<=400)(hd:m.defs.length<=1000000):V 215 [eMs p m,iN v]=some (.tup [],[eMs p (WL p v m)]):=by
 have dm:V 229 [eMs p m,.str ⟨#[109,97,105,110]⟩,.rs (1,0) [],.rs (1,0) [iN v]]=some (.tup [],[eMs p (Te p afc [] [v] m)]):=agz hp hl afc (names:=[]) (by simp) (body:=[v]) (by simp) (fun x h=>by rw[cH.1 h];exact hv) hm hd
 rw[aaV,Od hv]
 unfold WL
 simp only
 by_cases k5:(nod p v).kind=5
 ·have b1:=KN hp (by omega) hv
  rw[y6 (zU k5),Gd b1]
  cases hb:(Cw p v).2 with
  |false=>rw[if_neg (by decide:¬false=true),Bool.not_false,zy,Ge dm,if_neg (fun h=>by simp at h)]
  |true=>
   have ll:=RZ (p:=p) v
   have hne:=ZU k5
   have hin:=Lz hp hv
   rw[aG (rfl:true=true),aO,y0]
   generalize hxs:(Cw p v).1=xs at ll hne hin⊢
   obtain⟨a,r,rfl⟩:∃a r,xs=a::r:=by
    cases xs with
    |nil=>exact absurd rfl hne
    |cons a r=>exact⟨a,r,rfl⟩
   have ha:=hin a (by simp)
   have e2:=aia (R:=Ret) (nod p a)
   rw[BU,Od ha]
   simp only[dc]
   by_cases k4:(nod p a).kind=4
   ·rw[yp (zW k4),BU,zJ (Ye ha),zj (Nt ha),e2]
    by_cases hs:kJ (nod p a).s (mk [100,101,102,105,110,101])=true
    ·have hs':kJ (nod p a).s ⟨#[100,101,102,105,110,101]⟩=true:=hs
     rw[hs',aO,y0,aG ⟨k5,trivial,k4,hs⟩]
     by_cases h3:(a::r).length<3
     ·rw[y6 (bE (by rw[lnM];simp only[ni];omega)),aG (.inl h3)];rfl
     ·rw[yp (bK (by rw[lnM];simp only[ni];omega))]
      obtain⟨b,c,r,rfl⟩:∃b c r',r=b::c::r':=by
       match r,h3 with
       |b::c::r',_=>exact⟨b,c,r',rfl⟩
       |[],h=>simp at h
       |[_],h=>simp at h
      have hb1:=hin b (by simp)
      rw[Ig,Od hb1]
      simp only[List.getD_cons_succ,dc]
      by_cases kb:(nod p b).kind=5
      ·have b2:=KN hp (by omega) hb1
       rw[yp (zW kb),Ig,aD (fun h=>h.elim h3 (fun h=>h kb)),Gd b2]
       cases hbb:(Cw p b).2 with
       |false=>rw[aD (by decide:¬false=true),bO,zy,aG rfl];rfl
       |true=>
        have l2:=RZ (p:=p) b
        have n2:=ZU kb
        have i2:=Lz hp hb1
        rw[aG (rfl:true=true),aO,y0,aD (by decide:¬true=false)]
        generalize hys:(Cw p b).1=ys at l2 n2 i2⊢
        obtain⟨f,q,rfl⟩:∃f q,ys=f::q:=by
         cases ys with
         |nil=>exact absurd rfl n2
         |cons f q=>exact⟨f,q,rfl⟩
        have hf:=i2 f (by simp)
        have bn:=afB (p:=p) m hf
        rw[BU,Ug bn]
        simp only[dc]
        cases hnm:nmC p f with
        |false=>rw[bO,zy,aG rfl];rfl
        |true=>
         have hq:∀x∈(f::q).drop 1,InP p x:=fun x h=>i2 x (List.mem_of_mem_drop h)
         have hql:((f::q).drop 1).length<=5001:=by have:=hb1.2;rw[c8];omega
         obtain⟨b3,b4⟩:=aam (p:=p) m (xs:=(f::q).drop 1) (by omega) hq
         have bd:=agz hp hl (nod p f).s (names:=(DH p ((f::q).drop 1) m.how).1) (by omega) (body:=(a::b::c::r).drop 2) (by have:=hv.2;rw[c8];omega) (fun x h=>hin x (List.mem_of_mem_drop h)) (m:=Jn m (DH p ((f::q).drop 1) m.how).2) hm hd
         rw[Bool.not_true,y0,if_neg (by decide:¬true=false),zJ (by simp[df];omega),afl _ 1 1 rfl,Nw b3,zJ (by simp[df];omega),afl _ 2 2 rfl,Ge bd]
      ·rw[y6 (zX kb),aG (.inr kb)];rfl
    ·have hs':kJ (nod p a).s ⟨#[100,101,102,105,110,101]⟩=false:=by cases e:kJ (nod p a).s ⟨#[100,101,102,105,110,101]⟩ with|true=>exact absurd e hs|false=>rfl
     rw[hs',bO,zy,Ge dm,aD (fun h=>hs h.2.2.2)]
   ·rw[y6 (zX k4),Ge dm,aD (fun h=>k4 h.2.2.1)]
 ·rw[yp (zT k5),Ge dm,aD (fun h=>k5 h.1)]
end Go.Eng
/-! compiling: the reference's side: whole programs -/
namespace Go.Eng
noncomputable section
open Go.Proofs Go.Proofs.Tryz
set_option maxHeartbeats 4000000

structure LeD (m m':Ms):Prop where
 len:m.list.length<=m'.list.length
 four:m'.list.length<=400
 grew:m'.how=0->m.list.length<m'.list.length
 defs:m'.defs.length<=m.defs.length+1
theorem ac6 {p:List Nd}(s:ByteArray)(names:List ByteArray)(body:List Int){m:Ms}(h:m.list.length<=400):LeD m (Te p s names body m):=by
 obtain⟨h1,h2,h3⟩:=agL (p:=p) s names body h
 refine⟨h2,h1,h3,?_⟩
 unfold Te
 have a1:=Lr (E:=NT p) (fun env v m h=>Nk p _ env v m h) [names] body true ⟨m.list,m.defs++[⟨s,m.list.length,names.length⟩],Qg s m.defs m.how⟩ h
 rw[(CE a1.four (inO 8)).defs,a1.defs]
 simp
theorem aft {p:List Nd}{v:Int}{m:Ms}(h:m.list.length<=400):LeD m (WL p v m):=by
 unfold WL
 simp only
 split
 ·split
  ·exact⟨Nat.le_refl _,h,fun h=>by simp[Jn]at h,Nat.le_succ _⟩
  ·split
   ·exact⟨Nat.le_refl _,h,fun h=>by simp[Jn]at h,Nat.le_succ _⟩
   ·split
    ·exact⟨Nat.le_refl _,h,fun h=>by simp[Jn]at h,Nat.le_succ _⟩
    ·have h2:(Jn m (DH p (List.drop 1 (Cw p ((Cw p v).1.getD 1 0)).1) m.how).2).list.length<=400:=h
     have:=ac6 (p:=p) (nod p ((Cw p ((Cw p v).1.getD 1 0)).1.getD 0 0)).s (DH p (List.drop 1 (Cw p ((Cw p v).1.getD 1 0)).1) m.how).1 (List.drop 2 (Cw p v).1) h2
     exact⟨this.len,this.four,this.grew,this.defs⟩
 ·exact ac6 _ _ _ h
def QH (l:List In):Prop:=∀x∈l,x.s.size<4611686018427387904
def adG (E:List (List ByteArray)->Int->Ms->Ms):Prop:=∀env v (m:Ms),QH m.list->QH (E env v m).list
theorem DT {m:Ms}(h:QH m.list){x:In}(hx:x.s.size<4611686018427387904):QH (CK m x).list:=by
 unfold CK
 split
 ·split
  ·exact h
  ·intro y hy
   rcases bF.1 hy with hy|hy
   ·exact h y hy
   ·rw[cH.1 hy];exact hx
 ·exact h
theorem JB:(⟨#[]⟩:ByteArray).size<4611686018427387904:=by decide
theorem aah {m:Ms}(h:QH m.list)(k:Int):QH (toC m k).list:=by
 unfold toC
 split
 ·intro y hy
  rcases List.mem_or_eq_of_mem_set hy with hy|rfl
  ·exact h y hy
  ·simp only
   rw[aN]
   cases hg:m.list[k.toNat]? with
   |none=>exact JB
   |some x=>exact h x (bT hg)
 ·exact h
theorem Rh {E}(hE:adG E)(env:List (List ByteArray)):∀(xs:List Int)(f:Bool)(m:Ms),QH m.list->QH (Kn E env xs f m).list
 |[],f,m,h=>h
 |x::r,f,m,h=>by
  unfold Kn
  split
  ·refine Rh hE env r false _ (hE env x _ ?_)
   split
   ·exact h
   ·exact DT h JB
  ·exact h
theorem adf {E}(hE:adG E)(names:List ByteArray)(body:List Int)(env:List (List ByteArray)){m:Ms}(h:QH m.list):QH (acw E names body env m).list:=by
 unfold acw
 exact aah (DT (Rh hE _ _ _ _ (aah (DT (DT h JB) JB) _)) JB) _
theorem aeY {E}(hE:adG E)(p:List Nd)(s:ByteArray)(xs:List Int)(env:List (List ByteArray)){m:Ms}(h:QH m.list):QH (VH E p s xs env m).list:=by
 unfold VH
 simp only
 split
 ·exact DT h JB
 split
 ·exact aah (hE _ _ _ (aah (DT (hE _ _ _ (DT (hE _ _ _ h) JB)) JB) _)) _
 split
 ·exact Rh hE _ _ _ _ h
 split
 ·split
  ·exact h
  ·exact adf hE _ _ _ h
 split
 ·refine DT (hE _ _ _ (adf hE _ _ _ ?_)) ?_
  ·exact h
  ·exact JB
 ·exact h
theorem aa1 {E}(hE:adG E)(env:List (List ByteArray)):∀(xs:List Int)(m:Ms),QH m.list->QH (xs.foldl (fun m x=>E env x m) m).list
 |[],_,h=>h
 |x::r,m,h=>aa1 hE env r _ (hE env x m h)
theorem ads {p:List Nd}(hf:Cu p)(v:Int):(nod p v).s.size<4611686018427387904:=by
 unfold nod
 rw[aN]
 cases hg:p[v.toNat]? with
 |none=>exact JB
 |some x=>exact hf x (bT hg)
theorem VE {p:List Nd}(hf:Cu p):∀k,adG (Qj p k)
 |0,env,v,m,h=>h
 |k+1,env,v,m,h=>by
  unfold Qj
  split
  ·exact h
  simp only
  split
  ·exact DT h JB
  split
  ·split
   ·exact h
   ·split
    ·exact DT h JB
    ·exact DT h (ads hf v)
  split
  ·exact h
  split
  ·exact h
  split
  ·exact aeY (VE hf k) p _ _ env h
  split
  ·exact h
  ·exact DT (aa1 (VE hf k) env _ m h) JB
def ab9 (m:Ms):Prop:=QH m.list/\∀x∈m.defs,x.name.size<4611686018427387904
theorem ac7 {p:List Nd}(hf:Cu p){s:ByteArray}(hs:s.size<4611686018427387904)(names:List ByteArray)(body:List Int){m:Ms}(hm:m.list.length<=400)(h:ab9 m):ab9 (Te p s names body m):=by
 have hE:adG (NT p):=fun env v m h=>VE hf _ env v m h
 have hG:NN (NT p):=fun env v m h=>Nk p _ env v m h
 unfold Te
 refine⟨?_,?_⟩
 ·refine DT (Rh hE _ _ _ _ ?_) ?_
  ·exact h.1
  ·exact JB
 have a1:=Lr hG [names] body true ⟨m.list,m.defs++[⟨s,m.list.length,names.length⟩],Qg s m.defs m.how⟩ hm
 rw[(CE a1.four (inO 8)).defs,a1.defs]
 intro x hx
 rcases bF.1 hx with hx|hx
 ·exact h.2 x hx
 ·rw[cH.1 hx];exact hs
theorem adA {p:List Nd}(hf:Cu p){v:Int}{m:Ms}(hm:m.list.length<=400)(h:ab9 m):ab9 (WL p v m):=by
 unfold WL
 simp only
 split
 ·split
  ·exact h
  ·split
   ·exact h
   ·split
    ·exact h
    ·exact ac7 hf (ads hf _) _ _ hm h
 ·exact ac7 hf (by decide) _ _ hm h
abbrev XT (r:Cd×Int×Int):Option Ret:=some (.tup [oCd r.1,iN r.2.1,iN r.2.2],[])
theorem XW {p:List Nd}(hp:Al p)(hf:Cu p)(hl:p.length<=5000){xs:List Int}(hxl:xs.length<=1000000)(hx:∀x∈xs,InP p x):∀(k i:Nat)(m:Ms),i+k=xs.length->m.list.length<=400->m.defs.length<=i->ab9 m ->
  D7 (xs.map eI) (i:Int) m.how (p.map eN) (m.list.map eIn) (m.defs.map eDf)=XT (Ko p xs.length (xs.drop i) i m)
 |0,i,m,hi,hm,hd,hs=>by
  have hfc:FitsC ⟨p,m.list,m.defs⟩:=⟨hf,by show p.length<_;omega,hs.1,by show m.list.length<_;omega,hs.2,by show m.defs.length<_;omega⟩
  have hok:=Jg hfc
  rw[EF,yp (by rw[lnM];exact zI (by omega)),Ue hok,cD (by omega),Ko,lnM]
  cases Bu ⟨p,m.list,m.defs⟩ with
  |false=>rw[bO,zy,aD (by decide)];rfl
  |true=>rw[aO,y0,aG rfl]
 |k+1,i,m,hi,hm,hd,hs=>by
  obtain⟨x,hg⟩:=yM (l:=xs) (i:=i) (by omega)
  have ht:=ahn hp hl (hx x (bT hg)) hm (by omega)
  have le:=aft (p:=p) (v:=x) hm
  have ih:=XW hp hf hl hxl hx k (i+1) (WL p x m) (by omega) le.four (by have:=le.defs;omega) (adA hf hm hs)
  rw[EF,y6 (by rw[lnM];exact zN (by omega)),zJ (by rw[lnM];exact zM (by omega)),bI,zj hg,zq,acJ ht,vc hg,Ko,z6 (by omega),ih]
  by_cases h3:(WL p x m).how=3
  ·rw[y6 (zU h3),aG h3];rfl
  ·rw[yp (zT h3),aD h3]
   by_cases h0:(WL p x m).how=0
   ·rw[yp (zW h0),aD (fun h=>h h0)];rfl
   ·rw[y6 (zX h0),aG h0];rfl
theorem acb {p:List Nd}(hp:Al p)(hf:Cu p)(hl:p.length<=5000){xs:List Int}(hxl:xs.length<=1000000)(hx:∀x∈xs,InP p x):IE (xs.map eI) 0 0 (p.map eN)=XT (Ko p xs.length xs 0 ⟨[],[],0⟩):=by
 have hs:ab9 ⟨[],[],0⟩:=⟨fun x h=>by simp at h,fun x h=>by simp at h⟩
 have h:=XW hp hf hl hxl hx xs.length 0 ⟨[],[],0⟩ (by omega) (by simp) (by simp) hs
 rw[Int.natCast_zero,eR]at h
 rw[<-h,PT,EF]
 rfl
theorem aa4 {p:List Nd}(hp:Al p)(hf:Cu p)(hl:p.length<=4999){xs:List Int}(hxl:xs.length<=1000000):∀(k i:Nat),i+k=xs.length->(∀x∈xs.take i,wi x 0 ((p.length:Int)-1)=true) ->
  Gk (xs.map eI) (i:Int) (p.map eN)=XT (if Ap p (xs.drop i)=true then Ko p xs.length xs 0 ⟨[],[],0⟩ else (⟨[],[],[]⟩,3,0))
 |0,i,hi,ht=>by
  have hx:∀x∈xs,InP p x:=fun x h=>by
   have:=wi_iff.1 (ht x (by rw[List.take_of_length_le (by omega)];exact h))
   exact⟨this.1,by omega⟩
  have hcp:=WT (p:=p) (by omega)
  rw[J9,yp (by rw[lnM];exact zI (by omega)),AW hcp,acb hp hf (by omega) hxl hx,cD (by omega),aG (by rfl)]
 |k+1,i,hi,ht=>by
  obtain⟨x,hg⟩:=yM (l:=xs) (i:=i) (by omega)
  rw[J9,y6 (by rw[lnM];exact zN (by omega)),zJ (by rw[lnM];exact zM (by omega)),bI,zj hg,zq,Nv (JY (by omega) x),vc hg,z6 (by omega)]
  have er:Ap p (x::xs.drop (i+1))=(wi x 0 ((p.length:Int)-1)&&Ap p (xs.drop (i+1))):=rfl
  rw[er]
  cases hw:wi x 0 ((p.length:Int)-1) with
  |false=>rw[bO,zy,dB,aD (by decide)];rfl
  |true=>
   have ih:=aa4 hp hf hl hxl k (i+1) (by omega) (fun y hy=>by
    rw[List.take_add_one,hg]at hy
    rcases bF.1 hy with hy|hy
    ·exact ht y hy
    ·simp at hy;rw[hy];exact hw)
   rw[aO,y0,dJ,ih]
theorem PE {p:List Nd}(hf:Cu p)(hl:p.length<4611686018427387904){xs:List Int}(hxl:xs.length<=1000000):V 193 [eP p,.rs (1,0) (xs.map eI)]=XT (Ru p xs):=by
 rw[Xh,Fm (CU hf hl)]
 unfold Ru
 cases h:Ac p with
 |false=>rw[bO,zy,aD (by simp)];rfl
 |true=>
  obtain⟨h1,h2⟩:=okPool_iff.1 h
  have hh:=aa4 h1 hf (by omega) hxl xs.length 0 (by omega) (by simp)
  rw[Int.natCast_zero,eR]at hh
  rw[aO,y0,hh]
  by_cases hr:Ap p xs=true
  ·rw[aG hr,aG ⟨rfl,hr⟩]
  ·rw[aD hr,aD (fun h=>hr h.2)]
end
end Go.Eng
/-! the functions as the interpreter has them -/
/-! what is drawn: the cursor -/
namespace Go.Eng
noncomputable section
open Go.Proofs Go.Proofs.Tryz

def eB (x:Int):D:=.int .u8 x
abbrev eC (b:List Int)(c:Int×Int):D:=.op [.rs (1,0) (b.map eB),iN c.1,iN c.2]
def BV (b:List Int)(c:Int×Int):Prop:=0<=c.1/\c.1<=b.length
theorem YL (x:Int):0<=w6 (ni (BitVec.toNat (BitVec.ofInt (IntKind.bits IntKind.i64) x &&& BitVec.ofInt (IntKind.bits IntKind.i64) 255)))/\w6 (ni (BitVec.toNat (BitVec.ofInt (IntKind.bits IntKind.i64) x &&& BitVec.ofInt (IntKind.bits IntKind.i64) 255)))<=255:=by
 have h:BitVec.toNat (BitVec.ofInt (IntKind.bits IntKind.i64) x &&& BitVec.ofInt (IntKind.bits IntKind.i64) 255)<=255:=by
  rw[BitVec.toNat_and]
  exact Nat.le_trans Nat.and_le_right (by decide)
 rw[w64 (by simp only[ni];omega) (by simp only[ni];omega)]
 simp only[ni];omega

section
variable {b:List Int}{c:Int×Int}
theorem Ol (hb:b.length<4611686018427387904)(h:BV b c):∃v c',V 143 [eC b c]=some (iN v,[eC b c'])/\BV b c'/\0<=v/\v<=255:=by
 obtain⟨h1,h2⟩:=h
 rw[Zj,zJ (by decide),zJ (by decide)]
 by_cases hi:c.1<b.length
 ·obtain⟨k,hk⟩:=cP h1
  obtain⟨x,hx⟩:=yM (l:=b) (i:=k) (by omega)
  rw[hk]
  rw[y6 (by rw[lnM];exact zN (by omega)),zJ (by rw[lnM];exact zM (by omega)),bI,zj hx]
  unfold eB
  rw[zq]
  refine⟨_,(_,_),rfl,⟨?_,?_⟩,(YL _).1,(YL _).2⟩
  ·show 0<=w6 ((k:Int)+1)
   rw[w64 (by omega) (by omega)];omega
  ·show w6 ((k:Int)+1)<=_
   rw[w64 (by omega) (by omega)];omega
 ·rw[yp (bK (by simp only[ni,lnM];omega))]
  exact⟨_,(c.1,w6 (w6 (c.2*6364136223846793005)+1442695040888963407)),rfl,⟨h1,h2⟩,(YL _).1,(YL _).2⟩

theorem Tc (hb:b.length<4611686018427387904)(h:BV b c)(n:Int):∃v c',V 76 [eC b c,iN n]=some (iN v,[eC b c'])/\BV b c'/\0<=v/\(0<n->v<n):=by
 rw[Xj]
 by_cases hn:n<=0
 ·rw[y6 (by simpa using hn)]
  exact⟨_,c,rfl,h,by omega,by omega⟩
 rw[yp (by simpa using hn)]
 by_cases h256:n<=256
 ·rw[y6 (by simpa using h256)]
  obtain⟨v,c1,hv,h1,hv1,hv2⟩:=Ol hb h
  rw[Jr hv]
  try simp only[zq,yZ,zw,zt,zu,yK,yL,zr,zn,zF,zO]
  rw[zJ (by simp;omega)]
  exact⟨_,c1,rfl,h1,Int.tmod_nonneg _ hv1,fun _=>Int.tmod_lt_of_pos _ (by omega)⟩
 ·rw[yp (by simpa using h256)]
  obtain⟨v1,c1,hv1,a1,b1⟩:=Ol hb h
  obtain⟨v2,c2,hv2,a2,b2⟩:=Ol hb a1
  obtain⟨v3,c3,hv3,a3,b3⟩:=Ol hb a2
  obtain⟨v4,c4,hv4,a4,b4⟩:=Ol hb a3
  rw[Jr hv1,Jr hv2,Jr hv3,Jr hv4]
  try simp only[zq,yZ,zw,zt,zu,yK,yL,zr,zn,zF,zO]
  rw[zJ (by simp;omega)]
  refine⟨_,c4,rfl,a4,Int.tmod_nonneg _ ?_,fun _=>Int.tmod_lt_of_pos _ (by omega)⟩
  rw[w64 (n:=v1*16777216) (by omega) (by omega),w64 (n:=v2*65536) (by omega) (by omega),w64 (n:=v3*256) (by omega) (by omega)]
  rw[w64 (n:=v1*16777216+v2*65536) (by omega) (by omega),w64 (n:=v1*16777216+v2*65536+v3*256) (by omega) (by omega),w64 (by omega) (by omega)]
  omega

theorem aaE (hb:b.length<4611686018427387904)(h:BV b c){l:List Int}(hl:0<l.length):∃v c',V 122 [eC b c,.rs (1,0) (l.map (D.int .i64))]=some (iN v,[eC b c'])/\BV b c'/\v∈l:=by
 obtain⟨v,c1,hv,a1,b1,b2⟩:=Tc hb h (ni (l.map (D.int .i64)).length)
 rw[UG,Sf hv]
 try simp only[zq,yZ,zw,zt,zu,yK,yL,zr,zn,zF,zO]
 simp only[ni,lnM]at b2
 obtain⟨k,rfl⟩:=cP b1
 have hk:k<l.length:=by have:=b2 (by omega);omega
 obtain⟨x,hx⟩:=yM hk
 rw[zJ (by rw[lnM];exact zM hk),bI,zj hx,zq]
 exact⟨_,c1,rfl,a1,bT hx⟩

theorem aeQ (hb:b.length<4611686018427387904)(h:BV b c){l:List ByteArray}(hl:0<l.length):∃v c',V 75 [eC b c,.rs (1,0) (l.map D.str)]=some (.str v,[eC b c'])/\BV b c'/\v∈l:=by
 obtain⟨v,c1,hv,a1,b1,b2⟩:=Tc hb h (ni (l.map D.str).length)
 rw[Zl,Sf hv]
 try simp only[zq,yZ,zw,zt,zu,yK,yL,zr,zn,zF,zO]
 simp only[ni,lnM]at b2
 obtain⟨k,rfl⟩:=cP b1
 have hk:k<l.length:=by have:=b2 (by omega);omega
 obtain⟨x,hx⟩:=yM hk
 rw[zJ (by rw[lnM];exact zM hk),bI,zj hx,zw]
 exact⟨_,c1,rfl,a1,bT hx⟩

theorem abd (hb:b.length<4611686018427387904):∀(k i:Nat)(h:Int),i+k=b.length->∃h',IZ (b.map eB) h (i:Int)=some (eC b (0,h'),[])
 |0,i,h,hi=>by
  rw[Mj,yp (by rw[lnM];exact zI (by omega))]
  exact⟨_,rfl⟩
 |k+1,i,h,hi=>by
  obtain⟨x,hx⟩:=yM (l:=b) (i:=i) (by omega)
  rw[Mj,y6 (by rw[lnM];exact zN (by omega)),zJ (by rw[lnM];exact zM (by omega)),bI,zj hx]
  cases h4:decide ((i:Int)<4000) with
  |false=>exact⟨_,rfl⟩
  |true=>
   unfold eB
   rw[zy,zq,z6 (by omega)]
   exact abd hb k (i+1) _ (by omega)
theorem afV (hb:b.length<4611686018427387904):∃c,V 51 [.rs (1,0) (b.map eB)]=some (eC b c,[])/\BV b c:=by
 rw[aaQ]
 obtain⟨h',he⟩:=abd hb b.length 0 (w6 (17000+ni (List.length (b.map eB)))) (by omega)
 exact⟨(0,h'),he,Int.le_refl _,Int.natCast_nonneg _⟩
end
theorem ahm (b:List Int):V 12 [.rs (1,0) (b.map eB)]=some (.bool (decide ((b.length:Int)>1048576)),[]):=by
 rw[adO,lnM]
set_option maxRecDepth 100000 in
theorem aeA {x:D}(h:ShapeV prog 22 x):∃b:List Int,x=.rs (1,0) (b.map eB)/\b.length<4611686018427387904:=by
 obtain⟨ys,hs,rfl⟩:=h
 obtain⟨bs,rfl,h1,h2⟩:=hs.slice Tryz.underlying22 (show zOf prog 5=some (1,0) by kernel_rfl)
 obtain⟨l,rfl,-⟩:=uc (enc:=eB) (p:=fun _=>True) (ys:=bs) (fun x hx=>by
  obtain⟨ps,hs,rfl⟩:=h2 x hx
  obtain⟨n,rfl,_⟩:=hs.int Tryz.underlying5
  exact⟨n,tV Tryz.underlying5,trivial⟩)
 have hby:prog.bytesOf 5=1:=by kernel_rfl
 have hr:reachBytes=140737488351232:=rfl
 rw[hby,lnM]at h1
 exact⟨l,by rw[xM Tryz.underlying22],by omega⟩
end
end Go.Eng
/-! draws: what is drawn fits,and the cursor goes on -/
namespace Go.Eng
noncomputable section
open Go.Proofs Go.Proofs.Tryz

def Got (P:D->List D->Prop)(r:Option Ret):Prop:=∃v l,r=some (v,l)/\P v l
theorem adQ {r s:Option Ret}(h:r=s)(P:D->List D->Prop):Got P r=Got P s:=by rw[h]
attribute [congr] adQ
section
variable {P Q:D->List D->Prop}
theorem ae6 {v:D}{l:List D}(h:P v l):Got P (some (v,l)):=⟨v,l,rfl,h⟩
theorem Ax {b:Bool}{x y:Option Ret}(h1:b=true->Got P x)(h2:b=false->Got P y):Got P (br b x y):=by
 cases b with
 |true=>exact h1 rfl
 |false=>exact h2 rfl
theorem D8 {b:Bool}{x:Option Ret}(h:b=true)(h1:Got P x):Got P (grd b x):=by rw[zJ h];exact h1
theorem RT {v:D}{l:List D}{f:Nat}{ds:List D}{K:D->List D->Option Ret}(h:V f ds=some (v,l))(h2:Got P (K v l)):Got P (jy V f ds K):=by
 rw[yx h];exact h2
end
abbrev FU (b:List Int)(Q:D->Prop):Option Ret->Prop:=Got (fun v l=>∃c',l=[eC b c']/\BV b c'/\Q v)
section
variable {b:List Int}{Q:D->Prop}{P:D->List D->Prop}
theorem z9 {f:Nat}{ds:List D}{K:D->List D->Option Ret}(h:FU b Q (V f ds))(h2:∀v c',BV b c'->Q v->Got P (K v [eC b c'])):Got P (jy V f ds K):=by
 obtain⟨v,l,e,c',rfl,hc,hq⟩:=h
 rw[yx e];exact h2 v c' hc hq
theorem Aa {v:D}{c':Int×Int}(h:BV b c')(hq:Q v):FU b Q (some (v,[eC b c'])):=⟨v,_,rfl,c',rfl,h,hq⟩
theorem Th {Q':D->Prop}{r:Option Ret}(h:FU b Q r)(h2:∀v,Q v->Q' v):FU b Q' r:=by
 obtain⟨v,l,e,c',e2,hc,hq⟩:=h
 exact⟨v,l,e,c',e2,hc,h2 v hq⟩
end
theorem KC:(⟨#[]⟩:ByteArray).size<=100:=by decide
def ag6 (n:Int)(v:D):Prop:=∃m:Int,v=iN m/\0<=m/\(0<n->m<n)
def IsB (v:D):Prop:=∃m:Bool,v=.bool m
section
variable {b:List Int}{c:Int×Int}
theorem Aw (hb:b.length<4611686018427387904)(h:BV b c)(n:Int):FU b (ag6 n) (V 76 [eC b c,iN n]):=by
 obtain⟨v,c',e,h1,h2,h3⟩:=Tc hb h n
 exact⟨_,_,e,c',rfl,h1,v,rfl,h2,h3⟩
theorem Nh (hb:b.length<4611686018427387904)(h:BV b c)(n:Int):FU b IsB (V 155 [eC b c,iN n]):=by
 rw[Zk]
 refine z9 (Aw hb h n) fun v c1 a1 ⟨m,e,_⟩=>?_
 subst e
 simp (disch:=first|omega|(simp only[lnA,lnC,lnN,lnM,z8,yj];omega)) only[↓zF,↓zn,↓zq,↓zu,↓zr]
 exact Aa a1 ⟨_,rfl⟩
theorem Kq (hb:b.length<4611686018427387904)(h:BV b c)(l:List Int)(hl:0<l.length):FU b (fun v=>∃m:Int,v=iN m/\m∈l) (V 122 [eC b c,.rs (1,0) (l.map (D.int .i64))]):=by
 obtain⟨v,c',e,h1,h2⟩:=aaE hb h hl
 exact⟨_,_,e,c',rfl,h1,v,rfl,h2⟩
theorem Lx (hb:b.length<4611686018427387904)(h:BV b c)(l:List ByteArray)(hl:0<l.length):FU b (fun v=>∃m:ByteArray,v=.str m/\m∈l) (V 75 [eC b c,.rs (1,0) (l.map D.str)]):=by
 obtain⟨v,c',e,h1,h2⟩:=aeQ hb h hl
 exact⟨_,_,e,c',rfl,h1,v,rfl,h2⟩

def afL (v:D):Prop:=∃x:Nd,v=eN x/\x.s.size<=100
theorem ac9 (hb:b.length<4611686018427387904)(h:BV b c):FU b afL (V 201 [eC b c]):=by
 rw[Tu]
 refine z9 (Aw hb h _) fun v c1 a1 ⟨m,e,m0,m1⟩=>?_
 subst e
 simp (disch:=first|omega|(simp only[lnA,lnC,lnN,lnM,z8,yj];omega)) only[↓zF,↓zn,↓zq,↓zu,↓zr]
 refine Ax (fun _=>Aa a1 ⟨⟨_,_,_,_,_⟩,rfl,KC⟩) fun _=>Ax (fun _=>?_) fun _=>Ax (fun _=>?_) fun _=>Ax (fun _=>?_) fun _=>Ax (fun _=>?_) fun _=>?_
 ·refine z9 (Aw hb a1 _) fun v c2 a2 ⟨m,e,m0,m1⟩=>?_
  subst e
  simp (disch:=first|omega|(simp only[lnA,lnC,lnN,lnM,z8,yj];omega)) only[↓zF,↓zn,↓zq,↓zu,↓zr]
  exact Aa a2 ⟨⟨_,_,_,_,_⟩,rfl,KC⟩
 ·refine z9 (Lx hb a1 [⟨#[97]⟩,⟨#[98,99]⟩,⟨#[120]⟩,⟨#[102]⟩,⟨#[43]⟩,⟨#[108,105,115,116]⟩] (by simp)) fun v c2 a2 ⟨m,e,hm⟩=>?_
  subst e
  simp (disch:=first|omega|(simp only[lnA,lnC,lnN,lnM,z8,yj];omega)) only[↓zF,↓zn,↓zq,↓zw,↓zu,↓zr]
  refine Aa a2 ⟨⟨_,_,m,_,_⟩,rfl,?_⟩
  simp only[bN,dY,or_false]at hm
  rcases hm with rfl|rfl|rfl|rfl|rfl|rfl<;>decide
 all_goals
  refine z9 (Aw hb a1 _) fun v c2 a2 ⟨m,e,m0,m1⟩=>?_
  subst e
  simp (disch:=first|omega|(simp only[lnA,lnC,lnN,lnM,z8,yj];omega)) only[↓zF,↓zn,↓zq,↓zu,↓zr]
  exact Aa a2 ⟨⟨_,_,_,_,_⟩,rfl,KC⟩
theorem adc (hb:b.length<4611686018427387904)(h:BV b c)(n:Int):FU b afL (V 197 [eC b c,iN n]):=by
 have hat:∀{c:Int×Int},BV b c->FU b afL (V 201 [eC b c]):=fun h=>ac9 hb h
 rw[Tv]
 refine Ax (fun _=>?_) fun _=>?_
 ·refine z9 (hat h) fun v c1 a1 ⟨x,e,hx⟩=>?_
  subst e
  simp (disch:=first|omega|(simp only[lnA,lnC,lnN,lnM,z8,yj];omega)) only[↓zF,↓zn,↓zq,↓zw,↓zu,↓yK,↓zr]
  exact Aa a1 ⟨x,rfl,hx⟩
 refine z9 (Nh hb h 2) fun v c1 a1 ⟨o,e⟩=>?_
 subst e
 simp (disch:=first|omega|(simp only[lnA,lnC,lnN,lnM,z8,yj];omega)) only[↓zF,↓zn,↓zq,↓yZ,↓zu,↓zr]
 refine Ax (fun _=>?_) fun _=>?_
 ·refine z9 (hat a1) fun v c1 a1 ⟨x,e,hx⟩=>?_
  subst e
  simp (disch:=first|omega|(simp only[lnA,lnC,lnN,lnM,z8,yj];omega)) only[↓zF,↓zn,↓zq,↓zw,↓zu,↓yK,↓zr]
  exact Aa a1 ⟨x,rfl,hx⟩
 refine RT (aak _ _) ?_
 simp (disch:=first|omega|(simp only[lnA,lnC,lnN,lnM,z8,yj];omega)) only[↓zF,↓zq]
 refine z9 (Aw hb a1 _) fun v c2 a2 ⟨m,e,m0,m1⟩=>?_
 subst e
 simp (disch:=first|omega|(simp only[lnA,lnC,lnN,lnM,z8,yj];omega)) only[↓zF,↓zn,↓zq,↓zu,↓zr]
 refine z9 (Aw hb a2 _) fun v c3 a3 ⟨m3,e,_,_⟩=>?_
 subst e
 simp (disch:=first|omega|(simp only[lnA,lnC,lnN,lnM,z8,yj];omega)) only[↓zF,↓zn,↓zq,↓zu,↓zr]
 refine Ax (fun _=>?_) fun _=>Ax (fun _=>Aa a3 ⟨⟨_,_,_,_,_⟩,rfl,KC⟩) fun _=>?_
 ·refine z9 (Aw hb a3 _) fun v c4 a4 ⟨m4,e,_,_⟩=>?_
  subst e
  simp (disch:=first|omega|(simp only[lnA,lnC,lnN,lnM,z8,yj];omega)) only[↓zF,↓zn,↓zq,↓zu,↓zr]
  exact Aa a4 ⟨⟨_,_,_,_,_⟩,rfl,KC⟩
 refine RT (aak _ _) ?_
 simp (disch:=first|omega|(simp only[lnA,lnC,lnN,lnM,z8,yj];omega)) only[↓zF,↓zq]
 refine z9 (Aw hb a3 _) fun v c4 a4 ⟨m4,e,_,_⟩=>?_
 subst e
 simp (disch:=first|omega|(simp only[lnA,lnC,lnN,lnM,z8,yj];omega)) only[↓zF,↓zn,↓zq,↓zu,↓zr]
 exact Aa a4 ⟨⟨_,_,_,_,_⟩,rfl,KC⟩
def ab8 (p:List Nd):Prop:=∀x∈p,x.s.size<=100
theorem Yu {p:List Nd}(h:ab8 p):Cu p:=fun x hx=>by have:=h x hx;omega
def ab7 (v:D):Prop:=∃p:List Nd,v=oP p/\ab8 p/\(p.length<=15\/(p.length<=3001/\∀x∈p,x.kind=1))
theorem Qi (hb:b.length<4611686018427387904){n:Int}(hn:n<16):∀(k i:Nat)(c:Int×Int)(p:List Nd),(i:Int)+k=n->BV b c->ab8 p->p.length<=i->0<i->FU b (fun v=>∃p:List Nd,v=oP p/\ab8 p/\p.length<=15) (Di n (i:Int) (b.map eB) c.1 c.2 (p.map eN))
 |0,i,c,p,hi,hc,hp,hl,h0=>by
  rw[Ga]
  simp (disch:=first|omega|(simp only[lnA,lnC,lnN,lnM,z8,yj];omega)) only[↓y0,zY]
  exact Aa hc ⟨p,rfl,hp,by omega⟩
 |k+1,i,c,p,hi,hc,hp,hl,h0=>by
  rw[Ga,y6 (bE (by omega))]
  refine z9 (adc hb hc _) fun v c1 a1 ⟨x,e,hx⟩=>?_
  subst e
  simp (disch:=first|omega|(simp only[lnA,lnC,lnN,lnM,z8,yj];omega)) only[↓yk,yz,↓zF,↓zn,↓zq,↓zw,↓zt,↓zu,↓yK,↓zr,wS,AV (p:=p) (by omega) x]
  refine Qi hb hn k (i+1) c1 (p++[x]) (by omega) a1 ?_ (by simp;omega) (by omega)
  intro y hy
  rcases bF.1 hy with hy|hy
  ·exact hp y hy
  ·simp at hy;subst hy;exact hx
theorem aeU (hb:b.length<4611686018427387904)(h:BV b c):FU b (fun v=>∃p:List Nd,v=oP p/\ab8 p/\p.length<=15) (V 154 [eC b c]):=by
 rw[RK]
 refine z9 (Aw hb h _) fun v c1 a1 ⟨m,e,m0,m1⟩=>?_
 subst e
 have:=m1 (by omega)
 simp (disch:=first|omega|(simp only[lnA,lnC,lnN,lnM,z8,yj];omega)) only[↓zF,↓zn,↓zq,↓zu,↓zr]
 rw[Nb]
 refine Ax (fun h0=>?_) fun _=>Aa a1 ⟨[],rfl,fun x hx=>by simp at hx,by simp⟩
 have h0:=cV h0
 refine z9 (adc hb a1 _) fun v c2 a2 ⟨x,e,hx⟩=>?_
 subst e
 have ha:V 158 [.op [.os (5,0) []],eN x]=some (iN 0,[rP [x]]):=AV (p:=[]) (by simp) x
 simp (disch:=first|omega|(simp only[lnA,lnC,lnN,lnM,z8,yj];omega)) only[↓yk,yz,↓zF,↓zn,↓zq,↓zw,↓zt,↓zu,↓yK,↓zr,Int.reduceAdd,wS,ha]
 obtain⟨k,hk⟩:=cP (show 0<=m-1 by omega)
 exact Qi hb (by omega) k 1 c2 [x] (by simp;omega) a2 (by simpa[ab8]using hx) (by simp) (by omega)
theorem aeV (hb:b.length<4611686018427387904)(h:BV b c){x:Nd}(hx:x.s.size<=100):FU b afL (V 156 [eC b c,eN x]):=by
 rw[Xk]
 refine z9 (Aw hb h _) fun v c1 a1 ⟨m,e,m0,m1⟩=>?_
 subst e
 simp (disch:=first|omega|(simp only[lnA,lnC,lnN,lnM,z8,yj];omega)) only[↓zF,↓zn,↓zq,↓zu,↓zr]
 refine Ax (fun _=>?_) fun _=>Ax (fun _=>?_) fun _=>Ax (fun _=>?_) fun _=>Ax (fun _=>?_) fun _=>Ax (fun _=>?_) fun _=>Aa a1 ⟨x,rfl,hx⟩
 ·refine z9 (Aw hb a1 _) fun v c2 a2 ⟨m2,e,_,_⟩=>?_
  subst e
  simp (disch:=first|omega|(simp only[lnA,lnC,lnN,lnM,z8,yj];omega)) only[↓zF,↓zn,↓zq,↓zu,↓zr]
  exact Aa a2 ⟨⟨m2,x.n,x.s,x.a,x.b⟩,rfl,hx⟩
 ·refine z9 (Aw hb a1 _) fun v c2 a2 ⟨m2,e,_,h2⟩=>?_
  subst e
  have:=h2 (by omega)
  simp (disch:=first|omega|(simp only[lnA,lnC,lnN,lnM,z8,yj];omega)) only[↓zF,↓zn,↓zq,↓zu,↓zr]
  exact Aa a2 ⟨⟨x.kind,x.n,x.s,w6 (m2-1),x.b⟩,rfl,hx⟩
 ·refine z9 (Aw hb a1 _) fun v c2 a2 ⟨m2,e,_,h2⟩=>?_
  subst e
  have:=h2 (by omega)
  simp (disch:=first|omega|(simp only[lnA,lnC,lnN,lnM,z8,yj];omega)) only[↓zF,↓zn,↓zq,↓zu,↓zr]
  exact Aa a2 ⟨⟨x.kind,x.n,x.s,x.a,w6 (m2-1)⟩,rfl,hx⟩
 ·refine z9 (Kq hb a1 [-1,2,99,100,1000000000,1000000001,-1000000000,-1000000001] (by simp)) fun v c2 a2 ⟨m2,e,_⟩=>?_
  subst e
  simp (disch:=first|omega|(simp only[lnA,lnC,lnN,lnM,z8,yj];omega)) only[↓zF,↓zn,↓zq,↓zu,↓zr]
  exact Aa a2 ⟨⟨x.kind,m2,x.s,x.a,x.b⟩,rfl,hx⟩
 ·refine z9 (Lx hb a1 [⟨#[]⟩,⟨#[97]⟩,⟨#[65,98]⟩,⟨#[97,98,99,100,101,102,103,104,105,106,107,108]⟩,⟨#[97,98,99,100,101,102,103,104,105,106,107,108,109]⟩,⟨#[97,49]⟩] (by simp)) fun v c2 a2 ⟨m2,e,hm⟩=>?_
  subst e
  simp (disch:=first|omega|(simp only[lnA,lnC,lnN,lnM,z8,yj];omega)) only[↓zF,↓zn,↓zq,↓zw,↓zu,↓zr]
  refine Aa a2 ⟨⟨x.kind,x.n,m2,x.a,x.b⟩,rfl,?_⟩
  show m2.size<=100
  simp only[bN,dY,or_false]at hm
  rcases hm with rfl|rfl|rfl|rfl|rfl|rfl<;>decide
theorem adb (hb:b.length<4611686018427387904)(h:BV b c){N:Nat}(hN:N<=3001):∀(k i:Nat)(q:List Nd),i+k=N->q.length=N->ab8 q->(∀(j:Nat)(x:Nd),j<i->q[j]? = some x->x.kind=1)->FU b ab7 (CX (i:Int) (b.map eB) c.1 c.2 (q.map eN))
 |0,i,q,hi,hq,hs,hk=>by
  rw[Lh]
  simp (disch:=first|omega|(simp only[lnA,lnC,lnN,lnM,z8,yj];omega)) only[↓y0,zY,lnM,yj]
  refine Aa h ⟨q,rfl,hs,.inr ⟨by omega,fun x hx=>?_⟩⟩
  obtain⟨j,hj⟩:=List.getElem?_of_mem hx
  exact hk j x (by have:=aQ hj;omega) hj
 |k+1,i,q,hi,hq,hs,hk=>by
  obtain⟨x,hx⟩:=yM (l:=q) (i:=i) (by omega)
  have e:(D.agg (List.take 0 [iN x.kind,iN x.n,.str x.s,iN x.a,iN x.b]++[iN 1]++List.drop 1 [iN x.kind,iN x.n,.str x.s,iN x.a,iN x.b]))=eN ⟨1,x.n,x.s,x.a,x.b⟩:=rfl
  rw[Lh,y6 (bE (by rw[lnM];simp only[ni];omega)),zJ (by rw[lnM];exact zM (by omega)),bI,zj hx,yK,zO,z6 (by omega),e,<-List.map_set]
  refine adb hb h hN k (i+1) _ (by omega) (by simp;omega) ?_ ?_
  ·intro y hy
   rcases List.mem_or_eq_of_mem_set hy with hy|hy
   ·exact hs y hy
   ·rw[hy];exact hs x (bT hx)
  ·intro j y hj hy
   by_cases e:i=j
   ·subst e
    rw[List.getElem?_set_self (by omega)]at hy
    cases hy;rfl
   ·rw[List.getElem?_set_ne e]at hy
    exact hk j y (by omega) hy
theorem ada (hb:b.length<4611686018427387904)(h:BV b c):FU b ab7 (V 90 [eC b c]):=by
 have fin:∀{c:Int×Int}{k:Nat},BV b c->k<2->FU b ab7 (grd (decide (0<=w6 (3000+(k:Int)))&&decide (w6 (3000+(k:Int))<=LIM)) (CX 0 (b.map eB) c.1 c.2 (List.replicate (Int.toNat (w6 (3000+(k:Int)))) (D.agg [iN 0,iN 0,D.str ⟨#[]⟩,iN 0,iN 0])))):=by
  intro c k h hk
  rw[w64 (by omega) (by omega),zJ (by rw[qA];simp only[aB,bL];omega)]
  have e2:(3000+(k:Int)).toNat=3000+k:=by omega
  have e3:List.replicate (3000+k) (D.agg [iN 0,iN 0,D.str ⟨#[]⟩,iN 0,iN 0])=(List.replicate (3000+k) (⟨0,0,⟨#[]⟩,0,0⟩:Nd)).map eN:=by rw[List.map_replicate]
  rw[e2,e3]
  refine adb hb h (N:=3000+k) (by omega) (3000+k) 0 _ (by omega) (by simp) ?_ (fun j x h _=>by omega)
  intro x hx
  rw[(List.mem_replicate.1 hx).2]
  exact KC
 rw[Zm]
 refine z9 (aeU hb h) fun v c1 a1 ⟨p,e,hp,hl⟩=>?_
 subst e
 simp (disch:=first|omega|(simp only[lnA,lnC,lnN,lnM,z8,yj];omega)) only[↓zF,↓zn,↓zq,↓zt,↓zu,↓yK,↓zr,↓zO]
 refine Ax (fun h0=>?_) fun _=>?_
 ·have h0:=cV h0
  rw[lnM]at h0
  refine z9 (Nh hb a1 12) fun v c2 a2 ⟨o,e⟩=>?_
  subst e
  simp (disch:=first|omega|(simp only[lnA,lnC,lnN,lnM,z8,yj];omega)) only[↓zF,↓zn,↓zq,↓yZ,↓zu,↓zr]
  refine Ax (fun _=>?_) fun _=>?_
  ·refine z9 (Aw hb a2 _) fun v c3 a3 ⟨m,e,m0,m1⟩=>?_
   subst e
   have hm:=m1 (by rw[lnM];exact h0)
   rw[lnM]at hm
   obtain⟨k,hk⟩:=cP m0
   subst hk
   obtain⟨x,hx⟩:=yM (l:=p) (i:=k) (by simp only[ni]at hm;omega)
   simp (disch:=first|omega|(simp only[lnA,lnC,lnN,lnM,z8,yj];omega)) only[↓zF,↓zn,↓zq,↓zu,↓zr]
   rw[zJ (by rw[lnM];exact zM (by simp only[ni]at hm;omega)),bI,zj hx,yK,zn,zq,zn,zq,zn,zw,zn,zq,zn,zq,zF]
   refine z9 (aeV hb a3 (hp x (bT hx))) fun v c4 a4 ⟨y,e,hy⟩=>?_
   subst e
   simp (disch:=first|omega|(simp only[lnA,lnC,lnN,lnM,z8,yj];omega)) only[↓zF,↓zn,↓zq,↓zw,↓zu,↓yK,↓zr]
   rw[zJ (by rw[lnM];exact zM (by simp only[ni]at hm;omega)),zj hx]
   have e:List.set (p.map eN) k (D.agg [iN y.kind,iN y.n,.str y.s,iN y.a,iN y.b])=(p.set k y).map eN:=by rw[List.map_set]
   rw[e]
   refine z9 (Nh hb a4 60) fun v c5 a5 ⟨o,e⟩=>?_
   subst e
   simp (disch:=first|omega|(simp only[lnA,lnC,lnN,lnM,z8,yj];omega)) only[↓zF,↓zn,↓zq,↓yZ,↓zu,↓zr]
   refine Ax (fun _=>?_) fun _=>Aa a5 ⟨p.set k y,rfl,?_,.inl (by simpa using hl)⟩
   ·refine z9 (Aw hb a5 _) fun v c6 a6 ⟨m,e,m0,m1⟩=>?_
    subst e
    have:=m1 (by omega)
    obtain⟨k,hk⟩:=cP m0
    subst hk
    simp (disch:=first|omega|(simp only[lnA,lnC,lnN,lnM,z8,yj];omega)) only[↓zF,↓zn,↓zq,↓zu,↓zr]
    exact fin a6 (by omega)
   ·intro z hz
    rcases List.mem_or_eq_of_mem_set hz with hz|hz
    ·exact hp z hz
    ·rw[hz];exact hy
  ·refine z9 (Nh hb a2 60) fun v c5 a5 ⟨o,e⟩=>?_
   subst e
   simp (disch:=first|omega|(simp only[lnA,lnC,lnN,lnM,z8,yj];omega)) only[↓zF,↓zn,↓zq,↓yZ,↓zu,↓zr]
   refine Ax (fun _=>?_) fun _=>Aa a5 ⟨p,rfl,hp,.inl hl⟩
   refine z9 (Aw hb a5 _) fun v c6 a6 ⟨m,e,m0,m1⟩=>?_
   subst e
   have:=m1 (by omega)
   obtain⟨k,hk⟩:=cP m0
   subst hk
   simp (disch:=first|omega|(simp only[lnA,lnC,lnN,lnM,z8,yj];omega)) only[↓zF,↓zn,↓zq,↓zu,↓zr]
   exact fin a6 (by omega)
 ·refine z9 (Nh hb a1 60) fun v c5 a5 ⟨o,e⟩=>?_
  subst e
  simp (disch:=first|omega|(simp only[lnA,lnC,lnN,lnM,z8,yj];omega)) only[↓zF,↓zn,↓zq,↓yZ,↓zu,↓zr]
  refine Ax (fun _=>?_) fun _=>Aa a5 ⟨p,rfl,hp,.inl hl⟩
  refine z9 (Aw hb a5 _) fun v c6 a6 ⟨m,e,m0,m1⟩=>?_
  subst e
  have:=m1 (by omega)
  obtain⟨k,hk⟩:=cP m0
  subst hk
  simp (disch:=first|omega|(simp only[lnA,lnC,lnN,lnM,z8,yj];omega)) only[↓zF,↓zn,↓zq,↓zu,↓zr]
  exact fin a6 (by omega)
theorem ac8 (hb:b.length<4611686018427387904)(h:BV b c){p:List Nd}(hp:p.length<=4000):FU b (fun v=>∃m:Int,v=iN m/\-1<=m/\m<=4000) (V 91 [eC b c,eP p]):=by
 have pk:∀{c:Int×Int},BV b c->FU b (fun v=>∃m:Int,v=iN m/\m∈[-1,0,(p.length:Int)]) (V 122 [eC b c,.rs (1,0) [iN (-1),iN 0,iN (p.length:Int)]]):=fun h=>Kq hb h [-1,0,(p.length:Int)] (by simp)
 have fin:∀{m:Int},m∈[-1,0,(p.length:Int)]->-1<=m/\m<=4000:=by
  intro m hm
  simp only[bN,dY,or_false]at hm
  omega
 rw[Vw,lnM]
 refine Ax (fun _=>?_) fun h0=>?_
 ·refine z9 (pk h) fun v c1 a1 ⟨m,e,hm⟩=>?_
  subst e
  simp (disch:=first|omega|(simp only[lnA,lnC,lnN,lnM,z8,yj];omega)) only[↓zF,↓zn,↓zq,↓zu,↓zr]
  exact Aa a1 ⟨m,rfl,fin hm⟩
 refine z9 (Nh hb h 20) fun v c1 a1 ⟨o,e⟩=>?_
 subst e
 simp (disch:=first|omega|(simp only[lnA,lnC,lnN,lnM,z8,yj];omega)) only[↓zF,↓zn,↓zq,↓yZ,↓zu,↓zr]
 refine Ax (fun _=>?_) fun _=>?_
 ·refine z9 (pk a1) fun v c1 a1 ⟨m,e,hm⟩=>?_
  subst e
  simp (disch:=first|omega|(simp only[lnA,lnC,lnN,lnM,z8,yj];omega)) only[↓zF,↓zn,↓zq,↓zu,↓zr]
  exact Aa a1 ⟨m,rfl,fin hm⟩
 refine RT (aak _ _) ?_
 simp (disch:=first|omega|(simp only[lnA,lnC,lnN,lnM,z8,yj];omega)) only[↓zF,↓zq]
 refine z9 (Aw hb a1 _) fun v c2 a2 ⟨m,e,m0,m1⟩=>?_
 subst e
 simp (disch:=first|omega|(simp only[lnA,lnC,lnN,lnM,z8,yj];omega)) only[↓zF,↓zn,↓zq,↓zu,↓zr]
 have hne:p.length≠0:=by
  intro e
  rw[e]at h0
  exact absurd h0 (by decide)
 have hmn:m<mnI (ni p.length) 9:=m1 (by unfold mnI;simp only[ni];split<;>omega)
 have hm9:m<p.length/\m<9:=by
  unfold mnI at hmn
  simp only[ni]at hmn
  split at hmn<;>omega
 rw[w64 (n:=ni p.length-1) (by simp only[ni];omega) (by simp only[ni];omega),w64 (by simp only[ni];omega) (by simp only[ni];omega)]
 exact Aa a2 ⟨_,rfl,by simp only[ni];omega,by simp only[ni];omega⟩
end
theorem abC {p:List Nd}(h:p.length<=15\/(p.length<=3001/\∀x∈p,x.kind=1)):p.length<=3001:=by omega
end
end Go.Eng
/-! draws of programs: their texts -/
namespace Go.Eng
noncomputable section
open Go.Proofs Go.Proofs.Tryz
set_option maxHeartbeats 4000000
set_option maxRecDepth 10000

theorem Ba (a b:ByteArray):(a++b).size=a.size+b.size:=ByteArray.size_append
theorem Fu (a:Array UInt8):ByteArray.size ⟨a⟩=a.size:=rfl
def Hd (s:ByteArray):Prop:=∃(x:UInt8)(r:List UInt8),s.data.toList=x::r/\x≠32
theorem OD {a:ByteArray}(h:Hd a)(b:ByteArray):Hd (a++b):=by
 obtain⟨x,r,h1,h2⟩:=h
 exact⟨x,r++b.data.toList,by simp[h1],h2⟩
theorem Ky (x:UInt8)(r:List UInt8)(h:x≠32):Hd ⟨(x::r).toArray⟩:=⟨x,r,by simp,h⟩
def aeu (n:Nat)(v:D):Prop:=∃s:ByteArray,v=.str s/\s.size<=n/\Hd s
def SzE:Nat->Nat
 |0=>9
 |d+1=>3*SzE d+30
section
variable {b:List Int}
theorem ahb (hb:b.length<4611686018427387904){c:Int×Int}(h:BV b c):FU b (aeu 9) (V 75 [eC b c,.rs (1,0) [(.str ({ data:=#[49] })),(.str ({ data:=#[120] })),(.str ({ data:=#[121] })),(.str ({ data:=#[45,50] })),(.str ({ data:=#[35,116] })),(.str ({ data:=#[40,41] })),(.str ({ data:=#[102] })),(.str ({ data:=#[40,113,117,111,116,101,32,97,41] })),(.str ({ data:=#[48] }))]]):=by
 refine Th (Lx hb h [⟨#[49]⟩,⟨#[120]⟩,⟨#[121]⟩,⟨#[45,50]⟩,⟨#[35,116]⟩,⟨#[40,41]⟩,⟨#[102]⟩,⟨#[40,113,117,111,116,101,32,97,41]⟩,⟨#[48]⟩] (by simp)) ?_
 rintro v ⟨m,rfl,hm⟩
 refine⟨m,rfl,?_⟩
 simp only[bN,dY,or_false]at hm
 rcases hm with rfl|rfl|rfl|rfl|rfl|rfl|rfl|rfl|rfl<;>exact⟨by decide,Ky _ _ (by decide)⟩
theorem ahc (hb:b.length<4611686018427387904){c:Int×Int}(h:BV b c):FU b (aeu 4) (V 75 [eC b c,.rs (1,0) [(.str ({ data:=#[43] })),(.str ({ data:=#[45] })),(.str ({ data:=#[42] })),(.str ({ data:=#[60] })),(.str ({ data:=#[61] })),(.str ({ data:=#[99,111,110,115] })),(.str ({ data:=#[101,113,63] }))]]):=by
 refine Th (Lx hb h [⟨#[43]⟩,⟨#[45]⟩,⟨#[42]⟩,⟨#[60]⟩,⟨#[61]⟩,⟨#[99,111,110,115]⟩,⟨#[101,113,63]⟩] (by simp)) ?_
 rintro v ⟨m,rfl,hm⟩
 refine⟨m,rfl,?_⟩
 simp only[bN,dY,or_false]at hm
 rcases hm with rfl|rfl|rfl|rfl|rfl|rfl|rfl<;>exact⟨by decide,Ky _ _ (by decide)⟩
theorem ahd (hb:b.length<4611686018427387904){c:Int×Int}(h:BV b c):FU b (aeu 6) (V 75 [eC b c,.rs (1,0) [(.str ({ data:=#[99,97,114] })),(.str ({ data:=#[99,100,114] })),(.str ({ data:=#[110,117,108,108,63] })),(.str ({ data:=#[112,97,105,114,63] })),(.str ({ data:=#[110,111,116] })),(.str ({ data:=#[99,97,108,108,99,99] }))]]):=by
 refine Th (Lx hb h [⟨#[99,97,114]⟩,⟨#[99,100,114]⟩,⟨#[110,117,108,108,63]⟩,⟨#[112,97,105,114,63]⟩,⟨#[110,111,116]⟩,⟨#[99,97,108,108,99,99]⟩] (by simp)) ?_
 rintro v ⟨m,rfl,hm⟩
 refine⟨m,rfl,?_⟩
 simp only[bN,dY,or_false]at hm
 rcases hm with rfl|rfl|rfl|rfl|rfl|rfl<;>exact⟨by decide,Ky _ _ (by decide)⟩
theorem agE:∀d,d<=3->SzE d<=633:=by decide
theorem agv:∀d,9<=SzE d
 |0=>cB _
 |d+1=>by have:=agv d;unfold SzE;omega
theorem aex:∀d,SzE (d-1)<=SzE d
 |0=>cB _
 |d+1=>by simp only[Nat.add_sub_cancel];rw[show SzE (d+1)=3*SzE d+30 from rfl];omega
theorem YP (hb:b.length<4611686018427387904):∀(k:Nat)(n:Int),n<=k->-5<=n->k<=3->∀c,BV b c->FU b (aeu (SzE n.toNat)) (V 214 [eC b c,iN n])
 |k,n,hk,hn,h3,c,hc=>by
  rw[TC]
  by_cases h0:n<=0
  ·rw[y6 (bE h0)]
   refine z9 (ahb hb hc) fun v c1 a1 ⟨s,e,hs,hh⟩=>?_
   subst e
   simp (disch:=first|omega|(simp only[lnA,lnC,lnN,lnM,z8,yj];omega)) only[↓zF,↓zn,↓zq,↓zw,↓zu,↓zr]
   exact Aa a1 ⟨s,rfl,by have:=agv n.toNat;omega,hh⟩
  ·rw[yp (bK h0)]
   obtain⟨k,rfl⟩:∃j,k=j+1:=⟨k-1,by omega⟩
   have w1:w6 (n-1)=n-1:=w64 (by omega) (by omega)
   have w2:w6 (n-2)=n-2:=w64 (by omega) (by omega)
   obtain⟨d,hd⟩:∃d,n.toNat=d+1:=⟨n.toNat-1,by omega⟩
   have e1:(n-1).toNat=d:=by omega
   have e2:(n-2).toNat=d-1:=by omega
   have hz:SzE n.toNat=3*SzE d+30:=by rw[hd];rfl
   have hp:=aex d
   have hm:=agE d (by omega)
   have i1:=fun c a=>YP hb k (n-1) (by omega) (by omega) (by omega) c a
   have i2:=fun c a=>YP hb k (n-2) (by omega) (by omega) (by omega) c a
   rw[e1]at i1
   rw[e2]at i2
   rw[w1,w2,hz]
   refine z9 (i1 c hc) fun v c1 a1 ⟨s,e,hs,hh⟩=>?_
   subst e
   simp (disch:=first|omega|(simp only[lnA,lnC,lnN,lnM,z8,yj];omega)) only[↓zF,↓zn,↓zq,↓zw,↓zu,↓zr]
   refine z9 (i1 c1 a1) fun v c2 a2 ⟨t,e,ht,hh2⟩=>?_
   subst e
   simp (disch:=first|omega|(simp only[lnA,lnC,lnN,lnM,z8,yj];omega)) only[↓zF,↓zn,↓zq,↓zw,↓zu,↓zr]
   refine z9 (Aw hb a2 _) fun v c3 a3 ⟨m,e,m0,m1⟩=>?_
   subst e
   simp (disch:=first|omega|(simp only[lnA,lnC,lnN,lnM,z8,yj];omega)) only[↓zF,↓zn,↓zq,↓zu,↓zr]
   refine Ax (fun _=>?_) fun _=>Ax (fun _=>?_) fun _=>Ax (fun _=>?_) fun _=>Ax (fun _=>?_) fun _=>Ax (fun _=>?_) fun _=>Ax (fun _=>?_) fun _=>Ax (fun _=>?_) fun _=>Ax (fun _=>?_) fun _=>?_
   ·repeat refine D8 (bE (by rw[qA];simp only[ni,Ba,Fu,dS,lnC,lnN];omega)) ?_
    refine z9 (i2 c3 a3) fun v c4 a4 ⟨u,e,hu,hh3⟩=>?_
    subst e
    simp (disch:=first|omega|(simp only[lnA,lnC,lnN,lnM,z8,yj];omega)) only[↓zF,↓zn,↓zq,↓zw,↓zu,↓zr]
    repeat refine D8 (bE (by rw[qA];simp only[ni,Ba,Fu,dS,lnC,lnN];omega)) ?_
    exact Aa a4 ⟨_,rfl,by simp only[Ba,Fu,dS,lnC,lnN];omega,by repeat (first|exact Ky _ _ (by decide)|refine OD ?_ _)⟩
   ·repeat refine D8 (bE (by rw[qA];simp only[ni,Ba,Fu,dS,lnC,lnN];omega)) ?_
    exact Aa a3 ⟨_,rfl,by simp only[Ba,Fu,dS,lnC,lnN];omega,by repeat (first|exact Ky _ _ (by decide)|refine OD ?_ _)⟩
   ·repeat refine D8 (bE (by rw[qA];simp only[ni,Ba,Fu,dS,lnC,lnN];omega)) ?_
    exact Aa a3 ⟨_,rfl,by simp only[Ba,Fu,dS,lnC,lnN];omega,by repeat (first|exact Ky _ _ (by decide)|refine OD ?_ _)⟩
   ·repeat refine D8 (bE (by rw[qA];simp only[ni,Ba,Fu,dS,lnC,lnN];omega)) ?_
    exact Aa a3 ⟨_,rfl,by simp only[Ba,Fu,dS,lnC,lnN];omega,by repeat (first|exact Ky _ _ (by decide)|refine OD ?_ _)⟩
   ·repeat refine D8 (bE (by rw[qA];simp only[ni,Ba,Fu,dS,lnC,lnN];omega)) ?_
    exact Aa a3 ⟨_,rfl,by simp only[Ba,Fu,dS,lnC,lnN];omega,by repeat (first|exact Ky _ _ (by decide)|refine OD ?_ _)⟩
   ·repeat refine D8 (bE (by rw[qA];simp only[ni,Ba,Fu,dS,lnC,lnN];omega)) ?_
    exact Aa a3 ⟨_,rfl,by simp only[Ba,Fu,dS,lnC,lnN];omega,by repeat (first|exact Ky _ _ (by decide)|refine OD ?_ _)⟩
   ·refine z9 (ahc hb a3) fun v c4 a4 ⟨u,e,hu,hh3⟩=>?_
    subst e
    simp (disch:=first|omega|(simp only[lnA,lnC,lnN,lnM,z8,yj];omega)) only[↓zF,↓zn,↓zq,↓zw,↓zu,↓zr]
    repeat refine D8 (bE (by rw[qA];simp only[ni,Ba,Fu,dS,lnC,lnN];omega)) ?_
    exact Aa a4 ⟨_,rfl,by simp only[Ba,Fu,dS,lnC,lnN];omega,by repeat (first|exact Ky _ _ (by decide)|refine OD ?_ _)⟩
   ·refine z9 (ahd hb a3) fun v c4 a4 ⟨u,e,hu,hh3⟩=>?_
    subst e
    simp (disch:=first|omega|(simp only[lnA,lnC,lnN,lnM,z8,yj];omega)) only[↓zF,↓zn,↓zq,↓zw,↓zu,↓zr]
    repeat refine D8 (bE (by rw[qA];simp only[ni,Ba,Fu,dS,lnC,lnN];omega)) ?_
    exact Aa a4 ⟨_,rfl,by simp only[Ba,Fu,dS,lnC,lnN];omega,by repeat (first|exact Ky _ _ (by decide)|refine OD ?_ _)⟩
   ·exact Aa a3 ⟨s,rfl,by omega,hh⟩
def texts:List ByteArray:=[(⟨#[40,100,101,102,105,110,101,32,40,102,32,110,41,32,40,105,102,32,40,60,32,110,32,50,41,32,110,32,40,43,32,40,102,32,40,45,32,110,32,49,41,41,32,40,102,32,40,45,32,110,32,50,41,41,41,41,41,32,40,102,32,54,41]⟩:ByteArray),(⟨List.toArray (List.append [40,100,101,102,105,110,101,32,40,117,112,32,110,41,32,40,105,102,32,40,60,32,110,32,51,41,32,40,100,111,32,40] [112,114,105,110,116,32,110,41,32,40,117,112,32,40,43,32,110,32,49,41,41,41,32,110,41,41,32,40,117,112,32,48,41])⟩:ByteArray),(⟨#[40,108,101,116,32,120,32,53,32,40,108,101,116,32,102,32,40,102,110,32,40,121,41,32,40,43,32,120,32,121,41,41,32,40,112,114,105,110,116,32,40,102,32,52,41,41,41,41]⟩:ByteArray),(⟨#[40,112,114,105,110,116,32,40,99,97,108,108,99,99,32,40,102,110,32,40,107,41,32,40,100,111,32,40,107,32,55,41,32,56,41,41,41,41]⟩:ByteArray),(⟨List.toArray (List.append [40,100,101,102,105,110,101,32,40,109,97,112,32,102,32,108,41,32,40,105,102,32,40,110,117,108,108,63,32,108,41,32,40,41,32,40,99,111,110,115,32,40,102,32,40,99,97,114,32,108,41,41,32,40,109,97,112,32,102] [32,40,99,100,114,32,108,41,41,41,41,41,32,40,112,114,105,110,116,32,40,109,97,112,32,40,102,110,32,40,120,41,32,40,42,32,120,32,120,41,41,32,40,113,117,111,116,101,32,40,49,32,50,32,51,41,41,41,41])⟩:ByteArray),(⟨#[40,100,111,32,40,115,112,97,119,110,32,40,102,110,32,40,41,32,40,100,111,32,40,112,114,105,110,116,32,49,41,32,40,112,114,105,110,116,32,50,41,41,41,41,32,40,112,114,105,110,116,32,51,41,41]⟩:ByteArray),(⟨List.toArray (List.append [40,108,101,116,32,112,32,40,115,112,97,119,110,32,40,102,110,32,40,41,32,40,112,114,105,110,116,32,40,114,101,99,118,41] [41,41,41,32,40,100,111,32,40,115,101,110,100,32,112,32,40,113,117,111,116,101,32,40,97,32,98,41,41,41,32,48,41,41])⟩:ByteArray),(⟨List.toArray (List.append [40,108,101,116,32,112,32,40,115,112,97,119,110,32,40,102,110,32,40,41,32,40,108,101,116,32,102,32,40,114,101,99,118,41,32,40,112,114,105,110,116,32,40,102] [32,53,41,41,41,41,41,32,40,108,101,116,32,122,32,57,32,40,115,101,110,100,32,112,32,40,102,110,32,40,120,41,32,40,43,32,120,32,122,41,41,41,41,41])⟩:ByteArray),(⟨#[40,100,111,32,40,112,114,105,110,116,32,49,41,32,40,103,111,32,49,41,32,40,112,114,105,110,116,32,50,41,32,40,103,111,32,48,41,32,40,112,114,105,110,116,32,51,41,41]⟩:ByteArray),(⟨List.toArray (List.append [40,108,101,116,32,109,101,32,40,115,101,108,102,41,32,40,100,111,32,40,115,112,97,119,110,32,40,102,110,32,40,41,32,40,100,111,32,40] [103,111,32,49,41,32,40,115,101,110,100,32,109,101,32,52,50,41,41,41,41,32,40,112,114,105,110,116,32,40,114,101,99,118,41,41,41,41])⟩:ByteArray),(⟨List.toArray (List.append [40,100,101,102,105,110,101,32,40,108,111,111,112,32,110,41,32,40,105,102,32,40,61,32,110,32,48,41,32,40,112,114,105,110,116,32,40] [113,117,111,116,101,32,101,110,100,41,41,32,40,108,111,111,112,32,40,45,32,110,32,49,41,41,41,41,32,40,108,111,111,112,32,57,41])⟩:ByteArray),(⟨#[40,112,114,105,110,116,32,40,99,97,114,32,40,113,117,111,116,101,32,40,41,41,41,41]⟩:ByteArray),(⟨#[40,112,114,105,110,116,32,40,102,32,49,41,41]⟩:ByteArray),(⟨#[40,43,32,49,32,35,116,41]⟩:ByteArray),(⟨#[40,112,114,105,110,116,32,40,99,111,110,115,32,49,32,40,99,111,110,115,32,50,32,40,41,41,41,41]⟩:ByteArray),(⟨List.toArray (List.append (List.append [40,100,101,102,105,110,101,32,40,112,105,110,103,32,112,32,110,41,32,40,105,102,32,40,60,32,110,32,49,41,32,48,32,40,100,111,32,40,115,101,110,100,32,112,32] [110,41,32,40,112,114,105,110,116,32,40,114,101,99,118,41,41,32,40,112,105,110,103,32,112,32,40,45,32,110,32,49,41,41,41,41,41,32,40,108,101,116,32,109,101,32]) (List.append [40,115,101,108,102,41,32,40,112,105,110,103,32,40,115,112,97,119,110,32,40,102,110,32,40,41,32,40,100,111,32,40,103,111,32,49,41,32,40,115,101,110,100,32,109,101] [32,40,43,32,49,48,32,40,114,101,99,118,41,41,41,32,40,115,101,110,100,32,109,101,32,40,43,32,49,48,32,40,114,101,99,118,41,41,41,41,41,41,32,50,41,41]))⟩:ByteArray),(⟨List.toArray (List.append [40,108,101,116,32,107,32,40,99,97,108,108,99,99,32,40,102,110,32,40,99,41,32,99,41,41,32,40,105,102,32,40,112,97,105,114,63] [32,107,41,32,40,112,114,105,110,116,32,40,99,97,114,32,107,41,41,32,40,107,32,40,113,117,111,116,101,32,40,53,41,41,41,41,41])⟩:ByteArray),(⟨List.toArray (List.append [40,108,101,116,32,112,32,40,115,112,97,119,110,32,40,102,110,32,40,41,32,40,100,111,32,40,103,111,32,49,41,32,40,108,101,116,32,107,32,40,114,101,99,118,41,32,40,107,32,56] [41,41,41,41,41,32,40,112,114,105,110,116,32,40,99,97,108,108,99,99,32,40,102,110,32,40,107,41,32,40,100,111,32,40,115,101,110,100,32,112,32,107,41,32,51,41,41,41,41,41])⟩:ByteArray)]
theorem afs:∀s∈texts,s.size<=633/\Hd s:=by
 intro s hs
 simp only[texts,bN,dY,or_false]at hs
 rcases hs with rfl|rfl|rfl|rfl|rfl|rfl|rfl|rfl|rfl|rfl|rfl|rfl|rfl|rfl|rfl|rfl|rfl|rfl<;>exact⟨by decide,⟨40,_,rfl,by decide⟩⟩
theorem afY (hb:b.length<4611686018427387904){c:Int×Int}(h:BV b c):FU b (aeu 633) (V 192 [eC b c]):=by
 have ht:V 213 []=some (.os (1,0) (texts.map D.str),[]):=Xo
 rw[Qd]
 refine z9 (Nh hb h 4) fun v c1 a1 ⟨o,e⟩=>?_
 subst e
 simp (disch:=first|omega|(simp only[lnA,lnC,lnN,lnM,z8,yj];omega)) only[↓zF,↓zn,↓zq,↓yZ,↓zu,↓zr]
 refine Ax (fun _=>?_) fun _=>?_
 ·refine RT ht ?_
  simp (disch:=first|omega|(simp only[lnA,lnC,lnN,lnM,z8,yj];omega)) only[↓zF,↓zt]
  refine z9 (Lx hb a1 texts (by decide)) fun v c2 a2 ⟨m,e,hm⟩=>?_
  subst e
  simp (disch:=first|omega|(simp only[lnA,lnC,lnN,lnM,z8,yj];omega)) only[↓zF,↓zn,↓zq,↓zw,↓zu,↓zr]
  exact Aa a2 ⟨m,rfl,afs m hm⟩
 ·refine z9 (YP hb 3 3 (by omega) (by omega) (by omega) c1 a1) fun v c2 a2 ⟨m,e,hm⟩=>?_
  subst e
  simp (disch:=first|omega|(simp only[lnA,lnC,lnN,lnM,z8,yj];omega)) only[↓zF,↓zn,↓zq,↓zw,↓zu,↓zr]
  exact Aa a2 ⟨m,rfl,hm⟩
end
end
end Go.Eng
/-! how much a value of a pool takes that is copied -/
namespace Go.Eng

noncomputable def YK (p:List Nd) (v:Int) (K:Nat):Prop:=∀acc:List Nd,(Ce (-1) p v acc).1.length<=acc.length+K
theorem aa9 (p:List Nd)(v:Int):YK p v p.length:=fun acc=>ML (-1) p (BG p [v]) p.length [] acc
theorem QV (d:Int){q:List Nd}{m:List Bool}{lo hi:Nat}(h:∀i,m[i]? = some true->lo<=i/\i<=hi):∀(k:Nat)(pre:List Int)(acc:List Nd),(Ci d q m k pre acc).2.length<=acc.length+(hi+1-max lo pre.length)
 |0,pre,acc=>Nat.le_add_right _ _
 |k+1,pre,acc=>by
  simp only[Ci]
  split
  ·rename_i hm
   have:=h _ hm
   have:=QV d (q:=q) h k (pre++[(acc.length:Int)]) (acc++[Aq pre ‹Nd›])
   simp only[lnA,lnC,lnN]at this
   omega
  ·have:=QV d (q:=q) h k (pre++[d]) acc
   simp only[lnA,lnC,lnN]at this
   omega
theorem adS {p:List Nd}{v:Int}{lo hi:Nat}(h:∀i,Rch p [v] i->lo<=i/\i<=hi):YK p v (hi+1-lo):=fun acc=>by
 have:=QV (-1) (q:=p) (m:=BG p [v]) (lo:=lo) (hi:=hi) (fun i hi=>h i (Pm hi)) p.length [] acc
 simp only[lnN]at this
 show(Ci (-1) p (BG p [v]) p.length [] acc).2.length<=_
 omega
theorem OU {p:List Nd}{v:Int}{K K':Nat}(h:YK p v K)(hk:K<=K'):YK p v K':=fun acc=>Nat.le_trans (h acc) (by omega)
theorem afa {p:List Nd}{v:Int}(h:∀x,p[v.toNat]? = some x->¬(x.kind=5\/x.kind=6\/x.kind=7)):YK p v 1:=by
 have:∀i,Rch p [v] i->i=v.toNat:=by
  intro i hi
  induction hi with
  |root hr=>rw[cH.1 hr]
  |a hi hx hk ih=>subst ih;exact absurd hk (h _ hx)
  |b hi hx hk ih=>subst ih;exact absurd (.inl hk) (h _ hx)
 exact OU (adS (lo:=v.toNat) (hi:=v.toNat) fun i hi=>by rw[this i hi];exact⟨cB _,cB _⟩) (by omega)
theorem afb {p:List Nd}(h:p.length<=15\/(p.length<=3001/\∀x∈p,x.kind=1))(v:Int):YK p v 15:=by
 rcases h with h|⟨_,h⟩
 ·exact OU (aa9 p v) h
 ·exact OU (afa fun x hx=>by rw[h x (bT hx)];omega) (by omega)
end Go.Eng
/-! draws of code -/
namespace Go.Eng
noncomputable section
open Go.Proofs Go.Proofs.Tryz
set_option maxHeartbeats 4000000
set_option maxRecDepth 10000

theorem J5 {l:List UInt8}:∀(k i:Nat)(o:List RwF)(t:RwF)(q q':List Nd)(row:List Int),(o≠[]\/t.2≠[])->FT l k i o t q=.ok q' row->row≠[]
 |0,i,o,t,q,q',row,h,e=>by rw[FT]at e;cases e
 |k+1,i,o,t,q,q',row,h,e=>by
  rw[MY]at e
  cases hx:l[i]? with
  |none=>
   rw[hx,Sn]at e
   split at e
   ·rename_i ho
    cases e
    rcases h with h|h
    ·exact absurd ho h
    ·exact h
   ·cases e
  |some x=>
   rw[hx,PR]at e
   split at e
   ·exact J5 k _ _ _ _ _ _ h e
   split at e
   ·exact J5 k _ _ _ _ _ _ (.inl (by simp)) e
   split at e
   ·split at e
    ·cases e
    ·exact J5 k _ _ _ _ _ _ (.inr (by simp)) e
   split at e
   ·split at e
    ·cases e
    ·exact J5 k _ _ _ _ _ _ (.inr (by simp)) e
   ·cases e
theorem KI {l:List UInt8}:∀(k i:Nat)(o:List RwF)(t:RwF)(q:List Nd)(c a:Int),FT l k i o t q=.err c a->c≠0
 |0,i,o,t,q,c,a,e=>by rw[FT]at e;cases e;decide
 |k+1,i,o,t,q,c,a,e=>by
  rw[MY]at e
  cases hx:l[i]? with
  |none=>
   rw[hx,Sn]at e
   split at e
   ·cases e
   ·cases e;decide
  |some x=>
   rw[hx,PR]at e
   split at e
   ·exact KI k _ _ _ _ _ _ e
   split at e
   ·exact KI k _ _ _ _ _ _ e
   split at e
   ·split at e
    ·cases e;decide
    ·exact KI k _ _ _ _ _ _ e
   split at e
   ·split at e
    ·cases e;decide
    ·exact KI k _ _ _ _ _ _ e
   ·cases e;decide
theorem KJ {l:List UInt8}:∀(k i:Nat)(o:List RwF)(t:RwF)(q:List Nd),i<=l.length->∀q' row,FT l k i o t q=.ok q' row->q'.length+row.length<=phi o t q+2*(l.length-i)
 |0,i,o,t,q,_,q',row,h=>by rw[FT]at h;cases h
 |k+1,i,o,t,q,h2,q',row,h=>by
  have hph:phi o t q=q.length+t.2.length+(o.map fun x=>x.2.length).sum:=rfl
  rw[MY]at h
  by_cases hi:i=l.length
  ·have hx:l[i]? = none:=eS (by omega)
   rw[hx,Sn]at h
   by_cases ho:o=[]
   ·rw[aG ho]at h
    cases h
    omega
   ·rw[aD ho]at h;cases h
  obtain⟨x,hx⟩:=yM (l:=l) (i:=i) (by omega)
  rw[hx,PR]at h
  by_cases h32:x=32
  ·rw[aG h32]at h
   have:=KJ k (i+1) o t q (by omega) q' row h
   omega
  rw[aD h32]at h
  by_cases h40:x=40
  ·rw[aG h40]at h
   have:=KJ k (i+1) (t::o) ((i:Int),[]) q (by omega) q' row h
   simp only[phi,bR,List.sum_cons,lnN]at this
   omega
  rw[aD h40]at h
  by_cases h41:x=41
  ·rw[aG h41]at h
   cases o with
   |nil=>cases h
   |cons u o=>
    simp only[bR,List.sum_cons]at hph
    have:=KJ k (i+1) o (u.1,u.2++[((Af q t.2).2:Int)]) (Af q t.2).1 (by omega) q' row h
    simp only[phi,FE,lnA,lnC,lnN]at this
    omega
  rw[aD h41]at h
  by_cases hw:Oc x=true
  ·rw[aG hw]at h
   have hwe:=PF hx hw
   have hwl:=aap (l:=l) (j:=i+1) (by omega)
   cases hwd:JO ((l.drop i).take (JA l i-i)) with
   |none=>rw[hwd]at h;cases h
   |some nd=>
    rw[hwd]at h
    have:=KJ k (JA l i) o (t.1,t.2++[(q.length:Int)]) (q++[nd]) (by omega) q' row h
    simp only[phi,lnA,lnC,lnN]at this
    omega
  ·rw[aD hw]at h;cases h
theorem abG {p:List Nd}{s:ByteArray}(hs:Hd s)(h:(Gh p s.data.toList).2.2.1=0):(Gh p s.data.toList).2.1≠[]:=by
 obtain⟨x,r,hl,hx⟩:=hs
 unfold Gh at h⊢
 split at h
 ·simp at h
 split at h
 ·simp at h
 rename_i h1 h2
 rw[aD h1,aD h2]
 generalize hg:FT s.data.toList (s.data.toList.length+1) 0 [] (0,[]) p=g at h⊢
 cases g with
 |err c a=>
  simp only[aee]at h
  exact absurd h (KI _ _ _ _ _ _ _ hg)
 |ok q row=>
  simp only[aee]at h⊢
  split at h
  ·rename_i hq
   rw[aG hq]
   rw[MY,hl]at hg
   simp only[eD]at hg
   rw[PR,aD hx]at hg
   split at hg
   ·exact J5 _ _ _ _ _ _ _ (.inl (by simp)) hg
   split at hg
   ·cases hg
   split at hg
   ·split at hg
    ·cases hg
    ·exact J5 _ _ _ _ _ _ _ (.inr (by simp)) hg
   ·cases hg
  ·simp at h
structure RightC (x:Cd):Prop where
 ok:Bu x=true
 ne:0<x.list.length
 fits:FitsC x
 small:x.pool.length<=800
theorem XU {p:List Nd}(hf:Cu p)(h8:p.length<=800){n:Int}:∀(xs:List Int)(i:Int)(m:Ms){x:Cd}{j:Int},Ko p n xs i m=(x,0,j)->m.list.length<=400->ab9 m->m.how=0->(0<m.list.length\/xs≠[])->RightC x
 |[],i,m,x,j,e,hm,hs,h0,hne=>by
  unfold Ko at e
  split at e
  ·rename_i hok
   cases e
   obtain⟨c1,c2,c3⟩:=AU hok
   have:=Ak c1
   exact⟨hok,by rcases hne with h|h;exact h;exact absurd rfl h,⟨hf,by omega,hs.1,by omega,hs.2,by omega⟩,h8⟩
  ·cases e
 |y::r,i,m,x,j,e,hm,hs,h0,hne=>by
  unfold Ko at e
  simp only at e
  have le:=aft (p:=p) (v:=y) hm
  split at e
  ·cases e
  split at e
  ·rename_i h;have:=congrArg (fun r=>r.2.1) e;exact absurd this h
  ·rename_i h
   have h:(WL p y m).how=0:=by omega
   exact XU hf h8 r (i+1) _ e le.four (adA hf hm hs) h (.inl (by have:=le.grew h;omega))
theorem aaD {p:List Nd}(hf:Cu p)(h8:p.length<=800){xs:List Int}(hne:xs≠[])(h:(Ru p xs).2.1=0):RightC (Ru p xs).1:=by
 unfold Ru at h⊢
 split at h
 ·rename_i hh
  rw[aG hh]
  generalize hg:Ko p xs.length xs 0 ⟨[],[],0⟩=g at h⊢
  obtain⟨x,a,j⟩:=g
  simp only at h
  subst h
  exact XU hf h8 xs 0 ⟨[],[],0⟩ hg (by simp) ⟨fun x h=>by simp at h,fun x h=>by simp at h⟩ rfl (.inr hne)
 ·simp at h
def lastS:ByteArray:=⟨#[40,112,114,105,110,116,32,49,41]⟩
theorem af6:(Gh [] lastS.data.toList).2.2.1=0/\(Ru (Gh [] lastS.data.toList).1 (Gh [] lastS.data.toList).2.1).2.1=0:=by decide +kernel
theorem Kv:Cu []:=fun x h=>by simp at h
theorem Yq (l:List UInt8):Cu (Gh [] l).1/\(Gh [] l).1.length<=800/\(Gh [] l).2.1.length<=800:=by
 unfold Gh
 rw[aD (by decide)]
 by_cases h4:400<l.length
 ·rw[aG h4];exact⟨Kv,by simp,by simp⟩
 rw[aD h4]
 unfold aee
 cases hr:FT l (l.length+1) 0 [] (0,[]) [] with
 |err c a=>exact⟨Kv,by simp,by simp⟩
 |ok q row=>
  have h1:=MZ (l:=l) (by omega) (l.length+1) 0 [] (0,[]) [] (by omega) (by simp only[phi,eL,List.sum_nil,lnN];omega) Kv q row hr
  have h2:=KJ (l:=l) (l.length+1) 0 [] (0,[]) [] (by omega) q row hr
  simp only[phi,eL,List.sum_nil,lnN]at h2
  simp only
  split
  ·exact⟨h1.1,by simp only;omega,by simp only;omega⟩
  ·exact⟨Kv,by simp,by simp⟩
def ag7 (v:D):Prop:=∃x:Cd,v=oCd x/\RightC x
section
variable {b:List Int}
theorem aeb (s:ByteArray):∃R C,V 191 [.agg [.rs (5,0) []],.str s]=aad R/\V 193 [eP R.1,.rs (1,0) (R.2.1.map eI)]=XT C/\(Hd s->R.2.2.1=0->C.2.1=0->RightC C.1):=by
 have h1:V 191 [.agg [.rs (5,0) []],.str (mk s.data.toList)]=_:=Uq Kv (by simp) s.data.toList
 rw[VZ]at h1
 obtain⟨r1,r2,r3⟩:=Yq s.data.toList
 exact⟨Gh [] s.data.toList,Ru (Gh [] s.data.toList).1 (Gh [] s.data.toList).2.1,h1,PE r1 (by omega) (by omega),fun hh h h'=>aaD r1 r2 (abG hh h) h'⟩
theorem af5:∃s:ByteArray,s=⟨#[40,112,114,105,110,116,32,49,41]⟩/\Hd s/\(Gh [] s.data.toList).2.2.1=0/\(Ru (Gh [] s.data.toList).1 (Gh [] s.data.toList).2.1).2.1=0:=⟨lastS,rfl,⟨40,_,rfl,by decide⟩,af6⟩
theorem aec:∃R C,V 191 [.agg [.rs (5,0) []],.str ⟨#[40,112,114,105,110,116,32,49,41]⟩]=aad R/\V 193 [eP R.1,.rs (1,0) (R.2.1.map eI)]=XT C/\RightC C.1:=by
 obtain⟨s,hs,hh,l1,l2⟩:=af5
 rw[<-hs]
 have h1:V 191 [.agg [.rs (5,0) []],.str (mk s.data.toList)]=_:=Uq Kv (by simp) s.data.toList
 rw[VZ]at h1
 obtain⟨r1,r2,r3⟩:=Yq s.data.toList
 exact⟨Gh [] s.data.toList,Ru (Gh [] s.data.toList).1 (Gh [] s.data.toList).2.1,h1,PE r1 (by omega) (by omega),aaD r1 r2 (abG hh l1) l2⟩
theorem Qh (hb:b.length<4611686018427387904):∀(k i:Nat)(c:Int×Int),i+k=4->BV b c->FU b ag7 (CJ (i:Int) (b.map eB) c.1 c.2)
 |0,i,c,hi,hc=>by
  obtain⟨R,C,h1,h2,hok⟩:=aec
  rw[GV,yp (bK (by omega)),Yk h1,Se h2]
  exact Aa hc ⟨C.1,rfl,hok⟩
 |k+1,i,c,hi,hc=>by
  rw[GV,y6 (bE (by omega))]
  refine z9 (afY hb hc) fun v c1 a1 ⟨s,e,hs,hh⟩=>?_
  subst e
  obtain⟨R,C,h1,h2,hok⟩:=aeb s
  have ih:=Qh hb k (i+1) c1 (by omega) a1
  rw[zw,zn,zr,zn,zu,zn,zq,zn,zq,zF,zF]
  try dsimp only
  rw[Yk h1,Se h2]
  by_cases hr:R.2.2.1=0
  ·rw[y6 (zU hr)]
   by_cases hc0:C.2.1=0
   ·rw[y6 (zU hc0)]
    exact Aa a1 ⟨C.1,rfl,hok hh hr hc0⟩
   ·rw[yp (zT hc0),z6 (by omega)]
    exact ih
  ·rw[yp (zT hr),z6 (by omega)]
   exact ih
theorem Vj (hb:b.length<4611686018427387904){c:Int×Int}(h:BV b c):FU b ag7 (V 142 [eC b c]):=by
 rw[RL]
 exact Qh hb 4 0 c (by omega) h
structure SomeC (x:Cd):Prop where
 fits:FitsC x
 pool:x.pool.length<=3001
 list:x.list.length<=400
 defs:x.defs.length<=21
 lit:∀v,YK x.pool v 800
def ahp (v:D):Prop:=∃x:Cd,v=oCd x/\SomeC x
theorem WA {x:Cd}(h:RightC x):SomeC x:=by
 obtain⟨c1,c2,c3⟩:=AU h.ok
 have:=Ak c1
 exact⟨h.fits,by omega,c2,by omega,fun v=>OU (aa9 x.pool v) h.small⟩
theorem SC {x:Cd}(h:SomeC x)(k:Nat){y:In}(hy:y.s.size<4611686018427387904):SomeC ⟨x.pool,x.list.set k y,x.defs⟩:=by
 obtain⟨f,p,l,d,t⟩:=h
 refine⟨⟨f.pool,f.plen,?_,by simpa using f.llen,f.defs,f.dlen⟩,p,by simpa using l,d,t⟩
 intro z hz
 rcases List.mem_or_eq_of_mem_set hz with hz|rfl
 ·exact f.list z hz
 ·exact hy
end
end
end Go.Eng
/-! draws of code,mostly right -/
namespace Go.Eng
open Go.Proofs Go.Proofs.Tryz
set_option maxHeartbeats 4000000

section
variable {b:List Int}
theorem adL (hb:b.length<4611686018427387904){c:Int×Int}(h:BV b c):FU b ahp (V 74 [eC b c]):=by
 rw[Zr]
 refine z9 (Vj hb h) fun v c1 a1 ⟨x,e,hx⟩=>?_
 subst e
 have hs:=WA hx
 have hne:=hx.ne
 have hll:=hs.list
 rw[yK,zn,zt,zn,zt,zn,zt,zF,zn,zr,zn,zu,zn,zq,zn,zq,zF,zF]
 try dsimp only
 rw[lnM]
 refine z9 (Aw hb a1 _) fun v c2 a2 ⟨m,e,m0,m1⟩=>?_
 subst e
 have m1:=m1 (by simp only[ni];omega)
 obtain⟨y,hy⟩:=yM (l:=x.list) (i:=m.toNat) (by simp only[ni]at m1;omega)
 have hg:(decide (0<=m)&&decide (m<ni x.list.length))=true:=by simp only[aB,bL];exact⟨m0,m1⟩
 have hys:=hx.fits.list y (bT hy)
 have st:∀(z:In) ,List.set (x.list.map eIn) m.toNat (eIn z)=(x.list.set m.toNat z).map eIn:=fun z=>by rw[List.map_set]
 rw[zq,zn,zr,zn,zu,zn,zq,zn,zq,zF,zF]
 refine z9 (Aw hb a2 _) fun v c3 a3 ⟨n,e,n0,n1⟩=>?_
 subst e
 rw[zq,zn,zr,zn,zu,zn,zq,zn,zq,zF,zF]
 refine Ax (fun _=>?_) fun _=>Ax (fun _=>?_) fun _=>Ax (fun _=>?_) fun _=>Ax (fun _=>?_) fun _=>Ax (fun _=>?_) fun _=>Ax (fun _=>?_) fun _=>?_
 ·refine z9 (Aw hb a3 _) fun v c4 a4 ⟨u,e,u0,u1⟩=>?_
  subst e
  rw[zq,zn,zr,zn,zu,zn,zq,zn,zq,zF,zF]
  refine D8 hg ?_
  rw[zj hy,yK,zO]
  exact Aa a4 ⟨⟨x.pool,x.list.set m.toNat ⟨u,y.n,y.i,y.s⟩,x.defs⟩,congrArg (fun l=>D.agg [.os (5,0) (x.pool.map eN),.os (4,0) l,.os (3,0) (x.defs.map eDf)]) (st ⟨u,y.n,y.i,y.s⟩),SC hs _ hys⟩
 ·refine z9 (Kq hb a3 [-1,0,m,w6 (m+1),ni x.list.length,w6 (ni x.list.length+1)] (by simp)) fun v c4 a4 ⟨u,e,hu⟩=>?_
  subst e
  rw[zq,zn,zr,zn,zu,zn,zq,zn,zq,zF,zF]
  refine D8 hg ?_
  rw[zj hy,yK,zO]
  exact Aa a4 ⟨⟨x.pool,x.list.set m.toNat ⟨y.op,u,y.i,y.s⟩,x.defs⟩,congrArg (fun l=>D.agg [.os (5,0) (x.pool.map eN),.os (4,0) l,.os (3,0) (x.defs.map eDf)]) (st ⟨y.op,u,y.i,y.s⟩),SC hs _ hys⟩
 ·refine z9 (Aw hb a3 _) fun v c4 a4 ⟨u,e,u0,u1⟩=>?_
  subst e
  rw[zq,zn,zr,zn,zu,zn,zq,zn,zq,zF,zF]
  refine D8 hg ?_
  rw[zj hy,yK,zO]
  exact Aa a4 ⟨⟨x.pool,x.list.set m.toNat ⟨y.op,y.n,w6 (u-1),y.s⟩,x.defs⟩,congrArg (fun l=>D.agg [.os (5,0) (x.pool.map eN),.os (4,0) l,.os (3,0) (x.defs.map eDf)]) (st ⟨y.op,y.n,w6 (u-1),y.s⟩),SC hs _ hys⟩
 ·refine z9 (Lx hb a3 [⟨#[]⟩,⟨#[97]⟩,⟨#[65]⟩] (by simp)) fun v c4 a4 ⟨u,e,hu⟩=>?_
  subst e
  rw[zw,zn,zr,zn,zu,zn,zq,zn,zq,zF,zF]
  refine D8 hg ?_
  rw[zj hy,yK,zO]
  have hz:u.size<4611686018427387904:=by
   simp only[bN,dY,or_false]at hu
   rcases hu with rfl|rfl|rfl<;>decide
  exact Aa a4 ⟨⟨x.pool,x.list.set m.toNat ⟨y.op,y.n,y.i,u⟩,x.defs⟩,congrArg (fun l=>D.agg [.os (5,0) (x.pool.map eN),.os (4,0) l,.os (3,0) (x.defs.map eDf)]) (st ⟨y.op,y.n,y.i,u⟩),SC hs _ hz⟩
 ·refine z9 (Lx hb a3 [⟨#[102]⟩,⟨#[109,97,105,110]⟩,⟨#[122,122]⟩,⟨#[65]⟩] (by simp)) fun v c4 a4 ⟨u,e,hu⟩=>?_
  subst e
  rw[zw,zn,zr,zn,zu,zn,zq,zn,zq,zF,zF]
  refine z9 (Aw hb a4 _) fun v c5 a5 ⟨w,e,w0,w1⟩=>?_
  subst e
  rw[zq,zn,zr,zn,zu,zn,zq,zn,zq,zF,zF]
  refine z9 (Aw hb a5 _) fun v c6 a6 ⟨z,e,z0,z1⟩=>?_
  subst e
  rw[zq,zn,zr,zn,zu,zn,zq,zn,zq,zF,zF]
  have hz:u.size<4611686018427387904:=by
   simp only[bN,dY,or_false]at hu
   rcases hu with rfl|rfl|rfl|rfl<;>decide
  have ea:x.defs.map eDf++[D.agg [D.str u,iN w,iN z]]=(x.defs++[(⟨u,w,z⟩:Df)]).map eDf:=by simp
  obtain⟨c1,c2,c3⟩:=AU hx.ok
  try dsimp only
  rw[ea]
  refine D8 (bE (by rw[qA,lnM];simp only[ni,lnA,lnC,lnN];omega)) ?_
  obtain⟨f,p,l,d,t⟩:=hs
  refine Aa a6 ⟨⟨x.pool,x.list,x.defs++[⟨u,w,z⟩]⟩,rfl,⟨⟨f.pool,f.plen,f.list,f.llen,?_,by simp only[lnA,lnC,lnN];omega⟩,p,l,by simp only[lnA,lnC,lnN];omega,t⟩⟩
  intro q hq
  rcases bF.1 hq with hq|hq
  ·exact f.defs q hq
  ·rw[cH.1 hq];exact hz
 ·refine z9 (ada hb a3) fun v c4 a4 ⟨p,e,hp,hl⟩=>?_
  subst e
  rw[yK,zn,zt,zF,zn,zr,zn,zu,zn,zq,zn,zq,zF,zF]
  obtain⟨f,p',l,d,t⟩:=hs
  have ht:=fun v=>OU (afb hl v) (by omega:15<=800)
  have hl:=abC hl
  exact Aa a4 ⟨⟨p,x.list,x.defs⟩,rfl,⟨⟨Yu hp,by show p.length<_;omega,f.list,f.llen,f.defs,f.dlen⟩,hl,l,d,ht⟩⟩
 ·exact Aa a3 ⟨x,rfl,hs⟩
end
end Go.Eng
