/- the program and the reference on plain data, part 4 -/
import Derived.Test.YtkndfhaehnfnmaaGreatPart3
/-! a step of a machine: the program's side: the stack,the frames,lists -/
namespace Go.Eng
noncomputable section
open Go.Proofs Go.Proofs.Tryz
set_option maxHeartbeats 4000000

abbrev eSt (c:Cd)(m:Mc):D:=.op [.os (5,0) (m.pool.map eN),iN m.at',iN m.s,iN m.e,iN m.d,iN m.state,iN m.ask,iN m.arg,.rs (5,0) (c.pool.map eN),.rs (4,0) (c.list.map eIn),.rs (3,0) (c.defs.map eDf)]
def PJ (c:Cd)(X:Option Ret)(r:Except Int Mc):Prop:=match r with
 |.ok m=>X=some (iN 0,[eSt c m])
 |.error h=>h≠0/\∃m',X=some (iN h,[eSt c m'])
theorem MQ {p:List Nd}{v:Int}(h:InP p v):p[v.toNat]? = some (nod p v):=by
 have:v.toNat<p.length:=by omega
 simp[nod,List.getD_eq_getElem?_getD,List.getElem?_eq_getElem this]
theorem Jm {p:List Nd}(hp:Ah p){v:Int}(h:InP p v):okN (nod p v) v=true:=by
 have:=hp _ _ (MQ h)
 rwa[Int.toNat_of_nonneg h.1]at this
theorem NY {p:List Nd}(hp:Ah p){v:Int}(h:InP p v)(hk:(nod p v).kind=5\/(nod p v).kind=6\/(nod p v).kind=7):InP p (nod p v).a:=by
 rcases hk with hk|hk
 ·have:=Az (Jm hp h) hk;exact⟨by omega,by omega⟩
 ·have:=Bz (Jm hp h) hk;exact⟨by omega,by omega⟩
theorem Pw {p:List Nd}(hp:Ah p){v:Int}(h:InP p v)(hk:(nod p v).kind=5):InP p (nod p v).b:=by
 have:=Az (Jm hp h) hk;exact⟨by omega,by omega⟩
theorem aeO {p q:List Nd}{v:Int}(h:InP p v):nod (p++q) v=nod p v:=by
 have:v.toNat<p.length:=by omega
 simp[nod,List.getD_eq_getElem?_getD,List.getElem?_append_left this]
theorem Ai {p:List Nd}(q:List Nd){v:Int}(h:InP p v):InP (p++q) v:=⟨h.1,by simp only[lnA];omega⟩
section
variable {R:Type}{p:List Nd}{v:Int}
theorem Wu (h:InP p v):(decide (0<=v)&&decide (v<ni (p.map eN).length))=true:=by
 rw[lnM];simp only[ni,Bool.and_eq_true,decide_eq_true_eq];exact⟨h.1,h.2⟩
theorem FC (h:InP p v)(K:Int->Int->ByteArray->Int->Int->Option R):grd (decide (0<=v)&&decide (v<ni (p.map eN).length)) (dd (p.map eN) v.toNat fun x=>tk2 x fun n4 n7 s10 n13 n16=>(K n4 n7 s10 n13 n16))=K (nod p v).kind (nod p v).n (nod p v).s (nod p v).a (nod p v).b:=by
 rw[zJ (Wu h),zj (MQ h),MO]
theorem Nj (h:InP p v)(K:Int->Option R):grd (decide (0<=v)&&decide (v<ni (p.map eN).length)) (dd (p.map eN) v.toNat fun x=>asAgg x fun l=>dd l 0 fun y=>asI .i64 y fun n=>K n)=K (nod p v).kind:=by
 rw[zJ (Wu h),zj (MQ h),agL]
theorem acf (h:InP p v)(K:Int->Option R):grd (decide (0<=v)&&decide (v<ni (p.map eN).length)) (dd (p.map eN) v.toNat fun x=>asAgg x fun l=>dd l 1 fun y=>asI .i64 y fun n=>K n)=K (nod p v).n:=by
 rw[zJ (Wu h),zj (MQ h),agM]
theorem adh (h:InP p v)(K:Int->Option R):grd (decide (0<=v)&&decide (v<ni (p.map eN).length)) (dd (p.map eN) v.toNat fun x=>asAgg x fun l=>dd l 3 fun y=>asI .i64 y fun n=>K n)=K (nod p v).a:=by
 rw[zJ (Wu h),zj (MQ h),agO]
theorem adi (h:InP p v)(K:Int->Option R):grd (decide (0<=v)&&decide (v<ni (p.map eN).length)) (dd (p.map eN) v.toNat fun x=>asAgg x fun l=>dd l 4 fun y=>asI .i64 y fun n=>K n)=K (nod p v).b:=by
 rw[zJ (Wu h),zj (MQ h),agP]
end

theorem Jj {c:Cd}{m:Mc}(hl:m.pool.length<4294967296)(v:Int):V 185 [eSt c m,iN v]=some (.tup [],[eSt c (Je m v)]):=by
 have h:=YN hl v m.s
 rw[Qy,JA h]
 rfl
theorem Sb {c:Cd}{m:Mc}(hs:InP m.pool m.s){v:Int}{m':Mc}(h:DN m=some (v,m')):V 182 [eSt c m]=some (.tup [iN v,.bool true],[eSt c m']):=by
 unfold DN at h
 rw[JW,FC hs]
 split at h
 ·rename_i h5
  cases h
  rw[yp (zW h5)]
 ·cases h
theorem Na {c:Cd}{m:Mc}(hs:InP m.pool m.s)(h:DN m=none):V 182 [eSt c m]=some (.tup [iN 0,.bool false],[eSt c m]):=by
 unfold DN at h
 rw[JW,FC hs]
 split at h
 ·cases h
 ·rename_i h5
  rw[y6 (zX h5)]
theorem aar {m:Mc}(hp:Ah m.pool)(hs:InP m.pool m.s){v:Int}{m':Mc}(h:DN m=some (v,m')):InP m.pool v/\m'.pool=m.pool/\InP m.pool m'.s/\m'.e=m.e/\m'.d=m.d/\m'.at'=m.at'/\m'.state=m.state/\m'.ask=m.ask/\m'.arg=m.arg:=by
 unfold DN at h
 split at h
 ·rename_i h5
  cases h
  exact⟨NY hp hs (.inl h5),rfl,Pw hp hs h5,rfl,rfl,rfl,rfl,rfl,rfl⟩
 ·cases h
def alD (r:Option Int):D:=match r with|some v=>.tup [iN v,.bool true] | none=>.tup [iN 0,.bool false]
theorem PG {c:Cd}{m:Mc}(hp:Ah m.pool):∀(k:Nat) (v:Int),InP m.pool v->k<4611686018427387904 ->
  CT v (k:Int) m.at' m.s m.e m.d m.state m.ask m.arg (c.pool.map eN) (c.list.map eIn) (c.defs.map eDf) (m.pool.map eN)=some (alD (Jy m.pool k v),[eSt c m])
 |0,v,hv,hk=>by
  rw[FI,yp (decide_eq_false (by omega)),Nj hv]
  unfold Jy
  by_cases h5:(nod m.pool v).kind=5
  ·rw[if_pos h5,yp (zW h5),adh hv];rfl
  ·rw[if_neg h5,y6 (zX h5)];rfl
 |k+1,v,hv,hk=>by
  have hw:w6 (((k+1:Nat):Int)-1)=(k:Int):=by rw[w64 (by omega) (by omega)];omega
  rw[FI,y6 (decide_eq_true (by omega)),Nj hv]
  unfold Jy
  by_cases h5:(nod m.pool v).kind=5
  ·have ih:=PG (c:=c) hp k (nod m.pool v).b (Pw hp hv h5) (by omega)
   rw[if_pos h5,yp (zW h5),adi hv,hw,ih]
  ·rw[if_neg h5,y6 (zX h5)];rfl
theorem Vj {c:Cd}{m:Mc}(hp:Ah m.pool){v:Int}(hv:InP m.pool v){n:Int}(h0:0<=n)(h1:n<4611686018427387904):V 207 [eSt c m,iN v,iN n]=some (alD (Jy m.pool n.toNat v),[eSt c m]):=by
 have:=PG (c:=c) hp n.toNat v hv (by omega)
 rw[Int.toNat_of_nonneg h0]at this
 rw[Pe]
 exact this
theorem QO {p:List Nd}(hp:Ah p):∀(k:Nat) (v a:Int),InP p v->Jy p k v=some a->InP p a
 |0,v,a,hv,h=>by
  unfold Jy at h
  split at h
  ·cases h;exact NY hp hv (.inl ‹_›)
  ·cases h
 |k+1,v,a,hv,h=>by
  unfold Jy at h
  split at h
  ·exact QO hp k _ a (Pw hp hv ‹_›) h
  ·cases h
theorem VY {c:Cd}{m:Mc}(hp:Ah m.pool)(hl:m.pool.length<4294967296)(he:InP m.pool m.e){o i:Int}(o0:0<=o)(o1:o<4611686018427387904)(i0:0<=i)(i1:i<4611686018427387904) :
  PJ c (V 186 [eSt c m,iN o,iN i]) (Tj m o i):=by
 have h1:=Vj (c:=c) hp he o0 o1
 rw[MJ]
 unfold Tj
 cases e1:Jy m.pool o.toNat m.e with
 |none=>
  rw[e1]at h1;simp only[alD]at h1
  exact⟨by decide,m,by rw[Fx h1];rfl⟩
 |some fr=>
  rw[e1]at h1;simp only[alD]at h1
  have h2:=Vj (c:=c) hp (QO hp _ _ _ he e1) i0 i1
  rw[Fx h1,Bool.not_true,y0]
  cases e2:Jy m.pool i.toNat fr with
  |none=>
   rw[e2]at h2;simp only[alD]at h2
   simp only[e2]
   exact⟨by decide,m,by rw[Fx h2];rfl⟩
  |some v=>
   rw[e2]at h2;simp only[alD]at h2
   simp only[e2]
   have h3:=Jj (c:=c) hl v
   show _=_
   rw[Fx h2,Bool.not_true,y0,Ct h3]

theorem abS {p:List Nd}(hp:Ah p):∀(k:Nat) (v:Int),InP p v->∀x∈(Gq p k v).1,InP p x
 |0,v,hv,x,hx=>by simp[Gq]at hx
 |k+1,v,hv,x,hx=>by
  unfold Gq at hx
  split at hx
  ·rename_i h5
   rcases List.mem_cons.1 hx with rfl|hx
   ·exact NY hp hv (.inl h5)
   ·exact abS hp k _ (Pw hp hv h5) x hx
  ·simp at hx
theorem ZO {p:List Nd}:∀(k:Nat) (v:Int),(Gq p k v).1.length<=k
 |0,v=>by simp[Gq]
 |k+1,v=>by
  unfold Gq
  split
  ·have:=ZO (p:=p) k (nod p v).b;simp only[lnC];omega
  ·simp
theorem Se {p:List Nd}(hp:Ah p)(hl:p.length<4294967290):∀(k:Nat) (v:Int) (acc:List Int),InP p v->v<k->acc.length+k<4294967296 ->
  Dw v (acc.map eI) (p.map eN)=some (.tup [.os (1,0) ((acc++(Gq p k v).1).map eI),.bool (Gq p k v).2],[rP p])
 |0,v,acc,hv,hk,ha=>by omega
 |k+1,v,acc,hv,hk,ha=>by
  rw[My,Nj hv]
  unfold Gq
  by_cases h5:(nod p v).kind=5
  ·have hb:=Az (Jm hp hv) h5
   have ih:=Se hp hl k (nod p v).b (acc++[(nod p v).a]) (Pw hp hv h5) (by omega) (by simp only[lnA,lnC,lnN];omega)
   have ea:acc.map eI++[iN (nod p v).a]=(acc++[(nod p v).a]).map eI:=by simp
   have hlim:decide (ni ((acc++[(nod p v).a]).map eI).length<=LIM)=true:=decide_eq_true (by rw[qA];simp only[ni,lnM,lnA,lnC,lnN];omega)
   rw[if_pos h5,y6 (zU h5),adh hv,ea,zJ hlim,zO,adi hv,ih]
   simp
  ·rw[if_neg h5,yp (zT h5),Nj hv]
   simp
theorem aax {p:List Nd}(hp:Ah p)(hl:p.length<2147483648){v:Int}(hv:InP p v):V 119 [rP p,iN v]=some (.tup [.os (1,0) ((Bc p v).1.map eI),.bool (Bc p v).2],[rP p]):=by
 have:=Se hp (by omega) (v.toNat+1) v [] hv (by omega) (by simp only[lnN];omega)
 rw[Qv]
 exact this
end
end Go.Eng
/-! which nodes are alike: both sides -/
namespace Go.Eng
noncomputable section
open Go.Proofs Go.Proofs.Tryz
set_option maxHeartbeats 4000000

theorem ndEq_iff {x y:Nd}:GL x y=true↔x=y:=by
 unfold GL
 rw[DK]
 constructor
 ·intro h
  simp only[Bool.and_eq_true,beq_iff_eq,decide_eq_true_eq]at h
  obtain⟨h1,h2,h3,h4,h5⟩:=h
  cases x;cases y
  simp only at h1 h2 h3 h4 h5
  subst h1;subst h2;subst h3;subst h4;subst h5
  rfl
 ·rintro rfl
  simp
abbrev kC (y:Nd):List D:=[iN y.kind,iN y.n,.str y.s,iN y.a,iN y.b]
theorem adM (x y:Nd):kn (kC x) (kC y)=GL y x:=by
 have e:∀a b:Int,(a==b)=(b==a):=fun a b=>by
  by_cases h:a=b
  ·subst h;rfl
  ·rw[zT h,zT (fun e=>h e.symm)]
 have e2:kJ x.s y.s=kJ y.s x.s:=by
  rw[DK,DK]
  exact decide_eq_decide.2 ⟨Eq.symm,Eq.symm⟩
 simp only[kn,qK,GL,Bool.and_true]
 rw[e x.kind,e x.n,e x.a,e x.b,e2]
def Wk (x:D)(q:List D):Option Int:=match x with
 |.tup [.agg ks,.int _ v]=>if kn q ks=true then some v else none
 |_=>none
theorem NV (x:D)(r q:List D):cT (x::r) q=match Wk x q with|some v=>some v|none=>cT r q:=by
 by_cases hx:∃ks k v,x=.tup [.agg ks,.int k v]
 ·obtain⟨ks,k,v,rfl⟩:=hx
  simp only[cT,Wk]
  cases kn q ks<;>rfl
 ·have e1:Wk x q=none:=by
   unfold Wk
   split
   ·exact absurd ⟨_,_,_,rfl⟩ hx
   ·rfl
  rw[e1,cT]
  intro ks k v h
  exact hx ⟨ks,k,v,h⟩
theorem Uw (key q:List D)(v:Int):∀xs:List D,cT (xf xs key v) q=match cT xs q with|some u=>some u|none=>if kn q key=true then some v else none
 |[]=>by
  show cT [_] q=_
  rw[NV]
  simp only[Wk,cT]
  cases kn q key<;>rfl
 |x::xs=>by
  have ih:=Uw key q v xs
  show cT (x::xf xs key v) q=_
  rw[NV,NV,ih]
  cases Wk x q<;>rfl
def Mw (ents:List D)(keys:List Nd):Prop:=∀x:Nd,cT ents (kC x)=(keys.findIdx? (fun y=>GL y x)).map (fun k=>(k:Int))
theorem aa9:Mw [] []:=fun x=>by simp[cT]
theorem Wl (keys:List Nd)(y x:Nd):(keys++[y]).findIdx? (fun z=>GL z x)=match keys.findIdx? (fun z=>GL z x) with|some k=>some k|none=>if GL y x=true then some keys.length else none:=by
 rw[List.findIdx?_append]
 cases h:keys.findIdx? (fun z=>GL z x) with
 |some k=>simp
 |none=>
  simp only[Option.none_or,List.findIdx?_cons,List.findIdx?_nil]
  cases GL y x<;>simp
theorem aba {ents:List D}{keys:List Nd}(h:Mw ents keys){y:Nd}{k:Nat}(hk:keys.findIdx? (fun z=>GL z y)=some k):Mw ents (keys++[y]):=by
 intro x
 rw[h x,Wl]
 cases hx:keys.findIdx? (fun z=>GL z x) with
 |some j=>rfl
 |none=>
  simp only
  cases hyx:GL y x with
  |false=>simp
  |true=>
   rw[ndEq_iff.1 hyx,hx]at hk
   cases hk
theorem aa8 {ents:List D}{keys:List Nd}(h:Mw ents keys){y:Nd}(_:keys.findIdx? (fun z=>GL z y)=none):Mw (xf ents (kC y) keys.length) (keys++[y]):=by
 intro x
 rw[Uw,h x,Wl]
 cases hx:keys.findIdx? (fun z=>GL z x) with
 |some j=>rfl
 |none=>
  simp only[adM]
  cases hyx:GL y x<;>simp
def clV (keys:List Nd)(y:Nd)(i:Nat):Int:=match keys.findIdx? (fun z=>GL z y) with|some k=>(k:Int)|none=>(i:Int)
theorem ZK {l:List Int}(h:l.length<4294967290)(x:Int):decide (ni (l.map eI++[iN x]).length<=LIM)=true:=
 decide_eq_true (by rw[qA];simp only[ni,lnA,lnM,lnC,lnN];omega)
theorem Qt {ents:List D}{keys:List Nd}{out:List Int}{i:Nat}(h:Mw ents keys)(ho:out.length=i)(hk:keys.length=i)(hl:i<4294967290)(a b:Int)(s:ByteArray)(c d:Int)(F:List D->List D->Option Ret) :
  ∃ents',Mw ents' (keys++[⟨a,b,s,c,d⟩])/\br (!jx ents [iN a,iN b,.str s,iN c,iN d])
   (grd (!jx ents [iN a,iN b,.str s,iN c,iN d]) (nam (xf ents [iN a,iN b,.str s,iN c,iN d] (i:Int)) fun l21=>grd (decide (ni (out.map eI++[iN (i:Int)]).length<=LIM)) (nam (out.map eI++[iN (i:Int)]) fun l22=>F l21 l22)))
   (grd (decide (ni (out.map eI++[iN (od ents [iN a,iN b,.str s,iN c,iN d])]).length<=LIM)) (nam (out.map eI++[iN (od ents [iN a,iN b,.str s,iN c,iN d])]) fun l23=>F ents l23)) =
   F ents' ((out++[clV keys ⟨a,b,s,c,d⟩ i]).map eI):=by
 have hx:=h ⟨a,b,s,c,d⟩
 have el:∀v:Int,out.map eI++[iN v]=(out++[v]).map eI:=fun v=>by simp
 unfold clV
 cases hf:keys.findIdx? (fun z=>GL z ⟨a,b,s,c,d⟩) with
 |some k=>
  rw[hf]at hx
  obtain⟨e1,e2⟩:=xe (xs:=ents) (ks:=[iN a,iN b,.str s,iN c,iN d]) hx
  refine⟨ents,aba h hf,?_⟩
  rw[e2,e1,Bool.not_true,y0,zJ (ZK (by omega) _),zO,el]
 |none=>
  rw[hf]at hx
  obtain⟨e1,e2⟩:=xd (xs:=ents) (ks:=[iN a,iN b,.str s,iN c,iN d]) hx
  refine⟨_,aa8 h hf,?_⟩
  rw[e2,Bool.not_false,zy,zd,zO,zJ (ZK (by omega) _),zO,el,hk]
theorem D3 {R:Type}{l:List Int}{v:Int}(h0:0<=v)(h1:v<(l.length:Int))(K:Int->Option R):grd (decide (0<=v)&&decide (v<ni (l.map eI).length)) (dd (l.map eI) v.toNat fun x=>asI .i64 x fun n=>K n)=K (l.getD v.toNat 0):=by
 obtain⟨x,hx⟩:=yM (l:=l) (i:=v.toNat) (by omega)
 rw[zJ (by rw[lnM];simp only[ni,Bool.and_eq_true,decide_eq_true_eq];exact⟨h0,h1⟩),zj hx,zq,List.getD_eq_getElem?_getD,hx];rfl
theorem Rq (x:Nd)(r:List Nd)(out:List Int)(keys:List Nd):MG (x::r) out keys=MG r (out++[clV keys (Ay out x) out.length]) (keys++[Ay out x]):=rfl
theorem Pp {p:List Nd}(hp:Ah p)(hl:p.length<4294967290):∀(k i:Nat) (ents:List D) (keys:List Nd) (out:List Int),i+k=p.length->out.length=i->keys.length=i->Mw ents keys ->
  Al (p.map eN) (ni (p.map eN).length) (i:Int) ents (out.map eI)=some (.os (1,0) ((MG (p.drop i) out keys).1.map eI),[])
 |0,i,ents,keys,out,hi,ho,hk,h=>by
  rw[JM,yp (by rw[lnM];exact zI (by omega)),List.drop_of_length_le (by omega)]
  rfl
 |k+1,i,ents,keys,out,hi,ho,hk,h=>by
  obtain⟨x,hx⟩:=yM (l:=p) (i:=i) (by omega)
  have hxo:=hp i x hx
  have ih:=fun ents keys out ho hk h=>Pp hp hl k (i+1) ents keys out (by omega) ho hk h
  rw[JM,y6 (by rw[lnM];exact zN (by omega)),zJ (by rw[lnM];exact zM (by omega)),Int.toNat_natCast,zj hx,MO,vc hx,Rq,z6 (by omega),ho]
  have fin:∀(y:Nd) (X:Option Ret),y=Ay out x->(∃ents',Mw ents' (keys++[y])/\X=Al (p.map eN) (ni (p.map eN).length) ((i+1:Nat):Int) ents' ((out++[clV keys y i]).map eI)) ->
    X=some (.os (1,0) ((MG (p.drop (i+1)) (out++[clV keys (Ay out x) i]) (keys++[Ay out x])).1.map eI),[]):=by
   rintro y X rfl ⟨ents',h1,rfl⟩
   exact ih ents' _ _ (by simp[ho]) (by simp[hk]) h1
  by_cases h5:x.kind=5
  ·have hb:=Az hxo h5
   rw[y6 (zU h5),D3 hb.1 (by omega),D3 hb.2.2.1 (by omega)]
   exact fin ⟨x.kind,x.n,x.s,out.getD x.a.toNat 0,out.getD x.b.toNat 0⟩ _ (by simp only[Ay,h5,if_true]) (Qt h ho hk (by omega) x.kind x.n x.s _ _ fun e o=>Al (p.map eN) (ni (p.map eN).length) ((i+1:Nat):Int) e o)
  ·rw[yp (zT h5)]
   by_cases h6:x.kind=6
   ·have hb:=Bz hxo (.inl h6)
    rw[y6 (zU h6),y6 (zU h6),D3 hb.1 (by omega)]
    exact fin ⟨x.kind,x.n,x.s,out.getD x.a.toNat 0,x.b⟩ _ (by simp only[Ay,h6,true_or,if_true];simp) (Qt h ho hk (by omega) x.kind x.n x.s _ x.b fun e o=>Al (p.map eN) (ni (p.map eN).length) ((i+1:Nat):Int) e o)
   ·rw[yp (zT h6)]
    by_cases h7:x.kind=7
    ·have hb:=Bz hxo (.inr h7)
     rw[y6 (zU h7),D3 hb.1 (by omega)]
     exact fin ⟨x.kind,x.n,x.s,out.getD x.a.toNat 0,x.b⟩ _ (by simp only[Ay,h7];simp) (Qt h ho hk (by omega) x.kind x.n x.s _ x.b fun e o=>Al (p.map eN) (ni (p.map eN).length) ((i+1:Nat):Int) e o)
    ·rw[yp (zT h7)]
     exact fin x _ (by simp only[Ay,h5,h6,h7,if_false,or_self]) (Qt h ho hk (by omega) x.kind x.n x.s x.a x.b fun e o=>Al (p.map eN) (ni (p.map eN).length) ((i+1:Nat):Int) e o)
theorem ac0 {p:List Nd}(hp:Ah p)(hl:p.length<4294967290):V 247 [eP p]=some (.os (1,0) ((Fq p).map eI),[]):=by
 rw[Vp]
 exact Pp hp hl p.length 0 [] [] [] (Nat.zero_add _) rfl rfl aa9
theorem Y8:∀(r:List Nd)(out:List Int)(keys:List Nd),(MG r out keys).1.length=out.length+r.length
 |[],out,keys=>rfl
 |x::r,out,keys=>by
  rw[Rq,Y8 r];simp only[lnA,lnC,lnN];omega
theorem Qr (p:List Nd):(Fq p).length=p.length:=by
 unfold Fq;rw[Y8];simp
def ab1 (p:List Nd)(a b:Int):Bool:=Af p&&(Jx p a&&(Jx p b&&PC p a b))
theorem aat {p:List Nd}(hf:Du p)(hl:p.length<4611686018427387904)(a b:Int):V 242 [eP p,iN a,iN b]=some (.bool (ab1 p a b),[]):=by
 have h1:=IG hf hl
 have h2:=Jh hl a
 have h3:=Jh hl b
 rw[aaW,Sf h1]
 unfold ab1 Jx
 cases e1:Af p with
 |false=>rfl
 |true=>
  have hlen:=Aq e1
  have h4:=ac0 (okPool_iff.1 e1).1 (by omega)
  rw[Bool.not_true,y0,Oh h2]
  cases e2:wi a 0 ((p.length:Int)-1) with
  |false=>rfl
  |true=>
   rw[Bool.not_true,y0,Oh h3]
   cases e3:wi b 0 ((p.length:Int)-1) with
   |false=>rfl
   |true=>
    have b2:=wi_iff.1 e2
    have b3:=wi_iff.1 e3
    rw[Bool.not_true,y0,Yr h4,D3 b2.1 (by rw[Qr];omega),D3 b3.1 (by rw[Qr];omega)]
    rfl

theorem aeN (x:Nd){R:Type}(K:Int->Int->ByteArray->Int->Int->Option R):tk2 (eN x) (fun n4 n7 s10 n13 n16=>(K n4 n7 s10 n13 n16))=K x.kind x.n x.s x.a x.b:=rfl
theorem abP {keys:List Nd}(h:keys.length<4294967290)(y:Nd):decide (ni (keys.map eN++[eN y]).length<=LIM)=true:=
 decide_eq_true (by rw[qA];simp only[ni,lnA,lnM,lnC,lnN];omega)
theorem OC {p keys:List Nd}{out:List Int}{i:Nat}(hi:i<4294967290)(hk:keys.length=i)(ho:out.length=i)(y:Nd):∀(k j:Nat),j+k=i->(∀t,t<j->∀z,keys[t]? = some z->GL z y=false) ->
  AL (i:Int) (i:Int) (j:Int) (p.map eN) (out.map eI) (keys.map eN) y.kind y.n y.s y.a y.b=Cw ((i+1:Nat):Int) (p.map eN) ((out++[clV keys y i]).map eI) ((keys++[y]).map eN)
 |0,j,hj,hn=>by
  have hnone:keys.findIdx? (fun z=>GL z y)=none:=by
   rw[List.findIdx?_eq_none_iff]
   intro z hz
   obtain⟨t,ht⟩:=List.getElem?_of_mem hz
   exact hn t (by have:=aQ ht;omega) z ht
  have ek:keys.map eN++[D.agg [iN y.kind,iN y.n,D.str y.s,iN y.a,iN y.b]]=(keys++[y]).map eN:=by simp
  have el:out.map eI++[iN (i:Int)]=(out++[clV keys y i]).map eI:=by simp[clV,hnone]
  have hkl:decide (ni ((keys++[y]).map eN).length<=LIM)=true:=by have:=abP (keys:=keys) (by omega) y;simpa using this
  have hol:=ZK (l:=out) (by omega) (i:Int)
  rw[GV,yp (decide_eq_false (by omega)),ek,zJ hkl,zO,zJ hol,zO,el,z6 (by omega)]
 |k+1,j,hj,hn=>by
  obtain⟨z,hz⟩:=yM (l:=keys) (i:=j) (by omega)
  have ek:keys.map eN++[D.agg [iN y.kind,iN y.n,D.str y.s,iN y.a,iN y.b]]=(keys++[y]).map eN:=by simp
  have hkl:decide (ni ((keys++[y]).map eN).length<=LIM)=true:=by have:=abP (keys:=keys) (by omega) y;simpa using this
  have hol:=ZK (l:=out) (by omega) (j:Int)
  rw[GV,y6 (decide_eq_true (by omega)),zJ (by rw[lnM];exact zM (by omega)),Int.toNat_natCast,zj hz,aeN]
  have et:(z.kind==y.kind&&(z.n==y.n&&(kJ z.s y.s&&(z.a==y.a&&(z.b==y.b&&true)))))=GL z y:=by simp[GL]
  rw[et]
  cases hq:GL z y with
  |false=>
   rw[y0,z6 (by omega)]
   refine OC hi hk ho y k (j+1) (by omega) (fun t ht u hu=>?_)
   rcases Nat.lt_or_ge t j with h|h
   ·exact hn t h u hu
   ·have:t=j:=by omega
    subst this
    rw[hz]at hu;cases hu;exact hq
  |true=>
   have hsome:keys.findIdx? (fun z=>GL z y)=some j:=by
    rw[List.findIdx?_eq_some_iff_getElem]
    have hlt:=aQ hz
    refine⟨hlt,?_,fun t ht=>?_⟩
    ·rw[List.getElem?_eq_getElem hlt]at hz;cases hz;exact hq
    ·have htl:t<keys.length:=by omega
     have:=hn t ht keys[t] (List.getElem?_eq_getElem htl)
     simp[this]
   have el:out.map eI++[iN (j:Int)]=(out++[clV keys y i]).map eI:=by simp[clV,hsome]
   rw[zy,ek,zJ hkl,zO,zJ hol,zO,el,z6 (by omega)]
theorem PD {p:List Nd}(hp:Ah p)(hl:p.length<4294967290):∀(k i:Nat) (keys:List Nd) (out:List Int),i+k=p.length->out.length=i->keys.length=i ->
  Cw (i:Int) (p.map eN) (out.map eI) (keys.map eN)=some (.os (1,0) ((MG (p.drop i) out keys).1.map eI),[])
 |0,i,keys,out,hi,ho,hk=>by
  rw[IU,yp (by rw[lnM];exact zI (by omega)),List.drop_of_length_le (by omega)]
  rfl
 |k+1,i,keys,out,hi,ho,hk=>by
  obtain⟨x,hx⟩:=yM (l:=p) (i:=i) (by omega)
  have hxo:=hp i x hx
  rw[IU,y6 (by rw[lnM];exact zN (by omega)),zJ (by rw[lnM];exact zM (by omega)),Int.toNat_natCast,zj hx,MO,vc hx,Rq,ho]
  have fin:∀(y:Nd),y=Ay out x->AL (i:Int) (i:Int) 0 (p.map eN) (out.map eI) (keys.map eN) y.kind y.n y.s y.a y.b=some (.os (1,0) ((MG (p.drop (i+1)) (out++[clV keys (Ay out x) i]) (keys++[Ay out x])).1.map eI),[]):=by
   rintro y rfl
   have h1:=OC (p:=p) (i:=i) (by omega) hk ho (Ay out x) i 0 (Nat.zero_add _) (fun t ht=>by omega)
   rw[Int.natCast_zero]at h1
   rw[h1]
   exact PD hp hl k (i+1) _ _ (by omega) (by simp[ho]) (by simp[hk])
  by_cases h5:x.kind=5
  ·have hb:=Az hxo h5
   rw[y6 (zU h5),D3 hb.1 (by omega),D3 hb.2.2.1 (by omega)]
   exact fin ⟨x.kind,x.n,x.s,out.getD x.a.toNat 0,out.getD x.b.toNat 0⟩ (by simp only[Ay,h5,if_true])
  ·rw[yp (zT h5)]
   by_cases h6:x.kind=6
   ·have hb:=Bz hxo (.inl h6)
    rw[y6 (zU h6),y6 (zU h6),D3 hb.1 (by omega)]
    exact fin ⟨x.kind,x.n,x.s,out.getD x.a.toNat 0,x.b⟩ (by simp only[Ay,h6];simp)
   ·rw[yp (zT h6)]
    by_cases h7:x.kind=7
    ·have hb:=Bz hxo (.inr h7)
     rw[y6 (zU h7),D3 hb.1 (by omega)]
     exact fin ⟨x.kind,x.n,x.s,out.getD x.a.toNat 0,x.b⟩ (by simp only[Ay,h7];simp)
    ·rw[yp (zT h7)]
     exact fin x (by simp only[Ay,h5,h6,h7,if_false,or_self])
theorem aav {p:List Nd}(hp:Ah p)(hl:p.length<4294967290):V 252 [eP p]=some (.os (1,0) ((Fq p).map eI),[]):=by
 have h:=PD hp hl p.length 0 [] [] (Nat.zero_add _) rfl rfl
 rw[Int.natCast_zero]at h
 rw[SU]
 exact h
end
end Go.Eng
/-! what is built in: both sides -/
namespace Go.Eng
noncomputable section
open Go.Proofs Go.Proofs.Tryz
set_option maxHeartbeats 4000000

theorem IZ {R:Type}{l:List Int}{v x:Int}(h0:0<=v)(h:l[v.toNat]? = some x)(K:Int->Option R):grd (decide (0<=v)&&decide (v<ni (l.map eI).length)) (dd (l.map eI) v.toNat fun x=>asI .i64 x fun n=>K n)=K x:=by
 have:=aQ h
 rw[D3 h0 (by omega),List.getD_eq_getElem?_getD,h];rfl
theorem BQ {R:Type}{a:Int}{r:List Int}(K:Int->Option R):grd (decide ((0:Nat)<=0)&&decide ((0:Int)<ni ((a::r).map eI).length)) (dd ((a::r).map eI) 0 fun x=>asI .i64 x fun n=>K n)=K a:=IZ (l:=a::r) (v:=0) (by omega) rfl K
theorem GK {R:Type}{a b:Int}{r:List Int}(K:Int->Option R):grd (decide ((0:Nat)<=1)&&decide ((1:Int)<ni ((a::b::r).map eI).length)) (dd ((a::b::r).map eI) 1 fun x=>asI .i64 x fun n=>K n)=K b:=IZ (l:=a::b::r) (v:=1) (by omega) rfl K
theorem Yh {R:Type}{a b c:Int}{r:List Int}(K:Int->Option R):grd (decide ((0:Nat)<=2)&&decide ((2:Int)<ni ((a::b::c::r).map eI).length)) (dd ((a::b::c::r).map eI) 2 fun x=>asI .i64 x fun n=>K n)=K c:=IZ (l:=a::b::c::r) (v:=2) (by omega) rfl K
theorem afw {R:Type}{a b c d:Int}{r:List Int}(K:Int->Option R):grd (decide ((0:Nat)<=3)&&decide ((3:Int)<ni ((a::b::c::d::r).map eI).length)) (dd ((a::b::c::d::r).map eI) 3 fun x=>asI .i64 x fun n=>K n)=K d:=IZ (l:=a::b::c::d::r) (v:=3) (by omega) rfl K
theorem MR:nz ⟨#[]⟩=true:=by unfold nz;rw[DK];simp
theorem Te {n:Int}:V 223 [iN n]=some (iN (Am n),[]):=by
 rw[TP,AJ (AK _ _ _)]
 unfold Am
 cases h:wi n 1 19 with
 |false=>rfl
 |true=>
  have hb:=wi_iff.1 h
  rw[Bool.not_true,y0,w64 (n:=n-1) (by omega) (by omega)]
  exact D3 (l:=prArgs) (by omega) (by show n-1<19;omega) _
theorem Th {n:Int}:V 245 [iN n]=some (iN (Am n),[]):=by
 rw[TZ,Cn (CR _ _ _)]
 unfold Am
 cases h:wi n 1 19 with
 |false=>rfl
 |true=>
  have hb:=wi_iff.1 h
  rw[Bool.not_true,y0]
  have e:prArgs.getD (n-1).toNat 0=(0::prArgs).getD n.toNat 0:=by
   have:n.toNat=(n-1).toNat+1:=by omega
   rw[this];rfl
  simp only[if_true]
  rw[e]
  exact D3 (l:=0::prArgs) (by omega) (by show n<20;omega) _
theorem aaq {R:Type}{l:List (List UInt8)}{i:Nat}{x:List UInt8}(h:l[i]? = some x)(K:ByteArray->Option R):grd (decide (0<=(i:Int))&&decide ((i:Int)<ni (l.map fun x=>D.str (mk x)).length)) (dd (l.map fun x=>D.str (mk x)) (i:Int).toNat fun x=>asS x fun n=>K n)=K (mk x):=by
 have:=aQ h
 rw[zJ (by rw[lnM];exact zM this),Int.toNat_natCast,zj h,zw]
theorem acW (a b:ByteArray):kJ a b=kJ b a:=by
 rw[DK,DK]
 exact decide_eq_decide.2 ⟨Eq.symm,Eq.symm⟩
theorem UB {l:List (List UInt8)}(hl:l.length<4611686018427387904)(s:ByteArray):∀(k i:Nat),i+k=l.length->Bv (l.map fun x=>D.str (mk x)) s (ni l.length) (i:Int)=some (iN (d9 (fun x=>kJ s (mk x)) l i),[])
 |0,i,hi=>by
  rw[Di,yp (zI (by omega)),ym (by omega)]
 |k+1,i,hi=>by
  obtain⟨x,hx⟩:=yM (l:=l) (i:=i) (by omega)
  have ih:=UB hl s k (i+1) (by omega)
  rw[Di,y6 (zN (by omega)),aaq hx]
  cases h:kJ s (mk x) with
  |true=>rw[zy,yn hx h]
  |false=>rw[y0,z6 (by omega),ih,ya hx h]
theorem MY (s:ByteArray):0<=Eo s/\Eo s<=19:=by
 unfold Eo zm
 cases h:prNames.findIdx? fun x=>kJ s (mk x) with
 |none=>simp
 |some k=>
  rw[List.findIdx?_eq_some_iff_getElem]at h
  obtain⟨hk,_⟩:=h
  have:prNames.length=19:=rfl
  simp only;omega
theorem VU (s:ByteArray):V 208 [.str s]=some (iN (Eo s),[]):=by
 have h1:V 225 [.rs (1,0) (prNames.map fun x=>D.str (mk x)),.str s]=some (iN (zm (fun x=>kJ s (mk x)) prNames),[]):=by
  have h:=UB (l:=prNames) (by decide) s prNames.length 0 (Nat.zero_add _)
  rw[yb,Int.natCast_zero]at h
  rw[Jw]
  exact h
 have hb:=MY s
 have h2:V 176 []=some (.os (1,0) (prNames.map fun x=>D.str (mk x)),[]):=SK
 unfold Eo at hb⊢
 rw[Xo,UE h2,Ja h1,w64 (by omega) (by omega)]
theorem OJ (s:ByteArray):∀(k i:Nat),i+k=19->GC s ((i+1:Nat):Int) (([]::prNames).map fun x=>D.str (mk x))=some (iN (d9 (fun x=>kJ s (mk x)) prNames i+1),[])
 |0,i,hi=>by
  have:i=19:=by omega
  subst this
  rw[Ky,yp (decide_eq_false (by omega)),ym (by decide)]
  rfl
 |k+1,i,hi=>by
  obtain⟨x,hx⟩:=yM (l:=prNames) (i:=i) (by show i<19;omega)
  have hx':([]::prNames)[i+1]? = some x:=hx
  have ih:=OJ s k (i+1) (by omega)
  rw[Ky,y6 (decide_eq_true (by omega)),aaq hx',acW]
  cases h:kJ s (mk x) with
  |true=>rw[zy,yn hx h];rfl
  |false=>rw[y0,z6 (by omega),ih,ya hx h]
theorem VX (s:ByteArray):V 232 [.str s]=some (iN (Eo s),[]):=by
 have h:=OJ s 19 0 (Nat.zero_add _)
 rw[yb]at h
 have h2:V 239 []=some (.os (1,0) (([]::prNames).map fun x=>D.str (mk x)),[]):=VG
 rw[XE,Yv h2]
 exact h
theorem Ge (b:Bool):V 241 [.bool b]=some (eN (ndB b),[]):=by
 rw[TT];cases b<;>rfl
theorem Mu (b:Bool):V 251 [.bool b]=some (eN (ndB b),[]):=by
 rw[XT];cases b<;>rfl
def Mg (n a b:Int):Nd:=if n=1 then ndI (a+b) else if n=2 then ndI (a-b) else if n=3 then ndI (a*b) else if n=4 then ndB (decide (a<b)) else ndB (a==b)
theorem Wy {a b:Int}(ha : -1000000000<=a/\a<=1000000000)(hb : -1000000000<=b/\b<=1000000000) : -1000000000000000000<=a*b/\a*b<=1000000000000000000:=by
 have h1:a.natAbs<=1000000000:=by omega
 have h2:b.natAbs<=1000000000:=by omega
 have h3:(a*b).natAbs<=1000000000*1000000000:=by rw[Int.natAbs_mul];exact Nat.mul_le_mul h1 h2
 omega
theorem ac3 {n a b:Int}(ha : -1000000000<=a/\a<=1000000000)(hb : -1000000000<=b/\b<=1000000000):V 243 [iN n,iN a,iN b]=some (eN (Mg n a b),[]):=by
 have hm:=Wy ha hb
 rw[Vu]
 unfold Mg
 by_cases h1:n=1
 ·rw[y6 (zU h1),if_pos h1,w64 (by omega) (by omega)]
 rw[yp (zT h1),if_neg h1]
 by_cases h2:n=2
 ·rw[y6 (zU h2),if_pos h2,w64 (by omega) (by omega)]
 rw[yp (zT h2),if_neg h2]
 by_cases h3:n=3
 ·rw[y6 (zU h3),if_pos h3,w64 (by omega) (by omega)]
 rw[yp (zT h3),if_neg h3]
 by_cases h4:n=4
 ·rw[y6 (zU h4),if_pos h4,Dq (Ge _)]
 rw[yp (zT h4),if_neg h4,Dq (Ge _)]
theorem aeY {x:Nd}{h:Int}(ho:okN x h=true):x.s.size<=12:=by
 have nz0:nz x.s=true->x.s.size<=12:=by
  intro e
  unfold nz at e
  rw[DK]at e
  rw[of_decide_eq_true e];decide
 have nm:Nq x.s=true->x.s.size<=12:=by
  intro e
  unfold Nq at e
  simp only[Bool.and_eq_true]at e
  have:=wi_iff.1 e.1
  omega
 unfold okN at ho
 repeat' split at ho
 all_goals first|cases ho|skip
 all_goals (simp only[Bool.and_eq_true]at ho;first|exact nz0 ho.2.1|exact nm ho.2.1)
theorem Fh {p:List Nd}(hp:Ah p):Du p:=fun x hx=>by
 obtain⟨j,hj⟩:=List.getElem?_of_mem hx
 have:=aeY (hp j x hj)
 omega
theorem Tp {x:Nd}{h:Int}(ho:okN x h=true)(hk:x.kind=3) : -1000000000<=x.n/\x.n<=1000000000:=by
 simp[okN,hk]at ho
 exact wi_iff.1 ho.1
def Ld (p:List Nd)(n:Int)(v:Int):Bool:=if n<=5 then (nod p v).kind==3 else if n=7\/n=8 then (nod p v).kind==5 else true
theorem WL {p:List Nd}{n:Int}{l:List Int}(hl:l.length<4294967290)(hv:∀v∈l,InP p v):∀(k i:Nat),i+k=l.length ->
  AI n (l.map eI) (l.map eI) (ni l.length) (i:Int) (p.map eN)=if (l.drop i).all (Ld p n)=true then AI n (l.map eI) (l.map eI) (ni l.length) (l.length:Int) (p.map eN) else some (.tup [iN (-1),iN 3],[rP p])
 |0,i,hi=>by
  have:i=l.length:=by omega
  subst this
  simp
 |k+1,i,hi=>by
  obtain⟨v,hx⟩:=yM (l:=l) (i:=i) (by omega)
  have hvi:=hv v (List.mem_of_getElem? hx)
  have ih:=WL (n:=n) hl hv k (i+1) (by omega)
  rw[IP n (l.map eI) (l.map eI) (ni l.length) (i:Int),y6 (zN (by omega)),IZ (x:=v) (by omega) (by rw[Int.toNat_natCast];exact hx),z6 (by omega),ih,vc hx,List.all_cons]
  by_cases h5:n<=5
  ·have ec:Ld p n v=((nod p v).kind==3):=by unfold Ld;rw[if_pos h5]
   rw[y6 (decide_eq_true h5),Nj hvi,ec]
   by_cases hk:(nod p v).kind=3
   ·rw[yp (zW hk),yp (zT (by omega)),yp (zT (by omega)),zU hk,Bool.true_and]
   ·rw[y6 (zX hk),zT hk,Bool.false_and];rfl
  ·rw[yp (decide_eq_false h5)]
   by_cases h7:n=7
   ·have ec:Ld p n v=((nod p v).kind==5):=by unfold Ld;rw[if_neg h5,if_pos (.inl h7)]
    rw[y6 (zU h7),Nj hvi,ec]
    by_cases hk:(nod p v).kind=5
    ·rw[yp (zW hk),zU hk,Bool.true_and]
    ·rw[y6 (zX hk),zT hk,Bool.false_and];rfl
   ·rw[yp (zT h7)]
    by_cases h8:n=8
    ·have ec:Ld p n v=((nod p v).kind==5):=by unfold Ld;rw[if_neg h5,if_pos (.inr h8)]
     rw[y6 (zU h8),Nj hvi,ec]
     by_cases hk:(nod p v).kind=5
     ·rw[yp (zW hk),zU hk,Bool.true_and]
     ·rw[y6 (zX hk),zT hk,Bool.false_and];rfl
    ·have ec:Ld p n v=true:=by unfold Ld;rw[if_neg h5,if_neg (by omega)]
     rw[yp (zT h8),ec,Bool.true_and]
def afY (p:List Nd)(r:Except Int (List Nd×Int)):Option Ret:=match r with
 |.ok (q,v)=>some (.tup [iN v,iN 0],[rP q])
 |.error h=>some (.tup [iN (-1),iN h],[rP p])
def Ig (p:List Nd)(n:Int)(l:List Int):Nd:=
 let x:=nod p (l.getD 0 0);let y:=nod p (l.getD 1 0)
 if n=6 then ndP (l.getD 0 0) (l.getD 1 0)
 else if n=9 then ndB (x.kind==1)
 else if n=10 then ndB (x.kind==5)
 else if n=11 then ndB (PC p (l.getD 0 0) (l.getD 1 0))
 else if n=12 then ndB (x.kind==2&&x.n==0)
 else Mg n x.n y.n
theorem aby {p:List Nd}(hp:Ah p)(hl:p.length<4294967290){n:Int}{l:List Int}(hv:∀v∈l,InP p v)(h12:1<=n/\n<=12)(h78:n≠7/\n≠8)(hlen:(l.length:Int)=Am n)(h11:n=11->Af p=true)
  (hk:n<=5->∀v∈l,(nod p v).kind=3):V 235 [eP p,iN n,.rs (1,0) (l.map eI)]=some (eN (Ig p n l),[]):=by
 have hpos:l≠[]:=by
  rintro rfl
  simp only[Am,lnN]at hlen
  have:n=1\/n=2\/n=3\/n=4\/n=5\/n=6\/n=7\/n=8\/n=9\/n=10\/n=11\/n=12:=by omega
  rcases this with rfl|rfl|rfl|rfl|rfl|rfl|rfl|rfl|rfl|rfl|rfl|rfl<;>cases hlen
 obtain⟨a,r,rfl⟩:∃a r,l=a::r:=by cases l with|nil=>exact absurd rfl hpos|cons a r=>exact⟨a,r,rfl⟩
 have ha:=hv a (by simp)
 have two:(n<=6\/n=11)->∃b,r=[b]:=by
  intro h
  have h2:Am n=2:=by
   have:n=1\/n=2\/n=3\/n=4\/n=5\/n=6\/n=11:=by omega
   rcases this with rfl|rfl|rfl|rfl|rfl|rfl|rfl<;>rfl
  rw[h2]at hlen
  simp only[lnC]at hlen
  match r,hlen with
  |[b],_=>exact⟨b,rfl⟩
  |[],h=>simp at h
  |_::_::_,h=>simp at h;omega
 rw[TV,BQ,FC ha]
 unfold Ig
 simp only[List.getD_cons_zero]
 by_cases h6:n=6
 ·obtain⟨b,rfl⟩:=two (by omega)
  rw[y6 (zU h6),if_pos h6,BQ,GK]
  rfl
 rw[yp (zT h6),if_neg h6]
 by_cases h9:n=9
 ·rw[y6 (zU h9),if_pos h9,Dq (Ge _)]
 rw[yp (zT h9),if_neg h9]
 by_cases h10:n=10
 ·rw[y6 (zU h10),if_pos h10,Dq (Ge _)]
 rw[yp (zT h10),if_neg h10]
 by_cases hn11:n=11
 ·obtain⟨b,rfl⟩:=two (by omega)
  have hok:=h11 hn11
  have hb:=hv b (by simp)
  have hs:=aat (p:=p) (Fh hp) (by omega) a b
  have hsf:ab1 p a b=PC p a b:=by
   have h1:Jx p a=true:=wi_iff.2 ⟨ha.1,by omega⟩
   have h2:Jx p b=true:=wi_iff.2 ⟨hb.1,by omega⟩
   simp[ab1,hok,h1,h2]
  rw[hsf]at hs
  rw[y6 (zU hn11),if_pos hn11,BQ,GK,acA hs,Dq (Ge _)]
  rfl
 rw[yp (zT hn11),if_neg hn11]
 by_cases hn12:n=12
 ·rw[y6 (zU hn12),if_pos hn12]
  cases hk2:(nod p a).kind==2 with
  |true=>rw[zy,Dq (Ge _),Bool.true_and]
  |false=>rw[y0,Dq (Ge _),Bool.false_and]
 rw[yp (zT hn12),if_neg hn12]
 obtain⟨b,rfl⟩:=two (by omega)
 have hb:=hv b (by simp)
 have k1:=hk (by omega) a (by simp)
 have k2:=hk (by omega) b (by simp)
 have hn:=ac3 (n:=n) (Tp (Jm hp ha) k1) (Tp (Jm hp hb) k2)
 rw[GK,acf hb,Yu hn]
 rfl
theorem JS {n:Int}{l:List Int}(hlen:(l.length:Int)=Am n)(h:1<=n/\n<=6\/n=11):∃a b,l=[a,b]:=by
 have h2:Am n=2:=by
  have:n=1\/n=2\/n=3\/n=4\/n=5\/n=6\/n=11:=by omega
  rcases this with rfl|rfl|rfl|rfl|rfl|rfl|rfl<;>rfl
 rw[h2]at hlen
 match l,hlen with
 |[a,b],_=>exact⟨a,b,rfl⟩
 |[],h=>simp at h
 |[_],h=>simp at h
 |_::_::_::_,h=>simp at h;omega
theorem LK {n:Int}{l:List Int}(hlen:(l.length:Int)=Am n)(h:7<=n/\n<=10\/n=12):∃a,l=[a]:=by
 have h2:Am n=1:=by
  have:n=7\/n=8\/n=9\/n=10\/n=12:=by omega
  rcases this with rfl|rfl|rfl|rfl|rfl<;>rfl
 rw[h2]at hlen
 match l,hlen with
 |[a],_=>exact⟨a,rfl⟩
 |[],h=>simp at h
 |_::_::_,h=>simp at h;omega
theorem abn {p:List Nd}(_:Ah p){n:Int}{l:List Int}(hv:∀v∈l,InP p v)(hlen:(l.length:Int)=Am n)(_:1<=n/\n<=12)(_:n≠7/\n≠8)(hw:wi (Ig p n l).n (-1000000000) 1000000000=true):okN (Ig p n l) p.length=true:=by
 have hB:∀b,okN (ndB b) p.length=true:=by intro b;cases b<;>simp[ndB,okN,wi,MR]
 unfold Ig at hw⊢
 simp only at hw⊢
 by_cases h6:n=6
 ·rw[if_pos h6]
  obtain⟨a,b,rfl⟩:=JS hlen (by omega)
  have ha:=hv a (by simp)
  have hb:=hv b (by simp)
  show (wi 0 0 0&&(nz ⟨#[]⟩&&(wi a 0 _&&wi b 0 _)))=true
  rw[wi_iff.2 ⟨ha.1,by omega⟩,wi_iff.2 ⟨hb.1,by omega⟩,MR]
  rfl
 rw[if_neg h6]at hw⊢
 by_cases h9:n=9
 ·rw[if_pos h9];exact hB _
 rw[if_neg h9]at hw⊢
 by_cases h10:n=10
 ·rw[if_pos h10];exact hB _
 rw[if_neg h10]at hw⊢
 by_cases h11:n=11
 ·rw[if_pos h11];exact hB _
 rw[if_neg h11]at hw⊢
 by_cases hn12:n=12
 ·rw[if_pos hn12];exact hB _
 rw[if_neg hn12]at hw⊢
 unfold Mg at hw⊢
 have hI:∀x,wi x (-1000000000) 1000000000=true->okN (ndI x) p.length=true:=fun x hx=>by
  show (wi x (-1000000000) 1000000000&&(nz ⟨#[]⟩&&_))=true
  rw[hx,MR];rfl
 split at hw
 ·rw[if_pos ‹_›];exact hI _ hw
 rw[if_neg ‹_›]
 split at hw
 ·rw[if_pos ‹_›];exact hI _ hw
 rw[if_neg ‹_›]
 split at hw
 ·rw[if_pos ‹_›];exact hI _ hw
 rw[if_neg ‹_›]
 split<;>exact hB _
theorem Ml {p:List Nd}{n:Int}{l:List Int}(h12:1<=n/\n<=12)(hlen:(l.length:Int)=Am n):GW p n l =
  if l.all (Ld p n)=true then (if n=7 then .ok (p,(nod p (l.getD 0 0)).a) else if n=8 then .ok (p,(nod p (l.getD 0 0)).b) else if wi (Ig p n l).n (-1000000000) 1000000000=true then .ok (p++[Ig p n l],p.length) else .error 4) else .error 3:=by
 unfold GW
 simp only
 have hBw:∀b,wi (ndB b).n (-1000000000) 1000000000=true:=by intro b;cases b<;>rfl
 by_cases h5:n<=5
 ·obtain⟨a,b,rfl⟩:=JS hlen (by omega)
  have hc:[a,b].all (Ld p n)=true↔(nod p a).kind=3/\(nod p b).kind=3:=by
   simp[Ld,h5]
  rw[if_pos h5]
  simp only[List.getD_cons_zero,List.getD_cons_succ]
  by_cases hk:(nod p a).kind=3/\(nod p b).kind=3
  ·have n7:¬n=7:=by omega
   have n8:¬n=8:=by omega
   rw[if_pos hk,if_pos (hc.2 hk),if_neg n7,if_neg n8]
   have e:Ig p n [a,b]=Mg n (nod p a).n (nod p b).n:=by
    unfold Ig
    simp only[List.getD_cons_zero,List.getD_cons_succ]
    rw[if_neg (by omega),if_neg (by omega),if_neg (by omega),if_neg (by omega),if_neg (by omega)]
   rw[e]
   rfl
  ·rw[if_neg hk,if_neg (fun h=>hk (hc.1 h))]
 rw[if_neg h5]
 by_cases h6:n=6
 ·subst h6
  have hc:l.all (Ld p 6)=true:=by simp[Ld]
  rw[hc]
  simp only[if_true,Ig]
  rfl
 rw[if_neg h6]
 by_cases h78:n=7\/n=8
 ·obtain⟨a,rfl⟩:=LK hlen (by omega)
  have hc:[a].all (Ld p n)=true↔(nod p a).kind=5:=by simp[Ld,h5,h78]
  rw[if_pos h78]
  simp only[List.getD_cons_zero]
  by_cases hk:(nod p a).kind=5
  ·rw[if_pos hk,if_pos (hc.2 hk)]
   rcases h78 with rfl|rfl<;>rfl
  ·rw[if_neg hk,if_neg (fun h=>hk (hc.1 h))]
 have hc:l.all (Ld p n)=true:=by simp[Ld,h5,h78]
 rw[if_neg h78,if_pos hc,if_neg (fun h=>h78 (.inl h)),if_neg (fun h=>h78 (.inr h))]
 unfold Ig
 simp only
 rw[if_neg h6]
 by_cases h9:n=9
 ·simp only[h9,if_true];rw[if_pos (hBw _)]
 rw[if_neg h9,if_neg h9]
 by_cases h10:n=10
 ·simp only[h10,if_true];rw[if_pos (hBw _)]
 rw[if_neg h10,if_neg h10]
 by_cases h11:n=11
 ·simp only[h11,if_true];rw[if_pos (hBw _)]
 have hn12:n=12:=by omega
 rw[if_neg h11,if_neg h11,if_pos hn12,if_pos (hBw _)]
theorem aau {p:List Nd}(hp:Ah p)(hl:p.length<4294967290){n:Int}{l:List Int}(hv:∀v∈l,InP p v)(h12:1<=n/\n<=12)(hlen:(l.length:Int)=Am n)(h11:n=11->Af p=true) :
  V 224 [rP p,iN n,.rs (1,0) (l.map eI)]=afY p (GW p n l):=by
 have hll:l.length<=2:=by
  by_cases h:n<=6\/n=11
  ·obtain⟨a,b,rfl⟩:=JS hlen (by omega);simp
  ·obtain⟨a,rfl⟩:=LK hlen (by omega);simp
 have h:=WL (n:=n) (l:=l) (by omega) hv l.length 0 (Nat.zero_add _)
 rw[Int.natCast_zero,List.drop_zero]at h
 rw[SI,lnM,h,Ml h12 hlen]
 by_cases hc:l.all (Ld p n)=true
 ·rw[if_pos hc,if_pos hc,IP,yp (zI (Nat.le_refl _))]
  by_cases h7:n=7
  ·obtain⟨a,rfl⟩:=LK hlen (by omega)
   rw[y6 (zU h7),if_pos h7,BQ,adh (hv a (by simp))]
   rfl
  rw[yp (zT h7),if_neg h7]
  by_cases h8:n=8
  ·obtain⟨a,rfl⟩:=LK hlen (by omega)
   rw[y6 (zU h8),if_pos h8,BQ,adi (hv a (by simp))]
   rfl
  rw[yp (zT h8),if_neg h8]
  have hn:=aby hp hl hv h12 ⟨h7,h8⟩ hlen h11 (fun h5 v hv'=>by
   have:=List.all_eq_true.1 hc v hv'
   simpa[Ld,h5]using this)
  rw[VN hn,AJ (AK _ _ _)]
  cases hw:wi (Ig p n l).n (-1000000000) 1000000000 with
  |false=>rw[if_neg (by simp)];rfl
  |true=>
   rw[if_pos rfl,Bool.not_true,y0,AW (Kg (by omega) (Ig p n l))]
   rfl
 ·rw[if_neg hc,if_neg hc];rfl
theorem abx {n:Int}(h5:1<=n/\n<=5){x y:Nd}(hx:x.kind=3->-1000000000<=x.n/\x.n<=1000000000)(hy:y.kind=3->-1000000000<=y.n/\y.n<=1000000000) :
  ∃z,V 250 [iN n,eN x,eN y]=some (.tup [eN (if x.kind=3/\y.kind=3/\wi (Mg n x.n y.n).n (-1000000000) 1000000000=true then Mg n x.n y.n else z),iN (if x.kind=3/\y.kind=3 then (if wi (Mg n x.n y.n).n (-1000000000) 1000000000=true then 0 else 4) else 3)],[]):=by
 have hBw:∀b,wi (ndB b).n (-1000000000) 1000000000=true:=by intro b;cases b<;>rfl
 refine⟨⟨0,0,⟨#[]⟩,0,0⟩,?_⟩
 rw[Ue]
 by_cases k1:x.kind=3
 ·rw[yp (zW k1)]
  by_cases k2:y.kind=3
  ·have a1:=hx k1
   have a2:=hy k2
   have hm:=Wy a1 a2
   have hk:x.kind=3/\y.kind=3:=⟨k1,k2⟩
   rw[yp (zW k2),if_pos hk]
   have fin:∀(q:Int),Mg n x.n y.n=ndI q->(ck6 62 [iN q,iN (-1000000000),iN 1000000000] fun b=>(br (!b) (some (D.tup [.agg [iN 0,iN 0,.str ⟨#[]⟩,iN 0,iN 0],iN 4],[])) (some (D.tup [.agg [iN 3,iN q,.str ⟨#[]⟩,iN 0,iN 0],iN 0],([]:List D))))) =
     some (D.tup [eN (if x.kind=3/\y.kind=3/\wi (Mg n x.n y.n).n (-1000000000) 1000000000=true then Mg n x.n y.n else ⟨0,0,⟨#[]⟩,0,0⟩),iN (if wi (Mg n x.n y.n).n (-1000000000) 1000000000=true then 0 else 4)],[]):=by
    intro q hq
    rw[Cn (CR _ _ _),hq]
    simp only
    cases hw:wi q (-1000000000) 1000000000 with
    |false=>rw[if_neg (by simp),if_neg (by simp)];rfl
    |true=>rw[if_pos ⟨k1,k2,rfl⟩,if_pos rfl];rfl
   have Uh:∀b,Mg n x.n y.n=ndB b->(JU 251 [.bool b] fun n4 n7 s10 n13 n16=>((some (D.tup [.agg [iN n4,iN n7,.str s10,iN n13,iN n16],iN 0],([]:List D))))) =
     some (D.tup [eN (if x.kind=3/\y.kind=3/\wi (Mg n x.n y.n).n (-1000000000) 1000000000=true then Mg n x.n y.n else ⟨0,0,⟨#[]⟩,0,0⟩),iN (if wi (Mg n x.n y.n).n (-1000000000) 1000000000=true then 0 else 4)],[]):=by
    intro b hb
    rw[Gl (Mu b),hb,if_pos ⟨k1,k2,hBw b⟩,if_pos (hBw b)]
   have w1:w6 (x.n-y.n)=x.n-y.n:=w64 (by omega) (by omega)
   have w2:w6 (x.n*y.n)=x.n*y.n:=w64 (by omega) (by omega)
   have w3:w6 (x.n+y.n)=x.n+y.n:=w64 (by omega) (by omega)
   rw[w1,w2,w3]
   by_cases c2:n=2
   ·rw[y6 (zU c2)];exact fin _ (by subst c2;rfl)
   rw[yp (zT c2)]
   by_cases c3:n=3
   ·rw[y6 (zU c3)];exact fin _ (by subst c3;rfl)
   rw[yp (zT c3)]
   by_cases c4:n=4
   ·rw[y6 (zU c4)];exact Uh _ (by subst c4;rfl)
   rw[yp (zT c4)]
   by_cases c5:n=5
   ·rw[y6 (zU c5)];exact Uh _ (by subst c5;rfl)
   rw[yp (zT c5)]
   have c1:n=1:=by omega
   exact fin _ (by subst c1;rfl)
  ·rw[y6 (zX k2),if_neg (fun h=>k2 h.2.1),if_neg (fun h=>k2 h.2)]
 ·rw[y6 (zX k1),if_neg (fun h=>k1 h.1),if_neg (fun h=>k1 h.1)]
theorem afG {p:List Nd}(hp:Ah p)(hl:p.length<4294967290){n:Int}{l:List Int}(hv:∀v∈l,InP p v)(h12:1<=n/\n<=12)(hlen:(l.length:Int)=Am n) :
  V 246 [rP p,iN n,.rs (1,0) (l.map eI)]=afY p (GW p n l):=by
 obtain⟨a,r,rfl⟩:∃a r,l=a::r:=by
  by_cases h:n<=6\/n=11
  ·obtain⟨a,b,rfl⟩:=JS hlen (by omega);exact⟨_,_,rfl⟩
  ·obtain⟨a,rfl⟩:=LK hlen (by omega);exact⟨_,_,rfl⟩
 have ha:=hv a (by simp)
 rw[aa6,BQ,FC ha]
 unfold GW
 simp only[List.getD_cons_zero]
 by_cases h5:n<=5
 ·obtain⟨a',b,e⟩:=JS hlen (by omega)
  cases e
  have hb:=hv b (by simp)
  obtain⟨z,hz⟩:=abx (n:=n) (by omega) (x:=nod p a) (y:=nod p b) (Tp (Jm hp ha)) (Tp (Jm hp hb))
  rw[y6 (decide_eq_true h5),if_pos h5,GK,FC hb,VP hz]
  simp only[List.getD_cons_zero,List.getD_cons_succ]
  by_cases hk:(nod p a).kind=3/\(nod p b).kind=3
  ·have e:(if n=1 then ndI ((nod p a).n+(nod p b).n) else if n=2 then ndI ((nod p a).n-(nod p b).n) else if n=3 then ndI ((nod p a).n*(nod p b).n) else if n=4 then ndB (decide ((nod p a).n<(nod p b).n)) else ndB ((nod p a).n==(nod p b).n))=Mg n (nod p a).n (nod p b).n:=rfl
   rw[if_pos hk,if_pos hk,e]
   by_cases hw:wi (Mg n (nod p a).n (nod p b).n).n (-1000000000) 1000000000=true
   ·have hc:(nod p a).kind=3/\(nod p b).kind=3/\wi (Mg n (nod p a).n (nod p b).n).n (-1000000000) 1000000000=true:=⟨hk.1,hk.2,hw⟩
    rw[if_pos hw,if_pos hw,yp (zW rfl)]
    simp only[if_pos hc]
    rw[Ak (AP (by omega) (Mg n (nod p a).n (nod p b).n))]
    rfl
   ·rw[if_neg hw,if_neg hw];rfl
  ·rw[if_neg hk,if_neg hk];rfl
 rw[yp (decide_eq_false h5),if_neg h5]
 by_cases h6:n=6
 ·obtain⟨a',b,e⟩:=JS hlen (by omega)
  cases e
  rw[y6 (zU h6),if_pos h6,BQ,GK,Ak (AP (by omega) (ndP a b))]
  rfl
 rw[yp (zT h6),if_neg h6]
 by_cases h8:n<=8
 ·rw[y6 (decide_eq_true h8),if_pos (by omega)]
  by_cases hk:(nod p a).kind=5
  ·rw[yp (zW hk),if_pos hk]
   by_cases h7:n=7
   ·rw[y6 (zU h7),if_pos h7];rfl
   ·rw[yp (zT h7),if_neg h7];rfl
  ·rw[y6 (zX hk),if_neg hk];rfl
 rw[yp (decide_eq_false h8),if_neg (by omega)]
 by_cases h9:n=9
 ·rw[y6 (zU h9),if_pos h9,Gl (Mu _),Ak (AP (by omega) (ndB _))];rfl
 rw[yp (zT h9),if_neg h9]
 by_cases h10:n=10
 ·rw[y6 (zU h10),if_pos h10,Gl (Mu _),Ak (AP (by omega) (ndB _))];rfl
 rw[yp (zT h10),if_neg h10]
 by_cases h11:n=11
 ·obtain⟨a',b,e⟩:=JS hlen (by omega)
  cases e
  have hb:=hv b (by simp)
  rw[y6 (zU h11),if_pos h11,UH (aav hp hl),BQ,D3 ha.1 (by rw[Qr];exact ha.2),GK,D3 hb.1 (by rw[Qr];exact hb.2),Gl (Mu _),Ak (AP (by omega) (ndB _))]
  rfl
 rw[yp (zT h11),if_neg h11]
 cases hk2:(nod p a).kind==2 with
 |true=>rw[zy,Gl (Mu _),Ak (AP (by omega) (ndB _)),Bool.true_and];rfl
 |false=>rw[y0,Gl (Mu _),Ak (AP (by omega) (ndB _)),Bool.false_and];rfl
end
end Go.Eng
/-! a step of a machine keeps it right: plain -/
namespace Go.Eng

theorem AA {p:List Nd}(hp:Ah p){x:Nd}(hx:okN x p.length=true):Ah (p++[x]):=by
 intro j y hy
 rcases Nat.lt_or_ge j p.length with h|h
 ·rw[List.getElem?_append_left h]at hy;exact hp j y hy
 ·rw[List.getElem?_append_right h]at hy
  have:j=p.length:=by have:=aQ hy;simp at this;omega
  subst this
  simp at hy;subst hy;exact hx
theorem Yz (h:Int):okN ndN h=true:=by
 show (wi 0 0 0&&(nz ⟨#[]⟩&&_))=true
 rw[MR];rfl
theorem O8 {a b:Int}{n:Nat}(ha:0<=a/\a<(n:Int))(hb:0<=b/\b<(n:Int)):okN (ndP a b) n=true:=by
 show (wi 0 0 0&&(nz ⟨#[]⟩&&(wi a 0 _&&wi b 0 _)))=true
 rw[wi_iff.2 ⟨ha.1,by omega⟩,wi_iff.2 ⟨hb.1,by omega⟩,MR];rfl
theorem QW {n h:Int}(hn : -1000000000<=n/\n<=1000000000):okN (ndI n) h=true:=by
 show (wi n (-1000000000) 1000000000&&(nz ⟨#[]⟩&&_))=true
 rw[wi_iff.2 hn,MR];rfl
theorem abZ {k a:Int}{n:Nat}(hk:0<=k/\k<=1000000000)(ha:0<=a/\a<(n:Int)):okN (ndF k a) n=true:=by
 show (wi k 0 1000000000&&(nz ⟨#[]⟩&&(wi a 0 _&&_)))=true
 rw[wi_iff.2 hk,wi_iff.2 ⟨ha.1,by omega⟩,MR];rfl
theorem Tt {a:Int}{n:Nat}(ha:0<=a/\a<(n:Int)):okN (ndK a) n=true:=by
 show (wi 0 0 0&&(nz ⟨#[]⟩&&(wi a 0 _&&_)))=true
 rw[wi_iff.2 ⟨ha.1,by omega⟩,MR];rfl
theorem aeX {k h:Int}(hk:0<=k/\k<=99):okN (ndR k) h=true:=by
 show (wi k 0 99&&(nz ⟨#[]⟩&&_))=true
 rw[wi_iff.2 hk,MR];rfl
theorem Cj (p:List Nd)(x:Nd):InP (p++[x]) (p.length:Int):=⟨by omega,by simp only[lnA,lnC,lnN];omega⟩
theorem QI:∀(r:List Int)(q:List Nd)(c:Nat),Ah q->c<q.length->(∀v∈r,InP q v)->Ah (BZ r q c).1/\(∃t,(BZ r q c).1=q++t/\t.length=r.length)/\(BZ r q c).2<(BZ r q c).1.length
 |[],q,c,hq,hc,hr=>⟨hq,⟨[],by simp[BZ],rfl⟩,hc⟩
 |x::r,q,c,hq,hc,hr=>by
  have hx:=hr x (by simp)
  obtain⟨h1,⟨t,h2,h3⟩,h4⟩:=QI r (q++[ndP x c]) q.length (AA hq (O8 hx ⟨by omega,by omega⟩)) (by simp) (fun v hv=>Ai _ (hr v (by simp[hv])))
  exact⟨h1,⟨ndP x c::t,by rw[BZ,h2];simp,by simp[h3]⟩,h4⟩
theorem Fa {q:List Nd}{row:List Int}(hq:Ah q)(hr:∀v∈row,InP q v):Ah (Ac q row).1/\(∃t,(Ac q row).1=q++t/\t.length=row.length+1)/\InP (Ac q row).1 ((Ac q row).2:Int):=by
 obtain⟨h1,⟨t,h2,h3⟩,h4⟩:=QI row.reverse (q++[ndN]) q.length (AA hq (Yz _)) (by simp) (fun v hv=>Ai _ (hr v (by simpa using hv)))
 refine⟨h1,⟨ndN::t,by unfold Ac;rw[h2];simp,by simp[h3]⟩,⟨by omega,?_⟩⟩
 have:(Ac q row).2<(Ac q row).1.length:=h4
 omega
structure GM (m:Mc):Prop where
 ok:Ah m.pool
 s:InP m.pool m.s
 e:InP m.pool m.e
 d:InP m.pool m.d
theorem GM.app {m:Mc}(_:GM m){q:List Nd}(hq:Ah (m.pool++q))(a s e d st k r:Int)(hs:InP (m.pool++q) s)(he:InP (m.pool++q) e)(hd:InP (m.pool++q) d):GM ⟨m.pool++q,a,s,e,d,st,k,r⟩:=⟨hq,hs,he,hd⟩
theorem MZ {m:Mc}(h:GM m){v:Int}(hv:InP m.pool v):GM (Je m v):=
 ⟨AA h.ok (O8 hv h.s),Cj _ _,Ai _ h.e,Ai _ h.d⟩
theorem DP {m m':Mc}(h:GM m){v:Int}(ht:DN m=some (v,m')):GM m'/\InP m'.pool v/\m'.pool=m.pool/\m'.at'=m.at'/\m'.state=m.state/\m'.ask=m.ask/\m'.arg=m.arg/\m'.d=m.d:=by
 obtain⟨h1,h2,h3,h4,h5,h6,h7,h8,h9⟩:=aar h.ok h.s ht
 exact⟨⟨by rw[h2];exact h.ok,by rw[h2];exact h3,by rw[h2,h4];exact h.e,by rw[h2,h5];exact h.d⟩,by rw[h2];exact h1,h2,h6,h7,h8,h9,h5⟩
theorem JK:∀{k:Nat}{m m':Mc}{l:List Int},GM m->D8 k m=some (l,m')->GM m'/\(∀v∈l,InP m'.pool v)/\l.length=k/\m'.pool=m.pool/\m'.at'=m.at'/\m'.state=m.state/\m'.ask=m.ask/\m'.arg=m.arg/\m'.d=m.d
 |0,m,m',l,h,ht=>by
  simp only[D8,Option.some.injEq,Prod.mk.injEq]at ht
  obtain⟨rfl,rfl⟩:=ht
  exact⟨h,by simp,rfl,rfl,rfl,rfl,rfl,rfl,rfl⟩
 |k+1,m,m',l,h,ht=>by
  simp only[D8]at ht
  split at ht
  ·cases ht
  ·rename_i v m1 h1
   split at ht
   ·cases ht
   ·rename_i l2 m2 h2
    cases ht
    obtain⟨g1,g2,g3,g4,g5,g6,g7,g8⟩:=DP h h1
    obtain⟨f1,f2,f3,f4,f5,f6,f7,f8,f9⟩:=JK g1 h2
    refine⟨f1,fun u hu=>?_,by simp[f3],f4.trans g3,f5.trans g4,f6.trans g5,f7.trans g6,f8.trans g7,f9.trans g8⟩
    rcases List.mem_cons.1 hu with rfl|hu
    ·rw[f4];exact g2
    ·exact f2 u hu
theorem KO {p:List Nd}(hp:Ah p){v:Int}(hv:InP p v):∀x∈(Bc p v).1,InP p x:=abS hp _ v hv
theorem Wo {c:Cd}{p:List Nd}(hp:Ah p){v:Int}(hv:InP p v){many:Nat}{n:Int}{r:List Int}(h:GJ c p v many=some (n,r)):Ce c n=true/\(∀x∈r,InP p x)/\r.length+1=many:=by
 unfold GJ at h
 split at h
 ·rename_i a r' he
  split at h
  ·rename_i hc
   cases h
   have:=KO hp hv
   rw[he]at this
   exact⟨hc.2.2,fun x hx=>this x (by simp[hx]),hc.1⟩
  ·cases h
 ·cases h
structure GoesM (c:Cd) (m m':Mc) (k:Nat):Prop where
 gm:GM m'
 ext:∃t,m'.pool=m.pool++t/\t.length<=k
 st:Nt c m'=true
theorem Oj {c:Cd}{m:Mc}(h0:m.state=0)(h1:m.ask=0)(h2:m.arg=0)(h3:Ce c m.at'=true):Nt c m=true:=by
 unfold Nt
 rw[if_pos h0,h1,h2]
 unfold Ce at h3
 rw[h3];rfl
structure RunM (c:Cd) (m:Mc):Prop where
 gm:GM m
 st:m.state=0
 ask:m.ask=0
 arg:m.arg=0
 pl:Ce c m.at'=true
theorem isPl_iff {c:Cd}{n:Int}:Ce c n=true↔0<=n/\n<=(c.list.length:Int)-1:=wi_iff
theorem Zl {c:Cd}(hc:c.list.length<=400){m m':Mc}(h:RunM c m){f:Nd}(hf:InP m.pool f.a){l:List Int}(hl:∀v∈l,InP m.pool v)(he:GH c m f l=.ok m'):GoesM c m m' (l.length+9):=by
 unfold GH at he
 split at he
 ·cases he
 split at he
 ·cases he
 rename_i h1 h2
 have hpl:=isPl_iff.1 h.pl
 simp only[Except.ok.injEq]at he
 have o1:Ah (m.pool++[ndI (m.at'+1)]):=AA h.gm.ok (QW (by omega))
 obtain⟨b1,⟨t,b2,b3⟩,b4⟩:=Fa (row:=[(m.pool.length:Int),m.s,m.e]) o1 (fun v hv=>by
  simp only[List.mem_cons,List.not_mem_nil,or_false]at hv
  rcases hv with rfl|rfl|rfl
  ·exact Cj _ _
  ·exact Ai _ h.gm.s
  ·exact Ai _ h.gm.e)
 have e1:(Ac (m.pool++[ndI (m.at'+1)]) [(m.pool.length:Int),m.s,m.e]).1=m.pool++(ndI (m.at'+1)::t):=by rw[b2];simp
 have up:∀{v:Int},InP m.pool v->InP (Ac (m.pool++[ndI (m.at'+1)]) [(m.pool.length:Int),m.s,m.e]).1 v:=fun hv=>by rw[e1];exact Ai _ hv
 have o2:=AA b1 (O8 b4 (up h.gm.d))
 obtain⟨v1,⟨t2,v2,v3⟩,v4⟩:=Fa (row:=l) o2 (fun v hv=>Ai _ (up (hl v hv)))
 have up2:∀{v:Int},InP ((Ac (m.pool++[ndI (m.at'+1)]) [(m.pool.length:Int),m.s,m.e]).1++[ndP ((Ac (m.pool++[ndI (m.at'+1)]) [(m.pool.length:Int),m.s,m.e]).2:Int) m.d]) v->InP (Ac ((Ac (m.pool++[ndI (m.at'+1)]) [(m.pool.length:Int),m.s,m.e]).1++[ndP ((Ac (m.pool++[ndI (m.at'+1)]) [(m.pool.length:Int),m.s,m.e]).2:Int) m.d]) l).1 v:=fun hv=>by rw[v2];exact Ai _ hv
 have o3:=AA v1 (O8 v4 (up2 (Ai _ (up hf))))
 have o4:=AA o3 (Yz _)
 subst he
 refine⟨⟨o4,?_,?_,?_⟩,⟨ndI (m.at'+1)::t++[ndP ((Ac (m.pool++[ndI (m.at'+1)]) [(m.pool.length:Int),m.s,m.e]).2:Int) m.d]++t2++[ndP ((Ac ((Ac (m.pool++[ndI (m.at'+1)]) [(m.pool.length:Int),m.s,m.e]).1++[ndP ((Ac (m.pool++[ndI (m.at'+1)]) [(m.pool.length:Int),m.s,m.e]).2:Int) m.d]) l).2:Int) f.a]++[ndN],?_,?_⟩,?_⟩
 ·have:=Cj ((Ac ((Ac (m.pool++[ndI (m.at'+1)]) [(m.pool.length:Int),m.s,m.e]).1++[ndP ((Ac (m.pool++[ndI (m.at'+1)]) [(m.pool.length:Int),m.s,m.e]).2:Int) m.d]) l).1++[ndP ((Ac ((Ac (m.pool++[ndI (m.at'+1)]) [(m.pool.length:Int),m.s,m.e]).1++[ndP ((Ac (m.pool++[ndI (m.at'+1)]) [(m.pool.length:Int),m.s,m.e]).2:Int) m.d]) l).2:Int) f.a]) ndN
  simpa using this
 ·exact Ai _ (Cj _ _)
 ·exact Ai _ (Ai _ (up2 (Cj _ _)))
 ·show _++_++_=_
  rw[v2,b2]
  simp
 ·simp only[lnA,lnC,lnN,b3,v3];omega
 ·exact Oj h.st h.ask h.arg (by simpa using h2)
theorem acR {c:Cd}{m m':Mc}(h:RunM c m){st:Int}(hs:InP m.pool st){l:List Int}(hl:∀v∈l,InP m.pool v)(he:QX c m st l=.ok m'):GoesM c m m' 1:=by
 unfold QX at he
 split at he
 ·cases he
 rename_i h1
 split at he
 ·rename_i n s e d hf
  obtain⟨f1,f2,f3⟩:=Wo h.gm.ok hs hf
  cases he
  have hv:InP m.pool (l.getD 0 0):=by
   match l,h1 with
   |[v],_=>exact hl v (by simp)
   |[],h=>simp at h
   |_::_::_,h=>simp at h
  have g:GM ⟨m.pool,n,s,e,d,m.state,m.ask,m.arg⟩:=⟨h.gm.ok,f2 s (by simp),f2 e (by simp),f2 d (by simp)⟩
  exact⟨MZ g hv,⟨[_],rfl,Nat.le_refl _⟩,Oj h.st h.ask h.arg f1⟩
 ·cases he
theorem UQ {p q:List Nd}(hp:Ah p){n v:Int}{l:List Int}(hv:∀v∈l,InP p v)(h12:1<=n/\n<=12)(hlen:(l.length:Int)=Am n)(h:GW p n l=.ok (q,v)):Ah q/\InP q v/\∃t,q=p++t/\t.length<=1:=by
 rw[Ml h12 hlen]at h
 split at h
 ·rename_i hc
  have one:n=7\/n=8->∃a,l=[a]/\(nod p a).kind=5:=by
   intro h78
   obtain⟨a,rfl⟩:=LK hlen (by omega)
   have:=List.all_eq_true.1 hc a (by simp)
   refine⟨a,rfl,?_⟩
   have h5:¬n<=5:=by omega
   simpa[Ld,h5,h78]using this
  split at h
  ·rename_i h7
   cases h
   obtain⟨a,rfl,hk⟩:=one (.inl h7)
   exact⟨hp,NY hp (hv a (by simp)) (.inl hk),[],by simp,by simp⟩
  ·split at h
   ·rename_i h7 h8
    cases h
    obtain⟨a,rfl,hk⟩:=one (.inr h8)
    exact⟨hp,Pw hp (hv a (by simp)) hk,[],by simp,by simp⟩
   ·rename_i h7 h8
    split at h
    ·rename_i hw
     cases h
     exact⟨AA hp (abn hp hv hlen h12 ⟨h7,h8⟩ hw),Cj _ _,_,rfl,Nat.le_refl _⟩
    ·cases h
 ·cases h
theorem Fi {n:Int}{k:Nat}(h:Am n=(k:Int)):1<=n/\n<=19/\k<=2:=by
 unfold Am at h
 split at h
 ·rename_i hw
  have:=wi_iff.1 hw
  refine⟨this.1,this.2,?_⟩
  have hm:prArgs.getD (n-1).toNat 0<=2:=by
   rcases Nat.lt_or_ge (n-1).toNat prArgs.length with h|h
   ·have:=List.getElem_mem (l:=prArgs) h
    rw[List.getD_eq_getElem?_getD,List.getElem?_eq_getElem h,Option.getD_some]
    have all:∀x∈prArgs,x<=2:=by decide
    exact all _ this
   ·rw[List.getD_eq_getElem?_getD,List.getElem?_eq_none h];decide
  omega
 ·omega
theorem TC {c:Cd}(hc:c.list.length<=400):∀(k:Nat) {m m':Mc} {f:Int} {l:List Int},RunM c m->Ce c (m.at'+1)=true->InP m.pool f->(∀v∈l,InP m.pool v)->l.length<=4->EZ c k m f l=.ok m'->∃t,GoesM c m m' t/\1<=k/\(t<=l.length+9\/t<=7*k+3)
 |0,m,m',f,l,h,hnx,hf,hl,h4,he=>by cases he
 |k+1,m,m',f,l,h,hnx,hf,hl,h4,he=>by
  unfold EZ at he
  simp only at he
  split at he
  ·rename_i h6
   exact⟨_,Zl hc h (NY h.gm.ok hf (.inr (.inl h6))) hl he,by omega,by omega⟩
  split at he
  ·rename_i h6 h8
   split at he
   ·cases he
   rename_i hargs
   have hargs:Am (nod m.pool f).n=(l.length:Int):=by omega
   obtain⟨n1,n19,l2⟩:=Fi hargs
   split at he
   ·rename_i h18
    have hpl:=isPl_iff.1 h.pl
    have o1:Ah (m.pool++[ndI (m.at'+1)]):=AA h.gm.ok (QW (by omega))
    obtain⟨b1,⟨t,b2,b3⟩,b4⟩:=Fa (row:=[(m.pool.length:Int),m.s,m.e,m.d]) o1 (fun v hv=>by
     simp only[List.mem_cons,List.not_mem_nil,or_false]at hv
     rcases hv with rfl|rfl|rfl|rfl
     ·exact Cj _ _
     ·exact Ai _ h.gm.s
     ·exact Ai _ h.gm.e
     ·exact Ai _ h.gm.d)
    have e1:(Ac (m.pool++[ndI (m.at'+1)]) [(m.pool.length:Int),m.s,m.e,m.d]).1=m.pool++(ndI (m.at'+1)::t):=by rw[b2];simp
    have up:∀{v:Int},InP m.pool v->InP ((Ac (m.pool++[ndI (m.at'+1)]) [(m.pool.length:Int),m.s,m.e,m.d]).1++[ndK ((Ac (m.pool++[ndI (m.at'+1)]) [(m.pool.length:Int),m.s,m.e,m.d]).2:Int)]) v:=fun hv=>Ai _ (by rw[e1];exact Ai _ hv)
    have hl0:InP m.pool (l.getD 0 0):=by
     match l,hargs with
     |v::_,_=>exact hl v (by simp)
     |[],h=>rw[h18]at h;cases h
    have g2:RunM c ⟨(Ac (m.pool++[ndI (m.at'+1)]) [(m.pool.length:Int),m.s,m.e,m.d]).1++[ndK ((Ac (m.pool++[ndI (m.at'+1)]) [(m.pool.length:Int),m.s,m.e,m.d]).2:Int)],m.at',m.s,m.e,m.d,m.state,m.ask,m.arg⟩:=
     ⟨⟨AA b1 (Tt b4),up h.gm.s,up h.gm.e,up h.gm.d⟩,h.st,h.ask,h.arg,h.pl⟩
    obtain⟨q,⟨g3,⟨t3,g4,g5⟩,g6⟩,g8,g7⟩:=TC hc k g2 hnx (up hl0) (fun v hv=>by
     simp only[List.mem_singleton]at hv;subst hv;exact Cj _ _) (by simp) he
    refine⟨q+7,⟨g3,⟨ndI (m.at'+1)::t++[ndK ((Ac (m.pool++[ndI (m.at'+1)]) [(m.pool.length:Int),m.s,m.e,m.d]).2:Int)]++t3,?_,?_⟩,g6⟩,by omega,.inr (by simp only[lnC,lnN]at g7;omega)⟩
    ·rw[g4]
     show _++_++_=_
     rw[b2]
     simp
    ·simp only[lnA,lnC,lnN,b3];omega
   split at he
   ·rename_i h18 h12
    simp only[Except.ok.injEq]at he
    obtain⟨b1,⟨t,b2,b3⟩,b4⟩:=Fa (row:=l) h.gm.ok hl
    subst he
    have up:∀{v:Int},InP m.pool v->InP (Ac m.pool l).1 v:=fun hv=>by rw[b2];exact Ai _ hv
    refine⟨l.length+1,⟨⟨b1,up h.gm.s,up h.gm.e,up h.gm.d⟩,⟨t,b2,by omega⟩,?_⟩,by omega,by omega⟩
    unfold Nt
    have hpl:wi m.at' 0 ((c.list.length:Int)-1)=true:=h.pl
    have hn:wi (nod m.pool f).n 13 19=true:=wi_iff.2 ⟨by omega,n19⟩
    have hr:Jx (Ac m.pool l).1 ((Ac m.pool l).2:Int)=true:=wi_iff.2 ⟨b4.1,by have:=b4.2;omega⟩
    simp only
    rw[if_neg (by omega),if_pos trivial,hpl,hn,hr,zX h18]
    rfl
   split at he
   ·cases he
   ·rename_i h18 h12 p v hp
    cases he
    obtain⟨q1,q2,t,q3,q4⟩:=UQ h.gm.ok hl (by omega) hargs.symm hp
    have up:∀{v:Int},InP m.pool v->InP p v:=fun hv=>by rw[q3];exact Ai _ hv
    refine⟨2,⟨⟨AA q1 (O8 q2 (up h.gm.s)),Cj _ _,Ai _ (up h.gm.e),Ai _ (up h.gm.d)⟩,⟨t++[ndP v m.s],by show p++_=_;rw[q3];simp,by simp;omega⟩,?_⟩,by omega,by omega⟩
    exact Oj h.st h.ask h.arg hnx
  split at he
  ·rename_i h6 h8 h7
   exact⟨1,acR h (NY h.gm.ok hf (.inr (.inr h7))) hl he,by omega,by omega⟩
  ·cases he
theorem Pj {c:Cd}(hc:c.list.length<=400){m m':Mc}(h:RunM c m){k:Nat}(hk:k<=4)(he:CK c m k=.ok m'):∃t,GoesM c m m' t/\t<=24:=by
 unfold CK at he
 split at he
 ·cases he
 rename_i hnx
 split at he
 ·cases he
 ·rename_i l m1 ht
  obtain⟨f1,f2,f3,f4,f5,f6,f7,f8,f9⟩:=JK h.gm ht
  have g:RunM c m1:=⟨f1,f6.trans h.st,f7.trans h.ask,f8.trans h.arg,by rw[f5];exact h.pl⟩
  have hrev:∀v∈l.reverse,InP m1.pool v:=fun v hv=>f2 v (by simpa using hv)
  obtain⟨a,r,hr⟩:∃a r,l.reverse=a::r:=by
   cases hq:l.reverse with
   |nil=>rw[<-List.length_reverse,hq]at f3;simp at f3
   |cons a r=>exact⟨a,r,rfl⟩
  rw[hr]at he hrev
  have hlen:r.length=k:=by rw[<-List.length_reverse,hr]at f3;simpa using f3
  obtain⟨t,⟨g1,⟨q,g2,g3⟩,g4⟩,_,g5⟩:=TC hc 3 g (by rw[f5];simpa using hnx) (hrev a (by simp)) (fun v hv=>hrev v (by simpa using .inr hv)) (by simpa using (by omega:r.length<=4)) he
  simp only[List.drop_succ_cons,List.drop_zero]at g5
  exact⟨t,⟨g1,⟨q,by rw[g2,f4],g3⟩,g4⟩,by omega⟩
theorem Tw {c:Cd}{m m':Mc}(h:RunM c m)(he:JT c m=.ok m'):GoesM c m m' 1:=by
 unfold JT at he
 split at he
 ·cases he
 ·rename_i v m1 ht
  obtain⟨f1,f2,f4,f5,f6,f7,f8,f9⟩:=DP h.gm ht
  simp only at he
  split at he
  ·cases he
   refine⟨⟨f1.ok,f1.s,f1.e,f1.d⟩,⟨[],by rw[List.append_nil];exact f4,by simp⟩,?_⟩
   unfold Nt
   have hv:Jx m1.pool v=true:=wi_iff.2 ⟨f2.1,by have:=f2.2;omega⟩
   show (if (2:Int)=0 then _ else if (2:Int)=1 then _ else if (2:Int)=2 then _ else _)=true
   rw[if_neg (by omega),if_neg (by omega),if_pos rfl,hv,f7,h.ask]
   rfl
  ·split at he
   ·cases he
   ·rename_i h1 h5
    have h5:(nod m1.pool m1.d).kind=5:=by simpa using h5
    split at he
    ·rename_i n s e hf
     obtain⟨q1,q2,q3⟩:=Wo f1.ok (NY f1.ok f1.d (.inl h5)) hf
     cases he
     have g:GM ⟨m1.pool,n,s,e,(nod m1.pool m1.d).b,m1.state,m1.ask,m1.arg⟩:=⟨f1.ok,q2 s (by simp),q2 e (by simp),Pw f1.ok f1.d h5⟩
     exact⟨MZ g f2,⟨[_],by rw[<-f4];rfl,Nat.le_refl _⟩,Oj (f6.trans h.st) (f7.trans h.ask) (f8.trans h.arg) q1⟩
    ·cases he
theorem IW {q p:List Nd}(hq:Af q=true)(hp:Ah p){v:Int}(hv:InP q v)(d:Int):Ah (BW d q v p).1/\InP (BW d q v p).1 (BW d q v p).2/\∃t,(BW d q v p).1=p++t/\t.length<=q.length:=by
 obtain⟨h1,h2⟩:=Qb hq hp [v] d
 have hr:Ar q [v]=true:=by
  simp only[Ar,List.all_cons,List.all_nil,Bool.and_true]
  exact wi_iff.2 ⟨hv.1,by omega⟩
 have hon:=Jf hr v (by simp)
 obtain⟨x,hx⟩:=yM (l:=q) (i:=v.toNat) (by omega)
 obtain⟨j,hj,hj2⟩:=h2 v.toNat x hx hon
 refine⟨h1,?_,?_⟩
 ·unfold BW
  simp only
  rw[List.getD_eq_getElem?_getD,hj,Option.getD_some]
  have:=aQ hj2
  exact⟨by omega,by omega⟩
 ·obtain⟨r,hr⟩:=Uz d q (Bu q [v]) q.length [] p
  have hl:=Mf d q (Bu q [v]) q.length [] p
  refine⟨r,hr,?_⟩
  rw[hr]at hl
  simp only[lnA]at hl
  omega
theorem Gn {c:Cd}(hc:AX c=true){k:Nat}{x:In}(hx:c.list[k]? = some x):Kn c x k=true:=by
 unfold AX at hc
 simp only[Bool.and_eq_true]at hc
 have key:∀(n i:Nat),Jd c i n=true->∀j,i<=j->j<i+n->∀x,c.list[j]? = some x->Kn c x j=true:=by
  intro n
  induction n with
  |zero=>intro i _ j h1 h2;omega
  |succ n ih=>
   intro i h j h1 h2 x hx
   simp only[Jd,Bool.and_eq_true]at h
   rcases Nat.lt_or_ge i j with hij|hij
   ·exact ih (i+1) h.2 j hij (by omega) x hx
   ·have:j=i:=by omega
    subst this
    have h3:=h.1
    rw[hx]at h3
    exact h3
 exact key c.list.length 0 hc.2.2.2.1 k (Nat.zero_le _) (by have:=aQ hx;omega) x hx
theorem RX {c:Cd}(hc:AX c=true){k:Nat}{x:Df}(hx:c.defs[k]? = some x):aad c x k=true:=by
 unfold AX at hc
 simp only[Bool.and_eq_true]at hc
 have key:∀(n i:Nat),FT c i n=true->∀j,i<=j->j<i+n->∀x,c.defs[j]? = some x->aad c x j=true:=by
  intro n
  induction n with
  |zero=>intro i _ j h1 h2;omega
  |succ n ih=>
   intro i h j h1 h2 x hx
   simp only[FT,Bool.and_eq_true]at h
   rcases Nat.lt_or_ge i j with hij|hij
   ·exact ih (i+1) h.2 j hij (by omega) x hx
   ·have:j=i:=by omega
    subst this
    have h3:=h.1
    rw[hx]at h3
    exact h3
 exact key c.defs.length 0 hc.2.2.2.2 k (Nat.zero_le _) (by have:=aQ hx;omega) x hx
theorem AM {c:Cd}(hc:AX c=true):Af c.pool=true/\c.list.length<=400/\c.defs.length<=20:=by
 unfold AX at hc
 simp only[Bool.and_eq_true,decide_eq_true_eq]at hc
 exact⟨hc.1,hc.2.1,hc.2.2.1⟩
theorem LZ {c:Cd}{m:Mc}{r:Except Int Mc}{next:Int}{m':Mc}{k:Nat}(hr:∀m1,r=.ok m1->GM m1/\(∃t,m1.pool=m.pool++t/\t.length<=k)/\m1.state=0/\m1.ask=0/\m1.arg=0)(he:goM c r next=.ok m'):GoesM c m m' k:=by
 unfold goM at he
 split at he
 ·cases he
 ·rename_i m1
  obtain⟨h1,h2,h3,h4,h5⟩:=hr m1 rfl
  split at he
  ·rename_i hp
   cases he
   exact⟨⟨h1.ok,h1.s,h1.e,h1.d⟩,h2,Oj h3 h4 h5 hp⟩
  ·cases he
theorem aca {m m1:Mc}(h:GM m){o i:Int}(he:Tj m o i=.ok m1):GM m1/\(∃t,m1.pool=m.pool++t/\t.length<=1)/\m1.state=m.state/\m1.ask=m.ask/\m1.arg=m.arg:=by
 unfold Tj at he
 split at he
 ·cases he
 ·rename_i fr hfr
  split at he
  ·cases he
  ·rename_i v hv
   cases he
   exact⟨MZ h (QO h.ok _ _ _ (QO h.ok _ _ _ h.e hfr) hv),⟨[_],rfl,Nat.le_refl _⟩,rfl,rfl,rfl⟩
theorem Ru {c:Cd}{s:ByteArray}(h:0<=Ew c s):∃d,c.defs[(Ew c s).toNat]? = some d:=by
 have hb:Ew c s<(c.defs.length:Int):=by
  unfold Ew zm at h⊢
  cases hq:c.defs.findIdx? (fun d:Df=>kJ d.name s) with
  |none=>rw[hq]at h;simp at h
  |some k=>
   rw[List.findIdx?_eq_some_iff_getElem]at hq
   obtain⟨hk,_⟩:=hq
   simp only;omega
 exact yM (by omega)
theorem ZG {c:Cd}(hc:AX c=true){m m1:Mc}(h:GM m){s:ByteArray}(he:J0 c m s=.ok m1):GM m1/\(∃t,m1.pool=m.pool++t/\t.length<=3)/\m1.state=m.state/\m1.ask=m.ask/\m1.arg=m.arg:=by
 obtain⟨_,c2,_⟩:=AM hc
 unfold J0 at he
 split at he
 ·rename_i hd
  obtain⟨d,hdg⟩:=Ru hd
  have hok:=RX hc hdg
  unfold aad at hok
  simp only[Bool.and_eq_true]at hok
  have a1:=wi_iff.1 hok.2.2.1
  have a2:=wi_iff.1 hok.2.2.2
  simp only[List.getD_eq_getElem?_getD,hdg,Option.getD_some,Except.ok.injEq]at he
  subst he
  have o1:=AA h.ok (Yz (m.pool.length:Int))
  have o2:=AA o1 (abZ (k:=8*d.at'+d.args) (a:=(m.pool.length:Int)) (n:=(m.pool++[ndN]).length) (by omega) ⟨by omega,by simp only[lnA,lnC,lnN];omega⟩)
  have g:GM ⟨m.pool++[ndN]++[ndF (8*d.at'+d.args) m.pool.length],m.at',m.s,m.e,m.d,m.state,m.ask,m.arg⟩:=⟨o2,Ai _ (Ai _ h.s),Ai _ (Ai _ h.e),Ai _ (Ai _ h.d)⟩
  refine⟨MZ g ⟨by omega,by simp only[lnA,lnC,lnN];omega⟩,⟨_,by show _++_++_++_=_;rw[List.append_assoc,List.append_assoc],by simp⟩,rfl,rfl,rfl⟩
 ·split at he
  ·cases he
  ·simp only[Except.ok.injEq]at he
   subst he
   have hb:=MY s
   have o1:=AA h.ok (aeX (k:=Eo s) (h:=(m.pool.length:Int)) (by omega))
   have g:GM ⟨m.pool++[ndR (Eo s)],m.at',m.s,m.e,m.d,m.state,m.ask,m.arg⟩:=⟨o1,Ai _ h.s,Ai _ h.e,Ai _ h.d⟩
   exact⟨MZ g (Cj _ _),⟨_,by show _++_++_=_;rw[List.append_assoc],by simp⟩,rfl,rfl,rfl⟩
theorem Oi {c:Cd}{x:In}{k:Int}(h:Kn c x k=true)(h1:x.op=1):InP c.pool x.n:=by
 unfold Kn at h
 rw[if_pos h1]at h
 simp only[Bool.and_eq_true]at h
 have:=wi_iff.1 h.1
 exact⟨this.1,by omega⟩
theorem UL {c:Cd}{x:In}{k:Int}(h:Kn c x k=true)(h1:x.op=2):(0<=x.n/\x.n<=20)/\0<=x.i/\x.i<=3:=by
 unfold Kn at h
 rw[if_neg (by omega),if_pos h1]at h
 simp only[Bool.and_eq_true]at h
 exact⟨wi_iff.1 h.1,wi_iff.1 h.2.1⟩
theorem acF {c:Cd}{x:In}{k:Int}(h:Kn c x k=true)(h1:x.op=4\/x.op=5):k+1<=x.n/\x.n<=(c.list.length:Int):=by
 unfold Kn at h
 rw[if_neg (by omega),if_neg (by omega),if_neg (by omega),if_pos h1]at h
 simp only[Bool.and_eq_true]at h
 exact wi_iff.1 h.1
theorem QV {c:Cd}{x:In}{k:Int}(h:Kn c x k=true)(h1:x.op=6):(k+1<=x.n/\x.n<=(c.list.length:Int)-1)/\0<=x.i/\x.i<=4:=by
 unfold Kn at h
 rw[if_neg (by omega),if_neg (by omega),if_neg (by omega),if_neg (by omega),if_pos h1]at h
 simp only[Bool.and_eq_true]at h
 exact⟨wi_iff.1 h.1,wi_iff.1 h.2.1⟩
theorem O7 {c:Cd}{x:In}{k:Int}(h:Kn c x k=true)(h1:x.op=7):0<=x.i/\x.i<=4:=by
 unfold Kn at h
 rw[if_neg (by omega),if_neg (by omega),if_neg (by omega),if_neg (by omega),if_neg (by omega),if_pos h1]at h
 simp only[Bool.and_eq_true]at h
 exact wi_iff.1 h.2.1
theorem aaf {c:Cd}(hc:AX c=true){m m':Mc}(h:RunM c m){x:In}{k:Nat}(hx:c.list[k]? = some x)(he:D7 c m x=.ok m'):GoesM c m m' (c.pool.length+3):=by
 have hok:=Gn hc hx
 have hk:=aQ hx
 obtain⟨c1,c2,_⟩:=AM hc
 unfold D7 at he
 split at he
 ·rename_i h1
  have hlit:=Oi hok h1
  obtain⟨f1,f2,t,f3,f4⟩:=IW c1 h.gm.ok hlit (-1)
  refine LZ (fun m1 e=>?_) he
  cases e
  have up:∀{v:Int},InP m.pool v->InP (BW (-1) c.pool x.n m.pool).1 v:=fun hv=>by rw[f3];exact Ai _ hv
  have g:GM ⟨(BW (-1) c.pool x.n m.pool).1,m.at',m.s,m.e,m.d,m.state,m.ask,m.arg⟩:=⟨f1,up h.gm.s,up h.gm.e,up h.gm.d⟩
  refine⟨MZ g f2,⟨t++[_],by show (BW (-1) c.pool x.n m.pool).1++_=_;rw[f3,List.append_assoc],by simp;omega⟩,h.st,h.ask,h.arg⟩
 split at he
 ·refine LZ (fun m1 e=>?_) he
  obtain⟨g1,⟨t,g2,g3⟩,g4,g5,g6⟩:=aca h.gm e
  exact⟨g1,⟨t,g2,by omega⟩,g4.trans h.st,g5.trans h.ask,g6.trans h.arg⟩
 split at he
 ·refine LZ (fun m1 e=>?_) he
  obtain⟨g1,⟨t,g2,g3⟩,g4,g5,g6⟩:=ZG hc h.gm e
  exact⟨g1,⟨t,g2,by omega⟩,g4.trans h.st,g5.trans h.ask,g6.trans h.arg⟩
 split at he
 ·refine LZ (fun m1 e=>?_) he
  cases e
  exact⟨h.gm,⟨[],by simp,by simp⟩,h.st,h.ask,h.arg⟩
 split at he
 ·rename_i h6
  have hf:=QV hok h6
  refine LZ (fun m1 e=>?_) he
  cases e
  have o1:=AA h.gm.ok (abZ (k:=8*x.n+x.i) (n:=m.pool.length) (by omega) h.gm.e)
  have g:GM ⟨m.pool++[ndF (8*x.n+x.i) m.e],m.at',m.s,m.e,m.d,m.state,m.ask,m.arg⟩:=⟨o1,Ai _ h.gm.s,Ai _ h.gm.e,Ai _ h.gm.d⟩
  exact⟨MZ g (Cj _ _),⟨_,by show _++_++_=_;rw[List.append_assoc],by simp⟩,h.st,h.ask,h.arg⟩
 ·split at he
  ·cases he
  ·rename_i v m1 ht
   obtain⟨f1,f2,f4,f5,f6,f7,f8,f9⟩:=DP h.gm ht
   refine LZ (fun m2 e=>?_) he
   cases e
   exact⟨f1,⟨[],by simp[f4],by simp⟩,f6.trans h.st,f7.trans h.ask,f8.trans h.arg⟩
theorem J8 {c:Cd}{m:Mc}(h:DG c m=true)(h0:m.state=0):RunM c m/\AX c=true/\m.pool.length<=3000:=by
 unfold DG at h
 simp only[Bool.and_eq_true]at h
 obtain⟨h1,h2,h3,h4,h5,h6⟩:=h
 obtain⟨p1,p2⟩:=okPool_iff.1 h2
 have a3:=wi_iff.1 h3
 have a4:=wi_iff.1 h4
 have a5:=wi_iff.1 h5
 unfold Nt at h6
 rw[if_pos h0]at h6
 simp only[Bool.and_eq_true,beq_iff_eq]at h6
 exact⟨⟨⟨p1,⟨a3.1,by omega⟩,⟨a4.1,by omega⟩,⟨a5.1,by omega⟩⟩,h0,h6.2.1,h6.2.2,h6.1⟩,h1,p2⟩
theorem QZ {c:Cd}{m:Mc}(h:RunM c m):∃x,c.list[m.at'.toNat]? = some x:=by
 have:=isPl_iff.1 h.pl
 exact yM (by omega)
theorem TJ {c:Cd}(hc:AX c=true){m m':Mc}(h:RunM c m)(he:doM c m=.ok m'):GoesM c m m' (c.pool.length+34):=by
 obtain⟨x,hx⟩:=QZ h
 have hok:=Gn hc hx
 obtain⟨c1,c2,_⟩:=AM hc
 unfold doM at he
 simp only[List.getD_eq_getElem?_getD,hx,Option.getD_some]at he
 split at he
 ·rename_i h7
  have:=O7 hok h7
  obtain⟨t,⟨g1,⟨q,g2,g3⟩,g4⟩,g5⟩:=Pj c2 h (k:=x.i.toNat) (by omega) he
  exact⟨g1,⟨q,g2,by omega⟩,g4⟩
 split at he
 ·obtain⟨g1,⟨q,g2,g3⟩,g4⟩:=Tw h he
  exact⟨g1,⟨q,g2,by omega⟩,g4⟩
 ·obtain⟨g1,⟨q,g2,g3⟩,g4⟩:=aaf hc h hx he
  exact⟨g1,⟨q,g2,by omega⟩,g4⟩
theorem abY {c:Cd}{m:Mc}(hc:AX c=true)(hp:Ah m.pool)(hl:m.pool.length<=3000)(hs:InP m.pool m.s)(he:InP m.pool m.e)(hd:InP m.pool m.d)(ht:Nt c m=true):DG c m=true:=by
 unfold DG
 have h1:Af m.pool=true:=okPool_iff.2 ⟨hp,hl⟩
 have h2:Jx m.pool m.s=true:=wi_iff.2 ⟨hs.1,by omega⟩
 have h3:Jx m.pool m.e=true:=wi_iff.2 ⟨he.1,by omega⟩
 have h4:Jx m.pool m.d=true:=wi_iff.2 ⟨hd.1,by omega⟩
 rw[hc,h1,h2,h3,h4,ht]
 rfl
theorem D5 {c:Cd}{m:Mc}(h:DG c m=true):AX c=true/\Ah m.pool/\m.pool.length<=3000/\InP m.pool m.s/\InP m.pool m.e/\InP m.pool m.d/\Nt c m=true:=by
 unfold DG at h
 simp only[Bool.and_eq_true]at h
 obtain⟨h1,h2,h3,h4,h5,h6⟩:=h
 obtain⟨p1,p2⟩:=okPool_iff.1 h2
 have a3:=wi_iff.1 h3
 have a4:=wi_iff.1 h4
 have a5:=wi_iff.1 h5
 exact⟨h1,p1,p2,⟨a3.1,by omega⟩,⟨a4.1,by omega⟩,⟨a5.1,by omega⟩,h6⟩
theorem ZD {c:Cd}{m:Mc}(h:DG c m=true){k:Int}(hk:1<=k/\k<=7):DG c (Po m k)=true:=by
 obtain⟨h1,h2,h3,h4,h5,h6,_⟩:=D5 h
 refine abY h1 h2 h3 h4 h5 h6 ?_
 unfold Nt Po
 simp only
 rw[if_neg (by omega),if_neg (by omega),if_neg (by omega),wi_iff.2 hk]
 rfl
end Go.Eng
/-! a step of a machine: the program's side: calls -/
namespace Go.Eng
open Go.Proofs Go.Proofs.Tryz
set_option maxHeartbeats 4000000

theorem aft {R:Type}(x:Df)(K:ByteArray->Int->Int->Option R):tk3 (eDf x) (fun n4 n7 n10=>(K n4 n7 n10))=K x.name x.at' x.args:=rfl
theorem J4 {α:Type}{f:α->D}{l:List α}{k:Int}(h:(l.length:Int)=k):ni (l.map f).length=k:=by rw[lnM];exact h
theorem QM {α:Type}{f:α->D}{l:List α}{k:Int}(h:¬(l.length:Int)=k):¬ni (l.map f).length=k:=by rw[lnM];exact h
theorem Ik {c:Cd}(hc:c.list.length<=400)(n:Int):V 57 [eCd c,iN n]=some (.bool (Ce c n),[]):=WX (by omega) n
theorem aaD {c:Cd}(hf:FitsC c)(hc:AX c=true){m:Mc}(hl:m.pool.length<4294967200)(s:ByteArray):PJ c (V 187 [eSt c m,.str s]) (J0 c m s):=by
 have hd:=Rc hf s
 have c2:=(AM hc).2.1
 rw[NA,abj hd]
 unfold J0
 by_cases h0:0<=Ew c s
 ·obtain⟨d,hg⟩:=Ru h0
  have hok:=RX hc hg
  unfold aad at hok
  simp only[Bool.and_eq_true]at hok
  have a1:=wi_iff.1 hok.2.2.1
  have a2:=wi_iff.1 hok.2.2.2
  have hlt:=aQ hg
  have h1:=Kg (p:=m.pool) (by omega) ndN
  have h2:=Kg (p:=m.pool++[ndN]) (by simp;omega) (ndF (8*d.at'+d.args) m.pool.length)
  have h3:=Jj (c:=c) (m:=⟨m.pool++[ndN]++[ndF (8*d.at'+d.args) m.pool.length],m.at',m.s,m.e,m.d,m.state,m.ask,m.arg⟩) (by simp;omega) (m.pool.length+1)
  have e1:w6 (w6 (8*d.at')+d.args)=8*d.at'+d.args:=by rw[w64 (n:=8*d.at') (by omega) (by omega),w64 (by omega) (by omega)]
  have e2:((m.pool++[ndN]).length:Int)=m.pool.length+1:=by simp
  rw[e2]at h2
  rw[if_pos h0,y6 (decide_eq_true h0),zJ (by rw[lnM];simp only[ni,Bool.and_eq_true,decide_eq_true_eq];omega),zj hg,aft]
  simp only[List.getD_eq_getElem?_getD,hg,Option.getD_some]
  show _=_
  rw[AW h1,e1,AW h2,Ct h3]
 ·rw[if_neg h0,yp (decide_eq_false h0)]
  have hp:=VU s
  have hb:=MY s
  rw[ZZ hp]
  by_cases hz:Eo s=0
  ·rw[if_pos hz,y6 (zU hz)]
   exact⟨by decide,m,rfl⟩
  ·have h1:=Kg (p:=m.pool) (by omega) (ndR (Eo s))
   have h3:=Jj (c:=c) (m:=⟨m.pool++[ndR (Eo s)],m.at',m.s,m.e,m.d,m.state,m.ask,m.arg⟩) (by simp;omega) m.pool.length
   rw[if_neg hz,yp (zT hz),AW h1,Ct h3]
   rfl
theorem abB {c:Cd}(hc:c.list.length<=400){m:Mc}(hl:m.pool.length<4294967200)(ha:Ce c m.at'=true){f:Nd}(hf:0<=f.n/\f.n<=1000000000){l:List Int}(_:l.length<=10):PJ c (V 204 [eSt c m,eN f,.rs (1,0) (l.map eI)]) (GH c m f l):=by
 have hpl:=isPl_iff.1 ha
 have t1:Int.tmod f.n 8=f.n % 8:=Int.tmod_eq_emod_of_nonneg hf.1
 have t2:Int.tdiv f.n 8=f.n / 8:=Int.tdiv_eq_ediv_of_nonneg hf.1
 rw[Pf,zJ (by decide),t1,t2]
 unfold GH
 by_cases h1:f.n % 8=(l.length:Int)
 ·rw[if_neg (by omega),yp (zW (by rw[J4 rfl];exact h1)),zJ (by decide),w64 (n:=f.n / 8) (by omega) (by omega),Bg (Ik hc _)]
  cases h2:Ce c (f.n / 8) with
  |false=>rw[if_pos rfl];exact⟨by decide,m,rfl⟩
  |true=>
   rw[if_neg (by simp),Bool.not_true,y0,w64 (n:=m.at'+1) (by omega) (by omega)]
   have a1:=Kg (p:=m.pool) (by omega) (ndI (m.at'+1))
   have l1:=Ft (m.pool++[ndI (m.at'+1)]) [(m.pool.length:Int),m.s,m.e]
   simp only[lnA,lnC,lnN]at l1
   have a2:V 222 [rP (m.pool++[ndI (m.at'+1)]),.rs (1,0) [iN (m.pool.length:Int),iN m.s,iN m.e]]=_:=YL (q:=m.pool++[ndI (m.at'+1)]) (row:=[(m.pool.length:Int),m.s,m.e]) (by simp only[lnA,lnC,lnN];omega)
   have a3:=YN (q:=(Ac (m.pool++[ndI (m.at'+1)]) [(m.pool.length:Int),m.s,m.e]).1) (by omega) (Ac (m.pool++[ndI (m.at'+1)]) [(m.pool.length:Int),m.s,m.e]).2 m.d
   rw[AW a1,Jz a2,JA a3]
   generalize hB:Ac (m.pool++[ndI (m.at'+1)]) [(m.pool.length:Int),m.s,m.e]=B at l1⊢
   have l2:=Ft (B.1++[ndP B.2 m.d]) l
   simp only[lnA,lnC,lnN]at l2
   have a4:=YL (q:=B.1++[ndP B.2 m.d]) (row:=l) (by simp only[lnA,lnC,lnN];omega)
   have a5:=YN (q:=(Ac (B.1++[ndP B.2 m.d]) l).1) (by omega) (Ac (B.1++[ndP B.2 m.d]) l).2 f.a
   have a6:=Kg (p:=(Ac (B.1++[ndP B.2 m.d]) l).1++[ndP (Ac (B.1++[ndP B.2 m.d]) l).2 f.a]) (by simp only[lnA,lnC,lnN];omega) ndN
   have e6:(((Ac (B.1++[ndP B.2 m.d]) l).1++[ndP (Ac (B.1++[ndP B.2 m.d]) l).2 f.a]).length:Int)=(Ac (B.1++[ndP B.2 m.d]) l).1.length+1:=by simp
   rw[e6]at a6
   rw[Jz a4,JA a5,AW a6,zJ (by decide)]
   rfl
 ·rw[if_pos h1,y6 (zX (by rw[J4 rfl];exact h1))]
  exact⟨by decide,m,rfl⟩
theorem Uj {c:Cd}{p:List Nd}{v:Int}{many:Nat}{xs:List Int}{b:Bool}(h:Bc p v=(xs,b))(hm:0<many):GJ c p v many=if b=true/\xs.length=many/\(nod p (xs.getD 0 0)).kind=3/\Ce c (nod p (xs.getD 0 0)).n=true then some ((nod p (xs.getD 0 0)).n,xs.drop 1) else none:=by
 unfold GJ
 rw[h]
 cases b with
 |false=>rw[if_neg (fun h=>by simp at h)];cases xs<;>rfl
 |true=>
  cases xs with
  |nil=>rw[if_neg (fun h=>by have:=h.2.1;simp at this;omega)]
  |cons a r=>
   simp only[lnC,List.getD_cons_zero,true_and,List.drop_one,List.tail_cons]
theorem aaE {c:Cd}(hc:c.list.length<=400){m:Mc}(hp:Ah m.pool)(hl:m.pool.length<2147483648){st:Int}(hs:InP m.pool st){l:List Int}(hll:l.length<=10):PJ c (V 206 [eSt c m,iN st,.rs (1,0) (l.map eI)]) (QX c m st l):=by
 have hlst:=aax hp hl hs
 have hin:=KO hp hs
 rw[NB]
 unfold QX
 by_cases h1:l.length=1
 ·rw[if_neg (by omega),yp (zW (J4 (by omega))),Oc hlst]
  obtain⟨v,rfl⟩:∃v,l=[v]:=by
   match l,h1 with
   |[v],_=>exact⟨v,rfl⟩
   |[],h=>simp at h
   |_::_::_,h=>simp at h
  rcases hq:Bc m.pool st with ⟨xs,b⟩
  have hfr:=Uj (c:=c) hq (many:=4) (by omega)
  rw[hq]at hin
  have none:∀{X:Option Ret},¬(b=true/\xs.length=4/\(nod m.pool (xs.getD 0 0)).kind=3/\Ce c (nod m.pool (xs.getD 0 0)).n=true)->X=some (iN 7,[eSt c m])->PJ c X (match GJ c m.pool st 4 with
    |some (n,[s,e,d])=>.ok (Je ⟨m.pool,n,s,e,d,m.state,m.ask,m.arg⟩ ([v].getD 0 0))
    |_=>.error 7):=by
   intro X hn hX
   rw[hfr,if_neg hn]
   exact⟨by decide,m,hX⟩
  cases b with
  |false=>exact none (fun h=>by simp at h) rfl
  |true=>
   rw[Bool.not_true,y0]
   by_cases h4:xs.length=4
   ·obtain⟨a,s,e,d,rfl⟩:∃a s e d,xs=[a,s,e,d]:=by
     match xs,h4 with
     |[a,s,e,d],_=>exact⟨a,s,e,d,rfl⟩
     |[],h=>simp at h
     |[_],h=>simp at h
     |[_,_],h=>simp at h
     |[_,_,_],h=>simp at h
     |_::_::_::_::_::_,h=>simp at h
    have ha:=hin a (by simp)
    rw[yp (zW (J4 (k:=4) rfl)),BQ,Nj ha]
    by_cases h3:(nod m.pool a).kind=3
    ·rw[yp (zW h3),BQ,acf ha,Bg (Ik hc _)]
     cases h5:Ce c (nod m.pool a).n with
     |false=>exact none (fun h=>by have:=h.2.2.2;simp only[List.getD_cons_zero,h5]at this;cases this) rfl
     |true=>
      have a3:=Jj (c:=c) (m:=⟨m.pool,(nod m.pool a).n,s,e,d,m.state,m.ask,m.arg⟩) (by show m.pool.length<_;omega) v
      rw[hfr,if_pos ⟨rfl,rfl,h3,h5⟩,Bool.not_true,y0,BQ,acf ha,GK,Yh,afw,BQ,Ct a3]
      rfl
    ·rw[y6 (zX h3)]
     exact none (fun h=>h3 h.2.2.1) rfl
   ·rw[y6 (zX (QM (l:=xs) (k:=4) (fun h=>h4 (by omega))))]
    exact none (fun h=>h4 h.2.1) rfl
 ·rw[if_pos h1,y6 (zX (QM (l:=l) (k:=1) (fun h=>h1 (by omega))))]
  exact⟨by decide,m,rfl⟩
theorem Iw {c:Cd}{X:Option Ret}{m:Mc}(h:PJ c X (.ok m)):X=some (iN 0,[eSt c m]):=h
theorem FU {c:Cd}{X:Option Ret}{h:Int}(e:PJ c X (.error h)):h≠0/\∃m',X=some (iN h,[eSt c m']):=e
theorem W8 {c:Cd}(hc:c.list.length<=400):∀(k:Nat) {m:Mc} {f:Int} {l:List Int},RunM c m->Ce c (m.at'+1)=true->m.pool.length+100*k<2147483600->InP m.pool f->(∀v∈l,InP m.pool v)->l.length<=4->((nod m.pool f).n=11->l.length=2->Af m.pool=true)->EZ c k m f l≠.error 0 ->
  PJ c (V 184 [eSt c m,iN f,.rs (1,0) (l.map eI)]) (EZ c k m f l)
 |0,m,f,l,h,hnx,hl,hf,hv,h4,h11,h0=>absurd rfl h0
 |k+1,m,f,l,h,hnx,hl,hf,hv,h4,h11,h0=>by
  have hok:=Jm h.gm.ok hf
  have hpl:=isPl_iff.1 h.pl
  rw[PU,FC hf]
  unfold EZ at h0⊢
  simp only at h0⊢
  by_cases h6:(nod m.pool f).kind=6
  ·rw[if_pos h6,y6 (zU h6)]
   have hfn:0<=(nod m.pool f).n/\(nod m.pool f).n<=1000000000:=by
    simp[okN,h6]at hok
    exact wi_iff.1 hok.1
   have he:=abB hc (m:=m) (by omega) h.pl (f:=nod m.pool f) hfn (l:=l) (by omega)
   cases hr:GH c m (nod m.pool f) l with
   |ok m'=>rw[hr]at he;rw[Mi (Iw he)];rfl
   |error q=>
    rw[hr]at he
    obtain⟨q0,m',hx⟩:=FU he
    rw[Mi hx]
    exact⟨q0,m',rfl⟩
  rw[if_neg h6]at h0⊢
  rw[yp (zT h6)]
  by_cases h8:(nod m.pool f).kind=8
  ·rw[if_pos h8]at h0⊢
   rw[y6 (zU h8)]
   -- what is built in
   have prim:PJ c (V 205 [eSt c m,iN (nod m.pool f).n,.rs (1,0) (l.map eI)]) (if Am (nod m.pool f).n≠(l.length:Int) then .error 2
     else if (nod m.pool f).n=18 then
      EZ c k ⟨(Ac (m.pool++[ndI (m.at'+1)]) [(m.pool.length:Int),m.s,m.e,m.d]).1++[ndK (Ac (m.pool++[ndI (m.at'+1)]) [(m.pool.length:Int),m.s,m.e,m.d]).2],m.at',m.s,m.e,m.d,m.state,m.ask,m.arg⟩ (l.getD 0 0) [((Ac (m.pool++[ndI (m.at'+1)]) [(m.pool.length:Int),m.s,m.e,m.d]).1.length:Int)]
     else if (nod m.pool f).n>12 then
      .ok ⟨(Ac m.pool l).1,m.at',m.s,m.e,m.d,1,(nod m.pool f).n,(Ac m.pool l).2⟩
     else match GW m.pool (nod m.pool f).n l with
      |.error h=>.error (h+1)
      |.ok (p,v)=>.ok ⟨p++[ndP v m.s],m.at'+1,p.length,m.e,m.d,m.state,m.ask,m.arg⟩):=by
    rw[LQ,VL Te]
    by_cases hargs:Am (nod m.pool f).n=(l.length:Int)
    ·have hargs':¬Am (nod m.pool f).n≠(l.length:Int):=fun h=>h hargs
     obtain⟨n1,n19,l2⟩:=Fi hargs
     rw[if_neg hargs']at h0⊢
     rw[yp (zW (by rw[J4 rfl];exact hargs))]
     by_cases h18:(nod m.pool f).n=18
     ·rw[if_pos h18]at h0⊢
      rw[y6 (zU h18),w64 (n:=m.at'+1) (by omega) (by omega)]
      obtain⟨v,rfl⟩:∃v,l=[v]:=by
       rw[h18]at hargs
       match l,hargs with
       |[v],_=>exact⟨v,rfl⟩
       |[],h=>cases h
       |_::_::r,h=>simp only[lnC]at h;have:Am 18=1:=rfl;omega
      have a1:=Kg (p:=m.pool) (by omega) (ndI (m.at'+1))
      have l1:=Ft (m.pool++[ndI (m.at'+1)]) [(m.pool.length:Int),m.s,m.e,m.d]
      simp only[lnA,lnC,lnN]at l1
      have a2:V 222 [rP (m.pool++[ndI (m.at'+1)]),.rs (1,0) [iN (m.pool.length:Int),iN m.s,iN m.e,iN m.d]]=_:=YL (q:=m.pool++[ndI (m.at'+1)]) (row:=[(m.pool.length:Int),m.s,m.e,m.d]) (by simp only[lnA,lnC,lnN];omega)
      have o1:Ah (m.pool++[ndI (m.at'+1)]):=AA h.gm.ok (QW (by omega))
      obtain⟨b1,⟨t,b2,b3⟩,b4⟩:=Fa (row:=[(m.pool.length:Int),m.s,m.e,m.d]) o1 (fun v hv=>by
       simp only[List.mem_cons,List.not_mem_nil,or_false]at hv
       rcases hv with rfl|rfl|rfl|rfl
       ·exact Cj _ _
       ·exact Ai _ h.gm.s
       ·exact Ai _ h.gm.e
       ·exact Ai _ h.gm.d)
      have e1:(Ac (m.pool++[ndI (m.at'+1)]) [(m.pool.length:Int),m.s,m.e,m.d]).1=m.pool++(ndI (m.at'+1)::t):=by rw[b2];simp
      have up:∀{v:Int},InP m.pool v->InP ((Ac (m.pool++[ndI (m.at'+1)]) [(m.pool.length:Int),m.s,m.e,m.d]).1++[ndK ((Ac (m.pool++[ndI (m.at'+1)]) [(m.pool.length:Int),m.s,m.e,m.d]).2:Int)]) v:=fun hv=>Ai _ (by rw[e1];exact Ai _ hv)
      have g2:RunM c ⟨(Ac (m.pool++[ndI (m.at'+1)]) [(m.pool.length:Int),m.s,m.e,m.d]).1++[ndK ((Ac (m.pool++[ndI (m.at'+1)]) [(m.pool.length:Int),m.s,m.e,m.d]).2:Int)],m.at',m.s,m.e,m.d,m.state,m.ask,m.arg⟩:=
       ⟨⟨AA b1 (Tt b4),up h.gm.s,up h.gm.e,up h.gm.d⟩,h.st,h.ask,h.arg,h.pl⟩
      rw[AW a1,Jz a2]
      generalize hB:Ac (m.pool++[ndI (m.at'+1)]) [(m.pool.length:Int),m.s,m.e,m.d]=B at l1 b1 b2 b4 e1 up g2 h0⊢
      have a3:=Kg (p:=B.1) (by omega) (ndK (B.2:Int))
      have a4:=W8 hc k g2 hnx (by show (B.1++[ndK (B.2:Int)]).length+100*k<_;simp only[lnA,lnC,lnN];omega) (up (hv v (by simp))) (l:=[(B.1.length:Int)]) (fun u hu=>by
       simp only[List.mem_singleton]at hu;subst hu;exact Cj _ _) (by simp) (fun _ h=>by simp at h) h0
      rw[AW a3,BQ]
      simp only[List.getD_cons_zero]at a4⊢
      simp only[List.map_cons,List.map_nil]at a4
      cases hr:EZ c k ⟨B.1++[ndK (B.2:Int)],m.at',m.s,m.e,m.d,m.state,m.ask,m.arg⟩ v [(B.1.length:Int)] with
      |ok m'=>rw[hr]at a4;rw[Gd (Iw a4)];rfl
      |error q=>
       rw[hr]at a4
       obtain⟨q0,m',hx⟩:=FU a4
       rw[Gd hx]
       exact⟨q0,m',rfl⟩
     rw[if_neg h18]at h0⊢
     rw[yp (zT h18)]
     by_cases h12:(nod m.pool f).n>12
     ·rw[if_pos h12,y6 (decide_eq_true h12)]
      have a1:=YL (q:=m.pool) (row:=l) (by omega)
      rw[Jz a1]
      rfl
     rw[if_neg h12,yp (decide_eq_false h12)]
     have hp:=aau h.gm.ok (by omega) (n:=(nod m.pool f).n) hv (by omega) hargs.symm (fun e=>h11 e (by
      rw[e]at hargs
      have:Am 11=2:=rfl
      omega))
     cases hr:GW m.pool (nod m.pool f).n l with
     |error q=>
      rw[hr]at hp
      rw[QP hp]
      have hq:q=3\/q=4:=by
       rw[Ml (by omega) hargs.symm]at hr
       split at hr
       ·split at hr
        ·cases hr
        ·split at hr
         ·cases hr
         ·split at hr
          ·cases hr
          ·cases hr;exact .inr rfl
       ·cases hr;exact .inl rfl
      rcases hq with rfl|rfl
      ·exact⟨by decide,m,rfl⟩
      ·exact⟨by decide,m,rfl⟩
     |ok r=>
      obtain⟨p,v⟩:=r
      rw[hr]at hp
      obtain⟨q1,q2,t,q3,q4⟩:=UQ h.gm.ok hv (by omega) hargs.symm hr
      have hpl':p.length<4294967296:=by rw[q3];simp only[lnA];omega
      have a3:=Jj (c:=c) (m:=⟨p,m.at',m.s,m.e,m.d,m.state,m.ask,m.arg⟩) hpl' v
      rw[QP hp,yp (zT (by omega)),yp (zT (by omega)),Ct a3]
      show some (iN 0,[D.op [_,iN (w6 (m.at'+1)),_,_,_,_,_,_,_,_,_]])=_
      rw[w64 (by omega) (by omega)]
      rfl
    ·rw[if_pos hargs,y6 (zX (by rw[J4 rfl];exact hargs))]
     exact⟨by decide,m,rfl⟩
   revert prim h0
   generalize (if Am (nod m.pool f).n≠(l.length:Int) then (.error 2:Except Int Mc) else _)=r
   intro h0 prim
   cases r with
   |ok m'=>rw[Jb (Iw prim)];rfl
   |error q=>
    obtain⟨q0,m',hx⟩:=FU prim
    rw[Jb hx]
    exact⟨q0,m',rfl⟩
  rw[if_neg h8,yp (zT h8)]
  by_cases h7:(nod m.pool f).kind=7
  ·rw[if_pos h7,y6 (zU h7)]
   have he:=aaE hc h.gm.ok (by omega) (NY h.gm.ok hf (.inr (.inr h7))) (l:=l) (by omega)
   cases hr:QX c m (nod m.pool f).a l with
   |ok m'=>rw[hr]at he;rw[KU (Iw he)];rfl
   |error q=>
    rw[hr]at he
    obtain⟨q0,m',hx⟩:=FU he
    rw[KU hx]
    exact⟨q0,m',rfl⟩
  ·rw[if_neg h7,yp (zT h7)]
   exact⟨by decide,m,rfl⟩
end Go.Eng
/-! a step of a machine: the program's side: whole -/
namespace Go.Eng
open Go.Proofs Go.Proofs.Tryz
set_option maxHeartbeats 4000000

theorem Un:∀(r:List Int)(q:List Nd)(c:Nat),∃t,(BZ r q c).1=q++t
 |[],q,c=>⟨[],by simp[BZ]⟩
 |x::r,q,c=>by
  obtain⟨t,h⟩:=Un r (q++[ndP x c]) q.length
  exact⟨ndP x c::t,by rw[BZ,h];simp⟩
theorem act (q:List Nd)(row:List Int):∃t,(Ac q row).1=q++t:=by
 obtain⟨t,h⟩:=Un row.reverse (q++[ndN]) q.length
 exact⟨ndN::t,by unfold Ac;rw[h];simp⟩
theorem adQ (p:List Nd)(x:Nd):nod (p++[x]) (p.length:Int)=x:=by simp[nod]
theorem Qp {c:Cd}:∀(k:Nat) {m:Mc} {f:Int} {l:List Int},(∀v∈l,InP m.pool v)->(3<=k\/(2<=k/\(nod m.pool (l.getD 0 0)).kind=7)\/(1<=k/\(nod m.pool f).kind=7))->EZ c k m f l≠.error 0
 |0,m,f,l,hv,hk=>by omega
 |k+1,m,f,l,hv,hk=>by
  unfold EZ
  simp only
  split
  ·unfold GH
   split
   ·intro h;cases h
   ·split
    ·intro h;cases h
    ·intro h;cases h
  split
  ·rename_i h6 h8
   split
   ·intro h;cases h
   rename_i hargs
   split
   ·rename_i h18
    obtain⟨v,r,rfl⟩:∃v r,l=v::r:=by
     cases l with
     |nil=>exact absurd (by rw[h18];decide) hargs
     |cons v r=>exact⟨v,r,rfl⟩
    obtain⟨t,ht⟩:=act (m.pool++[ndI (m.at'+1)]) [(m.pool.length:Int),m.s,m.e,m.d]
    have e1:(Ac (m.pool++[ndI (m.at'+1)]) [(m.pool.length:Int),m.s,m.e,m.d]).1=m.pool++(ndI (m.at'+1)::t):=by rw[ht];simp
    have hv0:=hv v (by simp)
    have up:nod ((Ac (m.pool++[ndI (m.at'+1)]) [(m.pool.length:Int),m.s,m.e,m.d]).1++[ndK ((Ac (m.pool++[ndI (m.at'+1)]) [(m.pool.length:Int),m.s,m.e,m.d]).2:Int)]) v=nod m.pool v:=by
     rw[e1,List.append_assoc,aeO hv0]
    refine Qp k (fun u hu=>?_) ?_
    ·simp only[List.mem_singleton]at hu;subst hu
     exact Cj _ _
    ·rcases hk with hk|⟨hk,h7⟩|⟨hk,h7⟩
     ·refine .inr (.inl ⟨by omega,?_⟩)
      simp only[List.getD_cons_zero]
      rw[adQ]
     ·refine .inr (.inr ⟨by omega,?_⟩)
      simp only[List.getD_cons_zero]at h7⊢
      rw[up,h7]
     ·omega
   split
   ·intro h;cases h
   split
   ·rename_i q hq
    intro h
    have hz:q+1=0:=by injection h
    obtain⟨n1,n19,l2⟩:=Fi (n:=(nod m.pool f).n) (k:=l.length) (by simpa using hargs)
    rw[Ml (by omega) (by simpa using (Eq.symm (by simpa using hargs:Am (nod m.pool f).n=(l.length:Int))))]at hq
    split at hq
    ·split at hq
     ·cases hq
     ·split at hq
      ·cases hq
      ·split at hq
       ·cases hq
       ·cases hq;omega
    ·cases hq;omega
   ·intro h;cases h
  split
  ·unfold QX
   split
   ·intro h;cases h
   ·split<;>(intro h;cases h)
  ·intro h;cases h
theorem Wa {c:Cd}:∀(k:Nat) {m:Mc} {f:Int} {l:List Int} {h:Int},EZ c k m f l=.error h->h=0\/(1<=h/\h<=7)
 |0,m,f,l,h,he=>by cases he;exact .inl rfl
 |k+1,m,f,l,h,he=>by
  unfold EZ at he
  simp only at he
  split at he
  ·unfold GH at he
   split at he
   ·cases he;omega
   ·split at he
    ·cases he;omega
    ·cases he
  split at he
  ·split at he
   ·cases he;omega
   rename_i hargs
   split at he
   ·exact Wa k he
   split at he
   ·cases he
   split at he
   ·rename_i q hq
    cases he
    obtain⟨n1,n19,l2⟩:=Fi (n:=(nod m.pool f).n) (k:=l.length) (by simpa using hargs)
    rw[Ml (by omega) (by simpa using (Eq.symm (by simpa using hargs:Am (nod m.pool f).n=(l.length:Int))))]at hq
    split at hq
    ·split at hq
     ·cases hq
     ·split at hq
      ·cases hq
      ·split at hq
       ·cases hq
       ·cases hq;omega
    ·cases hq;omega
   ·cases he
  split at he
  ·unfold QX at he
   split at he
   ·cases he;omega
   ·split at he
    ·cases he
    ·cases he;omega
  ·cases he;omega
theorem aew {c:Cd}(_:AX c=true){m:Mc}(h:RunM c m){q:Int}(he:doM c m=.error q):1<=q/\q<=7:=by
 unfold doM at he
 simp only at he
 split at he
 ·unfold CK at he
  split at he
  ·cases he;omega
  split at he
  ·cases he;omega
  ·rename_i l m1 ht
   obtain⟨f1,f2,f3,f4,f5,f6,f7,f8,f9⟩:=JK h.gm ht
   rcases Wa 3 he with rfl|h1
   ·exact absurd he (Qp 3 (fun v hv=>f2 v (by have:=List.mem_of_mem_drop hv;simpa using this)) (.inl (Nat.le_refl _)))
   ·exact h1
 split at he
 ·unfold JT at he
  split at he
  ·cases he;omega
  simp only at he
  split at he
  ·cases he
  split at he
  ·cases he;omega
  split at he
  ·cases he
  ·cases he;omega
 ·have go:∀{r:Except Int Mc} {n:Int},(∀q',r=.error q'->1<=q'/\q'<=7)->goM c r n=.error q->1<=q/\q<=7:=by
   intro r n hr hg
   unfold goM at hg
   split at hg
   ·cases hg;exact hr _ rfl
   ·split at hg
    ·cases hg
    ·cases hg;omega
  unfold D7 at he
  split at he
  ·exact go (fun q' e=>by cases e) he
  split at he
  ·refine go (fun q' e=>?_) he
   unfold Tj at e
   split at e
   ·cases e;omega
   ·split at e
    ·cases e;omega
    ·cases e
  split at he
  ·refine go (fun q' e=>?_) he
   unfold J0 at e
   split at e
   ·cases e
   ·split at e
    ·cases e;omega
    ·cases e
  split at he
  ·exact go (fun q' e=>by cases e) he
  split at he
  ·exact go (fun q' e=>by cases e) he
  split at he
  ·cases he;omega
  ·exact go (fun q' e=>by cases e) he
theorem U5 {c:Cd}{m:Mc}(h:DG c m=true)(h0:m.state=0):DG c (Mr c m)=true:=by
 obtain⟨hr,hc,hl⟩:=J8 h h0
 unfold Mr
 cases he:doM c m with
 |error q=>exact ZD h (aew hc hr he)
 |ok m'=>
  obtain⟨g1,⟨t,g2,g3⟩,g4⟩:=TJ hc hr he
  simp only
  split
  ·exact abY hc g1.ok ‹_› g1.s g1.e g1.d g4
  ·exact ZD h (by omega)

theorem aao:∀(n:Nat)(pre mid post:List Int)(i j:Int),mid.length<=n->i=pre.length->j=i+mid.length-1->(pre++mid++post).length<4611686018427387904 ->
  Ci i j ((pre++mid++post).map eI)=some (.tup [],[.os (1,0) ((pre++mid.reverse++post).map eI)])
 |0,pre,mid,post,i,j,hn,hi,hj,hl=>by
  have:mid=[]:=List.length_eq_zero_iff.1 (by omega)
  subst this
  rw[BC,yp (decide_eq_false (by simp at hj;omega))]
  rfl
 |n+1,pre,mid,post,i,j,hn,hi,hj,hl=>by
  match mid,hn,hj,hl with
  |[],hn,hj,hl=>
   rw[BC,yp (decide_eq_false (by simp at hj;omega))]
   rfl
  |[x],hn,hj,hl=>
   rw[BC,yp (decide_eq_false (by simp at hj;omega))]
   rfl
  |x::z::r,hn,hj,hl=>
   obtain⟨m,y,hm⟩:∃m y,z::r=m++[y]:=⟨(z::r).dropLast,(z::r).getLast (by simp),(List.dropLast_concat_getLast (by simp)).symm⟩
   rw[hm]at hn hj hl⊢
   simp only[lnC,lnA,lnN]at hn hj hl
   subst hi
   have hj':j=((pre.length+m.length+1:Nat):Int):=by omega
   subst hj'
   have hx:(pre++x::(m++[y])++post)[pre.length]? = some x:=by simp
   have hy:(pre++x::(m++[y])++post)[pre.length+m.length+1]? = some y:=by
    have e:pre++x::(m++[y])++post=(pre++x::m)++y::post:=by simp
    have e2:pre.length+m.length+1=(pre++x::m).length:=by simp;omega
    rw[e,e2];simp
   have len:(pre++x::(m++[y])++post).length=pre.length+m.length+2+post.length:=by simp;omega
   have s1:List.set ((pre++x::(m++[y])++post).map eI) pre.length (iN y)=(pre++y::(m++[y])++post).map eI:=by
    rw[<-List.map_set];simp
   have hy2:(pre++y::(m++[y])++post)[pre.length+m.length+1]? = some y:=by
    have e:pre++y::(m++[y])++post=(pre++y::m)++y::post:=by simp
    have e2:pre.length+m.length+1=(pre++y::m).length:=by simp;omega
    rw[e,e2];simp
   have s2:List.set ((pre++y::(m++[y])++post).map eI) (pre.length+m.length+1) (iN x)=((pre++[y])++m++(x::post)).map eI:=by
    have e:pre++y::(m++[y])++post=(pre++y::m)++y::post:=by simp
    have e2:pre.length+m.length+1=(pre++y::m).length:=by simp;omega
    rw[<-List.map_set,e,e2];simp
   have len2:(pre++y::(m++[y])++post).length=pre.length+m.length+2+post.length:=by simp;omega
   have ih:=aao n (pre++[y]) m (x::post) ((pre.length:Int)+1) (((pre.length+m.length+1:Nat):Int)-1) (by omega) (by simp) (by simp;omega) (by simp;omega)
   rw[BC,y6 (decide_eq_true (by omega)),
    IZ (l:=pre++x::(m++[y])++post) (v:=((pre.length+m.length+1:Nat):Int)) (x:=y) (by omega) (by rw[Int.toNat_natCast];exact hy),
    IZ (l:=pre++x::(m++[y])++post) (v:=(pre.length:Int)) (x:=x) (by omega) (by rw[Int.toNat_natCast];exact hx),
    zJ (by rw[lnM];exact zM (by omega)),Int.toNat_natCast,zj hx,zO,s1,
    zJ (by rw[lnM];exact zM (by omega)),Int.toNat_natCast,zj hy2,zO,s2,w64 (n:=(pre.length:Int)+1) (by omega) (by omega),w64 (n:=((pre.length+m.length+1:Nat):Int)-1) (by omega) (by omega),ih]
   simp
theorem ac4 {l:List Int}(hl:l.length<4611686018427387904):V 183 [.os (1,0) (l.map eI)]=some (.tup [],[.os (1,0) (l.reverse.map eI)]):=by
 have h:=aao l.length [] l [] 0 ((l.length:Int)-1) (Nat.le_refl _) rfl (by omega) (by simpa using hl)
 simp only[List.nil_append,List.append_nil]at h
 rw[LX,lnM,w64 (n:=ni l.length-1) (by simp only[ni];omega) (by simp only[ni];omega)]
 exact h

theorem WK (a:Int)(r:List Int):part ((a::r).map eI) (some (Int.toNat 1,((a::r).map eI).length-Int.toNat 1))=r.map eI:=by
 simp only[part,List.map_cons,lnC]
 show (r.map eI).take ((r.map eI).length+1-1)=_
 exact List.take_of_length_le (by simp)
theorem Nh {c:Cd}(hc:c.list.length<=400){many:Nat}(hm:many<=4):∀(k i:Nat) {m:Mc} {acc:List Int},i+k=many+1->acc.length=i->RunM c m->Ce c (m.at'+1)=true->m.pool.length<=3000->(∀v∈acc,InP m.pool v) ->
  PJ c (Cu ((many:Int)+1) (i:Int) m.at' m.s m.e m.d m.state m.ask m.arg (c.pool.map eN) (c.list.map eIn) (c.defs.map eDf) (acc.map eI) (m.pool.map eN)) (match D8 k m with
   |none=>.error 7
   |some (l,m')=>EZ c 3 m' ((acc++l).reverse.getD 0 0) ((acc++l).reverse.drop 1))
 |0,i,m,acc,hi,ha,hr,hnx,hl,hv=>by
  rw[EO,yp (decide_eq_false (by omega)),Km (ac4 (l:=acc) (by omega))]
  simp only[D8,List.append_nil]
  obtain⟨a,r,hq⟩:∃a r,acc.reverse=a::r:=by
   cases hq:acc.reverse with
   |nil=>have h:=congrArg List.length hq;rw[List.length_reverse,lnN]at h;omega
   |cons a r=>exact⟨a,r,rfl⟩
  have hlen:r.length=many:=by have h:=congrArg List.length hq;rw[List.length_reverse,lnC]at h;omega
  have hvr:∀v∈a::r,InP m.pool v:=fun v hv'=>hv v (by rw[<-hq]at hv';simpa using hv')
  rw[hq,BQ,zJ (by simp[df];omega),WK]
  simp only[List.getD_cons_zero,List.drop_one,List.tail_cons]
  have h0:=Qp (c:=c) 3 (m:=m) (f:=a) (l:=r) (fun v hv'=>hvr v (by simp[hv'])) (.inl (Nat.le_refl _))
  have hcall:=W8 hc 3 hr hnx (by omega) (hvr a (by simp)) (fun v hv'=>hvr v (by simp[hv'])) (by omega) (fun _ _=>okPool_iff.2 ⟨hr.gm.ok,hl⟩) h0
  cases he:EZ c 3 m a r with
  |ok m'=>rw[he]at hcall;rw[Gd (Iw hcall)];rfl
  |error q=>
   rw[he]at hcall
   obtain⟨q0,m',hx⟩:=FU hcall
   rw[Gd hx]
   exact⟨q0,m',rfl⟩
 |k+1,i,m,acc,hi,ha,hr,hnx,hl,hv=>by
  rw[EO,y6 (decide_eq_true (by omega))]
  unfold D8
  cases ht:DN m with
  |none=>
   have h1:=Na (c:=c) hr.gm.s ht
   rw[De h1]
   exact⟨by decide,m,rfl⟩
  |some q=>
   obtain⟨v,m1⟩:=q
   have h1:=Sb (c:=c) hr.gm.s ht
   obtain⟨g1,g2,g3,g4,g5,g6,g7,g8⟩:=DP hr.gm ht
   have ea:acc.map eI++[iN v]=(acc++[v]).map eI:=by simp
   have ih:=Nh hc hm k (i+1) (m:=m1) (acc:=acc++[v]) (by omega) (by simp[ha]) ⟨g1,g5.trans hr.st,g6.trans hr.ask,g7.trans hr.arg,by rw[g4];exact hr.pl⟩ (by rw[g4];exact hnx) (by rw[g3];exact hl) (fun u hu=>by
    rw[g3]
    rcases List.mem_append.1 hu with hu|hu
    ·exact hv u hu
    ·simp only[List.mem_singleton]at hu;subst hu;rw[<-g3];exact g2)
   rw[De h1,Bool.not_true,y0,zJ (ZK (by omega) v),zO,ea,z6 (by omega)]
   simp only
   cases ht2:D8 k m1 with
   |none=>rw[ht2]at ih;exact ih
   |some q2=>
    obtain⟨l2,m2⟩:=q2
    rw[ht2]at ih
    simp only[List.append_assoc,List.singleton_append]at ih
    exact ih
theorem YO {c:Cd}(hc:c.list.length<=400){m:Mc}(hr:RunM c m)(hl:m.pool.length<=3000){k:Int}(hk:0<=k/\k<=4):PJ c (V 132 [eSt c m,iN k]) (CK c m k.toNat):=by
 have hpl:=isPl_iff.1 hr.pl
 rw[Nn,w64 (n:=m.at'+1) (by omega) (by omega),Bg (Ik hc _)]
 unfold CK
 cases hp:Ce c (m.at'+1) with
 |false=>rw[if_pos rfl];exact⟨by decide,m,rfl⟩
 |true=>
  have h:=Nh hc (many:=k.toNat) (by omega) (k.toNat+1) 0 (acc:=[]) (by omega) rfl hr hp hl (by simp)
  rw[Int.natCast_zero,Int.toNat_of_nonneg hk.1]at h
  rw[if_neg (by simp),Bool.not_true,y0,w64 (n:=k+1) (by omega) (by omega)]
  simp only[List.nil_append]at h
  exact h
theorem ac6 {c:Cd}(hc:c.list.length<=400){m:Mc}(hr:RunM c m)(hl:m.pool.length<=3000):PJ c (V 133 [eSt c m]) (JT c m):=by
 rw[PT]
 unfold JT
 cases ht:DN m with
 |none=>
  have h1:=Na (c:=c) hr.gm.s ht
  rw[De h1]
  exact⟨by decide,m,rfl⟩
 |some q=>
  obtain⟨v,m1⟩:=q
  have h1:=Sb (c:=c) hr.gm.s ht
  obtain⟨g1,g2,g3,g4,g5,g6,g7,g8⟩:=DP hr.gm ht
  rw[De h1,Bool.not_true,y0,FC g1.d]
  simp only
  by_cases k1:(nod m1.pool m1.d).kind=1
  ·rw[if_pos k1,y6 (zU k1)];rfl
  rw[if_neg k1,yp (zT k1)]
  by_cases k5:(nod m1.pool m1.d).kind=5
  ·rw[if_neg (fun h=>h k5),yp (zW k5)]
   have ha:=NY g1.ok g1.d (.inl k5)
   have hlst:=aax g1.ok (by rw[g3];omega) ha
   have hin:=KO g1.ok ha
   rw[Oc hlst]
   rcases hq:Bc m1.pool (nod m1.pool m1.d).a with ⟨xs,b⟩
   have hfr:=Uj (c:=c) hq (many:=3) (by omega)
   rw[hq]at hin
   have none:∀{X:Option Ret},¬(b=true/\xs.length=3/\(nod m1.pool (xs.getD 0 0)).kind=3/\Ce c (nod m1.pool (xs.getD 0 0)).n=true)->X=some (iN 7,[eSt c m1])->PJ c X (match GJ c m1.pool (nod m1.pool m1.d).a 3 with
     |some (n,[s,e])=>.ok (Je ⟨m1.pool,n,s,e,(nod m1.pool m1.d).b,m1.state,m1.ask,m1.arg⟩ v)
     |_=>.error 7):=by
    intro X hn hX
    rw[hfr,if_neg hn]
    exact⟨by decide,m1,hX⟩
   cases b with
   |false=>exact none (fun h=>by simp at h) rfl
   |true=>
    rw[Bool.not_true,y0]
    by_cases h4:xs.length=3
    ·obtain⟨a,s,e,rfl⟩:∃a s e,xs=[a,s,e]:=by
      match xs,h4 with
      |[a,s,e],_=>exact⟨a,s,e,rfl⟩
      |[],h=>simp at h
      |[_],h=>simp at h
      |[_,_],h=>simp at h
      |_::_::_::_::_,h=>simp at h
     have ha':=hin a (by simp)
     rw[yp (zW (J4 (k:=3) rfl)),BQ,Nj ha']
     by_cases h3:(nod m1.pool a).kind=3
     ·rw[yp (zW h3),BQ,acf ha',Bg (Ik hc _)]
      cases h5:Ce c (nod m1.pool a).n with
      |false=>exact none (fun h=>by have:=h.2.2.2;simp only[List.getD_cons_zero,h5]at this;cases this) rfl
      |true=>
       have a3:=Jj (c:=c) (m:=⟨m1.pool,(nod m1.pool a).n,s,e,(nod m1.pool m1.d).b,m1.state,m1.ask,m1.arg⟩) (by show m1.pool.length<_;rw[g3];omega) v
       rw[hfr,if_pos ⟨rfl,rfl,h3,h5⟩,Bool.not_true,y0,BQ,acf ha',GK,Yh,Ct a3]
       rfl
     ·rw[y6 (zX h3)]
      exact none (fun h=>h3 h.2.2.1) rfl
    ·rw[y6 (zX (QM (l:=xs) (k:=3) (fun h=>h4 (by omega))))]
     exact none (fun h=>h4 h.2.1) rfl
  ·rw[if_pos k5,y6 (zX k5)]
   exact⟨by decide,m1,rfl⟩
end Go.Eng
/-! a step of a machine: the reference's side: the stack,the frames,calls -/
namespace Go.Eng
noncomputable section
open Go.Proofs Go.Proofs.Tryz
set_option maxHeartbeats 4000000

abbrev eMo (m:Mc):D:=.op [.os (5,0) (m.pool.map eN),iN m.at',iN m.s,iN m.e,iN m.d,iN m.state,iN m.ask,iN m.arg]
def Rj (c:Cd)(X:Option Ret)(r:Except Int Mc):Prop:=match r with
 |.ok m=>X=some (iN 0,[eMo m])
 |.error h=>(h≠0/\∃m',X=some (iN h,[eMo m']))\/(h=7/\∃m',Ce c m'.at'=false/\X=some (iN 0,[eMo m']))
theorem YA {c:Cd}{X:Option Ret}{m:Mc}(h:Rj c X (.ok m)):X=some (iN 0,[eMo m]):=h
theorem UM {c:Cd}{X:Option Ret}{h:Int}(e:Rj c X (.error h)):(h≠0/\∃m',X=some (iN h,[eMo m']))\/(h=7/\∃m',Ce c m'.at'=false/\X=some (iN 0,[eMo m'])):=e
theorem Ol {c:Cd}{X Y:Option Ret}{r:Except Int Mc}(h:Rj c X r)(hy:∀q m',X=some (iN q,[eMo m'])->Y=some (iN q,[eMo m'])):Rj c Y r:=by
 cases r with
 |ok m=>exact hy _ _ (YA h)
 |error q=>
  rcases UM h with ⟨q0,m',hx⟩|⟨q7,m',hp,hx⟩
  ·exact .inl ⟨q0,m',hy _ _ hx⟩
  ·exact .inr ⟨q7,m',hp,hy _ _ hx⟩
theorem AU {c:Cd}{X:Option Ret}{h:Int}(m:Mc)(h0:h≠0)(e:X=some (iN h,[eMo m])):Rj c X (.error h):=.inl ⟨h0,m,e⟩

theorem JE {m:Mc}(hl:m.pool.length<4294967296)(v:Int):V 95 [eMo m,iN v]=some (.tup [],[eMo (Je m v)]):=by
 have h:=AP hl (ndP v m.s)
 rw[Zz,Ak h]
 rfl
theorem Rh {m:Mc}(hs:InP m.pool m.s){v:Int}{m':Mc}(h:DN m=some (v,m')):V 218 [eMo m]=some (.tup [iN v,.bool true],[eMo m']):=by
 unfold DN at h
 rw[QC,FC hs]
 split at h
 ·rename_i h5
  cases h
  rw[yp (zW h5)]
 ·cases h
theorem KW {m:Mc}(hs:InP m.pool m.s)(h:DN m=none):V 218 [eMo m]=some (.tup [iN 0,.bool false],[eMo m]):=by
 unfold DN at h
 rw[QC,FC hs]
 split at h
 ·cases h
 ·rename_i h5
  rw[y6 (zX h5)]
theorem UY {p:List Nd}(hp:Ah p):∀(k:Nat) (v:Int),InP p v->k<4611686018427387904 ->
  Iu v (k:Int) (p.map eN)=some (alD (Jy p k v),[])
 |0,v,hv,hk=>by
  rw[LF,yp (decide_eq_false (by omega)),Nj hv]
  unfold Jy
  by_cases h5:(nod p v).kind=5
  ·rw[if_pos h5,yp (zW h5),adh hv];rfl
  ·rw[if_neg h5,y6 (zX h5)];rfl
 |k+1,v,hv,hk=>by
  have hw:w6 (((k+1:Nat):Int)-1)=(k:Int):=by rw[w64 (by omega) (by omega)];omega
  rw[LF,y6 (decide_eq_true (by omega)),Nj hv]
  unfold Jy
  by_cases h5:(nod p v).kind=5
  ·have ih:=UY hp k (nod p v).b (Pw hp hv h5) (by omega)
   rw[if_pos h5,y6 (zU h5),adi hv,hw,ih]
  ·rw[if_neg h5,yp (zT h5),Nj hv,y6 (zX h5)];rfl
theorem ab8 {p:List Nd}(hp:Ah p){v:Int}(hv:InP p v){n:Int}(h0:0<=n)(h1:n<4611686018427387904):V 216 [eP p,iN v,iN n]=some (alD (Jy p n.toNat v),[]):=by
 have:=UY hp n.toNat v hv (by omega)
 rw[Int.toNat_of_nonneg h0]at this
 rw[Zy]
 exact this
theorem PB {p:List Nd}(hp:Ah p)(hl:p.length<4294967290):∀(k:Nat) (v:Int) (acc:List Int),InP p v->v<k->acc.length+k<4294967296 ->
  Fm v (p.map eN) (acc.map eI)=some (.tup [.os (1,0) ((if (Gq p k v).2=true then acc++(Gq p k v).1 else []).map eI),.bool (Gq p k v).2],[])
 |0,v,acc,hv,hk,ha=>by omega
 |k+1,v,acc,hv,hk,ha=>by
  rw[Pb,Nj hv]
  unfold Gq
  by_cases h5:(nod p v).kind=5
  ·have hb:=Az (Jm hp hv) h5
   have ih:=PB hp hl k (nod p v).b (acc++[(nod p v).a]) (Pw hp hv h5) (by omega) (by simp only[lnA,lnC,lnN];omega)
   have ea:acc.map eI++[iN (nod p v).a]=(acc++[(nod p v).a]).map eI:=by simp
   have hlim:decide (ni ((acc++[(nod p v).a]).map eI).length<=LIM)=true:=decide_eq_true (by rw[qA];simp only[ni,lnM,lnA,lnC,lnN];omega)
   rw[if_pos h5,y6 (zU h5),adh hv,ea,zJ hlim,zO,adi hv,ih]
   simp
  ·rw[if_neg h5,yp (zT h5),Nj hv]
   by_cases h1:(nod p v).kind=1
   ·rw[yp (zW h1)];simp[h1]
   ·rw[y6 (zX h1)];simp[h1]
theorem Ki {p:List Nd}(hp:Ah p)(hl:p.length<2147483648){v:Int}(hv:InP p v):V 228 [eP p,iN v]=some (.tup [.os (1,0) ((if (Bc p v).2=true then (Bc p v).1 else []).map eI),.bool (Bc p v).2],[]):=by
 have:=PB hp (by omega) (v.toNat+1) v [] hv (by omega) (by simp only[lnN];omega)
 rw[Ub]
 simp only[List.nil_append]at this
 exact this
def NF (p:List Nd)(v:Int)(many:Nat):Option (Int×List Int):=if (Bc p v).2=true/\(Bc p v).1.length=many/\(nod p ((Bc p v).1.getD 0 0)).kind=3 then some ((nod p ((Bc p v).1.getD 0 0)).n,(Bc p v).1.drop 1) else none
theorem Wq {c:Cd}{p:List Nd}{v:Int}{many:Nat}(hm:0<many):GJ c p v many=match NF p v many with
  |none=>none
  |some (n,r)=>if Ce c n=true then some (n,r) else none:=by
 rw[Uj (xs:=(Bc p v).1) (b:=(Bc p v).2) rfl hm]
 unfold NF
 by_cases h:(Bc p v).2=true/\(Bc p v).1.length=many/\(nod p ((Bc p v).1.getD 0 0)).kind=3
 ·rw[if_pos h]
  simp only
  by_cases h2:Ce c (nod p ((Bc p v).1.getD 0 0)).n=true
  ·rw[if_pos ⟨h.1,h.2.1,h.2.2,h2⟩,if_pos h2]
  ·rw[if_neg (fun q=>h2 q.2.2.2),if_neg h2]
 ·rw[if_neg h,if_neg (fun q=>h ⟨q.1,q.2.1,q.2.2.1⟩)]
theorem Ui {p:List Nd}{v:Int}{many:Nat}{n:Int}{r:List Int}(hm:0<many)(h:NF p v many=some (n,r)):r.length+1=many:=by
 unfold NF at h
 split at h
 ·rename_i hh;cases h;rw[List.length_drop];omega
 ·cases h
def frD (r:Option (Int×List Int)):D:=match r with|some (n,l)=>.tup [iN n,.os (1,0) (l.map eI),.bool true] | none=>.tup [iN 0,.os (1,0) [],.bool false]
theorem W7 {p:List Nd}(hp:Ah p)(hl:p.length<2147483648){v:Int}(hv:InP p v){many:Nat}(hm:0<many):V 234 [eP p,iN v,iN (many:Int)]=some (frD (NF p v many),[]):=by
 have hlst:=Ki hp hl hv
 have hin:=KO hp hv
 rw[VI,FP hlst]
 unfold NF
 cases hb:(Bc p v).2 with
 |false=>rw[if_neg (fun h=>by simp at h)];rfl
 |true=>
  rw[if_pos rfl,Bool.not_true,y0]
  by_cases h4:(Bc p v).1.length=many
  ·cases hq:(Bc p v).1 with
   |nil=>rw[hq]at h4;simp at h4;omega
   |cons a r=>
    rw[hq]at hin h4
    have ha:=hin a (by simp)
    rw[yp (zW (J4 (by rw[h4]))),BQ,Nj ha]
    by_cases h3:(nod p a).kind=3
    ·rw[yp (zW h3),BQ,acf ha,zJ (by simp[df];omega),WK,if_pos ⟨rfl,h4,h3⟩]
     rfl
    ·rw[y6 (zX h3),if_neg (fun h=>h3 h.2.2)];rfl
  ·rw[y6 (zX (QM (fun h=>h4 (by omega)))),if_neg (fun h=>h4 h.2.1)];rfl

theorem acK {p:List Nd}{n q:Int}{l:List Int}(h12:1<=n/\n<=12)(hargs:(l.length:Int)=Am n)(hr:GW p n l=.error q):q=3\/q=4:=by
 rw[Ml h12 hargs]at hr
 split at hr
 ·split at hr
  ·cases hr
  ·split at hr
   ·cases hr
   ·split at hr
    ·cases hr
    ·cases hr;exact .inr rfl
 ·cases hr;exact .inl rfl
theorem WZ {c:Cd}(hc:c.list.length<=400):∀(k:Nat) {m:Mc} {f:Int} {l:List Int},RunM c m->Ce c (m.at'+1)=true->m.pool.length+100*k<2147483600->InP m.pool f->(∀v∈l,InP m.pool v)->l.length<=4->EZ c k m f l≠.error 0 ->
  Rj c (V 233 [eCd c,eMo m,iN f,.rs (1,0) (l.map eI),iN (m.at'+1)]) (EZ c k m f l)
 |0,m,f,l,h,hnx,hl,hf,hv,h4,h0=>absurd rfl h0
 |k+1,m,f,l,h,hnx,hl,hf,hv,h4,h0=>by
  have hok:=Jm h.gm.ok hf
  have hpl:=isPl_iff.1 h.pl
  rw[VH,FC hf]
  unfold EZ at h0⊢
  simp only at h0⊢
  by_cases h6:(nod m.pool f).kind=6
  ·rw[if_pos h6,y6 (zU h6)]
   have hfn:0<=(nod m.pool f).n/\(nod m.pool f).n<=1000000000:=by
    simp[okN,h6]at hok
    exact wi_iff.1 hok.1
   have t1:Int.tmod (nod m.pool f).n 8=(nod m.pool f).n % 8:=Int.tmod_eq_emod_of_nonneg hfn.1
   have t2:Int.tdiv (nod m.pool f).n 8=(nod m.pool f).n / 8:=Int.tdiv_eq_ediv_of_nonneg hfn.1
   rw[zJ (by decide),t1,t2]
   unfold GH
   by_cases h1:(nod m.pool f).n % 8=(l.length:Int)
   ·rw[if_neg (by omega),yp (zW (by rw[J4 rfl];exact h1)),zJ (by decide),w64 (n:=(nod m.pool f).n / 8) (by omega) (by omega),lnM]
    cases h2:Ce c ((nod m.pool f).n / 8) with
    |false=>
     have:¬((nod m.pool f).n / 8<=(c.list.length:Int)-1):=fun h=>by
      have:=isPl_iff.2 ⟨by omega,h⟩
      rw[h2]at this;cases this
     rw[if_pos rfl,y6 (decide_eq_true (by simp only[ni];omega))]
     exact AU m (by decide) rfl
    |true=>
     have h2':=isPl_iff.1 h2
     rw[if_neg (by simp),yp (decide_eq_false (by simp only[ni];omega))]
     have a1:=AP (p:=m.pool) (by omega) (ndI (m.at'+1))
     have l1:=Ft (m.pool++[ndI (m.at'+1)]) [(m.pool.length:Int),m.s,m.e]
     simp only[lnA,lnC,lnN]at l1
     have a2:V 210 [rP (m.pool++[ndI (m.at'+1)]),.rs (1,0) [iN (m.pool.length:Int),iN m.s,iN m.e]]=_:=OL (q:=m.pool++[ndI (m.at'+1)]) (row:=[(m.pool.length:Int),m.s,m.e]) (by simp only[lnA,lnC,lnN];omega)
     have a3:=AP (p:=(Ac (m.pool++[ndI (m.at'+1)]) [(m.pool.length:Int),m.s,m.e]).1) (by omega) (ndP (Ac (m.pool++[ndI (m.at'+1)]) [(m.pool.length:Int),m.s,m.e]).2 m.d)
     rw[Ak a1,Gk a2,Ak a3]
     generalize hB:Ac (m.pool++[ndI (m.at'+1)]) [(m.pool.length:Int),m.s,m.e]=B at l1⊢
     have l2:=Ft (B.1++[ndP B.2 m.d]) l
     simp only[lnA,lnC,lnN]at l2
     have a4:=OL (q:=B.1++[ndP B.2 m.d]) (row:=l) (by simp only[lnA,lnC,lnN];omega)
     have a5:=AP (p:=(Ac (B.1++[ndP B.2 m.d]) l).1) (by omega) (ndP (Ac (B.1++[ndP B.2 m.d]) l).2 (nod m.pool f).a)
     have a6:=AP (p:=(Ac (B.1++[ndP B.2 m.d]) l).1++[ndP (Ac (B.1++[ndP B.2 m.d]) l).2 (nod m.pool f).a]) (by simp only[lnA,lnC,lnN];omega) ndN
     have e6:(((Ac (B.1++[ndP B.2 m.d]) l).1++[ndP (Ac (B.1++[ndP B.2 m.d]) l).2 (nod m.pool f).a]).length:Int)=(Ac (B.1++[ndP B.2 m.d]) l).1.length+1:=by simp
     rw[e6]at a6
     rw[Gk a4,Ak a5,Ak a6,zJ (by decide)]
     rfl
   ·rw[if_pos h1,y6 (zX (by rw[J4 rfl];exact h1))]
    exact AU m (by decide) rfl
  rw[if_neg h6]at h0⊢
  rw[yp (zT h6)]
  by_cases h8:(nod m.pool f).kind=8
  ·rw[if_pos h8]at h0⊢
   rw[y6 (zU h8)]
   have prim:Rj c (V 240 [eCd c,eMo m,iN (nod m.pool f).n,.rs (1,0) (l.map eI),iN (m.at'+1)]) (if Am (nod m.pool f).n≠(l.length:Int) then .error 2
     else if (nod m.pool f).n=18 then
      EZ c k ⟨(Ac (m.pool++[ndI (m.at'+1)]) [(m.pool.length:Int),m.s,m.e,m.d]).1++[ndK (Ac (m.pool++[ndI (m.at'+1)]) [(m.pool.length:Int),m.s,m.e,m.d]).2],m.at',m.s,m.e,m.d,m.state,m.ask,m.arg⟩ (l.getD 0 0) [((Ac (m.pool++[ndI (m.at'+1)]) [(m.pool.length:Int),m.s,m.e,m.d]).1.length:Int)]
     else if (nod m.pool f).n>12 then
      .ok ⟨(Ac m.pool l).1,m.at',m.s,m.e,m.d,1,(nod m.pool f).n,(Ac m.pool l).2⟩
     else match GW m.pool (nod m.pool f).n l with
      |.error h=>.error (h+1)
      |.ok (p,v)=>.ok ⟨p++[ndP v m.s],m.at'+1,p.length,m.e,m.d,m.state,m.ask,m.arg⟩):=by
    rw[Yb,VO Th]
    by_cases hargs:Am (nod m.pool f).n=(l.length:Int)
    ·have hargs':¬Am (nod m.pool f).n≠(l.length:Int):=fun h=>h hargs
     obtain⟨n1,n19,l2⟩:=Fi hargs
     rw[if_neg hargs']at h0⊢
     rw[yp (zW (J4 hargs.symm))]
     by_cases h18:(nod m.pool f).n=18
     ·rw[if_pos h18]at h0⊢
      rw[y6 (zU h18)]
      obtain⟨v,rfl⟩:∃v,l=[v]:=by
       rw[h18]at hargs
       match l,hargs with
       |[v],_=>exact⟨v,rfl⟩
       |[],h=>cases h
       |_::_::r,h=>simp only[lnC]at h;have:Am 18=1:=rfl;omega
      have a1:=AP (p:=m.pool) (by omega) (ndI (m.at'+1))
      have l1:=Ft (m.pool++[ndI (m.at'+1)]) [(m.pool.length:Int),m.s,m.e,m.d]
      simp only[lnA,lnC,lnN]at l1
      have a2:V 210 [rP (m.pool++[ndI (m.at'+1)]),.rs (1,0) [iN (m.pool.length:Int),iN m.s,iN m.e,iN m.d]]=_:=OL (q:=m.pool++[ndI (m.at'+1)]) (row:=[(m.pool.length:Int),m.s,m.e,m.d]) (by simp only[lnA,lnC,lnN];omega)
      have o1:Ah (m.pool++[ndI (m.at'+1)]):=AA h.gm.ok (QW (by omega))
      obtain⟨b1,⟨t,b2,b3⟩,b4⟩:=Fa (row:=[(m.pool.length:Int),m.s,m.e,m.d]) o1 (fun v hv=>by
       simp only[List.mem_cons,List.not_mem_nil,or_false]at hv
       rcases hv with rfl|rfl|rfl|rfl
       ·exact Cj _ _
       ·exact Ai _ h.gm.s
       ·exact Ai _ h.gm.e
       ·exact Ai _ h.gm.d)
      have e1:(Ac (m.pool++[ndI (m.at'+1)]) [(m.pool.length:Int),m.s,m.e,m.d]).1=m.pool++(ndI (m.at'+1)::t):=by rw[b2];simp
      have up:∀{v:Int},InP m.pool v->InP ((Ac (m.pool++[ndI (m.at'+1)]) [(m.pool.length:Int),m.s,m.e,m.d]).1++[ndK ((Ac (m.pool++[ndI (m.at'+1)]) [(m.pool.length:Int),m.s,m.e,m.d]).2:Int)]) v:=fun hv=>Ai _ (by rw[e1];exact Ai _ hv)
      have g2:RunM c ⟨(Ac (m.pool++[ndI (m.at'+1)]) [(m.pool.length:Int),m.s,m.e,m.d]).1++[ndK ((Ac (m.pool++[ndI (m.at'+1)]) [(m.pool.length:Int),m.s,m.e,m.d]).2:Int)],m.at',m.s,m.e,m.d,m.state,m.ask,m.arg⟩:=
       ⟨⟨AA b1 (Tt b4),up h.gm.s,up h.gm.e,up h.gm.d⟩,h.st,h.ask,h.arg,h.pl⟩
      rw[Ak a1,Gk a2]
      generalize hB:Ac (m.pool++[ndI (m.at'+1)]) [(m.pool.length:Int),m.s,m.e,m.d]=B at l1 b1 b2 b4 e1 up g2 h0⊢
      have a3:=AP (p:=B.1) (by omega) (ndK (B.2:Int))
      have a4:=WZ hc k g2 hnx (by show (B.1++[ndK (B.2:Int)]).length+100*k<_;simp only[lnA,lnC,lnN];omega) (up (hv v (by simp))) (l:=[(B.1.length:Int)]) (fun u hu=>by
       simp only[List.mem_singleton]at hu;subst hu;exact Cj _ _) (by simp) h0
      rw[Ak a3,BQ]
      simp only[List.getD_cons_zero]at a4⊢
      simp only[List.map_cons,List.map_nil]at a4
      exact Ol a4 (fun q m' hx=>by rw[QU hx])
     rw[if_neg h18]at h0⊢
     rw[yp (zT h18)]
     by_cases h12:(nod m.pool f).n>12
     ·rw[if_pos h12,y6 (decide_eq_true h12)]
      have a1:=OL (q:=m.pool) (row:=l) (by omega)
      rw[Gk a1]
      rfl
     rw[if_neg h12,yp (decide_eq_false h12)]
     have hp:=afG h.gm.ok (by omega) (n:=(nod m.pool f).n) hv (by omega) hargs.symm
     cases hr:GW m.pool (nod m.pool f).n l with
     |error q=>
      rw[hr]at hp
      have hq:=acK (by omega) hargs.symm hr
      rw[WG hp]
      rcases hq with rfl|rfl
      ·exact AU m (by decide) rfl
      ·exact AU m (by decide) rfl
     |ok r=>
      obtain⟨p,v⟩:=r
      rw[hr]at hp
      obtain⟨q1,q2,t,q3,q4⟩:=UQ h.gm.ok hv (by omega) hargs.symm hr
      have hpl':p.length<4294967296:=by rw[q3];simp only[lnA];omega
      have a3:=JE (m:=⟨p,m.at',m.s,m.e,m.d,m.state,m.ask,m.arg⟩) hpl' v
      rw[WG hp,yp (zT (by omega)),yp (zT (by omega)),CQ a3]
      rfl
    ·rw[if_pos hargs,y6 (zX (QM (fun h=>hargs h.symm)))]
     exact AU m (by decide) rfl
   exact Ol prim (fun q m' hx=>by rw[aaa hx])
  rw[if_neg h8,yp (zT h8)]
  by_cases h7:(nod m.pool f).kind=7
  ·rw[if_pos h7,y6 (zU h7)]
   unfold QX
   by_cases h1:l.length=1
   ·have hs:=NY h.gm.ok hf (.inr (.inr h7))
    have hfr:V 234 [eP m.pool,iN (nod m.pool f).a,iN 4]=_:=W7 h.gm.ok (by omega) hs (many:=4) (by omega)
    rw[if_neg (by omega),yp (zW (J4 (by omega))),Wq (by omega)]
    obtain⟨v,rfl⟩:∃v,l=[v]:=by
     match l,h1 with
     |[v],_=>exact⟨v,rfl⟩
     |[],h=>simp at h
     |_::_::_,h=>simp at h
    cases hq:NF m.pool (nod m.pool f).a 4 with
    |none=>
     rw[hq]at hfr
     rw[Fw hfr]
     exact AU m (by decide) rfl
    |some nr=>
     obtain⟨n,r⟩:=nr
     rw[hq]at hfr
     have hlen:=Ui (by omega) hq
     obtain⟨s,e,d,rfl⟩:∃s e d,r=[s,e,d]:=by
      match r,hlen with
      |[s,e,d],_=>exact⟨s,e,d,rfl⟩
      |[],h=>simp at h
      |[_],h=>simp at h
      |[_,_],h=>simp at h
      |_::_::_::_::_,h=>simp at h
     have a3:=JE (m:=⟨m.pool,n,s,e,d,m.state,m.ask,m.arg⟩) (by show m.pool.length<_;omega) v
     by_cases h5:Ce c n=true
     ·simp only[h5,if_true]
      rw[Fw hfr,Bool.not_true,y0,BQ,GK,Yh,BQ,CQ a3]
      rfl
     ·have h5f:Ce c n=false:=by cases hz:Ce c n with|true=>exact absurd hz h5|false=>rfl
      simp only[h5f]
      refine .inr ⟨rfl,Je ⟨m.pool,n,s,e,d,m.state,m.ask,m.arg⟩ v,h5f,?_⟩
      rw[Fw hfr,Bool.not_true,y0,BQ,GK,Yh,BQ,CQ a3]
   ·rw[if_pos h1,y6 (zX (QM (l:=l) (k:=1) (fun h=>h1 (by omega))))]
    exact AU m (by decide) rfl
  ·rw[if_neg h7,yp (zT h7)]
   exact AU m (by decide) rfl
end
end Go.Eng
/-! a step of a machine: the program's side: every instruction; runs -/
namespace Go.Eng
open Go.Proofs Go.Proofs.Tryz
set_option maxHeartbeats 4000000

theorem RZ {q:List Nd}{v:Int}(hv:InP q v):Ar q [v]=true:=by
 simp only[Ar,List.all_cons,List.all_nil,Bool.and_true]
 exact wi_iff.2 ⟨hv.1,by omega⟩
theorem ZI {l:List Int}{v:Int}(h:0<=v/\v<(l.length:Int)){R:Type}(K:Int->Option R):grd (decide (0<=v)&&decide (v<ni (l.map eI).length)) (dd (l.map eI) v.toNat fun x=>asI .i64 x fun n=>K n)=K (l.getD v.toNat 0):=by
 obtain⟨u,hu⟩:=Gc (l:=l) h.1 h.2
 rw[IZ h.1 hu]
 simp[hu]
theorem abu {q acc:List Nd}(hp:Af q=true){v:Int}(hv:InP q v)(hc:acc.length+q.length<4294967296):V 93 [rP acc,eP q,iN v]=some (iN (BW (-1) q v acc).2,[rP (BW (-1) q v acc).1]):=by
 have hm:V 137 [rP acc,eP q,.rs (1,0) [iN v]]=_:=aay (acc:=acc) hp (rs:=[v]) (by simp) (RZ hv) hc
 have hl:(Ba (-1) q [v] acc).1.length=q.length:=by unfold Ba;rw[Fc];simp
 rw[Pd,Od hm,ZI ⟨hv.1,by rw[hl];exact hv.2⟩]
 rfl
theorem JG {c:Cd}(_:c.list.length<=400){m:Mc}{n:Int}{X:Option Ret} (h:X=match Ce c n with
  |false=>some (iN 7,[eSt c m])
  |true=>some (iN 0,[eSt c ⟨m.pool,n,m.s,m.e,m.d,m.state,m.ask,m.arg⟩])):PJ c X (goM c (.ok m) n):=by
 unfold goM
 cases hp:Ce c n with
 |false=>rw[hp]at h;exact⟨by decide,m,h⟩
 |true=>rw[hp]at h;exact h
theorem abC {c:Cd}(hf:FitsC c)(hok:AX c=true){m:Mc}(hr:RunM c m)(hl:m.pool.length<=3000){x:In}{k:Nat}(hx:c.list[k]? = some x):PJ c (V 134 [eSt c m,eIn x]) (D7 c m x):=by
 obtain⟨c1,c2,c3⟩:=AM hok
 have cl:=Aq c1
 have hin:=Gn hok hx
 have hat:=isPl_iff.1 hr.pl
 have w1:w6 (m.at'+1)=m.at'+1:=w64 (by omega) (by omega)
 rw[Pg]
 unfold D7
 by_cases h1:x.op=1
 ·have hlit:=Oi hin h1
  have f:=IW c1 hr.gm.ok hlit (-1)
  obtain⟨f1,f2,t,f3,f4⟩:=f
  have hlen:=congrArg List.length f3
  rw[lnA]at hlen
  have h2:=abu (acc:=m.pool) c1 hlit (by omega)
  have h3:=Jj (c:=c) (m:=⟨(BW (-1) c.pool x.n m.pool).1,m.at',m.s,m.e,m.d,m.state,m.ask,m.arg⟩) (by show (BW (-1) c.pool x.n m.pool).1.length<_;omega) (BW (-1) c.pool x.n m.pool).2
  rw[if_pos h1,y6 (zU h1),RU h2,Ct h3,w1,Bg (Ik c2 _)]
  refine JG c2 ?_
  cases Ce c (m.at'+1)<;>rfl
 rw[if_neg h1,yp (zT h1)]
 by_cases h2:x.op=2
 ·have hv:=UL hin h2
  have hX:=VY (c:=c) (m:=m) hr.gm.ok (by omega) hr.gm.e (o:=x.n) (i:=x.i) (by omega) (by omega) (by omega) (by omega)
  rw[if_pos h2,y6 (zU h2)]
  cases e:Tj m x.n x.i with
  |ok m'=>
   rw[e]at hX
   rw[Jt (Iw hX),y6 (zU rfl),w1,Bg (Ik c2 _)]
   refine JG c2 ?_
   cases Ce c (m.at'+1)<;>rfl
  |error q=>
   rw[e]at hX
   obtain⟨q0,m',hx'⟩:=FU hX
   rw[Jt hx',yp (zT q0),w1]
   exact⟨q0,⟨m'.pool,m.at'+1,m'.s,m'.e,m'.d,m'.state,m'.ask,m'.arg⟩,rfl⟩
 rw[if_neg h2,yp (zT h2)]
 by_cases h3:x.op=3
 ·have hX:=aaD hf hok (m:=m) (by omega) x.s
  rw[if_pos h3,y6 (zU h3)]
  cases e:J0 c m x.s with
  |ok m'=>
   rw[e]at hX
   rw[KT (Iw hX),y6 (zU rfl),w1,Bg (Ik c2 _)]
   refine JG c2 ?_
   cases Ce c (m.at'+1)<;>rfl
  |error q=>
   rw[e]at hX
   obtain⟨q0,m',hx'⟩:=FU hX
   rw[KT hx',yp (zT q0),w1]
   exact⟨q0,⟨m'.pool,m.at'+1,m'.s,m'.e,m'.d,m'.state,m'.ask,m'.arg⟩,rfl⟩
 rw[if_neg h3,yp (zT h3)]
 by_cases h5:x.op=5
 ·rw[if_pos h5,y6 (zU h5),Bg (Ik c2 _)]
  refine JG c2 ?_
  cases Ce c x.n<;>rfl
 rw[if_neg h5,yp (zT h5)]
 by_cases h6:x.op=6
 ·have hfn:=QV hin h6
  have h7:=Kg (p:=m.pool) (by omega) (ndF (8*x.n+x.i) m.e)
  have h8:=Jj (c:=c) (m:=⟨m.pool++[ndF (8*x.n+x.i) m.e],m.at',m.s,m.e,m.d,m.state,m.ask,m.arg⟩) (by simp;omega) m.pool.length
  rw[if_pos h6,y6 (zU h6),w64 (n:=8*x.n) (by omega) (by omega),w64 (n:=8*x.n+x.i) (by omega) (by omega),AW h7,Ct h8,w1,Bg (Ik c2 _)]
  refine JG c2 ?_
  cases Ce c (m.at'+1)<;>rfl
 rw[if_neg h6,yp (zT h6)]
 cases ht:DN m with
 |none=>
  have h1:=Na (c:=c) hr.gm.s ht
  rw[De h1]
  exact⟨by decide,m,rfl⟩
 |some q=>
  obtain⟨v,m1⟩:=q
  have hX:=Sb (c:=c) hr.gm.s ht
  obtain⟨g1,g2,g3,g4,g5,g6,g7,g8⟩:=DP hr.gm ht
  rw[De hX,Bool.not_true,y0,FC g2,w1]
  simp only
  by_cases h4:x.op=4
  ·rw[y6 (zU h4)]
   by_cases k2:(nod m1.pool v).kind=2
   ·rw[y6 (zU k2)]
    by_cases k0:(nod m1.pool v).n=0
    ·rw[y6 (zU k0),if_pos ⟨h4,k2,k0⟩,Bg (Ik c2 _)]
     refine JG c2 ?_
     cases Ce c x.n<;>rfl
    ·rw[yp (zT k0),if_neg (fun h=>k0 h.2.2),Bg (Ik c2 _)]
     refine JG c2 ?_
     cases Ce c (m.at'+1)<;>rfl
   ·rw[yp (zT k2),if_neg (fun h=>k2 h.2.1),Bg (Ik c2 _)]
    refine JG c2 ?_
    cases Ce c (m.at'+1)<;>rfl
  ·rw[yp (zT h4),if_neg (fun h=>h4 h.1),Bg (Ik c2 _)]
   refine JG c2 ?_
   cases Ce c (m.at'+1)<;>rfl

theorem aed {m:Mc}(hl:m.pool.length<=4294967296)(q:Int):V 92 [eMc m,iN q]=some (oMc (Po m q),[]):=by
 rw[Xq,GY (IE hl)]
 rfl
theorem afJ {c:Cd}(hf:FitsC c)(hok:AX c=true){m:Mc}(hr:RunM c m)(hl:m.pool.length<=3000):V 64 [eCd c,eMc m]=some (oMc (Mr c m),[]):=by
 obtain⟨c1,c2,c3⟩:=AM hok
 have cl:=Aq c1
 obtain⟨x,hx⟩:=QZ hr
 have hin:=Gn hok hx
 have hat:=isPl_iff.1 hr.pl
 have hgd:c.list.getD m.at'.toNat ⟨0,0,0,⟨#[]⟩⟩=x:=by rw[List.getD_eq_getElem?_getD,hx];rfl
 have hfail:=fun q=>aed (m:=m) (by omega) q
 have big:∀{m':Mc},doM c m=.ok m'->m'.pool.length<4294967296:=fun e=>by
  obtain⟨g1,⟨t,g2,g3⟩,g4⟩:=TJ hok hr e
  have hlen:=congrArg List.length g2
  rw[lnA]at hlen
  omega
 rw[aa0,GY (IE (by omega)),zJ (by rw[lnM];simp only[ni,Bool.and_eq_true,decide_eq_true_eq];omega),zj hx,adL]
 have hdo:doM c m=if x.op=7 then CK c m x.i.toNat else if x.op=8 then JT c m else D7 c m x:=by unfold doM;rw[hgd]
 unfold Mr
 by_cases h7:x.op=7
 ·rw[if_pos h7]at hdo
  rw[hdo]at big⊢
  have hX:=YO c2 hr hl (O7 hin h7)
  rw[y6 (zU h7)]
  cases e:CK c m x.i.toNat with
  |ok m'=>
   rw[e]at hX
   have hb:=big e
   rw[J7 (Iw hX),y6 (zU rfl),lnM]
   simp only
   by_cases h3:m'.pool.length<=3000
   ·rw[yp (decide_eq_false (by simp only[ni];omega)),yp (zW rfl),if_pos h3]
   ·rw[y6 (decide_eq_true (by simp only[ni];omega)),Gi (hfail 6),if_neg h3]
  |error q=>
   rw[e]at hX
   obtain⟨q0,m',hx'⟩:=FU hX
   rw[J7 hx',yp (zT q0),y6 (zX q0),Gi (hfail q)]
 rw[if_neg h7]at hdo
 rw[yp (zT h7)]
 by_cases h8:x.op=8
 ·rw[if_pos h8]at hdo
  rw[hdo]at big⊢
  have hX:=ac6 c2 hr hl
  rw[y6 (zU h8)]
  cases e:JT c m with
  |ok m'=>
   rw[e]at hX
   have hb:=big e
   rw[Ng (Iw hX),y6 (zU rfl),lnM]
   simp only
   by_cases h3:m'.pool.length<=3000
   ·rw[yp (decide_eq_false (by simp only[ni];omega)),yp (zW rfl),if_pos h3]
   ·rw[y6 (decide_eq_true (by simp only[ni];omega)),Gi (hfail 6),if_neg h3]
  |error q=>
   rw[e]at hX
   obtain⟨q0,m',hx'⟩:=FU hX
   rw[Ng hx',yp (zT q0),y6 (zX q0),Gi (hfail q)]
 rw[if_neg h8]at hdo
 rw[yp (zT h8)]
 rw[hdo]at big⊢
 have hX:=abC hf hok hr hl hx
 cases e:D7 c m x with
 |ok m'=>
  rw[e]at hX
  have hb:=big e
  rw[Mj (Iw hX),y6 (zU rfl),lnM]
  simp only
  by_cases h3:m'.pool.length<=3000
  ·rw[yp (decide_eq_false (by simp only[ni];omega)),yp (zW rfl),if_pos h3]
  ·rw[y6 (decide_eq_true (by simp only[ni];omega)),Gi (hfail 6),if_neg h3]
 |error q=>
  rw[e]at hX
  obtain⟨q0,m',hx'⟩:=FU hX
  rw[Mj hx',yp (zT q0),y6 (zX q0),Gi (hfail q)]
theorem Sr {c:Cd}(hf:FitsC c){m:Mc}(hm:Du m.pool)(hl:m.pool.length<=4294967296):V 17 [eCd c,eMc m]=some (oMc (Mq c m),[]):=by
 have h1:=Ij hf hm (by omega)
 rw[aaX,Og h1]
 unfold Mq
 cases h:DG c m with
 |false=>rw[Bool.not_false,zy,if_neg (by simp)];rfl
 |true=>
  rw[Bool.not_true,y0,if_pos rfl]
  by_cases h0:m.state=0
  ·obtain⟨r1,r2,r3⟩:=J8 h h0
   rw[yp (zW h0),acD (afJ hf r2 r1 r3),if_pos h0]
  ·rw[y6 (zX h0),GY (IE hl),if_neg h0]
noncomputable def VQ (m:Mc) (p:List Nd) (v:Int):Mc:=⟨(BW (-1) p v m.pool).1++[ndP (BW (-1) p v m.pool).2 m.s],m.at'+1,(BW (-1) p v m.pool).1.length,m.e,m.d,0,0,0⟩
noncomputable def MF (c:Cd) (m:Mc) (p:List Nd) (v:Int):Mc:=
 if DG c m=true then
  if m.state=1/\Af p=true/\wi v 0 ((p.length:Int)-1)=true then
   if Ce c (m.at'+1)=true then (if (VQ m p v).pool.length<=3000 then VQ m p v else Po m 6) else Po m 7
  else m
 else acb
end Go.Eng
/-! compiling: the reference's side -/
namespace Go.Eng
noncomputable section
open Go.Proofs Go.Proofs.Tryz
set_option maxHeartbeats 4000000

abbrev eMs (p:List Nd)(m:Ms):D:=.op [.os (5,0) (p.map eN),.os (4,0) (m.list.map eIn),.os (3,0) (m.defs.map eDf),iN m.how]
abbrev eEs (env:List (List ByteArray)):List D:=env.map fun e=>D.rs (1,0) (e.map D.str)
structure Le (m m':Ms):Prop where
 len:m.list.length<=m'.list.length
 four:m'.list.length<=400
 how:m'.how=0->m.how=0
 defs:m'.defs=m.defs
theorem Le.refl {m:Ms}(h:m.list.length<=400):Le m m:=⟨Nat.le_refl _,h,id,rfl⟩
theorem Le.trans {a b c:Ms}(h:Le a b)(h2:Le b c):Le a c:=⟨Nat.le_trans h.len h2.len,h2.four,fun x=>h.how (h2.how x),h2.defs.trans h.defs⟩
theorem Cx {m:Ms}(h:m.list.length<=400)(x:In):Le m (Av m x):=by
 unfold Av
 split
 ·rename_i h0
  split
  ·exact⟨Nat.le_refl _,h,fun _=>h0,rfl⟩
  ·exact⟨by simp,by simp;omega,fun _=>h0,rfl⟩
 ·exact Le.refl h
theorem Tm {m:Ms}(_:m.list.length<=400)(x:In)(h0:(Av m x).how=0):0<=CW m/\CW m<((Av m x).list.length:Int):=by
 unfold Av at h0⊢
 unfold CW
 split at h0
 ·rename_i e
  split at h0
  ·simp at h0
  ·rename_i e2
   rw[if_pos e,if_pos e,if_neg e2,if_neg e2]
   simp
   omega
 ·rename_i e;exact absurd h0 e
theorem WW {m:Ms}(h:m.list.length<=400)(k:Int):Le m (toC m k):=by
 unfold toC
 split
 ·exact⟨by simp,by simpa using h,fun _=>‹_›,rfl⟩
 ·exact Le.refl h
theorem abw {p:List Nd}{m:Ms}(h:m.list.length<=400)(x:In):V 237 [eMs p m,eIn x]=some (iN (CW m),[eMs p (Av m x)]):=by
 have e:m.list.map eIn++[D.agg [iN x.op,iN x.n,iN x.i,D.str x.s]]=(m.list++[x]).map eIn:=by simp
 rw[XO,e]
 unfold Av CW
 by_cases h0:m.how=0
 ·rw[y6 (zU h0),if_pos h0,if_pos h0]
  by_cases h4:m.list.length=400
  ·rw[y6 (zU (J4 (by omega))),if_pos h4,if_pos h4]
  ·rw[yp (zT (QM (by omega))),yp (zW h0),if_neg h4,if_neg h4,zJ (decide_eq_true (by rw[qA,lnM];simp only[ni,lnA,lnC,lnN];omega)),zO,w64 (by rw[lnM];simp only[ni,lnA,lnC,lnN];omega) (by rw[lnM];simp only[ni,lnA,lnC,lnN];omega),h0]
   simp[ni]
 ·rw[yp (zT h0),y6 (zX h0),if_neg h0,if_neg h0]
theorem ae9 {p:List Nd}{m:Ms}(_:m.list.length<=400){k:Int}(hk:m.how=0->0<=k/\k<(m.list.length:Int)):V 253 [eMs p m,iN k]=some (.tup [],[eMs p (toC m k)]):=by
 rw[aa5]
 unfold toC
 by_cases h0:m.how=0
 ·obtain⟨k0,k1⟩:=hk h0
  obtain⟨x,hx⟩:=yM (l:=m.list) (i:=k.toNat) (by omega)
  have hg:m.list.getD k.toNat (inO 0)=x:=by rw[List.getD_eq_getElem?_getD,hx];rfl
  have e:List.set (m.list.map eIn) k.toNat (D.agg (List.take 1 [iN x.op,iN x.n,iN x.i,D.str x.s]++[iN (ni (m.list.map eIn).length)]++List.drop 2 [iN x.op,iN x.n,iN x.i,D.str x.s]))=(m.list.set k.toNat ⟨x.op,m.list.length,x.i,x.s⟩).map eIn:=by
   rw[List.map_set,lnM];rfl
  rw[y6 (zU h0),if_pos h0,zJ (by rw[lnM];simp only[ni,Bool.and_eq_true,decide_eq_true_eq];omega),zj hx,yK,zO,e,hg,h0]
 ·rw[yp (zT h0),if_neg h0]
theorem abz (s:ByteArray):V 238 [.str s]=some (.bool (RY s),[]):=by
 rw[RK]
 unfold RY wrds
 simp only[List.any_cons,List.any_nil,Bool.or_false]
 show br (kJ s (mk [113,117,111,116,101])) (some (D.bool true,[])) (br (kJ s (mk [105,102])) (some (D.bool true,[])) (br (kJ s (mk [102,110])) (some (D.bool true,[])) (br (kJ s (mk [100,111])) (some (D.bool true,[])) (br (kJ s (mk [108,101,116])) (some (D.bool true,[])) (some (D.bool (kJ s (mk [100,101,102,105,110,101])),[]))))))=_
 cases kJ s (mk [113,117,111,116,101])<;>cases kJ s (mk [105,102])<;>cases kJ s (mk [102,110])<;>cases kJ s (mk [100,111])<;>cases kJ s (mk [108,101,116])<;>rfl
theorem aeg {p:List Nd}(m:Ms){v:Int}(hv:InP p v):V 230 [eMs p m,iN v]=some (.tup [.str (nod p v).s,.bool (nmC p v)],[eMs p m]):=by
 rw[XR,FC hv]
 unfold nmC
 by_cases h4:(nod p v).kind=4
 ·rw[y6 (zU h4),Jn (abz _),zU h4,Bool.true_and]
 ·rw[yp (zT h4),zT h4,Bool.false_and]
theorem Qo {p:List Nd}(m:Ms){xs:List Int}(hl:xs.length<=100000)(hx:∀x∈xs,InP p x):∀(k i:Nat) (h:Int) (out:List ByteArray),i+k=xs.length->out.length<=i ->
  Cz (xs.map eI) (i:Int) h (out.map D.str) (p.map eN) (m.list.map eIn) (m.defs.map eDf)=Cm 0 (Pi p (xs.drop i) h out).2 ((Pi p (xs.drop i) h out).1.map D.str) (p.map eN) (m.list.map eIn) (m.defs.map eDf)/\(Pi p (xs.drop i) h out).1.length<=xs.length
 |0,i,h,out,hi,ho=>by
  rw[JP,yp (by rw[lnM];exact zI (by omega)),List.drop_of_length_le (by omega),Pi]
  exact⟨rfl,by show out.length<=_;omega⟩
 |k+1,i,h,out,hi,ho=>by
  obtain⟨x,hg⟩:=yM (l:=xs) (i:=i) (by omega)
  have hp:=hx x (List.mem_of_getElem? hg)
  rw[JP,y6 (by rw[lnM];exact zN (by omega)),vc hg,Pi]
  by_cases h0:h=0
  ·have ea:out.map D.str++[D.str (nod p x).s]=(out++[(nod p x).s]).map D.str:=by simp
   have hlim:decide (ni ((out++[(nod p x).s]).map D.str).length<=LIM)=true:=decide_eq_true (by rw[qA];simp only[ni,lnM,lnA,lnC,lnN];omega)
   have hn:V 230 [.op [.os (5,0) (p.map eN),.os (4,0) (m.list.map eIn),.os (3,0) (m.defs.map eDf),iN h],iN x]=_:=aeg (p:=p) ⟨m.list,m.defs,h⟩ hp
   rw[y6 (zU h0),zJ (by rw[lnM];exact zM (by omega)),Int.toNat_natCast,zj hg,zq,Sj hn,ea,z6 (by omega),if_pos h0]
   have ih:=fun h'=>Qo m hl hx k (i+1) h' (out++[(nod p x).s]) (by omega) (by simp;omega)
   cases hc:nmC p x with
   |false=>rw[Bool.not_false,zy,if_neg (by simp),zJ hlim,zO];exact ih 1
   |true=>rw[Bool.not_true,y0,if_pos rfl,h0,zJ hlim,zO];exact ih 0
  ·rw[yp (zT h0),if_neg h0]
   exact⟨rfl,by show out.length<=_;omega⟩
theorem aaV {p:List Nd}(m:Ms){out:List ByteArray}(hl:out.length<=100000){i:Nat}(hi:i<out.length){s:ByteArray}(hs:out[i]? = some s):∀(k j:Nat) (h:Int),j+k=i ->
  DD (i:Int) (j:Int) h (out.map D.str) (p.map eN) (m.list.map eIn) (m.defs.map eDf)=Cm ((i+1:Nat):Int) (if ((out.take i).drop j).any (fun t=>kJ t s)=true then 2 else h) (out.map D.str) (p.map eN) (m.list.map eIn) (m.defs.map eDf)
 |0,j,h,hj=>by
  rw[Js,yp (decide_eq_false (by omega)),z6 (by omega),List.drop_of_length_le (by simp;omega)]
  rfl
 |k+1,j,h,hj=>by
  obtain⟨t,ht⟩:=yM (l:=out) (i:=j) (by omega)
  have ht2:(out.take i)[j]? = some t:=by rw[List.getElem?_take];rw[if_pos (by omega)];exact ht
  rw[Js,y6 (decide_eq_true (by omega)),zJ (by rw[lnM];exact zM (by omega)),Int.toNat_natCast,zj ht,zw,zJ (by rw[lnM];exact zM (by omega)),Int.toNat_natCast,zj hs,zw,z6 (by omega),aaV m hl hi hs k (j+1) 2 (by omega),aaV m hl hi hs k (j+1) h (by omega),vc ht2,List.any_cons]
  cases kJ t s with
  |true=>rw[zy,Bool.true_or,if_pos rfl];split<;>rfl
  |false=>rw[y0,Bool.false_or]
theorem Zi {p:List Nd}(m:Ms){out:List ByteArray}(hl:out.length<=100000):∀(k i:Nat) (h:Int),i+k=out.length ->
  Cm (i:Int) h (out.map D.str) (p.map eN) (m.list.map eIn) (m.defs.map eDf)=some (.os (1,0) (out.map D.str),[eMs p (Eh m (TM out k i h))])
 |0,i,h,hi=>by
  rw[Jr,yp (by rw[lnM];exact zI (by omega))]
  rfl
 |k+1,i,h,hi=>by
  obtain⟨s,hs⟩:=yM (l:=out) (i:=i) (by omega)
  have hg:out.getD i ⟨#[]⟩=s:=by rw[List.getD_eq_getElem?_getD,hs];rfl
  have hin:=aaV (p:=p) m hl (i:=i) (by omega) hs i 0 h (by omega)
  rw[Int.natCast_zero,List.drop_zero]at hin
  rw[Jr,y6 (by rw[lnM];exact zN (by omega)),hin,Zi m hl k (i+1) _ (by omega),TM,hg]
  by_cases h0:h=0
  ·rw[y6 (zU h0),if_pos h0,h0]
  ·rw[yp (zT h0),if_neg h0]
   rfl
theorem YM {p:List Nd}(m:Ms){xs:List Int}(hl:xs.length<=100000)(hx:∀x∈xs,InP p x):V 231 [eMs p m,.rs (1,0) (xs.map eI)]=some (.os (1,0) ((BJ p xs m.how).1.map D.str),[eMs p (Eh m (BJ p xs m.how).2)])/\(BJ p xs m.how).1.length<=xs.length:=by
 have h:=fun h'=>Qo (p:=p) m hl hx xs.length 0 h' [] (by omega) (by simp)
 simp only[Int.natCast_zero,List.drop_zero,List.map_nil]at h
 have key:∀h',Cz (xs.map eI) 0 h' [] (p.map eN) (m.list.map eIn) (m.defs.map eDf)=some (.os (1,0) ((Pi p xs h' []).1.map D.str),[eMs p (Eh m (TM (Pi p xs h' []).1 (Pi p xs h' []).1.length 0 (Pi p xs h' []).2))]):=fun h'=>by
  have hd:=Zi (p:=p) m (out:=(Pi p xs h' []).1) (by have:=(h h').2;omega) (Pi p xs h' []).1.length 0 (Pi p xs h' []).2 (by omega)
  rw[(h h').1]
  exact hd
 rw[VE,lnM]
 unfold BJ
 by_cases h4:xs.length>4
 ·rw[y6 (decide_eq_true (by simp only[ni];omega)),if_pos h4]
  exact⟨key 1,(h 1).2⟩
 ·rw[yp (decide_eq_false (by simp only[ni];omega)),if_neg h4]
  exact⟨key m.how,(h m.how).2⟩

def vrD (r:Option (Nat×Nat)):D:=match r with|some (n,i)=>.tup [iN n,iN i] | none=>.tup [iN (-1),iN 0]
theorem aek {env:List (List ByteArray)}{s:ByteArray}(h1:env.length<=100000){n:Nat}{e:List ByteArray}(he:env[n]? = some e)(h2:e.length<=100000):∀(k i:Nat),i+k=e.length ->
  Ir (eEs env) s (n:Int) (i:Int)=match aej s (e.drop i) i with
   |some j=>some (.tup [iN n,iN j],[])
   |none=>FK (eEs env) s ((n+1:Nat):Int)
 |0,i,hi=>by
  have hn:=aQ he
  rw[LD,zJ (by rw[lnM];exact zM (by omega)),Int.toNat_natCast,zj he,zu,lnM,yp (zI (by omega)),List.drop_of_length_le (by omega),z6 (by omega)]
  rfl
 |k+1,i,hi=>by
  have hn:=aQ he
  obtain⟨t,ht⟩:=yM (l:=e) (i:=i) (by omega)
  rw[LD,zJ (by rw[lnM];exact zM (by omega)),Int.toNat_natCast,zj he,zu,lnM,y6 (zN (by omega)),zj he,zu,zJ (by rw[lnM];exact zM (by omega)),Int.toNat_natCast,zj ht,zw,vc ht,aej,z6 (by omega),aek h1 he h2 k (i+1) (by omega),zJ (by rw[lnM];exact zM (by omega))]
  cases kJ t s with
  |true=>rw[zy,if_pos rfl]
  |false=>rw[y0,if_neg (by simp)]
theorem aaG {env:List (List ByteArray)}{s:ByteArray}(h1:env.length<=100000)(h2:∀e∈env,e.length<=100000):∀(k n:Nat),n+k=env.length->FK (eEs env) s (n:Int)=some (vrD (ac8 s (env.drop n) n),[])
 |0,n,hn=>by
  rw[Lz,yp (by rw[lnM];exact zI (by omega)),List.drop_of_length_le (by omega)]
  rfl
 |k+1,n,hn=>by
  obtain⟨e,he⟩:=yM (l:=env) (i:=n) (by omega)
  have hi:=aek (s:=s) h1 he (h2 e (List.mem_of_getElem? he)) e.length 0 (by omega)
  rw[Int.natCast_zero,List.drop_zero]at hi
  rw[Lz,y6 (by rw[lnM];exact zN (by omega)),hi,vc he,ac8,aaG h1 h2 k (n+1) (by omega)]
  cases aej s e 0<;>rfl
theorem af6 {env:List (List ByteArray)}(s:ByteArray)(h1:env.length<=100000)(h2:∀e∈env,e.length<=100000):V 248 [.rs (1,1) (eEs env),.str s]=some (vrD (ac8 s env 0),[]):=by
 rw[Zx]
 exact aaG h1 h2 env.length 0 (by omega)
end
end Go.Eng
/-! compiling: the reference's side: expressions -/
namespace Go.Eng
noncomputable section
open Go.Proofs Go.Proofs.Tryz
set_option maxHeartbeats 4000000

theorem abT {p:List Nd}(hp:Ah p):∀(k:Nat) (v:Int),InP p v->∀x∈(Gq p k v).1,x<v
 |0,v,hv,x,hx=>by simp[Gq]at hx
 |k+1,v,hv,x,hx=>by
  unfold Gq at hx
  split at hx
  ·rename_i h5
   have:=Az (Jm hp hv) h5
   rcases List.mem_cons.1 hx with rfl|hx
   ·omega
   ·have:=abT hp k _ (Pw hp hv h5) x hx;omega
  ·simp at hx
theorem aeM {p:List Nd}(hp:Ah p){v:Int}(hv:InP p v):∀x∈(Bc p v).1,x<v:=abT hp _ v hv
theorem QK {p:List Nd}(v:Int):(Bc p v).1.length<=v.toNat+1:=ZO _ _
def Nb (E:List (List ByteArray)->Int->Ms->Ms):Prop:=∀env v (m:Ms),m.list.length<=400->Le m (E env v m)
theorem KZ {m:Ms}(h:m.list.length<=400){k:Int}(hk:k=0->m.how=0):Le m (Eh m k):=⟨Nat.le_refl _,h,hk,rfl⟩
theorem KH {E}(hE:Nb E)(env:List (List ByteArray)):∀(xs:List Int) (f:Bool) (m:Ms),m.list.length<=400->Le m (DR E env xs f m)
 |[],f,m,h=>Le.refl h
 |x::r,f,m,h=>by
  unfold DR
  split
  ·have h1:Le m (if f=true then m else Av m (inO 9)):=by
    split
    ·exact Le.refl h
    ·exact Cx h _
   have h2:=hE env x _ h1.four
   exact (h1.trans h2).trans (KH hE env r false _ h2.four)
  ·exact Le.refl h
theorem abc {E}(hE:Nb E)(names:List ByteArray)(body:List Int)(env:List (List ByteArray)){m:Ms}(h:m.list.length<=400):Le m (S9 E names body env m):=by
 unfold S9
 simp only
 have a1:=Cx h ⟨6,0,names.length,⟨#[]⟩⟩
 have a2:=Cx a1.four (inO 5)
 have a3:=WW a2.four (CW m)
 have a4:=KH hE (names::env) body true _ a3.four
 have a5:=Cx a4.four (inO 8)
 have a6:=WW a5.four (CW (Av m ⟨6,0,names.length,⟨#[]⟩⟩))
 exact ((((a1.trans a2).trans a3).trans a4).trans a5).trans a6
theorem aez (out:List ByteArray):∀(k i:Nat) (h:Int),TM out k i h=0->h=0
 |0,i,h,e=>e
 |k+1,i,h,e=>by
  unfold TM at e
  split at e
  ·assumption
  ·exact e
theorem afy (p:List Nd):∀(xs:List Int) (h:Int) (out:List ByteArray),(Pi p xs h out).2=0->h=0
 |[],h,out,e=>e
 |x::r,h,out,e=>by
  unfold Pi at e
  split at e
  ·assumption
  ·exact e
theorem JH {p:List Nd}{xs:List Int}{h:Int}(e:(BJ p xs h).2=0):h=0:=by
 unfold BJ at e
 have:=afy p xs _ _ (aez _ _ _ _ e)
 split at this
 ·omega
 ·exact this
theorem aeG {E}(hE:Nb E)(p:List Nd)(s:ByteArray)(xs:List Int)(env:List (List ByteArray)){m:Ms}(h:m.list.length<=400):Le m (GI E p s xs env m):=by
 unfold GI
 simp only
 split
 ·exact Cx h _
 split
 ·have a1:=hE env (xs.getD 1 0) m h
  have a2:=Cx a1.four (inO 4)
  have a3:=hE env (xs.getD 2 0) _ a2.four
  have a4:=Cx a3.four (inO 5)
  have a5:=WW a4.four (CW (E env (xs.getD 1 0) m))
  have a6:=hE env (xs.getD 3 0) _ a5.four
  exact (((((a1.trans a2).trans a3).trans a4).trans a5).trans a6).trans (WW a6.four _)
 split
 ·exact KH hE env _ true m h
 split
 ·split
  ·exact KZ h (by omega)
  ·have a1:Le m (Eh m (BJ p (Bc p (xs.getD 1 0)).1 m.how).2):=KZ h JH
   exact a1.trans (abc hE _ _ env a1.four)
 split
 ·have a1:Le m (Eh m (BJ p [xs.getD 1 0] m.how).2):=KZ h JH
  have a2:=abc hE (BJ p [xs.getD 1 0] m.how).1 (xs.drop 3) env a1.four
  have a3:=hE env (xs.getD 2 0) _ a2.four
  exact ((a1.trans a2).trans a3).trans (Cx a3.four _)
 ·exact KZ h (by omega)
theorem abN {E}(hE:Nb E)(env:List (List ByteArray)):∀(xs:List Int) (m:Ms),m.list.length<=400->Le m (xs.foldl (fun m x=>E env x m) m)
 |[],m,h=>Le.refl h
 |x::r,m,h=>by
  have a1:=hE env x m h
  exact a1.trans (abN hE env r _ a1.four)
theorem ML (p:List Nd):∀k,Nb (CM p k)
 |0,env,v,m,h=>Le.refl h
 |k+1,env,v,m,h=>by
  unfold CM
  split
  ·exact Le.refl h
  simp only
  split
  ·exact Cx h _
  split
  ·split
   ·exact KZ h (by omega)
   ·split<;>exact Cx h _
  split
  ·exact KZ h (by omega)
  split
  ·exact KZ h (by omega)
  split
  ·exact aeG (ML p k) p _ _ env h
  split
  ·exact KZ h (by omega)
  ·have a1:=abN (ML p k) env (Bc p v).1 m h
   exact a1.trans (Cx a1.four _)

def Qh (env:List (List ByteArray))(n:Nat):Prop:=env.length+n<=10000/\∀e∈env,e.length<=10000
def Tv (p:List Nd)(k:Nat)(E:List (List ByteArray)->Int->Ms->Ms):Prop:=∀env v (m:Ms),InP p v->v<(k:Int)->Qh env k->m.list.length<=400->V 244 [eMs p m,iN v,.rs (1,1) (eEs env)]=some (.tup [],[eMs p (E env v m)])
section
variable {p:List Nd}{k:Nat}{E:List (List ByteArray)->Int->Ms->Ms}
theorem Rk (hG:Nb E)(hS:Tv p k E){env:List (List ByteArray)}(he:Qh env k){xs:List Int}(hl:xs.length<=100000)(hx:∀x∈xs,InP p x/\x<(k:Int)):∀(j i:Nat) (m:Ms),i+j=xs.length->m.list.length<=400 ->
  EW (xs.map eI) (eEs env) (i:Int) m.how (p.map eN) (m.list.map eIn) (m.defs.map eDf)=some (.tup [],[eMs p (DR E env (xs.drop i) (decide (i=0)) m)])
 |0,i,m,hi,hm=>by
  rw[KE,yp (by rw[lnM];exact zI (by omega)),List.drop_of_length_le (by omega)]
  rfl
 |j+1,i,m,hi,hm=>by
  obtain⟨x,hg⟩:=yM (l:=xs) (i:=i) (by omega)
  obtain⟨x1,x2⟩:=hx x (List.mem_of_getElem? hg)
  rw[KE,y6 (by rw[lnM];exact zN (by omega)),vc hg,DR]
  by_cases h0:m.how=0
  ·rw[y6 (zU h0),if_pos h0]
   by_cases hi0:i=0
   ·have a1:=hS env x m x1 x2 he hm
    have ih:=Rk hG hS he hl hx j (i+1) (E env x m) (by omega) (hG env x m hm).four
    rw[yp (decide_eq_false (by omega)),zJ (by rw[lnM];exact zM (by omega)),Int.toNat_natCast,zj hg,zq,Ff a1,z6 (by omega),ih,decide_eq_true hi0,if_pos rfl,decide_eq_false (by omega)]
   ·have a0:V 237 [eMs p m,.agg [iN 9,iN 0,iN 0,.str ⟨#[]⟩]]=_:=abw (p:=p) hm (inO 9)
    have le:=Cx hm (inO 9)
    have a1:=hS env x _ x1 x2 he le.four
    have ih:=Rk hG hS he hl hx j (i+1) (E env x (Av m (inO 9))) (by omega) (hG env x _ le.four).four
    rw[y6 (decide_eq_true (by omega)),AR a0,zJ (by rw[lnM];exact zM (by omega)),Int.toNat_natCast,zj hg,zq,Ff a1,z6 (by omega),ih,decide_eq_false hi0,if_neg (by simp),decide_eq_false (by omega)]
  ·rw[yp (zT h0),if_neg h0]
theorem abs (hG:Nb E)(hS:Tv p k E){env:List (List ByteArray)}(he:Qh env k){xs:List Int}(hl:xs.length<=100000)(hx:∀x∈xs,InP p x/\x<(k:Int)){m:Ms}(hm:m.list.length<=400):V 236 [eMs p m,.rs (1,0) (xs.map eI),.rs (1,1) (eEs env)]=some (.tup [],[eMs p (DR E env xs true m)]):=by
 have h:=Rk hG hS he hl hx xs.length 0 m (by omega) hm
 rw[XM]
 simpa using h
theorem GP {p:List Nd}{m:Ms}(h:m.list.length<=400)(op n i:Int):V 237 [eMs p m,.agg [iN op,iN n,iN i,.str ⟨#[]⟩]]=some (iN (CW m),[eMs p (Av m ⟨op,n,i,⟨#[]⟩⟩)]):=abw h ⟨op,n,i,⟨#[]⟩⟩
theorem afi (hG:Nb E)(hS:Tv p k E){names:List ByteArray}(hn:names.length<=10000){env:List (List ByteArray)}(he:Qh env (k+1)){xs:List Int}(hl:xs.length<=100000)(hx:∀x∈xs,InP p x/\x<(k:Int)){m:Ms}(hm:m.list.length<=400):V 254 [eMs p m,.rs (1,0) (names.map D.str),.rs (1,0) (xs.map eI),.rs (1,1) (eEs env)]=some (.tup [],[eMs p (S9 E names xs env m)]):=by
 have he1:=he.1
 have e1:[D.rs (1,0) (names.map D.str)]++eEs env=eEs (names::env):=rfl
 have hlim:decide (ni (eEs (names::env)).length<=LIM)=true:=decide_eq_true (by rw[qA];simp only[ni,lnM,lnC];omega)
 have he2:Qh (names::env) k:=⟨by simp only[lnC];omega,fun e h=>by
  rcases List.mem_cons.1 h with rfl|h
  ·exact hn
  ·exact he.2 e h⟩
 have a1:=Cx hm ⟨6,0,names.length,⟨#[]⟩⟩
 have i1:=Tm hm ⟨6,0,names.length,⟨#[]⟩⟩
 have a2:=Cx a1.four (inO 5)
 have i2:=Tm a1.four (inO 5)
 have a3:=WW a2.four (CW m)
 have a4:=KH hG (names::env) xs true _ a3.four
 have a5:=Cx a4.four (inO 8)
 have e0:ni (names.map D.str).length=(names.length:Int):=by rw[lnM]
 have b1:=GP (p:=p) hm 6 0 names.length
 have b2:=GP (p:=p) a1.four 5 0 0
 have b3:=ae9 (p:=p) a2.four (k:=CW m) (fun h=>by have:=i1 (a2.how h);have:=a2.len;omega)
 have b4:=abs hG hS he2 hl hx a3.four
 have b5:=GP (p:=p) a4.four 8 0 0
 have b6:=ae9 (p:=p) a5.four (k:=CW (Av m ⟨6,0,names.length,⟨#[]⟩⟩)) (fun h=>by have:=i2 (a3.how (a4.how (a5.how h)));have:=a5.len;have:=a4.len;have:=a3.len;omega)
 rw[Zu,e0,AR b1,AR b2,OZ b3,e1,zJ hlim,zO,KR b4,AR b5,OZ b6]
 rfl
theorem DL {s:ByteArray}{a b:List UInt8}(h:kJ s (mk a)=true)(hn:a≠b):kJ s (mk b)=false:=by
 rw[DK]at h⊢
 simp only[decide_eq_true_eq,decide_eq_false_iff_not]at h⊢
 intro e
 exact hn (mk_inj.1 (h.symm.trans e))
theorem afE (hp:Ah p)(hl:p.length<100000)(hG:Nb E)(hS:Tv p k E){env:List (List ByteArray)}(he:Qh env (k+1)){xs:List Int}(hn:xs≠[])(hxl:xs.length<=100000)(hx:∀x∈xs,InP p x/\x<(k:Int)){m:Ms}(hm:m.list.length<=400)(s:ByteArray):V 249 [eMs p m,.str s,.rs (1,0) (xs.map eI),.rs (1,1) (eEs env)]=some (.tup [],[eMs p (GI E p s xs env m)]):=by
 have he1:=he.1
 have he2:Qh env k:=⟨by omega,he.2⟩
 have get:∀i:Nat,i<xs.length->InP p (xs.getD i 0)/\xs.getD i 0<(k:Int)/\xs[i]? = some (xs.getD i 0):=fun i hi=>by
  obtain⟨x,hg⟩:=yM (l:=xs) (i:=i) hi
  have e:xs.getD i 0=x:=by rw[List.getD_eq_getElem?_getD,hg];rfl
  obtain⟨g1,g2⟩:=hx x (List.mem_of_getElem? hg)
  rw[e]
  exact⟨g1,g2,hg⟩
 have hdrop:∀n,∀x∈xs.drop n,InP p x/\x<(k:Int):=fun n x h=>hx x (List.mem_of_mem_drop h)
 have hdl:∀n,(xs.drop n).length<=100000:=fun n=>by rw[List.length_drop];omega
 have cut:∀n:Int,0<=n->n<=(xs.length:Int)->df (xs.map eI).length (some n) none=true:=fun n h0 h1=>by simp[df];omega
 have cutd1:xL (xs.map eI) 1=(xs.drop 1).map eI:=by unfold xL;rw[List.map_drop];rfl
 have cutd2:xL (xs.map eI) 2=(xs.drop 2).map eI:=by unfold xL;rw[List.map_drop];rfl
 have cutd3:xL (xs.map eI) 3=(xs.drop 3).map eI:=by unfold xL;rw[List.map_drop];rfl
 have other:∀{a b:List UInt8},kJ s (mk a)=true->a≠b->¬kJ s (mk b)=true:=fun h hn e=>by rw[DL h hn]at e;cases e
 rw[XQ]
 repeat rw[shd_eq]
 unfold GI
 by_cases hq:kJ s (mk [113,117,111,116,101])=true
 ·have tq:kJ s ⟨#[113,117,111,116,101]⟩=true:=hq
  have ti:kJ s ⟨#[105,102]⟩=false:=DL hq (by decide)
  have td:kJ s ⟨#[100,111]⟩=false:=DL hq (by decide)
  have tf:kJ s ⟨#[102,110]⟩=false:=DL hq (by decide)
  have tl:kJ s ⟨#[108,101,116]⟩=false:=DL hq (by decide)
  by_cases h2:xs.length=2
  ·obtain⟨g1,g2,g3⟩:=get 1 (by omega)
   have b1:=GP (p:=p) hm 1 (xs.getD 1 0) 0
   rw[if_pos ⟨hq,h2⟩,y6 tq,y6 (zU (J4 (by omega))),zJ (by rw[lnM];simp only[ni,Bool.and_eq_true,decide_eq_true_eq];omega),zj g3,zq,AR b1]
  ·rw[if_neg (fun h=>h2 h.2),if_neg (fun h=>other hq (by decide) h.1),if_neg (fun h=>other hq (by decide) h.1),if_neg (fun h=>other hq (by decide) h.1),if_neg (fun h=>other hq (by decide) h.1),y6 tq,yp (zT (QM (by omega))),yp ti,yp td,yp tf,yp tl]
   rfl
 have tq:kJ s ⟨#[113,117,111,116,101]⟩=false:=by cases e:kJ s ⟨#[113,117,111,116,101]⟩ with|true=>exact absurd e hq|false=>rfl
 rw[if_neg (fun h=>hq h.1),yp tq]
 by_cases hi:kJ s (mk [105,102])=true
 ·have ti:kJ s ⟨#[105,102]⟩=true:=hi
  have td:kJ s ⟨#[100,111]⟩=false:=DL hi (by decide)
  have tf:kJ s ⟨#[102,110]⟩=false:=DL hi (by decide)
  have tl:kJ s ⟨#[108,101,116]⟩=false:=DL hi (by decide)
  by_cases h4:xs.length=4
  ·obtain⟨g1,g2,g3⟩:=get 1 (by omega)
   obtain⟨g4,g5,g6⟩:=get 2 (by omega)
   obtain⟨g7,g8,g9⟩:=get 3 (by omega)
   have l1:=hG env (xs.getD 1 0) m hm
   have l2:=Cx l1.four (inO 4)
   have i2:=Tm l1.four (inO 4)
   have l3:=hG env (xs.getD 2 0) _ l2.four
   have l4:=Cx l3.four (inO 5)
   have i4:=Tm l3.four (inO 5)
   have l5:=WW l4.four (CW (E env (xs.getD 1 0) m))
   have l6:=hG env (xs.getD 3 0) _ l5.four
   have b1:=hS env (xs.getD 1 0) m g1 g2 he2 hm
   have b2:=GP (p:=p) l1.four 4 0 0
   have b3:=hS env (xs.getD 2 0) _ g4 g5 he2 l2.four
   have b4:=GP (p:=p) l3.four 5 0 0
   have b5:=ae9 (p:=p) l4.four (k:=CW (E env (xs.getD 1 0) m)) (fun h=>by have:=i2 (l3.how (l4.how h));have:=l4.len;have:=l3.len;omega)
   have b6:=hS env (xs.getD 3 0) _ g7 g8 he2 l5.four
   have b7:=ae9 (p:=p) l6.four (k:=CW (E env (xs.getD 2 0) (Av (E env (xs.getD 1 0) m) (inO 4)))) (fun h=>by have:=i4 (l5.how (l6.how h));have:=l6.len;have:=l5.len;omega)
   rw[if_pos ⟨hi,h4⟩,y6 ti,y6 (zU (J4 (by omega))),zJ (by rw[lnM];simp only[ni,Bool.and_eq_true,decide_eq_true_eq];omega),zj g3,zq,Ff b1,AR b2,zJ (by rw[lnM];simp only[ni,Bool.and_eq_true,decide_eq_true_eq];omega),zj g6,zq,Ff b3,AR b4,OZ b5,zJ (by rw[lnM];simp only[ni,Bool.and_eq_true,decide_eq_true_eq];omega),zj g9,zq,Ff b6,OZ b7]
  ·rw[if_neg (fun h=>h4 h.2),if_neg (fun h=>other hi (by decide) h.1),if_neg (fun h=>other hi (by decide) h.1),if_neg (fun h=>other hi (by decide) h.1),y6 ti,yp (zT (QM (by omega))),yp td,yp tf,yp tl]
   rfl
 have ti:kJ s ⟨#[105,102]⟩=false:=by cases e:kJ s ⟨#[105,102]⟩ with|true=>exact absurd e hi|false=>rfl
 rw[if_neg (fun h=>hi h.1),yp ti]
 by_cases hd:kJ s (mk [100,111])=true
 ·have td:kJ s ⟨#[100,111]⟩=true:=hd
  have tf:kJ s ⟨#[102,110]⟩=false:=DL hd (by decide)
  have tl:kJ s ⟨#[108,101,116]⟩=false:=DL hd (by decide)
  by_cases h2:2<=xs.length
  ·have b1:=abs hG hS he2 (hdl 1) (hdrop 1) hm
   rw[if_pos ⟨hd,h2⟩,y6 td,lnM,y6 (decide_eq_true (by simp only[ni];omega)),<-lnM (f:=eI),zJ (cut 1 (by omega) (by omega)),cutd1,KR b1]
  ·rw[if_neg (fun h=>h2 h.2),if_neg (fun h=>other hd (by decide) h.1),if_neg (fun h=>other hd (by decide) h.1),y6 td,yp (decide_eq_false (by rw[lnM];simp only[ni];omega)),yp tf,yp tl]
   rfl
 have td:kJ s ⟨#[100,111]⟩=false:=by cases e:kJ s ⟨#[100,111]⟩ with|true=>exact absurd e hd|false=>rfl
 rw[if_neg (fun h=>hd h.1),yp td]
 by_cases hf:kJ s (mk [102,110])=true
 ·have tf:kJ s ⟨#[102,110]⟩=true:=hf
  have tl:kJ s ⟨#[108,101,116]⟩=false:=DL hf (by decide)
  by_cases h3:3<=xs.length
  ·obtain⟨g1,g2,g3⟩:=get 1 (by omega)
   have b1:=Ki hp (by omega) g1
   rw[if_pos ⟨hf,h3⟩,y6 tf,y6 (decide_eq_true (by rw[lnM];simp only[ni];omega)),zJ (by rw[lnM];simp only[ni,Bool.and_eq_true,decide_eq_true_eq];omega),zj g3,zq,FP b1]
   simp only
   cases hb:(Bc p (xs.getD 1 0)).2 with
   |false=>rw[if_pos rfl,Bool.not_false,zy];rfl
   |true=>
    have ll:=QK (p:=p) (xs.getD 1 0)
    obtain⟨b2,b3⟩:=YM (p:=p) m (xs:=(Bc p (xs.getD 1 0)).1) (by have:=g1.2;omega) (KO hp g1)
    have l1:Le m (Eh m (BJ p (Bc p (xs.getD 1 0)).1 m.how).2):=KZ hm JH
    have b4:=afi hG hS (names:=(BJ p (Bc p (xs.getD 1 0)).1 m.how).1) (by have:=g1.2;omega) he (hdl 2) (hdrop 2) l1.four
    rw[if_pos (rfl:true=true),if_neg (by decide:¬true=false),Bool.not_true,y0,MU b2,zJ (cut 2 (by omega) (by omega)),cutd2,UI b4]
  ·rw[if_neg (fun h=>h3 h.2),if_neg (fun h=>other hf (by decide) h.1),y6 tf,yp (decide_eq_false (by rw[lnM];simp only[ni];omega)),yp tl]
   rfl
 have tf:kJ s ⟨#[102,110]⟩=false:=by cases e:kJ s ⟨#[102,110]⟩ with|true=>exact absurd e hf|false=>rfl
 rw[if_neg (fun h=>hf h.1),yp tf]
 by_cases hl:kJ s (mk [108,101,116])=true
 ·have tl:kJ s ⟨#[108,101,116]⟩=true:=hl
  by_cases h4:4<=xs.length
  ·obtain⟨g1,g2,g3⟩:=get 1 (by omega)
   obtain⟨g4,g5,g6⟩:=get 2 (by omega)
   have ec:xL (xK (xs.map eI) 2) 1=[xs.getD 1 0].map eI:=by
    obtain⟨g7,g8,g9⟩:=get 0 (by omega)
    match xs,h4 with
    |a::b::r,_=>rfl
   obtain⟨b2,b3⟩:=YM (p:=p) m (xs:=[xs.getD 1 0]) (by simp) (fun x h=>by rw[List.mem_singleton.1 h];exact g1)
   have l1:Le m (Eh m (BJ p [xs.getD 1 0] m.how).2):=KZ hm JH
   have b4:=afi hG hS (names:=(BJ p [xs.getD 1 0] m.how).1) (by have:[xs.getD 1 0].length=1:=rfl;omega) he (hdl 3) (hdrop 3) l1.four
   have l2:=abc hG (BJ p [xs.getD 1 0] m.how).1 (xs.drop 3) env l1.four
   have b5:=hS env (xs.getD 2 0) _ g4 g5 he2 l2.four
   have l3:=hG env (xs.getD 2 0) _ l2.four
   have b6:=GP (p:=p) l3.four 7 0 1
   rw[if_pos ⟨hl,h4⟩,y6 tl,y6 (decide_eq_true (by rw[List.length_map];simp only[ni];omega)),zJ (by simp[df];omega),ec,MU b2,zJ (cut 3 (by omega) (by omega)),cutd3,UI b4,zJ (by rw[List.length_map];simp only[ni,Bool.and_eq_true,decide_eq_true_eq];omega),zj g6,zq,Ff b5,AR b6]
  ·rw[if_neg (fun h=>h4 h.2),y6 tl,yp (decide_eq_false (by rw[lnM];simp only[ni];omega))]
   rfl
 have tl:kJ s ⟨#[108,101,116]⟩=false:=by cases e:kJ s ⟨#[108,101,116]⟩ with|true=>exact absurd e hl|false=>rfl
 rw[if_neg (fun h=>hl h.1),yp tl]
 rfl
end
theorem Yk {p:List Nd}{v:Int}(h:(nod p v).kind=5):(Bc p v).1≠[]:=by
 unfold Bc Gq
 rw[if_pos h]
 simp
theorem Wb {p:List Nd}{k:Nat}{E:List (List ByteArray)->Int->Ms->Ms}(hG:Nb E)(hS:Tv p k E){env:List (List ByteArray)}(he:Qh env k){xs:List Int}(hl:xs.length<=100000)(hx:∀x∈xs,InP p x/\x<(k:Int)):∀(j i:Nat) (m:Ms),i+j=xs.length->m.list.length<=400 ->
  CX (eEs env) (i:Int) m.how (xs.map eI) (p.map eN) (m.list.map eIn) (m.defs.map eDf)=some (.tup [],[eMs p (Av ((xs.drop i).foldl (fun m x=>E env x m) m) ⟨7,0,(xs.length:Int)-1,⟨#[]⟩⟩)])
 |0,i,m,hi,hm=>by
  have b:V 237 [eMs p m,.agg [iN 7,iN 0,iN (ni xs.length-1),.str ⟨#[]⟩]]=_:=GP (p:=p) hm 7 0 ((xs.length:Int)-1)
  rw[JO,lnM,yp (zI (by omega)),List.drop_of_length_le (by omega),w64 (n:=ni xs.length-1) (by simp only[ni];omega) (by simp only[ni];omega),AR b]
  rfl
 |j+1,i,m,hi,hm=>by
  obtain⟨x,hg⟩:=yM (l:=xs) (i:=i) (by omega)
  obtain⟨x1,x2⟩:=hx x (List.mem_of_getElem? hg)
  have a1:=hS env x m x1 x2 he hm
  have ih:=Wb hG hS he hl hx j (i+1) (E env x m) (by omega) (hG env x m hm).four
  rw[JO,y6 (by rw[lnM];exact zN (by omega)),zJ (by rw[lnM];exact zM (by omega)),Int.toNat_natCast,zj hg,zq,Ff a1,z6 (by omega),ih,vc hg,List.foldl_cons]
theorem aec {p:List Nd}(hp:Ah p)(hl:p.length<100000):∀k,k<=100000->Tv p k (CM p k)
 |0,hk,env,v,m,hv,hlt,he,hm=>by have:=hv.1;omega
 |k+1,hk,env,v,m,hv,hlt,he,hm=>by
  have ih:=aec hp hl k (by omega)
  have hG:=ML p k
  have he2:Qh env k:=⟨by have:=he.1;omega,he.2⟩
  rw[XP]
  repeat rw[shd_eq]
  unfold CM
  by_cases h0:m.how=0
  ·rw[yp (zW h0),if_neg (fun h=>h h0),FC hv]
   simp only
   have bl:=GP (p:=p) hm 1 v 0
   by_cases k1:(nod p v).kind=1
   ·rw[y6 (zU k1),y6 (zU k1),AR bl,if_pos (.inl k1)]
   rw[yp (zT k1)]
   by_cases k2:(nod p v).kind=2
   ·rw[y6 (zU k2),y6 (zU k2),AR bl,if_pos (.inr (.inl k2))]
   rw[yp (zT k2)]
   by_cases k3:(nod p v).kind=3
   ·rw[y6 (zU k3),AR bl,if_pos (.inr (.inr k3))]
   rw[yp (zT k3),if_neg (by omega)]
   by_cases k4:(nod p v).kind=4
   ·rw[y6 (zU k4),if_pos k4,Jn (abz _)]
    cases hr:RY (nod p v).s with
    |true=>rw[zy,if_pos rfl];rfl
    |false=>
     have hw:=af6 (nod p v).s (env:=env) (by have:=he.1;omega) (fun e h=>by have:=he.2 e h;omega)
     rw[y0,if_neg (by decide)]
     cases hvn:ac8 (nod p v).s env 0 with
     |none=>
      rw[hvn]at hw
      have b:=abw (p:=p) hm ⟨3,0,0,(nod p v).s⟩
      rw[UJ hw,yp (decide_eq_false (by omega)),AR b]
     |some ni=>
      obtain⟨n,i⟩:=ni
      rw[hvn]at hw
      have b:=GP (p:=p) hm 2 n i
      rw[UJ hw,y6 (decide_eq_true (by omega)),AR b]
   rw[yp (zT k4),if_neg k4]
   by_cases k5:(nod p v).kind=5
   ·have b1:=Ki hp (by omega) hv
    rw[yp (zW k5),if_neg (fun h=>h k5),FP b1]
    cases hb:(Bc p v).2 with
    |false=>rw[if_pos rfl,Bool.not_false,zy];rfl
    |true=>
     have ll:=QK (p:=p) v
     have hne:=Yk k5
     have hin:=KO hp hv
     have hlt2:=aeM hp hv
     rw[if_pos (rfl:true=true),if_neg (by decide:¬true=false),Bool.not_true,y0]
     generalize hxs:(Bc p v).1=xs at ll hne hin hlt2⊢
     have hx:∀x∈xs,InP p x/\x<(k:Int):=fun x h=>⟨hin x h,by have:=hlt2 x h;omega⟩
     obtain⟨a,r,rfl⟩:∃a r,xs=a::r:=by
      cases xs with
      |nil=>exact absurd rfl hne
      |cons a r=>exact⟨a,r,rfl⟩
     have ha:=hin a (by simp)
     have hcl:=Wb hG ih he2 (xs:=a::r) (by have:=hv.2;omega) hx (a::r).length 0 m (by omega) hm
     rw[Int.natCast_zero,List.drop_zero]at hcl
     rw[BQ,FC ha]
     simp only[List.getD_cons_zero]
     have fin:(br (decide (ni ((a::r).map eI).length>5)) (some (.tup [],[.op [.os (5,0) (p.map eN),.os (4,0) (m.list.map eIn),.os (3,0) (m.defs.map eDf),iN 1]])) (CX (eEs env) 0 m.how ((a::r).map eI) (p.map eN) (m.list.map eIn) (m.defs.map eDf)))=some (.tup [],[eMs p (if (a::r).length>5 then Eh m 1 else Av ((a::r).foldl (fun m x=>CM p k env x m) m) ⟨7,0,((a::r).length:Int)-1,⟨#[]⟩⟩)]):=by
      rw[lnM]
      by_cases h5:(a::r).length>5
      ·rw[y6 (decide_eq_true (by simp only[ni];omega)),if_pos h5];rfl
      ·rw[yp (decide_eq_false (by simp only[ni];omega)),if_neg h5,hcl]
     by_cases ka:(nod p a).kind=4
     ·rw[y6 (zU ka),Jn (abz _)]
      cases hr:RY (nod p a).s with
      |true=>
       have bf:=afE hp hl hG ih he (xs:=a::r) (by simp) (by have:=hv.2;omega) hx hm (nod p a).s
       rw[zy,Z7 bf,if_pos ⟨ka,rfl⟩]
      |false=>rw[y0,if_neg (fun h=>by simp at h)];exact fin
     ·rw[yp (zT ka),if_neg (fun h=>ka h.1)];exact fin
   ·rw[y6 (zX k5),if_pos k5];rfl
  ·rw[y6 (zX h0),if_pos h0]
end
end Go.Eng
