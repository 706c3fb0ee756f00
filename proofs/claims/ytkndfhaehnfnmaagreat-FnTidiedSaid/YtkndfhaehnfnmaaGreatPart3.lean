/- the program and the reference on plain data, part 3 -/
import Derived.Test.YtkndfhaehnfnmaaGreatPart2
import Derived.Test.YtkndfhaehnfnmaaGreatPart1
import Derived.Test.YtkndfhaehnfnmaaGreatEngC
/-! what is moved into another pool,on both sides -/
namespace Go.Eng
open Go.Proofs Go.Proofs.Tryz

theorem abQ {p:List Nd}(h:p.length<4294967296)(x:D):decide (ni (p.map eN++[x]).length<=LIM)=true:=
 decide_eq_true (by rw[qA];simp only[ni,lnA,lnM,lnC,lnN];omega)
theorem Kg {p:List Nd}(h:p.length<4294967296)(x:Nd):V 157 [rP p,eN x]=some (iN p.length,[rP (p++[x])]):=by
 rw[TN,zJ (abQ h _),zO]
 have:w6 (ni (p.map eN++[eN x]).length-1)=p.length:=by
  rw[w64 (by simp only[ni];omega) (by simp only[ni,lnA,lnM,lnC,lnN];omega)]
  simp[ni]
 rw[this];simp
theorem AP {p:List Nd}(h:p.length<4294967296)(x:Nd):V 158 [rP p,eN x]=some (iN p.length,[rP (p++[x])]):=by
 rw[Zq,zJ (abQ h _),zO]
 have:w6 (ni (p.map eN++[eN x]).length-1)=p.length:=by
  rw[w64 (by simp only[ni];omega) (by simp only[ni,lnA,lnM,lnC,lnN];omega)]
  simp[ni]
 rw[this];simp

noncomputable def Aj (pre:List Int) (x:Nd):Nd:=
 if x.kind=5 then ⟨x.kind,x.n,x.s,pre.getD x.a.toNat 0,pre.getD x.b.toNat 0⟩
 else if x.kind=6\/x.kind=7 then ⟨x.kind,x.n,x.s,pre.getD x.a.toNat 0,x.b⟩ else x
noncomputable def BH (d:Int) (q:List Nd) (m:List Bool):Nat->List Int->List Nd->List Int×List Nd
 |0,pre,acc=>(pre,acc)
 |k+1,pre,acc=>match q[pre.length]?,m[pre.length]? with
  |some x,some true=>BH d q m k (pre++[(acc.length:Int)]) (acc++[Aj pre x])
  |_,_=>BH d q m k (pre++[d]) acc
theorem YG {pre r:List Int}{v u:Int}{i:Nat}(h:pre.length=i):(pre++u::r).set i v=pre++v::r:=by
 subst h;simp
theorem Yf {pre r:List Int}{u:Int}{i:Nat}(h:pre.length=i):(pre++u::r)[i]? = some u:=by
 subst h;simp
theorem IY {pre r:List Int}{j:Nat}(h:j<pre.length):(pre++r)[j]? = pre[j]?:=List.getElem?_append_left h
theorem KM {l pre:List Int}{n:Int}(h0:0<=n)(h1:n<pre.length)(h:∀j,j<pre.length->l[j]? = pre[j]?):∃u,l[n.toNat]? = some u/\pre[n.toNat]? = some u:=by
 obtain⟨u,hu⟩:=yM (l:=pre) (i:=n.toNat) (by omega)
 exact⟨u,by rw[h _ (by omega),hu],hu⟩
theorem DF {q:List Nd}(hp:Af q=true){m:List Bool}(hm:m.length=q.length):∀(k i:Nat) (pre:List Int) (acc:List Nd),pre.length=i->i+k=q.length->acc.length+k<4294967296 ->
  AF (q.map eN) (ni (q.map eN).length) (i:Int) ((pre++List.replicate k 0).map eI) (m.map D.bool) (acc.map eN)=some (.os (1,0) ((BH (-1) q m k pre acc).1.map eI),[rP (BH (-1) q m k pre acc).2])
 |0,i,pre,acc,hpre,hi,hc=>by
  rw[Gw,yp (by rw[lnM];exact zI (by omega))]
  simp[BH]
 |k+1,i,pre,acc,hpre,hi,hc=>by
  have hl:=Aq hp
  obtain⟨x,hx⟩:=yM (l:=q) (i:=i) (by omega)
  obtain⟨b,hb⟩:=yM (l:=m) (i:=i) (by omega)
  have ho:=D6 hp hx
  have s1:List.set ((pre++List.replicate (k+1) 0).map eI) i (eI (-1))=(pre++(-1)::List.replicate k 0).map eI:=by
   rw[<-List.map_set,List.replicate_succ,YG hpre]
  have s2:∀v:Int,List.set ((pre++(-1)::List.replicate k 0).map eI) i (eI v)=(pre++[v]++List.replicate k 0).map eI:=by
   intro v;rw[<-List.map_set,YG hpre];simp
  have hz:(pre++List.replicate (k+1) 0)[i]? = some 0:=by rw[List.replicate_succ,Yf hpre]
  have hz2:(pre++(-1)::List.replicate k 0)[i]? = some (-1):=Yf hpre
  rw[Gw,y6 (by rw[lnM];exact zN (by omega)),zJ (by rw[lnM];exact zM (by omega)),Int.toNat_natCast,zj hx,MO,zJ (by rw[lnM];exact zM (by simp;omega)),zj hz,zO,s1,zJ (by rw[lnM];exact zM (by omega)),zj hb,yZ]
  cases b with
  |false=>
   rw[Bool.not_false,zy,z6 (by omega)]
   have ih:=DF hp hm k (i+1) (pre++[-1]) acc (by simp[hpre]) (by omega) (by omega)
   simp only[BH,hpre,hx,hb]
   simpa using ih
  |true=>
   rw[Bool.not_true,y0]
   by_cases h5:x.kind=5
   ·obtain⟨a0,a1,b0,b1⟩:=Az ho h5
    obtain⟨u,hu,hu'⟩:=KM (l:=(pre++(-1)::List.replicate k 0)) (pre:=pre) a0 (by omega) (by intro j hj;exact IY hj)
    obtain⟨v,hv,hv'⟩:=KM (l:=(pre++(-1)::List.replicate k 0)) (pre:=pre) b0 (by omega) (by intro j hj;exact IY hj)
    have e:Aj pre x=⟨x.kind,x.n,x.s,u,v⟩:=by simp[Aj,h5,hu',hv']
    rw[y6 (by simp[h5]),zJ (by rw[List.length_map];exact D0 a0 (by simp;omega)),zj hu,zq,zJ (by rw[List.length_map];exact D0 b0 (by simp;omega)),zj hv,zq]
    have ha:=Kg (p:=acc) (by omega) ⟨x.kind,x.n,x.s,u,v⟩
    have ih:=DF hp hm k (i+1) (pre++[(acc.length:Int)]) (acc++[⟨x.kind,x.n,x.s,u,v⟩]) (by simp[hpre]) (by omega) (by simp;omega)
    rw[AW ha,zJ (by rw[lnM];exact zM (by simp;omega)),zj hz2,zO,s2,z6 (by omega)]
    simp only[BH,hpre,hx,hb,e]
    exact ih
   rw[yp (by simp[h5])]
   by_cases h6:x.kind=6
   ·obtain⟨a0,a1⟩:=Bz ho (.inl h6)
    obtain⟨u,hu,hu'⟩:=KM (l:=(pre++(-1)::List.replicate k 0)) (pre:=pre) a0 (by omega) (by intro j hj;exact IY hj)
    have e:Aj pre x=⟨x.kind,x.n,x.s,u,x.b⟩:=by simp[Aj,h6,hu']
    rw[y6 (by simp[h6]),y6 (by simp[h6]),zJ (by rw[List.length_map];exact D0 a0 (by simp;omega)),zj hu,zq]
    have ha:=Kg (p:=acc) (by omega) ⟨x.kind,x.n,x.s,u,x.b⟩
    have ih:=DF hp hm k (i+1) (pre++[(acc.length:Int)]) (acc++[⟨x.kind,x.n,x.s,u,x.b⟩]) (by simp[hpre]) (by omega) (by simp;omega)
    rw[AW ha,zJ (by rw[lnM];exact zM (by simp;omega)),zj hz2,zO,s2,z6 (by omega)]
    simp only[BH,hpre,hx,hb,e]
    exact ih
   rw[yp (by simp[h6])]
   by_cases h7:x.kind=7
   ·obtain⟨a0,a1⟩:=Bz ho (.inr h7)
    obtain⟨u,hu,hu'⟩:=KM (l:=(pre++(-1)::List.replicate k 0)) (pre:=pre) a0 (by omega) (by intro j hj;exact IY hj)
    have e:Aj pre x=⟨x.kind,x.n,x.s,u,x.b⟩:=by simp[Aj,h7,hu']
    rw[y6 (by simp[h7]),zJ (by rw[List.length_map];exact D0 a0 (by simp;omega)),zj hu,zq]
    have ha:=Kg (p:=acc) (by omega) ⟨x.kind,x.n,x.s,u,x.b⟩
    have ih:=DF hp hm k (i+1) (pre++[(acc.length:Int)]) (acc++[⟨x.kind,x.n,x.s,u,x.b⟩]) (by simp[hpre]) (by omega) (by simp;omega)
    rw[AW ha,zJ (by rw[lnM];exact zM (by simp;omega)),zj hz2,zO,s2,z6 (by omega)]
    simp only[BH,hpre,hx,hb,e]
    exact ih
   rw[yp (by simp[h7])]
   ·have e:Aj pre x=x:=by simp[Aj,h5,h6,h7]
    have ha:=Kg (p:=acc) (by omega) x
    have ih:=DF hp hm k (i+1) (pre++[(acc.length:Int)]) (acc++[x]) (by simp[hpre]) (by omega) (by simp;omega)
    rw[AW ha,zJ (by rw[lnM];exact zM (by simp;omega)),zj hz2,zO,s2,z6 (by omega)]
    simp only[BH,hpre,hx,hb,e]
    exact ih
theorem DI {q:List Nd}(hp:Af q=true){m:List Bool}(hm:m.length=q.length):∀(k i:Nat) (pre:List Int) (acc:List Nd),pre.length=i->i+k=q.length->acc.length+k<4294967296 ->
  BV (m.map D.bool) (i:Int) (q.map eN) ((pre++List.replicate k 0).map eI) (acc.map eN)=some (.os (1,0) ((BH 0 q m k pre acc).1.map eI),[rP (BH 0 q m k pre acc).2])
 |0,i,pre,acc,hpre,hi,hc=>by
  rw[KG,yp (by rw[lnM];exact zI (by omega))]
  simp[BH]
 |k+1,i,pre,acc,hpre,hi,hc=>by
  have hl:=Aq hp
  obtain⟨x,hx⟩:=yM (l:=q) (i:=i) (by omega)
  obtain⟨b,hb⟩:=yM (l:=m) (i:=i) (by omega)
  have ho:=D6 hp hx
  have s2:∀v:Int,List.set ((pre++List.replicate (k+1) 0).map eI) i (eI v)=(pre++[v]++List.replicate k 0).map eI:=by
   intro v;rw[<-List.map_set,List.replicate_succ,YG hpre];simp
  have hz2:(pre++List.replicate (k+1) 0)[i]? = some 0:=by rw[List.replicate_succ,Yf hpre]
  rw[KG,y6 (by rw[lnM];exact zN (by omega)),zJ (by rw[lnM];exact zM (by omega)),Int.toNat_natCast,zj hb,yZ]
  cases b with
  |false=>
   rw[Bool.not_false,zy,z6 (by omega)]
   have ih:=DI hp hm k (i+1) (pre++[0]) acc (by simp[hpre]) (by omega) (by omega)
   simp only[BH,hpre,hx,hb]
   simpa[List.replicate_succ]using ih
  |true=>
   rw[Bool.not_true,y0,zJ (by rw[lnM];exact zM (by omega)),zj hx,MO]
   by_cases h5:x.kind=5
   ·obtain⟨a0,a1,b0,b1⟩:=Az ho h5
    obtain⟨u,hu,hu'⟩:=KM (l:=(pre++List.replicate (k+1) 0)) (pre:=pre) a0 (by omega) (by intro j hj;exact IY hj)
    obtain⟨v,hv,hv'⟩:=KM (l:=(pre++List.replicate (k+1) 0)) (pre:=pre) b0 (by omega) (by intro j hj;exact IY hj)
    have e:Aj pre x=⟨x.kind,x.n,x.s,u,v⟩:=by simp[Aj,h5,hu',hv']
    rw[y6 (by simp[h5]),zJ (by rw[List.length_map];exact D0 a0 (by simp;omega)),zj hu,zq,zJ (by rw[List.length_map];exact D0 b0 (by simp;omega)),zj hv,zq]
    have ha:=AP (p:=acc) (by omega) ⟨x.kind,x.n,x.s,u,v⟩
    have ih:=DI hp hm k (i+1) (pre++[(acc.length:Int)]) (acc++[⟨x.kind,x.n,x.s,u,v⟩]) (by simp[hpre]) (by omega) (by simp;omega)
    rw[Ak ha,zJ (by rw[lnM];exact zM (by simp;omega)),zj hz2,zO,s2,z6 (by omega)]
    simp only[BH,hpre,hx,hb,e]
    exact ih
   rw[yp (by simp[h5])]
   by_cases h6:x.kind=6
   ·obtain⟨a0,a1⟩:=Bz ho (.inl h6)
    obtain⟨u,hu,hu'⟩:=KM (l:=(pre++List.replicate (k+1) 0)) (pre:=pre) a0 (by omega) (by intro j hj;exact IY hj)
    have e:Aj pre x=⟨x.kind,x.n,x.s,u,x.b⟩:=by simp[Aj,h6,hu']
    rw[y6 (by simp[h6]),y6 (by simp[h6]),zJ (by rw[List.length_map];exact D0 a0 (by simp;omega)),zj hu,zq]
    have ha:=AP (p:=acc) (by omega) ⟨x.kind,x.n,x.s,u,x.b⟩
    have ih:=DI hp hm k (i+1) (pre++[(acc.length:Int)]) (acc++[⟨x.kind,x.n,x.s,u,x.b⟩]) (by simp[hpre]) (by omega) (by simp;omega)
    rw[Ak ha,zJ (by rw[lnM];exact zM (by simp;omega)),zj hz2,zO,s2,z6 (by omega)]
    simp only[BH,hpre,hx,hb,e]
    exact ih
   rw[yp (by simp[h6])]
   by_cases h7:x.kind=7
   ·obtain⟨a0,a1⟩:=Bz ho (.inr h7)
    obtain⟨u,hu,hu'⟩:=KM (l:=(pre++List.replicate (k+1) 0)) (pre:=pre) a0 (by omega) (by intro j hj;exact IY hj)
    have e:Aj pre x=⟨x.kind,x.n,x.s,u,x.b⟩:=by simp[Aj,h7,hu']
    rw[y6 (by simp[h7]),zJ (by rw[List.length_map];exact D0 a0 (by simp;omega)),zj hu,zq]
    have ha:=AP (p:=acc) (by omega) ⟨x.kind,x.n,x.s,u,x.b⟩
    have ih:=DI hp hm k (i+1) (pre++[(acc.length:Int)]) (acc++[⟨x.kind,x.n,x.s,u,x.b⟩]) (by simp[hpre]) (by omega) (by simp;omega)
    rw[Ak ha,zJ (by rw[lnM];exact zM (by simp;omega)),zj hz2,zO,s2,z6 (by omega)]
    simp only[BH,hpre,hx,hb,e]
    exact ih
   rw[yp (by simp[h7])]
   ·have e:Aj pre x=x:=by simp[Aj,h5,h6,h7]
    have ha:=AP (p:=acc) (by omega) x
    have ih:=DI hp hm k (i+1) (pre++[(acc.length:Int)]) (acc++[x]) (by simp[hpre]) (by omega) (by simp;omega)
    rw[Ak ha,zJ (by rw[lnM];exact zM (by simp;omega)),zj hz2,zO,s2,z6 (by omega)]
    simp only[BH,hpre,hx,hb,e]
    exact ih
end Go.Eng
/-! what is kept: both sides keep the same -/
namespace Go.Eng
noncomputable section
open Go.Proofs Go.Proofs.Tryz

theorem Dr (p:List Nd)(rs:List Int):(Bu p rs).length=p.length:=by
 unfold Bu;rw[Ot,Lk];simp
def Ba (d:Int)(q:List Nd)(rs:List Int)(acc:List Nd):List Int×List Nd:=BH d q (Bu q rs) q.length [] acc
theorem aan {n:Nat}:List.replicate (Int.toNat (ni n)) (iN 0)=(List.replicate n (0:Int)).map eI:=by simp[ni]
theorem aay {q acc:List Nd}(hp:Af q=true){rs:List Int}(h2:rs.length<4611686018427387904)(hr:Ar q rs=true)(hc:acc.length+q.length<4294967296) :
  V 137 [rP acc,eP q,.rs (1,0) (rs.map eI)]=some (.os (1,0) ((Ba (-1) q rs acc).1.map eI),[rP (Ba (-1) q rs acc).2]):=by
 have e:(q.map eN).length=q.length:=lnM _
 have h:=DF hp (Dr q rs) q.length 0 [] acc rfl (Nat.zero_add _) hc
 rw[List.nil_append]at h
 rw[Qw,zJ (Tn (by omega)),abk (ae8 hp h2 hr)]
 have h0:List.replicate (Int.toNat (ni (q.map eN).length)) (iN 0)=(List.replicate q.length (0:Int)).map eI:=by rw[e];exact aan
 rw[h0]
 exact h
theorem aef {q acc:List Nd}(hp:Af q=true){rs:List Int}(hc:acc.length+q.length<4294967296) :
  V 148 [rP acc,eP q,.rs (1,0) ((Bu q rs).map D.bool)]=some (.os (1,0) ((Ba 0 q rs acc).1.map eI),[rP (Ba 0 q rs acc).2]):=by
 have e:(q.map eN).length=q.length:=lnM _
 have h:=DI hp (Dr q rs) q.length 0 [] acc rfl (Nat.zero_add _) hc
 rw[List.nil_append]at h
 have h0:List.replicate (Int.toNat (ni (q.map eN).length)) (iN 0)=(List.replicate q.length (0:Int)).map eI:=by rw[e];exact aan
 rw[Ye,zJ (Tn (by omega)),h0]
 exact h

theorem Fc (d:Int)(q:List Nd)(m:List Bool):∀(k:Nat) (pre:List Int) (acc:List Nd),(BH d q m k pre acc).1.length=pre.length+k
 |0,pre,acc=>rfl
 |k+1,pre,acc=>by
  simp only[BH]
  split
  ·rw[Fc d q m k];simp;omega
  ·rw[Fc d q m k];simp;omega
theorem Mf (d:Int)(q:List Nd)(m:List Bool):∀(k:Nat) (pre:List Int) (acc:List Nd),(BH d q m k pre acc).2.length<=acc.length+k
 |0,pre,acc=>Nat.le_refl _
 |k+1,pre,acc=>by
  simp only[BH]
  split
  ·have:=Mf d q m k (pre++[(acc.length:Int)]) (acc++[Aj pre ‹Nd›]);simp at this;omega
  ·have:=Mf d q m k (pre++[d]) acc;omega

def Bj (d:Int)(q:List Nd)(rs:List Int):List Nd×List Int:=((Ba d q rs []).2,rs.map fun r=>(Ba d q rs []).1.getD r.toNat 0)
theorem aeJ {l:List Int}(h:l.length<4294967296)(x:D):decide (ni (l.map eI++[x]).length<=LIM)=true:=
 decide_eq_true (by rw[qA];simp only[ni,lnA,lnM,lnC,lnN];omega)
theorem NJ {n:Nat}{a:List Int}(ha:a.length=n){p:List D}{l:List Int}(h2:l.length<4294967296)(hr:∀r∈l,0<=r/\r<(n:Int)):∀(k i:Nat) (out:List Int),i+k=l.length->out.length=i->Jv (l.map eI) (ni (l.map eI).length) (i:Int) (a.map eI) (out.map eI) p=some (.tup [.agg [.os (5,0) p],.os (1,0) ((out++(l.drop i).map fun r=>a.getD r.toNat 0).map eI)],[])
 |0,i,out,hi,ho=>by
  rw[Nc,yp (by rw[lnM];exact zI (by omega)),List.drop_of_length_le (by omega)];simp
 |k+1,i,out,hi,ho=>by
  obtain⟨x,hx⟩:=yM (l:=l) (i:=i) (by omega)
  have hx2:=hr x (List.mem_of_getElem? hx)
  obtain⟨u,hu⟩:=Gc (l:=a) (n:=x) hx2.1 (by omega)
  have e:out.map eI++[iN u]=(out++[u]).map eI:=by simp
  have eg:a.getD x.toNat 0=u:=by simp[hu]
  rw[Nc,y6 (by rw[lnM];exact zN (by omega)),zJ (by rw[lnM];exact zM (by omega)),Int.toNat_natCast,zj hx,zq,zJ (by rw[lnM];exact D0 hx2.1 (by omega)),zj hu,zq,zJ (aeJ (by omega) _),zO,z6 (by omega),e,vc hx,List.map_cons,eg]
  have ih:=NJ ha (p:=p) h2 hr k (i+1) (out++[u]) (by omega) (by simp;omega)
  rw[List.append_assoc]at ih
  exact ih
theorem Kf {p:List Nd}{rs:List Int}(hr:Ar p rs=true):∀r∈rs,0<=r/\r<(p.length:Int):=by
 intro r h
 have:=wi_iff.1 (List.all_eq_true.1 hr r h)
 omega
theorem afF {q:List Nd}(hp:Af q=true){rs:List Int}(h2:rs.length<4294967296)(hr:Ar q rs=true) :
  V 66 [eP q,.rs (1,0) (rs.map eI)]=some (.tup [oP (Bj (-1) q rs).1,.os (1,0) ((Bj (-1) q rs).2.map eI)],[]):=by
 have hl:=Aq hp
 have hm:V 137 [.op [.os (5,0) []],eP q,.rs (1,0) (rs.map eI)]=_:=aay (acc:=[]) hp (rs:=rs) (by omega) hr (by simp;omega)
 have h:=NJ (Fc (-1) q (Bu q rs) q.length [] []) (p:=(Ba (-1) q rs []).2.map eN) h2 (by simpa using Kf hr) rs.length 0 [] (Nat.zero_add _) rfl
 rw[aaZ,Od hm]
 exact h
def On (m:List Bool)(n:Int):Prop:=m[n.toNat]? = some true
theorem UZ {m:List Bool}{j i:Nat}(h:m[j]? = some true):(m.set i true)[j]? = some true:=by
 by_cases e:i=j
 ·subst e;simp[aQ h]
 ·rw[List.getElem?_set_ne e];exact h
theorem U3 {m:List Bool}{i:Nat}(h:i<m.length):(m.set i true)[i]? = some true:=by simp[h]
theorem acv {x:Nd}{m:List Bool}{j:Nat}(h:m[j]? = some true):(Bq x m)[j]? = some true:=by
 unfold Bq
 split
 ·exact UZ (UZ h)
 ·split
  ·exact UZ h
  ·exact h
theorem J9 {p:List Nd}:∀(k:Nat) {m:List Bool} {j:Nat},m[j]? = some true->(Bh p k m)[j]? = some true
 |0,m,j,h=>h
 |k+1,m,j,h=>by
  simp only[Bh]
  apply J9 k
  split
  ·exact acv h
  ·exact h
theorem acu {p:List Nd}(hp:Af p=true){k:Nat}{x:Nd}(hx:p[k]? = some x){m:List Bool}{j:Nat}(h:k<=j):(Bq x m)[j]? = m[j]?:=by
 have ho:=D6 hp hx
 unfold Bq
 split
 ·rename_i h5
  have:=Az ho h5
  rw[List.getElem?_set_ne (by omega),List.getElem?_set_ne (by omega)]
 ·split
  ·rename_i h6
   have:=Bz ho h6
   rw[List.getElem?_set_ne (by omega)]
  ·rfl
theorem UV {p:List Nd}(hp:Af p=true):∀(k:Nat) {m:List Bool} {j:Nat},k<=j->(Bh p k m)[j]? = m[j]?
 |0,m,j,h=>rfl
 |k+1,m,j,h=>by
  simp only[Bh]
  rw[UV hp k (by omega)]
  split
  ·rename_i x hx _;exact acu hp ‹_› (by omega)
  ·rfl
def Xg (p:List Nd)(m:List Bool):Prop:=∀(i:Nat) (x:Nd),p[i]? = some x->m[i]? = some true->(x.kind=5->On m x.a/\On m x.b)/\(x.kind=6\/x.kind=7->On m x.a)
theorem Oq {p:List Nd}(hp:Af p=true):∀(k:Nat) {m:List Bool},m.length=p.length->∀(i:Nat) (x:Nd),i<k->p[i]? = some x->(Bh p k m)[i]? = some true->(x.kind=5->On (Bh p k m) x.a/\On (Bh p k m) x.b)/\(x.kind=6\/x.kind=7->On (Bh p k m) x.a)
 |0,m,hm,i,x,hi,_,_=>by omega
 |k+1,m,hm,i,x,hi,hx,hr=>by
  by_cases e:i=k
  ·subst e
   have ho:=D6 hp hx
   rw[Bh]at hr⊢
   have hmi:m[i]? = some true:=by
    rw[UV hp i (Nat.le_refl _)]at hr
    split at hr
    ·assumption
    ·exact hr
   rw[hx,hmi]
   show (_->On (Bh p i (Bq x m)) x.a/\On (Bh p i (Bq x m)) x.b)/\(_->On (Bh p i (Bq x m)) x.a)
   have hlt:=aQ hx
   refine⟨fun h5=>?_,fun h6=>?_⟩
   ·have:=Az ho h5
    have ea:(Bq x m)[x.a.toNat]? = some true:=by
     simp only[Bq,h5,if_true]
     exact UZ (U3 (by omega))
    have eb:(Bq x m)[x.b.toNat]? = some true:=by
     simp only[Bq,h5,if_true]
     exact U3 (by simp;omega)
    exact⟨J9 i ea,J9 i eb⟩
   ·have:=Bz ho h6
    have ea:(Bq x m)[x.a.toNat]? = some true:=by
     have h5:¬x.kind=5:=by omega
     simp only[Bq,h5,h6,if_false,if_true]
     exact U3 (by omega)
    exact J9 i ea
  ·rw[Bh]at hr⊢
   refine Oq hp k ?_ i x (by omega) hx hr
   split
   ·rw[Pu];exact hm
   ·exact hm
theorem FW {p:List Nd}(hp:Af p=true)(rs:List Int):Xg p (Bu p rs):=by
 intro i x hx hr
 exact Oq hp p.length (by rw[Lk];simp) i x (aQ hx) hx hr
theorem acU {rs:List Int}:∀{m:List Bool} {r:Int},(r∈rs/\r.toNat<m.length)\/m[r.toNat]? = some true->(M8 rs m)[r.toNat]? = some true:=by
 induction rs with
 |nil=>intro m r h;rcases h with h|h;exact absurd h.1 (by simp);exact h
 |cons q rs ih=>
  intro m r h
  show (M8 rs (m.set q.toNat true))[r.toNat]? = some true
  apply ih
  rcases h with ⟨h,hl⟩|h
  ·rcases List.mem_cons.1 h with rfl|h
   ·right;simp[hl]
   ·left;exact⟨h,by simpa using hl⟩
  ·right;exact UZ h
theorem Jf {p:List Nd}{rs:List Int}(hr:Ar p rs=true):∀r∈rs,On (Bu p rs) r:=by
 intro r h
 have:=Kf hr r h
 exact J9 _ (acU (.inl ⟨h,by simp;omega⟩))

theorem RT {q:List Nd}(hp:Af q=true){m:List Bool}(hc:Xg q m)(hm:m.length=q.length)(d d':Int):∀(k:Nat) (pre pre':List Int) (acc:List Nd),pre.length=pre'.length->pre.length+k=q.length->(∀j:Nat,m[j]? = some true->pre[j]? = pre'[j]?) ->
  (BH d q m k pre acc).2=(BH d' q m k pre' acc).2/\∀j:Nat,m[j]? = some true->(BH d q m k pre acc).1[j]? = (BH d' q m k pre' acc).1[j]?
 |0,pre,pre',acc,hl,hk,h=>⟨rfl,h⟩
 |k+1,pre,pre',acc,hl,hk,h=>by
  obtain⟨x,hx⟩:=yM (l:=q) (i:=pre.length) (by omega)
  obtain⟨b,hb⟩:=yM (l:=m) (i:=pre.length) (by omega)
  have step:∀(u u':Int),(b=true->u=u')->∀j:Nat,m[j]? = some true->(pre++[u])[j]? = (pre'++[u'])[j]?:=by
   intro u u' huu j hj
   rcases Nat.lt_trichotomy j pre.length with h1|h1|h1
   ·rw[List.getElem?_append_left h1,List.getElem?_append_left (by omega)];exact h j hj
   ·subst h1
    rw[hb]at hj;cases hj
    rw[List.getElem?_append_right (Nat.le_refl _),hl,List.getElem?_append_right (Nat.le_refl _),huu rfl]
   ·rw[List.getElem?_eq_none (by simp;omega),List.getElem?_eq_none (by simp;omega)]
  have hb':=hb
  have hx':=hx
  rw[hl]at hb' hx'
  simp only[BH,hx,hb,hx',hb']
  cases b with
  |false=>exact RT hp hc hm d d' k _ _ acc (by simp;omega) (by simp;omega) (step d d' (fun h=>by cases h))
  |true=>
   have hcl:=hc _ x hx hb
   have e:Aj pre x=Aj pre' x:=by
    unfold Aj
    split
    ·rename_i h5
     have h1:=h _ (hcl.1 h5).1
     have h2:=h _ (hcl.1 h5).2
     simp only[List.getD_eq_getElem?_getD,h1,h2]
    ·split
     ·rename_i h6
      have h1:=h _ (hcl.2 h6)
      simp only[List.getD_eq_getElem?_getD,h1]
     ·rfl
   have ih:=RT hp hc hm d d' k (pre++[(acc.length:Int)]) (pre'++[(acc.length:Int)]) (acc++[Aj pre x]) (by simp;omega) (by simp;omega) (step _ _ (fun _=>rfl))
   rw[e]at ih
   simp only[e]
   exact ih
end
end Go.Eng
/-! decimal digits,on both sides -/
namespace Go.Eng
open Go.Proofs Go.Proofs.Tryz

theorem afA (n:Nat):Int.tdiv (n:Int) 10=((n / 10:Nat):Int):=by
 rw[Int.tdiv_eq_ediv_of_nonneg (by omega)];omega
theorem afC (n:Nat):Int.tmod (n:Int) 10=((n % 10:Nat):Int):=by
 rw[Int.tmod_eq_emod_of_nonneg (by omega)];omega
theorem abR {a b:List UInt8}(ha:a.length<=1000)(hb:b.length<=1000):decide (ni ((mk a).size+(mk b).size)<=LIM)=true:=
 decide_eq_true (by rw[qA,z8,z8];simp only[ni];omega)
theorem TH {n:Nat}(h:n<1000000000000000000):(LN n).length<=20:=by
 have:=Zf 18 n (by omega)
 omega
theorem aeb {d:Nat}(h:d<10):IntKind.wrap .u8 (w6 (48+(d:Int)))=48+(d:Int):=by
 rw[w64 (by omega) (by omega),YP (by omega) (by omega)]
theorem Zh:∀(n:Nat)(acc:List UInt8),n<1000000000000000000->acc.length+(if n=0 then [] else LN n).length<=1000->Fp (n:Int) (mk acc)=some (.str (mk ((if n=0 then [] else LN n)++acc)),[]):=by
 intro n
 induction n using Nat.strongRecOn with
 |_ n ih=>
  intro acc hn hl
  by_cases h0:n=0
  ·subst h0
   rw[Jq,yp (by rfl),if_pos rfl];rfl
  ·have hd:LN n=(if n / 10=0 then [] else LN (n / 10))++[UInt8.ofNat (48+n % 10)]:=by
    by_cases h:n<10
    ·rw[Dp h,if_pos (by omega),show n % 10=n by omega];rfl
    ·rw[Ny h,if_neg (by omega)]
   rw[if_neg h0,hd]at hl
   simp only[lnA,lnC,lnN]at hl
   rw[Jq,y6 (decide_eq_true (by omega)),zJ (by decide),afC,aeb (by omega),abi]
   have e:UInt8.ofNat (48+((n % 10:Nat):Int)).toNat=UInt8.ofNat (48+n % 10):=by congr 1
   rw[e,zJ (abR (by simp) (by omega)),zJ (by decide),afA,w64 (by omega) (by omega),Wx,ih (n / 10) (by omega) _ (by omega) (by simp only[lnA,lnC,lnN];omega),if_neg h0,hd]
   simp
theorem QG {n:Nat}(h:n<1000000000000000000):V 202 [iN (n:Int)]=some (.str (mk (LN n)),[]):=by
 rw[NC,yp (decide_eq_false (by omega))]
 by_cases h0:n=0
 ·subst h0
  rw[y6 (by rfl),Dp (by omega)];rfl
 ·have:=Zh n [] h (by have:=TH h;rw[if_neg h0];simp;omega)
  rw[if_neg h0,List.append_nil]at this
  rw[yp (by simp;omega)]
  exact this
theorem Vh {n:Int}(h:n.natAbs<1000000000000000000):V 202 [iN n]=some (.str (mk (MH n)),[]):=by
 by_cases h0:n<0
 ·have hd:=QG h
  rw[NC,y6 (decide_eq_true h0),show (0:Int)-n=(n.natAbs:Int) by omega,w64 (by omega) (by omega),Lg hd]
  rw[<-show mk [45]=⟨#[45]⟩ from rfl,zJ (abR (a:=[45]) (by simp) (by have:=TH h;omega)),Wx,MH,if_pos h0]
  rfl
 ·have:=QG h
  rw[show (n.natAbs:Int)=n by omega]at this
  rw[this,MH,if_neg h0]
end Go.Eng
/-! what is written of a value: the reference's side -/
namespace Go.Eng
open Go.Proofs Go.Proofs.Tryz

noncomputable def afQ (x:Nd):List UInt8:=
 if x.kind=1 then [40,41]
 else if x.kind=2 then (if x.n=1 then [35,116] else [35,102])
 else if x.kind=3 then MH x.n
 else if x.kind=4 then x.s.data.toList
 else if x.kind=6 then [35,102,117,110]++MH x.n
 else if x.kind=7 then [35,107,111,110,116]++MH x.n
 else if x.kind=8 then [35,112,114,105,109]++MH x.n
 else [35,112,105,100]++MH x.n
noncomputable def wr (p:List Nd):Nat->Bool->Nat->List UInt8->List UInt8
 |0,_,_,out=>out
 |g+1,false,v,out=>if out.length>400 then out else
  match p[v]? with
  |some x=>if x.kind=5 then wr p g true x.b.toNat (wr p g false x.a.toNat (out++[40])) else out++afQ x
  |none=>out
 |g+1,true,v,out=>
  match p[v]? with
  |some x=>if x.kind=5/\out.length<=400 then wr p g true x.b.toNat (wr p g false x.a.toNat (out++[32]))
   else if x.kind=1 then out++[41] else wr p g false v (out++[32,46,32])++[41]
  |none=>out
theorem adP {s:ByteArray}(h:Nq s=true):s.size<=12:=by
 simp only[Nq,Bool.and_eq_true,wi,decide_eq_true_eq]at h;omega
theorem adU {x:Nd}{h:Int}(ho:okN x h=true)(hk:x.kind=4):Nq x.s=true:=by
 simp[okN,hk]at ho;exact ho.2.1
theorem adT {x:Nd}{h:Int}(ho:okN x h=true):1<=x.kind/\x.kind<=9:=by
 unfold okN at ho
 repeat' split at ho
 all_goals (first|omega|(cases ho))
end Go.Eng
/-! what is written of a value: the program's side,as plain lists -/
namespace Go.Eng
open Go.Proofs Go.Proofs.Tryz

end Go.Eng
/-! what is written of a value: the program's side -/
namespace Go.Eng
open Go.Proofs Go.Proofs.Tryz

theorem lit (l:List UInt8):(ByteArray.mk l.toArray)=mk l:=rfl
end Go.Eng
/-! code and machines: when they are right,on both sides -/
namespace Go.Eng
noncomputable section
open Go.Proofs Go.Proofs.Tryz
set_option maxHeartbeats 4000000

structure In where
 op:Int
 n:Int
 i:Int
 s:ByteArray
structure Df where
 name:ByteArray
 at':Int
 args:Int
structure Cd where
 pool:List Nd
 list:List In
 defs:List Df
abbrev eIn (x:In):D:=.agg [iN x.op,iN x.n,iN x.i,.str x.s]
abbrev eDf (x:Df):D:=.agg [.str x.name,iN x.at',iN x.args]
abbrev eCd (c:Cd):D:=.agg [.rs (5,0) (c.pool.map eN),.rs (4,0) (c.list.map eIn),.rs (3,0) (c.defs.map eDf)]
abbrev oCd (c:Cd):D:=.agg [.os (5,0) (c.pool.map eN),.os (4,0) (c.list.map eIn),.os (3,0) (c.defs.map eDf)]
structure FitsC (c:Cd):Prop where
 pool:Du c.pool
 plen:c.pool.length<4611686018427387904
 list:∀x∈c.list,x.s.size<4611686018427387904
 llen:c.list.length<4611686018427387904
 defs:∀x∈c.defs,x.name.size<4611686018427387904
 dlen:c.defs.length<4611686018427387904
section
variable {R:Type}
theorem adL (x:In)(K:Int->Int->Int->ByteArray->Option R):tk1 (eIn x) (fun n4 n7 n10 s13=>(K n4 n7 n10 s13))=K x.op x.n x.i x.s:=rfl
end
def Ew (c:Cd)(s:ByteArray):Int:=zm (fun d:Df=>kJ d.name s) c.defs
theorem Pq {l:List Df}(hl:l.length<4611686018427387904)(s:ByteArray):∀(k i:Nat),i+k=l.length->DT (l.map eDf) s (ni (l.map eDf).length) (i:Int)=some (iN (d9 (fun d:Df=>kJ d.name s) l i),[])
 |0,i,hi=>by
  rw[GU,ym (by omega)]
  simp (disch:=first|omega|(simp only[lnA,lnC,lnN,lnM,z8,yj];omega)) only[↓y0,zY,lnM,yj]
 |k+1,i,hi=>by
  obtain⟨x,hx⟩:=yM (l:=l) (i:=i) (by omega)
  have ih:=Pq hl s k (i+1) (by omega)
  have hd:V 179 [eDf x,.bp [.str s]]=some (.bool (kJ x.name s),[]):=by rw[adB]
  have hw:w6 ((i:Int)+1)=((i+1:Nat):Int):=z6 (by omega)
  rw[GU]
  cases h:kJ x.name s with
  |true=>rw[yn hx h];rw[h]at hd;simp (disch:=first|omega|(simp only[lnA,lnC,lnN,lnM,z8,yj];omega)) only[↓yk,yz,↓zy,↓zd,↓zF,↓zn,↓zq,↓yZ,↓zw,↓yK,↓zk,zZ,Bool.and_true,lnM,yj,↓zj hx,hd]
  |false=>
   rw[h]at hd
   rw[ya hx h,<-ih,lnM];simp (disch:=first|omega|(simp only[lnA,lnC,lnN,lnM,z8,yj];omega)) only[↓yk,yz,↓zy,↓y0,↓zd,↓zF,↓zn,↓zq,↓yZ,↓zw,↓yK,↓zk,zZ,Bool.and_true,yj,↓zj hx,hd,hw]
theorem Rc {c:Cd}(hf:FitsC c)(s:ByteArray):V 125 [eCd c,.str s]=some (iN (Ew c s),[]):=by
 have h:=Pq hf.dlen s c.defs.length 0 (Nat.zero_add _)
 rw[yb,Int.natCast_zero]at h
 have h2:V 178 [.rs (3,0) (c.defs.map eDf),.fn 179 [.bp [.str s]]]=some (iN (Ew c s),[]):=by
  rw[Rx];exact h
 rw[Zj]
 simp (disch:=first|omega|(simp only[lnA,lnC,lnN,lnM,z8,yj];omega)) only[↓yk,yz,↓zF,↓zq,h2]
theorem PE {l:List Df}(hl:l.length<4611686018427387904)(s:ByteArray)(p q:List D):∀(k i:Nat),i+k=l.length->Ip s (i:Int) p q (l.map eDf)=some (iN (d9 (fun d:Df=>kJ d.name s) l i),[])
 |0,i,hi=>by
  rw[Lr,ym (by omega)]
  simp (disch:=first|omega|(simp only[lnA,lnC,lnN,lnM,z8,yj];omega)) only[↓y0,zY,lnM,yj]
 |k+1,i,hi=>by
  obtain⟨x,hx⟩:=yM (l:=l) (i:=i) (by omega)
  have ih:=PE hl s p q k (i+1) (by omega)
  have hw:w6 ((i:Int)+1)=((i+1:Nat):Int):=z6 (by omega)
  rw[Lr]
  cases h:kJ x.name s with
  |true=>rw[yn hx h];simp (disch:=first|omega|(simp only[lnA,lnC,lnN,lnM,z8,yj];omega)) only[↓zy,↓zd,↓zw,↓yK,↓yN,yN,↓zk,zZ,Bool.and_true,lnM,yj,↓zj hx,h]
  |false=>rw[ya hx h,<-ih];simp (disch:=first|omega|(simp only[lnA,lnC,lnN,lnM,z8,yj];omega)) only[↓zy,↓y0,↓zd,↓zw,↓yK,↓yN,yN,↓zk,zZ,Bool.and_true,lnM,yj,↓zj hx,h,hw]
theorem JF {c:Cd}(hf:FitsC c)(s:ByteArray):V 129 [eCd c,.str s]=some (iN (Ew c s),[]):=by
 have h:=PE hf.dlen s (c.pool.map eN) (c.list.map eIn) c.defs.length 0 (Nat.zero_add _)
 rw[yb,Int.natCast_zero]at h
 rw[Zn]
 exact h

def Kn (c:Cd)(x:In)(k:Int):Bool:=
 if x.op=1 then wi x.n 0 ((c.pool.length:Int)-1)&&(x.i==0&&nz x.s)
 else if x.op=2 then wi x.n 0 20&&(wi x.i 0 3&&nz x.s)
 else if x.op=3 then x.n==0&&(x.i==0&&Nq x.s)
 else if x.op=4\/x.op=5 then wi x.n (k+1) (c.list.length:Int)&&(x.i==0&&nz x.s)
 else if x.op=6 then wi x.n (k+1) ((c.list.length:Int)-1)&&(wi x.i 0 4&&nz x.s)
 else if x.op=7 then x.n==0&&(wi x.i 0 4&&nz x.s)
 else if x.op=8\/x.op=9 then x.n==0&&(x.i==0&&nz x.s)
 else false
theorem afj (n k h:Int):wi n (k+1) h=(decide (n>k)&&decide (n<=h)):=by
 unfold wi
 congr 1
theorem afK (n k h:Int):wi n (k+1) (h-1)=(decide (n>k)&&decide (n<h)):=by
 unfold wi
 congr 1
 exact decide_eq_decide.2 (by omega)
theorem Vf {c:Cd}(hf:FitsC c){k:Nat}{x:In}(hx:c.list[k]? = some x):V 123 [eCd c,iN (k:Int)]=some (.bool (Kn c x k),[]):=by
 have hk:=aQ hx
 have hl:=hf.llen
 have hp:=hf.plen
 have hs:=hf.list x (List.mem_of_getElem? hx)
 rw[Vq]
 unfold Kn
 have hnm:=Lm hs
 have hnode:=Jh hp x.n
 by_cases h1:x.op=1
 ·rw[if_pos h1];simp (disch:=first|omega|(simp only[lnA,lnC,lnN,lnM,z8,yj];omega)) only[↓yk,yz,↓zy,↓zd,↓zF,↓zn,↓zq,↓yZ,↓zw,↓yK,↓zk,zZ,zU,Bool.and_true,lnM,yj,↓zj hx,hnode];simp only[AE];rfl
 rw[if_neg h1]
 by_cases h2:x.op=2
 ·rw[if_pos h2];simp (disch:=first|omega|(simp only[lnA,lnC,lnN,lnM,z8,yj];omega)) only[↓yk,yz,↓zy,↓y0,↓zd,↓zF,↓zn,↓zq,↓yZ,↓zw,↓yK,↓zk,zZ,zU,zT,Bool.and_true,lnM,yj,↓zj hx,AK];simp only[AE];rfl
 rw[if_neg h2]
 by_cases h3:x.op=3
 ·rw[if_pos h3];simp (disch:=first|omega|(simp only[lnA,lnC,lnN,lnM,z8,yj];omega)) only[↓yk,yz,↓zy,↓y0,↓zd,↓zF,↓zn,↓zq,↓yZ,↓zw,↓yK,↓zk,zZ,zU,zT,Bool.and_true,lnM,yj,↓zj hx,hnm];simp only[AE]
 rw[if_neg h3]
 by_cases h4:x.op=4
 ·rw[if_pos (.inl h4)];simp (disch:=first|omega|(simp only[lnA,lnC,lnN,lnM,z8,yj];omega)) only[↓yk,yz,↓zy,↓y0,↓zd,↓zF,↓zn,↓zq,↓yZ,↓zw,↓yK,↓zk,zZ,zU,zT,Bool.and_true,lnM,wS,yj,↓zj hx,AK];simp only[AE];rfl
 by_cases h5:x.op=5
 ·rw[if_pos (.inr h5)];simp (disch:=first|omega|(simp only[lnA,lnC,lnN,lnM,z8,yj];omega)) only[↓yk,yz,↓zy,↓y0,↓zd,↓zF,↓zn,↓zq,↓yZ,↓zw,↓yK,↓zk,zZ,zU,zT,Bool.and_true,lnM,wS,yj,↓zj hx,AK];simp only[AE];rfl
 rw[if_neg (by omega)]
 by_cases h6:x.op=6
 ·rw[if_pos h6];simp (disch:=first|omega|(simp only[lnA,lnC,lnN,lnM,z8,yj];omega)) only[↓yk,yz,↓zy,↓y0,↓zd,↓zF,↓zn,↓zq,↓yZ,↓zw,↓yK,↓zk,zZ,zU,zT,Bool.and_true,lnM,wS,yj,↓zj hx,AK];simp only[AE];rfl
 rw[if_neg h6]
 by_cases h7:x.op=7
 ·rw[if_pos h7];simp (disch:=first|omega|(simp only[lnA,lnC,lnN,lnM,z8,yj];omega)) only[↓yk,yz,↓zy,↓y0,↓zd,↓zF,↓zn,↓zq,↓yZ,↓zw,↓yK,↓zk,zZ,zU,zT,Bool.and_true,lnM,yj,↓zj hx,AK];simp only[AE];rfl
 rw[if_neg h7]
 by_cases h8:x.op=8
 ·rw[if_pos (.inl h8)];simp (disch:=first|omega|(simp only[lnA,lnC,lnN,lnM,z8,yj];omega)) only[↓zy,↓y0,↓zd,↓zF,↓zn,↓zq,↓zw,↓yK,↓zk,zZ,zU,zT,Bool.and_true,lnM,yj,↓zj hx];simp only[AE];rfl
 by_cases h9:x.op=9
 ·rw[if_pos (.inr h9)];simp (disch:=first|omega|(simp only[lnA,lnC,lnN,lnM,z8,yj];omega)) only[↓zy,↓y0,↓zd,↓zF,↓zn,↓zq,↓zw,↓yK,↓zk,zZ,zU,zT,Bool.and_true,lnM,yj,↓zj hx];simp only[AE];rfl
 rw[if_neg (by omega)]
 simp (disch:=first|omega|(simp only[lnA,lnC,lnN,lnM,z8,yj];omega)) only[↓y0,↓zd,↓zF,↓zn,↓zq,↓zw,↓yK,↓zk,zZ,zT,Bool.and_true,lnM,yj,↓zj hx]
theorem ac1 {c:Cd}(hf:FitsC c){k:Nat}{x:In}(hx:c.list[k]? = some x):V 127 [eCd c,iN (k:Int)]=some (.bool (Kn c x k),[]):=by
 have hk:=aQ hx
 have hl:=hf.llen
 have hp:=hf.plen
 have hs:=hf.list x (List.mem_of_getElem? hx)
 have hself:kJ x.s x.s=true:=by rw[DK];simp
 rw[VC]
 unfold Kn
 have hnm:=IK hs
 have hnode:=KV hp x.n
 by_cases h1:x.op=1
 ·rw[if_pos h1];simp (disch:=first|omega|(simp only[lnA,lnC,lnN,lnM,z8,yj];omega)) only[↓yk,yz,↓zy,↓zd,↓zF,↓zn,↓zq,↓yZ,↓zw,↓yK,↓zk,zZ,zU,Bool.true_and,Bool.and_true,lnM,yj,↓zj hx,hnode];simp only[AE]
  show some (D.bool (_&&nz x.s&&_),_)=_
  cases wi x.n 0 ((c.pool.length:Int)-1)<;>cases x.i==0<;>cases nz x.s<;>rfl
 rw[if_neg h1]
 by_cases h2:x.op=2
 ·rw[if_pos h2];simp (disch:=first|omega|(simp only[lnA,lnC,lnN,lnM,z8,yj];omega)) only[↓yk,yz,↓zy,↓y0,↓zd,↓zF,↓zn,↓zq,↓yZ,↓zw,↓yK,↓zk,zZ,zU,zT,Bool.and_true,lnM,yj,↓zj hx,CR];simp only[AE]
  show some (D.bool (nz x.s&&_),_)=_
  cases wi x.n 0 20<;>cases wi x.i 0 3<;>cases nz x.s<;>rfl
 rw[if_neg h2]
 by_cases h3:x.op=3
 ·rw[if_pos h3];simp (disch:=first|omega|(simp only[lnA,lnC,lnN,lnM,z8,yj];omega)) only[↓yk,yz,↓zy,↓y0,↓zd,↓zF,↓zn,↓zq,↓yZ,↓zw,↓yK,↓zk,zZ,zU,zT,Bool.true_and,Bool.and_true,lnM,yj,↓zj hx,hnm,hself];simp only[AE]
  cases x.n==0<;>cases x.i==0<;>cases Nq x.s<;>rfl
 rw[if_neg h3]
 by_cases h4:x.op=4
 ·rw[if_pos (.inl h4),afj];simp (disch:=first|omega|(simp only[lnA,lnC,lnN,lnM,z8,yj];omega)) only[↓zy,↓y0,↓zd,↓zF,↓zn,↓zq,↓zw,↓yK,↓zk,zZ,zU,zT,Bool.true_and,Bool.and_true,lnM,yj,↓zj hx];simp only[AE]
  show some (D.bool (_&&nz x.s&&_),_)=_
  cases decide (x.n>(k:Int))<;>cases decide (x.n<=(c.list.length:Int))<;>cases x.i==0<;>cases nz x.s<;>rfl
 by_cases h5:x.op=5
 ·rw[if_pos (.inr h5),afj];simp (disch:=first|omega|(simp only[lnA,lnC,lnN,lnM,z8,yj];omega)) only[↓zy,↓y0,↓zd,↓zF,↓zn,↓zq,↓zw,↓yK,↓zk,zZ,zU,zT,Bool.true_and,Bool.and_true,lnM,yj,↓zj hx];simp only[AE]
  show some (D.bool (_&&nz x.s&&_),_)=_
  cases decide (x.n>(k:Int))<;>cases decide (x.n<=(c.list.length:Int))<;>cases x.i==0<;>cases nz x.s<;>rfl
 rw[if_neg (by omega)]
 by_cases h6:x.op=6
 ·rw[if_pos h6,afK];simp (disch:=first|omega|(simp only[lnA,lnC,lnN,lnM,z8,yj];omega)) only[↓yk,yz,↓zy,↓y0,↓zd,↓zF,↓zn,↓zq,↓yZ,↓zw,↓yK,↓zk,zZ,zU,zT,Bool.and_true,lnM,yj,↓zj hx,CR];simp only[AE]
  show some (D.bool (nz x.s&&_),_)=_
  cases decide (x.n>(k:Int))<;>cases decide (x.n<(c.list.length:Int))<;>cases wi x.i 0 4<;>cases nz x.s<;>rfl
 rw[if_neg h6]
 by_cases h7:x.op=7
 ·rw[if_pos h7];simp (disch:=first|omega|(simp only[lnA,lnC,lnN,lnM,z8,yj];omega)) only[↓yk,yz,↓zy,↓y0,↓zd,↓zF,↓zn,↓zq,↓yZ,↓zw,↓yK,↓zk,zZ,zU,zT,Bool.true_and,Bool.and_true,lnM,yj,↓zj hx,CR];simp only[AE]
  show some (D.bool (_&&nz x.s&&_),_)=_
  cases x.n==0<;>cases wi x.i 0 4<;>cases nz x.s<;>rfl
 rw[if_neg h7]
 by_cases h8:x.op=8
 ·rw[if_pos (.inl h8)];simp (disch:=first|omega|(simp only[lnA,lnC,lnN,lnM,z8,yj];omega)) only[↓zy,↓y0,↓zd,↓zF,↓zn,↓zq,↓zw,↓yK,↓zk,zZ,zU,zT,Bool.true_and,Bool.and_true,lnM,yj,↓zj hx];rfl
 by_cases h9:x.op=9
 ·rw[if_pos (.inr h9)];simp (disch:=first|omega|(simp only[lnA,lnC,lnN,lnM,z8,yj];omega)) only[↓zy,↓y0,↓zd,↓zF,↓zn,↓zq,↓zw,↓yK,↓zk,zZ,zU,zT,Bool.true_and,Bool.and_true,lnM,yj,↓zj hx];rfl
 rw[if_neg (by omega)]
 simp (disch:=first|omega|(simp only[lnA,lnC,lnN,lnM,z8,yj];omega)) only[↓y0,↓zd,↓zF,↓zn,↓zq,↓zw,↓yK,↓zk,zZ,zT,Bool.and_true,lnM,yj,↓zj hx]

def Jd (c:Cd):Nat->Nat->Bool
 |_,0=>true
 |i,k+1=>(match c.list[i]? with|some x=>Kn c x i|none=>true)&&Jd c (i+1) k
def aad (c:Cd)(d:Df)(i:Int):Bool:=Nq d.name&&(Ew c d.name==i&&(wi d.at' 0 ((c.list.length:Int)-1)&&wi d.args 0 4))
def FT (c:Cd):Nat->Nat->Bool
 |_,0=>true
 |i,k+1=>(match c.defs[i]? with|some d=>aad c d i|none=>true)&&FT c (i+1) k
def AX (c:Cd):Bool:=Af c.pool&&(decide (c.list.length<=400)&&(decide (c.defs.length<=20)&&(Jd c 0 c.list.length&&FT c 0 c.defs.length)))
theorem NH {c:Cd}(hf:FitsC c):∀(k i:Nat),i+k=c.defs.length->Ga (c.defs.map eDf) (ni (c.defs.map eDf).length) (i:Int) (c.pool.map eN) (c.list.map eIn) (c.defs.map eDf)=some (.bool (FT c i k),[])
 |0,i,hi=>by
  have hd:=hf.dlen
  rw[JL]
  simp (disch:=first|omega|(simp only[lnA,lnC,lnN,lnM,z8,yj];omega)) only[↓y0,zY,lnM,yj]
  rfl
 |k+1,i,hi=>by
  have hd:=hf.dlen
  have hll:=hf.llen
  obtain⟨x,hx⟩:=yM (l:=c.defs) (i:=i) (by omega)
  have ih:=NH hf k (i+1) (by omega)
  rw[lnM]at ih
  have hw:w6 ((i:Int)+1)=((i+1:Nat):Int):=z6 (by omega)
  have hdf:=Rc hf x.name
  have hnm:=Lm (hf.defs x (List.mem_of_getElem? hx))
  rw[JL]
  simp only[FT,hx,aad]
  cases e1:Nq x.name with
  |false=>rw[e1]at hnm;simp (disch:=first|omega|(simp only[lnA,lnC,lnN,lnM,z8,yj];omega)) only[↓yk,yz,↓zy,↓zd,↓zF,↓zn,↓zq,↓yZ,↓zw,↓yK,↓zk,zZ,Bool.and_true,Bool.false_and,Bool.not_false,lnM,yj,↓zj hx,hnm]
  |true=>
   rw[e1]at hnm
   by_cases e2:Ew c x.name=(i:Int)
   ·rw[e2]at hdf
    simp (disch:=first|omega|(simp only[lnA,lnC,lnN,lnM,z8,yj];omega)) only[↓yk,yz,↓zy,↓y0,↓zd,↓zF,↓zn,↓zq,↓yZ,↓zw,↓yK,↓zk,zZ,zU,zW,Bool.true_and,Bool.and_true,Bool.not_true,lnM,wS,yj,↓zj hx,hnm,hdf,e2,AK,hw,ih]
    cases wi x.at' 0 ((c.list.length:Int)-1)<;>cases wi x.args 0 4<;>rfl
   ·simp (disch:=first|omega|(simp only[lnA,lnC,lnN,lnM,z8,yj];omega)) only[↓yk,yz,↓zy,↓y0,↓zd,↓zF,↓zn,↓zq,↓yZ,↓zw,↓yK,↓zk,zZ,zT,zX,Bool.and_true,Bool.false_and,Bool.and_false,Bool.not_true,lnM,yj,↓zj hx,hnm,hdf]
theorem Oz {c:Cd}(hf:FitsC c):∀(k i:Nat),i+k=c.defs.length->GA (i:Int) (c.pool.map eN) (c.list.map eIn) (c.defs.map eDf)=some (.bool (FT c i k),[])
 |0,i,hi=>by
  have hd:=hf.dlen
  rw[Ku]
  simp (disch:=first|omega|(simp only[lnA,lnC,lnN,lnM,z8,yj];omega)) only[↓y0,zY,lnM,yj]
  rfl
 |k+1,i,hi=>by
  have hd:=hf.dlen
  have hll:=hf.llen
  obtain⟨x,hx⟩:=yM (l:=c.defs) (i:=i) (by omega)
  have ih:=Oz hf k (i+1) (by omega)
  have hw:w6 ((i:Int)+1)=((i+1:Nat):Int):=z6 (by omega)
  have hdf:=JF hf x.name
  have hnm:=IK (hf.defs x (List.mem_of_getElem? hx))
  rw[Ku]
  simp only[FT,hx,aad]
  cases e1:Nq x.name with
  |false=>rw[e1]at hnm;simp (disch:=first|omega|(simp only[lnA,lnC,lnN,lnM,z8,yj];omega)) only[↓yk,yz,↓zy,↓zd,↓zF,↓zn,↓zq,↓yZ,↓zw,↓yK,↓zk,zZ,Bool.and_true,Bool.false_and,Bool.not_false,lnM,yj,↓zj hx,hnm]
  |true=>
   rw[e1]at hnm
   by_cases e2:Ew c x.name=(i:Int)
   ·rw[e2]at hdf
    simp (disch:=first|omega|(simp only[lnA,lnC,lnN,lnM,z8,yj];omega)) only[↓yk,yz,↓zy,↓y0,↓zd,↓zF,↓zn,↓zq,↓yZ,↓zw,↓yK,↓zk,zZ,zU,zW,Bool.true_and,Bool.and_true,Bool.not_true,lnM,wS,yj,↓zj hx,hnm,hdf,e2,CR,hw,ih]
    cases wi x.at' 0 ((c.list.length:Int)-1)<;>cases wi x.args 0 4<;>rfl
   ·simp (disch:=first|omega|(simp only[lnA,lnC,lnN,lnM,z8,yj];omega)) only[↓yk,yz,↓zy,↓y0,↓zd,↓zF,↓zn,↓zq,↓yZ,↓zw,↓yK,↓zk,zZ,zT,zX,Bool.and_true,Bool.false_and,Bool.and_false,Bool.not_true,lnM,yj,↓zj hx,hnm,hdf]
theorem Pt {c:Cd}(hf:FitsC c):∀(k i:Nat),i+k=c.list.length->Gt (ni (c.list.map eIn).length) (i:Int) (c.pool.map eN) (c.list.map eIn) (c.defs.map eDf)=some (.bool (Jd c i k&&FT c 0 c.defs.length),[])
 |0,i,hi=>by
  have hll:=hf.llen
  have h:=NH hf c.defs.length 0 (Nat.zero_add _)
  rw[Int.natCast_zero,lnM]at h
  rw[Ko]
  simp (disch:=first|omega|(simp only[lnA,lnC,lnN,lnM,z8,yj];omega)) only[↓y0,zY,lnM,yj,h]
  rfl
 |k+1,i,hi=>by
  have hll:=hf.llen
  obtain⟨x,hx⟩:=yM (l:=c.list) (i:=i) (by omega)
  have ih:=Pt hf k (i+1) (by omega)
  rw[lnM]at ih
  have hw:w6 ((i:Int)+1)=((i+1:Nat):Int):=z6 (by omega)
  have hi:=Vf hf hx
  rw[Ko]
  simp only[Jd,hx]
  cases e1:Kn c x i with
  |false=>rw[e1]at hi;simp (disch:=first|omega|(simp only[lnA,lnC,lnN,lnM,z8,yj];omega)) only[↓yk,yz,↓zy,↓zF,↓yZ,zZ,Bool.false_and,Bool.not_false,lnM,yj,hi]
  |true=>rw[e1]at hi;simp (disch:=first|omega|(simp only[lnA,lnC,lnN,lnM,z8,yj];omega)) only[↓yk,yz,↓zy,↓y0,↓zF,↓yZ,zZ,Bool.true_and,Bool.not_true,lnM,yj,hi,hw,ih]
theorem PF {c:Cd}(hf:FitsC c):∀(k i:Nat),i+k=c.list.length->Gz (i:Int) (c.pool.map eN) (c.list.map eIn) (c.defs.map eDf)=some (.bool (Jd c i k&&FT c 0 c.defs.length),[])
 |0,i,hi=>by
  have hll:=hf.llen
  have h:=Oz hf c.defs.length 0 (Nat.zero_add _)
  rw[Int.natCast_zero]at h
  rw[Kt]
  simp (disch:=first|omega|(simp only[lnA,lnC,lnN,lnM,z8,yj];omega)) only[↓y0,zY,lnM,yj,h]
  rfl
 |k+1,i,hi=>by
  have hll:=hf.llen
  obtain⟨x,hx⟩:=yM (l:=c.list) (i:=i) (by omega)
  have ih:=PF hf k (i+1) (by omega)
  have hw:w6 ((i:Int)+1)=((i+1:Nat):Int):=z6 (by omega)
  have hi:=ac1 hf hx
  rw[Kt]
  simp only[Jd,hx]
  cases e1:Kn c x i with
  |false=>rw[e1]at hi;simp (disch:=first|omega|(simp only[lnA,lnC,lnN,lnM,z8,yj];omega)) only[↓yk,yz,↓zy,↓zF,↓yZ,zZ,Bool.false_and,Bool.not_false,lnM,yj,hi]
  |true=>rw[e1]at hi;simp (disch:=first|omega|(simp only[lnA,lnC,lnN,lnM,z8,yj];omega)) only[↓yk,yz,↓zy,↓y0,↓zF,↓yZ,zZ,Bool.true_and,Bool.not_true,lnM,yj,hi,hw,ih]
theorem VT {c:Cd}(hf:FitsC c):V 54 [eCd c]=some (.bool (AX c),[]):=by
 have hp:=IG hf.pool hf.plen
 have h:=Pt hf c.list.length 0 (Nat.zero_add _)
 rw[Int.natCast_zero,lnM]at h
 rw[Xl]
 unfold AX
 cases e1:Af c.pool with
 |false=>rw[e1]at hp;simp (disch:=first|omega|(simp only[lnA,lnC,lnN,lnM,z8,yj];omega)) only[↓yk,yz,↓zy,↓zF,↓yZ,Bool.false_and,Bool.not_false,hp]
 |true=>
  rw[e1]at hp
  by_cases e2:c.list.length<=400
  ·by_cases e3:c.defs.length<=20
   ·simp (disch:=first|omega|(simp only[lnA,lnC,lnN,lnM,z8,yj];omega)) only[↓yk,yz,↓y0,↓zF,↓yZ,zZ,zY,Bool.true_and,Bool.not_true,lnM,yj,hp,h]
   ·simp (disch:=first|omega|(simp only[lnA,lnC,lnN,lnM,z8,yj];omega)) only[↓yk,yz,↓zy,↓y0,↓zF,↓yZ,zZ,zY,Bool.false_and,Bool.and_false,Bool.not_true,lnM,yj,hp]
  ·simp (disch:=first|omega|(simp only[lnA,lnC,lnN,lnM,z8,yj];omega)) only[↓yk,yz,↓zy,↓y0,↓zF,↓yZ,zZ,zY,Bool.false_and,Bool.and_false,Bool.not_true,lnM,yj,hp]
theorem IJ {c:Cd}(hf:FitsC c):V 59 [eCd c]=some (.bool (AX c),[]):=by
 have hp:=Dt hf.pool hf.plen
 have h:=PF hf c.list.length 0 (Nat.zero_add _)
 rw[Int.natCast_zero]at h
 rw[Xx]
 unfold AX
 cases e1:Af c.pool with
 |false=>rw[e1]at hp;simp (disch:=first|omega|(simp only[lnA,lnC,lnN,lnM,z8,yj];omega)) only[↓yk,yz,↓zy,↓zF,↓yZ,Bool.false_and,Bool.not_false,hp]
 |true=>
  rw[e1]at hp
  by_cases e2:c.list.length<=400
  ·by_cases e3:c.defs.length<=20
   ·simp (disch:=first|omega|(simp only[lnA,lnC,lnN,lnM,z8,yj];omega)) only[↓yk,yz,↓y0,↓zF,↓yZ,zZ,zY,Bool.true_and,Bool.not_true,lnM,yj,hp,h]
   ·simp (disch:=first|omega|(simp only[lnA,lnC,lnN,lnM,z8,yj];omega)) only[↓yk,yz,↓zy,↓y0,↓zF,↓yZ,zZ,zY,Bool.false_and,Bool.and_false,Bool.not_true,lnM,yj,hp]
  ·simp (disch:=first|omega|(simp only[lnA,lnC,lnN,lnM,z8,yj];omega)) only[↓yk,yz,↓zy,↓y0,↓zF,↓yZ,zZ,zY,Bool.false_and,Bool.and_false,Bool.not_true,lnM,yj,hp]

structure Mc where
 pool:List Nd
 at':Int
 s:Int
 e:Int
 d:Int
 state:Int
 ask:Int
 arg:Int
abbrev eMc (m:Mc):D:=.agg [.rs (5,0) (m.pool.map eN),iN m.at',iN m.s,iN m.e,iN m.d,iN m.state,iN m.ask,iN m.arg]
abbrev oMc (m:Mc):D:=.agg [.os (5,0) (m.pool.map eN),iN m.at',iN m.s,iN m.e,iN m.d,iN m.state,iN m.ask,iN m.arg]
def Jx (p:List Nd)(v:Int):Bool:=wi v 0 ((p.length:Int)-1)
def Nt (c:Cd)(m:Mc):Bool:=
 if m.state=0 then wi m.at' 0 ((c.list.length:Int)-1)&&(m.ask==0&&m.arg==0)
 else if m.state=1 then wi m.at' 0 ((c.list.length:Int)-1)&&(wi m.ask 13 19&&((m.ask != 18)&&Jx m.pool m.arg))
 else if m.state=2 then m.at'==0&&(m.ask==0&&Jx m.pool m.arg)
 else if m.state=3 then m.at'==0&&(wi m.ask 1 7&&m.arg==0)
 else false
def DG (c:Cd)(m:Mc):Bool:=AX c&&(Af m.pool&&(Jx m.pool m.s&&(Jx m.pool m.e&&(Jx m.pool m.d&&Nt c m))))
theorem WX {c:Cd}(hl:c.list.length<4611686018427387904)(n:Int):V 57 [eCd c,iN n]=some (.bool (wi n 0 ((c.list.length:Int)-1)),[]):=by
 rw[Vt]
 simp (disch:=first|omega|(simp only[lnA,lnC,lnN,lnM,z8,yj];omega)) only[↓yk,yz,↓zF,↓yZ,lnM,wS,yj,AK]
theorem Ij {c:Cd}(hf:FitsC c){m:Mc}(hm:Du m.pool)(hl:m.pool.length<4611686018427387904):V 14 [eCd c,eMc m]=some (.bool (DG c m),[]):=by
 have hc:=VT hf
 have hp:=IG hm hl
 have h1:=Jh hl m.s
 have h2:=Jh hl m.e
 have h3:=Jh hl m.d
 have h4:=Jh hl m.arg
 have h5:=WX hf.llen m.at'
 rw[SE]
 unfold DG Jx
 cases e1:AX c with
 |false=>rw[e1]at hc;simp (disch:=first|omega|(simp only[lnA,lnC,lnN,lnM,z8,yj];omega)) only[↓yk,yz,↓zy,↓zF,↓yZ,Bool.false_and,Bool.not_false,hc]
 |true=>
 rw[e1]at hc
 cases e2:Af m.pool with
 |false=>rw[e2]at hp;simp (disch:=first|omega|(simp only[lnA,lnC,lnN,lnM,z8,yj];omega)) only[↓yk,yz,↓zy,↓y0,↓zF,↓yZ,Bool.false_and,Bool.and_false,Bool.not_true,Bool.not_false,hc,hp]
 |true=>
 rw[e2]at hp
 cases e3:wi m.s 0 ((m.pool.length:Int)-1) with
 |false=>rw[e3]at h1;simp (disch:=first|omega|(simp only[lnA,lnC,lnN,lnM,z8,yj];omega)) only[↓yk,yz,↓zy,↓y0,↓zF,↓yZ,Bool.false_and,Bool.and_false,Bool.not_true,Bool.not_false,hc,hp,h1]
 |true=>
 rw[e3]at h1
 cases e4:wi m.e 0 ((m.pool.length:Int)-1) with
 |false=>rw[e4]at h2;simp (disch:=first|omega|(simp only[lnA,lnC,lnN,lnM,z8,yj];omega)) only[↓yk,yz,↓zy,↓y0,↓zF,↓yZ,Bool.false_and,Bool.and_false,Bool.not_true,Bool.not_false,hc,hp,h1,h2]
 |true=>
 rw[e4]at h2
 cases e5:wi m.d 0 ((m.pool.length:Int)-1) with
 |false=>rw[e5]at h3;simp (disch:=first|omega|(simp only[lnA,lnC,lnN,lnM,z8,yj];omega)) only[↓yk,yz,↓zy,↓y0,↓zF,↓yZ,Bool.false_and,Bool.and_false,Bool.not_true,Bool.not_false,hc,hp,h1,h2,h3]
 |true=>
 rw[e5]at h3
 unfold Nt Jx
 by_cases s0:m.state=0
 ·rw[if_pos s0];simp (disch:=first|omega|(simp only[lnA,lnC,lnN,lnM,z8,yj];omega)) only[↓yk,yz,↓zy,↓y0,↓zF,↓yZ,zU,Bool.true_and,Bool.not_true,hc,hp,h1,h2,h3,h5];simp only[AE]
 rw[if_neg s0]
 by_cases s1:m.state=1
 ·rw[if_pos s1];simp (disch:=first|omega|(simp only[lnA,lnC,lnN,lnM,z8,yj];omega)) only[↓yk,yz,↓zy,↓y0,↓zF,↓yZ,zU,zT,Bool.true_and,Bool.not_true,hc,hp,h1,h2,h3,h4,h5,AK];simp only[AE]
 rw[if_neg s1]
 by_cases s2:m.state=2
 ·rw[if_pos s2];simp (disch:=first|omega|(simp only[lnA,lnC,lnN,lnM,z8,yj];omega)) only[↓yk,yz,↓zy,↓y0,↓zF,↓yZ,zU,zT,Bool.true_and,Bool.not_true,hc,hp,h1,h2,h3,h4];simp only[AE]
 rw[if_neg s2]
 by_cases s3:m.state=3
 ·rw[if_pos s3];simp (disch:=first|omega|(simp only[lnA,lnC,lnN,lnM,z8,yj];omega)) only[↓yk,yz,↓zy,↓y0,↓zF,↓yZ,zU,zT,Bool.true_and,Bool.not_true,hc,hp,h1,h2,h3,AK];simp only[AE]
 rw[if_neg s3]
 simp (disch:=first|omega|(simp only[lnA,lnC,lnN,lnM,z8,yj];omega)) only[↓yk,yz,↓y0,↓zF,↓yZ,zT,Bool.and_false,Bool.not_true,hc,hp,h1,h2,h3]
theorem Il {c:Cd}(hf:FitsC c){m:Mc}(hm:Du m.pool)(hl:m.pool.length<4611686018427387904):V 15 [eCd c,eMc m]=some (.bool (DG c m),[]):=by
 have hll:=hf.llen
 have hc:=IJ hf
 have hp:=Dt hm hl
 have h1:=KV hl m.s
 have h2:=KV hl m.e
 have h3:=KV hl m.d
 have h4:=KV hl m.arg
 rw[SN]
 unfold DG Jx
 cases e1:AX c with
 |false=>rw[e1]at hc;simp (disch:=first|omega|(simp only[lnA,lnC,lnN,lnM,z8,yj];omega)) only[↓yk,yz,↓zy,↓zF,↓yZ,Bool.false_and,Bool.not_false,hc]
 |true=>
 rw[e1]at hc
 cases e2:Af m.pool with
 |false=>rw[e2]at hp;simp (disch:=first|omega|(simp only[lnA,lnC,lnN,lnM,z8,yj];omega)) only[↓yk,yz,↓zy,↓y0,↓zF,↓yZ,Bool.false_and,Bool.and_false,Bool.not_true,Bool.not_false,hc,hp]
 |true=>
 rw[e2]at hp
 cases e3:wi m.s 0 ((m.pool.length:Int)-1) with
 |false=>rw[e3]at h1;simp (disch:=first|omega|(simp only[lnA,lnC,lnN,lnM,z8,yj];omega)) only[↓yk,yz,↓zy,↓y0,↓zF,↓yZ,Bool.false_and,Bool.and_false,Bool.not_true,Bool.not_false,hc,hp,h1]
 |true=>
 rw[e3]at h1
 cases e4:wi m.e 0 ((m.pool.length:Int)-1) with
 |false=>rw[e4]at h2;simp (disch:=first|omega|(simp only[lnA,lnC,lnN,lnM,z8,yj];omega)) only[↓yk,yz,↓zy,↓y0,↓zF,↓yZ,Bool.false_and,Bool.and_false,Bool.not_true,Bool.not_false,hc,hp,h1,h2]
 |true=>
 rw[e4]at h2
 cases e5:wi m.d 0 ((m.pool.length:Int)-1) with
 |false=>rw[e5]at h3;simp (disch:=first|omega|(simp only[lnA,lnC,lnN,lnM,z8,yj];omega)) only[↓yk,yz,↓zy,↓y0,↓zF,↓yZ,Bool.false_and,Bool.and_false,Bool.not_true,Bool.not_false,hc,hp,h1,h2,h3]
 |true=>
 rw[e5]at h3
 unfold Nt Jx
 by_cases s0:m.state=0
 ·rw[if_pos s0];simp (disch:=first|omega|(simp only[lnA,lnC,lnN,lnM,z8,yj];omega)) only[↓yk,yz,↓zy,↓y0,↓zF,↓yZ,zU,Bool.true_and,Bool.not_true,lnM,wS,yj,hc,hp,h1,h2,h3,CR];simp only[AE]
 rw[if_neg s0]
 by_cases s1:m.state=1
 ·rw[if_pos s1];simp (disch:=first|omega|(simp only[lnA,lnC,lnN,lnM,z8,yj];omega)) only[↓yk,yz,↓zy,↓y0,↓zF,↓yZ,zU,zT,Bool.true_and,Bool.not_true,lnM,wS,yj,hc,hp,h1,h2,h3,h4,CR];simp only[AE]
 rw[if_neg s1]
 by_cases s2:m.state=2
 ·rw[if_pos s2];simp (disch:=first|omega|(simp only[lnA,lnC,lnN,lnM,z8,yj];omega)) only[↓yk,yz,↓zy,↓y0,↓zF,↓yZ,zU,zT,Bool.true_and,Bool.not_true,lnM,wS,yj,hc,hp,h1,h2,h3,h4,CR];simp only[AE]
 rw[if_neg s2]
 by_cases s3:m.state=3
 ·rw[if_pos s3];simp (disch:=first|omega|(simp only[lnA,lnC,lnN,lnM,z8,yj];omega)) only[↓yk,yz,↓zy,↓y0,↓zF,↓yZ,zU,zT,Bool.true_and,Bool.not_true,lnM,wS,yj,hc,hp,h1,h2,h3,CR];simp only[AE]
 rw[if_neg s3]
 simp (disch:=first|omega|(simp only[lnA,lnC,lnN,lnM,z8,yj];omega)) only[↓yk,yz,↓y0,↓zF,↓yZ,zT,Bool.and_false,Bool.not_true,lnM,wS,yj,hc,hp,h1,h2,h3,CR]
end
end Go.Eng
/-! numbers and texts as bytes,on both sides -/
namespace Go.Eng
open Go.Proofs Go.Proofs.Tryz

noncomputable def DQ (n:Nat):List UInt8:=if n<=127 then [UInt8.ofNat n] else UInt8.ofNat (n % 128+128)::DQ (n / 128)
termination_by n
theorem Qe {n:Nat}(h:n<=127):DQ n=[UInt8.ofNat n]:=by rw[DQ,if_pos h]
theorem aaj {n:Nat}(h:¬n<=127):DQ n=UInt8.ofNat (n % 128+128)::DQ (n / 128):=by rw[DQ,if_neg h]
theorem aak:∀(k n:Nat),n<128 ^ (k+1)->(DQ n).length<=k+1
 |0,n,h=>by rw[Qe (by simp at h;omega)];simp
 |k+1,n,h=>by
  by_cases h1:n<=127
  ·rw[Qe h1];simp
  ·rw[aaj h1]
   have:=aak k (n / 128) (by rw[Nat.pow_succ]at h;omega)
   simp;omega
theorem B9 {n:Nat}(h:n<4611686018427387904):(DQ n).length<=9:=aak 8 n (by have:(128:Nat) ^ (8+1)=9223372036854775808:=rfl;omega)
theorem afV {n:Nat}(h:n<256):eU (UInt8.ofNat n)=D.int .u8 (n:Int):=by
 have:(UInt8.ofNat n).toNat=n:=by simp;omega
 simp only[eU,this]
theorem ae6 (n:Nat):Int.tmod (n:Int) 128=((n % 128:Nat):Int):=by rw[Int.tmod_eq_emod_of_nonneg (by omega)];omega
theorem ae4 (n:Nat):Int.tdiv (n:Int) 128=((n / 128:Nat):Int):=by rw[Int.tdiv_eq_ediv_of_nonneg (by omega)];omega
theorem aff {l:List UInt8}(h:l.length<4294967296)(x:D):decide (ni (l.map eU++[x]).length<=LIM)=true:=
 decide_eq_true (by rw[qA];simp only[ni,lnA,lnM,lnC,lnN];omega)
theorem ad3 {l:List UInt8}{n:Nat}(h:n<256):l.map eU++[D.int .u8 (n:Int)]=(l++[UInt8.ofNat n]).map eU:=by
 rw[List.map_append,List.map_cons,List.map_nil,afV h]
theorem VK:∀(n:Nat)(out:List UInt8),n<4611686018427387904->out.length+(DQ n).length<4294967296->Gx (n:Int) (out.map eU)=some (.os (1,0) ((out++DQ n).map eU),[]):=by
 intro n
 induction n using Nat.strongRecOn with
 |_ n ih=>
  intro out hn hl
  rw[Qj]
  by_cases h:n<=127
  ·rw[yp (decide_eq_false (by omega)),YP (by omega) (by omega),zJ (aff (by omega) _),zO,ad3 (by omega),Qe h]
  ·rw[aaj h]at hl⊢
   rw[lnC]at hl
   have e:((n % 128:Nat):Int)+128=((n % 128+128:Nat):Int):=by omega
   rw[y6 (decide_eq_true (by omega)),zJ (by decide),ae6,w64 (by omega) (by omega),YP (by omega) (by omega),zJ (aff (by omega) _),zO,zJ (by decide),e,ad3 (by omega),ae4,w64 (by omega) (by omega),ih (n / 128) (by omega) _ (by omega) (by simp;omega)]
   simp
theorem PH {n:Nat}(h:n<4611686018427387904):V 67 [iN (n:Int)]=some (.os (1,0) ((DQ n).map eU),[]):=by
 rw[Xp,yp (decide_eq_false (by omega))]
 exact VK n [] h (by have:=B9 h;simp;omega)
noncomputable def acL (s:List UInt8):List UInt8:=DQ s.length++s
theorem Ve {s:List UInt8}(h:s.length<4294967200):V 138 [.str (mk s)]=some (.os (1,0) ((acL s).map eU),[]):=by
 have hn:=PH (n:=s.length) (by omega)
 have hp:=B9 (n:=s.length) (by omega)
 rw[Vo,z8]
 simp (disch:=first|omega|(simp only[lnA,lnC,lnN,lnM,z8,yj];omega)) only[↓yk,yz,↓zd,↓zF,↓zt,↓zO,zZ,lnM,lnA,qA,yj,hn,acg,zz]
 rfl
end Go.Eng
/-! how great a value is,the program's side -/
namespace Go.Eng
open Go.Proofs Go.Proofs.Tryz

end Go.Eng
/-! what is moved is as it was: the plain side -/
namespace Go.Eng

noncomputable def Ah (p:List Nd):Prop:=∀(j:Nat) (x:Nd),p[j]? = some x->okN x j=true
theorem WH {p:List Nd}(h:Ah p):∀(k i:Nat),Lh p i k=true
 |0,i=>rfl
 |k+1,i=>by
  simp only[Lh,WH h k (i+1),Bool.and_true]
  split
  ·exact h _ _ ‹_›
  ·rfl
theorem okPool_iff {p:List Nd}:Af p=true↔Ah p/\p.length<=3000:=by
 constructor
 ·intro h;exact⟨fun j x hx=>D6 h hx,Aq h⟩
 ·rintro⟨h,hl⟩
  simp only[Af,WH h,Bool.true_and,decide_eq_true_eq];omega
noncomputable def ada (q q':List Nd) (m:List Bool) (to:List Int):Prop:=∀(i:Nat) (x:Nd),q[i]? = some x->m[i]? = some true->∃j:Nat,to[i]? = some (j:Int)/\q'[j]? = some (Aj to x)
theorem UA {pre r:List Int}{x:Nd}{i:Nat}(ho:okN x i=true)(hp:i<=pre.length):Aj (pre++r) x=Aj pre x:=by
 have g:∀n:Int,0<=n->n<i->(pre++r).getD n.toNat 0=pre.getD n.toNat 0:=by
  intro n h0 h1
  simp only[List.getD_eq_getElem?_getD]
  rw[List.getElem?_append_left (by omega)]
 unfold Aj
 split
 ·rename_i h5
  have:=Az ho h5
  rw[g _ (by omega) (by omega),g _ (by omega) (by omega)]
 ·split
  ·rename_i h6
   have:=Bz ho h6
   rw[g _ (by omega) (by omega)]
  ·rfl
theorem acx {pre:List Int}{x:Nd}{i h:Nat}(ho:okN x i=true)(h5:x.kind=5->∃a b:Nat,pre[x.a.toNat]? = some (a:Int)/\pre[x.b.toNat]? = some (b:Int)/\a<h/\b<h)
  (h6:x.kind=6\/x.kind=7->∃a:Nat,pre[x.a.toNat]? = some (a:Int)/\a<h):okN (Aj pre x) h=true:=by
 by_cases k5:x.kind=5
 ·obtain⟨a,b,ha,hb,h1,h2⟩:=h5 k5
  simp only[Aj,k5,if_true,List.getD_eq_getElem?_getD,ha,hb,Option.getD_some]
  simp[okN,k5]at ho⊢
  exact⟨ho.1,ho.2.1,wi_iff.2 ⟨by omega,by omega⟩,wi_iff.2 ⟨by omega,by omega⟩⟩
 ·by_cases k6:x.kind=6\/x.kind=7
  ·obtain⟨a,ha,h1⟩:=h6 k6
   simp only[Aj,k5,k6,if_true,if_false,List.getD_eq_getElem?_getD,ha,Option.getD_some]
   rcases k6 with k6|k6
   ·simp[okN,k6]at ho⊢;exact⟨ho.1,ho.2.1,wi_iff.2 ⟨by omega,by omega⟩,ho.2.2.2⟩
   ·simp[okN,k6]at ho⊢;exact⟨ho.1,ho.2.1,wi_iff.2 ⟨by omega,by omega⟩,ho.2.2.2⟩
  ·have k6':¬x.kind=6:=fun h=>k6 (.inl h)
   have k7':¬x.kind=7:=fun h=>k6 (.inr h)
   simp only[Aj,k5,k6,if_false]
   simp only[okN,k5,k6',k7',if_false]at ho⊢
   exact ho
theorem Ux {q:List Nd}(hq:Ah q){m:List Bool}(hm:m.length=q.length)(hc:Xg q m)(d:Int):∀(k:Nat) (pre:List Int) (acc:List Nd),pre.length+k=q.length->Ah acc ->
  (∀(i:Nat) (x:Nd),i<pre.length->q[i]? = some x->m[i]? = some true->∃j:Nat,pre[i]? = some (j:Int)/\acc[j]? = some (Aj pre x)) ->
  Ah (BH d q m k pre acc).2/\ada q (BH d q m k pre acc).2 m (BH d q m k pre acc).1
 |0,pre,acc,hk,ha,hi=>by
  simp only[BH]
  exact⟨ha,fun i x hx hmi=>hi i x (by have:=aQ hx;omega) hx hmi⟩
 |k+1,pre,acc,hk,ha,hi=>by
  obtain⟨x,hx⟩:=yM (l:=q) (i:=pre.length) (by omega)
  obtain⟨b,hb⟩:=yM (l:=m) (i:=pre.length) (by omega)
  simp only[BH,hx,hb]
  have hox:=hq _ _ hx
  have old:∀(u:Int) (acc':List Nd),(∀(j:Nat) (y:Nd),acc[j]? = some y->acc'[j]? = some y)->∀(i:Nat) (y:Nd),i<pre.length->q[i]? = some y->m[i]? = some true->∃j:Nat,(pre++[u])[i]? = some (j:Int)/\acc'[j]? = some (Aj (pre++[u]) y):=by
   intro u acc' hacc i y hil hy hmi
   obtain⟨j,h1,h2⟩:=hi i y hil hy hmi
   refine⟨j,by rw[List.getElem?_append_left hil];exact h1,?_⟩
   rw[UA (hq _ _ hy) (by omega)]
   exact hacc _ _ h2
  cases b with
  |false=>
   refine Ux hq hm hc d k (pre++[d]) acc (by simp;omega) ha ?_
   intro i y hil hy hmi
   by_cases e:i=pre.length
   ·subst e;rw[hb]at hmi;cases hmi
   ·exact old d acc (fun _ _ h=>h) i y (by simp at hil;omega) hy hmi
  |true=>
   have hcx:=hc _ _ hx hb
   have kid:∀n:Int,On m n->0<=n->n<pre.length->∃a:Nat,pre[n.toNat]? = some (a:Int)/\a<acc.length:=by
    intro n hn h0 h1
    obtain⟨y,hy⟩:=yM (l:=q) (i:=n.toNat) (by omega)
    obtain⟨j,h2,h3⟩:=hi n.toNat y (by omega) hy hn
    exact⟨j,h2,aQ h3⟩
   have hok:okN (Aj pre x) acc.length=true:=acx hox
    (fun h5=>by
     have h:=Az hox h5
     obtain⟨a,ha1,ha2⟩:=kid x.a (hcx.1 h5).1 h.1 h.2.1
     obtain⟨b,hb1,hb2⟩:=kid x.b (hcx.1 h5).2 h.2.2.1 h.2.2.2
     exact⟨a,b,ha1,hb1,ha2,hb2⟩)
    (fun h6=>by
     have h:=Bz hox h6
     exact kid x.a (hcx.2 h6) h.1 h.2)
   have ha':Ah (acc++[Aj pre x]):=by
    intro j y hy
    by_cases e:j<acc.length
    ·rw[List.getElem?_append_left e]at hy;exact ha j y hy
    ·have hl:=aQ hy
     have:j=acc.length:=by simp at hl;omega
     subst this
     simp at hy;subst hy;exact hok
   refine Ux hq hm hc d k (pre++[(acc.length:Int)]) (acc++[Aj pre x]) (by simp;omega) ha' ?_
   intro i y hil hy hmi
   by_cases e:i=pre.length
   ·subst e;rw[hx]at hy;cases hy
    refine⟨acc.length,by simp,?_⟩
    rw[UA hox (Nat.le_refl _)];simp
   ·exact old _ _ (fun j z h=>by rw[List.getElem?_append_left (aQ h)];exact h) i y (by simp at hil;omega) hy hmi
theorem Uz (d:Int)(q:List Nd)(m:List Bool):∀(k:Nat) (pre:List Int) (acc:List Nd),∃r,(BH d q m k pre acc).2=acc++r
 |0,pre,acc=>⟨[],by simp[BH]⟩
 |k+1,pre,acc=>by
  simp only[BH]
  split
  ·obtain⟨r,h⟩:=Uz d q m k (pre++[(acc.length:Int)]) (acc++[Aj pre ‹Nd›])
   exact⟨_,by rw[h,List.append_assoc]⟩
  ·exact Uz d q m k _ acc
theorem Qb {q acc:List Nd}(hq:Af q=true)(ha:Ah acc)(rs:List Int)(d:Int):Ah (Ba d q rs acc).2/\ada q (Ba d q rs acc).2 (Bu q rs) (Ba d q rs acc).1:=
 Ux (okPool_iff.1 hq).1 (Dr q rs) (FW hq rs) d q.length [] acc (Nat.zero_add _) ha (fun i x h=>absurd h (by simp))

theorem QL (to:List Int)(x:Nd):(Aj to x).kind=x.kind/\(Aj to x).n=x.n/\(Aj to x).s=x.s:=by
 unfold Aj
 split
 ·exact⟨rfl,rfl,rfl⟩
 ·split<;>exact⟨rfl,rfl,rfl⟩
end Go.Eng
/-! what is kept is all reached,and as great as it was: the plain side -/
namespace Go.Eng

inductive Rch (q:List Nd) (rs:List Int):Nat->Prop
 |root {r:Int}:r∈rs->Rch q rs r.toNat
 |a {i:Nat} {x:Nd}:Rch q rs i->q[i]? = some x->(x.kind=5\/x.kind=6\/x.kind=7)->Rch q rs x.a.toNat
 |b {i:Nat} {x:Nd}:Rch q rs i->q[i]? = some x->x.kind=5->Rch q rs x.b.toNat
theorem Q6 {m:List Bool}{i j:Nat}(h:(m.set i true)[j]? = some true):j=i\/m[j]? = some true:=by
 by_cases e:i=j
 ·exact .inl e.symm
 ·rw[List.getElem?_set_ne e]at h;exact .inr h
theorem PA {q:List Nd}{rs:List Int}:∀(k:Nat) {m:List Bool},(∀j:Nat,m[j]? = some true->Rch q rs j)->∀j:Nat,(Bh q k m)[j]? = some true->Rch q rs j
 |0,m,h,j,hj=>h j hj
 |k+1,m,h,j,hj=>by
  simp only[Bh]at hj
  refine PA k ?_ j hj
  intro i hi
  split at hi
  ·rename_i x hx hm
   have hk:=h k hm
   unfold Bq at hi
   split at hi
   ·rename_i h5
    rcases Q6 hi with e|hi
    ·rw[e];exact .b hk hx h5
    ·rcases Q6 hi with e|hi
     ·rw[e];exact .a hk hx (.inl h5)
     ·exact h i hi
   ·split at hi
    ·rename_i h6
     rcases Q6 hi with e|hi
     ·rw[e];exact .a hk hx (.inr h6)
     ·exact h i hi
    ·exact h i hi
  ·exact h i hi
theorem QY:∀{rs:List Int}{m:List Bool}{j:Nat},(M8 rs m)[j]? = some true->m[j]? = some true\/∃r∈rs,r.toNat=j
 |[],m,j,h=>.inl h
 |r::rs,m,j,h=>by
  have h':(M8 rs (m.set r.toNat true))[j]? = some true:=h
  rcases QY h' with h|⟨s,hs,e⟩
  ·rcases Q6 h with e|h
   ·exact .inr ⟨r,by simp,e.symm⟩
   ·exact .inl h
  ·exact .inr ⟨s,by simp[hs],e⟩
theorem Ou {q:List Nd}{rs:List Int}{j:Nat}(h:(Bu q rs)[j]? = some true):Rch q rs j:=by
 refine PA _ ?_ j h
 intro i hi
 rcases QY hi with h|⟨r,hr,e⟩
 ·rw[List.getElem?_replicate]at h
  split at h<;>cases h
 ·rw[<-e];exact .root hr
theorem DH {q:List Nd}(hq:Af q=true){rs:List Int}(hr:Ar q rs=true){j:Nat}(h:Rch q rs j):(Bu q rs)[j]? = some true:=by
 induction h with
 |root hm=>exact Jf hr _ hm
 |a h hx hk ih=>
  have hc:=FW hq rs _ _ hx ih
  rcases hk with hk|hk
  ·exact (hc.1 hk).1
  ·exact hc.2 hk
 |b h hx hk ih=>exact ((FW hq rs _ _ hx ih).1 hk).2

theorem OU (d:Int){q:List Nd}{m:List Bool}(hm:m.length=q.length):∀(k:Nat) (pre:List Int) (acc:List Nd),pre.length+k=q.length ->
  (∀j:Nat,j<acc.length->∃i:Nat,m[i]? = some true/\pre[i]? = some (j:Int))->∀j:Nat,j<(BH d q m k pre acc).2.length->∃i:Nat,m[i]? = some true/\(BH d q m k pre acc).1[i]? = some (j:Int)
 |0,pre,acc,hk,h,j,hj=>h j hj
 |k+1,pre,acc,hk,h,j,hj=>by
  obtain⟨x,hx⟩:=yM (l:=q) (i:=pre.length) (by omega)
  obtain⟨b,hb⟩:=yM (l:=m) (i:=pre.length) (by omega)
  simp only[BH,hx,hb]at hj⊢
  have old:∀(u:Int) (j:Nat),j<acc.length->∃i:Nat,m[i]? = some true/\(pre++[u])[i]? = some (j:Int):=by
   intro u j hj
   obtain⟨i,h1,h2⟩:=h j hj
   exact⟨i,h1,by rw[List.getElem?_append_left (aQ h2)];exact h2⟩
  cases b with
  |false=>exact OU d hm k (pre++[d]) acc (by simp;omega) (old d) j hj
  |true=>
   refine OU d hm k (pre++[(acc.length:Int)]) (acc++[Aj pre x]) (by simp;omega) ?_ j hj
   intro i hi
   by_cases e:i<acc.length
   ·exact old _ i e
   ·have:i=acc.length:=by simp at hi;omega
    subst this
    exact⟨pre.length,hb,by simp⟩
theorem acM {q q':List Nd}(hq:Af q=true){rs:List Int}(hr:Ar q rs=true){to now:List Int}(hmv:ada q q' (Bu q rs) to)(hn:∀r∈rs,to.getD r.toNat 0∈now){i:Nat}(h:Rch q rs i):∀j:Nat,to[i]? = some (j:Int)->Rch q' now j:=by
 have one:∀{i:Nat} {x:Nd},Rch q rs i->q[i]? = some x->∃j:Nat,to[i]? = some (j:Int)/\q'[j]? = some (Aj to x):=fun h hx=>hmv _ _ hx (DH hq hr h)
 induction h with
 |root hm=>
  rename_i r
  intro j hj
  have e:to.getD r.toNat 0=(j:Int):=by rw[List.getD_eq_getElem?_getD,hj];rfl
  have:=Rch.root (q:=q') (hn r hm)
  rw[e]at this
  exact this
 |a h hx hk ih=>
  rename_i i x
  intro j hj
  obtain⟨ji,e1,e2⟩:=one h hx
  have h':=ih ji e1
  have ea:(Aj to x).a.toNat=j:=by
   rcases hk with hk|hk
   ·simp only[Aj,hk,if_true,List.getD_eq_getElem?_getD,hj,Option.getD_some,Int.toNat_natCast]
   ·have h5:¬x.kind=5:=by omega
    simp only[Aj,h5,hk,if_true,if_false,List.getD_eq_getElem?_getD,hj,Option.getD_some,Int.toNat_natCast]
  rw[<-ea]
  exact .a h' e2 (by rw[(QL to x).1];exact hk)
 |b h hx hk ih=>
  rename_i i x
  intro j hj
  obtain⟨ji,e1,e2⟩:=one h hx
  have h':=ih ji e1
  have ea:(Aj to x).b.toNat=j:=by
   simp only[Aj,hk,if_true,List.getD_eq_getElem?_getD,hj,Option.getD_some,Int.toNat_natCast]
  rw[<-ea]
  exact .b h' e2 (by rw[(QL to x).1];exact hk)
noncomputable def ids (n:Nat):List Int:=(List.range n).map fun k:Nat=>(k:Int)
theorem WO {n i:Nat}(h:i<n):(ids (n))[i]? = some (i:Int):=by
 rw[ids,List.getElem?_map,List.getElem?_range h];rfl
theorem acw {x:Nd}{i:Nat}(ho:okN x i=true):Aj (ids (i)) x=x:=by
 have g:∀n:Int,0<=n->n<i->(ids (i)).getD n.toNat 0=n:=by
  intro n h0 h1
  rw[List.getD_eq_getElem?_getD,WO (by omega)]
  simp;omega
 unfold Aj
 split
 ·rename_i h5
  have:=Az ho h5
  rw[g _ (by omega) (by omega),g _ (by omega) (by omega)]
 ·split
  ·rename_i h6
   have:=Bz ho h6
   rw[g _ (by omega) (by omega)]
  ·rfl
theorem ZQ (d:Int){q:List Nd}(hq:Ah q){m:List Bool}(hm:∀j:Nat,j<q.length->m[j]? = some true):∀(k i:Nat),i+k=q.length ->
  BH d q m k (ids (i)) (q.take i)=(ids (q.length),q)
 |0,i,h=>by
  have:i=q.length:=by omega
  subst this
  simp[BH]
 |k+1,i,h=>by
  obtain⟨x,hx⟩:=yM (l:=q) (i:=i) (by omega)
  have hl:(ids (i)).length=i:=by simp[ids]
  have ht:(q.take i).length=i:=by simp;omega
  have ih:=ZQ d hq hm k (i+1) (by omega)
  have es:ids (i+1)=ids i++[(i:Int)]:=by simp[ids,List.range_succ]
  rw[es,zD hx]at ih
  simp only[BH,hl,hx,hm i (by omega),ht,acw (hq _ _ hx)]
  exact ih
theorem abd {q:List Nd}(hq:Af q=true){rs:List Int}(hr:Ar q rs=true)(d d':Int):Af (Bj d q rs).1=true/\Ar (Bj d q rs).1 (Bj d q rs).2=true/\Bj d' (Bj d q rs).1 (Bj d q rs).2=Bj d q rs:=by
 obtain⟨h1,h2⟩:=Qb hq (acc:=[]) (fun j x h=>by simp at h) rs d
 have hlen:=Mf d q (Bu q rs) q.length [] []
 have hok:Af (Ba d q rs []).2=true:=okPool_iff.2 ⟨h1,by have:=Aq hq;have:=hlen;simp[Ba]at this⊢;omega⟩
 have hto:∀r∈rs,∃j:Nat,(Ba d q rs []).1[r.toNat]? = some (j:Int)/\j<(Ba d q rs []).2.length:=by
  intro r hm
  have hl:=Kf hr r hm
  obtain⟨x,hx⟩:=yM (l:=q) (i:=r.toNat) (by omega)
  obtain⟨j,e1,e2⟩:=h2 _ x hx (Jf hr r hm)
  exact⟨j,e1,aQ e2⟩
 have hgd:∀r∈rs,0<=(Ba d q rs []).1.getD r.toNat 0/\(Ba d q rs []).1.getD r.toNat 0<((Ba d q rs []).2.length:Int):=by
  intro r hm
  obtain⟨j,e1,e2⟩:=hto r hm
  rw[List.getD_eq_getElem?_getD,e1];simp;omega
 have hri:Ar (Bj d q rs).1 (Bj d q rs).2=true:=by
  unfold Ar Bj
  rw[List.all_map,List.all_eq_true]
  intro r hm
  have:=hgd r hm
  exact wi_iff.2 ⟨this.1,by simp only;omega⟩
 refine⟨hok,hri,?_⟩
 have hall:∀j:Nat,j<(Bj d q rs).1.length->(Bu (Bj d q rs).1 (Bj d q rs).2)[j]? = some true:=by
  intro j hj
  obtain⟨i,hi,ht⟩:=OU d (Dr q rs) q.length [] [] (Nat.zero_add _) (fun j h=>by simp at h) j hj
  exact DH hok hri (acM hq hr h2 (fun r hm=>List.mem_map.2 ⟨r,hm,rfl⟩) (Ou hi) j ht)
 have hm:=ZQ d' (okPool_iff.1 hok).1 hall (Bj d q rs).1.length 0 (Nat.zero_add _)
 have e:Ba d' (Bj d q rs).1 (Bj d q rs).2 []=(ids ((Bj d q rs).1.length),(Bj d q rs).1):=hm
 have e2:Bj d' (Bj d q rs).1 (Bj d q rs).2=((Bj d q rs).1,(Bj d q rs).2.map fun r=>(ids ((Bj d q rs).1.length)).getD r.toNat 0):=by
  show (_,_)=_
  rw[e]
 rw[e2]
 refine Prod.ext rfl ?_
 show List.map _ (Bj d q rs).2=(Bj d q rs).2
 have:∀r∈(Bj d q rs).2,(ids ((Bj d q rs).1.length)).getD r.toNat 0=r:=by
  intro r hm
  have:=Kf hri r hm
  rw[List.getD_eq_getElem?_getD,WO (by omega)]
  simp;omega
 rw[List.map_congr_left this,List.map_id']
end Go.Eng
/-! nodes as bytes,on both sides -/
namespace Go.Eng
noncomputable section
open Go.Proofs Go.Proofs.Tryz
set_option maxHeartbeats 4000000

theorem AY {z:Int}(h0:0<=z)(h1:z<4611686018427387904):V 67 [iN z]=some (.os (1,0) ((DQ z.toNat).map eU),[]):=by
 obtain⟨n,rfl⟩:=Int.eq_ofNat_of_zero_le h0
 exact PH (by omega)
theorem ach (s:ByteArray):s.data.toList.length=s.size:=by rw[Array.length_toList];rfl
theorem Tg {s:ByteArray}(h:s.size<4294967200):V 138 [.str s]=some (.os (1,0) ((acL s.data.toList).map eU),[]):=by
 have:=Ve (s:=s.data.toList) (by rw[ach];exact h)
 rw[ZP]at this
 exact this
def EE (x:Nd):List UInt8:=DQ x.kind.toNat ++
 (if x.kind=2\/x.kind=8\/x.kind=9 then DQ x.n.toNat
 else if x.kind=3 then DQ (x.n+1000000000).toNat
 else if x.kind=4 then acL x.s.data.toList
 else if x.kind=5 then DQ x.a.toNat++DQ x.b.toNat
 else if x.kind=6 then DQ x.n.toNat++DQ x.a.toNat
 else if x.kind=7 then DQ x.a.toNat else [])
theorem aeP {x:Nd}(h:x.kind=1):EE x=DQ x.kind.toNat:=by simp[EE,h]
theorem Yo {x:Nd}(h:x.kind=2\/x.kind=8\/x.kind=9):EE x=DQ x.kind.toNat++DQ x.n.toNat:=by simp[EE,h]
theorem aeQ {x:Nd}(h:x.kind=3):EE x=DQ x.kind.toNat++DQ (x.n+1000000000).toNat:=by simp[EE,h]
theorem aeR {x:Nd}(h:x.kind=4):EE x=DQ x.kind.toNat++acL x.s.data.toList:=by simp[EE,h]
theorem aeS {x:Nd}(h:x.kind=5):EE x=DQ x.kind.toNat++DQ x.a.toNat++DQ x.b.toNat:=by simp[EE,h]
theorem aeT {x:Nd}(h:x.kind=6):EE x=DQ x.kind.toNat++DQ x.n.toNat++DQ x.a.toNat:=by simp[EE,h]
theorem aeU {x:Nd}(h:x.kind=7):EE x=DQ x.kind.toNat++DQ x.a.toNat:=by simp[EE,h]
structure NdOk (x:Nd) (i:Nat):Prop where
 k1:1<=x.kind
 k9:x.kind<=9
 n3 : -1000000000<=x.n
 n9:x.n<=1000000000
 n0:x.kind≠3->0<=x.n
 a0:0<=x.a
 a1:x.a<=i
 b0:0<=x.b
 b1:x.b<=i
 s4:x.s.size<=12
theorem afz {x:Nd}{h:Int}(ho:okN x h=true)(h4:¬x.kind=4):x.s.size=0:=by
 have hz:nz x.s=true:=by
  unfold okN at ho
  simp only[h4,if_false]at ho
  repeat' split at ho
  all_goals (first|(simp only[Bool.and_eq_true]at ho;exact ho.2.1)|(cases ho))
 rw[nz,DK]at hz
 rw[of_decide_eq_true hz];rfl
theorem WJ {x:Nd}{i:Nat}(ho:okN x i=true):NdOk x i:=by
 have hk:=adT ho
 have hs:x.s.size<=12:=by
  by_cases h4:x.kind=4
  ·exact adP (adU ho h4)
  ·rw[afz ho h4];omega
 have rest:(-1000000000<=x.n/\x.n<=1000000000)/\(x.kind≠3->0<=x.n)/\(0<=x.a/\x.a<=i)/\(0<=x.b/\x.b<=i):=by
  unfold okN at ho
  repeat' split at ho
  all_goals (try simp only[Bool.and_eq_true,wi,decide_eq_true_eq,beq_iff_eq]at ho)
  all_goals (first|(cases ho;done)|(refine⟨⟨?_,?_⟩,fun _=>?_,⟨?_,?_⟩,⟨?_,?_⟩⟩<;>omega))
 exact⟨hk.1,hk.2,rest.1.1,rest.1.2,rest.2.1,rest.2.2.1.1,rest.2.2.1.2,rest.2.2.2.1,rest.2.2.2.2,hs⟩
def UN (p:List Nd):List UInt8:=DQ p.length++p.flatMap EE
theorem aai {s:List UInt8}(h:s.length<4611686018427387904):(acL s).length<=9+s.length:=by
 have:=B9 h
 simp only[acL,lnA];omega
theorem WA {x:Nd}{i:Nat}(ho:okN x i=true)(hi:i<=3000):(EE x).length<=30:=by
 obtain⟨k1,k9,n3,n9,n0,a0,a1,b0,b1,s4⟩:=WJ ho
 have l1:=B9 (n:=x.kind.toNat) (by omega)
 have l2:=B9 (n:=x.n.toNat) (by omega)
 have l3:=B9 (n:=(x.n+1000000000).toNat) (by omega)
 have l4:=B9 (n:=x.a.toNat) (by omega)
 have l5:=B9 (n:=x.b.toNat) (by omega)
 have e:x.s.data.toList.length=x.s.size:=by rw[Array.length_toList];rfl
 have l6:=aai (s:=x.s.data.toList) (by omega)
 unfold EE
 repeat' split
 all_goals (simp only[lnA,lnN];omega)
theorem NQ {p:List Nd}(hp:Af p=true):∀(k i:Nat) (out:List UInt8),i+k=p.length->out.length<=9+30*i->Ae (p.map eN) (ni (p.map eN).length) (i:Int) (out.map eU)=some (.os (1,0) ((out++(p.drop i).flatMap EE).map eU),[])
 |0,i,out,hi,ho=>by
  have hl:=Aq hp
  rw[IQ,List.drop_of_length_le (by omega)]
  simp (disch:=first|omega|(simp only[lnA,lnC,lnN,lnM,z8,yj];omega)) only[↓y0,zY,lnM,yj,List.flatMap_nil,List.append_nil]
 |k+1,i,out,hi,ho=>by
  have hl:=Aq hp
  obtain⟨x,hx⟩:=yM (l:=p) (i:=i) (by omega)
  have hok:=D6 hp hx
  have hlen:=WA hok (by omega)
  obtain⟨k1,k9,n3,n9,n0,a0,a1,b0,b1,s4⟩:=WJ hok
  have l1:=B9 (n:=x.kind.toNat) (by omega)
  have l2:=B9 (n:=x.n.toNat) (by omega)
  have l3:=B9 (n:=(x.n+1000000000).toNat) (by omega)
  have l4:=B9 (n:=x.a.toNat) (by omega)
  have l5:=B9 (n:=x.b.toNat) (by omega)
  have e:x.s.data.toList.length=x.s.size:=by rw[Array.length_toList];rfl
  have l6:=aai (s:=x.s.data.toList) (by omega)
  have ih:=NQ hp k (i+1) (out++EE x) (by omega) (by simp only[lnA];omega)
  have hw:w6 ((i:Int)+1)=((i+1:Nat):Int):=z6 (by omega)
  have ed:out++(p.drop i).flatMap EE=out++EE x++(p.drop (i+1)).flatMap EE:=by rw[vc hx,List.flatMap_cons,List.append_assoc]
  rw[ed,IQ]
  rw[lnM]at ih⊢
  have hk:x.kind=1\/x.kind=2\/x.kind=3\/x.kind=4\/x.kind=5\/x.kind=6\/x.kind=7\/x.kind=8\/x.kind=9:=by omega
  rcases hk with h|h|h|h|h|h|h|h|h
  ·rw[aeP h]at ih⊢;simp (disch:=first|omega|(simp only[lnA,lnC,lnN,lnM,z8,yj];omega)) only[↓yk,yz,↓zy,↓y0,↓zd,↓zF,↓zn,↓zq,↓zw,↓zt,↓yK,↓zO,↓zk,zZ,zT,Bool.and_true,lnM,lnA,qA,yj,↓zj hx,AY,zz,hw];exact ih
  ·rw[Yo (.inl h),<-List.append_assoc]at ih⊢;simp (disch:=first|omega|(simp only[lnA,lnC,lnN,lnM,z8,yj];omega)) only[↓yk,yz,↓zy,↓zd,↓zF,↓zn,↓zq,↓zw,↓zt,↓yK,↓zO,↓zk,zZ,zU,Bool.and_true,lnM,lnA,qA,yj,↓zj hx,AY,zz,hw];exact ih
  ·rw[aeQ h,<-List.append_assoc]at ih⊢;simp (disch:=first|omega|(simp only[lnA,lnC,lnN,lnM,z8,yj];omega)) only[↓yk,yz,↓zy,↓y0,↓zd,↓zF,↓zn,↓zq,↓zw,↓zt,↓yK,↓zO,↓zk,zZ,zU,zT,Bool.and_true,lnM,lnA,qA,wS,yj,↓zj hx,AY,zz,hw];exact ih
  ·rw[aeR h,<-List.append_assoc]at ih⊢;simp (disch:=first|omega|(simp only[lnA,lnC,lnN,lnM,z8,yj];omega)) only[↓yk,yz,↓zy,↓y0,↓zd,↓zF,↓zn,↓zq,↓zw,↓zt,↓yK,↓zO,↓zk,zZ,zU,zT,Bool.and_true,lnM,lnA,qA,yj,↓zj hx,AY,Tg,zz,hw];exact ih
  ·rw[aeS h,<-List.append_assoc,<-List.append_assoc]at ih⊢;simp (disch:=first|omega|(simp only[lnA,lnC,lnN,lnM,z8,yj];omega)) only[↓yk,yz,↓zy,↓y0,↓zd,↓zF,↓zn,↓zq,↓zw,↓zt,↓yK,↓zO,↓zk,zZ,zU,zT,Bool.and_true,lnM,lnA,qA,yj,↓zj hx,AY,zz,hw];exact ih
  ·rw[aeT h,<-List.append_assoc,<-List.append_assoc]at ih⊢;simp (disch:=first|omega|(simp only[lnA,lnC,lnN,lnM,z8,yj];omega)) only[↓yk,yz,↓zy,↓y0,↓zd,↓zF,↓zn,↓zq,↓zw,↓zt,↓yK,↓zO,↓zk,zZ,zU,zT,Bool.and_true,lnM,lnA,qA,yj,↓zj hx,AY,zz,hw];exact ih
  ·rw[aeU h,<-List.append_assoc]at ih⊢;simp (disch:=first|omega|(simp only[lnA,lnC,lnN,lnM,z8,yj];omega)) only[↓yk,yz,↓zy,↓y0,↓zd,↓zF,↓zn,↓zq,↓zw,↓zt,↓yK,↓zO,↓zk,zZ,zU,zT,Bool.and_true,lnM,lnA,qA,yj,↓zj hx,AY,zz,hw];exact ih
  ·rw[Yo (.inr (.inl h)),<-List.append_assoc]at ih⊢;simp (disch:=first|omega|(simp only[lnA,lnC,lnN,lnM,z8,yj];omega)) only[↓yk,yz,↓zy,↓y0,↓zd,↓zF,↓zn,↓zq,↓zw,↓zt,↓yK,↓zO,↓zk,zZ,zU,zT,Bool.and_true,lnM,lnA,qA,yj,↓zj hx,AY,zz,hw];exact ih
  ·rw[Yo (.inr (.inr h)),<-List.append_assoc]at ih⊢;simp (disch:=first|omega|(simp only[lnA,lnC,lnN,lnM,z8,yj];omega)) only[↓yk,yz,↓zy,↓y0,↓zd,↓zF,↓zn,↓zq,↓zw,↓zt,↓yK,↓zO,↓zk,zZ,zU,zT,Bool.and_true,lnM,lnA,qA,yj,↓zj hx,AY,zz,hw];exact ih
theorem adE {p:List Nd}(hp:Af p=true):(UN p).length<=100000:=by
 have hl:=Aq hp
 have h1:=B9 (n:=p.length) (by omega)
 have h2:∀l:List Nd,(∀x∈l,(EE x).length<=30)->(l.flatMap EE).length<=30*l.length:=by
  intro l
  induction l with
  |nil=>intro _;simp
  |cons x l ih=>
   intro h
   have:=ih (fun y hy=>h y (by simp[hy]))
   have:=h x (by simp)
   simp only[List.flatMap_cons,lnA,lnC];omega
 have h3:=h2 p (fun x hx=>by
  obtain⟨j,hj⟩:=List.getElem?_of_mem hx
  have:=aQ hj
  exact WA (D6 hp hj) (by omega))
 simp only[UN,lnA];omega
theorem aaz {p:List Nd}(hp:Af p=true):V 68 [eP p]=some (.os (1,0) ((UN p).map eU),[]):=by
 have hl:=Aq hp
 have h:=NQ hp p.length 0 (DQ p.length) (Nat.zero_add _) (B9 (by omega))
 rw[lnM,List.drop_zero,Int.natCast_zero]at h
 rw[SJ]
 simp (disch:=first|omega|(simp only[lnA,lnC,lnN,lnM,z8,yj];omega)) only[↓yk,yz,↓zF,↓zt,lnM,yj,AY,Int.toNat_natCast]
 exact h
def adV (r:Option (List UInt8)):D:=match r with|some l=>.tup [.str (mk l),.bool true] | none=>.tup [.str ⟨#[]⟩,.bool false]
end
end Go.Eng
/-! tidying,and machines as bytes,on both sides -/
namespace Go.Eng
noncomputable section
open Go.Proofs Go.Proofs.Tryz
set_option maxHeartbeats 4000000

theorem abv {p:List Nd}(hl:p.length<=4294967296):V 131 [eP p]=some (oP p,[]):=by
 have h:V 181 [.rs (5,0) (p.map eN)]=some (.os (5,0) (p.map eN),[]):=by
  rw[Gp,List.nil_append,zJ (decide_eq_true (by rw[qA,lnM];simp only[ni];omega)),zO]
  exact yw _ _
 rw[TU]
 simp (disch:=first|omega|(simp only[lnA,lnC,lnN,lnM,z8,yj];omega)) only[↓yk,yz,↓zF,↓zt,h]
theorem Vg {p:List Nd}(hl:p.length<=4294967296):V 147 [eP p]=some (oP p,[]):=by
 rw[Qz,List.nil_append]
 simp (disch:=first|omega|(simp only[lnA,lnC,lnN,lnM,z8,yj];omega)) only[↓zd,↓zO,zZ,lnM,qA,yj]
theorem IE {m:Mc}(hl:m.pool.length<=4294967296):V 63 [eMc m]=some (oMc m,[]):=by
 rw[Qx]
 simp (disch:=first|omega|(simp only[lnA,lnC,lnN,lnM,z8,yj];omega)) only[↓yk,yz,↓zF,↓zn,↓zt,↓yK,abv hl]
theorem Rf {m:Mc}(hl:m.pool.length<=4294967296):V 85 [eMc m]=some (oMc m,[]):=by
 rw[XX]
 simp (disch:=first|omega|(simp only[lnA,lnC,lnN,lnM,z8,yj];omega)) only[↓yk,yz,↓zF,↓zn,↓zt,↓yK,Vg hl]
def holds (m:Mc):Bool:=decide (m.state=1\/m.state=2)
def Ax (m:Mc):List Int:=if holds m=true then [m.s,m.e,m.d,m.arg] else [m.s,m.e,m.d]
def tf (m:Mc)(r:Int):Int:=(Ba (-1) m.pool (Ax m) []).1.getD r.toNat 0
def EF (m:Mc):Mc:=if Af m.pool=true/\Ar m.pool (Ax m)=true then
  ⟨(Bj (-1) m.pool (Ax m)).1,m.at',tf m m.s,tf m m.e,tf m m.d,m.state,m.ask,if holds m=true then tf m m.arg else m.arg⟩ else m
theorem UW (m:Mc):(Ax m).length<=4:=by unfold Ax;split<;>simp
theorem Su {m:Mc}(hf:Du m.pool)(hl:m.pool.length<=4294967296):V 18 [eMc m]=some (oMc (EF m),[]):=by
 have hr:=ac5 hf (by omega) (l:=Ax m) (by have:=UW m;omega)
 have hc:=IE hl
 have hk:∀h1:Af m.pool=true,∀h2:Ar m.pool (Ax m)=true,_:=fun h1 h2=>afF h1 (rs:=Ax m) (by have:=UW m;omega) h2
 rw[aaY]
 unfold EF
 by_cases h:Af m.pool=true/\Ar m.pool (Ax m)=true
 ·rw[if_pos h]
  have hk:=hk h.1 h.2
  rw[h.1,h.2]at hr
  unfold Ax holds at hr hk
  by_cases s1:m.state=1
  ·rw[if_pos (by simp[s1])]at hr hk
   have e:holds m=true:=by simp[holds,s1]
   rw[if_pos e]
   have e2:Ax m=[m.s,m.e,m.d,m.arg]:=by rw[Ax,if_pos e]
   unfold tf
   rw[e2]
   simp only[Bj,List.map_cons,List.map_nil]at hr hk⊢
   simp (disch:=first|omega|(simp only[lnA,lnC,lnN,lnM,z8,yj];omega)) only[↓yk,yz,↓zy,↓y0,↓zd,↓zF,↓zn,↓zq,↓yZ,↓zt,↓yK,↓yL,↓yN,↓yO,↓yP,↓yQ,yN,yO,yP,yQ,zZ,zU,Bool.and_true,Bool.not_true,lnC,lnN,qA,yj,hr,hk]
  by_cases s2:m.state=2
  ·rw[if_pos (by simp[s2])]at hr hk
   have e:holds m=true:=by simp[holds,s2]
   rw[if_pos e]
   have e2:Ax m=[m.s,m.e,m.d,m.arg]:=by rw[Ax,if_pos e]
   unfold tf
   rw[e2]
   simp only[Bj,List.map_cons,List.map_nil]at hr hk⊢
   simp (disch:=first|omega|(simp only[lnA,lnC,lnN,lnM,z8,yj];omega)) only[↓yk,yz,↓zy,↓y0,↓zd,↓zF,↓zn,↓zq,↓yZ,↓zt,↓yK,↓yL,↓yN,↓yO,↓yP,↓yQ,yN,yO,yP,yQ,zZ,zU,zT,Bool.and_true,Bool.not_true,lnC,lnN,qA,yj,hr,hk]
  ·rw[if_neg (by simp[s1,s2])]at hr hk
   have e:¬holds m=true:=by simp[holds,s1,s2]
   rw[if_neg e]
   have e2:Ax m=[m.s,m.e,m.d]:=by rw[Ax,if_neg e]
   unfold tf
   rw[e2]
   simp only[Bj,List.map_cons,List.map_nil]at hr hk⊢
   simp (disch:=first|omega|(simp only[lnA,lnC,lnN,lnM,z8,yj];omega)) only[↓yk,yz,↓y0,↓zd,↓zF,↓zn,↓zq,↓yZ,↓zt,↓yK,↓yL,↓yN,↓yO,↓yP,yN,yO,yP,zZ,zT,Bool.and_true,Bool.not_true,lnC,lnN,yj,hr,hk]
 ·rw[if_neg h]
  have e:(Af m.pool&&Ar m.pool (Ax m))=false:=by
   cases h1:Af m.pool<;>cases h2:Ar m.pool (Ax m)<;>first|rfl|exact absurd ⟨h1,h2⟩ h
  rw[e]at hr
  unfold Ax holds at hr
  by_cases s1:m.state=1
  ·rw[if_pos (by simp[s1])]at hr
   simp only[List.map_cons,List.map_nil]at hr
   simp (disch:=first|omega|(simp only[lnA,lnC,lnN,lnM,z8,yj];omega)) only[↓yk,yz,↓zy,↓zd,↓zF,↓zn,↓zq,↓yZ,↓zt,↓yK,zZ,zU,Bool.not_false,qA,yj,hr,hc]
  by_cases s2:m.state=2
  ·rw[if_pos (by simp[s2])]at hr
   simp only[List.map_cons,List.map_nil]at hr
   simp (disch:=first|omega|(simp only[lnA,lnC,lnN,lnM,z8,yj];omega)) only[↓yk,yz,↓zy,↓y0,↓zd,↓zF,↓zn,↓zq,↓yZ,↓zt,↓yK,zZ,zU,zT,Bool.not_false,qA,yj,hr,hc]
  ·rw[if_neg (by simp[s1,s2])]at hr
   simp only[List.map_cons,List.map_nil]at hr
   simp (disch:=first|omega|(simp only[lnA,lnC,lnN,lnM,z8,yj];omega)) only[↓yk,yz,↓zy,↓y0,↓zF,↓zn,↓zq,↓yZ,↓zt,↓yK,zT,Bool.not_false,hr,hc]
theorem Ie {c:Cd}{m:Mc}(h:DG c m=true):Af m.pool=true/\Ar m.pool (Ax m)=true/\0<=m.at'/\m.at'<=400/\0<=m.state/\m.state<=3/\0<=m.ask/\m.ask<=19/\0<=m.arg/\m.arg<=3000:=by
 unfold DG AX Jx at h
 simp only[Bool.and_eq_true,decide_eq_true_eq]at h
 obtain⟨⟨_,hlist,_⟩,hp,hs,he,hd,hst⟩:=h
 have hlen:=Aq hp
 refine⟨hp,?_,?_⟩
 ·unfold Ax holds Ar
  unfold Nt Jx at hst
  split
  ·rename_i hh
   have hh:=of_decide_eq_true hh
   have ha:wi m.arg 0 ((m.pool.length:Int)-1)=true:=by
    rcases hh with h1|h1
    ·simp[h1]at hst;exact hst.2.2.2
    ·simp[h1]at hst;exact hst.2.2
   simp[hs,he,hd,ha]
  ·simp[hs,he,hd]
 ·unfold Nt Jx at hst
  repeat' split at hst
  all_goals (try simp only[Bool.and_eq_true,wi,decide_eq_true_eq,beq_iff_eq]at hst)
  all_goals (first|(cases hst;done)|omega)
theorem ab3 {c:Cd}{m:Mc}(h:DG c m=true):DG c (EF m)=true:=by
 obtain⟨hp,hr,_⟩:=Ie h
 obtain⟨a1,a2,_⟩:=abd hp hr (-1) (-1)
 have hroot:∀r∈Ax m,wi (tf m r) 0 (((Bj (-1) m.pool (Ax m)).1.length:Int)-1)=true:=by
  intro r hm
  have:=List.all_eq_true.1 a2 (tf m r) (List.mem_map.2 ⟨r,hm,rfl⟩)
  exact this
 have h3:m.s∈Ax m/\m.e∈Ax m/\m.d∈Ax m:=by unfold Ax;split<;>simp
 have h4:holds m=true->m.arg∈Ax m:=by intro hh;unfold Ax;rw[if_pos hh];simp
 unfold EF
 rw[if_pos ⟨hp,hr⟩]
 unfold DG Nt Jx at h⊢
 simp only[Bool.and_eq_true]at h⊢
 refine⟨h.1,a1,hroot _ h3.1,hroot _ h3.2.1,hroot _ h3.2.2,?_⟩
 have hst:=h.2.2.2.2.2
 by_cases s0:m.state=0
 ·have e:¬holds m=true:=by simp[holds,s0]
  rw[if_pos s0]at hst⊢
  rw[if_neg e];exact hst
 rw[if_neg s0]at hst⊢
 by_cases s1:m.state=1
 ·have e:holds m=true:=by simp[holds,s1]
  rw[if_pos s1]at hst⊢
  rw[if_pos e]
  simp only[Bool.and_eq_true]at hst⊢
  exact⟨hst.1,hst.2.1,hst.2.2.1,hroot _ (h4 e)⟩
 rw[if_neg s1]at hst⊢
 by_cases s2:m.state=2
 ·have e:holds m=true:=by simp[holds,s2]
  rw[if_pos s2]at hst⊢
  rw[if_pos e]
  simp only[Bool.and_eq_true]at hst⊢
  exact⟨hst.1,hst.2.1,hroot _ (h4 e)⟩
 rw[if_neg s2]at hst⊢
 have e:¬holds m=true:=by simp[holds,s1,s2]
 rw[if_neg e]
 exact hst
end
end Go.Eng
/-! words of a text,on both sides -/
namespace Go.Eng
noncomputable section
open Go.Proofs Go.Proofs.Tryz
set_option maxHeartbeats 4000000

def dU (x:UInt8):Bool:=decide (48<=x.toNat)&&decide (x.toNat<=57)
def FA (x:UInt8):Bool:=nmB (x.toNat:Int)||(dU x||(x.toNat:Int)==35)
theorem dU_iff {x:UInt8}:dU x=true↔48<=x.toNat/\x.toNat<=57:=by simp[dU]
theorem afu (x:UInt8):br (decide ((x.toNat:Int)>=48)) (some (D.bool (decide ((x.toNat:Int)<=57)),([]:List D))) (some (D.bool false,[]))=some (.bool (dU x),[]):=by
 unfold dU
 by_cases h1:48<=x.toNat
 ·by_cases h2:x.toNat<=57
  ·rw[y6 (decide_eq_true (by omega)),decide_eq_true (by omega),decide_eq_true h1,decide_eq_true h2];rfl
  ·rw[y6 (decide_eq_true (by omega)),decide_eq_false (by omega),decide_eq_true h1,decide_eq_false h2];rfl
 ·rw[yp (decide_eq_false (by omega)),decide_eq_false h1];rfl
theorem WY (x:UInt8):V 226 [.int .u8 (x.toNat:Int)]=some (.bool (dU x),[]):=(Vz _).trans (afu x)
theorem M9 (x:UInt8):V 211 [.int .u8 (x.toNat:Int)]=some (.bool (FA x),[]):=by
 rw[RI,Nf (Re _),QT (WY x),adl,adl];rfl

def Dl (acc:Nat)(l:List UInt8):Nat:=l.foldl (fun n x=>10*n+(x.toNat-48)) acc
theorem ab9:∀(l:List UInt8)(acc k:Nat),l.all dU=true->acc<10 ^ k->Dl acc l<10 ^ (k+l.length)
 |[],acc,k,_,h=>h
 |x::l,acc,k,hl,h=>by
  rw[List.all_cons,Bool.and_eq_true]at hl
  have hx:=dU_iff.1 hl.1
  have:=ab9 l (10*acc+(x.toNat-48)) (k+1) hl.2 (by rw[Nat.pow_succ];omega)
  rw[lnC]
  have e:k+(l.length+1)=k+1+l.length:=by omega
  rw[e];exact this
abbrev noW:D:=.tup [iN 0,.bool false]
theorem UO {k:Nat}(h:k<=10):10 ^ k<=10000000000:=by
 have:10 ^ k<=10 ^ 10:=Nat.pow_le_pow_right (by omega) h
 simpa using this
def FF (l:List UInt8):Option Nat:=if l.length=0\/10<l.length\/(l[0]? = some 48/\1<l.length)\/l.all dU=false then none else some (Dl 0 l)
theorem ac7 (l:List UInt8)(x:UInt8)(acc:Nat):Dl acc (l++[x])=10*Dl acc l+(x.toNat-48):=by simp[Dl]
theorem aaF:∀(l:List UInt8)(acc:Nat),0<acc->0<Dl acc l
 |[],acc,h=>h
 |x::l,acc,h=>aaF l (10*acc+(x.toNat-48)) (by omega)
theorem Zg:∀(n:Nat)(l:List UInt8),l.length=n+1->l.all dU=true->(l[0]?≠some 48\/l.length=1)->LN (Dl 0 l)=l
 |0,l,hn,ha,h0=>by
  match l,hn with
  |[x],_=>
   have hx:=dU_iff.1 (by simpa using ha)
   have e:Dl 0 [x]=x.toNat-48:=by simp[Dl]
   rw[e,Dp (by omega)]
   congr 1
   apply UInt8.toNat_inj.1
   simp;omega
 |n+1,l,hn,ha,h0=>by
  have hne:l≠[]:=by intro h;rw[h]at hn;simp at hn
  obtain⟨l',x,rfl⟩:∃l' x,l=l'++[x]:=⟨l.dropLast,l.getLast hne,(List.dropLast_concat_getLast hne).symm⟩
  have hl':l'.length=n+1:=by simp at hn;omega
  have ha':l'.all dU=true/\dU x=true:=by simpa using ha
  have hx:=dU_iff.1 ha'.2
  have h48:l'[0]?≠some 48:=by
   rcases h0 with h|h
   ·rwa[List.getElem?_append_left (by omega)]at h
   ·exfalso;rw[lnA,List.length_singleton]at h;omega
  have ih:=Zg n l' hl' ha'.1 (.inl h48)
  rw[ac7]
  have hpos:0<Dl 0 l':=by
   match l',hl' with
   |y::r,_=>
    have hy:=dU_iff.1 (by simpa using (show (y::r).all dU=true from ha'.1):dU y=true/\_).1
    have hy48:y.toNat≠48:=by
     intro h;apply h48;simp;exact UInt8.toNat_inj.1 h
    exact aaF r (10*0+(y.toNat-48)) (by omega)
  rw[Ny (by omega)]
  have e1:(10*Dl 0 l'+(x.toNat-48)) / 10=Dl 0 l':=by omega
  have e2:(10*Dl 0 l'+(x.toNat-48)) % 10=x.toNat-48:=by omega
  rw[e1,e2,ih]
  congr 2
  apply UInt8.toNat_inj.1
  simp;omega
theorem ack:∀(n:Nat),(LN n)[0]?≠some 48\/n=0:=by
 intro n
 induction n using Nat.strongRecOn with
 |_ n ih=>
  by_cases h:n<10
  ·by_cases h0:n=0
   ·exact .inr h0
   ·left
    rw[Dp h]
    intro e
    simp at e
    have:=congrArg UInt8.toNat e
    simp at this
    omega
  ·left
   rw[Ny h,List.getElem?_append_left (adx _)]
   rcases ih (n / 10) (by omega) with h1|h1
   ·exact h1
   ·omega
theorem Zd {l:List UInt8}(h0:l.length≠0)(h10:¬10<l.length)(ha:l.all dU=true):LN (Dl 0 l)=l↔¬(l[0]? = some 48/\1<l.length):=by
 constructor
 ·rintro h ⟨h1,h2⟩
  rcases ack (Dl 0 l) with h3|h3
  ·rw[h]at h3;exact h3 h1
  ·rw[h3,Dp (by omega)]at h
   have:=congrArg List.length h
   simp at this;omega
 ·intro h
  refine Zg (l.length-1) l (by omega) ha ?_
  by_cases h1:l[0]? = some 48
  ·exact .inr (by
           have:¬1<l.length:=fun h2=>h ⟨h1,h2⟩
           omega)
  ·exact .inl h1
end
end Go.Eng
/-! the node of a word,on both sides -/
namespace Go.Eng
noncomputable section
open Go.Proofs Go.Proofs.Tryz
set_option maxHeartbeats 4000000

def YB (r:Option Nat):Option Int:=match r with|some n=>if n<=1000000000 then some (n:Int) else none|none=>none
def acy (r:Option Nat):Option Int:=match r with|some n=>if 0<n/\n<=1000000000 then some (-(n:Int)) else none|none=>none
def abg (l:List UInt8):Option Int:=match l with
 |x::d::r=>if x=45/\dU d=true then acy (FF (d::r)) else YB (FF l)
 |_=>YB (FF l)
def abX (r:Option Int)(l:List UInt8):Option Nd:=match r with|some n=>some ⟨3,n,⟨#[]⟩,0,0⟩|none=>if Nq (mk l)=true then some ⟨4,0,mk l,0,0⟩ else none
def GT (l:List UInt8):Option Nd:=if l=[35,116] then some ⟨2,1,⟨#[]⟩,0,0⟩ else if l=[35,102] then some ⟨2,0,⟨#[]⟩,0,0⟩ else abX (abg l) l
def abD (r:Option Nd)(x:Nd)(b:Bool):Prop:=match r with|some y=>x=y/\b=true|none=>b=false
theorem Wz {l:List UInt8}{n:Nat}(h:FF l=some n):l.length≠0/\¬10<l.length/\¬(l[0]? = some 48/\1<l.length)/\l.all dU=true/\n=Dl 0 l/\n<10000000000:=by
 unfold FF at h
 split at h
 ·cases h
 ·rename_i hn
  cases h
  have ha:l.all dU=true:=by
   cases e:l.all dU with
   |true=>rfl
   |false=>exact absurd (.inr (.inr (.inr e))) hn
  have h10:¬10<l.length:=fun e=>hn (.inr (.inl e))
  have:=ab9 l 0 0 ha (by simp)
  rw[Nat.zero_add]at this
  have:=UO (k:=l.length) (by omega)
  exact⟨fun e=>hn (.inl e),h10,fun e=>hn (.inr (.inr (.inl e))),ha,rfl,by omega⟩
def tb (l:List UInt8):Bool:=match FF l with|some n=>decide (n<=1000000000)|none=>Nq (mk l)
theorem adR {l:List UInt8}(h:¬(l[0]? = some 45/\1<l.length)):abg l=YB (FF l):=by
 match l with
 |[]=>rfl
 |[x]=>rfl
 |x::d::r=>rw[abg,if_neg];rintro⟨e,_⟩;exact h ⟨by rw[e];rfl,by simp⟩
def S6 (a r:List UInt8)(v:Nat):Int:=if r.length=a.length then (v:Int) else -(v:Int)
def Uh (a r:List UInt8)(v:Nat):Bool:=decide (MH (S6 a r v)=a)&&wi (S6 a r v) (-1000000000) 1000000000
theorem aeW {a r:List UInt8}{v:Nat}(hv:v<100000000000):@Eq (Option Ret) (br (ni r.length != ni a.length)
  (YX 202 [(iN (w6 (0-(v:Int))))] fun s5=>(br (kJ s5 (mk a))
    (ck6 62 [(iN (w6 (0-(v:Int)))),(iN (-1000000000)),(iN (1000000000))] fun b8=>(some ((.tup [(iN (w6 (0-(v:Int)))),(.bool b8)]),[])))
    (some ((.tup [(iN (w6 (0-(v:Int)))),(.bool false)]),[]))))
  (YX 202 [(iN (v:Int))] fun s11=>(br (kJ s11 (mk a))
    (ck6 62 [(iN (v:Int)),(iN (-1000000000)),(iN (1000000000))] fun b14=>(some ((.tup [(iN (v:Int)),(.bool b14)]),[])))
    (some ((.tup [(iN (v:Int)),(.bool false)]),[]))))) (some (.tup [iN (S6 a r v),.bool (Uh a r v)],[])):=by
 unfold Uh S6
 by_cases h:r.length=a.length
 ·have hd:=Vh (n:=(v:Int)) (by omega)
  rw[yp (by simp[ni,h]),if_pos h,Lg hd,Q9]
  by_cases h2:MH (v:Int)=a
  ·rw[decide_eq_true h2,zy,Cn (CR _ _ _),Bool.true_and]
  ·rw[decide_eq_false h2,y0,Bool.false_and]
 ·have hd:=Vh (n:=-(v:Int)) (by omega)
  rw[y6 (by simp only[ni,bne_iff_ne,ne_eq];omega),if_neg h,show (0:Int)-(v:Int) = -(v:Int) by omega,w64 (by omega) (by omega),Lg hd,Q9]
  by_cases h2:MH (-(v:Int))=a
  ·rw[decide_eq_true h2,zy,Cn (CR _ _ _),Bool.true_and]
  ·rw[decide_eq_false h2,y0,Bool.false_and]
theorem ZW {a l:List UInt8}(hl:l.length<=10):∀(k i acc:Nat),i+k=l.length->acc<10 ^ i->CG (mk a) (mk l) (acc:Int) (i:Int)=some (if (l.drop i).all dU=true then .tup [iN (S6 a l (Dl acc (l.drop i))),.bool (Uh a l (Dl acc (l.drop i)))] else noW,[])
 |0,i,acc,hi,ha=>by
  have hp:=UO (k:=i) (by omega)
  have he:=aeW (a:=a) (r:=l) (v:=acc) (by omega)
  rw[Ly,List.drop_of_length_le (by omega),z8,z8,yp (zI (by omega)),he]
  rfl
 |k+1,i,acc,hi,ha=>by
  obtain⟨x,hx⟩:=yM (l:=l) (i:=i) (by omega)
  have hp:=UO (k:=i) (by omega)
  have hb:=VZ hx
  have hd:=WY x
  rw[Ly,z8,y6 (zN (by omega)),zJ (zM (by omega)),hb,QT hd,vc hx,List.all_cons]
  cases h:dU x with
  |false=>rw[Bool.not_false,zy,if_neg (by simp)]
  |true=>
   have hx2:=dU_iff.1 h
   have e2:w6 (w6 (w6 (10*(acc:Int))+w6 ((x.toNat:Nat):Int))-48)=((10*acc+(x.toNat-48):Nat):Int):=by
    rw[w64 (n:=10*(acc:Int)) (by omega) (by omega),w64 (n:=((x.toNat:Nat):Int)) (by omega) (by omega),w64 (n:=10*(acc:Int)+_) (by omega) (by omega),w64 (by omega) (by omega)];omega
   have ih:=ZW (a:=a) hl k (i+1) (10*acc+(x.toNat-48)) (by omega) (by rw[Nat.pow_succ];omega)
   rw[Bool.not_true,y0,zJ (zM (by omega)),e2,z6 (by omega),ih,Bool.true_and]
   rfl
theorem YC {l:List UInt8}(h0:l.length≠0)(h10:¬10<l.length)(ha:l.all dU=true):S6 l l (Dl 0 l)=(Dl 0 l:Int)/\Uh l l (Dl 0 l)=(YB (FF l)).isSome/\(∀m,YB (FF l)=some m->m=(Dl 0 l:Int)):=by
 have hz:=Zd h0 h10 ha
 have e1:S6 l l (Dl 0 l)=(Dl 0 l:Int):=by simp[S6]
 have e2:MH ((Dl 0 l:Nat):Int)=LN (Dl 0 l):=by simp[MH]
 refine⟨e1,?_,?_⟩
 ·unfold Uh
  rw[e1,e2]
  by_cases h:l[0]? = some 48/\1<l.length
  ·rw[decide_eq_false (fun e=>hz.1 e h),FF,if_pos (.inr (.inr (.inl h)))];rfl
  ·have hn:FF l=some (Dl 0 l):=by rw[FF,if_neg (by rintro (e|e|e|e)<;>first|omega|exact h e|(rw[ha]at e;cases e))]
   rw[decide_eq_true (hz.2 h),hn]
   unfold YB wi
   by_cases h1:Dl 0 l<=1000000000
   ·simp[h1];omega
   ·simp[h1];omega
 ·intro m hm
  cases hn:FF l with
  |none=>rw[hn]at hm;cases hm
  |some n=>
   have:=(Wz hn).2.2.2.2.1
   rw[hn]at hm
   unfold YB at hm
   simp only at hm
   split at hm
   ·cases hm;rw[this]
   ·cases hm
theorem Ym {l:List UInt8}(h0:l.length≠0)(h10:¬10<l.length)(ha:l.all dU=true):S6 (45::l) l (Dl 0 l) = -(Dl 0 l:Int)/\Uh (45::l) l (Dl 0 l)=(acy (FF l)).isSome/\(∀m,acy (FF l)=some m->m = -(Dl 0 l:Int)):=by
 have hz:=Zd h0 h10 ha
 have e1:S6 (45::l) l (Dl 0 l) = -(Dl 0 l:Int):=by simp[S6]
 refine⟨e1,?_,?_⟩
 ·unfold Uh
  rw[e1]
  by_cases h:l[0]? = some 48/\1<l.length
  ·have:MH (-(Dl 0 l:Int))≠45::l:=by
    unfold MH
    split
    ·intro e;rw[Int.natAbs_neg,Int.natAbs_natCast]at e;exact hz.1 (List.cons_inj_right _ |>.1 e) h
    ·intro e
     have e0:Dl 0 l=0:=by omega
     rw[e0]at e
     have:=Dp (n:=0) (by omega)
     simp[this]at e
   rw[decide_eq_false this,FF,if_pos (.inr (.inr (.inl h)))];rfl
  ·have hn:FF l=some (Dl 0 l):=by rw[FF,if_neg (by rintro (e|e|e|e)<;>first|omega|exact h e|(rw[ha]at e;cases e))]
   rw[hn]
   by_cases h1:Dl 0 l=0
   ·have:MH (-(Dl 0 l:Int))≠45::l:=by
     intro e
     rw[h1]at e
     have:=Dp (n:=0) (by omega)
     simp[MH,this]at e
    rw[decide_eq_false this,h1];rfl
   ·have:MH (-(Dl 0 l:Int))=45::l:=by
     unfold MH
     rw[if_pos (by omega),Int.natAbs_neg,Int.natAbs_natCast,hz.2 h]
    rw[decide_eq_true this]
    unfold acy wi
    by_cases h2:Dl 0 l<=1000000000
    ·have:0<Dl 0 l:=by omega
     simp[h2,this];omega
    ·simp[h2];omega
 ·intro m hm
  cases hn:FF l with
  |none=>rw[hn]at hm;cases hm
  |some n=>
   have:=(Wz hn).2.2.2.2.1
   rw[hn]at hm
   unfold acy at hm
   simp only at hm
   split at hm
   ·cases hm;rw[this]
   ·cases hm
theorem ZX {a r:List UInt8}{F:Option Nat->Option Int}(hF:F none=none)
  (hfin:r.length≠0->¬10<r.length->r.all dU=true->Uh a r (Dl 0 r)=(F (FF r)).isSome/\(∀m,F (FF r)=some m->m=S6 a r (Dl 0 r))) :
  ∃n b,br (decide (ni r.length>10)) (some (noW,[])) (br (ni r.length==0) (some (noW,[])) (CG (mk a) (mk r) 0 0))=some (.tup [iN n,.bool b],[])/\b=(F (FF r)).isSome/\(∀m,F (FF r)=some m->m=n):=by
 by_cases h10:10<r.length
 ·have hn:FF r=none:=by rw[FF,if_pos (.inr (.inl h10))]
  rw[y6 (decide_eq_true (by simp only[ni];omega)),hn,hF]
  exact⟨0,false,rfl,rfl,fun m h=>by cases h⟩
 ·rw[yp (decide_eq_false (by simp only[ni];omega))]
  by_cases h0:r.length=0
  ·have hn:FF r=none:=by rw[FF,if_pos (.inl h0)]
   rw[y6 (by simp[ni,h0]),hn,hF]
   exact⟨0,false,rfl,rfl,fun m h=>by cases h⟩
  ·rw[yp (by simp only[ni,beq_eq_false_iff_ne,ne_eq];omega)]
   have hl:=ZW (a:=a) (l:=r) (by omega) r.length 0 0 (by omega) (by simp)
   rw[Int.natCast_zero,List.drop_zero]at hl
   rw[hl]
   cases ha:r.all dU with
   |false=>
    have hn:FF r=none:=by rw[FF,if_pos (.inr (.inr (.inr ha)))]
    rw[if_neg (by simp),hn,hF]
    exact⟨0,false,rfl,rfl,fun m h=>by cases h⟩
   |true=>
    rw[if_pos rfl]
    obtain⟨e1,e2⟩:=hfin h0 h10 ha
    exact⟨_,_,rfl,e1,e2⟩
theorem ae7 (l:List UInt8):∃n b,V 227 [.str (mk l)]=some (.tup [iN n,.bool b],[])/\b=(abg l).isSome/\(∀m,abg l=some m->m=n):=by
 have hpos:∃n b,br (decide (ni l.length>10)) (some (noW,[])) (br (ni l.length==0) (some (noW,[])) (CG (mk l) (mk l) 0 0))=some (.tup [iN n,.bool b],[])/\b=(YB (FF l)).isSome/\(∀m,YB (FF l)=some m->m=n):=
  ZX rfl (fun h0 h10 ha=>⟨(YC h0 h10 ha).2.1,fun m hm=>((YC h0 h10 ha).2.2 m hm).trans (YC h0 h10 ha).1.symm⟩)
 rw[Zt,z8]
 by_cases hn:l[0]? = some 45/\1<l.length
 ·obtain⟨hx,hl⟩:=hn
  match l,hx,hl with
  |x::d::r,hx,hl=>
   have hx:x=45:=by simpa using hx
   subst hx
   have hb0:bt (mk (45::d::r)) 0=45:=VZ (i:=0) (x:=45) rfl
   have e:ByteArray.extract (mk (45::d::r)) (Int.toNat 1) (45::d::r).length=mk (d::r):=by
    rw[JY];congr 1;simp
   rw[y6 (decide_eq_true (by simp only[ni];omega)),zJ (by simp only[ni,Bool.and_eq_true,decide_eq_true_eq];omega),hb0,y6 (by decide),zJ (by unfold df;simp;omega),e,z8]
   obtain⟨n,b,h1,h2,h3⟩:=ZX (a:=45::d::r) (r:=d::r) (F:=acy) rfl (fun h0 h10 ha=>⟨(Ym h0 h10 ha).2.1,fun m hm=>((Ym h0 h10 ha).2.2 m hm).trans (Ym h0 h10 ha).1.symm⟩)
   refine⟨n,b,h1,?_⟩
   rw[abg]
   by_cases hd:dU d=true
   ·rw[if_pos ⟨rfl,hd⟩];exact⟨h2,h3⟩
   ·rw[if_neg (fun h=>hd h.2)]
    have hf:∀c:UInt8,dU c=false->∀q,FF (c::q)=none:=by
     intro c hc q
     rw[FF,if_pos (.inr (.inr (.inr (by rw[List.all_cons,hc];rfl))))]
    rw[hf 45 rfl] 
    rw[hf d (by simpa using hd)]at h2 h3
    exact⟨h2,h3⟩
 ·rw[adR hn]
  by_cases hl:1<l.length
  ·obtain⟨x,hx⟩:=yM (l:=l) (i:=0) (by omega)
   have hbt:bt (mk l) 0=(x.toNat:Int):=VZ hx
   have hne:x.toNat≠45:=by
    intro h;apply hn;rw[hx];exact⟨by congr 1;exact UInt8.toNat_inj.1 h,hl⟩
   rw[y6 (decide_eq_true (by simp only[ni];omega)),zJ (by simp only[ni,Bool.and_eq_true,decide_eq_true_eq];omega),hbt,yp (by simp only[beq_eq_false_iff_ne,ne_eq];omega)]
   exact hpos
  ·rw[yp (decide_eq_false (by simp only[ni];omega))]
   exact hpos
theorem aaw {l:List UInt8}(hb:l.length<4611686018427387904):∃x b,V 212 [.str (mk l)]=some (.tup [eN x,.bool b],[])/\abD (GT l) x b:=by
 have e1:kJ (mk l) ⟨#[35,116]⟩=decide (l=[35,116]):=Q9 l _
 have e2:kJ (mk l) ⟨#[35,102]⟩=decide (l=[35,102]):=Q9 l _
 obtain⟨n,b,h3,h4,h5⟩:=ae7 l
 have hnm:=IK (s:=mk l) (by rw[z8];exact hb)
 rw[XL,e1,e2,abl h3]
 unfold GT
 by_cases h1:l=[35,116]
 ·rw[y6 (decide_eq_true h1),if_pos h1];exact⟨⟨2,1,⟨#[]⟩,0,0⟩,true,rfl,rfl,rfl⟩
 rw[yp (decide_eq_false h1),if_neg h1]
 by_cases h2:l=[35,102]
 ·rw[y6 (decide_eq_true h2),if_pos h2];exact⟨⟨2,0,⟨#[]⟩,0,0⟩,true,rfl,rfl,rfl⟩
 rw[yp (decide_eq_false h2),if_neg h2]
 cases hf:abg l with
 |some m=>
  rw[hf]at h4 h5
  have:=h5 m rfl
  rw[h4,<-this]
  exact⟨⟨3,m,⟨#[]⟩,0,0⟩,true,rfl,rfl,rfl⟩
 |none=>
  rw[hf]at h4
  rw[h4,show (none:Option Int).isSome=false from rfl,y0,Si hnm]
  refine⟨⟨4,0,mk l,0,0⟩,Nq (mk l),rfl,?_⟩
  cases e:Nq (mk l) with
  |true=>simp[abX,e,abD]
  |false=>simp[abX,e,abD]
end
end Go.Eng
/-! sizes told: printed by mkz.py -/
namespace Go.Eng
open Go.Proofs Go.Proofs.Tryz
set_option maxHeartbeats 4000000
set_option maxRecDepth 100000

theorem sz3:TypeInfo.size (Tables.types (Program.toTables Tryz.prog))[3]=1:=by kernel_rfl
theorem fl3:rZ Tryz.prog (3)=true:=by kernel_rfl

theorem AZ (p0:ByteArray)(p1:Nat)(p2:Int)(p3:List D)(p4:List D)(p5:List D)(p6:List D):AC p0 p1 p2 p3 p4 p5 p6 =
 br (decide (p2<ni (ByteArray.size p0)))
  (
  grd (decide (0<=p2)&&decide (p2<ni (ByteArray.size p0))) (br (bt p0 p2==32)
  (AC p0 p1 (w6 (p2+1)) p3 p4 p5 p6)
  (
   br (bt p0 p2==40)
   (grd (decide
 (ni
   (List.length
    (part p5 (some (0,p1)) ++
     [D.agg
       [iN p2,
        D.os
         (1,0)
         []]])) <=
  LIM)) (nam (part p5 (some (0,p1)) ++
 [D.agg
   [iN p2,
    D.os
     (1,0)
     []]]) fun a=>
   AH p0 (w6 (p2+1)) p3 p4 a p6))
   (
   br (bt p0 p2==41)
   (
    br (w6 (ni p1-1)==0)
    (ck8 147 [(.agg [(.rs (5,0) p3)])] fun a=>((some ((.tup [(.agg [(.os (5,0) a)]),(.os (1,0) p4),(iN (5)),(iN p2)]),[]))))
    (
    grd (decide (0<=w6 (ni p1-1))&&decide (w6 (ni p1-1)<ni p1)&&decide (0+p1<=List.length p5)) (dd p5 (0+Int.toNat (w6 (ni p1-1))) fun a=>
    asAgg a fun b=>dd b 1 fun c=>
     jH (1,0) c fun d=>asAgg a fun e=>ck9 210 [(.op [(.os (5,0) p6)]),(.rs (1,0) d)] fun f g=>((grd (iy p1 (List.length (List.set p5 (0+Int.toNat (w6 (ni p1-1))) (D.agg (List.take 1 e++[D.dead]++List.drop 2 e)))-0) none (some (w6 (ni p1-1)))) (grd (decide (0<=w6 (w6 (ni p1-1)-1))&&decide (w6 (w6 (ni p1-1)-1)<ni (Int.toNat (w6 (ni p1-1))))&&decide (0+Int.toNat (w6 (ni p1-1))<=List.length (List.set p5 (0+Int.toNat (w6 (ni p1-1))) (D.agg (List.take 1 e++[D.dead]++List.drop 2 e))))) (dd (List.set p5 (0+Int.toNat (w6 (ni p1-1))) (D.agg (List.take 1 e++[D.dead]++List.drop 2 e))) (0+Int.toNat (w6 (w6 (ni p1-1)-1))) fun h=>
          asAgg h fun i=>dd i 1 fun j=>
           jH (1,0) j fun k=>asAgg h fun l=>grd (decide (ni (List.length (k++[iN f]))<=LIM)) (nam (k++[iN f]) fun m=>
            grd (decide (0<=w6 (w6 (ni p1-1)-1))&&decide (w6 (w6 (ni p1-1)-1)<ni (Int.toNat (w6 (ni p1-1))))&&decide (0+Int.toNat (w6 (ni p1-1))<=List.length (List.set (List.set p5 (0+Int.toNat (w6 (ni p1-1))) (D.agg (List.take 1 e++[D.dead]++List.drop 2 e))) (0+Int.toNat (w6 (w6 (ni p1-1)-1))) (D.agg (List.take 1 l++[D.dead]++List.drop 2 l))))) (dd (List.set (List.set p5 (0+Int.toNat (w6 (ni p1-1))) (D.agg (List.take 1 e++[D.dead]++List.drop 2 e))) (0+Int.toNat (w6 (w6 (ni p1-1)-1))) (D.agg (List.take 1 l++[D.dead]++List.drop 2 l))) (0+Int.toNat (w6 (w6 (ni p1-1)-1))) fun n=>
             asAgg n fun o=>nam (List.set (List.set (List.set p5 (0+Int.toNat (w6 (ni p1-1))) (D.agg (List.take 1 e++[D.dead]++List.drop 2 e))) (0+Int.toNat (w6 (w6 (ni p1-1)-1))) (D.agg (List.take 1 l++[D.dead]++List.drop 2 l))) (0+Int.toNat (w6 (w6 (ni p1-1)-1)))
 (D.agg
  (List.take 1 o ++
    [D.os
      (1,0)
      m] ++
   List.drop 2 o))) fun p=>
              AC p0 (Int.toNat (w6 (ni p1-1))) (w6 (p2+1)) p3 p4 p g)))))))))
   (ck6 211 [(.int .u8 (bt p0 p2))] fun a=>(br a
     (Cy p0 p1 p2 (w6 (ni p1-1)) p2 p3 p4 p5 p6)
     (ck8 147 [(.agg [(.rs (5,0) p3)])] fun b=>((some ((.tup [(.agg [(.os (5,0) b)]),(.os (1,0) p4),(iN (2)),(iN p2)]),[]))))))))))
  (
  br (decide (ni p1>1))
  (ck8 147 [(.agg [(.rs (5,0) p3)])] fun a=>((grd (decide (0<=w6 (ni p1-1))&&decide (w6 (ni p1-1)<ni p1)&&decide (0+p1<=List.length p5)) (dd p5 (0+Int.toNat (w6 (ni p1-1))) fun b=>
     asAgg b fun c=>dd c 0 fun d=>
      asI .i64 d fun e=>some ((.tup [(.agg [(.os (5,0) a)]),(.os (1,0) p4),(iN (4)),(iN e)]),[])))))
  (ck6 60 [(.agg [(.rs (5,0) p6)])] fun a=>(br (!a)
    (ck8 147 [(.agg [(.rs (5,0) p3)])] fun b=>((some ((.tup [(.agg [(.os (5,0) b)]),(.os (1,0) p4),(iN (6)),(iN (0))]),[]))))
    (
    grd (decide (0<=0)&&decide (0<ni p1)&&decide (0+p1<=List.length p5)) (dd p5 0 fun b=>
    asAgg b fun c=>dd c 1 fun d=>
     jH (1,0) d fun e=>asAgg b fun _=>grd (decide (ni (List.length ([]++e))<=LIM)) (nam ([]++e) fun f=>
       some ((.tup [(.agg [(.os (5,0) p6)]),(.os (1,0) f),(iN (0)),(iN (ni (ByteArray.size p0)))]),[]))))))):=by
 have h:=Qk p0 p1 p2 p3 p4 p5 p6
 simp only[sz3,fl3]at h
 exact h
theorem BM (p0:ByteArray)(p1:Int)(p2:List D)(p3:List D)(p4:List D)(p5:List D):AH p0 p1 p2 p3 p4 p5 =
 br (decide (p1<ni (ByteArray.size p0)))
  (
  grd (decide (0<=p1)&&decide (p1<ni (ByteArray.size p0))) (br (bt p0 p1==32)
  (AH p0 (w6 (p1+1)) p2 p3 p4 p5)
  (
   br (bt p0 p1==40)
   (grd (decide
 (ni
   (List.length
    (p4 ++
     [D.agg
       [iN p1,
        D.os
         (1,0)
         []]])) <=
  LIM)) (nam (p4 ++
 [D.agg
   [iN p1,
    D.os
     (1,0)
     []]]) fun a=>
   AH p0 (w6 (p1+1)) p2 p3 a p5))
   (
   br (bt p0 p1==41)
   (
    br (w6 (ni p4.length-1)==0)
    (ck8 147 [(.agg [(.rs (5,0) p2)])] fun a=>((some ((.tup [(.agg [(.os (5,0) a)]),(.os (1,0) p3),(iN (5)),(iN p1)]),[]))))
    (
    grd (decide (0<=w6 (ni p4.length-1))&&decide (w6 (ni p4.length-1)<ni p4.length)) (dd p4 (Int.toNat (w6 (ni p4.length-1))) fun a=>
    asAgg a fun b=>dd b 1 fun c=>
     jH (1,0) c fun d=>asAgg a fun e=>ck9 210 [(.op [(.os (5,0) p5)]),(.rs (1,0) d)] fun f g=>((grd (df (List.length (List.set p4 (Int.toNat (w6 (ni p4.length-1))) (D.agg (List.take 1 e++[D.dead]++List.drop 2 e)))) none (some (w6 (ni p4.length-1)))) (grd (decide (0<=w6 (w6 (ni p4.length-1)-1))&&decide (w6 (w6 (ni p4.length-1)-1)<ni (Int.toNat (w6 (ni p4.length-1))))&&decide (0+Int.toNat (w6 (ni p4.length-1))<=List.length (List.set p4 (Int.toNat (w6 (ni p4.length-1))) (D.agg (List.take 1 e++[D.dead]++List.drop 2 e))))) (dd (List.set p4 (Int.toNat (w6 (ni p4.length-1))) (D.agg (List.take 1 e++[D.dead]++List.drop 2 e))) (0+Int.toNat (w6 (w6 (ni p4.length-1)-1))) fun h=>
          asAgg h fun i=>dd i 1 fun j=>
           jH (1,0) j fun k=>asAgg h fun l=>grd (decide (ni (List.length (k++[iN f]))<=LIM)) (nam (k++[iN f]) fun m=>
            grd (decide (0<=w6 (w6 (ni p4.length-1)-1))&&decide (w6 (w6 (ni p4.length-1)-1)<ni (Int.toNat (w6 (ni p4.length-1))))&&decide (0+Int.toNat (w6 (ni p4.length-1))<=List.length (List.set (List.set p4 (Int.toNat (w6 (ni p4.length-1))) (D.agg (List.take 1 e++[D.dead]++List.drop 2 e))) (0+Int.toNat (w6 (w6 (ni p4.length-1)-1))) (D.agg (List.take 1 l++[D.dead]++List.drop 2 l))))) (dd (List.set (List.set p4 (Int.toNat (w6 (ni p4.length-1))) (D.agg (List.take 1 e++[D.dead]++List.drop 2 e))) (0+Int.toNat (w6 (w6 (ni p4.length-1)-1))) (D.agg (List.take 1 l++[D.dead]++List.drop 2 l))) (0+Int.toNat (w6 (w6 (ni p4.length-1)-1))) fun n=>
             asAgg n fun o=>nam (List.set (List.set (List.set p4 (Int.toNat (w6 (ni p4.length-1))) (D.agg (List.take 1 e++[D.dead]++List.drop 2 e))) (0+Int.toNat (w6 (w6 (ni p4.length-1)-1))) (D.agg (List.take 1 l++[D.dead]++List.drop 2 l))) (0+Int.toNat (w6 (w6 (ni p4.length-1)-1)))
 (D.agg
  (List.take 1 o ++
    [D.os
      (1,0)
      m] ++
   List.drop 2 o))) fun p=>
              AC p0 (Int.toNat (w6 (ni p4.length-1))) (w6 (p1+1)) p2 p3 p g)))))))))
   (ck6 211 [(.int .u8 (bt p0 p1))] fun a=>(br a
     (Dn p0 p1 (w6 (ni p4.length-1)) p1 p2 p3 p4 p5)
     (ck8 147 [(.agg [(.rs (5,0) p2)])] fun b=>((some ((.tup [(.agg [(.os (5,0) b)]),(.os (1,0) p3),(iN (2)),(iN p1)]),[]))))))))))
  (
  br (decide (ni p4.length>1))
  (ck8 147 [(.agg [(.rs (5,0) p2)])] fun a=>((grd (decide (0<=w6 (ni p4.length-1))&&decide (w6 (ni p4.length-1)<ni p4.length)) (dd p4 (Int.toNat (w6 (ni p4.length-1))) fun b=>
     asAgg b fun c=>dd c 0 fun d=>
      asI .i64 d fun e=>some ((.tup [(.agg [(.os (5,0) a)]),(.os (1,0) p3),(iN (4)),(iN e)]),[])))))
  (ck6 60 [(.agg [(.rs (5,0) p5)])] fun a=>(br (!a)
    (ck8 147 [(.agg [(.rs (5,0) p2)])] fun b=>((some ((.tup [(.agg [(.os (5,0) b)]),(.os (1,0) p3),(iN (6)),(iN (0))]),[]))))
    (
    grd (decide (0<=0)&&decide (0<ni p4.length)) (dd p4 0 fun b=>
    asAgg b fun c=>dd c 1 fun d=>
     jH (1,0) d fun e=>asAgg b fun _=>grd (decide (ni (List.length ([]++e))<=LIM)) (nam ([]++e) fun f=>
       some ((.tup [(.agg [(.os (5,0) p5)]),(.os (1,0) f),(iN (0)),(iN (ni (ByteArray.size p0)))]),[]))))))):=by
 have h:=SB p0 p1 p2 p3 p4 p5
 simp only[sz3,fl3]at h
 exact h
theorem KY (p0:ByteArray)(p1:Int)(p2:Int)(p3:Int)(p4:List D)(p5:List D)(p6:List D)(p7:List D):Dn p0 p1 p2 p3 p4 p5 p6 p7 =
 br (decide (p1<ni (ByteArray.size p0)))
  (grd (decide (0<=p1)&&decide (p1<ni (ByteArray.size p0))) (ck6 211 [(.int .u8 (bt p0 p1))] fun a=>(br a
   (Dn p0 (w6 (p1+1)) p2 p3 p4 p5 p6 p7)
   (grd (df (ByteArray.size p0) (some p3) (some p1)) (TG 212 [(.str (ByteArray.extract p0 p3.toNat p1.toNat))] fun b c d e f g=>(((br (!g)
            (ck8 147 [(.agg [(.rs (5,0) p4)])] fun h=>((some ((.tup [(.agg [(.os (5,0) h)]),(.os (1,0) p5),(iN (3)),(iN p3)]),[]))))
            (
            grd (decide (0<=p2)&&decide (p2<ni p6.length)) (dd p6 p2.toNat fun h=>
            asAgg h fun i=>dd i 1 fun j=>
             jH (1,0) j fun k=>asAgg h fun l=>ck9 158 [(.op [(.os (5,0) p7)]),(.agg [(iN b),(iN c),(.str d),(iN e),(iN f)])] fun m n=>((grd (decide (ni (List.length (k++[iN m]))<=LIM)) (nam (k++[iN m]) fun o=>
                  grd (decide (0<=p2)&&decide (p2<ni (List.length (List.set p6 p2.toNat (D.agg (List.take 1 l++[D.dead]++List.drop 2 l)))))) (dd (List.set p6 p2.toNat (D.agg (List.take 1 l++[D.dead]++List.drop 2 l))) p2.toNat fun p=>
                  asAgg p fun q=>nam (List.set (List.set p6 p2.toNat (D.agg (List.take 1 l++[D.dead]++List.drop 2 l))) p2.toNat
 (D.agg
  (List.take 1 q ++
    [D.os
      (1,0)
      o] ++
   List.drop 2 q))) fun r=>
                   AH p0 p1 p4 p5 r n))))))))))))))
  (grd (df (ByteArray.size p0) (some p3) (some p1)) (TG 212 [(.str (ByteArray.extract p0 p3.toNat p1.toNat))] fun a b c d e f=>(((br (!f)
          (ck8 147 [(.agg [(.rs (5,0) p4)])] fun g=>((some ((.tup [(.agg [(.os (5,0) g)]),(.os (1,0) p5),(iN (3)),(iN p3)]),[]))))
          (
           grd (decide (0<=p2)&&decide (p2<ni p6.length)) (dd p6 p2.toNat fun g=>
           asAgg g fun h=>dd h 1 fun i=>
            jH (1,0) i fun j=>asAgg g fun k=>ck9 158 [(.op [(.os (5,0) p7)]),(.agg [(iN a),(iN b),(.str c),(iN d),(iN e)])] fun l m=>((grd (decide (ni (List.length (j++[iN l]))<=LIM)) (nam (j++[iN l]) fun n=>
                grd (decide (0<=p2)&&decide (p2<ni (List.length (List.set p6 p2.toNat (D.agg (List.take 1 k++[D.dead]++List.drop 2 k)))))) (dd (List.set p6 p2.toNat (D.agg (List.take 1 k++[D.dead]++List.drop 2 k))) p2.toNat fun o=>
                 asAgg o fun p=>nam (List.set (List.set p6 p2.toNat (D.agg (List.take 1 k++[D.dead]++List.drop 2 k))) p2.toNat
 (D.agg
  (List.take 1 p ++
    [D.os
      (1,0)
      n] ++
   List.drop 2 p))) fun q=>
                  AH p0 p1 p4 p5 q m))))))))))):=by
 have h:=Ri p0 p1 p2 p3 p4 p5 p6 p7
 simp only[sz3,fl3]at h
 exact h
theorem Ju (p0:ByteArray)(p1:Nat)(p2:Int)(p3:Int)(p4:Int)(p5:List D)(p6:List D)(p7:List D)(p8:List D):Cy p0 p1 p2 p3 p4 p5 p6 p7 p8 =
 br (decide (p2<ni (ByteArray.size p0)))
  (grd (decide (0<=p2)&&decide (p2<ni (ByteArray.size p0))) (ck6 211 [(.int .u8 (bt p0 p2))] fun a=>(br a
   (Cy p0 p1 (w6 (p2+1)) p3 p4 p5 p6 p7 p8)
   (grd (df (ByteArray.size p0) (some p4) (some p2)) (TG 212 [(.str (ByteArray.extract p0 p4.toNat p2.toNat))] fun b c d e f g=>(((br (!g)
            (ck8 147 [(.agg [(.rs (5,0) p5)])] fun h=>((some ((.tup [(.agg [(.os (5,0) h)]),(.os (1,0) p6),(iN (3)),(iN p4)]),[]))))
            (
            grd (decide (0<=p3)&&decide (p3<ni p1)&&decide (0+p1<=List.length p7)) (dd p7 (0+Int.toNat p3) fun h=>
            asAgg h fun i=>dd i 1 fun j=>
             jH (1,0) j fun k=>asAgg h fun l=>ck9 158 [(.op [(.os (5,0) p8)]),(.agg [(iN b),(iN c),(.str d),(iN e),(iN f)])] fun m n=>((grd (decide (ni (List.length (k++[iN m]))<=LIM)) (nam (k++[iN m]) fun o=>
                  grd (decide (0<=p3)&&decide (p3<ni p1)&&decide (0+p1<=List.length (List.set p7 (0+Int.toNat p3) (D.agg (List.take 1 l++[D.dead]++List.drop 2 l))))) (dd (List.set p7 (0+Int.toNat p3) (D.agg (List.take 1 l++[D.dead]++List.drop 2 l))) (0+Int.toNat p3) fun p=>
                  asAgg p fun q=>nam (List.set (List.set p7 (0+Int.toNat p3) (D.agg (List.take 1 l++[D.dead]++List.drop 2 l))) (0+Int.toNat p3)
 (D.agg
  (List.take 1 q ++
    [D.os
      (1,0)
      o] ++
   List.drop 2 q))) fun r=>
                   AC p0 p1 p2 p5 p6 r n))))))))))))))
  (grd (df (ByteArray.size p0) (some p4) (some p2)) (TG 212 [(.str (ByteArray.extract p0 p4.toNat p2.toNat))] fun a b c d e f=>(((br (!f)
          (ck8 147 [(.agg [(.rs (5,0) p5)])] fun g=>((some ((.tup [(.agg [(.os (5,0) g)]),(.os (1,0) p6),(iN (3)),(iN p4)]),[]))))
          (
           grd (decide (0<=p3)&&decide (p3<ni p1)&&decide (0+p1<=List.length p7)) (dd p7 (0+Int.toNat p3) fun g=>
           asAgg g fun h=>dd h 1 fun i=>
            jH (1,0) i fun j=>asAgg g fun k=>ck9 158 [(.op [(.os (5,0) p8)]),(.agg [(iN a),(iN b),(.str c),(iN d),(iN e)])] fun l m=>((grd (decide (ni (List.length (j++[iN l]))<=LIM)) (nam (j++[iN l]) fun n=>
                grd (decide (0<=p3)&&decide (p3<ni p1)&&decide (0+p1<=List.length (List.set p7 (0+Int.toNat p3) (D.agg (List.take 1 k++[D.dead]++List.drop 2 k))))) (dd (List.set p7 (0+Int.toNat p3) (D.agg (List.take 1 k++[D.dead]++List.drop 2 k))) (0+Int.toNat p3) fun o=>
                 asAgg o fun p=>nam (List.set (List.set p7 (0+Int.toNat p3) (D.agg (List.take 1 k++[D.dead]++List.drop 2 k))) (0+Int.toNat p3)
 (D.agg
  (List.take 1 p ++
    [D.os
      (1,0)
      n] ++
   List.drop 2 p))) fun q=>
                  AC p0 p1 p2 p5 p6 q m))))))))))):=by
 have h:=PI p0 p1 p2 p3 p4 p5 p6 p7 p8
 simp only[sz3,fl3]at h
 exact h
theorem aaI (a0_0:List D)(a1_:ByteArray):V 191 [.agg [.rs (5,0) a0_0],.str a1_] =
 ck6 60 [(.agg [(.rs (5,0) a0_0)])] fun a=>(br (!a)
   (some ((.tup [(.agg [(.os (5,0) [])]),(.os (1,0) []),(iN (6)),(iN (0))]),[]))
   (
   br (decide (ni (ByteArray.size a1_)>400))
   (ck8 147 [(.agg [(.rs (5,0) a0_0)])] fun b=>((some ((.tup [(.agg [(.os (5,0) b)]),(.os (1,0) []),(iN (1)),(iN (0))]),[]))))
   (ck8 147 [(.agg [(.rs (5,0) a0_0)])] fun b=>((AH a1_ (0) a0_0 [] ([D.agg
  [iN (0),
   D.os
    (1,0)
    []]]) b))))):=by
 have h:=aa2 a0_0 a1_
 simp only[sz3,fl3]at h
 exact h

end Go.Eng
/-! reading a text,on both sides -/
namespace Go.Eng
noncomputable section
open Go.Proofs Go.Proofs.Tryz
set_option maxHeartbeats 4000000

def BZ:List Int->List Nd->Nat->List Nd×Nat
 |[],q,c=>(q,c)
 |x::r,q,c=>BZ r (q++[⟨5,0,⟨#[]⟩,x,(c:Int)⟩]) q.length
def Ac (q:List Nd)(row:List Int):List Nd×Nat:=BZ row.reverse (q++[⟨1,0,⟨#[]⟩,0,0⟩]) q.length
theorem Um:∀(r:List Int)(q:List Nd)(c:Nat),(BZ r q c).1.length=q.length+r.length
 |[],q,c=>rfl
 |x::r,q,c=>by rw[BZ,Um r];simp only[lnA,lnC,lnN];omega
theorem Ft (q:List Nd)(row:List Int):(Ac q row).1.length=q.length+row.length+1:=by
 rw[Ac,Um];simp only[lnA,lnC,lnN,List.length_reverse];omega
theorem LY {q:List Nd}(h:Du q){x:Nd}(hx:x.s.size<4611686018427387904):Du (q++[x]):=by
 intro y hy
 rcases List.mem_append.1 hy with h1|h1
 ·exact h y h1
 ·rw[List.mem_singleton.1 h1];exact hx
theorem Sc:∀(r:List Int)(q:List Nd)(c:Nat),Du q->Du (BZ r q c).1
 |[],q,c,h=>h
 |x::r,q,c,h=>Sc r _ _ (LY h (x:=⟨5,0,⟨#[]⟩,x,(c:Int)⟩) (by show (0:Nat)<_;omega))
theorem Uq {q:List Nd}(h:Du q)(row:List Int):Du (Ac q row).1:=Sc _ _ _ (LY h (x:=⟨1,0,⟨#[]⟩,0,0⟩) (by show (0:Nat)<_;omega))
theorem aas {row:List Int}{k:Nat}{x:Int}(hx:row[k]? = some x):(row.take (k+1)).reverse=x::(row.take k).reverse:=by
 rw[List.take_add_one,hx];simp
theorem YN {q:List Nd}(h:q.length<4294967296)(a b:Int):V 94 [rP q,iN a,iN b]=some (iN q.length,[rP (q++[⟨5,0,⟨#[]⟩,a,b⟩])]):=by
 have:=Kg h ⟨5,0,⟨#[]⟩,a,b⟩
 rw[SG,AW this]
theorem Uk {row:List Int}(hr:row.length<4294967296):∀(k:Nat) (q:List Nd) (c:Nat),k<=row.length->q.length+k<4294967296 ->
  Eu (row.map eI) (c:Int) ((k:Int)-1) (q.map eN)=some (iN (BZ (row.take k).reverse q c).2,[rP (BZ (row.take k).reverse q c).1])
 |0,q,c,_,_=>by rw[IL,yp (decide_eq_false (by omega))];rfl
 |k+1,q,c,hk,hq=>by
  obtain⟨x,hx⟩:=yM (l:=row) (i:=k) (by omega)
  have hp:=YN (q:=q) (by omega) x c
  have ih:=Uk hr k (q++[⟨5,0,⟨#[]⟩,x,(c:Int)⟩]) q.length (by omega) (by simp only[lnA,lnC,lnN];omega)
  have e:((k+1:Nat):Int)-1=(k:Int):=by omega
  rw[IL,e,y6 (decide_eq_true (by omega)),zJ (by rw[lnM];exact zM (by omega)),Int.toNat_natCast,zj hx,zq,JA hp,w64 (by omega) (by omega),ih,aas hx,BZ]
theorem YL {q:List Nd}{row:List Int}(h:q.length+row.length<4294967290):V 222 [rP q,.rs (1,0) (row.map eI)]=some (iN (Ac q row).2,[rP (Ac q row).1]):=by
 have ha:=Kg (p:=q) (by omega) ⟨1,0,⟨#[]⟩,0,0⟩
 have hl:=Uk (row:=row) (by omega) row.length (q++[⟨1,0,⟨#[]⟩,0,0⟩]) q.length (Nat.le_refl _) (by simp only[lnA,lnC,lnN];omega)
 rw[List.take_length]at hl
 rw[SF,AW ha,lnM,w64 (by simp only[ni];omega) (by simp only[ni];omega)]
 exact hl
theorem U4 {row:List Int}(hr:row.length<4294967296):∀(k:Nat) (q:List Nd) (c:Nat),k<=row.length->q.length+k<4294967296 ->
  GD (row.map eI) (c:Int) ((k:Int)-1) (q.map eN)=some (iN (BZ (row.take k).reverse q c).2,[rP (BZ (row.take k).reverse q c).1])
 |0,q,c,_,_=>by rw[KC,yp (decide_eq_false (by omega))];rfl
 |k+1,q,c,hk,hq=>by
  obtain⟨x,hx⟩:=yM (l:=row) (i:=k) (by omega)
  have hp:=AP (p:=q) (by omega) ⟨5,0,⟨#[]⟩,x,(c:Int)⟩
  have ih:=U4 hr k (q++[⟨5,0,⟨#[]⟩,x,(c:Int)⟩]) q.length (by omega) (by simp only[lnA,lnC,lnN];omega)
  have e:((k+1:Nat):Int)-1=(k:Int):=by omega
  rw[KC,e,y6 (decide_eq_true (by omega)),zJ (by rw[lnM];exact zM (by omega)),Int.toNat_natCast,zj hx,zq,Ak hp,w64 (by omega) (by omega),ih,aas hx,BZ]
theorem OL {q:List Nd}{row:List Int}(h:q.length+row.length<4294967290):V 210 [rP q,.rs (1,0) (row.map eI)]=some (iN (Ac q row).2,[rP (Ac q row).1]):=by
 have ha:=AP (p:=q) (by omega) ⟨1,0,⟨#[]⟩,0,0⟩
 have hl:=U4 (row:=row) (by omega) row.length (q++[⟨1,0,⟨#[]⟩,0,0⟩]) q.length (Nat.le_refl _) (by simp only[lnA,lnC,lnN];omega)
 rw[List.take_length]at hl
 rw[XJ,Ak ha,lnM,w64 (by simp only[ni];omega) (by simp only[ni];omega)]
 exact hl
abbrev RwF:=Int×List Int
inductive RdR where
 |err (c a:Int)
 |ok (q:List Nd) (row:List Int)
def FX (l:List UInt8)(j:Nat):Nat:=j+((l.drop j).takeWhile FA).length
def ab0 (l:List UInt8)(G:Nat->List RwF->RwF->List Nd->RdR)(i:Nat)(o:List RwF)(t:RwF)(q:List Nd):Option UInt8->RdR
 |none=>if o=[] then .ok q t.2 else .err 4 t.1
 |some x=>
   if x=32 then G (i+1) o t q
   else if x=40 then G (i+1) (t::o) ((i:Int),[]) q
   else if x=41 then match o with
    |[]=>.err 5 (i:Int)
    |u::o=>G (i+1) o (u.1,u.2++[((Ac q t.2).2:Int)]) (Ac q t.2).1
   else if FA x=true then match GT ((l.drop i).take (FX l i-i)) with
    |none=>.err 3 (i:Int)
    |some nd=>G (FX l i) o (t.1,t.2++[(q.length:Int)]) (q++[nd])
   else .err 2 (i:Int)
def Fj (l:List UInt8):Nat->Nat->List RwF->RwF->List Nd->RdR
 |0,_,_,_,_=>.err 1 0
 |k+1,i,o,t,q=>ab0 l (Fj l k) i o t q l[i]?
theorem O9 (l:List UInt8)(G:Nat->List RwF->RwF->List Nd->RdR)(i:Nat)(o:List RwF)(t:RwF)(q:List Nd):ab0 l G i o t q none=if o=[] then .ok q t.2 else .err 4 t.1:=rfl
theorem Iy (l:List UInt8)(G:Nat->List RwF->RwF->List Nd->RdR)(i:Nat)(o:List RwF)(t:RwF)(q:List Nd)(x:UInt8):ab0 l G i o t q (some x)=(if x=32 then G (i+1) o t q
   else if x=40 then G (i+1) (t::o) ((i:Int),[]) q
   else if x=41 then match o with
    |[]=>.err 5 (i:Int)
    |u::o=>G (i+1) o (u.1,u.2++[((Ac q t.2).2:Int)]) (Ac q t.2).1
   else if FA x=true then match GT ((l.drop i).take (FX l i-i)) with
    |none=>.err 3 (i:Int)
    |some nd=>G (FX l i) o (t.1,t.2++[(q.length:Int)]) (q++[nd])
   else .err 2 (i:Int)):=rfl
theorem Jg (l:List UInt8)(k i:Nat)(o:List RwF)(t:RwF)(q:List Nd):Fj l (k+1) i o t q=ab0 l (Fj l k) i o t q l[i]?:=rfl
theorem OT {l:List UInt8}{j:Nat}{x:UInt8}(hx:l[j]? = some x)(h:FA x=true):FX l j=FX l (j+1):=by
 unfold FX;rw[vc hx,List.takeWhile_cons,if_pos h];simp only[lnC];omega
theorem W9 {l:List UInt8}{j:Nat}{x:UInt8}(hx:l[j]? = some x)(h:FA x=false):FX l j=j:=by
 unfold FX;rw[vc hx,List.takeWhile_cons,if_neg (by rw[h];simp)];rfl
theorem aaH {l:List UInt8}{j:Nat}(h:l.length<=j):FX l j=j:=by
 unfold FX;rw[List.drop_of_length_le h];rfl
theorem Tu {l:List UInt8}{j:Nat}(h:j<=l.length):j<=FX l j/\FX l j<=l.length:=by
 unfold FX
 have:=(List.takeWhile_sublist (p:=FA) (l:=l.drop j)).length_le
 rw[List.length_drop]at this
 omega
def phi (o:List RwF)(t:RwF)(q:List Nd):Nat:=q.length+t.2.length+(o.map fun x=>x.2.length).sum
theorem Qg {l:List UInt8}{x:Nd}(h:GT l=some x):x.s.size<=l.length:=by
 unfold GT abX at h
 split at h
 ·cases h;exact Nat.zero_le _
 split at h
 ·cases h;exact Nat.zero_le _
 split at h
 ·cases h;exact Nat.zero_le _
 split at h
 ·cases h;exact Nat.le_of_eq (z8 _)
 ·cases h
theorem D4 {A B:List D}{x:D}(K:D->Option Ret):dd (A++x::B) A.length K=K x:=by simp[dd]
theorem Fu {A B:List D}{x v:D}:(A++x::B).set A.length v=A++v::B:=by simp
theorem ZL {l:List D}(h:l.length<=4294967296):decide (ni l.length<=LIM)=true:=decide_eq_true (by rw[qA];simp only[ni];omega)
theorem Jl {x:UInt8}(c:UInt8)(n:Int)(hn:(c.toNat:Int)=n)(h:¬x=c):((x.toNat:Int)==n)=false:=by
 subst hn
 simp only[beq_eq_false_iff_ne,ne_eq]
 intro e
 exact h (UInt8.toNat_inj.1 (by omega))
end
end Go.Eng
/-! a step of a machine,plain -/
namespace Go.Eng
noncomputable section

abbrev ndN:Nd:=⟨1,0,⟨#[]⟩,0,0⟩
abbrev ndI (n:Int):Nd:=⟨3,n,⟨#[]⟩,0,0⟩
abbrev ndP (a b:Int):Nd:=⟨5,0,⟨#[]⟩,a,b⟩
abbrev ndF (n a:Int):Nd:=⟨6,n,⟨#[]⟩,a,0⟩
abbrev ndK (a:Int):Nd:=⟨7,0,⟨#[]⟩,a,0⟩
abbrev ndR (n:Int):Nd:=⟨8,n,⟨#[]⟩,0,0⟩
def ndB (b:Bool):Nd:=match b with|true=>⟨2,1,⟨#[]⟩,0,0⟩|false=>⟨2,0,⟨#[]⟩,0,0⟩
def nod (p:List Nd)(v:Int):Nd:=p.getD v.toNat ndN
abbrev InP (p:List Nd)(v:Int):Prop:=0<=v/\v<(p.length:Int)

def prNames:List (List UInt8):=[[43],[45],[42],[60],[61],[99,111,110,115],[99,97,114],[99,100,114],[110,117,108,108,63],[112,97,105,114,63],[101,113,63],[110,111,116],[112,114,105,110,116],[115,101,108,102],[115,101,110,100],[114,101,99,118],[115,112,97,119,110],[99,97,108,108,99,99],[103,111]]
def Eo (s:ByteArray):Int:=zm (fun x=>kJ s (mk x)) prNames+1
def prArgs:List Int:=[2,2,2,2,2,2,1,1,1,1,2,1,1,0,2,0,1,1,1]
def Am (n:Int):Int:=if wi n 1 19=true then prArgs.getD (n-1).toNat 0 else -1

def Ay (out:List Int)(x:Nd):Nd:=
 if x.kind=5 then ⟨x.kind,x.n,x.s,out.getD x.a.toNat 0,out.getD x.b.toNat 0⟩
 else if x.kind=6\/x.kind=7 then ⟨x.kind,x.n,x.s,out.getD x.a.toNat 0,x.b⟩ else x
def GL (x y:Nd):Bool:=(x.kind==y.kind)&&((x.n==y.n)&&(kJ x.s y.s&&((x.a==y.a)&&(x.b==y.b))))
def MG:List Nd->List Int->List Nd->List Int×List Nd
 |[],out,keys=>(out,keys)
 |x::r,out,keys=>MG r (out++[match keys.findIdx? (fun y=>GL y (Ay out x)) with|some k=>(k:Int)|none=>(out.length:Int)]) (keys++[Ay out x])
def Fq (p:List Nd):List Int:=(MG p [] []).1
def PC (p:List Nd)(a b:Int):Bool:=(Fq p).getD a.toNat 0==(Fq p).getD b.toNat 0

def GW (p:List Nd)(n:Int)(l:List Int):Except Int (List Nd×Int):=
 let x:=nod p (l.getD 0 0);let y:=nod p (l.getD 1 0)
 if n<=5 then
  if x.kind=3/\y.kind=3 then
   let z:=if n=1 then ndI (x.n+y.n) else if n=2 then ndI (x.n-y.n) else if n=3 then ndI (x.n*y.n) else if n=4 then ndB (decide (x.n<y.n)) else ndB (x.n==y.n)
   if wi z.n (-1000000000) 1000000000=true then .ok (p++[z],p.length) else .error 4
  else .error 3
 else if n=6 then .ok (p++[ndP (l.getD 0 0) (l.getD 1 0)],p.length)
 else if n=7\/n=8 then
  if x.kind=5 then .ok (p,if n=7 then x.a else x.b) else .error 3
 else if n=9 then .ok (p++[ndB (x.kind==1)],p.length)
 else if n=10 then .ok (p++[ndB (x.kind==5)],p.length)
 else if n=11 then .ok (p++[ndB (PC p (l.getD 0 0) (l.getD 1 0))],p.length)
 else .ok (p++[ndB (x.kind==2&&x.n==0)],p.length)

def Je (m:Mc)(v:Int):Mc:=⟨m.pool++[ndP v m.s],m.at',m.pool.length,m.e,m.d,m.state,m.ask,m.arg⟩
def DN (m:Mc):Option (Int×Mc):=if (nod m.pool m.s).kind=5 then some ((nod m.pool m.s).a,⟨m.pool,m.at',(nod m.pool m.s).b,m.e,m.d,m.state,m.ask,m.arg⟩) else none
def D8:Nat->Mc->Option (List Int×Mc)
 |0,m=>some ([],m)
 |k+1,m=>match DN m with
  |none=>none
  |some (v,m')=>match D8 k m' with
   |none=>none
   |some (l,m'')=>some (v::l,m'')
def Jy (p:List Nd):Nat->Int->Option Int
 |0,v=>if (nod p v).kind=5 then some (nod p v).a else none
 |k+1,v=>if (nod p v).kind=5 then Jy p k (nod p v).b else none
def Gq (p:List Nd):Nat->Int->List Int×Bool
 |0,_=>([],false)
 |k+1,v=>if (nod p v).kind=5 then ((nod p v).a::(Gq p k (nod p v).b).1,(Gq p k (nod p v).b).2) else ([],(nod p v).kind==1)
def Bc (p:List Nd)(v:Int):List Int×Bool:=Gq p (v.toNat+1) v
def Ce (c:Cd)(n:Int):Bool:=wi n 0 ((c.list.length:Int)-1)
def GJ (c:Cd)(p:List Nd)(v:Int)(many:Nat):Option (Int×List Int):=match Bc p v with
 |(a::r,true)=>if r.length+1=many/\(nod p a).kind=3/\Ce c (nod p a).n=true then some ((nod p a).n,r) else none
 |_=>none

def Tj (m:Mc)(o i:Int):Except Int Mc:=match Jy m.pool o.toNat m.e with
 |none=>.error 7
 |some fr=>match Jy m.pool i.toNat fr with
  |none=>.error 7
  |some v=>.ok (Je m v)
def J0 (c:Cd)(m:Mc)(s:ByteArray):Except Int Mc:=
 if 0<=Ew c s then
  let d:=c.defs.getD (Ew c s).toNat ⟨⟨#[]⟩,0,0⟩
  .ok (Je ⟨m.pool++[ndN]++[ndF (8*d.at'+d.args) m.pool.length],m.at',m.s,m.e,m.d,m.state,m.ask,m.arg⟩ (m.pool.length+1))
 else if Eo s=0 then .error 1
 else .ok (Je ⟨m.pool++[ndR (Eo s)],m.at',m.s,m.e,m.d,m.state,m.ask,m.arg⟩ m.pool.length)
def GH (c:Cd)(m:Mc)(f:Nd)(l:List Int):Except Int Mc:=
 if f.n % 8≠(l.length:Int) then .error 2
 else if Ce c (f.n / 8)=false then .error 7
 else
  let b:=Ac (m.pool++[ndI (m.at'+1)]) [(m.pool.length:Int),m.s,m.e]
  let v:=Ac (b.1++[ndP b.2 m.d]) l
  .ok ⟨v.1++[ndP v.2 f.a]++[ndN],f.n / 8,((v.1.length:Int)+1),v.1.length,b.1.length,m.state,m.ask,m.arg⟩
def QX (c:Cd)(m:Mc)(st:Int)(l:List Int):Except Int Mc:=
 if l.length≠1 then .error 2
 else match GJ c m.pool st 4 with
  |some (n,[s,e,d])=>.ok (Je ⟨m.pool,n,s,e,d,m.state,m.ask,m.arg⟩ (l.getD 0 0))
  |_=>.error 7
def EZ (c:Cd):Nat->Mc->Int->List Int->Except Int Mc
 |0,_,_,_=>.error 0
 |k+1,m,f,l=>
  let x:=nod m.pool f
  if x.kind=6 then GH c m x l
  else if x.kind=8 then
   if Am x.n≠(l.length:Int) then .error 2
   else if x.n=18 then
    let st:=Ac (m.pool++[ndI (m.at'+1)]) [(m.pool.length:Int),m.s,m.e,m.d]
    EZ c k ⟨st.1++[ndK st.2],m.at',m.s,m.e,m.d,m.state,m.ask,m.arg⟩ (l.getD 0 0) [(st.1.length:Int)]
   else if x.n>12 then
    let r:=Ac m.pool l
    .ok ⟨r.1,m.at',m.s,m.e,m.d,1,x.n,r.2⟩
   else match GW m.pool x.n l with
    |.error h=>.error (h+1)
    |.ok (p,v)=>.ok ⟨p++[ndP v m.s],m.at'+1,p.length,m.e,m.d,m.state,m.ask,m.arg⟩
  else if x.kind=7 then QX c m x.a l
  else .error 3
def CK (c:Cd)(m:Mc)(many:Nat):Except Int Mc:=
 if Ce c (m.at'+1)=false then .error 7
 else match D8 (many+1) m with
  |none=>.error 7
  |some (l,m')=>EZ c 3 m' (l.reverse.getD 0 0) (l.reverse.drop 1)
def JT (c:Cd)(m:Mc):Except Int Mc:=match DN m with
 |none=>.error 7
 |some (v,m1)=>
  let d:=nod m1.pool m1.d
  if d.kind=1 then .ok ⟨m1.pool,0,m1.s,m1.e,m1.d,2,m1.ask,v⟩
  else if d.kind≠5 then .error 7
  else match GJ c m1.pool d.a 3 with
   |some (n,[s,e])=>.ok (Je ⟨m1.pool,n,s,e,d.b,m1.state,m1.ask,m1.arg⟩ v)
   |_=>.error 7
def BW (d:Int)(q:List Nd)(v:Int)(acc:List Nd):List Nd×Int:=((Ba d q [v] acc).2,(Ba d q [v] acc).1.getD v.toNat 0)
def adN (c:Cd)(m:Mc)(v:Int):Mc:=Je ⟨(BW (-1) c.pool v m.pool).1,m.at',m.s,m.e,m.d,m.state,m.ask,m.arg⟩ (BW (-1) c.pool v m.pool).2
def goM (c:Cd)(r:Except Int Mc)(next:Int):Except Int Mc:=match r with
 |.error h=>.error h
 |.ok m=>if Ce c next=true then .ok ⟨m.pool,next,m.s,m.e,m.d,m.state,m.ask,m.arg⟩ else .error 7
def D7 (c:Cd)(m:Mc)(x:In):Except Int Mc:=
 if x.op=1 then goM c (.ok (adN c m x.n)) (m.at'+1)
 else if x.op=2 then goM c (Tj m x.n x.i) (m.at'+1)
 else if x.op=3 then goM c (J0 c m x.s) (m.at'+1)
 else if x.op=5 then goM c (.ok m) x.n
 else if x.op=6 then goM c (.ok (Je ⟨m.pool++[ndF (8*x.n+x.i) m.e],m.at',m.s,m.e,m.d,m.state,m.ask,m.arg⟩ m.pool.length)) (m.at'+1)
 else match DN m with
  |none=>.error 7
  |some (v,m1)=>goM c (.ok m1) (if x.op=4/\(nod m1.pool v).kind=2/\(nod m1.pool v).n=0 then x.n else m.at'+1)
def Po (m:Mc)(h:Int):Mc:=⟨m.pool,0,m.s,m.e,m.d,3,h,0⟩
def doM (c:Cd)(m:Mc):Except Int Mc:=
 let x:=c.list.getD m.at'.toNat ⟨0,0,0,⟨#[]⟩⟩
 if x.op=7 then CK c m x.i.toNat else if x.op=8 then JT c m else D7 c m x
def Mr (c:Cd)(m:Mc):Mc:=match doM c m with
 |.error h=>Po m h
 |.ok m'=>if m'.pool.length<=3000 then m' else Po m 6
def acb:Mc:=⟨[],0,0,0,0,3,7,0⟩
def Mq (c:Cd)(m:Mc):Mc:=if DG c m=true then (if m.state=0 then Mr c m else m) else acb
end
end Go.Eng
/-! reading a text: the spec -/
namespace Go.Eng
noncomputable section
open Go.Proofs Go.Proofs.Tryz
set_option maxHeartbeats 4000000

theorem YI {p:List Nd}(hl:p.length<=4294967296):V 147 [eP p]=some (oP p,[]):=by
 rw[Qz,List.nil_append]
 simp (disch:=first|omega|(simp only[lnA,lnC,lnN,lnM,z8,yj];omega)) only[↓zd,↓zO,zZ,lnM,qA,yj]

abbrev eO (x:RwF):D:=.agg [iN x.1,.os (1,0) (x.2.map eI)]
theorem Iv (t:RwF)(K:List D->List D->Option Ret):(asAgg (eO t) fun l=>dd l 1 fun y=>jH (1,0) y fun r=>asAgg (eO t) fun l2=>K r l2)=K (t.2.map eI) [iN t.1,.os (1,0) (t.2.map eI)]:=rfl
theorem afd (t:RwF)(K:Int->Option Ret):(asAgg (eO t) fun l=>dd l 0 fun y=>asI .i64 y fun r=>K r)=K t.1:=rfl
theorem tdd (a b:D):List.take 1 [a,b]++[D.dead]++List.drop 2 [a,b]=[a,.dead]:=rfl
theorem tds (a b c:D):List.take 1 [a,b]++[c]++List.drop 2 [a,b]=[a,c]:=rfl
theorem afZ (A J:List D)(x:D):part (A++x::J) (some (0,A.length+1))=A++[x]:=by
 simp only[part,List.drop_zero]
 rw[show A++x::J=(A++[x])++J by simp,List.take_left' (by simp)]
def SR (P:List D)(n:Nat)(r:RdR):Option Ret:=match r with
 |.err c a=>some (.tup [.agg [.os (5,0) P],.os (1,0) [],iN c,iN a],[])
 |.ok q row=>if Af q=true then some (.tup [.agg [.os (5,0) (q.map eN)],.os (1,0) (row.map eI),iN 0,iN (n:Int)],[]) else some (.tup [.agg [.os (5,0) P],.os (1,0) [],iN 6,iN 0],[])
def Xd (r:Option Nd)(p:List Nd)(i:Nat)(X:Nd->Option Ret):Option Ret:=match r with
 |none=>some (.tup [.agg [.os (5,0) (p.map eN)],.os (1,0) [],iN 3,iN (i:Int)],[])
 |some nd=>X nd
theorem afg {l:List UInt8}(hl:l.length<1000000000){i:Nat}{p q:List Nd}{A:List D}{t:RwF}(hp:p.length<4294967290)(hq:q.length<4294967290)(hA:A.length<4294967290)(ht:t.2.length<4294967290):∀(m j:Nat),j+m=l.length->i<=j ->
  Dn (mk l) (j:Int) (A.length:Int) (i:Int) (p.map eN) [] (A++[eO t]) (q.map eN)=Xd (GT ((l.drop i).take (FX l j-i))) p i fun nd=>AH (mk l) (FX l j:Nat) (p.map eN) [] (A++[eO (t.1,t.2++[(q.length:Int)])]) ((q++[nd]).map eN)
 |m,j,hm,hij=>by
  have hcut:df l.length (some (i:Int)) (some (j:Int))=true:=by unfold df;simp;omega
  obtain⟨x,b,h1,h2⟩:=aaw (l:=(l.drop i).take (j-i)) (by simp only[List.length_take,List.length_drop];omega)
  have ha:=AP (p:=q) (by omega) x
  have hc:=YI (p:=p) (by omega)
  have hin:∀x:D,(decide (0<=(A.length:Int))&&decide ((A.length:Int)<ni (A++[x]).length))=true:=fun x=>zM (by simp)
  have hlim:decide (ni (t.2.map eI++[iN (q.length:Int)]).length<=LIM)=true:=ZL (by simp only[lnA,lnM,lnC,lnN];omega)
  have hrow:(t.2++[(q.length:Int)]).map eI=t.2.map eI++[iN (q.length:Int)]:=by simp
  match m with
  |0=>
   rw[KY,z8,yp (zI (by omega)),zJ hcut,Int.toNat_natCast,Int.toNat_natCast,JY,KQ h1,aaH (by omega)]
   cases hw:GT ((l.drop i).take (j-i)) with
   |none=>
    rw[hw]at h2
    have h2:b=false:=h2
    rw[h2,Bool.not_false,zy,AQ hc];rfl
   |some nd=>
    rw[hw]at h2
    obtain⟨rfl,rfl⟩:x=nd/\b=true:=h2
    rw[Bool.not_true,y0,zJ (hin _),Int.toNat_natCast,D4,Iv,Ak ha,zJ hlim,zO,Fu,tdd,zJ (hin _),D4,yK,Fu,tds,zO,Xd,eO,hrow]
  |m+1=>
   obtain⟨y,hy⟩:=yM (l:=l) (i:=j) (by omega)
   have hb:=VZ hy
   have hwb:=M9 y
   rw[KY,z8,y6 (zN (by omega)),zJ (zM (by omega)),hb,Dd hwb]
   cases hwu:FA y with
   |true=>
    have ih:=afg hl hp hq hA ht (A:=A) (i:=i) m (j+1) (by omega) (by omega)
    rw[zy,z6 (by omega),ih,OT hy hwu]
   |false=>
    rw[y0,zJ hcut,Int.toNat_natCast,Int.toNat_natCast,JY,KQ h1,W9 hy hwu]
    cases hw:GT ((l.drop i).take (j-i)) with
    |none=>
     rw[hw]at h2
     have h2:b=false:=h2
     rw[h2,Bool.not_false,zy,AQ hc];rfl
    |some nd=>
     rw[hw]at h2
     obtain⟨rfl,rfl⟩:x=nd/\b=true:=h2
     rw[Bool.not_true,y0,zJ (hin _),Int.toNat_natCast,D4,Iv,Ak ha,zJ hlim,zO,Fu,tdd,zJ (hin _),D4,yK,Fu,tds,zO,Xd,eO,hrow]
theorem Yg {A J:List D}{x:D}:(decide (0<=(A.length:Int))&&decide ((A.length:Int)<ni (A.length+1))&&decide (0+(A.length+1)<=(A++x::J).length))=true:=by
 simp only[ni,Bool.and_eq_true,decide_eq_true_eq,lnA,lnC];omega
theorem ad4 {l:List UInt8}(hl:l.length<1000000000){i:Nat}{p q:List Nd}{A J:List D}{t:RwF}(hp:p.length<4294967290)(hq:q.length<4294967290)(hA:A.length<4294967290)(ht:t.2.length<4294967290):∀(m j:Nat),j+m=l.length->i<=j ->
  Cy (mk l) (A.length+1) (j:Int) (A.length:Int) (i:Int) (p.map eN) [] (A++eO t::J) (q.map eN)=Xd (GT ((l.drop i).take (FX l j-i))) p i fun nd=>AC (mk l) (A.length+1) (FX l j:Nat) (p.map eN) [] (A++eO (t.1,t.2++[(q.length:Int)])::J) ((q++[nd]).map eN)
 |m,j,hm,hij=>by
  have hcut:df l.length (some (i:Int)) (some (j:Int))=true:=by unfold df;simp;omega
  obtain⟨x,b,h1,h2⟩:=aaw (l:=(l.drop i).take (j-i)) (by simp only[List.length_take,List.length_drop];omega)
  have ha:=AP (p:=q) (by omega) x
  have hc:=YI (p:=p) (by omega)
  have hlim:decide (ni (t.2.map eI++[iN (q.length:Int)]).length<=LIM)=true:=ZL (by simp only[lnA,lnM,lnC,lnN];omega)
  have hrow:(t.2++[(q.length:Int)]).map eI=t.2.map eI++[iN (q.length:Int)]:=by simp
  match m with
  |0=>
   rw[Ju,z8,yp (zI (by omega)),zJ hcut,Int.toNat_natCast,Int.toNat_natCast,JY,KQ h1,aaH (by omega)]
   cases hw:GT ((l.drop i).take (j-i)) with
   |none=>
    rw[hw]at h2
    have h2:b=false:=h2
    rw[h2,Bool.not_false,zy,AQ hc];rfl
   |some nd=>
    rw[hw]at h2
    obtain⟨rfl,rfl⟩:x=nd/\b=true:=h2
    rw[Bool.not_true,y0,zJ Yg,Int.toNat_natCast,Nat.zero_add,D4,Iv,Ak ha,zJ hlim,zO,Fu,tdd,zJ Yg,D4,yK,Fu,tds,zO,Xd,eO,hrow]
  |m+1=>
   obtain⟨y,hy⟩:=yM (l:=l) (i:=j) (by omega)
   have hb:=VZ hy
   have hwb:=M9 y
   rw[Ju,z8,y6 (zN (by omega)),zJ (zM (by omega)),hb,Dd hwb]
   cases hwu:FA y with
   |true=>
    have ih:=ad4 hl hp hq hA ht (A:=A) (J:=J) (i:=i) m (j+1) (by omega) (by omega)
    rw[zy,z6 (by omega),ih,OT hy hwu]
   |false=>
    rw[y0,zJ hcut,Int.toNat_natCast,Int.toNat_natCast,JY,KQ h1,W9 hy hwu]
    cases hw:GT ((l.drop i).take (j-i)) with
    |none=>
     rw[hw]at h2
     have h2:b=false:=h2
     rw[h2,Bool.not_false,zy,AQ hc];rfl
    |some nd=>
     rw[hw]at h2
     obtain⟨rfl,rfl⟩:x=nd/\b=true:=h2
     rw[Bool.not_true,y0,zJ Yg,Int.toNat_natCast,Nat.zero_add,D4,Iv,Ak ha,zJ hlim,zO,Fu,tdd,zJ Yg,D4,yK,Fu,tds,zO,Xd,eO,hrow]
theorem af0 {A J:List D}{x y v:D}:((A++[x])++y::J).set (A.length+1) v=A++x::v::J:=by
 have:=Fu (A:=A++[x]) (B:=J) (x:=y) (v:=v)
 rw[lnA,List.length_singleton]at this
 rw[this,List.append_assoc];rfl
theorem afX {A J:List D}{x y:D}(K:D->Option Ret):dd ((A++[x])++y::J) (A.length+1) K=K y:=by
 have:=D4 (A:=A++[x]) (B:=J) (x:=y) K
 rw[lnA,List.length_singleton]at this
 exact this
theorem ael {n:Nat}(h:n<4611686018427387904):w6 (((n+1:Nat):Int)-1)=(n:Int):=by
 rw[w64 (by omega) (by omega)];omega
theorem adb (P:List D)(n:Nat)(q:List Nd)(row:List Int):SR P n (.ok q row)=if Af q=true then some (.tup [.agg [.os (5,0) (q.map eN)],.os (1,0) (row.map eI),iN 0,iN (n:Int)],[]) else some (.tup [.agg [.os (5,0) P],.os (1,0) [],iN 6,iN 0],[]):=rfl
theorem WU {l:List UInt8}(hl:l.length<1000000000){p:List Nd}(hp:p.length<4294967290):∀(k i:Nat) (o:List RwF) (t:RwF) (q:List Nd),l.length<i+k->i<=l.length->phi o t q+2*(l.length-i)<4000000000->o.length+(l.length-i)<4000000000->Du q ->
  AH (mk l) (i:Int) (p.map eN) [] (o.reverse.map eO++[eO t]) (q.map eN)=SR (p.map eN) l.length (Fj l k i o t q) /\
  ∀J,AC (mk l) (o.length+1) (i:Int) (p.map eN) [] (o.reverse.map eO++eO t::J) (q.map eN)=SR (p.map eN) l.length (Fj l k i o t q)
 |0,i,o,t,q,h1,h2,_,_,_=>by omega
 |k+1,i,o,t,q,h1,h2,h3,h4,hf=>by
  have hph:phi o t q=q.length+t.2.length+(o.map fun x=>x.2.length).sum:=rfl
  have hc:=YI (p:=p) (by omega)
  have hAl:(o.reverse.map eO).length=o.length:=by rw[lnM,List.length_reverse]
  have hn1:(o.reverse.map eO++[eO t]).length=o.length+1:=by rw[lnA,hAl];rfl
  have hw1:w6 (ni (o.length+1)-1)=((o.reverse.map eO).length:Int):=by rw[hAl];exact ael (by omega)
  have hin:∀J,(decide (0<=((o.reverse.map eO).length:Int))&&decide (((o.reverse.map eO).length:Int)<ni (o.length+1))&&decide (0+(o.length+1)<=(o.reverse.map eO++eO t::J).length))=true:=fun J=>by
   rw[<-hAl];exact Yg
  rw[Jg]
  by_cases hi:i=l.length
  ·have hx:l[i]? = none:=List.getElem?_eq_none (by omega)
   have hok:=Dt hf (by omega)
   rw[hx,O9]
   cases o with
   |nil=>
    have hlim:decide (ni ([]++t.2.map eI).length<=LIM)=true:=ZL (by rw[List.nil_append,lnM];omega)
    rw[if_pos rfl]
    constructor
    ·rw[BM,z8,yp (zI (by omega)),yp (by rfl),Gj hok]
     rw[adb]
     cases hq:Af q with
     |false=>rw[Bool.not_false,zy,AQ hc,if_neg (by simp)]
     |true=>rw[Bool.not_true,y0,zJ (by rfl),if_pos rfl,show ∀K:D->Option Ret,dd (([]:List RwF).reverse.map eO++[eO t]) 0 K=K (eO t) from fun K=>rfl,Iv,zJ hlim,zO,List.nil_append]
    ·intro J
     rw[AZ,z8,yp (zI (by omega)),yp (by rfl),Gj hok]
     rw[adb]
     cases hq:Af q with
     |false=>rw[Bool.not_false,zy,AQ hc,if_neg (by simp)]
     |true=>rw[Bool.not_true,y0,zJ (by simp[ni]),if_pos rfl,show ∀K:D->Option Ret,dd (([]:List RwF).reverse.map eO++eO t::J) 0 K=K (eO t) from fun K=>rfl,Iv,zJ hlim,zO,List.nil_append]
   |cons u o=>
    rw[if_neg (by simp)]
    constructor
    ·rw[BM,z8,yp (zI (by omega)),hn1,y6 (decide_eq_true (by simp only[ni,lnC];omega)),AQ hc,hw1,zJ (by rw[hAl];exact zM (by omega)),Int.toNat_natCast,D4,afd];rfl
    ·intro J
     rw[AZ,z8,yp (zI (by omega)),y6 (decide_eq_true (by simp only[ni,lnC];omega)),AQ hc,hw1,zJ (hin J),Int.toNat_natCast,Nat.zero_add,D4,afd];rfl
  obtain⟨x,hx⟩:=yM (l:=l) (i:=i) (by omega)
  have hb:=VZ hx
  rw[hx,Iy]
  by_cases h32:x=32
  ·subst h32
   have ih:=WU hl hp k (i+1) o t q (by omega) (by omega) (by omega) (by omega) hf
   rw[if_pos rfl]
   constructor
   ·rw[BM,z8,y6 (zN (by omega)),zJ (zM (by omega)),hb,y6 (by rfl),z6 (by omega)]
    exact ih.1
   ·intro J
    rw[AZ,z8,y6 (zN (by omega)),zJ (zM (by omega)),hb,y6 (by rfl),z6 (by omega)]
    exact ih.2 J
  rw[if_neg h32]
  by_cases h40:x=40
  ·subst h40
   have hlo:decide (ni (o.reverse.map eO++[eO t]++[D.agg [iN (i:Int),.os (1,0) []]]).length<=LIM)=true:=ZL (by rw[lnA,hn1];simp only[lnC,lnN];omega)
   have ih:=(WU hl hp k (i+1) (t::o) ((i:Int),[]) q (by omega) (by omega) (by simp only[phi,List.map_cons,List.sum_cons,lnN];omega) (by simp only[lnC];omega) hf).1
   rw[show (t::o).reverse.map eO=o.reverse.map eO++[eO t] by simp]at ih
   rw[if_pos rfl]
   constructor
   ·rw[BM,z8,y6 (zN (by omega)),zJ (zM (by omega)),hb,yp (by rfl),y6 (by rfl),zJ hlo,zO,z6 (by omega)]
    exact ih
   ·intro J
    have hpt:=afZ (o.reverse.map eO) J (eO t)
    rw[hAl]at hpt
    rw[AZ,z8,y6 (zN (by omega)),zJ (zM (by omega)),hb,yp (by rfl),y6 (by rfl),hpt,zJ hlo,zO,z6 (by omega)]
    exact ih
  rw[if_neg h40]
  by_cases h41:x=41
  ·subst h41
   rw[if_pos rfl]
   cases o with
   |nil=>
    constructor
    ·rw[BM,z8,y6 (zN (by omega)),zJ (zM (by omega)),hb,yp (by rfl),yp (by rfl),y6 (by rfl),hn1,hw1,y6 (by rfl),AQ hc];rfl
    ·intro J
     rw[AZ,z8,y6 (zN (by omega)),zJ (zM (by omega)),hb,yp (by rfl),yp (by rfl),y6 (by rfl),hw1,y6 (by rfl),AQ hc];rfl
   |cons u o=>
    simp only[List.map_cons,List.sum_cons]at hph
    simp only[lnC]at h4
    have hll:=OL (q:=q) (row:=t.2) (by omega)
    have ih:=(WU hl hp k (i+1) o (u.1,u.2++[((Ac q t.2).2:Int)]) (Ac q t.2).1 (by omega) (by omega) (by simp only[phi,Ft,lnA,lnC,lnN];omega) (by omega) (Uq hf _)).2
    obtain⟨O,hO⟩:∃O,O=o.reverse.map eO:=⟨_,rfl⟩
    have hA:O.length=o.length:=by rw[hO,lnM,List.length_reverse]
    have hrev:(u::o).reverse.map eO=O++[eO u]:=by rw[hO];simp
    have hlim:decide (ni (u.2.map eI++[iN ((Ac q t.2).2:Int)]).length<=LIM)=true:=ZL (by simp only[lnA,lnM,lnC,lnN];omega)
    have hrow:(u.2++[((Ac q t.2).2:Int)]).map eI=u.2.map eI++[iN ((Ac q t.2).2:Int)]:=by simp
    have hl2:(u::o).length=O.length+1:=by rw[hA];rfl
    have hn2:(O++[eO u]++[eO t]).length=O.length+1+1:=by simp
    have hw2:w6 (ni (O.length+1+1)-1)=((O.length+1:Nat):Int):=ael (by omega)
    have hw3:w6 (((O.length+1:Nat):Int)-1)=(O.length:Int):=ael (by omega)
    have hne:(((O.length+1:Nat):Int)==0)=false:=by simp only[beq_eq_false_iff_ne,ne_eq];omega
    rw[<-hA,<-hO]at ih
    rw[hrev,hl2]
    constructor
    ·rw[BM,z8,y6 (zN (by omega)),zJ (zM (by omega)),hb,yp (by rfl),yp (by rfl),y6 (by rfl),hn2,hw2,yp hne,zJ (zM (by omega)),Int.toNat_natCast,afX,Iv,Gk hll,tdd,af0,hw3,Int.toNat_natCast,Nat.zero_add O.length]
     rw[zJ (by unfold df;simp;try omega),zJ Yg,D4,Iv,zJ hlim,zO,Fu,tdd,zJ Yg,D4,yK,Fu,tds,zO,z6 (by omega),<-hrow]
     exact ih _
    ·intro J
     rw[AZ,z8,y6 (zN (by omega)),zJ (zM (by omega)),hb,yp (by rfl),yp (by rfl),y6 (by rfl),hw2,yp hne,zJ (by simp only[ni,Bool.and_eq_true,decide_eq_true_eq,lnA,lnC,lnN];omega),Int.toNat_natCast,Nat.zero_add (O.length+1),afX,Iv,Gk hll,tdd,af0,hw3,Int.toNat_natCast,Nat.zero_add O.length]
     rw[zJ (by unfold iy;simp;try omega),zJ (by have:=Yg (A:=O) (J:=D.agg [iN t.1,.dead]::J) (x:=eO u);rwa[Nat.zero_add]at this),D4,Iv,zJ hlim,zO,Fu,tdd,zJ (by have:=Yg (A:=O) (J:=D.agg [iN t.1,.dead]::J) (x:=.agg [iN u.1,.dead]);rwa[Nat.zero_add]at this),D4,yK,Fu,tds,zO,z6 (by omega),<-hrow]
     exact ih _
  rw[if_neg h41]
  have hwb:=M9 x
  cases hw:FA x with
  |false=>
   rw[hw]at hwb
   rw[if_neg (by simp)]
   constructor
   ·rw[BM,z8,y6 (zN (by omega)),zJ (zM (by omega)),hb,yp (Jl 32 32 rfl h32),yp (Jl 40 40 rfl h40),yp (Jl 41 41 rfl h41),Dd hwb,y0,AQ hc];rfl
   ·intro J
    rw[AZ,z8,y6 (zN (by omega)),zJ (zM (by omega)),hb,yp (Jl 32 32 rfl h32),yp (Jl 40 40 rfl h40),yp (Jl 41 41 rfl h41),Dd hwb,y0,AQ hc];rfl
  |true=>
   rw[hw]at hwb
   have hs:=afg hl (i:=i) (p:=p) (q:=q) (A:=o.reverse.map eO) (t:=t) hp (by omega) (by rw[hAl];omega) (by omega) (l.length-i) i (by omega) (by omega)
   have hs1:=fun J=>ad4 hl (i:=i) (p:=p) (q:=q) (A:=o.reverse.map eO) (J:=J) (t:=t) hp (by omega) (by rw[hAl];omega) (by omega) (l.length-i) i (by omega) (by omega)
   rw[hAl]at hs hs1
   have hwe:=OT hx hw
   have hwl:=Tu (l:=l) (j:=i+1) (by omega)
   rw[hAl]at hw1
   rw[if_pos rfl]
   constructor
   ·rw[BM,z8,y6 (zN (by omega)),zJ (zM (by omega)),hb,yp (Jl 32 32 rfl h32),yp (Jl 40 40 rfl h40),yp (Jl 41 41 rfl h41),Dd hwb,zy,hn1,hw1,hs]
    cases hwd:GT ((l.drop i).take (FX l i-i)) with
    |none=>rfl
    |some nd=>
     have hz:=Qg hwd
     exact (WU hl hp k (FX l i) o (t.1,t.2++[(q.length:Int)]) (q++[nd]) (by omega) (by omega) (by simp only[phi,lnA,lnC,lnN];omega) (by omega) (LY hf (by rw[List.length_take,List.length_drop]at hz;omega))).1
   ·intro J
    rw[AZ,z8,y6 (zN (by omega)),zJ (zM (by omega)),hb,yp (Jl 32 32 rfl h32),yp (Jl 40 40 rfl h40),yp (Jl 41 41 rfl h41),Dd hwb,zy,hw1,hs1]
    cases hwd:GT ((l.drop i).take (FX l i-i)) with
    |none=>rfl
    |some nd=>
     have hz:=Qg hwd
     exact (WU hl hp k (FX l i) o (t.1,t.2++[(q.length:Int)]) (q++[nd]) (by omega) (by omega) (by simp only[phi,lnA,lnC,lnN];omega) (by omega) (LY hf (by rw[List.length_take,List.length_drop]at hz;omega))).2 J
end
end Go.Eng
/-! reading a text: both sides agree -/
namespace Go.Eng
noncomputable section
open Go.Proofs Go.Proofs.Tryz
set_option maxHeartbeats 4000000

theorem Mo {l:List UInt8}(hl:l.length<1000000000):∀(k i:Nat) (o:List RwF) (t:RwF) (q:List Nd),i<=l.length->phi o t q+2*(l.length-i)<4000000000->Du q->∀q' row,Fj l k i o t q=.ok q' row->Du q'/\q'.length<4000000000/\row.length<4000000000
 |0,i,o,t,q,_,_,_,q',row,h=>by rw[Fj]at h;cases h
 |k+1,i,o,t,q,h2,h3,hf,q',row,h=>by
  have hph:phi o t q=q.length+t.2.length+(o.map fun x=>x.2.length).sum:=rfl
  rw[Jg]at h
  by_cases hi:i=l.length
  ·have hx:l[i]? = none:=List.getElem?_eq_none (by omega)
   rw[hx,O9]at h
   by_cases ho:o=[]
   ·rw[if_pos ho]at h
    cases h
    exact⟨hf,by omega,by omega⟩
   ·rw[if_neg ho]at h;cases h
  obtain⟨x,hx⟩:=yM (l:=l) (i:=i) (by omega)
  rw[hx,Iy]at h
  by_cases h32:x=32
  ·rw[if_pos h32]at h
   exact Mo hl k (i+1) o t q (by omega) (by omega) hf q' row h
  rw[if_neg h32]at h
  by_cases h40:x=40
  ·rw[if_pos h40]at h
   exact Mo hl k (i+1) (t::o) ((i:Int),[]) q (by omega) (by simp only[phi,List.map_cons,List.sum_cons,lnN];omega) hf q' row h
  rw[if_neg h40]at h
  by_cases h41:x=41
  ·rw[if_pos h41]at h
   cases o with
   |nil=>cases h
   |cons u o=>
    simp only[List.map_cons,List.sum_cons]at hph
    exact Mo hl k (i+1) o (u.1,u.2++[((Ac q t.2).2:Int)]) (Ac q t.2).1 (by omega) (by simp only[phi,Ft,lnA,lnC,lnN];omega) (Uq hf _) q' row h
  rw[if_neg h41]at h
  by_cases hw:FA x=true
  ·rw[if_pos hw]at h
   have hwe:=OT hx hw
   have hwl:=Tu (l:=l) (j:=i+1) (by omega)
   cases hwd:GT ((l.drop i).take (FX l i-i)) with
   |none=>rw[hwd]at h;cases h
   |some nd=>
    rw[hwd]at h
    have hz:=Qg hwd
    exact Mo hl k (FX l i) o (t.1,t.2++[(q.length:Int)]) (q++[nd]) (by omega) (by simp only[phi,lnA,lnC,lnN];omega) (LY hf (by rw[List.length_take,List.length_drop]at hz;omega)) q' row h
  ·rw[if_neg hw]at h;cases h
def acS (p:List Nd)(n:Nat)(r:RdR):List Nd×List Int×Int×Int:=match r with
 |.err c a=>(p,[],c,a)
 |.ok q row=>if Af q=true then (q,row,0,(n:Int)) else (p,[],6,0)
def Ck (p:List Nd)(l:List UInt8):List Nd×List Int×Int×Int:=if Af p=false then ([],[],6,0) else if 400<l.length then (p,[],1,0) else acS p l.length (Fj l (l.length+1) 0 [] (0,[]) p)
abbrev YF (r:List Nd×List Int×Int×Int):Option Ret:=some (.tup [oP r.1,.os (1,0) (r.2.1.map eI),iN r.2.2.1,iN r.2.2.2],[])
theorem aep (p:List Nd)(n:Nat)(r:RdR):SR (p.map eN) n r=YF (acS p n r):=by
 cases r with
 |err c a=>rfl
 |ok q row=>
  rw[adb]
  unfold acS
  by_cases h:Af q=true
  ·rw[if_pos h];simp only[if_pos h]
  ·rw[if_neg h];simp only[if_neg h];rfl
theorem SA {p:List Nd}(hf:Du p)(hl:p.length<4611686018427387904)(l:List UInt8):V 191 [eP p,.str (mk l)]=YF (Ck p l):=by
 have hok:=Dt hf hl
 unfold Ck
 rw[aaI,Gj hok]
 cases h:Af p with
 |false=>rw[Bool.not_false,zy,if_pos rfl];rfl
 |true=>
  have hp:=Aq h
  have hc:=YI (p:=p) (by omega)
  rw[Bool.not_true,y0,if_neg (by simp),z8]
  by_cases h4:400<l.length
  ·rw[y6 (decide_eq_true (by simp only[ni];omega)),AQ hc,if_pos h4];rfl
  ·have hs:=(WU (l:=l) (by omega) (p:=p) (by omega) (l.length+1) 0 [] (0,[]) p (by omega) (by omega) (by simp only[phi,List.map_nil,List.sum_nil,lnN];omega) (by simp only[lnN];omega) hf).1
   rw[yp (decide_eq_false (by simp only[ni];omega)),AQ hc,if_neg h4,<-aep]
   exact hs
end
end Go.Eng
/-! compiling,plain (the reference's way) -/
namespace Go.Eng
noncomputable section

structure Ms where
 list:List In
 defs:List Df
 how:Int
abbrev inO (op:Int):In:=⟨op,0,0,⟨#[]⟩⟩
def wrds:List (List UInt8):=[[113,117,111,116,101],[105,102],[102,110],[100,111],[108,101,116],[100,101,102,105,110,101]]
def RY (s:ByteArray):Bool:=wrds.any fun x=>kJ s (mk x)
def Av (m:Ms)(x:In):Ms:=if m.how=0 then (if m.list.length=400 then ⟨m.list,m.defs,3⟩ else ⟨m.list++[x],m.defs,0⟩) else m
def CW (m:Ms):Int:=if m.how=0 then (if m.list.length=400 then 0 else m.list.length) else 0
def toC (m:Ms)(k:Int):Ms:=if m.how=0 then ⟨m.list.set k.toNat ⟨(m.list.getD k.toNat (inO 0)).op,m.list.length,(m.list.getD k.toNat (inO 0)).i,(m.list.getD k.toNat (inO 0)).s⟩,m.defs,0⟩ else m
def Eh (m:Ms)(h:Int):Ms:=⟨m.list,m.defs,h⟩
def nmC (p:List Nd)(v:Int):Bool:=(nod p v).kind==4&&!RY (nod p v).s
def Pi (p:List Nd):List Int->Int->List ByteArray->List ByteArray×Int
 |[],h,out=>(out,h)
 |x::r,h,out=>if h=0 then Pi p r (if nmC p x=true then 0 else 1) (out++[(nod p x).s]) else (out,h)
def TM (out:List ByteArray):Nat->Nat->Int->Int
 |0,_,h=>h
 |k+1,i,h=>if h=0 then TM out k (i+1) (if (out.take i).any (fun t=>kJ t (out.getD i ⟨#[]⟩))=true then 2 else 0) else h
def BJ (p:List Nd)(xs:List Int)(h:Int):List ByteArray×Int:=
 let r:=Pi p xs (if xs.length>4 then 1 else h) []
 (r.1,TM r.1 r.1.length 0 r.2)
def aej (s:ByteArray):List ByteArray->Nat->Option Nat
 |[],_=>none
 |x::r,i=>if kJ x s=true then some i else aej s r (i+1)
def ac8 (s:ByteArray):List (List ByteArray)->Nat->Option (Nat×Nat)
 |[],_=>none
 |e::r,n=>match aej s e 0 with
  |some i=>some (n,i)
  |none=>ac8 s r (n+1)
section
variable (E:List (List ByteArray)->Int->Ms->Ms)
def DR (env:List (List ByteArray)):List Int->Bool->Ms->Ms
 |[],_,m=>m
 |x::r,f,m=>if m.how=0 then DR env r false (E env x (if f=true then m else Av m (inO 9))) else m
def S9 (names:List ByteArray)(body:List Int)(env:List (List ByteArray))(m:Ms):Ms:=
 let m1:=Av m ⟨6,0,names.length,⟨#[]⟩⟩
 let m2:=Av m1 (inO 5)
 let m3:=DR E (names::env) body true (toC m2 (CW m))
 toC (Av m3 (inO 8)) (CW m1)
def GI (p:List Nd)(s:ByteArray)(xs:List Int)(env:List (List ByteArray))(m:Ms):Ms:=
 if kJ s (mk [113,117,111,116,101])=true/\xs.length=2 then Av m ⟨1,xs.getD 1 0,0,⟨#[]⟩⟩
 else if kJ s (mk [105,102])=true/\xs.length=4 then
  let m1:=E env (xs.getD 1 0) m
  let m3:=E env (xs.getD 2 0) (Av m1 (inO 4))
  let m5:=toC (Av m3 (inO 5)) (CW m1)
  toC (E env (xs.getD 3 0) m5) (CW m3)
 else if kJ s (mk [100,111])=true/\2<=xs.length then DR E env (xs.drop 1) true m
 else if kJ s (mk [102,110])=true/\3<=xs.length then
  let a:=Bc p (xs.getD 1 0)
  if a.2=false then Eh m 1 else
  let r:=BJ p a.1 m.how
  S9 E r.1 (xs.drop 2) env (Eh m r.2)
 else if kJ s (mk [108,101,116])=true/\4<=xs.length then
  let r:=BJ p [xs.getD 1 0] m.how
  Av (E env (xs.getD 2 0) (S9 E r.1 (xs.drop 3) env (Eh m r.2))) ⟨7,0,1,⟨#[]⟩⟩
 else Eh m 1
end
def CM (p:List Nd):Nat->List (List ByteArray)->Int->Ms->Ms
 |0,_,_,m=>m
 |k+1,env,v,m=>if m.how≠0 then m else
  let x:=nod p v
  if x.kind=1\/x.kind=2\/x.kind=3 then Av m ⟨1,v,0,⟨#[]⟩⟩
  else if x.kind=4 then
   if RY x.s=true then Eh m 1 else match ac8 x.s env 0 with
    |some (n,i)=>Av m ⟨2,n,i,⟨#[]⟩⟩
    |none=>Av m ⟨3,0,0,x.s⟩
  else if x.kind≠5 then Eh m 1
  else if (Bc p v).2=false then Eh m 1
  else
   let xs:=(Bc p v).1
   let h:=nod p (xs.getD 0 0)
   if h.kind=4/\RY h.s=true then GI (CM p k) p h.s xs env m
   else if xs.length>5 then Eh m 1
   else Av (xs.foldl (fun m x=>CM p k env x m) m) ⟨7,0,(xs.length:Int)-1,⟨#[]⟩⟩
def KJ (p:List Nd)(env:List (List ByteArray))(v:Int)(m:Ms):Ms:=CM p (v.toNat+1) env v m
def LM (s:ByteArray):List Df->Int->Int
 |[],h=>h
 |d::r,h=>if h=0 then LM s r (if kJ d.name s=true then 2 else 0) else h
def PQ (p:List Nd)(s:ByteArray)(names:List ByteArray)(body:List Int)(m:Ms):Ms:=
 Av (DR (KJ p) [names] body true ⟨m.list,m.defs++[⟨s,m.list.length,names.length⟩],LM s m.defs m.how⟩) (inO 8)
def NU:ByteArray:=mk [109,97,105,110]
def Nu (p:List Nd)(v:Int)(m:Ms):Ms:=
 let l:=Bc p v
 if (nod p v).kind=5/\l.2=true/\(nod p (l.1.getD 0 0)).kind=4/\kJ (nod p (l.1.getD 0 0)).s (mk [100,101,102,105,110,101])=true then
  if l.1.length<3\/(nod p (l.1.getD 1 0)).kind≠5 then Eh m 1 else
  let a:=Bc p (l.1.getD 1 0)
  if a.2=false then Eh m 1
  else if nmC p (a.1.getD 0 0)=false then Eh m 1
  else
   let r:=BJ p (a.1.drop 1) m.how
   PQ p (nod p (a.1.getD 0 0)).s r.1 (l.1.drop 2) (Eh m r.2)
 else PQ p NU [] [v] m
def GG (p:List Nd)(n:Int):List Int->Int->Ms->Cd×Int×Int
 |[],_,m=>if AX ⟨p,m.list,m.defs⟩=true then (⟨p,m.list,m.defs⟩,0,n) else (⟨[],[],[]⟩,3,0)
 |x::r,i,m=>
  let m1:=Nu p x m
  if m1.how=3 then (⟨[],[],[]⟩,3,0) else if m1.how≠0 then (⟨[],[],[]⟩,m1.how,i) else GG p n r (i+1) m1
def IV (p:List Nd)(xs:List Int):Cd×Int×Int:=if Af p=true/\Ar p xs=true then GG p xs.length xs 0 ⟨[],[],0⟩ else (⟨[],[],[]⟩,3,0)
end
end Go.Eng
