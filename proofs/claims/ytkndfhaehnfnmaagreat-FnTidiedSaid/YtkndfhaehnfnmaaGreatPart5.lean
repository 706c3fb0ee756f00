/- the program and the reference on plain data, part 5 -/
import Derived.Test.YtkndfhaehnfnmaaGreatPart4
import Derived.Test.YtkndfhaehnfnmaaGreatPart1
import Derived.Test.YtkndfhaehnfnmaaGreatPart2
import Derived.Test.YtkndfhaehnfnmaaGreatEngC
import Derived.Test.YtkndfhaehnfnmaaGreatPart3
/-! compiling: the reference's side: definitions,programs -/
namespace Go.Eng
open Go.Proofs Go.Proofs.Tryz
set_option maxHeartbeats 4000000

theorem afR {R:Type}(x:Df)(K:ByteArray->Option R):(asAgg (eDf x) fun l=>dd l 0 fun y=>asS y fun n=>K n)=K x.name:=rfl
theorem afs {p:List Nd}(s:ByteArray)(names:List ByteArray)(body:List Int){m:Ms}(h:m.list.length<=400):(PQ p s names body m).list.length<=400/\m.list.length<=(PQ p s names body m).list.length/\((PQ p s names body m).how=0->m.list.length<(PQ p s names body m).list.length):=by
 unfold PQ
 have a1:=KH (E:=KJ p) (fun env v m h=>ML p _ env v m h) [names] body true ⟨m.list,m.defs++[⟨s,m.list.length,names.length⟩],LM s m.defs m.how⟩ h
 have a2:=Cx a1.four (inO 8)
 have a3:=a1.len
 have a4:=a2.len
 refine⟨a2.four,by simp only at a3;omega,fun h0=>?_⟩
 have h1:=a2.how h0
 have:(Av (DR (KJ p) [names] body true ⟨m.list,m.defs++[⟨s,m.list.length,names.length⟩],LM s m.defs m.how⟩) (inO 8)).list.length=(DR (KJ p) [names] body true ⟨m.list,m.defs++[⟨s,m.list.length,names.length⟩],LM s m.defs m.how⟩).list.length+1:=by
  unfold Av at h0⊢
  rw[if_pos h1]at h0⊢
  split at h0
  ·simp at h0
  ·rename_i e;rw[if_neg e];simp
 simp only at a3
 omega
theorem af1 {p:List Nd}(hp:Ah p)(hl:p.length<=5000):Tv p p.length (KJ p):=fun env v m hv hlt he hm=>by
 unfold KJ
 exact aec hp (by omega) (v.toNat+1) (by omega) env v m hv (by have:=hv.1;omega) ⟨by have:=he.1;omega,he.2⟩ hm
theorem Wj {p:List Nd}(hp:Ah p)(hl:p.length<=5000){s:ByteArray}{names:List ByteArray}(hn:names.length<=10000){body:List Int}(hbl:body.length<=100000)(hb:∀x∈body,InP p x){m:Ms}(hm:m.list.length<=400)(hd:m.defs.length<=1000000):∀(k i:Nat) (h:Int),i+k=m.defs.length ->
  Dz s (names.map D.str) (body.map eI) (i:Int) h (p.map eN) (m.list.map eIn) (m.defs.map eDf)=some (.tup [],[eMs p (Av (DR (KJ p) [names] body true ⟨m.list,m.defs++[⟨s,m.list.length,names.length⟩],LM s (m.defs.drop i) h⟩) (inO 8))])
 |k,i,h,hi=>by
  have ea:m.defs.map eDf++[D.agg [D.str s,iN (ni (m.list.map eIn).length),iN (ni (names.map D.str).length)]]=(m.defs++[(⟨s,m.list.length,names.length⟩:Df)]).map eDf:=by
   rw[List.map_append,lnM,lnM];rfl
  have hlim:decide (ni ((m.defs++[(⟨s,m.list.length,names.length⟩:Df)]).map eDf).length<=LIM)=true:=decide_eq_true (by rw[qA];simp only[ni,lnM,lnA,lnC,lnN];omega)
  have hG:Nb (KJ p):=fun env v m h=>ML p _ env v m h
  have b1:∀h':Int,V 236 [eMs p ⟨m.list,m.defs++[(⟨s,m.list.length,names.length⟩:Df)],h'⟩,.rs (1,0) (body.map eI),.rs (1,1) [.rs (1,0) (names.map D.str)]]=some (.tup [],[eMs p (DR (KJ p) [names] body true ⟨m.list,m.defs++[(⟨s,m.list.length,names.length⟩:Df)],h'⟩)]):=fun h'=>abs (m:=⟨m.list,m.defs++[(⟨s,m.list.length,names.length⟩:Df)],h'⟩) hG (af1 hp hl) (env:=[names]) ⟨by simp;omega,fun e he=>by rw[List.mem_singleton.1 he];exact hn⟩ hbl (fun x h=>⟨hb x h,(hb x h).2⟩) hm
  have b2:=fun h':Int=>GP (p:=p) (KH hG [names] body true ⟨m.list,m.defs++[(⟨s,m.list.length,names.length⟩:Df)],h'⟩ hm).four 8 0 0
  rw[Pc,ea]
  match k with
  |0=>
   rw[yp (by rw[lnM];exact zI (by omega)),List.drop_of_length_le (by omega),LM,zJ hlim,zO,KR (b1 h),AR (b2 h)]
  |k+1=>
   obtain⟨d,hg⟩:=yM (l:=m.defs) (i:=i) (by omega)
   rw[y6 (by rw[lnM];exact zN (by omega)),vc hg,LM]
   by_cases h0:h=0
   ·have ih:=fun h'=>Wj hp hl (s:=s) hn hbl hb hm hd k (i+1) h' (by omega)
    rw[y6 (zU h0),if_pos h0,zJ (by rw[lnM];exact zM (by omega)),Int.toNat_natCast,zj hg,afR,z6 (by omega),ih,ih,h0]
    cases kJ d.name s with
    |true=>rw[zy,if_pos rfl]
    |false=>rw[y0,if_neg (by decide)]
   ·rw[yp (zT h0),if_neg h0,zJ hlim,zO,KR (b1 h),AR (b2 h)]
 termination_by k=>k
theorem afh {p:List Nd}(hp:Ah p)(hl:p.length<=5000)(s:ByteArray){names:List ByteArray}(hn:names.length<=10000){body:List Int}(hbl:body.length<=100000)(hb:∀x∈body,InP p x){m:Ms}(hm:m.list.length<=400)(hd:m.defs.length<=1000000):V 229 [eMs p m,.str s,.rs (1,0) (names.map D.str),.rs (1,0) (body.map eI)]=some (.tup [],[eMs p (PQ p s names body m)]):=by
 have h:=Wj hp hl (s:=s) hn hbl hb hm hd m.defs.length 0 m.how (by omega)
 rw[Uc]
 rw[Int.natCast_zero,List.drop_zero]at h
 exact h
theorem adX (l:List Int)(k:Nat)(K:Int)(hK:K.toNat=k):part (l.map eI) (some (K.toNat,(l.map eI).length-K.toNat))=(l.drop k).map eI:=by
 rw[hK]
 simp only[part]
 rw[<-List.map_drop]
 exact List.take_of_length_le (by simp)
theorem af5 {p:List Nd}(hp:Ah p)(hl:p.length<=5000){v:Int}(hv:InP p v){m:Ms}(hm:m.list.length<=400)(hd:m.defs.length<=1000000):V 215 [eMs p m,iN v]=some (.tup [],[eMs p (Nu p v m)]):=by
 have dm:V 229 [eMs p m,.str ⟨#[109,97,105,110]⟩,.rs (1,0) [],.rs (1,0) [iN v]]=some (.tup [],[eMs p (PQ p NU [] [v] m)]):=afh hp hl NU (names:=[]) (by simp) (body:=[v]) (by simp) (fun x h=>by rw[List.mem_singleton.1 h];exact hv) hm hd
 rw[Zw,Nj hv]
 unfold Nu
 simp only
 by_cases k5:(nod p v).kind=5
 ·have b1:=Ki hp (by omega) hv
  rw[y6 (zU k5),FP b1]
  cases hb:(Bc p v).2 with
  |false=>rw[if_neg (by decide:¬false=true),Bool.not_false,zy,FQ dm,if_neg (fun h=>by simp at h)]
  |true=>
   have ll:=QK (p:=p) v
   have hne:=Yk k5
   have hin:=KO hp hv
   rw[if_pos (rfl:true=true),Bool.not_true,y0]
   generalize hxs:(Bc p v).1=xs at ll hne hin⊢
   obtain⟨a,r,rfl⟩:∃a r,xs=a::r:=by
    cases xs with
    |nil=>exact absurd rfl hne
    |cons a r=>exact⟨a,r,rfl⟩
   have ha:=hin a (by simp)
   have e2:=agN (R:=Ret) (nod p a)
   rw[BQ,Nj ha]
   simp only[List.getD_cons_zero]
   by_cases k4:(nod p a).kind=4
   ·rw[yp (zW k4),BQ,zJ (Wu ha),zj (MQ ha),e2]
    by_cases hs:kJ (nod p a).s (mk [100,101,102,105,110,101])=true
    ·have hs':kJ (nod p a).s ⟨#[100,101,102,105,110,101]⟩=true:=hs
     rw[hs',Bool.not_true,y0,if_pos ⟨k5,trivial,k4,hs⟩]
     by_cases h3:(a::r).length<3
     ·rw[y6 (decide_eq_true (by rw[lnM];simp only[ni];omega)),if_pos (.inl h3)];rfl
     ·rw[yp (decide_eq_false (by rw[lnM];simp only[ni];omega))]
      obtain⟨b,c,r,rfl⟩:∃b c r',r=b::c::r':=by
       match r,h3 with
       |b::c::r',_=>exact⟨b,c,r',rfl⟩
       |[],h=>simp at h
       |[_],h=>simp at h
      have hb1:=hin b (by simp)
      rw[GK,Nj hb1]
      simp only[List.getD_cons_succ,List.getD_cons_zero]
      by_cases kb:(nod p b).kind=5
      ·have b2:=Ki hp (by omega) hb1
       rw[yp (zW kb),GK,if_neg (fun h=>h.elim h3 (fun h=>h kb)),FP b2]
       cases hbb:(Bc p b).2 with
       |false=>rw[if_neg (by decide:¬false=true),Bool.not_false,zy,if_pos rfl];rfl
       |true=>
        have l2:=QK (p:=p) b
        have n2:=Yk kb
        have i2:=KO hp hb1
        rw[if_pos (rfl:true=true),Bool.not_true,y0,if_neg (by decide:¬true=false)]
        generalize hys:(Bc p b).1=ys at l2 n2 i2⊢
        obtain⟨f,q,rfl⟩:∃f q,ys=f::q:=by
         cases ys with
         |nil=>exact absurd rfl n2
         |cons f q=>exact⟨f,q,rfl⟩
        have hf:=i2 f (by simp)
        have bn:=aeg (p:=p) m hf
        rw[BQ,Sj bn]
        simp only[List.getD_cons_zero]
        cases hnm:nmC p f with
        |false=>rw[Bool.not_false,zy,if_pos rfl];rfl
        |true=>
         have hq:∀x∈(f::q).drop 1,InP p x:=fun x h=>i2 x (List.mem_of_mem_drop h)
         have hql:((f::q).drop 1).length<=5001:=by have:=hb1.2;rw[List.length_drop];omega
         obtain⟨b3,b4⟩:=YM (p:=p) m (xs:=(f::q).drop 1) (by omega) hq
         have bd:=afh hp hl (nod p f).s (names:=(BJ p ((f::q).drop 1) m.how).1) (by omega) (body:=(a::b::c::r).drop 2) (by have:=hv.2;rw[List.length_drop];omega) (fun x h=>hin x (List.mem_of_mem_drop h)) (m:=Eh m (BJ p ((f::q).drop 1) m.how).2) hm hd
         rw[Bool.not_true,y0,if_neg (by decide:¬true=false),zJ (by simp[df];omega),adX _ 1 1 rfl,MU b3,zJ (by simp[df];omega),adX _ 2 2 rfl,FQ bd]
      ·rw[y6 (zX kb),if_pos (.inr kb)];rfl
    ·have hs':kJ (nod p a).s ⟨#[100,101,102,105,110,101]⟩=false:=by cases e:kJ (nod p a).s ⟨#[100,101,102,105,110,101]⟩ with|true=>exact absurd e hs|false=>rfl
     rw[hs',Bool.not_false,zy,FQ dm,if_neg (fun h=>hs h.2.2.2)]
   ·rw[y6 (zX k4),FQ dm,if_neg (fun h=>k4 h.2.2.1)]
 ·rw[yp (zT k5),FQ dm,if_neg (fun h=>k5 h.1)]
end Go.Eng
/-! compiling: the reference's side: whole programs -/
namespace Go.Eng
noncomputable section
open Go.Proofs Go.Proofs.Tryz
set_option maxHeartbeats 4000000

structure LeD (m m':Ms):Prop where
 len:m.list.length<=m'.list.length
 four:m'.list.length<=400
 grew:m'.how=0->m.list.length<m'.list.length
 defs:m'.defs.length<=m.defs.length+1
theorem abG {p:List Nd}(s:ByteArray)(names:List ByteArray)(body:List Int){m:Ms}(h:m.list.length<=400):LeD m (PQ p s names body m):=by
 obtain⟨h1,h2,h3⟩:=afs (p:=p) s names body h
 refine⟨h2,h1,h3,?_⟩
 unfold PQ
 have a1:=KH (E:=KJ p) (fun env v m h=>ML p _ env v m h) [names] body true ⟨m.list,m.defs++[⟨s,m.list.length,names.length⟩],LM s m.defs m.how⟩ h
 rw[(Cx a1.four (inO 8)).defs,a1.defs]
 simp
theorem aea {p:List Nd}{v:Int}{m:Ms}(h:m.list.length<=400):LeD m (Nu p v m):=by
 unfold Nu
 simp only
 split
 ·split
  ·exact⟨Nat.le_refl _,h,fun h=>by simp[Eh]at h,Nat.le_succ _⟩
  ·split
   ·exact⟨Nat.le_refl _,h,fun h=>by simp[Eh]at h,Nat.le_succ _⟩
   ·split
    ·exact⟨Nat.le_refl _,h,fun h=>by simp[Eh]at h,Nat.le_succ _⟩
    ·have h2:(Eh m (BJ p (List.drop 1 (Bc p ((Bc p v).1.getD 1 0)).1) m.how).2).list.length<=400:=h
     have:=abG (p:=p) (nod p ((Bc p ((Bc p v).1.getD 1 0)).1.getD 0 0)).s (BJ p (List.drop 1 (Bc p ((Bc p v).1.getD 1 0)).1) m.how).1 (List.drop 2 (Bc p v).1) h2
     exact⟨this.len,this.four,this.grew,this.defs⟩
 ·exact abG _ _ _ h
def PM (l:List In):Prop:=∀x∈l,x.s.size<4611686018427387904
def acd (E:List (List ByteArray)->Int->Ms->Ms):Prop:=∀env v (m:Ms),PM m.list->PM (E env v m).list
theorem DE {m:Ms}(h:PM m.list){x:In}(hx:x.s.size<4611686018427387904):PM (Av m x).list:=by
 unfold Av
 split
 ·split
  ·exact h
  ·intro y hy
   rcases List.mem_append.1 hy with hy|hy
   ·exact h y hy
   ·rw[List.mem_singleton.1 hy];exact hx
 ·exact h
theorem Jk:(⟨#[]⟩:ByteArray).size<4611686018427387904:=by decide
theorem YH {m:Ms}(h:PM m.list)(k:Int):PM (toC m k).list:=by
 unfold toC
 split
 ·intro y hy
  rcases List.mem_or_eq_of_mem_set hy with hy|rfl
  ·exact h y hy
  ·simp only
   rw[List.getD_eq_getElem?_getD]
   cases hg:m.list[k.toNat]? with
   |none=>exact Jk
   |some x=>exact h x (List.mem_of_getElem? hg)
 ·exact h
theorem Qm {E}(hE:acd E)(env:List (List ByteArray)):∀(xs:List Int) (f:Bool) (m:Ms),PM m.list->PM (DR E env xs f m).list
 |[],f,m,h=>h
 |x::r,f,m,h=>by
  unfold DR
  split
  ·refine Qm hE env r false _ (hE env x _ ?_)
   split
   ·exact h
   ·exact DE h Jk
  ·exact h
theorem abO {E}(hE:acd E)(names:List ByteArray)(body:List Int)(env:List (List ByteArray)){m:Ms}(h:PM m.list):PM (S9 E names body env m).list:=by
 unfold S9
 exact YH (DE (Qm hE _ _ _ _ (YH (DE (DE h Jk) Jk) _)) Jk) _
theorem adH {E}(hE:acd E)(p:List Nd)(s:ByteArray)(xs:List Int)(env:List (List ByteArray)){m:Ms}(h:PM m.list):PM (GI E p s xs env m).list:=by
 unfold GI
 simp only
 split
 ·exact DE h Jk
 split
 ·exact YH (hE _ _ _ (YH (DE (hE _ _ _ (DE (hE _ _ _ h) Jk)) Jk) _)) _
 split
 ·exact Qm hE _ _ _ _ h
 split
 ·split
  ·exact h
  ·exact abO hE _ _ _ h
 split
 ·refine DE (hE _ _ _ (abO hE _ _ _ ?_)) ?_
  ·exact h
  ·exact Jk
 ·exact h
theorem ZF {E}(hE:acd E)(env:List (List ByteArray)):∀(xs:List Int) (m:Ms),PM m.list->PM (xs.foldl (fun m x=>E env x m) m).list
 |[],_,h=>h
 |x::r,m,h=>ZF hE env r _ (hE env x m h)
theorem abW {p:List Nd}(hf:Du p)(v:Int):(nod p v).s.size<4611686018427387904:=by
 unfold nod
 rw[List.getD_eq_getElem?_getD]
 cases hg:p[v.toNat]? with
 |none=>exact Jk
 |some x=>exact hf x (List.mem_of_getElem? hg)
theorem Ug {p:List Nd}(hf:Du p):∀k,acd (CM p k)
 |0,env,v,m,h=>h
 |k+1,env,v,m,h=>by
  unfold CM
  split
  ·exact h
  simp only
  split
  ·exact DE h Jk
  split
  ·split
   ·exact h
   ·split
    ·exact DE h Jk
    ·exact DE h (abW hf v)
  split
  ·exact h
  split
  ·exact h
  split
  ·exact adH (Ug hf k) p _ _ env h
  split
  ·exact h
  ·exact DE (ZF (Ug hf k) env _ m h) Jk
def aaL (m:Ms):Prop:=PM m.list/\∀x∈m.defs,x.name.size<4611686018427387904
theorem abH {p:List Nd}(hf:Du p){s:ByteArray}(hs:s.size<4611686018427387904)(names:List ByteArray)(body:List Int){m:Ms}(hm:m.list.length<=400)(h:aaL m):aaL (PQ p s names body m):=by
 have hE:acd (KJ p):=fun env v m h=>Ug hf _ env v m h
 have hG:Nb (KJ p):=fun env v m h=>ML p _ env v m h
 unfold PQ
 refine⟨?_,?_⟩
 ·refine DE (Qm hE _ _ _ _ ?_) ?_
  ·exact h.1
  ·exact Jk
 have a1:=KH hG [names] body true ⟨m.list,m.defs++[⟨s,m.list.length,names.length⟩],LM s m.defs m.how⟩ hm
 rw[(Cx a1.four (inO 8)).defs,a1.defs]
 intro x hx
 rcases List.mem_append.1 hx with hx|hx
 ·exact h.2 x hx
 ·rw[List.mem_singleton.1 hx];exact hs
theorem ab5 {p:List Nd}(hf:Du p){v:Int}{m:Ms}(hm:m.list.length<=400)(h:aaL m):aaL (Nu p v m):=by
 unfold Nu
 simp only
 split
 ·split
  ·exact h
  ·split
   ·exact h
   ·split
    ·exact h
    ·exact abH hf (abW hf _) _ _ hm h
 ·exact abH hf (by decide) _ _ hm h
abbrev We (r:Cd×Int×Int):Option Ret:=some (.tup [oCd r.1,iN r.2.1,iN r.2.2],[])
theorem Wh {p:List Nd}(hp:Ah p)(hf:Du p)(hl:p.length<=5000){xs:List Int}(hxl:xs.length<=1000000)(hx:∀x∈xs,InP p x):∀(k i:Nat) (m:Ms),i+k=xs.length->m.list.length<=400->m.defs.length<=i->aaL m ->
  DV (xs.map eI) (i:Int) m.how (p.map eN) (m.list.map eIn) (m.defs.map eDf)=We (GG p xs.length (xs.drop i) i m)
 |0,i,m,hi,hm,hd,hs=>by
  have hfc:FitsC ⟨p,m.list,m.defs⟩:=⟨hf,by show p.length<_;omega,hs.1,by show m.list.length<_;omega,hs.2,by show m.defs.length<_;omega⟩
  have hok:=IJ hfc
  rw[Ef,yp (by rw[lnM];exact zI (by omega)),Sg hok,List.drop_of_length_le (by omega),GG,lnM]
  cases AX ⟨p,m.list,m.defs⟩ with
  |false=>rw[Bool.not_false,zy,if_neg (by decide)];rfl
  |true=>rw[Bool.not_true,y0,if_pos rfl]
 |k+1,i,m,hi,hm,hd,hs=>by
  obtain⟨x,hg⟩:=yM (l:=xs) (i:=i) (by omega)
  have ht:=af5 hp hl (hx x (List.mem_of_getElem? hg)) hm (by omega)
  have le:=aea (p:=p) (v:=x) hm
  have ih:=Wh hp hf hl hxl hx k (i+1) (Nu p x m) (by omega) le.four (by have:=le.defs;omega) (ab5 hf hm hs)
  rw[Ef,y6 (by rw[lnM];exact zN (by omega)),zJ (by rw[lnM];exact zM (by omega)),Int.toNat_natCast,zj hg,zq,abm ht,vc hg,GG,z6 (by omega),ih]
  by_cases h3:(Nu p x m).how=3
  ·rw[y6 (zU h3),if_pos h3];rfl
  ·rw[yp (zT h3),if_neg h3]
   by_cases h0:(Nu p x m).how=0
   ·rw[yp (zW h0),if_neg (fun h=>h h0)];rfl
   ·rw[y6 (zX h0),if_pos h0];rfl
theorem aaR {p:List Nd}(hp:Ah p)(hf:Du p)(hl:p.length<=5000){xs:List Int}(hxl:xs.length<=1000000)(hx:∀x∈xs,InP p x):GX (xs.map eI) 0 0 (p.map eN)=We (GG p xs.length xs 0 ⟨[],[],0⟩):=by
 have hs:aaL ⟨[],[],0⟩:=⟨fun x h=>by simp at h,fun x h=>by simp at h⟩
 have h:=Wh hp hf hl hxl hx xs.length 0 ⟨[],[],0⟩ (by omega) (by simp) (by simp) hs
 rw[Int.natCast_zero,List.drop_zero]at h
 rw[<-h,Pa,Ef]
 rfl
theorem ZH {p:List Nd}(hp:Ah p)(hf:Du p)(hl:p.length<=4999){xs:List Int}(hxl:xs.length<=1000000):∀(k i:Nat),i+k=xs.length->(∀x∈xs.take i,wi x 0 ((p.length:Int)-1)=true) ->
  Gb (xs.map eI) (i:Int) (p.map eN)=We (if Ar p (xs.drop i)=true then GG p xs.length xs 0 ⟨[],[],0⟩ else (⟨[],[],[]⟩,3,0))
 |0,i,hi,ht=>by
  have hx:∀x∈xs,InP p x:=fun x h=>by
   have:=wi_iff.1 (ht x (by rw[List.take_of_length_le (by omega)];exact h))
   exact⟨this.1,by omega⟩
  have hcp:=Vg (p:=p) (by omega)
  rw[JN,yp (by rw[lnM];exact zI (by omega)),AQ hcp,aaR hp hf (by omega) hxl hx,List.drop_of_length_le (by omega),if_pos (by rfl)]
 |k+1,i,hi,ht=>by
  obtain⟨x,hg⟩:=yM (l:=xs) (i:=i) (by omega)
  rw[JN,y6 (by rw[lnM];exact zN (by omega)),zJ (by rw[lnM];exact zM (by omega)),Int.toNat_natCast,zj hg,zq,Qd (KV (by omega) x),vc hg,z6 (by omega)]
  have er:Ar p (x::xs.drop (i+1))=(wi x 0 ((p.length:Int)-1)&&Ar p (xs.drop (i+1))):=rfl
  rw[er]
  cases hw:wi x 0 ((p.length:Int)-1) with
  |false=>rw[Bool.not_false,zy,Bool.false_and,if_neg (by decide)];rfl
  |true=>
   have ih:=ZH hp hf hl hxl k (i+1) (by omega) (fun y hy=>by
    rw[List.take_add_one,hg]at hy
    rcases List.mem_append.1 hy with hy|hy
    ·exact ht y hy
    ·simp at hy;rw[hy];exact hw)
   rw[Bool.not_true,y0,Bool.true_and,ih]
theorem OQ {p:List Nd}(hf:Du p)(hl:p.length<4611686018427387904){xs:List Int}(hxl:xs.length<=1000000):V 193 [eP p,.rs (1,0) (xs.map eI)]=We (IV p xs):=by
 rw[Vw,Gj (Dt hf hl)]
 unfold IV
 cases h:Af p with
 |false=>rw[Bool.not_false,zy,if_neg (by simp)];rfl
 |true=>
  obtain⟨h1,h2⟩:=okPool_iff.1 h
  have hh:=ZH h1 hf (by omega) hxl xs.length 0 (by omega) (by simp)
  rw[Int.natCast_zero,List.drop_zero]at hh
  rw[Bool.not_true,y0,hh]
  by_cases hr:Ar p xs=true
  ·rw[if_pos hr,if_pos ⟨rfl,hr⟩]
  ·rw[if_neg hr,if_neg (fun h=>hr h.2)]
end
end Go.Eng
/-! the functions as the interpreter has them -/
/-! what is drawn: the cursor -/
namespace Go.Eng
noncomputable section
open Go.Proofs Go.Proofs.Tryz

def eB (x:Int):D:=.int .u8 x
abbrev eC (b:List Int)(c:Int×Int):D:=.op [.rs (1,0) (b.map eB),iN c.1,iN c.2]
def BU (b:List Int)(c:Int×Int):Prop:=0<=c.1/\c.1<=b.length
theorem Xh (x:Int):0<=w6 (ni (BitVec.toNat (BitVec.ofInt (IntKind.bits IntKind.i64) x &&& BitVec.ofInt (IntKind.bits IntKind.i64) 255)))/\w6 (ni (BitVec.toNat (BitVec.ofInt (IntKind.bits IntKind.i64) x &&& BitVec.ofInt (IntKind.bits IntKind.i64) 255)))<=255:=by
 have h:BitVec.toNat (BitVec.ofInt (IntKind.bits IntKind.i64) x &&& BitVec.ofInt (IntKind.bits IntKind.i64) 255)<=255:=by
  rw[BitVec.toNat_and]
  exact Nat.le_trans Nat.and_le_right (by decide)
 rw[w64 (by simp only[ni];omega) (by simp only[ni];omega)]
 simp only[ni];omega

section
variable {b:List Int}{c:Int×Int}
theorem Nw (hb:b.length<4611686018427387904)(h:BU b c):∃v c',V 143 [eC b c]=some (iN v,[eC b c'])/\BU b c'/\0<=v/\v<=255:=by
 obtain⟨h1,h2⟩:=h
 rw[XF,zJ (by decide),zJ (by decide)]
 by_cases hi:c.1<b.length
 ·obtain⟨k,hk⟩:=Int.eq_ofNat_of_zero_le h1
  obtain⟨x,hx⟩:=yM (l:=b) (i:=k) (by omega)
  rw[hk]
  rw[y6 (by rw[lnM];exact zN (by omega)),zJ (by rw[lnM];exact zM (by omega)),Int.toNat_natCast,zj hx]
  unfold eB
  rw[zq]
  refine⟨_,(_,_),rfl,⟨?_,?_⟩,(Xh _).1,(Xh _).2⟩
  ·show 0<=w6 ((k:Int)+1)
   rw[w64 (by omega) (by omega)];omega
  ·show w6 ((k:Int)+1)<=_
   rw[w64 (by omega) (by omega)];omega
 ·rw[yp (decide_eq_false (by simp only[ni,lnM];omega))]
  exact⟨_,(c.1,w6 (w6 (c.2*6364136223846793005)+1442695040888963407)),rfl,⟨h1,h2⟩,(Xh _).1,(Xh _).2⟩

theorem Rt (hb:b.length<4611686018427387904)(h:BU b c)(n:Int):∃v c',V 76 [eC b c,iN n]=some (iN v,[eC b c'])/\BU b c'/\0<=v/\(0<n->v<n):=by
 rw[Vx]
 by_cases hn:n<=0
 ·rw[y6 (by simpa using hn)]
  exact⟨_,c,rfl,h,by omega,by omega⟩
 rw[yp (by simpa using hn)]
 by_cases h256:n<=256
 ·rw[y6 (by simpa using h256)]
  obtain⟨v,c1,hv,h1,hv1,hv2⟩:=Nw hb h
  rw[I8 hv]
  try simp only[zq,yZ,zw,zt,zu,yK,yL,zr,zn,zF,zO]
  rw[zJ (by simp;omega)]
  exact⟨_,c1,rfl,h1,Int.tmod_nonneg _ hv1,fun _=>Int.tmod_lt_of_pos _ (by omega)⟩
 ·rw[yp (by simpa using h256)]
  obtain⟨v1,c1,hv1,a1,b1⟩:=Nw hb h
  obtain⟨v2,c2,hv2,a2,b2⟩:=Nw hb a1
  obtain⟨v3,c3,hv3,a3,b3⟩:=Nw hb a2
  obtain⟨v4,c4,hv4,a4,b4⟩:=Nw hb a3
  rw[I8 hv1,I8 hv2,I8 hv3,I8 hv4]
  try simp only[zq,yZ,zw,zt,zu,yK,yL,zr,zn,zF,zO]
  rw[zJ (by simp;omega)]
  refine⟨_,c4,rfl,a4,Int.tmod_nonneg _ ?_,fun _=>Int.tmod_lt_of_pos _ (by omega)⟩
  rw[w64 (n:=v1*16777216) (by omega) (by omega),w64 (n:=v2*65536) (by omega) (by omega),w64 (n:=v3*256) (by omega) (by omega)]
  rw[w64 (n:=v1*16777216+v2*65536) (by omega) (by omega),w64 (n:=v1*16777216+v2*65536+v3*256) (by omega) (by omega),w64 (by omega) (by omega)]
  omega

theorem Za (hb:b.length<4611686018427387904)(h:BU b c){l:List Int}(hl:0<l.length):∃v c',V 122 [eC b c,.rs (1,0) (l.map (D.int .i64))]=some (iN v,[eC b c'])/\BU b c'/\v∈l:=by
 obtain⟨v,c1,hv,a1,b1,b2⟩:=Rt hb h (ni (l.map (D.int .i64)).length)
 rw[SQ,QR hv]
 try simp only[zq,yZ,zw,zt,zu,yK,yL,zr,zn,zF,zO]
 simp only[ni,lnM]at b2
 obtain⟨k,rfl⟩:=Int.eq_ofNat_of_zero_le b1
 have hk:k<l.length:=by have:=b2 (by omega);omega
 obtain⟨x,hx⟩:=yM hk
 rw[zJ (by rw[lnM];exact zM hk),Int.toNat_natCast,zj hx,zq]
 exact⟨_,c1,rfl,a1,List.mem_of_getElem? hx⟩

theorem adw (hb:b.length<4611686018427387904)(h:BU b c){l:List ByteArray}(hl:0<l.length):∃v c',V 75 [eC b c,.rs (1,0) (l.map D.str)]=some (.str v,[eC b c'])/\BU b c'/\v∈l:=by
 obtain⟨v,c1,hv,a1,b1,b2⟩:=Rt hb h (ni (l.map D.str).length)
 rw[XH,QR hv]
 try simp only[zq,yZ,zw,zt,zu,yK,yL,zr,zn,zF,zO]
 simp only[ni,lnM]at b2
 obtain⟨k,rfl⟩:=Int.eq_ofNat_of_zero_le b1
 have hk:k<l.length:=by have:=b2 (by omega);omega
 obtain⟨x,hx⟩:=yM hk
 rw[zJ (by rw[lnM];exact zM hk),Int.toNat_natCast,zj hx,zw]
 exact⟨_,c1,rfl,a1,List.mem_of_getElem? hx⟩

theorem ZU (hb:b.length<4611686018427387904):∀(k i:Nat) (h:Int),i+k=b.length->∃h',Iq (b.map eB) h (i:Int)=some (eC b (0,h'),[])
 |0,i,h,hi=>by
  rw[Lx,yp (by rw[lnM];exact zI (by omega))]
  exact⟨_,rfl⟩
 |k+1,i,h,hi=>by
  obtain⟨x,hx⟩:=yM (l:=b) (i:=i) (by omega)
  rw[Lx,y6 (by rw[lnM];exact zN (by omega)),zJ (by rw[lnM];exact zM (by omega)),Int.toNat_natCast,zj hx]
  cases h4:decide ((i:Int)<4000) with
  |false=>exact⟨_,rfl⟩
  |true=>
   unfold eB
   rw[zy,zq,z6 (by omega)]
   exact ZU hb k (i+1) _ (by omega)
theorem aev (hb:b.length<4611686018427387904):∃c,V 51 [.rs (1,0) (b.map eB)]=some (eC b c,[])/\BU b c:=by
 rw[Zp]
 obtain⟨h',he⟩:=ZU hb b.length 0 (w6 (17000+ni (List.length (b.map eB)))) (by omega)
 exact⟨(0,h'),he,Int.le_refl _,Int.natCast_nonneg _⟩
end
theorem af4 (b:List Int):V 12 [.rs (1,0) (b.map eB)]=some (.bool (decide ((b.length:Int)>1048576)),[]):=by
 rw[aco,lnM]
end
end Go.Eng
/-! draws: what is drawn fits,and the cursor goes on -/
namespace Go.Eng
noncomputable section
open Go.Proofs Go.Proofs.Tryz

def Got (P:D->List D->Prop)(r:Option Ret):Prop:=∃v l,r=some (v,l)/\P v l
theorem acs {r s:Option Ret}(h:r=s)(P:D->List D->Prop):Got P r=Got P s:=by rw[h]
attribute [congr] acs
section
variable {P Q:D->List D->Prop}
theorem adK {v:D}{l:List D}(h:P v l):Got P (some (v,l)):=⟨v,l,rfl,h⟩
theorem Au {b:Bool}{x y:Option Ret}(h1:b=true->Got P x)(h2:b=false->Got P y):Got P (br b x y):=by
 cases b with
 |true=>exact h1 rfl
 |false=>exact h2 rfl
theorem DW {b:Bool}{x:Option Ret}(h:b=true)(h1:Got P x):Got P (grd b x):=by rw[zJ h];exact h1
theorem QE {v:D}{l:List D}{f:Nat}{ds:List D}{K:D->List D->Option Ret}(h:V f ds=some (v,l))(h2:Got P (K v l)):Got P (jy V f ds K):=by
 rw[yx h];exact h2
end
abbrev FG (b:List Int)(Q:D->Prop):Option Ret->Prop:=Got (fun v l=>∃c',l=[eC b c']/\BU b c'/\Q v)
section
variable {b:List Int}{Q:D->Prop}{P:D->List D->Prop}
theorem z9 {f:Nat}{ds:List D}{K:D->List D->Option Ret}(h:FG b Q (V f ds))(h2:∀v c',BU b c'->Q v->Got P (K v [eC b c'])):Got P (jy V f ds K):=by
 obtain⟨v,l,e,c',rfl,hc,hq⟩:=h
 rw[yx e];exact h2 v c' hc hq
theorem Aa {v:D}{c':Int×Int}(h:BU b c')(hq:Q v):FG b Q (some (v,[eC b c'])):=⟨v,_,rfl,c',rfl,h,hq⟩
theorem Rv {Q':D->Prop}{r:Option Ret}(h:FG b Q r)(h2:∀v,Q v->Q' v):FG b Q' r:=by
 obtain⟨v,l,e,c',e2,hc,hq⟩:=h
 exact⟨v,l,e,c',e2,hc,h2 v hq⟩
end
theorem J5:(⟨#[]⟩:ByteArray).size<=100:=by decide
def afM (n:Int)(v:D):Prop:=∃m:Int,v=iN m/\0<=m/\(0<n->m<n)
def IsB (v:D):Prop:=∃m:Bool,v=.bool m
section
variable {b:List Int}{c:Int×Int}
theorem Ap (hb:b.length<4611686018427387904)(h:BU b c)(n:Int):FG b (afM n) (V 76 [eC b c,iN n]):=by
 obtain⟨v,c',e,h1,h2,h3⟩:=Rt hb h n
 exact⟨_,_,e,c',rfl,h1,v,rfl,h2,h3⟩
theorem MI (hb:b.length<4611686018427387904)(h:BU b c)(n:Int):FG b IsB (V 155 [eC b c,iN n]):=by
 rw[XG]
 refine z9 (Ap hb h n) fun v c1 a1 ⟨m,e,_⟩=>?_
 subst e
 simp (disch:=first|omega|(simp only[lnA,lnC,lnN,lnM,z8,yj];omega)) only[↓zF,↓zn,↓zq,↓zu,↓zr]
 exact Aa a1 ⟨_,rfl⟩
theorem JV (hb:b.length<4611686018427387904)(h:BU b c)(l:List Int)(hl:0<l.length):FG b (fun v=>∃m:Int,v=iN m/\m∈l) (V 122 [eC b c,.rs (1,0) (l.map (D.int .i64))]):=by
 obtain⟨v,c',e,h1,h2⟩:=Za hb h hl
 exact⟨_,_,e,c',rfl,h1,v,rfl,h2⟩
theorem KI (hb:b.length<4611686018427387904)(h:BU b c)(l:List ByteArray)(hl:0<l.length):FG b (fun v=>∃m:ByteArray,v=.str m/\m∈l) (V 75 [eC b c,.rs (1,0) (l.map D.str)]):=by
 obtain⟨v,c',e,h1,h2⟩:=adw hb h hl
 exact⟨_,_,e,c',rfl,h1,v,rfl,h2⟩

def aen (v:D):Prop:=∃x:Nd,v=eN x/\x.s.size<=100
theorem abJ (hb:b.length<4611686018427387904)(h:BU b c):FG b aen (V 201 [eC b c]):=by
 rw[RE]
 refine z9 (Ap hb h _) fun v c1 a1 ⟨m,e,m0,m1⟩=>?_
 subst e
 simp (disch:=first|omega|(simp only[lnA,lnC,lnN,lnM,z8,yj];omega)) only[↓zF,↓zn,↓zq,↓zu,↓zr]
 refine Au (fun _=>Aa a1 ⟨⟨_,_,_,_,_⟩,rfl,J5⟩) fun _=>Au (fun _=>?_) fun _=>Au (fun _=>?_) fun _=>Au (fun _=>?_) fun _=>Au (fun _=>?_) fun _=>?_
 ·refine z9 (Ap hb a1 _) fun v c2 a2 ⟨m,e,m0,m1⟩=>?_
  subst e
  simp (disch:=first|omega|(simp only[lnA,lnC,lnN,lnM,z8,yj];omega)) only[↓zF,↓zn,↓zq,↓zu,↓zr]
  exact Aa a2 ⟨⟨_,_,_,_,_⟩,rfl,J5⟩
 ·refine z9 (KI hb a1 [⟨#[97]⟩,⟨#[98,99]⟩,⟨#[120]⟩,⟨#[102]⟩,⟨#[43]⟩,⟨#[108,105,115,116]⟩] (by simp)) fun v c2 a2 ⟨m,e,hm⟩=>?_
  subst e
  simp (disch:=first|omega|(simp only[lnA,lnC,lnN,lnM,z8,yj];omega)) only[↓zF,↓zn,↓zq,↓zw,↓zu,↓zr]
  refine Aa a2 ⟨⟨_,_,m,_,_⟩,rfl,?_⟩
  simp only[List.mem_cons,List.not_mem_nil,or_false]at hm
  rcases hm with rfl|rfl|rfl|rfl|rfl|rfl<;>decide
 all_goals
  refine z9 (Ap hb a1 _) fun v c2 a2 ⟨m,e,m0,m1⟩=>?_
  subst e
  simp (disch:=first|omega|(simp only[lnA,lnC,lnN,lnM,z8,yj];omega)) only[↓zF,↓zn,↓zq,↓zu,↓zr]
  exact Aa a2 ⟨⟨_,_,_,_,_⟩,rfl,J5⟩
theorem abM (hb:b.length<4611686018427387904)(h:BU b c)(n:Int):FG b aen (V 197 [eC b c,iN n]):=by
 have hat:∀{c:Int×Int},BU b c->FG b aen (V 201 [eC b c]):=fun h=>abJ hb h
 rw[RF]
 refine Au (fun _=>?_) fun _=>?_
 ·refine z9 (hat h) fun v c1 a1 ⟨x,e,hx⟩=>?_
  subst e
  simp (disch:=first|omega|(simp only[lnA,lnC,lnN,lnM,z8,yj];omega)) only[↓zF,↓zn,↓zq,↓zw,↓zu,↓yK,↓zr]
  exact Aa a1 ⟨x,rfl,hx⟩
 refine z9 (MI hb h 2) fun v c1 a1 ⟨o,e⟩=>?_
 subst e
 simp (disch:=first|omega|(simp only[lnA,lnC,lnN,lnM,z8,yj];omega)) only[↓zF,↓zn,↓zq,↓yZ,↓zu,↓zr]
 refine Au (fun _=>?_) fun _=>?_
 ·refine z9 (hat a1) fun v c1 a1 ⟨x,e,hx⟩=>?_
  subst e
  simp (disch:=first|omega|(simp only[lnA,lnC,lnN,lnM,z8,yj];omega)) only[↓zF,↓zn,↓zq,↓zw,↓zu,↓yK,↓zr]
  exact Aa a1 ⟨x,rfl,hx⟩
 refine QE (YK _ _) ?_
 simp (disch:=first|omega|(simp only[lnA,lnC,lnN,lnM,z8,yj];omega)) only[↓zF,↓zq]
 refine z9 (Ap hb a1 _) fun v c2 a2 ⟨m,e,m0,m1⟩=>?_
 subst e
 simp (disch:=first|omega|(simp only[lnA,lnC,lnN,lnM,z8,yj];omega)) only[↓zF,↓zn,↓zq,↓zu,↓zr]
 refine z9 (Ap hb a2 _) fun v c3 a3 ⟨m3,e,_,_⟩=>?_
 subst e
 simp (disch:=first|omega|(simp only[lnA,lnC,lnN,lnM,z8,yj];omega)) only[↓zF,↓zn,↓zq,↓zu,↓zr]
 refine Au (fun _=>?_) fun _=>Au (fun _=>Aa a3 ⟨⟨_,_,_,_,_⟩,rfl,J5⟩) fun _=>?_
 ·refine z9 (Ap hb a3 _) fun v c4 a4 ⟨m4,e,_,_⟩=>?_
  subst e
  simp (disch:=first|omega|(simp only[lnA,lnC,lnN,lnM,z8,yj];omega)) only[↓zF,↓zn,↓zq,↓zu,↓zr]
  exact Aa a4 ⟨⟨_,_,_,_,_⟩,rfl,J5⟩
 refine QE (YK _ _) ?_
 simp (disch:=first|omega|(simp only[lnA,lnC,lnN,lnM,z8,yj];omega)) only[↓zF,↓zq]
 refine z9 (Ap hb a3 _) fun v c4 a4 ⟨m4,e,_,_⟩=>?_
 subst e
 simp (disch:=first|omega|(simp only[lnA,lnC,lnN,lnM,z8,yj];omega)) only[↓zF,↓zn,↓zq,↓zu,↓zr]
 exact Aa a4 ⟨⟨_,_,_,_,_⟩,rfl,J5⟩
def aaK (p:List Nd):Prop:=∀x∈p,x.s.size<=100
theorem WT {p:List Nd}(h:aaK p):Du p:=fun x hx=>by have:=h x hx;omega
def aaJ (v:D):Prop:=∃p:List Nd,v=oP p/\aaK p/\(p.length<=15\/(p.length<=3001/\∀x∈p,x.kind=1))
theorem Pn (hb:b.length<4611686018427387904){n:Int}(hn:n<16):∀(k i:Nat) (c:Int×Int) (p:List Nd),(i:Int)+k=n->BU b c->aaK p->p.length<=i->0<i->FG b (fun v=>∃p:List Nd,v=oP p/\aaK p/\p.length<=15) (CU n (i:Int) (b.map eB) c.1 c.2 (p.map eN))
 |0,i,c,p,hi,hc,hp,hl,h0=>by
  rw[FJ]
  simp (disch:=first|omega|(simp only[lnA,lnC,lnN,lnM,z8,yj];omega)) only[↓y0,zY]
  exact Aa hc ⟨p,rfl,hp,by omega⟩
 |k+1,i,c,p,hi,hc,hp,hl,h0=>by
  rw[FJ,y6 (decide_eq_true (by omega))]
  refine z9 (abM hb hc _) fun v c1 a1 ⟨x,e,hx⟩=>?_
  subst e
  simp (disch:=first|omega|(simp only[lnA,lnC,lnN,lnM,z8,yj];omega)) only[↓yk,yz,↓zF,↓zn,↓zq,↓zw,↓zt,↓zu,↓yK,↓zr,wS,AP (p:=p) (by omega) x]
  refine Pn hb hn k (i+1) c1 (p++[x]) (by omega) a1 ?_ (by simp;omega) (by omega)
  intro y hy
  rcases List.mem_append.1 hy with hy|hy
  ·exact hp y hy
  ·simp at hy;subst hy;exact hx
theorem ady (hb:b.length<4611686018427387904)(h:BU b c):FG b (fun v=>∃p:List Nd,v=oP p/\aaK p/\p.length<=15) (V 154 [eC b c]):=by
 rw[QA]
 refine z9 (Ap hb h _) fun v c1 a1 ⟨m,e,m0,m1⟩=>?_
 subst e
 have:=m1 (by omega)
 simp (disch:=first|omega|(simp only[lnA,lnC,lnN,lnM,z8,yj];omega)) only[↓zF,↓zn,↓zq,↓zu,↓zr]
 rw[Mz]
 refine Au (fun h0=>?_) fun _=>Aa a1 ⟨[],rfl,fun x hx=>by simp at hx,by simp⟩
 have h0:=of_decide_eq_true h0
 refine z9 (abM hb a1 _) fun v c2 a2 ⟨x,e,hx⟩=>?_
 subst e
 have ha:V 158 [.op [.os (5,0) []],eN x]=some (iN 0,[rP [x]]):=AP (p:=[]) (by simp) x
 simp (disch:=first|omega|(simp only[lnA,lnC,lnN,lnM,z8,yj];omega)) only[↓yk,yz,↓zF,↓zn,↓zq,↓zw,↓zt,↓zu,↓yK,↓zr,Int.reduceAdd,wS,ha]
 obtain⟨k,hk⟩:=Int.eq_ofNat_of_zero_le (show 0<=m-1 by omega)
 exact Pn hb (by omega) k 1 c2 [x] (by simp;omega) a2 (by simpa[aaK]using hx) (by simp) (by omega)
theorem adz (hb:b.length<4611686018427387904)(h:BU b c){x:Nd}(hx:x.s.size<=100):FG b aen (V 156 [eC b c,eN x]):=by
 rw[Vy]
 refine z9 (Ap hb h _) fun v c1 a1 ⟨m,e,m0,m1⟩=>?_
 subst e
 simp (disch:=first|omega|(simp only[lnA,lnC,lnN,lnM,z8,yj];omega)) only[↓zF,↓zn,↓zq,↓zu,↓zr]
 refine Au (fun _=>?_) fun _=>Au (fun _=>?_) fun _=>Au (fun _=>?_) fun _=>Au (fun _=>?_) fun _=>Au (fun _=>?_) fun _=>Aa a1 ⟨x,rfl,hx⟩
 ·refine z9 (Ap hb a1 _) fun v c2 a2 ⟨m2,e,_,_⟩=>?_
  subst e
  simp (disch:=first|omega|(simp only[lnA,lnC,lnN,lnM,z8,yj];omega)) only[↓zF,↓zn,↓zq,↓zu,↓zr]
  exact Aa a2 ⟨⟨m2,x.n,x.s,x.a,x.b⟩,rfl,hx⟩
 ·refine z9 (Ap hb a1 _) fun v c2 a2 ⟨m2,e,_,h2⟩=>?_
  subst e
  have:=h2 (by omega)
  simp (disch:=first|omega|(simp only[lnA,lnC,lnN,lnM,z8,yj];omega)) only[↓zF,↓zn,↓zq,↓zu,↓zr]
  exact Aa a2 ⟨⟨x.kind,x.n,x.s,w6 (m2-1),x.b⟩,rfl,hx⟩
 ·refine z9 (Ap hb a1 _) fun v c2 a2 ⟨m2,e,_,h2⟩=>?_
  subst e
  have:=h2 (by omega)
  simp (disch:=first|omega|(simp only[lnA,lnC,lnN,lnM,z8,yj];omega)) only[↓zF,↓zn,↓zq,↓zu,↓zr]
  exact Aa a2 ⟨⟨x.kind,x.n,x.s,x.a,w6 (m2-1)⟩,rfl,hx⟩
 ·refine z9 (JV hb a1 [-1,2,99,100,1000000000,1000000001,-1000000000,-1000000001] (by simp)) fun v c2 a2 ⟨m2,e,_⟩=>?_
  subst e
  simp (disch:=first|omega|(simp only[lnA,lnC,lnN,lnM,z8,yj];omega)) only[↓zF,↓zn,↓zq,↓zu,↓zr]
  exact Aa a2 ⟨⟨x.kind,m2,x.s,x.a,x.b⟩,rfl,hx⟩
 ·refine z9 (KI hb a1 [⟨#[]⟩,⟨#[97]⟩,⟨#[65,98]⟩,⟨#[97,98,99,100,101,102,103,104,105,106,107,108]⟩,⟨#[97,98,99,100,101,102,103,104,105,106,107,108,109]⟩,⟨#[97,49]⟩] (by simp)) fun v c2 a2 ⟨m2,e,hm⟩=>?_
  subst e
  simp (disch:=first|omega|(simp only[lnA,lnC,lnN,lnM,z8,yj];omega)) only[↓zF,↓zn,↓zq,↓zw,↓zu,↓zr]
  refine Aa a2 ⟨⟨x.kind,x.n,m2,x.a,x.b⟩,rfl,?_⟩
  show m2.size<=100
  simp only[List.mem_cons,List.not_mem_nil,or_false]at hm
  rcases hm with rfl|rfl|rfl|rfl|rfl|rfl<;>decide
theorem abL (hb:b.length<4611686018427387904)(h:BU b c){N:Nat}(hN:N<=3001):∀(k i:Nat) (q:List Nd),i+k=N->q.length=N->aaK q->(∀(j:Nat) (x:Nd),j<i->q[j]? = some x->x.kind=1)->FG b aaJ (CJ (i:Int) (b.map eB) c.1 c.2 (q.map eN))
 |0,i,q,hi,hq,hs,hk=>by
  rw[Kz]
  simp (disch:=first|omega|(simp only[lnA,lnC,lnN,lnM,z8,yj];omega)) only[↓y0,zY,lnM,yj]
  refine Aa h ⟨q,rfl,hs,.inr ⟨by omega,fun x hx=>?_⟩⟩
  obtain⟨j,hj⟩:=List.getElem?_of_mem hx
  exact hk j x (by have:=aQ hj;omega) hj
 |k+1,i,q,hi,hq,hs,hk=>by
  obtain⟨x,hx⟩:=yM (l:=q) (i:=i) (by omega)
  have e:(D.agg (List.take 0 [iN x.kind,iN x.n,.str x.s,iN x.a,iN x.b]++[iN 1]++List.drop 1 [iN x.kind,iN x.n,.str x.s,iN x.a,iN x.b]))=eN ⟨1,x.n,x.s,x.a,x.b⟩:=rfl
  rw[Kz,y6 (decide_eq_true (by rw[lnM];simp only[ni];omega)),zJ (by rw[lnM];exact zM (by omega)),Int.toNat_natCast,zj hx,yK,zO,z6 (by omega),e,<-List.map_set]
  refine abL hb h hN k (i+1) _ (by omega) (by simp;omega) ?_ ?_
  ·intro y hy
   rcases List.mem_or_eq_of_mem_set hy with hy|hy
   ·exact hs y hy
   ·rw[hy];exact hs x (List.mem_of_getElem? hx)
  ·intro j y hj hy
   by_cases e:i=j
   ·subst e
    rw[List.getElem?_set_self (by omega)]at hy
    cases hy;rfl
   ·rw[List.getElem?_set_ne e]at hy
    exact hk j y (by omega) hy
theorem abK (hb:b.length<4611686018427387904)(h:BU b c):FG b aaJ (V 90 [eC b c]):=by
 have fin:∀{c:Int×Int} {k:Nat},BU b c->k<2->FG b aaJ (grd (decide (0<=w6 (3000+(k:Int)))&&decide (w6 (3000+(k:Int))<=LIM)) (CJ 0 (b.map eB) c.1 c.2 (List.replicate (Int.toNat (w6 (3000+(k:Int)))) (D.agg [iN 0,iN 0,D.str ⟨#[]⟩,iN 0,iN 0])))):=by
  intro c k h hk
  rw[w64 (by omega) (by omega),zJ (by rw[qA];simp only[Bool.and_eq_true,decide_eq_true_eq];omega)]
  have e2:(3000+(k:Int)).toNat=3000+k:=by omega
  have e3:List.replicate (3000+k) (D.agg [iN 0,iN 0,D.str ⟨#[]⟩,iN 0,iN 0])=(List.replicate (3000+k) (⟨0,0,⟨#[]⟩,0,0⟩:Nd)).map eN:=by rw[List.map_replicate]
  rw[e2,e3]
  refine abL hb h (N:=3000+k) (by omega) (3000+k) 0 _ (by omega) (by simp) ?_ (fun j x h _=>by omega)
  intro x hx
  rw[(List.mem_replicate.1 hx).2]
  exact J5
 rw[XI]
 refine z9 (ady hb h) fun v c1 a1 ⟨p,e,hp,hl⟩=>?_
 subst e
 simp (disch:=first|omega|(simp only[lnA,lnC,lnN,lnM,z8,yj];omega)) only[↓zF,↓zn,↓zq,↓zt,↓zu,↓yK,↓zr,↓zO]
 refine Au (fun h0=>?_) fun _=>?_
 ·have h0:=of_decide_eq_true h0
  rw[lnM]at h0
  refine z9 (MI hb a1 12) fun v c2 a2 ⟨o,e⟩=>?_
  subst e
  simp (disch:=first|omega|(simp only[lnA,lnC,lnN,lnM,z8,yj];omega)) only[↓zF,↓zn,↓zq,↓yZ,↓zu,↓zr]
  refine Au (fun _=>?_) fun _=>?_
  ·refine z9 (Ap hb a2 _) fun v c3 a3 ⟨m,e,m0,m1⟩=>?_
   subst e
   have hm:=m1 (by rw[lnM];exact h0)
   rw[lnM]at hm
   obtain⟨k,hk⟩:=Int.eq_ofNat_of_zero_le m0
   subst hk
   obtain⟨x,hx⟩:=yM (l:=p) (i:=k) (by simp only[ni]at hm;omega)
   simp (disch:=first|omega|(simp only[lnA,lnC,lnN,lnM,z8,yj];omega)) only[↓zF,↓zn,↓zq,↓zu,↓zr]
   rw[zJ (by rw[lnM];exact zM (by simp only[ni]at hm;omega)),Int.toNat_natCast,zj hx,yK,zn,zq,zn,zq,zn,zw,zn,zq,zn,zq,zF]
   refine z9 (adz hb a3 (hp x (List.mem_of_getElem? hx))) fun v c4 a4 ⟨y,e,hy⟩=>?_
   subst e
   simp (disch:=first|omega|(simp only[lnA,lnC,lnN,lnM,z8,yj];omega)) only[↓zF,↓zn,↓zq,↓zw,↓zu,↓yK,↓zr]
   rw[zJ (by rw[lnM];exact zM (by simp only[ni]at hm;omega)),zj hx]
   have e:List.set (p.map eN) k (D.agg [iN y.kind,iN y.n,.str y.s,iN y.a,iN y.b])=(p.set k y).map eN:=by rw[List.map_set]
   rw[e]
   refine z9 (MI hb a4 60) fun v c5 a5 ⟨o,e⟩=>?_
   subst e
   simp (disch:=first|omega|(simp only[lnA,lnC,lnN,lnM,z8,yj];omega)) only[↓zF,↓zn,↓zq,↓yZ,↓zu,↓zr]
   refine Au (fun _=>?_) fun _=>Aa a5 ⟨p.set k y,rfl,?_,.inl (by simpa using hl)⟩
   ·refine z9 (Ap hb a5 _) fun v c6 a6 ⟨m,e,m0,m1⟩=>?_
    subst e
    have:=m1 (by omega)
    obtain⟨k,hk⟩:=Int.eq_ofNat_of_zero_le m0
    subst hk
    simp (disch:=first|omega|(simp only[lnA,lnC,lnN,lnM,z8,yj];omega)) only[↓zF,↓zn,↓zq,↓zu,↓zr]
    exact fin a6 (by omega)
   ·intro z hz
    rcases List.mem_or_eq_of_mem_set hz with hz|hz
    ·exact hp z hz
    ·rw[hz];exact hy
  ·refine z9 (MI hb a2 60) fun v c5 a5 ⟨o,e⟩=>?_
   subst e
   simp (disch:=first|omega|(simp only[lnA,lnC,lnN,lnM,z8,yj];omega)) only[↓zF,↓zn,↓zq,↓yZ,↓zu,↓zr]
   refine Au (fun _=>?_) fun _=>Aa a5 ⟨p,rfl,hp,.inl hl⟩
   refine z9 (Ap hb a5 _) fun v c6 a6 ⟨m,e,m0,m1⟩=>?_
   subst e
   have:=m1 (by omega)
   obtain⟨k,hk⟩:=Int.eq_ofNat_of_zero_le m0
   subst hk
   simp (disch:=first|omega|(simp only[lnA,lnC,lnN,lnM,z8,yj];omega)) only[↓zF,↓zn,↓zq,↓zu,↓zr]
   exact fin a6 (by omega)
 ·refine z9 (MI hb a1 60) fun v c5 a5 ⟨o,e⟩=>?_
  subst e
  simp (disch:=first|omega|(simp only[lnA,lnC,lnN,lnM,z8,yj];omega)) only[↓zF,↓zn,↓zq,↓yZ,↓zu,↓zr]
  refine Au (fun _=>?_) fun _=>Aa a5 ⟨p,rfl,hp,.inl hl⟩
  refine z9 (Ap hb a5 _) fun v c6 a6 ⟨m,e,m0,m1⟩=>?_
  subst e
  have:=m1 (by omega)
  obtain⟨k,hk⟩:=Int.eq_ofNat_of_zero_le m0
  subst hk
  simp (disch:=first|omega|(simp only[lnA,lnC,lnN,lnM,z8,yj];omega)) only[↓zF,↓zn,↓zq,↓zu,↓zr]
  exact fin a6 (by omega)
theorem abI (hb:b.length<4611686018427387904)(h:BU b c){p:List Nd}(hp:p.length<=4000):FG b (fun v=>∃m:Int,v=iN m/\-1<=m/\m<=4000) (V 91 [eC b c,eP p]):=by
 have pk:∀{c:Int×Int},BU b c->FG b (fun v=>∃m:Int,v=iN m/\m∈[-1,0,(p.length:Int)]) (V 122 [eC b c,.rs (1,0) [iN (-1),iN 0,iN (p.length:Int)]]):=fun h=>JV hb h [-1,0,(p.length:Int)] (by simp)
 have fin:∀{m:Int},m∈[-1,0,(p.length:Int)]->-1<=m/\m<=4000:=by
  intro m hm
  simp only[List.mem_cons,List.not_mem_nil,or_false]at hm
  omega
 rw[Ua,lnM]
 refine Au (fun _=>?_) fun h0=>?_
 ·refine z9 (pk h) fun v c1 a1 ⟨m,e,hm⟩=>?_
  subst e
  simp (disch:=first|omega|(simp only[lnA,lnC,lnN,lnM,z8,yj];omega)) only[↓zF,↓zn,↓zq,↓zu,↓zr]
  exact Aa a1 ⟨m,rfl,fin hm⟩
 refine z9 (MI hb h 20) fun v c1 a1 ⟨o,e⟩=>?_
 subst e
 simp (disch:=first|omega|(simp only[lnA,lnC,lnN,lnM,z8,yj];omega)) only[↓zF,↓zn,↓zq,↓yZ,↓zu,↓zr]
 refine Au (fun _=>?_) fun _=>?_
 ·refine z9 (pk a1) fun v c1 a1 ⟨m,e,hm⟩=>?_
  subst e
  simp (disch:=first|omega|(simp only[lnA,lnC,lnN,lnM,z8,yj];omega)) only[↓zF,↓zn,↓zq,↓zu,↓zr]
  exact Aa a1 ⟨m,rfl,fin hm⟩
 refine QE (YK _ _) ?_
 simp (disch:=first|omega|(simp only[lnA,lnC,lnN,lnM,z8,yj];omega)) only[↓zF,↓zq]
 refine z9 (Ap hb a1 _) fun v c2 a2 ⟨m,e,m0,m1⟩=>?_
 subst e
 simp (disch:=first|omega|(simp only[lnA,lnC,lnN,lnM,z8,yj];omega)) only[↓zF,↓zn,↓zq,↓zu,↓zr]
 have hne:p.length≠0:=by
  intro e
  rw[e]at h0
  exact absurd h0 (by decide)
 have hmn:m<mnI (ni p.length) 9:=m1 (by unfold mnI;simp only[ni];split<;>omega)
 have hm9:m<p.length/\m<9:=by
  unfold mnI at hmn
  simp only[ni]at hmn
  split at hmn<;>omega
 rw[w64 (n:=ni p.length-1) (by simp only[ni];omega) (by simp only[ni];omega),w64 (by simp only[ni];omega) (by simp only[ni];omega)]
 exact Aa a2 ⟨_,rfl,by simp only[ni];omega,by simp only[ni];omega⟩
end
theorem aah {p:List Nd}(h:p.length<=15\/(p.length<=3001/\∀x∈p,x.kind=1)):p.length<=3001:=by omega
end
end Go.Eng
/-! texts by their words: reading them,plain -/
namespace Go.Eng
noncomputable section

inductive Tk where
 |sp
 |op
 |cl
 |wd (w:List UInt8) (n:Nd)
def Tk.text:Tk->List UInt8
 |.sp=>[32]
 |.op=>[40]
 |.cl=>[41]
 |.wd w _=>w
def Bw:List Tk->List UInt8
 |[]=>[]
 |t::r=>t.text++Bw r
def aeV:List Tk->Bool
 |.wd _ _::_=>false
 |_=>true
def OkT:List Tk->Prop
 |[]=>True
 |.wd w n::r=>(w≠[]/\w.all FA=true/\GT w=some n)/\aeV r=true/\OkT r
 |_::r=>OkT r
def rdT:List Tk->List (List Int)->List Int->List Nd->Option (List Nd×List Int)
 |[],[],t,q=>some (q,t)
 |[],_::_,_,_=>none
 |.sp::r,o,t,q=>rdT r o t q
 |.op::r,o,t,q=>rdT r (t::o) [] q
 |.cl::_,[],_,_=>none
 |.cl::r,u::o,t,q=>rdT r o (u++[((Ac q t).2:Int)]) (Ac q t).1
 |.wd _ n::r,o,t,q=>rdT r o (t++[(q.length:Int)]) (q++[n])
theorem Gh (a b:List Tk):Bw (a++b)=Bw a++Bw b:=by
 induction a with
 |nil=>rfl
 |cons x a ih=>simp[Bw,ih]
theorem af2 {w s:List UInt8}(hw:w.all FA=true)(hs:∀x r,s=x::r->FA x=false):(w++s).takeWhile FA=w:=by
 induction w with
 |nil=>
  cases s with
  |nil=>rfl
  |cons x r=>simp[hs x r rfl]
 |cons a w ih=>
  simp only[List.all_cons,Bool.and_eq_true]at hw
  simp[hw.1,ih hw.2]
theorem abb {r:List Tk}(h:aeV r=true)(x:UInt8)(s:List UInt8)(e:Bw r=x::s):FA x=false:=by
 cases r with
 |nil=>cases e
 |cons t r=>
  cases t with
  |sp=>simp only[Bw,Tk.text,List.cons_append,List.nil_append]at e;cases e;decide
  |op=>simp only[Bw,Tk.text,List.cons_append,List.nil_append]at e;cases e;decide
  |cl=>simp only[Bw,Tk.text,List.cons_append,List.nil_append]at e;cases e;decide
  |wd w n=>cases h
theorem afc {x:UInt8}(h:FA x=true):x≠32/\x≠40/\x≠41:=by
 refine⟨?_,?_,?_⟩<;>(rintro rfl;revert h;decide)
theorem UT {l:List UInt8}:∀(ts:List Tk) (k i:Nat) (O:List RwF) (T:RwF) (q q':List Nd) (row:List Int),OkT ts->l.drop i=Bw ts->i<=l.length->ts.length<k->rdT ts (O.map Prod.snd) T.2 q=some (q',row)->Fj l k i O T q=.ok q' row
 |ts,0,i,O,T,q,q',row,_,_,_,hk,_=>by omega
 |[],k+1,i,O,T,q,q',row,ho,hd,hi,hk,h=>by
  have hx:l[i]? = none:=by
   have:l.length<=i:=by
    have:=congrArg List.length hd
    rw[List.length_drop]at this
    simp only[Bw,lnN]at this
    omega
   exact List.getElem?_eq_none this
  rw[Jg,hx,O9]
  cases O with
  |nil=>
   simp only[List.map_nil,rdT,Option.some.injEq,Prod.mk.injEq]at h
   rw[if_pos rfl,h.1,h.2]
  |cons u O=>simp only[List.map_cons,rdT]at h;cases h
 |t::r,k+1,i,O,T,q,q',row,ho,hd,hi,hk,h=>by
  have hit:∀x s,Bw (t::r)=x::s->l[i]? = some x/\i<l.length/\l.drop (i+1)=s:=fun x s e=>by
   have hd2:l.drop i=x::s:=hd.trans e
   have hil:i<l.length:=by
    have:=congrArg List.length hd2
    rw[List.length_drop,lnC]at this
    omega
   refine⟨?_,hil,?_⟩
   ·have:=congrArg (fun z=>z[0]?) hd2
    simp only[List.getElem?_drop,Nat.add_zero,List.getElem?_cons_zero]at this
    exact this
   ·rw[<-List.drop_drop,hd2];rfl
  rw[Jg]
  cases t with
  |sp=>
   obtain⟨h1,h2,h3⟩:=hit 32 (Bw r) rfl
   rw[h1,Iy,if_pos rfl]
   exact UT r k (i+1) O T q q' row ho h3 h2 (by simp only[lnC]at hk;omega) h
  |op=>
   obtain⟨h1,h2,h3⟩:=hit 40 (Bw r) rfl
   rw[h1,Iy,if_neg (by decide),if_pos rfl]
   exact UT r k (i+1) (T::O) ((i:Int),[]) q q' row ho h3 h2 (by simp only[lnC]at hk;omega) h
  |cl=>
   obtain⟨h1,h2,h3⟩:=hit 41 (Bw r) rfl
   rw[h1,Iy,if_neg (by decide),if_neg (by decide),if_pos rfl]
   cases O with
   |nil=>simp only[List.map_nil,rdT]at h;cases h
   |cons u O=>exact UT r k (i+1) O (u.1,u.2++[((Ac q T.2).2:Int)]) (Ac q T.2).1 q' row ho h3 h2 (by simp only[lnC]at hk;omega) h
  |wd w n=>
   obtain⟨⟨w1,w2,w3⟩,w4,w5⟩:=ho
   obtain⟨x,w',rfl⟩:∃x w',w=x::w':=by
    cases w with
    |nil=>exact absurd rfl w1
    |cons x w'=>exact⟨x,w',rfl⟩
   obtain⟨h1,h2,h3⟩:=hit x (w'++Bw r) rfl
   have hx:FA x=true:=by simp only[List.all_cons,Bool.and_eq_true]at w2;exact w2.1
   obtain⟨n1,n2,n3⟩:=afc hx
   have htk:(l.drop i).takeWhile FA=x::w':=by
    rw[hd]
    exact af2 w2 (fun y s e=>abb w4 y s e)
   have hwe:FX l i=i+(x::w').length:=by unfold FX;rw[htk]
   have htx:(l.drop i).take (FX l i-i)=x::w':=by
    rw[hwe,Nat.add_sub_cancel_left,hd]
    show ((x::w')++Bw r).take (x::w').length=x::w'
    rw[List.take_left]
   have hdr:l.drop (FX l i)=Bw r:=by
    rw[hwe,<-List.drop_drop,hd]
    show ((x::w')++Bw r).drop (x::w').length=Bw r
    rw[List.drop_left]
   have hle:FX l i<=l.length:=(Tu hi).2
   rw[h1,Iy,if_neg n1,if_neg n2,if_neg n3,if_pos hx,htx,w3]
   exact UT r k (FX l i) O (T.1,T.2++[(q.length:Int)]) (q++[n]) q' row w5 hdr hle (by simp only[lnC]at hk;omega) h
theorem acr {ts:List Tk}(h:OkT ts):ts.length<=(Bw ts).length:=by
 induction ts with
 |nil=>exact Nat.le_refl _
 |cons t r ih=>
  cases t with
  |sp=>have:=ih h;simp only[Bw,Tk.text,lnA,lnC,lnN];omega
  |op=>have:=ih h;simp only[Bw,Tk.text,lnA,lnC,lnN];omega
  |cl=>have:=ih h;simp only[Bw,Tk.text,lnA,lnC,lnN];omega
  |wd w n=>
   have:=ih h.2.2
   have h1:0<w.length:=List.length_pos_iff.2 h.1.1
   simp only[Bw,Tk.text,lnA,lnC];omega
theorem acN {p q':List Nd}{ts:List Tk}{row:List Int}(ho:OkT ts)(hp:Af p=true)(hl:(Bw ts).length<=400)(h:rdT ts [] [] p=some (q',row)):Ck p (Bw ts)=if Af q'=true then (q',row,0,((Bw ts).length:Int)) else (p,[],6,0):=by
 have hg:=UT (l:=Bw ts) ts ((Bw ts).length+1) 0 [] (0,[]) p q' row ho rfl (Nat.zero_le _) (by have:=acr ho;omega) h
 unfold Ck
 rw[if_neg (by simp[hp]),if_neg (by omega),hg]
 rfl
end
end Go.Eng
/-! drawn expressions: their texts,and what is read of them -/
namespace Go.Eng
noncomputable section

inductive SX where
 |w (s:List UInt8) (n:Nd)
 |nil
 |cons (a d:SX)
def tkS:SX->Bool->List Tk
 |.w s n,false=>[.wd s n]
 |.w _ _,true=>[.cl]
 |.nil,false=>[.op,.cl]
 |.nil,true=>[.cl]
 |.cons a d,false=>.op::(tkS a false++tkS d true)
 |.cons a d,true=>.sp::(tkS a false++tkS d true)
def Qi:SX->Bool->Prop
 |.w s n,b=>b=false/\s≠[]/\s.all FA=true/\GT s=some n
 |.nil,_=>True
 |.cons a d,_=>Qi a false/\Qi d true
def Tree (p:List Nd):SX->Nat->Prop
 |.w _ n,v=>p[v]? = some n
 |.nil,v=>p[v]? = some ndN
 |.cons a d,v=>∃x y:Nat,p[v]? = some (ndP x y)/\Tree p a x/\Tree p d y
def Elems (p:List Nd):List Int->SX->Prop
 |[],.nil=>True
 |v::vs,.cons a d=>(0<=v/\Tree p a v.toNat)/\Elems p vs d
 |_,_=>False
theorem Tree.app {p:List Nd}(t:List Nd):∀{e:SX} {v:Nat},Tree p e v->Tree (p++t) e v
 |.w _ _,v,h=>by have h:p[v]? = _:=h;show (p++t)[v]? = _;rw[List.getElem?_append_left (aQ h)];exact h
 |.nil,v,h=>by have h:p[v]? = _:=h;show (p++t)[v]? = _;rw[List.getElem?_append_left (aQ h)];exact h
 |.cons a d,v,⟨x,y,h,h1,h2⟩=>⟨x,y,by rw[List.getElem?_append_left (aQ h)];exact h,Tree.app t h1,Tree.app t h2⟩
theorem Elems.app {p:List Nd}(t:List Nd):∀{vs:List Int} {e:SX},Elems p vs e->Elems (p++t) vs e
 |[],.nil,_=>trivial
 |[],.w _ _,h=>h.elim
 |[],.cons _ _,h=>h.elim
 |_::_,.nil,h=>h.elim
 |_::_,.w _ _,h=>h.elim
 |_::_,.cons _ _,h=>⟨⟨h.1.1,h.1.2.app t⟩,Elems.app t h.2⟩
theorem ab7:∀(l:List Int)(x:Int)(q:List Nd)(c:Nat),BZ (l++[x]) q c=((BZ l q c).1++[⟨5,0,⟨#[]⟩,x,((BZ l q c).2:Int)⟩],(BZ l q c).1.length)
 |[],x,q,c=>rfl
 |y::l,x,q,c=>by
  rw[List.cons_append,BZ,ab7 l x]
  rfl
theorem afD (q:List Nd):Ac q []=(q++[ndN],q.length):=rfl
theorem ab6 (q:List Nd)(x:Int)(l:List Int):Ac q (x::l)=((Ac q l).1++[ndP x (Ac q l).2],(Ac q l).1.length):=by
 unfold Ac
 rw[List.reverse_cons,ab7]
theorem abr (q:List Nd):∀l:List Int,∃e,(Ac q l).1=q++e
 |[]=>⟨[ndN],rfl⟩
 |x::l=>by
  obtain⟨e,h⟩:=abr q l
  exact⟨e++[ndP x (Ac q l).2],by rw[ab6,h,List.append_assoc]⟩
theorem Wv {q:List Nd}:∀{vs:List Int} {e:SX},Elems q vs e->Tree (Ac q vs).1 e (Ac q vs).2
 |[],.nil,_=>by rw[afD];show (q++[ndN])[q.length]? = _;simp
 |[],.w _ _,h=>h.elim
 |[],.cons _ _,h=>h.elim
 |v::vs,.nil,h=>h.elim
 |v::vs,.w _ _,h=>h.elim
 |v::vs,.cons a d,h=>by
  obtain⟨t,ht⟩:=abr q vs
  have ih:=Wv h.2
  have ha:=h.1.2.app t
  rw[<-ht]at ha
  rw[ab6]
  refine⟨v.toNat,(Ac q vs).2,?_,ha.app _,ih.app _⟩
  have:((v.toNat:Nat):Int)=v:=by have:=h.1.1;omega
  rw[this];simp
theorem YE:∀e:SX,(Qi e false->∀(r:List Tk) (o:List (List Int)) (t:List Int) (q:List Nd),∃(v:Nat) (x:List Nd),rdT (tkS e false++r) o t q=rdT r o (t++[(v:Int)]) (q++x)/\Tree (q++x) e v) /\
  (Qi e true->∀(r:List Tk) (u:List Int) (o:List (List Int)) (t:List Int) (q:List Nd),∃(vs:List Int) (x:List Nd),rdT (tkS e true++r) (u::o) t q=rdT r o (u++[((Ac (q++x) (t++vs)).2:Int)]) (Ac (q++x) (t++vs)).1/\Elems (q++x) vs e)
 |.w s n=>⟨fun h r o t q=>⟨q.length,[n],rfl,by show (q++[n])[q.length]? = _;simp⟩,fun h=>by have:=h.1;cases this⟩
 |.nil=>⟨fun h r o t q=>⟨q.length,[ndN],rfl,by show (q++[ndN])[q.length]? = _;simp⟩,fun h r u o t q=>⟨[],[],by rw[List.append_nil,List.append_nil];rfl,trivial⟩⟩
 |.cons a d=>by
  obtain⟨a1,_⟩:=YE a
  obtain⟨_,d2⟩:=YE d
  refine⟨fun h r o t q=>?_,fun h r u o t q=>?_⟩
  ·obtain⟨v,x,e1,t1⟩:=a1 h.1 (tkS d true++r) (t::o) [] q
   obtain⟨vs,y,e2,t2⟩:=d2 h.2 r t o ([]++[(v:Int)]) (q++x)
   obtain⟨z,hz⟩:=abr (q++x++y) (v::vs)
   have he:Elems (q++x++y) (v::vs) (.cons a d):=⟨⟨by omega,by rw[Int.toNat_natCast];exact t1.app y⟩,t2⟩
   refine⟨(Ac (q++x++y) (v::vs)).2,x++y++z,?_,?_⟩
   ·show rdT (.op::(tkS a false++tkS d true)++r) o t q=_
    rw[List.cons_append,List.append_assoc]
    show rdT (tkS a false++(tkS d true++r)) (t::o) [] q=_
    rw[e1,e2]
    show rdT r o (t++[((Ac (q++x++y) (v::vs)).2:Int)]) (Ac (q++x++y) (v::vs)).1=_
    rw[hz]
    simp
   ·have:=Wv he
    rw[hz]at this
    simpa using this
  ·obtain⟨v,x,e1,t1⟩:=a1 h.1 (tkS d true++r) (u::o) t q
   obtain⟨vs,y,e2,t2⟩:=d2 h.2 r u o (t++[(v:Int)]) (q++x)
   refine⟨v::vs,x++y,?_,?_⟩
   ·show rdT (.sp::(tkS a false++tkS d true)++r) (u::o) t q=_
    rw[List.cons_append,List.append_assoc]
    show rdT (tkS a false++(tkS d true++r)) (u::o) t q=_
    rw[e1,e2]
    simp
   ·rw[<-List.append_assoc]
    exact⟨⟨by omega,by rw[Int.toNat_natCast];exact t1.app y⟩,t2⟩
theorem ad9:∀e:SX,(Qi e false->∀r,OkT r->aeV r=true->OkT (tkS e false++r))/\(Qi e true->∀r,OkT r->OkT (tkS e true++r)/\aeV (tkS e true++r)=true)
 |.w s n=>⟨fun h r hr hn=>⟨⟨h.2.1,h.2.2.1,h.2.2.2⟩,hn,hr⟩,fun h=>by have:=h.1;cases this⟩
 |.nil=>⟨fun _ r hr _=>hr,fun _ r hr=>⟨hr,rfl⟩⟩
 |.cons a d=>by
  obtain⟨a1,_⟩:=ad9 a
  obtain⟨_,d2⟩:=ad9 d
  refine⟨fun h r hr _=>?_,fun h r hr=>⟨?_,rfl⟩⟩
  ·have:=d2 h.2 r hr
   show OkT ((tkS a false++tkS d true)++r)
   rw[List.append_assoc]
   exact a1 h.1 _ this.1 this.2
  ·have:=d2 h.2 r hr
   show OkT ((tkS a false++tkS d true)++r)
   rw[List.append_assoc]
   exact a1 h.1 _ this.1 this.2
theorem acQ {e:SX}(h:Qi e false):(Ck [] (Bw (tkS e false))).2.2.1≠0\/∃(v:Nat) (q:List Nd),Ck [] (Bw (tkS e false))=(q,[(v:Int)],0,((Bw (tkS e false)).length:Int))/\Af q=true/\Tree q e v:=by
 by_cases hl:(Bw (tkS e false)).length<=400
 ·obtain⟨v,x,e1,t1⟩:=(YE e).1 h [] [] [] []
  have ho:OkT (tkS e false++[]):=(ad9 e).1 h [] trivial rfl
  rw[List.append_nil]at ho e1
  have hr:=acN (p:=[]) (q':=[]++x) (row:=[]++[(v:Int)]) ho (by decide) hl e1
  by_cases hk:Af ([]++x)=true
  ·rw[if_pos hk]at hr
   exact .inr ⟨v,x,hr,hk,t1⟩
  ·rw[if_neg hk]at hr
   exact .inl (by rw[hr];simp)
 ·refine .inl ?_
  unfold Ck
  rw[if_neg (by decide),if_pos (by omega)]
  simp
end
end Go.Eng
/-! how much a value of a pool takes that is copied -/
namespace Go.Eng

noncomputable def Lq (p:List Nd) (v:Int) (K:Nat):Prop:=∀acc:List Nd,(BW (-1) p v acc).1.length<=acc.length+K
theorem ZM (p:List Nd)(v:Int):Lq p v p.length:=fun acc=>Mf (-1) p (Bu p [v]) p.length [] acc
theorem Qc (d:Int){q:List Nd}{m:List Bool}{lo hi:Nat}(h:∀i,m[i]? = some true->lo<=i/\i<=hi):∀(k:Nat) (pre:List Int) (acc:List Nd),(BH d q m k pre acc).2.length<=acc.length+(hi+1-max lo pre.length)
 |0,pre,acc=>Nat.le_add_right _ _
 |k+1,pre,acc=>by
  simp only[BH]
  split
  ·rename_i hm
   have:=h _ hm
   have:=Qc d (q:=q) h k (pre++[(acc.length:Int)]) (acc++[Aj pre ‹Nd›])
   simp only[lnA,lnC,lnN]at this
   omega
  ·have:=Qc d (q:=q) h k (pre++[d]) acc
   simp only[lnA,lnC,lnN]at this
   omega
theorem Ww {p:List Nd}{v:Int}{lo hi:Nat}(h:∀i,Rch p [v] i->lo<=i/\i<=hi):Lq p v (hi+1-lo):=fun acc=>by
 have:=Qc (-1) (q:=p) (m:=Bu p [v]) (lo:=lo) (hi:=hi) (fun i hi=>h i (Ou hi)) p.length [] acc
 simp only[lnN]at this
 show (BH (-1) p (Bu p [v]) p.length [] acc).2.length<=_
 omega
theorem CN {p:List Nd}{v:Int}{K K':Nat}(h:Lq p v K)(hk:K<=K'):Lq p v K':=fun acc=>Nat.le_trans (h acc) (by omega)
theorem Ut {p:List Nd}{v:Int}(h:∀x,p[v.toNat]? = some x->¬(x.kind=5\/x.kind=6\/x.kind=7)):Lq p v 1:=by
 have:∀i,Rch p [v] i->i=v.toNat:=by
  intro i hi
  induction hi with
  |root hr=>rw[List.mem_singleton.1 hr]
  |a hi hx hk ih=>subst ih;exact absurd hk (h _ hx)
  |b hi hx hk ih=>subst ih;exact absurd (.inl hk) (h _ hx)
 exact CN (Ww (lo:=v.toNat) (hi:=v.toNat) fun i hi=>by rw[this i hi];exact⟨Nat.le_refl _,Nat.le_refl _⟩) (by omega)
theorem ZN {p:List Nd}(h:p.length<=15\/(p.length<=3001/\∀x∈p,x.kind=1))(v:Int):Lq p v 15:=by
 rcases h with h|⟨_,h⟩
 ·exact CN (ZM p v) h
 ·exact CN (Ut fun x hx=>by rw[h x (List.mem_of_getElem? hx)];omega) (by omega)
end Go.Eng
/-! how much code a drawn expression takes,and its literals -/
namespace Go.Eng
noncomputable section

structure Bd (p:List Nd) (n:Nat) (m m':Ms):Prop where
 lo:m.list.length<=m'.list.length
 hi:m'.list.length<=m.list.length+n
 old:∀(k:Nat) (y:In),m.list[k]? = some y->∃y',m'.list[k]? = some y'/\y'.op=y.op/\(y.op=1->y'=y)
 new:∀(k:Nat) (y:In),m'.list[k]? = some y->m.list.length<=k->y.op=1->Lq p y.n 1
 how:m'.how=0->m.how=0
theorem Bd.refl (p:List Nd)(m:Ms):Bd p 0 m m:=⟨Nat.le_refl _,Nat.le_refl _,fun k y h=>⟨y,h,rfl,fun _=>rfl⟩,fun k y h hk=>by have:=aQ h;omega,id⟩
theorem Bd.mono {p:List Nd}{n n':Nat}{m m':Ms}(h:Bd p n m m')(hn:n<=n'):Bd p n' m m':=⟨h.lo,Nat.le_trans h.hi (by omega),h.old,h.new,h.how⟩
theorem Bd.trans {p:List Nd}{a b:Nat}{m m1 m2:Ms}(h:Bd p a m m1)(g:Bd p b m1 m2):Bd p (a+b) m m2:=by
 refine⟨Nat.le_trans h.lo g.lo,by have:=h.hi;have:=g.hi;omega,fun k y hy=>?_,fun k y hy hk h1=>?_,fun e=>h.how (g.how e)⟩
 ·obtain⟨y1,e1,o1,l1⟩:=h.old k y hy
  obtain⟨y2,e2,o2,l2⟩:=g.old k y1 e1
  exact⟨y2,e2,o2.trans o1,fun e=>(l2 (o1.trans e)).trans (l1 e)⟩
 ·by_cases hk1:m1.list.length<=k
  ·exact g.new k y hy hk1 h1
  ·obtain⟨y1,e1⟩:=yM (l:=m1.list) (i:=k) (by omega)
   obtain⟨y2,e2,o2,l2⟩:=g.old k y1 e1
   rw[hy]at e2
   cases e2
   have o1:y1.op=1:=o2.symm.trans h1
   rw[l2 o1]
   exact h.new k y1 e1 hk o1
theorem Ez {p:List Nd}(m:Ms){x:In}(hx:x.op=1->Lq p x.n 1):Bd p 1 m (Av m x):=by
 unfold Av
 split
 ·split
  ·exact⟨Nat.le_refl _,Nat.le_succ _,fun k y h=>⟨y,h,rfl,fun _=>rfl⟩,fun k y h hk=>by have:=aQ h;simp only at this;omega,fun _=>‹_›⟩
  ·refine⟨by simp,by simp,fun k y h=>⟨y,by simp only;rw[List.getElem?_append_left (aQ h)];exact h,rfl,fun _=>rfl⟩,fun k y h hk h1=>?_,fun _=>‹_›⟩
   have hl:=aQ h
   simp only[lnA,lnC,lnN]at hl
   have:k=m.list.length:=by omega
   subst this
   simp at h
   subst h
   exact hx h1
 ·exact (Bd.refl p m).mono (by omega)
theorem aaN {p:List Nd}(m:Ms){k:Int}(hk:k=0->m.how=0):Bd p 0 m (Eh m k):=⟨Nat.le_refl _,Nat.le_refl _,fun k y h=>⟨y,h,rfl,fun _=>rfl⟩,fun k y h hk=>by have:=aQ h;simp only[Eh]at this;omega,hk⟩
theorem aeC {m:Ms}{x:In}(h:(Av m x).how=0):(Av m x).list[(CW m).toNat]? = some x:=by
 unfold Av at h⊢
 unfold CW
 split at h
 ·rename_i e
  split at h
  ·simp at h
  ·rename_i e2
   rw[if_pos e,if_pos e,if_neg e2,if_neg e2]
   simp
 ·rename_i e;exact absurd h e
theorem ab4 {p:List Nd}{n:Nat}{m m':Ms}{x:In}(h:Bd p n (Av m x) m')(hx:x.op≠1):Bd p 0 m' (toC m' (CW m)):=by
 unfold toC
 split
 ·rename_i h0
  obtain⟨y,e1,e2,_⟩:=h.old _ _ (aeC (h.how h0))
  have hy:m'.list.getD (CW m).toNat (inO 0)=y:=by rw[List.getD_eq_getElem?_getD,e1];rfl
  rw[hy]
  refine⟨by simp,by simp,fun k z hz=>?_,fun k z hz hk=>by have:=aQ hz;simp only[List.length_set]at this;omega,fun _=>h0⟩
  by_cases hk:(CW m).toNat=k
  ·subst hk
   rw[e1]at hz
   cases hz
   exact⟨⟨y.op,m'.list.length,y.i,y.s⟩,by simp only;rw[List.getElem?_set_self (aQ e1)],rfl,fun e=>absurd (e2.symm.trans e) hx⟩
  ·exact⟨z,by simp only;rw[List.getElem?_set_ne hk];exact hz,rfl,fun _=>rfl⟩
 ·exact Bd.refl p m'
section
variable {p:List Nd}{E:List (List ByteArray)->Int->Ms->Ms}
theorem Tz {n:Nat}{x:Int}(hx:∀env m,Bd p n m (E env x m))(env:List (List ByteArray))(m:Ms):Bd p n m (DR E env [x] true m):=by
 simp only[DR]
 split
 ·exact hx env m
 ·exact (Bd.refl p m).mono (by omega)
theorem adk {a b:Nat}{x y:Int}(hx:∀env m,Bd p a m (E env x m))(hy:∀env m,Bd p b m (E env y m))(env:List (List ByteArray))(m:Ms):Bd p (a+b+1) m (DR E env [x,y] true m):=by
 have h1:=hx env m
 have h2:Bd p 1 (E env x m) (Av (E env x m) (inO 9)):=Ez _ (fun e=>by cases e)
 have h3:=hy env (Av (E env x m) (inO 9))
 rw[DR]
 split
 ·rw[if_pos rfl,DR]
  split
  ·rw[if_neg (by simp),DR]
   exact ((h1.trans h2).trans h3).mono (by omega)
  ·exact h1.mono (by omega)
 ·exact (Bd.refl p m).mono (by omega)
theorem adI {n:Nat}{body:List Int}(hb:∀env m,Bd p n m (DR E env body true m))(names:List ByteArray)(env:List (List ByteArray))(m:Ms):Bd p (n+3) m (S9 E names body env m):=by
 unfold S9
 simp only
 have a1:Bd p 1 m (Av m ⟨6,0,names.length,⟨#[]⟩⟩):=Ez _ (fun e=>by cases e)
 have a2:Bd p 1 (Av m ⟨6,0,names.length,⟨#[]⟩⟩) (Av (Av m ⟨6,0,names.length,⟨#[]⟩⟩) (inO 5)):=Ez _ (fun e=>by cases e)
 have a3:=ab4 a2 (show (6:Int)≠1 by decide)
 have a4:=hb (names::env) (toC (Av (Av m ⟨6,0,names.length,⟨#[]⟩⟩) (inO 5)) (CW m))
 have a5:Bd p 1 (DR E (names::env) body true (toC (Av (Av m ⟨6,0,names.length,⟨#[]⟩⟩) (inO 5)) (CW m))) (Av (DR E (names::env) body true (toC (Av (Av m ⟨6,0,names.length,⟨#[]⟩⟩) (inO 5)) (CW m))) (inO 8)):=Ez _ (fun e=>by cases e)
 have a6:=ab4 ((a3.trans a4).trans a5) (show (5:Int)≠1 by decide)
 exact (((((a1.trans a2).trans a3).trans a4).trans a5).trans a6).mono (by omega)
end
def sw (s:List UInt8):SX:=.w s ⟨4,0,mk s,0,0⟩
abbrev L2 (a b:SX):SX:=.cons a (.cons b .nil)
abbrev L3 (a b c:SX):SX:=.cons a (L2 b c)
abbrev L4 (a b c d:SX):SX:=.cons a (L3 b c d)
def fnS (g a:SX):SX:=L3 (sw [102,110]) g a
def lfs:List SX:=[.w [49] ⟨3,1,⟨#[]⟩,0,0⟩,sw [120],sw [121],.w [45,50] ⟨3,-2,⟨#[]⟩,0,0⟩,.w [35,116] ⟨2,1,⟨#[]⟩,0,0⟩,.nil,sw [102],.w [48] ⟨3,0,⟨#[]⟩,0,0⟩]
def abp:List (List UInt8):=[[99,97,114],[99,100,114],[110,117,108,108,63],[112,97,105,114,63],[110,111,116],[99,97,108,108,99,99],[112,114,105,110,116]]
def acH:List (List UInt8):=[[43],[45],[42],[60],[61],[99,111,110,115],[101,113,63]]
def agR:SX:=L2 (sw [113,117,111,116,101]) (sw [97])
inductive Dx:Nat->SX->Prop
 |leaf (d:Nat) (e:SX):e∈lfs->Dx d e
 |quo (d:Nat):Dx d agR
 |iff {d:Nat} {a b c:SX}:Dx d a->Dx d b->Dx (d-1) c->Dx (d+1) (L4 (sw [105,102]) a b c)
 |fn {d:Nat} {a:SX}:Dx d a->Dx (d+1) (fnS (L2 (sw [120]) (sw [121])) a)
 |lt {d:Nat} {a b:SX}:Dx d a->Dx d b->Dx (d+1) (L4 (sw [108,101,116]) (sw [120]) a b)
 |doo {d:Nat} {a b:SX}:Dx d a->Dx d b->Dx (d+1) (L3 (sw [100,111]) a b)
 |op1 {d:Nat} {a:SX} (s:List UInt8):s∈abp->Dx d a->Dx (d+1) (L2 (sw s) a)
 |app {d:Nat} {a b:SX}:Dx d a->Dx d b->Dx (d+1) (L2 (fnS (.cons (sw [121]) .nil) a) b)
 |op2 {d:Nat} {a b:SX} (s:List UInt8):s∈acH->Dx d a->Dx d b->Dx (d+1) (L3 (sw s) a b)
 |up {d:Nat} {a:SX}:Dx d a->Dx (d+1) a
def BB:Nat->Nat
 |0=>1
 |1=>7
 |d+2=>2*BB (d+1)+BB d+4
theorem Xf:∀d,BB (d+1)=2*BB d+BB (d-1)+4
 |0=>rfl
 |_+1=>rfl
theorem ac9:∀d,1<=BB d
 |0=>Nat.le_refl _
 |d+1=>by rw[Xf];omega
theorem QN {p:List Nd}{v:Nat}{x:Nd}(h:p[v]? = some x):nod p (v:Int)=x:=by
 unfold nod;rw[Int.toNat_natCast,List.getD_eq_getElem?_getD,h];rfl
theorem Aw {p:List Nd}{vs:List Int}{a d:SX}(h:Elems p vs (.cons a d)):∃(v:Nat) (r:List Int),vs=(v:Int)::r/\Tree p a v/\Elems p r d:=by
 cases vs with
 |nil=>exact h.elim
 |cons v r=>exact⟨v.toNat,r,by have:=h.1.1;rw[Int.toNat_of_nonneg this],h.1.2,h.2⟩
theorem Gg {p:List Nd}{vs:List Int}(h:Elems p vs .nil):vs=[]:=by
 cases vs with
 |nil=>rfl
 |cons v r=>exact h.elim
def isL:SX->Bool
 |.w _ _=>false
 |.nil=>true
 |.cons _ d=>isL d
theorem Uv {p:List Nd}(hp:Ah p):∀(e:SX) (v k:Nat),isL e=true->Tree p e v->v<k->∃vs,Gq p k (v:Int)=(vs,true)/\Elems p vs e/\∀x∈vs,x<(v:Int)
 |.w _ _,v,k,hl,_,_=>by cases hl
 |.nil,v,k+1,_,ht,hk=>by
  refine⟨[],?_,trivial,fun x h=>by simp at h⟩
  unfold Gq
  rw[QN ht,if_neg (by decide)]
  rfl
 |.cons a d,v,k+1,hl,⟨x,y,h0,h1,h2⟩,hk=>by
  have ho:=Az (hp v _ h0) rfl
  simp only at ho
  obtain⟨vs,g1,g2,g3⟩:=Uv hp d y k hl h2 (by omega)
  refine⟨(x:Int)::vs,?_,⟨⟨by omega,by rw[Int.toNat_natCast];exact h1⟩,g2⟩,fun z hz=>?_⟩
  ·unfold Gq
   rw[QN h0,if_pos rfl]
   simp only[g1]
  ·rcases List.mem_cons.1 hz with rfl|hz
   ·omega
   ·have:=g3 z hz;omega
 |.nil,v,0,_,_,hk=>by omega
 |.cons _ _,v,0,_,_,hk=>by omega
theorem Sa {p:List Nd}{a d:SX}{v:Nat}(h:Tree p (.cons a d) v):(nod p (v:Int)).kind=5:=by
 obtain⟨x,y,h0,_⟩:=h
 rw[QN h0]
section
variable {p:List Nd}
theorem RM {k:Nat}{env:List (List ByteArray)}{v:Int}{m:Ms}(h:m.how≠0):CM p k env v m=m:=by
 cases k with
 |zero=>rfl
 |succ k=>unfold CM;rw[if_pos h]
theorem acq {a d:SX}{v:Nat}(ht:Tree p (.cons a d) v){vs:List Int}(hl:Bc p (v:Int)=(vs,true)){k:Nat}{env:List (List ByteArray)}{m:Ms}(h0:m.how=0) :
  CM p (k+1) env (v:Int) m=if (nod p (vs.getD 0 0)).kind=4/\RY (nod p (vs.getD 0 0)).s=true then GI (CM p k) p (nod p (vs.getD 0 0)).s vs env m else if vs.length>5 then Eh m 1 else Av (vs.foldl (fun m x=>CM p k env x m) m) ⟨7,0,(vs.length:Int)-1,⟨#[]⟩⟩:=by
 have h5:=Sa ht
 rw[CM,if_neg (by omega)]
 simp only
 rw[if_neg (by omega),if_neg (by omega),if_neg (by omega),hl,if_neg (by simp)]
theorem U6 {v:Nat}{s:List UInt8}(hv:p[v]? = some ⟨4,0,mk s,0,0⟩)(hr:RY (mk s)=false)(k:Nat)(env:List (List ByteArray))(m:Ms):Bd p 1 m (CM p k env (v:Int) m):=by
 cases k with
 |zero=>exact (Bd.refl p m).mono (by omega)
 |succ k=>
  by_cases h0:m.how=0
  ·rw[CM,if_neg (by omega)]
   simp only
   rw[QN hv,if_neg (by simp),if_pos rfl,if_neg (by simp[hr])]
   split<;>exact Ez _ (fun e=>by cases e)
  ·rw[RM h0];exact (Bd.refl p m).mono (by omega)
theorem QH {v:Nat}{n:Nd}(hv:p[v]? = some n)(hn:n.kind=1\/n.kind=2\/n.kind=3)(k:Nat)(env:List (List ByteArray))(m:Ms):Bd p 1 m (CM p k env (v:Int) m):=by
 cases k with
 |zero=>exact (Bd.refl p m).mono (by omega)
 |succ k=>
  by_cases h0:m.how=0
  ·rw[CM,if_neg (by omega)]
   simp only
   rw[QN hv,if_pos hn]
   exact Ez _ (fun _=>Ut fun x hx=>by
    rw[Int.toNat_natCast,hv]at hx
    cases hx
    omega)
  ·rw[RM h0];exact (Bd.refl p m).mono (by omega)
theorem aeF {E:List (List ByteArray)->Int->Ms->Ms}{a b c:Nat}{h x y z:Int}(hx:∀env m,Bd p a m (E env x m))(hy:∀env m,Bd p b m (E env y m))(hz:∀env m,Bd p c m (E env z m))(env:List (List ByteArray))(m:Ms):Bd p (a+b+c+2) m (GI E p (mk [105,102]) [h,x,y,z] env m):=by
 unfold GI
 rw[if_neg (fun h=>absurd h.1 (by decide +kernel)),if_pos ⟨by decide +kernel,rfl⟩]
 show Bd p _ m (toC (E env z (toC (Av (E env y (Av (E env x m) (inO 4))) (inO 5)) (CW (E env x m)))) (CW (E env y (Av (E env x m) (inO 4)))))
 have a1:=hx env m
 have a2:Bd p 1 (E env x m) (Av (E env x m) (inO 4)):=Ez _ (fun e=>by cases e)
 have a3:=hy env (Av (E env x m) (inO 4))
 have a4:Bd p 1 (E env y (Av (E env x m) (inO 4))) (Av (E env y (Av (E env x m) (inO 4))) (inO 5)):=Ez _ (fun e=>by cases e)
 have a5:=ab4 (a3.trans a4) (show (4:Int)≠1 by decide)
 have a6:=hz env (toC (Av (E env y (Av (E env x m) (inO 4))) (inO 5)) (CW (E env x m)))
 have a7:=ab4 (a5.trans a6) (show (5:Int)≠1 by decide)
 exact ((((((a1.trans a2).trans a3).trans a4).trans a5).trans a6).trans a7).mono (by omega)
theorem aeE {E:List (List ByteArray)->Int->Ms->Ms}{a:Nat}{h g x:Int}(hx:∀env m,Bd p a m (E env x m))(env:List (List ByteArray))(m:Ms):Bd p (a+3) m (GI E p (mk [102,110]) [h,g,x] env m):=by
 unfold GI
 rw[if_neg (fun h=>absurd h.1 (by decide +kernel)),if_neg (fun h=>absurd h.1 (by decide +kernel)),if_neg (fun h=>absurd h.1 (by decide +kernel)),if_pos ⟨by decide +kernel,Nat.le_refl _⟩]
 show Bd p _ m (if (Bc p g).2=false then Eh m 1 else S9 E (BJ p (Bc p g).1 m.how).1 [x] env (Eh m (BJ p (Bc p g).1 m.how).2))
 split
 ·exact (aaN m (by omega)).mono (by omega)
 ·have a1:Bd p 0 m (Eh m (BJ p (Bc p g).1 m.how).2):=aaN m JH
  exact (a1.trans (adI (Tz hx) _ env _)).mono (by omega)
theorem adF {E:List (List ByteArray)->Int->Ms->Ms}{a b:Nat}{h g x y:Int}(hx:∀env m,Bd p a m (E env x m))(hy:∀env m,Bd p b m (E env y m))(env:List (List ByteArray))(m:Ms):Bd p (a+b+4) m (GI E p (mk [108,101,116]) [h,g,x,y] env m):=by
 unfold GI
 rw[if_neg (fun h=>absurd h.1 (by decide +kernel)),if_neg (fun h=>absurd h.1 (by decide +kernel)),if_neg (fun h=>absurd h.1 (by decide +kernel)),if_neg (fun h=>absurd h.1 (by decide +kernel)),if_pos ⟨by decide +kernel,Nat.le_refl _⟩]
 show Bd p _ m (Av (E env x (S9 E (BJ p [g] m.how).1 [y] env (Eh m (BJ p [g] m.how).2))) ⟨7,0,1,⟨#[]⟩⟩)
 have a1:Bd p 0 m (Eh m (BJ p [g] m.how).2):=aaN m JH
 have a2:=adI (Tz hy) (BJ p [g] m.how).1 env (Eh m (BJ p [g] m.how).2)
 have a3:=hx env (S9 E (BJ p [g] m.how).1 [y] env (Eh m (BJ p [g] m.how).2))
 exact (((a1.trans a2).trans a3).trans (Ez _ (fun e=>by cases e))).mono (by omega)
theorem aeD {E:List (List ByteArray)->Int->Ms->Ms}{a b:Nat}{h x y:Int}(hx:∀env m,Bd p a m (E env x m))(hy:∀env m,Bd p b m (E env y m))(env:List (List ByteArray))(m:Ms):Bd p (a+b+1) m (GI E p (mk [100,111]) [h,x,y] env m):=by
 unfold GI
 rw[if_neg (fun h=>absurd h.1 (by decide +kernel)),if_neg (fun h=>absurd h.1 (by decide +kernel)),if_pos ⟨by decide +kernel,by simp⟩]
 exact adk hx hy env m
theorem adG {E:List (List ByteArray)->Int->Ms->Ms}{h x:Int}(hx:Lq p x 1)(env:List (List ByteArray))(m:Ms):Bd p 1 m (GI E p (mk [113,117,111,116,101]) [h,x] env m):=by
 unfold GI
 rw[if_pos ⟨by decide +kernel,rfl⟩]
 exact Ez m fun _=>hx
theorem KN {hp:Ah p}{a d:SX}{v:Nat}(ht:Tree p (.cons a d) v)(hl:isL d=true){n k:Nat}(hk:v<k)(env:List (List ByteArray))(m:Ms)
  (h:∀(j:Nat) (vs:List Int),k=j+1->Elems p vs (.cons a d)->(∀x∈vs,x<(j:Int))->m.how=0->Bd p n m (if (nod p (vs.getD 0 0)).kind=4/\RY (nod p (vs.getD 0 0)).s=true then GI (CM p j) p (nod p (vs.getD 0 0)).s vs env m else if vs.length>5 then Eh m 1 else Av (vs.foldl (fun m x=>CM p j env x m) m) ⟨7,0,(vs.length:Int)-1,⟨#[]⟩⟩)):Bd p n m (CM p k env (v:Int) m):=by
 by_cases h0:m.how=0
 ·obtain⟨j,rfl⟩:∃j,k=j+1:=⟨k-1,by omega⟩
  obtain⟨vs,g1,g2,g3⟩:=Uv hp (.cons a d) v (v+1) hl ht (by omega)
  have hl:Bc p (v:Int)=(vs,true):=by unfold Bc;rw[Int.toNat_natCast];exact g1
  rw[acq ht hl h0]
  exact h j vs rfl g2 (fun x hx=>by have:=g3 x hx;omega) h0
 ·rw[RM h0];exact (Bd.refl p m).mono (by omega)
end
theorem afe {p:List Nd}(hp:Ah p){g a:SX}{n:Nat}(ha:∀v:Nat,Tree p a v->∀k:Nat,v<k->∀env m,Bd p n m (CM p k env (v:Int) m))(v:Nat)(ht:Tree p (fnS g a) v)(k:Nat)(hk:v<k)(env:List (List ByteArray))(m:Ms):Bd p (n+3) m (CM p k env (v:Int) m):=by
 refine KN (hp:=hp) ht rfl hk env m fun j vs _ he hlt h0=>?_
 obtain⟨h,r,rfl,t1,he⟩:=Aw he
 obtain⟨x,r,rfl,t2,he⟩:=Aw he
 obtain⟨y,r,rfl,t3,he⟩:=Aw he
 rw[Gg he]at hlt⊢
 show Bd p _ m (if (nod p (h:Int)).kind=4/\RY (nod p (h:Int)).s=true then _ else _)
 rw[List.getD_cons_zero,QN t1,if_pos ⟨rfl,by decide +kernel⟩]
 exact aeE (fun env m=>ha y t3 j (by have:=hlt (y:Int) (by simp);omega) env m) env m
theorem afW {p:List Nd}(hp:Ah p){d:Nat}{e:SX}(hd:Dx d e):∀v:Nat,Tree p e v->∀k:Nat,v<k->∀env m,Bd p (BB d) m (CM p k env (v:Int) m):=by
 induction hd with
 |leaf d e h=>
  intro v ht k hk env m
  refine Bd.mono ?_ (ac9 d)
  simp only[lfs,List.mem_cons,List.not_mem_nil,or_false]at h
  rcases h with rfl|rfl|rfl|rfl|rfl|rfl|rfl|rfl
  ·exact QH ht (by decide) k env m
  ·exact U6 ht (by decide +kernel) k env m
  ·exact U6 ht (by decide +kernel) k env m
  ·exact QH ht (by decide) k env m
  ·exact QH ht (by decide) k env m
  ·exact QH ht (by decide) k env m
  ·exact U6 ht (by decide +kernel) k env m
  ·exact QH ht (by decide) k env m
 |quo d=>
  intro v ht k hk env m
  refine Bd.mono ?_ (ac9 d)
  refine KN (hp:=hp) ht rfl hk env m fun j vs _ he hlt h0=>?_
  obtain⟨h,r,rfl,t1,he⟩:=Aw he
  obtain⟨x,r,rfl,t2,he⟩:=Aw he
  rw[Gg he]at hlt⊢
  rw[List.getD_cons_zero,QN t1,if_pos ⟨rfl,by decide +kernel⟩]
  refine adG (Ut fun z hz=>?_) env m
  have t2:p[x]? = _:=t2
  rw[Int.toNat_natCast,t2]at hz
  cases hz
  decide
 |@iff d a b c _ _ _ ia ib ic=>
  intro v ht k hk env m
  refine KN (hp:=hp) ht rfl hk env m fun j vs _ he hlt h0=>?_
  obtain⟨h,r,rfl,t1,he⟩:=Aw he
  obtain⟨x,r,rfl,t2,he⟩:=Aw he
  obtain⟨y,r,rfl,t3,he⟩:=Aw he
  obtain⟨z,r,rfl,t4,he⟩:=Aw he
  rw[Gg he]at hlt⊢
  rw[List.getD_cons_zero,QN t1,if_pos ⟨rfl,by decide +kernel⟩]
  refine (aeF (fun env m=>ia x t2 j (by have:=hlt (x:Int) (by simp);omega) env m) (fun env m=>ib y t3 j (by have:=hlt (y:Int) (by simp);omega) env m) (fun env m=>ic z t4 j (by have:=hlt (z:Int) (by simp);omega) env m) env m).mono ?_
  rw[Xf];omega
 |@fn d a _ ia=>
  intro v ht k hk env m
  refine (afe hp ia v ht k hk env m).mono ?_
  rw[Xf];omega
 |@lt d a b _ _ ia ib=>
  intro v ht k hk env m
  refine KN (hp:=hp) ht rfl hk env m fun j vs _ he hlt h0=>?_
  obtain⟨h,r,rfl,t1,he⟩:=Aw he
  obtain⟨x,r,rfl,t2,he⟩:=Aw he
  obtain⟨y,r,rfl,t3,he⟩:=Aw he
  obtain⟨z,r,rfl,t4,he⟩:=Aw he
  rw[Gg he]at hlt⊢
  rw[List.getD_cons_zero,QN t1,if_pos ⟨rfl,by decide +kernel⟩]
  refine (adF (fun env m=>ia y t3 j (by have:=hlt (y:Int) (by simp);omega) env m) (fun env m=>ib z t4 j (by have:=hlt (z:Int) (by simp);omega) env m) env m).mono ?_
  rw[Xf];omega
 |@doo d a b _ _ ia ib=>
  intro v ht k hk env m
  refine KN (hp:=hp) ht rfl hk env m fun j vs _ he hlt h0=>?_
  obtain⟨h,r,rfl,t1,he⟩:=Aw he
  obtain⟨x,r,rfl,t2,he⟩:=Aw he
  obtain⟨y,r,rfl,t3,he⟩:=Aw he
  rw[Gg he]at hlt⊢
  rw[List.getD_cons_zero,QN t1,if_pos ⟨rfl,by decide +kernel⟩]
  refine (aeD (fun env m=>ia x t2 j (by have:=hlt (x:Int) (by simp);omega) env m) (fun env m=>ib y t3 j (by have:=hlt (y:Int) (by simp);omega) env m) env m).mono ?_
  rw[Xf];omega
 |@op1 d a s hs _ ia=>
  intro v ht k hk env m
  have hr:RY (mk s)=false:=by
   simp only[abp,List.mem_cons,List.not_mem_nil,or_false]at hs
   rcases hs with rfl|rfl|rfl|rfl|rfl|rfl|rfl<;>decide +kernel
  refine KN (hp:=hp) ht rfl hk env m fun j vs _ he hlt h0=>?_
  obtain⟨h,r,rfl,t1,he⟩:=Aw he
  obtain⟨x,r,rfl,t2,he⟩:=Aw he
  rw[Gg he]at hlt⊢
  rw[List.getD_cons_zero,QN t1,if_neg (fun h=>by rw[hr]at h;cases h.2),if_neg (by simp)]
  have a1:=U6 t1 hr j env m
  have a2:=ia x t2 j (by have:=hlt (x:Int) (by simp);omega) env (CM p j env (h:Int) m)
  refine ((a1.trans a2).trans (Ez _ (fun e=>by cases e))).mono ?_
  rw[Xf];omega
 |@app d a b _ _ ia ib=>
  intro v ht k hk env m
  refine KN (hp:=hp) ht rfl hk env m fun j vs _ he hlt h0=>?_
  obtain⟨h,r,rfl,t1,he⟩:=Aw he
  obtain⟨x,r,rfl,t2,he⟩:=Aw he
  rw[Gg he]at hlt⊢
  have k5:(nod p (h:Int)).kind=5:=Sa t1
  rw[List.getD_cons_zero,if_neg (fun h=>by omega),if_neg (by simp)]
  have a1:=afe hp ia h t1 j (by have:=hlt (h:Int) (by simp);omega) env m
  have a2:=ib x t2 j (by have:=hlt (x:Int) (by simp);omega) env (CM p j env (h:Int) m)
  refine ((a1.trans a2).trans (Ez _ (fun e=>by cases e))).mono ?_
  rw[Xf];omega
 |@op2 d a b s hs _ _ ia ib=>
  intro v ht k hk env m
  have hr:RY (mk s)=false:=by
   simp only[acH,List.mem_cons,List.not_mem_nil,or_false]at hs
   rcases hs with rfl|rfl|rfl|rfl|rfl|rfl|rfl<;>decide +kernel
  refine KN (hp:=hp) ht rfl hk env m fun j vs _ he hlt h0=>?_
  obtain⟨h,r,rfl,t1,he⟩:=Aw he
  obtain⟨x,r,rfl,t2,he⟩:=Aw he
  obtain⟨y,r,rfl,t3,he⟩:=Aw he
  rw[Gg he]at hlt⊢
  rw[List.getD_cons_zero,QN t1,if_neg (fun h=>by rw[hr]at h;cases h.2),if_neg (by simp)]
  have a1:=U6 t1 hr j env m
  have a2:=ia x t2 j (by have:=hlt (x:Int) (by simp);omega) env (CM p j env (h:Int) m)
  have a3:=ib y t3 j (by have:=hlt (y:Int) (by simp);omega) env (CM p j env (x:Int) (CM p j env (h:Int) m))
  refine (((a1.trans a2).trans a3).trans (Ez _ (fun e=>by cases e))).mono ?_
  rw[Xf];omega
 |@up d a _ ia=>
  intro v ht k hk env m
  refine (ia v ht k hk env m).mono ?_
  rw[Xf];omega
theorem aeA {d:Nat}{e:SX}(h:Dx d e):Qi e false:=by
 have sy:∀s:List UInt8,s≠[]->s.all FA=true->GT s=some ⟨4,0,mk s,0,0⟩->Qi (sw s) false:=fun s h1 h2 h3=>⟨rfl,h1,h2,h3⟩
 induction h with
 |leaf d e h=>
  simp only[lfs,List.mem_cons,List.not_mem_nil,or_false]at h
  rcases h with rfl|rfl|rfl|rfl|rfl|rfl|rfl|rfl
  ·exact⟨rfl,by decide,by decide,by rfl⟩
  ·exact sy _ (by decide) (by decide) (by rfl)
  ·exact sy _ (by decide) (by decide) (by rfl)
  ·exact⟨rfl,by decide,by decide,by rfl⟩
  ·exact⟨rfl,by decide,by decide,by rfl⟩
  ·trivial
  ·exact sy _ (by decide) (by decide) (by rfl)
  ·exact⟨rfl,by decide,by decide,by rfl⟩
 |quo d=>exact⟨sy _ (by decide) (by decide) (by rfl),sy _ (by decide) (by decide) (by rfl),trivial⟩
 |iff _ _ _ ia ib ic=>exact⟨sy _ (by decide) (by decide) (by rfl),ia,ib,ic,trivial⟩
 |fn _ ia=>exact⟨sy _ (by decide) (by decide) (by rfl),⟨sy _ (by decide) (by decide) (by rfl),sy _ (by decide) (by decide) (by rfl),trivial⟩,ia,trivial⟩
 |lt _ _ ia ib=>exact⟨sy _ (by decide) (by decide) (by rfl),sy _ (by decide) (by decide) (by rfl),ia,ib,trivial⟩
 |doo _ _ ia ib=>exact⟨sy _ (by decide) (by decide) (by rfl),ia,ib,trivial⟩
 |op1 s hs _ ia=>
  refine⟨?_,ia,trivial⟩
  simp only[abp,List.mem_cons,List.not_mem_nil,or_false]at hs
  rcases hs with rfl|rfl|rfl|rfl|rfl|rfl|rfl<;>exact sy _ (by decide) (by decide) (by rfl)
 |app _ _ ia ib=>exact⟨⟨sy _ (by decide) (by decide) (by rfl),⟨sy _ (by decide) (by decide) (by rfl),trivial⟩,ia,trivial⟩,ib,trivial⟩
 |op2 s hs _ _ ia ib=>
  refine⟨?_,ia,ib,trivial⟩
  simp only[acH,List.mem_cons,List.not_mem_nil,or_false]at hs
  rcases hs with rfl|rfl|rfl|rfl|rfl|rfl|rfl<;>exact sy _ (by decide) (by decide) (by rfl)
 |up _ ia=>exact ia
end
end Go.Eng
/-! draws of programs: their texts -/
namespace Go.Eng
noncomputable section
open Go.Proofs Go.Proofs.Tryz
set_option maxHeartbeats 4000000
set_option maxRecDepth 10000

theorem AV (a b:ByteArray):(a++b).size=a.size+b.size:=ByteArray.size_append
theorem Fk (a:Array UInt8):ByteArray.size ⟨a⟩=a.size:=rfl
def Hd (s:ByteArray):Prop:=∃(x:UInt8) (r:List UInt8),s.data.toList=x::r/\x≠32
theorem NG {a:ByteArray}(h:Hd a)(b:ByteArray):Hd (a++b):=by
 obtain⟨x,r,h1,h2⟩:=h
 exact⟨x,r++b.data.toList,by simp[h1],h2⟩
theorem DZ (x:UInt8)(r:List UInt8)(h:x≠32):Hd ⟨(x::r).toArray⟩:=⟨x,r,by simp,h⟩
def afP (d n:Nat)(v:D):Prop:=∃(s:ByteArray) (e:SX),v=.str s/\s.size<=n/\Hd s/\Dx d e/\s.data.toList=Bw (tkS e false)
def afN (l:List (List UInt8))(n:Nat)(v:D):Prop:=∃s:ByteArray,v=.str s/\s.size<=n/\Hd s/\s.data.toList∈l
def SzE:Nat->Nat
 |0=>9
 |d+1=>3*SzE d+30
section
variable {b:List Int}
theorem afS (hb:b.length<4611686018427387904){c:Int×Int}(h:BU b c):FG b (afP 0 9) (V 75 [eC b c,.rs (1,0) [(.str ({ data:=#[49] })),(.str ({ data:=#[120] })),(.str ({ data:=#[121] })),(.str ({ data:=#[45,50] })),(.str ({ data:=#[35,116] })),(.str ({ data:=#[40,41] })),(.str ({ data:=#[102] })),(.str ({ data:=#[40,113,117,111,116,101,32,97,41] })),(.str ({ data:=#[48] }))]]):=by
 refine Rv (KI hb h [⟨#[49]⟩,⟨#[120]⟩,⟨#[121]⟩,⟨#[45,50]⟩,⟨#[35,116]⟩,⟨#[40,41]⟩,⟨#[102]⟩,⟨#[40,113,117,111,116,101,32,97,41]⟩,⟨#[48]⟩] (by simp)) ?_
 rintro v ⟨m,rfl,hm⟩
 simp only[List.mem_cons,List.not_mem_nil,or_false]at hm
 rcases hm with rfl|rfl|rfl|rfl|rfl|rfl|rfl|rfl|rfl
 ·exact⟨_,_,rfl,by decide,DZ _ _ (by decide),.leaf 0 (.w [49] ⟨3,1,⟨#[]⟩,0,0⟩) (by simp[lfs]),rfl⟩
 ·exact⟨_,_,rfl,by decide,DZ _ _ (by decide),.leaf 0 (sw [120]) (by simp[lfs]),rfl⟩
 ·exact⟨_,_,rfl,by decide,DZ _ _ (by decide),.leaf 0 (sw [121]) (by simp[lfs]),rfl⟩
 ·exact⟨_,_,rfl,by decide,DZ _ _ (by decide),.leaf 0 (.w [45,50] ⟨3,-2,⟨#[]⟩,0,0⟩) (by simp[lfs]),rfl⟩
 ·exact⟨_,_,rfl,by decide,DZ _ _ (by decide),.leaf 0 (.w [35,116] ⟨2,1,⟨#[]⟩,0,0⟩) (by simp[lfs]),rfl⟩
 ·exact⟨_,_,rfl,by decide,DZ _ _ (by decide),.leaf 0 .nil (by simp[lfs]),rfl⟩
 ·exact⟨_,_,rfl,by decide,DZ _ _ (by decide),.leaf 0 (sw [102]) (by simp[lfs]),rfl⟩
 ·exact⟨_,_,rfl,by decide,DZ _ _ (by decide),.quo 0,rfl⟩
 ·exact⟨_,_,rfl,by decide,DZ _ _ (by decide),.leaf 0 (.w [48] ⟨3,0,⟨#[]⟩,0,0⟩) (by simp[lfs]),rfl⟩
theorem afT (hb:b.length<4611686018427387904){c:Int×Int}(h:BU b c):FG b (afN acH 4) (V 75 [eC b c,.rs (1,0) [(.str ({ data:=#[43] })),(.str ({ data:=#[45] })),(.str ({ data:=#[42] })),(.str ({ data:=#[60] })),(.str ({ data:=#[61] })),(.str ({ data:=#[99,111,110,115] })),(.str ({ data:=#[101,113,63] }))]]):=by
 refine Rv (KI hb h [⟨#[43]⟩,⟨#[45]⟩,⟨#[42]⟩,⟨#[60]⟩,⟨#[61]⟩,⟨#[99,111,110,115]⟩,⟨#[101,113,63]⟩] (by simp)) ?_
 rintro v ⟨m,rfl,hm⟩
 refine⟨m,rfl,?_⟩
 simp only[List.mem_cons,List.not_mem_nil,or_false]at hm
 rcases hm with rfl|rfl|rfl|rfl|rfl|rfl|rfl<;>exact⟨by decide,DZ _ _ (by decide),by simp[acH]⟩
theorem afU (hb:b.length<4611686018427387904){c:Int×Int}(h:BU b c):FG b (afN abp 6) (V 75 [eC b c,.rs (1,0) [(.str ({ data:=#[99,97,114] })),(.str ({ data:=#[99,100,114] })),(.str ({ data:=#[110,117,108,108,63] })),(.str ({ data:=#[112,97,105,114,63] })),(.str ({ data:=#[110,111,116] })),(.str ({ data:=#[99,97,108,108,99,99] }))]]):=by
 refine Rv (KI hb h [⟨#[99,97,114]⟩,⟨#[99,100,114]⟩,⟨#[110,117,108,108,63]⟩,⟨#[112,97,105,114,63]⟩,⟨#[110,111,116]⟩,⟨#[99,97,108,108,99,99]⟩] (by simp)) ?_
 rintro v ⟨m,rfl,hm⟩
 refine⟨m,rfl,?_⟩
 simp only[List.mem_cons,List.not_mem_nil,or_false]at hm
 rcases hm with rfl|rfl|rfl|rfl|rfl|rfl<;>exact⟨by decide,DZ _ _ (by decide),by simp[abp]⟩
theorem afn:∀d,d<=3->SzE d<=633:=by decide
theorem ade:∀d,SzE (d-1)<=SzE d
 |0=>Nat.le_refl _
 |d+1=>by simp only[Nat.add_sub_cancel];rw[show SzE (d+1)=3*SzE d+30 from rfl];omega
theorem Xk (hb:b.length<4611686018427387904):∀(k:Nat) (n:Int),n<=k->-5<=n->k<=3->∀c,BU b c->FG b (afP n.toNat (SzE n.toNat)) (V 214 [eC b c,iN n])
 |k,n,hk,hn,h3,c,hc=>by
  rw[RJ]
  by_cases h0:n<=0
  ·rw[y6 (decide_eq_true h0)]
   have h0':n.toNat=0:=by omega
   rw[h0']
   refine z9 (afS hb hc) fun v c1 a1 ⟨s,ex,e,hs,hh,hx,he⟩=>?_
   subst e
   simp (disch:=first|omega|(simp only[lnA,lnC,lnN,lnM,z8,yj];omega)) only[↓zF,↓zn,↓zq,↓zw,↓zu,↓zr]
   exact Aa a1 ⟨s,ex,rfl,hs,hh,hx,he⟩
  ·rw[yp (decide_eq_false h0)]
   obtain⟨k,rfl⟩:∃j,k=j+1:=⟨k-1,by omega⟩
   have w1:w6 (n-1)=n-1:=w64 (by omega) (by omega)
   have w2:w6 (n-2)=n-2:=w64 (by omega) (by omega)
   obtain⟨d,hd⟩:∃d,n.toNat=d+1:=⟨n.toNat-1,by omega⟩
   have e1:(n-1).toNat=d:=by omega
   have e2:(n-2).toNat=d-1:=by omega
   have hz:SzE n.toNat=3*SzE d+30:=by rw[hd];rfl
   have hp:=ade d
   have hm:=afn d (by omega)
   have i1:=fun c a=>Xk hb k (n-1) (by omega) (by omega) (by omega) c a
   have i2:=fun c a=>Xk hb k (n-2) (by omega) (by omega) (by omega) c a
   rw[e1]at i1
   rw[e2]at i2
   rw[w1,w2,hz,hd]
   refine z9 (i1 c hc) fun v c1 a1 ⟨s,xa,e,hs,hh,da,ha⟩=>?_
   subst e
   simp (disch:=first|omega|(simp only[lnA,lnC,lnN,lnM,z8,yj];omega)) only[↓zF,↓zn,↓zq,↓zw,↓zu,↓zr]
   refine z9 (i1 c1 a1) fun v c2 a2 ⟨t,xb,e,ht,hh2,db,hb2⟩=>?_
   subst e
   simp (disch:=first|omega|(simp only[lnA,lnC,lnN,lnM,z8,yj];omega)) only[↓zF,↓zn,↓zq,↓zw,↓zu,↓zr]
   refine z9 (Ap hb a2 _) fun v c3 a3 ⟨m,e,m0,m1⟩=>?_
   subst e
   simp (disch:=first|omega|(simp only[lnA,lnC,lnN,lnM,z8,yj];omega)) only[↓zF,↓zn,↓zq,↓zu,↓zr]
   refine Au (fun _=>?_) fun _=>Au (fun _=>?_) fun _=>Au (fun _=>?_) fun _=>Au (fun _=>?_) fun _=>Au (fun _=>?_) fun _=>Au (fun _=>?_) fun _=>Au (fun _=>?_) fun _=>Au (fun _=>?_) fun _=>?_
   ·repeat refine DW (decide_eq_true (by rw[qA];simp only[ni,AV,Fk,List.size_toArray,lnC,lnN];omega)) ?_
    refine z9 (i2 c3 a3) fun v c4 a4 ⟨u,xc,e,hu,hh3,dc,hc2⟩=>?_
    subst e
    simp (disch:=first|omega|(simp only[lnA,lnC,lnN,lnM,z8,yj];omega)) only[↓zF,↓zn,↓zq,↓zw,↓zu,↓zr]
    repeat refine DW (decide_eq_true (by rw[qA];simp only[ni,AV,Fk,List.size_toArray,lnC,lnN];omega)) ?_
    exact Aa a4 ⟨_,_,rfl,by simp only[AV,Fk,List.size_toArray,List.length_cons,List.length_nil];omega,by repeat (first|exact DZ _ _ (by decide)|refine NG ?_ _),(.iff da db dc),by simp[tkS,Bw,Tk.text,Gh,sw,ha,hb2,hc2]⟩
   ·repeat refine DW (decide_eq_true (by rw[qA];simp only[ni,AV,Fk,List.size_toArray,lnC,lnN];omega)) ?_
    exact Aa a3 ⟨_,_,rfl,by simp only[AV,Fk,List.size_toArray,List.length_cons,List.length_nil];omega,by repeat (first|exact DZ _ _ (by decide)|refine NG ?_ _),(.fn da),by simp[tkS,Bw,Tk.text,Gh,sw,fnS,ha]⟩
   ·repeat refine DW (decide_eq_true (by rw[qA];simp only[ni,AV,Fk,List.size_toArray,lnC,lnN];omega)) ?_
    exact Aa a3 ⟨_,_,rfl,by simp only[AV,Fk,List.size_toArray,List.length_cons,List.length_nil];omega,by repeat (first|exact DZ _ _ (by decide)|refine NG ?_ _),(.lt da db),by simp[tkS,Bw,Tk.text,Gh,sw,ha,hb2]⟩
   ·repeat refine DW (decide_eq_true (by rw[qA];simp only[ni,AV,Fk,List.size_toArray,lnC,lnN];omega)) ?_
    exact Aa a3 ⟨_,_,rfl,by simp only[AV,Fk,List.size_toArray,List.length_cons,List.length_nil];omega,by repeat (first|exact DZ _ _ (by decide)|refine NG ?_ _),(.doo da db),by simp[tkS,Bw,Tk.text,Gh,sw,ha,hb2]⟩
   ·repeat refine DW (decide_eq_true (by rw[qA];simp only[ni,AV,Fk,List.size_toArray,lnC,lnN];omega)) ?_
    exact Aa a3 ⟨_,_,rfl,by simp only[AV,Fk,List.size_toArray,List.length_cons,List.length_nil];omega,by repeat (first|exact DZ _ _ (by decide)|refine NG ?_ _),(.op1 [112,114,105,110,116] (by simp[abp]) da),by simp[tkS,Bw,Tk.text,Gh,sw,ha]⟩
   ·repeat refine DW (decide_eq_true (by rw[qA];simp only[ni,AV,Fk,List.size_toArray,lnC,lnN];omega)) ?_
    exact Aa a3 ⟨_,_,rfl,by simp only[AV,Fk,List.size_toArray,List.length_cons,List.length_nil];omega,by repeat (first|exact DZ _ _ (by decide)|refine NG ?_ _),(.app da db),by simp[tkS,Bw,Tk.text,Gh,sw,fnS,ha,hb2]⟩
   ·refine z9 (afT hb a3) fun v c4 a4 ⟨u,e,hu,hh3,hm3⟩=>?_
    subst e
    simp (disch:=first|omega|(simp only[lnA,lnC,lnN,lnM,z8,yj];omega)) only[↓zF,↓zn,↓zq,↓zw,↓zu,↓zr]
    repeat refine DW (decide_eq_true (by rw[qA];simp only[ni,AV,Fk,List.size_toArray,lnC,lnN];omega)) ?_
    exact Aa a4 ⟨_,_,rfl,by simp only[AV,Fk,List.size_toArray,List.length_cons,List.length_nil];omega,by repeat (first|exact DZ _ _ (by decide)|refine NG ?_ _),(.op2 _ hm3 da db),by simp[tkS,Bw,Tk.text,Gh,sw,ha,hb2]⟩
   ·refine z9 (afU hb a3) fun v c4 a4 ⟨u,e,hu,hh3,hm3⟩=>?_
    subst e
    simp (disch:=first|omega|(simp only[lnA,lnC,lnN,lnM,z8,yj];omega)) only[↓zF,↓zn,↓zq,↓zw,↓zu,↓zr]
    repeat refine DW (decide_eq_true (by rw[qA];simp only[ni,AV,Fk,List.size_toArray,lnC,lnN];omega)) ?_
    exact Aa a4 ⟨_,_,rfl,by simp only[AV,Fk,List.size_toArray,List.length_cons,List.length_nil];omega,by repeat (first|exact DZ _ _ (by decide)|refine NG ?_ _),(.op1 _ hm3 da),by simp[tkS,Bw,Tk.text,Gh,sw,ha]⟩
   ·exact Aa a3 ⟨s,_,rfl,by omega,hh,.up da,ha⟩
def texts:List ByteArray:=[(⟨#[40,100,101,102,105,110,101,32,40,102,32,110,41,32,40,105,102,32,40,60,32,110,32,50,41,32,110,32,40,43,32,40,102,32,40,45,32,110,32,49,41,41,32,40,102,32,40,45,32,110,32,50,41,41,41,41,41,32,40,102,32,54,41]⟩:ByteArray),(⟨List.toArray (List.append [40,100,101,102,105,110,101,32,40,117,112,32,110,41,32,40,105,102,32,40,60,32,110,32,51,41,32,40,100,111,32,40] [112,114,105,110,116,32,110,41,32,40,117,112,32,40,43,32,110,32,49,41,41,41,32,110,41,41,32,40,117,112,32,48,41])⟩:ByteArray),(⟨#[40,108,101,116,32,120,32,53,32,40,108,101,116,32,102,32,40,102,110,32,40,121,41,32,40,43,32,120,32,121,41,41,32,40,112,114,105,110,116,32,40,102,32,52,41,41,41,41]⟩:ByteArray),(⟨#[40,112,114,105,110,116,32,40,99,97,108,108,99,99,32,40,102,110,32,40,107,41,32,40,100,111,32,40,107,32,55,41,32,56,41,41,41,41]⟩:ByteArray),(⟨List.toArray (List.append [40,100,101,102,105,110,101,32,40,109,97,112,32,102,32,108,41,32,40,105,102,32,40,110,117,108,108,63,32,108,41,32,40,41,32,40,99,111,110,115,32,40,102,32,40,99,97,114,32,108,41,41,32,40,109,97,112,32,102] [32,40,99,100,114,32,108,41,41,41,41,41,32,40,112,114,105,110,116,32,40,109,97,112,32,40,102,110,32,40,120,41,32,40,42,32,120,32,120,41,41,32,40,113,117,111,116,101,32,40,49,32,50,32,51,41,41,41,41])⟩:ByteArray),(⟨#[40,100,111,32,40,115,112,97,119,110,32,40,102,110,32,40,41,32,40,100,111,32,40,112,114,105,110,116,32,49,41,32,40,112,114,105,110,116,32,50,41,41,41,41,32,40,112,114,105,110,116,32,51,41,41]⟩:ByteArray),(⟨List.toArray (List.append [40,108,101,116,32,112,32,40,115,112,97,119,110,32,40,102,110,32,40,41,32,40,112,114,105,110,116,32,40,114,101,99,118,41] [41,41,41,32,40,100,111,32,40,115,101,110,100,32,112,32,40,113,117,111,116,101,32,40,97,32,98,41,41,41,32,48,41,41])⟩:ByteArray),(⟨List.toArray (List.append [40,108,101,116,32,112,32,40,115,112,97,119,110,32,40,102,110,32,40,41,32,40,108,101,116,32,102,32,40,114,101,99,118,41,32,40,112,114,105,110,116,32,40,102] [32,53,41,41,41,41,41,32,40,108,101,116,32,122,32,57,32,40,115,101,110,100,32,112,32,40,102,110,32,40,120,41,32,40,43,32,120,32,122,41,41,41,41,41])⟩:ByteArray),(⟨#[40,100,111,32,40,112,114,105,110,116,32,49,41,32,40,103,111,32,49,41,32,40,112,114,105,110,116,32,50,41,32,40,103,111,32,48,41,32,40,112,114,105,110,116,32,51,41,41]⟩:ByteArray),(⟨List.toArray (List.append [40,108,101,116,32,109,101,32,40,115,101,108,102,41,32,40,100,111,32,40,115,112,97,119,110,32,40,102,110,32,40,41,32,40,100,111,32,40] [103,111,32,49,41,32,40,115,101,110,100,32,109,101,32,52,50,41,41,41,41,32,40,112,114,105,110,116,32,40,114,101,99,118,41,41,41,41])⟩:ByteArray),(⟨List.toArray (List.append [40,100,101,102,105,110,101,32,40,108,111,111,112,32,110,41,32,40,105,102,32,40,61,32,110,32,48,41,32,40,112,114,105,110,116,32,40] [113,117,111,116,101,32,101,110,100,41,41,32,40,108,111,111,112,32,40,45,32,110,32,49,41,41,41,41,32,40,108,111,111,112,32,57,41])⟩:ByteArray),(⟨#[40,112,114,105,110,116,32,40,99,97,114,32,40,113,117,111,116,101,32,40,41,41,41,41]⟩:ByteArray),(⟨#[40,112,114,105,110,116,32,40,102,32,49,41,41]⟩:ByteArray),(⟨#[40,43,32,49,32,35,116,41]⟩:ByteArray),(⟨#[40,112,114,105,110,116,32,40,99,111,110,115,32,49,32,40,99,111,110,115,32,50,32,40,41,41,41,41]⟩:ByteArray),(⟨List.toArray (List.append (List.append [40,100,101,102,105,110,101,32,40,112,105,110,103,32,112,32,110,41,32,40,105,102,32,40,60,32,110,32,49,41,32,48,32,40,100,111,32,40,115,101,110,100,32,112,32] [110,41,32,40,112,114,105,110,116,32,40,114,101,99,118,41,41,32,40,112,105,110,103,32,112,32,40,45,32,110,32,49,41,41,41,41,41,32,40,108,101,116,32,109,101,32]) (List.append [40,115,101,108,102,41,32,40,112,105,110,103,32,40,115,112,97,119,110,32,40,102,110,32,40,41,32,40,100,111,32,40,103,111,32,49,41,32,40,115,101,110,100,32,109,101] [32,40,43,32,49,48,32,40,114,101,99,118,41,41,41,32,40,115,101,110,100,32,109,101,32,40,43,32,49,48,32,40,114,101,99,118,41,41,41,41,41,41,32,50,41,41]))⟩:ByteArray),(⟨List.toArray (List.append [40,108,101,116,32,107,32,40,99,97,108,108,99,99,32,40,102,110,32,40,99,41,32,99,41,41,32,40,105,102,32,40,112,97,105,114,63] [32,107,41,32,40,112,114,105,110,116,32,40,99,97,114,32,107,41,41,32,40,107,32,40,113,117,111,116,101,32,40,53,41,41,41,41,41])⟩:ByteArray),(⟨List.toArray (List.append [40,108,101,116,32,112,32,40,115,112,97,119,110,32,40,102,110,32,40,41,32,40,100,111,32,40,103,111,32,49,41,32,40,108,101,116,32,107,32,40,114,101,99,118,41,32,40,107,32,56] [41,41,41,41,41,32,40,112,114,105,110,116,32,40,99,97,108,108,99,99,32,40,102,110,32,40,107,41,32,40,100,111,32,40,115,101,110,100,32,112,32,107,41,32,51,41,41,41,41,41])⟩:ByteArray)]
def afo (s:ByteArray):Prop:=s∈texts\/∃e:SX,Dx 3 e/\s.data.toList=Bw (tkS e false)
theorem ad7:∀s∈texts,s.size<=633/\Hd s:=by
 intro s hs
 simp only[texts,List.mem_cons,List.not_mem_nil,or_false]at hs
 rcases hs with rfl|rfl|rfl|rfl|rfl|rfl|rfl|rfl|rfl|rfl|rfl|rfl|rfl|rfl|rfl|rfl|rfl|rfl<;>exact⟨by decide,⟨40,_,rfl,by decide⟩⟩
theorem aey (hb:b.length<4611686018427387904){c:Int×Int}(h:BU b c):FG b (fun v=>∃s:ByteArray,v=.str s/\Hd s/\afo s) (V 192 [eC b c]):=by
 have ht:V 213 []=some (.os (1,0) (texts.map D.str),[]):=VF
 rw[Ph]
 refine z9 (MI hb h 4) fun v c1 a1 ⟨o,e⟩=>?_
 subst e
 simp (disch:=first|omega|(simp only[lnA,lnC,lnN,lnM,z8,yj];omega)) only[↓zF,↓zn,↓zq,↓yZ,↓zu,↓zr]
 refine Au (fun _=>?_) fun _=>?_
 ·refine QE ht ?_
  simp (disch:=first|omega|(simp only[lnA,lnC,lnN,lnM,z8,yj];omega)) only[↓zF,↓zt]
  refine z9 (KI hb a1 texts (by decide)) fun v c2 a2 ⟨m,e,hm⟩=>?_
  subst e
  simp (disch:=first|omega|(simp only[lnA,lnC,lnN,lnM,z8,yj];omega)) only[↓zF,↓zn,↓zq,↓zw,↓zu,↓zr]
  exact Aa a2 ⟨m,rfl,(ad7 m hm).2,.inl hm⟩
 ·refine z9 (Xk hb 3 3 (by omega) (by omega) (by omega) c1 a1) fun v c2 a2 ⟨m,x,e,_,hh,hx,he⟩=>?_
  subst e
  simp (disch:=first|omega|(simp only[lnA,lnC,lnN,lnM,z8,yj];omega)) only[↓zF,↓zn,↓zq,↓zw,↓zu,↓zr]
  exact Aa a2 ⟨m,rfl,hh,.inr ⟨x,hx,he⟩⟩
end
end
end Go.Eng
/-! two pools that hold the same,in the same order -/
namespace Go.Eng

noncomputable def kid (k:Int):Prop:=k=5\/k=6\/k=7
structure Bi (ρ:Nat->Nat->Prop) (q p:List Nd):Prop where
 node:∀i j,ρ i j->∃x y,q[i]? = some x/\p[j]? = some y/\x.kind=y.kind/\x.n=y.n/\x.s=y.s/\(kid x.kind->ρ x.a.toNat y.a.toNat)/\(x.kind=5->ρ x.b.toNat y.b.toNat)
 ord:∀i j i' j',ρ i j->ρ i' j'->(i<i'↔j<j')
theorem Bi.one {ρ:Nat->Nat->Prop}{q p:List Nd}(h:Bi ρ q p){i j i' j':Nat}(h1:ρ i j)(h2:ρ i' j'):i=i'↔j=j':=by
 have a:=h.ord _ _ _ _ h1 h2
 have b:=h.ord _ _ _ _ h2 h1
 omega
theorem Bi.flip {ρ:Nat->Nat->Prop}{q p:List Nd}(h:Bi ρ q p):Bi (fun i j=>ρ j i) p q:=
 ⟨fun i j hr=>by
  obtain⟨x,y,h1,h2,h3,h4,h5,h6,h7⟩:=h.node _ _ hr
  exact⟨y,x,h2,h1,h3.symm,h4.symm,h5.symm,fun hk=>h6 (h3▸hk),fun hk=>h7 (h3▸hk)⟩,
  fun i j i' j' h1 h2=>(h.ord _ _ _ _ h1 h2).symm⟩
theorem Bi.trans {ρ σ:Nat->Nat->Prop}{q p t:List Nd}(h:Bi ρ q p)(g:Bi σ p t):Bi (fun i k=>∃j,ρ i j/\σ j k) q t:=
 ⟨fun i k ⟨j,h1,h2⟩=>by
  obtain⟨x,y,a1,a2,a3,a4,a5,a6,a7⟩:=h.node _ _ h1
  obtain⟨y',z,b1,b2,b3,b4,b5,b6,b7⟩:=g.node _ _ h2
  rw[a2]at b1;cases b1
  exact⟨x,z,a1,b2,a3.trans b3,a4.trans b4,a5.trans b5,fun hk=>⟨_,a6 hk,b6 (a3▸hk)⟩,fun hk=>⟨_,a7 hk,b7 (a3▸hk)⟩⟩,
  fun i k i' k' ⟨j,h1,h2⟩ ⟨j',h3,h4⟩=>(h.ord _ _ _ _ h1 h3).trans (g.ord _ _ _ _ h2 h4)⟩
theorem Bi.same {ρ:Nat->Nat->Prop}{q p:List Nd}(h:Bi ρ q p)(hq:Ah q)(hp:Ah p)(t1:∀i,i<q.length->∃j,ρ i j)(t2:∀j,j<p.length->∃i,ρ i j):q=p/\∀i j,ρ i j->i=j:=by
 have id1:∀i j,ρ i j->i=j:=by
  intro i
  induction i using Nat.strongRecOn with
  |_ i ih=>
   intro j hr
   obtain⟨x,y,hx,hy,_⟩:=h.node _ _ hr
   have li:=aQ hx
   have lj:=aQ hy
   have all:∀k,k<i->ρ k k:=fun k hk=>by
    obtain⟨j',hj'⟩:=t1 k (by omega)
    have:=ih k hk j' hj'
    rw[<-this]at hj';exact hj'
   rcases Nat.lt_trichotomy i j with hlt|he|hgt
   ·exfalso
    obtain⟨i',hi'⟩:=t2 i (by omega)
    have h1:=(h.ord _ _ _ _ hi' hr).2 hlt
    have h2:=(h.one hi' (all i' h1)).1 rfl
    omega
   ·exact he
   ·exfalso
    have:=(h.ord _ _ _ _ (all j hgt) hr).1 hgt
    omega
 refine⟨?_,id1⟩
 have hr:∀i,i<q.length->ρ i i:=fun i hi=>by
  obtain⟨j,hj⟩:=t1 i hi
  have:=id1 _ _ hj
  rw[<-this]at hj;exact hj
 have hlen:q.length=p.length:=by
  rcases Nat.lt_trichotomy q.length p.length with hlt|he|hgt
  ·obtain⟨i,hi⟩:=t2 q.length hlt
   have:=id1 _ _ hi
   obtain⟨x,y,hx,_⟩:=h.node _ _ hi
   have:=aQ hx
   omega
  ·exact he
  ·obtain⟨x,y,_,hy,_⟩:=h.node _ _ (hr p.length hgt)
   have:=aQ hy
   omega
 refine List.ext_getElem? fun i=>?_
 by_cases hi:i<q.length
 ·obtain⟨x,y,hx,hy,h3,h4,h5,h6,h7⟩:=h.node _ _ (hr i hi)
  rw[hx,hy]
  have ox:=hq _ _ hx
  have oy:=hp _ _ hy
  obtain⟨k1,n1,s1,a1,b1⟩:=x
  obtain⟨k2,n2,s2,a2,b2⟩:=y
  simp only at h3 h4 h5 h6 h7
  subst h3;subst h4;subst h5
  have hab:a1=a2/\b1=b2:=by
   by_cases e5:k1=5
   ·have u:=Az ox e5
    have v:=Az oy e5
    have w1:=id1 _ _ (h6 (.inl e5))
    have w2:=id1 _ _ (h7 e5)
    simp only at u v
    omega
   ·by_cases e6:k1=6\/k1=7
    ·have u:=Bz ox e6
     have v:=Bz oy e6
     have w1:=id1 _ _ (h6 (.inr e6))
     simp only at u v
     have zb:∀{a b:Int},okN ⟨k1,n1,s1,a,b⟩ (i:Int)=true->b=0:=by
      intro a b ho
      unfold okN at ho
      rcases e6 with e|e<;>subst e<;>simp at ho<;>exact ho.2.2.2
     rw[zb ox,zb oy]
     exact⟨by omega,rfl⟩
    ·have z:∀{a b:Int},okN ⟨k1,n1,s1,a,b⟩ (i:Int)=true->a=0/\b=0:=by
      intro a b ho
      unfold okN at ho
      simp only[e5,if_false]at ho
      have n6:¬k1=6:=fun e=>e6 (.inl e)
      have n7:¬k1=7:=fun e=>e6 (.inr e)
      simp only[n6,n7,if_false]at ho
      repeat' split at ho
      all_goals first|(simp at ho;done)|(simp at ho;exact ho.2.2)
     rw[(z ox).1,(z oy).1,(z ox).2,(z oy).2]
     exact⟨rfl,rfl⟩
  rw[hab.1,hab.2]
 ·rw[List.getElem?_eq_none (by omega),List.getElem?_eq_none (by omega)]
theorem RQ (d:Int){q:List Nd}{m:List Bool}(hm:m.length=q.length):∀(k:Nat) (pre:List Int) (acc:List Nd),pre.length+k=q.length ->
  (∀(i:Nat) (u:Int),m[i]? = some true->pre[i]? = some u->0<=u/\u<acc.length)->(∀(i i':Nat) (u u':Int),i<i'->m[i]? = some true->m[i']? = some true->pre[i]? = some u->pre[i']? = some u'->u<u') ->
  ∀(i i':Nat) (u u':Int),i<i'->m[i]? = some true->m[i']? = some true->(BH d q m k pre acc).1[i]? = some u->(BH d q m k pre acc).1[i']? = some u'->u<u'
 |0,pre,acc,hk,h1,h2=>h2
 |k+1,pre,acc,hk,h1,h2=>by
  obtain⟨x,hx⟩:=yM (l:=q) (i:=pre.length) (by omega)
  obtain⟨b,hb⟩:=yM (l:=m) (i:=pre.length) (by omega)
  have old:∀{i:Nat} {u v:Int},(pre++[v])[i]? = some u->(i<pre.length/\pre[i]? = some u)\/(i=pre.length/\u=v):=by
   intro i u v h
   by_cases hi:i<pre.length
   ·rw[List.getElem?_append_left hi]at h;exact .inl ⟨hi,h⟩
   ·have:=aQ h
    simp at this
    have e:i=pre.length:=by omega
    subst e
    simp at h
    exact .inr ⟨rfl,h.symm⟩
  simp only[BH,hx,hb]
  cases b with
  |false=>
   refine RQ d hm k (pre++[d]) acc (by simp;omega) (fun i u hmi hu=>?_) (fun i i' u u' hlt hmi hmi' hu hu'=>?_)
   ·rcases old hu with ⟨_,h⟩|⟨e,_⟩
    ·exact h1 _ _ hmi h
    ·subst e;rw[hb]at hmi;cases hmi
   ·rcases old hu with ⟨_,h⟩|⟨e,_⟩
    ·rcases old hu' with ⟨_,h'⟩|⟨e,_⟩
     ·exact h2 _ _ _ _ hlt hmi hmi' h h'
     ·subst e;rw[hb]at hmi';cases hmi'
    ·subst e;rw[hb]at hmi;cases hmi
  |true=>
   refine RQ d hm k (pre++[(acc.length:Int)]) (acc++[Aj pre x]) (by simp;omega) (fun i u hmi hu=>?_) (fun i i' u u' hlt hmi hmi' hu hu'=>?_)
   ·rcases old hu with ⟨_,h⟩|⟨e,e2⟩
    ·have:=h1 _ _ hmi h
     simp;omega
    ·simp;omega
   ·rcases old hu with ⟨l1,h⟩|⟨e,e2⟩
    ·rcases old hu' with ⟨_,h'⟩|⟨e,e2⟩
     ·exact h2 _ _ _ _ hlt hmi hmi' h h'
     ·have:=h1 _ _ hmi h
      omega
    ·have:i'<pre.length+1:=by have:=aQ hu';simpa using this
     omega
theorem Yi {q:List Nd}(hq:Af q=true){rs:List Int}(hr:Ar q rs=true)(d:Int) :
  Bi (fun i j=>Rch q rs i/\(Ba d q rs []).1[i]? = some (j:Int)) q (Bj d q rs).1/\Ah (Bj d q rs).1 /\
  (∀j,j<(Bj d q rs).1.length->∃i,Rch q rs i/\(Ba d q rs []).1[i]? = some (j:Int))/\(∀i,Rch q rs i->∃j:Nat,(Ba d q rs []).1[i]? = some (j:Int)):=by
 obtain⟨h1,h2⟩:=Qb hq (acc:=[]) (fun j x h=>by simp at h) rs d
 have hm:(Bu q rs).length=q.length:=Dr q rs
 have hin:∀i,Rch q rs i->∃x,q[i]? = some x:=by
  intro i hi
  have:=aQ (DH hq hr hi)
  exact yM (by omega)
 have hto:∀i,Rch q rs i->∃(j:Nat) (x:Nd),q[i]? = some x/\(Ba d q rs []).1[i]? = some (j:Int)/\(Ba d q rs []).2[j]? = some (Aj (Ba d q rs []).1 x):=by
  intro i hi
  obtain⟨x,hx⟩:=hin i hi
  obtain⟨j,e1,e2⟩:=h2 i x hx (DH hq hr hi)
  exact⟨j,x,hx,e1,e2⟩
 have mono:∀(i i':Nat) (u u':Int),i<i'->(Bu q rs)[i]? = some true->(Bu q rs)[i']? = some true->(Ba d q rs []).1[i]? = some u->(Ba d q rs []).1[i']? = some u'->u<u':=
  RQ d hm q.length [] [] (by simp) (fun i u _ h=>by simp at h) (fun i i' u u' _ _ _ h=>by simp at h)
 refine⟨⟨fun i j hr'=>?_,fun i j i' j' g1 g2=>?_⟩,h1,fun j hj=>?_,fun i hi=>?_⟩
 ·obtain⟨hi,hj⟩:=hr'
  obtain⟨j',x,hx,e1,e2⟩:=hto i hi
  rw[hj]at e1
  have ej:j=j':=by injection e1 with e1;omega
  subst ej
  obtain⟨k1,k2,k3⟩:=QL (Ba d q rs []).1 x
  have at':∀v:Int,Rch q rs v.toNat->(Ba d q rs []).1[v.toNat]? = some (((Ba d q rs []).1.getD v.toNat 0).toNat:Int):=by
   intro v hv
   obtain⟨j,_,_,e1,_⟩:=hto _ hv
   rw[List.getD_eq_getElem?_getD,e1];rfl
  refine⟨x,_,hx,e2,k1.symm,k2.symm,k3.symm,fun hk=>?_,fun hk=>?_⟩
  ·have ra:=Rch.a hi hx hk
   refine⟨ra,?_⟩
   have ea:(Aj (Ba d q rs []).1 x).a=(Ba d q rs []).1.getD x.a.toNat 0:=by
    unfold Aj
    rcases hk with hk|hk
    ·rw[if_pos hk]
    ·rw[if_neg (by omega),if_pos hk]
   rw[ea];exact at' _ ra
  ·have rb:=Rch.b hi hx hk
   refine⟨rb,?_⟩
   have eb:(Aj (Ba d q rs []).1 x).b=(Ba d q rs []).1.getD x.b.toNat 0:=by
    unfold Aj;rw[if_pos hk]
   rw[eb];exact at' _ rb
 ·have c1:=DH hq hr g1.1
  have c2:=DH hq hr g2.1
  constructor
  ·intro h;have:=mono _ _ _ _ h c1 c2 g1.2 g2.2;omega
  ·intro h
   rcases Nat.lt_trichotomy i i' with h'|h'|h'
   ·exact h'
   ·subst h'
    have:=g1.2.symm.trans g2.2
    injection this with this;omega
   ·have:=mono _ _ _ _ h' c2 c1 g2.2 g1.2;omega
 ·obtain⟨i,a1,a2⟩:=OU d hm q.length [] [] (by simp) (fun j hj=>by simp at hj) j hj
  exact⟨i,Ou a1,a2⟩
 ·obtain⟨j,_,_,e1,_⟩:=hto i hi
  exact⟨j,e1⟩
noncomputable def Bis (ρ:Nat->Nat->Prop):List Int->List Int->Prop
 |[],[]=>True
 |r::rs,t::ts=>ρ r.toNat t.toNat/\Bis ρ rs ts
 |_,_=>False
theorem Bis.fwd {ρ:Nat->Nat->Prop}:∀{rs ts:List Int},Bis ρ rs ts->∀r∈rs,∃t∈ts,ρ r.toNat t.toNat
 |[],[],_,r,hr=>by simp at hr
 |r::rs,t::ts,h,x,hx=>by
  rcases List.mem_cons.1 hx with rfl|hx
  ·exact⟨t,by simp,h.1⟩
  ·obtain⟨t',h1,h2⟩:=Bis.fwd h.2 x hx
   exact⟨t',by simp[h1],h2⟩
theorem Bis.flip {ρ:Nat->Nat->Prop}:∀{rs ts:List Int},Bis ρ rs ts->Bis (fun i j=>ρ j i) ts rs
 |[],[],_=>trivial
 |_::_,_::_,h=>⟨h.1,Bis.flip h.2⟩
theorem aal {ρ:Nat->Nat->Prop}{q p:List Nd}(h:Bi ρ q p){rs ts:List Int}(hb:Bis ρ rs ts){i:Nat}(hi:Rch q rs i):∃j,ρ i j/\Rch p ts j:=by
 induction hi with
 |root hr=>
  obtain⟨t,h1,h2⟩:=hb.fwd _ hr
  exact⟨_,h2,.root h1⟩
 |a hi hx hk ih=>
  obtain⟨j,h1,h2⟩:=ih
  obtain⟨x',y,e1,e2,e3,_,_,e6,_⟩:=h.node _ _ h1
  rw[hx]at e1;cases e1
  exact⟨_,e6 hk,.a h2 e2 (e3▸hk)⟩
 |b hi hx hk ih=>
  obtain⟨j,h1,h2⟩:=ih
  obtain⟨x',y,e1,e2,e3,_,_,_,e7⟩:=h.node _ _ h1
  rw[hx]at e1;cases e1
  exact⟨_,e7 hk,.b h2 e2 (e3▸hk)⟩
theorem aeH {ρ:Nat->Nat->Prop}{q p:List Nd}(h:Bi ρ q p)(hq:Af q=true)(hp:Af p=true){rs ts:List Int}(hr:Ar q rs=true)(ht:Ar p ts=true)(hb:Bis ρ rs ts)(d:Int):Bj d q rs=Bj d p ts:=by
 obtain⟨b1,o1,c1,d1⟩:=Yi hq hr d
 obtain⟨b2,o2,c2,d2⟩:=Yi hp ht d
 have hB:=(b1.flip.trans h).trans b2
 obtain⟨e,id1⟩:=hB.same o1 o2 (fun j hj=>by
  obtain⟨i,hi,hj'⟩:=c1 j hj
  obtain⟨i',h1,h2⟩:=aal h hb hi
  obtain⟨j',h3⟩:=d2 i' h2
  exact⟨j',i',⟨i,⟨hi,hj'⟩,h1⟩,h2,h3⟩) (fun j hj=>by
  obtain⟨i,hi,hj'⟩:=c2 j hj
  obtain⟨i',h1,h2⟩:=aal h.flip hb.flip hi
  obtain⟨j',h3⟩:=d1 i' h2
  exact⟨j',i,⟨i',⟨h2,h3⟩,h1⟩,hi,hj'⟩)
 have roots:∀(rs' ts':List Int),Bis ρ rs' ts'->(∀r∈rs',r∈rs)->(∀t∈ts',t∈ts)->(rs'.map fun r=>(Ba d q rs []).1.getD r.toNat 0)=ts'.map fun r=>(Ba d p ts []).1.getD r.toNat 0:=by
  intro rs'
  induction rs' with
  |nil=>
   intro ts' hb' _ _
   cases ts' with
   |nil=>rfl
   |cons _ _=>exact hb'.elim
  |cons r rs' ih=>
   intro ts' hb' h1 h2
   cases ts' with
   |nil=>exact hb'.elim
   |cons t ts'=>
    have r1:=Rch.root (q:=q) (h1 r (by simp))
    have r2:=Rch.root (q:=p) (h2 t (by simp))
    obtain⟨j1,e1⟩:=d1 _ r1
    obtain⟨j2,e2⟩:=d2 _ r2
    have ej:=id1 j1 j2 ⟨_,⟨_,⟨r1,e1⟩,hb'.1⟩,r2,e2⟩
    subst ej
    have:=ih ts' hb'.2 (fun x hx=>h1 x (by simp[hx])) (fun x hx=>h2 x (by simp[hx]))
    have hd:(Ba d q rs []).1.getD r.toNat 0=(Ba d p ts []).1.getD t.toNat 0:=by rw[List.getD_eq_getElem?_getD,List.getD_eq_getElem?_getD,e1,e2]
    rw[List.map_cons,List.map_cons,this,hd]
 exact Prod.ext e (roots rs ts hb (fun _ h=>h) (fun _ h=>h))
end Go.Eng
/-! a machine and one that holds the same: their steps,first part -/
namespace Go.Eng
noncomputable section

structure Grow (ρ:Nat->Nat->Prop) (q p:List Nd) (ρ':Nat->Nat->Prop) (q' p':List Nd):Prop where
 sub:∀i j,ρ i j->ρ' i j
 bi:Bi ρ' q' p'
 len:q'.length+p.length=p'.length+q.length
theorem Grow.refl {ρ:Nat->Nat->Prop}{q p:List Nd}(h:Bi ρ q p):Grow ρ q p ρ q p:=⟨fun _ _ h=>h,h,Nat.add_comm _ _⟩
theorem Grow.trans {ρ σ τ:Nat->Nat->Prop}{q p q1 p1 q2 p2:List Nd}(h:Grow ρ q p σ q1 p1)(g:Grow σ q1 p1 τ q2 p2):Grow ρ q p τ q2 p2:=
 ⟨fun i j hr=>g.sub _ _ (h.sub _ _ hr),g.bi,by have:=h.len;have:=g.len;omega⟩
def Nds (ρ:Nat->Nat->Prop)(x y:Nd):Prop:=x.kind=y.kind/\x.n=y.n/\x.s=y.s/\(kid x.kind->ρ x.a.toNat y.a.toNat)/\(x.kind=5->ρ x.b.toNat y.b.toNat)
theorem Bi.add {ρ:Nat->Nat->Prop}{q p:List Nd}(h:Bi ρ q p){x y:Nd}(hx:Nds ρ x y):∃ρ',Grow ρ q p ρ' (q++[x]) (p++[y])/\ρ' q.length p.length:=by
 have hl:∀i j,ρ i j->i<q.length/\j<p.length:=fun i j hr=>by
  obtain⟨x,y,h1,h2,_⟩:=h.node _ _ hr
  exact⟨aQ h1,aQ h2⟩
 refine⟨fun i j=>ρ i j\/(i=q.length/\j=p.length),⟨fun i j hr=>.inl hr,⟨fun i j hr=>?_,fun i j i' j' h1 h2=>?_⟩,by simp only[lnA,lnC,lnN];omega⟩,.inr ⟨rfl,rfl⟩⟩
 ·rcases hr with hr|⟨rfl,rfl⟩
  ·obtain⟨x',y',h1,h2,h3,h4,h5,h6,h7⟩:=h.node _ _ hr
   exact⟨x',y',by rw[List.getElem?_append_left (aQ h1)];exact h1,by rw[List.getElem?_append_left (aQ h2)];exact h2,h3,h4,h5,fun hk=>.inl (h6 hk),fun hk=>.inl (h7 hk)⟩
  ·exact⟨x,y,by simp,by simp,hx.1,hx.2.1,hx.2.2.1,fun hk=>.inl (hx.2.2.2.1 hk),fun hk=>.inl (hx.2.2.2.2 hk)⟩
 ·rcases h1 with h1|⟨rfl,rfl⟩
  ·rcases h2 with h2|⟨rfl,rfl⟩
   ·exact h.ord _ _ _ _ h1 h2
   ·have:=hl _ _ h1;omega
  ·rcases h2 with h2|⟨rfl,rfl⟩
   ·have:=hl _ _ h2;omega
   ·omega
def Vs (ρ:Nat->Nat->Prop)(v v':Int):Prop:=ρ v.toNat v'.toNat
theorem abV {p:List Nd}{v:Int}{x:Nd}(h:p[v.toNat]? = some x):nod p v=x:=by
 unfold nod;rw[List.getD_eq_getElem?_getD,h];rfl
theorem Bi.nod {ρ:Nat->Nat->Prop}{q p:List Nd}(h:Bi ρ q p){v v':Int}(hv:Vs ρ v v'):Nds ρ (nod q v) (nod p v'):=by
 obtain⟨x,y,h1,h2,h3⟩:=h.node _ _ hv
 rw[abV h1,abV h2];exact h3
structure BiM (ρ:Nat->Nat->Prop) (m m':Mc):Prop where
 bi:Bi ρ m.pool m'.pool
 at':m.at'=m'.at'
 s:Vs ρ m.s m'.s
 e:Vs ρ m.e m'.e
 d:Vs ρ m.d m'.d
 state:m.state=m'.state
 ask:m.ask=m'.ask
 arg:m.arg=m'.arg
theorem ae1 {ρ:Nat->Nat->Prop}{m m':Mc}(h:BiM ρ m m'){v v':Int}(hv:Vs ρ v v'):∃ρ',Grow ρ m.pool m'.pool ρ' (Je m v).pool (Je m' v').pool/\BiM ρ' (Je m v) (Je m' v'):=by
 obtain⟨ρ',g,h2⟩:=h.bi.add (x:=ndP v m.s) (y:=ndP v' m'.s) ⟨rfl,rfl,rfl,fun _=>hv,fun _=>h.s⟩
 exact⟨ρ',g,⟨g.bi,h.at',by simpa[Vs,Je]using h2,g.sub _ _ h.e,g.sub _ _ h.d,h.state,h.ask,h.arg⟩⟩
theorem U7 {ρ:Nat->Nat->Prop}{m m':Mc}(h:BiM ρ m m'):(DN m=none/\DN m'=none)\/∃v v' n n',DN m=some (v,n)/\DN m'=some (v',n')/\Vs ρ v v'/\BiM ρ n n'/\n.pool=m.pool/\n'.pool=m'.pool:=by
 obtain⟨h1,h2,h3,h4,h5⟩:=h.bi.nod h.s
 unfold DN
 by_cases hk:(Go.Eng.nod m.pool m.s).kind=5
 ·rw[if_pos hk,if_pos (h1▸hk)]
  exact .inr ⟨_,_,_,_,rfl,rfl,h4 (.inl hk),⟨h.bi,h.at',h5 hk,h.e,h.d,h.state,h.ask,h.arg⟩,rfl,rfl⟩
 ·rw[if_neg hk,if_neg (h1▸hk)]
  exact .inl ⟨rfl,rfl⟩
def Ls (ρ:Nat->Nat->Prop):List Int->List Int->Prop
 |[],[]=>True
 |v::l,v'::l'=>Vs ρ v v'/\Ls ρ l l'
 |_,_=>False
theorem Ls.len {ρ:Nat->Nat->Prop}:∀{l l':List Int},Ls ρ l l'->l.length=l'.length
 |[],[],_=>rfl
 |_::_,_::_,h=>by simp[Ls.len h.2]
theorem Ls.mono {ρ ρ':Nat->Nat->Prop}(hs:∀i j,ρ i j->ρ' i j):∀{l l':List Int},Ls ρ l l'->Ls ρ' l l'
 |[],[],_=>trivial
 |_::_,_::_,h=>⟨hs _ _ h.1,Ls.mono hs h.2⟩
theorem Ls.app {ρ:Nat->Nat->Prop}:∀{l l' k k':List Int},Ls ρ l l'->Ls ρ k k'->Ls ρ (l++k) (l'++k')
 |[],[],_,_,_,h=>h
 |_::_,_::_,_,_,h,h2=>⟨h.1,Ls.app h.2 h2⟩
theorem Ls.rev {ρ:Nat->Nat->Prop}:∀{l l':List Int},Ls ρ l l'->Ls ρ l.reverse l'.reverse
 |[],[],_=>trivial
 |v::l,v'::l',h=>by
  rw[List.reverse_cons,List.reverse_cons]
  exact (Ls.rev h.2).app ⟨h.1,trivial⟩
theorem Ls.drop {ρ:Nat->Nat->Prop}:∀{l l':List Int} (k:Nat),Ls ρ l l'->Ls ρ (l.drop k) (l'.drop k)
 |[],[],k,_=>by simp[Ls]
 |_::_,_::_,0,h=>h
 |_::_,_::_,k+1,h=>Ls.drop k h.2
theorem Ls.get {ρ:Nat->Nat->Prop}:∀{l l':List Int} (k:Nat),Ls ρ l l'->k<l.length->Vs ρ (l.getD k 0) (l'.getD k 0)
 |[],[],k,_,hk=>by simp at hk
 |_::_,_::_,0,h,_=>h.1
 |_::_,_::_,k+1,h,hk=>by simpa using Ls.get k h.2 (by simpa using hk)
theorem WV:∀(k:Nat){ρ:Nat->Nat->Prop}{m m':Mc},BiM ρ m m'->(D8 k m=none/\D8 k m'=none)\/∃l l' n n',D8 k m=some (l,n)/\D8 k m'=some (l',n')/\Ls ρ l l'/\l.length=k/\BiM ρ n n'/\n.pool=m.pool/\n'.pool=m'.pool
 |0,ρ,m,m',h=>.inr ⟨[],[],m,m',rfl,rfl,trivial,rfl,h,rfl,rfl⟩
 |k+1,ρ,m,m',h=>by
  simp only[D8]
  rcases U7 h with ⟨e1,e2⟩|⟨v,v',n,n',e1,e2,hv,hn,p1,p2⟩
  ·rw[e1,e2];exact .inl ⟨rfl,rfl⟩
  ·rw[e1,e2]
   rcases WV k hn with ⟨f1,f2⟩|⟨l,l',t,t',f1,f2,hl,hk,ht,p3,p4⟩
   ·simp only[f1,f2];exact .inl ⟨trivial,trivial⟩
   ·simp only[f1,f2]
    exact .inr ⟨_,_,_,_,rfl,rfl,⟨hv,hl⟩,by simp[hk],ht,p3.trans p1,p4.trans p2⟩
theorem Yp:∀(k:Nat){ρ:Nat->Nat->Prop}{q p:List Nd},Bi ρ q p->∀{v v':Int},Vs ρ v v'->(Jy q k v=none/\Jy p k v'=none)\/∃u u',Jy q k v=some u/\Jy p k v'=some u'/\Vs ρ u u'
 |0,ρ,q,p,h,v,v',hv=>by
  obtain⟨h1,h2,h3,h4,h5⟩:=h.nod hv
  simp only[Jy]
  by_cases hk:(Go.Eng.nod q v).kind=5
  ·rw[if_pos hk,if_pos (h1▸hk)];exact .inr ⟨_,_,rfl,rfl,h4 (.inl hk)⟩
  ·rw[if_neg hk,if_neg (h1▸hk)];exact .inl ⟨rfl,rfl⟩
 |k+1,ρ,q,p,h,v,v',hv=>by
  obtain⟨h1,h2,h3,h4,h5⟩:=h.nod hv
  simp only[Jy]
  by_cases hk:(Go.Eng.nod q v).kind=5
  ·rw[if_pos hk,if_pos (h1▸hk)];exact Yp k h (h5 hk)
  ·rw[if_neg hk,if_neg (h1▸hk)];exact .inl ⟨rfl,rfl⟩
end
end Go.Eng
/-! a machine and one that holds the same: their steps,second part -/
namespace Go.Eng

theorem abU {ρ:Nat->Nat->Prop}{q p:List Nd}(h:Bi ρ q p)(hq:Ah q)(hp:Ah p):∀(k k':Nat) {v v':Int},Vs ρ v v'->v.toNat<k->v'.toNat<k'->Ls ρ (Gq q k v).1 (Gq p k' v').1/\(Gq q k v).2=(Gq p k' v').2
 |0,k',v,v',hv,h1,h2=>by omega
 |k+1,0,v,v',hv,h1,h2=>by omega
 |k+1,k'+1,v,v',hv,h1,h2=>by
  obtain⟨x,y,e1,e2,e3,e4,e5,e6,e7⟩:=h.node _ _ hv
  simp only[Gq,abV e1,abV e2]
  by_cases hk:x.kind=5
  ·rw[if_pos hk,if_pos (e3▸hk)]
   have ox:=Az (hq _ _ e1) hk
   have oy:=Az (hp _ _ e2) (e3▸hk)
   obtain⟨i1,i2⟩:=abU h hq hp k k' (v:=x.b) (v':=y.b) (e7 hk) (by omega) (by omega)
   exact⟨⟨e6 (.inl hk),i1⟩,i2⟩
  ·rw[if_neg hk,if_neg (e3▸hk)]
   exact⟨trivial,by rw[e3]⟩
theorem Ws {ρ:Nat->Nat->Prop}{q p:List Nd}(h:Bi ρ q p)(hq:Ah q)(hp:Ah p)(c:Cd)(many:Nat){v v':Int}(hv:Vs ρ v v') :
  (GJ c q v many=none/\GJ c p v' many=none)\/∃n r r',GJ c q v many=some (n,r)/\GJ c p v' many=some (n,r')/\Ls ρ r r'/\r.length+1=many:=by
 obtain⟨i1,i2⟩:=abU h hq hp (v.toNat+1) (v'.toNat+1) hv (by omega) (by omega)
 unfold GJ
 unfold Bc
 cases hl:Gq q (v.toNat+1) v with
 |mk l f=>
  cases hl':Gq p (v'.toNat+1) v' with
  |mk l' f'=>
   rw[hl,hl']at i1 i2
   simp only at i1 i2
   subst i2
   match l,l',i1 with
   |[],[],_=>exact .inl ⟨rfl,rfl⟩
   |a::r,a'::r',i1=>
    cases f with
    |false=>exact .inl ⟨rfl,rfl⟩
    |true=>
     obtain⟨h1,h2,_⟩:=h.nod i1.1
     simp only
     rw[<-h1,<-h2,<-i1.2.len]
     split
     ·rename_i hc
      exact .inr ⟨_,_,_,rfl,rfl,i1.2,hc.1⟩
     ·exact .inl ⟨rfl,rfl⟩
noncomputable def Ans (ρ:Nat->Nat->Prop) (m m':Mc) (r r':Except Int Mc):Prop:=match r,r' with
 |.error h,.error h'=>h=h'
 |.ok n,.ok n'=>∃ρ',Grow ρ m.pool m'.pool ρ' n.pool n'.pool/\BiM ρ' n n'
 |_,_=>False
theorem Ans.over {ρ ρ1:Nat->Nat->Prop}{m m' n n':Mc}{r r':Except Int Mc}(g:Grow ρ m.pool m'.pool ρ1 n.pool n'.pool)(h:Ans ρ1 n n' r r'):Ans ρ m m' r r':=by
 unfold Ans at h⊢
 cases r<;>cases r'<;>simp only at h⊢
 ·exact h
 ·obtain⟨ρ',g2,h2⟩:=h;exact⟨ρ',g.trans g2,h2⟩
theorem MC {ρ:Nat->Nat->Prop}{m m':Mc}(h:BiM ρ m m'){v v':Int}(hv:Vs ρ v v'):Ans ρ m m' (.ok (Je m v)) (.ok (Je m' v')):=ae1 h hv
theorem BiM.pool {ρ ρ':Nat->Nat->Prop}{m m':Mc}{q p:List Nd}(h:BiM ρ m m')(g:Grow ρ m.pool m'.pool ρ' q p):BiM ρ' ⟨q,m.at',m.s,m.e,m.d,m.state,m.ask,m.arg⟩ ⟨p,m'.at',m'.s,m'.e,m'.d,m'.state,m'.ask,m'.arg⟩:=
 ⟨g.bi,h.at',g.sub _ _ h.s,g.sub _ _ h.e,g.sub _ _ h.d,h.state,h.ask,h.arg⟩
theorem afa {ρ:Nat->Nat->Prop}{m m':Mc}(h:BiM ρ m m')(o i:Int):Ans ρ m m' (Tj m o i) (Tj m' o i):=by
 unfold Tj
 rcases Yp o.toNat h.bi h.e with ⟨e1,e2⟩|⟨u,u',e1,e2,hu⟩
 ·rw[e1,e2];exact rfl
 ·rw[e1,e2]
  rcases Yp i.toNat h.bi hu with ⟨f1,f2⟩|⟨v,v',f1,f2,hv⟩
  ·simp only[f1,f2];exact rfl
  ·simp only[f1,f2];exact MC h hv
theorem Fe {ρ:Nat->Nat->Prop}{x:Nd}(hk:¬kid x.kind):Nds ρ x x:=⟨rfl,rfl,rfl,fun h=>absurd h hk,fun h=>absurd (.inl h) hk⟩
theorem adJ {ρ:Nat->Nat->Prop}{m m':Mc}(h:BiM ρ m m')(c:Cd)(s:ByteArray):Ans ρ m m' (J0 c m s) (J0 c m' s):=by
 unfold J0
 split
 ·obtain⟨ρ1,g1,h1⟩:=h.bi.add (x:=ndN) (y:=ndN) (Fe (by simp[kid]))
  obtain⟨ρ2,g2,h2⟩:=g1.bi.add (x:=ndF (8*(c.defs.getD (Ew c s).toNat ⟨⟨#[]⟩,0,0⟩).at'+(c.defs.getD (Ew c s).toNat ⟨⟨#[]⟩,0,0⟩).args) m.pool.length) (y:=ndF (8*(c.defs.getD (Ew c s).toNat ⟨⟨#[]⟩,0,0⟩).at'+(c.defs.getD (Ew c s).toNat ⟨⟨#[]⟩,0,0⟩).args) m'.pool.length) ⟨rfl,rfl,rfl,fun _=>by simpa using h1,fun e=>by cases e⟩
  have g:=g1.trans g2
  refine Ans.over (n:=⟨_,m.at',m.s,m.e,m.d,m.state,m.ask,m.arg⟩) (n':=⟨_,m'.at',m'.s,m'.e,m'.d,m'.state,m'.ask,m'.arg⟩) g (MC (h.pool g) ?_)
  have:Vs ρ2 ((m.pool++[ndN]).length:Int) ((m'.pool++[ndN]).length:Int):=by simpa[Vs]using h2
  simpa using this
 ·split
  ·exact rfl
  ·obtain⟨ρ1,g1,h1⟩:=h.bi.add (x:=ndR (Eo s)) (y:=ndR (Eo s)) (Fe (by simp[kid]))
   refine Ans.over (n:=⟨_,m.at',m.s,m.e,m.d,m.state,m.ask,m.arg⟩) (n':=⟨_,m'.at',m'.s,m'.e,m'.d,m'.state,m'.ask,m'.arg⟩) g1 (MC (h.pool g1) ?_)
   simpa[Vs]using h1
theorem Uo:∀{l l':List Int}{ρ:Nat->Nat->Prop}{q p:List Nd}{a a':Nat},Bi ρ q p->Ls ρ l l'->ρ a a'->∃ρ',Grow ρ q p ρ' (BZ l q a).1 (BZ l' p a').1/\ρ' (BZ l q a).2 (BZ l' p a').2
 |[],[],ρ,q,p,a,a',h,_,ha=>⟨ρ,Grow.refl h,ha⟩
 |v::l,v'::l',ρ,q,p,a,a',h,hl,ha=>by
  obtain⟨ρ1,g1,h1⟩:=h.add (x:=⟨5,0,⟨#[]⟩,v,(a:Int)⟩) (y:=⟨5,0,⟨#[]⟩,v',(a':Int)⟩) ⟨rfl,rfl,rfl,fun _=>hl.1,fun _=>by simpa using ha⟩
  obtain⟨ρ2,g2,h2⟩:=Uo (l:=l) (l':=l') g1.bi (hl.2.mono g1.sub) h1
  exact⟨ρ2,g1.trans g2,h2⟩
theorem QJ {l l':List Int}{ρ:Nat->Nat->Prop}{q p:List Nd}(h:Bi ρ q p)(hl:Ls ρ l l'):∃ρ',Grow ρ q p ρ' (Ac q l).1 (Ac p l').1/\ρ' (Ac q l).2 (Ac p l').2:=by
 obtain⟨ρ1,g1,h1⟩:=h.add (x:=ndN) (y:=ndN) (Fe (by simp[kid]))
 obtain⟨ρ2,g2,h2⟩:=Uo (l:=l.reverse) (l':=l'.reverse) g1.bi (hl.rev.mono g1.sub) h1
 exact⟨ρ2,g1.trans g2,h2⟩
theorem acp {ρ:Nat->Nat->Prop}{m m':Mc}(h:BiM ρ m m')(c:Cd){f f':Nd}(hf:Nds ρ f f')(h6:f.kind=6){l l':List Int}(hl:Ls ρ l l'):Ans ρ m m' (GH c m f l) (GH c m' f' l'):=by
 unfold GH
 rw[<-hf.2.1,<-hl.len]
 split
 ·exact rfl
 ·split
  ·exact rfl
  ·obtain⟨ρ1,g1,h1⟩:=h.bi.add (x:=ndI (m.at'+1)) (y:=ndI (m'.at'+1)) (by rw[h.at'];exact Fe (by simp[kid]))
   obtain⟨ρ2,g2,h2⟩:=QJ (l:=[(m.pool.length:Int),m.s,m.e]) (l':=[(m'.pool.length:Int),m'.s,m'.e]) g1.bi ⟨by simpa[Vs]using h1,g1.sub _ _ h.s,g1.sub _ _ h.e,trivial⟩
   have g12:=g1.trans g2
   obtain⟨ρ3,g3,h3⟩:=g2.bi.add (x:=ndP (Ac (m.pool++[ndI (m.at'+1)]) [(m.pool.length:Int),m.s,m.e]).2 m.d) (y:=ndP (Ac (m'.pool++[ndI (m'.at'+1)]) [(m'.pool.length:Int),m'.s,m'.e]).2 m'.d) ⟨rfl,rfl,rfl,fun _=>by simpa using h2,fun _=>g12.sub _ _ h.d⟩
   have g13:=g12.trans g3
   obtain⟨ρ4,g4,h4⟩:=QJ (l:=l) (l':=l') g3.bi (hl.mono g13.sub)
   have g14:=g13.trans g4
   obtain⟨ρ5,g5,h5⟩:=g4.bi.add (x:=ndP (Ac ((Ac (m.pool++[ndI (m.at'+1)]) [(m.pool.length:Int),m.s,m.e]).1++[ndP (Ac (m.pool++[ndI (m.at'+1)]) [(m.pool.length:Int),m.s,m.e]).2 m.d]) l).2 f.a) (y:=ndP (Ac ((Ac (m'.pool++[ndI (m'.at'+1)]) [(m'.pool.length:Int),m'.s,m'.e]).1++[ndP (Ac (m'.pool++[ndI (m'.at'+1)]) [(m'.pool.length:Int),m'.s,m'.e]).2 m'.d]) l').2 f'.a) ⟨rfl,rfl,rfl,fun _=>by simpa using h4,fun _=>g14.sub _ _ (hf.2.2.2.1 (.inr (.inl h6)))⟩
   have g15:=g14.trans g5
   obtain⟨ρ6,g6,h6'⟩:=g5.bi.add (x:=ndN) (y:=ndN) (Fe (by simp[kid]))
   have g16:=g15.trans g6
   refine⟨ρ6,g16,⟨g16.bi,rfl,?_,?_,?_,h.state,h.ask,h.arg⟩⟩
   ·simpa[Vs]using h6'
   ·have:=g6.sub _ _ h5
    simpa[Vs]using this
   ·have:=g6.sub _ _ (g5.sub _ _ (g4.sub _ _ h3))
    simpa[Vs]using this
theorem ae2 {ρ:Nat->Nat->Prop}{m m':Mc}(h:BiM ρ m m')(hq:Ah m.pool)(hp:Ah m'.pool)(c:Cd){st st':Int}(hs:Vs ρ st st'){l l':List Int}(hl:Ls ρ l l'):Ans ρ m m' (QX c m st l) (QX c m' st' l'):=by
 unfold QX
 rw[<-hl.len]
 split
 ·exact rfl
 ·rename_i hlen
  rcases Ws h.bi hq hp c 4 hs with ⟨e1,e2⟩|⟨n,r,r',e1,e2,hr,hn⟩
  ·rw[e1,e2];exact rfl
  ·rw[e1,e2]
   match r,r',hr,hn with
   |[s,e,d],[s',e',d'],hr,_=>
    exact MC (m:=⟨m.pool,n,s,e,d,m.state,m.ask,m.arg⟩) (m':=⟨m'.pool,n,s',e',d',m'.state,m'.ask,m'.arg⟩) ⟨h.bi,rfl,hr.1,hr.2.1,hr.2.2.1,h.state,h.ask,h.arg⟩ (hl.get 0 (by omega))
end Go.Eng
/-! which nodes are alike: by their trees -/
namespace Go.Eng

inductive Alk (q p:List Nd):Nat->Nat->Prop where
 |mk (v u:Nat) (x y:Nd):q[v]? = some x->p[u]? = some y->x.kind=y.kind->x.n=y.n->x.s=y.s->((x.kind=5\/x.kind=6\/x.kind=7)->Alk q p x.a.toNat y.a.toNat)->(x.kind=5->Alk q p x.b.toNat y.b.toNat)->Alk q p v u
theorem Alk.left {q p:List Nd}{v u:Nat}(h:Alk q p v u)(e:List Nd):Alk (q++e) p v u:=by
 induction h with
 |mk v u x y h1 h2 h3 h4 h5 h6 h7 ih1 ih2=>exact .mk v u x y (by rw[List.getElem?_append_left (aQ h1)];exact h1) h2 h3 h4 h5 ih1 ih2
theorem Alk.right {q p:List Nd}{v u:Nat}(h:Alk q p v u)(e:List Nd):Alk q (p++e) v u:=by
 induction h with
 |mk v u x y h1 h2 h3 h4 h5 h6 h7 ih1 ih2=>exact .mk v u x y h1 (by rw[List.getElem?_append_left (aQ h2)];exact h2) h3 h4 h5 ih1 ih2

noncomputable def Rl (keys:List Nd) (key:Nd) (i:Nat):Int:=match keys.findIdx? (fun y=>GL y key) with|some k=>(k:Int)|none=>(i:Int)
theorem PP (x:Nd)(r:List Nd)(out:List Int)(keys:List Nd):MG (x::r) out keys=MG r (out++[Rl keys (Ay out x) out.length]) (keys++[Ay out x]):=rfl
theorem Y7:∀(r:List Nd)(out:List Int)(keys:List Nd),∃a b,MG r out keys=(out++a,keys++b)
 |[],out,keys=>⟨[],[],by simp[MG]⟩
 |x::r,out,keys=>by
  obtain⟨a,b,h⟩:=Y7 r (out++[Rl keys (Ay out x) out.length]) (keys++[Ay out x])
  exact⟨Rl keys (Ay out x) out.length::a,Ay out x::b,by rw[PP,h];simp⟩
structure ClOf (O:List Int) (K:List Nd) (i:Nat) (x:Nd):Prop where
 key:K[i]? = some (Ay (O.take i) x)
 out:O[i]? = some (Rl (K.take i) (Ay (O.take i) x) i)
theorem Qq:∀(r:List Nd)(out:List Int)(keys:List Nd),out.length=keys.length->∀(j:Nat) (x:Nd),r[j]? = some x->ClOf (MG r out keys).1 (MG r out keys).2 (out.length+j) x
 |[],out,keys,hl,j,x,h=>by simp at h
 |y::r,out,keys,hl,j,x,h=>by
  rw[PP]
  match j with
  |0=>
   simp only[List.getElem?_cons_zero,Option.some.injEq]at h
   subst h
   obtain⟨a,b,e⟩:=Y7 r (out++[Rl keys (Ay out y) out.length]) (keys++[Ay out y])
   rw[e]
   have t1:(out++[Rl keys (Ay out y) out.length]++a).take (out.length+0)=out:=by
    rw[Nat.add_zero,List.append_assoc,List.take_left]
   have t2:(keys++[Ay out y]++b).take (out.length+0)=keys:=by
    rw[Nat.add_zero,hl,List.append_assoc,List.take_left]
   refine⟨?_,?_⟩
   ·show (keys++[Ay out y]++b)[out.length+0]? = _
    rw[t1,Nat.add_zero,hl,List.append_assoc,List.getElem?_append_right (Nat.le_refl _)]
    simp
   ·show (out++[Rl keys (Ay out y) out.length]++a)[out.length+0]? = _
    rw[t1,t2,Nat.add_zero,List.append_assoc,List.getElem?_append_right (Nat.le_refl _)]
    simp
  |j+1=>
   simp only[List.getElem?_cons_succ]at h
   have:=Qq r (out++[Rl keys (Ay out y) out.length]) (keys++[Ay out y]) (by simp[hl]) j x h
   rw[lnA,lnC,lnN]at this
   rw[show out.length+(j+1)=out.length+(0+1)+j by omega]
   exact this
theorem Wc {K:List Nd}{i j:Nat}{key:Nd}(hij:i<=j)(_:j<=K.length)(hi:K[i]? = some key):Rl (K.take i) key i=Rl (K.take j) key j\/i=j:=by
 by_cases e:i=j
 ·exact .inr e
 refine .inl ?_
 have hsplit:K.take j=K.take i++(K.drop i).take (j-i):=by
  rw[<-List.take_add];congr 1;omega
 have hd:(K.drop i).take (j-i)=key::(K.drop (i+1)).take (j-i-1):=by
  rw[vc hi,show j-i=(j-i-1)+1 by omega,List.take_succ_cons]
  congr 2
 have hk:GL key key=true:=ndEq_iff.2 rfl
 unfold Rl
 rw[hsplit,hd,List.findIdx?_append]
 have hli:(K.take i).length=i:=by rw[List.length_take];have:=aQ hi;omega
 cases h:(K.take i).findIdx? (fun y=>GL y key) with
 |some k=>simp
 |none=>simp[List.findIdx?_cons,hk,hli]
theorem aeu {p:List Nd}{i j:Nat}{x y:Nd}(hx:p[i]? = some x)(hy:p[j]? = some y)(hk:Ay ((Fq p).take i) x=Ay ((Fq p).take j) y):(Fq p)[i]? = (Fq p)[j]?:=by
 have a:=Qq p [] [] rfl i x hx
 have b:=Qq p [] [] rfl j y hy
 rw[lnN,Nat.zero_add]at a b
 have e:Fq p=(MG p [] []).1:=rfl
 rw[e]at hk⊢
 obtain⟨a1,a2⟩:=a
 obtain⟨b1,b2⟩:=b
 rw[hk]at a1 a2
 have li:=aQ a1
 have lj:=aQ b1
 rw[a2,b2]
 rcases Nat.le_total i j with h|h
 ·rcases Wc h (by omega) a1 with q|q
  ·rw[q]
  ·subst q;rfl
 ·rcases Wc h (by omega) b1 with q|q
  ·rw[q]
  ·subst q;rfl
theorem abF (p:List Nd):(Fq p).length=p.length:=by
 have h:∀(r:List Nd) (out:List Int) (keys:List Nd),(MG r out keys).1.length=out.length+r.length:=by
  intro r
  induction r with
  |nil=>intro out keys;simp[MG]
  |cons x r ih=>intro out keys;rw[PP,ih];simp;omega
 have:=h p [] []
 simp at this
 exact this
theorem aeq {p:List Nd}(hp:Ah p){v u:Nat}(h:Alk p p v u):(Fq p)[v]? = (Fq p)[u]?:=by
 induction h with
 |mk v u x y h1 h2 h3 h4 h5 h6 h7 ih1 ih2=>
  refine aeu h1 h2 ?_
  have ox:=hp v x h1
  have oy:=hp u y h2
  have lv:=aQ h1
  have lu:=aQ h2
  have ch:∀{a b:Int} {i j:Nat},0<=a->a<(i:Int)->0<=b->b<(j:Int)->i<=p.length->j<=p.length->(Fq p)[a.toNat]? = (Fq p)[b.toNat]?->((Fq p).take i).getD a.toNat 0=((Fq p).take j).getD b.toNat 0:=by
   intro a b i j a0 a1 b0 b1 _ _ he
   rw[List.getD_eq_getElem?_getD,List.getD_eq_getElem?_getD,List.getElem?_take,List.getElem?_take,if_pos (by omega),if_pos (by omega),he]
  unfold Ay
  by_cases k5:x.kind=5
  ·have k5':y.kind=5:=by rw[<-h3];exact k5
   have px:=Az ox k5
   have py:=Az oy k5'
   rw[if_pos k5,if_pos k5',h3,h4,h5,ch px.1 px.2.1 py.1 py.2.1 (by omega) (by omega) (ih1 (.inl k5)),ch px.2.2.1 px.2.2.2 py.2.2.1 py.2.2.2 (by omega) (by omega) (ih2 k5)]
  ·have k5':¬y.kind=5:=by rw[<-h3];exact k5
   rw[if_neg k5,if_neg k5']
   by_cases k67:x.kind=6\/x.kind=7
   ·have k67':y.kind=6\/y.kind=7:=by rw[<-h3];exact k67
    have px:=Bz ox k67
    have py:=Bz oy k67'
    have bx:x.b=0:=by rcases k67 with k|k<;>(simp[okN,k]at ox;omega)
    have by':y.b=0:=by rcases k67' with k|k<;>(simp[okN,k]at oy;omega)
    rw[if_pos k67,if_pos k67',h3,h4,h5,ch px.1 px.2 py.1 py.2 (by omega) (by omega) (ih1 (.inr k67)),bx,by']
   ·have k67':¬(y.kind=6\/y.kind=7):=by rw[<-h3];exact k67
    rw[if_neg k67,if_neg k67']
    have flat0:∀{z:Nd} {i:Int},okN z i=true->z.kind≠5->¬(z.kind=6\/z.kind=7)->z.a=0/\z.b=0:=by
     intro z i hz k5 k67
     unfold okN at hz
     repeat' split at hz
     all_goals first
      |(exfalso;omega)
      |(cases hz;done)
      |(simp only[Bool.and_eq_true,beq_iff_eq]at hz;exact⟨hz.2.2.1,hz.2.2.2⟩)
    obtain⟨a1,a2⟩:=flat0 ox k5 k67
    obtain⟨b1,b2⟩:=flat0 oy k5' k67'
    cases x;cases y
    simp only at h3 h4 h5 a1 a2 b1 b2
    rw[h3,h4,h5,a1,a2,b1,b2]
theorem adf {p:List Nd}(hp:Ah p){a b:Int}(h:Alk p p a.toNat b.toNat):PC p a b=true:=by
 unfold PC
 rw[List.getD_eq_getElem?_getD,List.getD_eq_getElem?_getD,aeq hp h]
 simp
end Go.Eng
/-! one class: one tree -/
namespace Go.Eng

theorem Y6 {K:List Nd}{i:Nat}{key:Nd}(hi:K[i]? = some key):∃k:Nat,Rl (K.take i) key i=(k:Int)/\K[k]? = some key:=by
 unfold Rl
 cases hf:(K.take i).findIdx? (fun y=>GL y key) with
 |none=>exact⟨i,rfl,hi⟩
 |some k=>
  have h1:=List.findIdx?_eq_some_iff_getElem.1 hf
  obtain⟨hk,h2,_⟩:=h1
  refine⟨k,rfl,?_⟩
  have h3:=ndEq_iff.1 h2
  rw[List.getElem_take]at h3
  rw[List.length_take]at hk
  rw[List.getElem?_eq_getElem (by omega),h3]
theorem adu {p:List Nd}{i j:Nat}{x y:Nd}(hx:p[i]? = some x)(hy:p[j]? = some y)(hk:(Fq p)[i]? = (Fq p)[j]?):Ay ((Fq p).take i) x=Ay ((Fq p).take j) y:=by
 have a:=Qq p [] [] rfl i x hx
 have b:=Qq p [] [] rfl j y hy
 rw[lnN,Nat.zero_add]at a b
 have e:Fq p=(MG p [] []).1:=rfl
 rw[e]at hk⊢
 obtain⟨a1,a2⟩:=a
 obtain⟨b1,b2⟩:=b
 obtain⟨k,c1,c2⟩:=Y6 a1
 obtain⟨k',d1,d2⟩:=Y6 b1
 rw[a2,b2,c1,d1]at hk
 injection hk with hk
 have:k=k':=by omega
 subst this
 rw[c2]at d2
 injection d2
theorem abE {p:List Nd}(hp:Ah p):∀(n v u:Nat),v<n->u<n->v<p.length->u<p.length->(Fq p)[v]? = (Fq p)[u]?->Alk p p v u
 |0,v,u,h1,_,_,_,_=>by omega
 |n+1,v,u,h1,h2,hv,hu,hc=>by
  obtain⟨x,hx⟩:=yM hv
  obtain⟨y,hy⟩:=yM hu
  have hk:=adu hx hy hc
  have ox:=hp _ _ hx
  have oy:=hp _ _ hy
  have kx:∀{i:Nat} {z:Nd},(Ay ((Fq p).take i) z).kind=z.kind/\(Ay ((Fq p).take i) z).n=z.n/\(Ay ((Fq p).take i) z).s=z.s:=by
   intro i z;unfold Ay;split
   ·exact⟨rfl,rfl,rfl⟩
   ·split<;>exact⟨rfl,rfl,rfl⟩
  have e1:x.kind=y.kind:=by rw[<-(kx (i:=v) (z:=x)).1,hk,(kx (i:=u) (z:=y)).1]
  have e2:x.n=y.n:=by rw[<-(kx (i:=v) (z:=x)).2.1,hk,(kx (i:=u) (z:=y)).2.1]
  have e3:x.s=y.s:=by rw[<-(kx (i:=v) (z:=x)).2.2,hk,(kx (i:=u) (z:=y)).2.2]
  have sub:∀{a b:Int},0<=a->a<v->0<=b->b<u->((Fq p).take v).getD a.toNat 0=((Fq p).take u).getD b.toNat 0->Alk p p a.toNat b.toNat:=by
   intro a b a0 a1 b0 b1 he
   have l1:=abF p
   refine abE hp n a.toNat b.toNat (by omega) (by omega) (by omega) (by omega) ?_
   rw[List.getD_eq_getElem?_getD,List.getD_eq_getElem?_getD,List.getElem?_take_of_lt (by omega),List.getElem?_take_of_lt (by omega)]at he
   obtain⟨w1,g1⟩:=yM (l:=Fq p) (i:=a.toNat) (by omega)
   obtain⟨w2,g2⟩:=yM (l:=Fq p) (i:=b.toNat) (by omega)
   rw[g1,g2]at he⊢
   simpa using he
  refine .mk v u x y hx hy e1 e2 e3 (fun h=>?_) (fun h=>?_)
  ·by_cases h5:x.kind=5
   ·have u1:=Az ox h5
    have u2:=Az oy (e1▸h5)
    simp only[Ay,h5,<-e1,if_true,Nd.mk.injEq,true_and]at hk
    exact sub u1.1 u1.2.1 u2.1 u2.2.1 hk.2.2.1
   ·have h6:x.kind=6\/x.kind=7:=by rcases h with h|h|h<;>simp_all
    have u1:=Bz ox h6
    have u2:=Bz oy (e1▸h6)
    simp only[Ay,h5,h6,<-e1,if_true,if_false,Nd.mk.injEq,true_and]at hk
    exact sub u1.1 u1.2 u2.1 u2.2 hk.2.2.1
  ·have u1:=Az ox h
   have u2:=Az oy (e1▸h)
   simp only[Ay,h,<-e1,if_true,Nd.mk.injEq,true_and]at hk
   exact sub u1.2.2.1 u1.2.2.2 u2.2.2.1 u2.2.2.2 hk.2.2.2
theorem aap {p:List Nd}(hp:Ah p){a b:Int}(ha:a.toNat<p.length)(hb:b.toNat<p.length):PC p a b=true↔Alk p p a.toNat b.toNat:=by
 constructor
 ·intro h
  have l1:=abF p
  refine abE hp p.length _ _ ha hb ha hb ?_
  obtain⟨w1,g1⟩:=yM (l:=Fq p) (i:=a.toNat) (by omega)
  obtain⟨w2,g2⟩:=yM (l:=Fq p) (i:=b.toNat) (by omega)
  simp only[PC,List.getD_eq_getElem?_getD,g1,g2,Option.getD_some,beq_iff_eq]at h
  rw[g1,g2,h]
 ·exact adf hp
end Go.Eng
/-! a machine and one that holds the same: their steps,third part -/
namespace Go.Eng

theorem YQ {ρ:Nat->Nat->Prop}{q p:List Nd}(h:Bi ρ q p){v u:Nat}(ha:Alk q q v u):∀{v' u':Nat},ρ v v'->ρ u u'->Alk p p v' u':=by
 induction ha with
 |mk v u x y hx hy e1 e2 e3 h4 h5 ih1 ih2=>
  intro v' u' hv hu
  obtain⟨x1,x',a1,a2,a3,a4,a5,a6,a7⟩:=h.node _ _ hv
  obtain⟨y1,y',b1,b2,b3,b4,b5,b6,b7⟩:=h.node _ _ hu
  rw[hx]at a1;cases a1
  rw[hy]at b1;cases b1
  refine .mk v' u' x' y' a2 b2 (by rw[<-a3,e1,b3]) (by rw[<-a4,e2,b4]) (by rw[<-a5,e3,b5]) (fun hk=>?_) (fun hk=>?_)
  ·have hk':x.kind=5\/x.kind=6\/x.kind=7:=by rw[a3];exact hk
   exact ih1 hk' (a6 hk') (b6 (e1▸hk'))
  ·have hk':x.kind=5:=by rw[a3];exact hk
   exact ih2 hk' (a7 hk') (b7 (e1▸hk'))
theorem ad0 {ρ:Nat->Nat->Prop}{q p:List Nd}(h:Bi ρ q p)(hq:Ah q)(hp:Ah p){a b a' b':Int}(ha:Vs ρ a a')(hb:Vs ρ b b'):PC q a b=PC p a' b':=by
 obtain⟨_,_,x1,x2,_⟩:=h.node _ _ ha
 obtain⟨_,_,y1,y2,_⟩:=h.node _ _ hb
 have f:=aap hq (aQ x1) (aQ y1)
 have g:=aap hp (aQ x2) (aQ y2)
 rw[Bool.eq_iff_iff,f,g]
 exact⟨fun k=>YQ h k ha hb,fun k=>YQ h.flip k ha hb⟩
noncomputable def afk (ρ:Nat->Nat->Prop) (q p:List Nd) (r r':Except Int (List Nd×Int)):Prop:=match r,r' with
 |.error h,.error h'=>h=h'
 |.ok (q',v),.ok (p',v')=>∃ρ',Grow ρ q p ρ' q' p'/\Vs ρ' v v'
 |_,_=>False
theorem LH {ρ:Nat->Nat->Prop}{q p:List Nd}(h:Bi ρ q p){x y:Nd}(hx:Nds ρ x y):afk ρ q p (.ok (q++[x],q.length)) (.ok (p++[y],p.length)):=by
 obtain⟨ρ',g,h2⟩:=h.add hx
 exact⟨ρ',g,by simpa[Vs]using h2⟩
theorem NW (b:Bool):¬kid (ndB b).kind:=by cases b<;>simp[ndB,kid]
theorem adg {ρ:Nat->Nat->Prop}{q p:List Nd}(h:Bi ρ q p){z:Nd}(hk:¬kid z.kind):afk ρ q p (if wi z.n (-1000000000) 1000000000=true then .ok (q++[z],q.length) else .error 4) (if wi z.n (-1000000000) 1000000000=true then .ok (p++[z],p.length) else .error 4):=by
 by_cases c:wi z.n (-1000000000) 1000000000=true
 ·rw[if_pos c,if_pos c];exact LH h (Fe hk)
 ·rw[if_neg c,if_neg c];exact rfl
theorem adZ {ρ:Nat->Nat->Prop}{q p:List Nd}(h:Bi ρ q p)(hq:Ah q)(hp:Ah p)(n:Int){l l':List Int}(hl:Ls ρ l l')(h1:1<=l.length)(h2:(n<=6\/n=11)->2<=l.length):afk ρ q p (GW q n l) (GW p n l'):=by
 have v0:=hl.get 0 (by omega)
 obtain⟨x1,x2,x3,x4,x5⟩:=h.nod v0
 unfold GW
 simp only
 by_cases c5:n<=5
 ·have v1:=hl.get 1 (by have:=h2 (.inl (by omega));omega)
  obtain⟨y1,y2,y3,y4,y5⟩:=h.nod v1
  rw[if_pos c5,if_pos c5,<-x1,<-x2,<-y1,<-y2]
  by_cases hxy:(nod q (l.getD 0 0)).kind=3/\(nod q (l.getD 1 0)).kind=3
  ·rw[if_pos hxy,if_pos hxy]
   refine adg h ?_
   repeat' split
   all_goals first|exact NW _|simp[kid]
  ·rw[if_neg hxy,if_neg hxy];exact rfl
 rw[if_neg c5,if_neg c5]
 by_cases c6:n=6
 ·have v1:=hl.get 1 (by have:=h2 (.inl (by omega));omega)
  rw[if_pos c6,if_pos c6]
  exact LH h ⟨rfl,rfl,rfl,fun _=>v0,fun _=>v1⟩
 rw[if_neg c6,if_neg c6]
 by_cases c7:n=7\/n=8
 ·rw[if_pos c7,if_pos c7,<-x1]
  by_cases hk:(nod q (l.getD 0 0)).kind=5
  ·rw[if_pos hk,if_pos hk]
   refine⟨ρ,Grow.refl h,?_⟩
   by_cases e7:n=7
   ·rw[if_pos e7,if_pos e7];exact x4 (.inl hk)
   ·rw[if_neg e7,if_neg e7];exact x5 hk
  ·rw[if_neg hk,if_neg hk];exact rfl
 rw[if_neg c7,if_neg c7]
 by_cases c9:n=9
 ·rw[if_pos c9,if_pos c9,<-x1];exact LH h (Fe (NW _))
 rw[if_neg c9,if_neg c9]
 by_cases c10:n=10
 ·rw[if_pos c10,if_pos c10,<-x1];exact LH h (Fe (NW _))
 rw[if_neg c10,if_neg c10]
 by_cases c11:n=11
 ·have v1:=hl.get 1 (by have:=h2 (.inr c11);omega)
  rw[if_pos c11,if_pos c11,ad0 h hq hp v0 v1];exact LH h (Fe (NW _))
 rw[if_neg c11,if_neg c11,<-x1,<-x2];exact LH h (Fe (NW _))
end Go.Eng
/-! a machine and one that holds the same: their steps,fourth part -/
namespace Go.Eng

structure BiT (ρ:Nat->Nat->Prop) (m m':Mc):Prop where
 bi:Bi ρ m.pool m'.pool
 at':m.at'=m'.at'
 s:Vs ρ m.s m'.s
 e:Vs ρ m.e m'.e
 d:Vs ρ m.d m'.d
 state:m.state=m'.state
 ask:m.ask=m'.ask
 arg:holds m=false->m.arg=m'.arg
 argH:holds m=true->Vs ρ m.arg m'.arg
noncomputable def AnsT (ρ:Nat->Nat->Prop) (m m':Mc) (r r':Except Int Mc):Prop:=match r,r' with
 |.error h,.error h'=>h=h'
 |.ok n,.ok n'=>∃ρ',Grow ρ m.pool m'.pool ρ' n.pool n'.pool/\BiT ρ' n n'
 |_,_=>False
theorem AnsT.over {ρ ρ1:Nat->Nat->Prop}{m m' n n':Mc}{r r':Except Int Mc}(g:Grow ρ m.pool m'.pool ρ1 n.pool n'.pool)(h:AnsT ρ1 n n' r r'):AnsT ρ m m' r r':=by
 unfold AnsT at h⊢
 cases r<;>cases r'<;>simp only at h⊢
 ·exact h
 ·obtain⟨ρ',g2,h2⟩:=h;exact⟨ρ',g.trans g2,h2⟩
theorem Qa {m:Mc}(h:m.state=0):holds m=false:=by unfold holds;rw[h];rfl
theorem BiM.toT {ρ:Nat->Nat->Prop}{m m':Mc}(h:BiM ρ m m')(h0:m.state=0):BiT ρ m m':=
 ⟨h.bi,h.at',h.s,h.e,h.d,h.state,h.ask,fun _=>h.arg,fun e=>by rw[Qa h0]at e;cases e⟩
theorem Ans.toT {ρ:Nat->Nat->Prop}{m m':Mc}{r r':Except Int Mc}(h:Ans ρ m m' r r')(h0:∀n,r=.ok n->n.state=0):AnsT ρ m m' r r':=by
 unfold Ans at h;unfold AnsT
 cases r<;>cases r'<;>simp only at h⊢
 ·exact h
 ·obtain⟨ρ',g,h2⟩:=h;exact⟨ρ',g,h2.toT (h0 _ rfl)⟩
theorem Zm {c:Cd}{m n:Mc}{f:Nd}{l:List Int}(h:GH c m f l=.ok n):n.state=m.state:=by
 unfold GH at h
 split at h
 ·cases h
 split at h
 ·cases h
 cases h;rfl
theorem acT {c:Cd}{m n:Mc}{st:Int}{l:List Int}(h:QX c m st l=.ok n):n.state=m.state:=by
 unfold QX at h
 split at h
 ·cases h
 split at h
 ·cases h;rfl
 ·cases h
theorem YD {n:Int}{k:Nat}(h:Am n=(k:Int))(hn:n<=12):1<=k/\((n<=6\/n=11)->2<=k):=by
 unfold Am at h
 split at h
 ·rename_i hw
  have hw:=wi_iff.1 hw
  have:n=1\/n=2\/n=3\/n=4\/n=5\/n=6\/n=7\/n=8\/n=9\/n=10\/n=11\/n=12:=by omega
  rcases this with e|e|e|e|e|e|e|e|e|e|e|e<;>subst e<;>simp[prArgs]at h<;>omega
 ·omega
theorem YU (c:Cd):∀(k:Nat) {ρ:Nat->Nat->Prop} {m m':Mc} {f f':Int} {l l':List Int},BiM ρ m m'->m.state=0->GM m->GM m'->Ce c (m.at'+1)=true->c.list.length<=400->0<=m.at'->Vs ρ f f'->Ls ρ l l'->AnsT ρ m m' (EZ c k m f l) (EZ c k m' f' l')
 |0,ρ,m,m',f,f',l,l',h,h0,g,g',hpl,hc,hat,hf,hl=>rfl
 |k+1,ρ,m,m',f,f',l,l',h,h0,g,g',hpl,hc,hat,hf,hl=>by
  obtain⟨x1,x2,x3,x4,x5⟩:=h.bi.nod hf
  unfold EZ
  simp only
  rw[<-x1,<-x2,<-hl.len]
  by_cases k6:(nod m.pool f).kind=6
  ·rw[if_pos k6,if_pos k6]
   exact (acp h c ⟨x1,x2,x3,x4,x5⟩ k6 hl).toT fun n e=>(Zm e).trans h0
  rw[if_neg k6,if_neg k6]
  by_cases k8:(nod m.pool f).kind=8
  ·rw[if_pos k8,if_pos k8]
   by_cases ka:Am (nod m.pool f).n≠(l.length:Int)
   ·rw[if_pos ka,if_pos ka];exact rfl
   rw[if_neg ka,if_neg ka]
   have ka:Am (nod m.pool f).n=(l.length:Int):=by omega
   by_cases k18:(nod m.pool f).n=18
   ·rw[if_pos k18,if_pos k18]
    have hp:=isPl_iff.1 hpl
    obtain⟨ρ1,g1,h1⟩:=h.bi.add (x:=ndI (m.at'+1)) (y:=ndI (m'.at'+1)) (by rw[h.at'];exact Fe (by simp[kid]))
    obtain⟨ρ2,g2,h2⟩:=QJ (l:=[(m.pool.length:Int),m.s,m.e,m.d]) (l':=[(m'.pool.length:Int),m'.s,m'.e,m'.d]) g1.bi ⟨by simpa[Vs]using h1,g1.sub _ _ h.s,g1.sub _ _ h.e,g1.sub _ _ h.d,trivial⟩
    obtain⟨ρ3,g3,h3⟩:=g2.bi.add (x:=ndK (Ac (m.pool++[ndI (m.at'+1)]) [(m.pool.length:Int),m.s,m.e,m.d]).2) (y:=ndK (Ac (m'.pool++[ndI (m'.at'+1)]) [(m'.pool.length:Int),m'.s,m'.e,m'.d]).2) ⟨rfl,rfl,rfl,fun _=>by simpa using h2,fun e=>by cases e⟩
    have g13:=(g1.trans g2).trans g3
    have gm:∀{m:Mc},GM m->0<=m.at'->m.at'+1<=400->GM ⟨(Ac (m.pool++[ndI (m.at'+1)]) [(m.pool.length:Int),m.s,m.e,m.d]).1++[ndK ((Ac (m.pool++[ndI (m.at'+1)]) [(m.pool.length:Int),m.s,m.e,m.d]).2:Int)],m.at',m.s,m.e,m.d,m.state,m.ask,m.arg⟩:=by
     intro m g a0 a1
     have o1:Ah (m.pool++[ndI (m.at'+1)]):=AA g.ok (QW (by omega))
     obtain⟨b1,⟨t,b2,b3⟩,b4⟩:=Fa (row:=[(m.pool.length:Int),m.s,m.e,m.d]) o1 (fun v hv=>by
      simp only[List.mem_cons,List.not_mem_nil,or_false]at hv
      rcases hv with rfl|rfl|rfl|rfl
      ·exact Cj _ _
      ·exact Ai _ g.s
      ·exact Ai _ g.e
      ·exact Ai _ g.d)
     have e1:(Ac (m.pool++[ndI (m.at'+1)]) [(m.pool.length:Int),m.s,m.e,m.d]).1=m.pool++(ndI (m.at'+1)::t):=by rw[b2];simp
     have up:∀{v:Int},InP m.pool v->InP ((Ac (m.pool++[ndI (m.at'+1)]) [(m.pool.length:Int),m.s,m.e,m.d]).1++[ndK ((Ac (m.pool++[ndI (m.at'+1)]) [(m.pool.length:Int),m.s,m.e,m.d]).2:Int)]) v:=fun hv=>Ai _ (by rw[e1];exact Ai _ hv)
     exact⟨AA b1 (Tt b4),up g.s,up g.e,up g.d⟩
    have hl1:1<=l.length:=by
                   rw[k18]at ka;have:Am 18=1:=by decide
                   omega
    refine AnsT.over g13 (YU c k (h.pool g13) h0 (gm g hat (by omega)) (gm g' (by rw[<-h.at'];exact hat) (by rw[<-h.at'];omega)) hpl hc hat (g13.sub _ _ (hl.get 0 (by omega))) ⟨?_,trivial⟩)
    simpa[Vs]using h3
   rw[if_neg k18,if_neg k18]
   by_cases k12:(nod m.pool f).n>12
   ·rw[if_pos k12,if_pos k12]
    obtain⟨ρ1,g1,h1⟩:=QJ h.bi hl
    exact⟨ρ1,g1,⟨g1.bi,h.at',g1.sub _ _ h.s,g1.sub _ _ h.e,g1.sub _ _ h.d,rfl,rfl,fun e=>by simp[holds]at e,fun _=>by simpa[Vs]using h1⟩⟩
   ·rw[if_neg k12,if_neg k12]
    obtain⟨p1,p2⟩:=YD ka (by omega)
    have hp:=adZ h.bi g.ok g'.ok (nod m.pool f).n hl p1 p2
    cases r1:GW m.pool (nod m.pool f).n l with
    |error e=>
     cases r2:GW m'.pool (nod m.pool f).n l' with
     |error e'=>rw[r1,r2]at hp;have:e=e':=hp;subst this;exact rfl
     |ok v=>rw[r1,r2]at hp;exact hp.elim
    |ok v=>
     cases r2:GW m'.pool (nod m.pool f).n l' with
     |error e'=>rw[r1,r2]at hp;exact hp.elim
     |ok v'=>
      rw[r1,r2]at hp
      obtain⟨ρ1,g1,h1⟩:=hp
      obtain⟨ρ2,g2,h2⟩:=g1.bi.add (x:=ndP v.2 m.s) (y:=ndP v'.2 m'.s) ⟨rfl,rfl,rfl,fun _=>h1,fun _=>g1.sub _ _ h.s⟩
      have g12:=g1.trans g2
      exact⟨ρ2,g12,⟨g12.bi,by rw[h.at'],by simpa[Vs]using h2,g12.sub _ _ h.e,g12.sub _ _ h.d,h.state,h.ask,fun _=>h.arg,fun e=>by
       have z:=Qa (m:=(⟨v.1++[ndP v.2 m.s],m.at'+1,v.1.length,m.e,m.d,m.state,m.ask,m.arg⟩:Mc)) h0
       rw[z]at e;cases e⟩⟩
  rw[if_neg k8,if_neg k8]
  by_cases k7:(nod m.pool f).kind=7
  ·rw[if_pos k7,if_pos k7]
   exact (ae2 h g.ok g'.ok c (x4 (.inr (.inr k7))) hl).toT fun n e=>(acT e).trans h0
  ·rw[if_neg k7,if_neg k7];exact rfl
end Go.Eng
/-! a machine and one that holds the same: their steps,fifth part -/
namespace Go.Eng

theorem abf (d:Int){q:List Nd}(hq:Ah q){m:List Bool}(hm:m.length=q.length)(hc:Xg q m):∀(k:Nat) {pre pre':List Int} {acc acc':List Nd} {ρ:Nat->Nat->Prop},Bi ρ acc acc'->pre.length=pre'.length->pre.length+k=q.length ->
  (∀(i:Nat) (u u':Int),m[i]? = some true->pre[i]? = some u->pre'[i]? = some u'->Vs ρ u u') ->
  ∃ρ',Grow ρ acc acc' ρ' (BH d q m k pre acc).2 (BH d q m k pre' acc').2/\∀(i:Nat) (u u':Int),m[i]? = some true->(BH d q m k pre acc).1[i]? = some u->(BH d q m k pre' acc').1[i]? = some u'->Vs ρ' u u'
 |0,pre,pre',acc,acc',ρ,h,hl,hk,hv=>⟨ρ,Grow.refl h,hv⟩
 |k+1,pre,pre',acc,acc',ρ,h,hl,hk,hv=>by
  obtain⟨x,hx⟩:=yM (l:=q) (i:=pre.length) (by omega)
  obtain⟨b,hb⟩:=yM (l:=m) (i:=pre.length) (by omega)
  have old:∀{pre:List Int} {i:Nat} {u v:Int},(pre++[v])[i]? = some u->(i<pre.length/\pre[i]? = some u)\/(i=pre.length/\u=v):=by
   intro pre i u v h
   by_cases hi:i<pre.length
   ·rw[List.getElem?_append_left hi]at h;exact .inl ⟨hi,h⟩
   ·have:=aQ h
    simp at this
    have e:i=pre.length:=by omega
    subst e
    simp at h
    exact .inr ⟨rfl,h.symm⟩
  have hx':q[pre'.length]? = some x:=by rw[<-hl];exact hx
  have hb':m[pre'.length]? = some b:=by rw[<-hl];exact hb
  simp only[BH,hx,hb,hx',hb']
  cases b with
  |false=>
   refine abf d hq hm hc k (pre:=pre++[d]) (pre':=pre'++[d]) h (by simp[hl]) (by simp;omega) (fun i u u' hmi hu hu'=>?_)
   rcases old hu with ⟨_,g⟩|⟨e,_⟩
   ·rcases old hu' with ⟨_,g'⟩|⟨e,_⟩
    ·exact hv _ _ _ hmi g g'
    ·rw[e,hb']at hmi;cases hmi
   ·rw[e,hb]at hmi;cases hmi
  |true=>
   have at2:∀{v:Int},0<=v->v<pre.length->m[v.toNat]? = some true->Vs ρ (pre.getD v.toNat 0) (pre'.getD v.toNat 0):=by
    intro v v0 v1 hmv
    obtain⟨u,hu⟩:=yM (l:=pre) (i:=v.toNat) (by omega)
    obtain⟨u',hu'⟩:=yM (l:=pre') (i:=v.toNat) (by omega)
    rw[List.getD_eq_getElem?_getD,List.getD_eq_getElem?_getD,hu,hu']
    exact hv _ _ _ hmv hu hu'
   obtain⟨k1,k2,k3⟩:=QL pre x
   obtain⟨j1,j2,j3⟩:=QL pre' x
   have ox:=hq _ _ hx
   have cl:=hc _ _ hx hb
   have nd:Nds ρ (Aj pre x) (Aj pre' x):=by
    refine⟨by rw[k1,j1],by rw[k2,j2],by rw[k3,j3],fun hk=>?_,fun hk=>?_⟩
    ·rw[k1]at hk
     by_cases h5:x.kind=5
     ·have o:=Az ox h5
      simp only[Aj,h5,if_true]
      exact at2 o.1 o.2.1 (cl.1 h5).1
     ·have h6:x.kind=6\/x.kind=7:=by rcases hk with e|e|e<;>simp_all
      have o:=Bz ox h6
      simp only[Aj,h5,h6,if_true,if_false]
      exact at2 o.1 o.2 (cl.2 h6)
    ·rw[k1]at hk
     have o:=Az ox hk
     simp only[Aj,hk,if_true]
     exact at2 o.2.2.1 o.2.2.2 (cl.1 hk).2
   obtain⟨ρ1,g1,h1⟩:=h.add nd
   obtain⟨ρ2,g2,h2⟩:=abf d hq hm hc k (pre:=pre++[(acc.length:Int)]) (pre':=pre'++[(acc'.length:Int)]) g1.bi (by simp[hl]) (by simp;omega) (fun i u u' hmi hu hu'=>by
    rcases old hu with ⟨l1,g⟩|⟨e,e2⟩
    ·rcases old hu' with ⟨_,g'⟩|⟨e',_⟩
     ·exact g1.sub _ _ (hv _ _ _ hmi g g')
     ·omega
    ·rcases old hu' with ⟨l1,g'⟩|⟨e',e2'⟩
     ·omega
     ·subst e2;subst e2';simpa[Vs]using h1)
   exact⟨ρ2,g1.trans g2,h2⟩
theorem adv (d:Int){q:List Nd}(hq:Af q=true){v:Int}(hv:Ar q [v]=true){acc acc':List Nd}{ρ:Nat->Nat->Prop}(h:Bi ρ acc acc'):∃ρ',Grow ρ acc acc' ρ' (BW d q v acc).1 (BW d q v acc').1/\Vs ρ' (BW d q v acc).2 (BW d q v acc').2:=by
 obtain⟨ρ',g,hvs⟩:=abf d (okPool_iff.1 hq).1 (Dr q [v]) (FW hq [v]) q.length (pre:=[]) (pre':=[]) h rfl (by simp) (fun i u u' _ hu _=>by simp at hu)
 refine⟨ρ',g,?_⟩
 have hr:=Jf hv v (by simp)
 have hin:=Kf hv v (by simp)
 have l1:=Fc d q (Bu q [v]) q.length [] acc
 have l2:=Fc d q (Bu q [v]) q.length [] acc'
 obtain⟨u,hu⟩:=yM (l:=(BH d q (Bu q [v]) q.length [] acc).1) (i:=v.toNat) (by rw[l1];simp;omega)
 obtain⟨u',hu'⟩:=yM (l:=(BH d q (Bu q [v]) q.length [] acc').1) (i:=v.toNat) (by rw[l2];simp;omega)
 have:=hvs _ _ _ hr hu hu'
 show Vs ρ' ((BH d q (Bu q [v]) q.length [] acc).1.getD v.toNat 0) ((BH d q (Bu q [v]) q.length [] acc').1.getD v.toNat 0)
 rw[List.getD_eq_getElem?_getD,List.getD_eq_getElem?_getD,hu,hu']
 exact this
end Go.Eng
/-! a machine and one that holds the same: their steps,sixth part -/
namespace Go.Eng

theorem aeL {ρ:Nat->Nat->Prop}{m m':Mc}(h:BiM ρ m m'){c:Cd}(hq:Af c.pool=true){v:Int}(hv:Ar c.pool [v]=true):Ans ρ m m' (.ok (adN c m v)) (.ok (adN c m' v)):=by
 obtain⟨ρ1,g1,h1⟩:=adv (-1) hq hv h.bi
 exact Ans.over (n:=⟨_,m.at',m.s,m.e,m.d,m.state,m.ask,m.arg⟩) (n':=⟨_,m'.at',m'.s,m'.e,m'.d,m'.state,m'.ask,m'.arg⟩) g1 (MC (h.pool g1) h1)
theorem RN {ρ:Nat->Nat->Prop}{m m':Mc}{r r':Except Int Mc}(h:Ans ρ m m' r r')(c:Cd)(next:Int):Ans ρ m m' (goM c r next) (goM c r' next):=by
 unfold Ans at h
 cases r with
 |error e=>
  cases r' with
  |error e'=>exact h
  |ok n'=>exact h.elim
 |ok n=>
  cases r' with
  |error e'=>exact h.elim
  |ok n'=>
   obtain⟨ρ',g,h2⟩:=h
   simp only[goM]
   by_cases hp:Ce c next=true
   ·rw[if_pos hp,if_pos hp]
    exact⟨ρ',g,⟨h2.bi,rfl,h2.s,h2.e,h2.d,h2.state,h2.ask,h2.arg⟩⟩
   ·rw[if_neg hp,if_neg hp];exact rfl
theorem acI {ρ:Nat->Nat->Prop}{m m':Mc}(h:BiM ρ m m'){c:Cd}(hq:Af c.pool=true)(x:In)(hx:x.op=1->Ar c.pool [x.n]=true):Ans ρ m m' (D7 c m x) (D7 c m' x):=by
 have fn:Ans ρ m m' (.ok (Je ⟨m.pool++[ndF (8*x.n+x.i) m.e],m.at',m.s,m.e,m.d,m.state,m.ask,m.arg⟩ m.pool.length)) (.ok (Je ⟨m'.pool++[ndF (8*x.n+x.i) m'.e],m'.at',m'.s,m'.e,m'.d,m'.state,m'.ask,m'.arg⟩ m'.pool.length)):=by
  obtain⟨ρ1,g1,h1⟩:=h.bi.add (x:=ndF (8*x.n+x.i) m.e) (y:=ndF (8*x.n+x.i) m'.e) ⟨rfl,rfl,rfl,fun _=>h.e,fun e=>by cases e⟩
  exact Ans.over (n:=⟨_,m.at',m.s,m.e,m.d,m.state,m.ask,m.arg⟩) (n':=⟨_,m'.at',m'.s,m'.e,m'.d,m'.state,m'.ask,m'.arg⟩) g1 (MC (h.pool g1) (by simpa[Vs]using h1))
 unfold D7
 rw[<-h.at']
 by_cases o1:x.op=1
 ·rw[if_pos o1,if_pos o1];exact RN (aeL h hq (hx o1)) c _
 rw[if_neg o1,if_neg o1]
 by_cases o2:x.op=2
 ·rw[if_pos o2,if_pos o2];exact RN (afa h _ _) c _
 rw[if_neg o2,if_neg o2]
 by_cases o3:x.op=3
 ·rw[if_pos o3,if_pos o3];exact RN (adJ h c _) c _
 rw[if_neg o3,if_neg o3]
 by_cases o5:x.op=5
 ·rw[if_pos o5,if_pos o5];exact RN (r:=.ok m) (r':=.ok m') ⟨ρ,Grow.refl h.bi,h⟩ c _
 rw[if_neg o5,if_neg o5]
 by_cases o6:x.op=6
 ·rw[if_pos o6,if_pos o6];exact RN (h.at'▸fn) c _
 rw[if_neg o6,if_neg o6]
 rcases U7 h with ⟨e1,e2⟩|⟨v,v',n,n',e1,e2,hv,hn,p1,p2⟩
 ·rw[e1,e2];exact rfl
 ·rw[e1,e2]
  obtain⟨x1,x2,_⟩:=hn.bi.nod hv
  simp only
  rw[<-x1,<-x2]
  exact RN (r:=.ok n) (r':=.ok n') ⟨ρ,by rw[<-p1,<-p2];exact Grow.refl hn.bi,hn⟩ c _
end Go.Eng
/-! a machine and one that holds the same: their steps,seventh part -/
namespace Go.Eng

theorem YV {ρ:Nat->Nat->Prop}{m m':Mc}(h:BiM ρ m m')(h0:m.state=0)(g:GM m)(g':GM m'){c:Cd}(hc:c.list.length<=400)(hat:0<=m.at')(many:Nat):AnsT ρ m m' (CK c m many) (CK c m' many):=by
 unfold CK
 rw[<-h.at']
 by_cases hp:Ce c (m.at'+1)=false
 ·rw[if_pos hp,if_pos hp];exact rfl
 rw[if_neg hp,if_neg hp]
 have hp:Ce c (m.at'+1)=true:=by simpa using hp
 rcases WV (many+1) h with ⟨e1,e2⟩|⟨l,l',n,n',e1,e2,hl,hk,hn,p1,p2⟩
 ·rw[e1,e2];exact rfl
 ·rw[e1,e2]
  obtain⟨a1,a2,a3,a4,a5,a6,a7⟩:=JK g e1
  obtain⟨b1,b2,b3,b4,b5,b6,b7⟩:=JK g' e2
  have hr:=hl.rev
  have gr:Grow ρ m.pool m'.pool ρ n.pool n'.pool:=by rw[p1,p2];exact Grow.refl h.bi
  exact AnsT.over gr (YU c 3 hn (a6.trans h0) a1 b1 (by rw[a5];exact hp) hc (by rw[a5];exact hat) (hr.get 0 (by rw[List.length_reverse];omega)) (hr.drop 1))
theorem adj {ρ:Nat->Nat->Prop}{m m':Mc}(h:BiM ρ m m')(h0:m.state=0)(g:GM m)(g':GM m')(c:Cd):AnsT ρ m m' (JT c m) (JT c m'):=by
 unfold JT
 rcases U7 h with ⟨e1,e2⟩|⟨v,v',n,n',e1,e2,hv,hn,p1,p2⟩
 ·rw[e1,e2];exact rfl
 rw[e1,e2]
 simp only
 obtain⟨a1,a2,a3,a4,a5,_⟩:=DP g e1
 obtain⟨b1,b2,b3,b4,b5,_⟩:=DP g' e2
 obtain⟨x1,x2,x3,x4,x5⟩:=hn.bi.nod hn.d
 have gr:Grow ρ m.pool m'.pool ρ n.pool n'.pool:=by rw[p1,p2];exact Grow.refl h.bi
 rw[<-x1]
 by_cases k1:(nod n.pool n.d).kind=1
 ·rw[if_pos k1,if_pos k1]
  exact⟨ρ,gr,⟨hn.bi,rfl,hn.s,hn.e,hn.d,rfl,hn.ask,fun e=>by simp[holds]at e,fun _=>hv⟩⟩
 rw[if_neg k1,if_neg k1]
 by_cases k5:(nod n.pool n.d).kind≠5
 ·rw[if_pos k5,if_pos k5];exact rfl
 rw[if_neg k5,if_neg k5]
 have k5:(nod n.pool n.d).kind=5:=by omega
 rcases Ws hn.bi a1.ok b1.ok c 3 (x4 (.inl k5)) with ⟨f1,f2⟩|⟨t,r,r',f1,f2,hr,hl⟩
 ·rw[f1,f2];exact rfl
 ·rw[f1,f2]
  match r,r',hr,hl with
  |[s,e],[s',e'],hr,_=>
   have st:n.state=0:=a5.trans h0
   refine AnsT.over gr ((MC (m:=⟨n.pool,t,s,e,(nod n.pool n.d).b,n.state,n.ask,n.arg⟩) (m':=⟨n'.pool,t,s',e',(nod n'.pool n'.d).b,n'.state,n'.ask,n'.arg⟩) ⟨hn.bi,rfl,hr.1,hr.2.1,x5 k5,hn.state,hn.ask,hn.arg⟩ hv).toT fun y hy=>?_)
   cases hy;exact st
theorem aag {c:Cd}{m n:Mc}{x:In}(h:D7 c m x=.ok n):n.state=m.state:=by
 have go:∀{r:Except Int Mc} {k:Int},(∀y,r=.ok y->y.state=m.state)->goM c r k=.ok n->n.state=m.state:=by
  intro r k hr hg
  unfold goM at hg
  cases r with
  |error e=>cases hg
  |ok y=>
   simp only at hg
   split at hg
   ·cases hg;exact hr y rfl
   ·cases hg
 unfold D7 at h
 split at h
 ·exact go (fun y e=>by cases e;rfl) h
 split at h
 ·refine go (fun y e=>?_) h
  unfold Tj at e
  split at e
  ·cases e
  split at e
  ·cases e
  cases e;rfl
 split at h
 ·refine go (fun y e=>?_) h
  unfold J0 at e
  split at e
  ·cases e;rfl
  split at e
  ·cases e
  cases e;rfl
 split at h
 ·exact go (fun y e=>by cases e;rfl) h
 split at h
 ·exact go (fun y e=>by cases e;rfl) h
 split at h
 ·cases h
 ·rename_i v m1 ht
  refine go (fun y e=>?_) h
  cases e
  unfold DN at ht
  split at ht
  ·cases ht;rfl
  ·cases ht
theorem afv {ρ:Nat->Nat->Prop}{m m':Mc}(h:BiM ρ m m')(h0:m.state=0)(g:GM m)(g':GM m'){c:Cd}(hq:Af c.pool=true)(hc:c.list.length<=400)(hat:0<=m.at') (hx:(c.list.getD m.at'.toNat ⟨0,0,0,⟨#[]⟩⟩).op=1->Ar c.pool [(c.list.getD m.at'.toNat ⟨0,0,0,⟨#[]⟩⟩).n]=true):AnsT ρ m m' (doM c m) (doM c m'):=by
 unfold doM
 rw[<-h.at']
 simp only
 by_cases k7:(c.list.getD m.at'.toNat ⟨0,0,0,⟨#[]⟩⟩).op=7
 ·rw[if_pos k7,if_pos k7];exact YV h h0 g g' hc hat _
 rw[if_neg k7,if_neg k7]
 by_cases k8:(c.list.getD m.at'.toNat ⟨0,0,0,⟨#[]⟩⟩).op=8
 ·rw[if_pos k8,if_pos k8];exact adj h h0 g g' c
 ·rw[if_neg k8,if_neg k8];exact (acI h hq _ hx).toT fun n e=>(aag e).trans h0
end Go.Eng
/-! a machine and its tidied one -/
namespace Go.Eng

theorem Vc {m:Mc}(hp:Af m.pool=true)(hr:Ar m.pool (Ax m)=true):EF m=⟨(Bj (-1) m.pool (Ax m)).1,m.at',tf m m.s,tf m m.e,tf m m.d,m.state,m.ask,if holds m=true then tf m m.arg else m.arg⟩:=by
 unfold EF;rw[if_pos ⟨hp,hr⟩]
theorem ab2 {c:Cd}{m:Mc}(h:DG c m=true):∃ρ,BiT ρ m (EF m):=by
 obtain⟨hp,hr,_⟩:=Ie h
 obtain⟨b,_,_,d1⟩:=Yi hp hr (-1)
 have root:∀r∈Ax m,Vs (fun i j=>Rch m.pool (Ax m) i/\(Ba (-1) m.pool (Ax m) []).1[i]? = some (j:Int)) r (tf m r):=by
  intro r hm
  have hR:=Rch.root (q:=m.pool) hm
  obtain⟨j,hj⟩:=d1 _ hR
  refine⟨hR,?_⟩
  have e:tf m r=(j:Int):=by unfold tf;rw[List.getD_eq_getElem?_getD,hj];rfl
  rw[e,hj];rfl
 have ht:EF m=⟨(Bj (-1) m.pool (Ax m)).1,m.at',tf m m.s,tf m m.e,tf m m.d,m.state,m.ask,if holds m=true then tf m m.arg else m.arg⟩:=Vc hp hr
 have hs:m.s∈Ax m/\m.e∈Ax m/\m.d∈Ax m:=by unfold Ax;split<;>simp
 refine⟨_,by rw[ht];exact b,by rw[ht],by rw[ht];exact root _ hs.1,by rw[ht];exact root _ hs.2.1,by rw[ht];exact root _ hs.2.2,by rw[ht],by rw[ht],fun e=>by rw[ht];simp[e],fun e=>?_⟩
 rw[ht]
 simp only[e,if_true]
 exact root _ (by unfold Ax;rw[if_pos e];simp)
theorem BiT.tidy {ρ:Nat->Nat->Prop}{m m':Mc}(h:BiT ρ m m'){c c':Cd}(hm:DG c m=true)(hm':DG c' m'=true):EF m=EF m':=by
 obtain⟨hp,hr,_⟩:=Ie hm
 obtain⟨hp',hr',_⟩:=Ie hm'
 have hh:holds m'=holds m:=by unfold holds;rw[h.state]
 have hb:Bis ρ (Ax m) (Ax m'):=by
  unfold Ax
  rw[hh]
  by_cases e:holds m=true
  ·rw[if_pos e,if_pos e];exact⟨h.s,h.e,h.d,h.argH e,trivial⟩
  ·rw[if_neg e,if_neg e];exact⟨h.s,h.e,h.d,trivial⟩
 have hk:=aeH h.bi hp hp' hr hr' hb (-1)
 have h1:(Bj (-1) m.pool (Ax m)).1=(Bj (-1) m'.pool (Ax m')).1:=by rw[hk]
 have h2:(Ax m).map (tf m)=(Ax m').map (tf m'):=congrArg Prod.snd hk
 rw[Vc hp hr,Vc hp' hr',h1,h.at',h.state,h.ask,hh]
 unfold Ax at h2
 rw[hh]at h2
 by_cases e:holds m=true
 ·rw[if_pos e,if_pos e]at h2
  simp only[List.map_cons,List.map_nil,List.cons.injEq,and_true]at h2
  rw[if_pos e,if_pos e,h2.1,h2.2.1,h2.2.2.1,h2.2.2.2]
 ·rw[if_neg e,if_neg e]at h2
  simp only[List.map_cons,List.map_nil,List.cons.injEq,and_true]at h2
  rw[if_neg e,if_neg e,h2.1,h2.2.1,h2.2.2,h.arg (by simpa using e)]
theorem BiT.toM {ρ:Nat->Nat->Prop}{m m':Mc}(h:BiT ρ m m')(h0:m.state=0):BiM ρ m m':=⟨h.bi,h.at',h.s,h.e,h.d,h.state,h.ask,h.arg (Qa h0)⟩
theorem BiT.flip {ρ:Nat->Nat->Prop}{m m':Mc}(h:BiT ρ m m'):BiT (fun i j=>ρ j i) m' m:=by
 have hh:holds m'=holds m:=by unfold holds;rw[h.state]
 exact⟨h.bi.flip,h.at'.symm,h.s,h.e,h.d,h.state.symm,h.ask.symm,fun e=>(h.arg (hh▸e)).symm,fun e=>h.argH (hh▸e)⟩
theorem BiT.trans {ρ σ:Nat->Nat->Prop}{m n t:Mc}(h:BiT ρ m n)(g:BiT σ n t):BiT (fun i k=>∃j,ρ i j/\σ j k) m t:=by
 have hh:holds n=holds m:=by unfold holds;rw[h.state]
 exact⟨h.bi.trans g.bi,h.at'.trans g.at',⟨_,h.s,g.s⟩,⟨_,h.e,g.e⟩,⟨_,h.d,g.d⟩,h.state.trans g.state,h.ask.trans g.ask,fun e=>(h.arg e).trans (g.arg (hh▸e)),fun e=>⟨_,h.argH e,g.argH (hh▸e)⟩⟩
end Go.Eng
