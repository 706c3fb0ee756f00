/- the program and the reference on plain data, part 4 -/
import Derived.Test.YtkndfhaehnfnmaaGreatPart3
import Derived.Test.YtkndfhaehnfnmaaGreatPart1
import Derived.Test.YtkndfhaehnfnmaaGreatPart2
import Derived.Test.YtkndfhaehnfnmaaGreatEngC
/-! the node of a word,on both sides -/
namespace Go.Eng
noncomputable section
open Go.Proofs Go.Proofs.Tryz
set_option maxHeartbeats 4000000

def Z9 (r:Option Nat):Option Int:=match r with|some n=>if n<=1000000000 then some (n:Int) else none|none=>none
def adY (r:Option Nat):Option Int:=match r with|some n=>if 0<n/\n<=1000000000 then some (-(n:Int)) else none|none=>none
def acD (l:List UInt8):Option Int:=match l with
 |x::d::r=>if x=45/\dU d=true then adY (FQ (d::r)) else Z9 (FQ l)
 |_=>Z9 (FQ l)
def adt (r:Option Int)(l:List UInt8):Option Nd:=match r with|some n=>some ⟨3,n,⟨#[]⟩,0,0⟩|none=>if Oi (mk l)=true then some ⟨4,0,mk l,0,0⟩ else none
def JO (l:List UInt8):Option Nd:=if l=[35,116] then some ⟨2,1,⟨#[]⟩,0,0⟩ else if l=[35,102] then some ⟨2,0,⟨#[]⟩,0,0⟩ else adt (acD l) l
def ac3 (r:Option Nd)(x:Nd)(b:Bool):Prop:=match r with|some y=>x=y/\b=true|none=>b=false
theorem Yi {l:List UInt8}{n:Nat}(h:FQ l=some n):l.length≠0/\¬10<l.length/\¬(l[0]? = some 48/\1<l.length)/\l.all dU=true/\n=DE 0 l/\n<10000000000:=by
 unfold FQ at h
 split at h
 ·cases h
 ·rename_i hn
  cases h
  have ha:l.all dU=true:=by
   cases e:l.all dU with
   |true=>rfl
   |false=>exact absurd (.inr (.inr (.inr e))) hn
  have h10:¬10<l.length:=fun e=>hn (.inr (.inl e))
  have:=adE l 0 0 ha (by simp)
  rw[bX]at this
  have:=Ww (k:=l.length) (by omega)
  exact⟨fun e=>hn (.inl e),h10,fun e=>hn (.inr (.inr (.inl e))),ha,rfl,by omega⟩
def tb (l:List UInt8):Bool:=match FQ l with|some n=>decide (n<=1000000000)|none=>Oi (mk l)
theorem afh {l:List UInt8}(h:¬(l[0]? = some 45/\1<l.length)):acD l=Z9 (FQ l):=by
 match l with
 |[]=>rfl
 |[x]=>rfl
 |x::d::r=>rw[acD,aD];rintro⟨e,_⟩;exact h ⟨by rw[e];rfl,by simp⟩
def UI (a r:List UInt8)(v:Nat):Int:=if r.length=a.length then (v:Int) else -(v:Int)
def VF (a r:List UInt8)(v:Nat):Bool:=decide (Ng (UI a r v)=a)&&wi (UI a r v) (-1000000000) 1000000000
theorem agb {a r:List UInt8}{v:Nat}(hv:v<100000000000):@Eq (Option Ret) (br (ni r.length != ni a.length)
  (aaw 202 [(iN (w6 (0-(v:Int))))] fun s5=>(br (kJ s5 (mk a))
    (ck1 62 [(iN (w6 (0-(v:Int)))),(iN (-1000000000)),(iN (1000000000))] fun b8=>(some ((.tup [(iN (w6 (0-(v:Int)))),(.bool b8)]),[])))
    (some ((.tup [(iN (w6 (0-(v:Int)))),(.bool false)]),[]))))
  (aaw 202 [(iN (v:Int))] fun s11=>(br (kJ s11 (mk a))
    (ck1 62 [(iN (v:Int)),(iN (-1000000000)),(iN (1000000000))] fun b14=>(some ((.tup [(iN (v:Int)),(.bool b14)]),[])))
    (some ((.tup [(iN (v:Int)),(.bool false)]),[]))))) (some (.tup [iN (UI a r v),.bool (VF a r v)],[])):=by
 unfold VF UI
 by_cases h:r.length=a.length
 ·have hd:=WU (n:=(v:Int)) (by omega)
  rw[yp (by simp[ni,h]),if_pos h,LR hd,PB]
  by_cases h2:Ng (v:Int)=a
  ·rw[bE h2,zy,Cq (Dg _ _ _),dJ]
  ·rw[bK h2,y0,dB]
 ·have hd:=WU (n:=-(v:Int)) (by omega)
  rw[y6 (by simp only[ni,bne_iff_ne,ne_eq];omega),aD h,show(0:Int)-(v:Int) = -(v:Int) by omega,w64 (by omega) (by omega),LR hd,PB]
  by_cases h2:Ng (-(v:Int))=a
  ·rw[bE h2,zy,Cq (Dg _ _ _),dJ]
  ·rw[bK h2,y0,dB]
theorem abg {a l:List UInt8}(hl:l.length<=10):∀(k i acc:Nat),i+k=l.length->acc<10 ^ i->CQ (mk a) (mk l) (acc:Int) (i:Int)=some (if (l.drop i).all dU=true then .tup [iN (UI a l (DE acc (l.drop i))),.bool (VF a l (DE acc (l.drop i)))] else noW,[])
 |0,i,acc,hi,ha=>by
  have hp:=Ww (k:=i) (by omega)
  have he:=agb (a:=a) (r:=l) (v:=acc) (by omega)
  rw[Ml,cD (by omega),z8,z8,yp (zI (by omega)),he]
  rfl
 |k+1,i,acc,hi,ha=>by
  obtain⟨x,hx⟩:=yM (l:=l) (i:=i) (by omega)
  have hp:=Ww (k:=i) (by omega)
  have hb:=XO hx
  have hd:=YB x
  rw[Ml,z8,y6 (zN (by omega)),zJ (zM (by omega)),hb,Sg hd,vc hx,List.all_cons]
  cases h:dU x with
  |false=>rw[bO,zy,aD (by simp)]
  |true=>
   have hx2:=dU_iff.1 h
   have e2:w6 (w6 (w6 (10*(acc:Int))+w6 ((x.toNat:Nat):Int))-48)=((10*acc+(x.toNat-48):Nat):Int):=by
    rw[w64 (n:=10*(acc:Int)) (by omega) (by omega),w64 (n:=((x.toNat:Nat):Int)) (by omega) (by omega),w64 (n:=10*(acc:Int)+_) (by omega) (by omega),w64 (by omega) (by omega)];omega
   have ih:=abg (a:=a) hl k (i+1) (10*acc+(x.toNat-48)) (by omega) (by rw[Nat.pow_succ];omega)
   rw[aO,y0,zJ (zM (by omega)),e2,z6 (by omega),ih,dJ]
   rfl
theorem aaa {l:List UInt8}(h0:l.length≠0)(h10:¬10<l.length)(ha:l.all dU=true):UI l l (DE 0 l)=(DE 0 l:Int)/\VF l l (DE 0 l)=(Z9 (FQ l)).isSome/\(∀m,Z9 (FQ l)=some m->m=(DE 0 l:Int)):=by
 have hz:=aaF h0 h10 ha
 have e1:UI l l (DE 0 l)=(DE 0 l:Int):=by simp[UI]
 have e2:Ng ((DE 0 l:Nat):Int)=Mz (DE 0 l):=by simp[Ng]
 refine⟨e1,?_,?_⟩
 ·unfold VF
  rw[e1,e2]
  by_cases h:l[0]? = some 48/\1<l.length
  ·rw[bK (fun e=>hz.1 e h),FQ,aG (.inr (.inr (.inl h)))];rfl
  ·have hn:FQ l=some (DE 0 l):=by rw[FQ,aD (by rintro (e|e|e|e)<;>first|omega|exact h e|(rw[ha]at e;cases e))]
   rw[bE (hz.2 h),hn]
   unfold Z9 wi
   by_cases h1:DE 0 l<=1000000000
   ·simp[h1];omega
   ·simp[h1];omega
 ·intro m hm
  cases hn:FQ l with
  |none=>rw[hn]at hm;cases hm
  |some n=>
   have:=(Yi hn).2.2.2.2.1
   rw[hn]at hm
   unfold Z9 at hm
   simp only at hm
   split at hm
   ·cases hm;rw[this]
   ·cases hm
theorem ZX {l:List UInt8}(h0:l.length≠0)(h10:¬10<l.length)(ha:l.all dU=true):UI (45::l) l (DE 0 l) = -(DE 0 l:Int)/\VF (45::l) l (DE 0 l)=(adY (FQ l)).isSome/\(∀m,adY (FQ l)=some m->m = -(DE 0 l:Int)):=by
 have hz:=aaF h0 h10 ha
 have e1:UI (45::l) l (DE 0 l) = -(DE 0 l:Int):=by simp[UI]
 refine⟨e1,?_,?_⟩
 ·unfold VF
  rw[e1]
  by_cases h:l[0]? = some 48/\1<l.length
  ·have:Ng (-(DE 0 l:Int))≠45::l:=by
    unfold Ng
    split
    ·intro e;rw[Int.natAbs_neg,Int.natAbs_natCast]at e;exact hz.1 (List.cons_inj_right _ |>.1 e) h
    ·intro e
     have e0:DE 0 l=0:=by omega
     rw[e0]at e
     have:=DG (n:=0) (by omega)
     simp[this]at e
   rw[bK this,FQ,aG (.inr (.inr (.inl h)))];rfl
  ·have hn:FQ l=some (DE 0 l):=by rw[FQ,aD (by rintro (e|e|e|e)<;>first|omega|exact h e|(rw[ha]at e;cases e))]
   rw[hn]
   by_cases h1:DE 0 l=0
   ·have:Ng (-(DE 0 l:Int))≠45::l:=by
     intro e
     rw[h1]at e
     have:=DG (n:=0) (by omega)
     simp[Ng,this]at e
    rw[bK this,h1];rfl
   ·have:Ng (-(DE 0 l:Int))=45::l:=by
     unfold Ng
     rw[aG (by omega),Int.natAbs_neg,Int.natAbs_natCast,hz.2 h]
    rw[bE this]
    unfold adY wi
    by_cases h2:DE 0 l<=1000000000
    ·have:0<DE 0 l:=by omega
     simp[h2,this];omega
    ·simp[h2];omega
 ·intro m hm
  cases hn:FQ l with
  |none=>rw[hn]at hm;cases hm
  |some n=>
   have:=(Yi hn).2.2.2.2.1
   rw[hn]at hm
   unfold adY at hm
   simp only at hm
   split at hm
   ·cases hm;rw[this]
   ·cases hm
theorem abh {a r:List UInt8}{F:Option Nat->Option Int}(hF:F none=none)
  (hfin:r.length≠0->¬10<r.length->r.all dU=true->VF a r (DE 0 r)=(F (FQ r)).isSome/\(∀m,F (FQ r)=some m->m=UI a r (DE 0 r))) :
  ∃n b,br (decide (ni r.length>10)) (some (noW,[])) (br (ni r.length==0) (some (noW,[])) (CQ (mk a) (mk r) 0 0))=some (.tup [iN n,.bool b],[])/\b=(F (FQ r)).isSome/\(∀m,F (FQ r)=some m->m=n):=by
 by_cases h10:10<r.length
 ·have hn:FQ r=none:=by rw[FQ,aG (.inr (.inl h10))]
  rw[y6 (bE (by simp only[ni];omega)),hn,hF]
  exact⟨0,false,rfl,rfl,fun m h=>by cases h⟩
 ·rw[yp (bK (by simp only[ni];omega))]
  by_cases h0:r.length=0
  ·have hn:FQ r=none:=by rw[FQ,aG (.inl h0)]
   rw[y6 (by simp[ni,h0]),hn,hF]
   exact⟨0,false,rfl,rfl,fun m h=>by cases h⟩
  ·rw[yp (by simp only[ni,beq_eq_false_iff_ne,ne_eq];omega)]
   have hl:=abg (a:=a) (l:=r) (by omega) r.length 0 0 (by omega) (by simp)
   rw[Int.natCast_zero,eR]at hl
   rw[hl]
   cases ha:r.all dU with
   |false=>
    have hn:FQ r=none:=by rw[FQ,aG (.inr (.inr (.inr ha)))]
    rw[aD (by simp),hn,hF]
    exact⟨0,false,rfl,rfl,fun m h=>by cases h⟩
   |true=>
    rw[aG rfl]
    obtain⟨e1,e2⟩:=hfin h0 h10 ha
    exact⟨_,_,rfl,e1,e2⟩
theorem agq (l:List UInt8):∃n b,V 227 [.str (mk l)]=some (.tup [iN n,.bool b],[])/\b=(acD l).isSome/\(∀m,acD l=some m->m=n):=by
 have hpos:∃n b,br (decide (ni l.length>10)) (some (noW,[])) (br (ni l.length==0) (some (noW,[])) (CQ (mk l) (mk l) 0 0))=some (.tup [iN n,.bool b],[])/\b=(Z9 (FQ l)).isSome/\(∀m,Z9 (FQ l)=some m->m=n):=
  abh rfl (fun h0 h10 ha=>⟨(aaa h0 h10 ha).2.1,fun m hm=>((aaa h0 h10 ha).2.2 m hm).trans (aaa h0 h10 ha).1.symm⟩)
 rw[aaT,z8]
 by_cases hn:l[0]? = some 45/\1<l.length
 ·obtain⟨hx,hl⟩:=hn
  match l,hx,hl with
  |x::d::r,hx,hl=>
   have hx:x=45:=by simpa using hx
   subst hx
   have hb0:bt (mk (45::d::r)) 0=45:=XO (i:=0) (x:=45) rfl
   have e:ByteArray.extract (mk (45::d::r)) (Int.toNat 1) (45::d::r).length=mk (d::r):=by
    rw[Ku];congr 1;simp
   rw[y6 (bE (by simp only[ni];omega)),zJ (by simp only[ni,aB,bL];omega),hb0,y6 (by decide),zJ (by unfold df;simp;omega),e,z8]
   obtain⟨n,b,h1,h2,h3⟩:=abh (a:=45::d::r) (r:=d::r) (F:=adY) rfl (fun h0 h10 ha=>⟨(ZX h0 h10 ha).2.1,fun m hm=>((ZX h0 h10 ha).2.2 m hm).trans (ZX h0 h10 ha).1.symm⟩)
   refine⟨n,b,h1,?_⟩
   rw[acD]
   by_cases hd:dU d=true
   ·rw[aG ⟨rfl,hd⟩];exact⟨h2,h3⟩
   ·rw[aD (fun h=>hd h.2)]
    have hf:∀c:UInt8,dU c=false->∀q,FQ (c::q)=none:=by
     intro c hc q
     rw[FQ,aG (.inr (.inr (.inr (by rw[List.all_cons,hc];rfl))))]
    rw[hf 45 rfl] 
    rw[hf d (by simpa using hd)]at h2 h3
    exact⟨h2,h3⟩
 ·rw[afh hn]
  by_cases hl:1<l.length
  ·obtain⟨x,hx⟩:=yM (l:=l) (i:=0) (by omega)
   have hbt:bt (mk l) 0=(x.toNat:Int):=XO hx
   have hne:x.toNat≠45:=by
    intro h;apply hn;rw[hx];exact⟨by congr 1;exact UInt8.toNat_inj.1 h,hl⟩
   rw[y6 (bE (by simp only[ni];omega)),zJ (by simp only[ni,aB,bL];omega),hbt,yp (by simp only[beq_eq_false_iff_ne,ne_eq];omega)]
   exact hpos
  ·rw[yp (bK (by simp only[ni];omega))]
   exact hpos
theorem abR {l:List UInt8}(hb:l.length<4611686018427387904):∃x b,V 212 [.str (mk l)]=some (.tup [eN x,.bool b],[])/\ac3 (JO l) x b:=by
 have e1:kJ (mk l) ⟨#[35,116]⟩=decide (l=[35,116]):=PB l _
 have e2:kJ (mk l) ⟨#[35,102]⟩=decide (l=[35,102]):=PB l _
 obtain⟨n,b,h3,h4,h5⟩:=agq l
 have hnm:=Jh (s:=mk l) (by rw[z8];exact hb)
 rw[Zp,e1,e2,acI h3]
 unfold JO
 by_cases h1:l=[35,116]
 ·rw[y6 (bE h1),aG h1];exact⟨⟨2,1,⟨#[]⟩,0,0⟩,true,rfl,rfl,rfl⟩
 rw[yp (bK h1),aD h1]
 by_cases h2:l=[35,102]
 ·rw[y6 (bE h2),aG h2];exact⟨⟨2,0,⟨#[]⟩,0,0⟩,true,rfl,rfl,rfl⟩
 rw[yp (bK h2),aD h2]
 cases hf:acD l with
 |some m=>
  rw[hf]at h4 h5
  have:=h5 m rfl
  rw[h4,<-this]
  exact⟨⟨3,m,⟨#[]⟩,0,0⟩,true,rfl,rfl,rfl⟩
 |none=>
  rw[hf]at h4
  rw[h4,show(none:Option Int).isSome=false from rfl,y0,Uf hnm]
  refine⟨⟨4,0,mk l,0,0⟩,Oi (mk l),rfl,?_⟩
  cases e:Oi (mk l) with
  |true=>simp[adt,e,ac3]
  |false=>simp[adt,e,ac3]
end
end Go.Eng
/-! sizes told: printed by mkz.py -/
namespace Go.Eng
open Go.Proofs Go.Proofs.Tryz
set_option maxHeartbeats 4000000
set_option maxRecDepth 100000

theorem sz3:TypeInfo.size (Tables.types (Program.toTables Tryz.prog))[3]=1:=by kernel_rfl
theorem fl3:rZ Tryz.prog (3)=true:=by kernel_rfl

theorem Bm (p0:ByteArray)(p1:Nat)(p2:Int)(p3:List D)(p4:List D)(p5:List D)(p6:List D):AE p0 p1 p2 p3 p4 p5 p6 =
 br (decide (p2<ni (ByteArray.size p0)))
  (
  grd (decide (0<=p2)&&decide (p2<ni (ByteArray.size p0))) (br (bt p0 p2==32)
  (AE p0 p1 (w6 (p2+1)) p3 p4 p5 p6)
  (
   br (bt p0 p2==40)
   (grd (decide
 (ni
   (List.length
    (part p5 (some (0,p1)) ++
     [D.agg
       [iN p2,
        D.os
         (1,0)
         []]])) <=
  LIM)) (nam (part p5 (some (0,p1)) ++
 [D.agg
   [iN p2,
    D.os
     (1,0)
     []]]) fun a=>
   AL p0 (w6 (p2+1)) p3 p4 a p6))
   (
   br (bt p0 p2==41)
   (
    br (w6 (ni p1-1)==0)
    (Fi 147 [(.agg [(.rs (5,0) p3)])] fun a=>((some ((.tup [(.agg [(.os (5,0) a)]),(.os (1,0) p4),(iN (5)),(iN p2)]),[]))))
    (
    grd (decide (0<=w6 (ni p1-1))&&decide (w6 (ni p1-1)<ni p1)&&decide (0+p1<=List.length p5)) (dd p5 (0+Int.toNat (w6 (ni p1-1))) fun a=>
    asAgg a fun b=>dd b 1 fun c=>
     jH (1,0) c fun d=>asAgg a fun e=>AP 210 [(.op [(.os (5,0) p6)]),(.rs (1,0) d)] fun f g=>((grd (iy p1 (List.length (List.set p5 (0+Int.toNat (w6 (ni p1-1))) (D.agg (List.take 1 e++[D.dead]++List.drop 2 e)))-0) none (some (w6 (ni p1-1)))) (grd (decide (0<=w6 (w6 (ni p1-1)-1))&&decide (w6 (w6 (ni p1-1)-1)<ni (Int.toNat (w6 (ni p1-1))))&&decide (0+Int.toNat (w6 (ni p1-1))<=List.length (List.set p5 (0+Int.toNat (w6 (ni p1-1))) (D.agg (List.take 1 e++[D.dead]++List.drop 2 e))))) (dd (List.set p5 (0+Int.toNat (w6 (ni p1-1))) (D.agg (List.take 1 e++[D.dead]++List.drop 2 e))) (0+Int.toNat (w6 (w6 (ni p1-1)-1))) fun h=>
          asAgg h fun i=>dd i 1 fun j=>
           jH (1,0) j fun k=>asAgg h fun l=>grd (decide (ni (List.length (k++[iN f]))<=LIM)) (nam (k++[iN f]) fun m=>
            grd (decide (0<=w6 (w6 (ni p1-1)-1))&&decide (w6 (w6 (ni p1-1)-1)<ni (Int.toNat (w6 (ni p1-1))))&&decide (0+Int.toNat (w6 (ni p1-1))<=List.length (List.set (List.set p5 (0+Int.toNat (w6 (ni p1-1))) (D.agg (List.take 1 e++[D.dead]++List.drop 2 e))) (0+Int.toNat (w6 (w6 (ni p1-1)-1))) (D.agg (List.take 1 l++[D.dead]++List.drop 2 l))))) (dd (List.set (List.set p5 (0+Int.toNat (w6 (ni p1-1))) (D.agg (List.take 1 e++[D.dead]++List.drop 2 e))) (0+Int.toNat (w6 (w6 (ni p1-1)-1))) (D.agg (List.take 1 l++[D.dead]++List.drop 2 l))) (0+Int.toNat (w6 (w6 (ni p1-1)-1))) fun n=>
             asAgg n fun o=>nam (List.set (List.set (List.set p5 (0+Int.toNat (w6 (ni p1-1))) (D.agg (List.take 1 e++[D.dead]++List.drop 2 e))) (0+Int.toNat (w6 (w6 (ni p1-1)-1))) (D.agg (List.take 1 l++[D.dead]++List.drop 2 l))) (0+Int.toNat (w6 (w6 (ni p1-1)-1)))
 (D.agg
  (List.take 1 o ++
    [D.os
      (1,0)
      m] ++
   List.drop 2 o))) fun p=>
              AE p0 (Int.toNat (w6 (ni p1-1))) (w6 (p2+1)) p3 p4 p g)))))))))
   (ck1 211 [(.int .u8 (bt p0 p2))] fun a=>(br a
     (CG p0 p1 p2 (w6 (ni p1-1)) p2 p3 p4 p5 p6)
     (Fi 147 [(.agg [(.rs (5,0) p3)])] fun b=>((some ((.tup [(.agg [(.os (5,0) b)]),(.os (1,0) p4),(iN (2)),(iN p2)]),[]))))))))))
  (
  br (decide (ni p1>1))
  (Fi 147 [(.agg [(.rs (5,0) p3)])] fun a=>((grd (decide (0<=w6 (ni p1-1))&&decide (w6 (ni p1-1)<ni p1)&&decide (0+p1<=List.length p5)) (dd p5 (0+Int.toNat (w6 (ni p1-1))) fun b=>
     asAgg b fun c=>dd c 0 fun d=>
      asI .i64 d fun e=>some ((.tup [(.agg [(.os (5,0) a)]),(.os (1,0) p4),(iN (4)),(iN e)]),[])))))
  (ck1 60 [(.agg [(.rs (5,0) p6)])] fun a=>(br (!a)
    (Fi 147 [(.agg [(.rs (5,0) p3)])] fun b=>((some ((.tup [(.agg [(.os (5,0) b)]),(.os (1,0) p4),(iN (6)),(iN (0))]),[]))))
    (
    grd (decide (0<=0)&&decide (0<ni p1)&&decide (0+p1<=List.length p5)) (dd p5 0 fun b=>
    asAgg b fun c=>dd c 1 fun d=>
     jH (1,0) d fun e=>asAgg b fun _=>grd (decide (ni (List.length ([]++e))<=LIM)) (nam ([]++e) fun f=>
       some ((.tup [(.agg [(.os (5,0) p6)]),(.os (1,0) f),(iN (0)),(iN (ni (ByteArray.size p0)))]),[]))))))):=by
 have h:=Rc p0 p1 p2 p3 p4 p5 p6
 simp only[sz3,fl3]at h
 exact h
theorem BQ (p0:ByteArray)(p1:Int)(p2:List D)(p3:List D)(p4:List D)(p5:List D):AL p0 p1 p2 p3 p4 p5 =
 br (decide (p1<ni (ByteArray.size p0)))
  (
  grd (decide (0<=p1)&&decide (p1<ni (ByteArray.size p0))) (br (bt p0 p1==32)
  (AL p0 (w6 (p1+1)) p2 p3 p4 p5)
  (
   br (bt p0 p1==40)
   (grd (decide
 (ni
   (List.length
    (p4 ++
     [D.agg
       [iN p1,
        D.os
         (1,0)
         []]])) <=
  LIM)) (nam (p4 ++
 [D.agg
   [iN p1,
    D.os
     (1,0)
     []]]) fun a=>
   AL p0 (w6 (p1+1)) p2 p3 a p5))
   (
   br (bt p0 p1==41)
   (
    br (w6 (ni p4.length-1)==0)
    (Fi 147 [(.agg [(.rs (5,0) p2)])] fun a=>((some ((.tup [(.agg [(.os (5,0) a)]),(.os (1,0) p3),(iN (5)),(iN p1)]),[]))))
    (
    grd (decide (0<=w6 (ni p4.length-1))&&decide (w6 (ni p4.length-1)<ni p4.length)) (dd p4 (Int.toNat (w6 (ni p4.length-1))) fun a=>
    asAgg a fun b=>dd b 1 fun c=>
     jH (1,0) c fun d=>asAgg a fun e=>AP 210 [(.op [(.os (5,0) p5)]),(.rs (1,0) d)] fun f g=>((grd (df (List.length (List.set p4 (Int.toNat (w6 (ni p4.length-1))) (D.agg (List.take 1 e++[D.dead]++List.drop 2 e)))) none (some (w6 (ni p4.length-1)))) (grd (decide (0<=w6 (w6 (ni p4.length-1)-1))&&decide (w6 (w6 (ni p4.length-1)-1)<ni (Int.toNat (w6 (ni p4.length-1))))&&decide (0+Int.toNat (w6 (ni p4.length-1))<=List.length (List.set p4 (Int.toNat (w6 (ni p4.length-1))) (D.agg (List.take 1 e++[D.dead]++List.drop 2 e))))) (dd (List.set p4 (Int.toNat (w6 (ni p4.length-1))) (D.agg (List.take 1 e++[D.dead]++List.drop 2 e))) (0+Int.toNat (w6 (w6 (ni p4.length-1)-1))) fun h=>
          asAgg h fun i=>dd i 1 fun j=>
           jH (1,0) j fun k=>asAgg h fun l=>grd (decide (ni (List.length (k++[iN f]))<=LIM)) (nam (k++[iN f]) fun m=>
            grd (decide (0<=w6 (w6 (ni p4.length-1)-1))&&decide (w6 (w6 (ni p4.length-1)-1)<ni (Int.toNat (w6 (ni p4.length-1))))&&decide (0+Int.toNat (w6 (ni p4.length-1))<=List.length (List.set (List.set p4 (Int.toNat (w6 (ni p4.length-1))) (D.agg (List.take 1 e++[D.dead]++List.drop 2 e))) (0+Int.toNat (w6 (w6 (ni p4.length-1)-1))) (D.agg (List.take 1 l++[D.dead]++List.drop 2 l))))) (dd (List.set (List.set p4 (Int.toNat (w6 (ni p4.length-1))) (D.agg (List.take 1 e++[D.dead]++List.drop 2 e))) (0+Int.toNat (w6 (w6 (ni p4.length-1)-1))) (D.agg (List.take 1 l++[D.dead]++List.drop 2 l))) (0+Int.toNat (w6 (w6 (ni p4.length-1)-1))) fun n=>
             asAgg n fun o=>nam (List.set (List.set (List.set p4 (Int.toNat (w6 (ni p4.length-1))) (D.agg (List.take 1 e++[D.dead]++List.drop 2 e))) (0+Int.toNat (w6 (w6 (ni p4.length-1)-1))) (D.agg (List.take 1 l++[D.dead]++List.drop 2 l))) (0+Int.toNat (w6 (w6 (ni p4.length-1)-1)))
 (D.agg
  (List.take 1 o ++
    [D.os
      (1,0)
      m] ++
   List.drop 2 o))) fun p=>
              AE p0 (Int.toNat (w6 (ni p4.length-1))) (w6 (p1+1)) p2 p3 p g)))))))))
   (ck1 211 [(.int .u8 (bt p0 p1))] fun a=>(br a
     (DF p0 p1 (w6 (ni p4.length-1)) p1 p2 p3 p4 p5)
     (Fi 147 [(.agg [(.rs (5,0) p2)])] fun b=>((some ((.tup [(.agg [(.os (5,0) b)]),(.os (1,0) p3),(iN (2)),(iN p1)]),[]))))))))))
  (
  br (decide (ni p4.length>1))
  (Fi 147 [(.agg [(.rs (5,0) p2)])] fun a=>((grd (decide (0<=w6 (ni p4.length-1))&&decide (w6 (ni p4.length-1)<ni p4.length)) (dd p4 (Int.toNat (w6 (ni p4.length-1))) fun b=>
     asAgg b fun c=>dd c 0 fun d=>
      asI .i64 d fun e=>some ((.tup [(.agg [(.os (5,0) a)]),(.os (1,0) p3),(iN (4)),(iN e)]),[])))))
  (ck1 60 [(.agg [(.rs (5,0) p5)])] fun a=>(br (!a)
    (Fi 147 [(.agg [(.rs (5,0) p2)])] fun b=>((some ((.tup [(.agg [(.os (5,0) b)]),(.os (1,0) p3),(iN (6)),(iN (0))]),[]))))
    (
    grd (decide (0<=0)&&decide (0<ni p4.length)) (dd p4 0 fun b=>
    asAgg b fun c=>dd c 1 fun d=>
     jH (1,0) d fun e=>asAgg b fun _=>grd (decide (ni (List.length ([]++e))<=LIM)) (nam ([]++e) fun f=>
       some ((.tup [(.agg [(.os (5,0) p5)]),(.os (1,0) f),(iN (0)),(iN (ni (ByteArray.size p0)))]),[]))))))):=by
 have h:=Ut p0 p1 p2 p3 p4 p5
 simp only[sz3,fl3]at h
 exact h
theorem LM (p0:ByteArray)(p1:Int)(p2:Int)(p3:Int)(p4:List D)(p5:List D)(p6:List D)(p7:List D):DF p0 p1 p2 p3 p4 p5 p6 p7 =
 br (decide (p1<ni (ByteArray.size p0)))
  (grd (decide (0<=p1)&&decide (p1<ni (ByteArray.size p0))) (ck1 211 [(.int .u8 (bt p0 p1))] fun a=>(br a
   (DF p0 (w6 (p1+1)) p2 p3 p4 p5 p6 p7)
   (grd (df (ByteArray.size p0) (some p3) (some p1)) (Vg 212 [(.str (ByteArray.extract p0 p3.toNat p1.toNat))] fun b c d e f g=>(((br (!g)
            (Fi 147 [(.agg [(.rs (5,0) p4)])] fun h=>((some ((.tup [(.agg [(.os (5,0) h)]),(.os (1,0) p5),(iN (3)),(iN p3)]),[]))))
            (
            grd (decide (0<=p2)&&decide (p2<ni p6.length)) (dd p6 p2.toNat fun h=>
            asAgg h fun i=>dd i 1 fun j=>
             jH (1,0) j fun k=>asAgg h fun l=>AP 158 [(.op [(.os (5,0) p7)]),(.agg [(iN b),(iN c),(.str d),(iN e),(iN f)])] fun m n=>((grd (decide (ni (List.length (k++[iN m]))<=LIM)) (nam (k++[iN m]) fun o=>
                  grd (decide (0<=p2)&&decide (p2<ni (List.length (List.set p6 p2.toNat (D.agg (List.take 1 l++[D.dead]++List.drop 2 l)))))) (dd (List.set p6 p2.toNat (D.agg (List.take 1 l++[D.dead]++List.drop 2 l))) p2.toNat fun p=>
                  asAgg p fun q=>nam (List.set (List.set p6 p2.toNat (D.agg (List.take 1 l++[D.dead]++List.drop 2 l))) p2.toNat
 (D.agg
  (List.take 1 q ++
    [D.os
      (1,0)
      o] ++
   List.drop 2 q))) fun r=>
                   AL p0 p1 p4 p5 r n))))))))))))))
  (grd (df (ByteArray.size p0) (some p3) (some p1)) (Vg 212 [(.str (ByteArray.extract p0 p3.toNat p1.toNat))] fun a b c d e f=>(((br (!f)
          (Fi 147 [(.agg [(.rs (5,0) p4)])] fun g=>((some ((.tup [(.agg [(.os (5,0) g)]),(.os (1,0) p5),(iN (3)),(iN p3)]),[]))))
          (
           grd (decide (0<=p2)&&decide (p2<ni p6.length)) (dd p6 p2.toNat fun g=>
           asAgg g fun h=>dd h 1 fun i=>
            jH (1,0) i fun j=>asAgg g fun k=>AP 158 [(.op [(.os (5,0) p7)]),(.agg [(iN a),(iN b),(.str c),(iN d),(iN e)])] fun l m=>((grd (decide (ni (List.length (j++[iN l]))<=LIM)) (nam (j++[iN l]) fun n=>
                grd (decide (0<=p2)&&decide (p2<ni (List.length (List.set p6 p2.toNat (D.agg (List.take 1 k++[D.dead]++List.drop 2 k)))))) (dd (List.set p6 p2.toNat (D.agg (List.take 1 k++[D.dead]++List.drop 2 k))) p2.toNat fun o=>
                 asAgg o fun p=>nam (List.set (List.set p6 p2.toNat (D.agg (List.take 1 k++[D.dead]++List.drop 2 k))) p2.toNat
 (D.agg
  (List.take 1 p ++
    [D.os
      (1,0)
      n] ++
   List.drop 2 p))) fun q=>
                  AL p0 p1 p4 p5 q m))))))))))):=by
 have h:=SK p0 p1 p2 p3 p4 p5 p6 p7
 simp only[sz3,fl3]at h
 exact h
theorem JP (p0:ByteArray)(p1:Nat)(p2:Int)(p3:Int)(p4:Int)(p5:List D)(p6:List D)(p7:List D)(p8:List D):CG p0 p1 p2 p3 p4 p5 p6 p7 p8 =
 br (decide (p2<ni (ByteArray.size p0)))
  (grd (decide (0<=p2)&&decide (p2<ni (ByteArray.size p0))) (ck1 211 [(.int .u8 (bt p0 p2))] fun a=>(br a
   (CG p0 p1 (w6 (p2+1)) p3 p4 p5 p6 p7 p8)
   (grd (df (ByteArray.size p0) (some p4) (some p2)) (Vg 212 [(.str (ByteArray.extract p0 p4.toNat p2.toNat))] fun b c d e f g=>(((br (!g)
            (Fi 147 [(.agg [(.rs (5,0) p5)])] fun h=>((some ((.tup [(.agg [(.os (5,0) h)]),(.os (1,0) p6),(iN (3)),(iN p4)]),[]))))
            (
            grd (decide (0<=p3)&&decide (p3<ni p1)&&decide (0+p1<=List.length p7)) (dd p7 (0+Int.toNat p3) fun h=>
            asAgg h fun i=>dd i 1 fun j=>
             jH (1,0) j fun k=>asAgg h fun l=>AP 158 [(.op [(.os (5,0) p8)]),(.agg [(iN b),(iN c),(.str d),(iN e),(iN f)])] fun m n=>((grd (decide (ni (List.length (k++[iN m]))<=LIM)) (nam (k++[iN m]) fun o=>
                  grd (decide (0<=p3)&&decide (p3<ni p1)&&decide (0+p1<=List.length (List.set p7 (0+Int.toNat p3) (D.agg (List.take 1 l++[D.dead]++List.drop 2 l))))) (dd (List.set p7 (0+Int.toNat p3) (D.agg (List.take 1 l++[D.dead]++List.drop 2 l))) (0+Int.toNat p3) fun p=>
                  asAgg p fun q=>nam (List.set (List.set p7 (0+Int.toNat p3) (D.agg (List.take 1 l++[D.dead]++List.drop 2 l))) (0+Int.toNat p3)
 (D.agg
  (List.take 1 q ++
    [D.os
      (1,0)
      o] ++
   List.drop 2 q))) fun r=>
                   AE p0 p1 p2 p5 p6 r n))))))))))))))
  (grd (df (ByteArray.size p0) (some p4) (some p2)) (Vg 212 [(.str (ByteArray.extract p0 p4.toNat p2.toNat))] fun a b c d e f=>(((br (!f)
          (Fi 147 [(.agg [(.rs (5,0) p5)])] fun g=>((some ((.tup [(.agg [(.os (5,0) g)]),(.os (1,0) p6),(iN (3)),(iN p4)]),[]))))
          (
           grd (decide (0<=p3)&&decide (p3<ni p1)&&decide (0+p1<=List.length p7)) (dd p7 (0+Int.toNat p3) fun g=>
           asAgg g fun h=>dd h 1 fun i=>
            jH (1,0) i fun j=>asAgg g fun k=>AP 158 [(.op [(.os (5,0) p8)]),(.agg [(iN a),(iN b),(.str c),(iN d),(iN e)])] fun l m=>((grd (decide (ni (List.length (j++[iN l]))<=LIM)) (nam (j++[iN l]) fun n=>
                grd (decide (0<=p3)&&decide (p3<ni p1)&&decide (0+p1<=List.length (List.set p7 (0+Int.toNat p3) (D.agg (List.take 1 k++[D.dead]++List.drop 2 k))))) (dd (List.set p7 (0+Int.toNat p3) (D.agg (List.take 1 k++[D.dead]++List.drop 2 k))) (0+Int.toNat p3) fun o=>
                 asAgg o fun p=>nam (List.set (List.set p7 (0+Int.toNat p3) (D.agg (List.take 1 k++[D.dead]++List.drop 2 k))) (0+Int.toNat p3)
 (D.agg
  (List.take 1 p ++
    [D.os
      (1,0)
      n] ++
   List.drop 2 p))) fun q=>
                  AE p0 p1 p2 p5 p6 q m))))))))))):=by
 have h:=QF p0 p1 p2 p3 p4 p5 p6 p7 p8
 simp only[sz3,fl3]at h
 exact h
theorem ab6 (a0_0:List D)(a1_:ByteArray):V 191 [.agg [.rs (5,0) a0_0],.str a1_] =
 ck1 60 [(.agg [(.rs (5,0) a0_0)])] fun a=>(br (!a)
   (some ((.tup [(.agg [(.os (5,0) [])]),(.os (1,0) []),(iN (6)),(iN (0))]),[]))
   (
   br (decide (ni (ByteArray.size a1_)>400))
   (Fi 147 [(.agg [(.rs (5,0) a0_0)])] fun b=>((some ((.tup [(.agg [(.os (5,0) b)]),(.os (1,0) []),(iN (1)),(iN (0))]),[]))))
   (Fi 147 [(.agg [(.rs (5,0) a0_0)])] fun b=>((AL a1_ (0) a0_0 [] ([D.agg
  [iN (0),
   D.os
    (1,0)
    []]]) b))))):=by
 have h:=acm a0_0 a1_
 simp only[sz3,fl3]at h
 exact h

end Go.Eng
/-! reading a text,on both sides -/
namespace Go.Eng
noncomputable section
open Go.Proofs Go.Proofs.Tryz
set_option maxHeartbeats 4000000

def CM:List Int->List Nd->Nat->List Nd×Nat
 |[],q,c=>(q,c)
 |x::r,q,c=>CM r (q++[⟨5,0,⟨#[]⟩,x,(c:Int)⟩]) q.length
def Af (q:List Nd)(row:List Int):List Nd×Nat:=CM row.reverse (q++[⟨1,0,⟨#[]⟩,0,0⟩]) q.length
theorem VV:∀(r:List Int)(q:List Nd)(c:Nat),(CM r q c).1.length=q.length+r.length
 |[],q,c=>rfl
 |x::r,q,c=>by rw[CM,VV r];simp only[lnA,lnC,lnN];omega
theorem FE (q:List Nd)(row:List Int):(Af q row).1.length=q.length+row.length+1:=by
 rw[Af,VV];simp only[lnA,lnC,lnN,List.length_reverse];omega
theorem MI {q:List Nd}(h:Cu q){x:Nd}(hx:x.s.size<4611686018427387904):Cu (q++[x]):=by
 intro y hy
 rcases bF.1 hy with h1|h1
 ·exact h y h1
 ·rw[cH.1 h1];exact hx
theorem TZ:∀(r:List Int)(q:List Nd)(c:Nat),Cu q->Cu (CM r q c).1
 |[],q,c,h=>h
 |x::r,q,c,h=>TZ r _ _ (MI h (x:=⟨5,0,⟨#[]⟩,x,(c:Int)⟩) (by show(0:Nat)<_;omega))
theorem VY {q:List Nd}(h:Cu q)(row:List Int):Cu (Af q row).1:=TZ _ _ _ (MI h (x:=⟨1,0,⟨#[]⟩,0,0⟩) (by show(0:Nat)<_;omega))
theorem abM {row:List Int}{k:Nat}{x:Int}(hx:row[k]? = some x):(row.take (k+1)).reverse=x::(row.take k).reverse:=by
 rw[List.take_add_one,hx];simp
theorem aan {q:List Nd}(h:q.length<4294967296)(a b:Int):V 94 [rP q,iN a,iN b]=some (iN q.length,[rP (q++[⟨5,0,⟨#[]⟩,a,b⟩])]):=by
 have:=KM h ⟨5,0,⟨#[]⟩,a,b⟩
 rw[Uz,Bg this]
theorem VQ {row:List Int}(hr:row.length<4294967296):∀(k:Nat)(q:List Nd)(c:Nat),k<=row.length->q.length+k<4294967296 ->
  EU (row.map eI) (c:Int) ((k:Int)-1) (q.map eN)=some (iN (CM (row.take k).reverse q c).2,[rP (CM (row.take k).reverse q c).1])
 |0,q,c,_,_=>by rw[Jj,yp (bK (by omega))];rfl
 |k+1,q,c,hk,hq=>by
  obtain⟨x,hx⟩:=yM (l:=row) (i:=k) (by omega)
  have hp:=aan (q:=q) (by omega) x c
  have ih:=VQ hr k (q++[⟨5,0,⟨#[]⟩,x,(c:Int)⟩]) q.length (by omega) (by simp only[lnA,lnC,lnN];omega)
  have e:((k+1:Nat):Int)-1=(k:Int):=by omega
  rw[Jj,e,y6 (bE (by omega)),zJ (by rw[lnM];exact zM (by omega)),bI,zj hx,zq,JV hp,w64 (by omega) (by omega),ih,abM hx,CM]
theorem aal {q:List Nd}{row:List Int}(h:q.length+row.length<4294967290):V 222 [rP q,.rs (1,0) (row.map eI)]=some (iN (Af q row).2,[rP (Af q row).1]):=by
 have ha:=KM (p:=q) (by omega) ⟨1,0,⟨#[]⟩,0,0⟩
 have hl:=VQ (row:=row) (by omega) row.length (q++[⟨1,0,⟨#[]⟩,0,0⟩]) q.length (cB _) (by simp only[lnA,lnC,lnN];omega)
 rw[List.take_length]at hl
 rw[Uy,Bg ha,lnM,w64 (by simp only[ni];omega) (by simp only[ni];omega)]
 exact hl
theorem WH {row:List Int}(hr:row.length<4294967296):∀(k:Nat)(q:List Nd)(c:Nat),k<=row.length->q.length+k<4294967296 ->
  GU (row.map eI) (c:Int) ((k:Int)-1) (q.map eN)=some (iN (CM (row.take k).reverse q c).2,[rP (CM (row.take k).reverse q c).1])
 |0,q,c,_,_=>by rw[Lk,yp (bK (by omega))];rfl
 |k+1,q,c,hk,hq=>by
  obtain⟨x,hx⟩:=yM (l:=row) (i:=k) (by omega)
  have hp:=AV (p:=q) (by omega) ⟨5,0,⟨#[]⟩,x,(c:Int)⟩
  have ih:=WH hr k (q++[⟨5,0,⟨#[]⟩,x,(c:Int)⟩]) q.length (by omega) (by simp only[lnA,lnC,lnN];omega)
  have e:((k+1:Nat):Int)-1=(k:Int):=by omega
  rw[Lk,e,y6 (bE (by omega)),zJ (by rw[lnM];exact zM (by omega)),bI,zj hx,zq,Ar hp,w64 (by omega) (by omega),ih,abM hx,CM]
theorem PC {q:List Nd}{row:List Int}(h:q.length+row.length<4294967290):V 210 [rP q,.rs (1,0) (row.map eI)]=some (iN (Af q row).2,[rP (Af q row).1]):=by
 have ha:=AV (p:=q) (by omega) ⟨1,0,⟨#[]⟩,0,0⟩
 have hl:=WH (row:=row) (by omega) row.length (q++[⟨1,0,⟨#[]⟩,0,0⟩]) q.length (cB _) (by simp only[lnA,lnC,lnN];omega)
 rw[List.take_length]at hl
 rw[Zn,Ar ha,lnM,w64 (by simp only[ni];omega) (by simp only[ni];omega)]
 exact hl
abbrev RwF:=Int×List Int
inductive RdR where
 |err (c a:Int)
 |ok (q:List Nd) (row:List Int)
def JA (l:List UInt8)(j:Nat):Nat:=j+((l.drop j).takeWhile Oc).length
def adx (l:List UInt8)(G:Nat->List RwF->RwF->List Nd->RdR)(i:Nat)(o:List RwF)(t:RwF)(q:List Nd):Option UInt8->RdR
 |none=>if o=[] then .ok q t.2 else .err 4 t.1
 |some x=>
   if x=32 then G (i+1) o t q
   else if x=40 then G (i+1) (t::o) ((i:Int),[]) q
   else if x=41 then match o with
    |[]=>.err 5 (i:Int)
    |u::o=>G (i+1) o (u.1,u.2++[((Af q t.2).2:Int)]) (Af q t.2).1
   else if Oc x=true then match JO ((l.drop i).take (JA l i-i)) with
    |none=>.err 3 (i:Int)
    |some nd=>G (JA l i) o (t.1,t.2++[(q.length:Int)]) (q++[nd])
   else .err 2 (i:Int)
def FT (l:List UInt8):Nat->Nat->List RwF->RwF->List Nd->RdR
 |0,_,_,_,_=>.err 1 0
 |k+1,i,o,t,q=>adx l (FT l k) i o t q l[i]?
theorem Sn (l:List UInt8)(G:Nat->List RwF->RwF->List Nd->RdR)(i:Nat)(o:List RwF)(t:RwF)(q:List Nd):adx l G i o t q none=if o=[] then .ok q t.2 else .err 4 t.1:=rfl
theorem PR (l:List UInt8)(G:Nat->List RwF->RwF->List Nd->RdR)(i:Nat)(o:List RwF)(t:RwF)(q:List Nd)(x:UInt8):adx l G i o t q (some x)=(if x=32 then G (i+1) o t q
   else if x=40 then G (i+1) (t::o) ((i:Int),[]) q
   else if x=41 then match o with
    |[]=>.err 5 (i:Int)
    |u::o=>G (i+1) o (u.1,u.2++[((Af q t.2).2:Int)]) (Af q t.2).1
   else if Oc x=true then match JO ((l.drop i).take (JA l i-i)) with
    |none=>.err 3 (i:Int)
    |some nd=>G (JA l i) o (t.1,t.2++[(q.length:Int)]) (q++[nd])
   else .err 2 (i:Int)):=rfl
theorem MY (l:List UInt8)(k i:Nat)(o:List RwF)(t:RwF)(q:List Nd):FT l (k+1) i o t q=adx l (FT l k) i o t q l[i]?:=rfl
theorem PF {l:List UInt8}{j:Nat}{x:UInt8}(hx:l[j]? = some x)(h:Oc x=true):JA l j=JA l (j+1):=by
 unfold JA;rw[vc hx,List.takeWhile_cons,aG h];simp only[lnC];omega
theorem YG {l:List UInt8}{j:Nat}{x:UInt8}(hx:l[j]? = some x)(h:Oc x=false):JA l j=j:=by
 unfold JA;rw[vc hx,List.takeWhile_cons,aD (by rw[h];simp)];rfl
theorem ab4 {l:List UInt8}{j:Nat}(h:l.length<=j):JA l j=j:=by
 unfold JA;rw[cD h];rfl
theorem aap {l:List UInt8}{j:Nat}(h:j<=l.length):j<=JA l j/\JA l j<=l.length:=by
 unfold JA
 have:=(List.takeWhile_sublist (p:=Oc) (l:=l.drop j)).length_le
 rw[c8]at this
 omega
def phi (o:List RwF)(t:RwF)(q:List Nd):Nat:=q.length+t.2.length+(o.map fun x=>x.2.length).sum
theorem QZ {l:List UInt8}{x:Nd}(h:JO l=some x):x.s.size<=l.length:=by
 unfold JO adt at h
 split at h
 ·cases h;exact Nat.zero_le _
 split at h
 ·cases h;exact Nat.zero_le _
 split at h
 ·cases h;exact Nat.zero_le _
 split at h
 ·cases h;exact Nat.le_of_eq (z8 _)
 ·cases h
theorem Ee {A B:List D}{x:D}(K:D->Option Ret):dd (A++x::B) A.length K=K x:=by simp[dd]
theorem FF {A B:List D}{x v:D}:(A++x::B).set A.length v=A++v::B:=by simp
theorem aa8 {l:List D}(h:l.length<=4294967296):decide (ni l.length<=LIM)=true:=bE (by rw[qA];simp only[ni];omega)
theorem JD {x:UInt8}(c:UInt8)(n:Int)(hn:(c.toNat:Int)=n)(h:¬x=c):((x.toNat:Int)==n)=false:=by
 subst hn
 simp only[beq_eq_false_iff_ne,ne_eq]
 intro e
 exact h (UInt8.toNat_inj.1 (by omega))
end
end Go.Eng
/-! a step of a machine,plain -/
namespace Go.Eng
noncomputable section

abbrev ndN:Nd:=⟨1,0,⟨#[]⟩,0,0⟩
abbrev ndI (n:Int):Nd:=⟨3,n,⟨#[]⟩,0,0⟩
abbrev ndP (a b:Int):Nd:=⟨5,0,⟨#[]⟩,a,b⟩
abbrev ndF (n a:Int):Nd:=⟨6,n,⟨#[]⟩,a,0⟩
abbrev ndK (a:Int):Nd:=⟨7,0,⟨#[]⟩,a,0⟩
abbrev ndR (n:Int):Nd:=⟨8,n,⟨#[]⟩,0,0⟩
def ndB (b:Bool):Nd:=match b with|true=>⟨2,1,⟨#[]⟩,0,0⟩|false=>⟨2,0,⟨#[]⟩,0,0⟩
def nod (p:List Nd)(v:Int):Nd:=p.getD v.toNat ndN
abbrev InP (p:List Nd)(v:Int):Prop:=0<=v/\v<(p.length:Int)

def prNames:List (List UInt8):=[[43],[45],[42],[60],[61],[99,111,110,115],[99,97,114],[99,100,114],[110,117,108,108,63],[112,97,105,114,63],[101,113,63],[110,111,116],[112,114,105,110,116],[115,101,108,102],[115,101,110,100],[114,101,99,118],[115,112,97,119,110],[99,97,108,108,99,99],[103,111]]
def EO (s:ByteArray):Int:=zm (fun x=>kJ s (mk x)) prNames+1
def prArgs:List Int:=[2,2,2,2,2,2,1,1,1,1,2,1,1,0,2,0,1,1,1]
def Av (n:Int):Int:=if wi n 1 19=true then prArgs.getD (n-1).toNat 0 else -1

def Az (out:List Int)(x:Nd):Nd:=
 if x.kind=5 then ⟨x.kind,x.n,x.s,out.getD x.a.toNat 0,out.getD x.b.toNat 0⟩
 else if x.kind=6\/x.kind=7 then ⟨x.kind,x.n,x.s,out.getD x.a.toNat 0,x.b⟩ else x
def Ij (x y:Nd):Bool:=(x.kind==y.kind)&&((x.n==y.n)&&(kJ x.s y.s&&((x.a==y.a)&&(x.b==y.b))))
def Nf:List Nd->List Int->List Nd->List Int×List Nd
 |[],out,keys=>(out,keys)
 |x::r,out,keys=>Nf r (out++[match keys.findIdx? (fun y=>Ij y (Az out x)) with|some k=>(k:Int)|none=>(out.length:Int)]) (keys++[Az out x])
def FA (p:List Nd):List Int:=(Nf p [] []).1
def Qv (p:List Nd)(a b:Int):Bool:=(FA p).getD a.toNat 0==(FA p).getD b.toNat 0

def Iy (p:List Nd)(n:Int)(l:List Int):Except Int (List Nd×Int):=
 let x:=nod p (l.getD 0 0);let y:=nod p (l.getD 1 0)
 if n<=5 then
  if x.kind=3/\y.kind=3 then
   let z:=if n=1 then ndI (x.n+y.n) else if n=2 then ndI (x.n-y.n) else if n=3 then ndI (x.n*y.n) else if n=4 then ndB (decide (x.n<y.n)) else ndB (x.n==y.n)
   if wi z.n (-1000000000) 1000000000=true then .ok (p++[z],p.length) else .error 4
  else .error 3
 else if n=6 then .ok (p++[ndP (l.getD 0 0) (l.getD 1 0)],p.length)
 else if n=7\/n=8 then
  if x.kind=5 then .ok (p,if n=7 then x.a else x.b) else .error 3
 else if n=9 then .ok (p++[ndB (x.kind==1)],p.length)
 else if n=10 then .ok (p++[ndB (x.kind==5)],p.length)
 else if n=11 then .ok (p++[ndB (Qv p (l.getD 0 0) (l.getD 1 0))],p.length)
 else .ok (p++[ndB (x.kind==2&&x.n==0)],p.length)

def Jx (m:Mc)(v:Int):Mc:=⟨m.pool++[ndP v m.s],m.at',m.pool.length,m.e,m.d,m.state,m.ask,m.arg⟩
def D3 (m:Mc):Option (Int×Mc):=if (nod m.pool m.s).kind=5 then some ((nod m.pool m.s).a,⟨m.pool,m.at',(nod m.pool m.s).b,m.e,m.d,m.state,m.ask,m.arg⟩) else none
def Ef:Nat->Mc->Option (List Int×Mc)
 |0,m=>some ([],m)
 |k+1,m=>match D3 m with
  |none=>none
  |some (v,m')=>match Ef k m' with
   |none=>none
   |some (l,m'')=>some (v::l,m'')
def JT (p:List Nd):Nat->Int->Option Int
 |0,v=>if (nod p v).kind=5 then some (nod p v).a else none
 |k+1,v=>if (nod p v).kind=5 then JT p k (nod p v).b else none
def IJ (p:List Nd):Nat->Int->List Int×Bool
 |0,_=>([],false)
 |k+1,v=>if (nod p v).kind=5 then ((nod p v).a::(IJ p k (nod p v).b).1,(IJ p k (nod p v).b).2) else ([],(nod p v).kind==1)
def Cw (p:List Nd)(v:Int):List Int×Bool:=IJ p (v.toNat+1) v
def Cg (c:Cd)(n:Int):Bool:=wi n 0 ((c.list.length:Int)-1)
def Ie (c:Cd)(p:List Nd)(v:Int)(many:Nat):Option (Int×List Int):=match Cw p v with
 |(a::r,true)=>if r.length+1=many/\(nod p a).kind=3/\Cg c (nod p a).n=true then some ((nod p a).n,r) else none
 |_=>none

def UQ (m:Mc)(o i:Int):Except Int Mc:=match JT m.pool o.toNat m.e with
 |none=>.error 7
 |some fr=>match JT m.pool i.toNat fr with
  |none=>.error 7
  |some v=>.ok (Jx m v)
def Kw (c:Cd)(m:Mc)(s:ByteArray):Except Int Mc:=
 if 0<=EW c s then
  let d:=c.defs.getD (EW c s).toNat ⟨⟨#[]⟩,0,0⟩
  .ok (Jx ⟨m.pool++[ndN]++[ndF (8*d.at'+d.args) m.pool.length],m.at',m.s,m.e,m.d,m.state,m.ask,m.arg⟩ (m.pool.length+1))
 else if EO s=0 then .error 1
 else .ok (Jx ⟨m.pool++[ndR (EO s)],m.at',m.s,m.e,m.d,m.state,m.ask,m.arg⟩ m.pool.length)
def GZ (c:Cd)(m:Mc)(f:Nd)(l:List Int):Except Int Mc:=
 if f.n % 8≠(l.length:Int) then .error 2
 else if Cg c (f.n / 8)=false then .error 7
 else
  let b:=Af (m.pool++[ndI (m.at'+1)]) [(m.pool.length:Int),m.s,m.e]
  let v:=Af (b.1++[ndP b.2 m.d]) l
  .ok ⟨v.1++[ndP v.2 f.a]++[ndN],f.n / 8,((v.1.length:Int)+1),v.1.length,b.1.length,m.state,m.ask,m.arg⟩
def Sr (c:Cd)(m:Mc)(st:Int)(l:List Int):Except Int Mc:=
 if l.length≠1 then .error 2
 else match Ie c m.pool st 4 with
  |some (n,[s,e,d])=>.ok (Jx ⟨m.pool,n,s,e,d,m.state,m.ask,m.arg⟩ (l.getD 0 0))
  |_=>.error 7
def Fh (c:Cd):Nat->Mc->Int->List Int->Except Int Mc
 |0,_,_,_=>.error 0
 |k+1,m,f,l=>
  let x:=nod m.pool f
  if x.kind=6 then GZ c m x l
  else if x.kind=8 then
   if Av x.n≠(l.length:Int) then .error 2
   else if x.n=18 then
    let st:=Af (m.pool++[ndI (m.at'+1)]) [(m.pool.length:Int),m.s,m.e,m.d]
    Fh c k ⟨st.1++[ndK st.2],m.at',m.s,m.e,m.d,m.state,m.ask,m.arg⟩ (l.getD 0 0) [(st.1.length:Int)]
   else if x.n>12 then
    let r:=Af m.pool l
    .ok ⟨r.1,m.at',m.s,m.e,m.d,1,x.n,r.2⟩
   else match Iy m.pool x.n l with
    |.error h=>.error (h+1)
    |.ok (p,v)=>.ok ⟨p++[ndP v m.s],m.at'+1,p.length,m.e,m.d,m.state,m.ask,m.arg⟩
  else if x.kind=7 then Sr c m x.a l
  else .error 3
def CY (c:Cd)(m:Mc)(many:Nat):Except Int Mc:=
 if Cg c (m.at'+1)=false then .error 7
 else match Ef (many+1) m with
  |none=>.error 7
  |some (l,m')=>Fh c 3 m' (l.reverse.getD 0 0) (l.reverse.drop 1)
def Km (c:Cd)(m:Mc):Except Int Mc:=match D3 m with
 |none=>.error 7
 |some (v,m1)=>
  let d:=nod m1.pool m1.d
  if d.kind=1 then .ok ⟨m1.pool,0,m1.s,m1.e,m1.d,2,m1.ask,v⟩
  else if d.kind≠5 then .error 7
  else match Ie c m1.pool d.a 3 with
   |some (n,[s,e])=>.ok (Jx ⟨m1.pool,n,s,e,d.b,m1.state,m1.ask,m1.arg⟩ v)
   |_=>.error 7
def Ce (d:Int)(q:List Nd)(v:Int)(acc:List Nd):List Nd×Int:=((Bc d q [v] acc).2,(Bc d q [v] acc).1.getD v.toNat 0)
def ae9 (c:Cd)(m:Mc)(v:Int):Mc:=Jx ⟨(Ce (-1) c.pool v m.pool).1,m.at',m.s,m.e,m.d,m.state,m.ask,m.arg⟩ (Ce (-1) c.pool v m.pool).2
def goM (c:Cd)(r:Except Int Mc)(next:Int):Except Int Mc:=match r with
 |.error h=>.error h
 |.ok m=>if Cg c next=true then .ok ⟨m.pool,next,m.s,m.e,m.d,m.state,m.ask,m.arg⟩ else .error 7
def EH (c:Cd)(m:Mc)(x:In):Except Int Mc:=
 if x.op=1 then goM c (.ok (ae9 c m x.n)) (m.at'+1)
 else if x.op=2 then goM c (UQ m x.n x.i) (m.at'+1)
 else if x.op=3 then goM c (Kw c m x.s) (m.at'+1)
 else if x.op=5 then goM c (.ok m) x.n
 else if x.op=6 then goM c (.ok (Jx ⟨m.pool++[ndF (8*x.n+x.i) m.e],m.at',m.s,m.e,m.d,m.state,m.ask,m.arg⟩ m.pool.length)) (m.at'+1)
 else match D3 m with
  |none=>.error 7
  |some (v,m1)=>goM c (.ok m1) (if x.op=4/\(nod m1.pool v).kind=2/\(nod m1.pool v).n=0 then x.n else m.at'+1)
def RQ (m:Mc)(h:Int):Mc:=⟨m.pool,0,m.s,m.e,m.d,3,h,0⟩
def doM (c:Cd)(m:Mc):Except Int Mc:=
 let x:=c.list.getD m.at'.toNat ⟨0,0,0,⟨#[]⟩⟩
 if x.op=7 then CY c m x.i.toNat else if x.op=8 then Km c m else EH c m x
def Iz (c:Cd)(m:Mc):Mc:=match doM c m with
 |.error h=>RQ m h
 |.ok m'=>if m'.pool.length<=3000 then m' else RQ m 6
def ab5:Mc:=⟨[],0,0,0,0,3,7,0⟩
def Ul (c:Cd)(m:Mc):Mc:=if CN c m=true then (if m.state=0 then Iz c m else m) else ab5
def DD (m:Mc):Mc:=if m.pool.length<=2000 then m else Ai m
def Il (c:Cd):Nat->Mc->Mc×Nat
 |0,m=>(m,0)
 |k+1,m=>if m.state=0 then ((Il c k (DD (Iz c m))).1,(Il c k (DD (Iz c m))).2+1) else (m,0)
def agm (c:Cd)(m:Mc)(steps:Int):Mc×Nat:=if CN c m=true then Il c (mnI steps 2000).toNat m else (ab5,0)
end
end Go.Eng
/-! reading a text: the spec -/
namespace Go.Eng
noncomputable section
open Go.Proofs Go.Proofs.Tryz
set_option maxHeartbeats 4000000

theorem aai {p:List Nd}(hl:p.length<=4294967296):V 147 [eP p]=some (oP p,[]):=by
 rw[RJ,dA]
 simp (disch:=first|omega|(simp only[lnA,lnC,lnN,lnM,z8,yj];omega)) only[↓zd,↓zO,zZ,lnM,qA,yj]

abbrev eO (x:RwF):D:=.agg [iN x.1,.os (1,0) (x.2.map eI)]
theorem Ja (t:RwF)(K:List D->List D->Option Ret):(asAgg (eO t) fun l=>dd l 1 fun y=>jH (1,0) y fun r=>asAgg (eO t) fun l2=>K r l2)=K (t.2.map eI) [iN t.1,.os (1,0) (t.2.map eI)]:=rfl
theorem agw (t:RwF)(K:Int->Option Ret):(asAgg (eO t) fun l=>dd l 0 fun y=>asI .i64 y fun r=>K r)=K t.1:=rfl
theorem tdd (a b:D):List.take 1 [a,b]++[D.dead]++List.drop 2 [a,b]=[a,.dead]:=rfl
theorem tds (a b c:D):List.take 1 [a,b]++[c]++List.drop 2 [a,b]=[a,c]:=rfl
theorem ahh (A J:List D)(x:D):part (A++x::J) (some (0,A.length+1))=A++[x]:=by
 simp only[part,eR]
 rw[show A++x::J=(A++[x])++J by simp,List.take_left' (by simp)]
def SR (P:List D)(n:Nat)(r:RdR):Option Ret:=match r with
 |.err c a=>some (.tup [.agg [.os (5,0) P],.os (1,0) [],iN c,iN a],[])
 |.ok q row=>if Ac q=true then some (.tup [.agg [.os (5,0) (q.map eN)],.os (1,0) (row.map eI),iN 0,iN (n:Int)],[]) else some (.tup [.agg [.os (5,0) P],.os (1,0) [],iN 6,iN 0],[])
def YH (r:Option Nd)(p:List Nd)(i:Nat)(X:Nd->Option Ret):Option Ret:=match r with
 |none=>some (.tup [.agg [.os (5,0) (p.map eN)],.os (1,0) [],iN 3,iN (i:Int)],[])
 |some nd=>X nd
theorem agy {l:List UInt8}(hl:l.length<1000000000){i:Nat}{p q:List Nd}{A:List D}{t:RwF}(hp:p.length<4294967290)(hq:q.length<4294967290)(hA:A.length<4294967290)(ht:t.2.length<4294967290):∀(m j:Nat),j+m=l.length->i<=j ->
  DF (mk l) (j:Int) (A.length:Int) (i:Int) (p.map eN) [] (A++[eO t]) (q.map eN)=YH (JO ((l.drop i).take (JA l j-i))) p i fun nd=>AL (mk l) (JA l j:Nat) (p.map eN) [] (A++[eO (t.1,t.2++[(q.length:Int)])]) ((q++[nd]).map eN)
 |m,j,hm,hij=>by
  have hcut:df l.length (some (i:Int)) (some (j:Int))=true:=by unfold df;simp;omega
  obtain⟨x,b,h1,h2⟩:=abR (l:=(l.drop i).take (j-i)) (by simp only[cS,c8];omega)
  have ha:=AV (p:=q) (by omega) x
  have hc:=aai (p:=p) (by omega)
  have hin:∀x:D,(decide (0<=(A.length:Int))&&decide ((A.length:Int)<ni (A++[x]).length))=true:=fun x=>zM (by simp)
  have hlim:decide (ni (t.2.map eI++[iN (q.length:Int)]).length<=LIM)=true:=aa8 (by simp only[lnA,lnM,lnC,lnN];omega)
  have hrow:(t.2++[(q.length:Int)]).map eI=t.2.map eI++[iN (q.length:Int)]:=by simp
  match m with
  |0=>
   rw[LM,z8,yp (zI (by omega)),zJ hcut,bI,bI,Ku,LD h1,ab4 (by omega)]
   cases hw:JO ((l.drop i).take (j-i)) with
   |none=>
    rw[hw]at h2
    have h2:b=false:=h2
    rw[h2,bO,zy,AW hc];rfl
   |some nd=>
    rw[hw]at h2
    obtain⟨rfl,rfl⟩:x=nd/\b=true:=h2
    rw[aO,y0,zJ (hin _),bI,Ee,Ja,Ar ha,zJ hlim,zO,FF,tdd,zJ (hin _),Ee,yK,FF,tds,zO,YH,eO,hrow]
  |m+1=>
   obtain⟨y,hy⟩:=yM (l:=l) (i:=j) (by omega)
   have hb:=XO hy
   have hwb:=NJ y
   rw[LM,z8,y6 (zN (by omega)),zJ (zM (by omega)),hb,Dr hwb]
   cases hwu:Oc y with
   |true=>
    have ih:=agy hl hp hq hA ht (A:=A) (i:=i) m (j+1) (by omega) (by omega)
    rw[zy,z6 (by omega),ih,PF hy hwu]
   |false=>
    rw[y0,zJ hcut,bI,bI,Ku,LD h1,YG hy hwu]
    cases hw:JO ((l.drop i).take (j-i)) with
    |none=>
     rw[hw]at h2
     have h2:b=false:=h2
     rw[h2,bO,zy,AW hc];rfl
    |some nd=>
     rw[hw]at h2
     obtain⟨rfl,rfl⟩:x=nd/\b=true:=h2
     rw[aO,y0,zJ (hin _),bI,Ee,Ja,Ar ha,zJ hlim,zO,FF,tdd,zJ (hin _),Ee,yK,FF,tds,zO,YH,eO,hrow]
theorem ZP {A J:List D}{x:D}:(decide (0<=(A.length:Int))&&decide ((A.length:Int)<ni (A.length+1))&&decide (0+(A.length+1)<=(A++x::J).length))=true:=by
 simp only[ni,aB,bL,lnA,lnC];omega
theorem afr {l:List UInt8}(hl:l.length<1000000000){i:Nat}{p q:List Nd}{A J:List D}{t:RwF}(hp:p.length<4294967290)(hq:q.length<4294967290)(hA:A.length<4294967290)(ht:t.2.length<4294967290):∀(m j:Nat),j+m=l.length->i<=j ->
  CG (mk l) (A.length+1) (j:Int) (A.length:Int) (i:Int) (p.map eN) [] (A++eO t::J) (q.map eN)=YH (JO ((l.drop i).take (JA l j-i))) p i fun nd=>AE (mk l) (A.length+1) (JA l j:Nat) (p.map eN) [] (A++eO (t.1,t.2++[(q.length:Int)])::J) ((q++[nd]).map eN)
 |m,j,hm,hij=>by
  have hcut:df l.length (some (i:Int)) (some (j:Int))=true:=by unfold df;simp;omega
  obtain⟨x,b,h1,h2⟩:=abR (l:=(l.drop i).take (j-i)) (by simp only[cS,c8];omega)
  have ha:=AV (p:=q) (by omega) x
  have hc:=aai (p:=p) (by omega)
  have hlim:decide (ni (t.2.map eI++[iN (q.length:Int)]).length<=LIM)=true:=aa8 (by simp only[lnA,lnM,lnC,lnN];omega)
  have hrow:(t.2++[(q.length:Int)]).map eI=t.2.map eI++[iN (q.length:Int)]:=by simp
  match m with
  |0=>
   rw[JP,z8,yp (zI (by omega)),zJ hcut,bI,bI,Ku,LD h1,ab4 (by omega)]
   cases hw:JO ((l.drop i).take (j-i)) with
   |none=>
    rw[hw]at h2
    have h2:b=false:=h2
    rw[h2,bO,zy,AW hc];rfl
   |some nd=>
    rw[hw]at h2
    obtain⟨rfl,rfl⟩:x=nd/\b=true:=h2
    rw[aO,y0,zJ ZP,bI,bX,Ee,Ja,Ar ha,zJ hlim,zO,FF,tdd,zJ ZP,Ee,yK,FF,tds,zO,YH,eO,hrow]
  |m+1=>
   obtain⟨y,hy⟩:=yM (l:=l) (i:=j) (by omega)
   have hb:=XO hy
   have hwb:=NJ y
   rw[JP,z8,y6 (zN (by omega)),zJ (zM (by omega)),hb,Dr hwb]
   cases hwu:Oc y with
   |true=>
    have ih:=afr hl hp hq hA ht (A:=A) (J:=J) (i:=i) m (j+1) (by omega) (by omega)
    rw[zy,z6 (by omega),ih,PF hy hwu]
   |false=>
    rw[y0,zJ hcut,bI,bI,Ku,LD h1,YG hy hwu]
    cases hw:JO ((l.drop i).take (j-i)) with
    |none=>
     rw[hw]at h2
     have h2:b=false:=h2
     rw[h2,bO,zy,AW hc];rfl
    |some nd=>
     rw[hw]at h2
     obtain⟨rfl,rfl⟩:x=nd/\b=true:=h2
     rw[aO,y0,zJ ZP,bI,bX,Ee,Ja,Ar ha,zJ hlim,zO,FF,tdd,zJ ZP,Ee,yK,FF,tds,zO,YH,eO,hrow]
theorem ahi {A J:List D}{x y v:D}:((A++[x])++y::J).set (A.length+1) v=A++x::v::J:=by
 have:=FF (A:=A++[x]) (B:=J) (x:=y) (v:=v)
 rw[lnA,List.length_singleton]at this
 rw[this,bD];rfl
theorem ahf {A J:List D}{x y:D}(K:D->Option Ret):dd ((A++[x])++y::J) (A.length+1) K=K y:=by
 have:=Ee (A:=A++[x]) (B:=J) (x:=y) K
 rw[lnA,List.length_singleton]at this
 exact this
theorem afI {n:Nat}(h:n<4611686018427387904):w6 (((n+1:Nat):Int)-1)=(n:Int):=by
 rw[w64 (by omega) (by omega)];omega
theorem aew (P:List D)(n:Nat)(q:List Nd)(row:List Int):SR P n (.ok q row)=if Ac q=true then some (.tup [.agg [.os (5,0) (q.map eN)],.os (1,0) (row.map eI),iN 0,iN (n:Int)],[]) else some (.tup [.agg [.os (5,0) P],.os (1,0) [],iN 6,iN 0],[]):=rfl
theorem Yv {l:List UInt8}(hl:l.length<1000000000){p:List Nd}(hp:p.length<4294967290):∀(k i:Nat)(o:List RwF)(t:RwF)(q:List Nd),l.length<i+k->i<=l.length->phi o t q+2*(l.length-i)<4000000000->o.length+(l.length-i)<4000000000->Cu q ->
  AL (mk l) (i:Int) (p.map eN) [] (o.reverse.map eO++[eO t]) (q.map eN)=SR (p.map eN) l.length (FT l k i o t q) /\
  ∀J,AE (mk l) (o.length+1) (i:Int) (p.map eN) [] (o.reverse.map eO++eO t::J) (q.map eN)=SR (p.map eN) l.length (FT l k i o t q)
 |0,i,o,t,q,h1,h2,_,_,_=>by omega
 |k+1,i,o,t,q,h1,h2,h3,h4,hf=>by
  have hph:phi o t q=q.length+t.2.length+(o.map fun x=>x.2.length).sum:=rfl
  have hc:=aai (p:=p) (by omega)
  have hAl:(o.reverse.map eO).length=o.length:=by rw[lnM,List.length_reverse]
  have hn1:(o.reverse.map eO++[eO t]).length=o.length+1:=by rw[lnA,hAl];rfl
  have hw1:w6 (ni (o.length+1)-1)=((o.reverse.map eO).length:Int):=by rw[hAl];exact afI (by omega)
  have hin:∀J,(decide (0<=((o.reverse.map eO).length:Int))&&decide (((o.reverse.map eO).length:Int)<ni (o.length+1))&&decide (0+(o.length+1)<=(o.reverse.map eO++eO t::J).length))=true:=fun J=>by
   rw[<-hAl];exact ZP
  rw[MY]
  by_cases hi:i=l.length
  ·have hx:l[i]? = none:=eS (by omega)
   have hok:=CU hf (by omega)
   rw[hx,Sn]
   cases o with
   |nil=>
    have hlim:decide (ni ([]++t.2.map eI).length<=LIM)=true:=aa8 (by rw[dA,lnM];omega)
    rw[aG rfl]
    constructor
    ·rw[BQ,z8,yp (zI (by omega)),yp (by rfl),Fm hok]
     rw[aew]
     cases hq:Ac q with
     |false=>rw[bO,zy,AW hc,aD (by simp)]
     |true=>rw[aO,y0,zJ (by rfl),aG rfl,show ∀K:D->Option Ret,dd (([]:List RwF).reverse.map eO++[eO t]) 0 K=K (eO t) from fun K=>rfl,Ja,zJ hlim,zO,dA]
    ·intro J
     rw[Bm,z8,yp (zI (by omega)),yp (by rfl),Fm hok]
     rw[aew]
     cases hq:Ac q with
     |false=>rw[bO,zy,AW hc,aD (by simp)]
     |true=>rw[Bool.not_true,y0,zJ (by simp[ni]),if_pos rfl,show ∀K:D->Option Ret,dd (([]:List RwF).reverse.map eO++eO t::J) 0 K=K (eO t) from fun K=>rfl,Ja,zJ hlim,zO,List.nil_append]
   |cons u o=>
    rw[aD (by simp)]
    constructor
    ·rw[BQ,z8,yp (zI (by omega)),hn1,y6 (bE (by simp only[ni,lnC];omega)),AW hc,hw1,zJ (by rw[hAl];exact zM (by omega)),bI,Ee,agw];rfl
    ·intro J
     rw[Bm,z8,yp (zI (by omega)),y6 (bE (by simp only[ni,lnC];omega)),AW hc,hw1,zJ (hin J),bI,bX,Ee,agw];rfl
  obtain⟨x,hx⟩:=yM (l:=l) (i:=i) (by omega)
  have hb:=XO hx
  rw[hx,PR]
  by_cases h32:x=32
  ·subst h32
   have ih:=Yv hl hp k (i+1) o t q (by omega) (by omega) (by omega) (by omega) hf
   rw[aG rfl]
   constructor
   ·rw[BQ,z8,y6 (zN (by omega)),zJ (zM (by omega)),hb,y6 (by rfl),z6 (by omega)]
    exact ih.1
   ·intro J
    rw[Bm,z8,y6 (zN (by omega)),zJ (zM (by omega)),hb,y6 (by rfl),z6 (by omega)]
    exact ih.2 J
  rw[aD h32]
  by_cases h40:x=40
  ·subst h40
   have hlo:decide (ni (o.reverse.map eO++[eO t]++[D.agg [iN (i:Int),.os (1,0) []]]).length<=LIM)=true:=aa8 (by rw[lnA,hn1];simp only[lnC,lnN];omega)
   have ih:=(Yv hl hp k (i+1) (t::o) ((i:Int),[]) q (by omega) (by omega) (by simp only[phi,bR,List.sum_cons,lnN];omega) (by simp only[lnC];omega) hf).1
   rw[show(t::o).reverse.map eO=o.reverse.map eO++[eO t] by simp]at ih
   rw[aG rfl]
   constructor
   ·rw[BQ,z8,y6 (zN (by omega)),zJ (zM (by omega)),hb,yp (by rfl),y6 (by rfl),zJ hlo,zO,z6 (by omega)]
    exact ih
   ·intro J
    have hpt:=ahh (o.reverse.map eO) J (eO t)
    rw[hAl]at hpt
    rw[Bm,z8,y6 (zN (by omega)),zJ (zM (by omega)),hb,yp (by rfl),y6 (by rfl),hpt,zJ hlo,zO,z6 (by omega)]
    exact ih
  rw[aD h40]
  by_cases h41:x=41
  ·subst h41
   rw[aG rfl]
   cases o with
   |nil=>
    constructor
    ·rw[BQ,z8,y6 (zN (by omega)),zJ (zM (by omega)),hb,yp (by rfl),yp (by rfl),y6 (by rfl),hn1,hw1,y6 (by rfl),AW hc];rfl
    ·intro J
     rw[Bm,z8,y6 (zN (by omega)),zJ (zM (by omega)),hb,yp (by rfl),yp (by rfl),y6 (by rfl),hw1,y6 (by rfl),AW hc];rfl
   |cons u o=>
    simp only[bR,List.sum_cons]at hph
    simp only[lnC]at h4
    have hll:=PC (q:=q) (row:=t.2) (by omega)
    have ih:=(Yv hl hp k (i+1) o (u.1,u.2++[((Af q t.2).2:Int)]) (Af q t.2).1 (by omega) (by omega) (by simp only[phi,FE,lnA,lnC,lnN];omega) (by omega) (VY hf _)).2
    obtain⟨O,hO⟩:∃O,O=o.reverse.map eO:=⟨_,rfl⟩
    have hA:O.length=o.length:=by rw[hO,lnM,List.length_reverse]
    have hrev:(u::o).reverse.map eO=O++[eO u]:=by rw[hO];simp
    have hlim:decide (ni (u.2.map eI++[iN ((Af q t.2).2:Int)]).length<=LIM)=true:=aa8 (by simp only[lnA,lnM,lnC,lnN];omega)
    have hrow:(u.2++[((Af q t.2).2:Int)]).map eI=u.2.map eI++[iN ((Af q t.2).2:Int)]:=by simp
    have hl2:(u::o).length=O.length+1:=by rw[hA];rfl
    have hn2:(O++[eO u]++[eO t]).length=O.length+1+1:=by simp
    have hw2:w6 (ni (O.length+1+1)-1)=((O.length+1:Nat):Int):=afI (by omega)
    have hw3:w6 (((O.length+1:Nat):Int)-1)=(O.length:Int):=afI (by omega)
    have hne:(((O.length+1:Nat):Int)==0)=false:=by simp only[beq_eq_false_iff_ne,ne_eq];omega
    rw[<-hA,<-hO]at ih
    rw[hrev,hl2]
    constructor
    ·rw[BQ,z8,y6 (zN (by omega)),zJ (zM (by omega)),hb,yp (by rfl),yp (by rfl),y6 (by rfl),hn2,hw2,yp hne,zJ (zM (by omega)),bI,ahf,Ja,Gz hll,tdd,ahi,hw3,bI,bX O.length]
     rw[zJ (by unfold df;simp;try omega),zJ ZP,Ee,Ja,zJ hlim,zO,FF,tdd,zJ ZP,Ee,yK,FF,tds,zO,z6 (by omega),<-hrow]
     exact ih _
    ·intro J
     rw[Bm,z8,y6 (zN (by omega)),zJ (zM (by omega)),hb,yp (by rfl),yp (by rfl),y6 (by rfl),hw2,yp hne,zJ (by simp only[ni,aB,bL,lnA,lnC,lnN];omega),bI,bX (O.length+1),ahf,Ja,Gz hll,tdd,ahi,hw3,bI,bX O.length]
     rw[zJ (by unfold iy;simp;try omega),zJ (by have:=ZP (A:=O) (J:=D.agg [iN t.1,.dead]::J) (x:=eO u);rwa[bX]at this),Ee,Ja,zJ hlim,zO,FF,tdd,zJ (by have:=ZP (A:=O) (J:=D.agg [iN t.1,.dead]::J) (x:=.agg [iN u.1,.dead]);rwa[bX]at this),Ee,yK,FF,tds,zO,z6 (by omega),<-hrow]
     exact ih _
  rw[aD h41]
  have hwb:=NJ x
  cases hw:Oc x with
  |false=>
   rw[hw]at hwb
   rw[aD (by simp)]
   constructor
   ·rw[BQ,z8,y6 (zN (by omega)),zJ (zM (by omega)),hb,yp (JD 32 32 rfl h32),yp (JD 40 40 rfl h40),yp (JD 41 41 rfl h41),Dr hwb,y0,AW hc];rfl
   ·intro J
    rw[Bm,z8,y6 (zN (by omega)),zJ (zM (by omega)),hb,yp (JD 32 32 rfl h32),yp (JD 40 40 rfl h40),yp (JD 41 41 rfl h41),Dr hwb,y0,AW hc];rfl
  |true=>
   rw[hw]at hwb
   have hs:=agy hl (i:=i) (p:=p) (q:=q) (A:=o.reverse.map eO) (t:=t) hp (by omega) (by rw[hAl];omega) (by omega) (l.length-i) i (by omega) (by omega)
   have hs1:=fun J=>afr hl (i:=i) (p:=p) (q:=q) (A:=o.reverse.map eO) (J:=J) (t:=t) hp (by omega) (by rw[hAl];omega) (by omega) (l.length-i) i (by omega) (by omega)
   rw[hAl]at hs hs1
   have hwe:=PF hx hw
   have hwl:=aap (l:=l) (j:=i+1) (by omega)
   rw[hAl]at hw1
   rw[aG rfl]
   constructor
   ·rw[BQ,z8,y6 (zN (by omega)),zJ (zM (by omega)),hb,yp (JD 32 32 rfl h32),yp (JD 40 40 rfl h40),yp (JD 41 41 rfl h41),Dr hwb,zy,hn1,hw1,hs]
    cases hwd:JO ((l.drop i).take (JA l i-i)) with
    |none=>rfl
    |some nd=>
     have hz:=QZ hwd
     exact(Yv hl hp k (JA l i) o (t.1,t.2++[(q.length:Int)]) (q++[nd]) (by omega) (by omega) (by simp only[phi,lnA,lnC,lnN];omega) (by omega) (MI hf (by rw[cS,c8]at hz;omega))).1
   ·intro J
    rw[Bm,z8,y6 (zN (by omega)),zJ (zM (by omega)),hb,yp (JD 32 32 rfl h32),yp (JD 40 40 rfl h40),yp (JD 41 41 rfl h41),Dr hwb,zy,hw1,hs1]
    cases hwd:JO ((l.drop i).take (JA l i-i)) with
    |none=>rfl
    |some nd=>
     have hz:=QZ hwd
     exact(Yv hl hp k (JA l i) o (t.1,t.2++[(q.length:Int)]) (q++[nd]) (by omega) (by omega) (by simp only[phi,lnA,lnC,lnN];omega) (by omega) (MI hf (by rw[cS,c8]at hz;omega))).2 J
end
end Go.Eng
/-! reading a text: both sides agree -/
namespace Go.Eng
noncomputable section
open Go.Proofs Go.Proofs.Tryz
set_option maxHeartbeats 4000000

theorem MZ {l:List UInt8}(hl:l.length<1000000000):∀(k i:Nat)(o:List RwF)(t:RwF)(q:List Nd),i<=l.length->phi o t q+2*(l.length-i)<4000000000->Cu q->∀q' row,FT l k i o t q=.ok q' row->Cu q'/\q'.length<4000000000/\row.length<4000000000
 |0,i,o,t,q,_,_,_,q',row,h=>by rw[FT]at h;cases h
 |k+1,i,o,t,q,h2,h3,hf,q',row,h=>by
  have hph:phi o t q=q.length+t.2.length+(o.map fun x=>x.2.length).sum:=rfl
  rw[MY]at h
  by_cases hi:i=l.length
  ·have hx:l[i]? = none:=eS (by omega)
   rw[hx,Sn]at h
   by_cases ho:o=[]
   ·rw[aG ho]at h
    cases h
    exact⟨hf,by omega,by omega⟩
   ·rw[aD ho]at h;cases h
  obtain⟨x,hx⟩:=yM (l:=l) (i:=i) (by omega)
  rw[hx,PR]at h
  by_cases h32:x=32
  ·rw[aG h32]at h
   exact MZ hl k (i+1) o t q (by omega) (by omega) hf q' row h
  rw[aD h32]at h
  by_cases h40:x=40
  ·rw[aG h40]at h
   exact MZ hl k (i+1) (t::o) ((i:Int),[]) q (by omega) (by simp only[phi,bR,List.sum_cons,lnN];omega) hf q' row h
  rw[aD h40]at h
  by_cases h41:x=41
  ·rw[aG h41]at h
   cases o with
   |nil=>cases h
   |cons u o=>
    simp only[bR,List.sum_cons]at hph
    exact MZ hl k (i+1) o (u.1,u.2++[((Af q t.2).2:Int)]) (Af q t.2).1 (by omega) (by simp only[phi,FE,lnA,lnC,lnN];omega) (VY hf _) q' row h
  rw[aD h41]at h
  by_cases hw:Oc x=true
  ·rw[aG hw]at h
   have hwe:=PF hx hw
   have hwl:=aap (l:=l) (j:=i+1) (by omega)
   cases hwd:JO ((l.drop i).take (JA l i-i)) with
   |none=>rw[hwd]at h;cases h
   |some nd=>
    rw[hwd]at h
    have hz:=QZ hwd
    exact MZ hl k (JA l i) o (t.1,t.2++[(q.length:Int)]) (q++[nd]) (by omega) (by simp only[phi,lnA,lnC,lnN];omega) (MI hf (by rw[cS,c8]at hz;omega)) q' row h
  ·rw[aD hw]at h;cases h
def aee (p:List Nd)(n:Nat)(r:RdR):List Nd×List Int×Int×Int:=match r with
 |.err c a=>(p,[],c,a)
 |.ok q row=>if Ac q=true then (q,row,0,(n:Int)) else (p,[],6,0)
def Gh (p:List Nd)(l:List UInt8):List Nd×List Int×Int×Int:=if Ac p=false then ([],[],6,0) else if 400<l.length then (p,[],1,0) else aee p l.length (FT l (l.length+1) 0 [] (0,[]) p)
abbrev aad (r:List Nd×List Int×Int×Int):Option Ret:=some (.tup [oP r.1,.os (1,0) (r.2.1.map eI),iN r.2.2.1,iN r.2.2.2],[])
theorem afM (p:List Nd)(n:Nat)(r:RdR):SR (p.map eN) n r=aad (aee p n r):=by
 cases r with
 |err c a=>rfl
 |ok q row=>
  rw[aew]
  unfold aee
  by_cases h:Ac q=true
  ·rw[aG h];simp only[aG h]
  ·rw[aD h];simp only[aD h];rfl
theorem Uq {p:List Nd}(hf:Cu p)(hl:p.length<4611686018427387904)(l:List UInt8):V 191 [eP p,.str (mk l)]=aad (Gh p l):=by
 have hok:=CU hf hl
 unfold Gh
 rw[ab6,Fm hok]
 cases h:Ac p with
 |false=>rw[bO,zy,aG rfl];rfl
 |true=>
  have hp:=Ak h
  have hc:=aai (p:=p) (by omega)
  rw[aO,y0,aD (by simp),z8]
  by_cases h4:400<l.length
  ·rw[y6 (bE (by simp only[ni];omega)),AW hc,aG h4];rfl
  ·have hs:=(Yv (l:=l) (by omega) (p:=p) (by omega) (l.length+1) 0 [] (0,[]) p (by omega) (by omega) (by simp only[phi,eL,List.sum_nil,lnN];omega) (by simp only[lnN];omega) hf).1
   rw[yp (bK (by simp only[ni];omega)),AW hc,aD h4,<-afM]
   exact hs
end
end Go.Eng
/-! compiling,plain (the reference's way) -/
namespace Go.Eng
noncomputable section

structure Ms where
 list:List In
 defs:List Df
 how:Int
abbrev inO (op:Int):In:=⟨op,0,0,⟨#[]⟩⟩
def wrds:List (List UInt8):=[[113,117,111,116,101],[105,102],[102,110],[100,111],[108,101,116],[100,101,102,105,110,101]]
def acQ (s:ByteArray):Bool:=wrds.any fun x=>kJ s (mk x)
def CK (m:Ms)(x:In):Ms:=if m.how=0 then (if m.list.length=400 then ⟨m.list,m.defs,3⟩ else ⟨m.list++[x],m.defs,0⟩) else m
def GY (m:Ms):Int:=if m.how=0 then (if m.list.length=400 then 0 else m.list.length) else 0
def toC (m:Ms)(k:Int):Ms:=if m.how=0 then ⟨m.list.set k.toNat ⟨(m.list.getD k.toNat (inO 0)).op,m.list.length,(m.list.getD k.toNat (inO 0)).i,(m.list.getD k.toNat (inO 0)).s⟩,m.defs,0⟩ else m
def Jn (m:Ms)(h:Int):Ms:=⟨m.list,m.defs,h⟩
def nmC (p:List Nd)(v:Int):Bool:=(nod p v).kind==4&&!acQ (nod p v).s
def Qe (p:List Nd):List Int->Int->List ByteArray->List ByteArray×Int
 |[],h,out=>(out,h)
 |x::r,h,out=>if h=0 then Qe p r (if nmC p x=true then 0 else 1) (out++[(nod p x).s]) else (out,h)
def Vk (out:List ByteArray):Nat->Nat->Int->Int
 |0,_,h=>h
 |k+1,i,h=>if h=0 then Vk out k (i+1) (if (out.take i).any (fun t=>kJ t (out.getD i ⟨#[]⟩))=true then 2 else 0) else h
def DH (p:List Nd)(xs:List Int)(h:Int):List ByteArray×Int:=
 let r:=Qe p xs (if xs.length>4 then 1 else h) []
 (r.1,Vk r.1 r.1.length 0 r.2)
def afG (s:ByteArray):List ByteArray->Nat->Option Nat
 |[],_=>none
 |x::r,i=>if kJ x s=true then some i else afG s r (i+1)
def aet (s:ByteArray):List (List ByteArray)->Nat->Option (Nat×Nat)
 |[],_=>none
 |e::r,n=>match afG s e 0 with
  |some i=>some (n,i)
  |none=>aet s r (n+1)
section
variable (E:List (List ByteArray)->Int->Ms->Ms)
def Kn (env:List (List ByteArray)):List Int->Bool->Ms->Ms
 |[],_,m=>m
 |x::r,f,m=>if m.how=0 then Kn env r false (E env x (if f=true then m else CK m (inO 9))) else m
def acw (names:List ByteArray)(body:List Int)(env:List (List ByteArray))(m:Ms):Ms:=
 let m1:=CK m ⟨6,0,names.length,⟨#[]⟩⟩
 let m2:=CK m1 (inO 5)
 let m3:=Kn E (names::env) body true (toC m2 (GY m))
 toC (CK m3 (inO 8)) (GY m1)
def VH (p:List Nd)(s:ByteArray)(xs:List Int)(env:List (List ByteArray))(m:Ms):Ms:=
 if kJ s (mk [113,117,111,116,101])=true/\xs.length=2 then CK m ⟨1,xs.getD 1 0,0,⟨#[]⟩⟩
 else if kJ s (mk [105,102])=true/\xs.length=4 then
  let m1:=E env (xs.getD 1 0) m
  let m3:=E env (xs.getD 2 0) (CK m1 (inO 4))
  let m5:=toC (CK m3 (inO 5)) (GY m1)
  toC (E env (xs.getD 3 0) m5) (GY m3)
 else if kJ s (mk [100,111])=true/\2<=xs.length then Kn E env (xs.drop 1) true m
 else if kJ s (mk [102,110])=true/\3<=xs.length then
  let a:=Cw p (xs.getD 1 0)
  if a.2=false then Jn m 1 else
  let r:=DH p a.1 m.how
  acw E r.1 (xs.drop 2) env (Jn m r.2)
 else if kJ s (mk [108,101,116])=true/\4<=xs.length then
  let r:=DH p [xs.getD 1 0] m.how
  CK (E env (xs.getD 2 0) (acw E r.1 (xs.drop 3) env (Jn m r.2))) ⟨7,0,1,⟨#[]⟩⟩
 else Jn m 1
end
def Qj (p:List Nd):Nat->List (List ByteArray)->Int->Ms->Ms
 |0,_,_,m=>m
 |k+1,env,v,m=>if m.how≠0 then m else
  let x:=nod p v
  if x.kind=1\/x.kind=2\/x.kind=3 then CK m ⟨1,v,0,⟨#[]⟩⟩
  else if x.kind=4 then
   if acQ x.s=true then Jn m 1 else match aet x.s env 0 with
    |some (n,i)=>CK m ⟨2,n,i,⟨#[]⟩⟩
    |none=>CK m ⟨3,0,0,x.s⟩
  else if x.kind≠5 then Jn m 1
  else if (Cw p v).2=false then Jn m 1
  else
   let xs:=(Cw p v).1
   let h:=nod p (xs.getD 0 0)
   if h.kind=4/\acQ h.s=true then VH (Qj p k) p h.s xs env m
   else if xs.length>5 then Jn m 1
   else CK (xs.foldl (fun m x=>Qj p k env x m) m) ⟨7,0,(xs.length:Int)-1,⟨#[]⟩⟩
def NT (p:List Nd)(env:List (List ByteArray))(v:Int)(m:Ms):Ms:=Qj p (v.toNat+1) env v m
def Qg (s:ByteArray):List Df->Int->Int
 |[],h=>h
 |d::r,h=>if h=0 then Qg s r (if kJ d.name s=true then 2 else 0) else h
def Te (p:List Nd)(s:ByteArray)(names:List ByteArray)(body:List Int)(m:Ms):Ms:=
 CK (Kn (NT p) [names] body true ⟨m.list,m.defs++[⟨s,m.list.length,names.length⟩],Qg s m.defs m.how⟩) (inO 8)
def afc:ByteArray:=mk [109,97,105,110]
def WL (p:List Nd)(v:Int)(m:Ms):Ms:=
 let l:=Cw p v
 if (nod p v).kind=5/\l.2=true/\(nod p (l.1.getD 0 0)).kind=4/\kJ (nod p (l.1.getD 0 0)).s (mk [100,101,102,105,110,101])=true then
  if l.1.length<3\/(nod p (l.1.getD 1 0)).kind≠5 then Jn m 1 else
  let a:=Cw p (l.1.getD 1 0)
  if a.2=false then Jn m 1
  else if nmC p (a.1.getD 0 0)=false then Jn m 1
  else
   let r:=DH p (a.1.drop 1) m.how
   Te p (nod p (a.1.getD 0 0)).s r.1 (l.1.drop 2) (Jn m r.2)
 else Te p afc [] [v] m
def Ko (p:List Nd)(n:Int):List Int->Int->Ms->Cd×Int×Int
 |[],_,m=>if Bu ⟨p,m.list,m.defs⟩=true then (⟨p,m.list,m.defs⟩,0,n) else (⟨[],[],[]⟩,3,0)
 |x::r,i,m=>
  let m1:=WL p x m
  if m1.how=3 then (⟨[],[],[]⟩,3,0) else if m1.how≠0 then (⟨[],[],[]⟩,m1.how,i) else Ko p n r (i+1) m1
def Ru (p:List Nd)(xs:List Int):Cd×Int×Int:=if Ac p=true/\Ap p xs=true then Ko p xs.length xs 0 ⟨[],[],0⟩ else (⟨[],[],[]⟩,3,0)
end
end Go.Eng
/-! a step of a machine: the program's side: the stack,the frames,lists -/
namespace Go.Eng
noncomputable section
open Go.Proofs Go.Proofs.Tryz
set_option maxHeartbeats 4000000

abbrev eSt (c:Cd)(m:Mc):D:=.op [.os (5,0) (m.pool.map eN),iN m.at',iN m.s,iN m.e,iN m.d,iN m.state,iN m.ask,iN m.arg,.rs (5,0) (c.pool.map eN),.rs (4,0) (c.list.map eIn),.rs (3,0) (c.defs.map eDf)]
def QG (c:Cd)(X:Option Ret)(r:Except Int Mc):Prop:=match r with
 |.ok m=>X=some (iN 0,[eSt c m])
 |.error h=>h≠0/\∃m',X=some (iN h,[eSt c m'])
theorem Nt {p:List Nd}{v:Int}(h:InP p v):p[v.toNat]? = some (nod p v):=by
 have:v.toNat<p.length:=by omega
 simp[nod,List.getD_eq_getElem?_getD,List.getElem?_eq_getElem this]
theorem JE {p:List Nd}(hp:Al p){v:Int}(h:InP p v):okN (nod p v) v=true:=by
 have:=hp _ _ (Nt h)
 rwa[Int.toNat_of_nonneg h.1]at this
theorem O9 {p:List Nd}(hp:Al p){v:Int}(h:InP p v)(hk:(nod p v).kind=5\/(nod p v).kind=6\/(nod p v).kind=7):InP p (nod p v).a:=by
 rcases hk with hk|hk
 ·have:=AH (JE hp h) hk;exact⟨by omega,by omega⟩
 ·have:=BM (JE hp h) hk;exact⟨by omega,by omega⟩
theorem Qp {p:List Nd}(hp:Al p){v:Int}(h:InP p v)(hk:(nod p v).kind=5):InP p (nod p v).b:=by
 have:=AH (JE hp h) hk;exact⟨by omega,by omega⟩
theorem aga {p q:List Nd}{v:Int}(h:InP p v):nod (p++q) v=nod p v:=by
 have:v.toNat<p.length:=by omega
 simp[nod,List.getD_eq_getElem?_getD,List.getElem?_append_left this]
theorem Am {p:List Nd}(q:List Nd){v:Int}(h:InP p v):InP (p++q) v:=⟨h.1,by simp only[lnA];omega⟩
section
variable {R:Type}{p:List Nd}{v:Int}
theorem Ye (h:InP p v):(decide (0<=v)&&decide (v<ni (p.map eN).length))=true:=by
 rw[lnM];simp only[ni,aB,bL];exact⟨h.1,h.2⟩
theorem FP (h:InP p v)(K:Int->Int->ByteArray->Int->Int->Option R):grd (decide (0<=v)&&decide (v<ni (p.map eN).length)) (dd (p.map eN) v.toNat fun x=>tk2 x fun n4 n7 s10 n13 n16=>(K n4 n7 s10 n13 n16))=K (nod p v).kind (nod p v).n (nod p v).s (nod p v).a (nod p v).b:=by
 rw[zJ (Ye h),zj (Nt h),Nq]
theorem Od (h:InP p v)(K:Int->Option R):grd (decide (0<=v)&&decide (v<ni (p.map eN).length)) (dd (p.map eN) v.toNat fun x=>asAgg x fun l=>dd l 0 fun y=>asI .i64 y fun n=>K n)=K (nod p v).kind:=by
 rw[zJ (Ye h),zj (Nt h),ah8]
theorem adH (h:InP p v)(K:Int->Option R):grd (decide (0<=v)&&decide (v<ni (p.map eN).length)) (dd (p.map eN) v.toNat fun x=>asAgg x fun l=>dd l 1 fun y=>asI .i64 y fun n=>K n)=K (nod p v).n:=by
 rw[zJ (Ye h),zj (Nt h),ah9]
theorem aeB (h:InP p v)(K:Int->Option R):grd (decide (0<=v)&&decide (v<ni (p.map eN).length)) (dd (p.map eN) v.toNat fun x=>asAgg x fun l=>dd l 3 fun y=>asI .i64 y fun n=>K n)=K (nod p v).a:=by
 rw[zJ (Ye h),zj (Nt h),aib]
theorem aeC (h:InP p v)(K:Int->Option R):grd (decide (0<=v)&&decide (v<ni (p.map eN).length)) (dd (p.map eN) v.toNat fun x=>asAgg x fun l=>dd l 4 fun y=>asI .i64 y fun n=>K n)=K (nod p v).b:=by
 rw[zJ (Ye h),zj (Nt h),aic]
end

theorem Jz {c:Cd}{m:Mc}(hl:m.pool.length<4294967296)(v:Int):V 185 [eSt c m,iN v]=some (.tup [],[eSt c (Jx m v)]):=by
 have h:=aan hl v m.s
 rw[RH,JV h]
 rfl
theorem TW {c:Cd}{m:Mc}(hs:InP m.pool m.s){v:Int}{m':Mc}(h:D3 m=some (v,m')):V 182 [eSt c m]=some (.tup [iN v,.bool true],[eSt c m']):=by
 unfold D3 at h
 rw[Kr,FP hs]
 split at h
 ·rename_i h5
  cases h
  rw[yp (zW h5)]
 ·cases h
theorem NK {c:Cd}{m:Mc}(hs:InP m.pool m.s)(h:D3 m=none):V 182 [eSt c m]=some (.tup [iN 0,.bool false],[eSt c m]):=by
 unfold D3 at h
 rw[Kr,FP hs]
 split at h
 ·cases h
 ·rename_i h5
  rw[y6 (zX h5)]
theorem abL {m:Mc}(hp:Al m.pool)(hs:InP m.pool m.s){v:Int}{m':Mc}(h:D3 m=some (v,m')):InP m.pool v/\m'.pool=m.pool/\InP m.pool m'.s/\m'.e=m.e/\m'.d=m.d/\m'.at'=m.at'/\m'.state=m.state/\m'.ask=m.ask/\m'.arg=m.arg:=by
 unfold D3 at h
 split at h
 ·rename_i h5
  cases h
  exact⟨O9 hp hs (.inl h5),rfl,Qp hp hs h5,rfl,rfl,rfl,rfl,rfl,rfl⟩
 ·cases h
def alD (r:Option Int):D:=match r with|some v=>.tup [iN v,.bool true] | none=>.tup [iN 0,.bool false]
theorem Qz {c:Cd}{m:Mc}(hp:Al m.pool):∀(k:Nat)(v:Int),InP m.pool v->k<4611686018427387904 ->
  Dh v (k:Int) m.at' m.s m.e m.d m.state m.ask m.arg (c.pool.map eN) (c.list.map eIn) (c.defs.map eDf) (m.pool.map eN)=some (alD (JT m.pool k v),[eSt c m])
 |0,v,hv,hk=>by
  rw[FX,yp (bK (by omega)),Od hv]
  unfold JT
  by_cases h5:(nod m.pool v).kind=5
  ·rw[aG h5,yp (zW h5),aeB hv];rfl
  ·rw[aD h5,y6 (zX h5)];rfl
 |k+1,v,hv,hk=>by
  have hw:w6 (((k+1:Nat):Int)-1)=(k:Int):=by rw[w64 (by omega) (by omega)];omega
  rw[FX,y6 (bE (by omega)),Od hv]
  unfold JT
  by_cases h5:(nod m.pool v).kind=5
  ·have ih:=Qz (c:=c) hp k (nod m.pool v).b (Qp hp hv h5) (by omega)
   rw[aG h5,yp (zW h5),aeC hv,hw,ih]
  ·rw[aD h5,y6 (zX h5)];rfl
theorem WY {c:Cd}{m:Mc}(hp:Al m.pool){v:Int}(hv:InP m.pool v){n:Int}(h0:0<=n)(h1:n<4611686018427387904):V 207 [eSt c m,iN v,iN n]=some (alD (JT m.pool n.toNat v),[eSt c m]):=by
 have:=Qz (c:=c) hp n.toNat v hv (by omega)
 rw[Int.toNat_of_nonneg h0]at this
 rw[Qa]
 exact this
theorem Sb {p:List Nd}(hp:Al p):∀(k:Nat)(v a:Int),InP p v->JT p k v=some a->InP p a
 |0,v,a,hv,h=>by
  unfold JT at h
  split at h
  ·cases h;exact O9 hp hv (.inl ‹_›)
  ·cases h
 |k+1,v,a,hv,h=>by
  unfold JT at h
  split at h
  ·exact Sb hp k _ a (Qp hp hv ‹_›) h
  ·cases h
theorem XN {c:Cd}{m:Mc}(hp:Al m.pool)(hl:m.pool.length<4294967296)(he:InP m.pool m.e){o i:Int}(o0:0<=o)(o1:o<4611686018427387904)(i0:0<=i)(i1:i<4611686018427387904) :
  QG c (V 186 [eSt c m,iN o,iN i]) (UQ m o i):=by
 have h1:=WY (c:=c) hp he o0 o1
 rw[Nj]
 unfold UQ
 cases e1:JT m.pool o.toNat m.e with
 |none=>
  rw[e1]at h1;simp only[alD]at h1
  exact⟨by decide,m,by rw[FI h1];rfl⟩
 |some fr=>
  rw[e1]at h1;simp only[alD]at h1
  have h2:=WY (c:=c) hp (Sb hp _ _ _ he e1) i0 i1
  rw[FI h1,aO,y0]
  cases e2:JT m.pool i.toNat fr with
  |none=>
   rw[e2]at h2;simp only[alD]at h2
   simp only[e2]
   exact⟨by decide,m,by rw[FI h2];rfl⟩
  |some v=>
   rw[e2]at h2;simp only[alD]at h2
   simp only[e2]
   have h3:=Jz (c:=c) hl v
   show _=_
   rw[FI h2,aO,y0,Cx h3]

theorem adn {p:List Nd}(hp:Al p):∀(k:Nat)(v:Int),InP p v->∀x∈(IJ p k v).1,InP p x
 |0,v,hv,x,hx=>by simp[IJ]at hx
 |k+1,v,hv,x,hx=>by
  unfold IJ at hx
  split at hx
  ·rename_i h5
   rcases bN.1 hx with rfl|hx
   ·exact O9 hp hv (.inl h5)
   ·exact adn hp k _ (Qp hp hv h5) x hx
  ·simp at hx
theorem aba {p:List Nd}:∀(k:Nat)(v:Int),(IJ p k v).1.length<=k
 |0,v=>by simp[IJ]
 |k+1,v=>by
  unfold IJ
  split
  ·have:=aba (p:=p) k (nod p v).b;simp only[lnC];omega
  ·simp
theorem Ua {p:List Nd}(hp:Al p)(hl:p.length<4294967290):∀(k:Nat)(v:Int)(acc:List Int),InP p v->v<k->acc.length+k<4294967296 ->
  DN v (acc.map eI) (p.map eN)=some (.tup [.os (1,0) ((acc++(IJ p k v).1).map eI),.bool (IJ p k v).2],[rP p])
 |0,v,acc,hv,hk,ha=>by omega
 |k+1,v,acc,hv,hk,ha=>by
  rw[Na,Od hv]
  unfold IJ
  by_cases h5:(nod p v).kind=5
  ·have hb:=AH (JE hp hv) h5
   have ih:=Ua hp hl k (nod p v).b (acc++[(nod p v).a]) (Qp hp hv h5) (by omega) (by simp only[lnA,lnC,lnN];omega)
   have ea:acc.map eI++[iN (nod p v).a]=(acc++[(nod p v).a]).map eI:=by simp
   have hlim:decide (ni ((acc++[(nod p v).a]).map eI).length<=LIM)=true:=bE (by rw[qA];simp only[ni,lnM,lnA,lnC,lnN];omega)
   rw[aG h5,y6 (zU h5),aeB hv,ea,zJ hlim,zO,aeC hv,ih]
   simp
  ·rw[aD h5,yp (zT h5),Od hv]
   simp
theorem abT {p:List Nd}(hp:Al p)(hl:p.length<2147483648){v:Int}(hv:InP p v):V 119 [rP p,iN v]=some (.tup [.os (1,0) ((Cw p v).1.map eI),.bool (Cw p v).2],[rP p]):=by
 have:=Ua hp (by omega) (v.toNat+1) v [] hv (by omega) (by simp only[lnN];omega)
 rw[Ry]
 exact this
end
end Go.Eng
/-! which nodes are alike: both sides -/
namespace Go.Eng
noncomputable section
open Go.Proofs Go.Proofs.Tryz
set_option maxHeartbeats 4000000

theorem ndEq_iff {x y:Nd}:Ij x y=true↔x=y:=by
 unfold Ij
 rw[Dz]
 constructor
 ·intro h
  simp only[aB,beq_iff_eq,bL]at h
  obtain⟨h1,h2,h3,h4,h5⟩:=h
  cases x;cases y
  simp only at h1 h2 h3 h4 h5
  subst h1;subst h2;subst h3;subst h4;subst h5
  rfl
 ·rintro rfl
  simp
abbrev kC (y:Nd):List D:=[iN y.kind,iN y.n,.str y.s,iN y.a,iN y.b]
theorem ae8 (x y:Nd):kn (kC x) (kC y)=Ij y x:=by
 have e:∀a b:Int,(a==b)=(b==a):=fun a b=>by
  by_cases h:a=b
  ·subst h;rfl
  ·rw[zT h,zT (fun e=>h e.symm)]
 have e2:kJ x.s y.s=kJ y.s x.s:=by
  rw[Dz,Dz]
  exact decide_eq_decide.2 ⟨Eq.symm,Eq.symm⟩
 simp only[kn,qK,Ij,bP]
 rw[e x.kind,e x.n,e x.a,e x.b,e2]
def XZ (x:D)(q:List D):Option Int:=match x with
 |.tup [.agg ks,.int _ v]=>if kn q ks=true then some v else none
 |_=>none
theorem OZ (x:D)(r q:List D):cT (x::r) q=match XZ x q with|some v=>some v|none=>cT r q:=by
 by_cases hx:∃ks k v,x=.tup [.agg ks,.int k v]
 ·obtain⟨ks,k,v,rfl⟩:=hx
  simp only[cT,XZ]
  cases kn q ks<;>rfl
 ·have e1:XZ x q=none:=by
   unfold XZ
   split
   ·exact absurd ⟨_,_,_,rfl⟩ hx
   ·rfl
  rw[e1,cT]
  intro ks k v h
  exact hx ⟨ks,k,v,h⟩
theorem Wa (key q:List D)(v:Int):∀xs:List D,cT (xf xs key v) q=match cT xs q with|some u=>some u|none=>if kn q key=true then some v else none
 |[]=>by
  show cT [_] q=_
  rw[OZ]
  simp only[XZ,cT]
  cases kn q key<;>rfl
 |x::xs=>by
  have ih:=Wa key q v xs
  show cT (x::xf xs key v) q=_
  rw[OZ,OZ,ih]
  cases XZ x q<;>rfl
def M9 (ents:List D)(keys:List Nd):Prop:=∀x:Nd,cT ents (kC x)=(keys.findIdx? (fun y=>Ij y x)).map (fun k=>(k:Int))
theorem acu:M9 [] []:=fun x=>by simp[cT]
theorem Ya (keys:List Nd)(y x:Nd):(keys++[y]).findIdx? (fun z=>Ij z x)=match keys.findIdx? (fun z=>Ij z x) with|some k=>some k|none=>if Ij y x=true then some keys.length else none:=by
 rw[List.findIdx?_append]
 cases h:keys.findIdx? (fun z=>Ij z x) with
 |some k=>simp
 |none=>
  simp only[Option.none_or,List.findIdx?_cons,List.findIdx?_nil]
  cases Ij y x<;>simp
theorem acv {ents:List D}{keys:List Nd}(h:M9 ents keys){y:Nd}{k:Nat}(hk:keys.findIdx? (fun z=>Ij z y)=some k):M9 ents (keys++[y]):=by
 intro x
 rw[h x,Ya]
 cases hx:keys.findIdx? (fun z=>Ij z x) with
 |some j=>rfl
 |none=>
  simp only
  cases hyx:Ij y x with
  |false=>simp
  |true=>
   rw[ndEq_iff.1 hyx,hx]at hk
   cases hk
theorem act {ents:List D}{keys:List Nd}(h:M9 ents keys){y:Nd}(_:keys.findIdx? (fun z=>Ij z y)=none):M9 (xf ents (kC y) keys.length) (keys++[y]):=by
 intro x
 rw[Wa,h x,Ya]
 cases hx:keys.findIdx? (fun z=>Ij z x) with
 |some j=>rfl
 |none=>
  simp only[ae8]
  cases hyx:Ij y x<;>simp
def clV (keys:List Nd)(y:Nd)(i:Nat):Int:=match keys.findIdx? (fun z=>Ij z y) with|some k=>(k:Int)|none=>(i:Int)
theorem aa7 {l:List Int}(h:l.length<4294967290)(x:Int):decide (ni (l.map eI++[iN x]).length<=LIM)=true:=
 bE (by rw[qA];simp only[ni,lnA,lnM,lnC,lnN];omega)
theorem Rt {ents:List D}{keys:List Nd}{out:List Int}{i:Nat}(h:M9 ents keys)(ho:out.length=i)(hk:keys.length=i)(hl:i<4294967290)(a b:Int)(s:ByteArray)(c d:Int)(F:List D->List D->Option Ret) :
  ∃ents',M9 ents' (keys++[⟨a,b,s,c,d⟩])/\br (!jx ents [iN a,iN b,.str s,iN c,iN d])
   (grd (!jx ents [iN a,iN b,.str s,iN c,iN d]) (nam (xf ents [iN a,iN b,.str s,iN c,iN d] (i:Int)) fun l21=>grd (decide (ni (out.map eI++[iN (i:Int)]).length<=LIM)) (nam (out.map eI++[iN (i:Int)]) fun l22=>F l21 l22)))
   (grd (decide (ni (out.map eI++[iN (od ents [iN a,iN b,.str s,iN c,iN d])]).length<=LIM)) (nam (out.map eI++[iN (od ents [iN a,iN b,.str s,iN c,iN d])]) fun l23=>F ents l23)) =
   F ents' ((out++[clV keys ⟨a,b,s,c,d⟩ i]).map eI):=by
 have hx:=h ⟨a,b,s,c,d⟩
 have el:∀v:Int,out.map eI++[iN v]=(out++[v]).map eI:=fun v=>by simp
 unfold clV
 cases hf:keys.findIdx? (fun z=>Ij z ⟨a,b,s,c,d⟩) with
 |some k=>
  rw[hf]at hx
  obtain⟨e1,e2⟩:=xe (xs:=ents) (ks:=[iN a,iN b,.str s,iN c,iN d]) hx
  refine⟨ents,acv h hf,?_⟩
  rw[e2,e1,aO,y0,zJ (aa7 (by omega) _),zO,el]
 |none=>
  rw[hf]at hx
  obtain⟨e1,e2⟩:=xd (xs:=ents) (ks:=[iN a,iN b,.str s,iN c,iN d]) hx
  refine⟨_,act h hf,?_⟩
  rw[e2,bO,zy,zd,zO,zJ (aa7 (by omega) _),zO,el,hk]
theorem D9 {R:Type}{l:List Int}{v:Int}(h0:0<=v)(h1:v<(l.length:Int))(K:Int->Option R):grd (decide (0<=v)&&decide (v<ni (l.map eI).length)) (dd (l.map eI) v.toNat fun x=>asI .i64 x fun n=>K n)=K (l.getD v.toNat 0):=by
 obtain⟨x,hx⟩:=yM (l:=l) (i:=v.toNat) (by omega)
 rw[zJ (by rw[lnM];simp only[ni,aB,bL];exact⟨h0,h1⟩),zj hx,zq,aN,hx];rfl
theorem S9 (x:Nd)(r:List Nd)(out:List Int)(keys:List Nd):Nf (x::r) out keys=Nf r (out++[clV keys (Az out x) out.length]) (keys++[Az out x]):=rfl
theorem Qk {p:List Nd}(hp:Al p)(hl:p.length<4294967290):∀(k i:Nat)(ents:List D)(keys:List Nd)(out:List Int),i+k=p.length->out.length=i->keys.length=i->M9 ents keys ->
  Au (p.map eN) (ni (p.map eN).length) (i:Int) ents (out.map eI)=some (.os (1,0) ((Nf (p.drop i) out keys).1.map eI),[])
 |0,i,ents,keys,out,hi,ho,hk,h=>by
  rw[J8,yp (by rw[lnM];exact zI (by omega)),cD (by omega)]
  rfl
 |k+1,i,ents,keys,out,hi,ho,hk,h=>by
  obtain⟨x,hx⟩:=yM (l:=p) (i:=i) (by omega)
  have hxo:=hp i x hx
  have ih:=fun ents keys out ho hk h=>Qk hp hl k (i+1) ents keys out (by omega) ho hk h
  rw[J8,y6 (by rw[lnM];exact zN (by omega)),zJ (by rw[lnM];exact zM (by omega)),bI,zj hx,Nq,vc hx,S9,z6 (by omega),ho]
  have fin:∀(y:Nd)(X:Option Ret),y=Az out x->(∃ents',M9 ents' (keys++[y])/\X=Au (p.map eN) (ni (p.map eN).length) ((i+1:Nat):Int) ents' ((out++[clV keys y i]).map eI)) ->
    X=some (.os (1,0) ((Nf (p.drop (i+1)) (out++[clV keys (Az out x) i]) (keys++[Az out x])).1.map eI),[]):=by
   rintro y X rfl ⟨ents',h1,rfl⟩
   exact ih ents' _ _ (by simp[ho]) (by simp[hk]) h1
  by_cases h5:x.kind=5
  ·have hb:=AH hxo h5
   rw[y6 (zU h5),D9 hb.1 (by omega),D9 hb.2.2.1 (by omega)]
   exact fin ⟨x.kind,x.n,x.s,out.getD x.a.toNat 0,out.getD x.b.toNat 0⟩ _ (by simp only[Az,h5,if_true]) (Rt h ho hk (by omega) x.kind x.n x.s _ _ fun e o=>Au (p.map eN) (ni (p.map eN).length) ((i+1:Nat):Int) e o)
  ·rw[yp (zT h5)]
   by_cases h6:x.kind=6
   ·have hb:=BM hxo (.inl h6)
    rw[y6 (zU h6),y6 (zU h6),D9 hb.1 (by omega)]
    exact fin ⟨x.kind,x.n,x.s,out.getD x.a.toNat 0,x.b⟩ _ (by simp only[Az,h6,true_or,if_true];simp) (Rt h ho hk (by omega) x.kind x.n x.s _ x.b fun e o=>Au (p.map eN) (ni (p.map eN).length) ((i+1:Nat):Int) e o)
   ·rw[yp (zT h6)]
    by_cases h7:x.kind=7
    ·have hb:=BM hxo (.inr h7)
     rw[y6 (zU h7),D9 hb.1 (by omega)]
     exact fin ⟨x.kind,x.n,x.s,out.getD x.a.toNat 0,x.b⟩ _ (by simp only[Az,h7];simp) (Rt h ho hk (by omega) x.kind x.n x.s _ x.b fun e o=>Au (p.map eN) (ni (p.map eN).length) ((i+1:Nat):Int) e o)
    ·rw[yp (zT h7)]
     exact fin x _ (by simp only[Az,h5,h6,h7,if_false,or_self]) (Rt h ho hk (by omega) x.kind x.n x.s x.a x.b fun e o=>Au (p.map eN) (ni (p.map eN).length) ((i+1:Nat):Int) e o)
theorem aek {p:List Nd}(hp:Al p)(hl:p.length<4294967290):V 247 [eP p]=some (.os (1,0) ((FA p).map eI),[]):=by
 rw[W9]
 exact Qk hp hl p.length 0 [] [] [] (bX _) rfl rfl acu
theorem aaC:∀(r:List Nd)(out:List Int)(keys:List Nd),(Nf r out keys).1.length=out.length+r.length
 |[],out,keys=>rfl
 |x::r,out,keys=>by
  rw[S9,aaC r];simp only[lnA,lnC,lnN];omega
theorem Rq (p:List Nd):(FA p).length=p.length:=by
 unfold FA;rw[aaC];simp
def ady (p:List Nd)(a b:Int):Bool:=Ac p&&(JS p a&&(JS p b&&Qv p a b))
theorem abN {p:List Nd}(hf:Cu p)(hl:p.length<4611686018427387904)(a b:Int):V 242 [eP p,iN a,iN b]=some (.bool (ady p a b),[]):=by
 have h1:=Jf hf hl
 have h2:=Jy hl a
 have h3:=Jy hl b
 rw[acg,Ub h1]
 unfold ady JS
 cases e1:Ac p with
 |false=>rfl
 |true=>
  have hlen:=Ak e1
  have h4:=aek (okPool_iff.1 e1).1 (by omega)
  rw[aO,y0,Pc h2]
  cases e2:wi a 0 ((p.length:Int)-1) with
  |false=>rfl
  |true=>
   rw[aO,y0,Pc h3]
   cases e3:wi b 0 ((p.length:Int)-1) with
   |false=>rfl
   |true=>
    have b2:=wi_iff.1 e2
    have b3:=wi_iff.1 e3
    rw[aO,y0,Z4 h4,D9 b2.1 (by rw[Rq];omega),D9 b3.1 (by rw[Rq];omega)]
    rfl

theorem af9 (x:Nd){R:Type}(K:Int->Int->ByteArray->Int->Int->Option R):tk2 (eN x) (fun n4 n7 s10 n13 n16=>(K n4 n7 s10 n13 n16))=K x.kind x.n x.s x.a x.b:=rfl
theorem adi {keys:List Nd}(h:keys.length<4294967290)(y:Nd):decide (ni (keys.map eN++[eN y]).length<=LIM)=true:=
 bE (by rw[qA];simp only[ni,lnA,lnM,lnC,lnN];omega)
theorem Po {p keys:List Nd}{out:List Int}{i:Nat}(hi:i<4294967290)(hk:keys.length=i)(ho:out.length=i)(y:Nd):∀(k j:Nat),j+k=i->(∀t,t<j->∀z,keys[t]? = some z->Ij z y=false) ->
  AR (i:Int) (i:Int) (j:Int) (p.map eN) (out.map eI) (keys.map eN) y.kind y.n y.s y.a y.b=Cz ((i+1:Nat):Int) (p.map eN) ((out++[clV keys y i]).map eI) ((keys++[y]).map eN)
 |0,j,hj,hn=>by
  have hnone:keys.findIdx? (fun z=>Ij z y)=none:=by
   rw[List.findIdx?_eq_none_iff]
   intro z hz
   obtain⟨t,ht⟩:=List.getElem?_of_mem hz
   exact hn t (by have:=aQ ht;omega) z ht
  have ek:keys.map eN++[D.agg [iN y.kind,iN y.n,D.str y.s,iN y.a,iN y.b]]=(keys++[y]).map eN:=by simp
  have el:out.map eI++[iN (i:Int)]=(out++[clV keys y i]).map eI:=by simp[clV,hnone]
  have hkl:decide (ni ((keys++[y]).map eN).length<=LIM)=true:=by have:=adi (keys:=keys) (by omega) y;simpa using this
  have hol:=aa7 (l:=out) (by omega) (i:Int)
  rw[Iv,yp (bK (by omega)),ek,zJ hkl,zO,zJ hol,zO,el,z6 (by omega)]
 |k+1,j,hj,hn=>by
  obtain⟨z,hz⟩:=yM (l:=keys) (i:=j) (by omega)
  have ek:keys.map eN++[D.agg [iN y.kind,iN y.n,D.str y.s,iN y.a,iN y.b]]=(keys++[y]).map eN:=by simp
  have hkl:decide (ni ((keys++[y]).map eN).length<=LIM)=true:=by have:=adi (keys:=keys) (by omega) y;simpa using this
  have hol:=aa7 (l:=out) (by omega) (j:Int)
  rw[Iv,y6 (bE (by omega)),zJ (by rw[lnM];exact zM (by omega)),bI,zj hz,af9]
  have et:(z.kind==y.kind&&(z.n==y.n&&(kJ z.s y.s&&(z.a==y.a&&(z.b==y.b&&true)))))=Ij z y:=by simp[Ij]
  rw[et]
  cases hq:Ij z y with
  |false=>
   rw[y0,z6 (by omega)]
   refine Po hi hk ho y k (j+1) (by omega) (fun t ht u hu=>?_)
   rcases Nat.lt_or_ge t j with h|h
   ·exact hn t h u hu
   ·have:t=j:=by omega
    subst this
    rw[hz]at hu;cases hu;exact hq
  |true=>
   have hsome:keys.findIdx? (fun z=>Ij z y)=some j:=by
    rw[List.findIdx?_eq_some_iff_getElem]
    have hlt:=aQ hz
    refine⟨hlt,?_,fun t ht=>?_⟩
    ·rw[cL hlt]at hz;cases hz;exact hq
    ·have htl:t<keys.length:=by omega
     have:=hn t ht keys[t] (cL htl)
     simp[this]
   have el:out.map eI++[iN (j:Int)]=(out++[clV keys y i]).map eI:=by simp[clV,hsome]
   rw[zy,ek,zJ hkl,zO,zJ hol,zO,el,z6 (by omega)]
theorem Qw {p:List Nd}(hp:Al p)(hl:p.length<4294967290):∀(k i:Nat)(keys:List Nd)(out:List Int),i+k=p.length->out.length=i->keys.length=i ->
  Cz (i:Int) (p.map eN) (out.map eI) (keys.map eN)=some (.os (1,0) ((Nf (p.drop i) out keys).1.map eI),[])
 |0,i,keys,out,hi,ho,hk=>by
  rw[Jm,yp (by rw[lnM];exact zI (by omega)),cD (by omega)]
  rfl
 |k+1,i,keys,out,hi,ho,hk=>by
  obtain⟨x,hx⟩:=yM (l:=p) (i:=i) (by omega)
  have hxo:=hp i x hx
  rw[Jm,y6 (by rw[lnM];exact zN (by omega)),zJ (by rw[lnM];exact zM (by omega)),bI,zj hx,Nq,vc hx,S9,ho]
  have fin:∀(y:Nd),y=Az out x->AR (i:Int) (i:Int) 0 (p.map eN) (out.map eI) (keys.map eN) y.kind y.n y.s y.a y.b=some (.os (1,0) ((Nf (p.drop (i+1)) (out++[clV keys (Az out x) i]) (keys++[Az out x])).1.map eI),[]):=by
   rintro y rfl
   have h1:=Po (p:=p) (i:=i) (by omega) hk ho (Az out x) i 0 (bX _) (fun t ht=>by omega)
   rw[Int.natCast_zero]at h1
   rw[h1]
   exact Qw hp hl k (i+1) _ _ (by omega) (by simp[ho]) (by simp[hk])
  by_cases h5:x.kind=5
  ·have hb:=AH hxo h5
   rw[y6 (zU h5),D9 hb.1 (by omega),D9 hb.2.2.1 (by omega)]
   exact fin ⟨x.kind,x.n,x.s,out.getD x.a.toNat 0,out.getD x.b.toNat 0⟩ (by simp only[Az,h5,if_true])
  ·rw[yp (zT h5)]
   by_cases h6:x.kind=6
   ·have hb:=BM hxo (.inl h6)
    rw[y6 (zU h6),y6 (zU h6),D9 hb.1 (by omega)]
    exact fin ⟨x.kind,x.n,x.s,out.getD x.a.toNat 0,x.b⟩ (by simp only[Az,h6];simp)
   ·rw[yp (zT h6)]
    by_cases h7:x.kind=7
    ·have hb:=BM hxo (.inr h7)
     rw[y6 (zU h7),D9 hb.1 (by omega)]
     exact fin ⟨x.kind,x.n,x.s,out.getD x.a.toNat 0,x.b⟩ (by simp only[Az,h7];simp)
    ·rw[yp (zT h7)]
     exact fin x (by simp only[Az,h5,h6,h7,if_false,or_self])
theorem abQ {p:List Nd}(hp:Al p)(hl:p.length<4294967290):V 252 [eP p]=some (.os (1,0) ((FA p).map eI),[]):=by
 have h:=Qw hp hl p.length 0 [] [] (bX _) rfl rfl
 rw[Int.natCast_zero]at h
 rw[UH]
 exact h
end
end Go.Eng
/-! what is built in: both sides -/
namespace Go.Eng
noncomputable section
open Go.Proofs Go.Proofs.Tryz
set_option maxHeartbeats 4000000

theorem Jq {R:Type}{l:List Int}{v x:Int}(h0:0<=v)(h:l[v.toNat]? = some x)(K:Int->Option R):grd (decide (0<=v)&&decide (v<ni (l.map eI).length)) (dd (l.map eI) v.toNat fun x=>asI .i64 x fun n=>K n)=K x:=by
 have:=aQ h
 rw[D9 h0 (by omega),aN,h];rfl
theorem BU {R:Type}{a:Int}{r:List Int}(K:Int->Option R):grd (decide ((0:Nat)<=0)&&decide ((0:Int)<ni ((a::r).map eI).length)) (dd ((a::r).map eI) 0 fun x=>asI .i64 x fun n=>K n)=K a:=Jq (l:=a::r) (v:=0) (by omega) rfl K
theorem Ig {R:Type}{a b:Int}{r:List Int}(K:Int->Option R):grd (decide ((0:Nat)<=1)&&decide ((1:Int)<ni ((a::b::r).map eI).length)) (dd ((a::b::r).map eI) 1 fun x=>asI .i64 x fun n=>K n)=K b:=Jq (l:=a::b::r) (v:=1) (by omega) rfl K
theorem ZQ {R:Type}{a b c:Int}{r:List Int}(K:Int->Option R):grd (decide ((0:Nat)<=2)&&decide ((2:Int)<ni ((a::b::c::r).map eI).length)) (dd ((a::b::c::r).map eI) 2 fun x=>asI .i64 x fun n=>K n)=K c:=Jq (l:=a::b::c::r) (v:=2) (by omega) rfl K
theorem agP {R:Type}{a b c d:Int}{r:List Int}(K:Int->Option R):grd (decide ((0:Nat)<=3)&&decide ((3:Int)<ni ((a::b::c::d::r).map eI).length)) (dd ((a::b::c::d::r).map eI) 3 fun x=>asI .i64 x fun n=>K n)=K d:=Jq (l:=a::b::c::d::r) (v:=3) (by omega) rfl K
theorem Nu:nz ⟨#[]⟩=true:=by unfold nz;rw[Dz];simp
theorem UL {n:Int}:V 223 [iN n]=some (iN (Av n),[]):=by
 rw[Vo,AF (AI _ _ _)]
 unfold Av
 cases h:wi n 1 19 with
 |false=>rfl
 |true=>
  have hb:=wi_iff.1 h
  rw[aO,y0,w64 (n:=n-1) (by omega) (by omega)]
  exact D9 (l:=prArgs) (by omega) (by show n-1<19;omega) _
theorem UN {n:Int}:V 245 [iN n]=some (iN (Av n),[]):=by
 rw[Vv,Cq (Dg _ _ _)]
 unfold Av
 cases h:wi n 1 19 with
 |false=>rfl
 |true=>
  have hb:=wi_iff.1 h
  rw[aO,y0]
  have e:prArgs.getD (n-1).toNat 0=(0::prArgs).getD n.toNat 0:=by
   have:n.toNat=(n-1).toNat+1:=by omega
   rw[this];rfl
  simp only[if_true]
  rw[e]
  exact D9 (l:=0::prArgs) (by omega) (by show n<20;omega) _
theorem abK {R:Type}{l:List (List UInt8)}{i:Nat}{x:List UInt8}(h:l[i]? = some x)(K:ByteArray->Option R):grd (decide (0<=(i:Int))&&decide ((i:Int)<ni (l.map fun x=>D.str (mk x)).length)) (dd (l.map fun x=>D.str (mk x)) (i:Int).toNat fun x=>asS x fun n=>K n)=K (mk x):=by
 have:=aQ h
 rw[zJ (by rw[lnM];exact zM this),bI,zj h,zw]
theorem aei (a b:ByteArray):kJ a b=kJ b a:=by
 rw[Dz,Dz]
 exact decide_eq_decide.2 ⟨Eq.symm,Eq.symm⟩
theorem Wg {l:List (List UInt8)}(hl:l.length<4611686018427387904)(s:ByteArray):∀(k i:Nat),i+k=l.length->Bz (l.map fun x=>D.str (mk x)) s (ni l.length) (i:Int)=some (iN (d9 (fun x=>kJ s (mk x)) l i),[])
 |0,i,hi=>by
  rw[Dw,yp (zI (by omega)),ym (by omega)]
 |k+1,i,hi=>by
  obtain⟨x,hx⟩:=yM (l:=l) (i:=i) (by omega)
  have ih:=Wg hl s k (i+1) (by omega)
  rw[Dw,y6 (zN (by omega)),abK hx]
  cases h:kJ s (mk x) with
  |true=>rw[zy,yn hx h]
  |false=>rw[y0,z6 (by omega),ih,ya hx h]
theorem NC (s:ByteArray):0<=EO s/\EO s<=19:=by
 unfold EO zm
 cases h:prNames.findIdx? fun x=>kJ s (mk x) with
 |none=>simp
 |some k=>
  rw[List.findIdx?_eq_some_iff_getElem]at h
  obtain⟨hk,_⟩:=h
  have:prNames.length=19:=rfl
  simp only;omega
theorem XI (s:ByteArray):V 208 [.str s]=some (iN (EO s),[]):=by
 have h1:V 225 [.rs (1,0) (prNames.map fun x=>D.str (mk x)),.str s]=some (iN (zm (fun x=>kJ s (mk x)) prNames),[]):=by
  have h:=Wg (l:=prNames) (by decide) s prNames.length 0 (bX _)
  rw[yb,Int.natCast_zero]at h
  rw[JR]
  exact h
 have hb:=NC s
 have h2:V 176 []=some (.os (1,0) (prNames.map fun x=>D.str (mk x)),[]):=UC
 unfold EO at hb⊢
 rw[YW,Wj h2,Jt h1,w64 (by omega) (by omega)]
theorem Pz (s:ByteArray):∀(k i:Nat),i+k=19->GQ s ((i+1:Nat):Int) (([]::prNames).map fun x=>D.str (mk x))=some (iN (d9 (fun x=>kJ s (mk x)) prNames i+1),[])
 |0,i,hi=>by
  have:i=19:=by omega
  subst this
  rw[Lg,yp (bK (by omega)),ym (by decide)]
  rfl
 |k+1,i,hi=>by
  obtain⟨x,hx⟩:=yM (l:=prNames) (i:=i) (by show i<19;omega)
  have hx':([]::prNames)[i+1]? = some x:=hx
  have ih:=Pz s k (i+1) (by omega)
  rw[Lg,y6 (bE (by omega)),abK hx',aei]
  cases h:kJ s (mk x) with
  |true=>rw[zy,yn hx h];rfl
  |false=>rw[y0,z6 (by omega),ih,ya hx h]
theorem XM (s:ByteArray):V 232 [.str s]=some (iN (EO s),[]):=by
 have h:=Pz s 19 0 (bX _)
 rw[yb]at h
 have h2:V 239 []=some (.os (1,0) (([]::prNames).map fun x=>D.str (mk x)),[]):=Xp
 rw[Zh,Z6 h2]
 exact h
theorem Gw (b:Bool):V 241 [.bool b]=some (eN (ndB b),[]):=by
 rw[Vp];cases b<;>rfl
theorem M8 (b:Bool):V 251 [.bool b]=some (eN (ndB b),[]):=by
 rw[Zy];cases b<;>rfl
def MO (n a b:Int):Nd:=if n=1 then ndI (a+b) else if n=2 then ndI (a-b) else if n=3 then ndI (a*b) else if n=4 then ndB (decide (a<b)) else ndB (a==b)
theorem Yh {a b:Int}(ha : -1000000000<=a/\a<=1000000000)(hb : -1000000000<=b/\b<=1000000000) : -1000000000000000000<=a*b/\a*b<=1000000000000000000:=by
 have h1:a.natAbs<=1000000000:=by omega
 have h2:b.natAbs<=1000000000:=by omega
 have h3:(a*b).natAbs<=1000000000*1000000000:=by rw[Int.natAbs_mul];exact Nat.mul_le_mul h1 h2
 omega
theorem aeo {n a b:Int}(ha : -1000000000<=a/\a<=1000000000)(hb : -1000000000<=b/\b<=1000000000):V 243 [iN n,iN a,iN b]=some (eN (MO n a b),[]):=by
 have hm:=Yh ha hb
 rw[Xf]
 unfold MO
 by_cases h1:n=1
 ·rw[y6 (zU h1),aG h1,w64 (by omega) (by omega)]
 rw[yp (zT h1),aD h1]
 by_cases h2:n=2
 ·rw[y6 (zU h2),aG h2,w64 (by omega) (by omega)]
 rw[yp (zT h2),aD h2]
 by_cases h3:n=3
 ·rw[y6 (zU h3),aG h3,w64 (by omega) (by omega)]
 rw[yp (zT h3),aD h3]
 by_cases h4:n=4
 ·rw[y6 (zU h4),aG h4,DI (Gw _)]
 rw[yp (zT h4),aD h4,DI (Gw _)]
theorem agd {x:Nd}{h:Int}(ho:okN x h=true):x.s.size<=12:=by
 have nz0:nz x.s=true->x.s.size<=12:=by
  intro e
  unfold nz at e
  rw[Dz]at e
  rw[cV e];decide
 have nm:Oi x.s=true->x.s.size<=12:=by
  intro e
  unfold Oi at e
  simp only[aB]at e
  have:=wi_iff.1 e.1
  omega
 unfold okN at ho
 repeat' split at ho
 all_goals first|cases ho|skip
 all_goals (simp only[aB]at ho;first|exact nz0 ho.2.1|exact nm ho.2.1)
theorem Gq {p:List Nd}(hp:Al p):Cu p:=fun x hx=>by
 obtain⟨j,hj⟩:=List.getElem?_of_mem hx
 have:=agd (hp j x hj)
 omega
theorem U4 {x:Nd}{h:Int}(ho:okN x h=true)(hk:x.kind=3) : -1000000000<=x.n/\x.n<=1000000000:=by
 simp[okN,hk]at ho
 exact wi_iff.1 ho.1
def LP (p:List Nd)(n:Int)(v:Int):Bool:=if n<=5 then (nod p v).kind==3 else if n=7\/n=8 then (nod p v).kind==5 else true
theorem Yo {p:List Nd}{n:Int}{l:List Int}(hl:l.length<4294967290)(hv:∀v∈l,InP p v):∀(k i:Nat),i+k=l.length ->
  AM n (l.map eI) (l.map eI) (ni l.length) (i:Int) (p.map eN)=if (l.drop i).all (LP p n)=true then AM n (l.map eI) (l.map eI) (ni l.length) (l.length:Int) (p.map eN) else some (.tup [iN (-1),iN 3],[rP p])
 |0,i,hi=>by
  have:i=l.length:=by omega
  subst this
  simp
 |k+1,i,hi=>by
  obtain⟨v,hx⟩:=yM (l:=l) (i:=i) (by omega)
  have hvi:=hv v (bT hx)
  have ih:=Yo (n:=n) hl hv k (i+1) (by omega)
  rw[Jk n (l.map eI) (l.map eI) (ni l.length) (i:Int),y6 (zN (by omega)),Jq (x:=v) (by omega) (by rw[bI];exact hx),z6 (by omega),ih,vc hx,List.all_cons]
  by_cases h5:n<=5
  ·have ec:LP p n v=((nod p v).kind==3):=by unfold LP;rw[aG h5]
   rw[y6 (bE h5),Od hvi,ec]
   by_cases hk:(nod p v).kind=3
   ·rw[yp (zW hk),yp (zT (by omega)),yp (zT (by omega)),zU hk,dJ]
   ·rw[y6 (zX hk),zT hk,dB];rfl
  ·rw[yp (bK h5)]
   by_cases h7:n=7
   ·have ec:LP p n v=((nod p v).kind==5):=by unfold LP;rw[aD h5,aG (.inl h7)]
    rw[y6 (zU h7),Od hvi,ec]
    by_cases hk:(nod p v).kind=5
    ·rw[yp (zW hk),zU hk,dJ]
    ·rw[y6 (zX hk),zT hk,dB];rfl
   ·rw[yp (zT h7)]
    by_cases h8:n=8
    ·have ec:LP p n v=((nod p v).kind==5):=by unfold LP;rw[aD h5,aG (.inr h8)]
     rw[y6 (zU h8),Od hvi,ec]
     by_cases hk:(nod p v).kind=5
     ·rw[yp (zW hk),zU hk,dJ]
     ·rw[y6 (zX hk),zT hk,dB];rfl
    ·have ec:LP p n v=true:=by unfold LP;rw[aD h5,aD (by omega)]
     rw[yp (zT h8),ec,dJ]
def ahg (p:List Nd)(r:Except Int (List Nd×Int)):Option Ret:=match r with
 |.ok (q,v)=>some (.tup [iN v,iN 0],[rP q])
 |.error h=>some (.tup [iN (-1),iN h],[rP p])
def IP (p:List Nd)(n:Int)(l:List Int):Nd:=
 let x:=nod p (l.getD 0 0);let y:=nod p (l.getD 1 0)
 if n=6 then ndP (l.getD 0 0) (l.getD 1 0)
 else if n=9 then ndB (x.kind==1)
 else if n=10 then ndB (x.kind==5)
 else if n=11 then ndB (Qv p (l.getD 0 0) (l.getD 1 0))
 else if n=12 then ndB (x.kind==2&&x.n==0)
 else MO n x.n y.n
theorem acY {p:List Nd}(hp:Al p)(hl:p.length<4294967290){n:Int}{l:List Int}(hv:∀v∈l,InP p v)(h12:1<=n/\n<=12)(h78:n≠7/\n≠8)(hlen:(l.length:Int)=Av n)(h11:n=11->Ac p=true)
  (hk:n<=5->∀v∈l,(nod p v).kind=3):V 235 [eP p,iN n,.rs (1,0) (l.map eI)]=some (eN (IP p n l),[]):=by
 have hpos:l≠[]:=by
  rintro rfl
  simp only[Av,lnN]at hlen
  have:n=1\/n=2\/n=3\/n=4\/n=5\/n=6\/n=7\/n=8\/n=9\/n=10\/n=11\/n=12:=by omega
  rcases this with rfl|rfl|rfl|rfl|rfl|rfl|rfl|rfl|rfl|rfl|rfl|rfl<;>cases hlen
 obtain⟨a,r,rfl⟩:∃a r,l=a::r:=by cases l with|nil=>exact absurd rfl hpos|cons a r=>exact⟨a,r,rfl⟩
 have ha:=hv a (by simp)
 have two:(n<=6\/n=11)->∃b,r=[b]:=by
  intro h
  have h2:Av n=2:=by
   have:n=1\/n=2\/n=3\/n=4\/n=5\/n=6\/n=11:=by omega
   rcases this with rfl|rfl|rfl|rfl|rfl|rfl|rfl<;>rfl
  rw[h2]at hlen
  simp only[lnC]at hlen
  match r,hlen with
  |[b],_=>exact⟨b,rfl⟩
  |[],h=>simp at h
  |_::_::_,h=>simp at h;omega
 rw[Vt,BU,FP ha]
 unfold IP
 simp only[dc]
 by_cases h6:n=6
 ·obtain⟨b,rfl⟩:=two (by omega)
  rw[y6 (zU h6),aG h6,BU,Ig]
  rfl
 rw[yp (zT h6),aD h6]
 by_cases h9:n=9
 ·rw[y6 (zU h9),aG h9,DI (Gw _)]
 rw[yp (zT h9),aD h9]
 by_cases h10:n=10
 ·rw[y6 (zU h10),aG h10,DI (Gw _)]
 rw[yp (zT h10),aD h10]
 by_cases hn11:n=11
 ·obtain⟨b,rfl⟩:=two (by omega)
  have hok:=h11 hn11
  have hb:=hv b (by simp)
  have hs:=abN (p:=p) (Gq hp) (by omega) a b
  have hsf:ady p a b=Qv p a b:=by
   have h1:JS p a=true:=wi_iff.2 ⟨ha.1,by omega⟩
   have h2:JS p b=true:=wi_iff.2 ⟨hb.1,by omega⟩
   simp[ady,hok,h1,h2]
  rw[hsf]at hs
  rw[y6 (zU hn11),aG hn11,BU,Ig,ad1 hs,DI (Gw _)]
  rfl
 rw[yp (zT hn11),aD hn11]
 by_cases hn12:n=12
 ·rw[y6 (zU hn12),aG hn12]
  cases hk2:(nod p a).kind==2 with
  |true=>rw[zy,DI (Gw _),dJ]
  |false=>rw[y0,DI (Gw _),dB]
 rw[yp (zT hn12),aD hn12]
 obtain⟨b,rfl⟩:=two (by omega)
 have hb:=hv b (by simp)
 have k1:=hk (by omega) a (by simp)
 have k2:=hk (by omega) b (by simp)
 have hn:=aeo (n:=n) (U4 (JE hp ha) k1) (U4 (JE hp hb) k2)
 rw[Ig,adH hb,Z5 hn]
 rfl
theorem Kj {n:Int}{l:List Int}(hlen:(l.length:Int)=Av n)(h:1<=n/\n<=6\/n=11):∃a b,l=[a,b]:=by
 have h2:Av n=2:=by
  have:n=1\/n=2\/n=3\/n=4\/n=5\/n=6\/n=11:=by omega
  rcases this with rfl|rfl|rfl|rfl|rfl|rfl|rfl<;>rfl
 rw[h2]at hlen
 match l,hlen with
 |[a,b],_=>exact⟨a,b,rfl⟩
 |[],h=>simp at h
 |[_],h=>simp at h
 |_::_::_::_,h=>simp at h;omega
theorem My {n:Int}{l:List Int}(hlen:(l.length:Int)=Av n)(h:7<=n/\n<=10\/n=12):∃a,l=[a]:=by
 have h2:Av n=1:=by
  have:n=7\/n=8\/n=9\/n=10\/n=12:=by omega
  rcases this with rfl|rfl|rfl|rfl|rfl<;>rfl
 rw[h2]at hlen
 match l,hlen with
 |[a],_=>exact⟨a,rfl⟩
 |[],h=>simp at h
 |_::_::_,h=>simp at h;omega
theorem acK {p:List Nd}(_:Al p){n:Int}{l:List Int}(hv:∀v∈l,InP p v)(hlen:(l.length:Int)=Av n)(_:1<=n/\n<=12)(_:n≠7/\n≠8)(hw:wi (IP p n l).n (-1000000000) 1000000000=true):okN (IP p n l) p.length=true:=by
 have hB:∀b,okN (ndB b) p.length=true:=by intro b;cases b<;>simp[ndB,okN,wi,Nu]
 unfold IP at hw⊢
 simp only at hw⊢
 by_cases h6:n=6
 ·rw[aG h6]
  obtain⟨a,b,rfl⟩:=Kj hlen (by omega)
  have ha:=hv a (by simp)
  have hb:=hv b (by simp)
  show(wi 0 0 0&&(nz ⟨#[]⟩&&(wi a 0 _&&wi b 0 _)))=true
  rw[wi_iff.2 ⟨ha.1,by omega⟩,wi_iff.2 ⟨hb.1,by omega⟩,Nu]
  rfl
 rw[aD h6]at hw⊢
 by_cases h9:n=9
 ·rw[aG h9];exact hB _
 rw[aD h9]at hw⊢
 by_cases h10:n=10
 ·rw[aG h10];exact hB _
 rw[aD h10]at hw⊢
 by_cases h11:n=11
 ·rw[aG h11];exact hB _
 rw[aD h11]at hw⊢
 by_cases hn12:n=12
 ·rw[aG hn12];exact hB _
 rw[aD hn12]at hw⊢
 unfold MO at hw⊢
 have hI:∀x,wi x (-1000000000) 1000000000=true->okN (ndI x) p.length=true:=fun x hx=>by
  show(wi x (-1000000000) 1000000000&&(nz ⟨#[]⟩&&_))=true
  rw[hx,Nu];rfl
 split at hw
 ·rw[aG ‹_›];exact hI _ hw
 rw[aD ‹_›]
 split at hw
 ·rw[aG ‹_›];exact hI _ hw
 rw[aD ‹_›]
 split at hw
 ·rw[aG ‹_›];exact hI _ hw
 rw[aD ‹_›]
 split<;>exact hB _
theorem MW {p:List Nd}{n:Int}{l:List Int}(h12:1<=n/\n<=12)(hlen:(l.length:Int)=Av n):Iy p n l =
  if l.all (LP p n)=true then (if n=7 then .ok (p,(nod p (l.getD 0 0)).a) else if n=8 then .ok (p,(nod p (l.getD 0 0)).b) else if wi (IP p n l).n (-1000000000) 1000000000=true then .ok (p++[IP p n l],p.length) else .error 4) else .error 3:=by
 unfold Iy
 simp only
 have hBw:∀b,wi (ndB b).n (-1000000000) 1000000000=true:=by intro b;cases b<;>rfl
 by_cases h5:n<=5
 ·obtain⟨a,b,rfl⟩:=Kj hlen (by omega)
  have hc:[a,b].all (LP p n)=true↔(nod p a).kind=3/\(nod p b).kind=3:=by
   simp[LP,h5]
  rw[aG h5]
  simp only[dc,List.getD_cons_succ]
  by_cases hk:(nod p a).kind=3/\(nod p b).kind=3
  ·have n7:¬n=7:=by omega
   have n8:¬n=8:=by omega
   rw[aG hk,aG (hc.2 hk),aD n7,aD n8]
   have e:IP p n [a,b]=MO n (nod p a).n (nod p b).n:=by
    unfold IP
    simp only[dc,List.getD_cons_succ]
    rw[aD (by omega),aD (by omega),aD (by omega),aD (by omega),aD (by omega)]
   rw[e]
   rfl
  ·rw[aD hk,aD (fun h=>hk (hc.1 h))]
 rw[aD h5]
 by_cases h6:n=6
 ·subst h6
  have hc:l.all (LP p 6)=true:=by simp[LP]
  rw[hc]
  simp only[if_true,IP]
  rfl
 rw[aD h6]
 by_cases h78:n=7\/n=8
 ·obtain⟨a,rfl⟩:=My hlen (by omega)
  have hc:[a].all (LP p n)=true↔(nod p a).kind=5:=by simp[LP,h5,h78]
  rw[aG h78]
  simp only[dc]
  by_cases hk:(nod p a).kind=5
  ·rw[aG hk,aG (hc.2 hk)]
   rcases h78 with rfl|rfl<;>rfl
  ·rw[aD hk,aD (fun h=>hk (hc.1 h))]
 have hc:l.all (LP p n)=true:=by simp[LP,h5,h78]
 rw[aD h78,aG hc,aD (fun h=>h78 (.inl h)),aD (fun h=>h78 (.inr h))]
 unfold IP
 simp only
 rw[aD h6]
 by_cases h9:n=9
 ·simp only[h9,if_true];rw[aG (hBw _)]
 rw[aD h9,aD h9]
 by_cases h10:n=10
 ·simp only[h10,if_true];rw[aG (hBw _)]
 rw[aD h10,aD h10]
 by_cases h11:n=11
 ·simp only[h11,if_true];rw[aG (hBw _)]
 have hn12:n=12:=by omega
 rw[aD h11,aD h11,aG hn12,aG (hBw _)]
theorem abP {p:List Nd}(hp:Al p)(hl:p.length<4294967290){n:Int}{l:List Int}(hv:∀v∈l,InP p v)(h12:1<=n/\n<=12)(hlen:(l.length:Int)=Av n)(h11:n=11->Ac p=true) :
  V 224 [rP p,iN n,.rs (1,0) (l.map eI)]=ahg p (Iy p n l):=by
 have hll:l.length<=2:=by
  by_cases h:n<=6\/n=11
  ·obtain⟨a,b,rfl⟩:=Kj hlen (by omega);simp
  ·obtain⟨a,rfl⟩:=My hlen (by omega);simp
 have h:=Yo (n:=n) (l:=l) (by omega) hv l.length 0 (bX _)
 rw[Int.natCast_zero,eR]at h
 rw[UA,lnM,h,MW h12 hlen]
 by_cases hc:l.all (LP p n)=true
 ·rw[aG hc,aG hc,Jk,yp (zI (cB _))]
  by_cases h7:n=7
  ·obtain⟨a,rfl⟩:=My hlen (by omega)
   rw[y6 (zU h7),aG h7,BU,aeB (hv a (by simp))]
   rfl
  rw[yp (zT h7),aD h7]
  by_cases h8:n=8
  ·obtain⟨a,rfl⟩:=My hlen (by omega)
   rw[y6 (zU h8),aG h8,BU,aeC (hv a (by simp))]
   rfl
  rw[yp (zT h8),aD h8]
  have hn:=acY hp hl hv h12 ⟨h7,h8⟩ hlen h11 (fun h5 v hv'=>by
   have:=cO.1 hc v hv'
   simpa[LP,h5]using this)
  rw[XD hn,AF (AI _ _ _)]
  cases hw:wi (IP p n l).n (-1000000000) 1000000000 with
  |false=>rw[aD (by simp)];rfl
  |true=>
   rw[aG rfl,aO,y0,Bg (KM (by omega) (IP p n l))]
   rfl
 ·rw[aD hc,aD hc];rfl
theorem acX {n:Int}(h5:1<=n/\n<=5){x y:Nd}(hx:x.kind=3->-1000000000<=x.n/\x.n<=1000000000)(hy:y.kind=3->-1000000000<=y.n/\y.n<=1000000000) :
  ∃z,V 250 [iN n,eN x,eN y]=some (.tup [eN (if x.kind=3/\y.kind=3/\wi (MO n x.n y.n).n (-1000000000) 1000000000=true then MO n x.n y.n else z),iN (if x.kind=3/\y.kind=3 then (if wi (MO n x.n y.n).n (-1000000000) 1000000000=true then 0 else 4) else 3)],[]):=by
 have hBw:∀b,wi (ndB b).n (-1000000000) 1000000000=true:=by intro b;cases b<;>rfl
 refine⟨⟨0,0,⟨#[]⟩,0,0⟩,?_⟩
 rw[Vz]
 by_cases k1:x.kind=3
 ·rw[yp (zW k1)]
  by_cases k2:y.kind=3
  ·have a1:=hx k1
   have a2:=hy k2
   have hm:=Yh a1 a2
   have hk:x.kind=3/\y.kind=3:=⟨k1,k2⟩
   rw[yp (zW k2),aG hk]
   have fin:∀(q:Int),MO n x.n y.n=ndI q->(ck1 62 [iN q,iN (-1000000000),iN 1000000000] fun b=>(br (!b) (some (D.tup [.agg [iN 0,iN 0,.str ⟨#[]⟩,iN 0,iN 0],iN 4],[])) (some (D.tup [.agg [iN 3,iN q,.str ⟨#[]⟩,iN 0,iN 0],iN 0],([]:List D))))) =
     some (D.tup [eN (if x.kind=3/\y.kind=3/\wi (MO n x.n y.n).n (-1000000000) 1000000000=true then MO n x.n y.n else ⟨0,0,⟨#[]⟩,0,0⟩),iN (if wi (MO n x.n y.n).n (-1000000000) 1000000000=true then 0 else 4)],[]):=by
    intro q hq
    rw[Cq (Dg _ _ _),hq]
    simp only
    cases hw:wi q (-1000000000) 1000000000 with
    |false=>rw[aD (by simp),aD (by simp)];rfl
    |true=>rw[aG ⟨k1,k2,rfl⟩,aG rfl];rfl
   have VF:∀b,MO n x.n y.n=ndB b->(ck2 251 [.bool b] fun n4 n7 s10 n13 n16=>((some (D.tup [.agg [iN n4,iN n7,.str s10,iN n13,iN n16],iN 0],([]:List D))))) =
     some (D.tup [eN (if x.kind=3/\y.kind=3/\wi (MO n x.n y.n).n (-1000000000) 1000000000=true then MO n x.n y.n else ⟨0,0,⟨#[]⟩,0,0⟩),iN (if wi (MO n x.n y.n).n (-1000000000) 1000000000=true then 0 else 4)],[]):=by
    intro b hb
    rw[GA (M8 b),hb,aG ⟨k1,k2,hBw b⟩,aG (hBw b)]
   have w1:w6 (x.n-y.n)=x.n-y.n:=w64 (by omega) (by omega)
   have w2:w6 (x.n*y.n)=x.n*y.n:=w64 (by omega) (by omega)
   have w3:w6 (x.n+y.n)=x.n+y.n:=w64 (by omega) (by omega)
   rw[w1,w2,w3]
   by_cases c2:n=2
   ·rw[y6 (zU c2)];exact fin _ (by subst c2;rfl)
   rw[yp (zT c2)]
   by_cases c3:n=3
   ·rw[y6 (zU c3)];exact fin _ (by subst c3;rfl)
   rw[yp (zT c3)]
   by_cases c4:n=4
   ·rw[y6 (zU c4)];exact VF _ (by subst c4;rfl)
   rw[yp (zT c4)]
   by_cases c5:n=5
   ·rw[y6 (zU c5)];exact VF _ (by subst c5;rfl)
   rw[yp (zT c5)]
   have c1:n=1:=by omega
   exact fin _ (by subst c1;rfl)
  ·rw[y6 (zX k2),aD (fun h=>k2 h.2.1),aD (fun h=>k2 h.2)]
 ·rw[y6 (zX k1),aD (fun h=>k1 h.1),aD (fun h=>k1 h.1)]
theorem ag1 {p:List Nd}(hp:Al p)(hl:p.length<4294967290){n:Int}{l:List Int}(hv:∀v∈l,InP p v)(h12:1<=n/\n<=12)(hlen:(l.length:Int)=Av n) :
  V 246 [rP p,iN n,.rs (1,0) (l.map eI)]=ahg p (Iy p n l):=by
 obtain⟨a,r,rfl⟩:∃a r,l=a::r:=by
  by_cases h:n<=6\/n=11
  ·obtain⟨a,b,rfl⟩:=Kj hlen (by omega);exact⟨_,_,rfl⟩
  ·obtain⟨a,rfl⟩:=My hlen (by omega);exact⟨_,_,rfl⟩
 have ha:=hv a (by simp)
 rw[acr,BU,FP ha]
 unfold Iy
 simp only[dc]
 by_cases h5:n<=5
 ·obtain⟨a',b,e⟩:=Kj hlen (by omega)
  cases e
  have hb:=hv b (by simp)
  obtain⟨z,hz⟩:=acX (n:=n) (by omega) (x:=nod p a) (y:=nod p b) (U4 (JE hp ha)) (U4 (JE hp hb))
  rw[y6 (bE h5),aG h5,Ig,FP hb,XF hz]
  simp only[dc,List.getD_cons_succ]
  by_cases hk:(nod p a).kind=3/\(nod p b).kind=3
  ·have e:(if n=1 then ndI ((nod p a).n+(nod p b).n) else if n=2 then ndI ((nod p a).n-(nod p b).n) else if n=3 then ndI ((nod p a).n*(nod p b).n) else if n=4 then ndB (decide ((nod p a).n<(nod p b).n)) else ndB ((nod p a).n==(nod p b).n))=MO n (nod p a).n (nod p b).n:=rfl
   rw[aG hk,aG hk,e]
   by_cases hw:wi (MO n (nod p a).n (nod p b).n).n (-1000000000) 1000000000=true
   ·have hc:(nod p a).kind=3/\(nod p b).kind=3/\wi (MO n (nod p a).n (nod p b).n).n (-1000000000) 1000000000=true:=⟨hk.1,hk.2,hw⟩
    rw[aG hw,aG hw,yp (zW rfl)]
    simp only[aG hc]
    rw[Ar (AV (by omega) (MO n (nod p a).n (nod p b).n))]
    rfl
   ·rw[aD hw,aD hw];rfl
  ·rw[aD hk,aD hk];rfl
 rw[yp (bK h5),aD h5]
 by_cases h6:n=6
 ·obtain⟨a',b,e⟩:=Kj hlen (by omega)
  cases e
  rw[y6 (zU h6),aG h6,BU,Ig,Ar (AV (by omega) (ndP a b))]
  rfl
 rw[yp (zT h6),aD h6]
 by_cases h8:n<=8
 ·rw[y6 (bE h8),aG (by omega)]
  by_cases hk:(nod p a).kind=5
  ·rw[yp (zW hk),aG hk]
   by_cases h7:n=7
   ·rw[y6 (zU h7),aG h7];rfl
   ·rw[yp (zT h7),aD h7];rfl
  ·rw[y6 (zX hk),aD hk];rfl
 rw[yp (bK h8),aD (by omega)]
 by_cases h9:n=9
 ·rw[y6 (zU h9),aG h9,GA (M8 _),Ar (AV (by omega) (ndB _))];rfl
 rw[yp (zT h9),aD h9]
 by_cases h10:n=10
 ·rw[y6 (zU h10),aG h10,GA (M8 _),Ar (AV (by omega) (ndB _))];rfl
 rw[yp (zT h10),aD h10]
 by_cases h11:n=11
 ·obtain⟨a',b,e⟩:=Kj hlen (by omega)
  cases e
  have hb:=hv b (by simp)
  rw[y6 (zU h11),aG h11,Wo (abQ hp hl),BU,D9 ha.1 (by rw[Rq];exact ha.2),Ig,D9 hb.1 (by rw[Rq];exact hb.2),GA (M8 _),Ar (AV (by omega) (ndB _))]
  rfl
 rw[yp (zT h11),aD h11]
 cases hk2:(nod p a).kind==2 with
 |true=>rw[zy,GA (M8 _),Ar (AV (by omega) (ndB _)),dJ];rfl
 |false=>rw[y0,GA (M8 _),Ar (AV (by omega) (ndB _)),dB];rfl
end
end Go.Eng
/-! a step of a machine keeps it right: plain -/
namespace Go.Eng

theorem AC {p:List Nd}(hp:Al p){x:Nd}(hx:okN x p.length=true):Al (p++[x]):=by
 intro j y hy
 rcases Nat.lt_or_ge j p.length with h|h
 ·rw[cC h]at hy;exact hp j y hy
 ·rw[List.getElem?_append_right h]at hy
  have:j=p.length:=by have:=aQ hy;simp at this;omega
  subst this
  simp at hy;subst hy;exact hx
theorem Z7 (h:Int):okN ndN h=true:=by
 show(wi 0 0 0&&(nz ⟨#[]⟩&&_))=true
 rw[Nu];rfl
theorem PQ {a b:Int}{n:Nat}(ha:0<=a/\a<(n:Int))(hb:0<=b/\b<(n:Int)):okN (ndP a b) n=true:=by
 show(wi 0 0 0&&(nz ⟨#[]⟩&&(wi a 0 _&&wi b 0 _)))=true
 rw[wi_iff.2 ⟨ha.1,by omega⟩,wi_iff.2 ⟨hb.1,by omega⟩,Nu];rfl
theorem Sk {n h:Int}(hn : -1000000000<=n/\n<=1000000000):okN (ndI n) h=true:=by
 show(wi n (-1000000000) 1000000000&&(nz ⟨#[]⟩&&_))=true
 rw[wi_iff.2 hn,Nu];rfl
theorem adw {k a:Int}{n:Nat}(hk:0<=k/\k<=1000000000)(ha:0<=a/\a<(n:Int)):okN (ndF k a) n=true:=by
 show(wi k 0 1000000000&&(nz ⟨#[]⟩&&(wi a 0 _&&_)))=true
 rw[wi_iff.2 hk,wi_iff.2 ⟨ha.1,by omega⟩,Nu];rfl
theorem U5 {a:Int}{n:Nat}(ha:0<=a/\a<(n:Int)):okN (ndK a) n=true:=by
 show(wi 0 0 0&&(nz ⟨#[]⟩&&(wi a 0 _&&_)))=true
 rw[wi_iff.2 ⟨ha.1,by omega⟩,Nu];rfl
theorem agc {k h:Int}(hk:0<=k/\k<=99):okN (ndR k) h=true:=by
 show(wi k 0 99&&(nz ⟨#[]⟩&&_))=true
 rw[wi_iff.2 hk,Nu];rfl
theorem Cm (p:List Nd)(x:Nd):InP (p++[x]) (p.length:Int):=⟨by omega,by simp only[lnA,lnC,lnN];omega⟩
theorem RX:∀(r:List Int)(q:List Nd)(c:Nat),Al q->c<q.length->(∀v∈r,InP q v)->Al (CM r q c).1/\(∃t,(CM r q c).1=q++t/\t.length=r.length)/\(CM r q c).2<(CM r q c).1.length
 |[],q,c,hq,hc,hr=>⟨hq,⟨[],by simp[CM],rfl⟩,hc⟩
 |x::r,q,c,hq,hc,hr=>by
  have hx:=hr x (by simp)
  obtain⟨h1,⟨t,h2,h3⟩,h4⟩:=RX r (q++[ndP x c]) q.length (AC hq (PQ hx ⟨by omega,by omega⟩)) (by simp) (fun v hv=>Am _ (hr v (by simp[hv])))
  exact⟨h1,⟨ndP x c::t,by rw[CM,h2];simp,by simp[h3]⟩,h4⟩
theorem Fj {q:List Nd}{row:List Int}(hq:Al q)(hr:∀v∈row,InP q v):Al (Af q row).1/\(∃t,(Af q row).1=q++t/\t.length=row.length+1)/\InP (Af q row).1 ((Af q row).2:Int):=by
 obtain⟨h1,⟨t,h2,h3⟩,h4⟩:=RX row.reverse (q++[ndN]) q.length (AC hq (Z7 _)) (by simp) (fun v hv=>Am _ (hr v (by simpa using hv)))
 refine⟨h1,⟨ndN::t,by unfold Af;rw[h2];simp,by simp[h3]⟩,⟨by omega,?_⟩⟩
 have:(Af q row).2<(Af q row).1.length:=h4
 omega
structure GM (m:Mc):Prop where
 ok:Al m.pool
 s:InP m.pool m.s
 e:InP m.pool m.e
 d:InP m.pool m.d
theorem GM.app {m:Mc}(_:GM m){q:List Nd}(hq:Al (m.pool++q))(a s e d st k r:Int)(hs:InP (m.pool++q) s)(he:InP (m.pool++q) e)(hd:InP (m.pool++q) d):GM ⟨m.pool++q,a,s,e,d,st,k,r⟩:=⟨hq,hs,he,hd⟩
theorem NF {m:Mc}(h:GM m){v:Int}(hv:InP m.pool v):GM (Jx m v):=
 ⟨AC h.ok (PQ hv h.s),Cm _ _,Am _ h.e,Am _ h.d⟩
theorem D4 {m m':Mc}(h:GM m){v:Int}(ht:D3 m=some (v,m')):GM m'/\InP m'.pool v/\m'.pool=m.pool/\m'.at'=m.at'/\m'.state=m.state/\m'.ask=m.ask/\m'.arg=m.arg/\m'.d=m.d:=by
 obtain⟨h1,h2,h3,h4,h5,h6,h7,h8,h9⟩:=abL h.ok h.s ht
 exact⟨⟨by rw[h2];exact h.ok,by rw[h2];exact h3,by rw[h2,h4];exact h.e,by rw[h2,h5];exact h.d⟩,by rw[h2];exact h1,h2,h6,h7,h8,h9,h5⟩
theorem J6:∀{k:Nat}{m m':Mc}{l:List Int},GM m->Ef k m=some (l,m')->GM m'/\(∀v∈l,InP m'.pool v)/\l.length=k/\m'.pool=m.pool/\m'.at'=m.at'/\m'.state=m.state/\m'.ask=m.ask/\m'.arg=m.arg/\m'.d=m.d
 |0,m,m',l,h,ht=>by
  simp only[Ef,cA,Prod.mk.injEq]at ht
  obtain⟨rfl,rfl⟩:=ht
  exact⟨h,by simp,rfl,rfl,rfl,rfl,rfl,rfl,rfl⟩
 |k+1,m,m',l,h,ht=>by
  simp only[Ef]at ht
  split at ht
  ·cases ht
  ·rename_i v m1 h1
   split at ht
   ·cases ht
   ·rename_i l2 m2 h2
    cases ht
    obtain⟨g1,g2,g3,g4,g5,g6,g7,g8⟩:=D4 h h1
    obtain⟨f1,f2,f3,f4,f5,f6,f7,f8,f9⟩:=J6 g1 h2
    refine⟨f1,fun u hu=>?_,by simp[f3],f4.trans g3,f5.trans g4,f6.trans g5,f7.trans g6,f8.trans g7,f9.trans g8⟩
    rcases bN.1 hu with rfl|hu
    ·rw[f4];exact g2
    ·exact f2 u hu
theorem Lz {p:List Nd}(hp:Al p){v:Int}(hv:InP p v):∀x∈(Cw p v).1,InP p x:=adn hp _ v hv
theorem Yb {c:Cd}{p:List Nd}(hp:Al p){v:Int}(hv:InP p v){many:Nat}{n:Int}{r:List Int}(h:Ie c p v many=some (n,r)):Cg c n=true/\(∀x∈r,InP p x)/\r.length+1=many:=by
 unfold Ie at h
 split at h
 ·rename_i a r' he
  split at h
  ·rename_i hc
   cases h
   have:=Lz hp hv
   rw[he]at this
   exact⟨hc.2.2,fun x hx=>this x (by simp[hx]),hc.1⟩
  ·cases h
 ·cases h
structure GoesM (c:Cd) (m m':Mc) (k:Nat):Prop where
 gm:GM m'
 ext:∃t,m'.pool=m.pool++t/\t.length<=k
 st:Oj c m'=true
theorem Pf {c:Cd}{m:Mc}(h0:m.state=0)(h1:m.ask=0)(h2:m.arg=0)(h3:Cg c m.at'=true):Oj c m=true:=by
 unfold Oj
 rw[aG h0,h1,h2]
 unfold Cg at h3
 rw[h3];rfl
structure RunM (c:Cd) (m:Mc):Prop where
 gm:GM m
 st:m.state=0
 ask:m.ask=0
 arg:m.arg=0
 pl:Cg c m.at'=true
theorem isPl_iff {c:Cd}{n:Int}:Cg c n=true↔0<=n/\n<=(c.list.length:Int)-1:=wi_iff
theorem aaM {c:Cd}(hc:c.list.length<=400){m m':Mc}(h:RunM c m){f:Nd}(hf:InP m.pool f.a){l:List Int}(hl:∀v∈l,InP m.pool v)(he:GZ c m f l=.ok m'):GoesM c m m' (l.length+9):=by
 unfold GZ at he
 split at he
 ·cases he
 split at he
 ·cases he
 rename_i h1 h2
 have hpl:=isPl_iff.1 h.pl
 simp only[Except.ok.injEq]at he
 have o1:Al (m.pool++[ndI (m.at'+1)]):=AC h.gm.ok (Sk (by omega))
 obtain⟨b1,⟨t,b2,b3⟩,b4⟩:=Fj (row:=[(m.pool.length:Int),m.s,m.e]) o1 (fun v hv=>by
  simp only[bN,dY,or_false]at hv
  rcases hv with rfl|rfl|rfl
  ·exact Cm _ _
  ·exact Am _ h.gm.s
  ·exact Am _ h.gm.e)
 have e1:(Af (m.pool++[ndI (m.at'+1)]) [(m.pool.length:Int),m.s,m.e]).1=m.pool++(ndI (m.at'+1)::t):=by rw[b2];simp
 have up:∀{v:Int},InP m.pool v->InP (Af (m.pool++[ndI (m.at'+1)]) [(m.pool.length:Int),m.s,m.e]).1 v:=fun hv=>by rw[e1];exact Am _ hv
 have o2:=AC b1 (PQ b4 (up h.gm.d))
 obtain⟨v1,⟨t2,v2,v3⟩,v4⟩:=Fj (row:=l) o2 (fun v hv=>Am _ (up (hl v hv)))
 have up2:∀{v:Int},InP ((Af (m.pool++[ndI (m.at'+1)]) [(m.pool.length:Int),m.s,m.e]).1++[ndP ((Af (m.pool++[ndI (m.at'+1)]) [(m.pool.length:Int),m.s,m.e]).2:Int) m.d]) v->InP (Af ((Af (m.pool++[ndI (m.at'+1)]) [(m.pool.length:Int),m.s,m.e]).1++[ndP ((Af (m.pool++[ndI (m.at'+1)]) [(m.pool.length:Int),m.s,m.e]).2:Int) m.d]) l).1 v:=fun hv=>by rw[v2];exact Am _ hv
 have o3:=AC v1 (PQ v4 (up2 (Am _ (up hf))))
 have o4:=AC o3 (Z7 _)
 subst he
 refine⟨⟨o4,?_,?_,?_⟩,⟨ndI (m.at'+1)::t++[ndP ((Af (m.pool++[ndI (m.at'+1)]) [(m.pool.length:Int),m.s,m.e]).2:Int) m.d]++t2++[ndP ((Af ((Af (m.pool++[ndI (m.at'+1)]) [(m.pool.length:Int),m.s,m.e]).1++[ndP ((Af (m.pool++[ndI (m.at'+1)]) [(m.pool.length:Int),m.s,m.e]).2:Int) m.d]) l).2:Int) f.a]++[ndN],?_,?_⟩,?_⟩
 ·have:=Cm ((Af ((Af (m.pool++[ndI (m.at'+1)]) [(m.pool.length:Int),m.s,m.e]).1++[ndP ((Af (m.pool++[ndI (m.at'+1)]) [(m.pool.length:Int),m.s,m.e]).2:Int) m.d]) l).1++[ndP ((Af ((Af (m.pool++[ndI (m.at'+1)]) [(m.pool.length:Int),m.s,m.e]).1++[ndP ((Af (m.pool++[ndI (m.at'+1)]) [(m.pool.length:Int),m.s,m.e]).2:Int) m.d]) l).2:Int) f.a]) ndN
  simpa using this
 ·exact Am _ (Cm _ _)
 ·exact Am _ (Am _ (up2 (Cm _ _)))
 ·show _++_++_=_
  rw[v2,b2]
  simp
 ·simp only[lnA,lnC,lnN,b3,v3];omega
 ·exact Pf h.st h.ask h.arg (by simpa using h2)
theorem aed {c:Cd}{m m':Mc}(h:RunM c m){st:Int}(hs:InP m.pool st){l:List Int}(hl:∀v∈l,InP m.pool v)(he:Sr c m st l=.ok m'):GoesM c m m' 1:=by
 unfold Sr at he
 split at he
 ·cases he
 rename_i h1
 split at he
 ·rename_i n s e d hf
  obtain⟨f1,f2,f3⟩:=Yb h.gm.ok hs hf
  cases he
  have hv:InP m.pool (l.getD 0 0):=by
   match l,h1 with
   |[v],_=>exact hl v (by simp)
   |[],h=>simp at h
   |_::_::_,h=>simp at h
  have g:GM ⟨m.pool,n,s,e,d,m.state,m.ask,m.arg⟩:=⟨h.gm.ok,f2 s (by simp),f2 e (by simp),f2 d (by simp)⟩
  exact⟨NF g hv,⟨[_],rfl,cB _⟩,Pf h.st h.ask h.arg f1⟩
 ·cases he
theorem Wx {p q:List Nd}(hp:Al p){n v:Int}{l:List Int}(hv:∀v∈l,InP p v)(h12:1<=n/\n<=12)(hlen:(l.length:Int)=Av n)(h:Iy p n l=.ok (q,v)):Al q/\InP q v/\∃t,q=p++t/\t.length<=1:=by
 rw[MW h12 hlen]at h
 split at h
 ·rename_i hc
  have one:n=7\/n=8->∃a,l=[a]/\(nod p a).kind=5:=by
   intro h78
   obtain⟨a,rfl⟩:=My hlen (by omega)
   have:=cO.1 hc a (by simp)
   refine⟨a,rfl,?_⟩
   have h5:¬n<=5:=by omega
   simpa[LP,h5,h78]using this
  split at h
  ·rename_i h7
   cases h
   obtain⟨a,rfl,hk⟩:=one (.inl h7)
   exact⟨hp,O9 hp (hv a (by simp)) (.inl hk),[],by simp,by simp⟩
  ·split at h
   ·rename_i h7 h8
    cases h
    obtain⟨a,rfl,hk⟩:=one (.inr h8)
    exact⟨hp,Qp hp (hv a (by simp)) hk,[],by simp,by simp⟩
   ·rename_i h7 h8
    split at h
    ·rename_i hw
     cases h
     exact⟨AC hp (acK hp hv hlen h12 ⟨h7,h8⟩ hw),Cm _ _,_,rfl,cB _⟩
    ·cases h
 ·cases h
theorem Ft {n:Int}{k:Nat}(h:Av n=(k:Int)):1<=n/\n<=19/\k<=2:=by
 unfold Av at h
 split at h
 ·rename_i hw
  have:=wi_iff.1 hw
  refine⟨this.1,this.2,?_⟩
  have hm:prArgs.getD (n-1).toNat 0<=2:=by
   rcases Nat.lt_or_ge (n-1).toNat prArgs.length with h|h
   ·have:=List.getElem_mem (l:=prArgs) h
    rw[aN,cL h,dX]
    have all:∀x∈prArgs,x<=2:=by decide
    exact all _ this
   ·rw[aN,eS h];decide
  omega
 ·omega
theorem Ve {c:Cd}(hc:c.list.length<=400):∀(k:Nat){m m':Mc}{f:Int}{l:List Int},RunM c m->Cg c (m.at'+1)=true->InP m.pool f->(∀v∈l,InP m.pool v)->l.length<=4->Fh c k m f l=.ok m'->∃t,GoesM c m m' t/\1<=k/\(t<=l.length+9\/t<=7*k+3)
 |0,m,m',f,l,h,hnx,hf,hl,h4,he=>by cases he
 |k+1,m,m',f,l,h,hnx,hf,hl,h4,he=>by
  unfold Fh at he
  simp only at he
  split at he
  ·rename_i h6
   exact⟨_,aaM hc h (O9 h.gm.ok hf (.inr (.inl h6))) hl he,by omega,by omega⟩
  split at he
  ·rename_i h6 h8
   split at he
   ·cases he
   rename_i hargs
   have hargs:Av (nod m.pool f).n=(l.length:Int):=by omega
   obtain⟨n1,n19,l2⟩:=Ft hargs
   split at he
   ·rename_i h18
    have hpl:=isPl_iff.1 h.pl
    have o1:Al (m.pool++[ndI (m.at'+1)]):=AC h.gm.ok (Sk (by omega))
    obtain⟨b1,⟨t,b2,b3⟩,b4⟩:=Fj (row:=[(m.pool.length:Int),m.s,m.e,m.d]) o1 (fun v hv=>by
     simp only[bN,dY,or_false]at hv
     rcases hv with rfl|rfl|rfl|rfl
     ·exact Cm _ _
     ·exact Am _ h.gm.s
     ·exact Am _ h.gm.e
     ·exact Am _ h.gm.d)
    have e1:(Af (m.pool++[ndI (m.at'+1)]) [(m.pool.length:Int),m.s,m.e,m.d]).1=m.pool++(ndI (m.at'+1)::t):=by rw[b2];simp
    have up:∀{v:Int},InP m.pool v->InP ((Af (m.pool++[ndI (m.at'+1)]) [(m.pool.length:Int),m.s,m.e,m.d]).1++[ndK ((Af (m.pool++[ndI (m.at'+1)]) [(m.pool.length:Int),m.s,m.e,m.d]).2:Int)]) v:=fun hv=>Am _ (by rw[e1];exact Am _ hv)
    have hl0:InP m.pool (l.getD 0 0):=by
     match l,hargs with
     |v::_,_=>exact hl v (by simp)
     |[],h=>rw[h18]at h;cases h
    have g2:RunM c ⟨(Af (m.pool++[ndI (m.at'+1)]) [(m.pool.length:Int),m.s,m.e,m.d]).1++[ndK ((Af (m.pool++[ndI (m.at'+1)]) [(m.pool.length:Int),m.s,m.e,m.d]).2:Int)],m.at',m.s,m.e,m.d,m.state,m.ask,m.arg⟩:=
     ⟨⟨AC b1 (U5 b4),up h.gm.s,up h.gm.e,up h.gm.d⟩,h.st,h.ask,h.arg,h.pl⟩
    obtain⟨q,⟨g3,⟨t3,g4,g5⟩,g6⟩,g8,g7⟩:=Ve hc k g2 hnx (up hl0) (fun v hv=>by
     simp only[cH]at hv;subst hv;exact Cm _ _) (by simp) he
    refine⟨q+7,⟨g3,⟨ndI (m.at'+1)::t++[ndK ((Af (m.pool++[ndI (m.at'+1)]) [(m.pool.length:Int),m.s,m.e,m.d]).2:Int)]++t3,?_,?_⟩,g6⟩,by omega,.inr (by simp only[lnC,lnN]at g7;omega)⟩
    ·rw[g4]
     show _++_++_=_
     rw[b2]
     simp
    ·simp only[lnA,lnC,lnN,b3];omega
   split at he
   ·rename_i h18 h12
    simp only[Except.ok.injEq]at he
    obtain⟨b1,⟨t,b2,b3⟩,b4⟩:=Fj (row:=l) h.gm.ok hl
    subst he
    have up:∀{v:Int},InP m.pool v->InP (Af m.pool l).1 v:=fun hv=>by rw[b2];exact Am _ hv
    refine⟨l.length+1,⟨⟨b1,up h.gm.s,up h.gm.e,up h.gm.d⟩,⟨t,b2,by omega⟩,?_⟩,by omega,by omega⟩
    unfold Oj
    have hpl:wi m.at' 0 ((c.list.length:Int)-1)=true:=h.pl
    have hn:wi (nod m.pool f).n 13 19=true:=wi_iff.2 ⟨by omega,n19⟩
    have hr:JS (Af m.pool l).1 ((Af m.pool l).2:Int)=true:=wi_iff.2 ⟨b4.1,by have:=b4.2;omega⟩
    simp only
    rw[aD (by omega),aG trivial,hpl,hn,hr,zX h18]
    rfl
   split at he
   ·cases he
   ·rename_i h18 h12 p v hp
    cases he
    obtain⟨q1,q2,t,q3,q4⟩:=Wx h.gm.ok hl (by omega) hargs.symm hp
    have up:∀{v:Int},InP m.pool v->InP p v:=fun hv=>by rw[q3];exact Am _ hv
    refine⟨2,⟨⟨AC q1 (PQ q2 (up h.gm.s)),Cm _ _,Am _ (up h.gm.e),Am _ (up h.gm.d)⟩,⟨t++[ndP v m.s],by show p++_=_;rw[q3];simp,by simp;omega⟩,?_⟩,by omega,by omega⟩
    exact Pf h.st h.ask h.arg hnx
  split at he
  ·rename_i h6 h8 h7
   exact⟨1,aed h (O9 h.gm.ok hf (.inr (.inr h7))) hl he,by omega,by omega⟩
  ·cases he
theorem Qf {c:Cd}(hc:c.list.length<=400){m m':Mc}(h:RunM c m){k:Nat}(hk:k<=4)(he:CY c m k=.ok m'):∃t,GoesM c m m' t/\t<=24:=by
 unfold CY at he
 split at he
 ·cases he
 rename_i hnx
 split at he
 ·cases he
 ·rename_i l m1 ht
  obtain⟨f1,f2,f3,f4,f5,f6,f7,f8,f9⟩:=J6 h.gm ht
  have g:RunM c m1:=⟨f1,f6.trans h.st,f7.trans h.ask,f8.trans h.arg,by rw[f5];exact h.pl⟩
  have hrev:∀v∈l.reverse,InP m1.pool v:=fun v hv=>f2 v (by simpa using hv)
  obtain⟨a,r,hr⟩:∃a r,l.reverse=a::r:=by
   cases hq:l.reverse with
   |nil=>rw[<-List.length_reverse,hq]at f3;simp at f3
   |cons a r=>exact⟨a,r,rfl⟩
  rw[hr]at he hrev
  have hlen:r.length=k:=by rw[<-List.length_reverse,hr]at f3;simpa using f3
  obtain⟨t,⟨g1,⟨q,g2,g3⟩,g4⟩,_,g5⟩:=Ve hc 3 g (by rw[f5];simpa using hnx) (hrev a (by simp)) (fun v hv=>hrev v (by simpa using .inr hv)) (by simpa using (by omega:r.length<=4)) he
  simp only[List.drop_succ_cons,eR]at g5
  exact⟨t,⟨g1,⟨q,by rw[g2,f4],g3⟩,g4⟩,by omega⟩
theorem Vc {c:Cd}{m m':Mc}(h:RunM c m)(he:Km c m=.ok m'):GoesM c m m' 1:=by
 unfold Km at he
 split at he
 ·cases he
 ·rename_i v m1 ht
  obtain⟨f1,f2,f4,f5,f6,f7,f8,f9⟩:=D4 h.gm ht
  simp only at he
  split at he
  ·cases he
   refine⟨⟨f1.ok,f1.s,f1.e,f1.d⟩,⟨[],by rw[eK];exact f4,by simp⟩,?_⟩
   unfold Oj
   have hv:JS m1.pool v=true:=wi_iff.2 ⟨f2.1,by have:=f2.2;omega⟩
   show(if (2:Int)=0 then _ else if (2:Int)=1 then _ else if (2:Int)=2 then _ else _)=true
   rw[aD (by omega),aD (by omega),aG rfl,hv,f7,h.ask]
   rfl
  ·split at he
   ·cases he
   ·rename_i h1 h5
    have h5:(nod m1.pool m1.d).kind=5:=by simpa using h5
    split at he
    ·rename_i n s e hf
     obtain⟨q1,q2,q3⟩:=Yb f1.ok (O9 f1.ok f1.d (.inl h5)) hf
     cases he
     have g:GM ⟨m1.pool,n,s,e,(nod m1.pool m1.d).b,m1.state,m1.ask,m1.arg⟩:=⟨f1.ok,q2 s (by simp),q2 e (by simp),Qp f1.ok f1.d h5⟩
     exact⟨NF g f2,⟨[_],by rw[<-f4];rfl,cB _⟩,Pf (f6.trans h.st) (f7.trans h.ask) (f8.trans h.arg) q1⟩
    ·cases he
theorem Jo {q p:List Nd}(hq:Ac q=true)(hp:Al p){v:Int}(hv:InP q v)(d:Int):Al (Ce d q v p).1/\InP (Ce d q v p).1 (Ce d q v p).2/\∃t,(Ce d q v p).1=p++t/\t.length<=q.length:=by
 obtain⟨h1,h2⟩:=QU hq hp [v] d
 have hr:Ap q [v]=true:=by
  simp only[Ap,List.all_cons,List.all_nil,bP]
  exact wi_iff.2 ⟨hv.1,by omega⟩
 have hon:=GB hr v (by simp)
 obtain⟨x,hx⟩:=yM (l:=q) (i:=v.toNat) (by omega)
 obtain⟨j,hj,hj2⟩:=h2 v.toNat x hx hon
 refine⟨h1,?_,?_⟩
 ·unfold Ce
  simp only
  rw[aN,hj,dX]
  have:=aQ hj2
  exact⟨by omega,by omega⟩
 ·obtain⟨r,hr⟩:=Wc d q (BG q [v]) q.length [] p
  have hl:=ML d q (BG q [v]) q.length [] p
  refine⟨r,hr,?_⟩
  rw[hr]at hl
  simp only[lnA]at hl
  omega
theorem IL {c:Cd}(hc:Bu c=true){k:Nat}{x:In}(hx:c.list[k]? = some x):NA c x k=true:=by
 unfold Bu at hc
 simp only[aB]at hc
 have key:∀(n i:Nat),Jv c i n=true->∀j,i<=j->j<i+n->∀x,c.list[j]? = some x->NA c x j=true:=by
  intro n
  induction n with
  |zero=>intro i _ j h1 h2;omega
  |succ n ih=>
   intro i h j h1 h2 x hx
   simp only[Jv,aB]at h
   rcases Nat.lt_or_ge i j with hij|hij
   ·exact ih (i+1) h.2 j hij (by omega) x hx
   ·have:j=i:=by omega
    subst this
    have h3:=h.1
    rw[hx]at h3
    exact h3
 exact key c.list.length 0 hc.2.2.2.1 k (Nat.zero_le _) (by have:=aQ hx;omega) x hx
theorem TT {c:Cd}(hc:Bu c=true){k:Nat}{x:Df}(hx:c.defs[k]? = some x):abw c x k=true:=by
 unfold Bu at hc
 simp only[aB]at hc
 have key:∀(n i:Nat),Gf c i n=true->∀j,i<=j->j<i+n->∀x,c.defs[j]? = some x->abw c x j=true:=by
  intro n
  induction n with
  |zero=>intro i _ j h1 h2;omega
  |succ n ih=>
   intro i h j h1 h2 x hx
   simp only[Gf,aB]at h
   rcases Nat.lt_or_ge i j with hij|hij
   ·exact ih (i+1) h.2 j hij (by omega) x hx
   ·have:j=i:=by omega
    subst this
    have h3:=h.1
    rw[hx]at h3
    exact h3
 exact key c.defs.length 0 hc.2.2.2.2 k (Nat.zero_le _) (by have:=aQ hx;omega) x hx
theorem AU {c:Cd}(hc:Bu c=true):Ac c.pool=true/\c.list.length<=400/\c.defs.length<=20:=by
 unfold Bu at hc
 simp only[aB,bL]at hc
 exact⟨hc.1,hc.2.1,hc.2.2.1⟩
theorem MJ {c:Cd}{m:Mc}{r:Except Int Mc}{next:Int}{m':Mc}{k:Nat}(hr:∀m1,r=.ok m1->GM m1/\(∃t,m1.pool=m.pool++t/\t.length<=k)/\m1.state=0/\m1.ask=0/\m1.arg=0)(he:goM c r next=.ok m'):GoesM c m m' k:=by
 unfold goM at he
 split at he
 ·cases he
 ·rename_i m1
  obtain⟨h1,h2,h3,h4,h5⟩:=hr m1 rfl
  split at he
  ·rename_i hp
   cases he
   exact⟨⟨h1.ok,h1.s,h1.e,h1.d⟩,h2,Pf h3 h4 h5 hp⟩
  ·cases he
theorem adF {m m1:Mc}(h:GM m){o i:Int}(he:UQ m o i=.ok m1):GM m1/\(∃t,m1.pool=m.pool++t/\t.length<=1)/\m1.state=m.state/\m1.ask=m.ask/\m1.arg=m.arg:=by
 unfold UQ at he
 split at he
 ·cases he
 ·rename_i fr hfr
  split at he
  ·cases he
  ·rename_i v hv
   cases he
   exact⟨NF h (Sb h.ok _ _ _ (Sb h.ok _ _ _ h.e hfr) hv),⟨[_],rfl,cB _⟩,rfl,rfl,rfl⟩
theorem Tg {c:Cd}{s:ByteArray}(h:0<=EW c s):∃d,c.defs[(EW c s).toNat]? = some d:=by
 have hb:EW c s<(c.defs.length:Int):=by
  unfold EW zm at h⊢
  cases hq:c.defs.findIdx? (fun d:Df=>kJ d.name s) with
  |none=>rw[hq]at h;simp at h
  |some k=>
   rw[List.findIdx?_eq_some_iff_getElem]at hq
   obtain⟨hk,_⟩:=hq
   simp only;omega
 exact yM (by omega)
theorem aa2 {c:Cd}(hc:Bu c=true){m m1:Mc}(h:GM m){s:ByteArray}(he:Kw c m s=.ok m1):GM m1/\(∃t,m1.pool=m.pool++t/\t.length<=3)/\m1.state=m.state/\m1.ask=m.ask/\m1.arg=m.arg:=by
 obtain⟨_,c2,_⟩:=AU hc
 unfold Kw at he
 split at he
 ·rename_i hd
  obtain⟨d,hdg⟩:=Tg hd
  have hok:=TT hc hdg
  unfold abw at hok
  simp only[aB]at hok
  have a1:=wi_iff.1 hok.2.2.1
  have a2:=wi_iff.1 hok.2.2.2
  simp only[aN,hdg,dX,Except.ok.injEq]at he
  subst he
  have o1:=AC h.ok (Z7 (m.pool.length:Int))
  have o2:=AC o1 (adw (k:=8*d.at'+d.args) (a:=(m.pool.length:Int)) (n:=(m.pool++[ndN]).length) (by omega) ⟨by omega,by simp only[lnA,lnC,lnN];omega⟩)
  have g:GM ⟨m.pool++[ndN]++[ndF (8*d.at'+d.args) m.pool.length],m.at',m.s,m.e,m.d,m.state,m.ask,m.arg⟩:=⟨o2,Am _ (Am _ h.s),Am _ (Am _ h.e),Am _ (Am _ h.d)⟩
  refine⟨NF g ⟨by omega,by simp only[lnA,lnC,lnN];omega⟩,⟨_,by show _++_++_++_=_;rw[bD,bD],by simp⟩,rfl,rfl,rfl⟩
 ·split at he
  ·cases he
  ·simp only[Except.ok.injEq]at he
   subst he
   have hb:=NC s
   have o1:=AC h.ok (agc (k:=EO s) (h:=(m.pool.length:Int)) (by omega))
   have g:GM ⟨m.pool++[ndR (EO s)],m.at',m.s,m.e,m.d,m.state,m.ask,m.arg⟩:=⟨o1,Am _ h.s,Am _ h.e,Am _ h.d⟩
   exact⟨NF g (Cm _ _),⟨_,by show _++_++_=_;rw[bD],by simp⟩,rfl,rfl,rfl⟩
theorem Pe {c:Cd}{x:In}{k:Int}(h:NA c x k=true)(h1:x.op=1):InP c.pool x.n:=by
 unfold NA at h
 rw[aG h1]at h
 simp only[aB]at h
 have:=wi_iff.1 h.1
 exact⟨this.1,by omega⟩
theorem aby {c:Cd}{x:In}{k:Int}(h:NA c x k=true)(h1:x.op=2):(0<=x.n/\x.n<=20)/\0<=x.i/\x.i<=3:=by
 unfold NA at h
 rw[aD (by omega),aG h1]at h
 simp only[aB]at h
 exact⟨wi_iff.1 h.1,wi_iff.1 h.2.1⟩
theorem Wu {c:Cd}{x:In}{k:Int}(h:NA c x k=true)(h1:x.op=6):(k+1<=x.n/\x.n<=(c.list.length:Int)-1)/\0<=x.i/\x.i<=4:=by
 unfold NA at h
 rw[aD (by omega),aD (by omega),aD (by omega),aD (by omega),aG h1]at h
 simp only[aB]at h
 exact⟨wi_iff.1 h.1,wi_iff.1 h.2.1⟩
theorem PN {c:Cd}{x:In}{k:Int}(h:NA c x k=true)(h1:x.op=7):0<=x.i/\x.i<=4:=by
 unfold NA at h
 rw[aD (by omega),aD (by omega),aD (by omega),aD (by omega),aD (by omega),aG h1]at h
 simp only[aB]at h
 exact wi_iff.1 h.2.1
theorem abA {c:Cd}(hc:Bu c=true){m m':Mc}(h:RunM c m){x:In}{k:Nat}(hx:c.list[k]? = some x)(he:EH c m x=.ok m'):GoesM c m m' (c.pool.length+3):=by
 have hok:=IL hc hx
 have hk:=aQ hx
 obtain⟨c1,c2,_⟩:=AU hc
 unfold EH at he
 split at he
 ·rename_i h1
  have hlit:=Pe hok h1
  obtain⟨f1,f2,t,f3,f4⟩:=Jo c1 h.gm.ok hlit (-1)
  refine MJ (fun m1 e=>?_) he
  cases e
  have up:∀{v:Int},InP m.pool v->InP (Ce (-1) c.pool x.n m.pool).1 v:=fun hv=>by rw[f3];exact Am _ hv
  have g:GM ⟨(Ce (-1) c.pool x.n m.pool).1,m.at',m.s,m.e,m.d,m.state,m.ask,m.arg⟩:=⟨f1,up h.gm.s,up h.gm.e,up h.gm.d⟩
  refine⟨NF g f2,⟨t++[_],by show(Ce (-1) c.pool x.n m.pool).1++_=_;rw[f3,bD],by simp;omega⟩,h.st,h.ask,h.arg⟩
 split at he
 ·refine MJ (fun m1 e=>?_) he
  obtain⟨g1,⟨t,g2,g3⟩,g4,g5,g6⟩:=adF h.gm e
  exact⟨g1,⟨t,g2,by omega⟩,g4.trans h.st,g5.trans h.ask,g6.trans h.arg⟩
 split at he
 ·refine MJ (fun m1 e=>?_) he
  obtain⟨g1,⟨t,g2,g3⟩,g4,g5,g6⟩:=aa2 hc h.gm e
  exact⟨g1,⟨t,g2,by omega⟩,g4.trans h.st,g5.trans h.ask,g6.trans h.arg⟩
 split at he
 ·refine MJ (fun m1 e=>?_) he
  cases e
  exact⟨h.gm,⟨[],by simp,by simp⟩,h.st,h.ask,h.arg⟩
 split at he
 ·rename_i h6
  have hf:=Wu hok h6
  refine MJ (fun m1 e=>?_) he
  cases e
  have o1:=AC h.gm.ok (adw (k:=8*x.n+x.i) (n:=m.pool.length) (by omega) h.gm.e)
  have g:GM ⟨m.pool++[ndF (8*x.n+x.i) m.e],m.at',m.s,m.e,m.d,m.state,m.ask,m.arg⟩:=⟨o1,Am _ h.gm.s,Am _ h.gm.e,Am _ h.gm.d⟩
  exact⟨NF g (Cm _ _),⟨_,by show _++_++_=_;rw[bD],by simp⟩,h.st,h.ask,h.arg⟩
 ·split at he
  ·cases he
  ·rename_i v m1 ht
   obtain⟨f1,f2,f4,f5,f6,f7,f8,f9⟩:=D4 h.gm ht
   refine MJ (fun m2 e=>?_) he
   cases e
   exact⟨f1,⟨[],by simp[f4],by simp⟩,f6.trans h.st,f7.trans h.ask,f8.trans h.arg⟩
theorem Jw {c:Cd}{m:Mc}(h:CN c m=true)(h0:m.state=0):RunM c m/\Bu c=true/\m.pool.length<=3000:=by
 unfold CN at h
 simp only[aB]at h
 obtain⟨h1,h2,h3,h4,h5,h6⟩:=h
 obtain⟨p1,p2⟩:=okPool_iff.1 h2
 have a3:=wi_iff.1 h3
 have a4:=wi_iff.1 h4
 have a5:=wi_iff.1 h5
 unfold Oj at h6
 rw[aG h0]at h6
 simp only[aB,beq_iff_eq]at h6
 exact⟨⟨⟨p1,⟨a3.1,by omega⟩,⟨a4.1,by omega⟩,⟨a5.1,by omega⟩⟩,h0,h6.2.1,h6.2.2,h6.1⟩,h1,p2⟩
theorem SA {c:Cd}{m:Mc}(h:RunM c m):∃x,c.list[m.at'.toNat]? = some x:=by
 have:=isPl_iff.1 h.pl
 exact yM (by omega)
theorem Vi {c:Cd}(hc:Bu c=true){m m':Mc}(h:RunM c m)(he:doM c m=.ok m'):GoesM c m m' (c.pool.length+34):=by
 obtain⟨x,hx⟩:=SA h
 have hok:=IL hc hx
 obtain⟨c1,c2,_⟩:=AU hc
 unfold doM at he
 simp only[aN,hx,dX]at he
 split at he
 ·rename_i h7
  have:=PN hok h7
  obtain⟨t,⟨g1,⟨q,g2,g3⟩,g4⟩,g5⟩:=Qf c2 h (k:=x.i.toNat) (by omega) he
  exact⟨g1,⟨q,g2,by omega⟩,g4⟩
 split at he
 ·obtain⟨g1,⟨q,g2,g3⟩,g4⟩:=Vc h he
  exact⟨g1,⟨q,g2,by omega⟩,g4⟩
 ·obtain⟨g1,⟨q,g2,g3⟩,g4⟩:=abA hc h hx he
  exact⟨g1,⟨q,g2,by omega⟩,g4⟩
theorem adv {c:Cd}{m:Mc}(hc:Bu c=true)(hp:Al m.pool)(hl:m.pool.length<=3000)(hs:InP m.pool m.s)(he:InP m.pool m.e)(hd:InP m.pool m.d)(ht:Oj c m=true):CN c m=true:=by
 unfold CN
 have h1:Ac m.pool=true:=okPool_iff.2 ⟨hp,hl⟩
 have h2:JS m.pool m.s=true:=wi_iff.2 ⟨hs.1,by omega⟩
 have h3:JS m.pool m.e=true:=wi_iff.2 ⟨he.1,by omega⟩
 have h4:JS m.pool m.d=true:=wi_iff.2 ⟨hd.1,by omega⟩
 rw[hc,h1,h2,h3,h4,ht]
 rfl
theorem Gt {c:Cd}{m:Mc}(h:CN c m=true):Bu c=true/\Al m.pool/\m.pool.length<=3000/\InP m.pool m.s/\InP m.pool m.e/\InP m.pool m.d/\Oj c m=true:=by
 unfold CN at h
 simp only[aB]at h
 obtain⟨h1,h2,h3,h4,h5,h6⟩:=h
 obtain⟨p1,p2⟩:=okPool_iff.1 h2
 have a3:=wi_iff.1 h3
 have a4:=wi_iff.1 h4
 have a5:=wi_iff.1 h5
 exact⟨h1,p1,p2,⟨a3.1,by omega⟩,⟨a4.1,by omega⟩,⟨a5.1,by omega⟩,h6⟩
theorem aa0 {c:Cd}{m:Mc}(h:CN c m=true){k:Int}(hk:1<=k/\k<=7):CN c (RQ m k)=true:=by
 obtain⟨h1,h2,h3,h4,h5,h6,_⟩:=Gt h
 refine adv h1 h2 h3 h4 h5 h6 ?_
 unfold Oj RQ
 simp only
 rw[aD (by omega),aD (by omega),aD (by omega),wi_iff.2 hk]
 rfl
end Go.Eng
/-! a step of a machine: the program's side: calls -/
namespace Go.Eng
open Go.Proofs Go.Proofs.Tryz
set_option maxHeartbeats 4000000

theorem agM {R:Type}(x:Df)(K:ByteArray->Int->Int->Option R):tk1 (eDf x) (fun n4 n7 n10=>(K n4 n7 n10))=K x.name x.at' x.args:=rfl
theorem Kz {α:Type}{f:α->D}{l:List α}{k:Int}(h:(l.length:Int)=k):ni (l.map f).length=k:=by rw[lnM];exact h
theorem Sa {α:Type}{f:α->D}{l:List α}{k:Int}(h:¬(l.length:Int)=k):¬ni (l.map f).length=k:=by rw[lnM];exact h
theorem IV {c:Cd}(hc:c.list.length<=400)(n:Int):V 57 [eCd c,iN n]=some (.bool (Cg c n),[]):=YA (by omega) n
theorem ab0 {c:Cd}(hf:FitsC c)(hc:Bu c=true){m:Mc}(hl:m.pool.length<4294967200)(s:ByteArray):QG c (V 187 [eSt c m,.str s]) (Kw c m s):=by
 have hd:=SF hf s
 have c2:=(AU hc).2.1
 rw[Ot,acG hd]
 unfold Kw
 by_cases h0:0<=EW c s
 ·obtain⟨d,hg⟩:=Tg h0
  have hok:=TT hc hg
  unfold abw at hok
  simp only[aB]at hok
  have a1:=wi_iff.1 hok.2.2.1
  have a2:=wi_iff.1 hok.2.2.2
  have hlt:=aQ hg
  have h1:=KM (p:=m.pool) (by omega) ndN
  have h2:=KM (p:=m.pool++[ndN]) (by simp;omega) (ndF (8*d.at'+d.args) m.pool.length)
  have h3:=Jz (c:=c) (m:=⟨m.pool++[ndN]++[ndF (8*d.at'+d.args) m.pool.length],m.at',m.s,m.e,m.d,m.state,m.ask,m.arg⟩) (by simp;omega) (m.pool.length+1)
  have e1:w6 (w6 (8*d.at')+d.args)=8*d.at'+d.args:=by rw[w64 (n:=8*d.at') (by omega) (by omega),w64 (by omega) (by omega)]
  have e2:((m.pool++[ndN]).length:Int)=m.pool.length+1:=by simp
  rw[e2]at h2
  rw[aG h0,y6 (bE h0),zJ (by rw[lnM];simp only[ni,aB,bL];omega),zj hg,agM]
  simp only[aN,hg,dX]
  show _=_
  rw[Bg h1,e1,Bg h2,Cx h3]
 ·rw[aD h0,yp (bK h0)]
  have hp:=XI s
  have hb:=NC s
  rw[abl hp]
  by_cases hz:EO s=0
  ·rw[aG hz,y6 (zU hz)]
   exact⟨by decide,m,rfl⟩
  ·have h1:=KM (p:=m.pool) (by omega) (ndR (EO s))
   have h3:=Jz (c:=c) (m:=⟨m.pool++[ndR (EO s)],m.at',m.s,m.e,m.d,m.state,m.ask,m.arg⟩) (by simp;omega) m.pool.length
   rw[aD hz,yp (zT hz),Bg h1,Cx h3]
   rfl
theorem ac1 {c:Cd}(hc:c.list.length<=400){m:Mc}(hl:m.pool.length<4294967200)(ha:Cg c m.at'=true){f:Nd}(hf:0<=f.n/\f.n<=1000000000){l:List Int}(_:l.length<=10):QG c (V 204 [eSt c m,eN f,.rs (1,0) (l.map eI)]) (GZ c m f l):=by
 have hpl:=isPl_iff.1 ha
 have t1:Int.tmod f.n 8=f.n % 8:=Int.tmod_eq_emod_of_nonneg hf.1
 have t2:Int.tdiv f.n 8=f.n / 8:=Int.tdiv_eq_ediv_of_nonneg hf.1
 rw[Qb,zJ (by decide),t1,t2]
 unfold GZ
 by_cases h1:f.n % 8=(l.length:Int)
 ·rw[aD (by omega),yp (zW (by rw[Kz rfl];exact h1)),zJ (by decide),w64 (n:=f.n / 8) (by omega) (by omega),Bq (IV hc _)]
  cases h2:Cg c (f.n / 8) with
  |false=>rw[aG rfl];exact⟨by decide,m,rfl⟩
  |true=>
   rw[aD (by simp),aO,y0,w64 (n:=m.at'+1) (by omega) (by omega)]
   have a1:=KM (p:=m.pool) (by omega) (ndI (m.at'+1))
   have l1:=FE (m.pool++[ndI (m.at'+1)]) [(m.pool.length:Int),m.s,m.e]
   simp only[lnA,lnC,lnN]at l1
   have a2:V 222 [rP (m.pool++[ndI (m.at'+1)]),.rs (1,0) [iN (m.pool.length:Int),iN m.s,iN m.e]]=_:=aal (q:=m.pool++[ndI (m.at'+1)]) (row:=[(m.pool.length:Int),m.s,m.e]) (by simp only[lnA,lnC,lnN];omega)
   have a3:=aan (q:=(Af (m.pool++[ndI (m.at'+1)]) [(m.pool.length:Int),m.s,m.e]).1) (by omega) (Af (m.pool++[ndI (m.at'+1)]) [(m.pool.length:Int),m.s,m.e]).2 m.d
   rw[Bg a1,JU a2,JV a3]
   generalize hB:Af (m.pool++[ndI (m.at'+1)]) [(m.pool.length:Int),m.s,m.e]=B at l1⊢
   have l2:=FE (B.1++[ndP B.2 m.d]) l
   simp only[lnA,lnC,lnN]at l2
   have a4:=aal (q:=B.1++[ndP B.2 m.d]) (row:=l) (by simp only[lnA,lnC,lnN];omega)
   have a5:=aan (q:=(Af (B.1++[ndP B.2 m.d]) l).1) (by omega) (Af (B.1++[ndP B.2 m.d]) l).2 f.a
   have a6:=KM (p:=(Af (B.1++[ndP B.2 m.d]) l).1++[ndP (Af (B.1++[ndP B.2 m.d]) l).2 f.a]) (by simp only[lnA,lnC,lnN];omega) ndN
   have e6:(((Af (B.1++[ndP B.2 m.d]) l).1++[ndP (Af (B.1++[ndP B.2 m.d]) l).2 f.a]).length:Int)=(Af (B.1++[ndP B.2 m.d]) l).1.length+1:=by simp
   rw[e6]at a6
   rw[JU a4,JV a5,Bg a6,zJ (by decide)]
   rfl
 ·rw[aG h1,y6 (zX (by rw[Kz rfl];exact h1))]
  exact⟨by decide,m,rfl⟩
theorem VJ {c:Cd}{p:List Nd}{v:Int}{many:Nat}{xs:List Int}{b:Bool}(h:Cw p v=(xs,b))(hm:0<many):Ie c p v many=if b=true/\xs.length=many/\(nod p (xs.getD 0 0)).kind=3/\Cg c (nod p (xs.getD 0 0)).n=true then some ((nod p (xs.getD 0 0)).n,xs.drop 1) else none:=by
 unfold Ie
 rw[h]
 cases b with
 |false=>rw[if_neg (fun h=>by simp at h)];cases xs<;>rfl
 |true=>
  cases xs with
  |nil=>rw[if_neg (fun h=>by have:=h.2.1;simp at this;omega)]
  |cons a r=>
   simp only[lnC,dc,true_and,List.drop_one,List.tail_cons]
theorem ab1 {c:Cd}(hc:c.list.length<=400){m:Mc}(hp:Al m.pool)(hl:m.pool.length<2147483648){st:Int}(hs:InP m.pool st){l:List Int}(hll:l.length<=10):QG c (V 206 [eSt c m,iN st,.rs (1,0) (l.map eI)]) (Sr c m st l):=by
 have hlst:=abT hp hl hs
 have hin:=Lz hp hs
 rw[Ou]
 unfold Sr
 by_cases h1:l.length=1
 ·rw[aD (by omega),yp (zW (Kz (by omega))),Pa hlst]
  obtain⟨v,rfl⟩:∃v,l=[v]:=by
   match l,h1 with
   |[v],_=>exact⟨v,rfl⟩
   |[],h=>simp at h
   |_::_::_,h=>simp at h
  rcases hq:Cw m.pool st with ⟨xs,b⟩
  have hfr:=VJ (c:=c) hq (many:=4) (by omega)
  rw[hq]at hin
  have none:∀{X:Option Ret},¬(b=true/\xs.length=4/\(nod m.pool (xs.getD 0 0)).kind=3/\Cg c (nod m.pool (xs.getD 0 0)).n=true)->X=some (iN 7,[eSt c m])->QG c X (match Ie c m.pool st 4 with
    |some (n,[s,e,d])=>.ok (Jx ⟨m.pool,n,s,e,d,m.state,m.ask,m.arg⟩ ([v].getD 0 0))
    |_=>.error 7):=by
   intro X hn hX
   rw[hfr,aD hn]
   exact⟨by decide,m,hX⟩
  cases b with
  |false=>exact none (fun h=>by simp at h) rfl
  |true=>
   rw[aO,y0]
   by_cases h4:xs.length=4
   ·obtain⟨a,s,e,d,rfl⟩:∃a s e d,xs=[a,s,e,d]:=by
     match xs,h4 with
     |[a,s,e,d],_=>exact⟨a,s,e,d,rfl⟩
     |[],h=>simp at h
     |[_],h=>simp at h
     |[_,_],h=>simp at h
     |[_,_,_],h=>simp at h
     |_::_::_::_::_::_,h=>simp at h
    have ha:=hin a (by simp)
    rw[yp (zW (Kz (k:=4) rfl)),BU,Od ha]
    by_cases h3:(nod m.pool a).kind=3
    ·rw[yp (zW h3),BU,adH ha,Bq (IV hc _)]
     cases h5:Cg c (nod m.pool a).n with
     |false=>exact none (fun h=>by have:=h.2.2.2;simp only[dc,h5]at this;cases this) rfl
     |true=>
      have a3:=Jz (c:=c) (m:=⟨m.pool,(nod m.pool a).n,s,e,d,m.state,m.ask,m.arg⟩) (by show m.pool.length<_;omega) v
      rw[hfr,aG ⟨rfl,rfl,h3,h5⟩,aO,y0,BU,adH ha,Ig,ZQ,agP,BU,Cx a3]
      rfl
    ·rw[y6 (zX h3)]
     exact none (fun h=>h3 h.2.2.1) rfl
   ·rw[y6 (zX (Sa (l:=xs) (k:=4) (fun h=>h4 (by omega))))]
    exact none (fun h=>h4 h.2.1) rfl
 ·rw[aG h1,y6 (zX (Sa (l:=l) (k:=1) (fun h=>h1 (by omega))))]
  exact⟨by decide,m,rfl⟩
theorem Jb {c:Cd}{X:Option Ret}{m:Mc}(h:QG c X (.ok m)):X=some (iN 0,[eSt c m]):=h
theorem Gg {c:Cd}{X:Option Ret}{h:Int}(e:QG c X (.error h)):h≠0/\∃m',X=some (iN h,[eSt c m']):=e
theorem YF {c:Cd}(hc:c.list.length<=400):∀(k:Nat){m:Mc}{f:Int}{l:List Int},RunM c m->Cg c (m.at'+1)=true->m.pool.length+100*k<2147483600->InP m.pool f->(∀v∈l,InP m.pool v)->l.length<=4->((nod m.pool f).n=11->l.length=2->Ac m.pool=true)->Fh c k m f l≠.error 0 ->
  QG c (V 184 [eSt c m,iN f,.rs (1,0) (l.map eI)]) (Fh c k m f l)
 |0,m,f,l,h,hnx,hl,hf,hv,h4,h11,h0=>absurd rfl h0
 |k+1,m,f,l,h,hnx,hl,hf,hv,h4,h11,h0=>by
  have hok:=JE h.gm.ok hf
  have hpl:=isPl_iff.1 h.pl
  rw[QO,FP hf]
  unfold Fh at h0⊢
  simp only at h0⊢
  by_cases h6:(nod m.pool f).kind=6
  ·rw[aG h6,y6 (zU h6)]
   have hfn:0<=(nod m.pool f).n/\(nod m.pool f).n<=1000000000:=by
    simp[okN,h6]at hok
    exact wi_iff.1 hok.1
   have he:=ac1 hc (m:=m) (by omega) h.pl (f:=nod m.pool f) hfn (l:=l) (by omega)
   cases hr:GZ c m (nod m.pool f) l with
   |ok m'=>rw[hr]at he;rw[MR (Jb he)];rfl
   |error q=>
    rw[hr]at he
    obtain⟨q0,m',hx⟩:=Gg he
    rw[MR hx]
    exact⟨q0,m',rfl⟩
  rw[aD h6]at h0⊢
  rw[yp (zT h6)]
  by_cases h8:(nod m.pool f).kind=8
  ·rw[aG h8]at h0⊢
   rw[y6 (zU h8)]
   -- what is built in
   have prim:QG c (V 205 [eSt c m,iN (nod m.pool f).n,.rs (1,0) (l.map eI)]) (if Av (nod m.pool f).n≠(l.length:Int) then .error 2
     else if (nod m.pool f).n=18 then
      Fh c k ⟨(Af (m.pool++[ndI (m.at'+1)]) [(m.pool.length:Int),m.s,m.e,m.d]).1++[ndK (Af (m.pool++[ndI (m.at'+1)]) [(m.pool.length:Int),m.s,m.e,m.d]).2],m.at',m.s,m.e,m.d,m.state,m.ask,m.arg⟩ (l.getD 0 0) [((Af (m.pool++[ndI (m.at'+1)]) [(m.pool.length:Int),m.s,m.e,m.d]).1.length:Int)]
     else if (nod m.pool f).n>12 then
      .ok ⟨(Af m.pool l).1,m.at',m.s,m.e,m.d,1,(nod m.pool f).n,(Af m.pool l).2⟩
     else match Iy m.pool (nod m.pool f).n l with
      |.error h=>.error (h+1)
      |.ok (p,v)=>.ok ⟨p++[ndP v m.s],m.at'+1,p.length,m.e,m.d,m.state,m.ask,m.arg⟩):=by
    rw[MF,Xz UL]
    by_cases hargs:Av (nod m.pool f).n=(l.length:Int)
    ·have hargs':¬Av (nod m.pool f).n≠(l.length:Int):=fun h=>h hargs
     obtain⟨n1,n19,l2⟩:=Ft hargs
     rw[aD hargs']at h0⊢
     rw[yp (zW (by rw[Kz rfl];exact hargs))]
     by_cases h18:(nod m.pool f).n=18
     ·rw[aG h18]at h0⊢
      rw[y6 (zU h18),w64 (n:=m.at'+1) (by omega) (by omega)]
      obtain⟨v,rfl⟩:∃v,l=[v]:=by
       rw[h18]at hargs
       match l,hargs with
       |[v],_=>exact⟨v,rfl⟩
       |[],h=>cases h
       |_::_::r,h=>simp only[lnC]at h;have:Av 18=1:=rfl;omega
      have a1:=KM (p:=m.pool) (by omega) (ndI (m.at'+1))
      have l1:=FE (m.pool++[ndI (m.at'+1)]) [(m.pool.length:Int),m.s,m.e,m.d]
      simp only[lnA,lnC,lnN]at l1
      have a2:V 222 [rP (m.pool++[ndI (m.at'+1)]),.rs (1,0) [iN (m.pool.length:Int),iN m.s,iN m.e,iN m.d]]=_:=aal (q:=m.pool++[ndI (m.at'+1)]) (row:=[(m.pool.length:Int),m.s,m.e,m.d]) (by simp only[lnA,lnC,lnN];omega)
      have o1:Al (m.pool++[ndI (m.at'+1)]):=AC h.gm.ok (Sk (by omega))
      obtain⟨b1,⟨t,b2,b3⟩,b4⟩:=Fj (row:=[(m.pool.length:Int),m.s,m.e,m.d]) o1 (fun v hv=>by
       simp only[bN,dY,or_false]at hv
       rcases hv with rfl|rfl|rfl|rfl
       ·exact Cm _ _
       ·exact Am _ h.gm.s
       ·exact Am _ h.gm.e
       ·exact Am _ h.gm.d)
      have e1:(Af (m.pool++[ndI (m.at'+1)]) [(m.pool.length:Int),m.s,m.e,m.d]).1=m.pool++(ndI (m.at'+1)::t):=by rw[b2];simp
      have up:∀{v:Int},InP m.pool v->InP ((Af (m.pool++[ndI (m.at'+1)]) [(m.pool.length:Int),m.s,m.e,m.d]).1++[ndK ((Af (m.pool++[ndI (m.at'+1)]) [(m.pool.length:Int),m.s,m.e,m.d]).2:Int)]) v:=fun hv=>Am _ (by rw[e1];exact Am _ hv)
      have g2:RunM c ⟨(Af (m.pool++[ndI (m.at'+1)]) [(m.pool.length:Int),m.s,m.e,m.d]).1++[ndK ((Af (m.pool++[ndI (m.at'+1)]) [(m.pool.length:Int),m.s,m.e,m.d]).2:Int)],m.at',m.s,m.e,m.d,m.state,m.ask,m.arg⟩:=
       ⟨⟨AC b1 (U5 b4),up h.gm.s,up h.gm.e,up h.gm.d⟩,h.st,h.ask,h.arg,h.pl⟩
      rw[Bg a1,JU a2]
      generalize hB:Af (m.pool++[ndI (m.at'+1)]) [(m.pool.length:Int),m.s,m.e,m.d]=B at l1 b1 b2 b4 e1 up g2 h0⊢
      have a3:=KM (p:=B.1) (by omega) (ndK (B.2:Int))
      have a4:=YF hc k g2 hnx (by show(B.1++[ndK (B.2:Int)]).length+100*k<_;simp only[lnA,lnC,lnN];omega) (up (hv v (by simp))) (l:=[(B.1.length:Int)]) (fun u hu=>by
       simp only[List.mem_singleton]at hu;subst hu;exact Cm _ _) (by simp) (fun _ h=>by simp at h) h0
      rw[Bg a3,BU]
      simp only[dc]at a4⊢
      simp only[bR,eL]at a4
      cases hr:Fh c k ⟨B.1++[ndK (B.2:Int)],m.at',m.s,m.e,m.d,m.state,m.ask,m.arg⟩ v [(B.1.length:Int)] with
      |ok m'=>rw[hr]at a4;rw[Gp (Jb a4)];rfl
      |error q=>
       rw[hr]at a4
       obtain⟨q0,m',hx⟩:=Gg a4
       rw[Gp hx]
       exact⟨q0,m',rfl⟩
     rw[aD h18]at h0⊢
     rw[yp (zT h18)]
     by_cases h12:(nod m.pool f).n>12
     ·rw[aG h12,y6 (bE h12)]
      have a1:=aal (q:=m.pool) (row:=l) (by omega)
      rw[JU a1]
      rfl
     rw[aD h12,yp (bK h12)]
     have hp:=abP h.gm.ok (by omega) (n:=(nod m.pool f).n) hv (by omega) hargs.symm (fun e=>h11 e (by
      rw[e]at hargs
      have:Av 11=2:=rfl
      omega))
     cases hr:Iy m.pool (nod m.pool f).n l with
     |error q=>
      rw[hr]at hp
      rw[Sc hp]
      have hq:q=3\/q=4:=by
       rw[MW (by omega) hargs.symm]at hr
       split at hr
       ·split at hr
        ·cases hr
        ·split at hr
         ·cases hr
         ·split at hr
          ·cases hr
          ·cases hr;exact .inr rfl
       ·cases hr;exact .inl rfl
      rcases hq with rfl|rfl
      ·exact⟨by decide,m,rfl⟩
      ·exact⟨by decide,m,rfl⟩
     |ok r=>
      obtain⟨p,v⟩:=r
      rw[hr]at hp
      obtain⟨q1,q2,t,q3,q4⟩:=Wx h.gm.ok hv (by omega) hargs.symm hr
      have hpl':p.length<4294967296:=by rw[q3];simp only[lnA];omega
      have a3:=Jz (c:=c) (m:=⟨p,m.at',m.s,m.e,m.d,m.state,m.ask,m.arg⟩) hpl' v
      rw[Sc hp,yp (zT (by omega)),yp (zT (by omega)),Cx a3]
      show some (iN 0,[D.op [_,iN (w6 (m.at'+1)),_,_,_,_,_,_,_,_,_]])=_
      rw[w64 (by omega) (by omega)]
      rfl
    ·rw[aG hargs,y6 (zX (by rw[Kz rfl];exact hargs))]
     exact⟨by decide,m,rfl⟩
   revert prim h0
   generalize (if Av (nod m.pool f).n≠(l.length:Int) then (.error 2:Except Int Mc) else _)=r
   intro h0 prim
   cases r with
   |ok m'=>rw[Ju (Jb prim)];rfl
   |error q=>
    obtain⟨q0,m',hx⟩:=Gg prim
    rw[Ju hx]
    exact⟨q0,m',rfl⟩
  rw[aD h8,yp (zT h8)]
  by_cases h7:(nod m.pool f).kind=7
  ·rw[aG h7,y6 (zU h7)]
   have he:=ab1 hc h.gm.ok (by omega) (O9 h.gm.ok hf (.inr (.inr h7))) (l:=l) (by omega)
   cases hr:Sr c m (nod m.pool f).a l with
   |ok m'=>rw[hr]at he;rw[LH (Jb he)];rfl
   |error q=>
    rw[hr]at he
    obtain⟨q0,m',hx⟩:=Gg he
    rw[LH hx]
    exact⟨q0,m',rfl⟩
  ·rw[aD h7,yp (zT h7)]
   exact⟨by decide,m,rfl⟩
end Go.Eng
