/- Parts. -/
import Derived.Test.YtfhdodehnpbeoaaGreatSB
set_option linter.all false
set_option maxHeartbeats 4000000
set_option maxRecDepth 16000
namespace Go.Proofs.YtfhdodehnpbeoaaGreat
open Go.Abs Tryz
open List hiding max
theorem adt{A B:Type}(f:A->List B)(F:B->Int)(L:List A):tot (L.flatMap f) F=tot L (λa=>tot (f a) F):=by
 induction L with
 |nil=>rfl
 |cons x r ih=>rw[flatMap_cons,FF,ih];rfl
def V9{s:af}(h:M3 s):M3 { s with aZ:=[] }:=
 ⟨⟨⟨h.right.HT,h.right.ak,h.right.book,h.right.bp,h.right.ps,h.right.calls,h.right.known,by simp,(λb a=>by cases a),h.right.aR⟩,h.fY.last,h.fY.fit⟩,h.sm⟩
def ZG{b:aJ}{g:List aE}{w n:Int}(hw:1<=w/\w<=16)(hn:1<=n/\n<=8):posOf w n (AG b g 16)=⟨w,n,CP b g w n,Mp b g w n⟩:=by
 by_cases h:CP b g w n=0/\Mp b g w n=0
 ·rw[iW,h.1,h.2];intro p d c;obtain⟨k,m,_,_,d⟩:=uG d;obtain⟨rfl,a⟩:=qV d;dsimp only at c;rw[c.1,c.2]at a;exact a h
 ·have e:(⟨w,n,CP b g w n,Mp b g w n⟩:aE)∈AG b g 16:=by
   refine mem_flatMap.2 ⟨(w-1).toNat,mem_range.2 aj,mem_flatMap.2 ⟨(n-1).toNat,mem_range.2 aj,?_⟩⟩;rw[show(((w-1).toNat:Nat):Int)+1=w by omega,show(((n-1).toNat:Nat):Int)+1=n by omega];unfold ID;rw[aq (by simp only[cU,fE];exact h)];simp
  exact tY (FZ b g) e ⟨rfl,rfl⟩
def aby{l:List Int}{j i:Nat}(a:j<l.length)(v:Int):(l.set j v).getD i 0=if i=j then v else l.getD i 0:=by
 rw[getD_eq_getElem?_getD,getD_eq_getElem?_getD,getElem?_set];by_cases h:i=j
 ·rw[au h,au h.symm,au a];rfl
 ·rw[aq h,aq (λe=>h e.symm)]
def YZ{l:List Bool}{j i:Nat}(a:j<l.length):(l.set j true).getD i true=if i=j then true else l.getD i true:=by
 rw[getD_eq_getElem?_getD,getD_eq_getElem?_getD,getElem?_set];by_cases h:i=j
 ·rw[au h,au h.symm,au a];rfl
 ·rw[aq h,aq (λe=>h e.symm)]
theorem SR(rs:List Int):∀(n:Nat)(gs:List Bool)(ps:List Int)(i:Nat),gs.length=rs.length->ps.length=rs.length->gs.count true+n<=gs.length->(o9 rs n gs ps).getD i 0<=ps.getD i 0+if gs.getD i true=true then 0 else 1
 | 0,gs,ps,i,_,_,_=>by
  simp only[o9];split<;>omega
 |n+1,gs,ps,i,h1,h2,h3=>by
  have a:=IK (gs:=gs) aj;rw[h1]at a;have d:=IF rs gs rs.length a;have hr:=u0 rs gs rs.length;have c:=AL rs gs rs.length d;simp only[o9];have b:=SR rs n (gs.set (jD rs gs rs.length).toNat true) (ps.set (jD rs gs rs.length).toNat (ps.getD (jD rs gs rs.length).toNat 0+1)) i (by simp[h1]) (by simp[h2]) (by rw[count_set c,length_set];omega);rw[aby aj,YZ aj]at b;by_cases e:i=(jD rs gs rs.length).toNat
  ·rw[au e,au e,au rfl]at b;rw[e,c,aq (by decide),<-e];rw[<-e]at b;omega
  ·rwa[aq e,aq e]at b
def adf{t:Int}{ws:List Int}(h:jt t ws=0)(m:∀x∈ws,0<x)(ht:t<=aC ws)(e:aC ws≠0)(i:Nat):(cy t ws).getD i 0<=ws.getD i 0:=by
 obtain⟨k,f⟩:=Pq h;have hn:=qA f;have hl:=vA k rfl (show 1<=aC ws by omega) f;have a:(pW t (aC ws) ws).length=(vU t (aC ws) ws).length:=by simp[pW,vU]
 have b:(vU t (aC ws) ws).length=ws.length:=by simp[vU]
 have j:=SR (vU t (aC ws) ws) (t-aC (pW t (aC ws) ws)).toNat (replicate ws.length false) (pW t (aC ws) ws) i (by simp[b]) a (by simp[count_replicate];omega);have c:cy t ws=o9 (vU t (aC ws) ws) (t-aC (pW t (aC ws) ws)).toNat (replicate ws.length false) (pW t (aC ws) ws):=by unfold cy;rw[au h,aq e]
 by_cases g:t=aC ws
 ·have l:pW t (aC ws) ws=ws:=by
   unfold pW;rw[g];refine(map_congr_left λx _=>?_).trans (map_id ws);rw[Int.mul_ediv_cancel_left _ e];rfl
  rw[c,l,g];simp[o9]
 rcases dN i ws.length with hi|hi
 ·have n:=m ws[i] (dH hi);have d:(pW t (aC ws) ws).getD i 0=t*ws[i]/aC ws:=by
   rw[getD_eq_getElem?_getD,gF (by rw[a,b];exact hi)];simp[pW]
  have e2:ws.getD i 0=ws[i]:=by rw[getD_eq_getElem?_getD,gF hi];rfl
  have e3:t*ws[i]/aC ws<ws[i]:=by
   refine Int.ediv_lt_of_lt_mul aj ?_;rw[Int.mul_comm ws[i]];exact Int.mul_lt_mul_of_pos_right aj n
  rw[c,e2];rw[d]at j;split at j<;>omega
 ·have d:(cy t ws).getD i 0=0:=by
   rw[getD_eq_getElem?_getD,getElem?_eq_none];rfl;rw[c,Gj,a,b];exact hi
  have e2:ws.getD i 0=0:=by rw[getD_eq_getElem?_getD,getElem?_eq_none hi];rfl
  omega
def FB(v:Int)(x:dX):Int:=if x.src=v then x.aQ else 0
theorem abr{w n m v p:Int}{long:Bool}(g:v≠w):∀{f:List dX},(∀x∈f,x.aS=p)->aC (pick (cZ v m) aE.aQ (f.flatMap (vl w n long)))=(if m=n then xG long (tot f (FB v))else 0)/\aC (pick (cZ v m) aE.cost (f.flatMap (vl w n long)))=(if m=n then xG long (tot f (FB v))else 0)*p
 | [],_=>by
  have:xG long 0=0:=by unfold xG;split<;>rfl
  simp[pick,aC,tot,this]
 |x::r,h=>by
  obtain⟨o,q⟩:=abr (w:=w) (n:=n) (m:=m) (v:=v) (p:=p) (long:=long) g (f:=r) λy k=>h y (by simp[k]);have j:=h x sT;rw[flatMap_cons,show vl w n long x=[⟨x.src,n,xG long x.aQ,xG long (x.aQ*x.aS)⟩,⟨w,n,-xG long x.aQ,-xG long (x.aQ*x.aS)⟩]from rfl];rw[cons_append,cons_append,nil_append,nJ,nJ,nJ,nJ,o,q,iU];rw[j];have e:∀a b:Int,xG long (a+b)=xG long a+xG long b:=λa b=>by unfold xG;split<;>omega
  have l:xG long 0=0:=by unfold xG;split<;>rfl
  have i:xG long (x.aQ*p)=xG long x.aQ*p:=by
   unfold xG;split
   ·rfl
   ·rw[Int.neg_mul]
  have c1:(w=v/\n=m)=False:=eq_false λh=>g h.1.symm;simp only[mq,c1,if_false,FB,i];by_cases c:m=n
  ·by_cases e2:x.src=v
   ·have d:(x.src=v/\n=m)=True:=eq_true ⟨e2,c.symm⟩;simp only[d,if_true,au c,au e2,e,Int.add_mul];exact⟨by omega,by omega⟩
   ·have d:(x.src=v/\n=m)=False:=eq_false λh=>e2 h.1;simp only[d,if_false,au c,aq e2,e,l,Int.add_mul,Int.zero_mul];exact⟨by omega,by omega⟩
  ·have d:(x.src=v/\n=m)=False:=eq_false λh=>c h.2.symm;simp only[d,if_false,aq c,Int.zero_mul];exact⟨by omega,by omega⟩
def aam{b:aJ}{w n v:Int}(N:b.okB=true)(W:(posOf w n b.qs).aQ≠0)(E:j4 b w n (max (posOf w n b.qs).aQ (-(posOf w n b.qs).aQ))=0) :
  tot (kG b w n (max (posOf w n b.qs).aQ (-(posOf w n b.qs).aQ))) (FB v)=0\/∃x∈b.qs,sP (posOf w n b.qs).aQ n x=true/\x.who=v/\0<=tot (kG b w n (max (posOf w n b.qs).aQ (-(posOf w n b.qs).aQ))) (FB v)/\tot (kG b w n (max (posOf w n b.qs).aQ (-(posOf w n b.qs).aQ))) (FB v)<=max x.aQ (-x.aQ):=by
 obtain⟨-,t2,t3⟩:=UW E;have s:=dY.1 N;have o:kG b w n (max (posOf w n b.qs).aQ (-(posOf w n b.qs).aQ))=Df (uv (posOf w n b.qs).aQ n b.qs) (cy (max (posOf w n b.qs).aQ (-(posOf w n b.qs).aQ)) (kk (posOf w n b.qs).aQ n b.qs)):=by unfold kG;rw[au E]
 rw[o];clear o E;obtain⟨q,J⟩:=aL ((posOf w n b.qs).aQ);rw[<-J]at W t2 t3 |-;obtain⟨L,o⟩:=aL (b.qs.filter (sP q n));have P:uv q n b.qs=L.map aE.who:=by rw[uv,mJ,o]
 have K:kk q n b.qs=L.map λp=>max p.aQ (-p.aQ):=by rw[kk,mJ,o]
 have m:∀x∈L,x∈b.qs/\sP q n x=true:=λx f=>by rw[o]at f;exact mem_filter.1 f
 have t:L.Pairwise λx y=>x.who<y.who:=by
  rw[o];refine(s.pw.filter _).imp_of_mem λ{x y} f D hxy=>?_;have B:=yw.1 (mem_filter.1 f).2;have Q:=yw.1 (mem_filter.1 D).2;rw[sS]at hxy;omega
 rw[K]at t3;rw[P,K];obtain⟨ns,g⟩:=aL (L.map λp:aE=>max p.aQ (-p.aQ));rw[<-g]at t3 |-
 have k:∀x∈ns,0<x/\x<=1099511627776:=λx f=>by
  rw[g]at f;obtain⟨y,D,rfl⟩:=mem_map.1 f;have B:=yw.1 (m y D).2;have Q:=jG.1 (s.ok y (m y D).1);omega
 have hnl:ns.length<=128:=by
  rw[g,qO,o];exact Nat.le_trans (length_filter_le _ _) (vg N)
 have hk:0<max q (-q):=aj
 have A:jt (max q (-q)) ns=0:=by
  unfold jt;rw[au,au,aq aj,aq aj]
  ·exact cg.2 λx f=>by have:=k x f;simp only[iN,gP];omega
  ·simp only[cU,iN,gP];refine⟨⟨by omega,by rw[bf];omega⟩,cg.2 λx f=>by have:=k x f;rw[bf];omega⟩
 have u:=adf A (λx f=>(k x f).1) t3 aj;obtain⟨-,H⟩:=DY A aj;have r:=oE (max q (-q)) ns;obtain⟨ps,I⟩:=aL (cy (max q (-q)) ns);rw[<-I]at u H r |-
 have S:∀i,tot (pZ (L.map aE.who) ps i) (FB v)=if(L.map aE.who).getD i 0=v then max (ps.getD i 0) 0 else 0:=λi=>by
  unfold pZ;by_cases M:0<ps.getD i 0
  ·rw[au M];simp only[tot,map_cons,map_nil,aC,FB];split<;>omega
  ·rw[aq M];simp only[tot,map_nil,aC];split<;>omega
 have T:tot (Df (L.map aE.who) ps) (FB v)=tot (range ps.length) λi=>if(L.map aE.who).getD i 0=v then max (ps.getD i 0) 0 else 0:=by
  unfold Df n6;rw[adt];exact iX λi _=>S i
 rw[T];by_cases f:∃i,i<ps.length/\(L.map aE.who).getD i 0=v
 case neg =>
  refine .inl (lH λi G=>?_);rw[aq];exact λe=>f ⟨i,mem_range.1 G,e⟩
 obtain⟨i,G,C⟩:=f;have d:i<L.length:=by rw[g,qO]at r;omega
 have l:∀j,j<L.length->∀h:j<L.length,(L.map aE.who).getD j 0=L[j].who:=λj V h=>by
  rw[getD_eq_getElem?_getD,gF (by rw[qO];exact V)];simp
 have z:=Cw (L:=range ps.length) (R:=λa c=>a<c) pairwise_lt_range (x:=i) (mem_range.2 G) (F:=λi=>if(L.map aE.who).getD i 0=v then max (ps.getD i 0) 0 else 0) (λa U=>by
  rw[aq];intro e;rcases dN a L.length with hal|hal
  ·rw[l a hal hal]at e;rw[l i d d]at C;rcases U with h|h
   ·have:=Ay.1 t a i hal d h;omega
   ·have:=Ay.1 t i a d hal h;omega
  ·rw[getD_eq_getElem?_getD,getElem?_eq_none (by rw[qO];exact hal)]at e;have B:=jG.1 (s.ok _ (m _ (dH d)).1);rw[l i d d]at C;have e:(0:Int)=v:=e
   omega)
 rw[z,au C];have O:=m _ (dH d);have B:=u i;have e2:ns.getD i 0=max L[i].aQ (-L[i].aQ):=by
  rw[g,getD_eq_getElem?_getD,gF (by rw[qO];exact d)];simp
 rw[e2]at B;refine .inr ⟨L[i],O.1,O.2,by rw[<-l i d d];exact C,by omega,by omega⟩
def QJ(P Q:aE)(p:Int):Prop:=Q.cost-P.cost=(Q.aQ-P.aQ)*p/\max Q.aQ (-Q.aQ)<=max P.aQ (-P.aQ)/\¬(0<P.aQ/\Q.aQ<0)/\¬(P.aQ<0/\0<Q.aQ)
def V4(P:aE)(p:Int):QJ P P p:=⟨by rw[Int.sub_self,Int.sub_self,Int.zero_mul],by omega,by omega,by omega⟩
def QZ{s:af}{w n:Int}{b:aJ}(g:s.aZ=[])(hn:1<=n/\n<=8)(D:b.okB=true)(a:(jA s w b n).2=0){v m:Int}(J:(1<=v/\v<=16)/\v≠w)(R:1<=m/\m<=8) :
  if m=n then QJ (posOf v m b.qs) (posOf v m (jA s w b n).1.qs) (bC (aU s.ak m))else posOf v m (jA s w b n).1.qs=posOf v m b.qs:=by
 unfold jA at a |-
 by_cases o:((posOf w n b.qs).aQ==0)=true
 ·rw[au o];split
  ·exact V4 _ _
  ·rfl
 rw[aq o]at a |-;have o:(posOf w n b.qs).aQ≠0:=su o;unfold nB at a |-
 by_cases u:eG (aU s.ak n)=true
 case neg=>rw[aq u]at a;cases a
 rw[au u]at a |-;have O:gQ s w n s.aZ=[]:=by rw[g];rfl
 rw[O]at a |-
 by_cases r:mD (posOf w n b.qs).aQ []=0
 case neg=>rw[aq r]at a;exact absurd a r
 rw[au r]at a |-;have N:jz (posOf w n b.qs).aQ []=([],max (posOf w n b.qs).aQ (-(posOf w n b.qs).aQ)):=by unfold jz;rw[au r];rfl
 rw[N]at a |-;dsimp only at a |-;have z:mO b w n (decide (0<(posOf w n b.qs).aQ)) []=(qW b [],kR b []):=rfl;have j:kR b []=0:=by
  by_cases f:kR b []=0
  ·exact f
  ·rw[aq (λh=>f (by rw[z]at h;exact h.1)),z]at a;exact a
 have M:qW b []=b:=by
  rw[(qX j).2,W6 D]
 rw[z,M,j]at a |-;dsimp only at a |-;have E:max (posOf w n b.qs).aQ (-(posOf w n b.qs).aQ)≠0:=aj
 rw[au (show(0:Int)=0/\max (posOf w n b.qs).aQ (-(posOf w n b.qs).aQ)≠0 from⟨rfl,E⟩)]at a |-;unfold Au at a |-
 by_cases d:j4 b w n (max (posOf w n b.qs).aQ (-(posOf w n b.qs).aQ))=0
 case neg=>rw[aq d]at a;exact absurd a d
 rw[au d]at a |-;have B:=aam (v:=v) D o d;obtain⟨F,q⟩:=aL ((kG b w n (max (posOf w n b.qs).aQ (-(posOf w n b.qs).aQ))).map (eK (bC (aU s.ak n))));have A:∀x∈F,x.aS=bC (aU s.ak n):=λx i=>by
  rw[q]at i;obtain⟨y,_,rfl⟩:=mem_map.1 i;rfl
 have l:tot F (FB v)=tot (kG b w n (max (posOf w n b.qs).aQ (-(posOf w n b.qs).aQ))) (FB v):=by
  rw[q];unfold tot;rw[map_map];rfl
 rw[<-q]at a |-;rw[<-l]at B;clear l q d;unfold mO at a |-
 by_cases e:jL F=0
 case neg=>rw[aq e]at a;exact absurd a e
 rw[au e]at a |-;dsimp only at a |-;obtain⟨s1,s2⟩:=abr (w:=w) (n:=n) (m:=m) (v:=v) (p:=bC (aU s.ak n)) (long:=decide (0<(posOf w n b.qs).aQ)) J.2 A;rw[(qX a).2];try dsimp only
 have I:lR w n (decide (0<(posOf w n b.qs).aQ)) F=F.flatMap (vl w n (decide (0<(posOf w n b.qs).aQ))):=by unfold lR;rw[au e]
 rw[ZG J.1 R];have L:CP b (lR w n (decide (0<(posOf w n b.qs).aQ)) F) v m=(posOf v m b.qs).aQ+if m=n then xG (decide (0<(posOf w n b.qs).aQ)) (tot F (FB v))else 0:=by unfold CP;rw[aC,I,s1]
 have e2:Mp b (lR w n (decide (0<(posOf w n b.qs).aQ)) F) v m=(posOf v m b.qs).cost+(if m=n then xG (decide (0<(posOf w n b.qs).aQ)) (tot F (FB v))else 0)*bC (aU s.ak n):=by unfold Mp;rw[aC,I,s2]
 rw[L,e2];by_cases c:m=n
 ·rw[au c,au c,c];obtain⟨T,C⟩:=aL (tot F (FB v));rw[<-C]at B |-
  have H:∀k:Int,xG (decide (0<(posOf w n b.qs).aQ)) k=if 0<(posOf w n b.qs).aQ then k else -k:=λk=>by
   unfold xG;by_cases f:0<(posOf w n b.qs).aQ<;>simp[f]
  rw[H];rcases B with f| ⟨x,i,G,hxv,f,h1⟩
  ·rw[f];refine⟨?_,?_,?_,?_⟩<;>dsimp only
   ·split<;>simp
   ·split<;>omega
   ·split<;>omega
   ·split<;>omega
  ·have G:=yw.1 G;have Q:posOf v n b.qs=x:=tY (dY.1 D).pw i ⟨hxv,G.1⟩;rw[Q];refine⟨?_,?_,?_,?_⟩<;>dsimp only
   ·split
    ·rw[show x.aQ+T-x.aQ=T by omega];omega
    ·rw[show x.aQ + -T-x.aQ = -T by omega];omega
   ·split<;>omega
   ·split<;>omega
   ·split<;>omega
 ·rw[aq c,aq c,Int.zero_mul,Int.add_zero,Int.add_zero];by_cases i:∃p∈b.qs,p.who=v/\p.inst=m
  ·have t:=u5 i;generalize posOf v m b.qs=P at t |-;obtain⟨K,a2,a3,a4⟩:=P;obtain⟨-,k1,k2⟩:=t;rw[show K=v from k1,show a2=m from k2]
  ·rw[iW λp u t=>i ⟨p,u,t⟩]
theorem OX{s:af}{w:Int}(h:s.right)(c:s.aZ=[])(o:1<=w/\w<=16)(j:bF s.ak w=2){v m:Int}(l:(1<=v/\v<=16)/\v≠w)(g:1<=m/\m<=8):∀(k i:Nat) {b:aJ},i+k=8->Ic s.ak w b s.book.ts s.ps s.calls->(mo s w k i b).2=0 ->
  (((i:Int)<m->QJ (posOf v m b.qs) (posOf v m (mo s w k i b).1.qs) (bC (aU s.ak m)))/\(m<=(i:Int)->posOf v m (mo s w k i b).1.qs=posOf v m b.qs))
 | 0,i,b,hi,hb,_=>⟨λh=>by omega,λ_=>rfl⟩
 |k+1,i,b,hi,hb,he=>by
  simp only[mo]at he |-;split
  ·rename_i d;rw[au d]at he;obtain⟨p,-,-⟩:=K0 h o (n:=(i:Int)+1) aj hb j d;have a:=QZ (v:=v) (m:=m) c (n:=(i:Int)+1) aj hb.ok d l g;obtain⟨q,f⟩:=OX h c o j l g k (i+1) aj p he;refine⟨λhlt=>?_,λhge=>?_⟩
   ·by_cases e:m=(i:Int)+1
    ·rw[au e]at a;rw[f aj];exact a
    ·rw[aq e]at a;rw[<-a];exact q aj
   ·rw[aq aj]at a;rw[f aj,a]
  ·rename_i d;rw[aq d]at he;exact absurd he d
theorem KY{v m w:Int}(b:v≠w):∀l:List aE,posOf v m (mg w l)=posOf v m l
 | []=>rfl
 |x::r=>by
  have a:=KY (m:=m) b r;unfold mg at a |-;rw[flatMap_cons];by_cases h:(x.who==w)=true
  ·rw[au h,nil_append,a,posOf,aq];intro e;have h:x.who=w:=su h;have:=(mq.1 e).1;omega
  ·rw[aq h,cons_append,nil_append,posOf,posOf,a]
def ZK{s:af}{w:Int}(a:s.aZ=[])(b:jN s w=0){v m:Int}(k:1<=v/\v<=16)(h:1<=m/\m<=8) :
  if v=w then posOf v m (kQ s w).qs=⟨v,m,0,0⟩else QJ (posOf v m s.book.qs) (posOf v m (kQ s w).qs) (bC (aU s.ak m)):=by
 obtain⟨c,d⟩:=rE b;obtain⟨hr,j⟩:=rB c;have hr:=bU.1 hr;have l:=(xH hr.ak (w:=w) aj).2;by_cases e:v=w
 ·rw[au e];exact iW λp i g=>(EZ b).2.2 p i (g.1.trans e)
 ·rw[aq e];have f:(kQ s w).qs=mg w (mo s w 8 0 s.book).1.qs:=by unfold kQ;rw[au b]
  rw[f,KY e];exact(OX hr a l j ⟨k,e⟩ h 8 0 rfl ⟨hr.book,hr.known,rfl⟩ d).1 aj
def MV(l:List bB)(w:Int):Sq 11 [] [.sl 17 (l.map bB.cells),.I w] [] (.bool true):=by
 rcases dN 1000 l.length with hlen|hlen
 ·have d:decide ((1000:Int)<(l.length:Int))=true:=jw;refine aX 138 2 [.tmp 4] mixed func11 ?_;exact eo d
 have d:decide ((1000:Int)<(l.length:Int))=false:=lJ;have cW:=B3;have o:=qp l hlen;have P:=vL l;obtain⟨s0,k⟩:∃s,s=Af l:=⟨_,rfl⟩
 rw[<-k]at o P;clear k;have R:=V9 P;obtain⟨s,k⟩:∃s:af,s={ s0 with aZ:=[] }:=⟨_,rfl⟩
 rw[<-k]at R;have hb:s.aZ=[]:=by rw[k]
 have f:=cPos R w;have eB:s0.book=s.book:=by rw[k]
 have eR:s0.ak=s.ak:=by rw[k]
 have hq:=R.right.lens.qs;have Q:=λn=>fu s.ak n R.small.ak.small;replace f:=Spec.IQ f (ds':=[.agg [.I s0.now,.I s0.day,.I s0.phase,.sl 3 (s0.ak.ms.map av.cells),.sl 12 (s0.ak.ns.map aF.cells),.sl 4 (s0.ak.xs.map aD.cells),.I s0.book.next,.sl 7 (s0.book.ts.map aT.cells),.sl 4 (s0.book.qs.map aE.cells),.I s0.bp.last,.sl 4 (s0.bp.bs.map bY.cells),.sl 3 (pl s0.ps),.sl 4 (s0.calls.map aB.cells),.nil,.sl 7 (s0.aR.map bZ.cells)],.I w]) (by rw[k];simp[af.cells,nM,nT]);by_cases e:jN s w=0
 case neg =>
  have S:(jN s w==0)=false:=su e;simp only[af.cells]at o f |-;refine aX 138 2 [.tmp 4] mixed func11 ?_;refine sc d o ?_;refine sc aK f ?_;refine sm (a2 dV S) ?_;try refine aV ?_
  exact lX aK cW
 have S:(jN s w==0)=true:=su e;obtain⟨H,-,-⟩:=EZ e;have x:=dY.1 H;have V:=vg H;have J:=λv m=>oS (kQ s w) v m ⟨by have:=x.tl;omega,by omega⟩;have U:=λ{v m}=>ZK (v:=v) (m:=m) hb e;have F:=dY.1 R.right.book;have E:=F.ok;have D:=λ{p} M=>tY F.pw (p:=p) M ⟨rfl,rfl⟩;obtain⟨B,K⟩:=aL (kQ s w);have A:∀v m,(-1099511627776<=(posOf v m B.qs).aQ/\(posOf v m B.qs).aQ<=1099511627776)/\bA (posOf v m B.qs).cost=true:=λv m=>by rw[K];exact OZ H v m
 rw[<-K]at f;simp only[<-K]at J U;clear K x V H R P;simp only[eB,eR]at f;simp only[af.cells,ay.cells,aJ.cells,aF.cells]at o f J Q |-;simp only[eB,eR]at o;refine aX 138 2 [.tmp 4] mixed func11 ?_;refine sc d o ?_;refine sc aK f ?_;refine sm (a2 dV S) ?_;refine aG.wv s.book.qs.length [1,5,6] [96,112] (λi=>[(9,.I i)]) (λ_=>[]) ?_ ?_ ?_
 ·exact jh
 ·intro i _ L y G _;have j:=aM (c:=aE.cells) s.book.qs L;have hli:(i:Int)<(s.book.qs.length:Int):=aj
  have a:s.book.qs[i]∈s.book.qs:=dH L;obtain⟨p,M⟩:=aL (s.book.qs[i]);rw[<-M]at j a;have z:=jG.1 (E p a);have b:=D a;have g:=U z.1 z.2.1;rw[b]at g;have c1:=J p.who p.inst;have c2:=Q p.inst;have Z:=A p.who p.inst;obtain⟨q,C⟩:=aL (posOf p.who p.inst B.qs);rw[<-C]at c1 g Z;obtain⟨X,hX⟩:=aL (aU s.ak p.inst);rw[<-hX]at c2 g;have c3:=tH X;rw[show(if X.set==0 then X.aS else X.set)=bC X from rfl]at c3;have Y:(!(X.set==0&&X.aS==0))=eG X:=rfl;rw[Y]at c3;simp only[aE.cells]at j c1;simp only[aF.cells]at c3;have n1:IntKind.wrap .i64 (0-q.aQ) = -q.aQ:=by rw[Int.zero_sub];exact gx aj aj
  have n2:IntKind.wrap .i64 (0-p.aQ) = -p.aQ:=by rw[Int.zero_sub];exact gx aj aj
  clear U J Q D E A b M C hX;by_cases N:p.who=w
  ·have u:(p.who==w)=true:=su N;rw[au N]at g;have g1:q.aQ=0:=by rw[g]
   have g2:q.cost=0:=by rw[g]
   have f1:(q.aQ==0)=true:=su g1;have f2:(q.cost==0)=true:=su g2;have T:decide (max p.aQ (-p.aQ)<max q.aQ (-q.aQ))=false:=lJ;have r:decide (q.aQ<0)=false:=lJ;have t:decide (0<q.aQ)=false:=lJ;cases k3:decide (0<p.aQ)<;>cases O:decide (p.aQ<0)<;>cases k5:eG X
   all_goals
    rw[k5]at c3;refine sc (a2 y j) c1 ?_;refine sm (a5 j u f1 f2 (a5 n1 n2 T r (a4 t k3 O dV))) ?_;refine sc aK c2 ?_;refine sc aK c3 ?_;try simp only[go_sem,seval,j,u,bne,G]
    try refine aV ?_
    refine ah.v L ?_;exact iB
  ·have u:(p.who==w)=false:=su N;rw[aq N]at g;obtain⟨m1,m2,m3,m4⟩:=g;have T:decide (max p.aQ (-p.aQ)<max q.aQ (-q.aQ))=false:=lJ;have r:decide (0<p.aQ)=true->decide (q.aQ<0)=false:=λh=>by simp only[bO,gP]at h |-;omega
   have t:decide (p.aQ<0)=true->decide (0<q.aQ)=false:=λh=>by simp only[bO,gP]at h |-;omega
   have w1:IntKind.wrap .i64 (q.aQ-p.aQ)=q.aQ-p.aQ:=gx aj aj;cases k3:decide (0<p.aQ)<;>cases O:decide (p.aQ<0)<;>cases k5:eG X
   all_goals
    rw[k5]at c3;try have r:=r k3
    try have t:=t O
    refine sc (a2 y j) c1 ?_;try simp only[go_sem,seval,j,u,n1,n2,T,k3,O,r,t,bne]
    refine sc aK c2 ?_;refine sc aK c3 ?_;try simp only[go_sem,seval,j,u,w1,m1,bne,beq_self_eq_true,G]
    try refine aV ?_
    refine ah.v L ?_;exact iB
 ·intro _ W _;refine sm W ?_;try refine aV ?_
  exact lX aK cW
