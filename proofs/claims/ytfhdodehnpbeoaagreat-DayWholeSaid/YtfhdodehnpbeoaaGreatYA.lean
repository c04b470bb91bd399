/- Parts. -/
import Derived.Test.YtfhdodehnpbeoaaGreatTA
set_option linter.all false
set_option maxHeartbeats 4000000
set_option maxRecDepth 16000
namespace Go.Proofs.YtfhdodehnpbeoaaGreat
open Go.Abs Tryz
def aeK{ps qs:List iu}(a:ps.length=qs.length)(h:∀j (h1:j<ps.length) (h2:j<qs.length),ps[j]=qs[j]):ps=qs:=List.ext_getElem a h
def Z6(ps qs:List iu)(hl:ps.length<2^62):Sq 28 [] [.sl 3 (pl ps),.sl 3 (pl qs)] [] (.bool (decide (ps=qs))):=by
 refine aX 54 2 [.tmp 4] mixed func28 ?_;refine s0 ?_;refine bK.kB (λh=>?_) (λh=>?_)
 ·refine s0 ?_;have:ps≠qs:=by rintro rfl;simp at h
  simp[this]
 ·have k:ps.length=qs.length:=by have:=KM h;omega
  refine s0 ?_;refine aG.count ps.length [0,1] [] (λi=>[(5,.I i)]) (λi=>[]) (λi=>∀j (d:j<ps.length) (f:j<qs.length),j<i->ps[j]=qs[j]) sT ?_ ?_
  ·exact jh
  ·intro i hi l;refine s0 ?_;refine bK.fP (λh=>?_) (λh=>?_)
   ·have g:i<ps.length:=aj
    have hi2:i<qs.length:=aj
    have hw:IntKind.wrap .i64 ((i:Int)+1)=((i+1:Nat):Int):=fU;have e0:ps[i].who=qs[i].who->ps[i].bV=qs[i].bV->ps[i].units=qs[i].units->∀j (d:j<ps.length) (f:j<qs.length),j<i+1->ps[j]=qs[j]:=by
     intro a b c j d f m;rcases dN j i with h|h
     ·exact l j d f h
     ·obtain rfl:j=i:=aj
      cases hp:ps[j];cases hq:qs[j];simp_all
    have n:ps[i]≠qs[i]->ps≠qs:=by rintro h rfl;exact h rfl
    simp only[go_sem,seval,oA ps g,oA qs hi2];repeat' with_reducible first|apply And.intro|exact .dq|refine az.aP (by assumption) ?_|refine mW (λh=>?_) λh=>?_|refine .id ?_|refine ah.eI aj ?_ ?_|exact aK|simp only[*,go_sem,seval,oA ps g,oA qs hi2]
    all_goals first
     |omega
     | (refine(gB (n λe=>?_)).symm;rw[e]at h;simp at h;done)
     | (simp only[bne_eq_false_iff_eq]at *;intro j d f m;exact e0 (by assumption) (by assumption) (by assumption) j aj aj m)
   ·obtain rfl:i=ps.length:=aj
    have:=aeK k (λj d f=>l j d f aj);repeat' with_reducible first|apply And.intro|exact .dq|refine az.aP (by assumption) ?_|refine mW (λh=>?_) λh=>?_|refine .id ?_|refine ah.eI aj ?_ ?_|exact aK|simp only[*,go_sem,seval]
    all_goals(simp_all;done)
def MR(x y:aI):Sq 78 [] [.agg x.cells,.agg y.cells] [] (.bool (x.same y)):=by
 simp only[aI.cells];refine aX 24 2 [.tmp 4] mixed func78 ?_;refine s0 ?_;repeat' with_reducible first|apply And.intro|exact .dq|refine az.aP (by assumption) ?_|refine mW (λh=>?_) λh=>?_|refine .id ?_|refine ah.eI aj ?_ ?_|exact aK|simp only[*,go_sem,seval]
 all_goals(simp_all[aI.same])
def Km(a b:aI):Sq 78 [] [.agg a.cells,.agg b.cells] [] (.bool (decide (a=b))):=by
 have h:=MR a b;have e:a.same b=decide (a=b):=by rw[lZ,Ft];cases a;cases b;simp
 rwa[e]at h
def Gr(xs ys:List av)(hl:xs.length<4611686018427387904):Sq 27 [] [.sl 3 (xs.map av.cells),.sl 3 (ys.map av.cells)] [] (.bool (decide (xs=ys))):=by
 refine aX 54 2 [.tmp 4] mixed func27 ?_;exact kpW (ms:=xs) [0,1] [] 5 av.cells av.cells.eq_1 (λ_ _ _=>trivial)
def MS(xs ys:List bn)(hl:xs.length<4611686018427387904):Sq 29 [] [.sl 5 (xs.map bn.cells),.sl 5 (ys.map bn.cells)] [] (.bool (decide (xs=ys))):=by
 refine aX 68 2 [.tmp 4] mixed func29 ?_;exact kpW (ms:=xs) [0,1] [] 5 bn.cells bn.cells.eq_1 (λx _ y=>EK x.who x.inst y.who y.inst)
def Ia(a b:bu)(hl:a.bs.length<4611686018427387904):Sq 30 [] [.agg a.cells,.agg b.cells] [] (.bool (decide (a.last=b.last)&&decide (a.bs=b.bs))):=by
 obtain⟨c,xs⟩:=a;obtain⟨d,ys⟩:=b;simp only[bu.cells];refine aX 56 2 [.tmp 4] mixed func30 ?_;by_cases f:c=d
 case neg =>
  have g:(c==d)=false:=su f;have e:decide (c=d)=false:=gB f;simp only[go_sem,seval,bne,g,e,dU]
 have g:(c==d)=true:=su f;have e0:decide (c=d)=true:=dw f;rw[e0,cz];refine sm (a2 dV g) ?_;have hl:xs.length<4611686018427387904:=hl;exact kpW (ms:=xs) [2,3] [48,64] 5 bY.cells (a3 bY.cells.eq_1 aI.cells.eq_1 bY.br.eq_1) (λx _ y=>Km x.br y.br)
def acv{s:af}(h:M3 s)(a:mI s=0):M3 (oz s):=by
 have e:(oz s).aR=s.aR:=by unfold oz;rw[au a]
 exact⟨⟨DF a,XN h.fY.last a,by rw[e];exact h.fY.fit⟩,by rw[e];exact h.sm⟩
def Bj{r:ay}(hr:r.okB=true){n:Int}(b:bE r n=true):aU (sB r) n=(aU r n).mY:=by
 have a:=vr b;exact y9 (fF.1 (Md hr).1).2.1.2 (List.mem_map.2 ⟨_,a.1,rfl⟩) (by rw[RM];exact a.2)
def Wh(x:aF):bC x.mY=bC x/\x.mY.mult=x.mult/\eG x.mY=eG x:=by
 unfold aF.mY;by_cases h:(x.set==0)=true
 ·rw[au h];exact⟨rfl,rfl,rfl⟩
 ·rw[aq h];unfold bC eG;simp[h]
theorem agQ{A:Type}{f:A->List A}:∀{l:List A},(∀x∈l,f x=[x])->l.flatMap f=l
 | [],_=>rfl
 |x::r,h=>by rw[List.flatMap_cons,h x sT,agQ λy a=>h y (by simp[a])];rfl
theorem LJ{r:ay}:∀{l:List aE},(∀p∈l,yJ r p=0)->lG r l=0
 | [],_=>rfl
 |p::t,h=>by rw[lG,au (h p sT)];exact LJ λq a=>h q (by simp[a])
def ZZ{r:ay}{b:aJ}(h:oW r b=0){f:aJ}(k:f.okB=true)(t:f.qs=b.qs.flatMap (mw r)):oW (sB r) f=0/\(∀d∈lU (sB r) f,d.bT=0)/\(rV (sB r) f).qs=f.qs:=by
 obtain⟨i,h2,q⟩:=Ru h;have n:=Md i;have c:∀p∈f.qs,yJ (sB r) p=0/\(pz (sB r) p).bT=0/\mw (sB r) p=[p]:=by
  intro p a;rw[t]at a;obtain⟨x,u,a⟩:=List.mem_flatMap.1 a;have e:=q x u;obtain⟨g,i2,w⟩:=LI e;unfold yJ at e;rw[au g]at e;split at e
  ·cases e
  rename_i s;unfold mw at a;split at a
  ·cases a
  rename_i v;obtain rfl:=iD.1 a;obtain⟨m,o,y⟩:=Wh (aU r x.inst);have e0:gN ⟨x.who,x.inst,x.aQ,x.aQ*bC (aU r x.inst)⟩ (aU r x.inst).mult (bC (aU r x.inst))=0:=by
   unfold gN;dsimp only;rw[Int.neg_mul,Int.mul_assoc];omega
  refine⟨?_,?_,?_⟩
  ·unfold yJ;dsimp only;rw[au (n.2.inst _ g),Bj i g,m,o,y,aq s,e0,w];rfl
  ·unfold pz;dsimp only;rw[Bj i g,m,o,e0]
  ·unfold mw;dsimp only;rw[Bj i g,m,aq v]
 have j:oW (sB r) f=0:=by
  unfold oW;rw[n.1,k,au (show(true&&true)=true from rfl)];exact LJ λp a=>(c p a).1
 refine⟨j,λd l=>?_,?_⟩
 ·unfold lU at l;rw[au j]at l;obtain⟨p,a,rfl⟩:=List.mem_map.1 l;exact(c p a).2.1
 ·unfold rV;rw[au j];exact agQ λp a=>(c p a).2.2
def Zq{l:List aH}(h:∀d∈l,d.bT=0):lA l=([],0):=by
 have g:kV l=true:=cg.2 λd a=>by rw[h d a];rfl
 have b:∀w c,aC (rj w c l)=0:=λw c=>by
  rw[Xq];exact lH λd a=>by rw[h d a];split<;>rfl
 have e:∀w c,gR w c l=0:=λw c=>by
  unfold gR;rw[au g,b];rfl
 have key:∀n f last,zq l n f last []=([],0):=by
  intro n;induction n with
  |zero=>intro _ _;rfl
  |succ n ih =>
   intro f last;rw[zq];split
   ·rw[au (e _ _)];have:xu l (jr f last l (false,.zero)).2=[]:=by
     unfold xu jF;rw[au (e _ _),b];rfl
    rw[this];exact ih _ _
   ·rfl
 unfold lA;rw[au g];exact key _ _ _
def TW:ou []=0/\kP []=[]:=⟨by kernel_rfl,by kernel_rfl⟩
def YJ{s v:af}(o:cu s=0)(t:fH (bz s)=0)(p:mI (bW (bz s))=0)(a:v=oz (bW (bz s))) :
  (v.day=s.day+1/\v.now=s.now/\v.ak.ms=s.ak.ms/\v.ps=s.ps/\v.aZ=s.aZ/\v.book.qs=(bz s).book.qs)/\cu v=0/\jV v=[]/\(bz v).bp=v.bp/\(bz v).book.qs=v.book.qs:=by
 have e:v.right:=by rw[a];exact DF p
 obtain⟨h1,h2,n,h4,h5⟩:=zR o;have c:bz s={ s with phase:=1,ak:=sB s.ak,book:=rV s.ak s.book,bp:=(oX s).1 }:=by unfold bz;rw[au o]
 have d:bW (bz s)={ bz s with phase:=2,calls:=(QH (bz s)).1.1 }:=by unfold bW;rw[au t]
 have b:oz (bW (bz s))={ bW (bz s)with day:=(bW (bz s)).day+1,phase:=0,book:=⟨(bW (bz s)).book.next,[],(bW (bz s)).book.qs⟩ }:=by unfold oz;rw[au p]
 have j:v.ak=sB s.ak:=by rw[a,b,d,c]
 have k:v.book.qs=(rV s.ak s.book).qs:=by rw[a,b,d,c]
 have q:v.phase=0:=by rw[a,b]
 have r:(rV s.ak s.book).qs=s.book.qs.flatMap (mw s.ak):=by unfold rV;rw[au n]
 obtain⟨l,m,g3⟩:=ZZ n e.book (k.trans r);rw[<-j]at l m g3;have n0:=Zq m;have g:eJ v=[]:=by unfold eJ;rw[n0]
 have i:oX v=(v.bp,0):=by
  unfold oX gD;rw[g,TW.1,TW.2,aq (λh=>h.2 rfl)]
 have f:cu v=0:=by
  unfold cu;rw[au (bU.2 e),au q,au l,n0,au rfl,i]
 refine⟨⟨?_,?_,?_,?_,?_,?_⟩,f,?_,?_,?_⟩
 ·rw[a,b,d,c]
 ·rw[a,b,d,c]
 ·rw[j];rfl
 ·rw[a,b,d,c]
 ·rw[a,b,d,c]
 ·rw[k,c]
 ·unfold jV;rw[au f,g]
 ·unfold bz;rw[au f,i]
 ·unfold bz;rw[au f];exact g3
def QA(l:List bB):Sq 6 [] [.sl 17 (l.map bB.cells)] [] (.bool true):=by
 rcases dN 1000 l.length with hlen|hlen
 ·have d:decide ((1000:Int)<(l.length:Int))=true:=jw;refine aX 132 1 [.tmp 2] mixed func6 ?_;exact eo d
 have d:decide ((1000:Int)<(l.length:Int))=false:=lJ;have m:=wR;have p:=qp l hlen;have R:=vL l;obtain⟨s,K⟩:=aL (Af l);rw[<-K]at p R;clear K;have c1:=nG s R.small R.right R.sm;simp only[af.cells]at p |-;refine aX 132 1 [.tmp 2] mixed func6 ?_;refine sc d p ?_;by_cases i:cu s=0
 case neg =>
  have f:(cu s==0)=false:=su i;simp only[af.cells]at c1;refine sc aK c1 ?_;refine sm (a2 dV f) ?_;try refine aV ?_
  exact lX aK m
 have f:(cu s==0)=true:=su i;have e:=zT R i;have c2:=vi (bz s) e.small e.right e.sm;by_cases e2:fH (bz s)=0
 case neg =>
  have g:(fH (bz s)==0)=false:=su e2;simp only[af.cells]at c1 c2;refine sc aK c1 ?_;refine sm (a2 dV f) ?_;refine sc aK c2 ?_;refine sm (a2 dV g) ?_;try refine aV ?_
  exact lX aK m
 have g:(fH (bz s)==0)=true:=su e2;have c:=KC e e2;have c3:=AX (bW (bz s)) c.small c.right c.sm;by_cases a:mI (bW (bz s))=0
 case neg =>
  have N:mI (bW (bz s))=1:=by
   have O:(bW (bz s)).phase=2:=by unfold bW;rw[au e2]
   unfold mI at a |-;rw[au (bU.2 c.right),au O]at a |-;split
   ·rfl
   ·rename_i h;rw[aq h]at a;exact absurd rfl a
  rw[N]at c3;simp only[af.cells]at c1 c2 c3;refine sc aK c1 ?_;refine sm (a2 dV f) ?_;refine sc aK c2 ?_;refine sm (a2 dV g) ?_;refine sc aK c3 ?_;exact lX aK m
 have q:(mI (bW (bz s))==0)=true:=su a;have b:=acv c a;have P:=λ{v}=>YJ (v:=v) i e2 a;obtain⟨v,u⟩:=aL (oz (bW (bz s)));obtain⟨⟨y,z,g3,D,E,F⟩,r,G,t,j⟩:=P u;rw[<-u]at c3 b;have c4:=nG v b.small b.right b.sm;rw[r,G]at c4;have k:=b.right.lens;have k1:=Gr v.ak.ms s.ak.ms (by have:=k.ms;omega);have k2:=Z6 v.ps s.ps (by have:=k.ps;omega);have k3:=MS v.aZ s.aZ (by have:=k.aZ;omega);have w:=xj v.book.qs (bz s).book.qs (by have:=k.qs;omega);have o:=zT b r;have n:=Ia (bz v).bp v.bp (by have:=o.right.lens.bs;omega);have x:=xj (bz v).book.qs v.book.qs (by have:=o.right.lens.qs;omega);rw[dw g3]at k1;rw[dw D]at k2;rw[dw E]at k3;rw[dw F]at w;rw[dw (show(bz v).bp.last=v.bp.last by rw[t]),dw (show(bz v).bp.bs=v.bp.bs by rw[t]),Bool.and_self]at n;rw[dw j]at x;have w1:IntKind.wrap .i64 (s.day+1)=s.day+1:=by have:=R.right.HT;exact gx aj aj
 have L:(v.day==s.day+1)=true:=su y;have M:(v.now==s.now)=true:=su z;obtain⟨A,H⟩:=aL (bz s);rw[<-H]at c1 c2 c3 g q w;obtain⟨B,I⟩:=aL (bW A);rw[<-I]at c2 c3 q;obtain⟨C,J⟩:=aL (bz v);rw[<-J]at c4 n x;clear H I J u y z g3 D E F r G t j R e c b o i e2 a k;simp only[af.cells,ay.cells,aJ.cells,bu.cells]at c1 c2 c3 c4 n;refine sc aK c1 ?_;refine sm (a2 dV f) ?_;refine sc aK c2 ?_;refine sm (a2 dV g) ?_;refine sc aK c3 ?_;refine sm (a5 dV q w1 L M) ?_;try refine aV ?_
 refine sc aK k1 ?_;try refine aV ?_
 refine sc aK k2 ?_;try refine aV ?_
 refine sc aK k3 ?_;try refine aV ?_
 refine az.aP w ?_;refine sc aK c4 ?_;refine sc aK n ?_;try refine aV ?_
 refine sc aK x ?_;try refine aV ?_
 exact lX aK m
