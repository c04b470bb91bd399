/- Parts. -/
import Derived.Test.YtfhdodehnpbeoaaGreatUA
set_option linter.all false
set_option maxHeartbeats 4000000
set_option maxRecDepth 16000
namespace Go.Proofs.YtfhdodehnpbeoaaGreat
open Go.Abs Tryz
def acA{s:af}{w:Int}(a:n7 s w=0):(∀p∈(iG s w).book.qs,p.who≠w)/\(∀p∈(iG s w).ps,p.who≠w)/\(∀c∈(iG s w).calls,c.who≠w)/\(∀b∈(iG s w).aZ,b.who≠w/\b.src≠w):=by
 obtain⟨d,_⟩:=zD a;unfold iG;rw[au a];refine⟨(EZ d).2.2,λp g=>(DB.1 g).2,λc f=>?_,λb e=>(Ko.1 e).2⟩;have:=(uX.1 f).2;rw[IP]at this;simpa using this
def Sf{k c n d:Int}{ws gs:List Int}{a:aI}(f:a∈gf)(e:(⟨6,0,c⟩:aI)≠a)(l:∀v,(v∈ws\/v=0)->(⟨k,v,c⟩:aI)≠a):aC (dM a (vh k c n d ws gs))=0:=by
 unfold vh;split
 ·rename_i h;have j:nq (v7 k c n ws (cy n gs))=0:=by
   unfold tM at h;split at h
   ·split at h
    ·cases h
    ·exact h
   ·cases h
  rw[qE f j];refine Cf λx b=>?_;unfold v7 at b;rcases List.mem_cons.1 b with rfl|b
  ·exact e
  ·obtain⟨i,_,b⟩:=jf.1 b;unfold pM at b;obtain rfl:=iD.1 b;refine l _ ?_;rw[List.getD_eq_getElem?_getD];cases g:ws[i]? with
   |none=>exact .inr rfl
   |some y=>exact .inl (fC g)
 ·rfl
def Tv{l:bu}{c n:Int}{ws:List Int}{a:aI}(d:a∈gf)(b:(⟨6,0,c⟩:aI)≠a)(e:∀v,(v∈ws\/v=0)->(⟨3,v,c⟩:aI)≠a):aC (dM a (yg l c n ws))=0:=by
 unfold yg;split
 ·exact Sf d b e
 ·rfl
def Jj{r:ay}{c n:Int}{ws:List Int}{a:aI}(d:a∈gf)(b:(⟨6,0,c⟩:aI)≠a)(e:∀v,(v∈ws\/v=0)->(⟨2,v,c⟩:aI)≠a):aC (dM a (oJ r c n ws))=0:=by
 unfold oJ;split
 ·exact Sf d b e
 ·rfl
def Xi{s:af}{w c:Int}{i:Nat}(hw:w≠0)(p:rD s w i=0)(h:(fK s w i).2.2=0) :
  ((⟨2,w,c⟩:aI)∈gf->aC (dM ⟨2,w,c⟩ (fK s w i).1)=if(i:Int)=c then -gw ⟨2,w,i⟩ s.bp.bs else 0)/\((⟨3,w,c⟩:aI)∈gf->aC (dM ⟨3,w,c⟩ (fK s w i).1)=if(i:Int)=c then -gw ⟨3,w,i⟩ s.bp.bs else 0):=by
 obtain⟨k,o⟩:=KQ p;obtain⟨-,-,e,f,g,j⟩:=uM k o;have r:lu (i:Int) (gm s w i (aW s w i)) (gC s w i (aW s w i))=bM s w i:=rfl;rw[r]at e f g j;rw[Cj k]at h |-;unfold lq at h |-;split
 case isFalse hne=>rw[aq hne]at h;exact absurd h hne
 rename_i m;rw[au m]at h;split
 case isFalse hne=>rw[aq hne]at h;exact absurd h hne
 rename_i n;rw[au n]at h;split
 case isFalse hne=>rw[aq hne]at h;cases h
 rename_i g3;rw[au g3]at h;dsimp only at h |-;obtain⟨F,q⟩:=aL (bM s w i);obtain⟨G,l⟩:=aL (aW s w i);have t:bA (nD s w i)=true:=FA s w i;have u:bA G=true:=by rw[l];exact Gk _ _ _
 rw[<-q]at e f g j h |-;rw[<-l]at f g h |-;have x:bA F.c0=true:=bf.2 aj;have y:bA F.c1=true:=bf.2 aj;have z:bA (uL s w i G-F.c0)=true:=bf.2 aj;have A:bA (gw ⟨3,w,i⟩ s.bp.bs-F.c1)=true:=bf.2 aj;constructor
 ·intro b;rw[qE b h];unfold Dn MB;simp only[tR]
  rw[ke t,ke u,ke e,ke x,dR sT sT,dR sT sT,Tv b sT (λv _=>by simp),Jj b sT (λv a=>by
   have:v≠w:=by
    rcases a with a|a
    ·exact GD a
    ·omega
   simp[this]),ke z,dR sT sT]
  simp only[aI.mk.injEq];by_cases d:(i:Int)=c
  ·simp[d];rw[<-d];omega
  ·simp[d]
 ·intro b;rw[qE b h];unfold Dn MB;simp only[tR]
  rw[dR sT sT,dR sT sT,dR sT sT,dR sT sT,ke y,dR sT sT,Tv b sT (λv a=>by
   have:v≠w:=by
    rcases a with a|a
    ·exact GD a
    ·omega
   simp[this]),Jj b sT (λv _=>by simp),dR sT sT,ke A]
  simp only[aI.mk.injEq];by_cases d:(i:Int)=c
  ·simp[d];rw[<-d];omega
  ·simp[d]
def acD{s:af}{w c:Int}(f:n7 s w=0)(hc:0<=c/\c<=2):gw ⟨2,w,c⟩ (iG s w).bp.bs=0/\gw ⟨3,w,c⟩ (iG s w).bp.bs=0:=by
 obtain⟨g,-,h,j⟩:=zD f;obtain⟨l,hs⟩:=rB (rE g).1;have b:=(xH (bU.1 l).ak (w:=w) aj).2;have e:=λi a=>Bb h i (Nat.zero_le i) (by omega:i<0+3);unfold iG;rw[au f];dsimp only;have key:∀k:Int,(k=2\/k=3)->(⟨k,w,c⟩:aI)∈gf->(∀i:Nat,i<3->(fK s w i).2.2=0->aC (dM ⟨k,w,c⟩ (fK s w i).1)=if(i:Int)=c then -gw ⟨k,w,c⟩ s.bp.bs else 0)->gw ⟨k,w,c⟩ (qQ s w 3 0 s.bp []).1.bs=0:=λk _ n m=>by
  rw[GF n m 3 0 s.bp [] aj j,au aj];omega
 have hr:∀k:Int,(k=2\/k=3)->(⟨k,w,c⟩:aI)∈gf:=λk o=>oa.2 (by
  unfold aI.right;rw[aq (by dsimp only;omega)];rcases o with rfl|rfl
  ·show(decide (1<=w)&&decide (w<=16))=true;rw[dw b.1,dw b.2];rfl
  ·show(decide (1<=w)&&decide (w<=16))=true
   rw[dw b.1,dw b.2];rfl)
 refine⟨key 2 (.inl rfl) (hr 2 (.inl rfl)) λi a d=>?_,key 3 (.inr rfl) (hr 3 (.inr rfl)) λi a d=>?_⟩
 ·rw[(Xi aj (e i a) d).1 (hr 2 (.inl rfl))];by_cases q:(i:Int)=c
  ·rw[au q,au q,q]
  ·rw[aq q,aq q]
 ·rw[(Xi aj (e i a) d).2 (hr 3 (.inr rfl))];by_cases q:(i:Int)=c
  ·rw[au q,au q,q]
  ·rw[aq q,aq q]
def aj9{s:af}(hr:s.right)(w:Int):(gp s.ak w=false->n7 s w=10)/\(gp s.ak w=true->(fj s.ak w).state≠2->n7 s w=14):=by
 have c:=bU.2 hr;constructor
 ·intro h;have a:bF s.ak w=0:=Decidable.byContradiction λq=>by rw[(tc hr.ak).1 q]at h;cases h
  have e:Gz s w=10:=by unfold Gz;rw[au c,au a]
  unfold n7 jN;rw[e];rfl
 ·intro h b;have a:bF s.ak w≠0:=(tc hr.ak).2 h;have b:bF s.ak w≠2:=b;have e:Gz s w=14:=by unfold Gz;rw[au c,aq a,aq b]
  unfold n7 jN;rw[e];rfl
theorem G9{w c:Int}:∀{xs:List aB},(∀y∈xs,y.who≠w)->bL w c xs = -1
 | [],_=>rfl
 |x::r,h=>by
  have b:=G9 (w:=w) (c:=c) (xs:=r) λy a=>h y (by simp[a]);rw[bL,aq (by simp[pI,h x sT]),b];rfl
def MW(l:List bB)(w:Int):Sq 8 [] [.sl 17 (l.map bB.cells),.I w] [] (.bool true):=by
 rcases dN 1000 l.length with hlen|hlen
 ·have d:decide ((1000:Int)<(l.length:Int))=true:=jw;refine aX 182 2 [.tmp 4] mixed func8 ?_;exact eo d
 have d:decide ((1000:Int)<(l.length:Int))=false:=lJ;have G:=B3;have m:=qp l hlen;have R:=vL l;obtain⟨s,hs⟩:=aL (Af l);rw[<-hs]at m R;clear hs;have g:=aiA R w;have o:=dK s.ak w R.small.ak.small;have x:=aj9 R.right w;by_cases e:n7 s w=0
 case neg =>
  have u:(n7 s w != 0)=true:=su e;have M:tX s w=[]:=by unfold tX;rw[aq e]
  rw[M]at g;cases a:gp s.ak w
  ·have e2:=x.1 a;rw[a]at o;rw[e2]at g;simp only[af.cells,ay.cells,av.cells]at m g o |-;refine aX 182 2 [.tmp 4] mixed func8 ?_;refine sc d m ?_;refine sc aK g ?_;refine sc aK o ?_;exact lX aK G
  rw[a]at o;by_cases A:(fj s.ak w).state=2
  ·have K:((fj s.ak w).state==2)=true:=su A;simp only[af.cells,ay.cells,av.cells]at m g o |-;refine aX 182 2 [.tmp 4] mixed func8 ?_;refine sc d m ?_;refine sc u g ?_;refine sc u o ?_;simp only[go_sem,seval,u,K,List.map_nil,List.length_nil];try refine aV ?_
   exact lX aK G
  ·have K:((fj s.ak w).state==2)=false:=su A;have e2:=x.2 a A;rw[e2]at g;simp only[af.cells,ay.cells,av.cells]at m g o |-;refine aX 182 2 [.tmp 4] mixed func8 ?_;refine sc d m ?_;refine sc aK g ?_;refine sc aK o ?_;simp only[go_sem,seval,bne,K,List.map_nil,List.length_nil];try refine aV ?_
   exact lX aK G
 have u:(n7 s w != 0)=false:=su e;have dz:(n7 s w==10)=false:=by rw[e];rfl
 have f:=XR R e;obtain⟨W,X,Y,Z⟩:=acA e;have hz:=λc hc=>acD e (c:=c) hc;have M:(tX s w).length=3:=by unfold tX;rw[au e,nZ]
 have C:bF (iG s w).ak w=3:=by
  obtain⟨e1,-⟩:=zD e;obtain⟨k1,k2⟩:=rB (rE e1).1;have S:=Cn (bU.1 k1).ak (w:=w) (p:=3) aj aj;have:(iG s w).ak=jU s.ak w 3:=by unfold iG;rw[au e]
  rw[this,(La S).2.1,au rfl]
 have q:=dK (iG s w).ak w f.small.ak.small;rw[(tc f.right.ak).1 aj]at q;have V:((fj (iG s w).ak w).state==3)=true:=by rw[show(fj (iG s w).ak w).state=3 from C];rfl
 have F:=jq (iG s w) f.small f.gq;have y:=kX (iG s w) f.small;rw[bU.2 f.right]at F y;rw[au rfl]at y;have E:=λn=>oS (iG s w).book w n f.small.book;have D:=λk c=>jo (iG s w).bp ⟨k,w,c⟩ (by have:=f.right.lens.bs;omega);have J:=λc=>kq w c (iG s w).calls (by have:=f.right.lens.calls;omega);obtain⟨t,H⟩:=aL (iG s w);rw[<-H]at g W X Y Z q V F y;simp only[<-H]at hz E D J;have U:=f.right.lens.ps;have N:=f.right.lens.aZ;rw[<-H]at U N;have T:∀n,posOf w n t.book.qs=⟨w,n,0,0⟩:=λn=>iW λp S hk=>W p S hk.1;have O:∀c,bL w c t.calls = -1:=λc=>G9 Y;clear x C H f o;simp only[T]at E;simp only[O]at J;simp only[af.cells,ay.cells,av.cells,aJ.cells,aE.cells,bu.cells,aI.cells]at m g q F y E D |-;refine aX 182 2 [.tmp 4] mixed func8 ?_;refine sc d m ?_;refine sc u g ?_;refine sc u F ?_;refine sc u y ?_;refine sc M q ?_;refine sm (a2 dV V) ?_;refine aG.wv 8 [1,6] [112] (λi=>[(14,.I ((i:Int)+1))]) (λ_=>[]) ?_ ?_ ?_
 ·exact jh
 ·intro i _ a _ _ _;have P:decide ((i:Int)+1<=8)=true:=jw;have hw:IntKind.wrap .i64 ((i:Int)+1+1)=((i+1:Nat):Int)+1:=fU;refine sc P (E ((i:Int)+1)) ?_;refine sm hw ?_;try refine aV ?_
  refine ah.v a ?_;exact iB
 ·intro _ _ _;refine s0 ?_;refine aG.wv 3 [1,6] [112] (λi=>[(16,.I i)]) (λ_=>[]) ?_ ?_ ?_
  ·exact jh
  ·intro i _ a r j _;have P:decide ((i:Int)<3)=true:=jw;have z:=hz (i:Int) aj;have c1:=D 2 (i:Int);have c2:=D 3 (i:Int);rw[z.1]at c1;rw[z.2]at c2;refine sc P c1 ?_;refine sc aK c2 ?_;refine sc aK (J (i:Int)) ?_;refine sm j ?_;try refine aV ?_
   refine ah.v a ?_;exact iB
  ·intro _ h _;refine sm h ?_;refine aG.wv t.ps.length [1,6] [112] (λi=>[(17,.I i)]) (λ_=>[]) ?_ ?_ ?_
   ·exact jh
   ·intro i _ a r j _;have B:=oA t.ps a;have Q:(i:Int)<(t.ps.length:Int):=aj
    have A:(t.ps[i].who==w)=false:=by simpa using X _ (dH a)
    refine sm (a4 r B A j) ?_;try refine aV ?_
    refine ah.v a ?_;exact iB
   ·intro _ h _;refine sm h ?_;refine aG.wv t.aZ.length [1,6] [112] (λi=>[(18,.I i)]) (λ_=>[]) ?_ ?_ ?_
    ·exact jh
    ·intro i _ a r j _;have B:=aM (c:=bn.cells) t.aZ a;have Q:(i:Int)<(t.aZ.length:Int):=aj
     have L:=Z _ (dH a);obtain⟨b,hb⟩:=aL (t.aZ[i]);rw[<-hb]at B L;simp only[bn.cells]at B;have h5:(b.who==w)=false:=su L.1;have h6:(b.src==w)=false:=su L.2;refine sm (a5 r B h5 h6 j) ?_;try refine aV ?_
     refine ah.v a ?_;exact iB
    ·intro _ h _;refine sm h ?_;try refine aV ?_
     exact lX aK G
