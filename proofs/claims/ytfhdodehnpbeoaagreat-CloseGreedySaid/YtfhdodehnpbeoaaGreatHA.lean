/- Parts. -/
import Derived.Test.YtfhdodehnpbeoaaGreatUA
set_option linter.all false
set_option maxHeartbeats 4000000
set_option maxRecDepth 16000
namespace Go.Proofs.YtfhdodehnpbeoaaGreat
open Go.Abs Tryz
open List hiding min
def eu.ch(x:eu):Nat->Int
 | 0=>x.c0| 1=>x.c1| 2=>x.c2| 3=>x.c3| _=>x.c4
def abm{a b:eu}:a=b↔(∀j<5,a.ch j=b.ch j)/\a.cur=b.cur/\a.bJ=b.bJ/\a.rest=b.rest:=by
 constructor
 ·rintro rfl;simp
 ·rintro⟨h,h1,h2,h3⟩;have s0:=h 0 aj;have s1:=h 1 aj;have s2:=h 2 aj;have s3:=h 3 aj;have s4:=h 4 aj;cases a;cases b;simp only[eu.ch]at s0 s1 s2 s3 s4
  simp_all
def Xm(x:eu){i:Nat}(h:i<5):(drop (2+i*1) x.cells).headD .undef=.I (x.ch i):=by
 rcases i with _| _| _| _| _|i<;>first|rfl|omega
def MT(a b:eu):Sq 43 [] [.agg a.cells,.agg b.cells] [] (.bool (decide (a=b))):=by
 simp only[eu.cells];refine aX 38 2 [.tmp 4] mixed func43 ?_;refine s0 ?_;refine aG.w1 5 5 [2,3] [48,64] (λi _=>∀j<i,a.ch j=b.ch j) (by intros;omega) ?_ ?_
 ·intro i _ k c o g;have c:decide ((i:Int)<5)=true:=c;have l:=Xm a k;have m:=Xm b k;simp only[eu.cells]at l m;refine sm (a3 c l m) ?_;refine aV ?_;cases f:a.ch i==b.ch i
  ·have n:decide (a=b)=false:=gB λh=>by rw[h]at f;simp at f
   exact eo (a3 dV f n)
  ·refine sm (a3 dV f o) ?_;refine ah.u k ?_ ?_
   ·intro j hj;rcases dN j i with h|h
    ·exact g j h
    ·obtain rfl:j=i:=aj
     simpa using f
   ·exact iB
 ·intro _ d g;have d:decide ((5:Int)<5)=false:=d;have e:decide (a=b)=decide (a.cur=b.cur/\a.bJ=b.bJ/\a.rest=b.rest):=by
   rw[lZ,decide_eq_true_iff,decide_eq_true_iff,abm];exact⟨λh=>h.2,λh=>⟨g,h⟩⟩
  rw[e];clear e g;refine sm d ?_;repeat' with_reducible first|apply And.intro|exact .dq|refine az.aP (by assumption) ?_|refine mW (λh=>?_) λh=>?_|refine .id ?_|refine ah.eI aj ?_ ?_|exact aK|simp only[*,go_sem,seval]
  all_goals(rw[lZ];simp_all)
def akC{A:Type}(f:Nat->A){n i:Nat}(h:i<n):(Cv f n)[i]'(by rw[nZ];exact h)=f i:=by simp[Cv]
theorem af9{A:Type}(L:List A)(F:A->Int)(m:Int):tot L (λa=>m*F a)=m*tot L F:=by
 induction L with
 |nil=>simp[tot,aC]
 |cons x r ih=>rw[iU,iU,ih,Int.mul_add]
theorem aeN{l:bu}(h:l.okB=true)(v c:Int):0<=gw ⟨3,v,c⟩ l.bs:=by
 have d:=(sN.1 h).2.1.1;generalize l.bs=bs at d;induction bs with
 |nil=>show(0:Int)<=0;decide
 |cons b r ih =>
  simp only[gw];split
  ·rename_i f;have e:=Cd.1 f;have:=d b sT;simp only[o8,cU,iN,gP]at this;obtain⟨k1,-,-,a⟩:=this;unfold aI.floor at a;rw[k1,e]at a;have a:¬b.sum<0:=a;omega
  ·exact ih λz g=>d z (by simp[g])
theorem Tu{a:aI}{f:Nat->List aN}:∀m,aC (dM a (n6 f m))=tot (range m) λi=>aC (dM a (f i))
 | 0=>rfl
 |m+1=>by
  rw[iS,tR,Tu m,range_succ,FF];simp[tot,aC]
def NQ{k c n d:Int}{ws gs:List Int}{a:aI}(e:a∈gf)(h:tM k c n d ws gs=0):aC (dM a (vh k c n d ws gs))=(if(⟨6,0,c⟩:aI)=a then n else 0)+tot (range (cy n gs).length) λi=>if(⟨k,ws.getD i 0,c⟩:aI)=a then -((cy n gs).getD i 0)else 0:=by
 have f:nq (v7 k c n ws (cy n gs))=0:=by
  have b:=h;unfold tM at b;split at b
  ·split at b
   ·cases b
   ·exact b
  ·cases b
 unfold vh;rw[au h,qE e f];unfold v7;rw[mj,Tu];refine congrArg (λz=>(if(⟨6,0,c⟩:aI)=a then n else 0)+z) (iX λi _=>?_);unfold pM;rw[mj];show(if(⟨k,ws.getD i 0,c⟩:aI)=a then -((cy n gs).getD i 0)else 0)+0=_;omega
theorem adw{A B:Type}(L:List A)(M:List B)(F:A->B->Int):tot L (λa=>tot M (F a))=tot M λb=>tot L λa=>F a b:=by
 induction L with
 |nil=>exact(lH λ_ _=>rfl).symm
 |cons x r ih =>
  rw[iU,ih,<-wP];rfl
theorem U1:∀l:List Int,tot (range l.length) (λi=>l.getD i 0)=aC l
 | []=>rfl
 |x::r=>by
  rw[length_cons,List.range_succ_eq_map,iU];unfold tot;rw[map_map];have:=U1 r;unfold tot at this;rw[aC,<-this];rfl
def DC(l:bu)(c n:Int)(ws:List Int)(v:Int):Int:=tot (range (cy n (cB l c ws)).length) λi=>if ws.getD i 0=v then(cy n (cB l c ws)).getD i 0 else 0
def Gx{l:bu}{c n:Int}{ws:List Int}{a:aI}(f:a∈gf)(h:Bs l c n ws=0):aC (dM a (yg l c n ws))=if a=⟨6,0,c⟩then n else if a.kind=3/\a.cur=c then -DC l c n ws a.who else 0:=by
 unfold Bs at h;split at h
 case isFalse hne=>exact absurd h hne
 rename_i d;unfold yg;rw[au d,NQ f h];by_cases e:a=⟨6,0,c⟩
 ·rw[au e.symm,au e,lH]
  ·omega
  ·intro i _;rw[aq];rw[e];simp
 ·rw[aq (λk=>e k.symm),aq e];by_cases q:a.kind=3/\a.cur=c
  ·rw[au q];unfold DC;have:∀L:List Nat,(0:Int)+tot L (λi=>if(⟨3,ws.getD i 0,c⟩:aI)=a then -((cy n (cB l c ws)).getD i 0)else 0) = -tot L λi=>if ws.getD i 0=a.who then(cy n (cB l c ws)).getD i 0 else 0:=λL=>by
    have e2:-tot L (λi=>if ws.getD i 0=a.who then(cy n (cB l c ws)).getD i 0 else 0)=tot L (λi=>-1*if ws.getD i 0=a.who then(cy n (cB l c ws)).getD i 0 else 0):=by rw[af9];omega
    rw[e2,Int.zero_add];refine iX λi _=>?_;obtain⟨b,a2,a3⟩:=a;have g:b=3:=q.1;have j:a3=c:=q.2;subst g;subst j;simp only[aI.mk.injEq,true_and,and_true];split<;>omega
   exact this _
  ·rw[aq q,lH]
   ·omega
   ·intro i _;rw[aq];intro h;exact q (by rw[<-h];exact⟨rfl,rfl⟩)
def AH{r:ay}{c n:Int}{ws:List Int}{a:aI}(f:a∈gf)(h:qZ r c n ws=0)(g:a.kind≠2):aC (dM a (oJ r c n ws))=if a=⟨6,0,c⟩then n else 0:=by
 unfold qZ at h;split at h
 case isFalse hne=>exact absurd h hne
 rename_i b;split at h
 case isFalse=>cases h
 rename_i d;unfold oJ;rw[au (by rw[b,d];rfl),NQ f h,lH]
 ·by_cases e:a=⟨6,0,c⟩
  ·rw[au e,au e.symm];omega
  ·rw[aq e,aq (λk=>e k.symm)];omega
 ·intro i _;rw[aq];intro h;exact g (by rw[<-h])
def N9{c bJ a b d e f:Int}(h:l7 c bJ [a,b,d,e,f]=0):∀F,F=lu c bJ [a,b,d,e,f]->(F.bJ=bJ/\0<=bJ/\bJ<=4611686018427387904)/\F.c0+F.c1+F.c2+F.c3+F.c4+F.rest=bJ/\(0<=F.c0/\0<=F.c1/\0<=F.c2/\0<=F.c3/\0<=F.c4/\0<=F.rest)/\(F.c0<=4611686018427387904/\F.c1<=4611686018427387904/\F.c2<=4611686018427387904/\F.c3<=4611686018427387904/\F.c3<=e)/\(0<F.c3->F.c0+F.c1+F.c2=a+b+d):=by
 intro F k;obtain⟨j,i,-⟩:=IM (SJ h);have k1:=i a sT;have k2:=i b sT;have k3:=i d sT;have k4:=i e sT;have k5:=i f sT;have e0:F=⟨c,bJ,min bJ a,min (bJ-min bJ a) b,min (bJ-min bJ a-min (bJ-min bJ a) b) d,min (bJ-min bJ a-min (bJ-min bJ a) b-min (bJ-min bJ a-min (bJ-min bJ a) b) d) e,min (bJ-min bJ a-min (bJ-min bJ a) b-min (bJ-min bJ a-min (bJ-min bJ a) b) d-min (bJ-min bJ a-min (bJ-min bJ a) b-min (bJ-min bJ a-min (bJ-min bJ a) b) d) e) f,bJ-min bJ a-min (bJ-min bJ a) b-min (bJ-min bJ a-min (bJ-min bJ a) b) d-min (bJ-min bJ a-min (bJ-min bJ a) b-min (bJ-min bJ a-min (bJ-min bJ a) b) d) e-min (bJ-min bJ a-min (bJ-min bJ a) b-min (bJ-min bJ a-min (bJ-min bJ a) b) d-min (bJ-min bJ a-min (bJ-min bJ a) b-min (bJ-min bJ a-min (bJ-min bJ a) b) d) e) f⟩:=by
  rw[k,lu,au h];rfl
 rw[e0];dsimp only;refine⟨⟨rfl,j⟩,by omega,by omega,by omega,λ_=>by omega⟩
def Jy{s:af}{w c:Int}{i:Nat}(p:rD s w i=0)(h:(fK s w i).2.2=0) :
  ((⟨4,0,c⟩:aI)∈gf->aC (dM ⟨4,0,c⟩ (fK s w i).1)=if(i:Int)=c then -(bM s w i).c2 else 0)/\((⟨6,0,c⟩:aI)∈gf->aC (dM ⟨6,0,c⟩ (fK s w i).1)=if(i:Int)=c then -(bM s w i).rest else 0)/\∀v,v≠w->(⟨3,v,c⟩:aI)∈gf->aC (dM ⟨3,v,c⟩ (fK s w i).1)=if(i:Int)=c then -DC s.bp i (bM s w i).c3 (aY s w) v else 0:=by
 obtain⟨n,l⟩:=KQ p;obtain⟨m,-,k,-,-,-⟩:=uM n l;have t:=N9 (by rw[m]at l;exact l) (bM s w i) (by unfold bM jg;rw[m]);have r:lu (i:Int) (gm s w i (aW s w i)) (gC s w i (aW s w i))=bM s w i:=rfl;rw[r]at k;rw[Cj n]at h |-;unfold lq at h |-
 by_cases d:Bs s.bp i (bM s w i).c3 (aY s w)=0
 case neg=>rw[aq d]at h;exact absurd h d
 rw[au d]at h |-
 by_cases f:qZ s.ak i (bM s w i).c4 (aY s w)=0
 case neg=>rw[aq f]at h;exact absurd h f
 rw[au f]at h |-;split
 case isFalse hne=>rw[aq hne]at h;cases h
 rename_i g3;rw[au g3]at h;dsimp only at h |-;obtain⟨F,q⟩:=aL (bM s w i);rw[<-q]at k t h d f |-;have x:bA F.c0=true:=bf.2 aj;have y:bA F.c1=true:=bf.2 aj;have o:bA F.c2=true:=bf.2 aj;refine⟨λa=>?_,λa=>?_,λv u a=>?_⟩
 ·rw[qE a h];unfold Dn MB;simp only[tR];rw[dR sT sT,dR sT sT,dR sT sT,dR sT sT,dR sT sT,ke o,Gx a d,AH a f (by show(4:Int)≠2;decide),dR sT sT,dR sT sT];simp only[aI.mk.injEq];by_cases b:(i:Int)=c
  ·simp[b]
  ·simp[b]
 ·rw[qE a h];unfold Dn MB;simp only[tR];rw[dR sT sT,dR sT sT,ke k,ke x,ke y,ke o,Gx a d,AH a f (by show(6:Int)≠2;decide),dR sT sT,dR sT sT];simp only[aI.mk.injEq];by_cases b:(i:Int)=c
  ·simp[b];omega
  ·have g:¬c=(i:Int):=λe=>b e.symm;simp[b,g]
 ·rw[qE a h];unfold Dn MB;simp only[tR];have j:¬w=v:=λe=>u e.symm;rw[dR sT sT,dR sT sT,dR sT sT,dR sT sT,dR (by simp[j]) sT,dR sT sT,Gx a d,AH a f (by show(3:Int)≠2;decide),dR sT sT,dR (by simp[j]) sT];simp only[aI.mk.injEq];by_cases b:(i:Int)=c
  ·simp[b]
  ·have g:¬c=(i:Int):=λe=>b e.symm;simp[b,g]
theorem akG{A:Type}{L:List A}{F:A->Int}(h:∀a∈L,0<=F a):0<=tot L F:=by
 induction L with
 |nil=>show(0:Int)<=0;decide
 |cons x r ih =>
  rw[iU];have:=h x sT;have:=ih λa b=>h a (by simp[b]);omega
theorem akF{A:Type}{L:List A}{F G:A->Int}(h:∀a∈L,F a<=G a):tot L F<=tot L G:=by
 induction L with
 |nil=>show(0:Int)<=0;decide
 |cons x r ih =>
  rw[iU,iU];have:=h x sT;have:=ih λa b=>h a (by simp[b]);omega
def Ok{l:List Int}{i:Nat}(h:i<l.length):l.getD i 0∈l:=by
 rw[getD_eq_getElem?_getD,gF h];exact dH h
def ae5{s:af}(hr:s.right){w c n:Int}(h:fR s.bp c (aY s w)=0)(G:0<=n)(C:n<=lY s.bp c (aY s w))(H:n<=4611686018427387904):(∀v,0<=DC s.bp c n (aY s w) v/\DC s.bp c n (aY s w) v<=n)/\tot (range 16) (λk=>if(k:Int)+1=w then 0 else DC s.bp c n (aY s w) ((k:Int)+1))=n:=by
 obtain⟨k1,k2,k3⟩:=LW h;rw[k3]at C;have u:∀g∈cB s.bp c (aY s w),0<=g/\g<=4611686018427387904:=λg u=>by
  obtain⟨v,_,rfl⟩:=mem_map.1 u;exact⟨aeN k1 v c,(bf.1 (qD k1 _)).2⟩
 have f:(cB s.bp c (aY s w)).length=(aY s w).length:=by unfold cB;rw[qO]
 have r:=UP G C H u aj;have z:=oE n (cB s.bp c (aY s w));have y:aC (cy n (cB s.bp c (aY s w)))=n/\∀x∈cy n (cB s.bp c (aY s w)),0<=x:=by
  by_cases D:aC (cB s.bp c (aY s w))=0
  ·have J:n=0:=aj
   have e:cy n (cB s.bp c (aY s w))=replicate (cB s.bp c (aY s w)).length 0:=by unfold cy;rw[au r,au D]
   rw[e,J];refine⟨?_,λx B=>by rw[(mem_replicate.1 B).2];decide⟩;generalize (cB s.bp c (aY s w)).length=m;induction m with
   |zero=>rfl
   |succ m ih=>rw[replicate_succ,aC,ih];rfl
  ·exact DY r D
 obtain⟨ps,A⟩:=aL (cy n (cB s.bp c (aY s w)));obtain⟨ws,b⟩:=aL (aY s w);have p:∀v∈ws,(1<=v/\v<=16)/\v≠w:=λv t=>by
  rw[b]at t;refine⟨?_,GD t⟩;obtain⟨x,B,_,e⟩:=pV t;rw[show v=x from e];exact(xH hr.ak (w:=x) (by have:=Mc hr.ak B;omega)).2
 unfold DC;rw[<-A]at y z |-;rw[<-b]at f |-;rw[b]at f;have j:∀i∈range ps.length,0<=ps.getD i 0:=λi d=>y.2 _ (Ok (mem_range.1 d));have o:=U1 ps;rw[y.1]at o;refine⟨λv=>⟨akG λi d=>?_,?_⟩,?_⟩
 ·split
  ·exact j i d
  ·omega
 ·rw[<-o];refine akF λi d=>?_;have:=j i d;split<;>omega
 ·have E:∀k∈range 16,(if(k:Int)+1=w then 0 else tot (range ps.length) λi=>if ws.getD i 0=(k:Int)+1 then ps.getD i 0 else 0)=tot (range ps.length) λi=>if(k:Int)+1=w then 0 else if ws.getD i 0=(k:Int)+1 then ps.getD i 0 else 0:=λk _=>by
   by_cases q:(k:Int)+1=w
   ·simp only[au q];exact(lH λ_ _=>rfl).symm
   ·simp only[aq q]
  rw[iX E,adw];refine Eq.trans (iX λi d=>?_) o;have d:=mem_range.1 d;have I:=p _ (Ok (l:=ws) (i:=i) (by rw[b];omega));obtain⟨v,t⟩:=aL (ws.getD i 0);rw[<-t]at I |-
  have:=Cw (L:=range 16) (R:=λa c=>a<c) pairwise_lt_range (x:=(v-1).toNat) (mem_range.2 aj) (F:=λk:Nat=>if(k:Int)+1=w then 0 else if v=(k:Int)+1 then ps.getD i 0 else 0) (λa ha=>by
   split
   ·rfl
   ·rw[aq]
    omega)
  rw[this,aq aj,au aj]
def Wc{s:af}{w:Int}(m:n7 s w=0){c:Nat}(l:c<3):(tX s w)[c]?=some (bM s w c)/\lp s w c (aW s w c)=0/\l7 c (gm s w c (aW s w c)) (gC s w c (aW s w c))=0/\(gw ⟨4,0,c⟩ (iG s w).bp.bs=gw ⟨4,0,c⟩ s.bp.bs-(bM s w c).c2)/\(gw ⟨6,0,c⟩ (iG s w).bp.bs=gw ⟨6,0,c⟩ s.bp.bs-(bM s w c).rest)/\∀v,(1<=v/\v<=16)->v≠w->gw ⟨3,v,c⟩ (iG s w).bp.bs=gw ⟨3,v,c⟩ s.bp.bs-DC s.bp c (bM s w c).c3 (aY s w) v:=by
 obtain⟨e1,-,o,p⟩:=zD m;have j:=λi f=>Bb o i (Nat.zero_le i) (by omega:i<0+3);obtain⟨r,t⟩:=KQ (j c l);have b:(iG s w).bp=(qQ s w 3 0 s.bp []).1:=by unfold iG;rw[au m]
 have d:∀k:Int,(k=4\/k=6)->(⟨k,0,c⟩:aI)∈gf:=λk y=>oa.2 (by
  unfold aI.right;rw[aq (by dsimp only;omega)]
  rcases y with rfl|rfl<;>rfl)
 have e:∀v:Int,(1<=v/\v<=16)->(⟨3,v,c⟩:aI)∈gf:=λv h=>oa.2 (by
  unfold aI.right;rw[aq (by dsimp only;omega)];show(decide (1<=v)&&decide (v<=16))=true
  rw[dw h.1,dw h.2];rfl)
 have key:∀(a:aI)(X:Int),a∈gf->(∀i:Nat,i<3->(fK s w i).2.2=0->aC (dM a (fK s w i).1)=if(i:Int)=(c:Int)then X else 0)->gw a (qQ s w 3 0 s.bp []).1.bs=gw a s.bp.bs+X:=λa X x u=>by
  rw[GF x u 3 0 s.bp [] aj p,au aj]
 refine⟨?_,r,t,?_,?_,λv h n=>?_⟩
 ·unfold tX;rw[au m,gF (by rw[nZ];exact l),akC _ l]
 ·rw[b,key _ (-(bM s w c).c2) (d 4 (.inl rfl)) λi f g=>?_]
  ·omega
  ·rw[(Jy (j i f) g).1 (d 4 (.inl rfl))];by_cases q:(i:Int)=(c:Int)
   ·rw[au q,au q,show i=c by omega]
   ·rw[aq q,aq q]
 ·rw[b,key _ (-(bM s w c).rest) (d 6 (.inr rfl)) λi f g=>?_]
  ·omega
  ·rw[(Jy (j i f) g).2.1 (d 6 (.inr rfl))];by_cases q:(i:Int)=(c:Int)
   ·rw[au q,au q,show i=c by omega]
   ·rw[aq q,aq q]
 ·rw[b,key _ (-DC s.bp c (bM s w c).c3 (aY s w) v) (e v h) λi f g=>?_]
  ·omega
  ·rw[(Jy (j i f) g).2.2 v n (e v h)];by_cases q:(i:Int)=(c:Int)
   ·rw[au q,au q,show i=c by omega]
   ·rw[aq q,aq q]
def Ib(l:List bB)(w:Int):Sq 9 [] [.sl 17 (l.map bB.cells),.I w] [] (.bool true):=by
 rcases dN 1000 l.length with hlen|hlen
 ·have d:decide ((1000:Int)<(l.length:Int))=true:=jw;refine aX 183 2 [.tmp 4] mixed func9 ?_;exact eo d
 have d:decide ((1000:Int)<(l.length:Int))=false:=lJ;have cW:=B3;have x:=qp l hlen;have R:=vL l;obtain⟨s,hs⟩:=aL (Af l);rw[<-hs]at x R;clear hs;have E:=cPos R w;have D:=aiA R w;by_cases e:n7 s w=0
 case neg =>
  have N:(n7 s w==0)=false:=su e;simp only[af.cells,aJ.cells]at x E D |-;refine aX 183 2 [.tmp 4] mixed func9 ?_;refine sc d x ?_;refine sc aK E ?_;refine sc aK D ?_;cases O:(jN s w==0);all_goals
   refine sm (a3 dV N O) ?_;try refine aV ?_
   exact lX aK cW
 have N:(n7 s w==0)=true:=su e;obtain⟨e1,-,-,-⟩:=zD e;have O:(jN s w==0)=true:=su e1;have R2:=XR R e;have hg:=λ{c} J=>Wc (c:=c) e J;have aa:=λ{c n:Int} h h0 h1 h2=>ae5 (s:=s) (w:=w) (c:=c) (n:=n) R.right h h0 h1 h2;have S:(iT s w).length<2^29:=by
  have:=O4 s w R.gq R.small (by have:=R.right.lens.qs;omega);omega
 have L:=λc=>xC w c (iT s w) S;have cC:=λc g=>NU s w c g R.small (by have:=R.right.lens.ms;omega);have o:=λk v c=>jo s.bp ⟨k,v,c⟩ (by have:=R.right.lens.bs;omega);have p:=λk v c=>jo (iG s w).bp ⟨k,v,c⟩ (by have:=R2.right.lens.bs;omega);have hFl:(tX s w).length=3:=by unfold tX;rw[au e,nZ]
 have hwr:=(xH R.right.ak (w:=w) (by have:=(rB (rE e1).1).2;omega)).2;simp only[af.cells,aJ.cells,bu.cells,aI.cells]at x E D cC o p |-;refine aX 183 2 [.tmp 4] mixed func9 ?_;refine sc d x ?_;refine sc aK E ?_;refine sc aK D ?_;refine sm (a3 dV N O) ?_;refine aG.wv 3 [1,5,7,9,10] [96,160,560,672] (λi=>[(13,.I i)]) (λ_=>[]) ?_ ?_ ?_
 ·exact jh
 ·intro c _ J r ac _;have r:decide ((c:Int)<3)=true:=jw;obtain⟨g1,m,g3,g4,g5,g6⟩:=hg J;obtain⟨z,-⟩:=uM m g3;have B:=N9 (by rw[z]at g3;exact g3) (bM s w c) (by unfold bM jg;rw[z]);have ab:fR s.bp c (aY s w)=0:=by
   unfold lp at m;split at m
   case isFalse=>cases m
   split at m
   ·cases m
   split at m
   case isFalse=>cases m
   split at m
   case isFalse=>cases m
   rename_i G;simp only[Jv,cU,fE]at G;exact G.2.2.1
  obtain⟨K,v2⟩:=aa ab B.2.2.1.2.2.2.1 B.2.2.2.1.2.2.2.2 B.2.2.2.1.2.2.2.1;have y:=L c;have M:=cC c (aW s w c);rw[m,z]at M;have u:=Fg c (gm s w c (aW s w c)) (gC s w c (aW s w c)) (by rw[z];simp);rw[g3]at u;rw[show lu (c:Int) (gm s w c (aW s w c)) (gC s w c (aW s w c))=bM s w c from rfl,z]at u;have X:jF w c (iT s w)=aW s w c:=rfl;rw[X]at y;have l1:=o 4 0 c;have l2:=p 4 0 c;have l3:=o 6 0 c;have l4:=p 6 0 c;rw[g4]at l2;rw[g5]at l4;have H:=aM (c:=eu.cells) (tX s w) (i:=c) aj
  have U:(tX s w)[c]'aj=bM s w c:=by
   have:=gF (l:=tX s w) (i:=c) aj;rw[g1]at this;exact(Option.some.inj this).symm
  rw[U]at H;obtain⟨F,A⟩:=aL (bM s w c);rw[<-A]at B K v2 u l2 l4 H;simp only[<-A]at g6;have kF:=MT F F;rw[dw rfl]at kF;have w1:∀a b:Int,-4611686018427387904<=b/\b<=4611686018427387904->IntKind.wrap .i64 (a-(a-b))=b:=λa b h=>by rw[show a-(a-b)=b by omega];exact gx aj aj
  have w2:=w1 (gw ⟨4,0,c⟩ s.bp.bs) F.c2 aj;have w3:=w1 (gw ⟨6,0,c⟩ s.bp.bs) F.rest aj;have Z:(c:Int)<((tX s w).length:Int):=aj
  simp only[eu.cells]at u H kF;simp only[ints,map_cons,map_nil]at M u;refine sc r y ?_;refine sc aK M ?_;refine sc aK u ?_;refine sc (a3 H Z r) kF ?_;refine sc aK l1 ?_;refine sc aK l2 ?_;simp only[go_sem,seval,bne,w2,beq_self_eq_true];refine sc aK l3 ?_;refine sc aK l4 ?_;simp only[go_sem,seval,bne,w3,beq_self_eq_true];refine aV ?_;refine aG.wv 16 [1,5,7,9,10,13,17,19] [96,160,320,560,672,1120] (λi=>[(23,.I ((i:Int)+1)),(22,.I (IntKind.wrap .i64 (tot (range i) λk=>if(k:Int)+1=w then 0 else DC s.bp c F.c3 (aY s w) ((k:Int)+1))))]) (λ_=>[]) ?_ ?_ ?_
  ·simp only[go_sem,seval]<;>simp[tot,aC,show IntKind.wrap .i64 0=0 from rfl]
  ·intro i _ Y _ _ _;have j:(tot (range i++[i]) λk=>if(k:Int)+1=w then 0 else DC s.bp c F.c3 (aY s w) ((k:Int)+1))=(tot (range i) λk=>if(k:Int)+1=w then 0 else DC s.bp c F.c3 (aY s w) ((k:Int)+1))+if(i:Int)+1=w then 0 else DC s.bp c F.c3 (aY s w) ((i:Int)+1):=by
    rw[FF];simp[tot,aC]
   obtain⟨v,hv⟩:=aL ((i:Int)+1);have V:decide (v<=16)=true:=jw;have t:IntKind.wrap .i64 (v+1)=((i+1:Nat):Int)+1:=fU;have m1:=o 3 v c;have C:=p 3 v c;rw[<-hv]at j |-;obtain⟨T,hT⟩:=aL (tot (range i) λk=>if(k:Int)+1=w then 0 else DC s.bp c F.c3 (aY s w) ((k:Int)+1));rw[<-hT]at j |-
   by_cases q:v=w
   ·have f:(v==w)=true:=su q;rw[au q,Int.add_zero]at j;refine sc V m1 ?_;refine sc aK C ?_;refine sm (a3 dV f t) ?_;try refine aV ?_
    refine ah.v Y ?_;exact eo j
   have f:(v==w)=false:=su q;rw[aq q]at j;rw[g6 v aj q]at C;have K:=K v;obtain⟨P,hP⟩:=aL (DC s.bp c F.c3 (aY s w) v);rw[<-hP]at j C K;have wn:=w1 (gw ⟨3,v,c⟩ s.bp.bs) P aj;have dn:decide (P<0)=false:=lJ;have ws:IntKind.wrap .i64 (IntKind.wrap .i64 T+P)=IntKind.wrap .i64 (T+P):=Mm _ _;cases Q:decide (0<P)
   ·refine sc V m1 ?_;refine sc aK C ?_;refine sm (a5 dV f wn dn (a3 Q ws t)) ?_;try refine aV ?_
    refine ah.v Y ?_;exact eo j
   ·have hP0:0<P:=of_decide_eq_true Q;have G:=B.2.2.2.2 aj;have we:IntKind.wrap .i64 (IntKind.wrap .i64 (F.c0+F.c1)+F.c2)=IntKind.wrap .i64 (IntKind.wrap .i64 (uL s w c (aW s w c)+gw ⟨3,w,c⟩ s.bp.bs)+gw ⟨4,0,c⟩ s.bp.bs):=by rw[Mm,Mm,G]
    refine sc V m1 ?_;refine sc aK C ?_;simp only[go_sem,seval,bne,f,wn,dn,Q,ws,we,beq_self_eq_true,t];try refine aV ?_
    refine ah.v Y ?_;exact eo j
  ·intro _ _ _;have w9:IntKind.wrap .i64 F.c3=F.c3:=gx aj aj;rw[v2];simp only[go_sem,seval,bne,w9,beq_self_eq_true,ac];try refine aV ?_
   refine ah.v J ?_;exact iB
 ·intro _ W _;refine sm W ?_;try refine aV ?_
  exact lX aK cW
