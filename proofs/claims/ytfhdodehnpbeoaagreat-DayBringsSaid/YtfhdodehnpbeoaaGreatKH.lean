/- Parts. -/
import Derived.Test.YtfhdodehnpbeoaaGreatKE
import Derived.Test.YtfhdodehnpbeoaaGreatKF
set_option linter.all false
set_option maxHeartbeats 4000000
set_option maxRecDepth 16000
namespace Go.Proofs.YtfhdodehnpbeoaaGreat
open Go.Abs Tryz
open List hiding max min
def rH(r:ay)(n:Int)(q:r.small):Sq 66 [] [.agg r.cells,.I n] [] (.bD [.agg (jS aD.a n ⟨0,0,0,0⟩ r.xs).cells,.bool (decide (0<=lT aD.a n r.xs))]):=by
 obtain⟨l1,l2,l3⟩:=q;simp only[ay.cells];refine aX 28 2 [.cell 4 156,.tmp 5] mixed func66 ?_;refine s0 ?_;refine aG.w1 r.xs.length 6 [1,2,4] [48,80] (λi _=>∀j (d:j<r.xs.length),j<i->r.xs[j].a≠n) (by intros;omega) ?_ ?_
 ·intro i _ m k s e;have o:=aM (c:=aD.cells) r.xs m;have hlt:(i:Int)<(r.xs.length:Int):=aj
  simp only[aD.cells]at o |-;refine sm (a2 k o) ?_;refine aV ?_;cases p:r.xs[i].a==n
  ·have b:r.xs[i].a≠n:=su p;refine sm s ?_;refine ah.u m ?_ ?_
   ·intro j d hji;rcases dN j i with h|h
    ·exact e j d h
    ·obtain rfl:j=i:=aj
     exact b
   ·exact iB
  ·have b:r.xs[i].a=n:=su p;obtain⟨f,g⟩:=nj (z:=(⟨0,0,0,0⟩:aD)) m e b;have g3:decide (0<=(i:Int))=true:=jw;rw[f,g,g3];refine sm o ?_;exact RS
 ·intro _ l e;obtain⟨f,g⟩:=kY (z:=(⟨0,0,0,0⟩:aD)) (λj d=>e j d d);rw[f,g];simp only[go_sem,seval,l,aD.cells]
theorem XM{a:aI}{bs:List bY}(h:∀b∈bs,b.gq):jB (gw a bs):=by
 induction bs with
 |nil=>exact⟨by simp[gw],by simp[gw]⟩
 |cons b r ih =>
  simp only[gw];split
  ·exact(h b sT).2.2.2
  ·exact ih λb c=>h b (by simp[c])
def an8(a:aD)(n:Int):bA (a.V n)=true:=by
 simp only[aD.V];split
 ·unfold Le;split
  ·decide
  ·split
   ·assumption
   ·decide
 ·decide
def adD(r:ay)(w c:Int)(ps:List iu):∀n∈lS r w c ps,bA n=true:=by
 intro n a;simp only[lS,mem_map]at a;obtain⟨x,_,rfl⟩:=a;exact an8 _ _
theorem qD{l:bu}(h:l.okB=true)(a:aI):bA (gw a l.bs)=true:=by
 have c:=(ajF h).2;clear h;generalize l.bs=bs at c;induction bs with
 |nil=>rfl
 |cons b r ih =>
  simp only[gw];split
  ·exact c b sT
  ·exact ih λz d=>c z (by simp[d])
def vq{n:Int}(h:bA n=true):jB n:=by have:=bf.1 h;exact⟨by omega,by omega⟩
def Nb(l:bu)(r:ay)(ps:List iu)(w c:Int)(hl:l.bs.length<2^29)(hr:r.small)(hp:ps.length<2^29)(R:∀b∈l.bs,b.gq) :
  Sq 72 [] [.agg l.cells,.agg r.cells,.sl 3 (pl ps),.I w,.I c] [] (.bD [.I (Ci l r ps w c),.I (CK l r ps w c)]):=by
 have B:=ny l aj R;have C:=gW r hr;have N:=uw ps aj;have D:=jo l ⟨2,w,c⟩ aj;have F:=λn=>rH r n hr;simp only[bu.cells,aI.cells]at B D |-;simp only[ay.cells]at C F |-;refine aX 97 5 [.tmp 10,.tmp 11] mixed func72 ?_;refine sc aK B ?_;cases A:l.okB
 ·have e:uN l r ps=14:=by simp[uN,A]
  have j:CK l r ps w c=14:=by simp[CK,e]
  have e2:Ci l r ps w c=0:=by simp[Ci,e]
  exact eo (a2 j e2)
 refine sc aK C ?_;cases L:r.okB
 ·have e:uN l r ps=14:=by simp[uN,L]
  have j:CK l r ps w c=14:=by simp[CK,e]
  have e2:Ci l r ps w c=0:=by simp[Ci,e]
  exact eo (a2 j e2)
 refine sc aK N ?_;cases M:kf ps
 ·have e:uN l r ps=14:=by simp[uN,M]
  have j:CK l r ps w c=14:=by simp[CK,e]
  have e2:Ci l r ps w c=0:=by simp[Ci,e]
  exact eo (a2 j e2)
 have e:uN l r ps=0:=by simp[uN,A,L,M]
 have j:CK l r ps w c=if iV r w c ps != 0 then iV r w c ps else oF (gw ⟨2,w,c⟩ l.bs::lS r w c ps):=by simp[CK,e]
 have e2:Ci l r ps w c=if iV r w c ps != 0 then 0 else pY (gw ⟨2,w,c⟩ l.bs::lS r w c ps):=by simp[Ci,e]
 rw[j,e2];clear j e2 e;refine s0 ?_;refine az.aP D ?_;have m:=qD A ⟨2,w,c⟩;obtain⟨o,S⟩:=aL (gw ⟨2,w,c⟩ l.bs);rw[<-S]at m |-;refine s0 ?_;refine aG.wu ps.length [2,3,4,6] [112] (λi=>[(13,.I i),(12,.ref 1424)]) (λi=>[(1424,.own 1 (ints (o::lS r w c (ps.take i))))]) (λi=>iV r w c (ps.drop i)=iV r w c ps) rfl ?_ ?_ ?_
 ·simp only[go_sem,seval]<;>simp[lS,ints]
 ·intro i _ f J x g;have d:=Mh r w c ps f;have G:=F ps[i].bV;have hvl:=Cy r w c (ps.take i);have htl:(ps.take i).length=i:=by simp;omega
  have hli:(i:Int)<(ps.length:Int):=aj
  rw[Qr f]at g;simp only[iV]at g;obtain⟨a,O⟩:=aL (G7 r ps[i]);have H:jS aD.a ps[i].bV ⟨0,0,0,0⟩ r.xs=a:=O.symm;rw[H]at G;simp only[SZ,<-O]at g d;have P:=Dd a ps[i].units;simp only[aD.cells]at G P;clear B C N D F;simp only[go_sem,seval,J,oA ps f];refine sc aK G ?_;cases p:decide (0<=lT aD.a ps[i].bV r.xs)
  ·simp only[p,dU,iI,if_false]at g d;refine sm (a2 p x) ?_;refine aV ?_;refine ah.u f g ?_;simp only[go_sem,seval,d]
  cases s:ps[i].who==w
  ·simp only[p,s,dU,cz,iI,if_false]at g d;simp only[go_sem,seval,p,bne,s,x,oA ps f];refine aV ?_;refine ah.u f g ?_;simp only[go_sem,seval,d]
  cases y:a.b==c
  ·simp only[p,s,y,dU,Bool.and_false,cz,iI,if_false]at g d;simp only[go_sem,seval,p,bne,s,y,x,oA ps f];refine aV ?_;refine ah.u f g ?_;simp only[go_sem,seval,d]
  simp only[p,s,y,cz,Bool.and_self,if_true]at g d;simp only[go_sem,seval,p,bne,s,y,oA ps f];refine sc aK P ?_;cases z:a.E ps[i].units==0
  ·have q:(a.E ps[i].units != 0)=true:=by simp[bne,z]
   simp only[q,if_true]at g;have Q:iV r w c ps=a.E ps[i].units:=g.symm;simp only[go_sem,seval,bne,z,Q,Bool.not_false,if_true]
  ·have q:(a.E ps[i].units != 0)=false:=by simp[bne,z]
   simp only[q,iI,if_false]at g;simp only[go_sem,seval,bne,z,x,aA];refine aV ?_;refine ah.u f g ?_;simp only[go_sem,seval,d]<;>simp[ints]
 ·intro _ K g;simp only[jJ,iV]at g;have hlen:=Cy r w c ps;have k:∀n∈o::lS r w c ps,bA n=true:=λn v=>by
   rcases mem_cons.1 v with rfl|v
   ·exact m
   ·exact adD r w c ps n v
  have T:=fX (o::lS r w c ps) (λn v=>vq (k n v)) (by simp;omega);have h:=Pe k;rw[<-g];simp only[oF,pY,h,if_true,cz];simp only[go_sem,seval,K,eU];refine sl aK T ?_;cases t:bA (aC (o::lS r w c ps))
  ·exact gH t
  ·simp only[go_sem,seval,t,addN]<;>simp
def xD(s:af)(w c:Int)(B:s.fit)(hr:s.gq)(z:s.bp.bs.length<2^29)(A:s.ps.length<2^29):Sq 23 [] [.agg s.cells,.I w,.I c] [] (.bD [.I (uW s w c),.I (Mt s w c)]):=by
 obtain⟨g,u,_,_⟩:=B;have p:=Nb s.bp s.ak s.ps w c z g A hr.bs;have q:=mV s.book u hr.qs;have r:=Ls s.ak w c s.book.qs g u.2;simp only[bu.cells,ay.cells,aJ.cells]at p q r;simp only[af.cells,uW,Mt];refine aX 63 3 [.tmp 6,.tmp 7] mixed func23 ?_;refine sc aK p ?_;by_cases e:CK s.bp s.ak s.ps w c=0
 case neg =>
  have k:(CK s.bp s.ak s.ps w c==0)=false:=su e;simp only[go_sem,seval,bne,k,aq e]
 have a:=(ahn e).2.2.2;have b:=zl s.ak w c s.book.qs;have k:(CK s.bp s.ak s.ps w c==0)=true:=su e;simp only[go_sem,seval,bne,k,au e];refine az.aP q ?_;cases o:s.book.okB
 ·exact eo o
 refine sc o r ?_;by_cases i:xq s.ak w c s.book.qs=0
 case neg =>
  have l:(xq s.ak w c s.book.qs==0)=false:=su i;simp only[go_sem,seval,bne,l,aq i]
 have l:(xq s.ak w c s.book.qs==0)=true:=su i;simp only[au i];obtain⟨M,y⟩:=aL (uQ s.ak w c s.book.qs);obtain⟨C,x⟩:=aL (Ci s.bp s.ak s.ps w c);rw[<-x]at a |-;rw[<-y]at b |-;have i1:=bf.1 a;have i3:=bf.1 b;have D:IntKind.wrap .i64 (0-C) = -C:=fU;have t:=fX [M,-C] (by intro n v;simp only[mem_cons,not_mem_nil,or_false]at v;rcases v with rfl|rfl<;>exact⟨by omega,by omega⟩) sT;have h:aC [M,-C]=M-C:=by simp[aC];omega
 simp only[addN,h,ints,map_cons,map_nil]at t;refine sm (a3 dV l D) ?_;refine sl aK t ?_;simp only[Bq,Ai,a,b,cz,Bool.and_self,if_true];cases j:bA (M-C)
 ·by_cases f:M<=C
  ·have m:decide (C<M)=false:=lJ;simp only[go_sem,seval,j,m,au f,iI,if_false]<;>simp
  ·have m:decide (C<M)=true:=jw;simp only[go_sem,seval,j,m,aq f,iI,if_false]
 ·by_cases f:M<=C
  ·have d:max (M-C) 0=0:=aj
   simp only[go_sem,seval,j,d,au f]
  ·have d:max (M-C) 0=M-C:=aj
   simp only[go_sem,seval,j,d,aq f]
def pick{A:Type}(p:A->Bool)(f:A->Int)(xs:List A):List Int:=xs.flatMap λx=>if p x then[f x]else[]
def Cm{A:Type}(p:A->Bool)(f:A->Int){xs:List A}{i:Nat}(h:i<xs.length):pick p f (xs.take (i+1))=pick p f (xs.take i)++(if p xs[i]then[f xs[i]]else[]):=gU _ h
def bR{A:Type}(p:A->Bool)(f:A->Int)(xs:List A):(pick p f xs).length<=xs.length:=by
 have:=gJ (f:=λx=>if p x then[f x]else[]) (m:=1) (λx=>by split<;>simp) xs;simpa[pick]using this
def lB{A:Type}{p:A->Bool}{f:A->Int}{xs:List A}{R:Int->Prop}(h:∀x∈xs,R (f x)):∀n∈pick p f xs,R n:=by
 intro n a;obtain⟨x,b,a⟩:=mem_flatMap.1 a;split at a
 ·obtain rfl:n=f x:=su a;exact h x b
 ·cases a
def ga{A:Type}(p:A->Bool)(f:A->Int){xs:List A}{i:Nat}(h:i<xs.length):ints (pick p f (xs.take (i+1)))=ints (pick p f (xs.take i))++(if p xs[i]then[[.I (f xs[i])]]else[]):=by
 rw[Cm p f h];unfold ints;rw[jv];split<;>rfl
def aij(l:List Int):(bA (aC l)&&addN l==0)=(aC l==0):=by
 unfold addN;cases h:bA (aC l)
 ·have:aC l≠0:=λe=>by rw[e]at h;cases h
  simp[this]
 ·simp
def yj{l:List aN}(h:uR l=true):∀x∈l,x.br.right=true/\bA x.bT=true:=λx a=>by
 have:=cg.1 h x a;simpa only[ON,cU]using this
def oN(c:Int)(l:List aN):List Int:=pick (λx=>x.cur==c) aN.bT l
def wz(l:List aN):Bool:=(range 3).all λc=>aC (oN c l)==0
def nL(l:List aN):Int:=if l.length=0 then 2 else if 64<l.length then 5 else if uR l then(if wz l then 0 else 12)else 3
def Li(l:List aN)(hl:l.length<2^30):Sq 79 [] [.sl 4 (l.map aN.cells)] [] (.I (nL l)):=by
 have D:=Ff l aj;refine aX 54 1 [.tmp 2] mixed func79 ?_;refine s0 ?_;by_cases b:l.length=0
 ·have d:((l.length:Int)==0)=true:=by simp[b]
  have e:nL l=2:=by simp[nL,b]
  exact eo (a2 d e)
 have r:((l.length:Int)==0)=false:=su b;by_cases s:64<l.length
 ·have d:decide (64<(l.length:Int))=true:=jw;have e:nL l=5:=by simp only[nL];rw[aq b,au s]
  exact eo (a3 r d e)
 have C:decide (64<(l.length:Int))=false:=lJ;refine sc (a2 r C) D ?_;cases f:uR l
 ·have e:nL l=3:=by simp only[nL];rw[aq b,aq s,f];rfl
  exact eo e
 have e:nL l=if wz l then 0 else 12:=by simp only[nL];rw[aq b,aq s,f];rfl
 have z:=yj f;rw[e];clear e r C D;refine s0 ?_;refine aG.w1 3 3 [0] [] (λi _=>∀c<i,(aC (oN (c:Nat) l)==0)=true) sT ?_ ?_
 ·intro c _ g a A t;have a:decide ((c:Int)<3)=true:=a;have F:=fX (oN c l) (lB λx B=>vq (z x B).2) (by have:=bR (λx:aN=>x.cur==(c:Int)) aN.bT l;unfold oN;omega);have b:=aij (oN c l);refine sm a ?_;refine aG.wv l.length [0,3] [] (λi=>[(5,.I i),(4,.ref 688)]) (λi=>[(688,.own 1 (ints (oN c (l.take i))))]) ?_ ?_ ?_
  ·simp only[go_sem,seval]<;>simp[oN,pick,ints]
  ·intro i _ p w n _;have q:=aM (c:=aN.cells) l p;have m:ints (oN c (l.take (i+1)))=_:=ga (λx:aN=>x.cur==(c:Int)) aN.bT p;have j:=bR (λx:aN=>x.cur==(c:Int)) aN.bT (l.take i);have hlt:(l.take i).length=i:=by simp;omega
   have hli:(i:Int)<(l.length:Int):=aj
   have j:(oN c (l.take i)).length<=i:=by unfold oN;omega
   obtain⟨x,B⟩:=aL (l[i]);rw[<-B]at m q;simp only[aN.cells]at q;refine sm (a2 w q) ?_;refine aV ?_;cases E:x.cur==(c:Int)
   ·simp only[E,iI,if_false,if_true,append_nil]at m;refine sm n ?_;refine ah.v p ?_;simp only[go_sem,seval,m]<;>simp[oN]
   ·simp only[E,iI,if_false,if_true,append_nil]at m;simp only[go_sem,seval,n,aA,q];refine aV ?_;refine ah.v p ?_;simp only[go_sem,seval,m]<;>simp[oN]
  ·intro _ y _;simp only[go_sem,seval,y,eU];refine sl aK F ?_;cases f:bA (aC (oN c l))
   ·have:wz l=false:=by
     rw[wz,all_eq_false];exact⟨c,mem_range.2 g,by rw[f]at b;rw[<-b];simp⟩
    exact eo (a2 f this)
   cases o:addN (oN c l)==0
   ·have:wz l=false:=by
     rw[wz,all_eq_false];exact⟨c,mem_range.2 g,by rw[f,o]at b;rw[<-b];simp⟩
    exact eo (a4 f dV o this)
   rw[f,o]at b;refine sm (a4 f dV o A) ?_;refine ah.u g ?_ ?_
   ·intro k hk;rcases dN k c with h|h
    ·exact t k h
    ·obtain rfl:k=c:=aj
     exact b.symm
   ·exact iB
 ·intro _ a t;have a:decide ((3:Int)<3)=false:=a;have:wz l=true:=cg.2 λc g=>t c (mem_range.1 g);exact eo (a2 a this)
def dM(a:aI)(l:List aN):List Int:=pick (λx=>x.br.same a) aN.bT l
def xp(a:aI)(n:Int):List aN:=if n==0 then[]else[⟨a.kind,a.who,a.cur,n⟩]
def sn(l:List aN)(b:List aI):List aN:=b.flatMap λa=>xp a (aC (dM a l))
def mR(l:List aN)(b:List aI):Bool:=b.all λa=>bA (aC (dM a l))
def nq(l:List aN):Int:=if uR l then(if mR l gf then 0 else 1)else 3
def kj(l:List aN):List aN:=if nq l=0 then sn l gf else[]
def Ts(a:aI)(n:Int):(xp a n).length<=1:=by unfold xp;split<;>simp
def Oy(l:List aN)(b:List aI):(sn l b).length<=b.length:=by
 have:=gJ (f:=λa=>xp a (aC (dM a l))) (m:=1) (λa=>Ts _ _) b;simpa[sn]using this
def Q5(l:List aN)(hl:l.length<2^29):Sq 330 [] [.sl 4 (l.map aN.cells)] [.own 4 ((kj l).map aN.cells)] (.bD [.ref 0,.I (nq l)]):=by
 have E:=Ff l aj;have j:=Fe;refine aX 65 1 [.tmp 2,.tmp 3] mixed func330 ?_;refine sc aK E ?_;cases f:uR l
 ·have e:nq l=3:=by simp[nq,f]
  have e2:kj l=[]:=by simp[kj,e]
  exact gH (a2 e e2)
 have e:nq l=if mR l gf then 0 else 1:=by simp[nq,f]
 have e2:kj l=if mR l gf then sn l gf else[]:=by simp only[kj,e];cases mR l gf<;>simp
 have C:=yj f;have z:=Ej;rw[e,e2];clear e e2 E;obtain⟨b,n⟩:=aL (gf);rw[<-n]at j z |-;clear n;refine s0 ?_;refine az.iw [240] [] false sT ?_;refine s0 ?_;refine dL.ij j ?_;refine s0 ?_;refine aG.wu b.length [0,5] [256] (λi=>[(6,.I i),(4,.ref 1024)]) (λi=>[(1024,.own 4 ((sn l (b.take i)).map aN.cells))]) (λi=>mR l (b.drop i)=mR l b) rfl ?_ ?_ ?_
 ·simp only[go_sem,seval]<;>simp[sn]
 ·intro k _ o B s g;have h:=aM (c:=aI.cells) b o;have hlk:(k:Int)<(b.length:Int):=aj
  have d:sn l (b.take (k+1))=sn l (b.take k)++_:=gU _ o;have hjl:=Oy l (b.take k);have hjt:(b.take k).length=k:=by simp;omega
  obtain⟨a,F⟩:=aL (b[k]);rw[dI o,<-F]at g;simp only[mR,all_cons]at g;rw[<-F]at h d;have H:=fX (dM a l) (lB λx D=>vq (C x D).2) (by have:=bR (λx:aN=>x.br.same a) aN.bT l;unfold dM;omega);simp only[aI.cells]at h;refine sm B ?_;refine aG.wv l.length [0,4,5,6] [256,1024] (λi=>[(8,.I i),(7,.ref 736)]) (λi=>[(736,.own 1 (ints (dM a (l.take i))))]) ?_ ?_ ?_
  ·simp only[go_sem,seval]<;>simp[dM,pick,ints]
  ·intro i _ w A r _;have y:=aM (c:=aN.cells) l w;have q:ints (dM a (l.take (i+1)))=ints (dM a (l.take i))++_:=ga (λx:aN=>x.br.same a) aN.bT w;have p:=bR (λx:aN=>x.br.same a) aN.bT (l.take i);have hlt:(l.take i).length=i:=by simp;omega
   have hli:(i:Int)<(l.length:Int):=aj
   have p:(dM a (l.take i)).length<=i:=by unfold dM;omega
   obtain⟨x,D⟩:=aL (l[i]);have J:Sq 57 [] [.agg [.I x.kind,.I x.who,.I x.cur],.agg [.I a.kind,.I a.who,.I a.cur]] [] (.bool (x.br.same a)):=xz x.br a;rw[<-D]at q y;simp only[aN.cells]at y;refine sc (a3 A y h) J ?_;cases G:x.br.same a
   ·simp only[G,iI,if_false,if_true,append_nil]at q;refine sm r ?_;refine ah.v w ?_;exact eo q
   ·simp only[G,iI,if_false,if_true,append_nil]at q;simp only[go_sem,seval,r,aA,y];refine aV ?_;refine ah.v w ?_;exact eo q
  ·intro _ m _;simp only[go_sem,seval,m,eU];refine sl aK H ?_;cases f:bA (aC (dM a l))
   ·rw[f,dU]at g;have:mR l b=false:=g.symm;exact gH (a2 f this)
   rw[f,cz]at g;have K:addN (dM a l)=aC (dM a l):=by simp[addN,f]
   rw[K];cases t:aC (dM a l)==0
   ·simp only[xp,t]at d;refine sm (a5 f dV t s h) ?_;refine aV ?_;refine ah.u o g ?_;exact gH d
   ·simp only[xp,t]at d;refine sm (a4 f dV t s) ?_;refine ah.u o g ?_;exact gH d
 ·intro _ m g;rw[jJ]at g;have:mR l b=true:=g.symm;simp only[go_sem,seval,m,this,eU]<;>simp
def tG(l:List aN)(a:l.length<2^29):Sq 330 [] [.sl 4 (l.map aN.cells)] [] (.bD [.sl 4 ((kj l).map aN.cells),.I (nq l)]):=by
 refine Spec.frozen (Q5 l a) [0] rfl ?_;intro r;rcases r with _|r<;>rfl
def rG(l:bu)(g:List aN)(a:aI):Int:=aC (gw a l.bs::dM a g)
def wW(a:aI)(n:Int):List bY:=if n==0 then[]else[⟨a.kind,a.who,a.cur,n⟩]
def Ig(l:bu)(g:List aN)(b:List aI):List bY:=b.flatMap λa=>wW a (rG l g a)
def wF(l:bu)(g:List aN)(b:List aI):Bool:=b.all λa=>bA (rG l g a)
def yA(l:bu)(g:List aN)(b:List aI):Bool:=b.any λa=>decide (rG l g a<a.floor)
def fM(l:bu)(id:Int)(g:List aN):Int:=
 if l.okB then(if within id 1 1099511627776 then(if id<=l.last then 18 else if nL g=0 then(if wF l g gf then(if yA l g gf then 13 else 0)else 1)else nL g)else 3)else 14
def jO(l:bu)(id:Int)(g:List aN):bu:=if fM l id g=0 then⟨id,Ig l g gf⟩else⟨0,[]⟩
def Sa(a:aI)(n:Int):(wW a n).length<=1:=by unfold wW;split<;>simp
def T9(l:bu)(g:List aN)(b:List aI):(Ig l g b).length<=b.length:=by
 have:=gJ (f:=λa=>wW a (rG l g a)) (m:=1) (λa=>Sa _ _) b;simpa[Ig]using this
def Jz{g:List aN}(h:nL g=0):uR g=true/\wz g=true/\g.length<=64:=by
 unfold nL at h;split at h
 ·cases h
 split at h
 ·cases h
 split at h
 ·split at h
  ·rename_i h1 h2 a b;exact⟨a,b,by omega⟩
  ·cases h
 ·cases h
def Q7(l:bu)(id:Int)(g:List aN)(hl:l.bs.length<2^30)(hr:∀b∈l.bs,b.gq)(hg:g.length<2^29):Sq 31 [] [.agg l.cells,.I id,.sl 4 (g.map aN.cells)] [.own 4 ((jO l id g).bs.map bY.cells)] (.bD [.agg [.I (jO l id g).last,.ref 0],.I (fM l id g)]):=by
 have C:=ny l hl hr;have hC:=Li g aj;have w:=Fe;have V:=λa=>jo l a hl;have aa:=λa=>XM (a:=a) hr;simp only[bu.cells,aI.cells]at C V |-;refine aX 116 3 [.cell 6 36,.tmp 7] mixed func31 ?_;refine sc aK C ?_;cases q:l.okB
 ·have e:fM l id g=14:=by simp[fM,q]
  simp only[go_sem,seval,jO,e]<;>simp
 cases m:within id 1 1099511627776
 ·have e:fM l id g=3:=by simp[fM,q,m]
  simp only[within,Bool.and_eq_false_iff,gP]at m;by_cases h:id<1
  ·have d:decide (id<1)=true:=dw h;simp only[go_sem,seval,d,jO,e]<;>simp
  ·have d:decide (id<1)=false:=gB h;have F:decide (1099511627776<id)=true:=jw;simp only[go_sem,seval,d,F,jO,e]<;>simp
 have U:decide (id<1)=false:=by simp only[within,cU,bO]at m;exact lJ
 have F:decide (1099511627776<id)=false:=by simp only[within,cU,bO]at m;exact lJ
 by_cases G:id<=l.last
 ·have P:decide (id<=l.last)=true:=dw G;have e:fM l id g=18:=by simp[fM,q,m,G]
  simp only[go_sem,seval,U,F,P,jO,e]<;>simp
 have P:decide (id<=l.last)=false:=gB G;refine sc (a3 U F P) hC ?_;cases O:nL g==0
 ·have H:nL g≠0:=su O;have e:fM l id g=nL g:=by simp[fM,q,m,G,H]
  have e2:jO l id g=⟨0,[]⟩:=by simp[jO,e,H]
  exact gH (a4 dV O e e2)
 have H:nL g=0:=su O;have e:fM l id g=if wF l g gf then(if yA l g gf then 13 else 0)else 1:=by simp[fM,q,m,G,H]
 have Z:=yj (Jz H).1;have W:=Ej;simp only[jO];rw[e];clear e C hC m U F P;obtain⟨f,K⟩:=aL (gf);rw[<-K]at w W |-;clear K;refine sm (a2 dV O) ?_;refine az.iw [704] [] false sT ?_;refine s0 ?_;refine dL.ij w ?_;refine s0 ?_;refine aG.wu f.length [2,3,6,8,10,12] [64,112,144,720] (λi=>[(13,.I i),(11,.bool (yA l g (f.take i)))]) (λi=>[(176,.box [.I id,.ref 1792]),(1792,.own 4 ((Ig l g (f.take i)).map bY.cells))]) (λi=>wF l g (f.drop i)=wF l g f) rfl ?_ ?_ ?_
 ·simp only[go_sem,seval]<;>simp[Ig,yA]
 ·intro k _ y Y t r;have o:=aM (c:=aI.cells) f y;have hlk:(k:Int)<(f.length:Int):=aj
  have j:Ig l g (f.take (k+1))=Ig l g (f.take k)++_:=gU _ y;have p:yA l g (f.take (k+1))=(yA l g (f.take k)||decide (rG l g f[k]<f[k].floor)):=by
   simp only[yA];rw[j7 y,any_append];simp
  have hjl:=T9 l g (f.take k);have hjt:(f.take k).length=k:=by simp;omega
  obtain⟨a,ha⟩:=aL (f[k]);rw[dI y,<-ha]at r;simp only[wF,all_cons]at r;rw[<-ha]at o j p
  have hA:=fX (gw a l.bs::dM a g) (λn M=>by
   rcases mem_cons.1 M with rfl|M
   ·exact aa a
   ·exact lB (λx T=>vq (Z x T).2) n M) (by have:=bR (λx:aN=>x.br.same a) aN.bT g;simp only[length_cons,dM];omega)
  have hF:=BH a;have J:=V a;simp only[aI.cells]at o hF J;clear V;refine sc (a2 Y o) J ?_;refine aG.wv g.length [2,3,6,8,10,11,12,13] [64,112,144,176,720,1792] (λi=>[(15,.I i),(14,.ref 1312)]) (λi=>[(1312,.own 1 (ints (gw a l.bs::dM a (g.take i))))]) ?_ ?_ ?_
  ·simp only[go_sem,seval]<;>simp[dM,pick,ints]
  ·intro i _ R X N _;have S:=aM (c:=aN.cells) g R;have B:ints (dM a (g.take (i+1)))=ints (dM a (g.take i))++_:=ga (λx:aN=>x.br.same a) aN.bT R;have A:=bR (λx:aN=>x.br.same a) aN.bT (g.take i);have hlt:(g.take i).length=i:=by simp;omega
   have hli:(i:Int)<(g.length:Int):=aj
   have A:(gw a l.bs::dM a (g.take i)).length<=i+1:=by simp only[length_cons,dM];omega
   obtain⟨x,T⟩:=aL (g[i]);rw[<-T]at B;have B:ints (gw a l.bs::dM a (g.take (i+1)))=ints (gw a l.bs::dM a (g.take i))++(if x.br.same a then[[.I x.bT]]else[]):=congrArg (λz:List (List D)=>([D.I (gw a l.bs)]:List D)::z) B;obtain⟨L,C⟩:=aL (gw a l.bs::dM a (g.take i));have Q:Sq 57 [] [.agg [.I x.kind,.I x.who,.I x.cur],.agg [.I a.kind,.I a.who,.I a.cur]] [] (.bool (x.br.same a)):=xz x.br a;rw[<-C]at B;rw[<-T]at S;rw[<-C]at A |-;simp only[aN.cells]at S;refine sc (a3 X S o) Q ?_;cases hb:x.br.same a
   ·simp only[hb,iI,if_false,if_true,append_nil]at B;refine sm N ?_;refine ah.v R ?_;exact gH B
   ·simp only[hb,iI,if_false,if_true,append_nil]at B;simp only[go_sem,seval,N,aA,S];refine aV ?_;refine ah.v R ?_;exact gH B
  ·intro _ s _;simp only[go_sem,seval,s,eU];refine sl aK hA ?_;have Q:aC (gw a l.bs::dM a g)=rG l g a:=rfl;have M:bA (rG l g a)=true->addN (gw a l.bs::dM a g)=rG l g a:=λh=>by simp[addN,Q,h]
   rw[Q];cases q:bA (rG l g a)
   ·rw[q,dU]at r;have:wF l g f=false:=r.symm;exact gH (a2 q this)
   rw[q,cz]at r;rw[M q];cases E:yA l g (f.take k)
   case true =>
    rw[E,Bool.true_or]at p;cases m:rG l g a==0
    ·simp only[wW,m]at j;refine sm (a5 q E dV m (a2 t o)) ?_;refine aV ?_;refine ah.u y r ?_;exact gH (a2 j p)
    ·simp only[wW,m]at j;refine sm (a5 q E dV m t) ?_;refine ah.u y r ?_;exact gH (a2 j p)
   rw[E,Bool.false_or]at p;refine sm (a4 q E dV o) ?_;refine sc aK hF ?_;cases m:rG l g a==0
   ·simp only[wW,m]at j;refine sm (a4 m t o dV) ?_;refine aV ?_;refine ah.u y r ?_;exact gH (a2 j p)
   ·simp only[wW,m]at j;refine sm (a3 m dV t) ?_;refine ah.u y r ?_;exact gH (a2 j p)
 ·intro _ s r;rw[jJ]at r;have:wF l g f=true:=r.symm;cases b5:yA l g f
  ·simp only[go_sem,seval,s,this,eU,b5]<;>simp
  ·simp only[go_sem,seval,s,this,eU,b5]<;>simp
def xy(l:bu)(id:Int)(g:List aN)(c:l.bs.length<2^30)(hr:∀b∈l.bs,b.gq)(a:g.length<2^29):Sq 31 [] [.agg l.cells,.I id,.sl 4 (g.map aN.cells)] [] (.bD [.agg (jO l id g).cells,.I (fM l id g)]):=by
 refine Spec.frozen (Q7 l id g c hr a) [0] rfl ?_;intro r;rcases r with _|r<;>rfl
def zN(n:Int):right [n]=bA n:=by simp[right]
def CY(l:List aN)(hl:l.length<2^40):Sq 256 [] [.sl 4 (l.map aN.cells)] [] (.bool (uR l)):=by
 refine aX 23 1 [.tmp 2] mixed func256 ?_;refine s0 ?_;refine aG.w1 l.length 7 [5,6] [112] (λi _=>uR (l.drop i)=uR l) rfl ?_ ?_
 ·intro i _ g e j a;have h:=aM (c:=aN.cells) l g;obtain⟨x,n⟩:=aL (l[i]);have m:=qU x.br;have d:=eH [x.bT] sT;rw[zN]at d;simp only[ints,map_cons,map_nil]at d;have hli:(i:Int)<(l.length:Int):=aj
  rw[dI g,<-n]at a;rw[<-n]at h;have o:ON x=(aI.right ⟨x.kind,x.who,x.cur⟩&&bA x.bT):=rfl;simp only[uR,all_cons,o]at a;simp only[aN.cells]at h;simp only[aI.cells,aN.br]at m;refine sc (a2 e h) m ?_;cases b:aI.right ⟨x.kind,x.who,x.cur⟩
  ·rw[b]at a;simp only[go_sem,seval,uR,<-a,dU]
  refine sl aK d ?_;cases k:bA x.bT
  ·rw[b,k]at a;simp only[go_sem,seval,uR,<-a,dU,Bool.and_false]
  rw[b,k,Bool.and_self,cz]at a;refine sm j ?_;refine ah.u g a ?_;exact iB
 ·intro _ f a;rw[jJ]at a;simp only[go_sem,seval,f,<-a];rfl
def Tr(x y:aN):∃c:Int,Sq 258 [] [.agg x.cells,.agg y.cells] [] (.I c)/\decide (c<0)=x.br.less y.br:=by
 have a:=wV x.br y.br;have d:=wV y.br x.br;obtain⟨e,g⟩:∃b,b=x.br.less y.br:=⟨_,rfl⟩
 obtain⟨f,e2⟩:∃b,b=y.br.less x.br:=⟨_,rfl⟩
 rw[<-g]at a |-;rw[<-e2]at d;simp only[aI.cells,aN.br]at a d;simp only[aN.cells];cases e
 ·cases f
  ·refine⟨0,?_,rfl⟩;refine aX 17 2 [.tmp 4] mixed func258 ?_;refine sc aK a ?_;exact lX aK d
  ·refine⟨1,?_,rfl⟩;refine aX 17 2 [.tmp 4] mixed func258 ?_;refine sc aK a ?_;exact lX aK d
 ·refine⟨-1,?_,rfl⟩;refine aX 17 2 [.tmp 4] mixed func258 ?_;exact lX aK a
def pE(a:aI)(y:aN):Bool:=y.br.same a
def Rt(a:aI)(l:List aN):List Int:=(l.takeWhile (pE a)).map aN.bT
def EG:Nat->List aN->List aN->List aN×Int
 | 0,_,out=>(out,0)
 | _+1,[],out=>(out,0)
 |n+1,x::r,out=>if bA (aC (Rt x.br (x::r)))then EG n ((x::r).dropWhile (pE x.br)) (out++xp x.br (aC (Rt x.br (x::r))))else([],1)
def tQ(x y:aN):Bool:=x.br.less y.br
def yc(l:List aN):List aN×Int:=if uR l then EG (DZ tQ l).length (DZ tQ l) []else([],3)
theorem RN{A:Type}{p:A->Bool}:∀{l:List A} {k:Nat},k<=l.length->(∀m y,m<k->l[m]?=some y->p y=true)->(∀y,l[k]?=some y->p y=false)->l.takeWhile p=l.take k/\l.dropWhile p=l.drop k
 | [],k,_,_,_=>by simp
 |x::r,0,_,_,h=>by
  have:=h x rfl;simp[takeWhile,dropWhile,this]
 |x::r,k+1,hk,h1,h2=>by
  have c:=h1 0 x aj rfl;simp only[length_cons]at hk;obtain⟨b,e2⟩:=RN (l:=r) (k:=k) aj (λm y hm a=>h1 (m+1) y aj a) (λy a=>h2 y a);simp[takeWhile,dropWhile,c,b,e2]
def SY(n:Nat)(out:List aN):EG n [] out=(out,0):=by cases n<;>rfl
def Kl(l:List aN)(hl:l.length<2^29):Sq 135 [] [.sl 4 (l.map aN.cells)] [.own 4 ((yc l).1.map aN.cells)] (.bD [.ref 0,.I (yc l).2]):=by
 have hM:=CY l aj;refine aX 68 1 [.tmp 2,.tmp 3] mixed func135 ?_;refine sc aK hM ?_;cases Q:uR l
 ·simp only[go_sem,seval,yc,Q]<;>simp
 have hS:=RG tQ 258 Tr l aj;have X:=yO tQ l;obtain⟨S,J⟩:=aL (DZ tQ l);have hj:yc l=EG S.length S []:=by rw[yc,Q,au rfl,<-J]
 rw[hj];rw[<-J]at hS X;have hSl:S.length=l.length:=X.length_eq;have L:∀x∈S,bA x.bT=true:=λx F=>(yj Q x (X.mem_iff.1 F)).2;obtain⟨N,Z⟩:=aL (S.length);rw[<-Z];refine sg [272] aK hS ?_;have g:S.length=N:=Z.symm;refine aG.yh (T:=Nat×Nat×List aN) [4] [272] (λs=>[(6,.I ((s.2.1:Nat):Int)),(5,.ref 1072)]) (λs=>[(1072,.own 4 (s.2.2.map aN.cells))]) (λs=>s.2.1<=N/\N-s.2.1<=s.1/\s.2.2.length<=s.2.1/\EG s.1 (S.drop s.2.1) s.2.2=EG N S []) (λs=>N-s.2.1) (N,0,[]) ⟨Nat.zero_le _,Nat.sub_le _ _,fO _,rfl⟩ ?_ ?_
 ·exact jh
 ·rintro⟨n,i,out⟩ ⟨h1,h2,h3,h4⟩;dsimp only at h1 h2 h3 h4;rcases dN i N with hi|hi
  ·have R:decide ((i:Int)<(N:Int))=true:=jw;have C:i<S.length:=aj
   obtain⟨x,F⟩:=ld C;have e:S.drop i=x::S.drop (i+1):=by
    rw[drop_eq_getElem_cons C];congr 1;rw[gF C]at F;exact Option.some.inj F
   have P:=(kM (c:=aN.cells) F F).1;obtain⟨j,rfl⟩:∃j,n=j+1:=⟨n-1,by omega⟩
   simp only[aN.cells]at P;refine sm (a3 g R P) ?_;refine aV ?_;refine aG.yh (T:=Nat) [4,5,8] [144,272,1072] (λk=>[(6,.I ((i+k:Nat):Int)),(7,.ref 816)]) (λk=>[(816,.own 1 (ints (((S.drop i).take k).map aN.bT)))]) (λk=>i+k<=N/\∀m y,m<k->(S.drop i)[m]?=some y->pE x.br y=true) (λk=>N-(i+k)) 0 ⟨by omega,by intro m y P;omega⟩ ?_ ?_
   ·simp only[go_sem,seval,Nat.add_zero]<;>simp[ints]
   ·rintro k ⟨k1,k2⟩;have htk:((S.drop i).take k).length<=k:=by rw[gh];omega
    rcases dN (i+k) N with hik|hik
    ·have O:decide (((i+k:Nat):Int)<(N:Int))=true:=jw;have wk:IntKind.wrap .i64 (((i+k:Nat):Int)+1)=((i+(k+1):Nat):Int):=fU;have K:i+k<S.length:=aj
     obtain⟨y,r⟩:=ld K;have G:(S.drop i)[k]?=some y:=by rw[getElem?_drop];exact r
     have D:=(kM (c:=aN.cells) r r).1;have q:(y.kind==x.kind&&(y.who==x.who&&y.cur==x.cur))=pE x.br y:=rfl;simp only[aN.cells]at D;cases H:pE x.br y
     ·rw[H]at q;have W:0<k:=by
       rcases Nat.eq_zero_or_pos k with U|U
       ·subst U;rw[Nat.add_zero,F]at r;obtain rfl:=Option.some.inj r;rw[pE,Ft.2 ⟨rfl,rfl,rfl⟩]at H;cases H
       ·exact U
      have M:=RN (p:=pE x.br) (l:=S.drop i) (k:=k) (by rw[iC];omega) k2 (λz t=>by rw[G]at t;obtain rfl:=Option.some.inj t;exact H);refine sm (a4 g O D q) ?_;refine aV ?_;have w:Rt x.br (x::S.drop (i+1))=((S.drop i).take k).map aN.bT:=by rw[<-e,Rt,M.1]
      have B:(x::S.drop (i+1)).dropWhile (pE x.br)=S.drop (i+k):=by rw[<-e,M.2,drop_drop]
      rw[e,EG,w,B]at h4;have b:∀a∈((S.drop i).take k).map aN.bT,bA a=true:=by
       intro a V;obtain⟨y,r,rfl⟩:=mem_map.1 V;exact L y (mem_of_mem_drop (mem_of_mem_take r))
      have v:(((S.drop i).take k).map aN.bT).length<=N:=by rw[qO,gh,iC];omega
      obtain⟨A,u⟩:=aL (((S.drop i).take k).map aN.bT);rw[<-u]at h4 b v |-;have d:=ju A aj;have E:right A=true:=cg.2 b;rw[pY,oF,E,cz,au rfl]at d;refine gK.id ?_;refine sl aK d ?_;cases f:bA (aC A)
      ·rw[f,aq sD]at h4;rw[<-h4];exact gH f
      ·rw[f,au rfl]at h4;cases o:aC A==0
       ·rw[xp,o,aq sD]at h4;refine sm (a3 f dV o) ?_;refine aV ?_;refine⟨(j,i+k,out++[⟨x.br.kind,x.br.who,x.br.cur,aC A⟩]),⟨k1,by show N-(i+k)<=j;omega,by show(out++[_]).length<=i+k;rw[ct];simp only[length_cons,length_nil];omega,h4⟩,?_,by show N-(i+k)<N-i;omega⟩;simp only[go_sem,seval,jv]<;>simp[aN.br]
       ·rw[xp,o,au rfl,append_nil]at h4;refine sm (a3 f dV o) ?_;refine aV ?_;refine⟨(j,i+k,out),⟨k1,by show N-(i+k)<=j;omega,by show out.length<=i+k;omega,h4⟩,?_,by show N-(i+k)<N-i;omega⟩;exact jh
     ·rw[H]at q;simp only[go_sem,seval,g,O,D,q,aA,wk];refine aV ?_;have Y:((S.drop i).take (k+1)).map aN.bT=((S.drop i).take k).map aN.bT++[y.bT]:=by rw[take_add_one,G,jv];rfl
      refine⟨k+1,⟨by omega,?_⟩,?_,by show N-(i+(k+1))<N-(i+k);omega⟩
      ·intro m z P t;rcases dN m k with h|h
       ·exact k2 m z h t
       ·obtain rfl:m=k:=aj
        rw[G]at t;obtain rfl:=Option.some.inj t;exact H
      ·simp only[go_sem,seval,Y,ints,jv,map_cons,map_nil]
    ·have O:decide (((i+k:Nat):Int)<(N:Int))=false:=lJ;have W:0<k:=aj
     have M:=RN (p:=pE x.br) (l:=S.drop i) (k:=k) (by rw[iC];omega) k2 (λz t=>by rw[getElem?_eq_none (by rw[iC];omega)]at t;cases t);refine sm (a2 g O) ?_;refine aV ?_;have w:Rt x.br (x::S.drop (i+1))=((S.drop i).take k).map aN.bT:=by rw[<-e,Rt,M.1]
     have B:(x::S.drop (i+1)).dropWhile (pE x.br)=S.drop (i+k):=by rw[<-e,M.2,drop_drop]
     rw[e,EG,w,B]at h4;have b:∀a∈((S.drop i).take k).map aN.bT,bA a=true:=by
      intro a V;obtain⟨y,r,rfl⟩:=mem_map.1 V;exact L y (mem_of_mem_drop (mem_of_mem_take r))
     have v:(((S.drop i).take k).map aN.bT).length<=N:=by rw[qO,gh,iC];omega
     obtain⟨A,u⟩:=aL (((S.drop i).take k).map aN.bT);rw[<-u]at h4 b v |-;have d:=ju A aj;have E:right A=true:=cg.2 b;rw[pY,oF,E,cz,au rfl]at d;refine gK.id ?_;refine sl aK d ?_;cases f:bA (aC A)
     ·rw[f,aq sD]at h4;rw[<-h4];exact gH f
     ·rw[f,au rfl]at h4;cases o:aC A==0
      ·rw[xp,o,aq sD]at h4;refine sm (a3 f dV o) ?_;refine aV ?_;refine⟨(j,i+k,out++[⟨x.br.kind,x.br.who,x.br.cur,aC A⟩]),⟨k1,by show N-(i+k)<=j;omega,by show(out++[_]).length<=i+k;rw[ct];simp only[length_cons,length_nil];omega,h4⟩,?_,by show N-(i+k)<N-i;omega⟩;simp only[go_sem,seval,jv]<;>simp[aN.br]
      ·rw[xp,o,au rfl,append_nil]at h4;refine sm (a3 f dV o) ?_;refine aV ?_;refine⟨(j,i+k,out),⟨k1,by show N-(i+k)<=j;omega,by show out.length<=i+k;omega,h4⟩,?_,by show N-(i+k)<N-i;omega⟩;exact jh
  ·have R:decide ((i:Int)<(N:Int))=false:=lJ;rw[drop_of_length_le aj,SY]at h4;rw[<-h4];exact gH (a2 g R)
def Zf:Ord tQ where
 asy x y h:=by
  unfold tQ at *;rw[ab4];rw[QG]at h;unfold aI.lt at *;omega
 Ye x y z h1 h2:=by
  unfold tQ at *;rw[ab4]at *;unfold aI.lt at *;omega
theorem ab8{A:Type}{p:A->Bool}:∀{l:List A} {y:A},y∈l.takeWhile p->p y=true
 | [],y,h=>by cases h
 |x::r,y,h=>by
  rw[takeWhile_cons]at h;split at h
  ·rename_i a;rcases mem_cons.1 h with rfl|h
   ·exact a
   ·exact ab8 h
  ·cases h
def sZ{a:aI}{y:aN}:pE a y=true↔y.br=a:=by
 unfold pE;rw[Ft];obtain⟨a1,a2,a3⟩:=a;generalize y.br=b;obtain⟨b1,b2,b3⟩:=b;rw[aI.mk.injEq]
def Ce(a:aI)(l m:List aN):dM a (l++m)=dM a l++dM a m:=by simp[dM,pick]
theorem zj{a:aI}:∀{l:List aN},(∀y∈l,y.br≠a)->dM a l=[]
 | [],_=>rfl
 |y::r,h=>by
  have c:y.br.same a=false:=by
   cases d:y.br.same a with
   |false=>rfl
   |true=>exact absurd (sZ.1 d) (h y sT)
  have b:=zj (l:=r) λz e=>h z (by simp[e]);simp only[dM,pick]at b |-;rw[flatMap_cons,b,aq (by rw[c];exact sD)];rfl
theorem Kv{a:aI}:∀{l:List aN},(∀y∈l,y.br=a)->dM a l=l.map aN.bT
 | [],_=>rfl
 |y::r,h=>by
  have c:y.br.same a=true:=sZ.2 (h y sT);have b:=Kv (l:=r) λz d=>h z (by simp[d]);simp only[dM,pick]at b |-;rw[flatMap_cons,b,au c];rfl
def DA(l:List aN)(a:aI)(K:List aI):sn l (a::K)=xp a (aC (dM a l))++sn l K:=by simp[sn]
theorem Bm{l m:List aN}:∀{K:List aI},(∀b∈K,aC (dM b l)=aC (dM b m))->sn l K=sn m K
 | [],_=>rfl
 |a::K,h=>by rw[DA,DA,h a sT,Bm λb c=>h b (by simp[c])]
theorem zg{l m:List aN}:∀{K:List aI},(∀b∈K,aC (dM b l)=aC (dM b m))->mR l K=mR m K
 | [],_=>rfl
 |a::K,h=>by
  have c:=zg (l:=l) (m:=m) (K:=K) λb d=>h b (by simp[d]);simp only[mR,all_cons]at c |-;rw[h a sT,c]
theorem EH:∀(K:List aI)(n:Nat)(S out:List aN),S.length<=n->K.Pairwise (λa b=>a.less b=true)->xP tQ S->(∀x∈S,x.br∈K)->EG n S out=if mR S K then(out++sn S K,0)else([],1)
 | [],n,S,out,hn,hK,hS,hm=>by
  cases S with
  |nil=>rw[SY];simp[mR,sn]
  |cons x r=>exact absurd (hm x sT) sT
 |a::K,n,S,out,hn,hK,hS,hm=>by
  rw[jR]at hK;obtain⟨q,i⟩:=hK;obtain⟨T,p⟩:=aL (S.takeWhile (pE a));obtain⟨R,s⟩:=aL (S.dropWhile (pE a));have c:S=T++R:=by rw[p,s,takeWhile_append_dropWhile]
  have u:∀y∈T,y.br=a:=λy d=>sZ.1 (ab8 (p ▸ d));have o:xP tQ R:=by
   have:xP tQ (T++R):=c ▸ hS;exact(pairwise_append.1 this).2.1
  have j:∀y∈R,y.br∈K:=by
   cases f:R with
   |nil=>intro y d;cases d
   |cons z r =>
    have w:pE a z=false:=by
     have:=head?_dropWhile_not (pE a) S;rw[<-s,f]at this;simpa using this
    have G:z.br∈K:=by
     rcases mem_cons.1 (hm z (by rw[c,f];simp))with h|h
     ·rw[sZ.2 h]at w;cases w
     ·exact h
    intro y d;rcases mem_cons.1 (hm y (by rw[c,f];simp only[mem_append];exact .inr d))with h|h
    ·exfalso;rcases mem_cons.1 d with rfl|d
     ·rw[sZ.2 h]at w;cases w
     ·have A:=q z.br G;rw[f]at o;have H:tQ y z=false:=(jR.1 o).1 y d;rw[tQ,h,A]at H;cases H
    ·exact h
  have v:∀b∈K,b≠a:=by
   intro b g h;have:=q b g;rw[h,QG]at this;unfold aI.lt at this;omega
  have B:dM a R=[]:=zj λy d=>v _ (j y d);have D:dM a T=T.map aN.bT:=Kv u;have C:dM a S=T.map aN.bT:=by rw[c,Ce,B,D,append_nil]
  have t:∀b∈K,aC (dM b S)=aC (dM b R):=by
   intro b g;rw[c,Ce,zj (l:=T) λy d=>by rw[u y d];exact(v b g).symm];rfl
  rw[show mR S (a::K)=(bA (aC (dM a S))&&mR S K)from rfl,DA,C,zg t,Bm t];cases S with
  |nil =>
   have k:T=[]:=p;have e:R=[]:=s;have:=EH K n [] out (Nat.zero_le _) i Pairwise.nil (by intro x I;cases I);rw[this,k,e];rfl
  |cons x r =>
   cases g:pE a x with
   |false =>
    have k:T=[]:=by rw[p,takeWhile_cons,g];rfl
    have e:R=x::r:=by rw[s,dropWhile_cons,g];rfl
    have:=EH K n (x::r) out hn i hS (by rw[<-e];exact j);rw[this,k,e];rfl
   |true =>
    obtain⟨n,rfl⟩:∃m,n=m+1:=⟨n-1,by simp only[length_cons]at hn;omega⟩
    have F:x.br=a:=sZ.1 g;have E:R.length<=n:=by
     have A:T=x::r.takeWhile (pE a):=by rw[p,takeWhile_cons,g];rfl
     have:=congrArg length c;rw[ct,A,length_cons,length_cons]at this;simp only[length_cons]at hn;omega
    have:=EH K n R (out++xp a (aC (T.map aN.bT))) E i o j;rw[EG,F,Rt,<-p,<-s,this];cases bA (aC (T.map aN.bT))<;>simp
theorem aai{l m:List Int}(h:l.Perm m):aC l=aC m:=by
 induction h with
 |nil=>rfl
 |cons x _ ih=>simp only[aC,ih]
 |swap x y l=>simp only[aC];omega
 |trans _ _ h1 h2=>rw[h1,h2]
def OD(a:aI){l m:List aN}(h:l.Perm m):aC (dM a l)=aC (dM a m):=aai (by unfold dM pick;exact h.flatMap_right _)
def Kj(f:∀x:aI,x.right=true->x∈gf)(g:gf.Pairwise λa b=>a.less b=true)(l:List aN):yc l=(kj l,nq l):=by
 unfold yc kj nq;cases e:uR l
 ·rfl
 ·have c:=yO tQ l;have d:=yj e;rw[au rfl,EH gf _ _ [] (fO _) g (I3 Zf l) (λx h=>f _ (d x (c.mem_iff.1 h)).1)];rw[zg (m:=l) λb _=>OD b c,Bm (m:=l) λb _=>OD b c];cases mR l gf<;>rfl
def M0(l:List aN)(hl:l.length<2^30):Sq 146 [] [.sl 4 (l.map aN.cells)] [] (.I (nL l)):=by
 have F:=CY l aj;refine aX 53 1 [.tmp 2] mixed func146 ?_;refine s0 ?_;by_cases b:l.length=0
 ·have d:((l.length:Int)==0)=true:=by simp[b]
  have e:nL l=2:=by simp[nL,b]
  exact eo (a2 d e)
 have r:((l.length:Int)==0)=false:=su b;by_cases s:64<l.length
 ·have d:decide (64<(l.length:Int))=true:=jw;have e:nL l=5:=by simp only[nL];rw[aq b,au s]
  exact eo (a3 r d e)
 have D:decide (64<(l.length:Int))=false:=lJ;refine sc (a2 r D) F ?_;cases f:uR l
 ·have e:nL l=3:=by simp only[nL];rw[aq b,aq s,f];rfl
  exact eo e
 have e:nL l=if wz l then 0 else 12:=by simp only[nL];rw[aq b,aq s,f];rfl
 have z:=yj f;rw[e];clear e r D F;refine s0 ?_;refine aG.w1 3 21 [0] [] (λi _=>∀c<i,(aC (oN (c:Nat) l)==0)=true) sT ?_ ?_
 ·intro c _ g a B t;have a:decide ((c:Int)<3)=true:=a;have E:=ju (oN c l) (by have:=bR (λx:aN=>x.cur==(c:Int)) aN.bT l;unfold oN;omega);have A:right (oN c l)=true:=cg.2 (lB λx C=>(z x C).2);rw[pY,oF,A,cz,au rfl]at E;have b:=aij (oN c l);rw[addN]at b;refine sm a ?_;refine aG.wv l.length [0,3,21,24,25] [416] (λi=>[(26,.I i),(4,.ref 640)]) (λi=>[(640,.own 1 (ints (oN c (l.take i))))]) ?_ ?_ ?_
  ·simp only[go_sem,seval]<;>simp[oN,pick,ints]
  ·intro i _ p w n _;have q:=aM (c:=aN.cells) l p;have m:ints (oN c (l.take (i+1)))=_:=ga (λx:aN=>x.cur==(c:Int)) aN.bT p;have j:=bR (λx:aN=>x.cur==(c:Int)) aN.bT (l.take i);have hlt:(l.take i).length=i:=by simp;omega
   have hli:(i:Int)<(l.length:Int):=aj
   have j:(oN c (l.take i)).length<=i:=by unfold oN;omega
   obtain⟨x,C⟩:=aL (l[i]);rw[<-C]at m q;simp only[aN.cells]at q;refine sm (a2 w q) ?_;refine aV ?_;cases G:x.cur==(c:Int)
   ·simp only[G,iI,if_false,if_true,append_nil]at m;refine sm n ?_;refine ah.v p ?_;simp only[go_sem,seval,m]<;>simp[oN]
   ·simp only[G,iI,if_false,if_true,append_nil]at m;simp only[go_sem,seval,n,aA,q];refine aV ?_;refine ah.v p ?_;simp only[go_sem,seval,m]<;>simp[oN]
  ·intro _ y _;simp only[go_sem,seval,y,eU];refine sl aK E ?_;cases f:bA (aC (oN c l))
   ·have:wz l=false:=by
     rw[wz,all_eq_false];exact⟨c,mem_range.2 g,by rw[f]at b;rw[<-b];simp⟩
    exact eo (a3 dV f this)
   rw[f,cz,au rfl]at b;cases o:aC (oN c l)==0
   ·have:wz l=false:=by
     rw[wz,all_eq_false];exact⟨c,mem_range.2 g,by rw[o];exact sD⟩
    exact eo (a4 f dV o this)
   refine sm (a4 f dV o B) ?_;refine ah.u g ?_ ?_
   ·intro k hk;rcases dN k c with h|h
    ·exact t k h
    ·obtain rfl:k=c:=aj
     exact o
   ·exact iB
 ·intro _ a t;have a:decide ((3:Int)<3)=false:=a;have:wz l=true:=cg.2 λc g=>t c (mem_range.1 g);exact eo (a2 a this)
theorem XE{l:bu}(h:l.okB=true)(w c:Int):0<=gw ⟨3,w,c⟩ l.bs:=by
 simp only[bu.okB,cU]at h;have f:∀b∈l.bs,o8 b=true:=λb a=>by
  obtain⟨i,e,rfl⟩:=mem_iff_getElem.1 a;have:=cg.1 h.1.2 i (mem_range.2 e);rcases Nat.eq_zero_or_pos i with rfl|hp
  ·rwa[qu e]at this
  ·obtain⟨j,rfl⟩:∃j,i=j+1:=⟨i-1,by omega⟩
   rw[oq e,cU]at this;exact this.1
 clear h;generalize l.bs=bs at f;induction bs with
 |nil=>simp[gw]
 |cons b r ih =>
  simp only[gw];split
  ·rename_i a;have d:=f b sT;simp only[VU,cU,fE]at a;simp only[o8,cU,iN,gP]at d;have k:b.br.floor=0:=by
    have:=aeM b.br;rw[d.1,cz]at this;have g:(b.br.kind==3)=true:=by simp[bY.br,a.1]
    rw[g,Bool.true_or]at this;simpa using this
   rw[k]at d;omega
  ·exact ih λb a=>f b (by simp[a])
def Gv(l:bu)(c:Int)(m:av):Int:=max (m.need-gw ⟨3,m.no,c⟩ l.bs) 0
def Gg(l:bu)(c:Int)(m:av):Int:=min (Gv l c m) (max (gw ⟨2,m.no,c⟩ l.bs) 0)
def rK(l:bu)(c:Int)(m:av):List aN:=if m.state==1 then cr ⟨2,m.no,c⟩ ⟨3,m.no,c⟩ (Gg l c m)else[]
def BQ(l:bu)(c:Int)(m:av):List aH:=if m.state==1&&decide (Gg l c m<Gv l c m)then[⟨m.no,c,Gv l c m-Gg l c m⟩]else[]
def rfB(l:bu)(r:ay)(c:Int):Bool:=(l.okB&&r.okB)&&within c 0 2
def oT(l:bu)(r:ay)(c:Int):Int:=if l.okB&&r.okB then(if within c 0 2 then nq (r.ms.flatMap (rK l c))else 3)else 14
def lD(l:bu)(r:ay)(c:Int):List aN:=if rfB l r c then kj (r.ms.flatMap (rK l c))else[]
def nX(l:bu)(r:ay)(c:Int):List aH:=if rfB l r c then r.ms.flatMap (BQ l c)else[]
def V2{r:ay}(h:r.okB=true):∀m∈r.ms,m.ok=true:=by
 simp only[ay.okB,cU]at h;exact λm a=>yI h.1.1 m a
def Nj(l:bu)(r:ay)(c:Int)(hb:l.bs.length<2^30)(hr:∀b∈l.bs,b.gq)(h:r.jQ)(H:r.ms.length<2^27):Sq 307 [] [.agg l.cells,.agg r.cells,.int .i64 c] [.own 3 ((nX l r c).map aH.cells)] (.bD [.sl 4 ((lD l r c).map aN.cells),.ref 0,.int .i64 (oT l r c)]):=by
 have c1:=ny l hb hr;have c2:=gW r h.small;have c3:=jY c;have K:=λa=>jo l a hb;have Q:=λa b n=>nK a b n;have C:∀a,l.okB=true->bA (gw a l.bs)=true:=λa h=>qD h a;have O:=λ(h:l.okB=true) w=>XE h w c;have hJl:=gJ (f:=rK l c) (m:=2) (λm=>by unfold rK;split<;>simp[cr]) r.ms;have cJ:=tG (r.ms.flatMap (rK l c)) aj;simp only[bu.cells,aI.cells]at c1 K Q |-;simp only[ay.cells]at c2 |-;refine aX 93 3 [.tmp 6,.tmp 7,.tmp 8] mixed func307 ?_;refine sc aK c1 ?_;cases o:l.okB
 ·have e:oT l r c=14:=by simp[oT,o]
  have s:lD l r c=[]:=by simp[lD,rfB,o]
  have e2:nX l r c=[]:=by simp[nX,rfB,o]
  exact gH (a3 e s e2)
 refine sc aK c2 ?_;cases q:r.okB
 ·have e:oT l r c=14:=by simp[oT,q]
  have s:lD l r c=[]:=by simp[lD,rfB,q]
  have e2:nX l r c=[]:=by simp[nX,rfB,q]
  exact gH (a3 e s e2)
 refine sc aK c3 ?_;cases B:within c 0 2
 ·have e:oT l r c=3:=by simp[oT,o,q,B]
  have s:lD l r c=[]:=by simp[lD,rfB,B]
  have e2:nX l r c=[]:=by simp[nX,rfB,B]
  exact gH (a3 e s e2)
 have e:oT l r c=nq (r.ms.flatMap (rK l c)):=by simp[oT,o,q,B]
 have s:lD l r c=kj (r.ms.flatMap (rK l c)):=by simp[lD,rfB,o,q,B]
 have e2:nX l r c=r.ms.flatMap (BQ l c):=by simp[nX,rfB,o,q,B]
 rw[e,s,e2];have C:=λa=>C a o;have O:=O o;have I:=V2 q;clear e s e2 c1 c2 c3;simp only[go_sem,seval];refine aV ?_;refine aG.wv r.ms.length [2,3,4] [64,80] (λi=>[(11,.int .i64 i),(9,.ref 1152),(10,.ref 1360)]) (λi=>[(1152,.own 4 (((r.ms.take i).flatMap (rK l c)).map aN.cells)),(1360,.own 3 (((r.ms.take i).flatMap (BQ l c)).map aH.cells))]) ?_ ?_ ?_
 ·exact jh
 ·intro i _ u D z _;have H:=aM (c:=av.cells) r.ms u;have hli:(i:Int)<(r.ms.length:Int):=aj
  have hlt:(r.ms.take i).length=i:=by simp;omega
  have k:=gU (rK l c) u;have j:=gU (BQ l c) u;have X:=gJ (f:=rK l c) (m:=2) (λm=>by unfold rK;split<;>simp[cr]) (r.ms.take i);have Y:=gJ (f:=BQ l c) (m:=1) (λm=>by unfold BQ;split<;>simp) (r.ms.take i);have J:=I _ (dH u);obtain⟨L,R⟩:=aL ((r.ms.take i).flatMap (rK l c));obtain⟨M,S⟩:=aL ((r.ms.take i).flatMap (BQ l c));obtain⟨x,hx⟩:=aL (r.ms[i]);rw[<-hx]at k j H J;rw[<-R]at k X;rw[<-S]at j Y;rw[<-R,<-S];simp only[av.ok,bA,cU,bO]at J;simp only[av.cells]at H;clear cJ R S I;cases P:x.state==1
  ·simp only[rK,BQ,P,dU,iI,if_false,append_nil]at k j;refine sm (a5 D H dV P z) ?_;refine aV ?_;refine ah.v u ?_;simp only[go_sem,seval,k,j]
  have h1:=bf.1 (C ⟨3,x.no,c⟩);have h2:=bf.1 (C ⟨2,x.no,c⟩);have h3:=O x.no;have cF:=K ⟨3,x.no,c⟩;have cC:=K ⟨2,x.no,c⟩;have t:=Q ⟨2,x.no,c⟩ ⟨3,x.no,c⟩ (Gg l c x);have G:Gv l c x=max (x.need-gw ⟨3,x.no,c⟩ l.bs) 0:=rfl;have E:Gg l c x=min (Gv l c x) (max (gw ⟨2,x.no,c⟩ l.bs) 0):=rfl;simp only[rK,BQ,P,cz,if_true]at k j;obtain⟨A,N⟩:=aL (Gv l c x);obtain⟨F,p⟩:=aL (Gg l c x);obtain⟨f,U⟩:=aL (gw ⟨3,x.no,c⟩ l.bs);obtain⟨g,W⟩:=aL (gw ⟨2,x.no,c⟩ l.bs);rw[<-N,<-p]at j;rw[<-p]at k t;rw[<-N,<-U]at G;rw[<-p,<-N,<-W]at E;rw[<-U]at cF h1 h3;rw[<-W]at cC h2;have Z:IntKind.wrap .i64 (x.need-f)=x.need-f:=gx aj aj;have aa:IntKind.wrap .i64 (A-F)=A-F:=gx aj aj;have eA:max (x.need-f) 0=A:=G.symm;have eF:min A (max g 0)=F:=E.symm;have y:(cr ⟨2,x.no,c⟩ ⟨3,x.no,c⟩ F).length=2:=rfl;obtain⟨V,hV⟩:=aL (cr ⟨2,x.no,c⟩ ⟨3,x.no,c⟩ F);rw[<-hV]at k t y;clear K Q N p U W hV C O;refine sm (a4 D H dV P) ?_;refine sc (a2 Z eA) cF ?_;refine sc eF cC ?_;refine sc aK t ?_;by_cases q2:F<A
  ·have d:decide (F<A)=true:=dw q2;rw[d,au rfl]at j;simp only[go_sem,seval,d,aa,z,y];refine aV ?_;refine ah.v u ?_;exact gH (a2 k j)
  ·have d:decide (F<A)=false:=gB q2;rw[d,aq sT,append_nil]at j;simp only[go_sem,seval,d,z,y];refine aV ?_;refine ah.v u ?_;exact gH (a2 k j)
 ·intro _ T _;simp only[go_sem,seval,T,eU];refine aV ?_;refine az.iw [1152] [] false sT ?_;simp only[go_sem,seval];refine dL.ij cJ ?_;simp only[go_sem,seval]
def jC(b:bY):aN:=⟨b.kind,b.who,b.cur,b.sum⟩
def zi(x:aN):bY:=⟨x.kind,x.who,x.cur,x.bT⟩
def KA(x:aN):Bool:=decide (x.bT<x.br.floor)
def E6(l:bu)(g:List aN):List aN×Int:=yc (g++l.bs.map jC)
def nN(l:bu)(id:Int)(g:List aN):Int:=
 if l.okB then(if within id 1 1099511627776 then(if id<=l.last then 18 else if nL g=0 then(if(E6 l g).2=0 then(if(E6 l g).1.any KA then 13 else 0)else(E6 l g).2)else nL g)else 3)else 14
def rF(l:bu)(id:Int)(g:List aN):bu:=if nN l id g=0 then⟨id,(E6 l g).1.map zi⟩else⟨0,[]⟩
def aqf(l:List aN):(DZ tQ l).length=l.length:=RI _ _
theorem SX:∀(n:Nat)(S out:List aN),(EG n S out).1.length<=out.length+S.length
 | 0,_,out=>by simp[EG]
 | _+1,[],out=>by simp[EG]
 |n+1,x::r,out=>by
  unfold EG;split
  ·have a:=SX n ((x::r).dropWhile (pE x.br)) (out++xp x.br (aC (Rt x.br (x::r))));have h2:=Ts x.br (aC (Rt x.br (x::r)));have h3:((x::r).dropWhile (pE x.br)).length<=r.length:=by
    rw[dropWhile_cons,show pE x.br x=true from Ft.2 ⟨rfl,rfl,rfl⟩];exact(dropWhile_suffix _).length_le
   rw[ct]at a;rw[length_cons];omega
  ·simp
def Oz(l:List aN):(yc l).1.length<=l.length:=by
 unfold yc;split
 ·have:=SX (DZ tQ l).length (DZ tQ l) [];rw[aqf]at this |-;simpa using this
 ·simp
def acM(l:bu)(id:Int)(g:List aN)(hl:l.bs.length<2^28)(hg:g.length<2^28):Sq 51 [] [.agg l.cells,.I id,.sl 4 (g.map aN.cells)] [.own 4 ((rF l id g).bs.map bY.cells)] (.bD [.agg [.I (rF l id g).last,.ref 0],.I (nN l id g)]):=by
 have R:=tE l aj;have U:=M0 g aj;have Q:=Kl (g++l.bs.map jC) (by rw[ct,qO];omega);have q:=Oz (g++l.bs.map jC);rw[ct,qO]at q;simp only[bu.cells]at R |-;refine aX 98 3 [.cell 6 36,.tmp 7] mixed func51 ?_;refine sc aK R ?_;cases y:l.okB
 ·have e:nN l id g=14:=by simp[nN,y]
  simp only[go_sem,seval,rF,e]<;>simp
 cases n:within id 1 1099511627776
 ·have e:nN l id g=3:=by simp[nN,y,n]
  simp only[within,Bool.and_eq_false_iff,gP]at n;by_cases h:id<1
  ·have d:decide (id<1)=true:=dw h;simp only[go_sem,seval,d,rF,e]<;>simp
  ·have d:decide (id<1)=false:=gB h;have z:decide (1099511627776<id)=true:=jw;simp only[go_sem,seval,d,z,rF,e]<;>simp
 have M:decide (id<1)=false:=by simp only[within,cU,bO]at n;exact lJ
 have z:decide (1099511627776<id)=false:=by simp only[within,cU,bO]at n;exact lJ
 by_cases A:id<=l.last
 ·have H:decide (id<=l.last)=true:=dw A;have e:nN l id g=18:=by simp[nN,y,n,A]
  simp only[go_sem,seval,M,z,H,rF,e]<;>simp
 have H:decide (id<=l.last)=false:=gB A;refine sc (a3 M z H) U ?_;cases C:nL g==0
 ·have K:nL g≠0:=su C;have e:nN l id g=nL g:=by simp[nN,y,n,A,K]
  have e2:rF l id g=⟨0,[]⟩:=by simp[rF,e,K]
  exact gH (a4 dV C e e2)
 have K:nL g=0:=su C;have e:nN l id g=if(E6 l g).2=0 then(if(E6 l g).1.any KA then 13 else 0)else(E6 l g).2:=by simp[nN,y,n,A,K]
 simp only[rF];rw[e];clear e R U n M z H;rw[show yc (g++l.bs.map jC)=E6 l g from rfl]at Q q;obtain⟨J,p⟩:=aL ((E6 l g).1);obtain⟨E,B⟩:=aL ((E6 l g).2);rw[<-p,<-B]at Q;rw[<-p]at q;rw[<-p,<-B];refine sm (a2 dV C) ?_;refine aV ?_;have e0:g.map aN.cells=(g++(l.bs.take 0).map jC).map aN.cells:=by simp
 rw[e0];refine aG.wv l.bs.length [1,3,6,47,48] [64,112] (λi=>[(49,.I i),(9,.ref 976)]) (λi=>[(976,.own 4 ((g++(l.bs.take i).map jC).map aN.cells))]) ?_ ?_ ?_
 ·exact iB
 ·intro i _ m r w _;have t:=aM (c:=bY.cells) l.bs m;have T:(i:Int)<(l.bs.length:Int):=aj
  have a:(g++(l.bs.take (i+1)).map jC)=(g++(l.bs.take i).map jC)++[jC l.bs[i]]:=by rw[j7 m,jv,dS];rfl
  have k:(g++(l.bs.take i).map jC).length<=g.length+i:=by rw[ct,qO,gh];omega
  obtain⟨b,V⟩:=aL (l.bs[i]);rw[<-V]at t a;obtain⟨W,S⟩:=aL (g++(l.bs.take i).map jC);rw[<-S]at a k |-;simp only[bY.cells]at t;refine sm (a3 r t w) ?_;refine aV ?_;refine ah.v m ?_;simp only[go_sem,seval,a,jv,map_cons,map_nil,jC]
 ·intro _ s _;rw[eU];refine sm s ?_;refine az.iw [976] [] false sT ?_;refine s0 ?_;refine dL.ij Q ?_;cases D:E==0
  ·have N:E≠0:=su D;exact gH (a3 dV D N)
  have N:E=0:=su D;subst N;refine sm (a2 dV D) ?_;refine aG.wu J.length [6,13,73,74] [112,1040] (λi=>[(75,.I i)]) (λi=>[(224,.box [.I id,.ref 1520]),(1520,.own 4 (((J.take i).map zi).map bY.cells))]) (λi=>(J.take i).any KA=false) rfl ?_ ?_ ?_
  ·exact jh
  ·intro i _ m r w L;have t:=aM (c:=aN.cells) J m;have T:(i:Int)<(J.length:Int):=aj
   have a:(J.take (i+1)).map zi=(J.take i).map zi++[zi J[i]]:=by rw[j7 m,jv];rfl
   have f:(J.take (i+1)).any KA=((J.take i).any KA||KA J[i]):=by rw[j7 m,any_append];simp
   have o:KA J[i]=true->J.any KA=true:=λh=>any_eq_true.2 ⟨J[i],dH m,h⟩;have k:((J.take i).map zi).length<=i:=by rw[qO,gh];omega
   obtain⟨x,X⟩:=aL (J[i]);rw[<-X]at t a f o;have O:=AF x.br;have j:KA x=decide (x.bT<x.br.floor):=rfl;obtain⟨F,P⟩:=aL (x.br.floor);rw[<-P]at O j;obtain⟨W,S⟩:=aL ((J.take i).map zi);rw[<-S]at a k |-;simp only[aN.cells]at t;simp only[aI.cells,aN.br]at O;refine sc (a2 r t) O ?_;cases G:decide (x.bT<F)
   ·rw[G]at j;rw[j,Bool.or_false]at f;refine sm (a2 G w) ?_;refine aV ?_;refine ah.u m (by rw[f];exact L) ?_;simp only[go_sem,seval,a,jv,map_cons,map_nil,zi]
   ·rw[G]at j;have:=o j;exact gH (a2 G this)
  ·intro _ s L;rw[eU]at L |-;exact gH (a2 s L)
theorem Pv(a b:List Int):aC (a++b)=aC a+aC b:=by
 induction a with
 |nil=>simp[aC]
 |cons x r ih=>simp only[cons_append,aC,ih];omega
def Kf{a:aI}{b:bY}:VU a b=true↔b.br=a:=by
 have:VU a b=pE a (jC b):=rfl;rw[this,sZ];rfl
theorem OS{a:aI}:∀{bs:List bY},(∀b∈bs,b.br≠a)->gw a bs=0
 | [],_=>rfl
 |b::r,h=>by
  have c:VU a b=false:=by
   cases d:VU a b with
   |false=>rfl
   |true=>exact absurd (Kf.1 d) (h b sT)
  rw[gw,c];exact OS λz e=>h z (by simp[e])
theorem Tt(a:aI):∀{bs:List bY},bs.Pairwise (λx y=>x.br.less y.br=true)->aC (dM a (bs.map jC))=gw a bs
 | [],_=>rfl
 |b::r,h=>by
  rw[jR]at h;have j:=Tt a h.2;have g:dM a ((b::r).map jC)=dM a [jC b]++dM a (r.map jC):=Ce a [jC b] (r.map jC);rw[g,Pv,j,gw];cases f:VU a b with
  |false =>
   rw[zj (l:=[jC b]) λy e=>by
    rw[iD.1 e];intro d;have:VU a b=true:=Kf.2 d
    rw[f]at this;cases this]
   simp[aC]
  |true =>
   have c:=Kf.1 f;rw[Kv (l:=[jC b]) λy e=>by rw[iD.1 e];exact c]
   rw[OS λz i=>by
    intro d;have:=h.1 z i;rw[d,c,QG]at this
    unfold aI.lt at this;omega]
   simp[aC,jC]
def floor_le(a:aI):a.floor<=0:=by
 unfold aI.floor;split<;>omega
def post_eq(t:∀x:aI,x.right=true->x∈gf)(u:gf.Pairwise λa b=>a.less b=true)
  (h:∀bs:List bY,nI bs=true->(∀b∈bs,o8 b=true)/\bs.Pairwise (λx y=>x.br.less y.br=true))
  (l:bu) (id:Int) (g:List aN):nN l id g=fM l id g/\rF l id g=jO l id g:=by
 have key:l.okB=true->nL g=0->(E6 l g).2=(if wF l g gf then 0 else 1)/\(wF l g gf=true->(E6 l g).1.any KA=yA l g gf/\(E6 l g).1.map zi=Ig l g gf):=by
  intro e d;have n:nI l.bs=true:=by
   unfold bu.okB at e;simp only[cU]at e;exact e.1.2
  obtain⟨s,o⟩:=h _ n;have r:=(Jz d).1;have i:uR (g++l.bs.map jC)=true:=by
   unfold uR at r |-;rw[all_append,r,cz,cg];intro x v;obtain⟨b,k,rfl⟩:=mem_map.1 v;have:=s b k;unfold o8 at this;simp only[cU]at this;unfold ON;rw[cU];exact⟨this.1,this.2.1⟩
  have p:∀a,aC (dM a (g++l.bs.map jC))=rG l g a:=by
   intro a;rw[Ce,Pv,Tt a o,rG,aC];omega
  have m:mR (g++l.bs.map jC) gf=wF l g gf:=by
   unfold mR wF;congr 1;funext a;rw[p]
  unfold E6;rw[Kj t u];unfold kj nq;rw[i,au rfl,m];refine⟨rfl,λf=>?_⟩;rw[f,au rfl,au rfl];refine⟨?_,?_⟩
  ·unfold sn yA;rw[any_flatMap];congr 1;funext a;rw[p];unfold xp;cases w:rG l g a==0
   ·simp[KA,aN.br];rfl
   ·have:rG l g a=0:=su w;have hf:=floor_le a;simp[this];omega
  ·unfold sn Ig;rw[map_flatMap];congr 1;funext a;rw[p];unfold xp wW;split<;>rfl
 have q:nN l id g=fM l id g:=by
  unfold nN fM;cases e:l.okB
  ·rfl
  cases h2:within id 1 1099511627776
  ·rfl
  by_cases j:id<=l.last
  ·rw[au j,au j]
  rw[aq j,aq j];by_cases d:nL g=0
  ·obtain⟨k1,k2⟩:=key e d;rw[au d,au d,k1];cases f:wF l g gf
   ·rfl
   ·rw[(k2 f).1];rfl
  ·rw[aq d,aq d]
 refine⟨q,?_⟩;unfold rF jO;rw[q];by_cases c:fM l id g=0
 ·rw[au c,au c];unfold fM at c;split at c
  ·rename_i e;split at c
   ·split at c
    ·cases c
    ·split at c
     ·rename_i d;split at c
      ·rename_i f;rw[((key e d).2 f).2]
      ·cases c
     ·rename_i d;exact absurd c d
   ·cases c
  ·cases c
 ·rw[aq c,aq c]
def EN(l:bu)(id:Int)(g:List aN)(b:l.bs.length<2^28)(a:g.length<2^28):Sq 51 [] [.agg l.cells,.I id,.sl 4 (g.map aN.cells)] [] (.bD [.agg (rF l id g).cells,.I (nN l id g)]):=by
 refine Spec.frozen (acM l id g b a) [0] rfl ?_;intro r;rcases r with _|r<;>rfl
