/- Parts. -/
import Derived.Test.YtpepnkihgjjpmaaGreatKG
set_option linter.all false
set_option maxHeartbeats 4000000
set_option maxRecDepth 16000
namespace Go.Proofs.YtpepnkihgjjpmaaGreat
open Go.Abs Tryz
open List hiding lt
def dQ{r:aA}:r.okB=true↔((∀x∈r.ms,x.ok=true)/\r.ms.Pairwise (λa b=>a.no<b.no))/\((∀x∈r.ns,x.ok=true)/\r.ns.Pairwise (λa b=>a.no<b.no))/\((∀x∈r.xs,x.ok=true)/\r.xs.Pairwise (λa b=>a.a<b.a)):=by
 simp only[aA.okB,bQ,V3,and_assoc]
def oY{x:av}(h:x.ok=true):(1<=x.no/\x.no<=16)/\(1<=x.state/\x.state<=3)/\0<=x.need/\x.need<=4611686018427387904:=by
 simp only[av.ok,within,bB,bQ,bz]at h;omega
def Cn{x:aE}(h:x.ok=true):(1<=x.no/\x.no<=8)/\(0<=x.cur/\x.cur<=2)/\(1<=x.mult/\x.mult<=1024):=by
 simp only[aE.ok,within,bQ,bz]at h;omega
def Gj{x:aD}(h:x.ok=true):(1<=x.a/\x.a<=6)/\(0<=x.b/\x.b<=2)/\(1<=x.c/\x.c<=1073741824):=by
 simp only[aD.ok,within,bQ,bz]at h;omega
def zL{r:aA}{w:Int}:gw r w=true↔∃x∈r.ms,x.no=w:=vY
def wT{r:aA}{w:Int}:bJ r w=true↔∃x∈r.ns,x.no=w:=vY
def Uz{r:aA}{w:Int}:nq r w=true↔∃x∈r.xs,x.a=w:=vY
def sV{r:aA}{w:Int}(h:gw r w=true):fm r w∈r.ms/\(fm r w).no=w:=zF (zL.1 h)
def qA{r:aA}{w:Int}(h:bJ r w=true):aZ r w∈r.ns/\(aZ r w).no=w:=zF (wT.1 h)
def um{r:aA}(h:r.okB=true){w:Int}:bD r w≠0↔gw r w=true:=by
 constructor
 ·intro c;cases a:gw r w
  ·exact absurd (show bD r w=0 from by
    unfold bD fm;rw[zG]
    ·rfl
    ·intro x d b
     rw[zL.2 ⟨x,d,b⟩]at a;cases a) c
  ·rfl
 ·intro a;have:=oY ((dQ.1 h).1.1 _ (sV a).1);unfold bD;omega
def zm{r:aA}(h:r.okB=true){w:Int}(b:bD r w≠0):(1<=bD r w/\bD r w<=3)/\1<=w/\w<=16:=by
 have a:=sV ((um h).1 b);have:=oY ((dQ.1 h).1.1 _ a.1);rw[a.2]at this;unfold bD;omega
def Ic{A:Type}{no:A->Int}{z m:A}{xs:List A}{N:Nat}{f:Nat->List A}(n:xs.Pairwise (λa b=>no a<no b))(c:∀x∈xs,1<=no x/\no x<=N)(hm:1<=no m/\no m<=N)
  (d:∀i:Nat,i<N->f i=if(i:Int)+1=no m then[m]else if decide (0<=lO no ((i:Int)+1) xs)=true then[jj no ((i:Int)+1) z xs]else[]) :
  (pQ f N).Pairwise (λa b=>no a<no b)/\∀x,x∈pQ f N↔x=m\/(x∈xs/\no x≠no m):=by
 refine⟨YT (key:=no) (λi g=>?_) (λi g x c=>?_),λx=>?_⟩
 ·rw[d i g];split
  ·simp
  ·split<;>simp
 ·rw[d i g]at c;split at c
  ·rename_i h;simp only[gV]at c;rw[c,h]
  ·split at c
   ·rename_i h;simp only[gV]at c;rw[c];exact(zF (vY.1 h)).2
   ·cases c
 ·rw[jM];constructor
  ·rintro⟨i,g,h⟩;rw[d i g]at h;split at h
   ·simp only[gV]at h;exact .inl h
   ·rename_i k;split at h
    ·rename_i l;simp only[gV]at h;have j:=zF (z:=z) (vY.1 l);rw[<-h]at j;exact .inr ⟨j.1,by rw[j.2];exact k⟩
    ·cases h
  ·rintro(rfl| ⟨h1,h2⟩)
   ·refine⟨(no x-1).toNat,by omega,?_⟩;rw[d _ ak,aq ak];simp
   ·have hr:=c x h1;refine⟨(no x-1).toNat,by omega,?_⟩;have e:(((no x-1).toNat:Nat):Int)+1=no x:=ak
    rw[d _ ak,e,au h2,aq (vY.2 ⟨x,h1,rfl⟩),zE n h1 rfl];simp
structure aA.ext(r r':aA):Prop where
 st:∀w,bD r w≠0->bD r' w=bD r w
 inst:∀n,bJ r n=true->bJ r' n=true
 same:∀n,bJ r n=true->(aZ r' n).mult=(aZ r n).mult/\(aZ r' n).cur=(aZ r n).cur
 ast:∀n,nq r n=true->nq r' n=true
def Xh{r:aA}{w n:Int}(h:mh r w n=0):(nW r w n).okB=true/\r.ext (nW r w n):=by
 unfold nW;rw[aq h];unfold mh at h;split at h
 case isFalse=>cases h
 rename_i g;split at h
 case isFalse=>cases h
 rename_i k;split at h
 ·cases h
 rename_i b;have j:=g;rw[dQ]at g;obtain⟨⟨o1,l⟩,h2,h3⟩:=g;have d:=oY k;dsimp only at d
 have q:=Ic (no:=av.no) (z:=av.zero) (m:=⟨w,1,n⟩) (N:=16) (f:=Mf r ⟨w,1,n⟩) l (λx a=>by have:=oY (o1 x a);omega) (by dsimp only;omega) (by
  intro i _;unfold Mf;dsimp only;by_cases e:(i:Int)+1=w
  ·rw[e,au b];simp
  ·have p:((i:Int)+1==w)=false:=su e;rw[p,au e];simp only[gw,fm,iM,if_false,append_nil]
   rfl)
 obtain⟨s,o⟩:=q;refine⟨dQ.2 ⟨⟨λx a=>?_,s⟩,h2,h3⟩,⟨λv c=>?_,λ_ h=>h,λ_ _=>⟨rfl,rfl⟩,λ_ h=>h⟩⟩
 ·rcases(o x).1 a with rfl|h
  ·exact k
  ·exact o1 x h.1
 ·have c:=(um j).1 c;unfold bD fm;congr 1;refine KT l λx a=>?_;rw[o x];constructor
  ·rintro(rfl|h)
   ·dsimp only at a;rw[a]at b;exact absurd c b
   ·exact h.1
  ·intro h;refine .inr ⟨h,?_⟩;dsimp only;rintro rfl;rw[a]at b;exact b c
def aaV{r:aA}{i:aE}(h:rH r i=0):(tP r i).okB=true/\r.ext (tP r i):=by
 unfold tP;rw[aq h];unfold rH at h;split at h
 case isFalse=>cases h
 rename_i l;split at h
 case isFalse=>cases h
 rename_i j;split at h
 ·cases h
 rename_i b;rw[dQ]at l;obtain⟨q,⟨o1,o⟩,h3⟩:=l;have hmk:=Cn j
 have s:=Ic (no:=aE.no) (z:=aE.zero) (m:=i.bare) (N:=8) (f:=JL r i.bare) o (λx a=>by have:=Cn (o1 x a);omega) ak (by
  intro k _;unfold JL;by_cases e:(k:Int)+1=i.bare.no
  ·have e2:bJ r ((k:Int)+1)=false:=by
    rw[e];have:bJ r i.bare.no=bJ r i.no:=rfl;rw[this];simpa using b
   rw[e2,e];simp
  ·have p:((k:Int)+1==i.bare.no)=false:=su e;rw[p,au e];simp only[bJ,aZ,iM,if_false,append_nil]
   rfl)
 obtain⟨t,g⟩:=s;refine⟨dQ.2 ⟨q,⟨λx a=>?_,t⟩,h3⟩,⟨λ_ _=>rfl,λn c=>?_,λn c=>?_,λ_ h=>h⟩⟩
 ·rcases(g x).1 a with rfl|h
  ·exact j
  ·exact o1 x h.1
 ·rw[wT]at c |-;obtain⟨x,a,d⟩:=c;refine⟨x,(g x).2 (.inr ⟨a,λe=>b ?_⟩),d⟩;rw[wT];exact⟨x,a,e⟩
 ·have e:aZ (⟨r.ms,pQ (JL r i.bare) 8,r.xs⟩:aA) n=aZ r n:=by
   unfold aZ;refine KT o λx a=>?_;rw[g x];constructor
   ·rintro(rfl|h)
    ·have a:i.no=n:=a;rw[a]at b;exact absurd c b
    ·exact h.1
   ·intro h;refine .inr ⟨h,λe=>b ?_⟩;rw[wT];exact⟨x,h,e⟩
  rw[e];exact⟨rfl,rfl⟩
def aaF{r:aA}{a:aD}(h:rD r a=0):(tG r a).okB=true/\r.ext (tG r a):=by
 unfold tG;rw[aq h];unfold rD at h;split at h
 case isFalse=>cases h
 rename_i j;split at h
 case isFalse=>cases h
 rename_i b;rw[bQ]at b;have b:=b.1;rw[dQ]at j;obtain⟨o,p,⟨o1,s⟩⟩:=j;have hmk:=Gj b
 have q:=Ic (no:=aD.a) (z:=(⟨0,0,0,0⟩:aD)) (m:=a) (N:=6) (f:=MC r a) s (λx c=>by have:=Gj (o1 x c);omega) ak (by
  intro k _;unfold MC;by_cases e:(k:Int)+1=a.a
  ·rw[e];simp
  ·have l:((k:Int)+1==a.a)=false:=su e;rw[l,au e];simp only[nq,nA,iM,if_false]
   rfl)
 obtain⟨t,g⟩:=q;refine⟨dQ.2 ⟨o,p,⟨λx c=>?_,t⟩⟩,⟨λ_ _=>rfl,λ_ h=>h,λ_ _=>⟨rfl,rfl⟩,λn i=>?_⟩⟩
 ·rcases(g x).1 c with rfl|h
  ·exact b
  ·exact o1 x h.1
 ·rw[Uz]at i |-;obtain⟨x,c,d⟩:=i;by_cases e:x.a=a.a
  ·exact⟨a,(g a).2 (.inl rfl),by rw[<-e];exact d⟩
  ·exact⟨x,(g x).2 (.inr ⟨c,e⟩),d⟩
def abV{x:aE}{p:Int}(h:x.ok=true)(hp:1<=p/\p<=1073741824):(x.told p).ok=true:=by
 have e:(x.told p).N2=x.N2:=by
  have:(x.told p).sh=x.sh:=by funext i;rcases i with _| _| _| _| _|i<;>rfl
  simp only[aE.N2,this]
 have e2:(x.told p).ok=(x.N2&&within x.no 1 8&&within x.cur 0 2&&within x.mult 1 1024&&within x.add 0 1073741824&&within p 0 1073741824&&within x.aL 0 1073741824):=by
  unfold aE.ok;rw[e];rfl
 rw[e2];simp only[aE.ok,within,bQ,bz]at h |-;obtain⟨⟨⟨⟨⟨⟨a,b⟩,h2⟩,h3⟩,h4⟩,h5⟩,h6⟩:=h;exact⟨⟨⟨⟨⟨⟨a,b⟩,h2⟩,h3⟩,h4⟩,⟨by omega,by omega⟩⟩,h6⟩
def abX{x:aE}(h:x.ok=true):x.vo.ok=true:=by
 unfold aE.vo;split
 ·exact h
 rename_i a;have a:x.set≠0:=su a;have e:aE.N2 { x with aL:=x.set,set:=0 }=x.N2:=by
  have:aE.sh { x with aL:=x.set,set:=0 }=x.sh:=by funext i;rcases i with _| _| _| _| _|i<;>rfl
  simp only[aE.N2,this]
 have e2:aE.ok { x with aL:=x.set,set:=0 }=(x.N2&&within x.no 1 8&&within x.cur 0 2&&within x.mult 1 1024&&within x.add 0 1073741824&&within 0 0 1073741824&&within x.set 0 1073741824):=by
  unfold aE.ok;rw[e]
 rw[e2];simp only[aE.ok,within,bQ,bz]at h |-;obtain⟨⟨⟨⟨⟨⟨b,c⟩,h2⟩,h3⟩,h4⟩,h5⟩,h6⟩:=h;exact⟨⟨⟨⟨⟨⟨b,c⟩,h2⟩,h3⟩,h4⟩,⟨by omega,by omega⟩⟩,h5⟩
def Ul(x:aE):x.vo.no=x.no:=by unfold aE.vo;split<;>rfl
def abS{r:aA}{n p:Int}(h:AM r n p=0):(AN r n p).okB=true/\r.ext (AN r n p):=by
 unfold AN;rw[aq h];unfold AM at h;split at h
 case isFalse=>cases h
 rename_i d;split at h
 case isFalse=>cases h
 split at h
 case isFalse=>cases h
 rename_i c;simp only[within,bQ,bz]at c;rw[dQ]at d;obtain⟨e,⟨o1,i⟩,h3⟩:=d;have a:=NW (no:=aE.no) (n:=n) (f:=aE.told p) (λ_=>rfl) r.ns;refine⟨dQ.2 ⟨e,⟨λx g=>?_,P7 a i⟩,h3⟩,⟨λ_ _=>rfl,λm b=>?_,λm b=>?_,λ_ h=>h⟩⟩
 ·rcases Q8 g with h| ⟨y,hy,rfl⟩
  ·exact o1 x h
  ·exact abV (o1 y hy) c
 ·unfold bJ at b |-;rw[<-b];exact TZ a
 ·unfold aZ;dsimp only;rw[Q6 (no:=aE.no) (f:=aE.told p) (λ_=>rfl)];split<;>exact⟨rfl,rfl⟩
def Zu{r:aA}(c:r.okB=true):(Q3 r).okB=true/\r.ext (Q3 r):=by
 rw[dQ]at c;obtain⟨f,⟨o1,d⟩,h3⟩:=c;have a:(r.ns.map aE.vo).map aE.no=r.ns.map aE.no:=by
  rw[map_map];exact map_congr_left λx _=>Ul x
 refine⟨dQ.2 ⟨f,⟨λx g=>?_,P7 a d⟩,h3⟩,⟨λ_ _=>rfl,λm b=>?_,λm b=>?_,λ_ h=>h⟩⟩
 ·obtain⟨y,i,rfl⟩:=mem_map.1 g;exact abX (o1 y i)
 ·unfold bJ at b |-;rw[<-b];exact TZ a
 ·obtain⟨j,k⟩:=qA b;have e:aZ (Q3 r) m=(aZ r m).vo:=zE (no:=aE.no) (P7 a d) (mem_map.2 ⟨_,j,rfl⟩) (by rw[Ul];exact k);rw[e];unfold aE.vo;split<;>exact⟨rfl,rfl⟩
def Sv{r:aA}{n p:Int}(h:CI r n p=0):(kU r n p).okB=true/\(∀w,bD (kU r n p) w=if w=n then p else bD r w)/\(kU r n p).ns=r.ns/\(kU r n p).xs=r.xs:=by
 unfold kU;rw[aq h];unfold CI at h;split at h
 case isFalse=>cases h
 rename_i d;split at h
 case isFalse=>cases h
 rename_i e;split at h
 case isFalse=>cases h
 rename_i c;simp only[within,bQ,bz]at c;rw[dQ]at d;obtain⟨⟨o1,i⟩,h2,h3⟩:=d;have b:=NW (no:=av.no) (n:=n) (f:=av.put p) (λ_=>rfl) r.ms;refine⟨dQ.2 ⟨⟨λx g=>?_,P7 b i⟩,h2,h3⟩,λw=>?_,rfl,rfl⟩
 ·rcases Q8 g with h| ⟨y,hy,rfl⟩
  ·exact o1 x h
  ·have:=o1 y hy;have e2:(y.put p).ok=(within y.no 1 16&&within p 1 3&&bB y.need&&decide (0<=y.need)):=rfl;rw[e2];simp only[av.ok,within,bQ,bz]at this |-;exact⟨⟨⟨this.1.1.1,c⟩,this.1.2⟩,this.2⟩
 ·unfold bD fm;dsimp only;rw[Q6 (no:=av.no) (f:=av.put p) (λ_=>rfl)];by_cases a:w=n
  ·rw[aq ⟨a,zL.1 e⟩,aq a];rfl
  ·rw[au (λh=>a h.1),au a]
theorem HI(x:aE):Sq 33 [] [.agg x.cells] [] (.bI [.int .i64 (cy x),.int .i64 (if cB x then 0 else 20)]):=by
 cases a:x.set==0
 ·have c:cy x=x.set:=by rw[cy,a];rfl
  have e2:cB x=true:=by rw[cB,a];rfl
  rw[c,e2];simp only[aE.cells];refine bp 16 1 [.tmp 2,.tmp 3] mixed func33 ?_;exact dL (a2 gr a)
 ·have c:cy x=x.aL:=by rw[cy,a];rfl
  cases b:x.aL==0
  ·have e2:cB x=true:=by rw[cB,a,b];rfl
   rw[c,e2];simp only[aE.cells];refine bp 16 1 [.tmp 2,.tmp 3] mixed func33 ?_;exact dL (a3 gr a b)
  ·have e2:cB x=false:=by rw[cB,a,b];rfl
   have d:x.aL=0:=su b;rw[c,e2,d];rw[d]at b;simp only[aE.cells];refine bp 16 1 [.tmp 2,.tmp 3] mixed func33 ?_;exact dL (a3 gr a d)
theorem S7(p:aB)(m pr:Int)(hq:-1099511627776<=p.aO/\p.aO<=1099511627776)(z:bB p.cost=true)(hm:1<=m/\m<=1024)(hp:0<=pr/\pr<=1073741824):Sq 124 [] [.agg p.cells,.int .i64 m,.int .i64 pr] [] (.bI [.int .i64 (if bB (fY p m pr)then fY p m pr else 0),.int .i64 (if bB (fY p m pr)then 0 else 1)]):=by
 have t:=aP.1 z;have r:=fq [p.cost] sT;rw[D8,z]at r;simp only[ints,map_cons,map_nil]at r;have I:=fE (a:=m) (b:=p.aO) (A:=1024) (B:=1099511627776) ak ak;have J:=fE (a:=m*p.aO) (b:=pr) (A:=1125899906842624) (B:=1073741824) ak ak;have K:=fE (a:=-p.cost) (b:=m) (A:=4611686018427387904) (B:=1024) ak ak;have u:IntKind.wrap .i64 (m*p.aO)=m*p.aO:=gO ak ak;have L:IntKind.wrap .i64 (-p.cost) = -p.cost:=gO ak ak;have v:IntKind.wrap .i64 (0-p.cost) = -p.cost:=fQ;have d:=xD (m*p.aO) pr ⟨by omega,by omega⟩ ⟨by omega,by omega⟩;have o:=xD (-p.cost) m ⟨by omega,by omega⟩ ⟨by omega,by omega⟩;have G:vM (m*p.aO*pr)=true:=by simp only[vM,bQ,bz];omega
 have H:vM (-p.cost*m)=true:=by simp only[vM,bQ,bz];omega
 have c:=NX [m*p.aO*pr,-p.cost*m] sT (by intro n D;simp only[mem_cons,not_mem_nil,or_false]at D;rcases D with rfl|rfl<;>assumption);have l:m*p.aO*pr=p.aO*(pr*m):=by rw[Int.mul_comm m,Int.mul_assoc,Int.mul_comm m pr]
 have k:ay [m*p.aO*pr,-p.cost*m]=fY p m pr:=by rw[l];simp[ay,fY]
 have F:vM (fY p m pr)=true:=by
  have E:fY p m pr=m*p.aO*pr + -p.cost*m:=by rw[l];rfl
  rw[E];clear E k c o d;simp only[vM,bQ,bz];constructor<;>omega
 rw[k,F,aq rfl,aq rfl]at c;have q:=xF (fY p m pr);simp only[vr,wd,map_cons,map_nil]at c q;have i:decide (p.aO < -1099511627776)=false:=iE;have j:decide (1099511627776<p.aO)=false:=iE;have e:decide (m<1)=false:=iE;have f:decide (1024<m)=false:=iE;have g:decide (pr<0)=false:=iE;have h:decide (1073741824<pr)=false:=iE;simp only[aB.cells];obtain⟨Q,s⟩:=aN (m*p.aO);rw[<-s]at d c;replace u:=u.trans s.symm;obtain⟨A,w⟩:=aN (Q*pr);obtain⟨B,x⟩:=aN (-p.cost*m);obtain⟨C,y⟩:=aN (fY p m pr);rw[<-w]at d c;rw[<-x]at o c;rw[<-y]at c q |-;clear w x y I J K G H k F t l s;refine bp 64 3 [.tmp 6,.tmp 7] mixed func124 ?_;refine sl (a5 i j e f (a3 g h u)) r ?_;refine sc (a2 L v) d ?_;refine sc aS o ?_;refine sl aS c ?_;exact sZ aS q
def Kj{a b:aC}:a.same b=true↔a=b:=by
 obtain⟨a1,a2,a3⟩:=a;obtain⟨b1,b2,b3⟩:=b;simp only[aC.same,bQ,ff,aC.mk.injEq]
def uD{a:aC}{b:bU}:RX a b=true↔b.bq=a:=by
 obtain⟨a1,a2,a3⟩:=a;obtain⟨b1,b2,b3,b4⟩:=b;simp only[RX,bU.bq,bQ,ff,aC.mk.injEq]
def yM{a:aC}(h:a.less a=true):False:=by rw[rG]at h;omega
def tot{A:Type}(L:List A)(F:A->Int):Int:=ay (L.map F)
theorem fu{A:Type}(x:A)(L:List A)(F:A->Int):tot (x::L) F=F x+tot L F:=rfl
theorem rz{A:Type}(L:List A)(F G:A->Int):tot L (λa=>F a+G a)=tot L F+tot L G:=by
 induction L with
 |nil=>rfl
 |cons x r ih=>simp only[fu,ih];omega
theorem ju{A:Type}{L:List A}{F:A->Int}(h:∀a∈L,F a=0):tot L F=0:=by
 induction L with
 |nil=>rfl
 |cons x r ih=>rw[fu,h x sT,ih λa b=>h a (by simp[b])];rfl
theorem gL{A:Type}{L:List A}{F G:A->Int}(h:∀a∈L,F a=G a):tot L F=tot L G:=by
 induction L with
 |nil=>rfl
 |cons x r ih=>rw[fu,fu,h x sT,ih λa b=>h a (by simp[b])]
theorem xE{A:Type}{L:List A}{R:A->A->Prop}(c:L.Pairwise R){x:A}(b:x∈L){F:A->Int}(d:∀a,(R a x\/R x a)->F a=0):tot L F=F x:=by
 induction L with
 |nil=>cases b
 |cons y r ih =>
  rw[kB]at c;rw[fu];rcases mem_cons.1 b with rfl|b
  ·rw[ju λa e=>d a (.inr (c.1 a e))];omega
  ·rw[ih c.2 b,d y (.inl (c.1 x b))];omega
def Mb{k w c:Nat}{x:aC}:x∈acc k w c↔x=⟨(k:Int)+1,w,c⟩/\x.right=true:=by
 unfold acc;split
 ·rename_i h;simp only[gV];constructor
  ·rintro rfl;exact⟨rfl,h⟩
  ·exact λh=>h.1
 ·rename_i h;constructor
  ·intro h;cases h
  ·rintro⟨rfl,a⟩;exact absurd a h
def Gb{k w n:Nat}{x:aC}:x∈Dk k w n↔∃c,c<n/\x=⟨(k:Int)+1,w,(c:Nat)⟩/\x.right=true:=by
 rw[show Dk k w n=pQ (acc k w) n from rfl,jM];simp only[Mb]
def Gd{k n:Nat}{x:aC}:x∈Dl k n↔∃w,w<n/\∃c,c<3/\x=⟨(k:Int)+1,(w:Nat),(c:Nat)⟩/\x.right=true:=by
 rw[show Dl k n=pQ (λw=>Dk k w 3) n from rfl,jM];simp only[Gb]
def Xe{n:Nat}{x:aC}:x∈Gc n↔∃k,k<n/\∃w,w<17/\∃c,c<3/\x=⟨((k:Nat):Int)+1,(w:Nat),(c:Nat)⟩/\x.right=true:=by
 rw[show Gc n=pQ (λk=>Dl k 17) n from rfl,jM];simp only[Gd]
def D9{x:aC}(h:x.right=true):(1<=x.kind/\x.kind<=6)/\(0<=x.who/\x.who<=16)/\0<=x.cur/\x.cur<=2:=by
 unfold aC.right at h;split at h
 ·cases h
 ·split at h
  ·simp only[bQ,bz]at h;omega
  ·simp only[ff]at h;omega
def tq{x:aC}:x∈fP↔x.right=true:=by
 unfold fP;rw[Xe];constructor
 ·rintro⟨_,_,_,_,_,_,_,h⟩;exact h
 ·intro h;have:=D9 h;refine⟨(x.kind-1).toNat,by omega,x.who.toNat,by omega,x.cur.toNat,by omega,?_,h⟩;obtain⟨a,b,c⟩:=x;dsimp only at this |-;rw[aC.mk.injEq];omega
def wH:fP.Pairwise (λa b=>a.less b=true):=by
 unfold fP;rw[show Gc 6=pQ (λk=>Dl k 17) 6 from rfl];refine xq (λk _=>?_) λi j d _ x e y f=>?_
 ·rw[show Dl k 17=pQ (λw=>Dk k w 3) 17 from rfl];refine xq (λw _=>?_) λi j d _ x e y f=>?_
  ·rw[show Dk k w 3=pQ (acc k w) 3 from rfl];refine xq (λc _=>yV (by unfold acc;split<;>simp)) λi j d _ x e y f=>?_;obtain⟨rfl,_⟩:=Mb.1 e;obtain⟨rfl,_⟩:=Mb.1 f;rw[rG];dsimp only;omega
  ·obtain⟨_,_,rfl,_⟩:=Gb.1 e;obtain⟨_,_,rfl,_⟩:=Gb.1 f;rw[rG];dsimp only;omega
 ·obtain⟨_,_,_,_,rfl,_⟩:=Gd.1 e;obtain⟨_,_,_,_,rfl,_⟩:=Gd.1 f;rw[rG];dsimp only;omega
def Ba(c:Int)(a:aC)(n:Int):Int:=if a.cur=c then n else 0
theorem aaK(c:Int)(b:bU)(n:Int):Ba c b.bq n=if b.cur=c then n else 0:=rfl
theorem aaL(c:Int)(b:aK)(n:Int):Ba c b.bq n=if b.cur=c then n else 0:=rfl
theorem aff(c:Int)(a:aC)(m n:Int):Ba c (bU.bq ⟨a.kind,a.who,a.cur,m⟩) n=Ba c a n:=rfl
def Kz(c:Int)(b:bU)(r:List bU):ay (j4 c (b::r))=Ba c b.bq b.sum+ay (j4 c r):=by
 rw[aaK];simp only[j4,filter_cons];by_cases h:b.cur=c
 ·rw[aq (su h),aq h];rfl
 ·rw[au (su h),au h];simp
def XA(c:Int)(a b:List bU):j4 c (a++b)=j4 c a++j4 c b:=by simp[j4]
theorem XB(c:Int)(S:aC->Int)(L:List aC):ay (j4 c (L.flatMap λa=>uU a (S a)))=tot L λa=>Ba c a (S a):=by
 induction L with
 |nil=>rfl
 |cons x r ih =>
  rw[flatMap_cons,XA,fM,ih,fu];congr 1;unfold uU;split
  ·rename_i h;have h:S x=0:=su h;rw[h];simp[j4,ay,Ba]
  ·rw[Kz,aff];simp[j4,ay]
theorem HR{a:aC}:∀{bs:List bU},(∀b∈bs,b.bq≠a)->eP a bs=0
 | [],_=>rfl
 |b::r,h=>by
  simp only[eP];rw[au (λc=>h b sT (uD.1 c))];exact HR λx d=>h x (by simp[d])
theorem Zq(c:Int):∀{bs:List bU},(∀b∈bs,b.bq.right=true)->bs.Pairwise (λx y=>x.bq.less y.bq=true)->tot fP (λa=>Ba c a (eP a bs))=ay (j4 c bs)
 | [],_,_=>ju λa _=>by simp[eP,Ba]
 |b::r,h1,h2=>by
  rw[kB]at h2;rw[Kz,<-Zq c (λx f=>h1 x (by simp[f])) h2.2];have e:∀a∈fP,Ba c a (eP a (b::r))=(if b.bq=a then Ba c a b.sum else 0)+Ba c a (eP a r):=by
   intro a _;simp only[eP];by_cases d:b.bq=a
   ·rw[aq (uD.2 d),aq d];rw[HR (bs:=r) (λx f g=>by have:=h2.1 x f;rw[d,g]at this;exact yM this)];simp[Ba]
   ·rw[au (λj=>d (uD.1 j)),au d];omega
  rw[gL e,rz];congr 1;rw[xE wH (x:=b.bq) (tq.2 (h1 b sT))]
  ·simp
  ·intro a i;rw[au];rintro rfl;rcases i with h|h<;>exact yM h
def mR(a:aC)(x:aK)(g:List aK):ay (bZ a (x::g))=(if x.bq=a then x.cu else 0)+ay (bZ a g):=by
 simp only[bZ,pick,flatMap_cons,fM];congr 1;by_cases h:x.bq=a
 ·rw[aq (Kj.2 h),aq h];simp[ay]
 ·rw[au (λb=>h (Kj.1 b)),au h];rfl
def vG(c:Int)(x:aK)(g:List aK):ay (iO c (x::g))=Ba c x.bq x.cu+ay (iO c g):=by
 simp only[iO,pick,flatMap_cons,fM];congr 1;rw[aaL];by_cases h:x.cur=c
 ·rw[aq (su h),aq h];simp[ay]
 ·rw[au (su h),au h];rfl
theorem C5(c:Int):∀{g:List aK},(∀x∈g,x.bq.right=true)->tot fP (λa=>Ba c a (ay (bZ a g)))=ay (iO c g)
 | [],_=>ju λa _=>by simp[bZ,pick,Ba,ay]
 |x::r,h1=>by
  rw[vG,<-C5 c (λy f=>h1 y (by simp[f]))];have e:∀a∈fP,Ba c a (ay (bZ a (x::r)))=(if x.bq=a then Ba c a x.cu else 0)+Ba c a (ay (bZ a r)):=by
   intro a _;rw[mR];by_cases b:x.bq=a
   ·rw[aq b,aq b];simp only[Ba];split<;>omega
   ·rw[au b,au b];simp only[Int.zero_add]
  rw[gL e,rz];congr 1;rw[xE wH (x:=x.bq) (tq.2 (h1 x sT))]
  ·simp
  ·intro a d;rw[au];rintro rfl;rcases d with h|h<;>exact yM h
def Xo{bs:List bU}{c:Int}:nX bs c=true↔right (j4 c bs)=true/\ay (j4 c bs)=0:=by
 simp only[nX,oa,oI,bQ,ff];constructor
 ·rintro⟨b,d⟩;split at b
  ·rename_i a;split at b
   ·rename_i e;rw[a,e]at d;exact⟨a,su d⟩
   ·cases b
  ·cases b
 ·rintro⟨a,f⟩;rw[aq a,f,a];exact⟨rfl,rfl⟩
def kQ{l:bu}:l.okB=true↔0<=l.last/\((∀b∈l.bs,lR b=true)/\l.bs.Pairwise (λx y=>x.bq.less y.bq=true))/\nX l.bs 0=true/\nX l.bs 1=true/\nX l.bs 2=true:=by
 simp only[bu.okB,bQ,TM,bz,and_assoc]
def DQ{l:bu}(h:l.okB=true):∀b∈l.bs,b.bq.right=true:=λb a=>by
 have:=(kQ.1 h).2.1.1 b a;simp only[lR,bQ]at this;exact this.1
def P1{l:bu}{id:Int}{g:List aK}(h:eK l id g=0):l.okB=true/\(1<=id/\id<=1099511627776)/\lJ g=0/\uF l g fP=true/\vZ l g fP=false:=by
 unfold eK at h;split at h
 case isFalse=>cases h
 rename_i c;split at h
 case isFalse=>cases h
 rename_i b;split at h
 ·cases h
 split at h
 case isFalse a=>exact absurd h a
 rename_i a;split at h
 case isFalse=>cases h
 rename_i d;split at h
 ·cases h
 rename_i e;simp only[within,bQ,bz]at b;exact⟨c,b,a,d,su e⟩
def P4{l:bu}{id:Int}{g:List aK}(h:eK l id g=0):(iQ l id g).okB=true:=by
 unfold iQ;rw[aq h];obtain⟨v,h2,z,A,B⟩:=P1 h;obtain⟨E,F,m3⟩:=Gw z;have u:∀x∈g,x.bq.right=true:=λx k=>by
  have:=bL.1 E x k;simp only[sA,bQ]at this;exact this.1
 have d:=kQ.1 v;have p:∀b∈Fh l g fP,∃a∈fP,b=⟨a.kind,a.who,a.cur,n7 l g a⟩/\n7 l g a≠0:=by
  intro b d;obtain⟨a,j,d⟩:=mem_flatMap.1 d;unfold uU at d;split at d
  ·cases d
  ·rename_i o;simp only[gV]at d;exact⟨a,j,d,su o⟩
 have q:∀a∈fP,bB (n7 l g a)=true:=λa j=>bL.1 A a j;have i:∀c:Int,nX l.bs c=true->ay (iO c g)=0->nX (Fh l g fP) c=true:=by
  intro c r C;rw[Xo]at r |-;constructor
  ·refine bL.2 λn w=>?_;simp only[j4,mem_map,mem_filter]at w;obtain⟨b,⟨d,_⟩,rfl⟩:=w;obtain⟨a,j,rfl,_⟩:=p b d;exact q a j
  ·have e:=XB c (n7 l g) fP;rw[show Fh l g fP=fP.flatMap λa=>uU a (n7 l g a)from rfl,e];have e2:∀a∈fP,Ba c a (n7 l g a)=Ba c a (eP a l.bs)+Ba c a (ay (bZ a g)):=λa _=>by
    simp only[n7,ay,Ba];split<;>omega
   rw[gL e2,rz,Zq c (DQ v) d.2.1.2,C5 c u,r.2,C];rfl
 have m:∀c:Nat,c<3->ay (iO c g)=0:=λc r=>by
  have:=bL.1 F c (mem_range.2 r);simpa using this
 refine kQ.2 ⟨by dsimp only;omega,⟨λb d=>?_,?_⟩,i 0 d.2.2.1 (m 0 ak),i 1 d.2.2.2.1 (m 1 ak),i 2 d.2.2.2.2 (m 2 ak)⟩
 ·obtain⟨a,j,rfl,o⟩:=p b d;rw[show lR ⟨a.kind,a.who,a.cur,n7 l g a⟩=(a.right&&(bB (n7 l g a)&&(n7 l g a != 0&&!decide (n7 l g a<a.floor))))from rfl];simp only[bQ,bne_iff_ne,gD,gv];refine⟨tq.1 j,q a j,o,λt=>?_⟩;have:vZ l g fP=true:=any_eq_true.2 ⟨a,j,su t⟩;rw[B]at this;cases this
 ·refine M4 (f:=λa=>uU a (n7 l g a)) wH (λa _=>yV (Oc _ _)) λa b _ _ s x k y D=>?_;have key:∀(a:aC)(x:bU),x∈uU a (n7 l g a)->x.bq=a:=λa x k=>by
   unfold uU at k;split at k
   ·cases k
   ·simp only[gV]at k;rw[k];rfl
  rw[key a x k,key b y D];exact s
def DY{l:bu}{g:List aK}{e:Int}(h:l.okB=true)(a:(fL l g e).2=0):(fL l g e).1.okB=true:=by
 unfold fL at a |-;split
 ·rename_i b;rw[aq b]at a;exact P4 a
 ·exact h
def qI{a b:aB}:jP a b=true↔a.who<b.who\/(a.who=b.who/\a.inst<b.inst):=by
 simp only[jP,JG,Bool.or_eq_true,bQ,bz,ff]
def YM{a b c:aB}(d:jP a b=true)(e:jP b c=true):jP a c=true:=by
 simp only[jP,JG,Bool.or_eq_true,bQ,bz,ff]at d e |-;omega
def SY{a b c:aR}(d:gS a b=true)(e:gS b c=true):gS a c=true:=by
 simp only[gS,bz]at d e |-;omega
def HC{n:Int}{l:List aB}:oW n l=true↔right (dP n l)=true/\ay (dP n l)=0:=by
 simp only[oW,oa,oI,bQ,ff];constructor
 ·rintro⟨b,c⟩;split at b
  ·rename_i a;split at b
   ·rename_i d;rw[a,d]at c;exact⟨a,su c⟩
   ·cases b
  ·cases b
 ·rintro⟨a,e⟩;rw[aq a,e,a];exact⟨rfl,rfl⟩
def iJ{p:aB}:p.okB=true↔(1<=p.who/\p.who<=16)/\(1<=p.inst/\p.inst<=8)/\(-1099511627776<=p.aO/\p.aO<=1099511627776)/\bB p.cost=true/\¬(p.aO=0/\p.cost=0):=by
 simp only[aB.okB,qB,within,bQ,bz,gD,Bool.and_eq_false_iff,beq_eq_false_iff_ne,ne_eq];constructor
 ·rintro⟨⟨b,c⟩,d,e,a⟩;exact⟨b,c,d,e,λh=>by rcases a with a|a<;>omega⟩
 ·rintro⟨b,c,d,e,a⟩;refine⟨⟨b,c⟩,d,e,?_⟩;omega
structure aH.right(b:aH):Prop where
 ok:∀p∈b.qs,p.okB=true
 pw:b.qs.Pairwise (λx y=>jP x y=true)
 level:∀n:Int,1<=n->n<=8->ay (dP n b.qs)=0
 tok:∀t∈b.ts,iu b.next t=true
 tpw:b.ts.Pairwise (λx y=>x.no<y.no)
 tl:b.ts.length<=128
 n0:0<=b.next
 n1:b.next<=1099511627776
def dn{b:aH}:b.okB=true↔b.right:=by
 simp only[aH.okB,bQ,oR (lt:=jP) YM,oR (lt:=gS) SY,gD,gv,n6,bL,HC];constructor
 ·rintro⟨⟨c,d⟩,⟨h3,h4⟩,h5,h6,h7,h8⟩;refine⟨c,d,λn hn hn2=>?_,h3,h4.imp λh=>by simpa[gS]using h,by omega,by omega,by omega⟩;have:=(h5 (n-1).toNat (mem_range.2 ak)).2;rwa[show(((n-1).toNat:Nat):Int)+1=n by omega]at this
 ·intro h;refine⟨⟨h.ok,h.pw⟩,⟨h.tok,h.tpw.imp λh=>by simpa[gS]using h⟩,λi e=>⟨?_,h.level _ ak (by have:=mem_range.1 e;omega)⟩,by have:=h.tl;omega,by have:=h.n0;omega,by have:=h.n1;omega⟩;refine bL.2 λq a=>?_;simp only[dP,mem_map,mem_filter]at a;obtain⟨p,⟨f,_⟩,rfl⟩:=a;have:=(iJ.1 (h.ok p f)).2.2.1;rw[aP];omega
def LA(n:Int)(a b:List aB):dP n (a++b)=dP n a++dP n b:=by simp[dP]
def n8(n:Int)(p:aB)(r:List aB):ay (dP n (p::r))=(if p.inst=n then p.aO else 0)+ay (dP n r):=by
 simp only[dP,filter_cons];by_cases h:p.inst=n
 ·rw[aq (su h),aq h];rfl
 ·rw[au (su h),au h];simp
theorem Bl{A:Type}(n:Int)(f:A->List aB)(L:List A):ay (dP n (L.flatMap f))=tot L (λa=>ay (dP n (f a))):=by
 induction L with
 |nil=>rfl
 |cons x r ih=>rw[flatMap_cons,LA,fM,ih];rfl
def VW(b:aH)(g:List aB)(w m n:Int):ay (dP n (FH b g w m))=if m=n then zW b g w m else 0:=by
 unfold FH;split
 ·rename_i h;simp only[bQ,ff]at h;rw[h.1];split<;>rfl
 ·rw[n8];simp[dP,ay]
def P9(n:Nat):(range n).Pairwise (λa b=>a<b):=pairwise_lt_range
def VV(b:aH)(g:List aB)(w n:Int)(h1:1<=n)(h8:n<=8):ay (dP n (Jk b g w 8))=zW b g w n:=by
 unfold Jk;rw[Bl];have e:∀k∈range 8,ay (dP n (FH b g w ((k:Int)+1)))=if(k:Int)+1=n then zW b g w n else 0:=λk _=>by
  rw[VW];split
  ·rename_i h;rw[h]
  ·rfl
 rw[gL e,xE (P9 8) (x:=(n-1).toNat) (mem_range.2 ak)]
 ·rw[aq ak]
 ·intro a ha;rw[au ak]
def VX(b:aH)(g:List aB)(n:Int)(a:1<=n)(c:n<=8):ay (dP n (yh b g 16))=tot (range 16) (λk=>zW b g ((k:Int)+1) n):=by
 unfold yh;rw[Bl];exact gL λk _=>VV b g _ n a c
def lH{w n:Int}{p:aB}:bY w n p=true↔p.who=w/\p.inst=n:=by simp only[bY,bQ,ff]
theorem gJ{w n:Int}:∀{qs:List aB},(∀p∈qs,¬(p.who=w/\p.inst=n))->posOf w n qs=⟨w,n,0,0⟩
 | [],_=>rfl
 |p::r,h=>by
  simp only[posOf];rw[au (by simp only[bY,bQ,ff];exact h p sT)];exact gJ λx a=>h x (by simp[a])
theorem ot{w n:Int}:∀{qs:List aB},(∃p∈qs,p.who=w/\p.inst=n)->posOf w n qs∈qs/\(posOf w n qs).who=w/\(posOf w n qs).inst=n
 | [],h=>by obtain⟨_,h,_⟩:=h;cases h
 |p::r,h=>by
  simp only[posOf];split
  ·rename_i a;simp only[bY,bQ,ff]at a;exact⟨by simp,a⟩
  ·rename_i a;simp only[bY,bQ,ff]at a;obtain⟨x,b,c⟩:=h;rcases mem_cons.1 b with rfl|b
   ·exact absurd c a
   ·obtain⟨d,e⟩:=ot ⟨x,b,c⟩;exact⟨by simp[d],e⟩
theorem tX{w n:Int}{qs:List aB}(b:qs.Pairwise (λx y=>jP x y=true)){p:aB}(a:p∈qs)(c:p.who=w/\p.inst=n):posOf w n qs=p:=by
 induction qs with
 |nil=>cases a
 |cons y r ih =>
  rw[kB]at b;simp only[posOf];rcases mem_cons.1 a with rfl|a
  ·rw[aq (by simp only[bY,bQ,ff];exact c)]
  ·have:=b.1 p a;rw[au]
   ·exact ih b.2 a
   ·simp only[jP,JG,Bool.or_eq_true,bQ,bz,ff]at this;simp only[bY,bQ,ff];omega
def adD{w v:Int}(h:1<=w/\w<=16):tot (range 16) (λk=>if w=(k:Int)+1 then v else 0)=v:=by
 rw[xE (P9 16) (x:=(w-1).toNat) (mem_range.2 ak)]
 ·rw[aq ak]
 ·intro a ha;rw[au ak]
theorem Zr(n:Int):∀{qs:List aB},(∀p∈qs,1<=p.who/\p.who<=16)->qs.Pairwise (λx y=>jP x y=true)->tot (range 16) (λk=>(posOf ((k:Int)+1) n qs).aO)=ay (dP n qs)
 | [],_,_=>ju λa _=>rfl
 |p::r,h1,h2=>by
  rw[kB]at h2;rw[n8,<-Zr n (λx d=>h1 x (by simp[d])) h2.2];have e:∀k∈range 16,(posOf ((k:Int)+1) n (p::r)).aO=(if p.who=(k:Int)+1 then(if p.inst=n then p.aO else 0)else 0)+(posOf ((k:Int)+1) n r).aO:=by
   intro k _;simp only[posOf];by_cases c:p.who=(k:Int)+1
   ·rw[aq c];by_cases b:p.inst=n
    ·rw[aq b,aq (lH.2 ⟨c,b⟩)];rw[gJ (qs:=r)]
     ·simp
     ·intro x d hk;have:=h2.1 x d;simp only[jP,JG,Bool.or_eq_true,bQ,bz,ff]at this;omega
    ·rw[au b,au (λh=>b (lH.1 h).2)];omega
   ·rw[au c,au (λh=>c (lH.1 h).1)];omega
  rw[gL e,rz,adD (h1 p sT)]
def mW{A:Type}(q:A->Bool)(f:A->Int)(x:A)(r:List A):ay (pick q f (x::r))=(if q x=true then f x else 0)+ay (pick q f r):=by
 simp only[pick,flatMap_cons,fM];congr 1;split
 ·simp[ay]
 ·rfl
theorem Q0(n:Int)(f:aB->Int):∀{g:List aB},(∀p∈g,1<=p.who/\p.who<=16)->tot (range 16) (λk=>ay (pick (bY ((k:Int)+1) n) f g))=ay (pick (λp=>p.inst==n) f g)
 | [],_=>ju λa _=>rfl
 |p::r,h1=>by
  rw[mW,<-Q0 n f (λx d=>h1 x (by simp[d]))];have e:∀k∈range 16,ay (pick (bY ((k:Int)+1) n) f (p::r))=(if p.who=(k:Int)+1 then(if(p.inst==n)=true then f p else 0)else 0)+ay (pick (bY ((k:Int)+1) n) f r):=by
   intro k _;rw[mW];congr 1;by_cases c:p.who=(k:Int)+1
   ·rw[aq c];by_cases b:p.inst=n
    ·rw[aq (lH.2 ⟨c,b⟩),aq (su b)]
    ·rw[au (λh=>b (lH.1 h).2),au (su b)]
   ·rw[au c,au (λh=>c (lH.1 h).1)]
  rw[gL e,rz,adD (h1 p sT)]
def abm{p:aB}(h:jO p=true):(1<=p.who/\p.who<=16)/\(1<=p.inst/\p.inst<=8):=by
 simp only[jO,qB,within,bQ,bz]at h;exact h.1
def oM{b:aH}{g:List aB}{w n:Int}{p:aB}(h:p∈FH b g w n):p=⟨w,n,zW b g w n,Jj b g w n⟩/\¬(zW b g w n=0/\Jj b g w n=0):=by
 unfold FH at h;split at h
 ·cases h
 ·rename_i a;simp only[bQ,ff]at a;exact⟨gV.1 h,a⟩
def Z7{b:aH}{g:List aB}{p:aB}(h:p∈yh b g 16):(∃q∈b.qs,q.who=p.who/\q.inst=p.inst)\/(∃q∈g,q.who=p.who/\q.inst=p.inst):=by
 obtain⟨k,m,_,_,d⟩:=sF h;obtain⟨rfl,c⟩:=oM d;dsimp only;by_cases e:∃q∈b.qs,q.who=(k:Int)+1/\q.inst=(m:Int)+1
 ·exact .inl e
 by_cases i:∃q∈g,q.who=(k:Int)+1/\q.inst=(m:Int)+1
 ·exact .inr i
 exfalso;have j:=gJ (w:=(k:Int)+1) (n:=(m:Int)+1) (qs:=b.qs) λp d a=>e ⟨p,d,a⟩;have e2:∀f:aB->Int,pick (bY ((k:Int)+1) ((m:Int)+1)) f g=[]:=λf=>by
  unfold pick;rw[flatMap_eq_nil_iff];intro x l;rw[au];simp only[bY,bQ,ff];exact λa=>i ⟨x,l,a⟩
 apply c;unfold zW Jj;rw[j,e2,e2];exact⟨rfl,rfl⟩
def Dm(b:aH)(g:List aB):(yh b g 16).Pairwise (λx y=>jP x y=true):=by
 rw[show yh b g 16=pQ (λk=>Jk b g ((k:Int)+1) 8) 16 from rfl];refine xq (λk _=>?_) λi j d _ x a y c=>?_
 ·rw[show Jk b g ((k:Int)+1) 8=pQ (λm=>FH b g ((k:Int)+1) ((m:Int)+1)) 8 from rfl];refine xq (λm _=>yV (by unfold FH;split<;>simp)) λi j d _ x a y c=>?_;rw[(oM a).1,(oM c).1];rw[qI];dsimp only;omega
 ·obtain⟨m,_,a⟩:=mem_flatMap.1 a;obtain⟨m2,_,c⟩:=mem_flatMap.1 c;rw[(oM a).1,(oM c).1];rw[qI];dsimp only;omega
def Dn{b:aH}{g:List aB}(h:jA b g=0):(∀p∈yh b g 16,p.okB=true)/\∀n:Int,1<=n->n<=8->ay (dP n (yh b g 16))=0:=by
 obtain⟨l,o,q⟩:=Dq h;have i:=dn.1 (oO h).1;refine⟨λp c=>?_,λn d f=>?_⟩
 ·obtain⟨k,m,r,s,c⟩:=sF c;have a:=Gf q r s;obtain⟨rfl,j⟩:=oM c;simp only[uT,within,bQ,bz]at a;rw[iJ];dsimp only;exact⟨by omega,by omega,a.2.2,a.2.1,j⟩
 ·rw[VX _ _ _ d f];have e:∀k∈range 16,zW b g ((k:Int)+1) n=(posOf ((k:Int)+1) n b.qs).aO+ay (pick (bY ((k:Int)+1) n) aB.aO g):=λk _=>rfl;rw[gL e,rz,Zr n (λp c=>(iJ.1 (i.ok p c)).1) i.pw,Q0 n aB.aO (λp c=>(abm (bL.1 l p c)).1),i.level n d f];have:=bL.1 o (n-1).toNat (mem_range.2 ak);rw[show(((n-1).toNat:Nat):Int)+1=n by omega]at this;simpa using this
def Tj{b:aH}{g:List aB}(h:jA b g=0):(oN b g).okB=true:=by
 have a:=dn.1 (oO h).1;rw[(oO h).2];obtain⟨c,d⟩:=Dn h;exact dn.2 ⟨c,Dm b g,d,a.tok,a.tpw,a.tl,a.n0,a.n1⟩
def UY{b:aH}{t:aR}(h:jC b t=0):b.okB=true/\t.okB=true/\b.ts.length<128/\b.next≠1099511627776/\jA b (j9 t false)=0:=by
 unfold jC at h;split at h
 case isFalse=>cases h
 rename_i a;split at h
 case isFalse=>cases h
 rename_i c;split at h
 ·cases h
 rename_i h3;split at h
 ·cases h
 rename_i d;exact⟨a,c,by omega,d,h⟩
def KI{b:aH}{t:aR}(h:jC b t=0):(mu b t).okB=true:=by
 obtain⟨e,f,h3,h4,g⟩:=UY h;have d:=dn.1 e;obtain⟨j,k⟩:=Dn g;have n0:=d.n0;have n1:=d.n1;have c:∀x∈b.ts,(1<=x.no/\x.no<=b.next)/\x.okB=true:=λx a=>by
  have:=d.tok x a;simp only[iu,bQ,gD,gv]at this;exact⟨by omega,this.1⟩
 unfold mu;rw[aq h];refine dn.2 ⟨j,Dm _ _,k,λx a=>?_,?_,by dsimp only;simp;omega,by dsimp only;omega,by dsimp only;omega⟩
 ·simp only[iu,bQ,gD,gv];rcases mem_append.1 a with a|a
  ·have:=c x a;exact⟨this.2,by omega,by omega⟩
  ·obtain rfl:=gV.1 a;exact⟨f,by dsimp only;omega,by dsimp only;omega⟩
 ·dsimp only;rw[pairwise_append];refine⟨d.tpw,by simp,λx a y i=>?_⟩;obtain rfl:=gV.1 i;have:=c x a;dsimp only;omega
def GU{b:aH}{n:Int}(h:¬j6 n b.ts<0):eI n b.ts∈b.ts/\(j6 n b.ts).toNat<b.ts.length/\b.ts[(j6 n b.ts).toNat]?=some (eI n b.ts):=by
 obtain⟨i,a,c,_⟩:=yz h;unfold eI;rw[c,Int.toNat_natCast,getD_eq_getElem?_getD,fj a];exact⟨dS a,a,rfl⟩
def RA{b:aH}{n:Int}(h:ij b n=0):(gG b n).okB=true:=by
 obtain⟨d,e,f⟩:=wO h;have a:=dn.1 d;obtain⟨m,o⟩:=Dn f;obtain⟨i,k,l⟩:=GU e;unfold gG;rw[aq h];refine dn.2 ⟨m,Dm _ _,o,λx c=>?_,?_,by dsimp only;simp only[VB,length_set];exact a.tl,a.n0,a.n1⟩
 ·rcases mem_or_eq_of_mem_set c with c|rfl
  ·exact a.tok x c
  ·exact(show iu b.next (eI n b.ts)=true from a.tok _ i)
 ·refine P7 (no:=aR.no) ?_ a.tpw;dsimp only;unfold VB;rw[map_set];refine ext_getElem? λj=>?_;rw[getElem?_set];split
  ·rename_i g;subst g;rw[getElem?_map,l];simp[k]
  ·rfl
def Es{b:aH}{n q p:Int}(h:vF b n q p=0):ij b n=0/\jC (gG b n) { eI n b.ts with aO:=q,aL:=p }=0:=by
 unfold vF at h;split at h
 ·exact⟨by assumption,h⟩
 ·rename_i a;exact absurd h a
def Ox{b:aH}{n q p:Int}(h:vF b n q p=0):(vE b n q p).okB=true:=by
 obtain⟨a,c⟩:=Es h;unfold vE;rw[aq a];exact KI c
theorem Qx{r:aA}:∀{l:List aB},uc r l=0->∀p∈l,IJ r p=0
 | [],_,_,h=>by cases h
 |q::t,h,p,hp=>by
  simp only[uc]at h;split at h
  ·rcases mem_cons.1 hp with rfl|hp
   ·assumption
   ·exact Qx h p hp
  ·rename_i a;exact absurd h a
def abA{r:aA}{b:aH}(h:Ag r b=0):r.okB=true/\b.okB=true/\∀p∈b.qs,IJ r p=0:=by
 unfold Ag at h;split at h
 ·rename_i a;rw[bQ]at a;exact⟨a.1,a.2,Qx h⟩
 ·cases h
def YY{r:aA}{p:aB}(h:IJ r p=0):bJ r p.inst=true/\bB (fY p (aZ r p.inst).mult (cy (aZ r p.inst)))=true/\bB (p.aO*cy (aZ r p.inst))=true:=by
 unfold IJ at h;split at h
 case isFalse=>cases h
 rename_i b;split at h
 ·cases h
 split at h
 case isFalse=>cases h
 rename_i a;rw[bQ]at a;exact⟨b,a⟩
def zS{r:aA}{p x:aB}(h:x∈ud r p):x=⟨p.who,p.inst,p.aO,p.aO*cy (aZ r p.inst)⟩/\¬(p.aO=0/\p.aO*cy (aZ r p.inst)=0):=by
 unfold ud at h;split at h
 ·cases h
 ·rename_i a;simp only[bQ,ff]at a;exact⟨gV.1 h,a⟩
def abz{r:aA}{b:aH}(h:Ag r b=0):(Eb r b).okB=true:=by
 obtain⟨_,o,s⟩:=abA h;have a:=dn.1 o;unfold Eb;rw[aq h];refine dn.2 ⟨λx c=>?_,?_,λn d g=>?_,a.tok,a.tpw,a.tl,a.n0,a.n1⟩
 ·obtain⟨p,k,c⟩:=mem_flatMap.1 c;obtain⟨rfl,i⟩:=zS c;have:=iJ.1 (a.ok p k);rw[iJ];exact⟨this.1,this.2.1,this.2.2.1,(YY (s p k)).2.2,i⟩
 ·refine M4 (f:=ud r) a.pw (λp _=>yV (by unfold ud;split<;>simp)) λp q _ _ j x c y u=>?_;rw[(zS c).1,(zS u).1];exact j
 ·dsimp only;rw[Bl,<-a.level n d g];have e:∀l:List aB,tot l (λp=>ay (dP n (ud r p)))=ay (dP n l):=λl=>by
   induction l with
   |nil=>rfl
   |cons p t ih =>
    rw[fu,ih,n8];congr 1;unfold ud;split
    ·rename_i m;simp only[bQ,ff]at m;rw[m.1];split<;>rfl
    ·rw[n8];simp[dP,ay]
  exact e b.qs
def UG{a b c:aI}(d:cq a b=true)(e:cq b c=true):cq a c=true:=by
 simp only[cq,Bool.or_eq_true,bQ,bz,ff]at d e |-;omega
def wD{a b c:bX}(d:fV a b=true)(e:fV b c=true):fV a c=true:=by
 simp only[fV,bz]at d e |-;omega
def sU{xs:List aI}:pY dh cq xs=true↔(∀x∈xs,dh x=true)/\xs.Pairwise (λa b=>cq a b=true):=oR (lt:=cq) UG
def zD{x:aI}:dh x=true↔(1<=x.who/\x.who<=16)/\(0<=x.cur/\x.cur<=2)/\(1<=x.cu/\x.cu<=4611686018427387904)/\0<=x.till/\x.till<=1099511627776:=by
 simp only[dh,within,bQ,bz];omega
def XE{x:aU}:B9 x=true↔(1<=x.who/\x.who<=16)/\(0<=x.cur/\x.cur<=2)/\0<=x.cu/\x.cu<=4611686018427387904:=by
 simp only[B9,within,bQ,bz];omega
def wN{w c:Int}{xs:List aI}(h:¬eW w c xs<0):qq w c xs∈xs/\(qq w c xs).who=w/\(qq w c xs).cur=c:=by
 obtain⟨i,b,d,a⟩:=tB h;unfold qq;rw[d,Int.toNat_natCast,getD_eq_getElem?_getD,fj b];simp only[qt,bQ,ff]at a;exact⟨dS b,a⟩
def zj{xs:List aI}{x y:aI}{w c:Int}(h:y∈ND xs x w c):(y.who=w/\y.cur=c)/\((y=x/\0<x.cu)\/y∈xs):=by
 unfold ND at h;split at h
 ·rename_i a;simp only[bQ,ff]at a;split at h
  ·rename_i b;obtain rfl:=gV.1 h;exact⟨a,.inl ⟨rfl,b⟩⟩
  ·cases h
 ·split at h
  ·cases h
  ·rename_i d;obtain rfl:=gV.1 h;have:=wN d;exact⟨this.2,.inr this.1⟩
def IS{xs:List aI}{x y:aI}(h:y∈Ee xs x 16):(y=x/\0<x.cu)\/y∈xs:=by
 obtain⟨k,_,h⟩:=jM.1 h;obtain⟨c,_,h⟩:=jM.1 h;exact(zj h).2
def Ub{xs:List aI}{x:aI}(h:pY dh cq xs=true)(n:0<x.cu->dh x=true):pY dh cq (Ee xs x 16)=true:=by
 rw[sU]at h |-;refine⟨λy g=>?_,?_⟩
 ·rcases IS g with⟨rfl,d⟩|g
  ·exact n d
  ·exact h.1 y g
 ·unfold Ee;refine xq (λk _=>?_) λi j f _ a d b e=>?_
  ·unfold Ed;refine xq (λc _=>yV (QF _ _ _ _)) λi j f _ a d b e=>?_;have l:=(zj d).1;have m:=(zj e).1;simp only[cq,Bool.or_eq_true,bQ,bz,ff];omega
  ·obtain⟨_,_,d⟩:=jM.1 d;obtain⟨_,_,e⟩:=jM.1 e;have l:=(zj d).1;have m:=(zj e).1;simp only[cq,Bool.or_eq_true,bQ,bz,ff];omega
def aac{xs:List aI}{d:aU}{t:Int}(h:pY dh cq xs=true):pY dh cq (EY xs d t)=true/\∀y∈EY xs d t,y.who=d.who\/y∈xs:=by
 unfold EY;split
 case isFalse=>exact⟨rfl,λy b=>by cases b⟩
 rename_i c;unfold Gi at c;rw[aq h]at c;split at c
 case isFalse=>cases c
 rename_i a;rw[bQ]at a;obtain⟨a,e⟩:=a;rw[XE]at a;simp only[within,bQ,bz]at e;refine⟨Ub h λf=>?_,λy b=>?_⟩
 ·dsimp only at f;rw[zD];dsimp only;refine⟨a.1,a.2.1,by omega,?_⟩;split
  ·exact e
  ·rename_i g;exact(zD.1 ((sU.1 h).1 _ (wN g).1)).2.2.2
 ·rcases IS b with⟨rfl,_⟩|b
  ·exact .inl rfl
  ·exact .inr b
def Yl{xs:List aI}{d:aU}(h:pY dh cq xs=true):pY dh cq (xU xs d)=true/\∀y∈xU xs d,∃x∈xs,y.who=x.who:=by
 unfold xU;split
 case isFalse=>exact⟨rfl,λy c=>by cases c⟩
 rename_i e;unfold vR at e;rw[aq h]at e;split at e
 case isFalse=>cases e
 rename_i g;rw[XE]at g;refine⟨Ub h λa=>?_,λy c=>?_⟩
 ·unfold PG at a |-;split at a
  ·dsimp only at a;omega
  ·rename_i b;rw[au b];have f:=zD.1 ((sU.1 h).1 _ (wN b).1);dsimp only at a;rw[zD];dsimp only;exact⟨f.1,f.2.1,by omega,f.2.2.2⟩
 ·rcases IS c with⟨rfl,a⟩|c
  ·unfold PG at a |-;split at a
   ·dsimp only at a;omega
   ·rename_i b;rw[au b];exact⟨_,(wN b).1,rfl⟩
  ·exact⟨y,c,rfl⟩
def xG{xs:List aI}{ws:List Int}{y:aI}:y∈dR xs ws↔y∈xs/\sI ws y.who=false:=by
 unfold dR;rw[mem_flatMap];constructor
 ·rintro⟨x,d,h⟩;split at h
  ·cases h
  ·rename_i c;obtain rfl:=gV.1 h;exact⟨d,su c⟩
 ·rintro⟨a,b⟩;exact⟨y,a,by rw[b];simp⟩
def SP{A:Type}{R:A->A->Prop}{q:A->Bool}{xs:List A}(h:xs.Pairwise R):(xs.flatMap λx=>if q x=true then[]else[x]).Pairwise R:=by
 refine M4 h (λa _=>yV (by split<;>simp)) λa b _ _ c x d y e=>?_;split at d
 ·cases d
 split at e
 ·cases e
 obtain rfl:=gV.1 d;obtain rfl:=gV.1 e;exact c
def EU{xs:List aI}{ws:List Int}(h:pY dh cq xs=true):pY dh cq (dR xs ws)=true:=by
 rw[sU]at h |-;exact⟨λy a=>h.1 y (xG.1 a).1,SP h.2⟩
structure mA(r:aA)(qs:List aB)(ts:List aR)(ps:List gC)(cs:List aI):Prop where
 qs:∀p∈qs,(bD r p.who=1\/bD r p.who=2)/\bJ r p.inst=true
 ts:∀t∈ts,bD r t.jH≠0/\bD r t.gK≠0/\bJ r t.inst=true
 ps:∀p∈ps,(bD r p.who=1\/bD r p.who=2)/\nq r p.bT=true
 cs:∀c∈cs,bD r c.who=1
structure af.right(s:af):Prop where
 N0:(0<=s.now/\s.now<=1099511627776)/\(0<=s.day/\s.day<=1099511627776)/\0<=s.phase/\s.phase<=2
 aj:s.aj.okB=true
 book:s.book.okB=true
 bf:s.bf.okB=true
 ps:jB s.ps=true
 calls:pY dh cq s.calls=true
 known:mA s.aj s.book.qs s.book.ts s.ps s.calls
 bl:s.aW.length<=32
 aW:∀b∈s.aW,lS b=true
 aT:pY iL fV s.aT=true
def gX{s:af}:bM s=true↔s.right:=by
 simp only[bM,rR,qC,HV,Ah,yS,uA,At,within,bQ,Bool.or_eq_true,gD,bz,gv,ff,beq_eq_false_iff_ne,bL,ne_eq];constructor
 ·rintro⟨h0,a,b,c,d,e,⟨f,g,i,j⟩,h7,h8,h9⟩;exact⟨by omega,a,b,c,d,e,⟨f,g,i,j⟩,by omega,h8,h9⟩
 ·intro h;have:=h.bl;have:=h.N0;exact⟨by omega,h.aj,h.book,h.bf,h.ps,h.calls,⟨h.known.qs,h.known.ts,h.known.ps,h.known.cs⟩,by omega,h.aW,h.aT⟩
def mA.ext{r b:aA}{qs ts ps cs}(h:mA r qs ts ps cs)(e:r.ext b):mA b qs ts ps cs:=by
 have d:∀w,(bD r w=1\/bD r w=2)->bD b w=1\/bD b w=2:=λw i=>by
  rw[e.st w ak];exact i
 refine⟨λp a=>⟨d _ (h.qs p a).1,e.inst _ (h.qs p a).2⟩,λt g=>?_,λp a=>⟨d _ (h.ps p a).1,e.ast _ (h.ps p a).2⟩,λc f=>?_⟩
 ·have:=h.ts t g;rw[e.st _ this.1,e.st _ this.2.1];exact⟨this.1,this.2.1,e.inst _ this.2.2⟩
 ·have:=h.cs c f;rw[e.st _ ak];exact this
def xz{s:af}(h:s.right){a:aA}(b:a.okB=true/\s.aj.ext a):({ s with aj:=a }:af).right:=
 ⟨h.N0,b.1,h.book,h.bf,h.ps,h.calls,h.known.ext b.2,h.bl,h.aW,h.aT⟩
def V2{s:af}(h:s.right){l:bu}(a:l.okB=true):({ s with bf:=l }:af).right:=
 ⟨h.N0,h.aj,h.book,a,h.ps,h.calls,h.known,h.bl,h.aW,h.aT⟩
def Qu{s:af}(h:s.right){cs:List aI}(a:pY dh cq cs=true)(b:∀c∈cs,bD s.aj c.who=1):({ s with calls:=cs }:af).right:=
 ⟨h.N0,h.aj,h.book,h.bf,h.ps,a,⟨h.known.qs,h.known.ts,h.known.ps,b⟩,h.bl,h.aW,h.aT⟩
def sY{s:af}(h:s.right)(g:List aK):(qG s g).right:=by
 unfold qG;split
 ·rename_i a;exact V2 h (P4 a)
 ·exact h
def ID{s:af}(h:s.right)(d:aU):({ s with calls:=xU s.calls d }:af).right:=by
 obtain⟨a,b⟩:=Yl (d:=d) h.calls;refine Qu h a λc e=>?_;obtain⟨x,g,f⟩:=b c e;rw[f];exact h.known.cs x g
def VI{s:af}(h:s.right)(c:bG):(vf s c).1.right:=by
 unfold vf;split
 case isFalse=>exact h
 split
 case isFalse=>exact h
 split
 ·exact sY h _
 split
 ·split
  ·exact ID (sY h _) _
  ·exact sY h _
 ·exact sY h _
def Xf{r:aA}{w:Int}(h:Ge r w=0):bD r w=1:=by
 unfold Ge at h;split at h
 ·split at h
  ·assumption
  ·cases h
 ·cases h
def MY{s:af}(h:s.right)(c:bG)(n:Int):(qi s c n).1.right:=by
 unfold qi;split
 case isFalse=>exact h
 split
 case isFalse=>exact h
 rename_i d;rw[bQ]at d;split
 case isFalse=>exact h
 rename_i f;split
 case isFalse=>exact h
 rename_i b;have e:=B0 b;have key:({ s with ps:=eZ s.ps c.who c.no n }:af).right:=by
  refine⟨h.N0,h.aj,h.book,h.bf,jg.2 e,h.calls,⟨h.known.qs,h.known.ts,λp a=>?_,h.known.cs⟩,h.bl,h.aW,h.aT⟩;dsimp only at a |-;unfold eZ at a;rw[aq b]at a;rcases FL a with a| ⟨rfl,_⟩
  ·exact h.known.ps p a
  ·exact⟨.inl f,d.2⟩
 split
 ·exact key
 split
 ·exact ID key _
 ·exact key
def La{t:aR}{b:Bool}{p:aB}(h:p∈j9 t b):(p.who=t.jH\/p.who=t.gK)/\p.inst=t.inst:=by
 unfold j9 at h;split at h
 ·simp only[mem_cons,not_mem_nil,or_false]at h;rcases h with rfl|rfl<;>simp
 ·cases h
def DO{r:aA}{b:aH}{g:List aB}{ts ps cs}(h:mA r b.qs ts ps cs)(d:∀p∈g,(bD r p.who=1\/bD r p.who=2)/\bJ r p.inst=true):mA r (yh b g 16) ts ps cs:=by
 refine⟨λp e=>?_,h.ts,h.ps,h.cs⟩;rcases Z7 e with⟨q,c,a,e2⟩| ⟨q,c,a,e2⟩
 ·rw[<-a,<-e2];exact h.qs q c
 ·rw[<-a,<-e2];exact d q c
def Bo{s:af}(h:s.right){b:aH}(a:b.okB=true)(c:mA s.aj b.qs b.ts s.ps s.calls):({ s with book:=b }:af).right:=
 ⟨h.N0,h.aj,a,h.bf,h.ps,h.calls,c,h.bl,h.aW,h.aT⟩
def Wu{r:aA}{t:aR}(h:BE r t=0):bD r t.jH=1/\bD r t.gK=1/\bJ r t.inst=true:=by
 unfold BE at h;split at h
 case isFalse=>cases h
 split at h
 case isFalse=>cases h
 split at h
 case isFalse=>cases h
 rename_i b;split at h
 ·cases h
 split at h
 case isFalse=>cases h
 rename_i a;simp only[bQ,ff]at b a;exact⟨a.1,a.2,b.1⟩
def Eu{s:af}{b:aH}{t:aR}{ps cs}(i:jC b t=0)(c:mA s.aj b.qs b.ts ps cs)(f:bD s.aj t.jH=1)(h:bD s.aj t.gK=1)(d:bJ s.aj t.inst=true):mA s.aj (mu b t).qs (mu b t).ts ps cs:=by
 unfold mu;rw[aq i];have k:=DO (g:=j9 t false) c λp j=>by
  have:=La j;rw[this.2];exact⟨by rcases this.1 with e|e<;>rw[e]<;>simp[f,h],d⟩
 refine⟨k.qs,λx a=>?_,c.ps,c.cs⟩;rcases mem_append.1 a with a|a
 ·exact c.ts x a
 ·obtain rfl:=gV.1 a;exact⟨by dsimp only;omega,by dsimp only;omega,d⟩
def BY{s:af}{b:aH}{n:Int}{ps cs}(d:ij b n=0)(a:mA s.aj b.qs b.ts ps cs)(h:bD s.aj (eI n b.ts).jH=1)(i:bD s.aj (eI n b.ts).gK=1):mA s.aj (gG b n).qs (gG b n).ts ps cs:=by
 have f:=(GU (wO d).2.1).1;have j:=(a.ts _ f).2.2;unfold gG;rw[aq d];have l:=DO (g:=j9 (eI n b.ts) true) a λp k=>by
  have:=La k;rw[this.2];exact⟨by rcases this.1 with e|e<;>rw[e]<;>simp[h,i],j⟩
 refine⟨l.qs,λx c=>?_,a.ps,a.cs⟩;rcases mem_or_eq_of_mem_set c with c|rfl
 ·exact a.ts x c
 ·have:=a.ts _ f;exact⟨this.1,this.2.1,this.2.2⟩
def Q1{s:af}(h:s.right)(c:bG)(a:(nP s c).2.2=0):(nP s c).1.right:=by
 unfold nP at a |-;split
 ·rename_i b;rw[aq b]at a;split
  ·rename_i i;rw[aq i]at a;obtain⟨l,t2,t3⟩:=Wu i;exact Bo h (KI a) (Eu (s:=s) a h.known l t2 t3)
  ·exact h
 rename_i b;rw[au b]at a;split
 ·rename_i b;rw[aq b]at a;exact xz h (abS a)
 rename_i b;rw[au b]at a;split
 ·exact h
 rename_i g;rw[au g]at a;split
 case isFalse=>exact h
 rename_i e;rw[aq e]at a;have d:=Xf e.1;have a2:=Xf e.2;split
 ·rename_i b;rw[aq b]at a;exact Bo h (RA a) (BY (s:=s) a h.known d a2)
 ·rename_i b;rw[au b]at a;obtain⟨f,e2⟩:=Es a;have k:=BY (s:=s) f h.known d a2;have j:=(h.known.ts _ (GU g).1).2.2;refine Bo h (Ox a) ?_;unfold vE;rw[aq f];exact Eu (s:=s) e2 k d a2 j
def UB{s:af}(h:s.right)(c:bG):(x8 s c).1.right:=by
 unfold x8;split
 case isFalse=>exact h
 rename_i d;split
 case isFalse=>exact h
 rename_i e;split
 ·exact h
 split
 case isFalse=>exact h
 rename_i hs;split
 ·exact h
 rename_i hl;simp only[bQ]at e d;have r1:=zm h.aj (w:=c.who) (by unfold bD;omega);have r2:=zm h.aj (w:=c.other) (by unfold bD;omega);have r3:=qA e.2.2;have r4:=Cn ((dQ.1 h.aj).2.1.1 _ r3.1);rw[r3.2]at r4;refine⟨h.N0,h.aj,h.book,h.bf,h.ps,h.calls,h.known,by dsimp only;simp;omega,λb a=>?_,h.aT⟩;rcases mem_append.1 a with a|a
 ·exact h.aW b a
 ·obtain rfl:=gV.1 a;simp only[lS,qB,d.1,d.2,within,bQ,bz];simp only[within,bQ,bz]at d;omega
def Rw{a x:aC}{n:Int}(h:x≠a)(r:List bU):eP a (uU x n++r)=eP a r:=by
 unfold uU;split
 ·rfl
 ·simp only[cons_append,nil_append,eP];rw[au];intro b;exact h (uD.1 b)
theorem TQ{a:aC}(S:aC->Int):∀{L:List aC},L.Pairwise (λx y=>x.less y=true)->a∈L->eP a (L.flatMap λx=>uU x (S x))=S a
 | [],_,h=>by cases h
 |x::r,hp,h=>by
  rw[kB]at hp;rw[flatMap_cons];by_cases e:x=a
  ·subst e;unfold uU;split
   ·rename_i f;have f:S x=0:=su f;rw[f,nil_append,HR];intro b c d;obtain⟨y,i,c⟩:=mem_flatMap.1 c;split at c
    ·cases c
    ·obtain rfl:=gV.1 c;have:y=x:=d;have g:=hp.1 y i;rw[this]at g;exact yM g
   ·simp only[cons_append,nil_append,eP];rw[aq (show RX x ⟨x.kind,x.who,x.cur,S x⟩=true from uD.2 rfl)]
  ·rw[Rw e];rcases mem_cons.1 h with h|h
   ·exact absurd h.symm e
   ·exact TQ S hp.2 h
def abp{l:bu}{id:Int}{g:List aK}{a:aC}(h:eK l id g=0)(b:a∈fP):eP a (iQ l id g).bs=eP a l.bs+ay (bZ a g):=by
 unfold iQ;rw[aq h];exact TQ (n7 l g) wH b
def Hy(a:aC)(g k:List aK):ay (bZ a (g++k))=ay (bZ a g)+ay (bZ a k):=by
 simp only[bZ,pick,flatMap_append,fM]
theorem DR{a:aC}:∀{g:List aK},(∀x∈g,x.bq≠a)->ay (bZ a g)=0
 | [],_=>rfl
 |x::r,h=>by
  rw[mR,au (h x sT),DR λy b=>h y (by simp[b])];rfl
def zK{a:aC}{g:List aK}(j:a∈fP)(h:jk g=0):ay (bZ a (fG g))=ay (bZ a g):=by
 unfold fG;rw[aq h];unfold oh;have key:∀{L:List aC},L.Pairwise (λx y=>x.less y=true)->a∈L->ay (bZ a (L.flatMap λx=>tN x (ay (bZ x g))))=ay (bZ a g):=by
  intro L;induction L with
  |nil=>intro _ h;cases h
  |cons x r ih =>
   intro d k;rw[kB]at d;rw[flatMap_cons,Hy];have f:∀y:aC,∀z∈tN y (ay (bZ y g)),z.bq=y:=λy z b=>by
    unfold tN at b;split at b
    ·cases b
    ·obtain rfl:=gV.1 b;rfl
   by_cases e:x=a
   ·subst e
    rw[DR (g:=r.flatMap _) (λz b c=>by
     obtain⟨y,l,b⟩:=mem_flatMap.1 b;have:=f y z b;have i:=d.1 y l;rw[<-this,c]at i
     exact yM i)]
    unfold tN;split
    ·rename_i b;have b:ay (bZ x g)=0:=su b;rw[b];rfl
    ·rw[mR,aq (show aK.bq ⟨x.kind,x.who,x.cur,ay (bZ x g)⟩=x from rfl)];simp[bZ,pick,ay]
   ·rw[DR (g:=tN x _) (λz b c=>e (by rw[<-f x z b];exact c))];rcases mem_cons.1 k with h|h
    ·exact absurd h.symm e
    ·rw[ih d.2 h];omega
 exact key wH j
def om{a x y:aC}{n:Int}(b:bB n=true):ay (bZ a (bR x y n))=(if x=a then -n else 0)+(if y=a then n else 0):=by
 unfold bR;rw[b,aq rfl,mR,mR];show(if x=a then -n else 0)+((if y=a then n else 0)+0)=_;omega
def Uh{A:Type}(l m:List A)(F:A->Int):tot (l++m) F=tot l F+tot m F:=by
 simp only[tot,jF,fM]
theorem F4{A:Type}(L:List A)(F:A->Int)(m:Int):tot L (λa=>m*F a)=m*tot L F:=by
 induction L with
 |nil=>simp[tot,ay]
 |cons x r ih=>rw[fu,fu,ih,Int.mul_add]
def VP{l:bu}{g:List aK}{e:Int}{a:aC}(f:a∈fP)(b:(fL l g e).2=0):e=0/\eP a (fL l g e).1.bs=eP a l.bs+ay (bZ a g):=by
 unfold fL at b |-;split
 ·rename_i c;rw[aq c]at b;exact⟨c.1,abp b f⟩
 ·rename_i c;rw[au c]at b;have b:e=0:=b;have d:g=[]:=by
   by_cases d:g=[]
   ·exact d
   ·exact absurd ⟨b,d⟩ c
  rw[d];exact⟨b,by simp[bZ,pick,ay]⟩
def Lr{b:aH}{g:List aB}{w n:Int}(hw:1<=w/\w<=16)(hn:1<=n/\n<=8):posOf w n (yh b g 16)=⟨w,n,zW b g w n,Jj b g w n⟩:=by
 by_cases h:zW b g w n=0/\Jj b g w n=0
 ·rw[gJ,h.1,h.2];intro p d c;obtain⟨k,m,_,_,d⟩:=sF d;obtain⟨rfl,a⟩:=oM d;dsimp only at c;rw[c.1,c.2]at a;exact a h
 ·have e:(⟨w,n,zW b g w n,Jj b g w n⟩:aB)∈yh b g 16:=by
   refine mem_flatMap.2 ⟨(w-1).toNat,mem_range.2 ak,mem_flatMap.2 ⟨(n-1).toNat,mem_range.2 ak,?_⟩⟩;rw[show(((w-1).toNat:Nat):Int)+1=w by omega,show(((n-1).toNat:Nat):Int)+1=n by omega];unfold FH;rw[au (by simp only[bQ,ff];exact h)];simp
  exact tX (Dm b g) e ⟨rfl,rfl⟩
def OT{l:List Int}{j i:Nat}(a:j<l.length)(v:Int):(l.set j v).getD i 0=if i=j then v else l.getD i 0:=by
 rw[getD_eq_getElem?_getD,getD_eq_getElem?_getD,getElem?_set];by_cases h:i=j
 ·rw[aq h,aq h.symm,aq a];rfl
 ·rw[au h,au (λe=>h e.symm)]
def KS{l:List Bool}{j i:Nat}(a:j<l.length):(l.set j true).getD i true=if i=j then true else l.getD i true:=by
 rw[getD_eq_getElem?_getD,getD_eq_getElem?_getD,getElem?_set];by_cases h:i=j
 ·rw[aq h,aq h.symm,aq a];rfl
 ·rw[au h,au (λe=>h e.symm)]
theorem OV(rs:List Int):∀(n:Nat)(gs:List Bool)(ps:List Int)(i:Nat),gs.length=rs.length->ps.length=rs.length->gs.count true+n<=gs.length->(lY rs n gs ps).getD i 0<=ps.getD i 0+if gs.getD i true=true then 0 else 1
 | 0,gs,ps,i,_,_,_=>by
  simp only[lY];split<;>omega
 |n+1,gs,ps,i,h1,h2,h3=>by
  have a:=FN (gs:=gs) ak;rw[h1]at a;have d:=FK rs gs rs.length a;have hr:=qp rs gs rs.length;have c:=vD rs gs rs.length d;simp only[lY];have b:=OV rs n (gs.set (gW rs gs rs.length).toNat true) (ps.set (gW rs gs rs.length).toNat (ps.getD (gW rs gs rs.length).toNat 0+1)) i (by simp[h1]) (by simp[h2]) (by rw[count_set c,length_set];omega);rw[OT ak,KS ak]at b;by_cases e:i=(gW rs gs rs.length).toNat
  ·rw[aq e,aq e,aq rfl]at b;rw[e,c,au (by decide),<-e];rw[<-e]at b;omega
  ·rwa[au e,au e]at b
