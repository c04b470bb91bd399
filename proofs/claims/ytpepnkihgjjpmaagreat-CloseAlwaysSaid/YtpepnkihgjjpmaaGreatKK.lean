/- Parts. -/
import Derived.Test.YtpepnkihgjjpmaaGreatKI
import Derived.Test.YtpepnkihgjjpmaaGreatKJ
set_option linter.all false
set_option maxHeartbeats 4000000
set_option maxRecDepth 16000
namespace Go.Proofs.YtpepnkihgjjpmaaGreat
open Go.Abs Tryz
open List hiding lt
def Iw{s:af}(h:s.right)(c:Int):(CP s c).1.right:=by
 unfold CP;split
 ·exact sY h _
 ·exact h
theorem Iq:∀(m c:Nat) {s:af} (ds:List aU),s.right->(pR m c s ds).1.right
 | 0,_,_,_,h=>h
 |m+1,c,s,ds,h=>by
  simp only[pR];split
  ·exact Iq m _ _ (Iw h _)
  ·exact Iw h _
def NF{s:af}(a:nh s=0):(rq s).right:=by
 unfold rq;rw[aq a];unfold nh at a;split at a
 case isFalse=>cases a
 rename_i g;split at a
 case isFalse=>cases a
 split at a
 case isFalse hne=>exact absurd a hne
 rename_i f;split at a
 case isFalse hne=>exact absurd a hne
 have b:=gX.1 g;obtain⟨i,t2⟩:=Zu b.aj;have k:=b.known.ext t2;have e:Eb s.aj s.book=⟨s.book.next,s.book.ts,s.book.qs.flatMap (ud s.aj)⟩:=by unfold Eb;rw[aq f]
 refine⟨⟨b.N0.1,b.N0.2.1,by dsimp only;decide,by dsimp only;decide⟩,i,abz f,DY b.bf a,b.ps,b.calls,⟨λp c=>?_,λt d=>?_,k.ps,k.cs⟩,b.bl,b.aW,b.aT⟩
 ·dsimp only at c |-;rw[e]at c;obtain⟨q,h,c⟩:=mem_flatMap.1 c;rw[(zS c).1];exact k.qs q h
 ·dsimp only at d |-;rw[e]at d;exact k.ts t d
def uq{r:aA}(h:r.okB=true){w:Int}(c:w∈ku r [1]):bD r w=1:=by
 obtain⟨m,a,b,rfl⟩:=jl c;have e:fm r m.no=m:=zE (dQ.1 h).1.2 a rfl;unfold bD;rw[e];simp only[sI,any_cons,any_nil,Bool.or_false,ff]at b;exact b.symm
theorem HH{s:af}{w:Int}(h:bD s.aj w=1):∀(m c:Nat)(x:List aI×List aU),(pY dh cq x.1=true/\∀y∈x.1,bD s.aj y.who=1)->pY dh cq (tQ s w m c x).1.1=true/\∀y∈(tQ s w m c x).1.1,bD s.aj y.who=1
 | 0,_,_,hx=>hx
 |m+1,c,x,hx=>by
  simp only[tQ];split
  ·obtain⟨b,a2⟩:=aac (d:=⟨w,c,Y2 s w c⟩) (t:=Py s) hx.1;refine HH h m _ _ ⟨b,λy a=>?_⟩;rcases a2 y a with e|a
   ·rw[e];exact h
   ·exact hx.2 y a
  ·exact hx
theorem Ld{s:af}:∀(ws:List Int)(x:List aI×List aU),(∀w∈ws,bD s.aj w=1)->(pY dh cq x.1=true/\∀y∈x.1,bD s.aj y.who=1)->pY dh cq (wY s ws x).1.1=true/\∀y∈(wY s ws x).1.1,bD s.aj y.who=1
 | [],_,_,hx=>hx
 |w::r,x,hw,hx=>by
  simp only[wY];split
  ·exact Ld r _ (λv a=>hw v (by simp[a])) (HH (hw w sT) 3 0 x hx)
  ·exact HH (hw w sT) 3 0 x hx
def MM{s:af}(b:mU s=0):(oX s).right:=by
 unfold oX;rw[aq b];unfold mU at b;split at b
 case isFalse=>cases b
 rename_i d;have a:=gX.1 d;obtain⟨c,a2⟩:=Ld (s:=s) (ku s.aj [1]) (s.calls,[]) (λw e=>uq a.aj e) ⟨a.calls,a.known.cs⟩;exact⟨⟨a.N0.1,a.N0.2.1,by dsimp only;decide,by dsimp only;decide⟩,a.aj,a.book,a.bf,a.ps,c,⟨a.known.qs,a.known.ts,a.known.ps,a2⟩,a.bl,a.aW,a.aT⟩
def Sl{s:af}(b:yR s=0):(Au s).right:=by
 unfold Au;rw[aq b];unfold yR at b;split at b
 case isFalse=>cases b
 rename_i e;split at b
 case isFalse=>cases b
 split at b
 ·cases b
 have a:=gX.1 e;have c:=dn.1 a.book;have f:=a.N0;exact⟨⟨f.1,by dsimp only;omega,by dsimp only;decide,by dsimp only;decide⟩,a.aj,dn.2 ⟨c.ok,c.pw,c.level,λt d=>(by cases d),Pairwise.nil,Nat.zero_le _,c.n0,c.n1⟩,a.bf,a.ps,a.calls,⟨a.known.qs,λt d=>(by cases d),a.known.ps,a.known.cs⟩,a.bl,a.aW,a.aT⟩
def DZ{r:aA}{w p:Int}(h:r.okB=true)(a:bD r w≠0)(hp:1<=p/\p<=3):CI r w p=0:=by
 unfold CI;rw[aq h,aq ((um h).1 a),aq (by simp only[within,bQ,bz];omega)]
def TC{w v:Int}:sI [w] v=decide (v=w):=by
 simp only[sI,any_cons,any_nil,Bool.or_false];rw[nJ];simp only[ff,bz];exact eq_comm
def CJ{r:aA}{w p:Int}(h:CI r w p=0)(n:Int):bJ (kU r w p) n=bJ r n/\nq (kU r w p) n=nq r n:=by
 obtain⟨_,_,a,b⟩:=Sv h;unfold bJ nq;rw[a,b];exact⟨rfl,rfl⟩
def Su{r:aA}{qs ts ps cs}{w:Int}(q:r.okB=true)(s:bD r w≠0)(k:mA r qs ts ps cs):(kU r w 2).okB=true/\mA (kU r w 2) qs ts ps (dR cs [w])/\∀v,bD r v≠0->bD (kU r w 2) v≠0:=by
 have h:=DZ q s (p:=2) ak;obtain⟨u,f,_⟩:=Sv h;have i:=λn=>(CJ h n).1;have m:=λn=>(CJ h n).2;have j:∀v,(bD r v=1\/bD r v=2)->bD (kU r w 2) v=1\/bD (kU r w 2) v=2:=λv e=>by rw[f];split;exact .inr rfl;exact e
 have b:∀v,bD r v≠0->bD (kU r w 2) v≠0:=λv e=>by rw[f];split;decide;exact e
 refine⟨u,⟨λp a=>⟨j _ (k.qs p a).1,by rw[i];exact(k.qs p a).2⟩,λt d=>⟨b _ (k.ts t d).1,b _ (k.ts t d).2.1,by rw[i];exact(k.ts t d).2.2⟩,λp a=>⟨j _ (k.ps p a).1,by rw[m];exact(k.ps p a).2⟩,λc o=>?_⟩,b⟩;obtain⟨l,g⟩:=xG.1 o;rw[TC]at g;rw[f,au (su g)];exact k.cs c l
theorem QY{qs ts ps}:∀(l:List aI)(x:aA×List aI),(∀c∈l,bD x.1 c.who≠0)->x.1.okB=true->mA x.1 qs ts ps x.2->pY dh cq x.2=true->(zn l x).1.okB=true/\mA (zn l x).1 qs ts ps (zn l x).2/\pY dh cq (zn l x).2=true
 | [],_,_,h2,h3,h4=>⟨h2,h3,h4⟩
 |c::r,x,h1,h2,h3,h4=>by
  obtain⟨a,a2,a3⟩:=Su h2 (h1 c sT) h3;simp only[zn];exact QY r _ (λy b=>a3 _ (h1 y (by simp[b]))) a a2 (EU h4)
def SW{s:af}{n:Int}(b:wF s n=0):(lE s n).right:=by
 unfold lE;rw[aq b];unfold wF at b;split at b
 case isFalse=>cases b
 rename_i f;split at b
 case isFalse=>cases b
 rename_i g;split at b
 ·cases b
 simp only[within,bQ,bz]at g;have a:=gX.1 f;have d:=a.N0
 obtain⟨e,a2,a3⟩:=QY (tL (s.now+n) s.calls) (s.aj,s.calls) (λc d=>by
  obtain⟨x,h,d⟩:=mem_flatMap.1 d;split at d
  ·obtain rfl:=gV.1 d;have:=a.known.cs _ h;dsimp only;omega
  ·cases d) a.aj a.known a.calls
 exact⟨⟨by dsimp only;omega,d.2⟩,e,a.book,a.bf,a.ps,a3,a2,a.bl,a.aW,a.aT⟩
theorem TX{s:af}{w:Int}:∀(m i:Nat)(l:bu)(p:List aU),l.okB=true->(rY s w m i l p).2.2=0->(rY s w m i l p).1.okB=true
 | 0,_,_,_,h,_=>h
 |m+1,i,l,p,h,he=>by
  simp only[rY]at he |-;split
  ·rename_i a;rw[aq a]at he;exact TX m _ _ _ (DY h a) he
  ·rename_i a;rw[au a]at he;exact absurd he a
def TU{s:af}{w:Int}(h:rX s w=0):kg s w=0/\fD (qg s w) 3 0=0/\fD (o9 s w) 3 0=0/\(rY s w 3 0 s.bf []).2.2=0:=by
 unfold rX at h;split at h
 case isFalse hne=>exact absurd h hne
 rename_i a;split at h
 case isFalse hne=>exact absurd h hne
 rename_i b;split at h
 case isFalse hne=>exact absurd h hne
 rename_i c;exact⟨a,b,c,h⟩
def Hs{w:Int}{l:List gC}{p:gC}:p∈rW w l↔p∈l/\p.who≠w:=by
 unfold rW;rw[mem_flatMap];constructor
 ·rintro⟨x,d,h⟩;split at h
  ·cases h
  ·rename_i c;obtain rfl:=gV.1 h;exact⟨d,su c⟩
 ·rintro⟨a,b⟩;exact⟨p,a,by rw[au (su b)];simp⟩
def RZ{w:Int}{l:List aY}{b:aY}:b∈rV w l↔b∈l/\b.who≠w/\b.src≠w:=by
 unfold rV;rw[mem_flatMap];constructor
 ·rintro⟨x,d,h⟩;split at h
  ·cases h
  ·rename_i a;obtain rfl:=gV.1 h;simp only[Bool.or_eq_true,ff]at a;exact⟨d,λe=>a (.inl e),λe=>a (.inr e)⟩
 ·rintro⟨c,h2,h3⟩;exact⟨b,c,by rw[au (by simp only[Bool.or_eq_true,ff];omega)];simp⟩
def Lm{s:af}{w:Int}(l:rX s w=0):(lN s w).right:=by
 unfold lN;rw[aq l];obtain⟨i,_,_,z⟩:=TU l;obtain⟨C,_⟩:=yT i;obtain⟨f,hs⟩:=wZ C;have d:=gX.1 f;have a:=DZ d.aj (w:=w) (p:=3) ak ak;obtain⟨D,u,_⟩:=Sv a;have o:=λn=>(CJ a n).1;have A:=λn=>(CJ a n).2;obtain⟨x,h,y⟩:=YN i;have e:∀v,v≠w->bD (kU s.aj w 3) v=bD s.aj v:=λv g=>by rw[u,au g]
 have m:=jg.1 d.ps;refine⟨d.N0,D,x,TX 3 0 s.bf [] d.bf z,jg.2 ⟨λp a=>m.1 p (Hs.1 a).1,SP m.2⟩,EU d.calls,⟨λp a=>?_,λt r=>?_,λp a=>?_,λc k=>?_⟩,Nat.le_trans (Hr _ _) d.bl,λb B=>d.aW b (RZ.1 B).1,d.aT⟩
 ·dsimp only at a |-;rw[e _ (y p a),o];exact h.qs p a
 ·dsimp only at r |-;have:=h.ts t r;have q:∀v,bD s.aj v≠0->bD (kU s.aj w 3) v≠0:=λv g=>by rw[u];split;decide;exact g
  exact⟨q _ this.1,q _ this.2.1,by rw[o];exact this.2.2⟩
 ·dsimp only at a |-;have:=Hs.1 a;rw[e _ this.2,A];exact d.known.ps p this.1
 ·dsimp only at k |-;obtain⟨f,j⟩:=xG.1 k;rw[TC]at j;rw[e _ (su j)];exact d.known.cs c f
def yw(s:af)(c:bG){P:af×Int×Int×Int×List aU×List dM->Prop}
  (D:P ({ s with aj:=nW s.aj c.who c.cu },mh s.aj c.who c.cu,0,0,[],[]))
  (a2:P ({ s with aj:=tP s.aj (Ao c) },rH s.aj (Ao c),0,0,[],[]))
  (a3:P ({ s with aj:=tG s.aj ⟨c.no,c.cur,c.aL,c.cu⟩ },rD s.aj ⟨c.no,c.cur,c.aL,c.cu⟩,0,0,[],[]))
  (a4:P ((vf s c).1,(vf s c).2,0,0,[],[]))
  (E:P ((qi s c (tW c)).1,(qi s c (tW c)).2,0,0,[],[]))
  (F:P (qG s (bR ⟨1,0,c.cur⟩ ⟨4,0,c.cur⟩ c.cu),x9 s (bR ⟨1,0,c.cur⟩ ⟨4,0,c.cur⟩ c.cu),0,0,[],[]))
  (j:P ((nP s c).1,(nP s c).2.2,(nP s c).2.1,0,[],[]))
  (k:P (rq s,nh s,0,0,uN s,[]))
  (l:P (oX s,mU s,0,0,sL s,[]))
  (m:P (Au s,yR s,0,0,[],[]))
  (n:P (lE s c.cu,wF s c.cu,0,0,C4 s c.cu,[]))
  (o:P ((x8 s c).1,(x8 s c).2,0,0,[],[]))
  (p:P (lN s c.who,rX s c.who,0,0,CA s c.who,CB s c.who))
  (q:P ((pR 3 0 s []).1,(pR 3 0 s []).2.2,0,0,(pR 3 0 s []).2.1,[]))
  (a:∀e v,P (s,e,0,v,[],[])):P (jh s c):=by
 unfold jh;by_cases r:c.kind=1
 ·rw[aq r];exact D
 rw[au r];by_cases t:c.kind=2
 ·rw[aq t];exact a2
 rw[au t];by_cases u:c.kind=3
 ·rw[aq u];exact a3
 rw[au u];by_cases w:c.kind=4\/c.kind=5\/c.kind=8
 ·rw[aq w];exact a4
 rw[au w];by_cases x:c.kind=6\/c.kind=7
 ·rw[aq x];exact E
 rw[au x];by_cases y:c.kind=9
 ·rw[aq y];split
  ·exact F
  ·exact a _ _
 rw[au y];by_cases z:c.kind=10\/c.kind=11\/c.kind=12\/c.kind=13
 ·rw[aq z];split
  ·exact j
  ·exact a _ _
 rw[au z];by_cases A:c.kind=14
 ·rw[aq A];exact k
 rw[au A];by_cases B:c.kind=15
 ·rw[aq B];exact l
 rw[au B];by_cases C:c.kind=16
 ·rw[aq C];exact m
 rw[au C];by_cases b:c.kind=17
 ·rw[aq b];exact n
 rw[au b];by_cases d:c.kind=18
 ·rw[aq d];exact o
 rw[au d];by_cases f:c.kind=19
 ·rw[aq f];exact p
 rw[au f];by_cases g:c.kind=20
 ·rw[aq g];exact q
 rw[au g];by_cases h:c.kind=21
 ·rw[aq h];split
  ·exact a _ _
  ·exact a _ _
 rw[au h];by_cases i:c.kind=22
 ·rw[aq i];split
  ·exact a _ _
  ·exact a _ _
 rw[au i];exact a _ _
def OI{s:af}{c:bG}(h:s.right)(a:(jh s c).2.1=0):(jh s c).1.right:=by
 revert a;exact yw s c (P:=λm=>m.2.1=0->m.1.right) (λa=>xz h (Xh a)) (λa=>xz h (aaV a)) (λa=>xz h (aaF a)) (λ_=>VI h c) (λ_=>MY h c _) (λ_=>sY h _) (λa=>Q1 h c a)
  (λa=>NF a) (λa=>MM a) (λa=>Sl a) (λa=>SW a) (λ_=>UB h c) (λa=>Lm a) (λ_=>Iq 3 0 [] h) (λ_ _ _=>h)
def OJ{s:af}{c:bG}(h:s.right):(bn s c).1.right:=by
 unfold bn bP;split
 ·rename_i a;exact OI h a
 ·exact h
theorem DM:∀(l:List Int)(lo b:Int),l.Pairwise (λa c=>a<c)->(∀x∈l,lo<=x/\x<b)->lo<=b->(l.length:Int)<=b-lo
 | [],lo,b,_,_,h=>by simp;omega
 |x::r,lo,b,hp,hx,hlh=>by
  rw[kB]at hp;have hx0:=hx x sT;have:=DM r (x+1) b hp.2 (λy d=>by have:=hp.1 y d;have:=hx y (by simp[d]);omega) ak;simp only[length_cons];omega
def yL{A:Type}{xs:List A}(f:A->Int)(lo d:Int){R:A->A->Prop}(e:xs.Pairwise R)(j:∀a∈xs,∀b∈xs,R a b->f a<f b)(k:∀x∈xs,lo<=f x/\f x<d)(h:lo<=d):(xs.length:Int)<=d-lo:=by
 have i:(xs.map f).Pairwise (λa c=>a<c):=by
  rw[pairwise_map];exact Pairwise.imp_of_mem (λ{p q} e hq hpq=>j p e q hq hpq) e
 have:=DM _ lo d i (λx g=>by
  obtain⟨y,l,rfl⟩:=mem_map.1 g
  exact k y l) h
 rwa[qE]at this
structure af.lens(s:af):Prop where
 ms:s.aj.ms.length<=16
 ns:s.aj.ns.length<=8
 xs:s.aj.xs.length<=6
 ts:s.book.ts.length<=128
 qs:s.book.qs.length<=128
 bs:s.bf.bs.length<=1000
 ps:s.ps.length<=1000
 calls:s.calls.length<=1000
 aW:s.aW.length<=32
 aT:s.aT.length<=8
def af.right.lens{s:af}(h:s.right):s.lens:=by
 obtain⟨⟨o1,n⟩,⟨o2,p2⟩,⟨o3,p3⟩⟩:=dQ.1 h.aj;have l:=kQ.1 h.bf;have j:=jg.1 h.ps;have i:=sU.1 h.calls;have k:=(oR (lt:=fV) wD).1 h.aT;refine⟨?_,?_,?_,(dn.1 h.book).tl,wK h.book,?_,?_,?_,h.bl,?_⟩
 ·have:=yL av.no 1 17 n (λ_ _ _ _ h=>h) (λx c=>by have:=oY (o1 x c);omega) (by decide);omega
 ·have:=yL aE.no 1 9 p2 (λ_ _ _ _ h=>h) (λx c=>by have:=Cn (o2 x c);omega) (by decide);omega
 ·have:=yL aD.a 1 7 p3 (λ_ _ _ _ h=>h) (λx c=>by have:=Gj (o3 x c);omega) (by decide);omega
 ·have e:=λb f=>D9 (DQ h.bf b f)
  have:=yL (λb:bU=>b.bq.kind*64+b.bq.who*3+b.bq.cur) 0 500 l.2.1.2 (λa g b f d=>by
   have:=e a g;have:=e b f
   rw[rG]at d;omega) (λx c=>by have:=e x c;omega) (by decide)
  omega
 ·have e:∀p∈s.ps,0<=p.key/\p.key<500:=λp m=>by
   have:=qK.1 (j.1 p m).1;unfold gC.key;omega
  have:=yL gC.key 0 500 j.2 (λ_ _ _ _ h=>h) e (by decide);omega
 ·have e:=λb f=>zD.1 (i.1 b f)
  have:=yL (λb:aI=>b.who*3+b.cur) 0 500 i.2 (λa g b f d=>by
   have:=e a g;have:=e b f
   simp only[cq,Bool.or_eq_true,bQ,bz,ff]at d;omega) (λx c=>by have:=e x c;omega) (by decide)
  omega
 ·have e:∀x∈s.aT,1<=x.client/\x.client<=8:=λx c=>by
   have:=k.1 x c;simp only[iL,within,bQ,bz]at this;omega
  have:=yL bX.client 1 9 k.2 (λa _ b _ d=>by simpa[fV]using d) (λx c=>by have:=e x c;omega) (by decide);omega
structure af.fk(s:af):Prop where
 right:s.right
 last:s.bf.last<=1099511627776
 fit:∀x∈s.aT,x.r.fits
def TD{n:Int}(h:bB n=true):iS n:=by
 rw[aP]at h;exact⟨by omega,by omega⟩
def af.right.fB{s:af}(h:s.right)(hla:s.bf.last<=1099511627776)(m:∀x∈s.aT,x.r.fits):s.fB:=by
 obtain⟨⟨o1,p1⟩,⟨o2,p2⟩,⟨o3,p3⟩⟩:=dQ.1 h.aj;have d:=dn.1 h.book;have o:=kQ.1 h.bf;have n:=jg.1 h.ps;have l:=sU.1 h.calls;have p:=(oR (lt:=fV) wD).1 h.aT;have hk:=h.N0;have n0:=d.n0;have n1:=d.n1;refine⟨⟨by omega,by omega⟩,⟨by omega,by omega⟩,⟨by omega,by omega⟩,λx a=>?_,λx a=>?_,λx a=>?_,⟨by omega,by omega⟩,λx a=>?_,λx a=>?_,?_,λx a=>?_,λx a=>Yx (n.1 x a),λx a=>?_,λx a=>?_,λx a=>?_⟩
 ·have:=oY (o1 x a);exact⟨⟨by omega,by omega⟩,⟨by omega,by omega⟩,⟨by omega,by omega⟩⟩
 ·have:=o2 x a;simp only[aE.ok,within,bQ,bz]at this;have b:=λj=>IV (o2 x a) j;have f:=b 0;have e:=b 1;have c:=b 2;have g:=b 3;have i:=b 4;have k:=b 5;simp only[aE.sh]at f e c g i k;exact⟨⟨by omega,by omega⟩,⟨by omega,by omega⟩,⟨by omega,by omega⟩,⟨by omega,by omega⟩,⟨by omega,by omega⟩,⟨by omega,by omega⟩,⟨by omega,by omega⟩,⟨by omega,by omega⟩,⟨by omega,by omega⟩,⟨by omega,by omega⟩,⟨by omega,by omega⟩,⟨by omega,by omega⟩⟩
 ·have:=o3 x a;simp only[aD.ok,within,bQ,bz]at this;exact⟨⟨by omega,by omega⟩,⟨by omega,by omega⟩,⟨by omega,by omega⟩,⟨by omega,by omega⟩⟩
 ·have:=d.tok x a;simp only[iu,aR.okB,qB,within,bQ,gD,gv,bz]at this;exact⟨⟨by omega,by omega⟩,⟨by omega,by omega⟩,⟨by omega,by omega⟩,⟨by omega,by omega⟩,⟨by omega,by omega⟩,⟨by omega,by omega⟩⟩
 ·have:=iJ.1 (d.ok x a);exact⟨⟨by omega,by omega⟩,⟨by omega,by omega⟩,⟨by omega,by omega⟩,TD this.2.2.2.1⟩
 ·exact⟨by omega,by omega⟩
 ·have e:=D9 (DQ h.bf x a);have c:=o.2.1.1 x a;simp only[lR,bQ]at c;simp only[bU.bq]at e;exact⟨⟨by omega,by omega⟩,⟨by omega,by omega⟩,⟨by omega,by omega⟩,TD c.2.1⟩
 ·have:=zD.1 (l.1 x a);exact⟨⟨by omega,by omega⟩,⟨by omega,by omega⟩,⟨by omega,by omega⟩,⟨by omega,by omega⟩⟩
 ·have:=h.aW x a;simp only[lS,qB,within,bQ,bz]at this;exact⟨⟨by omega,by omega⟩,⟨by omega,by omega⟩,⟨by omega,by omega⟩,⟨by omega,by omega⟩,⟨by omega,by omega⟩⟩
 ·have:=p.1 x a;simp only[iL,within,bQ,bz]at this;exact⟨⟨by omega,by omega⟩,⟨by omega,by omega⟩,aS,aS,aS,aS,aS,m x a⟩
def af.fk.good{s:af}(h:s.fk):s.good:=by
 have l:=h.right.lens;have h1:=l.ms;have h2:=l.ns;have h3:=l.xs;have h4:=l.ts;have h5:=l.qs;have h6:=l.bs;have h7:=l.ps;have h8:=l.calls;have h9:=l.aW;have h10:=l.aT;exact⟨⟨⟨by omega,by omega,by omega⟩,⟨by omega,by omega⟩,by omega,by omega,by omega,by omega,by omega,h.fit⟩,h.right.fB h.last h.fit,by omega,by omega,by omega,by omega,by omega⟩
def aeQ(s:af)(c:bG)(h:s.good)(a:c.kind=4):Sq 19 [] [.agg s.cells,.agg c.cells] [] (.bI [.agg (bn s c).1.cells,.agg (bn s c).2.cells]):=by
 have b:=λe=>bV e;have c0:=aX s h.small;have f:bn s c=bP s ((vf s c).1,(vf s c).2,0,0,[],[]):=by unfold bn;congr 1;simp[jh,a]
 rw[f];clear f;have c1:=vg s c h;obtain⟨R,g⟩:=aN (vf s c);rw[<-g]at c1 |-;clear g;obtain⟨T,e⟩:=R;dsimp only at c1 |-;simp only[af.cells,bG.cells,a]at c1;simp only[af.cells]at c0 |-;simp only[bG.cells,a];refine bp 227 2 [.cell 4 42,.cell 5 64] mixed func19 ?_;refine pG trivial c0 ?_;refine WN [112] aS c1 ?_;refine bg ?_;by_cases q:e=0
 ·have d:(e==0)=true:=su q;simp only[bP,aq q];simp -implicitDefEqProofs only[go_sem,seval,bne,d]
  and_intros<;>first|exact .dq|omega|skip
  all_goals simp[pl]
 ·have d:(e==0)=false:=su q;simp only[bP,au q];simp -implicitDefEqProofs only[go_sem,seval,bne,d];refine pG trivial (b e) ?_
  and_intros<;>first|exact .dq|omega|skip
  all_goals simp[bF.err]
def aeR(s:af)(c:bG)(h:s.good)(a:c.kind=5):Sq 19 [] [.agg s.cells,.agg c.cells] [] (.bI [.agg (bn s c).1.cells,.agg (bn s c).2.cells]):=by
 have b:=λe=>bV e;have c0:=aX s h.small;have f:bn s c=bP s ((vf s c).1,(vf s c).2,0,0,[],[]):=by unfold bn;congr 1;simp[jh,a]
 rw[f];clear f;have c1:=vg s c h;obtain⟨R,g⟩:=aN (vf s c);rw[<-g]at c1 |-;clear g;obtain⟨T,e⟩:=R;dsimp only at c1 |-;simp only[af.cells,bG.cells,a]at c1;simp only[af.cells]at c0 |-;simp only[bG.cells,a];refine bp 227 2 [.cell 4 42,.cell 5 64] mixed func19 ?_;refine pG trivial c0 ?_;refine WN [112] aS c1 ?_;refine bg ?_;by_cases q:e=0
 ·have d:(e==0)=true:=su q;simp only[bP,aq q];simp -implicitDefEqProofs only[go_sem,seval,bne,d]
  and_intros<;>first|exact .dq|omega|skip
  all_goals simp[pl]
 ·have d:(e==0)=false:=su q;simp only[bP,au q];simp -implicitDefEqProofs only[go_sem,seval,bne,d];refine pG trivial (b e) ?_
  and_intros<;>first|exact .dq|omega|skip
  all_goals simp[bF.err]
def aeU(s:af)(c:bG)(h:s.good)(a:c.kind=8):Sq 19 [] [.agg s.cells,.agg c.cells] [] (.bI [.agg (bn s c).1.cells,.agg (bn s c).2.cells]):=by
 have b:=λe=>bV e;have c0:=aX s h.small;have f:bn s c=bP s ((vf s c).1,(vf s c).2,0,0,[],[]):=by unfold bn;congr 1;simp[jh,a]
 rw[f];clear f;have c1:=vg s c h;obtain⟨R,g⟩:=aN (vf s c);rw[<-g]at c1 |-;clear g;obtain⟨T,e⟩:=R;dsimp only at c1 |-;simp only[af.cells,bG.cells,a]at c1;simp only[af.cells]at c0 |-;simp only[bG.cells,a];refine bp 227 2 [.cell 4 42,.cell 5 64] mixed func19 ?_;refine pG trivial c0 ?_;refine WN [112] aS c1 ?_;refine bg ?_;by_cases q:e=0
 ·have d:(e==0)=true:=su q;simp only[bP,aq q];simp -implicitDefEqProofs only[go_sem,seval,bne,d]
  and_intros<;>first|exact .dq|omega|skip
  all_goals simp[pl]
 ·have d:(e==0)=false:=su q;simp only[bP,au q];simp -implicitDefEqProofs only[go_sem,seval,bne,d];refine pG trivial (b e) ?_
  and_intros<;>first|exact .dq|omega|skip
  all_goals simp[bF.err]
def aeS(s:af)(c:bG)(h:s.good)(a:c.kind=6):Sq 19 [] [.agg s.cells,.agg c.cells] [] (.bI [.agg (bn s c).1.cells,.agg (bn s c).2.cells]):=by
 have b:=λe=>bV e;have c0:=aX s h.small;have f:bn s c=bP s ((qi s c (tW c)).1,(qi s c (tW c)).2,0,0,[],[]):=by unfold bn;congr 1;simp[jh,a]
 rw[f];clear f;have c1:=v8 s c h;obtain⟨R,g⟩:=aN (qi s c (tW c));rw[<-g]at c1 |-;clear g;obtain⟨T,e⟩:=R;dsimp only at c1 |-;simp only[af.cells,bG.cells,a]at c1;simp only[af.cells]at c0 |-;simp only[bG.cells,a];refine bp 227 2 [.cell 4 42,.cell 5 64] mixed func19 ?_;refine pG trivial c0 ?_;refine WN [112] aS c1 ?_;refine bg ?_;by_cases q:e=0
 ·have d:(e==0)=true:=su q;simp only[bP,aq q];simp -implicitDefEqProofs only[go_sem,seval,bne,d]
  and_intros<;>first|exact .dq|omega|skip
  all_goals simp[pl]
 ·have d:(e==0)=false:=su q;simp only[bP,au q];simp -implicitDefEqProofs only[go_sem,seval,bne,d];refine pG trivial (b e) ?_
  and_intros<;>first|exact .dq|omega|skip
  all_goals simp[bF.err]
def aeT(s:af)(c:bG)(h:s.good)(a:c.kind=7):Sq 19 [] [.agg s.cells,.agg c.cells] [] (.bI [.agg (bn s c).1.cells,.agg (bn s c).2.cells]):=by
 have b:=λe=>bV e;have c0:=aX s h.small;have f:bn s c=bP s ((qi s c (tW c)).1,(qi s c (tW c)).2,0,0,[],[]):=by unfold bn;congr 1;simp[jh,a]
 rw[f];clear f;have c1:=v8 s c h;obtain⟨R,g⟩:=aN (qi s c (tW c));rw[<-g]at c1 |-;clear g;obtain⟨T,e⟩:=R;dsimp only at c1 |-;simp only[af.cells,bG.cells,a]at c1;simp only[af.cells]at c0 |-;simp only[bG.cells,a];refine bp 227 2 [.cell 4 42,.cell 5 64] mixed func19 ?_;refine pG trivial c0 ?_;refine WN [112] aS c1 ?_;refine bg ?_;by_cases q:e=0
 ·have d:(e==0)=true:=su q;simp only[bP,aq q];simp -implicitDefEqProofs only[go_sem,seval,bne,d]
  and_intros<;>first|exact .dq|omega|skip
  all_goals simp[pl]
 ·have d:(e==0)=false:=su q;simp only[bP,au q];simp -implicitDefEqProofs only[go_sem,seval,bne,d];refine pG trivial (b e) ?_
  and_intros<;>first|exact .dq|omega|skip
  all_goals simp[bF.err]
def aeV(s:af)(c:bG)(h:s.good)(k:c.kind=9):Sq 19 [] [.agg s.cells,.agg c.cells] [] (.bI [.agg (bn s c).1.cells,.agg (bn s c).2.cells]):=by
 have a:=λe=>bV e;have c0:=aX s h.small;have b:bn s c=bP s (if within c.cur 0 2&&within c.cu 1 4611686018427387904 then(qG s (bR ⟨1,0,c.cur⟩ ⟨4,0,c.cur⟩ c.cu),x9 s (bR ⟨1,0,c.cur⟩ ⟨4,0,c.cur⟩ c.cu),0,0,[],[])else(s,3,0,0,[],[])):=by unfold bn;congr 1;simp[jh,k]
 rw[b];clear b;have l:=iX c.cur;have a2:=jY c.cu 1 4611686018427387904;have a3:=kj 1 0 c.cur;have a4:=kj 4 0 c.cur;have a5:=lI ⟨1,0,c.cur⟩ ⟨4,0,c.cur⟩ c.cu;have c1:=mH s (bR ⟨1,0,c.cur⟩ ⟨4,0,c.cur⟩ c.cu) h.small.bf h.fB.bs (by simp[bR]);obtain⟨g,j⟩:=aN (bR ⟨1,0,c.cur⟩ ⟨4,0,c.cur⟩ c.cu);rw[<-j]at a5 c1 |-;clear j;obtain⟨T,f⟩:=aN (qG s g);obtain⟨e,i⟩:=aN (x9 s g);rw[<-f,<-i]at c1 |-;clear f i;simp only[af.cells]at c1;simp only[aC.cells]at a5;simp only[af.cells]at c0 |-;simp only[bG.cells,k];refine bp 227 2 [.cell 4 42,.cell 5 64] mixed func19 ?_;refine pG trivial c0 ?_;refine pG trivial l ?_;cases b1:within c.cur 0 2
 ·rw[cZ,au (by decide)];simp only[bP,au (show ¬(3:Int)=0 by decide)];refine pG trivial (a 3) ?_
  and_intros<;>first|exact .dq|omega|skip
  all_goals simp[bF.err]
 refine pG trivial a2 ?_;cases b2:within c.cu 1 4611686018427387904
 ·rw[au (by decide)];simp only[bP,au (show ¬(3:Int)=0 by decide)];refine pG trivial (a 3) ?_
  and_intros<;>first|exact .dq|omega|skip
  all_goals simp[bF.err]
 rw[aq rfl];refine pG trivial a3 ?_;refine pG trivial a4 ?_;refine pG trivial a5 ?_;refine WN [112] aS c1 ?_;refine bg ?_;by_cases q:e=0
 ·have d:(e==0)=true:=su q;simp only[bP,aq q];simp -implicitDefEqProofs only[go_sem,seval,bne,d]
  and_intros<;>first|exact .dq|omega|skip
  all_goals simp[pl]
 ·have d:(e==0)=false:=su q;simp only[bP,au q];simp -implicitDefEqProofs only[go_sem,seval,bne,d];refine pG trivial (a e) ?_
  and_intros<;>first|exact .dq|omega|skip
  all_goals simp[bF.err]
def aan(s:af)(c:bG)(h:s.good)(f:c.kind=10):Sq 19 [] [.agg s.cells,.agg c.cells] [] (.bI [.agg (bn s c).1.cells,.agg (bn s c).2.cells]):=by
 have a:=λe=>bV e;have c0:=aX s h.small;have g:bn s c=bP s (if s.phase=0 then((nP s c).1,(nP s c).2.2,(nP s c).2.1,0,[],[])else(s,15,0,0,[],[])):=by unfold bn;congr 1;simp[jh,f]
 rw[g];clear g;have c1:=mY s c h;obtain⟨R,i⟩:=aN (nP s c);rw[<-i]at c1 |-;clear i;obtain⟨T,no,e⟩:=R;dsimp only at c1 |-;simp only[af.cells,bG.cells,f]at c1;simp only[af.cells]at c0 |-;simp only[bG.cells,f];refine bp 227 2 [.cell 4 42,.cell 5 64] mixed func19 ?_;refine pG trivial c0 ?_;refine bg ?_;by_cases b:s.phase=0
 case neg =>
  have d:(s.phase==0)=false:=su b;rw[au b];simp only[bP,au (show ¬(15:Int)=0 by decide)];simp -implicitDefEqProofs only[go_sem,seval,bne,d];refine pG trivial (a 15) ?_
  and_intros<;>first|exact .dq|omega|skip
  all_goals simp[bF.err]
 have j:(s.phase==0)=true:=su b;rw[aq b];simp -implicitDefEqProofs only[go_sem,seval,bne,j];refine WN [112] aS c1 ?_;refine bg ?_;by_cases q:e=0
 ·have d:(e==0)=true:=su q;simp only[bP,aq q];simp -implicitDefEqProofs only[go_sem,seval,bne,d]
  and_intros<;>first|exact .dq|omega|skip
  all_goals simp[pl]
 ·have d:(e==0)=false:=su q;simp only[bP,au q];simp -implicitDefEqProofs only[go_sem,seval,bne,d];refine pG trivial (a e) ?_
  and_intros<;>first|exact .dq|omega|skip
  all_goals simp[bF.err]
def aao(s:af)(c:bG)(h:s.good)(f:c.kind=11):Sq 19 [] [.agg s.cells,.agg c.cells] [] (.bI [.agg (bn s c).1.cells,.agg (bn s c).2.cells]):=by
 have a:=λe=>bV e;have c0:=aX s h.small;have g:bn s c=bP s (if s.phase=0 then((nP s c).1,(nP s c).2.2,(nP s c).2.1,0,[],[])else(s,15,0,0,[],[])):=by unfold bn;congr 1;simp[jh,f]
 rw[g];clear g;have c1:=mY s c h;obtain⟨R,i⟩:=aN (nP s c);rw[<-i]at c1 |-;clear i;obtain⟨T,no,e⟩:=R;dsimp only at c1 |-;simp only[af.cells,bG.cells,f]at c1;simp only[af.cells]at c0 |-;simp only[bG.cells,f];refine bp 227 2 [.cell 4 42,.cell 5 64] mixed func19 ?_;refine pG trivial c0 ?_;refine bg ?_;by_cases b:s.phase=0
 case neg =>
  have d:(s.phase==0)=false:=su b;rw[au b];simp only[bP,au (show ¬(15:Int)=0 by decide)];simp -implicitDefEqProofs only[go_sem,seval,bne,d];refine pG trivial (a 15) ?_
  and_intros<;>first|exact .dq|omega|skip
  all_goals simp[bF.err]
 have j:(s.phase==0)=true:=su b;rw[aq b];simp -implicitDefEqProofs only[go_sem,seval,bne,j];refine WN [112] aS c1 ?_;refine bg ?_;by_cases q:e=0
 ·have d:(e==0)=true:=su q;simp only[bP,aq q];simp -implicitDefEqProofs only[go_sem,seval,bne,d]
  and_intros<;>first|exact .dq|omega|skip
  all_goals simp[pl]
 ·have d:(e==0)=false:=su q;simp only[bP,au q];simp -implicitDefEqProofs only[go_sem,seval,bne,d];refine pG trivial (a e) ?_
  and_intros<;>first|exact .dq|omega|skip
  all_goals simp[bF.err]
def aap(s:af)(c:bG)(h:s.good)(f:c.kind=12):Sq 19 [] [.agg s.cells,.agg c.cells] [] (.bI [.agg (bn s c).1.cells,.agg (bn s c).2.cells]):=by
 have a:=λe=>bV e;have c0:=aX s h.small;have g:bn s c=bP s (if s.phase=0 then((nP s c).1,(nP s c).2.2,(nP s c).2.1,0,[],[])else(s,15,0,0,[],[])):=by unfold bn;congr 1;simp[jh,f]
 rw[g];clear g;have c1:=mY s c h;obtain⟨R,i⟩:=aN (nP s c);rw[<-i]at c1 |-;clear i;obtain⟨T,no,e⟩:=R;dsimp only at c1 |-;simp only[af.cells,bG.cells,f]at c1;simp only[af.cells]at c0 |-;simp only[bG.cells,f];refine bp 227 2 [.cell 4 42,.cell 5 64] mixed func19 ?_;refine pG trivial c0 ?_;refine bg ?_;by_cases b:s.phase=0
 case neg =>
  have d:(s.phase==0)=false:=su b;rw[au b];simp only[bP,au (show ¬(15:Int)=0 by decide)];simp -implicitDefEqProofs only[go_sem,seval,bne,d];refine pG trivial (a 15) ?_
  and_intros<;>first|exact .dq|omega|skip
  all_goals simp[bF.err]
 have j:(s.phase==0)=true:=su b;rw[aq b];simp -implicitDefEqProofs only[go_sem,seval,bne,j];refine WN [112] aS c1 ?_;refine bg ?_;by_cases q:e=0
 ·have d:(e==0)=true:=su q;simp only[bP,aq q];simp -implicitDefEqProofs only[go_sem,seval,bne,d]
  and_intros<;>first|exact .dq|omega|skip
  all_goals simp[pl]
 ·have d:(e==0)=false:=su q;simp only[bP,au q];simp -implicitDefEqProofs only[go_sem,seval,bne,d];refine pG trivial (a e) ?_
  and_intros<;>first|exact .dq|omega|skip
  all_goals simp[bF.err]
def aaq(s:af)(c:bG)(h:s.good)(f:c.kind=13):Sq 19 [] [.agg s.cells,.agg c.cells] [] (.bI [.agg (bn s c).1.cells,.agg (bn s c).2.cells]):=by
 have a:=λe=>bV e;have c0:=aX s h.small;have g:bn s c=bP s (if s.phase=0 then((nP s c).1,(nP s c).2.2,(nP s c).2.1,0,[],[])else(s,15,0,0,[],[])):=by unfold bn;congr 1;simp[jh,f]
 rw[g];clear g;have c1:=mY s c h;obtain⟨R,i⟩:=aN (nP s c);rw[<-i]at c1 |-;clear i;obtain⟨T,no,e⟩:=R;dsimp only at c1 |-;simp only[af.cells,bG.cells,f]at c1;simp only[af.cells]at c0 |-;simp only[bG.cells,f];refine bp 227 2 [.cell 4 42,.cell 5 64] mixed func19 ?_;refine pG trivial c0 ?_;refine bg ?_;by_cases b:s.phase=0
 case neg =>
  have d:(s.phase==0)=false:=su b;rw[au b];simp only[bP,au (show ¬(15:Int)=0 by decide)];simp -implicitDefEqProofs only[go_sem,seval,bne,d];refine pG trivial (a 15) ?_
  and_intros<;>first|exact .dq|omega|skip
  all_goals simp[bF.err]
 have j:(s.phase==0)=true:=su b;rw[aq b];simp -implicitDefEqProofs only[go_sem,seval,bne,j];refine WN [112] aS c1 ?_;refine bg ?_;by_cases q:e=0
 ·have d:(e==0)=true:=su q;simp only[bP,aq q];simp -implicitDefEqProofs only[go_sem,seval,bne,d]
  and_intros<;>first|exact .dq|omega|skip
  all_goals simp[pl]
 ·have d:(e==0)=false:=su q;simp only[bP,au q];simp -implicitDefEqProofs only[go_sem,seval,bne,d];refine pG trivial (a e) ?_
  and_intros<;>first|exact .dq|omega|skip
  all_goals simp[bF.err]
def aar(s:af)(c:bG)(h:s.good)(j:c.kind=14):Sq 19 [] [.agg s.cells,.agg c.cells] [] (.bI [.agg (bn s c).1.cells,.agg (bn s c).2.cells]):=by
 have b:=λe=>bV e;have c0:=aX s h.small;have f:bn s c=bP s (rq s,nh s,0,0,uN s,[]):=by unfold bn;congr 1;simp[jh,j]
 rw[f];clear f;have c1:=Iy s h.small h.fB h.qs;obtain⟨T,g⟩:=aN (rq s);obtain⟨e,i⟩:=aN (nh s);obtain⟨ds,a⟩:∃l,l=uN s:=⟨_,rfl⟩
 rw[<-g,<-i,<-a]at c1 |-;clear g i a;simp only[af.cells]at c1;simp only[af.cells]at c0 |-;simp only[bG.cells,j];refine bp 227 2 [.cell 4 42,.cell 5 64] mixed func19 ?_;refine pG trivial c0 ?_;refine pG trivial c1 ?_;refine bg ?_;by_cases q:e=0
 ·have d:(e==0)=true:=su q;simp only[bP,aq q];simp -implicitDefEqProofs only[go_sem,seval,bne,d]
  and_intros<;>first|exact .dq|omega|skip
  all_goals simp[pl]
 ·have d:(e==0)=false:=su q;simp only[bP,au q];simp -implicitDefEqProofs only[go_sem,seval,bne,d];refine pG trivial (b e) ?_
  and_intros<;>first|exact .dq|omega|skip
  all_goals simp[bF.err]
def aas(s:af)(c:bG)(h:s.good)(j:c.kind=15):Sq 19 [] [.agg s.cells,.agg c.cells] [] (.bI [.agg (bn s c).1.cells,.agg (bn s c).2.cells]):=by
 have b:=λe=>bV e;have c0:=aX s h.small;have f:bn s c=bP s (oX s,mU s,0,0,sL s,[]):=by unfold bn;congr 1;simp[jh,j]
 rw[f];clear f;have c1:=CN s h.small h.fB h.bs (by have:=h.ps;omega);obtain⟨T,g⟩:=aN (oX s);obtain⟨e,i⟩:=aN (mU s);obtain⟨ds,a⟩:∃l,l=sL s:=⟨_,rfl⟩
 rw[<-g,<-i,<-a]at c1 |-;clear g i a;simp only[af.cells]at c1;simp only[af.cells]at c0 |-;simp only[bG.cells,j];refine bp 227 2 [.cell 4 42,.cell 5 64] mixed func19 ?_;refine pG trivial c0 ?_;refine pG trivial c1 ?_;refine bg ?_;by_cases q:e=0
 ·have d:(e==0)=true:=su q;simp only[bP,aq q];simp -implicitDefEqProofs only[go_sem,seval,bne,d]
  and_intros<;>first|exact .dq|omega|skip
  all_goals simp[pl]
 ·have d:(e==0)=false:=su q;simp only[bP,au q];simp -implicitDefEqProofs only[go_sem,seval,bne,d];refine pG trivial (b e) ?_
  and_intros<;>first|exact .dq|omega|skip
  all_goals simp[bF.err]
def aat(s:af)(c:bG)(h:s.good)(i:c.kind=16):Sq 19 [] [.agg s.cells,.agg c.cells] [] (.bI [.agg (bn s c).1.cells,.agg (bn s c).2.cells]):=by
 have a:=λe=>bV e;have c0:=aX s h.small;have b:bn s c=bP s (Au s,yR s,0,0,[],[]):=by unfold bn;congr 1;simp[jh,i]
 rw[b];clear b;have c1:=Fq s h.small h.fB;obtain⟨T,f⟩:=aN (Au s);obtain⟨e,g⟩:=aN (yR s);rw[<-f,<-g]at c1 |-;clear f g;simp only[af.cells]at c1;simp only[af.cells]at c0 |-;simp only[bG.cells,i];refine bp 227 2 [.cell 4 42,.cell 5 64] mixed func19 ?_;refine pG trivial c0 ?_;refine pG trivial c1 ?_;refine bg ?_;by_cases q:e=0
 ·have d:(e==0)=true:=su q;simp only[bP,aq q];simp -implicitDefEqProofs only[go_sem,seval,bne,d]
  and_intros<;>first|exact .dq|omega|skip
  all_goals simp[pl]
 ·have d:(e==0)=false:=su q;simp only[bP,au q];simp -implicitDefEqProofs only[go_sem,seval,bne,d];refine pG trivial (a e) ?_
  and_intros<;>first|exact .dq|omega|skip
  all_goals simp[bF.err]
def aau(s:af)(c:bG)(h:s.good)(j:c.kind=17):Sq 19 [] [.agg s.cells,.agg c.cells] [] (.bI [.agg (bn s c).1.cells,.agg (bn s c).2.cells]):=by
 have b:=λe=>bV e;have c0:=aX s h.small;have f:bn s c=bP s (lE s c.cu,wF s c.cu,0,0,C4 s c.cu,[]):=by unfold bn;congr 1;simp[jh,j]
 rw[f];clear f;have c1:=Nt s c.cu h.small h.fB;obtain⟨T,g⟩:=aN (lE s c.cu);obtain⟨e,i⟩:=aN (wF s c.cu);obtain⟨ds,a⟩:∃l,l=C4 s c.cu:=⟨_,rfl⟩
 rw[<-g,<-i,<-a]at c1 |-;clear g i a;simp only[af.cells]at c1;simp only[af.cells]at c0 |-;simp only[bG.cells,j];refine bp 227 2 [.cell 4 42,.cell 5 64] mixed func19 ?_;refine pG trivial c0 ?_;refine pG trivial c1 ?_;refine bg ?_;by_cases q:e=0
 ·have d:(e==0)=true:=su q;simp only[bP,aq q];simp -implicitDefEqProofs only[go_sem,seval,bne,d]
  and_intros<;>first|exact .dq|omega|skip
  all_goals simp[pl]
 ·have d:(e==0)=false:=su q;simp only[bP,au q];simp -implicitDefEqProofs only[go_sem,seval,bne,d];refine pG trivial (b e) ?_
  and_intros<;>first|exact .dq|omega|skip
  all_goals simp[bF.err]
def aav(s:af)(c:bG)(h:s.good)(a:c.kind=18):Sq 19 [] [.agg s.cells,.agg c.cells] [] (.bI [.agg (bn s c).1.cells,.agg (bn s c).2.cells]):=by
 have b:=λe=>bV e;have c0:=Q4 s h.small;have f:bn s c=bP s ((x8 s c).1,(x8 s c).2,0,0,[],[]):=by unfold bn;congr 1;simp[jh,a]
 rw[f];clear f;have c1:=JM s c h;obtain⟨R,g⟩:=aN (x8 s c);rw[<-g]at c1 |-;clear g;obtain⟨T,e⟩:=R;dsimp only at c1 |-;simp only[af.cells,af.AS,bG.cells,a]at c1 c0;simp only[af.cells];simp only[bG.cells,a];refine bp 227 2 [.cell 4 42,.cell 5 64] mixed func19 ?_;refine soE trivial c0 ?_;refine WN [112,200] aS c1 ?_;refine bg ?_;by_cases q:e=0
 ·have d:(e==0)=true:=su q;simp only[bP,aq q];simp -implicitDefEqProofs only[go_sem,seval,bne,d]
  and_intros<;>first|exact .dq|omega|skip
  all_goals simp[pl]
 ·have d:(e==0)=false:=su q;simp only[bP,au q];simp -implicitDefEqProofs only[go_sem,seval,bne,d];refine pG trivial (b e) ?_
  and_intros<;>first|exact .dq|omega|skip
  all_goals simp[bF.err]
def aaw(s:af)(c:bG)(h:s.good)(k:c.kind=19):Sq 19 [] [.agg s.cells,.agg c.cells] [] (.bI [.agg (bn s c).1.cells,.agg (bn s c).2.cells]):=by
 have f:=λe=>bV e;have c0:=aX s h.small;have g:bn s c=bP s (lN s c.who,rX s c.who,0,0,CA s c.who,CB s c.who):=by unfold bn;congr 1;simp[jh,k]
 rw[g];clear g;have c1:=Qk s c.who h.small h.fB h.ms h.qs h.aW h.bs;obtain⟨T,i⟩:=aN (lN s c.who);obtain⟨e,j⟩:=aN (rX s c.who);obtain⟨ds,a⟩:∃l,l=CA s c.who:=⟨_,rfl⟩
 obtain⟨fs,b⟩:∃l,l=CB s c.who:=⟨_,rfl⟩
 rw[<-i,<-j,<-a,<-b]at c1 |-;clear i j a b;simp only[af.cells]at c1;simp only[af.cells]at c0 |-;simp only[bG.cells,k];refine bp 227 2 [.cell 4 42,.cell 5 64] mixed func19 ?_;refine pG trivial c0 ?_;refine pG trivial c1 ?_;refine bg ?_;by_cases q:e=0
 ·have d:(e==0)=true:=su q;simp only[bP,aq q];simp -implicitDefEqProofs only[go_sem,seval,bne,d]
  and_intros<;>first|exact .dq|omega|skip
  all_goals simp[pl]
 ·have d:(e==0)=false:=su q;simp only[bP,au q];simp -implicitDefEqProofs only[go_sem,seval,bne,d];refine pG trivial (f e) ?_
  and_intros<;>first|exact .dq|omega|skip
  all_goals simp[bF.err]
def aax(s:af)(c:bG)(h:s.good)(g:c.kind=20):Sq 19 [] [.agg s.cells,.agg c.cells] [] (.bI [.agg (bn s c).1.cells,.agg (bn s c).2.cells]):=by
 have a:=λe=>bV e;have c0:=aX s h.small;have b:bn s c=bP s ((pR 3 0 s []).1,(pR 3 0 s []).2.2,0,0,(pR 3 0 s []).2.1,[]):=by unfold bn;congr 1;simp[jh,g]
 rw[b];clear b;have c1:=D4 s h;obtain⟨R,f⟩:=aN (pR 3 0 s []);rw[<-f]at c1 |-;clear f;obtain⟨T,ds,e⟩:=R;dsimp only at c1 |-;simp only[af.cells]at c1;simp only[af.cells]at c0 |-;simp only[bG.cells,g];refine bp 227 2 [.cell 4 42,.cell 5 64] mixed func19 ?_;refine pG trivial c0 ?_;refine WN [112] aS c1 ?_;refine bg ?_;by_cases q:e=0
 ·have d:(e==0)=true:=su q;simp only[bP,aq q];simp -implicitDefEqProofs only[go_sem,seval,bne,d]
  and_intros<;>first|exact .dq|omega|skip
  all_goals simp[pl]
 ·have d:(e==0)=false:=su q;simp only[bP,au q];simp -implicitDefEqProofs only[go_sem,seval,bne,d];refine pG trivial (a e) ?_
  and_intros<;>first|exact .dq|omega|skip
  all_goals simp[bF.err]
theorem aay(s:af)(c:bG)(h:s.good)(f:c.kind=21):Sq 19 [] [.agg s.cells,.agg c.cells] [] (.bI [.agg (bn s c).1.cells,.agg (bn s c).2.cells]):=by
 have a:=λe=>bV e;have c0:=aX s h.small;have d:bn s c=bP s (if aC.right ⟨c.no,c.who,c.cur⟩then(s,0,0,eP ⟨c.no,c.who,c.cur⟩ s.bf.bs,[],[])else(s,3,0,0,[],[])):=by unfold bn;congr 1;simp[jh,f]
 rw[d];clear d;have b:=kj c.no c.who c.cur;have a2:=jm ⟨c.no,c.who,c.cur⟩;have a3:=ou s.bf ⟨c.no,c.who,c.cur⟩ h.small.bf;simp only[aC.cells]at a2 a3;simp only[bu.cells]at a3;simp only[af.cells]at c0 |-;simp only[bG.cells,f];refine bp 227 2 [.cell 4 42,.cell 5 64] mixed func19 ?_;refine pG trivial c0 ?_;refine pG trivial b ?_;refine pG trivial a2 ?_;cases b1:aC.right ⟨c.no,c.who,c.cur⟩
 ·rw[au (by decide)];simp only[bP,au (show ¬(3:Int)=0 by decide)];refine pG trivial (a 3) ?_
  and_intros<;>first|exact .dq|omega|skip
  all_goals simp[bF.err]
 rw[aq rfl];refine pG trivial b ?_;refine pG trivial a3 ?_;simp only[bP,aq (show(0:Int)=0 from rfl)];simp -implicitDefEqProofs only[go_sem,seval]
 and_intros<;>first|exact .dq|omega|skip
 all_goals simp[pl]
theorem aaz(s:af)(c:bG)(h:s.good)(d:c.kind=22):Sq 19 [] [.agg s.cells,.agg c.cells] [] (.bI [.agg (bn s c).1.cells,.agg (bn s c).2.cells]):=by
 have a:=λe=>bV e;have c0:=aX s h.small;have b:bn s c=bP s (if qB c.who c.inst then(s,0,0,(posOf c.who c.inst s.book.qs).aO,[],[])else(s,3,0,0,[],[])):=by unfold bn;congr 1;simp[jh,d]
 rw[b];clear b;have g:=uH c.who c.inst;have a3:=sR s.book c.who c.inst h.small.book;obtain⟨y,f⟩:=aN (posOf c.who c.inst s.book.qs);rw[<-f]at a3 |-;clear f;simp only[aH.cells,aB.cells]at a3;simp only[af.cells]at c0 |-;simp only[bG.cells,d];refine bp 227 2 [.cell 4 42,.cell 5 64] mixed func19 ?_;refine pG trivial c0 ?_;refine pG trivial g ?_;cases b1:qB c.who c.inst
 ·rw[au (by decide)];simp only[bP,au (show ¬(3:Int)=0 by decide)];refine pG trivial (a 3) ?_
  and_intros<;>first|exact .dq|omega|skip
  all_goals simp[bF.err]
 rw[aq rfl];refine pG trivial a3 ?_;simp only[bP,aq (show(0:Int)=0 from rfl)];simp -implicitDefEqProofs only[go_sem,seval]
 and_intros<;>first|exact .dq|omega|skip
 all_goals simp[pl]
def bu.lo(l:bu):Prop:=l.last<=1099511627776
def P3{l:bu}{id:Int}{g:List aK}(h:eK l id g=0):(iQ l id g).lo:=by
 unfold iQ;rw[aq h];exact(P1 h).2.1.2
def DV{s:af}(g:List aK)(h:s.bf.lo):(qG s g).bf.lo:=by
 unfold qG;split
 ·rename_i a;exact P3 a
 ·exact h
def Lx{l:bu}{g:List aK}{e:Int}(h:l.lo)(a:(fL l g e).2=0):(fL l g e).1.lo:=by
 unfold fL at a |-;split
 ·rename_i b;rw[aq b]at a;exact P3 a
 ·exact h
theorem TW{s:af}{w:Int}:∀(m i:Nat)(l:bu)(p:List aU),l.lo->(rY s w m i l p).2.2=0->(rY s w m i l p).1.lo
 | 0,_,_,_,h,_=>h
 |m+1,i,l,p,h,he=>by
  simp only[rY]at he |-;split
  ·rename_i a;rw[aq a]at he;exact TW m _ _ _ (Lx h a) he
  ·rename_i a;rw[au a]at he;exact absurd he a
def T7{s:af}(h:s.bf.lo)(c:Int):(CP s c).1.bf.lo:=by
 unfold CP;split
 ·exact DV _ h
 ·exact h
theorem T6:∀(m c:Nat) {s:af} (ds:List aU),s.bf.lo->(pR m c s ds).1.bf.lo
 | 0,_,_,_,h=>h
 |m+1,c,s,ds,h=>by
  simp only[pR];split
  ·exact T6 m _ _ (T7 h _)
  ·exact T7 h _
def afZ{s:af}(h:s.bf.lo)(c:bG):(vf s c).1.bf.lo:=by
 unfold vf;split
 case isFalse=>exact h
 split
 case isFalse=>exact h
 split
 ·exact DV _ h
 split
 ·split
  ·exact DV (s:=s) _ h
  ·exact DV _ h
 ·exact DV _ h
def VJ{s:af}(h:s.bf.lo)(c:bG)(n:Int):(qi s c n).1.bf.lo:=by
 unfold qi;split
 case isFalse=>exact h
 split
 case isFalse=>exact h
 split
 case isFalse=>exact h
 split
 case isFalse=>exact h
 split
 ·exact h
 split
 ·exact h
 ·exact h
def Zt{s:af}(h:s.bf.lo)(c:bG):(nP s c).1.bf.lo:=by
 unfold nP;split
 ·split<;>exact h
 split
 ·exact h
 split
 ·exact h
 split
 ·split<;>exact h
 ·exact h
def aen{s:af}(h:s.bf.lo)(c:bG):(x8 s c).1.bf.lo:=by
 unfold x8;split
 case isFalse=>exact h
 split
 case isFalse=>exact h
 split
 ·exact h
 split
 case isFalse=>exact h
 split<;>exact h
def Wa{s:af}(h:s.bf.lo)(a:nh s=0):(rq s).bf.lo:=by
 unfold rq;rw[aq a];unfold nh at a;split at a
 case isFalse=>cases a
 split at a
 case isFalse=>cases a
 split at a
 case isFalse hne=>exact absurd a hne
 split at a
 case isFalse hne=>exact absurd a hne
 exact Lx (l:=s.bf) h a
def Vq{s:af}(h:s.bf.lo)(a:mU s=0):(oX s).bf.lo:=by
 unfold oX;rw[aq a];exact h
def abc{s:af}(h:s.bf.lo)(a:yR s=0):(Au s).bf.lo:=by
 unfold Au;rw[aq a];exact h
def abU{s:af}{n:Int}(h:s.bf.lo)(a:wF s n=0):(lE s n).bf.lo:=by
 unfold lE;rw[aq a];exact h
def YE{s:af}{w:Int}(h:s.bf.lo)(a:rX s w=0):(lN s w).bf.lo:=by
 unfold lN;rw[aq a];exact TW 3 0 s.bf [] h (TU a).2.2.2
def XD{s:af}{c:bG}(h:s.bf.lo)(a:(jh s c).2.1=0):(jh s c).1.bf.lo:=by
 revert a;exact yw s c (P:=λm=>m.2.1=0->m.1.bf.lo) (λ_=>h) (λ_=>h) (λ_=>h) (λ_=>afZ h c) (λ_=>VJ h c _) (λ_=>DV _ h) (λ_=>Zt h c)
  (λa=>Wa h a) (λa=>Vq h a) (λa=>abc h a) (λa=>abU h a) (λ_=>aen h c) (λa=>YE h a) (λ_=>T6 3 0 [] h) (λ_ _ _=>h)
theorem Pz{s:af}{w:Int}:∀(m c:Nat)(x:List aI×List aU),(tQ s w m c x).1.2.length<=x.2.length+m
 | 0,_,_=>fS _
 |m+1,c,x=>by
  simp only[tQ];split
  ·refine Nat.le_trans (Pz m _ _) ?_;simp only[cR];have:(nF w c (Y2 s w c)).length<=1:=by unfold nF;split<;>simp
   omega
  ·dsimp only;omega
theorem Lc{s:af}:∀(ws:List Int)(x:List aI×List aU),(wY s ws x).1.2.length<=x.2.length+3*ws.length
 | [],_=>fS _
 |w::r,x=>by
  have h1:=Pz (s:=s) (w:=w) 3 0 x;simp only[wY,length_cons];split
  ·have h2:=Lc (s:=s) r (tQ s w 3 0 x).1;omega
  ·omega
theorem TV{s:af}{w:Int}:∀(m i:Nat)(l:bu)(p:List aU),(rY s w m i l p).2.1.length<=p.length+m
 | 0,_,_,_=>fS _
 |m+1,i,l,p=>by
  simp only[rY];split
  ·refine Nat.le_trans (TV m _ _ _) ?_;simp only[cR];have:(nF w i (gN s w i).2.1).length<=1:=by unfold nF;split<;>simp
   omega
  ·dsimp only;omega
def V0(s:af)(c:Int):(CP s c).1.aj=s.aj:=by
 unfold CP qG;split
 ·split<;>rfl
 ·rfl
theorem T5:∀(m c:Nat)(s:af)(ds:List aU),(pR m c s ds).2.1.length<=ds.length+m*s.aj.ms.length
 | 0,_,_,_=>by simp[pR]
 |m+1,c,s,ds=>by
  simp only[pR];split
  ·refine Nat.le_trans (T5 m _ _ _) ?_;rw[V0];have:=EM s.bf s.aj c;simp only[cR,Nat.succ_mul];omega
  ·simp
def QH{s:af}(h:s.lens):(uN s).length<=1000:=by
 have hq:=h.qs;unfold uN rj;split
 ·have:=(MP (yc s.aj s.book)).2;have:(yc s.aj s.book).length<=s.book.qs.length:=by unfold yc;split<;>simp
  omega
 ·simp
def PC{s:af}(h:s.lens):(sL s).length<=1000:=by
 have hm:=h.ms;unfold sL Vp;split
 ·have a:=Lc (s:=s) (ku s.aj [1]) (s.calls,[]);have h2:(ku s.aj [1]).length<=s.aj.ms.length:=bN _ _ _;simp only[length_nil]at a;omega
 ·simp
def Wr{s:af}(n:Int)(h:s.lens):(C4 s n).length<=1000:=by
 have hc:=h.calls;unfold C4;split
 ·rw[qE];have:=K7 (s.now+n) s.calls;omega
 ·simp
def YC{s:af}(w:Int):(CA s w).length<=1000:=by
 unfold CA;split
 ·have:=TV (s:=s) (w:=w) 3 0 s.bf [];simp only[length_nil]at this;omega
 ·simp
def YD{s:af}(w:Int):(CB s w).length<=1000:=by
 unfold CB;split
 ·rw[ry];omega
 ·simp
def J5{s:af}(h:s.lens):(pR 3 0 s []).2.1.length<=1000:=by
 have hm:=h.ms;have:=T5 3 0 s [];simp only[length_nil]at this;omega
def KE{s:af}{c:bG}(h:s.lens):(jh s c).2.2.2.2.1.length<=1000/\(jh s c).2.2.2.2.2.length<=1000:=by
 have z:([]:List aU).length<=1000/\([]:List dM).length<=1000:=⟨Nat.zero_le _,Nat.zero_le _⟩
 exact yw s c (P:=λm=>m.2.2.2.2.1.length<=1000/\m.2.2.2.2.2.length<=1000) z z z z z z z ⟨QH h,z.2⟩ ⟨PC h,z.2⟩ z ⟨Wr _ h,z.2⟩ z ⟨YC _,YD _⟩ ⟨J5 h,z.2⟩ (λ_ _=>z)
def GI{s:af}{c:bG}(h:s.lens):(bn s c).2.fits:=by
 have hl:=KE (c:=c) h;unfold bn bP;split
 ·simp only[bF.fits];omega
 ·simp[bF.fits,bF.err]
def RH{s:af}{c:bG}(h:s.fk):(bn s c).1.right/\(bn s c).1.bf.lo:=by
 refine⟨OJ h.right,?_⟩;unfold bn bP;split
 ·rename_i a;exact XD h.last a
 ·exact h.last
def uf(s:af)(c:bG)(r:bF)(i:Nat):List bX:=
 if(i:Int)+1=c.client then[⟨(i:Int)+1,c.seq,r⟩]else if 0<=kr ((i:Int)+1) s.aT 0 then[pH s (kr ((i:Int)+1) s.aT 0)]else[]
def Aa(s:af)(c:bG):af×bF:=if(qD s c).2 then(s,(qD s c).1)else({ (bn s c).1 with aT:=pQ (uf s c (bn s c).2) 8 },(bn s c).2)
theorem IN(n:Int):∀(l:List bX)(k:Int),0<=k->0<=kr n l k->∃(j:Nat)(h:j<l.length),kr n l k=k+j/\l[j].client=n
 | [],k,_,h=>by simp[kr]at h
 |x::r,k,hk,h=>by
  simp only[kr]at h |-;split
  ·rename_i a;exact⟨0,by simp,by simp,su a⟩
  ·rename_i a;rw[au a]at h;obtain⟨j,h1,b,c⟩:=IN n r (k+1) ak h;exact⟨j+1,by simp;omega,by rw[b];omega,su c⟩
def Bs{s:af}{n:Int}(h:0<=kr n s.aT 0):pH s (kr n s.aT 0)∈s.aT/\(pH s (kr n s.aT 0)).client=n:=by
 obtain⟨j,a,e,b⟩:=IN n s.aT 0 ak h;unfold pH;rw[e,Int.zero_add,Int.toNat_natCast,getD_eq_getElem?_getD,fj a];exact⟨dS a,b⟩
def Ua{x:bX}:iL x=true↔(1<=x.client/\x.client<=8)/\1<=x.seq/\x.seq<=1099511627776:=by
 simp only[iL,within,bQ,bz]
def OP{c:bG}(h:Cd c=0):(1<=c.kind/\c.kind<=22)/\1<=c.client/\c.client<=8:=by
 unfold Cd at h;split at h
 case isFalse=>cases h
 rename_i a;split at h
 case isFalse=>cases h
 split at h
 case isFalse=>cases h
 split at h
 case isFalse=>cases h
 rename_i b;simp only[within,bQ,bz]at a b;exact⟨a,b⟩
def Ht{c:bG}{last:Int}(h:(DN c last).2=false)(hl:0<=last/\last<=1099511627776):c.seq=last+1/\c.seq<=1099511627776:=by
 unfold DN at h;split at h
 case isFalse=>cases h
 rename_i a;split at h
 ·cases h
 rename_i h2;rw[gO ak ak]at a;omega
def Pp{s:af}{c:bG}(e:s.right)(h:(qD s c).2=false):Cd c=0/\1<=c.seq/\c.seq<=1099511627776:=by
 have a:=(oR (lt:=fV) wD).1 e.aT;unfold qD at h;split at h
 case isFalse=>cases h
 rename_i b;split at h
 ·rename_i d;have hm:=Ua.1 (a.1 _ (Bs d).1);split at h
  ·cases h
  split at h
  ·cases h
  have:=Ht h ak;exact⟨b,by omega,this.2⟩
 ·have:=Ht h ak;exact⟨b,by omega,this.2⟩
def Et(s:af)(c:bG)(hs:s.fk):∀i,i<8->∀x∈uf s c (bn s c).2 i,x.client=(i:Int)+1/\(x∈s.aT\/x=⟨c.client,c.seq,(bn s c).2⟩):=by
 intro i hi x a;unfold uf at a;split at a
 ·rename_i h;obtain rfl:=gV.1 a;exact⟨rfl,.inr (by rw[h])⟩
 ·split at a
  ·rename_i h;obtain rfl:=gV.1 a;exact⟨(Bs h).2,.inl (Bs h).1⟩
  ·cases a
def XC{s:af}{c:bG}(h:s.fk):(Aa s c).1.fk:=by
 unfold Aa;split
 ·exact h
 rename_i n;obtain⟨f,k1,k2⟩:=Pp h.right (su n);obtain⟨b,l⟩:=RH (c:=c) h;have e:=Et s c h;have k:=(oR (lt:=fV) wD).1 h.right.aT;have d:=GI (c:=c) h.right.lens;have hcl:=OP f;refine⟨⟨b.N0,b.aj,b.book,b.bf,b.ps,b.calls,b.known,b.bl,b.aW,(oR (lt:=fV) wD).2 ⟨λx a=>?_,?_⟩⟩,l,λx a=>?_⟩
 ·obtain⟨i,g,a⟩:=jM.1 a;rcases(e i g x a).2 with a|rfl
  ·exact k.1 x a
  ·rw[Ua];dsimp only;omega
 ·refine xq (λi g=>yV ?_) λi j hij m x a y o=>?_
  ·unfold uf;split;simp;split<;>simp
  ·have h1:=(e i ak x a).1;have h2:=(e j m y o).1;simp only[fV,bz];omega
 ·obtain⟨i,g,a⟩:=jM.1 a;rcases(e i g x a).2 with a|rfl
  ·exact h.fit x a
  ·exact d
def WD:af.zero.fk:=⟨gX.1 rfl,by decide,λx a=>by cases a⟩
def UT(s:af)(c:bG)(h:s.good)(hk:1<=c.kind/\c.kind<=22):Sq 19 [] [.agg s.cells,.agg c.cells] [] (.bI [.agg (bn s c).1.cells,.agg (bn s c).2.cells]):=by
 rcases(by omega:c.kind=1\/c.kind=2\/c.kind=3\/c.kind=4\/c.kind=5\/c.kind=6\/c.kind=7\/c.kind=8\/c.kind=9\/c.kind=10\/c.kind=11\/c.kind=12\/c.kind=13\/c.kind=14\/c.kind=15\/c.kind=16\/c.kind=17\/c.kind=18\/c.kind=19\/c.kind=20\/c.kind=21\/c.kind=22)with e|e|e|e|e|e|e|e|e|e|e|e|e|e|e|e|e|e|e|e|e|e
 ·exact aeN s c h e
 ·exact aeO s c h e
 ·exact aeP s c h e
 ·exact aeQ s c h e
 ·exact aeR s c h e
 ·exact aeS s c h e
 ·exact aeT s c h e
 ·exact aeU s c h e
 ·exact aeV s c h e
 ·exact aan s c h e
 ·exact aao s c h e
 ·exact aap s c h e
 ·exact aaq s c h e
 ·exact aar s c h e
 ·exact aas s c h e
 ·exact aat s c h e
 ·exact aau s c h e
 ·exact aav s c h e
 ·exact aaw s c h e
 ·exact aax s c h e
 ·exact aay s c h e
 ·exact aaz s c h e
def UR(s:af)(c:bG)(h:(bn s c).2.code≠0):bn s c=(s,.err (bn s c).2.code):=by
 unfold bn bP at h |-;split
 ·rename_i a;rw[aq a]at h;exact absurd rfl h
 ·rfl
def LI(s:af)(c:bG)(r:bF)(i:Nat):(uf s c r i).length<=1:=by
 unfold uf;split
 ·simp
 ·split<;>simp
def Qc(s:af)(c:bG)(h:s.fk)(m:(qD s c).2=false):Sq 8 [] [.agg s.cells,.agg c.cells] [.own 7 ((Aa s c).1.aT.map bX.cells)]
  (.bI [.agg [.I (Aa s c).1.now,.I (Aa s c).1.day,.I (Aa s c).1.phase,.sl 3 ((Aa s c).1.aj.ms.map av.cells),.sl 12 ((Aa s c).1.aj.ns.map aE.cells),.sl 4 ((Aa s c).1.aj.xs.map aD.cells),.I (Aa s c).1.book.next,.sl 7 ((Aa s c).1.book.ts.map aR.cells),.sl 4 ((Aa s c).1.book.qs.map aB.cells),
    .I (Aa s c).1.bf.last,.sl 4 ((Aa s c).1.bf.bs.map bU.cells),.sl 3 (pl (Aa s c).1.ps),.sl 4 ((Aa s c).1.calls.map aI.cells),.sl 5 ((Aa s c).1.aW.map aY.cells),.ref 0],.agg (Aa s c).2.cells]):=by
 have J:=h.good;have U:=Pp h.right m;have hsl:=h.right.lens.aT;have c1:=xX s c J.small;have c2:=UT s c J (OP U.1).1;have c3:=aX s J.small;have c4:=λn=>yW s n ak;have A:=qP _ (GI (s:=s) (c:=c) h.right.lens);have p:=λn=>IN n s.aT 0 ak;have g:=UR s c;have P:Aa s c=({ (bn s c).1 with aT:=pQ (uf s c (bn s c).2) 8 },(bn s c).2):=by unfold Aa;rw[m];rfl
 rw[P];obtain⟨K,Q⟩:=aN ((qD s c).1);rw[m,<-Q]at c1;obtain⟨X,S⟩:=aN (bn s c);rw[<-S]at c2 A g |-;obtain⟨T,R⟩:=X;dsimp only at c2 A g |-;clear m Q S P U;simp only[af.cells,bG.cells,bF.cells]at c1 c2 c3 c4 A |-;refine bp 69 2 [.cell 4 42,.cell 5 64] mixed func8 ?_;refine sc aS c1 ?_;refine sc aS c2 ?_;by_cases b:R.code=0
 case pos =>
  have d:(R.code==0)=true:=su b;refine sm (a2 gr d) ?_;refine bg ?_;refine aF.wv 8 [2,3,4,5,6,8] [48,64,80,96,144] (λi=>[(10,.I ((i:Int)+1)),(9,.ref 1040)]) (λi=>[(112,.box R.cells),(1040,.own 7 ((pQ (uf s c R) i).map bX.cells))]) ?_ ?_ ?_
  ·simp only[go_sem,seval,bF.cells,mw]<;>simp
  ·intro i _ y _ _ _;have D:decide ((i:Int)+1<=8)=true:=iy;have r:IntKind.wrap .i64 ((i:Int)+1+1)=((i+1:Nat):Int)+1:=fQ;have a:=ji (uf s c R) i;have M:=lX (LI s c R) i;obtain⟨L,B⟩:=aN (pQ (uf s c R) i);obtain⟨k,m⟩:=aN ((i:Int)+1);have f:=c4 k;have l:=p k;rw[<-B]at a M |-;simp only[uf,<-m]at a;rw[<-m]at D r |-;obtain⟨v,G⟩:=aN (kr k s.aT 0);rw[<-G]at a f l;clear c4 p B G c1 c2 c3;simp only[bF.cells];refine sc D f ?_;by_cases q:k=c.client
   ·have o:(k==c.client)=true:=su q;rw[aq q]at a;refine sc (a2 o r) A ?_;refine bg ?_;refine ah.v y ?_;exact gY a
   have o:(k==c.client)=false:=su q;rw[au q]at a;by_cases t:0<=v
   ·obtain⟨j,E,e,_⟩:=l t;have z:v=(j:Int):=ak
    subst z;have u:decide (0<=(j:Int))=true:=by simp
    rw[aq t,show pH s (j:Int)=s.aT[j]from by simp[pH,E]]at a;obtain⟨x,O,F,N⟩:=oc (c:=bX.cells) s.aT E;rw[<-O]at a;simp only[bX.cells]at F;simp only[go_sem,seval,o,u,F,Int.toNat_natCast];refine bg ?_;refine sm r ?_;refine bg ?_;refine ah.v y ?_;exact gY a
   ·have u:decide (0<=v)=false:=su t;rw[au t,append_nil]at a;refine sm (a3 o u r) ?_;refine bg ?_;refine ah.v y ?_;exact gY a
  ·intro _ _ _;have w:decide (((8:Nat):Int)+1<=8)=false:=by decide
   simp only[bF.cells];refine sm w ?_;exact Si
 have d:(R.code==0)=false:=su b;have C:=g b;simp only[Prod.mk.injEq]at C;obtain⟨rfl,H⟩:=C;refine sm (a2 gr d) ?_;refine sc aS c3 ?_;refine bg ?_;refine aF.wv 8 [2,3,4,5,6,8] [48,64,80,96,144] (λi=>[(10,.I ((i:Int)+1)),(9,.ref 1040)]) (λi=>[(112,.box R.cells),(1040,.own 7 ((pQ (uf T c R) i).map bX.cells))]) ?_ ?_ ?_
 ·have r1:R.no=0:=by rw[H];rfl
  have r2:R.cu=0:=by rw[H];rfl
  have r3:R.OK=[]:=by rw[H];rfl
  have r4:R.falls=[]:=by rw[H];rfl
  simp only[go_sem,seval,bF.cells,mw,r1,r2,r3,r4,map_nil]<;>simp
 ·intro i _ y _ _ _;have D:decide ((i:Int)+1<=8)=true:=iy;have r:IntKind.wrap .i64 ((i:Int)+1+1)=((i+1:Nat):Int)+1:=fQ;have a:=ji (uf T c R) i;have M:=lX (LI T c R) i;obtain⟨L,B⟩:=aN (pQ (uf T c R) i);obtain⟨k,m⟩:=aN ((i:Int)+1);have f:=c4 k;have l:=p k;rw[<-B]at a M |-;simp only[uf,<-m]at a;rw[<-m]at D r |-;obtain⟨v,G⟩:=aN (kr k T.aT 0);rw[<-G]at a f l;clear c4 p B G c1 c2 c3;simp only[bF.cells];refine sc D f ?_;by_cases q:k=c.client
  ·have o:(k==c.client)=true:=su q;rw[aq q]at a;refine sc (a2 o r) A ?_;refine bg ?_;refine ah.v y ?_;exact gY a
  have o:(k==c.client)=false:=su q;rw[au q]at a;by_cases t:0<=v
  ·obtain⟨j,E,e,_⟩:=l t;have z:v=(j:Int):=ak
   subst z;have u:decide (0<=(j:Int))=true:=by simp
   rw[aq t,show pH T (j:Int)=T.aT[j]from by simp[pH,E]]at a;obtain⟨x,O,F,N⟩:=oc (c:=bX.cells) T.aT E;rw[<-O]at a;simp only[bX.cells]at F;simp only[go_sem,seval,o,u,F,Int.toNat_natCast];refine bg ?_;refine sm r ?_;refine bg ?_;refine ah.v y ?_;exact gY a
  ·have u:decide (0<=v)=false:=su t;rw[au t,append_nil]at a;refine sm (a3 o u r) ?_;refine bg ?_;refine ah.v y ?_;exact gY a
 ·intro _ _ _;have w:decide (((8:Nat):Int)+1<=8)=false:=by decide
  simp only[bF.cells];refine sm w ?_;exact Si
def M7(s:af)(c:bG)(h:s.fk):Sq 8 [] [.agg s.cells,.agg c.cells] [] (.bI [.agg (Aa s c).1.cells,.agg (Aa s c).2.cells]):=by
 cases a:(qD s c).2
 ·refine Spec.frozen (Qc s c h a) [0] rfl ?_;intro r;rcases r with _|r<;>rfl
 ·have c1:=xX s c h.good.small;have b:Aa s c=(s,(qD s c).1):=by unfold Aa;rw[a];rfl
  rw[b];rw[a]at c1;obtain⟨K,d⟩:=aN ((qD s c).1);rw[<-d]at c1 |-;simp only[af.cells,bG.cells,bF.cells]at c1 |-;refine bp 69 2 [.cell 4 42,.cell 5 64] mixed func8 ?_;exact sZ aS c1
def nU(c:bG):Int:=c.client%8+1
def MR(q:List Int)(c:bG):bG:={ c with client:=nU c,seq:=q.getD (nU c).toNat 0+1 }
def OY(x:af×List Int)(c:bG):af×List Int:=
 ((Aa x.1 (MR x.2 c)).1,if(Aa x.1 (MR x.2 c)).2.code=6\/(Aa x.1 (MR x.2 c)).2.code=21 then x.2 else x.2.set (nU c).toNat (x.2.getD (nU c).toNat 0+1))
def Cj:List bG->af×List Int->af×List Int
 | [],x=>x
 |c::r,x=>Cj r (OY x c)
def K1(l:List bG):af:=(Cj (l.take 200) (af.zero,replicate 9 0)).1
structure A0(x:af×List Int)(i:Nat):Prop where
 fk:x.1.fk
 len:x.2.length=9
 num:∀v∈x.2,0<=v/\v<=i
def Gx(c:bG):1<=nU c/\nU c<=8:=by unfold nU;omega
def OS{q:List Int}{k:Nat}(h:k<q.length):q.getD k 0∈q:=by
 rw[getD_eq_getElem?_getD,fj h];exact dS h
def G5{x:af×List Int}{i:Nat}(c:bG)(h:A0 x i):A0 (OY x c) (i+1):=by
 have hc:=Gx c;have b:=h.len;refine⟨XC h.fk,?_,?_⟩
 ·unfold OY;dsimp only;split
  ·exact b
  ·rw[length_set];exact b
 ·unfold OY;dsimp only;split
  ·intro v a;have:=h.num v a;omega
  ·intro v a;rcases mem_or_eq_of_mem_set a with a|rfl
   ·have:=h.num v a;omega
   ·have:=h.num _ (OS (q:=x.2) (k:=(nU c).toNat) ak);omega
def XS:A0 (af.zero,replicate 9 0) 0:=⟨WD,by simp,λv a=>by
 have:=List.eq_of_mem_replicate a
 omega⟩
theorem OX:∀(l:List bG)(x:af×List Int)(i:Nat),A0 x i->A0 (Cj l x) (i+l.length)
 | [],_,_,h=>h
 |c::r,x,i,h=>by
  have:=OX r _ _ (G5 c h);simp only[Cj,length_cons];rwa[show i+(r.length+1)=i+1+r.length by omega]
def XT(l:List bG):(K1 l).fk:=(OX (l.take 200) _ 0 XS).fk
def ql(q:List Int):List D:=q.map λx=>.I x
def YU(q:List Int):(ql q).length=q.length:=by simp[ql]
def M5(q:List Int):∀d∈ql q,xR d=true:=by simp[ql,xR]
theorem alj{q:List Int}{k:Nat}(h:k<q.length):((ql q).drop k).headD .undef=.int .i64 (q.getD k 0):=by
 rw[drop_eq_getElem_cons (by rw[YU];exact h)];simp[ql,h]
theorem af6{q:List Int}{k:Nat}(h:k<q.length)(v:Int):(ql q).take k++.int .i64 v::(ql q).drop (k+1)=ql (q.set k v):=by
 unfold ql;rw[<-map_take,<-List.map_drop,List.set_eq_take_append_cons_drop,aq h];simp
def UL(n:Int):IntKind.wrap .i64 (1+IntKind.wrap .i64 ((IntKind.wrap .u64 n).tmod 8))=n%8+1:=by
 have h:IntKind.wrap .u64 n=n%18446744073709551616:=by rw[IntKind.wrap_u64]
 rw[h,Int.tmod_eq_emod_of_nonneg ak,gO (x:=n%18446744073709551616%8) ak ak,gO ak ak];omega
def RR(l:List bG)(hlen:l.length<=1000):Sq 4 [] [.sl 17 (l.map bG.cells)] [] (.agg (K1 l).cells):=by
 obtain⟨R,K⟩:=aN (Cj (l.take 200) (af.zero,replicate 9 0));have A:K1 l=R.1:=by rw[K];rfl
 rw[A];clear A;obtain⟨L,J⟩:=aN (l.take 200);rw[<-J]at K;obtain⟨n,X⟩:=aN (L.length);have Q:n<=l.length/\n<=200/\(n=l.length\/n=200):=by
  rw[X,J,fZ];omega
 have z:∀i (h1:i<L.length) (h2:i<l.length),L[i]=l[i]:=λi h1 h2=>by
  subst J;simp
 clear J;refine bp 59 1 [.cell 2 42] mixed func4 ?_;refine s0 ?_;refine bg ?_;refine aF.sK (S:=af×List Int) n [0,2,3,4] [48] (λi _=>[(5,.I i)]) (λi x=>[(64,.box x.1.cells),(80,.box (ql x.2))]) (λi x=>Cj (L.drop i) x=R/\A0 x i) (af.zero,replicate 9 0) ⟨K.symm,XS⟩ ?_ ?_ ?_
 ·have hz:ql (replicate 9 0)=[.I 0,.I 0,.I 0,.I 0,.I 0,.I 0,.I 0,.I 0,.I 0]:=rfl;simp only[go_sem,seval,af.cells,af.zero,hz,pl];exact j8 (by simp[xR])
 ·intro i x N hdi u b;obtain⟨b,G⟩:=b;rw[cg (by omega:i<L.length),z i ak ak]at b;have O:=br (c:=bG.cells) l (by omega:i<l.length);have f:decide ((i:Int)<(l.length:Int))=true:=iy;have o:decide ((i:Int)<200)=true:=iy;have hli:(i:Int)<(l.length:Int):=ak
  obtain⟨c,W⟩:=aN (l[i]);rw[<-W]at O b;simp only[Cj]at b;have a:=G5 c G;obtain⟨s,q⟩:=x;have hq9:q.length=9:=G.len;have M:=Gx c;have j:=UL c.client;have C:=G.num _ (OS (q:=q) (k:=(nU c).toNat) ak);have d:=M7 s (MR q c) G.fk;have D:OY (s,q) c=((Aa s (MR q c)).1,if(Aa s (MR q c)).2.code=6\/(Aa s (MR q c)).2.code=21 then q else q.set (nU c).toNat (q.getD (nU c).toNat 0+1)):=rfl;rw[D]at b a;obtain⟨Z,V⟩:=aN (Aa s (MR q c));rw[<-V]at d b a;clear V D;obtain⟨T,P⟩:=Z;dsimp only at d b a |-;simp only[MR]at d;obtain⟨m,p⟩:=aN (nU c);have j:IntKind.wrap .i64 (1+IntKind.wrap .i64 ((IntKind.wrap .u64 c.client).tmod 8))=m:=by rw[p];exact j
  rw[<-p]at d b a M C;have g:=alj (q:=q) (k:=m.toNat) ak;have t:=af6 (q:=q) (k:=m.toNat) ak;have r:=YU q;obtain⟨v,Y⟩:=aN (q.getD m.toNat 0);rw[<-Y]at d b a C g;have F:IntKind.wrap .i64 (v+1)=v+1:=gO ak ak;have hm9:m<9:=ak
  clear K z Y p G;obtain⟨B,y⟩:=aN (ql q);rw[<-y]at g t r |-;clear W;simp only[af.cells,bG.cells,bF.cells]at d O |-;simp only[go_sem,seval,f,o,O,Int.toNat_natCast,j,g,F,r,Nat.mul_one];refine sc aS d ?_;by_cases U:P.code=6
  ·have H:(P.code==6)=true:=su U;rw[aq (.inl U)]at b a;refine sm (a3 gr H u) ?_;refine bg ?_;refine ah.jT (T,q) N ⟨b,a⟩ ?_;simp only[go_sem,seval,af.cells,<-y];exact j8 (by rw[y];exact M5 q)
  have H:(P.code==6)=false:=su U;by_cases w:P.code=21
  ·have h:(P.code==21)=true:=su w;rw[aq (.inr w)]at b a;refine sm (a4 gr H h u) ?_;refine bg ?_;refine ah.jT (T,q) N ⟨b,a⟩ ?_;simp only[go_sem,seval,af.cells,<-y];exact j8 (by rw[y];exact M5 q)
  have h:(P.code==21)=false:=su w;rw[au ak]at b a;simp only[go_sem,seval,bne,H,h,u,g,F,r,Nat.mul_one];refine bg ?_;refine ah.jT (T,q.set m.toNat (v+1)) N ⟨b,a⟩ ?_;have E:List.take m.toNat B++[.I (v+1)]++drop (m.toNat+1) B=ql (q.set m.toNat (v+1)):=by rw[<-t];simp
  simp only[go_sem,seval,af.cells,t,E];exact j8 (M5 _)
 ·intro x hdx b;have b:=b.1;rw[X,jw]at b;have b:x=R:=b;subst b;rcases Q.2.2 with e|e
  ·have f:decide ((n:Int)<(l.length:Int))=false:=iE;simp only[af.cells];exact dL f
  ·have o:decide ((n:Int)<200)=false:=iE;simp only[af.cells];cases f:decide ((n:Int)<(l.length:Int))
   ·exact dL f
   ·exact dL (a2 f o)
def XK(r:List D)(h:nx [.int .i64,.int .i64,.int .i64,.int .i64,.int .i64,.int .i64,.int .i64,.int .i64,.int .i64,.int .i64,.int .i64,.int .i64,.int .i64,.int .i64,.int .i64,.int .i64,.int .i64] r):∃x:bG,True/\r=x.cells:=by
 simp only[nx,Fit]at h;obtain⟨_,_,rfl,⟨a,rfl,r0⟩,_,_,rfl,⟨a1,rfl,r1⟩,_,_,rfl,⟨a2,rfl,r2⟩,_,_,rfl,⟨a3,rfl,r3⟩,_,_,rfl,⟨a4,rfl,r4⟩,_,_,rfl,⟨a5,rfl,r5⟩,_,_,rfl,⟨a6,rfl,r6⟩,_,_,rfl,⟨a7,rfl,r7⟩,_,_,rfl,⟨a8,rfl,r8⟩,_,_,rfl,⟨a9,rfl,r9⟩,_,_,rfl,⟨a10,rfl,r10⟩,_,_,rfl,⟨a11,rfl,r11⟩,_,_,rfl,⟨a12,rfl,r12⟩,_,_,rfl,⟨a13,rfl,r13⟩,_,_,rfl,⟨a14,rfl,r14⟩,_,_,rfl,⟨a15,rfl,r15⟩,_,_,rfl,⟨a16,rfl,r16⟩,rfl⟩:=h;exact⟨⟨a,a1,a2,a3,a4,a5,a6,a7,a8,a9,a10,a11,a12,a13,a14,a15,a16⟩,aS,rfl⟩
def US{s:af}{c:bG}(h:s.lens):(bn s c).2.OK.length<2^30/\(bn s c).2.falls.length<2^30:=by
 have hl:=KE (c:=c) h;unfold bn bP;split
 ·dsimp only;omega
 ·simp[bF.err]
def aam{s:af}{c:bG}(h:s.fk)(b:∀x∈s.aT,ug x):∀x∈(Aa s c).1.aT,ug x:=by
 unfold Aa;split
 ·exact b
 have d:=Et s c h;intro x a;obtain⟨i,e,a⟩:=jM.1 a;rcases(d i e x a).2 with a|rfl
 ·exact b x a
 ·exact US h.right.lens
theorem K0:∀(l:List bG)(x:af×List Int)(i:Nat),A0 x i->(∀y∈x.1.aT,ug y)->∀y∈(Cj l x).1.aT,ug y
 | [],_,_,_,h=>h
 |c::r,x,i,hx,h=>by
  simp only[Cj];exact K0 r _ _ (G5 c hx) (aam hx.fk h)
def U5(l:List bG):∀y∈(K1 l).aT,ug y:=K0 (l.take 200) _ 0 XS (λy a=>by cases a)
def Jn(t p:Int):af:=⟨t,0,p,⟨[],[],[]⟩,⟨0,[],[]⟩,⟨0,[]⟩,[],[],[],[]⟩
def Wk(t p:Int):(Jn t p).small:=⟨⟨by simp[Jn],by simp[Jn],by simp[Jn]⟩,⟨by simp[Jn],by simp[Jn]⟩,by simp[Jn],by simp[Jn],by simp[Jn],by simp[Jn],by simp[Jn],by simp[Jn]⟩
def zA{ws:List Int}(h:zz ws=true):ws.length<=16:=by
 have e:=(oR (lt:=λa b:Int=>decide (a<b)) (λ{a b c} h1 h2=>by simp only[bz]at h1 h2 |-;omega)).1 h;have:=yL (λx:Int=>x) 1 17 e.2 (λa _ b _ d=>su d) (λx f=>by have:=e.1 x f;simp[within]at this;omega) (by decide);omega
def Bu{l:bu}{c:Int}{ws:List Int}(h:dV l c ws=0):l.okB=true/\ws.length<=16/\ir l c ws=ay (bH l c ws):=by
 refine⟨?_,?_,by rw[ir,aq h]⟩
 ·unfold dV at h;split at h
  ·assumption
  ·cases h
 ·unfold dV at h;split at h
  ·split at h
   ·rename_i a;rw[named_eq,bQ]at a;exact zA a.2
   ·cases h
  ·cases h
def Lf{r:aA}{ws:List Int}(h:gp r ws=0):r.okB=true/\ws.length<=16/\ke r ws=ay (cr r ws):=by
 refine⟨?_,?_,by rw[ke,aq h]⟩
 ·unfold gp at h;split at h
  ·assumption
  ·cases h
 ·unfold gp at h;split at h
  ·split at h
   ·rename_i a;rw[named_eq,bQ]at a;exact zA a.2
   ·cases h
  ·cases h
theorem JB(l:bu)(c n:Int)(ws:List Int)(b:l.bs.length<2^30)(i:ws.length<2^29):Sq 46 [] [.agg l.cells,.int .i64 c,.int .i64 n,.sl 1 (ints ws)] [] (.bI [.sl 4 ((tO l c n ws).map aK.cells),.int .i64 (xS l c n ws)]):=by
 have c1:=xN l c ws b i;have c2:=yC l c ws b ak;simp only[bu.cells]at c1 c2 |-;simp only[tO,xS];refine bp 33 4 [.tmp 8,.tmp 9] mixed func46 ?_;by_cases a:dV l c ws=0
 case neg =>
  have d:(dV l c ws==0)=false:=su a;refine sc aS c1 ?_;simp only[go_sem,seval,bne,d,au a]<;>simp
 obtain⟨e,k2,f⟩:=Bu a
 have c3:=yA 3 c n ws (bH l c ws) (by simp[bH]) ak (λg h=>by
  obtain⟨w,_,rfl⟩:=mem_map.1 h;have:=aP.1 (mQ e ⟨3,w,c⟩);have:=TN e w c
  omega)
 rw[f,a]at c1;rw[aq a,aq a,f];refine sc aS c1 ?_;refine sc aS c2 ?_;exact sZ aS c3
theorem Fa(r:aA)(c n:Int)(ws:List Int)(h:r.jX)(i:ws.length<2^29):Sq 47 [] [.agg r.cells,.int .i64 c,.int .i64 n,.sl 1 (ints ws)] [] (.bI [.sl 4 ((kN r c n ws).map aK.cells),.int .i64 (nS r c n ws)]):=by
 have c1:=yB r ws h i;have c2:=xM r ws h ak;have c4:=Cf c;simp only[aA.cells]at c1 c2 |-;simp only[kN,nS];refine bp 34 4 [.tmp 8,.tmp 9] mixed func47 ?_;by_cases a:gp r ws=0
 case neg =>
  have d:(gp r ws==0)=false:=su a;refine sc aS c1 ?_;simp only[go_sem,seval,bne,d,au a]<;>simp[a]
 obtain⟨b,k2,e⟩:=Lf a
 have c3:=yA 2 c n ws (cr r ws) (by simp[cr]) ak (λg f=>by
  obtain⟨w,_,rfl⟩:=mem_map.1 f;have:=aP.1 (PI b w);have:0<=(fm r w).need:=vI (R:=λm:av=>0<=m.need) (by decide) λm j=>(oY (Sb b m j)).2.2.1
  omega)
 rw[e,a]at c1;rw[aq a,a,e];refine sc aS c1 ?_;refine sc aS c4 ?_;cases b2:within c 0 2
 ·exact kG
 refine sc aS c2 ?_;exact sZ aS c3
theorem Xj{A:Type}{p:A->Bool}:∀{l:List A},l.any p=true->∃k,∃h:k<l.length,(∀j (b:j<l.length),j<k->p l[j]=false)/\p l[k]=true
 | [],h=>by simp at h
 |x::r,h=>by
  cases a:p x
  ·rw[any_cons,a,Bool.false_or]at h;obtain⟨k,e,c,d⟩:=Xj h;refine⟨k+1,su e,λj b hjk=>?_,d⟩;cases j with
   |zero=>exact a
   |succ j=>exact c j (su b) ak
  ·exact⟨0,by simp,λj _ h=>by omega,a⟩
def aee{A:Type}{p:A->Bool}{l:List A}(h:l.any p=false)(j:Nat)(a:j<l.length):p l[j]=false:=by
 rw[any_eq_false]at h;simpa using h _ (dS a)
def abR{A:Type}{p:A->Bool}{l:List A}{k:Nat}(hk:k<l.length)(h:∀j (a:j<l.length),j<k->p l[j]=false):(l.take k).filter (λx=>!p x)=l.take k:=by
 rw[filter_eq_self];intro x b;obtain⟨j,a,rfl⟩:=mem_iff_getElem.1 b;rw[fZ]at a;rw[getElem_take,h j ak ak];rfl
def Spec.Tv{P:Program}{f:FuncId}{g ds a:List D}{d:D}(h:Abs.Spec P f g ds a d)(k:Nat){c:List D}{y:D}(Q:a.getD k .undef≠.undef)(L:(Ab k (sM [(0,d)] (uw 0 a))).t 0=y)
  (B:∀r,(Ab k (sM [(0,d)] (uw 0 a))).o r=c.getD r .undef) (T:∀i,i<g.length->a.getD i .undef=.undef->c.getD i .undef=.undef):Abs.Spec P f g ds c y:=by
 have O:c.getD k .undef=.undef:=by rw[<-B k];simp[Ab]
 refine⟨h.1,?_⟩;intro w C x n E vs z q K u R m;refine(h.2 w C x n E vs z q K u R m).mono ?_;rintro e w' ⟨v,rfl,o⟩;refine⟨v,rfl,o.os,o.tape,o.output,o.size,o.old,o.part,?_⟩;obtain⟨lev,own,S,F,G,H,I,J⟩:=o.rep;have N:Inv w C x S w' lev own S (sM [(0,d)] (uw 0 a)) (λj=>if j=0 then v else Go.undef):=by
  refine⟨⟨o.os,z⟩,o.tape,o.output,o.size,o.old,o.part,F,G,λ_ _ _=>rfl,?_,?_⟩
  ·intro s;show aM _ _ (Abs.look [(0,d)] s);by_cases g:s=0
   ·subst g;simpa[Abs.look]using H
   ·simp only[Abs.look,au g];exact .undef _
  ·intro r;show nj _ _ _ _ _ _ r (Abs.look (uw 0 a) r);rw[o7];simpa using I r
 have b:=(Inv.frz N k).resolve_right (λp=>Q (by
  have p:Abs.look (uw 0 a) k=.undef:=p;rw[o7]at p
  simpa using p))
 refine⟨_,own,lP S k none,b.priv,b.kR,?_,?_,?_⟩
 ·have:=b.pK 0;rw[L]at this;simpa using this
 ·intro r;have:=b.objs r;rwa[B]at this
 ·intro i A l;have:i≠k:=λe=>l (by rw[e];exact O);simp only[lP,this,if_false];exact J i A λM=>l (T i A M)
structure Tf{T U:Type}(f:T->U):Prop where
def aF.ovt{a:(Exit->Env->Prop)->Env->Prop}{Q:Exit->Env->Prop}{e:Env}{T:Type}{os:T->EL}(g:Tf os)(h f:List Nat)(ts:T->EL)(I:T->Prop)(m:T->Nat)(s0:T){c b:EL}
  (i:I s0) (d:Jr e (ts s0++c) (os s0++b))
  (l:∀s,I s->a (mJ (λs=>ts s++c) (λs=>os s++b) I m s Q) (sM (ts s++c) (os s++b)))
  (k:xP e.t h=c:=by simp only[go_sem,seval,seval]<;>exact rfl) (j:xQ e.o f=b:=by simp only[go_sem,seval,seval]<;>exact rfl):aF a Q e:=aF.yN h f ts os I m s0 i d l k j
def gM.aeC{P:Program}{n:Nat}{e:Env}{K:Env->Prop}{ty T:TypeId}{pos:String}{a:Array Edge}{k:Option (Nat×Bool)}{x:Operand}{z c:Nat}{j:Bool}{r lo l:Nat}{R:List (List D)}{zc:List D}(g:Tf λ_:Nat=>R)(q:eH P T=.slice z c j)(t:rd e x=.gq r z lo l)(s:e.o r=.own z R)(f:gy P T=some zc)(h:zc.length=z)(i:∀d∈zc,dK d)
  (b:lo+l<=R.length) (m:l≠0) (p:K (dU e r (.own z (splice R lo (replicate l zc))))):gM P n ⟨none,.call ⟨.builtin .clear,#[x],#[T]⟩,ty,pos,a,k⟩ e K:=gM.Xw q t s f h i b m p
def afe{A:Type}{W E:Prop}{C:A->Prop}(t o:List Nat)(k:Nat)(c:A->List D)(e:E)(n:∀x,C x) (h:Tg t o k->E->(∀x,C x)->(∀(l:List A)(i:Nat)(h:i<l.length),(l.map c).getD i []=c l[i])->W:=by
 intro w s n f;refine s0 ?_;refine aF.wt w cs.length (λi _=>∀j (a:j<cs.length),j<i->p cs[j]=false) (by intros;omega) ?_ ?_
 ·intro i _ q g v b;have f:=f cs i q;have hli:(i:Int)<(cs.length:Int):=ak
  have r:=n cs[i];try simp only[s]at f r
  refine sc (a2 g f) r ?_;cases d:p cs[i]
  ·refine sm (a2 d v) ?_;refine ah.u q ?_ ?_
   ·intro j a hji;rcases dN j i with h|h
    ·exact b j a h
    ·obtain rfl:j=i:=ak
     exact d
   ·exact jq
  ·simp only[go_sem,seval,d,G9 q b d]
 ·intro _ m b
  simp only[go_sem,seval,m,DF λj a=>b j a a]):W:=h ⟨⟩ e n λ_ _ h=>br _ h
def aeK{A:Type}(c:A->List D)(zc:List D)(W Z:List A)(N i:Nat)(a:W.take i=Z)(hN:W.length=N)(b:Z.length=i)(hl:i<=N):∃F,splice (W.map c) i (replicate (N-i) zc)=F/\F.length=N/\Z.map c++replicate (N-Z.length) zc=F:=by
 refine⟨_,?_,?_,rfl⟩
 ·rw[splice,drop_of_length_le (by rw[qE,length_replicate];omega),b,<-a,map_take,append_nil]
 ·rw[cR,qE,length_replicate];omega
def aeM{A:Type}{W E M O P:Prop}{C:A->Prop}(c:A->List D)(z:Nat)(zc:List D)(e:E)(G:∀x,C x)(c1:M)(K:O)(L:P) (h:E->(∀x,C x)->M->O->P->Tf (λs:Nat×Nat×List A=>([(0,.own z (s.2.2.map c))]:EL))->(∀W:List A,Tf λ_:Nat=>W.map c) ->
  (∀(l:List A)(i:Nat)(u:A),l[i]?=some u->(l.map c).getD i []=c u)->(∀(W:List A)(i:Nat)(y:A),(W.map c).set i (c y)=(W.set i y).map c) ->
  (∀(W Z:List A)(N i:Nat),W.take i=Z->W.length=N->Z.length=i->i<=N->∃F,splice (W.map c) i (replicate (N-i) zc)=F/\F.length=N/\Z.map c++replicate (N-Z.length) zc=F)->W:=by
 intro ce G c1 K L tf tr X mS mE;obtain⟨N,b⟩:=aN (l.length);rw[<-b]at hN hB;cases ha:l.any p
 ·obtain⟨rfl,rfl⟩:=hA ha;rw[DF (aee ha)]at c1;exact WQ aS c1
 obtain⟨k,hk,Q,R⟩:=Xj ha;obtain⟨Z,S⟩:=aN (l.filter λx=>!p x);have hB:=hB ha;rw[<-S]at hB;obtain⟨rfl,rfl⟩:=hB;rw[G9 hk Q R]at c1;rw[<-b]at hk;have wk:IntKind.wrap .i64 ((k:Int)+1)=((k+1:Nat):Int):=fQ;have d0:((k:Int) == -1)=false:=by simp<;>omega
 refine sl aS c1 ?_;refine sm (a2 d0 wk) ?_;refine aF.ovt tf [0,1] [] (λs=>[(5,.I ((s.1:Nat):Int)),(6,.I ((s.2.1:Nat):Int))]) (λs=>s.1<s.2.1/\s.2.1<=N/\s.2.2.length=N/\s.2.2.take s.1=(l.take s.2.1).filter (λx=>!p x)/\s.2.2.drop s.2.1=l.drop s.2.1) (λs=>N-s.2.1) (k,k+1,l) ?_ ?_ ?_
 ·refine⟨Nat.lt_succ_self _,hk,b.symm,?_,rfl⟩;show l.take k=(l.take (k+1)).filter _;rw[yy _ ak,abR ak Q,R];simp
 ·exact jq
 rintro⟨i,j,W⟩ ⟨i1,i2,i3,i4,i5⟩;dsimp only at i1 i2 i3 i4 i5;rcases dN j N with hj|hj
 ·have t:decide ((j:Int)<(N:Int))=true:=iy;have Y:IntKind.wrap .i64 ((j:Int)+1)=((j+1:Nat):Int):=fQ;have wi:IntKind.wrap .i64 ((i:Int)+1)=((i+1:Nat):Int):=fQ;have n:j<l.length:=ak
  have a:=yy (λx=>!p x) n;obtain⟨y,q⟩:=aN (l[j]);rw[<-q]at a;have hy:l[j]?=some y:=by rw[q,fj n]
  have w:W[j]?=some y:=by
   have:=congrArg (λz=>z[0]?) i5;simpa only[getElem?_drop,Nat.add_zero,hy]using this
  obtain⟨v,hv⟩:=mm (l:=W) (i:=i) ak;have J:=X W j y w;have V:=X W i v hv;have g:=G y;have m:W.drop (j+1)=l.drop (j+1):=by
   have:=congrArg (drop 1) i5;simpa only[drop_drop]using this
  have o:=mS W i y;try simp only[ce]at J V g o
  cases T:p y
  ·rw[T]at g a;refine sc (a5 i3 t J V (a3 Y wi o)) g ?_;refine bg ?_;refine⟨(i+1,j+1,W.set i y),⟨by show i+1<j+1;omega,by show j+1<=N;omega,by show(W.set i y).length=N;rw[length_set];exact i3,?_,?_⟩,?_,by show N-(j+1)<N-j;omega⟩
   ·show(W.set i y).take (i+1)=(l.take (j+1)).filter λx=>!p x;have ht:(W.set i y).take (i+1)=W.take i++[y]:=by
     rw[take_add_one,take_set_of_le (fS _),getElem?_set_self ak];rfl
    rw[ht,i4,a];simp
   ·show(W.set i y).drop (j+1)=l.drop (j+1);rw[drop_set_of_lt ak];exact m
   ·exact jq
  ·rw[T]at g a;refine sc (a4 i3 t J Y) g ?_;refine⟨(i,j+1,W),⟨by show i<j+1;omega,by show j+1<=N;omega,i3,?_,m⟩,?_,by show N-(j+1)<N-j;omega⟩
   ·show W.take i=(l.take (j+1)).filter λx=>!p x;rw[i4,a];simp
   ·exact jq
 ·have t:decide ((j:Int)<(N:Int))=false:=iE;have d:W.take i=Z:=by rw[i4,S,take_of_length_le ak]
  have f:Z.length=i:=by rw[<-d,fZ];omega
  have wsl:((N:Int)-((i:Nat):Int))=((N-i:Nat):Int):=ak
  refine sm (a2 i3 t) ?_;refine bg ?_;with_reducible refine gM.aeC (tr W) (r:=0) (lo:=i) (l:=N-i) K ?_ ?_ L ?_ ?_ ?_ ?_ ?_
  ·rfl
  ·rfl
  ·rfl
  ·simp[go_sem]
  ·rw[qE];omega
  ·omega
  ·obtain⟨F,H,B,hF⟩:=mE W Z N i d i3 f ak;rw[H,hF];refine sm (a2 B f) ?_
   (with_reducible and_intros)<;>first|exact .dq|omega|skip):W:=h e G c1 K L ⟨⟩ (λ_=>⟨⟩) (λl i u U=>(ng (c:=c) U U).1) (λW i y=>by rw[map_set]) (λW Z N i=>aeK c zc W Z N i)
def aeL{A:Type}{c:A->List D}{z:Nat}{zc:List D}{p:A->Bool}{F:FuncId}{g:D}{l:List A}
  (h:∀f d,(l.any p=false->f=[.own z (l.map c)]/\d=.ref 0)->(l.any p=true->f=[.own z ((l.filter λx=>!p x).map c++replicate (l.length-(l.filter λx=>!p x).length) zc)]/\d=.gq 0 z 0 (l.filter λx=>!p x).length) ->
   Sq F [.own z (l.map c)] [.ref 0,g] f d):Sq F [.own z (l.map c)] [.ref 0,g] [.undef] (.sl z ((l.filter λx=>!p x).map c)):=by
 have a:∀i:Nat,([.undef]:List D).getD i .undef=.undef:=λi=>by rcases i with _|i<;>rfl
 cases b:l.any p
 ·have e:(l.filter λx=>!p x)=l:=by
   rw[filter_eq_self];intro x j;rw[any_eq_false]at b;have:=b x j;simp only[Bool.not_eq_true]at this;rw[this];rfl
  rw[e];exact Spec.Tv (h _ _ (λ_=>⟨rfl,rfl⟩) (λh=>by rw[b]at h;cases h)) 0 sT rfl (λr=>by rcases r with _|r<;>rfl) λi _ _=>a i
 ·have hl:=length_filter_le (λx=>!p x) l;refine Spec.Tv (h _ _ (λh=>by rw[b]at h;cases h) (λ_=>⟨rfl,rfl⟩)) 0 sT ?_ (λr=>by rcases r with _|r<;>rfl) λi _ _=>a i;show nZ z 0 _ (.own z _)=_;rw[nZ,aq ⟨rfl,by simp⟩,drop_zero,take_left' sT]
theorem O4(p:Int->Bool)(g:FuncId)(w:Int)(a:∀x:Int,Sq g [] [.int .i64 x,.bE [.int .i64 w]] [] (.bool (p x)))(cs:List Int)(hc:cs.length<2^60):Sq 207 [] [.sl 1 (cs.map (λx:Int=>[D.int .i64 x])),.fn g [.bE [.int .i64 w]]] [] (.int .i64 (JE p cs)):=by
 refine bp 19 2 [.tmp 4] mixed func207 ?_;exact afe [0,1,7] [] 8 (λx:Int=>[D.I x]) trivial a
theorem OG(p:Int->Bool)(g:FuncId)(w:Int)(a:∀x:Int,Sq g [] [.int .i64 x,.bE [.int .i64 w]] [] (.bool (p x)))(l:List Int)(hN:l.length<2^38):Sq 133 [.own 1 (l.map (λx:Int=>[D.int .i64 x]))] [.ref 0,.fn g [.bE [.int .i64 w]]] [.undef] (.sl 1 ((l.filter λx=>!p x).map (λx:Int=>[D.int .i64 x]))):=by
 refine aeL (zc:=[.I 0]) λhs d hA hB=>?_;have c1:=O4 p g w a l ak;refine bp 42 2 [.tmp 4] mixed func133 ?_;exact aeM (λx:Int=>[D.I x]) 1 [.I 0] aS a c1 al0 al9
theorem O5(p:gC->Bool)(g:FuncId)(w:Int)(a:∀x:gC,Sq g [] [.agg x.cells,.bE [.int .i64 w]] [] (.bool (p x)))(cs:List gC)(hc:cs.length<2^60):Sq 145 [] [.sl 3 (cs.map gC.cells),.fn g [.bE [.int .i64 w]]] [] (.int .i64 (JE p cs)):=by
 refine bp 19 2 [.tmp 4] mixed func145 ?_;exact afe [0,1,7] [] 8 gC.cells gC.cells.eq_1 a
theorem OH(p:gC->Bool)(g:FuncId)(w:Int)(a:∀x:gC,Sq g [] [.agg x.cells,.bE [.int .i64 w]] [] (.bool (p x)))(l:List gC)(hN:l.length<2^38):Sq 56 [.own 3 (l.map gC.cells)] [.ref 0,.fn g [.bE [.int .i64 w]]] [.undef] (.sl 3 ((l.filter λx=>!p x).map gC.cells)):=by
 refine aeL (zc:=[.I 0,.I 0,.I 0]) λhs d hA hB=>?_;have c1:=O5 p g w a l ak;refine bp 42 2 [.tmp 4] mixed func56 ?_;exact aeM gC.cells 3 [.I 0,.I 0,.I 0] gC.cells.eq_1 a c1 alZ al8
theorem O3(p:aY->Bool)(g:FuncId)(w:Int)(a:∀x:aY,Sq g [] [.agg x.cells,.bE [.int .i64 w]] [] (.bool (p x)))(cs:List aY)(hc:cs.length<2^60):Sq 146 [] [.sl 5 (cs.map aY.cells),.fn g [.bE [.int .i64 w]]] [] (.int .i64 (JE p cs)):=by
 refine bp 19 2 [.tmp 4] mixed func146 ?_;exact afe [0,1,7] [] 8 aY.cells aY.cells.eq_1 a
theorem OF(p:aY->Bool)(g:FuncId)(w:Int)(a:∀x:aY,Sq g [] [.agg x.cells,.bE [.int .i64 w]] [] (.bool (p x)))(l:List aY)(hN:l.length<2^38):Sq 60 [.own 5 (l.map aY.cells)] [.ref 0,.fn g [.bE [.int .i64 w]]] [.undef] (.sl 5 ((l.filter λx=>!p x).map aY.cells)):=by
 refine aeL (zc:=[.I 0,.I 0,.I 0,.I 0,.I 0]) λhs d hA hB=>?_;have c1:=O3 p g w a l ak;refine bp 42 2 [.tmp 4] mixed func60 ?_;exact aeM aY.cells 5 [.I 0,.I 0,.I 0,.I 0,.I 0] aY.cells.eq_1 a c1 agw al7
theorem anS{e:Env}(n z:Nat)(a:Bool)(r o:Nat)(k:IntKind)(lo:Int):QJ e (.arr n z a) (.addr r o) (.int k lo) none=.eC r (o+lo.toNat*z) z (n-lo.toNat) (n-lo.toNat):=by
 simp[QJ,FZ,Bw,Wd,SK]
theorem aiU{e:Env}(n z:Nat)(a:Bool)(r o:Nat)(k:IntKind)(lo:Int):qm e (.arr n z a) (.addr r o) (.int k lo) none=(0<=lo/\lo<=n):=by
 simp[qm,WO,FZ,Bw,W6]
theorem aoN{g:List Int}(h:g.length=5):∃a b c d e,g=[a,b,c,d,e]:=by
 match g,h with
 | [a,b,c,d,e],_=>exact⟨a,b,c,d,e,rfl⟩
attribute [go_sem] anS aiU
theorem GP(c aV:Int)(a:List Int)(s:a.length<2^30):Sq 13 [] [.int .i64 c,.int .i64 aV,.sl 1 (ints a)] [] (.bI [.agg (jL c aV a).cells,.int .i64 (jx c aV a)]):=by
 have c1:=OW aV a s;obtain⟨E,b⟩:=aN (jx c aV a);have h:=b;simp only[jL,<-h];clear h;simp only[jx]at b;refine bp 44 3 [.cell 6 88,.tmp 7] mixed func13 ?_;by_cases k:c<0
 ·have d:decide (c<0)=true:=dY k;have e:E=3:=by rw[b];simp[within,k];omega
  rw[e];simp only[go_sem,seval,d,dM.cells]<;>simp
 have i:decide (c<0)=false:=iA k;by_cases o:3<=c
 ·have d:decide (3<=c)=true:=dY o;have e:E=3:=by rw[b];simp[within];omega
  rw[e];simp only[go_sem,seval,i,d,dM.cells]<;>simp
 have n:decide (3<=c)=false:=iA o;by_cases m:a.length=5
 case neg =>
  have d:(((a.length:Nat):Int)==5)=false:=by simp;omega
  have e:E=3:=by rw[b];simp[m]
  rw[e];simp only[go_sem,seval,i,n,bne,az,d,dM.cells]<;>simp
 have q:(((a.length:Nat):Int)==5)=true:=by simp;omega
 simp only[go_sem,seval,i,n,bne,az,q];refine sc aS c1 ?_;by_cases f:iP aV a=0
 case neg =>
  have d:(iP aV a==0)=false:=su f;have j:iP aV a=3:=by
   unfold iP at f |-
   repeat' split
   all_goals first|rfl|omega|simp_all
  have e:E=3:=by rw[b];simp[d]
  rw[e,j];simp only[go_sem,seval,bne,dM.cells]<;>simp
 obtain⟨⟨g1,g2⟩,-,-⟩:=Ci f;have e:E=0:=by
  rw[b,aq];simp only[bQ,ff,within,bz];refine⟨⟨?_,m⟩,?_,f⟩<;>omega
 rw[e,aq f,aq f,f,aq rfl];obtain⟨p,a2,a3,a4,a5,j⟩:=aoN (g:=tD aV a) (by rw[G4,m]);rw[j];simp only[go_sem,seval,ints,map_cons,map_nil];with_reducible refine gM.aaj (z:=1) (r:=192) (off:=2) (l:=5) (c:=5) (ly:=5) (cs:=[.I c,.I aV,.I 0,.I 0,.I 0,.I 0,.I 0,.I (wR aV a)]) (rows:=[[.I p],[.I a2],[.I a3],[.I a4],[.I a5]]) al0 ?_ ?_ ?_ ?_ ?_ ?_
 ·rfl
 ·rfl
 ·exact⟨_,rfl,rfl,by omega,rfl⟩
 ·omega
 ·simp
 refine s0 ?_;all_goals first
  |rfl
  |simp[AW]
theorem JI(l:bu)(id:Int)(g:List aK)(b:l.bs.length<2^28)(a:g.length<2^28):Sq 15 [] [.agg l.cells,.int .i64 id,.sl 4 (g.map aK.cells)] [] (.bI [.agg (iQ l id g).cells,.int .i64 (eK l id g)]):=by
 have h:=MI l id g b a;have e:=post_eq (λ_ h=>tq.2 h) wH (λbs h=>TM.1 h) l id g;rwa[e.1,e.2]at h
def FO(c:Int)(l:List aU):List Int:=pick (λd:aU=>d.cur==c) aU.cu l
def g3(G:Nat->Int)(i:Nat):List D:=[.I (if 0<i then G 0 else 0),.I (if 1<i then G 1 else 0),.I (if 2<i then G 2 else 0)]
def I6(f:Nat->Int):Nat->Nat->Nat
 | 0,i=>i
 |m+1,i=>if f i=0 then I6 f m (i+1)else i
theorem RP(l:List aU)(hl:l.length<2^29):Sq 11 [] [.sl 3 (l.map aU.cells)] [] (.bI [.agg (g3 (λc=>oI (FO c l)) (I6 (λc=>oa (FO c l)) 3 0)),.int .i64 (fD (λc=>oa (FO c l)) 3 0)]):=by
 obtain⟨G,s⟩:∃G:Nat->Int,G=λc:Nat=>oI (FO c l):=⟨_,rfl⟩
 obtain⟨E,r⟩:∃E:Nat->Int,E=λc:Nat=>oa (FO c l):=⟨_,rfl⟩
 rw[<-s,<-r];have y:∀c:Nat,Sq 36 [] [.sl 1 (ints (FO c l))] [] (.bI [.I (G c),.I (E c)]):=λc=>by
  rw[s,r];exact jr (FO c l) (by have:=bN (λd:aU=>d.cur==(c:Int)) aU.cu l;unfold FO;omega)
 obtain⟨Z,B⟩:=aN (I6 E 3 0);obtain⟨R,A⟩:=aN (fD E 3 0);rw[<-B,<-A];clear s r;refine bp 44 1 [.cell 2 80,.tmp 3] mixed func11 ?_;refine s0 ?_;refine aF.wu 3 [0,2,4] [] (λc=>[(11,.I c),(3,.I 0)]) (λc=>[(48,.box (g3 (λ_=>0) 0)),(80,.box (g3 G c))]) (λc=>fD E (3-c) c=R/\I6 E (3-c) c=Z) ⟨A.symm,B.symm⟩ ?_ ?_ ?_
 ·simp only[go_sem,seval,g3]<;>simp
 ·rintro c _ D e w ⟨a,b⟩;have e:decide ((c:Int)<3)=true:=e;obtain⟨m,F⟩:∃m,3-c=m+1:=⟨3-c-1,by omega⟩
  have n:3-(c+1)=m:=ak
  rw[F]at a b;simp only[fD,I6]at a b;have h:=y c;clear y;refine sm e ?_;refine aF.wv l.length [0,2,4,5,11,14,15] [48,80] (λi=>[(3,.I 0),(16,.I i),(6,.ref 464)]) (λi=>[(464,.own 1 (ints (FO c (l.take i))))]) ?_ ?_ ?_
  ·simp only[go_sem,seval,g3]<;>simp[FO,pick,ints]
  ·intro i _ p j o _;obtain⟨x,C,f,hli⟩:=oc (c:=aU.cells) l p;have g:ints (FO c (l.take (i+1)))=ints (FO c (l.take i))++_:=fK (λd:aU=>d.cur==(c:Int)) aU.cu p;have k:(FO c (l.take i)).length<=(l.take i).length:=bN _ _ _;have hlt:(l.take i).length=i:=by simp;omega
   obtain⟨L,z⟩:=aN (FO c (l.take i));rw[<-C]at g;rw[<-z]at g k |-;have hLl:(ints L).length<=i:=by rw[az];omega
   simp only[aU.cells]at f;clear h C z;cases q:x.cur==(c:Int)
   ·simp only[q,iM,if_false,append_nil]at g;refine sm (a4 j f q o) ?_;refine bg ?_;refine ah.v p ?_;simp only[go_sem,seval,g,g3]
   ·simp only[q,if_true]at g;refine sm (a4 j f q o) ?_;refine bg ?_;refine ah.v p ?_;simp only[go_sem,seval,g,g3]
  ·intro _ t _;rw[eu];try refine gf.id ?_
   refine sm t ?_;refine bg ?_;refine aG.gE [464] [] false sT ?_;refine s0 ?_;refine cz.gF h ?_;by_cases q:E c=0
   case neg =>
    have d:(E c==0)=false:=su q;rw[au q]at a b;rw[<-a,<-b];simp only[go_sem,seval,bne,d,g3];all_goals first|rfl|simp[g3]
   rw[aq q]at a b;rw[q];obtain rfl|rfl|rfl:c=0\/c=1\/c=2:=ak
   all_goals
    simp only[g3];refine sm (a2 gr w) ?_;refine bg ?_;refine ah.u D ⟨by rw[n];exact a,by rw[n];exact b⟩ ?_;simp only[go_sem,seval,g3];all_goals rfl
 ·rintro _ e ⟨a,b⟩;have a:(0:Int)=R:=a;have b:3=Z:=b;rw[<-a,<-b];simp only[g3];refine s0 ?_;all_goals first|rfl|simp
theorem Nw(r:aA)(w p:Int)(h:r.jX)(f:r.okB=true)(g:gw r w=true)(s:within p 1 3=true):Sq 16 [] [.agg r.cells,.int .i64 w,.int .i64 p] [.own 3 ((kU r w p).ms.map av.cells)] (.bI [.agg [.ref 0,.sl 12 ((kU r w p).ns.map aE.cells),.sl 4 ((kU r w p).xs.map aD.cells)],.int .i64 0]):=by
 obtain⟨x,t,q⟩:=zL.1 g;have c:=(dQ.1 f).1.2;have o:fm r w=x:=zE c t q;obtain⟨k,n,a⟩:=getElem_of_mem t;have b:∀i (h:i<k),(r.ms[i]'ak).no<(x.put p).no:=λi l=>by
  have:=Gg.1 c i k ak n l;rw[a]at this;exact this
 have v:kU r w p=⟨r.ms.set k (x.put p),r.ns,r.xs⟩:=by
  have e:CI r w p=0:=by simp only[CI,f,g,s];rfl
  rw[kU,aq e,Db n (λj hj m he=>by have:=b j m;have:(x.put p).no=x.no:=rfl;omega) (by rw[a];exact q),a]
 rw[v];have c1:=tZ r h.small;have c2:=lA r w h.small;have c3:=iD p 1 3;have c4:=Nx r h;have d:=H8 r.ms (x.put p) n b (by rw[a];rfl) h.1;rw[f]at c1;rw[o,g]at c2;rw[s]at c3;obtain⟨M,u⟩:=aN ((r.ms.set k (x.put p)).map av.cells);rw[<-u]at d |-;simp only[if_true]at c1;simp only[aA.cells,av.cells,av.put]at c1 c2 c4 d |-;refine bp 43 3 [.cell 6 30,.tmp 7] mixed func16 ?_;refine sc aS c1 ?_;refine sc aS c2 ?_;refine sc aS c3 ?_;refine so aS c4 ?_;exact sgx [592] aS d
theorem J8(r:aA)(w p:Int)(h:r.jX)(a:r.okB=true)(b:gw r w=true)(c:within p 1 3=true):Sq 16 [] [.agg r.cells,.int .i64 w,.int .i64 p] [] (.bI [.agg (kU r w p).cells,.int .i64 0]):=by
 refine Spec.frozen (Nw r w p h a b c) [0] rfl ?_;intro r;rcases r with _|r<;>rfl
theorem Kf(w:Int)(x:gC):Sq 58 [] [.agg x.cells,.bE [.int .i64 w]] [] (.bool (x.who==w)):=by
 simp only[gC.cells];refine bp 8 2 [.tmp 3] mixed func58 ?_;simp only[go_sem,seval];all_goals(with_reducible and_intros)<;>first|exact .dq|omega|skip
theorem Kg(w:Int)(x:aY):Sq 62 [] [.agg x.cells,.bE [.int .i64 w]] [] (.bool (x.who==w||x.src==w)):=by
 simp only[aY.cells];refine bp 15 2 [.tmp 3] mixed func62 ?_;cases q:x.who==w<;>simp only[go_sem,seval,q]<;>simp
theorem GW{A:Type}(p:A->Bool):∀l:List A,(l.flatMap λx=>if p x then[]else[x])=l.filter λx=>!p x
 | []=>rfl
 |x::r=>by
  rw[flatMap_cons,GW p r,filter_cons];cases p x<;>rfl
def R2(w:Int)(l:List gC):rW w l=l.filter λx=>!(x.who==w):=GW (λx:gC=>x.who==w) l
def RY(w:Int)(l:List aY):rV w l=l.filter λx=>!(x.who==w||x.src==w):=GW (λx:aY=>x.who==w||x.src==w) l
theorem B5(s:af)(w:Int)(a:s.small)(b:∀x∈s.aT,ug x):Sq 17 [] [.agg s.cells,.int .i64 w] [] (.agg (af.cells { s with ps:=rW w s.ps,calls:=dR s.calls [w],aW:=rV w s.aW })):=by
 have c1:=B2 s.bf.bs a.bf;have c2:=RE s.ps a.ps;have c:=OH (λx=>x.who==w) 58 w (Kf w) s.ps (by have:=a.ps;omega);rw[<-R2]at c;have c3:=NZ s.calls [w] a.calls sT;have c4:=B3 s.aW a.aW;have d:=OF (λx=>x.who==w||x.src==w) 62 w (Kg w) s.aW (by have:=a.aW;omega);rw[<-RY]at d;have e:=E2 s.aT a.aT b;simp only[af.cells,pl]at c2 |-;simp only[ints,map_cons,map_nil]at c3;refine bp 34 2 [.cell 4 42] mixed func17 ?_;refine sc aS c1 ?_;refine so aS c2 ?_;refine aG.gE [64] [224] false sT ?_;refine s0 ?_;refine cz.gF c ?_;refine s0 ?_;refine aG.gE [336] [] false sT ?_;refine s0 ?_;refine cz.gF c3 ?_;refine so aS c4 ?_;refine sg [416] aS d ?_;try simp only[go_sem,seval]
 exact sZ aS e
