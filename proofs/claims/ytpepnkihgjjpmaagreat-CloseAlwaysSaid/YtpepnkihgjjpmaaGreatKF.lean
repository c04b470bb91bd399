/- Parts. -/
import Derived.Test.YtpepnkihgjjpmaaGreatKC
import Derived.Test.YtpepnkihgjjpmaaGreatKD
set_option linter.all false
set_option maxHeartbeats 4000000
set_option maxRecDepth 16000
namespace Go.Proofs.YtpepnkihgjjpmaaGreat
open Go.Abs Tryz
open List
def kk(s:af)(y:s.small)(I:s.fB):Sq 173 [] [.agg s.cells] [] (.bool (bM s)):=by
 have x:=y.aj.small;have O:=je s.now 0 1099511627776;have a2:=je s.day 0 1099511627776;have a3:=je s.phase 0 2;have c2:=ga s.aj x;have c3:=kV s.book y.book I.qs;have c4:=lz s.bf y.bf I.bs;have Q:=sj s.ps (by have:=y.ps;omega);have S:=vl s.calls y.calls;have B:=λn=>qX s n x;have J:=λn=>Is s n x;have W:=λn=>pq s.aj n x;have T:=Nc s y.aW;have U:=J1 s y.aT;obtain⟨hb1,hb2⟩:=y.book;have hpl:=y.ps;have hcl:=y.calls;have w:=λh n=>abb (r:=s.aj) h n;simp only[aA.cells,aH.cells,bu.cells]at c2 c3 c4 W;simp only[af.cells]at B J T U |-;clear y I x;refine bp 197 1 [.tmp 2] mixed func173 ?_;refine sc aS O ?_;cases L:within s.now 0 1099511627776
 ·have e:bM s=false:=by simp[bM,rR,L]
  exact dL e
 refine sc aS a2 ?_;cases M:within s.day 0 1099511627776
 ·have e:bM s=false:=by simp[bM,rR,M]
  exact dL e
 refine sc aS a3 ?_;cases N:within s.phase 0 2
 ·have e:bM s=false:=by simp[bM,rR,N]
  exact dL e
 refine sc aS c2 ?_;cases k:s.aj.okB
 ·have e:bM s=false:=by simp[bM,k]
  exact dL e
 refine sc aS c3 ?_;cases t:s.book.okB
 ·have e:bM s=false:=by simp[bM,t]
  exact dL e
 refine sc aS c4 ?_;cases C:s.bf.okB
 ·have e:bM s=false:=by simp[bM,C]
  exact dL e
 refine sc aS Q ?_;cases D:jB s.ps
 ·have e:bM s=false:=by simp[bM,D]
  exact dL e
 refine sc aS S ?_;cases E:pY dh cq s.calls
 ·have e:bM s=false:=by simp[bM,E]
  exact dL e
 have w:=w k;have e:bM s=(qC s&&(!decide (32<(s.aW.length:Int))&&(s.aW.all lS&&pY iL fV s.aT))):=by simp only[bM,rR,L,M,N,k,t,C,D,E,cm]
 rw[e];clear e O a2 a3 c2 c3 c4 Q S L M N k t C D E;obtain⟨R,G⟩:=aN ((!decide (32<(s.aW.length:Int))&&(s.aW.all lS&&pY iL fV s.aT)));rw[<-G];refine s0 ?_;refine aF.w1 s.book.qs.length 3 [1] [32] (λi _=>∀j (H:j<s.book.qs.length),j<i->HV s.aj s.book.qs[j]=true) (by intros;omega) ?_ ?_
 ·intro i _ m q A l;have v:=br (c:=aB.cells) s.book.qs m;have z:(i:Int)<(s.book.qs.length:Int):=ak
  have e0:=oP m l;have o:HV s.aj s.book.qs[i]=false->(qC s&&R)=false:=λh=>by simp[qC,wI m h]
  simp only[HV,w]at o;simp only[aB.cells]at v;refine sc (a2 q v) (B s.book.qs[i].who) ?_;cases b:bD s.aj s.book.qs[i].who==0
  case true =>
   have:=o (by simp[b]);refine sm (a2 b this) ?_;exact Si
  cases k:bD s.aj s.book.qs[i].who==3
  case true =>
   have:=o (by simp[k]);refine sm (a3 b k this) ?_;exact Si
  refine sc (a3 b k v) (J s.book.qs[i].inst) ?_;cases t:bJ s.aj s.book.qs[i].inst
  ·have:=o (by simp[t]);exact dL this
  refine sm A ?_;refine ah.u m (e0 (by simp only[HV,w,b,k,t];rfl)) ?_;exact jq
 intro _ f l;have p:=sG l;have V:(qC s&&R)=((s.book.ts.all (Ah s.aj)&&(s.ps.all (yS s.aj)&&s.calls.all (uA s.aj)))&&R):=by simp[qC,p]
 rw[V];clear V p l;refine sm f ?_;clear f;refine aF.w1 s.book.ts.length 5 [1] [32] (λi _=>∀j (H:j<s.book.ts.length),j<i->Ah s.aj s.book.ts[j]=true) (by intros;omega) ?_ ?_
 ·intro i _ m q A l;have v:=br (c:=aR.cells) s.book.ts m;have z:(i:Int)<(s.book.ts.length:Int):=ak
  have e0:=oP m l;have o:Ah s.aj s.book.ts[i]=false->((s.book.ts.all (Ah s.aj)&&(s.ps.all (yS s.aj)&&s.calls.all (uA s.aj)))&&R)=false:=λh=>by simp[wI m h]
  simp only[Ah]at o;simp only[aR.cells]at v;refine sc (a2 q v) (B s.book.ts[i].jH) ?_;cases b:bD s.aj s.book.ts[i].jH==0
  case true =>
   have:=o (by simp[b]);refine sm b ?_;exact this.symm
  refine sc (a2 b v) (B s.book.ts[i].gK) ?_;cases k:bD s.aj s.book.ts[i].gK==0
  case true =>
   refine sm k ?_;exact(o (by simp[k])).symm
  refine sc (a2 k v) (J s.book.ts[i].inst) ?_;cases t:bJ s.aj s.book.ts[i].inst
  ·refine s0 ?_;exact(o (by simp[t])).symm
  refine sm A ?_;refine ah.u m (e0 (by simp only[Ah,b,k,t];rfl)) ?_;exact jq
 intro _ f l;have p:=sG l;rw[p,cm];clear p l;have hpln:(pl s.ps).length=s.ps.length:=nG s.ps;refine sm f ?_;clear f;refine aF.w1 s.ps.length 6 [1] [32] (λi _=>∀j (H:j<s.ps.length),j<i->yS s.aj s.ps[j]=true) (by intros;omega) ?_ ?_
 ·intro i _ m q A l;have v:=qh s.ps m;have z:(i:Int)<(s.ps.length:Int):=ak
  have e0:=oP m l;have o:yS s.aj s.ps[i]=false->((s.ps.all (yS s.aj)&&s.calls.all (uA s.aj))&&R)=false:=λh=>by simp[wI m h]
  have e2:yS s.aj s.ps[i]=((!(bD s.aj s.ps[i].who==0)&&!(bD s.aj s.ps[i].who==3))&&nq s.aj s.ps[i].bT):=by simp only[yS,w]
  have p:=W s.ps[i].bT;obtain⟨g,X⟩:=aN (jj aD.a s.ps[i].bT ⟨0,0,0,0⟩ s.aj.xs);have F:decide (0<=lO aD.a s.ps[i].bT s.aj.xs)=nq s.aj s.ps[i].bT:=rfl;rw[<-X,F]at p;simp only[aD.cells]at p;rw[e2]at e0 o;clear e2;refine sc (a2 q v) (B s.ps[i].who) ?_;refine sc aS p ?_;cases b:bD s.aj s.ps[i].who==0
  case true =>
   refine sm b ?_;refine bg ?_;exact(o (by simp[b])).symm
  cases k:bD s.aj s.ps[i].who==3
  case true =>
   refine sm (a2 b k) ?_;refine bg ?_;exact(o (by simp[k])).symm
  cases t:nq s.aj s.ps[i].bT
  ·refine sm (a3 b k t) ?_;refine bg ?_;exact(o (by simp[t])).symm
  refine sm (a4 b k t A) ?_;refine bg ?_;refine ah.u m (e0 (by simp[b,k,t])) ?_;exact jq
 intro _ f l;have p:=sG l;rw[p,cm];clear p l;refine sm f ?_;clear f;refine aF.w1 s.calls.length 10 [1] [32] (λi _=>∀j (H:j<s.calls.length),j<i->uA s.aj s.calls[j]=true) (by intros;omega) ?_ ?_
 ·intro i _ m q A l;have v:=br (c:=aI.cells) s.calls m;have z:(i:Int)<(s.calls.length:Int):=ak
  have e0:=oP m l;have o:uA s.aj s.calls[i]=false->(s.calls.all (uA s.aj)&&R)=false:=λh=>by simp[wI m h]
  simp only[aI.cells]at v;refine sc (a2 q v) (B s.calls[i].who) ?_;cases b:bD s.aj s.calls[i].who==1
  ·refine sm (a2 gr b) ?_;exact(o b).symm
  refine sm (a3 gr b A) ?_;refine ah.u m (e0 b) ?_;exact jq
 intro _ f l;have p:=sG l;rw[p,cm,G,<-Bool.and_assoc];clear p l G;refine sc f T ?_;cases b7:(!decide (32<(s.aW.length:Int))&&s.aW.all lS)
 ·simp only[go_sem,seval,cZ]
 refine s0 ?_;refine aG.bC U ?_;simp only[go_sem,seval,cm]
def nA(r:aA)(n:Int):aD:=jj aD.a n ⟨0,0,0,0⟩ r.xs
def rD(r:aA)(a:aD):Int:=if r.okB then(if a.ok&&!(nq r a.a&&!((nA r a.a).b==a.b))then 0 else 3)else 14
def MC(r:aA)(a:aD)(i:Nat):List aD:=if(i:Int)+1==a.a then[a]else if nq r ((i:Int)+1)then[nA r ((i:Int)+1)]else[]
def tG(r:aA)(a:aD):aA:=if rD r a=0 then⟨r.ms,r.ns,pQ (MC r a) 6⟩else .none
def XX(r:aA)(m:aD)(i:Nat):(MC r m i).length<=1:=by
 unfold MC;split
 ·simp
 ·split<;>simp
def Qg(r:aA)(a:aD)(h:r.jX):Sq 67 [] [.agg r.cells,.agg a.cells] [.own 4 ((tG r a).xs.map aD.cells)] (.bI [.agg [.sl 3 ((tG r a).ms.map av.cells),.sl 12 ((tG r a).ns.map aE.cells),.ref 0],.int .i64 (rD r a)]):=by
 have c1:=ga r h.small;have c2:=vk a;have c3:∀n,Sq 157 [] [.agg r.cells,.int .i64 n] [] (.bI [.agg (nA r n).cells,.bool (nq r n)]):=λn=>pq r n h.small;have c4:=sv r h;simp only[aA.cells]at c1 c3 c4 |-;simp only[aD.cells]at c2;have c:=c3 a.a;obtain⟨g,l⟩:=aN (nA r a.a);rw[<-l]at c;simp only[aD.cells]at c;refine bp 68 2 [.cell 4 30,.tmp 5] mixed func67 ?_;simp only[go_sem,seval,aD.cells];refine sc aS c1 ?_;cases s:r.okB
 ·have e:rD r a=14:=by simp[rD,s]
  simp only[go_sem,seval,tG,e]<;>simp[aA.none]
 refine sc aS c ?_;refine sc aS c2 ?_;cases t:a.ok
 ·have e:rD r a=3:=by simp[rD,s,t]
  simp only[go_sem,seval,tG,e]<;>simp[aA.none]
 cases f:nq r a.a&&!(g.b==a.b)
 case true =>
  have e:rD r a=3:=by simp only[rD,s,t,<-l,f];rfl
  simp only[bQ,gD]at f;simp only[go_sem,seval,tG,e,f.1,f.2,bne,Bool.not_false]<;>simp[aA.none]
 have e:rD r a=0:=by simp only[rD,s,t,<-l,f];rfl
 have hfin:∀{Q:Prop},Q->Q:=λq=>q;cases m:nq r a.a<;>cases o:g.b==a.b<;>(try(rw[m,o]at f;exact absurd f (by decide)))
 all_goals simp only[go_sem,seval,tG,e,m,o,bne]
 all_goals(with_reducible and_intros)<;>first|exact .dq|omega|skip
 all_goals refine aG.bC c4 ?_
 all_goals clear c1 c2 c4 c l m o f
 all_goals simp only[go_sem,seval]
 all_goals(with_reducible and_intros)<;>first|exact .dq|omega|skip
 all_goals refine aF.wv 6 [2,3,4,8] [48,64,80] (λi=>[(9,.int .i64 ((i:Int)+1))]) (λi=>[(144,.box [.sl 3 (r.ms.map av.cells),.sl 12 (r.ns.map aE.cells),.ref 1056]),(1056,.own 4 ((pQ (MC r a) i).map aD.cells))]) ?_ ?_ ?_
 all_goals try(simp only[go_sem,seval,mw]<;>simp;done)
 all_goals
  intro i _ z _ _ _;have w:decide ((i:Int)+1<=6)=true:=iy;have y:IntKind.wrap .i64 ((i:Int)+1+1)=((i+1:Nat):Int)+1:=fQ;have p:=ji (MC r a) i;have A:=lX (XX r a) i;obtain⟨L,u⟩:=aN (pQ (MC r a) i);obtain⟨k,x⟩:=aN ((i:Int)+1);have j:=c3 k;obtain⟨g,l⟩:=aN (nA r k);rw[<-u]at p A |-;simp only[MC,<-x]at p;rw[<-l]at j p;rw[<-x]at w y |-;simp only[aD.cells]at j;clear c3 u;refine sc w j ?_
  cases o:k==a.a<;>cases m:nq r k<;>(
   simp only[m,o]at p;simp only[go_sem,seval,m,o,y,cR];refine bg ?_;try refine ah.v z ?_
   try simp only[go_sem,seval,p])
  all_goals simp
def Ni(r:aA)(a:aD)(h:r.jX):Sq 67 [] [.agg r.cells,.agg a.cells] [] (.bI [.agg (tG r a).cells,.int .i64 (rD r a)]):=by
 refine Spec.frozen (Qg r a h) [0] rfl ?_;intro r;rcases r with _|r<;>rfl
def zu{A:Type}(no:A->Int)(n:Int)(f:A->A):List A->List A
 | []=>[]
 |x::r=>if no x=n then f x::r else x::zu no n f r
theorem Db{A:Type}{no:A->Int}{n:Int}{f:A->A}:∀{xs:List A} {i:Nat} (h:i<xs.length),(∀j (b:j<xs.length),j<i->no xs[j]≠n)->no xs[i]=n->zu no n f xs=xs.set i (f xs[i])
 | [],i,h,_,_=>by simp at h
 |x::r,0,h,_,a=>by
  have a:no x=n:=a;simp[zu,a]
 |x::r,i+1,h,hn,a=>by
  have c:no x≠n:=hn 0 sT ak;have g:=Db (f:=f) (xs:=r) (i:=i) (su h) (λj b hji=>hn (j+1) (su b) ak) a;simp only[zu,au c,g,getElem_cons_succ,set_cons_succ]
def KP{A:Type}{no:A->Int}{n:Int}{xs:List A}{i:Nat}(b:∀j (a:j<xs.length),j<i->no xs[j]≠n)(h:i<xs.length)(c:(no xs[i]==n)=false):∀j (a:j<xs.length),j<i+1->no xs[j]≠n:=by
 intro j a hji;rcases dN j i with h|h
 ·exact b j a h
 ·obtain rfl:j=i:=ak
  simpa using c
def AM(r:aA)(n p:Int):Int:=if r.okB then(if bJ r n then(if within p 1 1073741824 then 0 else 3)else 10)else 14
def aE.told(p:Int)(x:aE):aE:={ x with set:=p }
def AN(r:aA)(n p:Int):aA:=if AM r n p=0 then⟨r.ms,zu aE.no n (aE.told p) r.ns,r.xs⟩else .none
def Qo(r:aA)(n p:Int)(h:r.jX):Sq 169 [] [.agg r.cells,.int .i64 n,.int .i64 p] [.own 12 ((AN r n p).ns.map aE.cells)] (.bI [.agg [.sl 3 ((AN r n p).ms.map av.cells),.ref 0,.sl 4 ((AN r n p).xs.map aD.cells)],.int .i64 (AM r n p)]):=by
 have c1:=ga r h.small;have c4:=Jc r h;have B:=bK p 1 1073741824;have hl:=h.2.1;simp only[aA.cells]at c1 c4 |-;refine bp 43 3 [.cell 6 30,.tmp 7] mixed func169 ?_;refine sc aS c1 ?_;cases y:r.okB
 ·have e:AM r n p=14:=by simp[AM,y]
  simp only[go_sem,seval,AN,e]<;>simp[aA.none]
 have e:AM r n p=if bJ r n then(if within p 1 1073741824 then 0 else 3)else 10:=by simp[AM,y]
 simp only[AN];rw[e];clear e c1;refine so aS c4 ?_;refine aF.w1 r.ns.length 9 [1,2,6,8] [112,144,257] (λi _=>∀j (s:j<r.ns.length),j<i->r.ns[j].no≠n) (by intros;omega) ?_ ?_
 ·intro i _ g o v b;obtain⟨x,w,t,hli⟩:=oc (c:=aE.cells) r.ns g;have a:=KP b g;rw[<-w]at a;simp only[aE.cells]at t;simp only[go_sem,seval,o,t];refine bg ?_;cases A:x.no==n
  ·simp only[go_sem,seval,v];refine ah.u g (a A) ?_;simp only[go_sem,seval]
  have k:r.ns[i].no=n:=by rw[<-w];simpa using A
  obtain⟨C,m⟩:=mz (z:=aE.zero) g b k;have D:=Db (f:=aE.told p) g b k;have l:bJ r n=true:=by simp[bJ,m]
  rw[l];refine sc aS B ?_;cases b3:within p 1 1073741824
  ·simp only[go_sem,seval]<;>simp[aA.none]
  rw[D,<-w];simp only[go_sem,seval,t];refine bg ?_;all_goals simp[aE.told,map_set]
 ·intro _ q b;obtain⟨C,m⟩:=j7 (z:=aE.zero) (λj s=>b j s s);have l:bJ r n=false:=by simp[bJ,m]
  rw[l];simp only[go_sem,seval,q]<;>simp[aA.none]
def Nr(r:aA)(n p:Int)(h:r.jX):Sq 169 [] [.agg r.cells,.int .i64 n,.int .i64 p] [] (.bI [.agg (AN r n p).cells,.int .i64 (AM r n p)]):=by
 refine Spec.frozen (Qo r n p h) [0] rfl ?_;intro r;rcases r with _|r<;>rfl
def CI(r:aA)(n p:Int):Int:=if r.okB then(if gw r n then(if within p 1 3 then 0 else 3)else 10)else 14
def av.put(p:Int)(x:av):av:={ x with state:=p }
def kU(r:aA)(n p:Int):aA:=if CI r n p=0 then⟨zu av.no n (av.put p) r.ms,r.ns,r.xs⟩else .none
theorem SB(r:aA)(n p:Int)(h:r.jX):Sq 183 [] [.agg r.cells,.int .i64 n,.int .i64 p] [.own 3 ((kU r n p).ms.map av.cells)] (.bI [.agg [.ref 0,.sl 12 ((kU r n p).ns.map aE.cells),.sl 4 ((kU r n p).xs.map aD.cells)],.int .i64 (CI r n p)]):=by
 have c1:=ga r h.small;have c4:=SZ r h;have B:=bK p 1 3;have hl:=h.1;simp only[aA.cells]at c1 c4 |-;refine bp 43 3 [.cell 6 30,.tmp 7] mixed func183 ?_;refine sc aS c1 ?_;cases y:r.okB
 ·have e:CI r n p=14:=by simp[CI,y]
  simp only[go_sem,seval,kU,e]<;>simp[aA.none]
 have e:CI r n p=if gw r n then(if within p 1 3 then 0 else 3)else 10:=by simp[CI,y]
 simp only[kU];rw[e];clear e c1;refine so aS c4 ?_;refine aF.w1 r.ms.length 9 [1,2,6,8] [112,144,256] (λi _=>∀j (s:j<r.ms.length),j<i->r.ms[j].no≠n) (by intros;omega) ?_ ?_
 ·intro i _ g o v b;obtain⟨x,w,t,hli⟩:=oc (c:=av.cells) r.ms g;have a:=KP b g;rw[<-w]at a;simp only[av.cells]at t;refine sm (a2 o t) ?_;refine bg ?_;cases A:x.no==n
  ·refine sm v ?_;refine ah.u g (a A) ?_;exact jq
  have k:r.ms[i].no=n:=by rw[<-w];simpa using A
  obtain⟨C,m⟩:=mz (z:=av.zero) g b k;have D:=Db (f:=av.put p) g b k;have l:gw r n=true:=by simp[gw,m]
  rw[l];refine sc aS B ?_;cases b3:within p 1 3
  ·simp only[go_sem,seval]<;>simp[aA.none]
  rw[D,<-w];refine sm t ?_;refine bg ?_;all_goals simp[av.put,map_set]
 ·intro _ q b;obtain⟨C,m⟩:=j7 (z:=av.zero) (λj s=>b j s s);have l:gw r n=false:=by simp[gw,m]
  rw[l];simp only[go_sem,seval,q]<;>simp[aA.none]
theorem EJ(r:aA)(n p:Int)(h:r.jX):Sq 183 [] [.agg r.cells,.int .i64 n,.int .i64 p] [] (.bI [.agg (kU r n p).cells,.int .i64 (CI r n p)]):=by
 refine Spec.frozen (SB r n p h) [0] rfl ?_;intro r;rcases r with _|r<;>rfl
def rJ{A:Type}(f:A->A)(xs:List A)(i:Nat):List A:=(xs.take i).map f++xs.drop i
def DS{A:Type}(f:A->A)(xs:List A):rJ f xs 0=xs:=by simp[rJ]
def Cs{A:Type}(f:A->A)(xs:List A):rJ f xs xs.length=xs.map f:=by simp[rJ]
def vS{A:Type}(f:A->A)(xs:List A)(i:Nat):(rJ f xs i).length=xs.length:=by simp[rJ];omega
def FP{A:Type}(f:A->A){xs:List A}{i:Nat}(h:i<xs.length):(rJ f xs i)[i]'(by rw[vS];exact h)=xs[i]:=by
 have hl:((xs.take i).map f).length=i:=by simp;omega
 simp only[rJ];rw[getElem_append_right ak];simp[Nat.min_eq_left (Nat.le_of_lt h)]
def Ct{A:Type}(f:A->A){xs:List A}{i:Nat}(h:i<xs.length):(rJ f xs i).set i (f xs[i])=rJ f xs (i+1):=by
 have a:((xs.take i).map f).length=i:=by simp;omega
 simp only[rJ];rw[set_append_right _ _ ak,a,Nat.sub_self,drop_eq_getElem_cons h,set_cons_zero,jU h,jF,dz];rfl
def Vs{A:Type}(f:A->A){xs:List A}{i:Nat}(h:i<xs.length)(a:f xs[i]=xs[i]):rJ f xs (i+1)=rJ f xs i:=by
 rw[<-Ct f h,a]
 conv=>lhs;rw[<-FP f h]
 exact set_getElem_self _
def aE.vo(x:aE):aE:=if x.set==0 then x else{ x with aL:=x.set,set:=0 }
def Q3(r:aA):aA:=⟨r.ms,r.ns.map aE.vo,r.xs⟩
def Qq(r:aA)(h:r.jX):Sq 177 [] [.agg r.cells] [.own 12 (r.ns.map aE.vo |>.map aE.cells)] (.agg [.sl 3 (r.ms.map av.cells),.ref 0,.sl 4 (r.xs.map aD.cells)]):=by
 have c4:=Jc r h;have hl:=h.2.1;simp only[aA.cells]at c4 |-;refine bp 38 1 [.cell 2 30] mixed func177 ?_;refine so aS c4 ?_;refine bg ?_;refine aF.wv r.ns.length [2,3] [48] (λi=>[(4,.I i)]) (λi=>[(64,.box [.sl 3 (r.ms.map av.cells),.ref 368,.sl 4 (r.xs.map aD.cells)]),(368,.own 12 ((rJ aE.vo r.ns i).map aE.cells))]) ?_ ?_ ?_
 ·simp only[go_sem,seval,DS]<;>simp
 ·intro i _ g p l _;have b:=vS aE.vo r.ns i;have hi2:i<(rJ aE.vo r.ns i).length:=ak
  have j:=br (c:=aE.cells) (rJ aE.vo r.ns i) hi2;have o:=FP aE.vo g;have f:=Ct aE.vo g;have a:=Vs aE.vo g;have hli:(i:Int)<(r.ns.length:Int):=ak
  obtain⟨x,t⟩:=aN (r.ns[i]);rw[o]at j;rw[<-t]at j f a;obtain⟨M,s⟩:=aN (rJ aE.vo r.ns i);rw[<-s]at j f a b |-;simp only[aE.cells]at j;refine sm (a3 b p j) ?_;refine bg ?_;cases m:x.set==0
  ·have f:M.set i { x with aL:=x.set,set:=0 }=rJ aE.vo r.ns (i+1):=by rw[<-f];simp only[aE.vo,m];rfl
   have k:∀Z,((M.map aE.cells).set i Z).getD i []=Z:=λZ=>by simp[b,g]
   refine sm (a5 gr m b j (a2 l k)) ?_
   and_intros<;>first|exact .dq|omega|skip
   all_goals first
    | (simp only[length_set,qE];omega)
    | (refine ah.v g ?_
       simp only[go_sem,seval,<-f,map_set,set_set,k])
  ·have a:=a (by simp[aE.vo,m]);refine sm (a3 gr m l) ?_;refine ah.v g ?_;simp only[go_sem,seval,a]
 ·intro _ q _;have b:=vS aE.vo r.ns r.ns.length;simp only[go_sem,seval,b,q,Cs]
def I7 : Array Value -> Sem Value := (Extern.MathBitsCarry.rows.getD 1 ("", fun _ => pure (.tuple #[]))).2
def abE{P:Program}(x y b:Nat)(hb:b<=1)(w:World):(I7 #[.int .u64 x,.int .u64 y,.int .u64 b]).run P w=.ok (.tuple #[.int .u64 (((x+18446744073709551616-y-b)%18446744073709551616:Nat):Int),.int .u64 ((if x<y+b then 1 else 0:Nat):Int)]) w:=by
 have:b=0\/b=1:=ak
 rcases this with rfl|rfl<;>rfl
theorem QS:Extern.find Tryz.f301=some I7:=cQ
theorem QT:Extern.findNext Tryz.f301=none:=cQ
section
variable{P:Program}{n:Nat}{e:Env}{K:Env->Prop}{ty:TypeId}{pos:String}{after:Array Edge}{gu:Option (Nat×Bool)}{d:Nat}
def alS {f x y c : Operand} {k : FuncId} {fn : Func} {ts : Array TypeId} {i j m : Nat} (hf : rd e f = .fn k []) (hk : P.funcs[k]? = some fn) (hname : (fn.name == "runtime.NumGoroutine") = false) (hb : fn.body.isNone = true) (hn : Extern.findNext fn = none) (he : Extern.find fn = some I7)
  (hx:rd e x=.int .u64 i) (hy:rd e y=.int .u64 j) (hc:rd e c=.int .u64 m) (h4:m<=1) (hd:d<n) (hK:K (ck e d (.bI [.int .u64 (((i+18446744073709551616-j-m)%18446744073709551616:Nat):Int),.int .u64 ((if i<j+m then 1 else 0:Nat):Int)]))) :
  gM P n ⟨some d,.call ⟨.value f,#[x,y,c],ts⟩,ty,pos,after,gu⟩ e K:=by
 intro w0 l0 G S0 w lev own S a next Q h hnn hdf hnext
 have hof:=h.BJ a rfl f;have ho1:=h.BJ a rfl x;have ho2:=h.BJ a rfl y;have ho3:=h.BJ a rfl c;rw[hf]at hof;rw[hx]at ho1;rw[hy]at ho2;rw[hc]at ho3;obtain⟨cv,hv,hcs,hcc⟩:=hof.AZ;have hcv:cv = #[]:=Array.eq_empty_of_size_eq_zero (su hcs);subst hcv;have hm:(#[x,y,c].map a.eval:Array Value) = #[.int .u64 i,.int .u64 j,.int .u64 m]:=by simp[ho1.eU,ho2.eU,ho3.eU]
 refine upon_value rfl (AV hv hk hname hb hn he (by rw[hm];exact abE i j m h4 w)) (iT hnn hdf hnext hd (h.put (.bI _ _ rfl ?_)) hK);intro i' v dd hi' hd';rcases i' with _| _|i'
 ·simp at hi' hd';subst hi';subst hd';exact .int _ _
 ·simp at hi' hd';subst hi';subst hd';exact .int _ _
 ·simp at hi'
end
def gd(g:Nat):List D:=[.int .u64 ((g/18446744073709551616:Nat):Int),.int .u64 ((g%18446744073709551616:Nat):Int)]
def RO(g n:Nat)(hn:n<18446744073709551616)(h:g+n<340282366920938463463374607431768211456):Sq 259 [] [.agg (gd g),.int .u64 n] [] (.agg (gd (g+n))):=by
 simp only[gd];refine bp 20 2 [.cell 4 335] mixed func259 ?_;refine s0 ?_;refine aG.sem rfl ?_;with_reducible refine gM.xI (k:=126) (fn:=Tryz.f126) (i:=((g%18446744073709551616:Nat):Int)) (j:=n) (m:=0) ?_ func126 ?_ ?_ kZ kY ?_ ?_ ?_ ?_ ?_ ?_ ?_ ?_ ?_
 iterate 11 (first|rfl|omega)
 have a:(((g%18446744073709551616:Nat):Int)+n+0)%18446744073709551616=(((g+n)%18446744073709551616:Nat):Int):=ak
 have e2:IntKind.wrap .u64 (((g/18446744073709551616:Nat):Int)+(((g%18446744073709551616:Nat):Int)+n+0)/18446744073709551616)=(((g+n)/18446744073709551616:Nat):Int):=by rw[IntKind.wrap_u64];omega
 exact dL (a2 a e2)
def RN(a b:Nat)(hb:b<=a)(ha:a<340282366920938463463374607431768211456):Sq 290 [] [.agg (gd a),.agg (gd b)] [] (.agg (gd (a-b))):=by
 simp only[gd];refine bp 29 2 [.cell 4 335] mixed func290 ?_;refine s0 ?_;refine aG.sem rfl ?_;with_reducible refine alS (k:=301) (fn:=Tryz.f301) (i:=a%18446744073709551616) (j:=b%18446744073709551616) (m:=0) ?_ func301 ?_ ?_ QT QS ?_ ?_ ?_ ?_ ?_ ?_
 iterate 8 (first|rfl|omega)
 refine s0 ?_;refine aG.sem rfl ?_;with_reducible refine alS (k:=301) (fn:=Tryz.f301) (i:=a/18446744073709551616) (j:=b/18446744073709551616) (m:=if a%18446744073709551616<b%18446744073709551616+0 then 1 else 0) ?_ func301 ?_ ?_ QT QS ?_ ?_ ?_ ?_ ?_ ?_
 iterate 6 (first|rfl|omega)
 ·split<;>omega
 ·omega
 have c:(a%18446744073709551616+18446744073709551616-b%18446744073709551616-0)%18446744073709551616=(a-b)%18446744073709551616:=ak
 have e2:(a/18446744073709551616+18446744073709551616-b/18446744073709551616-(if a%18446744073709551616<b%18446744073709551616+0 then 1 else 0))%18446744073709551616=(a-b)/18446744073709551616:=by split<;>omega
 rw[e2,c];exact jq
def Ey(x:Int):Sq 304 [] [.int .u64 x] [] (.bool false):=by
 refine bp 6 1 [.tmp 2] mixed func304 ?_;simp only[go_sem,seval,bne,beq_self_eq_true,Bool.not_true]
theorem mP(x y:Int):Sq 292 [] [.int .u64 x,.int .u64 y] [] (.int .i64 (gm x y)):=by
 have b:=Ey x;have c:=Ey y;refine bp 20 2 [.tmp 4] mixed func292 ?_;refine sc aS b ?_;refine aG.bC c ?_;simp only[gm];rcases Int.lt_or_le x y with h|h
 ·have d:decide (x<y)=true:=dY h;simp only[go_sem,seval,d,aq h]
 ·have d:decide (x<y)=false:=iE;rw[au ak];rcases Int.lt_or_le y x with h3|h3
  ·have a:decide (y<x)=true:=dY h3;simp only[go_sem,seval,d,a,aq h3]
  ·have a:decide (y<x)=false:=iE;simp only[go_sem,seval,d,a,au (by omega:¬y<x)]
theorem JD(a b:Nat):Sq 263 [] [.agg (gd a),.agg (gd b)] [] (.int .i64 (gm a b)):=by
 have f:=mP ((a/18446744073709551616:Nat):Int) ((b/18446744073709551616:Nat):Int);have g:=mP ((a%18446744073709551616:Nat):Int) ((b%18446744073709551616:Nat):Int);have c:=tC (gm ((a/18446744073709551616:Nat):Int) ((b/18446744073709551616:Nat):Int)) (gm ((a%18446744073709551616:Nat):Int) ((b%18446744073709551616:Nat):Int));have e:(if gm ((a/18446744073709551616:Nat):Int) ((b/18446744073709551616:Nat):Int)=0 then gm ((a%18446744073709551616:Nat):Int) ((b%18446744073709551616:Nat):Int)else gm ((a/18446744073709551616:Nat):Int) ((b/18446744073709551616:Nat):Int))=gm a b:=by
  unfold gm;repeat' split
  all_goals omega
 rw[e]at c;simp only[gd];refine bp 17 2 [.tmp 4] mixed func263 ?_;refine sc aS f ?_;refine sc aS g ?_;exact WQ aS c
def divMod{b m r:Nat}(c:0<b)(a:r<b):(b*m+r)/b=m/\(b*m+r)%b=r:=by
 rw[Nat.mul_add_div c,Nat.div_eq_of_lt a,Nat.mul_add_mod,Nat.mod_eq_of_lt a];exact⟨rfl,rfl⟩
def U4(a b:Nat)(A:0<b)(R:b<37778931862957161709568)(ha:a<340282366920938463463374607431768211456)(T:a/b<18446744073709551616):Sq 260 [] [.agg (gd a),.agg (gd b)] [] (.bI [.int .u64 ((a/b:Nat):Int),.agg (gd (a%b))]):=by
 have D:=λx=>JD x b;have u:=λx=>RN x b;simp only[gd]at D u |-;refine bp 56 2 [.tmp 4,.cell 5 335] mixed func260 ?_;refine s0 ?_;refine aF.wv 128 [2,3,5,6] [48,64,96] (λi=>[(8,.I (127-(i:Int))),(7,.int .u64 ((a/2^(128-i)/b:Nat):Int))]) (λi=>[(112,.box [.int .u64 ((a/2^(128-i)%b/18446744073709551616:Nat):Int),.int .u64 ((a/2^(128-i)%b%18446744073709551616:Nat):Int)])]) ?_ ?_ ?_
 ·have e0:a/340282366920938463463374607431768211456=0:=Nat.div_eq_of_lt ha;simp only[go_sem,seval]<;>simp[e0]
 ·intro i _ G _ _ _;obtain⟨k,hk⟩:∃k:Nat,k=127-i:=⟨_,rfl⟩
  have S:(127:Int)-(i:Int)=k:=ak
  have F:decide (0<=(k:Int))=true:=iy;obtain⟨P,N⟩:=aN (a/2^(128-i));rw[S,<-N];obtain⟨l,H⟩:=aN (P%b);obtain⟨q,T⟩:=aN (P/b);rw[<-H,<-T];have hl0:l<37778931862957161709568:=by rw[H];exact Nat.lt_trans (Nat.mod_lt _ A) R
  have O:P<=a:=by rw[N];exact Nat.div_le_self _ _
  obtain⟨B,L⟩:=aN (a/2^k%2);have M:B<2:=by rw[L];exact Nat.mod_lt _ ak
  have j:a/2^(128-(i+1))=2*P+B:=by
   have e1:128-(i+1)=k:=ak
   have e2:128-i=k+1:=ak
   rw[N,L,e1,e2,Nat.pow_succ,<-Nat.div_div_eq_div_mul];omega
  have f:B=(if 64<=k then a/18446744073709551616/2^(k%64)%2 else a%18446744073709551616/2^(k%64)%2):=by
   rw[L];split
   ·rename_i h;rw[Nat.div_div_eq_div_mul,show(18446744073709551616:Nat)=2^64 from rfl,<-Nat.pow_add,show 64+k%64=k by omega]
   ·rename_i h;rw[Nat.mod_eq_of_lt (show k<64 by omega)];have e3:(18446744073709551616:Nat)=2^k*(2*2^(63-k)):=by
     rw[<-Nat.pow_succ',<-Nat.pow_add,show k+(63-k+1)=64 by omega]
    rw[e3,Nat.mod_mul_right_div_self,Nat.mod_mul_right_mod]
  have y:IntKind.wrap .u64 ((k:Int).tmod 64)=((k%64:Nat):Int):=by
   rw[show(k:Int).tmod 64=((k%64:Nat):Int)by rw[Int.tmod_eq_emod_of_nonneg ak];omega,L3 ak]
  have E:k%64<64:=Nat.mod_lt _ ak;have V:=acv (a%18446744073709551616/2^(k%64)) (Nat.lt_of_le_of_lt (Nat.div_le_self _ _) ak);have W:=acv (a/18446744073709551616/2^(k%64)) (Nat.lt_of_le_of_lt (Nat.div_le_self _ _) ak);have Z:=aem (a%18446744073709551616) (k%64) E;have y2:=aem (a/18446744073709551616) (k%64) E;have z1:yG .u64 ((l%18446744073709551616:Nat):Int) 63=((l%18446744073709551616/9223372036854775808:Nat):Int):=aem _ 63 ak;have z2:Bc .u64 ((l/18446744073709551616:Nat):Int) 1=((2*(l/18446744073709551616):Nat):Int):=by rw[Kn];omega
  have z3:Bc .u64 ((l%18446744073709551616:Nat):Int) 1=((2*(l%9223372036854775808):Nat):Int):=by rw[Kn];omega
  have X:=bOr (l/18446744073709551616) (l%18446744073709551616/9223372036854775808) ak ak;have Y:=bOr (l%9223372036854775808) B M ak;have v1:2*(l/18446744073709551616)+l%18446744073709551616/9223372036854775808=(2*l+B)/18446744073709551616:=ak
  have v2:2*(l%9223372036854775808)+B=(2*l+B)%18446744073709551616:=ak
  rw[v1]at X;rw[v2]at Y;have t:128-(i+1)=127-i:=ak
  have hlb:l<b:=by rw[H];exact Nat.mod_lt _ A
  have Q:b*q+l=P:=by rw[T,H];exact Nat.div_add_mod P b
  have g:2*P+B=b*(2*q)+(2*l+B):=by rw[<-Q,Nat.mul_add,<-Nat.mul_assoc,<-Nat.mul_assoc,Nat.mul_comm 2 b];omega
  have o:b<=2*l+B->2*P+B=b*(2*q+1)+(2*l+B-b):=λh=>by rw[g,Nat.mul_add b (2*q) 1];omega
  have hqa:2*q+1<=2*(a/b)+1:=by have:=Nat.div_le_div_right (c:=b) O;omega
  have hnx:a/2^(128-(i+1))/b<=a/b:=Nat.div_le_div_right (Nat.div_le_self _ _);have hqn:2*q<18446744073709551616:=by
   have h1:2*q<=(2*P+B)/b:=by
    rw[Nat.le_div_iff_mul_le A,g,Nat.mul_comm];omega
   rw[<-j]at h1;omega
  have J:IntKind.wrap .i64 ((k:Int)-1)=(k:Int)-1:=gO ak ak;have w:(k:Int)-1=127-((i+1:Nat):Int):=ak
  have D:=D (2*l+B);have u:=u (2*l+B);by_cases C:64<=k
  ·have d:decide ((64:Int)<=(k:Int))=true:=iy;rw[aq C]at f;rw[<-f]at W;refine sc (a5 F d y Z (a5 y2 V W z1 (a4 z2 z3 X Y))) D ?_;rcases dN (2*l+B) b with hX|hX
   ·have z:decide (0<=gm ((2*l+B:Nat):Int) (b:Int))=false:=by
     rw[gv,gm,aq ak];omega
    obtain⟨n1,p⟩:=divMod (m:=2*q) A hX;rw[<-g,<-j,t]at n1 p;have s:=Kn q;rw[Nat.mod_eq_of_lt ak]at s;refine sm (a3 z s J) ?_;refine ah.v G ?_;exact dL (a3 n1 p w)
   ·have z:decide (0<=gm ((2*l+B:Nat):Int) (b:Int))=true:=by
     rw[decide_eq_true_iff,gm,au ak];split<;>omega
    have u:=u hX ak;obtain⟨n1,p⟩:=divMod (m:=2*q+1) (r:=2*l+B-b) A ak;rw[<-o hX,<-j,t]at n1 p;have s:=Kn q;rw[Nat.mod_eq_of_lt ak]at s;have U:ior .u64 ((2*q:Nat):Int) 1=((2*q+1:Nat):Int):=bOr q 1 ak ak;refine sc (a4 z s U J) u ?_;refine ah.v G ?_;exact dL (a3 n1 p w)
  ·have d:decide ((64:Int)<=(k:Int))=false:=iE;rw[au C]at f;rw[<-f]at V;refine sc (a5 F d y Z (a5 y2 V W z1 (a4 z2 z3 X Y))) D ?_;rcases dN (2*l+B) b with hX|hX
   ·have z:decide (0<=gm ((2*l+B:Nat):Int) (b:Int))=false:=by
     rw[gv,gm,aq ak];omega
    obtain⟨n1,p⟩:=divMod (m:=2*q) A hX;rw[<-g,<-j,t]at n1 p;have s:=Kn q;rw[Nat.mod_eq_of_lt ak]at s;refine sm (a3 z s J) ?_;refine ah.v G ?_;exact dL (a3 n1 p w)
   ·have z:decide (0<=gm ((2*l+B:Nat):Int) (b:Int))=true:=by
     rw[decide_eq_true_iff,gm,au ak];split<;>omega
    have u:=u hX ak;obtain⟨n1,p⟩:=divMod (m:=2*q+1) (r:=2*l+B-b) A ak;rw[<-o hX,<-j,t]at n1 p;have s:=Kn q;rw[Nat.mod_eq_of_lt ak]at s;have U:ior .u64 ((2*q:Nat):Int) 1=((2*q+1:Nat):Int):=bOr q 1 ak ak;refine sc (a4 z s U J) u ?_;refine ah.v G ?_;exact dL (a3 n1 p w)
 ·intro _ _ _;have F:decide (0<=(127:Int)-((128:Nat):Int))=false:=rfl;simp only[go_sem,seval,F,Nat.sub_self,Nat.pow_zero,Nat.div_one];exact Si
theorem PW(long:Bool)(x y:aY):∃c:Int,Sq 256 [] (.agg x.cells::.agg y.cells :: [.bE [.bool long]]) [] (.int .i64 c)/\decide (c<0)=ahead long x y:=by
 have b:=lg x.aL y.aL;have f:=lg x.src y.src;have hr:gm x.aL y.aL = -1\/gm x.aL y.aL=0\/gm x.aL y.aL=1:=by
  unfold gm;repeat' split
  all_goals omega
 have w:IntKind.wrap .i64 (0-gm x.aL y.aL) = -gm x.aL y.aL:=fQ;refine⟨if(if long then -gm x.aL y.aL else gm x.aL y.aL)=0 then gm x.src y.src else(if long then -gm x.aL y.aL else gm x.aL y.aL),?_,?_⟩
 ·simp only[aY.cells];cases long
  ·have a:=tC (gm x.aL y.aL) (gm x.src y.src);refine bp 23 3 [.tmp 5] mixed func256 ?_;refine sc aS b ?_;refine sc aS f ?_;exact WQ aS a
  ·have a:=tC (-gm x.aL y.aL) (gm x.src y.src);refine bp 23 3 [.tmp 5] mixed func256 ?_;refine sc aS b ?_;refine sc w f ?_;exact WQ aS a
 ·rw[nJ,decide_eq_true_iff,Dr];simp only[gm,bk];cases long<;>simp only[iM,if_false,if_true]
  all_goals repeat' split
  all_goals omega
def VG(long:Bool)(l:List aY)(hl:l.length<2^28):Sq 199 [] [.bool long,.sl 5 (l.map aY.cells)] [.own 5 ((vc long l).map aY.cells)] (.ref 0):=by
 have c1:=B3 l ak;have c2:=NK (ahead long) 256 [.bE [.bool long]] rfl (by simp only[go_sem,seval]) (λ_ _=>by simp only[go_sem,seval]) (PW long) l ak;rw[abM]at c2;refine bp 12 2 [.tmp 4] mixed func199 ?_;refine so aS c1 ?_;refine aG.gE [] [128] true sT ?_;refine s0 ?_;refine cz.gF c2 ?_;refine s0 ?_;intro r b d a;obtain⟨y,_,rfl⟩:=mem_map.1 b;simp only[aY.cells,mem_cons,not_mem_nil,or_false]at a;rcases a with rfl|rfl|rfl|rfl|rfl<;>trivial
def Sm(long:Bool)(l:List aY)(a:l.length<2^28):Sq 199 [] [.bool long,.sl 5 (l.map aY.cells)] [] (.sl 5 ((vc long l).map aY.cells)):=by
 refine Spec.frozen (VG long l a) [0] rfl ?_;intro r;rcases r with _|r<;>rfl
structure bG where
 client:Int
 seq:Int
 kind:Int
 who:Int
 other:Int
 no:Int
 inst:Int
 cur:Int
 aO:Int
 aL:Int
 cu:Int
 s0:Int
 s1:Int
 s2:Int
 s3:Int
 s4:Int
 s5:Int
deriving DecidableEq
@[reducible] def bG.cells(x:bG):List D:=[.I x.client,.I x.seq,.I x.kind,.I x.who,.I x.other,.I x.no,.I x.inst,.I x.cur,.I x.aO,.I x.aL,.I x.cu,.I x.s0,.I x.s1,.I x.s2,.I x.s3,.I x.s4,.I x.s5]
theorem jY(a b c:Int):Sq 71 [] [.I a,.I b,.I c] [] (.bool (within a b c)):=by
 refine bp 15 3 [.tmp 6] mixed func71 ?_;refine s0 ?_;repeat' with_reducible first|refine mO (λh=>?_) λh=>?_|simp only[*,go_sem,seval]
 all_goals(simp only[within];simp<;>omega)
def kj(k w c:Int):Sq 75 [] [.int .i64 k,.int .i64 w,.int .i64 c] [] (.agg [.int .i64 k,.int .i64 w,.int .i64 c]):=by
 refine bp 11 3 [.cell 6 70] mixed func75 ?_;simp only[go_sem,seval]
def bV(e:Int):Sq 72 [] [.int .i64 e] [] (.agg [.int .i64 e,.int .i64 0,.int .i64 0,.nil,.nil]):=by
 refine bp 5 1 [.cell 2 64] mixed func72 ?_;simp only[go_sem,seval]
def Ge(r:aA)(w:Int):Int:=if gw r w then(if(fm r w).state=1 then 0 else 14)else 10
def v7(s:af)(w:Int)(c:s.aj.small):Sq 159 [] [.agg s.cells,.int .i64 w] [] (.int .i64 (Ge s.aj w)):=by
 have a:=dZ s.aj w c;simp only[af.cells]at a |-;simp only[aA.cells]at a;unfold Ge;obtain⟨m,f⟩:=aN (fm s.aj w);rw[<-f]at a |-;refine bp 19 2 [.tmp 4] mixed func159 ?_;refine sc aS a ?_;cases q:gw s.aj w
 ·exact kG
 refine sm gr ?_;refine bg ?_;by_cases b:m.state=1
 ·have d:(m.state==1)=true:=su b;simp only[go_sem,seval,d,aq b]<;>simp
 ·have d:(m.state==1)=false:=su b;simp only[go_sem,seval,d,au b]<;>simp
def UN(s:af)(w c:Int):Int:=if shE s w c=0 then(if decide (0<Y2 s w c)||decide (0<=eW w c s.calls)then 17 else 0)else shE s w c
def uG(s:af)(w c:Int)(b:s.small)(m:s.fB)(g:s.bf.bs.length<2^29)(h:s.ps.length<2^29):Sq 161 [] [.agg s.cells,.int .i64 w,.int .i64 c] [] (.int .i64 (UN s w c)):=by
 have a:s.fit:=⟨b.aj.small,b.book,b.bf,b.ps⟩
 have f:=AF s w c a m g h;have l:=pg w c s.calls (by have:=b.calls;omega);simp only[af.cells]at f |-;unfold UN;obtain⟨e,i⟩:=aN (shE s w c);obtain⟨n,j⟩:=aN (Y2 s w c);rw[<-i,<-j]at f;rw[<-i,<-j];refine bp 29 3 [.tmp 6] mixed func161 ?_;refine sc aS f ?_;by_cases q:e=0
 case neg =>
  have d:(e==0)=false:=su q;simp only[go_sem,seval,bne,d,au q]
 rw[q];simp only[go_sem,seval];refine bg ?_;cases q2:decide (0<n)
 ·refine sc aS l ?_;cases k:decide (0<=eW w c s.calls)
  ·exact gY k
  ·exact gY k
 ·exact kG
def kr(n:Int):List bX->Int->Int
 | [],_=>-1
 |x::r,i=>if x.client==n then i else kr n r (i+1)
def yW(s:af)(n:Int)(hl:s.aT.length<2^40):Sq 21 [] [.agg s.cells,.int .i64 n] [] (.int .i64 (kr n s.aT 0)):=by
 simp only[af.cells];refine bp 22 2 [.tmp 4] mixed func21 ?_;simp only[go_sem,seval];refine aF.wu s.aT.length [1,2] [48] (λi=>[(5,.int .i64 i)]) (λ_=>[]) (λi=>kr n (s.aT.drop i) i=kr n s.aT 0) rfl ?_ ?_ ?_
 ·simp only[go_sem,seval];try simp
 ·intro i _ g b h a;obtain⟨x,k,j,hli⟩:=oc (c:=bX.cells) s.aT g;rw[cg g,<-k]at a;simp only[kr]at a;simp only[bX.cells]at j;simp only[go_sem,seval,b,j];refine bg ?_;cases q:x.client==n
  ·rw[q]at a;simp only[go_sem,seval,h];refine ah.u g (su a) ?_;simp only[go_sem,seval]
  ·rw[q,aq rfl]at a;rw[<-a];simp only[go_sem,seval]
 ·intro _ f a;rw[jw]at a;rw[<-a];simp only[go_sem,seval,f,kr]
def wM(s:ByteArray)(i:Nat):Int:=((s[i]?).map (λx=>(x.toNat:Int))).getD 0
def XW(s:ByteArray)(b:Int):Nat->Nat->Bool
 | 0,_=>false
 |m+1,i=>wM s i==b||XW s b m (i+1)
def hasB(s:ByteArray)(b:Int):Bool:=XW s b s.size 0
def JN(s:ByteArray)(b:Int)(hl:s.size<2^60):Sq 150 [] [.str s,.int .u8 b] [] (.bool (hasB s b)):=by
 refine bp 17 2 [.tmp 4] mixed func150 ?_;refine s0 ?_;refine aF.wu s.size [0,1] [] (λi=>[(5,.I i)]) (λ_=>[]) (λi=>XW s b (s.size-i) i=hasB s b) rfl ?_ ?_ ?_
 ·refine s0 ?_;try simp
 ·intro i _ k c h a;obtain⟨m,l⟩:∃m,s.size-i=m+1:=⟨s.size-i-1,by omega⟩
  have g:s.size-(i+1)=m:=ak
  rw[l]at a;simp only[XW]at a;have hli:(i:Int)<(s.size:Int):=ak
  have j:((s[i]?).map (λx=>(x.toNat:Int))).getD 0=wM s i:=rfl;simp only[go_sem,seval,c,Int.toNat_natCast,j];refine bg ?_;cases q:wM s i==b
  ·rw[q,Bool.false_or]at a;refine sm h ?_;refine ah.u k (by rw[g];exact a) ?_;exact jq
  ·rw[q,Bool.true_or]at a;rw[<-a];exact jq
 ·intro _ f a;rw[Nat.sub_self]at a;rw[<-a];simp only[go_sem,seval,f,XW]
def Se:List ByteArray:=[⟨#[]⟩,⟨#[119,97]⟩,⟨#[105,99,113,97,115]⟩,⟨#[110,99,112,97]⟩,⟨#[119,99,97]⟩,⟨#[119,99,97]⟩,⟨#[119,110,113]⟩,⟨#[119,110,113]⟩,⟨#[119,99,97]⟩,⟨#[99,97]⟩,⟨#[119,111,105,113,112]⟩,⟨#[110]⟩,⟨#[110,113,112]⟩,⟨#[105,112]⟩,⟨#[]⟩,⟨#[]⟩,⟨#[]⟩,⟨#[97]⟩,⟨#[119,105,111,113,112]⟩,⟨#[119]⟩,⟨#[]⟩,⟨#[110,119,99]⟩,⟨#[119,105]⟩]
def gI(k:Int):ByteArray:=Se.getD k.toNat ⟨#[]⟩
theorem Fm(k:Int)(h:1<=k/\k<=22):Sq 149 [] [.int .i64 k] [] (.str (gI k)):=by
 have a:k=1\/k=2\/k=3\/k=4\/k=5\/k=6\/k=7\/k=8\/k=9\/k=10\/k=11\/k=12\/k=13\/k=14\/k=15\/k=16\/k=17\/k=18\/k=19\/k=20\/k=21\/k=22:=ak
 clear h;rcases a with rfl|rfl|rfl|rfl|rfl|rfl|rfl|rfl|rfl|rfl|rfl|rfl|rfl|rfl|rfl|rfl|rfl|rfl|rfl|rfl|rfl|rfl
 ·refine bp 17 1 [.tmp 2] mixed func149 ?_;refine s0 ?_;exact(rfl:(⟨#[119,97]⟩:ByteArray)=gI 1)
 ·refine bp 17 1 [.tmp 2] mixed func149 ?_;refine s0 ?_;exact(rfl:(⟨#[105,99,113,97,115]⟩:ByteArray)=gI 2)
 ·refine bp 17 1 [.tmp 2] mixed func149 ?_;refine s0 ?_;exact(rfl:(⟨#[110,99,112,97]⟩:ByteArray)=gI 3)
 ·refine bp 17 1 [.tmp 2] mixed func149 ?_;refine s0 ?_;exact(rfl:(⟨#[119,99,97]⟩:ByteArray)=gI 4)
 ·refine bp 17 1 [.tmp 2] mixed func149 ?_;refine s0 ?_;exact(rfl:(⟨#[119,99,97]⟩:ByteArray)=gI 5)
 ·refine bp 17 1 [.tmp 2] mixed func149 ?_;refine s0 ?_;exact(rfl:(⟨#[119,110,113]⟩:ByteArray)=gI 6)
 ·refine bp 17 1 [.tmp 2] mixed func149 ?_;refine s0 ?_;exact(rfl:(⟨#[119,110,113]⟩:ByteArray)=gI 7)
 ·refine bp 17 1 [.tmp 2] mixed func149 ?_;refine s0 ?_;exact(rfl:(⟨#[119,99,97]⟩:ByteArray)=gI 8)
 ·refine bp 17 1 [.tmp 2] mixed func149 ?_;refine s0 ?_;exact(rfl:(⟨#[99,97]⟩:ByteArray)=gI 9)
 ·refine bp 17 1 [.tmp 2] mixed func149 ?_;refine s0 ?_;exact(rfl:(⟨#[119,111,105,113,112]⟩:ByteArray)=gI 10)
 ·refine bp 17 1 [.tmp 2] mixed func149 ?_;refine s0 ?_;exact(rfl:(⟨#[110]⟩:ByteArray)=gI 11)
 ·refine bp 17 1 [.tmp 2] mixed func149 ?_;refine s0 ?_;exact(rfl:(⟨#[110,113,112]⟩:ByteArray)=gI 12)
 ·refine bp 17 1 [.tmp 2] mixed func149 ?_;refine s0 ?_;exact(rfl:(⟨#[105,112]⟩:ByteArray)=gI 13)
 ·refine bp 17 1 [.tmp 2] mixed func149 ?_;refine s0 ?_;exact(rfl:(⟨#[]⟩:ByteArray)=gI 14)
 ·refine bp 17 1 [.tmp 2] mixed func149 ?_;refine s0 ?_;exact(rfl:(⟨#[]⟩:ByteArray)=gI 15)
 ·refine bp 17 1 [.tmp 2] mixed func149 ?_;refine s0 ?_;exact(rfl:(⟨#[]⟩:ByteArray)=gI 16)
 ·refine bp 17 1 [.tmp 2] mixed func149 ?_;refine s0 ?_;exact(rfl:(⟨#[97]⟩:ByteArray)=gI 17)
 ·refine bp 17 1 [.tmp 2] mixed func149 ?_;refine s0 ?_;exact(rfl:(⟨#[119,105,111,113,112]⟩:ByteArray)=gI 18)
 ·refine bp 17 1 [.tmp 2] mixed func149 ?_;refine s0 ?_;exact(rfl:(⟨#[119]⟩:ByteArray)=gI 19)
 ·refine bp 17 1 [.tmp 2] mixed func149 ?_;refine s0 ?_;exact(rfl:(⟨#[]⟩:ByteArray)=gI 20)
 ·refine bp 17 1 [.tmp 2] mixed func149 ?_;refine s0 ?_;exact(rfl:(⟨#[110,119,99]⟩:ByteArray)=gI 21)
 ·refine bp 17 1 [.tmp 2] mixed func149 ?_;refine s0 ?_;exact(rfl:(⟨#[119,105]⟩:ByteArray)=gI 22)
def My(c:bG)(b:Int):Int:=if b=119 then c.who else if b=111 then c.other else if b=110 then c.no else if b=105 then c.inst else if b=99 then c.cur else if b=113 then c.aO else if b=112 then c.aL else c.cu
theorem Fl(c:bG)(b:Int):Sq 151 [] [.agg c.cells,.int .u8 b] [] (.int .i64 (My c b)):=by
 simp only[bG.cells];unfold My;refine bp 36 2 [.tmp 4] mixed func151 ?_;refine s0 ?_;refine bg ?_;by_cases a:b=119
 ·have d:(b==119)=true:=su a;simp only[go_sem,seval,d,aq a]
 have l:(b==119)=false:=su a;refine sm l ?_;by_cases f:b=111
 ·have d:(b==111)=true:=su f;simp only[go_sem,seval,d,aq f,au a]
 have m:(b==111)=false:=su f;refine sm m ?_;by_cases g:b=110
 ·have d:(b==110)=true:=su g;simp only[go_sem,seval,d,aq g,au a,au f]
 have o:(b==110)=false:=su g;refine sm o ?_;by_cases h:b=105
 ·have d:(b==105)=true:=su h;simp only[go_sem,seval,d,aq h,au a,au f,au g]
 have p:(b==105)=false:=su h;refine sm p ?_;by_cases i:b=99
 ·have d:(b==99)=true:=su i;simp only[go_sem,seval,d,aq i,au a,au f,au g,au h]
 have q:(b==99)=false:=su i;refine sm q ?_;by_cases j:b=113
 ·have d:(b==113)=true:=su j;simp only[go_sem,seval,d,aq j,au a,au f,au g,au h,au i]
 have r:(b==113)=false:=su j;refine sm r ?_;by_cases k:b=112
 ·have d:(b==112)=true:=su k;simp only[go_sem,seval,d,aq k,au a,au f,au g,au h,au i,au j]
 have s:(b==112)=false:=su k;simp only[go_sem,seval,s,au a,au f,au g,au h,au i,au j,au k]
