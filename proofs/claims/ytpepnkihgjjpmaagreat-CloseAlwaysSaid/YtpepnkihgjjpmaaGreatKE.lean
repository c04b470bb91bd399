/- Parts. -/
import Derived.Test.YtpepnkihgjjpmaaGreatKC
import Derived.Test.YtpepnkihgjjpmaaGreatKD
set_option linter.all false
set_option maxHeartbeats 4000000
set_option maxRecDepth 16000
namespace Go.Proofs.YtpepnkihgjjpmaaGreat
open Go.Abs Tryz
open List hiding lt max min
def pick{A:Type}(p:A->Bool)(f:A->Int)(xs:List A):List Int:=xs.flatMap λx=>if p x then[f x]else[]
def zO{A:Type}(p:A->Bool)(f:A->Int){xs:List A}{i:Nat}(h:i<xs.length):pick p f (xs.take (i+1))=pick p f (xs.take i)++(if p xs[i]then[f xs[i]]else[]):=iq _ h
def bN{A:Type}(p:A->Bool)(f:A->Int)(xs:List A):(pick p f xs).length<=xs.length:=by
 have:=gH (f:=λx=>if p x then[f x]else[]) (m:=1) (λx=>by split<;>simp) xs;simpa[pick]using this
def jN{A:Type}{p:A->Bool}{f:A->Int}{xs:List A}{R:Int->Prop}(h:∀x∈xs,R (f x)):∀n∈pick p f xs,R n:=by
 intro n a;obtain⟨x,b,a⟩:=mem_flatMap.1 a;split at a
 ·obtain rfl:n=f x:=su a;exact h x b
 ·cases a
theorem fK{A:Type}(p:A->Bool)(f:A->Int){xs:List A}{i:Nat}(h:i<xs.length):ints (pick p f (xs.take (i+1)))=ints (pick p f (xs.take i))++(if p xs[i]then[[.int .i64 (f xs[i])]]else[]):=by
 rw[zO p f h];unfold ints;rw[jF];split<;>rfl
def aec(l:List Int):(bB (ay l)&&addN l==0)=(ay l==0):=by
 unfold addN;cases h:bB (ay l)
 ·have:ay l≠0:=λe=>by rw[e]at h;cases h
  simp[this]
 ·simp
def vQ{l:List aK}(h:qF l=true):∀x∈l,x.bq.right=true/\bB x.cu=true:=λx a=>by
 have:=bL.1 h x a;simpa only[sA,bQ]using this
def iO(c:Int)(l:List aK):List Int:=pick (λx=>x.cur==c) aK.cu l
def uB(l:List aK):Bool:=(range 3).all λc=>ay (iO c l)==0
def lJ(l:List aK):Int:=if l.length=0 then 2 else if 64<l.length then 5 else if qF l then(if uB l then 0 else 12)else 3
theorem Ij(l:List aK)(hl:l.length<2^30):Sq 222 [] [.sl 4 (l.map aK.cells)] [] (.int .i64 (lJ l)):=by
 have D:=CM l ak;refine bp 54 1 [.tmp 2] mixed func222 ?_;refine s0 ?_;by_cases b:l.length=0
 ·have d:((l.length:Int)==0)=true:=by simp[b]
  have e:lJ l=2:=by simp[lJ,b]
  exact dL (a2 d e)
 have r:((l.length:Int)==0)=false:=su b;by_cases s:64<l.length
 ·have d:decide (64<(l.length:Int))=true:=iy;have e:lJ l=5:=by simp only[lJ];rw[au b,aq s]
  exact dL (a3 r d e)
 have C:decide (64<(l.length:Int))=false:=iE;refine sc (a2 r C) D ?_;cases f:qF l
 ·have e:lJ l=3:=by simp only[lJ];rw[au b,au s,f];rfl
  exact dL e
 have e:lJ l=if uB l then 0 else 12:=by simp only[lJ];rw[au b,au s,f];rfl
 have z:=vQ f;rw[e];clear e r C D;refine s0 ?_;refine aF.w1 3 3 [0] [] (λi _=>∀c<i,(ay (iO (c:Nat) l)==0)=true) sT ?_ ?_
 ·intro c _ g a A t;have a:decide ((c:Int)<3)=true:=a;have F:=eM (iO c l) (jN λx B=>tH (z x B).2) (by have:=bN (λx:aK=>x.cur==(c:Int)) aK.cu l;unfold iO;omega);have b:=aec (iO c l);refine sm a ?_;refine aF.wv l.length [0,3] [] (λi=>[(5,.I i),(4,.ref 688)]) (λi=>[(688,.own 1 (ints (iO c (l.take i))))]) ?_ ?_ ?_
  ·simp only[go_sem,seval]<;>simp[iO,pick,ints]
  ·intro i _ p w n _;have q:=br (c:=aK.cells) l p;have m:ints (iO c (l.take (i+1)))=_:=fK (λx:aK=>x.cur==(c:Int)) aK.cu p;have j:=bN (λx:aK=>x.cur==(c:Int)) aK.cu (l.take i);have hlt:(l.take i).length=i:=by simp;omega
   have hli:(i:Int)<(l.length:Int):=ak
   have j:(iO c (l.take i)).length<=i:=by unfold iO;omega
   obtain⟨x,B⟩:=aN (l[i]);rw[<-B]at m q;simp only[aK.cells]at q;refine sm (a2 w q) ?_;refine bg ?_;cases E:x.cur==(c:Int)
   ·simp only[E,iM,if_false,if_true,append_nil]at m;refine sm n ?_;refine ah.v p ?_;simp only[go_sem,seval,m]<;>simp[iO]
   ·simp only[E,iM,if_false,if_true,append_nil]at m;simp only[go_sem,seval,n,az,q];refine bg ?_;refine ah.v p ?_;simp only[go_sem,seval,m]<;>simp[iO]
  ·intro _ y _;simp only[go_sem,seval,y,eu];refine sl aS F ?_;cases f:bB (ay (iO c l))
   ·have:uB l=false:=by
     rw[uB,all_eq_false];exact⟨c,mem_range.2 g,by rw[f]at b;rw[<-b];simp⟩
    exact dL (a2 f this)
   cases o:addN (iO c l)==0
   ·have:uB l=false:=by
     rw[uB,all_eq_false];exact⟨c,mem_range.2 g,by rw[f,o]at b;rw[<-b];simp⟩
    exact dL (a4 f gr o this)
   rw[f,o]at b;refine sm (a4 f gr o A) ?_;refine ah.u g ?_ ?_
   ·intro k hk;rcases dN k c with h|h
    ·exact t k h
    ·obtain rfl:k=c:=ak
     exact b.symm
   ·exact jq
 ·intro _ a t;have a:decide ((3:Int)<3)=false:=a;have:uB l=true:=bL.2 λc g=>t c (mem_range.1 g);exact dL (a2 a this)
def bZ(a:aC)(l:List aK):List Int:=pick (λx=>x.bq.same a) aK.cu l
def tN(a:aC)(n:Int):List aK:=if n==0 then[]else[⟨a.kind,a.who,a.cur,n⟩]
def oh(l:List aK)(ys:List aC):List aK:=ys.flatMap λa=>tN a (ay (bZ a l))
def kP(l:List aK)(ys:List aC):Bool:=ys.all λa=>bB (ay (bZ a l))
def jk(l:List aK):Int:=if qF l then(if kP l fP then 0 else 1)else 3
def fG(l:List aK):List aK:=if jk l=0 then oh l fP else[]
def Hw(a:aC)(n:Int):(tN a n).length<=1:=by unfold tN;split<;>simp
def K6(l:List aK)(ys:List aC):(oh l ys).length<=ys.length:=by
 have:=gH (f:=λa=>tN a (ay (bZ a l))) (m:=1) (λa=>Hw _ _) ys;simpa[oh]using this
theorem M8(l:List aK)(hl:l.length<2^29):Sq 240 [] [.sl 4 (l.map aK.cells)] [.own 4 ((fG l).map aK.cells)] (.bI [.ref 0,.int .i64 (jk l)]):=by
 have D:=CM l ak;have g:=CL;refine bp 65 1 [.tmp 2,.tmp 3] mixed func240 ?_;refine sc aS D ?_;cases d:qF l
 ·have e:jk l=3:=by simp[jk,d]
  have e2:fG l=[]:=by simp[fG,e]
  exact gY (a2 e e2)
 have e:jk l=if kP l fP then 0 else 1:=by simp[jk,d]
 have e2:fG l=if kP l fP then oh l fP else[]:=by simp only[fG,e];cases kP l fP<;>simp
 have B:=vQ d;have y:=BQ;rw[e,e2];clear e e2 D;obtain⟨ys,m⟩:=aN (fP);rw[<-m]at g y |-;clear m;refine s0 ?_;refine aG.gE [240] [] false sT ?_;refine s0 ?_;refine cz.gF g ?_;refine s0 ?_;refine aF.wu ys.length [0,5] [256] (λi=>[(6,.I i),(4,.ref 1024)]) (λi=>[(1024,.own 4 ((oh l (ys.take i)).map aK.cells))]) (λi=>kP l (ys.drop i)=kP l ys) rfl ?_ ?_ ?_
 ·simp only[go_sem,seval]<;>simp[oh]
 ·intro k _ n A r f;obtain⟨a,E,j,hlk⟩:=oc (c:=aC.cells) ys n;have b:oh l (ys.take (k+1))=oh l (ys.take k)++_:=iq _ n;have hjl:=K6 l (ys.take k);have hjt:(ys.take k).length=k:=by simp;omega
  rw[cg n,<-E]at f;simp only[kP,all_cons]at f;rw[<-E]at b;have G:=eM (bZ a l) (jN λx C=>tH (B x C).2) (by have:=bN (λx:aK=>x.bq.same a) aK.cu l;unfold bZ;omega);simp only[aC.cells]at j;refine sm A ?_;refine aF.wv l.length [0,4,5,6] [256,1024] (λi=>[(8,.I i),(7,.ref 736)]) (λi=>[(736,.own 1 (ints (bZ a (l.take i))))]) ?_ ?_ ?_
  ·simp only[go_sem,seval]<;>simp[bZ,pick,ints]
  ·intro i _ t z q _;have w:=br (c:=aK.cells) l t;have p:ints (bZ a (l.take (i+1)))=ints (bZ a (l.take i))++_:=fK (λx:aK=>x.bq.same a) aK.cu t;have o:=bN (λx:aK=>x.bq.same a) aK.cu (l.take i);have hlt:(l.take i).length=i:=by simp;omega
   have hli:(i:Int)<(l.length:Int):=ak
   have o:(bZ a (l.take i)).length<=i:=by unfold bZ;omega
   obtain⟨x,C⟩:=aN (l[i]);have H:Sq 191 [] [.agg [.I x.kind,.I x.who,.I x.cur],.agg [.I a.kind,.I a.who,.I a.cur]] [] (.bool (x.bq.same a)):=vi x.bq a;rw[<-C]at p w;simp only[aK.cells]at w;refine sc (a3 z w j) H ?_;cases F:x.bq.same a
   ·simp only[F,iM,if_false,if_true,append_nil]at p;refine sm q ?_;refine ah.v t ?_;exact dL p
   ·simp only[F,iM,if_false,if_true,append_nil]at p;simp only[go_sem,seval,q,az,w];refine bg ?_;refine ah.v t ?_;exact dL p
  ·intro _ h _;simp only[go_sem,seval,h,eu];refine sl aS G ?_;cases d:bB (ay (bZ a l))
   ·rw[d,cZ]at f;have:kP l ys=false:=f.symm;exact gY (a2 d this)
   rw[d,cm]at f;have J:addN (bZ a l)=ay (bZ a l):=by simp[addN,d]
   rw[J];cases s:ay (bZ a l)==0
   ·simp only[tN,s]at b;refine sm (a5 d gr s r j) ?_;refine bg ?_;refine ah.u n f ?_;exact gY b
   ·simp only[tN,s]at b;refine sm (a4 d gr s r) ?_;refine ah.u n f ?_;exact gY b
 ·intro _ h f;rw[jw]at f;have:kP l ys=true:=f.symm;simp only[go_sem,seval,h,this,eu]<;>simp
theorem qW(l:List aK)(a:l.length<2^29):Sq 240 [] [.sl 4 (l.map aK.cells)] [] (.bI [.sl 4 ((fG l).map aK.cells),.int .i64 (jk l)]):=by
 refine Spec.frozen (M8 l a) [0] rfl ?_;intro r;rcases r with _|r<;>rfl
def n7(l:bu)(g:List aK)(a:aC):Int:=ay (eP a l.bs::bZ a g)
def uU(a:aC)(n:Int):List bU:=if n==0 then[]else[⟨a.kind,a.who,a.cur,n⟩]
def Fh(l:bu)(g:List aK)(ys:List aC):List bU:=ys.flatMap λa=>uU a (n7 l g a)
def uF(l:bu)(g:List aK)(ys:List aC):Bool:=ys.all λa=>bB (n7 l g a)
def vZ(l:bu)(g:List aK)(ys:List aC):Bool:=ys.any λa=>decide (n7 l g a<a.floor)
def eK(l:bu)(id:Int)(g:List aK):Int:=
 if l.okB then(if within id 1 1099511627776 then(if id<=l.last then 18 else if lJ g=0 then(if uF l g fP then(if vZ l g fP then 13 else 0)else 1)else lJ g)else 3)else 14
def iQ(l:bu)(id:Int)(g:List aK):bu:=if eK l id g=0 then⟨id,Fh l g fP⟩else⟨0,[]⟩
def Oc(a:aC)(n:Int):(uU a n).length<=1:=by unfold uU;split<;>simp
def P6(l:bu)(g:List aK)(ys:List aC):(Fh l g ys).length<=ys.length:=by
 have:=gH (f:=λa=>uU a (n7 l g a)) (m:=1) (λa=>Oc _ _) ys;simpa[Fh]using this
def Gw{g:List aK}(h:lJ g=0):qF g=true/\uB g=true/\g.length<=64:=by
 unfold lJ at h;split at h
 ·cases h
 split at h
 ·cases h
 split at h
 ·split at h
  ·rename_i h1 h2 a b;exact⟨a,b,by omega⟩
  ·cases h
 ·cases h
theorem Na(l:bu)(id:Int)(g:List aK)(hl:l.bs.length<2^30)(hr:∀b∈l.bs,b.fB)(hg:g.length<2^29):Sq 165 [] [.agg l.cells,.int .i64 id,.sl 4 (g.map aK.cells)] [.own 4 ((iQ l id g).bs.map bU.cells)] (.bI [.agg [.int .i64 (iQ l id g).last,.ref 0],.int .i64 (eK l id g)]):=by
 have B:=lz l hl hr;have hC:=Ij g ak;have t:=CL;have U:=λa=>ou l a hl;have Z:=λa=>TR (a:=a) hr;simp only[bu.cells,aC.cells]at B U |-;refine bp 116 3 [.cell 6 37,.tmp 7] mixed func165 ?_;refine sc aS B ?_;cases o:l.okB
 ·have e:eK l id g=14:=by simp[eK,o]
  simp only[go_sem,seval,iQ,e]<;>simp
 cases j:within id 1 1099511627776
 ·have e:eK l id g=3:=by simp[eK,o,j]
  simp only[within,Bool.and_eq_false_iff,gv]at j;by_cases h:id<1
  ·have d:decide (id<1)=true:=dY h;simp only[go_sem,seval,d,iQ,e]<;>simp
  ·have d:decide (id<1)=false:=iA h;have E:decide (1099511627776<id)=true:=iy;simp only[go_sem,seval,d,E,iQ,e]<;>simp
 have T:decide (id<1)=false:=by simp only[within,bQ,bz]at j;exact iE
 have E:decide (1099511627776<id)=false:=by simp only[within,bQ,bz]at j;exact iE
 by_cases F:id<=l.last
 ·have O:decide (id<=l.last)=true:=dY F;have e:eK l id g=18:=by simp[eK,o,j,F]
  simp only[go_sem,seval,T,E,O,iQ,e]<;>simp
 have O:decide (id<=l.last)=false:=iA F;refine sc (a3 T E O) hC ?_;cases N:lJ g==0
 ·have G:lJ g≠0:=su N;have e:eK l id g=lJ g:=by simp[eK,o,j,F,G]
  have e2:iQ l id g=⟨0,[]⟩:=by simp[iQ,e,G]
  exact gY (a4 gr N e e2)
 have G:lJ g=0:=su N;have e:eK l id g=if uF l g fP then(if vZ l g fP then 13 else 0)else 1:=by simp[eK,o,j,F,G]
 have Y:=vQ (Gw G).1;have V:=BQ;simp only[iQ];rw[e];clear e B hC j T E O;obtain⟨ys,J⟩:=aN (fP);rw[<-J]at t V |-;clear J;refine sm (a2 gr N) ?_;refine aG.gE [704] [] false sT ?_;refine s0 ?_;refine cz.gF t ?_;refine s0 ?_;refine aF.wu ys.length [2,3,6,8,10,12] [64,112,144,720] (λi=>[(13,.I i),(11,.bool (vZ l g (ys.take i)))]) (λi=>[(176,.box [.I id,.ref 1792]),(1792,.own 4 ((Fh l g (ys.take i)).map bU.cells))]) (λi=>uF l g (ys.drop i)=uF l g ys) rfl ?_ ?_ ?_
 ·simp only[go_sem,seval]<;>simp[Fh,vZ]
 ·intro k _ w X s q;obtain⟨a,ha,p,hlk⟩:=oc (c:=aC.cells) ys w;have f:Fh l g (ys.take (k+1))=Fh l g (ys.take k)++_:=iq _ w;have m:vZ l g (ys.take (k+1))=(vZ l g (ys.take k)||decide (n7 l g ys[k]<ys[k].floor)):=by
   simp only[vZ];rw[jU w,any_append];simp
  have hjl:=P6 l g (ys.take k);have hjt:(ys.take k).length=k:=by simp;omega
  rw[cg w,<-ha]at q;simp only[uF,all_cons]at q;rw[<-ha]at f m
  have hA:=eM (eP a l.bs::bZ a g) (λn K=>by
   rcases mem_cons.1 K with rfl|K
   ·exact Z a
   ·exact jN (λx S=>tH (Y x S).2) n K) (by have:=bN (λx:aK=>x.bq.same a) aK.cu g;simp only[length_cons,bZ];omega)
  have hF:=yX a;have H:=U a;simp only[aC.cells]at p hF H;clear U;refine sc (a2 X p) H ?_;refine aF.wv g.length [2,3,6,8,10,11,12,13] [64,112,144,176,720,1792] (λi=>[(15,.I i),(14,.ref 1312)]) (λi=>[(1312,.own 1 (ints (eP a l.bs::bZ a (g.take i))))]) ?_ ?_ ?_
  ·simp only[go_sem,seval]<;>simp[bZ,pick,ints]
  ·intro i _ Q W M _;have R:=br (c:=aK.cells) g Q;have A:ints (bZ a (g.take (i+1)))=ints (bZ a (g.take i))++_:=fK (λx:aK=>x.bq.same a) aK.cu Q;have y:=bN (λx:aK=>x.bq.same a) aK.cu (g.take i);have hlt:(g.take i).length=i:=by simp;omega
   have hli:(i:Int)<(g.length:Int):=ak
   have y:(eP a l.bs::bZ a (g.take i)).length<=i+1:=by simp only[length_cons,bZ];omega
   obtain⟨x,S⟩:=aN (g[i]);rw[<-S]at A;have A:ints (eP a l.bs::bZ a (g.take (i+1)))=ints (eP a l.bs::bZ a (g.take i))++(if x.bq.same a then[[.I x.cu]]else[]):=congrArg (λz:List (List D)=>([D.I (eP a l.bs)]:List D)::z) A;obtain⟨L,B⟩:=aN (eP a l.bs::bZ a (g.take i));have P:Sq 191 [] [.agg [.I x.kind,.I x.who,.I x.cur],.agg [.I a.kind,.I a.who,.I a.cur]] [] (.bool (x.bq.same a)):=vi x.bq a;rw[<-B]at A;rw[<-S]at R;rw[<-B]at y |-;simp only[aK.cells]at R;refine sc (a3 W R p) P ?_;cases hb:x.bq.same a
   ·simp only[hb,iM,if_false,if_true,append_nil]at A;refine sm M ?_;refine ah.v Q ?_;exact gY A
   ·simp only[hb,iM,if_false,if_true,append_nil]at A;simp only[go_sem,seval,M,az,R];refine bg ?_;refine ah.v Q ?_;exact gY A
  ·intro _ r _;simp only[go_sem,seval,r,eu];refine sl aS hA ?_;have P:ay (eP a l.bs::bZ a g)=n7 l g a:=rfl;have K:bB (n7 l g a)=true->addN (eP a l.bs::bZ a g)=n7 l g a:=λh=>by simp[addN,P,h]
   rw[P];cases o:bB (n7 l g a)
   ·rw[o,cZ]at q;have:uF l g ys=false:=q.symm;exact gY (a2 o this)
   rw[o,cm]at q;rw[K o];cases C:vZ l g (ys.take k)
   case true =>
    rw[C,Bool.true_or]at m;cases j:n7 l g a==0
    ·simp only[uU,j]at f;refine sm (a5 o C gr j (a2 s p)) ?_;refine bg ?_;refine ah.u w q ?_;exact gY (a2 f m)
    ·simp only[uU,j]at f;refine sm (a5 o C gr j s) ?_;refine ah.u w q ?_;exact gY (a2 f m)
   rw[C,Bool.false_or]at m;refine sm (a4 o C gr p) ?_;refine sc aS hF ?_;cases j:n7 l g a==0
   ·simp only[uU,j]at f;refine sm (a4 j s p gr) ?_;refine bg ?_;refine ah.u w q ?_;exact gY (a2 f m)
   ·simp only[uU,j]at f;refine sm (a3 j gr s) ?_;refine ah.u w q ?_;exact gY (a2 f m)
 ·intro _ r q;rw[jw]at q;have:uF l g ys=true:=q.symm;cases b5:vZ l g ys
  ·simp only[go_sem,seval,r,this,eu,b5]<;>simp
  ·simp only[go_sem,seval,r,this,eu,b5]<;>simp
theorem vh(l:bu)(id:Int)(g:List aK)(c:l.bs.length<2^30)(d:∀b∈l.bs,b.fB)(a:g.length<2^29):Sq 165 [] [.agg l.cells,.int .i64 id,.sl 4 (g.map aK.cells)] [] (.bI [.agg (iQ l id g).cells,.int .i64 (eK l id g)]):=by
 refine Spec.frozen (Na l id g c d a) [0] rfl ?_;intro r;rcases r with _|r<;>rfl
def D8(n:Int):right [n]=bB n:=by simp[right]
def Aq(l:List aK)(hl:l.length<2^40):Sq 138 [] [.sl 4 (l.map aK.cells)] [] (.bool (qF l)):=by
 refine bp 23 1 [.tmp 2] mixed func138 ?_;refine s0 ?_;refine aF.w1 l.length 7 [5,6] [112] (λi _=>qF (l.drop i)=qF l) rfl ?_ ?_
 ·intro i _ g e h a;obtain⟨x,o,m,hli⟩:=oc (c:=aK.cells) l g;have k:=th x.bq;have d:=fq [x.cu] sT;rw[D8]at d;simp only[ints,map_cons,map_nil]at d;rw[cg g,<-o]at a;have n:sA x=(aC.right ⟨x.kind,x.who,x.cur⟩&&bB x.cu):=rfl;simp only[qF,all_cons,n]at a;simp only[aK.cells]at m;simp only[aC.cells,aK.bq]at k;refine sc (a2 e m) k ?_;cases b:aC.right ⟨x.kind,x.who,x.cur⟩
  ·rw[b]at a;simp only[go_sem,seval,qF,<-a,cZ]
  refine sl aS d ?_;cases j:bB x.cu
  ·rw[b,j]at a;simp only[go_sem,seval,qF,<-a,cZ,Bool.and_false]
  rw[b,j,Bool.and_self,cm]at a;refine sm h ?_;refine ah.u g a ?_;exact jq
 ·intro _ f a;rw[jw]at a;simp only[go_sem,seval,f,<-a];rfl
theorem Pq(x y:aK):∃c:Int,Sq 140 [] [.agg x.cells,.agg y.cells] [] (.int .i64 c)/\decide (c<0)=x.bq.less y.bq:=by
 have a:=uS x.bq y.bq;have d:=uS y.bq x.bq;obtain⟨e,g⟩:∃b,b=x.bq.less y.bq:=⟨_,rfl⟩
 obtain⟨f,e2⟩:∃b,b=y.bq.less x.bq:=⟨_,rfl⟩
 rw[<-g]at a |-;rw[<-e2]at d;simp only[aC.cells,aK.bq]at a d;simp only[aK.cells];cases e
 ·cases f
  ·refine⟨0,?_,rfl⟩;refine bp 17 2 [.tmp 4] mixed func140 ?_;refine sc aS a ?_;exact sZ aS d
  ·refine⟨1,?_,rfl⟩;refine bp 17 2 [.tmp 4] mixed func140 ?_;refine sc aS a ?_;exact sZ aS d
 ·refine⟨-1,?_,rfl⟩;refine bp 17 2 [.tmp 4] mixed func140 ?_;exact sZ aS a
def nu(a:aC)(y:aK):Bool:=y.bq.same a
def NA(a:aC)(l:List aK):List Int:=(l.takeWhile (nu a)).map aK.cu
def Ck:Nat->List aK->List aK->List aK×Int
 | 0,_,out=>(out,0)
 | _+1,[],out=>(out,0)
 |n+1,x::r,out=>if bB (ay (NA x.bq (x::r)))then Ck n ((x::r).dropWhile (nu x.bq)) (out++tN x.bq (ay (NA x.bq (x::r))))else([],1)
def rF(x y:aK):Bool:=x.bq.less y.bq
def xO(l:List aK):List aK×Int:=if qF l then Ck (LQ rF l).length (LQ rF l) []else([],3)
theorem NT{A:Type}{p:A->Bool}:∀{l:List A} {k:Nat},k<=l.length->(∀m y,m<k->l[m]?=some y->p y=true)->(∀y,l[k]?=some y->p y=false)->l.takeWhile p=l.take k/\l.dropWhile p=l.drop k
 | [],k,_,_,_=>by simp
 |x::r,0,_,_,h=>by
  have:=h x rfl;simp[takeWhile,dropWhile,this]
 |x::r,k+1,hk,h1,h2=>by
  have c:=h1 0 x ak rfl;simp only[length_cons]at hk;obtain⟨b,e2⟩:=NT (l:=r) (k:=k) ak (λm y hm a=>h1 (m+1) y ak a) (λy a=>h2 y a);simp[takeWhile,dropWhile,c,b,e2]
def O0(n:Nat)(out:List aK):Ck n [] out=(out,0):=by cases n<;>rfl
theorem Ph(l:List aK)(hl:l.length<2^29):Sq 48 [] [.sl 4 (l.map aK.cells)] [.own 4 ((xO l).1.map aK.cells)] (.bI [.ref 0,.int .i64 (xO l).2]):=by
 have hM:=Aq l ak;refine bp 68 1 [.tmp 2,.tmp 3] mixed func48 ?_;refine sc aS hM ?_;cases Q:qF l
 ·simp only[go_sem,seval,xO,Q]<;>simp
 have hS:=NL rF 140 Pq l ak;have X:=zl rF l;obtain⟨S,J⟩:=aN (LQ rF l);have hj:xO l=Ck S.length S []:=by rw[xO,Q,aq rfl,<-J]
 rw[hj];rw[<-J]at hS X;have hSl:S.length=l.length:=X.length_eq;have L:∀x∈S,bB x.cu=true:=λx F=>(vQ Q x (X.mem_iff.1 F)).2;obtain⟨N,Z⟩:=aN (S.length);rw[<-Z];refine sg [272] aS hS ?_;have g:S.length=N:=Z.symm;refine aF.yN (T:=Nat×Nat×List aK) [4] [272] (λs=>[(6,.I ((s.2.1:Nat):Int)),(5,.ref 1072)]) (λs=>[(1072,.own 4 (s.2.2.map aK.cells))]) (λs=>s.2.1<=N/\N-s.2.1<=s.1/\s.2.2.length<=s.2.1/\Ck s.1 (S.drop s.2.1) s.2.2=Ck N S []) (λs=>N-s.2.1) (N,0,[]) ⟨Nat.zero_le _,Nat.sub_le _ _,fS _,rfl⟩ ?_ ?_
 ·exact kG
 ·rintro⟨n,i,out⟩ ⟨h1,h2,h3,h4⟩;dsimp only at h1 h2 h3 h4;rcases dN i N with hi|hi
  ·have R:decide ((i:Int)<(N:Int))=true:=iy;have C:i<S.length:=ak
   obtain⟨x,F⟩:=mm C;have e:S.drop i=x::S.drop (i+1):=by
    rw[drop_eq_getElem_cons C];congr 1;rw[fj C]at F;exact Option.some.inj F
   have P:=(ng (c:=aK.cells) F F).1;obtain⟨j,rfl⟩:∃j,n=j+1:=⟨n-1,by omega⟩
   simp only[aK.cells]at P;refine sm (a3 g R P) ?_;refine bg ?_;refine aF.yN (T:=Nat) [4,5,8] [144,272,1072] (λk=>[(6,.I ((i+k:Nat):Int)),(7,.ref 816)]) (λk=>[(816,.own 1 (ints (((S.drop i).take k).map aK.cu)))]) (λk=>i+k<=N/\∀m y,m<k->(S.drop i)[m]?=some y->nu x.bq y=true) (λk=>N-(i+k)) 0 ⟨by omega,by intro m y P;omega⟩ ?_ ?_
   ·simp only[go_sem,seval,Nat.add_zero]<;>simp[ints]
   ·rintro k ⟨k1,k2⟩;have htk:((S.drop i).take k).length<=k:=by rw[fZ];omega
    rcases dN (i+k) N with hik|hik
    ·have O:decide (((i+k:Nat):Int)<(N:Int))=true:=iy;have wk:IntKind.wrap .i64 (((i+k:Nat):Int)+1)=((i+(k+1):Nat):Int):=fQ;have K:i+k<S.length:=ak
     obtain⟨y,r⟩:=mm K;have G:(S.drop i)[k]?=some y:=by rw[getElem?_drop];exact r
     have D:=(ng (c:=aK.cells) r r).1;have q:(y.kind==x.kind&&(y.who==x.who&&y.cur==x.cur))=nu x.bq y:=rfl;simp only[aK.cells]at D;cases H:nu x.bq y
     ·rw[H]at q;have W:0<k:=by
       rcases Nat.eq_zero_or_pos k with U|U
       ·subst U;rw[Nat.add_zero,F]at r;obtain rfl:=Option.some.inj r;rw[nu,IM.2 ⟨rfl,rfl,rfl⟩]at H;cases H
       ·exact U
      have M:=NT (p:=nu x.bq) (l:=S.drop i) (k:=k) (by rw[iN];omega) k2 (λz t=>by rw[G]at t;obtain rfl:=Option.some.inj t;exact H);refine sm (a4 g O D q) ?_;refine bg ?_;have w:NA x.bq (x::S.drop (i+1))=((S.drop i).take k).map aK.cu:=by rw[<-e,NA,M.1]
      have B:(x::S.drop (i+1)).dropWhile (nu x.bq)=S.drop (i+k):=by rw[<-e,M.2,drop_drop]
      rw[e,Ck,w,B]at h4;have b:∀a∈((S.drop i).take k).map aK.cu,bB a=true:=by
       intro a V;obtain⟨y,r,rfl⟩:=mem_map.1 V;exact L y (mem_of_mem_drop (mem_of_mem_take r))
      have v:(((S.drop i).take k).map aK.cu).length<=N:=by rw[qE,fZ,iN];omega
      obtain⟨A,u⟩:=aN (((S.drop i).take k).map aK.cu);rw[<-u]at h4 b v |-;have d:=jr A ak;have E:right A=true:=bL.2 b;rw[oI,oa,E,cm,aq rfl]at d;refine gf.id ?_;refine sl aS d ?_;cases f:bB (ay A)
      ·rw[f,au wG]at h4;rw[<-h4];exact gY f
      ·rw[f,aq rfl]at h4;cases o:ay A==0
       ·rw[tN,o,au wG]at h4;refine sm (a3 f gr o) ?_;refine bg ?_;refine⟨(j,i+k,out++[⟨x.bq.kind,x.bq.who,x.bq.cur,ay A⟩]),⟨k1,by show N-(i+k)<=j;omega,by show(out++[_]).length<=i+k;rw[cR];simp only[length_cons,length_nil];omega,h4⟩,?_,by show N-(i+k)<N-i;omega⟩;simp only[go_sem,seval,jF]<;>simp[aK.bq]
       ·rw[tN,o,aq rfl,append_nil]at h4;refine sm (a3 f gr o) ?_;refine bg ?_;refine⟨(j,i+k,out),⟨k1,by show N-(i+k)<=j;omega,by show out.length<=i+k;omega,h4⟩,?_,by show N-(i+k)<N-i;omega⟩;exact kG
     ·rw[H]at q;simp only[go_sem,seval,g,O,D,q,az,wk];refine bg ?_;have Y:((S.drop i).take (k+1)).map aK.cu=((S.drop i).take k).map aK.cu++[y.cu]:=by rw[take_add_one,G,jF];rfl
      refine⟨k+1,⟨by omega,?_⟩,?_,by show N-(i+(k+1))<N-(i+k);omega⟩
      ·intro m z P t;rcases dN m k with h|h
       ·exact k2 m z h t
       ·obtain rfl:m=k:=ak
        rw[G]at t;obtain rfl:=Option.some.inj t;exact H
      ·simp only[go_sem,seval,Y,ints,jF,map_cons,map_nil]
    ·have O:decide (((i+k:Nat):Int)<(N:Int))=false:=iE;have W:0<k:=ak
     have M:=NT (p:=nu x.bq) (l:=S.drop i) (k:=k) (by rw[iN];omega) k2 (λz t=>by rw[getElem?_eq_none (by rw[iN];omega)]at t;cases t);refine sm (a2 g O) ?_;refine bg ?_;have w:NA x.bq (x::S.drop (i+1))=((S.drop i).take k).map aK.cu:=by rw[<-e,NA,M.1]
     have B:(x::S.drop (i+1)).dropWhile (nu x.bq)=S.drop (i+k):=by rw[<-e,M.2,drop_drop]
     rw[e,Ck,w,B]at h4;have b:∀a∈((S.drop i).take k).map aK.cu,bB a=true:=by
      intro a V;obtain⟨y,r,rfl⟩:=mem_map.1 V;exact L y (mem_of_mem_drop (mem_of_mem_take r))
     have v:(((S.drop i).take k).map aK.cu).length<=N:=by rw[qE,fZ,iN];omega
     obtain⟨A,u⟩:=aN (((S.drop i).take k).map aK.cu);rw[<-u]at h4 b v |-;have d:=jr A ak;have E:right A=true:=bL.2 b;rw[oI,oa,E,cm,aq rfl]at d;refine gf.id ?_;refine sl aS d ?_;cases f:bB (ay A)
     ·rw[f,au wG]at h4;rw[<-h4];exact gY f
     ·rw[f,aq rfl]at h4;cases o:ay A==0
      ·rw[tN,o,au wG]at h4;refine sm (a3 f gr o) ?_;refine bg ?_;refine⟨(j,i+k,out++[⟨x.bq.kind,x.bq.who,x.bq.cur,ay A⟩]),⟨k1,by show N-(i+k)<=j;omega,by show(out++[_]).length<=i+k;rw[cR];simp only[length_cons,length_nil];omega,h4⟩,?_,by show N-(i+k)<N-i;omega⟩;simp only[go_sem,seval,jF]<;>simp[aK.bq]
      ·rw[tN,o,aq rfl,append_nil]at h4;refine sm (a3 f gr o) ?_;refine bg ?_;refine⟨(j,i+k,out),⟨k1,by show N-(i+k)<=j;omega,by show out.length<=i+k;omega,h4⟩,?_,by show N-(i+k)<N-i;omega⟩;exact kG
  ·have R:decide ((i:Int)<(N:Int))=false:=iE;rw[drop_of_length_le ak,O0]at h4;rw[<-h4];exact gY (a2 g R)
def Vi:Ord rF where
 asy x y h:=by
  unfold rF at *;rw[Yh];rw[MK]at h;unfold aC.lt at *;omega
 Wv x y z h1 h2:=by
  unfold rF at *;rw[Yh]at *;unfold aC.lt at *;omega
theorem Ym{A:Type}{p:A->Bool}:∀{l:List A} {y:A},y∈l.takeWhile p->p y=true
 | [],y,h=>by cases h
 |x::r,y,h=>by
  rw[takeWhile_cons]at h;split at h
  ·rename_i a;rcases mem_cons.1 h with rfl|h
   ·exact a
   ·exact Ym h
  ·cases h
def qM{a:aC}{y:aK}:nu a y=true↔y.bq=a:=by
 unfold nu;rw[IM];obtain⟨a1,a2,a3⟩:=a;generalize y.bq=b;obtain⟨b1,b2,b3⟩:=b;rw[aC.mk.injEq]
def zJ(a:aC)(l m:List aK):bZ a (l++m)=bZ a l++bZ a m:=by simp[bZ,pick]
theorem wW{a:aC}:∀{l:List aK},(∀y∈l,y.bq≠a)->bZ a l=[]
 | [],_=>rfl
 |y::r,h=>by
  have c:y.bq.same a=false:=by
   cases d:y.bq.same a with
   |false=>rfl
   |true=>exact absurd (qM.1 d) (h y sT)
  have b:=wW (l:=r) λz e=>h z (by simp[e]);simp only[bZ,pick]at b |-;rw[flatMap_cons,b,au (by rw[c];exact wG)];rfl
theorem Hx{a:aC}:∀{l:List aK},(∀y∈l,y.bq=a)->bZ a l=l.map aK.cu
 | [],_=>rfl
 |y::r,h=>by
  have c:y.bq.same a=true:=qM.2 (h y sT);have b:=Hx (l:=r) λz d=>h z (by simp[d]);simp only[bZ,pick]at b |-;rw[flatMap_cons,b,aq c];rfl
def Bd(l:List aK)(a:aC)(K:List aC):oh l (a::K)=tN a (ay (bZ a l))++oh l K:=by simp[oh]
theorem yH{l m:List aK}:∀{K:List aC},(∀b∈K,ay (bZ b l)=ay (bZ b m))->oh l K=oh m K
 | [],_=>rfl
 |a::K,h=>by rw[Bd,Bd,h a sT,yH λb c=>h b (by simp[c])]
theorem wU{l m:List aK}:∀{K:List aC},(∀b∈K,ay (bZ b l)=ay (bZ b m))->kP l K=kP m K
 | [],_=>rfl
 |a::K,h=>by
  have c:=wU (l:=l) (m:=m) (K:=K) λb d=>h b (by simp[d]);simp only[kP,all_cons]at c |-;rw[h a sT,c]
theorem Cl:∀(K:List aC)(n:Nat)(S out:List aK),S.length<=n->K.Pairwise (λa b=>a.less b=true)->xH rF S->(∀x∈S,x.bq∈K)->Ck n S out=if kP S K then(out++oh S K,0)else([],1)
 | [],n,S,out,hn,hK,hS,hm=>by
  cases S with
  |nil=>rw[O0];simp[kP,oh]
  |cons x r=>exact absurd (hm x sT) sT
 |a::K,n,S,out,hn,hK,hS,hm=>by
  rw[kB]at hK;obtain⟨q,i⟩:=hK;obtain⟨T,p⟩:=aN (S.takeWhile (nu a));obtain⟨R,s⟩:=aN (S.dropWhile (nu a));have c:S=T++R:=by rw[p,s,takeWhile_append_dropWhile]
  have u:∀y∈T,y.bq=a:=λy d=>qM.1 (Ym (p ▸ d));have o:xH rF R:=by
   have:xH rF (T++R):=c ▸ hS;exact(pairwise_append.1 this).2.1
  have j:∀y∈R,y.bq∈K:=by
   cases f:R with
   |nil=>intro y d;cases d
   |cons z r =>
    have w:nu a z=false:=by
     have:=head?_dropWhile_not (nu a) S;rw[<-s,f]at this;simpa using this
    have G:z.bq∈K:=by
     rcases mem_cons.1 (hm z (by rw[c,f];simp))with h|h
     ·rw[qM.2 h]at w;cases w
     ·exact h
    intro y d;rcases mem_cons.1 (hm y (by rw[c,f];simp only[mem_append];exact .inr d))with h|h
    ·exfalso;rcases mem_cons.1 d with rfl|d
     ·rw[qM.2 h]at w;cases w
     ·have A:=q z.bq G;rw[f]at o;have H:rF y z=false:=(kB.1 o).1 y d;rw[rF,h,A]at H;cases H
    ·exact h
  have v:∀b∈K,b≠a:=by
   intro b g h;have:=q b g;rw[h,MK]at this;unfold aC.lt at this;omega
  have B:bZ a R=[]:=wW λy d=>v _ (j y d);have D:bZ a T=T.map aK.cu:=Hx u;have C:bZ a S=T.map aK.cu:=by rw[c,zJ,B,D,append_nil]
  have t:∀b∈K,ay (bZ b S)=ay (bZ b R):=by
   intro b g;rw[c,zJ,wW (l:=T) λy d=>by rw[u y d];exact(v b g).symm];rfl
  rw[show kP S (a::K)=(bB (ay (bZ a S))&&kP S K)from rfl,Bd,C,wU t,yH t];cases S with
  |nil =>
   have k:T=[]:=p;have e:R=[]:=s;have:=Cl K n [] out (Nat.zero_le _) i Pairwise.nil (by intro x I;cases I);rw[this,k,e];rfl
  |cons x r =>
   cases g:nu a x with
   |false =>
    have k:T=[]:=by rw[p,takeWhile_cons,g];rfl
    have e:R=x::r:=by rw[s,dropWhile_cons,g];rfl
    have:=Cl K n (x::r) out hn i hS (by rw[<-e];exact j);rw[this,k,e];rfl
   |true =>
    obtain⟨n,rfl⟩:∃m,n=m+1:=⟨n-1,by simp only[length_cons]at hn;omega⟩
    have F:x.bq=a:=qM.1 g;have E:R.length<=n:=by
     have A:T=x::r.takeWhile (nu a):=by rw[p,takeWhile_cons,g];rfl
     have:=congrArg length c;rw[cR,A,length_cons,length_cons]at this;simp only[length_cons]at hn;omega
    have:=Cl K n R (out++tN a (ay (T.map aK.cu))) E i o j;rw[Ck,F,NA,<-p,<-s,this];cases bB (ay (T.map aK.cu))<;>simp
theorem Wm{l m:List Int}(h:l.Perm m):ay l=ay m:=by
 induction h with
 |nil=>rfl
 |cons x _ ih=>simp only[ay,ih]
 |swap x y l=>simp only[ay];omega
 |trans _ _ h1 h2=>rw[h1,h2]
def K8(a:aC){l m:List aK}(h:l.Perm m):ay (bZ a l)=ay (bZ a m):=Wm (by unfold bZ pick;exact h.flatMap_right _)
def Pf(f:∀x:aC,x.right=true->x∈fP)(g:fP.Pairwise λa b=>a.less b=true)(l:List aK):xO l=(fG l,jk l):=by
 unfold xO fG jk;cases e:qF l
 ·rfl
 ·have c:=zl rF l;have d:=vQ e;rw[aq rfl,Cl fP _ _ [] (fS _) g (NN Vi l) (λx h=>f _ (d x (c.mem_iff.1 h)).1)];rw[wU (m:=l) λb _=>K8 b c,yH (m:=l) λb _=>K8 b c];cases kP l fP<;>rfl
theorem JJ(l:List aK)(hl:l.length<2^30):Sq 49 [] [.sl 4 (l.map aK.cells)] [] (.int .i64 (lJ l)):=by
 have F:=Aq l ak;refine bp 53 1 [.tmp 2] mixed func49 ?_;refine s0 ?_;by_cases b:l.length=0
 ·have d:((l.length:Int)==0)=true:=by simp[b]
  have e:lJ l=2:=by simp[lJ,b]
  exact dL (a2 d e)
 have r:((l.length:Int)==0)=false:=su b;by_cases s:64<l.length
 ·have d:decide (64<(l.length:Int))=true:=iy;have e:lJ l=5:=by simp only[lJ];rw[au b,aq s]
  exact dL (a3 r d e)
 have D:decide (64<(l.length:Int))=false:=iE;refine sc (a2 r D) F ?_;cases f:qF l
 ·have e:lJ l=3:=by simp only[lJ];rw[au b,au s,f];rfl
  exact dL e
 have e:lJ l=if uB l then 0 else 12:=by simp only[lJ];rw[au b,au s,f];rfl
 have z:=vQ f;rw[e];clear e r D F;refine s0 ?_;refine aF.w1 3 21 [0] [] (λi _=>∀c<i,(ay (iO (c:Nat) l)==0)=true) sT ?_ ?_
 ·intro c _ g a B t;have a:decide ((c:Int)<3)=true:=a;have E:=jr (iO c l) (by have:=bN (λx:aK=>x.cur==(c:Int)) aK.cu l;unfold iO;omega);have A:right (iO c l)=true:=bL.2 (jN λx C=>(z x C).2);rw[oI,oa,A,cm,aq rfl]at E;have b:=aec (iO c l);rw[addN]at b;refine sm a ?_;refine aF.wv l.length [0,3,21,24,25] [416] (λi=>[(26,.I i),(4,.ref 640)]) (λi=>[(640,.own 1 (ints (iO c (l.take i))))]) ?_ ?_ ?_
  ·simp only[go_sem,seval]<;>simp[iO,pick,ints]
  ·intro i _ p w n _;have q:=br (c:=aK.cells) l p;have m:ints (iO c (l.take (i+1)))=_:=fK (λx:aK=>x.cur==(c:Int)) aK.cu p;have j:=bN (λx:aK=>x.cur==(c:Int)) aK.cu (l.take i);have hlt:(l.take i).length=i:=by simp;omega
   have hli:(i:Int)<(l.length:Int):=ak
   have j:(iO c (l.take i)).length<=i:=by unfold iO;omega
   obtain⟨x,C⟩:=aN (l[i]);rw[<-C]at m q;simp only[aK.cells]at q;refine sm (a2 w q) ?_;refine bg ?_;cases G:x.cur==(c:Int)
   ·simp only[G,iM,if_false,if_true,append_nil]at m;refine sm n ?_;refine ah.v p ?_;simp only[go_sem,seval,m]<;>simp[iO]
   ·simp only[G,iM,if_false,if_true,append_nil]at m;simp only[go_sem,seval,n,az,q];refine bg ?_;refine ah.v p ?_;simp only[go_sem,seval,m]<;>simp[iO]
  ·intro _ y _;simp only[go_sem,seval,y,eu];refine sl aS E ?_;cases f:bB (ay (iO c l))
   ·have:uB l=false:=by
     rw[uB,all_eq_false];exact⟨c,mem_range.2 g,by rw[f]at b;rw[<-b];simp⟩
    exact dL (a3 gr f this)
   rw[f,cm,aq rfl]at b;cases o:ay (iO c l)==0
   ·have:uB l=false:=by
     rw[uB,all_eq_false];exact⟨c,mem_range.2 g,by rw[o];exact wG⟩
    exact dL (a4 f gr o this)
   refine sm (a4 f gr o B) ?_;refine ah.u g ?_ ?_
   ·intro k hk;rcases dN k c with h|h
    ·exact t k h
    ·obtain rfl:k=c:=ak
     exact o
   ·exact jq
 ·intro _ a t;have a:decide ((3:Int)<3)=false:=a;have:uB l=true:=bL.2 λc g=>t c (mem_range.1 g);exact dL (a2 a this)
def B9(d:aU):Bool:=(within d.who 1 16&&within d.cur 0 2)&&within d.cu 0 4611686018427387904
def we(d:aU):Sq 212 [] [.agg d.cells] [] (.bool (B9 d)):=by
 have c1:=iY d.who;have c2:=iX d.cur;have c3:=iw d.cu 0 4611686018427387904;simp only[aU.cells,B9];refine bp 16 1 [.tmp 2] mixed func212 ?_;refine sc aS c1 ?_;cases q1:within d.who 1 16
 ·simp only[go_sem,seval,cZ]
 refine sc aS c2 ?_;cases q2:within d.cur 0 2
 ·simp only[go_sem,seval,cZ,Bool.and_false]
 refine s0 ?_;refine bg ?_;refine aG.bC c3 ?_;simp only[go_sem,seval,cm]
def Gi(xs:List aI)(d:aU)(a:Int):Int:=if pY dh cq xs then(if B9 d&&within a 0 1099511627776 then 0 else 3)else 14
def EY(xs:List aI)(d:aU)(a:Int):List aI:=if Gi xs d a=0 then Ee xs ⟨d.who,d.cur,d.cu,if eW d.who d.cur xs<0 then a else(qq d.who d.cur xs).till⟩ 16 else[]
theorem Qd(xs:List aI)(d:aU)(a:Int)(m:xs.length<2^30):Sq 180 [] [.sl 4 (xs.map aI.cells),.agg d.cells,.int .i64 a] [] (.bI [.sl 4 ((EY xs d a).map aI.cells),.int .i64 (Gi xs d a)]):=by
 have c1:=vl xs m;have c2:=we d;have c3:=iw a 0 1099511627776;have c4:=pg d.who d.cur xs ak;have b:=λx=>EK xs x m;simp only[aU.cells,aI.cells]at c2 b |-;refine bp 38 3 [.tmp 6,.tmp 7] mixed func180 ?_;refine sc aS c1 ?_;cases g:pY dh cq xs
 ·have e:Gi xs d a=14:=by simp[Gi,g]
  simp only[go_sem,seval,EY,e]<;>simp
 refine sc aS c2 ?_;cases i:B9 d
 ·have e:Gi xs d a=3:=by simp[Gi,g,i]
  simp only[go_sem,seval,EY,e]<;>simp
 refine sc aS c3 ?_;cases j:within a 0 1099511627776
 ·have e:Gi xs d a=3:=by simp[Gi,g,i,j]
  simp only[go_sem,seval,EY,e]<;>simp
 have e:Gi xs d a=0:=by simp[Gi,g,i,j]
 simp only[EY,e];refine sc aS c4 ?_;by_cases h:eW d.who d.cur xs<0
 ·have o:decide (0<=eW d.who d.cur xs)=false:=iE;have b:=b ⟨d.who,d.cur,d.cu,a⟩;rw[aq h];exact sZ o b
 ·obtain⟨k,l,f,_⟩:=tB h;have n:=br (c:=aI.cells) xs l;have hlk:(k:Int)<(xs.length:Int):=ak
  have p:qq d.who d.cur xs=xs[k]:=by rw[qq,f];simp[l]
  have b:=b ⟨d.who,d.cur,d.cu,xs[k].till⟩;simp only[aI.cells]at n;rw[au h,p];exact sZ (a2 f n) b
def vR(xs:List aI)(d:aU):Int:=if pY dh cq xs then(if B9 d then 0 else 3)else 14
def PG(xs:List aI)(d:aU):aI:=if eW d.who d.cur xs<0 then⟨d.who,d.cur,0,0⟩else{ qq d.who d.cur xs with cu:=max ((qq d.who d.cur xs).cu-d.cu) 0 }
def xU(xs:List aI)(d:aU):List aI:=if vR xs d=0 then Ee xs (PG xs d) 16 else[]
def CO(xs:List aI)(d:aU)(m:xs.length<2^30):Sq 160 [] [.sl 4 (xs.map aI.cells),.agg d.cells] [] (.bI [.sl 4 ((xU xs d).map aI.cells),.int .i64 (vR xs d)]):=by
 have c1:=vl xs m;have c2:=we d;have c4:=pg d.who d.cur xs ak;have a:=λx=>EK xs x m;simp only[aU.cells,aI.cells]at c2 a |-;refine bp 46 2 [.tmp 4,.tmp 5] mixed func160 ?_;refine sc aS c1 ?_;cases g:pY dh cq xs
 ·have e:vR xs d=14:=by simp[vR,g]
  simp only[go_sem,seval,xU,e]<;>simp
 refine sc aS c2 ?_;cases i:B9 d
 ·have e:vR xs d=3:=by simp[vR,g,i]
  simp only[go_sem,seval,xU,e]<;>simp
 have e:vR xs d=0:=by simp[vR,g,i]
 simp only[xU,e];refine sc aS c4 ?_;by_cases h:eW d.who d.cur xs<0
 ·have j:decide (eW d.who d.cur xs<0)=true:=dY h;have a:=a ⟨d.who,d.cur,0,0⟩;simp only[PG];rw[aq h];exact sZ j a
 ·obtain⟨k,l,b,_⟩:=tB h;obtain⟨x,q,n,hlk⟩:=oc (c:=aI.cells) xs l;have o:qq d.who d.cur xs=xs[k]:=by rw[qq,b];simp[l]
  have f:=Mp g l;simp only[dh,within,bQ,bz]at f;simp only[B9,within,bQ,bz]at i;simp only[PG];rw[au h,o];rw[<-q]at f |-;have p:IntKind.wrap .i64 (x.cu-d.cu)=x.cu-d.cu:=gO ak ak;have a:=a { x with cu:=max (x.cu-d.cu) 0 };simp only[aI.cells]at n a;have j:decide ((k:Int)<0)=false:=iE;exact sZ (a4 b j n p) a
def tL(n:Int)(xs:List aI):List aI:=xs.flatMap λx=>if x.till<=n then[x]else[]
def Ez(n:Int)(xs:List aI):List aI:=xs.flatMap λx=>if x.till<=n then[]else[x]
theorem Qh(n:Int)(xs:List aI)(hl:xs.length<2^30):Sq 182 [] [.int .i64 n,.sl 4 (xs.map aI.cells)] [.own 4 ((tL n xs).map aI.cells),.own 4 ((Ez n xs).map aI.cells)] (.bI [.ref 0,.ref 1]):=by
 refine bp 38 2 [.tmp 4,.tmp 5] mixed func182 ?_;refine s0 ?_;refine aF.wv xs.length [0,1] [] (λi=>[(8,.I i),(6,.ref 464),(7,.ref 576)]) (λi=>[(464,.own 4 ((tL n (xs.take i)).map aI.cells)),(576,.own 4 ((Ez n (xs.take i)).map aI.cells))]) ?_ ?_ ?_
 ·simp only[go_sem,seval]<;>simp[tL,Ez]
 ·intro i _ f e g _;have h:=br (c:=aI.cells) xs f;have hli:(i:Int)<(xs.length:Int):=ak
  have hlt:(xs.take i).length=i:=by simp;omega
  have a:tL n (xs.take (i+1))=tL n (xs.take i)++_:=iq _ f;have b:Ez n (xs.take (i+1))=Ez n (xs.take i)++_:=iq _ f;have j:(tL n (xs.take i)).length<=1*(xs.take i).length:=gH (λx=>by split<;>simp) _;have k:(Ez n (xs.take i)).length<=1*(xs.take i).length:=gH (λx=>by split<;>simp) _;obtain⟨L,m⟩:=aN (tL n (xs.take i));obtain⟨M,o⟩:=aN (Ez n (xs.take i));obtain⟨x,p⟩:=aN (xs[i]);rw[<-m]at a j;rw[<-o]at b k;rw[<-p]at a b h;rw[<-m,<-o];simp only[aI.cells]at h;by_cases q:x.till<=n
  ·have d:decide (x.till<=n)=true:=dY q;rw[aq q]at a b;refine sm (a4 e h d g) ?_;refine bg ?_;refine ah.v f ?_;exact gY (a2 a b)
  ·have d:decide (x.till<=n)=false:=iA q;rw[au q]at a b;refine sm (a4 e h d g) ?_;refine bg ?_;refine ah.v f ?_;exact gY (a2 a b)
 ·intro _ l _;simp only[go_sem,seval,l,eu]
theorem Nj(n:Int)(xs:List aI)(a:xs.length<2^30):Sq 182 [] [.int .i64 n,.sl 4 (xs.map aI.cells)] [] (.bI [.sl 4 ((tL n xs).map aI.cells),.sl 4 ((Ez n xs).map aI.cells)]):=by
 refine Spec.frozen (Qh n xs a) [0,1] rfl ?_;intro r;rcases r with _| _|r<;>rfl
def dR(xs:List aI)(ws:List Int):List aI:=xs.flatMap λx=>if sI ws x.who then[]else[x]
def y9(xs:List aI)(ws:List Int)(hl:xs.length<2^30)(hs:ws.length<2^30):Sq 184 [] [.sl 4 (xs.map aI.cells),.sl 1 (ints ws)] [.own 4 ((dR xs ws).map aI.cells)] (.ref 0):=by
 refine bp 45 2 [.tmp 4] mixed func184 ?_;refine s0 ?_;refine aF.wv xs.length [0,1] [] (λi=>[(6,.I i),(5,.ref 704)]) (λi=>[(704,.own 4 ((dR (xs.take i) ws).map aI.cells))]) ?_ ?_ ?_
 ·simp only[go_sem,seval]<;>simp[dR]
 ·intro i _ l n g _;have e:=br (c:=aI.cells) xs l;have hli:(i:Int)<(xs.length:Int):=ak
  have hlt:(xs.take i).length=i:=by simp;omega
  have d:dR (xs.take (i+1)) ws=dR (xs.take i) ws++_:=iq _ l;have m:(dR (xs.take i) ws).length<=1*(xs.take i).length:=gH (λx=>by split<;>simp) _;obtain⟨L,q⟩:=aN (dR (xs.take i) ws);obtain⟨x,r⟩:=aN (xs[i]);rw[<-q]at d m |-;rw[<-r]at d e;simp only[aI.cells]at e;simp only[go_sem,seval,n,az];refine aF.wv ws.length [0,1,5,6] [704] (λk=>[(8,.I k),(7,.bool (sI (ws.take k) x.who))]) (λ_=>[]) ?_ ?_ ?_
  ·simp only[go_sem,seval]<;>simp[sI]
  ·intro k _ f a h _;have b:=Cm ws x.who f;have hlk:(k:Int)<(ws.length:Int):=ak
   cases p:sI (ws.take k) x.who
   ·rw[p,Bool.false_or]at b;simp only[go_sem,seval,az,a,ints_at ws f,e,h];refine bg ?_;refine ah.v f ?_;exact dL b
   ·rw[p,Bool.true_or]at b;simp only[go_sem,seval,az,a,ints_at ws f,e,h];refine bg ?_;refine ah.v f ?_;exact dL b
  ·intro _ a _;cases j:sI ws x.who
   ·simp only[j,iM,if_false]at d;simp only[go_sem,seval,az,a,eu,j,e,g];refine bg ?_;refine ah.v l ?_;exact gY d
   ·simp only[j,if_true,append_nil]at d;simp only[go_sem,seval,az,a,eu,j,e,g];refine bg ?_;refine ah.v l ?_;exact gY d
 ·intro _ o _;simp only[go_sem,seval,az,o,eu]
def Fw(xs:List aI)(ws:List Int)(a:xs.length<2^30)(b:ws.length<2^30):Sq 184 [] [.sl 4 (xs.map aI.cells),.sl 1 (ints ws)] [] (.sl 4 ((dR xs ws).map aI.cells)):=by
 refine Spec.frozen (y9 xs ws a b) [0] rfl ?_;intro r;rcases r with _|r<;>rfl
def tS(l:List aU):Bool:=l.all λd=>bB d.cu
def Az(l:List aU)(hl:l.length<2^40):Sq 238 [] [.sl 3 (l.map aU.cells)] [] (.bool (tS l)):=by
 refine bp 17 1 [.tmp 2] mixed func238 ?_;refine s0 ?_;refine aF.w1 l.length 3 [0] [] (λi _=>tS (l.drop i)=tS l) rfl ?_ ?_
 ·intro i _ e b f a;obtain⟨x,m,h,hli⟩:=oc (c:=aU.cells) l e;have j:=fy x.cu;rw[cg e,<-m]at a;have k:tS (x::l.drop (i+1))=(bB x.cu&&tS (l.drop (i+1))):=rfl;rw[k]at a;simp only[aU.cells]at h;refine sc (a2 b h) j ?_;cases g:bB x.cu
  ·rw[g,cZ]at a;simp only[go_sem,seval,<-a]
  rw[g,cm]at a;refine sm f ?_;refine ah.u e a ?_;exact jq
 ·intro _ d a;rw[jw]at a;rw[<-a];refine sm d ?_;rfl
def GM(w c:Int)(d:aU):Bool:=d.who==w&&d.cur==c
def yD(w c:Int)(l:List aU):List Int:=pick (GM w c) aU.cu l
def nD(w c:Int)(l:List aU):Int:=if tS l then(if bB (ay (yD w c l))then 0 else 1)else 3
def qz(w c:Int)(l:List aU):Int:=if nD w c l=0 then ay (yD w c l)else 0
theorem Ay(w c:Int)(l:List aU)(hl:l.length<2^29):Sq 186 [] [.int .i64 w,.int .i64 c,.sl 3 (l.map aU.cells)] [] (.bI [.int .i64 (qz w c l),.int .i64 (nD w c l)]):=by
 have r:=Az l ak;refine bp 53 3 [.tmp 6,.tmp 7] mixed func186 ?_;refine sc aS r ?_;cases n:tS l
 ·have e:nD w c l=3:=by simp[nD,n]
  simp only[go_sem,seval,qz,e]<;>simp
 have e:nD w c l=if bB (ay (yD w c l))then 0 else 1:=by simp[nD,n]
 have p:∀x∈l,bB x.cu=true:=λx j=>bL.1 n x j;have s:=eM (yD w c l) (jN λx j=>tH (p x j)) (by have:=bN (GM w c) aU.cu l;unfold yD;omega);simp only[qz];rw[e];clear e r;refine s0 ?_;refine aF.wv l.length [0,1,2] [] (λi=>[(9,.I i),(8,.ref 720)]) (λi=>[(720,.own 1 (ints (yD w c (l.take i))))]) ?_ ?_ ?_
 ·simp only[go_sem,seval]<;>simp[yD,pick,ints]
 ·intro i _ g b d _;obtain⟨x,j,k,hli⟩:=oc (c:=aU.cells) l g;have a:ints (yD w c (l.take (i+1)))=ints (yD w c (l.take i))++_:=fK (GM w c) aU.cu g;have h:(yD w c (l.take i)).length<=(l.take i).length:=bN (GM w c) aU.cu (l.take i);have hlt:(l.take i).length=i:=by simp;omega
  obtain⟨L,t⟩:=aN (yD w c (l.take i));rw[<-t]at a h |-;rw[<-j]at a;simp only[aU.cells]at k;simp only[GM]at a;cases f:x.who==w
  ·simp only[f,cZ,iM,if_false,append_nil]at a;refine sm (a4 b k f d) ?_;refine bg ?_;refine ah.v g ?_;exact dL a
  cases m:x.cur==c
  ·simp only[f,m,Bool.and_false,iM,if_false,append_nil]at a;refine sm (a5 b k f m d) ?_;refine bg ?_;refine ah.v g ?_;exact dL a
  simp only[f,m,Bool.and_self,if_true]at a;simp only[go_sem,seval,b,k,f,m,d,az];refine bg ?_;refine ah.v g ?_;exact dL a
 ·intro _ o _;simp only[go_sem,seval,o,eu];refine sl aS s ?_;cases q:bB (ay (yD w c l))
  ·simp only[go_sem,seval,q,addN]<;>simp
  ·simp only[go_sem,seval,q,addN]<;>simp
def vH(a b:aU):Bool:=decide (a.who<b.who)||(a.who==b.who&&decide (a.cur<b.cur))
def KG{a b:aU}:vH a b=true↔a.who<b.who\/(a.who=b.who/\a.cur<b.cur):=by simp[vH]
def aU.zero:aU:=⟨0,0,0⟩
def Yq(f:Bool)(last:aU)(s:Bool×aU)(d:aU):Bool:=(f||vH last d)&&(!s.1||vH d s.2)
def qj(f:Bool)(last:aU):List aU->Bool×aU->Bool×aU
 | [],s=>s
 |d::r,s=>qj f last r (if Yq f last s d then(true,d)else s)
theorem LH{f:Bool}{last:aU}:∀{l:List aU} {s:Bool×aU},(qj f last l s).1=true->qj f last l s=s\/((qj f last l s).2∈l/\(f||vH last (qj f last l s).2)=true)
 | [],s,_=>.inl rfl
 |d::r,s,h=>by
  simp only[qj]at h |-;rcases LH (l:=r) h with e| ⟨h1,h2⟩
  ·rw[e];split
   ·rename_i a;simp only[Yq,bQ]at a;exact .inr ⟨by simp,a.1⟩
   ·exact .inl rfl
  ·exact .inr ⟨by simp[h1],h2⟩
def Xx(f:Bool)(last:aU)(l:List aU):Nat:=l.countP λd=>f||vH last d
theorem Xy{A:Type}{p q:A->Bool}:∀{l:List A} {d:A},(∀x,p x=true->q x=true)->d∈l->q d=true->p d=false->l.countP p<l.countP q
 | [],d,_,h,_,_=>by cases h
 |x::r,d,hpq,hm,hq,hp=>by
  have hle:r.countP p<=r.countP q:=countP_mono_left λy _ h=>hpq y h;simp only[countP_cons];rcases mem_cons.1 hm with rfl|hm
  ·rw[hq,hp];simp;omega
  ·have:=Xy hpq hm hq hp;by_cases a:p x=true
   ·rw[aq a,aq (hpq x a)];omega
   ·rw[au a];omega
def UM{f:Bool}{last d:aU}{l:List aU}(c:d∈l)(a:(f||vH last d)=true):Xx false d l<Xx f last l:=by
 refine Xy (λx b=>?_) c a ?_
 ·rw[Bool.false_or]at b;cases f
  ·rw[Bool.false_or]at a |-;rw[KG]at b a |-;omega
  ·rfl
 ·rw[Bool.false_or];cases h:vH d d
  ·rfl
  ·rw[KG]at h;omega
def Yp(l:List aU)(d:aU):List aU:=if qz d.who d.cur l==0 then[]else[⟨d.who,d.cur,qz d.who d.cur l⟩]
def MO(l:List aU):Nat->Bool->aU->List aU->List aU×Int
 | 0,_,_,out=>(out,0)
 |n+1,f,last,out =>
  if(qj f last l (false,.zero)).1 then
   (if nD (qj f last l (false,.zero)).2.who (qj f last l (false,.zero)).2.cur l=0 then MO l n false (qj f last l (false,.zero)).2 (out++Yp l (qj f last l (false,.zero)).2)
    else([],nD (qj f last l (false,.zero)).2.who (qj f last l (false,.zero)).2.cur l))
  else(out,0)
def oZ(l:List aU):List aU×Int:=if tS l then MO l (l.length+1) true .zero []else([],3)
def KY(w c:Int)(l:List aU):bB (qz w c l)=true:=by
 unfold qz;split
 ·rename_i h;unfold nD at h;split at h
  ·split at h
   ·assumption
   ·cases h
  ·cases h
 ·rfl
theorem Sz(l:List aU)(G:l.length<2^29):Sq 175 [] [.sl 3 (l.map aU.cells)] [.own 3 ((oZ l).1.map aU.cells)] (.bI [.ref 0,.int .i64 (oZ l).2]):=by
 have C:=Az l ak;have y:=λw c=>Ay w c l G;have t:∀a b:aU,Sq 239 [] [.agg a.cells,.agg b.cells] [] (.bool (vH a b)):=λa b=>B8 a b;refine bp 78 1 [.tmp 2,.tmp 3] mixed func175 ?_;refine sc aS C ?_;cases B:tS l
 ·have e:oZ l=([],3):=by simp[oZ,B]
  exact gY e
 have e:oZ l=MO l (l.length+1) true .zero []:=by simp[oZ,B]
 obtain⟨R,z⟩:=aN (oZ l);rw[<-z];rw[<-z]at e;clear z C;refine s0 ?_;refine aF.yN (T:=Nat×aU×List aU) [0,5] [] (λs=>[(6,.I ((l.length+1-s.1:Nat):Int)),(4,.ref 1248)]) (λs=>[(96,.box s.2.1.cells),(1248,.own 3 (s.2.2.map aU.cells))])
  (λs=>Xx (s.1==l.length+1) s.2.1 l+1<=s.1/\s.1<=l.length+1/\s.2.2.length+s.1<=l.length+1/\MO l s.1 (s.1==l.length+1) s.2.1 s.2.2=R) (λs=>s.1) (l.length+1,.zero,[]) ?_ ?_ ?_
 ·refine⟨?_,fS _,by simp,by rw[e];simp⟩;have:Xx (l.length+1==l.length+1) aU.zero l<=l.length:=countP_le_length;show Xx (l.length+1==l.length+1) aU.zero l+1<=l.length+1;omega
 ·simp only[go_sem,seval,aU.zero]<;>simp
 rintro⟨n,last,out⟩ ⟨h1,h2,h3,j⟩;dsimp only at h1 h2 h3 j |-;obtain⟨m,rfl⟩:∃m,n=m+1:=⟨n-1,by omega⟩
 have F:l.length+1-(m+1)=l.length-m:=ak
 obtain⟨f,D⟩:=aN ((m+1==l.length+1));have u:(((l.length-m:Nat):Int)==0)=f:=by rw[D,nJ];simp;omega
 rw[<-D]at h1 j;rw[F];refine s0 ?_;refine aF.sK (S:=Bool×aU) l.length [0,4,5,6,8] [96,1248] (λi s=>[(9,.I i),(7,.bool s.1)]) (λi s=>[(144,.box s.2.cells)]) (λi s=>qj f last (l.drop i) s=qj f last l (false,.zero)) (false,.zero) rfl ?_ ?_ ?_
 ·simp only[go_sem,seval,aU.zero]<;>simp
 ·rintro i ⟨s1,s2⟩ hi hdi hwi g;obtain⟨x,H,q,hli⟩:=oc (c:=aU.cells) l hi;have E:=t last x;have A:=t x s2;rw[cg hi,<-H]at g;simp only[qj,Yq]at g;simp only[aU.cells]at q E A;clear y t j;cases f
  ·refine sc (a3 hdi q u) E ?_;cases o:vH last x
   ·simp only[o,Bool.false_or,cZ,iM,if_false]at g;refine sm (a2 o hwi) ?_;refine bg ?_;refine ah.jT (s1,s2) hi g ?_;exact jq
   cases s1
   ·simp only[o,Bool.false_or,cm,Bool.not_false,Bool.true_or,if_true]at g;refine sm (a3 o q hwi) ?_;refine bg ?_;refine ah.jT (true,x) hi g ?_;exact jq
   refine sc (a2 o q) A ?_;cases k:vH x s2
   ·simp only[o,k,Bool.false_or,cm,Bool.not_true,iM,if_false]at g;refine sm (a2 k hwi) ?_;refine bg ?_;refine ah.jT (true,s2) hi g ?_;exact jq
   simp only[o,k,Bool.false_or,cm,Bool.not_true,Bool.or_true,if_true]at g;refine sm (a3 k hwi q) ?_;refine bg ?_;refine ah.jT (true,x) hi g ?_;exact jq
  ·cases s1
   ·simp only[Bool.true_or,cm,Bool.not_false,if_true]at g;refine sm (a4 hdi q u hwi) ?_;refine bg ?_;refine ah.jT (true,x) hi g ?_;exact jq
   refine sc (a3 hdi q u) A ?_;cases k:vH x s2
   ·simp only[k,Bool.true_or,cm,Bool.not_true,Bool.or_false,iM,if_false]at g;refine sm (a2 k hwi) ?_;refine bg ?_;refine ah.jT (true,s2) hi g ?_;exact jq
   simp only[k,Bool.true_or,cm,Bool.not_true,Bool.or_true,if_true]at g;refine sm (a3 k hwi q) ?_;refine bg ?_;refine ah.jT (true,x) hi g ?_;exact jq
 ·rintro⟨s1,s2⟩ hdx g;rw[jw]at g;have g:qj f last l (false,.zero)=(s1,s2):=g.symm;simp only[MO,g]at j;have y:=y s2.who s2.cur;have hin:=aP.1 (KY s2.who s2.cur l);cases s1
  ·simp only[iM,if_false]at j;rw[<-j];exact dL hdx
  have r:s2∈l/\(f||vH last s2)=true:=by
   have:=LH (f:=f) (last:=last) (l:=l) (s:=(false,.zero)) (by rw[g]);rw[g]at this;rcases this with h|h
   ·cases h
   ·exact h
  have hcn:=UM r.1 r.2;simp only[if_true]at j;refine sc hdx y ?_;by_cases o:nD s2.who s2.cur l=0
  case neg =>
   have d:(nD s2.who s2.cur l==0)=false:=su o;rw[au o]at j;rw[<-j];refine sm (a2 gr d) ?_;all_goals simp
  rw[aq o]at j;have v:IntKind.wrap .i64 (((l.length-m:Nat):Int)+1)=((l.length+1-m:Nat):Int):=fQ;have p:(m==l.length+1)=false:=by simp;omega
  simp only[Yp]at j;cases k:qz s2.who s2.cur l==0
  ·simp only[k,iM,if_false]at j;refine sm (a4 gr o k v) ?_;refine bg ?_;refine⟨(m,s2,out++[⟨s2.who,s2.cur,qz s2.who s2.cur l⟩]),⟨?_,by omega,by simp;omega,by simp only[p];exact j⟩,?_,by simp⟩
   ·simp only[p];omega
   ·exact kG
  ·simp only[k,if_true,append_nil]at j;refine sm (a4 gr o k v) ?_;refine bg ?_;refine⟨(m,s2,out),⟨?_,by omega,by simp;omega,by simp only[p];exact j⟩,?_,by simp⟩
   ·simp only[p];omega
   ·exact jq
theorem EI(l:List aU)(a:l.length<2^29):Sq 175 [] [.sl 3 (l.map aU.cells)] [] (.bI [.sl 3 ((oZ l).1.map aU.cells),.int .i64 (oZ l).2]):=by
 refine Spec.frozen (Sz l a) [0] rfl ?_;intro r;rcases r with _|r<;>rfl
theorem TO(l:List aU):∀(n:Nat)(f:Bool)(last:aU)(out:List aU),(∀d∈out,bB d.cu=true)->∀d∈(MO l n f last out).1,bB d.cu=true
 | 0,_,_,out,h=>h
 |n+1,f,last,out,h=>by
  simp only[MO];split
  ·split
   ·refine TO l n _ _ _ ?_;intro d a;rcases mem_append.1 a with a|a
    ·exact h d a
    ·unfold Yp at a;split at a
     ·cases a
     ·obtain rfl:=gV.1 a;exact KY _ _ _
   ·intro d a;cases a
  ·exact h
theorem PV(l:List aU):∀(n:Nat)(f:Bool)(last:aU)(out:List aU),(MO l n f last out).1.length<=out.length+n
 | 0,_,_,out=>fS _
 |n+1,f,last,out=>by
  simp only[MO];split
  ·split
   ·refine Nat.le_trans (PV l n _ _ _) ?_;have:∀d,(Yp l d).length<=1:=λd=>by unfold Yp;split<;>simp
    rw[cR];have:=this (qj f last l (false,.zero)).2;omega
   ·simp
  ·simp
def MP(l:List aU):(∀d∈(oZ l).1,bB d.cu=true)/\(oZ l).1.length<=l.length+1:=by
 unfold oZ;split
 ·exact⟨TO l _ _ _ _ sT,Nat.le_trans (PV l _ _ _ _) sT⟩
 ·exact⟨by simp,by simp⟩
def vU(l:List aU):List aK:=l.flatMap λd=>[⟨2,d.who,d.cur,d.cu⟩,⟨5,0,d.cur,-d.cu⟩]
def Er(l:List aU):Bool:=l.all λd=>aC.right ⟨2,d.who,d.cur⟩
def Cu(l:List aU):Int:=if Er l then(if(oZ l).2=0 then jk (vU (oZ l).1)else(oZ l).2)else 3
def yP(l:List aU):List aK:=if Cu l=0 then fG (vU (oZ l).1)else[]
def Lh(l:List aU):(vU l).length<=2*l.length:=gH (λd=>by simp) l
theorem Fu(l:List aU)(hl:l.length<2^27):Sq 176 [] [.sl 3 (l.map aU.cells)] [] (.bI [.sl 4 ((yP l).map aK.cells),.int .i64 (Cu l)]):=by
 have p:=EI l ak;obtain⟨r,k⟩:=MP l;have s:=qW (vU (oZ l).1) (by have:=Lh (oZ l).1;omega);have e0:yP l=if Er l&&(oZ l).2==0 then fG (vU (oZ l).1)else[]:=by
  by_cases o:Er l=true
  ·by_cases h:(oZ l).2=0
   ·by_cases B:jk (vU (oZ l).1)=0
    ·simp[yP,Cu,o,h,B]
    ·simp[yP,Cu,o,h,B,fG]
   ·simp[yP,Cu,o,h]
  ·simp[yP,Cu,o]
 simp only[Cu];rw[e0];clear e0;obtain⟨m,f⟩:=aN ((oZ l).1);obtain⟨e,t⟩:=aN ((oZ l).2);rw[<-f]at p r k s;rw[<-t]at p;rw[<-f,<-t];clear f t;refine bp 79 1 [.tmp 2,.tmp 3] mixed func176 ?_;refine s0 ?_;refine aF.w1 l.length 4 [0] [] (λi _=>Er (l.drop i)=Er l) rfl ?_ ?_
 ·intro i _ g j n a;obtain⟨x,A,f,y⟩:=oc (c:=aU.cells) l g;have C:=jm ⟨2,x.who,x.cur⟩;rw[cg g,<-A]at a;have o:Er (x::l.drop (i+1))=(aC.right ⟨2,x.who,x.cur⟩&&Er (l.drop (i+1))):=rfl;rw[o]at a;simp only[aU.cells]at f;simp only[aC.cells]at C;clear p s;refine sc (a2 j f) C ?_;cases q:aC.right ⟨2,x.who,x.cur⟩
  ·rw[q,cZ]at a;rw[<-a];exact kG
  rw[q,cm]at a;refine sm n ?_;refine ah.u g a ?_;exact jq
 intro _ b a;rw[jw]at a;rw[<-a,show Er []=true from rfl];clear a;refine sc b p ?_;by_cases q:e=0
 case neg =>
  have d:(e==0)=false:=su q;simp only[go_sem,seval,bne,d,au q];all_goals simp
 rw[q,show(if((0:Int)==0)=true then fG (vU m)else[])=fG (vU m)from rfl,aq rfl];refine s0 ?_;refine bg ?_;clear p b;refine aF.wv m.length [5] [] (λi=>[(8,.I i),(7,.ref 1200)]) (λi=>[(1200,.own 4 ((vU (m.take i)).map aK.cells))]) ?_ ?_ ?_
 ·simp only[go_sem,seval]<;>simp[vU]
 ·intro i _ g j n _;obtain⟨x,A,f,y⟩:=oc (c:=aU.cells) m g;have z:vU (m.take (i+1))=vU (m.take i)++_:=iq _ g;have k:=Lh (m.take i);have hlt:(m.take i).length=i:=by simp;omega
  have w:=aP.1 (r m[i] (dS g));obtain⟨L,D⟩:=aN (vU (m.take i));rw[<-D]at z k |-;rw[<-A]at z w;have E:IntKind.wrap .i64 (0-x.cu) = -x.cu:=fQ;simp only[aU.cells]at f;clear s;refine sm (a4 j f E n) ?_;refine bg ?_;refine ah.v g ?_;exact gY z
 ·intro _ b _;simp only[go_sem,seval,b,eu];refine bg ?_;refine aG.gE [1200] [] false sT ?_;refine s0 ?_;refine cz.gF s ?_;exact jq
def Av(l:List Int)(hl:l.length<2^60):Sq 285 [] [.sl 1 (ints l)] [] (.bool (right l)):=by
 refine bp 16 1 [.tmp 2] mixed func285 ?_;simp only[go_sem,seval,az];refine aF.w1 l.length 3 [0] [] (λi _=>right (l.drop i)=right l) rfl ?_ ?_
 ·intro i _ d b e a;have f:=ints_at l d;have hli:(i:Int)<(l.length:Int):=ak
  obtain⟨x,g⟩:=aN (l[i]);have h:=fy x;rw[cg d,<-g]at a;rw[<-g]at f;have j:right (x::l.drop (i+1))=(bB x&&right (l.drop (i+1))):=rfl;rw[j]at a;simp only[go_sem,seval,az,b,f];refine sc aS h ?_;cases q:bB x
  ·rw[q,cZ]at a;rw[<-a];simp only[go_sem,seval]
  rw[q,cm]at a;simp only[go_sem,seval,e];refine ah.u d a ?_;simp only[go_sem,seval]
 ·intro _ c a;rw[jw]at a;rw[<-a];simp only[go_sem,seval,az,c];rfl
def sQ(l:List Int):Bool:=l.all λx=>!decide (x<0)
def tD:Int->List Int->List Int
 | _,[]=>[]
 |t,c::r=>min t c::tD (t-min t c) r
def wR:Int->List Int->Int
 |t,[]=>t
 |t,c::r=>wR (t-min t c) r
def iP(t:Int)(l:List Int):Int:=if(!decide (t<0)&&bB t)&&right l then(if sQ l then(if 1024<l.length then 5 else 0)else 3)else 3
def JU(t:Int)(l:List Int)(hl:l.length<2^30):Sq 251 [] [.int .i64 t,.sl 1 (ints l)] [.own 1 (ints (if iP t l=0 then tD t l else[]))] (.bI [.ref 0,.int .i64 (if iP t l=0 then wR t l else 0),.int .i64 (iP t l)]):=by
 have c1:=fy t;have c2:=Av l ak;refine bp 58 2 [.tmp 4,.tmp 5,.tmp 6] mixed func251 ?_;by_cases r:t<0
 ·have d:decide (t<0)=true:=dY r;have e:iP t l=3:=by simp[iP,r]
  rw[e];simp only[go_sem,seval,d]<;>simp[ints]
 have y:decide (t<0)=false:=iA r;refine sc y c1 ?_;cases v:bB t
 ·have e:iP t l=3:=by simp[iP,v]
  rw[e];simp only[go_sem,seval]<;>simp[ints]
 refine sc aS c2 ?_;cases w:right l
 ·have e:iP t l=3:=by simp[iP,w]
  rw[e];simp only[go_sem,seval]<;>simp[ints]
 have e:iP t l=if sQ l then(if 1024<l.length then 5 else 0)else 3:=by simp only[iP,y,v,w];rfl
 rw[e];clear e c1 c2;have k:=λx g=>aP.1 (bL.1 w x g);have htin:=aP.1 v;simp only[go_sem,seval,az];refine aF.w1 l.length 7 [0,1] [] (λi _=>sQ (l.drop i)=sQ l) rfl ?_ ?_
 ·intro i _ f c h a;have j:=ints_at l f;have m:(i:Int)<(l.length:Int):=ak
  obtain⟨x,g⟩:=aN (l[i]);rw[cg f,<-g]at a;rw[<-g]at j;have B:sQ (x::l.drop (i+1))=(!decide (x<0)&&sQ (l.drop (i+1))):=rfl;rw[B]at a;by_cases q:x<0
  ·have d:decide (x<0)=true:=dY q;rw[d,Bool.not_true,cZ]at a;rw[<-a];simp only[go_sem,seval,az,c,j,d];refine bg ?_;all_goals simp[ints]
  ·have d:decide (x<0)=false:=iA q;rw[d,Bool.not_false,cm]at a;simp only[go_sem,seval,az,c,j,d,h];refine bg ?_;refine ah.u f a ?_;simp only[go_sem,seval]
 intro _ b a;rw[jw]at a;have a:sQ l=true:=a.symm;have n:∀x∈l,0<=x:=λx g=>by
  have:=bL.1 a x g;simp only[gD,gv]at this;omega
 by_cases z:1024<l.length
 ·have d:decide (1024<(l.length:Int))=true:=iy;simp only[go_sem,seval,az,b,a,aq z,d];refine bg ?_;all_goals simp[ints]
 have A:decide (1024<(l.length:Int))=false:=iE;simp only[go_sem,seval,az,b,a,au z,A];refine bg ?_;clear b a;refine aF.sK (S:=Int×List Int) l.length [1] [] (λi s=>[(9,.int .i64 i),(0,.int .i64 s.1),(8,.ref 848)]) (λi s=>[(848,.own 1 (ints s.2))]) (λi s=>(s.2++tD s.1 (l.drop i)=tD t l/\wR s.1 (l.drop i)=wR t l)/\(0<=s.1/\s.1<=t)/\s.2.length=i) (t,[]) ⟨⟨rfl,rfl⟩,by omega,rfl⟩ ?_ ?_ ?_
 ·simp only[go_sem,seval]<;>simp[ints]
 ·rintro i ⟨u,L⟩ f c h ⟨⟨h1,h2⟩,h3,h4⟩;dsimp only at h1 h2 h3 h4;have j:=ints_at l f;have m:(i:Int)<(l.length:Int):=ak
  have o:=k _ (dS f);have p:=n _ (dS f);obtain⟨x,g⟩:=aN (l[i]);rw[cg f,<-g]at h1 h2;rw[<-g]at j o p;simp only[tD,wR]at h1 h2;have C:IntKind.wrap .i64 (u-min u x)=u-min u x:=gO ak ak;simp only[go_sem,seval,az,c,j,C,h];refine bg ?_;refine ah.jT (u-min u x,L++[min u x]) f ⟨⟨by rw[dz];exact h1,h2⟩,by omega,by simp[h4]⟩ ?_;simp only[go_sem,seval]<;>simp[ints]
 ·rintro⟨u,L⟩ b ⟨⟨h1,h2⟩,h3,h4⟩;dsimp only at h1 h2;rw[jw]at h1 h2;simp only[tD,wR,append_nil]at h1 h2;simp only[go_sem,seval,az,b,if_true,<-h1,<-h2];all_goals simp
theorem x6(t:Int)(l:List Int)(hl:l.length<2^30):Sq 136 [] [.int .i64 t,.sl 1 (ints l)] [] (.int .i64 (iP t l)):=by
 have c1:=fq [t] sT;have c2:=fq l ak;rw[D8]at c1;simp only[ints,map_cons,map_nil]at c1;refine bp 32 2 [.tmp 4] mixed func136 ?_;by_cases m:t<0
 ·have d:decide (t<0)=true:=dY m;have e:iP t l=3:=by simp[iP,m]
  rw[e];exact gY d
 have g:decide (t<0)=false:=iA m;obtain⟨A,n⟩:=aN (bB t);obtain⟨B,o⟩:=aN (right l);obtain⟨E,b⟩:=aN (iP t l);rw[<-b];simp only[iP,g,<-n,<-o]at b;rw[<-n]at c1;rw[<-o]at c2;cases A
 ·have e:E=3:=su b;rw[e];refine WQ g c1
 refine sl g c1 ?_;cases B
 ·have e:E=3:=su b;rw[e];refine sZ aS c2
 have e:E=if sQ l then(if 1024<l.length then 5 else 0)else 3:=su b;rw[e];refine sc aS c2 ?_;simp only[go_sem,seval,az];refine aF.w1 l.length 22 [1,20,21] [352] (λi _=>sQ (l.drop i)=sQ l) rfl ?_ ?_
 ·intro i _ h c k a;have j:=ints_at l h;have hli:(i:Int)<(l.length:Int):=ak
  obtain⟨x,p⟩:=aN (l[i]);rw[cg h,<-p]at a;rw[<-p]at j;have r:sQ (x::l.drop (i+1))=(!decide (x<0)&&sQ (l.drop (i+1))):=rfl;rw[r]at a;by_cases q:x<0
  ·have d:decide (x<0)=true:=dY q;rw[d,Bool.not_true,cZ]at a;rw[<-a];simp only[go_sem,seval,az,c,j,d]
   and_intros<;>first|exact .dq|omega|skip
   all_goals simp[ints]
  ·have d:decide (x<0)=false:=iA q;rw[d,Bool.not_false,cm]at a;simp only[go_sem,seval,az,c,j,d,k];refine bg ?_;refine ah.u h a ?_;exact jq
 ·intro _ f a;have a:sQ l=true:=by rw[<-a,jw];rfl
  rw[a];by_cases q:1024<l.length
  ·have d:decide ((1024:Int)<(l.length:Int))=true:=iy;simp only[go_sem,seval,az,f,d,aq q]<;>simp
  ·have d:decide ((1024:Int)<(l.length:Int))=false:=iE;simp only[go_sem,seval,az,f,d,au q]<;>simp
theorem RQ(t:Int)(l:List Int)(n:l.length<2^30):Sq 43 [] [.int .i64 t,.sl 1 (ints l)] [.own 1 (ints (if iP t l=0 then tD t l else[]))] (.bI [.ref 0,.int .i64 (if iP t l=0 then wR t l else 0),.int .i64 (iP t l)]):=by
 have c1:=x6 t l n;refine bp 35 2 [.tmp 4,.tmp 5,.tmp 6] mixed func43 ?_;by_cases b:iP t l=0
 case neg =>
  have d:(iP t l==0)=false:=su b;rw[au b,au b];refine sc aS c1 ?_;simp only[go_sem,seval,bne,d]<;>simp[ints]
 rw[aq b,aq b,b];rw[b]at c1;unfold iP at b;split at b
 case isFalse=>cases b
 rename_i a;split at b
 case isFalse=>cases b
 rename_i c;simp only[bQ,gD,gv]at a;have f:=λx e=>aP.1 (bL.1 a.2 x e);have htin:=aP.1 a.1.2;have ht0:=a.1.1;have h:∀x∈l,0<=x:=λx e=>by
  have:=bL.1 c x e;simp only[gD,gv]at this;omega
 clear a c b;refine sc aS c1 ?_;simp only[go_sem,seval,az];refine aF.sK (S:=Int×List Int) l.length [16,17] [288] (λi s=>[(18,.I i),(0,.I s.1),(4,.ref 464)]) (λi s=>[(464,.own 1 (ints s.2))]) (λi s=>(s.2++tD s.1 (l.drop i)=tD t l/\wR s.1 (l.drop i)=wR t l)/\(0<=s.1/\s.1<=t)/\s.2.length=i) (t,[]) ⟨⟨rfl,rfl⟩,by omega,rfl⟩ ?_ ?_ ?_
 ·simp only[go_sem,seval]<;>simp[ints]
 ·rintro i ⟨u,L⟩ hi hdi hwi ⟨⟨a,c⟩,h3,h4⟩;dsimp only at a c h3 h4;have m:=ints_at l hi;have hli:(i:Int)<(l.length:Int):=ak
  have j:=f _ (dS hi);have k:=h _ (dS hi);obtain⟨x,e⟩:=aN (l[i]);rw[cg hi,<-e]at a c;rw[<-e]at m j k;simp only[tD,wR]at a c;have o:IntKind.wrap .i64 (u-min u x)=u-min u x:=gO ak ak;have g:min x u=min u x:=ak
  simp only[go_sem,seval,az,hdi,m,g,o,hwi];refine bg ?_;refine ah.jT (u-min u x,L++[min u x]) hi ⟨⟨by rw[dz];exact a,c⟩,by omega,by simp[h4]⟩ ?_;simp only[go_sem,seval]<;>simp[ints]
 ·rintro⟨u,L⟩ hdx ⟨⟨a,c⟩,h3,h4⟩;dsimp only at a c;rw[jw]at a c;simp only[tD,wR,append_nil]at a c;simp only[go_sem,seval,az,hdx,if_true,<-a,<-c];all_goals simp
theorem OW(t:Int)(l:List Int)(a:l.length<2^30):Sq 43 [] [.int .i64 t,.sl 1 (ints l)] [] (.bI [.sl 1 (ints (if iP t l=0 then tD t l else[])),.int .i64 (if iP t l=0 then wR t l else 0),.int .i64 (iP t l)]):=by
 refine Spec.frozen (RQ t l a) [0] rfl ?_;intro r;rcases r with _|r<;>rfl
theorem Vw(a b:aC)(n:Int):Sq 45 [] [.agg a.cells,.agg b.cells,.int .i64 n] [.own 4 ((bR a b n).map aK.cells)] (.ref 0):=by
 have c1:=fq [n] sT;rw[D8]at c1;simp only[ints,map_cons,map_nil]at c1;simp only[aC.cells];refine bp 19 3 [.tmp 6] mixed func45 ?_;obtain⟨A,c⟩:=aN (bB n);rw[<-c]at c1;have d:IntKind.wrap .i64 0=0:=rfl;cases A
 ·refine sl aS c1 ?_;simp only[go_sem,seval,bR,<-c]<;>simp[d]
 ·have hr:=aP.1 c.symm;have w:IntKind.wrap .i64 (0-n) = -n:=fQ;refine sl aS c1 ?_;simp only[go_sem,seval,bR,<-c,w]<;>simp
def mX(t W:Int)(ws:List Int):List Int:=ws.map λw=>t*w/W
def pS(t W:Int)(ws:List Int):List Int:=ws.map λw=>t*w%W
def gW(rs:List Int)(gs:List Bool):Nat->Int
 | 0=>-1
 |i+1=>if !(gs.getD i true)&&(decide (gW rs gs i<0)||decide (rs.getD (gW rs gs i).toNat 0<rs.getD i 0))then(i:Int)else gW rs gs i
def lY(rs:List Int):Nat->List Bool->List Int->List Int
 | 0,_,ps=>ps
 |n+1,gs,ps=>lY rs n (gs.set (gW rs gs rs.length).toNat true) (ps.set (gW rs gs rs.length).toNat (ps.getD (gW rs gs rs.length).toNat 0+1))
def gZ(t:Int)(ws:List Int):Int:=if(!decide (t<0)&&bB t)&&right ws then(if sQ ws then(if 1024<ws.length then 5 else if ay ws=0 then(if t=0 then 0 else 2)else 0)else 3)else 3
def bA(t:Int)(ws:List Int):List Int:=
 if gZ t ws=0 then(if ay ws=0 then replicate ws.length 0 else lY (pS t (ay ws) ws) (t-ay (mX t (ay ws) ws)).toNat (replicate ws.length false) (mX t (ay ws) ws))else[]
theorem DE(rs:List Int):∀(n:Nat)(gs:List Bool)(ps:List Int),(lY rs n gs ps).length=ps.length
 | 0,_,_=>rfl
 |n+1,gs,ps=>by simp only[lY];rw[DE rs n];simp
def jV(t:Int)(ws:List Int):(bA t ws).length<=ws.length:=by
 unfold bA;split
 ·split
  ·simp
  ·rw[DE];simp[mX]
 ·simp
theorem qp(rs:List Int)(gs:List Bool):∀i,-1<=gW rs gs i/\gW rs gs i<i
 | 0=>by simp[gW]
 |i+1=>by
  have:=qp rs gs i;simp only[gW];split<;>omega
theorem FK(rs:List Int)(gs:List Bool):∀i,(∃j<i,gs.getD j true=false)->0<=gW rs gs i
 | 0,h=>by obtain⟨j,d,_⟩:=h;omega
 |i+1,h=>by
  simp only[gW];split
  ·omega
  ·rename_i a;rcases Int.lt_or_le (gW rs gs i) 0 with hb|hb
   ·have c:decide (gW rs gs i<0)=true:=dY hb;rw[c,Bool.true_or,Bool.and_true]at a;obtain⟨j,d,b⟩:=h;rcases dN j i with h2|h2
    ·have:=FK rs gs i ⟨j,h2,b⟩;omega
    ·obtain rfl:j=i:=ak
     rw[b]at a;exact absurd rfl a
   ·exact hb
theorem vD(rs:List Int)(gs:List Bool):∀i,0<=gW rs gs i->gs.getD (gW rs gs i).toNat true=false
 | 0,h=>by simp[gW]at h
 |i+1,h=>by
  simp only[gW]at h |-;split
  ·rename_i a;simp only[bQ,gD]at a;rw[show((i:Int)).toNat=i by omega];exact a.1
  ·rename_i a;rw[au a]at h;exact vD rs gs i h
theorem FN:∀{gs:List Bool},gs.count true<gs.length->∃j<gs.length,gs.getD j true=false
 | [],h=>by simp at h
 |b::r,h=>by
  cases b
  ·exact⟨0,by simp,rfl⟩
  ·simp only[count_cons_self,length_cons]at h;obtain⟨j,hj,a⟩:=FN (gs:=r) ak;exact⟨j+1,by simp;omega,su a⟩
theorem count_set:∀{gs:List Bool} {j:Nat},gs.getD j true=false->(gs.set j true).count true=gs.count true+1
 | [],j,h=>by simp at h
 |b::r,0,h=>by
  have h:b=false:=h;subst h;simp
 |b::r,j+1,h=>by
  have:=count_set (gs:=r) (j:=j) (su h);simp only[set_cons_succ,count_cons,this];omega
theorem jW:∀{l:List Int},(∀x∈l,0<=x)->0<=ay l
 | [],_=>by simp[ay]
 |x::r,h=>by
  have h1:=h x sT;have h2:=jW (l:=r) λy a=>h y (by simp[a]);simp only[ay];omega
theorem xC:∀{l:List Int},(∀x∈l,0<=x)->∀x∈l,x<=ay l
 | [],_,x,a=>by cases a
 |y::r,h,x,a=>by
  have h1:=h y sT;have h2:=jW (l:=r) λz b=>h z (by simp[b]);simp only[ay];rcases mem_cons.1 a with rfl|a
  ·omega
  ·have:=xC (l:=r) (λz b=>h z (by simp[b])) x a;omega
theorem QV:∀{l:List Int},(∀x∈l,0<=x)->∀i,ay (l.take i)<=ay l
 | [],_,i=>by simp
 |y::r,h,0=>by simp only[take_zero];exact jW h
 |y::r,h,i+1=>by
  have:=QV (l:=r) (λz a=>h z (by simp[a])) i;simp only[take_succ_cons,ay];omega
theorem FW{t W:Int}(c:1<=W):∀{l:List Int},(∀x∈l,0<=t*x)->0<=ay (mX t W l)/\W*ay (mX t W l)+ay (pS t W l)=t*ay l/\0<=ay (pS t W l)/\ay (pS t W l)<=(W-1)*l.length
 | [],_=>by simp[mX,pS,ay]
 |x::r,h=>by
  obtain⟨h1,h2,h3,h4⟩:=FW c (l:=r) λy d=>h y (by simp[d]);have b:=h x sT;have a1:=Int.mul_ediv_add_emod (t*x) W;have a2:=Int.emod_nonneg (t*x) (show W≠0 by omega);have a3:=Int.emod_lt_of_pos (t*x) (show 0<W by omega);have a4:0<=t*x/W:=Int.ediv_nonneg b ak;have a:mX t W (x::r)=(t*x/W)::mX t W r:=rfl;have e2:pS t W (x::r)=(t*x%W)::pS t W r:=rfl;rw[a,e2];simp only[ay,length_cons];refine⟨by omega,?_,by omega,?_⟩
  ·rw[Int.mul_add,Int.mul_add];omega
  ·push_cast;rw[Int.mul_add];omega
def tM{t W:Int}{ws:List Int}(e:0<=t)(b:ay ws=W)(a:1<=W)(f:∀x∈ws,0<=x):0<=t-ay (mX t W ws)/\t-ay (mX t W ws)<ws.length:=by
 obtain⟨h1,c,h3,d⟩:=FW (t:=t) a (l:=ws) λx g=>Int.mul_nonneg e (f x g);rw[b,Int.mul_comm t W]at c;have h5:W*(t-ay (mX t W ws))=ay (pS t W ws):=by rw[Int.mul_sub];omega
 have hpos:0<ws.length:=by
  cases ws with
  |nil=>simp[ay]at b;omega
  |cons x r=>simp
 constructor
 ·rcases Int.lt_or_le (t-ay (mX t W ws)) 0 with h|h
  ·have:=Int.mul_neg_of_pos_of_neg (show 0<W by omega) h;omega
  ·exact h
 ·rcases Int.lt_or_le (t-ay (mX t W ws)) ws.length with h|h
  ·exact h
  ·have h6:=Int.mul_le_mul_of_nonneg_left h (show 0<=W by omega);rw[Int.sub_mul]at d;omega
def xm{t W x:Int}(b:0<=t)(hW1:1<=W)(c:0<=x)(f:x<=W):0<=t*x/W/\t*x/W<=t:=by
 have d:=Int.mul_nonneg b c;refine⟨Int.ediv_nonneg d ak,?_⟩;have e:t*x<=t*W:=Int.mul_le_mul_of_nonneg_left f b;have a:=Int.ediv_le_ediv (show 0<W by omega) e;rw[Int.mul_ediv_cancel _ (show W≠0 by omega)]at a;exact a
def yU{t W:Int}{ws:List Int}(d:0<=t)(hW:ay ws=W)(a:1<=W)(e:∀x∈ws,0<=x)(i:Nat):0<=ay (mX t W (ws.take i))/\ay (mX t W (ws.take i))<=t:=by
 have b:∀x∈ws.take i,0<=x:=λx c=>e x (mem_of_mem_take c);obtain⟨f,h2,h3,h4⟩:=FW (t:=t) a (l:=ws.take i) λx c=>Int.mul_nonneg d (b x c);have h5:=QV e i;refine⟨f,?_⟩;rcases Int.lt_or_le t (ay (mX t W (ws.take i)))with h|h
 ·have h6:t*ay (ws.take i)<=t*W:=Int.mul_le_mul_of_nonneg_left ak d;have g:=Int.mul_lt_mul_of_pos_left h (show 0<W by omega);rw[Int.mul_comm W t]at g;omega
 ·exact h
def DT(f:Int->Int)(ws:List Int)(i:Nat):List Int:=(ws.take i).map f++replicate (ws.length-i) 0
def Vt(f:Int->Int)(ws:List Int):DT f ws 0=replicate ws.length 0:=by simp[DT]
def PL(f:Int->Int)(ws:List Int):DT f ws ws.length=ws.map f:=by simp[DT]
def PM(f:Int->Int)(ws:List Int){i:Nat}(h:i<=ws.length):(DT f ws i).length=ws.length:=by simp[DT];omega
def PN(f:Int->Int){ws:List Int}{i:Nat}(h:i<ws.length):(DT f ws i).set i (f ws[i])=DT f ws (i+1):=by
 have a:((ws.take i).map f).length=i:=by simp;omega
 have e:ws.length-i=(ws.length-(i+1))+1:=ak
 simp only[DT];rw[set_append_right _ _ ak,a,Nat.sub_self,e,replicate_succ,set_cons_zero,jU h,jF,dz];rfl
def ZP(a b:Int×Nat):Bool:=decide (b.1<a.1)
def Fk(rs:List Int):List (Int×Nat):=rs.zipIdx
def tY(rs:List Int):List (Int×Nat):=LQ ZP (Fk rs)
def zZ:List (Int×Nat)->List Int->List Int
 | [],ps=>ps
 |x::r,ps=>zZ r (ps.set x.2 (ps.getD x.2 0+1))
def T4:Ord ZP:=⟨λx y h=>by simp only[ZP,bz,gv]at *;omega,λx y z h1 h2=>by simp only[ZP,gv]at *;omega⟩
def YV{rs:List Int}{x:Int×Nat}:x∈Fk rs↔rs[x.2]?=some x.1:=by
 obtain⟨v,i⟩:=x;rw[Fk,mem_zipIdx_iff_getElem?]
def CK{rs:List Int}{x:Int×Nat}:x∈tY rs↔rs[x.2]?=some x.1:=by rw[tY,(zl _ _).mem_iff,YV]
def abt(rs:List Int):(Fk rs).Pairwise λa b=>a.2<b.2:=by
 have:((Fk rs).map Prod.snd).Pairwise (· < ·):=by rw[Fk,zipIdx_map_snd];exact pairwise_lt_range'
 exact pairwise_map.1 this
def abu(rs:List Int):(tY rs).Pairwise λa b=>b.1<a.1\/(a.1=b.1/\a.2<b.2):=by
 have key:∀{L:List (Int×Nat)},xH ZP L->(∀v,(L.filter λa=>a.1==v).Pairwise λa b=>a.2<b.2)->L.Pairwise λa b=>b.1<a.1\/(a.1=b.1/\a.2<b.2):=by
  intro L;induction L with
  |nil=>intro _ _;exact .nil
  |cons x r ih =>
   intro g d;have k:=kB.1 g;refine kB.2 ⟨λb c=>?_,ih k.2 λv=>?_⟩
   ·have i:=k.1 b c;simp only[ZP,gv]at i;rcases Int.lt_or_le b.1 x.1 with h|h
    ·exact .inl h
    ·have e:b.1=x.1:=ak
     have f:=d x.1;rw[filter_cons_of_pos (by simp),kB]at f;exact .inr ⟨e.symm,f.1 b (mem_filter.2 ⟨c,by simpa using e⟩)⟩
   ·have:=d v;cases q:x.1==v
    ·rwa[filter_cons_of_neg (by simp[q])]at this
    ·rw[filter_cons_of_pos (by simpa using q)]at this;exact(kB.1 this).2
 refine key (NN T4 _) λv=>?_;rw[tY,Ue T4 (λa b j c=>by simp only[ff]at j c;simp only[ZP,gv];omega)];exact(abt rs).sublist filter_sublist
theorem To(rs:List Int)(gs:List Bool):∀i,(∀j,j<i->gs.getD j true=false->0<=gW rs gs i/\rs.getD j 0<=rs.getD (gW rs gs i).toNat 0/\((j:Int)<gW rs gs i->rs.getD j 0<rs.getD (gW rs gs i).toNat 0))
 | 0,j,hj,_=>by omega
 |i+1,j,hj,hg=>by
  have hr:=qp rs gs i;have e:=To rs gs i;simp only[gW];rcases dN j i with h|h
  ·obtain⟨b,c,d⟩:=e j h hg;split
   ·rename_i a;simp only[bQ,Bool.or_eq_true,bz]at a;rw[show((i:Int)).toNat=i by omega];refine⟨by omega,?_,λ_=>?_⟩<;>omega
   ·exact⟨b,c,d⟩
  ·obtain rfl:j=i:=ak
   split
   ·rw[show((j:Int)).toNat=j by omega];exact⟨by omega,Int.le_refl _,λh=>by omega⟩
   ·rename_i a;simp only[hg,Bool.not_false,cm,Bool.or_eq_true,bz]at a;refine⟨by omega,by omega,λh=>by omega⟩
theorem KU(rs:List Int):∀(n:Nat)(A B:List (Int×Nat))(gs:List Bool)(ps:List Int),tY rs=A++B->n<=B.length->gs.length=rs.length->(∀j,j<rs.length->gs.getD j true=A.any λx=>x.2==j)->lY rs n gs ps=zZ (B.take n) ps
 | 0,_,_,_,_,_,_,_,_=>rfl
 |n+1,A,[],gs,ps,_,h,_,_=>by simp at h
 |n+1,A,x::B,gs,ps,hL,hn,hgl,hg=>by
  have f:=abu rs;rw[hL]at f;have g:rs[x.2]?=some x.1:=CK.1 (by rw[hL];simp);have k:=(gU.1 g).1;have s:rs.getD x.2 0=x.1:=by rw[getD_eq_getElem?_getD,g];rfl
  have o:=(pairwise_append.1 f).2.2;have r:gs.getD x.2 true=false:=by
   rw[hg _ k,any_eq_false];intro a u v;simp only[ff]at v;have l:=o a u x (mem_cons_self ..);have i:rs[a.2]?=some a.1:=CK.1 (by rw[hL];simp[u]);rw[v,g]at i;have:=Option.some.inj i;omega
  obtain⟨t,l,i⟩:=To rs gs rs.length x.2 k r;have y:=qp rs gs rs.length;have m:=vD rs gs rs.length t;have p:gW rs gs rs.length=x.2:=by
   obtain⟨b,p⟩:∃b:Nat,gW rs gs rs.length=b:=⟨_,(Int.toNat_of_nonneg t).symm⟩
   rw[p]at l i m y |-;simp only[Int.toNat_natCast]at l i m;have c:b<rs.length:=ak
   have q:rs.getD b 0=rs[b]:=by rw[getD_eq_getElem?_getD,fj c];rfl
   have d:(rs[b],b)∈A++x::B:=by rw[<-hL,CK];exact fj c
   rw[hg b c,any_eq_false]at m;rcases mem_append.1 d with d|d
   ·exact absurd (by simp) (m _ d)
   ·rcases mem_cons.1 d with rfl|d
    ·rfl
    ·have:=(kB.1 (pairwise_append.1 f).2.1).1 _ d;simp only at this;rw[s,q]at l i;omega
  simp only[lY,p,Int.toNat_natCast,take_succ_cons,zZ];refine KU rs n (A++[x]) B _ _ (by rw[hL,dz];rfl) (by simpa using hn) (by rw[length_set,hgl]) λj w=>?_;rw[any_append,getD_eq_getElem?_getD,getElem?_set];by_cases e:x.2=j
  ·subst e;rw[aq rfl,aq ak];simp
  ·rw[au e,<-getD_eq_getElem?_getD,hg j w];simp[e]
def XR(rs:List Int){n:Nat}(b:n<=rs.length)(ps:List Int):lY rs n (replicate rs.length false) ps=zZ ((tY rs).take n) ps:=
 KU rs n [] (tY rs) _ ps rfl (by rw[tY,Uf,Fk,length_zipIdx];exact b) (by simp) λj a=>by simp[getD_eq_getElem?_getD,a]
def Jt(gs:List Bool):List (List D):=gs.map λb=>[.bool b]
def BS(gs:List Bool):(Jt gs).length=gs.length:=by simp[Jt]
def Tn(gs:List Bool){i:Nat}(h:i<gs.length):(Jt gs).getD i []=[.bool gs[i]]:=by simp[Jt,h]
theorem ints_set(l:List Int)(i:Nat)(v:Int):(ints l).set i [.int .i64 v]=ints (l.set i v):=by simp[ints,map_set]
theorem ab3(l:List Int)(i:Nat)(v:Int):(vr l).set i [.int .i64 (v/18446744073709551616),.int .u64 (v%18446744073709551616)]=vr (l.set i v):=by simp[vr,wd,map_set]
def aag(l:List Bool)(i:Nat)(v:Bool):(Jt l).set i [.bool v]=Jt (l.set i v):=by simp[Jt,map_set]
theorem Hh(n:Nat):replicate n [D.int .i64 0]=ints (replicate n 0):=by simp[ints]
theorem Uo(n:Nat):replicate n [D.int .i64 0,D.int .u64 0]=vr (replicate n 0):=by simp[vr,wd]
def aaf(n:Nat):replicate n [D.bool false]=Jt (replicate n false):=by simp[Jt]
def Nq(t:Int)(ws:List Int)(hl:ws.length<2^30):Sq 298 [] [.int .i64 t,.sl 1 (ints ws)] [.own 1 (ints (bA t ws))] (.bI [.ref 0,.int .i64 (gZ t ws)]):=by
 have c1:=fy t;have c2:=Av ws ak;refine bp 149 2 [.tmp 4,.tmp 5] mixed func298 ?_;by_cases q0:t<0
 ·have d:decide (t<0)=true:=dY q0;have e:gZ t ws=3:=by simp[gZ,q0]
  simp only[go_sem,seval,d,bA,e]<;>simp[ints]
 have d0:decide (t<0)=false:=iA q0;simp only[go_sem,seval,d0];refine aG.bC c1 ?_;cases q1:bB t
 ·have e:gZ t ws=3:=by simp[gZ,q1]
  simp only[go_sem,seval,bA,e]<;>simp[ints]
 simp only[go_sem,seval];refine aG.bC c2 ?_;cases q2:right ws
 ·have e:gZ t ws=3:=by simp[gZ,q2]
  simp only[go_sem,seval,bA,e]<;>simp[ints]
 have e:gZ t ws=if sQ ws then(if 1024<ws.length then 5 else if ay ws=0 then(if t=0 then 0 else 2)else 0)else 3:=by simp only[gZ,d0,q1,q2];rfl
 simp only[bA];rw[e];clear e c1 c2;have J:=λx M=>aP.1 (bL.1 q2 x M);have aI:=aP.1 q1;simp only[go_sem,seval,az];refine aF.wu ws.length [0,1] [] (λi=>[(7,.int .i64 i),(6,.ref 768)]) (λi=>[(768,.own 2 (vr (ws.take i)))]) (λi=>sQ (ws.drop i)=sQ ws) rfl ?_ ?_ ?_
 ·simp only[go_sem,seval]<;>simp[vr]
 ·intro i _ k o r G;have hm:=ints_at ws k;have aw:(i:Int)<(ws.length:Int):=ak
  have bb:=J _ (dS k);have C:vr (ws.take (i+1))=vr (ws.take i)++[wd ws[i]]:=by rw[jU k];simp only[vr,jF,map_cons,map_nil]
  have av:(vr (ws.take i)).length=i:=by simp[vr];omega
  obtain⟨x,M⟩:=aN (ws[i]);rw[cg k,<-M]at G;rw[<-M]at hm bb C;have hO:=xy x ⟨by omega,by omega⟩;have hc:sQ (x::ws.drop (i+1))=(!decide (x<0)&&sQ (ws.drop (i+1))):=rfl;rw[hc]at G;simp only[wd]at hO C;by_cases q:x<0
  ·have d:decide (x<0)=true:=dY q;rw[d,Bool.not_true,cZ]at G;rw[<-G];simp only[go_sem,seval,az,o,hm,d]
   and_intros<;>first|exact .dq|omega|skip
   all_goals simp[ints]
  ·have d:decide (x<0)=false:=iA q;rw[d,Bool.not_false,cm]at G;simp only[go_sem,seval,az,o,hm,d];refine bg ?_;refine sc (a2 r av) hO ?_
   and_intros<;>first|exact .dq|omega|skip
   refine ah.u k G ?_;simp only[go_sem,seval,C]
 intro _ y G;rw[jw]at G;have G:sQ ws=true:=G.symm;have D:∀x∈ws,0<=x:=λx M=>by
  have:=bL.1 G x M;simp only[gD,gv]at this;omega
 rw[G];clear G;by_cases q4:1024<ws.length
 ·have d:decide (1024<(ws.length:Int))=true:=iy;simp only[go_sem,seval,az,y,aq q4,d]
  and_intros<;>first|exact .dq|omega|skip
  all_goals simp[ints]
 have d4:decide (1024<(ws.length:Int))=false:=iE;have a6:=BB q2;obtain⟨hi1,hi2⟩:=TB (l:=ws) (λn hn=>⟨by have:=J n hn;omega,by have:=J n hn;omega⟩) ak;have N:=oA ws ak hi1;have a4:=jW D;have F:=xC D;have E:=λ(h:1<=ay ws)(i:Nat)=>yU (t:=t) (ws:=ws) ak rfl h D i;have K:=λ(h:1<=ay ws)=>tM (t:=t) (ws:=ws) ak rfl h D;rw[hi2,aq rfl]at N;obtain⟨W,hW⟩:=aN (ay ws);rw[<-hW]at N a6 a4 F E K |-;simp only[wd]at N;simp only[go_sem,seval,az,y,au q4,d4,eu];refine bg ?_;refine sl aS N ?_;clear N y hi1 hi2 d4;by_cases q5:W=0
 ·rw[q5];by_cases q6:t=0
  ·rw[q6];simp only[go_sem,seval,az,if_true,Hh]
   and_intros<;>first|exact .dq|omega|skip
   all_goals(first|omega|simp[ints])
  ·have d:(t==0)=false:=su q6;simp only[go_sem,seval,az,if_true,bne,d,au q6]
   and_intros<;>first|exact .dq|omega|skip
   all_goals simp[ints]
 have I:1<=W:=ak
 have E:=E I;have K:=K I;have dW:(W/18446744073709551616==0&&W%18446744073709551616==0)=false:=by
  rw[Bool.and_eq_false_iff];simp only[beq_eq_false_iff_ne];omega
 have L:∀{Q:Prop},((W/18446744073709551616==0)=false->Q)->((W/18446744073709551616==0)=true->(W%18446744073709551616==0)=false->Q)->Q:=λf g=>by
  cases h:W/18446744073709551616==0
  ·exact f h
  ·exact g h (by rw[h,cm]at dW;exact dW)
 simp only[au q5,if_true];obtain⟨R,hR⟩:=aN (pS t W ws);obtain⟨T,hT⟩:=aN (lY R (t-ay (mX t W ws)).toNat (replicate ws.length false) (mX t W ws));rw[<-hR,<-hT];have aL:R.length=ws.length:=by rw[hR];simp[pS]
 have aa:=qp R;refine L (λh=>?_) (λh h'=>?_);all_goals
  simp only[go_sem,seval,h];try simp only[go_sem,seval,h']
  and_intros<;>first|exact .dq|omega|skip
  simp only[go_sem,seval,az,Hh,Uo]
  and_intros<;>first|exact .dq|omega|skip
  try(rw[az];omega)
 all_goals try(rw[az];omega)
 all_goals
  refine aF.wv ws.length [0,1,8] [144] (λi=>[(13,.int .i64 i),(12,.int .i64 (t-ay (mX t W (ws.take i)))),(10,.ref 176),(11,.ref 192)]) (λi=>[(176,.own 1 (ints (DT (λw=>t*w/W) ws i))),(192,.own 2 (vr (DT (λw=>t*w%W) ws i)))]) ?_ ?_ ?_
  ·simp only[go_sem,seval,Vt]<;>simp[mX,ay,az,Hh,Uo]
  ·intro i _ k o r _;have hm:=ints_at ws k;have aw:(i:Int)<(ws.length:Int):=ak
   have ba:=J _ (dS k);have aj:=D _ (dS k);have al:=F _ (dS k);have U:=PM (λw=>t*w/W) ws (i:=i) ak;have af:=PM (λw=>t*w%W) ws (i:=i) ak;have ag:=PN (λw=>t*w/W) k;have ai:=PN (λw=>t*w%W) k;have a1:=E i;have a3:=E (i+1);have X:ay (mX t W (ws.take (i+1)))=ay (mX t W (ws.take i))+t*ws[i]/W:=by
    rw[jU k];simp only[mX,jF,map_cons,map_nil,pJ]
   obtain⟨x,M⟩:=aN (ws[i]);rw[<-M]at hm ba aj al ag ai X;have hmr:=fE (a:=t) (b:=x) (A:=4611686018427387904) (B:=4611686018427387904) ak ak;have aW:=Int.mul_nonneg (show 0<=t by omega) aj;have aE:=xm (t:=t) (W:=W) (x:=x) ak I aj al;have aV:t*x<W*9223372036854775808:=by
    have H:t*x<=t*W:=Int.mul_le_mul_of_nonneg_left al ak;have h2:t*W<=4611686018427387904*W:=Int.mul_le_mul_of_nonneg_right aI.2 ak;omega
   have cT:=qJ t x ⟨by omega,by omega⟩ ⟨by omega,by omega⟩;have cD:=Ip (t*x) W aW ak I ak aV;obtain⟨P,hP⟩:=aN (t*x/W);obtain⟨Z,hZ⟩:=aN (t*x%W);obtain⟨Y,hY⟩:=aN (t*x);obtain⟨S,N⟩:=aN (ay (mX t W (ws.take i)));obtain⟨A,hA⟩:=aN (DT (λw=>t*w/W) ws i);obtain⟨B,hB⟩:=aN (DT (λw=>t*w%W) ws i);rw[<-hP,<-hZ,<-hY]at cD;rw[<-hY]at cT;rw[<-hP,<-hA]at ag;rw[<-hZ,<-hB]at ai;rw[<-hA]at U;rw[<-hB]at af;rw[<-hP,<-N]at X;rw[<-N]at a1;rw[<-hP]at aE;rw[X]at a3;rw[<-hA,<-hB,<-N];have a8:IntKind.wrap .i64 (t-S-P)=t-(S+P):=fQ;have a5:∀V,((ints A).set i [.int .i64 V]).getD i []=[.int .i64 V]:=λV=>by simp[ints,U,k]
   have ax:=ints_at A (i:=i) ak;have aA:=zy B (i:=i) ak;simp only[wd]at cT cD;clear hA hB hP hZ hY N L E K hT hR;simp only[go_sem,seval,az,o,hm];refine bg ?_;refine sc aS cT ?_;refine bg ?_;refine aG.bC cD ?_;simp only[go_sem,seval,az,Dd,U,af,ax,aA]
   and_intros<;>first|exact .dq|omega|skip
   all_goals try simp only[go_sem,seval,az,Dd,U,af,ax,aA,a5,a8,r,length_set]
   all_goals(with_reducible and_intros)<;>first|exact .dq|omega|skip
   all_goals first
    | (simp only[length_set,az,Dd];omega)
    | (refine ah.v k ?_
       simp only[go_sem,seval,ints_set,ab3,ag,ai,X]<;>simp)
  intro _ y _;have am:ws.map (λw=>t*w/W)=mX t W ws:=rfl;have an:ws.map (λw=>t*w%W)=R:=hR.symm;have aD:(mX t W ws).length=ws.length:=by simp[mX]
  have aH:∀p∈mX t W ws,0<=p/\p<=4611686018427387904:=λp hp=>by
   obtain⟨x,M,rfl⟩:=mem_map.1 hp;have:=xm (t:=t) (W:=W) (x:=x) ak I (D x M) (F x M);omega
  obtain⟨n0,aB⟩:∃n0:Nat,n0=(t-ay (mX t W ws)).toNat:=⟨_,rfl⟩
  have aC:t-ay (mX t W ws)=(n0:Int):=ak
  rw[<-aB]at hT;have hnl:n0<ws.length:=ak
  obtain⟨p0,ae⟩:=aN (mX t W ws);rw[<-ae]at hT aD aH;rw[eu,PL,PL,am,an,aC,<-ae];have ad:∀gs:List Bool,gs.count true<gs.length->gs.length=ws.length->0<=gW R gs ws.length/\gW R gs ws.length<ws.length/\gs.getD (gW R gs ws.length).toNat true=false:=λgs H h2=>by
   obtain⟨j,hj,he⟩:=FN H;have:=FK R gs ws.length ⟨j,by omega,he⟩;exact⟨this,(aa gs _).2,vD R gs _ this⟩
  clear L E K hR am an ae aB aC J D F;simp only[go_sem,seval,az,y,aaf]
  and_intros<;>first|exact .dq|omega|skip
  all_goals try(rw[az];omega)
  refine aF.yN (T:=Nat×List Bool×List Int) [1,11] [192] (λs=>[(12,.int .i64 (s.1:Nat)),(10,.ref 176),(14,.ref 240)]) (λs=>[(176,.own 1 (ints s.2.2)),(240,.own 1 (Jt s.2.1))])
   (λs=>lY R s.1 s.2.1 s.2.2=T/\s.2.1.length=ws.length/\s.2.2.length=ws.length/\s.2.1.count true+s.1<ws.length/\∀p∈s.2.2,0<=p/\p+(s.1:Nat)<=4611686018427387904+(n0:Nat)) (λs=>s.1) (n0,replicate ws.length false,p0) ?_ ?_ ?_
  ·refine⟨hT.symm,by simp,aD,by simp[count_replicate];omega,?_⟩;intro p hp;have:=aH p hp;dsimp only;omega
  ·exact kG
  rintro⟨n,gs,ps⟩ ⟨H,h2,h3,h4,h5⟩;dsimp only at H h2 h3 h4 h5 |-;rcases Nat.eq_zero_or_pos n with rfl|hpos
  ·have H:ps=T:=H;rw[H];simp only[go_sem,seval];refine gf.id ?_;simp only[go_sem,seval]
  obtain⟨m,rfl⟩:∃m,n=m+1:=⟨n-1,by omega⟩
  obtain⟨aM,aO,ab⟩:=ad gs ak h2;have aT:decide (0<((m+1:Nat):Int))=true:=iy;have a7:IntKind.wrap .i64 (((m+1:Nat):Int)-1)=(m:Int):=fQ;simp only[lY,aL]at H;simp only[go_sem,seval,aT,az];refine aF.wv ws.length [1,10,11,12,14] [176,192,240] (λi=>[(16,.int .i64 i),(15,.int .i64 (gW R gs i))]) (λ_=>[]) ?_ ?_ ?_
  ·simp only[go_sem,seval]<;>simp[gW]
  ·intro i _ k o r _;have ar:i<gs.length:=ak
   have ap:i<R.length:=ak
   have z:=Tn gs ar;have aY:=zy R ap;have aU:gs.getD i true=gs[i]:=by simp[ar]
   have aK:R.getD i 0=R[i]:=by simp[ap]
   have hb:=aa gs i;have c:gW R gs (i+1)=if !gs[i]&&(decide (gW R gs i<0)||decide (R.getD (gW R gs i).toNat 0<R[i]))then(i:Int)else gW R gs i:=by
    simp only[gW,aU,aK]
   have aw:(i:Int)<(gs.length:Int):=ak
   have hlR:(i:Int)<(R.length:Int):=ak
   cases hg:gs[i]
   case true =>
    rw[hg]at c z;simp only[Bool.not_true,cZ,iM,if_false]at c;simp only[go_sem,seval,az,o,z,BS,r]
    and_intros<;>first|exact .dq|omega|skip
    refine ah.v k ?_;simp only[go_sem,seval,c]
   rw[hg]at c z;rcases Int.lt_or_le (gW R gs i) 0 with hb0|hb0
   ·have d:decide (gW R gs i<0)=true:=dY hb0;simp only[d,Bool.not_false,cm,Bool.true_or,if_true]at c;simp only[go_sem,seval,az,o,z,BS,d,r]
    and_intros<;>first|exact .dq|omega|skip
    refine ah.v k ?_;simp only[go_sem,seval,c]
   have d:decide (gW R gs i<0)=false:=iE;obtain⟨b,O⟩:∃b:Nat,gW R gs i=b:=⟨(gW R gs i).toNat,by omega⟩
   have ao:b<R.length:=ak
   have aX:=zy R ao;have aQ:R.getD b 0=R[b]:=by simp[ao]
   have hlb:(b:Int)<(R.length:Int):=ak
   have cL:=y5 R[b] R[i];rw[O]at d c;simp only[d,Bool.not_false,cm,Bool.false_or,Int.toNat_natCast,aQ]at c;simp only[wd]at cL;simp only[O];simp only[go_sem,seval,az,o,z,BS,d,aX,aY,Dd];refine bg ?_;refine aG.bC cL ?_;by_cases hl:R[b]<R[i]
   ·have d2:decide (R[b]<R[i])=true:=dY hl;rw[d2,aq rfl]at c;simp only[go_sem,seval,d2,r]
    and_intros<;>first|exact .dq|omega|skip
    refine ah.v k ?_;simp only[go_sem,seval,c]
   ·have d2:decide (R[b]<R[i])=false:=iA hl;rw[d2,au sT]at c;simp only[go_sem,seval,d2,r]
    and_intros<;>first|exact .dq|omega|skip
    refine ah.v k ?_;simp only[go_sem,seval,c]
  ·intro _ y _;obtain⟨b,O⟩:∃b:Nat,gW R gs ws.length=b:=⟨(gW R gs ws.length).toNat,by omega⟩
   rw[O]at H aM aO ab |-;rw[Int.toNat_natCast]at H ab;have aR:b<gs.length:=ak
   have ac:b<ps.length:=ak
   have z:=Tn gs aR;have aZ:=ints_at ps ac;have a0:ps.getD b 0=ps[b]:=by simp[ac]
   have hlg:(b:Int)<(gs.length:Int):=ak
   have hlp:(b:Int)<(ps.length:Int):=ak
   have aE:=h5 ps[b] (dS ac);have a9:IntKind.wrap .i64 (ps[b]+1)=ps[b]+1:=gO ak ak;rw[a0]at H;have hcs:=count_set ab;have aJ:∀p∈ps.set b (ps[b]+1),0<=p/\p+(m:Nat)<=4611686018427387904+(n0:Nat):=λp hp=>by
    rcases mem_or_eq_of_mem_set hp with h|rfl
    ·have:=h5 p h;omega
    ·omega
   simp only[go_sem,seval,az,y,z,aZ,BS,a9,a7]
   and_intros<;>first|exact .dq|omega|skip
   refine⟨(m,gs.set b true,ps.set b (ps[b]+1)),⟨H,by simp[h2],by simp[h3],by dsimp only;omega,aJ⟩,?_,by simp⟩;simp only[go_sem,seval,ints_set,aag]<;>simp
def AG(t:Int)(ws:List Int)(a:ws.length<2^30):Sq 298 [] [.int .i64 t,.sl 1 (ints ws)] [] (.bI [.sl 1 (ints (bA t ws)),.int .i64 (gZ t ws)]):=by
 refine Spec.frozen (Nq t ws a) [0] rfl ?_;intro r;rcases r with _|r<;>rfl
theorem KV{rs:List Int}{B:Int}:∀(n:Nat)(gs:List Bool)(ps:List Int),0<=B->(∀p∈ps,0<=p/\p<=B)->∀p∈lY rs n gs ps,0<=p/\p<=B+n
 | 0,_,_,_,h=>λp a=>by have:=h p a;simp;omega
 |n+1,gs,ps,hB,h=>by
  intro p a;simp only[lY]at a
  have:=KV (B:=B+1) n _ _ ak (λq c=>by
   rcases mem_or_eq_of_mem_set c with h1|rfl
   ·have:=h q h1;omega
   ·have:0<=ps.getD (gW rs gs rs.length).toNat 0/\ps.getD (gW rs gs rs.length).toNat 0<=B:=by
     rw[getD_eq_getElem?_getD];cases b:ps[(gW rs gs rs.length).toNat]? with
     |none=>simp;exact hB
     |some x=>exact h x (fO b)
    omega) p a
  push_cast;omega
def I3(t:Int)(ws:List Int):∀p∈bA t ws,0<=p/\p<=4611686018427388928:=by
 intro p c;unfold bA at c;split at c
 ·rename_i b;unfold gZ at b;split at b
  ·rename_i e;simp only[bQ,gD,gv]at e;split at b
   ·rename_i f;split at b
    ·cases b
    ·rename_i h3;split at c
     ·have:p=0:=by simpa using(mem_replicate.1 c).2
      omega
     ·rename_i h4;have a:∀x∈ws,0<=x:=λx d=>by
       have:=bL.1 f x d;simp only[gD,gv]at this;omega
      have hs0:=jW a;have hlr:=tM (t:=t) (ws:=ws) ak rfl ak a;have htr:=aP.1 e.1.2
      have:=KV (B:=4611686018427387904) _ _ _ (by decide) (λq g=>by
       obtain⟨x,d,rfl⟩:=mem_map.1 g;have:=xm (t:=t) (W:=ay ws) (x:=x) ak ak (a x d) (xC a x d)
       omega) p c
      omega
   ·cases b
  ·cases b
 ·cases c
def yO(c:Int)(ws:List Int):Bool:=pY (λx=>within x 1 16) (λa b=>decide (a<b)) ws&&within c 0 2
def AA(c:Int)(ws:List Int)(hl:ws.length<2^30):Sq 282 [] [.int .i64 c,.sl 1 (ints ws)] [] (.bool (yO c ws)):=by
 have c2:=iX c;simp only[yO];refine bp 36 2 [.tmp 4] mixed func282 ?_;simp only[go_sem,seval,az];refine aF.w1 ws.length 5 [0,1] [] (λi _=>∀j<i,nL (λx=>within x 1 16) (λa b=>decide (a<b)) ws j=true) sT ?_ ?_
 ·intro i _ e r l o;have m:=ints_at ws e;have hli:(i:Int)<(ws.length:Int):=ak
  have v:=iY ws[i];have e0:=qR (ok:=λx=>within x 1 16) (lt:=λa b:Int=>decide (a<b)) (xs:=ws) (i:=i) o;have n:nL (λx=>within x 1 16) (λa b=>decide (a<b)) ws i=false->pY (λx=>within x 1 16) (λa b=>decide (a<b)) ws=false:=λh=>uV e h;rcases Nat.eq_zero_or_pos i with rfl|hpos
  ·have f:=jf (ok:=λx=>within x 1 16) (lt:=λa b:Int=>decide (a<b)) e;have p:decide ((0:Int)<(ws.length:Int))=true:=iy;simp only[go_sem,seval,az,p,m];refine sc aS v ?_;cases q:within ws[0] 1 16
   ·have:=n (by rw[f,q]);simp only[go_sem,seval,q,this,cZ];all_goals(with_reducible and_intros)<;>first|exact .dq|omega|skip
   simp only[go_sem,seval,q,l];all_goals(with_reducible and_intros)<;>first|exact .dq|omega|skip
   all_goals refine ah.u e (e0 (by rw[f,q])) ?_
   all_goals simp only[go_sem,seval]
   all_goals rfl
  ·obtain⟨j,rfl⟩:∃j,i=j+1:=⟨i-1,by omega⟩
   have t:j<ws.length:=ak
   have k:IntKind.wrap .i64 (((j+1:Nat):Int)-1)=(j:Int):=fQ;have f:=iG (ok:=λx=>within x 1 16) (lt:=λa b:Int=>decide (a<b)) e;have g:=ints_at ws t;have w:decide (0<((j+1:Nat):Int))=true:=iy;simp only[go_sem,seval,az,r,m];refine sc aS v ?_;cases q:within ws[j+1] 1 16
   ·have:=n (by rw[f,q];rfl);simp only[go_sem,seval,q,this,cZ];all_goals(with_reducible and_intros)<;>first|exact .dq|omega|skip
   by_cases y:ws[j]<ws[j+1]
   ·have d:decide (ws[j+1]<=ws[j])=false:=iE;simp only[go_sem,seval,q,w,k,g,m,az,d,l];refine bg ?_;refine ah.u e (e0 (by rw[f,q,dY y];rfl)) ?_;simp only[go_sem,seval]
   ·have d:decide (ws[j+1]<=ws[j])=true:=iy;have:=n (by rw[f,q,iA y];rfl);simp only[go_sem,seval,q,w,k,g,m,az,d,this,cZ]
    and_intros<;>first|exact .dq|omega|skip
 ·intro _ s o;have:=oS (λj (t:j<ws.length)=>o j t);simp only[go_sem,seval,az,s,this];refine bg ?_;refine aG.bC c2 ?_;simp only[go_sem,seval,cm]
def bH(l:bu)(c:Int)(ws:List Int):List Int:=ws.map λw=>eP ⟨3,w,c⟩ l.bs
def No(l:bu)(c:Int)(ws:List Int)(k:l.bs.length<2^30)(hl:ws.length<2^30):Sq 283 [] [.agg l.cells,.int .i64 c,.sl 1 (ints ws)] [.own 1 (ints (bH l c ws))] (.ref 0):=by
 have d:=λa=>ou l a k;simp only[bu.cells,aC.cells]at d |-;refine bp 27 3 [.tmp 6] mixed func283 ?_;simp only[go_sem,seval,az];refine aF.wv ws.length [1,2,3] [64] (λi=>[(8,.int .i64 i),(7,.ref 416)]) (λi=>[(416,.own 1 (ints (bH l c (ws.take i))))]) ?_ ?_ ?_
 ·simp only[go_sem,seval]<;>simp[bH,ints]
 ·intro i _ h f j _;have m:=ints_at ws h;have hli:(i:Int)<(ws.length:Int):=ak
  have n:ints (bH l c (ws.take (i+1)))=ints (bH l c (ws.take i))++[[.int .i64 (eP ⟨3,ws[i],c⟩ l.bs)]]:=by
   rw[jU h];simp only[bH,ints,jF,map_cons,map_nil]
  have b:(bH l c (ws.take i)).length=i:=by simp[bH];omega
  have e:=d ⟨3,ws[i],c⟩;clear d;simp only[go_sem,seval,az,f,m];refine sc aS e ?_;simp only[go_sem,seval,az,b,j];refine bg ?_;refine ah.v h ?_;simp only[go_sem,seval,n]
 ·intro _ g _;simp only[go_sem,seval,az,g,eu]
def AD(l:bu)(c:Int)(ws:List Int)(a:l.bs.length<2^30)(b:ws.length<2^30):Sq 283 [] [.agg l.cells,.int .i64 c,.sl 1 (ints ws)] [] (.sl 1 (ints (bH l c ws))):=by
 refine Spec.frozen (No l c ws a b) [0] rfl ?_;intro r;rcases r with _|r<;>rfl
def cr(r:aA)(ws:List Int):List Int:=ws.map λw=>(fm r w).need
def JX(r:aA)(ws:List Int)(h:r.jX)(hl:ws.length<2^30):Sq 284 [] [.agg r.cells,.sl 1 (ints ws)] [.own 1 (ints (cr r ws))] (.ref 0):=by
 have c:=λn=>dZ r n h.small;simp only[aA.cells]at c |-;refine bp 30 2 [.tmp 4] mixed func284 ?_;simp only[go_sem,seval,az];refine aF.wv ws.length [1,2] [48] (λi=>[(6,.int .i64 i),(5,.ref 464)]) (λi=>[(464,.own 1 (ints (cr r (ws.take i))))]) ?_ ?_ ?_
 ·simp only[go_sem,seval]<;>simp[cr,ints]
 ·intro i _ f d j _;have m:=ints_at ws f;have hli:(i:Int)<(ws.length:Int):=ak
  have k:ints (cr r (ws.take (i+1)))=ints (cr r (ws.take i))++[[.int .i64 (fm r ws[i]).need]]:=by
   rw[jU f];simp only[cr,ints,jF,map_cons,map_nil]
  have b:(cr r (ws.take i)).length=i:=by simp[cr];omega
  have a:=c ws[i];obtain⟨g,l⟩:=aN (fm r ws[i]);rw[<-l]at a k;simp only[av.cells]at a;clear c;simp only[go_sem,seval,az,d,m];refine sc aS a ?_;simp only[go_sem,seval,az,b,j];refine bg ?_;refine ah.v f ?_;simp only[go_sem,seval,k]
 ·intro _ e _;simp only[go_sem,seval,az,e,eu]
def y7(r:aA)(ws:List Int)(h:r.jX)(a:ws.length<2^30):Sq 284 [] [.agg r.cells,.sl 1 (ints ws)] [] (.sl 1 (ints (cr r ws))):=by
 refine Spec.frozen (JX r ws h a) [0] rfl ?_;intro r;rcases r with _|r<;>rfl
theorem vI{A:Type}{no:A->Int}{n:Int}{z:A}{R:A->Prop}(a:R z):∀{xs:List A},(∀x∈xs,R x)->R (jj no n z xs)
 | [],_=>a
 |x::r,h=>by
  simp only[jj];split
  ·exact h x sT
  ·exact vI a λy b=>h y (by simp[b])
def Vr{r:aA}(h:∀m∈r.ms,m.fB)(n:Int):(fm r n).fB:=vI (R:=av.fB) ⟨⟨by decide,by decide⟩,⟨by decide,by decide⟩,⟨by decide,by decide⟩⟩ h
def dV(l:bu)(c:Int)(ws:List Int):Int:=if l.okB then(if yO c ws then(if bB (ay (bH l c ws))then 0 else 1)else 3)else 14
def ir(l:bu)(c:Int)(ws:List Int):Int:=if dV l c ws=0 then ay (bH l c ws)else 0
def y8(l:bu)(c:Int)(ws:List Int)(f:l.bs.length<2^30)(g:∀b∈l.bs,b.fB)(hl:ws.length<2^29):Sq 247 [] [.agg l.cells,.int .i64 c,.sl 1 (ints ws)] [] (.bI [.int .i64 (ir l c ws),.int .i64 (dV l c ws)]):=by
 have c1:=lz l f g;have c2:=AA c ws ak;have c3:=AD l c ws f ak;have c4:=eM (bH l c ws) (λn h=>by obtain⟨w,_,rfl⟩:=mem_map.1 h;exact TR g) (by simp[bH];omega);simp only[bu.cells]at c1 c3 |-;refine bp 28 3 [.tmp 6,.tmp 7] mixed func247 ?_;refine sc aS c1 ?_;cases a:l.okB
 ·have e:dV l c ws=14:=by simp[dV,a]
  simp only[go_sem,seval,ir,e]<;>simp
 refine sc aS c2 ?_;cases d:yO c ws
 ·have e:dV l c ws=3:=by simp[dV,a,d]
  simp only[go_sem,seval,ir,e]<;>simp
 have e:dV l c ws=if bB (ay (bH l c ws))then 0 else 1:=by simp[dV,a,d]
 simp only[ir];rw[e];refine sc aS c3 ?_;refine sc aS c4 ?_;cases q:bB (ay (bH l c ws))<;>simp only[go_sem,seval,q,addN]<;>simp
def gp(r:aA)(ws:List Int):Int:=if r.okB then(if yO 0 ws then(if bB (ay (cr r ws))then 0 else 1)else 3)else 14
def ke(r:aA)(ws:List Int):Int:=if gp r ws=0 then ay (cr r ws)else 0
def AB(r:aA)(ws:List Int)(h:r.jX)(d:∀m∈r.ms,m.fB)(hl:ws.length<2^29):Sq 249 [] [.agg r.cells,.sl 1 (ints ws)] [] (.bI [.int .i64 (ke r ws),.int .i64 (gp r ws)]):=by
 have c1:=ga r h.small;have c2:=AA 0 ws ak;have c3:=y7 r ws h ak;have c4:=eM (cr r ws) (λn c=>by obtain⟨w,_,rfl⟩:=mem_map.1 c;exact(Vr d w).2.2) (by simp[cr];omega);simp only[aA.cells]at c1 c3 |-;refine bp 24 2 [.tmp 4,.tmp 5] mixed func249 ?_;refine sc aS c1 ?_;cases a:r.okB
 ·have e:gp r ws=14:=by simp[gp,a]
  simp only[go_sem,seval,ke,e]<;>simp
 refine sc aS c2 ?_;cases b:yO 0 ws
 ·have e:gp r ws=3:=by simp[gp,a,b]
  simp only[go_sem,seval,ke,e]<;>simp
 have e:gp r ws=if bB (ay (cr r ws))then 0 else 1:=by simp[gp,a,b]
 simp only[ke];rw[e];refine sc aS c3 ?_;refine sc aS c4 ?_;cases q:bB (ay (cr r ws))<;>simp only[go_sem,seval,q,addN]<;>simp
def lT(k c:Int)(ws ps:List Int)(i:Nat):List aK:=[⟨k,ws.getD i 0,c,-(ps.getD i 0)⟩]
def rB(k c n:Int)(ws ps:List Int):List aK:=⟨6,0,c,n⟩::pQ (lT k c ws ps) ps.length
def oQ(k c n a:Int)(ws gs:List Int):Int:=if within n 0 4611686018427387904 then(if a<n then 13 else jk (rB k c n ws (bA n gs)))else 3
def rC(k c n a:Int)(ws gs:List Int):List aK:=if oQ k c n a ws gs=0 then fG (rB k c n ws (bA n gs))else[]
def Aw(k c n a:Int)(ws gs:List Int)(he:gs.length=ws.length)(hl:ws.length<2^27):Sq 286 [] [.int .i64 k,.int .i64 c,.int .i64 n,.int .i64 a,.sl 1 (ints ws),.sl 1 (ints gs)] [] (.bI [.sl 4 ((rC k c n a ws gs).map aK.cells),.int .i64 (oQ k c n a ws gs)]):=by
 have c1:=jd n 0 4611686018427387904;have c2:=AG n gs ak;have t:=jV n gs;have j:=I3 n gs;have e0:within n 0 4611686018427387904=true->¬a<n->rC k c n a ws gs=fG (rB k c n ws (bA n gs)):=λB C=>by
  simp only[rC,oQ,B,au C,if_true];split
  ·rfl
  ·rename_i h;simp[fG,h]
 refine bp 61 6 [.tmp 12,.tmp 13] mixed func286 ?_;refine sc aS c1 ?_;cases o:within n 0 4611686018427387904
 ·have e:oQ k c n a ws gs=3:=by simp[oQ,o]
  simp only[go_sem,seval,rC,e]<;>simp
 by_cases b:a<n
 ·have d:decide (a<n)=true:=dY b;have e:oQ k c n a ws gs=13:=by simp[oQ,o,b]
  simp only[go_sem,seval,d,rC,e]<;>simp
 have A:decide (a<n)=false:=iA b;have e:oQ k c n a ws gs=jk (rB k c n ws (bA n gs)):=by simp[oQ,o,b]
 rw[e,e0 o b];clear e e0 c1;obtain⟨ps,u⟩:=aN (bA n gs);rw[<-u]at c2 t j |-;have hgl:=lX (f:=lT k c ws ps) (m:=1) (λi=>by simp[lT]) ps.length;have x:=qW (rB k c n ws ps) (by simp only[rB,length_cons];omega);simp only[go_sem,seval,A];refine bg ?_;refine aG.bC c2 ?_;simp only[go_sem,seval,az];refine bg ?_;refine aF.wv ps.length [0,1,4,14] [] (λi=>[(17,.int .i64 i),(16,.ref 912)]) (λi=>[(912,.own 4 ((⟨6,0,c,n⟩::pQ (lT k c ws ps) i:List aK).map aK.cells))]) ?_ ?_ ?_
 ·simp only[go_sem,seval,mw]<;>simp
 ·intro i _ p q w _;have D:=ints_at ps p;have g:i<ws.length:=ak
  have s:=ints_at ws g;have hp:=j ps[i] (dS p);have E:IntKind.wrap .i64 (0-ps[i]) = -ps[i]:=fQ;have z:(⟨6,0,c,n⟩::pQ (lT k c ws ps) (i+1):List aK)=(⟨6,0,c,n⟩::pQ (lT k c ws ps) i)++[⟨k,ws[i],c,-ps[i]⟩]:=by
   rw[ji];simp[lT,p,g]
  have hll:=lX (f:=lT k c ws ps) (m:=1) (λi=>by simp[lT]) i;obtain⟨L,y⟩:=aN ((⟨6,0,c,n⟩::pQ (lT k c ws ps) i:List aK));have hLl:L.length<=i+1:=by rw[y,length_cons];omega
  rw[<-y]at z |-;have hlw:(i:Int)<(ws.length:Int):=ak
  have hlp:(i:Int)<(ps.length:Int):=ak
  clear x;simp only[go_sem,seval,az,q,D,s,E,w];refine bg ?_;refine ah.v p ?_;simp only[go_sem,seval];have l:=congrArg (map aK.cells) z;simp only[jF,map_cons,map_nil]at l |-;exact l.symm
 ·intro _ r _;simp only[go_sem,seval,az,r];refine bg ?_;refine aG.gE [912] [] false sT ?_;simp only[go_sem,seval];refine cz.gF x ?_;simp only[go_sem,seval]
theorem TN{l:bu}(h:l.okB=true)(w c:Int):0<=eP ⟨3,w,c⟩ l.bs:=by
 simp only[bu.okB,bQ]at h;have f:∀b∈l.bs,lR b=true:=λb a=>by
  obtain⟨i,e,rfl⟩:=mem_iff_getElem.1 a;have:=bL.1 h.1.2 i (mem_range.2 e);rcases Nat.eq_zero_or_pos i with rfl|hp
  ·rwa[n5 e]at this
  ·obtain⟨j,rfl⟩:∃j,i=j+1:=⟨i-1,by omega⟩
   rw[mC e,bQ]at this;exact this.1
 clear h;generalize l.bs=bs at f;induction bs with
 |nil=>simp[eP]
 |cons b r ih =>
  simp only[eP];split
  ·rename_i a;have d:=f b sT;simp only[RX,bQ,ff]at a;simp only[lR,bQ,gD,gv]at d;have k:b.bq.floor=0:=by
    have:=aaB b.bq;rw[d.1,cm]at this;have g:(b.bq.kind==3)=true:=by simp[bU.bq,a.1]
    rw[g,Bool.true_or]at this;simpa using this
   rw[k]at d;omega
  ·exact ih λb a=>f b (by simp[a])
def DP(l:bu)(c:Int)(m:av):Int:=max (m.need-eP ⟨3,m.no,c⟩ l.bs) 0
def DB(l:bu)(c:Int)(m:av):Int:=min (DP l c m) (max (eP ⟨2,m.no,c⟩ l.bs) 0)
def pE(l:bu)(c:Int)(m:av):List aK:=if m.state==1 then bR ⟨2,m.no,c⟩ ⟨3,m.no,c⟩ (DB l c m)else[]
def ze(l:bu)(c:Int)(m:av):List aU:=if m.state==1&&decide (DB l c m<DP l c m)then[⟨m.no,c,DP l c m-DB l c m⟩]else[]
def ZQ(l:bu)(r:aA)(c:Int):Bool:=(l.okB&&r.okB)&&within c 0 2
def mZ(l:bu)(r:aA)(c:Int):Int:=if l.okB&&r.okB then(if within c 0 2 then jk (r.ms.flatMap (pE l c))else 3)else 14
def jQ(l:bu)(r:aA)(c:Int):List aK:=if ZQ l r c then fG (r.ms.flatMap (pE l c))else[]
def l7(l:bu)(r:aA)(c:Int):List aU:=if ZQ l r c then r.ms.flatMap (ze l c)else[]
def Sb{r:aA}(h:r.okB=true):∀m∈r.ms,m.ok=true:=by
 simp only[aA.okB,bQ]at h;exact λm a=>wC h.1.1 m a
def J0(l:bu)(r:aA)(c:Int)(hb:l.bs.length<2^30)(hr:∀b∈l.bs,b.fB)(h:r.jX)(O:r.ms.length<2^27):Sq 190 [] [.agg l.cells,.agg r.cells,.int .i64 c] [.own 3 ((l7 l r c).map aU.cells)] (.bI [.sl 4 ((jQ l r c).map aK.cells),.ref 0,.int .i64 (mZ l r c)]):=by
 have c1:=lz l hb hr;have c2:=ga r h.small;have c3:=iX c;have J:=λa=>ou l a hb;have Q:=λa b n=>lI a b n;have C:∀a,l.okB=true->bB (eP a l.bs)=true:=λa h=>mQ h a;have N:=λ(h:l.okB=true) w=>TN h w c;have hJl:=gH (f:=pE l c) (m:=2) (λm=>by unfold pE;split<;>simp[bR]) r.ms;have cJ:=qW (r.ms.flatMap (pE l c)) ak;simp only[bu.cells,aC.cells]at c1 J Q |-;simp only[aA.cells]at c2 |-;refine bp 93 3 [.tmp 6,.tmp 7,.tmp 8] mixed func190 ?_;refine sc aS c1 ?_;cases o:l.okB
 ·have e:mZ l r c=14:=by simp[mZ,o]
  have s:jQ l r c=[]:=by simp[jQ,ZQ,o]
  have e2:l7 l r c=[]:=by simp[l7,ZQ,o]
  exact gY (a3 e s e2)
 refine sc aS c2 ?_;cases q:r.okB
 ·have e:mZ l r c=14:=by simp[mZ,q]
  have s:jQ l r c=[]:=by simp[jQ,ZQ,q]
  have e2:l7 l r c=[]:=by simp[l7,ZQ,q]
  exact gY (a3 e s e2)
 refine sc aS c3 ?_;cases B:within c 0 2
 ·have e:mZ l r c=3:=by simp[mZ,o,q,B]
  have s:jQ l r c=[]:=by simp[jQ,ZQ,B]
  have e2:l7 l r c=[]:=by simp[l7,ZQ,B]
  exact gY (a3 e s e2)
 have e:mZ l r c=jk (r.ms.flatMap (pE l c)):=by simp[mZ,o,q,B]
 have s:jQ l r c=fG (r.ms.flatMap (pE l c)):=by simp[jQ,ZQ,o,q,B]
 have e2:l7 l r c=r.ms.flatMap (ze l c):=by simp[l7,ZQ,o,q,B]
 rw[e,s,e2];have C:=λa=>C a o;have N:=N o;have H:=Sb q;clear e s e2 c1 c2 c3;simp only[go_sem,seval];refine bg ?_;refine aF.wv r.ms.length [2,3,4] [64,80] (λi=>[(11,.int .i64 i),(9,.ref 1152),(10,.ref 1360)]) (λi=>[(1152,.own 4 (((r.ms.take i).flatMap (pE l c)).map aK.cells)),(1360,.own 3 (((r.ms.take i).flatMap (ze l c)).map aU.cells))]) ?_ ?_ ?_
 ·exact kG
 ·intro i _ u D z _;obtain⟨x,hx,O,hli⟩:=oc (c:=av.cells) r.ms u;have hlt:(r.ms.take i).length=i:=by simp;omega
  have k:=iq (pE l c) u;have j:=iq (ze l c) u;have X:=gH (f:=pE l c) (m:=2) (λm=>by unfold pE;split<;>simp[bR]) (r.ms.take i);have Y:=gH (f:=ze l c) (m:=1) (λm=>by unfold ze;split<;>simp) (r.ms.take i);have I:=H _ (dS u);obtain⟨L,R⟩:=aN ((r.ms.take i).flatMap (pE l c));obtain⟨M,S⟩:=aN ((r.ms.take i).flatMap (ze l c));rw[<-hx]at k j I;rw[<-R]at k X;rw[<-S]at j Y;rw[<-R,<-S];simp only[av.ok,bB,bQ,bz]at I;simp only[av.cells]at O;clear cJ R S H;cases P:x.state==1
  ·simp only[pE,ze,P,cZ,iM,if_false,append_nil]at k j;refine sm (a5 D O gr P z) ?_;refine bg ?_;refine ah.v u ?_;simp only[go_sem,seval,k,j]
  have h1:=aP.1 (C ⟨3,x.no,c⟩);have h2:=aP.1 (C ⟨2,x.no,c⟩);have h3:=N x.no;have cF:=J ⟨3,x.no,c⟩;have cC:=J ⟨2,x.no,c⟩;have t:=Q ⟨2,x.no,c⟩ ⟨3,x.no,c⟩ (DB l c x);have G:DP l c x=max (x.need-eP ⟨3,x.no,c⟩ l.bs) 0:=rfl;have E:DB l c x=min (DP l c x) (max (eP ⟨2,x.no,c⟩ l.bs) 0):=rfl;simp only[pE,ze,P,cm,if_true]at k j;obtain⟨A,K⟩:=aN (DP l c x);obtain⟨F,p⟩:=aN (DB l c x);obtain⟨f,U⟩:=aN (eP ⟨3,x.no,c⟩ l.bs);obtain⟨g,W⟩:=aN (eP ⟨2,x.no,c⟩ l.bs);rw[<-K,<-p]at j;rw[<-p]at k t;rw[<-K,<-U]at G;rw[<-p,<-K,<-W]at E;rw[<-U]at cF h1 h3;rw[<-W]at cC h2;have Z:IntKind.wrap .i64 (x.need-f)=x.need-f:=gO ak ak;have aa:IntKind.wrap .i64 (A-F)=A-F:=gO ak ak;have eA:max (x.need-f) 0=A:=G.symm;have eF:min A (max g 0)=F:=E.symm;have y:(bR ⟨2,x.no,c⟩ ⟨3,x.no,c⟩ F).length=2:=rfl;obtain⟨V,hV⟩:=aN (bR ⟨2,x.no,c⟩ ⟨3,x.no,c⟩ F);rw[<-hV]at k t y;clear J Q K p U W hV C N;refine sm (a4 D O gr P) ?_;refine sc (a2 Z eA) cF ?_;refine sc eF cC ?_;refine sc aS t ?_;by_cases q2:F<A
  ·have d:decide (F<A)=true:=dY q2;rw[d,aq rfl]at j;simp only[go_sem,seval,d,aa,z,y];refine bg ?_;refine ah.v u ?_;exact gY (a2 k j)
  ·have d:decide (F<A)=false:=iA q2;rw[d,au sT,append_nil]at j;simp only[go_sem,seval,d,z,y];refine bg ?_;refine ah.v u ?_;exact gY (a2 k j)
 ·intro _ T _;simp only[go_sem,seval,T,eu];refine bg ?_;refine aG.gE [1152] [] false sT ?_;simp only[go_sem,seval];refine cz.gF cJ ?_;simp only[go_sem,seval]
def Rc(xs:List aI)(ws:List Int)(hl:xs.length<2^30)(hs:ws.length<2^30):Sq 59 [] [.sl 4 (xs.map aI.cells),.sl 1 (ints ws)] [.own 4 ((dR xs ws).map aI.cells)] (.ref 0):=by
 refine bp 26 2 [.tmp 4] mixed func59 ?_;refine s0 ?_;refine bg ?_;refine aF.wv xs.length [1,8,9] [160] (λi=>[(10,.I i),(5,.ref 384)]) (λi=>[(384,.own 4 ((dR (xs.take i) ws).map aI.cells))]) ?_ ?_ ?_
 ·simp only[go_sem,seval]<;>simp[dR]
 ·intro i _ d f b _;have h:=br (c:=aI.cells) xs d;have hli:(i:Int)<(xs.length:Int):=ak
  have hlt:(xs.take i).length=i:=by simp;omega
  have a:dR (xs.take (i+1)) ws=dR (xs.take i) ws++_:=iq _ d;have e:(dR (xs.take i) ws).length<=1*(xs.take i).length:=gH (λx=>by split<;>simp) _;obtain⟨L,k⟩:=aN (dR (xs.take i) ws);obtain⟨x,l⟩:=aN (xs[i]);rw[<-k]at a e |-;rw[<-l]at a h;have j:=uY ws x.who ak;simp only[aI.cells]at h;refine sc (a2 f h) j ?_;cases q:sI ws x.who
  ·rw[q]at a;simp only[iM,if_false]at a;refine sm b ?_;refine bg ?_;refine ah.v d ?_;exact gY a
  ·rw[q]at a;simp only[if_true,append_nil]at a;refine sm b ?_;refine bg ?_;refine ah.v d ?_;exact dL a
 ·intro _ g _;simp only[go_sem,seval,g,eu]
def NZ(xs:List aI)(ws:List Int)(a:xs.length<2^30)(b:ws.length<2^30):Sq 59 [] [.sl 4 (xs.map aI.cells),.sl 1 (ints ws)] [] (.sl 4 ((dR xs ws).map aI.cells)):=by
 refine Spec.frozen (Rc xs ws a b) [0] rfl ?_;intro r;rcases r with _|r<;>rfl
def H8(ms:List av)(x:av){k:Nat}(w:k<ms.length)(p:∀i (h:i<k),(ms[i]'ak).no<x.no)(u:ms[k].no=x.no)(hl:ms.length<2^30):Sq 53 [.own 3 (ms.map av.cells)] [.ref 0,.fn 54 [],.agg x.cells] [.own 3 ((ms.set k x).map av.cells)] (.ref 0):=by
 have e:=λy=>qV y;have j:(ms.set k x).map av.cells=(ms.map av.cells).set k x.cells:=by rw[map_set]
 rw[j];simp only[av.cells]at e |-;refine bp 52 3 [.tmp 6] mixed func53 ?_;refine s0 ?_;refine bg ?_;refine aF.wv k [0,1,5] [0,96] (λi=>[(7,.I i)]) (λ_=>[]) ?_ ?_ ?_
 ·exact jq
 ·intro i _ s _ q _;have a:i<ms.length:=ak
  have b:=br (c:=av.cells) ms a;have n:(i:Int)<(ms.length:Int):=ak
  have m:decide ((i:Int)<(ms.length:Int))=true:=dY n;have f:decide ((ms[i]'a).no<x.no)=true:=dY (p i s);have d:=e (ms[i]'a);have l:=e x;obtain⟨y,r⟩:=aN (ms[i]'a);rw[<-r]at b f d;simp only[av.cells]at b;refine sc (a2 m b) d ?_;refine sc (a2 f q) l ?_;refine bg ?_;refine ah.v s ?_;exact jq
 ·intro _ _ _;obtain⟨y,r,b,o⟩:=oc (c:=av.cells) ms w;have g:decide ((k:Int)<(ms.length:Int))=true:=dY o;have f:decide (ms[k].no<x.no)=false:=iE;have t:(ms[k].no==x.no)=true:=su u;have d:=e ms[k];have l:=e x;rw[<-r]at f t d;simp only[av.cells]at b;refine sc (a2 g b) d ?_;refine sc f l ?_;refine gf.id ?_;refine sc (a2 g b) d ?_;refine sc t l ?_;refine bg ?_;rw[b];rfl
def iI(b:bU):aK:=⟨b.kind,b.who,b.cur,b.sum⟩
def wV(x:aK):bU:=⟨x.kind,x.who,x.cur,x.cu⟩
def HF(x:aK):Bool:=decide (x.cu<x.bq.floor)
def CH(l:bu)(g:List aK):List aK×Int:=xO (g++l.bs.map iI)
def nH(l:bu)(id:Int)(g:List aK):Int:=
 if l.okB then(if within id 1 1099511627776 then(if id<=l.last then 18 else if lJ g=0 then(if(CH l g).2=0 then(if(CH l g).1.any HF then 13 else 0)else(CH l g).2)else lJ g)else 3)else 14
def rZ(l:bu)(id:Int)(g:List aK):bu:=if nH l id g=0 then⟨id,(CH l g).1.map wV⟩else⟨0,[]⟩
def alN(l:List aK):(LQ rF l).length=l.length:=Uf _ _
theorem OZ:∀(n:Nat)(S out:List aK),(Ck n S out).1.length<=out.length+S.length
 | 0,_,out=>by simp[Ck]
 | _+1,[],out=>by simp[Ck]
 |n+1,x::r,out=>by
  unfold Ck;split
  ·have a:=OZ n ((x::r).dropWhile (nu x.bq)) (out++tN x.bq (ay (NA x.bq (x::r))));have h2:=Hw x.bq (ay (NA x.bq (x::r)));have h3:((x::r).dropWhile (nu x.bq)).length<=r.length:=by
    rw[dropWhile_cons,show nu x.bq x=true from IM.2 ⟨rfl,rfl,rfl⟩];exact(dropWhile_suffix _).length_le
   rw[cR]at a;rw[length_cons];omega
  ·simp
def Vc(l:List aK):(xO l).1.length<=l.length:=by
 unfold xO;split
 ·have:=OZ (LQ rF l).length (LQ rF l) [];rw[alN]at this |-;simpa using this
 ·simp
theorem YP(l:bu)(id:Int)(g:List aK)(hl:l.bs.length<2^28)(hg:g.length<2^28):Sq 15 [] [.agg l.cells,.int .i64 id,.sl 4 (g.map aK.cells)] [.own 4 ((rZ l id g).bs.map bU.cells)] (.bI [.agg [.int .i64 (rZ l id g).last,.ref 0],.int .i64 (nH l id g)]):=by
 have R:=u7 l ak;have U:=JJ g ak;have Q:=Ph (g++l.bs.map iI) (by rw[cR,qE];omega);have q:=Vc (g++l.bs.map iI);rw[cR,qE]at q;simp only[bu.cells]at R |-;refine bp 98 3 [.cell 6 37,.tmp 7] mixed func15 ?_;refine sc aS R ?_;cases w:l.okB
 ·have e:nH l id g=14:=by simp[nH,w]
  simp only[go_sem,seval,rZ,e]<;>simp
 cases n:within id 1 1099511627776
 ·have e:nH l id g=3:=by simp[nH,w,n]
  simp only[within,Bool.and_eq_false_iff,gv]at n;by_cases h:id<1
  ·have d:decide (id<1)=true:=dY h;simp only[go_sem,seval,d,rZ,e]<;>simp
  ·have d:decide (id<1)=false:=iA h;have y:decide (1099511627776<id)=true:=iy;simp only[go_sem,seval,d,y,rZ,e]<;>simp
 have M:decide (id<1)=false:=by simp only[within,bQ,bz]at n;exact iE
 have y:decide (1099511627776<id)=false:=by simp only[within,bQ,bz]at n;exact iE
 by_cases z:id<=l.last
 ·have H:decide (id<=l.last)=true:=dY z;have e:nH l id g=18:=by simp[nH,w,n,z]
  simp only[go_sem,seval,M,y,H,rZ,e]<;>simp
 have H:decide (id<=l.last)=false:=iA z;refine sc (a3 M y H) U ?_;cases C:lJ g==0
 ·have K:lJ g≠0:=su C;have e:nH l id g=lJ g:=by simp[nH,w,n,z,K]
  have e2:rZ l id g=⟨0,[]⟩:=by simp[rZ,e,K]
  exact gY (a4 gr C e e2)
 have K:lJ g=0:=su C;have e:nH l id g=if(CH l g).2=0 then(if(CH l g).1.any HF then 13 else 0)else(CH l g).2:=by simp[nH,w,n,z,K]
 simp only[rZ];rw[e];clear e R U n M y H;rw[show xO (g++l.bs.map iI)=CH l g from rfl]at Q q;obtain⟨J,p⟩:=aN ((CH l g).1);obtain⟨E,A⟩:=aN ((CH l g).2);rw[<-p,<-A]at Q;rw[<-p]at q;rw[<-p,<-A];refine sm (a2 gr C) ?_;refine bg ?_;have e0:g.map aK.cells=(g++(l.bs.take 0).map iI).map aK.cells:=by simp
 rw[e0];refine aF.wv l.bs.length [1,3,6,47,48] [64,112] (λi=>[(49,.I i),(9,.ref 976)]) (λi=>[(976,.own 4 ((g++(l.bs.take i).map iI).map aK.cells))]) ?_ ?_ ?_
 ·exact jq
 ·intro i _ m r t _;obtain⟨b,V,B,T⟩:=oc (c:=bU.cells) l.bs m;have a:(g++(l.bs.take (i+1)).map iI)=(g++(l.bs.take i).map iI)++[iI l.bs[i]]:=by rw[jU m,jF,dz];rfl
  have k:(g++(l.bs.take i).map iI).length<=g.length+i:=by rw[cR,qE,fZ];omega
  rw[<-V]at a;obtain⟨W,S⟩:=aN (g++(l.bs.take i).map iI);rw[<-S]at a k |-;simp only[bU.cells]at B;refine sm (a3 r B t) ?_;refine bg ?_;refine ah.v m ?_;simp only[go_sem,seval,a,jF,map_cons,map_nil,iI]
 ·intro _ s _;rw[eu];refine sm s ?_;refine aG.gE [976] [] false sT ?_;refine s0 ?_;refine cz.gF Q ?_;cases D:E==0
  ·have N:E≠0:=su D;exact gY (a3 gr D N)
  have N:E=0:=su D;subst N;refine sm (a2 gr D) ?_;refine aF.wu J.length [6,13,73,74] [112,1040] (λi=>[(75,.I i)]) (λi=>[(224,.box [.I id,.ref 1520]),(1520,.own 4 (((J.take i).map wV).map bU.cells))]) (λi=>(J.take i).any HF=false) rfl ?_ ?_ ?_
  ·exact kG
  ·intro i _ m r t L;obtain⟨x,X,B,T⟩:=oc (c:=aK.cells) J m;have a:(J.take (i+1)).map wV=(J.take i).map wV++[wV J[i]]:=by rw[jU m,jF];rfl
   have f:(J.take (i+1)).any HF=((J.take i).any HF||HF J[i]):=by rw[jU m,any_append];simp
   have o:HF J[i]=true->J.any HF=true:=λh=>any_eq_true.2 ⟨J[i],dS m,h⟩;have k:((J.take i).map wV).length<=i:=by rw[qE,fZ];omega
   rw[<-X]at a f o;have O:=yf x.bq;have j:HF x=decide (x.cu<x.bq.floor):=rfl;obtain⟨F,P⟩:=aN (x.bq.floor);rw[<-P]at O j;obtain⟨W,S⟩:=aN ((J.take i).map wV);rw[<-S]at a k |-;simp only[aK.cells]at B;simp only[aC.cells,aK.bq]at O;refine sc (a2 r B) O ?_;cases G:decide (x.cu<F)
   ·rw[G]at j;rw[j,Bool.or_false]at f;refine sm (a2 G t) ?_;refine bg ?_;refine ah.u m (by rw[f];exact L) ?_;simp only[go_sem,seval,a,jF,map_cons,map_nil,wV]
   ·rw[G]at j;have:=o j;exact gY (a2 G this)
  ·intro _ s L;rw[eu]at L |-;exact gY (a2 s L)
theorem LS(a b:List Int):ay (a++b)=ay a+ay b:=by
 induction a with
 |nil=>simp[ay]
 |cons x r ih=>simp only[cons_append,ay,ih];omega
def Hj{a:aC}{b:bU}:RX a b=true↔b.bq=a:=by
 have:RX a b=nu a (iI b):=rfl;rw[this,qM];rfl
theorem Lj{a:aC}:∀{bs:List bU},(∀b∈bs,b.bq≠a)->eP a bs=0
 | [],_=>rfl
 |b::r,h=>by
  have c:RX a b=false:=by
   cases d:RX a b with
   |false=>rfl
   |true=>exact absurd (Hj.1 d) (h b sT)
  rw[eP,c];exact Lj λz e=>h z (by simp[e])
theorem Pr(a:aC):∀{bs:List bU},bs.Pairwise (λx y=>x.bq.less y.bq=true)->ay (bZ a (bs.map iI))=eP a bs
 | [],_=>rfl
 |b::r,h=>by
  rw[kB]at h;have j:=Pr a h.2;have g:bZ a ((b::r).map iI)=bZ a [iI b]++bZ a (r.map iI):=zJ a [iI b] (r.map iI);rw[g,LS,j,eP];cases f:RX a b with
  |false =>
   rw[wW (l:=[iI b]) λy e=>by
    rw[gV.1 e];intro d;have:RX a b=true:=Hj.2 d
    rw[f]at this;cases this]
   simp[ay]
  |true =>
   have c:=Hj.1 f;rw[Hx (l:=[iI b]) λy e=>by rw[gV.1 e];exact c]
   rw[Lj λz i=>by
    intro d;have:=h.1 z i;rw[d,c,MK]at this
    unfold aC.lt at this;omega]
   simp[ay,iI]
def floor_le(a:aC):a.floor<=0:=by
 unfold aC.floor;split<;>omega
def post_eq(t:∀x:aC,x.right=true->x∈fP)(u:fP.Pairwise λa b=>a.less b=true)
  (h:∀bs:List bU,lG bs=true->(∀b∈bs,lR b=true)/\bs.Pairwise (λx y=>x.bq.less y.bq=true))
  (l:bu) (id:Int) (g:List aK):nH l id g=eK l id g/\rZ l id g=iQ l id g:=by
 have key:l.okB=true->lJ g=0->(CH l g).2=(if uF l g fP then 0 else 1)/\(uF l g fP=true->(CH l g).1.any HF=vZ l g fP/\(CH l g).1.map wV=Fh l g fP):=by
  intro e d;have n:lG l.bs=true:=by
   unfold bu.okB at e;simp only[bQ]at e;exact e.1.2
  obtain⟨s,o⟩:=h _ n;have r:=(Gw d).1;have i:qF (g++l.bs.map iI)=true:=by
   unfold qF at r |-;rw[all_append,r,cm,bL];intro x v;obtain⟨b,k,rfl⟩:=mem_map.1 v;have:=s b k;unfold lR at this;simp only[bQ]at this;unfold sA;rw[bQ];exact⟨this.1,this.2.1⟩
  have p:∀a,ay (bZ a (g++l.bs.map iI))=n7 l g a:=by
   intro a;rw[zJ,LS,Pr a o,n7,ay];omega
  have m:kP (g++l.bs.map iI) fP=uF l g fP:=by
   unfold kP uF;congr 1;funext a;rw[p]
  unfold CH;rw[Pf t u];unfold fG jk;rw[i,aq rfl,m];refine⟨rfl,λf=>?_⟩;rw[f,aq rfl,aq rfl];refine⟨?_,?_⟩
  ·unfold oh vZ;rw[any_flatMap];congr 1;funext a;rw[p];unfold tN;cases w:n7 l g a==0
   ·simp[HF,aK.bq];rfl
   ·have:n7 l g a=0:=su w;have hf:=floor_le a;simp[this];omega
  ·unfold oh Fh;rw[map_flatMap];congr 1;funext a;rw[p];unfold tN uU;split<;>rfl
 have q:nH l id g=eK l id g:=by
  unfold nH eK;cases e:l.okB
  ·rfl
  cases h2:within id 1 1099511627776
  ·rfl
  by_cases j:id<=l.last
  ·rw[aq j,aq j]
  rw[au j,au j];by_cases d:lJ g=0
  ·obtain⟨z,A⟩:=key e d;rw[aq d,aq d,z];cases f:uF l g fP
   ·rfl
   ·rw[(A f).1];rfl
  ·rw[au d,au d]
 refine⟨q,?_⟩;unfold rZ iQ;rw[q];by_cases c:eK l id g=0
 ·rw[aq c,aq c];unfold eK at c;split at c
  ·rename_i e;split at c
   ·split at c
    ·cases c
    ·split at c
     ·rename_i d;split at c
      ·rename_i f;rw[((key e d).2 f).2]
      ·cases c
     ·rename_i d;exact absurd c d
   ·cases c
  ·cases c
 ·rw[au c,au c]
theorem MI(l:bu)(id:Int)(g:List aK)(b:l.bs.length<2^28)(a:g.length<2^28):Sq 15 [] [.agg l.cells,.int .i64 id,.sl 4 (g.map aK.cells)] [] (.bI [.agg (rZ l id g).cells,.int .i64 (nH l id g)]):=by
 refine Spec.frozen (YP l id g b a) [0] rfl ?_;intro r;rcases r with _|r<;>rfl
