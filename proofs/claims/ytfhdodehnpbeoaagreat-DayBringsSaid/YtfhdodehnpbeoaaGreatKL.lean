/- Parts. -/
import Derived.Test.YtfhdodehnpbeoaaGreatKJ
import Derived.Test.YtfhdodehnpbeoaaGreatKK
import Derived.Test.YtfhdodehnpbeoaaGreatKI
set_option linter.all false
set_option maxHeartbeats 4000000
set_option maxRecDepth 16000
namespace Go.Proofs.YtfhdodehnpbeoaaGreat
open Go.Abs Tryz
open List hiding lt max min
def Lt(b:aJ)(w n:Int)(a:b.small)(hr:∀p∈b.qs,-1099511627776<=p.aQ/\p.aQ<=1099511627776):Sq 371 [] [.agg b.cells,.agg [.int .i64 w,.int .i64 n]] [] (.bD [.sl 1 (ints (uv (posOf w n b.qs).aQ n b.qs)),.sl 1 (ints (kk (posOf w n b.qs).aQ n b.qs))]):=by
 refine Spec.frozen (Ni b w n a hr) [0,1] rfl ?_;intro r;rcases r with _| _|r<;>rfl
def Rc(q:Int)(l:List bn)(a:l.length<2^28):Sq 352 [] [.int .i64 q,.sl 5 (l.map bn.cells)] [] (.bD [.sl 3 ((jz q l).1.map dX.cells),.int .i64 (jz q l).2,.int .i64 (mD q l)]):=by
 refine Spec.frozen (Uf q l a) [0] rfl ?_;intro r;rcases r with _|r<;>rfl
def uD(f:dX):Bool:=within f.aQ 0 1099511627776&&within f.aS 0 1073741824
def xG(long:Bool)(n:Int):Int:=if long then n else -n
def vl(w n:Int)(long:Bool)(f:dX):List aE:=[⟨f.src,n,xG long f.aQ,xG long (f.aQ*f.aS)⟩,⟨w,n,-xG long f.aQ,-xG long (f.aQ*f.aS)⟩]
def jL(l:List dX):Int:=if l.all uD then(if l.all λf=>bA (f.aQ*f.aS)then 0 else 1)else 3
def lR(w n:Int)(long:Bool)(l:List dX):List aE:=if jL l=0 then l.flatMap (vl w n long)else[]
def Nf(w n:Int)(long:Bool)(l:List dX)(hl:l.length<2^28):Sq 353 [] [.agg [.int .i64 w,.int .i64 n],.bool long,.sl 3 (l.map dX.cells)] [.own 4 ((lR w n long l).map aE.cells)] (.bD [.ref 0,.int .i64 (jL l)]):=by
 simp only[lR];refine aX 86 3 [.tmp 6,.tmp 7] mixed func353 ?_;simp only[go_sem,seval];refine aG.w1 l.length 8 [1,2,3] [64] (λi _=>(l.drop i).all uD=l.all uD) rfl ?_ ?_
 ·intro i _ d p j a;have g:=aM (c:=dX.cells) l d;have v:(i:Int)<(l.length:Int):=aj
  obtain⟨x,r⟩:=aL (l[i]);have k1:=j5 x.aQ 0 1099511627776;have k2:=j5 x.aS 0 1073741824;rw[dI d,<-r]at a;rw[<-r]at g;simp only[all_cons,uD]at a;simp only[dX.cells]at g;refine sc (a2 p g) k1 ?_;cases b:within x.aQ 0 1099511627776
  ·rw[b,dU,dU]at a;have o:jL l=3:=by simp only[jL];rw[show l.all uD=false from a.symm];rfl
   exact gH (a2 b o)
  refine sc (a2 b g) k2 ?_;cases t:within x.aS 0 1073741824
  ·rw[b,t,Bool.and_false,dU]at a;have o:jL l=3:=by simp only[jL];rw[show l.all uD=false from a.symm];rfl
   exact gH (a2 t o)
  rw[b,t,Bool.and_self,cz]at a;simp only[go_sem,seval,t,j];refine ah.u d a ?_;simp only[go_sem,seval]
 intro _ h a;rw[jJ]at a;have a:l.all uD=true:=a.symm;have q:∀f∈l,uD f=true:=cg.1 a;have e:jL l=if l.all λf=>bA (f.aQ*f.aS)then 0 else 1:=by simp[jL,a]
 rw[e];clear e a;simp only[go_sem,seval,h];clear h;refine aG.wu l.length [1,2,3] [64] (λi=>[(10,.int .i64 i),(9,.ref 1360)]) (λi=>[(1360,.own 4 (((l.take i).flatMap (vl w n long)).map aE.cells))]) (λi=>((l.drop i).all λf=>bA (f.aQ*f.aS))=l.all λf=>bA (f.aQ*f.aS)) rfl ?_ ?_ ?_
 ·exact jh
 ·intro i _ d p j a;have g:=aM (c:=dX.cells) l d;have v:(i:Int)<(l.length:Int):=aj
  have k:=gU (vl w n long) d;have y:=gJ (f:=vl w n long) (m:=2) (λf=>by simp[vl]) (l.take i);have hlt:(l.take i).length=i:=by simp;omega
  have s:=q _ (dH d);obtain⟨L,E⟩:=aL ((l.take i).flatMap (vl w n long));obtain⟨x,r⟩:=aL (l[i]);rw[<-E]at k y |-;rw[dI d,<-r,all_cons]at a;rw[<-r]at k g s;simp only[uD,within,cU,bO]at s;have c1:=HB x.aQ x.aS ⟨by omega,by omega⟩ ⟨by omega,by omega⟩;simp only[vl]at k;obtain⟨C,D⟩:=aL (x.aQ*x.aS);rw[<-D]at c1 a k;simp only[dX.cells]at g;refine sc (a2 p g) c1 ?_;cases b:bA C
  ·rw[b,dU]at a;rw[<-a];simp only[go_sem,seval,b];all_goals simp
  have hCr:=bf.1 b;rw[b,cz]at a;have w1:IntKind.wrap .i64 (0-x.aQ) = -x.aQ:=fU;have z:IntKind.wrap .i64 (0-C) = -C:=fU;have A:IntKind.wrap .i64 (0 - -x.aQ) = - -x.aQ:=fU;have B:IntKind.wrap .i64 (0 - -C) = - -C:=fU;cases long
  ·simp only[xG,iI,if_false]at k;simp only[go_sem,seval,b,g,w1,z,A,B,j,if_true];refine aV ?_;refine ah.u d a ?_;exact gH k
  ·simp only[xG,if_true]at k;simp only[go_sem,seval,b,g,w1,z,A,B,j,if_true];refine aV ?_;refine ah.u d a ?_;exact gH k
 ·intro _ h a;rw[jJ]at a;rw[<-a];simp only[go_sem,seval,h,eU]
  and_intros<;>first|exact .dq|omega|skip
  all_goals simp
def BK(w n:Int)(long:Bool)(l:List dX)(a:l.length<2^28):Sq 353 [] [.agg [.int .i64 w,.int .i64 n],.bool long,.sl 3 (l.map dX.cells)] [] (.bD [.sl 4 ((lR w n long l).map aE.cells),.int .i64 (jL l)]):=by
 refine Spec.frozen (Nf w n long l a) [0] rfl ?_;intro r;rcases r with _|r<;>rfl
def Lp(t:Int)(l:List Int)(a:l.length<2^30):Sq 115 [] [.int .i64 t,.sl 1 (ints l)] [] (.bD [.sl 1 (ints (if j9 t l=0 then vm t l else[])),.int .i64 (if j9 t l=0 then ze t l else 0),.int .i64 (j9 t l)]):=by
 refine Spec.frozen (Nc t l a) [0] rfl ?_;intro r;rcases r with _|r<;>rfl
def l7(c bJ:Int)(a:List Int):Int:=if(within c 0 2&&a.length==5)&&(within bJ 0 4611686018427387904&&j9 bJ a==0)then 0 else 3
def Dr(c bJ rest:Int)(g:List Int):eu:=⟨c,bJ,g.getD 0 0,g.getD 1 0,g.getD 2 0,g.getD 3 0,g.getD 4 0,rest⟩
def lu(c bJ:Int)(a:List Int):eu:=if l7 c bJ a=0 then Dr c bJ (ze bJ a) (vm bJ a)else⟨0,0,0,0,0,0,0,0⟩
theorem J5:∀(l:List Int)(t:Int),(vm t l).length=l.length
 | [],_=>rfl
 |c::r,t=>by simp only[vm,length_cons,J5 r]
def abb(g:List Int)(i:Nat):List D:=[.I (if 0<i then g.getD 0 0 else 0),.I (if 1<i then g.getD 1 0 else 0),.I (if 2<i then g.getD 2 0 else 0),.I (if 3<i then g.getD 3 0 else 0),.I (if 4<i then g.getD 4 0 else 0)]
def Fg(c bJ:Int)(a:List Int)(t:a.length<2^30):Sq 42 [] [.int .i64 c,.int .i64 bJ,.sl 1 (ints a)] [] (.bD [.agg (lu c bJ a).cells,.int .i64 (l7 c bJ a)]):=by
 have c1:=jY c;have c2:=j5 bJ 0 4611686018427387904;have c3:=Lp bJ a t;refine aX 53 3 [.cell 6 111,.tmp 7] mixed func42 ?_;refine sc aK c1 ?_;cases n:within c 0 2
 ·have e:l7 c bJ a=3:=by simp[l7,n]
  simp only[go_sem,seval,lu,e,eu.cells]<;>simp
 by_cases k:a.length=5
 case neg =>
  have d:(((a.length:Nat):Int)==5)=false:=by simp;omega
  have e:l7 c bJ a=3:=by simp[l7,k]
  simp only[go_sem,seval,aA,bne,d,lu,e,eu.cells]<;>simp
 have r:(((a.length:Nat):Int)==5)=true:=by simp;omega
 simp only[go_sem,seval,aA,bne,r];refine sc aK c2 ?_;cases o:within bJ 0 4611686018427387904
 ·have e:l7 c bJ a=3:=by simp[l7,o]
  simp only[go_sem,seval,lu,e,eu.cells]<;>simp
 refine sc aK c3 ?_;by_cases f:j9 bJ a=0
 case neg =>
  have d:(j9 bJ a==0)=false:=su f;have e:l7 c bJ a=3:=by simp[l7,d]
  rw[aq f,aq f];simp only[go_sem,seval,bne,d,lu,e,eu.cells]<;>simp
 have e:l7 c bJ a=0:=by simp[l7,n,k,o,f]
 have l:(vm bJ a).length=5:=by rw[J5,k]
 simp only[lu,e,if_true];rw[f,au rfl,au rfl];obtain⟨g,j⟩:=aL (vm bJ a);obtain⟨T,p⟩:=aL (ze bJ a);rw[<-j]at l |-;rw[<-p];clear j p c1 c2 c3 e;simp only[go_sem,seval];refine aV ?_;refine aG.wv 5 [6,8,11] [112] (λi=>[(12,.int .i64 i)]) (λi=>[(192,.box ([.int .i64 c,.int .i64 bJ]++abb g i++[.int .i64 T]))]) ?_ ?_ ?_
 ·simp only[go_sem,seval,abb]<;>simp
 ·intro i _ s b m _;have b:decide ((i:Int)<5)=true:=b;have h:i<g.length:=aj
  have q:=ints_at g h;have j:g[i]=g.getD i 0:=by simp[h]
  rw[j]at q;have hli:(i:Int)<(g.length:Int):=aj
  obtain rfl|rfl|rfl|rfl|rfl:i=0\/i=1\/i=2\/i=3\/i=4:=aj
  all_goals
   simp only[abb,cons_append,nil_append];simp only[go_sem,seval,b,aA,q,m];refine aV ?_;refine ah.v s ?_;simp only[go_sem,seval,abb];all_goals rfl
 ·intro _ hdx _;simp only[go_sem,seval,abb,Dr,eu.cells];all_goals simp
def Bs(l:bu)(c n:Int)(ws:List Int):Int:=if fR l c ws=0 then tM 3 c n (lY l c ws) ws (cB l c ws)else fR l c ws
def yg(l:bu)(c n:Int)(ws:List Int):List aN:=if fR l c ws=0 then vh 3 c n (lY l c ws) ws (cB l c ws)else[]
def Rf(l:bu)(c n:Int)(ws:List Int)(e:l.bs.length<2^30)(hr:∀b∈l.bs,b.gq)(f:ws.length<2^27):Sq 338 [] [.agg l.cells,.int .i64 c,.int .i64 n,.sl 1 (ints ws)] [] (.bD [.sl 4 ((yg l c n ws).map aN.cells),.int .i64 (Bs l c n ws)]):=by
 have c1:=BO l c ws e hr aj;have c2:=C9 l c ws e aj;have c3:=C4 3 c n (lY l c ws) ws (cB l c ws) (by simp[cB]) f;simp only[bu.cells]at c1 c2 |-;simp only[yg,Bs];refine aX 33 4 [.tmp 8,.tmp 9] mixed func338 ?_;refine sc aK c1 ?_;by_cases a:fR l c ws=0
 case neg =>
  have d:(fR l c ws==0)=false:=su a;simp only[go_sem,seval,bne,d,aq a]<;>simp
 rw[a,au rfl,au rfl];refine sc aK c2 ?_;exact lX aK c3
def qZ(r:ay)(c n:Int)(ws:List Int):Int:=if iO r ws=0 then(if within c 0 2 then tM 2 c n (qy r ws) ws (gj r ws)else 3)else iO r ws
def oJ(r:ay)(c n:Int)(ws:List Int):List aN:=if iO r ws=0&&within c 0 2 then vh 2 c n (qy r ws) ws (gj r ws)else[]
def Lk(r:ay)(c n:Int)(ws:List Int)(h:r.jQ)(hr:∀m∈r.ms,m.gq)(b:ws.length<2^27):Sq 339 [] [.agg r.cells,.int .i64 c,.int .i64 n,.sl 1 (ints ws)] [] (.bD [.sl 4 ((oJ r c n ws).map aN.cells),.int .i64 (qZ r c n ws)]):=by
 have c1:=C8 r ws h hr aj;have c2:=BN r ws h aj;have c3:=C4 2 c n (qy r ws) ws (gj r ws) (by simp[gj]) b;have c4:=jY c;simp only[ay.cells]at c1 c2 |-;simp only[oJ,qZ];refine aX 34 4 [.tmp 8,.tmp 9] mixed func339 ?_;refine sc aK c1 ?_;by_cases a:iO r ws=0
 case neg =>
  have d:(iO r ws==0)=false:=su a;simp only[go_sem,seval,bne,d,aq a]<;>simp[a]
 rw[a,au rfl];refine sc aK c4 ?_;cases b2:within c 0 2
 ·exact jh
 refine sc aK c2 ?_;refine aV ?_;refine az.aP c3 ?_;exact jh
def pZ(ws ps:List Int)(i:Nat):List dX:=if 0<ps.getD i 0 then[⟨ws.getD i 0,ps.getD i 0,0⟩]else[]
def Df(ws ps:List Int):List dX:=n6 (pZ ws ps) ps.length
def j4(b:aJ)(w n k:Int):Int:=if b.okB then(if within k 0 1099511627776 then(if aC (kk (posOf w n b.qs).aQ n b.qs)<k then 13 else 0)else 3)else 14
def kG(b:aJ)(w n k:Int):List dX:=if j4 b w n k=0 then Df (uv (posOf w n b.qs).aQ n b.qs) (cy k (kk (posOf w n b.qs).aQ n b.qs))else[]
theorem Cl{A:Type}(p:A->Bool)(f g:A->Int):∀l:List A,(pick p f l).length=(pick p g l).length
 | []=>rfl
 |x::r=>by
  have:=Cl p f g r;simp only[pick,flatMap_cons,ct]at this |-;split<;>simp[this]
theorem yP{B:Int}(a:0<=B):∀{l:List Int},(∀x∈l,0<=x/\x<=B)->0<=aC l/\aC l<=B*l.length
 | [],_=>by simp[aC]
 |x::r,h=>by
  have h1:=h x sT;have h2:=yP a (l:=r) λy b=>h y (by simp[b]);simp only[aC,length_cons];push_cast;rw[Int.mul_add];omega
def Un(b:aJ)(w n k:Int)(P:b.small)(hr:∀p∈b.qs,p.gq)(hq:b.qs.length<2^20):Sq 354 [] [.agg b.cells,.agg [.int .i64 w,.int .i64 n],.int .i64 k] [.own 3 ((kG b w n k).map dX.cells)] (.bD [.ref 0,.int .i64 (j4 b w n k)]):=by
 have c1:=mV b P hr;have c2:=j5 k 0 1099511627776;simp only[aJ.cells]at c1 |-;refine aX 73 3 [.tmp 6,.tmp 7] mixed func354 ?_;simp only[go_sem,seval];refine sc aK c1 ?_;cases A:b.okB
 ·have e:j4 b w n k=14:=by simp[j4,A]
  simp only[go_sem,seval,kG,e]<;>simp
 simp only[go_sem,seval];refine sc aK c2 ?_;cases N:within k 0 1099511627776
 ·have e:j4 b w n k=3:=by simp[j4,A,N]
  simp only[go_sem,seval,kG,e]<;>simp
 have e:j4 b w n k=if aC (kk (posOf w n b.qs).aQ n b.qs)<k then 13 else 0:=by simp[j4,A,N]
 have s:=λp t=>BB (AK A p t);have c3:=Lt b w n P (λp t=>⟨(s p t).1,(s p t).2.1⟩);have c:(uv (posOf w n b.qs).aQ n b.qs).length=(kk (posOf w n b.qs).aQ n b.qs).length:=Cl _ _ _ _;have J:(kk (posOf w n b.qs).aQ n b.qs).length<=b.qs.length:=bR _ _ _;have r:∀x∈kk (posOf w n b.qs).aQ n b.qs,0<=x/\x<=1099511627776:=lB λp t=>by have:=s p t;omega
 simp only[kG];rw[e];obtain⟨ns,y⟩:=aL (kk (posOf w n b.qs).aQ n b.qs);obtain⟨ws,z⟩:=aL (uv (posOf w n b.qs).aQ n b.qs);rw[<-y]at c J r c3 |-;rw[<-z]at c c3 |-;simp only[aJ.cells]at c3;clear y z e c1 c2;simp only[go_sem,seval]
 and_intros<;>first|exact .dq|omega|skip
 refine az.aP c3 ?_;clear c3;simp only[go_sem,seval,aA]
 and_intros<;>first|exact .dq|omega|skip
 refine aG.wv ns.length [2,8,9] [] (λi=>[(11,.int .i64 i),(10,.int .i64 (aC (ns.take i)))]) (λ_=>[]) ?_ ?_ ?_
 ·simp only[go_sem,seval]<;>simp[aC]
 ·intro i _ h g o _;have D:=ints_at ns h;have j:aC (ns.take (i+1))=aC (ns.take i)+ns[i]:=by rw[j7 h,rO]
  have O:=yP (B:=1099511627776) (by decide) (l:=ns.take i) λx V=>r x (mem_of_mem_take V);have h2:=r ns[i] (dH h);have H:(ns.take i).length=i:=by simp;omega
  obtain⟨S,T⟩:=aL (aC (ns.take i));rw[<-T]at j O |-;rw[H]at O;have U:IntKind.wrap .i64 (S+ns[i])=S+ns[i]:=gx aj aj;have hli:(i:Int)<(ns.length:Int):=aj
  simp only[go_sem,seval,aA,g,D,U,o]
  and_intros<;>first|exact .dq|omega|skip
  refine ah.v h ?_;simp only[go_sem,seval,j]
 intro _ a _;rw[eU];by_cases C:aC ns<k
 ·have d:decide (aC ns<k)=true:=dw C;simp only[go_sem,seval,aA,a,d,au C]<;>simp
 have Q:decide (aC ns<k)=false:=gB C;have c4:=Da k ns aj;have K:=oE k ns;simp only[aq C];obtain⟨ps,M⟩:=aL (cy k ns);rw[<-M]at c4 K |-;simp only[go_sem,seval,aA,a,Q];refine aV ?_;refine az.aP c4 ?_;clear c4 a;simp only[go_sem,seval,aA,if_true]
 and_intros<;>first|exact .dq|omega|skip
 refine aG.wv ps.length [8,12] [] (λi=>[(15,.int .i64 i),(14,.ref 1152)]) (λi=>[(1152,.own 3 ((n6 (pZ ws ps) i).map dX.cells))]) ?_ ?_ ?_
 ·simp only[go_sem,seval,l9]<;>simp
 ·intro i _ h g o _;have u:i<ws.length:=aj
  have D:=ints_at ps h;have I:=ints_at ws u;have E:ps.getD i 0=ps[i]:=by simp[h]
  have F:ws.getD i 0=ws[i]:=by simp[u]
  have j:=iS (pZ ws ps) i;have G:=nS (f:=pZ ws ps) (m:=1) (λi=>by unfold pZ;split<;>simp) i;obtain⟨L,R⟩:=aL (n6 (pZ ws ps) i);rw[<-R]at j G |-;simp only[pZ,E,F]at j;have hlw:(i:Int)<(ws.length:Int):=aj
  have hlp:(i:Int)<(ps.length:Int):=aj
  by_cases q:0<ps[i]
  ·have d:decide (0<ps[i])=true:=dw q;rw[au q]at j;simp only[go_sem,seval,aA,g,D,d,I,o]
   and_intros<;>first|exact .dq|omega|skip
   refine ah.v h ?_;exact gH j
  ·have d:decide (0<ps[i])=false:=gB q;rw[aq q,append_nil]at j;simp only[go_sem,seval,aA,g,D,d,o]
   and_intros<;>first|exact .dq|omega|skip
   refine ah.v h ?_;simp only[go_sem,seval,j]
 ·intro _ a _;simp only[go_sem,seval,aA,a,Df]
def Lv(l:bu)(r:ay)(c:Int)(a:l.bs.length<2^30)(hr:∀b∈l.bs,b.gq)(h:r.jQ)(d:r.ms.length<2^27):Sq 307 [] [.agg l.cells,.agg r.cells,.int .i64 c] [] (.bD [.sl 4 ((lD l r c).map aN.cells),.sl 3 ((nX l r c).map aH.cells),.int .i64 (oT l r c)]):=by
 refine Spec.frozen (Nj l r c a hr h d) [0] rfl ?_;intro r;rcases r with _|r<;>rfl
def G5(k w c:Int):Sq 333 [] [.int .i64 k,.int .i64 w,.int .i64 c] [] (.agg [.int .i64 k,.int .i64 w,.int .i64 c]):=by
 refine aX 11 3 [.cell 6 65] mixed func333 ?_;simp only[go_sem,seval];all_goals(with_reducible and_intros)<;>first|exact .dq|omega|skip
def Ap(b:aJ)(g:List aE)(a:b.small)(hr:∀p∈b.qs,p.gq)(c:g.length<2^29):Sq 327 [] [.agg b.cells,.sl 4 (g.map aE.cells)] [] (.bD [.agg (qW b g).cells,.int .i64 (kR b g)]):=by
 refine Spec.frozen (zK b g a hr c) [0,1] rfl ?_;intro r;rcases r with _| _|r<;>rfl
def Gz(s:af)(w:Int):Int:=if bS s then(if bF s.ak w=0 then 10 else if bF s.ak w=2 then 0 else 14)else 14
def Uj(s:af)(w:Int)(d:s.small)(hr:s.gq):Sq 331 [] [.agg s.cells,.int .i64 w] [] (.int .i64 (Gz s w)):=by
 have c1:=jq s d hr;have c2:=tI s w d.ak.small;simp only[af.cells,Gz]at c1 c2 |-;obtain⟨t,g⟩:=aL (bF s.ak w);rw[<-g]at c2 |-;refine aX 15 2 [.tmp 4] mixed func331 ?_;refine sc aK c1 ?_;cases c:bS s
 ·simp only[go_sem,seval,c]
 refine sc c c2 ?_;by_cases a:t=0
 ·rw[a];simp only[go_sem,seval];all_goals(with_reducible and_intros)<;>first|exact .dq|omega|skip
 by_cases b:t=2
 ·rw[b];simp only[go_sem,seval];all_goals(with_reducible and_intros)<;>first|exact .dq|omega|skip
 have e:(t==0)=false:=su a;have f:(t==2)=false:=su b;rw[aq a,aq b];simp only[go_sem,seval,e,f];all_goals(with_reducible and_intros)<;>first|exact .dq|omega|skip
def F9(s:af)(w n:Int)(b:bn):Bool:=(b.who==w&&b.inst==n)&&bF s.ak b.src==1
def gQ(s:af)(w n:Int)(l:List bn):List bn:=l.flatMap λb=>if F9 s w n b then[b]else[]
def eK(p:Int)(f:dX):dX:={ f with aS:=p }
def mO(b:aJ)(w n:Int)(long:Bool)(f:List dX):aJ×Int:=if jL f=0 then(qW b (lR w n long f),kR b (lR w n long f))else(b,jL f)
def Au(b:aJ)(w n p:Int)(long:Bool)(rest:Int):aJ×Int:=if j4 b w n rest=0 then mO b w n long ((kG b w n rest).map (eK p))else(b,j4 b w n rest)
def nB(s:af)(b:aJ)(w n q:Int):aJ×Int:=
 if eG (aU s.ak n)then
  (if mD q (gQ s w n s.aZ)=0 then
   (if(mO b w n (decide (0<q)) (jz q (gQ s w n s.aZ)).1).2=0/\(jz q (gQ s w n s.aZ)).2≠0 then
    Au (mO b w n (decide (0<q)) (jz q (gQ s w n s.aZ)).1).1 w n (bC (aU s.ak n)) (decide (0<q)) (jz q (gQ s w n s.aZ)).2
   else mO b w n (decide (0<q)) (jz q (gQ s w n s.aZ)).1)
  else(b,mD q (gQ s w n s.aZ)))
 else(b,20)
structure aJ.fY(b:aJ):Prop where
 small:b.small
 short:b.qs.length<2^20
 gq:∀p∈b.qs,p.gq
 ok:∀p∈b.qs,(-1099511627776<=p.aQ/\p.aQ<=1099511627776)/\bA p.cost=true
def F3{b:aJ}(d:b.fY)(g:List aE):(qW b g).fY:=by
 unfold qW;split
 ·rename_i h;have c:=(F4 h).2.2;refine⟨⟨d.small.1,?_⟩,?_,W7 h,?_⟩
  ·have:=Ei b g 16;show(AG b g 16).length<_;omega
  ·have:=Ei b g 16;show(AG b g 16).length<_;omega
  ·intro p a;obtain⟨k,m,e,f,a⟩:=uG a;have:=Jg c e f;simp only[xQ,within,cU,bO]at this;unfold ID at a;split at a
   ·cases a
   ·obtain rfl:=iD.1 a;exact⟨this.2.2,this.2.1⟩
 ·exact⟨⟨by simp,by simp⟩,by simp,by simp,by simp⟩
def DT{b:aJ}(a:b.fY)(w n:Int)(long:Bool)(f:List dX):(mO b w n long f).1.fY:=by
 unfold mO;split
 ·exact F3 a _
 ·exact a
def Ww{b:aJ}(a:b.fY)(w n p:Int)(long:Bool)(rest:Int):(Au b w n p long rest).1.fY:=by
 unfold Au;split
 ·exact DT a _ _ _ _
 ·exact a
def Wv{s:af}{b:aJ}(a:b.fY)(w n q:Int):(nB s b w n q).1.fY:=by
 unfold nB;split
 ·split
  ·split
   ·exact Ww (DT a _ _ _ _) _ _ _ _ _
   ·exact DT a _ _ _ _
  ·exact a
 ·exact a
def Gh(w n:Int)(long:Bool)(f:List dX):(lR w n long f).length<=2*f.length:=by
 unfold lR;split
 ·exact gJ (f:=vl w n long) (λf=>by simp[vl]) f
 ·simp
def Px(b:aJ)(w n k:Int):(kG b w n k).length<=b.qs.length:=by
 unfold kG;split
 ·have h1:=nS (f:=pZ (uv (posOf w n b.qs).aQ n b.qs) (cy k (kk (posOf w n b.qs).aQ n b.qs))) (m:=1) (λi=>by unfold pZ;split<;>simp) (cy k (kk (posOf w n b.qs).aQ n b.qs)).length;have h2:=oE k (kk (posOf w n b.qs).aQ n b.qs);have h3:(kk (posOf w n b.qs).aQ n b.qs).length<=b.qs.length:=bR _ _ _;simp only[Df];omega
 ·simp
def yU(s:af)(w n:Int)(l:List bn):(gQ s w n l).length<=l.length:=by
 have:=gJ (f:=λb=>if F9 s w n b then[b]else[]) (m:=1) (λb=>by split<;>simp) l;simpa[gQ]using this
def Od(q:Int)(l:List bn):(jz q l).1.length<=l.length:=by
 unfold jz;split
 ·refine Nat.le_trans (Oa _ _) ?_;rw[zC,ET];simp
 ·simp
def Rj(s:af)(b:aJ)(w n q:Int)(hs:s.small)(hb:b.fY)(hbl:s.aZ.length<2^20):Sq 332 [] [.agg s.cells,.agg b.cells,.agg [.int .i64 w,.int .i64 n],.int .i64 q] [] (.bD [.agg (nB s b w n q).1.cells,.int .i64 (nB s b w n q).2]):=by
 have c1:=fu s.ak n hs.ak.small;have W:=λw=>tI s w hs.ak.small;have c2:=tH (aU s.ak n);have ep:(if(aU s.ak n).set==0 then(aU s.ak n).aS else(aU s.ak n).set)=bC (aU s.ak n):=rfl;have eh:(!((aU s.ak n).set==0&&(aU s.ak n).aS==0))=eG (aU s.ak n):=rfl;rw[ep,eh]at c2;obtain⟨x,hx⟩:=aL (aU s.ak n);have ae:=yU s w n s.aZ;have c3:=Rc q (gQ s w n s.aZ) aj;have aa:=Od q (gQ s w n s.aZ);obtain⟨R,a⟩:=aL (nB s b w n q);have X:=a;simp only[nB]at a;obtain⟨B,hB⟩:=aL (gQ s w n s.aZ);rw[<-X];rw[<-hx]at c1 c2 a;rw[<-hB]at c3 aa ae a;obtain⟨f,hf⟩:=aL ((jz q B).1);obtain⟨rest,ac⟩:=aL ((jz q B).2);rw[<-hf]at c3 aa a;rw[<-ac]at c3 a;have c4:=BK w n (decide (0<q)) f aj;have G:=Ap b (lR w n (decide (0<q)) f) hb.small hb.gq (by have:=Gh w n (decide (0<q)) f;omega);obtain⟨g,hg⟩:=aL (lR w n (decide (0<q)) f);have hA:mO b w n (decide (0<q)) f=if jL f=0 then(qW b g,kR b g)else(b,jL f):=by rw[hg];rfl
 rw[hA]at a;rw[<-hg]at c4 G;have k:=F3 hb g;obtain⟨j,E⟩:=aL (qW b g);rw[<-E]at a G k;obtain⟨p,hp⟩:=aL (bC x);rw[<-hp]at c2 a;obtain⟨long,m⟩:=aL (decide (0<q));rw[<-m]at c4 a;have T:=Un j w n rest k.small k.gq k.short;have ad:=Px j w n rest;have hqs:=k.short;have u:Au j w n p long rest=if j4 j w n rest=0 then mO j w n long ((kG j w n rest).map (eK p))else(j,j4 j w n rest):=rfl;obtain⟨F,hF⟩:=aL (kG j w n rest);rw[<-hF]at T ad u;have U:=BK w n long (F.map (eK p)) (by rw[qO];omega);have V:=Ap j (lR w n long (F.map (eK p))) k.small k.gq (by have:=Gh w n long (F.map (eK p));rw[qO]at this;omega);have Y:mO j w n long (F.map (eK p))=if jL (F.map (eK p))=0 then(qW j (lR w n long (F.map (eK p))),kR j (lR w n long (F.map (eK p))))else(j,jL (F.map (eK p))):=rfl;rw[Y]at u;obtain⟨g2,ab⟩:=aL (lR w n long (F.map (eK p)));rw[<-ab]at U V u;have H:R=if eG x=true then(if mD q B=0 then(if jL f=0 then(if kR b g=0/\rest≠0 then Au j w n p long rest else(j,kR b g))else(b,jL f))else(b,mD q B))else(b,20):=by
  rw[a];by_cases h:jL f=0<;>simp[h]
 rw[u]at H;clear a;have a:=H;clear H;obtain⟨b2,I⟩:=aL (qW j g2);obtain⟨e1,K⟩:=aL (jL f);obtain⟨e2,N⟩:=aL (kR b g);obtain⟨e3,O⟩:=aL (j4 j w n rest);obtain⟨e4,P⟩:=aL (jL (F.map (eK p)));obtain⟨e5,Q⟩:=aL (kR j g2);obtain⟨e0,J⟩:=aL (mD q B);rw[<-I,<-Q]at V;rw[<-P]at U;rw[<-O]at T;rw[<-N]at G;rw[<-K]at c4;rw[<-J]at c3;rw[<-J,<-K,<-N,<-O,<-P,<-Q,<-I]at a;clear X hx ep eh hf ac hA hg E hp u Y hF ab I K N O P Q J k;simp only[ay.cells,aF.cells]at c1 c2;simp only[af.cells]at W |-;simp only[aJ.cells]at G T V |-;refine aX 158 4 [.cell 8 33,.tmp 9] mixed func332 ?_;refine sc aK c1 ?_;refine sc aK c2 ?_;cases q1:eG x
 ·rw[q1,aq sT]at a;rw[a];simp only[go_sem,seval,q1];all_goals(with_reducible and_intros)<;>first|exact .dq|omega|skip
 rw[q1,au rfl]at a;clear c1 c2;simp only[go_sem,seval,q1];refine aV ?_;have Z:∀l,gQ s w n l=l.flatMap λb=>if F9 s w n b then[b]else[]:=λl=>rfl;refine aG.wv s.aZ.length [3,4,5,6,8,12] [80,96,112,144] (λi=>[(15,.int .i64 i),(14,.ref 1360)]) (λi=>[(1360,.own 5 ((gQ s w n (s.aZ.take i)).map bn.cells))]) ?_ ?_ ?_
 ·simp only[go_sem,seval]<;>simp[gQ]
 ·intro i _ D z r _;have t:=aM (c:=bn.cells) s.aZ D;have ai:(i:Int)<(s.aZ.length:Int):=aj
  have e:gQ s w n (s.aZ.take (i+1))=gQ s w n (s.aZ.take i)++_:=gU _ D;have ag:=yU s w n (s.aZ.take i);have hlt:(s.aZ.take i).length=i:=by simp;omega
  obtain⟨y,hy⟩:=aL (s.aZ[i]);obtain⟨L,hL⟩:=aL (gQ s w n (s.aZ.take i));rw[<-hy]at t e;rw[<-hL]at e ag |-;have W:=W y.src;simp only[F9]at e;simp only[bn.cells]at t;clear c3 c4 G T U V a;cases k1:y.who==w
  ·simp only[k1,dU,iI,if_false,append_nil]at e;simp only[go_sem,seval,z,t,k1,r];refine aV ?_;refine ah.v D ?_;simp only[go_sem,seval,e]
  cases k2:y.inst==n
  ·simp only[k1,k2,Bool.and_false,dU,iI,if_false,append_nil]at e;simp only[go_sem,seval,z,t,k1,k2,r];refine aV ?_;refine ah.v D ?_;simp only[go_sem,seval,e]
  refine sc (a4 z t k1 k2) W ?_;cases k3:bF s.ak y.src==1
  ·simp only[k1,k2,k3,Bool.and_false,iI,if_false,append_nil]at e;simp only[go_sem,seval,k3,r];refine aV ?_;refine ah.v D ?_;simp only[go_sem,seval,e]
  simp only[k1,k2,k3,Bool.and_self,if_true]at e;simp only[go_sem,seval,k3,t,r];refine aV ?_;refine ah.v D ?_;exact gH e
 intro _ A _;rw[eU,<-hB];clear W Z;simp only[go_sem,seval,A];refine aV ?_;refine az.iw [1360] [] false sT ?_;simp only[go_sem,seval];refine dL.ij c3 ?_;clear c3 A;by_cases k0:e0=0
 case neg =>
  have d:(e0==0)=false:=su k0;rw[aq k0]at a;rw[a];refine sm (a2 dV d) ?_;all_goals(with_reducible and_intros)<;>first|exact .dq|omega|skip
 rw[au k0]at a;rw[k0];simp only[go_sem,seval];refine aV ?_;rw[<-m];refine az.aP c4 ?_;clear c4;by_cases k1:e1=0
 case neg =>
  have d:(e1==0)=false:=su k1;rw[aq k1]at a;rw[a];refine sm (a2 dV d) ?_;all_goals(with_reducible and_intros)<;>first|exact .dq|omega|skip
 rw[au k1]at a;rw[k1];refine sc aK G ?_;clear G;by_cases k2:e2=0
 case neg =>
  have d:(e2==0)=false:=su k2;rw[aq (by rintro⟨h,_⟩;exact k2 h)]at a;rw[a];refine sm (a2 dV d) ?_;all_goals(with_reducible and_intros)<;>first|exact .dq|omega|skip
 by_cases k3:rest=0
 ·rw[aq (by rintro⟨_,h⟩;exact h k3)]at a;rw[a,k3,k2];refine sm dV ?_;all_goals(with_reducible and_intros)<;>first|exact .dq|omega|skip
 have d3:(rest==0)=false:=su k3;rw[au ⟨k2,k3⟩]at a;rw[k2];refine sm (a2 dV d3) ?_;refine aV ?_;refine az.iw [] [] false sT ?_;simp only[go_sem,seval];refine dL.ij T ?_;clear T;simp only[go_sem,seval];refine aV ?_;refine aG.wv F.length [3,5,6,8,12,18] [96,112,144] (λi=>[(20,.int .i64 i),(16,.ref 272)]) (λi=>[(272,.own 3 ((qx (eK p) F i).map dX.cells))]) ?_ ?_ ?_
 ·simp only[go_sem,seval,Ch]<;>simp
 ·intro i _ D z r _;have o:=tU (eK p) F i;have t:=aM (c:=dX.cells) (qx (eK p) F i) (i:=i) aj;have C:=Bv (eK p) D;rw[ES (eK p) D]at t;obtain⟨y,hy⟩:=aL (F[i]);obtain⟨M,hM⟩:=aL (qx (eK p) F i);rw[<-hy]at t C;rw[<-hM]at t C o |-;have S:M.set i { y with aS:=p }=qx (eK p) F (i+1):=C;have ai:(i:Int)<(F.length:Int):=aj
  simp only[dX.cells]at t;clear U V a;simp only[go_sem,seval,o,z,t,r];refine aV ?_;all_goals first
   |omega
   | (refine ah.v D ?_
      simp only[go_sem,seval,<-S,map_set])
 intro _ A _;have o:=tU (eK p) F F.length;rw[Bu];rw[Bu,qO]at o;by_cases k4:e3=0
 case neg =>
  have d:(e3==0)=false:=su k4;rw[aq k4]at a;rw[a];simp only[go_sem,seval,A,d];all_goals(with_reducible and_intros)<;>first|exact .dq|omega|skip
 rw[au k4]at a;rw[k4];simp only[go_sem,seval,A];refine aV ?_;refine az.iw [272] [] false sT ?_;rw[<-m];simp only[go_sem,seval];refine dL.ij U ?_;clear U;by_cases k5:e4=0
 case neg =>
  have d:(e4==0)=false:=su k5;rw[aq k5]at a;rw[a];simp only[go_sem,seval,d];all_goals(with_reducible and_intros)<;>first|exact .dq|omega|skip
 rw[au k5]at a;rw[k5];refine sc aK V ?_;rw[a];simp only[go_sem,seval];all_goals(with_reducible and_intros)<;>first|exact .dq|omega|skip
def aY(s:af)(w:Int):List Int:=pick (λx=>!(x==w)) (λx=>x) (iP s.ak [1])
def td(r:ay)(a:List Int):(iP r a).length<=r.ms.length:=bR _ _ _
def wE(s:af)(w:Int):(aY s w).length<=s.ak.ms.length:=Nat.le_trans (bR _ _ _) (td _ _)
def Iq(s:af)(w:Int)(k:s.small):Sq 336 [] [.agg s.cells,.int .i64 w] [.own 1 (ints (aY s w))] (.ref 0):=by
 have c1:=Db s.ak [1] k.ak sT;have n:=td s.ak [1];have hml:=k.ak.1;obtain⟨l,c⟩:=aL (iP s.ak [1]);simp only[aY];rw[<-c]at c1 n |-;simp only[ay.cells,ints,map_cons,map_nil]at c1;have j:(l.map λx=>[D.int .i64 x])=ints l:=rfl;rw[j]at c1;simp only[af.cells];clear c j;refine aX 32 2 [.tmp 4] mixed func336 ?_;simp only[go_sem,seval];refine aV ?_;refine az.iw [176] [] false sT ?_;simp only[go_sem,seval];refine dL.ij c1 ?_;simp only[go_sem,seval,aA];refine aV ?_;refine aG.wv l.length [1,6] [] (λi=>[(7,.int .i64 i),(5,.ref 496)]) (λi=>[(496,.own 1 (ints (pick (λx=>!(x==w)) (λx=>x) (l.take i))))]) ?_ ?_ ?_
 ·simp only[go_sem,seval]<;>simp[pick,ints]
 ·intro i _ f b e _;have h:=ints_at l f;have a:=ga (λx:Int=>!(x==w)) (λx=>x) f;have d:=bR (λx:Int=>!(x==w)) (λx=>x) (l.take i);have hlt:(l.take i).length=i:=by simp;omega
  have hli:(i:Int)<(l.length:Int):=aj
  obtain⟨L,m⟩:=aL (pick (λx:Int=>!(x==w)) (λx=>x) (l.take i));obtain⟨x,o⟩:=aL (l[i]);rw[<-o]at h a;rw[<-m]at a d |-;clear c1;cases q:x==w
  ·simp only[q,Bool.not_false,if_true]at a;simp only[go_sem,seval,aA,b,h,bne,q,e];refine aV ?_;refine ah.v f ?_;simp only[go_sem,seval,a]
  ·simp only[q,Bool.not_true,iI,if_false,append_nil]at a;simp only[go_sem,seval,aA,b,h,bne,q,e];refine aV ?_;refine ah.v f ?_;simp only[go_sem,seval,a]
 ·intro _ g _;simp only[go_sem,seval,aA,g,eU]
def yF(s:af)(w:Int)(a:s.small):Sq 336 [] [.agg s.cells,.int .i64 w] [] (.sl 1 (ints (aY s w))):=by
 refine Spec.frozen (Iq s w a) [0] rfl ?_;intro r;rcases r with _|r<;>rfl
def vR(s:af)(w c:Int)(p:iu):Bool:=p.who==w&&(qk s.ak p.bV).b==c
def sy(s:af)(p:iu):Int:=p.units*(qk s.ak p.bV).c
def sx(s:af)(w c:Int):List Int:=pick (vR s w c) (sy s) s.ps
def sA(s:af)(w c:Int):Int:=aC (sx s w c)
def nD(s:af)(w c:Int):Int:=if bA (sA s w c)then sA s w c else 0
def P1{r:ay}(h:r.okB=true)(n:Int):0<=(qk r n).c/\(qk r n).c<=1073741824:=by
 simp only[ay.okB,cU]at h;refine xY (R:=λa:aD=>0<=a.c/\a.c<=1073741824) (by decide) λa b=>?_;have:=yI h.2 a b;simp only[aD.ok,within,cU,bO]at this;omega
def Pn{s:af}(d:s.ak.okB=true)(e:kf s.ps=true):∀p∈s.ps,0<=sy s p/\sy s p<=1180591620717411303424:=λp g=>by
 have f:=P1 d p.bV;have hu:=((lN.1 e).1 p g).2;have h3:=iK (a:=p.units) (b:=(qk s.ak p.bV).c) (A:=1099511627776) (B:=1073741824) aj aj;have h4:=Int.mul_nonneg (show 0<=p.units by omega) f.1;simp only[sy];omega
def aae{s:af}(a:s.ak.okB=true)(b:kf s.ps=true)(hl:s.ps.length<2^30)(w c:Int):xK (sA s w c)=true/\∀n∈sx s w c,xK n=true:=by
 have hr:∀n∈sx s w c,0<=n/\n<=1180591620717411303424:=lB λp f=>Pn a b p f;have hs:=yP (B:=1180591620717411303424) (by decide) hr;have hlen:(sx s w c).length<=s.ps.length:=bR _ _ _;constructor
 ·have e:sA s w c=aC (sx s w c):=rfl;rw[e];simp only[xK,cU,bO];constructor<;>omega
 ·intro n d;have:=hr n d;simp only[xK,cU,bO];omega
def Fl(s:af)(w c:Int)(D:s.small)(y:s.ak.okB=true)(z:kf s.ps=true):Sq 334 [] [.agg s.cells,.int .i64 w,.int .i64 c] [] (.bD [.int .i64 (nD s w c),.bool (bA (sA s w c))]):=by
 have u:∀n,Sq 66 [] [.agg s.ak.cells,.int .i64 n] [] (.bD [.agg (qk s.ak n).cells,.bool (o7 s.ak n)]):=λn=>rH s.ak n D.ak.small;obtain⟨m,f⟩:=aae y z D.ps w c;have hll:(sx s w c).length<=s.ps.length:=bR _ _ _;have hpl:=D.ps;have e:=qI (sx s w c) aj f;have r:=qH (sA s w c);have H:aC (sx s w c)=sA s w c:=rfl;rw[H,m,au rfl]at e;have G:(if bA (sA s w c)then sA s w c else 0)=nD s w c:=rfl;rw[G]at r;have g:=λn=>P1 y n;have J:=λp M=>((lN.1 z).1 p M).2;simp only[wd]at e r;simp only[af.cells];simp only[ay.cells]at u;clear y z m f H G;refine aX 76 3 [.tmp 6,.tmp 7] mixed func334 ?_;simp only[go_sem,seval,pK];refine aG.wv s.ps.length [1,2,3] [64] (λi=>[(9,.int .i64 i),(8,.ref 976)]) (λi=>[(976,.own 2 (sC (pick (vR s w c) (sy s) (s.ps.take i))))]) ?_ ?_ ?_
 ·simp only[go_sem,seval]<;>simp[pick,sC]
 ·intro i _ k B j _;have q:=oA s.ps k;have d:=Cm (vR s w c) (sy s) k;have o:=bR (vR s w c) (sy s) (s.ps.take i);have hlt:(s.ps.take i).length=i:=by simp;omega
  have hli:(i:Int)<(s.ps.length:Int):=aj
  have E:=J _ (dH k);obtain⟨L,K⟩:=aL (pick (vR s w c) (sy s) (s.ps.take i));obtain⟨x,N⟩:=aL (s.ps[i]);rw[<-N]at q d E;rw[<-K]at d o |-;have h:=u x.bV;have A:=g x.bV;simp only[vR,sy]at d;obtain⟨a,I⟩:=aL (qk s.ak x.bV);rw[<-I]at h A;simp only[<-I]at d;have F:=sV x.units a.c ⟨by omega,by omega⟩ ⟨by omega,by omega⟩;have hwl:(sC L).length<=i:=by rw[FM];omega
  simp only[aD.cells]at h;simp only[wd]at F;clear u e r g J;simp only[go_sem,seval,pK,B,q]
  and_intros<;>first|exact .dq|omega|skip
  refine az.aP h ?_;cases l:x.who==w
  ·simp only[l,dU,iI,if_false,append_nil]at d;simp only[go_sem,seval,pK,q,l,j]
   and_intros<;>first|exact .dq|omega|skip
   refine ah.v k ?_;simp only[go_sem,seval,d]
  cases t:a.b==c
  ·simp only[l,t,Bool.and_false,iI,if_false,append_nil]at d;simp only[go_sem,seval,pK,q,l,t,j]
   and_intros<;>first|exact .dq|omega|skip
   refine ah.v k ?_;simp only[go_sem,seval,d]
  simp only[l,t,Bool.and_self,if_true]at d;simp only[go_sem,seval,pK,q,l,t]
  and_intros<;>first|exact .dq|omega|skip
  refine az.aP F ?_;simp only[go_sem,seval,j]
  and_intros<;>first|exact .dq|omega|skip
  refine ah.v k ?_;simp only[go_sem,seval,d]<;>simp[sC,wd]
 ·intro _ C _;simp only[go_sem,seval,pK,C,eU]
  and_intros<;>first|exact .dq|omega|skip
  refine az.iw [] [] true sT ?_;simp only[go_sem,seval];refine dL.ij e ?_;simp only[go_sem,seval]
  and_intros<;>first|exact .dq|omega|skip
  refine az.aP r ?_;simp only[go_sem,seval];all_goals(with_reducible and_intros)<;>first|exact .dq|omega|skip
def jA(s:af)(w:Int)(b:aJ)(n:Int):aJ×Int:=if(posOf w n b.qs).aQ==0 then(b,0)else nB s b w n (posOf w n b.qs).aQ
def mo(s:af)(w:Int):Nat->Nat->aJ->aJ×Int
 | 0,_,b=>(b,0)
 |m+1,i,b=>if(jA s w b ((i:Int)+1)).2=0 then mo s w m (i+1) (jA s w b ((i:Int)+1)).1 else((jA s w b ((i:Int)+1)).1,(jA s w b ((i:Int)+1)).2)
def mg(w:Int)(l:List aE):List aE:=l.flatMap λp=>if p.who==w then[]else[p]
def Vd(s:af)(w:Int)(p:aE):List aH:=if p.who==w then[⟨w,(aU s.ak p.inst).cur,gN p (aU s.ak p.inst).mult 0⟩]else[]
def qL(s:af)(w:Int)(l:List aE):List aH:=l.flatMap (Vd s w)
def tj(s:af)(w:Int)(l:List aE):Bool:=l.all λp=>!(p.who==w)||bA (gN p (aU s.ak p.inst).mult 0)
def jN(s:af)(w:Int):Int:=if Gz s w=0 then(if(mo s w 8 0 s.book).2=0 then(if tj s w (mo s w 8 0 s.book).1.qs then 0 else 1)else(mo s w 8 0 s.book).2)else Gz s w
def kQ(s:af)(w:Int):aJ:=if jN s w=0 then⟨(mo s w 8 0 s.book).1.next,(mo s w 8 0 s.book).1.ts,mg w (mo s w 8 0 s.book).1.qs⟩else⟨0,[],[]⟩
def iT(s:af)(w:Int):List aH:=if jN s w=0 then qL s w (mo s w 8 0 s.book).1.qs else[]
def zG{s:af}{w:Int}{b:aJ}(a:b.fY)(n:Int):(jA s w b n).1.fY:=by
 unfold jA;split
 ·exact a
 ·exact Wv a _ _ _
theorem yy{s:af}{w:Int}:∀(m i:Nat) {b:aJ},b.fY->(mo s w m i b).1.fY
 | 0,_,_,hb=>hb
 |m+1,i,b,hb=>by
  simp only[mo];split
  ·exact yy m _ (zG hb _)
  ·exact zG hb _
def rB{s:af}{w:Int}(h:Gz s w=0):bS s=true/\bF s.ak w=2:=by
 unfold Gz at h;split at h
 ·split at h
  ·cases h
  ·split at h
   ·exact⟨by assumption,by assumption⟩
   ·cases h
 ·cases h
def wK{s:af}(h:bS s=true):s.ak.okB=true/\s.book.okB=true/\s.bp.okB=true/\kf s.ps=true/\nQ bN bI s.calls=true:=by
 simp only[bS,cU]at h;exact⟨h.2.1,h.2.2.1,h.2.2.2.1,h.2.2.2.2.1,h.2.2.2.2.2.1⟩
def ace{r:ay}(h:r.okB=true)(n:Int):0<=(aU r n).mult/\(aU r n).mult<=1024:=by
 simp only[ay.okB,cU]at h;refine xY (R:=λx:aF=>0<=x.mult/\x.mult<=1024) (by decide) λx a=>?_;have:=yI h.1.2 x a;simp only[aF.ok,within,cU,bO]at this;omega
def NM{b:aJ}(h:b.okB=true)(d:b.small)(c:b.qs.length<2^20)(hr:∀p∈b.qs,p.gq):b.fY:=
 ⟨d,c,hr,λp a=>by have:=BB (AK h p a);exact⟨⟨this.1,this.2.1⟩,this.2.2⟩⟩
def GQ(s:af)(w:Int)(N:s.small)(hr:s.gq)(hq:s.book.qs.length<2^20)(ac:s.aZ.length<2^20):Sq 304 [] [.agg s.cells,.int .i64 w] [.own 4 ((kQ s w).qs.map aE.cells),.own 3 ((iT s w).map aH.cells)] (.bD [.agg [.int .i64 (kQ s w).next,.sl 7 ((kQ s w).ts.map aT.cells),.ref 0],.ref 1,.int .i64 (jN s w)]):=by
 have c1:=Uj s w N hr;have c2:=uy s.book N.book;have e:=λb n q z=>Rj s b w n q N z ac;have T:=λn=>fu s.ak n N.ak.small;have F:=@rB s w;simp only[kQ,iT,jN];obtain⟨me,o⟩:=aL (Gz s w);rw[<-o]at c1 F;simp only[<-o];have W:=c1;simp only[af.cells]at c1 e |-;simp only[aJ.cells]at c2;simp only[ay.cells]at T;clear W o;refine aX 110 2 [.cell 4 33,.tmp 5,.tmp 6] mixed func304 ?_;simp only[go_sem,seval];refine aV ?_;refine az.aP c1 ?_;clear c1;by_cases I:me=0
 case neg =>
  have d:(me==0)=false:=su I;simp only[aq I];refine sm (a2 dV d) ?_;all_goals simp
 obtain⟨g,_⟩:=F I;obtain⟨r,k,_⟩:=wK g;have l:=NM k N.book hq hr.qs;have M:=λn=>ace r n;simp only[I,if_true];obtain⟨R,U⟩:=aL (mo s w 8 0 s.book);have ab:R.1.fY:=by rw[U];exact yy 8 0 l
 simp only[<-U];clear F g r k I;simp only[go_sem,seval]
 and_intros<;>first|exact .dq|omega|skip
 refine az.aP c2 ?_;clear c2;simp only[go_sem,seval]
 and_intros<;>first|exact .dq|omega|skip
 refine aG.rT (S:=aJ) 8 [1,2,4,8] [48,80] (λi _=>[(9,.int .i64 ((i:Int)+1))]) (λ_ b=>[(144,.box [.int .i64 b.next,.sl 7 (b.ts.map aT.cells),.sl 4 (b.qs.map aE.cells)])]) (λi b=>mo s w (8-i) i b=R/\b.fY) s.book ⟨U.symm,l⟩ ?_ ?_ ?_
 ·exact jh
 ·rintro i b A _ _ ⟨a,z⟩;obtain⟨n,hn⟩:=aL ((i:Int)+1);have hd:decide (n<=8)=true:=jw;have P:IntKind.wrap .i64 (n+1)=((i+1:Nat):Int)+1:=fU;obtain⟨m,H⟩:∃m,8-i=m+1:=⟨8-i-1,by omega⟩
  have L:8-(i+1)=m:=aj
  rw[H]at a;simp only[mo,<-hn]at a;have G:=zG (s:=s) (w:=w) z n;have c3:=oS b w n z.small;have c4:=e b n (posOf w n b.qs).aQ z;have t:jA s w b n=if(posOf w n b.qs).aQ==0 then(b,0)else nB s b w n (posOf w n b.qs).aQ:=rfl;obtain⟨p,hp⟩:=aL (posOf w n b.qs);rw[<-hp]at c3 c4 t;rw[<-hn];simp only[aJ.cells,aE.cells]at c3 c4;clear e T hp;cases v:p.aQ==0
  case true =>
   simp only[v,if_true]at t;rw[t]at a;simp only[if_true]at a;simp only[go_sem,seval,hd];refine aV ?_;refine sc (a2 v P) c3 ?_
   and_intros<;>first|exact .dq|omega|skip
   refine ah.jP b A ⟨by rw[L];exact a,z⟩ ?_;simp only[go_sem,seval]
  simp only[v,iI,if_false]at t;rw[t]at a G;obtain⟨X,hX⟩:=aL (nB s b w n p.aQ);rw[<-hX]at a G c4;simp only[go_sem,seval,hd];refine aV ?_;refine sc v c3 ?_
  and_intros<;>first|exact .dq|omega|skip
  refine az.aP c4 ?_;by_cases B:X.2=0
  ·rw[au B]at a;rw[B];refine sm (a2 dV P) ?_
   and_intros<;>first|exact .dq|omega|skip
   refine ah.jP X.1 A ⟨by rw[L];exact a,G⟩ ?_;simp only[go_sem,seval]
  ·have d:(X.2==0)=false:=su B;rw[aq B]at a;have aa:R.2=X.2:=by rw[<-a]
   simp only[aa,aq B];refine sm (a2 dV d) ?_;all_goals simp
 ·rintro b _ ⟨a,z⟩;have a:(b,0)=R:=a;simp only[<-a,if_true];have Y:=uy b z.small;have hbs:=z.small.2;simp only[aJ.cells]at Y;clear e a ab U;have C:(if(if tj s w b.qs=true then(0:Int)else 1)=0 then(⟨b.next,b.ts,mg w b.qs⟩:aJ)else⟨0,[],[]⟩)=if tj s w b.qs=true then⟨b.next,b.ts,mg w b.qs⟩else⟨0,[],[]⟩:=by cases tj s w b.qs<;>rfl
  have j:(if(if tj s w b.qs=true then(0:Int)else 1)=0 then qL s w b.qs else[])=if tj s w b.qs=true then qL s w b.qs else[]:=by cases tj s w b.qs<;>rfl
  rw[C,j];clear C j;simp only[go_sem,seval];refine aV ?_;refine az.aP Y ?_;clear Y;simp only[go_sem,seval]
  and_intros<;>first|exact .dq|omega|skip
  refine aG.wu b.qs.length [1,2,4,8,12] [48,80,144] (λi=>[(14,.int .i64 i),(13,.ref 1728)]) (λi=>[(208,.box [.int .i64 b.next,.sl 7 (b.ts.map aT.cells),.ref 1280]),(1280,.own 4 ((mg w (b.qs.take i)).map aE.cells)),(1728,.own 3 ((qL s w (b.qs.take i)).map aH.cells))]) (λi=>tj s w (b.qs.drop i)=tj s w b.qs) rfl ?_ ?_ ?_
  ·simp only[go_sem,seval]<;>simp[mg,qL]
  ·intro i _ A J O a;have H:=aM (c:=aE.cells) b.qs A;have hli:(i:Int)<(b.qs.length:Int):=aj
   have hlt:(b.qs.take i).length=i:=by simp;omega
   have h:mg w (b.qs.take (i+1))=mg w (b.qs.take i)++_:=gU _ A;have f:qL s w (b.qs.take (i+1))=qL s w (b.qs.take i)++_:=gU _ A;have ae:(mg w (b.qs.take i)).length<=1*(b.qs.take i).length:=gJ (λp=>by split<;>simp) _;have ag:(qL s w (b.qs.take i)).length<=1*(b.qs.take i).length:=gJ (λp=>by unfold Vd;split<;>simp) _;have Q:=z.ok _ (dH A);obtain⟨x,hx⟩:=aL (b.qs[i]);obtain⟨K,Z⟩:=aL (mg w (b.qs.take i));obtain⟨V,hV⟩:=aL (qL s w (b.qs.take i));rw[dI A,<-hx]at a;rw[<-hx]at H h f Q;rw[<-Z]at h ae;rw[<-hV]at f ag;rw[<-Z,<-hV];have hc:tj s w (x::b.qs.drop (i+1))=((!(x.who==w)||bA (gN x (aU s.ak x.inst).mult 0))&&tj s w (b.qs.drop (i+1))):=rfl;rw[hc]at a;have E:=T x.inst;have D:=M x.inst;simp only[Vd]at f;obtain⟨y,hy⟩:=aL (aU s.ak x.inst);rw[<-hy]at E D a;simp only[<-hy]at f;have cW:=xF x y.mult 0 ⟨by omega,by omega⟩ Q.2 D ⟨by omega,by omega⟩;simp only[aE.cells]at H cW;simp only[aF.cells]at E;clear T M Z hV hy;cases v:x.who==w
   ·simp only[v,iI,if_false,append_nil]at h f;simp only[v,Bool.not_false,Bool.true_or,cz]at a;refine sm (a5 J H dV v O) ?_
    and_intros<;>first|exact .dq|omega|skip
    refine ah.u A a ?_;exact gH (a2 h f)
   simp only[v,if_true,append_nil]at h f;simp only[v,Bool.not_true,Bool.false_or]at a;refine sm (a4 J H dV v) ?_
   and_intros<;>first|exact .dq|omega|skip
   refine az.aP E ?_;refine sc aK cW ?_;cases B:bA (gN x y.mult 0)
   ·rw[B,dU]at a;rw[<-a];simp only[go_sem,seval,B];all_goals simp
   rw[B,cz]at a;simp only[go_sem,seval,B,O,if_true]
   and_intros<;>first|exact .dq|omega|skip
   refine ah.u A a ?_;exact gH (a2 h f)
  ·intro _ ad a;rw[jJ]at a;rw[<-a,show tj s w []=true from rfl];simp only[go_sem,seval,ad,eU];all_goals simp
def Fk(s:af)(w:Int)(c:s.small)(hr:s.gq)(b:s.book.qs.length<2^20)(a:s.aZ.length<2^20):Sq 304 [] [.agg s.cells,.int .i64 w] [] (.bD [.agg (kQ s w).cells,.sl 3 ((iT s w).map aH.cells),.int .i64 (jN s w)]):=by
 refine Spec.frozen (GQ s w c hr b a) [0,1] rfl ?_;intro r;rcases r with _| _|r<;>rfl
def yX(s:af)(w c a:Int):Int:=aC [a,min (gw ⟨2,w,c⟩ s.bp.bs) 0]
def uL(s:af)(w c a:Int):Int:=aC [max (gw ⟨2,w,c⟩ s.bp.bs) 0,nD s w c,max (yX s w c a) 0]
def Jv(s:af)(w c a:Int):Bool:=(bA (sA s w c)&&bA (yX s w c a))&&(bA (uL s w c a)&&(fR s.bp c (aY s w)==0&&iO s.ak (aY s w)==0))
def lp(s:af)(w c a:Int):Int:=if bS s then(if bF s.ak w=0 then 10 else if within c 0 2&&bA a then(if Jv s w c a then 0 else 1)else 3)else 14
def gC(s:af)(w c a:Int):List Int:=if lp s w c a=0 then[uL s w c a,gw ⟨3,w,c⟩ s.bp.bs,gw ⟨4,0,c⟩ s.bp.bs,lY s.bp c (aY s w),qy s.ak (aY s w)]else[]
def gm(s:af)(w c a:Int):Int:=if lp s w c a=0 then max (-yX s w c a) 0 else 0
def PT{l:List Int}(h:bA (aC l)=true):addN l=aC l:=by simp[addN,h]
def FA(s:af)(w c:Int):bA (nD s w c)=true:=by
 unfold nD;split
 ·assumption
 ·rfl
def Ue(s:af)(w c b:Int)(o:s.small)(hr:s.gq)(hm:s.ak.ms.length<2^27):Sq 305 [] [.agg s.cells,.int .i64 w,.int .i64 c,.int .i64 b] [.own 1 (ints (gC s w c b))] (.bD [.int .i64 (gm s w c b),.ref 0,.int .i64 (lp s w c b)]):=by
 have c1:=jq s o hr;have c2:=tI s w o.ak.small;have c3:=jY c;have c4:=gE b;have M:=λk w=>G5 k w c;have v:=λa=>jo s.bp a o.bp;have L:=yF s w o;have O:=wE s w;have U:=BO s.bp c (aY s w) o.bp hr.bs aj;have V:=C8 s.ak (aY s w) o.ak hr.ms aj;have e:=Fl s w c o;have Q:=@wK s;simp only[aI.cells,bu.cells]at v;simp only[bu.cells]at U;simp only[ay.cells]at V;obtain⟨t,S⟩:=aL (bF s.ak w);obtain⟨E,d⟩:=aL (lp s w c b);have A:=d;simp only[lp,<-S]at d;simp only[gC,gm,<-A];rw[<-S]at c2;simp only[af.cells]at c1 c2 L e |-;clear S A O;refine aX 120 4 [.tmp 8,.tmp 9,.tmp 10] mixed func305 ?_;refine sc aK c1 ?_;clear c1;cases u:bS s
 ·rw[u,aq sT]at d;rw[d];simp only[go_sem,seval,u]<;>simp[ints]
 obtain⟨m,hbook,B,P,_⟩:=Q u;have e:=e m P;rw[u,au rfl]at d;refine sc u c2 ?_;clear c2;by_cases D:t=0
 ·rw[au D]at d;rw[d,D];simp only[go_sem,seval]<;>simp[ints]
 have Z:(t==0)=false:=su D;rw[aq D]at d;refine sc Z c3 ?_;clear c3;cases T:within c 0 2
 ·rw[T,dU,aq sT]at d;rw[d];simp only[go_sem,seval]<;>simp[ints]
 refine sc aK c4 ?_;clear c4;cases K:bA b
 ·rw[K,Bool.and_false,aq sT]at d;rw[d];simp only[go_sem,seval]<;>simp[ints]
 rw[T,K,Bool.and_self,au rfl]at d;have hg:=bf.1 K;have f:=qD B ⟨2,w,c⟩;have N:=bf.1 f;have G:=fX [b,min (gw ⟨2,w,c⟩ s.bp.bs) 0] (by intro n C;simp only[mem_cons,not_mem_nil,or_false]at C;rcases C with rfl|rfl<;>exact⟨by omega,by omega⟩) sT;have Y:aC [b,min (gw ⟨2,w,c⟩ s.bp.bs) 0]=yX s w c b:=rfl;have I:bA (yX s w c b)=true->addN [b,min (gw ⟨2,w,c⟩ s.bp.bs) 0]=yX s w c b:=λh=>PT h;have R:=bf.1 (FA s w c);have q:=λ(h:bA (yX s w c b)=true)=>fX [max (gw ⟨2,w,c⟩ s.bp.bs) 0,nD s w c,max (yX s w c b) 0] (by have:=bf.1 h;intro n C;simp only[mem_cons,not_mem_nil,or_false]at C;rcases C with rfl|rfl|rfl<;>exact⟨by omega,by omega⟩) sT;have W:aC [max (gw ⟨2,w,c⟩ s.bp.bs) 0,nD s w c,max (yX s w c b) 0]=uL s w c b:=rfl;have H:bA (uL s w c b)=true->addN [max (gw ⟨2,w,c⟩ s.bp.bs) 0,nD s w c,max (yX s w c b) 0]=uL s w c b:=λh=>PT h;rw[Y]at G;simp only[W]at q;simp only[Jv]at d;simp only[ints,map_cons,map_nil]at G q;have x:=v ⟨2,w,c⟩;have y:=v ⟨3,w,c⟩;have z:=v ⟨4,0,c⟩;obtain⟨ca,j⟩:=aL (gw ⟨2,w,c⟩ s.bp.bs);obtain⟨ow,l⟩:=aL (gw ⟨3,w,c⟩ s.bp.bs);obtain⟨sk,p⟩:=aL (gw ⟨4,0,c⟩ s.bp.bs);obtain⟨X,i⟩:=aL (yX s w c b);obtain⟨F,g⟩:=aL (uL s w c b);simp only[<-j,<-i,<-g]at G q I H d;rw[<-j]at x;rw[<-l]at y;rw[<-p]at z;simp only[<-i,<-g,<-l,<-p];clear Y W f N j l p i g v hg R;refine sc aK (M 2 w) ?_;refine sc aK x ?_;refine sc aK e ?_;refine sl aK G ?_;cases k1:bA (sA s w c)
 ·rw[k1,dU,dU,aq sT]at d;rw[d];simp only[go_sem,seval,k1]<;>simp[ints]
 cases k2:bA X
 ·rw[k1,k2,Bool.and_false,dU,aq sT]at d;rw[d];simp only[go_sem,seval,k1,k2]<;>simp[ints]
 have hXr:=bf.1 k2;have I:=I k2;have q:=q k2;rw[I];rw[k1,k2,Bool.and_self,cz]at d;refine sl (a2 k1 k2) q ?_;refine sc aK L ?_;refine sc aK U ?_;refine sc aK L ?_;refine sc aK V ?_;cases k3:bA F
 ·rw[k3,dU,aq sT]at d;rw[d];simp only[go_sem,seval,k3]<;>simp[ints]
 have H:=H k3;cases r:fR s.bp c (aY s w)==0
 ·rw[k3,r,dU,Bool.and_false,aq sT]at d;rw[d];simp only[go_sem,seval,k3,bne,r]<;>simp[ints]
 cases J:iO s.ak (aY s w)==0
 ·rw[k3,r,J,Bool.and_false,Bool.and_false,aq sT]at d;rw[d];simp only[go_sem,seval,k3,bne,r,J]<;>simp[ints]
 rw[k3,r,J,Bool.and_self,Bool.and_self,au rfl]at d;have hw:IntKind.wrap .i64 (0-X) = -X:=fU;rw[d,H];refine sm (a5 k3 dV r J hw) ?_;refine sc aK (M 3 w) ?_;refine sc aK y ?_;refine sc aK (M 4 0) ?_;refine aV ?_;refine az.aP z ?_;simp only[go_sem,seval]<;>simp[ints]
def Ra(s:af)(w c a:Int)(d:s.small)(hr:s.gq)(b:s.ak.ms.length<2^27):Sq 305 [] [.agg s.cells,.int .i64 w,.int .i64 c,.int .i64 a] [] (.bD [.int .i64 (gm s w c a),.sl 1 (ints (gC s w c a)),.int .i64 (lp s w c a)]):=by
 refine Spec.frozen (Ue s w c a d hr b) [0] rfl ?_;intro r;rcases r with _|r<;>rfl
def MB(s:af)(w c a:Int)(f:eu):List aN:=
 cr ⟨1,0,c⟩ ⟨2,w,c⟩ (nD s w c)++cr ⟨5,0,c⟩ ⟨2,w,c⟩ a++cr ⟨6,0,c⟩ ⟨2,w,c⟩ f.bJ++cr ⟨2,w,c⟩ ⟨6,0,c⟩ f.c0++cr ⟨3,w,c⟩ ⟨6,0,c⟩ f.c1++cr ⟨4,0,c⟩ ⟨6,0,c⟩ f.c2
def Dn(s:af)(w c a:Int)(f:eu)(x y:Int):List aN:=
 MB s w c a f++yg s.bp c f.c3 (aY s w)++oJ s.ak c f.c4 (aY s w)++cr ⟨2,w,c⟩ ⟨1,0,c⟩ x++cr ⟨3,w,c⟩ ⟨1,0,c⟩ y
def lq(s:af)(w c d:Int)(f:eu)(a b:Int):List aN×Int×Int:=
 if Bs s.bp c f.c3 (aY s w)=0 then(if qZ s.ak c f.c4 (aY s w)=0 then(if bA (a-f.c0+(b-f.c1))then(kj (Dn s w c d f (a-f.c0) (b-f.c1)),a-f.c0+(b-f.c1),nq (Dn s w c d f (a-f.c0) (b-f.c1)))else([],0,1))else([],0,qZ s.ak c f.c4 (aY s w)))else([],0,Bs s.bp c f.c3 (aY s w))
def ya(l:List aN):(kj l).length<=306:=by
 unfold kj;split
 ·exact Nat.le_trans (Oy _ _) Ej
 ·simp
def NP(k c n a:Int)(ws gs:List Int):(vh k c n a ws gs).length<=306:=by
 unfold vh;split
 ·exact ya _
 ·simp
def OG(l:bu)(c n:Int)(ws:List Int):(yg l c n ws).length<=306:=by
 unfold yg;split
 ·exact NP _ _ _ _ _ _
 ·simp
def G6(r:ay)(c n:Int)(ws:List Int):(oJ r c n ws).length<=306:=by
 unfold oJ;split
 ·exact NP _ _ _ _ _ _
 ·simp
def Lm(s:af)(w c e:Int)(f:eu)(E:List Int)(a b:Int)(rest:List Int)(l:E=a::b::rest)(hrl:rest.length<2^20)(hs:s.small)(hr:s.gq)(hm:s.ak.ms.length<2^27)(h1:s.ak.okB=true)(h2:kf s.ps=true)(hx:jB (a-f.c0))(hy:jB (b-f.c1)) :
  Sq 306 [] [.agg s.cells,.int .i64 w,.int .i64 c,.int .i64 e,.agg f.cells,.sl 1 (ints E)] [] (.bD [.sl 4 ((lq s w c e f a b).1.map aN.cells),.int .i64 (lq s w c e f a b).2.1,.int .i64 (lq s w c e f a b).2.2]):=by
 have S:=λk w=>G5 k w c;have m:=λx y n=>nK x y n;have j:=Fl s w c hs h1 h2;have c5:=yF s w hs;have ad:=wE s w;have c6:=Rf s.bp c f.c3 (aY s w) hs.bp hr.bs aj;have c7:=Lk s.ak c f.c4 (aY s w) hs.ak hr.ms aj;have c8:=fX [a-f.c0,b-f.c1] (by intro n hn;simp only[mem_cons,not_mem_nil,or_false]at hn;rcases hn with rfl|rfl<;>assumption) sT;have eX:aC [a-f.c0,b-f.c1]=a-f.c0+(b-f.c1):=by simp[aC]
 have M:IntKind.wrap .i64 (a-f.c0)=a-f.c0:=gx hx.1 (by have:=hx.2;omega);have N:IntKind.wrap .i64 (b-f.c1)=b-f.c1:=gx hy.1 (by have:=hy.2;omega);have ab:=OG s.bp c f.c3 (aY s w);have aa:=G6 s.ak c f.c4 (aY s w);have cJ:=tG (Dn s w c e f (a-f.c0) (b-f.c1)) (by simp[Dn,MB,cr];omega);obtain⟨R,g⟩:=aL (lq s w c e f a b);rw[<-g];simp only[lq]at g;obtain⟨G,F⟩:=aL (Dn s w c e f (a-f.c0) (b-f.c1));rw[<-F]at cJ g;simp only[Dn,MB]at F;obtain⟨x,O⟩:=aL (a-f.c0);obtain⟨y,P⟩:=aL (b-f.c1);rw[<-O,<-P]at eX c8 F g;have M:=M.trans O.symm;have N:=N.trans P.symm;rw[eX]at c8;have W:bA (x+y)=true->addN [x,y]=x+y:=λh=>by rw[PT (by rw[eX];exact h),eX]
 have ac:∀p q n,(cr p q n).length=2:=λ_ _ _=>rfl;obtain⟨e1,K⟩:=aL (Bs s.bp c f.c3 (aY s w));obtain⟨e2,L⟩:=aL (qZ s.ak c f.c4 (aY s w));obtain⟨V,hV⟩:=aL (yg s.bp c f.c3 (aY s w));obtain⟨U,hU⟩:=aL (oJ s.ak c f.c4 (aY s w));rw[<-hV]at c6 F ab;rw[<-hU]at c7 F aa;rw[<-K]at c6;rw[<-L]at c7;rw[<-K,<-L]at g;have m1:=m ⟨1,0,c⟩ ⟨2,w,c⟩ (nD s w c);have m2:=m ⟨5,0,c⟩ ⟨2,w,c⟩ e;have m3:=m ⟨6,0,c⟩ ⟨2,w,c⟩ f.bJ;have m4:=m ⟨2,w,c⟩ ⟨6,0,c⟩ f.c0;have m5:=m ⟨3,w,c⟩ ⟨6,0,c⟩ f.c1;have m6:=m ⟨4,0,c⟩ ⟨6,0,c⟩ f.c2;have m7:=m ⟨2,w,c⟩ ⟨1,0,c⟩ x;have m8:=m ⟨3,w,c⟩ ⟨1,0,c⟩ y;obtain⟨A1,o⟩:∃A,A=cr ⟨1,0,c⟩ ⟨2,w,c⟩ (nD s w c):=⟨_,rfl⟩
 obtain⟨A2,r⟩:∃A,A=cr ⟨5,0,c⟩ ⟨2,w,c⟩ e:=⟨_,rfl⟩
 obtain⟨A3,t⟩:∃A,A=cr ⟨6,0,c⟩ ⟨2,w,c⟩ f.bJ:=⟨_,rfl⟩
 obtain⟨A4,u⟩:∃A,A=cr ⟨2,w,c⟩ ⟨6,0,c⟩ f.c0:=⟨_,rfl⟩
 obtain⟨A5,v⟩:∃A,A=cr ⟨3,w,c⟩ ⟨6,0,c⟩ f.c1:=⟨_,rfl⟩
 obtain⟨A6,z⟩:∃A,A=cr ⟨4,0,c⟩ ⟨6,0,c⟩ f.c2:=⟨_,rfl⟩
 obtain⟨A7,B⟩:∃A,A=cr ⟨2,w,c⟩ ⟨1,0,c⟩ x:=⟨_,rfl⟩
 obtain⟨A8,C⟩:∃A,A=cr ⟨3,w,c⟩ ⟨1,0,c⟩ y:=⟨_,rfl⟩
 have D:A1.length=2:=by rw[o];rfl
 have z2:A2.length=2:=by rw[r];rfl
 have Q:A3.length=2:=by rw[t];rfl
 have T:A4.length=2:=by rw[u];rfl
 have Z:A5.length=2:=by rw[v];rfl
 have z6:A6.length=2:=by rw[z];rfl
 have z7:A7.length=2:=by rw[B];rfl
 have z8:A8.length=2:=by rw[C];rfl
 rw[<-o,<-r,<-t,<-u,<-v,<-z,<-B,<-C]at F;rw[<-o]at m1;rw[<-r]at m2;rw[<-t]at m3;rw[<-u]at m4;rw[<-v]at m5;rw[<-z]at m6;rw[<-B]at m7;rw[<-C]at m8;have H:G.map aN.cells=A1.map aN.cells++A2.map aN.cells++A3.map aN.cells++A4.map aN.cells++A5.map aN.cells++A6.map aN.cells++V.map aN.cells++U.map aN.cells++A7.map aN.cells++A8.map aN.cells:=by rw[F];simp only[jv]
 rw[H]at cJ;simp only[aI.cells]at m1 m2 m3 m4 m5 m6 m7 m8;simp only[bu.cells]at c6;simp only[ay.cells]at c7;simp only[af.cells]at c5 j |-;simp only[eu.cells];simp only[ints,map_cons,map_nil]at c8;rw[l];have X:(ints (a::b::rest)).length=rest.length+2:=by rw[aA];rfl
 have I:=ints_at (a::b::rest) (i:=0) sT;have J:=ints_at (a::b::rest) (i:=1) sT;simp only[List.getElem_cons_zero,getElem_cons_succ]at I J;have hp0:(0:Int)<((rest.length+2:Nat):Int):=aj
 have hp1:(1:Int)<((rest.length+2:Nat):Int):=aj
 obtain⟨cp,Y⟩:=aL (ints (a::b::rest));rw[<-Y]at X I J |-;clear m o r t u v z B C hV hU K L O P Y l F H ad ac;refine aX 171 6 [.tmp 12,.tmp 13,.tmp 14] mixed func306 ?_;refine sc aK j ?_;refine sc aK (S 2 w) ?_;refine sc aK (S 1 0) ?_;refine sc aK (S 6 0) ?_;refine sc aK (S 3 w) ?_;refine sc D m1 ?_;refine sc aK (S 5 0) ?_;refine sc aK m2 ?_;simp only[go_sem,seval,ct,D,z2];refine sc aK m3 ?_;simp only[go_sem,seval,ct,D,z2,Q];refine sc aK m4 ?_;simp only[go_sem,seval,ct,D,z2,Q,T];refine sc aK m5 ?_;simp only[go_sem,seval,ct,D,z2,Q,T,Z];refine sc aK (S 4 0) ?_;refine sc aK m6 ?_;simp only[go_sem,seval,ct,D,z2,Q,T,Z,z6];refine sc aK c5 ?_;refine sc aK c6 ?_;by_cases k1:e1=0
 case neg =>
  have d:(e1==0)=false:=su k1;rw[aq k1]at g;rw[g];exact gH (a2 dV d)
 rw[au k1]at g;rw[k1];refine sc aK c5 ?_;refine sc aK c7 ?_;by_cases k2:e2=0
 case neg =>
  have d:(e2==0)=false:=su k2;rw[aq k2]at g;rw[g];exact gH (a2 dV d)
 rw[au k2]at g;rw[k2];simp only[go_sem,seval,ct,D,z2,Q,T,Z,z6,X,I,J,M,N];refine sc aK m7 ?_;simp only[go_sem,seval,ct,D,z2,Q,T,Z,z6,z7];refine sc aK m8 ?_;simp only[go_sem,seval,ct,D,z2,Q,T,Z,z6,z7,z8];refine sl aK c8 ?_;cases k3:bA (x+y)
 ·rw[k3,aq sT]at g;rw[g];exact gH k3
 rw[k3,au rfl]at g;rw[W k3,g];simp only[go_sem,seval,k3];refine aV ?_;refine az.iw [2464] [] false sT ?_;simp only[go_sem,seval];refine dL.ij cJ ?_;simp only[go_sem,seval];all_goals(with_reducible and_intros)<;>first|exact .dq|omega|skip
def Cv{A:Type}(f:Nat->A)(n:Nat):List A:=(range n).map f
theorem L9{A:Type}(f:Nat->A):Cv f 0=[]:=rfl
def FD{A:Type}(f:Nat->A)(n:Nat):Cv f (n+1)=Cv f n++[f n]:=by simp[Cv,range_succ]
def nZ{A:Type}(f:Nat->A)(n:Nat):(Cv f n).length=n:=by simp[Cv]
def gI(f:Nat->Int):Nat->Nat->Int
 | 0,_=>0
 |m+1,i=>if f i=0 then gI f m (i+1)else f i
def af.zero:af:=⟨0,0,0,⟨[],[],[]⟩,⟨0,[],[]⟩,⟨0,[]⟩,[],[],[],[]⟩
def aW(s:af)(w:Int)(c:Nat):Int:=jF w c (iT s w)
def vG(s:af)(w:Int)(c:Nat):Int:=gR w c (iT s w)
def jg(s:af)(w:Int)(c:Nat):List Int:=gC s w c (aW s w c)
def bM(s:af)(w:Int)(c:Nat):eu:=lu c (gm s w c (aW s w c)) (jg s w c)
def rD(s:af)(w:Int)(c:Nat):Int:=if lp s w c (aW s w c)=0 then l7 c (gm s w c (aW s w c)) (jg s w c)else lp s w c (aW s w c)
def fK(s:af)(w:Int)(c:Nat):List aN×Int×Int:=lq s w c (aW s w c) (bM s w c) ((jg s w c).getD 0 0) ((jg s w c).getD 1 0)
def nextId(l:bu):Int:=IntKind.wrap .i64 (l.last+1)
def gD(l:bu)(g:List aN)(e:Int):bu×Int:=if e=0/\g≠[]then(jO l (nextId l) g,fM l (nextId l) g)else(l,e)
def jT(w:Int)(c:Nat)(n:Int):List aH:=if n==0 then[]else[⟨w,c,n⟩]
def qQ(s:af)(w:Int):Nat->Nat->bu->List aH->bu×List aH×Int
 | 0,_,l,p=>(l,p,0)
 |m+1,i,l,p =>
  if(gD l (fK s w i).1 (fK s w i).2.2).2=0 then qQ s w m (i+1) (gD l (fK s w i).1 (fK s w i).2.2).1 (p++jT w i (fK s w i).2.1)
  else(l,p,(gD l (fK s w i).1 (fK s w i).2.2).2)
def ur(w:Int)(l:List iu):List iu:=l.flatMap λp=>if p.who==w then[]else[p]
def uq(w:Int)(l:List bn):List bn:=l.flatMap λb=>if b.who==w||b.src==w then[]else[b]
def n7(s:af)(w:Int):Int:=
 if jN s w=0 then(if gI (vG s w) 3 0=0 then(if gI (rD s w) 3 0=0 then(qQ s w 3 0 s.bp []).2.2 else gI (rD s w) 3 0)else gI (vG s w) 3 0)else jN s w
def iG(s:af)(w:Int):af:=
 if n7 s w=0 then{ s with ak:=jU s.ak w 3,book:=kQ s w,bp:=(qQ s w 3 0 s.bp []).1,ps:=ur w s.ps,calls:=dQ s.calls [w],aZ:=uq w s.aZ }else .zero
def tX(s:af)(w:Int):List eu:=if n7 s w=0 then Cv (bM s w) 3 else[]
def EU(s:af)(w:Int):List aH:=if n7 s w=0 then(qQ s w 3 0 s.bp []).2.1 else[]
def PG(s:af)(w:Int)(l:List aE):(qL s w l).length<=l.length:=by
 have:=gJ (f:=Vd s w) (m:=1) (λp=>by unfold Vd;split<;>simp) l;simpa[qL]using this
def O4(s:af)(w:Int)(h:s.gq)(e:s.small)(d:s.book.qs.length<2^20):(iT s w).length<2^20:=by
 unfold iT;split
 ·rename_i a;unfold jN at a;split at a
  ·rename_i b;have c:=(wK (rB b).1).2.1;have:=(yy (s:=s) (w:=w) 8 0 (NM c e.book d h.qs)).short;have h2:=PG s w (mo s w 8 0 s.book).1.qs;omega
  ·rename_i b;exact absurd a b
 ·simp
def YD{s:af}{w c g:Int}(h:lp s w c g=0):∃a b rest,gC s w c g=a::b::rest/\rest.length=3:=by
 refine⟨_,_,_,by rw[gC,au h],rfl⟩
def abn{c bJ:Int}{d:List Int}{a b:Int}{rest:List Int}(h:l7 c bJ d=0)(e:d=a::b::rest):jB (a-(lu c bJ d).c0)/\jB (b-(lu c bJ d).c1):=by
 simp only[lu,au h,Dr];unfold l7 at h;split at h
 ·rename_i n;simp only[cU,fE]at n;have f:=n.2.2;unfold j9 at f;split at f
  ·rename_i g;simp only[cU,iN,gP]at g;split at f
   ·rename_i k;have l:=cg.1 g.2 a (by rw[e];simp);have m:=cg.1 g.2 b (by rw[e];simp);have i:=cg.1 k a (by rw[e];simp);have j:=cg.1 k b (by rw[e];simp);simp only[iN,gP]at i j;have l:=bf.1 l;have m:=bf.1 m;rw[e];simp only[vm,getD_cons_zero,getD_cons_succ];exact⟨⟨by omega,by omega⟩,⟨by omega,by omega⟩⟩
   ·cases f
  ·cases f
 ·cases h
theorem Dt{f:Nat->Int}:∀{m i:Nat},gI f m i=0->∀c,i<=c->c<i+m->f c=0
 | 0,i,_,c,h1,h2=>by omega
 |m+1,i,h,c,h1,h2=>by
  simp only[gI]at h;split at h
  ·rename_i a;rcases dN i c with h3|h3
   ·exact Dt h c aj aj
   ·obtain rfl:c=i:=aj
    exact a
  ·rename_i a;exact absurd h a
def DJ{l:bu}{id:Int}{g:List aN}:(jO l id g).bs.length<=306/\∀b∈(jO l id g).bs,b.gq:=by
 unfold jO;split
 ·rename_i h;refine⟨Nat.le_trans (T9 _ _ _) Ej,?_⟩;have i:wF l g gf=true:=by
   unfold fM at h;split at h
   ·split at h
    ·split at h
     ·cases h
     ·split at h
      ·split at h
       ·assumption
       ·cases h
      ·rename_i j;exact absurd h j
    ·cases h
   ·cases h
  intro b f;obtain⟨a,d,f⟩:=mem_flatMap.1 f;unfold wW at f;split at f
  ·cases f
  ·obtain rfl:=iD.1 f;have o:=cg.1 i a d;have e:jB a.kind/\jB a.who/\jB a.cur:=by
    obtain⟨k,n,d⟩:=mem_flatMap.1 d;obtain⟨w,p,d⟩:=mem_flatMap.1 d;obtain⟨c,m,d⟩:=mem_flatMap.1 d;have h1:=mem_range.1 n;have j:=mem_range.1 p;have h3:=mem_range.1 m;unfold acc at d;split at d
    ·obtain rfl:=iD.1 d;exact⟨⟨by dsimp only;omega,by dsimp only;omega⟩,⟨by dsimp only;omega,by dsimp only;omega⟩,⟨by dsimp only;omega,by dsimp only;omega⟩⟩
    ·cases d
   exact⟨e.1,e.2.1,e.2.2,vq o⟩
 ·exact⟨by simp,by simp⟩
def bu.fY(l:bu):Prop:=l.bs.length<2^29/\(∀b∈l.bs,b.gq)/\jB l.last
def acL{l:bu}{id:Int}{g:List aN}(h:fM l id g=0):1<=id/\id<=1099511627776:=by
 unfold fM at h;split at h
 ·split at h
  ·rename_i a;simpa[within]using a
  ·cases h
 ·cases h
def O9{l:bu}{id:Int}{g:List aN}:(jO l id g).fY:=by
 refine⟨Nat.lt_of_le_of_lt DJ.1 (by decide),DJ.2,?_⟩;unfold jO;split
 ·rename_i h;have:=acL h;exact⟨by dsimp only;omega,by dsimp only;omega⟩
 ·exact⟨by decide,by decide⟩
def T5{l:bu}(h:l.fY)(g:List aN)(e:Int):(gD l g e).1.fY:=by
 unfold gD;split
 ·exact O9
 ·exact h
def eJ(s:af):List aH:=(lA (lU s.ak s.book)).1
def oX(s:af):bu×Int:=gD s.bp (kP (eJ s)) (ou (eJ s))
def cu(s:af):Int:=if bS s then(if s.phase=0 then(if oW s.ak s.book=0 then(if(lA (lU s.ak s.book)).2=0 then(oX s).2 else(lA (lU s.ak s.book)).2)else oW s.ak s.book)else 15)else 14
def bz(s:af):af:=if cu s=0 then{ s with phase:=1,ak:=sB s.ak,book:=rV s.ak s.book,bp:=(oX s).1 }else .zero
def jV(s:af):List aH:=if cu s=0 then eJ s else[]
def Zr(l:List aH):(kP l).length<=306:=by
 unfold kP;split
 ·exact ya _
 ·simp
def acW(r:ay)(b:aJ):(lU r b).length<=b.qs.length:=by
 unfold lU;split<;>simp
def BS{s:af}(h:bS s=true):0<=s.now/\s.now<=1099511627776/\0<=s.day/\s.day<=1099511627776/\0<=s.phase/\s.phase<=2:=by
 simp only[bS,ug,within,cU,bO]at h;have:=h.1;omega
def Lw(s:af)(c:s.small)(hr:s.gq)(hq:s.book.qs.length<2^20) :
  Sq 239 [] [.agg s.cells] [] (.bD [.agg (bz s).cells,.sl 3 ((jV s).map aH.cells),.I (cu s)]):=by
 have c1:=jq s c hr;have c2:=bg s c;have c3:=Um s.ak s.book c.ak c.book hr.qs;have w:=acW s.ak s.book;have c4:=HC (lU s.ak s.book) aj;have z:=(IT (lU s.ak s.book)).2;have i:=Ip (eJ s) (by unfold eJ;omega);have o:=Zr (eJ s);have j:=xy s.bp (nextId s.bp) (kP (eJ s)) c.bp hr.bs aj;have v:=Ro s.ak c.ak;obtain⟨E,a⟩:=aL (cu s);have k:=a;simp only[cu]at a;simp only[bz,jV,<-k];clear k;obtain⟨P,b⟩:=aL (oX s);rw[<-b]at a |-;simp only[oX]at b;have C:(lA (lU s.ak s.book)).1=eJ s:=rfl;rw[C]at c4;clear C;obtain⟨N,F⟩:=aL (eJ s);obtain⟨ne,p⟩:=aL ((lA (lU s.ak s.book)).2);rw[<-F]at c4 i j b o |-;rw[<-p]at c4 a;clear F p z;obtain⟨g,G⟩:=aL (kP N);obtain⟨D,n⟩:=aL (ou N);rw[<-G]at i j b o;rw[<-n]at i b;clear G n;simp only[af.cells]at c1 c2 |-;simp only[aJ.cells]at c3;simp only[ay.cells]at c3 v;simp only[bu.cells,nextId]at j;simp only[nextId,gD]at b;obtain⟨RD,m⟩:=aL (lU s.ak s.book);obtain⟨RB,l⟩:=aL (rV s.ak s.book);obtain⟨H,q⟩:=aL (oW s.ak s.book);rw[<-m]at c3 c4;rw[<-l]at c3 |-;rw[<-q]at c3 a;clear m l q w;refine aX 82 1 [.cell 2 42,.tmp 3,.tmp 4] mixed func239 ?_;refine sc aK c1 ?_;cases B:bS s
 ·rw[B]at a;rw[a];simp only[go_sem,seval]<;>simp[af.zero,pl]
 rw[B,au rfl]at a;refine s0 ?_;refine aV ?_;by_cases r:s.phase=0
 case neg =>
  have d:(s.phase==0)=false:=su r;rw[aq r]at a;rw[a];simp only[go_sem,seval,bne,d]<;>simp[af.zero,pl]
 rw[au r]at a;rw[r]at c1 c2 |-;refine sc aK c3 ?_;clear c1 c3;by_cases e:H=0
 case neg =>
  have d:(H==0)=false:=su e;rw[aq e]at a;rw[a];simp only[aq e];simp only[go_sem,seval,bne,d]<;>simp[af.zero,pl]
 rw[au e]at a;rw[e];refine sc aK c4 ?_;by_cases f:ne=0
 case neg =>
  have d:(ne==0)=false:=su f;rw[aq f]at a;rw[a];simp only[aq f];simp only[go_sem,seval,bne,d]<;>simp[af.zero,pl]
 rw[au f]at a;rw[f];clear c4;refine sc aK c2 ?_;refine sc aK i ?_;clear c2 i;by_cases t:D=0
 case neg =>
  have d:(D==0)=false:=su t;rw[aq (by simp[t])]at b;rw[a,b];simp only[aq t];simp only[go_sem,seval,bne,d]<;>simp[af.zero,pl]
 rw[t]at b |-
 by_cases u:g=[]
 ·rw[aq (by simp[u])]at b;rw[a,b,u];simp only[go_sem,seval,map_nil,length_nil];exact lX aK v
 have y:decide ((0:Int)<(g.length:Int))=true:=by
  have:g.length≠0:=λh=>u (eq_nil_of_length_eq_zero h);simp;omega
 rw[au ⟨rfl,u⟩]at b;obtain⟨M,J⟩:=aL (jO s.bp (IntKind.wrap .i64 (s.bp.last+1)) g);obtain⟨e2,x⟩:=aL (fM s.bp (IntKind.wrap .i64 (s.bp.last+1)) g);rw[<-J,<-x]at b j;refine sc y j ?_;by_cases A:e2=0
 case neg =>
  have d:(e2==0)=false:=su A;rw[a,b];simp only[aq A];simp only[go_sem,seval,bne,d]<;>simp[af.zero,pl]
 rw[a,b,A];exact lX aK v
def Hl(c:bB)(l a:ByteArray):Nat->Nat->Int
 | 0,_=>0
 |m+1,i=>if !hasB l (yV a i)&&!(Qo c (yV a i)==0)then 6 else Hl c l a m (i+1)
def DU(c:bB):Nat->Int
 | 0=>c.s0
 | 1=>c.s1
 | 2=>c.s2
 | 3=>c.s3
 | 4=>c.s4
 | _=>c.s5
def SO(c:bB)(l:ByteArray):Nat->Nat->Int
 | 0,_=>0
 |m+1,i=>if !hasB l 115&&!(DU c i==0)then 6 else SO c l m (i+1)
def aef:ByteArray:=⟨#[119,111,110,105,99,113,112,97]⟩
def EA(c:bB):Int:=if within c.kind 1 22 then(if Hl c (iF c.kind) aef 8 0=0 then(if SO c (iF c.kind) 6 0=0 then(if within c.client 1 8 then 0 else 6)else 6)else 6)else 21
theorem SN(c:bB)(l a:ByteArray):∀m i,Hl c l a m i=0\/Hl c l a m i=6
 | 0,_=>.inl rfl
 |m+1,i=>by simp only[Hl];split;exact .inr rfl;exact SN c l a m (i+1)
def TO(k:Int):(iF k).size<2^60:=by
 unfold iF;generalize k.toNat=n;rcases(by omega:n<23\/23<=n)with h|h
 ·have:∀n<23,(V6.getD n ⟨#[]⟩).size<8:=by decide
  exact Nat.lt_trans (this n h) (by decide)
 ·rw[getD_eq_getElem?_getD,getElem?_eq_none (by simpa[V6]using h)];decide
def Lh(c:bB):Sq 228 [] [.agg c.cells] [] (.I (EA c)):=by
 have c1:=lQ c.kind 1 22;have c2:=λh=>Ij c.kind h;have c3:=lQ c.client 1 8;have o:=λb=>M5 (iF c.kind) b (TO c.kind);have w:=λb=>Ii c b;obtain⟨E,e⟩:=aL (EA c);rw[<-e];simp only[EA]at e;obtain⟨l,J⟩:=aL (iF c.kind);rw[<-J]at c2 o e;clear J;simp only[bB.cells]at w |-;refine aX 52 1 [.tmp 2] mixed func228 ?_;refine sc aK c1 ?_;cases v:within c.kind 1 22
 ·rw[v]at e;rw[e];exact jh
 have c2:=c2 (by simpa[within]using v);rw[v,au rfl]at e;refine s0 ?_;refine aV ?_;refine az.aP c2 ?_;clear c1 c2 v;refine s0 ?_;refine aV ?_;rw[show(⟨#[119,111,110,105,99,113,112,97]⟩:ByteArray)=aef from rfl];have s:aef.size=8:=rfl;obtain⟨A,K⟩:=aL (aef);rw[<-K]at e s |-;obtain⟨F,y⟩:=aL (Hl c l A 8 0);rw[<-y]at e;have t:=SN c l A 8 0;rw[<-y]at t;refine aG.wu A.size [1,3,4] [32,224] (λi=>[(5,.I i)]) (λ_=>[]) (λi=>Hl c l A (A.size-i) i=F) (by rw[s];exact y.symm) ?_ ?_ ?_
 ·refine s0 ?_;try simp
 ·intro i _ k j g a;obtain⟨m,C⟩:∃m,A.size-i=m+1:=⟨A.size-i-1,by omega⟩
  have f:A.size-(i+1)=m:=aj
  rw[C]at a;simp only[Hl]at a;have hli:(i:Int)<(A.size:Int):=aj
  have z:((A[i]?).map (λx=>(x.toNat:Int))).getD 0=yV A i:=rfl;have r:=o (yV A i);have p:=w (yV A i);obtain⟨b,B⟩:=aL (yV A i);rw[<-B]at z a r p;clear o w c3;simp only[go_sem,seval,j,Int.toNat_natCast,z];refine sc aK r ?_;cases q:hasB l b
  ·rw[q,Bool.not_false,cz]at a;simp only[go_sem,seval,Int.toNat_natCast,z];refine sc aK p ?_;cases d:Qo c b==0
   ·rw[d,Bool.not_false,au rfl]at a;have:E=6:=by rw[e,<-a];rfl
    rw[this];exact eo (a2 dV d)
   ·rw[d]at a;refine sm (a3 dV d g) ?_;refine ah.u k (by rw[f];simpa using a) ?_;exact iB
  ·rw[q]at a;refine sm g ?_;refine ah.u k (by rw[f];simpa using a) ?_;exact iB
 intro _ n a;rw[Nat.sub_self]at a;have a:F=0:=a.symm;rw[au a]at e;clear y t w a;obtain⟨G,H⟩:=aL (SO c l 6 0);rw[<-H]at e;have o:=o 115;refine sm n ?_;refine aV ?_;refine aG.wu 6 [1,3] [32,224] (λi=>[(6,.I i)]) (λ_=>[]) (λi=>SO c l (6-i) i=G) H.symm ?_ ?_ ?_
 ·refine s0 ?_;try simp
 ·intro i _ k j g a;have j:decide ((i:Int)<6)=true:=j;obtain⟨m,C⟩:∃m,6-i=m+1:=⟨6-i-1,by omega⟩
  have f:6-(i+1)=m:=aj
  rw[C]at a;simp only[SO]at a;refine sc j o ?_;cases q:hasB l 115
  case true =>
   rw[q]at a;refine sm g ?_;refine ah.u k (by rw[f];simpa using a) ?_;exact iB
  rw[q,Bool.not_false,cz]at a;rcases(by omega:i=0\/i=1\/i=2\/i=3\/i=4\/i=5)with rfl|rfl|rfl|rfl|rfl|rfl
  ·simp only[DU]at a;cases d:c.s0==0
   ·rw[d,Bool.not_false,au rfl]at a;have:E=6:=by rw[e,<-a];rfl
    rw[this];exact gH (a2 dV d)
   ·rw[d]at a;refine sm (a3 dV d g) ?_;refine ah.u k (by rw[f];simpa using a) ?_;refine s0 ?_;rfl
  ·simp only[DU]at a;cases d:c.s1==0
   ·rw[d,Bool.not_false,au rfl]at a;have:E=6:=by rw[e,<-a];rfl
    rw[this];exact gH (a2 dV d)
   ·rw[d]at a;refine sm (a3 dV d g) ?_;refine ah.u k (by rw[f];simpa using a) ?_;refine s0 ?_;rfl
  ·simp only[DU]at a;cases d:c.s2==0
   ·rw[d,Bool.not_false,au rfl]at a;have:E=6:=by rw[e,<-a];rfl
    rw[this];exact gH (a2 dV d)
   ·rw[d]at a;refine sm (a3 dV d g) ?_;refine ah.u k (by rw[f];simpa using a) ?_;refine s0 ?_;rfl
  ·simp only[DU]at a;cases d:c.s3==0
   ·rw[d,Bool.not_false,au rfl]at a;have:E=6:=by rw[e,<-a];rfl
    rw[this];exact gH (a2 dV d)
   ·rw[d]at a;refine sm (a3 dV d g) ?_;refine ah.u k (by rw[f];simpa using a) ?_;refine s0 ?_;rfl
  ·simp only[DU]at a;cases d:c.s4==0
   ·rw[d,Bool.not_false,au rfl]at a;have:E=6:=by rw[e,<-a];rfl
    rw[this];exact gH (a2 dV d)
   ·rw[d]at a;refine sm (a3 dV d g) ?_;refine ah.u k (by rw[f];simpa using a) ?_;refine s0 ?_;rfl
  ·simp only[DU]at a;cases d:c.s5==0
   ·rw[d,Bool.not_false,au rfl]at a;have:E=6:=by rw[e,<-a];rfl
    rw[this];exact gH (a2 dV d)
   ·rw[d]at a;refine sm (a3 dV d g) ?_;refine ah.u k (by rw[f];simpa using a) ?_;refine s0 ?_;rfl
 intro _ n a;have a:G=0:=a.symm;rw[au a]at e;have n:decide (((6:Nat):Int)<6)=false:=n;refine sc aK c3 ?_;cases D:within c.client 1 8
 ·rw[D]at e;rw[e];exact jh
 ·rw[D]at e;rw[e];exact jh
def bH.err(e:Int):bH:=⟨e,0,0,[],[]⟩
def Gt(c:bB)(last:Int):bH×Bool:=if c.seq=IntKind.wrap .i64 (last+1)then(if 1099511627776<c.seq then(.err 1,true)else(.err 0,false))else(.err 19,true)
def bZ.zero:bZ:=⟨0,0,.err 0⟩
def rM(s:af)(i:Int):bZ:=s.aR.getD i.toNat .zero
def sM(s:af)(c:bB):bH×Bool:=
 if EA c=0 then(if 0<=mB c.client s.aR 0 then(if c.seq=(rM s (mB c.client s.aR 0)).seq then((rM s (mB c.client s.aR 0)).r,true)else if c.seq<(rM s (mB c.client s.aR 0)).seq then(.err 18,true)else Gt c (rM s (mB c.client s.aR 0)).seq)else Gt c 0)else(.err (EA c),true)
theorem UD(n:Int):∀(l:List bZ)(k:Int),0<=k->0<=mB n l k->∃j:Nat,j<l.length/\mB n l k=k+j
 | [],k,_,h=>by simp[mB]at h
 |x::r,k,hk,h=>by
  simp only[mB]at h |-;split
  ·exact⟨0,by simp,by simp⟩
  ·rename_i b;rw[aq b]at h;obtain⟨j,h1,a⟩:=UD n r (k+1) aj h;exact⟨j+1,by simp;omega,by rw[a];omega⟩
def Ao(s:af)(c:bB)(F:s.small):Sq 116 [] [.agg s.cells,.agg c.cells] [] (.bD [.agg (sM s c).1.cells,.bool (sM s c).2]):=by
 have c1:=Lh c;have c2:=BG s c.client (by have:=F.aR;omega);have k:=UD c.client s.aR 0 aj;obtain⟨E,a⟩:=aL (sM s c);rw[<-a];simp only[sM]at a;obtain⟨C,g⟩:=aL (EA c);obtain⟨i,D⟩:=aL (mB c.client s.aR 0);rw[<-g]at c1 a;rw[<-D]at c2 a k;clear g D;simp only[bB.cells]at c1 |-;simp only[af.cells]at c2 |-;refine aX 54 2 [.cell 4 121,.tmp 5] mixed func116 ?_;refine sc aK c1 ?_;clear c1;by_cases l:C=0
 case neg =>
  have d:(C==0)=false:=su l;rw[aq l]at a;rw[a];simp only[go_sem,seval,bne,d]<;>simp[bH.err]
 rw[au l]at a;rw[l];refine sc aK c2 ?_;clear c2;by_cases m:0<=i
 case neg =>
  have d:decide (0<=i)=false:=su m;rw[aq m]at a;simp only[Gt,show IntKind.wrap .i64 (0+1)=1 from rfl]at a;have A:IntKind.wrap .i64 1=1:=rfl;simp only[go_sem,seval,d,A];refine aV ?_;by_cases b:c.seq=1
  ·rw[au b,b]at a;have a:E=(.err 0,false):=a;rw[a,b];simp only[go_sem,seval]<;>simp[bH.err]
  ·have f:(c.seq==1)=false:=su b;rw[aq b]at a;rw[a];simp only[go_sem,seval,bne,f]<;>simp[bH.err]
 obtain⟨j,z,h⟩:=k m;have h:i=(j:Int):=aj
 subst h;have d:decide ((0:Int)<=(j:Int))=true:=by simp
 have y:rM s (j:Int)=s.aR[j]:=by simp[rM,z]
 rw[au m,y]at a;have q:=aM (c:=bZ.cells) s.aR z;have e:=F.rs _ (dH z);have hlj:(j:Int)<(s.aR.length:Int):=aj
 obtain⟨x,H⟩:=aL (s.aR[j]);rw[<-H]at a q e;have B:=th x.r e;simp only[bZ.cells]at q;simp only[bH.cells]at B;simp only[go_sem,seval,d,q,Int.toNat_natCast];refine aV ?_;by_cases b:c.seq=x.seq
 ·have f:(c.seq==x.seq)=true:=su b;rw[au b]at a;rw[a];simp only[go_sem,seval,f,q,Int.toNat_natCast];refine aV ?_;refine az.aP B ?_;exact jh
 have f:(c.seq==x.seq)=false:=su b;rw[aq b]at a;simp only[go_sem,seval,f];refine aV ?_;by_cases n:c.seq<x.seq
 ·have t:decide (c.seq<x.seq)=true:=su n;rw[au n]at a;rw[a];simp only[go_sem,seval,t]<;>simp[bH.err]
 have t:decide (c.seq<x.seq)=false:=su n;rw[aq n]at a;simp only[Gt]at a;obtain⟨v,G⟩:=aL (IntKind.wrap .i64 (x.seq+1));rw[<-G]at a;simp only[go_sem,seval,t,<-G];refine aV ?_;by_cases o:c.seq=v
 ·have u:(c.seq==v)=true:=su o;rw[au o]at a;refine sm (a2 dV u) ?_;refine aV ?_;by_cases p:1099511627776<c.seq
  ·have w:decide (1099511627776<c.seq)=true:=su p;rw[au p]at a;rw[a];simp only[go_sem,seval,w]<;>simp[bH.err]
  ·have w:decide (1099511627776<c.seq)=false:=su p;rw[aq p]at a;rw[a];simp only[go_sem,seval,w]<;>simp[bH.err]
 ·have u:(c.seq==v)=false:=su o;rw[aq o]at a;rw[a];simp only[go_sem,seval,bne,u]<;>simp[bH.err]
def AB(s:af)(g:List aN):Int:=fM s.bp (nextId s.bp) g
def sQ(s:af)(g:List aN):af:=if AB s g=0 then{ s with bp:=jO s.bp (nextId s.bp) g }else s
def oB(s:af)(g:List aN)(i:s.bp.bs.length<2^30)(hr:∀b∈s.bp.bs,b.gq)(h:g.length<2^29) :
  Sq 236 [.box s.cells] [.addr 0 0,.sl 4 (g.map aN.cells)] [.box (sQ s g).cells] (.int .i64 (AB s g)):=by
 have c1:=xy s.bp (nextId s.bp) g i hr h;obtain⟨S,a⟩:=aL (sQ s g);rw[<-a];simp only[sQ]at a;obtain⟨e,f⟩:=aL (AB s g);rw[<-f]at a |-;simp only[AB]at f;rw[<-f]at c1;clear f;simp only[bu.cells,nextId]at c1;simp only[nextId]at a;simp only[af.cells];refine aX 29 2 [.tmp 4] mixed func236 ?_;refine sc aK c1 ?_;refine aV ?_;by_cases c:e=0
 ·have d:(e==0)=true:=su c;rw[au c]at a;rw[a];simp only[go_sem,seval,d]
 ·have d:(e==0)=false:=su c;rw[aq c]at a;rw[a];simp only[go_sem,seval,d]
structure af.good(s:af):Prop where
 small:s.small
 gq:s.gq
 ms:s.ak.ms.length<2^27
 qs:s.book.qs.length<2^20
 aZ:s.aZ.length<2^20
 bs:s.bp.bs.length<2^29
 ps:s.ps.length<2^28
def af.good.bp{s:af}(h:s.good){l:bu}(a:l.fY):({ s with bp:=l }:af).good:=
 ⟨⟨h.small.ak,h.small.book,Nat.lt_trans a.1 (by decide),h.small.ps,h.small.calls,h.small.aZ,h.small.aR,h.small.rs⟩,
  ⟨h.gq.now,h.gq.day,h.gq.phase,h.gq.ms,h.gq.ns,h.gq.xs,h.gq.next,h.gq.ts,h.gq.qs,a.2.2,a.2.1,h.gq.ps,h.gq.calls,h.gq.aZ,h.gq.aR⟩,h.ms,h.qs,h.aZ,a.1,h.ps⟩
def af.good.fY{s:af}(h:s.good):s.bp.fY:=⟨h.bs,h.gq.bs,h.gq.last⟩
def OV{s:af}(h:s.good)(g:List aN):(sQ s g).good:=by
 unfold sQ;split
 ·exact h.bp O9
 ·exact h
def ahd(s:af)(d:aH):af:={ s with calls:=Aj s.calls d }
def xw(s:af)(c:bB):af×Int:=
 if aI.right ⟨2,c.who,c.cur⟩&&within c.bT 1 4611686018427387904 then
  (if Jf s.ak c.who=0 then
   (if c.kind=8 then(sQ s (cr ⟨1,0,c.cur⟩ ⟨3,c.who,c.cur⟩ c.bT),AB s (cr ⟨1,0,c.cur⟩ ⟨3,c.who,c.cur⟩ c.bT))
   else if c.kind=4 then
    (if AB s (cr ⟨1,0,c.cur⟩ ⟨2,c.who,c.cur⟩ c.bT)=0 then(ahd (sQ s (cr ⟨1,0,c.cur⟩ ⟨2,c.who,c.cur⟩ c.bT)) ⟨c.who,c.cur,c.bT⟩,ym s.calls ⟨c.who,c.cur,c.bT⟩)
    else(sQ s (cr ⟨1,0,c.cur⟩ ⟨2,c.who,c.cur⟩ c.bT),AB s (cr ⟨1,0,c.cur⟩ ⟨2,c.who,c.cur⟩ c.bT)))
   else
    (sQ s (cr ⟨2,c.who,c.cur⟩ ⟨1,0,c.cur⟩ c.bT),if AB s (cr ⟨2,c.who,c.cur⟩ ⟨1,0,c.cur⟩ c.bT)=0 then YG (sQ s (cr ⟨2,c.who,c.cur⟩ ⟨1,0,c.cur⟩ c.bT)) c.who c.cur else AB s (cr ⟨2,c.who,c.cur⟩ ⟨1,0,c.cur⟩ c.bT)))
  else(s,Jf s.ak c.who))
 else(s,3)
def xx(s:af)(c:bB)(h:s.good):Sq 232 [.box s.cells] [.addr 0 0,.agg c.cells] [.box (xw s c).1.cells] (.int .i64 (xw s c).2):=by
 have c1:=mu 2 c.who c.cur;have c2:=mu 1 0 c.cur;have c3:=mu 3 c.who c.cur;have c4:=kn ⟨2,c.who,c.cur⟩;have T:=lQ c.bT 1 4611686018427387904;have r:=yB s c.who h.small.ak.small;have J:=nK ⟨1,0,c.cur⟩ ⟨3,c.who,c.cur⟩ c.bT;have H:=nK ⟨1,0,c.cur⟩ ⟨2,c.who,c.cur⟩ c.bT;have I:=nK ⟨2,c.who,c.cur⟩ ⟨1,0,c.cur⟩ c.bT;have g:∀a b n,(cr a b n).length<2^29:=λ_ _ _=>by simp[cr]
 have y:=oB s (cr ⟨1,0,c.cur⟩ ⟨3,c.who,c.cur⟩ c.bT) h.small.bp h.gq.bs (g _ _ _);have w:=oB s (cr ⟨1,0,c.cur⟩ ⟨2,c.who,c.cur⟩ c.bT) h.small.bp h.gq.bs (g _ _ _);have x:=oB s (cr ⟨2,c.who,c.cur⟩ ⟨1,0,c.cur⟩ c.bT) h.small.bp h.gq.bs (g _ _ _);have t:=Fi s.calls ⟨c.who,c.cur,c.bT⟩ h.small.calls;have p:=OV h (cr ⟨2,c.who,c.cur⟩ ⟨1,0,c.cur⟩ c.bT);have o:=wG (sQ s (cr ⟨2,c.who,c.cur⟩ ⟨1,0,c.cur⟩ c.bT)) c.who c.cur p.small p.gq p.bs (by have:=p.ps;omega);have f:(sQ s (cr ⟨1,0,c.cur⟩ ⟨2,c.who,c.cur⟩ c.bT)).calls=s.calls:=by unfold sQ;split<;>rfl
 clear p g;obtain⟨R,e⟩:=aL (xw s c);rw[<-e];simp only[xw]at e;obtain⟨L8,W⟩:∃L,L=cr ⟨1,0,c.cur⟩ ⟨3,c.who,c.cur⟩ c.bT:=⟨_,rfl⟩
 obtain⟨N,U⟩:∃L,L=cr ⟨1,0,c.cur⟩ ⟨2,c.who,c.cur⟩ c.bT:=⟨_,rfl⟩
 obtain⟨O,V⟩:∃L,L=cr ⟨2,c.who,c.cur⟩ ⟨1,0,c.cur⟩ c.bT:=⟨_,rfl⟩
 rw[<-W]at J y e;rw[<-U]at H w e f;rw[<-V]at I x o e;clear W U V;obtain⟨S8,K⟩:∃S,S=sQ s L8:=⟨_,rfl⟩
 obtain⟨P,s4⟩:∃S,S=sQ s N:=⟨_,rfl⟩
 obtain⟨X,s5⟩:∃S,S=sQ s O:=⟨_,rfl⟩
 obtain⟨E8,G⟩:∃E,E=AB s L8:=⟨_,rfl⟩
 obtain⟨z,D⟩:∃E,E=AB s N:=⟨_,rfl⟩
 obtain⟨A,F⟩:∃E,E=AB s O:=⟨_,rfl⟩
 rw[<-K,<-G]at y;rw[<-s4,<-D]at w;rw[<-s5,<-F]at x;rw[<-s4]at f;rw[<-s5]at o;rw[<-K,<-s4,<-s5,<-G,<-D,<-F]at e;clear K s4 s5 G D F;rw[<-f]at t e;simp only[ahd]at e;obtain⟨ML,i⟩:∃M,M=Aj P.calls ⟨c.who,c.cur,c.bT⟩:=⟨_,rfl⟩
 obtain⟨me,l⟩:∃M,M=ym P.calls ⟨c.who,c.cur,c.bT⟩:=⟨_,rfl⟩
 obtain⟨ce,k⟩:∃M,M=YG X c.who c.cur:=⟨_,rfl⟩
 obtain⟨Q,j⟩:∃M,M=Jf s.ak c.who:=⟨_,rfl⟩
 rw[<-i,<-l]at t;rw[<-k]at o;rw[<-j]at r;rw[<-i,<-l,<-k,<-j]at e;clear i l k j f;simp only[aI.cells]at c4 J H I;simp only[aH.cells]at t;simp only[af.cells]at r y w x o |-;simp only[bB.cells];refine aX 97 2 [.tmp 4] mixed func232 ?_;refine sc aK c1 ?_;refine sc aK c2 ?_;refine sc aK c4 ?_;cases B:aI.right ⟨2,c.who,c.cur⟩
 ·rw[B]at e;have e:R=(s,3):=e;rw[e];exact jh
 rw[B,cz]at e;refine sc aK T ?_;cases C:within c.bT 1 4611686018427387904
 ·rw[C]at e;have e:R=(s,3):=e;rw[e];exact jh
 rw[C,au rfl]at e;refine sc aK r ?_;by_cases m:Q=0
 case neg =>
  have d:(Q==0)=false:=su m;rw[aq m]at e;rw[e];exact gH (a2 dV d)
 rw[au m]at e;rw[m];clear c1 c2 c4 T r B C m;simp only[go_sem,seval];refine aV ?_;by_cases v:c.kind=8
 ·have d:(c.kind==8)=true:=su v;rw[au v]at e;rw[e];refine sc d c3 ?_;refine sc aK J ?_;exact sgx [0] aK y
 have Z:(c.kind==8)=false:=su v;rw[aq v]at e;simp only[go_sem,seval,Z];refine aV ?_;by_cases u:c.kind=4
 ·have d:(c.kind==4)=true:=su u;rw[au u]at e;refine sc d H ?_;refine sg [0] aK w ?_;refine aV ?_;by_cases q:z=0
  ·have d:(z==0)=true:=su q;rw[au q]at e;rw[e];exact lX d t
  ·have d:(z==0)=false:=su q;rw[aq q]at e;rw[e];simp only[go_sem,seval,d]
 have Y:(c.kind==4)=false:=su u;rw[aq u]at e;refine sc Y I ?_;refine sg [0] aK x ?_;refine aV ?_;by_cases q:A=0
 ·have d:(A==0)=true:=su q;rw[au q]at e;rw[e];exact lX d o
 ·have d:(A==0)=false:=su q;rw[aq q]at e;rw[e];simp only[go_sem,seval,d]
def qh(c:bB):aT:=⟨0,c.who,c.other,c.inst,c.aQ,c.aS,false⟩
def qa(s:af)(c:bB):af×Int×Int:=
 if c.kind=10 then
  (if D6 s.ak (qh c)=0 then({ s with book:=om s.book (qh c) },xd s.book (qh c),kU s.book (qh c))else(s,0,D6 s.ak (qh c)))
 else if c.kind=13 then({ s with ak:=Dh s.ak c.inst c.aS },0,Dg s.ak c.inst c.aS)
 else if l8 c.no s.book.ts<0 then(s,0,10)
 else if Jf s.ak (fS c.no s.book.ts).lg=0/\Jf s.ak (fS c.no s.book.ts).iH=0 then
  (if c.kind=11 then({ s with book:=iE s.book c.no },0,jd s.book c.no)
  else({ s with book:=xW s.book c.no c.aQ c.aS },JL s.book c.no c.aQ c.aS,xX s.book c.no c.aQ c.aS))
 else(s,0,14)
def oR(s:af)(c:bB)(h:s.good):Sq 238 [.box s.cells] [.addr 0 0,.agg c.cells] [.box (qa s c).1.cells] (.bD [.int .i64 (qa s c).2.1,.int .i64 (qa s c).2.2]):=by
 have c1:=No s.ak (qh c) h.small.ak;have c2:=C5 s.book (qh c) h.small.book h.gq.qs;have c3:=Rl s.ak c.inst c.aS h.small.ak;have c4:=zL s.book c.no h.small.book;have v:=λw=>yB s w h.small.ak.small;have F:=BI s.book c.no h.small.book h.gq.qs;have G:=Il s.book c.no c.aQ c.aS h.small.book h.gq.qs;have r:¬l8 c.no s.book.ts<0->_:=λP=>Ba (n:=c.no) (ts:=s.book.ts) P;obtain⟨R,a⟩:=aL (qa s c);rw[<-a];simp only[qa]at a;obtain⟨D,C⟩:∃e,e=D6 s.ak (qh c):=⟨_,rfl⟩
 obtain⟨eB,M⟩:∃e,e=om s.book (qh c):=⟨_,rfl⟩
 obtain⟨eN,O⟩:∃e,e=xd s.book (qh c):=⟨_,rfl⟩
 obtain⟨eE,N⟩:∃e,e=kU s.book (qh c):=⟨_,rfl⟩
 rw[<-C]at c1 a;rw[<-M,<-O,<-N]at c2 a;simp only[qh,aT.cells]at c1 c2;simp only[ay.cells]at c1 c3;simp only[aJ.cells]at c2 c4 F G;simp only[af.cells]at v |-;simp only[bB.cells];refine aX 142 2 [.tmp 4,.tmp 5] mixed func238 ?_;simp only[go_sem,seval];refine aV ?_;by_cases b:c.kind=10
 ·have B:(c.kind==10)=true:=su b;rw[au b]at a;refine sc B c1 ?_;by_cases q:D=0
  ·have d:(D==0)=true:=su q;rw[au q]at a;rw[a];exact lX d c2
  ·have d:(D==0)=false:=su q;rw[aq q]at a;rw[a];simp only[go_sem,seval,d]
 have B:(c.kind==10)=false:=su b;rw[aq b]at a;clear c1 c2;simp only[go_sem,seval,B];refine aV ?_;by_cases g:c.kind=13
 ·have m:(c.kind==13)=true:=su g;rw[au g]at a;rw[a];exact lX m c3
 have m:(c.kind==13)=false:=su g;rw[aq g]at a;clear c3;refine sc m c4 ?_;by_cases q:l8 c.no s.book.ts<0
 ·have d:decide (l8 c.no s.book.ts<0)=true:=su q;rw[au q]at a;rw[a];simp only[go_sem,seval,d]
 have d:decide (l8 c.no s.book.ts<0)=false:=su q;rw[aq q]at a;obtain⟨i,H,t,_⟩:=r q;have o:fS c.no s.book.ts=s.book.ts[i]:=by simp[fS,t,H]
 rw[o]at a;have y:=aM (c:=aT.cells) s.book.ts H;have hli:(i:Int)<(s.book.ts.length:Int):=aj
 obtain⟨x,I⟩:=aL (s.book.ts[i]);rw[<-I]at a y;have j:=v x.lg;have k:=v x.iH;obtain⟨E,p⟩:∃e,e=Jf s.ak x.lg:=⟨_,rfl⟩
 obtain⟨J,u⟩:∃e,e=Jf s.ak x.iH:=⟨_,rfl⟩
 rw[<-p]at j a;rw[<-u]at k a;rw[t]at d |-;simp only[aT.cells]at y;clear r c4 q v p u o I;simp only[go_sem,seval,d,y,Int.toNat_natCast];refine sc aK j ?_;by_cases z:E=0
 case neg =>
  have K:(E==0)=false:=su z;rw[aq (λh=>z h.1)]at a;rw[a];exact gH (a2 dV K)
 rw[z];simp only[go_sem,seval,y,Int.toNat_natCast];refine sc aK k ?_;by_cases A:J=0
 case neg =>
  have L:(J==0)=false:=su A;rw[aq (λh=>A h.2)]at a;rw[a];exact gH (a2 dV L)
 rw[au ⟨z,A⟩]at a;rw[A];clear j k;simp only[go_sem,seval];refine aV ?_;by_cases f:c.kind=11
 ·have l:(c.kind==11)=true:=su f;rw[au f]at a;rw[a];exact lX l F
 ·have l:(c.kind==11)=false:=su f;rw[aq f]at a;rw[a];exact lX l G
def Fj(s:af)(c:Int):af×Int:=if oT s.bp s.ak c=0/\lD s.bp s.ak c≠[]then(sQ s (lD s.bp s.ak c),AB s (lD s.bp s.ak c))else(s,oT s.bp s.ak c)
def rU:Nat->Nat->af->List aH->af×List aH×Int
 | 0,_,s,ds=>(s,ds,0)
 |m+1,c,s,ds=>if(Fj s c).2=0 then rU m (c+1) (Fj s c).1 (ds++nX s.bp s.ak c)else((Fj s c).1,[],(Fj s c).2)
def ZR{s:af}(h:s.good)(c:Int):(Fj s c).1.good:=by
 unfold Fj;split
 ·exact OV h _
 ·exact h
def HG(l:bu)(r:ay)(c:Int):(nX l r c).length<=r.ms.length:=by
 unfold nX;split
 ·have:=gJ (f:=BQ l c) (m:=1) (λm=>by unfold BQ;split<;>simp) r.ms;simpa using this
 ·simp
def Ur(l:bu)(r:ay)(c:Int):(lD l r c).length<=306:=by
 unfold lD;split
 ·exact ya _
 ·simp
def Ik(s:af)(h:s.good):Sq 245 [.box s.cells] [.addr 0 0] [.box (rU 3 0 s []).1.cells,.own 3 ((rU 3 0 s []).2.1.map aH.cells)] (.bD [.ref 1,.int .i64 (rU 3 0 s []).2.2]):=by
 obtain⟨R,F⟩:=aL (rU 3 0 s []);rw[<-F];simp only[af.cells];refine aX 44 1 [.tmp 2,.tmp 3] mixed func245 ?_;simp only[go_sem,seval];refine aV ?_;refine aG.rT (S:=af×List aH) 3 [0] [] (λi _=>[(5,.int .i64 i),(4,.ref 688)]) (λi x=>[(0,.box x.1.cells),(688,.own 3 (x.2.map aH.cells))])
  (λi x=>rU (3-i) i x.1 x.2=R/\x.1.good/\x.2.length<=i*134217728) (s,[]) ⟨F.symm,h,Nat.zero_le _⟩ ?_ ?_ ?_
 ·exact jh
 ·intro c x G j u a;obtain⟨t,ds⟩:=x;obtain⟨a,f,B⟩:=a;dsimp only at a f B |-;have j:decide ((c:Int)<3)=true:=j;obtain⟨m,J⟩:∃m,3-c=m+1:=⟨3-c-1,by omega⟩
  have q:3-(c+1)=m:=aj
  rw[J]at a;simp only[rU]at a;have c1:=Lv t.bp t.ak c f.small.bp f.gq.bs f.small.ak f.ms;have D:=Ur t.bp t.ak c;have A:=HG t.bp t.ak c;have hms:=f.ms;have c2:=oB t (lD t.bp t.ak c) f.small.bp f.gq.bs aj;have b:=ZR f c;obtain⟨P,e⟩:=aL (Fj t c);rw[<-e]at a b;simp only[Fj]at e;obtain⟨g,o⟩:=aL (lD t.bp t.ak c);obtain⟨E,k⟩:∃g,g=nX t.bp t.ak c:=⟨_,rfl⟩
  obtain⟨H,r⟩:∃g,g=oT t.bp t.ak c:=⟨_,rfl⟩
  rw[<-o]at c1 c2 e D;rw[<-k]at c1 a A;rw[<-r]at c1 e;obtain⟨I,n⟩:∃p,p=sQ t g:=⟨_,rfl⟩
  obtain⟨z,l⟩:∃p,p=AB t g:=⟨_,rfl⟩
  rw[<-n,<-l]at c2 e;clear o k r n l;simp only[bu.cells,ay.cells]at c1;simp only[af.cells]at c2 |-;refine sc j c1 ?_;by_cases v:H=0
  case neg =>
   have d:(H==0)=false:=su v;rw[aq (λh=>v h.1)]at e;rw[e]at a;dsimp only at a;rw[aq v]at a;rw[<-a];refine sm (a2 dV d) ?_;all_goals simp
  rw[v]at e |-
  by_cases w:g=[]
  ·rw[aq (λh=>h.2 w)]at e;rw[e]at a b;dsimp only at a b;rw[au rfl]at a;rw[w];simp only[go_sem,seval,map_nil,length_nil,u];refine aV ?_;refine ah.jP (t,ds++E) G ⟨by rw[q];exact a,b,by simp;omega⟩ ?_;exact jh
  have C:decide ((0:Int)<(g.length:Int))=true:=by
   have:g.length≠0:=λh=>w (eq_nil_of_length_eq_zero h);simp;omega
  rw[au ⟨rfl,w⟩]at e;rw[e]at a b;dsimp only at a b;refine sg [0] C c2 ?_;refine aV ?_;by_cases y:z=0
  ·have d:(z==0)=true:=su y;rw[au y]at a;refine sm (a3 dV d u) ?_;refine aV ?_;refine ah.jP (I,ds++E) G ⟨by rw[q];exact a,b,by simp;omega⟩ ?_;exact jh
  ·have d:(z==0)=false:=su y;rw[aq y]at a;rw[<-a];refine sm (a2 dV d) ?_;all_goals simp
 intro x _ a;obtain⟨t,ds⟩:=x;have a:=a.1;have a:(t,ds,(0:Int))=R:=a;subst a;simp only[af.cells];simp only[go_sem,seval]
def XU{A:Type}{R:A->A->Prop}(g:∀{a b c},R a b->R b c->R a c){xs:List A}(h:∀j (f:j+1<xs.length),R (xs[j]'aj) xs[j+1]):xs.Pairwise R:=by
 rw[Ay];have key:∀d i (f:i+d+1<xs.length),R (xs[i]'aj) xs[i+d+1]:=by
  intro d;induction d with
  |zero=>intro i f;exact h i f
  |succ d ih=>intro i f;exact g (ih i aj) (h (i+d+1) f)
 intro i j hi f hij;have:=key (j-i-1) i aj;have e:i+(j-i-1)+1=j:=aj
 simpa only[e]using this
def tA{A:Type}{ok:A->Bool}{lt:A->A->Bool}(l:∀{a b c},lt a b=true->lt b c=true->lt a c=true){xs:List A}:nQ ok lt xs=true↔(∀x∈xs,ok x=true)/\xs.Pairwise (λa b=>lt a b=true):=by
 constructor
 ·intro h;refine⟨λx k=>?_,XU (R:=λa b=>lt a b=true) l λj g=>?_⟩
  ·obtain⟨i,d,rfl⟩:=mem_iff_getElem.1 k;exact Qc h d
  ·have:=aba h g;rw[jy g,cU]at this;exact this.2
 ·rintro⟨e,f⟩;rw[Ay]at f;refine q9 λi d=>?_;cases i with
  |zero=>rw[j8 d];exact e _ (dH d)
  |succ j=>rw[jy d,e _ (dH d),f j (j+1) aj d aj];rfl
def ZV{A:Type}{no:A->Int}{ok:A->Bool}{xs:List A}:mL no ok xs=true↔(∀x∈xs,ok x=true)/\xs.Pairwise (λa b=>no a<no b):=by
 constructor
 ·intro h;have d:∀i (c:i<xs.length),fQ no ok xs i=true:=λi c=>cg.1 h i (mem_range.2 c);refine⟨yI h,XU (R:=λa b=>no a<no b) Int.lt_trans λj g=>?_⟩;have:=d (j+1) g;rw[lE no ok xs g aj,cU,bO]at this;exact this.2
 ·rintro⟨e,f⟩;rw[Ay]at f;refine Cp λi c=>?_;rcases Nat.eq_zero_or_pos i with h0|h0
  ·rw[lF no ok xs c aj];exact e _ (dH c)
  ·rw[lE no ok xs c h0,e _ (dH c),dw (f (i-1) i aj c aj)];rfl
def QD{bs:List bY}:nI bs=true↔(∀b∈bs,o8 b=true)/\bs.Pairwise (λx y=>x.br.less y.br=true):=by
 constructor
 ·intro h;have c:∀i (a:i<bs.length),tP bs i=true:=λi a=>cg.1 h i (mem_range.2 a);refine⟨λx f=>?_,TZ h⟩;obtain⟨i,a,rfl⟩:=mem_iff_getElem.1 f;have:=c i a;cases i with
  |zero=>rwa[qu a]at this
  |succ j=>rw[oq a,cU]at this;exact this.1
 ·rintro⟨d,e⟩;rw[Ay]at e;refine xm λi a=>?_;cases i with
  |zero=>rw[qu a];exact d _ (dH a)
  |succ j=>rw[oq a,d _ (dH a),e j (j+1) aj a aj];rfl
def yz{A:Type}{no:A->Int}{n:Int}{xs:List A}:decide (0<=lT no n xs)=true↔∃x∈xs,no x=n:=by
 rw[zH,any_eq_true];simp
theorem B9{A:Type}{no:A->Int}{n:Int}{z:A}:∀{xs:List A},(∃x∈xs,no x=n)->jS no n z xs∈xs/\no (jS no n z xs)=n
 | [],h=>by obtain⟨x,a,_⟩:=h;cases a
 |x::r,h=>by
  simp only[jS];split
  ·rename_i a;exact⟨by simp,a⟩
  ·rename_i a;obtain⟨y,b,c⟩:=h;rcases mem_cons.1 b with rfl|b
   ·exact absurd c a
   ·obtain⟨d,e⟩:=B9 (z:=z) ⟨y,b,c⟩;exact⟨by simp[d],e⟩
theorem Ca{A:Type}{no:A->Int}{n:Int}{z:A}:∀{xs:List A},(∀x∈xs,no x≠n)->jS no n z xs=z
 | [],_=>rfl
 |x::r,h=>by
  simp only[jS];rw[aq (h x sT)];exact Ca λy a=>h y (by simp[a])
theorem y9{A:Type}{no:A->Int}{n:Int}{z:A}{xs:List A}(d:xs.Pairwise (λa b=>no a<no b)){x:A}(c:x∈xs)(e:no x=n):jS no n z xs=x:=by
 induction xs with
 |nil=>cases c
 |cons y r ih =>
  rw[jR]at d;simp only[jS];rcases mem_cons.1 c with rfl|c
  ·rw[au e]
  ·have:=d.1 x c;rw[aq aj];exact ih d.2 c
def Ol{A:Type}{no:A->Int}{n:Int}{z:A}{xs f:List A}(j:f.Pairwise (λa b=>no a<no b))(h:∀x,no x=n->(x∈xs↔x∈f)):jS no n z xs=jS no n z f:=by
 by_cases e:∃x∈xs,no x=n
 ·obtain⟨i,g⟩:=B9 (z:=z) e;exact(y9 j ((h _ g).1 i) g).symm
 ·rw[Ca (λx d c=>e ⟨x,d,c⟩),Ca (λx d c=>e ⟨x,(h x c).2 d,c⟩)]
def jf{B:Type}{f:Nat->List B}{n:Nat}{x:B}:x∈n6 f n↔∃i,i<n/\x∈f i:=by
 simp[n6,mem_flatMap,mem_range]
theorem zI{B:Type}{R:B->B->Prop}{f:Nat->List B}{n:Nat}(c:∀i,i<n->(f i).Pairwise R)(d:∀i j,i<j->j<n->∀x∈f i,∀y∈f j,R x y):(n6 f n).Pairwise R:=by
 induction n with
 |zero=>simp[n6]
 |succ n ih =>
  rw[iS,pairwise_append];refine⟨ih (λi e=>c i aj) (λi j a hj=>d i j a aj),c n aj,?_⟩;intro x b y g;obtain⟨i,e,b⟩:=jf.1 b;exact d i n e aj x b y g
theorem BF{B:Type}{R:B->B->Prop}:∀{l:List B},l.length<=1->l.Pairwise R
 | [],_=>by simp
 | [x],_=>by simp
 |x::y::r,h=>by simp at h
def Wm{B:Type}{key:B->Int}{f:Nat->List B}{n:Nat}(d:∀i,i<n->(f i).length<=1)(c:∀i,i<n->∀x∈f i,key x=(i:Int)+1):(n6 f n).Pairwise (λa b=>key a<key b):=by
 refine zI (λi e=>BF (d i e)) λi j hij g x h y k=>?_;rw[c i aj x h,c j g y k];omega
theorem Q1{A B:Type}{R:A->A->Prop}{S:B->B->Prop}{f:A->List B}{xs:List A}(e:xs.Pairwise R)(h:∀a∈xs,(f a).Pairwise S)(i:∀a b,a∈xs->b∈xs->R a b->∀x∈f a,∀y∈f b,S x y):(xs.flatMap f).Pairwise S:=by
 induction xs with
 |nil=>simp
 |cons a r ih =>
  rw[jR]at e;rw[flatMap_cons,pairwise_append];refine⟨h a sT,ih e.2 (λb d=>h b (by simp[d])) (λb c d j=>i b c (by simp[d]) (by simp[j])),?_⟩;intro x k y g;obtain⟨b,d,g⟩:=mem_flatMap.1 g;exact i a b sT (by simp[d]) (e.1 b d) x k y g
theorem Yg{A:Type}{no:A->Int}{n:Int}{f:A->A}(a:∀x,no (f x)=no x)(xs:List A):(BZ no n f xs).map no=xs.map no:=by
 induction xs with
 |nil=>rfl
 |cons x r ih=>simp only[BZ];split<;>simp[ih,a]
theorem Va{A:Type}{no:A->Int}{n:Int}{f:A->A}{xs:List A}{y:A}(h:y∈BZ no n f xs):y∈xs\/∃x∈xs,y=f x:=by
 induction xs with
 |nil=>cases h
 |cons x r ih =>
  simp only[BZ]at h;split at h
  ·rcases mem_cons.1 h with rfl|h
   ·exact .inr ⟨x,by simp,rfl⟩
   ·exact .inl (by simp[h])
  ·rcases mem_cons.1 h with rfl|h
   ·exact .inl sT
   ·rcases ih h with h| ⟨z,hz,rfl⟩
    ·exact .inl (by simp[h])
    ·exact .inr ⟨z,by simp[hz],rfl⟩
def T'{A:Type}{no:A->Int}{xs d:List A}(h:d.map no=xs.map no)(e:xs.Pairwise (λa b=>no a<no b)):d.Pairwise (λa b=>no a<no b):=by
 have c:(xs.map no).Pairwise (λa b=>a<b):=pairwise_map.2 e;rw[<-h]at c;exact pairwise_map.1 c
def XT{A:Type}{no:A->Int}{n:Int}{xs a:List A}(h:a.map no=xs.map no):decide (0<=lT no n a)=decide (0<=lT no n xs):=by
 rw[zH,zH];have e:∀l:List A,l.any (λx=>no x==n)=(l.map no).any (λx=>x==n):=λl=>by simp[any_map,Function.comp_def]
 rw[e,e,h]
theorem U8{A:Type}{no:A->Int}{n w:Int}{f:A->A}{z:A}(d:∀x,no (f x)=no x)(xs:List A):jS no w z (BZ no n f xs)=if w=n/\(∃x∈xs,no x=n)then f (jS no w z xs)else jS no w z xs:=by
 induction xs with
 |nil=>simp[BZ,jS]
 |cons x r ih =>
  simp only[BZ];split
  ·rename_i b;simp only[jS,d];by_cases c:w=n
   ·subst c;rw[au b,au b,au ⟨rfl,x,by simp,b⟩]
   ·rw[aq (λh=>c (h.symm.trans b)),aq (λh=>c h.1),aq (λh=>c (h.symm.trans b))]
  ·rename_i b;simp only[jS,ih];by_cases a:no x=w
   ·rw[au a,au a,aq];rintro⟨rfl,_⟩;exact b a
   ·rw[aq a,aq a];congr 1;simp only[mem_cons,exists_eq_or_imp,b,false_or]
def fF{r:ay}:r.okB=true↔((∀x∈r.ms,x.ok=true)/\r.ms.Pairwise (λa b=>a.no<b.no))/\((∀x∈r.ns,x.ok=true)/\r.ns.Pairwise (λa b=>a.no<b.no))/\((∀x∈r.xs,x.ok=true)/\r.xs.Pairwise (λa b=>a.a<b.a)):=by
 simp only[ay.okB,cU,ZV,and_assoc]
def uS{x:av}(h:x.ok=true):(1<=x.no/\x.no<=16)/\(1<=x.state/\x.state<=3)/\0<=x.need/\x.need<=4611686018427387904:=by
 simp only[av.ok,within,bA,cU,bO]at h;omega
def EJ{x:aF}(h:x.ok=true):(1<=x.no/\x.no<=8)/\(0<=x.cur/\x.cur<=2)/\(1<=x.mult/\x.mult<=1024):=by
 simp only[aF.ok,within,cU,bO]at h;omega
def Jk{x:aD}(h:x.ok=true):(1<=x.a/\x.a<=6)/\(0<=x.b/\x.b<=2)/\(1<=x.c/\x.c<=1073741824):=by
 simp only[aD.ok,within,cU,bO]at h;omega
def yp{r:ay}{w:Int}:gp r w=true↔∃x∈r.ms,x.no=w:=yz
def zf{r:ay}{w:Int}:bE r w=true↔∃x∈r.ns,x.no=w:=yz
def Yv{r:ay}{w:Int}:o7 r w=true↔∃x∈r.xs,x.a=w:=yz
def GA{r:ay}{w:Int}(h:gp r w=true):fj r w∈r.ms/\(fj r w).no=w:=B9 (yp.1 h)
def vr{r:ay}{w:Int}(h:bE r w=true):aU r w∈r.ns/\(aU r w).no=w:=B9 (zf.1 h)
def tc{r:ay}(h:r.okB=true){w:Int}:bF r w≠0↔gp r w=true:=by
 constructor
 ·intro c;cases a:gp r w
  ·exact absurd (show bF r w=0 from by
    unfold bF fj;rw[Ca]
    ·rfl
    ·intro x d b
     rw[yp.2 ⟨x,d,b⟩]at a;cases a) c
  ·rfl
 ·intro a;have:=uS ((fF.1 h).1.1 _ (GA a).1);unfold bF;omega
def xH{r:ay}(h:r.okB=true){w:Int}(b:bF r w≠0):(1<=bF r w/\bF r w<=3)/\1<=w/\w<=16:=by
 have a:=GA ((tc h).1 b);have:=uS ((fF.1 h).1.1 _ a.1);rw[a.2]at this;unfold bF;omega
def K9{A:Type}{no:A->Int}{z m:A}{xs:List A}{N:Nat}{f:Nat->List A}(n:xs.Pairwise (λa b=>no a<no b))(c:∀x∈xs,1<=no x/\no x<=N)(hm:1<=no m/\no m<=N)
  (d:∀i:Nat,i<N->f i=if(i:Int)+1=no m then[m]else if decide (0<=lT no ((i:Int)+1) xs)=true then[jS no ((i:Int)+1) z xs]else[]) :
  (n6 f N).Pairwise (λa b=>no a<no b)/\∀x,x∈n6 f N↔x=m\/(x∈xs/\no x≠no m):=by
 refine⟨Wm (key:=no) (λi g=>?_) (λi g x c=>?_),λx=>?_⟩
 ·rw[d i g];split
  ·simp
  ·split<;>simp
 ·rw[d i g]at c;split at c
  ·rename_i h;simp only[iD]at c;rw[c,h]
  ·split at c
   ·rename_i h;simp only[iD]at c;rw[c];exact(B9 (yz.1 h)).2
   ·cases c
 ·rw[jf];constructor
  ·rintro⟨i,g,h⟩;rw[d i g]at h;split at h
   ·simp only[iD]at h;exact .inl h
   ·rename_i k;split at h
    ·rename_i l;simp only[iD]at h;have j:=B9 (z:=z) (yz.1 l);rw[<-h]at j;exact .inr ⟨j.1,by rw[j.2];exact k⟩
    ·cases h
  ·rintro(rfl| ⟨h1,h2⟩)
   ·refine⟨(no x-1).toNat,by omega,?_⟩;rw[d _ aj,au aj];simp
   ·have hr:=c x h1;refine⟨(no x-1).toNat,by omega,?_⟩;have e:(((no x-1).toNat:Nat):Int)+1=no x:=aj
    rw[d _ aj,e,aq h2,au (yz.2 ⟨x,h1,rfl⟩),y9 n h1 rfl];simp
structure ay.ext(r r':ay):Prop where
 st:∀w,bF r w≠0->bF r' w=bF r w
 inst:∀n,bE r n=true->bE r' n=true
 same:∀n,bE r n=true->(aU r' n).mult=(aU r n).mult/\(aU r' n).cur=(aU r n).cur
 ast:∀n,o7 r n=true->o7 r' n=true
def aa1{r:ay}{w n:Int}(h:n9 r w n=0):(qj r w n).okB=true/\r.ext (qj r w n):=by
 unfold qj;rw[au h];unfold n9 at h;split at h
 case isFalse=>cases h
 rename_i hr;split at h
 case isFalse=>cases h
 rename_i j;split at h
 ·cases h
 rename_i b;have g:=hr;rw[fF]at hr;obtain⟨⟨o1,k⟩,h2,h3⟩:=hr;have d:=uS j;dsimp only at d
 have p:=K9 (no:=av.no) (z:=av.zero) (m:=⟨w,1,n⟩) (N:=16) (f:=PW r ⟨w,1,n⟩) k (λx a=>by have:=uS (o1 x a);omega) (by dsimp only;omega) (by
  intro i _;unfold PW;dsimp only;by_cases e:(i:Int)+1=w
  ·rw[e,aq b];simp
  ·have o:((i:Int)+1==w)=false:=su e;rw[o,aq e];simp only[gp,fj,iI,if_false,append_nil]
   rfl)
 obtain⟨q,l⟩:=p;refine⟨fF.2 ⟨⟨λx a=>?_,q⟩,h2,h3⟩,⟨λv c=>?_,λ_ h=>h,λ_ _=>⟨rfl,rfl⟩,λ_ h=>h⟩⟩
 ·rcases(l x).1 a with rfl|h
  ·exact j
  ·exact o1 x h.1
 ·have c:=(tc g).1 c;unfold bF fj;congr 1;refine Ol k λx a=>?_;rw[l x];constructor
  ·rintro(rfl|h)
   ·dsimp only at a;rw[a]at b;exact absurd c b
   ·exact h.1
  ·intro h;refine .inr ⟨h,?_⟩;dsimp only;rintro rfl;rw[a]at b;exact b c
def ae6{r:ay}{i:aF}(h:tT r i=0):(vB r i).okB=true/\r.ext (vB r i):=by
 unfold vB;rw[au h];unfold tT at h;split at h
 case isFalse=>cases h
 rename_i hr;split at h
 case isFalse=>cases h
 rename_i j;split at h
 ·cases h
 rename_i b;rw[fF]at hr;obtain⟨p,⟨o1,l⟩,h3⟩:=hr;have hmk:=EJ j
 have q:=K9 (no:=aF.no) (z:=aF.zero) (m:=i.bare) (N:=8) (f:=M1 r i.bare) l (λx a=>by have:=EJ (o1 x a);omega) aj (by
  intro k _;unfold M1;by_cases e:(k:Int)+1=i.bare.no
  ·have e2:bE r ((k:Int)+1)=false:=by
    rw[e];have:bE r i.bare.no=bE r i.no:=rfl;rw[this];simpa using b
   rw[e2,e];simp
  ·have o:((k:Int)+1==i.bare.no)=false:=su e;rw[o,aq e];simp only[bE,aU,iI,if_false,append_nil]
   rfl)
 obtain⟨s,g⟩:=q;refine⟨fF.2 ⟨p,⟨λx a=>?_,s⟩,h3⟩,⟨λ_ _=>rfl,λn c=>?_,λn c=>?_,λ_ h=>h⟩⟩
 ·rcases(g x).1 a with rfl|h
  ·exact j
  ·exact o1 x h.1
 ·rw[zf]at c |-;obtain⟨x,a,d⟩:=c;refine⟨x,(g x).2 (.inr ⟨a,λe=>b ?_⟩),d⟩;rw[zf];exact⟨x,a,e⟩
 ·have e:aU (⟨r.ms,n6 (M1 r i.bare) 8,r.xs⟩:ay) n=aU r n:=by
   unfold aU;refine Ol l λx a=>?_;rw[g x];constructor
   ·rintro(rfl|h)
    ·have a:i.no=n:=a;rw[a]at b;exact absurd c b
    ·exact h.1
   ·intro h;refine .inr ⟨h,λe=>b ?_⟩;rw[zf];exact⟨x,h,e⟩
  rw[e];exact⟨rfl,rfl⟩
def aeR{r:ay}{a:aD}(h:tN r a=0):(vp r a).okB=true/\r.ext (vp r a):=by
 unfold vp;rw[au h];unfold tN at h;split at h
 case isFalse=>cases h
 rename_i hr;split at h
 case isFalse=>cases h
 rename_i b;rw[cU]at b;have b:=b.1;rw[fF]at hr;obtain⟨l,o,⟨o1,q⟩⟩:=hr;have hmk:=Jk b
 have p:=K9 (no:=aD.a) (z:=(⟨0,0,0,0⟩:aD)) (m:=a) (N:=6) (f:=Qs r a) q (λx c=>by have:=Jk (o1 x c);omega) aj (by
  intro k _;unfold Qs;by_cases e:(k:Int)+1=a.a
  ·rw[e];simp
  ·have j:((k:Int)+1==a.a)=false:=su e;rw[j,aq e];simp only[o7,qk,iI,if_false]
   rfl)
 obtain⟨s,g⟩:=p;refine⟨fF.2 ⟨l,o,⟨λx c=>?_,s⟩⟩,⟨λ_ _=>rfl,λ_ h=>h,λ_ _=>⟨rfl,rfl⟩,λn i=>?_⟩⟩
 ·rcases(g x).1 c with rfl|h
  ·exact b
  ·exact o1 x h.1
 ·rw[Yv]at i |-;obtain⟨x,c,d⟩:=i;by_cases e:x.a=a.a
  ·exact⟨a,(g a).2 (.inl rfl),by rw[<-e];exact d⟩
  ·exact⟨x,(g x).2 (.inr ⟨c,e⟩),d⟩
def af7{x:aF}{p:Int}(h:x.ok=true)(hp:1<=p/\p<=1073741824):(x.told p).ok=true:=by
 have e:(x.told p).RR=x.RR:=by
  have:(x.told p).sh=x.sh:=by funext i;rcases i with _| _| _| _| _|i<;>rfl
  simp only[aF.RR,this]
 have e2:(x.told p).ok=(x.RR&&within x.no 1 8&&within x.cur 0 2&&within x.mult 1 1024&&within x.add 0 1073741824&&within p 0 1073741824&&within x.aS 0 1073741824):=by
  unfold aF.ok;rw[e];rfl
 rw[e2];simp only[aF.ok,within,cU,bO]at h |-;obtain⟨⟨⟨⟨⟨⟨a,b⟩,h2⟩,h3⟩,h4⟩,h5⟩,h6⟩:=h;exact⟨⟨⟨⟨⟨⟨a,b⟩,h2⟩,h3⟩,h4⟩,⟨by omega,by omega⟩⟩,h6⟩
def af'{x:aF}(h:x.ok=true):x.mY.ok=true:=by
 unfold aF.mY;split
 ·exact h
 rename_i a;have a:x.set≠0:=su a;have e:aF.RR { x with aS:=x.set,set:=0 }=x.RR:=by
  have:aF.sh { x with aS:=x.set,set:=0 }=x.sh:=by funext i;rcases i with _| _| _| _| _|i<;>rfl
  simp only[aF.RR,this]
 have e2:aF.ok { x with aS:=x.set,set:=0 }=(x.RR&&within x.no 1 8&&within x.cur 0 2&&within x.mult 1 1024&&within x.add 0 1073741824&&within 0 0 1073741824&&within x.set 0 1073741824):=by
  unfold aF.ok;rw[e]
 rw[e2];simp only[aF.ok,within,cU,bO]at h |-;obtain⟨⟨⟨⟨⟨⟨b,c⟩,h2⟩,h3⟩,h4⟩,h5⟩,h6⟩:=h;exact⟨⟨⟨⟨⟨⟨b,c⟩,h2⟩,h3⟩,h4⟩,⟨by omega,by omega⟩⟩,h5⟩
def RM(x:aF):x.mY.no=x.no:=by unfold aF.mY;split<;>rfl
def af4{r:ay}{n p:Int}(h:Dg r n p=0):(Dh r n p).okB=true/\r.ext (Dh r n p):=by
 unfold Dh;rw[au h];unfold Dg at h;split at h
 case isFalse=>cases h
 rename_i hr;split at h
 case isFalse=>cases h
 split at h
 case isFalse=>cases h
 rename_i c;simp only[within,cU,bO]at c;rw[fF]at hr;obtain⟨d,⟨o1,g⟩,h3⟩:=hr;have a:=Yg (no:=aF.no) (n:=n) (f:=aF.told p) (λ_=>rfl) r.ns;refine⟨fF.2 ⟨d,⟨λx e=>?_,T' a g⟩,h3⟩,⟨λ_ _=>rfl,λm b=>?_,λm b=>?_,λ_ h=>h⟩⟩
 ·rcases Va e with h| ⟨y,hy,rfl⟩
  ·exact o1 x h
  ·exact af7 (o1 y hy) c
 ·unfold bE at b |-;rw[<-b];exact XT a
 ·unfold aU;dsimp only;rw[U8 (no:=aF.no) (f:=aF.told p) (λ_=>rfl)];split<;>exact⟨rfl,rfl⟩
def Md{r:ay}(hr:r.okB=true):(sB r).okB=true/\r.ext (sB r):=by
 rw[fF]at hr;obtain⟨d,⟨o1,c⟩,h3⟩:=hr;have a:(r.ns.map aF.mY).map aF.no=r.ns.map aF.no:=by
  rw[map_map];exact map_congr_left λx _=>RM x
 refine⟨fF.2 ⟨d,⟨λx f=>?_,T' a c⟩,h3⟩,⟨λ_ _=>rfl,λm b=>?_,λm b=>?_,λ_ h=>h⟩⟩
 ·obtain⟨y,g,rfl⟩:=mem_map.1 f;exact af' (o1 y g)
 ·unfold bE at b |-;rw[<-b];exact XT a
 ·obtain⟨i,j⟩:=vr b;have e:aU (sB r) m=(aU r m).mY:=y9 (no:=aF.no) (T' a c) (mem_map.2 ⟨_,i,rfl⟩) (by rw[RM];exact j);rw[e];unfold aF.mY;split<;>exact⟨rfl,rfl⟩
def La{r:ay}{n p:Int}(h:CM r n p=0):(jU r n p).okB=true/\(∀w,bF (jU r n p) w=if w=n then p else bF r w)/\(jU r n p).ns=r.ns/\(jU r n p).xs=r.xs:=by
 unfold jU;rw[au h];unfold CM at h;split at h
 case isFalse=>cases h
 rename_i hr;split at h
 case isFalse=>cases h
 rename_i d;split at h
 case isFalse=>cases h
 rename_i c;simp only[within,cU,bO]at c;rw[fF]at hr;obtain⟨⟨o1,g⟩,h2,h3⟩:=hr;have b:=Yg (no:=av.no) (n:=n) (f:=av.put p) (λ_=>rfl) r.ms;refine⟨fF.2 ⟨⟨λx e=>?_,T' b g⟩,h2,h3⟩,λw=>?_,rfl,rfl⟩
 ·rcases Va e with h| ⟨y,hy,rfl⟩
  ·exact o1 x h
  ·have:=o1 y hy;have e2:(y.put p).ok=(within y.no 1 16&&within p 1 3&&bA y.need&&decide (0<=y.need)):=rfl;rw[e2];simp only[av.ok,within,cU,bO]at this |-;exact⟨⟨⟨this.1.1.1,c⟩,this.1.2⟩,this.2⟩
 ·unfold bF fj;dsimp only;rw[U8 (no:=av.no) (f:=av.put p) (λ_=>rfl)];by_cases a:w=n
  ·rw[au ⟨a,yp.1 d⟩,au a];rfl
  ·rw[aq (λh=>a h.1),aq a]
def NF{a b:aI}:a.same b=true↔a=b:=by
 obtain⟨a1,a2,a3⟩:=a;obtain⟨b1,b2,b3⟩:=b;simp only[aI.same,cU,fE,aI.mk.injEq]
def Cd{a:aI}{b:bY}:VU a b=true↔b.br=a:=by
 obtain⟨a1,a2,a3⟩:=a;obtain⟨b1,b2,b3,b4⟩:=b;simp only[VU,bY.br,cU,fE,aI.mk.injEq]
def Br{a:aI}(h:a.less a=true):False:=by rw[tS]at h;omega
def tot{A:Type}(L:List A)(F:A->Int):Int:=aC (L.map F)
theorem iU{A:Type}(x:A)(L:List A)(F:A->Int):tot (x::L) F=F x+tot L F:=rfl
theorem wP{A:Type}(L:List A)(F G:A->Int):tot L (λa=>F a+G a)=tot L F+tot L G:=by
 induction L with
 |nil=>rfl
 |cons x r ih=>simp only[iU,ih];omega
theorem lH{A:Type}{L:List A}{F:A->Int}(h:∀a∈L,F a=0):tot L F=0:=by
 induction L with
 |nil=>rfl
 |cons x r ih=>rw[iU,h x sT,ih λa b=>h a (by simp[b])];rfl
theorem iX{A:Type}{L:List A}{F G:A->Int}(h:∀a∈L,F a=G a):tot L F=tot L G:=by
 induction L with
 |nil=>rfl
 |cons x r ih=>rw[iU,iU,h x sT,ih λa b=>h a (by simp[b])]
theorem Cw{A:Type}{L:List A}{R:A->A->Prop}(c:L.Pairwise R){x:A}(b:x∈L){F:A->Int}(d:∀a,(R a x\/R x a)->F a=0):tot L F=F x:=by
 induction L with
 |nil=>cases b
 |cons y r ih =>
  rw[jR]at c;rw[iU];rcases mem_cons.1 b with rfl|b
  ·rw[lH λa e=>d a (.inr (c.1 a e))];omega
  ·rw[ih c.2 b,d y (.inl (c.1 x b))];omega
def PO{k w c:Nat}{x:aI}:x∈acc k w c↔x=⟨(k:Int)+1,w,c⟩/\x.right=true:=by
 unfold acc;split
 ·rename_i h;simp only[iD];constructor
  ·rintro rfl;exact⟨rfl,h⟩
  ·exact λh=>h.1
 ·rename_i h;constructor
  ·intro h;cases h
  ·rintro⟨rfl,a⟩;exact absurd a h
def Jc{k w n:Nat}{x:aI}:x∈FW k w n↔∃c,c<n/\x=⟨(k:Int)+1,w,(c:Nat)⟩/\x.right=true:=by
 rw[show FW k w n=n6 (acc k w) n from rfl,jf];simp only[PO]
def Je{k n:Nat}{x:aI}:x∈FY k n↔∃w,w<n/\∃c,c<3/\x=⟨(k:Int)+1,(w:Nat),(c:Nat)⟩/\x.right=true:=by
 rw[show FY k n=n6 (λw=>FW k w 3) n from rfl,jf];simp only[Jc]
def aaY{n:Nat}{x:aI}:x∈Jd n↔∃k,k<n/\∃w,w<17/\∃c,c<3/\x=⟨((k:Nat):Int)+1,(w:Nat),(c:Nat)⟩/\x.right=true:=by
 rw[show Jd n=n6 (λk=>FY k 17) n from rfl,jf];simp only[Je]
def GR{x:aI}(h:x.right=true):(1<=x.kind/\x.kind<=6)/\(0<=x.who/\x.who<=16)/\0<=x.cur/\x.cur<=2:=by
 unfold aI.right at h;split at h
 ·cases h
 ·split at h
  ·simp only[cU,bO]at h;omega
  ·simp only[fE]at h;omega
def oa{x:aI}:x∈gf↔x.right=true:=by
 unfold gf;rw[aaY];constructor
 ·rintro⟨_,_,_,_,_,_,_,h⟩;exact h
 ·intro h;have:=GR h;refine⟨(x.kind-1).toNat,by omega,x.who.toNat,by omega,x.cur.toNat,by omega,?_,h⟩;obtain⟨a,b,c⟩:=x;dsimp only at this |-;rw[aI.mk.injEq];omega
def uH:gf.Pairwise (λa b=>a.less b=true):=by
 unfold gf;rw[show Jd 6=n6 (λk=>FY k 17) 6 from rfl];refine zI (λk _=>?_) λi j d _ x e y f=>?_
 ·rw[show FY k 17=n6 (λw=>FW k w 3) 17 from rfl];refine zI (λw _=>?_) λi j d _ x e y f=>?_
  ·rw[show FW k w 3=n6 (acc k w) 3 from rfl];refine zI (λc _=>BF (by unfold acc;split<;>simp)) λi j d _ x e y f=>?_;obtain⟨rfl,_⟩:=PO.1 e;obtain⟨rfl,_⟩:=PO.1 f;rw[tS];dsimp only;omega
  ·obtain⟨_,_,rfl,_⟩:=Jc.1 e;obtain⟨_,_,rfl,_⟩:=Jc.1 f;rw[tS];dsimp only;omega
 ·obtain⟨_,_,_,_,rfl,_⟩:=Je.1 e;obtain⟨_,_,_,_,rfl,_⟩:=Je.1 f;rw[tS];dsimp only;omega
def IN(c:Int)(a:aI)(n:Int):Int:=if a.cur=c then n else 0
theorem aeW(c:Int)(b:bY)(n:Int):IN c b.br n=if b.cur=c then n else 0:=rfl
theorem aeX(c:Int)(b:aN)(n:Int):IN c b.br n=if b.cur=c then n else 0:=rfl
theorem ajn(c:Int)(a:aI)(m n:Int):IN c (bY.br ⟨a.kind,a.who,a.cur,m⟩) n=IN c a n:=rfl
def NZ(c:Int)(b:bY)(r:List bY):aC (l6 c (b::r))=IN c b.br b.sum+aC (l6 c r):=by
 rw[aeW];simp only[l6,filter_cons];by_cases h:b.cur=c
 ·rw[au (su h),au h];rfl
 ·rw[aq (su h),aq h];simp
def abe(c:Int)(a b:List bY):l6 c (a++b)=l6 c a++l6 c b:=by simp[l6]
theorem abf(c:Int)(S:aI->Int)(L:List aI):aC (l6 c (L.flatMap λa=>wW a (S a)))=tot L λa=>IN c a (S a):=by
 induction L with
 |nil=>rfl
 |cons x r ih =>
  rw[flatMap_cons,abe,gO,ih,iU];congr 1;unfold wW;split
  ·rename_i h;have h:S x=0:=su h;rw[h];simp[l6,aC,IN]
  ·rw[NZ,ajn];simp[l6,aC]
theorem KL{a:aI}:∀{bs:List bY},(∀b∈bs,b.br≠a)->gw a bs=0
 | [],_=>rfl
 |b::r,h=>by
  simp only[gw];rw[aq (λc=>h b sT (Cd.1 c))];exact KL λx d=>h x (by simp[d])
theorem ads(c:Int):∀{bs:List bY},(∀b∈bs,b.br.right=true)->bs.Pairwise (λx y=>x.br.less y.br=true)->tot gf (λa=>IN c a (gw a bs))=aC (l6 c bs)
 | [],_,_=>lH λa _=>by simp[gw,IN]
 |b::r,h1,h2=>by
  rw[jR]at h2;rw[NZ,<-ads c (λx f=>h1 x (by simp[f])) h2.2];have e:∀a∈gf,IN c a (gw a (b::r))=(if b.br=a then IN c a b.sum else 0)+IN c a (gw a r):=by
   intro a _;simp only[gw];by_cases d:b.br=a
   ·rw[au (Cd.2 d),au d];rw[KL (bs:=r) (λx f g=>by have:=h2.1 x f;rw[d,g]at this;exact Br this)];simp[IN]
   ·rw[aq (λj=>d (Cd.1 j)),aq d];omega
  rw[iX e,wP];congr 1;rw[Cw uH (x:=b.br) (oa.2 (h1 b sT))]
  ·simp
  ·intro a i;rw[aq];rintro rfl;rcases i with h|h<;>exact Br h
def mj(a:aI)(x:aN)(g:List aN):aC (dM a (x::g))=(if x.br=a then x.bT else 0)+aC (dM a g):=by
 simp only[dM,pick,flatMap_cons,gO];congr 1;by_cases h:x.br=a
 ·rw[au (NF.2 h),au h];simp[aC]
 ·rw[aq (λb=>h (NF.1 b)),aq h];rfl
def YI(c:Int)(x:aN)(g:List aN):aC (oN c (x::g))=IN c x.br x.bT+aC (oN c g):=by
 simp only[oN,pick,flatMap_cons,gO];congr 1;rw[aeX];by_cases h:x.cur=c
 ·rw[au (su h),au h];simp[aC]
 ·rw[aq (su h),aq h];rfl
theorem U2(c:Int):∀{g:List aN},(∀x∈g,x.br.right=true)->tot gf (λa=>IN c a (aC (dM a g)))=aC (oN c g)
 | [],_=>lH λa _=>by simp[dM,pick,IN,aC]
 |x::r,h1=>by
  rw[YI,<-U2 c (λy f=>h1 y (by simp[f]))];have e:∀a∈gf,IN c a (aC (dM a (x::r)))=(if x.br=a then IN c a x.bT else 0)+IN c a (aC (dM a r)):=by
   intro a _;rw[mj];by_cases b:x.br=a
   ·rw[au b,au b];simp only[IN];split<;>omega
   ·rw[aq b,aq b];simp only[Int.zero_add]
  rw[iX e,wP];congr 1;rw[Cw uH (x:=x.br) (oa.2 (h1 x sT))]
  ·simp
  ·intro a d;rw[aq];rintro rfl;rcases d with h|h<;>exact Br h
def aa7{bs:List bY}{c:Int}:qm bs c=true↔right (l6 c bs)=true/\aC (l6 c bs)=0:=by
 simp only[qm,oF,pY,cU,fE];constructor
 ·rintro⟨a,b⟩;split at a
  ·rename_i hr;split at a
   ·rename_i d;rw[hr,d]at b;exact⟨hr,su b⟩
   ·cases a
  ·cases a
 ·rintro⟨hr,e⟩;rw[au hr,e,hr];exact⟨rfl,rfl⟩
def sN{l:bu}:l.okB=true↔0<=l.last/\((∀b∈l.bs,o8 b=true)/\l.bs.Pairwise (λx y=>x.br.less y.br=true))/\qm l.bs 0=true/\qm l.bs 1=true/\qm l.bs 2=true:=by
 simp only[bu.okB,cU,QD,bO,and_assoc]
def Gw{l:bu}(h:l.okB=true):∀b∈l.bs,b.br.right=true:=λb a=>by
 have:=(sN.1 h).2.1.1 b a;simp only[o8,cU]at this;exact this.1
def T4{l:bu}{id:Int}{g:List aN}(h:fM l id g=0):l.okB=true/\(1<=id/\id<=1099511627776)/\nL g=0/\wF l g gf=true/\yA l g gf=false:=by
 unfold fM at h;split at h
 case isFalse=>cases h
 rename_i c;split at h
 case isFalse=>cases h
 rename_i b;split at h
 ·cases h
 split at h
 case isFalse a=>exact absurd h a
 rename_i a;split at h
 case isFalse=>cases h
 rename_i d;split at h
 ·cases h
 rename_i e;simp only[within,cU,bO]at b;exact⟨c,b,a,d,su e⟩
def T7{l:bu}{id:Int}{g:List aN}(h:fM l id g=0):(jO l id g).okB=true:=by
 unfold jO;rw[au h];obtain⟨v,h2,z,A,B⟩:=T4 h;obtain⟨E,F,m3⟩:=Jz z;have u:∀x∈g,x.br.right=true:=λx k=>by
  have:=cg.1 E x k;simp only[ON,cU]at this;exact this.1
 have d:=sN.1 v;have p:∀b∈Ig l g gf,∃a∈gf,b=⟨a.kind,a.who,a.cur,rG l g a⟩/\rG l g a≠0:=by
  intro b d;obtain⟨a,j,d⟩:=mem_flatMap.1 d;unfold wW at d;split at d
  ·cases d
  ·rename_i o;simp only[iD]at d;exact⟨a,j,d,su o⟩
 have q:∀a∈gf,bA (rG l g a)=true:=λa j=>cg.1 A a j;have i:∀c:Int,qm l.bs c=true->aC (oN c g)=0->qm (Ig l g gf) c=true:=by
  intro c r C;rw[aa7]at r |-;constructor
  ·refine cg.2 λn w=>?_;simp only[l6,mem_map,mem_filter]at w;obtain⟨b,⟨d,_⟩,rfl⟩:=w;obtain⟨a,j,rfl,_⟩:=p b d;exact q a j
  ·have e:=abf c (rG l g) gf;rw[show Ig l g gf=gf.flatMap λa=>wW a (rG l g a)from rfl,e];have e2:∀a∈gf,IN c a (rG l g a)=IN c a (gw a l.bs)+IN c a (aC (dM a g)):=λa _=>by
    simp only[rG,aC,IN];split<;>omega
   rw[iX e2,wP,ads c (Gw v) d.2.1.2,U2 c u,r.2,C];rfl
 have m:∀c:Nat,c<3->aC (oN c g)=0:=λc r=>by
  have:=cg.1 F c (mem_range.2 r);simpa using this
 refine sN.2 ⟨by dsimp only;omega,⟨λb d=>?_,?_⟩,i 0 d.2.2.1 (m 0 aj),i 1 d.2.2.2.1 (m 1 aj),i 2 d.2.2.2.2 (m 2 aj)⟩
 ·obtain⟨a,j,rfl,o⟩:=p b d;rw[show o8 ⟨a.kind,a.who,a.cur,rG l g a⟩=(a.right&&(bA (rG l g a)&&(rG l g a != 0&&!decide (rG l g a<a.floor))))from rfl];simp only[cU,bne_iff_ne,iN,gP];refine⟨oa.1 j,q a j,o,λt=>?_⟩;have:yA l g gf=true:=any_eq_true.2 ⟨a,j,su t⟩;rw[B]at this;cases this
 ·refine Q1 (f:=λa=>wW a (rG l g a)) uH (λa _=>BF (Sa _ _)) λa b _ _ s x k y D=>?_;have key:∀(a:aI)(x:bY),x∈wW a (rG l g a)->x.br=a:=λa x k=>by
   unfold wW at k;split at k
   ·cases k
   ·simp only[iD]at k;rw[k];rfl
  rw[key a x k,key b y D];exact s
def O8{l:bu}{g:List aN}{e:Int}(h:l.okB=true)(a:(gD l g e).2=0):(gD l g e).1.okB=true:=by
 unfold gD at a |-;split
 ·rename_i b;rw[au b]at a;exact T7 a
 ·exact h
def sS{a b:aE}:lC a b=true↔a.who<b.who\/(a.who=b.who/\a.inst<b.inst):=by
 simp only[lC,MU,Bool.or_eq_true,cU,bO,fE]
def acJ{a b c:aE}(d:lC a b=true)(e:lC b c=true):lC a c=true:=by
 simp only[lC,MU,Bool.or_eq_true,cU,bO,fE]at d e |-;omega
def WS{a b c:aT}(d:iR a b=true)(e:iR b c=true):iR a c=true:=by
 simp only[iR,bO]at d e |-;omega
def Kx{n:Int}{l:List aE}:rz n l=true↔right (fB n l)=true/\aC (fB n l)=0:=by
 simp only[rz,oF,pY,cU,fE];constructor
 ·rintro⟨a,b⟩;split at a
  ·rename_i hr;split at a
   ·rename_i c;rw[hr,c]at b;exact⟨hr,su b⟩
   ·cases a
  ·cases a
 ·rintro⟨hr,d⟩;rw[au hr,d,hr];exact⟨rfl,rfl⟩
def jG{p:aE}:p.okB=true↔(1<=p.who/\p.who<=16)/\(1<=p.inst/\p.inst<=8)/\(-1099511627776<=p.aQ/\p.aQ<=1099511627776)/\bA p.cost=true/\¬(p.aQ=0/\p.cost=0):=by
 simp only[aE.okB,vv,within,cU,bO,iN,Bool.and_eq_false_iff,beq_eq_false_iff_ne,ne_eq];constructor
 ·rintro⟨⟨b,c⟩,d,e,a⟩;exact⟨b,c,d,e,λh=>by rcases a with a|a<;>omega⟩
 ·rintro⟨b,c,d,e,a⟩;refine⟨⟨b,c⟩,d,e,?_⟩;omega
structure aJ.right(b:aJ):Prop where
 ok:∀p∈b.qs,p.okB=true
 pw:b.qs.Pairwise (λx y=>lC x y=true)
 level:∀n:Int,1<=n->n<=8->aC (fB n b.qs)=0
 tok:∀t∈b.ts,ji b.next t=true
 tpw:b.ts.Pairwise (λx y=>x.no<y.no)
 tl:b.ts.length<=128
 n0:0<=b.next
 n1:b.next<=1099511627776
def dY{b:aJ}:b.okB=true↔b.right:=by
 simp only[aJ.okB,cU,tA (lt:=lC) acJ,tA (lt:=iR) WS,iN,gP,qw,cg,Kx];constructor
 ·rintro⟨⟨c,d⟩,⟨h3,h4⟩,h5,h6,h7,h8⟩;refine⟨c,d,λn hn hn2=>?_,h3,h4.imp λh=>by simpa[iR]using h,by omega,by omega,by omega⟩;have:=(h5 (n-1).toNat (mem_range.2 aj)).2;rwa[show(((n-1).toNat:Nat):Int)+1=n by omega]at this
 ·intro h;refine⟨⟨h.ok,h.pw⟩,⟨h.tok,h.tpw.imp λh=>by simpa[iR]using h⟩,λi e=>⟨?_,h.level _ aj (by have:=mem_range.1 e;omega)⟩,by have:=h.tl;omega,by have:=h.n0;omega,by have:=h.n1;omega⟩;refine cg.2 λq a=>?_;simp only[fB,mem_map,mem_filter]at a;obtain⟨p,⟨f,_⟩,rfl⟩:=a;have:=(jG.1 (h.ok p f)).2.2.1;rw[bf];omega
def Pc(n:Int)(a b:List aE):fB n (a++b)=fB n a++fB n b:=by simp[fB]
def sU(n:Int)(p:aE)(r:List aE):aC (fB n (p::r))=(if p.inst=n then p.aQ else 0)+aC (fB n r):=by
 simp only[fB,filter_cons];by_cases h:p.inst=n
 ·rw[au (su h),au h];rfl
 ·rw[aq (su h),aq h];simp
theorem DK{A:Type}(n:Int)(f:A->List aE)(L:List A):aC (fB n (L.flatMap f))=tot L (λa=>aC (fB n (f a))):=by
 induction L with
 |nil=>rfl
 |cons x r ih=>rw[flatMap_cons,Pc,gO,ih];rfl
def ZO(b:aJ)(g:List aE)(w m n:Int):aC (fB n (ID b g w m))=if m=n then CP b g w m else 0:=by
 unfold ID;split
 ·rename_i h;simp only[cU,fE]at h;rw[h.1];split<;>rfl
 ·rw[sU];simp[fB,aC]
def Ua(n:Nat):(range n).Pairwise (λa b=>a<b):=pairwise_lt_range
def ZN(b:aJ)(g:List aE)(w n:Int)(h1:1<=n)(h8:n<=8):aC (fB n (Mq b g w 8))=CP b g w n:=by
 unfold Mq;rw[DK];have e:∀k∈range 8,aC (fB n (ID b g w ((k:Int)+1)))=if(k:Int)+1=n then CP b g w n else 0:=λk _=>by
  rw[ZO];split
  ·rename_i h;rw[h]
  ·rfl
 rw[iX e,Cw (Ua 8) (x:=(n-1).toNat) (mem_range.2 aj)]
 ·rw[au aj]
 ·intro a ha;rw[aq aj]
def ZP(b:aJ)(g:List aE)(n:Int)(a:1<=n)(c:n<=8):aC (fB n (AG b g 16))=tot (range 16) (λk=>CP b g ((k:Int)+1) n):=by
 unfold AG;rw[DK];exact iX λk _=>ZN b g _ n a c
def mq{w n:Int}{p:aE}:cZ w n p=true↔p.who=w/\p.inst=n:=by simp only[cZ,cU,fE]
theorem iW{w n:Int}:∀{qs:List aE},(∀p∈qs,¬(p.who=w/\p.inst=n))->posOf w n qs=⟨w,n,0,0⟩
 | [],_=>rfl
 |p::r,h=>by
  simp only[posOf];rw[aq (by simp only[cZ,cU,fE];exact h p sT)];exact iW λx a=>h x (by simp[a])
theorem tY{w n:Int}{qs:List aE}(b:qs.Pairwise (λx y=>lC x y=true)){p:aE}(a:p∈qs)(c:p.who=w/\p.inst=n):posOf w n qs=p:=by
 induction qs with
 |nil=>cases a
 |cons y r ih =>
  rw[jR]at b;simp only[posOf];rcases mem_cons.1 a with rfl|a
  ·rw[au (by simp only[cZ,cU,fE];exact c)]
  ·have:=b.1 p a;rw[aq]
   ·exact ih b.2 a
   ·simp only[lC,MU,Bool.or_eq_true,cU,bO,fE]at this;simp only[cZ,cU,fE];omega
def ahL{w v:Int}(h:1<=w/\w<=16):tot (range 16) (λk=>if w=(k:Int)+1 then v else 0)=v:=by
 rw[Cw (Ua 16) (x:=(w-1).toNat) (mem_range.2 aj)]
 ·rw[au aj]
 ·intro a ha;rw[aq aj]
theorem adu(n:Int):∀{qs:List aE},(∀p∈qs,1<=p.who/\p.who<=16)->qs.Pairwise (λx y=>lC x y=true)->tot (range 16) (λk=>(posOf ((k:Int)+1) n qs).aQ)=aC (fB n qs)
 | [],_,_=>lH λa _=>rfl
 |p::r,h1,h2=>by
  rw[jR]at h2;rw[sU,<-adu n (λx d=>h1 x (by simp[d])) h2.2];have e:∀k∈range 16,(posOf ((k:Int)+1) n (p::r)).aQ=(if p.who=(k:Int)+1 then(if p.inst=n then p.aQ else 0)else 0)+(posOf ((k:Int)+1) n r).aQ:=by
   intro k _;simp only[posOf];by_cases c:p.who=(k:Int)+1
   ·rw[au c];by_cases b:p.inst=n
    ·rw[au b,au (mq.2 ⟨c,b⟩)];rw[iW (qs:=r)]
     ·simp
     ·intro x d hk;have:=h2.1 x d;simp only[lC,MU,Bool.or_eq_true,cU,bO,fE]at this;omega
    ·rw[aq b,aq (λh=>b (mq.1 h).2)];omega
   ·rw[aq c,aq (λh=>c (mq.1 h).1)];omega
  rw[iX e,wP,ahL (h1 p sT)]
def nJ{A:Type}(q:A->Bool)(f:A->Int)(x:A)(r:List A):aC (pick q f (x::r))=(if q x=true then f x else 0)+aC (pick q f r):=by
 simp only[pick,flatMap_cons,gO];congr 1;split
 ·simp[aC]
 ·rfl
theorem U3(n:Int)(f:aE->Int):∀{g:List aE},(∀p∈g,1<=p.who/\p.who<=16)->tot (range 16) (λk=>aC (pick (cZ ((k:Int)+1) n) f g))=aC (pick (λp=>p.inst==n) f g)
 | [],_=>lH λa _=>rfl
 |p::r,h1=>by
  rw[nJ,<-U3 n f (λx d=>h1 x (by simp[d]))];have e:∀k∈range 16,aC (pick (cZ ((k:Int)+1) n) f (p::r))=(if p.who=(k:Int)+1 then(if(p.inst==n)=true then f p else 0)else 0)+aC (pick (cZ ((k:Int)+1) n) f r):=by
   intro k _;rw[nJ];congr 1;by_cases c:p.who=(k:Int)+1
   ·rw[au c];by_cases b:p.inst=n
    ·rw[au (mq.2 ⟨c,b⟩),au (su b)]
    ·rw[aq (λh=>b (mq.1 h).2),aq (su b)]
   ·rw[aq c,aq (λh=>c (mq.1 h).1)]
  rw[iX e,wP,ahL (h1 p sT)]
def afv{p:aE}(h:mK p=true):(1<=p.who/\p.who<=16)/\(1<=p.inst/\p.inst<=8):=by
 simp only[mK,vv,within,cU,bO]at h;exact h.1
def qV{b:aJ}{g:List aE}{w n:Int}{p:aE}(h:p∈ID b g w n):p=⟨w,n,CP b g w n,Mp b g w n⟩/\¬(CP b g w n=0/\Mp b g w n=0):=by
 unfold ID at h;split at h
 ·cases h
 ·rename_i a;simp only[cU,fE]at a;exact⟨iD.1 h,a⟩
def aed{b:aJ}{g:List aE}{p:aE}(h:p∈AG b g 16):(∃q∈b.qs,q.who=p.who/\q.inst=p.inst)\/(∃q∈g,q.who=p.who/\q.inst=p.inst):=by
 obtain⟨k,m,_,_,d⟩:=uG h;obtain⟨rfl,c⟩:=qV d;dsimp only;by_cases e:∃q∈b.qs,q.who=(k:Int)+1/\q.inst=(m:Int)+1
 ·exact .inl e
 by_cases i:∃q∈g,q.who=(k:Int)+1/\q.inst=(m:Int)+1
 ·exact .inr i
 exfalso;have j:=iW (w:=(k:Int)+1) (n:=(m:Int)+1) (qs:=b.qs) λp d a=>e ⟨p,d,a⟩;have e2:∀f:aE->Int,pick (cZ ((k:Int)+1) ((m:Int)+1)) f g=[]:=λf=>by
  unfold pick;rw[flatMap_eq_nil_iff];intro x l;rw[aq];simp only[cZ,cU,fE];exact λa=>i ⟨x,l,a⟩
 apply c;unfold CP Mp;rw[j,e2,e2];exact⟨rfl,rfl⟩
def FZ(b:aJ)(g:List aE):(AG b g 16).Pairwise (λx y=>lC x y=true):=by
 rw[show AG b g 16=n6 (λk=>Mq b g ((k:Int)+1) 8) 16 from rfl];refine zI (λk _=>?_) λi j d _ x a y c=>?_
 ·rw[show Mq b g ((k:Int)+1) 8=n6 (λm=>ID b g ((k:Int)+1) ((m:Int)+1)) 8 from rfl];refine zI (λm _=>BF (by unfold ID;split<;>simp)) λi j d _ x a y c=>?_;rw[(qV a).1,(qV c).1];rw[sS];dsimp only;omega
 ·obtain⟨m,_,a⟩:=mem_flatMap.1 a;obtain⟨m2,_,c⟩:=mem_flatMap.1 c;rw[(qV a).1,(qV c).1];rw[sS];dsimp only;omega
def F0{b:aJ}{g:List aE}(h:kR b g=0):(∀p∈AG b g 16,p.okB=true)/\∀n:Int,1<=n->n<=8->aC (fB n (AG b g 16))=0:=by
 obtain⟨l,o,q⟩:=F4 h;have i:=dY.1 (qX h).1;refine⟨λp c=>?_,λn d f=>?_⟩
 ·obtain⟨k,m,r,s,c⟩:=uG c;have a:=Jg q r s;obtain⟨rfl,j⟩:=qV c;simp only[xQ,within,cU,bO]at a;rw[jG];dsimp only;exact⟨by omega,by omega,a.2.2,a.2.1,j⟩
 ·rw[ZP _ _ _ d f];have e:∀k∈range 16,CP b g ((k:Int)+1) n=(posOf ((k:Int)+1) n b.qs).aQ+aC (pick (cZ ((k:Int)+1) n) aE.aQ g):=λk _=>rfl;rw[iX e,wP,adu n (λp c=>(jG.1 (i.ok p c)).1) i.pw,U3 n aE.aQ (λp c=>(afv (cg.1 l p c)).1),i.level n d f];have:=cg.1 o (n-1).toNat (mem_range.2 aj);rw[show(((n-1).toNat:Nat):Int)+1=n by omega]at this;simpa using this
def W9{b:aJ}{g:List aE}(h:kR b g=0):(qW b g).okB=true:=by
 have a:=dY.1 (qX h).1;rw[(qX h).2];obtain⟨c,d⟩:=F0 h;exact dY.2 ⟨c,FZ b g,d,a.tok,a.tpw,a.tl,a.n0,a.n1⟩
def YT{b:aJ}{t:aT}(h:kU b t=0):b.okB=true/\t.okB=true/\b.ts.length<128/\b.next≠1099511627776/\kR b (mm t false)=0:=by
 unfold kU at h;split at h
 case isFalse=>cases h
 rename_i a;split at h
 case isFalse=>cases h
 rename_i c;split at h
 ·cases h
 rename_i h3;split at h
 ·cases h
 rename_i d;exact⟨a,c,by omega,d,h⟩
def N7{b:aJ}{t:aT}(h:kU b t=0):(om b t).okB=true:=by
 obtain⟨e,f,h3,h4,g⟩:=YT h;have d:=dY.1 e;obtain⟨j,k⟩:=F0 g;have n0:=d.n0;have n1:=d.n1;have c:∀x∈b.ts,(1<=x.no/\x.no<=b.next)/\x.okB=true:=λx a=>by
  have:=d.tok x a;simp only[ji,cU,iN,gP]at this;exact⟨by omega,this.1⟩
 unfold om;rw[au h];refine dY.2 ⟨j,FZ _ _,k,λx a=>?_,?_,by dsimp only;simp;omega,by dsimp only;omega,by dsimp only;omega⟩
 ·simp only[ji,cU,iN,gP];rcases mem_append.1 a with a|a
  ·have:=c x a;exact⟨this.2,by omega,by omega⟩
  ·obtain rfl:=iD.1 a;exact⟨f,by dsimp only;omega,by dsimp only;omega⟩
 ·dsimp only;rw[pairwise_append];refine⟨d.tpw,by simp,λx a y i=>?_⟩;obtain rfl:=iD.1 i;have:=c x a;dsimp only;omega
def JX{b:aJ}{n:Int}(h:¬l8 n b.ts<0):fS n b.ts∈b.ts/\(l8 n b.ts).toNat<b.ts.length/\b.ts[(l8 n b.ts).toNat]?=some (fS n b.ts):=by
 obtain⟨i,a,c,_⟩:=Ba h;unfold fS;rw[c,Int.toNat_natCast,getD_eq_getElem?_getD,gF a];exact⟨dH a,a,rfl⟩
def VB{b:aJ}{n:Int}(h:jd b n=0):(iE b n).okB=true:=by
 obtain⟨d,e,f⟩:=yW h;have a:=dY.1 d;obtain⟨m,o⟩:=F0 f;obtain⟨i,k,l⟩:=JX e;unfold iE;rw[au h];refine dY.2 ⟨m,FZ _ _,o,λx c=>?_,?_,by dsimp only;simp only[Zv,length_set];exact a.tl,a.n0,a.n1⟩
 ·rcases mem_or_eq_of_mem_set c with c|rfl
  ·exact a.tok x c
  ·exact(show ji b.next (fS n b.ts)=true from a.tok _ i)
 ·refine T' (no:=aT.no) ?_ a.tpw;dsimp only;unfold Zv;rw[map_set];refine ext_getElem? λj=>?_;rw[getElem?_set];split
  ·rename_i g;subst g;rw[getElem?_map,l];simp[k]
  ·rfl
def Hg{b:aJ}{n q p:Int}(h:xX b n q p=0):jd b n=0/\kU (iE b n) { fS n b.ts with aQ:=q,aS:=p }=0:=by
 unfold xX at h;split at h
 ·exact⟨by assumption,h⟩
 ·rename_i a;exact absurd h a
def Sv{b:aJ}{n q p:Int}(h:xX b n q p=0):(xW b n q p).okB=true:=by
 obtain⟨a,c⟩:=Hg h;unfold xW;rw[au a];exact N7 c
theorem Uy{r:ay}:∀{l:List aE},lG r l=0->∀p∈l,yJ r p=0
 | [],_,_,h=>by cases h
 |q::t,h,p,hp=>by
  simp only[lG]at h;split at h
  ·rcases mem_cons.1 hp with rfl|hp
   ·assumption
   ·exact Uy h p hp
  ·rename_i a;exact absurd h a
def Ru{r:ay}{b:aJ}(h:oW r b=0):r.okB=true/\b.okB=true/\∀p∈b.qs,yJ r p=0:=by
 unfold oW at h;split at h
 ·rename_i a;rw[cU]at a;exact⟨a.1,a.2,Uy h⟩
 ·cases h
def LI{r:ay}{p:aE}(h:yJ r p=0):bE r p.inst=true/\bA (gN p (aU r p.inst).mult (bC (aU r p.inst)))=true/\bA (p.aQ*bC (aU r p.inst))=true:=by
 unfold yJ at h;split at h
 case isFalse=>cases h
 rename_i b;split at h
 ·cases h
 split at h
 case isFalse=>cases h
 rename_i a;rw[cU]at a;exact⟨b,a⟩
def Cq{r:ay}{p x:aE}(h:x∈mw r p):x=⟨p.who,p.inst,p.aQ,p.aQ*bC (aU r p.inst)⟩/\¬(p.aQ=0/\p.aQ*bC (aU r p.inst)=0):=by
 unfold mw at h;split at h
 ·cases h
 ·rename_i a;simp only[cU,fE]at a;exact⟨iD.1 h,a⟩
def afI{r:ay}{b:aJ}(h:oW r b=0):(rV r b).okB=true:=by
 obtain⟨_,o,s⟩:=Ru h;have a:=dY.1 o;unfold rV;rw[au h];refine dY.2 ⟨λx c=>?_,?_,λn d g=>?_,a.tok,a.tpw,a.tl,a.n0,a.n1⟩
 ·obtain⟨p,k,c⟩:=mem_flatMap.1 c;obtain⟨rfl,i⟩:=Cq c;have:=jG.1 (a.ok p k);rw[jG];exact⟨this.1,this.2.1,this.2.2.1,(LI (s p k)).2.2,i⟩
 ·refine Q1 (f:=mw r) a.pw (λp _=>BF (by unfold mw;split<;>simp)) λp q _ _ j x c y u=>?_;rw[(Cq c).1,(Cq u).1];exact j
 ·dsimp only;rw[DK,<-a.level n d g];have e:∀l:List aE,tot l (λp=>aC (fB n (mw r p)))=aC (fB n l):=λl=>by
   induction l with
   |nil=>rfl
   |cons p t ih =>
    rw[iU,ih,sU];congr 1;unfold mw;split
    ·rename_i m;simp only[cU,fE]at m;rw[m.1];split<;>rfl
    ·rw[sU];simp[fB,aC]
  exact e b.qs
def FF{A:Type}(l m:List A)(F:A->Int):tot (l++m) F=tot l F+tot m F:=by
 simp only[tot,jv,gO]
