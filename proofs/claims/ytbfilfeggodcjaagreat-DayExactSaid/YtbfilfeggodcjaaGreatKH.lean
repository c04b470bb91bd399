/- Parts. -/
import Derived.Test.YtbfilfeggodcjaaGreatKE
set_option linter.all false
set_option maxHeartbeats 4000000
set_option maxRecDepth 16000
namespace Go.Proofs.YtbfilfeggodcjaaGreat
open Go.Abs Tryz
open List
def tV(r:aC)(n p:Int):Int:=if r.okB then(if kG r n then(if within p 1 3 then 0 else 3)else 10)else 14
def ah.put(p:Int)(x:ah):ah:={ x with state:=p }
def ga(r:aC)(n p:Int):aC:=if tV r n p=0 then⟨vk ah.no n (ah.put p) r.ms,r.ns,r.xs⟩else .none
theorem Jp(r:aC)(n p:Int)(h:r.jT):Sq 51 [] [.agg r.cells,.int .i64 n,.int .i64 p] [.own 3 ((ga r n p).ms.map ah.cells)] (.bH [.agg [.ref 0,.sl 12 ((ga r n p).ns.map ay.cells),.sl 4 ((ga r n p).xs.map av.cells)],.int .i64 (tV r n p)]):=by
 have c1:=lz r h.small;have c4:=JN r h;have A:=aY p 1 3;have hl:=h.1;simp only[aC.cells]at c1 c4 |-;refine aX 43 3 [.cell 6 28,.tmp 7] mixed func51 ?_;refine sc aI c1 ?_;cases w:r.okB
 ·have e:tV r n p=14:=by simp[tV,w]
  simp only[go_sem,seval,ga,e]<;>simp[aC.none]
 have e:tV r n p=if kG r n then(if within p 1 3 then 0 else 3)else 10:=by simp[tV,w]
 simp only[ga];rw[e];clear e c1;refine so aI c4 ?_;refine aF.w1 r.ms.length 9 [1,2,6,8] [112,144,256] (λi _=>∀j (q:j<r.ms.length),j<i->r.ms[j].no≠n) (by intros;omega) ?_ ?_
 ·intro i _ d m t b;obtain⟨x,v,s,hli⟩:=uy (c:=ah.cells) r.ms d;have a:=Lj b d;rw[<-v]at a;simp only[ah.cells]at s;refine sm (a2 m s) ?_;refine bG ?_;cases y:x.no==n
  ·refine sm t ?_;refine af.u d (a y) ?_;exact iM
  have g:r.ms[i].no=n:=by rw[<-v];simpa using y
  obtain⟨B,l⟩:=je (z:=ah.zero) d b g;have C:=xd (f:=ah.put p) d b g;have k:kG r n=true:=by simp[kG,l]
  rw[k];refine sc aI A ?_;cases b3:within p 1 3
  ·simp only[go_sem,seval]<;>simp[aC.none]
  rw[C,<-v];refine sm s ?_;refine bG ?_;all_goals simp[ah.put,map_set]
 ·intro _ o b;obtain⟨B,l⟩:=gC (z:=ah.zero) (λj q=>b j q q);have k:kG r n=false:=by simp[kG,l]
  rw[k];simp only[go_sem,seval,o]<;>simp[aC.none]
theorem HH(r:aC)(n p:Int)(h:r.jT):Sq 51 [] [.agg r.cells,.int .i64 n,.int .i64 p] [] (.bH [.agg (ga r n p).cells,.int .i64 (tV r n p)]):=by
 refine Spec.frozen (Jp r n p h) [0] rfl ?_;intro r;rcases r with _|r<;>rfl
def lI{A:Type}(f:A->A)(xs:List A)(i:Nat):List A:=(xs.take i).map f++xs.drop i
def xP{A:Type}(f:A->A)(xs:List A):lI f xs 0=xs:=by simp[lI]
def BC{A:Type}(f:A->A)(xs:List A):lI f xs xs.length=xs.map f:=by simp[lI]
def og{A:Type}(f:A->A)(xs:List A)(i:Nat):(lI f xs i).length=xs.length:=by simp[lI];omega
def z6{A:Type}(f:A->A){xs:List A}{i:Nat}(h:i<xs.length):(lI f xs i)[i]'(by rw[og];exact h)=xs[i]:=by
 have hl:((xs.take i).map f).length=i:=by simp;omega
 simp only[lI];rw[getElem_append_right aj];simp[Nat.min_eq_left (Nat.le_of_lt h)]
def vZ{A:Type}(f:A->A){xs:List A}{i:Nat}(h:i<xs.length):(lI f xs i).set i (f xs[i])=lI f xs (i+1):=by
 have a:((xs.take i).map f).length=i:=by simp;omega
 simp only[lI];rw[set_append_right _ _ aj,a,Nat.sub_self,drop_eq_getElem_cons h,set_cons_zero,kM h,jH,cu];rfl
def xO{A:Type}(f:A->A){xs:List A}{i:Nat}(h:i<xs.length)(a:f xs[i]=xs[i]):lI f xs (i+1)=lI f xs i:=by
 rw[<-vZ f h,a]
 conv=>lhs;rw[<-z6 f h]
 exact set_getElem_self _
def ay.fm(x:ay):ay:=if x.set==0 then x else{ x with cH:=x.set,set:=0 }
def wZ(r:aC):aC:=⟨r.ms,r.ns.map ay.fm,r.xs⟩
def HM(r:aC)(h:r.jT):Sq 37 [] [.agg r.cells] [.own 12 (r.ns.map ay.fm |>.map ay.cells)] (.agg [.sl 3 (r.ms.map ah.cells),.ref 0,.sl 4 (r.xs.map av.cells)]):=by
 have c4:=JO r h;have hl:=h.2.1;simp only[aC.cells]at c4 |-;refine aX 38 1 [.cell 2 28] mixed func37 ?_;refine so aI c4 ?_;refine bG ?_;refine aF.wv r.ns.length [2,3] [48] (λi=>[(4,.I i)]) (λi=>[(64,.box [.sl 3 (r.ms.map ah.cells),.ref 368,.sl 4 (r.xs.map av.cells)]),(368,.own 12 ((lI ay.fm r.ns i).map ay.cells))]) ?_ ?_ ?_
 ·simp only[go_sem,seval,xP]<;>simp
 ·intro i _ e m j _;have b:=og ay.fm r.ns i;have hi2:i<(lI ay.fm r.ns i).length:=aj
  have f:=aP (c:=ay.cells) (lI ay.fm r.ns i) hi2;have l:=z6 ay.fm e;have d:=vZ ay.fm e;have a:=xO ay.fm e;have hli:(i:Int)<(r.ns.length:Int):=aj
  obtain⟨x,p⟩:=aV (r.ns[i]);rw[l]at f;rw[<-p]at f d a;obtain⟨M,o⟩:=aV (lI ay.fm r.ns i);rw[<-o]at f d a b |-;simp only[ay.cells]at f;refine sm (a3 b m f) ?_;refine bG ?_;cases k:x.set==0
  ·have d:M.set i { x with cH:=x.set,set:=0 }=lI ay.fm r.ns (i+1):=by rw[<-d];simp only[ay.fm,k];rfl
   have g:∀Z,((M.map ay.cells).set i Z).getD i []=Z:=λZ=>by simp[b,e]
   refine sm (a5 lH k b f (a2 j g)) ?_
   and_intros<;>first|exact .dq|omega|skip
   all_goals first
    | (simp only[length_set,mY];omega)
    | (refine af.v e ?_
       simp only[go_sem,seval,<-d,map_set,set_set,g])
  ·have a:=a (by simp[ay.fm,k]);refine sm (a3 lH k j) ?_;refine af.v e ?_;simp only[go_sem,seval,a]
 ·intro _ n _;have b:=og ay.fm r.ns r.ns.length;simp only[go_sem,seval,b,n,BC]
def FI(r:aC)(h:r.jT):Sq 37 [] [.agg r.cells] [] (.agg (wZ r).cells):=by
 refine Spec.frozen (HM r h) [0] rfl ?_;intro r;rcases r with _|r<;>rfl
def kk(r:aC)(ss:List Int):List Int:=pick (λm:ah=>n6 ss m.state) ah.no r.ms
def FG(r:aC)(ss:List Int)(h:r.jT)(hs:ss.length<2^30):Sq 41 [] [.agg r.cells,.sl 1 (ints ss)] [.own 1 (ints (kk r ss))] (.ref 0):=by
 have hl:=h.1;simp only[aC.cells];refine aX 47 2 [.tmp 4] mixed func41 ?_;refine s0 ?_;refine aF.wv r.ms.length [1,2] [48] (λi=>[(6,.I i),(5,.ref 736)]) (λi=>[(736,.own 1 (ints (pick (λm:ah=>n6 ss m.state) ah.no (r.ms.take i))))]) ?_ ?_ ?_
 ·simp only[go_sem,seval]<;>simp[pick,ints]
 ·intro i _ l o f _;obtain⟨x,t,n,hli⟩:=uy (c:=ah.cells) r.ms l;have a:=kf (λm:ah=>n6 ss m.state) ah.no l;have e:=fu (λm:ah=>n6 ss m.state) ah.no (r.ms.take i);have hlt:(r.ms.take i).length=i:=by simp;omega
  obtain⟨L,s⟩:=aV (pick (λm:ah=>n6 ss m.state) ah.no (r.ms.take i));rw[<-t]at a;rw[<-s]at a e |-;simp only[ah.cells]at n;simp only[go_sem,seval,o,aL];refine aF.wv ss.length [1,2,5,6] [48,736] (λk=>[(8,.I k),(7,.bool (n6 (ss.take k) x.state))]) (λ_=>[]) ?_ ?_ ?_
  ·simp only[go_sem,seval]<;>simp[n6]
  ·intro k _ d b g _;have a:=vP ss x.state d;have hlk:(k:Int)<(ss.length:Int):=aj
   cases q:n6 (ss.take k) x.state
   ·rw[q,Bool.false_or]at a;simp only[go_sem,seval,aL,b,ints_at ss d,n,g];refine bG ?_;refine af.v d ?_;exact dJ a
   ·rw[q,Bool.true_or]at a;simp only[go_sem,seval,aL,b,ints_at ss d,n,g];refine bG ?_;refine af.v d ?_;exact dJ a
  ·intro _ b _;cases j:n6 ss x.state
   ·rw[j]at a;simp only[go_sem,seval,aL,b,ef,j,f];refine bG ?_;refine af.v l ?_;exact lG a
   ·rw[j]at a;simp only[go_sem,seval,aL,b,ef,j,n,f];refine bG ?_;refine af.v l ?_;exact lG a
 ·intro _ p _;simp only[go_sem,seval,aL,p,ef,kk]
def Dt(r:aC)(ss:List Int)(h:r.jT)(a:ss.length<2^30):Sq 41 [] [.agg r.cells,.sl 1 (ints ss)] [] (.sl 1 (ints (kk r ss))):=by
 refine Spec.frozen (FG r ss h a) [0] rfl ?_;intro r;rcases r with _|r<;>rfl
theorem Dn(x:ay):Sq 109 [] [.agg x.cells] [] (.bH [.int .i64 (if x.set==0 then x.cH else x.set),.bool (!(x.set==0&&x.cH==0))]):=by
 simp only[ay.cells];refine aX 14 1 [.tmp 2,.tmp 3] mixed func109 ?_;cases a:x.set==0<;>cases b:x.cH==0<;>simp only[go_sem,seval,bne,a,b,eO,Bool.and_self,Bool.and_false,Bool.not_true,Bool.not_false]
 all_goals(with_reducible and_intros)<;>first|exact .dq|omega|skip
theorem HG(a b:Int)(e:fP a)(f:fP b):Sq 111 [] [.int .i64 a,.int .i64 b] [] (.bH [.int .i64 (if bR (a*b)then a*b else 0),.bool (bR (a*b))]):=by
 have c:=qm a b e f;have d:=mQ (a*b);simp only[wd]at c d;refine aX 12 2 [.tmp 4,.tmp 5] mixed func111 ?_;refine sc aI c ?_;exact qt aI d
def cC(x:ay):Int:=if x.set==0 then x.cH else x.set
def fq(x:ay):Bool:=!(x.set==0&&x.cH==0)
def yR(r:aC)(p:aN):Int:=
 if bZ r p.inst then(if !fq (bU r p.inst)&&!(p.eN==0)then 20 else if bR (fF p (bU r p.inst).mult (cC (bU r p.inst)))&&bR (p.eN*cC (bU r p.inst))then 0 else 1)else 10
def iU(r:aC):List aN->Int
 | []=>0
 |p::t=>if yR r p=0 then iU r t else yR r p
def qp(r:aC)(p:aN):aB:=⟨p.who,(bU r p.inst).cur,fF p (bU r p.inst).mult (cC (bU r p.inst))⟩
def jE(r:aC)(p:aN):List aN:=if p.eN==0&&p.eN*cC (bU r p.inst)==0 then[]else[⟨p.who,p.inst,p.eN,p.eN*cC (bU r p.inst)⟩]
def lN(r:aC)(b:bI):Int:=if r.okB&&b.okB then iU r b.qs else 14
def ou(r:aC)(b:bI):bI:=if lN r b=0 then⟨b.next,b.ts,b.qs.flatMap (jE r)⟩else⟨0,[],[]⟩
def iE(r:aC)(b:bI):List aB:=if lN r b=0 then b.qs.map (qp r)else[]
def zK(b:bI)(h:b.small):Sq 22 [] [.agg b.cells] [] (.agg b.cells):=by
 refine Spec.frozen (uw b h) [0,1] rfl ?_;intro r;rcases r with _| _|r<;>rfl
def yF{x:ay}(h:x.ok=true):0<=cC x/\cC x<=1073741824:=by
 simp only[ay.ok,within,dO,bP]at h;unfold cC;split<;>omega
def Gk{b:bI}(h:b.okB=true):∀p∈b.qs,p.okB=true:=by
 intro p c;simp only[bI.okB,dO]at h;obtain⟨i,a,rfl⟩:=mem_iff_getElem.1 c;exact IN h.1 a
def Hz{p:aN}(h:p.okB=true):-1099511627776<=p.eN/\p.eN<=1099511627776/\bR p.cost=true:=by
 simp only[aN.okB,within,dO,bP]at h;exact⟨h.2.1.1,h.2.1.2,h.2.2.1⟩
theorem Jq(r:aC)(b:bI)(h:r.jT)(R:b.small)(hr:∀p∈b.qs,p.gE):Sq 33 [] [.agg r.cells,.agg b.cells] [.own 4 ((ou r b).qs.map aN.cells),.own 3 ((iE r b).map aB.cells)] (.bH [.agg [.int .i64 (ou r b).next,.sl 7 ((ou r b).ts.map aR.cells),.ref 0],.ref 1,.int .i64 (lN r b)]):=by
 have c1:=lz r h.small;have c2:=qZ b R hr;have c3:=λn=>jw r n h.small;have c4:=zK b R;have B:=R.2;simp only[aC.cells,bI.cells]at c1 c2 c3 c4 |-;refine aX 117 2 [.cell 4 32,.tmp 5,.tmp 6] mixed func33 ?_;refine sc aI c1 ?_;cases E:r.okB
 ·have e:lN r b=14:=by simp[lN,E]
  simp only[go_sem,seval,ou,iE,e];all_goals simp
 refine sc aI c2 ?_;cases N:b.okB
 ·have e:lN r b=14:=by simp[lN,E,N]
  simp only[go_sem,seval,ou,iE,e];all_goals simp
 have e:lN r b=iU r b.qs:=by simp[lN,E,N]
 have s:=Gk N;simp only[ou,iE];rw[e];clear e c1 c2;refine s0 ?_;refine bG ?_;refine ak.aH c4 ?_;clear c4;refine s0 ?_;refine bG ?_;refine aF.wu b.qs.length [2,3,4,7] [48,64,80] (λi=>[(9,.I i),(8,.ref 1552)]) (λi=>[(128,.box [.I b.next,.sl 7 (b.ts.map aR.cells),.ref 1824]),(1552,.own 3 (((b.qs.take i).map (qp r)).map aB.cells)),(1824,.own 4 (((b.qs.take i).flatMap (jE r)).map aN.cells))]) (λi=>iU r (b.qs.drop i)=iU r b.qs) rfl ?_ ?_ ?_
 ·exact lA
 ·intro i _ q S v a;have U:=aP (c:=aN.cells) b.qs q;have hli:(i:Int)<(b.qs.length:Int):=aj
  have hlt:(b.qs.take i).length=i:=by simp;omega
  have o:=jr (jE r) q;have B:((b.qs.take i).flatMap (jE r)).length<=i:=by
   have:=gB (f:=jE r) (m:=1) (λp=>by unfold jE;split<;>simp) (b.qs.take i);omega
  have y:(b.qs.take (i+1)).map (qp r)=(b.qs.take i).map (qp r)++[qp r b.qs[i]]:=by rw[kM q,jH];rfl
  obtain⟨n1,n2,Z⟩:=Hz (s b.qs[i] (cZ q));obtain⟨p,A⟩:=aV (b.qs[i]);obtain⟨Q,J⟩:=aV ((b.qs.take i).flatMap (jE r));obtain⟨L,H⟩:=aV ((b.qs.take i).map (qp r));have hLl:L.length=i:=by rw[H];simp;omega
  have t:=c3 p.inst;have d:=λhh=>pY (r:=r) (n:=p.inst) E hh;obtain⟨x,M⟩:=aV (bU r p.inst);rw[fX q,<-A]at a;simp only[iU,yR,<-M]at a;rw[<-A,<-J]at o;rw[<-A,<-H]at y;rw[<-J]at B;simp only[jE,<-M]at o;simp only[qp,<-M]at y;rw[<-A]at U n1 n2 Z;rw[<-M]at t d;rw[<-J,<-H];simp only[aN.cells]at U;simp only[ay.cells]at t;clear c3 J H A s;refine sc (a2 S U) t ?_;cases D:bZ r p.inst
  ·simp only[D,jm,if_false]at a;have j:iU r b.qs=10:=a.symm;refine sm (a2 D j) ?_;all_goals simp
  simp only[D,if_true]at a;have d:=d D;have V:=yF d;have hmu:=(j8 d).1;have O:=Dn x;have F:=Dw p x.mult (cC x) ⟨by omega,by omega⟩ Z aj V;have P:=HG p.eN (cC x) ⟨by omega,by omega⟩ ⟨by omega,by omega⟩;have Y:(if x.set==0 then x.cH else x.set)=cC x:=rfl;have X:(!(x.set==0&&x.cH==0))=fq x:=rfl;rw[Y,X]at O;obtain⟨W,K⟩:=aV (fF p x.mult (cC x));obtain⟨C,G⟩:=aV (p.eN*cC x);rw[<-K]at F;rw[<-G]at P;rw[<-K,<-G]at a;rw[<-G]at o;rw[<-K]at y;simp only[ay.cells]at O;simp only[aN.cells]at F;clear Y X K G;refine sc D O ?_;cases z:fq x
  case false =>
   cases k:p.eN==0
   ·simp only[z,k,Bool.not_false,Bool.and_self,if_true]at a;have j:iU r b.qs=20:=a.symm;refine sm (a4 z lH k j) ?_;all_goals simp
   simp only[z,k,Bool.not_true,Bool.and_false,jm,if_false]at a;refine sm (a3 z lH k) ?_;refine sc aI F ?_;refine sc aI P ?_;cases g:bR W
   ·simp only[g,eO,jm,if_false]at a;have j:iU r b.qs=1:=a.symm;refine sm (a2 g j) ?_;all_goals simp
   cases l:bR C
   ·simp only[g,l,Bool.and_false,jm,if_false]at a;have j:iU r b.qs=1:=a.symm;refine sm (a3 g l j) ?_;all_goals simp
   simp only[g,l,Bool.and_self,if_true]at a;cases w:C==0
   ·simp only[k,w,Bool.and_false,jm,if_false]at o;refine sm (a5 g l lH k (a2 w v)) ?_;refine bG ?_;refine af.u q a ?_;exact lG (a2 o y)
   ·simp only[k,w,Bool.and_self,if_true,append_nil]at o;refine sm (a5 g l lH k (a2 w v)) ?_;refine bG ?_;refine af.u q a ?_;exact lG (a2 o y)
  simp only[z,Bool.not_true,eO,jm,if_false]at a;refine sc z F ?_;refine sc aI P ?_;cases g:bR W
  ·simp only[g,eO,jm,if_false]at a;have j:iU r b.qs=1:=a.symm;refine sm (a2 g j) ?_;all_goals simp
  cases l:bR C
  ·simp only[g,l,Bool.and_false,jm,if_false]at a;have j:iU r b.qs=1:=a.symm;refine sm (a3 g l j) ?_;all_goals simp
  simp only[g,l,Bool.and_self,if_true]at a
  cases k:p.eN==0<;>cases w:C==0<;>(
   simp only[k,w,Bool.and_self,Bool.and_false,eO,jm,if_false,if_true,append_nil]at o;refine sm (a5 g l lH k (a2 w v)) ?_;refine bG ?_;try refine af.u q a ?_
   try simp only[go_sem,seval,o,y])
  all_goals simp
 ·intro _ T a;rw[mT]at a;have j:iU r b.qs=0:=a.symm;simp only[go_sem,seval,T,j,ef];all_goals simp
theorem HJ(r:aC)(b:bI)(h:r.jT)(a:b.small)(hr:∀p∈b.qs,p.gE):Sq 33 [] [.agg r.cells,.agg b.cells] [] (.bH [.agg (ou r b).cells,.sl 3 ((iE r b).map aB.cells),.int .i64 (lN r b)]):=by
 refine Spec.frozen (Jq r b h a hr) [0,1] rfl ?_;intro r;rcases r with _| _|r<;>rfl
def vf(r:aC)(ss:List Int):(kk r ss).length<=r.ms.length:=fu _ _ _
theorem G5(n:Int)(xs:List aq)(hl:xs.length<2^30):Sq 46 [] [.int .i64 n,.sl 4 (xs.map aq.cells)] [.own 4 ((dR n xs).map aq.cells),.own 4 ((fM n xs).map aq.cells)] (.bH [.ref 0,.ref 1]):=by
 refine aX 29 2 [.tmp 4,.tmp 5] mixed func46 ?_;simp only[go_sem,seval];refine bG ?_;refine aF.wv xs.length [0,8,9] [160] (λi=>[(10,.int .i64 i),(4,.ref 352),(5,.ref 416)]) (λi=>[(352,.own 4 ((dR n (xs.take i)).map aq.cells)),(416,.own 4 ((fM n (xs.take i)).map aq.cells))]) ?_ ?_ ?_
 ·simp only[go_sem,seval]<;>simp[dR,fM]
 ·intro i _ f e g _;have h:=aP (c:=aq.cells) xs f;have hli:(i:Int)<(xs.length:Int):=aj
  have hlt:(xs.take i).length=i:=by simp;omega
  have a:dR n (xs.take (i+1))=dR n (xs.take i)++_:=jr _ f;have b:fM n (xs.take (i+1))=fM n (xs.take i)++_:=jr _ f;have j:(dR n (xs.take i)).length<=1*(xs.take i).length:=gB (λx=>by split<;>simp) _;have k:(fM n (xs.take i)).length<=1*(xs.take i).length:=gB (λx=>by split<;>simp) _;obtain⟨L,m⟩:=aV (dR n (xs.take i));obtain⟨M,o⟩:=aV (fM n (xs.take i));obtain⟨x,p⟩:=aV (xs[i]);rw[<-m]at a j;rw[<-o]at b k;rw[<-p]at a b h;rw[<-m,<-o];simp only[aq.cells]at h;by_cases q:x.till<=n
  ·have d:decide (x.till<=n)=true:=gJ q;rw[aE q]at a b;simp only[go_sem,seval,e,h,d,g];refine bG ?_;refine af.v f ?_;simp only[go_sem,seval,a,b]<;>simp
  ·have d:decide (x.till<=n)=false:=kY q;rw[az q]at a b;simp only[go_sem,seval,e,h,d,g];refine bG ?_;refine af.v f ?_;simp only[go_sem,seval,a,b]<;>simp
 ·intro _ l _;simp only[go_sem,seval,l,ef]
theorem LA(n:Int)(xs:List aq)(a:xs.length<2^30):Sq 46 [] [.int .i64 n,.sl 4 (xs.map aq.cells)] [] (.bH [.sl 4 ((dR n xs).map aq.cells),.sl 4 ((fM n xs).map aq.cells)]):=by
 refine Spec.frozen (G5 n xs a) [0,1] rfl ?_;intro r;rcases r with _| _|r<;>rfl
def yW(xs:List aq)(a:List Int)(hl:xs.length<2^30)(hs:a.length<2^30):Sq 47 [] [.sl 4 (xs.map aq.cells),.sl 1 (ints a)] [.own 4 ((bJ xs a).map aq.cells)] (.ref 0):=by
 refine aX 26 2 [.tmp 4] mixed func47 ?_;refine s0 ?_;refine bG ?_;refine aF.wv xs.length [1,8,9] [160] (λi=>[(10,.I i),(5,.ref 384)]) (λi=>[(384,.own 4 ((bJ (xs.take i) a).map aq.cells))]) ?_ ?_ ?_
 ·simp only[go_sem,seval]<;>simp[bJ]
 ·intro i _ e g d _;have j:=aP (c:=aq.cells) xs e;have hli:(i:Int)<(xs.length:Int):=aj
  have hlt:(xs.take i).length=i:=by simp;omega
  have b:bJ (xs.take (i+1)) a=bJ (xs.take i) a++_:=jr _ e;have f:(bJ (xs.take i) a).length<=1*(xs.take i).length:=gB (λx=>by split<;>simp) _;obtain⟨L,l⟩:=aV (bJ (xs.take i) a);obtain⟨x,m⟩:=aV (xs[i]);rw[<-l]at b f |-;rw[<-m]at b j;have k:=tZ a x.who aj;simp only[aq.cells]at j;refine sc (a2 g j) k ?_;cases q:n6 a x.who
  ·rw[q]at b;simp only[jm,if_false]at b;refine sm d ?_;refine bG ?_;refine af.v e ?_;exact lG b
  ·rw[q]at b;simp only[if_true,append_nil]at b;refine sm d ?_;refine bG ?_;refine af.v e ?_;exact dJ b
 ·intro _ h _;simp only[go_sem,seval,h,ef]
def F6(xs:List aq)(a:List Int)(b:xs.length<2^30)(c:a.length<2^30):Sq 47 [] [.sl 4 (xs.map aq.cells),.sl 1 (ints a)] [] (.sl 4 ((bJ xs a).map aq.cells)):=by
 refine Spec.frozen (yW xs a b c) [0] rfl ?_;intro r;rcases r with _|r<;>rfl
def sK(ms:List ah)(x:ah){k:Nat}(w:k<ms.length)(p:∀i (h:i<k),(ms[i]'aj).no<x.no)(u:ms[k].no=x.no)(hl:ms.length<2^30):Sq 143 [.own 3 (ms.map ah.cells)] [.ref 0,.fn 144 [],.agg x.cells] [.own 3 ((ms.set k x).map ah.cells)] (.ref 0):=by
 have e:=λy=>mB y;have j:(ms.set k x).map ah.cells=(ms.map ah.cells).set k x.cells:=by rw[map_set]
 rw[j];simp only[ah.cells]at e |-;refine aX 52 3 [.tmp 6] mixed func143 ?_;refine s0 ?_;refine bG ?_;refine aF.wv k [0,1,5] [0,96] (λi=>[(7,.I i)]) (λ_=>[]) ?_ ?_ ?_
 ·exact iM
 ·intro i _ s _ q _;have a:i<ms.length:=aj
  have b:=aP (c:=ah.cells) ms a;have n:(i:Int)<(ms.length:Int):=aj
  have m:decide ((i:Int)<(ms.length:Int))=true:=gJ n;have f:decide ((ms[i]'a).no<x.no)=true:=gJ (p i s);have d:=e (ms[i]'a);have l:=e x;obtain⟨y,r⟩:=aV (ms[i]'a);rw[<-r]at b f d;simp only[ah.cells]at b;refine sc (a2 m b) d ?_;refine sc (a2 f q) l ?_;refine bG ?_;refine af.v s ?_;exact iM
 ·intro _ _ _;obtain⟨y,r,b,o⟩:=uy (c:=ah.cells) ms w;have g:decide ((k:Int)<(ms.length:Int))=true:=gJ o;have f:decide (ms[k].no<x.no)=false:=kR;have t:(ms[k].no==x.no)=true:=su u;have d:=e ms[k];have l:=e x;rw[<-r]at f t d;simp only[ah.cells]at b;refine sc (a2 g b) d ?_;refine sc f l ?_;refine dM.id ?_;refine sc (a2 g b) d ?_;refine sc t l ?_;refine bG ?_;rw[b];rfl
def DB(r:aC)(h:r.jT):Sq 97 [] [.agg r.cells] [.own 12 (r.ns.map ay.cells)] (.agg [.sl 3 (r.ms.map ah.cells),.ref 0,.sl 4 (r.xs.map av.cells)]):=by
 obtain⟨a,b,c⟩:=h;have c1:=pW r.ms a;have c2:=mw r.ns b;have c3:=mV r.xs c;simp only[aC.cells];refine aX 13 1 [.cell 2 28] mixed func97 ?_;refine sc aI c1 ?_;refine so aI c2 ?_;exact qt aI c3
theorem O0(r:aC)(h:r.jT):Sq 31 [] [.agg r.cells] [.own 12 (r.ns.map ay.fm |>.map ay.cells)] (.agg [.sl 3 (r.ms.map ah.cells),.ref 0,.sl 4 (r.xs.map av.cells)]):=by
 have c4:=DB r h;have hl:=h.2.1;simp only[aC.cells]at c4 |-;refine aX 37 1 [.cell 2 28] mixed func31 ?_;refine so aI c4 ?_;refine bG ?_;refine aF.wv r.ns.length [1,2,8] [48] (λi=>[(9,.int .i64 i)]) (λi=>[(32,.box [.sl 3 (r.ms.map ah.cells),.ref 336,.sl 4 (r.xs.map av.cells)]),(336,.own 12 ((lI ay.fm r.ns i).map ay.cells))]) ?_ ?_ ?_
 ·simp only[go_sem,seval,xP]<;>simp
 ·intro i _ e m j _;have b:=og ay.fm r.ns i;have hi2:i<(lI ay.fm r.ns i).length:=aj
  have f:=aP (c:=ay.cells) (lI ay.fm r.ns i) hi2;have l:=z6 ay.fm e;have d:=vZ ay.fm e;have a:=xO ay.fm e;have hli:(i:Int)<(r.ns.length:Int):=aj
  obtain⟨x,p⟩:=aV (r.ns[i]);rw[l]at f;rw[<-p]at f d a;obtain⟨M,o⟩:=aV (lI ay.fm r.ns i);rw[<-o]at f d a b |-;simp only[ay.cells]at f;simp only[go_sem,seval,b,m,f];refine bG ?_;cases k:x.set==0
  ·have d:M.set i { x with cH:=x.set,set:=0 }=lI ay.fm r.ns (i+1):=by rw[<-d];simp only[ay.fm,k];rfl
   have g:∀Z,((M.map ay.cells).set i Z).getD i []=Z:=λZ=>by simp[b,e]
   simp only[go_sem,seval,bne,k,b,f,j,g];(with_reducible and_intros)<;>first|exact .dq|omega|skip
   all_goals first
    | (simp only[length_set,mY];omega)
    | (refine af.v e ?_
       simp only[go_sem,seval,<-d,map_set,set_set,g])
  ·have a:=a (by simp[ay.fm,k]);simp only[go_sem,seval,bne,k,j];refine af.v e ?_;simp only[go_sem,seval,a]
 ·intro _ n _;have b:=og ay.fm r.ns r.ns.length;simp only[go_sem,seval,b,n,BC]
def Ml(r:aC)(ss:List Int)(h:r.jT)(hs:ss.length<2^30):Sq 38 [] [.agg r.cells,.sl 1 (ints ss)] [.own 1 (ints (kk r ss))] (.ref 0):=by
 have hl:=h.1;simp only[aC.cells];refine aX 26 2 [.tmp 4] mixed func38 ?_;refine s0 ?_;refine bG ?_;refine aF.wv r.ms.length [1,9,10] [48,176] (λi=>[(11,.I i),(5,.ref 384)]) (λi=>[(384,.own 1 (ints (pick (λm:ah=>n6 ss m.state) ah.no (r.ms.take i))))]) ?_ ?_ ?_
 ·simp only[go_sem,seval]<;>simp[pick,ints]
 ·intro i _ f g e _;obtain⟨x,n,l,hli⟩:=uy (c:=ah.cells) r.ms f;have a:=El (λm:ah=>n6 ss m.state) ah.no f;have b:=fu (λm:ah=>n6 ss m.state) ah.no (r.ms.take i);rw[dw]at b;rw[<-n]at a;obtain⟨O,k⟩:=aV (pick (λm:ah=>n6 ss m.state) ah.no (r.ms.take i));rw[<-k]at a b |-;have o:=tZ ss x.state aj;have hil:(ints O).length<=2147483648:=by rw[aL];omega
  simp only[ah.cells]at l;clear n k;refine sc (a2 g l) o ?_;cases q:n6 ss x.state
  ·rw[q]at a;simp only[jm,if_false,append_nil]at a;refine sm e ?_;refine bG ?_;refine af.v f ?_;exact dJ a
  ·rw[q]at a;simp only[if_true]at a;have d:ints O++[[.I x.no]]=ints (pick (λm:ah=>n6 ss m.state) ah.no (r.ms.take (i+1))):=by rw[a];simp[ints]
   refine sm e ?_;refine bG ?_;refine af.v f ?_;exact dJ d
 ·intro _ j _;simp only[go_sem,seval,j,ef,kk]
def JI(r:aC)(ss:List Int)(h:r.jT)(a:ss.length<2^30):Sq 38 [] [.agg r.cells,.sl 1 (ints ss)] [] (.sl 1 (ints (kk r ss))):=by
 refine Spec.frozen (Ml r ss h a) [0] rfl ?_;intro r;rcases r with _|r<;>rfl
