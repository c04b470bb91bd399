/- Parts. -/
import Derived.Test.YtbfilfeggodcjaaGreatKG
import Derived.Test.YtbfilfeggodcjaaGreatKH
set_option linter.all false
set_option maxHeartbeats 4000000
set_option maxRecDepth 16000
namespace Go.Proofs.YtbfilfeggodcjaaGreat
open Go.Abs Tryz
theorem BB(x:ay):Sq 168 [] [.agg x.cells] [] (.bH [.int .i64 (cC x),.int .i64 (if fq x then 0 else 20)]):=by
 cases a:x.set==0
 ·have c:cC x=x.set:=by rw[cC,a];rfl
  have e2:fq x=true:=by rw[fq,a];rfl
  rw[c,e2];simp only[ay.cells];refine aX 16 1 [.tmp 2,.tmp 3] mixed func168 ?_;exact dJ (a2 lH a)
 ·have c:cC x=x.cH:=by rw[cC,a];rfl
  cases b:x.cH==0
  ·have e2:fq x=true:=by rw[fq,a,b];rfl
   rw[c,e2];simp only[ay.cells];refine aX 16 1 [.tmp 2,.tmp 3] mixed func168 ?_;exact dJ (a3 lH a b)
  ·have e2:fq x=false:=by rw[fq,a,b];rfl
   have d:x.cH=0:=su b;rw[c,e2,d];rw[d]at b;simp only[ay.cells];refine aX 16 1 [.tmp 2,.tmp 3] mixed func168 ?_;exact dJ (a3 lH a d)
def Og(r:aC)(p:aN):Int:=if bZ r p.inst then(if !fq (bU r p.inst)&&!(p.eN==0)then 20 else 0)else 10
def Oh(r:aC)(p:aN):Int:=if bZ r p.inst then cC (bU r p.inst)else 0
theorem Jh(r:aC)(p:aN)(h:r.small):Sq 68 [] [.agg r.cells,.agg p.cells] [] (.bH [.agg (bU r p.inst).cells,.int .i64 (Oh r p),.int .i64 (Og r p)]):=by
 have a:=pH r p.inst h;have b:=BB (bU r p.inst);unfold Og Oh;obtain⟨x,e⟩:=aV (bU r p.inst);rw[<-e]at a b |-;simp only[aC.cells,aN.cells,ay.cells]at a b |-;cases d:bZ r p.inst
 ·rw[d]at a;refine aX 38 2 [.cell 4 126,.tmp 5,.tmp 6] mixed func68 ?_;exact qt aI a
 rw[d]at a;have f:fq x=false->cC x=0:=by
  intro h;simp only[fq,Bool.not_eq_false',dO,gm]at h;rw[cC,h.1,h.2];rfl
 cases c:fq x
 ·rw[c]at b;rw[f c]at b |-;cases g:p.eN==0;all_goals
   refine aX 38 2 [.cell 4 126,.tmp 5,.tmp 6] mixed func68 ?_;refine sc aI a ?_;exact qt g b
 ·rw[c]at b;refine aX 38 2 [.cell 4 126,.tmp 5,.tmp 6] mixed func68 ?_;refine sc aI a ?_;exact qt aI b
theorem JS(p:aN)(m c:Int)(hq:-1099511627776<=p.eN/\p.eN<=1099511627776)(D:bR p.cost=true)(hm:1<=m/\m<=1024)(hp:0<=c/\c<=1073741824):Sq 69 [] [.agg p.cells,.int .i64 m,.int .i64 c] [] (.bH [.int .i64 (if bR (fF p m c)then fF p m c else 0),.int .i64 (if bR (fF p m c)then 0 else 1)]):=by
 have u:=fY.1 D;have s:=dL [p.cost] sT;rw[Ck,D]at s;simp only[ints,List.map_cons,List.map_nil]at s;have k1:=iL (a:=m) (b:=p.eN) (A:=1024) (B:=1099511627776) aj aj;have k2:=iL (a:=m*p.eN) (b:=c) (A:=1125899906842624) (B:=1073741824) aj aj;have k3:=iL (a:=-p.cost) (b:=m) (A:=4611686018427387904) (B:=1024) aj aj;have v:IntKind.wrap .i64 (m*p.eN)=m*p.eN:=lF aj aj;have J:IntKind.wrap .i64 (-p.cost) = -p.cost:=lF aj aj;have w:IntKind.wrap .i64 (0-p.cost) = -p.cost:=eM;have e:=mq (m*p.eN) c ⟨by omega,by omega⟩ ⟨by omega,by omega⟩;have q:=mq (-p.cost) m ⟨by omega,by omega⟩ ⟨by omega,by omega⟩;have H:rI (m*p.eN*c)=true:=by simp only[rI,dO,bP];omega
 have I:rI (-p.cost*m)=true:=by simp only[rI,dO,bP];omega
 have d:=rA [m*p.eN*c,-p.cost*m] sT (by intro n E;simp only[List.mem_cons,List.not_mem_nil,or_false]at E;rcases E with rfl|rfl<;>assumption);have o:m*p.eN*c=p.eN*(c*m):=by rw[Int.mul_comm m,Int.mul_assoc,Int.mul_comm m c]
 have l:aK [m*p.eN*c,-p.cost*m]=fF p m c:=by rw[o];simp[aK,fF]
 have G:rI (fF p m c)=true:=by
  have F:fF p m c=m*p.eN*c + -p.cost*m:=by rw[o];rfl
  rw[F];clear F l d q e;simp only[rI,dO,bP];constructor<;>omega
 rw[l,G,aE rfl,aE rfl]at d;have r:=nI (fF p m c);simp only[rz,wd,List.map_cons,List.map_nil]at d r;have j:decide (p.eN < -1099511627776)=false:=kR;have k:decide (1099511627776<p.eN)=false:=kR;have f:decide (m<1)=false:=kR;have g:decide (1024<m)=false:=kR;have h:decide (c<0)=false:=kR;have i:decide (1073741824<c)=false:=kR;simp only[aN.cells];obtain⟨Q,t⟩:=aV (m*p.eN);rw[<-t]at e d;replace v:=v.trans t.symm;obtain⟨A,x⟩:=aV (Q*c);obtain⟨B,y⟩:=aV (-p.cost*m);obtain⟨C,z⟩:=aV (fF p m c);rw[<-x]at e d;rw[<-y]at q d;rw[<-z]at d r |-;clear x y z k1 k2 k3 H I l G u o t;refine aX 64 3 [.tmp 6,.tmp 7] mixed func69 ?_;refine sl (a5 j k f g (a3 h i v)) s ?_;refine sc (a2 J w) e ?_;refine sc aI q ?_;refine sl aI d ?_;exact qt aI r
theorem Kz(r:aC)(b:bI)(h:r.small)(J:b.small):Sq 26 [] [.agg r.cells,.agg b.cells] [.own 7 ((ou r b).ts.map aR.cells),.own 4 ((ou r b).qs.map aN.cells),.own 3 ((iE r b).map aB.cells)] (.bH [.agg [.int .i64 (ou r b).next,.ref 0,.ref 1],.ref 2,.int .i64 (lN r b)]):=by
 have c1:=gF r h;have c2:=nP b J;have c3:=λp=>Jh r p h;have t:=J.2;have htl:=J.1;simp only[aC.cells,bI.cells]at c1 c2 c3 |-;refine aX 104 2 [.cell 4 32,.tmp 5,.tmp 6] mixed func26 ?_;refine sc aI c1 ?_;cases v:r.okB
 ·have e:lN r b=14:=by simp[lN,v]
  simp only[go_sem,seval,bne,ou,iE,e];all_goals simp
 simp only[go_sem,seval,if_true];refine sc aI c2 ?_;cases G:b.okB
 ·have e:lN r b=14:=by simp[lN,v,G]
  simp only[go_sem,seval,bne,ou,iE,e];all_goals simp
 have e:lN r b=iU r b.qs:=by simp[lN,v,G]
 have k:=Gk G;simp only[ou,iE];rw[e];clear e c1 c2;simp only[go_sem,seval,if_true];refine bG ?_;refine aF.wu b.qs.length [2,3,4,28,29] [48,64,80] (λi=>[(30,.int .i64 i),(8,.ref 1264),(9,.ref 1488)]) (λi=>[(1264,.own 3 (((b.qs.take i).map (qp r)).map aB.cells)),(1488,.own 4 (((b.qs.take i).flatMap (jE r)).map aN.cells))]) (λi=>iU r (b.qs.drop i)=iU r b.qs) rfl ?_ ?_ ?_
 ·simp only[go_sem,seval]<;>simp
 ·intro i _ l K P a;have N:=aP (c:=aN.cells) b.qs l;have hli:(i:Int)<(b.qs.length:Int):=aj
  have hlt:(b.qs.take i).length=i:=by simp;omega
  have s:=jr (jE r) l;have t:((b.qs.take i).flatMap (jE r)).length<=i:=by
   have:=gB (f:=jE r) (m:=1) (λp=>by unfold jE;split<;>simp) (b.qs.take i);omega
  have y:(b.qs.take (i+1)).map (qp r)=(b.qs.take i).map (qp r)++[qp r b.qs[i]]:=by rw[kM l,jH];rfl
  obtain⟨n1,T,U⟩:=Hz (k b.qs[i] (cZ l));obtain⟨p,q⟩:=aV (b.qs[i]);obtain⟨Q,A⟩:=aV ((b.qs.take i).flatMap (jE r));obtain⟨L,z⟩:=aV ((b.qs.take i).map (qp r));have hLl:L.length=i:=by rw[z];simp;omega
  have g:=c3 p;have d:=λY=>pY (r:=r) (n:=p.inst) v Y;simp only[Og,Oh]at g;obtain⟨x,D⟩:=aV (bU r p.inst);rw[fX l,<-q]at a;simp only[iU,yR,<-D]at a;rw[<-q,<-A]at s;rw[<-q,<-z]at y;rw[<-A]at t;simp only[jE,<-D]at s;simp only[qp,<-D]at y;rw[<-q]at N n1 T U;rw[<-D]at g d;rw[<-A,<-z];simp only[aN.cells]at N g;simp only[ay.cells]at g;clear c3 A z q k;refine sc (a2 K N) g ?_;cases o:bZ r p.inst
  ·simp only[o,jm,if_false]at a;have j:iU r b.qs=10:=a.symm;simp only[go_sem,seval,o,j];all_goals simp
  simp only[o,if_true]at a;have d:=d o;have O:=yF d;have hmu:=(j8 d).1;cases E:(!fq x&&!(p.eN==0))
  case true =>
   simp only[E,if_true]at a;have j:iU r b.qs=20:=a.symm;simp only[go_sem,seval,o,E,j];all_goals simp
  simp only[E,jm,if_false]at a;have H:=JS p x.mult (cC x) ⟨n1,T⟩ U aj O;have S:=mq p.eN (cC x) ⟨by omega,by omega⟩ ⟨by omega,by omega⟩;have I:=nI (p.eN*cC x);simp only[wd]at I;obtain⟨W,B⟩:=aV (fF p x.mult (cC x));obtain⟨C,w⟩:=aV (p.eN*cC x);rw[<-B]at H;rw[<-w]at S I;rw[<-B,<-w]at a;rw[<-w]at s;rw[<-B]at y;simp only[aN.cells]at H;clear B w;simp only[go_sem,seval,o,E,if_true];refine sc aI H ?_;cases F:bR W
  ·simp only[F,eO,jm,if_false]at a;have j:iU r b.qs=1:=a.symm;simp only[go_sem,seval,F,j];all_goals simp
  simp only[go_sem,seval,if_true];refine sc aI S ?_;refine sc aI I ?_;cases R:bR C
  ·simp only[F,R,Bool.and_false,jm,if_false]at a;have j:iU r b.qs=1:=a.symm;simp only[go_sem,seval,R,j];all_goals simp
  simp only[F,R,Bool.and_self,if_true]at a
  cases V:p.eN==0<;>cases X:C==0<;>(
   simp only[V,X,Bool.and_self,Bool.and_false,eO,jm,if_false,if_true,List.append_nil]at s;simp only[go_sem,seval,bne,V,X,P];refine bG ?_;try refine af.u l a ?_
   try simp only[go_sem,seval,s,y])
  all_goals simp
 ·intro _ M a;rw[mT]at a;have j:iU r b.qs=0:=a.symm;simp only[go_sem,seval,M,j,ef];(with_reducible and_intros)<;>first|exact .dq|omega|skip
