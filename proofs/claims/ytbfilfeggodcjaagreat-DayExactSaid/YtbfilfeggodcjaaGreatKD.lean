/- Parts. -/
import Derived.Test.YtbfilfeggodcjaaGreatKA
set_option linter.all false
set_option maxHeartbeats 4000000
set_option maxRecDepth 16000
namespace Go.Proofs.YtbfilfeggodcjaaGreat
open Go.Abs Tryz
open List
def yB(r:aC)(x:kq):av:=gL av.a x.cE ⟨0,0,0,0⟩ r.xs
def GO(r:aC)(w c:Int)(x:kq):Bool:=decide (0<=iD av.a x.cE r.xs)&&(x.who==w&&(yB r x).b==c)
def gq(r:aC)(w c:Int)(ps:List kq):List Int:=(ps.filter (GO r w c)).map λx=>(yB r x).V x.units
def eS(r:aC)(w c:Int):List kq->Int
 | []=>0
 |x::l=>if GO r w c x&&(yB r x).E x.units != 0 then(yB r x).E x.units else eS r w c l
def CI(r:aC)(w c:Int)(ps:List kq){i:Nat}(h:i<ps.length):gq r w c (ps.take (i+1))=if GO r w c ps[i]then gq r w c (ps.take i)++[(yB r ps[i]).V ps[i].units]else gq r w c (ps.take i):=by
 simp only[gq];rw[kM h,rR,jH];cases a:GO r w c ps[i]<;>simp[filter,a]
def tI(r:aC)(w c:Int)(ps:List kq):(gq r w c ps).length<=ps.length:=by
 simp only[gq,mY];exact length_filter_le _ _
def nV(l:bS)(r:aC)(ps:List kq):Int:=if l.okB&&r.okB&&j5 ps then 0 else 14
def uP(l:bS)(r:aC)(ps:List kq)(w c:Int):Int:=
 if nV l r ps != 0 then nV l r ps else if eS r w c ps != 0 then eS r w c ps else nG (m0 ⟨2,w,c⟩ l.bs::gq r w c ps)
def th(l:bS)(r:aC)(ps:List kq)(w c:Int):Int:=
 if nV l r ps != 0 then 0 else if eS r w c ps != 0 then 0 else nH (m0 ⟨2,w,c⟩ l.bs::gq r w c ps)
theorem Qs(l:bS)(r:aC)(ps:List kq)(w c:Int)(K:l.bs.length<2^30)(hr:r.small)(hp:ps.length<2^30) :
  Sq 124 [] [.agg l.cells,.agg r.cells,.sl 3 (pl ps),.int .i64 w,.int .i64 c] [] (.bH [.int .i64 (th l r ps w c),.int .i64 (uP l r ps w c)]):=by
 have v:=pg l K;have x:=gF r hr;have H:=Em ps aj;have y:=I5 l ⟨2,w,c⟩ aj;have z:=λn=>sP r n hr;simp only[bS.cells,aG.cells]at v y |-;simp only[aC.cells]at x z |-;refine aX 85 5 [.tmp 10,.tmp 11] mixed func124 ?_;refine sc aI v ?_;cases D:l.okB
 ·have e:nV l r ps=14:=by simp[nV,D]
  have j:uP l r ps w c=14:=by simp[uP,e]
  have e2:th l r ps w c=0:=by simp[th,e]
  simp only[go_sem,seval,j,e2]
 refine sc aI x ?_;cases F:r.okB
 ·have e:nV l r ps=14:=by simp[nV,F]
  have j:uP l r ps w c=14:=by simp[uP,e]
  have e2:th l r ps w c=0:=by simp[th,e]
  simp only[go_sem,seval,j,e2]
 refine sc aI H ?_;cases G:j5 ps
 ·have e:nV l r ps=14:=by simp[nV,G]
  have j:uP l r ps w c=14:=by simp[uP,e]
  have e2:th l r ps w c=0:=by simp[th,e]
  simp only[go_sem,seval,j,e2]
 have e:nV l r ps=0:=by simp[nV,D,F,G]
 have j:uP l r ps w c=if eS r w c ps != 0 then eS r w c ps else nG (m0 ⟨2,w,c⟩ l.bs::gq r w c ps):=by simp[uP,e]
 have e2:th l r ps w c=if eS r w c ps != 0 then 0 else nH (m0 ⟨2,w,c⟩ l.bs::gq r w c ps):=by simp[th,e]
 rw[j,e2];clear j e2 e;simp only[go_sem,seval];refine ak.aH y ?_;obtain⟨o,L⟩:=aV (m0 ⟨2,w,c⟩ l.bs);rw[<-L];simp only[go_sem,seval];refine aF.count ps.length [3,4,6,39,40] [112] (λi=>[(41,.int .i64 i),(13,.ref 1280)]) (λi=>[(1280,.own 1 (ints (o::gq r w c (ps.take i))))]) (λi=>eS r w c (ps.drop i)=eS r w c ps) (by simp) ?_ ?_
 ·simp only[go_sem,seval]<;>simp[gq,ints]
 ·intro i hi f;simp only[go_sem,seval];refine aU.cQ (λh=>?_) (λh=>?_)
  ·have g:i<ps.length:=aj
   have s:IntKind.wrap .i64 ((i:Int)+1)=((i+1:Nat):Int):=eM;have d:=CI r w c ps g;have A:=z ps[i].cE;have hvl:=tI r w c (ps.take i);have htl:(ps.take i).length<=ps.length:=by simp;omega
   rw[J8 g]at f;simp only[eS]at f;obtain⟨a,B⟩:=aV (yB r ps[i]);have C:gL av.a ps[i].cE ⟨0,0,0,0⟩ r.xs=a:=B.symm;rw[C]at A;rw[<-B]at f d;have q:GO r w c ps[i]=(decide (0<=iD av.a ps[i].cE r.xs)&&(ps[i].who==w&&a.b==c)):=by rw[B];rfl
   have I:=JQ a ps[i].units;simp only[av.cells]at A I;clear v x H y z;simp only[go_sem,seval,mP ps g];refine⟨by omega,ak.aH A ?_⟩;cases k:decide (0<=iD av.a ps[i].cE r.xs)
   ·rw[q,k]at f d;simp only[eO,jm,if_false]at f d;simp only[go_sem,seval,k,s];refine af.bF g f ?_
    simp only[go_sem,seval,d]
   cases p:ps[i].who==w
   ·rw[q,k,p]at f d;simp only[eO,cF,jm,if_false]at f d;simp only[go_sem,seval,k,bne,p,s];refine af.bF g f ?_
    simp only[go_sem,seval,d]
   cases t:a.b==c
   ·rw[q,k,p,t]at f d;simp only[eO,cF,jm,if_false]at f d;simp only[go_sem,seval,k,bne,p,t,s];refine af.bF g f ?_
    simp only[go_sem,seval,d]
   rw[q,k,p,t]at f d;simp only[cF,Bool.and_self,if_true]at f d;simp only[go_sem,seval,k,bne,p,t];refine ak.aH I ?_;cases u:a.E ps[i].units==0
   ·have m:(a.E ps[i].units != 0)=true:=by simp[bne,u]
    rw[m,aE rfl]at f;have J:eS r w c ps=a.E ps[i].units:=f.symm;simp only[go_sem,seval,bne,u,J,Bool.not_false,if_true]
   ·have m:(a.E ps[i].units != 0)=false:=by simp[bne,u]
    rw[m]at f;simp only[jm,if_false]at f;simp only[go_sem,seval,bne,u,s,aL];refine⟨by omega,af.bF g f ?_⟩;simp only[go_sem,seval,d]<;>simp[ints]
  ·obtain rfl:i=ps.length:=aj
   simp only[mT,eS]at f;have hlen:=tI r w c ps;have M:=oA (o::gq r w c ps) (by simp;omega);rw[<-f];simp only[go_sem,seval,ef];refine ak.fk [] [] true (by simp) ?_;simp only[go_sem,seval];refine bX.fV M ?_;simp only[go_sem,seval]<;>simp
def ZN(r:aC)(w c:Int)(x:kq):Int:=if GO r w c x then(yB r x).V x.units else 0
def Q3(r:aC)(w c:Int):List kq->Int
 | []=>0
 |x::l=>ZN r w c x+Q3 r w c l
theorem KL(r:aC)(w c:Int):∀ps:List kq,aK (gq r w c ps)=Q3 r w c ps
 | []=>rfl
 |x::l=>by
  have a:=KL r w c l;simp only[gq]at a;simp only[Q3,ZN,gq,filter];cases hb:GO r w c x
  ·simp only[jm,if_false,a];omega
  ·simp only[map_cons,aK,if_true,a]
theorem aY(a b c:Int):Sq 145 [] [.int .i64 a,.int .i64 b,.int .i64 c] [] (.bool (within a b c)):=by
 refine aX 15 3 [.tmp 6] mixed func145 ?_;refine s0 ?_;repeat' with_reducible first|apply And.intro|exact .dq|refine ak.aH (by assumption) ?_|refine gr (λh=>?_) λh=>?_|refine .id ?_|refine af.bF aj ?_ ?_|exact aI|simp only[*,go_sem,seval]
 all_goals(simp only[within];simp<;>omega)
theorem ff(a b c:Int):Sq 132 [] [.int .i64 a,.int .i64 b,.int .i64 c] [] (.bool (within a b c)):=by
 refine aX 15 3 [.tmp 6] mixed func132 ?_;refine s0 ?_;repeat' with_reducible first|apply And.intro|exact .dq|refine ak.aH (by assumption) ?_|refine gr (λh=>?_) λh=>?_|refine .id ?_|refine af.bF aj ?_ ?_|exact aI|simp only[*,go_sem,seval]
 all_goals(simp only[within];simp<;>omega)
theorem oN(c:Int):Sq 196 [] [.int .i64 c] [] (.bool (within c 0 2)):=by
 have h:=aY c 0 2;refine aX 5 1 [.tmp 2] mixed func196 ?_;refine s0 ?_;exact Zh
theorem gP(c:Int):Sq 194 [] [.int .i64 c] [] (.bool (within c 1 16)):=by
 have h:=aY c 1 16;refine aX 5 1 [.tmp 2] mixed func194 ?_;refine s0 ?_;exact Zh
theorem zx(c:Int):Sq 195 [] [.int .i64 c] [] (.bool (within c 1 6)):=by
 have h:=ff c 1 6;refine aX 5 1 [.tmp 2] mixed func195 ?_;refine s0 ?_;exact Zh
def um(x:av):Sq 187 [] [.agg x.cells] [] (.bool x.ok):=by
 have h1:=aY x.a 1 6;have h2:=oN x.b;have h3:=aY x.c 1 1073741824;have h4:=aY x.d 0 10000;refine aX 21 1 [.tmp 2] mixed func187 ?_;simp only[go_sem,seval,av.cells];repeat' with_reducible first|apply And.intro|exact .dq|refine ak.aH (by assumption) ?_|refine gr (λh=>?_) λh=>?_|refine .id ?_|refine af.bF aj ?_ ?_|exact aI|simp only[*,go_sem,seval]
 all_goals(simp only[av.ok];simp_all)
theorem Hg(a:Nat)(h:a<9223372036854775808):Sq 239 [] [.int .i64 a] [] (.int .u64 a):=by
 have b:decide ((a:Int)<0)=false:=by simp
 have c:IntKind.wrap .u64 (a:Int)=a:=by rw[IntKind.wrap_u64];omega
 refine aX 10 1 [.tmp 2] mixed func239 ?_;exact dJ (a2 b c)
theorem Du(a b:Nat)(c:a<9223372036854775808)(d:b<9223372036854775808):Sq 200 [] [.int .i64 a,.int .i64 b] [] (.agg [.int .i64 ((a*b/18446744073709551616:Nat):Int),.int .u64 ((a*b%18446744073709551616:Nat):Int)]):=by
 have g:=Hg a c;have h:=Hg b d;have i:=uM a b aj aj;have hP:a*b/18446744073709551616<9223372036854775808:=by
  have:a*b<9223372036854775808*9223372036854775808:=Nat.mul_lt_mul'' c d;omega
 have j:IntKind.wrap .i64 ((a*b/18446744073709551616:Nat):Int)=((a*b/18446744073709551616:Nat):Int):=by rw[IntKind.wrap_i64];omega
 have e:decide ((a:Int)<0)=false:=by simp
 have f:decide ((b:Int)<0)=false:=by simp
 refine aX 28 2 [.cell 4 133] mixed func200 ?_;refine sc aI g ?_;refine sc aI h ?_;exact qt (a3 j e f) i
theorem HI(P N:Nat)(i:0<N/\N<9223372036854775808)(hP:P<170141183460469231731687303715884105728):Sq 245 [] [.agg [.int .i64 ((P/18446744073709551616:Nat):Int),.int .u64 ((P%18446744073709551616:Nat):Int)],.int .i64 N] []
  (.bH [.I (if P/N<=4611686018427387904 then(P/N:Nat)else(0:Int)),.I (if P/N<=4611686018427387904 then(P%N:Nat)else(0:Int)),.bool (decide (P/N<=4611686018427387904))]):=by
 obtain⟨H,n⟩:=aV (P/18446744073709551616);obtain⟨L,o⟩:=aV (P%18446744073709551616);have c:H*18446744073709551616+L=P:=aj
 have d:L<18446744073709551616:=aj
 have hHl:H<9223372036854775808:=aj
 rw[<-n,<-o];obtain⟨Q,e⟩:=aV (P/N);obtain⟨R,f⟩:=aV (P%N);have hRN:R<N:=by rw[f];exact Nat.mod_lt _ i.1
 have j:=AU H L N aj;rw[c,<-e,<-f]at j;have b:N<=H->18446744073709551616<=Q:=λh=>by
  rw[e,Nat.le_div_iff_mul_le i.1];have:=gK 18446744073709551616 h;rw[Nat.mul_comm]at this;omega
 rw[<-e,<-f];have l:decide ((N:Int)<1)=false:=by simp;omega
 have m:decide ((H:Int)<0)=false:=by simp
 have w1:IntKind.wrap .u64 (H:Int)=H:=by rw[IntKind.wrap_u64];omega
 have k:IntKind.wrap .u64 (N:Int)=N:=by rw[IntKind.wrap_u64];omega
 refine aX 79 2 [.tmp 4,.tmp 5,.tmp 6] mixed func245 ?_;refine sm (a4 l m w1 k) ?_;refine⟨dH.mk (by kernel_rfl),tL.mk (by kernel_rfl),tL.mk (by kernel_rfl),?_⟩;refine aU.cQ (λh=>?_) (λh=>?_)
 ·have g:=b aj;have a:¬Q<=4611686018427387904:=aj
  simp only[go_sem,seval,az a,kY a]
 ·have g:H<N:=aj
  refine sc (a2 w1 k) (j g d) ?_;refine aU.cQ (λp=>?_) (λp=>?_)
  ·have a:¬Q<=4611686018427387904:=aj
   simp only[go_sem,seval,az a,kY a]
  ·have a:Q<=4611686018427387904:=aj
   have q:IntKind.wrap .i64 (Q:Int)=Q:=lF aj aj;have r:IntKind.wrap .i64 (R:Int)=R:=lF aj aj;simp only[go_sem,seval,aE a,gJ a,q,r]
theorem Dv(x:av)(u:Int):Sq 216 [] [.agg x.cells,.int .i64 u] [] (.bH [.int .i64 (x.V u),.int .i64 (x.E u)]):=by
 have m:=um x;have o:=ff u 0 1099511627776;simp only[av.cells]at m |-;refine aX 33 2 [.tmp 4,.tmp 5] mixed func216 ?_;refine sc aI m ?_;cases a:x.ok
 ·have e:x.V u=0:=by simp[av.V,av.fit,a]
  have e2:x.E u=3:=by simp[av.E,av.fit,a]
  exact dJ (a2 e e2)
 refine sc aI o ?_;cases b:within u 0 1099511627776
 ·have g:x.fit u=false:=by simp[av.fit,a];simp[within]at b;omega
  have e:x.V u=0:=by simp[av.V,g]
  have e2:x.E u=3:=by simp[av.E,g]
  exact dJ (a2 e e2)
 have g:x.fit u=true:=by simp[av.fit,a];simp[within]at b;omega
 have hr:=(av.N2 x).1 a;obtain⟨U,rfl⟩:∃U:Nat,u=U:=⟨u.toNat,by simp[within]at b;omega⟩
 have s:U<=1099511627776:=by simp[within]at b;omega
 obtain⟨C,n⟩:∃C:Nat,x.c=C:=⟨x.c.toNat,by omega⟩
 obtain⟨M,p⟩:∃M:Nat,10000-x.d=M:=⟨(10000-x.d).toNat,by omega⟩
 have j:C<=1073741824:=aj
 have l:M<=10000:=aj
 have k:C*M<=1073741824*10000:=Nat.mul_le_mul j l;have hP:U*(C*M)<=1099511627776*(1073741824*10000):=Nat.mul_le_mul s k;have w1:IntKind.wrap .i64 (10000-x.d)=M:=eM;have t:IntKind.wrap .i64 (x.c*(M:Int))=((C*M:Nat):Int):=by
  rw[n,<-Int.natCast_mul,lF aj aj]
 have r:=Du U (C*M) aj aj;have q:=HI (U*(C*M)) 10000 aj aj;have f:x.P U=((U*(C*M):Nat):Int):=by
  simp only[av.P,p,n];rw[Int.natCast_mul,Int.natCast_mul,Int.mul_assoc,Int.mul_comm (M:Int)]
 refine sc (a2 w1 t) r ?_;refine ak.aH q ?_;by_cases i:U*(C*M)/10000<=4611686018427387904
 ·have h:bR (x.P U/10000)=true:=by rw[f];simp only[bR,dO,bP];omega
  have e:x.V U=((U*(C*M)/10000:Nat):Int):=by
   simp only[av.V,g,if_true,B5,h];rw[f];rfl
  have e2:x.E U=0:=by simp[av.E,g,Dh,h]
  simp only[go_sem,seval,aE i,gJ i,e,e2]
 ·have h:bR (x.P U/10000)=false:=by rw[f];simp only[bR,Bool.and_eq_false_iff,iX];omega
  have e:x.V U=0:=by simp[av.V,g,B5,h]
  have e2:x.E U=1:=by simp[av.E,g,Dh,h]
  simp only[go_sem,seval,az i,kY i,e,e2]
def wI(w a:Int):jK w a=(within w 1 16&&within a 1 6):=by simp[jK,within,Bool.and_assoc]
def BN(q p:kq):Bool:=decide (q.who>p.who)||(q.who==p.who&&decide (q.cE >= p.cE))
def Qz{q p:kq}(b:jK q.who q.cE=true)(a:jK p.who p.cE=true):BN q p = !decide (ET q p.who p.cE<0):=by
 rw[AQ b a,gI];simp only[BN,Bool.or_eq_true,dO,bP,gm,jY,iX];split<;>omega
def rK(ps:List kq)(hl:ps.length<2^62):Sq 101 [] [.sl 3 (pl ps)] [] (.bool (j5 ps)):=by
 refine aX 66 1 [.tmp 2] mixed func101 ?_;refine s0 ?_;refine aF.count ps.length [0] [] (λi=>[(3,.I i)]) (λi=>[]) (λi=>∀j<i,oh ps j=true) sT ?_ ?_
 ·exact lA
 ·intro i hi l;refine s0 ?_;refine aU.cQ (λh=>?_) (λh=>?_)
  ·have b:i<ps.length:=aj
   have hw:IntKind.wrap .i64 ((i:Int)+1)=((i+1:Nat):Int):=eM;have o:=gP ps[i].who;have p:=zx ps[i].cE;have q:=ff ps[i].units 1 1099511627776;have a:=Fw b;have f:within ps[i].units 1 1099511627776=(decide (1<=ps[i].units)&&decide (ps[i].units<=1099511627776)):=rfl;rw[wI,Bool.and_assoc _ (decide (1<=ps[i].units)),<-f]at a;clear f;have e0:oh ps i=true->∀k<i+1,oh ps k=true:=λs k a=>by
    rcases cq k i with h|h
    ·exact l k h
    ·obtain rfl:k=i:=aj
     exact s
   have g:oh ps i=false->j5 ps=false:=DO b;rcases Nat.eq_zero_or_pos i with rfl|hpos
   ·simp only[go_sem,seval,mP ps b];repeat' with_reducible first|apply And.intro|exact .dq|refine ak.aH (by assumption) ?_|refine ak.aH (o) ?_|refine ak.aH (p) ?_|refine ak.aH (q) ?_|refine gr (λh=>?_) λh=>?_|refine .id ?_|refine af.bF aj ?_ ?_|exact aI|simp only[*,go_sem,seval]
    all_goals first
     |omega
     |rfl
     | (refine e0 ?_;rw[a];simp_all;done)
     | (refine e0 ?_;rw[a];simp_all[BN];omega)
     | (rw [g ?_]
        cases c:oh ps 0
        ·rfl
        ·exfalso;rw[a]at c;simp_all[BN])
     | (rw [g ?_]
        cases c:oh ps 0
        ·rfl
        ·exfalso;rw[a]at c;simp_all[BN];omega)
   ·obtain⟨j,rfl⟩:∃j,i=j+1:=⟨i-1,by omega⟩
    have m:j<ps.length:=aj
    have hw1:IntKind.wrap .i64 (((j+1:Nat):Int)-1)=(j:Int):=eM;have r:ps.getD (j+1-1) ⟨0,0,0⟩=ps[j]:=by simp[m]
    rw[r]at a;have d:=l j aj;have n:jK ps[j].who ps[j].cE=true:=by
     rw[Fw m]at d;simp only[dO]at d;exact d.1.1.1
    replace a:oh ps (j+1)=(within ps[j+1].who 1 16&&within ps[j+1].cE 1 6&&within ps[j+1].units 1 1099511627776&&!BN ps[j] ps[j+1]):=by
     rw[a];cases e:within ps[j+1].who 1 16&&within ps[j+1].cE 1 6
     ·simp
     ·rw[<-wI]at e;rw[Qz n e];simp
    simp only[go_sem,seval,mP ps b];repeat' with_reducible first|apply And.intro|exact .dq|refine ak.aH (by assumption) ?_|refine ak.aH (o) ?_|refine ak.aH (p) ?_|refine ak.aH (q) ?_|refine gr (λh=>?_) λh=>?_|refine .id ?_|refine af.bF aj ?_ ?_|exact aI|simp only[*,go_sem,seval,mP ps m]
    all_goals first
     |omega
     |rfl
     | (refine e0 ?_
        have t:BN ps[j] ps[j+1]=false:=by
         simp only[gm,beq_eq_false_iff_ne]at *;simp only[BN,Bool.or_eq_false_iff,Bool.and_eq_false_iff,iX,beq_eq_false_iff_ne];omega
        rw[a,t]
        simp only[*,Bool.and_self,Bool.not_false])
     | (refine e0 ?_;rw[a];simp_all;done)
     | (refine e0 ?_;rw[a];simp_all[BN];omega)
     | (rw [g ?_]
        cases c:oh ps (j+1)
        ·rfl
        ·exfalso;rw[a]at c;simp_all[BN])
     | (rw [g ?_]
        cases c:oh ps (j+1)
        ·rfl
        ·exfalso;rw[a]at c;simp_all[BN];omega)
  ·obtain rfl:i=ps.length:=aj
   have hc:=AF l;exact Zh
def lB(R:List (List D))(h:R.length<2^60):Sq 17 [.own 3 R] [.ref 0] [.undef] (.bH []):=by
 refine aX 13 1 [] mixed func17 ?_;refine s0 ?_;refine bG ?_;refine aF.mN (S:=List (List D)) R.length [0] [] (λi _=>[(2,.I i)]) (λ_ x=>[(0,.own 3 x)]) (λ_ x=>x.length=R.length) R rfl ?_ ?_ ?_
 ·exact lA
 ·intro i x e b d a;refine sm (a2 a b) ?_;refine bG ?_;refine sm d ?_;refine af.jz (x.set i (dc (x.getD i []) 0 [.I (-77)])) e (by simp[a]) ?_;exact iM
 intro x c a;exact dJ (a2 a c)
def DE:Sq 17 [] [.nil] [] (.bH []):=by
 refine aX 13 1 [] mixed func17 ?_;refine s0 ?_;refine bG ?_;refine aF.wv 0 [0] [] (λi=>[(2,.I i)]) (λ_=>[]) ?_ ?_ ?_
 ·exact lA
 ·intro i _ a;exact absurd a (Nat.not_lt_zero i)
 ·intro _ hdx _;exact lA
def CB(R:List (List D))(h:R.length<2^60):Sq 154 [.own 4 R] [.ref 0] [.undef] (.bH []):=by
 refine aX 14 1 [] mixed func154 ?_;refine s0 ?_;refine bG ?_;refine aF.mN (S:=List (List D)) R.length [0] [] (λi _=>[(2,.I i)]) (λ_ x=>[(0,.own 4 x)]) (λ_ x=>x.length=R.length) R rfl ?_ ?_ ?_
 ·exact lA
 ·intro i x e b d a;refine sm (a2 a b) ?_;refine bG ?_;refine sm d ?_;refine af.jz (x.set i (dc (x.getD i []) 0 [.I (-77)])) e (by simp[a]) ?_;exact iM
 intro x c a;exact dJ (a2 a c)
theorem zH(c n a:Int)(R F:List (List D))(h:R.length<2^60)(h2:F.length<2^60):Sq 65 [.own 3 R,.own 8 F] [.agg [.int .i64 c,.int .i64 n,.int .i64 a,.ref 0,.ref 1]] [.undef,.undef] (.bH []):=by
 have c1:=lB R h;refine aX 18 1 [] mixed func65 ?_;refine sg [0] aI c1 ?_;refine bG ?_;refine aF.mN (S:=List (List D)) F.length [1] [32] (λi _=>[(2,.I i)]) (λ_ x=>[(1,.own 8 x)]) (λ_ x=>x.length=F.length) F rfl ?_ ?_ ?_
 ·exact lA
 ·intro i x g d f b;refine sm (a2 b d) ?_;refine bG ?_;refine sm f ?_;refine af.jz (x.set i (dc (x.getD i []) 0 [.I (-77)])) g (by simp[b]) ?_;exact iM
 intro x e b;exact dJ (a2 b e)
theorem ym(l:Int)(R:List (List D))(h:R.length<2^60):Sq 64 [.own 4 R] [.agg [.int .i64 l,.ref 0]] [.undef] (.bH []):=by
 refine aX 16 1 [] mixed func64 ?_;refine s0 ?_;refine bG ?_;refine aF.mN (S:=List (List D)) R.length [1] [32] (λi _=>[(2,.I i)]) (λ_ x=>[(0,.own 4 x)]) (λ_ x=>x.length=R.length) R rfl ?_ ?_ ?_
 ·exact lA
 ·intro i x e b d a;refine sm (a2 a b) ?_;refine bG ?_;refine sm d ?_;refine af.jz (x.set i (dc (x.getD i []) 1 [.I (-77)])) e (by simp[a]) ?_;exact iM
 intro x c a;exact dJ (a2 a c)
theorem CA(n:Int)(R Q:List (List D))(h:R.length<2^60)(e:Q.length<2^60):Sq 63 [.own 7 R,.own 4 Q] [.agg [.int .i64 n,.ref 0,.ref 1]] [.undef,.undef] (.bH []):=by
 have c1:=CB Q e;refine aX 18 1 [] mixed func63 ?_;refine s0 ?_;refine bG ?_;refine aF.mN (S:=List (List D)) R.length [1] [32,1] (λi _=>[(2,.I i)]) (λ_ x=>[(0,.own 7 x)]) (λ_ x=>x.length=R.length) R rfl ?_ ?_ ?_
 ·exact lA
 ·intro i x f b d a;refine sm (a2 a b) ?_;refine bG ?_;refine sm d ?_;refine af.jz (x.set i (dc (x.getD i []) 0 [.I (-77)])) f (by simp[a]) ?_;exact iM
 intro x c a;exact Yf [1] (a2 a c) c1
def CC(A B C:List (List D))(h:A.length<2^60)(h2:B.length<2^60)(h3:C.length<2^60):Sq 62 [.own 3 A,.own 12 B,.own 4 C] [.agg [.ref 0,.ref 1,.ref 2]] [.undef,.undef,.undef] (.bH []):=by
 refine aX 41 1 [] mixed func62 ?_;refine s0 ?_;refine bG ?_;refine aF.mN (S:=List (List D)) A.length [1] [32,1,2] (λi _=>[(2,.I i)]) (λ_ x=>[(0,.own 3 x)]) (λ_ x=>x.length=A.length) A rfl ?_ ?_ ?_
 ·exact lA
 ·intro i x d a b c;refine sm (a2 c a) ?_;refine bG ?_;refine sm b ?_;refine af.jz (x.set i (dc (x.getD i []) 0 [.I (-77)])) d (by simp[c]) ?_;exact iM
 intro x e c;refine sm (a2 c e) ?_;refine bG ?_;refine aF.mN (S:=List (List D)) B.length [1] [32,0,2] (λi _=>[(3,.I i)]) (λ_ x=>[(1,.own 12 x)]) (λ_ x=>x.length=B.length) B rfl ?_ ?_ ?_
 ·exact lA
 ·intro i x d a b c;refine sm (a2 c a) ?_;refine bG ?_;refine sm b ?_;refine af.jz (x.set i (dc (x.getD i []) 0 [.I (-77)])) d (by simp[c]) ?_;exact iM
 intro y f j;refine sm (a2 j f) ?_;refine bG ?_;refine aF.mN (S:=List (List D)) C.length [1] [32,0,1] (λi _=>[(4,.I i)]) (λ_ x=>[(2,.own 4 x)]) (λ_ x=>x.length=C.length) C rfl ?_ ?_ ?_
 ·exact lA
 ·intro i x d a b c;refine sm (a2 c a) ?_;refine bG ?_;refine sm b ?_;refine af.jz (x.set i (dc (x.getD i []) 0 [.I (-77)])) d (by simp[c]) ?_;exact iM
 intro z g k;exact dJ (a2 k g)
theorem KB{A:Type}{i:Nat}(a b:A)(y:List A):∀{x:List A},x.length=i->(x++a::y).set i b=x++b::y
 | [],h=>by subst h;rfl
 |c::x,h=>by
  subst h;simp only[cons_append,length_cons,set_cons_succ];rw[KB a b y rfl]
theorem J9{A:Type}{i:Nat}(a:A)(y:List A){x:List A}(h:x.length=i):(x++a::y)[i]?=some a:=by
 subst h;simp
def zI(now day ph next last:Int)(B C E F G H q s t:List (List D))(l:List aS)(Q:B.length<2^60)(R:C.length<2^60)(T:E.length<2^60)(U:F.length<2^60)(V:G.length<2^60)(W:H.length<2^60)(h6:q.length<2^60)(h7:s.length<2^60)(h8:t.length<2^60)(hl:l.length<2^60)(hs:∀x∈l,x.r.fits) :
  Sq 16 [.own 3 B,.own 12 C,.own 4 E,.own 7 F,.own 4 G,.own 4 H,.own 3 q,.own 4 s,.own 5 t,.iI 7 (l.map aS.cells)]
   [.agg [.I now,.I day,.I ph,.ref 0,.ref 1,.ref 2,.I next,.ref 3,.ref 4,.I last,.ref 5,.ref 6,.ref 7,.ref 8,.ref 9]] [.undef,.undef,.undef,.undef,.undef,.undef,.undef,.undef,.undef,.undef] (.bH []):=by
 have c1:=CC B C E Q R T;have c2:=CA next F G U V
 have c3:=ym last H W;refine aX 72 1 [] mixed func16 ?_;refine sg [0,1,2] aI c1 ?_;refine sg [3,4] aI c2 ?_;refine sg [5] aI c3 ?_;refine bG ?_;refine aF.mN (S:=List (List D)) q.length [1] [32,7,8,9] (λi _=>[(2,.I i)]) (λ_ x=>[(6,.own 3 x)]) (λ_ x=>x.length=q.length) q rfl ?_ ?_ ?_
 ·exact lA
 ·intro i x m f g c;refine sm (a2 c f) ?_;refine bG ?_;refine sm g ?_;refine af.jz (x.set i (dc (x.getD i []) 0 [.I (-77)])) m (by simp[c]) ?_;exact iM
 intro x o c;refine sm (a2 c o) ?_;refine bG ?_;refine aF.mN (S:=List (List D)) s.length [1] [32,6,8,9] (λi _=>[(3,.I i)]) (λ_ x=>[(7,.own 4 x)]) (λ_ x=>x.length=s.length) s rfl ?_ ?_ ?_
 ·exact lA
 ·intro i x m f g c;refine sm (a2 c f) ?_;refine bG ?_;refine sm g ?_;refine af.jz (x.set i (dc (x.getD i []) 0 [.I (-77)])) m (by simp[c]) ?_;exact iM
 intro y J X;refine sm (a2 X J) ?_;refine bG ?_;refine aF.mN (S:=List (List D)) t.length [1] [32,6,7,9] (λi _=>[(4,.I i)]) (λ_ x=>[(8,.own 5 x)]) (λ_ x=>x.length=t.length) t rfl ?_ ?_ ?_
 ·exact lA
 ·intro i x m f g c;refine sm (a2 c f) ?_;refine bG ?_;refine sm g ?_;refine af.jz (x.set i (dc (x.getD i []) 0 [.I (-77)])) m (by simp[c]) ?_;exact iM
 intro z K Z;refine sm (a2 Z K) ?_;refine bG ?_;clear c1 c2 c3;refine aF.mN (S:=List (List D)) l.length [1] [32,6,7,8] (λi _=>[(5,.I i)]) (λi x=>[(9,.iI 7 (x++(l.drop i).map aS.cells))]) (λi x=>x.length=i) [] rfl ?_ ?_ ?_
 ·exact lA
 ·intro i x m f g c;have e:(x++(l.drop i).map aS.cells).length=l.length:=by simp[c];omega
  have n:(l.drop i).map aS.cells=aS.cells l[i]::(l.drop (i+1)).map aS.cells:=by rw[drop_eq_getElem_cons m,map_cons]
  obtain⟨q1,q2⟩:=hs _ (cZ m);obtain⟨v,hv⟩:=aV (l[i]);obtain⟨Y,O⟩:=aV ((l.drop (i+1)).map aS.cells);rw[<-hv]at n q1 q2;rw[<-O]at n;rw[n]at e |-;have w:(x++aS.cells v::Y).getD i []=aS.cells v:=by rw[getD_eq_getElem?_getD,J9 _ _ c];rfl
  have A:=λa b=>KB (i:=i) a b Y c;have c4:=zH v.r.code v.r.no v.r.cw (v.r.xC.map aB.cells) (v.r.falls.map dZ.cells) (by simp;omega) (by simp;omega);have L:=λa=>J9 (i:=i) a Y c;have M:i<(x++aS.cells v::Y).length:=aj
  simp only[aS.cells]at e w M |-;have N:∀r:List D,(i:Int)<((x++r::Y).length:Int):=λr=>by simp;omega
  have u:∀r,(x++[r])++(l.drop (i+1)).map aS.cells=x++r::Y:=λr=>by rw[O];simp
  refine sm (a3 e f w) ?_;simp only[dc,take_zero,nil_append,length_singleton,drop_succ_cons,drop_zero,cons_append,A];(with_reducible and_intros)<;>first|exact .dq|exact N _|omega|skip
  refine bO.aab (i:=i) (k:=2) (z:=7) (z1:=3) (z2:=8) (p:=[.I v.r.code,.I v.r.no,.I v.r.cw]) (R1:=v.r.xC.map aB.cells) (R2:=v.r.falls.map dZ.cells) Z8 rfl rfl rfl (L _) ?_ ?_ rfl rfl rfl (by decide) rfl rfl ?_
  ·intro d P;simp only[mem_cons,not_mem_nil,or_false]at P;rcases P with rfl|rfl|rfl<;>trivial
  ·intro j d h;rcases j with _| _| _|j
   ·exact h
   ·exact h
   ·exact h
   ·simp at h
  simp only[go_sem,seval,length_cons,length_nil,set_cons_succ,set_cons_zero,A];refine sg [1136,1137] g c4 ?_;refine bG ?_;refine af.jz (x++[[.I (-77),.I v.seq,.I v.r.code,.I v.r.no,.I v.r.cw,.undef,.undef]]) m (by simp[c]) ?_;exact dJ u
 ·intro x o c;have e:(x++(l.drop l.length).map aS.cells).length=l.length:=by simp[c]
  exact dJ (a2 e o)
