/- Parts. -/
import Derived.Test.YtbfilfeggodcjaaGreatKA
set_option linter.all false
set_option maxHeartbeats 4000000
set_option maxRecDepth 16000
namespace Go.Proofs.YtbfilfeggodcjaaGreat
open Go.Abs Tryz
open List hiding lt
def gi{A:Type}{c:A->List D}{l:List A}{i j:Nat}{u v:A}(a:l[i]?=some u)(b:l[j]?=some v) :
  (l.map c).getD i []=c u/\(l.map c).getD j []=c v/\((l.map c).set i (c v)).getD j []=c v/\((l.map c).set i (c v)).set j (c u)=((l.set i v).set j u).map c:=by
 have h1:(l.map c)[i]?=some (c u):=by simp[a]
 have h2:(l.map c)[j]?=some (c v):=by simp[b]
 have d:=cg a;refine⟨by simp[getD,a],by simp[getD,b],?_,by rw[map_set,map_set]⟩;rw[getD,getElem?_set];by_cases h:i=j
 ·subst h;simp[d]
 ·simp[h,b]
theorem Lc{A:Type}(lt:A->A->Bool)(n bs:Nat)(l:List A)(h:l.length<=bs):zf lt n bs l=l:=by
 cases n with
 |zero=>rfl
 |succ n=>rw[zf,az aj]
def IQ{cs:List D}(h:qy cs=True)(e:Env)(bw:Bool)(gs:List Nat)(k:Nat):cs.map (cv e bw gs k)=cs:=(map_congr_left (g:=id) λd a=>Pl.conv bw gs e.o k d (zP (of_eq_true h) d a)).trans (map_id _)
structure vp{A:Type}(τ:TypeId->TypeId)(ρ:FuncId->FuncId)(c0:A->List D)(z b:Nat):Prop where
 r1:CU prog τ ρ 257 5
 r2:CU prog τ ρ 250 5
 r3:CU prog τ ρ 234 4
 r4:CU prog τ ρ 235 5
 r5:CU prog τ ρ 174 3
 r6:CU prog τ ρ 74 2
 t0:τ 0=0
 t3:τ 3=3
 t4:τ 4=4
 tu:τ 282=282
 sl:bY prog (τ 44)=.slice z b true
 el:dS prog (τ 86)=some ⟨true,z⟩
 ne:(τ 86==wA||τ 86==wC)=false
 nv:(τ 86==BV)=false/\(τ 86==xS)=false
 pos:1<=z
 len:∀x,(c0 x).length=z
 ok:∀x,∀d∈c0 x,br d
 nm:∀x,D.aQ (c0 x)=[]
 pl:∀x,qy (c0 x)
def vp.tk{A:Type}{τ:TypeId->TypeId}{ρ:FuncId->FuncId}{c0:A->List D}{z by_:Nat}(H:vp τ ρ c0 z by_)(x:A):(c0 x).take z=c0 x:=take_of_length_le (Nat.le_of_eq (H.len x))
def vp.dr{A:Type}{τ:TypeId->TypeId}{ρ:FuncId->FuncId}{c0:A->List D}{z by_:Nat}(H:vp τ ρ c0 z by_)(x:A):(c0 x).drop z=[]:=drop_eq_nil_of_le (Nat.le_of_eq (H.len x))
def vp.pT{A:Type}{τ:TypeId->TypeId}{ρ:FuncId->FuncId}{c0:A->List D}{z by_:Nat}(H:vp τ ρ c0 z by_)(x:A):qy (c0 x)=True:=eq_true (H.pl x)
section
variable{A:Type}{τ:TypeId->TypeId}{ρ:FuncId->FuncId}{c0:A->List D}{z by_:Nat}(H:vp τ ρ c0 z by_)
include H
def Mk(f:Nat->List A)(a b n N:Nat)(g:D)(hN:N<2^40)(hn:n<=N)(t:∀i,i<n->(f i).length=N/\∃u v,(f i)[a+i]?=some u/\(f i)[b+i]?=some v/\f (i+1)=((f i).set (a+i) v).set (b+i) u) :
  Sq (ρ 257) [.own z ((f 0).map c0)] [.ref 0,.I a,.I b,.I n,g] [.own z ((f n).map c0)] (.bH []):=by
 have hz1:=H.pos;have e:=H.ne;simp only[wA,wC]at e;have h:=H.nv;simp only[BV,xS]at h;have j:=a5 H.sl H.el H.len H.nm (a5 H.tk H.dr H.pT e h);refine zG 38 5 [] (H.r1) mixed func257 λd=>?_;simp only[Ac,L4,ya,Ad,L3,toList_toArray,map_cons,map_nil,H.t0,H.t3,H.t4,H.tu,eC,Bool.not_true,Bool.not_false,Bool.true_or,Bool.false_or,Bool.and_true,cF,dO]at d |-;refine sm j ?_;refine aF.wv n [0,1,2,3] [] (λi=>[(10,.I i)]) (λi=>[(0,.own z ((f i).map c0))]) ?_ ?_ ?_
 ·exact dJ j
 ·intro i _ o k m _;obtain⟨hl,u,v,r,s,w⟩:=t i o;have ha:=cg r;have hb:=cg s;have E:IntKind.wrap .i64 ((a:Int)+i)=((a+i:Nat):Int):=eM;have F:IntKind.wrap .i64 ((b:Int)+i)=((b+i:Nat):Int):=eM;obtain⟨x,y,B,C⟩:=gi (c:=c0) r s;generalize a+i=p at *;generalize b+i=q at *;simp only[go_sem,seval,j,k,E,F,length_set,x,y,B,m];(with_reducible and_intros)<;>first|exact dH.mk (by simp only[d])|exact .dq|omega|exact H.ok _|exact H.pl _|skip
  refine af.v o ?_;exact dJ (a3 j w C)
 ·intro _ l _;exact dJ (a2 j l)
def ve(L U M V R:List A)(h:U.length=V.length)(a b n:Nat)(d:a=L.length)(e:b=L.length+U.length+M.length)(j:n=U.length)(g:D)(c:L.length+U.length+M.length+V.length+R.length<2^40) :
  Sq (ρ 257) [.own z ((L++U++M++V++R).map c0)] [.ref 0,.I a,.I b,.I n,g] [.own z ((L++V++M++U++R).map c0)] (.bH []):=by
 subst j;have:=Mk H (JF L U M V R) a b U.length _ g c aj (λi f=>OP L U M V R h d e f);rwa[OQ,Q4 L U M V R h]at this
def FN(L U V R:List A)(a m b:Nat)(ha:a=L.length)(x:m=L.length+U.length)(hb:b=L.length+U.length+V.length)(v:U.length≠0)(w:V.length≠0)(g:FuncId)(cs:List D)(p:D.aQ cs=[])(h:qy cs=True)(q:∀(B:Nat->Option Nat)(y:Nat->Bool),ju B y cs cs=True)(hN:L.length+U.length+V.length+R.length<2^40) :
  Sq (ρ 250) [.own z ((L++U++V++R).map c0)] [.ref 0,.I a,.I m,.I b,.fn g cs] [.own z ((L++V++U++R).map c0)] (.bH []):=by
 have w1:IntKind.wrap .i64 ((m:Int)-a)=((U.length:Nat):Int):=eM;have C:IntKind.wrap .i64 ((b:Int)-m)=((V.length:Nat):Int):=eM;have hz1:=H.pos;have i:=H.ne;simp only[wA,wC]at i;have j:=H.nv;simp only[BV,xS]at j;have e:=a5 H.sl H.el H.len H.nm (a5 H.tk H.dr H.pT i (a5 j p h q (IQ h)));refine zG 58 5 [] (H.r2) mixed func250 λr=>?_;simp only[Ac,L4,ya,Ad,L3,toList_toArray,map_cons,map_nil,H.t0,H.t3,H.t4,H.tu,eC,Bool.not_true,Bool.not_false,Bool.true_or,Bool.false_or,Bool.and_true,cF,dO]at r |-;refine sm (a3 e w1 C) ?_;refine aF.sE (T:=List A×List A×List A×List A) [0,2,4] [] (λs=>[(10,.I s.2.1.length),(11,.I s.2.2.1.length)]) (λs=>[(0,.own z ((s.1++s.2.1++s.2.2.1++s.2.2.2).map c0))])
  (λs=>s.1++s.2.2.1++s.2.1++s.2.2.2=L++V++U++R/\s.1.length+s.2.1.length=m/\s.2.1.length≠0/\s.2.2.1.length≠0) (λs=>s.2.1.length+s.2.2.1.length) (L,U,V,R) ?_ ?_ ?_
 ·exact⟨rfl,x.symm,v,w⟩
 ·exact dJ e
 ·rintro⟨d,c,V',f⟩ ⟨h1,h2,h3,h4⟩;dsimp only at h1 h2 h3 h4;have hlen:d.length+c.length+V'.length+f.length=L.length+U.length+V.length+R.length:=by
   have:=congrArg length h1;simp only[cT]at this;omega
  rcases Nat.lt_trichotomy c.length V'.length with hlt|heq|hgt
  ·have l:((c.length:Int)==(V'.length:Int))=false:=by simp;omega
   have t:decide ((V'.length:Int)<(c.length:Int))=false:=kR;have n:IntKind.wrap .i64 ((m:Int)-c.length)=((d.length:Nat):Int):=eM;have E:IntKind.wrap .i64 ((m:Int)+V'.length)=((m+V'.length:Nat):Int):=eM;have F:IntKind.wrap .i64 (((m+V'.length:Nat):Int)-c.length)=((m+V'.length-c.length:Nat):Int):=eM;have o:IntKind.wrap .i64 ((V'.length:Int)-c.length)=((V'.length-c.length:Nat):Int):=eM;have k:=ve H d c (V'.take (V'.length-c.length)) (V'.drop (V'.length-c.length)) f (by simp only[dW];omega) d.length (m+V'.length-c.length) c.length rfl (by simp only[dw];omega) rfl;have e0:d++c++V'++f=d++c++V'.take (V'.length-c.length)++V'.drop (V'.length-c.length)++f:=by
    simp only[cu];rw[<-cu (V'.take _),jI]
   refine sm (a5 e lH l t (a4 n E F o)) ?_;refine ak.fk [] [0] false sT ?_;refine sm e ?_;rw[e0];refine bX.fV (k _ (by simp only[dw,dW];omega)) ?_;refine sm (a2 e o) ?_;refine⟨(d,V'.drop (V'.length-c.length),V'.take (V'.length-c.length),c++f),⟨?_,?_,?_,?_⟩,?_,?_⟩
   ·rw[<-h1];simp only[cu];rw[<-cu (V'.take _),jI]
   ·simp only[dW];omega
   ·simp only[dW];omega
   ·simp only[dw];omega
   ·simp only[go_sem,seval,e,dW,dw];exact⟨⟨by omega,by omega⟩,by simp only[cu]⟩
   ·simp only[dW,dw];omega
  ·have l:((c.length:Int)==(V'.length:Int))=true:=by simp;omega
   have n:IntKind.wrap .i64 ((m:Int)-c.length)=((d.length:Nat):Int):=eM;have k:=ve H d c [] V' f heq d.length m c.length rfl (by simp only[length_nil];omega) rfl;have e0:d++c++V'++f=d++c++[]++V'++f:=by simp
   have u:L++V++U++R=d++V'++[]++c++f:=by rw[<-h1];simp
   refine sm (a3 e lH l) ?_;refine dM.id ?_;refine sm (a2 e n) ?_;refine ak.fk [] [0] false sT ?_;refine sm e ?_;rw[e0,u];refine bX.fV (k _ (by simp only[length_nil];omega)) ?_;exact dJ e
  ·have l:((c.length:Int)==(V'.length:Int))=false:=by simp;omega
   have t:decide ((V'.length:Int)<(c.length:Int))=true:=kN;have n:IntKind.wrap .i64 ((m:Int)-c.length)=((d.length:Nat):Int):=eM;have o:IntKind.wrap .i64 ((c.length:Int)-V'.length)=((c.length-V'.length:Nat):Int):=eM;have k:=ve H d (c.take V'.length) (c.drop V'.length) V' f (by simp only[dw];omega) d.length m V'.length rfl (by simp only[dw,dW];omega) (by simp only[dw];omega);have e0:d++c++V'++f=d++c.take V'.length++c.drop V'.length++V'++f:=by
    simp only[cu];rw[<-cu (c.take _),jI]
   refine sm (a5 e lH l t (a2 n o)) ?_;refine ak.fk [] [0] false sT ?_;refine sm e ?_;rw[e0];refine bX.fV (k _ (by simp only[dw,dW];omega)) ?_;refine sm (a2 e o) ?_;refine⟨(d++V',c.drop V'.length,c.take V'.length,f),⟨?_,?_,?_,?_⟩,?_,?_⟩
   ·rw[<-h1];simp only[cu];rw[<-cu (c.take _),jI]
   ·simp only[cT,dW];omega
   ·simp only[dW];omega
   ·simp only[dw];omega
   ·simp only[go_sem,seval,e,dW,dw];omega
   ·simp only[dW,dw];omega
theorem D4(lt:A->A->Bool)(g:FuncId)(cs:List D)(E:D.aQ cs=[])(o:qy cs=True)(F:∀(rh:Nat->Option Nat)(lv:Nat->Bool),ju rh lv cs cs=True)(hg:∀x y:A,∃c:Int,Sq g [] (.agg (c0 x)::.agg (c0 y)::cs) [] (.int .i64 c)/\decide (c<0)=lt x y)(L X R:List A)(a b:Nat)(ha:a=L.length)(hb:b=L.length+X.length)(hN:L.length+X.length+R.length<2^40) :
  Sq (ρ 234) [.own z ((L++X++R).map c0)] [.ref 0,.I a,.I b,.fn g cs] [.own z ((L++xE lt X++R).map c0)] (.bH []):=by
 have w1:IntKind.wrap .i64 ((a:Int)+1)=((a+1:Nat):Int):=eM;have hz1:=H.pos;have r:=H.ne;simp only[wA,wC]at r;have s:=H.nv;simp only[BV,xS]at s;have d:=a5 H.sl H.el H.len H.nm (a5 H.tk H.dr H.pT r (a5 s E o F (IQ o)));refine zG 53 4 [] (H.r3) mixed func234 λl=>?_;simp only[Ac,L4,ya,Ad,L3,toList_toArray,map_cons,map_nil,H.t0,H.t3,H.t4,H.tu,eC,Bool.not_true,Bool.not_false,Bool.true_or,Bool.false_or,Bool.and_true,cF,dO]at l |-;refine sm (a2 d w1) ?_;refine aF.sE (T:=Nat) [0,1,2,3] [] (λk=>[(8,.I ((a+k:Nat):Int))]) (λk=>[(0,.own z ((zl lt L X R k).map c0))]) (λk=>k<=X.length+1) (λk=>X.length+1-k) 1 aj ?_ ?_
 ·simp only[go_sem,seval,d,Nw]
 ·intro k hk;rcases cq k X.length with hlt|hge
  ·have u:decide (((a+k:Nat):Int)<(b:Int))=true:=kN;have hfl:=Nv lt L X R (k+1);have t:=Lt lt L X R hlt;have e:=λi V W Y=>Lu lt L X R hlt (P:=(qI lt [] (X.take k)).reverse) rfl (i:=i) V W Y;have B:(qI lt [] (X.take k)).reverse.length=k:=by simp only[length_reverse,GQ,dw,length_nil];omega
   have C:(X.drop (k+1)++R).length=X.length-(k+1)+R.length:=by simp only[cT,dW]
   generalize (qI lt [] (X.take k)).reverse=P at t e B;generalize X.drop (k+1)++R=R' at t e C;generalize X[k]=x at t e;have S:IntKind.wrap .i64 (((a+k:Nat):Int)+1)=((a+(k+1):Nat):Int):=eM;rw[t];refine sm (a2 d u) ?_;refine aF.sE (T:=Nat) [0,1,2,3,8] [] (λi=>[(9,.I ((a+k-i:Nat):Int))]) (λi=>[(0,.own z ((jM L x P R' i).map c0))]) (λi=>i<=P.length/\∀j v,j<i->P[P.length-j-1]?=some v->lt x v=true) (λi=>P.length-i) 0 ⟨by omega,by intro j v h;omega⟩ ?_ ?_
   ·simp only[go_sem,seval,d,Nat.sub_zero]
   ·rintro i ⟨hi,hI⟩;rcases cq i P.length with hil|hil
    ·have w:decide ((a:Int)<((a+k-i:Nat):Int))=true:=kN;have Q:IntKind.wrap .i64 (((a+k-i:Nat):Int)-1)=((a+k-(i+1):Nat):Int):=eM;obtain⟨v,J,K,M,U⟩:=AV L x P R' hil (a:=a+k-i) (b:=a+k-(i+1)) aj aj;obtain⟨c,Z,f⟩:=hg x v;have l1:=cg J;have l2:=cg K;obtain⟨N,O,m3,m4⟩:=gi (c:=c0) J K;generalize a+k-i=p at *;generalize hq:a+k-(i+1)=q at *;refine sm (a5 d w N O Q) ?_;(with_reducible and_intros)<;>first|exact dH.mk (by simp only[l])|exact .dq|omega|exact H.ok _|exact H.pl _|skip
     refine ak.aH Z ?_;cases m:lt x v with
     |true =>
      rw[m]at f;simp only[go_sem,seval,d,f,length_set,N,O,m3,Q];(with_reducible and_intros)<;>first|exact dH.mk (by simp only[l])|exact .dq|omega|exact H.ok _|exact H.pl _|skip
      refine⟨i+1,⟨hil,?_⟩,?_,by show P.length-(i+1)<P.length-i;omega⟩
      ·intro j y hj n;rcases cq j i with h|h
       ·exact hI j y h n
       ·obtain rfl:j=i:=aj
        rw[M]at n;cases n;exact m
      ·exact dJ (a4 d U m4 hq)
     |false =>
      rw[m]at f;have G:=e i hi hI (λ_ y n=>by rw[M]at n;cases n;exact m);refine sm (a3 d f S) ?_;refine⟨k+1,by omega,?_,by show X.length+1-(k+1)<X.length+1-k;omega⟩;exact dJ (a2 d G)
    ·have w:decide ((a:Int)<((a+k-i:Nat):Int))=false:=kR;have G:=e i hi hI (λh=>by omega);refine sm (a3 d w S) ?_;(with_reducible and_intros)<;>first|exact dH.mk (by simp only[l])|exact .dq|omega|exact H.ok _|exact H.pl _|skip
     refine⟨k+1,by omega,?_,by show X.length+1-(k+1)<X.length+1-k;omega⟩;exact dJ (a2 d G)
  ·have u:decide (((a+k:Nat):Int)<(b:Int))=false:=kR;simp only[go_sem,seval,d,u,Nu lt L X R hge]
def JG(lt:A->A->Bool)(g:FuncId)(cs:List D)(I:D.aQ cs=[])(o:qy cs=True)(J:∀(rh:Nat->Option Nat)(lv:Nat->Bool),ju rh lv cs cs=True)(hg:∀x y:A,∃c:Int,Sq g [] (.agg (c0 x)::.agg (c0 y)::cs) [] (.int .i64 c)/\decide (c<0)=lt x y)(L:List A)(x:A)(Y R:List A)(a m b:Nat)(Z:Y.length≠0)(ha:a=L.length)(hm:m=L.length+1)(hb:b=L.length+1+Y.length)(hN:L.length+1+Y.length+R.length<2^40) :
  Sq (ρ 235) [.own z ((L++x::(Y++R)).map c0)] [.ref 0,.int .i64 a,.int .i64 m,.int .i64 b,.fn g cs] [.own z ((L++wT lt [x] Y++R).map c0)] (.bH []):=by
 have w1:IntKind.wrap .i64 ((m:Int)-a)=1:=eM;rw[QZ lt x Z];have hz1:=H.pos;have r:=H.ne;simp only[wA,wC]at r;have t:=H.nv;simp only[BV,xS]at t;have d:=a5 H.sl H.el H.len H.nm (a5 H.tk H.dr H.pT r (a5 t I o J (IQ o)));refine zG 220 5 [] (H.r4) mixed func235 λf=>?_;simp only[Ac,L4,ya,Ad,L3,toList_toArray,map_cons,map_nil,H.t0,H.t3,H.t4,H.tu,eC,Bool.not_true,Bool.not_false,Bool.true_or,Bool.false_or,Bool.and_true,cF,dO]at f |-;simp only[go_sem,seval,d,w1];refine aF.sE (T:=Nat×Nat) [0,1,2,4] [0] (λs=>[(10,.int .i64 ((m+s.1:Nat):Int)),(11,.int .i64 ((m+s.2:Nat):Int))]) (λ_=>[]) (λs=>s.1<=s.2/\s.2<=Y.length/\pS (λc=>t2 lt Y[c]? (some x)) s.1 s.2=pS (λc=>t2 lt Y[c]? (some x)) 0 Y.length) (λs=>s.2-s.1) (0,Y.length) ⟨Nat.zero_le _,cX _,rfl⟩ ?_ ?_
 ·simp only[go_sem,seval,d,Nat.add_zero];omega
 ·rintro⟨i,j⟩ ⟨h1,h2,h3⟩;dsimp only at h1 h2 h3;rcases cq i j with hij|hij
  ·have w:decide (((m+i:Nat):Int)<((m+j:Nat):Int))=true:=kN;obtain⟨h,S⟩:=aV ((i+j)/2);have K:h<Y.length:=aj
   have O:=half (i:=m+i) (j:=m+j) aj;rw[show(m+i+(m+j))/2=m+h by omega]at O;have wh:IntKind.wrap .i64 (((m+h:Nat):Int)+1)=((m+(h+1):Nat):Int):=eM;have l:(L++x::(Y++R))[a]?=some x:=rT _ _ _ ha;have n:(L++x::(Y++R))[m+h]?=some Y[h]:=by
    rw[getElem?_append_right aj,show m+h-L.length=h+1 by omega,getElem?_cons_succ,getElem?_append_left K,ec K]
   have u:t2 lt Y[h]? (some x)=lt Y[h] x:=by rw[ec K];rfl
   obtain⟨c,Q,e⟩:=hg Y[h] x;have l1:=cg l;have l2:=cg n;have C:=(gi (c:=c0) l l).1;have E:=(gi (c:=c0) n n).1;generalize Y[h]=y at *;cases B:lt y x with
   |true =>
    rw[B]at e u;simp only[go_sem,seval,d,w,O,C,E];(with_reducible and_intros)<;>first|exact dH.mk (by simp only[f])|exact .dq|omega|exact H.ok _|exact H.pl _|skip
    refine ak.aH Q ?_;simp only[go_sem,seval,d,e,wh];refine⟨(h+1,j),⟨by show h+1<=j;omega,h2,?_⟩,?_,by show j-(h+1)<j-i;omega⟩
    ·exact(ES (p:=λc=>t2 lt Y[c]? (some x)) hij S u).trans h3
    ·simp only[go_sem,seval,d]
   |false =>
    rw[B]at e u;simp only[go_sem,seval,d,w,O,C,E];(with_reducible and_intros)<;>first|exact dH.mk (by simp only[f])|exact .dq|omega|exact H.ok _|exact H.pl _|skip
    refine ak.aH Q ?_;simp only[go_sem,seval,d,e];refine⟨(i,h),⟨by show i<=h;omega,by show h<=_;omega,?_⟩,?_,by show h-i<j-i;omega⟩
    ·exact(IK (p:=λc=>t2 lt Y[c]? (some x)) hij S u).trans h3
    ·simp only[go_sem,seval,d]
  ·have w:decide (((m+i:Nat):Int)<((m+j:Nat):Int))=false:=kR;obtain rfl:i=j:=aj
   rw[uA aj]at h3;rw[<-h3];have V:IntKind.wrap .i64 (((m+i:Nat):Int)-1)=((a+i:Nat):Int):=eM;have P:(Y.take i).length=i:=by simp only[dw];omega
   have M:=λk U=>O8 L x (Y.take i) (Y.drop i++R) (i:=k) U (a:=a+k) (b:=a+(k+1)) aj aj;have N:=λk=>Rd L x (Y.take i) (Y.drop i++R) k;have e0:L++x::(Y++R)=Il L x (Y.take i) (Y.drop i++R) 0:=by rw[O9,<-cu (Y.take i),jI]
   have W:L++(Y.take i++[x]++Y.drop i)++R=Il L x (Y.take i) (Y.drop i++R) i:=by
    have:=Rc L x (Y.take i) (Y.drop i++R);rw[P]at this;rw[this];simp only[cu,cons_append,nil_append]
   rw[e0,W];rw[P]at M;generalize hF:Il L x (Y.take i) (Y.drop i++R)=F at M N;simp only[go_sem,seval,d,w];refine dM.id ?_;simp only[go_sem,seval,d];refine aF.sE (T:=Nat) [0,10] [] (λk=>[(13,.int .i64 ((a+k:Nat):Int))]) (λk=>[(0,.own z ((F k).map c0))]) (λk=>k<=i) (λk=>i-k) 0 (Nat.zero_le _) ?_ ?_
   ·simp only[go_sem,seval,d,Nat.add_zero]
   ·intro k U;rcases cq k i with hki|hki
    ·have G:decide (((a+k:Nat):Int)<((a+i:Nat):Int))=true:=kN;have wk:IntKind.wrap .i64 (((a+k:Nat):Int)+1)=((a+(k+1):Nat):Int):=eM;obtain⟨v,l,n,X⟩:=M k hki;have l1:=cg l;have l2:=cg n;obtain⟨C,E,m3,m4⟩:=gi (c:=c0) l n;generalize u:a+k=p at *;generalize B:a+(k+1)=q at *;simp only[go_sem,seval,d,V,G,wk,length_set,C,E,m3];(with_reducible and_intros)<;>first|exact dH.mk (by simp only[f])|exact .dq|omega|exact H.ok _|exact H.pl _|skip
     refine⟨k+1,hki,?_,by show i-(k+1)<i-k;omega⟩;simp only[go_sem,seval,d,X,m4,B]
    ·obtain rfl:k=i:=aj
     have G:decide (((a+k:Nat):Int)<((a+k:Nat):Int))=false:=kR;simp only[go_sem,seval,d,V,G]
def JH(lt:A->A->Bool)(g:FuncId)(cs:List D)(J:D.aQ cs=[])(o:qy cs=True)(K:∀(rh:Nat->Option Nat)(lv:Nat->Bool),ju rh lv cs cs=True)(hg:∀x y:A,∃c:Int,Sq g [] (.agg (c0 x)::.agg (c0 y)::cs) [] (.int .i64 c)/\decide (c<0)=lt x y)(L X:List A)(y:A)(R:List A)(a m b:Nat)(Z:X.length≠0)(I:X.length≠1)(ha:a=L.length)(hm:m=L.length+X.length)(hb:b=L.length+X.length+1)(hN:L.length+X.length+1+R.length<2^40) :
  Sq (ρ 235) [.own z ((L++X++y::R).map c0)] [.ref 0,.int .i64 a,.int .i64 m,.int .i64 b,.fn g cs] [.own z ((L++wT lt X [y]++R).map c0)] (.bH []):=by
 have w1:IntKind.wrap .i64 ((m:Int)-a)=((X.length:Nat):Int):=eM;have q1:((X.length:Int)==1)=false:=by simp;omega
 have w2:IntKind.wrap .i64 ((b:Int)-m)=1:=eM;rw[OD lt Z I y];have hz1:=H.pos;have r:=H.ne;simp only[wA,wC]at r;have t:=H.nv;simp only[BV,xS]at t;have d:=a5 H.sl H.el H.len H.nm (a5 H.tk H.dr H.pT r (a5 t J o K (IQ o)));refine zG 220 5 [] (H.r4) mixed func235 λf=>?_;simp only[Ac,L4,ya,Ad,L3,toList_toArray,map_cons,map_nil,H.t0,H.t3,H.t4,H.tu,eC,Bool.not_true,Bool.not_false,Bool.true_or,Bool.false_or,Bool.and_true,cF,dO]at f |-;simp only[go_sem,seval,d,w1,q1,w2];refine aF.sE (T:=Nat×Nat) [0,1,2,4] [0] (λs=>[(14,.int .i64 ((a+s.1:Nat):Int)),(15,.int .i64 ((a+s.2:Nat):Int))]) (λ_=>[]) (λs=>s.1<=s.2/\s.2<=X.length/\pS (λc=>t2 (λy x=>!lt y x) (some y) X[c]?) s.1 s.2=pS (λc=>t2 (λy x=>!lt y x) (some y) X[c]?) 0 X.length) (λs=>s.2-s.1) (0,X.length) ⟨Nat.zero_le _,cX _,rfl⟩ ?_ ?_
 ·simp only[go_sem,seval,d,Nat.add_zero];omega
 ·rintro⟨i,j⟩ ⟨h1,h2,h3⟩;dsimp only at h1 h2 h3;rcases cq i j with hij|hij
  ·have w:decide (((a+i:Nat):Int)<((a+j:Nat):Int))=true:=kN;obtain⟨h,U⟩:=aV ((i+j)/2);have M:h<X.length:=aj
   have P:=half (i:=a+i) (j:=a+j) aj;rw[show(a+i+(a+j))/2=a+h by omega]at P;have wh:IntKind.wrap .i64 (((a+h:Nat):Int)+1)=((a+(h+1):Nat):Int):=eM;have l:(L++X++y::R)[m]?=some y:=rT _ _ _ (by simp only[cT];omega);have n:(L++X++y::R)[a+h]?=some X[h]:=by
    rw[cu,getElem?_append_right aj,show a+h-L.length=h by omega,getElem?_append_left M,ec M]
   have u:t2 (λy x=>!lt y x) (some y) X[h]? = !lt y X[h]:=by rw[ec M];rfl
   obtain⟨c,S,e⟩:=hg y X[h];have l1:=cg l;have l2:=cg n;have C:=(gi (c:=c0) l l).1;have E:=(gi (c:=c0) n n).1;generalize X[h]=x at *;cases B:lt y x with
   |false =>
    rw[B]at e u;simp only[go_sem,seval,d,w,P,C,E];(with_reducible and_intros)<;>first|exact dH.mk (by simp only[f])|exact .dq|omega|exact H.ok _|exact H.pl _|skip
    refine ak.aH S ?_;simp only[go_sem,seval,d,e,wh];refine⟨(h+1,j),⟨by show h+1<=j;omega,h2,?_⟩,?_,by show j-(h+1)<j-i;omega⟩
    ·exact(ES (p:=(λc=>t2 (λy x=>!lt y x) (some y) X[c]?)) hij U u).trans h3
    ·simp only[go_sem,seval,d]
   |true =>
    rw[B]at e u;simp only[go_sem,seval,d,w,P,C,E];(with_reducible and_intros)<;>first|exact dH.mk (by simp only[f])|exact .dq|omega|exact H.ok _|exact H.pl _|skip
    refine ak.aH S ?_;simp only[go_sem,seval,d,e];refine⟨(i,h),⟨by show i<=h;omega,by show h<=_;omega,?_⟩,?_,by show h-i<j-i;omega⟩
    ·exact(IK (p:=(λc=>t2 (λy x=>!lt y x) (some y) X[c]?)) hij U u).trans h3
    ·simp only[go_sem,seval,d]
  ·have w:decide (((a+i:Nat):Int)<((a+j:Nat):Int))=false:=kR;obtain rfl:i=j:=aj
   rw[uA aj]at h3;rw[<-h3];have Q:(X.drop i).length=X.length-i:=by simp only[dW]
   have hLl:(L++X.take i).length=a+i:=by simp only[cT,dw];omega
   have N:=λk V=>AV (L++X.take i) y (X.drop i) R (i:=k) V (a:=m-k) (b:=m-(k+1)) aj aj;have O:=λk=>Lf (L++X.take i) y (X.drop i) R k;have e0:L++X++y::R=jM (L++X.take i) y (X.drop i) R 0:=by rw[AW,cu L (X.take i),jI]
   have W:L++(X.take i++[y]++X.drop i)++R=jM (L++X.take i) y (X.drop i) R (X.length-i):=by
    have:=Le (L++X.take i) y (X.drop i) R;rw[Q]at this;rw[this];simp only[cu,cons_append,nil_append]
   rw[e0,W];rw[Q]at N;generalize hF:jM (L++X.take i) y (X.drop i) R=F at N O;simp only[go_sem,seval,d,w];refine dM.id ?_;simp only[go_sem,seval,d];refine aF.sE (T:=Nat) [0,14] [] (λk=>[(17,.int .i64 ((m-k:Nat):Int))]) (λk=>[(0,.own z ((F k).map c0))]) (λk=>k<=X.length-i) (λk=>X.length-i-k) 0 (Nat.zero_le _) ?_ ?_
   ·simp only[go_sem,seval,d,Nat.sub_zero]
   ·intro k V;rcases cq k (X.length-i)with hki|hki
    ·have G:decide (((a+i:Nat):Int)<((m-k:Nat):Int))=true:=kN;have wk:IntKind.wrap .i64 (((m-k:Nat):Int)-1)=((m-(k+1):Nat):Int):=eM;obtain⟨v,l,n,g4,Y⟩:=N k hki;have l1:=cg l;have l2:=cg n;obtain⟨C,E,m3,m4⟩:=gi (c:=c0) l n;generalize u:m-k=p at *;generalize B:m-(k+1)=q at *;simp only[go_sem,seval,d,G,wk,length_set,C,E,m3];(with_reducible and_intros)<;>first|exact dH.mk (by simp only[f])|exact .dq|omega|exact H.ok _|exact H.pl _|skip
     refine⟨k+1,hki,?_,by show X.length-i-(k+1)<X.length-i-k;omega⟩;simp only[go_sem,seval,d,Y,m4,B]
    ·obtain rfl:k=X.length-i:=aj
     have G:decide (((a+i:Nat):Int)<((m-(X.length-i):Nat):Int))=false:=kR;simp only[go_sem,seval,d,G]
set_option maxHeartbeats 8000000 in
set_option maxRecDepth 8000 in
theorem EB(lt:A->A->Bool)(g:FuncId)(cs:List D)(aa:D.aQ cs=[])(J:qy cs=True)(ab:∀(rh:Nat->Option Nat)(lv:Nat->Bool),ju rh lv cs cs=True)(hg:∀x y:A,∃c:Int,Sq g [] (.agg (c0 x)::.agg (c0 y)::cs) [] (.int .i64 c)/\decide (c<0)=lt x y)(n:Nat):∀(L X Y R:List A)(a m b:Nat),X.length+Y.length<=n->X.length≠0->Y.length≠0->a=L.length->m=L.length+X.length->b=L.length+X.length+Y.length->L.length+X.length+Y.length+R.length<2^40 ->
  Sq (ρ 235) [.own z ((L++X++Y++R).map c0)] [.ref 0,.int .i64 a,.int .i64 m,.int .i64 b,.fn g cs] [.own z ((L++wT lt X Y++R).map c0)] (.bH []):=by
 induction n with
 |zero=>intro L X Y R a m b h hX hY;omega
 |succ n ih =>
  intro L X Y R a m b h hX hY ha hm hb hN;by_cases ap:X.length=1
  ·obtain⟨x,rfl⟩:=length_eq_one_iff.1 ap;rw[show L++[x]++Y++R=L++x::(Y++R)by simp only[cu,cons_append,nil_append]];simp only[length_cons,length_nil]at hm hb hN;exact JG H lt g cs aa J ab hg L x Y R a m b hY ha aj aj aj
  by_cases av:Y.length=1
  ·obtain⟨y,rfl⟩:=length_eq_one_iff.1 av;rw[show L++X++[y]++R=L++X++y::R by simp only[cu,cons_append,nil_append]];simp only[length_cons,length_nil]at hm hb hN;exact JH H lt g cs aa J ab hg L X y R a m b hX ap ha hm aj aj
  rw[Q0 lt aj aj];have B:=vG lt X Y;obtain⟨d,ah⟩:=aV ((X.length+Y.length)/2);obtain⟨s0,M,ac,au,hd⟩:∃s0 M,cutAt lt X Y=pS (λc=>t2 (λy x=>!lt y x) Y[d-1-c]? X[c]?) s0 M/\(s0<=M/\M<=X.length/\M<=d/\d<=s0+Y.length)/\((d<X.length/\s0=d-Y.length/\M=d)\/(X.length<=d/\s0=0/\M=X.length)):=by
   unfold cutAt;rw[<-ah];rcases cq d X.length with V|V
   ·rw[aE V,aE V];exact⟨_,_,rfl,⟨by omega,by omega,by omega,by omega⟩,.inl ⟨V,rfl,rfl⟩⟩
   ·rw[az aj,az aj];exact⟨_,_,rfl,⟨by omega,by omega,by omega,by omega⟩,.inr ⟨V,rfl,rfl⟩⟩
  rw[<-ah]at B;rw[<-ah];have w1:IntKind.wrap .i64 ((m:Int)-a)=((X.length:Nat):Int):=eM;have q1:((X.length:Int)==1)=false:=by simp;omega
  have w2:IntKind.wrap .i64 ((b:Int)-m)=((Y.length:Nat):Int):=eM;have q2:((Y.length:Int)==1)=false:=by simp;omega
  have wm:=half (i:=a) (j:=b) aj;rw[show(a+b)/2=a+d by omega]at wm;have wn:IntKind.wrap .i64 (((a+d:Nat):Int)+m)=((a+d+m:Nat):Int):=eM;have wp:IntKind.wrap .i64 (((a+d+m:Nat):Int)-1)=((a+d+m-1:Nat):Int):=eM;obtain⟨wB,K⟩:∃w:Int,w=IntKind.wrap .i64 (((a+d+m:Nat):Int)-b):=⟨_,rfl⟩
  have ad:d<X.length->wB=((a+s0:Nat):Int):=by
   intro V;rw[K,lF aj aj];omega
  have hz1:=H.pos;have an:=H.ne;simp only[wA,wC]at an;have ao:=H.nv;simp only[BV,xS]at ao;have e:=a5 H.sl H.el H.len H.nm (a5 H.tk H.dr H.pT an (a5 ao aa J ab (IQ J)));refine zG 220 5 [] (H.r4) mixed func235 λag=>?_;simp only[Ac,L4,ya,Ad,L3,toList_toArray,map_cons,map_nil,H.t0,H.t3,H.t4,H.tu,eC,Bool.not_true,Bool.not_false,Bool.true_or,Bool.false_or,Bool.and_true,cF,dO]at ag |-;rcases hd with⟨c1,c2,c3⟩| ⟨c1,c2,c3⟩;all_goals first
   | (have dG:decide (((a+d:Nat):Int) < (m:Int))=true:=kN
      replace K:=K.symm.trans (ad c1)
      simp only[go_sem,seval,e,w1,w2,q1,q2,wm,wn,wp,dG,K])
   | (have dG:decide (((a+d:Nat):Int) < (m:Int))=false:=kR
      simp only[go_sem,seval,e,w1,w2,q1,q2,wm,wn,wp,dG])
  all_goals
   refine aF.sE (T:=Nat×Nat) [0,1,2,3,4,18,19,22] [0] (λs=>[(20,.int .i64 ((a+s.1:Nat):Int)),(21,.int .i64 ((a+s.2:Nat):Int))]) (λ_=>[]) (λs=>s0<=s.1/\s.1<=s.2/\s.2<=M/\pS (λc=>t2 (λy x=>!lt y x) Y[d-1-c]? X[c]?) s.1 s.2=pS (λc=>t2 (λy x=>!lt y x) Y[d-1-c]? X[c]?) s0 M) (λs=>s.2-s.1) (s0,M) ⟨cX _,au.1,cX _,rfl⟩ ?_ ?_
   ·simp only[go_sem,seval,e]<;>omega
   ·rintro⟨i,j⟩ ⟨h1,h2,h3,h4⟩;dsimp only at h1 h2 h3 h4;rcases cq i j with hij|hij
    ·have d1:decide (((a+i:Nat):Int)<((a+j:Nat):Int))=true:=kN;obtain⟨k,hk⟩:=aV ((i+j)/2);have ai:k<X.length:=aj
     have al:d-1-k<Y.length:=aj
     have hv:=half (i:=a+i) (j:=a+j) aj;rw[show(a+i+(a+j))/2=a+k by omega]at hv;have wk:IntKind.wrap .i64 (((a+k:Nat):Int)+1)=((a+(k+1):Nat):Int):=eM;have wy:IntKind.wrap .i64 (((a+d+m-1:Nat):Int)-((a+k:Nat):Int))=((m+(d-1-k):Nat):Int):=eM;have g1:(L++X++Y++R)[m+(d-1-k)]?=some Y[d-1-k]:=by
      rw[cu,getElem?_append_right (by rw[cT];omega),show m+(d-1-k)-(L++X).length=d-1-k by rw[cT];omega,getElem?_append_left al,ec al]
     have g2:(L++X++Y++R)[a+k]?=some X[k]:=by
      rw[cu,cu,getElem?_append_right aj,show a+k-L.length=k by omega,getElem?_append_left ai,ec ai]
     have hp:t2 (λy x=>!lt y x) Y[d-1-k]? X[k]? = !lt Y[d-1-k] X[k]:=by rw[ec al,ec ai];rfl
     obtain⟨c,V,B⟩:=hg Y[d-1-k] X[k];have l1:=cg g1;have l2:=cg g2;have m1:=(gi (c:=c0) g1 g1).1;have m2:=(gi (c:=c0) g2 g2).1;generalize Y[d-1-k]=y at *;generalize X[k]=x at *;cases hq:lt y x with
     |true =>
      rw[hq]at B hp;simp only[go_sem,seval,e,d1,hv,wy,m1,m2];(with_reducible and_intros)<;>first|exact dH.mk (by simp only[ag])|exact .dq|omega|exact H.ok _|exact H.pl _|skip
      refine ak.aH V ?_;simp only[go_sem,seval,e,B];refine⟨(i,k),⟨h1,by show i<=k;omega,by show k<=_;omega,?_⟩,?_,by show k-i<j-i;omega⟩
      ·exact(IK (p:=λc=>t2 (λy x=>!lt y x) Y[d-1-c]? X[c]?) hij hk hp).trans h4
      ·simp only[go_sem,seval,e]
     |false =>
      rw[hq]at B hp;simp only[go_sem,seval,e,d1,hv,wy,m1,m2];(with_reducible and_intros)<;>first|exact dH.mk (by simp only[ag])|exact .dq|omega|exact H.ok _|exact H.pl _|skip
      refine ak.aH V ?_;simp only[go_sem,seval,e,B,wk];refine⟨(k+1,j),⟨by show s0<=k+1;omega,by show k+1<=j;omega,h3,?_⟩,?_,by show j-(k+1)<j-i;omega⟩
      ·exact(ES (p:=λc=>t2 (λy x=>!lt y x) Y[d-1-c]? X[c]?) hij hk hp).trans h4
      ·simp only[go_sem,seval,e]
    ·have d1:decide (((a+i:Nat):Int)<((a+j:Nat):Int))=false:=kR;obtain rfl:i=j:=aj
     rw[uA aj]at h4;have am:cutAt lt X Y=i:=by rw[ac];exact h4.symm
     rw[am]at B |-;have wq:IntKind.wrap .i64 (((a+d+m:Nat):Int)-((a+i:Nat):Int))=((m+(d-i):Nat):Int):=eM;obtain⟨u,P⟩:∃Z,Z=X.take i:=⟨_,rfl⟩
     obtain⟨t,Q⟩:∃Z,Z=X.drop i:=⟨_,rfl⟩
     obtain⟨r,S⟩:∃Z,Z=Y.take (d-i):=⟨_,rfl⟩
     obtain⟨v,U⟩:∃Z,Z=Y.drop (d-i):=⟨_,rfl⟩
     have lXa:u.length=i:=by rw[P,dw];omega
     have lXb:t.length=X.length-i:=by rw[Q,dW]
     have lYa:r.length=d-i:=by rw[S,dw];omega
     have lYb:v.length=Y.length-(d-i):=by rw[U,dW]
     have eX:u++t=X:=by rw[P,Q,jI]
     have eY:r++v=Y:=by rw[S,U,jI]
     rw[<-P,<-Q,<-S,<-U];obtain⟨W0,N⟩:∃W,W=L++X++Y++R:=⟨_,rfl⟩
     obtain⟨W1,G⟩:∃W,W=L++u++r++t++v++R:=⟨_,rfl⟩
     obtain⟨W2,I⟩:∃W,W=L++wT lt u r++t++v++R:=⟨_,rfl⟩
     obtain⟨W3,O⟩:∃W,W=L++(wT lt u r++wT lt t v)++R:=⟨_,rfl⟩
     rw[<-N,<-O];have C:t.length≠0->r.length≠0->Sq (ρ 250) [.own z (W0.map c0)] [.ref 0,.int .i64 ((a+i:Nat):Int),.int .i64 m,.int .i64 ((m+(d-i):Nat):Int),.fn g cs] [.own z (W1.map c0)] (.bH []):=by
      intro ar aq;have:=FN H (L++u) t r (v++R) (a+i) m (m+(d-i)) (by rw[cT];omega) (by rw[cT];omega) (by rw[cT];omega) ar aq g cs aa J ab (by simp only[cT];omega);rwa[show L++u++t++r++(v++R)=W0 by rw[N,<-eX,<-eY];simp only[cu],show L++u++r++t++(v++R)=W1 by rw[G];simp only[cu]]at this
     have ae:u.length≠0->r.length≠0->Sq (ρ 235) [.own z (W1.map c0)] [.ref 0,.int .i64 a,.int .i64 ((a+i:Nat):Int),.int .i64 ((a+d:Nat):Int),.fn g cs] [.own z (W2.map c0)] (.bH []):=by
      intro h1 h2;have:=ih L u r (t++v++R) a (a+i) (a+d) aj h1 h2 ha aj aj (by simp only[cT];omega);rwa[show L++u++r++(t++v++R)=W1 by rw[G];simp only[cu],show L++wT lt u r++(t++v++R)=W2 by rw[I];simp only[cu]]at this
     have af:t.length≠0->v.length≠0->Sq (ρ 235) [.own z (W2.map c0)] [.ref 0,.int .i64 ((a+d:Nat):Int),.int .i64 ((m+(d-i):Nat):Int),.int .i64 b,.fn g cs] [.own z (W3.map c0)] (.bH []):=by
      intro h1 h2;have lsm:=wU lt u r;have:=ih (L++wT lt u r) t v R (a+d) (m+(d-i)) b aj h1 h2 (by rw[cT];omega) (by rw[cT];omega) (by rw[cT];omega) (by rw[cT];omega);rwa[<-I,show L++wT lt u r++wT lt t v++R=W3 by rw[O];simp only[cu]]at this
     have eR:t.length=0\/r.length=0->W0=W1:=by
      intro h;rw[N,G,<-eX,<-eY];rcases h with h|h<;>(rw[eq_nil_of_length_eq_zero h];simp only[cu,nil_append,append_nil])
     have e1:u.length=0\/r.length=0->W1=W2:=by
      intro h;rw[G,I];rcases h with h|h<;>(rw[eq_nil_of_length_eq_zero h];simp only[H8,H9,cu,nil_append,append_nil])
     have e2:t.length=0\/v.length=0->W2=W3:=by
      intro h;rw[I,O];rcases h with h|h<;>(rw[eq_nil_of_length_eq_zero h];simp only[H8,H9,cu,nil_append,append_nil])
     simp only[go_sem,seval,e,d1];refine dM.id ?_;simp only[go_sem,seval,e,wq];clear K ad hg ih N G I O P Q S U eX eY ac h4 am wm wn wp w1 w2 q1 q2 dG d1 wq h1 h2 h3;rcases Nat.eq_zero_or_pos t.length with zb|zb<;>rcases Nat.eq_zero_or_pos r.length with za|za<;>rcases Nat.eq_zero_or_pos u.length with zc|zc<;>rcases Nat.eq_zero_or_pos v.length with zd|zd
     ·exfalso;omega
     ·exfalso;omega
     ·exfalso;omega
     ·have E:decide (((a+i:Nat):Int)<(m:Int))=false:=kR;have F:decide ((m:Int)<((m+(d-i):Nat):Int))=false:=kR;have f:decide ((a:Int)<((a+i:Nat):Int))=true:=kN;have l:decide (((a+i:Nat):Int)<((a+d:Nat):Int))=false:=kR;have o:decide (((a+d:Nat):Int)<((m+(d-i):Nat):Int))=false:=kR;have q:decide (((m+(d-i):Nat):Int)<(b:Int))=true:=kN;rw[eR aj];rw[e1 aj];have e2:=e2 aj;simp only[go_sem,seval,e,E,F,f,l,o,q];rw[e2]
     ·exfalso;omega
     ·exfalso;omega
     ·exfalso;omega
     ·have E:decide (((a+i:Nat):Int)<(m:Int))=false:=kR;have F:decide ((m:Int)<((m+(d-i):Nat):Int))=true:=kN;have f:decide ((a:Int)<((a+i:Nat):Int))=true:=kN;have l:decide (((a+i:Nat):Int)<((a+d:Nat):Int))=true:=kN;have o:decide (((a+d:Nat):Int)<((m+(d-i):Nat):Int))=false:=kR;have q:decide (((m+(d-i):Nat):Int)<(b:Int))=true:=kN;rw[eR aj];have e2:=e2 aj;simp only[go_sem,seval,e,E,F,f,l,o,q];refine ak.fk [] [0] false sT ?_;simp only[go_sem,seval,e];refine bX.fV (ae aj aj) ?_;simp only[go_sem,seval,e,f,l,o,q];rw[e2]
     ·exfalso;omega
     ·exfalso;omega
     ·exfalso;omega
     ·have E:decide (((a+i:Nat):Int)<(m:Int))=true:=kN;have F:decide ((m:Int)<((m+(d-i):Nat):Int))=false:=kR;have f:decide ((a:Int)<((a+i:Nat):Int))=true:=kN;have l:decide (((a+i:Nat):Int)<((a+d:Nat):Int))=false:=kR;have o:decide (((a+d:Nat):Int)<((m+(d-i):Nat):Int))=true:=kN;have q:decide (((m+(d-i):Nat):Int)<(b:Int))=true:=kN;rw[eR aj];rw[e1 aj];simp only[go_sem,seval,e,E,F,f,l,o,q];refine ak.fk [] [0] false sT ?_;simp only[go_sem,seval,e];refine bX.fV (af aj aj) ?_;simp only[go_sem,seval,e,f,l,o,q]
     ·have E:decide (((a+i:Nat):Int)<(m:Int))=true:=kN;have F:decide ((m:Int)<((m+(d-i):Nat):Int))=true:=kN;have f:decide ((a:Int)<((a+i:Nat):Int))=false:=kR;have l:decide (((a+i:Nat):Int)<((a+d:Nat):Int))=true:=kN;have o:decide (((a+d:Nat):Int)<((m+(d-i):Nat):Int))=true:=kN;have q:decide (((m+(d-i):Nat):Int)<(b:Int))=false:=kR;have e1:=e1 aj;have e2:=e2 aj;simp only[go_sem,seval,e,E,F,f,l,o,q];refine ak.fk [] [0] false sT ?_;simp only[go_sem,seval,e];refine bX.fV (C aj aj) ?_;simp only[go_sem,seval,e,f,l,o,q];rw[e1];rw[e2]
     ·have E:decide (((a+i:Nat):Int)<(m:Int))=true:=kN;have F:decide ((m:Int)<((m+(d-i):Nat):Int))=true:=kN;have f:decide ((a:Int)<((a+i:Nat):Int))=false:=kR;have l:decide (((a+i:Nat):Int)<((a+d:Nat):Int))=true:=kN;have o:decide (((a+d:Nat):Int)<((m+(d-i):Nat):Int))=true:=kN;have q:decide (((m+(d-i):Nat):Int)<(b:Int))=true:=kN;have e1:=e1 aj;simp only[go_sem,seval,e,E,F,f,l,o,q];refine ak.fk [] [0] false sT ?_;simp only[go_sem,seval,e];refine bX.fV (C aj aj) ?_;simp only[go_sem,seval,e,f,l,o,q];rw[e1];refine ak.fk [] [0] false sT ?_;simp only[go_sem,seval,e];refine bX.fV (af aj aj) ?_;simp only[go_sem,seval,e,f,l,o,q]
     ·have E:decide (((a+i:Nat):Int)<(m:Int))=true:=kN;have F:decide ((m:Int)<((m+(d-i):Nat):Int))=true:=kN;have f:decide ((a:Int)<((a+i:Nat):Int))=true:=kN;have l:decide (((a+i:Nat):Int)<((a+d:Nat):Int))=true:=kN;have o:decide (((a+d:Nat):Int)<((m+(d-i):Nat):Int))=true:=kN;have q:decide (((m+(d-i):Nat):Int)<(b:Int))=false:=kR;have e2:=e2 aj;simp only[go_sem,seval,e,E,F,f,l,o,q];refine ak.fk [] [0] false sT ?_;simp only[go_sem,seval,e];refine bX.fV (C aj aj) ?_;simp only[go_sem,seval,e,f,l,o,q];refine ak.fk [] [0] false sT ?_;simp only[go_sem,seval,e];refine bX.fV (ae aj aj) ?_;simp only[go_sem,seval,e,f,l,o,q];rw[e2]
     ·have E:decide (((a+i:Nat):Int)<(m:Int))=true:=kN;have F:decide ((m:Int)<((m+(d-i):Nat):Int))=true:=kN;have f:decide ((a:Int)<((a+i:Nat):Int))=true:=kN;have l:decide (((a+i:Nat):Int)<((a+d:Nat):Int))=true:=kN;have o:decide (((a+d:Nat):Int)<((m+(d-i):Nat):Int))=true:=kN;have q:decide (((m+(d-i):Nat):Int)<(b:Int))=true:=kN;simp only[go_sem,seval,e,E,F,f,l,o,q];refine ak.fk [] [0] false sT ?_;simp only[go_sem,seval,e];refine bX.fV (C aj aj) ?_;simp only[go_sem,seval,e,f,l,o,q];refine ak.fk [] [0] false sT ?_;simp only[go_sem,seval,e];refine bX.fV (ae aj aj) ?_;simp only[go_sem,seval,e,f,l,o,q];refine ak.fk [] [0] false sT ?_;simp only[go_sem,seval,e];refine bX.fV (af aj aj) ?_;simp only[go_sem,seval,e,f,l,o,q]
theorem F0(lt:A->A->Bool)(g:FuncId)(cs:List D)(j:D.aQ cs=[])(e:qy cs=True)(k:∀(rh:Nat->Option Nat)(lv:Nat->Bool),ju rh lv cs cs=True)(G:∀x y:A,∃c:Int,Sq g [] (.agg (c0 x)::.agg (c0 y)::cs) [] (.int .i64 c)/\decide (c<0)=lt x y)(l:List A)(Y:l.length<2^38) :
  Sq (ρ 174) [.own z (l.map c0)] [.ref 0,.I l.length,.fn g cs] [.own z ((Ag lt l).map c0)] (.bH []):=by
 obtain⟨N,i⟩:=aV (l.length);have S:Ag lt l=zf lt N 20 (vv lt N l):=by rw[i];rfl
 rw[S,<-i];rw[<-i]at Y;have hz1:=H.pos;have B:=H.ne;simp only[wA,wC]at B;have C:=H.nv;simp only[BV,xS]at C;have d:=a5 H.sl H.el H.len H.nm (a5 H.tk H.dr H.pT B (a5 C j e k (IQ e)));refine zG 63 3 [] (H.r5) mixed func174 λO=>?_;simp only[Ac,L4,ya,Ad,L3,toList_toArray,map_cons,map_nil,H.t0,H.t3,H.t4,H.tu,eC,Bool.not_true,Bool.not_false,Bool.true_or,Bool.false_or,Bool.and_true,cF,dO]at O |-;refine sm d ?_;refine aF.sE (T:=Nat×List A×List A) [0,1,2,6] [] (λs=>[(7,.I s.2.1.length),(8,.I ((s.2.1.length+20:Nat):Int))]) (λs=>[(0,.own z ((s.2.1++s.2.2).map c0))]) (λs=>s.2.1++vv lt s.1 s.2.2=vv lt N l/\s.2.2.length<=s.1/\s.2.1.length+s.2.2.length=N) (λs=>s.2.2.length) (N,[],l) ⟨rfl,Nat.le_of_eq i.symm,(Nat.zero_add _).trans i.symm⟩ ?_ ?_
 ·simp only[go_sem,seval,d,length_nil,nil_append,Nat.zero_add]
 ·rintro⟨n,P,Q⟩ ⟨h1,h2,h3⟩;dsimp only at h1 h2 h3;rcases cq Q.length 20 with hq|hq
  ·have J:decide (((P.length+20:Nat):Int)<=(N:Int))=false:=kR;have r:=D4 H lt g cs j e k G P Q [] P.length N rfl aj (by simp only[length_nil];omega);have hb:vv lt n Q=xE lt Q:=by
    cases n with
    |zero=>rfl
    |succ n=>rw[vv,az aj]
   rw[hb]at h1;rw[<-h1];simp only[append_nil]at r;refine sm (a2 d J) ?_;refine dM.id ?_;refine sg [0] d r ?_;obtain⟨U,v⟩:=aV (P++xE lt Q);have w:U.length=N:=by rw[v,cT,sw];omega
   rw[<-v];refine aF.sE (T:=Nat×Nat×List A) [0,1,2] [] (λs=>[(6,.I s.2.1)]) (λs=>[(0,.own z (s.2.2.map c0))]) (λs=>zf lt s.1 s.2.1 s.2.2=zf lt N 20 U/\s.2.2.length=N/\N<=s.1+s.2.1/\0<s.2.1/\s.2.1<=2*N+20) (λs=>s.1) (N,20,U) ⟨rfl,w,by show N<=N+20;omega,by show 0<20;omega,by show 20<=2*N+20;omega⟩ ?_ ?_
   ·exact dJ d
   ·rintro⟨f,bs,m⟩ ⟨k1,k2,k3,k4,k5⟩;dsimp only at k1 k2 k3 k4 k5;rcases cq bs N with hbs|hbs
    ·have K:decide ((bs:Int)<(N:Int))=true:=kN;have W:IntKind.wrap .i64 (2*(bs:Int))=((2*bs:Nat):Int):=eM;have X:IntKind.wrap .i64 ((bs:Int)*2)=((2*bs:Nat):Int):=eM;obtain⟨o,rfl⟩:∃o,f=o+1:=⟨f-1,by omega⟩
     rw[zf,aE aj]at k1;rw[k2]at k1;refine sm (a3 d K W) ?_;refine aF.sE (T:=Nat×List A×List A) [0,1,2,6] [] (λs=>[(7,.I s.2.1.length),(8,.I ((s.2.1.length+2*bs:Nat):Int))]) (λs=>[(0,.own z ((s.2.1++s.2.2).map c0))]) (λs=>s.2.1++lq lt bs s.1 s.2.2=lq lt bs N m/\s.2.2.length<=s.1/\s.2.1.length+s.2.2.length=N) (λs=>s.2.2.length) (N,[],m) ⟨rfl,Nat.le_of_eq k2,(Nat.zero_add _).trans k2⟩ ?_ ?_
     ·simp only[go_sem,seval,d,length_nil,nil_append,Nat.zero_add]
     ·rintro⟨h,b,a⟩ ⟨j1,j2,j3⟩;dsimp only at j1 j2 j3;have V:IntKind.wrap .i64 ((b.length:Int)+bs)=((b.length+bs:Nat):Int):=eM;rcases cq a.length (2*bs)with hq'|hq'
      ·have F:decide (((b.length+2*bs:Nat):Int)<=(N:Int))=false:=kR;rcases cq bs a.length with hqb|hqb
       ·have L:decide (((b.length+bs:Nat):Int)<(N:Int))=true:=kN;have R:lq lt bs h a=wT lt (a.take bs) (a.drop bs):=by
         cases h with
         |zero=>omega
         |succ h=>rw[lq,az aj,aE hqb]
        have t:=EB H lt g cs j e k G a.length b (a.take bs) (a.drop bs) [] b.length (b.length+bs) N (by rw[dw,dW];omega) (by rw[dw];omega) (by rw[dW];omega) rfl (by rw[dw];omega) (by rw[dw,dW];omega) (by rw[dw,dW,length_nil];omega);rw[append_nil,append_nil,cu,jI]at t;rw[R]at j1;refine sm (a2 d F) ?_;refine dM.id ?_;refine sg [0] (a5 d V L X j1) t ?_;refine⟨(o,2*bs,lq lt bs N m),⟨k1,by rw[tv];exact k2,by show N<=o+2*bs;omega,by show 0<2*bs;omega,by show 2*bs<=_;omega⟩,?_,by show o<o+1;omega⟩;exact dJ d
       ·have L:decide (((b.length+bs:Nat):Int)<(N:Int))=false:=kR;have R:lq lt bs h a=a:=by
         cases h with
         |zero=>rfl
         |succ h=>rw[lq,az aj,az aj]
        rw[R]at j1;refine sm (a2 d F) ?_;refine dM.id ?_;refine sm (a5 d V L X j1) ?_;refine⟨(o,2*bs,lq lt bs N m),⟨k1,by rw[tv];exact k2,by show N<=o+2*bs;omega,by show 0<2*bs;omega,by show 2*bs<=_;omega⟩,?_,by show o<o+1;omega⟩;exact dJ d
      ·have F:decide (((b.length+2*bs:Nat):Int)<=(N:Int))=true:=kN;have w5:IntKind.wrap .i64 (((b.length+2*bs:Nat):Int)+((2*bs:Nat):Int))=((b.length+2*bs+2*bs:Nat):Int):=eM;obtain⟨q,rfl⟩:∃q,h=q+1:=⟨h-1,by omega⟩
       rw[lq,aE hq']at j1;have t:=EB H lt g cs j e k G (2*bs) b (a.take bs) ((a.drop bs).take bs) (a.drop (2*bs)) b.length (b.length+bs) (b.length+2*bs) (by simp only[dw,dW];omega) (by rw[dw];omega) (by rw[dw,dW];omega) rfl (by rw[dw];omega) (by simp only[dw,dW];omega) (by simp only[dw,dW];omega);have e0:b++a.take bs++(a.drop bs).take bs++a.drop (2*bs)=b++a:=by
        rw[show a.drop (2*bs)=(a.drop bs).drop bs by rw[drop_drop];congr 1;omega,cu,cu,jI,jI]
       rw[e0]at t;have E:=wU lt (a.take bs) ((a.drop bs).take bs);rw[dw,dw,dW]at E;obtain⟨Z,M⟩:=aV (wT lt (a.take bs) ((a.drop bs).take bs));rw[<-M]at t E j1;refine sg [0] (a5 d F V W w5) t ?_;refine⟨(q,b++Z,a.drop (2*bs)),⟨by show(b++Z)++_=_;rw[cu];exact j1,by show(a.drop (2*bs)).length<=q;rw[dW];omega,by show(b++Z).length+(a.drop (2*bs)).length=N;rw[cT,dW];omega⟩,?_,by show(a.drop (2*bs)).length<a.length;rw[dW];omega⟩;have p:(b++Z).length=b.length+2*bs:=by rw[cT];omega
       exact dJ (a2 d p)
    ·have K:decide ((bs:Int)<(N:Int))=false:=kR;rw[Lc lt f bs m aj]at k1;rw[<-k1];exact dJ (a2 d K)
  ·have J:decide (((P.length+20:Nat):Int)<=(N:Int))=true:=kN;have w1:IntKind.wrap .i64 (((P.length+20:Nat):Int)+20)=((P.length+20+20:Nat):Int):=eM;obtain⟨h,rfl⟩:∃h,n=h+1:=⟨n-1,by omega⟩
   rw[vv,aE hq]at h1;have r:=D4 H lt g cs j e k G P (Q.take 20) (Q.drop 20) P.length (P.length+20) rfl (by rw[dw];omega) (by rw[dw,dW];omega);rw[cu P,jI]at r;have u:=sw lt (Q.take 20);rw[dw]at u;obtain⟨Z,M⟩:=aV (xE lt (Q.take 20));rw[<-M]at r u h1;refine sg [0] (a3 d J w1) r ?_;have p:(P++Z).length=P.length+20:=by rw[cT];omega
   refine⟨(h,P++Z,Q.drop 20),⟨by show(P++Z)++_=_;rw[cu];exact h1,by show(Q.drop 20).length<=h;rw[dW];omega,by show(P++Z).length+(Q.drop 20).length=N;rw[p,dW];omega⟩,?_,by show(Q.drop 20).length<Q.length;rw[dW];omega⟩;exact dJ (a2 d p)
theorem Cy(lt:A->A->Bool)(g:FuncId)(cs:List D)(b:D.aQ cs=[])(a:qy cs=True)(d:∀(o:Nat->Option Nat)(n:Nat->Bool),ju o n cs cs=True)(m:∀x y:A,∃c:Int,Sq g [] (.agg (c0 x)::.agg (c0 y)::cs) [] (.int .i64 c)/\decide (c<0)=lt x y)(l:List A)(k:l.length<2^38) :
  Sq (ρ 74) [.own z (l.map c0)] [.ref 0,.fn g cs] [.own z ((Ag lt l).map c0)] (.bH []):=by
 have h:=F0 H lt g cs b a d m l k;have hz1:=H.pos;have f:=H.ne;simp only[wA,wC]at f;have i:=H.nv;simp only[BV,xS]at i;have j:=a5 H.sl H.el H.len H.nm (a5 H.tk H.dr H.pT f (a5 i b a d (IQ a)));refine zG 9 2 [] (H.r6) mixed func74 λe=>?_;simp only[Ac,L4,ya,Ad,L3,toList_toArray,map_cons,map_nil,H.t0,H.t3,H.t4,H.tu,eC,Bool.not_true,Bool.not_false,Bool.true_or,Bool.false_or,Bool.and_true,cF,dO]at e |-;refine sm j ?_;(with_reducible and_intros)<;>first|exact dH.mk (by simp only[e])|exact .dq|omega|exact H.ok _|exact H.pl _|skip
 exact Yf [0] j h
end
def rz(l:List Int):List (List D):=l.map wd
theorem adF(l:List Int):(rz l).length=l.length:=by simp[rz]
theorem CJ(l:List Int){i:Nat}(h:i<l.length):(rz l).getD i []=[.I (l[i]/18446744073709551616),.int .u64 (l[i]%18446744073709551616)]:=by simp[rz,h,wd]
def rI(S:Int):Bool:=decide (-170141183460469231731687303715884105728<=S)&&decide (S<170141183460469231731687303715884105728)
def Kp(S n:Int):((S/18446744073709551616)%18446744073709551616+(n/18446744073709551616)%18446744073709551616+(S%18446744073709551616+n%18446744073709551616+0)/18446744073709551616)%18446744073709551616=((S+n)/18446744073709551616)%18446744073709551616:=by
 have a:(S+n)/18446744073709551616=S/18446744073709551616+n/18446744073709551616+(S%18446744073709551616+n%18446744073709551616+0)/18446744073709551616:=aj
 rw[a];omega
def Q7(A B c s:Int)(hc:0<=c/\c<=1)(hB:-9223372036854775808<=B/\B<=9223372036854775807)(b:s=if 0<=B then 0 else 18446744073709551615) :
  ((A/18446744073709551616)%18446744073709551616+s+(A%18446744073709551616+B%18446744073709551616+c)/18446744073709551616)%18446744073709551616=((A+B+c)/18446744073709551616)%18446744073709551616:=by
 have a:(A+B+c)/18446744073709551616=A/18446744073709551616+B/18446744073709551616+(A%18446744073709551616+B%18446744073709551616+c)/18446744073709551616:=aj
 rw[a,b];split<;>omega
def div_add(S n:Int):S/18446744073709551616+n/18446744073709551616+(S%18446744073709551616+n%18446744073709551616+0)/18446744073709551616=(S+n)/18446744073709551616:=aj
theorem tG:∀{l:List Int},(∀n∈l,rI n=true) -> -170141183460469231731687303715884105728*(l.length:Int)<=aK l/\aK l<=170141183460469231731687303715884105728*(l.length:Int)
 | [],_=>by simp[aK]
 |x::r,h=>by
  have h2:=tG (l:=r) λn b=>h n (by simp[b]);have a:=h x sT;simp only[rI,dO,bP]at a;simp only[aK,length_cons];push_cast;omega
attribute [go_sem] adF
theorem rA(l:List Int)(hl:l.length<2^60)(hr:∀n∈l,rI n=true):Sq 169 [] [.sl 2 (rz l)] [] (.bH [.agg (wd (if rI (aK l)then aK l else 0)),.int .i64 (if rI (aK l)then 0 else 1)]):=by
 refine aX 54 1 [.cell 2 133,.tmp 3] mixed func169 ?_;refine s0 ?_;refine aF.count l.length [2,10,11] [48,192] (λi=>[(12,.I i),(4,.int .u64 (aK (l.take i)%18446744073709551616)),(5,.int .u64 ((aK (l.take i)/18446744073709551616)%18446744073709551616)),(6,.int .u64 ((aK (l.take i)/18446744073709551616/18446744073709551616)%18446744073709551616))]) (λi=>[]) (λi=>True) trivial ?_ ?_
 ·simp only[go_sem,seval]<;>simp[aK]
 ·intro i b _;refine s0 ?_;refine aU.cQ (λh=>?_) (λh=>?_)
  ·have a:i<l.length:=aj
   have G:IntKind.wrap .i64 ((i:Int)+1)=((i+1:Nat):Int):=eM;have E:=hr l[i] (cZ a);obtain⟨S,D⟩:=aV (aK (l.take i));obtain⟨n,s⟩:=aV (l[i]);have e:aK (l.take (i+1))=S+n:=by rw[kM a,CD,D,s]
   rw[<-s]at E;simp only[rI,dO,bP]at E;obtain⟨B,C⟩:=aV (n/18446744073709551616);have f:-9223372036854775808<=B/\B<=9223372036854775807:=aj
   have F:IntKind.wrap .u64 B=B%18446744073709551616:=IntKind.wrap_u64 B;have u:=KE B f;have w:=Q7 (S/18446744073709551616) B ((S%18446744073709551616+n%18446744073709551616+0)/18446744073709551616) _ aj f rfl;have v:=Kp S n;have x:=div_add S n;rw[<-C]at v x;rw[x]at w;simp only[go_sem,seval,CJ l a,<-s,<-D,<-C];refine⟨by omega,?_⟩;refine ak.sem rfl ?_;with_reducible refine bO.vr (k:=232) (fn:=Tryz.f232) (i:=S%18446744073709551616) (j:=n%18446744073709551616) (m:=0) ?_ func232 ?_ ?_ kX kW ?_ ?_ ?_ ?_ ?_ ?_ ?_ ?_ ?_
   iterate 11 (first|rfl|omega)
   refine sm F ?_;refine ak.sem rfl ?_;with_reducible refine bO.vr (k:=232) (fn:=Tryz.f232) (i:=S/18446744073709551616%18446744073709551616) (j:=B%18446744073709551616) (m:=(S%18446744073709551616+n%18446744073709551616+0)/18446744073709551616) ?_ func232 ?_ ?_ kX kW ?_ ?_ ?_ ?_ ?_ ?_ ?_ ?_ ?_
   iterate 11 (first|rfl|omega)
   refine sm u ?_;refine ak.sem rfl ?_;with_reducible refine bO.vr (k:=232) (fn:=Tryz.f232) (i:=S/18446744073709551616/18446744073709551616%18446744073709551616) (j:=if 0<=B then 0 else 18446744073709551615) (m:=(S/18446744073709551616%18446744073709551616+B%18446744073709551616+(S%18446744073709551616+n%18446744073709551616+0)/18446744073709551616)/18446744073709551616) ?_ func232 ?_ ?_ kX kW ?_ ?_ ?_ ?_ ?_ ?_ ?_ ?_ ?_
   iterate 7 (first|rfl|omega)
   ·split<;>omega
   iterate 3 (first|rfl|omega)
   rw[w,v,ID];refine sm G ?_;refine af.bF a trivial ?_
   simp only[go_sem,seval,e]
  ·obtain rfl:i=l.length:=aj
   obtain⟨T,o⟩:=aV (aK l);have p:=tG hr;rw[<-o]at p |-;obtain⟨A,y⟩:=aV (T/18446744073709551616);have hAr:-85070591730234615865843651857942052864<=A/\A<=85070591730234615865843651857942052864:=aj
   obtain⟨m,q⟩:=aV (IntKind.wrap .i64 (A%18446744073709551616));have c:m=if A%18446744073709551616<9223372036854775808 then A%18446744073709551616 else A%18446744073709551616-18446744073709551616:=by
    rw[q,IntKind.wrap_i64];split<;>omega
   have t:=KE m (by rw[c];split<;>omega);by_cases b:rI T=true
   ·have hi2:=b;simp only[rI,dO,bP]at hi2;have d:m=A:=by rw[c];split<;>omega
    have g:(A/18446744073709551616%18446744073709551616 != if 0<=m then 0 else 18446744073709551615)=false:=by
     rw[bne_eq_false_iff_eq,d];split<;>omega
    rw[aE b,aE b];rw[d]at t g;have r:IntKind.wrap .i64 (A%18446744073709551616)=A:=by rw[<-q,d]
    simp only[go_sem,seval,ef,<-o,<-y,r,t,g,wd]
   ·have hi2:¬(-170141183460469231731687303715884105728<=T/\T<170141183460469231731687303715884105728):=by
     simpa only[rI,dO,bP]using b
    have g:(A/18446744073709551616%18446744073709551616 != if 0<=m then 0 else 18446744073709551615)=true:=by
     rw[bne_iff_ne,c];split<;>split<;>omega
    rw[az b,az b];simp only[go_sem,seval,ef,<-o,<-y,<-q,t,g,wd];try exact⟨by decide,by decide⟩
def OV(A B c:Int)(hc:0<=c/\c<=1)(hB:-9223372036854775808<=B/\B<=9223372036854775807) :
  A/18446744073709551616+(A%18446744073709551616+B%18446744073709551616+c)/18446744073709551616+(if B<0 then -1 else 0)=(A+B+c)/18446744073709551616:=by
 split<;>omega
def oO(l:List Int)(hl:l.length<2^58)(hr:∀n∈l,rI n=true):Sq 198 [] [.sl 2 (rz l)] [] (.bH [.agg (wd (if rI (aK l)then aK l else 0)),.bool (rI (aK l))]):=by
 refine aX 75 1 [.cell 2 133,.tmp 3] mixed func198 ?_;refine s0 ?_;refine aF.count l.length [0,2] [48] (λi=>[(7,.I i),(6,.int .u64 (aK (l.take i)%18446744073709551616)),(5,.int .u64 ((aK (l.take i)/18446744073709551616)%18446744073709551616)),(4,.I (aK (l.take i)/18446744073709551616/18446744073709551616))]) (λi=>[]) (λi=>True) trivial ?_ ?_
 ·simp only[go_sem,seval]<;>simp[aK]
 ·intro i q _;refine s0 ?_;refine aU.cQ (λh=>?_) (λh=>?_)
  ·have a:i<l.length:=aj
   have U:IntKind.wrap .i64 ((i:Int)+1)=((i+1:Nat):Int):=eM;have V:=hr l[i] (cZ a);have x:∀n∈l.take i,rI n=true:=λn g=>hr n (mem_of_mem_take g);have K:=tG x;have hlt:(l.take i).length<=l.length:=by simp;omega
   obtain⟨S,J⟩:=aV (aK (l.take i));obtain⟨n,g⟩:=aV (l[i]);have f:aK (l.take (i+1))=S+n:=by rw[kM a,CD,J,g]
   rw[<-g]at V;rw[<-J]at K;simp only[rI,dO,bP]at V;obtain⟨B,t⟩:=aV (n/18446744073709551616);have G:-9223372036854775808<=B/\B<=9223372036854775807:=aj
   have Y:IntKind.wrap .u64 B=B%18446744073709551616:=IntKind.wrap_u64 B;obtain⟨c,Q⟩:=aV ((S%18446744073709551616+n%18446744073709551616+0)/18446744073709551616);have M:0<=c/\c<=1:=aj
   have C:=OV (S/18446744073709551616) B c M G;have O:=Kp S n;have P:=div_add S n;rw[<-t,<-Q]at O P;rw[P]at C;obtain⟨d,R⟩:=aV ((S/18446744073709551616%18446744073709551616+B%18446744073709551616+c)/18446744073709551616);have hdr:0<=d/\d<=1:=aj
   obtain⟨e,b⟩:=aV (S/18446744073709551616/18446744073709551616);have htr:-4611686018427387904<=e/\e<=4611686018427387904:=aj
   have w1:IntKind.wrap .i64 d=d:=lF aj aj;have W:IntKind.wrap .i64 (e+d)=e+d:=lF aj aj;have Z:IntKind.wrap .i64 (e+d-1)=e+d-1:=lF aj aj;rw[<-b,<-R]at C;simp only[go_sem,seval,CJ l a,<-g,<-J,<-t];refine⟨by omega,?_⟩;refine ak.sem rfl ?_;with_reducible refine bO.vr (k:=232) (fn:=Tryz.f232) (i:=S%18446744073709551616) (j:=n%18446744073709551616) (m:=0) ?_ func232 ?_ ?_ kX kW ?_ ?_ ?_ ?_ ?_ ?_ ?_ ?_ ?_
   iterate 11 (first|rfl|omega)
   simp only[go_sem,seval,Y,<-Q,CJ l a,<-g,<-t];refine⟨by omega,?_⟩;refine ak.sem rfl ?_;with_reducible refine bO.vr (k:=232) (fn:=Tryz.f232) (i:=S/18446744073709551616%18446744073709551616) (j:=B%18446744073709551616) (m:=c) ?_ func232 ?_ ?_ kX kW ?_ ?_ ?_ ?_ ?_ ?_ ?_ ?_ ?_
   iterate 11 (first|rfl|omega)
   rw[<-R,O,ID];rcases Int.lt_or_le B 0 with hB0|hB0
   ·have E:decide (B<0)=true:=gJ hB0;rw[aE hB0]at C;have F:e+d-1=(S+n)/18446744073709551616/18446744073709551616:=aj
    simp only[go_sem,seval,<-b,w1,W,CJ l a,<-g,<-t,E,Z,U];refine⟨by omega,af.bF a trivial ?_⟩;simp only[go_sem,seval,f,F]
   ·have E:decide (B<0)=false:=kR;rw[az aj]at C;have F:e+d=(S+n)/18446744073709551616/18446744073709551616:=aj
    simp only[go_sem,seval,<-b,w1,W,CJ l a,<-g,<-t,E,U];refine⟨by omega,af.bF a trivial ?_⟩;simp only[go_sem,seval,f,F]
  ·obtain rfl:i=l.length:=aj
   obtain⟨T,u⟩:=aV (aK l);have L:=tG hr;rw[<-u]at L |-;obtain⟨A,D⟩:=aV (T/18446744073709551616);obtain⟨m,v⟩:=aV (IntKind.wrap .i64 (A%18446744073709551616));have r:m=if A%18446744073709551616<9223372036854775808 then A%18446744073709551616 else A%18446744073709551616-18446744073709551616:=by
    rw[v,IntKind.wrap_i64];split<;>omega
   obtain⟨e,b⟩:=aV (A/18446744073709551616);by_cases q:rI T=true
   ·have hi2:=q;simp only[rI,dO,bP]at hi2;have w:m=A:=by rw[r];split<;>omega
    rw[aE q,q];rcases Int.lt_or_le A 0 with hs|hs
    ·have o:(e==0)=false:=by rw[beq_eq_false_iff_ne];omega
     have s:(e == -1)=true:=by rw[gm];omega
     have p:decide (A<0)=true:=gJ hs;simp only[go_sem,seval,ef,<-u,<-D,<-v,<-b,w,o,s,p,wd]
    ·have o:(e==0)=true:=by rw[gm];omega
     have p:decide (0<=A)=true:=gJ hs;simp only[go_sem,seval,ef,<-u,<-D,<-v,<-b,w,o,p,wd]
   ·have hi2:¬(-170141183460469231731687303715884105728<=T/\T<170141183460469231731687303715884105728):=by
     simpa only[rI,dO,bP]using q
    have N:rI T=false:=su q;rw[az q,N];have y:wd 0=[.I 0,.int .u64 0]:=rfl;rcases Int.lt_or_le m 0 with hs|hs
    ·have s:(e == -1)=false:=by rw[beq_eq_false_iff_ne];rw[r]at hs;split at hs<;>omega
     have p:decide (m<0)=true:=gJ hs;have X:decide (0<=m)=false:=kR;cases o:(e==0)<;>simp only[go_sem,seval,ef,<-u,<-D,<-v,<-b,o,s,p,X,y]
    ·have o:(e==0)=false:=by rw[beq_eq_false_iff_ne];rw[r]at hs;split at hs<;>omega
     have p:decide (m<0)=false:=kR;cases s:(e == -1)<;>simp only[go_sem,seval,ef,<-u,<-D,<-v,<-b,o,s,p,y]
def qq(a:aB->aB->Bool):aB->List aB->List aB
 | _,[]=>[]
 |p,y::r=>if a y p then qq a y r else y::qq a y r
def u5(a:aB->aB->Bool):List aB->List aB
 | []=>[]
 |x::r=>x::qq a x r
theorem wK(a:aB->aB->Bool):∀(p:aB)(l:List aB),(qq a p l).length<=l.length
 | _,[]=>cX _
 |p,y::r=>by
  have:=wK a y r;unfold qq;split<;>simp only[length_cons]<;>omega
theorem Cr(a:aB->aB->Bool)(l:List aB):(u5 a l).length<=l.length:=by
 cases l with
 |nil=>exact cX _
 |cons x r=>have:=wK a x r;simp only[u5,length_cons];omega
theorem AR(e:aB->aB->Bool)(g:FuncId)(hg:∀x y:aB,Sq g [] [.agg x.cells,.agg y.cells] [] (.bool (e x y)))(l:List aB)(hN:l.length<2^38)(hs:List D)(d:D)
  (P:(u5 e l).length=l.length->hs=[.own 3 (l.map aB.cells)]/\d=.ref 0)
  (S:(u5 e l).length<l.length->hs=[.own 3 ((u5 e l).map aB.cells++replicate (l.length-(u5 e l).length) [.int .i64 0,.int .i64 0,.int .i64 0])]/\d=.cN 0 3 0 (u5 e l).length) :
  Sq 78 [.own 3 (l.map aB.cells)] [.ref 0,.fn g []] hs d:=by
 obtain⟨N,a⟩:=aV (l.length);obtain⟨Z,U⟩:=aV (u5 e l);rw[<-a]at hN P S;rw[<-U]at P S;rcases cq N 2 with h2|h2
 ·have Q:decide ((N:Int)<2)=true:=kN;have hz:Z=l:=by
   rw[U];cases l with
   |nil=>rfl
   |cons x r =>
    cases r with
    |nil=>rfl
    |cons y r=>simp only[length_cons]at a;omega
  obtain⟨rfl,rfl⟩:=P (by rw[hz];exact a.symm);refine aX 66 2 [.tmp 4] mixed func78 ?_;simp only[go_sem,seval,<-a,Q]
 have Q:decide ((N:Int)<2)=false:=kR;refine aX 66 2 [.tmp 4] mixed func78 ?_;simp only[go_sem,seval,<-a,Q];refine aF.sE (T:=Nat) [0,1,4] [0] (λk=>[(5,.int .i64 ((k+1:Nat):Int))]) (λ_=>[]) (λk=>k+1<=N/\∃p,l[k]?=some p/\Z=l.take (k+1)++qq e p (l.drop (k+1))) (λk=>N-k) 0 ?_ ?_ ?_
 ·refine⟨by omega,?_⟩;cases l with
  |nil=>simp only[length_nil]at a;omega
  |cons x r=>exact⟨x,rfl,by rw[U];rfl⟩
 ·simp only[go_sem,seval]
 ·rintro k ⟨hk,p,hp,hr⟩;rcases cq (k+1) N with hlt|hge
  ·have M:decide (((k+1:Nat):Int)<(N:Int))=true:=kN;have wk:IntKind.wrap .i64 (((k+1:Nat):Int)-1)=((k:Nat):Int):=eM;have ab:IntKind.wrap .i64 (((k+1:Nat):Int)+1)=((k+1+1:Nat):Int):=eM;have n:k+1<l.length:=aj
   obtain⟨y,o⟩:=iw n;have Y:l.drop (k+1)=y::l.drop (k+1+1):=by
    rw[drop_eq_getElem_cons n];congr 1;rw[ec n]at o;exact Option.some.inj o
   have m1:=(gi (c:=aB.cells) hp hp).1;have m2:=(gi (c:=aB.cells) o o).1;have C:=hg y p;rw[Y,qq]at hr;simp only[aB.cells]at m1 m2 C;cases hq:e y p with
   |false =>
    rw[hq]at C hr;rw[az mE]at hr;simp only[go_sem,seval,<-a,M,wk,m1,m2];refine sc aI C ?_;simp only[go_sem,seval,ab];refine⟨k+1,⟨by omega,y,o,?_⟩,?_,by show N-(k+1)<N-k;omega⟩
    ·have ht:l.take (k+1+1)=l.take (k+1)++[y]:=by rw[take_add_one,o];rfl
     show Z=l.take (k+1+1)++qq e y (l.drop (k+1+1));rw[hr,ht];simp
    ·simp only[go_sem,seval]
   |true =>
    rw[hq]at C hr;rw[aE rfl]at hr;have B:Z.length<N:=by
     have:=wK e y (l.drop (k+1+1));rw[hr,cT,dw,<-a];rw[dW,<-a]at this;omega
    obtain⟨rfl,rfl⟩:=S B;have wsl:((N:Int)-((k+1:Nat):Int))=((N-(k+1):Nat):Int):=aj
    simp only[go_sem,seval,<-a,M,wk,m1,m2];refine sc aI C ?_;simp only[go_sem,seval,<-a];refine bG ?_;have hZl2:Z.length<N:=B;refine aF.sE (T:=Nat×Nat×List aB) [0,1,4,6] [] (λs=>[(5,.int .i64 ((s.2.1:Nat):Int)),(7,.int .i64 ((s.1:Nat):Int))]) (λs=>[(0,.own 3 (s.2.2.map aB.cells))]) (λs=>1<=s.1/\s.1+(k+1)<=N/\k+1<=s.2.1/\s.2.1<=k+s.1/\s.2.2.length=N/\s.2.2.drop (k+s.1)=l.drop (k+s.1)/\∃p,l[k+s.1]?=some p/\Z=s.2.2.take s.2.1++qq e p (l.drop (k+s.1+1))) (λs=>N-s.1) (1,k+1,l) ?_ ?_ ?_
    ·exact⟨cX _,by show 1+(k+1)<=N;omega,cX _,cX _,a.symm,rfl,y,o,hr⟩
    ·simp only[go_sem,seval]
    ·rintro⟨k2,j,W⟩ ⟨i1,i2,i3,i4,i5,i6,q,iq,ir⟩;dsimp only at i1 i2 i3 i4 i5 i6 iq ir;have t:∀i,k+k2<=i->W[i]?=l[i]?:=by
      intro i hi;have:=congrArg (λz=>z[i-(k+k2)]?) i6;simp only[getElem?_drop]at this;rwa[show k+k2+(i-(k+k2))=i by omega]at this
     rcases cq (k2+(k+1)) N with hlt2|hge2
     ·have O:decide ((k2:Int)<((N-(k+1):Nat):Int))=true:=kN;have K:IntKind.wrap .i64 ((k2:Int)-1)=((k2-1:Nat):Int):=eM;have L:IntKind.wrap .i64 ((k2:Int)+1)=((k2+1:Nat):Int):=eM;have wj:IntKind.wrap .i64 ((j:Int)+1)=((j+1:Nat):Int):=eM;have m:k+k2+1<l.length:=aj
      obtain⟨b,h⟩:=iw m;have G:l.drop (k+k2+1)=b::l.drop (k+k2+1+1):=by
       rw[drop_eq_getElem_cons m];congr 1;rw[ec m]at h;exact Option.some.inj h
      have g1:W[k+1+(k2-1)]?=some q:=by rw[t _ aj,show k+1+(k2-1)=k+k2 by omega];exact iq
      have g2:W[k+1+k2]?=some b:=by rw[t _ aj,show k+1+k2=k+k2+1 by omega];exact h
      have n1:=(gi (c:=aB.cells) g1 g1).1;have n2:=(gi (c:=aB.cells) g2 g2).1;have f:=hg b q;have E:W.drop (k+k2+1)=l.drop (k+k2+1):=by
       have:=congrArg (drop 1) i6;simpa only[drop_drop]using this
      obtain⟨v,hv⟩:=iw (l:=W) (i:=j) aj;have n3:=(gi (c:=aB.cells) hv hv).1;rw[G,qq]at ir;have J:(W.map aB.cells).set j b.cells=(W.set j b).map aB.cells:=by rw[map_set]
      simp only[aB.cells]at n1 n2 n3 f J;cases I:e b q with
      |true =>
       rw[I]at f ir;rw[aE rfl]at ir;refine sc (a5 i5 O K n1 (a2 n2 L)) f ?_;refine⟨(k2+1,j,W),⟨by show 1<=k2+1;omega,by show k2+1+(k+1)<=N;omega,i3,by show j<=k+(k2+1);omega,i5,?_,b,h,ir⟩,?_,by show N-(k2+1)<N-k2;omega⟩
       ·show W.drop (k+k2+1)=l.drop (k+k2+1);exact E
       ·simp only[go_sem,seval]
      |false =>
       rw[I]at f ir;rw[az mE]at ir;refine sc (a5 i5 O K n1 (a5 n2 n3 L wj J)) f ?_;refine bG ?_;refine⟨(k2+1,j+1,W.set j b),⟨by show 1<=k2+1;omega,by show k2+1+(k+1)<=N;omega,by show k+1<=j+1;omega,by show j+1<=k+(k2+1);omega,by show(W.set j b).length=N;rw[length_set];exact i5,?_,b,h,?_⟩,?_,by show N-(k2+1)<N-k2;omega⟩
       ·show(W.set j b).drop (k+k2+1)=l.drop (k+k2+1);rw[drop_set_of_lt aj];exact E
       ·show Z=(W.set j b).take (j+1)++qq e b (l.drop (k+k2+1+1));have ht:(W.set j b).take (j+1)=W.take j++[b]:=by
         rw[take_add_one,take_set_of_le (cX _),getElem?_set_self aj];rfl
        rw[ir,ht];simp
       ·simp only[go_sem,seval]
     ·have O:decide ((k2:Int)<((N-(k+1):Nat):Int))=false:=kR;have u:Z=W.take j:=by rw[ir,drop_of_length_le aj];simp[qq]
      have w:Z.length=j:=by rw[u,dw];omega
      simp only[go_sem,seval,i5,O];refine bG ?_;with_reducible refine bO.M1 (z:=3) (r:=0) (lo:=j) (l:=N-j) (R:=W.map aB.cells) (zc:=[.int .i64 0,.int .i64 0,.int .i64 0]) Q9 ?_ ?_ ?_ ?_ ?_ ?_ ?_ ?_
      ·rfl
      ·rfl
      ·exact abD
      ·rfl
      ·simp[go_sem]
      ·rw[mY];omega
      ·omega
      ·have aa:splice (W.map aB.cells) j (replicate (N-j) [.int .i64 0,.int .i64 0,.int .i64 0])=Z.map aB.cells++replicate (N-Z.length) [.int .i64 0,.int .i64 0,.int .i64 0]:=by
        rw[splice,drop_of_length_le (by rw[mY,length_replicate];omega),w,u,map_take,append_nil]
       have X:(Z.map aB.cells++replicate (N-Z.length) [D.int .i64 0,.int .i64 0,.int .i64 0]).length=N:=by
        rw[cT,mY,length_replicate];omega
       rw[aa];generalize Z.map aB.cells++replicate (N-Z.length) [D.int .i64 0,.int .i64 0,.int .i64 0]=F at *;simp only[go_sem,seval,X,w];(with_reducible and_intros)<;>first|exact .dq|omega|skip
  ·have M:decide (((k+1:Nat):Int)<(N:Int))=false:=kR;have hkN:k+1=N:=aj
   have V:Z=l:=by
    rw[hr,take_of_length_le aj,drop_of_length_le aj];simp[qq]
   obtain⟨rfl,rfl⟩:=P (by rw[V];exact a.symm);simp only[go_sem,seval,<-a,M]
