/- Parts. -/
import Derived.Test.YtfhdodehnpbeoaaGreatKA
set_option linter.all false
set_option maxHeartbeats 4000000
set_option maxRecDepth 16000
namespace Go.Proofs.YtfhdodehnpbeoaaGreat
open Go.Abs Tryz
open List hiding lt max
def kM{A:Type}{c:A->List D}{l:List A}{i j:Nat}{u v:A}(a:l[i]?=some u)(b:l[j]?=some v) :
  (l.map c).getD i []=c u/\(l.map c).getD j []=c v/\((l.map c).set i (c v)).getD j []=c v/\((l.map c).set i (c v)).set j (c u)=((l.set i v).set j u).map c:=by
 have h1:(l.map c)[i]?=some (c u):=by simp[a]
 have h2:(l.map c)[j]?=some (c v):=by simp[b]
 have d:=ff a;refine⟨by simp[getD,a],by simp[getD,b],?_,by rw[map_set,map_set]⟩;rw[getD,getElem?_set];by_cases h:i=j
 ·subst h;simp[d]
 ·simp[h,b]
theorem YK{A:Type}(lt:A->A->Bool)(n bs:Nat)(l:List A)(h:l.length<=bs):Ev lt n bs l=l:=by
 cases n with
 |zero=>rfl
 |succ n=>rw[Ev,aq aj]
def VF{cs:List D}(h:xN cs=True)(e:Env)(bw:Bool)(gs:List Nat)(k:Nat):cs.map (cv e bw gs k)=cs:=(map_congr_left (g:=id) λd a=>Pl.conv bw gs e.o k d (IB (of_eq_true h) d a)).trans (map_id _)
structure AE{A:Type}(τ:TypeId->TypeId)(ρ:FuncId->FuncId)(c0:A->List D)(z b:Nat):Prop where
 r1:Mx prog τ ρ 359 5
 r2:Mx prog τ ρ 340 5
 r3:Mx prog τ ρ 309 4
 r4:Mx prog τ ρ 310 5
 r5:Mx prog τ ρ 253 3
 r6:Mx prog τ ρ 127 2
 t0:τ 0=0
 t3:τ 3=3
 t4:τ 4=4
 tu:τ 119=119
 sl:fD prog (τ 44)=.slice z b true
 el:jx prog (τ 63)=some ⟨true,z⟩
 ne:(τ 63==E7||τ 63==E9)=false
 nv:(τ 63==K3)=false
 pos:1<=z
 len:∀x,(c0 x).length=z
 ok:∀x,∀d∈c0 x,cE d
 nm:∀x,D.cq (c0 x)=[]
 pl:∀x,xN (c0 x)
def AE.tk{A:Type}{τ:TypeId->TypeId}{ρ:FuncId->FuncId}{c0:A->List D}{z by_:Nat}(H:AE τ ρ c0 z by_)(x:A):(c0 x).take z=c0 x:=take_of_length_le (Nat.le_of_eq (H.len x))
def AE.dr{A:Type}{τ:TypeId->TypeId}{ρ:FuncId->FuncId}{c0:A->List D}{z by_:Nat}(H:AE τ ρ c0 z by_)(x:A):(c0 x).drop z=[]:=drop_eq_nil_of_le (Nat.le_of_eq (H.len x))
def AE.pT{A:Type}{τ:TypeId->TypeId}{ρ:FuncId->FuncId}{c0:A->List D}{z by_:Nat}(H:AE τ ρ c0 z by_)(x:A):xN (c0 x)=True:=eq_true (H.pl x)
section
variable{A:Type}{τ:TypeId->TypeId}{ρ:FuncId->FuncId}{c0:A->List D}{z by_:Nat}(H:AE τ ρ c0 z by_)
include H
def aal(f:Nat->List A)(a b n N:Nat)(g:D)(hN:N<2^40)(hn:n<=N)(t:∀i,i<n->(f i).length=N/\∃u v,(f i)[a+i]?=some u/\(f i)[b+i]?=some v/\f (i+1)=((f i).set (a+i) v).set (b+i) u) :
  Sq (ρ 359) [.own z ((f 0).map c0)] [.ref 0,.I a,.I b,.I n,g] [.own z ((f n).map c0)] (.bD []):=by
 have hz1:=H.pos;have e:=H.ne;simp only[E7,E9]at e;have h:=H.nv;simp only[K3]at h;have j:=a5 H.sl H.el H.len H.nm (a5 H.tk H.dr H.pT e h);refine Iv 38 5 [] (H.r1) mixed func359 λd=>?_;simp only[IY,ZX,GV,IZ,ZW,toList_toArray,map_cons,map_nil,H.t0,H.t3,H.t4,H.tu,je,Bool.not_true,Bool.not_false,Bool.true_or,Bool.false_or,Bool.and_true,cz,cU]at d |-;refine sm j ?_;refine aG.wv n [0,1,2,3] [] (λi=>[(10,.I i)]) (λi=>[(0,.own z ((f i).map c0))]) ?_ ?_ ?_
 ·exact eo j
 ·intro i _ o k m _;obtain⟨hl,u,v,r,s,w⟩:=t i o;have ha:=ff r;have hb:=ff s;have E:IntKind.wrap .i64 ((a:Int)+i)=((a+i:Nat):Int):=fU;have F:IntKind.wrap .i64 ((b:Int)+i)=((b+i:Nat):Int):=fU;obtain⟨x,y,B,C⟩:=kM (c:=c0) r s;generalize a+i=p at *;generalize b+i=q at *;simp only[go_sem,seval,j,k,E,F,length_set,x,y,B,m];(with_reducible and_intros)<;>first|exact gY.mk (by simp only[d])|exact .dq|omega|exact H.ok _|exact H.pl _|skip
  refine ah.v o ?_;exact eo (a3 j w C)
 ·intro _ l _;exact eo (a2 j l)
def D3(L U M V R:List A)(h:U.length=V.length)(a b n:Nat)(d:a=L.length)(e:b=L.length+U.length+M.length)(j:n=U.length)(g:D)(c:L.length+U.length+M.length+V.length+R.length<2^40) :
  Sq (ρ 359) [.own z ((L++U++M++V++R).map c0)] [.ref 0,.I a,.I b,.I n,g] [.own z ((L++V++M++U++R).map c0)] (.bD []):=by
 subst j;have:=aal H (WM L U M V R) a b U.length _ g c aj (λi f=>adk L U M V R h d e f);rwa[adl,af2 L U M V R h]at this
def Rs(L U V R:List A)(a m b:Nat)(ha:a=L.length)(y:m=L.length+U.length)(hb:b=L.length+U.length+V.length)(w:U.length≠0)(x:V.length≠0)(g:FuncId)(cs:List D)(q:D.cq cs=[])(i:xN cs=True)(r:∀(C:Nat->Option Nat)(B:Nat->Bool),nM C B cs cs=True)(hN:L.length+U.length+V.length+R.length<2^40) :
  Sq (ρ 340) [.own z ((L++U++V++R).map c0)] [.ref 0,.I a,.I m,.I b,.fn g cs] [.own z ((L++V++U++R).map c0)] (.bD []):=by
 have w1:IntKind.wrap .i64 ((m:Int)-a)=((U.length:Nat):Int):=fU;have E:IntKind.wrap .i64 ((b:Int)-m)=((V.length:Nat):Int):=fU;have hz1:=H.pos;have j:=H.ne;simp only[E7,E9]at j;have k:=H.nv;simp only[K3]at k;have f:=a5 H.sl H.el H.len H.nm (a5 H.tk H.dr H.pT j (a5 k q i r (VF i)));refine Iv 58 5 [] (H.r2) mixed func340 λt=>?_;simp only[IY,ZX,GV,IZ,ZW,toList_toArray,map_cons,map_nil,H.t0,H.t3,H.t4,H.tu,je,Bool.not_true,Bool.not_false,Bool.true_or,Bool.false_or,Bool.and_true,cz,cU]at t |-;refine sm (a3 f w1 E) ?_;refine aG.yh (T:=List A×List A×List A×List A) [0,2,4] [] (λs=>[(10,.I s.2.1.length),(11,.I s.2.2.1.length)]) (λs=>[(0,.own z ((s.1++s.2.1++s.2.2.1++s.2.2.2).map c0))])
  (λs=>s.1++s.2.2.1++s.2.1++s.2.2.2=L++V++U++R/\s.1.length+s.2.1.length=m/\s.2.1.length≠0/\s.2.2.1.length≠0) (λs=>s.2.1.length+s.2.2.1.length) (L,U,V,R) ?_ ?_ ?_
 ·exact⟨rfl,y.symm,w,x⟩
 ·exact eo f
 ·rintro⟨e,d,c,h⟩ ⟨h1,h2,h3,h4⟩;dsimp only at h1 h2 h3 h4;have hlen:e.length+d.length+c.length+h.length=L.length+U.length+V.length+R.length:=by
   have:=congrArg length h1;simp only[ct]at this;omega
  rcases Nat.lt_trichotomy d.length c.length with hlt|heq|hgt
  ·have n:((d.length:Int)==(c.length:Int))=false:=by simp;omega
   have u:decide ((c.length:Int)<(d.length:Int))=false:=lJ;have o:IntKind.wrap .i64 ((m:Int)-d.length)=((e.length:Nat):Int):=fU;have F:IntKind.wrap .i64 ((m:Int)+c.length)=((m+c.length:Nat):Int):=fU;have G:IntKind.wrap .i64 (((m+c.length:Nat):Int)-d.length)=((m+c.length-d.length:Nat):Int):=fU;have p:IntKind.wrap .i64 ((c.length:Int)-d.length)=((c.length-d.length:Nat):Int):=fU;have l:=D3 H e d (c.take (c.length-d.length)) (c.drop (c.length-d.length)) h (by simp only[iC];omega) e.length (m+c.length-d.length) d.length rfl (by simp only[gh];omega) rfl;have e0:e++d++c++h=e++d++c.take (c.length-d.length)++c.drop (c.length-d.length)++h:=by
    simp only[dS];rw[<-dS (c.take _),n5]
   refine sm (a5 f dV n u (a4 o F G p)) ?_;refine az.iw [] [0] false sT ?_;refine sm f ?_;rw[e0];refine dL.ij (l _ (by simp only[gh,iC];omega)) ?_;refine sm (a2 f p) ?_;refine⟨(e,c.drop (c.length-d.length),c.take (c.length-d.length),d++h),⟨?_,?_,?_,?_⟩,?_,?_⟩
   ·rw[<-h1];simp only[dS];rw[<-dS (c.take _),n5]
   ·simp only[iC];omega
   ·simp only[iC];omega
   ·simp only[gh];omega
   ·simp only[go_sem,seval,f,iC,gh];exact⟨⟨by omega,by omega⟩,by simp only[dS]⟩
   ·simp only[iC,gh];omega
  ·have n:((d.length:Int)==(c.length:Int))=true:=by simp;omega
   have o:IntKind.wrap .i64 ((m:Int)-d.length)=((e.length:Nat):Int):=fU;have l:=D3 H e d [] c h heq e.length m d.length rfl (by simp only[length_nil];omega) rfl;have e0:e++d++c++h=e++d++[]++c++h:=by simp
   have v:L++V++U++R=e++c++[]++d++h:=by rw[<-h1];simp
   refine sm (a3 f dV n) ?_;refine gK.id ?_;refine sm (a2 f o) ?_;refine az.iw [] [0] false sT ?_;refine sm f ?_;rw[e0,v];refine dL.ij (l _ (by simp only[length_nil];omega)) ?_;exact eo f
  ·have n:((d.length:Int)==(c.length:Int))=false:=by simp;omega
   have u:decide ((c.length:Int)<(d.length:Int))=true:=jw;have o:IntKind.wrap .i64 ((m:Int)-d.length)=((e.length:Nat):Int):=fU;have p:IntKind.wrap .i64 ((d.length:Int)-c.length)=((d.length-c.length:Nat):Int):=fU;have l:=D3 H e (d.take c.length) (d.drop c.length) c h (by simp only[gh];omega) e.length m c.length rfl (by simp only[gh,iC];omega) (by simp only[gh];omega);have e0:e++d++c++h=e++d.take c.length++d.drop c.length++c++h:=by
    simp only[dS];rw[<-dS (d.take _),n5]
   refine sm (a5 f dV n u (a2 o p)) ?_;refine az.iw [] [0] false sT ?_;refine sm f ?_;rw[e0];refine dL.ij (l _ (by simp only[gh,iC];omega)) ?_;refine sm (a2 f p) ?_;refine⟨(e++c,d.drop c.length,d.take c.length,h),⟨?_,?_,?_,?_⟩,?_,?_⟩
   ·rw[<-h1];simp only[dS];rw[<-dS (d.take _),n5]
   ·simp only[ct,iC];omega
   ·simp only[iC];omega
   ·simp only[gh];omega
   ·simp only[go_sem,seval,f,iC,gh];omega
   ·simp only[iC,gh];omega
def Ov(lt:A->A->Bool)(g:FuncId)(cs:List D)(E:D.cq cs=[])(o:xN cs=True)(F:∀(rh:Nat->Option Nat)(lv:Nat->Bool),nM rh lv cs cs=True)(Z:∀x y:A,∃c:Int,Sq g [] (.agg (c0 x)::.agg (c0 y)::cs) [] (.I c)/\decide (c<0)=lt x y)(L X R:List A)(a b:Nat)(ha:a=L.length)(hb:b=L.length+X.length)(hN:L.length+X.length+R.length<2^40) :
  Sq (ρ 309) [.own z ((L++X++R).map c0)] [.ref 0,.I a,.I b,.fn g cs] [.own z ((L++Dy lt X++R).map c0)] (.bD []):=by
 have w1:IntKind.wrap .i64 ((a:Int)+1)=((a+1:Nat):Int):=fU;have hz1:=H.pos;have r:=H.ne;simp only[E7,E9]at r;have s:=H.nv;simp only[K3]at s;have d:=a5 H.sl H.el H.len H.nm (a5 H.tk H.dr H.pT r (a5 s E o F (VF o)));refine Iv 53 4 [] (H.r3) mixed func309 λl=>?_;simp only[IY,ZX,GV,IZ,ZW,toList_toArray,map_cons,map_nil,H.t0,H.t3,H.t4,H.tu,je,Bool.not_true,Bool.not_false,Bool.true_or,Bool.false_or,Bool.and_true,cz,cU]at l |-;refine sm (a2 d w1) ?_;refine aG.yh (T:=Nat) [0,1,2,3] [] (λk=>[(8,.I ((a+k:Nat):Int))]) (λk=>[(0,.own z ((H9 lt L X R k).map c0))]) (λk=>k<=X.length+1) (λk=>X.length+1-k) 1 aj ?_ ?_
 ·simp only[go_sem,seval,d,abP]
 ·intro k hk;rcases dN k X.length with hlt|hge
  ·have u:decide (((a+k:Nat):Int)<(b:Int))=true:=jw;have hfl:=abO lt L X R (k+1);have t:=Y7 lt L X R hlt;have e:=λi U V W=>Y8 lt L X R hlt (P:=(xg lt [] (X.take k)).reverse) rfl (i:=i) U V W;have B:(xg lt [] (X.take k)).reverse.length=k:=by simp only[length_reverse,Tc,gh,length_nil];omega
   have C:(X.drop (k+1)++R).length=X.length-(k+1)+R.length:=by simp only[ct,iC]
   generalize (xg lt [] (X.take k)).reverse=P at t e B;generalize X.drop (k+1)++R=R' at t e C;generalize X[k]=x at t e;have Q:IntKind.wrap .i64 (((a+k:Nat):Int)+1)=((a+(k+1):Nat):Int):=fU;rw[t];refine sm (a2 d u) ?_;refine aG.yh (T:=Nat) [0,1,2,3,8] [] (λi=>[(9,.I ((a+k-i:Nat):Int))]) (λi=>[(0,.own z ((pP L x P R' i).map c0))]) (λi=>i<=P.length/\∀j v,j<i->P[P.length-j-1]?=some v->lt x v=true) (λi=>P.length-i) 0 ⟨by omega,by intro j v h;omega⟩ ?_ ?_
   ·simp only[go_sem,seval,d,Nat.sub_zero]
   ·rintro i ⟨hi,hI⟩;rcases dN i P.length with hil|hil
    ·have w:decide ((a:Int)<((a+k-i:Nat):Int))=true:=jw;have O:IntKind.wrap .i64 (((a+k-i:Nat):Int)-1)=((a+k-(i+1):Nat):Int):=fU;obtain⟨v,J,K,g3,S⟩:=JQ L x P R' hil (a:=a+k-i) (b:=a+k-(i+1)) aj aj;obtain⟨c,Y,f⟩:=Z x v;have l1:=ff J;have l2:=ff K;obtain⟨M,N,m3,m4⟩:=kM (c:=c0) J K;generalize a+k-i=p at *;generalize hq:a+k-(i+1)=q at *;refine sm (a5 d w M N O) ?_;(with_reducible and_intros)<;>first|exact gY.mk (by simp only[l])|exact .dq|omega|exact H.ok _|exact H.pl _|skip
     refine az.aP Y ?_;cases m:lt x v with
     |true =>
      rw[m]at f;simp only[go_sem,seval,d,f,length_set,M,N,m3,O];(with_reducible and_intros)<;>first|exact gY.mk (by simp only[l])|exact .dq|omega|exact H.ok _|exact H.pl _|skip
      refine⟨i+1,⟨hil,?_⟩,?_,by show P.length-(i+1)<P.length-i;omega⟩
      ·intro j y hj n;rcases dN j i with h|h
       ·exact hI j y h n
       ·obtain rfl:j=i:=aj
        rw[g3]at n;cases n;exact m
      ·exact eo (a4 d S m4 hq)
     |false =>
      rw[m]at f;have G:=e i hi hI (λ_ y n=>by rw[g3]at n;cases n;exact m);refine sm (a3 d f Q) ?_;refine⟨k+1,by omega,?_,by show X.length+1-(k+1)<X.length+1-k;omega⟩;exact eo (a2 d G)
    ·have w:decide ((a:Int)<((a+k-i:Nat):Int))=false:=lJ;have G:=e i hi hI (λh=>by omega);refine sm (a3 d w Q) ?_;(with_reducible and_intros)<;>first|exact gY.mk (by simp only[l])|exact .dq|omega|exact H.ok _|exact H.pl _|skip
     refine⟨k+1,by omega,?_,by show X.length+1-(k+1)<X.length+1-k;omega⟩;exact eo (a2 d G)
  ·have u:decide (((a+k:Nat):Int)<(b:Int))=false:=lJ;simp only[go_sem,seval,d,u,abN lt L X R hge]
def WN(lt:A->A->Bool)(g:FuncId)(cs:List D)(I:D.cq cs=[])(o:xN cs=True)(J:∀(rh:Nat->Option Nat)(lv:Nat->Bool),nM rh lv cs cs=True)(hg:∀x y:A,∃c:Int,Sq g [] (.agg (c0 x)::.agg (c0 y)::cs) [] (.int .i64 c)/\decide (c<0)=lt x y)(L:List A)(x:A)(Y R:List A)(a m b:Nat)(X:Y.length≠0)(Z:a=L.length)(hm:m=L.length+1)(hb:b=L.length+1+Y.length)(hN:L.length+1+Y.length+R.length<2^40) :
  Sq (ρ 310) [.own z ((L++x::(Y++R)).map c0)] [.ref 0,.int .i64 a,.int .i64 m,.int .i64 b,.fn g cs] [.own z ((L++Eb lt [x] Y++R).map c0)] (.bD []):=by
 have w1:IntKind.wrap .i64 ((m:Int)-a)=1:=fU;rw[afT lt x X];have hz1:=H.pos;have r:=H.ne;simp only[E7,E9]at r;have t:=H.nv;simp only[K3]at t;have d:=a5 H.sl H.el H.len H.nm (a5 H.tk H.dr H.pT r (a5 t I o J (VF o)));refine Iv 220 5 [] (H.r4) mixed func310 λf=>?_;simp only[IY,ZX,GV,IZ,ZW,toList_toArray,map_cons,map_nil,H.t0,H.t3,H.t4,H.tu,je,Bool.not_true,Bool.not_false,Bool.true_or,Bool.false_or,Bool.and_true,cz,cU]at f |-;simp only[go_sem,seval,d,w1];refine aG.yh (T:=Nat×Nat) [0,1,2,4] [0] (λs=>[(10,.int .i64 ((m+s.1:Nat):Int)),(11,.int .i64 ((m+s.2:Nat):Int))]) (λ_=>[]) (λs=>s.1<=s.2/\s.2<=Y.length/\xS (λc=>t2 lt Y[c]? (some x)) s.1 s.2=xS (λc=>t2 lt Y[c]? (some x)) 0 Y.length) (λs=>s.2-s.1) (0,Y.length) ⟨Nat.zero_le _,fO _,rfl⟩ ?_ ?_
 ·simp only[go_sem,seval,d,Nat.add_zero];omega
 ·rintro⟨i,j⟩ ⟨h1,h2,h3⟩;dsimp only at h1 h2 h3;rcases dN i j with hij|hij
  ·have w:decide (((m+i:Nat):Int)<((m+j:Nat):Int))=true:=jw;obtain⟨h,S⟩:=aL ((i+j)/2);have K:h<Y.length:=aj
   have O:=half (i:=m+i) (j:=m+j) aj;rw[show(m+i+(m+j))/2=m+h by omega]at O;have wh:IntKind.wrap .i64 (((m+h:Nat):Int)+1)=((m+(h+1):Nat):Int):=fU;have l:(L++x::(Y++R))[a]?=some x:=AI _ _ _ Z;have n:(L++x::(Y++R))[m+h]?=some Y[h]:=by
    rw[getElem?_append_right aj,show m+h-L.length=h+1 by omega,getElem?_cons_succ,getElem?_append_left K,gF K]
   have u:t2 lt Y[h]? (some x)=lt Y[h] x:=by rw[gF K];rfl
   obtain⟨c,Q,e⟩:=hg Y[h] x;have l1:=ff l;have l2:=ff n;have C:=(kM (c:=c0) l l).1;have E:=(kM (c:=c0) n n).1;generalize Y[h]=y at *;cases B:lt y x with
   |true =>
    rw[B]at e u;simp only[go_sem,seval,d,w,O,C,E];(with_reducible and_intros)<;>first|exact gY.mk (by simp only[f])|exact .dq|omega|exact H.ok _|exact H.pl _|skip
    refine az.aP Q ?_;simp only[go_sem,seval,d,e,wh];refine⟨(h+1,j),⟨by show h+1<=j;omega,h2,?_⟩,?_,by show j-(h+1)<j-i;omega⟩
    ·exact(P7 (p:=λc=>t2 lt Y[c]? (some x)) hij S u).trans h3
    ·simp only[go_sem,seval,d]
   |false =>
    rw[B]at e u;simp only[go_sem,seval,d,w,O,C,E];(with_reducible and_intros)<;>first|exact gY.mk (by simp only[f])|exact .dq|omega|exact H.ok _|exact H.pl _|skip
    refine az.aP Q ?_;simp only[go_sem,seval,d,e];refine⟨(i,h),⟨by show i<=h;omega,by show h<=_;omega,?_⟩,?_,by show h-i<j-i;omega⟩
    ·exact(Vy (p:=λc=>t2 lt Y[c]? (some x)) hij S u).trans h3
    ·simp only[go_sem,seval,d]
  ·have w:decide (((m+i:Nat):Int)<((m+j:Nat):Int))=false:=lJ;obtain rfl:i=j:=aj
   rw[Dl aj]at h3;rw[<-h3];have V:IntKind.wrap .i64 (((m+i:Nat):Int)-1)=((a+i:Nat):Int):=fU;have P:(Y.take i).length=i:=by simp only[gh];omega
   have M:=λk U=>adA L x (Y.take i) (Y.drop i++R) (i:=k) U (a:=a+k) (b:=a+(k+1)) aj aj;have N:=λk=>agc L x (Y.take i) (Y.drop i++R) k;have e0:L++x::(Y++R)=Vb L x (Y.take i) (Y.drop i++R) 0:=by rw[adB,<-dS (Y.take i),n5]
   have W:L++(Y.take i++[x]++Y.drop i)++R=Vb L x (Y.take i) (Y.drop i++R) i:=by
    have:=agb L x (Y.take i) (Y.drop i++R);rw[P]at this;rw[this];simp only[dS,cons_append,nil_append]
   rw[e0,W];rw[P]at M;generalize hF:Vb L x (Y.take i) (Y.drop i++R)=F at M N;simp only[go_sem,seval,d,w];refine gK.id ?_;simp only[go_sem,seval,d];refine aG.yh (T:=Nat) [0,10] [] (λk=>[(13,.int .i64 ((a+k:Nat):Int))]) (λk=>[(0,.own z ((F k).map c0))]) (λk=>k<=i) (λk=>i-k) 0 (Nat.zero_le _) ?_ ?_
   ·simp only[go_sem,seval,d,Nat.add_zero]
   ·intro k U;rcases dN k i with hki|hki
    ·have G:decide (((a+k:Nat):Int)<((a+i:Nat):Int))=true:=jw;have wk:IntKind.wrap .i64 (((a+k:Nat):Int)+1)=((a+(k+1):Nat):Int):=fU;obtain⟨v,l,n,g3⟩:=M k hki;have l1:=ff l;have l2:=ff n;obtain⟨C,E,m3,m4⟩:=kM (c:=c0) l n;generalize u:a+k=p at *;generalize B:a+(k+1)=q at *;simp only[go_sem,seval,d,V,G,wk,length_set,C,E,m3];(with_reducible and_intros)<;>first|exact gY.mk (by simp only[f])|exact .dq|omega|exact H.ok _|exact H.pl _|skip
     refine⟨k+1,hki,?_,by show i-(k+1)<i-k;omega⟩;simp only[go_sem,seval,d,g3,m4,B]
    ·obtain rfl:k=i:=aj
     have G:decide (((a+k:Nat):Int)<((a+k:Nat):Int))=false:=lJ;simp only[go_sem,seval,d,V,G]
def WO(lt:A->A->Bool)(g:FuncId)(cs:List D)(J:D.cq cs=[])(o:xN cs=True)(K:∀(rh:Nat->Option Nat)(lv:Nat->Bool),nM rh lv cs cs=True)(Z:∀x y:A,∃c:Int,Sq g [] (.agg (c0 x)::.agg (c0 y)::cs) [] (.int .i64 c)/\decide (c<0)=lt x y)(L X:List A)(y:A)(R:List A)(a m b:Nat)(Y:X.length≠0)(I:X.length≠1)(ha:a=L.length)(hm:m=L.length+X.length)(hb:b=L.length+X.length+1)(hN:L.length+X.length+1+R.length<2^40) :
  Sq (ρ 310) [.own z ((L++X++y::R).map c0)] [.ref 0,.int .i64 a,.int .i64 m,.int .i64 b,.fn g cs] [.own z ((L++Eb lt X [y]++R).map c0)] (.bD []):=by
 have w1:IntKind.wrap .i64 ((m:Int)-a)=((X.length:Nat):Int):=fU;have q1:((X.length:Int)==1)=false:=by simp;omega
 have w2:IntKind.wrap .i64 ((b:Int)-m)=1:=fU;rw[ac8 lt Y I y];have hz1:=H.pos;have r:=H.ne;simp only[E7,E9]at r;have t:=H.nv;simp only[K3]at t;have d:=a5 H.sl H.el H.len H.nm (a5 H.tk H.dr H.pT r (a5 t J o K (VF o)));refine Iv 220 5 [] (H.r4) mixed func310 λf=>?_;simp only[IY,ZX,GV,IZ,ZW,toList_toArray,map_cons,map_nil,H.t0,H.t3,H.t4,H.tu,je,Bool.not_true,Bool.not_false,Bool.true_or,Bool.false_or,Bool.and_true,cz,cU]at f |-;simp only[go_sem,seval,d,w1,q1,w2];refine aG.yh (T:=Nat×Nat) [0,1,2,4] [0] (λs=>[(14,.int .i64 ((a+s.1:Nat):Int)),(15,.int .i64 ((a+s.2:Nat):Int))]) (λ_=>[]) (λs=>s.1<=s.2/\s.2<=X.length/\xS (λc=>t2 (λy x=>!lt y x) (some y) X[c]?) s.1 s.2=xS (λc=>t2 (λy x=>!lt y x) (some y) X[c]?) 0 X.length) (λs=>s.2-s.1) (0,X.length) ⟨Nat.zero_le _,fO _,rfl⟩ ?_ ?_
 ·simp only[go_sem,seval,d,Nat.add_zero];omega
 ·rintro⟨i,j⟩ ⟨h1,h2,h3⟩;dsimp only at h1 h2 h3;rcases dN i j with hij|hij
  ·have w:decide (((a+i:Nat):Int)<((a+j:Nat):Int))=true:=jw;obtain⟨h,U⟩:=aL ((i+j)/2);have M:h<X.length:=aj
   have P:=half (i:=a+i) (j:=a+j) aj;rw[show(a+i+(a+j))/2=a+h by omega]at P;have wh:IntKind.wrap .i64 (((a+h:Nat):Int)+1)=((a+(h+1):Nat):Int):=fU;have l:(L++X++y::R)[m]?=some y:=AI _ _ _ (by simp only[ct];omega);have n:(L++X++y::R)[a+h]?=some X[h]:=by
    rw[dS,getElem?_append_right aj,show a+h-L.length=h by omega,getElem?_append_left M,gF M]
   have u:t2 (λy x=>!lt y x) (some y) X[h]? = !lt y X[h]:=by rw[gF M];rfl
   obtain⟨c,S,e⟩:=Z y X[h];have l1:=ff l;have l2:=ff n;have C:=(kM (c:=c0) l l).1;have E:=(kM (c:=c0) n n).1;generalize X[h]=x at *;cases B:lt y x with
   |false =>
    rw[B]at e u;simp only[go_sem,seval,d,w,P,C,E];(with_reducible and_intros)<;>first|exact gY.mk (by simp only[f])|exact .dq|omega|exact H.ok _|exact H.pl _|skip
    refine az.aP S ?_;simp only[go_sem,seval,d,e,wh];refine⟨(h+1,j),⟨by show h+1<=j;omega,h2,?_⟩,?_,by show j-(h+1)<j-i;omega⟩
    ·exact(P7 (p:=(λc=>t2 (λy x=>!lt y x) (some y) X[c]?)) hij U u).trans h3
    ·simp only[go_sem,seval,d]
   |true =>
    rw[B]at e u;simp only[go_sem,seval,d,w,P,C,E];(with_reducible and_intros)<;>first|exact gY.mk (by simp only[f])|exact .dq|omega|exact H.ok _|exact H.pl _|skip
    refine az.aP S ?_;simp only[go_sem,seval,d,e];refine⟨(i,h),⟨by show i<=h;omega,by show h<=_;omega,?_⟩,?_,by show h-i<j-i;omega⟩
    ·exact(Vy (p:=(λc=>t2 (λy x=>!lt y x) (some y) X[c]?)) hij U u).trans h3
    ·simp only[go_sem,seval,d]
  ·have w:decide (((a+i:Nat):Int)<((a+j:Nat):Int))=false:=lJ;obtain rfl:i=j:=aj
   rw[Dl aj]at h3;rw[<-h3];have Q:(X.drop i).length=X.length-i:=by simp only[iC]
   have hLl:(L++X.take i).length=a+i:=by simp only[ct,gh];omega
   have N:=λk V=>JQ (L++X.take i) y (X.drop i) R (i:=k) V (a:=m-k) (b:=m-(k+1)) aj aj;have O:=λk=>YQ (L++X.take i) y (X.drop i) R k;have e0:L++X++y::R=pP (L++X.take i) y (X.drop i) R 0:=by rw[JR,dS L (X.take i),n5]
   have W:L++(X.take i++[y]++X.drop i)++R=pP (L++X.take i) y (X.drop i) R (X.length-i):=by
    have:=YP (L++X.take i) y (X.drop i) R;rw[Q]at this;rw[this];simp only[dS,cons_append,nil_append]
   rw[e0,W];rw[Q]at N;generalize hF:pP (L++X.take i) y (X.drop i) R=F at N O;simp only[go_sem,seval,d,w];refine gK.id ?_;simp only[go_sem,seval,d];refine aG.yh (T:=Nat) [0,14] [] (λk=>[(17,.int .i64 ((m-k:Nat):Int))]) (λk=>[(0,.own z ((F k).map c0))]) (λk=>k<=X.length-i) (λk=>X.length-i-k) 0 (Nat.zero_le _) ?_ ?_
   ·simp only[go_sem,seval,d,Nat.sub_zero]
   ·intro k V;rcases dN k (X.length-i)with hki|hki
    ·have G:decide (((a+i:Nat):Int)<((m-k:Nat):Int))=true:=jw;have wk:IntKind.wrap .i64 (((m-k:Nat):Int)-1)=((m-(k+1):Nat):Int):=fU;obtain⟨v,l,n,g4,g3⟩:=N k hki;have l1:=ff l;have l2:=ff n;obtain⟨C,E,m3,m4⟩:=kM (c:=c0) l n;generalize u:m-k=p at *;generalize B:m-(k+1)=q at *;simp only[go_sem,seval,d,G,wk,length_set,C,E,m3];(with_reducible and_intros)<;>first|exact gY.mk (by simp only[f])|exact .dq|omega|exact H.ok _|exact H.pl _|skip
     refine⟨k+1,hki,?_,by show X.length-i-(k+1)<X.length-i-k;omega⟩;simp only[go_sem,seval,d,g3,m4,B]
    ·obtain rfl:k=X.length-i:=aj
     have G:decide (((a+i:Nat):Int)<((m-(X.length-i):Nat):Int))=false:=lJ;simp only[go_sem,seval,d,G]
set_option maxHeartbeats 8000000 in
set_option maxRecDepth 8000 in
theorem Pw(lt:A->A->Bool)(g:FuncId)(cs:List D)(aa:D.cq cs=[])(J:xN cs=True)(ab:∀(rh:Nat->Option Nat)(lv:Nat->Bool),nM rh lv cs cs=True)(hg:∀x y:A,∃c:Int,Sq g [] (.agg (c0 x)::.agg (c0 y)::cs) [] (.int .i64 c)/\decide (c<0)=lt x y)(n:Nat):∀(L X Y R:List A)(a m b:Nat),X.length+Y.length<=n->X.length≠0->Y.length≠0->a=L.length->m=L.length+X.length->b=L.length+X.length+Y.length->L.length+X.length+Y.length+R.length<2^40 ->
  Sq (ρ 310) [.own z ((L++X++Y++R).map c0)] [.ref 0,.int .i64 a,.int .i64 m,.int .i64 b,.fn g cs] [.own z ((L++Eb lt X Y++R).map c0)] (.bD []):=by
 induction n with
 |zero=>intro L X Y R a m b h hX hY;omega
 |succ n ih =>
  intro L X Y R a m b h hX hY ha hm hb hN;by_cases ao:X.length=1
  ·obtain⟨x,rfl⟩:=length_eq_one_iff.1 ao;rw[show L++[x]++Y++R=L++x::(Y++R)by simp only[dS,cons_append,nil_append]];simp only[length_cons,length_nil]at hm hb hN;exact WN H lt g cs aa J ab hg L x Y R a m b hY ha aj aj aj
  by_cases aw:Y.length=1
  ·obtain⟨y,rfl⟩:=length_eq_one_iff.1 aw;rw[show L++X++[y]++R=L++X++y::R by simp only[dS,cons_append,nil_append]];simp only[length_cons,length_nil]at hm hb hN;exact WO H lt g cs aa J ab hg L X y R a m b hX ao ha hm aj aj
  rw[afU lt aj aj];have B:=Eu lt X Y;obtain⟨d,ah⟩:=aL ((X.length+Y.length)/2);obtain⟨s0,M,ac,av,hd⟩:∃s0 M,cutAt lt X Y=xS (λc=>t2 (λy x=>!lt y x) Y[d-1-c]? X[c]?) s0 M/\(s0<=M/\M<=X.length/\M<=d/\d<=s0+Y.length)/\((d<X.length/\s0=d-Y.length/\M=d)\/(X.length<=d/\s0=0/\M=X.length)):=by
   unfold cutAt;rw[<-ah];rcases dN d X.length with V|V
   ·rw[au V,au V];exact⟨_,_,rfl,⟨by omega,by omega,by omega,by omega⟩,.inl ⟨V,rfl,rfl⟩⟩
   ·rw[aq aj,aq aj];exact⟨_,_,rfl,⟨by omega,by omega,by omega,by omega⟩,.inr ⟨V,rfl,rfl⟩⟩
  rw[<-ah]at B;rw[<-ah];have w1:IntKind.wrap .i64 ((m:Int)-a)=((X.length:Nat):Int):=fU;have q1:((X.length:Int)==1)=false:=by simp;omega
  have w2:IntKind.wrap .i64 ((b:Int)-m)=((Y.length:Nat):Int):=fU;have q2:((Y.length:Int)==1)=false:=by simp;omega
  have wm:=half (i:=a) (j:=b) aj;rw[show(a+b)/2=a+d by omega]at wm;have wn:IntKind.wrap .i64 (((a+d:Nat):Int)+m)=((a+d+m:Nat):Int):=fU;have wp:IntKind.wrap .i64 (((a+d+m:Nat):Int)-1)=((a+d+m-1:Nat):Int):=fU;obtain⟨wB,K⟩:∃w:Int,w=IntKind.wrap .i64 (((a+d+m:Nat):Int)-b):=⟨_,rfl⟩
  have ad:d<X.length->wB=((a+s0:Nat):Int):=by
   intro V;rw[K,gx aj aj];omega
  have hz1:=H.pos;have am:=H.ne;simp only[E7,E9]at am;have an:=H.nv;simp only[K3]at an;have e:=a5 H.sl H.el H.len H.nm (a5 H.tk H.dr H.pT am (a5 an aa J ab (VF J)));refine Iv 220 5 [] (H.r4) mixed func310 λag=>?_;simp only[IY,ZX,GV,IZ,ZW,toList_toArray,map_cons,map_nil,H.t0,H.t3,H.t4,H.tu,je,Bool.not_true,Bool.not_false,Bool.true_or,Bool.false_or,Bool.and_true,cz,cU]at ag |-;rcases hd with⟨c1,c2,c3⟩| ⟨c1,c2,c3⟩;all_goals first
   | (have dG:decide (((a+d:Nat):Int) < (m:Int))=true:=jw
      replace K:=K.symm.trans (ad c1)
      simp only[go_sem,seval,e,w1,w2,q1,q2,wm,wn,wp,dG,K])
   | (have dG:decide (((a+d:Nat):Int) < (m:Int))=false:=lJ
      simp only[go_sem,seval,e,w1,w2,q1,q2,wm,wn,wp,dG])
  all_goals
   refine aG.yh (T:=Nat×Nat) [0,1,2,3,4,18,19,22] [0] (λs=>[(20,.int .i64 ((a+s.1:Nat):Int)),(21,.int .i64 ((a+s.2:Nat):Int))]) (λ_=>[]) (λs=>s0<=s.1/\s.1<=s.2/\s.2<=M/\xS (λc=>t2 (λy x=>!lt y x) Y[d-1-c]? X[c]?) s.1 s.2=xS (λc=>t2 (λy x=>!lt y x) Y[d-1-c]? X[c]?) s0 M) (λs=>s.2-s.1) (s0,M) ⟨fO _,av.1,fO _,rfl⟩ ?_ ?_
   ·simp only[go_sem,seval,e]<;>omega
   ·rintro⟨i,j⟩ ⟨h1,h2,h3,h4⟩;dsimp only at h1 h2 h3 h4;rcases dN i j with hij|hij
    ·have d1:decide (((a+i:Nat):Int)<((a+j:Nat):Int))=true:=jw;obtain⟨k,hk⟩:=aL ((i+j)/2);have ai:k<X.length:=aj
     have ak:d-1-k<Y.length:=aj
     have hv:=half (i:=a+i) (j:=a+j) aj;rw[show(a+i+(a+j))/2=a+k by omega]at hv;have wk:IntKind.wrap .i64 (((a+k:Nat):Int)+1)=((a+(k+1):Nat):Int):=fU;have wy:IntKind.wrap .i64 (((a+d+m-1:Nat):Int)-((a+k:Nat):Int))=((m+(d-1-k):Nat):Int):=fU;have g1:(L++X++Y++R)[m+(d-1-k)]?=some Y[d-1-k]:=by
      rw[dS,getElem?_append_right (by rw[ct];omega),show m+(d-1-k)-(L++X).length=d-1-k by rw[ct];omega,getElem?_append_left ak,gF ak]
     have g2:(L++X++Y++R)[a+k]?=some X[k]:=by
      rw[dS,dS,getElem?_append_right aj,show a+k-L.length=k by omega,getElem?_append_left ai,gF ai]
     have hp:t2 (λy x=>!lt y x) Y[d-1-k]? X[k]? = !lt Y[d-1-k] X[k]:=by rw[gF ak,gF ai];rfl
     obtain⟨c,V,B⟩:=hg Y[d-1-k] X[k];have l1:=ff g1;have l2:=ff g2;have m1:=(kM (c:=c0) g1 g1).1;have m2:=(kM (c:=c0) g2 g2).1;generalize Y[d-1-k]=y at *;generalize X[k]=x at *;cases hq:lt y x with
     |true =>
      rw[hq]at B hp;simp only[go_sem,seval,e,d1,hv,wy,m1,m2];(with_reducible and_intros)<;>first|exact gY.mk (by simp only[ag])|exact .dq|omega|exact H.ok _|exact H.pl _|skip
      refine az.aP V ?_;simp only[go_sem,seval,e,B];refine⟨(i,k),⟨h1,by show i<=k;omega,by show k<=_;omega,?_⟩,?_,by show k-i<j-i;omega⟩
      ·exact(Vy (p:=λc=>t2 (λy x=>!lt y x) Y[d-1-c]? X[c]?) hij hk hp).trans h4
      ·simp only[go_sem,seval,e]
     |false =>
      rw[hq]at B hp;simp only[go_sem,seval,e,d1,hv,wy,m1,m2];(with_reducible and_intros)<;>first|exact gY.mk (by simp only[ag])|exact .dq|omega|exact H.ok _|exact H.pl _|skip
      refine az.aP V ?_;simp only[go_sem,seval,e,B,wk];refine⟨(k+1,j),⟨by show s0<=k+1;omega,by show k+1<=j;omega,h3,?_⟩,?_,by show j-(k+1)<j-i;omega⟩
      ·exact(P7 (p:=λc=>t2 (λy x=>!lt y x) Y[d-1-c]? X[c]?) hij hk hp).trans h4
      ·simp only[go_sem,seval,e]
    ·have d1:decide (((a+i:Nat):Int)<((a+j:Nat):Int))=false:=lJ;obtain rfl:i=j:=aj
     rw[Dl aj]at h4;have al:cutAt lt X Y=i:=by rw[ac];exact h4.symm
     rw[al]at B |-;have wq:IntKind.wrap .i64 (((a+d+m:Nat):Int)-((a+i:Nat):Int))=((m+(d-i):Nat):Int):=fU;obtain⟨u,P⟩:∃Z,Z=X.take i:=⟨_,rfl⟩
     obtain⟨t,Q⟩:∃Z,Z=X.drop i:=⟨_,rfl⟩
     obtain⟨r,S⟩:∃Z,Z=Y.take (d-i):=⟨_,rfl⟩
     obtain⟨v,U⟩:∃Z,Z=Y.drop (d-i):=⟨_,rfl⟩
     have lXa:u.length=i:=by rw[P,gh];omega
     have lXb:t.length=X.length-i:=by rw[Q,iC]
     have lYa:r.length=d-i:=by rw[S,gh];omega
     have lYb:v.length=Y.length-(d-i):=by rw[U,iC]
     have eX:u++t=X:=by rw[P,Q,n5]
     have eY:r++v=Y:=by rw[S,U,n5]
     rw[<-P,<-Q,<-S,<-U];obtain⟨W0,N⟩:∃W,W=L++X++Y++R:=⟨_,rfl⟩
     obtain⟨W1,G⟩:∃W,W=L++u++r++t++v++R:=⟨_,rfl⟩
     obtain⟨W2,I⟩:∃W,W=L++Eb lt u r++t++v++R:=⟨_,rfl⟩
     obtain⟨W3,O⟩:∃W,W=L++(Eb lt u r++Eb lt t v)++R:=⟨_,rfl⟩
     rw[<-N,<-O];have C:t.length≠0->r.length≠0->Sq (ρ 340) [.own z (W0.map c0)] [.ref 0,.int .i64 ((a+i:Nat):Int),.int .i64 m,.int .i64 ((m+(d-i):Nat):Int),.fn g cs] [.own z (W1.map c0)] (.bD []):=by
      intro ar ap;have:=Rs H (L++u) t r (v++R) (a+i) m (m+(d-i)) (by rw[ct];omega) (by rw[ct];omega) (by rw[ct];omega) ar ap g cs aa J ab (by simp only[ct];omega);rwa[show L++u++t++r++(v++R)=W0 by rw[N,<-eX,<-eY];simp only[dS],show L++u++r++t++(v++R)=W1 by rw[G];simp only[dS]]at this
     have ae:u.length≠0->r.length≠0->Sq (ρ 310) [.own z (W1.map c0)] [.ref 0,.int .i64 a,.int .i64 ((a+i:Nat):Int),.int .i64 ((a+d:Nat):Int),.fn g cs] [.own z (W2.map c0)] (.bD []):=by
      intro h1 h2;have:=ih L u r (t++v++R) a (a+i) (a+d) aj h1 h2 ha aj aj (by simp only[ct];omega);rwa[show L++u++r++(t++v++R)=W1 by rw[G];simp only[dS],show L++Eb lt u r++(t++v++R)=W2 by rw[I];simp only[dS]]at this
     have af:t.length≠0->v.length≠0->Sq (ρ 310) [.own z (W2.map c0)] [.ref 0,.int .i64 ((a+d:Nat):Int),.int .i64 ((m+(d-i):Nat):Int),.int .i64 b,.fn g cs] [.own z (W3.map c0)] (.bD []):=by
      intro h1 h2;have lsm:=Fz lt u r;have:=ih (L++Eb lt u r) t v R (a+d) (m+(d-i)) b aj h1 h2 (by rw[ct];omega) (by rw[ct];omega) (by rw[ct];omega) (by rw[ct];omega);rwa[<-I,show L++Eb lt u r++Eb lt t v++R=W3 by rw[O];simp only[dS]]at this
     have eR:t.length=0\/r.length=0->W0=W1:=by
      intro h;rw[N,G,<-eX,<-eY];rcases h with h|h<;>(rw[eq_nil_of_length_eq_zero h];simp only[dS,nil_append,append_nil])
     have e1:u.length=0\/r.length=0->W1=W2:=by
      intro h;rw[G,I];rcases h with h|h<;>(rw[eq_nil_of_length_eq_zero h];simp only[LX,UM,dS,nil_append,append_nil])
     have e2:t.length=0\/v.length=0->W2=W3:=by
      intro h;rw[I,O];rcases h with h|h<;>(rw[eq_nil_of_length_eq_zero h];simp only[LX,UM,dS,nil_append,append_nil])
     simp only[go_sem,seval,e,d1];refine gK.id ?_;simp only[go_sem,seval,e,wq];clear K ad hg ih N G I O P Q S U eX eY ac h4 al wm wn wp w1 w2 q1 q2 dG d1 wq h1 h2 h3;rcases Nat.eq_zero_or_pos t.length with zb|zb<;>rcases Nat.eq_zero_or_pos r.length with za|za<;>rcases Nat.eq_zero_or_pos u.length with zc|zc<;>rcases Nat.eq_zero_or_pos v.length with zd|zd
     ·exfalso;omega
     ·exfalso;omega
     ·exfalso;omega
     ·have E:decide (((a+i:Nat):Int)<(m:Int))=false:=lJ;have F:decide ((m:Int)<((m+(d-i):Nat):Int))=false:=lJ;have f:decide ((a:Int)<((a+i:Nat):Int))=true:=jw;have l:decide (((a+i:Nat):Int)<((a+d:Nat):Int))=false:=lJ;have o:decide (((a+d:Nat):Int)<((m+(d-i):Nat):Int))=false:=lJ;have q:decide (((m+(d-i):Nat):Int)<(b:Int))=true:=jw;rw[eR aj];rw[e1 aj];have e2:=e2 aj;simp only[go_sem,seval,e,E,F,f,l,o,q];rw[e2]
     ·exfalso;omega
     ·exfalso;omega
     ·exfalso;omega
     ·have E:decide (((a+i:Nat):Int)<(m:Int))=false:=lJ;have F:decide ((m:Int)<((m+(d-i):Nat):Int))=true:=jw;have f:decide ((a:Int)<((a+i:Nat):Int))=true:=jw;have l:decide (((a+i:Nat):Int)<((a+d:Nat):Int))=true:=jw;have o:decide (((a+d:Nat):Int)<((m+(d-i):Nat):Int))=false:=lJ;have q:decide (((m+(d-i):Nat):Int)<(b:Int))=true:=jw;rw[eR aj];have e2:=e2 aj;simp only[go_sem,seval,e,E,F,f,l,o,q];refine az.iw [] [0] false sT ?_;simp only[go_sem,seval,e];refine dL.ij (ae aj aj) ?_;simp only[go_sem,seval,e,f,l,o,q];rw[e2]
     ·exfalso;omega
     ·exfalso;omega
     ·exfalso;omega
     ·have E:decide (((a+i:Nat):Int)<(m:Int))=true:=jw;have F:decide ((m:Int)<((m+(d-i):Nat):Int))=false:=lJ;have f:decide ((a:Int)<((a+i:Nat):Int))=true:=jw;have l:decide (((a+i:Nat):Int)<((a+d:Nat):Int))=false:=lJ;have o:decide (((a+d:Nat):Int)<((m+(d-i):Nat):Int))=true:=jw;have q:decide (((m+(d-i):Nat):Int)<(b:Int))=true:=jw;rw[eR aj];rw[e1 aj];simp only[go_sem,seval,e,E,F,f,l,o,q];refine az.iw [] [0] false sT ?_;simp only[go_sem,seval,e];refine dL.ij (af aj aj) ?_;simp only[go_sem,seval,e,f,l,o,q]
     ·have E:decide (((a+i:Nat):Int)<(m:Int))=true:=jw;have F:decide ((m:Int)<((m+(d-i):Nat):Int))=true:=jw;have f:decide ((a:Int)<((a+i:Nat):Int))=false:=lJ;have l:decide (((a+i:Nat):Int)<((a+d:Nat):Int))=true:=jw;have o:decide (((a+d:Nat):Int)<((m+(d-i):Nat):Int))=true:=jw;have q:decide (((m+(d-i):Nat):Int)<(b:Int))=false:=lJ;have e1:=e1 aj;have e2:=e2 aj;simp only[go_sem,seval,e,E,F,f,l,o,q];refine az.iw [] [0] false sT ?_;simp only[go_sem,seval,e];refine dL.ij (C aj aj) ?_;simp only[go_sem,seval,e,f,l,o,q];rw[e1];rw[e2]
     ·have E:decide (((a+i:Nat):Int)<(m:Int))=true:=jw;have F:decide ((m:Int)<((m+(d-i):Nat):Int))=true:=jw;have f:decide ((a:Int)<((a+i:Nat):Int))=false:=lJ;have l:decide (((a+i:Nat):Int)<((a+d:Nat):Int))=true:=jw;have o:decide (((a+d:Nat):Int)<((m+(d-i):Nat):Int))=true:=jw;have q:decide (((m+(d-i):Nat):Int)<(b:Int))=true:=jw;have e1:=e1 aj;simp only[go_sem,seval,e,E,F,f,l,o,q];refine az.iw [] [0] false sT ?_;simp only[go_sem,seval,e];refine dL.ij (C aj aj) ?_;simp only[go_sem,seval,e,f,l,o,q];rw[e1];refine az.iw [] [0] false sT ?_;simp only[go_sem,seval,e];refine dL.ij (af aj aj) ?_;simp only[go_sem,seval,e,f,l,o,q]
     ·have E:decide (((a+i:Nat):Int)<(m:Int))=true:=jw;have F:decide ((m:Int)<((m+(d-i):Nat):Int))=true:=jw;have f:decide ((a:Int)<((a+i:Nat):Int))=true:=jw;have l:decide (((a+i:Nat):Int)<((a+d:Nat):Int))=true:=jw;have o:decide (((a+d:Nat):Int)<((m+(d-i):Nat):Int))=true:=jw;have q:decide (((m+(d-i):Nat):Int)<(b:Int))=false:=lJ;have e2:=e2 aj;simp only[go_sem,seval,e,E,F,f,l,o,q];refine az.iw [] [0] false sT ?_;simp only[go_sem,seval,e];refine dL.ij (C aj aj) ?_;simp only[go_sem,seval,e,f,l,o,q];refine az.iw [] [0] false sT ?_;simp only[go_sem,seval,e];refine dL.ij (ae aj aj) ?_;simp only[go_sem,seval,e,f,l,o,q];rw[e2]
     ·have E:decide (((a+i:Nat):Int)<(m:Int))=true:=jw;have F:decide ((m:Int)<((m+(d-i):Nat):Int))=true:=jw;have f:decide ((a:Int)<((a+i:Nat):Int))=true:=jw;have l:decide (((a+i:Nat):Int)<((a+d:Nat):Int))=true:=jw;have o:decide (((a+d:Nat):Int)<((m+(d-i):Nat):Int))=true:=jw;have q:decide (((m+(d-i):Nat):Int)<(b:Int))=true:=jw;simp only[go_sem,seval,e,E,F,f,l,o,q];refine az.iw [] [0] false sT ?_;simp only[go_sem,seval,e];refine dL.ij (C aj aj) ?_;simp only[go_sem,seval,e,f,l,o,q];refine az.iw [] [0] false sT ?_;simp only[go_sem,seval,e];refine dL.ij (ae aj aj) ?_;simp only[go_sem,seval,e,f,l,o,q];refine az.iw [] [0] false sT ?_;simp only[go_sem,seval,e];refine dL.ij (af aj aj) ?_;simp only[go_sem,seval,e,f,l,o,q]
def RJ(lt:A->A->Bool)(g:FuncId)(cs:List D)(j:D.cq cs=[])(e:xN cs=True)(k:∀(rh:Nat->Option Nat)(lv:Nat->Bool),nM rh lv cs cs=True)(G:∀x y:A,∃c:Int,Sq g [] (.agg (c0 x)::.agg (c0 y)::cs) [] (.I c)/\decide (c<0)=lt x y)(l:List A)(Y:l.length<2^38) :
  Sq (ρ 253) [.own z (l.map c0)] [.ref 0,.I l.length,.fn g cs] [.own z ((DZ lt l).map c0)] (.bD []):=by
 obtain⟨N,i⟩:=aL (l.length);have S:DZ lt l=Ev lt N 20 (CD lt N l):=by rw[i];rfl
 rw[S,<-i];rw[<-i]at Y;have hz1:=H.pos;have B:=H.ne;simp only[E7,E9]at B;have C:=H.nv;simp only[K3]at C;have d:=a5 H.sl H.el H.len H.nm (a5 H.tk H.dr H.pT B (a5 C j e k (VF e)));refine Iv 63 3 [] (H.r5) mixed func253 λO=>?_;simp only[IY,ZX,GV,IZ,ZW,toList_toArray,map_cons,map_nil,H.t0,H.t3,H.t4,H.tu,je,Bool.not_true,Bool.not_false,Bool.true_or,Bool.false_or,Bool.and_true,cz,cU]at O |-;refine sm d ?_;refine aG.yh (T:=Nat×List A×List A) [0,1,2,6] [] (λs=>[(7,.I s.2.1.length),(8,.I ((s.2.1.length+20:Nat):Int))]) (λs=>[(0,.own z ((s.2.1++s.2.2).map c0))]) (λs=>s.2.1++CD lt s.1 s.2.2=CD lt N l/\s.2.2.length<=s.1/\s.2.1.length+s.2.2.length=N) (λs=>s.2.2.length) (N,[],l) ⟨rfl,Nat.le_of_eq i.symm,(Nat.zero_add _).trans i.symm⟩ ?_ ?_
 ·simp only[go_sem,seval,d,length_nil,nil_append,Nat.zero_add]
 ·rintro⟨n,P,Q⟩ ⟨h1,h2,h3⟩;dsimp only at h1 h2 h3;rcases dN Q.length 20 with hq|hq
  ·have J:decide (((P.length+20:Nat):Int)<=(N:Int))=false:=lJ;have r:=Ov H lt g cs j e k G P Q [] P.length N rfl aj (by simp only[length_nil];omega);have hb:CD lt n Q=Dy lt Q:=by
    cases n with
    |zero=>rfl
    |succ n=>rw[CD,aq aj]
   rw[hb]at h1;rw[<-h1];simp only[append_nil]at r;refine sm (a2 d J) ?_;refine gK.id ?_;refine sg [0] d r ?_;obtain⟨U,v⟩:=aL (P++Dy lt Q);have w:U.length=N:=by rw[v,ct,Bi];omega
   rw[<-v];refine aG.yh (T:=Nat×Nat×List A) [0,1,2] [] (λs=>[(6,.I s.2.1)]) (λs=>[(0,.own z (s.2.2.map c0))]) (λs=>Ev lt s.1 s.2.1 s.2.2=Ev lt N 20 U/\s.2.2.length=N/\N<=s.1+s.2.1/\0<s.2.1/\s.2.1<=2*N+20) (λs=>s.1) (N,20,U) ⟨rfl,w,by show N<=N+20;omega,by show 0<20;omega,by show 20<=2*N+20;omega⟩ ?_ ?_
   ·exact eo d
   ·rintro⟨f,bs,m⟩ ⟨k1,k2,k3,k4,k5⟩;dsimp only at k1 k2 k3 k4 k5;rcases dN bs N with hbs|hbs
    ·have K:decide ((bs:Int)<(N:Int))=true:=jw;have W:IntKind.wrap .i64 (2*(bs:Int))=((2*bs:Nat):Int):=fU;have X:IntKind.wrap .i64 ((bs:Int)*2)=((2*bs:Nat):Int):=fU;obtain⟨o,rfl⟩:∃o,f=o+1:=⟨f-1,by omega⟩
     rw[Ev,au aj]at k1;rw[k2]at k1;refine sm (a3 d K W) ?_;refine aG.yh (T:=Nat×List A×List A) [0,1,2,6] [] (λs=>[(7,.I s.2.1.length),(8,.I ((s.2.1.length+2*bs:Nat):Int))]) (λs=>[(0,.own z ((s.2.1++s.2.2).map c0))]) (λs=>s.2.1++pg lt bs s.1 s.2.2=pg lt bs N m/\s.2.2.length<=s.1/\s.2.1.length+s.2.2.length=N) (λs=>s.2.2.length) (N,[],m) ⟨rfl,Nat.le_of_eq k2,(Nat.zero_add _).trans k2⟩ ?_ ?_
     ·simp only[go_sem,seval,d,length_nil,nil_append,Nat.zero_add]
     ·rintro⟨h,b,a⟩ ⟨j1,j2,j3⟩;dsimp only at j1 j2 j3;have V:IntKind.wrap .i64 ((b.length:Int)+bs)=((b.length+bs:Nat):Int):=fU;rcases dN a.length (2*bs)with hq'|hq'
      ·have F:decide (((b.length+2*bs:Nat):Int)<=(N:Int))=false:=lJ;rcases dN bs a.length with hqb|hqb
       ·have L:decide (((b.length+bs:Nat):Int)<(N:Int))=true:=jw;have R:pg lt bs h a=Eb lt (a.take bs) (a.drop bs):=by
         cases h with
         |zero=>omega
         |succ h=>rw[pg,aq aj,au hqb]
        have t:=Pw H lt g cs j e k G a.length b (a.take bs) (a.drop bs) [] b.length (b.length+bs) N (by rw[gh,iC];omega) (by rw[gh];omega) (by rw[iC];omega) rfl (by rw[gh];omega) (by rw[gh,iC];omega) (by rw[gh,iC,length_nil];omega);rw[append_nil,append_nil,dS,n5]at t;rw[R]at j1;refine sm (a2 d F) ?_;refine gK.id ?_;refine sg [0] (a5 d V L X j1) t ?_;refine⟨(o,2*bs,pg lt bs N m),⟨k1,by rw[yx];exact k2,by show N<=o+2*bs;omega,by show 0<2*bs;omega,by show 2*bs<=_;omega⟩,?_,by show o<o+1;omega⟩;exact eo d
       ·have L:decide (((b.length+bs:Nat):Int)<(N:Int))=false:=lJ;have R:pg lt bs h a=a:=by
         cases h with
         |zero=>rfl
         |succ h=>rw[pg,aq aj,aq aj]
        rw[R]at j1;refine sm (a2 d F) ?_;refine gK.id ?_;refine sm (a5 d V L X j1) ?_;refine⟨(o,2*bs,pg lt bs N m),⟨k1,by rw[yx];exact k2,by show N<=o+2*bs;omega,by show 0<2*bs;omega,by show 2*bs<=_;omega⟩,?_,by show o<o+1;omega⟩;exact eo d
      ·have F:decide (((b.length+2*bs:Nat):Int)<=(N:Int))=true:=jw;have w5:IntKind.wrap .i64 (((b.length+2*bs:Nat):Int)+((2*bs:Nat):Int))=((b.length+2*bs+2*bs:Nat):Int):=fU;obtain⟨q,rfl⟩:∃q,h=q+1:=⟨h-1,by omega⟩
       rw[pg,au hq']at j1;have t:=Pw H lt g cs j e k G (2*bs) b (a.take bs) ((a.drop bs).take bs) (a.drop (2*bs)) b.length (b.length+bs) (b.length+2*bs) (by simp only[gh,iC];omega) (by rw[gh];omega) (by rw[gh,iC];omega) rfl (by rw[gh];omega) (by simp only[gh,iC];omega) (by simp only[gh,iC];omega);have e0:b++a.take bs++(a.drop bs).take bs++a.drop (2*bs)=b++a:=by
        rw[show a.drop (2*bs)=(a.drop bs).drop bs by rw[drop_drop];congr 1;omega,dS,dS,n5,n5]
       rw[e0]at t;have E:=Fz lt (a.take bs) ((a.drop bs).take bs);rw[gh,gh,iC]at E;obtain⟨Z,M⟩:=aL (Eb lt (a.take bs) ((a.drop bs).take bs));rw[<-M]at t E j1;refine sg [0] (a5 d F V W w5) t ?_;refine⟨(q,b++Z,a.drop (2*bs)),⟨by show(b++Z)++_=_;rw[dS];exact j1,by show(a.drop (2*bs)).length<=q;rw[iC];omega,by show(b++Z).length+(a.drop (2*bs)).length=N;rw[ct,iC];omega⟩,?_,by show(a.drop (2*bs)).length<a.length;rw[iC];omega⟩;have p:(b++Z).length=b.length+2*bs:=by rw[ct];omega
       exact eo (a2 d p)
    ·have K:decide ((bs:Int)<(N:Int))=false:=lJ;rw[YK lt f bs m aj]at k1;rw[<-k1];exact eo (a2 d K)
  ·have J:decide (((P.length+20:Nat):Int)<=(N:Int))=true:=jw;have w1:IntKind.wrap .i64 (((P.length+20:Nat):Int)+20)=((P.length+20+20:Nat):Int):=fU;obtain⟨h,rfl⟩:∃h,n=h+1:=⟨n-1,by omega⟩
   rw[CD,au hq]at h1;have r:=Ov H lt g cs j e k G P (Q.take 20) (Q.drop 20) P.length (P.length+20) rfl (by rw[gh];omega) (by rw[gh,iC];omega);rw[dS P,n5]at r;have u:=Bi lt (Q.take 20);rw[gh]at u;obtain⟨Z,M⟩:=aL (Dy lt (Q.take 20));rw[<-M]at r u h1;refine sg [0] (a3 d J w1) r ?_;have p:(P++Z).length=P.length+20:=by rw[ct];omega
   refine⟨(h,P++Z,Q.drop 20),⟨by show(P++Z)++_=_;rw[dS];exact h1,by show(Q.drop 20).length<=h;rw[iC];omega,by show(P++Z).length+(Q.drop 20).length=N;rw[p,iC];omega⟩,?_,by show(Q.drop 20).length<Q.length;rw[iC];omega⟩;exact eo (a2 d p)
def zU(lt:A->A->Bool)(g:FuncId)(cs:List D)(b:D.cq cs=[])(a:xN cs=True)(d:∀(o:Nat->Option Nat)(n:Nat->Bool),nM o n cs cs=True)(m:∀x y:A,∃c:Int,Sq g [] (.agg (c0 x)::.agg (c0 y)::cs) [] (.I c)/\decide (c<0)=lt x y)(l:List A)(k:l.length<2^38) :
  Sq (ρ 127) [.own z (l.map c0)] [.ref 0,.fn g cs] [.own z ((DZ lt l).map c0)] (.bD []):=by
 have h:=RJ H lt g cs b a d m l k;have hz1:=H.pos;have f:=H.ne;simp only[E7,E9]at f;have i:=H.nv;simp only[K3]at i;have j:=a5 H.sl H.el H.len H.nm (a5 H.tk H.dr H.pT f (a5 i b a d (VF a)));refine Iv 9 2 [] (H.r6) mixed func127 λe=>?_;simp only[IY,ZX,GV,IZ,ZW,toList_toArray,map_cons,map_nil,H.t0,H.t3,H.t4,H.tu,je,Bool.not_true,Bool.not_false,Bool.true_or,Bool.false_or,Bool.and_true,cz,cU]at e |-;refine sm j ?_;(with_reducible and_intros)<;>first|exact gY.mk (by simp only[e])|exact .dq|omega|exact H.ok _|exact H.pl _|skip
 exact sgx [0] j h
end
def qF(j:Nat)(p:jk):Int:=-p.q*p.i.mult*p.i.sh j
def kN(l:List jk)(j:Nat):Int:=aC (l.map (qF j))
def CB(p:jk):Int:=max p.q (-p.q)*p.i.add
def IX(p:jk):Prop:=p.i.ok=true /\ -1099511627776<=p.q/\p.q<=1099511627776
def Fv{x:aF}(h:x.ok=true)(j:Nat):-1073741824<=x.sh j/\x.sh j<=1073741824:=by
 simp only[aF.ok,cU]at h;have a:=h.1.1.1.1.1.1;simp only[aF.RR,cg,mem_range,within,cU,bO]at a;rcases dN j 6 with hj|hj
 ·exact a j hj
 ·have e:x.sh j=x.sh 5:=by
   rcases j with _| _| _| _| _| _|j<;>first|omega|rfl
  rw[e];exact a 5 aj
def qq{x:aF}(h:x.ok=true):(1<=x.mult/\x.mult<=1024)/\(0<=x.add/\x.add<=1073741824):=by
 simp only[aF.ok,within,cU,bO]at h;omega
def iK{a b A B:Int}(ha:-A<=a/\a<=A)(hb:-B<=b/\b<=B):-(A*B)<=a*b/\a*b<=A*B:=by
 have c:0<=A:=aj
 have d:0<=B:=aj
 have h:a.natAbs*b.natAbs<=A.natAbs*B.natAbs:=Nat.mul_le_mul aj aj;have h1:(a*b).natAbs=a.natAbs*b.natAbs:=Int.natAbs_mul a b;have h2:(A*B).natAbs=A.natAbs*B.natAbs:=Int.natAbs_mul A B;have h3:0<=A*B:=Int.mul_nonneg c d;omega
def Ht{p:jk}(h:IX p)(j:Nat):(-1125899906842624 <= -p.q*p.i.mult /\ -p.q*p.i.mult<=1125899906842624) /\ -1208925819614629174706176<=qF j p/\qF j p<=1208925819614629174706176:=by
 obtain⟨c,h2,h3⟩:=h;obtain⟨⟨m1,m2⟩,-⟩:=qq c;have s:=Fv c j;have r1:=iK (a:=-p.q) (b:=p.i.mult) (A:=1099511627776) (B:=1024) aj aj;have r1:-1125899906842624 <= -p.q*p.i.mult /\ -p.q*p.i.mult<=1125899906842624:=r1;have r2:=iK (a:=-p.q*p.i.mult) (b:=p.i.sh j) (A:=1125899906842624) (B:=1073741824) r1 s;exact⟨r1,r2⟩
def Jh{p:jk}(h:IX p):-1208925819614629174706176<=CB p/\CB p<=1208925819614629174706176:=by
 obtain⟨c,h2,h3⟩:=h;obtain⟨-,m1,m2⟩:=qq c;have r1:=iK (a:=max p.q (-p.q)) (b:=p.i.add) (A:=1099511627776) (B:=1099511627776) aj aj;exact r1
theorem zV{l:List Int}{B:Int}(h:∀n∈l,-B<=n/\n<=B):-(B*l.length)<=aC l/\aC l<=B*l.length:=by
 induction l with
 |nil=>simp[aC]
 |cons x r ih =>
  have h1:=h x sT;have h2:=ih λn a=>h n (by simp[a]);have e:B*((x::r).length:Int)=B*(r.length:Int)+B:=by
   have:(((x::r).length:Nat):Int)=(r.length:Int)+1:=by simp
   rw[this,Int.mul_add,Int.mul_one]
  rw[e];simp only[aC];omega
def Bh{B x:Int}(h:-B<=x/\x<=B)(hB:B<=85070591730234615865843651857942052864):xK x=true:=by
 simp only[xK,cU,bO];omega
def XF{l:List jk}(h:∀p∈l,IX p)(j:Nat)(hl:l.length<2^30):(∀n∈l.map (qF j),xK n=true)/\xK (kN l j)=true:=by
 have b:∀n∈l.map (qF j),-1208925819614629174706176<=n/\n<=1208925819614629174706176:=by
  intro n a;obtain⟨p,d,rfl⟩:=mem_map.1 a;exact(Ht (h p d) j).2
 refine⟨λn a=>Bh (b n a) aj,?_⟩;have c:=zV (B:=1208925819614629174706176) b;simp only[qO]at c;refine Bh (B:=1208925819614629174706176*(l.length:Int)) c aj
def kJ(l:List jk)(i:Nat)(j:Nat):D:=.I (if j<i then kN l j else 0)
def gA(l:List jk)(i:Nat):List D:=[kJ l i 0,kJ l i 1,kJ l i 2,kJ l i 3,kJ l i 4,kJ l i 5]
def Hs(l:List jk){i:Nat}(h:i<6):kI (gA l i) (i*1) [.I (kN l i)]=gA l (i+1):=by
 rcases i with _| _| _| _| _| _|i<;>first|omega|simp[gA,kJ,kI]
def oP(l:List jk):gA l 0=[.I 0,.I 0,.I 0,.I 0,.I 0,.I 0]:=by simp[gA,kJ]
def mU(l:List jk):Bool:=(range 6).any λj=>!bA (kN l j)
def uu(r:ay)(w c:Int)(qs:List aE):Int:=if IW r qs=0 then(if mU (pq r w c qs)then 1 else 0)else IW r qs
def AA(r:ay)(w c:Int)(qs:List aE):List D:=if uu r w c qs=0 then gA (pq r w c qs) 6 else gA [] 0
theorem SQ{A:Type}{no:A->Int}{n:Int}{z:A}:∀{xs:List A},0<=lT no n xs->jS no n z xs∈xs/\no (jS no n z xs)=n
 | [],h=>by simp[lT]at h
 |x::r,h=>by
  simp only[lT]at h;simp only[jS];split at h
  ·rename_i a;rw[au a];exact⟨by simp,a⟩
  ·rename_i a;rw[aq a];split at h
   ·omega
   ·have:=SQ (no:=no) (n:=n) (z:=z) (xs:=r) aj;exact⟨mem_cons_of_mem _ this.1,this.2⟩
def yI{A:Type}{no:A->Int}{ok:A->Bool}{xs:List A}(h:mL no ok xs=true):∀x∈xs,ok x=true:=by
 intro x b;obtain⟨i,a,rfl⟩:=mem_iff_getElem.1 b;have:=cg.1 h i (mem_range.2 a);rcases Nat.eq_zero_or_pos i with rfl|hp
 ·rwa[lF no ok xs a aj]at this
 ·rw[lE no ok xs a hp,cU]at this;exact this.1
def x9{r:ay}(h:r.okB=true){n:Int}(a:bE r n=true):(aU r n).ok=true:=by
 simp only[ay.okB,cU]at h;exact yI h.1.2 _ (SQ (by simpa[bE]using a)).1
def EX{r:ay}{w c:Int}{qs:List aE}(h:IW r qs=0):∀p∈pq r w c qs,IX p:=by
 have b:r.okB=true/\qs.all vJ=true:=by
  unfold IW at h;split at h
  ·rename_i e;split at h
   ·rename_i f;exact⟨e,f⟩
   ·cases h
  ·cases h
 intro p d;simp only[pq,mem_map,mem_filter]at d;obtain⟨x,⟨i,a⟩,rfl⟩:=d;have g:=cg.1 b.2 x i;simp only[vJ,cU,iN,gP]at g;refine⟨?_,by simp only;omega,by simp only;omega⟩;simp only[KT,cU]at a;exact x9 b.1 a.1
def ahF(p:jk){i:Nat}(h:i<6):(drop (6+i*1) p.cells).headD .undef=.I (p.i.sh i):=by
 rcases i with _| _| _| _| _| _|i<;>first|rfl|omega
def wC(f:Nat->Int):Nat->Int
 | 0=>0
 |i+1=>max (wC f i) (f i)
theorem Hv{f:Nat->Int}(n:Nat)(h:∀j<n,bA (f j)=true):0<=wC f n/\wC f n<=4611686018427387904:=by
 induction n with
 |zero=>simp[wC]
 |succ n ih =>
  have h1:=ih λj hj=>h j aj;have h2:=bf.1 (h n aj);simp only[wC];omega
def Gy(l:List jk):Int:=aC (wC (kN l) 6::l.map CB)
def xq(r:ay)(w c:Int)(qs:List aE):Int:=if uu r w c qs=0 then(if bA (Gy (pq r w c qs))then 0 else 1)else uu r w c qs
def uQ(r:ay)(w c:Int)(qs:List aE):Int:=if uu r w c qs=0 then(if bA (Gy (pq r w c qs))then Gy (pq r w c qs)else 0)else 0
def WA(f:Nat->Int){i:Nat}(h:i<6):(drop (i*1) [D.I (f 0),D.I (f 1),D.I (f 2),D.I (f 3),D.I (f 4),D.I (f 5)]).headD .undef=.I (f i):=by
 rcases i with _| _| _| _| _| _|i<;>first|rfl|omega
def OH{r:ay}{w c:Int}{qs:List aE}(h:uu r w c qs=0):IW r qs=0/\mU (pq r w c qs)=false:=by
 unfold uu at h;split at h
 ·rename_i a;refine⟨a,?_⟩;cases b:mU (pq r w c qs)
  ·rfl
  ·rw[b]at h;cases h
 ·rename_i a;exact(a h).elim
def Kz{l:List jk}(h:mU l=false):∀j<6,bA (kN l j)=true:=by
 intro j a;simp only[mU,any_eq_false,mem_range]at h;simpa using h j a
def ahn{l:bu}{r:ay}{ps:List iu}{w c:Int}(h:CK l r ps w c=0):r.okB=true/\iV r w c ps=0/\Ci l r ps w c=gw ⟨2,w,c⟩ l.bs+af1 r w c ps/\bA (Ci l r ps w c)=true:=by
 have e:uN l r ps=0:=by
  by_cases b:(uN l r ps != 0)=true
  ·simp only[CK,b,if_true]at h;exact h
  ·simpa using b
 have a:(uN l r ps != 0)=false:=by simp[e]
 have hr:r.okB=true:=by
  unfold uN at e;split at e
  ·rename_i f;simp only[cU]at f;exact f.1.2
  ·cases e
 have i:iV r w c ps=0:=by
  by_cases b:(iV r w c ps != 0)=true
  ·simp only[CK,a,b,if_true,iI,if_false]at h;exact h
  ·simpa using b
 have d:(iV r w c ps != 0)=false:=by simp[i]
 simp only[CK,a,d,iI,if_false]at h;have g:right (gw ⟨2,w,c⟩ l.bs::lS r w c ps)=true/\bA (aC (gw ⟨2,w,c⟩ l.bs::lS r w c ps))=true:=by
  unfold oF at h;split at h
  ·rename_i f;split at h
   ·rename_i k;exact⟨f,k⟩
   ·cases h
  ·cases h
 have j:Ci l r ps w c=aC (gw ⟨2,w,c⟩ l.bs::lS r w c ps):=by
  simp[Ci,a,d,pY,g.1,g.2]
 refine⟨hr,i,?_,by rw[j];exact g.2⟩;rw[j];simp only[aC,Yc]
def Mt(s:af)(w c:Int):Int:=
 if CK s.bp s.ak s.ps w c=0 then(if s.book.okB then(if xq s.ak w c s.book.qs=0 then(if uQ s.ak w c s.book.qs<=Ci s.bp s.ak s.ps w c then 0 else Bq (uQ s.ak w c s.book.qs) (Ci s.bp s.ak s.ps w c))else xq s.ak w c s.book.qs)else 14)else CK s.bp s.ak s.ps w c
def uW(s:af)(w c:Int):Int:=
 if CK s.bp s.ak s.ps w c=0 then(if s.book.okB then(if xq s.ak w c s.book.qs=0 then(if uQ s.ak w c s.book.qs<=Ci s.bp s.ak s.ps w c then 0 else Ai (uQ s.ak w c s.book.qs) (Ci s.bp s.ak s.ps w c))else 0)else 0)else 0
structure af.fit(s:af):Prop where
 ak:s.ak.small
 book:s.book.small
 bp:s.bp.bs.length<2^30
 ps:s.ps.length<2^30
def zl(r:ay)(w c:Int)(qs:List aE):bA (uQ r w c qs)=true:=by
 unfold uQ;split
 ·split
  ·assumption
  ·decide
 ·decide
def j5(a b c:Int):Sq 114 [] [.int .i64 a,.int .i64 b,.int .i64 c] [] (.bool (within a b c)):=by
 refine aX 15 3 [.tmp 6] mixed func114 ?_;simp only[go_sem,seval];repeat' with_reducible first|apply And.intro|exact .dq|refine az.aP (by assumption) ?_|refine mW (λh=>?_) λh=>?_|refine .id ?_|refine ah.eI aj ?_ ?_|exact aK|simp only[*,go_sem,seval]
 all_goals(simp_all[within];try omega)
structure dX where
 src:Int
 aQ:Int
 aS:Int
deriving DecidableEq
@[reducible] def dX.cells(x:dX):List D:=[.I x.src,.I x.aQ,.I x.aS]
def ahead(long:Bool)(a b:bn):Bool:=if a.aS==b.aS then decide (a.src<b.src)else decide (b.aS<a.aS)==long
def M9(long:Bool)(a b:bn):Sq 376 [] [.bool long,.agg a.cells,.agg b.cells] [] (.bool (ahead long a b)):=by
 simp only[bn.cells];refine aX 24 3 [.tmp 6] mixed func376 ?_;cases q:a.aS==b.aS
 ·simp only[go_sem,seval,bne,q,ahead,iI,if_false];all_goals(with_reducible and_intros)<;>first|exact .dq|omega|skip
 ·simp only[go_sem,seval,bne,q,ahead,if_true];all_goals(with_reducible and_intros)<;>first|exact .dq|omega|skip
def kpos(long:Bool)(x:bn)(out:List bn):Nat->Nat
 | 0=>0
 |k+1=>if ahead long x (out.getD k ⟨0,0,0,0,0⟩)then kpos long x out k else k+1
theorem Qy(long:Bool)(x:bn)(out:List bn):∀k,kpos long x out k<=k
 | 0=>fO _
 |k+1=>by
  simp only[kpos];split
  ·have:=Qy long x out k;omega
  ·exact fO _
def J'(long:Bool)(x:bn)(out:List bn):List bn:=out.take (kpos long x out out.length)++x::out.drop (kpos long x out out.length)
def DG(long:Bool):List bn->List bn->List bn
 |out,[]=>out
 |out,x::r=>DG long (J' long x out) r
def zC(long:Bool)(l:List bn):List bn:=DG long [] l
def abJ(long:Bool)(x:bn)(out:List bn):(J' long x out).length=out.length+1:=by
 have:=Qy long x out out.length;simp only[J',ct,length_cons,gh,iC];omega
theorem ET(long:Bool):∀(l out:List bn),(DG long out l).length=out.length+l.length
 | [],out=>rfl
 |x::r,out=>by simp only[DG,ET long r,abJ,length_cons];omega
def hole(x:bn)(out:List bn)(k:Nat):List bn:=(out++[x]).take (k+1)++out.drop k
def xZ{x:bn}{out:List bn}{k:Nat}(h:k<=out.length):(hole x out k).length=out.length+1:=by
 simp only[hole,ct,gh,iC,length_cons,length_nil];omega
def abH(x:bn)(out:List bn):hole x out out.length=out++[x]:=by
 rw[hole,take_of_length_le sT,jJ,append_nil]
def J8{x:bn}{out:List bn}{k:Nat}(h:k<=out.length){j:Nat}(b:j<out.length+1):(hole x out k)[j]'(by rw[xZ h];exact b)=if a:j<=k then(out++[x])[j]'(by simp;omega)else out[j-1]'aj:=by
 simp only[hole];split
 ·rename_i a;rw[getElem_append_left (by simp;omega),getElem_take]
 ·rename_i a;rw[getElem_append_right (by simp;omega),getElem_drop];have:k+(j-((out++[x]).take (k+1)).length)=j-1:=by simp;omega
  simp only[this]
def aeS{x:bn}{out:List bn}{k:Nat}(h:k+1<=out.length):(hole x out (k+1))[k]'(by rw[xZ h];omega)=out[k]'aj:=by
 rw[J8 h aj,dif_pos aj,getElem_append_left aj]
def abG{x:bn}{out:List bn}{k:Nat}(h:k+1<=out.length):(hole x out (k+1)).set (k+1) (out[k]'aj)=hole x out k:=by
 refine ext_getElem (by rw[length_set,xZ h,xZ aj]) ?_;intro j a h2;have b:j<out.length+1:=by rw[length_set,xZ h]at a;exact a
 rw[getElem_set,J8 (k:=k) aj b,J8 h b];split
 ·rename_i e;subst e;rw[dif_neg aj];simp
 ·split
  ·rename_i c e2;by_cases d:j<=k
   ·rw[dif_pos d]
   ·omega
  ·rename_i c e2;rw[dif_neg aj]
def S3{x:bn}{out:List bn}{k:Nat}(h:k<=out.length):(hole x out k).set k x=out.take k++x::out.drop k:=by
 have a:(out.take k).length=k:=by simp;omega
 have e:(out++[x]).take (k+1)=out.take k++[(out++[x])[k]'(by simp;omega)]:=by
  rw[j7 (by simp;omega),take_append_of_le_length h]
 rw[hole,e,dS,set_append_right _ _ aj,a,Nat.sub_self];rfl
def Rh(long:Bool)(l:List bn)(hl:l.length<2^29):Sq 370 [] [.bool long,.sl 5 (l.map bn.cells)] [.own 5 ((zC long l).map bn.cells)] (.ref 0):=by
 have u:=λa b=>M9 long a b;refine aX 56 2 [.tmp 4] mixed func370 ?_;simp only[go_sem,seval];refine aG.rT (S:=List bn) l.length [0,1] [] (λi _=>[(6,.int .i64 i),(5,.ref 96)]) (λ_ s=>[(96,.own 5 (s.map bn.cells))]) (λi s=>DG long s (l.drop i)=zC long l/\s.length=i) [] ⟨rfl,rfl⟩ ?_ ?_ ?_
 ·exact jh
 ·rintro i out v B t ⟨f,hol⟩;have p:=aM (c:=bn.cells) l v;have hli:(i:Int)<(l.length:Int):=aj
  obtain⟨x,E⟩:=aL (l[i]);rw[dI v,<-E]at f;rw[<-E]at p;simp only[DG]at f;simp only[bn.cells]at p;simp only[go_sem,seval,B,p];refine aV ?_;refine aG.yh (T:=Nat) [0,1,6] [] (λk=>[(7,.int .i64 k),(5,.ref 96)]) (λk=>[(96,.own 5 ((hole x out k).map bn.cells))]) (λk=>k<=out.length/\kpos long x out k=kpos long x out out.length) (λk=>k) out.length ⟨fO _,rfl⟩ ?_ ?_
  ·simp only[go_sem,seval,abH]<;>simp
  rintro k ⟨hk,hK⟩;have d:=xZ (x:=x) hk;rcases Nat.eq_zero_or_pos k with rfl|hpos
  ·have g:=S3 (x:=x) hk;have h:J' long x out=out.take 0++x::out.drop 0:=by rw[J',<-hK];rfl
   rw[h,<-g]at f;have o:DG long ((hole x out 0).set 0 x) (l.drop (i+1))=zC long l/\((hole x out 0).set 0 x).length=i+1:=⟨f,by rw[length_set,d];omega⟩
   have e:=aM (c:=bn.cells) (hole x out 0) (i:=0) aj;simp only[bn.cells]at e;simp only[go_sem,seval];refine aV ?_;refine gK.id ?_;simp only[go_sem,seval,p,d,t];refine aV ?_;all_goals first
    |omega
    | (refine ah.jP ((hole x out 0).set 0 x) v o ?_
       simp only[go_sem,seval,map_set,e])
  ·obtain⟨j,rfl⟩:∃j,k=j+1:=⟨k-1,by omega⟩
   have F:j<(hole x out (j+1)).length:=aj
   have m:=aM (c:=bn.cells) (hole x out (j+1)) F;have n:=abG (x:=x) hk;rw[aeS hk]at m;have D:out.getD j ⟨0,0,0,0,0⟩=out[j]:=by simp[show j<out.length by omega]
   simp only[kpos,D]at hK;obtain⟨y,G⟩:=aL (out[j]'aj);rw[<-G]at m n hK;have u:=u x y;have w:decide (0<((j+1:Nat):Int))=true:=jw;have r:IntKind.wrap .i64 (((j+1:Nat):Int)-1)=(j:Int):=fU;have e:=aM (c:=bn.cells) (hole x out (j+1)) (i:=j+1) aj;simp only[bn.cells]at m u e;refine sc (a5 w p d r m) u ?_;cases q:ahead long x y
   ·rw[q]at hK;have g:=S3 (x:=x) hk;have h:J' long x out=out.take (j+1)++x::out.drop (j+1):=by rw[J',<-hK];rfl
    rw[h,<-g]at f;have o:DG long ((hole x out (j+1)).set (j+1) x) (l.drop (i+1))=zC long l/\((hole x out (j+1)).set (j+1) x).length=i+1:=⟨f,by rw[length_set,d];omega⟩
    simp only[go_sem,seval,q];refine aV ?_;refine gK.id ?_;simp only[go_sem,seval,p,d,t];refine aV ?_;all_goals first
     |omega
     | (refine ah.jP ((hole x out (j+1)).set (j+1) x) v o ?_
        simp only[go_sem,seval,map_set,e])
   ·rw[q,au rfl]at hK;simp only[go_sem,seval,q,p,d,r,m];refine aV ?_;all_goals first
     |omega
     | (refine ⟨j,⟨by omega,hK⟩,?_,by show j < j+1;omega⟩
        simp only[go_sem,seval,map_set,<-n,e])
 ·rintro out C ⟨f,hol⟩;rw[jJ]at f;have f:out=zC long l:=f;simp only[go_sem,seval,C,<-f]
def Nh(long:Bool)(l:List bn)(a:l.length<2^29):Sq 370 [] [.bool long,.sl 5 (l.map bn.cells)] [] (.sl 5 ((zC long l).map bn.cells)):=by
 refine Spec.frozen (Rh long l a) [0] rfl ?_;intro r;rcases r with _|r<;>rfl
