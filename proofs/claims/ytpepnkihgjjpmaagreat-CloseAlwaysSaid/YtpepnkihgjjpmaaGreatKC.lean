/- Parts. -/
import Derived.Test.YtpepnkihgjjpmaaGreatKB
set_option linter.all false
set_option maxHeartbeats 4000000
set_option maxRecDepth 16000
namespace Go.Proofs.YtpepnkihgjjpmaaGreat
open Go.Abs Tryz
open List hiding lt
def ng{A:Type}{c:A->List D}{l:List A}{i j:Nat}{u v:A}(a:l[i]?=some u)(b:l[j]?=some v) :
  (l.map c).getD i []=c u/\(l.map c).getD j []=c v/\((l.map c).set i (c v)).getD j []=c v/\((l.map c).set i (c v)).set j (c u)=((l.set i v).set j u).map c:=by
 have h1:(l.map c)[i]?=some (c u):=by simp[a]
 have h2:(l.map c)[j]?=some (c v):=by simp[b]
 have d:=dJ a;refine⟨by simp[getD,a],by simp[getD,b],?_,by rw[map_set,map_set]⟩;rw[getD,getElem?_set];by_cases h:i=j
 ·subst h;simp[d]
 ·simp[h,b]
theorem UQ{A:Type}(lt:A->A->Bool)(n bs:Nat)(l:List A)(h:l.length<=bs):B7 lt n bs l=l:=by
 cases n with
 |zero=>rfl
 |succ n=>rw[B7,au ak]
def RF{cs:List D}(h:vv cs=True)(e:Env)(bw:Bool)(gs:List Nat)(k:Nat):cs.map (cv e bw gs k)=cs:=(map_congr_left (g:=id) λd a=>Pl.conv bw gs e.o k d (FF (of_eq_true h) d a)).trans (map_id _)
structure Aj{A:Type}(τ:TypeId->TypeId)(ρ:FuncId->FuncId)(c0:A->List D)(z b:Nat):Prop where
 r1:L9 prog τ ρ 305 5
 r2:L9 prog τ ρ 293 5
 r3:L9 prog τ ρ 264 4
 r4:L9 prog τ ρ 265 5
 r5:L9 prog τ ρ 208 3
 r6:L9 prog τ ρ 139 2
 t0:τ 0=0
 t3:τ 3=3
 t4:τ 4=4
 tu:τ 62=62
 sl:eH prog (τ 91)=.slice z b true
 el:iF prog (τ 141)=some ⟨true,z⟩
 ne:(τ 141==Fi||τ 141==Fj)=false
 nv:(τ 141==H6)=false
 pos:1<=z
 len:∀x,(c0 x).length=z
 ok:∀x,∀d∈c0 x,dK d
 nm:∀x,D.bW (c0 x)=[]
 pl:∀x,vv (c0 x)
def Aj.tk{A:Type}{τ:TypeId->TypeId}{ρ:FuncId->FuncId}{c0:A->List D}{z by_:Nat}(H:Aj τ ρ c0 z by_)(x:A):(c0 x).take z=c0 x:=take_of_length_le (Nat.le_of_eq (H.len x))
def Aj.dr{A:Type}{τ:TypeId->TypeId}{ρ:FuncId->FuncId}{c0:A->List D}{z by_:Nat}(H:Aj τ ρ c0 z by_)(x:A):(c0 x).drop z=[]:=drop_eq_nil_of_le (Nat.le_of_eq (H.len x))
def Aj.pT{A:Type}{τ:TypeId->TypeId}{ρ:FuncId->FuncId}{c0:A->List D}{z by_:Nat}(H:Aj τ ρ c0 z by_)(x:A):vv (c0 x)=True:=eq_true (H.pl x)
section
variable{A:Type}{τ:TypeId->TypeId}{ρ:FuncId->FuncId}{c0:A->List D}{z by_:Nat}(H:Aj τ ρ c0 z by_)
include H
def Wp(f:Nat->List A)(a b n N:Nat)(g:D)(hN:N<2^40)(hn:n<=N)(t:∀i,i<n->(f i).length=N/\∃u v,(f i)[a+i]?=some u/\(f i)[b+i]?=some v/\f (i+1)=((f i).set (a+i) v).set (b+i) u) :
  Sq (ρ 305) [.own z ((f 0).map c0)] [.ref 0,.I a,.I b,.I n,g] [.own z ((f n).map c0)] (.bI []):=by
 have hz1:=H.pos;have e:=H.ne;simp only[Fi,Fj]at e;have h:=H.nv;simp only[H6]at h;have j:=a5 H.sl H.el H.len H.nm (a5 H.tk H.dr H.pT e h);refine QI 38 5 [] (H.r1) mixed func305 λd=>?_;simp only[LD,rnR,Nv,LF,rnK,toList_toArray,map_cons,map_nil,H.t0,H.t3,H.t4,H.tu,jK,Bool.not_true,Bool.not_false,Bool.true_or,Bool.false_or,Bool.and_true,cm,bQ]at d |-;refine sm j ?_;refine aF.wv n [0,1,2,3] [] (λi=>[(10,.I i)]) (λi=>[(0,.own z ((f i).map c0))]) ?_ ?_ ?_
 ·exact dL j
 ·intro i _ o k m _;obtain⟨hl,u,v,r,s,w⟩:=t i o;have ha:=dJ r;have hb:=dJ s;have E:IntKind.wrap .i64 ((a:Int)+i)=((a+i:Nat):Int):=fQ;have F:IntKind.wrap .i64 ((b:Int)+i)=((b+i:Nat):Int):=fQ;obtain⟨x,y,B,C⟩:=ng (c:=c0) r s;generalize a+i=p at *;generalize b+i=q at *;simp only[go_sem,seval,j,k,E,F,length_set,x,y,B,m];(with_reducible and_intros)<;>first|exact gT.mk (by simp only[d])|exact .dq|omega|exact H.ok _|exact H.pl _|skip
  refine ah.v o ?_;exact dL (a3 j w C)
 ·intro _ l _;exact dL (a2 j l)
def BC(L U M V R:List A)(h:U.length=V.length)(a b n:Nat)(d:a=L.length)(e:b=L.length+U.length+M.length)(j:n=U.length)(g:D)(c:L.length+U.length+M.length+V.length+R.length<2^40) :
  Sq (ρ 305) [.own z ((L++U++M++V++R).map c0)] [.ref 0,.I a,.I b,.I n,g] [.own z ((L++V++M++U++R).map c0)] (.bI []):=by
 subst j;have:=Wp H (SQ L U M V R) a b U.length _ g c ak (λi f=>Zj L U M V R h d e f);rwa[Zk,abP L U M V R h]at this
def Ny(L U V R:List A)(a m b:Nat)(ha:a=L.length)(y:m=L.length+U.length)(hb:b=L.length+U.length+V.length)(w:U.length≠0)(x:V.length≠0)(g:FuncId)(cs:List D)(q:D.bW cs=[])(i:vv cs=True)(r:∀(C:Nat->Option Nat)(B:Nat->Bool),mB C B cs cs=True)(hN:L.length+U.length+V.length+R.length<2^40) :
  Sq (ρ 293) [.own z ((L++U++V++R).map c0)] [.ref 0,.I a,.I m,.I b,.fn g cs] [.own z ((L++V++U++R).map c0)] (.bI []):=by
 have w1:IntKind.wrap .i64 ((m:Int)-a)=((U.length:Nat):Int):=fQ;have E:IntKind.wrap .i64 ((b:Int)-m)=((V.length:Nat):Int):=fQ;have hz1:=H.pos;have j:=H.ne;simp only[Fi,Fj]at j;have k:=H.nv;simp only[H6]at k;have f:=a5 H.sl H.el H.len H.nm (a5 H.tk H.dr H.pT j (a5 k q i r (RF i)));refine QI 58 5 [] (H.r2) mixed func293 λt=>?_;simp only[LD,rnR,Nv,LF,rnK,toList_toArray,map_cons,map_nil,H.t0,H.t3,H.t4,H.tu,jK,Bool.not_true,Bool.not_false,Bool.true_or,Bool.false_or,Bool.and_true,cm,bQ]at t |-;refine sm (a3 f w1 E) ?_;refine aF.yN (T:=List A×List A×List A×List A) [0,2,4] [] (λs=>[(10,.I s.2.1.length),(11,.I s.2.2.1.length)]) (λs=>[(0,.own z ((s.1++s.2.1++s.2.2.1++s.2.2.2).map c0))])
  (λs=>s.1++s.2.2.1++s.2.1++s.2.2.2=L++V++U++R/\s.1.length+s.2.1.length=m/\s.2.1.length≠0/\s.2.2.1.length≠0) (λs=>s.2.1.length+s.2.2.1.length) (L,U,V,R) ?_ ?_ ?_
 ·exact⟨rfl,y.symm,w,x⟩
 ·exact dL f
 ·rintro⟨e,d,c,h⟩ ⟨h1,h2,h3,h4⟩;dsimp only at h1 h2 h3 h4;have hlen:e.length+d.length+c.length+h.length=L.length+U.length+V.length+R.length:=by
   have:=congrArg length h1;simp only[cR]at this;omega
  rcases Nat.lt_trichotomy d.length c.length with hlt|heq|hgt
  ·have n:((d.length:Int)==(c.length:Int))=false:=by simp;omega
   have u:decide ((c.length:Int)<(d.length:Int))=false:=iE;have o:IntKind.wrap .i64 ((m:Int)-d.length)=((e.length:Nat):Int):=fQ;have F:IntKind.wrap .i64 ((m:Int)+c.length)=((m+c.length:Nat):Int):=fQ;have G:IntKind.wrap .i64 (((m+c.length:Nat):Int)-d.length)=((m+c.length-d.length:Nat):Int):=fQ;have p:IntKind.wrap .i64 ((c.length:Int)-d.length)=((c.length-d.length:Nat):Int):=fQ;have l:=BC H e d (c.take (c.length-d.length)) (c.drop (c.length-d.length)) h (by simp only[iN];omega) e.length (m+c.length-d.length) d.length rfl (by simp only[fZ];omega) rfl;have e0:e++d++c++h=e++d++c.take (c.length-d.length)++c.drop (c.length-d.length)++h:=by
    simp only[dz];rw[<-dz (c.take _),mj]
   refine sm (a5 f gr n u (a4 o F G p)) ?_;refine aG.gE [] [0] false sT ?_;refine sm f ?_;rw[e0];refine cz.gF (l _ (by simp only[fZ,iN];omega)) ?_;refine sm (a2 f p) ?_;refine⟨(e,c.drop (c.length-d.length),c.take (c.length-d.length),d++h),⟨?_,?_,?_,?_⟩,?_,?_⟩
   ·rw[<-h1];simp only[dz];rw[<-dz (c.take _),mj]
   ·simp only[iN];omega
   ·simp only[iN];omega
   ·simp only[fZ];omega
   ·simp only[go_sem,seval,f,iN,fZ];exact⟨⟨by omega,by omega⟩,by simp only[dz]⟩
   ·simp only[iN,fZ];omega
  ·have n:((d.length:Int)==(c.length:Int))=true:=by simp;omega
   have o:IntKind.wrap .i64 ((m:Int)-d.length)=((e.length:Nat):Int):=fQ;have l:=BC H e d [] c h heq e.length m d.length rfl (by simp only[length_nil];omega) rfl;have e0:e++d++c++h=e++d++[]++c++h:=by simp
   have v:L++V++U++R=e++c++[]++d++h:=by rw[<-h1];simp
   refine sm (a3 f gr n) ?_;refine gf.id ?_;refine sm (a2 f o) ?_;refine aG.gE [] [0] false sT ?_;refine sm f ?_;rw[e0,v];refine cz.gF (l _ (by simp only[length_nil];omega)) ?_;exact dL f
  ·have n:((d.length:Int)==(c.length:Int))=false:=by simp;omega
   have u:decide ((c.length:Int)<(d.length:Int))=true:=iy;have o:IntKind.wrap .i64 ((m:Int)-d.length)=((e.length:Nat):Int):=fQ;have p:IntKind.wrap .i64 ((d.length:Int)-c.length)=((d.length-c.length:Nat):Int):=fQ;have l:=BC H e (d.take c.length) (d.drop c.length) c h (by simp only[fZ];omega) e.length m c.length rfl (by simp only[fZ,iN];omega) (by simp only[fZ];omega);have e0:e++d++c++h=e++d.take c.length++d.drop c.length++c++h:=by
    simp only[dz];rw[<-dz (d.take _),mj]
   refine sm (a5 f gr n u (a2 o p)) ?_;refine aG.gE [] [0] false sT ?_;refine sm f ?_;rw[e0];refine cz.gF (l _ (by simp only[fZ,iN];omega)) ?_;refine sm (a2 f p) ?_;refine⟨(e++c,d.drop c.length,d.take c.length,h),⟨?_,?_,?_,?_⟩,?_,?_⟩
   ·rw[<-h1];simp only[dz];rw[<-dz (d.take _),mj]
   ·simp only[cR,iN];omega
   ·simp only[iN];omega
   ·simp only[fZ];omega
   ·simp only[go_sem,seval,f,iN,fZ];omega
   ·simp only[iN,fZ];omega
theorem K3(lt:A->A->Bool)(g:FuncId)(cs:List D)(E:D.bW cs=[])(o:vv cs=True)(F:∀(rh:Nat->Option Nat)(lv:Nat->Bool),mB rh lv cs cs=True)(Z:∀x y:A,∃c:Int,Sq g [] (.agg (c0 x)::.agg (c0 y)::cs) [] (.int .i64 c)/\decide (c<0)=lt x y)(L X R:List A)(a b:Nat)(ha:a=L.length)(hb:b=L.length+X.length)(hN:L.length+X.length+R.length<2^40) :
  Sq (ρ 264) [.own z ((L++X++R).map c0)] [.ref 0,.I a,.I b,.fn g cs] [.own z ((L++Bb lt X++R).map c0)] (.bI []):=by
 have w1:IntKind.wrap .i64 ((a:Int)+1)=((a+1:Nat):Int):=fQ;have hz1:=H.pos;have r:=H.ne;simp only[Fi,Fj]at r;have s:=H.nv;simp only[H6]at s;have d:=a5 H.sl H.el H.len H.nm (a5 H.tk H.dr H.pT r (a5 s E o F (RF o)));refine QI 53 4 [] (H.r3) mixed func264 λl=>?_;simp only[LD,rnR,Nv,LF,rnK,toList_toArray,map_cons,map_nil,H.t0,H.t3,H.t4,H.tu,jK,Bool.not_true,Bool.not_false,Bool.true_or,Bool.false_or,Bool.and_true,cm,bQ]at l |-;refine sm (a2 d w1) ?_;refine aF.yN (T:=Nat) [0,1,2,3] [] (λk=>[(8,.I ((a+k:Nat):Int))]) (λk=>[(0,.own z ((Fc lt L X R k).map c0))]) (λk=>k<=X.length+1) (λk=>X.length+1-k) 1 ak ?_ ?_
 ·simp only[go_sem,seval,d,X4]
 ·intro k hk;rcases dN k X.length with hlt|hge
  ·have u:decide (((a+k:Nat):Int)<(b:Int))=true:=iy;have hfl:=X3 lt L X R (k+1);have t:=U9 lt L X R hlt;have e:=λi U V W=>Va lt L X R hlt (P:=(u0 lt [] (X.take k)).reverse) rfl (i:=i) U V W;have B:(u0 lt [] (X.take k)).reverse.length=k:=by simp only[length_reverse,O7,fZ,length_nil];omega
   have C:(X.drop (k+1)++R).length=X.length-(k+1)+R.length:=by simp only[cR,iN]
   generalize (u0 lt [] (X.take k)).reverse=P at t e B;generalize X.drop (k+1)++R=R' at t e C;generalize X[k]=x at t e;have Q:IntKind.wrap .i64 (((a+k:Nat):Int)+1)=((a+(k+1):Nat):Int):=fQ;rw[t];refine sm (a2 d u) ?_;refine aF.yN (T:=Nat) [0,1,2,3,8] [] (λi=>[(9,.I ((a+k-i:Nat):Int))]) (λi=>[(0,.own z ((nM L x P R' i).map c0))]) (λi=>i<=P.length/\∀j v,j<i->P[P.length-j-1]?=some v->lt x v=true) (λi=>P.length-i) 0 ⟨by omega,by intro j v h;omega⟩ ?_ ?_
   ·simp only[go_sem,seval,d,Nat.sub_zero]
   ·rintro i ⟨hi,hI⟩;rcases dN i P.length with hil|hil
    ·have w:decide ((a:Int)<((a+k-i:Nat):Int))=true:=iy;have O:IntKind.wrap .i64 (((a+k-i:Nat):Int)-1)=((a+k-(i+1):Nat):Int):=fQ;obtain⟨v,J,K,g3,S⟩:=GJ L x P R' hil (a:=a+k-i) (b:=a+k-(i+1)) ak ak;obtain⟨c,Y,f⟩:=Z x v;have l1:=dJ J;have l2:=dJ K;obtain⟨M,N,m3,m4⟩:=ng (c:=c0) J K;generalize a+k-i=p at *;generalize hq:a+k-(i+1)=q at *;refine sm (a5 d w M N O) ?_;(with_reducible and_intros)<;>first|exact gT.mk (by simp only[l])|exact .dq|omega|exact H.ok _|exact H.pl _|skip
     refine aG.bC Y ?_;cases m:lt x v with
     |true =>
      rw[m]at f;simp only[go_sem,seval,d,f,length_set,M,N,m3,O];(with_reducible and_intros)<;>first|exact gT.mk (by simp only[l])|exact .dq|omega|exact H.ok _|exact H.pl _|skip
      refine⟨i+1,⟨hil,?_⟩,?_,by show P.length-(i+1)<P.length-i;omega⟩
      ·intro j y hj n;rcases dN j i with h|h
       ·exact hI j y h n
       ·obtain rfl:j=i:=ak
        rw[g3]at n;cases n;exact m
      ·exact dL (a4 d S m4 hq)
     |false =>
      rw[m]at f;have G:=e i hi hI (λ_ y n=>by rw[g3]at n;cases n;exact m);refine sm (a3 d f Q) ?_;refine⟨k+1,by omega,?_,by show X.length+1-(k+1)<X.length+1-k;omega⟩;exact dL (a2 d G)
    ·have w:decide ((a:Int)<((a+k-i:Nat):Int))=false:=iE;have G:=e i hi hI (λh=>by omega);refine sm (a3 d w Q) ?_;(with_reducible and_intros)<;>first|exact gT.mk (by simp only[l])|exact .dq|omega|exact H.ok _|exact H.pl _|skip
     refine⟨k+1,by omega,?_,by show X.length+1-(k+1)<X.length+1-k;omega⟩;exact dL (a2 d G)
  ·have u:decide (((a+k:Nat):Int)<(b:Int))=false:=iE;simp only[go_sem,seval,d,u,X2 lt L X R hge]
def SR(lt:A->A->Bool)(g:FuncId)(cs:List D)(I:D.bW cs=[])(o:vv cs=True)(J:∀(rh:Nat->Option Nat)(lv:Nat->Bool),mB rh lv cs cs=True)(hg:∀x y:A,∃c:Int,Sq g [] (.agg (c0 x)::.agg (c0 y)::cs) [] (.int .i64 c)/\decide (c<0)=lt x y)(L:List A)(x:A)(Y R:List A)(a m b:Nat)(X:Y.length≠0)(Z:a=L.length)(hm:m=L.length+1)(hb:b=L.length+1+Y.length)(hN:L.length+1+Y.length+R.length<2^40) :
  Sq (ρ 265) [.own z ((L++x::(Y++R)).map c0)] [.ref 0,.int .i64 a,.int .i64 m,.int .i64 b,.fn g cs] [.own z ((L++BK lt [x] Y++R).map c0)] (.bI []):=by
 have w1:IntKind.wrap .i64 ((m:Int)-a)=1:=fQ;rw[abJ lt x X];have hz1:=H.pos;have r:=H.ne;simp only[Fi,Fj]at r;have t:=H.nv;simp only[H6]at t;have d:=a5 H.sl H.el H.len H.nm (a5 H.tk H.dr H.pT r (a5 t I o J (RF o)));refine QI 220 5 [] (H.r4) mixed func265 λf=>?_;simp only[LD,rnR,Nv,LF,rnK,toList_toArray,map_cons,map_nil,H.t0,H.t3,H.t4,H.tu,jK,Bool.not_true,Bool.not_false,Bool.true_or,Bool.false_or,Bool.and_true,cm,bQ]at f |-;simp only[go_sem,seval,d,w1];refine aF.yN (T:=Nat×Nat) [0,1,2,4] [0] (λs=>[(10,.int .i64 ((m+s.1:Nat):Int)),(11,.int .i64 ((m+s.2:Nat):Int))]) (λ_=>[]) (λs=>s.1<=s.2/\s.2<=Y.length/\vC (λc=>t2 lt Y[c]? (some x)) s.1 s.2=vC (λc=>t2 lt Y[c]? (some x)) 0 Y.length) (λs=>s.2-s.1) (0,Y.length) ⟨Nat.zero_le _,fS _,rfl⟩ ?_ ?_
 ·simp only[go_sem,seval,d,Nat.add_zero];omega
 ·rintro⟨i,j⟩ ⟨h1,h2,h3⟩;dsimp only at h1 h2 h3;rcases dN i j with hij|hij
  ·have w:decide (((m+i:Nat):Int)<((m+j:Nat):Int))=true:=iy;obtain⟨h,S⟩:=aN ((i+j)/2);have K:h<Y.length:=ak
   have O:=half (i:=m+i) (j:=m+j) ak;rw[show(m+i+(m+j))/2=m+h by omega]at O;have wh:IntKind.wrap .i64 (((m+h:Nat):Int)+1)=((m+(h+1):Nat):Int):=fQ;have l:(L++x::(Y++R))[a]?=some x:=yj _ _ _ Z;have n:(L++x::(Y++R))[m+h]?=some Y[h]:=by
    rw[getElem?_append_right ak,show m+h-L.length=h+1 by omega,getElem?_cons_succ,getElem?_append_left K,fj K]
   have u:t2 lt Y[h]? (some x)=lt Y[h] x:=by rw[fj K];rfl
   obtain⟨c,Q,e⟩:=hg Y[h] x;have l1:=dJ l;have l2:=dJ n;have C:=(ng (c:=c0) l l).1;have E:=(ng (c:=c0) n n).1;generalize Y[h]=y at *;cases B:lt y x with
   |true =>
    rw[B]at e u;simp only[go_sem,seval,d,w,O,C,E];(with_reducible and_intros)<;>first|exact gT.mk (by simp only[f])|exact .dq|omega|exact H.ok _|exact H.pl _|skip
    refine aG.bC Q ?_;simp only[go_sem,seval,d,e,wh];refine⟨(h+1,j),⟨by show h+1<=j;omega,h2,?_⟩,?_,by show j-(h+1)<j-i;omega⟩
    ·exact(Mn (p:=λc=>t2 lt Y[c]? (some x)) hij S u).trans h3
    ·simp only[go_sem,seval,d]
   |false =>
    rw[B]at e u;simp only[go_sem,seval,d,w,O,C,E];(with_reducible and_intros)<;>first|exact gT.mk (by simp only[f])|exact .dq|omega|exact H.ok _|exact H.pl _|skip
    refine aG.bC Q ?_;simp only[go_sem,seval,d,e];refine⟨(i,h),⟨by show i<=h;omega,by show h<=_;omega,?_⟩,?_,by show h-i<j-i;omega⟩
    ·exact(Rx (p:=λc=>t2 lt Y[c]? (some x)) hij S u).trans h3
    ·simp only[go_sem,seval,d]
  ·have w:decide (((m+i:Nat):Int)<((m+j:Nat):Int))=false:=iE;obtain rfl:i=j:=ak
   rw[AR ak]at h3;rw[<-h3];have V:IntKind.wrap .i64 (((m+i:Nat):Int)-1)=((a+i:Nat):Int):=fQ;have P:(Y.take i).length=i:=by simp only[fZ];omega
   have M:=λk U=>Zw L x (Y.take i) (Y.drop i++R) (i:=k) U (a:=a+k) (b:=a+(k+1)) ak ak;have N:=λk=>ab0 L x (Y.take i) (Y.drop i++R) k;have e0:L++x::(Y++R)=Q9 L x (Y.take i) (Y.drop i++R) 0:=by rw[Zx,<-dz (Y.take i),mj]
   have W:L++(Y.take i++[x]++Y.drop i)++R=Q9 L x (Y.take i) (Y.drop i++R) i:=by
    have:=abZ L x (Y.take i) (Y.drop i++R);rw[P]at this;rw[this];simp only[dz,cons_append,nil_append]
   rw[e0,W];rw[P]at M;generalize hF:Q9 L x (Y.take i) (Y.drop i++R)=F at M N;simp only[go_sem,seval,d,w];refine gf.id ?_;simp only[go_sem,seval,d];refine aF.yN (T:=Nat) [0,10] [] (λk=>[(13,.int .i64 ((a+k:Nat):Int))]) (λk=>[(0,.own z ((F k).map c0))]) (λk=>k<=i) (λk=>i-k) 0 (Nat.zero_le _) ?_ ?_
   ·simp only[go_sem,seval,d,Nat.add_zero]
   ·intro k U;rcases dN k i with hki|hki
    ·have G:decide (((a+k:Nat):Int)<((a+i:Nat):Int))=true:=iy;have wk:IntKind.wrap .i64 (((a+k:Nat):Int)+1)=((a+(k+1):Nat):Int):=fQ;obtain⟨v,l,n,g3⟩:=M k hki;have l1:=dJ l;have l2:=dJ n;obtain⟨C,E,m3,m4⟩:=ng (c:=c0) l n;generalize u:a+k=p at *;generalize B:a+(k+1)=q at *;simp only[go_sem,seval,d,V,G,wk,length_set,C,E,m3];(with_reducible and_intros)<;>first|exact gT.mk (by simp only[f])|exact .dq|omega|exact H.ok _|exact H.pl _|skip
     refine⟨k+1,hki,?_,by show i-(k+1)<i-k;omega⟩;simp only[go_sem,seval,d,g3,m4,B]
    ·obtain rfl:k=i:=ak
     have G:decide (((a+k:Nat):Int)<((a+k:Nat):Int))=false:=iE;simp only[go_sem,seval,d,V,G]
def SS(lt:A->A->Bool)(g:FuncId)(cs:List D)(J:D.bW cs=[])(o:vv cs=True)(K:∀(rh:Nat->Option Nat)(lv:Nat->Bool),mB rh lv cs cs=True)(Z:∀x y:A,∃c:Int,Sq g [] (.agg (c0 x)::.agg (c0 y)::cs) [] (.int .i64 c)/\decide (c<0)=lt x y)(L X:List A)(y:A)(R:List A)(a m b:Nat)(Y:X.length≠0)(I:X.length≠1)(ha:a=L.length)(hm:m=L.length+X.length)(hb:b=L.length+X.length+1)(hN:L.length+X.length+1+R.length<2^40) :
  Sq (ρ 265) [.own z ((L++X++y::R).map c0)] [.ref 0,.int .i64 a,.int .i64 m,.int .i64 b,.fn g cs] [.own z ((L++BK lt X [y]++R).map c0)] (.bI []):=by
 have w1:IntKind.wrap .i64 ((m:Int)-a)=((X.length:Nat):Int):=fQ;have q1:((X.length:Int)==1)=false:=by simp;omega
 have w2:IntKind.wrap .i64 ((b:Int)-m)=1:=fQ;rw[Za lt Y I y];have hz1:=H.pos;have r:=H.ne;simp only[Fi,Fj]at r;have t:=H.nv;simp only[H6]at t;have d:=a5 H.sl H.el H.len H.nm (a5 H.tk H.dr H.pT r (a5 t J o K (RF o)));refine QI 220 5 [] (H.r4) mixed func265 λf=>?_;simp only[LD,rnR,Nv,LF,rnK,toList_toArray,map_cons,map_nil,H.t0,H.t3,H.t4,H.tu,jK,Bool.not_true,Bool.not_false,Bool.true_or,Bool.false_or,Bool.and_true,cm,bQ]at f |-;simp only[go_sem,seval,d,w1,q1,w2];refine aF.yN (T:=Nat×Nat) [0,1,2,4] [0] (λs=>[(14,.int .i64 ((a+s.1:Nat):Int)),(15,.int .i64 ((a+s.2:Nat):Int))]) (λ_=>[]) (λs=>s.1<=s.2/\s.2<=X.length/\vC (λc=>t2 (λy x=>!lt y x) (some y) X[c]?) s.1 s.2=vC (λc=>t2 (λy x=>!lt y x) (some y) X[c]?) 0 X.length) (λs=>s.2-s.1) (0,X.length) ⟨Nat.zero_le _,fS _,rfl⟩ ?_ ?_
 ·simp only[go_sem,seval,d,Nat.add_zero];omega
 ·rintro⟨i,j⟩ ⟨h1,h2,h3⟩;dsimp only at h1 h2 h3;rcases dN i j with hij|hij
  ·have w:decide (((a+i:Nat):Int)<((a+j:Nat):Int))=true:=iy;obtain⟨h,U⟩:=aN ((i+j)/2);have M:h<X.length:=ak
   have P:=half (i:=a+i) (j:=a+j) ak;rw[show(a+i+(a+j))/2=a+h by omega]at P;have wh:IntKind.wrap .i64 (((a+h:Nat):Int)+1)=((a+(h+1):Nat):Int):=fQ;have l:(L++X++y::R)[m]?=some y:=yj _ _ _ (by simp only[cR];omega);have n:(L++X++y::R)[a+h]?=some X[h]:=by
    rw[dz,getElem?_append_right ak,show a+h-L.length=h by omega,getElem?_append_left M,fj M]
   have u:t2 (λy x=>!lt y x) (some y) X[h]? = !lt y X[h]:=by rw[fj M];rfl
   obtain⟨c,S,e⟩:=Z y X[h];have l1:=dJ l;have l2:=dJ n;have C:=(ng (c:=c0) l l).1;have E:=(ng (c:=c0) n n).1;generalize X[h]=x at *;cases B:lt y x with
   |false =>
    rw[B]at e u;simp only[go_sem,seval,d,w,P,C,E];(with_reducible and_intros)<;>first|exact gT.mk (by simp only[f])|exact .dq|omega|exact H.ok _|exact H.pl _|skip
    refine aG.bC S ?_;simp only[go_sem,seval,d,e,wh];refine⟨(h+1,j),⟨by show h+1<=j;omega,h2,?_⟩,?_,by show j-(h+1)<j-i;omega⟩
    ·exact(Mn (p:=(λc=>t2 (λy x=>!lt y x) (some y) X[c]?)) hij U u).trans h3
    ·simp only[go_sem,seval,d]
   |true =>
    rw[B]at e u;simp only[go_sem,seval,d,w,P,C,E];(with_reducible and_intros)<;>first|exact gT.mk (by simp only[f])|exact .dq|omega|exact H.ok _|exact H.pl _|skip
    refine aG.bC S ?_;simp only[go_sem,seval,d,e];refine⟨(i,h),⟨by show i<=h;omega,by show h<=_;omega,?_⟩,?_,by show h-i<j-i;omega⟩
    ·exact(Rx (p:=(λc=>t2 (λy x=>!lt y x) (some y) X[c]?)) hij U u).trans h3
    ·simp only[go_sem,seval,d]
  ·have w:decide (((a+i:Nat):Int)<((a+j:Nat):Int))=false:=iE;obtain rfl:i=j:=ak
   rw[AR ak]at h3;rw[<-h3];have Q:(X.drop i).length=X.length-i:=by simp only[iN]
   have hLl:(L++X.take i).length=a+i:=by simp only[cR,fZ];omega
   have N:=λk V=>GJ (L++X.take i) y (X.drop i) R (i:=k) V (a:=m-k) (b:=m-(k+1)) ak ak;have O:=λk=>UW (L++X.take i) y (X.drop i) R k;have e0:L++X++y::R=nM (L++X.take i) y (X.drop i) R 0:=by rw[GL,dz L (X.take i),mj]
   have W:L++(X.take i++[y]++X.drop i)++R=nM (L++X.take i) y (X.drop i) R (X.length-i):=by
    have:=UU (L++X.take i) y (X.drop i) R;rw[Q]at this;rw[this];simp only[dz,cons_append,nil_append]
   rw[e0,W];rw[Q]at N;generalize hF:nM (L++X.take i) y (X.drop i) R=F at N O;simp only[go_sem,seval,d,w];refine gf.id ?_;simp only[go_sem,seval,d];refine aF.yN (T:=Nat) [0,14] [] (λk=>[(17,.int .i64 ((m-k:Nat):Int))]) (λk=>[(0,.own z ((F k).map c0))]) (λk=>k<=X.length-i) (λk=>X.length-i-k) 0 (Nat.zero_le _) ?_ ?_
   ·simp only[go_sem,seval,d,Nat.sub_zero]
   ·intro k V;rcases dN k (X.length-i)with hki|hki
    ·have G:decide (((a+i:Nat):Int)<((m-k:Nat):Int))=true:=iy;have wk:IntKind.wrap .i64 (((m-k:Nat):Int)-1)=((m-(k+1):Nat):Int):=fQ;obtain⟨v,l,n,g4,g3⟩:=N k hki;have l1:=dJ l;have l2:=dJ n;obtain⟨C,E,m3,m4⟩:=ng (c:=c0) l n;generalize u:m-k=p at *;generalize B:m-(k+1)=q at *;simp only[go_sem,seval,d,G,wk,length_set,C,E,m3];(with_reducible and_intros)<;>first|exact gT.mk (by simp only[f])|exact .dq|omega|exact H.ok _|exact H.pl _|skip
     refine⟨k+1,hki,?_,by show X.length-i-(k+1)<X.length-i-k;omega⟩;simp only[go_sem,seval,d,g3,m4,B]
    ·obtain rfl:k=X.length-i:=ak
     have G:decide (((a+i:Nat):Int)<((m-(X.length-i):Nat):Int))=false:=iE;simp only[go_sem,seval,d,G]
set_option maxHeartbeats 8000000 in
set_option maxRecDepth 8000 in
theorem LU(lt:A->A->Bool)(g:FuncId)(cs:List D)(aa:D.bW cs=[])(J:vv cs=True)(ab:∀(rh:Nat->Option Nat)(lv:Nat->Bool),mB rh lv cs cs=True)(hg:∀x y:A,∃c:Int,Sq g [] (.agg (c0 x)::.agg (c0 y)::cs) [] (.int .i64 c)/\decide (c<0)=lt x y)(n:Nat):∀(L X Y R:List A)(a m b:Nat),X.length+Y.length<=n->X.length≠0->Y.length≠0->a=L.length->m=L.length+X.length->b=L.length+X.length+Y.length->L.length+X.length+Y.length+R.length<2^40 ->
  Sq (ρ 265) [.own z ((L++X++Y++R).map c0)] [.ref 0,.int .i64 a,.int .i64 m,.int .i64 b,.fn g cs] [.own z ((L++BK lt X Y++R).map c0)] (.bI []):=by
 induction n with
 |zero=>intro L X Y R a m b h hX hY;omega
 |succ n ih =>
  intro L X Y R a m b h hX hY ha hm hb hN;by_cases ao:X.length=1
  ·obtain⟨x,rfl⟩:=length_eq_one_iff.1 ao;rw[show L++[x]++Y++R=L++x::(Y++R)by simp only[dz,cons_append,nil_append]];simp only[length_cons,length_nil]at hm hb hN;exact SR H lt g cs aa J ab hg L x Y R a m b hY ha ak ak ak
  by_cases aw:Y.length=1
  ·obtain⟨y,rfl⟩:=length_eq_one_iff.1 aw;rw[show L++X++[y]++R=L++X++y::R by simp only[dz,cons_append,nil_append]];simp only[length_cons,length_nil]at hm hb hN;exact SS H lt g cs aa J ab hg L X y R a m b hX ao ha hm ak ak
  rw[abK lt ak ak];have B:=B6 lt X Y;obtain⟨d,ah⟩:=aN ((X.length+Y.length)/2);obtain⟨s0,M,ac,av,hd⟩:∃s0 M,cutAt lt X Y=vC (λc=>t2 (λy x=>!lt y x) Y[d-1-c]? X[c]?) s0 M/\(s0<=M/\M<=X.length/\M<=d/\d<=s0+Y.length)/\((d<X.length/\s0=d-Y.length/\M=d)\/(X.length<=d/\s0=0/\M=X.length)):=by
   unfold cutAt;rw[<-ah];rcases dN d X.length with V|V
   ·rw[aq V,aq V];exact⟨_,_,rfl,⟨by omega,by omega,by omega,by omega⟩,.inl ⟨V,rfl,rfl⟩⟩
   ·rw[au ak,au ak];exact⟨_,_,rfl,⟨by omega,by omega,by omega,by omega⟩,.inr ⟨V,rfl,rfl⟩⟩
  rw[<-ah]at B;rw[<-ah];have w1:IntKind.wrap .i64 ((m:Int)-a)=((X.length:Nat):Int):=fQ;have q1:((X.length:Int)==1)=false:=by simp;omega
  have w2:IntKind.wrap .i64 ((b:Int)-m)=((Y.length:Nat):Int):=fQ;have q2:((Y.length:Int)==1)=false:=by simp;omega
  have wm:=half (i:=a) (j:=b) ak;rw[show(a+b)/2=a+d by omega]at wm;have wn:IntKind.wrap .i64 (((a+d:Nat):Int)+m)=((a+d+m:Nat):Int):=fQ;have wp:IntKind.wrap .i64 (((a+d+m:Nat):Int)-1)=((a+d+m-1:Nat):Int):=fQ;obtain⟨wB,K⟩:∃w:Int,w=IntKind.wrap .i64 (((a+d+m:Nat):Int)-b):=⟨_,rfl⟩
  have ad:d<X.length->wB=((a+s0:Nat):Int):=by
   intro V;rw[K,gO ak ak];omega
  have hz1:=H.pos;have am:=H.ne;simp only[Fi,Fj]at am;have an:=H.nv;simp only[H6]at an;have e:=a5 H.sl H.el H.len H.nm (a5 H.tk H.dr H.pT am (a5 an aa J ab (RF J)));refine QI 220 5 [] (H.r4) mixed func265 λag=>?_;simp only[LD,rnR,Nv,LF,rnK,toList_toArray,map_cons,map_nil,H.t0,H.t3,H.t4,H.tu,jK,Bool.not_true,Bool.not_false,Bool.true_or,Bool.false_or,Bool.and_true,cm,bQ]at ag |-;rcases hd with⟨c1,c2,c3⟩| ⟨c1,c2,c3⟩;all_goals first
   | (have dG:decide (((a+d:Nat):Int) < (m:Int))=true:=iy
      replace K:=K.symm.trans (ad c1)
      simp only[go_sem,seval,e,w1,w2,q1,q2,wm,wn,wp,dG,K])
   | (have dG:decide (((a+d:Nat):Int) < (m:Int))=false:=iE
      simp only[go_sem,seval,e,w1,w2,q1,q2,wm,wn,wp,dG])
  all_goals
   refine aF.yN (T:=Nat×Nat) [0,1,2,3,4,18,19,22] [0] (λs=>[(20,.int .i64 ((a+s.1:Nat):Int)),(21,.int .i64 ((a+s.2:Nat):Int))]) (λ_=>[]) (λs=>s0<=s.1/\s.1<=s.2/\s.2<=M/\vC (λc=>t2 (λy x=>!lt y x) Y[d-1-c]? X[c]?) s.1 s.2=vC (λc=>t2 (λy x=>!lt y x) Y[d-1-c]? X[c]?) s0 M) (λs=>s.2-s.1) (s0,M) ⟨fS _,av.1,fS _,rfl⟩ ?_ ?_
   ·simp only[go_sem,seval,e]<;>omega
   ·rintro⟨i,j⟩ ⟨h1,h2,h3,h4⟩;dsimp only at h1 h2 h3 h4;rcases dN i j with hij|hij
    ·have d1:decide (((a+i:Nat):Int)<((a+j:Nat):Int))=true:=iy;obtain⟨k,hk⟩:=aN ((i+j)/2);have ai:k<X.length:=ak
     have aj:d-1-k<Y.length:=ak
     have hv:=half (i:=a+i) (j:=a+j) ak;rw[show(a+i+(a+j))/2=a+k by omega]at hv;have wk:IntKind.wrap .i64 (((a+k:Nat):Int)+1)=((a+(k+1):Nat):Int):=fQ;have wy:IntKind.wrap .i64 (((a+d+m-1:Nat):Int)-((a+k:Nat):Int))=((m+(d-1-k):Nat):Int):=fQ;have g1:(L++X++Y++R)[m+(d-1-k)]?=some Y[d-1-k]:=by
      rw[dz,getElem?_append_right (by rw[cR];omega),show m+(d-1-k)-(L++X).length=d-1-k by rw[cR];omega,getElem?_append_left aj,fj aj]
     have g2:(L++X++Y++R)[a+k]?=some X[k]:=by
      rw[dz,dz,getElem?_append_right ak,show a+k-L.length=k by omega,getElem?_append_left ai,fj ai]
     have hp:t2 (λy x=>!lt y x) Y[d-1-k]? X[k]? = !lt Y[d-1-k] X[k]:=by rw[fj aj,fj ai];rfl
     obtain⟨c,V,B⟩:=hg Y[d-1-k] X[k];have l1:=dJ g1;have l2:=dJ g2;have m1:=(ng (c:=c0) g1 g1).1;have m2:=(ng (c:=c0) g2 g2).1;generalize Y[d-1-k]=y at *;generalize X[k]=x at *;cases hq:lt y x with
     |true =>
      rw[hq]at B hp;simp only[go_sem,seval,e,d1,hv,wy,m1,m2];(with_reducible and_intros)<;>first|exact gT.mk (by simp only[ag])|exact .dq|omega|exact H.ok _|exact H.pl _|skip
      refine aG.bC V ?_;simp only[go_sem,seval,e,B];refine⟨(i,k),⟨h1,by show i<=k;omega,by show k<=_;omega,?_⟩,?_,by show k-i<j-i;omega⟩
      ·exact(Rx (p:=λc=>t2 (λy x=>!lt y x) Y[d-1-c]? X[c]?) hij hk hp).trans h4
      ·simp only[go_sem,seval,e]
     |false =>
      rw[hq]at B hp;simp only[go_sem,seval,e,d1,hv,wy,m1,m2];(with_reducible and_intros)<;>first|exact gT.mk (by simp only[ag])|exact .dq|omega|exact H.ok _|exact H.pl _|skip
      refine aG.bC V ?_;simp only[go_sem,seval,e,B,wk];refine⟨(k+1,j),⟨by show s0<=k+1;omega,by show k+1<=j;omega,h3,?_⟩,?_,by show j-(k+1)<j-i;omega⟩
      ·exact(Mn (p:=λc=>t2 (λy x=>!lt y x) Y[d-1-c]? X[c]?) hij hk hp).trans h4
      ·simp only[go_sem,seval,e]
    ·have d1:decide (((a+i:Nat):Int)<((a+j:Nat):Int))=false:=iE;obtain rfl:i=j:=ak
     rw[AR ak]at h4;have al:cutAt lt X Y=i:=by rw[ac];exact h4.symm
     rw[al]at B |-;have wq:IntKind.wrap .i64 (((a+d+m:Nat):Int)-((a+i:Nat):Int))=((m+(d-i):Nat):Int):=fQ;obtain⟨u,P⟩:∃Z,Z=X.take i:=⟨_,rfl⟩
     obtain⟨t,Q⟩:∃Z,Z=X.drop i:=⟨_,rfl⟩
     obtain⟨r,S⟩:∃Z,Z=Y.take (d-i):=⟨_,rfl⟩
     obtain⟨v,U⟩:∃Z,Z=Y.drop (d-i):=⟨_,rfl⟩
     have lXa:u.length=i:=by rw[P,fZ];omega
     have lXb:t.length=X.length-i:=by rw[Q,iN]
     have lYa:r.length=d-i:=by rw[S,fZ];omega
     have lYb:v.length=Y.length-(d-i):=by rw[U,iN]
     have eX:u++t=X:=by rw[P,Q,mj]
     have eY:r++v=Y:=by rw[S,U,mj]
     rw[<-P,<-Q,<-S,<-U];obtain⟨W0,N⟩:∃W,W=L++X++Y++R:=⟨_,rfl⟩
     obtain⟨W1,G⟩:∃W,W=L++u++r++t++v++R:=⟨_,rfl⟩
     obtain⟨W2,I⟩:∃W,W=L++BK lt u r++t++v++R:=⟨_,rfl⟩
     obtain⟨W3,O⟩:∃W,W=L++(BK lt u r++BK lt t v)++R:=⟨_,rfl⟩
     rw[<-N,<-O];have C:t.length≠0->r.length≠0->Sq (ρ 293) [.own z (W0.map c0)] [.ref 0,.int .i64 ((a+i:Nat):Int),.int .i64 m,.int .i64 ((m+(d-i):Nat):Int),.fn g cs] [.own z (W1.map c0)] (.bI []):=by
      intro ar ap;have:=Ny H (L++u) t r (v++R) (a+i) m (m+(d-i)) (by rw[cR];omega) (by rw[cR];omega) (by rw[cR];omega) ar ap g cs aa J ab (by simp only[cR];omega);rwa[show L++u++t++r++(v++R)=W0 by rw[N,<-eX,<-eY];simp only[dz],show L++u++r++t++(v++R)=W1 by rw[G];simp only[dz]]at this
     have ae:u.length≠0->r.length≠0->Sq (ρ 265) [.own z (W1.map c0)] [.ref 0,.int .i64 a,.int .i64 ((a+i:Nat):Int),.int .i64 ((a+d:Nat):Int),.fn g cs] [.own z (W2.map c0)] (.bI []):=by
      intro h1 h2;have:=ih L u r (t++v++R) a (a+i) (a+d) ak h1 h2 ha ak ak (by simp only[cR];omega);rwa[show L++u++r++(t++v++R)=W1 by rw[G];simp only[dz],show L++BK lt u r++(t++v++R)=W2 by rw[I];simp only[dz]]at this
     have af:t.length≠0->v.length≠0->Sq (ρ 265) [.own z (W2.map c0)] [.ref 0,.int .i64 ((a+d:Nat):Int),.int .i64 ((m+(d-i):Nat):Int),.int .i64 b,.fn g cs] [.own z (W3.map c0)] (.bI []):=by
      intro h1 h2;have lsm:=C0 lt u r;have:=ih (L++BK lt u r) t v R (a+d) (m+(d-i)) b ak h1 h2 (by rw[cR];omega) (by rw[cR];omega) (by rw[cR];omega) (by rw[cR];omega);rwa[<-I,show L++BK lt u r++BK lt t v++R=W3 by rw[O];simp only[dz]]at this
     have eR:t.length=0\/r.length=0->W0=W1:=by
      intro h;rw[N,G,<-eX,<-eY];rcases h with h|h<;>(rw[eq_nil_of_length_eq_zero h];simp only[dz,nil_append,append_nil])
     have e1:u.length=0\/r.length=0->W1=W2:=by
      intro h;rw[G,I];rcases h with h|h<;>(rw[eq_nil_of_length_eq_zero h];simp only[IW,QK,dz,nil_append,append_nil])
     have e2:t.length=0\/v.length=0->W2=W3:=by
      intro h;rw[I,O];rcases h with h|h<;>(rw[eq_nil_of_length_eq_zero h];simp only[IW,QK,dz,nil_append,append_nil])
     simp only[go_sem,seval,e,d1];refine gf.id ?_;simp only[go_sem,seval,e,wq];clear K ad hg ih N G I O P Q S U eX eY ac h4 al wm wn wp w1 w2 q1 q2 dG d1 wq h1 h2 h3;rcases Nat.eq_zero_or_pos t.length with zb|zb<;>rcases Nat.eq_zero_or_pos r.length with za|za<;>rcases Nat.eq_zero_or_pos u.length with zc|zc<;>rcases Nat.eq_zero_or_pos v.length with zd|zd
     ·exfalso;omega
     ·exfalso;omega
     ·exfalso;omega
     ·have E:decide (((a+i:Nat):Int)<(m:Int))=false:=iE;have F:decide ((m:Int)<((m+(d-i):Nat):Int))=false:=iE;have f:decide ((a:Int)<((a+i:Nat):Int))=true:=iy;have l:decide (((a+i:Nat):Int)<((a+d:Nat):Int))=false:=iE;have o:decide (((a+d:Nat):Int)<((m+(d-i):Nat):Int))=false:=iE;have q:decide (((m+(d-i):Nat):Int)<(b:Int))=true:=iy;rw[eR ak];rw[e1 ak];have e2:=e2 ak;simp only[go_sem,seval,e,E,F,f,l,o,q];rw[e2]
     ·exfalso;omega
     ·exfalso;omega
     ·exfalso;omega
     ·have E:decide (((a+i:Nat):Int)<(m:Int))=false:=iE;have F:decide ((m:Int)<((m+(d-i):Nat):Int))=true:=iy;have f:decide ((a:Int)<((a+i:Nat):Int))=true:=iy;have l:decide (((a+i:Nat):Int)<((a+d:Nat):Int))=true:=iy;have o:decide (((a+d:Nat):Int)<((m+(d-i):Nat):Int))=false:=iE;have q:decide (((m+(d-i):Nat):Int)<(b:Int))=true:=iy;rw[eR ak];have e2:=e2 ak;simp only[go_sem,seval,e,E,F,f,l,o,q];refine aG.gE [] [0] false sT ?_;simp only[go_sem,seval,e];refine cz.gF (ae ak ak) ?_;simp only[go_sem,seval,e,f,l,o,q];rw[e2]
     ·exfalso;omega
     ·exfalso;omega
     ·exfalso;omega
     ·have E:decide (((a+i:Nat):Int)<(m:Int))=true:=iy;have F:decide ((m:Int)<((m+(d-i):Nat):Int))=false:=iE;have f:decide ((a:Int)<((a+i:Nat):Int))=true:=iy;have l:decide (((a+i:Nat):Int)<((a+d:Nat):Int))=false:=iE;have o:decide (((a+d:Nat):Int)<((m+(d-i):Nat):Int))=true:=iy;have q:decide (((m+(d-i):Nat):Int)<(b:Int))=true:=iy;rw[eR ak];rw[e1 ak];simp only[go_sem,seval,e,E,F,f,l,o,q];refine aG.gE [] [0] false sT ?_;simp only[go_sem,seval,e];refine cz.gF (af ak ak) ?_;simp only[go_sem,seval,e,f,l,o,q]
     ·have E:decide (((a+i:Nat):Int)<(m:Int))=true:=iy;have F:decide ((m:Int)<((m+(d-i):Nat):Int))=true:=iy;have f:decide ((a:Int)<((a+i:Nat):Int))=false:=iE;have l:decide (((a+i:Nat):Int)<((a+d:Nat):Int))=true:=iy;have o:decide (((a+d:Nat):Int)<((m+(d-i):Nat):Int))=true:=iy;have q:decide (((m+(d-i):Nat):Int)<(b:Int))=false:=iE;have e1:=e1 ak;have e2:=e2 ak;simp only[go_sem,seval,e,E,F,f,l,o,q];refine aG.gE [] [0] false sT ?_;simp only[go_sem,seval,e];refine cz.gF (C ak ak) ?_;simp only[go_sem,seval,e,f,l,o,q];rw[e1];rw[e2]
     ·have E:decide (((a+i:Nat):Int)<(m:Int))=true:=iy;have F:decide ((m:Int)<((m+(d-i):Nat):Int))=true:=iy;have f:decide ((a:Int)<((a+i:Nat):Int))=false:=iE;have l:decide (((a+i:Nat):Int)<((a+d:Nat):Int))=true:=iy;have o:decide (((a+d:Nat):Int)<((m+(d-i):Nat):Int))=true:=iy;have q:decide (((m+(d-i):Nat):Int)<(b:Int))=true:=iy;have e1:=e1 ak;simp only[go_sem,seval,e,E,F,f,l,o,q];refine aG.gE [] [0] false sT ?_;simp only[go_sem,seval,e];refine cz.gF (C ak ak) ?_;simp only[go_sem,seval,e,f,l,o,q];rw[e1];refine aG.gE [] [0] false sT ?_;simp only[go_sem,seval,e];refine cz.gF (af ak ak) ?_;simp only[go_sem,seval,e,f,l,o,q]
     ·have E:decide (((a+i:Nat):Int)<(m:Int))=true:=iy;have F:decide ((m:Int)<((m+(d-i):Nat):Int))=true:=iy;have f:decide ((a:Int)<((a+i:Nat):Int))=true:=iy;have l:decide (((a+i:Nat):Int)<((a+d:Nat):Int))=true:=iy;have o:decide (((a+d:Nat):Int)<((m+(d-i):Nat):Int))=true:=iy;have q:decide (((m+(d-i):Nat):Int)<(b:Int))=false:=iE;have e2:=e2 ak;simp only[go_sem,seval,e,E,F,f,l,o,q];refine aG.gE [] [0] false sT ?_;simp only[go_sem,seval,e];refine cz.gF (C ak ak) ?_;simp only[go_sem,seval,e,f,l,o,q];refine aG.gE [] [0] false sT ?_;simp only[go_sem,seval,e];refine cz.gF (ae ak ak) ?_;simp only[go_sem,seval,e,f,l,o,q];rw[e2]
     ·have E:decide (((a+i:Nat):Int)<(m:Int))=true:=iy;have F:decide ((m:Int)<((m+(d-i):Nat):Int))=true:=iy;have f:decide ((a:Int)<((a+i:Nat):Int))=true:=iy;have l:decide (((a+i:Nat):Int)<((a+d:Nat):Int))=true:=iy;have o:decide (((a+d:Nat):Int)<((m+(d-i):Nat):Int))=true:=iy;have q:decide (((m+(d-i):Nat):Int)<(b:Int))=true:=iy;simp only[go_sem,seval,e,E,F,f,l,o,q];refine aG.gE [] [0] false sT ?_;simp only[go_sem,seval,e];refine cz.gF (C ak ak) ?_;simp only[go_sem,seval,e,f,l,o,q];refine aG.gE [] [0] false sT ?_;simp only[go_sem,seval,e];refine cz.gF (ae ak ak) ?_;simp only[go_sem,seval,e,f,l,o,q];refine aG.gE [] [0] false sT ?_;simp only[go_sem,seval,e];refine cz.gF (af ak ak) ?_;simp only[go_sem,seval,e,f,l,o,q]
theorem NO(lt:A->A->Bool)(g:FuncId)(cs:List D)(j:D.bW cs=[])(e:vv cs=True)(k:∀(rh:Nat->Option Nat)(lv:Nat->Bool),mB rh lv cs cs=True)(G:∀x y:A,∃c:Int,Sq g [] (.agg (c0 x)::.agg (c0 y)::cs) [] (.int .i64 c)/\decide (c<0)=lt x y)(l:List A)(Y:l.length<2^38) :
  Sq (ρ 208) [.own z (l.map c0)] [.ref 0,.I l.length,.fn g cs] [.own z ((LQ lt l).map c0)] (.bI []):=by
 obtain⟨N,i⟩:=aN (l.length);have S:LQ lt l=B7 lt N 20 (zY lt N l):=by rw[i];rfl
 rw[S,<-i];rw[<-i]at Y;have hz1:=H.pos;have B:=H.ne;simp only[Fi,Fj]at B;have C:=H.nv;simp only[H6]at C;have d:=a5 H.sl H.el H.len H.nm (a5 H.tk H.dr H.pT B (a5 C j e k (RF e)));refine QI 63 3 [] (H.r5) mixed func208 λO=>?_;simp only[LD,rnR,Nv,LF,rnK,toList_toArray,map_cons,map_nil,H.t0,H.t3,H.t4,H.tu,jK,Bool.not_true,Bool.not_false,Bool.true_or,Bool.false_or,Bool.and_true,cm,bQ]at O |-;refine sm d ?_;refine aF.yN (T:=Nat×List A×List A) [0,1,2,6] [] (λs=>[(7,.I s.2.1.length),(8,.I ((s.2.1.length+20:Nat):Int))]) (λs=>[(0,.own z ((s.2.1++s.2.2).map c0))]) (λs=>s.2.1++zY lt s.1 s.2.2=zY lt N l/\s.2.2.length<=s.1/\s.2.1.length+s.2.2.length=N) (λs=>s.2.2.length) (N,[],l) ⟨rfl,Nat.le_of_eq i.symm,(Nat.zero_add _).trans i.symm⟩ ?_ ?_
 ·simp only[go_sem,seval,d,length_nil,nil_append,Nat.zero_add]
 ·rintro⟨n,P,Q⟩ ⟨h1,h2,h3⟩;dsimp only at h1 h2 h3;rcases dN Q.length 20 with hq|hq
  ·have J:decide (((P.length+20:Nat):Int)<=(N:Int))=false:=iE;have r:=K3 H lt g cs j e k G P Q [] P.length N rfl ak (by simp only[length_nil];omega);have hb:zY lt n Q=Bb lt Q:=by
    cases n with
    |zero=>rfl
    |succ n=>rw[zY,au ak]
   rw[hb]at h1;rw[<-h1];simp only[append_nil]at r;refine sm (a2 d J) ?_;refine gf.id ?_;refine sg [0] d r ?_;obtain⟨U,v⟩:=aN (P++Bb lt Q);have w:U.length=N:=by rw[v,cR,yE];omega
   rw[<-v];refine aF.yN (T:=Nat×Nat×List A) [0,1,2] [] (λs=>[(6,.I s.2.1)]) (λs=>[(0,.own z (s.2.2.map c0))]) (λs=>B7 lt s.1 s.2.1 s.2.2=B7 lt N 20 U/\s.2.2.length=N/\N<=s.1+s.2.1/\0<s.2.1/\s.2.1<=2*N+20) (λs=>s.1) (N,20,U) ⟨rfl,w,by show N<=N+20;omega,by show 0<20;omega,by show 20<=2*N+20;omega⟩ ?_ ?_
   ·exact dL d
   ·rintro⟨f,bs,m⟩ ⟨k1,k2,k3,k4,k5⟩;dsimp only at k1 k2 k3 k4 k5;rcases dN bs N with hbs|hbs
    ·have K:decide ((bs:Int)<(N:Int))=true:=iy;have W:IntKind.wrap .i64 (2*(bs:Int))=((2*bs:Nat):Int):=fQ;have X:IntKind.wrap .i64 ((bs:Int)*2)=((2*bs:Nat):Int):=fQ;obtain⟨o,rfl⟩:∃o,f=o+1:=⟨f-1,by omega⟩
     rw[B7,aq ak]at k1;rw[k2]at k1;refine sm (a3 d K W) ?_;refine aF.yN (T:=Nat×List A×List A) [0,1,2,6] [] (λs=>[(7,.I s.2.1.length),(8,.I ((s.2.1.length+2*bs:Nat):Int))]) (λs=>[(0,.own z ((s.2.1++s.2.2).map c0))]) (λs=>s.2.1++nr lt bs s.1 s.2.2=nr lt bs N m/\s.2.2.length<=s.1/\s.2.1.length+s.2.2.length=N) (λs=>s.2.2.length) (N,[],m) ⟨rfl,Nat.le_of_eq k2,(Nat.zero_add _).trans k2⟩ ?_ ?_
     ·simp only[go_sem,seval,d,length_nil,nil_append,Nat.zero_add]
     ·rintro⟨h,b,a⟩ ⟨j1,j2,j3⟩;dsimp only at j1 j2 j3;have V:IntKind.wrap .i64 ((b.length:Int)+bs)=((b.length+bs:Nat):Int):=fQ;rcases dN a.length (2*bs)with hq'|hq'
      ·have F:decide (((b.length+2*bs:Nat):Int)<=(N:Int))=false:=iE;rcases dN bs a.length with hqb|hqb
       ·have L:decide (((b.length+bs:Nat):Int)<(N:Int))=true:=iy;have R:nr lt bs h a=BK lt (a.take bs) (a.drop bs):=by
         cases h with
         |zero=>omega
         |succ h=>rw[nr,au ak,aq hqb]
        have t:=LU H lt g cs j e k G a.length b (a.take bs) (a.drop bs) [] b.length (b.length+bs) N (by rw[fZ,iN];omega) (by rw[fZ];omega) (by rw[iN];omega) rfl (by rw[fZ];omega) (by rw[fZ,iN];omega) (by rw[fZ,iN,length_nil];omega);rw[append_nil,append_nil,dz,mj]at t;rw[R]at j1;refine sm (a2 d F) ?_;refine gf.id ?_;refine sg [0] (a5 d V L X j1) t ?_;refine⟨(o,2*bs,nr lt bs N m),⟨k1,by rw[vV];exact k2,by show N<=o+2*bs;omega,by show 0<2*bs;omega,by show 2*bs<=_;omega⟩,?_,by show o<o+1;omega⟩;exact dL d
       ·have L:decide (((b.length+bs:Nat):Int)<(N:Int))=false:=iE;have R:nr lt bs h a=a:=by
         cases h with
         |zero=>rfl
         |succ h=>rw[nr,au ak,au ak]
        rw[R]at j1;refine sm (a2 d F) ?_;refine gf.id ?_;refine sm (a5 d V L X j1) ?_;refine⟨(o,2*bs,nr lt bs N m),⟨k1,by rw[vV];exact k2,by show N<=o+2*bs;omega,by show 0<2*bs;omega,by show 2*bs<=_;omega⟩,?_,by show o<o+1;omega⟩;exact dL d
      ·have F:decide (((b.length+2*bs:Nat):Int)<=(N:Int))=true:=iy;have w5:IntKind.wrap .i64 (((b.length+2*bs:Nat):Int)+((2*bs:Nat):Int))=((b.length+2*bs+2*bs:Nat):Int):=fQ;obtain⟨q,rfl⟩:∃q,h=q+1:=⟨h-1,by omega⟩
       rw[nr,aq hq']at j1;have t:=LU H lt g cs j e k G (2*bs) b (a.take bs) ((a.drop bs).take bs) (a.drop (2*bs)) b.length (b.length+bs) (b.length+2*bs) (by simp only[fZ,iN];omega) (by rw[fZ];omega) (by rw[fZ,iN];omega) rfl (by rw[fZ];omega) (by simp only[fZ,iN];omega) (by simp only[fZ,iN];omega);have e0:b++a.take bs++(a.drop bs).take bs++a.drop (2*bs)=b++a:=by
        rw[show a.drop (2*bs)=(a.drop bs).drop bs by rw[drop_drop];congr 1;omega,dz,dz,mj,mj]
       rw[e0]at t;have E:=C0 lt (a.take bs) ((a.drop bs).take bs);rw[fZ,fZ,iN]at E;obtain⟨Z,M⟩:=aN (BK lt (a.take bs) ((a.drop bs).take bs));rw[<-M]at t E j1;refine sg [0] (a5 d F V W w5) t ?_;refine⟨(q,b++Z,a.drop (2*bs)),⟨by show(b++Z)++_=_;rw[dz];exact j1,by show(a.drop (2*bs)).length<=q;rw[iN];omega,by show(b++Z).length+(a.drop (2*bs)).length=N;rw[cR,iN];omega⟩,?_,by show(a.drop (2*bs)).length<a.length;rw[iN];omega⟩;have p:(b++Z).length=b.length+2*bs:=by rw[cR];omega
       exact dL (a2 d p)
    ·have K:decide ((bs:Int)<(N:Int))=false:=iE;rw[UQ lt f bs m ak]at k1;rw[<-k1];exact dL (a2 d K)
  ·have J:decide (((P.length+20:Nat):Int)<=(N:Int))=true:=iy;have w1:IntKind.wrap .i64 (((P.length+20:Nat):Int)+20)=((P.length+20+20:Nat):Int):=fQ;obtain⟨h,rfl⟩:∃h,n=h+1:=⟨n-1,by omega⟩
   rw[zY,aq hq]at h1;have r:=K3 H lt g cs j e k G P (Q.take 20) (Q.drop 20) P.length (P.length+20) rfl (by rw[fZ];omega) (by rw[fZ,iN];omega);rw[dz P,mj]at r;have u:=yE lt (Q.take 20);rw[fZ]at u;obtain⟨Z,M⟩:=aN (Bb lt (Q.take 20));rw[<-M]at r u h1;refine sg [0] (a3 d J w1) r ?_;have p:(P++Z).length=P.length+20:=by rw[cR];omega
   refine⟨(h,P++Z,Q.drop 20),⟨by show(P++Z)++_=_;rw[dz];exact h1,by show(Q.drop 20).length<=h;rw[iN];omega,by show(P++Z).length+(Q.drop 20).length=N;rw[p,iN];omega⟩,?_,by show(Q.drop 20).length<Q.length;rw[iN];omega⟩;exact dL (a2 d p)
theorem By(lt:A->A->Bool)(g:FuncId)(cs:List D)(b:D.bW cs=[])(a:vv cs=True)(d:∀(o:Nat->Option Nat)(n:Nat->Bool),mB o n cs cs=True)(m:∀x y:A,∃c:Int,Sq g [] (.agg (c0 x)::.agg (c0 y)::cs) [] (.int .i64 c)/\decide (c<0)=lt x y)(l:List A)(k:l.length<2^38) :
  Sq (ρ 139) [.own z (l.map c0)] [.ref 0,.fn g cs] [.own z ((LQ lt l).map c0)] (.bI []):=by
 have h:=NO H lt g cs b a d m l k;have hz1:=H.pos;have f:=H.ne;simp only[Fi,Fj]at f;have i:=H.nv;simp only[H6]at i;have j:=a5 H.sl H.el H.len H.nm (a5 H.tk H.dr H.pT f (a5 i b a d (RF a)));refine QI 9 2 [] (H.r6) mixed func139 λe=>?_;simp only[LD,rnR,Nv,LF,rnK,toList_toArray,map_cons,map_nil,H.t0,H.t3,H.t4,H.tu,jK,Bool.not_true,Bool.not_false,Bool.true_or,Bool.false_or,Bool.and_true,cm,bQ]at e |-;refine sm j ?_;(with_reducible and_intros)<;>first|exact gT.mk (by simp only[e])|exact .dq|omega|exact H.ok _|exact H.pl _|skip
 exact sgx [0] j h
end
structure aK where
 kind:Int
 who:Int
 cur:Int
 cu:Int
deriving DecidableEq
@[reducible] def aK.cells(x:aK):List D:=[.I x.kind,.I x.who,.I x.cur,.I x.cu]
def aK.bq(x:aK):aC:=⟨x.kind,x.who,x.cur⟩
def aK.fB(x:aK):Prop:=iS x.kind/\iS x.who/\iS x.cur/\iS x.cu
def acc(k w c:Nat):List aC:=if aC.right ⟨(k:Int)+1,w,c⟩then[⟨(k:Int)+1,w,c⟩]else[]
def Dk(k w:Nat)(i:Nat):List aC:=(range i).flatMap (acc k w)
def Dl(k:Nat)(i:Nat):List aC:=(range i).flatMap λw=>Dk k w 3
def Gc(i:Nat):List aC:=(range i).flatMap λk=>Dl k 17
def fP:List aC:=Gc 6
def N6(k w i:Nat):(Dk k w i).length<=i:=by
 have:=DD (f:=acc k w) (m:=1) (λc=>by simp only[acc];split<;>simp) i;simpa[Dk]using this
def N8(k i:Nat):(Dl k i).length<=3*i:=DD (λw=>N6 k w 3) i
def N7(i:Nat):(Gc i).length<=51*i:=DD (λk=>N8 k 17) i
def BQ:fP.length<=306:=N7 6
theorem CL:Sq 223 [] [.sl 1 [[.int .i64 1],[.int .i64 2],[.int .i64 3],[.int .i64 4],[.int .i64 5],[.int .i64 6]]] [.own 3 (fP.map aC.cells)] (.ref 0):=by
 obtain⟨e,f⟩:=aN ([1,2,3,4,5,(6:Int)]);have o:e.length=6:=by rw[f];rfl
 have E:([[.I 1],[.I 2],[.I 3],[.I 4],[.I 5],[.I 6]]:List (List D))=ints e:=by rw[f];rfl
 have t:∀i:Nat,i<6->sI e ((i:Int)+1)=true:=λi hi=>by
  rw[f];simp only[sI,any_cons,any_nil,Bool.or_eq_true,ff];omega
 rw[E];clear E f;refine bp 51 1 [.tmp 2] mixed func223 ?_;refine s0 ?_;refine aF.wv 6 [0] [] (λi=>[(4,.I ((i:Int)+1)),(3,.ref 800)]) (λi=>[(800,.own 3 ((Gc i).map aC.cells))]) ?_ ?_ ?_
 ·simp only[go_sem,seval]<;>simp[Gc]
 ·intro k _ G _ _ _;have C:decide ((k:Int)+1<=6)=true:=iy;have r:IntKind.wrap .i64 ((k:Int)+1+1)=((k+1:Nat):Int)+1:=fQ;obtain⟨K,s⟩:=aN ((k:Int)+1);have l:Gc (k+1)=Gc k++Dl k 17:=uC _ k;have hlen:=N7 k;rw[<-s]at C r |-;simp only[go_sem,seval,C,az,o];refine aF.wv 6 [0,3,4] [800] (λj=>[(6,.I j),(5,.bool (sI (e.take j) K))]) (λ_=>[]) ?_ ?_ ?_
  ·simp only[go_sem,seval]<;>simp[sI]
  ·intro j _ F a q _;have h:j<e.length:=ak
   have g:=Cm e K h;have a:decide ((j:Int)<6)=true:=a;cases m:sI (e.take j) K
   ·rw[m,Bool.false_or]at g;simp only[go_sem,seval,az,o,a,ints_at e h,q];refine bg ?_;refine ah.v F ?_;exact dL g
   ·rw[m,Bool.true_or]at g;simp only[go_sem,seval,az,o,a,ints_at e h,q];refine bg ?_;refine ah.v F ?_;exact dL g
  intro _ a _;have a:decide ((6:Int)<6)=false:=a;have L:sI (e.take 6) K=true:=by rw[<-o,eu,s];exact t k G
  rw[L];simp only[go_sem,seval,az,o,a];refine aF.wv 17 [0,4,5] [] (λj=>[(7,.I j),(3,.ref 800)]) (λj=>[(800,.own 3 ((Gc k++Dl k j).map aC.cells))]) ?_ ?_ ?_
  ·simp only[go_sem,seval]<;>simp[Dl]
  ·intro w _ J n x _;have n:decide ((w:Int)<=16)=true:=iy;have u:Dl k (w+1)=Dl k w++Dk k w 3:=uC _ w;have hlw:=N8 k w;refine sm n ?_;refine aF.wv 3 [0,4,5,7] [] (λj=>[(8,.I j),(3,.ref 800)]) (λj=>[(800,.own 3 ((Gc k++Dl k w++Dk k w j).map aC.cells))]) ?_ ?_ ?_
   ·simp only[go_sem,seval]<;>simp[Dk]
   ·intro c _ B b p _;have b:decide ((c:Int)<3)=true:=b;have d:Dk k w (c+1)=Dk k w c++acc k w c:=uC _ c;have hlc:=N6 k w c;have y:=jm ⟨K,w,c⟩;simp only[aC.cells]at y;simp only[acc,<-s]at d;refine sc b y ?_;cases m:aC.right ⟨K,w,c⟩
    ·rw[m]at d;refine sm p ?_;refine ah.v B ?_;exact gY d
    ·rw[m]at d;simp only[go_sem,seval,p,cR];refine bg ?_;refine ah.v B ?_;simp only[go_sem,seval,d]<;>simp[aC.cells]
   ·intro _ b _;have b:decide ((3:Int)<3)=false:=b;refine sm (a2 b x) ?_;refine ah.v J ?_;exact gY u
  ·intro _ _ _;refine sm r ?_;refine ah.v G ?_;simp only[go_sem,seval,l]<;>simp
 ·intro _ _ _;simp only[go_sem,seval,fP]
def sA(x:aK):Bool:=x.bq.right&&bB x.cu
def qF(l:List aK):Bool:=l.all sA
def CM(l:List aK)(hl:l.length<2^40):Sq 272 [] [.sl 4 (l.map aK.cells)] [] (.bool (qF l)):=by
 refine bp 26 1 [.tmp 2] mixed func272 ?_;refine s0 ?_;refine aF.w1 l.length 3 [0] [] (λi _=>qF (l.drop i)=qF l) rfl ?_ ?_
 ·intro i _ f d h a;obtain⟨x,o,g,hli⟩:=oc (c:=aK.cells) l f;have k:=jm x.bq;have m:=fy x.cu;rw[cg f,<-o]at a;have n:sA x=(aC.right ⟨x.kind,x.who,x.cur⟩&&bB x.cu):=rfl;simp only[qF,all_cons,n]at a;simp only[aK.cells]at g;simp only[aC.cells,aK.bq]at k;refine sc (a2 d g) k ?_;cases b:aC.right ⟨x.kind,x.who,x.cur⟩
  ·rw[b]at a;simp only[go_sem,seval,qF,<-a,cZ]
  refine sc g m ?_;cases j:bB x.cu
  ·rw[b,j]at a;simp only[go_sem,seval,qF,<-a,cZ,Bool.and_false]
  rw[b,j,Bool.and_self,cm]at a;refine sm h ?_;refine ah.u f a ?_;exact jq
 ·intro _ e a;rw[jw]at a;simp only[go_sem,seval,e,<-a];rfl
def bR(a b:aC)(n:Int):List aK:=[⟨a.kind,a.who,a.cur,-(if bB n then n else 0)⟩,⟨b.kind,b.who,b.cur,if bB n then n else 0⟩]
def M9(a b:aC)(n:Int):Sq 74 [] [.agg a.cells,.agg b.cells,.int .i64 n] [.own 4 ((bR a b n).map aK.cells)] (.ref 0):=by
 have d:=fy n;have e:bB n=true->IntKind.wrap .i64 (0-n) = -n:=λh=>by have:=aP.1 h;rw[gO ak ak];omega
 simp only[aC.cells];refine bp 18 3 [.tmp 6] mixed func74 ?_;refine sc aS d ?_;cases c:bB n
 ·simp only[go_sem,seval,bR,c]<;>simp;rfl
 ·simp only[go_sem,seval,bR,c,e c]<;>simp
def lI(a b:aC)(n:Int):Sq 74 [] [.agg a.cells,.agg b.cells,.int .i64 n] [] (.sl 4 ((bR a b n).map aK.cells)):=by
 refine Spec.frozen (M9 a b n) [0] rfl ?_;intro r;rcases r with _|r<;>rfl
def pz(x:Int×Nat):List D:=[.int .u64 (x.1/18446744073709551616),.int .u64 (x.1%18446744073709551616),.I x.2]
def Ze:Aj (λt=>if t=141 then 141 else if t=91 then 91 else if t=236 then 236 else t) (λk=>if k=305 then 305 else if k=293 then 293 else if k=264 then 264 else if k=265 then 265 else if k=208 then 208 else if k=139 then 139 else k) aK.cells 4 32 where
 r1:=ya func305 func305
 r2:=ya func293 func293
 r3:=ya func264 func264
 r4:=ya func265 func265
 r5:=ya func208 func208
 r6:=ya func139 func139
 t0:=cQ
 t3:=cQ
 t4:=cQ
 tu:=cQ
 ne:=cQ
 nv:=cQ
 sl:=apR
 el:=afq
 pos:=ak
 len:=λ_=>rfl
 ok:=λx d a=>by simp only[aK.cells,mem_cons,not_mem_nil,or_false]at a;rcases a with rfl|rfl|rfl|rfl<;>simp[go_sem,seval,dK,gl,D.names]
 nm:=λ_=>rfl
 pl:=λx=>by simp only[go_sem,seval,aK.cells]
theorem NL(lt:aK->aK->Bool)(g:FuncId)(b:∀x y:aK,∃c:Int,Sq g [] [.agg (aK.cells x),.agg (aK.cells y)] [] (.int .i64 c)/\decide (c<0)=lt x y)(l:List (aK))(a:l.length<2^38) :
  Sq 139 [.own 4 (l.map aK.cells)] [.ref 0,.fn g []] [.own 4 ((LQ lt l).map aK.cells)] (.bI []):=By Ze lt g [] rfl (eq_true trivial) (λ_ _=>eq_true trivial) b l a
def Zd:Aj (λt=>if t=141 then 47 else if t=91 then 23 else if t=236 then 331 else t) (λk=>if k=305 then 314 else if k=293 then 310 else if k=264 then 299 else if k=265 then 300 else if k=208 then 287 else if k=139 then 255 else k) aY.cells 5 40 where
 r1:=ya func305 func314
 r2:=ya func293 func310
 r3:=ya func264 func299
 r4:=ya func265 func300
 r5:=ya func208 func287
 r6:=ya func139 func255
 t0:=cQ
 t3:=cQ
 t4:=cQ
 tu:=cQ
 ne:=cQ
 nv:=cQ
 sl:=agw
 el:=akz
 pos:=ak
 len:=λ_=>rfl
 ok:=λx d a=>by simp only[aY.cells,mem_cons,not_mem_nil,or_false]at a;rcases a with rfl|rfl|rfl|rfl|rfl<;>simp[go_sem,seval,dK,gl,D.names]
 nm:=λ_=>rfl
 pl:=λx=>by simp only[go_sem,seval,aY.cells]
theorem NK(lt:aY->aY->Bool)(g:FuncId)(cs:List D)(a:D.bW cs=[])(b:vv cs=True)(d:∀(i:Nat->Option Nat)(h:Nat->Bool),mB i h cs cs=True)(f:∀x y:aY,∃c:Int,Sq g [] (.agg (aY.cells x)::.agg (aY.cells y)::cs) [] (.int .i64 c)/\decide (c<0)=lt x y)(l:List (aY))(e:l.length<2^38) :
  Sq 255 [.own 5 (l.map aY.cells)] [.ref 0,.fn g cs] [.own 5 ((LQ lt l).map aY.cells)] (.bI []):=By Zd lt g cs a b d f l e
def Wg:Aj (λt=>if t=141 then 341 else if t=91 then 337 else if t=236 then 344 else t) (λk=>if k=305 then 315 else if k=293 then 311 else if k=264 then 302 else if k=265 then 303 else if k=208 then 291 else if k=139 then 261 else k) pz 3 24 where
 r1:=ya func305 func315
 r2:=ya func293 func311
 r3:=ya func264 func302
 r4:=ya func265 func303
 r5:=ya func208 func291
 r6:=ya func139 func261
 t0:=cQ
 t3:=cQ
 t4:=cQ
 tu:=cQ
 ne:=cQ
 nv:=cQ
 sl:=alY
 el:=afr
 pos:=ak
 len:=λ_=>rfl
 ok:=λx d a=>by simp only[pz,mem_cons,not_mem_nil,or_false]at a;rcases a with rfl|rfl|rfl<;>simp[go_sem,seval,dK,gl,D.names]
 nm:=λ_=>rfl
 pl:=λx=>by simp only[go_sem,seval,pz]
theorem Ka(lt:Int×Nat->Int×Nat->Bool)(g:FuncId)(b:∀x y:Int×Nat,∃c:Int,Sq g [] [.agg (pz x),.agg (pz y)] [] (.int .i64 c)/\decide (c<0)=lt x y)(l:List (Int×Nat))(a:l.length<2^38) :
  Sq 261 [.own 3 (l.map pz)] [.ref 0,.fn g []] [.own 3 ((LQ lt l).map pz)] (.bI []):=By Wg lt g [] rfl (eq_true trivial) (λ_ _=>eq_true trivial) b l a
def gm(x y:Int):Int:=if x<y then -1 else if y<x then 1 else 0
theorem Hl(x:Int):Sq 254 [] [.int .i64 x] [] (.bool false):=by
 refine bp 6 1 [.tmp 2] mixed func254 ?_;simp only[go_sem,seval,bne,beq_self_eq_true,Bool.not_true]
theorem lg(x y:Int):Sq 195 [] [.int .i64 x,.int .i64 y] [] (.int .i64 (gm x y)):=by
 have b:=Hl x;have c:=Hl y;refine bp 20 2 [.tmp 4] mixed func195 ?_;refine sc aS b ?_;refine aG.bC c ?_;simp only[gm];rcases Int.lt_or_le x y with h|h
 ·have d:decide (x<y)=true:=dY h;simp only[go_sem,seval,d,aq h]
 ·have d:decide (x<y)=false:=iE;rw[au ak];rcases Int.lt_or_le y x with h3|h3
  ·have a:decide (y<x)=true:=dY h3;simp only[go_sem,seval,d,a,aq h3]
  ·have a:decide (y<x)=false:=iE;simp only[go_sem,seval,d,a,au (show ¬y<x by omega)]
def ZO:List Int->Int
 | []=>0
 |x::xs=>if x=0 then ZO xs else x
theorem Ov(xs:List Int)(hn:xs.length<2^60):Sq 194 [] [.sl 1 (ints xs)] [] (.int .i64 (ZO xs)):=by
 refine bp 18 1 [.tmp 2] mixed func194 ?_;simp only[go_sem,seval,az];refine aF.w1 xs.length 8 [3,6,7] [128] (λi _=>ZO (xs.drop i)=ZO xs) sT ?_ ?_
 ·intro i _ g e k a;have b:=ints_at xs g;obtain⟨x,h⟩:=aN (xs[i]);have j:ZO (xs.drop i)=if x=0 then ZO (xs.drop (i+1))else x:=by rw[cg g,ZO,h]
  rw[j]at a;rw[<-h]at b;simp only[go_sem,seval,az,e,b];refine bg ?_;cases c:x==0
  ·have d:x≠0:=su c;rw[au d]at a;rw[a]at c;exact dL (a3 gr c a)
  ·have d:x=0:=su c;rw[aq d]at a;refine sm (a3 gr c k) ?_;refine ah.u g a ?_;exact jq
 ·intro _ f a;rw[jw,ZO]at a;simp only[go_sem,seval,az,f,<-a]
theorem tC(x y:Int):Sq 194 [] [.sl 1 [[.int .i64 x],[.int .i64 y]]] [] (.int .i64 (if x=0 then y else x)):=by
 have h:=Ov [x,y] sT;have e:ZO [x,y]=if x=0 then y else x:=by
  simp only[ZO];split<;>try rfl
  split<;>rename_i h<;>simp_all
 rw[e]at h;exact h
def cq(a b:aI):Bool:=decide (a.who<b.who)||(a.who==b.who&&decide (a.cur<b.cur))
def Gq(a:aI)(w c:Int):Int:=if gm a.who w=0 then gm a.cur c else gm a.who w
def Ol(a b:aI):decide (0<=Gq a b.who b.cur) = !cq a b:=by
 rw[nJ,decide_eq_true_iff];simp only[Gq,gm,cq,gD,Bool.or_eq_false_iff,gv,Bool.and_eq_false_iff,beq_eq_false_iff_ne];repeat' split
 all_goals omega
theorem Dw(a:aI)(w c:Int):Sq 110 [] [.agg a.cells,.int .i64 w,.int .i64 c] [] (.int .i64 (Gq a w c)):=by
 have b:=lg a.who w;have d:=lg a.cur c;have e:=tC (gm a.who w) (gm a.cur c);simp only[aI.cells];refine bp 19 3 [.tmp 6] mixed func110 ?_;refine sc aS b ?_;refine sc aS d ?_;refine bg ?_;refine aG.gE [] [] true sT ?_;refine s0 ?_;refine cz.gF e ?_;simp only[go_sem,seval,Gq]
def dh(c:aI):Bool:=(within c.who 1 16&&within c.cur 0 2)&&(within c.cu 1 4611686018427387904&&within c.till 0 1099511627776)
theorem Gt(w c:Int):Sq 109 [] [.int .i64 w,.int .i64 c] [] (.bool (within w 1 16&&within c 0 2)):=by
 refine bp 19 2 [.tmp 4] mixed func109 ?_;refine s0 ?_;repeat' with_reducible first|refine mO (λh=>?_) λh=>?_|simp only[*,go_sem,seval]
 all_goals(simp_all[within];try omega)
def B8(a b:aU):Sq 239 [] [.agg a.cells,.agg b.cells] [] (.bool (decide (a.who<b.who)||(a.who==b.who&&decide (a.cur<b.cur)))):=by
 simp only[aU.cells];refine bp 24 2 [.tmp 4] mixed func239 ?_;refine s0 ?_;repeat' with_reducible first|refine mO (λh=>?_) λh=>?_|simp only[*,go_sem,seval]
 all_goals(simp_all)
theorem Gr(cs:List aI)(hl:cs.length<2^30):Sq 28 [] [.sl 4 (cs.map aI.cells)] [] (.int .i64 (if pY dh cq cs then 0 else 14)):=by
 refine bp 64 1 [.tmp 2] mixed func28 ?_;refine s0 ?_;refine aF.count cs.length [0,5,6] [112] (λi=>[(7,.I i)]) (λi=>[]) (λi=>∀j<i,nL dh cq cs j=true) sT ?_ ?_
 ·exact kG
 intro i hi m;refine s0 ?_;refine bS.fX (λh=>?_) (λh=>?_)
 ·have a:i<cs.length:=ak
  have hw:IntKind.wrap .i64 ((i:Int)+1)=((i+1:Nat):Int):=fQ;have n:=br (c:=aI.cells) cs a;have e0:=qR (i:=i) m;have e1:nL dh cq cs i=false->pY dh cq cs=false:=uV a;have h1:=Gt cs[i].who cs[i].cur;have k:Sq 37 [] [.sl 1 [[.I cs[i].cu]]] [] (.bool (right [cs[i].cu])):=fq [cs[i].cu] sT;rw[sX]at k;have b:(bB cs[i].cu&&!decide (cs[i].cu<1))=within cs[i].cu 1 4611686018427387904:=by rw[nJ];simp[bB,within];omega
  have g:(!decide (cs[i].till<0)&&!decide (1099511627776<cs[i].till))=within cs[i].till 0 1099511627776:=by rw[nJ];simp[within]
  simp only[aI.cells]at n;rcases Nat.eq_zero_or_pos i with rfl|hpos
  ·have hk:=jf (ok:=dh) (lt:=cq) a;simp only[dh,<-b,<-g]at hk;refine sm n ?_;repeat' with_reducible first|apply And.intro|exact .dq|refine aG.bC (by assumption) ?_|(refine aG.gE [] [] true sT ?_;simp only[go_sem,seval];refine cz.gF k ?_)|refine mO (λh=>?_) λh=>?_|refine ah.jE ak ?_ ?_|simp only[*,go_sem,seval]
   all_goals exact Jl
  ·obtain⟨j,rfl⟩:∃j,i=j+1:=⟨i-1,by omega⟩
   have o:j<cs.length:=ak
   have hw1:IntKind.wrap .i64 (((j+1:Nat):Int)-1)=(j:Int):=fQ;have hk:=iG (ok:=dh) (lt:=cq) a;simp only[dh,<-b,<-g]at hk;have f:=br (c:=aI.cells) cs o;have p:=Dw cs[j] cs[j+1].who cs[j+1].cur;have d:=Ol cs[j] cs[j+1];rw[d.symm.trans (by rfl:decide (0<=Gq cs[j] cs[j+1].who cs[j+1].cur)=decide (0<=Gq cs[j] cs[j+1].who cs[j+1].cur))]at d;simp only[aI.cells]at p;have e:cq cs[j] cs[j+1] = !decide (0<=Gq cs[j] cs[j+1].who cs[j+1].cur):=by rw[Ol,Bool.not_not]
   rw[e]at hk;clear d e;simp only[aI.cells]at f;refine sm n ?_;repeat' with_reducible first|apply And.intro|exact .dq|refine aG.bC (by assumption) ?_|(refine aG.gE [] [] true sT ?_;simp only[go_sem,seval];refine cz.gF k ?_)|refine mO (λh=>?_) λh=>?_|refine ah.jE ak ?_ ?_|simp only[*,go_sem,seval,f,qE]
   all_goals exact Jl
 have l:=oS (λj (o:j<cs.length)=>m j ak);clear m;exact dL l
def vl(cs:List aI)(hl:cs.length<2^30):Sq 211 [] [.sl 4 (cs.map aI.cells)] [] (.bool (pY dh cq cs)):=by
 refine bp 56 1 [.tmp 2] mixed func211 ?_;refine s0 ?_;refine aF.count cs.length [0] [] (λi=>[(3,.I i)]) (λi=>[]) (λi=>∀j<i,nL dh cq cs j=true) sT ?_ ?_
 ·exact kG
 intro i hi f;refine s0 ?_;refine bS.fX (λh=>?_) (λh=>?_)
 ·have a:i<cs.length:=ak
  have hw:IntKind.wrap .i64 ((i:Int)+1)=((i+1:Nat):Int):=fQ;have g:=br (c:=aI.cells) cs a;have e0:=qR (i:=i) f;have e1:nL dh cq cs i=false->pY dh cq cs=false:=uV a;have h1:=iY cs[i].who;have h2:=iX cs[i].cur;have h3:=iw cs[i].cu 1 4611686018427387904;have h4:=iw cs[i].till 0 1099511627776;simp only[aI.cells]at g;rcases Nat.eq_zero_or_pos i with rfl|hpos
  ·have hk:=jf (ok:=dh) (lt:=cq) a;simp only[dh]at hk;refine sm g ?_;repeat' with_reducible first|apply And.intro|exact .dq|refine aG.bC (by assumption) ?_|refine mO (λh=>?_) λh=>?_|refine ah.jE ak ?_ ?_|simp only[*,go_sem,seval]
   all_goals exact Jl
  ·obtain⟨j,rfl⟩:∃j,i=j+1:=⟨i-1,by omega⟩
   have l:j<cs.length:=ak
   have hw1:IntKind.wrap .i64 (((j+1:Nat):Int)-1)=(j:Int):=fQ;have hk:=iG (ok:=dh) (lt:=cq) a;simp only[dh]at hk;have d:=br (c:=aI.cells) cs l;have k:=B8 ⟨cs[j].who,cs[j].cur,cs[j].cu⟩ ⟨cs[j+1].who,cs[j+1].cur,cs[j+1].cu⟩;simp only[aU.cells]at k;simp only[cq]at hk;obtain⟨lt,b⟩:=aN ((decide (cs[j].who<cs[j+1].who)||(cs[j].who==cs[j+1].who&&decide (cs[j].cur<cs[j+1].cur))));rw[<-b]at hk k;clear b;simp only[aI.cells]at d;refine sm g ?_;repeat' with_reducible first|apply And.intro|exact .dq|refine aG.bC (by assumption) ?_|refine mO (λh=>?_) λh=>?_|refine ah.jE ak ?_ ?_|simp only[*,go_sem,seval,d,qE]
   all_goals exact Jl
 have e:=oS (λj (l:j<cs.length)=>f j ak);clear f;exact dL e
def rR(s:af):Bool:=within s.now 0 1099511627776&&(within s.day 0 1099511627776&&within s.phase 0 2)
theorem Fx(a b c:Int):Sq 23 [] [.agg [.int .i64 a,.int .i64 b,.int .i64 c]] [] (.bool (within a 0 1099511627776&&(within b 0 1099511627776&&within c 0 2))):=by
 refine bp 31 1 [.tmp 2] mixed func23 ?_;refine s0 ?_;repeat' with_reducible first|refine mO (λh=>?_) λh=>?_|simp only[*,go_sem,seval]
 all_goals(simp_all[within];try omega)
def lS(b:aY):Bool:=qB b.who b.inst&&(within b.src 1 16&&(within b.aO 1 1048576&&within b.aL 1 1073741824))
def J7(b:aY):Sq 30 [] [.agg b.cells] [] (.bool (lS b)):=by
 simp only[aY.cells];refine bp 55 1 [.tmp 2] mixed func30 ?_;refine s0 ?_;repeat' with_reducible first|refine mO (λh=>?_) λh=>?_|simp only[*,go_sem,seval]
 all_goals(simp_all[lS,qB,within];try omega)
def iL(x:bX):Bool:=within x.client 1 8&&within x.seq 1 1099511627776
def fV(a b:bX):Bool:=decide (a.client<b.client)
def bM(s:af):Bool:=rR s&&(s.aj.okB&&(s.book.okB&&(s.bf.okB&&(jB s.ps&&(pY dh cq s.calls&&(qC s&&(!decide (32<(s.aW.length:Int))&&(s.aW.all lS&&pY iL fV s.aT))))))))
theorem rS(s:af)(hs:s.small):Sq 9 [] [.agg s.cells] [] (.int .i64 (if bM s then 0 else 14)):=by
 have f:s.fit:=⟨hs.aj.small,hs.book,hs.bf,hs.ps⟩
 have c1:=Fx s.now s.day s.phase;have c2:=tZ s.aj hs.aj.small;have c3:=tA s.book hs.book;have c4:=u7 s.bf hs.bf;have D:=VK s.ps (by have:=hs.ps;omega);have E:=Gr s.calls hs.calls;have x:=R4 s f hs.calls;have hbl:=hs.aW;have hsl:=hs.aT;clear f;simp only[aA.cells,aH.cells,bu.cells]at c2 c3 c4;simp only[af.cells]at x |-;refine bp 106 1 [.tmp 2] mixed func9 ?_;refine sc aS c1 ?_;cases a:rR s
 ·have e:bM s=false:=by simp[bM,a]
  simp only[rR]at a;exact gY (a2 a e)
 have g:=a;simp only[rR]at g;refine sc g c2 ?_;cases p:s.aj.okB
 ·have e:bM s=false:=by simp[bM,p]
  exact gY e
 refine sc aS c3 ?_;cases q:s.book.okB
 ·have e:bM s=false:=by simp[bM,q]
  exact gY e
 refine sc aS c4 ?_;cases r:s.bf.okB
 ·have e:bM s=false:=by simp[bM,r]
  exact gY e
 refine sc aS D ?_;cases t:jB s.ps
 ·have e:bM s=false:=by simp[bM,t]
  exact gY e
 refine sc aS E ?_;cases v:pY dh cq s.calls
 ·have e:bM s=false:=by simp[bM,v]
  exact gY e
 refine sc aS x ?_;cases w:qC s
 ·have e:bM s=false:=by simp[bM,w]
  exact gY e
 cases l:decide (32<(s.aW.length:Int))
 case true =>
  have e:bM s=false:=by simp[bM,l]
  exact gY (a2 l e)
 have e:bM s=(s.aW.all lS&&pY iL fV s.aT):=by simp only[bM,a,p,q,r,t,v,w,l,cm,Bool.not_false]
 rw[e];clear e c1 c2 c3 c4 D E x a g p q r t v w;refine sm l ?_;refine aF.w1 s.aW.length 55 [1,53,54] [32,880] (λi _=>∀j (C:j<s.aW.length),j<i->lS s.aW[j]=true) (by intros;omega) ?_ ?_
 ·intro i _ n B G d;have k:=br (c:=aY.cells) s.aW n;have F:=J7 s.aW[i];have e0:=oP n d;have e1:lS s.aW[i]=false->(s.aW.all lS&&pY iL fV s.aT)=false:=λh=>by simp[wI n h]
  simp only[aY.cells]at k F;refine sc (a2 B k) F ?_;cases a:lS s.aW[i]
  ·have:=e1 a;exact gY this
  refine sm G ?_;refine ah.u n (e0 a) ?_;exact jq
 intro _ m d;have hA:=sG d;rw[hA,cm];clear d hA;refine sm m ?_;clear m l;refine aF.count s.aT.length [1,64,65] [32,1056] (λi=>[(66,.I i)]) (λi=>[]) (λi=>∀j<i,nL iL fV s.aT j=true) sT ?_ ?_
 ·exact kG
 intro i n d;refine s0 ?_;refine bS.fX (λh=>?_) (λh=>?_)
 ·have b:i<s.aT.length:=ak
  have G:IntKind.wrap .i64 ((i:Int)+1)=((i+1:Nat):Int):=fQ;have k:=br (c:=bX.cells) s.aT b;have e0:=qR (i:=i) d;have e1:nL iL fV s.aT i=false->pY iL fV s.aT=false:=uV b

  simp only[bX.cells]at k;rcases Nat.eq_zero_or_pos i with rfl|hpos
  ·have hk:=jf (ok:=iL) (lt:=fV) b;simp only[iL,fV,within]at hk;refine sm k ?_;repeat' with_reducible first|apply And.intro|exact .dq|refine mO (λh=>?_) λh=>?_|refine ah.jE ak ?_ ?_|simp only[*,go_sem,seval]
   all_goals exact Jl
  ·obtain⟨j,rfl⟩:∃j,i=j+1:=⟨i-1,by omega⟩
   have C:j<s.aT.length:=ak
   have hw1:IntKind.wrap .i64 (((j+1:Nat):Int)-1)=(j:Int):=fQ;have hk:=iG (ok:=iL) (lt:=fV) b;simp only[iL,fV,within]at hk;have o:=br (c:=bX.cells) s.aT C

   simp only[bX.cells]at o;refine sm k ?_;repeat' with_reducible first|apply And.intro|exact .dq|refine mO (λh=>?_) λh=>?_|refine ah.jE ak ?_ ?_|simp only[*,go_sem,seval,o,qE]
   all_goals exact Jl
 have y:=oS (λj (C:j<s.aT.length)=>d j ak);clear d;exact dL y
theorem je(a b c:Int):Sq 181 [] [.int .i64 a,.int .i64 b,.int .i64 c] [] (.bool (within a b c)):=by
 refine bp 15 3 [.tmp 6] mixed func181 ?_;refine s0 ?_;repeat' with_reducible first|refine mO (λh=>?_) λh=>?_|simp only[*,go_sem,seval]
 all_goals(simp only[within];simp<;>omega)
theorem dZ(r:aA)(n:Int)(q:r.small):Sq 154 [] [.agg r.cells,.int .i64 n] [] (.bI [.agg (fm r n).cells,.bool (gw r n)]):=by
 obtain⟨l1,l2,l3⟩:=q;simp only[aA.cells];refine bp 28 2 [.cell 4 51,.tmp 5] mixed func154 ?_;refine s0 ?_;refine aF.w1 r.ms.length 6 [1,2,4] [48,80] (λi _=>∀j (b:j<r.ms.length),j<i->r.ms[j].no≠n) (by intros;omega) ?_ ?_
 ·intro i _ m k s d;have o:=br (c:=av.cells) r.ms m;have hlt:(i:Int)<(r.ms.length:Int):=ak
  simp only[av.cells]at o |-;refine sm (a2 k o) ?_;refine bg ?_;cases p:r.ms[i].no==n
  ·have a:r.ms[i].no≠n:=su p;refine sm s ?_;refine ah.u m ?_ ?_
   ·intro j b hji;rcases dN j i with h|h
    ·exact d j b h
    ·obtain rfl:j=i:=ak
     exact a
   ·exact jq
  ·have a:r.ms[i].no=n:=su p;obtain⟨f,g⟩:=mz (z:=av.zero) m d a;have e:fm r n=r.ms[i]:=f;have e2:gw r n=true:=by simp[gw,g]
   rw[e,e2];refine sm o ?_;exact Si
 ·intro _ l d;obtain⟨f,g⟩:=j7 (z:=av.zero) (λj b=>d j b b);have e:fm r n=av.zero:=f;have e2:gw r n=false:=by simp[gw,g]
  rw[e,e2];simp only[go_sem,seval,l,av.cells,av.zero]
theorem qX(s:af)(n:Int)(b:s.aj.small):Sq 231 [] [.agg s.cells,.int .i64 n] [] (.int .i64 (bD s.aj n)):=by
 have h:=dZ s.aj n b;simp only[bD];obtain⟨g,a⟩:=aN (fm s.aj n);rw[<-a]at h |-;simp only[aA.cells,av.cells]at h;simp only[af.cells];refine bp 16 2 [.tmp 4] mixed func231 ?_;exact sZ aS h
theorem Is(s:af)(n:Int)(b:s.aj.small):Sq 232 [] [.agg s.cells,.int .i64 n] [] (.bool (bJ s.aj n)):=by
 have h:=fF s.aj n b;obtain⟨g,a⟩:=aN (aZ s.aj n);rw[<-a]at h;simp only[aA.cells,aE.cells]at h;simp only[af.cells];refine bp 15 2 [.tmp 4] mixed func232 ?_;exact sZ aS h
def Nc(s:af)(hl:s.aW.length<2^30):Sq 233 [] [.agg s.cells] [] (.bool (!decide (32<(s.aW.length:Int))&&s.aW.all lS)):=by
 simp only[af.cells];refine bp 43 1 [.tmp 2] mixed func233 ?_;refine s0 ?_;refine aF.w1 s.aW.length 3 [1] [32] (λi _=>∀j (hj:j<s.aW.length),j<i->lS s.aW[j]=true) (by intros;omega) ?_ ?_
 ·intro i _ b f w d;have o:=br (c:=aY.cells) s.aW b;have p:=uH s.aW[i].who s.aW[i].inst;have q:=iY s.aW[i].src;have r:=je s.aW[i].aO 1 1048576;have t:=je s.aW[i].aL 1 1073741824;have hli:(i:Int)<(s.aW.length:Int):=ak
  have e0:=oP b d;have a:lS s.aW[i]=false->(!decide (32<(s.aW.length:Int))&&s.aW.all lS)=false:=λh=>by simp[wI b h]
  simp only[lS]at e0 a;simp only[aY.cells]at o;refine sc (a2 f o) p ?_;cases k:qB s.aW[i].who s.aW[i].inst
  ·have:=a (by simp[k]);exact dL this
  refine sc aS q ?_;cases l:within s.aW[i].src 1 16
  ·have:=a (by simp[l]);exact dL this
  refine sc aS r ?_;cases m:within s.aW[i].aO 1 1048576
  ·have:=a (by simp[m]);exact dL this
  refine sc aS t ?_;cases n:within s.aW[i].aL 1 1073741824
  ·have:=a (by simp[n]);exact dL this
  refine sm w ?_;refine ah.u b (e0 (by simp[k,l,m,n])) ?_;exact jq
 ·intro _ g d;have v:=sG d;have e:decide ((s.aW.length:Int)<=32) = !decide (32<(s.aW.length:Int)):=by rw[nJ];simp
  simp only[go_sem,seval,g,v,Bool.and_true,e]
def J1(s:af)(hl:s.aT.length<2^30):Sq 234 [] [.agg s.cells] [] (.bool (pY iL fV s.aT)):=by
 simp only[af.cells];refine bp 43 1 [.tmp 2] mixed func234 ?_;refine s0 ?_;refine aF.count s.aT.length [1] [32] (λi=>[(3,.I i)]) (λi=>[]) (λi=>∀j<i,nL iL fV s.aT j=true) sT ?_ ?_
 ·exact kG
 intro i hi f;refine s0 ?_;refine bS.fX (λh=>?_) (λh=>?_)
 ·have a:i<s.aT.length:=ak
  have hw:IntKind.wrap .i64 ((i:Int)+1)=((i+1:Nat):Int):=fQ;have g:=br (c:=bX.cells) s.aT a;have e0:=qR (i:=i) f;have e1:nL iL fV s.aT i=false->pY iL fV s.aT=false:=uV a;have h1:=je s.aT[i].client 1 8;have h2:=je s.aT[i].seq 1 1099511627776;simp only[bX.cells]at g;rcases Nat.eq_zero_or_pos i with rfl|hpos
  ·have hk:=jf (ok:=iL) (lt:=fV) a;simp only[iL,fV]at hk;refine sm g ?_;repeat' with_reducible first|apply And.intro|exact .dq|refine aG.bC (by assumption) ?_|refine mO (λh=>?_) λh=>?_|refine ah.jE ak ?_ ?_|simp only[*,go_sem,seval]
   all_goals exact Jl
  ·obtain⟨j,rfl⟩:∃j,i=j+1:=⟨i-1,by omega⟩
   have k:j<s.aT.length:=ak
   have hw1:IntKind.wrap .i64 (((j+1:Nat):Int)-1)=(j:Int):=fQ;have hk:=iG (ok:=iL) (lt:=fV) a;simp only[iL,fV]at hk;have d:=br (c:=bX.cells) s.aT k;have b:decide (s.aT[j].client<s.aT[j+1].client) = !decide (s.aT[j+1].client<=s.aT[j].client):=by rw[nJ];simp
   rw[b]at hk;clear b;simp only[bX.cells]at d;refine sm g ?_;repeat' with_reducible first|apply And.intro|exact .dq|refine aG.bC (by assumption) ?_|refine mO (λh=>?_) λh=>?_|refine ah.jE ak ?_ ?_|simp only[*,go_sem,seval,d,qE]
   all_goals exact Jl
 have e:=oS (λj (k:j<s.aT.length)=>f j ak);clear f;exact dL e
theorem Zf{r:aA}(h:r.okB=true)(n:Int):0<=bD r n/\bD r n<=3:=by
 simp only[aA.okB,bQ]at h;have a:=wC h.1.1;unfold bD fm;generalize r.ms=ms at a;induction ms with
 |nil=>simp[jj,av.zero]
 |cons x t ih =>
  simp only[jj];split
  ·have:=a x sT;simp only[av.ok,within,bQ,bz]at this;omega
  ·exact ih λy b=>a y (by simp[b])
def abb{r:aA}(h:r.okB=true)(n:Int):At r n=(!(bD r n==0)&&!(bD r n==3)):=by
 have:=Zf h n;rw[nJ];simp only[At,Bool.or_eq_true,bQ,gD,ff,beq_eq_false_iff_ne];omega
def sv(r:aA)(h:r.jX):Sq 88 [] [.agg r.cells] [] (.agg r.cells):=by
 refine Spec.frozen (rA r h) [0,1,2] rfl ?_;intro r;rcases r with _| _| _|r<;>rfl
def Jc(r:aA)(h:r.jX):Sq 88 [] [.agg r.cells] [.undef,.own 12 (r.ns.map aE.cells)] (.agg [.sl 3 (r.ms.map av.cells),.ref 1,.sl 4 (r.xs.map aD.cells)]):=by
 refine Spec.frozen (rA r h) [0,2] rfl ?_;intro r;rcases r with _| _| _|r<;>rfl
def SZ(r:aA)(h:r.jX):Sq 88 [] [.agg r.cells] [.own 3 (r.ms.map av.cells)] (.agg [.ref 0,.sl 12 (r.ns.map aE.cells),.sl 4 (r.xs.map aD.cells)]):=by
 refine Spec.frozen (rA r h) [1,2] rfl ?_;intro r;rcases r with _| _| _|r<;>rfl
def pQ{B:Type}(f:Nat->List B)(i:Nat):List B:=(range i).flatMap f
def ji{B:Type}(f:Nat->List B)(i:Nat):pQ f (i+1)=pQ f i++f i:=uC f i
def lX{B:Type}{f:Nat->List B}{m:Nat}(h:∀a,(f a).length<=m)(i:Nat):(pQ f i).length<=m*i:=DD h i
theorem mw{B:Type}(f:Nat->List B):pQ f 0=[]:=rfl
def aA.none:aA:=⟨[],[],[]⟩
def mh(r:aA)(w n:Int):Int:=if r.okB then(if av.ok ⟨w,1,n⟩then(if gw r w then 11 else 0)else 3)else 14
def Mf(r:aA)(m:av)(i:Nat):List av:=(if gw r ((i:Int)+1)then[fm r ((i:Int)+1)]else[])++(if(i:Int)+1==m.no then[m]else[])
def nW(r:aA)(w n:Int):aA:=if mh r w n=0 then⟨pQ (Mf r ⟨w,1,n⟩) 16,r.ns,r.xs⟩else .none
def Xg(r:aA)(m:av)(i:Nat):(Mf r m i).length<=2:=by unfold Mf;split<;>split<;>simp
def Nb(r:aA)(w n:Int)(h:r.jX):Sq 65 [] [.agg r.cells,.int .i64 w,.int .i64 n] [.own 3 ((nW r w n).ms.map av.cells)] (.bI [.agg [.ref 0,.sl 12 ((nW r w n).ns.map aE.cells),.sl 4 ((nW r w n).xs.map aD.cells)],.int .i64 (mh r w n)]):=by
 have c1:=ga r h.small;have c2:=y6 ⟨w,1,n⟩;have c3:=λn=>dZ r n h.small;have c4:=sv r h;simp only[aA.cells]at c1 c3 c4 |-;simp only[av.cells]at c2;refine bp 64 3 [.cell 6 30,.tmp 7] mixed func65 ?_;refine sc aS c1 ?_;cases d:r.okB
 ·have e:mh r w n=14:=by simp[mh,d]
  simp only[go_sem,seval,nW,e]<;>simp[aA.none]
 refine sc aS c2 ?_;cases l:av.ok ⟨w,1,n⟩
 ·have e:mh r w n=3:=by simp[mh,d,l]
  simp only[go_sem,seval,nW,e]<;>simp[aA.none]
 have a:=c3 w;obtain⟨g,j⟩:=aN (fm r w);rw[<-j]at a;simp only[av.cells]at a;refine sc aS a ?_;cases f:gw r w
 case true =>
  have e:mh r w n=11:=by simp[mh,d,l,f]
  simp only[go_sem,seval,nW,e,f]<;>simp[aA.none]
 have e:mh r w n=0:=by simp[mh,d,l,f]
 simp only[go_sem,seval,nW,e,f];refine bg ?_;refine aG.bC c4 ?_;clear c1 c2 c4 a j;simp only[go_sem,seval];refine bg ?_;refine aF.wv 16 [1,3,6,8,11] [64,112,144] (λi=>[(12,.int .i64 ((i:Int)+1))]) (λi=>[(192,.box [.ref 992,.sl 12 (r.ns.map aE.cells),.sl 4 (r.xs.map aD.cells)]),(992,.own 3 ((pQ (Mf r ⟨w,1,n⟩) i).map av.cells))]) ?_ ?_ ?_
 ·simp only[go_sem,seval,mw]<;>simp
 ·intro i _ u _ _ _;have o:decide ((i:Int)+1<=16)=true:=iy;have q:IntKind.wrap .i64 ((i:Int)+1+1)=((i+1:Nat):Int)+1:=fQ;have c:=ji (Mf r ⟨w,1,n⟩) i;have x:=lX (Xg r ⟨w,1,n⟩) i;obtain⟨L,m⟩:=aN (pQ (Mf r ⟨w,1,n⟩) i);obtain⟨k,p⟩:=aN ((i:Int)+1);have b:=c3 k;obtain⟨g,j⟩:=aN (fm r k);rw[<-m]at c x |-;simp only[Mf,<-p]at c;rw[<-j]at b c;rw[<-p]at o q |-;simp only[av.cells]at b;clear c3 m;refine sc o b ?_
  cases s:gw r k<;>cases t:k==w<;>(
   simp only[s,t]at c;simp only[go_sem,seval,s,t,q,cR];refine bg ?_;try refine ah.v u ?_
   try simp only[go_sem,seval,c])
  all_goals simp
 ·intro _ _ _;exact kG
def JQ(r:aA)(w n:Int)(h:r.jX):Sq 65 [] [.agg r.cells,.int .i64 w,.int .i64 n] [] (.bI [.agg (nW r w n).cells,.int .i64 (mh r w n)]):=by
 refine Spec.frozen (Nb r w n h) [0] rfl ?_;intro r;rcases r with _|r<;>rfl
def aE.bare(i:aE):aE:={ i with set:=0,aL:=0 }
def rH(r:aA)(i:aE):Int:=if r.okB then(if i.bare.ok then(if bJ r i.no then 11 else 0)else 3)else 14
def JL(r:aA)(m:aE)(i:Nat):List aE:=(if bJ r ((i:Int)+1)then[aZ r ((i:Int)+1)]else[])++(if(i:Int)+1==m.no then[m]else[])
def tP(r:aA)(i:aE):aA:=if rH r i=0 then⟨r.ms,pQ (JL r i.bare) 8,r.xs⟩else .none
def Yj(r:aA)(m:aE)(i:Nat):(JL r m i).length<=2:=by unfold JL;split<;>split<;>simp
def Qi(r:aA)(x:aE)(h:r.jX):Sq 66 [] [.agg r.cells,.agg x.cells] [.own 12 ((tP r x).ns.map aE.cells)] (.bI [.agg [.sl 3 ((tP r x).ms.map av.cells),.ref 0,.sl 4 ((tP r x).xs.map aD.cells)],.int .i64 (rH r x)]):=by
 have c1:=ga r h.small;have c2:=xZ x.bare;have c3:=λn=>fF r n h.small;have c4:=sv r h;simp only[aA.cells]at c1 c3 c4 |-;simp only[aE.cells,aE.bare]at c2;refine bp 62 2 [.cell 4 30,.tmp 5] mixed func66 ?_;simp only[go_sem,seval,aE.cells];refine sc aS c1 ?_;cases j:r.okB
 ·have e:rH r x=14:=by simp[rH,j]
  simp only[go_sem,seval,tP,e]<;>simp[aA.none]
 refine sc aS c2 ?_;cases c:x.bare.ok
 ·have e:rH r x=3:=by simp[rH,j,c]
  simp only[aE.bare]at c;simp only[go_sem,seval,c,tP,e]<;>simp[aA.none]
 have d:=c;simp only[aE.bare]at d;have a:=c3 x.no;obtain⟨g,m⟩:=aN (aZ r x.no);rw[<-m]at a;simp only[aE.cells]at a;refine sc d a ?_;cases l:bJ r x.no
 case true =>
  have e:rH r x=11:=by simp[rH,j,c,l]
  simp only[go_sem,seval,tP,e,l]<;>simp[aA.none]
 have e:rH r x=0:=by simp[rH,j,c,l]
 simp only[go_sem,seval,tP,e,l];refine bg ?_;refine aG.bC c4 ?_;clear c1 c2 c4 a m;simp only[go_sem,seval];refine bg ?_;refine aF.wv 8 [2,3,4,8] [48,64,80] (λi=>[(9,.int .i64 ((i:Int)+1))]) (λi=>[(144,.box [.sl 3 (r.ms.map av.cells),.ref 960,.sl 4 (r.xs.map aD.cells)]),(960,.own 12 ((pQ (JL r x.bare) i).map aE.cells))]) ?_ ?_ ?_
 ·simp only[go_sem,seval,mw]<;>simp
 ·intro i _ w _ _ _;have p:decide ((i:Int)+1<=8)=true:=iy;have s:IntKind.wrap .i64 ((i:Int)+1+1)=((i+1:Nat):Int)+1:=fQ;have f:=ji (JL r x.bare) i;have y:=lX (Yj r x.bare) i;obtain⟨L,o⟩:=aN (pQ (JL r x.bare) i);obtain⟨k,q⟩:=aN ((i:Int)+1);have b:=c3 k;obtain⟨g,m⟩:=aN (aZ r k);rw[<-o]at f y |-;simp only[JL,<-q,aE.bare]at f;rw[<-m]at b f;rw[<-q]at p s |-;simp only[aE.cells]at b;clear c3 o;refine sc p b ?_
  cases t:bJ r k<;>cases u:k==x.no<;>(
   simp only[t,u]at f;simp only[go_sem,seval,t,u,s,cR];refine bg ?_;try refine ah.v w ?_
   try simp only[go_sem,seval,f,aE.bare,aE.cells])
  all_goals simp[aE.cells]
 ·intro _ _ _;exact kG
def Nl(r:aA)(x:aE)(h:r.jX):Sq 66 [] [.agg r.cells,.agg x.cells] [] (.bI [.agg (tP r x).cells,.int .i64 (rH r x)]):=by
 refine Spec.frozen (Qi r x h) [0] rfl ?_;intro r;rcases r with _|r<;>rfl
def sizedB(t:aR):Bool:=within t.aO 1 1048576&&within t.aL 1 1073741824
def BE(r:aA)(t:aR):Int:=if r.okB then(if sizedB t then(if bJ r t.inst&&(gw r t.jH&&gw r t.gK)then(if t.jH==t.gK then 16 else if bD r t.jH==1&&bD r t.gK==1 then 0 else 14)else 10)else 3)else 14
def J4(r:aA)(t:aR)(h:r.jX):Sq 167 [] [.agg r.cells,.agg t.cells] [] (.int .i64 (BE r t)):=by
 have c1:=ga r h.small;have c2:Sq 226 [] [.agg t.cells] [] (.bool (sizedB t)):=vm t;have c3:=fF r t.inst h.small;have c4:=dZ r t.jH h.small;have d:=dZ r t.gK h.small;obtain⟨gi,c⟩:∃g,g=aZ r t.inst:=⟨_,rfl⟩
 obtain⟨i,a⟩:∃g,g=fm r t.jH:=⟨_,rfl⟩
 obtain⟨gs,b⟩:∃g,g=fm r t.gK:=⟨_,rfl⟩
 have e:BE r t=if r.okB then(if sizedB t then(if bJ r t.inst&&(gw r t.jH&&gw r t.gK)then(if t.jH==t.gK then 16 else if i.state==1&&gs.state==1 then 0 else 14)else 10)else 3)else 14:=by rw[a,b];rfl
 rw[e];rw[<-c]at c3;rw[<-a]at c4;rw[<-b]at d;clear e c a b;simp only[aA.cells,aE.cells,av.cells,aR.cells]at *;refine bp 61 2 [.tmp 4] mixed func167 ?_;refine sc aS c1 ?_;cases b1:r.okB
 ·simp only[go_sem,seval]
 refine sc aS c2 ?_;cases b2:sizedB t
 ·simp only[go_sem,seval]
 refine sc aS c3 ?_;refine sc aS c4 ?_;refine sc aS d ?_;clear c1 c2 c3 c4 d;cases f:bJ r t.inst<;>simp only[go_sem,seval,f,cZ,cm]<;>(with_reducible and_intros)<;>first|exact .dq|omega|skip
 cases j:gw r t.jH<;>simp only[go_sem,seval,f,j,cZ,cm]<;>(with_reducible and_intros)<;>first|exact .dq|omega|skip
 cases k:gw r t.gK<;>simp only[go_sem,seval,f,j,k]<;>(with_reducible and_intros)<;>first|exact .dq|omega|skip
 cases l:t.jH==t.gK<;>simp only[go_sem,seval,l]<;>(with_reducible and_intros)<;>first|exact .dq|omega|skip
 cases m:i.state==1<;>simp only[go_sem,seval,bne,m,cZ,cm]<;>(with_reducible and_intros)<;>first|exact .dq|omega|skip
 cases n:gs.state==1<;>simp only[go_sem,seval,bne,n]<;>(with_reducible and_intros)<;>first|exact .dq|omega|skip
def Wt(t:aR)(a:Bool):Int:=if a then -t.aO else t.aO
def j9(t:aR)(a:Bool):List aB:=if sizedB t then[⟨t.jH,t.inst,Wt t a,Wt t a*t.aL⟩,⟨t.gK,t.inst,-Wt t a,-Wt t a*t.aL⟩]else[]
def JV(t:aR)(c:Bool):Sq 230 [] [.agg t.cells,.bool c] [.own 4 ((j9 t c).map aB.cells)] (.ref 0):=by
 have c2:Sq 226 [] [.agg t.cells] [] (.bool (sizedB t)):=vm t;simp only[aR.cells]at *;refine bp 39 2 [.tmp 4] mixed func230 ?_;refine sc aS c2 ?_;cases d:sizedB t
 ·simp only[go_sem,seval,j9,d]<;>simp
 have g:=d;simp only[sizedB,within,bQ,bz]at g;obtain⟨⟨a1,a2⟩,a3,a4⟩:=g;cases c
 ·have i:=fE (a:=t.aO) (b:=t.aL) (A:=1048576) (B:=1073741824) ak ak;have j:=fE (a:=-t.aO) (b:=t.aL) (A:=1048576) (B:=1073741824) ak ak;have w1:IntKind.wrap .i64 (0-t.aO) = -t.aO:=fQ;have e:IntKind.wrap .i64 (t.aO*t.aL)=t.aO*t.aL:=gO ak ak;have f:IntKind.wrap .i64 (-t.aO*t.aL) = -t.aO*t.aL:=gO ak ak;simp only[go_sem,seval,w1,e,f,j9,d,Wt]<;>simp
 ·have i:=fE (a:=-t.aO) (b:=t.aL) (A:=1048576) (B:=1073741824) ak ak;have j:=fE (a:=t.aO) (b:=t.aL) (A:=1048576) (B:=1073741824) ak ak;have w1:IntKind.wrap .i64 (0-t.aO) = -t.aO:=fQ;have k:IntKind.wrap .i64 (0 - -t.aO) = - -t.aO:=fQ;have e:IntKind.wrap .i64 (-t.aO*t.aL) = -t.aO*t.aL:=gO ak ak;have h:- -t.aO=t.aO:=ak
  have f:IntKind.wrap .i64 (- -t.aO*t.aL) = - -t.aO*t.aL:=by rw[h];exact gO ak ak
  simp only[go_sem,seval,w1,k,e,f,j9,d,Wt]<;>simp
def yZ(t:aR)(a:Bool):Sq 230 [] [.agg t.cells,.bool a] [] (.sl 4 ((j9 t a).map aB.cells)):=by
 refine Spec.frozen (JV t a) [0] rfl ?_;intro r;rcases r with _|r<;>rfl
theorem Iz(a b c:Int)(f:iS a)(d:iS (b*c)):Sq 277 [] [.int .i64 a,.int .i64 b,.int .i64 c] [] (.agg (wd (a*(b*c)))):=by
 have e:=qJ a (b*c) f d;have w:IntKind.wrap .i64 (b*c)=b*c:=gO d.1 (by have:=d.2;omega);simp only[wd]at e |-;refine bp 12 3 [.cell 6 226] mixed func277 ?_;exact sZ w e
def fY(p:aB)(m pr:Int):Int:=p.aO*(pr*m) + -p.cost*m
theorem AK(p:aB)(m pr:Int)(h:iS p.aO)(r:bB p.cost=true)(s:0<=m/\m<=1024)(t:0<=pr/\pr<=1073741824):Sq 236 [] [.agg p.cells,.int .i64 m,.int .i64 pr] [] (.bI [.int .i64 (if bB (fY p m pr)then fY p m pr else 0),.bool (bB (fY p m pr))]):=by
 have y:=fE (a:=pr) (b:=m) (A:=1073741824) (B:=1024) ak ak;have hcr:=aP.1 r;have x:0<=pr*m:=Int.mul_nonneg t.1 s.1;have D:=fE (a:=p.aO) (b:=pr*m) (A:=9223372036854775808) (B:=1099511627776) (by have:=h.1;have:=h.2;omega) ak;have E:=fE (a:=-p.cost) (b:=m) (A:=4611686018427387904) (B:=1024) ak ak;have d:=Iz p.aO pr m h ⟨by omega,by omega⟩;have e:=qJ (-p.cost) m ⟨by omega,by omega⟩ ⟨by omega,by omega⟩;have u:vM (p.aO*(pr*m))=true:=by simp only[vM,bQ,bz];omega
 have v:vM (-p.cost*m)=true:=by simp only[vM,bQ,bz];omega
 have c:=oA [p.aO*(pr*m),-p.cost*m] sT (by intro n l;simp only[mem_cons,not_mem_nil,or_false]at l;rcases l with rfl|rfl<;>assumption);have f:ay [p.aO*(pr*m),-p.cost*m]=fY p m pr:=by simp[ay,fY]
 have q:vM (fY p m pr)=true:=by
  have o:fY p m pr=p.aO*(pr*m) + -p.cost*m:=rfl;rw[o];clear o f c e d;simp only[vM,bQ,bz];constructor<;>omega
 rw[f,q,aq rfl]at c;have g:=oz (fY p m pr);have w:IntKind.wrap .i64 (0-p.cost) = -p.cost:=fQ;simp only[vr,wd,map_cons,map_nil]at d e c g;simp only[aB.cells];obtain⟨A,i⟩:=aN (p.aO*(pr*m));obtain⟨B,j⟩:=aN (-p.cost*m);obtain⟨C,k⟩:=aN (fY p m pr);rw[<-i]at d c;rw[<-j]at e c;rw[<-k]at c g |-;clear i j k y x D E u v f q;refine bp 31 3 [.tmp 6,.tmp 7] mixed func236 ?_;refine sc w d ?_;refine sc aS e ?_;refine sl aS c ?_;exact sZ aS g
def qt(w c:Int)(x:aI):Bool:=x.who==w&&x.cur==c
def eW(w c:Int):List aI->Int
 | []=>-1
 |x::r=>if qt w c x then 0 else if eW w c r<0 then -1 else eW w c r+1
theorem En{w c:Int}:∀{xs:List aI} {i:Nat} (h:i<xs.length),(∀j (b:j<xs.length),j<i->qt w c xs[j]=false)->qt w c xs[i]=true->eW w c xs=i
 | [],i,h,_,_=>by simp at h
 |x::r,0,h,_,a=>by
  have a:qt w c x=true:=a;simp[eW,a]
 |x::r,i+1,h,hn,a=>by
  have d:qt w c x=false:=hn 0 sT ak;have e:=En (xs:=r) (i:=i) (su h) (λj b hji=>hn (j+1) (su b) ak) a;simp only[eW,d,e];rw[au sT,au ak];omega
theorem BX{w c:Int}:∀{xs:List aI},(∀j (a:j<xs.length),qt w c xs[j]=false)->eW w c xs = -1
 | [],_=>rfl
 |x::r,hn=>by
  have b:qt w c x=false:=hn 0 sT;have d:=BX (xs:=r) (λj a=>hn (j+1) (su a));simp[eW,b,d]
theorem tB{w c:Int}:∀{xs:List aI},¬eW w c xs<0->∃(i:Nat)(h:i<xs.length),eW w c xs=i/\qt w c xs[i]=true
 | [],h=>by simp[eW]at h
 |t::r,h=>by
  simp only[eW]at h |-;split at h
  ·rename_i a;exact⟨0,by simp,by rw[aq a];rfl,a⟩
  ·rename_i a;split at h
   ·omega
   ·rename_i b;obtain⟨i,hi,e,d⟩:=tB (xs:=r) b;refine⟨i+1,by simp;omega,?_,su d⟩;rw[au a,au b,e];rfl
def qq(w c:Int)(xs:List aI):aI:=xs.getD (eW w c xs).toNat ⟨0,0,0,0⟩
theorem pg(w c:Int)(xs:List aI)(hl:xs.length<2^40):Sq 213 [] [.int .i64 w,.int .i64 c,.sl 4 (xs.map aI.cells)] [] (.int .i64 (eW w c xs)):=by
 refine bp 33 3 [.tmp 6] mixed func213 ?_;refine s0 ?_;refine aF.w1 xs.length 7 [0,1,2] [] (λi _=>∀j (e:j<xs.length),j<i->qt w c xs[j]=false) (by intros;omega) ?_ ?_
 ·intro i _ l d f k;obtain⟨x,q,m,hli⟩:=oc (c:=aI.cells) xs l;have b:=En l k;have a:qt w c xs[i]=false->∀j (e:j<xs.length),j<i+1->qt w c xs[j]=false:=λp j e hji=>by
   rcases dN j i with h|h
   ·exact k j e h
   ·obtain rfl:j=i:=ak
    exact p
  rw[<-q]at b a;simp only[qt]at b a;simp only[aI.cells]at m;cases g:x.who==w
  ·refine sm (a4 d m g f) ?_;refine bg ?_;refine ah.u l (a (by simp[g])) ?_;exact jq
  cases n:x.cur==c
  ·refine sm (a5 d m g n f) ?_;refine bg ?_;refine ah.u l (a (by simp[n])) ?_;exact jq
  simp only[go_sem,seval,d,m,g,n,b (by simp[g,n])];exact Si
 ·intro _ o k;simp only[go_sem,seval,o,BX (λj e=>k j e e)]
def ND(xs:List aI)(x:aI)(w c:Int):List aI:=if x.who==w&&x.cur==c then(if 0<x.cu then[x]else[])else if eW w c xs<0 then[]else[qq w c xs]
def Ed(xs:List aI)(x:aI)(w:Int)(i:Nat):List aI:=pQ (λk=>ND xs x w k) i
def Ee(xs:List aI)(x:aI)(i:Nat):List aI:=pQ (λk=>Ed xs x ((k:Int)+1) 3) i
def QF(xs:List aI)(x:aI)(w c:Int):(ND xs x w c).length<=1:=by
 unfold ND;split
 ·split<;>simp
 ·split<;>simp
def QE(xs:List aI)(x:aI)(w:Int)(i:Nat):(Ed xs x w i).length<=i:=by
 have:=lX (f:=λk=>ND xs x w (k:Nat)) (m:=1) (λk=>QF _ _ _ _) i;simpa[Ed]using this
def QG(xs:List aI)(x:aI)(i:Nat):(Ee xs x i).length<=3*i:=lX (λk=>QE _ _ _ _) i
def SD(xs:List aI)(x:aI)(hl:xs.length<2^30):Sq 214 [] [.sl 4 (xs.map aI.cells),.agg x.cells] [.own 4 ((Ee xs x 16).map aI.cells)] (.ref 0):=by
 have c1:=λw c=>pg w c xs ak;refine bp 51 2 [.tmp 4] mixed func214 ?_;simp only[aI.cells];refine s0 ?_;refine aF.wv 16 [0,3] [64] (λi=>[(6,.I ((i:Int)+1)),(5,.ref 592)]) (λi=>[(592,.own 4 ((Ee xs x i).map aI.cells))]) ?_ ?_ ?_
 ·simp only[go_sem,seval,Ee,mw]<;>simp
 ·intro i _ N _ _ _;obtain⟨w,G⟩:=aN ((i:Int)+1);have M:decide (w<=16)=true:=iy;have D:IntKind.wrap .i64 (w+1)=((i+1:Nat):Int)+1:=fQ;have o:Ee xs x (i+1)=Ee xs x i++Ed xs x w 3:=by rw[G];exact ji _ i
  have C:=QG xs x i;obtain⟨W,F⟩:=aN (Ee xs x i);rw[<-F]at o C |-;rw[<-G];refine sm M ?_;refine aF.wv 3 [0,3,6] [64] (λj=>[(7,.I j),(5,.ref 592)]) (λj=>[(592,.own 4 ((W++Ed xs x w j).map aI.cells))]) ?_ ?_ ?_
  ·simp only[go_sem,seval,Ed,mw]<;>simp
  ·intro c _ p a e _;have a:decide ((c:Int)<3)=true:=a;have s:Ed xs x w (c+1)=Ed xs x w c++ND xs x w c:=ji _ c;have hlc:=QE xs x w c;obtain⟨V,u⟩:=aN (W++Ed xs x w c);have hVl:V.length<=100:=by rw[u,cR];omega
   have b:W++Ed xs x w (c+1)=V++ND xs x w c:=by rw[s,u,dz]
   have c1:=c1 w c;rw[<-u];clear u s F o;simp only[ND]at b;have rest:(x.who==w&&x.cur==(c:Int))=false->∀{Q:Prop},(eW w c xs<0->W++Ed xs x w (c+1)=V->Q)->(∀(k:Nat)(m:k<xs.length),eW w c xs=k->W++Ed xs x w (c+1)=V++[xs[k]]->Q)->Q:=λE Q K L=>by
    by_cases h:eW w c xs<0
    ·rw[E,au sT,aq h,append_nil]at b;exact K h b
    ·obtain⟨k,m,q,_⟩:=tB h;rw[E,au sT,au h]at b;exact L k m q (by rw[b,qq,q];simp[m])
   have g:(w==x.who)=(x.who==w):=by rw[nJ];simp only[ff];exact eq_comm
   cases f:x.who==w
   ·refine rest (by simp[f]) (λh n=>?_) (λk m h n=>?_)
    ·have d:decide (0<=eW w c xs)=false:=iE;refine sc (a5 a g f d e) c1 ?_;refine ah.v p ?_;exact dL n
    ·have r:=br (c:=aI.cells) xs m;have B:(k:Int)<(xs.length:Int):=ak
     simp only[aI.cells]at r;rw[h]at c1;refine sc (a5 a g f e r) c1 ?_;refine bg ?_;refine ah.v p ?_;exact gY n
   cases l:x.cur==(c:Int)
   ·have t:((c:Int)==x.cur)=false:=by rw[<-l,nJ];simp;omega
    refine rest (by simp[l]) (λh n=>?_) (λk m h n=>?_)
    ·have d:decide (0<=eW w c xs)=false:=iE;refine sc (a5 a g f l (a3 t d e)) c1 ?_;refine ah.v p ?_;exact dL n
    ·have r:=br (c:=aI.cells) xs m;have B:(k:Int)<(xs.length:Int):=ak
     simp only[aI.cells]at r;rw[h]at c1;refine sc (a5 a g f l (a3 t e r)) c1 ?_;refine bg ?_;refine ah.v p ?_;exact gY n
   have t:((c:Int)==x.cur)=true:=by rw[<-l,nJ];simp;omega
   have J:(w==x.who)=true:=by rw[<-f,nJ];simp;omega
   by_cases y:0<x.cu
   ·have d:decide (0<x.cu)=true:=dY y;simp only[f,l,Bool.and_self,if_true,aq y]at b;refine sm (a5 a f l t (a3 J d e)) ?_;refine bg ?_;refine ah.v p ?_;exact gY b
   ·have d:decide (0<x.cu)=false:=iA y;simp only[f,l,Bool.and_self,if_true,au y,append_nil]at b;refine sm (a5 a f l t (a3 J d e)) ?_;refine ah.v p ?_;exact dL b
  ·intro _ a _;have a:decide ((3:Int)<3)=false:=a;refine sm (a2 a D) ?_;refine ah.v N ?_;exact dL o
 ·intro _ _ _;exact jq
def EK(xs:List aI)(x:aI)(a:xs.length<2^30):Sq 214 [] [.sl 4 (xs.map aI.cells),.agg x.cells] [] (.sl 4 ((Ee xs x 16).map aI.cells)):=by
 refine Spec.frozen (SD xs x a) [0] rfl ?_;intro r;rcases r with _|r<;>rfl
def aly(z:Nat)(r:List D):Prop:=r.length=z/\(∀d∈r,dK d)/\∀d∈r,xR d=true
structure aok(τ:TypeId->TypeId)(ρ:FuncId->FuncId)(z by_:Nat)(zc:List D)(fo:Func):Prop where
 rn:L9 prog τ ρ 144 3
 t0:τ 0=0
 t3:τ 3=3
 t4:τ 4=4
 pos:1<=z
 big:by_<=1024
 sl:eH prog (τ 26)=.slice z by_ true
 zel:gy prog (τ 26)=some zc
 zc:aly z zc
 o1:prog.funcs[ρ 209]?=some fo
 o2 : (fo.name == "runtime.NumGoroutine") = false
 o3:fo.body.isNone=true
 o4:Extern.findNext fo=none
 o5:Extern.find fo=some (Extern.SlicesOverlaps.overlaps fo.params fo.resultTypes)
 o6:fo.params[0]?=some (τ 26)
 np:(τ 26==Fi||τ 26==Fj)=false
section
variable{τ:TypeId->TypeId}{ρ:FuncId->FuncId}{z by_:Nat}{zc:List D}{fo:Func}(H:aok τ ρ z by_ zc fo)
include H
end
def Spec.TL{P:Program}{f:FuncId}{m ds ds' b:List D}{d:D}(h:Abs.Spec P f m ds b d)(B:mB (λ_=>none) (λ_=>false) ds' ds):Abs.Spec P f m ds' b d:=by
 obtain⟨l,q⟩:=Co B;refine⟨h.1,?_⟩;intro w k p c e vs u g t j E a;refine h.2 w k p c e vs u g t (by rw[j,l]) ?_ a;intro i v y F o;have x:i<ds'.length:=by rw[l];exact(gU.1 o).1
 have n:ds'[i]?=some ds'[i]:=fj x;exact mg.rep (C:=cx w k e) (C':=cx w k e) (λ_ _ h=>h) (by intro s r h;cases h) (by intro s _ h;cases h) (E i v _ F n) (q i _ _ n o)
