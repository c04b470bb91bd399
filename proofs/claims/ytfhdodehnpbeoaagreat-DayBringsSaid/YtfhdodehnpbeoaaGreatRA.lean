/- Parts. -/
import Derived.Test.YtfhdodehnpbeoaaGreatMA
import Derived.Test.YtfhdodehnpbeoaaGreatNA
set_option linter.all false
set_option maxHeartbeats 4000000
set_option maxRecDepth 16000
namespace Go.Proofs.YtfhdodehnpbeoaaGreat
open Go.Abs Tryz
open List hiding max min
def WE{A Z B:List (List D)}{k:Nat}(a:k=A.length)(b:B.length=Z.length):splice (A++Z) k B=A++B:=by
 subst a;unfold splice;rw[take_left,b,<-ct,jJ,append_nil]
def WG{A Z:List (List D)}{q:List D}{k:Nat}(a:k=A.length):splice (A++Z) k [q]=(A++[q])++Z.drop 1:=by
 subst a;unfold splice;rw[take_left,drop_append,drop_eq_nil_of_le sT];simp
def LD:Sq 190 [] [.nil,.fn 180 [],.fn 191 []] [] (.bool true):=by
 refine Abs.Spec.yN (n:=38) (np:=3) (rs:=[.tmp 6]) mixed func190 rfl rfl rfl rfl rfl sT sT ?_;refine s0 ?_;refine⟨Unit,λ_=>[(6,.bool false),(10,.I 0),(11,.I 0)],λ_=>[],λ_=>True,λ_=>0,(),aK,?_,?_⟩
 ·exact iB
 ·intro _ _;simp only[go_sem,seval,Int.lt_irrefl,decide_false]
def Rp:Sq 192 [] [.nil,.fn 193 [],.fn 194 []] [] (.bool true):=by
 refine Abs.Spec.yN (n:=38) (np:=3) (rs:=[.tmp 6]) mixed func192 rfl rfl rfl rfl rfl sT sT ?_;refine s0 ?_;refine⟨Unit,λ_=>[(6,.bool false),(10,.I 0),(11,.I 0)],λ_=>[],λ_=>True,λ_=>0,(),aK,?_,?_⟩
 ·exact iB
 ·intro _ _;simp only[go_sem,seval,Int.lt_irrefl,decide_false]
def VD(xs:List aD)(b:xs.length<2^62):Sq 93 [] [.agg [.nil,.nil,.sl 4 (xs.map aD.cells)]] [] (.I (if mL aD.a aD.ok xs then 0 else 14)):=by
 refine Abs.Spec.yN (n:=19) (np:=1) (rs:=[.tmp 2]) mixed func93 rfl rfl rfl rfl rfl sT sT ?_;refine s0 ?_
 repeat'(with_reducible first
  |apply And.intro
  |exact gY.mk (by kernel_rfl)
  |exact B6.mk (by kernel_rfl)
  |refine az.aP (At _ b) ?_
  |refine az.aP LD ?_
  |refine az.aP Rp ?_
  |refine dh.kB (λh=>?_) (λh=>?_)
  |refine dh.split (λh=>?_) (λh=>?_)
  |refine bK.kB (λh=>?_) (λh=>?_)
  |refine bK.split (λh=>?_) (λh=>?_)
  |refine gK.id ?_
  |simp only[*,go_sem,seval])
 all_goals(simp at h;simp[h])
def acU(P n:Int):Int:=if n<=0 then 0 else if bA (P/n)then P%n else 0
def akh{P n:Int}(hn:0<n)(h:bA (P/n)=true):Le P n=P/n/\acU P n=P%n/\Ld P n=0:=by
 simp[Le,acU,Ld,h,show ¬n<=0 by omega]
def afC{P n:Int}(hn:0<n)(h:bA (P/n)=false):Le P n=0/\acU P n=0/\Ld P n=1:=by
 simp[Le,acU,Ld,h,show ¬n<=0 by omega]
def afD(P:Nat)(n:Int)(hn:0<n/\n<=9223372036854775807)(hP:P<170141183460469231731687303715884105728):Sq 343 [] [.agg [.I ((P/18446744073709551616:Nat):Int),.int .u64 ((P%18446744073709551616:Nat):Int)],.I n] [] (.bD [.I (Le P n),.I (acU P n),.I (Ld P n)]):=by
 obtain⟨N,rfl⟩:∃N:Nat,n=N:=⟨n.toNat,by omega⟩
 obtain⟨H,y⟩:=aL (P/18446744073709551616);obtain⟨L,B⟩:=aL (P%18446744073709551616);have t:0<N:=aj
 have p:H*18446744073709551616+L=P:=aj
 have q:L<18446744073709551616:=aj
 have hHl:H<9223372036854775808:=aj
 rw[<-y,<-B];obtain⟨Q,l⟩:=aL (P/N);obtain⟨R,o⟩:=aL (P%N);have c:(P:Int)/(N:Int)=(Q:Int):=by rw[l];rfl
 have d:(P:Int)%(N:Int)=(R:Int):=by rw[o];rfl
 have hRN:R<N:=by rw[o];exact Nat.mod_lt _ t
 have u:=JO H L N aj;rw[p,<-l,<-o]at u;have e:N<=H->18446744073709551616<=Q:=λh=>by
  rw[l,Nat.le_div_iff_mul_le t];have:=Nat.mul_le_mul_left 18446744073709551616 h;omega
 have c1:decide ((N:Int)<=0)=false:=by simp;omega
 have c2:decide ((H:Int)<0)=false:=by simp
 have c3:IntKind.wrap .u64 (H:Int)=H:=Mul64.wrapN _ aj;have c4:IntKind.wrap .u64 (N:Int)=N:=Mul64.wrapN _ aj;have b:=akh (P:=P) (n:=N) aj;have a:=afC (P:=P) (n:=N) aj;rw[c]at b a;rw[d]at b;clear l o c d;refine Abs.Spec.yN (n:=59) (np:=2) (rs:=[.tmp 4,.tmp 5,.tmp 6]) mixed func343 rfl rfl rfl rfl rfl sT sT ?_;refine sm (a4 c1 c2 c3 c4) ?_
 repeat'(with_reducible first
  |apply And.intro
  |exact gY.mk (by kernel_rfl)
  |exact B6.mk (by kernel_rfl)
  |simp only[go_sem,seval,c1,c2,c3,c4])
 refine bK.split (λh=>?_) (λh=>?_)
 ·refine s0 ?_;have h:=e (by rw[bO]at h;omega);obtain⟨g,i,j⟩:=a (by simp[bA];omega);rw[g,i,j];exact⟨rfl,rfl,rfl⟩
 ·have r:H<N:=by rw[gP]at h;omega
  refine sc (a4 c1 c2 c3 c4) (u r q) ?_;refine bK.split (λs=>?_) (λs=>?_)
  ·refine s0 ?_;obtain⟨g,i,j⟩:=a (by rw[bO]at s;simp[bA];omega);rw[g,i,j];exact⟨rfl,rfl,rfl⟩
  ·rw[gP]at s;have v:IntKind.wrap .i64 (Q:Int)=Q:=wrap64 aj aj;have w:IntKind.wrap .i64 (R:Int)=R:=wrap64 aj aj;refine sm (a2 v w) ?_;first| (refine⟨by decide,?_⟩)|skip
   refine sl aK (eH [(Q:Int)] sT) ?_;have:right [(Q:Int)]=true:=by simp[right,bA];omega
   refine sm this ?_;obtain⟨g,i,j⟩:=b (by simp[bA];omega);rw[g,i,j];exact⟨rfl,rfl,rfl⟩
def Z9(a b c:Int)(g:0<=a/\a<=9223372036854775807)(i:0<=b/\b<=9223372036854775807)(j:0<c/\c<=9223372036854775807):Sq 312 [] [.I a,.I b,.I c] [] (.bD [.I (Le (a*b) c),.I (Ld (a*b) c)]):=by
 have hP:=ahy a b aj aj;have h0:0<=a*b:=Int.mul_nonneg g.1 i.1;obtain⟨P,d⟩:∃P:Nat,a*b=P:=⟨(a*b).toNat,by omega⟩
 have l:=afD P c j aj;have e:=oG a b aj aj;rw[d]at e |-;refine Abs.Spec.yN (n:=22) (np:=3) (rs:=[.tmp 6,.tmp 7]) mixed func312 rfl rfl rfl rfl rfl sT sT ?_;refine sc aK e ?_;exact lX aK l
def Pf(x:aD):mL aD.a aD.ok [x]=x.ok:=by simp[mL,fQ,range_succ]
def WV(x:aD)(u:Int):Sq 262 [] [.agg x.cells,.I u] [] (.bD [.I (x.V u),.I (x.E u)]):=by
 refine Abs.Spec.yN (n:=29) (np:=2) (rs:=[.tmp 4,.tmp 5]) mixed func262 rfl rfl rfl rfl rfl sT sT ?_;simp only[go_sem,seval,aD.cells];first| (refine⟨by decide,?_⟩)|skip
 refine sl aK (VD [x] sT) ?_;cases b:x.ok
 ·have a:x.fit u=false:=by simp[aD.fit,b]
  have e:x.V u=0:=by simp[aD.V,a]
  have e2:x.E u=3:=by simp[aD.E,a]
  simp only[go_sem,seval,Pf,b,e,e2,Int.reduceBNe]
 ·simp only[go_sem,seval,Pf,b,Int.reduceBNe];refine dh.kB (λh=>?_) (λh=>?_)
  ·refine sm h ?_;refine bK.split (λg=>?_) (λg=>?_)
   ·have a:x.fit u=false:=by simp[aD.fit]at g |-;intros;omega
    have e:x.V u=0:=by simp[aD.V,a]
    have e2:x.E u=3:=by simp[aD.E,a]
    exact eo (a2 e e2)
   ·have a:x.fit u=true:=by simp[aD.fit,b]at h g |-;omega
    have e:x.V u=Le (x.P u) 10000:=by simp[aD.V,a]
    have e2:x.E u=Ld (x.P u) 10000:=by simp[aD.E,a]
    have hk:=x.acq.1 b;simp only[gP]at h g;have w1:IntKind.wrap .i64 (10000-x.d)=10000-x.d:=wrap64 aj aj;have hb:0<=u*(10000-x.d)/\u*(10000-x.d)<=10995116277760000:=by
     refine⟨Int.mul_nonneg aj aj,?_⟩;exact Int.le_trans (Int.mul_le_mul (show u<=1099511627776 by omega) (show 10000-x.d<=10000 by omega) aj aj) (by decide)
    have j:IntKind.wrap .i64 (u*(10000-x.d))=u*(10000-x.d):=wrap64 aj aj;have i:=Z9 (u*(10000-x.d)) x.c 10000 aj aj aj;refine sm (a2 w1 j) ?_;refine az.aP i ?_;simp only[go_sem,seval,e,e2,aD.P]
  ·have a:x.fit u=false:=by simp[aD.fit]at h |-;intros;omega
   have e:x.V u=0:=by simp[aD.V,a]
   have e2:x.E u=3:=by simp[aD.E,a]
   exact eo (a3 h e e2)
def afi(l:bu)(r:ay)(ps:List iu)(w c:Int)(T:l.bs.length<2^30)(hr:r.small)(hp:ps.length<2^30) :
  Sq 169 [] [.agg l.cells,.agg r.cells,.sl 3 (pl ps),.I w,.I c] [] (.bD [.I (Ci l r ps w c),.I (CK l r ps w c)]):=by
 have C:=tE l T;have D:=kr r hr;have Q:=OW ps aj;have F:=zh l ⟨2,w,c⟩ aj;have G:=λn=>vM r n hr;simp only[bu.cells,aI.cells]at C F |-;simp only[ay.cells]at D G |-;refine aX 85 5 [.tmp 10,.tmp 11] mixed func169 ?_;refine sc aK C ?_;cases M:l.okB
 ·have e:uN l r ps=14:=by simp[uN,M]
  have p:CK l r ps w c=14:=by simp[CK,e]
  have e2:Ci l r ps w c=0:=by simp[Ci,e]
  exact eo (a2 p e2)
 refine sc aK D ?_;cases O:r.okB
 ·have e:uN l r ps=14:=by simp[uN,O]
  have p:CK l r ps w c=14:=by simp[CK,e]
  have e2:Ci l r ps w c=0:=by simp[Ci,e]
  exact eo (a2 p e2)
 refine sc aK Q ?_;cases P:kf ps
 ·have e:uN l r ps=14:=by simp[uN,P]
  have p:CK l r ps w c=14:=by simp[CK,e]
  have e2:Ci l r ps w c=0:=by simp[Ci,e]
  exact eo (a2 p e2)
 have e:uN l r ps=0:=by simp[uN,M,O,P]
 have p:CK l r ps w c=if iV r w c ps != 0 then iV r w c ps else oF (gw ⟨2,w,c⟩ l.bs::lS r w c ps):=by simp[CK,e]
 have e2:Ci l r ps w c=if iV r w c ps != 0 then 0 else pY (gw ⟨2,w,c⟩ l.bs::lS r w c ps):=by simp[Ci,e]
 rw[p,e2];clear p e2 e;refine s0 ?_;refine az.aP F ?_;obtain⟨o,U⟩:=aL (gw ⟨2,w,c⟩ l.bs);rw[<-U];refine s0 ?_;refine aG.count ps.length [3,4,6,39,40] [112] (λi=>[(41,.I i),(13,.ref 1280)]) (λi=>[(1280,.own 1 (ints (o::lS r w c (ps.take i))))]) (λi=>iV r w c (ps.drop i)=iV r w c ps) sT ?_ ?_
 ·simp only[go_sem,seval]<;>simp[lS,ints]
 ·intro i hi g;refine s0 ?_;refine bK.fP (λh=>?_) (λh=>?_)
  ·have j:i<ps.length:=aj
   have v:IntKind.wrap .i64 ((i:Int)+1)=((i+1:Nat):Int):=fU;have d:=Mh r w c ps j;have J:=G ps[i].bV;have hvl:=Cy r w c (ps.take i);have htl:(ps.take i).length<=ps.length:=by simp;omega
   rw[Qr j]at g;simp only[iV]at g;obtain⟨a,K⟩:=aL (G7 r ps[i]);have L:jS aD.a ps[i].bV ⟨0,0,0,0⟩ r.xs=a:=K.symm;rw[L]at J;rw[<-K]at g d;have u:SZ r w c ps[i]=(decide (0<=lT aD.a ps[i].bV r.xs)&&(ps[i].who==w&&a.b==c)):=by rw[K];rfl
   have R:=WV a ps[i].units;simp only[aD.cells]at J R;clear C D Q F G;simp only[go_sem,seval,oA ps j];refine⟨by omega,az.aP J ?_⟩;cases q:decide (0<=lT aD.a ps[i].bV r.xs)
   ·rw[u,q]at g d;simp only[dU,iI,if_false]at g d;refine sm (a2 q v) ?_;refine ah.eI j g ?_
    simp only[go_sem,seval,d]
   cases t:ps[i].who==w
   ·rw[u,q,t]at g d;simp only[dU,cz,iI,if_false]at g d;refine sm (a4 q dV t v) ?_;refine ah.eI j g ?_
    simp only[go_sem,seval,d]
   cases y:a.b==c
   ·rw[u,q,t,y]at g d;simp only[dU,cz,iI,if_false]at g d;refine sm (a5 q dV t y v) ?_;refine ah.eI j g ?_
    simp only[go_sem,seval,d]
   rw[u,q,t,y]at g d;simp only[cz,Bool.and_self,if_true]at g d;refine sm (a4 q dV t y) ?_;refine az.aP R ?_;cases B:a.E ps[i].units==0
   ·have s:(a.E ps[i].units != 0)=true:=by simp[bne,B]
    rw[s,au rfl]at g;have S:iV r w c ps=a.E ps[i].units:=g.symm;simp only[go_sem,seval,bne,B,S,Bool.not_false,if_true]
   ·have s:(a.E ps[i].units != 0)=false:=by simp[bne,B]
    rw[s]at g;simp only[iI,if_false]at g;simp only[go_sem,seval,bne,B,v,aA];refine⟨by omega,ah.eI j g ?_⟩;simp only[go_sem,seval,d]<;>simp[ints]
  ·obtain rfl:i=ps.length:=aj
   simp only[jJ,iV]at g;have hlen:=Cy r w c ps;have V:=ju (o::lS r w c ps) (by simp;omega);rw[<-g];simp only[go_sem,seval,eU];refine az.iw [] [] true sT ?_;refine s0 ?_;refine dL.ij V ?_;exact jh
def QM(a b:Int):Sq 171 [] [.I a,.I b] [] (.bD [.I (Ai a b),.I (Bq a b)]):=by
 have i:Sq 106 [] [.sl 1 [[.I a],[.I b]]] [] (.bool (right [a,b])):=eH [a,b] sT;have n:right [a,b]=(bA a&&bA b):=by simp[right]
 rw[n]at i;refine aX 20 2 [.tmp 4,.tmp 5] mixed func171 ?_;refine sl aK i ?_;cases c:bA a&&bA b
 ·have e2:Ai a b=0:=by
   simp only[Ai];rw[<-Bool.and_assoc,c];simp
  have d:Bq a b=3:=by simp[Bq,c]
  exact eo (a2 e2 d)
 have hr:(-4611686018427387904<=a/\a<=4611686018427387904)/\(-4611686018427387904<=b/\b<=4611686018427387904):=by
  simp only[cU,bf]at c;exact c
 have l:bA (IntKind.wrap .i64 (a-b))=bA (a-b)/\(bA (a-b)=true->IntKind.wrap .i64 (a-b)=a-b):=by
  by_cases hx:a-b<9223372036854775808
  ·rw[gx aj aj];exact⟨rfl,λ_=>rfl⟩
  ·have g:a-b=9223372036854775808:=aj
   rw[g];exact⟨by decide,λh=>by revert h;decide⟩
 have j:Sq 106 [] [.sl 1 [[.I (IntKind.wrap .i64 (a-b))]]] [] (.bool (right [IntKind.wrap .i64 (a-b)])):=eH [IntKind.wrap .i64 (a-b)] sT;rw[sX,l.1]at j;refine sl aK j ?_;cases e:bA (a-b)
 ·have e2:Ai a b=0:=by simp[Ai,e]
  have d:Bq a b=1:=by simp[Bq,c,e]
  exact eo (a2 e2 d)
 ·have e2:Ai a b=a-b:=by
   simp only[Ai];rw[<-Bool.and_assoc,c,e];simp
  have d:Bq a b=0:=by simp[Bq,c,e]
  simp only[go_sem,seval,e2,d,l.2 e]
def ZE(r:ay)(w c:Int)(qs:List aE):List jk:=if IW r qs=0 then pq r w c qs else[]
def Hz(r:ay)(w c:Int)(qs:List aE)(hr:r.small)(hq:qs.length<2^30):Sq 264 [] [.agg r.cells,.I w,.I c,.sl 4 (qs.map aE.cells)] [.own 13 ((ZE r w c qs).map jk.cells)] (.bD [.ref 0,.I (IW r qs)]):=by
 have G:=kr r hr;have J:=λn=>pX r n hr;simp only[ay.cells]at G J |-;refine aX 66 4 [.tmp 8,.tmp 9] mixed func264 ?_;refine sc aK G ?_;cases F:r.okB
 ·have e:IW r qs=14:=by simp[IW,F]
  have e2:ZE r w c qs=[]:=by simp[ZE,e]
  exact gH (a2 e e2)
 refine s0 ?_;refine aG.wu qs.length [1,2,4,21,22] [80,368] (λi=>[(23,.I i),(11,.ref 1024)]) (λi=>[(1024,.own 13 ((pq r w c (qs.take i)).map jk.cells))]) (λi=>∀j (q:j<qs.length),j<i->vJ qs[j]=true) (by intros;omega) ?_ ?_ ?_
 ·simp only[go_sem,seval]<;>simp[pq]
 ·intro i _ l L b y;have hm:=aM (c:=aE.cells) qs l;have a:=KU r w c qs l;have hlen:=zF r w c (qs.take i);have hlt:(qs.take i).length<=qs.length:=by simp;omega
  have K:=J qs[i].inst;obtain⟨x,hx⟩:=aL (aU r qs[i].inst);have d:vJ qs[i]=false->IW r qs=3:=λB=>by
   have:qs.all vJ=false:=by
    cases O:qs.all vJ
    ·rfl
    ·rw[cg.1 O _ (dH l)]at B;cases B
   simp[IW,F,this]
  have o:vJ qs[i]=true->∀j (q:j<qs.length),j<i+1->vJ qs[j]=true:=λB j q hji=>by
   rcases dN j i with h|h
   ·exact y j q h
   ·obtain rfl:j=i:=aj
    exact B
  simp only[KT,<-hx]at a;rw[<-hx]at K;simp only[aE.cells]at hm;simp only[aF.cells]at K;clear J G y;refine sm (a2 L hm) ?_;refine⟨by omega,?_⟩;cases v:decide (qs[i].aQ < -1099511627776)
  case true =>
   have e:=d (by simp[vJ,v]);have e2:ZE r w c qs=[]:=by simp[ZE,e]
   exact gH (a3 v e e2)
  cases E:decide (1099511627776<qs[i].aQ)
  case true =>
   have e:=d (by simp[vJ,E]);have e2:ZE r w c qs=[]:=by simp[ZE,e]
   exact gH (a4 v E e e2)
  have C:=o (by simp[vJ,v,E]);refine sc (a2 v E) K ?_;cases g:bE r qs[i].inst
  ·simp only[g,dU,iI,if_false]at a;refine sm (a2 g b) ?_;refine ah.u l C ?_;exact eo a
  cases s:qs[i].who==w
  ·simp only[g,s,dU,cz,iI,if_false]at a;refine sm (a3 g s b) ?_;refine ah.u l C ?_;exact eo a
  cases D:x.cur==c
  ·simp only[g,s,D,Bool.and_false,cz,iI,if_false]at a;refine sm (a4 g s D b) ?_;refine ah.u l C ?_;exact eo a
  simp only[g,s,D,Bool.and_self,if_true]at a;refine sm (a4 g s D b) ?_;refine⟨by omega,ah.u l C ?_⟩;exact gH a
 ·intro _ M y;have t:qs.all vJ=true:=cg.2 λp hp=>by
   obtain⟨j,q,rfl⟩:=mem_iff_getElem.1 hp;exact y j q q
  have e:IW r qs=0:=by simp[IW,F,t]
  have e2:ZE r w c qs=pq r w c qs:=by simp[ZE,e]
  simp only[go_sem,seval,M,eU,e,e2]<;>simp
def Tx(r:ay)(w c:Int)(qs:List aE)(hr:r.small)(hq:qs.length<2^30):Sq 263 [] [.agg r.cells,.I w,.I c,.sl 4 (qs.map aE.cells)] [] (.bD [.agg (AA r w c qs),.I (uu r w c qs)]):=by
 have hp:=Hz r w c qs hr hq;simp only[ay.cells]at hp |-;refine aX 77 4 [.cell 8 50,.tmp 9] mixed func263 ?_;refine so aK hp ?_;by_cases t:IW r qs=0
 case neg =>
  have b1:(IW r qs != 0)=true:=su t;have J:uu r w c qs=IW r qs:=by simp[uu,t]
  have e2:AA r w c qs=gA [] 0:=by simp[AA,J,t]
  rw[J,e2,oP];exact eo b1
 have G:=EX (w:=w) (c:=c) t;have X:=zF r w c qs;have J:ZE r w c qs=pq r w c qs:=by simp[ZE,t]
 have e2:uu r w c qs=if mU (pq r w c qs)then 1 else 0:=by simp[uu,t]
 simp only[AA,e2,J];clear J e2;obtain⟨l,hl⟩:=aL (pq r w c qs);rw[<-hl]at G X |-;clear hp hl;have hz:=oP l;refine sm t ?_;refine aG.wu 6 [8,10,11] [144,400] (λi=>[(31,.I i)]) (λi=>[(176,.box (gA l i))]) (λi=>∀j<i,bA (kN l j)=true) (by intros;omega) ?_ ?_ ?_
 ·exact gH hz
 ·intro j _ P C Z T;have C:decide ((j:Int)<6)=true:=C;have s:=XF G j aj;have b:=Hs l P;obtain⟨B,R⟩:=aL (gA l j);have hBl:B.length=6:=by rw[R];rfl
  have o:∀d∈gA l (j+1),mh d=true:=by simp[gA,kJ,mh]
  have a:∀d∈B,mh d=true:=by rw[R];simp[gA,kJ,mh]
  rw[<-R]at b |-;refine sm C ?_;refine aG.wv l.length [8,10,11,13,31,34,35] [144,176,400] (λi=>[(36,.I i),(14,.ref 896)]) (λi=>[(896,.own 2 (sC ((l.take i).map (qF j))))]) ?_ ?_ ?_
  ·simp only[go_sem,seval]<;>simp[sC,iJ a,qt a]
  ·intro i _ n W Y _;have hm:=aM (c:=jk.cells) l n;have F:=G l[i] (dH n);obtain⟨p,M⟩:=aL (l[i]);have E:sC ((l.take (i+1)).map (qF j))=sC ((l.take i).map (qF j))++[wd (qF j p)]:=by
    rw[j7 n,M];simp only[sC,jv,map_cons,map_nil]
   rw[<-M]at hm F;obtain⟨r1,r2⟩:=Ht F j;obtain⟨k1,k2,k3⟩:=F;have hsr:=Fv k1 j;have w1:IntKind.wrap .i64 (0-p.q) = -p.q:=fU;have w2:IntKind.wrap .i64 (-p.q*p.i.mult) = -p.q*p.i.mult:=gx aj aj;have ht:=oG (-p.q*p.i.mult) (p.i.sh j) aj aj;have O:=ahF p P;have L:(sC ((l.take i).map (qF j))).length=i:=by simp[sC];omega
   simp only[jk.cells]at hm O;refine sc (a5 W hm w1 w2 (a3 O Y L)) ht ?_;refine aV ?_;refine ah.v n ?_;simp only[go_sem,seval,E,qF]<;>simp[wd,iJ a,qt a]
  ·intro _ g _;have Q:=zX (l.map (qF j)) (by simp;omega) s.1;have y:=oZ (kN l j);have e:aC (l.map (qF j))=kN l j:=rfl;rw[e,s.2,au rfl,au rfl]at Q;obtain⟨S,U⟩:=aL (kN l j);rw[<-U]at Q y b;have D:bA S=true->∀k<j+1,bA (kN l k)=true:=λhx k hk=>by
    rcases dN k j with h|h
    ·exact T k h
    ·obtain rfl:k=j:=aj
     rw[<-U];exact hx
   have K:bA S=false->mU l=true:=λhx=>by
    simp only[mU,any_eq_true,mem_range];exact⟨j,P,by rw[<-U,hx];rfl⟩
   simp only[wd]at Q y;simp only[go_sem,seval,g,eU];refine sl aK Q ?_;refine az.aP y ?_;cases n:bA S
   ·have V:=K n;simp only[go_sem,seval,n,V,gA,kJ];exact RS
   ·simp only[go_sem,seval]at b;refine sm (a3 n b Z) ?_;refine aV ?_;refine ah.u P (D n) ?_;refine s0 ?_;exact iJ o
 ·intro _ g T;have g:decide ((6:Int)<6)=false:=g;have V:mU l=false:=by
   simp only[mU,any_eq_false,mem_range];intro k hk;simp[T k hk]
  simp only[go_sem,seval,g,V,gA,kJ]
def TE(r:ay)(w c:Int)(qs:List aE)(hr:r.small)(hq:qs.length<2^30):Sq 170 [] [.agg r.cells,.I w,.I c,.sl 4 (qs.map aE.cells)] [] (.bD [.I (uQ r w c qs),.I (xq r w c qs)]):=by
 have hp:=Hz r w c qs hr hq;have R:=Tx r w c qs hr hq;simp only[ay.cells]at hp R |-;refine aX 83 4 [.tmp 8,.tmp 9] mixed func170 ?_;refine sc aK R ?_;by_cases d:uu r w c qs=0
 case neg =>
  have b1:(uu r w c qs != 0)=true:=su d;have K:xq r w c qs=uu r w c qs:=by simp[xq,d]
  have e2:uQ r w c qs=0:=by simp[uQ,d]
  have O:AA r w c qs=gA [] 0:=by simp[AA,d]
  rw[K,e2,O,oP];exact eo b1
 obtain⟨o,e⟩:=OH d;have s:=EX (w:=w) (c:=c) o;have V:=zF r w c qs;have K:ZE r w c qs=pq r w c qs:=by simp[ZE,o]
 have e2:xq r w c qs=if bA (Gy (pq r w c qs))then 0 else 1:=by simp[xq,d]
 have O:uQ r w c qs=if bA (Gy (pq r w c qs))then Gy (pq r w c qs)else 0:=by simp[uQ,d]
 have X:AA r w c qs=[.I (kN (pq r w c qs) 0),.I (kN (pq r w c qs) 1),.I (kN (pq r w c qs) 2),.I (kN (pq r w c qs) 3),.I (kN (pq r w c qs) 4),.I (kN (pq r w c qs) 5)]:=by simp[AA,d,gA,kJ]
 rw[K]at hp;rw[e2,O,X];clear K e2 O X R;obtain⟨l,hl⟩:=aL (pq r w c qs);rw[<-hl]at s V hp e |-;clear hl;have C:=Kz e;obtain⟨L,S⟩:=aL (kN l);obtain⟨T,y⟩:=aL (Gy l);rw[<-y];simp only[Gy]at y;rw[<-S]at C y |-;refine sm d ?_;refine aG.wv 6 [1,2,3,4,32] [80,176] (λi=>[(33,.I i),(12,.I (wC L i))]) (λi=>[]) ?_ ?_ ?_
 ·simp only[go_sem,seval]<;>simp[wC]
 ·intro i _ g a t _;have a:decide ((i:Int)<6)=true:=a;have W:=WA L g;refine sm (a3 a W t) ?_;refine aV ?_;refine ah.v g ?_;simp only[go_sem,seval,wC]
 ·intro _ b _;have b:decide ((6:Int)<6)=false:=b;have U:=Hv (f:=L) 6 C;obtain⟨M,hM⟩:=aL (wC L 6);rw[<-hM]at U y |-;have Y:=HN M aj;simp only[wd]at Y;refine sc b Y ?_;refine so o hp ?_;refine aG.wv l.length [51,52] [784,848] (λi=>[(53,.I i),(15,.ref 1120)]) (λi=>[(1120,.own 2 (sC (M::(l.take i).map CB)))]) ?_ ?_ ?_
  ·simp only[go_sem,seval]<;>simp[sC,wd]
  ·intro i _ g a t _;have hm:=aM (c:=jk.cells) l g;have J:=s l[i] (dH g);obtain⟨p,G⟩:=aL (l[i]);have j:sC (M::(l.take (i+1)).map CB)=sC (M::(l.take i).map CB)++[wd (CB p)]:=by
    rw[j7 g,jv,G];simp only[sC,jv,map_cons,map_nil,cons_append]
   rw[<-G]at hm J;obtain⟨k1,k2,k3⟩:=J;obtain⟨-,g1,g2⟩:=qq k1;have w1:IntKind.wrap .i64 (0-p.q) = -p.q:=fU;obtain⟨x,hx⟩:=aL (max p.q (-p.q));have hxr:-1099511627776<=x/\x<=1099511627776:=aj
   have ht:=oG x p.i.add aj aj;have E:(sC (M::(l.take i).map CB)).length=i+1:=by simp[sC];omega
   have ha:CB p=x*p.i.add:=by rw[hx];rfl
   simp only[jk.cells]at hm;refine sm (a3 a hm w1) ?_;rw[<-hx];refine sc (a2 t E) ht ?_;refine aV ?_;refine ah.v g ?_;simp only[go_sem,seval,j,ha]<;>simp[wd]
  ·intro _ b _;have Z:∀n∈M::l.map CB,-1208925819614629174706176<=n/\n<=1208925819614629174706176:=by
    intro n F;rcases mem_cons.1 F with rfl|F
    ·omega
    ·obtain⟨p,hp,rfl⟩:=mem_map.1 F;exact Jh (s p hp)
   have P:=zX (M::l.map CB) (by simp;omega) (λn F=>Bh (Z n F) aj);have Q:=zV (B:=1208925819614629174706176) Z;rw[<-y]at P Q;simp only[length_cons,qO]at Q;have D:xK T=true:=Bh (B:=1208925819614629174706176*((l.length+1:Nat):Int)) Q aj;have u:=oZ T;rw[D,au rfl,au rfl]at P;simp only[wd]at P u;simp only[go_sem,seval,b,eU];refine sl aK P ?_;exact lX aK u
def Wz(s:af)(w c:Int)(E:s.fit):Sq 70 [] [.agg s.cells,.I w,.I c] [] (.bD [.I (uW s w c),.I (Mt s w c)]):=by
 obtain⟨hr,C,D,hp⟩:=E;have u:=afi s.bp s.ak s.ps w c D hr hp;have y:=oc s.book C;have v:=TE s.ak w c s.book.qs hr C.2;have B:=QM (uQ s.ak w c s.book.qs) (Ci s.bp s.ak s.ps w c);simp only[bu.cells,ay.cells,aJ.cells]at u y v;simp only[af.cells,uW,Mt];obtain⟨p,a⟩:∃x,x=Ci s.bp s.ak s.ps w c:=⟨_,rfl⟩
 obtain⟨n,e⟩:∃x,x=CK s.bp s.ak s.ps w c:=⟨_,rfl⟩
 obtain⟨q,b⟩:∃x,x=uQ s.ak w c s.book.qs:=⟨_,rfl⟩
 obtain⟨o,g⟩:∃x,x=xq s.ak w c s.book.qs:=⟨_,rfl⟩
 rw[<-a,<-e]at u;rw[<-b,<-g]at v;rw[<-b,<-a]at B;rw[<-a,<-e,<-b,<-g];refine aX 53 3 [.tmp 6,.tmp 7] mixed func70 ?_;refine sc aK u ?_;by_cases j:n=0
 case neg =>
  have r:(n==0)=false:=su j;simp only[go_sem,seval,bne,r,aq j]
 have r:(n==0)=true:=su j;simp only[go_sem,seval,r,au j];refine az.aP y ?_;cases b2:s.book.okB
 ·exact iB
 refine sc aK v ?_;by_cases d:o=0
 case neg =>
  have i:(o==0)=false:=su d;simp only[go_sem,seval,bne,i,aq d]
 have i:(o==0)=true:=su d;by_cases l:q<=p
 ·have t:decide (q<=p)=true:=dw l;simp only[go_sem,seval,bne,i,t,au d,au l]
 ·have t:decide (q<=p)=false:=gB l;simp only[go_sem,seval,bne,i,t,au d,aq l];exact lX aK B
def ap3{s:af}{w c:Int}(h:Mt s w c=0):CK s.bp s.ak s.ps w c=0/\s.book.okB=true/\xq s.ak w c s.book.qs=0 /\
  uW s w c=max (uQ s.ak w c s.book.qs-Ci s.bp s.ak s.ps w c) 0/\IntKind.wrap .i64 (uQ s.ak w c s.book.qs-Ci s.bp s.ak s.ps w c)=uQ s.ak w c s.book.qs-Ci s.bp s.ak s.ps w c:=by
 by_cases a:CK s.bp s.ak s.ps w c=0
 case neg=>simp only[Mt,aq a]at h;exact(a h).elim
 cases d:s.book.okB
 case false=>simp only[Mt,au a,d]at h;cases h
 by_cases b:xq s.ak w c s.book.qs=0
 case neg=>simp only[Mt,au a,d,if_true,aq b]at h;exact(b h).elim
 obtain⟨-,-,-,r1⟩:=ahn a;have i1:=bf.1 r1;have i2:=bf.1 (zl s.ak w c s.book.qs);simp only[Mt,uW,au a,d,if_true,au b]at h |-;refine⟨a,aK,b,?_⟩;by_cases e:uQ s.ak w c s.book.qs<=Ci s.bp s.ak s.ps w c
 ·simp only[au e];exact⟨by omega,gx aj aj⟩
 ·simp only[aq e,Bq,r1,zl]at h;cases g:bA (uQ s.ak w c s.book.qs-Ci s.bp s.ak s.ps w c)
  ·rw[g]at h;simp at h
  ·have i3:=bf.1 g;simp only[aq e,Ai,r1,zl,g];exact⟨by simp;omega,gx aj aj⟩
section
variable{τ:TypeId->TypeId}{ρ:FuncId->FuncId}{z by_:Nat}{zc:List D}{fo:Func}(H:ah3 τ ρ z by_ zc fo)
include H
def abK(R:List (List D))(q:List D)(d:R.length<2^30) :
  Sq (ρ 268) [.own z R,.own z [q]] [.ref 0,.I R.length,.ref 1] [.undef,.undef,.own z (R++[q])] (.ref 2):=by
 have c:=H.big;have hz:=H.pos;have hm:(by_+1)*(R.length+1)<=2^45:=Nat.le_trans (Nat.mul_le_mul (Nat.succ_le_succ c) (Nat.succ_le_of_lt (Nat.lt_of_lt_of_le (Nat.lt_succ_self _) d))) (by decide);have a:=H.np;simp only[E7,E9]at a;refine Iv 95 3 [.tmp 6] (H.rn) mixed func268 λb=>?_;simp only[IY,ZX,GV,IZ,ZW,toList_toArray,map_cons,map_nil,H.t0,H.t3,H.t4,je,Bool.not_true,Bool.not_false,Bool.true_or,Bool.false_or,Bool.and_true,cz,cU]at b |-;simp only[go_sem,seval,H.sl,Nat.zero_mul,a];exact⟨by omega,by omega,su hm⟩
def abL(R:List (List D))(q:List D)(i:Nat)(hl:R.length<2^30)(hi:i<R.length)(O:∀r∈R,De z r)(hq:De z q) :
  Sq (ρ 268) [.own z R,.own z [q]] [.ref 0,.I i,.ref 1] [.undef,.undef,.own z (R.take i++[q]++R.drop i)] (.ref 2):=by
 have L:∀r∈R,r.length=z:=λr hr=>(O r hr).1;have hp:∀r∈R,∀d∈r,cE d:=λr hr=>(O r hr).2.1;have aa:∀r∈R,∀d∈r,mh d=true:=λr hr=>(O r hr).2.2;have C:∀r∈R.take i++[q]++R.drop i,De z r:=λr hr=>by
  rw[mem_append,mem_append,iD]at hr;rcases hr with(hr|rfl)|hr
  ·exact O r (mem_of_mem_take hr)
  ·exact hq
  ·exact O r (mem_of_mem_drop hr)
 have hb:=H.big;obtain⟨af,ag,_⟩:=H.zc;have hz1:=H.pos;have a:=H.np;simp only[E7,E9]at a;refine Spec.aco (hr:=[.own z [q]]) (ds:=[.I i,.ref 1]) (by intro h;rw[h]at hi;simp at hi) (λr hr=>(C r hr).1) (λr hr=>(C r hr).2.1) ?_ ?_ ?_
 ·intro d hd;simp only[mem_cons,not_mem_nil,or_false]at hd;rcases hd with rfl|rfl<;>simp[D.names]
 ·intro h hh;simp only[mem_cons,not_mem_nil,or_false]at hh;exact⟨_,_,hh⟩
 intro cap g;have j:(jK R cap z).length=cap*z:=uZ L g;have ab:((i:Int)==(R.length:Int))=false:=by simp;omega
 have hw:IntKind.wrap .i64 ((R.length:Int)+1)=((R.length+1:Nat):Int):=fU;have y:IntKind.wrap .i64 ((i:Int)+1)=((i+1:Nat):Int):=fU;have ae:IntKind.wrap .i64 (((R.length+1:Nat):Int)-i)=((R.length+1-i:Nat):Int):=fU;have S:ni (i*z) z (R.length-i) (.box (jK R cap z))=.sl z (R.drop i):=NN L hp aj g;have o:(R.take i).length=i:=by rw[gh];omega
 have U:(R.drop i).length=R.length-i:=iC;have ad:ni 0 z i (.box (jK R cap z))=.sl z (R.take i):=by
  have:=Xf (z:=z) (off:=0) (cs:=jK R cap z) (R:=R.take i) (by rw[drop_zero,o,Dk L aj]) (λr hr=>L r (mem_of_mem_take hr)) (λr hr=>hp r (mem_of_mem_take hr)) (by rw[o,j,Nat.zero_add];exact pH z aj);rw[o]at this;exact this
 have T:(R.drop i).flatten.length=(R.length-i)*z:=by rw[oO λr hr=>L r (mem_of_mem_drop hr),U]
 have m1:(i+1)*z+(R.length-i)*z=(R.length+1)*z:=by rw[<-Nat.add_mul];congr 1;omega
 have m2:i*z+z=(i+1)*z:=by rw[Nat.add_mul,Nat.one_mul]
 by_cases W:R.length+1<=cap
 ·left;have m3:(R.length+1)*z<=cap*z:=pH z W;have m4:(i+1)*z<=cap*z:=pH z aj;obtain⟨K,t⟩:∃X,X=kI (jK R cap z) ((i+1)*z) (R.drop i).flatten:=⟨_,rfl⟩
  obtain⟨Y2,w⟩:∃X,X=kI K (i*z) ([q]:List (List D)).flatten:=⟨_,rfl⟩
  have s:K.length=cap*z:=by rw[t,lI (by rw[j,T,m1];exact m3),j]
  have J:([q]:List (List D)).flatten.length=z:=by simp[hq.1]
  have P:Y2.length=cap*z:=by rw[w,lI (by rw[s,J,m2];exact m4),s]
  have G:∀d∈Y2,mh d=true:=by
   rw[w,t];exact Cz (Cz (Jp aa) (B8 λr hr=>aa r (mem_of_mem_drop hr))) (B8 λr hr=>by rw[iD.1 hr];exact hq.2.2)
  refine⟨Y2,?_,P,?_,?_⟩
  ·simp;omega
  ·have e0:(R.take i++[q]++R.drop i).length*z=(i+1)*z+(R.drop i).flatten.length:=by
    rw[T,m1];congr 1;simp;omega
   have e1:(R.take i++[q]++R.drop i).flatten=(R.take i).flatten++([q]:List (List D)).flatten++(R.drop i).flatten:=by simp
   have e2:K.take (i*z)=(R.take i).flatten:=by
    rw[t,FE aj (by rw[j];exact m4),Dk L aj]
   have e3:K.take ((i+1)*z+(R.drop i).flatten.length)=(jK R cap z).take ((i+1)*z)++(R.drop i).flatten:=by
    rw[t,BX (by rw[j];exact m4)]
   rw[e0,e1,w];unfold kI;have Y:(K.take (i*z)++([q]:List (List D)).flatten).length=(i+1)*z:=by rw[ct,J,gh,s];omega
   rw[take_append,take_of_length_le (by rw[Y];omega),Y,J,e2];congr 1;rw[m2,Nat.add_sub_cancel_left];have:=congrArg (drop ((i+1)*z)) e3;have hX:((jK R cap z).take ((i+1)*z)).length=(i+1)*z:=by rw[gh,j];omega
   rw[drop_take,Nat.add_sub_cancel_left,drop_append_of_le_length aj]at this;have ac:((jK R cap z).take ((i+1)*z)).drop ((i+1)*z)=[]:=drop_eq_nil_of_le aj;rw[ac,nil_append]at this;exact this
  ·show Sq (ρ 268) [.box (jK R cap z),.own z [q]] [.dZ 0 0 z R.length cap,.I i,.ref 1] [.box Y2,.undef] (.dZ 0 0 z (R.take i++[q]++R.drop i).length cap);refine Iv 95 3 [.tmp 6] (H.rn) mixed func268 λu=>?_;simp only[IY,ZX,GV,IZ,ZW,toList_toArray,map_cons,map_nil,H.t0,H.t3,H.t4,je,Bool.not_true,Bool.not_false,Bool.true_or,Bool.false_or,Bool.and_true,cz,cU]at u |-;simp only[go_sem,seval,H.sl,Nat.zero_mul,a,ab,hw];refine⟨⟨by omega,g⟩,?_⟩;with_reducible refine fG.cap (r:=0) (off:=0) (l:=R.length) (c:=cap) H.sl ?_ ?_ ?_
   ·rfl
   ·omega
   simp only[go_sem,seval,H.sl,Nat.zero_mul,a];refine bK.fP (λh=>?_) (λh=>?_)
   ·exfalso;omega
   simp only[go_sem,seval,H.sl,Nat.zero_mul,a,hw,y];refine⟨by omega,by omega,?_⟩;refine az.sem rfl ?_;with_reducible refine fG.overlaps (k:=ρ 313) (fn:=fo) (z:=z) (r2:=1) (z2:=z) (rows:=[q]) (r:=0) (off:=(i+1)*z) (l:=R.length-i) (c:=cap-(i+1)) (cs:=jK R cap z) ?_ H.o1 H.o2 H.o3 H.o4 H.o5 H.o6 H.sl ?_ ?_ ?_ ?_ ?_ ?_
   iterate 6 (first|rfl|omega)
   simp only[go_sem,seval,H.sl,Nat.zero_mul,a,y];refine⟨gY.mk (by simp only[u]),B6.mk (by kernel_rfl),⟨by omega,by omega⟩,B6.mk (by kernel_rfl),⟨by omega,by omega⟩,?_⟩;have v:min (R.length+1-i) (R.length-i)=R.length-i:=aj
   with_reducible refine fG.Qi (z:=z) (r:=0) (off:=(i+1)*z) (l:=R.length-i) (c:=cap-0-(i+1)) (ly:=R.length+1-i) (cs:=jK R cap z) (rows:=R.drop i) H.sl ?_ ?_ ?_ ?_ ?_ ?_
   ·rfl
   ·rfl
   ·show _=z/\_=_/\_<=_/\mM z (eg _ (ni (i*z) z (min (R.length+1-i) (R.length-i)) (.box (jK R cap z))))=some _;rw[v,S];exact⟨rfl,rfl,by omega,by simp[mM,eg]⟩
   ·omega
   ·rw[v,j,m1];exact m3
   rw[<-t,v];simp only[go_sem,seval,H.sl,Nat.zero_mul,a];refine⟨⟨by omega,by omega⟩,?_⟩;have n:min 1 (R.length+1-i)=1:=aj
   with_reducible refine fG.Qi (z:=z) (r:=0) (off:=i*z) (l:=R.length+1-i) (c:=cap-0-i) (ly:=1) (cs:=K) (rows:=[q]) H.sl ?_ ?_ ?_ ?_ ?_ ?_
   ·rfl
   ·rfl
   ·refine⟨[q],show(if z=z then some [q]else none)=some [q]from au rfl,rfl,by omega,?_⟩;rw[n];rfl
   ·omega
   ·rw[n,s,Nat.one_mul,m2];exact m4
   rw[<-w,n];simp only[go_sem,seval,H.sl,Nat.zero_mul,a];exact⟨⟨by simp;omega,rfl⟩,iJ G⟩
 ·right;have m5:(by_+1)*(R.length+1)<=2^45:=Nat.le_trans (Nat.mul_le_mul (Nat.succ_le_succ hb) (Nat.succ_le_of_lt (Nat.lt_of_lt_of_le (Nat.lt_succ_self _) hl))) (by decide);show Sq (ρ 268) [.box (jK R cap z),.own z [q]] [.dZ 0 0 z R.length cap,.I i,.ref 1] [.undef,.undef,.own z (R.take i++[q]++R.drop i)] (.ref 2);refine Iv 95 3 [.tmp 6] (H.rn) mixed func268 λu=>?_;simp only[IY,ZX,GV,IZ,ZW,toList_toArray,map_cons,map_nil,H.t0,H.t3,H.t4,je,Bool.not_true,Bool.not_false,Bool.true_or,Bool.false_or,Bool.and_true,cz,cU]at u |-;simp only[go_sem,seval,H.sl,Nat.zero_mul,a,ab,hw];refine⟨⟨by omega,g⟩,?_⟩;with_reducible refine fG.cap (r:=0) (off:=0) (l:=R.length) (c:=cap) H.sl ?_ ?_ ?_
  ·rfl
  ·omega
  simp only[go_sem,seval,H.sl,Nat.zero_mul,a];refine bK.fP (λh=>?_) (λh=>?_)
  ·simp only[go_sem,seval,H.sl,Nat.zero_mul,a,hw,y,ae];refine⟨by omega,?_⟩;with_reducible refine fG.aa5 (k:=.i64) (k2:=.i64) (m:=R.length+1-i) (r:=0) (off:=0) (l:=i) (c:=cap) (rows:=R.take i) (zc:=zc) H.sl ty3 ?_ ?_ H.zel af ag ?_ ?_ ?_ ?_ ?_ ?_ ?_ ?_ ?_
   ·rfl
   ·rfl
   ·omega
   ·omega
   ·omega
   ·omega
   ·show eg _ (ni 0 z i (.box (jK R cap z)))=_;rw[ad];rfl
   ·exact o
   ·rw[show i+(R.length+1-i)=R.length+1 by omega];exact m5
   ·rfl
   obtain⟨Z,hZ⟩:∃X,X=replicate (R.length+1-i) zc:=⟨_,rfl⟩
   have Q:Z.length=R.length+1-i:=by rw[hZ];simp
   obtain⟨O1,E⟩:∃X,X=R.take i++Z:=⟨_,rfl⟩
   have p:O1.length=R.length+1:=by rw[E,ct,o,Q];omega
   obtain⟨O2,F⟩:∃X,X=splice O1 i [q]:=⟨_,rfl⟩
   have B:O2.length=R.length+1:=by rw[F,DX (by rw[p];show i+1<=_;omega),p]
   obtain⟨O3,M⟩:∃X,X=splice O2 (i+1) (R.drop i):=⟨_,rfl⟩
   have V:O3=R.take i++[q]++R.drop i:=by
    have h2:O2=(R.take i++[q])++Z.drop 1:=by rw[F,E];exact WG o.symm
    rw[M,h2,WE (by rw[ct,o];rfl) (by rw[U,iC,Q];omega)]
   rw[<-hZ,<-E];simp only[go_sem,seval,H.sl,Nat.zero_mul,a,p];refine⟨⟨by omega,by omega⟩,?_⟩;have b:min 1 (R.length+1-i)=1:=aj
   with_reducible refine fG.Xj (z:=z) (r:=656) (lo:=i) (len:=R.length+1-i) (ly:=1) (R:=O1) (rows:=[q]) H.sl ?_ ?_ ?_ ?_ ?_ ?_ ?_
   ·rfl
   ·rfl
   ·refine⟨[q],show(if z=z then some [q]else none)=some [q]from au rfl,rfl,by omega,?_⟩;rw[b];rfl
   ·omega
   ·rw[b,p];omega
   ·rw[b];omega
   rw[<-F,b];simp only[go_sem,seval,H.sl,Nat.zero_mul,a,B,y];refine⟨gY.mk (by simp only[u]),B6.mk (by kernel_rfl),⟨by omega,by omega⟩,B6.mk (by kernel_rfl),⟨by omega,g⟩,?_⟩;have e:min (R.length-i) (R.length-i)=R.length-i:=aj
   with_reducible refine fG.Xj (z:=z) (r:=656) (lo:=i+1) (len:=R.length-i) (ly:=R.length-i) (R:=O2) (rows:=R.drop i) H.sl ?_ ?_ ?_ ?_ ?_ ?_ ?_
   ·rfl
   ·rfl
   ·show _=z/\_=_/\_<=_/\mM z (eg _ (ni (i*z) z (min (R.length-i) (R.length-i)) (.box (jK R cap z))))=some _;rw[e,S];exact⟨rfl,rfl,by omega,by simp[mM,eg]⟩
   ·omega
   ·rw[e,B];omega
   ·rw[e];omega
   rw[<-M,e,V];simp only[go_sem,seval,H.sl,Nat.zero_mul,a]
  ·exfalso;omega
def Y6(R:List (List D))(q:List D)(i:Nat)(a:R.length<2^30)(hi:i<=R.length)(b:∀r∈R,De z r)(c:De z q) :
  Sq (ρ 268) [.own z R,.own z [q]] [.ref 0,.I i,.ref 1] [.undef,.undef,.own z (R.take i++[q]++R.drop i)] (.ref 2):=by
 rcases dN i R.length with h|h
 ·exact abL H R q i a h b c
 ·obtain rfl:i=R.length:=aj
  have:=abK H R q a;rw[eU,jJ,append_nil];exact this
end
def vN(x:aB):De 4 x.cells:=⟨rfl,λd a=>by simp only[aB.cells,mem_cons,not_mem_nil,or_false]at a;rcases a with rfl|rfl|rfl|rfl<;>simp[go_sem,seval,cE,gM,D.names],λd a=>by simp only[aB.cells,mem_cons,not_mem_nil,or_false]at a;rcases a with rfl|rfl|rfl|rfl<;>rfl⟩
theorem abM:ah3 (λt=>if t=38 then 38 else t) (λk=>if k=268 then 268 else if k=313 then 313 else if k=314 then 314 else k) 4 32 (aB.cells ⟨0,0,0,0⟩) Tryz.f313 where
 rn:=tZ func268 func268
 t0:=cY
 t3:=cY
 t4:=cY
 np:=cY
 pos:=aj
 big:=aj
 sl:=akH
 zel:=ahQ
 zc:=vN _
 o1:=func313
 o2:=cY
 o3:=cY
 o4:=cY
 o5:=cY
 o6:=cY
def Qt(xs:List aB)(x:aB)(i:Nat)(b:xs.length<2^30)(a:i<=xs.length):Sq 268 [.own 4 (xs.map aB.cells),.own 4 [x.cells]] [.ref 0,.I i,.ref 1] [.undef,.undef,.own 4 ((xs.take i++[x]++xs.drop i).map aB.cells)] (.ref 2):=by
 have:=Y6 abM (xs.map aB.cells) x.cells i (su b) (su a) (λr hr=>by obtain⟨y,_,rfl⟩:=mem_map.1 hr;exact vN y) (vN x);rw[show(xs.take i++[x]++xs.drop i).map aB.cells=(xs.map aB.cells).take i++[x.cells]++(xs.map aB.cells).drop i by simp];exact this
section
variable{A:Type}{no:A->Int}{z m:A}{xs:List A}{N:Nat}{f:Nat->List A}(hp:xs.Pairwise λa b=>no a<no b)(hx:∀x∈xs,1<=no x/\no x<=N)(hm:1<=no m/\no m<=N)
 (hf:∀i:Nat,i<N->f i=if(i:Int)+1=no m then[m]else if decide (0<=lT no ((i:Int)+1) xs)=true then[jS no ((i:Int)+1) z xs]else[]) {k:Nat}
include hp hx hm hf
end
def putAt{A:Type}(no:A->Int)(n:Int)(xs:List A):Nat:=(xs.takeWhile λx=>decide (no x<n)).length
theorem K5{A:Type}{no:A->Int}{n:Int}{xs:List A}(hp:xs.Pairwise λa b=>no a<no b):putAt no n xs<=xs.length/\(∀i (h:i<xs.length),i<putAt no n xs->no xs[i]<n)/\∀i (h:i<xs.length),putAt no n xs<=i->n<=no xs[i]:=by
 induction xs with
 |nil=>exact⟨by simp[putAt],by simp,by simp⟩
 |cons x r ih =>
  obtain⟨j,l⟩:=jR.1 hp;obtain⟨d,e,g⟩:=ih l;unfold putAt at *;cases q:decide (no x<n)
  ·rw[takeWhile_cons_of_neg (by simp[q])];refine⟨by simp,λi h c=>by simp at c,λi h _=>?_⟩;simp only[gP]at q;cases i with
   |zero=>simp;omega
   |succ i=>have:=j (r[i]'(su h)) (dH _);simp;omega
  ·rw[takeWhile_cons_of_pos (su q)];simp only[bO]at q;refine⟨su d,λi h c=>?_,λi h c=>?_⟩
   ·cases i with
    |zero=>simpa using q
    |succ i=>simpa using e i (su h) (su c)
   ·cases i with
    |zero=>simp at c
    |succ i=>simpa using g i (su h) (su c)
def YL{τ:TypeId->TypeId}{ρ:FuncId->FuncId}{z by_:Nat}{zc:List D}(H:anR τ ρ z by_ zc)(R:List (List D))(i j:Nat)(hl:R.length<2^30)(hij:i<j)(K:j<=R.length)(u:∀r∈R,De z r) :
  Sq (ρ 267) [.own z R] [.ref 0,.I i,.I j] [.undef,.own z (R.take i++R.drop j)] (.ref 1):=by
 have E:∀r∈R,r.length=z:=λr hr=>(u r hr).1;have hp:∀r∈R,∀d∈r,cE d:=λr hr=>(u r hr).2.1;have C:∀r∈R,∀d∈r,mh d=true:=λr hr=>(u r hr).2.2;have o:∀r∈R.take i++R.drop j,De z r:=λr hr=>by
  rw[mem_append]at hr;rcases hr with hr|hr
  ·exact u r (mem_of_mem_take hr)
  ·exact u r (mem_of_mem_drop hr)
 obtain⟨F,P,Q⟩:=H.zc;refine Spec.aco (hr:=[]) (ds:=[.I i,.I j]) (by intro h;rw[h]at K;simp at K;omega) (λr hr=>(o r hr).1) (λr hr=>(o r hr).2.1) ?_ sT ?_
 ·intro d S;simp only[mem_cons,not_mem_nil,or_false]at S;rcases S with rfl|rfl<;>simp[D.names]
 intro cap b;left;obtain⟨N,hN⟩:=aL (R.length-(j-i));have p:(R.take i++R.drop j).length=N:=by simp;omega
 obtain⟨J,g⟩:∃X,X=kI (jK R cap z) (i*z) (R.drop j).flatten:=⟨_,rfl⟩
 obtain⟨G,n⟩:∃X,X=kI J (N*z) (replicate (R.length-N) zc).flatten:=⟨_,rfl⟩
 have q:(jK R cap z).length=cap*z:=uZ E b;have s:(R.drop j).length=R.length-j:=iC;have w:(R.drop j).flatten.length=(R.length-j)*z:=by rw[oO λr hr=>E r (mem_of_mem_drop hr),s]
 have M:(replicate (R.length-N) zc).flatten.length=(R.length-N)*z:=Bd F _;have T:i*z+(R.length-j)*z=N*z:=by rw[<-Nat.add_mul];congr 1;omega
 have O:N*z<=cap*z:=pH z aj;have U:N*z+(R.length-N)*z<=cap*z:=by rw[<-Nat.add_mul];exact pH z aj
 have a:J.length=cap*z:=by rw[g,lI (by rw[q,w,T];exact O),q]
 have v:G.length=cap*z:=by rw[n,lI (by rw[a,M];exact U),a]
 have t:∀d∈G,mh d=true:=by
  rw[n,g];exact Cz (Cz (Jp C) (B8 λr hr=>C r (mem_of_mem_drop hr))) (B8 λr hr=>by rw[(mem_replicate.1 hr).2];exact Q)
 refine⟨G,by rw[p];omega,v,?_,?_⟩
 ·rw[p,n,FE (fO _) (by rw[a];exact O),g];have e:N*z=i*z+(R.drop j).flatten.length:=by rw[w,T]
  rw[e,BX (by rw[q];exact pH z aj),Dk E aj];simp
 ·rw[p];show Sq (ρ 267) [.box (jK R cap z)] [.dZ 0 0 z R.length cap,.I i,.I j] [.box G] (.dZ 0 0 z N cap);refine Iv 33 3 [.tmp 6] (H.rn) mixed func267 λy=>?_;simp only[IY,ZX,GV,IZ,ZW,toList_toArray,map_cons,map_nil,H.t0,H.t3,H.t4,je,Bool.not_true,Bool.not_false,Bool.true_or,Bool.false_or,Bool.and_true,cz,cU]at y |-;simp only[go_sem,seval,H.sl,Nat.zero_mul];with_reducible refine fG.akz (r:=0) (off:=0) (l:=R.length) (c:=cap) (k1:=.i64) (k2:=.i64) (k3:=.i64) (i:=i) (j:=j) (m:=R.length) H.sl ?_ ?_ ?_ ?_ ?_ ?_ ?_ ?_ ?_ ?_
  iterate 9 (first|rfl|omega)
  simp only[go_sem,seval,H.sl,Nat.zero_mul];have L:((i:Int)==(j:Int))=false:=by simp;omega
  simp only[L,go_sem,seval,H.sl,Nat.zero_mul];refine⟨gY.mk (by simp only[y]),B6.mk (by kernel_rfl),by omega,B6.mk (by kernel_rfl),⟨by omega,b⟩,?_⟩;have V:ni (j*z) z (R.length-j) (.box (jK R cap z))=.sl z (R.drop j):=NN E hp K b;with_reducible refine fG.air (r:=0) (off:=0) (l:=i) (c:=cap) (cs:=jK R cap z) (rows2:=R.drop j) H.sl H.sl ?_ ?_ ?_ ?_ ?_ ?_ ?_
  ·rfl
  ·rfl
  ·show mM z (eg _ (ni (j*z) z (R.length-j) (.box (jK R cap z))))=_;rw[V];simp[eg,mM]
  ·omega
  ·have:=H.big;omega
  ·intro _;have B:i+(R.drop j).length=N:=by rw[s];omega
   refine⟨?_,?_⟩
   ·rw[uZ E b,B,Nat.zero_add];exact O
   ·rw[Nat.zero_add,<-g];simp only[go_sem,seval,H.sl,Nat.zero_mul,B];refine⟨⟨by omega,by omega⟩,?_⟩;with_reducible refine fG.clear (r:=0) (off:=N*z) (l:=R.length-N) (c:=cap-N) (cs:=J) (zc:=zc) H.sl ?_ ?_ ?_ ?_ ?_ ?_ ?_
    ·rfl
    ·rfl
    ·exact H.zel
    ·exact F
    ·exact P
    ·rw[a];exact U
    ·rw[<-n];refine s0 ?_;exact iJ t
  ·intro h;exfalso;rw[s]at h;omega
def abg:anR (λt=>if t=38 then 38 else t) (λk=>if k=267 then 267 else k) 4 32 (aB.cells ⟨0,0,0,0⟩) where
 rn:=tZ func267 func267
 t0:=cY
 t3:=cY
 t4:=cY
 big:=aj
 sl:=akH
 zel:=ahQ
 zc:=vN _
def Qk(xs:List aB)(i:Nat)(a:xs.length<2^30)(hi:i<xs.length):Sq 267 [.own 4 (xs.map aB.cells)] [.ref 0,.I i,.I ((i+1:Nat):Int)] [.undef,.own 4 ((xs.take i++xs.drop (i+1)).map aB.cells)] (.ref 1):=by
 have:=YL abg (xs.map aB.cells) i (i+1) (su a) aj (by rw[qO];omega) (λr hr=>by obtain⟨y,_,rfl⟩:=mem_map.1 hr;exact vN y);rw[show(xs.take i++xs.drop (i+1)).map aB.cells=(xs.map aB.cells).take i++(xs.map aB.cells).drop (i+1)by simp];exact this
def gv(c:aB):Int:=c.who*4+c.cur
theorem aeo{a b:aB}(ha:0<=a.cur/\a.cur<=2)(hb:0<=b.cur/\b.cur<=2):bI a b=true↔gv a<gv b:=by
 simp only[bI,gv,Bool.or_eq_true,cU,bO,fE];omega
theorem pN{xs:List aB}(h:nQ bN bI xs=true):xs.Pairwise (λa b=>gv a<gv b):=by
 obtain⟨c,d⟩:=oL.1 h;refine d.imp_of_mem λ{a b} ha hb hab=>?_;exact(aeo (lV.1 (c a ha)).2.1 (lV.1 (c b hb)).2.1).1 hab
theorem xT{w c:Int}{xs:List aB}(hp:xs.Pairwise λa b=>gv a<gv b){y:aB}(d:y∈xs)(q:y.who=w/\y.cur=c):¬bL w c xs<0/\lM w c xs=y:=by
 have p:¬bL w c xs<0:=by
  intro h;obtain⟨i,hi,rfl⟩:=getElem_of_mem d;have key:∀{xs:List aB},bL w c xs<0->∀y∈xs,pI w c y=false:=by
   intro xs;induction xs with
   |nil=>intro _ y d;cases d
   |cons x r ih =>
    intro h y d;simp only[bL]at h;split at h
    ·omega
    ·rename_i e;split at h
     ·rename_i g;rcases mem_cons.1 d with rfl|d
      ·simpa using e
      ·exact ih g y d
     ·omega
  have:=key h _ d;simp only[pI,Bool.and_eq_false_iff,beq_eq_false_iff_ne]at this;omega
 refine⟨p,?_⟩;have n:=mQ p;have u:∀{l:List aB},l.Pairwise (λa b=>gv a<gv b)->∀a∈l,∀b∈l,gv a=gv b->a=b:=by
  intro l;induction l with
  |nil=>intro _ a j;cases j
  |cons x r ih =>
   intro hp a j b t o;obtain⟨s,v⟩:=jR.1 hp;rcases mem_cons.1 j with e|e<;>rcases mem_cons.1 t with g|g
   ·rw[e,g]
   ·have:=s b g;rw[e]at o;omega
   ·have:=s a e;rw[g]at o;omega
   ·exact ih v a e b g o
 exact u hp _ n.1 _ d (by simp only[gv];rw[n.2.1,n.2.2,q.1,q.2])
theorem BW{xs:List aB}{x y:aB}(h:nQ bN bI xs=true)(hx:(1<=x.who/\x.who<=16)/\0<=x.cur/\x.cur<=2):y∈vQ xs x 16↔(y=x/\0<x.bT)\/(y∈xs/\¬gv y=gv x):=by
 have hp:=pN h;have j:=(oL.1 h).1;constructor
 ·intro a;obtain⟨k,_,a⟩:=jf.1 a;obtain⟨c,_,a⟩:=jf.1 a;unfold GY at a;split at a
  ·split at a
   ·rename_i g;exact .inl ⟨iD.1 a,g⟩
   ·cases a
  ·rename_i i;split at a
   ·cases a
   ·rename_i b;obtain rfl:=iD.1 a;have hm:=mQ b;refine .inr ⟨hm.1,λn=>i ?_⟩;have:=(lV.1 (j _ hm.1)).2.1;simp only[gv,hm.2.1,hm.2.2]at n this;simp only[cU,fE];omega
 ·intro a;have d:∀w c:Int,(1<=w/\w<=16)->(0<=c/\c<=2)->y∈GY xs x w c->y∈vQ xs x 16:=by
   intro w c hw b a;refine jf.2 ⟨(w-1).toNat,by omega,jf.2 ⟨c.toNat,by omega,?_⟩⟩;rw[show(((w-1).toNat:Nat):Int)+1=w by omega,show((c.toNat:Nat):Int)=c by omega];exact a
  rcases a with⟨rfl,g⟩| ⟨a,hk⟩
  ·refine d y.who y.cur hx.1 hx.2 ?_;unfold GY;rw[au sT,au g];simp
  ·have b:=lV.1 (j y a);refine d y.who y.cur b.1 b.2.1 ?_;obtain⟨l,e2⟩:=xT hp a ⟨rfl,rfl⟩;unfold GY
   rw[aq (λe=>hk (by
    simp only[cU,fE]at e
    simp only[gv];rw[e.1,e.2])),aq l,e2]
   simp
section
set_option linter.unusedSectionVars false
variable{xs:List aB}{x:aB}(h:nQ bN bI xs=true)(hx:(1<=x.who/\x.who<=16)/\0<=x.cur/\x.cur<=2){k:Nat}
include h hx
theorem I0(c:0<x.bT->bN x=true):(vQ xs x 16).Pairwise (λa b=>gv a<gv b):=pN (Rx h c)
theorem afy(g:k<xs.length)(n:gv xs[k]=gv x)(h0:x.bT=0):xs.take k++xs.drop (k+1)=vQ xs x 16:=by
 have hp:=pN h;refine Lb (no:=gv) ?_ (I0 h hx λe=>by omega) λy=>?_
 ·rw[pairwise_append];refine⟨hp.sublist (take_sublist _ _),hp.sublist (drop_sublist _ _),λa e b l=>?_⟩;obtain⟨i,c,rfl⟩:=getElem_of_mem e;obtain⟨j,o,rfl⟩:=getElem_of_mem l;rw[gh]at c;rw[iC]at o;rw[getElem_take,getElem_drop];exact Ay.1 hp _ _ aj aj aj
 ·rw[BW h hx,mem_append];have d:=Ay.1 hp;constructor
  ·rintro(hy|hy)
   ·obtain⟨i,c,rfl⟩:=getElem_of_mem hy;rw[gh]at c;rw[getElem_take];have:=d i k aj g aj;exact .inr ⟨dH _,by omega⟩
   ·obtain⟨i,c,rfl⟩:=getElem_of_mem hy;rw[iC]at c;rw[getElem_drop];have:=d k (k+1+i) g aj aj;exact .inr ⟨dH _,by omega⟩
  ·rintro(⟨_,e⟩| ⟨hy,hn⟩)
   ·omega
   ·obtain⟨i,c,rfl⟩:=getElem_of_mem hy;rcases Nat.lt_trichotomy i k with hik|rfl|hik
    ·exact .inl (mem_iff_getElem.2 ⟨i,by rw[gh];omega,by rw[getElem_take]⟩)
    ·exact(hn n).elim
    ·refine .inr (mem_iff_getElem.2 ⟨i-(k+1),by rw[iC];omega,?_⟩);rw[getElem_drop];congr 1;omega
theorem afA(n:k<xs.length)(d:gv xs[k]=gv x)(p:bN x=true):xs.set k x=vQ xs x 16:=by
 have hp:=pN h;have b:=Ay.1 hp;have c:0<x.bT:=by have:=lV.1 p;omega
 have o:∀i (a:i<xs.length),gv ((xs.set k x)[i]'(by rw[length_set];exact a))=gv xs[i]:=λi a=>by
  rw[getElem_set];split
  ·rename_i e;subst e;exact d.symm
  ·rfl
 refine Lb (no:=gv) (Ay.2 λi j a l g=>?_) (I0 h hx λ_=>p) λy=>?_
 ·rw[length_set]at a l;rw[o i a,o j l];exact b i j a l g
 ·rw[BW h hx,mem_iff_getElem];constructor
  ·rintro⟨i,a,rfl⟩;rw[length_set]at a;rw[getElem_set];split
   ·exact .inl ⟨rfl,c⟩
   ·rename_i e;refine .inr ⟨dH _,λq=>?_⟩;rw[<-d]at q;rcases Nat.lt_or_gt_of_ne e with hh|hh
    ·have:=b k i n a hh;omega
    ·have:=b i k a n hh;omega
  ·rintro(⟨rfl,_⟩| ⟨hy,hne⟩)
   ·exact⟨k,by rw[length_set];exact n,by rw[getElem_set];simp⟩
   ·obtain⟨i,a,rfl⟩:=getElem_of_mem hy;refine⟨i,by rw[length_set];exact a,?_⟩;rw[getElem_set,aq];rintro rfl;exact hne d
theorem afz(hk:k<=xs.length)(n:∀i (d:i<xs.length),i<k->gv xs[i]<gv x)(l:∀i (d:i<xs.length),k<=i->gv x<gv xs[i])(q:bN x=true):xs.take k++[x]++xs.drop k=vQ xs x 16:=by
 have hp:=pN h;have e:0<x.bT:=by have:=lV.1 q;omega
 have o:∀y∈xs.take k,gv y<gv x:=λy c=>by
  obtain⟨i,d,rfl⟩:=getElem_of_mem c;rw[gh]at d;rw[getElem_take];exact n i aj aj
 have j:∀y∈xs.drop k,gv x<gv y:=λy c=>by
  obtain⟨i,d,rfl⟩:=getElem_of_mem c;rw[iC]at d;rw[getElem_drop];exact l _ aj aj
 refine Lb (no:=gv) ?_ (I0 h hx λ_=>q) λy=>?_
 ·rw[dS,pairwise_append];refine⟨hp.sublist (take_sublist _ _),jR.2 ⟨j,hp.sublist (drop_sublist _ _)⟩,λa p b g=>?_⟩;rcases mem_cons.1 g with rfl|g
  ·exact o a p
  ·have:=o a p;have:=j b g;omega
 ·rw[BW h hx,mem_append,mem_append,iD];constructor
  ·rintro((c|rfl)|c)
   ·exact .inr ⟨mem_of_mem_take c,by have:=o y c;omega⟩
   ·exact .inl ⟨rfl,e⟩
   ·exact .inr ⟨mem_of_mem_drop c,by have:=j y c;omega⟩
  ·rintro(⟨rfl,_⟩| ⟨c,_⟩)
   ·exact .inl (.inr rfl)
   ·rw[<-n5 k xs,mem_append]at c;rcases c with c|c
    ·exact .inl (.inl c)
    ·exact .inr c
theorem acS(b:∀y∈xs,¬gv y=gv x)(h0:x.bT=0):xs=vQ xs x 16:=by
 refine Lb (no:=gv) (pN h) (I0 h hx λc=>by omega) λy=>?_;rw[BW h hx];constructor
 ·intro a;exact .inr ⟨a,b y a⟩
 ·rintro(⟨_,c⟩| ⟨a,_⟩)
  ·omega
  ·exact a
end
def Ju(xs:List aB)(d:aH)(a:Int)(p:xs.length<2^30):Sq 172 [] [.sl 4 (xs.map aB.cells),.agg d.cells,.I a] [] (.I (vV xs d a)):=by
 have c1:=AN xs p;have c2:=AO d.who d.cur;have c3:=eH [d.bT] sT;rw[zN]at c3;simp only[ints,map_cons,map_nil]at c3;simp only[aH.cells];obtain⟨E,b⟩:=aL (vV xs d a);rw[<-b];unfold vV at b;obtain⟨A,o⟩:=aL (nQ bN bI xs);rw[<-o]at c1 b;refine aX 41 3 [.tmp 6] mixed func172 ?_;cases A
 ·refine sc aK c1 ?_;rw[b];exact jh
 simp only[if_true]at b c1;obtain⟨B,l⟩:=aL ((within d.who 1 16&&within d.cur 0 2));obtain⟨C,n⟩:=aL (bA d.bT);have e:wo d=(B&&(C&&!decide (d.bT<0))):=by
  rw[l,n,lZ,JS];simp[bA,within];omega
 rw[<-l]at c2;rw[<-n]at c3;refine sc aK c1 ?_;cases B
 ·refine sc aK c2 ?_;rw[b,e];exact jh
 refine sc aK c2 ?_;cases C
 ·refine sl aK c3 ?_;rw[b,e];exact jh
 refine sl aK c3 ?_;cases c:decide (d.bT<0)
 case true =>
  rw[b,e,c];exact gH c
 cases i:decide (a<0)
 case true =>
  have g:within a 0 1099511627776=false:=by simp only[bO]at i;simp[within];omega
  rw[b,e,c,g];exact gH (a2 c i)
 cases j:decide (1099511627776<a)
 case true =>
  have g:within a 0 1099511627776=false:=by simp only[bO]at j;simp[within];omega
  rw[b,e,c,g];exact gH (a3 c i j)
 have g:within a 0 1099511627776=true:=by simp only[gP]at i j;simp[within];omega
 rw[b,e,c,g];exact gH (a3 c i j)
def Js(x:aB)(z w c a:Int):Sq 266 [] [.agg x.cells,.I z,.bG [.I w,.I c,.I a]] [] (.I (AM x w c)):=by
 have h:=xU x w c;simp only[aB.cells]at h |-;refine aX 12 3 [.tmp 5] mixed func266 ?_;exact lX aK h
def NS{x:aB}{w c:Int}(hx:0<=x.cur/\x.cur<=2)(hc:0<=c/\c<=2):(AM x w c<0↔gv x<w*4+c)/\(AM x w c=0↔gv x=w*4+c):=by
 unfold AM gv gG;constructor<;>repeat' split
 all_goals omega
def isC(K:Int)(xs:List aB):Bool:=xs.any λy=>gv y==K
def Wk{xs:List aB}{K:Int}(hp:xs.Pairwise λa b=>gv a<gv b){i:Nat}(hi:i<=xs.length)(c:∀k (h:k<xs.length),k<i->gv xs[k]<K)(d:∀k (h:k<xs.length),i<=k->K<=gv xs[k]):i=putAt gv K xs:=by
 obtain⟨p1,e,g⟩:=K5 (n:=K) hp;rcases Nat.lt_trichotomy i (putAt gv K xs)with h|h|h
 ·have:=e i aj h;have:=d i aj (fO _);omega
 ·exact h
 ·have:=g _ aj (fO (putAt gv K xs));have:=c _ aj h;omega
def abR{xs:List aB}{K:Int}(hp:xs.Pairwise λa b=>gv a<gv b):(∀(h:putAt gv K xs<xs.length),isC K xs=(gv xs[putAt gv K xs]==K))/\(xs.length<=putAt gv K xs->isC K xs=false):=by
 obtain⟨p1,l,o⟩:=K5 (n:=K) hp;have g:=Ay.1 hp;refine⟨λh=>?_,λh=>?_⟩
 ·rw[lZ,fE,isC,any_eq_true];constructor
  ·rintro⟨y,i,d⟩;rw[fE]at d;obtain⟨j,e,rfl⟩:=getElem_of_mem i;have h3:=o _ h (fO _);rcases Nat.lt_trichotomy j (putAt gv K xs)with c|c|c
   ·have:=l j e c;omega
   ·subst c;exact d
   ·have:=g _ j h e c;omega
  ·intro d;exact⟨_,dH h,su d⟩
 ·rw[isC,any_eq_false];intro y i;obtain⟨j,e,rfl⟩:=getElem_of_mem i;have:=l j e aj;simp only[fE];omega
def HS(xs:List aB)(w c a:Int)(hl:xs.length<2^62)(hp:xs.Pairwise λa b=>gv a<gv b)(hx:∀x∈xs,0<=x.cur/\x.cur<=2)(D:0<=c/\c<=2) :
  Sq 265 [] [.sl 4 (xs.map aB.cells),.I 0,.fn 266 [.bG [.I w,.I c,.I a]]] [] (.bD [.I (putAt gv (w*4+c) xs),.bool (isC (w*4+c) xs)]):=by
 refine aX 49 3 [.tmp 6,.tmp 7] mixed func265 ?_;refine s0 ?_;refine aG.yh (T:=Nat×Nat) [0,1,2,8] [224] (λs=>[(9,.I s.1),(10,.I s.2)]) (λs=>[])
  (λs=>s.1<=s.2/\s.2<=xs.length/\(∀k (h:k<xs.length),k<s.1->gv xs[k]<w*4+c)/\∀k (h:k<xs.length),s.2<=k->w*4+c<=gv xs[k]) (λs=>s.2-s.1) (0,xs.length) ?_ ?_ ?_
 ·exact⟨by omega,by omega,by omega,by omega⟩
 ·exact jh
 ·rintro⟨i,j⟩ ⟨C,q,h3,h4⟩;refine s0 ?_;refine bK.fP (λh=>?_) (λh=>?_)
  ·have B:i<j:=aj
   have q:j<=xs.length:=q;obtain⟨m,hm⟩:=aL ((i+j)/2);have l:m<xs.length:=aj
   have t:=half (i:=i) (j:=j) aj;rw[<-hm]at t;have d:=Js xs[m] 0 w c a;have E:IntKind.wrap .i64 ((m:Int)+1)=((m+1:Nat):Int):=fU;have r:=(NS (w:=w) (hx _ (dH l)) D).1;have u:=Ay.1 hp;have g:=aM (c:=aB.cells) xs l;simp only[aB.cells]at d g;refine sm (a2 t g) ?_;refine⟨by omega,az.aP d ?_⟩;refine s0 ?_;refine bK.fP (λo=>?_) (λo=>?_)
   ·refine sm E ?_;refine⟨(m+1,j),⟨by show m+1<=j;omega,q,?_,h4⟩,?_,by show j-(m+1)<j-i;omega⟩
    ·intro k p e;have e:k<m+1:=e;have o:=r.1 o;rcases dN k m with h|h
     ·have:=u k m p l h;omega
     ·obtain rfl:k=m:=aj
      exact o
    ·exact jh
   ·refine sm E ?_;refine⟨(i,m),⟨by show i<=m;omega,by show m<=_;omega,h3,?_⟩,?_,by show m-i<j-i;omega⟩
    ·intro k p e;have e:m<=k:=e;have o:w*4+c<=gv xs[m]:=by
      rcases Int.lt_or_le (gv xs[m]) (w*4+c)with h|h
      ·exact(o (r.2 h)).elim
      ·exact h
     rcases dN m k with h|h
     ·have:=u m k l p h;omega
     ·obtain rfl:k=m:=aj
      exact o
    ·exact jh
  ·have B:j<=i:=aj
   have C:i<=j:=C;obtain rfl:i=j:=aj
   have q:i<=xs.length:=q;have n:=Wk hp q (λk p h=>h3 k p h) (λk p h=>h4 k p h);obtain⟨F,a2⟩:=abR (K:=w*4+c) hp;rw[<-n]at a2 |-;refine s0 ?_;refine gK.id ?_;rcases dN i xs.length with hil|hge
   ·have v:decide ((i:Int)<(xs.length:Int))=true:=by simp;omega
    have g:isC (w*4+c) xs=(gv xs[i]==w*4+c):=by
     have:=F aj;rw[this];congr 2;congr 1;exact n.symm
    have d:=Js xs[i] 0 w c a;have y:=(NS (w:=w) (hx _ (dH hil)) D).2;have hm:=aM (c:=aB.cells) xs hil;simp only[aB.cells]at d hm;simp only[go_sem,seval,v,hm];refine⟨by omega,az.aP d ?_⟩;refine s0 ?_;rw[g,lZ];simp[y]
   ·have v:decide ((i:Int)<(xs.length:Int))=false:=by simp;omega
    simp only[go_sem,seval,v,a2 hge]
def Fa(xs:List aB)(d:aH)(a:Int):aB:=⟨d.who,d.cur,d.bT,if bL d.who d.cur xs<0 then a else(lM d.who d.cur xs).till⟩
def Sl(xs:List aB)(d:aH)(a:Int)(hl:xs.length<2^29)(h:nQ bN bI xs=true)(e:wo d=true)(J:within a 0 1099511627776=true):Sq 173 [] [.sl 4 (xs.map aB.cells),.agg d.cells,.I a] [.own 4 ((vQ xs (Fa xs d a) 16).map aB.cells)] (.ref 0):=by
 have hp:=pN h;have S:=(oL.1 h).1;have e:=JS.1 e;have J:0<=a/\a<=1099511627776:=by simpa[within]using J
 have hx:(1<=(Fa xs d a).who/\(Fa xs d a).who<=16)/\0<=(Fa xs d a).cur/\(Fa xs d a).cur<=2:=⟨e.1,e.2.1⟩
 have g:gv (Fa xs d a)=d.who*4+d.cur:=rfl;have c1:=CR xs aj;have c2:=HS xs d.who d.cur d.bT aj hp (λx hx=>(lV.1 (S x hx)).2.1) e.2.1;obtain⟨R,W,X⟩:=K5 (n:=d.who*4+d.cur) hp;obtain⟨V,Q⟩:=abR (K:=d.who*4+d.cur) hp;obtain⟨k,F⟩:=aL (putAt gv (d.who*4+d.cur) xs);obtain⟨I,C⟩:=aL (isC (d.who*4+d.cur) xs);rw[<-F,<-C]at c2;rw[<-C]at Q;rw[<-F]at R Q;have M:IntKind.wrap .i64 ((k:Int)+1)=((k+1:Nat):Int):=fU;simp only[aB.cells,aH.cells]at c1 c2 |-;refine aX 51 3 [.tmp 6] mixed func173 ?_;cases I
 case true =>
  have b:k<xs.length:=by
   rcases dN k xs.length with hh|hh
   ·exact hh
   ·have:=Q hh;cases this
  have q:gv xs[k]=d.who*4+d.cur:=by
   have:=V (by rw[<-F];exact b);rw[<-C]at this;subst F;simpa using this.symm
  have v:=lV.1 (S _ (dH b));have j:xs[k].who=d.who/\xs[k].cur=d.cur:=by have:=e.2.1;have:=v.2.1;simp only[gv]at q;omega
  obtain⟨G,e2⟩:=xT hp (dH b) j;have l:Fa xs d a=⟨d.who,d.cur,d.bT,xs[k].till⟩:=by rw[Fa,aq G,e2]
  by_cases s:d.bT=0
  ·have p:(d.bT==0)=true:=su s;have t:=afy h hx b (by rw[q,g]) (show(Fa xs d a).bT=0 from s);have c3:=Qk xs k aj b;rw[t]at c3;refine so aK c1 ?_;refine sl aK c2 ?_;exact sgx [192] (a2 p M) c3
  ·have p:(d.bT==0)=false:=su s
   have o:=afA h hx b (by rw[q,g]) (by
    rw[l,lV];exact⟨e.1,e.2.1,⟨show(1:Int)<=d.bT by omega,e.2.2.2⟩,v.2.2.2⟩)
   have hm:=aM (c:=aB.cells) xs b;obtain⟨x,O⟩:=aL (xs[k]);rw[<-O]at hm j l;rw[l]at o;have B:([.I x.who,.I x.cur,.I d.bT,.I x.till]:List D)=aB.cells ⟨d.who,d.cur,d.bT,x.till⟩:=by rw[j.1,j.2]
   have hkli:(k:Int)<(xs.length:Int):=aj
   rw[l];rw[<-o];simp only[aB.cells]at hm;refine so aK c1 ?_;refine sl aK c2 ?_;refine sm (a2 p hm) ?_;refine aV ?_;rw[map_set,<-B]
 case false =>
  have r:∀y∈xs,¬gv y=d.who*4+d.cur:=λy P T=>by
   have:=C.symm;rw[isC,any_eq_false]at this;exact this y P (su T)
  have G:bL d.who d.cur xs<0:=by
   rcases Int.lt_or_le (bL d.who d.cur xs) 0 with hh|hh
   ·exact hh
   ·have hm:=mQ (xs:=xs) (w:=d.who) (c:=d.cur) aj;exact(r _ hm.1 (by simp only[gv];rw[hm.2.1,hm.2.2])).elim
  have l:Fa xs d a=⟨d.who,d.cur,d.bT,a⟩:=by rw[Fa,au G]
  by_cases s:0<d.bT
  ·have p:decide (0<d.bT)=true:=dw s
   have u:=afz h hx (k:=k) R (λi E L=>by rw[g];exact W i E aj) (λi E L=>by
    have h1:=X i E aj;have h2:=r _ (dH E)
    rw[g];omega) (by rw[l,lV];exact⟨e.1,e.2.1,⟨show(1:Int)<=d.bT by omega,e.2.2.2⟩,J⟩)
   have c3:=Qt xs (Fa xs d a) k aj R;rw[u,l]at c3;rw[l];simp only[aB.cells]at c3;refine so aK c1 ?_;refine sl aK c2 ?_;exact sgx [192,784] p c3
  ·have p:decide (0<d.bT)=false:=gB s;have U:=acS h hx (λy P=>by rw[g];exact r y P) (show d.bT=0 by omega);rw[<-U];refine so aK c1 ?_;refine sl aK c2 ?_;exact eo p
def Qb(xs:List aB)(d:aH)(a:Int)(e:xs.length<2^29)(h:nQ bN bI xs=true)(c:wo d=true)(b:within a 0 1099511627776=true):Sq 173 [] [.sl 4 (xs.map aB.cells),.agg d.cells,.I a] [] (.sl 4 ((vQ xs (Fa xs d a) 16).map aB.cells)):=by
 refine Spec.frozen (Sl xs d a e h c b) [0] rfl ?_;intro r;rcases r with _|r<;>rfl
def aeh{xs:List aB}{d:aH}{a:Int}(h:vV xs d a=0):nQ bN bI xs=true/\wo d=true/\within a 0 1099511627776=true:=by
 unfold vV at h;split at h
 ·rename_i c;split at h
  ·rename_i b;rw[cU]at b;exact⟨c,b⟩
  ·cases h
 ·cases h
def P9(xs:List aB)(d:aH)(a:Int)(i:xs.length<2^29):Sq 71 [] [.sl 4 (xs.map aB.cells),.agg d.cells,.I a] [] (.bD [.sl 4 ((yT xs d a).map aB.cells),.I (vV xs d a)]):=by
 have c1:=Ju xs d a aj;simp only[aH.cells]at c1 |-;refine aX 20 3 [.tmp 6,.tmp 7] mixed func71 ?_;by_cases h:vV xs d a=0
 ·obtain⟨c,e,g⟩:=aeh h;have c2:=Qb xs d a i c e g;simp only[aH.cells]at c2;rw[show yT xs d a=vQ xs (Fa xs d a) 16 from au h,h];rw[h]at c1;refine sc aK c1 ?_;exact lX aK c2
 ·have b:(vV xs d a==0)=false:=su h;rw[show yT xs d a=[]from aq h];refine sc aK c1 ?_;exact gH (a2 dV b)
def ac2(s:af)(w c:Int):bA (uW s w c)=true:=by
 unfold uW Ai;(repeat' split)<;>first|rfl|simp_all
def aap{r:ay}(h:r.okB=true):∀w∈iP r [1],1<=w/\w<=16:=λw a=>by
 obtain⟨m,hm,-,rfl⟩:=pV a;exact(uS ((fF.1 h).1.1 m hm)).1
def R9{xs:List aB}{w c n t:Int}(h:nQ bN bI xs=true)(g:1<=w/\w<=16)(d:0<=c/\c<=2)(e:0<=n/\n<=4611686018427387904)(ht:0<=t/\t<=1099511627776):vV xs ⟨w,c,n⟩ t=0:=by
 have a:wo ⟨w,c,n⟩=true:=JS.2 ⟨g,d,e⟩;have b:within t 0 1099511627776=true:=by simp[within];omega
 simp only[vV,h,a,b];rfl
def MG(s:af)(B:s.small)(hr:s.right)(ad:∀x∈s.aR,mC x) :
  Sq 20 [] [.agg s.cells] [.own 3 ((kK s).map aH.cells)] (.bD [.agg (bW s).cells,.ref 0,.I (fH s)]):=by
 have c1:=AW s 1 B hr;have c2:=uO s B ad;have c3:=Mb s.ak [1] B.ak sT;have v:s.fit:=⟨B.ak.small,B.book,B.bp,B.ps⟩
 have Y:=λw c=>Wz s w c v;have cA:=λxs d (h:xs.length<2^29)=>P9 xs d (rA s) h;have ae:=td s.ak [1];have hml:=B.ak.1;have p:=aap hr.ak;have hclk:=hr.HT.1;have hlen:=hr.lens.calls;obtain⟨E,q⟩:=aL (fH s);have K:=q;simp only[fH,bU.2 hr,if_true]at q;simp only[bW,kK,<-K];clear K;obtain⟨R,Z⟩:=aL (QH s);rw[<-Z]at q |-;simp only[QH]at Z;obtain⟨ws,X⟩:=aL (iP s.ak [1]);rw[<-X]at c3 Z ae p;clear X;have hA:rA s=min (s.now+3) 1099511627776:=rfl;have hw:IntKind.wrap .i64 (s.now+3)=s.now+3:=gx aj aj;have u:=hr.calls;simp only[af.cells]at c1 c2 Y |-;rw[show ints [1]=[[.I 1]]from rfl]at c3;simp only[ay.cells]at c3;simp only[aH.cells]at cA;by_cases b2:s.phase=1
 case neg =>
  rw[aq b2]at q c1;rw[q];refine aX 78 1 [.cell 2 42,.tmp 3,.tmp 4] mixed func20 ?_;refine sc aK c1 ?_;try simp only[go_sem,seval,bne]
  all_goals simp[af.zero,pl]
 rw[au b2]at q c1;obtain⟨ph,T⟩:=aL (s.phase);rw[<-T]at b2 c1 c2 Y |-;clear T hr v;refine aX 78 1 [.cell 2 42,.tmp 3,.tmp 4] mixed func20 ?_;refine sc aK c1 ?_;refine sc aK c2 ?_;refine az.iw [400] [] false sT ?_;refine s0 ?_;refine dL.ij c3 ?_;clear c1 c2 c3;simp only[go_sem,seval,aA];refine aG.rT (S:=List aB×List aH) ws.length [1,2,6,25,26] [32,48] (λi _=>[(3,.nil),(4,.I 0),(27,.I i),(7,.ref 1152)])
  (λi x=>[(112,.box [.I s.now,.I s.day,.I ph,.sl 3 (s.ak.ms.map av.cells),.sl 12 (s.ak.ns.map aF.cells),.sl 4 (s.ak.xs.map aD.cells),.I s.book.next,.sl 7 (s.book.ts.map aT.cells),.sl 4 (s.book.qs.map aE.cells),
   .I s.bp.last,.sl 4 (s.bp.bs.map bY.cells),.sl 3 (pl s.ps),.sl 4 (x.1.map aB.cells),.sl 5 (s.aZ.map bn.cells),.sl 7 (s.aR.map bZ.cells)]),(1152,.own 3 (x.2.map aH.cells))])
  (λi x=>lO s (ws.drop i) x=R/\(x.1.length<2^29/\nQ bN bI x.1=true)/\x.2.length<=3*i) (s.calls,[]) ⟨Z.symm,⟨by dsimp only;omega,u⟩,fO _⟩ ?_ ?_ ?_
 ·exact jh
 ·intro i x hi ab ag b;obtain⟨cs,ds⟩:=x;obtain⟨b,g,j⟩:=b;dsimp only at b g j |-;rw[dI hi]at b;simp only[lO]at b;have P:=ints_at ws hi;have hli:(i:Int)<(ws.length:Int):=aj
  have D:=Y ws[i];have W:=p ws[i] (dH hi);obtain⟨w,U⟩:=aL (ws[i]);rw[<-U]at b P D W;obtain⟨Q,hQ⟩:=aL (lz s w 3 0 (cs,ds));rw[<-hQ]at b;clear Y U p;simp only[go_sem,seval,aA,ab,P];refine aV ?_;refine aG.rT (S:=List aB×List aH) 3 [1,2,6,9,25,26,27] [32,48] (λc _=>[(3,.nil),(4,.I 0),(31,.I c),(7,.ref 1152)])
   (λc x=>[(112,.box [.I s.now,.I s.day,.I ph,.sl 3 (s.ak.ms.map av.cells),.sl 12 (s.ak.ns.map aF.cells),.sl 4 (s.ak.xs.map aD.cells),.I s.book.next,.sl 7 (s.book.ts.map aT.cells),.sl 4 (s.book.qs.map aE.cells),
    .I s.bp.last,.sl 4 (s.bp.bs.map bY.cells),.sl 3 (pl s.ps),.sl 4 (x.1.map aB.cells),.sl 5 (s.aZ.map bn.cells),.sl 7 (s.aR.map bZ.cells)]),(1152,.own 3 (x.2.map aH.cells))])
   (λc x=>lz s w (3-c) c x=Q/\(x.1.length<2^29/\nQ bN bI x.1=true)/\x.2.length<=3*i+c) (cs,ds) ⟨hQ.symm,g,j⟩ ?_ ?_ ?_
  ·exact jh
  ·intro c x hc G V a;obtain⟨cs,ds⟩:=x;obtain⟨a,g,j⟩:=a;dsimp only at a g j |-;have G:decide ((c:Int)<3)=true:=G;obtain⟨m,hm⟩:∃m,3-c=m+1:=⟨3-c-1,by omega⟩
   have O:3-(c+1)=m:=aj
   rw[hm]at a;simp only[lz]at a;have C:=D c;have l:=cA cs ⟨w,c,uW s w c⟩ g.1;have F:=R8 cs ⟨w,c,uW s w c⟩ (rA s);have o:=(P0 (d:=⟨w,c,uW s w c⟩) (t:=rA s) g.2).1;have M:=bf.1 (ac2 s w c);have y:Mt s w c=0->0<=uW s w c:=λh=>by have:=(ap3 h).2.2.2.1;omega
   have r:=λh=>R9 (c:=(c:Int)) (t:=rA s) g.2 W ⟨by omega,by omega⟩ ⟨y h,M.2⟩ ⟨by omega,by omega⟩;dsimp only at l;obtain⟨n,hn⟩:=aL (uW s w c);obtain⟨e,he⟩:=aL (Mt s w c);rw[<-hn]at C l a F o r;rw[<-he]at C a r;rw[hA]at l a F o r;clear cA D hn he y M;refine sm G ?_;try(with_reducible and_intros)<;>first|exact .dq|omega|skip
   refine az.aP C ?_;by_cases J:e=0
   case neg =>
    have d:(e==0)=false:=su J;rw[aq J]at a;rw[<-a]at b;dsimp only at b;rw[aq J]at b;rw[<-b]at q;rw[q];simp only[aq J];refine sm (a2 dV d) ?_;all_goals simp[af.zero,pl]
   rw[au J]at a;rw[r J]at l;rw[J];refine sc hw l ?_;obtain⟨A,aa⟩:=aL (yT cs ⟨w,c,n⟩ (min (s.now+3) 1099511627776));rw[<-aa]at a F o |-
   by_cases q2:n=0
   ·have a:lz s w m (c+1) (A,ds)=Q:=by rw[<-a];simp[jT,q2]
    rw[q2];refine sm (a2 dV V) ?_;refine aV ?_;refine ah.jP (A,ds) hc ⟨by rw[O];exact a,⟨by dsimp only;omega,o⟩,by dsimp only;omega⟩ ?_;exact jh
   ·have d:(n==0)=false:=su q2;have a:lz s w m (c+1) (A,ds++[⟨w,c,n⟩])=Q:=by rw[<-a];simp[jT,q2]
    refine sm (a3 dV d V) ?_;refine aV ?_;refine ah.jP (A,ds++[⟨w,c,n⟩]) hc ⟨by rw[O];exact a,⟨by dsimp only;omega,o⟩,by simp;omega⟩ ?_;exact jh
  intro x L a;obtain⟨cs,ds⟩:=x;obtain⟨a,g,j⟩:=a;have a:((cs,ds),(0:Int))=Q:=a;rw[<-a]at b;dsimp only at b g j;rw[au rfl]at b;dsimp only;try refine gK.id ?_
  refine sm (a2 ag L) ?_;try(with_reducible and_intros)<;>first|exact .dq|omega|skip
  refine ah.jP (cs,ds) hi ⟨b,g,by dsimp only;omega⟩ ?_;exact jh
 intro x ac b;obtain⟨cs,ds⟩:=x;have b:=b.1;rw[jJ]at b;have b:((cs,ds),(0:Int))=R:=b;subst b;rw[q];dsimp only;refine sm ac ?_;all_goals simp
def vi(s:af)(b:s.small)(hr:s.right)(a:∀x∈s.aR,mC x):Sq 20 [] [.agg s.cells] [] (.bD [.agg (bW s).cells,.sl 3 ((kK s).map aH.cells),.I (fH s)]):=by
 refine Spec.frozen (MG s b hr a) [0] rfl ?_;intro r;rcases r with _|r<;>rfl
def KC{s:af}(h:M3 s)(a:fH s=0):M3 (bW s):=by
 have e:(bW s).aR=s.aR:=by unfold bW;rw[au a]
 exact⟨⟨ER a,OM h.fY.last a,by rw[e];exact h.fY.fit⟩,by rw[e];exact h.sm⟩
