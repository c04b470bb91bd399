/- Parts. -/
import Derived.Test.YtbfilfeggodcjaaGreatKE
set_option linter.all false
set_option maxHeartbeats 4000000
set_option maxRecDepth 16000
namespace Go.Proofs.YtbfilfeggodcjaaGreat
open Go.Abs Tryz
open List
def lM(l:bS)(g:List aJ)(a:aG):Int:=aK (m0 a l.bs::dz a g)
def tP(a:aG)(n:Int):List bn:=if n==0 then[]else[⟨a.kind,a.who,a.cur,n⟩]
def zw(l:bS)(g:List aJ)(b:List aG):List bn:=b.flatMap λa=>tP a (lM l g a)
def ql(l:bS)(g:List aJ)(b:List aG):Bool:=b.all λa=>bR (lM l g a)
def qk(l:bS)(g:List aJ)(b:List aG):Bool:=b.any λa=>decide (lM l g a<a.floor)
def dU(l:bS)(id:Int)(g:List aJ):Int:=
 if l.okB then(if within id 1 1099511627776 then(if id<=l.last then 18 else if jc g=0 then(if ql l g eK then(if qk l g eK then 13 else 0)else 1)else jc g)else 3)else 14
def lT(l:bS)(id:Int)(g:List aJ):bS:=if dU l id g=0 then⟨id,zw l g eK⟩else⟨0,[]⟩
def Gh(a:aG)(n:Int):(tP a n).length<=1:=by unfold tP;split<;>simp
def Oj(l:bS)(g:List aJ)(b:List aG):(zw l g b).length<=b.length:=by
 have:=gB (f:=λa=>tP a (lM l g a)) (m:=1) (λa=>Gh _ _) b;simpa[zw]using this
def AI{g:List aJ}(h:jc g=0):nE g=true/\oI g=true/\g.length<=64:=by
 unfold jc at h;split at h
 ·cases h
 split at h
 ·cases h
 split at h
 ·split at h
  ·rename_i h1 h2 a b;exact⟨a,b,by omega⟩
  ·cases h
 ·cases h
theorem FD(l:bS)(id:Int)(g:List aJ)(hl:l.bs.length<2^30)(hr:∀b∈l.bs,b.gE)(hg:g.length<2^29):Sq 36 [] [.agg l.cells,.int .i64 id,.sl 4 (g.map aJ.cells)] [.own 4 ((lT l id g).bs.map bn.cells)] (.bH [.agg [.int .i64 (lT l id g).last,.ref 0],.int .i64 (dU l id g)]):=by
 have C:=m6 l hl hr;have hC:=B8 g aj;have w:=wD;have V:=λa=>yN l a hl;have aa:=λa=>Qr (a:=a) hr;simp only[bS.cells,aG.cells]at C V |-;refine aX 116 3 [.cell 6 35,.tmp 7] mixed func36 ?_;refine sc aI C ?_;cases p:l.okB
 ·have e:dU l id g=14:=by simp[dU,p]
  simp only[go_sem,seval,lT,e]<;>simp
 cases j:within id 1 1099511627776
 ·have e:dU l id g=3:=by simp[dU,p,j]
  simp only[within,Bool.and_eq_false_iff,iX]at j;by_cases h:id<1
  ·have d:decide (id<1)=true:=gJ h;simp only[go_sem,seval,d,lT,e]<;>simp
  ·have d:decide (id<1)=false:=kY h;have F:decide (1099511627776<id)=true:=kN;simp only[go_sem,seval,d,F,lT,e]<;>simp
 have U:decide (id<1)=false:=by simp only[within,dO,bP]at j;exact kR
 have F:decide (1099511627776<id)=false:=by simp only[within,dO,bP]at j;exact kR
 by_cases G:id<=l.last
 ·have P:decide (id<=l.last)=true:=gJ G;have e:dU l id g=18:=by simp[dU,p,j,G]
  simp only[go_sem,seval,U,F,P,lT,e]<;>simp
 have P:decide (id<=l.last)=false:=kY G;refine sc (a3 U F P) hC ?_;cases O:jc g==0
 ·have H:jc g≠0:=su O;have e:dU l id g=jc g:=by simp[dU,p,j,G,H]
  have e2:lT l id g=⟨0,[]⟩:=by simp[lT,e,H]
  exact lG (a4 lH O e e2)
 have H:jc g=0:=su O;have e:dU l id g=if ql l g eK then(if qk l g eK then 13 else 0)else 1:=by simp[dU,p,j,G,H]
 have Z:=qc (AI H).1;have W:=Ar;simp only[lT];rw[e];clear e C hC j U F P;obtain⟨m,K⟩:=aV (eK);rw[<-K]at w W |-;clear K;refine sm (a2 lH O) ?_;refine ak.fk [704] [] false sT ?_;refine s0 ?_;refine bX.fV w ?_;refine s0 ?_;refine aF.wu m.length [2,3,6,8,10,12] [64,112,144,720] (λi=>[(13,.I i),(11,.bool (qk l g (m.take i)))]) (λi=>[(176,.box [.I id,.ref 1792]),(1792,.own 4 ((zw l g (m.take i)).map bn.cells))]) (λi=>ql l g (m.drop i)=ql l g m) rfl ?_ ?_ ?_
 ·simp only[go_sem,seval]<;>simp[zw,qk]
 ·intro k _ y Y t r;obtain⟨a,ha,q,hlk⟩:=uy (c:=aG.cells) m y;have f:zw l g (m.take (k+1))=zw l g (m.take k)++_:=jr _ y;have o:qk l g (m.take (k+1))=(qk l g (m.take k)||decide (lM l g m[k]<m[k].floor)):=by
   simp only[qk];rw[kM y,any_append];simp
  have hjl:=Oj l g (m.take k);have hjt:(m.take k).length=k:=by simp;omega
  rw[fX y,<-ha]at r;simp only[ql,all_cons]at r;rw[<-ha]at f o
  have hA:=gO (m0 a l.bs::dz a g) (λn M=>by
   rcases mem_cons.1 M with rfl|M
   ·exact aa a
   ·exact qj (λx T=>Bc (Z x T).2) n M) (by have:=fu (λx:aJ=>x.aO.same a) aJ.cw g;simp only[length_cons,dz];omega)
  have hF:=sL a;have J:=V a;simp only[aG.cells]at q hF J;clear V;refine sc (a2 Y q) J ?_;refine aF.wv g.length [2,3,6,8,10,11,12,13] [64,112,144,176,720,1792] (λi=>[(15,.I i),(14,.ref 1312)]) (λi=>[(1312,.own 1 (ints (m0 a l.bs::dz a (g.take i))))]) ?_ ?_ ?_
  ·simp only[go_sem,seval]<;>simp[dz,pick,ints]
  ·intro i _ R X N _;have S:=aP (c:=aJ.cells) g R;have B:ints (dz a (g.take (i+1)))=ints (dz a (g.take i))++_:=kf (λx:aJ=>x.aO.same a) aJ.cw R;have A:=fu (λx:aJ=>x.aO.same a) aJ.cw (g.take i);have hlt:(g.take i).length=i:=by simp;omega
   have hli:(i:Int)<(g.length:Int):=aj
   have A:(m0 a l.bs::dz a (g.take i)).length<=i+1:=by simp only[length_cons,dz];omega
   obtain⟨x,T⟩:=aV (g[i]);rw[<-T]at B;have B:ints (m0 a l.bs::dz a (g.take (i+1)))=ints (m0 a l.bs::dz a (g.take i))++(if x.aO.same a then[[.I x.cw]]else[]):=congrArg (λz:List (List D)=>([D.I (m0 a l.bs)]:List D)::z) B;obtain⟨L,C⟩:=aV (m0 a l.bs::dz a (g.take i));have Q:Sq 120 [] [.agg [.I x.kind,.I x.who,.I x.cur],.agg [.I a.kind,.I a.who,.I a.cur]] [] (.bool (x.aO.same a)):=pF x.aO a;rw[<-C]at B;rw[<-T]at S;rw[<-C]at A |-;simp only[aJ.cells]at S;refine sc (a3 X S q) Q ?_;cases hb:x.aO.same a
   ·simp only[hb,jm,if_false,if_true,append_nil]at B;refine sm N ?_;refine af.v R ?_;exact lG B
   ·simp only[hb,jm,if_false,if_true,append_nil]at B;simp only[go_sem,seval,N,aL,S];refine bG ?_;refine af.v R ?_;exact lG B
  ·intro _ s _;simp only[go_sem,seval,s,ef];refine sl aI hA ?_;have Q:aK (m0 a l.bs::dz a g)=lM l g a:=rfl;have M:bR (lM l g a)=true->addN (m0 a l.bs::dz a g)=lM l g a:=λh=>by simp[addN,Q,h]
   rw[Q];cases p:bR (lM l g a)
   ·rw[p,eO]at r;have:ql l g m=false:=r.symm;exact lG (a2 p this)
   rw[p,cF]at r;rw[M p];cases E:qk l g (m.take k)
   case true =>
    rw[E,Bool.true_or]at o;cases j:lM l g a==0
    ·simp only[tP,j]at f;refine sm (a5 p E lH j (a2 t q)) ?_;refine bG ?_;refine af.u y r ?_;exact lG (a2 f o)
    ·simp only[tP,j]at f;refine sm (a5 p E lH j t) ?_;refine af.u y r ?_;exact lG (a2 f o)
   rw[E,Bool.false_or]at o;refine sm (a4 p E lH q) ?_;refine sc aI hF ?_;cases j:lM l g a==0
   ·simp only[tP,j]at f;refine sm (a4 j t q lH) ?_;refine bG ?_;refine af.u y r ?_;exact lG (a2 f o)
   ·simp only[tP,j]at f;refine sm (a3 j lH t) ?_;refine af.u y r ?_;exact lG (a2 f o)
 ·intro _ s r;rw[mT]at r;have:ql l g m=true:=r.symm;cases b5:qk l g m
  ·simp only[go_sem,seval,s,this,ef,b5]<;>simp
  ·simp only[go_sem,seval,s,this,ef,b5]<;>simp
theorem Dk(l:bS)(id:Int)(g:List aJ)(c:l.bs.length<2^30)(hr:∀b∈l.bs,b.gE)(a:g.length<2^29):Sq 36 [] [.agg l.cells,.int .i64 id,.sl 4 (g.map aJ.cells)] [] (.bH [.agg (lT l id g).cells,.int .i64 (dU l id g)]):=by
 refine Spec.frozen (FD l id g c hr a) [0] rfl ?_;intro r;rcases r with _|r<;>rfl
def Ck(n:Int):right [n]=bR n:=by simp[right]
def uf(l:List aJ)(hl:l.length<2^40):Sq 178 [] [.sl 4 (l.map aJ.cells)] [] (.bool (nE l)):=by
 refine aX 23 1 [.tmp 2] mixed func178 ?_;refine s0 ?_;refine aF.w1 l.length 7 [5,6] [112] (λi _=>nE (l.drop i)=nE l) rfl ?_ ?_
 ·intro i _ g e h a;obtain⟨x,o,m,hli⟩:=uy (c:=aJ.cells) l g;have k:=kV x.aO;have d:=dL [x.cw] sT;rw[Ck]at d;simp only[ints,map_cons,map_nil]at d;rw[fX g,<-o]at a;have n:Ef x=(aG.right ⟨x.kind,x.who,x.cur⟩&&bR x.cw):=rfl;simp only[nE,all_cons,n]at a;simp only[aJ.cells]at m;simp only[aG.cells,aJ.aO]at k;refine sc (a2 e m) k ?_;cases b:aG.right ⟨x.kind,x.who,x.cur⟩
  ·rw[b]at a;simp only[go_sem,seval,nE,<-a,eO]
  refine sl aI d ?_;cases j:bR x.cw
  ·rw[b,j]at a;simp only[go_sem,seval,nE,<-a,eO,Bool.and_false]
  rw[b,j,Bool.and_self,cF]at a;refine sm h ?_;refine af.u g a ?_;exact iM
 ·intro _ f a;rw[mT]at a;simp only[go_sem,seval,f,<-a];rfl
theorem G6(x y:aJ):∃c:Int,Sq 180 [] [.agg x.cells,.agg y.cells] [] (.int .i64 c)/\decide (c<0)=x.aO.less y.aO:=by
 have a:=oY x.aO y.aO;have d:=oY y.aO x.aO;obtain⟨e,g⟩:∃b,b=x.aO.less y.aO:=⟨_,rfl⟩
 obtain⟨f,e2⟩:∃b,b=y.aO.less x.aO:=⟨_,rfl⟩
 rw[<-g]at a |-;rw[<-e2]at d;simp only[aG.cells,aJ.aO]at a d;simp only[aJ.cells];cases e
 ·cases f
  ·refine⟨0,?_,rfl⟩;refine aX 17 2 [.tmp 4] mixed func180 ?_;refine sc aI a ?_;exact qt aI d
  ·refine⟨1,?_,rfl⟩;refine aX 17 2 [.tmp 4] mixed func180 ?_;refine sc aI a ?_;exact qt aI d
 ·refine⟨-1,?_,rfl⟩;refine aX 17 2 [.tmp 4] mixed func180 ?_;exact qt aI a
def jF(a:aG)(y:aJ):Bool:=y.aO.same a
def FO(a:aG)(l:List aJ):List Int:=(l.takeWhile (jF a)).map aJ.cw
def vN:Nat->List aJ->List aJ->List aJ×Int
 | 0,_,out=>(out,0)
 | _+1,[],out=>(out,0)
 |n+1,x::r,out=>if bR (aK (FO x.aO (x::r)))then vN n ((x::r).dropWhile (jF x.aO)) (out++tR x.aO (aK (FO x.aO (x::r))))else([],1)
def mL(x y:aJ):Bool:=x.aO.less y.aO
def rJ(l:List aJ):List aJ×Int:=if nE l then vN (Ag mL l).length (Ag mL l) []else([],3)
theorem F3{A:Type}{p:A->Bool}:∀{l:List A} {k:Nat},k<=l.length->(∀m y,m<k->l[m]?=some y->p y=true)->(∀y,l[k]?=some y->p y=false)->l.takeWhile p=l.take k/\l.dropWhile p=l.drop k
 | [],k,_,_,_=>by simp
 |x::r,0,_,_,h=>by
  have:=h x rfl;simp[takeWhile,dropWhile,this]
 |x::r,k+1,hk,h1,h2=>by
  have c:=h1 0 x aj rfl;simp only[length_cons]at hk;obtain⟨b,e2⟩:=F3 (l:=r) (k:=k) aj (λm y hm a=>h1 (m+1) y aj a) (λy a=>h2 y a);simp[takeWhile,dropWhile,c,b,e2]
def GJ(n:Nat)(out:List aJ):vN n [] out=(out,0):=by cases n<;>rfl
theorem GY(l:List aJ)(hl:l.length<2^29):Sq 83 [] [.sl 4 (l.map aJ.cells)] [.own 4 ((rJ l).1.map aJ.cells)] (.bH [.ref 0,.int .i64 (rJ l).2]):=by
 have hM:=uf l aj;refine aX 68 1 [.tmp 2,.tmp 3] mixed func83 ?_;refine sc aI hM ?_;cases Q:nE l
 ·simp only[go_sem,seval,rJ,Q]<;>simp
 have hS:=FY mL 180 G6 l aj;have X:=wW mL l;obtain⟨S,J⟩:=aV (Ag mL l);have hj:rJ l=vN S.length S []:=by rw[rJ,Q,aE rfl,<-J]
 rw[hj];rw[<-J]at hS X;have hSl:S.length=l.length:=X.length_eq;have L:∀x∈S,bR x.cw=true:=λx F=>(qc Q x (X.mem_iff.1 F)).2;obtain⟨N,Z⟩:=aV (S.length);rw[<-Z];refine sg [272] aI hS ?_;have g:S.length=N:=Z.symm;refine aF.sE (T:=Nat×Nat×List aJ) [4] [272] (λs=>[(6,.I ((s.2.1:Nat):Int)),(5,.ref 1072)]) (λs=>[(1072,.own 4 (s.2.2.map aJ.cells))]) (λs=>s.2.1<=N/\N-s.2.1<=s.1/\s.2.2.length<=s.2.1/\vN s.1 (S.drop s.2.1) s.2.2=vN N S []) (λs=>N-s.2.1) (N,0,[]) ⟨Nat.zero_le _,Nat.sub_le _ _,cX _,rfl⟩ ?_ ?_
 ·exact lA
 ·rintro⟨n,i,out⟩ ⟨h1,h2,h3,h4⟩;dsimp only at h1 h2 h3 h4;rcases cq i N with hi|hi
  ·have R:decide ((i:Int)<(N:Int))=true:=kN;have C:i<S.length:=aj
   obtain⟨x,F⟩:=iw C;have e:S.drop i=x::S.drop (i+1):=by
    rw[drop_eq_getElem_cons C];congr 1;rw[ec C]at F;exact Option.some.inj F
   have P:=(gi (c:=aJ.cells) F F).1;obtain⟨j,rfl⟩:∃j,n=j+1:=⟨n-1,by omega⟩
   simp only[aJ.cells]at P;refine sm (a3 g R P) ?_;refine bG ?_;refine aF.sE (T:=Nat) [4,5,8] [144,272,1072] (λk=>[(6,.I ((i+k:Nat):Int)),(7,.ref 816)]) (λk=>[(816,.own 1 (ints (((S.drop i).take k).map aJ.cw)))]) (λk=>i+k<=N/\∀m y,m<k->(S.drop i)[m]?=some y->jF x.aO y=true) (λk=>N-(i+k)) 0 ⟨by omega,by intro m y P;omega⟩ ?_ ?_
   ·simp only[go_sem,seval,Nat.add_zero]<;>simp[ints]
   ·rintro k ⟨k1,k2⟩;have htk:((S.drop i).take k).length<=k:=by rw[dw];omega
    rcases cq (i+k) N with hik|hik
    ·have O:decide (((i+k:Nat):Int)<(N:Int))=true:=kN;have wk:IntKind.wrap .i64 (((i+k:Nat):Int)+1)=((i+(k+1):Nat):Int):=eM;have K:i+k<S.length:=aj
     obtain⟨y,r⟩:=iw K;have G:(S.drop i)[k]?=some y:=by rw[getElem?_drop];exact r
     have D:=(gi (c:=aJ.cells) r r).1;have q:(y.kind==x.kind&&(y.who==x.who&&y.cur==x.cur))=jF x.aO y:=rfl;simp only[aJ.cells]at D;cases H:jF x.aO y
     ·rw[H]at q;have W:0<k:=by
       rcases Nat.eq_zero_or_pos k with U|U
       ·subst U;rw[Nat.add_zero,F]at r;obtain rfl:=Option.some.inj r;rw[jF,wO.2 ⟨rfl,rfl,rfl⟩]at H;cases H
       ·exact U
      have M:=F3 (p:=jF x.aO) (l:=S.drop i) (k:=k) (by rw[dW];omega) k2 (λz t=>by rw[G]at t;obtain rfl:=Option.some.inj t;exact H);refine sm (a4 g O D q) ?_;refine bG ?_;have w:FO x.aO (x::S.drop (i+1))=((S.drop i).take k).map aJ.cw:=by rw[<-e,FO,M.1]
      have B:(x::S.drop (i+1)).dropWhile (jF x.aO)=S.drop (i+k):=by rw[<-e,M.2,drop_drop]
      rw[e,vN,w,B]at h4;have b:∀a∈((S.drop i).take k).map aJ.cw,bR a=true:=by
       intro a V;obtain⟨y,r,rfl⟩:=mem_map.1 V;exact L y (mem_of_mem_drop (mem_of_mem_take r))
      have v:(((S.drop i).take k).map aJ.cw).length<=N:=by rw[mY,dw,dW];omega
      obtain⟨A,u⟩:=aV (((S.drop i).take k).map aJ.cw);rw[<-u]at h4 b v |-;have d:=oA A aj;have E:right A=true:=cR.2 b;rw[nH,nG,E,cF,aE rfl]at d;refine dM.id ?_;refine sl aI d ?_;cases f:bR (aK A)
      ·rw[f,az mE]at h4;rw[<-h4];exact lG f
      ·rw[f,aE rfl]at h4;cases o:aK A==0
       ·rw[tR,o,az mE]at h4;refine sm (a3 f lH o) ?_;refine bG ?_;refine⟨(j,i+k,out++[⟨x.aO.kind,x.aO.who,x.aO.cur,aK A⟩]),⟨k1,by show N-(i+k)<=j;omega,by show(out++[_]).length<=i+k;rw[cT];simp only[length_cons,length_nil];omega,h4⟩,?_,by show N-(i+k)<N-i;omega⟩;simp only[go_sem,seval,jH]<;>simp[aJ.aO]
       ·rw[tR,o,aE rfl,append_nil]at h4;refine sm (a3 f lH o) ?_;refine bG ?_;refine⟨(j,i+k,out),⟨k1,by show N-(i+k)<=j;omega,by show out.length<=i+k;omega,h4⟩,?_,by show N-(i+k)<N-i;omega⟩;exact lA
     ·rw[H]at q;simp only[go_sem,seval,g,O,D,q,aL,wk];refine bG ?_;have Y:((S.drop i).take (k+1)).map aJ.cw=((S.drop i).take k).map aJ.cw++[y.cw]:=by rw[take_add_one,G,jH];rfl
      refine⟨k+1,⟨by omega,?_⟩,?_,by show N-(i+(k+1))<N-(i+k);omega⟩
      ·intro m z P t;rcases cq m k with h|h
       ·exact k2 m z h t
       ·obtain rfl:m=k:=aj
        rw[G]at t;obtain rfl:=Option.some.inj t;exact H
      ·simp only[go_sem,seval,Y,ints,jH,map_cons,map_nil]
    ·have O:decide (((i+k:Nat):Int)<(N:Int))=false:=kR;have W:0<k:=aj
     have M:=F3 (p:=jF x.aO) (l:=S.drop i) (k:=k) (by rw[dW];omega) k2 (λz t=>by rw[getElem?_eq_none (by rw[dW];omega)]at t;cases t);refine sm (a2 g O) ?_;refine bG ?_;have w:FO x.aO (x::S.drop (i+1))=((S.drop i).take k).map aJ.cw:=by rw[<-e,FO,M.1]
     have B:(x::S.drop (i+1)).dropWhile (jF x.aO)=S.drop (i+k):=by rw[<-e,M.2,drop_drop]
     rw[e,vN,w,B]at h4;have b:∀a∈((S.drop i).take k).map aJ.cw,bR a=true:=by
      intro a V;obtain⟨y,r,rfl⟩:=mem_map.1 V;exact L y (mem_of_mem_drop (mem_of_mem_take r))
     have v:(((S.drop i).take k).map aJ.cw).length<=N:=by rw[mY,dw,dW];omega
     obtain⟨A,u⟩:=aV (((S.drop i).take k).map aJ.cw);rw[<-u]at h4 b v |-;have d:=oA A aj;have E:right A=true:=cR.2 b;rw[nH,nG,E,cF,aE rfl]at d;refine dM.id ?_;refine sl aI d ?_;cases f:bR (aK A)
     ·rw[f,az mE]at h4;rw[<-h4];exact lG f
     ·rw[f,aE rfl]at h4;cases o:aK A==0
      ·rw[tR,o,az mE]at h4;refine sm (a3 f lH o) ?_;refine bG ?_;refine⟨(j,i+k,out++[⟨x.aO.kind,x.aO.who,x.aO.cur,aK A⟩]),⟨k1,by show N-(i+k)<=j;omega,by show(out++[_]).length<=i+k;rw[cT];simp only[length_cons,length_nil];omega,h4⟩,?_,by show N-(i+k)<N-i;omega⟩;simp only[go_sem,seval,jH]<;>simp[aJ.aO]
      ·rw[tR,o,aE rfl,append_nil]at h4;refine sm (a3 f lH o) ?_;refine bG ?_;refine⟨(j,i+k,out),⟨k1,by show N-(i+k)<=j;omega,by show out.length<=i+k;omega,h4⟩,?_,by show N-(i+k)<N-i;omega⟩;exact lA
  ·have R:decide ((i:Int)<(N:Int))=false:=kR;rw[drop_of_length_le aj,GJ]at h4;rw[<-h4];exact lG (a2 g R)
def LD:Ord mL where
 TC x y h:=by
  unfold mL at *;rw[NK];rw[Fo]at h;unfold aG.lt at *;omega
 OY x y z h1 h2:=by
  unfold mL at *;rw[NK]at *;unfold aG.lt at *;omega
theorem NM{A:Type}{p:A->Bool}:∀{l:List A} {y:A},y∈l.takeWhile p->p y=true
 | [],y,h=>by cases h
 |x::r,y,h=>by
  rw[takeWhile_cons]at h;split at h
  ·rename_i a;rcases mem_cons.1 h with rfl|h
   ·exact a
   ·exact NM h
  ·cases h
def mo{a:aG}{y:aJ}:jF a y=true↔y.aO=a:=by
 unfold jF;rw[wO];obtain⟨a1,a2,a3⟩:=a;generalize y.aO=b;obtain⟨b1,b2,b3⟩:=b;rw[aG.mk.injEq]
def td(a:aG)(l m:List aJ):dz a (l++m)=dz a l++dz a m:=by simp[dz,pick]
theorem qN{a:aG}:∀{l:List aJ},(∀y∈l,y.aO≠a)->dz a l=[]
 | [],_=>rfl
 |y::r,h=>by
  have c:y.aO.same a=false:=by
   cases d:y.aO.same a with
   |false=>rfl
   |true=>exact absurd (mo.1 d) (h y sT)
  have b:=qN (l:=r) λz e=>h z (by simp[e]);simp only[dz,pick]at b |-;rw[flatMap_cons,b,az (by rw[c];exact mE)];rfl
theorem Bv{a:aG}:∀{l:List aJ},(∀y∈l,y.aO=a)->dz a l=l.map aJ.cw
 | [],_=>rfl
 |y::r,h=>by
  have c:y.aO.same a=true:=mo.2 (h y sT);have b:=Bv (l:=r) λz d=>h z (by simp[d]);simp only[dz,pick]at b |-;rw[flatMap_cons,b,aE c];rfl
def uI(l:List aJ)(a:aG)(K:List aG):mH l (a::K)=tR a (aK (dz a l))++mH l K:=by simp[mH]
theorem sy{l m:List aJ}:∀{K:List aG},(∀b∈K,aK (dz b l)=aK (dz b m))->mH l K=mH m K
 | [],_=>rfl
 |a::K,h=>by rw[uI,uI,h a sT,sy λb c=>h b (by simp[c])]
theorem qK{l m:List aJ}:∀{K:List aG},(∀b∈K,aK (dz b l)=aK (dz b m))->gU l K=gU m K
 | [],_=>rfl
 |a::K,h=>by
  have c:=qK (l:=l) (m:=m) (K:=K) λb d=>h b (by simp[d]);simp only[gU,all_cons]at c |-;rw[h a sT,c]
theorem vO:∀(K:List aG)(n:Nat)(S out:List aJ),S.length<=n->K.Pairwise (λa b=>a.less b=true)->y8 mL S->(∀x∈S,x.aO∈K)->vN n S out=if gU S K then(out++mH S K,0)else([],1)
 | [],n,S,out,hn,hK,hS,hm=>by
  cases S with
  |nil=>rw[GJ];simp[gU,mH]
  |cons x r=>exact absurd (hm x sT) sT
 |a::K,n,S,out,hn,hK,hS,hm=>by
  rw[oC]at hK;obtain⟨q,i⟩:=hK;obtain⟨T,p⟩:=aV (S.takeWhile (jF a));obtain⟨R,s⟩:=aV (S.dropWhile (jF a));have c:S=T++R:=by rw[p,s,takeWhile_append_dropWhile]
  have u:∀y∈T,y.aO=a:=λy d=>mo.1 (NM (p ▸ d));have o:y8 mL R:=by
   have:y8 mL (T++R):=c ▸ hS;exact(pairwise_append.1 this).2.1
  have j:∀y∈R,y.aO∈K:=by
   cases f:R with
   |nil=>intro y d;cases d
   |cons z r =>
    have w:jF a z=false:=by
     have:=head?_dropWhile_not (jF a) S;rw[<-s,f]at this;simpa using this
    have G:z.aO∈K:=by
     rcases mem_cons.1 (hm z (by rw[c,f];simp))with h|h
     ·rw[mo.2 h]at w;cases w
     ·exact h
    intro y d;rcases mem_cons.1 (hm y (by rw[c,f];simp only[mem_append];exact .inr d))with h|h
    ·exfalso;rcases mem_cons.1 d with rfl|d
     ·rw[mo.2 h]at w;cases w
     ·have A:=q z.aO G;rw[f]at o;have H:mL y z=false:=(oC.1 o).1 y d;rw[mL,h,A]at H;cases H
    ·exact h
  have v:∀b∈K,b≠a:=by
   intro b g h;have:=q b g;rw[h,Fo]at this;unfold aG.lt at this;omega
  have B:dz a R=[]:=qN λy d=>v _ (j y d);have D:dz a T=T.map aJ.cw:=Bv u;have C:dz a S=T.map aJ.cw:=by rw[c,td,B,D,append_nil]
  have t:∀b∈K,aK (dz b S)=aK (dz b R):=by
   intro b g;rw[c,td,qN (l:=T) λy d=>by rw[u y d];exact(v b g).symm];rfl
  rw[show gU S (a::K)=(bR (aK (dz a S))&&gU S K)from rfl,uI,C,qK t,sy t];cases S with
  |nil =>
   have k:T=[]:=p;have e:R=[]:=s;have:=vO K n [] out (Nat.zero_le _) i Pairwise.nil (by intro x I;cases I);rw[this,k,e];rfl
  |cons x r =>
   cases g:jF a x with
   |false =>
    have k:T=[]:=by rw[p,takeWhile_cons,g];rfl
    have e:R=x::r:=by rw[s,dropWhile_cons,g];rfl
    have:=vO K n (x::r) out hn i hS (by rw[<-e];exact j);rw[this,k,e];rfl
   |true =>
    obtain⟨n,rfl⟩:∃m,n=m+1:=⟨n-1,by simp only[length_cons]at hn;omega⟩
    have F:x.aO=a:=mo.1 g;have E:R.length<=n:=by
     have A:T=x::r.takeWhile (jF a):=by rw[p,takeWhile_cons,g];rfl
     have:=congrArg length c;rw[cT,A,length_cons,length_cons]at this;simp only[length_cons]at hn;omega
    have:=vO K n R (out++tR a (aK (T.map aJ.cw))) E i o j;rw[vN,F,FO,<-p,<-s,this];cases bR (aK (T.map aJ.cw))<;>simp
theorem Mi{l m:List Int}(h:l.Perm m):aK l=aK m:=by
 induction h with
 |nil=>rfl
 |cons x _ ih=>simp only[aK,ih]
 |swap x y l=>simp only[aK];omega
 |trans _ _ h1 h2=>rw[h1,h2]
def Ea(a:aG){l m:List aJ}(h:l.Perm m):aK (dz a l)=aK (dz a m):=Mi (by unfold dz pick;exact h.flatMap_right _)
def GX(f:∀x:aG,x.right=true->x∈eK)(g:eK.Pairwise λa b=>a.less b=true)(l:List aJ):rJ l=(mI l,pZ l):=by
 unfold rJ mI pZ;cases e:nE l
 ·rfl
 ·have c:=wW mL l;have d:=qc e;rw[aE rfl,vO eK _ _ [] (cX _) g (KJ LD l) (λx h=>f _ (d x (c.mem_iff.1 h)).1)];rw[qK (m:=l) λb _=>Ea b c,sy (m:=l) λb _=>Ea b c];cases gU l eK<;>rfl
theorem Df(l:List aJ)(hl:l.length<2^30):Sq 95 [] [.sl 4 (l.map aJ.cells)] [] (.int .i64 (jc l)):=by
 have F:=uf l aj;refine aX 53 1 [.tmp 2] mixed func95 ?_;refine s0 ?_;by_cases b:l.length=0
 ·have d:((l.length:Int)==0)=true:=by simp[b]
  have e:jc l=2:=by simp[jc,b]
  exact dJ (a2 d e)
 have r:((l.length:Int)==0)=false:=su b;by_cases s:64<l.length
 ·have d:decide (64<(l.length:Int))=true:=kN;have e:jc l=5:=by simp only[jc];rw[az b,aE s]
  exact dJ (a3 r d e)
 have D:decide (64<(l.length:Int))=false:=kR;refine sc (a2 r D) F ?_;cases f:nE l
 ·have e:jc l=3:=by simp only[jc];rw[az b,az s,f];rfl
  exact dJ e
 have e:jc l=if oI l then 0 else 12:=by simp only[jc];rw[az b,az s,f];rfl
 have z:=qc f;rw[e];clear e r D F;refine s0 ?_;refine aF.w1 3 21 [0] [] (λi _=>∀c<i,(aK (jo (c:Nat) l)==0)=true) sT ?_ ?_
 ·intro c _ g a B t;have a:decide ((c:Int)<3)=true:=a;have E:=oA (jo c l) (by have:=fu (λx:aJ=>x.cur==(c:Int)) aJ.cw l;unfold jo;omega);have A:right (jo c l)=true:=cR.2 (qj λx C=>(z x C).2);rw[nH,nG,A,cF,aE rfl]at E;have b:=Zc (jo c l);rw[addN]at b;refine sm a ?_;refine aF.wv l.length [0,3,21,24,25] [416] (λi=>[(26,.I i),(4,.ref 640)]) (λi=>[(640,.own 1 (ints (jo c (l.take i))))]) ?_ ?_ ?_
  ·simp only[go_sem,seval]<;>simp[jo,pick,ints]
  ·intro i _ p w n _;have q:=aP (c:=aJ.cells) l p;have m:ints (jo c (l.take (i+1)))=_:=kf (λx:aJ=>x.cur==(c:Int)) aJ.cw p;have j:=fu (λx:aJ=>x.cur==(c:Int)) aJ.cw (l.take i);have hlt:(l.take i).length=i:=by simp;omega
   have hli:(i:Int)<(l.length:Int):=aj
   have j:(jo c (l.take i)).length<=i:=by unfold jo;omega
   obtain⟨x,C⟩:=aV (l[i]);rw[<-C]at m q;simp only[aJ.cells]at q;refine sm (a2 w q) ?_;refine bG ?_;cases G:x.cur==(c:Int)
   ·simp only[G,jm,if_false,if_true,append_nil]at m;refine sm n ?_;refine af.v p ?_;simp only[go_sem,seval,m]<;>simp[jo]
   ·simp only[G,jm,if_false,if_true,append_nil]at m;simp only[go_sem,seval,n,aL,q];refine bG ?_;refine af.v p ?_;simp only[go_sem,seval,m]<;>simp[jo]
  ·intro _ y _;simp only[go_sem,seval,y,ef];refine sl aI E ?_;cases f:bR (aK (jo c l))
   ·have:oI l=false:=by
     rw[oI,all_eq_false];exact⟨c,mem_range.2 g,by rw[f]at b;rw[<-b];simp⟩
    exact dJ (a3 lH f this)
   rw[f,cF,aE rfl]at b;cases o:aK (jo c l)==0
   ·have:oI l=false:=by
     rw[oI,all_eq_false];exact⟨c,mem_range.2 g,by rw[o];exact mE⟩
    exact dJ (a4 f lH o this)
   refine sm (a4 f lH o B) ?_;refine af.u g ?_ ?_
   ·intro k hk;rcases cq k c with h|h
    ·exact t k h
    ·obtain rfl:k=c:=aj
     exact o
   ·exact iM
 ·intro _ a t;have a:decide ((3:Int)<3)=false:=a;have:oI l=true:=cR.2 λc g=>t c (mem_range.1 g);exact dJ (a2 a this)
def eI(b:bn):aJ:=⟨b.kind,b.who,b.cur,b.sum⟩
def qM(x:aJ):bn:=⟨x.kind,x.who,x.cur,x.cw⟩
def Bz(x:aJ):Bool:=decide (x.cw<x.aO.floor)
def wz(l:bS)(g:List aJ):List aJ×Int:=rJ (g++l.bs.map eI)
def gZ(l:bS)(id:Int)(g:List aJ):Int:=
 if l.okB then(if within id 1 1099511627776 then(if id<=l.last then 18 else if jc g=0 then(if(wz l g).2=0 then(if(wz l g).1.any Bz then 13 else 0)else(wz l g).2)else jc g)else 3)else 14
def kg(l:bS)(id:Int)(g:List aJ):bS:=if gZ l id g=0 then⟨id,(wz l g).1.map qM⟩else⟨0,[]⟩
def abk(l:List aJ):(Ag mL l).length=l.length:=KI _ _
theorem GI:∀(n:Nat)(S out:List aJ),(vN n S out).1.length<=out.length+S.length
 | 0,_,out=>by simp[vN]
 | _+1,[],out=>by simp[vN]
 |n+1,x::r,out=>by
  unfold vN;split
  ·have a:=GI n ((x::r).dropWhile (jF x.aO)) (out++tR x.aO (aK (FO x.aO (x::r))));have h2:=G7 x.aO (aK (FO x.aO (x::r)));have h3:((x::r).dropWhile (jF x.aO)).length<=r.length:=by
    rw[dropWhile_cons,show jF x.aO x=true from wO.2 ⟨rfl,rfl,rfl⟩];exact(dropWhile_suffix _).length_le
   rw[cT]at a;rw[length_cons];omega
  ·simp
def D7(l:List aJ):(rJ l).1.length<=l.length:=by
 unfold rJ;split
 ·have:=GI (Ag mL l).length (Ag mL l) [];rw[abk]at this |-;simpa using this
 ·simp
theorem HA(l:bS)(id:Int)(g:List aJ)(hl:l.bs.length<2^28)(hg:g.length<2^28):Sq 30 [] [.agg l.cells,.int .i64 id,.sl 4 (g.map aJ.cells)] [.own 4 ((kg l id g).bs.map bn.cells)] (.bH [.agg [.int .i64 (kg l id g).last,.ref 0],.int .i64 (gZ l id g)]):=by
 have R:=pg l aj;have U:=Df g aj;have Q:=GY (g++l.bs.map eI) (by rw[cT,mY];omega);have q:=D7 (g++l.bs.map eI);rw[cT,mY]at q;simp only[bS.cells]at R |-;refine aX 98 3 [.cell 6 35,.tmp 7] mixed func30 ?_;refine sc aI R ?_;cases w:l.okB
 ·have e:gZ l id g=14:=by simp[gZ,w]
  simp only[go_sem,seval,kg,e]<;>simp
 cases n:within id 1 1099511627776
 ·have e:gZ l id g=3:=by simp[gZ,w,n]
  simp only[within,Bool.and_eq_false_iff,iX]at n;by_cases h:id<1
  ·have d:decide (id<1)=true:=gJ h;simp only[go_sem,seval,d,kg,e]<;>simp
  ·have d:decide (id<1)=false:=kY h;have y:decide (1099511627776<id)=true:=kN;simp only[go_sem,seval,d,y,kg,e]<;>simp
 have M:decide (id<1)=false:=by simp only[within,dO,bP]at n;exact kR
 have y:decide (1099511627776<id)=false:=by simp only[within,dO,bP]at n;exact kR
 by_cases z:id<=l.last
 ·have H:decide (id<=l.last)=true:=gJ z;have e:gZ l id g=18:=by simp[gZ,w,n,z]
  simp only[go_sem,seval,M,y,H,kg,e]<;>simp
 have H:decide (id<=l.last)=false:=kY z;refine sc (a3 M y H) U ?_;cases C:jc g==0
 ·have K:jc g≠0:=su C;have e:gZ l id g=jc g:=by simp[gZ,w,n,z,K]
  have e2:kg l id g=⟨0,[]⟩:=by simp[kg,e,K]
  exact lG (a4 lH C e e2)
 have K:jc g=0:=su C;have e:gZ l id g=if(wz l g).2=0 then(if(wz l g).1.any Bz then 13 else 0)else(wz l g).2:=by simp[gZ,w,n,z,K]
 simp only[kg];rw[e];clear e R U n M y H;rw[show rJ (g++l.bs.map eI)=wz l g from rfl]at Q q;obtain⟨J,p⟩:=aV ((wz l g).1);obtain⟨E,A⟩:=aV ((wz l g).2);rw[<-p,<-A]at Q;rw[<-p]at q;rw[<-p,<-A];refine sm (a2 lH C) ?_;refine bG ?_;have e0:g.map aJ.cells=(g++(l.bs.take 0).map eI).map aJ.cells:=by simp
 rw[e0];refine aF.wv l.bs.length [1,3,6,47,48] [64,112] (λi=>[(49,.I i),(9,.ref 976)]) (λi=>[(976,.own 4 ((g++(l.bs.take i).map eI).map aJ.cells))]) ?_ ?_ ?_
 ·exact iM
 ·intro i _ m r t _;obtain⟨b,V,B,T⟩:=uy (c:=bn.cells) l.bs m;have a:(g++(l.bs.take (i+1)).map eI)=(g++(l.bs.take i).map eI)++[eI l.bs[i]]:=by rw[kM m,jH,cu];rfl
  have k:(g++(l.bs.take i).map eI).length<=g.length+i:=by rw[cT,mY,dw];omega
  rw[<-V]at a;obtain⟨W,S⟩:=aV (g++(l.bs.take i).map eI);rw[<-S]at a k |-;simp only[bn.cells]at B;refine sm (a3 r B t) ?_;refine bG ?_;refine af.v m ?_;simp only[go_sem,seval,a,jH,map_cons,map_nil,eI]
 ·intro _ s _;rw[ef];refine sm s ?_;refine ak.fk [976] [] false sT ?_;refine s0 ?_;refine bX.fV Q ?_;cases D:E==0
  ·have N:E≠0:=su D;exact lG (a3 lH D N)
  have N:E=0:=su D;subst N;refine sm (a2 lH D) ?_;refine aF.wu J.length [6,13,73,74] [112,1040] (λi=>[(75,.I i)]) (λi=>[(224,.box [.I id,.ref 1520]),(1520,.own 4 (((J.take i).map qM).map bn.cells))]) (λi=>(J.take i).any Bz=false) rfl ?_ ?_ ?_
  ·exact lA
  ·intro i _ m r t L;obtain⟨x,X,B,T⟩:=uy (c:=aJ.cells) J m;have a:(J.take (i+1)).map qM=(J.take i).map qM++[qM J[i]]:=by rw[kM m,jH];rfl
   have f:(J.take (i+1)).any Bz=((J.take i).any Bz||Bz J[i]):=by rw[kM m,any_append];simp
   have o:Bz J[i]=true->J.any Bz=true:=λh=>any_eq_true.2 ⟨J[i],cZ m,h⟩;have k:((J.take i).map qM).length<=i:=by rw[mY,dw];omega
   rw[<-X]at a f o;have O:=rQ x.aO;have j:Bz x=decide (x.cw<x.aO.floor):=rfl;obtain⟨F,P⟩:=aV (x.aO.floor);rw[<-P]at O j;obtain⟨W,S⟩:=aV ((J.take i).map qM);rw[<-S]at a k |-;simp only[aJ.cells]at B;simp only[aG.cells,aJ.aO]at O;refine sc (a2 r B) O ?_;cases G:decide (x.cw<F)
   ·rw[G]at j;rw[j,Bool.or_false]at f;refine sm (a2 G t) ?_;refine bG ?_;refine af.u m (by rw[f];exact L) ?_;simp only[go_sem,seval,a,jH,map_cons,map_nil,qM]
   ·rw[G]at j;have:=o j;exact lG (a2 G this)
  ·intro _ s L;rw[ef]at L |-;exact lG (a2 s L)
theorem EA(a b:List Int):aK (a++b)=aK a+aK b:=by
 induction a with
 |nil=>simp[aK]
 |cons x r ih=>simp only[cons_append,aK,ih];omega
def Bg{a:aG}{b:bn}:Lv a b=true↔b.aO=a:=by
 have:Lv a b=jF a (eI b):=rfl;rw[this,mo];rfl
theorem Ej{a:aG}:∀{bs:List bn},(∀b∈bs,b.aO≠a)->m0 a bs=0
 | [],_=>rfl
 |b::r,h=>by
  have c:Lv a b=false:=by
   cases d:Lv a b with
   |false=>rfl
   |true=>exact absurd (Bg.1 d) (h b sT)
  rw[m0,c];exact Ej λz e=>h z (by simp[e])
theorem G8(a:aG):∀{bs:List bn},bs.Pairwise (λx y=>x.aO.less y.aO=true)->aK (dz a (bs.map eI))=m0 a bs
 | [],_=>rfl
 |b::r,h=>by
  rw[oC]at h;have j:=G8 a h.2;have g:dz a ((b::r).map eI)=dz a [eI b]++dz a (r.map eI):=td a [eI b] (r.map eI);rw[g,EA,j,m0];cases f:Lv a b with
  |false =>
   rw[qN (l:=[eI b]) λy e=>by
    rw[kK.1 e];intro d;have:Lv a b=true:=Bg.2 d
    rw[f]at this;cases this]
   simp[aK]
  |true =>
   have c:=Bg.1 f;rw[Bv (l:=[eI b]) λy e=>by rw[kK.1 e];exact c]
   rw[Ej λz i=>by
    intro d;have:=h.1 z i;rw[d,c,Fo]at this
    unfold aG.lt at this;omega]
   simp[aK,eI]
def floor_le(a:aG):a.floor<=0:=by
 unfold aG.floor;split<;>omega
def post_eq(t:∀x:aG,x.right=true->x∈eK)(u:eK.Pairwise λa b=>a.less b=true)
  (h:∀bs:List bn,iK bs=true->(∀b∈bs,k8 b=true)/\bs.Pairwise (λx y=>x.aO.less y.aO=true))
  (l:bS) (id:Int) (g:List aJ):gZ l id g=dU l id g/\kg l id g=lT l id g:=by
 have key:l.okB=true->jc g=0->(wz l g).2=(if ql l g eK then 0 else 1)/\(ql l g eK=true->(wz l g).1.any Bz=qk l g eK/\(wz l g).1.map qM=zw l g eK):=by
  intro e d;have n:iK l.bs=true:=by
   unfold bS.okB at e;simp only[dO]at e;exact e.1.2
  obtain⟨s,o⟩:=h _ n;have r:=(AI d).1;have i:nE (g++l.bs.map eI)=true:=by
   unfold nE at r |-;rw[all_append,r,cF,cR];intro x v;obtain⟨b,k,rfl⟩:=mem_map.1 v;have:=s b k;unfold k8 at this;simp only[dO]at this;unfold Ef;rw[dO];exact⟨this.1,this.2.1⟩
  have p:∀a,aK (dz a (g++l.bs.map eI))=lM l g a:=by
   intro a;rw[td,EA,G8 a o,lM,aK];omega
  have m:gU (g++l.bs.map eI) eK=ql l g eK:=by
   unfold gU ql;congr 1;funext a;rw[p]
  unfold wz;rw[GX t u];unfold mI pZ;rw[i,aE rfl,m];refine⟨rfl,λf=>?_⟩;rw[f,aE rfl,aE rfl];refine⟨?_,?_⟩
  ·unfold mH qk;rw[any_flatMap];congr 1;funext a;rw[p];unfold tR;cases w:lM l g a==0
   ·simp[Bz,aJ.aO];rfl
   ·have:lM l g a=0:=su w;have hf:=floor_le a;simp[this];omega
  ·unfold mH zw;rw[map_flatMap];congr 1;funext a;rw[p];unfold tR tP;split<;>rfl
 have q:gZ l id g=dU l id g:=by
  unfold gZ dU;cases e:l.okB
  ·rfl
  cases h2:within id 1 1099511627776
  ·rfl
  by_cases j:id<=l.last
  ·rw[aE j,aE j]
  rw[az j,az j];by_cases d:jc g=0
  ·obtain⟨k1,k2⟩:=key e d;rw[aE d,aE d,k1];cases f:ql l g eK
   ·rfl
   ·rw[(k2 f).1];rfl
  ·rw[az d,az d]
 refine⟨q,?_⟩;unfold kg lT;rw[q];by_cases c:dU l id g=0
 ·rw[aE c,aE c];unfold dU at c;split at c
  ·rename_i e;split at c
   ·split at c
    ·cases c
    ·split at c
     ·rename_i d;split at c
      ·rename_i f;rw[((key e d).2 f).2]
      ·cases c
     ·rename_i d;exact absurd c d
   ·cases c
  ·cases c
 ·rw[az c,az c]
