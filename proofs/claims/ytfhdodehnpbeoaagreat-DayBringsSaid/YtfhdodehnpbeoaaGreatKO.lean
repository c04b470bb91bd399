/- Parts. -/
import Derived.Test.YtfhdodehnpbeoaaGreatKL
set_option linter.all false
set_option maxHeartbeats 4000000
set_option maxRecDepth 16000
namespace Go.Proofs.YtfhdodehnpbeoaaGreat
open Go.Abs Tryz
open List
def VX(w:Int)(l:List iu):(ur w l).length<=l.length:=by
 have:=gJ (f:=λp:iu=>if p.who==w then[]else[p]) (m:=1) (λp=>by split<;>simp) l;simpa[ur]using this
def Kn(w:Int)(l:List bn):(uq w l).length<=l.length:=by
 have:=gJ (f:=λb:bn=>if b.who==w||b.src==w then[]else[b]) (m:=1) (λp=>by split<;>simp) l;simpa[uq]using this
def qd(l:List (List Int)):List (List D):=l.map λx=>[.sl 1 (ints x)]
def Hf(l:List (List Int)):(qd l).length=l.length:=by simp[qd]
def VC(l:List (List Int)){i:Nat}(h:i<l.length):(qd l).getD i []=[.sl 1 (ints l[i])]:=by simp[qd,h]
def Wp(s:af)(w:Int)(hs:s.small)(hr:s.gq)(y:s.ak.ms.length<2^27)(hq:s.book.qs.length<2^20)(bf:s.aZ.length<2^20)(bm:s.bp.bs.length<2^29) :
  Sq 244 [] [.agg s.cells,.int .i64 w] [.own 3 (pl (iG s w).ps),.own 5 ((iG s w).aZ.map bn.cells),.own 8 ((tX s w).map eu.cells),.own 3 ((EU s w).map aH.cells)]
   (.bD [.agg [.int .i64 (iG s w).now,.int .i64 (iG s w).day,.int .i64 (iG s w).phase,.sl 3 ((iG s w).ak.ms.map av.cells),.sl 12 ((iG s w).ak.ns.map aF.cells),.sl 4 ((iG s w).ak.xs.map aD.cells),.int .i64 (iG s w).book.next,.sl 7 ((iG s w).book.ts.map aT.cells),.sl 4 ((iG s w).book.qs.map aE.cells),
    .int .i64 (iG s w).bp.last,.sl 4 ((iG s w).bp.bs.map bY.cells),.ref 0,.sl 4 ((iG s w).calls.map aB.cells),.ref 1,.sl 7 ((iG s w).aR.map bZ.cells)],.ref 2,.ref 3,.int .i64 (n7 s w)]):=by
 have c1:=Fk s w hs hr hq bf;have c2:=bg s hs;have hDl:=O4 s w hr hs hq;have cG:=λc=>xC w c (iT s w) aj;have cC:=λc g=>Ra s w c g hs hr y;have cF:=λc bJ B h=>Fg c bJ B h;have cX:=λc g f B a b rest h1 h2=>Lm s w c g f B a b rest h1 h2 hs hr y;have cP:=λl id g (h1:l.bs.length<2^30) h2 h3=>xy l id g h1 h2 h3;have z:=HE s.ak w 3 hs.ak;have cW:=Ir s.calls [w] hs.calls sT;have aO:jN s w=0->bS s=true:=λh=>by
  unfold jN at h;split at h
  ·rename_i y;exact(rB y).1
  ·rename_i y;exact absurd h y
 obtain⟨E,r⟩:=aL (n7 s w);have a0:=r;simp only[n7]at r;simp only[iG,tX,EU,<-a0];obtain⟨pe,bb⟩:=aL (jN s w);rw[<-bb]at c1 aO r;simp only[af.cells]at c1 c2 cC cX |-;simp only[aJ.cells]at c1;simp only[bu.cells]at cP;simp only[ay.cells]at z;simp only[eu.cells]at cF cX;simp only[ints,map_cons,map_nil]at cW;clear a0;refine aX 241 2 [.cell 4 42,.tmp 5,.tmp 6,.tmp 7] mixed func244 ?_;simp only[go_sem,seval];refine aV ?_;refine az.aP c1 ?_;clear c1;by_cases b1:pe=0
 case neg =>
  have d:(pe==0)=false:=su b1;rw[aq b1]at r;rw[r];simp only[aq b1];simp only[go_sem,seval,bne,d];(with_reducible and_intros)<;>first|exact .dq|omega|skip
  all_goals simp[af.zero,pl]
 obtain⟨aS,_,_,bw,_⟩:=wK (aO b1);have cX:=λc g f B a b rest h1 h2=>cX c g f B a b rest h1 h2 aS bw;rw[au b1]at r;rw[b1];clear aO bb b1;simp only[go_sem,seval];refine aV ?_;refine az.aP c2 ?_;clear c2;simp only[go_sem,seval];(with_reducible and_intros)<;>first|exact .dq|omega|skip
 obtain⟨F1,ar⟩:=aL (gI (vG s w) 3 0);rw[<-ar]at r;refine aG.wu 3 [1,2,4,8,9,10,12,13,14] [48,80,144,160,208] (λi=>[(16,.int .i64 i),(15,.ref 1024)]) (λi=>[(1024,.own 1 (ints (Cv (aW s w) i)))]) (λi=>gI (vG s w) (3-i) i=F1) ar.symm ?_ ?_ ?_
 ·simp only[go_sem,seval,L9]<;>simp[ints]
 ·intro c _ P o D j;have o:decide ((c:Int)<3)=true:=o;obtain⟨m,y⟩:∃m,3-c=m+1:=⟨3-c-1,by omega⟩
  have C:3-(c+1)=m:=aj
  rw[y]at j;simp only[gI]at j;have aU:=cG c;have e1:gR w c (iT s w)=vG s w c:=rfl;have e2:jF w c (iT s w)=aW s w c:=rfl;rw[e1,e2]at aU;have bc:=FD (aW s w) c;have al:=nZ (aW s w) c;have an:ints (Cv (aW s w) (c+1))=ints (Cv (aW s w) c)++[[.int .i64 (aW s w c)]]:=by rw[bc];simp only[ints,jv,map_cons,map_nil]
  obtain⟨T,hT⟩:=aL (Cv (aW s w) c);rw[<-hT]at an al |-;clear cG cC cF cX cP z cW bc hT e1 e2;simp only[go_sem,seval,o];refine aV ?_;refine az.aP aU ?_;by_cases q:vG s w c=0
  ·rw[au q]at j;rw[q];simp only[go_sem,seval,bne,aA,al,D];(with_reducible and_intros)<;>first|exact .dq|omega|skip
   refine ah.u P (by rw[C];exact j) ?_;simp only[go_sem,seval,an]
  ·have d:(vG s w c==0)=false:=su q;rw[aq q]at j;rw[<-j,aq q]at r;rw[r];simp only[aq q];simp only[go_sem,seval,bne,d];(with_reducible and_intros)<;>first|exact .dq|omega|skip
   all_goals simp[af.zero,pl]
 intro _ _ j;have j:F1=0:=j.symm;rw[au j]at r;clear cG j;have a2:=nZ (aW s w) 3;have A:∀c,c<3->(Cv (aW s w) 3)[c]?=some (aW s w c):=λc h=>by simp[Cv,h]
 obtain⟨GS,aw⟩:=aL (Cv (aW s w) 3);simp only[<-aw]at a2 A;rw[<-aw];clear aw;simp only[go_sem,seval];(with_reducible and_intros)<;>first|exact .dq|omega|skip
 obtain⟨F2,ae⟩:=aL (gI (rD s w) 3 0);rw[<-ae]at r;refine aG.wu 3 [1,2,4,8,9,12,14,15] [48,80,144,160,208,1024] (λi=>[(20,.int .i64 i),(13,.ref 1584),(19,.ref 1648)]) (λi=>[(1584,.own 8 ((Cv (bM s w) i).map eu.cells)),(1648,.own 1 (qd (Cv (jg s w) i)))]) (λi=>gI (rD s w) (3-i) i=F2) ae.symm ?_ ?_ ?_
 ·simp only[go_sem,seval,L9]<;>simp[qd]
 ·intro c _ P o D j;have o:decide ((c:Int)<3)=true:=o;obtain⟨m,y⟩:∃m,3-c=m+1:=⟨3-c-1,by omega⟩
  have C:3-(c+1)=m:=aj
  rw[y]at j;simp only[gI]at j;have Z:c<GS.length:=aj
  have aa:=ints_at GS Z;have aC:GS[c]=aW s w c:=by
   have:=A c P;rw[gF Z]at this;exact Option.some.inj this
  rw[aC]at aa;have bo:(c:Int)<(GS.length:Int):=aj
  have bd:=cC c (aW s w c);have bh:(gC s w c (aW s w c)).length<2^30:=by unfold gC;split<;>simp
  have ao:=cF c (gm s w c (aW s w c)) (gC s w c (aW s w c)) bh;have ad:rD s w c=if lp s w c (aW s w c)=0 then l7 c (gm s w c (aW s w c)) (gC s w c (aW s w c))else lp s w c (aW s w c):=rfl;have e1:lu c (gm s w c (aW s w c)) (gC s w c (aW s w c))=bM s w c:=rfl;have ab:=FD (bM s w) c;have am:=FD (jg s w) c;have ac:qd (Cv (jg s w) (c+1))=qd (Cv (jg s w) c)++[[.sl 1 (ints (gC s w c (aW s w c)))]]:=by rw[am];simp only[qd,jv,map_cons,map_nil,jg]
  have a9:=nZ (bM s w) c;have ba:=nZ (jg s w) c;rw[e1]at ao;obtain⟨T,hT⟩:=aL (Cv (bM s w) c);obtain⟨U,hU⟩:=aL (Cv (jg s w) c);rw[<-hT]at ab a9;rw[<-hU]at ac ba;rw[<-hT,<-hU];obtain⟨fl,ag⟩:=aL (bM s w c);rw[<-ag]at ao ab;clear cC cF cX cP z cW am hT hU e1 A;simp only[go_sem,seval,o,aA,aa];(with_reducible and_intros)<;>first|exact .dq|omega|skip
  refine az.aP bd ?_;by_cases q:lp s w c (aW s w c)=0
  case neg =>
   have d:(lp s w c (aW s w c)==0)=false:=su q;rw[aq q]at ad;rw[ad,aq q]at j;rw[<-j,aq q]at r;rw[r];simp only[aq q];simp only[go_sem,seval,bne,d];(with_reducible and_intros)<;>first|exact .dq|omega|skip
   all_goals simp[af.zero,pl]
  rw[au q]at ad;rw[q];simp only[go_sem,seval];refine aV ?_;refine az.aP ao ?_;rw[<-ad];by_cases G:rD s w c=0
  ·rw[au G]at j;rw[G];simp only[go_sem,seval,bne,Hf,a9,ba,D];(with_reducible and_intros)<;>first|exact .dq|omega|skip
   refine ah.u P (by rw[C];exact j) ?_;simp only[go_sem,seval,ab,ac]<;>simp
  ·have d:(rD s w c==0)=false:=su G;rw[aq G]at j;rw[<-j,aq G]at r;rw[r];simp only[aq G];simp only[go_sem,seval,bne,d];(with_reducible and_intros)<;>first|exact .dq|omega|skip
   all_goals simp[af.zero,pl]
 intro _ _ j;have j:F2=0:=j.symm;rw[au j]at r;have Y:∀c<3,rD s w c=0:=λc h=>Dt (ae.symm.trans j) c aj aj;clear cC cF j;have be:=nZ (bM s w) 3;have N:∀c,c<3->(Cv (bM s w) 3)[c]?=some (bM s w c):=λc h=>by simp[Cv,h]
 have aY:(qd (Cv (jg s w) 3)).length=3:=by rw[Hf,nZ]
 have J:∀c,c<3->(qd (Cv (jg s w) 3)).getD c []=[.sl 1 (ints (jg s w c))]:=λc h=>by
  rw[VC _ (by rw[nZ];exact h)];simp[Cv]
 obtain⟨FX,a1⟩:=aL (Cv (bM s w) 3);simp only[<-a1]at be N;obtain⟨CS,ap⟩:=aL (qd (Cv (jg s w) 3));simp only[<-ap]at aY J;rw[<-ap];obtain⟨R,hR⟩:=aL (qQ s w 3 0 s.bp []);simp only[<-hR]at r |-;clear ap;have aN:s.bp.fY:=⟨bm,hr.bs,hr.last⟩
 simp only[go_sem,seval,<-a1];(with_reducible and_intros)<;>first|exact .dq|omega|skip
 refine aG.rT (S:=bu×List aH) 3 [1,2,4,8,9,12,13,15,19] [48,80,144,160,1024,1584,1648] (λi _=>[(25,.int .i64 i),(14,.ref 2544)])
  (λ_ x=>[(208,.box [.int .i64 s.now,.int .i64 s.day,.int .i64 s.phase,.sl 3 (s.ak.ms.map av.cells),.sl 12 (s.ak.ns.map aF.cells),.sl 4 (s.ak.xs.map aD.cells),.int .i64 s.book.next,.sl 7 (s.book.ts.map aT.cells),.sl 4 (s.book.qs.map aE.cells),
   .int .i64 x.1.last,.sl 4 (x.1.bs.map bY.cells),.sl 3 (pl s.ps),.sl 4 (s.calls.map aB.cells),.sl 5 (s.aZ.map bn.cells),.sl 7 (s.aR.map bZ.cells)]),(2544,.own 3 (x.2.map aH.cells))])
  (λi x=>qQ s w (3-i) i x.1 x.2=R/\x.1.fY/\x.2.length<=i) (s.bp,[]) ⟨hR.symm,aN,fO _⟩ ?_ ?_ ?_
 ·simp only[go_sem,seval]<;>simp
 ·intro c x P o D j;obtain⟨L,p⟩:=x;obtain⟨j,O,aQ⟩:=j;dsimp only at j O aQ |-;have o:decide ((c:Int)<3)=true:=o;obtain⟨m,y⟩:∃m,3-c=m+1:=⟨3-c-1,by omega⟩
  have C:3-(c+1)=m:=aj
  rw[y]at j;simp only[qQ]at j;have Z:c<GS.length:=aj
  have a6:c<FX.length:=aj
  have aa:=ints_at GS Z;have aC:GS[c]=aW s w c:=by
   have:=A c P;rw[gF Z]at this;exact Option.some.inj this
  rw[aC]at aa;have ai:=aM (c:=eu.cells) FX a6;have bj:FX[c]=bM s w c:=by
   have:=N c P;rw[gF a6]at this;exact Option.some.inj this
  rw[bj]at ai;have bt:=J c P;have bo:(c:Int)<(GS.length:Int):=aj
  have aN:(c:Int)<(FX.length:Int):=aj
  have hlk:(c:Int)<(CS.length:Int):=aj
  have Q:=Y c P;unfold rD at Q;have ax:lp s w c (aW s w c)=0:=by
   split at Q
   ·assumption
   ·exact Q
  rw[au ax]at Q;obtain⟨a,b,rest,ho,hrl⟩:=YD ax;have ho:jg s w c=a::b::rest:=ho;obtain⟨hx,hy⟩:=abn Q ho;have X:=cX c (aW s w c) (bM s w c) (jg s w c) a b rest ho aj hx hy;have hA:fK s w c=lq s w c (aW s w c) (bM s w c) a b:=by unfold fK;rw[ho];rfl
  rw[<-hA]at X;have bk:(fK s w c).1.length<=306:=by
   rw[hA];unfold lq;split
   ·split
    ·split
     ·exact ya _
     ·simp
    ·simp
   ·simp
  have H:=λh=>cP L (nextId L) (fK s w c).1 (by have:=O.1;omega) O.2.1 h;have H:=H aj;simp only[nextId]at H;have t:=T5 O (fK s w c).1 (fK s w c).2.2;obtain⟨g,hg⟩:=aL ((fK s w c).1);obtain⟨n,hn⟩:=aL ((fK s w c).2.1);obtain⟨e,he⟩:=aL ((fK s w c).2.2);simp only[<-hg,<-hn,<-he]at X H t j bk;obtain⟨fl,ag⟩:=aL (bM s w c);rw[<-ag]at ai X;simp only[eu.cells]at ai;clear cX cP hA hg hn he A N J hx hy Q ax Y z cW ag;simp only[go_sem,seval,o,aA,aa,ai,bt];(with_reducible and_intros)<;>first|exact .dq|omega|skip
  refine az.aP X ?_;by_cases F:e=0
  case neg =>
   have d:(e==0)=false:=su F;have I:gD L g e=(L,e):=by simp[gD,F]
   rw[I]at j;dsimp only at j;rw[aq F]at j;rw[r,<-j];simp only[aq F];simp only[go_sem,seval,bne,d];(with_reducible and_intros)<;>first|exact .dq|omega|skip
   all_goals simp[af.zero,pl]
  rw[F]at j t |-
  by_cases G:g=[]
  ·have I:gD L g 0=(L,0):=by simp[gD,G]
   rw[I]at j t;dsimp only at j t;rw[au rfl]at j;rw[G];simp only[go_sem,seval,map_nil,length_nil];(with_reducible and_intros)<;>first|exact .dq|omega|skip
   by_cases q3:n=0
   ·have j:qQ s w m (c+1) L p=R:=by rw[<-j];simp[jT,q3]
    rw[q3];simp only[go_sem,seval,bne,D];(with_reducible and_intros)<;>first|exact .dq|omega|skip
    refine ah.jP (L,p) P ⟨by rw[C];exact j,t,by dsimp only;omega⟩ ?_;simp only[go_sem,seval]<;>simp
   ·have d:(n==0)=false:=su q3;have j:qQ s w m (c+1) L (p++[⟨w,c,n⟩])=R:=by rw[<-j];simp[jT,q3]
    simp only[go_sem,seval,bne,d,D];(with_reducible and_intros)<;>first|exact .dq|omega|skip
    refine ah.jP (L,p++[⟨w,c,n⟩]) P ⟨by rw[C];exact j,t,by simp;omega⟩ ?_;simp only[go_sem,seval]<;>simp
  have bl:decide ((0:Int)<(g.length:Int))=true:=by
   have:g.length≠0:=λh=>G (eq_nil_of_length_eq_zero h);simp;omega
  have I:gD L g 0=(jO L (nextId L) g,fM L (nextId L) g):=by simp[gD,G]
  simp only[nextId]at I;obtain⟨M,hM⟩:=aL (jO L (IntKind.wrap .i64 (L.last+1)) g);obtain⟨e2,a8⟩:=aL (fM L (IntKind.wrap .i64 (L.last+1)) g);rw[<-hM,<-a8]at I H;rw[I]at j t;dsimp only at j t;simp only[go_sem,seval,bl];refine aV ?_;refine az.aP H ?_;clear H hM a8 X;by_cases q4:e2=0
  case neg =>
   have d:(e2==0)=false:=su q4;rw[aq q4]at j;rw[r,<-j];simp only[aq q4];simp only[go_sem,seval,bne,d];(with_reducible and_intros)<;>first|exact .dq|omega|skip
   all_goals simp[af.zero,pl]
  rw[q4]at j |-;rw[au rfl]at j;simp only[go_sem,seval];(with_reducible and_intros)<;>first|exact .dq|omega|skip
  by_cases q3:n=0
  ·have j:qQ s w m (c+1) M p=R:=by rw[<-j];simp[jT,q3]
   rw[q3];simp only[go_sem,seval,bne,D];(with_reducible and_intros)<;>first|exact .dq|omega|skip
   refine ah.jP (M,p) P ⟨by rw[C];exact j,t,by dsimp only;omega⟩ ?_;simp only[go_sem,seval]<;>simp
  ·have d:(n==0)=false:=su q3;have j:qQ s w m (c+1) M (p++[⟨w,c,n⟩])=R:=by rw[<-j];simp[jT,q3]
   simp only[go_sem,seval,bne,d,D];(with_reducible and_intros)<;>first|exact .dq|omega|skip
   refine ah.jP (M,p++[⟨w,c,n⟩]) P ⟨by rw[C];exact j,t,by simp;omega⟩ ?_;simp only[go_sem,seval]<;>simp
 rintro⟨L,p⟩ _ ⟨j,O,aQ⟩;have j:(L,p,(0:Int))=R:=j;subst j;dsimp only at r O aQ |-;rw[r];clear r cX cP A N J Y a2 aY aN ar ae hR;simp only[go_sem,seval];refine aV ?_;refine sc aK z ?_;(with_reducible and_intros)<;>first|exact .dq|omega|skip
 refine az.iw [2768] [] false sT ?_;simp only[go_sem,seval];refine dL.ij cW ?_;clear z cW;have hpsl:=hs.ps;obtain⟨PU,a4⟩:=aL (jU s.ak w 3);obtain⟨PB,a3⟩:=aL (kQ s w);obtain⟨WL,a5⟩:=aL (dQ s.calls [w]);rw[<-a4,<-a3,<-a5];clear a4 a3 a5;simp only[go_sem,seval];(with_reducible and_intros)<;>first|exact .dq|omega|skip
 refine aG.rT (S:=Unit) s.ps.length [1,2,4,12,13,14] [48,80,1584,2544] (λi _=>[(29,.int .i64 i)])
  (λi _=>[(208,.box [.int .i64 s.now,.int .i64 s.day,.int .i64 s.phase,.sl 3 (PU.ms.map av.cells),.sl 12 (PU.ns.map aF.cells),.sl 4 (PU.xs.map aD.cells),.int .i64 PB.next,.sl 7 (PB.ts.map aT.cells),.sl 4 (PB.qs.map aE.cells),
   .int .i64 L.last,.sl 4 (L.bs.map bY.cells),.ref 3200,.sl 4 (WL.map aB.cells),.sl 5 (s.aZ.map bn.cells),.sl 7 (s.aR.map bZ.cells)]),(3200,.own 3 (pl (ur w (s.ps.take i))))])
  (λ_ _=>True) () trivial ?_ ?_ ?_
 ·simp only[go_sem,seval]<;>simp[ur,pl]
 ·intro i _ hi V W _;have y:=oA s.ps hi;have bq:(i:Int)<(s.ps.length:Int):=aj
  have br:(s.ps.take i).length=i:=by simp;omega
  have k:ur w (s.ps.take (i+1))=ur w (s.ps.take i)++_:=gU _ hi;have aI:=VX w (s.ps.take i);obtain⟨x,hx⟩:=aL (s.ps[i]);rw[<-hx]at y k;obtain⟨K,hK⟩:=aL (ur w (s.ps.take i));rw[<-hK]at k aI;rw[<-hK];have bv:pl (K++[x])=pl K++[[.int .i64 x.who,.int .i64 x.bV,.int .i64 x.units]]:=by simp[pl,iu.cells]
  cases F:x.who==w
  ·simp only[F,iI,if_false]at k;simp only[go_sem,seval,pK,V,y,bne,F,W];(with_reducible and_intros)<;>first|exact .dq|omega|skip
   refine ah.v hi ?_;simp only[go_sem,seval,k,bv]<;>simp
  ·simp only[F,if_true,append_nil]at k;simp only[go_sem,seval,pK,V,y,bne,F,W];(with_reducible and_intros)<;>first|exact .dq|omega|skip
   refine ah.v hi ?_;simp only[go_sem,seval,k]<;>simp
 intro _ bi _;simp only[go_sem,seval,pK,bi,eU];(with_reducible and_intros)<;>first|exact .dq|omega|skip
 have hbsl:=hs.aZ;refine aG.rT (S:=Unit) s.aZ.length [1,2,4,12,13,14] [48,80,1584,2544,3200] (λi _=>[(30,.int .i64 i)])
  (λi _=>[(208,.box [.int .i64 s.now,.int .i64 s.day,.int .i64 s.phase,.sl 3 (PU.ms.map av.cells),.sl 12 (PU.ns.map aF.cells),.sl 4 (PU.xs.map aD.cells),.int .i64 PB.next,.sl 7 (PB.ts.map aT.cells),.sl 4 (PB.qs.map aE.cells),
   .int .i64 L.last,.sl 4 (L.bs.map bY.cells),.ref 3200,.sl 4 (WL.map aB.cells),.ref 3792,.sl 7 (s.aR.map bZ.cells)]),(3792,.own 5 ((uq w (s.aZ.take i)).map bn.cells))])
  (λ_ _=>True) () trivial ?_ ?_ ?_
 ·simp only[go_sem,seval]<;>simp[uq]
 ·intro i _ hi V W _;have y:=aM (c:=bn.cells) s.aZ hi;have bq:(i:Int)<(s.aZ.length:Int):=aj
  have br:(s.aZ.take i).length=i:=by simp;omega
  have k:uq w (s.aZ.take (i+1))=uq w (s.aZ.take i)++_:=gU _ hi;have aI:=Kn w (s.aZ.take i);obtain⟨x,hx⟩:=aL (s.aZ[i]);rw[<-hx]at y k;obtain⟨K,hK⟩:=aL (uq w (s.aZ.take i));rw[<-hK]at k aI;rw[<-hK];cases F:x.who==w
  ·cases G:x.src==w
   ·simp only[F,G,Bool.or_self,iI,if_false]at k;simp only[go_sem,seval,V,y,bne,F,G,W];(with_reducible and_intros)<;>first|exact .dq|omega|skip
    refine ah.v hi ?_;simp only[go_sem,seval,k]<;>simp
   ·simp only[F,G,Bool.false_or,if_true,append_nil]at k;simp only[go_sem,seval,V,y,bne,F,G,W];(with_reducible and_intros)<;>first|exact .dq|omega|skip
    refine ah.v hi ?_;simp only[go_sem,seval,k]<;>simp
  ·simp only[F,Bool.true_or,if_true,append_nil]at k;simp only[go_sem,seval,V,y,bne,F,W];(with_reducible and_intros)<;>first|exact .dq|omega|skip
   refine ah.v hi ?_;simp only[go_sem,seval,k]<;>simp
 intro _ a7 _;simp only[go_sem,seval,a7,eU]
def Uk(s:af)(w:Int)(e:s.small)(hr:s.gq)(c:s.ak.ms.length<2^27)(d:s.book.qs.length<2^20)(a:s.aZ.length<2^20)(b:s.bp.bs.length<2^29) :
  Sq 244 [] [.agg s.cells,.int .i64 w] [] (.bD [.agg (iG s w).cells,.sl 8 ((tX s w).map eu.cells),.sl 3 ((EU s w).map aH.cells),.int .i64 (n7 s w)]):=by
 refine Spec.frozen (Wp s w e hr c d a b) [0,1,2,3] rfl ?_;intro r;rcases r with _| _| _| _|r<;>rfl
