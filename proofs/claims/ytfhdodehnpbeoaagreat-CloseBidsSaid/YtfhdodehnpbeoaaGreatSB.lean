/- Parts. -/
import Derived.Test.YtfhdodehnpbeoaaGreatSA
set_option linter.all false
set_option maxHeartbeats 4000000
set_option maxRecDepth 16000
namespace Go.Proofs.YtfhdodehnpbeoaaGreat
open Go.Abs Tryz
def ZJ{s:af}{w:Int}(h:jN s w=0):tj s w (mo s w 8 0 s.book).1.qs=true:=by
 obtain⟨a,b⟩:=rE h;unfold jN at h;rw[au a,au b]at h;split at h
 ·assumption
 ·cases h
def ZI{s:af}{w:Int}(h:jN s w=0):∀d∈iT s w,d.who=w/\bA d.bT=true:=by
 have e:=ZJ h;intro d a;rw[iT,au h]at a;obtain⟨p,c,a⟩:=List.mem_flatMap.1 a;have:=cg.1 e p c;unfold Vd at a;split at a
 ·rename_i b;obtain rfl:=iD.1 a;rw[b]at this;exact⟨rfl,su this⟩
 ·cases a
theorem abC{w c:Int}:∀{l:List aH},(∀d∈l,d.who=w)->rj w c l=IL c l
 | [],_=>rfl
 |d::r,h=>by
  have a:=abC (w:=w) (c:=c) λy b=>h y (List.mem_cons_of_mem _ b);unfold rj IL pick at a |-;rw[List.flatMap_cons,List.flatMap_cons,a];simp[AZ,h d sT]
def aj8{s:af}{w:Int}(h:jN s w=0)(c:Nat):vG s w c=oF (IL c (iT s w))/\aW s w c=pY (IL c (iT s w)):=by
 have b:=ZI h;have g:kV (iT s w)=true:=cg.2 λd a=>(b d a).2;have f:=abC (w:=w) (c:=(c:Int)) λd a=>(b d a).1;have hr:right (IL c (iT s w))=true:=F6 λn i=>by
  obtain⟨d,a,_,rfl⟩:=pV i;exact(b d a).2
 have e:vG s w c=if bA (aC (IL c (iT s w)))then 0 else 1:=by
  rw[vG,gR,g,au rfl,f]
 refine⟨by rw[e,(mX hr).2],?_⟩;have e2:aW s w c=if vG s w c=0 then aC (IL c (iT s w))else 0:=by rw[aW,jF,f];rfl
 rw[e2,e,(mX hr).1];cases bA (aC (IL c (iT s w)))<;>rfl
def Sp{s:af}{w c g:Int}(h:lp s w c g=0):s.right/\bA g=true/\bA (sA s w c)=true/\bA (yX s w c g)=true/\bA (uL s w c g)=true:=by
 unfold lp at h;split at h
 case isFalse=>cases h
 rename_i d;split at h
 ·cases h
 split at h
 case isFalse=>cases h
 rename_i b;split at h
 case isFalse=>cases h
 rename_i a;simp only[Jv,cU]at b a;exact⟨bU.1 d,b.2,a.1.1,a.1.2,a.2.1⟩
def SJ{c bJ:Int}{a:List Int}(h:l7 c bJ a=0):j9 bJ a=0:=by
 unfold l7 at h;split at h
 ·rename_i b;simp only[cU,fE]at b;exact b.2.2
 ·cases h
def uM{s:af}{w c g:Int}(h:lp s w c g=0)(b:l7 c (gm s w c g) (gC s w c g)=0) :
  gC s w c g=[uL s w c g,gw ⟨3,w,c⟩ s.bp.bs,gw ⟨4,0,c⟩ s.bp.bs,lY s.bp c (aY s w),qy s.ak (aY s w)]/\(lu c (gm s w c g) (gC s w c g)).cur=c/\bA (lu c (gm s w c g) (gC s w c g)).bJ=true /\
  gw ⟨2,w,c⟩ s.bp.bs+nD s w c+g+(lu c (gm s w c g) (gC s w c g)).bJ=uL s w c g /\
  (0<=(lu c (gm s w c g) (gC s w c g)).c0/\(lu c (gm s w c g) (gC s w c g)).c0<=uL s w c g/\uL s w c g<=4611686018427387904) /\
  (0<=(lu c (gm s w c g) (gC s w c g)).c1/\(lu c (gm s w c g) (gC s w c g)).c1<=gw ⟨3,w,c⟩ s.bp.bs/\gw ⟨3,w,c⟩ s.bp.bs<=4611686018427387904):=by
 obtain⟨-,-,-,d,hCF⟩:=Sp h;have d:=bf.1 d;have a:gC s w c g=[uL s w c g,gw ⟨3,w,c⟩ s.bp.bs,gw ⟨4,0,c⟩ s.bp.bs,lY s.bp c (aY s w),qy s.ak (aY s w)]:=by rw[gC,au h]
 have hN:gm s w c g=max (-yX s w c g) 0:=by rw[gm,au h]
 obtain⟨⟨l1,l2⟩,hc,-⟩:=IM (SJ b);have f:lu c (gm s w c g) (gC s w c g)=Dr c (gm s w c g) (ze (gm s w c g) (gC s w c g)) (vm (gm s w c g) (gC s w c g)):=by rw[lu,au b]
 rw[f];have c1:=hc (uL s w c g) (by rw[a];simp);have c2:=hc (gw ⟨3,w,c⟩ s.bp.bs) (by rw[a];simp);have eX:yX s w c g=g+min (gw ⟨2,w,c⟩ s.bp.bs) 0:=by simp[yX,aC]
 have eF:uL s w c g=max (gw ⟨2,w,c⟩ s.bp.bs) 0+(nD s w c+max (yX s w c g) 0):=by simp[uL,aC]
 have e0:(Dr c (gm s w c g) (ze (gm s w c g) (gC s w c g)) (vm (gm s w c g) (gC s w c g))).c0=min (gm s w c g) (uL s w c g):=by rw[a];rfl
 have e:(Dr c (gm s w c g) (ze (gm s w c g) (gC s w c g)) (vm (gm s w c g) (gC s w c g))).c1=min (gm s w c g-min (gm s w c g) (uL s w c g)) (gw ⟨3,w,c⟩ s.bp.bs):=by rw[a];rfl
 refine⟨a,rfl,bf.2 ⟨by show _<=gm s w c g;omega,by show gm s w c g<=_;omega⟩,?_,?_,?_⟩
 ·show _+_+g+gm s w c g=_;omega
 ·rw[e0];omega
 ·rw[e];omega
def Cj{s:af}{w:Int}{c:Nat}(h:lp s w c (aW s w c)=0):fK s w c=lq s w c (aW s w c) (bM s w c) (uL s w c (aW s w c)) (gw ⟨3,w,c⟩ s.bp.bs):=by
 have a:jg s w c=[uL s w c (aW s w c),gw ⟨3,w,c⟩ s.bp.bs,gw ⟨4,0,c⟩ s.bp.bs,lY s.bp c (aY s w),qy s.ak (aY s w)]:=by rw[jg,gC,au h]
 rw[fK,a];rfl
theorem Pu{f:Nat->Int}:∀{m i:Nat},gI f m i=0->L6 f m i=i+m
 | 0,_,_=>rfl
 |m+1,i,h=>by
  simp only[gI]at h;split at h
  ·rename_i a;rw[L6,au a,Pu h];omega
  ·rename_i a;exact absurd h a
def afr(s:af)(w:Int)(K:s.small)(hm:s.ak.ms.length<2^27)(hq:s.book.qs.length<2^20)(am:∀p∈s.book.qs,p.gq)(a9:s.aZ.length<2^20)(a4:s.bp.fY)(a1:s.bp.bs.length<2^28)(bd:∀x∈s.aR,mC x) :
  Sq 35 [] [.agg s.cells,.I w] [.own 8 ((tX s w).map eu.cells),.own 3 ((EU s w).map aH.cells)] (.bD [.agg (iG s w).cells,.ref 0,.ref 1,.I (n7 s w)]):=by
 have c1:=BC s w K hq am a9;have a7:(iT s w).length<2^29:=by
  unfold iT;split
  ·rename_i he;obtain⟨ab,_⟩:=rE he;have hr:=bU.1 (rB ab).1;have hf:s.book.fY:=⟨K.book,hq,am,λp hp=>by have:=jG.1 ((dY.1 hr.book).ok p hp);exact⟨this.2.2.1,this.2.2.2.1⟩⟩
   have hb:=(yy (s:=s) (w:=w) 8 0 hf).short;have h2:=PG s w (mo s w 8 0 s.book).1.qs;omega
  ·simp
 have c2:=VN (iT s w) a7;have cC:=λc g=>NU s w c g K hm;have cF:=λc bJ an h=>JU c bJ an h;have cP:=λl id g (h1:l.bs.length<2^28) h2=>MZ l id g h1 h2;obtain⟨E,k⟩:=aL (n7 s w);have ar:=k;simp only[n7]at k;simp only[iG,tX,EU,<-ar];clear ar;by_cases b1:jN s w=0
 case neg =>
  have d:(jN s w==0)=false:=su b1;rw[aq b1]at k;rw[k];simp only[aq b1];simp only[af.cells]at c1 |-;simp only[aJ.cells]at c1;refine aX 152 2 [.cell 4 42,.tmp 5,.tmp 6,.tmp 7] mixed func35 ?_;refine sc aK c1 ?_;refine sm (a2 dV d) ?_
  and_intros<;>first|exact .dq|omega|skip
  all_goals simp[af.zero,pl]
 obtain⟨ab,a8⟩:=rE b1;obtain⟨a6,bc⟩:=rB ab;have hr:=bU.1 a6;have a5:gp s.ak w=true:=(tc hr.ak).1 aj;have cX:=λg f a b=>Zg s w g f a b K hr hm;have t:=Ns s.ak w 3 K.ak hr.ak a5 rfl;have ai:=aj8 b1;have ao:(λc:Nat=>oF (IL c (iT s w)))=vG s w:=funext λc=>(ai c).1.symm;have ap:(λc:Nat=>pY (IL c (iT s w)))=aW s w:=funext λc=>(ai c).2.symm;rw[ao,ap]at c2;rw[au b1]at k;rw[b1]at c1;clear ai ao ap ab a8 a6 bc a5 b1;have X:=λh=>Pu (f:=vG s w) (m:=3) (i:=0) h;obtain⟨F1,aw⟩:=aL (gI (vG s w) 3 0);rw[<-aw]at k c2 X;obtain⟨PB,aC⟩:=aL (kQ s w);rw[<-aC]at c1 |-;simp only[af.cells]at c1 cC cX |-;simp only[aJ.cells]at c1;simp only[ay.cells]at t;by_cases b2:F1=0
 case neg =>
  have d:(F1==0)=false:=su b2;rw[aq b2]at k;rw[k];simp only[aq b2];simp only[g3]at c2;refine aX 152 2 [.cell 4 42,.tmp 5,.tmp 6,.tmp 7] mixed func35 ?_;refine sc aK c1 ?_;refine sc aK c2 ?_;refine sm (a2 dV d) ?_
  and_intros<;>first|exact .dq|omega|skip
  all_goals simp[af.zero,pl]
 rw[au b2]at k;rw[X b2,b2]at c2;have aV:g3 (aW s w) (0+3)=[.I (aW s w 0),.I (aW s w 1),.I (aW s w 2)]:=rfl;rw[aV]at c2;clear X aV aw b2;simp only[eu.cells]at cF;refine aX 152 2 [.cell 4 42,.tmp 5,.tmp 6,.tmp 7] mixed func35 ?_;refine sc aK c1 ?_;refine sc aK c2 ?_;clear c1 c2;obtain⟨F2,Z⟩:=aL (gI (rD s w) 3 0);rw[<-Z]at k;try simp only[go_sem,seval,bne]
 refine aG.wu 3 [1,2,4,8,11,46] [48,80,144,192] (λi=>[(5,.nil),(6,.nil),(7,.I 0),(47,.I i),(12,.ref 1264)]) (λi=>[(1264,.own 8 ((Cv (bM s w) i).map eu.cells))]) (λi=>gI (rD s w) (3-i) i=F2) Z.symm ?_ ?_ ?_
 ·simp only[go_sem,seval,L9]<;>simp
 ·intro c _ hc z J j;have z:decide ((c:Int)<3)=true:=z;obtain⟨m,hm⟩:∃m,3-c=m+1:=⟨3-c-1,by omega⟩
  have H:3-(c+1)=m:=aj
  rw[hm]at j;simp only[gI]at j;have ad:=cC c (aW s w c);have aO:(gC s w c (aW s w c)).length<2^30:=by unfold gC;split<;>simp
  have N:=cF c (gm s w c (aW s w c)) (gC s w c (aW s w c)) aO;have y:rD s w c=if lp s w c (aW s w c)=0 then l7 c (gm s w c (aW s w c)) (gC s w c (aW s w c))else lp s w c (aW s w c):=rfl;have e1:lu c (gm s w c (aW s w c)) (gC s w c (aW s w c))=bM s w c:=rfl;have W:=FD (bM s w) c;have a0:=nZ (bM s w) c;rw[e1]at N;obtain⟨T,hT⟩:=aL (Cv (bM s w) c);rw[<-hT]at W a0;rw[<-hT];obtain⟨fl,Q⟩:=aL (bM s w c);rw[<-Q]at N W;obtain⟨gn,U⟩:∃gn:Nat->Int,gn=aW s w:=⟨_,rfl⟩
  rw[<-U]at ad N y |-;obtain⟨ce,aI⟩:=aL (lp s w c (gn c));obtain⟨cn,ae⟩:=aL (gm s w c (gn c));obtain⟨cl,P⟩:=aL (gC s w c (gn c));obtain⟨fe,ag⟩:=aL (l7 c cn cl);rw[<-aI,<-ae,<-P]at ad y;rw[<-ae,<-P,<-ag]at N;rw[<-ag]at y;clear cC cF cX cP t hT e1 aI ae P ag aO U Q;have aY:c=0\/c=1\/c=2:=aj
  have fin:∀r:Nat,r=c->True:=λ_ _=>trivial;rcases aY with rfl|rfl|rfl;all_goals
   refine sm z ?_;try(with_reducible and_intros)<;>first|exact .dq|omega|skip
   refine az.aP ad ?_;by_cases q:ce=0
   case neg =>
    have d:(ce==0)=false:=su q;rw[aq q]at y;rw[y,aq q]at j;rw[<-j,aq q]at k;rw[k];simp only[aq q];refine sm (a2 dV d) ?_
    and_intros<;>first|exact .dq|omega|skip
    all_goals simp[af.zero,pl]
   rw[au q]at y;rw[q];refine s0 ?_;try(with_reducible and_intros)<;>first|exact .dq|omega|skip
   refine az.aP N ?_;rw[y]at j;by_cases Y:fe=0
   ·rw[au Y]at j;rw[Y];refine sm (a3 dV a0 J) ?_
    and_intros<;>first|exact .dq|omega|skip
    refine ah.u hc (by rw[H];exact j) ?_;simp only[go_sem,seval,W]<;>simp<;>exact gx aj aj
   ·have d:(fe==0)=false:=beq_eq_false_iff_ne.2 Y;rw[aq Y]at j;rw[<-j,aq Y]at k;rw[k];simp only[aq Y];refine sm (a2 dV d) ?_
    and_intros<;>first|exact .dq|omega|skip
    all_goals simp[af.zero,pl]
 intro _ aQ j;have j:F2=0:=j.symm;rw[au j]at k;have O:∀c<3,rD s w c=0:=λc h=>Dt (Z.symm.trans j) c aj aj;clear cC cF j;have aA:=nZ (bM s w) 3;have B:∀c,c<3->(Cv (bM s w) 3)[c]?=some (bM s w c):=λc h=>by simp[Cv,h]
 obtain⟨FX,ax⟩:=aL (Cv (bM s w) 3);simp only[<-ax]at aA B;obtain⟨R,hR⟩:=aL (qQ s w 3 0 s.bp []);simp only[<-hR]at k |-;simp only[go_sem,seval,<-ax,aQ,aA];refine aG.rT (S:=bu×List aH) 3 [1,2,4,8,11,12,19,81,82] [48,80,144,192,1264] (λi _=>[(5,.nil),(6,.nil),(7,.I 0),(83,.I i),(20,.ref 2112)])
  (λ_ x=>[(320,.box [.I s.now,.I s.day,.I s.phase,.sl 3 (s.ak.ms.map av.cells),.sl 12 (s.ak.ns.map aF.cells),.sl 4 (s.ak.xs.map aD.cells),.I s.book.next,.sl 7 (s.book.ts.map aT.cells),.sl 4 (s.book.qs.map aE.cells),
   .I x.1.last,.sl 4 (x.1.bs.map bY.cells),.sl 3 (pl s.ps),.sl 4 (s.calls.map aB.cells),.sl 5 (s.aZ.map bn.cells),.sl 7 (s.aR.map bZ.cells)]),(2112,.own 3 (x.2.map aH.cells))])
  (λi x=>qQ s w (3-i) i x.1 x.2=R/\x.1.bs.length<2^28/\x.2.length<=i) (s.bp,[]) ⟨hR.symm,a1,fO _⟩ ?_ ?_ ?_
 ·exact jh
 ·intro c x hc z J j;obtain⟨L,p⟩:=x;obtain⟨j,D,al⟩:=j;dsimp only at j D al |-;have z:decide ((c:Int)<3)=true:=z;obtain⟨m,hm⟩:∃m,3-c=m+1:=⟨3-c-1,by omega⟩
  have H:3-(c+1)=m:=aj
  rw[hm]at j;simp only[qQ]at j;have aN:c<FX.length:=aj
  have V:=aM (c:=eu.cells) FX aN;have aU:FX[c]=bM s w c:=by
   have:=B c hc;rw[gF aN]at this;exact Option.some.inj this
  rw[aU]at V;have a4:(c:Int)<(FX.length:Int):=aj
  have F:=O c hc;unfold rD at F;have G:lp s w c (aW s w c)=0:=by
   split at F
   ·assumption
   ·exact F
  rw[au G]at F;obtain⟨k1,k2,k3,k4,k5,k6⟩:=uM G F;obtain⟨-,j2,j3,-,-⟩:=Sp G;have ef:lu c (gm s w c (aW s w c)) (gC s w c (aW s w c))=bM s w c:=rfl;rw[ef]at k2 k3 k4 k5 k6;have v:=cX (aW s w c) (bM s w c) (uL s w c (aW s w c)) (gw ⟨3,w,c⟩ s.bp.bs) (by rw[k2];exact j3) j2 k3 (by rw[k2];exact k4) (by rw[k2]) k5 k6;rw[k2,<-Cj G]at v;have ba:(fK s w c).1.length<=306:=by
   rw[Cj G];unfold lq;split
   ·split
    ·split
     ·exact ya _
     ·simp
    ·simp
   ·simp
  have C:=cP L (nextId L) (fK s w c).1 D aj;simp only[nextId]at C;have o:(gD L (fK s w c).1 (fK s w c).2.2).1.bs.length<2^28:=by
   unfold gD;split
   ·exact Nat.lt_of_le_of_lt DJ.1 (by decide)
   ·exact D
  obtain⟨g,hg⟩:=aL ((fK s w c).1);obtain⟨n,hn⟩:=aL ((fK s w c).2.1);obtain⟨e,he⟩:=aL ((fK s w c).2.2);simp only[<-hg,<-hn,<-he]at v C o j ba;obtain⟨fl,Q⟩:=aL (bM s w c);rw[<-Q]at V v k2;simp only[eu.cells]at V v;rw[k2]at V v;obtain⟨gn,U⟩:∃gn:Nat->Int,gn=aW s w:=⟨_,rfl⟩
  rw[<-U]at v |-;simp only[bu.cells]at C;clear cX cP hg hn he B F G O t Q k1 k2 k3 k4 k5 k6 j2 j3 ef U aU;rcases(by omega:c=0\/c=1\/c=2)with rfl|rfl|rfl;all_goals
   refine sm (a2 z V) ?_;refine sc aK v ?_;by_cases q1:e=0
   case neg =>
    have d:(e==0)=false:=su q1;have A:gD L g e=(L,e):=by simp[gD,q1]
    rw[A]at j;dsimp only at j;rw[aq q1]at j;rw[k,<-j];simp only[aq q1];refine sm (a2 dV d) ?_
    and_intros<;>first|exact .dq|omega|skip
    all_goals simp[af.zero,pl]
   rw[q1]at j o |-
   by_cases Y:g=[]
   ·have A:gD L g 0=(L,0):=by simp[gD,Y]
    rw[A]at j o;dsimp only at j o;rw[au rfl]at j;rw[Y];simp only[go_sem,seval,List.map_nil,List.length_nil];try(with_reducible and_intros)<;>first|exact .dq|omega|skip
    by_cases q3:n=0
    ·simp only[jT,q3,beq_self_eq_true,if_true,List.append_nil]at j;rw[q3];refine sm (a2 dV J) ?_
     and_intros<;>first|exact .dq|omega|skip
     refine ah.jP (L,p) hc ⟨by rw[H];exact j,o,by dsimp only;omega⟩ ?_;refine s0 ?_;all_goals try simp
     all_goals exact gx aj aj
    ·have d:(n==0)=false:=su q3;simp only[jT,d,iI,if_false]at j;refine sm (a3 dV d J) ?_
     and_intros<;>first|exact .dq|omega|skip
     refine ah.jP (L,p++[⟨w,_,n⟩]) hc ⟨by rw[H];exact j,o,by dsimp only;rw[ct,List.length_singleton];omega⟩ ?_;refine s0 ?_;all_goals try simp
     all_goals exact gx aj aj
   have bb:decide ((0:Int)<(g.length:Int))=true:=by
    have:g.length≠0:=λh=>Y (List.eq_nil_of_length_eq_zero h);simp;omega
   have A:gD L g 0=(jO L (nextId L) g,fM L (nextId L) g):=by simp[gD,Y]
   simp only[nextId]at A;obtain⟨M,hM⟩:=aL (jO L (IntKind.wrap .i64 (L.last+1)) g);obtain⟨e2,aS⟩:=aL (fM L (IntKind.wrap .i64 (L.last+1)) g);rw[<-hM,<-aS]at A C;rw[A]at j o;dsimp only at j o;refine sm bb ?_;try(with_reducible and_intros)<;>first|exact .dq|omega|skip
   refine az.aP C ?_;clear C hM aS v;by_cases q4:e2=0
   case neg =>
    have d:(e2==0)=false:=su q4;rw[aq q4]at j;rw[k,<-j];simp only[aq q4];refine sm (a2 dV d) ?_
    and_intros<;>first|exact .dq|omega|skip
    all_goals simp[af.zero,pl]
   rw[q4]at j |-;rw[au rfl]at j;refine s0 ?_;try(with_reducible and_intros)<;>first|exact .dq|omega|skip
   by_cases q3:n=0
   ·simp only[jT,q3,beq_self_eq_true,if_true,List.append_nil]at j;rw[q3];refine sm (a2 dV J) ?_
    and_intros<;>first|exact .dq|omega|skip
    refine ah.jP (M,p) hc ⟨by rw[H];exact j,o,by dsimp only;omega⟩ ?_;refine s0 ?_;all_goals try simp
    all_goals exact gx aj aj
   ·have d:(n==0)=false:=su q3;simp only[jT,d,iI,if_false]at j;refine sm (a3 dV d J) ?_
    and_intros<;>first|exact .dq|omega|skip
    refine ah.jP (M,p++[⟨w,_,n⟩]) hc ⟨by rw[H];exact j,o,by dsimp only;rw[ct,List.length_singleton];omega⟩ ?_;refine s0 ?_;all_goals try simp
    all_goals exact gx aj aj
 rintro⟨L,p⟩ hdx ⟨j,D,al⟩;have j:(L,p,(0:Int))=R:=j;subst j;dsimp only at k D al |-
 have ac:PB.small:=by
  rw[aC];have hf:s.book.fY:=⟨K.book,hq,am,λp hp=>by have:=jG.1 ((dY.1 hr.book).ok p hp);exact⟨this.2.2.1,this.2.2.2.1⟩⟩
  have hb:=(yy (s:=s) (w:=w) 8 0 hf).small;unfold kQ;split
  ·refine⟨hb.1,?_⟩;have:(mg w (mo s w 8 0 s.book).1.qs).length<=1*(mo s w 8 0 s.book).1.qs.length:=gJ (λp=>by split<;>simp) _;have:=hb.2;show(mg w (mo s w 8 0 s.book).1.qs).length<_;omega
  ·exact⟨by simp,by simp⟩
 have aa:(jU s.ak w 3).jQ:=by
  unfold jU;split
  ·have:=K.ak;refine⟨?_,this.2.1,this.2.2⟩;show(BZ av.no w (av.put 3) s.ak.ms).length<_;exact Nat.lt_of_le_of_lt (U9 _ _ _ _) this.1
  ·exact⟨by simp[ay.none],by simp[ay.none],by simp[ay.none]⟩
 have cW:=Et { s with ak:=jU s.ak w 3,book:=PB,bp:=L } w ⟨aa,ac,Nat.lt_trans D (by decide),K.ps,K.calls,K.aZ,K.aR,K.rs⟩ bd;rw[k];clear k cX cP B O a4 Z hR aa ac;obtain⟨PU,aa⟩:=aL (jU s.ak w 3);rw[<-aa]at t cW |-;simp only[af.cells]at cW;simp only[if_true];refine sc hdx t ?_;refine az.aP cW ?_;exact iB
def acC(s:af)(w:Int)(h:s.small)(f:s.ak.ms.length<2^27)(g:s.book.qs.length<2^20)(d:∀p∈s.book.qs,p.gq)(b:s.aZ.length<2^20)(c:s.bp.fY)(a:s.bp.bs.length<2^28)(e:∀x∈s.aR,mC x) :
  Sq 35 [] [.agg s.cells,.I w] [] (.bD [.agg (iG s w).cells,.sl 8 ((tX s w).map eu.cells),.sl 3 ((EU s w).map aH.cells),.I (n7 s w)]):=by
 refine Spec.frozen (afr s w h f g d b c a e) [0,1] rfl ?_;intro r;rcases r with _| _|r<;>rfl
def aiA{s:af}(h:M3 s)(w:Int):Sq 35 [] [.agg s.cells,.I w] [] (.bD [.agg (iG s w).cells,.sl 8 ((tX s w).map eu.cells),.sl 3 ((EU s w).map aH.cells),.I (n7 s w)]):=
 have a:=h.right.lens;have hr:=h.gq
 acC s w h.small (by have:=a.ms;omega) (by have:=a.qs;omega) hr.qs (by have:=a.aZ;omega) ⟨by have:=a.bs;omega,hr.bs,hr.last⟩ (by have:=a.bs;omega) h.sm
def cPos{s:af}(h:M3 s)(w:Int):Sq 39 [] [.agg s.cells,.I w] [] (.bD [.agg (kQ s w).cells,.sl 3 ((iT s w).map aH.cells),.I (jN s w)]):=
 have a:=h.right.lens
 BC s w h.small (by have:=a.qs;omega) h.gq.qs (by have:=a.aZ;omega)
def afZ(t p:Int)(c:0<=t/\t<=1099511627776)(b:0<=p/\p<=2):M3 (Aw t p):=by
 refine⟨⟨bU.1 ?_,by show(0:Int)<=1099511627776;decide,λx a=>by cases a⟩,λx a=>by cases a⟩;unfold bS;rw[show ug (Aw t p)=true by simp[ug,within,Aw,c.1,c.2,b.1,b.2]];rfl
def B3:Sq 36 [] [] [] (.bool true):=by
 have a:=aiA (afZ 0 0 (by decide) (by decide)) 1;rw[show iG (Aw 0 0) 1=.zero by kernel_rfl,show tX (Aw 0 0) 1=[]by kernel_rfl,show EU (Aw 0 0) 1=[]by kernel_rfl,show n7 (Aw 0 0) 1=10 by kernel_rfl]at a;have b:=kX (Aw 0 0) (Ct _ _);rw[show bS (Aw 0 0)=true by kernel_rfl,au rfl]at b;simp only[af.cells,af.zero,Aw,List.map_nil,pl]at a b;replace a:=Spec.IQ a (ds':=[.agg [.I 0,.I 0,.I 0,.nil,.nil,.nil,.I 0,.nil,.nil,.I 0,.nil,.nil,.nil,.nil,.nil],.I 1]) (by simp[nM,nT]);replace b:=Spec.IQ b (ds':=[.agg [.I 0,.I 0,.I 0,.nil,.nil,.nil,.I 0,.nil,.nil,.I 0,.nil,.nil,.nil,.nil,.nil]]) (by simp[nM,nT]);refine aX 19 0 [.tmp 0] mixed func36 ?_;refine sc aK a ?_;exact lX aK b
