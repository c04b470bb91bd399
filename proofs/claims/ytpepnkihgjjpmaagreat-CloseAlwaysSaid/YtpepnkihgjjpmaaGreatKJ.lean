/- Parts. -/
import Derived.Test.YtpepnkihgjjpmaaGreatKH
set_option linter.all false
set_option maxHeartbeats 4000000
set_option maxRecDepth 16000
namespace Go.Proofs.YtpepnkihgjjpmaaGreat
open Go.Abs Tryz
open List hiding min
def yR(s:af):Int:=if bM s then(if s.phase=2 then(if s.day=1099511627776 then 1 else 0)else 15)else 14
def Au(s:af):af:=if yR s=0 then{ s with day:=s.day+1,phase:=0,book:=⟨s.book.next,[],s.book.qs⟩ }else .zero
theorem Fq(s:af)(i:s.small)(j:s.fB):Sq 79 [] [.agg s.cells] [] (.bI [.agg (Au s).cells,.int .i64 (yR s)]):=by
 have c1:=kk s i j;have c2:=aX s i;have c:=λh=>zg (s:=s) h;obtain⟨E,a⟩:=aN (yR s);have b:=a;simp only[yR]at a;simp only[Au,<-b];clear b;simp only[af.cells]at c1 c2 |-;refine bp 32 1 [.cell 2 42,.tmp 3] mixed func79 ?_;refine sc aS c1 ?_;cases g:bM s
 ·rw[g]at a;rw[a];simp only[go_sem,seval]<;>simp[af.zero,pl]
 have c:=c g;rw[g,aq rfl]at a;refine s0 ?_;refine bg ?_;by_cases e:s.phase=2
 case neg =>
  have d:(s.phase==2)=false:=su e;rw[au e]at a;rw[a];simp only[go_sem,seval,bne,d]<;>simp[af.zero,pl]
 rw[aq e]at a;rw[e]at c1 c2 |-;refine s0 ?_;refine bg ?_;by_cases f:s.day=1099511627776
 ·rw[aq f]at a;rw[a,f];simp only[go_sem,seval]<;>simp[af.zero,pl]
 have d:(s.day==1099511627776)=false:=su f;have k:IntKind.wrap .i64 (s.day+1)=s.day+1:=gO ak ak;rw[au f]at a;rw[a];refine sc d c2 ?_;exact gY k
def aI.due(c:aI):aU:=⟨c.who,c.cur,c.cu⟩
def zn:List aI->aA×List aI->aA×List aI
 | [],x=>x
 |c::r,x=>zn r (kU x.1 c.who 2,dR x.2 [c.who])
def wF(s:af)(n:Int):Int:=if bM s then(if within n 1 1000 then(if 1099511627776<s.now+n then 1 else 0)else 3)else 14
def lE(s:af)(n:Int):af:=if wF s n=0 then{ s with now:=s.now+n,aj:=(zn (tL (s.now+n) s.calls) (s.aj,s.calls)).1,calls:=(zn (tL (s.now+n) s.calls) (s.aj,s.calls)).2 }else .zero
def C4(s:af)(n:Int):List aU:=if wF s n=0 then(tL (s.now+n) s.calls).map aI.due else[]
theorem Q7{A:Type}(no:A->Int)(n:Int)(f:A->A)(l:List A):(zu no n f l).length<=l.length:=by
 induction l with
 |nil=>simp[zu]
 |cons x r ih=>simp only[zu];split<;>simp<;>omega
def VU{r:aA}(h:r.jX)(n p:Int):(kU r n p).jX:=by
 unfold kU;split
 ·obtain⟨a,b,c⟩:=h;exact⟨Nat.lt_of_le_of_lt (Q7 _ _ _ _) a,b,c⟩
 ·exact⟨by simp[aA.none],by simp[aA.none],by simp[aA.none]⟩
def NY(xs:List aI)(ws:List Int):(dR xs ws).length<=xs.length:=by
 have:=gH (f:=λx:aI=>if sI ws x.who then[]else[x]) (m:=1) (λp=>by split<;>simp) xs;simpa[dR]using this
def K7(n:Int)(xs:List aI):(tL n xs).length<=xs.length:=by
 have:=gH (f:=λx:aI=>if x.till<=n then[x]else[]) (m:=1) (λp=>by split<;>simp) xs;simpa[tL]using this
theorem aoQ(n0 n1 a b c:Int)(d r1 r2 r3 r4 r5 r6 g e f:List (List D)):(ia [0,1,2,3,4,5,6,8,9] (sM [(0,.agg [.int .i64 n0,.int .i64 n1,.int .i64 a,.ref 0,.ref 1,.ref 2,.int .i64 b,.ref 3,.ref 4,.int .i64 c,.ref 5,.ref 6,.ref 7,.ref 8,.ref 9])] (uw 0 [.own 3 d,.own 12 r1,.own 4 r2,.own 7 r3,.own 4 r4,.own 4 r5,.own 3 r6,.own 4 g,.own 5 e,.own 7 f]))).t 0=.agg [.int .i64 n0,.int .i64 n1,.int .i64 a,.sl 3 d,.sl 12 r1,.sl 4 r2,.int .i64 b,.sl 7 r3,.sl 4 r4,.int .i64 c,.sl 4 r5,.sl 3 r6,.ref 7,.sl 5 e,.sl 7 f]:=by
 kernel_rfl
def aj'(d:D)(b r1 r2 r3 r4 r5 r6 a c e:List (List D))(r:Nat):(ia [0,1,2,3,4,5,6,8,9] (sM [(0,d)] (uw 0 [.own 3 b,.own 12 r1,.own 4 r2,.own 7 r3,.own 4 r4,.own 4 r5,.own 3 r6,.own 4 a,.own 5 c,.own 7 e]))).o r=[D.undef,.undef,.undef,.undef,.undef,.undef,.undef,.own 4 a].getD r .undef:=by
 rcases r with _| _| _| _| _| _| _| _| _| _|r<;>kernel_rfl
theorem Q5(s:af)(a:s.small):Sq 20 [] [.agg s.cells] [.undef,.undef,.undef,.undef,.undef,.undef,.undef,.own 4 (s.calls.map aI.cells)] (.agg [.int .i64 s.now,.int .i64 s.day,.int .i64 s.phase,.sl 3 (s.aj.ms.map av.cells),.sl 12 (s.aj.ns.map aE.cells),.sl 4 (s.aj.xs.map aD.cells),.int .i64 s.book.next,.sl 7 (s.book.ts.map aR.cells),.sl 4 (s.book.qs.map aB.cells),
 .I s.bf.last,.sl 4 (s.bf.bs.map bU.cells),.sl 3 (pl s.ps),.ref 7,.sl 5 (s.aW.map aY.cells),.sl 7 (s.aT.map bX.cells)]):=by
 have h:=uu s a;simp only[QO,I5]at h;simp only[af.cells];simp only[af.cells]at h;exact Spec.frozen h [0,1,2,3,4,5,6,8,9] (aoQ ..) (λr=>aj' ..)
theorem Qp (s : af) (n : Int) (f : s.small) (Z : s.fB) : Sq 80 [] [.agg s.cells, .int .i64 n] [.own 4 ((lE s n).calls.map aI.cells), .own 3 ((C4 s n).map aU.cells)] (.bI [.agg [.int .i64 (lE s n).now, .int .i64 (lE s n).day, .int .i64 (lE s n).phase, .sl 3 ((lE s n).aj.ms.map av.cells), .sl 12 ((lE s n).aj.ns.map aE.cells), .sl 4 ((lE s n).aj.xs.map aD.cells), .int .i64 (lE s n).book.next, .sl 7 ((lE s n).book.ts.map aR.cells), .sl 4 ((lE s n).book.qs.map aB.cells),
        .I (lE s n).bf.last, .sl 4 ((lE s n).bf.bs.map bU.cells), .sl 3 (pl (lE s n).ps), .ref 0, .sl 5 ((lE s n).aW.map aY.cells), .sl 7 ((lE s n).aT.map bX.cells)], .ref 1, .I (wF s n)]):=by
  have c1:=kk s f Z;have c2:=Q5 s f;have c3:=je n 1 1000;have c4:=λm => Nj m s.calls f.calls;have j:=λh => zg (s:=s) h;obtain⟨E, b⟩:∃E, E=wF s n:=⟨_, rfl⟩
  have g:=b;simp only[wF]at b;simp only[lE, C4, ← g];clear g;simp only[af.cells]at c1 c2 ⊢;refine bp 85 2 [.cell 4 42, .tmp 5, .tmp 6] mixed func80 ?_;refine sc aS c1 ?_;cases A:bM s
  · rw[A]at b
    rw[b];simp only[go_sem, seval] <;> simp[af.zero, pl]
  have j:=j A;rw[A, aq rfl]at b;refine sc aS c3 ?_;cases B:within n 1 1000
  · rw[B]at b
    rw[b];simp only[go_sem, seval] <;> simp[af.zero, pl]
  rw[B, aq rfl]at b;simp only[within, Bool.and_eq_true, bz]at B;have w:IntKind.wrap .i64 (s.now + n)=s.now + n:=gO ak ak;refine sm w ?_;refine bg ?_;by_cases u:1099511627776<s.now + n
  · rw[aq u]at b
    have d:decide (1099511627776<s.now + n)=true:=su u;rw[b];simp only[go_sem, seval, d] <;> simp[af.zero, pl]
  rw[au u]at b;have d:decide (1099511627776<s.now + n)=false:=su u;rw[b];have c4:=c4 (s.now + n);have p:=K7 (s.now + n) s.calls;have hcl:=f.calls;obtain⟨N, F⟩:∃N, N=s.now + n:=⟨_, rfl⟩
  have w:=w.trans F.symm;rw[← F]at d c4 p ⊢;obtain⟨l, P⟩:∃l, l=tL N s.calls:=⟨_, rfl⟩
  rw[← P]at c4 p ⊢;refine so (a2 d w) c2 ?_;refine bg ?_;refine aG.bC c4 ?_;clear c1 c2 c3 c4 P F;refine s0 ?_;refine bg ?_;obtain⟨R, M⟩:∃R, R=zn l (s.aj, s.calls):=⟨_, rfl⟩
  rw[← M];refine aF.sK (S:=aA×List aI) l.length [4, 7, 8] [80] (λi _ => [(11, .I i), (10, .ref 944)])
    (λi x => [(471, .own 4 (x.2.map aI.cells)), (128, .box [.I N, .I s.day, .I s.phase, .sl 3 (x.1.ms.map av.cells), .sl 12 (x.1.ns.map aE.cells), .sl 4 (x.1.xs.map aD.cells), .I s.book.next, .sl 7 (s.book.ts.map aR.cells), .sl 4 (s.book.qs.map aB.cells),
      .I s.bf.last, .sl 4 (s.bf.bs.map bU.cells), .sl 3 (pl s.ps), .ref 471, .sl 5 (s.aW.map aY.cells), .sl 7 (s.aT.map bX.cells)]), (944, .own 3 (((l.take i).map aI.due).map aU.cells))])
    (λi x => zn (l.drop i) x=R ∧ x.1.jX ∧ x.2.length<2^30) (s.aj, s.calls) ⟨M.symm, f.aj, f.calls⟩ ?_ ?_ ?_
  · exact kG
  · intro i x v G L a
    obtain⟨z, cs⟩:=x;obtain⟨a, K, k⟩:=a;dsimp only at a K k ⊢;obtain⟨x, hx, Y, hli⟩:=oc (c:=aI.cells) l v;have q:((l.take i).map aI.due).length=i:=by simp; omega
    have e:(l.take (i + 1)).map aI.due=(l.take i).map aI.due ++ [aI.due l[i]]:=by
      rw[take_add_one, fj v, jF]; rfl
    rw[cg v]at a;simp only[zn]at a;rw[← hx]at e a;have C:=EJ z x.who 2 K;have D:=y9 cs [x.who] k sT;have t:=VU K x.who 2;have o:=NY cs [x.who];obtain⟨T, V⟩:∃T, T=(l.take i).map aI.due:=⟨_, rfl⟩
    rw[← V]at e q ⊢;simp only[aI.due]at e;simp only[aA.cells]at C;simp only[ints, map_cons, map_nil]at D;obtain⟨Q, U⟩:∃Q, Q=kU z x.who 2:=⟨_, rfl⟩
    obtain⟨W, X⟩:∃W, W=dR cs [x.who]:=⟨_, rfl⟩
    rw[← U]at a C t;rw[← X]at a D o;refine sc (a3 G Y q) C ?_;refine sl L D ?_
    and_intros<;>first|exact .dq|omega|skip
    · intro r J d O
      obtain⟨y, _, rfl⟩:=mem_map.1 J;simp only[aI.cells, mem_cons, not_mem_nil, or_false]at O;rcases O with rfl|rfl|rfl|rfl <;> trivial
    refine ah.jT (Q, W) v ⟨a, t, by dsimp only; omega⟩ ?_;exact gY e
  intro x H a;obtain⟨z, cs⟩:=x;have a:=a.1;rw[jw]at a;have a:(z, cs)=R:=a;subst a;simp only[go_sem, seval, H, eu]
theorem Nt(s:af)(n:Int)(b:s.small)(a:s.fB):Sq 80 [] [.agg s.cells,.int .i64 n] [] (.bI [.agg (lE s n).cells,.sl 3 ((C4 s n).map aU.cells),.int .i64 (wF s n)]):=by
 refine Spec.frozen (Qp s n b a) [0,1] rfl ?_;intro r;rcases r with _| _|r<;>rfl
def Py(s:af):Int:=min (s.now+3) 1099511627776
def tQ(s:af)(w:Int):Nat->Nat->List aI×List aU->(List aI×List aU)×Int
 | 0,_,x=>(x,0)
 |m+1,c,x=>if shE s w c=0 then tQ s w m (c+1) (EY x.1 ⟨w,c,Y2 s w c⟩ (Py s),x.2++nF w c (Y2 s w c))else(x,shE s w c)
def wY(s:af):List Int->List aI×List aU->(List aI×List aU)×Int
 | [],x=>(x,0)
 |w::r,x=>if(tQ s w 3 0 x).2=0 then wY s r (tQ s w 3 0 x).1 else tQ s w 3 0 x
def Vp(s:af):(List aI×List aU)×Int:=wY s (ku s.aj [1]) (s.calls,[])
def mU(s:af):Int:=if bM s then(if s.phase=1 then(Vp s).2 else 15)else 14
def oX(s:af):af:=if mU s=0 then{ s with phase:=2,calls:=(Vp s).1.1 }else .zero
def sL(s:af):List aU:=if mU s=0 then(Vp s).1.2 else[]
def Xn(xs:List aI)(d:aU)(a:Int):(EY xs d a).length<=48:=by
 unfold EY;split
 ·exact QG _ _ _
 ·simp
def D6(s:af)(l:s.small)(hr:s.fB)(X:s.bf.bs.length<2^29)(Y:s.ps.length<2^29) :
  Sq 78 [] [.agg s.cells] [.own 3 ((sL s).map aU.cells)] (.bI [.agg (oX s).cells,.ref 0,.I (mU s)]):=by
 have c1:=kk s l hr;have c2:=aX s l;have c3:=AH s.aj [1] l.aj sT;have B:s.fit:=⟨l.aj.small,l.book,l.bf,l.ps⟩
 have K:=λw c=>AF s w c B hr X Y;have O:=λxs d (h:xs.length<2^30)=>Qd xs d (Py s) h;have Z:=uo s.aj [1];have hml:=l.aj.1;have z:=λh=>zg (s:=s) h;obtain⟨E,j⟩:=aN (mU s);have y:=j;simp only[mU]at j;simp only[oX,sL,<-y];clear y;obtain⟨R,L⟩:=aN (Vp s);rw[<-L]at j |-;simp only[Vp]at L;obtain⟨ws,J⟩:=aN (ku s.aj [1]);rw[<-J]at c3 L Z;clear J;simp only[af.cells]at c1 c2 K |-;rw[show ints [1]=[[.I 1]]from rfl]at c3;simp only[aA.cells]at c3;simp only[aU.cells]at O;refine bp 82 1 [.cell 2 42,.tmp 3,.tmp 4] mixed func78 ?_;refine sc aS c1 ?_;cases N:bM s
 ·rw[N]at j;rw[j];simp only[go_sem,seval]<;>simp[af.zero,pl]
 have z:=z N;have hA:Py s=min (s.now+3) 1099511627776:=rfl;have hw:IntKind.wrap .i64 (s.now+3)=s.now+3:=gO ak ak;rw[N,aq rfl]at j;refine s0 ?_;refine bg ?_;by_cases v:s.phase=1
 case neg =>
  have d:(s.phase==1)=false:=su v;rw[au v]at j;rw[j];simp only[go_sem,seval,bne,d]<;>simp[af.zero,pl]
 rw[aq v]at j;obtain⟨ph,F⟩:=aN (s.phase);rw[<-F]at v c1 c2 K |-;have P:(ph==1)=true:=su v;clear F;refine sm (a2 gr P) ?_;refine sc aS c2 ?_;refine bg ?_;refine aG.gE [432] [] false sT ?_;refine s0 ?_;refine cz.gF c3 ?_;clear c1 c2 c3;refine s0 ?_;refine bg ?_;refine aF.sK (S:=List aI×List aU) ws.length [1,2,5,7] [32,48] (λi _=>[(8,.I i),(6,.ref 1248)])
  (λi x=>[(96,.box [.I s.now,.I s.day,.I ph,.sl 3 (s.aj.ms.map av.cells),.sl 12 (s.aj.ns.map aE.cells),.sl 4 (s.aj.xs.map aD.cells),.I s.book.next,.sl 7 (s.book.ts.map aR.cells),.sl 4 (s.book.qs.map aB.cells),
   .I s.bf.last,.sl 4 (s.bf.bs.map bU.cells),.sl 3 (pl s.ps),.sl 4 (x.1.map aI.cells),.sl 5 (s.aW.map aY.cells),.sl 7 (s.aT.map bX.cells)]),(1248,.own 3 (x.2.map aU.cells))])
  (λi x=>wY s (ws.drop i) x=R/\x.1.length<2^30/\x.2.length<=3*i) (s.calls,[]) ⟨L.symm,l.calls,fS _⟩ ?_ ?_ ?_
 ·exact kG
 ·intro i x W U aa b;obtain⟨cs,ds⟩:=x;obtain⟨b,f,g⟩:=b;dsimp only at b f g |-;rw[cg W]at b;simp only[wY]at b;have t:=ints_at ws W;have C:(i:Int)<(ws.length:Int):=ak
  have p:=K ws[i];obtain⟨w,G⟩:=aN (ws[i]);rw[<-G]at b t p;obtain⟨Q,hQ⟩:=aN (tQ s w 3 0 (cs,ds));rw[<-hQ]at b;clear K G;simp only[go_sem,seval,az,U];refine bg ?_;refine aF.sK (S:=List aI×List aU) 3 [1,2,5,7,8] [32,48] (λc _=>[(9,.I c),(6,.ref 1248)])
   (λc x=>[(96,.box [.I s.now,.I s.day,.I ph,.sl 3 (s.aj.ms.map av.cells),.sl 12 (s.aj.ns.map aE.cells),.sl 4 (s.aj.xs.map aD.cells),.I s.book.next,.sl 7 (s.book.ts.map aR.cells),.sl 4 (s.book.qs.map aB.cells),
    .I s.bf.last,.sl 4 (s.bf.bs.map bU.cells),.sl 3 (pl s.ps),.sl 4 (x.1.map aI.cells),.sl 5 (s.aW.map aY.cells),.sl 7 (s.aT.map bX.cells)]),(1248,.own 3 (x.2.map aU.cells))])
   (λc x=>tQ s w (3-c) c x=Q/\x.1.length<2^30/\x.2.length<=3*i+c) (cs,ds) ⟨hQ.symm,f,g⟩ ?_ ?_ ?_
  ·exact kG
  ·intro c x hc r H a;obtain⟨cs,ds⟩:=x;obtain⟨a,f,g⟩:=a;dsimp only at a f g |-;have r:decide ((c:Int)<3)=true:=r;obtain⟨m,hm⟩:∃m,3-c=m+1:=⟨3-c-1,by omega⟩
   have D:3-(c+1)=m:=ak
   rw[hm]at a;simp only[tQ]at a;have o:=p c;have k:=O cs ⟨w,c,Y2 s w c⟩ f;have q:=Xn cs ⟨w,c,Y2 s w c⟩ (Py s);dsimp only at k;obtain⟨n,hn⟩:=aN (Y2 s w c);obtain⟨e,he⟩:=aN (shE s w c);rw[<-hn]at o k a q;rw[<-he]at o a;rw[hA]at k a q;clear O p hn he;simp only[go_sem,seval,r,az,t,C];refine sc aS o ?_;by_cases u:e=0
   case neg =>
    have d:(e==0)=false:=su u;rw[au u]at a;rw[<-a]at b;dsimp only at b;rw[au u]at b;rw[<-b]at j;rw[j];simp only[au u];refine sm (a2 gr d) ?_;all_goals simp[af.zero,pl]
   rw[aq u]at a;rw[u];simp only[go_sem,seval,az,t,C,hw];refine sc aS k ?_;obtain⟨A,T⟩:=aN (EY cs ⟨w,c,n⟩ (min (s.now+3) 1099511627776));rw[<-T]at a q |-
   by_cases M:n=0
   ·have a:tQ s w m (c+1) (A,ds)=Q:=by rw[<-a];simp[nF,M]
    rw[M];refine sm (a2 gr H) ?_;refine bg ?_;refine ah.jT (A,ds) hc ⟨by rw[D];exact a,by dsimp only;omega,by dsimp only;omega⟩ ?_;exact kG
   ·have d:(n==0)=false:=su M;have a:tQ s w m (c+1) (A,ds++[⟨w,c,n⟩])=Q:=by rw[<-a];simp[nF,M]
    refine sm (a3 gr d H) ?_;refine bg ?_;refine ah.jT (A,ds++[⟨w,c,n⟩]) hc ⟨by rw[D];exact a,by dsimp only;omega,by simp;omega⟩ ?_;exact kG
  intro x _ a;obtain⟨cs,ds⟩:=x;obtain⟨a,f,g⟩:=a;have a:((cs,ds),(0:Int))=Q:=a;rw[<-a]at b;dsimp only at b f g;rw[aq rfl]at b;dsimp only;try refine gf.id ?_
  refine sm aa ?_;refine bg ?_;refine ah.jT (cs,ds) W ⟨b,f,by dsimp only;omega⟩ ?_;exact kG
 intro x V b;obtain⟨cs,ds⟩:=x;have b:=b.1;rw[jw]at b;have b:((cs,ds),(0:Int))=R:=b;subst b;rw[j];dsimp only;simp only[go_sem,seval,az,V]
theorem CN(s:af)(d:s.small)(c:s.fB)(a:s.bf.bs.length<2^29)(b:s.ps.length<2^29):Sq 78 [] [.agg s.cells] [] (.bI [.agg (oX s).cells,.sl 3 ((sL s).map aU.cells),.int .i64 (mU s)]):=by
 refine Spec.frozen (D6 s d c a b) [0] rfl ?_;intro r;rcases r with _|r<;>rfl
theorem Oh(b:aH)(w n:Int)(l:b.small):Sq 202 [] [.agg b.cells,.agg [.int .i64 w,.int .i64 n]] [] (.agg (posOf w n b.qs).cells):=by
 obtain⟨h1,h2⟩:=l;simp only[aH.cells];refine bp 22 2 [.cell 4 74] mixed func202 ?_;refine s0 ?_;refine aF.w1 b.qs.length 10 [3,4,8,9] [48,64,80,160] (λi _=>posOf w n (b.qs.drop i)=posOf w n b.qs) rfl ?_ ?_
 ·intro i _ g d f a;obtain⟨x,m,h,hli⟩:=oc (c:=aB.cells) b.qs g;rw[cg g,<-m]at a;simp only[posOf,bY]at a;simp only[aB.cells]at h;cases e:x.who==w
  ·simp only[e,cZ,iM,if_false]at a;refine sm (a4 d h e f) ?_;refine bg ?_;refine ah.u g a ?_;exact jq
  cases j:x.inst==n
  ·simp only[e,j,Bool.and_false,iM,if_false]at a;refine sm (a5 d h e j f) ?_;refine bg ?_;refine ah.u g a ?_;exact jq
  simp only[e,j,Bool.and_self,if_true]at a;rw[<-a];refine sm (a4 d h e j) ?_;exact Si
 ·intro _ k a;rw[jw]at a;rw[<-a];simp only[go_sem,seval,k,posOf]
def yy{A:Type}(p:A->Bool){xs:List A}{i:Nat}(h:i<xs.length):(xs.take (i+1)).filter p=(xs.take i).filter p++(if p xs[i]then[xs[i]]else[]):=by
 rw[jU h,nK];congr 1;by_cases a:p xs[i]=true<;>simp[a]
def Jm(w n:Int)(P L:List aB):List aB:=P.filter (bY w n)++L.filter (bY w n)
def jnE(w n:Int)(P L:List aB):Int:=if F5 (Jm w n P L)==0&&within (WR (Jm w n P L)) (-1099511627776) 1099511627776 then 0 else 1
def jnP(w n:Int)(P L:List aB):aB:=if jnE w n P L=0 then⟨w,n,WR (Jm w n P L),ZS (Jm w n P L)⟩else⟨0,0,0,0⟩
theorem Pj(w n:Int)(P L:List aB)(hP:P.length<2^28)(hL:L.length<2^28):Sq 258 [] [.agg [.int .i64 w,.int .i64 n],.sl 4 (P.map aB.cells),.sl 4 (L.map aB.cells)] [] (.bI [.agg (jnP w n P L).cells,.int .i64 (jnE w n P L)]):=by
 have y:(Jm w n P L).length<2^30:=by
  have:=length_filter_le (bY w n) P;have:=length_filter_le (bY w n) L;simp only[Jm,cR];omega
 have Y:=Kc (Jm w n P L) y;obtain⟨a,d⟩:∃a:List (List aB),a=[P,L]:=⟨_,rfl⟩
 have j:([[D.sl 4 (P.map aB.cells)],[.sl 4 (L.map aB.cells)]]:List (List D))=a.map λl=>[.sl 4 (l.map aB.cells)]:=by rw[d];rfl
 have two:a.length=2:=by rw[d];rfl
 have h:a.flatMap (λl=>l.filter (bY w n))=Jm w n P L:=by rw[d];simp[Jm]
 have N:∀l∈a,l.length<2^28:=by rw[d];intro l E;simp at E;rcases E with rfl|rfl<;>assumption
 have z:∀i,((a.take i).flatMap (λl=>l.filter (bY w n))).length<=(Jm w n P L).length:=by
  intro i;rw[<-h]
  conv=>rhs;rw[<-mj i a]
  rw[flatMap_append,cR];omega
 refine bp 61 3 [.cell 6 74,.tmp 7] mixed func258 ?_;refine sm j ?_;clear j;refine aF.wv 2 [3,6,18,19] [64,112,304,320] (λi=>[(20,.I i),(8,.ref 608)]) (λi=>[(608,.own 4 (((a.take i).flatMap λl=>l.filter (bY w n)).map aB.cells))]) ?_ ?_ ?_
 ·exact kG
 ·intro i _ hi m U _;have hi2:i<a.length:=ak
  have Q:(i:Int)<2:=ak
  have m:decide ((i:Int)<2)=true:=m;have hm:=br (c:=λl:List aB=>[D.sl 4 (l.map aB.cells)]) a hi2;have H:(a.take (i+1)).flatMap (λl=>l.filter (bY w n))=(a.take i).flatMap (λl=>l.filter (bY w n))++a[i].filter (bY w n):=by
   rw[jU hi2,flatMap_append,flatMap_singleton]
  have R:=z i;have O:=N a[i] (dS _);obtain⟨J,K⟩:=aN ((a.take i).flatMap (λl=>l.filter (bY w n)));obtain⟨l,E⟩:=aN (a[i]);rw[<-E]at hm H O;rw[<-K]at H R |-;simp only[go_sem,seval,m,hm,two];refine⟨Q,hi,?_⟩;refine aF.wv l.length [3,6,18,19,20,24,25] [64,112,304,320,416] (λk=>[(26,.I k),(8,.ref 608)]) (λk=>[(608,.own 4 ((J++(l.take k).filter (bY w n)).map aB.cells))]) ?_ ?_ ?_
  ·exact kG
  ·intro k _ u b o _;have hlk:(k:Int)<(l.length:Int):=ak
   obtain⟨x,hx,f,-⟩:=oc (c:=aB.cells) l u;have g:=yy (bY w n) u;have hfl:=length_filter_le (bY w n) (l.take k);have hlt:(l.take k).length=k:=by simp;omega
   obtain⟨V,M⟩:=aN (J++(l.take k).filter (bY w n));have hVl:V.length<2^31:=by rw[M,cR];omega
   have g:J++(l.take (k+1)).filter (bY w n)=V++(if bY w n x then[x]else[]):=by rw[g,M,hx,dz]
   rw[<-M];simp only[bY]at g;simp only[aB.cells]at f;cases p:x.who==w
   ·simp only[p,cZ,iM,if_false,append_nil]at g;refine sm (a4 b f p o) ?_;refine bg ?_;refine ah.v u ?_;simp only[go_sem,seval,bY,g]
   cases F:x.inst==n
   ·simp only[p,F,Bool.and_false,iM,if_false,append_nil]at g;refine sm (a5 b f p F o) ?_;refine bg ?_;refine ah.v u ?_;simp only[go_sem,seval,bY,g]
   simp only[p,F,Bool.and_self,if_true]at g;refine sm (a5 b f p F o) ?_;refine bg ?_;refine ah.v u ?_;simp only[go_sem,seval,bY,g]<;>simp
  ·intro _ b _;simp only[go_sem,seval,b,U,eu];refine bg ?_;refine ah.v hi ?_;exact dL H
 ·intro _ r _;have r:decide ((2:Int)<2)=false:=rfl;have s:decide (((2:Nat):Int)<2)=false:=rfl;have t:decide (((2:Nat):Int)<((2:Nat):Int))=false:=rfl;have T:a.take 2=a:=take_of_length_le ak;obtain⟨q,S⟩:=aN (WR (Jm w n P L));obtain⟨c,Z⟩:=aN (ZS (Jm w n P L));obtain⟨e,he⟩:=aN (F5 (Jm w n P L));have hE:jnE w n P L=if e==0&&within q (-1099511627776) 1099511627776 then 0 else 1:=by rw[jnE,<-he,<-S]
  rw[<-S,<-Z,<-he]at Y;simp only[jnP];rw[<-S,<-Z,hE];simp only[go_sem,seval,two,r,s,t,T,h];refine sl aS Y ?_;cases C:e==0
  ·exact gY (a2 gr C)
  by_cases W:q < -1099511627776
  ·have B:decide (q < -1099511627776)=true:=dY W;have A:within q (-1099511627776) 1099511627776=false:=by simp[within];omega
   exact gY (a4 gr C B A)
  have B:decide (q < -1099511627776)=false:=iA W;by_cases X:1099511627776<q
  ·have G:decide (1099511627776<q)=true:=dY X;have A:within q (-1099511627776) 1099511627776=false:=by simp[within];omega
   exact gY (a5 gr C B G A)
  have G:decide (1099511627776<q)=false:=iA X;have A:within q (-1099511627776) 1099511627776=true:=by simp[within];omega
  exact gY (a5 gr C B G A)
theorem oq{A:Type}(p:A->Bool)(f:A->Int):∀l:List A,pick p f l=(l.filter p).map f
 | []=>rfl
 |x::r=>by
  have a:=oq p f r;simp only[pick,flatMap_cons]at a |-;rw[a];by_cases h:p x=true<;>simp[h]
theorem GQ(f:aB->Int){w n:Int}(c:f ⟨w,n,0,0⟩=0):∀{qs:List aB},qs.Pairwise (λx y=>jP x y=true)->ay ((qs.filter (bY w n)).map f)=f (posOf w n qs)
 | [],_=>by rw[posOf,c];rfl
 |p::r,h=>by
  have h:=kB.1 h;by_cases a:bY w n p=true
  ·have d:r.filter (bY w n)=[]:=by
    rw[filter_eq_nil_iff];intro x e b;have:=qI.1 (h.1 x e);simp only[bY,bQ,ff]at a b;omega
   rw[filter_cons,aq a,d,posOf,aq a];simp[ay]
  ·rw[filter_cons,au a,posOf,au a];exact GQ f c h.2
def acR{b:aH}{g:List aB}(f:b.okB=true)(h:g.all jO=true)(w n:Int):(ay ((Jm w n b.qs g).map aB.aO)=zW b g w n/\ay ((Jm w n b.qs g).map aB.cost)=Jj b g w n)/\right ((Jm w n b.qs g).map aB.aO)=true/\right ((Jm w n b.qs g).map aB.cost)=true:=by
 have c:=dn.1 f;have e:∀p∈Jm w n b.qs g,bB p.aO=true/\bB p.cost=true:=by
  intro p a;simp only[Jm,mem_append,mem_filter]at a;rcases a with⟨a,_⟩| ⟨a,_⟩
  ·have:=iJ.1 (c.ok p a);exact⟨by rw[aP];omega,this.2.2.2.1⟩
  ·have:=bL.1 h p a;simp only[jO,bQ]at this;exact this.2
 refine⟨⟨?_,?_⟩,bL.2 ?_,bL.2 ?_⟩
 ·rw[Jm,jF,fM,GQ aB.aO rfl c.pw,zW,oq];rfl
 ·rw[Jm,jF,fM,GQ aB.cost rfl c.pw,Jj,oq];rfl
 ·intro x d;obtain⟨p,a,rfl⟩:=mem_map.1 d;exact(e p a).1
 ·intro x d;obtain⟨p,a,rfl⟩:=mem_map.1 d;exact(e p a).2
def X6{b:aH}{g:List aB}(d:b.okB=true)(e:g.all jO=true)(w n:Int):jnE w n b.qs g=if uT b g w n then 0 else 1:=by
 obtain⟨⟨a,c⟩,h3,h4⟩:=acR d e w n;simp only[jnE,F5,WR,a,c,h3,h4,uT];rcases Bool.eq_false_or_eq_true (bB (zW b g w n))with h5|h5<;>rcases Bool.eq_false_or_eq_true (bB (Jj b g w n))with h6|h6<;>simp[h5,h6]
def afi{b:aH}{g:List aB}(e:b.okB=true)(i:g.all jO=true){w n:Int}(h:uT b g w n=true):jnP w n b.qs g=⟨w,n,zW b g w n,Jj b g w n⟩:=by
 obtain⟨⟨c,d⟩,h3,h4⟩:=acR e i w n;have f:=X6 e i w n;rw[h,aq rfl]at f;simp only[uT,bQ]at h;have a:F5 (Jm w n b.qs g)=0:=by simp[F5,c,d,h3,h4,h.1,h.2.1]
 rw[jnP,aq f];simp only[WR,ZS,aq a,c,d]
theorem Mk(b:aH)(h:b.small):Sq 257 [] [.agg b.cells] [.own 7 (b.ts.map aR.cells)] (.agg [.int .i64 b.next,.ref 0,.sl 4 (b.qs.map aB.cells)]):=by
 have c1:=yq b.ts h.1;have c2:=Jy b.qs h.2;simp only[aH.cells];refine bp 12 1 [.cell 2 34] mixed func257 ?_;refine so aS c1 ?_;exact sZ aS c2
def agc(a b:Int):right [a,b]=(bB a&&bB b):=by simp[right]
def Vm{g:List aB}(h:g.all jO=true):n6 g=xK g:=by
 have d:∀n,right (dP n g)=true:=λn=>bL.2 λx a=>by
  simp only[dP,mem_map,mem_filter]at a;obtain⟨p,⟨b,_⟩,rfl⟩:=a;have:=bL.1 h p b;simp only[jO,bQ]at this;exact this.2.1
 have c:∀n,dP n g=pick (λp:aB=>p.inst==n) aB.aO g:=λn=>by rw[oq];rfl
 unfold n6 xK;congr 1;funext i;rw[nJ,HC,d,c];simp
theorem Og(b:aH)(g:List aB)(hb:b.small)(hq:b.qs.length<2^28)(hg:g.length<2^28):Sq 201 [] [.agg b.cells,.sl 4 (g.map aB.cells)] [.own 7 ((oN b g).ts.map aR.cells),.own 4 ((oN b g).qs.map aB.cells)] (.bI [.agg [.int .i64 (oN b g).next,.ref 0,.ref 1],.int .i64 (jA b g)]):=by
 have c1:=tA b hb;have c2:=Mk b hb;have c3:=HE g ak;have c4:=λw n=>Pj w n b.qs g hq hg;simp only[aH.cells]at c1 c2 |-;refine bp 86 2 [.cell 4 34,.tmp 5] mixed func201 ?_;refine sc aS c1 ?_;cases H:b.okB
 ·have e:jA b g=14:=by simp[jA,H]
  simp only[go_sem,seval,oN,e]<;>simp
 have e:jA b g=if g.all jO then(if xK g then(if uy b g then 0 else 1)else 12)else 3:=by simp[jA,H]
 simp only[oN];rw[e];clear e c1;refine s0 ?_;refine aF.w1 g.length 22 [1,2,4,20,21] [48,80,352] (λi _=>(g.drop i).all jO=g.all jO) rfl ?_ ?_
 ·intro i _ y E T d;obtain⟨x,hx,S,hli⟩:=oc (c:=aB.cells) g y;have k1:=qZ x.who x.inst;have G:=fq [x.aO,x.cost] sT;rw[agc]at G;rw[cg y,<-hx]at d;simp only[all_cons,jO]at d;simp only[aB.cells]at S;simp only[ints,map_cons,map_nil]at G;clear c2 c3 c4;obtain⟨B,hB⟩:∃q,q=qB x.who x.inst:=⟨_,rfl⟩
  obtain⟨C,o⟩:∃q,q=(bB x.aO&&bB x.cost):=⟨_,rfl⟩
  rw[<-hB]at k1 d;rw[<-o]at G d;cases B
  ·have p:g.all jO=false:=by rw[<-d];rfl
   refine sc (a2 E S) k1 ?_;rw[p];refine s0 ?_;all_goals simp
  refine sc (a2 E S) k1 ?_;cases C
  ·have p:g.all jO=false:=by rw[<-d];rfl
   refine sl aS G ?_;rw[p];refine s0 ?_;all_goals simp
  refine sl T G ?_;refine ah.u y d ?_;exact jq
 intro _ R d;rw[jw]at d;have l:g.all jO=true:=d.symm;rw[l];rw[Vm l]at c3;have P:=λw n=>X6 H l w n;have A:=λw n=>@afi b g H l w n;clear d;refine sc R c3 ?_;cases b2:xK g
 ·exact kG
 refine so aS c2 ?_;clear c2 c3;refine aF.wu 16 [1,2,4,9] [80,752] (λi=>[(10,.I ((i:Int)+1))]) (λi=>[(48,.box [.I b.next,.ref 752,.ref 1344]),(1344,.own 4 ((yh b g i).map aB.cells))]) (λi=>∀k<i,BO b g (((k:Nat):Int)+1)=true) sT ?_ ?_ ?_
 ·simp only[go_sem,seval]<;>simp[yh]
 ·intro i _ y _ _ d;obtain⟨w,N⟩:=aN ((i:Int)+1);have K:decide (w<=16)=true:=iy;have Z:IntKind.wrap .i64 (w+1)=((i+1:Nat):Int)+1:=fQ;have s:yh b g (i+1)=yh b g i++Jk b g w 8:=by rw[N];exact uC _ i
  have U:=BP b g i;have D:BO b g w=false->uy b g=false:=λh=>by
   rw[uy,all_eq_false];exact⟨i,mem_range.2 y,by rw[<-N,h];simp⟩
  obtain⟨W,hW⟩:=aN (yh b g i);rw[<-hW]at s U |-;rw[<-N];refine sm K ?_;refine aF.wu 8 [1,2,4,9,10] [80,752] (λj=>[(11,.I ((j:Int)+1))]) (λj=>[(48,.box [.I b.next,.ref 752,.ref 1344]),(1344,.own 4 ((W++Jk b g w j).map aB.cells))]) (λj=>∀k<j,uT b g w (((k:Nat):Int)+1)=true) sT ?_ ?_ ?_
  ·simp only[go_sem,seval]<;>simp[Jk]
  ·intro j _ L _ _ Q;obtain⟨n,M⟩:=aN ((j:Int)+1);have K:decide (n<=8)=true:=iy;have v:IntKind.wrap .i64 (n+1)=((j+1:Nat):Int)+1:=fQ;have F:Jk b g w (j+1)=Jk b g w j++FH b g w n:=by rw[M];exact uC _ j
   have hnl:=Mc b g w j
   have f:uT b g w n=false->uy b g=false:=λh=>D (by
    rw[BO,all_eq_false]
    exact⟨j,mem_range.2 L,by rw[<-M,h];simp⟩)
   have o:=c4 w n;have P:=P w n;have A:=A w n;rw[P]at o;obtain⟨V,J⟩:=aN (W++Jk b g w j);have hVl:V.length<=200:=by rw[J,cR];omega
   have a:W++Jk b g w (j+1)=V++FH b g w n:=by rw[F,J,dz]
   rw[<-J,<-M];clear J hW F s c4;cases m:uT b g w n
   ·have f:=f m;rw[m]at o;refine sc K o ?_;refine sm f ?_;all_goals simp
   ·have A:=A m;rw[m,A]at o;simp only[aB.cells]at o;have r:∀k<j+1,uT b g w (((k:Nat):Int)+1)=true:=λk hk2=>by
     rcases dN k j with h|h
     ·exact Q k h
     ·obtain rfl:k=j:=ak
      rw[<-M];exact m
    simp only[FH]at a;obtain⟨X,hX⟩:=aN (zW b g w n);obtain⟨Y,hY⟩:=aN (Jj b g w n);rw[<-hX,<-hY]at o a;refine sc K o ?_;cases z:X==0
    ·simp only[z,cZ,iM,if_false]at a;refine sm (a3 gr z v) ?_;refine bg ?_;refine ah.u L r ?_;exact gY a
    cases O:Y==0
    ·simp only[z,O,Bool.and_false,iM,if_false]at a;refine sm (a4 gr z O v) ?_;refine bg ?_;refine ah.u L r ?_;exact gY a
    simp only[z,O,Bool.and_self,if_true,append_nil]at a;refine sm (a4 gr z O v) ?_;refine bg ?_;refine ah.u L r ?_;exact dL a
  ·intro _ _ Q;have t:BO b g w=true:=bL.2 λk m=>Q k (mem_range.1 m);refine sm Z ?_;refine bg ?_;refine ah.u y ?_ ?_
   ·intro k m;rcases dN k i with h|h
    ·exact d k h
    ·obtain rfl:k=i:=ak
     rw[<-N];exact t
   ·exact dL s
 ·intro _ _ d;have t:uy b g=true:=bL.2 λk m=>d k (mem_range.1 m);exact dL t
def Ao(c:bG):aE:=⟨c.inst,c.cur,c.aO,c.cu,0,0,c.s0,c.s1,c.s2,c.s3,c.s4,c.s5⟩
def jh(s:af)(c:bG):af×Int×Int×Int×List aU×List dM:=
 if c.kind=1 then({ s with aj:=nW s.aj c.who c.cu },mh s.aj c.who c.cu,0,0,[],[])
 else if c.kind=2 then({ s with aj:=tP s.aj (Ao c) },rH s.aj (Ao c),0,0,[],[])
 else if c.kind=3 then({ s with aj:=tG s.aj ⟨c.no,c.cur,c.aL,c.cu⟩ },rD s.aj ⟨c.no,c.cur,c.aL,c.cu⟩,0,0,[],[])
 else if c.kind=4\/c.kind=5\/c.kind=8 then((vf s c).1,(vf s c).2,0,0,[],[])
 else if c.kind=6\/c.kind=7 then((qi s c (tW c)).1,(qi s c (tW c)).2,0,0,[],[])
 else if c.kind=9 then(if within c.cur 0 2&&within c.cu 1 4611686018427387904 then(qG s (bR ⟨1,0,c.cur⟩ ⟨4,0,c.cur⟩ c.cu),x9 s (bR ⟨1,0,c.cur⟩ ⟨4,0,c.cur⟩ c.cu),0,0,[],[])else(s,3,0,0,[],[]))
 else if c.kind=10\/c.kind=11\/c.kind=12\/c.kind=13 then(if s.phase=0 then((nP s c).1,(nP s c).2.2,(nP s c).2.1,0,[],[])else(s,15,0,0,[],[]))
 else if c.kind=14 then(rq s,nh s,0,0,uN s,[])
 else if c.kind=15 then(oX s,mU s,0,0,sL s,[])
 else if c.kind=16 then(Au s,yR s,0,0,[],[])
 else if c.kind=17 then(lE s c.cu,wF s c.cu,0,0,C4 s c.cu,[])
 else if c.kind=18 then((x8 s c).1,(x8 s c).2,0,0,[],[])
 else if c.kind=19 then(lN s c.who,rX s c.who,0,0,CA s c.who,CB s c.who)
 else if c.kind=20 then((pR 3 0 s []).1,(pR 3 0 s []).2.2,0,0,(pR 3 0 s []).2.1,[])
 else if c.kind=21 then(if aC.right ⟨c.no,c.who,c.cur⟩then(s,0,0,eP ⟨c.no,c.who,c.cur⟩ s.bf.bs,[],[])else(s,3,0,0,[],[]))
 else if c.kind=22 then(if qB c.who c.inst then(s,0,0,(posOf c.who c.inst s.book.qs).aO,[],[])else(s,3,0,0,[],[]))
 else(s,0,0,0,[],[])
def bP(s:af)(m:af×Int×Int×Int×List aU×List dM):af×bF:=if m.2.1=0 then(m.1,⟨0,m.2.2.1,m.2.2.2.1,m.2.2.2.2.1,m.2.2.2.2.2⟩)else(s,.err m.2.1)
def bn(s:af)(c:bG):af×bF:=bP s (jh s c)
def aeN(s:af)(c:bG)(h:s.good)(i:c.kind=1):Sq 19 [] [.agg s.cells,.agg c.cells] [] (.bI [.agg (bn s c).1.cells,.agg (bn s c).2.cells]):=by
 have a:=λe=>bV e;have c0:=aX s h.small;have f:bn s c=bP s ({ s with aj:=nW s.aj c.who c.cu },mh s.aj c.who c.cu,0,0,[],[]):=by unfold bn;congr 1;simp[jh,i]
 rw[f];clear f;have c1:=JQ s.aj c.who c.cu h.small.aj;obtain⟨A,b⟩:=aN (nW s.aj c.who c.cu);obtain⟨e,g⟩:=aN (mh s.aj c.who c.cu);rw[<-b,<-g]at c1 |-;clear b g;simp only[aA.cells]at c1;simp only[af.cells]at c0 |-;simp only[bG.cells,i];refine bp 227 2 [.cell 4 42,.cell 5 64] mixed func19 ?_;simp only[go_sem,seval];refine sc aS c0 ?_;refine bg ?_;refine sc aS c1 ?_;(with_reducible and_intros)<;>first|exact .dq|omega|skip
 by_cases q:e=0
 ·have d:(e==0)=true:=su q;simp only[bP,aq q];simp only[go_sem,seval,bne,d];(with_reducible and_intros)<;>first|exact .dq|omega|skip
  all_goals simp[pl]
 ·have d:(e==0)=false:=su q;simp only[bP,au q];simp only[go_sem,seval,bne,d];refine bg ?_;refine sc aS (a e) ?_;(with_reducible and_intros)<;>first|exact .dq|omega|skip
  all_goals simp[bF.err]
def aeO(s:af)(c:bG)(h:s.good)(i:c.kind=2):Sq 19 [] [.agg s.cells,.agg c.cells] [] (.bI [.agg (bn s c).1.cells,.agg (bn s c).2.cells]):=by
 have a:=λe=>bV e;have c0:=aX s h.small;have f:bn s c=bP s ({ s with aj:=tP s.aj (Ao c) },rH s.aj (Ao c),0,0,[],[]):=by unfold bn;congr 1;simp[jh,i]
 rw[f];clear f;have c1:=Nl s.aj (Ao c) h.small.aj;obtain⟨A,b⟩:=aN (tP s.aj (Ao c));obtain⟨e,g⟩:=aN (rH s.aj (Ao c));rw[<-b,<-g]at c1 |-;clear b g;simp only[aA.cells,Ao,aE.cells]at c1;simp only[af.cells]at c0 |-;simp only[bG.cells,i];refine bp 227 2 [.cell 4 42,.cell 5 64] mixed func19 ?_;simp only[go_sem,seval];refine sc aS c0 ?_;refine bg ?_;refine sc aS c1 ?_;(with_reducible and_intros)<;>first|exact .dq|omega|skip
 by_cases q:e=0
 ·have d:(e==0)=true:=su q;simp only[bP,aq q];simp only[go_sem,seval,bne,d];(with_reducible and_intros)<;>first|exact .dq|omega|skip
  all_goals simp[pl]
 ·have d:(e==0)=false:=su q;simp only[bP,au q];simp only[go_sem,seval,bne,d];refine bg ?_;refine sc aS (a e) ?_;(with_reducible and_intros)<;>first|exact .dq|omega|skip
  all_goals simp[bF.err]
def aeP(s:af)(c:bG)(h:s.good)(i:c.kind=3):Sq 19 [] [.agg s.cells,.agg c.cells] [] (.bI [.agg (bn s c).1.cells,.agg (bn s c).2.cells]):=by
 have a:=λe=>bV e;have c0:=aX s h.small;have f:bn s c=bP s ({ s with aj:=tG s.aj ⟨c.no,c.cur,c.aL,c.cu⟩ },rD s.aj ⟨c.no,c.cur,c.aL,c.cu⟩,0,0,[],[]):=by unfold bn;congr 1;simp[jh,i]
 rw[f];clear f;have c1:=Ni s.aj ⟨c.no,c.cur,c.aL,c.cu⟩ h.small.aj;obtain⟨A,b⟩:=aN (tG s.aj ⟨c.no,c.cur,c.aL,c.cu⟩);obtain⟨e,g⟩:=aN (rD s.aj ⟨c.no,c.cur,c.aL,c.cu⟩);rw[<-b,<-g]at c1 |-;clear b g;simp only[aA.cells,aD.cells]at c1;simp only[af.cells]at c0 |-;simp only[bG.cells,i];refine bp 227 2 [.cell 4 42,.cell 5 64] mixed func19 ?_;simp only[go_sem,seval];refine sc aS c0 ?_;refine bg ?_;refine sc aS c1 ?_;(with_reducible and_intros)<;>first|exact .dq|omega|skip
 by_cases q:e=0
 ·have d:(e==0)=true:=su q;simp only[bP,aq q];simp only[go_sem,seval,bne,d];(with_reducible and_intros)<;>first|exact .dq|omega|skip
  all_goals simp[pl]
 ·have d:(e==0)=false:=su q;simp only[bP,au q];simp only[go_sem,seval,bne,d];refine bg ?_;refine sc aS (a e) ?_;(with_reducible and_intros)<;>first|exact .dq|omega|skip
  all_goals simp[bF.err]
