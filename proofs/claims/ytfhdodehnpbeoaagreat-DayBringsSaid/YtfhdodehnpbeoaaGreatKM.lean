/- Parts. -/
import Derived.Test.YtfhdodehnpbeoaaGreatKL
set_option linter.all false
set_option maxHeartbeats 4000000
set_option maxRecDepth 16000
namespace Go.Proofs.YtfhdodehnpbeoaaGreat
open Go.Abs Tryz
def rA(s:af):Int:=min (s.now+3) 1099511627776
def lz(s:af)(w:Int):Nat->Nat->List aB×List aH->(List aB×List aH)×Int
 | 0,_,x=>(x,0)
 |m+1,c,x=>if Mt s w c=0 then lz s w m (c+1) (yT x.1 ⟨w,c,uW s w c⟩ (rA s),x.2++jT w c (uW s w c))else(x,Mt s w c)
def lO(s:af):List Int->List aB×List aH->(List aB×List aH)×Int
 | [],x=>(x,0)
 |w::r,x=>if(lz s w 3 0 x).2=0 then lO s r (lz s w 3 0 x).1 else lz s w 3 0 x
def QH(s:af):(List aB×List aH)×Int:=lO s (iP s.ak [1]) (s.calls,[])
def fH(s:af):Int:=if bS s then(if s.phase=1 then(QH s).2 else 15)else 14
def bW(s:af):af:=if fH s=0 then{ s with phase:=2,calls:=(QH s).1.1 }else .zero
def kK(s:af):List aH:=if fH s=0 then(QH s).1.2 else[]
def R8(xs:List aB)(d:aH)(a:Int):(yT xs d a).length<=48:=by
 unfold yT;split
 ·exact UI _ _ _
 ·simp
def GP(s:af)(l:s.small)(hr:s.gq)(X:s.bp.bs.length<2^29)(Y:s.ps.length<2^29) :
  Sq 240 [] [.agg s.cells] [.own 3 ((kK s).map aH.cells)] (.bD [.agg (bW s).cells,.ref 0,.I (fH s)]):=by
 have c1:=jq s l hr;have c2:=bg s l;have c3:=Db s.ak [1] l.ak sT;have B:s.fit:=⟨l.ak.small,l.book,l.bp,l.ps⟩
 have K:=λw c=>xD s w c B hr X Y;have O:=λxs d (h:xs.length<2^30)=>Ud xs d (rA s) h;have Z:=td s.ak [1];have hml:=l.ak.1;have z:=λh=>BS (s:=s) h;obtain⟨E,j⟩:=aL (fH s);have y:=j;simp only[fH]at j;simp only[bW,kK,<-y];clear y;obtain⟨R,L⟩:=aL (QH s);rw[<-L]at j |-;simp only[QH]at L;obtain⟨ws,J⟩:=aL (iP s.ak [1]);rw[<-J]at c3 L Z;clear J;simp only[af.cells]at c1 c2 K |-;rw[show ints [1]=[[.I 1]]from rfl]at c3;simp only[ay.cells]at c3;simp only[aH.cells]at O;refine aX 82 1 [.cell 2 42,.tmp 3,.tmp 4] mixed func240 ?_;refine sc aK c1 ?_;cases N:bS s
 ·rw[N]at j;rw[j];simp only[go_sem,seval]<;>simp[af.zero,pl]
 have z:=z N;have hA:rA s=min (s.now+3) 1099511627776:=rfl;have hw:IntKind.wrap .i64 (s.now+3)=s.now+3:=gx aj aj;rw[N,au rfl]at j;refine s0 ?_;refine aV ?_;by_cases v:s.phase=1
 case neg =>
  have d:(s.phase==1)=false:=su v;rw[aq v]at j;rw[j];simp only[go_sem,seval,bne,d]<;>simp[af.zero,pl]
 rw[au v]at j;obtain⟨ph,F⟩:=aL (s.phase);rw[<-F]at v c1 c2 K |-;have P:(ph==1)=true:=su v;clear F;refine sm (a2 dV P) ?_;refine sc aK c2 ?_;refine aV ?_;refine az.iw [432] [] false sT ?_;refine s0 ?_;refine dL.ij c3 ?_;clear c1 c2 c3;refine s0 ?_;refine aV ?_;refine aG.rT (S:=List aB×List aH) ws.length [1,2,5,7] [32,48] (λi _=>[(8,.I i),(6,.ref 1248)])
  (λi x=>[(96,.box [.I s.now,.I s.day,.I ph,.sl 3 (s.ak.ms.map av.cells),.sl 12 (s.ak.ns.map aF.cells),.sl 4 (s.ak.xs.map aD.cells),.I s.book.next,.sl 7 (s.book.ts.map aT.cells),.sl 4 (s.book.qs.map aE.cells),
   .I s.bp.last,.sl 4 (s.bp.bs.map bY.cells),.sl 3 (pl s.ps),.sl 4 (x.1.map aB.cells),.sl 5 (s.aZ.map bn.cells),.sl 7 (s.aR.map bZ.cells)]),(1248,.own 3 (x.2.map aH.cells))])
  (λi x=>lO s (ws.drop i) x=R/\x.1.length<2^30/\x.2.length<=3*i) (s.calls,[]) ⟨L.symm,l.calls,fO _⟩ ?_ ?_ ?_
 ·exact jh
 ·intro i x W U aa b;obtain⟨cs,ds⟩:=x;obtain⟨b,f,g⟩:=b;dsimp only at b f g |-;rw[dI W]at b;simp only[lO]at b;have t:=ints_at ws W;have C:(i:Int)<(ws.length:Int):=aj
  have p:=K ws[i];obtain⟨w,G⟩:=aL (ws[i]);rw[<-G]at b t p;obtain⟨Q,hQ⟩:=aL (lz s w 3 0 (cs,ds));rw[<-hQ]at b;clear K G;simp only[go_sem,seval,aA,U];refine aV ?_;refine aG.rT (S:=List aB×List aH) 3 [1,2,5,7,8] [32,48] (λc _=>[(9,.I c),(6,.ref 1248)])
   (λc x=>[(96,.box [.I s.now,.I s.day,.I ph,.sl 3 (s.ak.ms.map av.cells),.sl 12 (s.ak.ns.map aF.cells),.sl 4 (s.ak.xs.map aD.cells),.I s.book.next,.sl 7 (s.book.ts.map aT.cells),.sl 4 (s.book.qs.map aE.cells),
    .I s.bp.last,.sl 4 (s.bp.bs.map bY.cells),.sl 3 (pl s.ps),.sl 4 (x.1.map aB.cells),.sl 5 (s.aZ.map bn.cells),.sl 7 (s.aR.map bZ.cells)]),(1248,.own 3 (x.2.map aH.cells))])
   (λc x=>lz s w (3-c) c x=Q/\x.1.length<2^30/\x.2.length<=3*i+c) (cs,ds) ⟨hQ.symm,f,g⟩ ?_ ?_ ?_
  ·exact jh
  ·intro c x hc r H a;obtain⟨cs,ds⟩:=x;obtain⟨a,f,g⟩:=a;dsimp only at a f g |-;have r:decide ((c:Int)<3)=true:=r;obtain⟨m,hm⟩:∃m,3-c=m+1:=⟨3-c-1,by omega⟩
   have D:3-(c+1)=m:=aj
   rw[hm]at a;simp only[lz]at a;have o:=p c;have k:=O cs ⟨w,c,uW s w c⟩ f;have q:=R8 cs ⟨w,c,uW s w c⟩ (rA s);dsimp only at k;obtain⟨n,hn⟩:=aL (uW s w c);obtain⟨e,he⟩:=aL (Mt s w c);rw[<-hn]at o k a q;rw[<-he]at o a;rw[hA]at k a q;clear O p hn he;simp only[go_sem,seval,r,aA,t,C];refine sc aK o ?_;by_cases u:e=0
   case neg =>
    have d:(e==0)=false:=su u;rw[aq u]at a;rw[<-a]at b;dsimp only at b;rw[aq u]at b;rw[<-b]at j;rw[j];simp only[aq u];refine sm (a2 dV d) ?_;all_goals simp[af.zero,pl]
   rw[au u]at a;rw[u];simp only[go_sem,seval,aA,t,C,hw];refine sc aK k ?_;obtain⟨A,T⟩:=aL (yT cs ⟨w,c,n⟩ (min (s.now+3) 1099511627776));rw[<-T]at a q |-
   by_cases M:n=0
   ·have a:lz s w m (c+1) (A,ds)=Q:=by rw[<-a];simp[jT,M]
    rw[M];refine sm (a2 dV H) ?_;refine aV ?_;refine ah.jP (A,ds) hc ⟨by rw[D];exact a,by dsimp only;omega,by dsimp only;omega⟩ ?_;exact jh
   ·have d:(n==0)=false:=su M;have a:lz s w m (c+1) (A,ds++[⟨w,c,n⟩])=Q:=by rw[<-a];simp[jT,M]
    refine sm (a3 dV d H) ?_;refine aV ?_;refine ah.jP (A,ds++[⟨w,c,n⟩]) hc ⟨by rw[D];exact a,by dsimp only;omega,by simp;omega⟩ ?_;exact jh
  intro x _ a;obtain⟨cs,ds⟩:=x;obtain⟨a,f,g⟩:=a;have a:((cs,ds),(0:Int))=Q:=a;rw[<-a]at b;dsimp only at b f g;rw[au rfl]at b;dsimp only;try refine gK.id ?_
  refine sm aa ?_;refine aV ?_;refine ah.jP (cs,ds) W ⟨b,f,by dsimp only;omega⟩ ?_;exact jh
 intro x V b;obtain⟨cs,ds⟩:=x;have b:=b.1;rw[jJ]at b;have b:((cs,ds),(0:Int))=R:=b;subst b;rw[j];dsimp only;simp only[go_sem,seval,aA,V]
def Fh(s:af)(c:s.small)(hr:s.gq)(a:s.bp.bs.length<2^29)(b:s.ps.length<2^29):Sq 240 [] [.agg s.cells] [] (.bD [.agg (bW s).cells,.sl 3 ((kK s).map aH.cells),.I (fH s)]):=by
 refine Spec.frozen (GP s c hr a b) [0] rfl ?_;intro r;rcases r with _|r<;>rfl
def Spec.Xo{P:Program}{f:FuncId}{c ds a:List D}{d:D}(h:Abs.Spec P f c ds a d)(k:Nat)(hk:c.length<=k){g:List D}{y:D}(N:a.getD k .undef≠.undef)(K:(CH k (uT [(0,d)] (vT 0 a))).t 0=y)
  (O:∀r,(CH k (uT [(0,d)] (vT 0 a))).o r=g.getD r .undef) (Q:∀i,i<c.length->a.getD i .undef=.undef->g.getD i .undef=.undef):Abs.Spec P f c ds g y:=by
 refine⟨h.1,?_⟩;intro w B x m C vs z p J u hr l;refine(h.2 w B x m C vs z p J u hr l).mono ?_;rintro e w' ⟨v,rfl,o⟩;refine⟨v,rfl,o.os,o.tape,o.output,o.size,o.old,o.part,?_⟩;obtain⟨lev,own,S,E,F,G,H,I⟩:=o.rep;have M:Inv w B x S w' lev own S (uT [(0,d)] (vT 0 a)) (λj=>if j=0 then v else Go.undef):=by
  refine⟨⟨o.os,z⟩,o.tape,o.output,o.size,o.old,o.part,E,F,λ_ _ _=>rfl,?_,?_⟩
  ·intro s;show aO _ _ (Abs.look [(0,d)] s);by_cases c:s=0
   ·subst c;simpa[Abs.look]using G
   ·simp only[Abs.look,aq c];exact .undef _
  ·intro r;show n8 _ _ _ _ _ _ r (Abs.look (vT 0 a) r);rw[rC];simpa using H r
 have b:=(Inv.frz M k).resolve_right (λn=>N (by
  have n:Abs.look (vT 0 a) k=.undef:=n;rw[rC]at n
  simpa using n))
 refine⟨_,own,lP S k none,b.priv,b.mT,?_,?_,?_⟩
 ·have:=b.rP 0;rw[K]at this;simpa using this
 ·intro r;have:=b.objs r;rwa[O]at this
 ·intro i A q;have:i≠k:=aj
  simp only[lP,this,if_false];exact I i A λL=>q (Q i A L)
def Az(s:af)(c:bB):af×Int:=
 if within c.aQ 1 1048576&&within c.aS 1 1073741824 then
  (if gp s.ak c.who&&(gp s.ak c.other&&bE s.ak c.inst)then
   (if c.who=c.other then(s,16)
   else if(fj s.ak c.who).state=2/\(fj s.ak c.other).state=1 then
    (if 32<=s.aZ.length then(s,9)else({ s with aZ:=s.aZ++[⟨c.who,c.inst,c.other,c.aQ,c.aS⟩] },0))
   else(s,14))
  else(s,10))
 else(s,3)
@[reducible] def af.Dm(s:af)(r:Nat):List D:=[.I s.now,.I s.day,.I s.phase,.sl 3 (s.ak.ms.map av.cells),.sl 12 (s.ak.ns.map aF.cells),.sl 4 (s.ak.xs.map aD.cells),.I s.book.next,.sl 7 (s.book.ts.map aT.cells),.sl 4 (s.book.qs.map aE.cells),
 .I s.bp.last,.sl 4 (s.bp.bs.map bY.cells),.sl 3 (pl s.ps),.sl 4 (s.calls.map aB.cells),.ref r,.sl 7 (s.aR.map bZ.cells)]
def Q3(s:af)(c:bB)(h:s.good):Sq 243 [.box (s.Dm 1),.own 5 (s.aZ.map bn.cells)] [.addr 0 0,.agg c.cells] [.box ((Az s c).1.Dm 2),.undef,.own 5 ((Az s c).1.aZ.map bn.cells)] (.int .i64 (Az s c).2):=by
 have c1:=lQ c.aQ 1 1048576;have c2:=lQ c.aS 1 1073741824;have c3:=dK s.ak c.who h.small.ak.small;have c4:=dK s.ak c.other h.small.ak.small;have i:=fu s.ak c.inst h.small.ak.small;have hbl:=h.aZ;obtain⟨R,a⟩:=aL (Az s c);rw[<-a];simp only[Az]at a;obtain⟨m,k⟩:=aL (fj s.ak c.who);obtain⟨l,f⟩:∃m,m=fj s.ak c.other:=⟨_,rfl⟩
 obtain⟨B,g⟩:∃m,m=gp s.ak c.who:=⟨_,rfl⟩
 obtain⟨n,b⟩:∃m,m=gp s.ak c.other:=⟨_,rfl⟩
 obtain⟨A,e⟩:∃m,m=bE s.ak c.inst:=⟨_,rfl⟩
 obtain⟨y,u⟩:∃m,m=aU s.ak c.inst:=⟨_,rfl⟩
 rw[<-k,<-g]at c3;rw[<-f,<-b]at c4;rw[<-e,<-u]at i;rw[<-k,<-f,<-g,<-b,<-e]at a;clear k f g b e u;simp only[ay.cells]at c3 c4 i;simp only[af.Dm];simp only[bB.cells];refine aX 101 2 [.tmp 4] mixed func243 ?_;simp only[go_sem,seval];refine sc aK c1 ?_;cases o:within c.aQ 1 1048576
 ·rw[o]at a;have a:R=(s,3):=a;rw[a];simp only[go_sem,seval]<;>simp
 rw[o,cz]at a;simp only[go_sem,seval];refine sc aK c2 ?_;cases p:within c.aS 1 1073741824
 ·rw[p]at a;have a:R=(s,3):=a;rw[a];simp only[go_sem,seval]<;>simp
 rw[p,au rfl]at a;simp only[go_sem,seval];refine sc aK c3 ?_;refine aV ?_;refine sc aK c4 ?_;refine aV ?_;refine az.aP i ?_;clear c1 c2 c3 c4 i;cases q:B
 ·rw[q]at a;have a:R=(s,10):=a;rw[a];simp only[go_sem,seval];(with_reducible and_intros)<;>first|exact .dq|omega|skip
 rw[q,cz]at a;cases r:n
 ·rw[r]at a;have a:R=(s,10):=a;rw[a];simp only[go_sem,seval];(with_reducible and_intros)<;>first|exact .dq|omega|skip
 rw[r,cz]at a;cases t:A
 ·rw[t]at a;have a:R=(s,10):=a;rw[a];simp only[go_sem,seval];(with_reducible and_intros)<;>first|exact .dq|omega|skip
 rw[t,au rfl]at a;simp only[go_sem,seval];(with_reducible and_intros)<;>first|exact .dq|omega|skip
 by_cases k1:c.who=c.other
 ·have d:(c.who==c.other)=true:=su k1;rw[au k1]at a;rw[a];simp only[go_sem,seval,d]<;>simp
 have w:(c.who==c.other)=false:=su k1;rw[aq k1]at a;simp only[go_sem,seval,w];(with_reducible and_intros)<;>first|exact .dq|omega|skip
 by_cases k2:m.state=2
 case neg =>
  have d:(m.state==2)=false:=su k2;rw[aq (λh=>k2 h.1)]at a;rw[a];simp only[go_sem,seval,bne,d]<;>simp
 have x:(m.state==2)=true:=su k2;simp only[go_sem,seval,bne,x];(with_reducible and_intros)<;>first|exact .dq|omega|skip
 by_cases k3:l.state=1
 case neg =>
  have d:(l.state==1)=false:=su k3;rw[aq (λh=>k3 h.2)]at a;rw[a];simp only[go_sem,seval,d]<;>simp
 have z:(l.state==1)=true:=su k3;rw[au ⟨k2,k3⟩]at a;simp only[go_sem,seval,z];(with_reducible and_intros)<;>first|exact .dq|omega|skip
 by_cases v:32<=s.aZ.length
 ·have j:decide ((32:Int)<=(s.aZ.length:Int))=true:=by simp;omega
  rw[au v]at a;rw[a];simp only[go_sem,seval,j]<;>simp
 have j:decide ((32:Int)<=(s.aZ.length:Int))=false:=by simp;omega
 rw[aq v]at a;rw[a];simp only[go_sem,seval,j];(with_reducible and_intros)<;>first|exact .dq|omega|skip
 all_goals simp
def M4(s:af)(c:bB)(h:s.good):Sq 243 [.box (s.Dm 1),.own 5 (s.aZ.map bn.cells)] [.addr 0 0,.agg c.cells] [.box (Az s c).1.cells,.undef] (.int .i64 (Az s c).2):=by
 refine Spec.Xo (Q3 s c h) 2 (fO _) sT rfl ?_ ?_
 ·intro r;rcases r with _| _| _|r<;>rfl
 ·intro i a b;rcases i with _| _|i
  ·simp at b
  ·rfl
  ·simp at a;omega
def GN(s:af)(h:s.good):Sq 245 [.box s.cells] [.addr 0 0] [.box (rU 3 0 s []).1.cells] (.bD [.sl 3 ((rU 3 0 s []).2.1.map aH.cells),.int .i64 (rU 3 0 s []).2.2]):=by
 refine Spec.Xo (Ik s h) 1 (fO _) sT rfl ?_ ?_
 ·intro r;rcases r with _| _|r<;>rfl
 ·intro i a b;rcases i with _|i
  ·simp at b
  ·simp at a
def aoy(n0 n1 a b c:Int)(d r1 r2 r3 r4 r5 r6 e g f:List (List D)):(iY [0,1,2,3,4,5,6,7,9] (uT [(0,.agg [.I n0,.I n1,.I a,.ref 0,.ref 1,.ref 2,.I b,.ref 3,.ref 4,.I c,.ref 5,.ref 6,.ref 7,.ref 8,.ref 9])] (vT 0 [.own 3 d,.own 12 r1,.own 4 r2,.own 7 r3,.own 4 r4,.own 4 r5,.own 3 r6,.own 4 e,.own 5 g,.own 7 f]))).t 0=.agg [.I n0,.I n1,.I a,.sl 3 d,.sl 12 r1,.sl 4 r2,.I b,.sl 7 r3,.sl 4 r4,.I c,.sl 4 r5,.sl 3 r6,.sl 4 e,.ref 8,.sl 7 f]:=by
 kernel_rfl
def ajd(d:D)(b r1 r2 r3 r4 r5 r6 c a e:List (List D))(r:Nat):(iY [0,1,2,3,4,5,6,7,9] (uT [(0,d)] (vT 0 [.own 3 b,.own 12 r1,.own 4 r2,.own 7 r3,.own 4 r4,.own 4 r5,.own 3 r6,.own 4 c,.own 5 a,.own 7 e]))).o r=[D.undef,.undef,.undef,.undef,.undef,.undef,.undef,.undef,.own 5 a].getD r .undef:=by
 rcases r with _| _| _| _| _| _| _| _| _| _|r<;>kernel_rfl
def U6(s:af)(a:s.small):Sq 118 [] [.agg s.cells] [.undef,.undef,.undef,.undef,.undef,.undef,.undef,.undef,.own 5 (s.aZ.map bn.cells)] (.agg (s.Dm 8)):=by
 have h:=vS s a;simp only[UQ,L3]at h;simp only[af.Dm];simp only[af.cells]at h |-;exact Spec.frozen h [0,1,2,3,4,5,6,7,9] (aoy ..) (λr=>ajd ..)
