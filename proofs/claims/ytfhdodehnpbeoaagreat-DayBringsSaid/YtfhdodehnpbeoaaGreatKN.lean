/- Parts. -/
import Derived.Test.YtfhdodehnpbeoaaGreatKL
set_option linter.all false
set_option maxHeartbeats 4000000
set_option maxRecDepth 16000
namespace Go.Proofs.YtfhdodehnpbeoaaGreat
open Go.Abs Tryz
def mI(s:af):Int:=if bS s then(if s.phase=2 then(if s.day=1099511627776 then 1 else 0)else 15)else 14
def oz(s:af):af:=if mI s=0 then{ s with day:=s.day+1,phase:=0,book:=⟨s.book.next,[],s.book.qs⟩ }else .zero
def Im(s:af)(i:s.small)(hr:s.gq):Sq 241 [] [.agg s.cells] [] (.bD [.agg (oz s).cells,.I (mI s)]):=by
 have c1:=jq s i hr;have c2:=bg s i;have c:=λh=>BS (s:=s) h;obtain⟨E,a⟩:=aL (mI s);have b:=a;simp only[mI]at a;simp only[oz,<-b];clear b;simp only[af.cells]at c1 c2 |-;refine aX 32 1 [.cell 2 42,.tmp 3] mixed func241 ?_;refine sc aK c1 ?_;cases g:bS s
 ·rw[g]at a;rw[a];simp only[go_sem,seval]<;>simp[af.zero,pl]
 have c:=c g;rw[g,au rfl]at a;refine s0 ?_;refine aV ?_;by_cases e:s.phase=2
 case neg =>
  have d:(s.phase==2)=false:=su e;rw[aq e]at a;rw[a];simp only[go_sem,seval,bne,d]<;>simp[af.zero,pl]
 rw[au e]at a;rw[e]at c1 c2 |-;refine s0 ?_;refine aV ?_;by_cases f:s.day=1099511627776
 ·rw[au f]at a;rw[a,f];simp only[go_sem,seval]<;>simp[af.zero,pl]
 have d:(s.day==1099511627776)=false:=su f;have j:IntKind.wrap .i64 (s.day+1)=s.day+1:=gx aj aj;rw[aq f]at a;rw[a];refine sc d c2 ?_;exact gH j
def aB.due(c:aB):aH:=⟨c.who,c.cur,c.bT⟩
def nF:List aB->ay×List aB->ay×List aB
 | [],x=>x
 |c::r,x=>nF r (jU x.1 c.who 2,dQ x.2 [c.who])
def pF(s:af)(n:Int):Int:=if bS s then(if within n 1 1000 then(if 1099511627776<s.now+n then 1 else 0)else 3)else 14
def jc(s:af)(n:Int):af:=if pF s n=0 then{ s with now:=s.now+n,ak:=(nF (jM (s.now+n) s.calls) (s.ak,s.calls)).1,calls:=(nF (jM (s.now+n) s.calls) (s.ak,s.calls)).2 }else .zero
def qK(s:af)(n:Int):List aH:=if pF s n=0 then(jM (s.now+n) s.calls).map aB.due else[]
theorem U9{A:Type}(no:A->Int)(n:Int)(f:A->A)(l:List A):(BZ no n f l).length<=l.length:=by
 induction l with
 |nil=>simp[BZ]
 |cons x r ih=>simp only[BZ];split<;>simp<;>omega
def Pb{r:ay}(h:r.jQ)(n p:Int):(jU r n p).jQ:=by
 unfold jU;split
 ·obtain⟨a,b,c⟩:=h;exact⟨Nat.lt_of_le_of_lt (U9 _ _ _ _) a,b,c⟩
 ·exact⟨by simp[ay.none],by simp[ay.none],by simp[ay.none]⟩
def FN(xs:List aB)(ws:List Int):(dQ xs ws).length<=xs.length:=by
 have:=gJ (f:=λx:aB=>if tO ws x.who then[]else[x]) (m:=1) (λp=>by split<;>simp) xs;simpa[dQ]using this
def OC(n:Int)(xs:List aB):(jM n xs).length<=xs.length:=by
 have:=gJ (f:=λx:aB=>if x.till<=n then[x]else[]) (m:=1) (λp=>by split<;>simp) xs;simpa[jM]using this
def atE(n0 n1 a b c:Int)(d r1 r2 r3 r4 r5 r6 g e f:List (List D)):(iY [0,1,2,3,4,5,6,8,9] (uT [(0,.agg [.I n0,.I n1,.I a,.ref 0,.ref 1,.ref 2,.I b,.ref 3,.ref 4,.I c,.ref 5,.ref 6,.ref 7,.ref 8,.ref 9])] (vT 0 [.own 3 d,.own 12 r1,.own 4 r2,.own 7 r3,.own 4 r4,.own 4 r5,.own 3 r6,.own 4 g,.own 5 e,.own 7 f]))).t 0=.agg [.I n0,.I n1,.I a,.sl 3 d,.sl 12 r1,.sl 4 r2,.I b,.sl 7 r3,.sl 4 r4,.I c,.sl 4 r5,.sl 3 r6,.ref 7,.sl 5 e,.sl 7 f]:=by
 kernel_rfl
def aoz(d:D)(b r1 r2 r3 r4 r5 r6 a c e:List (List D))(r:Nat):(iY [0,1,2,3,4,5,6,8,9] (uT [(0,d)] (vT 0 [.own 3 b,.own 12 r1,.own 4 r2,.own 7 r3,.own 4 r4,.own 4 r5,.own 3 r6,.own 4 a,.own 5 c,.own 7 e]))).o r=[D.undef,.undef,.undef,.undef,.undef,.undef,.undef,.own 4 a].getD r .undef:=by
 rcases r with _| _| _| _| _| _| _| _| _| _|r<;>kernel_rfl
def U7(s:af)(a:s.small):Sq 118 [] [.agg s.cells] [.undef,.undef,.undef,.undef,.undef,.undef,.undef,.own 4 (s.calls.map aB.cells)] (.agg [.I s.now,.I s.day,.I s.phase,.sl 3 (s.ak.ms.map av.cells),.sl 12 (s.ak.ns.map aF.cells),.sl 4 (s.ak.xs.map aD.cells),.I s.book.next,.sl 7 (s.book.ts.map aT.cells),.sl 4 (s.book.qs.map aE.cells),
 .I s.bp.last,.sl 4 (s.bp.bs.map bY.cells),.sl 3 (pl s.ps),.ref 7,.sl 5 (s.aZ.map bn.cells),.sl 7 (s.aR.map bZ.cells)]):=by
 have h:=vS s a;simp only[UQ,L3]at h;simp only[af.cells];simp only[af.cells]at h;exact Spec.frozen h [0,1,2,3,4,5,6,8,9] (atE ..) (λr=>aoz ..)
def Up (s : af) (n : Int) (f : s.small) (hr : s.gq) : Sq 242 [] [.agg s.cells, .I n] [.own 4 ((jc s n).calls.map aB.cells), .own 3 ((qK s n).map aH.cells)] (.bD [.agg [.I (jc s n).now, .I (jc s n).day, .I (jc s n).phase, .sl 3 ((jc s n).ak.ms.map av.cells), .sl 12 ((jc s n).ak.ns.map aF.cells), .sl 4 ((jc s n).ak.xs.map aD.cells), .I (jc s n).book.next, .sl 7 ((jc s n).book.ts.map aT.cells), .sl 4 ((jc s n).book.qs.map aE.cells),
        .I (jc s n).bp.last, .sl 4 ((jc s n).bp.bs.map bY.cells), .sl 3 (pl (jc s n).ps), .ref 0, .sl 5 ((jc s n).aZ.map bn.cells), .sl 7 ((jc s n).aR.map bZ.cells)], .ref 1, .I (pF s n)]):=by
  have c1:=jq s f hr;have c2:=U7 s f;have c3:=j6 n 1 1000;have c4:=λm => Re m s.calls f.calls;have j:=λh => BS (s:=s) h;obtain⟨E, b⟩:∃E, E=pF s n:=⟨_, rfl⟩
  have g:=b;simp only[pF]at b;simp only[jc, qK, ← g];clear g;simp only[af.cells]at c1 c2 ⊢;refine aX 85 2 [.cell 4 42, .tmp 5, .tmp 6] mixed func242 ?_;refine sc aK c1 ?_;cases A:bS s
  · rw[A]at b
    rw[b];simp only[go_sem, seval] <;> simp[af.zero, pl]
  have j:=j A;rw[A, au rfl]at b;refine sc aK c3 ?_;cases B:within n 1 1000
  · rw[B]at b
    rw[b];simp only[go_sem, seval] <;> simp[af.zero, pl]
  rw[B, au rfl]at b;simp only[within, Bool.and_eq_true, bO]at B;have w:IntKind.wrap .i64 (s.now + n)=s.now + n:=gx aj aj;refine sm w ?_;refine aV ?_;by_cases u:1099511627776<s.now + n
  · rw[au u]at b
    have d:decide (1099511627776<s.now + n)=true:=su u;rw[b];simp only[go_sem, seval, d] <;> simp[af.zero, pl]
  rw[aq u]at b;have d:decide (1099511627776<s.now + n)=false:=su u;rw[b];have c4:=c4 (s.now + n);have p:=OC (s.now + n) s.calls;have hcl:=f.calls;obtain⟨N, F⟩:∃N, N=s.now + n:=⟨_, rfl⟩
  have w:=w.trans F.symm;rw[← F]at d c4 p ⊢;obtain⟨l, P⟩:∃l, l=jM N s.calls:=⟨_, rfl⟩
  rw[← P]at c4 p ⊢;refine so (a2 d w) c2 ?_;refine aV ?_;refine az.aP c4 ?_;clear c1 c2 c3 c4 P F;refine s0 ?_;refine aV ?_;obtain⟨R, M⟩:∃R, R=nF l (s.ak, s.calls):=⟨_, rfl⟩
  rw[← M];refine aG.rT (S:=ay×List aB) l.length [4, 7, 8] [80] (λi _ => [(11, .I i), (10, .ref 944)])
    (λi x => [(471, .own 4 (x.2.map aB.cells)), (128, .box [.I N, .I s.day, .I s.phase, .sl 3 (x.1.ms.map av.cells), .sl 12 (x.1.ns.map aF.cells), .sl 4 (x.1.xs.map aD.cells), .I s.book.next, .sl 7 (s.book.ts.map aT.cells), .sl 4 (s.book.qs.map aE.cells),
      .I s.bp.last, .sl 4 (s.bp.bs.map bY.cells), .sl 3 (pl s.ps), .ref 471, .sl 5 (s.aZ.map bn.cells), .sl 7 (s.aR.map bZ.cells)]), (944, .own 3 (((l.take i).map aB.due).map aH.cells))])
    (λi x => nF (l.drop i) x=R ∧ x.1.jQ ∧ x.2.length<2^30) (s.ak, s.calls) ⟨M.symm, f.ak, f.calls⟩ ?_ ?_ ?_
  · exact jh
  · intro i x v G L a
    obtain⟨z, cs⟩:=x;obtain⟨a, K, k⟩:=a;dsimp only at a K k ⊢;have U:=aM (c:=aB.cells) l v;have hli:(i:Int)<(l.length:Int):=by omega
    have q:((l.take i).map aB.due).length=i:=by simp; omega
    have e:(l.take (i + 1)).map aB.due=(l.take i).map aB.due ++ [aB.due l[i]]:=by
      rw[List.take_add_one, gF v, jv]; rfl
    rw[dI v]at a;simp only[nF]at a;obtain⟨x, Z⟩:∃x, x=l[i]:=⟨_, rfl⟩
    rw[← Z]at U e a;have C:=HE z x.who 2 K;have D:=BP cs [x.who] k sT;have t:=Pb K x.who 2;have o:=FN cs [x.who];obtain⟨T, X⟩:∃T, T=(l.take i).map aB.due:=⟨_, rfl⟩
    rw[← X]at e q ⊢;simp only[aB.due]at e;simp only[ay.cells]at C;simp only[ints, List.map_cons, List.map_nil]at D;obtain⟨Q, V⟩:∃Q, Q=jU z x.who 2:=⟨_, rfl⟩
    obtain⟨W, Y⟩:∃W, W=dQ cs [x.who]:=⟨_, rfl⟩
    rw[← V]at a C t;rw[← Y]at a D o;refine sc (a3 G U q) C ?_;refine sl L D ?_
    and_intros<;>first|exact .dq|omega|skip
    · intro r J d O
      obtain⟨y, _, rfl⟩:=List.mem_map.1 J;simp only[aB.cells, List.mem_cons, List.not_mem_nil, or_false]at O;rcases O with rfl|rfl|rfl|rfl <;> trivial
    refine ah.jP (Q, W) v ⟨a, t, by dsimp only; omega⟩ ?_;exact gH e
  intro x H a;obtain⟨z, cs⟩:=x;have a:=a.1;rw[jJ]at a;have a:(z, cs)=R:=a;subst a;simp only[go_sem, seval, H, eU]
def Rn(s:af)(n:Int)(a:s.small)(hr:s.gq):Sq 242 [] [.agg s.cells,.I n] [] (.bD [.agg (jc s n).cells,.sl 3 ((qK s n).map aH.cells),.I (pF s n)]):=by
 refine Spec.frozen (Up s n a hr) [0,1] rfl ?_;intro r;rcases r with _| _|r<;>rfl
def GO(ps:List iu)(w a u:Int)(b:ps.length<2^29):Sq 288 [] [.sl 3 (pl ps),.int .i64 w,.int .i64 a,.int .i64 u] [] (.bD [.sl 3 (pl (gy ps w a u)),.int .i64 (iy ps w a u)]):=by
 refine Spec.frozen (Ll ps w a u b) [0] rfl ?_;intro r;rcases r with _|r<;>rfl
def VQ(r:ay)(n:Int):Bool:=decide (0<=lT aD.a n r.xs)
def vo(r:ay)(n:Int):aD:=jS aD.a n ⟨0,0,0,0⟩ r.xs
def vH(c:bB):Int:=if c.kind=7 then -c.aQ else c.aQ
def sq(s:af)(c:bB)(n:Int):af×Int:=
 if within c.aQ 1 1099511627776 then
  (if gp s.ak c.who&&VQ s.ak c.no then
   (if(fj s.ak c.who).state=1 then
    (if iy s.ps c.who c.no n=0 then
     (if n<0 then({ s with ps:=gy s.ps c.who c.no n },YG { s with ps:=gy s.ps c.who c.no n } c.who (vo s.ak c.no).b)
     else if(vo s.ak c.no).E n=0 then({ s with ps:=gy s.ps c.who c.no n,calls:=Aj s.calls ⟨c.who,(vo s.ak c.no).b,(vo s.ak c.no).V n⟩ },ym s.calls ⟨c.who,(vo s.ak c.no).b,(vo s.ak c.no).V n⟩)
     else({ s with ps:=gy s.ps c.who c.no n },(vo s.ak c.no).E n))
    else(s,iy s.ps c.who c.no n))
   else(s,14))
  else(s,10))
 else(s,3)
def Ep{ps:List iu}{w a u:Int}(h:iy ps w a u=0):Good (gy ps w a u):=by
 obtain⟨b,c,h3,h4,h5,d⟩:=YE h;unfold gy;rw[au h];exact Sr c d b
def acr{p:iu}(h:p.ok):p.gq:=by
 obtain⟨a,h2,h3⟩:=h;have:=sW.1 a;exact⟨⟨by omega,by omega⟩,⟨by omega,by omega⟩,⟨by omega,by omega⟩⟩
def yC(s:af)(c:bB)(h:s.good):Sq 233 [.box s.cells] [.addr 0 0,.agg c.cells] [.box (sq s c (vH c)).1.cells] (.int .i64 (sq s c (vH c)).2):=by
 have c1:=lQ c.aQ 1 1099511627776;have c2:=dK s.ak c.who h.small.ak.small;have c3:=rH s.ak c.no h.small.ak.small;have P:jS aD.a c.no ⟨0,0,0,0⟩ s.ak.xs=vo s.ak c.no:=rfl;have Q:decide (0<=lT aD.a c.no s.ak.xs)=VQ s.ak c.no:=rfl;rw[P,Q]at c3;have v:=λn=>GO s.ps c.who c.no n (by have:=h.ps;omega);have t:=λd=>Fi s.calls d h.small.calls;have u:=λn=>Dd (vo s.ak c.no) n;have g:∀n,iy s.ps c.who c.no n=0->_:=λn i=>wG { s with ps:=gy s.ps c.who c.no n } c.who (vo s.ak c.no).b
  ⟨h.small.ak,h.small.book,h.small.bp,by have:=Qd c.who c.no (eT c.who c.no s.ps+n) s.ps;have:=h.ps;simp only[gy,au i];omega,h.small.calls,h.small.aZ,h.small.aR,h.small.rs⟩
  ⟨h.gq.now,h.gq.day,h.gq.phase,h.gq.ms,h.gq.ns,h.gq.xs,h.gq.next,h.gq.ts,h.gq.qs,h.gq.last,h.gq.bs,λp X=>acr ((Ep i).1 p X),h.gq.calls,h.gq.aZ,h.gq.aR⟩
  h.bs (by have:=Qd c.who c.no (eT c.who c.no s.ps+n) s.ps;have:=h.ps;simp only[gy,au i];omega)
 obtain⟨n,i⟩:=aL (vH c);rw[<-i];have v:=v n;have u:=u n;have g:=g n;obtain⟨R,f⟩:=aL (sq s c n);rw[<-f];simp only[sq]at f;obtain⟨m,L⟩:=aL (fj s.ak c.who);obtain⟨a,x⟩:=aL (vo s.ak c.no);obtain⟨Y,k⟩:∃m,m=gp s.ak c.who:=⟨_,rfl⟩
 obtain⟨U,j⟩:∃m,m=VQ s.ak c.no:=⟨_,rfl⟩
 rw[<-L,<-k]at c2;rw[<-x,<-j]at c3;rw[<-x]at u;simp only[<-x]at g;rw[<-L,<-k,<-x,<-j]at f;obtain⟨qs,r⟩:∃l,l=gy s.ps c.who c.no n:=⟨_,rfl⟩
 obtain⟨G,o⟩:∃l,l=iy s.ps c.who c.no n:=⟨_,rfl⟩
 rw[<-r,<-o]at v f;rw[<-r,<-o]at g;obtain⟨ce,y⟩:∃e,e=YG { s with ps:=qs } c.who a.b:=⟨_,rfl⟩
 rw[<-y]at g f;clear L x k j r o y P Q;have t:=t ⟨c.who,a.b,a.V n⟩;simp only[ay.cells]at c2 c3;simp only[aD.cells]at c3 u;simp only[aH.cells]at t;obtain⟨V,K⟩:=aL (a.V n);obtain⟨T,A⟩:∃V,V=a.E n:=⟨_,rfl⟩
 rw[<-K]at t;rw[<-K,<-A]at u f;obtain⟨ML,w⟩:∃M,M=Aj s.calls ⟨c.who,a.b,V⟩:=⟨_,rfl⟩
 obtain⟨me,z⟩:∃M,M=ym s.calls ⟨c.who,a.b,V⟩:=⟨_,rfl⟩
 rw[<-w,<-z]at t f;clear K A w z;simp only[af.cells]at g |-;simp only[bB.cells];refine aX 109 2 [.tmp 4] mixed func233 ?_;refine sc aK c1 ?_;cases H:within c.aQ 1 1099511627776
 ·rw[H]at f;have f:R=(s,3):=f;rw[f];exact jh
 rw[H,au rfl]at f;simp only[within,cU,bO]at H;refine sc aK c2 ?_;refine sc aK c3 ?_;clear c1 c2 c3;cases N:Y
 ·rw[N]at f;have f:R=(s,10):=f;rw[f];simp only[go_sem,seval]
  and_intros<;>first|exact .dq|omega|skip
 rw[N,cz]at f;cases O:U
 ·rw[O]at f;have f:R=(s,10):=f;rw[f];simp only[go_sem,seval]
  and_intros<;>first|exact .dq|omega|skip
 rw[O,au rfl]at f;simp only[go_sem,seval];refine aV ?_;by_cases C:m.state=1
 case neg =>
  have d:(m.state==1)=false:=su C;rw[aq C]at f;rw[f];exact gH (a2 dV d)
 have W:(m.state==1)=true:=su C;rw[au C]at f;have S:IntKind.wrap .i64 (0-c.aQ) = -c.aQ:=fU;refine sm (a2 dV W) ?_;refine aV ?_;by_cases D:c.kind=7
 ·have J:(c.kind==7)=true:=su D;have i:-c.aQ=n:=by rw[i];simp[vH,D]
  refine sc (a3 J S i) v ?_;by_cases q:G=0
  case neg =>
   have d:(G==0)=false:=su q;rw[aq q]at f;rw[f];exact gH (a2 dV d)
  rw[au q]at f;have g:=g q;rw[q];simp only[go_sem,seval];refine aV ?_;have B:n<0:=aj
  have I:decide (n<0)=true:=su B;rw[au B]at f;rw[f];exact lX I g
 ·have J:(c.kind==7)=false:=su D;have i:c.aQ=n:=by rw[i];simp[vH,D]
  refine sc (a3 J S i) v ?_;by_cases q:G=0
  case neg =>
   have d:(G==0)=false:=su q;rw[aq q]at f;rw[f];exact gH (a2 dV d)
  rw[au q]at f;have g:=g q;rw[q];simp only[go_sem,seval];refine aV ?_;have B:¬n<0:=aj
  have I:decide (n<0)=false:=su B;rw[aq B]at f;refine sc I u ?_;by_cases F:T=0
  case neg =>
   have d:(T==0)=false:=su F;rw[aq F]at f;rw[f];exact gH d
  rw[au F]at f;rw[f,F];exact lX aK t
