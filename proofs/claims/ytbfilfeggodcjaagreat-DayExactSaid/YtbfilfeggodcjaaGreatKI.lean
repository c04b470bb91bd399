/- Parts. -/
import Derived.Test.YtbfilfeggodcjaaGreatKF
import Derived.Test.YtbfilfeggodcjaaGreatKG
import Derived.Test.YtbfilfeggodcjaaGreatKH
set_option linter.all false
set_option maxHeartbeats 4000000
set_option maxRecDepth 16000
namespace Go.Proofs.YtbfilfeggodcjaaGreat
open Go.Abs Tryz
open List hiding le lt min
def au.zero:au:=⟨0,0,0,⟨[],[],[]⟩,⟨0,[],[]⟩,⟨0,[]⟩,[],[],[],[]⟩
def nextId(l:bS):Int:=IntKind.wrap .i64 (l.last+1)
def uU(l:bS)(g:List aJ)(e:Int):bS×Int:=if e=0/\g≠[]then(lT l (nextId l) g,dU l (nextId l) g)else(l,e)
def uR(w:Int)(c:Nat)(n:Int):List aB:=if n==0 then[]else[⟨w,c,n⟩]
def bS.E6(l:bS):Prop:=l.bs.length<2^29/\(∀b∈l.bs,b.gE)/\fP l.last
def cI(s:au):List aB:=(iN (iE s.aA s.book)).1
def oS(s:au):bS×Int:=uU s.cL (iB (cI s)) (nj (cI s))
def eU(s:au):Int:=if bf s then(if s.phase=0 then(if lN s.aA s.book=0 then(if(iN (iE s.aA s.book)).2=0 then(oS s).2 else(iN (iE s.aA s.book)).2)else lN s.aA s.book)else 15)else 14
def eV(s:au):au:=if eU s=0 then{ s with phase:=1,aA:=wZ s.aA,book:=ou s.aA s.book,cL:=(oS s).1 }else .zero
def ia(s:au):List aB:=if eU s=0 then cI s else[]
def LL(l:List aB):(iB l).length<=306:=by
 unfold iB;split
 ·exact Ly _
 ·simp
def Oq(r:aC)(b:bI):(iE r b).length<=b.qs.length:=by
 unfold iE;split<;>simp
def sO{s:au}(h:bf s=true):0<=s.now/\s.now<=1099511627776/\0<=s.day/\s.day<=1099511627776/\0<=s.phase/\s.phase<=2:=by
 simp only[bf,o7,within,dO,bP]at h;have:=h.1;omega
def Ce(s:au)(c:s.small)(hr:s.gE)(hq:s.book.qs.length<2^20) :
  Sq 7 [] [.agg s.cells] [] (.bH [.agg (eV s).cells,.sl 3 ((ia s).map aB.cells),.I (eU s)]):=by
 have c1:=lu s c hr;have c2:=jA s c;have c3:=HJ s.aA s.book c.aA c.book hr.qs;have C:=Oq s.aA s.book;have c4:=yP (iE s.aA s.book) aj;have G:=(z8 (iE s.aA s.book)).2;have j:=zB (cI s) (by unfold cI;omega);have r:=LL (cI s);have l:=Dk s.cL (nextId s.cL) (iB (cI s)) c.cL hr.bs aj;have B:=FI s.aA c.aA;obtain⟨E,a⟩:=aV (eU s);have n:=a;simp only[eU]at a;simp only[eV,ia,<-n];clear n;obtain⟨P,b⟩:=aV (oS s);rw[<-b]at a |-;simp only[oS]at b;have K:(iN (iE s.aA s.book)).1=cI s:=rfl;rw[K]at c4;clear K;obtain⟨N,O⟩:=aV (cI s);obtain⟨ne,t⟩:=aV ((iN (iE s.aA s.book)).2);rw[<-O]at c4 j l b r |-;rw[<-t]at c4 a;clear O t G;obtain⟨g,Q⟩:=aV (iB N);obtain⟨L,q⟩:=aV (nj N);rw[<-Q]at j l b r;rw[<-q]at j b;clear Q q;simp only[au.cells]at c1 c2 |-;simp only[bI.cells]at c3;simp only[aC.cells]at c3 B;simp only[bS.cells,nextId]at l;simp only[nextId,uU]at b;obtain⟨RD,p⟩:=aV (iE s.aA s.book);obtain⟨RB,o⟩:=aV (ou s.aA s.book);obtain⟨R,u⟩:=aV (lN s.aA s.book);rw[<-p]at c3 c4;rw[<-o]at c3 |-;rw[<-u]at c3 a;clear p o u C;refine aX 82 1 [.cell 2 41,.tmp 3,.tmp 4] mixed func7 ?_;refine sc aI c1 ?_;cases J:bf s
 ·rw[J]at a;rw[a];simp only[go_sem,seval]<;>simp[au.zero,pl]
 rw[J,aE rfl]at a;refine s0 ?_;refine bG ?_;by_cases v:s.phase=0
 case neg =>
  have d:(s.phase==0)=false:=su v;rw[az v]at a;rw[a];simp only[go_sem,seval,bne,d]<;>simp[au.zero,pl]
 rw[aE v]at a;rw[v]at c1 c2 |-;refine sc aI c3 ?_;clear c1 c3;by_cases e:R=0
 case neg =>
  have d:(R==0)=false:=su e;rw[az e]at a;rw[a];simp only[az e];simp only[go_sem,seval,bne,d]<;>simp[au.zero,pl]
 rw[aE e]at a;rw[e];refine sc aI c4 ?_;by_cases i:ne=0
 case neg =>
  have d:(ne==0)=false:=su i;rw[az i]at a;rw[a];simp only[az i];simp only[go_sem,seval,bne,d]<;>simp[au.zero,pl]
 rw[aE i]at a;rw[i];clear c4;refine sc aI c2 ?_;refine sc aI j ?_;clear c2 j;by_cases w:L=0
 case neg =>
  have d:(L==0)=false:=su w;rw[az (by simp[w])]at b;rw[a,b];simp only[az w];simp only[go_sem,seval,bne,d]<;>simp[au.zero,pl]
 rw[w]at b |-
 by_cases y:g=[]
 ·rw[az (by simp[y])]at b;rw[a,b,y];simp only[go_sem,seval,map_nil,length_nil];exact qt aI B
 have F:decide ((0:Int)<(g.length:Int))=true:=by
  have:g.length≠0:=λh=>y (eq_nil_of_length_eq_zero h);simp;omega
 rw[aE ⟨rfl,y⟩]at b;obtain⟨M,S⟩:=aV (lT s.cL (IntKind.wrap .i64 (s.cL.last+1)) g);obtain⟨e2,D⟩:=aV (dU s.cL (IntKind.wrap .i64 (s.cL.last+1)) g);rw[<-S,<-D]at b l;refine sc F l ?_;by_cases H:e2=0
 case neg =>
  have d:(e2==0)=false:=su H;rw[a,b];simp only[az H];simp only[go_sem,seval,bne,d]<;>simp[au.zero,pl]
 rw[a,b,H];exact qt aI B
def nr(s:au):Int:=if bf s then(if s.phase=2 then(if s.day=1099511627776 then 1 else 0)else 15)else 14
def lS(s:au):au:=if nr s=0 then{ s with day:=s.day+1,phase:=0,book:=⟨s.book.next,[],s.book.qs⟩ }else .zero
theorem zy(s:au)(j:s.small)(hr:s.gE):Sq 11 [] [.agg s.cells] [] (.bH [.agg (lS s).cells,.int .i64 (nr s)]):=by
 have c1:=lu s j hr;have c2:=jA s j;have c:=λh=>sO (s:=s) h;obtain⟨E,a⟩:=aV (nr s);have b:=a;simp only[nr]at a;simp only[lS,<-b];clear b;simp only[au.cells]at c1 c2 |-;refine aX 32 1 [.cell 2 41,.tmp 3] mixed func11 ?_;refine sc aI c1 ?_;cases i:bf s
 ·rw[i]at a;rw[a];simp only[go_sem,seval]<;>simp[au.zero,pl]
 have c:=c i;rw[i,aE rfl]at a;refine s0 ?_;refine bG ?_;by_cases e:s.phase=2
 case neg =>
  have d:(s.phase==2)=false:=su e;rw[az e]at a;rw[a];simp only[go_sem,seval,bne,d]<;>simp[au.zero,pl]
 rw[aE e]at a;rw[e]at c1 c2 |-;refine s0 ?_;refine bG ?_;by_cases g:s.day=1099511627776
 ·rw[aE g]at a;rw[a,g];simp only[go_sem,seval]<;>simp[au.zero,pl]
 have d:(s.day==1099511627776)=false:=su g;have l:IntKind.wrap .i64 (s.day+1)=s.day+1:=lF aj aj;rw[az g]at a;rw[a];refine sc d c2 ?_;exact lG l
def aq.due(c:aq):aB:=⟨c.who,c.cur,c.cw⟩
def fc:List aq->aC×List aq->aC×List aq
 | [],x=>x
 |c::r,x=>fc r (ga x.1 c.who 2,bJ x.2 [c.who])
def gj(s:au)(n:Int):Int:=if bf s then(if within n 1 1000 then(if 1099511627776<s.now+n then 1 else 0)else 3)else 14
def cy(s:au)(n:Int):au:=if gj s n=0 then{ s with now:=s.now+n,aA:=(fc (dR (s.now+n) s.calls) (s.aA,s.calls)).1,calls:=(fc (dR (s.now+n) s.calls) (s.aA,s.calls)).2 }else .zero
def eZ(s:au)(n:Int):List aB:=if gj s n=0 then(dR (s.now+n) s.calls).map aq.due else[]
theorem O6{A:Type}(no:A->Int)(n:Int)(f:A->A)(l:List A):(vk no n f l).length<=l.length:=by
 induction l with
 |nil=>simp[vk]
 |cons x r ih=>simp only[vk];split<;>simp<;>omega
def xV{r:aC}(h:r.jT)(n p:Int):(ga r n p).jT:=by
 unfold ga;split
 ·obtain⟨a,b,c⟩:=h;exact⟨Nat.lt_of_le_of_lt (O6 _ _ _ _) a,b,c⟩
 ·exact⟨by simp[aC.none],by simp[aC.none],by simp[aC.none]⟩
def rB(xs:List aq)(a:List Int):(bJ xs a).length<=xs.length:=by
 have:=gB (f:=λx:aq=>if n6 a x.who then[]else[x]) (m:=1) (λp=>by split<;>simp) xs;simpa[bJ]using this
def D9(n:Int)(xs:List aq):(dR n xs).length<=xs.length:=by
 have:=gB (f:=λx:aq=>if x.till<=n then[x]else[]) (m:=1) (λp=>by split<;>simp) xs;simpa[dR]using this
theorem aex(n0 n1 a b c:Int)(d r1 r2 r3 r4 r5 r6 i e g:List (List D)):(eu [0,1,2,3,4,5,6,8,9] (qz [(0,.agg [.int .i64 n0,.int .i64 n1,.int .i64 a,.ref 0,.ref 1,.ref 2,.int .i64 b,.ref 3,.ref 4,.int .i64 c,.ref 5,.ref 6,.ref 7,.ref 8,.ref 9])] (tj 0 [.own 3 d,.own 12 r1,.own 4 r2,.own 7 r3,.own 4 r4,.own 4 r5,.own 3 r6,.own 4 i,.own 5 e,.own 7 g]))).t 0=.agg [.int .i64 n0,.int .i64 n1,.int .i64 a,.sl 3 d,.sl 12 r1,.sl 4 r2,.int .i64 b,.sl 7 r3,.sl 4 r4,.int .i64 c,.sl 4 r5,.sl 3 r6,.ref 7,.sl 5 e,.sl 7 g]:=by
 kernel_rfl
def ZI(d:D)(b r1 r2 r3 r4 r5 r6 a c e:List (List D))(r:Nat):(eu [0,1,2,3,4,5,6,8,9] (qz [(0,d)] (tj 0 [.own 3 b,.own 12 r1,.own 4 r2,.own 7 r3,.own 4 r4,.own 4 r5,.own 3 r6,.own 4 a,.own 5 c,.own 7 e]))).o r=[D.undef,.undef,.undef,.undef,.undef,.undef,.undef,.own 4 a].getD r .undef:=by
 rcases r with _| _| _| _| _| _| _| _| _| _|r<;>kernel_rfl
theorem Ik(s:au)(a:s.small):Sq 5 [] [.agg s.cells] [.undef,.undef,.undef,.undef,.undef,.undef,.undef,.own 4 (s.calls.map aq.cells)] (.agg [.int .i64 s.now,.int .i64 s.day,.int .i64 s.phase,.sl 3 (s.aA.ms.map ah.cells),.sl 12 (s.aA.ns.map ay.cells),.sl 4 (s.aA.xs.map av.cells),.int .i64 s.book.next,.sl 7 (s.book.ts.map aR.cells),.sl 4 (s.book.qs.map aN.cells),
 .I s.cL.last,.sl 4 (s.cL.bs.map bn.cells),.sl 3 (pl s.ps),.ref 7,.sl 5 (s.bQ.map iW.cells),.sl 7 (s.aM.map aS.cells)]):=by
 have h:=sU s a;simp only[KK,fE]at h;simp only[au.cells];simp only[au.cells]at h;exact Spec.frozen h [0,1,2,3,4,5,6,8,9] (aex ..) (λr=>ZI ..)
theorem HL (s : au) (n : Int) (g : s.small) (hr : s.gE) : Sq 13 [] [.agg s.cells, .int .i64 n] [.own 4 ((cy s n).calls.map aq.cells), .own 3 ((eZ s n).map aB.cells)] (.bH [.agg [.int .i64 (cy s n).now, .int .i64 (cy s n).day, .int .i64 (cy s n).phase, .sl 3 ((cy s n).aA.ms.map ah.cells), .sl 12 ((cy s n).aA.ns.map ay.cells), .sl 4 ((cy s n).aA.xs.map av.cells), .int .i64 (cy s n).book.next, .sl 7 ((cy s n).book.ts.map aR.cells), .sl 4 ((cy s n).book.qs.map aN.cells),
        .I (cy s n).cL.last, .sl 4 ((cy s n).cL.bs.map bn.cells), .sl 3 (pl (cy s n).ps), .ref 0, .sl 5 ((cy s n).bQ.map iW.cells), .sl 7 ((cy s n).aM.map aS.cells)], .ref 1, .I (gj s n)]):=by
  have c1:=lu s g hr;have c2:=Ik s g;have c3:=fj n 1 1000;have c4:=λm => FF m s.calls g.calls;have o:=λh => sO (s:=s) h;obtain⟨E, b⟩:∃E, E=gj s n:=⟨_, rfl⟩
  have j:=b;simp only[gj]at b;simp only[cy, eZ, ← j];clear j;simp only[au.cells]at c1 c2 ⊢;refine aX 85 2 [.cell 4 41, .tmp 5, .tmp 6] mixed func13 ?_;refine sc aI c1 ?_;cases F:bf s
  · rw[F]at b
    rw[b];simp only[go_sem, seval] <;> simp[au.zero, pl]
  have o:=o F;rw[F, aE rfl]at b;refine sc aI c3 ?_;cases G:within n 1 1000
  · rw[G]at b
    rw[b];simp only[go_sem, seval] <;> simp[au.zero, pl]
  rw[G, aE rfl]at b;simp only[within, Bool.and_eq_true, bP]at G;have C:IntKind.wrap .i64 (s.now + n)=s.now + n:=lF aj aj;refine sm C ?_;refine bG ?_;by_cases w:1099511627776<s.now + n
  · rw[aE w]at b
    have d:decide (1099511627776<s.now + n)=true:=su w;rw[b];simp only[go_sem, seval, d] <;> simp[au.zero, pl]
  rw[az w]at b;have d:decide (1099511627776<s.now + n)=false:=su w;rw[b];have c4:=c4 (s.now + n);have t:=D9 (s.now + n) s.calls;have hcl:=g.calls;obtain⟨N, K⟩:∃N, N=s.now + n:=⟨_, rfl⟩
  have C:=C.trans K.symm;rw[← K]at d c4 t ⊢;obtain⟨l, Y⟩:∃l, l=dR N s.calls:=⟨_, rfl⟩
  rw[← Y]at c4 t ⊢;refine so (a2 d C) c2 ?_;refine bG ?_;refine ak.aH c4 ?_;clear c1 c2 c3 c4 Y K;refine s0 ?_;refine bG ?_;obtain⟨R, V⟩:∃R, R=fc l (s.aA, s.calls):=⟨_, rfl⟩
  rw[← V];refine aF.mN (S:=aC×List aq) l.length [4, 7, 8] [80] (λi _ => [(11, .I i), (10, .ref 944)])
    (λi x => [(471, .own 4 (x.2.map aq.cells)), (128, .box [.I N, .I s.day, .I s.phase, .sl 3 (x.1.ms.map ah.cells), .sl 12 (x.1.ns.map ay.cells), .sl 4 (x.1.xs.map av.cells), .I s.book.next, .sl 7 (s.book.ts.map aR.cells), .sl 4 (s.book.qs.map aN.cells),
      .I s.cL.last, .sl 4 (s.cL.bs.map bn.cells), .sl 3 (pl s.ps), .ref 471, .sl 5 (s.bQ.map iW.cells), .sl 7 (s.aM.map aS.cells)]), (944, .own 3 (((l.take i).map aq.due).map aB.cells))])
    (λi x => fc (l.drop i) x=R ∧ x.1.jT ∧ x.2.length<2^30) (s.aA, s.calls) ⟨V.symm, g.aA, g.calls⟩ ?_ ?_ ?_
  · exact lA
  · intro i x B L U a
    obtain⟨D, cs⟩:=x;obtain⟨a, P, p⟩:=a;dsimp only at a P p ⊢;obtain⟨x, hx, hm, hli⟩:=uy (c:=aq.cells) l B;have u:((l.take i).map aq.due).length=i:=by simp; omega
    have e:(l.take (i + 1)).map aq.due=(l.take i).map aq.due ++ [aq.due l[i]]:=by
      rw[take_add_one, ec B, jH]; rfl
    rw[fX B]at a;simp only[fc]at a;rw[← hx]at e a;have H:=HH D x.who 2 P;have J:=Cg cs [x.who] p sT;have v:=xV P x.who 2;have q:=rB cs [x.who];obtain⟨T, hT⟩:∃T, T=(l.take i).map aq.due:=⟨_, rfl⟩
    rw[← hT]at e u ⊢;simp only[aq.due]at e;simp only[aC.cells]at H;simp only[ints, map_cons, map_nil]at J;obtain⟨Q, Z⟩:∃Q, Q=ga D x.who 2:=⟨_, rfl⟩
    obtain⟨W, hW⟩:∃W, W=bJ cs [x.who]:=⟨_, rfl⟩
    rw[← Z]at a H v;rw[← hW]at a J q;refine sc (a3 L hm u) H ?_;refine sl U J ?_
    and_intros<;>first|exact .dq|omega|skip
    · intro r O d X
      obtain⟨y, _, rfl⟩:=mem_map.1 O;simp only[aq.cells, mem_cons, not_mem_nil, or_false]at X;rcases X with rfl|rfl|rfl|rfl <;> trivial
    refine af.jz (Q, W) B ⟨a, v, by dsimp only; omega⟩ ?_;exact lG e
  intro x M a;obtain⟨D, cs⟩:=x;have a:=a.1;rw[mT]at a;have a:(D, cs)=R:=a;subst a;simp only[go_sem, seval, M, ef]
theorem FH(s:au)(n:Int)(a:s.small)(hr:s.gE):Sq 13 [] [.agg s.cells,.int .i64 n] [] (.bH [.agg (cy s n).cells,.sl 3 ((eZ s n).map aB.cells),.int .i64 (gj s n)]):=by
 refine Spec.frozen (HL s n a hr) [0,1] rfl ?_;intro r;rcases r with _| _|r<;>rfl
def uh(s:au):Int:=min (s.now+3) 1099511627776
def kF(s:au)(w:Int):Nat->Nat->List aq×List aB->(List aq×List aB)×Int
 | 0,_,x=>(x,0)
 |m+1,c,x=>if KD s w c=0 then kF s w m (c+1) (tO x.1 ⟨w,c,Ex s w c⟩ (uh s),x.2++uR w c (Ex s w c))else(x,KD s w c)
def mZ(s:au):List Int->List aq×List aB->(List aq×List aB)×Int
 | [],x=>(x,0)
 |w::r,x=>if(kF s w 3 0 x).2=0 then mZ s r (kF s w 3 0 x).1 else kF s w 3 0 x
def Ja(s:au):(List aq×List aB)×Int:=mZ s (kk s.aA [1]) (s.calls,[])
def gw(s:au):Int:=if bf s then(if s.phase=1 then(Ja s).2 else 15)else 14
def eT(s:au):au:=if gw s=0 then{ s with phase:=2,calls:=(Ja s).1.1 }else .zero
def iT(s:au):List aB:=if gw s=0 then(Ja s).1.2 else[]
def Gg(xs:List aq)(d:aB)(a:Int):(tO xs d a).length<=48:=by
 unfold tO;split
 ·exact HZ _ _ _
 ·simp
def xZ(s:au)(p:s.small)(hr:s.gE)(ab:s.cL.bs.length<2^29)(ac:s.ps.length<2^29) :
  Sq 9 [] [.agg s.cells] [.own 3 ((iT s).map aB.cells)] (.bH [.agg (eT s).cells,.ref 0,.I (gw s)]):=by
 have c1:=lu s p hr;have c2:=jA s p;have c3:=Dt s.aA [1] p.aA sT;have G:s.fit:=⟨p.aA.small,p.book,p.cL,p.ps⟩
 have P:=λw c=>Dq s w c G hr ab ac;have W:=λxs d (h:xs.length<2^30)=>HE xs d (uh s) h;have ad:=vf s.aA [1];have hml:=p.aA.1;have F:=λh=>sO (s:=s) h;obtain⟨E,l⟩:=aV (gw s);have D:=l;simp only[gw]at l;simp only[eT,iT,<-D];clear D;obtain⟨R,T⟩:=aV (Ja s);rw[<-T]at l |-;simp only[Ja]at T;obtain⟨B,O⟩:=aV (kk s.aA [1]);rw[<-O]at c3 T ad;clear O;simp only[au.cells]at c1 c2 P |-;rw[show ints [1]=[[.I 1]]from rfl]at c3;simp only[aC.cells]at c3;simp only[aB.cells]at W;refine aX 82 1 [.cell 2 41,.tmp 3,.tmp 4] mixed func9 ?_;refine sc aI c1 ?_;cases V:bf s
 ·rw[V]at l;rw[l];simp only[go_sem,seval]<;>simp[au.zero,pl]
 have F:=F V;have hA:uh s=min (s.now+3) 1099511627776:=rfl;have hw:IntKind.wrap .i64 (s.now+3)=s.now+3:=lF aj aj;rw[V,aE rfl]at l;refine s0 ?_;refine bG ?_;by_cases C:s.phase=1
 case neg =>
  have d:(s.phase==1)=false:=su C;rw[az C]at l;rw[l];simp only[go_sem,seval,bne,d]<;>simp[au.zero,pl]
 rw[aE C]at l;obtain⟨ph,K⟩:=aV (s.phase);rw[<-K]at C c1 c2 P |-;have X:(ph==1)=true:=su C;clear K;refine sm (a2 lH X) ?_;refine sc aI c2 ?_;refine bG ?_;refine ak.fk [432] [] false sT ?_;refine s0 ?_;refine bX.fV c3 ?_;clear c1 c2 c3;refine s0 ?_;refine bG ?_;refine aF.mN (S:=List aq×List aB) B.length [1,2,5,7] [32,48] (λi _=>[(8,.I i),(6,.ref 1248)])
  (λi x=>[(96,.box [.I s.now,.I s.day,.I ph,.sl 3 (s.aA.ms.map ah.cells),.sl 12 (s.aA.ns.map ay.cells),.sl 4 (s.aA.xs.map av.cells),.I s.book.next,.sl 7 (s.book.ts.map aR.cells),.sl 4 (s.book.qs.map aN.cells),
   .I s.cL.last,.sl 4 (s.cL.bs.map bn.cells),.sl 3 (pl s.ps),.sl 4 (x.1.map aq.cells),.sl 5 (s.bQ.map iW.cells),.sl 7 (s.aM.map aS.cells)]),(1248,.own 3 (x.2.map aB.cells))])
  (λi x=>mZ s (B.drop i) x=R/\x.1.length<2^30/\x.2.length<=3*i) (s.calls,[]) ⟨T.symm,p.calls,cX _⟩ ?_ ?_ ?_
 ·exact lA
 ·intro i x hi Z ae b;obtain⟨cs,ds⟩:=x;obtain⟨b,g,j⟩:=b;dsimp only at b g j |-;rw[fX hi]at b;simp only[mZ]at b;have v:=ints_at B hi;have H:(i:Int)<(B.length:Int):=aj
  have r:=P B[i];obtain⟨w,L⟩:=aV (B[i]);rw[<-L]at b v r;obtain⟨Q,hQ⟩:=aV (kF s w 3 0 (cs,ds));rw[<-hQ]at b;clear P L;simp only[go_sem,seval,aL,Z];refine bG ?_;refine aF.mN (S:=List aq×List aB) 3 [1,2,5,7,8] [32,48] (λc _=>[(9,.I c),(6,.ref 1248)])
   (λc x=>[(96,.box [.I s.now,.I s.day,.I ph,.sl 3 (s.aA.ms.map ah.cells),.sl 12 (s.aA.ns.map ay.cells),.sl 4 (s.aA.xs.map av.cells),.I s.book.next,.sl 7 (s.book.ts.map aR.cells),.sl 4 (s.book.qs.map aN.cells),
    .I s.cL.last,.sl 4 (s.cL.bs.map bn.cells),.sl 3 (pl s.ps),.sl 4 (x.1.map aq.cells),.sl 5 (s.bQ.map iW.cells),.sl 7 (s.aM.map aS.cells)]),(1248,.own 3 (x.2.map aB.cells))])
   (λc x=>kF s w (3-c) c x=Q/\x.1.length<2^30/\x.2.length<=3*i+c) (cs,ds) ⟨hQ.symm,g,j⟩ ?_ ?_ ?_
  ·exact lA
  ·intro c x hc u M a;obtain⟨cs,ds⟩:=x;obtain⟨a,g,j⟩:=a;dsimp only at a g j |-;have u:decide ((c:Int)<3)=true:=u;obtain⟨m,hm⟩:∃m,3-c=m+1:=⟨3-c-1,by omega⟩
   have J:3-(c+1)=m:=aj
   rw[hm]at a;simp only[kF]at a;have q:=r c;have o:=W cs ⟨w,c,Ex s w c⟩ g;have t:=Gg cs ⟨w,c,Ex s w c⟩ (uh s);dsimp only at o;obtain⟨n,hn⟩:=aV (Ex s w c);obtain⟨e,he⟩:=aV (KD s w c);rw[<-hn]at q o a t;rw[<-he]at q a;rw[hA]at o a t;clear W r hn he;simp only[go_sem,seval,u,aL,v,H];refine sc aI q ?_;by_cases y:e=0
   case neg =>
    have d:(e==0)=false:=su y;rw[az y]at a;rw[<-a]at b;dsimp only at b;rw[az y]at b;rw[<-b]at l;rw[l];simp only[az y];refine sm (a2 lH d) ?_;all_goals simp[au.zero,pl]
   rw[aE y]at a;rw[y];simp only[go_sem,seval,aL,v,H,hw];refine sc aI o ?_;obtain⟨A,Y⟩:=aV (tO cs ⟨w,c,n⟩ (min (s.now+3) 1099511627776));rw[<-Y]at a t |-
   by_cases U:n=0
   ·have a:kF s w m (c+1) (A,ds)=Q:=by rw[<-a];simp[uR,U]
    rw[U];refine sm (a2 lH M) ?_;refine bG ?_;refine af.jz (A,ds) hc ⟨by rw[J];exact a,by dsimp only;omega,by dsimp only;omega⟩ ?_;exact lA
   ·have d:(n==0)=false:=su U;have a:kF s w m (c+1) (A,ds++[⟨w,c,n⟩])=Q:=by rw[<-a];simp[uR,U]
    refine sm (a3 lH d M) ?_;refine bG ?_;refine af.jz (A,ds++[⟨w,c,n⟩]) hc ⟨by rw[J];exact a,by dsimp only;omega,by simp;omega⟩ ?_;exact lA
  intro x _ a;obtain⟨cs,ds⟩:=x;obtain⟨a,g,j⟩:=a;have a:((cs,ds),(0:Int))=Q:=a;rw[<-a]at b;dsimp only at b g j;rw[aE rfl]at b;dsimp only;try refine dM.id ?_
  refine sm ae ?_;refine bG ?_;refine af.jz (cs,ds) hi ⟨b,g,by dsimp only;omega⟩ ?_;exact lA
 intro x aa b;obtain⟨cs,ds⟩:=x;have b:=b.1;rw[mT]at b;have b:((cs,ds),(0:Int))=R:=b;subst b;rw[l];dsimp only;simp only[go_sem,seval,aL,aa]
theorem wG(s:au)(c:s.small)(hr:s.gE)(a:s.cL.bs.length<2^29)(b:s.ps.length<2^29):Sq 9 [] [.agg s.cells] [] (.bH [.agg (eT s).cells,.sl 3 ((iT s).map aB.cells),.int .i64 (gw s)]):=by
 refine Spec.frozen (xZ s c hr a b) [0] rfl ?_;intro r;rcases r with _|r<;>rfl
def gT.err(e:Int):gT:=⟨e,0,0,[],[]⟩
def aS.zero:aS:=⟨0,0,.err 0⟩
structure au.good(s:au):Prop where
 small:s.small
 gE:s.gE
 ms:s.aA.ms.length<2^27
 qs:s.book.qs.length<2^20
 bQ:s.bQ.length<2^20
 bs:s.cL.bs.length<2^29
 ps:s.ps.length<2^28
def au.good.cL{s:au}(h:s.good){l:bS}(a:l.E6):({ s with cL:=l }:au).good:=
 ⟨⟨h.small.aA,h.small.book,Nat.lt_trans a.1 (by decide),h.small.ps,h.small.calls,h.small.bQ,h.small.aM,h.small.rs⟩,
  ⟨h.gE.now,h.gE.day,h.gE.phase,h.gE.ms,h.gE.ns,h.gE.xs,h.gE.next,h.gE.ts,h.gE.qs,a.2.2,a.2.1,h.gE.ps,h.gE.calls,h.gE.bQ,h.gE.aM⟩,h.ms,h.qs,h.bQ,a.1,h.ps⟩
def au.good.E6{s:au}(h:s.good):s.cL.E6:=⟨h.bs,h.gE.bs,h.gE.last⟩
@[reducible] def au.aeo(s:au)(r:Nat):List D:=[.I s.now,.I s.day,.I s.phase,.sl 3 (s.aA.ms.map ah.cells),.sl 12 (s.aA.ns.map ay.cells),.sl 4 (s.aA.xs.map av.cells),.I s.book.next,.sl 7 (s.book.ts.map aR.cells),.sl 4 (s.book.qs.map aN.cells),
 .I s.cL.last,.sl 4 (s.cL.bs.map bn.cells),.sl 3 (pl s.ps),.sl 4 (s.calls.map aq.cells),.ref r,.sl 7 (s.aM.map aS.cells)]
def Kv{A:Type}{R:A->A->Prop}(l:∀{a b c},R a b->R b c->R a c){xs:List A}(h:∀j (g:j+1<xs.length),R (xs[j]'aj) xs[j+1]):xs.Pairwise R:=by
 rw[tN];have key:∀d i (g:i+d+1<xs.length),R (xs[i]'aj) xs[i+d+1]:=by
  intro d;induction d with
  |zero=>intro i g;exact h i g
  |succ d ih=>intro i g;exact l (ih i aj) (h (i+d+1) g)
 intro i j hi g hij;have:=key (j-i-1) i aj;have e:i+(j-i-1)+1=j:=aj
 simpa only[e]using this
def vB{A:Type}{ok:A->Bool}{lt:A->A->Bool}(n:∀{a b c},lt a b=true->lt b c=true->lt a c=true){xs:List A}:l7 ok lt xs=true↔(∀x∈xs,ok x=true)/\xs.Pairwise (λa b=>lt a b=true):=by
 constructor
 ·intro h;refine⟨λx hx=>?_,Kv (R:=λa b=>lt a b=true) n λj l=>?_⟩
  ·obtain⟨i,d,rfl⟩:=mem_iff_getElem.1 hx;exact IN h d
  ·have:=M0 h l;rw[gz l,dO]at this;exact this.2
 ·rintro⟨e,g⟩;rw[tN]at g;refine nA λi d=>?_;cases i with
  |zero=>rw[iH d];exact e _ (cZ d)
  |succ j=>rw[gz d,e _ (cZ d),g j (j+1) aj d aj];rfl
def L2{A:Type}{no:A->Int}{ok:A->Bool}{xs:List A}:gQ no ok xs=true↔(∀x∈xs,ok x=true)/\xs.Pairwise (λa b=>no a<no b):=by
 constructor
 ·intro h;have d:∀i (c:i<xs.length),cD no ok xs i=true:=λi c=>cR.1 h i (mem_range.2 c);refine⟨Co h,Kv (R:=λa b=>no a<no b) Int.lt_trans λj l=>?_⟩;have:=d (j+1) l;rw[gb no ok xs l aj,dO,bP]at this;exact this.2
 ·rintro⟨e,g⟩;rw[tN]at g;refine tB λi c=>?_;rcases Nat.eq_zero_or_pos i with h0|h0
  ·rw[gf no ok xs c aj];exact e _ (cZ c)
  ·rw[gb no ok xs c h0,e _ (cZ c),gJ (g (i-1) i aj c aj)];rfl
def Kn{bs:List bn}:iK bs=true↔(∀b∈bs,k8 b=true)/\bs.Pairwise (λx y=>x.aO.less y.aO=true):=by
 constructor
 ·intro h;have c:∀i (a:i<bs.length),mK bs i=true:=λi a=>cR.1 h i (mem_range.2 a);refine⟨λx hx=>?_,Hw h⟩;obtain⟨i,a,rfl⟩:=mem_iff_getElem.1 hx;have:=c i a;cases i with
  |zero=>rwa[me a]at this
  |succ j=>rw[ke a,dO]at this;exact this.1
 ·rintro⟨d,e⟩;rw[tN]at e;refine pq λi a=>?_;cases i with
  |zero=>rw[me a];exact d _ (cZ a)
  |succ j=>rw[ke a,d _ (cZ a),e j (j+1) aj a aj];rfl
def Hy{A:Type}{no:A->Int}{n:Int}{xs:List A}:decide (0<=iD no n xs)=true↔∃x∈xs,no x=n:=by
 rw[qX,any_eq_true];simp
theorem E9{A:Type}{no:A->Int}{n:Int}{z:A}:∀{xs:List A},(∃x∈xs,no x=n)->gL no n z xs∈xs/\no (gL no n z xs)=n
 | [],h=>by obtain⟨x,hx,_⟩:=h;cases hx
 |x::r,h=>by
  simp only[gL];split
  ·rename_i hx;exact⟨by simp,hx⟩
  ·rename_i hx;obtain⟨y,a,b⟩:=h;rcases mem_cons.1 a with rfl|a
   ·exact absurd b hx
   ·obtain⟨c,d⟩:=E9 (z:=z) ⟨y,a,b⟩;exact⟨by simp[c],d⟩
theorem DZ{A:Type}{no:A->Int}{n:Int}{z:A}:∀{xs:List A},(∀x∈xs,no x≠n)->gL no n z xs=z
 | [],_=>rfl
 |x::r,h=>by
  simp only[gL];rw[az (h x sT)];exact DZ λy a=>h y (by simp[a])
theorem zX{A:Type}{no:A->Int}{n:Int}{z:A}{xs:List A}(hp:xs.Pairwise (λa b=>no a<no b)){x:A}(hx:x∈xs)(c:no x=n):gL no n z xs=x:=by
 induction xs with
 |nil=>cases hx
 |cons y r ih =>
  rw[oC]at hp;simp only[gL];rcases mem_cons.1 hx with rfl|hx
  ·rw[aE c]
  ·have:=hp.1 x hx;rw[az aj];exact ih hp.2 hx
def jX{B:Type}{f:Nat->List B}{n:Nat}{x:B}:x∈Iu f n↔∃i,i<n/\x∈f i:=by
 simp[Iu,mem_flatMap,mem_range]
theorem B1{B:Type}{R:B->B->Prop}{f:Nat->List B}{n:Nat}(b:∀i,i<n->(f i).Pairwise R)(c:∀i j,i<j->j<n->∀x∈f i,∀y∈f j,R x y):(Iu f n).Pairwise R:=by
 induction n with
 |zero=>simp[Iu]
 |succ n ih =>
  rw[Ba,pairwise_append];refine⟨ih (λi d=>b i aj) (λi j a hj=>c i j a aj),b n aj,?_⟩;intro x hx y e;obtain⟨i,d,hx⟩:=jX.1 hx;exact c i n d aj x hx y e
theorem B2{B:Type}{R:B->B->Prop}:∀{l:List B},l.length<=1->l.Pairwise R
 | [],_=>by simp
 | [x],_=>by simp
 |x::y::r,h=>by simp at h
theorem FB{A B:Type}{R:A->A->Prop}{S:B->B->Prop}{f:A->List B}{xs:List A}(hp:xs.Pairwise R)(g:∀a∈xs,(f a).Pairwise S)(i:∀a b,a∈xs->b∈xs->R a b->∀x∈f a,∀y∈f b,S x y):(xs.flatMap f).Pairwise S:=by
 induction xs with
 |nil=>simp
 |cons a r ih =>
  rw[oC]at hp;rw[flatMap_cons,pairwise_append];refine⟨g a sT,ih hp.2 (λb d=>g b (by simp[d])) (λb c d j=>i b c (by simp[d]) (by simp[j])),?_⟩;intro x hx y e;obtain⟨b,d,e⟩:=mem_flatMap.1 e;exact i a b sT (by simp[d]) (hp.1 b d) x hx y e
theorem Ra{A:Type}{no:A->Int}{n:Int}{f:A->A}(a:∀x,no (f x)=no x)(xs:List A):(vk no n f xs).map no=xs.map no:=by
 induction xs with
 |nil=>rfl
 |cons x r ih=>simp only[vk];split<;>simp[ih,a]
theorem O7{A:Type}{no:A->Int}{n:Int}{f:A->A}{xs:List A}{y:A}(h:y∈vk no n f xs):y∈xs\/∃x∈xs,y=f x:=by
 induction xs with
 |nil=>cases h
 |cons x r ih =>
  simp only[vk]at h;split at h
  ·rcases mem_cons.1 h with rfl|h
   ·exact .inr ⟨x,by simp,rfl⟩
   ·exact .inl (by simp[h])
  ·rcases mem_cons.1 h with rfl|h
   ·exact .inl sT
   ·rcases ih h with h| ⟨z,hz,rfl⟩
    ·exact .inl (by simp[h])
    ·exact .inr ⟨z,by simp[hz],rfl⟩
def On{A:Type}{no:A->Int}{xs d:List A}(h:d.map no=xs.map no)(hp:xs.Pairwise (λa b=>no a<no b)):d.Pairwise (λa b=>no a<no b):=by
 have c:(xs.map no).Pairwise (λa b=>a<b):=pairwise_map.2 hp;rw[<-h]at c;exact pairwise_map.1 c
def QD{A:Type}{no:A->Int}{n:Int}{xs a:List A}(h:a.map no=xs.map no):decide (0<=iD no n a)=decide (0<=iD no n xs):=by
 rw[qX,qX];have e:∀l:List A,l.any (λx=>no x==n)=(l.map no).any (λx=>x==n):=λl=>by simp[any_map,Function.comp_def]
 rw[e,e,h]
theorem O5{A:Type}{no:A->Int}{n w:Int}{f:A->A}{z:A}(c:∀x,no (f x)=no x)(xs:List A):gL no w z (vk no n f xs)=if w=n/\(∃x∈xs,no x=n)then f (gL no w z xs)else gL no w z xs:=by
 induction xs with
 |nil=>simp[vk,gL]
 |cons x r ih =>
  simp only[vk];split
  ·rename_i hx;simp only[gL,c];by_cases b:w=n
   ·subst b;rw[aE hx,aE hx,aE ⟨rfl,x,by simp,hx⟩]
   ·rw[az (λh=>b (h.symm.trans hx)),az (λh=>b h.1),az (λh=>b (h.symm.trans hx))]
  ·rename_i hx;simp only[gL,ih];by_cases a:no x=w
   ·rw[aE a,aE a,az];rintro⟨rfl,_⟩;exact hx a
   ·rw[az a,az a];congr 1;simp only[mem_cons,exists_eq_or_imp,hx,false_or]
def jj{r:aC}:r.okB=true↔((∀x∈r.ms,x.ok=true)/\r.ms.Pairwise (λa b=>a.no<b.no))/\((∀x∈r.ns,x.ok=true)/\r.ns.Pairwise (λa b=>a.no<b.no))/\((∀x∈r.xs,x.ok=true)/\r.xs.Pairwise (λa b=>a.a<b.a)):=by
 simp only[aC.okB,dO,L2,and_assoc]
def zZ{x:ah}(h:x.ok=true):(1<=x.no/\x.no<=16)/\(1<=x.state/\x.state<=3)/\0<=x.need/\x.need<=4611686018427387904:=by
 simp only[ah.ok,within,bR,dO,bP]at h;omega
def P8{x:ay}(h:x.ok=true):(1<=x.no/\x.no<=8)/\(0<=x.cur/\x.cur<=2)/\(1<=x.mult/\x.mult<=1024):=by
 simp only[ay.ok,within,dO,bP]at h;omega
def MV{x:av}(h:x.ok=true):(1<=x.a/\x.a<=6)/\(0<=x.b/\x.b<=2)/\(1<=x.c/\x.c<=1073741824):=by
 simp only[av.ok,within,dO,bP]at h;omega
def qd{r:aC}{w:Int}:kG r w=true↔∃x∈r.ms,x.no=w:=Hy
def IZ{r:aC}{w:Int}:bZ r w=true↔∃x∈r.ns,x.no=w:=Hy
def LK{r:aC}{w:Int}(h:kG r w=true):ni r w∈r.ms/\(ni r w).no=w:=E9 (qd.1 h)
def I0{r:aC}{w:Int}(h:bZ r w=true):bU r w∈r.ns/\(bU r w).no=w:=E9 (IZ.1 h)
def JE{r:aC}(h:r.okB=true){w:Int}:cr r w≠0↔kG r w=true:=by
 constructor
 ·intro b;cases hm:kG r w
  ·exact absurd (show cr r w=0 from by
    unfold cr ni;rw[DZ]
    ·rfl
    ·intro x hx a
     rw[qd.2 ⟨x,hx,a⟩]at hm;cases hm) b
  ·rfl
 ·intro hm;have:=zZ ((jj.1 h).1.1 _ (LK hm).1);unfold cr;omega
structure aC.ext(r r':aC):Prop where
 st:∀w,cr r w≠0->cr r' w=cr r w
 inst:∀n,bZ r n=true->bZ r' n=true
 same:∀n,bZ r n=true->(bU r' n).mult=(bU r n).mult/\(bU r' n).cur=(bU r n).cur
 ast:∀n,rD r n=true->rD r' n=true
def Q8{x:ay}(h:x.ok=true):x.fm.ok=true:=by
 unfold ay.fm;split
 ·exact h
 rename_i a;have a:x.set≠0:=su a;have e:ay.Ks { x with cH:=x.set,set:=0 }=x.Ks:=by
  have:ay.sh { x with cH:=x.set,set:=0 }=x.sh:=by funext i;rcases i with _| _| _| _| _|i<;>rfl
  simp only[ay.Ks,this]
 have e2:ay.ok { x with cH:=x.set,set:=0 }=(x.Ks&&within x.no 1 8&&within x.cur 0 2&&within x.mult 1 1024&&within x.add 0 1073741824&&within 0 0 1073741824&&within x.set 0 1073741824):=by
  unfold ay.ok;rw[e]
 rw[e2];simp only[ay.ok,within,dO,bP]at h |-;obtain⟨⟨⟨⟨⟨⟨b,c⟩,h2⟩,h3⟩,h4⟩,h5⟩,h6⟩:=h;exact⟨⟨⟨⟨⟨⟨b,c⟩,h2⟩,h3⟩,h4⟩,⟨by omega,by omega⟩⟩,h5⟩
def KQ(x:ay):x.fm.no=x.no:=by unfold ay.fm;split<;>rfl
def OZ{r:aC}(hr:r.okB=true):(wZ r).okB=true/\r.ext (wZ r):=by
 rw[jj]at hr;obtain⟨c,⟨o1,b⟩,h3⟩:=hr;have a:(r.ns.map ay.fm).map ay.no=r.ns.map ay.no:=by
  rw[map_map];exact map_congr_left λx _=>KQ x
 refine⟨jj.2 ⟨c,⟨λx hx=>?_,On a b⟩,h3⟩,⟨λ_ _=>rfl,λm hm=>?_,λm hm=>?_,λ_ h=>h⟩⟩
 ·obtain⟨y,d,rfl⟩:=mem_map.1 hx;exact Q8 (o1 y d)
 ·unfold bZ at hm |-;rw[<-hm];exact QD a
 ·obtain⟨g,i⟩:=I0 hm;have e:bU (wZ r) m=(bU r m).fm:=zX (no:=ay.no) (On a b) (mem_map.2 ⟨_,g,rfl⟩) (by rw[KQ];exact i);rw[e];unfold ay.fm;split<;>exact⟨rfl,rfl⟩
def FA{r:aC}{n p:Int}(h:tV r n p=0):(ga r n p).okB=true/\(∀w,cr (ga r n p) w=if w=n then p else cr r w)/\(ga r n p).ns=r.ns/\(ga r n p).xs=r.xs:=by
 unfold ga;rw[aE h];unfold tV at h;split at h
 case isFalse=>cases h
 rename_i hr;split at h
 case isFalse=>cases h
 rename_i c;split at h
 case isFalse=>cases h
 rename_i hp;simp only[within,dO,bP]at hp;rw[jj]at hr;obtain⟨⟨o1,d⟩,h2,h3⟩:=hr;have b:=Ra (no:=ah.no) (n:=n) (f:=ah.put p) (λ_=>rfl) r.ms;refine⟨jj.2 ⟨⟨λx hx=>?_,On b d⟩,h2,h3⟩,λw=>?_,rfl,rfl⟩
 ·rcases O7 hx with h| ⟨y,hy,rfl⟩
  ·exact o1 x h
  ·have:=o1 y hy;have e2:(y.put p).ok=(within y.no 1 16&&within p 1 3&&bR y.need&&decide (0<=y.need)):=rfl;rw[e2];simp only[ah.ok,within,dO,bP]at this |-;exact⟨⟨⟨this.1.1.1,hp⟩,this.1.2⟩,this.2⟩
 ·unfold cr ni;dsimp only;rw[O5 (no:=ah.no) (f:=ah.put p) (λ_=>rfl)];by_cases a:w=n
  ·rw[aE ⟨a,qd.1 c⟩,aE a];rfl
  ·rw[az (λh=>a h.1),az a]
def Ku{A:Type}{no:A->Int}{l m:List A}(c:l.Pairwise λa b=>no a<no b)(d:m.Pairwise λa b=>no a<no b)(h:∀x,x∈l↔x∈m):l=m:=by
 have g:∀{l:List A},l.Pairwise (λa b=>no a<no b)->l.Nodup:=λh=>h.imp λ{a b} hab e=>by subst e;omega
 exact Perm.eq_of_pairwise (le:=λa b=>no a<no b) (λa b _ _ x y=>by omega) c d ((perm_ext_iff_of_nodup (g c) (g d)).2 h)
section
variable{A:Type}{no:A->Int}{z m:A}{xs:List A}{N:Nat}{f:Nat->List A}(hp:xs.Pairwise λa b=>no a<no b)(hx:∀x∈xs,1<=no x/\no x<=N)(hm:1<=no m/\no m<=N)
 (hf:∀i:Nat,i<N->f i=if(i:Int)+1=no m then[m]else if decide (0<=iD no ((i:Int)+1) xs)=true then[gL no ((i:Int)+1) z xs]else[]) {k:Nat}
include hp hx hm hf
end
def putAt{A:Type}(no:A->Int)(n:Int)(xs:List A):Nat:=(xs.takeWhile λx=>decide (no x<n)).length
theorem BX{A:Type}{no:A->Int}{n:Int}{xs:List A}(hp:xs.Pairwise λa b=>no a<no b):putAt no n xs<=xs.length/\(∀i (h:i<xs.length),i<putAt no n xs->no xs[i]<n)/\∀i (h:i<xs.length),putAt no n xs<=i->n<=no xs[i]:=by
 induction xs with
 |nil=>exact⟨by simp[putAt],by simp,by simp⟩
 |cons x r ih =>
  obtain⟨j,l⟩:=oC.1 hp;obtain⟨d,e,g⟩:=ih l;unfold putAt at *;cases q:decide (no x<n)
  ·rw[takeWhile_cons_of_neg (by simp[q])];refine⟨by simp,λi h c=>by simp at c,λi h _=>?_⟩;simp only[iX]at q;cases i with
   |zero=>simp;omega
   |succ i=>have:=j (r[i]'(su h)) (cZ _);simp;omega
  ·rw[takeWhile_cons_of_pos (su q)];simp only[bP]at q;refine⟨su d,λi h c=>?_,λi h c=>?_⟩
   ·cases i with
    |zero=>simpa using q
    |succ i=>simpa using e i (su h) (su c)
   ·cases i with
    |zero=>simp at c
    |succ i=>simpa using g i (su h) (su c)
def FM(r:aC)(h:r.jT):Sq 97 [] [.agg r.cells] [.own 3 (r.ms.map ah.cells)] (.agg [.ref 0,.sl 12 (r.ns.map ay.cells),.sl 4 (r.xs.map av.cells)]):=by
 obtain⟨a,b,c⟩:=h;have c1:=jV r.ms a;have c2:=sn r.ns b;have c3:=mV r.xs c;simp only[aC.cells];refine aX 13 1 [.cell 2 28] mixed func97 ?_;refine so aI c1 ?_;refine sc aI c2 ?_;exact qt aI c3
def rq(x:aS):Prop:=x.r.xC.length<2^30/\x.r.falls.length<2^30
theorem AO(l:List aS)(hl:l.length<2^30)(q:∀x∈l,rq x):Sq 93 [] [.sl 7 (l.map aS.cells)] [.own 7 (l.map aS.cells)] (.ref 0):=by
 refine aX 30 1 [.tmp 2] mixed func93 ?_;simp only[go_sem,seval];(with_reducible and_intros)<;>first|exact .dq|omega|skip
 refine aF.wv l.length [6,7] [128] (λi=>[(8,.int .i64 i),(3,.ref 448)]) (λi=>[(448,.own 7 ((l.take i).map aS.cells))]) ?_ ?_ ?_
 ·simp only[go_sem,seval]<;>simp
 ·intro i _ e g d _;obtain⟨x,hx,hm,hli⟩:=uy (c:=aS.cells) l e;obtain⟨o,p⟩:=q _ (cZ e);have a:(l.take (i+1)).map aS.cells=(l.take i).map aS.cells++[aS.cells l[i]]:=by rw[kM e,jH];rfl
  have b:((l.take i).map aS.cells).length=i:=by simp;omega
  rw[<-hx]at o p a;have c1:=CZ x.r.xC o;have c2:=AL x.r.falls p;obtain⟨O,n⟩:=aV ((l.take i).map aS.cells);rw[<-n]at a b |-;simp only[aS.cells]at hm a;clear hx n q;simp only[go_sem,seval,g,hm];refine sc aI c1 ?_;(with_reducible and_intros)<;>first|exact .dq|omega|skip
  refine ak.aH c2 ?_;simp only[go_sem,seval,b,d];(with_reducible and_intros)<;>first|exact .dq|omega|skip
  try(refine bO.T0 (by decide) ?_;simp only[go_sem,seval,b,d];(with_reducible and_intros)<;>first|exact .dq|omega|skip)
  refine af.v e ?_;simp only[go_sem,seval,a]
 ·intro _ j _;simp only[go_sem,seval,j,ef]
def ze(l:List aS)(a:l.length<2^30)(b:∀x∈l,rq x):Sq 93 [] [.sl 7 (l.map aS.cells)] [] (.sl 7 (l.map aS.cells)):=by
 refine Spec.frozen (AO l a b) [0] rfl ?_;intro r;rcases r with _|r<;>rfl
theorem qG(s:au)(h:s.small)(n:∀x∈s.aM,rq x):Sq 29 [] [.agg s.cells] [] (.agg s.cells):=by
 obtain⟨i,j,l⟩:=h.aA;have c1:=pW s.aA.ms i;have c2:=sn s.aA.ns j;have c3:=mV s.aA.xs l;have c4:=rF s.book.ts h.book.1;have b:=tY s.book.qs h.book.2;have c:=vC s.cL.bs h.cL;have d:=C1 s.ps h.ps;have e:=AJ s.calls h.calls;have g:=CX s.bQ h.bQ;have a:=ze s.aM h.aM n;simp only[au.cells];refine aX 56 1 [.cell 2 41] mixed func29 ?_;refine sc aI c1 ?_;refine sc aI c2 ?_;refine sc aI c3 ?_;refine sc aI c4 ?_;refine sc aI b ?_;refine sc aI c ?_;refine sc aI d ?_;refine sc aI e ?_;refine sc aI g ?_;exact qt aI a
def DH{a b:aG}:a.same b=true↔a=b:=by
 obtain⟨a1,a2,a3⟩:=a;obtain⟨b1,b2,b3⟩:=b;simp only[aG.same,dO,gm,aG.mk.injEq]
def Fe{a:aG}{b:bn}:Lv a b=true↔b.aO=a:=by
 obtain⟨a1,a2,a3⟩:=a;obtain⟨b1,b2,b3,b4⟩:=b;simp only[Lv,bn.aO,dO,gm,aG.mk.injEq]
def Bx{a:aG}(h:a.less a=true):False:=by rw[mM]at h;omega
def tot{A:Type}(L:List A)(F:A->Int):Int:=aK (L.map F)
theorem oB{A:Type}(x:A)(L:List A)(F:A->Int):tot (x::L) F=F x+tot L F:=rfl
theorem F2{A:Type}(L:List A)(F G:A->Int):tot L (λa=>F a+G a)=tot L F+tot L G:=by
 induction L with
 |nil=>rfl
 |cons x r ih=>simp only[oB,ih];omega
theorem CF{A:Type}{L:List A}{F:A->Int}(h:∀a∈L,F a=0):tot L F=0:=by
 induction L with
 |nil=>rfl
 |cons x r ih=>rw[oB,h x sT,ih λa b=>h a (by simp[b])];rfl
theorem yw{A:Type}{L:List A}{F G:A->Int}(h:∀a∈L,F a=G a):tot L F=tot L G:=by
 induction L with
 |nil=>rfl
 |cons x r ih=>rw[oB,oB,h x sT,ih λa b=>h a (by simp[b])]
theorem KO{A:Type}{L:List A}{R:A->A->Prop}(hp:L.Pairwise R){x:A}(hx:x∈L){F:A->Int}(b:∀a,(R a x\/R x a)->F a=0):tot L F=F x:=by
 induction L with
 |nil=>cases hx
 |cons y r ih =>
  rw[oC]at hp;rw[oB];rcases mem_cons.1 hx with rfl|hx
  ·rw[CF λa c=>b a (.inr (hp.1 a c))];omega
  ·rw[ih hp.2 hx,b y (.inl (hp.1 x hx))];omega
def EM{k w c:Nat}{x:aG}:x∈acc k w c↔x=⟨(k:Int)+1,w,c⟩/\x.right=true:=by
 unfold acc;split
 ·rename_i h;simp only[kK];constructor
  ·rintro rfl;exact⟨rfl,h⟩
  ·exact λh=>h.1
 ·rename_i h;constructor
  ·intro h;cases h
  ·rintro⟨rfl,a⟩;exact absurd a h
def Am{k w n:Nat}{x:aG}:x∈xp k w n↔∃c,c<n/\x=⟨(k:Int)+1,w,(c:Nat)⟩/\x.right=true:=by
 rw[show xp k w n=Iu (acc k w) n from rfl,jX];simp only[EM]
def Ap{k n:Nat}{x:aG}:x∈xq k n↔∃w,w<n/\∃c,c<3/\x=⟨(k:Int)+1,(w:Nat),(c:Nat)⟩/\x.right=true:=by
 rw[show xq k n=Iu (λw=>xp k w 3) n from rfl,jX];simp only[Am]
def MP{n:Nat}{x:aG}:x∈Ao n↔∃k,k<n/\∃w,w<17/\∃c,c<3/\x=⟨((k:Nat):Int)+1,(w:Nat),(c:Nat)⟩/\x.right=true:=by
 rw[show Ao n=Iu (λk=>xq k 17) n from rfl,jX];simp only[Ap]
def x8{x:aG}(h:x.right=true):(1<=x.kind/\x.kind<=6)/\(0<=x.who/\x.who<=16)/\0<=x.cur/\x.cur<=2:=by
 unfold aG.right at h;split at h
 ·cases h
 ·split at h
  ·simp only[dO,bP]at h;omega
  ·simp only[gm]at h;omega
def rS{x:aG}:x∈eK↔x.right=true:=by
 unfold eK;rw[MP];constructor
 ·rintro⟨_,_,_,_,_,_,_,h⟩;exact h
 ·intro h;have:=x8 h;refine⟨(x.kind-1).toNat,by omega,x.who.toNat,by omega,x.cur.toNat,by omega,?_,h⟩;obtain⟨a,b,c⟩:=x;dsimp only at this |-;rw[aG.mk.injEq];omega
def vu:eK.Pairwise (λa b=>a.less b=true):=by
 unfold eK;rw[show Ao 6=Iu (λk=>xq k 17) 6 from rfl];refine B1 (λk _=>?_) λi j d _ x hx y e=>?_
 ·rw[show xq k 17=Iu (λw=>xp k w 3) 17 from rfl];refine B1 (λw _=>?_) λi j d _ x hx y e=>?_
  ·rw[show xp k w 3=Iu (acc k w) 3 from rfl];refine B1 (λc _=>B2 (by unfold acc;split<;>simp)) λi j d _ x hx y e=>?_;obtain⟨rfl,_⟩:=EM.1 hx;obtain⟨rfl,_⟩:=EM.1 e;rw[mM];dsimp only;omega
  ·obtain⟨_,_,rfl,_⟩:=Am.1 hx;obtain⟨_,_,rfl,_⟩:=Am.1 e;rw[mM];dsimp only;omega
 ·obtain⟨_,_,_,_,rfl,_⟩:=Ap.1 hx;obtain⟨_,_,_,_,rfl,_⟩:=Ap.1 e;rw[mM];dsimp only;omega
def zY(c:Int)(a:aG)(n:Int):Int:=if a.cur=c then n else 0
theorem P5(c:Int)(b:bn)(n:Int):zY c b.aO n=if b.cur=c then n else 0:=rfl
theorem P6(c:Int)(b:aJ)(n:Int):zY c b.aO n=if b.cur=c then n else 0:=rfl
theorem Ul(c:Int)(a:aG)(m n:Int):zY c (bn.aO ⟨a.kind,a.who,a.cur,m⟩) n=zY c a n:=rfl
def DQ(c:Int)(b:bn)(r:List bn):aK (gA c (b::r))=zY c b.aO b.sum+aK (gA c r):=by
 rw[P5];simp only[gA,filter_cons];by_cases h:b.cur=c
 ·rw[aE (su h),aE h];rfl
 ·rw[az (su h),az h];simp
def M6(c:Int)(a b:List bn):gA c (a++b)=gA c a++gA c b:=by simp[gA]
theorem M7(c:Int)(S:aG->Int)(L:List aG):aK (gA c (L.flatMap λa=>tP a (S a)))=tot L λa=>zY c a (S a):=by
 induction L with
 |nil=>rfl
 |cons x r ih =>
  rw[flatMap_cons,M6,mS,ih,oB];congr 1;unfold tP;split
  ·rename_i h;have h:S x=0:=su h;rw[h];simp[gA,aK,zY]
  ·rw[DQ,Ul];simp[gA,aK]
theorem Hu{a:aG}:∀{bs:List bn},(∀b∈bs,b.aO≠a)->m0 a bs=0
 | [],_=>rfl
 |b::r,h=>by
  simp only[m0];rw[az (λc=>h b sT (Fe.1 c))];exact Hu λx hx=>h x (by simp[hx])
theorem OX(c:Int):∀{bs:List bn},(∀b∈bs,b.aO.right=true)->bs.Pairwise (λx y=>x.aO.less y.aO=true)->tot eK (λa=>zY c a (m0 a bs))=aK (gA c bs)
 | [],_,_=>CF λa _=>by simp[m0,zY]
 |b::r,h1,h2=>by
  rw[oC]at h2;rw[DQ,<-OX c (λx hx=>h1 x (by simp[hx])) h2.2];have e:∀a∈eK,zY c a (m0 a (b::r))=(if b.aO=a then zY c a b.sum else 0)+zY c a (m0 a r):=by
   intro a _;simp only[m0];by_cases d:b.aO=a
   ·rw[aE (Fe.2 d),aE d];rw[Hu (bs:=r) (λx hx g=>by have:=h2.1 x hx;rw[d,g]at this;exact Bx this)];simp[zY]
   ·rw[az (λj=>d (Fe.1 j)),az d];omega
  rw[yw e,F2];congr 1;rw[KO vu (x:=b.aO) (rS.2 (h1 b sT))]
  ·simp
  ·intro a i;rw[az];rintro rfl;rcases i with h|h<;>exact Bx h
def LF(a:aG)(x:aJ)(g:List aJ):aK (dz a (x::g))=(if x.aO=a then x.cw else 0)+aK (dz a g):=by
 simp only[dz,pick,flatMap_cons,mS];congr 1;by_cases h:x.aO=a
 ·rw[aE (DH.2 h),aE h];simp[aK]
 ·rw[az (λb=>h (DH.1 b)),az h];rfl
def Lb(c:Int)(x:aJ)(g:List aJ):aK (jo c (x::g))=zY c x.aO x.cw+aK (jo c g):=by
 simp only[jo,pick,flatMap_cons,mS];congr 1;rw[P6];by_cases h:x.cur=c
 ·rw[aE (su h),aE h];simp[aK]
 ·rw[az (su h),az h];rfl
theorem Ii(c:Int):∀{g:List aJ},(∀x∈g,x.aO.right=true)->tot eK (λa=>zY c a (aK (dz a g)))=aK (jo c g)
 | [],_=>CF λa _=>by simp[dz,pick,zY,aK]
 |x::r,h1=>by
  rw[Lb,<-Ii c (λy i=>h1 y (by simp[i]))];have e:∀a∈eK,zY c a (aK (dz a (x::r)))=(if x.aO=a then zY c a x.cw else 0)+zY c a (aK (dz a r)):=by
   intro a _;rw[LF];by_cases b:x.aO=a
   ·rw[aE b,aE b];simp only[zY];split<;>omega
   ·rw[az b,az b];simp only[Int.zero_add]
  rw[yw e,F2];congr 1;rw[KO vu (x:=x.aO) (rS.2 (h1 x sT))]
  ·simp
  ·intro a d;rw[az];rintro rfl;rcases d with h|h<;>exact Bx h
def MW{bs:List bn}{c:Int}:jZ bs c=true↔right (gA c bs)=true/\aK (gA c bs)=0:=by
 simp only[jZ,nG,nH,dO,gm];constructor
 ·rintro⟨a,b⟩;split at a
  ·rename_i hr;split at a
   ·rename_i d;rw[hr,d]at b;exact⟨hr,su b⟩
   ·cases a
  ·cases a
 ·rintro⟨hr,e⟩;rw[aE hr,e,hr];exact⟨rfl,rfl⟩
def n9{l:bS}:l.okB=true↔0<=l.last/\((∀b∈l.bs,k8 b=true)/\l.bs.Pairwise (λx y=>x.aO.less y.aO=true))/\jZ l.bs 0=true/\jZ l.bs 1=true/\jZ l.bs 2=true:=by
 simp only[bS.okB,dO,Kn,bP,and_assoc]
def xM{l:bS}(h:l.okB=true):∀b∈l.bs,b.aO.right=true:=λb a=>by
 have:=(n9.1 h).2.1.1 b a;simp only[k8,dO]at this;exact this.1
def Oe{l:bS}{id:Int}{g:List aJ}(h:dU l id g=0):l.okB=true/\(1<=id/\id<=1099511627776)/\jc g=0/\ql l g eK=true/\qk l g eK=false:=by
 unfold dU at h;split at h
 case isFalse=>cases h
 rename_i c;split at h
 case isFalse=>cases h
 rename_i b;split at h
 ·cases h
 split at h
 case isFalse a=>exact absurd h a
 rename_i a;split at h
 case isFalse=>cases h
 rename_i d;split at h
 ·cases h
 rename_i e;simp only[within,dO,bP]at b;exact⟨c,b,a,d,su e⟩
def Of{l:bS}{id:Int}{g:List aJ}(h:dU l id g=0):(lT l id g).okB=true:=by
 unfold lT;rw[aE h];obtain⟨w,h2,C,D,E⟩:=Oe h;obtain⟨H,I,m3⟩:=AI C;have v:∀x∈g,x.aO.right=true:=λx hx=>by
  have:=cR.1 H x hx;simp only[Ef,dO]at this;exact this.1
 have d:=n9.1 w;have q:∀b∈zw l g eK,∃a∈eK,b=⟨a.kind,a.who,a.cur,lM l g a⟩/\lM l g a≠0:=by
  intro b d;obtain⟨a,j,d⟩:=mem_flatMap.1 d;unfold tP at d;split at d
  ·cases d
  ·rename_i p;simp only[kK]at d;exact⟨a,j,d,su p⟩
 have r:∀a∈eK,bR (lM l g a)=true:=λa j=>cR.1 D a j;have i:∀c:Int,jZ l.bs c=true->aK (jo c g)=0->jZ (zw l g eK) c=true:=by
  intro c s F;rw[MW]at s |-;constructor
  ·refine cR.2 λn B=>?_;simp only[gA,mem_map,mem_filter]at B;obtain⟨b,⟨d,_⟩,rfl⟩:=B;obtain⟨a,j,rfl,_⟩:=q b d;exact r a j
  ·have e:=M7 c (lM l g) eK;rw[show zw l g eK=eK.flatMap λa=>tP a (lM l g a)from rfl,e];have e2:∀a∈eK,zY c a (lM l g a)=zY c a (m0 a l.bs)+zY c a (aK (dz a g)):=λa _=>by
    simp only[lM,aK,zY];split<;>omega
   rw[yw e2,F2,OX c (xM w) d.2.1.2,Ii c v,s.2,F];rfl
 have o:∀c:Nat,c<3->aK (jo c g)=0:=λc s=>by
  have:=cR.1 I c (mem_range.2 s);simpa using this
 refine n9.2 ⟨by dsimp only;omega,⟨λb d=>?_,?_⟩,i 0 d.2.2.1 (o 0 aj),i 1 d.2.2.2.1 (o 1 aj),i 2 d.2.2.2.2 (o 2 aj)⟩
 ·obtain⟨a,j,rfl,p⟩:=q b d;rw[show k8 ⟨a.kind,a.who,a.cur,lM l g a⟩=(a.right&&(bR (lM l g a)&&(lM l g a != 0&&!decide (lM l g a<a.floor))))from rfl];simp only[dO,bne_iff_ne,jY,iX];refine⟨rS.1 j,r a j,p,λu=>?_⟩;have:qk l g eK=true:=any_eq_true.2 ⟨a,j,su u⟩;rw[E]at this;cases this
 ·refine FB (f:=λa=>tP a (lM l g a)) vu (λa _=>B2 (Gh _ _)) λa b _ _ t x hx y G=>?_;have key:∀(a:aG)(x:bn),x∈tP a (lM l g a)->x.aO=a:=λa x hx=>by
   unfold tP at hx;split at hx
   ·cases hx
   ·simp only[kK]at hx;rw[hx];rfl
  rw[key a x hx,key b y G];exact t
def LW{l:bS}{g:List aJ}{e:Int}(h:l.okB=true)(a:(uU l g e).2=0):(uU l g e).1.okB=true:=by
 unfold uU at a |-;split
 ·rename_i b;rw[aE b]at a;exact Of a
 ·exact h
def Od{a b c:aN}(d:jR a b=true)(e:jR b c=true):jR a c=true:=by
 simp only[jR,I2,Bool.or_eq_true,dO,bP,gm]at d e |-;omega
def JM{a b c:aR}(d:dY a b=true)(e:dY b c=true):dY a c=true:=by
 simp only[dY,bP]at d e |-;omega
def I7{n:Int}{l:List aN}:lp n l=true↔right (dN n l)=true/\aK (dN n l)=0:=by
 simp only[lp,nG,nH,dO,gm];constructor
 ·rintro⟨a,b⟩;split at a
  ·rename_i hr;split at a
   ·rename_i c;rw[hr,c]at b;exact⟨hr,su b⟩
   ·cases a
  ·cases a
 ·rintro⟨hr,d⟩;rw[aE hr,d,hr];exact⟨rfl,rfl⟩
def uT{p:aN}:p.okB=true↔(1<=p.who/\p.who<=16)/\(1<=p.inst/\p.inst<=8)/\(-1099511627776<=p.eN/\p.eN<=1099511627776)/\bR p.cost=true/\¬(p.eN=0/\p.cost=0):=by
 simp only[aN.okB,uJ,within,dO,bP,jY,Bool.and_eq_false_iff,beq_eq_false_iff_ne,ne_eq];constructor
 ·rintro⟨⟨b,c⟩,d,e,a⟩;exact⟨b,c,d,e,λh=>by rcases a with a|a<;>omega⟩
 ·rintro⟨b,c,d,e,a⟩;refine⟨⟨b,c⟩,d,e,?_⟩;omega
structure bI.right(b:bI):Prop where
 ok:∀p∈b.qs,p.okB=true
 pw:b.qs.Pairwise (λx y=>jR x y=true)
 level:∀n:Int,1<=n->n<=8->aK (dN n b.qs)=0
 tok:∀t∈b.ts,fL b.next t=true
 tpw:b.ts.Pairwise (λx y=>x.no<y.no)
 tl:b.ts.length<=128
 n0:0<=b.next
 n1:b.next<=1099511627776
def nQ{b:bI}:b.okB=true↔b.right:=by
 simp only[bI.okB,dO,vB (lt:=jR) Od,vB (lt:=dY) JM,jY,iX,mg,cR,I7];constructor
 ·rintro⟨⟨c,d⟩,⟨h3,h4⟩,h5,h6,h7,h8⟩;refine⟨c,d,λn hn hn2=>?_,h3,h4.imp λh=>by simpa[dY]using h,by omega,by omega,by omega⟩;have:=(h5 (n-1).toNat (mem_range.2 aj)).2;rwa[show(((n-1).toNat:Nat):Int)+1=n by omega]at this
 ·intro h;refine⟨⟨h.ok,h.pw⟩,⟨h.tok,h.tpw.imp λh=>by simpa[dY]using h⟩,λi e=>⟨?_,h.level _ aj (by have:=mem_range.1 e;omega)⟩,by have:=h.tl;omega,by have:=h.n0;omega,by have:=h.n1;omega⟩;refine cR.2 λq a=>?_;simp only[dN,mem_map,mem_filter]at a;obtain⟨p,⟨hp,_⟩,rfl⟩:=a;have:=(uT.1 (h.ok p hp)).2.2.1;rw[fY];omega
def LZ(n:Int)(a b:List aN):dN n (a++b)=dN n a++dN n b:=by simp[dN]
def B3(n:Int)(p:aN)(r:List aN):aK (dN n (p::r))=(if p.inst=n then p.eN else 0)+aK (dN n r):=by
 simp only[dN,filter_cons];by_cases h:p.inst=n
 ·rw[aE (su h),aE h];rfl
 ·rw[az (su h),az h];simp
theorem Jm{A:Type}(n:Int)(f:A->List aN)(L:List A):aK (dN n (L.flatMap f))=tot L (λa=>aK (dN n (f a))):=by
 induction L with
 |nil=>rfl
 |cons x r ih=>rw[flatMap_cons,LZ,mS,ih];rfl
theorem HS{r:aC}:∀{l:List aN},iU r l=0->∀p∈l,yR r p=0
 | [],_,_,h=>by cases h
 |q::t,h,p,hp=>by
  simp only[iU]at h;split at h
  ·rcases mem_cons.1 hp with rfl|hp
   ·assumption
   ·exact HS h p hp
  ·rename_i a;exact absurd h a
def QS{r:aC}{b:bI}(h:lN r b=0):r.okB=true/\b.okB=true/\∀p∈b.qs,yR r p=0:=by
 unfold lN at h;split at h
 ·rename_i a;rw[dO]at a;exact⟨a.1,a.2,HS h⟩
 ·cases h
def Ot{r:aC}{p:aN}(h:yR r p=0):bZ r p.inst=true/\bR (fF p (bU r p.inst).mult (cC (bU r p.inst)))=true/\bR (p.eN*cC (bU r p.inst))=true:=by
 unfold yR at h;split at h
 case isFalse=>cases h
 rename_i b;split at h
 ·cases h
 split at h
 case isFalse=>cases h
 rename_i a;rw[dO]at a;exact⟨b,a⟩
def tC{r:aC}{p x:aN}(h:x∈jE r p):x=⟨p.who,p.inst,p.eN,p.eN*cC (bU r p.inst)⟩/\¬(p.eN=0/\p.eN*cC (bU r p.inst)=0):=by
 unfold jE at h;split at h
 ·cases h
 ·rename_i a;simp only[dO,gm]at a;exact⟨kK.1 h,a⟩
def QO{r:aC}{b:bI}(h:lN r b=0):(ou r b).okB=true:=by
 obtain⟨_,o,s⟩:=QS h;have a:=nQ.1 o;unfold ou;rw[aE h];refine nQ.2 ⟨λx hx=>?_,?_,λn c d=>?_,a.tok,a.tpw,a.tl,a.n0,a.n1⟩
 ·obtain⟨p,hp,hx⟩:=mem_flatMap.1 hx;obtain⟨rfl,g⟩:=tC hx;have:=uT.1 (a.ok p hp);rw[uT];exact⟨this.1,this.2.1,this.2.2.1,(Ot (s p hp)).2.2,g⟩
 ·refine FB (f:=jE r) a.pw (λp _=>B2 (by unfold jE;split<;>simp)) λp q _ _ i x hx y u=>?_;rw[(tC hx).1,(tC u).1];exact i
 ·dsimp only;rw[Jm,<-a.level n c d];have e:∀l:List aN,tot l (λp=>aK (dN n (jE r p)))=aK (dN n l):=λl=>by
   induction l with
   |nil=>rfl
   |cons p t ih =>
    rw[oB,ih,B3];congr 1;unfold jE;split
    ·rename_i j;simp only[dO,gm]at j;rw[j.1];split<;>rfl
    ·rw[B3];simp[dN,aK]
  exact e b.qs
def K5{a b c:aq}(d:bg a b=true)(e:bg b c=true):bg a c=true:=by
 simp only[bg,Bool.or_eq_true,dO,bP,gm]at d e |-;omega
def Ev{a b c:aS}(d:dX a b=true)(e:dX b c=true):dX a c=true:=by
 simp only[dX,bP]at d e |-;omega
def kr{xs:List aq}:l7 bD bg xs=true↔(∀x∈xs,bD x=true)/\xs.Pairwise (λa b=>bg a b=true):=vB (lt:=bg) K5
def iP{x:aq}:bD x=true↔(1<=x.who/\x.who<=16)/\(0<=x.cur/\x.cur<=2)/\(1<=x.cw/\x.cw<=4611686018427387904)/\0<=x.till/\x.till<=1099511627776:=by
 simp only[bD,within,dO,bP];omega
def EY{x:aB}:uc x=true↔(1<=x.who/\x.who<=16)/\(0<=x.cur/\x.cur<=2)/\0<=x.cw/\x.cw<=4611686018427387904:=by
 simp only[uc,within,dO,bP];omega
def nS{w c:Int}{xs:List aq}(h:¬cz w c xs<0):nR w c xs∈xs/\(nR w c xs).who=w/\(nR w c xs).cur=c:=by
 obtain⟨i,b,d,a⟩:=qD h;unfold nR;rw[d,Int.toNat_natCast,getD_eq_getElem?_getD,ec b];simp only[j4,dO,gm]at a;exact⟨cZ b,a⟩
def sR{xs:List aq}{x y:aq}{w c:Int}(h:y∈yg xs x w c):(y.who=w/\y.cur=c)/\((y=x/\0<x.cw)\/y∈xs):=by
 unfold yg at h;split at h
 ·rename_i a;simp only[dO,gm]at a;split at h
  ·rename_i b;obtain rfl:=kK.1 h;exact⟨a,.inl ⟨rfl,b⟩⟩
  ·cases h
 ·split at h
  ·cases h
  ·rename_i d;obtain rfl:=kK.1 h;have:=nS d;exact⟨this.2,.inr this.1⟩
def H6{xs:List aq}{x y:aq}(h:y∈pI xs x 16):(y=x/\0<x.cw)\/y∈xs:=by
 obtain⟨k,_,h⟩:=jX.1 h;obtain⟨c,_,h⟩:=jX.1 h;exact(sR h).2
def KC{xs:List aq}{x:aq}(h:l7 bD bg xs=true)(hx:0<x.cw->bD x=true):l7 bD bg (pI xs x 16)=true:=by
 rw[kr]at h |-;refine⟨λy l=>?_,?_⟩
 ·rcases H6 l with⟨rfl,d⟩|l
  ·exact hx d
  ·exact h.1 y l
 ·unfold pI;refine B1 (λk _=>?_) λi j g _ a d b e=>?_
  ·unfold yf;refine B1 (λc _=>B2 (HY _ _ _ _)) λi j g _ a d b e=>?_;have n:=(sR d).1;have o:=(sR e).1;simp only[bg,Bool.or_eq_true,dO,bP,gm];omega
  ·obtain⟨_,_,d⟩:=jX.1 d;obtain⟨_,_,e⟩:=jX.1 e;have n:=(sR d).1;have o:=(sR e).1;simp only[bg,Bool.or_eq_true,dO,bP,gm];omega
def J0{xs:List aq}{d:aB}{t:Int}(h:l7 bD bg xs=true):l7 bD bg (tO xs d t)=true/\∀y∈tO xs d t,y.who=d.who\/y∈xs:=by
 unfold tO;split
 case isFalse=>exact⟨rfl,λy b=>by cases b⟩
 rename_i c;unfold oZ at c;rw[aE h]at c;split at c
 case isFalse=>cases c
 rename_i a;rw[dO]at a;obtain⟨a,e⟩:=a;rw[EY]at a;simp only[within,dO,bP]at e;refine⟨KC h λg=>?_,λy b=>?_⟩
 ·dsimp only at g;rw[iP];dsimp only;refine⟨a.1,a.2.1,by omega,?_⟩;split
  ·exact e
  ·rename_i i;exact(iP.1 ((kr.1 h).1 _ (nS i).1)).2.2.2
 ·rcases H6 b with⟨rfl,_⟩|b
  ·exact .inl rfl
  ·exact .inr b
def xe{xs:List aq}{a:List Int}{y:aq}:y∈bJ xs a↔y∈xs/\n6 a y.who=false:=by
 unfold bJ;rw[mem_flatMap];constructor
 ·rintro⟨x,hx,h⟩;split at h
  ·cases h
  ·rename_i d;obtain rfl:=kK.1 h;exact⟨hx,su d⟩
 ·rintro⟨b,c⟩;exact⟨y,b,by rw[c];simp⟩
def Vt{A:Type}{R:A->A->Prop}{q:A->Bool}{xs:List A}(h:xs.Pairwise R):(xs.flatMap λx=>if q x=true then[]else[x]).Pairwise R:=by
 refine FB h (λa _=>B2 (by split<;>simp)) λa b _ _ c x hx y d=>?_;split at hx
 ·cases hx
 split at d
 ·cases d
 obtain rfl:=kK.1 hx;obtain rfl:=kK.1 d;exact c
def Io{xs:List aq}{b:List Int}(h:l7 bD bg xs=true):l7 bD bg (bJ xs b)=true:=by
 rw[kr]at h |-;exact⟨λy a=>h.1 y (xe.1 a).1,Vt h.2⟩
structure qL(r:aC)(qs:List aN)(ts:List aR)(ps:List kq)(cs:List aq):Prop where
 qs:∀p∈qs,(cr r p.who=1\/cr r p.who=2)/\bZ r p.inst=true
 ts:∀t∈ts,cr r t.rE≠0/\cr r t.m9≠0/\bZ r t.inst=true
 ps:∀p∈ps,(cr r p.who=1\/cr r p.who=2)/\rD r p.cE=true
 cs:∀c∈cs,cr r c.who=1
structure au.right(s:au):Prop where
 K8:(0<=s.now/\s.now<=1099511627776)/\(0<=s.day/\s.day<=1099511627776)/\0<=s.phase/\s.phase<=2
 aA:s.aA.okB=true
 book:s.book.okB=true
 cL:s.cL.okB=true
 ps:j5 s.ps=true
 calls:l7 bD bg s.calls=true
 known:qL s.aA s.book.qs s.book.ts s.ps s.calls
 bl:s.bQ.length<=32
 bQ:∀b∈s.bQ,lQ b=true
 aM:l7 fC dX s.aM=true
def dh{s:au}:bf s=true↔s.right:=by
 simp only[bf,o7,l9,BS,tW,sJ,oE,uk,within,dO,Bool.or_eq_true,jY,bP,iX,gm,beq_eq_false_iff_ne,cR,ne_eq];constructor
 ·rintro⟨h0,a,b,c,d,e,⟨k1,k2,k3,g⟩,h7,h8,h9⟩;exact⟨by omega,a,b,c,d,e,⟨k1,k2,k3,g⟩,by omega,h8,h9⟩
 ·intro h;have:=h.bl;have:=h.K8;exact⟨by omega,h.aA,h.book,h.cL,h.ps,h.calls,⟨h.known.qs,h.known.ts,h.known.ps,h.known.cs⟩,by omega,h.bQ,h.aM⟩
def qL.ext{r a:aC}{qs ts ps cs}(h:qL r qs ts ps cs)(e:r.ext a):qL a qs ts ps cs:=by
 have b:∀w,(cr r w=1\/cr r w=2)->cr a w=1\/cr a w=2:=λw i=>by
  rw[e.st w aj];exact i
 refine⟨λp hp=>⟨b _ (h.qs p hp).1,e.inst _ (h.qs p hp).2⟩,λt g=>?_,λp hp=>⟨b _ (h.ps p hp).1,e.ast _ (h.ps p hp).2⟩,λc d=>?_⟩
 ·have:=h.ts t g;rw[e.st _ this.1,e.st _ this.2.1];exact⟨this.1,this.2.1,e.inst _ this.2.2⟩
 ·have:=h.cs c d;rw[e.st _ aj];exact this
structure ahx(r:aC)(w:Int)(b:bI)(ts:List aR)(ps:List kq)(cs:List aq):Prop where
 ok:b.okB=true
 known:qL r b.qs ts ps cs
 ts:b.ts=ts
def Hx{A:Type}{q:A->Bool}{f:A->Int}{xs:List A}{v:Int}(h:v∈pick q f xs):∃x∈xs,q x=true/\v=f x:=by
 obtain⟨x,hx,h⟩:=mem_flatMap.1 h;split at h
 ·rename_i a;exact⟨x,hx,a,kK.1 h⟩
 ·cases h
def IJ{b:bI}(h:b.okB=true):b.qs.length<=128:=by
 have e:=nQ.1 h;have i:(b.qs.map λp=>p.who*8+p.inst).Pairwise (λa c=>a<c):=by
  rw[pairwise_map];refine(Pairwise.imp_of_mem (λ{p q} hp hq hpq=>?_) e.pw);have k1:=uT.1 (e.ok p hp);have k2:=uT.1 (e.ok q hq);simp only[jR,I2,Bool.or_eq_true,dO,bP,gm]at hpq;omega
 have key:∀(l:List Int)(lo d:Int),l.Pairwise (λa c=>a<c)->(∀x∈l,lo<=x/\x<d)->lo<=d->(l.length:Int)<=d-lo:=by
  intro l;induction l with
  |nil=>intro lo d _ _ h;simp;omega
  |cons x r ih =>
   intro lo d hp hx hlh;rw[oC]at hp;have hx0:=hx x sT;have:=ih (x+1) d hp.2 (λy g=>by have:=hp.1 y g;have:=hx y (by simp[g]);omega) aj;simp only[length_cons];omega
 have:=key _ 9 137 i (λx hx=>by
  obtain⟨p,hp,rfl⟩:=mem_map.1 hx;have:=uT.1 (e.ok p hp)
  omega) aj
 simp only[mY]at this;omega
def FU{s:au}(a:eU s=0):(eV s).right:=by
 unfold eV;rw[aE a];unfold eU at a;split at a
 case isFalse=>cases a
 rename_i d;split at a
 case isFalse=>cases a
 split at a
 case isFalse hne=>exact absurd a hne
 rename_i c;split at a
 case isFalse hne=>exact absurd a hne
 have hr:=dh.1 d;obtain⟨i,t2⟩:=OZ hr.aA;have k:=hr.known.ext t2;have e:ou s.aA s.book=⟨s.book.next,s.book.ts,s.book.qs.flatMap (jE s.aA)⟩:=by unfold ou;rw[aE c]
 refine⟨⟨hr.K8.1,hr.K8.2.1,by dsimp only;decide,by dsimp only;decide⟩,i,QO c,LW hr.cL a,hr.ps,hr.calls,⟨λp hp=>?_,λt b=>?_,k.ps,k.cs⟩,hr.bl,hr.bQ,hr.aM⟩
 ·dsimp only at hp |-;rw[e]at hp;obtain⟨q,g,hp⟩:=mem_flatMap.1 hp;rw[(tC hp).1];exact k.qs q g
 ·dsimp only at b |-;rw[e]at b;exact k.ts t b
def OR{r:aC}(h:r.okB=true){w:Int}(hm:w∈kk r [1]):cr r w=1:=by
 obtain⟨m,a,b,rfl⟩:=Hx hm;have e:ni r m.no=m:=zX (jj.1 h).1.2 a rfl;unfold cr;rw[e];simp only[n6,any_cons,any_nil,Bool.or_false,gm]at b;exact b.symm
theorem BA{s:au}{w:Int}(h:cr s.aA w=1):∀(m c:Nat)(x:List aq×List aB),(l7 bD bg x.1=true/\∀y∈x.1,cr s.aA y.who=1)->l7 bD bg (kF s w m c x).1.1=true/\∀y∈(kF s w m c x).1.1,cr s.aA y.who=1
 | 0,_,_,hx=>hx
 |m+1,c,x,hx=>by
  simp only[kF];split
  ·obtain⟨b,a2⟩:=J0 (d:=⟨w,c,Ex s w c⟩) (t:=uh s) hx.1;refine BA h m _ _ ⟨b,λy a=>?_⟩;rcases a2 y a with e|a
   ·rw[e];exact h
   ·exact hx.2 y a
  ·exact hx
theorem Ed{s:au}:∀(a:List Int)(x:List aq×List aB),(∀w∈a,cr s.aA w=1)->(l7 bD bg x.1=true/\∀y∈x.1,cr s.aA y.who=1)->l7 bD bg (mZ s a x).1.1=true/\∀y∈(mZ s a x).1.1,cr s.aA y.who=1
 | [],_,_,hx=>hx
 |w::r,x,hw,hx=>by
  simp only[mZ];split
  ·exact Ed r _ (λv b=>hw v (by simp[b])) (BA (hw w sT) 3 0 x hx)
  ·exact BA (hw w sT) 3 0 x hx
def Fq{s:au}(a:gw s=0):(eT s).right:=by
 unfold eT;rw[aE a];unfold gw at a;split at a
 case isFalse=>cases a
 rename_i c;have hr:=dh.1 c;obtain⟨b,a2⟩:=Ed (s:=s) (kk s.aA [1]) (s.calls,[]) (λw d=>OR hr.aA d) ⟨hr.calls,hr.known.cs⟩;exact⟨⟨hr.K8.1,hr.K8.2.1,by dsimp only;decide,by dsimp only;decide⟩,hr.aA,hr.book,hr.cL,hr.ps,b,⟨hr.known.qs,hr.known.ts,hr.known.ps,a2⟩,hr.bl,hr.bQ,hr.aM⟩
def Je{s:au}(a:nr s=0):(lS s).right:=by
 unfold lS;rw[aE a];unfold nr at a;split at a
 case isFalse=>cases a
 rename_i d;split at a
 case isFalse=>cases a
 split at a
 ·cases a
 have hr:=dh.1 d;have b:=nQ.1 hr.book;have e:=hr.K8;exact⟨⟨e.1,by dsimp only;omega,by dsimp only;decide,by dsimp only;decide⟩,hr.aA,nQ.2 ⟨b.ok,b.pw,b.level,λt c=>(by cases c),Pairwise.nil,Nat.zero_le _,b.n0,b.n1⟩,hr.cL,hr.ps,hr.calls,⟨hr.known.qs,λt c=>(by cases c),hr.known.ps,hr.known.cs⟩,hr.bl,hr.bQ,hr.aM⟩
def xT{r:aC}{w p:Int}(h:r.okB=true)(a:cr r w≠0)(hp:1<=p/\p<=3):tV r w p=0:=by
 unfold tV;rw[aE h,aE ((JE h).1 a),aE (by simp only[within,dO,bP];omega)]
def Kb{w v:Int}:n6 [w] v=decide (v=w):=by
 simp only[n6,any_cons,any_nil,Bool.or_false];rw[gI];simp only[gm,bP];exact eq_comm
def HB{r:aC}{w p:Int}(h:tV r w p=0)(n:Int):bZ (ga r w p) n=bZ r n/\rD (ga r w p) n=rD r n:=by
 obtain⟨_,_,a,b⟩:=FA h;unfold bZ rD;rw[a,b];exact⟨rfl,rfl⟩
def Jl{r:aC}{qs ts ps cs}{w:Int}(hr:r.okB=true)(s:cr r w≠0)(k:qL r qs ts ps cs):(ga r w 2).okB=true/\qL (ga r w 2) qs ts ps (bJ cs [w])/\∀v,cr r v≠0->cr (ga r w 2) v≠0:=by
 have h:=xT hr s (p:=2) aj;obtain⟨u,e,_⟩:=FA h;have i:=λn=>(HB h n).1;have o:=λn=>(HB h n).2;have j:∀v,(cr r v=1\/cr r v=2)->cr (ga r w 2) v=1\/cr (ga r w 2) v=2:=λv d=>by rw[e];split;exact .inr rfl;exact d
 have a:∀v,cr r v≠0->cr (ga r w 2) v≠0:=λv d=>by rw[e];split;decide;exact d
 refine⟨u,⟨λp hp=>⟨j _ (k.qs p hp).1,by rw[i];exact(k.qs p hp).2⟩,λt b=>⟨a _ (k.ts t b).1,a _ (k.ts t b).2.1,by rw[i];exact(k.ts t b).2.2⟩,λp hp=>⟨j _ (k.ps p hp).1,by rw[o];exact(k.ps p hp).2⟩,λc q=>?_⟩,a⟩;obtain⟨l,g⟩:=xe.1 q;rw[Kb]at g;rw[e,az (su g)];exact k.cs c l
theorem Ig{qs ts ps}:∀(l:List aq)(x:aC×List aq),(∀c∈l,cr x.1 c.who≠0)->x.1.okB=true->qL x.1 qs ts ps x.2->l7 bD bg x.2=true->(fc l x).1.okB=true/\qL (fc l x).1 qs ts ps (fc l x).2/\l7 bD bg (fc l x).2=true
 | [],_,_,h2,h3,h4=>⟨h2,h3,h4⟩
 |c::r,x,h1,h2,h3,h4=>by
  obtain⟨a,a2,a3⟩:=Jl h2 (h1 c sT) h3;simp only[fc];exact Ig r _ (λy b=>a3 _ (h1 y (by simp[b]))) a a2 (Io h4)
def JK{s:au}{n:Int}(a:gj s n=0):(cy s n).right:=by
 unfold cy;rw[aE a];unfold gj at a;split at a
 case isFalse=>cases a
 rename_i e;split at a
 case isFalse=>cases a
 rename_i g;split at a
 ·cases a
 simp only[within,dO,bP]at g;have hr:=dh.1 e;have b:=hr.K8
 obtain⟨d,a2,a3⟩:=Ig (dR (s.now+n) s.calls) (s.aA,s.calls) (λc b=>by
  obtain⟨x,hx,b⟩:=mem_flatMap.1 b;split at b
  ·obtain rfl:=kK.1 b;have:=hr.known.cs _ hx;dsimp only;omega
  ·cases b) hr.aA hr.known hr.calls
 exact⟨⟨by dsimp only;omega,b.2⟩,d,hr.book,hr.cL,hr.ps,a3,a2,hr.bl,hr.bQ,hr.aM⟩
def cU(c:aq):Int:=c.who*4+c.cur
theorem PU{a b:aq}(ha:0<=a.cur/\a.cur<=2)(hb:0<=b.cur/\b.cur<=2):bg a b=true↔cU a<cU b:=by
 simp only[bg,cU,Bool.or_eq_true,dO,bP,gm];omega
theorem nT{xs:List aq}(h:l7 bD bg xs=true):xs.Pairwise (λa b=>cU a<cU b):=by
 obtain⟨c,d⟩:=kr.1 h;refine d.imp_of_mem λ{a b} ha hb hab=>?_;exact(PU (iP.1 (c a ha)).2.1 (iP.1 (c b hb)).2.1).1 hab
theorem DM{w c:Int}{xs:List aq}(hp:xs.Pairwise λa b=>cU a<cU b){y:aq}(d:y∈xs)(q:y.who=w/\y.cur=c):¬cz w c xs<0/\nR w c xs=y:=by
 have p:¬cz w c xs<0:=by
  intro h;obtain⟨i,hi,rfl⟩:=getElem_of_mem d;have key:∀{xs:List aq},cz w c xs<0->∀y∈xs,j4 w c y=false:=by
   intro xs;induction xs with
   |nil=>intro _ y d;cases d
   |cons x r ih =>
    intro h y d;simp only[cz]at h;split at h
    ·omega
    ·rename_i e;split at h
     ·rename_i g;rcases mem_cons.1 d with rfl|d
      ·simpa using e
      ·exact ih g y d
     ·omega
  have:=key h _ d;simp only[j4,Bool.and_eq_false_iff,beq_eq_false_iff_ne]at this;omega
 refine⟨p,?_⟩;have n:=nS p;have u:∀{l:List aq},l.Pairwise (λa b=>cU a<cU b)->∀a∈l,∀b∈l,cU a=cU b->a=b:=by
  intro l;induction l with
  |nil=>intro _ a j;cases j
  |cons x r ih =>
   intro hp a j b t o;obtain⟨s,v⟩:=oC.1 hp;rcases mem_cons.1 j with e|e<;>rcases mem_cons.1 t with g|g
   ·rw[e,g]
   ·have:=s b g;rw[e]at o;omega
   ·have:=s a e;rw[g]at o;omega
   ·exact ih v a e b g o
 exact u hp _ n.1 _ d (by simp only[cU];rw[n.2.1,n.2.2,q.1,q.2])
theorem wP{xs:List aq}{x y:aq}(h:l7 bD bg xs=true)(hx:(1<=x.who/\x.who<=16)/\0<=x.cur/\x.cur<=2):y∈pI xs x 16↔(y=x/\0<x.cw)\/(y∈xs/\¬cU y=cU x):=by
 have hp:=nT h;have j:=(kr.1 h).1;constructor
 ·intro a;obtain⟨k,_,a⟩:=jX.1 a;obtain⟨c,_,a⟩:=jX.1 a;unfold yg at a;split at a
  ·split at a
   ·rename_i g;exact .inl ⟨kK.1 a,g⟩
   ·cases a
  ·rename_i i;split at a
   ·cases a
   ·rename_i b;obtain rfl:=kK.1 a;have hm:=nS b;refine .inr ⟨hm.1,λn=>i ?_⟩;have:=(iP.1 (j _ hm.1)).2.1;simp only[cU,hm.2.1,hm.2.2]at n this;simp only[dO,gm];omega
 ·intro a;have d:∀w c:Int,(1<=w/\w<=16)->(0<=c/\c<=2)->y∈yg xs x w c->y∈pI xs x 16:=by
   intro w c hw b a;refine jX.2 ⟨(w-1).toNat,by omega,jX.2 ⟨c.toNat,by omega,?_⟩⟩;rw[show(((w-1).toNat:Nat):Int)+1=w by omega,show((c.toNat:Nat):Int)=c by omega];exact a
  rcases a with⟨rfl,g⟩| ⟨a,hk⟩
  ·refine d y.who y.cur hx.1 hx.2 ?_;unfold yg;rw[aE sT,aE g];simp
  ·have b:=iP.1 (j y a);refine d y.who y.cur b.1 b.2.1 ?_;obtain⟨l,e2⟩:=DM hp a ⟨rfl,rfl⟩;unfold yg
   rw[az (λe=>hk (by
    simp only[dO,gm]at e
    simp only[cU];rw[e.1,e.2])),az l,e2]
   simp
section
set_option linter.unusedSectionVars false
variable{xs:List aq}{x:aq}(h:l7 bD bg xs=true)(hx:(1<=x.who/\x.who<=16)/\0<=x.cur/\x.cur<=2){k:Nat}
include h hx
theorem Ae(c:0<x.cw->bD x=true):(pI xs x 16).Pairwise (λa b=>cU a<cU b):=nT (KC h c)
theorem QG(g:k<xs.length)(n:cU xs[k]=cU x)(h0:x.cw=0):xs.take k++xs.drop (k+1)=pI xs x 16:=by
 have hp:=nT h;refine Ku (no:=cU) ?_ (Ae h hx λe=>by omega) λy=>?_
 ·rw[pairwise_append];refine⟨hp.sublist (take_sublist _ _),hp.sublist (drop_sublist _ _),λa e b l=>?_⟩;obtain⟨i,c,rfl⟩:=getElem_of_mem e;obtain⟨j,o,rfl⟩:=getElem_of_mem l;rw[dw]at c;rw[dW]at o;rw[getElem_take,getElem_drop];exact tN.1 hp _ _ aj aj aj
 ·rw[wP h hx,mem_append];have d:=tN.1 hp;constructor
  ·rintro(hy|hy)
   ·obtain⟨i,c,rfl⟩:=getElem_of_mem hy;rw[dw]at c;rw[getElem_take];have:=d i k aj g aj;exact .inr ⟨cZ _,by omega⟩
   ·obtain⟨i,c,rfl⟩:=getElem_of_mem hy;rw[dW]at c;rw[getElem_drop];have:=d k (k+1+i) g aj aj;exact .inr ⟨cZ _,by omega⟩
  ·rintro(⟨_,e⟩| ⟨hy,hn⟩)
   ·omega
   ·obtain⟨i,c,rfl⟩:=getElem_of_mem hy;rcases Nat.lt_trichotomy i k with hik|rfl|hik
    ·exact .inl (mem_iff_getElem.2 ⟨i,by rw[dw];omega,by rw[getElem_take]⟩)
    ·exact(hn n).elim
    ·refine .inr (mem_iff_getElem.2 ⟨i-(k+1),by rw[dW];omega,?_⟩);rw[getElem_drop];congr 1;omega
theorem QI(n:k<xs.length)(d:cU xs[k]=cU x)(p:bD x=true):xs.set k x=pI xs x 16:=by
 have hp:=nT h;have b:=tN.1 hp;have c:0<x.cw:=by have:=iP.1 p;omega
 have o:∀i (a:i<xs.length),cU ((xs.set k x)[i]'(by rw[length_set];exact a))=cU xs[i]:=λi a=>by
  rw[getElem_set];split
  ·rename_i e;subst e;exact d.symm
  ·rfl
 refine Ku (no:=cU) (tN.2 λi j a l g=>?_) (Ae h hx λ_=>p) λy=>?_
 ·rw[length_set]at a l;rw[o i a,o j l];exact b i j a l g
 ·rw[wP h hx,mem_iff_getElem];constructor
  ·rintro⟨i,a,rfl⟩;rw[length_set]at a;rw[getElem_set];split
   ·exact .inl ⟨rfl,c⟩
   ·rename_i e;refine .inr ⟨cZ _,λq=>?_⟩;rw[<-d]at q;rcases Nat.lt_or_gt_of_ne e with hh|hh
    ·have:=b k i n a hh;omega
    ·have:=b i k a n hh;omega
  ·rintro(⟨rfl,_⟩| ⟨hy,hne⟩)
   ·exact⟨k,by rw[length_set];exact n,by rw[getElem_set];simp⟩
   ·obtain⟨i,a,rfl⟩:=getElem_of_mem hy;refine⟨i,by rw[length_set];exact a,?_⟩;rw[getElem_set,az];rintro rfl;exact hne d
theorem QH(hk:k<=xs.length)(n:∀i (d:i<xs.length),i<k->cU xs[i]<cU x)(l:∀i (d:i<xs.length),k<=i->cU x<cU xs[i])(q:bD x=true):xs.take k++[x]++xs.drop k=pI xs x 16:=by
 have hp:=nT h;have e:0<x.cw:=by have:=iP.1 q;omega
 have o:∀y∈xs.take k,cU y<cU x:=λy c=>by
  obtain⟨i,d,rfl⟩:=getElem_of_mem c;rw[dw]at d;rw[getElem_take];exact n i aj aj
 have j:∀y∈xs.drop k,cU x<cU y:=λy c=>by
  obtain⟨i,d,rfl⟩:=getElem_of_mem c;rw[dW]at d;rw[getElem_drop];exact l _ aj aj
 refine Ku (no:=cU) ?_ (Ae h hx λ_=>q) λy=>?_
 ·rw[cu,pairwise_append];refine⟨hp.sublist (take_sublist _ _),oC.2 ⟨j,hp.sublist (drop_sublist _ _)⟩,λa p b g=>?_⟩;rcases mem_cons.1 g with rfl|g
  ·exact o a p
  ·have:=o a p;have:=j b g;omega
 ·rw[wP h hx,mem_append,mem_append,kK];constructor
  ·rintro((c|rfl)|c)
   ·exact .inr ⟨mem_of_mem_take c,by have:=o y c;omega⟩
   ·exact .inl ⟨rfl,e⟩
   ·exact .inr ⟨mem_of_mem_drop c,by have:=j y c;omega⟩
  ·rintro(⟨rfl,_⟩| ⟨c,_⟩)
   ·exact .inl (.inr rfl)
   ·rw[<-jI k xs,mem_append]at c;rcases c with c|c
    ·exact .inl (.inl c)
    ·exact .inr c
theorem Om(b:∀y∈xs,¬cU y=cU x)(h0:x.cw=0):xs=pI xs x 16:=by
 refine Ku (no:=cU) (nT h) (Ae h hx λc=>by omega) λy=>?_;rw[wP h hx];constructor
 ·intro a;exact .inr ⟨a,b y a⟩
 ·rintro(⟨_,c⟩| ⟨a,_⟩)
  ·omega
  ·exact a
end
theorem AE(xs:List aq)(d:aB)(a:Int)(p:xs.length<2^30):Sq 127 [] [.sl 4 (xs.map aq.cells),.agg d.cells,.int .i64 a] [] (.int .i64 (oZ xs d a)):=by
 have c1:=rW xs p;have c2:=rX d.who d.cur;have c3:=dL [d.cw] (by simp);rw[Ck]at c3;simp only[ints,map_cons,map_nil]at c3;simp only[aB.cells];obtain⟨E,b⟩:=aV (oZ xs d a);rw[<-b];unfold oZ at b;obtain⟨A,o⟩:=aV (l7 bD bg xs);rw[<-o]at c1 b;refine aX 41 3 [.tmp 6] mixed func127 ?_;cases A
 ·refine sc aI c1 ?_;rw[b];simp only[go_sem,seval]<;>simp
 simp only[if_true]at b c1;obtain⟨B,l⟩:=aV ((within d.who 1 16&&within d.cur 0 2));obtain⟨C,n⟩:=aV (bR d.cw);have e:uc d=(B&&(C&&!decide (d.cw<0))):=by
  rw[l,n,gI,EY];simp[bR,within];omega
 rw[<-l]at c2;rw[<-n]at c3;refine sc aI c1 ?_;cases B
 ·refine sc aI c2 ?_;rw[b,e];simp only[go_sem,seval]<;>simp
 refine sc aI c2 ?_;cases C
 ·refine sl aI c3 ?_;rw[b,e];simp only[go_sem,seval]<;>simp
 refine sl aI c3 ?_;cases c:decide (d.cw<0)
 case true =>
  rw[b,e,c];simp only[go_sem,seval,c]<;>simp
 cases i:decide (a<0)
 case true =>
  have g:within a 0 1099511627776=false:=by simp only[bP]at i;simp[within];omega
  rw[b,e,c,g];simp only[go_sem,seval,c,i]<;>simp
 cases j:decide (1099511627776<a)
 case true =>
  have g:within a 0 1099511627776=false:=by simp only[bP]at j;simp[within];omega
  rw[b,e,c,g];simp only[go_sem,seval,c,i,j]<;>simp
 have g:within a 0 1099511627776=true:=by simp only[iX]at i j;simp[within];omega
 rw[b,e,c,g];simp only[go_sem,seval,c,i,j]<;>simp
theorem AB(x:aq)(z w c a:Int):Sq 212 [] [.agg x.cells,.int .i64 z,.bq [.int .i64 w,.int .i64 c,.int .i64 a]] [] (.int .i64 (rV x w c)):=by
 have h:=pU x w c;simp only[aq.cells]at h |-;refine aX 12 3 [.tmp 5] mixed func212 ?_;exact qt aI h
def DN{x:aq}{w c:Int}(hx:0<=x.cur/\x.cur<=2)(hc:0<=c/\c<=2):(rV x w c<0↔cU x<w*4+c)/\(rV x w c=0↔cU x=w*4+c):=by
 unfold rV cU uB;constructor<;>repeat' split
 all_goals omega
def RW(K:Int)(xs:List aq):Bool:=xs.any λy=>cU y==K
def Jk{xs:List aq}{K:Int}(hp:xs.Pairwise λa b=>cU a<cU b){i:Nat}(hi:i<=xs.length)(c:∀k (h:k<xs.length),k<i->cU xs[k]<K)(d:∀k (h:k<xs.length),i<=k->K<=cU xs[k]):i=putAt cU K xs:=by
 obtain⟨p1,e,g⟩:=BX (n:=K) hp;rcases Nat.lt_trichotomy i (putAt cU K xs)with h|h|h
 ·have:=e i aj h;have:=d i aj (cX _);omega
 ·exact h
 ·have:=g _ aj (cX (putAt cU K xs));have:=c _ aj h;omega
def Ny{xs:List aq}{K:Int}(hp:xs.Pairwise λa b=>cU a<cU b):(∀(h:putAt cU K xs<xs.length),RW K xs=(cU xs[putAt cU K xs]==K))/\(xs.length<=putAt cU K xs->RW K xs=false):=by
 obtain⟨p1,l,o⟩:=BX (n:=K) hp;have g:=tN.1 hp;refine⟨λh=>?_,λh=>?_⟩
 ·rw[gI,gm,RW,any_eq_true];constructor
  ·rintro⟨y,i,d⟩;rw[gm]at d;obtain⟨j,e,rfl⟩:=getElem_of_mem i;have h3:=o _ h (cX _);rcases Nat.lt_trichotomy j (putAt cU K xs)with c|c|c
   ·have:=l j e c;omega
   ·subst c;exact d
   ·have:=g _ j h e c;omega
  ·intro d;exact⟨_,cZ h,su d⟩
 ·rw[RW,any_eq_false];intro y i;obtain⟨j,e,rfl⟩:=getElem_of_mem i;have:=l j e aj;simp only[gm];omega
theorem y9(xs:List aq)(w c a:Int)(hl:xs.length<2^62)(hp:xs.Pairwise λa b=>cU a<cU b)(hx:∀x∈xs,0<=x.cur/\x.cur<=2)(D:0<=c/\c<=2) :
  Sq 211 [] [.sl 4 (xs.map aq.cells),.int .i64 0,.fn 212 [.bq [.int .i64 w,.int .i64 c,.int .i64 a]]] [] (.bH [.int .i64 (putAt cU (w*4+c) xs),.bool (RW (w*4+c) xs)]):=by
 refine aX 49 3 [.tmp 6,.tmp 7] mixed func211 ?_;simp only[go_sem,seval];refine aF.sE (T:=Nat×Nat) [0,1,2,8] [224] (λs=>[(9,.int .i64 s.1),(10,.int .i64 s.2)]) (λs=>[])
  (λs=>s.1<=s.2/\s.2<=xs.length/\(∀k (h:k<xs.length),k<s.1->cU xs[k]<w*4+c)/\∀k (h:k<xs.length),s.2<=k->w*4+c<=cU xs[k]) (λs=>s.2-s.1) (0,xs.length) ?_ ?_ ?_
 ·exact⟨by omega,by omega,by omega,by omega⟩
 ·simp only[go_sem,seval]<;>simp
 ·rintro⟨i,j⟩ ⟨C,q,h3,h4⟩;simp only[go_sem,seval];refine aU.cQ (λh=>?_) (λh=>?_)
  ·have B:i<j:=aj
   have q:j<=xs.length:=q;obtain⟨m,hm⟩:=aV ((i+j)/2);have l:m<xs.length:=aj
   have t:=half (i:=i) (j:=j) aj;rw[<-hm]at t;have d:=AB xs[m] 0 w c a;have E:IntKind.wrap .i64 ((m:Int)+1)=((m+1:Nat):Int):=eM;have r:=(DN (w:=w) (hx _ (cZ l)) D).1;have u:=tN.1 hp;have g:=aP (c:=aq.cells) xs l;simp only[aq.cells]at d g;simp only[go_sem,seval,t,g];refine⟨by omega,ak.aH d ?_⟩;simp only[go_sem,seval];refine aU.cQ (λo=>?_) (λo=>?_)
   ·simp only[go_sem,seval,E];refine⟨(m+1,j),⟨by show m+1<=j;omega,q,?_,h4⟩,?_,by show j-(m+1)<j-i;omega⟩
    ·intro k p e;have e:k<m+1:=e;have o:=r.1 o;rcases cq k m with h|h
     ·have:=u k m p l h;omega
     ·obtain rfl:k=m:=aj
      exact o
    ·simp only[go_sem,seval]<;>simp
   ·simp only[go_sem,seval,E];refine⟨(i,m),⟨by show i<=m;omega,by show m<=_;omega,h3,?_⟩,?_,by show m-i<j-i;omega⟩
    ·intro k p e;have e:m<=k:=e;have o:w*4+c<=cU xs[m]:=by
      rcases Int.lt_or_le (cU xs[m]) (w*4+c)with h|h
      ·exact(o (r.2 h)).elim
      ·exact h
     rcases cq m k with h|h
     ·have:=u m k l p h;omega
     ·obtain rfl:k=m:=aj
      exact o
    ·simp only[go_sem,seval]<;>simp
  ·have B:j<=i:=aj
   have C:i<=j:=C;obtain rfl:i=j:=aj
   have q:i<=xs.length:=q;have n:=Jk hp q (λk p h=>h3 k p h) (λk p h=>h4 k p h);obtain⟨F,a2⟩:=Ny (K:=w*4+c) hp;rw[<-n]at a2 |-;simp only[go_sem,seval];refine dM.id ?_;rcases cq i xs.length with hil|hge
   ·have v:decide ((i:Int)<(xs.length:Int))=true:=by simp;omega
    have g:RW (w*4+c) xs=(cU xs[i]==w*4+c):=by
     have:=F aj;rw[this];congr 2;congr 1;exact n.symm
    have d:=AB xs[i] 0 w c a;have y:=(DN (w:=w) (hx _ (cZ hil)) D).2;have hm:=aP (c:=aq.cells) xs hil;simp only[aq.cells]at d hm;simp only[go_sem,seval,v,hm];refine⟨by omega,ak.aH d ?_⟩;simp only[go_sem,seval];rw[g,gI];simp[y]
   ·have v:decide ((i:Int)<(xs.length:Int))=false:=by simp;omega
    simp only[go_sem,seval,v,a2 hge]
def xW(xs:List aq)(d:aB)(a:Int):aq:=⟨d.who,d.cur,d.cw,if cz d.who d.cur xs<0 then a else(nR d.who d.cur xs).till⟩
theorem Gn(xs:List aq)(d:aB)(a:Int)(hl:xs.length<2^29)(h:l7 bD bg xs=true)(e:uc d=true)(H:within a 0 1099511627776=true):Sq 128 [] [.sl 4 (xs.map aq.cells),.agg d.cells,.int .i64 a] [.own 4 ((pI xs (xW xs d a) 16).map aq.cells)] (.ref 0):=by
 have hp:=nT h;have R:=(kr.1 h).1;have e:=EY.1 e;have H:0<=a/\a<=1099511627776:=by simpa[within]using H
 have hx:(1<=(xW xs d a).who/\(xW xs d a).who<=16)/\0<=(xW xs d a).cur/\(xW xs d a).cur<=2:=⟨e.1,e.2.1⟩
 have g:cU (xW xs d a)=d.who*4+d.cur:=rfl;have c1:=o8 xs aj;have c2:=y9 xs d.who d.cur d.cw aj hp (λx hx=>(iP.1 (R x hx)).2.1) e.2.1;obtain⟨Q,V,W⟩:=BX (n:=d.who*4+d.cur) hp;obtain⟨U,P⟩:=Ny (K:=d.who*4+d.cur) hp;obtain⟨k,F⟩:=aV (putAt cU (d.who*4+d.cur) xs);obtain⟨I,C⟩:=aV (RW (d.who*4+d.cur) xs);rw[<-F,<-C]at c2;rw[<-C]at P;rw[<-F]at Q P;have L:IntKind.wrap .i64 ((k:Int)+1)=((k+1:Nat):Int):=eM;simp only[aq.cells,aB.cells]at c1 c2 |-;refine aX 51 3 [.tmp 6] mixed func128 ?_;cases I
 case true =>
  have b:k<xs.length:=by
   rcases cq k xs.length with hh|hh
   ·exact hh
   ·have:=P hh;cases this
  have q:cU xs[k]=d.who*4+d.cur:=by
   have:=U (by rw[<-F];exact b);rw[<-C]at this;subst F;simpa using this.symm
  have v:=iP.1 (R _ (cZ b));have j:xs[k].who=d.who/\xs[k].cur=d.cur:=by have:=e.2.1;have:=v.2.1;simp only[cU]at q;omega
  obtain⟨G,e2⟩:=DM hp (cZ b) j;have l:xW xs d a=⟨d.who,d.cur,d.cw,xs[k].till⟩:=by rw[xW,az G,e2]
  by_cases s:d.cw=0
  ·have p:(d.cw==0)=true:=by simpa using s
   have t:=QG h hx b (by rw[q,g]) (show(xW xs d a).cw=0 from s);have c3:=EX xs k aj b;rw[t]at c3;refine so aI c1 ?_;refine sl aI c2 ?_;exact Yf [192] (a2 p L) c3
  ·have p:(d.cw==0)=false:=by simpa using s
   have o:=QI h hx b (by rw[q,g]) (by
    rw[l,iP];exact⟨e.1,e.2.1,⟨show(1:Int)<=d.cw by omega,e.2.2.2⟩,v.2.2.2⟩)
   obtain⟨x,M,hm,-⟩:=uy (c:=aq.cells) xs b;rw[<-M]at j l;rw[l]at o;have B:([.int .i64 x.who,.int .i64 x.cur,.int .i64 d.cw,.int .i64 x.till]:List D)=aq.cells ⟨d.who,d.cur,d.cw,x.till⟩:=by rw[j.1,j.2]
   have hkli:(k:Int)<(xs.length:Int):=aj
   rw[l];rw[<-o];simp only[aq.cells]at hm;refine so aI c1 ?_;refine sl aI c2 ?_;simp only[go_sem,seval,p,hm];refine bG ?_;rw[map_set,<-B]
 case false =>
  have r:∀y∈xs,¬cU y=d.who*4+d.cur:=λy O S=>by
   have:=C.symm;rw[RW,any_eq_false]at this;exact this y O (by simpa using S)
  have G:cz d.who d.cur xs<0:=by
   rcases Int.lt_or_le (cz d.who d.cur xs) 0 with hh|hh
   ·exact hh
   ·have hm:=nS (xs:=xs) (w:=d.who) (c:=d.cur) aj;exact(r _ hm.1 (by simp only[cU];rw[hm.2.1,hm.2.2])).elim
  have l:xW xs d a=⟨d.who,d.cur,d.cw,a⟩:=by rw[xW,aE G]
  by_cases s:0<d.cw
  ·have p:decide (0<d.cw)=true:=gJ s
   have u:=QH h hx (k:=k) Q (λi E J=>by rw[g];exact V i E aj) (λi E J=>by
    have h1:=W i E aj;have h2:=r _ (cZ E)
    rw[g];omega) (by rw[l,iP];exact⟨e.1,e.2.1,⟨show(1:Int)<=d.cw by omega,e.2.2.2⟩,H⟩)
   have c3:=Fc xs (xW xs d a) k aj Q;rw[u,l]at c3;rw[l];simp only[aq.cells]at c3;refine so aI c1 ?_;refine sl aI c2 ?_;exact Yf [192,784] p c3
  ·have p:decide (0<d.cw)=false:=kY s;have T:=Om h hx (λy O=>by rw[g];exact r y O) (show d.cw=0 by omega);rw[<-T];refine so aI c1 ?_;refine sl aI c2 ?_;simp only[go_sem,seval,p]
def PR{xs:List aq}{d:aB}{a:Int}(h:oZ xs d a=0):l7 bD bg xs=true/\uc d=true/\within a 0 1099511627776=true:=by
 unfold oZ at h;split at h
 ·rename_i c;split at h
  ·rename_i b;rw[dO]at b;exact⟨c,b⟩
  ·cases h
 ·cases h
theorem D8:∀(l:List Int)(lo b:Int),l.Pairwise (λa c=>a<c)->(∀x∈l,lo<=x/\x<b)->lo<=b->(l.length:Int)<=b-lo
 | [],lo,b,_,_,h=>by simp;omega
 |x::r,lo,b,hp,hx,hlh=>by
  rw[oC]at hp;have hx0:=hx x sT;have:=D8 r (x+1) b hp.2 (λy d=>by have:=hp.1 y d;have:=hx y (by simp[d]);omega) aj;simp only[length_cons];omega
def uL{A:Type}{xs:List A}(f:A->Int)(lo d:Int){R:A->A->Prop}(hp:xs.Pairwise R)(i:∀a∈xs,∀b∈xs,R a b->f a<f b)(hx:∀x∈xs,lo<=f x/\f x<d)(h:lo<=d):(xs.length:Int)<=d-lo:=by
 have g:(xs.map f).Pairwise (λa c=>a<c):=by
  rw[pairwise_map];exact Pairwise.imp_of_mem (λ{p q} hp hq hpq=>i p hp q hq hpq) hp
 have:=D8 _ lo d g (λx e=>by
  obtain⟨y,j,rfl⟩:=mem_map.1 e
  exact hx y j) h
 rwa[mY]at this
structure au.lens(s:au):Prop where
 ms:s.aA.ms.length<=16
 ns:s.aA.ns.length<=8
 xs:s.aA.xs.length<=6
 ts:s.book.ts.length<=128
 qs:s.book.qs.length<=128
 bs:s.cL.bs.length<=1000
 ps:s.ps.length<=1000
 calls:s.calls.length<=1000
 bQ:s.bQ.length<=32
 aM:s.aM.length<=8
def au.right.lens{s:au}(h:s.right):s.lens:=by
 obtain⟨⟨o1,n⟩,⟨o2,p2⟩,⟨o3,p3⟩⟩:=jj.1 h.aA;have l:=n9.1 h.cL;have i:=AH.1 h.ps;have g:=kr.1 h.calls;have j:=(vB (lt:=dX) Ev).1 h.aM;refine⟨?_,?_,?_,(nQ.1 h.book).tl,IJ h.book,?_,?_,?_,h.bl,?_⟩
 ·have:=uL ah.no 1 17 n (λ_ _ _ _ h=>h) (λx hx=>by have:=zZ (o1 x hx);omega) (by decide);omega
 ·have:=uL ay.no 1 9 p2 (λ_ _ _ _ h=>h) (λx hx=>by have:=P8 (o2 x hx);omega) (by decide);omega
 ·have:=uL av.a 1 7 p3 (λ_ _ _ _ h=>h) (λx hx=>by have:=MV (o3 x hx);omega) (by decide);omega
 ·have hr:=λb d=>x8 (xM h.cL b d)
  have:=uL (λb:bn=>b.aO.kind*64+b.aO.who*3+b.aO.cur) 0 500 l.2.1.2 (λa e b d c=>by
   have:=hr a e;have:=hr b d
   rw[mM]at c;omega) (λx hx=>by have:=hr x hx;omega) (by decide)
  omega
 ·have hr:∀p∈s.ps,0<=p.key/\p.key<500:=λp hp=>by
   have:=q9.1 (i.1 p hp).1;unfold kq.key;omega
  have:=uL kq.key 0 500 i.2 (λ_ _ _ _ h=>h) hr (by decide);omega
 ·have hr:=λb d=>iP.1 (g.1 b d)
  have:=uL (λb:aq=>b.who*3+b.cur) 0 500 g.2 (λa e b d c=>by
   have:=hr a e;have:=hr b d
   simp only[bg,Bool.or_eq_true,dO,bP,gm]at c;omega) (λx hx=>by have:=hr x hx;omega) (by decide)
  omega
 ·have hr:∀x∈s.aM,1<=x.client/\x.client<=8:=λx hx=>by
   have:=j.1 x hx;simp only[fC,within,dO,bP]at this;omega
  have:=uL aS.client 1 9 j.2 (λa _ b _ c=>by simpa[dX]using c) (λx hx=>by have:=hr x hx;omega) (by decide);omega
structure au.E6(s:au):Prop where
 right:s.right
 last:s.cL.last<=1099511627776
 fit:∀x∈s.aM,x.r.fits
def Kc{n:Int}(h:bR n=true):fP n:=by
 rw[fY]at h;exact⟨by omega,by omega⟩
def au.right.gE{s:au}(h:s.right)(hla:s.cL.last<=1099511627776)(o:∀x∈s.aM,x.r.fits):s.gE:=by
 obtain⟨⟨o1,p1⟩,⟨o2,p2⟩,⟨o3,p3⟩⟩:=jj.1 h.aA;have c:=nQ.1 h.book;have q:=n9.1 h.cL;have p:=AH.1 h.ps;have n:=kr.1 h.calls;have t:=(vB (lt:=dX) Ev).1 h.aM;have hk:=h.K8;have n0:=c.n0;have n1:=c.n1;refine⟨⟨by omega,by omega⟩,⟨by omega,by omega⟩,⟨by omega,by omega⟩,λx hx=>?_,λx hx=>?_,λx hx=>?_,⟨by omega,by omega⟩,λx hx=>?_,λx hx=>?_,?_,λx hx=>?_,λx hx=>UZ (p.1 x hx),λx hx=>?_,λx hx=>?_,λx hx=>?_⟩
 ·have:=zZ (o1 x hx);exact⟨⟨by omega,by omega⟩,⟨by omega,by omega⟩,⟨by omega,by omega⟩⟩
 ·have:=o2 x hx;simp only[ay.ok,within,dO,bP]at this;have a:=λj=>wQ (o2 x hx) j;have e:=a 0;have d:=a 1;have b:=a 2;have g:=a 3;have i:=a 4;have l:=a 5;simp only[ay.sh]at e d b g i l;exact⟨⟨by omega,by omega⟩,⟨by omega,by omega⟩,⟨by omega,by omega⟩,⟨by omega,by omega⟩,⟨by omega,by omega⟩,⟨by omega,by omega⟩,⟨by omega,by omega⟩,⟨by omega,by omega⟩,⟨by omega,by omega⟩,⟨by omega,by omega⟩,⟨by omega,by omega⟩,⟨by omega,by omega⟩⟩
 ·have:=o3 x hx;simp only[av.ok,within,dO,bP]at this;exact⟨⟨by omega,by omega⟩,⟨by omega,by omega⟩,⟨by omega,by omega⟩,⟨by omega,by omega⟩⟩
 ·have:=c.tok x hx;simp only[fL,aR.okB,uJ,within,dO,jY,iX,bP]at this;exact⟨⟨by omega,by omega⟩,⟨by omega,by omega⟩,⟨by omega,by omega⟩,⟨by omega,by omega⟩,⟨by omega,by omega⟩,⟨by omega,by omega⟩⟩
 ·have:=uT.1 (c.ok x hx);exact⟨⟨by omega,by omega⟩,⟨by omega,by omega⟩,⟨by omega,by omega⟩,Kc this.2.2.2.1⟩
 ·exact⟨by omega,by omega⟩
 ·have d:=x8 (xM h.cL x hx);have b:=q.2.1.1 x hx;simp only[k8,dO]at b;simp only[bn.aO]at d;exact⟨⟨by omega,by omega⟩,⟨by omega,by omega⟩,⟨by omega,by omega⟩,Kc b.2.1⟩
 ·have:=iP.1 (n.1 x hx);exact⟨⟨by omega,by omega⟩,⟨by omega,by omega⟩,⟨by omega,by omega⟩,⟨by omega,by omega⟩⟩
 ·have:=h.bQ x hx;simp only[lQ,uJ,within,dO,bP]at this;exact⟨⟨by omega,by omega⟩,⟨by omega,by omega⟩,⟨by omega,by omega⟩,⟨by omega,by omega⟩,⟨by omega,by omega⟩⟩
 ·have:=t.1 x hx;simp only[fC,within,dO,bP]at this;exact⟨⟨by omega,by omega⟩,⟨by omega,by omega⟩,aI,aI,aI,aI,aI,o x hx⟩
def au.E6.good{s:au}(h:s.E6):s.good:=by
 have l:=h.right.lens;have h1:=l.ms;have h2:=l.ns;have h3:=l.xs;have h4:=l.ts;have h5:=l.qs;have h6:=l.bs;have h7:=l.ps;have h8:=l.calls;have h9:=l.bQ;have h10:=l.aM;exact⟨⟨⟨by omega,by omega,by omega⟩,⟨by omega,by omega⟩,by omega,by omega,by omega,by omega,by omega,h.fit⟩,h.right.gE h.last h.fit,by omega,by omega,by omega,by omega,by omega⟩
theorem HQ(r:aC)(w:Int)(h:r.jT)(g:r.okB=true)(l:kG r w=true):Sq 48 [] [.agg r.cells,.int .i64 w,.int .i64 2] [.own 3 ((ga r w 2).ms.map ah.cells)] (.bH [.agg [.ref 0,.sl 12 ((ga r w 2).ns.map ay.cells),.sl 4 ((ga r w 2).xs.map av.cells)],.int .i64 0]):=by
 obtain⟨x,hx,s⟩:=qd.1 l;have c:=(jj.1 g).1.2;have q:ni r w=x:=zX c hx s;obtain⟨k,p,a⟩:=getElem_of_mem hx;have b:∀i (h:i<k),(r.ms[i]'aj).no<(x.put 2).no:=λi n=>by
  have:=tN.1 c i k aj p n;rw[a]at this;exact this
 have u:ga r w 2=⟨r.ms.set k (x.put 2),r.ns,r.xs⟩:=by
  have e:tV r w 2=0:=by simp[tV,g,l,within]
  rw[ga,aE e,xd p (λj hj o he=>by have:=b j o;have:(x.put 2).no=x.no:=rfl;omega) (by rw[a];exact s),a]
 rw[u];have c1:=gF r h.small;have c2:=m7 r w h.small;have c3:=dV 2 1 3;have c4:=FM r h;have d:=sK r.ms (x.put 2) p b (by rw[a];rfl) h.1;rw[g]at c1;rw[q,l]at c2;rw[show within 2 1 3=true from rfl]at c3;obtain⟨M,t⟩:=aV ((r.ms.set k (x.put 2)).map ah.cells);rw[<-t]at d |-;simp only[if_true]at c1;simp only[aC.cells,ah.cells,ah.put]at c1 c2 c4 d |-;refine aX 43 3 [.cell 6 28,.tmp 7] mixed func48 ?_;refine sc aI c1 ?_;refine sc aI c2 ?_;refine sc aI c3 ?_;refine so aI c4 ?_;exact Yf [592] aI d
theorem FL(r:aC)(w:Int)(h:r.jT)(a:r.okB=true)(b:kG r w=true):Sq 48 [] [.agg r.cells,.int .i64 w,.int .i64 2] [] (.bH [.agg (ga r w 2).cells,.int .i64 0]):=by
 refine Spec.frozen (HQ r w h a b) [0] rfl ?_;intro r;rcases r with _|r<;>rfl
theorem yu:∀(l:List aq)(r:aC)(a b:List aq),(fc l (r,a)).1=(fc l (r,b)).1
 | [],_,_,_=>rfl
 |c::t,r,a,b=>yu t _ _ _
def GH(l:List aq)(c:aq):Bool:=l.any λx=>x.who==c.who
theorem zN(xs:List aq)(w:Int):bJ xs [w]=xs.filter λc=>!(c.who==w):=by
 induction xs with
 |nil=>rfl
 |cons x r ih =>
  rw[show bJ (x::r) [w]=(if n6 [w] x.who then[]else[x])++bJ r [w]from rfl,ih,Kb];by_cases q:x.who=w
  ·simp[q]
  ·have:(x.who==w)=false:=su q;simp[q,this]
theorem vg:∀(l:List aq)(r:aC)(a:List aq),(fc l (r,a)).2=a.filter λc=>!GH l c
 | [],_,a=>by
  rw[fc];exact(filter_eq_self.2 (by simp[GH])).symm
 |x::t,r,a=>by
  rw[fc,vg t];simp only[zN,filter_filter];congr 1;funext c;simp only[GH,any_cons,Bool.not_or];rw[Bool.and_comm,Bool.beq_comm]
def G4{r:aC}(n:Int)(xs:List aq):(fc (dR n xs) (r,fM n xs)).2=(fc (dR n xs) (r,xs)).2:=by
 rw[vg,vg];have b:fM n xs=xs.filter λc=>!decide (c.till<=n):=by
  induction xs with
  |nil=>rfl
  |cons x t ih =>
   rw[show fM n (x::t)=(if x.till<=n then[]else[x])++fM n t from rfl,ih];by_cases q:x.till<=n<;>simp[q]
 rw[b,filter_filter];refine filter_congr λc d=>?_;cases e:GH (dR n xs) c
 ·have:decide (c.till<=n)=false:=by
   refine kY λa=>?_;have:GH (dR n xs) c=true:=by
    refine any_eq_true.2 ⟨c,mem_flatMap.2 ⟨c,d,by rw[aE a];simp⟩,by simp⟩
   rw[e]at this;cases this
  simp[this]
 ·simp
theorem Gz(s:au)(n:Int)(hr:s.right)(E:s.small)(t:∀x∈s.aM,rq x)(hn:fP n):Sq 12 [] [.agg s.cells,.int .i64 n] [.own 3 ((eZ s n).map aB.cells)] (.bH [.agg (cy s n).cells,.ref 0,.int .i64 (gj s n)]):=by
 have c1:=iz s E;have q:=dh.2 hr;rw[q]at c1;simp only[if_true]at c1;have w:gj s n=if within n 1 1000 then(if 1099511627776<s.now+n then 1 else 0)else 3:=by rw[gj,q];rfl
 have hclk:=hr.K8;simp only[au.cells]at c1 |-;refine aX 91 2 [.cell 4 41,.tmp 5,.tmp 6] mixed func12 ?_;refine sc aI c1 ?_;by_cases w1:n<1
 ·have v:decide (n<1)=true:=gJ w1;have e:gj s n=3:=by rw[w,az];simp[within];omega
  have e2:cy s n=.zero:=by rw[cy,az aj]
  have g:eZ s n=[]:=by rw[eZ,az aj]
  rw[e,e2,g];simp only[go_sem,seval,v]<;>simp[au.zero,pl]
 have v:decide (n<1)=false:=kY w1;by_cases w2:1000<n
 ·have I:decide (1000<n)=true:=gJ w2;have e:gj s n=3:=by rw[w,az];simp[within];omega
  have e2:cy s n=.zero:=by rw[cy,az aj]
  have g:eZ s n=[]:=by rw[eZ,az aj]
  rw[e,e2,g];simp only[go_sem,seval,v,I]<;>simp[au.zero,pl]
 have I:decide (1000<n)=false:=kY w2;have G:IntKind.wrap .i64 (1099511627776-n)=1099511627776-n:=lF aj aj;by_cases w3:1099511627776-n<s.now
 ·have Q:decide (1099511627776-n<s.now)=true:=gJ w3;have e:gj s n=1:=by rw[w,aE (by simp[within];omega),aE aj]
  have e2:cy s n=.zero:=by rw[cy,az aj]
  have g:eZ s n=[]:=by rw[eZ,az aj]
  rw[e,e2,g];simp only[go_sem,seval,v,I,G,Q]<;>simp[au.zero,pl]
 have Q:decide (1099511627776-n<s.now)=false:=kY w3;have e:gj s n=0:=by rw[w,aE (by simp[within];omega),az aj]
 have c2:=qG s E t;have c3:=LA (s.now+n) s.calls E.calls;have e2:cy s n={ s with now:=s.now+n,aA:=(fc (dR (s.now+n) s.calls) (s.aA,fM (s.now+n) s.calls)).1,calls:=(fc (dR (s.now+n) s.calls) (s.aA,fM (s.now+n) s.calls)).2 }:=by
  rw[cy,aE e,G4,yu _ _ s.calls (fM (s.now+n) s.calls)]
 have g:eZ s n=(dR (s.now+n) s.calls).map aq.due:=by rw[eZ,aE e]
 have F:∀c∈dR (s.now+n) s.calls,cr s.aA c.who≠0:=λc o=>by
  obtain⟨x,hx,o⟩:=mem_flatMap.1 o;split at o
  ·obtain rfl:=kK.1 o;have:=hr.known.cs _ hx;omega
  ·cases o
 have Y:(dR (s.now+n) s.calls).length<=1*s.calls.length:=gB (λx=>by split<;>simp) _;have Z:(fM (s.now+n) s.calls).length<=1*s.calls.length:=gB (λx=>by split<;>simp) _;have hsc:=E.calls;have aa:=E.aA;rw[e,e2,g];obtain⟨l,C⟩:=aV (dR (s.now+n) s.calls);obtain⟨b,B⟩:=aV (fM (s.now+n) s.calls);obtain⟨N,J⟩:=aV (s.now+n);have ab:IntKind.wrap .i64 (s.now+n)=N:=by rw[J];exact lF aj aj
 rw[<-J]at c3 C B |-;rw[<-C,<-B]at c3;rw[<-J,<-C]at F Y;rw[<-J,<-B]at Z;rw[<-C,<-B];obtain⟨R,hR⟩:=aV (fc l (s.aA,b));rw[<-hR];simp only[au.cells,aC.cells]at c2 |-;clear w q e e2 g c1 C B w1 w2 w3;refine sc (a5 v I G Q ab) c2 ?_;refine sc aI c3 ?_;refine bG ?_;refine aF.mN (S:=aC×List aq) l.length [4,8,55,56] [80,848,912] (λi x=>[(57,.int .i64 i),(11,.ref 1056),(10,.sl 4 (x.2.map aq.cells))])
  (λi x=>[(1056,.own 3 (((l.take i).map aq.due).map aB.cells)),(144,.box [.int .i64 N,.int .i64 s.day,.int .i64 s.phase,.sl 3 (x.1.ms.map ah.cells),.sl 12 (x.1.ns.map ay.cells),.sl 4 (x.1.xs.map av.cells),.int .i64 s.book.next,.sl 7 (s.book.ts.map aR.cells),.sl 4 (s.book.qs.map aN.cells),.int .i64 s.cL.last,.sl 4 (s.cL.bs.map bn.cells),.sl 3 (pl s.ps),.sl 4 (s.calls.map aq.cells),.sl 5 (s.bQ.map iW.cells),.sl 7 (s.aM.map aS.cells)])])
  (λi x=>fc (l.drop i) x=R/\x.1.jT/\x.2.length<2^30/\x.1.okB=true/\∀c∈l.drop i,cr x.1 c.who≠0) (s.aA,b) ⟨hR.symm,aa,by show b.length<2^30;omega,hr.aA,F⟩ ?_ ?_ ?_
 ·simp only[go_sem,seval]<;>simp
 ·intro i x K U ac T;obtain⟨r,cs⟩:=x;obtain⟨d,i2,i3,L,H⟩:=T;simp only at i2 i3 L;obtain⟨y,hy,hm,hli⟩:=uy (c:=aq.cells) l K;rw[drop_eq_getElem_cons K]at d H;have u:=H _ (mem_cons_self ..);have a:((l.take (i+1)).map aq.due).map aB.cells=((l.take i).map aq.due).map aB.cells++[aB.cells l[i].due]:=by rw[kM K,jH,jH];rfl
  have V:(((l.take i).map aq.due).map aB.cells).length=i:=by simp;omega
  rw[<-hy]at d H u a;obtain⟨O,hO⟩:=aV (((l.take i).map aq.due).map aB.cells);rw[<-hO]at a V |-;have c4:=F6 cs [y.who] i3 (by simp);have M:=FL r y.who i2 L ((JE L).1 u);have D:=xT L u (p:=2) aj;obtain⟨p1,p2,_⟩:=FA D;simp only[fc]at d;have j:fc (l.drop (i+1)) (ga r y.who 2,bJ cs [y.who])=R/\(ga r y.who 2).jT/\(bJ cs [y.who]).length<2^30/\(ga r y.who 2).okB=true/\∀c∈l.drop (i+1),cr (ga r y.who 2) c.who≠0:=
   ⟨d,xV i2 _ _,Nat.lt_of_le_of_lt (rB _ _) i3,p1,λc o=>by
    rw[p2];split
    ·decide
    ·exact H c (mem_cons_of_mem _ o)⟩
  simp only[aq.cells]at hm;simp only[ints,map_cons,map_nil,aC.cells]at c4 M;simp only[aq.due,aB.cells]at a;obtain⟨W,hW⟩:=aV (bJ cs [y.who]);obtain⟨P,hP⟩:=aV (ga r y.who 2);rw[<-hW]at c4 j;rw[<-hP]at M j;clear hy hO hW hP d H p1 p2 D;simp only[go_sem,seval,U,hm];refine bG ?_;refine ak.fk [1136] [] false (by simp) ?_;simp only[go_sem,seval];refine bX.fV c4 ?_;refine sc ac M ?_;refine bG ?_;refine af.jz (P,W) K ?_ ?_
  ·exact j
  simp only[go_sem,seval,a]
 ·intro x X T;obtain⟨r,cs⟩:=x;obtain⟨d,_⟩:=T;rw[mT]at d;simp only[fc]at d;rw[<-d];simp only[go_sem,seval,X,ef]
theorem EW(s:au)(n:Int)(hr:s.right)(c:s.small)(a:∀x∈s.aM,rq x)(b:fP n):Sq 12 [] [.agg s.cells,.int .i64 n] [] (.bH [.agg (cy s n).cells,.sl 3 ((eZ s n).map aB.cells),.int .i64 (gj s n)]):=by
 refine Spec.frozen (Gz s n hr c a b) [0] rfl ?_;intro r;rcases r with _|r<;>rfl
end Go.Proofs.YtbfilfeggodcjaaGreat
namespace Go.Abs
def F8(a:List D):Prop:=∀h∈a,gY h
theorem VG:F8 []=True:=eq_true λ_ h=>by cases h
theorem SY(h:D)(t:List D):F8 (h::t)=(gY h/\F8 t):=by simp[F8]
theorem bX.xH{P:Program}{e:Env}{d:Nat}{f:Operand}{args:List Operand}{K:Env->Prop}{gs:List Nat}{bw:Bool}{k:FuncId}{b ds g a:List D}{c:D}(h:Abs.Spec P k g ds a c)
  (i:pE gs/\CR e gs/\yZ e (lm (iA d 0 (a.length-gs.length)))/\gs.length<=a.length/\a.length<=gs.length+16/\(bw=true->mC c/\F8 a)/\Pe e d K gs a c (lm (dj d gs a))) :
  bX P e d f args K gs bw (.fn k b) ds g:=bX.fV h i
attribute [go_sem ↓] VG SY
end Go.Abs
namespace Go.Proofs.YtbfilfeggodcjaaGreat
open Go.Abs Tryz
open List hiding le lt min
theorem UI(l:List ah):gY (.own 3 (l.map ah.cells))=True:=eq_true λr hr d a=>by
 obtain⟨x,_,rfl⟩:=mem_map.1 hr;simp only[ah.cells,mem_cons,not_mem_nil,or_false]at a;rcases a with rfl|rfl|rfl<;>trivial
theorem aar(l:List ay):gY (.own 12 (l.map ay.cells))=True:=eq_true λr hr d a=>by
 obtain⟨x,_,rfl⟩:=mem_map.1 hr;simp only[ay.cells,mem_cons,not_mem_nil,or_false]at a;rcases a with rfl|rfl|rfl|rfl|rfl|rfl|rfl|rfl|rfl|rfl|rfl|rfl<;>trivial
theorem XA(l:List av):gY (.own 4 (l.map av.cells))=True:=eq_true λr hr d a=>by
 obtain⟨x,_,rfl⟩:=mem_map.1 hr;simp only[av.cells,mem_cons,not_mem_nil,or_false]at a;rcases a with rfl|rfl|rfl|rfl<;>trivial
theorem ac1(l:List aN):gY (.own 4 (l.map aN.cells))=True:=eq_true λr hr d a=>by
 obtain⟨x,_,rfl⟩:=mem_map.1 hr;simp only[aN.cells,mem_cons,not_mem_nil,or_false]at a;rcases a with rfl|rfl|rfl|rfl<;>trivial
theorem aaq(l:List aq):gY (.own 4 (l.map aq.cells))=True:=eq_true λr hr d a=>by
 obtain⟨x,_,rfl⟩:=mem_map.1 hr;simp only[aq.cells,mem_cons,not_mem_nil,or_false]at a;rcases a with rfl|rfl|rfl|rfl<;>trivial
theorem Zi(l:List aS):yC (.iI 7 (l.map aS.cells))=.sl 7 (l.map aS.cells):=aE (by
 rw[cR];intro r hr;obtain⟨x,_,rfl⟩:=mem_map.1 hr
 simp[aS.cells,v8,D.names])
def QW(l:List aS):∀row∈l.map aS.cells,∀d∈row,Qb d:=by
 intro row hr d a;obtain⟨x,_,rfl⟩:=mem_map.1 hr;simp only[aS.cells,gT.cells,cons_append,nil_append,mem_cons,not_mem_nil,or_false]at a;rcases a with rfl|rfl|rfl|rfl|rfl|rfl|rfl<;>trivial
def Zx(l:List aB):∀row∈l.map aB.cells,∀d∈row,At d:=by
 intro row hr d a;obtain⟨x,_,rfl⟩:=mem_map.1 hr;simp only[aB.cells,mem_cons,not_mem_nil,or_false]at a;rcases a with rfl|rfl|rfl<;>trivial
def T7(l:List dZ):∀row∈l.map dZ.cells,∀d∈row,At d:=by
 intro row hr d a;obtain⟨x,_,rfl⟩:=mem_map.1 hr;simp only[dZ.cells,mem_cons,not_mem_nil,or_false]at a;rcases a with rfl|rfl|rfl|rfl|rfl|rfl|rfl|rfl<;>trivial
attribute [go_sem ↓] UI aar XA ac1 aaq Zi
def CY(xs:List aB)(hl:24*xs.length<=140737488355328):Sq 73 [] [.sl 3 (xs.map aB.cells)] [.own 3 (xs.map aB.cells)] (.ref 0):=by
 refine aX 8 1 [.tmp 2] mixed func73 ?_;refine s0 ?_;refine bO.qg Q9 rfl aj ?_;intro b a;repeat' with_reducible first|apply And.intro|exact .dq|refine ak.aH (by assumption) ?_|refine gr (λh=>?_) λh=>?_|refine .id ?_|refine af.bF aj ?_ ?_|exact aI|simp only[*,go_sem,seval,mY]
 all_goals first
  |omega
  | (rw[a (by assumption)])
  |skip
def AK(xs:List dZ)(hl:64*xs.length<=140737488355328):Sq 182 [] [.sl 8 (xs.map dZ.cells)] [.own 8 (xs.map dZ.cells)] (.ref 0):=by
 refine aX 8 1 [.tmp 2] mixed func182 ?_;refine s0 ?_;refine bO.qg abv rfl aj ?_;intro b a;repeat' with_reducible first|apply And.intro|exact .dq|refine ak.aH (by assumption) ?_|refine gr (λh=>?_) λh=>?_|refine .id ?_|refine af.bF aj ?_ ?_|exact aI|simp only[*,go_sem,seval,mY]
 all_goals first
  |omega
  | (rw[a (by assumption)])
  |skip
def AN(l:List aS)(hl:l.length<2^30)(u:∀x∈l,x.r.fits):Sq 93 [] [.sl 7 (l.map aS.cells)] [.iI 7 (l.map aS.cells)] (.ref 0):=by
 refine aX 30 1 [.tmp 2] mixed func93 ?_;refine s0 ?_;refine bG ?_;refine aF.wv l.length [6,7] [128] (λi=>[(8,.I i),(3,.ref 448)]) (λi=>[(448,.iI 7 ((l.take i).map aS.cells))]) ?_ ?_ ?_
 ·exact lA
 ·intro i _ g j p _;obtain⟨x,hx,hm,hli⟩:=uy (c:=aS.cells) l g;obtain⟨b,t⟩:=u _ (cZ g);have a:(l.take (i+1)).map aS.cells=(l.take i).map aS.cells++[aS.cells l[i]]:=by rw[kM g,jH];rfl
  have o:((l.take i).map aS.cells).length=i:=by simp;omega
  have q:=QW (l.take i);rw[<-hx]at b t a;have c1:=CY x.r.xC b;have c2:=AK x.r.falls t;obtain⟨O,s⟩:=aV ((l.take i).map aS.cells);rw[<-s]at a o q |-;simp only[aS.cells]at hm a;clear hx s u;refine so (a2 j hm) c1 ?_;refine so aI c2 ?_;refine bG ?_;with_reducible refine bO.PT (z:=7) (zc:=[.I 0,.I 0,.I 0,.I 0,.I 0,.nil,.nil]) (cs:=[.I x.client,.I x.seq,.I x.r.code,.I x.r.no,.I x.r.cw,.ref 256,.ref 320]) Vx (by simp only[go_sem,seval]) ?_ ?_ (by decide) ?_ (by decide) ?_ ?_
  ·rfl
  ·rfl
  ·refine⟨rfl,by decide,?_,aI⟩;intro c e;have e:c∈([.I x.client,.I x.seq,.I x.r.code,.I x.r.no,.I x.r.cw,.ref 256,.ref 320]:List D):=e;simp only[mem_cons,not_mem_nil,or_false]at e;rcases e with rfl|rfl|rfl|rfl|rfl|rfl|rfl<;>trivial
  ·rfl
  refine s0 ?_;refine bG ?_;with_reducible refine bO.II (r:=448) (rows:=O) (N:=432) (c2:=1) (cs:=[.I x.client,.I x.seq,.I x.r.code,.I x.r.no,.I x.r.cw,.ref 256,.ref 320]) Vx Vx ?_ ?_ ?_ ?_ rfl q ?_ ?_ (by decide) (by decide) ?_ ?_ ?_
  ·rfl
  ·rfl
  ·rfl
  ·rfl
  ·intro d b;simp only[mem_cons,not_mem_nil,or_false]at b;rcases b with rfl|rfl|rfl|rfl|rfl|rfl|rfl
   ·trivial
   ·trivial
   ·trivial
   ·trivial
   ·trivial
   ·exact⟨3,_,rfl,Zx _⟩
   ·exact⟨8,_,rfl,T7 _⟩
  ·simp only[go_sem,seval]<;>decide
  ·omega
  ·exact iM
  simp only[go_sem,seval,Ic,p];refine bG ?_;refine af.v g ?_;exact dJ a
 ·intro _ n _;simp only[go_sem,seval,n,ef]
def qJ(s:au):List D:=[.own 3 (s.aA.ms.map ah.cells),.own 12 (s.aA.ns.map ay.cells),.own 4 (s.aA.xs.map av.cells),.own 7 (s.book.ts.map aR.cells),.own 4 (s.book.qs.map aN.cells),.own 4 (s.cL.bs.map bn.cells),.own 3 (pl s.ps),.own 4 (s.calls.map aq.cells),.own 5 (s.bQ.map iW.cells),.iI 7 (s.aM.map aS.cells)]
def oH(s:au)(h:s.small)(n:∀x∈s.aM,x.r.fits):Sq 29 [] [.agg s.cells] (qJ s) (.agg (fE s)):=by
 obtain⟨i,j,l⟩:=h.aA;have c1:=jV s.aA.ms i;have c2:=mw s.aA.ns j;have c3:=nW s.aA.xs l;have c4:=nX s.book.ts h.book.1;have b:=qE s.book.qs h.book.2;have c:=pV s.cL.bs h.cL;have d:=AM s.ps h.ps;have e:=o8 s.calls h.calls;have g:=vD s.bQ h.bQ;have a:=AN s.aM h.aM n;simp only[au.cells,qJ,fE];refine aX 56 1 [.cell 2 41] mixed func29 ?_;refine so aI c1 ?_;refine so aI c2 ?_;refine so aI c3 ?_;refine so aI c4 ?_;refine so aI b ?_;refine so aI c ?_;refine so aI d ?_;refine so aI e ?_;refine so aI g ?_;exact Vs aI a
def ur(r:aC)(h:r.jT):Sq 97 [] [.agg r.cells] [.own 3 (r.ms.map ah.cells),.own 12 (r.ns.map ay.cells),.own 4 (r.xs.map av.cells)] (.agg [.ref 0,.ref 1,.ref 2]):=by
 obtain⟨a,b,c⟩:=h;have c1:=jV r.ms a;have c2:=mw r.ns b;have c3:=nW r.xs c;simp only[aC.cells];refine aX 13 1 [.cell 2 28] mixed func97 ?_;refine so aI c1 ?_;refine so aI c2 ?_;exact Vs aI c3
theorem ac0(l:List aJ):gY (.own 4 (l.map aJ.cells))=True:=eq_true λr hr d a=>by
 obtain⟨x,_,rfl⟩:=mem_map.1 hr;simp only[aJ.cells,mem_cons,not_mem_nil,or_false]at a;rcases a with rfl|rfl|rfl|rfl<;>trivial
attribute [go_sem ↓] ac0
theorem Mo(r:aC)(h:r.jT):Sq 31 [] [.agg r.cells] [.own 3 (r.ms.map ah.cells),.own 12 (r.ns.map ay.fm |>.map ay.cells),.own 4 (r.xs.map av.cells)] (.agg [.ref 0,.ref 1,.ref 2]):=by
 have c4:=ur r h;have hl:=h.2.1;simp only[aC.cells]at c4 |-;refine aX 37 1 [.cell 2 28] mixed func31 ?_;simp only[go_sem,seval];refine so aI c4 ?_;(with_reducible and_intros)<;>first|exact .dq|omega|skip
 refine aF.wv r.ns.length [1,2,8] [48] (λi=>[(9,.int .i64 i)]) (λi=>[(32,.box [.ref 96,.ref 336,.ref 98]),(96,.own 3 (r.ms.map ah.cells)),(98,.own 4 (r.xs.map av.cells)),(336,.own 12 ((lI ay.fm r.ns i).map ay.cells))]) ?_ ?_ ?_
 ·simp only[go_sem,seval,xP]<;>simp
 ·intro i _ e o j _;have b:=og ay.fm r.ns i;have hi2:i<(lI ay.fm r.ns i).length:=aj
  have hm:=aP (c:=ay.cells) (lI ay.fm r.ns i) hi2;have n:=z6 ay.fm e;have d:=vZ ay.fm e;have a:=xO ay.fm e;have hli:(i:Int)<(r.ns.length:Int):=aj
  obtain⟨x,hx⟩:=aV (r.ns[i]);rw[n]at hm;rw[<-hx]at hm d a;obtain⟨M,q⟩:=aV (lI ay.fm r.ns i);rw[<-q]at hm d a b |-;simp only[ay.cells]at hm;simp only[go_sem,seval,b,o,hm];(with_reducible and_intros)<;>first|exact .dq|omega|skip
  cases l:x.set==0
  ·have d:M.set i { x with cH:=x.set,set:=0 }=lI ay.fm r.ns (i+1):=by rw[<-d];simp only[ay.fm,l];rfl
   have g:∀Z,((M.map ay.cells).set i Z).getD i []=Z:=λZ=>by simp[b,e]
   simp only[go_sem,seval,bne,l,b,hm,j,g];(with_reducible and_intros)<;>first|exact .dq|omega|skip
   all_goals first
    | (simp only[length_set,mY];omega)
    | (refine af.v e ?_
       simp only[go_sem,seval,<-d,map_set,set_set,g])
  ·have a:=a (by simp[ay.fm,l]);simp only[go_sem,seval,bne,l,j];refine af.v e ?_;simp only[go_sem,seval,a]
 ·intro _ p _;have b:=og ay.fm r.ns r.ns.length;simp only[go_sem,seval,b,p,BC]
theorem FK(r:aC)(w:Int)(h:r.jT)(g:r.okB=true)(l:kG r w=true):Sq 48 [] [.agg r.cells,.int .i64 w,.int .i64 2] [.own 3 ((ga r w 2).ms.map ah.cells),.own 12 ((ga r w 2).ns.map ay.cells),.own 4 ((ga r w 2).xs.map av.cells)] (.bH [.agg [.ref 0,.ref 1,.ref 2],.int .i64 0]):=by
 obtain⟨x,hx,s⟩:=qd.1 l;have c:=(jj.1 g).1.2;have q:ni r w=x:=zX c hx s;obtain⟨k,p,a⟩:=getElem_of_mem hx;have b:∀i (h:i<k),(r.ms[i]'aj).no<(x.put 2).no:=λi n=>by
  have:=tN.1 c i k aj p n;rw[a]at this;exact this
 have u:ga r w 2=⟨r.ms.set k (x.put 2),r.ns,r.xs⟩:=by
  have e:tV r w 2=0:=by simp[tV,g,l,within]
  rw[ga,aE e,xd p (λj hj o he=>by have:=b j o;have:(x.put 2).no=x.no:=rfl;omega) (by rw[a];exact s),a]
 rw[u];have c1:=gF r h.small;have c2:=m7 r w h.small;have c3:=dV 2 1 3;have c4:=ur r h;have d:=sK r.ms (x.put 2) p b (by rw[a];rfl) h.1;rw[g]at c1;rw[q,l]at c2;rw[show within 2 1 3=true from rfl]at c3;obtain⟨M,t⟩:=aV ((r.ms.set k (x.put 2)).map ah.cells);rw[<-t]at d |-;simp only[if_true]at c1;simp only[aC.cells,ah.cells,ah.put]at c1 c2 c4 d |-;refine aX 43 3 [.cell 6 28,.tmp 7] mixed func48 ?_;refine sc aI c1 ?_;refine sc aI c2 ?_;refine sc aI c3 ?_;refine so aI c4 ?_;exact Yf [592] aI d
theorem CV(b:bI)(h:b.small):Sq 44 [] [.agg b.cells] [.own 7 [],.own 4 (b.qs.map aN.cells)] (.agg [.int .i64 b.next,.ref 0,.ref 1]):=by
 have c1:Sq 135 [] [.agg b.cells] [.own 7 (b.ts.map aR.cells),.own 4 (b.qs.map aN.cells)] (.agg [.I b.next,.ref 0,.ref 1]):=by
  have c1:=nX b.ts h.1;have c2:=qE b.qs h.2;simp only[bI.cells];refine aX 12 1 [.cell 2 32] mixed func135 ?_;refine so aI c1 ?_;exact Vs aI c2
 simp only[bI.cells]at c1 |-;refine aX 7 1 [.cell 2 32] mixed func44 ?_;exact Vs aI c1
theorem Gl(xs:List aq)(d:aB)(a:Int)(i:xs.length<2^29):Sq 40 [] [.sl 4 (xs.map aq.cells),.agg d.cells,.int .i64 a] [.own 4 ((tO xs d a).map aq.cells)] (.bH [.ref 0,.int .i64 (oZ xs d a)]):=by
 have c1:=AE xs d a aj;simp only[aB.cells]at c1 |-;refine aX 20 3 [.tmp 6,.tmp 7] mixed func40 ?_;by_cases h:oZ xs d a=0
 ·obtain⟨c,e,g⟩:=PR h;have c2:=Gn xs d a i c e g;simp only[aB.cells]at c2;rw[show tO xs d a=pI xs (xW xs d a) 16 from aE h,h];rw[h]at c1;refine sc aI c1 ?_;exact Vs aI c2
 ·have b:(oZ xs d a==0)=false:=su h;rw[show tO xs d a=[]from az h];refine sc aI c1 ?_;exact lG (a2 lH b)
def bS.lo(l:bS):Prop:=l.last<=1099511627776
theorem Hh{s:au}{w:Int}:∀(m c:Nat)(x:List aq×List aB),(kF s w m c x).1.2.length<=x.2.length+m
 | 0,_,_=>cX _
 |m+1,c,x=>by
  simp only[kF];split
  ·refine Nat.le_trans (Hh m _ _) ?_;simp only[cT];have:(uR w c (Ex s w c)).length<=1:=by unfold uR;split<;>simp
   omega
  ·dsimp only;omega
theorem Ec{s:au}:∀(a:List Int)(x:List aq×List aB),(mZ s a x).1.2.length<=x.2.length+3*a.length
 | [],_=>cX _
 |w::r,x=>by
  have h1:=Hh (s:=s) (w:=w) 3 0 x;simp only[mZ,length_cons];split
  ·have h2:=Ec (s:=s) r (kF s w 3 0 x).1;omega
  ·omega
structure aeI(x:au×List Int)(i:Nat):Prop where
 E6:x.1.E6
 len:x.2.length=9
 num:∀v∈x.2,0<=v/\v<=i
