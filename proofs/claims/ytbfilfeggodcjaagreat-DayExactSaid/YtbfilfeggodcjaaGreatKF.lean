/- Parts. -/
import Derived.Test.YtbfilfeggodcjaaGreatKE
set_option linter.all false
set_option maxHeartbeats 4000000
set_option maxRecDepth 16000
namespace Go.Proofs.YtbfilfeggodcjaaGreat
open Go.Abs Tryz
def Na{A:Type}{xs a:List A}(d:xs.length=a.length)(h:∀j (b:j<xs.length) (c:j<a.length),j<xs.length->xs[j]=a[j]):xs=a:=List.ext_getElem d λj b c=>h j b c b
def PY{A:Type}{xs c:List A}{i:Nat}(f:∀j (d:j<xs.length) (e:j<c.length),j<i->xs[j]=c[j])(d:i<xs.length)(e:i<c.length)(g:xs[i]=c[i]):∀j (d:j<xs.length) (e:j<c.length),j<i+1->xs[j]=c[j]:=by
 intro j a b hj;rcases cq j i with h|h
 ·exact f j a b h
 ·obtain rfl:j=i:=aj
  exact g
def NC{A:Type}{W E:Prop}{C:A->A->Prop}{ms:List A}(t o:List Nat)(k:Nat)(c:A->List D)(e:E)(g:∀x,x∈ms->∀y,C x y)
  (h:Tg t o k->E->(∀x,x∈ms->∀y,C x y)->(∀(l:List A)(i:Nat)(h:i<l.length),(l.map c).getD i []=c l[i])->W:=by
 intro z w g r;try simp only[go_sem,seval]
 by_cases a:xs.length=ys.length
 case neg =>
  have b:((xs.length:Int)==(ys.length:Int))=false:=by rw[beq_eq_false_iff_ne];omega
  have e:decide (xs=ys)=false:=kY λh=>a (by rw[h]);exact dJ (a3 lH b e)
 have b:((xs.length:Int)==(ys.length:Int))=true:=by rw[gm];omega
 refine sm (a2 lH b) ?_;refine aF.wt z xs.length (λi _=>∀j (h1:j<xs.length) (h2:j<ys.length),j<i->xs[j]=ys[j]) (by intros;omega) ?_ ?_
 ·intro i _ m p hw n;have hi2:i<ys.length:=aj
  have d:=r xs i m;have f:=r ys i hi2;have e0:=PY n m hi2;have e1:xs[i]≠ys[i]->decide (xs=ys)=false:=λh=>kY λe=>h (by subst e;rfl);have hl1:(i:Int)<(xs.length:Int):=aj
  have hl2:(i:Int)<(ys.length:Int):=aj
  have g:=g xs[i] (cZ m) ys[i];obtain⟨x,s⟩:=aV xs[i];obtain⟨y,v⟩:=aV ys[i];rw[<-s]at d e0 e1;rw[<-v]at f e0 e1;try rw[<-s,<-v]at g
  simp only[w]at d f g;clear s v n a r w;refine sm (a3 p d f) ?_;repeat' with_reducible first|apply And.intro|exact .dq|refine ak.aH (by assumption) ?_|refine ak.aH (g) ?_|refine gr (λh=>?_) λh=>?_|refine .id ?_|refine af.bF aj ?_ ?_|exact aI|simp only[*,go_sem,seval,d,f]
  all_goals first
   |omega
   | (refine af.u m (e0 ?_) ?_
      ·clear e0 e1;cases x;cases y;simp_all;done
      ·simp only[go_sem,seval])
   | (rw[e1 ?_];clear e0 e1;cases x;cases y;simp_all;done)
   | (obtain ⟨x1,x2,⟨x3,x4,x5,x6,x7⟩⟩:=x
      obtain⟨y1,y2,⟨y3,y4,y5,y6,y7⟩⟩:=y;first
      | (refine af.u m (e0 ?_) ?_
         ·clear e0 e1;simp_all;done
         ·simp only[go_sem,seval])
      | (rw[e1 ?_];clear e0 e1;simp_all;done))
 ·intro _ q n;have e:decide (xs=ys)=true:=gJ (Na a n)
  simp only[go_sem,seval,q,e]):W:=h ⟨⟩ e g λ_ _ h=>aP _ h
theorem Bj(a b:aG):Sq 151 [] [.agg a.cells,.agg b.cells] [] (.bool (decide (a=b))):=by
 have h:=C7 a b;have e:a.same b=decide (a=b):=by rw[gI,wO];cases a;cases b;simp
 rwa[e]at h
theorem vS(a b:aB):Sq 61 [] [.agg a.cells,.agg b.cells] [] (.bool (decide (a=b))):=by
 simp only[aB.cells];refine aX 24 2 [.tmp 4] mixed func61 ?_;simp only[go_sem,seval];repeat' with_reducible first|apply And.intro|exact .dq|refine ak.aH (by assumption) ?_|refine gr (λh=>?_) λh=>?_|refine .id ?_|refine af.bF aj ?_ ?_|exact aI|simp only[*,go_sem,seval]
 all_goals(rw[gI];cases a;cases b;simp_all)
theorem Bk(a b:av):Sq 228 [] [.agg a.cells,.agg b.cells] [] (.bool (decide (a=b))):=by
 simp only[av.cells];refine aX 31 2 [.tmp 4] mixed func228 ?_;simp only[go_sem,seval];repeat' with_reducible first|apply And.intro|exact .dq|refine ak.aH (by assumption) ?_|refine gr (λh=>?_) λh=>?_|refine .id ?_|refine af.bF aj ?_ ?_|exact aI|simp only[*,go_sem,seval]
 all_goals(rw[gI];cases a;cases b;simp_all)
theorem vT(a b c d:Int):Sq 152 [] [.agg [.int .i64 a,.int .i64 b],.agg [.int .i64 c,.int .i64 d]] [] (.bool (decide (a=c/\b=d))):=by
 refine aX 17 2 [.tmp 4] mixed func152 ?_;simp only[go_sem,seval];repeat' with_reducible first|apply And.intro|exact .dq|refine ak.aH (by assumption) ?_|refine gr (λh=>?_) λh=>?_|refine .id ?_|refine af.bF aj ?_ ?_|exact aI|simp only[*,go_sem,seval]
 all_goals(rw[gI];simp_all)
theorem Fg(a b:aN):Sq 229 [] [.agg a.cells,.agg b.cells] [] (.bool (decide (a=b))):=by
 have h:=vT a.who a.inst b.who b.inst;simp only[aN.cells];refine aX 24 2 [.tmp 4] mixed func229 ?_;simp only[go_sem,seval];repeat' with_reducible first|apply And.intro|exact .dq|refine ak.aH (by assumption) ?_|refine ak.aH (h) ?_|refine gr (λh=>?_) λh=>?_|refine .id ?_|refine af.bF aj ?_ ?_|exact aI|simp only[*,go_sem,seval]
 all_goals(rw[gI];cases a;cases b;simp_all)
theorem Bm(a b c d e f:Int):Sq 53 [] [.agg [.int .i64 a,.int .i64 b,.int .i64 c],.agg [.int .i64 d,.int .i64 e,.int .i64 f]] [] (.bool (decide (a=d/\b=e/\c=f))):=by
 refine aX 24 2 [.tmp 4] mixed func53 ?_;simp only[go_sem,seval];repeat' with_reducible first|apply And.intro|exact .dq|refine ak.aH (by assumption) ?_|refine gr (λh=>?_) λh=>?_|refine .id ?_|refine af.bF aj ?_ ?_|exact aI|simp only[*,go_sem,seval]
 all_goals(rw[gI];simp_all)
def Nx{a b:ay}:a=b↔(∀j<6,a.sh j=b.sh j)/\a.no=b.no/\a.cur=b.cur/\a.mult=b.mult/\a.add=b.add/\a.set=b.set/\a.cH=b.cH:=by
 constructor
 ·rintro rfl;simp
 ·rintro⟨h,h1,h2,h3,h4,h5,h6⟩;have s0:=h 0 aj;have s1:=h 1 aj;have s2:=h 2 aj;have s3:=h 3 aj;have s4:=h 4 aj;have s5:=h 5 aj;cases a;cases b;simp only[ay.sh]at s0 s1 s2 s3 s4 s5
  simp_all
theorem Kf(x:ay){i:Nat}(h:i<6):(List.drop (6+i*1) x.cells).headD .undef=.int .i64 (x.sh i):=by
 rcases i with _| _| _| _| _| _|i<;>first|rfl|omega
theorem Db(a b:ay):Sq 227 [] [.agg a.cells,.agg b.cells] [] (.bool (decide (a=b))):=by
 simp only[ay.cells];refine aX 59 2 [.tmp 4] mixed func227 ?_;simp only[go_sem,seval];refine aF.w1 6 5 [2,3] [48,64] (λi _=>∀j<i,a.sh j=b.sh j) (by intros;omega) ?_ ?_
 ·intro i _ k c o g;have c:decide ((i:Int)<6)=true:=c;have l:=Kf a k;have m:=Kf b k;simp only[ay.cells]at l m;simp only[go_sem,seval,c,l,m];refine bG ?_;cases f:a.sh i==b.sh i
  ·have n:decide (a=b)=false:=kY λh=>by rw[h]at f;simp at f
   simp only[go_sem,seval,bne,f,n]
  ·simp only[go_sem,seval,bne,f,o];refine af.u k ?_ ?_
   ·intro j hj;rcases cq j i with h|h
    ·exact g j h
    ·obtain rfl:j=i:=aj
     simpa using f
   ·simp only[go_sem,seval]
 ·intro _ d g;have d:decide ((6:Int)<6)=false:=d;have e:decide (a=b)=decide (a.no=b.no/\a.cur=b.cur/\a.mult=b.mult/\a.add=b.add/\a.set=b.set/\a.cH=b.cH):=by
   rw[gI,decide_eq_true_iff,decide_eq_true_iff,Nx];exact⟨λh=>h.2,λh=>⟨g,h⟩⟩
  rw[e];clear e g;simp only[go_sem,seval,d];repeat' with_reducible first|apply And.intro|exact .dq|refine ak.aH (by assumption) ?_|refine gr (λh=>?_) λh=>?_|refine .id ?_|refine af.bF aj ?_ ?_|exact aI|simp only[*,go_sem,seval]
  all_goals(rw[gI];simp_all)
def dZ.ch(x:dZ):Nat->Int
 | 0=>x.c0| 1=>x.c1| 2=>x.c2| 3=>x.c3| _=>x.c4
def Nc{a b:dZ}:a=b↔(∀j<5,a.ch j=b.ch j)/\a.cur=b.cur/\a.LJ=b.LJ/\a.rest=b.rest:=by
 constructor
 ·rintro rfl;simp
 ·rintro⟨h,h1,h2,h3⟩;have s0:=h 0 aj;have s1:=h 1 aj;have s2:=h 2 aj;have s3:=h 3 aj;have s4:=h 4 aj;cases a;cases b;simp only[dZ.ch]at s0 s1 s2 s3 s4
  simp_all
theorem J6(x:dZ){i:Nat}(h:i<5):(List.drop (2+i*1) x.cells).headD .undef=.int .i64 (x.ch i):=by
 rcases i with _| _| _| _| _|i<;>first|rfl|omega
theorem Da(a b:dZ):Sq 249 [] [.agg a.cells,.agg b.cells] [] (.bool (decide (a=b))):=by
 simp only[dZ.cells];refine aX 38 2 [.tmp 4] mixed func249 ?_;simp only[go_sem,seval];refine aF.w1 5 5 [2,3] [48,64] (λi _=>∀j<i,a.ch j=b.ch j) (by intros;omega) ?_ ?_
 ·intro i _ k c o g;have c:decide ((i:Int)<5)=true:=c;have l:=J6 a k;have m:=J6 b k;simp only[dZ.cells]at l m;simp only[go_sem,seval,c,l,m];refine bG ?_;cases f:a.ch i==b.ch i
  ·have n:decide (a=b)=false:=kY λh=>by rw[h]at f;simp at f
   simp only[go_sem,seval,bne,f,n]
  ·simp only[go_sem,seval,bne,f,o];refine af.u k ?_ ?_
   ·intro j hj;rcases cq j i with h|h
    ·exact g j h
    ·obtain rfl:j=i:=aj
     simpa using f
   ·simp only[go_sem,seval]
 ·intro _ d g;have d:decide ((5:Int)<5)=false:=d;have e:decide (a=b)=decide (a.cur=b.cur/\a.LJ=b.LJ/\a.rest=b.rest):=by
   rw[gI,decide_eq_true_iff,decide_eq_true_iff,Nc];exact⟨λh=>h.2,λh=>⟨g,h⟩⟩
  rw[e];clear e g;simp only[go_sem,seval,d];repeat' with_reducible first|apply And.intro|exact .dq|refine ak.aH (by assumption) ?_|refine gr (λh=>?_) λh=>?_|refine .id ?_|refine af.bF aj ?_ ?_|exact aI|simp only[*,go_sem,seval]
  all_goals(rw[gI];simp_all)
theorem xL(xs ys:List ah)(hl:xs.length<4611686018427387904):Sq 146 [] [.sl 3 (xs.map ah.cells),.sl 3 (ys.map ah.cells)] [] (.bool (decide (xs=ys))):=by
 refine aX 54 2 [.tmp 4] mixed func146 ?_;exact NC (ms:=xs) [0,1] [] 5 ah.cells ah.cells.eq_1 (λ_ _ _=>trivial)
theorem Bo(xs ys:List ay)(hl:xs.length<4611686018427387904):Sq 147 [] [.sl 12 (xs.map ay.cells),.sl 12 (ys.map ay.cells)] [] (.bool (decide (xs=ys))):=by
 refine aX 27 2 [.tmp 4] mixed func147 ?_;exact NC (ms:=xs) [0,1] [] 5 ay.cells ay.cells.eq_1 (λx _ y=>Db x y)
theorem zm(xs ys:List av)(hl:xs.length<4611686018427387904):Sq 148 [] [.sl 4 (xs.map av.cells),.sl 4 (ys.map av.cells)] [] (.bool (decide (xs=ys))):=by
 refine aX 27 2 [.tmp 4] mixed func148 ?_;exact NC (ms:=xs) [0,1] [] 5 av.cells av.cells.eq_1 (λx _ y=>Bk x y)
theorem zo(xs ys:List aR)(hl:xs.length<4611686018427387904):Sq 149 [] [.sl 7 (xs.map aR.cells),.sl 7 (ys.map aR.cells)] [] (.bool (decide (xs=ys))):=by
 refine aX 74 2 [.tmp 4] mixed func149 ?_;exact NC (ms:=xs) [0,1] [] 5 aR.cells aR.cells.eq_1 (λ_ _ _=>trivial)
theorem Dc(xs ys:List aN)(hl:xs.length<4611686018427387904):Sq 150 [] [.sl 4 (xs.map aN.cells),.sl 4 (ys.map aN.cells)] [] (.bool (decide (xs=ys))):=by
 refine aX 27 2 [.tmp 4] mixed func150 ?_;exact NC (ms:=xs) [0,1] [] 5 aN.cells aN.cells.eq_1 (λx _ y=>Fg x y)
theorem Bl(xs ys:List aq)(hl:xs.length<4611686018427387904):Sq 58 [] [.sl 4 (xs.map aq.cells),.sl 4 (ys.map aq.cells)] [] (.bool (decide (xs=ys))):=by
 refine aX 42 2 [.tmp 4] mixed func58 ?_;exact NC (ms:=xs) [0,1] [] 5 aq.cells (a2 aq.cells.eq_1 aB.cells.eq_1) (λx _ y=>vS ⟨x.who,x.cur,x.cw⟩ ⟨y.who,y.cur,y.cw⟩)
theorem C8(xs ys:List iW)(hl:xs.length<4611686018427387904):Sq 59 [] [.sl 5 (xs.map iW.cells),.sl 5 (ys.map iW.cells)] [] (.bool (decide (xs=ys))):=by
 refine aX 68 2 [.tmp 4] mixed func59 ?_;exact NC (ms:=xs) [0,1] [] 5 iW.cells iW.cells.eq_1 (λx _ y=>vT x.who x.inst y.who y.inst)
theorem jO(xs ys:List aB)(hl:xs.length<4611686018427387904):Sq 15 [] [.sl 3 (xs.map aB.cells),.sl 3 (ys.map aB.cells)] [] (.bool (decide (xs=ys))):=by
 refine aX 27 2 [.tmp 4] mixed func15 ?_;exact NC (ms:=xs) [0,1] [] 5 aB.cells aB.cells.eq_1 (λx _ y=>vS x y)
theorem Bn(xs ys:List dZ)(hl:xs.length<4611686018427387904):Sq 230 [] [.sl 8 (xs.map dZ.cells),.sl 8 (ys.map dZ.cells)] [] (.bool (decide (xs=ys))):=by
 refine aX 27 2 [.tmp 4] mixed func230 ?_;exact NC (ms:=xs) [0,1] [] 5 dZ.cells dZ.cells.eq_1 (λx _ y=>Da x y)
theorem Bp(a b:gT)(c:a.xC.length<4611686018427387904)(d:a.falls.length<4611686018427387904):Sq 153 [] [.agg a.cells,.agg b.cells] [] (.bool (decide (a=b))):=by
 have c1:=jO a.xC b.xC c;have c2:=Bn a.falls b.falls d;simp only[gT.cells];refine aX 38 2 [.tmp 4] mixed func153 ?_;simp only[go_sem,seval];repeat' with_reducible first|apply And.intro|exact .dq|refine ak.aH (by assumption) ?_|refine ak.aH (c1) ?_|refine ak.aH (c2) ?_|refine gr (λh=>?_) λh=>?_|refine .id ?_|refine af.bF aj ?_ ?_|exact aI|simp only[*,go_sem,seval]
 all_goals(rw[gI];cases a;cases b;simp_all)
theorem Bq(xs ys:List aS)(hl:xs.length<4611686018427387904)(a:∀x∈xs,x.r.xC.length<4611686018427387904/\x.r.falls.length<4611686018427387904):Sq 60 [] [.sl 7 (xs.map aS.cells),.sl 7 (ys.map aS.cells)] [] (.bool (decide (xs=ys))):=by
 refine aX 55 2 [.tmp 4] mixed func60 ?_;exact NC (ms:=xs) [0,1] [] 5 aS.cells (a2 aS.cells.eq_1 gT.cells.eq_1) (λx b y=>Bp x.r y.r (a x b).1 (a x b).2)
theorem zn(a b:bS)(hl:a.bs.length<4611686018427387904):Sq 56 [] [.agg a.cells,.agg b.cells] [] (.bool (decide (a.last=b.last)&&decide (a.bs=b.bs))):=by
 obtain⟨c,xs⟩:=a;obtain⟨d,ys⟩:=b;simp only[bS.cells];refine aX 56 2 [.tmp 4] mixed func56 ?_;by_cases f:c=d
 case neg =>
  have g:(c==d)=false:=by simpa using f
  have e:decide (c=d)=false:=kY f;simp only[go_sem,seval,bne,g,e,eO]
 have g:(c==d)=true:=by simpa using f
 have e0:decide (c=d)=true:=gJ f;rw[e0,cF];simp only[go_sem,seval,bne,g];have hl:xs.length<4611686018427387904:=hl;exact NC (ms:=xs) [2,3] [48,64] 5 bn.cells (a3 bn.cells.eq_1 aG.cells.eq_1 bn.aO.eq_1) (λx _ y=>Bj x.aO y.aO)
theorem Dd(a b:aC)(h:a.small):Sq 54 [] [.agg a.cells,.agg b.cells] [] (.bool (decide (a.ms=b.ms)&&(decide (a.ns=b.ns)&&decide (a.xs=b.xs)))):=by
 obtain⟨l1,l2,l3⟩:=h;have c1:=xL a.ms b.ms aj;have c2:=Bo a.ns b.ns aj;have c3:=zm a.xs b.xs aj;simp only[aC.cells];refine aX 24 2 [.tmp 4] mixed func54 ?_;simp only[go_sem,seval];repeat' with_reducible first|apply And.intro|exact .dq|refine ak.aH (by assumption) ?_|refine ak.aH (c1) ?_|refine ak.aH (c2) ?_|refine ak.aH (c3) ?_|refine gr (λh=>?_) λh=>?_|refine .id ?_|refine af.bF aj ?_ ?_|exact aI|simp only[*,go_sem,seval]
 all_goals(simp_all)
theorem C9(a b:bI)(h:a.small):Sq 55 [] [.agg a.cells,.agg b.cells] [] (.bool (decide (a.next=b.next)&&(decide (a.ts=b.ts)&&decide (a.qs=b.qs)))):=by
 obtain⟨l1,l2⟩:=h;have c1:=zo a.ts b.ts aj;have c2:=Dc a.qs b.qs aj;simp only[bI.cells];refine aX 24 2 [.tmp 4] mixed func55 ?_;simp only[go_sem,seval];repeat' with_reducible first|apply And.intro|exact .dq|refine ak.aH (by assumption) ?_|refine ak.aH (c1) ?_|refine ak.aH (c2) ?_|refine gr (λh=>?_) λh=>?_|refine .id ?_|refine af.bF aj ?_ ?_|exact aI|simp only[*,go_sem,seval]
 all_goals(rw[gI];simp_all)
def KA(a b:au):Bool:=decide (a.now=b.now/\a.day=b.day/\a.phase=b.phase)&&((decide (a.aA.ms=b.aA.ms)&&(decide (a.aA.ns=b.aA.ns)&&decide (a.aA.xs=b.aA.xs)))&&((decide (a.book.next=b.book.next)&&(decide (a.book.ts=b.book.ts)&&decide (a.book.qs=b.book.qs))) &&
 ((decide (a.cL.last=b.cL.last)&&decide (a.cL.bs=b.cL.bs))&&(decide (a.ps=b.ps)&&(decide (a.calls=b.calls)&&(decide (a.bQ=b.bQ)&&decide (a.aM=b.aM)))))))
theorem jf(a b:au)(h:a.small):Sq 14 [] [.agg a.cells,.agg b.cells] [] (.bool (KA a b)):=by
 have c1:=Bm a.now a.day a.phase b.now b.day b.phase;have c2:=Dd a.aA b.aA h.aA.small;have c3:=C9 a.book b.book h.book;have c4:=zn a.cL b.cL (by have:=h.cL;omega);have f:=Mb a.ps b.ps (by have:=h.ps;omega);have g:=Bl a.calls b.calls (by have:=h.calls;omega);have i:=C8 a.bQ b.bQ (by have:=h.bQ;omega);have j:=Bq a.aM b.aM (by have:=h.aM;omega) (λx k=>by have:=h.rs x k;unfold gT.fits at this;omega);simp only[aC.cells,bI.cells,bS.cells]at c2 c3 c4;obtain⟨l,c⟩:∃q,q=decide (a.now=b.now/\a.day=b.day/\a.phase=b.phase):=⟨_,rfl⟩
 obtain⟨m,e2⟩:∃q,q=(decide (a.aA.ms=b.aA.ms)&&(decide (a.aA.ns=b.aA.ns)&&decide (a.aA.xs=b.aA.xs))):=⟨_,rfl⟩
 obtain⟨n,d⟩:∃q,q=(decide (a.book.next=b.book.next)&&(decide (a.book.ts=b.book.ts)&&decide (a.book.qs=b.book.qs))):=⟨_,rfl⟩
 obtain⟨o,e⟩:∃q,q=(decide (a.cL.last=b.cL.last)&&decide (a.cL.bs=b.cL.bs)):=⟨_,rfl⟩
 simp only[au.cells,KA];rw[<-c]at c1 |-;rw[<-e2]at c2 |-;rw[<-d]at c3 |-;rw[<-e]at c4 |-;clear c e2 d e h;refine aX 59 2 [.tmp 4] mixed func14 ?_;refine sc aI c1 ?_;cases l
 ·simp only[go_sem,seval,eO]
 refine sc aI c2 ?_;cases m
 ·simp only[go_sem,seval,eO,cF]
 refine sc aI c3 ?_;cases n
 ·simp only[go_sem,seval,eO,cF]
 refine sc aI c4 ?_;cases o
 ·simp only[go_sem,seval,eO,cF]
 refine sc aI f ?_;cases q5:decide (a.ps=b.ps)
 ·simp only[go_sem,seval,eO,cF]
 refine sc aI g ?_;cases q6:decide (a.calls=b.calls)
 ·simp only[go_sem,seval,eO,cF]
 refine sc aI i ?_;cases q7:decide (a.bQ=b.bQ)
 ·simp only[go_sem,seval,eO,cF]
 simp only[go_sem,seval];refine ak.aH j ?_;simp only[go_sem,seval,cF]
def Cs(a:au):KA a a=true:=by simp[KA]
def lu(s:au)(x:s.small)(hr:s.gE):Sq 32 [] [.agg s.cells] [] (.bool (bf s)):=by
 have w:=x.aA.small;have L:=fj s.now 0 1099511627776;have a2:=fj s.day 0 1099511627776;have a3:=fj s.phase 0 2;have c2:=lz s.aA w;have c3:=qZ s.book x.book hr.qs;have c4:=m6 s.cL x.cL hr.bs;have M:=rK s.ps (by have:=x.ps;omega);have N:=uo s.calls x.calls;have A:=λn=>Ds s n w;have H:=λn=>Ca s n w;have S:=λn=>wF s.aA n w;have O:=FE s x.bQ;have P:=Dp s x.aM;obtain⟨hb1,hb2⟩:=x.book;have hpl:=x.ps;have hcl:=x.calls;have v:=λh n=>Qx (r:=s.aA) h n;simp only[aC.cells,bI.cells,bS.cells]at c2 c3 c4 S;simp only[au.cells]at A H O P |-;clear x hr w;refine aX 197 1 [.tmp 2] mixed func32 ?_;refine sc aI L ?_;cases I:within s.now 0 1099511627776
 ·have e:bf s=false:=by simp[bf,o7,I]
  exact dJ e
 refine sc aI a2 ?_;cases J:within s.day 0 1099511627776
 ·have e:bf s=false:=by simp[bf,o7,J]
  exact dJ e
 refine sc aI a3 ?_;cases K:within s.phase 0 2
 ·have e:bf s=false:=by simp[bf,o7,K]
  exact dJ e
 refine sc aI c2 ?_;cases f:s.aA.okB
 ·have e:bf s=false:=by simp[bf,f]
  exact dJ e
 refine sc aI c3 ?_;cases q:s.book.okB
 ·have e:bf s=false:=by simp[bf,q]
  exact dJ e
 refine sc aI c4 ?_;cases B:s.cL.okB
 ·have e:bf s=false:=by simp[bf,B]
  exact dJ e
 refine sc aI M ?_;cases C:j5 s.ps
 ·have e:bf s=false:=by simp[bf,C]
  exact dJ e
 refine sc aI N ?_;cases D:l7 bD bg s.calls
 ·have e:bf s=false:=by simp[bf,D]
  exact dJ e
 have v:=v f;have e:bf s=(l9 s&&(!decide (32<(s.bQ.length:Int))&&(s.bQ.all lQ&&l7 fC dX s.aM))):=by simp only[bf,o7,I,J,K,f,q,B,C,D,cF]
 rw[e];clear e L a2 a3 c2 c3 c4 M N I J K f q B C D;obtain⟨R,F⟩:=aV ((!decide (32<(s.bQ.length:Int))&&(s.bQ.all lQ&&l7 fC dX s.aM)));rw[<-F];refine s0 ?_;refine aF.w1 s.book.qs.length 3 [1] [32] (λi _=>∀j (G:j<s.book.qs.length),j<i->BS s.aA s.book.qs[j]=true) (by intros;omega) ?_ ?_
 ·intro i _ l p z k;have t:=aP (c:=aN.cells) s.book.qs l;have y:(i:Int)<(s.book.qs.length:Int):=aj
  have e0:=kZ l k;have m:BS s.aA s.book.qs[i]=false->(l9 s&&R)=false:=λh=>by simp[l9,qB l h]
  simp only[BS,v]at m;simp only[aN.cells]at t;refine sc (a2 p t) (A s.book.qs[i].who) ?_;cases b:cr s.aA s.book.qs[i].who==0
  case true =>
   have:=m (by simp[b]);refine sm (a2 b this) ?_;exact U0
  cases f:cr s.aA s.book.qs[i].who==3
  case true =>
   have:=m (by simp[f]);refine sm (a3 b f this) ?_;exact U0
  refine sc (a3 b f t) (H s.book.qs[i].inst) ?_;cases q:bZ s.aA s.book.qs[i].inst
  ·have:=m (by simp[q]);exact dJ this
  refine sm z ?_;refine af.u l (e0 (by simp only[BS,v,b,f,q];rfl)) ?_;exact iM
 intro _ d k;have o:=nx k;have Q:(l9 s&&R)=((s.book.ts.all (tW s.aA)&&(s.ps.all (sJ s.aA)&&s.calls.all (oE s.aA)))&&R):=by simp[l9,o]
 rw[Q];clear Q o k;refine sm d ?_;clear d;refine aF.w1 s.book.ts.length 5 [1] [32] (λi _=>∀j (G:j<s.book.ts.length),j<i->tW s.aA s.book.ts[j]=true) (by intros;omega) ?_ ?_
 ·intro i _ l p z k;have t:=aP (c:=aR.cells) s.book.ts l;have y:(i:Int)<(s.book.ts.length:Int):=aj
  have e0:=kZ l k;have m:tW s.aA s.book.ts[i]=false->((s.book.ts.all (tW s.aA)&&(s.ps.all (sJ s.aA)&&s.calls.all (oE s.aA)))&&R)=false:=λh=>by simp[qB l h]
  simp only[tW]at m;simp only[aR.cells]at t;refine sc (a2 p t) (A s.book.ts[i].rE) ?_;cases b:cr s.aA s.book.ts[i].rE==0
  case true =>
   have:=m (by simp[b]);refine sm b ?_;exact this.symm
  refine sc (a2 b t) (A s.book.ts[i].m9) ?_;cases f:cr s.aA s.book.ts[i].m9==0
  case true =>
   refine sm f ?_;exact(m (by simp[f])).symm
  refine sc (a2 f t) (H s.book.ts[i].inst) ?_;cases q:bZ s.aA s.book.ts[i].inst
  ·refine s0 ?_;exact(m (by simp[q])).symm
  refine sm z ?_;refine af.u l (e0 (by simp only[tW,b,f,q];rfl)) ?_;exact iM
 intro _ d k;have o:=nx k;rw[o,cF];clear o k;have hpln:(pl s.ps).length=s.ps.length:=Oc s.ps;refine sm d ?_;clear d;refine aF.w1 s.ps.length 6 [1] [32] (λi _=>∀j (G:j<s.ps.length),j<i->sJ s.aA s.ps[j]=true) (by intros;omega) ?_ ?_
 ·intro i _ l p z k;have t:=mP s.ps l;have y:(i:Int)<(s.ps.length:Int):=aj
  have e0:=kZ l k;have m:sJ s.aA s.ps[i]=false->((s.ps.all (sJ s.aA)&&s.calls.all (oE s.aA))&&R)=false:=λh=>by simp[qB l h]
  have e2:sJ s.aA s.ps[i]=((!(cr s.aA s.ps[i].who==0)&&!(cr s.aA s.ps[i].who==3))&&rD s.aA s.ps[i].cE):=by simp only[sJ,v]
  have o:=S s.ps[i].cE;obtain⟨g,T⟩:=aV (gL av.a s.ps[i].cE ⟨0,0,0,0⟩ s.aA.xs);have E:decide (0<=iD av.a s.ps[i].cE s.aA.xs)=rD s.aA s.ps[i].cE:=rfl;rw[<-T,E]at o;simp only[av.cells]at o;rw[e2]at e0 m;clear e2;refine sc (a2 p t) (A s.ps[i].who) ?_;refine sc aI o ?_;cases b:cr s.aA s.ps[i].who==0
  case true =>
   refine sm b ?_;refine bG ?_;exact(m (by simp[b])).symm
  cases f:cr s.aA s.ps[i].who==3
  case true =>
   refine sm (a2 b f) ?_;refine bG ?_;exact(m (by simp[f])).symm
  cases q:rD s.aA s.ps[i].cE
  ·refine sm (a3 b f q) ?_;refine bG ?_;exact(m (by simp[q])).symm
  refine sm (a4 b f q z) ?_;refine bG ?_;refine af.u l (e0 (by simp[b,f,q])) ?_;exact iM
 intro _ d k;have o:=nx k;rw[o,cF];clear o k;refine sm d ?_;clear d;refine aF.w1 s.calls.length 10 [1] [32] (λi _=>∀j (G:j<s.calls.length),j<i->oE s.aA s.calls[j]=true) (by intros;omega) ?_ ?_
 ·intro i _ l p z k;have t:=aP (c:=aq.cells) s.calls l;have y:(i:Int)<(s.calls.length:Int):=aj
  have e0:=kZ l k;have m:oE s.aA s.calls[i]=false->(s.calls.all (oE s.aA)&&R)=false:=λh=>by simp[qB l h]
  simp only[aq.cells]at t;refine sc (a2 p t) (A s.calls[i].who) ?_;cases b:cr s.aA s.calls[i].who==1
  ·refine sm (a2 lH b) ?_;exact(m b).symm
  refine sm (a3 lH b z) ?_;refine af.u l (e0 b) ?_;exact iM
 intro _ d k;have o:=nx k;rw[o,cF,F,<-Bool.and_assoc];clear o k F;refine sc d O ?_;cases b7:(!decide (32<(s.bQ.length:Int))&&s.bQ.all lQ)
 ·simp only[go_sem,seval,eO]
 refine s0 ?_;refine ak.aH P ?_;simp only[go_sem,seval,cF]
def dI(a b:aB):Bool:=decide (a.who<b.who)||(a.who==b.who&&decide (a.cur<b.cur))
def eH{a b:aB}:dI a b=true↔a.who<b.who\/(a.who=b.who/\a.cur<b.cur):=by simp[dI]
def aB.zero:aB:=⟨0,0,0⟩
def BF(f:Bool)(last:aB)(s:Bool×aB)(d:aB):Bool:=(f||dI last d)&&(!s.1||dI d s.2)
def gH(f:Bool)(last:aB):List aB->Bool×aB->Bool×aB
 | [],s=>s
 |d::r,s=>gH f last r (if BF f last s d then(true,d)else s)
theorem tE{f:Bool}{last:aB}:∀{l:List aB} {s:Bool×aB},(gH f last l s).1=true->gH f last l s=s\/((gH f last l s).2∈l/\(f||dI last (gH f last l s).2)=true)
 | [],s,_=>.inl rfl
 |d::r,s,h=>by
  simp only[gH]at h |-;rcases tE (l:=r) h with e| ⟨h1,h2⟩
  ·rw[e];split
   ·rename_i a;simp only[BF,dO]at a;exact .inr ⟨by simp,a.1⟩
   ·exact .inl rfl
  ·exact .inr ⟨by simp[h1],h2⟩
def M3(f:Bool)(last:aB)(l:List aB):Nat:=l.countP λd=>f||dI last d
theorem M4{A:Type}{p q:A->Bool}:∀{l:List A} {d:A},(∀x,p x=true->q x=true)->d∈l->q d=true->p d=false->l.countP p<l.countP q
 | [],d,_,h,_,_=>by cases h
 |x::r,d,hpq,hm,hq,hp=>by
  have hle:r.countP p<=r.countP q:=List.countP_mono_left λy _ h=>hpq y h;simp only[List.countP_cons];rcases List.mem_cons.1 hm with rfl|hm
  ·rw[hq,hp];simp;omega
  ·have:=M4 hpq hm hq hp;by_cases a:p x=true
   ·rw[aE a,aE (hpq x a)];omega
   ·rw[az a];omega
def K9{f:Bool}{last d:aB}{l:List aB}(c:d∈l)(a:(f||dI last d)=true):M3 false d l<M3 f last l:=by
 refine M4 (λx b=>?_) c a ?_
 ·rw[Bool.false_or]at b;cases f
  ·rw[Bool.false_or]at a |-;rw[eH]at b a |-;omega
  ·rfl
 ·rw[Bool.false_or];cases h:dI d d
  ·rfl
  ·rw[eH]at h;omega
def tS(l:List aB)(d:aB):List aB:=if jJ d.who d.cur l==0 then[]else[⟨d.who,d.cur,jJ d.who d.cur l⟩]
def zu(l:List aB):Nat->Bool->aB->List aB->List aB×Int
 | 0,_,_,out=>(out,0)
 |n+1,f,last,out =>
  if(gH f last l (false,.zero)).1 then
   (if eJ (gH f last l (false,.zero)).2.who (gH f last l (false,.zero)).2.cur l=0 then zu l n false (gH f last l (false,.zero)).2 (out++tS l (gH f last l (false,.zero)).2)
    else([],eJ (gH f last l (false,.zero)).2.who (gH f last l (false,.zero)).2.cur l))
  else(out,0)
def iN(l:List aB):List aB×Int:=if gX l then zu l (l.length+1) true .zero []else([],3)
def D2(w c:Int)(l:List aB):bR (jJ w c l)=true:=by
 unfold jJ;split
 ·rename_i h;unfold eJ at h;split at h
  ·split at h
   ·assumption
   ·cases h
  ·cases h
 ·rfl
theorem Jo(l:List aB)(E:l.length<2^29):Sq 34 [] [.sl 3 (l.map aB.cells)] [.own 3 ((iN l).1.map aB.cells)] (.bH [.ref 0,.int .i64 (iN l).2]):=by
 have B:=uq l aj;have y:=λw c=>Dm w c l E;have t:∀a b:aB,Sq 113 [] [.agg a.cells,.agg b.cells] [] (.bool (dI a b)):=λa b=>vI a b;refine aX 78 1 [.tmp 2,.tmp 3] mixed func34 ?_;refine sc aI B ?_;cases A:gX l
 ·have e:iN l=([],3):=by simp[iN,A]
  exact lG e
 have e:iN l=zu l (l.length+1) true .zero []:=by simp[iN,A]
 obtain⟨R,z⟩:=aV (iN l);rw[<-z];rw[<-z]at e;clear z B;refine s0 ?_;refine aF.sE (T:=Nat×aB×List aB) [0,5] [] (λs=>[(6,.I ((l.length+1-s.1:Nat):Int)),(4,.ref 1248)]) (λs=>[(96,.box s.2.1.cells),(1248,.own 3 (s.2.2.map aB.cells))])
  (λs=>M3 (s.1==l.length+1) s.2.1 l+1<=s.1/\s.1<=l.length+1/\s.2.2.length+s.1<=l.length+1/\zu l s.1 (s.1==l.length+1) s.2.1 s.2.2=R) (λs=>s.1) (l.length+1,.zero,[]) ?_ ?_ ?_
 ·refine⟨?_,cX _,by simp,by rw[e];simp⟩;have:M3 (l.length+1==l.length+1) aB.zero l<=l.length:=List.countP_le_length;show M3 (l.length+1==l.length+1) aB.zero l+1<=l.length+1;omega
 ·simp only[go_sem,seval,aB.zero]<;>simp
 rintro⟨n,last,out⟩ ⟨h1,h2,h3,j⟩;dsimp only at h1 h2 h3 j |-;obtain⟨m,rfl⟩:∃m,n=m+1:=⟨n-1,by omega⟩
 have D:l.length+1-(m+1)=l.length-m:=aj
 obtain⟨f,C⟩:=aV ((m+1==l.length+1));have u:(((l.length-m:Nat):Int)==0)=f:=by rw[C,gI];simp;omega
 rw[<-C]at h1 j;rw[D];refine s0 ?_;refine aF.mN (S:=Bool×aB) l.length [0,4,5,6,8] [96,1248] (λi s=>[(9,.I i),(7,.bool s.1)]) (λi s=>[(144,.box s.2.cells)]) (λi s=>gH f last (l.drop i) s=gH f last l (false,.zero)) (false,.zero) rfl ?_ ?_ ?_
 ·simp only[go_sem,seval,aB.zero]<;>simp
 ·rintro i ⟨s1,s2⟩ hi hdi hwi g;obtain⟨x,F,q,hli⟩:=uy (c:=aB.cells) l hi;have k1:=t last x;have k2:=t x s2;rw[fX hi,<-F]at g;simp only[gH,BF]at g;simp only[aB.cells]at q k1 k2;clear y t j;cases f
  ·refine sc (a3 hdi q u) k1 ?_;cases o:dI last x
   ·simp only[o,Bool.false_or,eO,jm,if_false]at g;refine sm (a2 o hwi) ?_;refine bG ?_;refine af.jz (s1,s2) hi g ?_;exact iM
   cases s1
   ·simp only[o,Bool.false_or,cF,Bool.not_false,Bool.true_or,if_true]at g;refine sm (a3 o q hwi) ?_;refine bG ?_;refine af.jz (true,x) hi g ?_;exact iM
   refine sc (a2 o q) k2 ?_;cases k:dI x s2
   ·simp only[o,k,Bool.false_or,cF,Bool.not_true,jm,if_false]at g;refine sm (a2 k hwi) ?_;refine bG ?_;refine af.jz (true,s2) hi g ?_;exact iM
   simp only[o,k,Bool.false_or,cF,Bool.not_true,Bool.or_true,if_true]at g;refine sm (a3 k hwi q) ?_;refine bG ?_;refine af.jz (true,x) hi g ?_;exact iM
  ·cases s1
   ·simp only[Bool.true_or,cF,Bool.not_false,if_true]at g;refine sm (a4 hdi q u hwi) ?_;refine bG ?_;refine af.jz (true,x) hi g ?_;exact iM
   refine sc (a3 hdi q u) k2 ?_;cases k:dI x s2
   ·simp only[k,Bool.true_or,cF,Bool.not_true,Bool.or_false,jm,if_false]at g;refine sm (a2 k hwi) ?_;refine bG ?_;refine af.jz (true,s2) hi g ?_;exact iM
   simp only[k,Bool.true_or,cF,Bool.not_true,Bool.or_true,if_true]at g;refine sm (a3 k hwi q) ?_;refine bG ?_;refine af.jz (true,x) hi g ?_;exact iM
 ·rintro⟨s1,s2⟩ hdx g;rw[mT]at g;have g:gH f last l (false,.zero)=(s1,s2):=g.symm;simp only[zu,g]at j;have y:=y s2.who s2.cur;have hin:=fY.1 (D2 s2.who s2.cur l);cases s1
  ·simp only[jm,if_false]at j;rw[<-j];exact dJ hdx
  have r:s2∈l/\(f||dI last s2)=true:=by
   have:=tE (f:=f) (last:=last) (l:=l) (s:=(false,.zero)) (by rw[g]);rw[g]at this;rcases this with h|h
   ·cases h
   ·exact h
  have hcn:=K9 r.1 r.2;simp only[if_true]at j;refine sc hdx y ?_;by_cases o:eJ s2.who s2.cur l=0
  case neg =>
   have d:(eJ s2.who s2.cur l==0)=false:=su o;rw[az o]at j;rw[<-j];refine sm (a2 lH d) ?_;all_goals simp
  rw[aE o]at j;have v:IntKind.wrap .i64 (((l.length-m:Nat):Int)+1)=((l.length+1-m:Nat):Int):=eM;have p:(m==l.length+1)=false:=by simp;omega
  simp only[tS]at j;cases k:jJ s2.who s2.cur l==0
  ·simp only[k,jm,if_false]at j;refine sm (a4 lH o k v) ?_;refine bG ?_;refine⟨(m,s2,out++[⟨s2.who,s2.cur,jJ s2.who s2.cur l⟩]),⟨?_,by omega,by simp;omega,by simp only[p];exact j⟩,?_,by simp⟩
   ·simp only[p];omega
   ·exact lA
  ·simp only[k,if_true,List.append_nil]at j;refine sm (a4 lH o k v) ?_;refine bG ?_;refine⟨(m,s2,out),⟨?_,by omega,by simp;omega,by simp only[p];exact j⟩,?_,by simp⟩
   ·simp only[p];omega
   ·exact iM
theorem yP(l:List aB)(a:l.length<2^29):Sq 34 [] [.sl 3 (l.map aB.cells)] [] (.bH [.sl 3 ((iN l).1.map aB.cells),.int .i64 (iN l).2]):=by
 refine Spec.frozen (Jo l a) [0] rfl ?_;intro r;rcases r with _|r<;>rfl
theorem Kq(l:List aB):∀(n:Nat)(f:Bool)(last:aB)(out:List aB),(∀d∈out,bR d.cw=true)->∀d∈(zu l n f last out).1,bR d.cw=true
 | 0,_,_,out,h=>h
 |n+1,f,last,out,h=>by
  simp only[zu];split
  ·split
   ·refine Kq l n _ _ _ ?_;intro d a;rcases List.mem_append.1 a with a|a
    ·exact h d a
    ·unfold tS at a;split at a
     ·cases a
     ·obtain rfl:=kK.1 a;exact D2 _ _ _
   ·intro d a;cases a
  ·exact h
theorem Hs(l:List aB):∀(n:Nat)(f:Bool)(last:aB)(out:List aB),(zu l n f last out).1.length<=out.length+n
 | 0,_,_,out=>cX _
 |n+1,f,last,out=>by
  simp only[zu];split
  ·split
   ·refine Nat.le_trans (Hs l n _ _ _) ?_;have:∀d,(tS l d).length<=1:=λd=>by unfold tS;split<;>simp
    rw[cT];have:=this (gH f last l (false,.zero)).2;omega
   ·simp
  ·simp
def z8(l:List aB):(∀d∈(iN l).1,bR d.cw=true)/\(iN l).1.length<=l.length+1:=by
 unfold iN;split
 ·exact⟨Kq l _ _ _ _ sT,Nat.le_trans (Hs l _ _ _ _) sT⟩
 ·exact⟨by simp,by simp⟩
def jC(l:List aB):List aJ:=l.flatMap λd=>[⟨2,d.who,d.cur,d.cw⟩,⟨5,0,d.cur,-d.cw⟩]
def rY(l:List aB):Bool:=l.all λd=>aG.right ⟨2,d.who,d.cur⟩
def nj(l:List aB):Int:=if rY l then(if(iN l).2=0 then pZ (jC (iN l).1)else(iN l).2)else 3
def iB(l:List aB):List aJ:=if nj l=0 then mI (jC (iN l).1)else[]
def qh(l:List aB):(jC l).length<=2*l.length:=gB (λd=>by simp) l
theorem zB(l:List aB)(hl:l.length<2^27):Sq 35 [] [.sl 3 (l.map aB.cells)] [] (.bH [.sl 4 ((iB l).map aJ.cells),.int .i64 (nj l)]):=by
 have p:=yP l aj;obtain⟨r,k⟩:=z8 l;have s:=Di (jC (iN l).1) (by have:=qh (iN l).1;omega);have e0:iB l=if rY l&&(iN l).2==0 then mI (jC (iN l).1)else[]:=by
  by_cases o:rY l=true
  ·by_cases h:(iN l).2=0
   ·by_cases B:pZ (jC (iN l).1)=0
    ·simp[iB,nj,o,h,B]
    ·simp[iB,nj,o,h,B,mI]
   ·simp[iB,nj,o,h]
  ·simp[iB,nj,o]
 simp only[nj];rw[e0];clear e0;obtain⟨m,f⟩:=aV ((iN l).1);obtain⟨e,t⟩:=aV ((iN l).2);rw[<-f]at p r k s;rw[<-t]at p;rw[<-f,<-t];clear f t;refine aX 79 1 [.tmp 2,.tmp 3] mixed func35 ?_;refine s0 ?_;refine aF.w1 l.length 4 [0] [] (λi _=>rY (l.drop i)=rY l) rfl ?_ ?_
 ·intro i _ g j n a;obtain⟨x,A,f,y⟩:=uy (c:=aB.cells) l g;have C:=ji ⟨2,x.who,x.cur⟩;rw[fX g,<-A]at a;have o:rY (x::l.drop (i+1))=(aG.right ⟨2,x.who,x.cur⟩&&rY (l.drop (i+1))):=rfl;rw[o]at a;simp only[aB.cells]at f;simp only[aG.cells]at C;clear p s;refine sc (a2 j f) C ?_;cases q:aG.right ⟨2,x.who,x.cur⟩
  ·rw[q,eO]at a;rw[<-a];exact lA
  rw[q,cF]at a;refine sm n ?_;refine af.u g a ?_;exact iM
 intro _ b a;rw[mT]at a;rw[<-a,show rY []=true from rfl];clear a;refine sc b p ?_;by_cases q:e=0
 case neg =>
  have d:(e==0)=false:=su q;simp only[go_sem,seval,bne,d,az q];all_goals simp
 rw[q,show(if((0:Int)==0)=true then mI (jC m)else[])=mI (jC m)from rfl,aE rfl];refine s0 ?_;refine bG ?_;clear p b;refine aF.wv m.length [5] [] (λi=>[(8,.I i),(7,.ref 1200)]) (λi=>[(1200,.own 4 ((jC (m.take i)).map aJ.cells))]) ?_ ?_ ?_
 ·simp only[go_sem,seval]<;>simp[jC]
 ·intro i _ g j n _;obtain⟨x,A,f,y⟩:=uy (c:=aB.cells) m g;have z:jC (m.take (i+1))=jC (m.take i)++_:=jr _ g;have k:=qh (m.take i);have hlt:(m.take i).length=i:=by simp;omega
  have w:=fY.1 (r m[i] (cZ g));obtain⟨L,D⟩:=aV (jC (m.take i));rw[<-D]at z k |-;rw[<-A]at z w;have E:IntKind.wrap .i64 (0-x.cw) = -x.cw:=eM;simp only[aB.cells]at f;clear s;refine sm (a4 j f E n) ?_;refine bG ?_;refine af.v g ?_;exact lG z
 ·intro _ b _;simp only[go_sem,seval,b,ef];refine bG ?_;refine ak.fk [1200] [] false sT ?_;refine s0 ?_;refine bX.fV s ?_;exact iM
