/- Parts. -/
import Derived.Test.YtbfilfeggodcjaaGreatKA
set_option linter.all false
set_option maxHeartbeats 4000000
set_option maxRecDepth 16000
namespace Go.Proofs.YtbfilfeggodcjaaGreat
open Go.Abs Tryz
open List hiding lt min
def l6{A:Type}(ok:A->Bool)(lt:A->A->Bool)(xs:List A)(i:Nat):Bool:=
 match xs[i]? with
 |none=>true
 |some b=>ok b&&(match i with
  | 0=>true
  |j+1=>match xs[j]? with
   |some q=>lt q b
   |none=>true)
def l7{A:Type}(ok:A->Bool)(lt:A->A->Bool)(xs:List A):Bool:=(range xs.length).all (l6 ok lt xs)
section
variable{A:Type}{ok:A->Bool}{lt:A->A->Bool}{xs:List A}
def iH(h:0<xs.length):l6 ok lt xs 0=ok xs[0]:=by simp[l6,h]
def gz{j:Nat}(h:j+1<xs.length):l6 ok lt xs (j+1)=(ok xs[j+1]&&lt (xs[j]'aj) xs[j+1]):=by
 have a:j<xs.length:=aj
 simp[l6,h,a]
def sk{i:Nat}(h:i<xs.length)(a:l6 ok lt xs i=false):l7 ok lt xs=false:=by
 cases b:l7 ok lt xs
 ·rfl
 ·rw[cR.1 b i (mem_range.2 h)]at a;cases a
def nA(h:∀i<xs.length,l6 ok lt xs i=true):l7 ok lt xs=true:=cR.2 λi a=>h i (mem_range.1 a)
def M0(h:l7 ok lt xs=true){i:Nat}(a:i<xs.length):l6 ok lt xs i=true:=cR.1 h i (mem_range.2 a)
theorem IN(h:l7 ok lt xs=true){i:Nat}(a:i<xs.length):ok xs[i]=true:=by
 have:=M0 h a;cases i with
 |zero=>rwa[iH a]at this
 |succ j=>rw[gz a,dO]at this;exact this.1
def oF{i:Nat}(b:∀j<i,l6 ok lt xs j=true)(a:l6 ok lt xs i=true):∀k<i+1,l6 ok lt xs k=true:=λk hk=>by
 rcases cq k i with h|h
 ·exact b k h
 ·obtain rfl:k=i:=aj
  exact a
end
def uJ(w n:Int):Bool:=within w 1 16&&within n 1 8
def I2(a b c d:Int):Bool:=decide (a<c)||(a==c&&decide (b<d))
theorem pG(w n:Int):Sq 163 [] [.agg [.int .i64 w,.int .i64 n]] [] (.bool (uJ w n)):=by
 refine aX 21 1 [.tmp 2] mixed func163 ?_;refine s0 ?_;repeat' with_reducible first|apply And.intro|exact .dq|refine ak.aH (by assumption) ?_|refine gr (λh=>?_) λh=>?_|refine .id ?_|refine af.bF aj ?_ ?_|exact aI|simp only[*,go_sem,seval]
 all_goals(simp_all[uJ,within];try omega)
theorem Fh(a b c d:Int):Sq 164 [] [.agg [.int .i64 a,.int .i64 b],.agg [.int .i64 c,.int .i64 d]] [] (.bool (I2 a b c d)):=by
 refine aX 24 2 [.tmp 4] mixed func164 ?_;refine s0 ?_;repeat' with_reducible first|apply And.intro|exact .dq|refine ak.aH (by assumption) ?_|refine gr (λh=>?_) λh=>?_|refine .id ?_|refine af.bF aj ?_ ?_|exact aI|simp only[*,go_sem,seval]
 all_goals(simp only[I2];simp_all)
def aR.okB(t:aR):Bool:=within t.eN 1 1048576&&(within t.cH 1 1073741824&&(t.rE != t.m9&&(uJ t.rE t.inst&&uJ t.m9 t.inst)))
def zE(t:aR):Sq 165 [] [.agg t.cells] [] (.bool t.okB):=by
 have a:=pG t.rE t.inst;have b:=pG t.m9 t.inst;simp only[aR.cells];refine aX 44 1 [.tmp 2] mixed func165 ?_;refine s0 ?_;repeat' with_reducible first|apply And.intro|exact .dq|refine ak.aH (by assumption) ?_|refine ak.aH (a) ?_|refine ak.aH (b) ?_|refine gr (λh=>?_) λh=>?_|refine .id ?_|refine af.bF aj ?_ ?_|exact aI|simp only[*,go_sem,seval]
 all_goals first
  | (simp_all[aR.okB,within,bne];done)
  | (rw[gI];simp_all[aR.okB,within];omega)
def aN.okB(p:aN):Bool:=uJ p.who p.inst&&(within p.eN (-1099511627776) 1099511627776&&(bR p.cost&&!(p.eN==0&&p.cost==0)))
def jR(a b:aN):Bool:=I2 a.who a.inst b.who b.inst
def dN(n:Int)(l:List aN):List Int:=(l.filter (·.inst==n)).map aN.eN
def lp(n:Int)(l:List aN):Bool:=nG (dN n l)==0&&nH (dN n l)==0
def mg(l:List aN):Bool:=(range 8).all λi=>lp ((i:Int)+1) l
def B4(n:Int)(l:List aN){i:Nat}(h:i<l.length):dN n (l.take (i+1))=if l[i].inst==n then dN n (l.take i)++[l[i].eN]else dN n (l.take i):=by
 simp only[dN];rw[kM h,rR,jH];cases a:l[i].inst==n<;>simp[filter,a]
def tA(n:Int)(l:List aN):(dN n l).length<=l.length:=by
 simp only[dN,mY];exact length_filter_le _ _
def I9(l:List aN)(hl:l.length<2^30):Sq 166 [] [.sl 4 (l.map aN.cells)] [] (.bool (mg l)):=by
 refine aX 41 1 [.tmp 2] mixed func166 ?_;refine s0 ?_;refine aF.count 8 [0] [] (λi=>[(3,.I ((i:Int)+1))]) (λi=>[]) (λi=>∀j<i,lp ((j:Int)+1) l=true) sT ?_ ?_
 ·exact lA
 intro c hc u;rcases cq c 8 with hc'|hc'
 case inr =>
  obtain rfl:c=8:=aj
  have e:mg l=true:=cR.2 λj x=>u j (mem_range.1 x);exact lG e
 obtain⟨n,s⟩:=aV ((c:Int)+1);have B:decide (n<=8)=true:=kN;have D:IntKind.wrap .i64 (n+1)=((c+1:Nat):Int)+1:=eM;rw[<-s];refine sm B ?_;refine aF.wv l.length [0,3,13,14] [240] (λi=>[(15,.I i),(4,.ref 464)]) (λi=>[(464,.own 1 (ints (dN n (l.take i))))]) ?_ ?_ ?_
 ·simp only[go_sem,seval]<;>simp[dN,ints]
 ·intro i _ p q m _;have y:=aP (c:=aN.cells) l p;have g:=B4 n l p;have f:=tA n (l.take i);have hlt:(l.take i).length<=l.length:=by simp;omega
  simp only[aN.cells]at y;refine sm (a2 q y) ?_;refine⟨by omega,?_⟩;cases w:l[i].inst==n
  ·rw[w]at g;simp only[jm,if_false]at g;refine sm m ?_;refine af.v p ?_;exact dJ g
  ·rw[w,aE rfl]at g;simp only[go_sem,seval,m,aL];refine⟨by omega,af.v p ?_⟩;simp only[go_sem,seval,g]<;>simp[ints]
 ·intro _ r _;have f:=tA n l;have k:=oA (dN n l) aj;have a:lp n l=false->mg l=false:=λt=>by
   cases C:mg l
   ·rfl
   ·have:=cR.1 C c (mem_range.2 hc');rw[<-s,t]at this;cases this
  have b:lp n l=true->∀j<c+1,lp ((j:Int)+1) l=true:=λt j x=>by
   rcases cq j c with h|h
   ·exact u j h
   ·obtain rfl:j=c:=aj
    rw[<-s];exact t
  simp only[go_sem,seval,r,ef];refine sl aI k ?_;cases d:nG (dN n l)==0
  ·simp only[go_sem,seval,bne,d,a (by simp[lp,d])]
  cases o:nH (dN n l)==0
  ·simp only[go_sem,seval,bne,d,o,a (by simp[lp,d,o])]
  refine sm (a4 lH d o D) ?_;refine af.bF hc' (b (by simp[lp,d,o])) ?_
  exact iM
def fL(n:Int)(t:aR):Bool:=t.okB&&(!decide (t.no<1)&&!decide (n<t.no))
def dY(a b:aR):Bool:=decide (a.no<b.no)
def bI.okB(b:bI):Bool:=l7 aN.okB jR b.qs&&(l7 (fL b.next) dY b.ts&&(mg b.qs&&(!decide (128<(b.ts.length:Int))&&(!decide (b.next<0)&&!decide (1099511627776<b.next)))))
def bI.small(b:bI):Prop:=b.ts.length<2^30/\b.qs.length<2^30
theorem nP(b:bI)(hl:b.small):Sq 67 [] [.agg b.cells] [] (.int .i64 (if b.okB then 0 else 14)):=by
 obtain⟨hl1,hl2⟩:=hl;have d:=I9 b.qs aj;simp only[bI.cells];refine aX 124 1 [.tmp 2] mixed func67 ?_;refine s0 ?_;refine aF.count b.qs.length [1,8,9] [32,160] (λi=>[(10,.I i)]) (λi=>[]) (λi=>∀j<i,l6 aN.okB jR b.qs j=true) sT ?_ ?_
 ·exact lA
 ·intro i x l;refine s0 ?_;refine aU.cQ (λh=>?_) (λh=>?_)
  ·have a:i<b.qs.length:=aj
   have y:IntKind.wrap .i64 ((i:Int)+1)=((i+1:Nat):Int):=eM;have g:=aP (c:=aN.cells) b.qs a;have k:=pG b.qs[i].who b.qs[i].inst;have p:Sq 82 [] [.sl 1 [[.I b.qs[i].cost]]] [] (.bool (right [b.qs[i].cost])):=dL [b.qs[i].cost] sT;rw[mj]at p;have e0:=oF (i:=i) l;have e1:l6 aN.okB jR b.qs i=false->b.okB=false:=λs=>by simp[bI.okB,sk a s]
   simp only[aN.cells]at g;rcases Nat.eq_zero_or_pos i with rfl|hpos
   ·have hk:=iH (ok:=aN.okB) (lt:=jR) a;simp only[aN.okB,within]at hk;clear d;refine sm g ?_;repeat' with_reducible first|apply And.intro|exact .dq|refine ak.aH (by assumption) ?_|refine ak.aH (k) ?_|(refine ak.fk [] [] true (by simp) ?_;simp only[go_sem,seval];refine bX.fV p ?_)|refine gr (λh=>?_) λh=>?_|refine .id ?_|refine af.bF aj ?_ ?_|exact aI|simp only[*,go_sem,seval]
    all_goals exact CO
   ·obtain⟨j,rfl⟩:∃j,i=j+1:=⟨i-1,by omega⟩
    have q:j<b.qs.length:=aj
    have r:IntKind.wrap .i64 (((j+1:Nat):Int)-1)=(j:Int):=eM;have hk:=gz (ok:=aN.okB) (lt:=jR) a;simp only[aN.okB,within,jR]at hk;have f:=aP (c:=aN.cells) b.qs q;have w:=Fh b.qs[j].who b.qs[j].inst b.qs[j+1].who b.qs[j+1].inst;simp only[aN.cells]at f;clear d;refine sm g ?_;repeat' with_reducible first|apply And.intro|exact .dq|refine ak.aH (by assumption) ?_|refine ak.aH (k) ?_|refine ak.aH (w) ?_|(refine ak.fk [] [] true (by simp) ?_;simp only[go_sem,seval];refine bX.fV p ?_)|refine gr (λh=>?_) λh=>?_|refine .id ?_|refine af.bF aj ?_ ?_|exact aI|simp only[*,go_sem,seval,f]
    all_goals exact CO
  ·obtain rfl:i=b.qs.length:=aj
   have n:=nA l;refine s0 ?_;refine aF.count b.ts.length [1,65,66] [32,1072] (λi=>[(67,.I i)]) (λi=>[]) (λi=>∀j<i,l6 (fL b.next) dY b.ts j=true) sT ?_ ?_
   ·exact lA
   ·intro i x l;refine s0 ?_;refine aU.cQ (λh=>?_) (λh=>?_)
    ·have a:i<b.ts.length:=aj
     have y:IntKind.wrap .i64 ((i:Int)+1)=((i+1:Nat):Int):=eM;have g:=aP (c:=aR.cells) b.ts a;have k:=zE b.ts[i];have e0:=oF (i:=i) l;have e1:l6 (fL b.next) dY b.ts i=false->b.okB=false:=λs=>by simp[bI.okB,sk a s]
     simp only[aR.cells]at g k;rcases Nat.eq_zero_or_pos i with rfl|hpos
     ·have hk:=iH (ok:=fL b.next) (lt:=dY) a;simp only[fL]at hk;clear d n;refine sm g ?_;repeat' with_reducible first|apply And.intro|exact .dq|refine ak.aH (by assumption) ?_|refine ak.aH (k) ?_|refine gr (λh=>?_) λh=>?_|refine .id ?_|refine af.bF aj ?_ ?_|exact aI|simp only[*,go_sem,seval]
      all_goals exact CO
     ·obtain⟨j,rfl⟩:∃j,i=j+1:=⟨i-1,by omega⟩
      have q:j<b.ts.length:=aj
      have r:IntKind.wrap .i64 (((j+1:Nat):Int)-1)=(j:Int):=eM;have hk:=gz (ok:=fL b.next) (lt:=dY) a;simp only[fL,dY]at hk;have f:=aP (c:=aR.cells) b.ts q;simp only[aR.cells]at f;clear d n;refine sm g ?_;repeat' with_reducible first|apply And.intro|exact .dq|refine ak.aH (by assumption) ?_|refine ak.aH (k) ?_|refine gr (λh=>?_) λh=>?_|refine .id ?_|refine af.bF aj ?_ ?_|exact aI|simp only[*,go_sem,seval,f]
      all_goals exact CO
    ·obtain rfl:i=b.ts.length:=aj
     have u:=nA l;have e:b.okB=(mg b.qs&&(!decide (128<(b.ts.length:Int))&&(!decide (b.next<0)&&!decide (1099511627776<b.next)))):=by simp[bI.okB,n,u]
     rw[e];clear e n u l;refine sc aI d ?_;cases m:mg b.qs
     ·exact lG m
     cases o:decide (128<(b.ts.length:Int))
     case true=>simp only[go_sem,seval,m,o]<;>simp
     cases t:decide (b.next<0)
     case true=>simp only[go_sem,seval,m,o,t]<;>simp
     cases v:decide (1099511627776<b.next)<;>simp only[go_sem,seval,m,o,t,v]<;>simp
def aav{x:Int}(h:0<=x)(h':x<18446744073709551616):P7 .u64 x=18446744073709551615-x:=by
 have:=afg x.toNat aj;rw[Int.toNat_of_nonneg h]at this;rw[this];omega
theorem aao(a:Int)(h:fP a):Sq 239 [] [.int .i64 a] [] (.int .u64 (a.natAbs:Nat)):=by
 obtain⟨h1,h2⟩:=h;refine aX 10 1 [.tmp 2] mixed func239 ?_;rcases Int.lt_or_le a 0 with hn|hn
 ·have d:decide (a<0)=true:=gJ hn;have e:IntKind.wrap .u64 (0-IntKind.wrap .u64 a)=(a.natAbs:Nat):=by rw[IntKind.wrap_u64,IntKind.wrap_u64];omega
  exact dJ (a2 d e)
 ·have d:decide (a<0)=false:=kR;have e:IntKind.wrap .u64 a=(a.natAbs:Nat):=by rw[IntKind.wrap_u64];omega
  exact dJ (a2 d e)
def UP(W:Int):(18446744073709551615-W%18446744073709551616+1+0)%18446744073709551616=(-W)%18446744073709551616:=aj
def UO(W:Int)(h:-85070591730234615865843651857942052864<=W/\W<=85070591730234615865843651857942052864) :
  IntKind.wrap .i64 ((18446744073709551615-(W/18446744073709551616)%18446744073709551616+0+(18446744073709551615-W%18446744073709551616+1+0)/18446744073709551616)%18446744073709551616)=(-W)/18446744073709551616:=by
 obtain⟨q,e⟩:=aV (W/18446744073709551616);obtain⟨l,d⟩:=aV (W%18446744073709551616);obtain⟨c,b⟩:=aV ((18446744073709551615-l+1+0)/18446744073709551616);have a:(-W)/18446744073709551616 = -q-1+c:=aj
 have h2:-4611686018427387904<=q/\q<=4611686018427387904:=aj
 have h3:0<=c/\c<=1:=aj
 rw[<-e,<-d,<-b,a,IntKind.wrap_i64];clear e d b a h;obtain⟨x,f⟩:=aV ((18446744073709551615-q%18446744073709551616+0+c)%18446744073709551616);rw[<-f];rcases Int.lt_or_le x 9223372036854775808 with h|h<;>omega
def aff(W:Int)(h:-85070591730234615865843651857942052864<=W/\W<=85070591730234615865843651857942052864):Sq 240 [] [.agg (wd W)] [] (.agg (wd (-W))):=by
 have a:=aav (x:=W%18446744073709551616) aj aj;have d:IntKind.wrap .u64 (W/18446744073709551616)=(W/18446744073709551616)%18446744073709551616:=IntKind.wrap_u64 _;have b:=aav (x:=(W/18446744073709551616)%18446744073709551616) aj aj;have c:=UP W;have e2:=UO W h;simp only[wd];refine aX 27 1 [.cell 2 133] mixed func240 ?_;refine sm a ?_;refine ak.sem rfl ?_;with_reducible refine bO.vr (k:=232) (fn:=Tryz.f232) (i:=18446744073709551615-W%18446744073709551616) (j:=1) (m:=0) ?_ func232 ?_ ?_ kX kW ?_ ?_ ?_ ?_ ?_ ?_ ?_ ?_ ?_
 iterate 11 (first|rfl|omega)
 refine sm (a2 d b) ?_;refine ak.sem rfl ?_;with_reducible refine bO.vr (k:=232) (fn:=Tryz.f232) (i:=18446744073709551615-(W/18446744073709551616)%18446744073709551616) (j:=0) (m:=(18446744073709551615-W%18446744073709551616+1+0)/18446744073709551616) ?_ func232 ?_ ?_ kX kW ?_ ?_ ?_ ?_ ?_ ?_ ?_ ?_ ?_
 iterate 11 (first|rfl|omega)
 exact dJ (a2 c e2)
def zq(a b:Int):((a.natAbs*b.natAbs:Nat):Int)=if(decide (a<0) != decide (b<0))=true then -(a*b)else a*b:=by
 rw[Int.natCast_mul];rcases Int.lt_or_le a 0 with ha|ha<;>rcases Int.lt_or_le b 0 with hb|hb
 ·have e:(a.natAbs:Int) = -a:=aj
  have e2:(b.natAbs:Int) = -b:=aj
  have c:decide (a<0)=true:=gJ ha;have d:decide (b<0)=true:=gJ hb;rw[e,e2,c,d,Int.neg_mul_neg];rfl
 ·have e:(a.natAbs:Int) = -a:=aj
  have e2:(b.natAbs:Int)=b:=aj
  have c:decide (a<0)=true:=gJ ha;have d:decide (b<0)=false:=kR;rw[e,e2,c,d,Int.neg_mul];rfl
 ·have e:(a.natAbs:Int)=a:=aj
  have e2:(b.natAbs:Int) = -b:=aj
  have c:decide (a<0)=false:=kR;have d:decide (b<0)=true:=gJ hb;rw[e,e2,c,d,Int.mul_neg];rfl
 ·have e:(a.natAbs:Int)=a:=aj
  have e2:(b.natAbs:Int)=b:=aj
  have c:decide (a<0)=false:=kR;have d:decide (b<0)=false:=kR;rw[e,e2,c,d];rfl
theorem qm(a b:Int)(h:fP a)(i:fP b):Sq 200 [] [.int .i64 a,.int .i64 b] [] (.agg (wd (a*b))):=by
 have l:=aao a h;have m:=aao b i;obtain⟨ha1,ha2⟩:=h;obtain⟨hb1,hb2⟩:=i;have g:=uM a.natAbs b.natAbs aj aj;obtain⟨P,n⟩:=aV (a.natAbs*b.natAbs);have hPb:P<=85070591730234615865843651857942052864:=by
  have:a.natAbs*b.natAbs<=9223372036854775808*9223372036854775808:=Nat.mul_le_mul aj aj;omega
 have c:=zq a b;rw[<-n]at g c;have k:IntKind.wrap .i64 ((P/18446744073709551616:Nat):Int)=(P:Int)/18446744073709551616:=by rw[IntKind.wrap_i64];omega
 have j:((P%18446744073709551616:Nat):Int)=(P:Int)%18446744073709551616:=aj
 have d:=aff (P:Int) aj;simp only[wd]at d |-;refine aX 28 2 [.cell 4 133] mixed func200 ?_;refine sc aI l ?_;refine sc aI m ?_;refine ak.aH g ?_;cases e:(decide (a<0)==decide (b<0))
 ·rw[bne,e,aE (by rfl)]at c;have f:a*b = -(P:Int):=aj
  exact qt (a4 k j e f) d
 ·rw[bne,e,az sT]at c;exact dJ (a4 k j e c)
def ay.zero:ay:=⟨0,0,0,0,0,0,0,0,0,0,0,0⟩
theorem C5(xs:List ay)(n:Int)(hl:xs.length<2^62):Sq 231 [] [.sl 12 (xs.map ay.cells),.fn 158 [],.int .i64 n] [] (.bH [.agg (gL ay.no n ay.zero xs).cells,.int .i64 (iD ay.no n xs)]):=by
 refine aX 27 3 [.cell 6 126,.tmp 7] mixed func231 ?_;refine s0 ?_;refine aF.count xs.length [1,2,6,11,12] [112,208] (λi=>[(13,.I i)]) (λi=>[]) (λi=>∀j (d:j<xs.length),j<i->xs[j].no≠n) sT ?_ ?_
 ·exact lA
 ·intro i hi k;refine s0 ?_;refine aU.cQ (λh=>?_) (λh=>?_)
  ·have b:i<xs.length:=aj
   have m:IntKind.wrap .i64 ((i:Int)+1)=((i+1:Nat):Int):=eM;have l:=aP (c:=ay.cells) xs b;have e:=sG xs[i];simp only[ay.cells]at l e |-;refine sm l ?_;refine⟨by omega,ak.aH e ?_⟩;refine s0 ?_;refine aU.split (λa=>?_) (λa=>?_)
   ·have a:xs[i].no=n:=su a;obtain⟨f,g⟩:=je (z:=ay.zero) b k a;rw[f,g];exact iM
   ·have a:xs[i].no≠n:=su a;refine sm m ?_;refine af.bF b ?_ ?_
    ·intro j d hji;rcases cq j i with h|h
     ·exact k j d h
     ·obtain rfl:j=i:=aj
      exact a
    ·exact iM
  ·obtain rfl:i=xs.length:=aj
   obtain⟨f,g⟩:=gC (z:=ay.zero) (λj d=>k j d d);rw[f,g];simp only[go_sem,seval,ay.cells,ay.zero]
def bU(r:aC)(n:Int):ay:=gL ay.no n ay.zero r.ns
def bZ(r:aC)(n:Int):Bool:=decide (0<=iD ay.no n r.ns)
theorem pH(r:aC)(n:Int)(b:r.small):Sq 167 [] [.agg r.cells,.int .i64 n] [] (.bH [.agg (bU r n).cells,.bool (bZ r n)]):=by
 have h:=C5 r.ns n (by have:=b.2.1;omega);obtain⟨g,a⟩:=aV (gL ay.no n ay.zero r.ns);simp only[bU,bZ];rw[<-a]at h |-;simp only[ay.cells]at h |-;simp only[aC.cells];refine aX 18 2 [.cell 4 126,.tmp 5] mixed func167 ?_;exact qt aI h
structure eD where
 i:ay
 q:Int
@[reducible] def eD.cells(x:eD):List D:=[.I x.i.no,.I x.i.cur,.I x.i.mult,.I x.i.add,.I x.i.set,.I x.i.cH,.I x.i.s0,.I x.i.s1,.I x.i.s2,.I x.i.s3,.I x.i.s4,.I x.i.s5,.I x.q]
def BQ(r:aC)(w c:Int)(p:aN):Bool:=bZ r p.inst&&(p.who==w&&(bU r p.inst).cur==c)
def jD(r:aC)(w c:Int)(qs:List aN):List eD:=(qs.filter (BQ r w c)).map λp=>⟨bU r p.inst,p.eN⟩
def oq(p:aN):Bool:=!decide (p.eN < -1099511627776)&&!decide (1099511627776<p.eN)
def BP(r:aC)(qs:List aN):Int:=if r.okB then(if qs.all oq then 0 else 3)else 14
def LV(r:aC)(w c:Int)(qs:List aN):List eD:=if BP r qs=0 then jD r w c qs else[]
def BR(r:aC)(w c:Int)(l:List aN){i:Nat}(h:i<l.length):jD r w c (l.take (i+1))=if BQ r w c l[i]then jD r w c (l.take i)++[⟨bU r l[i].inst,l[i].eN⟩]else jD r w c (l.take i):=by
 simp only[jD];rw[kM h,rR,jH];cases a:BQ r w c l[i]<;>simp[filter,a]
def qW(r:aC)(w c:Int)(l:List aN):(jD r w c l).length<=l.length:=by
 simp only[jD,mY];exact length_filter_le _ _
theorem yL(r:aC)(w c:Int)(qs:List aN)(hr:r.small)(hq:qs.length<2^30):Sq 209 [] [.agg r.cells,.int .i64 w,.int .i64 c,.sl 4 (qs.map aN.cells)] [.own 13 ((LV r w c qs).map eD.cells)] (.bH [.ref 0,.int .i64 (BP r qs)]):=by
 have D:=gF r hr;have E:=λn=>pH r n hr;simp only[aC.cells]at D E |-;refine aX 66 4 [.tmp 8,.tmp 9] mixed func209 ?_;refine sc aI D ?_;cases C:r.okB
 ·have e:BP r qs=14:=by simp[BP,C]
  have e2:LV r w c qs=[]:=by simp[LV,e]
  simp only[go_sem,seval,e,e2]<;>simp
 simp only[go_sem,seval];refine aF.wu qs.length [1,2,4,21,22] [80,368] (λi=>[(23,.int .i64 i),(11,.ref 1024)]) (λi=>[(1024,.own 13 ((jD r w c (qs.take i)).map eD.cells))]) (λi=>∀j (l:j<qs.length),j<i->oq qs[j]=true) (by intros;omega) ?_ ?_ ?_
 ·simp only[go_sem,seval]<;>simp[jD]
 ·intro i _ g G b s;have J:=aP (c:=aN.cells) qs g;have a:=BR r w c qs g;have hlen:=qW r w c (qs.take i);have hlt:(qs.take i).length<=qs.length:=by simp;omega
  have F:=E qs[i].inst;obtain⟨x,K⟩:=aV (bU r qs[i].inst);have d:oq qs[i]=false->BP r qs=3:=λt=>by
   have:qs.all oq=false:=by
    cases L:qs.all oq
    ·rfl
    ·rw[cR.1 L _ (cZ g)]at t;cases t
   simp[BP,C,this]
  have k:oq qs[i]=true->∀j (l:j<qs.length),j<i+1->oq qs[j]=true:=λt j l hji=>by
   rcases cq j i with h|h
   ·exact s j l h
   ·obtain rfl:j=i:=aj
    exact t
  simp only[BQ,<-K]at a;rw[<-K]at F;simp only[aN.cells]at J;simp only[ay.cells]at F;clear E D s;simp only[go_sem,seval,G,J];refine⟨by omega,?_⟩;cases q:decide (qs[i].eN < -1099511627776)
  case true =>
   have e:=d (by simp[oq,q]);have e2:LV r w c qs=[]:=by simp[LV,e]
   simp only[go_sem,seval,q,e,e2]<;>simp
  cases B:decide (1099511627776<qs[i].eN)
  case true =>
   have e:=d (by simp[oq,B]);have e2:LV r w c qs=[]:=by simp[LV,e]
   simp only[go_sem,seval,q,B,e,e2]<;>simp
  have v:=k (by simp[oq,q,B]);refine sc (a2 q B) F ?_;cases f:bZ r qs[i].inst
  ·simp only[f,eO,jm,if_false]at a;simp only[go_sem,seval,f,b];refine af.u g v ?_;simp only[go_sem,seval,a]
  cases m:qs[i].who==w
  ·simp only[f,m,eO,cF,jm,if_false]at a;simp only[go_sem,seval,f,m,b];refine af.u g v ?_;simp only[go_sem,seval,a]
  cases y:x.cur==c
  ·simp only[f,m,y,Bool.and_false,cF,jm,if_false]at a;simp only[go_sem,seval,f,m,y,b];refine af.u g v ?_;simp only[go_sem,seval,a]
  simp only[f,m,y,Bool.and_self,if_true]at a;simp only[go_sem,seval,f,m,y,b];refine⟨by omega,af.u g v ?_⟩;simp only[go_sem,seval,a]<;>simp
 ·intro _ I s;have o:qs.all oq=true:=cR.2 λp M=>by
   obtain⟨j,l,rfl⟩:=mem_iff_getElem.1 M;exact s j l l
  have e:BP r qs=0:=by simp[BP,C,o]
  have e2:LV r w c qs=jD r w c qs:=by simp[LV,e]
  simp only[go_sem,seval,I,ef,e,e2]<;>simp
def Spec.frozen{P:Program}{f:FuncId}{ds a:List D}{d:D}(h:Abs.Spec P f [] ds a d)(fz:List Nat){g:List D}{p:D}(I:(eu fz (qz [(0,d)] (tj 0 a))).t 0=p)(K:∀r,(eu fz (qz [(0,d)] (tj 0 a))).o r=g.getD r .undef):Abs.Spec P f [] ds g p:=by
 refine⟨h.1,?_⟩;intro w x n k y vs q l G m hr c;refine(h.2 w x n k y vs q l G m hr c).mono ?_;rintro e w' ⟨v,rfl,o⟩;refine⟨v,rfl,o.os,o.tape,o.output,o.size,o.old,o.part,?_⟩;obtain⟨lev,own,S,B,C,E,F,_⟩:=o.rep;have J:Inv w x n S w' lev own S (qz [(0,d)] (tj 0 a)) (λj=>if j=0 then v else Go.undef):=by
  refine⟨⟨o.os,q⟩,o.tape,o.output,o.size,o.old,o.part,B,C,λ_ _ _=>rfl,?_,?_⟩
  ·intro s;show aD _ _ (Abs.look [(0,d)] s);by_cases u:s=0
   ·subst u;simpa[Abs.look]using E
   ·simp only[Abs.look,az u];exact .undef _
  ·intro r;show gM _ _ _ _ _ _ r (Abs.look (tj 0 a) r);rw[sH];simpa using F r
 obtain⟨lev',S',b⟩:=Inv.Nk fz J (λ_ _=>trivial);refine⟨lev',own,S',b.priv,b.gV,?_,?_,λi h=>by cases h⟩
 ·have:=b.lV 0;rw[I]at this;simpa using this
 ·intro r;have:=b.objs r;rwa[K]at this
def aC.jT(r:aC):Prop:=r.ms.length<2^30/\r.ns.length<2^30/\r.xs.length<2^30
def aC.jT.small{r:aC}(h:r.jT):r.small:=⟨by have:=h.1;omega,by have:=h.2.1;omega,by have:=h.2.2;omega⟩
def pJ(r:aC)(hr:r.jT):Sq 21 [] [.agg r.cells] [.own 3 (r.ms.map ah.cells),.own 12 (r.ns.map ay.cells),.own 4 (r.xs.map av.cells)] (.agg [.ref 0,.ref 1,.ref 2]):=by
 obtain⟨l1,l2,l3⟩:=hr;simp only[aC.cells];refine aX 23 1 [.cell 2 28] mixed func21 ?_;refine s0 ?_;omega
theorem uw(b:bI)(a:b.small):Sq 22 [] [.agg b.cells] [.own 7 (b.ts.map aR.cells),.own 4 (b.qs.map aN.cells)] (.agg [.int .i64 b.next,.ref 0,.ref 1]):=by
 obtain⟨l1,l2⟩:=a;simp only[bI.cells];refine aX 20 1 [.cell 2 32] mixed func22 ?_;refine s0 ?_;omega
theorem F4(l:bS)(hl:l.bs.length<2^30):Sq 23 [] [.agg l.cells] [.own 4 (l.bs.map bn.cells)] (.agg [.int .i64 l.last,.ref 0]):=by
 simp only[bS.cells];refine aX 14 1 [.cell 2 35] mixed func23 ?_;refine s0 ?_;omega
theorem CG(x:gT)(h:x.fits):Sq 24 [] [.agg x.cells] [.own 3 (x.xC.map aB.cells),.own 8 (x.falls.map dZ.cells)] (.agg [.int .i64 x.code,.int .i64 x.no,.int .i64 x.cw,.ref 0,.ref 1]):=by
 obtain⟨h1,h2⟩:=h;simp only[gT.cells];refine aX 24 1 [.cell 2 64] mixed func24 ?_;refine s0 ?_;omega
def yx(x:gT)(h:x.fits):Sq 24 [] [.agg x.cells] [] (.agg x.cells):=by
 refine Spec.frozen (CG x h) [0,1] ?_ ?_
 ·simp only[gT.cells];rfl
 ·intro r;rcases r with _| _|r
  ·rfl
  ·rfl
  ·rfl
structure au.small(s:au):Prop where
 aA:s.aA.jT
 book:s.book.small
 cL:s.cL.bs.length<2^30
 ps:s.ps.length<2^30
 calls:s.calls.length<2^30
 bQ:s.bQ.length<2^30
 aM:s.aM.length<2^30
 rs:∀x∈s.aM,x.r.fits
def fE(s:au):List D:=[.I s.now,.I s.day,.I s.phase,.ref 0,.ref 1,.ref 2,.I s.book.next,.ref 3,.ref 4,.I s.cL.last,.ref 5,.ref 6,.ref 7,.ref 8,.ref 9]
def KK(s:au):List D:=[.own 3 (s.aA.ms.map ah.cells),.own 12 (s.aA.ns.map ay.cells),.own 4 (s.aA.xs.map av.cells),.own 7 (s.book.ts.map aR.cells),.own 4 (s.book.qs.map aN.cells),.own 4 (s.cL.bs.map bn.cells),.own 3 (pl s.ps),.own 4 (s.calls.map aq.cells),.own 5 (s.bQ.map iW.cells),.own 7 (s.aM.map aS.cells)]
theorem sU(s:au)(a:s.small):Sq 5 [] [.agg s.cells] (KK s) (.agg (fE s)):=by
 have j:=pJ s.aA a.aA;have k:=uw s.book a.book;have l:=F4 s.cL a.cL;have e1:=a.ps;have e2:=a.calls;have e3:=a.bQ;have e4:=a.aM;simp only[aC.cells]at j;simp only[bI.cells]at k;simp only[bS.cells]at l;simp only[au.cells,KK,fE];refine aX 68 1 [.cell 2 41] mixed func5 ?_;simp only[go_sem,seval];(with_reducible and_intros)<;>first|exact .dq|omega|skip
 refine ak.fk [] [] false (by simp) ?_;simp only[go_sem,seval];refine bX.fV j ?_;simp only[go_sem,seval];(with_reducible and_intros)<;>first|exact .dq|omega|skip
 refine ak.fk [] [] false (by simp) ?_;simp only[go_sem,seval];refine bX.fV k ?_;simp only[go_sem,seval];(with_reducible and_intros)<;>first|exact .dq|omega|skip
 refine ak.fk [] [] false (by simp) ?_;simp only[go_sem,seval];refine bX.fV l ?_;simp only[go_sem,seval];(with_reducible and_intros)<;>first|exact .dq|omega|skip
 refine aF.mN (S:=Unit) s.aM.length [1,2,3] [32,48,160,161,162,208,209,256,352,448,544] (λi _=>[(4,.int .i64 i)])
  (λi _=>[(64,.box [.int .i64 s.now,.int .i64 s.day,.int .i64 s.phase,.ref 160,.ref 161,.ref 162,.int .i64 s.book.next,.ref 208,.ref 209,.int .i64 s.cL.last,.ref 256,.ref 352,.ref 448,.ref 544,.ref 1056]),(1056,.own 7 ((s.aM.take i).map aS.cells))]) (λ_ _=>True) () trivial ?_ ?_ ?_
 ·simp only[go_sem,seval]<;>simp
 ·intro i _ d e h _;have m:=aP (c:=aS.cells) s.aM d;have hr:=yx s.aM[i].r (a.rs _ (cZ d));have b:(s.aM.take (i+1)).map aS.cells=(s.aM.take i).map aS.cells++[s.aM[i].cells]:=by
   rw[kM d,jH,map_cons,map_nil]
  have g:((s.aM.take i).map aS.cells).length=i:=by simp;omega
  simp only[aS.cells]at m;simp only[gT.cells]at hr;simp only[go_sem,seval,e,m];(with_reducible and_intros)<;>first|exact .dq|omega|skip
  refine ak.aH hr ?_;simp only[go_sem,seval,h,g];(with_reducible and_intros)<;>first|exact .dq|omega|skip
  refine af.v d ?_;simp only[go_sem,seval,b,aS.cells]
 ·intro _ f _;have n:(s.aM.take s.aM.length).map aS.cells=s.aM.map aS.cells:=by rw[ef]
  simp only[go_sem,seval,f,n]
def aG.same(x y:aG):Bool:=x.kind==y.kind&&(x.who==y.who&&x.cur==y.cur)
theorem C7(x y:aG):Sq 151 [] [.agg x.cells,.agg y.cells] [] (.bool (x.same y)):=by
 simp only[aG.cells];refine aX 24 2 [.tmp 4] mixed func151 ?_;simp only[go_sem,seval];repeat' with_reducible first|apply And.intro|exact .dq|refine ak.aH (by assumption) ?_|refine gr (λh=>?_) λh=>?_|refine .id ?_|refine af.bF aj ?_ ?_|exact aI|simp only[*,go_sem,seval]
 all_goals(simp_all[aG.same])
def mM{x y:aG}:x.less y=true↔x.kind<y.kind\/(x.kind=y.kind/\(x.who<y.who\/(x.who=y.who/\x.cur<y.cur))):=by
 unfold aG.less;split
 ·simp;omega
 ·split<;>simp<;>omega
def wO{x y:aG}:x.same y=true↔x.kind=y.kind/\x.who=y.who/\x.cur=y.cur:=by simp[aG.same]
def Hw{bs:List bn}(h:iK bs=true):bs.Pairwise (λx y=>x.aO.less y.aO=true):=by
 rw[tN];have step:∀k (a:k+1<bs.length),bs[k].aO.less bs[k+1].aO=true:=λk a=>by
  have:=cR.1 h (k+1) (mem_range.2 a);rw[ke a,dO]at this;exact this.2
 have key:∀d k (a:k+d+1<bs.length),bs[k].aO.less bs[k+d+1].aO=true:=by
  intro d;induction d with
  |zero=>intro k a;exact step k a
  |succ d ih =>
   intro k a;have h1:=mM.1 (ih k aj);have h2:=mM.1 (step (k+d+1) a);have b:bs[k].aO.less bs[k+d+1+1].aO=true:=mM.2 aj;exact b
 intro i j hi hj hij;have:=key (j-i-1) i aj;have e:i+(j-i-1)+1=j:=aj
 simpa only[e]using this
def UB{l:bS}(h:l.okB=true):iK l.bs=true/\∀z∈l.bs,bR z.sum=true:=by
 simp only[bS.okB,dO]at h;refine⟨h.1.2,λz c=>?_⟩;obtain⟨i,a,rfl⟩:=mem_iff_getElem.1 c;have:=cR.1 h.1.2 i (mem_range.2 a);have b:k8 l.bs[i]=true:=by
  rcases Nat.eq_zero_or_pos i with rfl|hp
  ·rwa[me a]at this
  ·obtain⟨j,rfl⟩:∃j,i=j+1:=⟨i-1,by omega⟩
   rw[ke a,dO]at this;exact this.1
 simp only[k8,dO]at b;exact b.2.1
def JO(r:aC)(h:r.jT):Sq 21 [] [.agg r.cells] [.undef,.own 12 (r.ns.map ay.cells)] (.agg [.sl 3 (r.ms.map ah.cells),.ref 1,.sl 4 (r.xs.map av.cells)]):=by
 refine Spec.frozen (pJ r h) [0,2] rfl ?_;intro r;rcases r with _| _| _|r<;>rfl
def JN(r:aC)(h:r.jT):Sq 21 [] [.agg r.cells] [.own 3 (r.ms.map ah.cells)] (.agg [.ref 0,.sl 12 (r.ns.map ay.cells),.sl 4 (r.xs.map av.cells)]):=by
 refine Spec.frozen (pJ r h) [1,2] rfl ?_;intro r;rcases r with _| _| _|r<;>rfl
def Iu{B:Type}(f:Nat->List B)(i:Nat):List B:=(range i).flatMap f
def Ba{B:Type}(f:Nat->List B)(i:Nat):Iu f (i+1)=Iu f i++f i:=zW f i
def J7{B:Type}{f:Nat->List B}{m:Nat}(h:∀a,(f a).length<=m)(i:Nat):(Iu f i).length<=m*i:=E7 h i
theorem GF{B:Type}(f:Nat->List B):Iu f 0=[]:=rfl
def aC.none:aC:=⟨[],[],[]⟩
def j4(w c:Int)(x:aq):Bool:=x.who==w&&x.cur==c
def cz(w c:Int):List aq->Int
 | []=>-1
 |x::r=>if j4 w c x then 0 else if cz w c r<0 then -1 else cz w c r+1
theorem yD{w c:Int}:∀{xs:List aq} {i:Nat} (h:i<xs.length),(∀j (b:j<xs.length),j<i->j4 w c xs[j]=false)->j4 w c xs[i]=true->cz w c xs=i
 | [],i,h,_,_=>by simp at h
 |x::r,0,h,_,a=>by
  have a:j4 w c x=true:=a;simp[cz,a]
 |x::r,i+1,h,hn,a=>by
  have d:j4 w c x=false:=hn 0 sT aj;have e:=yD (xs:=r) (i:=i) (su h) (λj b hji=>hn (j+1) (su b) aj) a;simp only[cz,d,e];rw[az sT,az aj];omega
theorem vA{w c:Int}:∀{xs:List aq},(∀j (a:j<xs.length),j4 w c xs[j]=false)->cz w c xs = -1
 | [],_=>rfl
 |x::r,hn=>by
  have b:j4 w c x=false:=hn 0 sT;have d:=vA (xs:=r) (λj a=>hn (j+1) (su a));simp[cz,b,d]
theorem qD{w c:Int}:∀{xs:List aq},¬cz w c xs<0->∃(i:Nat)(h:i<xs.length),cz w c xs=i/\j4 w c xs[i]=true
 | [],h=>by simp[cz]at h
 |t::r,h=>by
  simp only[cz]at h |-;split at h
  ·rename_i a;exact⟨0,by simp,by rw[aE a];rfl,a⟩
  ·rename_i a;split at h
   ·omega
   ·rename_i b;obtain⟨i,hi,e,d⟩:=qD (xs:=r) b;refine⟨i+1,by simp;omega,?_,su d⟩;rw[az a,az b,e];rfl
def nR(w c:Int)(xs:List aq):aq:=xs.getD (cz w c xs).toNat ⟨0,0,0,0⟩
theorem sM(w c:Int)(xs:List aq)(hl:xs.length<2^40):Sq 133 [] [.int .i64 w,.int .i64 c,.sl 4 (xs.map aq.cells)] [] (.int .i64 (cz w c xs)):=by
 refine aX 33 3 [.tmp 6] mixed func133 ?_;refine s0 ?_;refine aF.w1 xs.length 7 [0,1,2] [] (λi _=>∀j (e:j<xs.length),j<i->j4 w c xs[j]=false) (by intros;omega) ?_ ?_
 ·intro i _ l d f k;obtain⟨x,q,m,hli⟩:=uy (c:=aq.cells) xs l;have b:=yD l k;have a:j4 w c xs[i]=false->∀j (e:j<xs.length),j<i+1->j4 w c xs[j]=false:=λp j e hji=>by
   rcases cq j i with h|h
   ·exact k j e h
   ·obtain rfl:j=i:=aj
    exact p
  rw[<-q]at b a;simp only[j4]at b a;simp only[aq.cells]at m;cases g:x.who==w
  ·refine sm (a4 d m g f) ?_;refine bG ?_;refine af.u l (a (by simp[g])) ?_;exact iM
  cases n:x.cur==c
  ·refine sm (a5 d m g n f) ?_;refine bG ?_;refine af.u l (a (by simp[n])) ?_;exact iM
  simp only[go_sem,seval,d,m,g,n,b (by simp[g,n])];exact U0
 ·intro _ o k;simp only[go_sem,seval,o,vA (λj e=>k j e e)]
def yg(xs:List aq)(x:aq)(w c:Int):List aq:=if x.who==w&&x.cur==c then(if 0<x.cw then[x]else[])else if cz w c xs<0 then[]else[nR w c xs]
def yf(xs:List aq)(x:aq)(w:Int)(i:Nat):List aq:=Iu (λk=>yg xs x w k) i
def pI(xs:List aq)(x:aq)(i:Nat):List aq:=Iu (λk=>yf xs x ((k:Int)+1) 3) i
def HY(xs:List aq)(x:aq)(w c:Int):(yg xs x w c).length<=1:=by
 unfold yg;split
 ·split<;>simp
 ·split<;>simp
def HX(xs:List aq)(x:aq)(w:Int)(i:Nat):(yf xs x w i).length<=i:=by
 have:=J7 (f:=λk=>yg xs x w (k:Nat)) (m:=1) (λk=>HY _ _ _ _) i;simpa[yf]using this
def HZ(xs:List aq)(x:aq)(i:Nat):(pI xs x i).length<=3*i:=J7 (λk=>HX _ _ _ _) i
def Jr(xs:List aq)(x:aq)(hl:xs.length<2^30):Sq 134 [] [.sl 4 (xs.map aq.cells),.agg x.cells] [.own 4 ((pI xs x 16).map aq.cells)] (.ref 0):=by
 have c1:=λw c=>sM w c xs aj;refine aX 51 2 [.tmp 4] mixed func134 ?_;simp only[aq.cells];refine s0 ?_;refine aF.wv 16 [0,3] [64] (λi=>[(6,.I ((i:Int)+1)),(5,.ref 592)]) (λi=>[(592,.own 4 ((pI xs x i).map aq.cells))]) ?_ ?_ ?_
 ·simp only[go_sem,seval,pI,GF]<;>simp
 ·intro i _ N _ _ _;obtain⟨w,G⟩:=aV ((i:Int)+1);have M:decide (w<=16)=true:=kN;have D:IntKind.wrap .i64 (w+1)=((i+1:Nat):Int)+1:=eM;have o:pI xs x (i+1)=pI xs x i++yf xs x w 3:=by rw[G];exact Ba _ i
  have C:=HZ xs x i;obtain⟨W,F⟩:=aV (pI xs x i);rw[<-F]at o C |-;rw[<-G];refine sm M ?_;refine aF.wv 3 [0,3,6] [64] (λj=>[(7,.I j),(5,.ref 592)]) (λj=>[(592,.own 4 ((W++yf xs x w j).map aq.cells))]) ?_ ?_ ?_
  ·simp only[go_sem,seval,yf,GF]<;>simp
  ·intro c _ p a e _;have a:decide ((c:Int)<3)=true:=a;have s:yf xs x w (c+1)=yf xs x w c++yg xs x w c:=Ba _ c;have hlc:=HX xs x w c;obtain⟨V,u⟩:=aV (W++yf xs x w c);have hVl:V.length<=100:=by rw[u,cT];omega
   have b:W++yf xs x w (c+1)=V++yg xs x w c:=by rw[s,u,cu]
   have c1:=c1 w c;rw[<-u];clear u s F o;simp only[yg]at b;have rest:(x.who==w&&x.cur==(c:Int))=false->∀{Q:Prop},(cz w c xs<0->W++yf xs x w (c+1)=V->Q)->(∀(k:Nat)(m:k<xs.length),cz w c xs=k->W++yf xs x w (c+1)=V++[xs[k]]->Q)->Q:=λE Q K L=>by
    by_cases h:cz w c xs<0
    ·rw[E,az sT,aE h,append_nil]at b;exact K h b
    ·obtain⟨k,m,q,_⟩:=qD h;rw[E,az sT,az h]at b;exact L k m q (by rw[b,nR,q];simp[m])
   have g:(w==x.who)=(x.who==w):=by rw[gI];simp only[gm];exact eq_comm
   cases f:x.who==w
   ·refine rest (by simp[f]) (λh n=>?_) (λk m h n=>?_)
    ·have d:decide (0<=cz w c xs)=false:=kR;refine sc (a5 a g f d e) c1 ?_;refine af.v p ?_;exact dJ n
    ·have r:=aP (c:=aq.cells) xs m;have B:(k:Int)<(xs.length:Int):=aj
     simp only[aq.cells]at r;rw[h]at c1;refine sc (a5 a g f e r) c1 ?_;refine bG ?_;refine af.v p ?_;exact lG n
   cases l:x.cur==(c:Int)
   ·have t:((c:Int)==x.cur)=false:=by rw[<-l,gI];simp;omega
    refine rest (by simp[l]) (λh n=>?_) (λk m h n=>?_)
    ·have d:decide (0<=cz w c xs)=false:=kR;refine sc (a5 a g f l (a3 t d e)) c1 ?_;refine af.v p ?_;exact dJ n
    ·have r:=aP (c:=aq.cells) xs m;have B:(k:Int)<(xs.length:Int):=aj
     simp only[aq.cells]at r;rw[h]at c1;refine sc (a5 a g f l (a3 t e r)) c1 ?_;refine bG ?_;refine af.v p ?_;exact lG n
   have t:((c:Int)==x.cur)=true:=by rw[<-l,gI];simp;omega
   have J:(w==x.who)=true:=by rw[<-f,gI];simp;omega
   by_cases y:0<x.cw
   ·have d:decide (0<x.cw)=true:=gJ y;simp only[f,l,Bool.and_self,if_true,aE y]at b;refine sm (a5 a f l t (a3 J d e)) ?_;refine bG ?_;refine af.v p ?_;exact lG b
   ·have d:decide (0<x.cw)=false:=kY y;simp only[f,l,Bool.and_self,if_true,az y,append_nil]at b;refine sm (a5 a f l t (a3 J d e)) ?_;refine af.v p ?_;exact dJ b
  ·intro _ a _;have a:decide ((3:Int)<3)=false:=a;refine sm (a2 a D) ?_;refine af.v N ?_;exact dJ o
 ·intro _ _ _;exact iM
def HK(xs:List aq)(x:aq)(a:xs.length<2^30):Sq 134 [] [.sl 4 (xs.map aq.cells),.agg x.cells] [] (.sl 4 ((pI xs x 16).map aq.cells)):=by
 refine Spec.frozen (Jr xs x a) [0] rfl ?_;intro r;rcases r with _|r<;>rfl
def jV(xs:List ah)(hl:xs.length<2^30):Sq 84 [] [.sl 3 (xs.map ah.cells)] [.own 3 (xs.map ah.cells)] (.ref 0):=by
 refine aX 8 1 [.tmp 2] mixed func84 ?_;refine s0 ?_;refine bO.qg afz rfl aj ?_;intro b a;repeat' with_reducible first|apply And.intro|exact .dq|refine ak.aH (by assumption) ?_|refine gr (λh=>?_) λh=>?_|refine .id ?_|refine af.bF aj ?_ ?_|exact aI|simp only[*,go_sem,seval,mY]
 all_goals first
  |omega
  | (rw[a (by assumption)])
  |skip
def pW(xs:List ah)(a:xs.length<2^30):Sq 84 [] [.sl 3 (xs.map ah.cells)] [] (.sl 3 (xs.map ah.cells)):=by
 refine Spec.frozen (jV xs a) [0] rfl ?_;intro r;rcases r with _|r<;>rfl
def mw(xs:List ay)(hl:xs.length<2^30):Sq 85 [] [.sl 12 (xs.map ay.cells)] [.own 12 (xs.map ay.cells)] (.ref 0):=by
 refine aX 8 1 [.tmp 2] mixed func85 ?_;refine s0 ?_;refine bO.qg afA rfl aj ?_;intro b a;repeat' with_reducible first|apply And.intro|exact .dq|refine ak.aH (by assumption) ?_|refine gr (λh=>?_) λh=>?_|refine .id ?_|refine af.bF aj ?_ ?_|exact aI|simp only[*,go_sem,seval,mY]
 all_goals first
  |omega
  | (rw[a (by assumption)])
  |skip
def sn(xs:List ay)(a:xs.length<2^30):Sq 85 [] [.sl 12 (xs.map ay.cells)] [] (.sl 12 (xs.map ay.cells)):=by
 refine Spec.frozen (mw xs a) [0] rfl ?_;intro r;rcases r with _|r<;>rfl
def nW(xs:List av)(hl:xs.length<2^30):Sq 86 [] [.sl 4 (xs.map av.cells)] [.own 4 (xs.map av.cells)] (.ref 0):=by
 refine aX 8 1 [.tmp 2] mixed func86 ?_;refine s0 ?_;refine bO.qg afB rfl aj ?_;intro b a;repeat' with_reducible first|apply And.intro|exact .dq|refine ak.aH (by assumption) ?_|refine gr (λh=>?_) λh=>?_|refine .id ?_|refine af.bF aj ?_ ?_|exact aI|simp only[*,go_sem,seval,mY]
 all_goals first
  |omega
  | (rw[a (by assumption)])
  |skip
def mV(xs:List av)(a:xs.length<2^30):Sq 86 [] [.sl 4 (xs.map av.cells)] [] (.sl 4 (xs.map av.cells)):=by
 refine Spec.frozen (nW xs a) [0] rfl ?_;intro r;rcases r with _|r<;>rfl
def nX(xs:List aR)(hl:xs.length<2^30):Sq 87 [] [.sl 7 (xs.map aR.cells)] [.own 7 (xs.map aR.cells)] (.ref 0):=by
 refine aX 8 1 [.tmp 2] mixed func87 ?_;refine s0 ?_;refine bO.qg afC rfl aj ?_;intro b a;repeat' with_reducible first|apply And.intro|exact .dq|refine ak.aH (by assumption) ?_|refine gr (λh=>?_) λh=>?_|refine .id ?_|refine af.bF aj ?_ ?_|exact aI|simp only[*,go_sem,seval,mY]
 all_goals first
  |omega
  | (rw[a (by assumption)])
  |skip
def rF(xs:List aR)(a:xs.length<2^30):Sq 87 [] [.sl 7 (xs.map aR.cells)] [] (.sl 7 (xs.map aR.cells)):=by
 refine Spec.frozen (nX xs a) [0] rfl ?_;intro r;rcases r with _|r<;>rfl
def qE(xs:List aN)(hl:xs.length<2^30):Sq 88 [] [.sl 4 (xs.map aN.cells)] [.own 4 (xs.map aN.cells)] (.ref 0):=by
 refine aX 8 1 [.tmp 2] mixed func88 ?_;refine s0 ?_;refine bO.qg afD rfl aj ?_;intro b a;repeat' with_reducible first|apply And.intro|exact .dq|refine ak.aH (by assumption) ?_|refine gr (λh=>?_) λh=>?_|refine .id ?_|refine af.bF aj ?_ ?_|exact aI|simp only[*,go_sem,seval,mY]
 all_goals first
  |omega
  | (rw[a (by assumption)])
  |skip
def tY(xs:List aN)(a:xs.length<2^30):Sq 88 [] [.sl 4 (xs.map aN.cells)] [] (.sl 4 (xs.map aN.cells)):=by
 refine Spec.frozen (qE xs a) [0] rfl ?_;intro r;rcases r with _|r<;>rfl
def pV(xs:List bn)(hl:xs.length<2^30):Sq 89 [] [.sl 4 (xs.map bn.cells)] [.own 4 (xs.map bn.cells)] (.ref 0):=by
 refine aX 8 1 [.tmp 2] mixed func89 ?_;refine s0 ?_;refine bO.qg afE rfl aj ?_;intro b a;repeat' with_reducible first|apply And.intro|exact .dq|refine ak.aH (by assumption) ?_|refine gr (λh=>?_) λh=>?_|refine .id ?_|refine af.bF aj ?_ ?_|exact aI|simp only[*,go_sem,seval,mY]
 all_goals first
  |omega
  | (rw[a (by assumption)])
  |skip
def vC(xs:List bn)(a:xs.length<2^30):Sq 89 [] [.sl 4 (xs.map bn.cells)] [] (.sl 4 (xs.map bn.cells)):=by
 refine Spec.frozen (pV xs a) [0] rfl ?_;intro r;rcases r with _|r<;>rfl
theorem o8(xs:List aq)(hl:xs.length<2^30):Sq 91 [] [.sl 4 (xs.map aq.cells)] [.own 4 (xs.map aq.cells)] (.ref 0):=by
 refine aX 8 1 [.tmp 2] mixed func91 ?_;simp only[go_sem,seval];refine bO.qg Vw rfl aj ?_;intro b a;repeat' with_reducible first|apply And.intro|exact .dq|refine ak.aH (by assumption) ?_|refine gr (λh=>?_) λh=>?_|refine .id ?_|refine af.bF aj ?_ ?_|exact aI|simp only[*,go_sem,seval,mY]
 all_goals first
  |omega
  | (rw[a (by assumption)])
  |skip
theorem AJ(xs:List aq)(a:xs.length<2^30):Sq 91 [] [.sl 4 (xs.map aq.cells)] [] (.sl 4 (xs.map aq.cells)):=by
 refine Spec.frozen (o8 xs a) [0] rfl ?_;intro r;rcases r with _|r<;>rfl
def vD(xs:List iW)(hl:xs.length<2^30):Sq 92 [] [.sl 5 (xs.map iW.cells)] [.own 5 (xs.map iW.cells)] (.ref 0):=by
 refine aX 8 1 [.tmp 2] mixed func92 ?_;refine s0 ?_;refine bO.qg afG rfl aj ?_;intro b a;repeat' with_reducible first|apply And.intro|exact .dq|refine ak.aH (by assumption) ?_|refine gr (λh=>?_) λh=>?_|refine .id ?_|refine af.bF aj ?_ ?_|exact aI|simp only[*,go_sem,seval,mY]
 all_goals first
  |omega
  | (rw[a (by assumption)])
  |skip
def CX(xs:List iW)(a:xs.length<2^30):Sq 92 [] [.sl 5 (xs.map iW.cells)] [] (.sl 5 (xs.map iW.cells)):=by
 refine Spec.frozen (vD xs a) [0] rfl ?_;intro r;rcases r with _|r<;>rfl
def vE(xs:List aB)(hl:xs.length<2^30):Sq 73 [] [.sl 3 (xs.map aB.cells)] [.own 3 (xs.map aB.cells)] (.ref 0):=by
 refine aX 8 1 [.tmp 2] mixed func73 ?_;refine s0 ?_;refine bO.qg Q9 rfl aj ?_;intro b a;repeat' with_reducible first|apply And.intro|exact .dq|refine ak.aH (by assumption) ?_|refine gr (λh=>?_) λh=>?_|refine .id ?_|refine af.bF aj ?_ ?_|exact aI|simp only[*,go_sem,seval,mY]
 all_goals first
  |omega
  | (rw[a (by assumption)])
  |skip
def CZ(xs:List aB)(a:xs.length<2^30):Sq 73 [] [.sl 3 (xs.map aB.cells)] [] (.sl 3 (xs.map aB.cells)):=by
 refine Spec.frozen (vE xs a) [0] rfl ?_;intro r;rcases r with _|r<;>rfl
def C0(xs:List dZ)(hl:xs.length<2^30):Sq 182 [] [.sl 8 (xs.map dZ.cells)] [.own 8 (xs.map dZ.cells)] (.ref 0):=by
 refine aX 8 1 [.tmp 2] mixed func182 ?_;refine s0 ?_;refine bO.qg abv rfl aj ?_;intro b a;repeat' with_reducible first|apply And.intro|exact .dq|refine ak.aH (by assumption) ?_|refine gr (λh=>?_) λh=>?_|refine .id ?_|refine af.bF aj ?_ ?_|exact aI|simp only[*,go_sem,seval,mY]
 all_goals first
  |omega
  | (rw[a (by assumption)])
  |skip
def AL(xs:List dZ)(a:xs.length<2^30):Sq 182 [] [.sl 8 (xs.map dZ.cells)] [] (.sl 8 (xs.map dZ.cells)):=by
 refine Spec.frozen (C0 xs a) [0] rfl ?_;intro r;rcases r with _|r<;>rfl
def C1(ps:List kq)(a:ps.length<2^30):Sq 90 [] [.sl 3 (pl ps)] [] (.sl 3 (pl ps)):=by
 refine Spec.frozen (AM ps a) [0] rfl ?_;intro r;rcases r with _|r<;>rfl
def uu(z:Nat)(r:List D):Prop:=r.length=z/\(∀d∈r,br d)/\∀d∈r,iS d=true
structure YU(τ:TypeId->TypeId)(ρ:FuncId->FuncId)(z by_:Nat)(zc:List D)(fo:Func):Prop where
 rn:CU prog τ ρ 215 3
 t0:τ 0=0
 t3:τ 3=3
 t4:τ 4=4
 pos:1<=z
 big:by_<=1024
 sl:bY prog (τ 37)=.slice z by_ true
 zel:bW prog (τ 37)=some zc
 zc:uu z zc
 o1:prog.funcs[ρ 243]?=some fo
 o2 : (fo.name == "runtime.NumGoroutine") = false
 o3:fo.body.isNone=true
 o4:Extern.findNext fo=none
 o5:Extern.find fo=some (Extern.SlicesOverlaps.overlaps fo.params fo.resultTypes)
 o6:fo.params[0]?=some (τ 37)
 np:(τ 37==wA||τ 37==wC)=false
section
variable{τ:TypeId->TypeId}{ρ:FuncId->FuncId}{z by_:Nat}{zc:List D}{fo:Func}(H:YU τ ρ z by_ zc fo)
include H
def Nr(R:List (List D))(q:List D)(d:R.length<2^30) :
  Sq (ρ 215) [.own z R,.own z [q]] [.ref 0,.I R.length,.ref 1] [.undef,.undef,.own z (R++[q])] (.ref 2):=by
 have c:=H.big;have hz:=H.pos;have e:(by_+1)*(R.length+1)<=2^45:=Nat.le_trans (Nat.mul_le_mul (Nat.succ_le_succ c) (Nat.succ_le_of_lt (Nat.lt_of_lt_of_le (Nat.lt_succ_self _) d))) (by decide);have a:=H.np;simp only[wA,wC]at a;refine zG 95 3 [.tmp 6] (H.rn) mixed func215 λb=>?_;simp only[Ac,L4,ya,Ad,L3,toList_toArray,map_cons,map_nil,H.t0,H.t3,H.t4,eC,Bool.not_true,Bool.not_false,Bool.true_or,Bool.false_or,Bool.and_true,cF,dO]at b |-;simp only[go_sem,seval,H.sl,Nat.zero_mul,a];exact⟨by omega,by omega,Nat.le_trans (Nat.mul_le_mul_right _ aj) (Nat.le_trans e (by decide))⟩
def Ns(R:List (List D))(q:List D)(i:Nat)(hl:R.length<2^30)(hi:i<R.length)(L:∀r∈R,uu z r)(hq:uu z q) :
  Sq (ρ 215) [.own z R,.own z [q]] [.ref 0,.I i,.ref 1] [.undef,.undef,.own z (R.take i++[q]++R.drop i)] (.ref 2):=by
 have J:∀r∈R,r.length=z:=λr hr=>(L r hr).1;have hp:∀r∈R,∀d∈r,br d:=λr hr=>(L r hr).2.1;have V:∀r∈R,∀d∈r,iS d=true:=λr hr=>(L r hr).2.2;have y:∀r∈R.take i++[q]++R.drop i,uu z r:=λr hr=>by
  rw[mem_append,mem_append,kK]at hr;rcases hr with(hr|rfl)|hr
  ·exact L r (mem_of_mem_take hr)
  ·exact hq
  ·exact L r (mem_of_mem_drop hr)
 have hb:=H.big;obtain⟨ac,ad,_⟩:=H.zc;have hz1:=H.pos;have a:=H.np;simp only[wA,wC]at a;refine Spec.NZ (hr:=[.own z [q]]) (ds:=[.I i,.ref 1]) (by intro h;rw[h]at hi;simp at hi) (λr hr=>(y r hr).1) (λr hr=>(y r hr).2.1) ?_ ?_ ?_
 ·intro d hd;simp only[mem_cons,not_mem_nil,or_false]at hd;rcases hd with rfl|rfl<;>simp[D.names]
 ·intro h hh;simp only[mem_cons,not_mem_nil,or_false]at hh;exact⟨_,_,hh⟩
 intro cap f;have g:(eL R cap z).length=cap*z:=nK J f;have W:((i:Int)==(R.length:Int))=false:=by simp;omega
 have hw:IntKind.wrap .i64 ((R.length:Int)+1)=((R.length+1:Nat):Int):=eM;have w:IntKind.wrap .i64 ((i:Int)+1)=((i+1:Nat):Int):=eM;have ab:IntKind.wrap .i64 (((R.length+1:Nat):Int)-i)=((R.length+1-i:Nat):Int):=eM;have O:iy (i*z) z (R.length-i) (.box (eL R cap z))=.sl z (R.drop i):=DK J hp aj f;have n:(R.take i).length=i:=by rw[dw];omega
 have Q:(R.drop i).length=R.length-i:=dW;have aa:iy 0 z i (.box (eL R cap z))=.sl z (R.take i):=by
  have:=J1 (z:=z) (off:=0) (cs:=eL R cap z) (R:=R.take i) (by rw[drop_zero,n,uz J aj]) (λr hr=>J r (mem_of_mem_take hr)) (λr hr=>hp r (mem_of_mem_take hr)) (by rw[n,g,Nat.zero_add];exact gK z aj);rw[n]at this;exact this
 have P:(R.drop i).flatten.length=(R.length-i)*z:=by rw[jq λr hr=>J r (mem_of_mem_drop hr),Q]
 have m1:(i+1)*z+(R.length-i)*z=(R.length+1)*z:=by rw[<-Nat.add_mul];congr 1;omega
 have m2:i*z+z=(i+1)*z:=by rw[Nat.add_mul,Nat.one_mul]
 by_cases T:R.length+1<=cap
 ·left;have m3:(R.length+1)*z<=cap*z:=gK z T;have m4:(i+1)*z<=cap*z:=gK z aj;obtain⟨G,s⟩:∃X,X=dc (eL R cap z) ((i+1)*z) (R.drop i).flatten:=⟨_,rfl⟩
  obtain⟨Y2,v⟩:∃X,X=dc G (i*z) ([q]:List (List D)).flatten:=⟨_,rfl⟩
  have p:G.length=cap*z:=by rw[s,eF (by rw[g,P,m1];exact m3),g]
  have F:([q]:List (List D)).flatten.length=z:=by simp[hq.1]
  have M:Y2.length=cap*z:=by rw[v,eF (by rw[p,F,m2];exact m4),p]
  have E:∀d∈Y2,iS d=true:=by
   rw[v,s];exact tJ (tJ (Ax V) (sZ λr hr=>V r (mem_of_mem_drop hr))) (sZ λr hr=>by rw[kK.1 hr];exact hq.2.2)
  refine⟨Y2,?_,M,?_,?_⟩
  ·simp;omega
  ·have e0:(R.take i++[q]++R.drop i).length*z=(i+1)*z+(R.drop i).flatten.length:=by
    rw[P,m1];congr 1;simp;omega
   have e1:(R.take i++[q]++R.drop i).flatten=(R.take i).flatten++([q]:List (List D)).flatten++(R.drop i).flatten:=by simp
   have e2:G.take (i*z)=(R.take i).flatten:=by
    rw[s,wX aj (by rw[g];exact m4),uz J aj]
   have e3:G.take ((i+1)*z+(R.drop i).flatten.length)=(eL R cap z).take ((i+1)*z)++(R.drop i).flatten:=by
    rw[s,sS (by rw[g];exact m4)]
   rw[e0,e1,v];unfold dc;have U:(G.take (i*z)++([q]:List (List D)).flatten).length=(i+1)*z:=by rw[cT,F,dw,p];omega
   rw[take_append,take_of_length_le (by rw[U];omega),U,F,e2];congr 1;rw[m2,Nat.add_sub_cancel_left];have:=congrArg (drop ((i+1)*z)) e3;have hX:((eL R cap z).take ((i+1)*z)).length=(i+1)*z:=by rw[dw,g];omega
   rw[drop_take,Nat.add_sub_cancel_left,drop_append_of_le_length aj]at this;have Y:((eL R cap z).take ((i+1)*z)).drop ((i+1)*z)=[]:=drop_eq_nil_of_le aj;rw[Y,nil_append]at this;exact this
  ·show Sq (ρ 215) [.box (eL R cap z),.own z [q]] [.bz 0 0 z R.length cap,.I i,.ref 1] [.box Y2,.undef] (.bz 0 0 z (R.take i++[q]++R.drop i).length cap);refine zG 95 3 [.tmp 6] (H.rn) mixed func215 λt=>?_;simp only[Ac,L4,ya,Ad,L3,toList_toArray,map_cons,map_nil,H.t0,H.t3,H.t4,eC,Bool.not_true,Bool.not_false,Bool.true_or,Bool.false_or,Bool.and_true,cF,dO]at t |-;simp only[go_sem,seval,H.sl,Nat.zero_mul,a,W,hw];refine⟨⟨by omega,f⟩,?_⟩;with_reducible refine bO.cap (r:=0) (off:=0) (l:=R.length) (c:=cap) H.sl ?_ ?_ ?_
   ·rfl
   ·omega
   simp only[go_sem,seval,H.sl,Nat.zero_mul,a];refine aU.cQ (λh=>?_) (λh=>?_)
   ·exfalso;omega
   simp only[go_sem,seval,H.sl,Nat.zero_mul,a,hw,w];refine⟨by omega,by omega,?_⟩;refine ak.sem rfl ?_;with_reducible refine bO.overlaps (k:=ρ 243) (fn:=fo) (z:=z) (r2:=1) (z2:=z) (rows:=[q]) (r:=0) (off:=(i+1)*z) (l:=R.length-i) (c:=cap-(i+1)) (cs:=eL R cap z) ?_ H.o1 H.o2 H.o3 H.o4 H.o5 H.o6 H.sl ?_ ?_ ?_ ?_ ?_ ?_
   iterate 6 (first|rfl|omega)
   simp only[go_sem,seval,H.sl,Nat.zero_mul,a,w];refine⟨dH.mk (by simp only[t]),tL.mk (by kernel_rfl),⟨by omega,by omega⟩,tL.mk (by kernel_rfl),⟨by omega,by omega⟩,?_⟩;have u:min (R.length+1-i) (R.length-i)=R.length-i:=aj
   with_reducible refine bO.J2 (z:=z) (r:=0) (off:=(i+1)*z) (l:=R.length-i) (c:=cap-0-(i+1)) (ly:=R.length+1-i) (cs:=eL R cap z) (rows:=R.drop i) H.sl ?_ ?_ ?_ ?_ ?_ ?_
   ·rfl
   ·rfl
   ·show _=z/\_=_/\_<=_/\gR z (bA _ (iy (i*z) z (min (R.length+1-i) (R.length-i)) (.box (eL R cap z))))=some _;rw[u,O];exact⟨rfl,rfl,by omega,by simp[gR,bA]⟩
   ·omega
   ·rw[u,g,m1];exact m3
   rw[<-s,u];simp only[go_sem,seval,H.sl,Nat.zero_mul,a];refine⟨⟨by omega,by omega⟩,?_⟩;have j:min 1 (R.length+1-i)=1:=aj
   with_reducible refine bO.J2 (z:=z) (r:=0) (off:=i*z) (l:=R.length+1-i) (c:=cap-0-i) (ly:=1) (cs:=G) (rows:=[q]) H.sl ?_ ?_ ?_ ?_ ?_ ?_
   ·rfl
   ·rfl
   ·refine⟨[q],show(if z=z then some [q]else none)=some [q]from aE rfl,rfl,by omega,?_⟩;rw[j];rfl
   ·omega
   ·rw[j,p,Nat.one_mul,m2];exact m4
   rw[<-v,j];simp only[go_sem,seval,H.sl,Nat.zero_mul,a];exact⟨⟨by simp;omega,rfl⟩,fT E⟩
 ·right;have m5:(by_+1)*(R.length+1)<=2^45:=Nat.le_trans (Nat.mul_le_mul (Nat.succ_le_succ hb) (Nat.succ_le_of_lt (Nat.lt_of_lt_of_le (Nat.lt_succ_self _) hl))) (by decide);show Sq (ρ 215) [.box (eL R cap z),.own z [q]] [.bz 0 0 z R.length cap,.I i,.ref 1] [.undef,.undef,.own z (R.take i++[q]++R.drop i)] (.ref 2);refine zG 95 3 [.tmp 6] (H.rn) mixed func215 λt=>?_;simp only[Ac,L4,ya,Ad,L3,toList_toArray,map_cons,map_nil,H.t0,H.t3,H.t4,eC,Bool.not_true,Bool.not_false,Bool.true_or,Bool.false_or,Bool.and_true,cF,dO]at t |-;simp only[go_sem,seval,H.sl,Nat.zero_mul,a,W,hw];refine⟨⟨by omega,f⟩,?_⟩;with_reducible refine bO.cap (r:=0) (off:=0) (l:=R.length) (c:=cap) H.sl ?_ ?_ ?_
  ·rfl
  ·omega
  simp only[go_sem,seval,H.sl,Nat.zero_mul,a];refine aU.cQ (λh=>?_) (λh=>?_)
  ·simp only[go_sem,seval,H.sl,Nat.zero_mul,a,hw,w,ab];refine⟨by omega,?_⟩;with_reducible refine bO.MS (k:=.i64) (k2:=.i64) (m:=R.length+1-i) (r:=0) (off:=0) (l:=i) (c:=cap) (rows:=R.take i) (zc:=zc) H.sl ty3 ?_ ?_ H.zel ac ad ?_ ?_ ?_ ?_ ?_ ?_ ?_ ?_ ?_
   ·rfl
   ·rfl
   ·omega
   ·omega
   ·omega
   ·omega
   ·show bA _ (iy 0 z i (.box (eL R cap z)))=_;rw[aa];rfl
   ·exact n
   ·rw[show i+(R.length+1-i)=R.length+1 by omega];exact m5
   ·rfl
   obtain⟨Z,hZ⟩:∃X,X=replicate (R.length+1-i) zc:=⟨_,rfl⟩
   have N:Z.length=R.length+1-i:=by rw[hZ];simp
   obtain⟨O1,B⟩:∃X,X=R.take i++Z:=⟨_,rfl⟩
   have o:O1.length=R.length+1:=by rw[B,cT,n,N];omega
   obtain⟨O2,C⟩:∃X,X=splice O1 i [q]:=⟨_,rfl⟩
   have x:O2.length=R.length+1:=by rw[C,va (by rw[o];show i+1<=_;omega),o]
   obtain⟨O3,K⟩:∃X,X=splice O2 (i+1) (R.drop i):=⟨_,rfl⟩
   have S:O3=R.take i++[q]++R.drop i:=by
    have h2:O2=(R.take i++[q])++Z.drop 1:=by rw[C,B];exact JD n.symm
    rw[K,h2,JC (by rw[cT,n];rfl) (by rw[Q,dW,N];omega)]
   rw[<-hZ,<-B];simp only[go_sem,seval,H.sl,Nat.zero_mul,a,o];refine⟨⟨by omega,by omega⟩,?_⟩;have b:min 1 (R.length+1-i)=1:=aj
   with_reducible refine bO.J3 (z:=z) (r:=656) (lo:=i) (len:=R.length+1-i) (ly:=1) (R:=O1) (rows:=[q]) H.sl ?_ ?_ ?_ ?_ ?_ ?_ ?_
   ·rfl
   ·rfl
   ·refine⟨[q],show(if z=z then some [q]else none)=some [q]from aE rfl,rfl,by omega,?_⟩;rw[b];rfl
   ·omega
   ·rw[b,o];omega
   ·rw[b];omega
   rw[<-C,b];simp only[go_sem,seval,H.sl,Nat.zero_mul,a,x,w];refine⟨dH.mk (by simp only[t]),tL.mk (by kernel_rfl),⟨by omega,by omega⟩,tL.mk (by kernel_rfl),⟨by omega,f⟩,?_⟩;have e:min (R.length-i) (R.length-i)=R.length-i:=aj
   with_reducible refine bO.J3 (z:=z) (r:=656) (lo:=i+1) (len:=R.length-i) (ly:=R.length-i) (R:=O2) (rows:=R.drop i) H.sl ?_ ?_ ?_ ?_ ?_ ?_ ?_
   ·rfl
   ·rfl
   ·show _=z/\_=_/\_<=_/\gR z (bA _ (iy (i*z) z (min (R.length-i) (R.length-i)) (.box (eL R cap z))))=some _;rw[e,O];exact⟨rfl,rfl,by omega,by simp[gR,bA]⟩
   ·omega
   ·rw[e,x];omega
   ·rw[e];omega
   rw[<-K,e,S];simp only[go_sem,seval,H.sl,Nat.zero_mul,a]
  ·exfalso;omega
def Ls(R:List (List D))(q:List D)(i:Nat)(a:R.length<2^30)(hi:i<=R.length)(b:∀r∈R,uu z r)(c:uu z q) :
  Sq (ρ 215) [.own z R,.own z [q]] [.ref 0,.I i,.ref 1] [.undef,.undef,.own z (R.take i++[q]++R.drop i)] (.ref 2):=by
 rcases cq i R.length with h|h
 ·exact Ns H R q i a h b c
 ·obtain rfl:i=R.length:=aj
  have:=Nr H R q a;rw[ef,mT,append_nil];exact this
end
def ot(x:aq):uu 4 x.cells:=⟨rfl,λd a=>by simp only[aq.cells,mem_cons,not_mem_nil,or_false]at a;rcases a with rfl|rfl|rfl|rfl<;>simp[go_sem,seval,br,cG,D.names],λd a=>by simp only[aq.cells,mem_cons,not_mem_nil,or_false]at a;rcases a with rfl|rfl|rfl|rfl<;>rfl⟩
theorem Nt:YU (λt=>if t=37 then 37 else t) (λk=>if k=215 then 215 else if k=243 then 243 else if k=244 then 244 else k) 4 32 (aq.cells ⟨0,0,0,0⟩) Tryz.f243 where
 rn:=wJ func215 func215
 t0:=ct
 t3:=ct
 t4:=ct
 np:=ct
 pos:=aj
 big:=aj
 sl:=Vw
 zel:=SW
 zc:=ot _
 o1:=func243
 o2:=ct
 o3:=ct
 o4:=ct
 o5:=ct
 o6:=ct
theorem Fc(xs:List aq)(x:aq)(i:Nat)(b:xs.length<2^30)(a:i<=xs.length):Sq 215 [.own 4 (xs.map aq.cells),.own 4 [x.cells]] [.ref 0,.int .i64 i,.ref 1] [.undef,.undef,.own 4 ((xs.take i++[x]++xs.drop i).map aq.cells)] (.ref 2):=by
 have:=Ls Nt (xs.map aq.cells) x.cells i (by simpa using b) (by simpa using a) (λr hr=>by obtain⟨y,_,rfl⟩:=mem_map.1 hr;exact ot y) (ot x);rw[show(xs.take i++[x]++xs.drop i).map aq.cells=(xs.map aq.cells).take i++[x.cells]++(xs.map aq.cells).drop i by simp];exact this
def Spec.Km{P:Program}{f:FuncId}{m ds ds' b:List D}{d:D}(h:Abs.Spec P f m ds b d)(B:ju (λ_=>none) (λ_=>false) ds' ds):Abs.Spec P f m ds' b d:=by
 obtain⟨l,q⟩:=vW B;refine⟨h.1,?_⟩;intro w k p c e vs u g t j hr a;refine h.2 w k p c e vs u g t (by rw[j,l]) ?_ a;intro i v y E o;have x:i<ds'.length:=by rw[l];exact(cJ.1 o).1
 have n:ds'[i]?=some ds'[i]:=ec x;exact iR.rep (C:=cx w k e) (C':=cx w k e) (λ_ _ h=>h) (by intro s r h;cases h) (by intro s _ h;cases h) (hr i v _ E n) (q i _ _ n o)
structure au.mid(s:au):Prop where
 small:s.small
 bs:s.cL.bs.length<2^20
 qs:s.book.qs.length<2^20
 ns:s.aA.ns.length<2^20
theorem ZH(n0 n1 a b c:Int)(d r1 r2 r3 r4 r5 r6 e f g:List (List D)):(eu [0,1,2,3,4,5,6,7,8,9] (qz [(0,.agg [.int .i64 n0,.int .i64 n1,.int .i64 a,.ref 0,.ref 1,.ref 2,.int .i64 b,.ref 3,.ref 4,.int .i64 c,.ref 5,.ref 6,.ref 7,.ref 8,.ref 9])] (tj 0 [.own 3 d,.own 12 r1,.own 4 r2,.own 7 r3,.own 4 r4,.own 4 r5,.own 3 r6,.own 4 e,.own 5 f,.own 7 g]))).t 0=.agg [.int .i64 n0,.int .i64 n1,.int .i64 a,.sl 3 d,.sl 12 r1,.sl 4 r2,.int .i64 b,.sl 7 r3,.sl 4 r4,.int .i64 c,.sl 4 r5,.sl 3 r6,.sl 4 e,.sl 5 f,.sl 7 g]:=by
 kernel_rfl
def Ua(d:D)(a r1 r2 r3 r4 r5 r6 b c e:List (List D))(r:Nat):(eu [0,1,2,3,4,5,6,7,8,9] (qz [(0,d)] (tj 0 [.own 3 a,.own 12 r1,.own 4 r2,.own 7 r3,.own 4 r4,.own 4 r5,.own 3 r6,.own 4 b,.own 5 c,.own 7 e]))).o r=[].getD r .undef:=by
 rcases r with _| _| _| _| _| _| _| _| _| _|r<;>kernel_rfl
def jA(s:au)(a:s.small):Sq 5 [] [.agg s.cells] [] (.agg s.cells):=by
 have h:=sU s a;simp only[KK,fE]at h;simp only[au.cells];simp only[au.cells]at h;exact Spec.frozen h [0,1,2,3,4,5,6,7,8,9] (ZH ..) (λr=>Ua ..)
structure YQ(τ:TypeId->TypeId)(ρ:FuncId->FuncId)(z by_:Nat)(zc:List D):Prop where
 rn:CU prog τ ρ 214 3
 t0:τ 0=0
 t3:τ 3=3
 t4:τ 4=4
 big:by_<=1024
 sl:bY prog (τ 37)=.slice z by_ true
 zel:bW prog (τ 37)=some zc
 zc:uu z zc
theorem Ld{τ:TypeId->TypeId}{ρ:FuncId->FuncId}{z by_:Nat}{zc:List D}(H:YQ τ ρ z by_ zc)(R:List (List D))(i j:Nat)(hl:R.length<2^30)(hij:i<j)(F:j<=R.length)(s:∀r∈R,uu z r) :
  Sq (ρ 214) [.own z R] [.ref 0,.int .i64 i,.int .i64 j] [.undef,.own z (R.take i++R.drop j)] (.ref 1):=by
 have y:∀r∈R,r.length=z:=λr hr=>(s r hr).1;have S:∀r∈R,∀d∈r,br d:=λr hr=>(s r hr).2.1;have x:∀r∈R,∀d∈r,iS d=true:=λr hr=>(s r hr).2.2;have k:∀r∈R.take i++R.drop j,uu z r:=λr hr=>by
  rw[mem_append]at hr;rcases hr with hr|hr
  ·exact s r (mem_of_mem_take hr)
  ·exact s r (mem_of_mem_drop hr)
 obtain⟨B,K,L⟩:=H.zc;refine Spec.NZ (hr:=[]) (ds:=[.int .i64 i,.int .i64 j]) (by intro h;rw[h]at F;simp at F;omega) (λr hr=>(k r hr).1) (λr hr=>(k r hr).2.1) ?_ (by simp) ?_
 ·intro d M;simp only[mem_cons,not_mem_nil,or_false]at M;rcases M with rfl|rfl<;>simp[D.names]
 intro cap b;left;obtain⟨N,hN⟩:=aV (R.length-(j-i));have n:(R.take i++R.drop j).length=N:=by simp;omega
 obtain⟨E,f⟩:∃X,X=dc (eL R cap z) (i*z) (R.drop j).flatten:=⟨_,rfl⟩
 obtain⟨C,g⟩:∃X,X=dc E (N*z) (replicate (R.length-N) zc).flatten:=⟨_,rfl⟩
 have o:(eL R cap z).length=cap*z:=nK y b;have p:(R.drop j).length=R.length-j:=dW;have u:(R.drop j).flatten.length=(R.length-j)*z:=by rw[jq λr hr=>y r (mem_of_mem_drop hr),p]
 have I:(replicate (R.length-N) zc).flatten.length=(R.length-N)*z:=oJ B _;have O:i*z+(R.length-j)*z=N*z:=by rw[<-Nat.add_mul];congr 1;omega
 have J:N*z<=cap*z:=gK z aj;have P:N*z+(R.length-N)*z<=cap*z:=by rw[<-Nat.add_mul];exact gK z aj
 have a:E.length=cap*z:=by rw[f,eF (by rw[o,u,O];exact J),o]
 have t:C.length=cap*z:=by rw[g,eF (by rw[a,I];exact P),a]
 have q:∀d∈C,iS d=true:=by
  rw[g,f];exact tJ (tJ (Ax x) (sZ λr hr=>x r (mem_of_mem_drop hr))) (sZ λr hr=>by rw[(mem_replicate.1 hr).2];exact L)
 refine⟨C,by rw[n];omega,t,?_,?_⟩
 ·rw[n,g,wX (cX _) (by rw[a];exact J),f];have e:N*z=i*z+(R.drop j).flatten.length:=by rw[u,O]
  rw[e,sS (by rw[o];exact gK z aj),uz y aj];simp
 ·rw[n];show Sq (ρ 214) [.box (eL R cap z)] [.bz 0 0 z R.length cap,.int .i64 i,.int .i64 j] [.box C] (.bz 0 0 z N cap);refine zG 33 3 [.tmp 6] (H.rn) mixed func214 λv=>?_;simp only[Ac,L4,ya,Ad,L3,toList_toArray,map_cons,map_nil,H.t0,H.t3,H.t4,eC,Bool.not_true,Bool.not_false,Bool.true_or,Bool.false_or,Bool.and_true,cF,dO]at v |-;simp only[go_sem,seval,H.sl,Nat.zero_mul];with_reducible refine bO.Vr (r:=0) (off:=0) (l:=R.length) (c:=cap) (k1:=.i64) (k2:=.i64) (k3:=.i64) (i:=i) (j:=j) (m:=R.length) H.sl ?_ ?_ ?_ ?_ ?_ ?_ ?_ ?_ ?_ ?_
  iterate 9 (first|rfl|omega)
  simp only[go_sem,seval,H.sl,Nat.zero_mul];have G:((i:Int)==(j:Int))=false:=by simp;omega
  simp only[G,go_sem,seval,H.sl,Nat.zero_mul];refine⟨dH.mk (by simp only[v]),tL.mk (by kernel_rfl),by omega,tL.mk (by kernel_rfl),⟨by omega,b⟩,?_⟩;have Q:iy (j*z) z (R.length-j) (.box (eL R cap z))=.sl z (R.drop j):=DK y S F b;with_reducible refine bO.TB (r:=0) (off:=0) (l:=i) (c:=cap) (cs:=eL R cap z) (rows2:=R.drop j) H.sl H.sl ?_ ?_ ?_ ?_ ?_ ?_ ?_
  ·rfl
  ·rfl
  ·show gR z (bA _ (iy (j*z) z (R.length-j) (.box (eL R cap z))))=_;rw[Q];simp[bA,gR]
  ·omega
  ·have:=H.big;omega
  ·intro _;have w:i+(R.drop j).length=N:=by rw[p];omega
   refine⟨?_,?_⟩
   ·rw[nK y b,w,Nat.zero_add];exact J
   ·rw[Nat.zero_add,<-f];simp only[go_sem,seval,H.sl,Nat.zero_mul,w];refine⟨⟨by omega,by omega⟩,?_⟩;with_reducible refine bO.clear (r:=0) (off:=N*z) (l:=R.length-N) (c:=cap-N) (cs:=E) (zc:=zc) H.sl ?_ ?_ ?_ ?_ ?_ ?_ ?_
    ·rfl
    ·rfl
    ·exact H.zel
    ·exact B
    ·exact K
    ·rw[a];exact P
    ·rw[<-g];simp only[go_sem,seval];exact fT q
  ·intro h;exfalso;rw[p]at h;omega
theorem M8:YQ (λt=>if t=37 then 37 else t) (λk=>if k=214 then 214 else k) 4 32 (aq.cells ⟨0,0,0,0⟩) where
 rn:=wJ func214 func214
 t0:=ct
 t3:=ct
 t4:=ct
 big:=aj
 sl:=Vw
 zel:=SW
 zc:=ot _
theorem EX(xs:List aq)(i:Nat)(a:xs.length<2^30)(hi:i<xs.length):Sq 214 [.own 4 (xs.map aq.cells)] [.ref 0,.int .i64 i,.int .i64 ((i+1:Nat):Int)] [.undef,.own 4 ((xs.take i++xs.drop (i+1)).map aq.cells)] (.ref 1):=by
 have:=Ld M8 (xs.map aq.cells) i (i+1) (by simpa using a) aj (by rw[mY];omega) (λr hr=>by obtain⟨y,_,rfl⟩:=mem_map.1 hr;exact ot y);rw[show(xs.take i++xs.drop (i+1)).map aq.cells=(xs.map aq.cells).take i++(xs.map aq.cells).drop (i+1)by simp];exact this
