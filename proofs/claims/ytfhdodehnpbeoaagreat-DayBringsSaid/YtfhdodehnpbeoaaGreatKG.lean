/- Parts. -/
import Derived.Test.YtfhdodehnpbeoaaGreatKE
import Derived.Test.YtfhdodehnpbeoaaGreatKF
set_option linter.all false
set_option maxHeartbeats 4000000
set_option maxRecDepth 16000
namespace Go.Proofs.YtfhdodehnpbeoaaGreat
open Go.Abs Tryz
def gG(x y:Int):Int:=if x<y then -1 else if y<x then 1 else 0
def Kg(x:Int):Sq 254 [] [.I x] [] (.bool false):=by
 refine aX 6 1 [.tmp 2] mixed func254 ?_;simp only[go_sem,seval,bne,beq_self_eq_true,Bool.not_true]
def jE(x y:Int):Sq 130 [] [.I x,.I y] [] (.I (gG x y)):=by
 have b:=Kg x;have c:=Kg y;refine aX 20 2 [.tmp 4] mixed func130 ?_;refine sc aK b ?_;refine az.aP c ?_;simp only[gG];rcases Int.lt_or_le x y with h|h
 ·have d:decide (x<y)=true:=dw h;simp only[go_sem,seval,d,au h]
 ·have d:decide (x<y)=false:=lJ;rw[aq aj];rcases Int.lt_or_le y x with h3|h3
  ·have a:decide (y<x)=true:=dw h3;simp only[go_sem,seval,d,a,au h3]
  ·have a:decide (y<x)=false:=lJ;simp only[go_sem,seval,d,a,aq (show ¬y<x by omega)]
def orI:List Int->Int
 | []=>0
 |x::xs=>if x=0 then orI xs else x
def St(xs:List Int)(hn:xs.length<2^60):Sq 129 [] [.sl 1 (ints xs)] [] (.I (orI xs)):=by
 refine aX 18 1 [.tmp 2] mixed func129 ?_;simp only[go_sem,seval,aA];refine aG.w1 xs.length 8 [3,6,7] [128] (λi _=>orI (xs.drop i)=orI xs) sT ?_ ?_
 ·intro i _ g e k a;have b:=ints_at xs g;obtain⟨x,h⟩:=aL (xs[i]);have j:orI (xs.drop i)=if x=0 then orI (xs.drop (i+1))else x:=by rw[dI g,orI,h]
  rw[j]at a;rw[<-h]at b;simp only[go_sem,seval,aA,e,b];refine aV ?_;cases c:x==0
  ·have d:x≠0:=su c;rw[aq d]at a;rw[a]at c;exact eo (a3 dV c a)
  ·have d:x=0:=su c;rw[au d]at a;refine sm (a3 dV c k) ?_;refine ah.u g a ?_;exact iB
 ·intro _ f a;rw[jJ,orI]at a;simp only[go_sem,seval,aA,f,<-a]
def sI(x y:Int):Sq 129 [] [.sl 1 [[.I x],[.I y]]] [] (.I (if x=0 then y else x)):=by
 have h:=St [x,y] sT;have e:orI [x,y]=if x=0 then y else x:=by
  simp only[orI];split<;>try rfl
  split<;>rename_i h<;>simp_all
 rw[e]at h;exact h
def bI(a b:aB):Bool:=decide (a.who<b.who)||(a.who==b.who&&decide (a.cur<b.cur))
def AM(a:aB)(w c:Int):Int:=if gG a.who w=0 then gG a.cur c else gG a.who w
def Sj(a b:aB):decide (0<=AM a b.who b.cur) = !bI a b:=by
 rw[lZ,decide_eq_true_iff];simp only[AM,gG,bI,iN,Bool.or_eq_false_iff,gP,Bool.and_eq_false_iff,beq_eq_false_iff_ne];repeat' split
 all_goals omega
def xU(a:aB)(w c:Int):Sq 208 [] [.agg a.cells,.I w,.I c] [] (.I (AM a w c)):=by
 have b:=jE a.who w;have d:=jE a.cur c;have e:=sI (gG a.who w) (gG a.cur c);simp only[aB.cells];refine aX 19 3 [.tmp 6] mixed func208 ?_;refine sc aK b ?_;refine sc aK d ?_;refine aV ?_;refine az.iw [] [] true sT ?_;refine s0 ?_;refine dL.ij e ?_;simp only[go_sem,seval,AM]
def bN(c:aB):Bool:=(within c.who 1 16&&within c.cur 0 2)&&(within c.bT 1 4611686018427387904&&within c.till 0 1099511627776)
def AO(w c:Int):Sq 207 [] [.I w,.I c] [] (.bool (within w 1 16&&within c 0 2)):=by
 refine aX 19 2 [.tmp 4] mixed func207 ?_;refine s0 ?_;repeat' with_reducible first|apply And.intro|exact .dq|refine az.aP (by assumption) ?_|refine mW (λh=>?_) λh=>?_|refine .id ?_|refine ah.eI aj ?_ ?_|exact aK|simp only[*,go_sem,seval]
 all_goals(simp_all[within];try omega)
def Ew(a b:aH):Sq 167 [] [.agg a.cells,.agg b.cells] [] (.bool (decide (a.who<b.who)||(a.who==b.who&&decide (a.cur<b.cur)))):=by
 simp only[aH.cells];refine aX 24 2 [.tmp 4] mixed func167 ?_;refine s0 ?_;repeat' with_reducible first|apply And.intro|exact .dq|refine az.aP (by assumption) ?_|refine mW (λh=>?_) λh=>?_|refine .id ?_|refine ah.eI aj ?_ ?_|exact aK|simp only[*,go_sem,seval]
 all_goals(simp_all)
def AN(cs:List aB)(hl:cs.length<2^30):Sq 97 [] [.sl 4 (cs.map aB.cells)] [] (.I (if nQ bN bI cs then 0 else 14)):=by
 refine aX 64 1 [.tmp 2] mixed func97 ?_;refine s0 ?_;refine aG.count cs.length [0,5,6] [112] (λi=>[(7,.I i)]) (λi=>[]) (λi=>∀j<i,pO bN bI cs j=true) sT ?_ ?_
 ·exact jh
 intro i hi m;refine s0 ?_;refine bK.fP (λh=>?_) (λh=>?_)
 ·have a:i<cs.length:=aj
  have hw:IntKind.wrap .i64 ((i:Int)+1)=((i+1:Nat):Int):=fU;have n:=aM (c:=aB.cells) cs a;have e0:=tB (i:=i) m;have e1:pO bN bI cs i=false->nQ bN bI cs=false:=wX a;have o:=AO cs[i].who cs[i].cur;have k:Sq 106 [] [.sl 1 [[.I cs[i].bT]]] [] (.bool (right [cs[i].bT])):=eH [cs[i].bT] sT;rw[sX]at k;have b:(bA cs[i].bT&&!decide (cs[i].bT<1))=within cs[i].bT 1 4611686018427387904:=by rw[lZ];simp[bA,within];omega
  have g:(!decide (cs[i].till<0)&&!decide (1099511627776<cs[i].till))=within cs[i].till 0 1099511627776:=by rw[lZ];simp[within]
  simp only[aB.cells]at n;rcases Nat.eq_zero_or_pos i with rfl|hpos
  ·have hk:=j8 (ok:=bN) (lt:=bI) a;simp only[bN,<-b,<-g]at hk;refine sm n ?_;repeat' with_reducible first|apply And.intro|exact .dq|refine az.aP (by assumption) ?_|refine az.aP (o) ?_|(refine az.iw [] [] true sT ?_;simp only[go_sem,seval];refine dL.ij k ?_)|refine mW (λh=>?_) λh=>?_|refine .id ?_|refine ah.eI aj ?_ ?_|exact aK|simp only[*,go_sem,seval]
   all_goals exact Mr
  ·obtain⟨j,rfl⟩:∃j,i=j+1:=⟨i-1,by omega⟩
   have q:j<cs.length:=aj
   have hw1:IntKind.wrap .i64 (((j+1:Nat):Int)-1)=(j:Int):=fU;have hk:=jy (ok:=bN) (lt:=bI) a;simp only[bN,<-b,<-g]at hk;have f:=aM (c:=aB.cells) cs q;have p:=xU cs[j] cs[j+1].who cs[j+1].cur;have d:=Sj cs[j] cs[j+1];rw[d.symm.trans (by rfl:decide (0<=AM cs[j] cs[j+1].who cs[j+1].cur)=decide (0<=AM cs[j] cs[j+1].who cs[j+1].cur))]at d;simp only[aB.cells]at p;have e:bI cs[j] cs[j+1] = !decide (0<=AM cs[j] cs[j+1].who cs[j+1].cur):=by rw[Sj,Bool.not_not]
   rw[e]at hk;clear d e;simp only[aB.cells]at f;refine sm n ?_;repeat' with_reducible first|apply And.intro|exact .dq|refine az.aP (by assumption) ?_|refine az.aP (o) ?_|(refine az.iw [] [] true sT ?_;simp only[go_sem,seval];refine dL.ij k ?_)|refine az.aP (p) ?_|refine mW (λh=>?_) λh=>?_|refine .id ?_|refine ah.eI aj ?_ ?_|exact aK|simp only[*,go_sem,seval,f,qO]
   all_goals exact Mr
 have l:=q9 (λj (q:j<cs.length)=>m j aj);clear m;exact eo l
def xB(cs:List aB)(hl:cs.length<2^30):Sq 63 [] [.sl 4 (cs.map aB.cells)] [] (.bool (nQ bN bI cs)):=by
 refine aX 56 1 [.tmp 2] mixed func63 ?_;refine s0 ?_;refine aG.count cs.length [0] [] (λi=>[(3,.I i)]) (λi=>[]) (λi=>∀j<i,pO bN bI cs j=true) sT ?_ ?_
 ·exact jh
 intro i hi g;refine s0 ?_;refine bK.fP (λh=>?_) (λh=>?_)
 ·have a:i<cs.length:=aj
  have hw:IntKind.wrap .i64 ((i:Int)+1)=((i+1:Nat):Int):=fU;have k:=aM (c:=aB.cells) cs a;have e0:=tB (i:=i) g;have e1:pO bN bI cs i=false->nQ bN bI cs=false:=wX a;have l:=jZ cs[i].who;have m:=jY cs[i].cur;have n:=jj cs[i].bT 1 4611686018427387904;have o:=jj cs[i].till 0 1099511627776;simp only[aB.cells]at k;rcases Nat.eq_zero_or_pos i with rfl|hpos
  ·have hk:=j8 (ok:=bN) (lt:=bI) a;simp only[bN]at hk;refine sm k ?_;repeat' with_reducible first|apply And.intro|exact .dq|refine az.aP (by assumption) ?_|refine az.aP (l) ?_|refine az.aP (m) ?_|refine az.aP (n) ?_|refine az.aP (o) ?_|refine mW (λh=>?_) λh=>?_|refine .id ?_|refine ah.eI aj ?_ ?_|exact aK|simp only[*,go_sem,seval]
   all_goals exact Mr
  ·obtain⟨j,rfl⟩:∃j,i=j+1:=⟨i-1,by omega⟩
   have p:j<cs.length:=aj
   have hw1:IntKind.wrap .i64 (((j+1:Nat):Int)-1)=(j:Int):=fU;have hk:=jy (ok:=bN) (lt:=bI) a;simp only[bN]at hk;have d:=aM (c:=aB.cells) cs p;have e:=Ew ⟨cs[j].who,cs[j].cur,cs[j].bT⟩ ⟨cs[j+1].who,cs[j+1].cur,cs[j+1].bT⟩;simp only[aH.cells]at e;simp only[bI]at hk;obtain⟨lt,b⟩:=aL ((decide (cs[j].who<cs[j+1].who)||(cs[j].who==cs[j+1].who&&decide (cs[j].cur<cs[j+1].cur))));rw[<-b]at hk e;clear b;simp only[aB.cells]at d;refine sm k ?_;repeat' with_reducible first|apply And.intro|exact .dq|refine az.aP (by assumption) ?_|refine az.aP (l) ?_|refine az.aP (m) ?_|refine az.aP (n) ?_|refine az.aP (o) ?_|refine az.aP (e) ?_|refine mW (λh=>?_) λh=>?_|refine .id ?_|refine ah.eI aj ?_ ?_|exact aK|simp only[*,go_sem,seval,d,qO]
   all_goals exact Mr
 have f:=q9 (λj (p:j<cs.length)=>g j aj);clear g;exact eo f
def ug(s:af):Bool:=within s.now 0 1099511627776&&(within s.day 0 1099511627776&&within s.phase 0 2)
def Is(a b c:Int):Sq 92 [] [.agg [.I a,.I b,.I c]] [] (.bool (within a 0 1099511627776&&(within b 0 1099511627776&&within c 0 2))):=by
 refine aX 31 1 [.tmp 2] mixed func92 ?_;refine s0 ?_;repeat' with_reducible first|apply And.intro|exact .dq|refine az.aP (by assumption) ?_|refine mW (λh=>?_) λh=>?_|refine .id ?_|refine ah.eI aj ?_ ?_|exact aK|simp only[*,go_sem,seval]
 all_goals(simp_all[within];try omega)
def q8(b:bn):Bool:=vv b.who b.inst&&(within b.src 1 16&&(within b.aQ 1 1048576&&within b.aS 1 1073741824))
def Nr(b:bn):Sq 99 [] [.agg b.cells] [] (.bool (q8 b)):=by
 simp only[bn.cells];refine aX 55 1 [.tmp 2] mixed func99 ?_;refine s0 ?_;repeat' with_reducible first|apply And.intro|exact .dq|refine az.aP (by assumption) ?_|refine mW (λh=>?_) λh=>?_|refine .id ?_|refine ah.eI aj ?_ ?_|exact aK|simp only[*,go_sem,seval]
 all_goals(simp_all[q8,vv,within];try omega)
def jI(x:bZ):Bool:=within x.client 1 8&&within x.seq 1 1099511627776
def gT(a b:bZ):Bool:=decide (a.client<b.client)
def bS(s:af):Bool:=ug s&&(s.ak.okB&&(s.book.okB&&(s.bp.okB&&(kf s.ps&&(nQ bN bI s.calls&&(sL s&&(!decide (32<(s.aZ.length:Int))&&(s.aZ.all q8&&nQ jI gT s.aR))))))))
def kX(s:af)(hs:s.small):Sq 37 [] [.agg s.cells] [] (.I (if bS s then 0 else 14)):=by
 have f:s.fit:=⟨hs.ak.small,hs.book,hs.bp,hs.ps⟩
 have c1:=Is s.now s.day s.phase;have c2:=kr s.ak hs.ak.small;have c3:=oc s.book hs.book;have c4:=tE s.bp hs.bp;have C:=OW s.ps (by have:=hs.ps;omega);have D:=AN s.calls hs.calls;have x:=VY s f hs.calls;have hbl:=hs.aZ;have hsl:=hs.aR;clear f;simp only[ay.cells,aJ.cells,bu.cells]at c2 c3 c4;simp only[af.cells]at x |-;refine aX 106 1 [.tmp 2] mixed func37 ?_;refine sc aK c1 ?_;cases a:ug s
 ·have e:bS s=false:=by simp[bS,a]
  simp only[ug]at a;exact gH (a2 a e)
 have g:=a;simp only[ug]at g;refine sc g c2 ?_;cases p:s.ak.okB
 ·have e:bS s=false:=by simp[bS,p]
  exact gH e
 refine sc aK c3 ?_;cases q:s.book.okB
 ·have e:bS s=false:=by simp[bS,q]
  exact gH e
 refine sc aK c4 ?_;cases r:s.bp.okB
 ·have e:bS s=false:=by simp[bS,r]
  exact gH e
 refine sc aK C ?_;cases t:kf s.ps
 ·have e:bS s=false:=by simp[bS,t]
  exact gH e
 refine sc aK D ?_;cases v:nQ bN bI s.calls
 ·have e:bS s=false:=by simp[bS,v]
  exact gH e
 refine sc aK x ?_;cases w:sL s
 ·have e:bS s=false:=by simp[bS,w]
  exact gH e
 cases l:decide (32<(s.aZ.length:Int))
 case true =>
  have e:bS s=false:=by simp[bS,l]
  exact gH (a2 l e)
 have e:bS s=(s.aZ.all q8&&nQ jI gT s.aR):=by simp only[bS,a,p,q,r,t,v,w,l,cz,Bool.not_false]
 rw[e];clear e c1 c2 c3 c4 C D x a g p q r t v w;refine sm l ?_;refine aG.w1 s.aZ.length 55 [1,53,54] [32,880] (λi _=>∀j (B:j<s.aZ.length),j<i->q8 s.aZ[j]=true) (by intros;omega) ?_ ?_
 ·intro i _ n A F d;have k:=aM (c:=bn.cells) s.aZ n;have E:=Nr s.aZ[i];have e0:=qY n d;have e1:q8 s.aZ[i]=false->(s.aZ.all q8&&nQ jI gT s.aR)=false:=λh=>by simp[yS n h]
  simp only[bn.cells]at k E;refine sc (a2 A k) E ?_;cases a:q8 s.aZ[i]
  ·have:=e1 a;exact gH this
  refine sm F ?_;refine ah.u n (e0 a) ?_;exact iB
 intro _ m d;have hA:=uI d;rw[hA,cz];clear d hA;refine sm m ?_;clear m l;refine aG.count s.aR.length [1,64,65] [32,1056] (λi=>[(66,.I i)]) (λi=>[]) (λi=>∀j<i,pO jI gT s.aR j=true) sT ?_ ?_
 ·exact jh
 intro i n d;refine s0 ?_;refine bK.fP (λh=>?_) (λh=>?_)
 ·have b:i<s.aR.length:=aj
  have F:IntKind.wrap .i64 ((i:Int)+1)=((i+1:Nat):Int):=fU;have k:=aM (c:=bZ.cells) s.aR b;have e0:=tB (i:=i) d;have e1:pO jI gT s.aR i=false->nQ jI gT s.aR=false:=wX b

  simp only[bZ.cells]at k;rcases Nat.eq_zero_or_pos i with rfl|hpos
  ·have hk:=j8 (ok:=jI) (lt:=gT) b;simp only[jI,gT,within]at hk;refine sm k ?_;repeat' with_reducible first|apply And.intro|exact .dq|refine az.aP (by assumption) ?_|refine mW (λh=>?_) λh=>?_|refine .id ?_|refine ah.eI aj ?_ ?_|exact aK|simp only[*,go_sem,seval]
   all_goals exact Mr
  ·obtain⟨j,rfl⟩:∃j,i=j+1:=⟨i-1,by omega⟩
   have B:j<s.aR.length:=aj
   have hw1:IntKind.wrap .i64 (((j+1:Nat):Int)-1)=(j:Int):=fU;have hk:=jy (ok:=jI) (lt:=gT) b;simp only[jI,gT,within]at hk;have o:=aM (c:=bZ.cells) s.aR B

   simp only[bZ.cells]at o;refine sm k ?_;repeat' with_reducible first|apply And.intro|exact .dq|refine az.aP (by assumption) ?_|refine mW (λh=>?_) λh=>?_|refine .id ?_|refine ah.eI aj ?_ ?_|exact aK|simp only[*,go_sem,seval,o,qO]
   all_goals exact Mr
 have y:=q9 (λj (B:j<s.aR.length)=>d j aj);clear d;exact eo y
def j6(a b c:Int):Sq 58 [] [.I a,.I b,.I c] [] (.bool (within a b c)):=by
 refine aX 15 3 [.tmp 6] mixed func58 ?_;refine s0 ?_;repeat' with_reducible first|apply And.intro|exact .dq|refine az.aP (by assumption) ?_|refine mW (λh=>?_) λh=>?_|refine .id ?_|refine ah.eI aj ?_ ?_|exact aK|simp only[*,go_sem,seval]
 all_goals(simp only[within];simp<;>omega)
def dK(r:ay)(n:Int)(q:r.small):Sq 21 [] [.agg r.cells,.I n] [] (.bD [.agg (fj r n).cells,.bool (gp r n)]):=by
 obtain⟨l1,l2,l3⟩:=q;simp only[ay.cells];refine aX 28 2 [.cell 4 70,.tmp 5] mixed func21 ?_;refine s0 ?_;refine aG.w1 r.ms.length 6 [1,2,4] [48,80] (λi _=>∀j (b:j<r.ms.length),j<i->r.ms[j].no≠n) (by intros;omega) ?_ ?_
 ·intro i _ m k s d;have o:=aM (c:=av.cells) r.ms m;have hlt:(i:Int)<(r.ms.length:Int):=aj
  simp only[av.cells]at o |-;refine sm (a2 k o) ?_;refine aV ?_;cases p:r.ms[i].no==n
  ·have a:r.ms[i].no≠n:=su p;refine sm s ?_;refine ah.u m ?_ ?_
   ·intro j b hji;rcases dN j i with h|h
    ·exact d j b h
    ·obtain rfl:j=i:=aj
     exact a
   ·exact iB
  ·have a:r.ms[i].no=n:=su p;obtain⟨f,g⟩:=nj (z:=av.zero) m d a;have e:fj r n=r.ms[i]:=f;have e2:gp r n=true:=by simp[gp,g]
   rw[e,e2];refine sm o ?_;exact RS
 ·intro _ l d;obtain⟨f,g⟩:=kY (z:=av.zero) (λj b=>d j b b);have e:fj r n=av.zero:=f;have e2:gp r n=false:=by simp[gp,g]
  rw[e,e2];simp only[go_sem,seval,l,av.cells,av.zero]
def tI(s:af)(n:Int)(b:s.ak.small):Sq 64 [] [.agg s.cells,.I n] [] (.I (bF s.ak n)):=by
 have h:=dK s.ak n b;simp only[bF];obtain⟨g,a⟩:=aL (fj s.ak n);rw[<-a]at h |-;simp only[ay.cells,av.cells]at h;simp only[af.cells];refine aX 16 2 [.tmp 4] mixed func64 ?_;exact lX aK h
def Lq(s:af)(n:Int)(b:s.ak.small):Sq 65 [] [.agg s.cells,.I n] [] (.bool (bE s.ak n)):=by
 have h:=fu s.ak n b;obtain⟨g,a⟩:=aL (aU s.ak n);rw[<-a]at h;simp only[ay.cells,aF.cells]at h;simp only[af.cells];refine aX 15 2 [.tmp 4] mixed func65 ?_;exact lX aK h
def Q9(s:af)(hl:s.aZ.length<2^30):Sq 67 [] [.agg s.cells] [] (.bool (!decide (32<(s.aZ.length:Int))&&s.aZ.all q8)):=by
 simp only[af.cells];refine aX 43 1 [.tmp 2] mixed func67 ?_;refine s0 ?_;refine aG.w1 s.aZ.length 3 [1] [32] (λi _=>∀j (hj:j<s.aZ.length),j<i->q8 s.aZ[j]=true) (by intros;omega) ?_ ?_
 ·intro i _ b f w d;have o:=aM (c:=bn.cells) s.aZ b;have p:=wH s.aZ[i].who s.aZ[i].inst;have q:=jZ s.aZ[i].src;have r:=j6 s.aZ[i].aQ 1 1048576;have t:=j6 s.aZ[i].aS 1 1073741824;have hli:(i:Int)<(s.aZ.length:Int):=aj
  have e0:=qY b d;have a:q8 s.aZ[i]=false->(!decide (32<(s.aZ.length:Int))&&s.aZ.all q8)=false:=λh=>by simp[yS b h]
  simp only[q8]at e0 a;simp only[bn.cells]at o;refine sc (a2 f o) p ?_;cases k:vv s.aZ[i].who s.aZ[i].inst
  ·have:=a (by simp[k]);exact eo this
  refine sc aK q ?_;cases l:within s.aZ[i].src 1 16
  ·have:=a (by simp[l]);exact eo this
  refine sc aK r ?_;cases m:within s.aZ[i].aQ 1 1048576
  ·have:=a (by simp[m]);exact eo this
  refine sc aK t ?_;cases n:within s.aZ[i].aS 1 1073741824
  ·have:=a (by simp[n]);exact eo this
  refine sm w ?_;refine ah.u b (e0 (by simp[k,l,m,n])) ?_;exact iB
 ·intro _ g d;have v:=uI d;have e:decide ((s.aZ.length:Int)<=32) = !decide (32<(s.aZ.length:Int)):=by rw[lZ];simp
  simp only[go_sem,seval,g,v,Bool.and_true,e]
def Nk(s:af)(hl:s.aR.length<2^30):Sq 68 [] [.agg s.cells] [] (.bool (nQ jI gT s.aR)):=by
 simp only[af.cells];refine aX 43 1 [.tmp 2] mixed func68 ?_;refine s0 ?_;refine aG.count s.aR.length [1] [32] (λi=>[(3,.I i)]) (λi=>[]) (λi=>∀j<i,pO jI gT s.aR j=true) sT ?_ ?_
 ·exact jh
 intro i hi f;refine s0 ?_;refine bK.fP (λh=>?_) (λh=>?_)
 ·have a:i<s.aR.length:=aj
  have hw:IntKind.wrap .i64 ((i:Int)+1)=((i+1:Nat):Int):=fU;have g:=aM (c:=bZ.cells) s.aR a;have e0:=tB (i:=i) f;have e1:pO jI gT s.aR i=false->nQ jI gT s.aR=false:=wX a;have k:=j6 s.aR[i].client 1 8;have l:=j6 s.aR[i].seq 1 1099511627776;simp only[bZ.cells]at g;rcases Nat.eq_zero_or_pos i with rfl|hpos
  ·have hk:=j8 (ok:=jI) (lt:=gT) a;simp only[jI,gT]at hk;refine sm g ?_;repeat' with_reducible first|apply And.intro|exact .dq|refine az.aP (by assumption) ?_|refine az.aP (k) ?_|refine az.aP (l) ?_|refine mW (λh=>?_) λh=>?_|refine .id ?_|refine ah.eI aj ?_ ?_|exact aK|simp only[*,go_sem,seval]
   all_goals exact Mr
  ·obtain⟨j,rfl⟩:∃j,i=j+1:=⟨i-1,by omega⟩
   have m:j<s.aR.length:=aj
   have hw1:IntKind.wrap .i64 (((j+1:Nat):Int)-1)=(j:Int):=fU;have hk:=jy (ok:=jI) (lt:=gT) a;simp only[jI,gT]at hk;have d:=aM (c:=bZ.cells) s.aR m;have b:decide (s.aR[j].client<s.aR[j+1].client) = !decide (s.aR[j+1].client<=s.aR[j].client):=by rw[lZ];simp
   rw[b]at hk;clear b;simp only[bZ.cells]at d;refine sm g ?_;repeat' with_reducible first|apply And.intro|exact .dq|refine az.aP (by assumption) ?_|refine az.aP (k) ?_|refine az.aP (l) ?_|refine mW (λh=>?_) λh=>?_|refine .id ?_|refine ah.eI aj ?_ ?_|exact aK|simp only[*,go_sem,seval,d,qO]
   all_goals exact Mr
 have e:=q9 (λj (m:j<s.aR.length)=>f j aj);clear f;exact eo e
theorem adg{r:ay}(h:r.okB=true)(n:Int):0<=bF r n/\bF r n<=3:=by
 simp only[ay.okB,cU]at h;have a:=yI h.1.1;unfold bF fj;generalize r.ms=ms at a;induction ms with
 |nil=>simp[jS,av.zero]
 |cons x t ih =>
  simp only[jS];split
  ·have:=a x sT;simp only[av.ok,within,cU,bO]at this;omega
  ·exact ih λy b=>a y (by simp[b])
def afn{r:ay}(h:r.okB=true)(n:Int):C2 r n=(!(bF r n==0)&&!(bF r n==3)):=by
 have:=adg h n;rw[lZ];simp only[C2,Bool.or_eq_true,cU,iN,fE,beq_eq_false_iff_ne];omega
def uz(r:ay)(h:r.jQ):Sq 246 [] [.agg r.cells] [] (.agg r.cells):=by
 refine Spec.frozen (tL r h) [0,1,2] rfl ?_;intro r;rcases r with _| _| _|r<;>rfl
def Mf(r:ay)(h:r.jQ):Sq 246 [] [.agg r.cells] [.undef,.own 12 (r.ns.map aF.cells)] (.agg [.sl 3 (r.ms.map av.cells),.ref 1,.sl 4 (r.xs.map aD.cells)]):=by
 refine Spec.frozen (tL r h) [0,2] rfl ?_;intro r;rcases r with _| _| _|r<;>rfl
def WT(r:ay)(h:r.jQ):Sq 246 [] [.agg r.cells] [.own 3 (r.ms.map av.cells)] (.agg [.ref 0,.sl 12 (r.ns.map aF.cells),.sl 4 (r.xs.map aD.cells)]):=by
 refine Spec.frozen (tL r h) [1,2] rfl ?_;intro r;rcases r with _| _| _|r<;>rfl
def n6{B:Type}(f:Nat->List B)(i:Nat):List B:=(List.range i).flatMap f
def iS{B:Type}(f:Nat->List B)(i:Nat):n6 f (i+1)=n6 f i++f i:=wA f i
def nS{B:Type}{f:Nat->List B}{m:Nat}(h:∀a,(f a).length<=m)(i:Nat):(n6 f i).length<=m*i:=Gi h i
theorem l9{B:Type}(f:Nat->List B):n6 f 0=[]:=rfl
def ay.none:ay:=⟨[],[],[]⟩
def n9(r:ay)(w n:Int):Int:=if r.okB then(if av.ok ⟨w,1,n⟩then(if gp r w then 11 else 0)else 3)else 14
def PW(r:ay)(m:av)(i:Nat):List av:=(if gp r ((i:Int)+1)then[fj r ((i:Int)+1)]else[])++(if(i:Int)+1==m.no then[m]else[])
def qj(r:ay)(w n:Int):ay:=if n9 r w n=0 then⟨n6 (PW r ⟨w,1,n⟩) 16,r.ns,r.xs⟩else .none
def aa0(r:ay)(m:av)(i:Nat):(PW r m i).length<=2:=by unfold PW;split<;>split<;>simp
def Q8(r:ay)(w n:Int)(h:r.jQ):Sq 229 [] [.agg r.cells,.int .i64 w,.int .i64 n] [.own 3 ((qj r w n).ms.map av.cells)] (.bD [.agg [.ref 0,.sl 12 ((qj r w n).ns.map aF.cells),.sl 4 ((qj r w n).xs.map aD.cells)],.int .i64 (n9 r w n)]):=by
 have c1:=gW r h.small;have c2:=BM ⟨w,1,n⟩;have c3:=λn=>dK r n h.small;have c4:=uz r h;simp only[ay.cells]at c1 c3 c4 |-;simp only[av.cells]at c2;refine aX 64 3 [.cell 6 29,.tmp 7] mixed func229 ?_;refine sc aK c1 ?_;cases d:r.okB
 ·have e:n9 r w n=14:=by simp[n9,d]
  simp only[go_sem,seval,qj,e]<;>simp[ay.none]
 refine sc aK c2 ?_;cases l:av.ok ⟨w,1,n⟩
 ·have e:n9 r w n=3:=by simp[n9,d,l]
  simp only[go_sem,seval,qj,e]<;>simp[ay.none]
 have a:=c3 w;obtain⟨g,j⟩:=aL (fj r w);rw[<-j]at a;simp only[av.cells]at a;refine sc aK a ?_;cases f:gp r w
 case true =>
  have e:n9 r w n=11:=by simp[n9,d,l,f]
  simp only[go_sem,seval,qj,e,f]<;>simp[ay.none]
 have e:n9 r w n=0:=by simp[n9,d,l,f]
 simp only[go_sem,seval,qj,e,f];refine aV ?_;refine az.aP c4 ?_;clear c1 c2 c4 a j;simp only[go_sem,seval];refine aV ?_;refine aG.wv 16 [1,3,6,8,11] [64,112,144] (λi=>[(12,.int .i64 ((i:Int)+1))]) (λi=>[(192,.box [.ref 992,.sl 12 (r.ns.map aF.cells),.sl 4 (r.xs.map aD.cells)]),(992,.own 3 ((n6 (PW r ⟨w,1,n⟩) i).map av.cells))]) ?_ ?_ ?_
 ·simp only[go_sem,seval,l9]<;>simp
 ·intro i _ u _ _ _;have o:decide ((i:Int)+1<=16)=true:=jw;have q:IntKind.wrap .i64 ((i:Int)+1+1)=((i+1:Nat):Int)+1:=fU;have c:=iS (PW r ⟨w,1,n⟩) i;have x:=nS (aa0 r ⟨w,1,n⟩) i;obtain⟨L,m⟩:=aL (n6 (PW r ⟨w,1,n⟩) i);obtain⟨k,p⟩:=aL ((i:Int)+1);have b:=c3 k;obtain⟨g,j⟩:=aL (fj r k);rw[<-m]at c x |-;simp only[PW,<-p]at c;rw[<-j]at b c;rw[<-p]at o q |-;simp only[av.cells]at b;clear c3 m;refine sc o b ?_
  cases s:gp r k<;>cases t:k==w<;>(
   simp only[s,t]at c;simp only[go_sem,seval,s,t,q,ct];refine aV ?_;try refine ah.v u ?_
   try simp only[go_sem,seval,c])
  all_goals simp
 ·intro _ _ _;exact jh
def M8(r:ay)(w n:Int)(h:r.jQ):Sq 229 [] [.agg r.cells,.int .i64 w,.int .i64 n] [] (.bD [.agg (qj r w n).cells,.int .i64 (n9 r w n)]):=by
 refine Spec.frozen (Q8 r w n h) [0] rfl ?_;intro r;rcases r with _|r<;>rfl
def aF.bare(i:aF):aF:={ i with set:=0,aS:=0 }
def tT(r:ay)(i:aF):Int:=if r.okB then(if i.bare.ok then(if bE r i.no then 11 else 0)else 3)else 14
def M1(r:ay)(m:aF)(i:Nat):List aF:=(if bE r ((i:Int)+1)then[aU r ((i:Int)+1)]else[])++(if(i:Int)+1==m.no then[m]else[])
def vB(r:ay)(i:aF):ay:=if tT r i=0 then⟨r.ms,n6 (M1 r i.bare) 8,r.xs⟩else .none
def ab6(r:ay)(m:aF)(i:Nat):(M1 r m i).length<=2:=by unfold M1;split<;>split<;>simp
def Ui(r:ay)(x:aF)(h:r.jQ):Sq 230 [] [.agg r.cells,.agg x.cells] [.own 12 ((vB r x).ns.map aF.cells)] (.bD [.agg [.sl 3 ((vB r x).ms.map av.cells),.ref 0,.sl 4 ((vB r x).xs.map aD.cells)],.int .i64 (tT r x)]):=by
 have c1:=gW r h.small;have c2:=Aq x.bare;have c3:=λn=>fu r n h.small;have c4:=uz r h;simp only[ay.cells]at c1 c3 c4 |-;simp only[aF.cells,aF.bare]at c2;refine aX 62 2 [.cell 4 29,.tmp 5] mixed func230 ?_;simp only[go_sem,seval,aF.cells];refine sc aK c1 ?_;cases j:r.okB
 ·have e:tT r x=14:=by simp[tT,j]
  simp only[go_sem,seval,vB,e]<;>simp[ay.none]
 refine sc aK c2 ?_;cases c:x.bare.ok
 ·have e:tT r x=3:=by simp[tT,j,c]
  simp only[aF.bare]at c;simp only[go_sem,seval,c,vB,e]<;>simp[ay.none]
 have d:=c;simp only[aF.bare]at d;have a:=c3 x.no;obtain⟨g,m⟩:=aL (aU r x.no);rw[<-m]at a;simp only[aF.cells]at a;refine sc d a ?_;cases l:bE r x.no
 case true =>
  have e:tT r x=11:=by simp[tT,j,c,l]
  simp only[go_sem,seval,vB,e,l]<;>simp[ay.none]
 have e:tT r x=0:=by simp[tT,j,c,l]
 simp only[go_sem,seval,vB,e,l];refine aV ?_;refine az.aP c4 ?_;clear c1 c2 c4 a m;simp only[go_sem,seval];refine aV ?_;refine aG.wv 8 [2,3,4,8] [48,64,80] (λi=>[(9,.int .i64 ((i:Int)+1))]) (λi=>[(144,.box [.sl 3 (r.ms.map av.cells),.ref 960,.sl 4 (r.xs.map aD.cells)]),(960,.own 12 ((n6 (M1 r x.bare) i).map aF.cells))]) ?_ ?_ ?_
 ·simp only[go_sem,seval,l9]<;>simp
 ·intro i _ w _ _ _;have p:decide ((i:Int)+1<=8)=true:=jw;have s:IntKind.wrap .i64 ((i:Int)+1+1)=((i+1:Nat):Int)+1:=fU;have f:=iS (M1 r x.bare) i;have y:=nS (ab6 r x.bare) i;obtain⟨L,o⟩:=aL (n6 (M1 r x.bare) i);obtain⟨k,q⟩:=aL ((i:Int)+1);have b:=c3 k;obtain⟨g,m⟩:=aL (aU r k);rw[<-o]at f y |-;simp only[M1,<-q,aF.bare]at f;rw[<-m]at b f;rw[<-q]at p s |-;simp only[aF.cells]at b;clear c3 o;refine sc p b ?_
  cases t:bE r k<;>cases u:k==x.no<;>(
   simp only[t,u]at f;simp only[go_sem,seval,t,u,s,ct];refine aV ?_;try refine ah.v w ?_
   try simp only[go_sem,seval,f,aF.bare,aF.cells])
  all_goals simp[aF.cells]
 ·intro _ _ _;exact jh
def Rg(r:ay)(x:aF)(h:r.jQ):Sq 230 [] [.agg r.cells,.agg x.cells] [] (.bD [.agg (vB r x).cells,.int .i64 (tT r x)]):=by
 refine Spec.frozen (Ui r x h) [0] rfl ?_;intro r;rcases r with _|r<;>rfl
def sizedB(t:aT):Bool:=within t.aQ 1 1048576&&within t.aS 1 1073741824
def D6(r:ay)(t:aT):Int:=if r.okB then(if sizedB t then(if bE r t.inst&&(gp r t.lg&&gp r t.iH)then(if t.lg==t.iH then 16 else if bF r t.lg==1&&bF r t.iH==1 then 0 else 14)else 10)else 3)else 14
def No(r:ay)(t:aT)(h:r.jQ):Sq 289 [] [.agg r.cells,.agg t.cells] [] (.int .i64 (D6 r t)):=by
 have c1:=gW r h.small;have c2:Sq 260 [] [.agg t.cells] [] (.bool (sizedB t)):=xE t;have c3:=fu r t.inst h.small;have c4:=dK r t.lg h.small;have d:=dK r t.iH h.small;obtain⟨gi,c⟩:∃g,g=aU r t.inst:=⟨_,rfl⟩
 obtain⟨i,a⟩:∃g,g=fj r t.lg:=⟨_,rfl⟩
 obtain⟨gs,b⟩:∃g,g=fj r t.iH:=⟨_,rfl⟩
 have e:D6 r t=if r.okB then(if sizedB t then(if bE r t.inst&&(gp r t.lg&&gp r t.iH)then(if t.lg==t.iH then 16 else if i.state==1&&gs.state==1 then 0 else 14)else 10)else 3)else 14:=by rw[a,b];rfl
 rw[e];rw[<-c]at c3;rw[<-a]at c4;rw[<-b]at d;clear e c a b;simp only[ay.cells,aF.cells,av.cells,aT.cells]at *;refine aX 61 2 [.tmp 4] mixed func289 ?_;refine sc aK c1 ?_;cases b1:r.okB
 ·simp only[go_sem,seval]
 refine sc aK c2 ?_;cases b2:sizedB t
 ·simp only[go_sem,seval]
 refine sc aK c3 ?_;refine sc aK c4 ?_;refine sc aK d ?_;clear c1 c2 c3 c4 d;cases f:bE r t.inst<;>simp only[go_sem,seval,f,dU,cz]<;>(with_reducible and_intros)<;>first|exact .dq|omega|skip
 cases j:gp r t.lg<;>simp only[go_sem,seval,f,j,dU,cz]<;>(with_reducible and_intros)<;>first|exact .dq|omega|skip
 cases k:gp r t.iH<;>simp only[go_sem,seval,f,j,k]<;>(with_reducible and_intros)<;>first|exact .dq|omega|skip
 cases l:t.lg==t.iH<;>simp only[go_sem,seval,l]<;>(with_reducible and_intros)<;>first|exact .dq|omega|skip
 cases m:i.state==1<;>simp only[go_sem,seval,bne,m,dU,cz]<;>(with_reducible and_intros)<;>first|exact .dq|omega|skip
 cases n:gs.state==1<;>simp only[go_sem,seval,bne,n]<;>(with_reducible and_intros)<;>first|exact .dq|omega|skip
def aas(t:aT)(a:Bool):Int:=if a then -t.aQ else t.aQ
def mm(t:aT)(a:Bool):List aE:=if sizedB t then[⟨t.lg,t.inst,aas t a,aas t a*t.aS⟩,⟨t.iH,t.inst,-aas t a,-aas t a*t.aS⟩]else[]
def Nd(t:aT)(c:Bool):Sq 328 [] [.agg t.cells,.bool c] [.own 4 ((mm t c).map aE.cells)] (.ref 0):=by
 have c2:Sq 260 [] [.agg t.cells] [] (.bool (sizedB t)):=xE t;simp only[aT.cells]at *;refine aX 39 2 [.tmp 4] mixed func328 ?_;refine sc aK c2 ?_;cases d:sizedB t
 ·simp only[go_sem,seval,mm,d]<;>simp
 have g:=d;simp only[sizedB,within,cU,bO]at g;obtain⟨⟨a1,a2⟩,a3,a4⟩:=g;cases c
 ·have i:=iK (a:=t.aQ) (b:=t.aS) (A:=1048576) (B:=1073741824) aj aj;have j:=iK (a:=-t.aQ) (b:=t.aS) (A:=1048576) (B:=1073741824) aj aj;have w1:IntKind.wrap .i64 (0-t.aQ) = -t.aQ:=fU;have e:IntKind.wrap .i64 (t.aQ*t.aS)=t.aQ*t.aS:=gx aj aj;have f:IntKind.wrap .i64 (-t.aQ*t.aS) = -t.aQ*t.aS:=gx aj aj;simp only[go_sem,seval,w1,e,f,mm,d,aas]<;>simp
 ·have i:=iK (a:=-t.aQ) (b:=t.aS) (A:=1048576) (B:=1073741824) aj aj;have j:=iK (a:=t.aQ) (b:=t.aS) (A:=1048576) (B:=1073741824) aj aj;have w1:IntKind.wrap .i64 (0-t.aQ) = -t.aQ:=fU;have k:IntKind.wrap .i64 (0 - -t.aQ) = - -t.aQ:=fU;have e:IntKind.wrap .i64 (-t.aQ*t.aS) = -t.aQ*t.aS:=gx aj aj;have h:- -t.aQ=t.aQ:=aj
  have f:IntKind.wrap .i64 (- -t.aQ*t.aS) = - -t.aQ*t.aS:=by rw[h];exact gx aj aj
  simp only[go_sem,seval,w1,k,e,f,mm,d,aas]<;>simp
def BJ(t:aT)(a:Bool):Sq 328 [] [.agg t.cells,.bool a] [] (.sl 4 ((mm t a).map aE.cells)):=by
 refine Spec.frozen (Nd t a) [0] rfl ?_;intro r;rcases r with _|r<;>rfl
def Lx(a b c:Int)(f:jB a)(d:jB (b*c)):Sq 54 [] [.I a,.I b,.I c] [] (.agg (wd (a*(b*c)))):=by
 have e:=sV a (b*c) f d;have w:IntKind.wrap .i64 (b*c)=b*c:=gx d.1 (by have:=d.2;omega);simp only[wd]at e |-;refine aX 12 3 [.cell 6 135] mixed func54 ?_;exact lX w e
def gN(p:aE)(m a:Int):Int:=p.aQ*(a*m) + -p.cost*m
def xF(p:aE)(m c:Int)(i:jB p.aQ)(s:bA p.cost=true)(t:0<=m/\m<=1024)(u:0<=c/\c<=1073741824):Sq 17 [] [.agg p.cells,.I m,.I c] [] (.bD [.I (if bA (gN p m c)then gN p m c else 0),.bool (bA (gN p m c))]):=by
 have k1:=iK (a:=c) (b:=m) (A:=1073741824) (B:=1024) aj aj;have hcr:=bf.1 s;have y:0<=c*m:=Int.mul_nonneg u.1 t.1;have k2:=iK (a:=p.aQ) (b:=c*m) (A:=9223372036854775808) (B:=1099511627776) (by have:=i.1;have:=i.2;omega) aj;have k3:=iK (a:=-p.cost) (b:=m) (A:=4611686018427387904) (B:=1024) aj aj;have e:=Lx p.aQ c m i ⟨by omega,by omega⟩;have f:=sV (-p.cost) m ⟨by omega,by omega⟩ ⟨by omega,by omega⟩;have v:xK (p.aQ*(c*m))=true:=by simp only[xK,cU,bO];omega
 have x:xK (-p.cost*m)=true:=by simp only[xK,cU,bO];omega
 have d:=qI [p.aQ*(c*m),-p.cost*m] sT (by intro n o;simp only[List.mem_cons,List.not_mem_nil,or_false]at o;rcases o with rfl|rfl<;>assumption);have g:aC [p.aQ*(c*m),-p.cost*m]=gN p m c:=by simp[aC,gN]
 have r:xK (gN p m c)=true:=by
  have q:gN p m c=p.aQ*(c*m) + -p.cost*m:=rfl;rw[q];clear q g d f e;simp only[xK,cU,bO];constructor<;>omega
 rw[g,r,au rfl]at d;have h:=qH (gN p m c);have w:IntKind.wrap .i64 (0-p.cost) = -p.cost:=fU;simp only[sC,wd,List.map_cons,List.map_nil]at e f d h;simp only[aE.cells];obtain⟨A,j⟩:=aL (p.aQ*(c*m));obtain⟨B,k⟩:=aL (-p.cost*m);obtain⟨C,l⟩:=aL (gN p m c);rw[<-j]at e d;rw[<-k]at f d;rw[<-l]at d h |-;clear j k l k1 y k2 k3 v x g r;refine aX 31 3 [.tmp 6,.tmp 7] mixed func17 ?_;refine sc w e ?_;refine sc aK f ?_;refine sl aK d ?_;exact lX aK h
def pI(w c:Int)(x:aB):Bool:=x.who==w&&x.cur==c
def bL(w c:Int):List aB->Int
 | []=>-1
 |x::r=>if pI w c x then 0 else if bL w c r<0 then -1 else bL w c r+1
theorem G8{w c:Int}:∀{xs:List aB} {i:Nat} (h:i<xs.length),(∀j (b:j<xs.length),j<i->pI w c xs[j]=false)->pI w c xs[i]=true->bL w c xs=i
 | [],i,h,_,_=>by simp at h
 |x::r,0,h,_,a=>by
  have a:pI w c x=true:=a;simp[bL,a]
 |x::r,i+1,h,hn,a=>by
  have d:pI w c x=false:=hn 0 sT aj;have e:=G8 (xs:=r) (i:=i) (su h) (λj b hji=>hn (j+1) (su b) aj) a;simp only[bL,d,e];rw[aq sT,aq aj];omega
theorem En{w c:Int}:∀{xs:List aB},(∀j (a:j<xs.length),pI w c xs[j]=false)->bL w c xs = -1
 | [],_=>rfl
 |x::r,hn=>by
  have b:pI w c x=false:=hn 0 sT;have d:=En (xs:=r) (λj a=>hn (j+1) (su a));simp[bL,b,d]
theorem sG{w c:Int}:∀{xs:List aB},¬bL w c xs<0->∃(i:Nat)(h:i<xs.length),bL w c xs=i/\pI w c xs[i]=true
 | [],h=>by simp[bL]at h
 |t::r,h=>by
  simp only[bL]at h |-;split at h
  ·rename_i a;exact⟨0,by simp,by rw[au a];rfl,a⟩
  ·rename_i a;split at h
   ·omega
   ·rename_i b;obtain⟨i,hi,e,d⟩:=sG (xs:=r) b;refine⟨i+1,by simp;omega,?_,su d⟩;rw[aq a,aq b,e];rfl
def lM(w c:Int)(xs:List aB):aB:=xs.getD (bL w c xs).toNat ⟨0,0,0,0⟩
def kq(w c:Int)(xs:List aB)(hl:xs.length<2^40):Sq 22 [] [.I w,.I c,.sl 4 (xs.map aB.cells)] [] (.I (bL w c xs)):=by
 refine aX 33 3 [.tmp 6] mixed func22 ?_;refine s0 ?_;refine aG.w1 xs.length 7 [0,1,2] [] (λi _=>∀j (e:j<xs.length),j<i->pI w c xs[j]=false) (by intros;omega) ?_ ?_
 ·intro i _ m d g l;have f:=aM (c:=aB.cells) xs m;have hli:(i:Int)<(xs.length:Int):=aj
  have b:=G8 m l;have a:pI w c xs[i]=false->∀j (e:j<xs.length),j<i+1->pI w c xs[j]=false:=λp j e hji=>by
   rcases dN j i with h|h
   ·exact l j e h
   ·obtain rfl:j=i:=aj
    exact p
  obtain⟨x,q⟩:=aL (xs[i]);rw[<-q]at f b a;simp only[pI]at b a;simp only[aB.cells]at f;cases k:x.who==w
  ·refine sm (a4 d f k g) ?_;refine aV ?_;refine ah.u m (a (by simp[k])) ?_;exact iB
  cases n:x.cur==c
  ·refine sm (a5 d f k n g) ?_;refine aV ?_;refine ah.u m (a (by simp[n])) ?_;exact iB
  simp only[go_sem,seval,d,f,k,n,b (by simp[k,n])];exact RS
 ·intro _ o l;simp only[go_sem,seval,o,En (λj e=>l j e e)]
def GY(xs:List aB)(x:aB)(w c:Int):List aB:=if x.who==w&&x.cur==c then(if 0<x.bT then[x]else[])else if bL w c xs<0 then[]else[lM w c xs]
def GX(xs:List aB)(x:aB)(w:Int)(i:Nat):List aB:=n6 (λk=>GY xs x w k) i
def vQ(xs:List aB)(x:aB)(i:Nat):List aB:=n6 (λk=>GX xs x ((k:Int)+1) 3) i
def UH(xs:List aB)(x:aB)(w c:Int):(GY xs x w c).length<=1:=by
 unfold GY;split
 ·split<;>simp
 ·split<;>simp
def UG(xs:List aB)(x:aB)(w:Int)(i:Nat):(GX xs x w i).length<=i:=by
 have:=nS (f:=λk=>GY xs x w (k:Nat)) (m:=1) (λk=>UH _ _ _ _) i;simpa[GX]using this
def UI(xs:List aB)(x:aB)(i:Nat):(vQ xs x i).length<=3*i:=nS (λk=>UG _ _ _ _) i
def Ws(xs:List aB)(x:aB)(hl:xs.length<2^30):Sq 84 [] [.sl 4 (xs.map aB.cells),.agg x.cells] [.own 4 ((vQ xs x 16).map aB.cells)] (.ref 0):=by
 have c1:=λw c=>kq w c xs aj;refine aX 51 2 [.tmp 4] mixed func84 ?_;simp only[aB.cells];refine s0 ?_;refine aG.wv 16 [0,3] [64] (λi=>[(6,.I ((i:Int)+1)),(5,.ref 592)]) (λi=>[(592,.own 4 ((vQ xs x i).map aB.cells))]) ?_ ?_ ?_
 ·simp only[go_sem,seval,vQ,l9]<;>simp
 ·intro i _ M _ _ _;obtain⟨w,F⟩:=aL ((i:Int)+1);have L:decide (w<=16)=true:=jw;have C:IntKind.wrap .i64 (w+1)=((i+1:Nat):Int)+1:=fU;have o:vQ xs x (i+1)=vQ xs x i++GX xs x w 3:=by rw[F];exact iS _ i
  have B:=UI xs x i;obtain⟨W,E⟩:=aL (vQ xs x i);rw[<-E]at o B |-;rw[<-F];refine sm L ?_;refine aG.wv 3 [0,3,6] [64] (λj=>[(7,.I j),(5,.ref 592)]) (λj=>[(592,.own 4 ((W++GX xs x w j).map aB.cells))]) ?_ ?_ ?_
  ·simp only[go_sem,seval,GX,l9]<;>simp
  ·intro c _ p a e _;have a:decide ((c:Int)<3)=true:=a;have s:GX xs x w (c+1)=GX xs x w c++GY xs x w c:=iS _ c;have hlc:=UG xs x w c;obtain⟨V,u⟩:=aL (W++GX xs x w c);have hVl:V.length<=100:=by rw[u,ct];omega
   have b:W++GX xs x w (c+1)=V++GY xs x w c:=by rw[s,u,dS]
   have c1:=c1 w c;rw[<-u];clear u s E o;simp only[GY]at b;have rest:(x.who==w&&x.cur==(c:Int))=false->∀{Q:Prop},(bL w c xs<0->W++GX xs x w (c+1)=V->Q)->(∀(k:Nat)(m:k<xs.length),bL w c xs=k->W++GX xs x w (c+1)=V++[xs[k]]->Q)->Q:=λD Q J K=>by
    by_cases h:bL w c xs<0
    ·rw[D,aq sT,au h,List.append_nil]at b;exact J h b
    ·obtain⟨k,m,q,_⟩:=sG h;rw[D,aq sT,aq h]at b;exact K k m q (by rw[b,lM,q];simp[m])
   have g:(w==x.who)=(x.who==w):=by rw[lZ];simp only[fE];exact eq_comm
   cases f:x.who==w
   ·refine rest (by simp[f]) (λh n=>?_) (λk m h n=>?_)
    ·have d:decide (0<=bL w c xs)=false:=lJ;refine sc (a5 a g f d e) c1 ?_;refine ah.v p ?_;exact eo n
    ·have r:=aM (c:=aB.cells) xs m;have A:(k:Int)<(xs.length:Int):=aj
     simp only[aB.cells]at r;rw[h]at c1;refine sc (a5 a g f e r) c1 ?_;refine aV ?_;refine ah.v p ?_;exact gH n
   cases l:x.cur==(c:Int)
   ·have t:((c:Int)==x.cur)=false:=by rw[<-l,lZ];simp;omega
    refine rest (by simp[l]) (λh n=>?_) (λk m h n=>?_)
    ·have d:decide (0<=bL w c xs)=false:=lJ;refine sc (a5 a g f l (a3 t d e)) c1 ?_;refine ah.v p ?_;exact eo n
    ·have r:=aM (c:=aB.cells) xs m;have A:(k:Int)<(xs.length:Int):=aj
     simp only[aB.cells]at r;rw[h]at c1;refine sc (a5 a g f l (a3 t e r)) c1 ?_;refine aV ?_;refine ah.v p ?_;exact gH n
   have t:((c:Int)==x.cur)=true:=by rw[<-l,lZ];simp;omega
   have G:(w==x.who)=true:=by rw[<-f,lZ];simp;omega
   by_cases y:0<x.bT
   ·have d:decide (0<x.bT)=true:=dw y;simp only[f,l,Bool.and_self,if_true,au y]at b;refine sm (a5 a f l t (a3 G d e)) ?_;refine aV ?_;refine ah.v p ?_;exact gH b
   ·have d:decide (0<x.bT)=false:=gB y;simp only[f,l,Bool.and_self,if_true,aq y,List.append_nil]at b;refine sm (a5 a f l t (a3 G d e)) ?_;refine ah.v p ?_;exact eo b
  ·intro _ a _;have a:decide ((3:Int)<3)=false:=a;refine sm (a2 a C) ?_;refine ah.v M ?_;exact eo o
 ·intro _ _ _;exact iB
def HF(xs:List aB)(x:aB)(a:xs.length<2^30):Sq 84 [] [.sl 4 (xs.map aB.cells),.agg x.cells] [] (.sl 4 ((vQ xs x 16).map aB.cells)):=by
 refine Spec.frozen (Ws xs x a) [0] rfl ?_;intro r;rcases r with _|r<;>rfl
def De(z:Nat)(r:List D):Prop:=r.length=z/\(∀d∈r,cE d)/\∀d∈r,mh d=true
structure ah3(τ:TypeId->TypeId)(ρ:FuncId->FuncId)(z by_:Nat)(zc:List D)(fo:Func):Prop where
 rn:Mx prog τ ρ 268 3
 t0:τ 0=0
 t3:τ 3=3
 t4:τ 4=4
 pos:1<=z
 big:by_<=1024
 sl:fD prog (τ 38)=.slice z by_ true
 zel:gr prog (τ 38)=some zc
 zc:De z zc
 o1:prog.funcs[ρ 313]?=some fo
 o2 : (fo.name == "runtime.NumGoroutine") = false
 o3:fo.body.isNone=true
 o4:Extern.findNext fo=none
 o5:Extern.find fo=some (Extern.SlicesOverlaps.overlaps fo.params fo.resultTypes)
 o6:fo.params[0]?=some (τ 38)
 np:(τ 38==E7||τ 38==E9)=false
section
variable{τ:TypeId->TypeId}{ρ:FuncId->FuncId}{z by_:Nat}{zc:List D}{fo:Func}(H:ah3 τ ρ z by_ zc fo)
include H
end
def Spec.IQ{P:Program}{f:FuncId}{m ds ds' b:List D}{d:D}(h:Abs.Spec P f m ds b d)(A:nM (λ_=>none) (λ_=>false) ds' ds):Abs.Spec P f m ds' b d:=by
 obtain⟨l,q⟩:=EM A;refine⟨h.1,?_⟩;intro w k p c e vs u g t j hr a;refine h.2 w k p c e vs u g t (by rw[j,l]) ?_ a;intro i v y B o;have x:i<ds'.length:=by rw[l];exact(ia.1 o).1
 have n:ds'[i]?=some ds'[i]:=gF x;exact nT.rep (C:=cx w k e) (C':=cx w k e) (λ_ _ h=>h) (by intro s r h;cases h) (by intro s _ h;cases h) (hr i v _ B n) (q i _ _ n o)
structure anR(τ:TypeId->TypeId)(ρ:FuncId->FuncId)(z by_:Nat)(zc:List D):Prop where
 rn:Mx prog τ ρ 267 3
 t0:τ 0=0
 t3:τ 3=3
 t4:τ 4=4
 big:by_<=1024
 sl:fD prog (τ 38)=.slice z by_ true
 zel:gr prog (τ 38)=some zc
 zc:De z zc
