/- Parts. -/
import Derived.Test.YtfhdodehnpbeoaaGreatKH
import Derived.Test.YtfhdodehnpbeoaaGreatKG
set_option linter.all false
set_option maxHeartbeats 4000000
set_option maxRecDepth 16000
namespace Go.Proofs.YtfhdodehnpbeoaaGreat
open Go.Abs Tryz
def jq(s:af)(x:s.small)(hr:s.gq):Sq 19 [] [.agg s.cells] [] (.bool (bS s)):=by
 have w:=x.ak.small;have L:=j6 s.now 0 1099511627776;have a2:=j6 s.day 0 1099511627776;have a3:=j6 s.phase 0 2;have c2:=gW s.ak w;have c3:=mV s.book x.book hr.qs;have c4:=ny s.bp x.bp hr.bs;have M:=uw s.ps (by have:=x.ps;omega);have N:=xB s.calls x.calls;have A:=λn=>tI s n w;have H:=λn=>Lq s n w;have S:=λn=>rH s.ak n w;have O:=Q9 s x.aZ;have P:=Nk s x.aR;obtain⟨hb1,hb2⟩:=x.book;have hpl:=x.ps;have hcl:=x.calls;have v:=λh n=>afn (r:=s.ak) h n;simp only[ay.cells,aJ.cells,bu.cells]at c2 c3 c4 S;simp only[af.cells]at A H O P |-;clear x hr w;refine aX 197 1 [.tmp 2] mixed func19 ?_;refine sc aK L ?_;cases I:within s.now 0 1099511627776
 ·have e:bS s=false:=by simp[bS,ug,I]
  exact eo e
 refine sc aK a2 ?_;cases J:within s.day 0 1099511627776
 ·have e:bS s=false:=by simp[bS,ug,J]
  exact eo e
 refine sc aK a3 ?_;cases K:within s.phase 0 2
 ·have e:bS s=false:=by simp[bS,ug,K]
  exact eo e
 refine sc aK c2 ?_;cases f:s.ak.okB
 ·have e:bS s=false:=by simp[bS,f]
  exact eo e
 refine sc aK c3 ?_;cases q:s.book.okB
 ·have e:bS s=false:=by simp[bS,q]
  exact eo e
 refine sc aK c4 ?_;cases B:s.bp.okB
 ·have e:bS s=false:=by simp[bS,B]
  exact eo e
 refine sc aK M ?_;cases C:kf s.ps
 ·have e:bS s=false:=by simp[bS,C]
  exact eo e
 refine sc aK N ?_;cases D:nQ bN bI s.calls
 ·have e:bS s=false:=by simp[bS,D]
  exact eo e
 have v:=v f;have e:bS s=(sL s&&(!decide (32<(s.aZ.length:Int))&&(s.aZ.all q8&&nQ jI gT s.aR))):=by simp only[bS,ug,I,J,K,f,q,B,C,D,cz]
 rw[e];clear e L a2 a3 c2 c3 c4 M N I J K f q B C D;obtain⟨R,F⟩:=aL ((!decide (32<(s.aZ.length:Int))&&(s.aZ.all q8&&nQ jI gT s.aR)));rw[<-F];refine s0 ?_;refine aG.w1 s.book.qs.length 3 [1] [32] (λi _=>∀j (G:j<s.book.qs.length),j<i->KX s.ak s.book.qs[j]=true) (by intros;omega) ?_ ?_
 ·intro i _ l p z k;have t:=aM (c:=aE.cells) s.book.qs l;have y:(i:Int)<(s.book.qs.length:Int):=aj
  have e0:=qY l k;have m:KX s.ak s.book.qs[i]=false->(sL s&&R)=false:=λh=>by simp[sL,yS l h]
  simp only[KX,v]at m;simp only[aE.cells]at t;refine sc (a2 p t) (A s.book.qs[i].who) ?_;cases b:bF s.ak s.book.qs[i].who==0
  case true =>
   have:=m (by simp[b]);refine sm (a2 b this) ?_;exact RS
  cases f:bF s.ak s.book.qs[i].who==3
  case true =>
   have:=m (by simp[f]);refine sm (a3 b f this) ?_;exact RS
  refine sc (a3 b f t) (H s.book.qs[i].inst) ?_;cases q:bE s.ak s.book.qs[i].inst
  ·have:=m (by simp[q]);exact eo this
  refine sm z ?_;refine ah.u l (e0 (by simp only[KX,v,b,f,q];rfl)) ?_;exact iB
 intro _ d k;have o:=uI k;have Q:(sL s&&R)=((s.book.ts.all (CN s.ak)&&(s.ps.all (BA s.ak)&&s.calls.all (v8 s.ak)))&&R):=by simp[sL,o]
 rw[Q];clear Q o k;refine sm d ?_;clear d;refine aG.w1 s.book.ts.length 5 [1] [32] (λi _=>∀j (G:j<s.book.ts.length),j<i->CN s.ak s.book.ts[j]=true) (by intros;omega) ?_ ?_
 ·intro i _ l p z k;have t:=aM (c:=aT.cells) s.book.ts l;have y:(i:Int)<(s.book.ts.length:Int):=aj
  have e0:=qY l k;have m:CN s.ak s.book.ts[i]=false->((s.book.ts.all (CN s.ak)&&(s.ps.all (BA s.ak)&&s.calls.all (v8 s.ak)))&&R)=false:=λh=>by simp[yS l h]
  simp only[CN]at m;simp only[aT.cells]at t;refine sc (a2 p t) (A s.book.ts[i].lg) ?_;cases b:bF s.ak s.book.ts[i].lg==0
  case true =>
   have:=m (by simp[b]);refine sm b ?_;exact this.symm
  refine sc (a2 b t) (A s.book.ts[i].iH) ?_;cases f:bF s.ak s.book.ts[i].iH==0
  case true =>
   refine sm f ?_;exact(m (by simp[f])).symm
  refine sc (a2 f t) (H s.book.ts[i].inst) ?_;cases q:bE s.ak s.book.ts[i].inst
  ·refine s0 ?_;exact(m (by simp[q])).symm
  refine sm z ?_;refine ah.u l (e0 (by simp only[CN,b,f,q];rfl)) ?_;exact iB
 intro _ d k;have o:=uI k;rw[o,cz];clear o k;have hpln:(pl s.ps).length=s.ps.length:=pK s.ps;refine sm d ?_;clear d;refine aG.w1 s.ps.length 6 [1] [32] (λi _=>∀j (G:j<s.ps.length),j<i->BA s.ak s.ps[j]=true) (by intros;omega) ?_ ?_
 ·intro i _ l p z k;have t:=oA s.ps l;have y:(i:Int)<(s.ps.length:Int):=aj
  have e0:=qY l k;have m:BA s.ak s.ps[i]=false->((s.ps.all (BA s.ak)&&s.calls.all (v8 s.ak))&&R)=false:=λh=>by simp[yS l h]
  have e2:BA s.ak s.ps[i]=((!(bF s.ak s.ps[i].who==0)&&!(bF s.ak s.ps[i].who==3))&&o7 s.ak s.ps[i].bV):=by simp only[BA,v]
  have o:=S s.ps[i].bV;obtain⟨g,T⟩:=aL (jS aD.a s.ps[i].bV ⟨0,0,0,0⟩ s.ak.xs);have E:decide (0<=lT aD.a s.ps[i].bV s.ak.xs)=o7 s.ak s.ps[i].bV:=rfl;rw[<-T,E]at o;simp only[aD.cells]at o;rw[e2]at e0 m;clear e2;refine sc (a2 p t) (A s.ps[i].who) ?_;refine sc aK o ?_;cases b:bF s.ak s.ps[i].who==0
  case true =>
   refine sm b ?_;refine aV ?_;exact(m (by simp[b])).symm
  cases f:bF s.ak s.ps[i].who==3
  case true =>
   refine sm (a2 b f) ?_;refine aV ?_;exact(m (by simp[f])).symm
  cases q:o7 s.ak s.ps[i].bV
  ·refine sm (a3 b f q) ?_;refine aV ?_;exact(m (by simp[q])).symm
  refine sm (a4 b f q z) ?_;refine aV ?_;refine ah.u l (e0 (by simp[b,f,q])) ?_;exact iB
 intro _ d k;have o:=uI k;rw[o,cz];clear o k;refine sm d ?_;clear d;refine aG.w1 s.calls.length 10 [1] [32] (λi _=>∀j (G:j<s.calls.length),j<i->v8 s.ak s.calls[j]=true) (by intros;omega) ?_ ?_
 ·intro i _ l p z k;have t:=aM (c:=aB.cells) s.calls l;have y:(i:Int)<(s.calls.length:Int):=aj
  have e0:=qY l k;have m:v8 s.ak s.calls[i]=false->(s.calls.all (v8 s.ak)&&R)=false:=λh=>by simp[yS l h]
  simp only[aB.cells]at t;refine sc (a2 p t) (A s.calls[i].who) ?_;cases b:bF s.ak s.calls[i].who==1
  ·refine sm (a2 dV b) ?_;exact(m b).symm
  refine sm (a3 dV b z) ?_;refine ah.u l (e0 b) ?_;exact iB
 intro _ d k;have o:=uI k;rw[o,cz,F,<-Bool.and_assoc];clear o k F;refine sc d O ?_;cases b7:(!decide (32<(s.aZ.length:Int))&&s.aZ.all q8)
 ·simp only[go_sem,seval,dU]
 refine s0 ?_;refine az.aP P ?_;simp only[go_sem,seval,cz]
structure bB where
 client:Int
 seq:Int
 kind:Int
 who:Int
 other:Int
 no:Int
 inst:Int
 cur:Int
 aQ:Int
 aS:Int
 bT:Int
 s0:Int
 s1:Int
 s2:Int
 s3:Int
 s4:Int
 s5:Int
deriving DecidableEq
@[reducible] def bB.cells(x:bB):List D:=[.I x.client,.I x.seq,.I x.kind,.I x.who,.I x.other,.I x.no,.I x.inst,.I x.cur,.I x.aQ,.I x.aS,.I x.bT,.I x.s0,.I x.s1,.I x.s2,.I x.s3,.I x.s4,.I x.s5]
theorem lQ(a b c:Int):Sq 234 [] [.I a,.I b,.I c] [] (.bool (within a b c)):=by
 refine aX 15 3 [.tmp 6] mixed func234 ?_;refine s0 ?_;repeat' with_reducible first|apply And.intro|exact .dq|refine az.aP (by assumption) ?_|refine mW (λh=>?_) λh=>?_|refine .id ?_|refine ah.eI aj ?_ ?_|exact aK|simp only[*,go_sem,seval]
 all_goals(simp only[within];simp<;>omega)
def mu(k w c:Int):Sq 237 [] [.int .i64 k,.int .i64 w,.int .i64 c] [] (.agg [.int .i64 k,.int .i64 w,.int .i64 c]):=by
 refine aX 11 3 [.cell 6 65] mixed func237 ?_;simp only[go_sem,seval]
def cj(e:Int):Sq 235 [] [.int .i64 e] [] (.agg [.int .i64 e,.int .i64 0,.int .i64 0,.nil,.nil]):=by
 refine aX 5 1 [.cell 2 121] mixed func235 ?_;simp only[go_sem,seval]
def Jf(r:ay)(w:Int):Int:=if gp r w then(if(fj r w).state=1 then 0 else 14)else 10
def yB(s:af)(w:Int)(c:s.ak.small):Sq 286 [] [.agg s.cells,.int .i64 w] [] (.int .i64 (Jf s.ak w)):=by
 have a:=dK s.ak w c;simp only[af.cells]at a |-;simp only[ay.cells]at a;unfold Jf;obtain⟨m,e⟩:=aL (fj s.ak w);rw[<-e]at a |-;refine aX 19 2 [.tmp 4] mixed func286 ?_;refine sc aK a ?_;cases q:gp s.ak w
 ·exact jh
 refine sm dV ?_;refine aV ?_;by_cases b:m.state=1
 ·have d:(m.state==1)=true:=su b;simp only[go_sem,seval,d,au b]<;>simp
 ·have d:(m.state==1)=false:=su b;simp only[go_sem,seval,d,aq b]<;>simp
def YG(s:af)(w c:Int):Int:=if Mt s w c=0 then(if decide (0<uW s w c)||decide (0<=bL w c s.calls)then 17 else 0)else Mt s w c
def wG(s:af)(w c:Int)(b:s.small)(hr:s.gq)(g:s.bp.bs.length<2^29)(h:s.ps.length<2^29):Sq 287 [] [.agg s.cells,.int .i64 w,.int .i64 c] [] (.int .i64 (YG s w c)):=by
 have a:s.fit:=⟨b.ak.small,b.book,b.bp,b.ps⟩
 have f:=xD s w c a hr g h;have l:=kq w c s.calls (by have:=b.calls;omega);simp only[af.cells]at f |-;unfold YG;obtain⟨e,i⟩:=aL (Mt s w c);obtain⟨n,j⟩:=aL (uW s w c);rw[<-i,<-j]at f;rw[<-i,<-j];refine aX 29 3 [.tmp 6] mixed func287 ?_;refine sc aK f ?_;by_cases q:e=0
 case neg =>
  have d:(e==0)=false:=su q;simp only[go_sem,seval,bne,d,aq q]
 rw[q];simp only[go_sem,seval];refine aV ?_;cases q2:decide (0<n)
 ·refine sc aK l ?_;cases k:decide (0<=bL w c s.calls)
  ·exact gH k
  ·exact gH k
 ·exact jh
def mB(n:Int):List bZ->Int->Int
 | [],_=>-1
 |x::r,i=>if x.client==n then i else mB n r (i+1)
def BG(s:af)(n:Int)(hl:s.aR.length<2^40):Sq 119 [] [.agg s.cells,.int .i64 n] [] (.int .i64 (mB n s.aR 0)):=by
 simp only[af.cells];refine aX 22 2 [.tmp 4] mixed func119 ?_;simp only[go_sem,seval];refine aG.wu s.aR.length [1,2] [48] (λi=>[(5,.int .i64 i)]) (λ_=>[]) (λi=>mB n (s.aR.drop i) i=mB n s.aR 0) rfl ?_ ?_ ?_
 ·simp only[go_sem,seval];try simp
 ·intro i _ e b g a;have f:=aM (c:=bZ.cells) s.aR e;have hli:(i:Int)<(s.aR.length:Int):=aj
  obtain⟨x,h⟩:=aL (s.aR[i]);rw[dI e,<-h]at a;rw[<-h]at f;simp only[mB]at a;simp only[bZ.cells]at f;simp only[go_sem,seval,b,f];refine aV ?_;cases q:x.client==n
  ·rw[q]at a;simp only[go_sem,seval,g];refine ah.u e (su a) ?_;simp only[go_sem,seval]
  ·rw[q,au rfl]at a;rw[<-a];simp only[go_sem,seval]
 ·intro _ d a;rw[jJ]at a;rw[<-a];simp only[go_sem,seval,d,mB]
def yV(s:ByteArray)(i:Nat):Int:=((s[i]?).map (λx=>(x.toNat:Int))).getD 0
def abE(s:ByteArray)(b:Int):Nat->Nat->Bool
 | 0,_=>false
 |m+1,i=>yV s i==b||abE s b m (i+1)
def hasB(s:ByteArray)(b:Int):Bool:=abE s b s.size 0
def M5(s:ByteArray)(b:Int)(hl:s.size<2^60):Sq 284 [] [.str s,.int .u8 b] [] (.bool (hasB s b)):=by
 refine aX 17 2 [.tmp 4] mixed func284 ?_;refine s0 ?_;refine aG.wu s.size [0,1] [] (λi=>[(5,.I i)]) (λ_=>[]) (λi=>abE s b (s.size-i) i=hasB s b) rfl ?_ ?_ ?_
 ·refine s0 ?_;try simp
 ·intro i _ h c f a;obtain⟨m,j⟩:∃m,s.size-i=m+1:=⟨s.size-i-1,by omega⟩
  have e:s.size-(i+1)=m:=aj
  rw[j]at a;simp only[abE]at a;have hli:(i:Int)<(s.size:Int):=aj
  have g:((s[i]?).map (λx=>(x.toNat:Int))).getD 0=yV s i:=rfl;simp only[go_sem,seval,c,Int.toNat_natCast,g];refine aV ?_;cases q:yV s i==b
  ·rw[q,Bool.false_or]at a;refine sm f ?_;refine ah.u h (by rw[e];exact a) ?_;exact iB
  ·rw[q,Bool.true_or]at a;rw[<-a];exact iB
 ·intro _ d a;rw[Nat.sub_self]at a;rw[<-a];simp only[go_sem,seval,d,abE]
def V6:List ByteArray:=[⟨#[]⟩,⟨#[119,97]⟩,⟨#[105,99,113,97,115]⟩,⟨#[110,99,112,97]⟩,⟨#[119,99,97]⟩,⟨#[119,99,97]⟩,⟨#[119,110,113]⟩,⟨#[119,110,113]⟩,⟨#[119,99,97]⟩,⟨#[99,97]⟩,⟨#[119,111,105,113,112]⟩,⟨#[110]⟩,⟨#[110,113,112]⟩,⟨#[105,112]⟩,⟨#[]⟩,⟨#[]⟩,⟨#[]⟩,⟨#[97]⟩,⟨#[119,105,111,113,112]⟩,⟨#[119]⟩,⟨#[]⟩,⟨#[110,119,99]⟩,⟨#[119,105]⟩]
def iF(k:Int):ByteArray:=V6.getD k.toNat ⟨#[]⟩
def Ij(k:Int)(h:1<=k/\k<=22):Sq 283 [] [.I k] [] (.str (iF k)):=by
 have a:k=1\/k=2\/k=3\/k=4\/k=5\/k=6\/k=7\/k=8\/k=9\/k=10\/k=11\/k=12\/k=13\/k=14\/k=15\/k=16\/k=17\/k=18\/k=19\/k=20\/k=21\/k=22:=aj
 clear h;rcases a with rfl|rfl|rfl|rfl|rfl|rfl|rfl|rfl|rfl|rfl|rfl|rfl|rfl|rfl|rfl|rfl|rfl|rfl|rfl|rfl|rfl|rfl
 ·refine aX 17 1 [.tmp 2] mixed func283 ?_;refine s0 ?_;exact(rfl:(⟨#[119,97]⟩:ByteArray)=iF 1)
 ·refine aX 17 1 [.tmp 2] mixed func283 ?_;refine s0 ?_;exact(rfl:(⟨#[105,99,113,97,115]⟩:ByteArray)=iF 2)
 ·refine aX 17 1 [.tmp 2] mixed func283 ?_;refine s0 ?_;exact(rfl:(⟨#[110,99,112,97]⟩:ByteArray)=iF 3)
 ·refine aX 17 1 [.tmp 2] mixed func283 ?_;refine s0 ?_;exact(rfl:(⟨#[119,99,97]⟩:ByteArray)=iF 4)
 ·refine aX 17 1 [.tmp 2] mixed func283 ?_;refine s0 ?_;exact(rfl:(⟨#[119,99,97]⟩:ByteArray)=iF 5)
 ·refine aX 17 1 [.tmp 2] mixed func283 ?_;refine s0 ?_;exact(rfl:(⟨#[119,110,113]⟩:ByteArray)=iF 6)
 ·refine aX 17 1 [.tmp 2] mixed func283 ?_;refine s0 ?_;exact(rfl:(⟨#[119,110,113]⟩:ByteArray)=iF 7)
 ·refine aX 17 1 [.tmp 2] mixed func283 ?_;refine s0 ?_;exact(rfl:(⟨#[119,99,97]⟩:ByteArray)=iF 8)
 ·refine aX 17 1 [.tmp 2] mixed func283 ?_;refine s0 ?_;exact(rfl:(⟨#[99,97]⟩:ByteArray)=iF 9)
 ·refine aX 17 1 [.tmp 2] mixed func283 ?_;refine s0 ?_;exact(rfl:(⟨#[119,111,105,113,112]⟩:ByteArray)=iF 10)
 ·refine aX 17 1 [.tmp 2] mixed func283 ?_;refine s0 ?_;exact(rfl:(⟨#[110]⟩:ByteArray)=iF 11)
 ·refine aX 17 1 [.tmp 2] mixed func283 ?_;refine s0 ?_;exact(rfl:(⟨#[110,113,112]⟩:ByteArray)=iF 12)
 ·refine aX 17 1 [.tmp 2] mixed func283 ?_;refine s0 ?_;exact(rfl:(⟨#[105,112]⟩:ByteArray)=iF 13)
 ·refine aX 17 1 [.tmp 2] mixed func283 ?_;refine s0 ?_;exact(rfl:(⟨#[]⟩:ByteArray)=iF 14)
 ·refine aX 17 1 [.tmp 2] mixed func283 ?_;refine s0 ?_;exact(rfl:(⟨#[]⟩:ByteArray)=iF 15)
 ·refine aX 17 1 [.tmp 2] mixed func283 ?_;refine s0 ?_;exact(rfl:(⟨#[]⟩:ByteArray)=iF 16)
 ·refine aX 17 1 [.tmp 2] mixed func283 ?_;refine s0 ?_;exact(rfl:(⟨#[97]⟩:ByteArray)=iF 17)
 ·refine aX 17 1 [.tmp 2] mixed func283 ?_;refine s0 ?_;exact(rfl:(⟨#[119,105,111,113,112]⟩:ByteArray)=iF 18)
 ·refine aX 17 1 [.tmp 2] mixed func283 ?_;refine s0 ?_;exact(rfl:(⟨#[119]⟩:ByteArray)=iF 19)
 ·refine aX 17 1 [.tmp 2] mixed func283 ?_;refine s0 ?_;exact(rfl:(⟨#[]⟩:ByteArray)=iF 20)
 ·refine aX 17 1 [.tmp 2] mixed func283 ?_;refine s0 ?_;exact(rfl:(⟨#[110,119,99]⟩:ByteArray)=iF 21)
 ·refine aX 17 1 [.tmp 2] mixed func283 ?_;refine s0 ?_;exact(rfl:(⟨#[119,105]⟩:ByteArray)=iF 22)
def Qo(c:bB)(b:Int):Int:=if b=119 then c.who else if b=111 then c.other else if b=110 then c.no else if b=105 then c.inst else if b=99 then c.cur else if b=113 then c.aQ else if b=112 then c.aS else c.bT
def Ii(c:bB)(b:Int):Sq 285 [] [.agg c.cells,.int .u8 b] [] (.I (Qo c b)):=by
 simp only[bB.cells];unfold Qo;refine aX 36 2 [.tmp 4] mixed func285 ?_;refine s0 ?_;refine aV ?_;by_cases a:b=119
 ·have d:(b==119)=true:=su a;simp only[go_sem,seval,d,au a]
 have k:(b==119)=false:=su a;refine sm k ?_;by_cases e:b=111
 ·have d:(b==111)=true:=su e;simp only[go_sem,seval,d,au e,aq a]
 have l:(b==111)=false:=su e;refine sm l ?_;by_cases f:b=110
 ·have d:(b==110)=true:=su f;simp only[go_sem,seval,d,au f,aq a,aq e]
 have m:(b==110)=false:=su f;refine sm m ?_;by_cases g:b=105
 ·have d:(b==105)=true:=su g;simp only[go_sem,seval,d,au g,aq a,aq e,aq f]
 have n:(b==105)=false:=su g;refine sm n ?_;by_cases h:b=99
 ·have d:(b==99)=true:=su h;simp only[go_sem,seval,d,au h,aq a,aq e,aq f,aq g]
 have o:(b==99)=false:=su h;refine sm o ?_;by_cases i:b=113
 ·have d:(b==113)=true:=su i;simp only[go_sem,seval,d,au i,aq a,aq e,aq f,aq g,aq h]
 have p:(b==113)=false:=su i;refine sm p ?_;by_cases j:b=112
 ·have d:(b==112)=true:=su j;simp only[go_sem,seval,d,au j,aq a,aq e,aq f,aq g,aq h,aq i]
 have q:(b==112)=false:=su j;simp only[go_sem,seval,q,aq a,aq e,aq f,aq g,aq h,aq i,aq j]
