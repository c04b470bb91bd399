/- Parts. -/
import Derived.Test.YtfhdodehnpbeoaaGreatKH
import Derived.Test.YtfhdodehnpbeoaaGreatKG
set_option linter.all false
set_option maxHeartbeats 4000000
set_option maxRecDepth 16000
namespace Go.Proofs.YtfhdodehnpbeoaaGreat
open Go.Abs Tryz
open List hiding lt max min
def wo(d:aH):Bool:=(within d.who 1 16&&within d.cur 0 2)&&within d.bT 0 4611686018427387904
def yD(d:aH):Sq 83 [] [.agg d.cells] [] (.bool (wo d)):=by
 have c1:=jZ d.who;have c2:=jY d.cur;have c3:=jj d.bT 0 4611686018427387904;simp only[aH.cells,wo];refine aX 16 1 [.tmp 2] mixed func83 ?_;refine sc aK c1 ?_;cases q1:within d.who 1 16
 ·simp only[go_sem,seval,dU]
 refine sc aK c2 ?_;cases q2:within d.cur 0 2
 ·simp only[go_sem,seval,dU,Bool.and_false]
 refine s0 ?_;refine aV ?_;refine az.aP c3 ?_;simp only[go_sem,seval,cz]
def vV(xs:List aB)(d:aH)(a:Int):Int:=if nQ bN bI xs then(if wo d&&within a 0 1099511627776 then 0 else 3)else 14
def yT(xs:List aB)(d:aH)(a:Int):List aB:=if vV xs d a=0 then vQ xs ⟨d.who,d.cur,d.bT,if bL d.who d.cur xs<0 then a else(lM d.who d.cur xs).till⟩ 16 else[]
def Ud(xs:List aB)(d:aH)(a:Int)(m:xs.length<2^30):Sq 300 [] [.sl 4 (xs.map aB.cells),.agg d.cells,.I a] [] (.bD [.sl 4 ((yT xs d a).map aB.cells),.I (vV xs d a)]):=by
 have c1:=xB xs m;have c2:=yD d;have c3:=jj a 0 1099511627776;have c4:=kq d.who d.cur xs aj;have b:=λx=>HF xs x m;simp only[aH.cells,aB.cells]at c2 b |-;refine aX 38 3 [.tmp 6,.tmp 7] mixed func300 ?_;refine sc aK c1 ?_;cases g:nQ bN bI xs
 ·have e:vV xs d a=14:=by simp[vV,g]
  simp only[go_sem,seval,yT,e]<;>simp
 refine sc aK c2 ?_;cases i:wo d
 ·have e:vV xs d a=3:=by simp[vV,g,i]
  simp only[go_sem,seval,yT,e]<;>simp
 refine sc aK c3 ?_;cases j:within a 0 1099511627776
 ·have e:vV xs d a=3:=by simp[vV,g,i,j]
  simp only[go_sem,seval,yT,e]<;>simp
 have e:vV xs d a=0:=by simp[vV,g,i,j]
 simp only[yT,e];refine sc aK c4 ?_;by_cases h:bL d.who d.cur xs<0
 ·have o:decide (0<=bL d.who d.cur xs)=false:=lJ;have b:=b ⟨d.who,d.cur,d.bT,a⟩;rw[au h];exact lX o b
 ·obtain⟨k,l,f,_⟩:=sG h;have n:=aM (c:=aB.cells) xs l;have hlk:(k:Int)<(xs.length:Int):=aj
  have p:lM d.who d.cur xs=xs[k]:=by rw[lM,f];simp[l]
  have b:=b ⟨d.who,d.cur,d.bT,xs[k].till⟩;simp only[aB.cells]at n;rw[aq h,p];exact lX (a2 f n) b
def ym(xs:List aB)(d:aH):Int:=if nQ bN bI xs then(if wo d then 0 else 3)else 14
def TG(xs:List aB)(d:aH):aB:=if bL d.who d.cur xs<0 then⟨d.who,d.cur,0,0⟩else{ lM d.who d.cur xs with bT:=max ((lM d.who d.cur xs).bT-d.bT) 0 }
def Aj(xs:List aB)(d:aH):List aB:=if ym xs d=0 then vQ xs (TG xs d) 16 else[]
def Fi(xs:List aB)(d:aH)(n:xs.length<2^30):Sq 33 [] [.sl 4 (xs.map aB.cells),.agg d.cells] [] (.bD [.sl 4 ((Aj xs d).map aB.cells),.int .i64 (ym xs d)]):=by
 have c1:=xB xs n;have c2:=yD d;have c4:=kq d.who d.cur xs aj;have a:=λx=>HF xs x n;simp only[aH.cells,aB.cells]at c2 a |-;refine aX 46 2 [.tmp 4,.tmp 5] mixed func33 ?_;refine sc aK c1 ?_;cases g:nQ bN bI xs
 ·have e:ym xs d=14:=by simp[ym,g]
  simp only[go_sem,seval,Aj,e]<;>simp
 refine sc aK c2 ?_;cases i:wo d
 ·have e:ym xs d=3:=by simp[ym,g,i]
  simp only[go_sem,seval,Aj,e]<;>simp
 have e:ym xs d=0:=by simp[ym,g,i]
 simp only[Aj,e];refine sc aK c4 ?_;by_cases h:bL d.who d.cur xs<0
 ·have j:decide (bL d.who d.cur xs<0)=true:=dw h;have a:=a ⟨d.who,d.cur,0,0⟩;simp only[TG];rw[au h];exact lX j a
 ·obtain⟨k,l,b,_⟩:=sG h;have m:=aM (c:=aB.cells) xs l;have hlk:(k:Int)<(xs.length:Int):=aj
  have o:lM d.who d.cur xs=xs[k]:=by rw[lM,b];simp[l]
  have f:=Qc g l;simp only[bN,within,cU,bO]at f;simp only[wo,within,cU,bO]at i;simp only[TG];rw[aq h,o];obtain⟨x,q⟩:=aL (xs[k]);rw[<-q]at m f |-;have p:IntKind.wrap .i64 (x.bT-d.bT)=x.bT-d.bT:=gx aj aj;have a:=a { x with bT:=max (x.bT-d.bT) 0 };simp only[aB.cells]at m a;have j:decide ((k:Int)<0)=false:=lJ;exact lX (a4 b j m p) a
def jM(n:Int)(xs:List aB):List aB:=xs.flatMap λx=>if x.till<=n then[x]else[]
def nw(n:Int)(xs:List aB):List aB:=xs.flatMap λx=>if x.till<=n then[]else[x]
def Uh(n:Int)(xs:List aB)(hl:xs.length<2^30):Sq 301 [] [.I n,.sl 4 (xs.map aB.cells)] [.own 4 ((jM n xs).map aB.cells),.own 4 ((nw n xs).map aB.cells)] (.bD [.ref 0,.ref 1]):=by
 refine aX 38 2 [.tmp 4,.tmp 5] mixed func301 ?_;refine s0 ?_;refine aG.wv xs.length [0,1] [] (λi=>[(8,.I i),(6,.ref 464),(7,.ref 576)]) (λi=>[(464,.own 4 ((jM n (xs.take i)).map aB.cells)),(576,.own 4 ((nw n (xs.take i)).map aB.cells))]) ?_ ?_ ?_
 ·simp only[go_sem,seval]<;>simp[jM,nw]
 ·intro i _ f e g _;have h:=aM (c:=aB.cells) xs f;have hli:(i:Int)<(xs.length:Int):=aj
  have hlt:(xs.take i).length=i:=by simp;omega
  have a:jM n (xs.take (i+1))=jM n (xs.take i)++_:=gU _ f;have b:nw n (xs.take (i+1))=nw n (xs.take i)++_:=gU _ f;have j:(jM n (xs.take i)).length<=1*(xs.take i).length:=gJ (λx=>by split<;>simp) _;have k:(nw n (xs.take i)).length<=1*(xs.take i).length:=gJ (λx=>by split<;>simp) _;obtain⟨L,m⟩:=aL (jM n (xs.take i));obtain⟨M,o⟩:=aL (nw n (xs.take i));obtain⟨x,p⟩:=aL (xs[i]);rw[<-m]at a j;rw[<-o]at b k;rw[<-p]at a b h;rw[<-m,<-o];simp only[aB.cells]at h;by_cases q:x.till<=n
  ·have d:decide (x.till<=n)=true:=dw q;rw[au q]at a b;refine sm (a4 e h d g) ?_;refine aV ?_;refine ah.v f ?_;exact gH (a2 a b)
  ·have d:decide (x.till<=n)=false:=gB q;rw[aq q]at a b;refine sm (a4 e h d g) ?_;refine aV ?_;refine ah.v f ?_;exact gH (a2 a b)
 ·intro _ l _;simp only[go_sem,seval,l,eU]
def Re(n:Int)(xs:List aB)(a:xs.length<2^30):Sq 301 [] [.I n,.sl 4 (xs.map aB.cells)] [] (.bD [.sl 4 ((jM n xs).map aB.cells),.sl 4 ((nw n xs).map aB.cells)]):=by
 refine Spec.frozen (Uh n xs a) [0,1] rfl ?_;intro r;rcases r with _| _|r<;>rfl
def dQ(xs:List aB)(ws:List Int):List aB:=xs.flatMap λx=>if tO ws x.who then[]else[x]
def BP(xs:List aB)(ws:List Int)(hl:xs.length<2^30)(hs:ws.length<2^30):Sq 303 [] [.sl 4 (xs.map aB.cells),.sl 1 (ints ws)] [.own 4 ((dQ xs ws).map aB.cells)] (.ref 0):=by
 refine aX 45 2 [.tmp 4] mixed func303 ?_;refine s0 ?_;refine aG.wv xs.length [0,1] [] (λi=>[(6,.I i),(5,.ref 704)]) (λi=>[(704,.own 4 ((dQ (xs.take i) ws).map aB.cells))]) ?_ ?_ ?_
 ·simp only[go_sem,seval]<;>simp[dQ]
 ·intro i _ l n g _;have e:=aM (c:=aB.cells) xs l;have hli:(i:Int)<(xs.length:Int):=aj
  have hlt:(xs.take i).length=i:=by simp;omega
  have d:dQ (xs.take (i+1)) ws=dQ (xs.take i) ws++_:=gU _ l;have m:(dQ (xs.take i) ws).length<=1*(xs.take i).length:=gJ (λx=>by split<;>simp) _;obtain⟨L,q⟩:=aL (dQ (xs.take i) ws);obtain⟨x,r⟩:=aL (xs[i]);rw[<-q]at d m |-;rw[<-r]at d e;simp only[aB.cells]at e;simp only[go_sem,seval,n,aA];refine aG.wv ws.length [0,1,5,6] [704] (λk=>[(8,.I k),(7,.bool (tO (ws.take k) x.who))]) (λ_=>[]) ?_ ?_ ?_
  ·simp only[go_sem,seval]<;>simp[tO]
  ·intro k _ f a h _;have b:=EI ws x.who f;have hlk:(k:Int)<(ws.length:Int):=aj
   cases p:tO (ws.take k) x.who
   ·rw[p,Bool.false_or]at b;simp only[go_sem,seval,aA,a,ints_at ws f,e,h];refine aV ?_;refine ah.v f ?_;exact eo b
   ·rw[p,Bool.true_or]at b;simp only[go_sem,seval,aA,a,ints_at ws f,e,h];refine aV ?_;refine ah.v f ?_;exact eo b
  ·intro _ a _;cases j:tO ws x.who
   ·simp only[j,iI,if_false]at d;simp only[go_sem,seval,aA,a,eU,j,e,g];refine aV ?_;refine ah.v l ?_;exact gH d
   ·simp only[j,if_true,append_nil]at d;simp only[go_sem,seval,aA,a,eU,j,e,g];refine aV ?_;refine ah.v l ?_;exact gH d
 ·intro _ o _;simp only[go_sem,seval,aA,o,eU]
def Ir(xs:List aB)(ws:List Int)(a:xs.length<2^30)(b:ws.length<2^30):Sq 303 [] [.sl 4 (xs.map aB.cells),.sl 1 (ints ws)] [] (.sl 4 ((dQ xs ws).map aB.cells)):=by
 refine Spec.frozen (BP xs ws a b) [0] rfl ?_;intro r;rcases r with _|r<;>rfl
def kV(l:List aH):Bool:=l.all λd=>bA d.bT
def C6(l:List aH)(hl:l.length<2^40):Sq 105 [] [.sl 3 (l.map aH.cells)] [] (.bool (kV l)):=by
 refine aX 17 1 [.tmp 2] mixed func105 ?_;refine s0 ?_;refine aG.w1 l.length 3 [0] [] (λi _=>kV (l.drop i)=kV l) rfl ?_ ?_
 ·intro i _ e b g a;have f:=aM (c:=aH.cells) l e;obtain⟨x,j⟩:=aL (l[i]);have k:=gE x.bT;have hli:(i:Int)<(l.length:Int):=aj
  rw[dI e,<-j]at a;rw[<-j]at f;have m:kV (x::l.drop (i+1))=(bA x.bT&&kV (l.drop (i+1))):=rfl;rw[m]at a;simp only[aH.cells]at f;refine sc (a2 b f) k ?_;cases h:bA x.bT
  ·rw[h,dU]at a;simp only[go_sem,seval,<-a]
  rw[h,cz]at a;refine sm g ?_;refine ah.u e a ?_;exact iB
 ·intro _ d a;rw[jJ]at a;rw[<-a];refine sm d ?_;rfl
def AZ(w c:Int)(d:aH):Bool:=d.who==w&&d.cur==c
def rj(w c:Int)(l:List aH):List Int:=pick (AZ w c) aH.bT l
def gR(w c:Int)(l:List aH):Int:=if kV l then(if bA (aC (rj w c l))then 0 else 1)else 3
def jF(w c:Int)(l:List aH):Int:=if gR w c l=0 then aC (rj w c l)else 0
def xC(w c:Int)(l:List aH)(hl:l.length<2^29):Sq 40 [] [.I w,.I c,.sl 3 (l.map aH.cells)] [] (.bD [.I (jF w c l),.I (gR w c l)]):=by
 have r:=C6 l aj;refine aX 53 3 [.tmp 6,.tmp 7] mixed func40 ?_;refine sc aK r ?_;cases n:kV l
 ·have e:gR w c l=3:=by simp[gR,n]
  simp only[go_sem,seval,jF,e]<;>simp
 have e:gR w c l=if bA (aC (rj w c l))then 0 else 1:=by simp[gR,n]
 have p:∀x∈l,bA x.bT=true:=λx k=>cg.1 n x k;have s:=fX (rj w c l) (lB λx k=>vq (p x k)) (by have:=bR (AZ w c) aH.bT l;unfold rj;omega);simp only[jF];rw[e];clear e r;refine s0 ?_;refine aG.wv l.length [0,1,2] [] (λi=>[(9,.I i),(8,.ref 720)]) (λi=>[(720,.own 1 (ints (rj w c (l.take i))))]) ?_ ?_ ?_
 ·simp only[go_sem,seval]<;>simp[rj,pick,ints]
 ·intro i _ g b d _;have j:=aM (c:=aH.cells) l g;have a:ints (rj w c (l.take (i+1)))=ints (rj w c (l.take i))++_:=ga (AZ w c) aH.bT g;have h:(rj w c (l.take i)).length<=(l.take i).length:=bR (AZ w c) aH.bT (l.take i);have hlt:(l.take i).length=i:=by simp;omega
  have hli:(i:Int)<(l.length:Int):=aj
  obtain⟨x,k⟩:=aL (l[i]);obtain⟨L,t⟩:=aL (rj w c (l.take i));rw[<-t]at a h |-;rw[<-k]at a j;simp only[aH.cells]at j;simp only[AZ]at a;cases f:x.who==w
  ·simp only[f,dU,iI,if_false,append_nil]at a;refine sm (a4 b j f d) ?_;refine aV ?_;refine ah.v g ?_;exact eo a
  cases m:x.cur==c
  ·simp only[f,m,Bool.and_false,iI,if_false,append_nil]at a;refine sm (a5 b j f m d) ?_;refine aV ?_;refine ah.v g ?_;exact eo a
  simp only[f,m,Bool.and_self,if_true]at a;simp only[go_sem,seval,b,j,f,m,d,aA];refine aV ?_;refine ah.v g ?_;exact eo a
 ·intro _ o _;simp only[go_sem,seval,o,eU];refine sl aK s ?_;cases q:bA (aC (rj w c l))
  ·simp only[go_sem,seval,q,addN]<;>simp
  ·simp only[go_sem,seval,q,addN]<;>simp
def fV(a b:aH):Bool:=decide (a.who<b.who)||(a.who==b.who&&decide (a.cur<b.cur))
def fm{a b:aH}:fV a b=true↔a.who<b.who\/(a.who=b.who/\a.cur<b.cur):=by simp[fV]
def aH.zero:aH:=⟨0,0,0⟩
def Ak(f:Bool)(last:aH)(s:Bool×aH)(d:aH):Bool:=(f||fV last d)&&(!s.1||fV d s.2)
def jr(f:Bool)(last:aH):List aH->Bool×aH->Bool×aH
 | [],s=>s
 |d::r,s=>jr f last r (if Ak f last s d then(true,d)else s)
theorem yL{f:Bool}{last:aH}:∀{l:List aH} {s:Bool×aH},(jr f last l s).1=true->jr f last l s=s\/((jr f last l s).2∈l/\(f||fV last (jr f last l s).2)=true)
 | [],s,_=>.inl rfl
 |d::r,s,h=>by
  simp only[jr]at h |-;rcases yL (l:=r) h with e| ⟨h1,h2⟩
  ·rw[e];split
   ·rename_i a;simp only[Ak,cU]at a;exact .inr ⟨by simp,a.1⟩
   ·exact .inl rfl
  ·exact .inr ⟨by simp[h1],h2⟩
def VE(f:Bool)(last:aH)(l:List aH):Nat:=l.countP λd=>f||fV last d
theorem abc{A:Type}{p q:A->Bool}:∀{l:List A} {d:A},(∀x,p x=true->q x=true)->d∈l->q d=true->p d=false->l.countP p<l.countP q
 | [],d,_,h,_,_=>by cases h
 |x::r,d,hpq,hm,hq,hp=>by
  have hle:r.countP p<=r.countP q:=countP_mono_left λy _ h=>hpq y h;simp only[countP_cons];rcases mem_cons.1 hm with rfl|hm
  ·rw[hq,hp];simp;omega
  ·have:=abc hpq hm hq hp;by_cases a:p x=true
   ·rw[au a,au (hpq x a)];omega
   ·rw[aq a];omega
def NX{f:Bool}{last d:aH}{l:List aH}(c:d∈l)(a:(f||fV last d)=true):VE false d l<VE f last l:=by
 refine abc (λx b=>?_) c a ?_
 ·rw[Bool.false_or]at b;cases f
  ·rw[Bool.false_or]at a |-;rw[fm]at b a |-;omega
  ·rfl
 ·rw[Bool.false_or];cases h:fV d d
  ·rfl
  ·rw[fm]at h;omega
def xu(l:List aH)(d:aH):List aH:=if jF d.who d.cur l==0 then[]else[⟨d.who,d.cur,jF d.who d.cur l⟩]
def zq(l:List aH):Nat->Bool->aH->List aH->List aH×Int
 | 0,_,_,out=>(out,0)
 |n+1,f,last,out =>
  if(jr f last l (false,.zero)).1 then
   (if gR (jr f last l (false,.zero)).2.who (jr f last l (false,.zero)).2.cur l=0 then zq l n false (jr f last l (false,.zero)).2 (out++xu l (jr f last l (false,.zero)).2)
    else([],gR (jr f last l (false,.zero)).2.who (jr f last l (false,.zero)).2.cur l))
  else(out,0)
def lA(l:List aH):List aH×Int:=if kV l then zq l (l.length+1) true .zero []else([],3)
def Gk(w c:Int)(l:List aH):bA (jF w c l)=true:=by
 unfold jF;split
 ·rename_i h;unfold gR at h;split at h
  ·split at h
   ·assumption
   ·cases h
  ·cases h
 ·rfl
def Wo(l:List aH)(F:l.length<2^29):Sq 296 [] [.sl 3 (l.map aH.cells)] [.own 3 ((lA l).1.map aH.cells)] (.bD [.ref 0,.I (lA l).2]):=by
 have B:=C6 l aj;have y:=λw c=>xC w c l F;have t:∀a b:aH,Sq 167 [] [.agg a.cells,.agg b.cells] [] (.bool (fV a b)):=λa b=>Ew a b;refine aX 78 1 [.tmp 2,.tmp 3] mixed func296 ?_;refine sc aK B ?_;cases A:kV l
 ·have e:lA l=([],3):=by simp[lA,A]
  exact gH e
 have e:lA l=zq l (l.length+1) true .zero []:=by simp[lA,A]
 obtain⟨R,z⟩:=aL (lA l);rw[<-z];rw[<-z]at e;clear z B;refine s0 ?_;refine aG.yh (T:=Nat×aH×List aH) [0,5] [] (λs=>[(6,.I ((l.length+1-s.1:Nat):Int)),(4,.ref 1248)]) (λs=>[(96,.box s.2.1.cells),(1248,.own 3 (s.2.2.map aH.cells))])
  (λs=>VE (s.1==l.length+1) s.2.1 l+1<=s.1/\s.1<=l.length+1/\s.2.2.length+s.1<=l.length+1/\zq l s.1 (s.1==l.length+1) s.2.1 s.2.2=R) (λs=>s.1) (l.length+1,.zero,[]) ?_ ?_ ?_
 ·refine⟨?_,fO _,by simp,by rw[e];simp⟩;have:VE (l.length+1==l.length+1) aH.zero l<=l.length:=countP_le_length;show VE (l.length+1==l.length+1) aH.zero l+1<=l.length+1;omega
 ·simp only[go_sem,seval,aH.zero]<;>simp
 rintro⟨n,last,out⟩ ⟨h1,h2,h3,j⟩;dsimp only at h1 h2 h3 j |-;obtain⟨m,rfl⟩:∃m,n=m+1:=⟨n-1,by omega⟩
 have E:l.length+1-(m+1)=l.length-m:=aj
 obtain⟨f,C⟩:=aL ((m+1==l.length+1));have u:(((l.length-m:Nat):Int)==0)=f:=by rw[C,lZ];simp;omega
 rw[<-C]at h1 j;rw[E];refine s0 ?_;refine aG.rT (S:=Bool×aH) l.length [0,4,5,6,8] [96,1248] (λi s=>[(9,.I i),(7,.bool s.1)]) (λi s=>[(144,.box s.2.cells)]) (λi s=>jr f last (l.drop i) s=jr f last l (false,.zero)) (false,.zero) rfl ?_ ?_ ?_
 ·simp only[go_sem,seval,aH.zero]<;>simp
 ·rintro i ⟨s1,s2⟩ hi hdi hwi g;have q:=aM (c:=aH.cells) l hi;have hli:(i:Int)<(l.length:Int):=aj
  obtain⟨x,D⟩:=aL (l[i]);have k1:=t last x;have k2:=t x s2;rw[dI hi,<-D]at g;rw[<-D]at q;simp only[jr,Ak]at g;simp only[aH.cells]at q k1 k2;clear y t j;cases f
  ·refine sc (a3 hdi q u) k1 ?_;cases o:fV last x
   ·simp only[o,Bool.false_or,dU,iI,if_false]at g;refine sm (a2 o hwi) ?_;refine aV ?_;refine ah.jP (s1,s2) hi g ?_;exact iB
   cases s1
   ·simp only[o,Bool.false_or,cz,Bool.not_false,Bool.true_or,if_true]at g;refine sm (a3 o q hwi) ?_;refine aV ?_;refine ah.jP (true,x) hi g ?_;exact iB
   refine sc (a2 o q) k2 ?_;cases k:fV x s2
   ·simp only[o,k,Bool.false_or,cz,Bool.not_true,iI,if_false]at g;refine sm (a2 k hwi) ?_;refine aV ?_;refine ah.jP (true,s2) hi g ?_;exact iB
   simp only[o,k,Bool.false_or,cz,Bool.not_true,Bool.or_true,if_true]at g;refine sm (a3 k hwi q) ?_;refine aV ?_;refine ah.jP (true,x) hi g ?_;exact iB
  ·cases s1
   ·simp only[Bool.true_or,cz,Bool.not_false,if_true]at g;refine sm (a4 hdi q u hwi) ?_;refine aV ?_;refine ah.jP (true,x) hi g ?_;exact iB
   refine sc (a3 hdi q u) k2 ?_;cases k:fV x s2
   ·simp only[k,Bool.true_or,cz,Bool.not_true,Bool.or_false,iI,if_false]at g;refine sm (a2 k hwi) ?_;refine aV ?_;refine ah.jP (true,s2) hi g ?_;exact iB
   simp only[k,Bool.true_or,cz,Bool.not_true,Bool.or_true,if_true]at g;refine sm (a3 k hwi q) ?_;refine aV ?_;refine ah.jP (true,x) hi g ?_;exact iB
 ·rintro⟨s1,s2⟩ hdx g;rw[jJ]at g;have g:jr f last l (false,.zero)=(s1,s2):=g.symm;simp only[zq,g]at j;have y:=y s2.who s2.cur;have hin:=bf.1 (Gk s2.who s2.cur l);cases s1
  ·simp only[iI,if_false]at j;rw[<-j];exact eo hdx
  have r:s2∈l/\(f||fV last s2)=true:=by
   have:=yL (f:=f) (last:=last) (l:=l) (s:=(false,.zero)) (by rw[g]);rw[g]at this;rcases this with h|h
   ·cases h
   ·exact h
  have hcn:=NX r.1 r.2;simp only[if_true]at j;refine sc hdx y ?_;by_cases o:gR s2.who s2.cur l=0
  case neg =>
   have d:(gR s2.who s2.cur l==0)=false:=su o;rw[aq o]at j;rw[<-j];refine sm (a2 dV d) ?_;all_goals simp
  rw[au o]at j;have v:IntKind.wrap .i64 (((l.length-m:Nat):Int)+1)=((l.length+1-m:Nat):Int):=fU;have p:(m==l.length+1)=false:=by simp;omega
  simp only[xu]at j;cases k:jF s2.who s2.cur l==0
  ·simp only[k,iI,if_false]at j;refine sm (a4 dV o k v) ?_;refine aV ?_;refine⟨(m,s2,out++[⟨s2.who,s2.cur,jF s2.who s2.cur l⟩]),⟨?_,by omega,by simp;omega,by simp only[p];exact j⟩,?_,by simp⟩
   ·simp only[p];omega
   ·exact jh
  ·simp only[k,if_true,append_nil]at j;refine sm (a4 dV o k v) ?_;refine aV ?_;refine⟨(m,s2,out),⟨?_,by omega,by simp;omega,by simp only[p];exact j⟩,?_,by simp⟩
   ·simp only[p];omega
   ·exact iB
def HC(l:List aH)(a:l.length<2^29):Sq 296 [] [.sl 3 (l.map aH.cells)] [] (.bD [.sl 3 ((lA l).1.map aH.cells),.I (lA l).2]):=by
 refine Spec.frozen (Wo l a) [0] rfl ?_;intro r;rcases r with _|r<;>rfl
theorem XH(l:List aH):∀(n:Nat)(f:Bool)(last:aH)(out:List aH),(∀d∈out,bA d.bT=true)->∀d∈(zq l n f last out).1,bA d.bT=true
 | 0,_,_,out,h=>h
 |n+1,f,last,out,h=>by
  simp only[zq];split
  ·split
   ·refine XH l n _ _ _ ?_;intro d a;rcases mem_append.1 a with a|a
    ·exact h d a
    ·unfold xu at a;split at a
     ·cases a
     ·obtain rfl:=iD.1 a;exact Gk _ _ _
   ·intro d a;cases a
  ·exact h
theorem TS(l:List aH):∀(n:Nat)(f:Bool)(last:aH)(out:List aH),(zq l n f last out).1.length<=out.length+n
 | 0,_,_,out=>fO _
 |n+1,f,last,out=>by
  simp only[zq];split
  ·split
   ·refine Nat.le_trans (TS l n _ _ _) ?_;have:∀d,(xu l d).length<=1:=λd=>by unfold xu;split<;>simp
    rw[ct];have:=this (jr f last l (false,.zero)).2;omega
   ·simp
  ·simp
def IT(l:List aH):(∀d∈(lA l).1,bA d.bT=true)/\(lA l).1.length<=l.length+1:=by
 unfold lA;split
 ·exact⟨XH l _ _ _ _ sT,Nat.le_trans (TS l _ _ _ _) sT⟩
 ·exact⟨by simp,by simp⟩
def nV(l:List aH):List aN:=l.flatMap λd=>[⟨2,d.who,d.cur,d.bT⟩,⟨5,0,d.cur,-d.bT⟩]
def AP(l:List aH):Bool:=l.all λd=>aI.right ⟨2,d.who,d.cur⟩
def ou(l:List aH):Int:=if AP l then(if(lA l).2=0 then nq (nV (lA l).1)else(lA l).2)else 3
def kP(l:List aH):List aN:=if ou l=0 then kj (nV (lA l).1)else[]
def yu(l:List aH):(nV l).length<=2*l.length:=gJ (λd=>by simp) l
def Ip(l:List aH)(hl:l.length<2^27):Sq 297 [] [.sl 3 (l.map aH.cells)] [] (.bD [.sl 4 ((kP l).map aN.cells),.I (ou l)]):=by
 have p:=HC l aj;obtain⟨r,k⟩:=IT l;have s:=tG (nV (lA l).1) (by have:=yu (lA l).1;omega);have e0:kP l=if AP l&&(lA l).2==0 then kj (nV (lA l).1)else[]:=by
  by_cases o:AP l=true
  ·by_cases h:(lA l).2=0
   ·by_cases B:nq (nV (lA l).1)=0
    ·simp[kP,ou,o,h,B]
    ·simp[kP,ou,o,h,B,kj]
   ·simp[kP,ou,o,h]
  ·simp[kP,ou,o]
 simp only[ou];rw[e0];clear e0;obtain⟨m,a⟩:=aL ((lA l).1);obtain⟨e,w⟩:=aL ((lA l).2);rw[<-a]at p r k s;rw[<-w]at p;rw[<-a,<-w];clear a w;refine aX 79 1 [.tmp 2,.tmp 3] mixed func297 ?_;refine s0 ?_;refine aG.w1 l.length 4 [0] [] (λi _=>AP (l.drop i)=AP l) rfl ?_ ?_
 ·intro i _ g j n b;have a:=aM (c:=aH.cells) l g;have z:(i:Int)<(l.length:Int):=aj
  obtain⟨x,t⟩:=aL (l[i]);have C:=kn ⟨2,x.who,x.cur⟩;rw[dI g,<-t]at b;rw[<-t]at a;have o:AP (x::l.drop (i+1))=(aI.right ⟨2,x.who,x.cur⟩&&AP (l.drop (i+1))):=rfl;rw[o]at b;simp only[aH.cells]at a;simp only[aI.cells]at C;clear p s;refine sc (a2 j a) C ?_;cases q:aI.right ⟨2,x.who,x.cur⟩
  ·rw[q,dU]at b;rw[<-b];exact jh
  rw[q,cz]at b;refine sm n ?_;refine ah.u g b ?_;exact iB
 intro _ f b;rw[jJ]at b;rw[<-b,show AP []=true from rfl];clear b;refine sc f p ?_;by_cases q:e=0
 case neg =>
  have d:(e==0)=false:=su q;simp only[go_sem,seval,bne,d,aq q];all_goals simp
 rw[q,show(if((0:Int)==0)=true then kj (nV m)else[])=kj (nV m)from rfl,au rfl];refine s0 ?_;refine aV ?_;clear p f;refine aG.wv m.length [5] [] (λi=>[(8,.I i),(7,.ref 1200)]) (λi=>[(1200,.own 4 ((nV (m.take i)).map aN.cells))]) ?_ ?_ ?_
 ·simp only[go_sem,seval]<;>simp[nV]
 ·intro i _ g j n _;have a:=aM (c:=aH.cells) m g;have z:(i:Int)<(m.length:Int):=aj
  have A:nV (m.take (i+1))=nV (m.take i)++_:=gU _ g;have k:=yu (m.take i);have hlt:(m.take i).length=i:=by simp;omega
  have y:=bf.1 (r m[i] (dH g));obtain⟨L,D⟩:=aL (nV (m.take i));obtain⟨x,t⟩:=aL (m[i]);rw[<-D]at A k |-;rw[<-t]at A a y;have E:IntKind.wrap .i64 (0-x.bT) = -x.bT:=fU;simp only[aH.cells]at a;clear s;refine sm (a4 j a E n) ?_;refine aV ?_;refine ah.v g ?_;exact gH A
 ·intro _ f _;simp only[go_sem,seval,f,eU];refine aV ?_;refine az.iw [1200] [] false sT ?_;refine s0 ?_;refine dL.ij s ?_;exact iB
def C3(l:List Int)(hl:l.length<2^60):Sq 227 [] [.sl 1 (ints l)] [] (.bool (right l)):=by
 refine aX 16 1 [.tmp 2] mixed func227 ?_;simp only[go_sem,seval,aA];refine aG.w1 l.length 3 [0] [] (λi _=>right (l.drop i)=right l) rfl ?_ ?_
 ·intro i _ d b e a;have f:=ints_at l d;have hli:(i:Int)<(l.length:Int):=aj
  obtain⟨x,g⟩:=aL (l[i]);have h:=gE x;rw[dI d,<-g]at a;rw[<-g]at f;have j:right (x::l.drop (i+1))=(bA x&&right (l.drop (i+1))):=rfl;rw[j]at a;simp only[go_sem,seval,aA,b,f];refine sc aK h ?_;cases q:bA x
  ·rw[q,dU]at a;rw[<-a];simp only[go_sem,seval]
  rw[q,cz]at a;simp only[go_sem,seval,e];refine ah.u d a ?_;simp only[go_sem,seval]
 ·intro _ c a;rw[jJ]at a;rw[<-a];simp only[go_sem,seval,aA,c];rfl
def vI(l:List Int):Bool:=l.all λx=>!decide (x<0)
def vm:Int->List Int->List Int
 | _,[]=>[]
 |t,c::r=>min t c::vm (t-min t c) r
def ze:Int->List Int->Int
 |t,[]=>t
 |t,c::r=>ze (t-min t c) r
def j9(t:Int)(l:List Int):Int:=if(!decide (t<0)&&bA t)&&right l then(if vI l then(if 1024<l.length then 5 else 0)else 3)else 3
def Nc(t:Int)(l:List Int)(hl:l.length<2^30):Sq 115 [] [.int .i64 t,.sl 1 (ints l)] [.own 1 (ints (if j9 t l=0 then vm t l else[]))] (.bD [.ref 0,.int .i64 (if j9 t l=0 then ze t l else 0),.int .i64 (j9 t l)]):=by
 have c1:=gE t;have c2:=C3 l aj;refine aX 58 2 [.tmp 4,.tmp 5,.tmp 6] mixed func115 ?_;by_cases r:t<0
 ·have d:decide (t<0)=true:=dw r;have e:j9 t l=3:=by simp[j9,r]
  rw[e];simp only[go_sem,seval,d]<;>simp[ints]
 have y:decide (t<0)=false:=gB r;refine sc y c1 ?_;cases v:bA t
 ·have e:j9 t l=3:=by simp[j9,v]
  rw[e];simp only[go_sem,seval]<;>simp[ints]
 refine sc aK c2 ?_;cases w:right l
 ·have e:j9 t l=3:=by simp[j9,w]
  rw[e];simp only[go_sem,seval]<;>simp[ints]
 have e:j9 t l=if vI l then(if 1024<l.length then 5 else 0)else 3:=by simp only[j9,y,v,w];rfl
 rw[e];clear e c1 c2;have k:=λx g=>bf.1 (cg.1 w x g);have htin:=bf.1 v;simp only[go_sem,seval,aA];refine aG.w1 l.length 7 [0,1] [] (λi _=>vI (l.drop i)=vI l) rfl ?_ ?_
 ·intro i _ f c h a;have j:=ints_at l f;have m:(i:Int)<(l.length:Int):=aj
  obtain⟨x,g⟩:=aL (l[i]);rw[dI f,<-g]at a;rw[<-g]at j;have B:vI (x::l.drop (i+1))=(!decide (x<0)&&vI (l.drop (i+1))):=rfl;rw[B]at a;by_cases q:x<0
  ·have d:decide (x<0)=true:=dw q;rw[d,Bool.not_true,dU]at a;rw[<-a];simp only[go_sem,seval,aA,c,j,d];refine aV ?_;all_goals simp[ints]
  ·have d:decide (x<0)=false:=gB q;rw[d,Bool.not_false,cz]at a;simp only[go_sem,seval,aA,c,j,d,h];refine aV ?_;refine ah.u f a ?_;simp only[go_sem,seval]
 intro _ b a;rw[jJ]at a;have a:vI l=true:=a.symm;have n:∀x∈l,0<=x:=λx g=>by
  have:=cg.1 a x g;simp only[iN,gP]at this;omega
 by_cases z:1024<l.length
 ·have d:decide (1024<(l.length:Int))=true:=jw;simp only[go_sem,seval,aA,b,a,au z,d];refine aV ?_;all_goals simp[ints]
 have A:decide (1024<(l.length:Int))=false:=lJ;simp only[go_sem,seval,aA,b,a,aq z,A];refine aV ?_;clear b a;refine aG.rT (S:=Int×List Int) l.length [1] [] (λi s=>[(9,.int .i64 i),(0,.int .i64 s.1),(8,.ref 848)]) (λi s=>[(848,.own 1 (ints s.2))]) (λi s=>(s.2++vm s.1 (l.drop i)=vm t l/\ze s.1 (l.drop i)=ze t l)/\(0<=s.1/\s.1<=t)/\s.2.length=i) (t,[]) ⟨⟨rfl,rfl⟩,by omega,rfl⟩ ?_ ?_ ?_
 ·simp only[go_sem,seval]<;>simp[ints]
 ·rintro i ⟨u,L⟩ f c h ⟨⟨h1,h2⟩,h3,h4⟩;dsimp only at h1 h2 h3 h4;have j:=ints_at l f;have m:(i:Int)<(l.length:Int):=aj
  have o:=k _ (dH f);have p:=n _ (dH f);obtain⟨x,g⟩:=aL (l[i]);rw[dI f,<-g]at h1 h2;rw[<-g]at j o p;simp only[vm,ze]at h1 h2;have C:IntKind.wrap .i64 (u-min u x)=u-min u x:=gx aj aj;simp only[go_sem,seval,aA,c,j,C,h];refine aV ?_;refine ah.jP (u-min u x,L++[min u x]) f ⟨⟨by rw[dS];exact h1,h2⟩,by omega,by simp[h4]⟩ ?_;simp only[go_sem,seval]<;>simp[ints]
 ·rintro⟨u,L⟩ b ⟨⟨h1,h2⟩,h3,h4⟩;dsimp only at h1 h2;rw[jJ]at h1 h2;simp only[vm,ze,append_nil]at h1 h2;simp only[go_sem,seval,aA,b,if_true,<-h1,<-h2];all_goals simp
def pW(t W:Int)(ws:List Int):List Int:=ws.map λw=>t*w/W
def vU(t W:Int)(ws:List Int):List Int:=ws.map λw=>t*w%W
def jD(rs:List Int)(gs:List Bool):Nat->Int
 | 0=>-1
 |i+1=>if !(gs.getD i true)&&(decide (jD rs gs i<0)||decide (rs.getD (jD rs gs i).toNat 0<rs.getD i 0))then(i:Int)else jD rs gs i
def o9(rs:List Int):Nat->List Bool->List Int->List Int
 | 0,_,ps=>ps
 |n+1,gs,ps=>o9 rs n (gs.set (jD rs gs rs.length).toNat true) (ps.set (jD rs gs rs.length).toNat (ps.getD (jD rs gs rs.length).toNat 0+1))
def jt(t:Int)(ws:List Int):Int:=if(!decide (t<0)&&bA t)&&right ws then(if vI ws then(if 1024<ws.length then 5 else if aC ws=0 then(if t=0 then 0 else 2)else 0)else 3)else 3
def cy(t:Int)(ws:List Int):List Int:=
 if jt t ws=0 then(if aC ws=0 then replicate ws.length 0 else o9 (vU t (aC ws) ws) (t-aC (pW t (aC ws) ws)).toNat (replicate ws.length false) (pW t (aC ws) ws))else[]
theorem Gj(rs:List Int):∀(n:Nat)(gs:List Bool)(ps:List Int),(o9 rs n gs ps).length=ps.length
 | 0,_,_=>rfl
 |n+1,gs,ps=>by simp only[o9];rw[Gj rs n];simp
def oE(t:Int)(ws:List Int):(cy t ws).length<=ws.length:=by
 unfold cy;split
 ·split
  ·simp
  ·rw[Gj];simp[pW]
 ·simp
theorem u0(rs:List Int)(gs:List Bool):∀i,-1<=jD rs gs i/\jD rs gs i<i
 | 0=>by simp[jD]
 |i+1=>by
  have:=u0 rs gs i;simp only[jD];split<;>omega
theorem IF(rs:List Int)(gs:List Bool):∀i,(∃j<i,gs.getD j true=false)->0<=jD rs gs i
 | 0,h=>by obtain⟨j,d,_⟩:=h;omega
 |i+1,h=>by
  simp only[jD];split
  ·omega
  ·rename_i a;rcases Int.lt_or_le (jD rs gs i) 0 with hb|hb
   ·have c:decide (jD rs gs i<0)=true:=dw hb;rw[c,Bool.true_or,Bool.and_true]at a;obtain⟨j,d,b⟩:=h;rcases dN j i with h2|h2
    ·have:=IF rs gs i ⟨j,h2,b⟩;omega
    ·obtain rfl:j=i:=aj
     rw[b]at a;exact absurd rfl a
   ·exact hb
theorem AL(rs:List Int)(gs:List Bool):∀i,0<=jD rs gs i->gs.getD (jD rs gs i).toNat true=false
 | 0,h=>by simp[jD]at h
 |i+1,h=>by
  simp only[jD]at h |-;split
  ·rename_i a;simp only[cU,iN]at a;rw[show((i:Int)).toNat=i by omega];exact a.1
  ·rename_i a;rw[aq a]at h;exact AL rs gs i h
theorem IK:∀{gs:List Bool},gs.count true<gs.length->∃j<gs.length,gs.getD j true=false
 | [],h=>by simp at h
 |b::r,h=>by
  cases b
  ·exact⟨0,by simp,rfl⟩
  ·simp only[count_cons_self,length_cons]at h;obtain⟨j,hj,a⟩:=IK (gs:=r) aj;exact⟨j+1,by simp;omega,su a⟩
theorem count_set:∀{gs:List Bool} {j:Nat},gs.getD j true=false->(gs.set j true).count true=gs.count true+1
 | [],j,h=>by simp at h
 |b::r,0,h=>by
  have h:b=false:=h;subst h;simp
 |b::r,j+1,h=>by
  have:=count_set (gs:=r) (j:=j) (su h);simp only[set_cons_succ,count_cons,this];omega
theorem qA:∀{l:List Int},(∀x∈l,0<=x)->0<=aC l
 | [],_=>by simp[aC]
 |x::r,h=>by
  have h1:=h x sT;have h2:=qA (l:=r) λy a=>h y (by simp[a]);simp only[aC];omega
theorem FC:∀{l:List Int},(∀x∈l,0<=x)->∀x∈l,x<=aC l
 | [],_,x,a=>by cases a
 |y::r,h,x,a=>by
  have h1:=h y sT;have h2:=qA (l:=r) λz b=>h z (by simp[b]);simp only[aC];rcases mem_cons.1 a with rfl|a
  ·omega
  ·have:=FC (l:=r) (λz b=>h z (by simp[b])) x a;omega
theorem UU:∀{l:List Int},(∀x∈l,0<=x)->∀i,aC (l.take i)<=aC l
 | [],_,i=>by simp
 |y::r,h,0=>by simp only[take_zero];exact qA h
 |y::r,h,i+1=>by
  have:=UU (l:=r) (λz a=>h z (by simp[a])) i;simp only[take_succ_cons,aC];omega
theorem Q0{t W:Int}(c:1<=W):∀{l:List Int},(∀x∈l,0<=t*x)->0<=aC (pW t W l)/\W*aC (pW t W l)+aC (vU t W l)=t*aC l/\0<=aC (vU t W l)/\aC (vU t W l)<=(W-1)*l.length
 | [],_=>by simp[pW,vU,aC]
 |x::r,h=>by
  obtain⟨h1,h2,h3,h4⟩:=Q0 c (l:=r) λy d=>h y (by simp[d]);have b:=h x sT;have a1:=Int.mul_ediv_add_emod (t*x) W;have a2:=Int.emod_nonneg (t*x) (show W≠0 by omega);have a3:=Int.emod_lt_of_pos (t*x) (show 0<W by omega);have a4:0<=t*x/W:=Int.ediv_nonneg b aj;have a:pW t W (x::r)=(t*x/W)::pW t W r:=rfl;have e2:vU t W (x::r)=(t*x%W)::vU t W r:=rfl;rw[a,e2];simp only[aC,length_cons];refine⟨by omega,?_,by omega,?_⟩
  ·rw[Int.mul_add,Int.mul_add];omega
  ·push_cast;rw[Int.mul_add];omega
def vA{t W:Int}{ws:List Int}(e:0<=t)(b:aC ws=W)(a:1<=W)(f:∀x∈ws,0<=x):0<=t-aC (pW t W ws)/\t-aC (pW t W ws)<ws.length:=by
 obtain⟨h1,c,h3,d⟩:=Q0 (t:=t) a (l:=ws) λx g=>Int.mul_nonneg e (f x g);rw[b,Int.mul_comm t W]at c;have h5:W*(t-aC (pW t W ws))=aC (vU t W ws):=by rw[Int.mul_sub];omega
 have hpos:0<ws.length:=by
  cases ws with
  |nil=>simp[aC]at b;omega
  |cons x r=>simp
 constructor
 ·rcases Int.lt_or_le (t-aC (pW t W ws)) 0 with h|h
  ·have:=Int.mul_neg_of_pos_of_neg (show 0<W by omega) h;omega
  ·exact h
 ·rcases Int.lt_or_le (t-aC (pW t W ws)) ws.length with h|h
  ·exact h
  ·have h6:=Int.mul_le_mul_of_nonneg_left h (show 0<=W by omega);rw[Int.sub_mul]at d;omega
def zE{t W x:Int}(b:0<=t)(hW1:1<=W)(c:0<=x)(f:x<=W):0<=t*x/W/\t*x/W<=t:=by
 have d:=Int.mul_nonneg b c;refine⟨Int.ediv_nonneg d aj,?_⟩;have e:t*x<=t*W:=Int.mul_le_mul_of_nonneg_left f b;have a:=Int.ediv_le_ediv (show 0<W by omega) e;rw[Int.mul_ediv_cancel _ (show W≠0 by omega)]at a;exact a
def BD{t W:Int}{ws:List Int}(d:0<=t)(hW:aC ws=W)(a:1<=W)(e:∀x∈ws,0<=x)(i:Nat):0<=aC (pW t W (ws.take i))/\aC (pW t W (ws.take i))<=t:=by
 have b:∀x∈ws.take i,0<=x:=λx c=>e x (mem_of_mem_take c);obtain⟨f,h2,h3,h4⟩:=Q0 (t:=t) a (l:=ws.take i) λx c=>Int.mul_nonneg d (b x c);have h5:=UU e i;refine⟨f,?_⟩;rcases Int.lt_or_le t (aC (pW t W (ws.take i)))with h|h
 ·have h6:t*aC (ws.take i)<=t*W:=Int.mul_le_mul_of_nonneg_left aj d;have g:=Int.mul_lt_mul_of_pos_left h (show 0<W by omega);rw[Int.mul_comm W t]at g;omega
 ·exact h
def GB(f:Int->Int)(ws:List Int)(i:Nat):List Int:=(ws.take i).map f++replicate (ws.length-i) 0
def Zm(f:Int->Int)(ws:List Int):GB f ws 0=replicate ws.length 0:=by simp[GB]
def TK(f:Int->Int)(ws:List Int):GB f ws ws.length=ws.map f:=by simp[GB]
def TL(f:Int->Int)(ws:List Int){i:Nat}(h:i<=ws.length):(GB f ws i).length=ws.length:=by simp[GB];omega
def TM(f:Int->Int){ws:List Int}{i:Nat}(h:i<ws.length):(GB f ws i).set i (f ws[i])=GB f ws (i+1):=by
 have a:((ws.take i).map f).length=i:=by simp;omega
 have e:ws.length-i=(ws.length-(i+1))+1:=aj
 simp only[GB];rw[set_append_right _ _ aj,a,Nat.sub_self,e,replicate_succ,set_cons_zero,j7 h,jv,dS];rfl
def My(gs:List Bool):List (List D):=gs.map λb=>[.bool b]
def Ek(gs:List Bool):(My gs).length=gs.length:=by simp[My]
def Xe(gs:List Bool){i:Nat}(h:i<gs.length):(My gs).getD i []=[.bool gs[i]]:=by simp[My,h]
def ints_set(l:List Int)(i:Nat)(v:Int):(ints l).set i [.I v]=ints (l.set i v):=by simp[ints,map_set]
def agf(l:List Int)(i:Nat)(v:Int):(sC l).set i [.I (v/18446744073709551616),.int .u64 (v%18446744073709551616)]=sC (l.set i v):=by simp[sC,wd,map_set]
def aen(l:List Bool)(i:Nat)(v:Bool):(My l).set i [.bool v]=My (l.set i v):=by simp[My,map_set]
def Kc(n:Nat):replicate n [D.I 0]=ints (replicate n 0):=by simp[ints]
def Yi(n:Nat):replicate n [D.I 0,D.int .u64 0]=sC (replicate n 0):=by simp[sC,wd]
def aem(n:Nat):replicate n [D.bool false]=My (replicate n false):=by simp[My]
def Rk(t:Int)(ws:List Int)(hl:ws.length<2^30):Sq 372 [] [.int .i64 t,.sl 1 (ints ws)] [.own 1 (ints (cy t ws))] (.bD [.ref 0,.int .i64 (jt t ws)]):=by
 have c1:=gE t;have c2:=C3 ws aj;refine aX 149 2 [.tmp 4,.tmp 5] mixed func372 ?_;by_cases q0:t<0
 ·have d:decide (t<0)=true:=dw q0;have e:jt t ws=3:=by simp[jt,q0]
  simp only[go_sem,seval,d,cy,e]<;>simp[ints]
 have d0:decide (t<0)=false:=gB q0;simp only[go_sem,seval,d0];refine az.aP c1 ?_;cases q1:bA t
 ·have e:jt t ws=3:=by simp[jt,q1]
  simp only[go_sem,seval,cy,e]<;>simp[ints]
 simp only[go_sem,seval];refine az.aP c2 ?_;cases q2:right ws
 ·have e:jt t ws=3:=by simp[jt,q2]
  simp only[go_sem,seval,cy,e]<;>simp[ints]
 have e:jt t ws=if vI ws then(if 1024<ws.length then 5 else if aC ws=0 then(if t=0 then 0 else 2)else 0)else 3:=by simp only[jt,d0,q1,q2];rfl
 simp only[cy];rw[e];clear e c1 c2;have J:=λx M=>bf.1 (cg.1 q2 x M);have aI:=bf.1 q1;simp only[go_sem,seval,aA];refine aG.wu ws.length [0,1] [] (λi=>[(7,.int .i64 i),(6,.ref 768)]) (λi=>[(768,.own 2 (sC (ws.take i)))]) (λi=>vI (ws.drop i)=vI ws) rfl ?_ ?_ ?_
 ·simp only[go_sem,seval]<;>simp[sC]
 ·intro i _ k o r G;have hm:=ints_at ws k;have aw:(i:Int)<(ws.length:Int):=aj
  have bd:=J _ (dH k);have C:sC (ws.take (i+1))=sC (ws.take i)++[wd ws[i]]:=by rw[j7 k];simp only[sC,jv,map_cons,map_nil]
  have av:(sC (ws.take i)).length=i:=by simp[sC];omega
  obtain⟨x,M⟩:=aL (ws[i]);rw[dI k,<-M]at G;rw[<-M]at hm bd C;have hO:=zM x ⟨by omega,by omega⟩;have hc:vI (x::ws.drop (i+1))=(!decide (x<0)&&vI (ws.drop (i+1))):=rfl;rw[hc]at G;simp only[wd]at hO C;by_cases q:x<0
  ·have d:decide (x<0)=true:=dw q;rw[d,Bool.not_true,dU]at G;rw[<-G];simp only[go_sem,seval,aA,o,hm,d]
   and_intros<;>first|exact .dq|omega|skip
   all_goals simp[ints]
  ·have d:decide (x<0)=false:=gB q;rw[d,Bool.not_false,cz]at G;simp only[go_sem,seval,aA,o,hm,d];refine aV ?_;refine sc (a2 r av) hO ?_
   and_intros<;>first|exact .dq|omega|skip
   refine ah.u k G ?_;simp only[go_sem,seval,C]
 intro _ y G;rw[jJ]at G;have G:vI ws=true:=G.symm;have D:∀x∈ws,0<=x:=λx M=>by
  have:=cg.1 G x M;simp only[iN,gP]at this;omega
 rw[G];clear G;by_cases q4:1024<ws.length
 ·have d:decide (1024<(ws.length:Int))=true:=jw;simp only[go_sem,seval,aA,y,au q4,d]
  and_intros<;>first|exact .dq|omega|skip
  all_goals simp[ints]
 have d4:decide (1024<(ws.length:Int))=false:=lJ;have a8:=D2 q2;obtain⟨hi1,hi2⟩:=Xv (l:=ws) (λn hn=>⟨by have:=J n hn;omega,by have:=J n hn;omega⟩) aj;have N:=qI ws aj hi1;have a6:=qA D;have F:=FC D;have E:=λ(h:1<=aC ws)(i:Nat)=>BD (t:=t) (ws:=ws) aj rfl h D i;have K:=λ(h:1<=aC ws)=>vA (t:=t) (ws:=ws) aj rfl h D;rw[hi2,au rfl]at N;obtain⟨W,hW⟩:=aL (aC ws);rw[<-hW]at N a8 a6 F E K |-;simp only[wd]at N;simp only[go_sem,seval,aA,y,aq q4,d4,eU];refine aV ?_;refine sl aK N ?_;clear N y hi1 hi2 d4;by_cases q5:W=0
 ·rw[q5];by_cases q6:t=0
  ·rw[q6];simp only[go_sem,seval,aA,if_true,Kc]
   and_intros<;>first|exact .dq|omega|skip
   all_goals(first|omega|simp[ints])
  ·have d:(t==0)=false:=su q6;simp only[go_sem,seval,aA,if_true,bne,d,aq q6]
   and_intros<;>first|exact .dq|omega|skip
   all_goals simp[ints]
 have I:1<=W:=aj
 have E:=E I;have K:=K I;have dW:(W/18446744073709551616==0&&W%18446744073709551616==0)=false:=by
  rw[Bool.and_eq_false_iff];simp only[beq_eq_false_iff_ne];omega
 have L:∀{Q:Prop},((W/18446744073709551616==0)=false->Q)->((W/18446744073709551616==0)=true->(W%18446744073709551616==0)=false->Q)->Q:=λf g=>by
  cases h:W/18446744073709551616==0
  ·exact f h
  ·exact g h (by rw[h,cz]at dW;exact dW)
 simp only[aq q5,if_true];obtain⟨R,hR⟩:=aL (vU t W ws);obtain⟨T,hT⟩:=aL (o9 R (t-aC (pW t W ws)).toNat (replicate ws.length false) (pW t W ws));rw[<-hR,<-hT];have aN:R.length=ws.length:=by rw[hR];simp[vU]
 have aa:=u0 R;refine L (λh=>?_) (λh h'=>?_);all_goals
  simp only[go_sem,seval,h];try simp only[go_sem,seval,h']
  and_intros<;>first|exact .dq|omega|skip
  simp only[go_sem,seval,aA,Kc,Yi]
  and_intros<;>first|exact .dq|omega|skip
  try(rw[aA];omega)
 all_goals try(rw[aA];omega)
 all_goals
  refine aG.wv ws.length [0,1,8] [144] (λi=>[(13,.int .i64 i),(12,.int .i64 (t-aC (pW t W (ws.take i)))),(10,.ref 176),(11,.ref 192)]) (λi=>[(176,.own 1 (ints (GB (λw=>t*w/W) ws i))),(192,.own 2 (sC (GB (λw=>t*w%W) ws i)))]) ?_ ?_ ?_
  ·simp only[go_sem,seval,Zm]<;>simp[pW,aC,aA,Kc,Yi]
  ·intro i _ k o r _;have hm:=ints_at ws k;have aw:(i:Int)<(ws.length:Int):=aj
   have bc:=J _ (dH k);have ak:=D _ (dH k);have al:=F _ (dH k);have U:=TL (λw=>t*w/W) ws (i:=i) aj;have af:=TL (λw=>t*w%W) ws (i:=i) aj;have ag:=TM (λw=>t*w/W) k;have ai:=TM (λw=>t*w%W) k;have a4:=E i;have a5:=E (i+1);have X:aC (pW t W (ws.take (i+1)))=aC (pW t W (ws.take i))+t*ws[i]/W:=by
    rw[j7 k];simp only[pW,jv,map_cons,map_nil,rO]
   obtain⟨x,M⟩:=aL (ws[i]);rw[<-M]at hm bc ak al ag ai X;have hmr:=iK (a:=t) (b:=x) (A:=4611686018427387904) (B:=4611686018427387904) aj aj;have aY:=Int.mul_nonneg (show 0<=t by omega) ak;have aF:=zE (t:=t) (W:=W) (x:=x) aj I ak al;have aW:t*x<W*9223372036854775808:=by
    have H:t*x<=t*W:=Int.mul_le_mul_of_nonneg_left al aj;have h2:t*W<=4611686018427387904*W:=Int.mul_le_mul_of_nonneg_right aI.2 aj;omega
   have cT:=sV t x ⟨by omega,by omega⟩ ⟨by omega,by omega⟩;have cD:=Ln (t*x) W aY aj I aj aW;obtain⟨P,hP⟩:=aL (t*x/W);obtain⟨Z,hZ⟩:=aL (t*x%W);obtain⟨Y,hY⟩:=aL (t*x);obtain⟨S,N⟩:=aL (aC (pW t W (ws.take i)));obtain⟨A,hA⟩:=aL (GB (λw=>t*w/W) ws i);obtain⟨B,hB⟩:=aL (GB (λw=>t*w%W) ws i);rw[<-hP,<-hZ,<-hY]at cD;rw[<-hY]at cT;rw[<-hP,<-hA]at ag;rw[<-hZ,<-hB]at ai;rw[<-hA]at U;rw[<-hB]at af;rw[<-hP,<-N]at X;rw[<-N]at a4;rw[<-hP]at aF;rw[X]at a5;rw[<-hA,<-hB,<-N];have ba:IntKind.wrap .i64 (t-S-P)=t-(S+P):=fU;have a7:∀V,((ints A).set i [.int .i64 V]).getD i []=[.int .i64 V]:=λV=>by simp[ints,U,k]
   have ax:=ints_at A (i:=i) aj;have ay:=B4 B (i:=i) aj;simp only[wd]at cT cD;clear hA hB hP hZ hY N L E K hT hR;simp only[go_sem,seval,aA,o,hm];refine aV ?_;refine sc aK cT ?_;refine aV ?_;refine az.aP cD ?_;simp only[go_sem,seval,aA,FM,U,af,ax,ay]
   and_intros<;>first|exact .dq|omega|skip
   all_goals try simp only[go_sem,seval,aA,FM,U,af,ax,ay,a7,ba,r,length_set]
   all_goals(with_reducible and_intros)<;>first|exact .dq|omega|skip
   all_goals first
    | (simp only[length_set,aA,FM];omega)
    | (refine ah.v k ?_
       simp only[go_sem,seval,ints_set,agf,ag,ai,X]<;>simp)
  intro _ y _;have am:ws.map (λw=>t*w/W)=pW t W ws:=rfl;have an:ws.map (λw=>t*w%W)=R:=hR.symm;have aE:(pW t W ws).length=ws.length:=by simp[pW]
  have aH:∀p∈pW t W ws,0<=p/\p<=4611686018427387904:=λp hp=>by
   obtain⟨x,M,rfl⟩:=mem_map.1 hp;have:=zE (t:=t) (W:=W) (x:=x) aj I (D x M) (F x M);omega
  obtain⟨n0,aB⟩:∃n0:Nat,n0=(t-aC (pW t W ws)).toNat:=⟨_,rfl⟩
  have aD:t-aC (pW t W ws)=(n0:Int):=aj
  rw[<-aB]at hT;have hnl:n0<ws.length:=aj
  obtain⟨p0,ae⟩:=aL (pW t W ws);rw[<-ae]at hT aE aH;rw[eU,TK,TK,am,an,aD,<-ae];have ad:∀gs:List Bool,gs.count true<gs.length->gs.length=ws.length->0<=jD R gs ws.length/\jD R gs ws.length<ws.length/\gs.getD (jD R gs ws.length).toNat true=false:=λgs H h2=>by
   obtain⟨j,hj,he⟩:=IK H;have:=IF R gs ws.length ⟨j,by omega,he⟩;exact⟨this,(aa gs _).2,AL R gs _ this⟩
  clear L E K hR am an ae aB aD J D F;simp only[go_sem,seval,aA,y,aem]
  and_intros<;>first|exact .dq|omega|skip
  all_goals try(rw[aA];omega)
  refine aG.yh (T:=Nat×List Bool×List Int) [1,11] [192] (λs=>[(12,.int .i64 (s.1:Nat)),(10,.ref 176),(14,.ref 240)]) (λs=>[(176,.own 1 (ints s.2.2)),(240,.own 1 (My s.2.1))])
   (λs=>o9 R s.1 s.2.1 s.2.2=T/\s.2.1.length=ws.length/\s.2.2.length=ws.length/\s.2.1.count true+s.1<ws.length/\∀p∈s.2.2,0<=p/\p+(s.1:Nat)<=4611686018427387904+(n0:Nat)) (λs=>s.1) (n0,replicate ws.length false,p0) ?_ ?_ ?_
  ·refine⟨hT.symm,by simp,aE,by simp[count_replicate];omega,?_⟩;intro p hp;have:=aH p hp;dsimp only;omega
  ·exact jh
  rintro⟨n,gs,ps⟩ ⟨H,h2,h3,h4,h5⟩;dsimp only at H h2 h3 h4 h5 |-;rcases Nat.eq_zero_or_pos n with rfl|hpos
  ·have H:ps=T:=H;rw[H];simp only[go_sem,seval];refine gK.id ?_;simp only[go_sem,seval]
  obtain⟨m,rfl⟩:∃m,n=m+1:=⟨n-1,by omega⟩
  obtain⟨aO,aQ,ab⟩:=ad gs aj h2;have aT:decide (0<((m+1:Nat):Int))=true:=jw;have a9:IntKind.wrap .i64 (((m+1:Nat):Int)-1)=(m:Int):=fU;simp only[o9,aN]at H;simp only[go_sem,seval,aT,aA];refine aG.wv ws.length [1,10,11,12,14] [176,192,240] (λi=>[(16,.int .i64 i),(15,.int .i64 (jD R gs i))]) (λ_=>[]) ?_ ?_ ?_
  ·simp only[go_sem,seval]<;>simp[jD]
  ·intro i _ k o r _;have ar:i<gs.length:=aj
   have ap:i<R.length:=aj
   have z:=Xe gs ar;have a0:=B4 R ap;have aU:gs.getD i true=gs[i]:=by simp[ar]
   have aM:R.getD i 0=R[i]:=by simp[ap]
   have hb:=aa gs i;have c:jD R gs (i+1)=if !gs[i]&&(decide (jD R gs i<0)||decide (R.getD (jD R gs i).toNat 0<R[i]))then(i:Int)else jD R gs i:=by
    simp only[jD,aU,aM]
   have aw:(i:Int)<(gs.length:Int):=aj
   have hlR:(i:Int)<(R.length:Int):=aj
   cases hg:gs[i]
   case true =>
    rw[hg]at c z;simp only[Bool.not_true,dU,iI,if_false]at c;simp only[go_sem,seval,aA,o,z,Ek,r]
    and_intros<;>first|exact .dq|omega|skip
    refine ah.v k ?_;simp only[go_sem,seval,c]
   rw[hg]at c z;rcases Int.lt_or_le (jD R gs i) 0 with hb0|hb0
   ·have d:decide (jD R gs i<0)=true:=dw hb0;simp only[d,Bool.not_false,cz,Bool.true_or,if_true]at c;simp only[go_sem,seval,aA,o,z,Ek,d,r]
    and_intros<;>first|exact .dq|omega|skip
    refine ah.v k ?_;simp only[go_sem,seval,c]
   have d:decide (jD R gs i<0)=false:=lJ;obtain⟨b,O⟩:∃b:Nat,jD R gs i=b:=⟨(jD R gs i).toNat,by omega⟩
   have ao:b<R.length:=aj
   have aZ:=B4 R ao;have aR:R.getD b 0=R[b]:=by simp[ao]
   have hlb:(b:Int)<(R.length:Int):=aj
   have cL:=BL R[b] R[i];rw[O]at d c;simp only[d,Bool.not_false,cz,Bool.false_or,Int.toNat_natCast,aR]at c;simp only[wd]at cL;simp only[O];simp only[go_sem,seval,aA,o,z,Ek,d,aZ,a0,FM];refine aV ?_;refine az.aP cL ?_;by_cases hl:R[b]<R[i]
   ·have d2:decide (R[b]<R[i])=true:=dw hl;rw[d2,au rfl]at c;simp only[go_sem,seval,d2,r]
    and_intros<;>first|exact .dq|omega|skip
    refine ah.v k ?_;simp only[go_sem,seval,c]
   ·have d2:decide (R[b]<R[i])=false:=gB hl;rw[d2,aq sT]at c;simp only[go_sem,seval,d2,r]
    and_intros<;>first|exact .dq|omega|skip
    refine ah.v k ?_;simp only[go_sem,seval,c]
  ·intro _ y _;obtain⟨b,O⟩:∃b:Nat,jD R gs ws.length=b:=⟨(jD R gs ws.length).toNat,by omega⟩
   rw[O]at H aO aQ ab |-;rw[Int.toNat_natCast]at H ab;have aS:b<gs.length:=aj
   have ac:b<ps.length:=aj
   have z:=Xe gs aS;have a1:=ints_at ps ac;have a3:ps.getD b 0=ps[b]:=by simp[ac]
   have hlg:(b:Int)<(gs.length:Int):=aj
   have hlp:(b:Int)<(ps.length:Int):=aj
   have aF:=h5 ps[b] (dH ac);have bb:IntKind.wrap .i64 (ps[b]+1)=ps[b]+1:=gx aj aj;rw[a3]at H;have hcs:=count_set ab;have aJ:∀p∈ps.set b (ps[b]+1),0<=p/\p+(m:Nat)<=4611686018427387904+(n0:Nat):=λp hp=>by
    rcases mem_or_eq_of_mem_set hp with h|rfl
    ·have:=h5 p h;omega
    ·omega
   simp only[go_sem,seval,aA,y,z,a1,Ek,bb,a9]
   and_intros<;>first|exact .dq|omega|skip
   refine⟨(m,gs.set b true,ps.set b (ps[b]+1)),⟨H,by simp[h2],by simp[h3],by dsimp only;omega,aJ⟩,?_,by simp⟩;simp only[go_sem,seval,ints_set,aen]<;>simp
def Da(t:Int)(ws:List Int)(a:ws.length<2^30):Sq 372 [] [.int .i64 t,.sl 1 (ints ws)] [] (.bD [.sl 1 (ints (cy t ws)),.int .i64 (jt t ws)]):=by
 refine Spec.frozen (Rk t ws a) [0] rfl ?_;intro r;rcases r with _|r<;>rfl
theorem On{rs:List Int}{B:Int}:∀(n:Nat)(gs:List Bool)(ps:List Int),0<=B->(∀p∈ps,0<=p/\p<=B)->∀p∈o9 rs n gs ps,0<=p/\p<=B+n
 | 0,_,_,_,h=>λp a=>by have:=h p a;simp;omega
 |n+1,gs,ps,hB,h=>by
  intro p a;simp only[o9]at a
  have:=On (B:=B+1) n _ _ aj (λq c=>by
   rcases mem_or_eq_of_mem_set c with h1|rfl
   ·have:=h q h1;omega
   ·have:0<=ps.getD (jD rs gs rs.length).toNat 0/\ps.getD (jD rs gs rs.length).toNat 0<=B:=by
     rw[getD_eq_getElem?_getD];cases b:ps[(jD rs gs rs.length).toNat]? with
     |none=>simp;exact hB
     |some x=>exact h x (fC b)
    omega) p a
  push_cast;omega
def L2(t:Int)(ws:List Int):∀p∈cy t ws,0<=p/\p<=4611686018427388928:=by
 intro p c;unfold cy at c;split at c
 ·rename_i b;unfold jt at b;split at b
  ·rename_i e;simp only[cU,iN,gP]at e;split at b
   ·rename_i f;split at b
    ·cases b
    ·rename_i h3;split at c
     ·have:p=0:=by simpa using(mem_replicate.1 c).2
      omega
     ·rename_i h4;have a:∀x∈ws,0<=x:=λx d=>by
       have:=cg.1 f x d;simp only[iN,gP]at this;omega
      have hs0:=qA a;have hlr:=vA (t:=t) (ws:=ws) aj rfl aj a;have htr:=bf.1 e.1.2
      have:=On (B:=4611686018427387904) _ _ _ (by decide) (λq g=>by
       obtain⟨x,d,rfl⟩:=mem_map.1 g;have:=zE (t:=t) (W:=aC ws) (x:=x) aj aj (a x d) (FC a x d)
       omega) p c
      omega
   ·cases b
  ·cases b
 ·cases c
def Bw(c:Int)(ws:List Int):Bool:=nQ (λx=>within x 1 16) (λa b=>decide (a<b)) ws&&within c 0 2
def C7(c:Int)(ws:List Int)(hl:ws.length<2^30):Sq 355 [] [.int .i64 c,.sl 1 (ints ws)] [] (.bool (Bw c ws)):=by
 have c2:=jY c;simp only[Bw];refine aX 36 2 [.tmp 4] mixed func355 ?_;simp only[go_sem,seval,aA];refine aG.w1 ws.length 5 [0,1] [] (λi _=>∀j<i,pO (λx=>within x 1 16) (λa b=>decide (a<b)) ws j=true) sT ?_ ?_
 ·intro i _ e r l o;have m:=ints_at ws e;have hli:(i:Int)<(ws.length:Int):=aj
  have v:=jZ ws[i];have e0:=tB (ok:=λx=>within x 1 16) (lt:=λa b:Int=>decide (a<b)) (xs:=ws) (i:=i) o;have n:pO (λx=>within x 1 16) (λa b=>decide (a<b)) ws i=false->nQ (λx=>within x 1 16) (λa b=>decide (a<b)) ws=false:=λh=>wX e h;rcases Nat.eq_zero_or_pos i with rfl|hpos
  ·have f:=j8 (ok:=λx=>within x 1 16) (lt:=λa b:Int=>decide (a<b)) e;have p:decide ((0:Int)<(ws.length:Int))=true:=jw;simp only[go_sem,seval,aA,p,m];refine sc aK v ?_;cases q:within ws[0] 1 16
   ·have:=n (by rw[f,q]);simp only[go_sem,seval,q,this,dU];all_goals(with_reducible and_intros)<;>first|exact .dq|omega|skip
   simp only[go_sem,seval,q,l];all_goals(with_reducible and_intros)<;>first|exact .dq|omega|skip
   all_goals refine ah.u e (e0 (by rw[f,q])) ?_
   all_goals simp only[go_sem,seval]
   all_goals rfl
  ·obtain⟨j,rfl⟩:∃j,i=j+1:=⟨i-1,by omega⟩
   have t:j<ws.length:=aj
   have k:IntKind.wrap .i64 (((j+1:Nat):Int)-1)=(j:Int):=fU;have f:=jy (ok:=λx=>within x 1 16) (lt:=λa b:Int=>decide (a<b)) e;have g:=ints_at ws t;have w:decide (0<((j+1:Nat):Int))=true:=jw;simp only[go_sem,seval,aA,r,m];refine sc aK v ?_;cases q:within ws[j+1] 1 16
   ·have:=n (by rw[f,q];rfl);simp only[go_sem,seval,q,this,dU];all_goals(with_reducible and_intros)<;>first|exact .dq|omega|skip
   by_cases y:ws[j]<ws[j+1]
   ·have d:decide (ws[j+1]<=ws[j])=false:=lJ;simp only[go_sem,seval,q,w,k,g,m,aA,d,l];refine aV ?_;refine ah.u e (e0 (by rw[f,q,dw y];rfl)) ?_;simp only[go_sem,seval]
   ·have d:decide (ws[j+1]<=ws[j])=true:=jw;have:=n (by rw[f,q,gB y];rfl);simp only[go_sem,seval,q,w,k,g,m,aA,d,this,dU]
    and_intros<;>first|exact .dq|omega|skip
 ·intro _ s o;have:=q9 (λj (t:j<ws.length)=>o j t);simp only[go_sem,seval,aA,s,this];refine aV ?_;refine az.aP c2 ?_;simp only[go_sem,seval,cz]
def cB(l:bu)(c:Int)(ws:List Int):List Int:=ws.map λw=>gw ⟨3,w,c⟩ l.bs
def Ri(l:bu)(c:Int)(ws:List Int)(k:l.bs.length<2^30)(hl:ws.length<2^30):Sq 356 [] [.agg l.cells,.int .i64 c,.sl 1 (ints ws)] [.own 1 (ints (cB l c ws))] (.ref 0):=by
 have d:=λa=>jo l a k;simp only[bu.cells,aI.cells]at d |-;refine aX 27 3 [.tmp 6] mixed func356 ?_;simp only[go_sem,seval,aA];refine aG.wv ws.length [1,2,3] [64] (λi=>[(8,.int .i64 i),(7,.ref 416)]) (λi=>[(416,.own 1 (ints (cB l c (ws.take i))))]) ?_ ?_ ?_
 ·simp only[go_sem,seval]<;>simp[cB,ints]
 ·intro i _ h f j _;have m:=ints_at ws h;have hli:(i:Int)<(ws.length:Int):=aj
  have n:ints (cB l c (ws.take (i+1)))=ints (cB l c (ws.take i))++[[.int .i64 (gw ⟨3,ws[i],c⟩ l.bs)]]:=by
   rw[j7 h];simp only[cB,ints,jv,map_cons,map_nil]
  have b:(cB l c (ws.take i)).length=i:=by simp[cB];omega
  have e:=d ⟨3,ws[i],c⟩;clear d;simp only[go_sem,seval,aA,f,m];refine sc aK e ?_;simp only[go_sem,seval,aA,b,j];refine aV ?_;refine ah.v h ?_;simp only[go_sem,seval,n]
 ·intro _ g _;simp only[go_sem,seval,aA,g,eU]
def C9(l:bu)(c:Int)(ws:List Int)(a:l.bs.length<2^30)(b:ws.length<2^30):Sq 356 [] [.agg l.cells,.int .i64 c,.sl 1 (ints ws)] [] (.sl 1 (ints (cB l c ws))):=by
 refine Spec.frozen (Ri l c ws a b) [0] rfl ?_;intro r;rcases r with _|r<;>rfl
def gj(r:ay)(ws:List Int):List Int:=ws.map λw=>(fj r w).need
def Ng(r:ay)(ws:List Int)(h:r.jQ)(hl:ws.length<2^30):Sq 357 [] [.agg r.cells,.sl 1 (ints ws)] [.own 1 (ints (gj r ws))] (.ref 0):=by
 have c:=λn=>dK r n h.small;simp only[ay.cells]at c |-;refine aX 30 2 [.tmp 4] mixed func357 ?_;simp only[go_sem,seval,aA];refine aG.wv ws.length [1,2] [48] (λi=>[(6,.int .i64 i),(5,.ref 464)]) (λi=>[(464,.own 1 (ints (gj r (ws.take i))))]) ?_ ?_ ?_
 ·simp only[go_sem,seval]<;>simp[gj,ints]
 ·intro i _ f d j _;have m:=ints_at ws f;have hli:(i:Int)<(ws.length:Int):=aj
  have k:ints (gj r (ws.take (i+1)))=ints (gj r (ws.take i))++[[.int .i64 (fj r ws[i]).need]]:=by
   rw[j7 f];simp only[gj,ints,jv,map_cons,map_nil]
  have b:(gj r (ws.take i)).length=i:=by simp[gj];omega
  have a:=c ws[i];obtain⟨g,l⟩:=aL (fj r ws[i]);rw[<-l]at a k;simp only[av.cells]at a;clear c;simp only[go_sem,seval,aA,d,m];refine sc aK a ?_;simp only[go_sem,seval,aA,b,j];refine aV ?_;refine ah.v f ?_;simp only[go_sem,seval,k]
 ·intro _ e _;simp only[go_sem,seval,aA,e,eU]
def BN(r:ay)(ws:List Int)(h:r.jQ)(a:ws.length<2^30):Sq 357 [] [.agg r.cells,.sl 1 (ints ws)] [] (.sl 1 (ints (gj r ws))):=by
 refine Spec.frozen (Ng r ws h a) [0] rfl ?_;intro r;rcases r with _|r<;>rfl
theorem xY{A:Type}{no:A->Int}{n:Int}{z:A}{R:A->Prop}(a:R z):∀{xs:List A},(∀x∈xs,R x)->R (jS no n z xs)
 | [],_=>a
 |x::r,h=>by
  simp only[jS];split
  ·exact h x sT
  ·exact xY a λy b=>h y (by simp[b])
def Zl{r:ay}(h:∀m∈r.ms,m.gq)(n:Int):(fj r n).gq:=xY (R:=av.gq) ⟨⟨by decide,by decide⟩,⟨by decide,by decide⟩,⟨by decide,by decide⟩⟩ h
def fR(l:bu)(c:Int)(ws:List Int):Int:=if l.okB then(if Bw c ws then(if bA (aC (cB l c ws))then 0 else 1)else 3)else 14
def lY(l:bu)(c:Int)(ws:List Int):Int:=if fR l c ws=0 then aC (cB l c ws)else 0
def BO(l:bu)(c:Int)(ws:List Int)(f:l.bs.length<2^30)(hr:∀b∈l.bs,b.gq)(hl:ws.length<2^29):Sq 335 [] [.agg l.cells,.int .i64 c,.sl 1 (ints ws)] [] (.bD [.int .i64 (lY l c ws),.int .i64 (fR l c ws)]):=by
 have c1:=ny l f hr;have c2:=C7 c ws aj;have c3:=C9 l c ws f aj;have c4:=fX (cB l c ws) (λn g=>by obtain⟨w,_,rfl⟩:=mem_map.1 g;exact XM hr) (by simp[cB];omega);simp only[bu.cells]at c1 c3 |-;refine aX 28 3 [.tmp 6,.tmp 7] mixed func335 ?_;refine sc aK c1 ?_;cases a:l.okB
 ·have e:fR l c ws=14:=by simp[fR,a]
  simp only[go_sem,seval,lY,e]<;>simp
 refine sc aK c2 ?_;cases d:Bw c ws
 ·have e:fR l c ws=3:=by simp[fR,a,d]
  simp only[go_sem,seval,lY,e]<;>simp
 have e:fR l c ws=if bA (aC (cB l c ws))then 0 else 1:=by simp[fR,a,d]
 simp only[lY];rw[e];refine sc aK c3 ?_;refine sc aK c4 ?_;cases q:bA (aC (cB l c ws))<;>simp only[go_sem,seval,q,addN]<;>simp
def iO(r:ay)(ws:List Int):Int:=if r.okB then(if Bw 0 ws then(if bA (aC (gj r ws))then 0 else 1)else 3)else 14
def qy(r:ay)(ws:List Int):Int:=if iO r ws=0 then aC (gj r ws)else 0
def C8(r:ay)(ws:List Int)(h:r.jQ)(hr:∀m∈r.ms,m.gq)(hl:ws.length<2^29):Sq 337 [] [.agg r.cells,.sl 1 (ints ws)] [] (.bD [.int .i64 (qy r ws),.int .i64 (iO r ws)]):=by
 have c1:=gW r h.small;have c2:=C7 0 ws aj;have c3:=BN r ws h aj;have c4:=fX (gj r ws) (λn c=>by obtain⟨w,_,rfl⟩:=mem_map.1 c;exact(Zl hr w).2.2) (by simp[gj];omega);simp only[ay.cells]at c1 c3 |-;refine aX 24 2 [.tmp 4,.tmp 5] mixed func337 ?_;refine sc aK c1 ?_;cases a:r.okB
 ·have e:iO r ws=14:=by simp[iO,a]
  simp only[go_sem,seval,qy,e]<;>simp
 refine sc aK c2 ?_;cases b:Bw 0 ws
 ·have e:iO r ws=3:=by simp[iO,a,b]
  simp only[go_sem,seval,qy,e]<;>simp
 have e:iO r ws=if bA (aC (gj r ws))then 0 else 1:=by simp[iO,a,b]
 simp only[qy];rw[e];refine sc aK c3 ?_;refine sc aK c4 ?_;cases q:bA (aC (gj r ws))<;>simp only[go_sem,seval,q,addN]<;>simp
def pM(k c:Int)(ws ps:List Int)(i:Nat):List aN:=[⟨k,ws.getD i 0,c,-(ps.getD i 0)⟩]
def v7(k c n:Int)(ws ps:List Int):List aN:=⟨6,0,c,n⟩::n6 (pM k c ws ps) ps.length
def tM(k c n a:Int)(ws gs:List Int):Int:=if within n 0 4611686018427387904 then(if a<n then 13 else nq (v7 k c n ws (cy n gs)))else 3
def vh(k c n a:Int)(ws gs:List Int):List aN:=if tM k c n a ws gs=0 then kj (v7 k c n ws (cy n gs))else[]
def C4(k c n a:Int)(ws gs:List Int)(he:gs.length=ws.length)(hl:ws.length<2^27):Sq 358 [] [.int .i64 k,.int .i64 c,.int .i64 n,.int .i64 a,.sl 1 (ints ws),.sl 1 (ints gs)] [] (.bD [.sl 4 ((vh k c n a ws gs).map aN.cells),.int .i64 (tM k c n a ws gs)]):=by
 have c1:=j5 n 0 4611686018427387904;have c2:=Da n gs aj;have t:=oE n gs;have j:=L2 n gs;have e0:within n 0 4611686018427387904=true->¬a<n->vh k c n a ws gs=kj (v7 k c n ws (cy n gs)):=λB C=>by
  simp only[vh,tM,B,aq C,if_true];split
  ·rfl
  ·rename_i h;simp[kj,h]
 refine aX 61 6 [.tmp 12,.tmp 13] mixed func358 ?_;refine sc aK c1 ?_;cases o:within n 0 4611686018427387904
 ·have e:tM k c n a ws gs=3:=by simp[tM,o]
  simp only[go_sem,seval,vh,e]<;>simp
 by_cases b:a<n
 ·have d:decide (a<n)=true:=dw b;have e:tM k c n a ws gs=13:=by simp[tM,o,b]
  simp only[go_sem,seval,d,vh,e]<;>simp
 have A:decide (a<n)=false:=gB b;have e:tM k c n a ws gs=nq (v7 k c n ws (cy n gs)):=by simp[tM,o,b]
 rw[e,e0 o b];clear e e0 c1;obtain⟨ps,u⟩:=aL (cy n gs);rw[<-u]at c2 t j |-;have hgl:=nS (f:=pM k c ws ps) (m:=1) (λi=>by simp[pM]) ps.length;have x:=tG (v7 k c n ws ps) (by simp only[v7,length_cons];omega);simp only[go_sem,seval,A];refine aV ?_;refine az.aP c2 ?_;simp only[go_sem,seval,aA];refine aV ?_;refine aG.wv ps.length [0,1,4,14] [] (λi=>[(17,.int .i64 i),(16,.ref 912)]) (λi=>[(912,.own 4 ((⟨6,0,c,n⟩::n6 (pM k c ws ps) i:List aN).map aN.cells))]) ?_ ?_ ?_
 ·simp only[go_sem,seval,l9]<;>simp
 ·intro i _ p q w _;have D:=ints_at ps p;have g:i<ws.length:=aj
  have s:=ints_at ws g;have hp:=j ps[i] (dH p);have E:IntKind.wrap .i64 (0-ps[i]) = -ps[i]:=fU;have z:(⟨6,0,c,n⟩::n6 (pM k c ws ps) (i+1):List aN)=(⟨6,0,c,n⟩::n6 (pM k c ws ps) i)++[⟨k,ws[i],c,-ps[i]⟩]:=by
   rw[iS];simp[pM,p,g]
  have hll:=nS (f:=pM k c ws ps) (m:=1) (λi=>by simp[pM]) i;obtain⟨L,y⟩:=aL ((⟨6,0,c,n⟩::n6 (pM k c ws ps) i:List aN));have hLl:L.length<=i+1:=by rw[y,length_cons];omega
  rw[<-y]at z |-;have hlw:(i:Int)<(ws.length:Int):=aj
  have hlp:(i:Int)<(ps.length:Int):=aj
  clear x;simp only[go_sem,seval,aA,q,D,s,E,w];refine aV ?_;refine ah.v p ?_;simp only[go_sem,seval];have l:=congrArg (map aN.cells) z;simp only[jv,map_cons,map_nil]at l |-;exact l.symm
 ·intro _ r _;simp only[go_sem,seval,aA,r];refine aV ?_;refine az.iw [912] [] false sT ?_;simp only[go_sem,seval];refine dL.ij x ?_;simp only[go_sem,seval]
def Ve(xs:List aB)(ws:List Int)(hl:xs.length<2^30)(hs:ws.length<2^30):Sq 86 [] [.sl 4 (xs.map aB.cells),.sl 1 (ints ws)] [.own 4 ((dQ xs ws).map aB.cells)] (.ref 0):=by
 refine aX 26 2 [.tmp 4] mixed func86 ?_;refine s0 ?_;refine aV ?_;refine aG.wv xs.length [1,8,9] [160] (λi=>[(10,.I i),(5,.ref 384)]) (λi=>[(384,.own 4 ((dQ (xs.take i) ws).map aB.cells))]) ?_ ?_ ?_
 ·simp only[go_sem,seval]<;>simp[dQ]
 ·intro i _ d f b _;have h:=aM (c:=aB.cells) xs d;have hli:(i:Int)<(xs.length:Int):=aj
  have hlt:(xs.take i).length=i:=by simp;omega
  have a:dQ (xs.take (i+1)) ws=dQ (xs.take i) ws++_:=gU _ d;have e:(dQ (xs.take i) ws).length<=1*(xs.take i).length:=gJ (λx=>by split<;>simp) _;obtain⟨L,k⟩:=aL (dQ (xs.take i) ws);obtain⟨x,l⟩:=aL (xs[i]);rw[<-k]at a e |-;rw[<-l]at a h;have j:=w7 ws x.who aj;simp only[aB.cells]at h;refine sc (a2 f h) j ?_;cases q:tO ws x.who
  ·rw[q]at a;simp only[iI,if_false]at a;refine sm b ?_;refine aV ?_;refine ah.v d ?_;exact gH a
  ·rw[q]at a;simp only[if_true,append_nil]at a;refine sm b ?_;refine aV ?_;refine ah.v d ?_;exact eo a
 ·intro _ g _;simp only[go_sem,seval,g,eU]
def FO(xs:List aB)(ws:List Int)(a:xs.length<2^30)(b:ws.length<2^30):Sq 86 [] [.sl 4 (xs.map aB.cells),.sl 1 (ints ws)] [] (.sl 4 ((dQ xs ws).map aB.cells)):=by
 refine Spec.frozen (Ve xs ws a b) [0] rfl ?_;intro r;rcases r with _|r<;>rfl
def BE(ms:List av)(x:av){k:Nat}(w:k<ms.length)(p:∀i (h:i<k),(ms[i]'aj).no<x.no)(u:ms[k].no=x.no)(hl:ms.length<2^30):Sq 179 [.own 3 (ms.map av.cells)] [.ref 0,.fn 180 [],.agg x.cells] [.own 3 ((ms.set k x).map av.cells)] (.ref 0):=by
 have e:=λy=>tF y;have j:(ms.set k x).map av.cells=(ms.map av.cells).set k x.cells:=by rw[map_set]
 rw[j];simp only[av.cells]at e |-;refine aX 52 3 [.tmp 6] mixed func179 ?_;refine s0 ?_;refine aV ?_;refine aG.wv k [0,1,5] [0,96] (λi=>[(7,.I i)]) (λ_=>[]) ?_ ?_ ?_
 ·exact iB
 ·intro i _ s _ q _;have a:i<ms.length:=aj
  have b:=aM (c:=av.cells) ms a;have n:(i:Int)<(ms.length:Int):=aj
  have m:decide ((i:Int)<(ms.length:Int))=true:=dw n;have f:decide ((ms[i]'a).no<x.no)=true:=dw (p i s);have d:=e (ms[i]'a);have l:=e x;obtain⟨y,r⟩:=aL (ms[i]'a);rw[<-r]at b f d;simp only[av.cells]at b;refine sc (a2 m b) d ?_;refine sc (a2 f q) l ?_;refine aV ?_;refine ah.v s ?_;exact iB
 ·intro _ _ _;have b:=aM (c:=av.cells) ms w;have o:(k:Int)<(ms.length:Int):=aj
  have g:decide ((k:Int)<(ms.length:Int))=true:=dw o;have f:decide (ms[k].no<x.no)=false:=lJ;have t:(ms[k].no==x.no)=true:=su u;have d:=e ms[k];have l:=e x;obtain⟨y,r⟩:=aL (ms[k]);rw[<-r]at b f t d;simp only[av.cells]at b;refine sc (a2 g b) d ?_;refine sc f l ?_;refine gK.id ?_;refine sc (a2 g b) d ?_;refine sc t l ?_;refine aV ?_;rw[b];rfl
