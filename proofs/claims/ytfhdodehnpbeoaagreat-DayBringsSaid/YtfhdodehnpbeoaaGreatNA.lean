/- Parts. -/
import Derived.Test.YtfhdodehnpbeoaaGreatKP
set_option linter.all false
set_option maxHeartbeats 4000000
set_option maxRecDepth 16000
namespace Go.Proofs.YtfhdodehnpbeoaaGreat
open Go.Abs Tryz
open List hiding lt
def adb:AE (λt=>t) (λk=>k) aH.cells 3 24 where
 r1:=tZ func359 func359
 r2:=tZ func340 func340
 r3:=tZ func309 func309
 r4:=tZ func310 func310
 r5:=tZ func253 func253
 r6:=tZ func127 func127
 t0:=cY
 t3:=cY
 t4:=cY
 tu:=cY
 ne:=cY
 nv:=cY
 sl:=akJ
 el:=ao0
 pos:=aj
 len:=λ_=>rfl
 ok:=λx d a=>by simp only[aH.cells,mem_cons,not_mem_nil,or_false]at a;rcases a with rfl|rfl|rfl<;>simp[go_sem,seval,cE,gM,D.names]
 nm:=λ_=>rfl
 pl:=λx=>by simp only[go_sem,seval,aH.cells]
def RF(lt:aH->aH->Bool)(g:FuncId)(b:∀x y:aH,∃c:Int,Sq g [] [.agg (aH.cells x),.agg (aH.cells y)] [] (.I c)/\decide (c<0)=lt x y)(l:List (aH))(a:l.length<2^38) :
  Sq 127 [.own 3 (l.map aH.cells)] [.ref 0,.fn g []] [.own 3 ((DZ lt l).map aH.cells)] (.bD []):=zU adb lt g [] rfl (eq_true trivial) (λ_ _=>eq_true trivial) b l a
def xV(xs:List av)(a:xs.length<2^30):Sq 136 [] [.sl 3 (xs.map av.cells)] [] (.sl 3 (xs.map av.cells)):=by
 refine Spec.frozen (zZ xs a) [0] rfl ?_;intro r;rcases r with _|r<;>rfl
def CR(xs:List aB)(hl:xs.length<2^30):Sq 143 [] [.sl 4 (xs.map aB.cells)] [.own 4 (xs.map aB.cells)] (.ref 0):=by
 refine aX 8 1 [.tmp 2] mixed func143 ?_;refine s0 ?_;refine fG.By akH rfl aj ?_;intro b a;repeat' with_reducible first|apply And.intro|exact .dq|refine az.aP (by assumption) ?_|refine mW (λh=>?_) λh=>?_|refine .id ?_|refine ah.eI aj ?_ ?_|exact aK|simp only[*,go_sem,seval,qO]
 all_goals first
  |omega
  | (rw[a (by assumption)])
  |skip
def JC(xs:List aB)(a:xs.length<2^30):Sq 143 [] [.sl 4 (xs.map aB.cells)] [] (.sl 4 (xs.map aB.cells)):=by
 refine Spec.frozen (CR xs a) [0] rfl ?_;intro r;rcases r with _|r<;>rfl
def MC(xs:List bn)(a:xs.length<2^30):Sq 144 [] [.sl 5 (xs.map bn.cells)] [] (.sl 5 (xs.map bn.cells)):=by
 refine Spec.frozen (yY xs a) [0] rfl ?_;intro r;rcases r with _|r<;>rfl
def MF(ps:List iu)(a:ps.length<2^30):Sq 142 [] [.sl 3 (pl ps)] [] (.sl 3 (pl ps)):=by
 refine Spec.frozen (JE ps a) [0] rfl ?_;intro r;rcases r with _|r<;>rfl
def uO(s:af)(h:s.small)(k:∀x∈s.aR,mC x):Sq 50 [] [.agg s.cells] [] (.agg s.cells):=by
 obtain⟨g,i,j⟩:=h.ak;have c1:=xV s.ak.ms g;have c2:=AT s.ak.ns i;have c3:=uh s.ak.xs j;have c4:=uj s.book.ts h.book.1;have b:=wY s.book.qs h.book.2;have c:=wg s.bp.bs h.bp;have d:=MF s.ps h.ps;have e:=JC s.calls h.calls;have f:=MC s.aZ h.aZ;have a:=Aa s.aR h.aR k;simp only[af.cells];refine aX 56 1 [.cell 2 42] mixed func50 ?_;refine sc aK c1 ?_;refine sc aK c2 ?_;refine sc aK c3 ?_;refine sc aK c4 ?_;refine sc aK b ?_;refine sc aK c ?_;refine sc aK d ?_;refine sc aK e ?_;refine sc aK f ?_;exact lX aK a
def abW(n:Int)(xs:List aB)(hl:xs.length<2^30):Sq 85 [] [.I n,.sl 4 (xs.map aB.cells)] [.own 4 ((jM n xs).map aB.cells),.own 4 ((nw n xs).map aB.cells)] (.bD [.ref 0,.ref 1]):=by
 refine aX 29 2 [.tmp 4,.tmp 5] mixed func85 ?_;refine s0 ?_;refine aV ?_;refine aG.wv xs.length [0,8,9] [160] (λi=>[(10,.I i),(4,.ref 352),(5,.ref 416)]) (λi=>[(352,.own 4 ((jM n (xs.take i)).map aB.cells)),(416,.own 4 ((nw n (xs.take i)).map aB.cells))]) ?_ ?_ ?_
 ·simp only[go_sem,seval]<;>simp[jM,nw]
 ·intro i _ f e g _;have h:=aM (c:=aB.cells) xs f;have hli:(i:Int)<(xs.length:Int):=aj
  have hlt:(xs.take i).length=i:=by simp;omega
  have a:jM n (xs.take (i+1))=jM n (xs.take i)++_:=gU _ f;have b:nw n (xs.take (i+1))=nw n (xs.take i)++_:=gU _ f;have j:(jM n (xs.take i)).length<=1*(xs.take i).length:=gJ (λx=>by split<;>simp) _;have k:(nw n (xs.take i)).length<=1*(xs.take i).length:=gJ (λx=>by split<;>simp) _;obtain⟨L,m⟩:=aL (jM n (xs.take i));obtain⟨M,o⟩:=aL (nw n (xs.take i));obtain⟨x,p⟩:=aL (xs[i]);rw[<-m]at a j;rw[<-o]at b k;rw[<-p]at a b h;rw[<-m,<-o];simp only[aB.cells]at h;by_cases q:x.till<=n
  ·have d:decide (x.till<=n)=true:=dw q;rw[au q]at a b;refine sm (a4 e h d g) ?_;refine aV ?_;refine ah.v f ?_;exact gH (a2 a b)
  ·have d:decide (x.till<=n)=false:=gB q;rw[aq q]at a b;refine sm (a4 e h d g) ?_;refine aV ?_;refine ah.v f ?_;exact gH (a2 a b)
 ·intro _ l _;simp only[go_sem,seval,l,eU]
def Zc(n:Int)(xs:List aB)(a:xs.length<2^30):Sq 85 [] [.I n,.sl 4 (xs.map aB.cells)] [] (.bD [.sl 4 ((jM n xs).map aB.cells),.sl 4 ((nw n xs).map aB.cells)]):=by
 refine Spec.frozen (abW n xs a) [0,1] rfl ?_;intro r;rcases r with _| _|r<;>rfl
def yK(a:aH->aH->Bool):aH->List aH->List aH
 | _,[]=>[]
 |p,y::r=>if a y p then yK a y r else y::yK a y r
def DQ(a:aH->aH->Bool):List aH->List aH
 | []=>[]
 |x::r=>x::yK a x r
theorem Fp(a:aH->aH->Bool):∀(p:aH)(l:List aH),(yK a p l).length<=l.length
 | _,[]=>fO _
 |p,y::r=>by
  have:=Fp a y r;unfold yK;split<;>simp only[length_cons]<;>omega
theorem LK(a:aH->aH->Bool)(l:List aH):(DQ a l).length<=l.length:=by
 cases l with
 |nil=>exact fO _
 |cons x r=>have:=Fp a x r;simp only[DQ,length_cons];omega
def JI(e:aH->aH->Bool)(g:FuncId)(hg:∀x y:aH,Sq g [] [.agg x.cells,.agg y.cells] [] (.bool (e x y)))(l:List aH)(hN:l.length<2^38)(Y:List D)(d:D)
  (O:(DQ e l).length=l.length->Y=[.own 3 (l.map aH.cells)]/\d=.ref 0)
  (Q:(DQ e l).length<l.length->Y=[.own 3 ((DQ e l).map aH.cells++replicate (l.length-(DQ e l).length) [.I 0,.I 0,.I 0])]/\d=.gl 0 3 0 (DQ e l).length) :
  Sq 131 [.own 3 (l.map aH.cells)] [.ref 0,.fn g []] Y d:=by
 obtain⟨N,a⟩:=aL (l.length);obtain⟨Z,S⟩:=aL (DQ e l);rw[<-a]at hN O Q;rw[<-S]at O Q;rcases dN N 2 with h2|h2
 ·have P:decide ((N:Int)<2)=true:=jw;have hz:Z=l:=by
   rw[S];cases l with
   |nil=>rfl
   |cons x r =>
    cases r with
    |nil=>rfl
    |cons y r=>simp only[length_cons]at a;omega
  obtain⟨rfl,rfl⟩:=O (by rw[hz];exact a.symm);refine aX 66 2 [.tmp 4] mixed func131 ?_;simp only[go_sem,seval,<-a,P]
 have P:decide ((N:Int)<2)=false:=lJ;refine aX 66 2 [.tmp 4] mixed func131 ?_;simp only[go_sem,seval,<-a,P];refine aG.yh (T:=Nat) [0,1,4] [0] (λk=>[(5,.I ((k+1:Nat):Int))]) (λ_=>[]) (λk=>k+1<=N/\∃p,l[k]?=some p/\Z=l.take (k+1)++yK e p (l.drop (k+1))) (λk=>N-k) 0 ?_ ?_ ?_
 ·refine⟨by omega,?_⟩;cases l with
  |nil=>simp only[length_nil]at a;omega
  |cons x r=>exact⟨x,rfl,by rw[S];rfl⟩
 ·exact iB
 ·rintro k ⟨hk,p,hp,hr⟩;rcases dN (k+1) N with hlt|hge
  ·have L:decide (((k+1:Nat):Int)<(N:Int))=true:=jw;have wk:IntKind.wrap .i64 (((k+1:Nat):Int)-1)=((k:Nat):Int):=fU;have ab:IntKind.wrap .i64 (((k+1:Nat):Int)+1)=((k+1+1:Nat):Int):=fU;have n:k+1<l.length:=aj
   obtain⟨y,o⟩:=ld n;have X:l.drop (k+1)=y::l.drop (k+1+1):=by
    rw[drop_eq_getElem_cons n];congr 1;rw[gF n]at o;exact Option.some.inj o
   have m1:=(kM (c:=aH.cells) hp hp).1;have m2:=(kM (c:=aH.cells) o o).1;have B:=hg y p;rw[X,yK]at hr;simp only[aH.cells]at m1 m2 B;cases hq:e y p with
   |false =>
    rw[hq]at B hr;rw[aq sD]at hr;simp only[go_sem,seval,<-a,L,wk,m1,m2];refine sc aK B ?_;simp only[go_sem,seval,ab];refine⟨k+1,⟨by omega,y,o,?_⟩,?_,by show N-(k+1)<N-k;omega⟩
    ·have ht:l.take (k+1+1)=l.take (k+1)++[y]:=by rw[take_add_one,o];rfl
     show Z=l.take (k+1+1)++yK e y (l.drop (k+1+1));rw[hr,ht];simp
    ·exact iB
   |true =>
    rw[hq]at B hr;rw[au rfl]at hr;have A:Z.length<N:=by
     have:=Fp e y (l.drop (k+1+1));rw[hr,ct,gh,<-a];rw[iC,<-a]at this;omega
    obtain⟨rfl,rfl⟩:=Q A;have wsl:((N:Int)-((k+1:Nat):Int))=((N-(k+1):Nat):Int):=aj
    simp only[go_sem,seval,<-a,L,wk,m1,m2];refine sc aK B ?_;simp only[go_sem,seval,<-a];refine aV ?_;have hZl2:Z.length<N:=A;refine aG.yh (T:=Nat×Nat×List aH) [0,1,4,6] [] (λs=>[(5,.I ((s.2.1:Nat):Int)),(7,.I ((s.1:Nat):Int))]) (λs=>[(0,.own 3 (s.2.2.map aH.cells))]) (λs=>1<=s.1/\s.1+(k+1)<=N/\k+1<=s.2.1/\s.2.1<=k+s.1/\s.2.2.length=N/\s.2.2.drop (k+s.1)=l.drop (k+s.1)/\∃p,l[k+s.1]?=some p/\Z=s.2.2.take s.2.1++yK e p (l.drop (k+s.1+1))) (λs=>N-s.1) (1,k+1,l) ?_ ?_ ?_
    ·exact⟨fO _,by show 1+(k+1)<=N;omega,fO _,fO _,a.symm,rfl,y,o,hr⟩
    ·exact iB
    ·rintro⟨k2,j,W⟩ ⟨i1,i2,i3,i4,i5,i6,q,iq,ir⟩;dsimp only at i1 i2 i3 i4 i5 i6 iq ir;have t:∀i,k+k2<=i->W[i]?=l[i]?:=by
      intro i hi;have:=congrArg (λz=>z[i-(k+k2)]?) i6;simp only[getElem?_drop]at this;rwa[show k+k2+(i-(k+k2))=i by omega]at this
     rcases dN (k2+(k+1)) N with hlt2|hge2
     ·have M:decide ((k2:Int)<((N-(k+1):Nat):Int))=true:=jw;have J:IntKind.wrap .i64 ((k2:Int)-1)=((k2-1:Nat):Int):=fU;have K:IntKind.wrap .i64 ((k2:Int)+1)=((k2+1:Nat):Int):=fU;have wj:IntKind.wrap .i64 ((j:Int)+1)=((j+1:Nat):Int):=fU;have m:k+k2+1<l.length:=aj
      obtain⟨b,h⟩:=ld m;have E:l.drop (k+k2+1)=b::l.drop (k+k2+1+1):=by
       rw[drop_eq_getElem_cons m];congr 1;rw[gF m]at h;exact Option.some.inj h
      have g1:W[k+1+(k2-1)]?=some q:=by rw[t _ aj,show k+1+(k2-1)=k+k2 by omega];exact iq
      have g2:W[k+1+k2]?=some b:=by rw[t _ aj,show k+1+k2=k+k2+1 by omega];exact h
      have n1:=(kM (c:=aH.cells) g1 g1).1;have n2:=(kM (c:=aH.cells) g2 g2).1;have f:=hg b q;have C:W.drop (k+k2+1)=l.drop (k+k2+1):=by
       have:=congrArg (drop 1) i6;simpa only[drop_drop]using this
      obtain⟨v,hv⟩:=ld (l:=W) (i:=j) aj;have n3:=(kM (c:=aH.cells) hv hv).1;rw[E,yK]at ir;have H:(W.map aH.cells).set j b.cells=(W.set j b).map aH.cells:=by rw[map_set]
      simp only[aH.cells]at n1 n2 n3 f H;cases G:e b q with
      |true =>
       rw[G]at f ir;rw[au rfl]at ir;refine sc (a5 i5 M J n1 (a2 n2 K)) f ?_;refine⟨(k2+1,j,W),⟨by show 1<=k2+1;omega,by show k2+1+(k+1)<=N;omega,i3,by show j<=k+(k2+1);omega,i5,?_,b,h,ir⟩,?_,by show N-(k2+1)<N-k2;omega⟩
       ·show W.drop (k+k2+1)=l.drop (k+k2+1);exact C
       ·exact iB
      |false =>
       rw[G]at f ir;rw[aq sD]at ir;refine sc (a5 i5 M J n1 (a5 n2 n3 K wj H)) f ?_;refine aV ?_;refine⟨(k2+1,j+1,W.set j b),⟨by show 1<=k2+1;omega,by show k2+1+(k+1)<=N;omega,by show k+1<=j+1;omega,by show j+1<=k+(k2+1);omega,by show(W.set j b).length=N;rw[length_set];exact i5,?_,b,h,?_⟩,?_,by show N-(k2+1)<N-k2;omega⟩
       ·show(W.set j b).drop (k+k2+1)=l.drop (k+k2+1);rw[drop_set_of_lt aj];exact C
       ·show Z=(W.set j b).take (j+1)++yK e b (l.drop (k+k2+1+1));have ht:(W.set j b).take (j+1)=W.take j++[b]:=by
         rw[take_add_one,take_set_of_le (fO _),getElem?_set_self aj];rfl
        rw[ir,ht];simp
       ·exact iB
     ·have M:decide ((k2:Int)<((N-(k+1):Nat):Int))=false:=lJ;have u:Z=W.take j:=by rw[ir,drop_of_length_le aj];simp[yK]
      have w:Z.length=j:=by rw[u,gh];omega
      refine sm (a2 i5 M) ?_;refine aV ?_;with_reducible refine fG.Ss (z:=3) (r:=0) (lo:=j) (l:=N-j) (R:=W.map aH.cells) (zc:=[.I 0,.I 0,.I 0]) akJ ?_ ?_ ?_ ?_ ?_ ?_ ?_ ?_
      ·rfl
      ·rfl
      ·exact aqC
      ·rfl
      ·simp[go_sem]
      ·rw[qO];omega
      ·omega
      ·have aa:splice (W.map aH.cells) j (replicate (N-j) [.I 0,.I 0,.I 0])=Z.map aH.cells++replicate (N-Z.length) [.I 0,.I 0,.I 0]:=by
        rw[splice,drop_of_length_le (by rw[qO,length_replicate];omega),w,u,map_take,append_nil]
       have V:(Z.map aH.cells++replicate (N-Z.length) [D.I 0,.I 0,.I 0]).length=N:=by
        rw[ct,qO,length_replicate];omega
       rw[aa];generalize Z.map aH.cells++replicate (N-Z.length) [D.I 0,.I 0,.I 0]=F at *;refine sm (a2 V w) ?_;exact RS
  ·have L:decide (((k+1:Nat):Int)<(N:Int))=false:=lJ;have hkN:k+1=N:=aj
   have U:Z=l:=by
    rw[hr,take_of_length_le aj,drop_of_length_le aj];simp[yK]
   obtain⟨rfl,rfl⟩:=O (by rw[U];exact a.symm);simp only[go_sem,seval,<-a,L]
def MH(p:aH->Bool)(g:FuncId)(r:∀x:aH,Sq g [] [.agg x.cells] [] (.bool (p x)))(cs:List aH)(f:cs.length<2^60):Sq 308 [] [.sl 3 (cs.map aH.cells),.fn g []] [] (.I (lT (λc:aH=>if p c then 1 else 0) 1 cs)):=by
 refine aX 19 2 [.tmp 4] mixed func308 ?_;refine s0 ?_;refine aG.w1 cs.length 8 [0,1,7] [] (λi _=>∀j (a:j<cs.length),j<i->(if p cs[j]then(1:Int)else 0)≠1) (by intros;omega) ?_ ?_
 ·intro i _ m k s b;have o:=aM (c:=aH.cells) cs m;have hli:(i:Int)<(cs.length:Int):=aj
  have f:=r cs[i];simp only[aH.cells]at o f;refine sc (a2 k o) f ?_;cases d:p cs[i]
  ·refine sm (a2 d s) ?_;refine ah.u m ?_ ?_
   ·intro j a hji;rcases dN j i with h|h
    ·exact b j a h
    ·obtain rfl:j=i:=aj
     simp[d]
   ·exact iB
  ·obtain⟨q,e⟩:=nj (no:=λc:aH=>if p c then(1:Int)else 0) (n:=1) (z:=(⟨0,0,0⟩:aH)) m b (by simp[d]);rw[e];exact eo d
 ·intro _ l b;obtain⟨q,e⟩:=kY (no:=λc:aH=>if p c then(1:Int)else 0) (n:=1) (z:=(⟨0,0,0⟩:aH)) (λj a=>b j a a);rw[e];exact eo l
def Ge(p:aH->Bool)(g:FuncId)(d:∀x:aH,Sq g [] [.agg x.cells] [] (.bool (p x)))(cs:List aH)(b:cs.length<2^60):Sq 251 [] [.sl 3 (cs.map aH.cells),.fn g []] [] (.bool (cs.any p)):=by
 have h:=MH p g d cs b;have e:decide (0<=lT (λc:aH=>if p c then(1:Int)else 0) 1 cs)=cs.any p:=by
  rw[zH];congr 1;funext c;cases a:p c<;>simp[a]
 refine aX 9 2 [.tmp 4] mixed func251 ?_;exact lX e h
def KE(x:aH):Sq 252 [] [.agg x.cells] [] (.bool (!bA x.bT)):=by
 have a:=eH [x.bT] sT;rw[zN]at a;simp only[ints,map_cons,map_nil]at a;simp only[aH.cells];refine aX 8 1 [.tmp 2] mixed func252 ?_;exact X6 aK a
def CZ(l:List aH)(hl:l.length<2^40):Sq 125 [] [.sl 3 (l.map aH.cells)] [] (.bool (kV l)):=by
 have h:=Ge (λx=>!bA x.bT) 252 KE l aj;have e:(!l.any λx=>!bA x.bT)=kV l:=by rw[kV,not_any_eq_all_not];simp
 refine aX 6 1 [.tmp 2] mixed func125 ?_;exact lX e h
def VP(w c:Int)(l:List aH)(hl:l.length<2^29):Sq 133 [] [.I w,.I c,.sl 3 (l.map aH.cells)] [] (.bD [.I (jF w c l),.I (gR w c l)]):=by
 have t:=CZ l aj;refine aX 40 3 [.tmp 6,.tmp 7] mixed func133 ?_;refine sc aK t ?_;cases n:kV l
 ·have e:gR w c l=3:=by simp[gR,n]
  simp only[go_sem,seval,jF,e]<;>simp
 have e:gR w c l=if bA (aC (rj w c l))then 0 else 1:=by simp[gR,n]
 have p:∀x∈l,bA x.bT=true:=λx k=>cg.1 n x k;have s:=ju (rj w c l) (by have:=bR (AZ w c) aH.bT l;unfold rj;omega);have q:right (rj w c l)=true:=cg.2 (lB λx k=>p x k);rw[pY,oF,q,cz,au rfl]at s;simp only[jF];rw[e];clear e t;refine s0 ?_;refine aG.wv l.length [0,1,14,15] [256] (λi=>[(16,.I i),(8,.ref 560)]) (λi=>[(560,.own 1 (ints (rj w c (l.take i))))]) ?_ ?_ ?_
 ·simp only[go_sem,seval]<;>simp[rj,pick,ints]
 ·intro i _ g b d _;have j:=aM (c:=aH.cells) l g;have a:ints (rj w c (l.take (i+1)))=ints (rj w c (l.take i))++_:=ga (AZ w c) aH.bT g;have h:(rj w c (l.take i)).length<=(l.take i).length:=bR (AZ w c) aH.bT (l.take i);have hlt:(l.take i).length=i:=by simp;omega
  have hli:(i:Int)<(l.length:Int):=aj
  obtain⟨x,k⟩:=aL (l[i]);obtain⟨L,u⟩:=aL (rj w c (l.take i));rw[<-u]at a h |-;rw[<-k]at a j;simp only[aH.cells]at j;simp only[AZ]at a;cases f:x.who==w
  ·simp only[f,dU,iI,if_false,append_nil]at a;refine sm (a4 b j f d) ?_;refine aV ?_;refine ah.v g ?_;exact eo a
  cases m:x.cur==c
  ·simp only[f,m,Bool.and_false,iI,if_false,append_nil]at a;refine sm (a5 b j f m d) ?_;refine aV ?_;refine ah.v g ?_;exact eo a
  simp only[f,m,Bool.and_self,if_true]at a;simp only[go_sem,seval,b,j,f,m,d,aA];refine aV ?_;refine ah.v g ?_;exact eo a
 ·intro _ o _;simp only[go_sem,seval,o,eU];refine sl aK s ?_;cases r:bA (aC (rj w c l))
  ·exact gH r
  ·exact gH r
def TP(x y:aH):∃c:Int,Sq 128 [] [.agg x.cells,.agg y.cells] [] (.I c)/\decide (c<0)=fV x y:=by
 have a:=jE x.who y.who;have b:=jE x.cur y.cur;have d:=sI (gG x.who y.who) (gG x.cur y.cur);refine⟨if gG x.who y.who=0 then gG x.cur y.cur else gG x.who y.who,?_,?_⟩
 ·simp only[aH.cells];refine aX 17 2 [.tmp 4] mixed func128 ?_;refine sc aK a ?_;refine sc aK b ?_;exact X6 aK d
 ·rw[lZ,decide_eq_true_iff,fm];simp only[gG];repeat' split
  all_goals omega
def pQ(x y:aH):Bool:=x.who==y.who&&x.cur==y.cur
def V7(x y:aH):Sq 132 [] [.agg x.cells,.agg y.cells] [] (.bool (pQ x y)):=by
 simp only[aH.cells];cases q:x.who==y.who;all_goals
  refine aX 17 2 [.tmp 4] mixed func132 ?_;simp only[go_sem,seval,q,pQ];try simp
def Bx(l:List aH):List aH->List aH->List aH×Int
 | [],out=>(out,0)
 |d::r,out=>if gR d.who d.cur l=0 then Bx l r (out++xu l d)else([],gR d.who d.cur l)
def Kp(l:List aH):List aH:=DQ pQ (DZ fV l)
def tV(l:List aH):List aH×Int:=if kV l then Bx l (Kp l) []else([],3)
def TT(l:List aH)(d:aH):(xu l d).length<=1:=by unfold xu;split<;>simp
def G2(l:List aH):(DZ fV l).length=l.length:=RI _ _
def abx{A:Type}{xs a:List A}{i:Nat}{z:A}(h:i<xs.length):(xs++a).getD i z=xs.getD i z:=by
 rw[getD,getD,getElem?_append_left h]
def XJ(l:List aH)(hl:l.length<2^28):Sq 48 [] [.sl 3 (l.map aH.cells)] [.own 3 ((tV l).1.map aH.cells)] (.bD [.ref 0,.I (tV l).2]):=by
 have M:=CZ l aj;have R:=Er l aj;have P:=RF fV 128 TP l aj;have L:=λw c=>VP w c l aj;refine aX 50 1 [.tmp 2,.tmp 3] mixed func48 ?_;refine sc aK M ?_;cases K:kV l
 ·simp only[go_sem,seval,tV,K]<;>simp
 have Q:tV l=Bx l (Kp l) []:=by rw[tV,K,au rfl]
 rw[Q];clear Q M;have f:=JI pQ 132 V7 (DZ fV l) (by rw[G2];omega);have s:=LK pQ (DZ fV l);have J:=G2 l;unfold Kp;obtain⟨T,U⟩:=aL (DZ fV l);rw[<-U]at P f s J |-;obtain⟨Z,C⟩:=aL (DQ pQ T);rw[<-C]at f s |-;refine so aK R ?_;refine sg [240] aK P ?_;refine az.iw [] [240] false sT ?_;refine s0 ?_;have z:=TT l;rcases Nat.eq_or_lt_of_le s with hk|hk
 ·have f:=f _ _ (λ_=>⟨rfl,rfl⟩) (λh=>absurd hk aj);have v:T.map aH.cells=Z.map aH.cells:=by
   rw[C];have k:∀(p:aH)(r:List aH),(yK pQ p r).length=r.length->yK pQ p r=r:=by
    intro p r;induction r generalizing p with
    |nil=>intro _;rfl
    |cons y r ih =>
     intro h;unfold yK at h |-;split at h
     ·have:=Fp pQ y r;simp only[length_cons]at h;omega
     ·rename_i V;rw[aq V];rw[ih y (su h)]
   cases T with
   |nil=>rfl
   |cons x r=>rw[DQ,k x r (by rw[C]at hk;simpa[DQ]using hk)]
  have B:T.length=Z.length:=hk.symm;rw[v]at f;rw[v];refine dL.ij f ?_;refine sm B ?_;refine aG.rT (S:=List aH) Z.length [0,19,20] [240] (λi _=>[(21,.I i),(5,.ref 768)]) (λi o=>[(768,.own 3 (o.map aH.cells))]) (λi o=>o.length<=i/\Bx l (Z.drop i) o=Bx l Z []) [] ⟨fO _,rfl⟩ ?_ ?_ ?_
  ·exact jh
  ·intro i o g n e a;obtain⟨u,a⟩:=a;have t:=aM (c:=aH.cells) Z g;have F:(i:Int)<(Z.length:Int):=aj
   rw[dI g,Bx]at a;obtain⟨d,E⟩:=aL (Z[i]);rw[<-E]at t a;have m:=L d.who d.cur;have H:=z d;simp only[aH.cells]at t;refine sc (a2 n t) m ?_;cases b:gR d.who d.cur l==0
   ·have k:gR d.who d.cur l≠0:=su b;rw[aq k]at a;rw[<-a];exact gH (a2 dV b)
   ·have k:gR d.who d.cur l=0:=su b;rw[au k]at a;cases j:jF d.who d.cur l==0
    ·rw[xu,j,aq sD]at a;refine sm (a4 dV b j e) ?_;refine aV ?_;refine ah.jP (o++[⟨d.who,d.cur,jF d.who d.cur l⟩]) g ⟨by rw[ct];simp only[length_cons,length_nil];omega,a⟩ ?_;simp only[go_sem,seval,jv,map_cons,map_nil]
    ·rw[xu,j,au rfl,append_nil]at a;refine sm (a4 dV b j e) ?_;refine aV ?_;refine ah.jP o g ⟨by omega,a⟩ ?_;exact iB
  ·intro o q a;obtain⟨u,a⟩:=a;rw[jJ,Bx]at a;rw[<-a];exact gH q
 ·have f:=f _ _ (λh=>absurd hk aj) (λ_=>⟨rfl,rfl⟩);obtain⟨O,N⟩:∃O:List (List D),O=replicate (T.length-Z.length) [D.I 0,D.I 0,D.I 0]:=⟨_,rfl⟩
  have A:O.length=T.length-Z.length:=by rw[N,length_replicate]
  rw[<-N]at f;refine dL.ij f ?_;simp only[go_sem,seval,ct];refine aG.rT (S:=List aH) Z.length [0,19,20] [240] (λi _=>[(21,.I i),(5,.ref 768)]) (λi o=>[(768,.own 3 (o.map aH.cells))]) (λi o=>o.length<=i/\Bx l (Z.drop i) o=Bx l Z []) [] ⟨fO _,rfl⟩ ?_ ?_ ?_
  ·exact jh
  ·intro i o g n e a;obtain⟨u,a⟩:=a;have t:=aM (c:=aH.cells) Z g;have F:(i:Int)<(Z.length:Int):=aj
   rw[dI g,Bx]at a;obtain⟨d,E⟩:=aL (Z[i]);rw[<-E]at t a;have m:=L d.who d.cur;have H:=z d;simp only[aH.cells]at t;have G:(Z.map aH.cells++O).getD i []=[.I d.who,.I d.cur,.I d.bT]:=by rw[abx (by rw[qO];exact g)];exact t
   simp only[go_sem,seval,n,G,ct,A];refine sc aK m ?_;cases b:gR d.who d.cur l==0
   ·have k:gR d.who d.cur l≠0:=su b;rw[aq k]at a;rw[<-a];exact gH (a2 dV b)
   ·have k:gR d.who d.cur l=0:=su b;rw[au k]at a;cases j:jF d.who d.cur l==0
    ·rw[xu,j,aq sD]at a;refine sm (a4 dV b j e) ?_;refine aV ?_;refine ah.jP (o++[⟨d.who,d.cur,jF d.who d.cur l⟩]) g ⟨by rw[ct];simp only[length_cons,length_nil];omega,a⟩ ?_;simp only[go_sem,seval,jv,map_cons,map_nil]
    ·rw[xu,j,au rfl,append_nil]at a;refine sm (a4 dV b j e) ?_;refine aV ?_;refine ah.jP o g ⟨by omega,a⟩ ?_;exact iB
  ·intro o q a;obtain⟨u,a⟩:=a;rw[jJ,Bx]at a;rw[<-a];exact gH q
def y8{a b:aH}:fV a b=false↔¬(a.who<b.who\/(a.who=b.who/\a.cur<b.cur)):=by rw[<-fm];simp
def qC{a b:aH}:pQ a b=true↔a.who=b.who/\a.cur=b.cur:=by simp[pQ]
theorem Ph(f:Bool)(last:aH):∀(l:List aH)(s:Bool×aH),(∀d∈l,(f||fV last d)=true->(jr f last l s).1=true/\fV d (jr f last l s).2=false)/\(s.1=true->(jr f last l s).1=true/\fV s.2 (jr f last l s).2=false)
 | [],s=>by
  refine⟨λd m=>(by cases m),λh=>⟨h,?_⟩⟩;show fV s.2 s.2=false;rw[y8];omega
 |d::r,s=>by
  obtain⟨i,c⟩:=Ph f last r (if Ak f last s d then(true,d)else s);rw[jr];cases a:Ak f last s d with
  |true =>
   rw[a,au rfl]at i c;rw[au rfl];obtain⟨j,e⟩:=c rfl;refine⟨λx b g=>?_,λn=>⟨j,?_⟩⟩
   ·rcases mem_cons.1 b with rfl|b
    ·exact⟨j,e⟩
    ·exact i x b g
   ·simp only[Ak,cU,n,Bool.not_true,Bool.false_or]at a;have k:=a.2;rw[fm]at k;rw[y8]at e |-;dsimp only at e;omega
  |false =>
   rw[a,aq sD]at i c;rw[aq sD];refine⟨λx b g=>?_,c⟩;rcases mem_cons.1 b with rfl|b
   ·simp only[Ak,g,cz,Bool.or_eq_false_iff,Bool.not_eq_false']at a;obtain⟨j,e⟩:=c a.1;refine⟨j,?_⟩;have k:=a.2;rw[y8]at k e |-;omega
   ·exact i x b g
def acf(l:List aH){a b:aH}(c:a.who=b.who)(d:a.cur=b.cur):xu l a=xu l b:=by unfold xu;rw[c,d]
theorem OP(l:List aH):∀(Z:List aH)(n:Nat)(f:Bool)(last:aH)(out:List aH),Z.length<n->Z.Pairwise (λa b=>fV a b=true)->(∀z∈Z,(f||fV last z)=true/\z∈l)->(∀d∈l,(f||fV last d)=true->∃z∈Z,pQ z d=true)->zq l n f last out=Bx l Z out
 |Z,0,_,_,_,h,_,_,_=>by omega
 | [],n+1,f,last,out,_,_,_,hk=>by
  rw[zq,Bx];cases i:(jr f last l (false,.zero)).1 with
  |false=>rfl
  |true =>
   exfalso;rcases yL i with e| ⟨p,h2⟩
   ·rw[e]at i;cases i
   ·obtain⟨z,o,_⟩:=hk _ p h2;cases o
 |z::Z,n+1,f,last,out,hn,hp,o,hk=>by
  rw[jR]at hp;obtain⟨v,w⟩:=o z sT;obtain⟨i,A⟩:=(Ph f last l (false,.zero)).1 z w v;have c:(jr f last l (false,.zero)).2∈l/\(f||fV last (jr f last l (false,.zero)).2)=true:=by
   rcases yL i with e|h
   ·rw[e]at i;cases i
   ·exact h
  rw[zq,Bx,i,au rfl];obtain⟨s,t⟩:=aL ((jr f last l (false,.zero)).2);rw[<-t]at c A |-;obtain⟨z2,u,C⟩:=hk s c.1 c.2;rw[qC]at C;have x:z2.who=z.who/\z2.cur=z.cur\/fV z z2=true:=by
   rcases mem_cons.1 u with rfl|h
   ·exact .inl ⟨rfl,rfl⟩
   ·exact .inr (hp.1 z2 h)
  have g:s.who=z.who/\s.cur=z.cur:=by
   rw[y8]at A;rcases x with h|h
   ·omega
   ·rw[fm]at h;omega
  rw[acf l g.1 g.2,g.1,g.2];by_cases m:gR z.who z.cur l=0
  ·rw[au m,au m];refine OP l Z n false s _ (by simp only[length_cons]at hn;omega) hp.2 (λy j=>?_) (λd B q=>?_)
   ·have p:=hp.1 y j;refine⟨?_,(o y (by simp[j])).2⟩;rw[Bool.false_or,fm];rw[fm]at p;omega
   ·rw[Bool.false_or]at q;have r:(f||fV last d)=true:=by
     cases f with
     |true=>rfl
     |false =>
      have:=c.2;rw[Bool.false_or]at this |-;rw[fm]at this q |-;omega
    obtain⟨y,j,k⟩:=hk d B r;rcases mem_cons.1 j with rfl|j
    ·rw[qC]at k;rw[fm]at q;omega
    ·exact⟨y,j,k⟩
  ·rw[aq m,aq m]
def YR:Ord fV where
 asy x y h:=by rw[fm]at h;rw[y8];omega
 Ye x y z h1 h2:=by rw[y8]at *;omega
theorem zQ:∀(r:List aH)(p:aH),xP fV (p::r)->(∀z∈yK pQ p r,z∈r/\fV p z=true)/\(∀d∈r,pQ p d=true\/∃z∈yK pQ p r,pQ z d=true)/\(yK pQ p r).Pairwise (λa b=>fV a b=true)
 | [],p,_=>⟨λz c=>(by cases c),λd e=>(by cases e),Pairwise.nil⟩
 |y::r,p,h=>by
  have l:=jR.1 h;obtain⟨i,n,o⟩:=zQ r y l.2;have g:=l.1 y sT;rw[yK];cases m:pQ y p with
  |true =>
   rw[au rfl];rw[qC]at m;refine⟨λz c=>?_,λd e=>?_,o⟩
   ·obtain⟨j,k⟩:=i z c;refine⟨by simp[j],?_⟩;rw[fm]at k |-;omega
   ·rcases mem_cons.1 e with rfl|e
    ·left;rw[qC];omega
    ·rcases n d e with h|h
     ·left;rw[qC]at h |-;omega
     ·exact .inr h
  |false =>
   rw[aq sD];have f:fV p y=true:=by
    have:¬pQ y p=true:=by rw[m];exact sD
    rw[qC]at this;rw[y8]at g;rw[fm];omega
   refine⟨λz c=>?_,λd e=>.inr ?_,?_⟩
   ·rcases mem_cons.1 c with rfl|c
    ·exact⟨by simp,f⟩
    ·obtain⟨j,k⟩:=i z c;refine⟨by simp[j],?_⟩;rw[fm]at f k |-;omega
   ·rcases mem_cons.1 e with rfl|e
    ·exact⟨d,by simp,by rw[qC];exact⟨rfl,rfl⟩⟩
    ·rcases n d e with h| ⟨z,c,he⟩
     ·exact⟨y,by simp,h⟩
     ·exact⟨z,by simp[c],he⟩
   ·exact jR.2 ⟨λz c=>(i z c).2,o⟩
def IS(l:List aH):tV l=lA l:=by
 unfold tV lA;cases kV l
 ·rfl
 rw[au rfl,au rfl];have f:=yO fV l;have e:=I3 YR l;have hlen:=f.length_eq;unfold Kp;have hrl:=LK pQ (DZ fV l);refine(OP l _ _ true .zero [] aj ?_ ?_ ?_).symm
 ·cases c:DZ fV l with
  |nil=>exact Pairwise.nil
  |cons x r =>
   rw[c]at e;obtain⟨i,_,j⟩:=zQ r x e;exact jR.2 ⟨λz b=>(i z b).2,j⟩
 ·intro z b;refine⟨rfl,f.mem_iff.1 ?_⟩;cases c:DZ fV l with
  |nil=>rw[c]at b;cases b
  |cons x r =>
   rw[c]at e b;rcases mem_cons.1 b with rfl|b
   ·simp
   ·simp[((zQ r x e).1 z b).1]
 ·intro d g _;have a:=f.mem_iff.2 g;cases c:DZ fV l with
  |nil=>rw[c]at a;cases a
  |cons x r =>
   rw[c]at e a;rcases mem_cons.1 a with rfl|a
   ·exact⟨d,by simp[DQ],by rw[qC];exact⟨rfl,rfl⟩⟩
   ·rcases(zQ r x e).2.1 d a with h| ⟨z,b,he⟩
    ·exact⟨x,by simp[DQ],h⟩
    ·exact⟨z,by simp[DQ,b],he⟩
def Ku(d:aH):Bool:=aI.right ⟨2,d.who,d.cur⟩&&bA d.bT
def wD(l:List aH):List aN×Int:=if l.all Ku then(if(tV l).2=0 then yc (nV (tV l).1)else([],(tV l).2))else([],3)
def ab1(l:List aH)(hl:l.length<2^27):Sq 49 [] [.sl 3 (l.map aH.cells)] [.own 4 ((wD l).1.map aN.cells)] (.bD [.ref 0,.I (wD l).2]):=by
 have o:=XJ l aj;obtain⟨k,g⟩:=IT l;rw[<-IS]at k g;have p:=Kl (nV (tV l).1) (by have:=yu (tV l).1;omega);unfold wD;obtain⟨m,b⟩:=aL ((tV l).1);obtain⟨e,t⟩:=aL ((tV l).2);rw[<-b]at o k g p;rw[<-t]at o;rw[<-b,<-t];clear b t;refine aX 72 1 [.tmp 2,.tmp 3] mixed func49 ?_;refine s0 ?_;refine aG.w1 l.length 13 [0,11,12] [208] (λi _=>(l.drop i).all Ku=l.all Ku) rfl ?_ ?_
 ·intro i _ h j n a;have b:=aM (c:=aH.cells) l h;have y:(i:Int)<(l.length:Int):=aj
  obtain⟨x,r⟩:=aL (l[i]);have A:=qU ⟨2,x.who,x.cur⟩;have s:=eH [x.bT] sT;rw[zN]at s;simp only[ints,map_cons,map_nil]at s;rw[dI h,<-r,all_cons,Ku]at a;rw[<-r]at b;simp only[aH.cells]at b;simp only[aI.cells]at A;clear o p;refine sc (a2 j b) A ?_;cases q:aI.right ⟨2,x.who,x.cur⟩
  ·rw[q,dU,dU]at a;rw[<-a];exact jh
  refine sl aK s ?_;cases B:bA x.bT
  ·rw[q,B,Bool.and_false,dU]at a;rw[<-a];exact jh
  rw[q,B,cz,cz]at a;refine sm n ?_;refine ah.u h a ?_;exact iB
 intro _ f a;rw[jJ]at a;rw[<-a,show([]:List aH).all Ku=true from rfl,au rfl];clear a;refine so f o ?_;by_cases q:e=0
 case neg =>
  have d:(e==0)=false:=su q;simp only[go_sem,seval,bne,d,aq q];all_goals simp
 subst q;rw[au rfl];refine s0 ?_;refine aV ?_;clear o f;refine aG.wv m.length [40,41] [560] (λi=>[(42,.I i),(8,.ref 1072)]) (λi=>[(1072,.own 4 ((nV (m.take i)).map aN.cells))]) ?_ ?_ ?_
 ·simp only[go_sem,seval]<;>simp[nV]
 ·intro i _ h j n _;have b:=aM (c:=aH.cells) m h;have y:(i:Int)<(m.length:Int):=aj
  have z:nV (m.take (i+1))=nV (m.take i)++_:=gU _ h;have g:=yu (m.take i);have hlt:(m.take i).length=i:=by simp;omega
  have w:=bf.1 (k m[i] (dH h));obtain⟨L,C⟩:=aL (nV (m.take i));obtain⟨x,r⟩:=aL (m[i]);rw[<-C]at z g |-;rw[<-r]at z b w;have D:IntKind.wrap .i64 (0-x.bT) = -x.bT:=fU;simp only[aH.cells]at b;clear p;simp only[go_sem,seval,ct,length_cons,length_nil,j,b,D,n];refine aV ?_;refine ah.v h ?_;exact gH z
 ·intro _ f _;simp only[go_sem,seval,f,eU];refine aV ?_;refine az.iw [1072] [] false sT ?_;refine s0 ?_;refine dL.ij p ?_;exact iB
def acj(h:∀x:aI,x.right=true->x∈gf)(i:gf.Pairwise λa b=>a.less b=true)(l:List aH):wD l=(kP l,ou l):=by
 have e:tV l=lA l:=IS l;unfold wD kP ou;rw[e];have d:l.all Ku=(AP l&&kV l):=by
  unfold AP kV;induction l with
  |nil=>rfl
  |cons x r ih =>
   have:=ih (IS r);simp only[all_cons,Ku]at this |-;rw[this];cases aI.right ⟨2,x.who,x.cur⟩<;>cases bA x.bT<;>simp
 rw[d];cases h1:AP l
 ·rfl
 ·cases g:kV l
  ·have c:(lA l).2=3:=by rw[lA,g];rfl
   rw[c];rfl
  ·by_cases c:(lA l).2=0
   ·rw[Bool.and_self,au rfl,au c,au rfl,au c,Kj h i];by_cases f:nq (nV (lA l).1)=0
    ·rw[au f]
    ·rw[aq f,kj,aq f]
   ·rw[Bool.and_self,au rfl,aq c,au rfl,aq c,aq c]
def acN(r:ay)(p:aE):Int:=if bE r p.inst then(if !eG (aU r p.inst)&&!(p.aQ==0)then 20 else 0)else 10
def acO(r:ay)(p:aE):Int:=if bE r p.inst then bC (aU r p.inst)else 0
def Wg(r:ay)(p:aE)(h:r.small):Sq 121 [] [.agg r.cells,.agg p.cells] [] (.bD [.agg (aU r p.inst).cells,.I (acO r p),.I (acN r p)]):=by
 have a:=pX r p.inst h;have b:=Bt (aU r p.inst);unfold acN acO;obtain⟨x,e⟩:=aL (aU r p.inst);rw[<-e]at a b |-;simp only[ay.cells,aE.cells,aF.cells]at a b |-;cases d:bE r p.inst
 ·rw[d]at a;refine aX 38 2 [.cell 4 52,.tmp 5,.tmp 6] mixed func121 ?_;exact lX aK a
 rw[d]at a;have f:eG x=false->bC x=0:=by
  intro h;simp only[eG,Bool.not_eq_false',cU,fE]at h;rw[bC,h.1,h.2];rfl
 cases c:eG x
 ·rw[c]at b;rw[f c]at b |-;cases g:p.aQ==0;all_goals
   refine aX 38 2 [.cell 4 52,.tmp 5,.tmp 6] mixed func121 ?_;refine sc aK a ?_;exact lX g b
 ·rw[c]at b;refine aX 38 2 [.cell 4 52,.tmp 5,.tmp 6] mixed func121 ?_;refine sc aK a ?_;exact lX aK b
def afN(r:ay)(b:aJ)(h:r.small)(K:b.small):Sq 47 [] [.agg r.cells,.agg b.cells] [.own 7 ((rV r b).ts.map aT.cells),.own 4 ((rV r b).qs.map aE.cells),.own 3 ((lU r b).map aH.cells)] (.bD [.agg [.I (rV r b).next,.ref 0,.ref 1],.ref 2,.I (oW r b)]):=by
 have c1:=kr r h;have c2:=oc b K;have c3:=λp=>Wg r p h;have t:=K.2;have htl:=K.1;simp only[ay.cells,aJ.cells]at c1 c2 c3 |-;refine aX 104 2 [.cell 4 33,.tmp 5,.tmp 6] mixed func47 ?_;refine sc aK c1 ?_;cases v:r.okB
 ·have e:oW r b=14:=by simp[oW,v]
  simp only[go_sem,seval,bne,rV,lU,e];all_goals simp
 simp only[go_sem,seval,if_true];refine sc aK c2 ?_;cases G:b.okB
 ·have e:oW r b=14:=by simp[oW,v,G]
  simp only[go_sem,seval,bne,rV,lU,e];all_goals simp
 have e:oW r b=lG r b.qs:=by simp[oW,v,G]
 have k:=AK G;simp only[rV,lU];rw[e];clear e c1 c2;simp only[go_sem,seval,if_true];refine aV ?_;refine aG.wu b.qs.length [2,3,4,28,29] [48,64,80] (λi=>[(30,.I i),(8,.ref 1264),(9,.ref 1488)]) (λi=>[(1264,.own 3 (((b.qs.take i).map (pz r)).map aH.cells)),(1488,.own 4 (((b.qs.take i).flatMap (mw r)).map aE.cells))]) (λi=>lG r (b.qs.drop i)=lG r b.qs) rfl ?_ ?_ ?_
 ·exact jh
 ·intro i _ l M R a;have O:=aM (c:=aE.cells) b.qs l;have hli:(i:Int)<(b.qs.length:Int):=aj
  have hlt:(b.qs.take i).length=i:=by simp;omega
  have s:=gU (mw r) l;have t:((b.qs.take i).flatMap (mw r)).length<=i:=by
   have:=gJ (f:=mw r) (m:=1) (λp=>by unfold mw;split<;>simp) (b.qs.take i);omega
  have y:(b.qs.take (i+1)).map (pz r)=(b.qs.take i).map (pz r)++[pz r b.qs[i]]:=by rw[j7 l,jv];rfl
  obtain⟨n1,U,V⟩:=BB (k b.qs[i] (dH l));obtain⟨p,q⟩:=aL (b.qs[i]);obtain⟨Q,A⟩:=aL ((b.qs.take i).flatMap (mw r));obtain⟨L,z⟩:=aL ((b.qs.take i).map (pz r));have hLl:L.length=i:=by rw[z];simp;omega
  have g:=c3 p;have d:=λZ=>x9 (r:=r) (n:=p.inst) v Z;simp only[acN,acO]at g;obtain⟨x,D⟩:=aL (aU r p.inst);rw[dI l,<-q]at a;simp only[lG,yJ,<-D]at a;rw[<-q,<-A]at s;rw[<-q,<-z]at y;rw[<-A]at t;simp only[mw,<-D]at s;simp only[pz,<-D]at y;rw[<-q]at O n1 U V;rw[<-D]at g d;rw[<-A,<-z];simp only[aE.cells]at O g;simp only[aF.cells]at g;clear c3 A z q k;refine sc (a2 M O) g ?_;cases o:bE r p.inst
  ·simp only[o,iI,if_false]at a;have j:lG r b.qs=10:=a.symm;refine sm (a2 o j) ?_;all_goals simp
  simp only[o,if_true]at a;have d:=d o;have P:=Hp d;have hmu:=(qq d).1;cases E:(!eG x&&!(p.aQ==0))
  case true =>
   simp only[E,if_true]at a;have j:lG r b.qs=20:=a.symm;refine sm (a3 o E j) ?_;all_goals simp
  simp only[E,iI,if_false]at a;have H:=Mj p x.mult (bC x) ⟨n1,U⟩ V aj P;have T:=oG p.aQ (bC x) ⟨by omega,by omega⟩ ⟨by omega,by omega⟩;have J:=oZ (p.aQ*bC x);simp only[wd]at J;obtain⟨W,B⟩:=aL (gN p x.mult (bC x));obtain⟨C,w⟩:=aL (p.aQ*bC x);rw[<-B]at H;rw[<-w]at T J;rw[<-B,<-w]at a;rw[<-w]at s;rw[<-B]at y;simp only[aE.cells]at H;clear B w;simp only[go_sem,seval,o,E,if_true];refine sc aK H ?_;cases F:bA W
  ·simp only[F,dU,iI,if_false]at a;have j:lG r b.qs=1:=a.symm;refine sm (a2 F j) ?_;all_goals simp
  simp only[go_sem,seval,if_true];refine sc aK T ?_;refine sc aK J ?_;cases S:bA C
  ·simp only[F,S,Bool.and_false,iI,if_false]at a;have j:lG r b.qs=1:=a.symm;refine sm (a2 S j) ?_;all_goals simp
  simp only[F,S,Bool.and_self,if_true]at a
  cases X:p.aQ==0<;>cases Y:C==0<;>(
   simp only[X,Y,Bool.and_self,Bool.and_false,dU,iI,if_false,if_true,append_nil]at s;refine sm (a4 dV X Y R) ?_;refine aV ?_;try refine ah.u l a ?_
   try simp only[go_sem,seval,s,y])
  all_goals simp
 ·intro _ N a;rw[jJ]at a;have j:lG r b.qs=0:=a.symm;simp only[go_sem,seval,N,j,eU];exact RS
def Nu(r:ay)(h:r.jQ):Sq 148 [] [.agg r.cells] [.own 12 (r.ns.map aF.cells)] (.agg [.sl 3 (r.ms.map av.cells),.ref 0,.sl 4 (r.xs.map aD.cells)]):=by
 obtain⟨a,b,c⟩:=h;have c1:=xV r.ms a;have c2:=CT r.ns b;have c3:=uh r.xs c;simp only[ay.cells];refine aX 13 1 [.cell 2 29] mixed func148 ?_;refine sc aK c1 ?_;refine so aK c2 ?_;exact lX aK c3
def ady(r:ay)(h:r.jQ):Sq 52 [] [.agg r.cells] [.own 12 (r.ns.map aF.mY |>.map aF.cells)] (.agg [.sl 3 (r.ms.map av.cells),.ref 0,.sl 4 (r.xs.map aD.cells)]):=by
 have c4:=Nu r h;have hl:=h.2.1;simp only[ay.cells]at c4 |-;refine aX 37 1 [.cell 2 29] mixed func52 ?_;refine so aK c4 ?_;refine aV ?_;refine aG.wv r.ns.length [1,2,8] [48] (λi=>[(9,.I i)]) (λi=>[(32,.box [.sl 3 (r.ms.map av.cells),.ref 336,.sl 4 (r.xs.map aD.cells)]),(336,.own 12 ((qx aF.mY r.ns i).map aF.cells))]) ?_ ?_ ?_
 ·simp only[go_sem,seval,Ch]<;>simp
 ·intro i _ e m j _;have b:=tU aF.mY r.ns i;have hi2:i<(qx aF.mY r.ns i).length:=aj
  have f:=aM (c:=aF.cells) (qx aF.mY r.ns i) hi2;have l:=ES aF.mY e;have d:=Bv aF.mY e;have a:=OO aF.mY e;have hli:(i:Int)<(r.ns.length:Int):=aj
  obtain⟨x,p⟩:=aL (r.ns[i]);rw[l]at f;rw[<-p]at f d a;obtain⟨M,o⟩:=aL (qx aF.mY r.ns i);rw[<-o]at f d a b |-;simp only[aF.cells]at f;refine sm (a3 b m f) ?_;refine aV ?_;cases k:x.set==0
  ·have d:M.set i { x with aS:=x.set,set:=0 }=qx aF.mY r.ns (i+1):=by rw[<-d];simp only[aF.mY,k];rfl
   have g:∀Z,((M.map aF.cells).set i Z).getD i []=Z:=λZ=>by simp[b,e]
   refine sm (a5 dV k b f (a2 j g)) ?_
   and_intros<;>first|exact .dq|omega|skip
   all_goals first
    | (simp only[length_set,qO];omega)
    | (refine ah.v e ?_
       simp only[go_sem,seval,<-d,map_set,set_set,g])
  ·have a:=a (by simp[aF.mY,k]);refine sm (a3 dV k j) ?_;refine ah.v e ?_;simp only[go_sem,seval,a]
 ·intro _ n _;have b:=tU aF.mY r.ns r.ns.length;simp only[go_sem,seval,b,n,Bu]
def acZ(r:ay)(b:aJ)(h:r.small)(a:b.small):Sq 47 [] [.agg r.cells,.agg b.cells] [] (.bD [.agg (rV r b).cells,.sl 3 ((lU r b).map aH.cells),.I (oW r b)]):=by
 refine Spec.frozen (afN r b h a) [0,1,2] rfl ?_;intro r;rcases r with _| _| _|r<;>rfl
def acg(l:List aH)(a:l.length<2^28):Sq 48 [] [.sl 3 (l.map aH.cells)] [] (.bD [.sl 3 ((tV l).1.map aH.cells),.I (tV l).2]):=by
 refine Spec.frozen (XJ l a) [0] rfl ?_;intro r;rcases r with _|r<;>rfl
def QK(l:List aH)(a:l.length<2^27):Sq 49 [] [.sl 3 (l.map aH.cells)] [] (.bD [.sl 4 ((wD l).1.map aN.cells),.I (wD l).2]):=by
 refine Spec.frozen (ab1 l a) [0] rfl ?_;intro r;rcases r with _|r<;>rfl
def Nt(r:ay)(h:r.jQ):Sq 52 [] [.agg r.cells] [] (.agg (sB r).cells):=by
 refine Spec.frozen (ady r h) [0] rfl ?_;intro r;rcases r with _|r<;>rfl
def zS:af:=⟨0,0,0,⟨[],[],[]⟩,⟨0,[],[]⟩,⟨0,[]⟩,[],[],[],[]⟩
def WJ(s:af):List aH:=(tV (lU s.ak s.book)).1
def X8(s:af):List aN:=(wD (WJ s)).1
def stI(s:af):Int:=IntKind.wrap .i64 (s.bp.last+1)
def afY(s:af):bu:=if(X8 s).length=0 then s.bp else rF s.bp (stI s) (X8 s)
def afX(s:af):Int:=if(X8 s).length=0 then 0 else nN s.bp (stI s) (X8 s)
def stE(s:af)(a:Int):Int:=if a=0 then(if oW s.ak s.book=0 then(if(tV (lU s.ak s.book)).2=0 then(if(wD (WJ s)).2=0 then afX s else(wD (WJ s)).2)else(tV (lU s.ak s.book)).2)else oW s.ak s.book)else a
def stS(s:af)(a:Int):af:=if stE s a=0 then{ s with phase:=1,ak:=sB s.ak,book:=rV s.ak s.book,bp:=afY s }else zS
def stD(s:af)(a:Int):List aH:=if stE s a=0 then WJ s else[]
def ZY(r:ay)(b:aJ):(lU r b).length<=b.qs.length:=by
 unfold lU;split<;>simp
theorem TQ(l:List aH):∀(Z out:List aH),(Bx l Z out).1.length<=out.length+Z.length
 | [],out=>by simp[Bx]
 |d::r,out=>by
  unfold Bx;split
  ·have a:=TQ l r (out++xu l d);have h2:=TT l d;rw[ct]at a;rw[length_cons];omega
  ·simp
def TU(l:List aH):(tV l).1.length<=l.length:=by
 unfold tV;split
 ·have a:=TQ l (Kp l) [];have b:=LK pQ (DZ fV l);rw[G2]at b;unfold Kp at a;simp only[length_nil]at a;unfold Kp;omega
 ·simp
def Zs(l:List aH):(wD l).1.length<=2*l.length:=by
 unfold wD;split
 ·split
  ·have h1:=Oz (nV (tV l).1);have h2:=yu (tV l).1;have h3:=TU l;omega
  ·simp
 ·simp
def UK(s:af)(r:s.small)(hq:s.book.qs.length<2^24)(K:s.bp.bs.length<2^28)(A:∀x∈s.aR,mC x)(b:Int)(m:Sq 46 [] [.agg s.cells,.I 0] [] (.I b)) :
  Sq 13 [] [.agg s.cells] [] (.bD [.agg (stS s b).cells,.sl 3 ((stD s b).map aH.cells),.I (stE s b)]):=by
 have c2:=uO s r A;have c3:=acZ s.ak s.book r.ak.small r.book;have w:=ZY s.ak s.book;have c4:=acg (lU s.ak s.book) aj;have z:=TU (lU s.ak s.book);have p:=QK (WJ s) (by unfold WJ;omega);have y:=Zs (WJ s);have g:=EN s.bp (stI s) (X8 s) K (by unfold X8 WJ at *;omega);have q:=Nt s.ak r.ak;have l:(X8 s).length<2^27:=by unfold X8 WJ at *;omega
 obtain⟨F,a⟩:=aL (stE s b);have h:=a;simp only[stE,afX]at a;simp only[stS,stD,<-h,afY];clear h;rw[show(tV (lU s.ak s.book)).1=WJ s from rfl]at c4;rw[show(wD (WJ s)).1=X8 s from rfl]at p;simp only[af.cells]at m c2 |-;simp only[aJ.cells,ay.cells]at c3;simp only[ay.cells]at q;simp only[bu.cells]at g;obtain⟨N,E⟩:=aL (WJ s);obtain⟨G,v⟩:=aL (X8 s);obtain⟨ne,n⟩:=aL ((tV (lU s.ak s.book)).2);obtain⟨D,f⟩:=aL ((wD (WJ s)).2);obtain⟨RD,j⟩:=aL (lU s.ak s.book);obtain⟨RB,i⟩:=aL (rV s.ak s.book);obtain⟨H,o⟩:=aL (oW s.ak s.book);obtain⟨C,c⟩:=aL (nN s.bp (stI s) (X8 s));obtain⟨PL,e⟩:=aL (rF s.bp (stI s) (X8 s));obtain⟨TR,k⟩:=aL (sB s.ak);rw[<-c,<-e]at g;rw[<-c]at a;rw[<-e];rw[<-f,<-v]at p;rw[<-f]at a;rw[<-n]at c4 a;rw[<-E]at c4 p |-;rw[<-v]at g a l |-;rw[<-j]at c3 c4;rw[<-i]at c3 |-;rw[<-o]at c3 a;rw[<-k]at q |-;clear E v n f j i o c e k z w y;simp only[stI]at g;refine aX 79 1 [.cell 2 42,.tmp 3,.tmp 4] mixed func13 ?_;refine sc aK m ?_;by_cases t:b=0
 case neg =>
  have d:(b==0)=false:=su t;rw[aq t]at a;rw[a];simp only[go_sem,seval,bne,d,aq t,zS];all_goals rfl
 subst t;rw[au rfl]at a;refine sc aK c3 ?_;by_cases k1:H=0
 case neg =>
  have d:(H==0)=false:=su k1;rw[aq k1]at a;rw[a];simp only[go_sem,seval,bne,d,aq k1,zS];all_goals rfl
 subst k1;rw[au rfl]at a;refine sc aK c4 ?_;by_cases k2:ne=0
 case neg =>
  have d:(ne==0)=false:=su k2;rw[aq k2]at a;rw[a];simp only[go_sem,seval,bne,d,aq k2,zS];all_goals rfl
 subst k2;rw[au rfl]at a;refine sc aK p ?_;by_cases k3:D=0
 case neg =>
  have d:(D==0)=false:=su k3;rw[aq k3]at a;rw[a];simp only[go_sem,seval,bne,d,aq k3,zS];all_goals rfl
 subst k3;rw[au rfl]at a;refine sc aK c2 ?_;by_cases u:G.length=0
 ·have d:decide ((0:Int)<(G.length:Int))=false:=lJ;rw[au u]at a;rw[a];simp only[go_sem,seval,d,au u];exact lX aK q
 ·have d:decide ((0:Int)<(G.length:Int))=true:=jw;rw[aq u]at a;rw[a];simp only[go_sem,seval,d,aq u];refine sc aK g ?_;by_cases B:C=0
  case neg =>
   have J:(C==0)=false:=su B;simp only[go_sem,seval,bne,J,aq B,zS];all_goals rfl
  subst B;exact lX aK q
def Mz(b:aJ)(h:b.small):Sq 176 [] [.agg b.cells] [] (.agg b.cells):=by
 have c1:=uj b.ts h.1;have c2:=wY b.qs h.2;simp only[aJ.cells];refine aX 12 1 [.cell 2 33] mixed func176 ?_;refine sc aK c1 ?_;exact lX aK c2
def Jo(b:aJ)(h:b.small):Sq 75 [] [.agg b.cells] [] (.agg (aJ.cells ⟨b.next,[],b.qs⟩)):=by
 have c1:=Mz b h;simp only[aJ.cells]at c1 |-;refine aX 7 1 [.cell 2 33] mixed func75 ?_;refine s0 ?_
 and_intros<;>first|exact .dq|omega|skip
 refine az.aP c1 ?_;simp only[go_sem,seval];all_goals rfl
def opE(s:af)(a:Int):Int:=if a=0 then(if 1099511627776<=s.day then 1 else 0)else a
def opS(s:af)(a:Int):af:=if opE s a=0 then{ s with day:=s.day+1,phase:=0,book:=⟨s.book.next,[],s.book.qs⟩ }else zS
def ZA(s:af)(f:s.small)(g:jB s.day)(c:∀x∈s.aR,mC x)(a:Int)(b:Sq 46 [] [.agg s.cells,.I 2] [] (.I a)) :
  Sq 25 [] [.agg s.cells] [] (.bD [.agg (opS s a).cells,.I (opE s a)]):=by
 have c2:=uO s f c;have c3:=Jo s.book f.book;unfold opS opE;simp only[af.cells]at b c2 |-;simp only[aJ.cells]at c3;refine aX 34 1 [.cell 2 42,.tmp 3] mixed func25 ?_;refine sc aK b ?_;by_cases e:a=0
 case neg =>
  have d:(a==0)=false:=su e;simp only[go_sem,seval,bne,d,aq e,zS];all_goals rfl
 subst e;by_cases k1:1099511627776<=s.day
 ·have d:decide (1099511627776<=s.day)=true:=dw k1;simp only[go_sem,seval,d,au k1,aq (by decide:¬(1:Int)=0),zS];all_goals rfl
 have d:decide (1099511627776<=s.day)=false:=gB k1;have wd:IntKind.wrap .i64 (s.day+1)=s.day+1:=gx (by have:=g.1;omega) aj;simp only[go_sem,seval,d,aq k1,wd];refine sc aK c2 ?_;refine sc aK c3 ?_;simp only[go_sem,seval,wd];all_goals first|rfl|simp
def Uv(r:ay)(w:Int)(h:r.jQ)(f:r.okB=true)(g:gp r w=true):Sq 87 [] [.agg r.cells,.I w,.I 2] [.own 3 ((jU r w 2).ms.map av.cells)] (.bD [.agg [.ref 0,.sl 12 ((jU r w 2).ns.map aF.cells),.sl 4 ((jU r w 2).xs.map aD.cells)],.I 0]):=by
 obtain⟨x,q,p⟩:=yp.1 g;have c:=(fF.1 f).1.2;have o:fj r w=x:=y9 c q p;obtain⟨k,n,a⟩:=getElem_of_mem q;have b:∀i (h:i<k),(r.ms[i]'aj).no<(x.put 2).no:=λi l=>by
  have:=Ay.1 c i k aj n l;rw[a]at this;exact this
 have t:jU r w 2=⟨r.ms.set k (x.put 2),r.ns,r.xs⟩:=by
  have e:CM r w 2=0:=by simp[CM,f,g,within]
  rw[jU,au e,B0 n (λj hj m he=>by have:=b j m;have:(x.put 2).no=x.no:=rfl;omega) (by rw[a];exact p),a]
 rw[t];have c1:=kr r h.small;have c2:=kZ r w h.small;have c3:=iM 2 1 3;have c4:=Fo r h;have d:=BE r.ms (x.put 2) n b (by rw[a];rfl) h.1;rw[f]at c1;rw[o,g]at c2;rw[show within 2 1 3=true from rfl]at c3;obtain⟨M,s⟩:=aL ((r.ms.set k (x.put 2)).map av.cells);rw[<-s]at d |-;simp only[if_true]at c1;simp only[ay.cells,av.cells,av.put]at c1 c2 c4 d |-;refine aX 43 3 [.cell 6 29,.tmp 7] mixed func87 ?_;refine sc aK c1 ?_;refine sc aK c2 ?_;refine sc aK c3 ?_;refine so aK c4 ?_;exact sgx [592] aK d
def Rr(r:ay)(w:Int)(h:r.jQ)(a:r.okB=true)(b:gp r w=true):Sq 87 [] [.agg r.cells,.I w,.I 2] [] (.bD [.agg (jU r w 2).cells,.I 0]):=by
 refine Spec.frozen (Uv r w h a b) [0] rfl ?_;intro r;rcases r with _|r<;>rfl
theorem Pz:∀(l:List aB)(r:ay)(a b:List aB),(nF l (r,a)).1=(nF l (r,b)).1
 | [],_,_,_=>rfl
 |c::t,r,a,b=>Pz t _ _ _
def SS(l:List aB)(c:aB):Bool:=l.any λx=>x.who==c.who
theorem Iz(xs:List aB)(w:Int):dQ xs [w]=xs.filter λc=>!(c.who==w):=by
 induction xs with
 |nil=>rfl
 |cons x r ih =>
  rw[show dQ (x::r) [w]=(if tO [w] x.who then[]else[x])++dQ r [w]from rfl,ih,IP];by_cases q:x.who=w
  ·simp[q]
  ·have:(x.who==w)=false:=su q;simp[q,this]
theorem D4:∀(l:List aB)(r:ay)(a:List aB),(nF l (r,a)).2=a.filter λc=>!SS l c
 | [],_,a=>by
  rw[nF];exact(filter_eq_self.2 (by simp[SS])).symm
 |x::t,r,a=>by
  rw[nF,D4 t];simp only[Iz,filter_filter];congr 1;funext c;simp only[SS,any_cons,Bool.not_or];rw[Bool.and_comm,Bool.beq_comm]
def abV{r:ay}(n:Int)(xs:List aB):(nF (jM n xs) (r,nw n xs)).2=(nF (jM n xs) (r,xs)).2:=by
 rw[D4,D4];have b:nw n xs=xs.filter λc=>!decide (c.till<=n):=by
  induction xs with
  |nil=>rfl
  |cons x t ih =>
   rw[show nw n (x::t)=(if x.till<=n then[]else[x])++nw n t from rfl,ih];by_cases q:x.till<=n<;>simp[q]
 rw[b,filter_filter];refine filter_congr λc d=>?_;cases e:SS (jM n xs) c
 ·have:decide (c.till<=n)=false:=by
   refine gB λa=>?_;have:SS (jM n xs) c=true:=by
    refine any_eq_true.2 ⟨c,mem_flatMap.2 ⟨c,d,by rw[au a];simp⟩,by simp⟩
   rw[e]at this;cases this
  simp[this]
 ·simp
def Sz(s:af)(n:Int)(hr:s.right)(w:s.small)(k:∀x∈s.aR,mC x)(hn:jB n):Sq 34 [] [.agg s.cells,.I n] [.own 3 ((qK s n).map aH.cells)] (.bD [.agg (jc s n).cells,.ref 0,.I (pF s n)]):=by
 have c1:=kX s w;have j:=bU.2 hr;rw[j]at c1;simp only[if_true]at c1;have q:pF s n=if within n 1 1000 then(if 1099511627776<s.now+n then 1 else 0)else 3:=by rw[pF,j];rfl
 have hclk:=hr.HT;simp only[af.cells]at c1 |-;refine aX 91 2 [.cell 4 42,.tmp 5,.tmp 6] mixed func34 ?_;refine sc aK c1 ?_;by_cases w1:n<1
 ·have o:decide (n<1)=true:=dw w1;have e:pF s n=3:=by rw[q,aq];simp[within];omega
  have e2:jc s n=.zero:=by rw[jc,aq aj]
  have f:qK s n=[]:=by rw[qK,aq aj]
  rw[e,e2,f];simp only[go_sem,seval,o]<;>simp[af.zero,pl]
 have o:decide (n<1)=false:=gB w1;by_cases w2:1000<n
 ·have C:decide (1000<n)=true:=dw w2;have e:pF s n=3:=by rw[q,aq];simp[within];omega
  have e2:jc s n=.zero:=by rw[jc,aq aj]
  have f:qK s n=[]:=by rw[qK,aq aj]
  rw[e,e2,f];simp only[go_sem,seval,o,C]<;>simp[af.zero,pl]
 have C:decide (1000<n)=false:=gB w2;have A:IntKind.wrap .i64 (1099511627776-n)=1099511627776-n:=gx aj aj;by_cases w3:1099511627776-n<s.now
 ·have H:decide (1099511627776-n<s.now)=true:=dw w3;have e:pF s n=1:=by rw[q,au (by simp[within];omega),au aj]
  have e2:jc s n=.zero:=by rw[jc,aq aj]
  have f:qK s n=[]:=by rw[qK,aq aj]
  rw[e,e2,f];simp only[go_sem,seval,o,C,A,H]<;>simp[af.zero,pl]
 have H:decide (1099511627776-n<s.now)=false:=gB w3;have e:pF s n=0:=by rw[q,au (by simp[within];omega),aq aj]
 have c2:=uO s w k;have c3:=Zc (s.now+n) s.calls w.calls;have e2:jc s n={ s with now:=s.now+n,ak:=(nF (jM (s.now+n) s.calls) (s.ak,nw (s.now+n) s.calls)).1,calls:=(nF (jM (s.now+n) s.calls) (s.ak,nw (s.now+n) s.calls)).2 }:=by
  rw[jc,au e,abV,Pz _ _ s.calls (nw (s.now+n) s.calls)]
 have f:qK s n=(jM (s.now+n) s.calls).map aB.due:=by rw[qK,au e]
 have z:∀c∈jM (s.now+n) s.calls,bF s.ak c.who≠0:=λc h=>by
  obtain⟨x,hx,h⟩:=mem_flatMap.1 h;split at h
  ·obtain rfl:=iD.1 h;have:=hr.known.cs _ hx;omega
  ·cases h
 have Q:(jM (s.now+n) s.calls).length<=1*s.calls.length:=gJ (λx=>by split<;>simp) _;have T:(nw (s.now+n) s.calls).length<=1*s.calls.length:=gJ (λx=>by split<;>simp) _;have hsc:=w.calls;have V:=w.ak;rw[e,e2,f];obtain⟨l,u⟩:=aL (jM (s.now+n) s.calls);obtain⟨b,t⟩:=aL (nw (s.now+n) s.calls);obtain⟨N,D⟩:=aL (s.now+n);have X:IntKind.wrap .i64 (s.now+n)=N:=by rw[D];exact gx aj aj
 rw[<-D]at c3 u t |-;rw[<-u,<-t]at c3;rw[<-D,<-u]at z Q;rw[<-D,<-t]at T;rw[<-u,<-t];obtain⟨R,hR⟩:=aL (nF l (s.ak,b));rw[<-hR];simp only[af.cells,ay.cells]at c2 |-;clear q j e e2 f c1 u t w1 w2 w3;refine sc (a5 o C A H X) c2 ?_;refine sc aK c3 ?_;refine aV ?_;refine aG.rT (S:=ay×List aB) l.length [4,8,55,56] [80,848,912] (λi x=>[(57,.I i),(11,.ref 1056),(10,.sl 4 (x.2.map aB.cells))])
  (λi x=>[(1056,.own 3 (((l.take i).map aB.due).map aH.cells)),(144,.box [.I N,.I s.day,.I s.phase,.sl 3 (x.1.ms.map av.cells),.sl 12 (x.1.ns.map aF.cells),.sl 4 (x.1.xs.map aD.cells),.I s.book.next,.sl 7 (s.book.ts.map aT.cells),.sl 4 (s.book.qs.map aE.cells),.I s.bp.last,.sl 4 (s.bp.bs.map bY.cells),.sl 3 (pl s.ps),.sl 4 (s.calls.map aB.cells),.sl 5 (s.aZ.map bn.cells),.sl 7 (s.aR.map bZ.cells)])])
  (λi x=>nF (l.drop i) x=R/\x.1.jQ/\x.2.length<2^30/\x.1.okB=true/\∀c∈l.drop i,bF x.1 c.who≠0) (s.ak,b) ⟨hR.symm,V,by show b.length<2^30;omega,hr.ak,z⟩ ?_ ?_ ?_
 ·exact jh
 ·intro i x E K Y J;obtain⟨r,cs⟩:=x;obtain⟨d,Z,i3,F,B⟩:=J;simp only at Z i3 F;have U:=aM (c:=aB.cells) l E;have hli:(i:Int)<(l.length:Int):=aj
  rw[drop_eq_getElem_cons E]at d B;have m:=B _ (mem_cons_self ..);have a:((l.take (i+1)).map aB.due).map aH.cells=((l.take i).map aB.due).map aH.cells++[aH.cells l[i].due]:=by rw[j7 E,jv,jv];rfl
  have L:(((l.take i).map aB.due).map aH.cells).length=i:=by simp;omega
  obtain⟨y,hy⟩:=aL (l[i]);rw[<-hy]at U d B m a;obtain⟨O,hO⟩:=aL (((l.take i).map aB.due).map aH.cells);rw[<-hO]at a L |-;have c4:=FO cs [y.who] i3 sT;have G:=Rr r y.who Z F ((tc F).1 m);have v:=Cn F m (p:=2) aj;obtain⟨p1,p2,_⟩:=La v;simp only[nF]at d;have g:nF (l.drop (i+1)) (jU r y.who 2,dQ cs [y.who])=R/\(jU r y.who 2).jQ/\(dQ cs [y.who]).length<2^30/\(jU r y.who 2).okB=true/\∀c∈l.drop (i+1),bF (jU r y.who 2) c.who≠0:=
   ⟨d,Pb Z _ _,Nat.lt_of_le_of_lt (FN _ _) i3,p1,λc h=>by
    rw[p2];split
    ·decide
    ·exact B c (mem_cons_of_mem _ h)⟩
  simp only[aB.cells]at U;simp only[ints,map_cons,map_nil,ay.cells]at c4 G;simp only[aB.due,aH.cells]at a;obtain⟨W,hW⟩:=aL (dQ cs [y.who]);obtain⟨P,hP⟩:=aL (jU r y.who 2);rw[<-hW]at c4 g;rw[<-hP]at G g;clear hy hO hW hP d B p1 p2 v;refine sm (a2 K U) ?_;refine aV ?_;refine az.iw [1136] [] false sT ?_;refine s0 ?_;refine dL.ij c4 ?_;refine sc Y G ?_;refine aV ?_;refine ah.jP (P,W) E ?_ ?_
  ·exact g
  exact eo a
 ·intro x M J;obtain⟨r,cs⟩:=x;obtain⟨d,_⟩:=J;rw[jJ]at d;simp only[nF]at d;rw[<-d];simp only[go_sem,seval,M,eU]
def Qj(s:af)(n:Int)(hr:s.right)(c:s.small)(a:∀x∈s.aR,mC x)(b:jB n):Sq 34 [] [.agg s.cells,.I n] [] (.bD [.agg (jc s n).cells,.sl 3 ((qK s n).map aH.cells),.I (pF s n)]):=by
 refine Spec.frozen (Sz s n hr c a b) [0] rfl ?_;intro r;rcases r with _|r<;>rfl
def AW(s:af)(p:Int)(a:s.small)(hr:s.right):Sq 46 [] [.agg s.cells,.I p] [] (.I (if s.phase=p then 0 else 15)):=by
 have c1:=kX s a;rw[bU.2 hr]at c1;simp only[if_true]at c1;simp only[af.cells]at c1 |-;refine aX 18 2 [.tmp 4] mixed func46 ?_;by_cases h:s.phase=p
 ·have q:(s.phase==p)=true:=su h;rw[au h];refine sc aK c1 ?_;exact eo (a2 dV q)
 ·have q:(s.phase==p)=false:=su h;rw[aq h];refine sc aK c1 ?_;exact eo (a2 dV q)
def ac1(s:af):(oX s).2=if ou (eJ s)=0 then(if(kP (eJ s)).length=0 then 0 else fM s.bp (nextId s.bp) (kP (eJ s)))else ou (eJ s):=by
 unfold oX gD;by_cases h:ou (eJ s)=0
 ·by_cases a:kP (eJ s)=[]
  ·rw[aq λk=>k.2 a,au h,a,h];rfl
  ·rw[au ⟨h,a⟩,au h,aq λk=>a (eq_nil_of_length_eq_zero k)]
 ·rw[aq λk=>h k.1,aq h]
def ap1{s:af}(h:ou (eJ s)=0):(oX s).1=if(kP (eJ s)).length=0 then s.bp else jO s.bp (nextId s.bp) (kP (eJ s)):=by
 unfold oX gD;by_cases a:kP (eJ s)=[]
 ·rw[aq λk=>k.2 a,a];rfl
 ·rw[au ⟨h,a⟩,aq λk=>a (eq_nil_of_length_eq_zero k)]
def st_eq{s:af}(hr:s.right):stE s (if s.phase=0 then 0 else 15)=cu s/\stS s (if s.phase=0 then 0 else 15)=bz s/\stD s (if s.phase=0 then 0 else 15)=jV s:=by
 have k:=bU.2 hr;have j:=IS (lU s.ak s.book);have c:WJ s=eJ s:=by rw[WJ,eJ,j]
 have i:=acj (λ_ h=>oa.2 h) uH (eJ s);have f:X8 s=kP (eJ s):=by rw[X8,c,i]
 have l:=post_eq (λ_ h=>oa.2 h) uH (λbs h=>QD.1 h) s.bp (stI s) (kP (eJ s));have g:stI s=nextId s.bp:=rfl;have d:afX s=if(kP (eJ s)).length=0 then 0 else fM s.bp (nextId s.bp) (kP (eJ s)):=by rw[afX,f,l.1,g]
 have e:afY s=if(kP (eJ s)).length=0 then s.bp else jO s.bp (nextId s.bp) (kP (eJ s)):=by rw[afY,f,l.2,g]
 have b:stE s (if s.phase=0 then 0 else 15)=cu s:=by
  unfold stE cu;rw[k,au rfl,ac1,c,i,d,j];by_cases h:s.phase=0
  ·rw[au h,au rfl,au h]
  ·rw[aq h,aq (by decide),aq h]
 have m:cu s=0->ou (eJ s)=0:=λh=>by
  unfold cu at h;rw[k,au rfl,ac1]at h;split at h
  ·split at h
   ·split at h
    ·split at h
     ·assumption
     ·exact h
    ·rename_i a;exact absurd h a
   ·rename_i a;exact absurd h a
  ·cases h
 refine⟨b,?_,?_⟩
 ·unfold stS bz;rw[b];split
  ·rename_i h;rw[e,ap1 (m h)]
  ·rfl
 ·unfold stD jV;rw[b,c]
def op_eq{s:af}(hr:s.right):opS s (if s.phase=2 then 0 else 15)=oz s/\opE s (if s.phase=2 then 0 else 15)=mI s:=by
 have b:opE s (if s.phase=2 then 0 else 15)=mI s:=by
  have hk:=hr.HT;unfold opE mI;rw[bU.2 hr,au rfl];by_cases h:s.phase=2
  ·rw[au h,au rfl,au h];by_cases a:s.day=1099511627776
   ·rw[au a,au aj]
   ·rw[aq a,aq aj]
  ·rw[aq h,aq (by decide),aq h]
 refine⟨?_,b⟩;unfold opS oz;rw[b];split<;>rfl
def nG(s:af)(b:s.small)(hr:s.right)(a:∀x∈s.aR,mC x):Sq 13 [] [.agg s.cells] [] (.bD [.agg (bz s).cells,.sl 3 ((jV s).map aH.cells),.I (cu s)]):=by
 have c1:=UK s b (by have:=hr.lens.qs;omega) (by have:=hr.lens.bs;omega) a _ (AW s 0 b hr);obtain⟨c,e2,d⟩:=st_eq hr;rwa[c,e2,d]at c1
def AX(s:af)(b:s.small)(hr:s.right)(a:∀x∈s.aR,mC x):Sq 25 [] [.agg s.cells] [] (.bD [.agg (oz s).cells,.I (mI s)]):=by
 have c1:=ZA s b (by have:=hr.HT;exact⟨by omega,by omega⟩) a _ (AW s 2 b hr);obtain⟨c,e2⟩:=op_eq hr;rwa[c,e2]at c1
def wR:Sq 14 [] [] [] (.bool true):=by
 have a:=Qj (Aw 0 0) 2 (bU.1 (by kernel_rfl)) (Ct _ _) (by simp[Aw]) ⟨by decide,by decide⟩;rw[show jc (Aw 0 0) 2=Aw 2 0 from rfl,show qK (Aw 0 0) 2=[]from rfl,show pF (Aw 0 0) 2=0 from rfl]at a;have b:=nG (Aw 2 0) (Ct _ _) (bU.1 (by kernel_rfl)) (by simp[Aw]);rw[show bz (Aw 2 0)=Aw 2 1 by kernel_rfl,show jV (Aw 2 0)=[]by kernel_rfl,show cu (Aw 2 0)=0 by kernel_rfl]at b;have c:=AX (Aw 2 1) (Ct _ _) (bU.1 (by kernel_rfl)) (by simp[Aw]);rw[show mI (Aw 2 1)=15 by kernel_rfl]at c;simp only[af.cells,Aw,map_nil,pl]at a b c;replace a:=Spec.IQ a (ds':=[.agg [.I 0,.I 0,.I 0,.nil,.nil,.nil,.I 0,.nil,.nil,.I 0,.nil,.nil,.nil,.nil,.nil],.I 2]) (by simp[nM,nT]);refine aX 48 0 [.tmp 0] mixed func14 ?_;refine sc aK a ?_;refine sc aK b ?_;exact lX aK c
def zT{s:af}(h:M3 s)(a:cu s=0):M3 (bz s):=by
 have e:(bz s).aR=s.aR:=by unfold bz;rw[au a]
 exact⟨⟨Fu a,Pk h.fY.last a,by rw[e];exact h.fY.fit⟩,by rw[e];exact h.sm⟩
theorem Xq(w c:Int)(l:List aH):aC (rj w c l)=tot l (λd=>if d.who=w/\d.cur=c then d.bT else 0):=by
 induction l with
 |nil=>rfl
 |cons d r ih =>
  unfold rj at ih |-;rw[nJ,ih,iU];congr 1;simp only[AZ,cU,fE]
def zR{s:af}(a:cu s=0):s.right/\s.phase=0/\oW s.ak s.book=0/\(lA (lU s.ak s.book)).2=0/\(oX s).2=0:=by
 unfold cu at a;split at a
 case isFalse=>cases a
 rename_i b;split at a
 case isFalse=>cases a
 rename_i c;split at a
 case isFalse hne=>exact absurd a hne
 rename_i d;split at a
 case isFalse hne=>exact absurd a hne
 rename_i e;exact⟨bU.1 b,c,d,e,a⟩
