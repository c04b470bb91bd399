/- Parts. -/
import Derived.Test.YtpepnkihgjjpmaaGreatKE
import Derived.Test.YtpepnkihgjjpmaaGreatKF
set_option linter.all false
set_option maxHeartbeats 4000000
set_option maxRecDepth 16000
namespace Go.Proofs.YtpepnkihgjjpmaaGreat
open Go.Abs Tryz
open List hiding lt max min
def Nu(r:aA)(h:r.jX):Sq 177 [] [.agg r.cells] [] (.agg (Q3 r).cells):=by
 refine Spec.frozen (Qq r h) [0] rfl ?_;intro r;rcases r with _|r<;>rfl
def ku(r:aA)(a:List Int):List Int:=pick (λm:av=>sI a m.state) av.no r.ms
def Ns(r:aA)(b:List Int)(h:r.jX)(hs:b.length<2^30):Sq 178 [] [.agg r.cells,.sl 1 (ints b)] [.own 1 (ints (ku r b))] (.ref 0):=by
 have hl:=h.1;simp only[aA.cells];refine bp 47 2 [.tmp 4] mixed func178 ?_;refine s0 ?_;refine aF.wv r.ms.length [1,2] [48] (λi=>[(6,.I i),(5,.ref 736)]) (λi=>[(736,.own 1 (ints (pick (λm:av=>sI b m.state) av.no (r.ms.take i))))]) ?_ ?_ ?_
 ·simp only[go_sem,seval]<;>simp[pick,ints]
 ·intro i _ n p g _;obtain⟨x,u,o,hli⟩:=oc (c:=av.cells) r.ms n;have a:=fK (λm:av=>sI b m.state) av.no n;have f:=bN (λm:av=>sI b m.state) av.no (r.ms.take i);have hlt:(r.ms.take i).length=i:=by simp;omega
  obtain⟨L,t⟩:=aN (pick (λm:av=>sI b m.state) av.no (r.ms.take i));rw[<-u]at a;rw[<-t]at a f |-;simp only[av.cells]at o;simp only[go_sem,seval,p,az];refine aF.wv b.length [1,2,5,6] [48,736] (λk=>[(8,.I k),(7,.bool (sI (b.take k) x.state))]) (λ_=>[]) ?_ ?_ ?_
  ·simp only[go_sem,seval]<;>simp[sI]
  ·intro k _ e d j _;have a:=Cm b x.state e;have hlk:(k:Int)<(b.length:Int):=ak
   cases s:sI (b.take k) x.state
   ·rw[s,Bool.false_or]at a;simp only[go_sem,seval,az,d,ints_at b e,o,j];refine bg ?_;refine ah.v e ?_;exact dL a
   ·rw[s,Bool.true_or]at a;simp only[go_sem,seval,az,d,ints_at b e,o,j];refine bg ?_;refine ah.v e ?_;exact dL a
  ·intro _ d _;cases l:sI b x.state
   ·rw[l]at a;simp only[go_sem,seval,az,d,eu,l,g];refine bg ?_;refine ah.v n ?_;exact gY a
   ·rw[l]at a;simp only[go_sem,seval,az,d,eu,l,o,g];refine bg ?_;refine ah.v n ?_;exact gY a
 ·intro _ q _;simp only[go_sem,seval,az,q,eu,ku]
def AH(r:aA)(a:List Int)(h:r.jX)(b:a.length<2^30):Sq 178 [] [.agg r.cells,.sl 1 (ints a)] [] (.sl 1 (ints (ku r a))):=by
 refine Spec.frozen (Ns r a h b) [0] rfl ?_;intro r;rcases r with _|r<;>rfl
def bY(w n:Int)(p:aB):Bool:=p.who==w&&p.inst==n
def posOf(w n:Int):List aB->aB
 | []=>⟨w,n,0,0⟩
 |p::r=>if bY w n p then p else posOf w n r
theorem sR(b:aH)(w n:Int)(l:b.small):Sq 87 [] [.agg b.cells,.agg [.int .i64 w,.int .i64 n]] [] (.agg (posOf w n b.qs).cells):=by
 obtain⟨h1,h2⟩:=l;simp only[aH.cells];refine bp 42 2 [.cell 4 74] mixed func87 ?_;refine s0 ?_;refine aF.w1 b.qs.length 5 [2,3,4] [48,64,80] (λi _=>posOf w n (b.qs.drop i)=posOf w n b.qs) rfl ?_ ?_
 ·intro i _ g d f a;obtain⟨x,m,h,hli⟩:=oc (c:=aB.cells) b.qs g;rw[cg g,<-m]at a;simp only[posOf,bY]at a;simp only[aB.cells]at h;cases e:x.who==w
  ·simp only[e,cZ,iM,if_false]at a;refine sm (a4 d h e f) ?_;refine bg ?_;refine ah.u g a ?_;exact jq
  cases j:x.inst==n
  ·simp only[e,j,Bool.and_false,iM,if_false]at a;refine sm (a5 d h e j f) ?_;refine bg ?_;refine ah.u g a ?_;exact jq
  simp only[e,j,Bool.and_self,if_true]at a;rw[<-a];refine sm (a4 d h e j) ?_;exact Si
 ·intro _ k a;rw[jw]at a;rw[<-a];simp only[go_sem,seval,k,posOf]
def WJ(n:Int)(t:aR):Bool:=t.no==n&&!t.off
def j6(n:Int):List aR->Int
 | []=>-1
 |t::r=>if WJ n t then 0 else if j6 n r<0 then -1 else j6 n r+1
theorem KO{n:Int}:∀{xs:List aR} {i:Nat} (h:i<xs.length),(∀j (b:j<xs.length),j<i->WJ n xs[j]=false)->WJ n xs[i]=true->j6 n xs=i
 | [],i,h,_,_=>by simp at h
 |x::r,0,h,_,a=>by
  have a:WJ n x=true:=a;simp[j6,a]
 |x::r,i+1,h,hn,a=>by
  have c:WJ n x=false:=hn 0 sT ak;have d:=KO (xs:=r) (i:=i) (su h) (λj b hji=>hn (j+1) (su b) ak) a;simp only[j6,c,d];rw[au sT,au ak];omega
theorem GV{n:Int}:∀{xs:List aR},(∀j (a:j<xs.length),WJ n xs[j]=false)->j6 n xs = -1
 | [],_=>rfl
 |x::r,hn=>by
  have b:WJ n x=false:=hn 0 sT;have c:=GV (xs:=r) (λj a=>hn (j+1) (su a));simp[j6,b,c]
def xx(b:aH)(n:Int)(s:b.small):Sq 170 [] [.agg b.cells,.int .i64 n] [] (.int .i64 (j6 n b.ts)):=by
 obtain⟨h1,h2⟩:=s;simp only[aH.cells];refine bp 31 2 [.tmp 4] mixed func170 ?_;simp only[go_sem,seval];refine aF.w1 b.ts.length 5 [1,2] [48] (λi _=>∀j (f:j<b.ts.length),j<i->WJ n b.ts[j]=false) (by intros;omega) ?_ ?_
 ·intro i _ m e g l;obtain⟨x,t,o,hli⟩:=oc (c:=aR.cells) b.ts m;have d:=KO m l;have a:WJ n b.ts[i]=false->∀j (f:j<b.ts.length),j<i+1->WJ n b.ts[j]=false:=λr j f hji=>by
   rcases dN j i with h|h
   ·exact l j f h
   ·obtain rfl:j=i:=ak
    exact r
  rw[<-t]at d a;simp only[WJ]at d a;simp only[aR.cells]at o;cases k:x.no==n
  ·simp only[go_sem,seval,e,o,k,g];refine bg ?_;refine ah.u m (a (by simp[k])) ?_;simp only[go_sem,seval]
  cases p:x.off
  case true =>
   simp only[go_sem,seval,e,o,k,p,g];refine bg ?_;refine ah.u m (a (by simp[p])) ?_;simp only[go_sem,seval]
  simp only[go_sem,seval,e,o,k,p,d (by simp[k,p])]
  and_intros<;>first|exact .dq|omega|skip
 ·intro _ q l;simp only[go_sem,seval,q,GV (λj f=>l j f f)]
theorem AE(x:aE):Sq 235 [] [.agg x.cells] [] (.bI [.int .i64 (if x.set==0 then x.aL else x.set),.bool (!(x.set==0&&x.aL==0))]):=by
 simp only[aE.cells];refine bp 14 1 [.tmp 2,.tmp 3] mixed func235 ?_;cases a:x.set==0<;>cases b:x.aL==0<;>simp only[go_sem,seval,bne,a,b,cZ,Bool.and_self,Bool.and_false,Bool.not_true,Bool.not_false]
 all_goals(with_reducible and_intros)<;>first|exact .dq|omega|skip
theorem EH(a b:Int)(e:iS a)(f:iS b):Sq 237 [] [.int .i64 a,.int .i64 b] [] (.bI [.int .i64 (if bB (a*b)then a*b else 0),.bool (bB (a*b))]):=by
 have c:=qJ a b e f;have d:=oz (a*b);simp only[wd]at c d;refine bp 12 2 [.tmp 4,.tmp 5] mixed func237 ?_;refine sc aS c ?_;exact sZ aS d
def NU(b:aH)(h:b.small):Sq 89 [] [.agg b.cells] [.own 7 (b.ts.map aR.cells)] (.agg [.I b.next,.ref 0,.sl 4 (b.qs.map aB.cells)]):=by
 refine Spec.frozen (vp b h) [1] rfl ?_;intro r;rcases r with _| _|r<;>rfl
def jO(p:aB):Bool:=qB p.who p.inst&&(bB p.aO&&bB p.cost)
def xK(g:List aB):Bool:=(range 8).all λi=>ay (pick (λp:aB=>p.inst==(i:Int)+1) aB.aO g)==0
def zW(b:aH)(g:List aB)(w n:Int):Int:=ay ((posOf w n b.qs).aO::pick (bY w n) aB.aO g)
def Jj(b:aH)(g:List aB)(w n:Int):Int:=ay ((posOf w n b.qs).cost::pick (bY w n) aB.cost g)
def uT(b:aH)(g:List aB)(w n:Int):Bool:=bB (zW b g w n)&&(bB (Jj b g w n)&&within (zW b g w n) (-1099511627776) 1099511627776)
def FH(b:aH)(g:List aB)(w n:Int):List aB:=if zW b g w n==0&&Jj b g w n==0 then[]else[⟨w,n,zW b g w n,Jj b g w n⟩]
def Jk(b:aH)(g:List aB)(w:Int)(i:Nat):List aB:=(range i).flatMap λ(k:Nat)=>FH b g w ((k:Int)+1)
def yh(b:aH)(g:List aB)(i:Nat):List aB:=(range i).flatMap λ(k:Nat)=>Jk b g ((k:Int)+1) 8
def BO(b:aH)(g:List aB)(w:Int):Bool:=(range 8).all λ(k:Nat)=>uT b g w ((k:Int)+1)
def uy(b:aH)(g:List aB):Bool:=(range 16).all λ(k:Nat)=>BO b g ((k:Int)+1)
def jA(b:aH)(g:List aB):Int:=if b.okB then(if g.all jO then(if xK g then(if uy b g then 0 else 1)else 12)else 3)else 14
def oN(b:aH)(g:List aB):aH:=if jA b g=0 then⟨b.next,b.ts,yh b g 16⟩else⟨0,[],[]⟩
def Z5(b:aH)(g:List aB)(w n:Int):(FH b g w n).length<=1:=by unfold FH;split<;>simp
def Mc(b:aH)(g:List aB)(w:Int)(i:Nat):(Jk b g w i).length<=i:=by
 have:=DD (f:=λ(k:Nat)=>FH b g w ((k:Int)+1)) (m:=1) (λk=>Z5 _ _ _ _) i;simpa[Jk]using this
def BP(b:aH)(g:List aB)(i:Nat):(yh b g i).length<=8*i:=DD (f:=λ(k:Nat)=>Jk b g ((k:Int)+1) 8) (λk=>Mc _ _ _ _) i
theorem Lu{w n:Int}:∀{qs:List aB},(∀p∈qs,p.fB)->iS (posOf w n qs).aO/\iS (posOf w n qs).cost
 | [],_=>by simp[posOf,iS]
 |p::r,h=>by
  simp only[posOf];split
  ·have:=h p sT;exact⟨this.2.2.1,this.2.2.2⟩
  ·exact Lu λq a=>h q (by simp[a])
theorem xw(b:aH)(g:List aB)(Z:b.small)(hr:∀p∈b.qs,p.fB)(hg:g.length<2^29):Sq 229 [] [.agg b.cells,.sl 4 (g.map aB.cells)] [.own 7 ((oN b g).ts.map aR.cells),.own 4 ((oN b g).qs.map aB.cells)] (.bI [.agg [.int .i64 (oN b g).next,.ref 0,.ref 1],.int .i64 (jA b g)]):=by
 have c1:=kV b Z hr;have c2:=NU b Z;have c3:=λw n=>sR b w n Z;have I:=λw n=>Lu (w:=w) (n:=n) hr;simp only[aH.cells]at c1 c2 c3 |-;refine bp 199 2 [.cell 4 34,.tmp 5] mixed func229 ?_;simp only[go_sem,seval];(with_reducible and_intros)<;>first|exact .dq|omega|skip
 refine aG.bC c1 ?_;cases s:b.okB
 ·have e:jA b g=14:=by simp[jA,s]
  simp only[go_sem,seval,oN,e]<;>simp
 have e:jA b g=if g.all jO then(if xK g then(if uy b g then 0 else 1)else 12)else 3:=by simp[jA,s]
 simp only[oN];rw[e];clear e c1;simp only[go_sem,seval];refine aF.w1 g.length 6 [1,2,4] [48,80] (λi _=>(g.drop i).all jO=g.all jO) rfl ?_ ?_
 ·intro i _ r A y f;obtain⟨x,B,E,ae⟩:=oc (c:=aB.cells) g r;have k1:=uH x.who x.inst;have k2:=fy x.aO;have k3:=fy x.cost;rw[cg r,<-B]at f;simp only[all_cons,jO]at f;simp only[aB.cells]at E;clear c2 c3;simp only[go_sem,seval,A,E];(with_reducible and_intros)<;>first|exact .dq|omega|skip
  refine aG.bC k1 ?_;cases o:qB x.who x.inst
  ·rw[o,cZ,cZ]at f;have G:g.all jO=false:=f.symm;simp only[go_sem,seval,o,G];all_goals simp
  simp only[go_sem,seval,o,E];(with_reducible and_intros)<;>first|exact .dq|omega|skip
  refine aG.bC k2 ?_;cases C:bB x.aO
  ·rw[o,C,cZ,Bool.and_false,cZ]at f;have G:g.all jO=false:=f.symm;simp only[go_sem,seval,C,G];all_goals simp
  simp only[go_sem,seval,C,E];(with_reducible and_intros)<;>first|exact .dq|omega|skip
  refine aG.bC k3 ?_;cases q3:bB x.cost
  ·rw[o,C,q3,Bool.and_false,Bool.and_false,cZ]at f;have G:g.all jO=false:=f.symm;simp only[go_sem,seval,q3,G];all_goals simp
  rw[o,C,q3,Bool.and_self,Bool.and_self,cm]at f;simp only[go_sem,seval,q3,y];(with_reducible and_intros)<;>first|exact .dq|omega|skip
  refine ah.u r f ?_;simp only[go_sem,seval]
 intro _ F f;rw[jw]at f;have H:g.all jO=true:=f.symm;have Q:∀p∈g,bB p.aO=true/\bB p.cost=true:=λp O=>by
  have:=bL.1 H p O;simp only[jO,bQ]at this;exact this.2
 rw[H];simp only[go_sem,seval,F];clear f F;refine aF.wu 8 [1,2,4] [48,80] (λi=>[(7,.int .i64 ((i:Int)+1))]) (λ_=>[]) (λi=>∀k<i,(ay (pick (λp:aB=>p.inst==((k:Nat):Int)+1) aB.aO g)==0)=true) (by simp) ?_ ?_ ?_
 ·simp only[go_sem,seval]<;>simp
 ·intro c _ hc _ _ f;obtain⟨n,N⟩:=aN ((c:Int)+1);have hd:decide (n<=8)=true:=iy;have hw:IntKind.wrap .i64 (n+1)=((c+1:Nat):Int)+1:=fQ;have hA:=eM (pick (λp:aB=>p.inst==n) aB.aO g) (jN λp O=>tH (Q p O).1) (by have:=bN (λp:aB=>p.inst==n) aB.aO g;omega);have h0:=aec (pick (λp:aB=>p.inst==n) aB.aO g);have d:(ay (pick (λp:aB=>p.inst==n) aB.aO g)==0)=false->xK g=false:=λh=>by
   rw[xK,all_eq_false];exact⟨c,mem_range.2 hc,by rw[<-N,h];simp⟩
  rw[<-N];clear c2 c3;simp only[go_sem,seval,hd];refine aF.wv g.length [1,2,4,7] [48,80] (λi=>[(9,.int .i64 i),(8,.ref 1360)]) (λi=>[(1360,.own 1 (ints (pick (λp:aB=>p.inst==n) aB.aO (g.take i))))]) ?_ ?_ ?_
  ·simp only[go_sem,seval]<;>simp[pick,ints]
  ·intro i _ r A y _;obtain⟨x,B,E,ae⟩:=oc (c:=aB.cells) g r;have hs:=fK (λp:aB=>p.inst==n) aB.aO r;have ad:=bN (λp:aB=>p.inst==n) aB.aO (g.take i);have ai:(g.take i).length=i:=by simp;omega
   obtain⟨L,K⟩:=aN (pick (λp:aB=>p.inst==n) aB.aO (g.take i));rw[<-B,<-K]at hs;rw[<-K]at ad |-;simp only[aB.cells]at E;simp only[go_sem,seval,A,E];(with_reducible and_intros)<;>first|exact .dq|omega|skip
   cases Z:x.inst==n
   ·rw[Z]at hs;simp only[go_sem,seval,y];refine ah.v r ?_;simp only[go_sem,seval,hs]<;>simp
   ·rw[Z]at hs;simp only[go_sem,seval,y,az,E];(with_reducible and_intros)<;>first|exact .dq|omega|skip
    refine ah.v r ?_;simp only[go_sem,seval,hs]<;>simp
  ·intro _ F _;simp only[go_sem,seval,F,eu];refine aG.gE [] [] true (by simp) ?_;simp only[go_sem,seval];refine cz.gF hA ?_;obtain⟨L,K⟩:=aN (pick (λp:aB=>p.inst==n) aB.aO g);rw[<-K]at h0 d |-;cases s:bB (ay L)
   ·have d:=d (by rw[<-h0,s];rfl);simp only[go_sem,seval,s,d];all_goals simp
   cases J:addN L==0
   ·have d:=d (by rw[<-h0,s,J];rfl);simp only[go_sem,seval,s,bne,J,d];all_goals simp
   rw[s,J]at h0;simp only[go_sem,seval,s,bne,J,hw];(with_reducible and_intros)<;>first|exact .dq|omega|skip
   refine ah.u hc ?_ ?_
   ·intro k hk;rcases dN k c with h|h
    ·exact f k h
    ·obtain rfl:k=c:=ak
     rw[<-N,<-K];exact h0.symm
   ·simp only[go_sem,seval]
 intro _ _ f;have aa:xK g=true:=bL.2 λc hc=>f c (mem_range.1 hc);rw[aa];clear f aa H;simp only[go_sem,seval];(with_reducible and_intros)<;>first|exact .dq|omega|skip
 refine aG.gE [] [] false (by simp) ?_;simp only[go_sem,seval];refine cz.gF c2 ?_;clear c2;simp only[go_sem,seval];(with_reducible and_intros)<;>first|exact .dq|omega|skip
 refine aF.wu 16 [1,2,4,12] [48,80,1584] (λi=>[(13,.int .i64 ((i:Int)+1))]) (λi=>[(208,.box [.int .i64 b.next,.ref 1584,.ref 3152]),(3152,.own 4 ((yh b g i).map aB.cells))]) (λi=>∀k<i,BO b g (((k:Nat):Int)+1)=true) (by simp) ?_ ?_ ?_
 ·simp only[go_sem,seval]<;>simp[yh]
 ·intro i _ r _ _ f;obtain⟨w,hw⟩:=aN ((i:Int)+1);have hd:decide (w<=16)=true:=iy;have al:IntKind.wrap .i64 (w+1)=((i+1:Nat):Int)+1:=fQ;have R:yh b g (i+1)=yh b g i++Jk b g w 8:=by rw[hw];exact uC _ i
  have aj:=BP b g i;have d:BO b g w=false->uy b g=false:=λh=>by
   rw[uy,all_eq_false];exact⟨i,mem_range.2 r,by rw[<-hw,h];simp⟩
  obtain⟨W,hW⟩:=aN (yh b g i);rw[<-hW]at R aj |-;rw[<-hw];simp only[go_sem,seval,hd];refine aF.wu 8 [1,2,4,12,13] [48,80,1584] (λj=>[(14,.int .i64 ((j:Int)+1))]) (λj=>[(208,.box [.int .i64 b.next,.ref 1584,.ref 3152]),(3152,.own 4 ((W++Jk b g w j).map aB.cells))]) (λj=>∀k<j,uT b g w (((k:Nat):Int)+1)=true) (by simp) ?_ ?_ ?_
  ·simp only[go_sem,seval]<;>simp[Jk]
  ·intro j _ hj _ _ hJ;obtain⟨n,N⟩:=aN ((j:Int)+1);have hd:decide (n<=8)=true:=iy;have T:IntKind.wrap .i64 (n+1)=((j+1:Nat):Int)+1:=fQ;have af:Jk b g w (j+1)=Jk b g w j++FH b g w n:=by rw[N];exact uC _ j
   have hnl:=Mc b g w j
   have a:uT b g w n=false->uy b g=false:=λh=>d (by
    rw[BO,all_eq_false]
    exact⟨j,mem_range.2 hj,by rw[<-N,h];simp⟩)
   have hP:=c3 w n;have I:=I w n;obtain⟨p,O⟩:=aN (posOf w n b.qs);rw[<-O]at hP I;obtain⟨V,hV⟩:=aN (W++Jk b g w j);have hVl:V.length<=200:=by rw[hV,cR];omega
   have t:W++Jk b g w (j+1)=V++FH b g w n:=by rw[af,hV,dz]
   have hA:=eM (p.aO::pick (bY w n) aB.aO g) (λx B=>by
    rcases mem_cons.1 B with rfl|B
    ·exact I.1
    ·exact jN (λq hq=>tH (Q q hq).1) x B) (by have:=bN (bY w n) aB.aO g;simp only[length_cons];omega)
   have hB:=eM (p.cost::pick (bY w n) aB.cost g) (λx B=>by
    rcases mem_cons.1 B with rfl|B
    ·exact I.2
    ·exact jN (λq hq=>tH (Q q hq).2) x B) (by have:=bN (bY w n) aB.cost g;simp only[length_cons];omega)
   have eq:ay (p.aO::pick (bY w n) aB.aO g)=zW b g w n:=by rw[O];rfl
   have ec:ay (p.cost::pick (bY w n) aB.cost g)=Jj b g w n:=by rw[O];rfl
   rw[<-hV,<-N];simp only[aB.cells]at hP;clear c3 hV O hW af R;simp only[go_sem,seval,hd];(with_reducible and_intros)<;>first|exact .dq|omega|skip
   refine aG.bC hP ?_;simp only[go_sem,seval];(with_reducible and_intros)<;>first|exact .dq|omega|skip
   refine aF.wv g.length [1,2,4,12,13,14] [48,80,208,1584,3152] (λi=>[(18,.int .i64 i),(16,.ref 2416),(17,.ref 2544)]) (λi=>[(2416,.own 1 (ints (p.aO::pick (bY w n) aB.aO (g.take i)))),(2544,.own 1 (ints (p.cost::pick (bY w n) aB.cost (g.take i))))]) ?_ ?_ ?_
   ·simp only[go_sem,seval]<;>simp[pick,ints]
   ·intro i _ r A y _;have E:=br (c:=aB.cells) g r;have l:=fK (bY w n) aB.aO r;have m:=fK (bY w n) aB.cost r;have ab:=bN (bY w n) aB.aO (g.take i);have ac:=bN (bY w n) aB.cost (g.take i);have ai:(g.take i).length=i:=by simp;omega
    have ae:(i:Int)<(g.length:Int):=ak
    have l:ints (p.aO::pick (bY w n) aB.aO (g.take (i+1)))=ints (p.aO::pick (bY w n) aB.aO (g.take i))++(if bY w n g[i]then[[.int .i64 g[i].aO]]else[]):=congrArg (λz:List (List D)=>([D.int .i64 p.aO]:List D)::z) l;have m:ints (p.cost::pick (bY w n) aB.cost (g.take (i+1)))=ints (p.cost::pick (bY w n) aB.cost (g.take i))++(if bY w n g[i]then[[.int .i64 g[i].cost]]else[]):=congrArg (λz:List (List D)=>([D.int .i64 p.cost]:List D)::z) m;have ab:(p.aO::pick (bY w n) aB.aO (g.take i)).length<=i+1:=by simp only[length_cons];omega
    have ac:(p.cost::pick (bY w n) aB.cost (g.take i)).length<=i+1:=by simp only[length_cons];omega
    obtain⟨L,K⟩:=aN (p.aO::pick (bY w n) aB.aO (g.take i));obtain⟨M,hM⟩:=aN (p.cost::pick (bY w n) aB.cost (g.take i));obtain⟨x,B⟩:=aN (g[i]);rw[<-B,<-K]at l;rw[<-B,<-hM]at m;rw[<-B]at E;rw[<-K]at ab;rw[<-hM]at ac;rw[<-K,<-hM];simp only[bY]at l m;simp only[aB.cells]at E;clear K hM;cases o:x.who==w
    ·simp only[o,cZ,iM,if_false,append_nil]at l m;simp only[go_sem,seval,A,E,o,y];(with_reducible and_intros)<;>first|exact .dq|omega|skip
     refine ah.v r ?_;simp only[go_sem,seval,l,m]
    cases C:x.inst==n
    ·simp only[o,C,Bool.and_false,iM,if_false,append_nil]at l m;simp only[go_sem,seval,A,E,o,C,y];(with_reducible and_intros)<;>first|exact .dq|omega|skip
     refine ah.v r ?_;simp only[go_sem,seval,l,m]
    simp only[o,C,Bool.and_self,if_true]at l m;simp only[go_sem,seval,A,E,o,C,y,az];(with_reducible and_intros)<;>first|exact .dq|omega|skip
    refine ah.v r ?_;simp only[go_sem,seval,l,m]
   ·intro _ F _;simp only[go_sem,seval,F,eu];(with_reducible and_intros)<;>first|exact .dq|omega|skip
    refine aG.gE [] [] true (by simp) ?_;simp only[go_sem,seval];refine cz.gF hA ?_;simp only[go_sem,seval];(with_reducible and_intros)<;>first|exact .dq|omega|skip
    refine aG.gE [] [] true (by simp) ?_;simp only[go_sem,seval];refine cz.gF hB ?_;simp only[addN,eq,ec];clear hA hB;have hW:=bK (zW b g w n) (-1099511627776) 1099511627776;simp only[uT]at a;simp only[FH]at t;obtain⟨X,hX⟩:=aN (zW b g w n);obtain⟨Y,hY⟩:=aN (Jj b g w n);have ag:(bB X&&(bB Y&&within X (-1099511627776) 1099511627776))=uT b g w n:=by rw[hX,hY];rfl
    rw[<-hX,<-hY]at a t;rw[<-hX]at hW;rw[<-hX,<-hY];cases s:bB X
    ·have a:=a (by rw[s];rfl);simp only[go_sem,seval,s,a];all_goals simp
    cases J:bB Y
    ·have a:=a (by rw[s,J];rfl);simp only[go_sem,seval,s,J,a];all_goals simp
    simp only[go_sem,seval,s,J];(with_reducible and_intros)<;>first|exact .dq|omega|skip
    refine aG.bC hW ?_;cases U:within X (-1099511627776) 1099511627776
    ·have a:=a (by rw[s,J,U];rfl);simp only[go_sem,seval,U,a];all_goals simp
    have P:∀k<j+1,uT b g w (((k:Nat):Int)+1)=true:=λk hk=>by
     rcases dN k j with h|h
     ·exact hJ k h
     ·obtain rfl:k=j:=ak
      rw[<-N,<-ag,s,J,U];rfl
    cases o:X==0
    ·simp only[o,cZ,iM,if_false]at t;simp only[go_sem,seval,U,bne,o,T];(with_reducible and_intros)<;>first|exact .dq|omega|skip
     refine ah.u hj P ?_;simp only[go_sem,seval,t]<;>simp
    cases C:Y==0
    ·simp only[o,C,Bool.and_false,iM,if_false]at t;simp only[go_sem,seval,U,bne,o,C,T];(with_reducible and_intros)<;>first|exact .dq|omega|skip
     refine ah.u hj P ?_;simp only[go_sem,seval,t]<;>simp
    simp only[o,C,Bool.and_self,if_true,append_nil]at t;simp only[go_sem,seval,U,bne,o,C,T];(with_reducible and_intros)<;>first|exact .dq|omega|skip
    refine ah.u hj P ?_;simp only[go_sem,seval,t]
  ·intro _ _ hJ;have S:BO b g w=true:=bL.2 λk hk=>hJ k (mem_range.1 hk);simp only[go_sem,seval,al];(with_reducible and_intros)<;>first|exact .dq|omega|skip
   refine ah.u r ?_ ?_
   ·intro k hk;rcases dN k i with h|h
    ·exact f k h
    ·obtain rfl:k=i:=ak
     rw[<-hw];exact S
   ·simp only[go_sem,seval,R]
 ·intro _ _ f;have S:uy b g=true:=bL.2 λk hk=>f k (mem_range.1 hk);simp only[go_sem,seval,S]
def UD{b:aH}(h:b.okB=true):0<=b.next/\b.next<=1099511627776/\b.ts.length<=128:=by
 simp only[aH.okB,bQ,gD,gv]at h;omega
def oO{b:aH}{g:List aB}(h:jA b g=0):b.okB=true/\oN b g=⟨b.next,b.ts,yh b g 16⟩:=by
 refine⟨?_,by simp[oN,h]⟩;unfold jA at h;split at h
 ·assumption
 ·cases h
def Ti{b:aH}{g:List aB}(h:jA b g≠0):oN b g=⟨0,[],[]⟩:=by simp[oN,h]
def jC(b:aH)(t:aR):Int:=if b.okB then(if t.okB then(if 128<=b.ts.length then 9 else if b.next=1099511627776 then 1 else jA b (j9 t false))else 3)else 14
def mu(b:aH)(t:aR):aH:=if jC b t=0 then⟨b.next+1,b.ts++[{ t with no:=b.next+1,off:=false }],yh b (j9 t false) 16⟩else⟨0,[],[]⟩
def uZ(b:aH)(t:aR):Int:=if jC b t=0 then b.next+1 else 0
def K9(t:aR)(k:Bool):(j9 t k).length<=2:=by unfold j9;split<;>simp
def Nf(b:aH)(t:aR)(j:b.small)(l:∀p∈b.qs,p.fB):Sq 168 [] [.agg b.cells,.agg t.cells] [.own 7 ((mu b t).ts.map aR.cells),.own 4 ((mu b t).qs.map aB.cells)] (.bI [.agg [.int .i64 (mu b t).next,.ref 0,.ref 1],.int .i64 (uZ b t),.int .i64 (jC b t)]):=by
 have c1:=kV b j l;have c2:=x3 t;have c3:=yZ t false;have c4:=xw b (j9 t false) j l (by have:=K9 t false;omega);have hlt:=j.1;simp only[aH.cells,aR.cells]at c1 c2 c3 c4 |-;refine bp 54 2 [.cell 4 34,.tmp 5,.tmp 6] mixed func168 ?_;refine sc aS c1 ?_;cases a:b.okB
 ·have e:jC b t=14:=by simp[jC,a]
  simp only[go_sem,seval,mu,uZ,e];all_goals simp
 obtain⟨n1,n2,n3⟩:=UD a;refine sc aS c2 ?_;cases f:t.okB
 ·have e:jC b t=3:=by simp[jC,a,f]
  simp only[go_sem,seval,mu,uZ,e];all_goals simp
 by_cases h:128<=b.ts.length
 ·have e:jC b t=9:=by simp[jC,a,f,h]
  have d:decide ((128:Int)<=(b.ts.length:Int))=true:=iy;simp only[go_sem,seval,d,mu,uZ,e];all_goals simp
 have k:decide ((128:Int)<=(b.ts.length:Int))=false:=iE;by_cases g:b.next=1099511627776
 ·have e:jC b t=1:=by simp only[jC,a,f,au h,aq g];rfl
  have d:(b.next==1099511627776)=true:=su g;simp only[go_sem,seval,k,d,mu,uZ,e];all_goals simp
 have m:(b.next==1099511627776)=false:=su g;have e:jC b t=jA b (j9 t false):=by simp only[jC,a,f,au h,au g];rfl
 have w:IntKind.wrap .i64 (b.next+1)=b.next+1:=gO ak ak
 simp only[mu,uZ];rw[e];clear e c1 c2;refine sc (a2 k m) c3 ?_;refine so aS c4 ?_;by_cases c:jA b (j9 t false)=0
 ·have i:=(oO c).2;rw[i,c];simp only[go_sem,seval,w];refine bg ?_;all_goals simp
 ·have i:=Ti c;have n:(jA b (j9 t false)==0)=false:=su c;rw[i,au c,au c];refine sm (a2 gr n) ?_
  and_intros<;>first|exact .dq|omega|skip
  all_goals simp
def Ax(b:aH)(t:aR)(a:b.small)(c:∀p∈b.qs,p.fB):Sq 168 [] [.agg b.cells,.agg t.cells] [] (.bI [.agg (mu b t).cells,.int .i64 (uZ b t),.int .i64 (jC b t)]):=by
 refine Spec.frozen (Nf b t a c) [0,1] rfl ?_;intro r;rcases r with _| _|r<;>rfl
theorem yz{n:Int}:∀{ts:List aR},¬j6 n ts<0->∃(i:Nat)(h:i<ts.length),j6 n ts=i/\WJ n ts[i]=true
 | [],h=>by simp[j6]at h
 |t::r,h=>by
  simp only[j6]at h |-;split at h
  ·rename_i a;exact⟨0,by simp,by rw[aq a];rfl,a⟩
  ·rename_i a;split at h
   ·omega
   ·rename_i b;obtain⟨i,hi,e,c⟩:=yz (ts:=r) b;refine⟨i+1,by simp;omega,?_,su c⟩;rw[au a,au b,e];rfl
def eI(n:Int)(ts:List aR):aR:=ts.getD (j6 n ts).toNat ⟨0,0,0,0,0,0,false⟩
def VB(n:Int)(ts:List aR):List aR:=ts.set (j6 n ts).toNat { eI n ts with off:=true }
def ij(b:aH)(n:Int):Int:=if b.okB then(if j6 n b.ts<0 then 10 else jA b (j9 (eI n b.ts) true))else 14
def gG(b:aH)(n:Int):aH:=if ij b n=0 then⟨b.next,VB n b.ts,yh b (j9 (eI n b.ts) true) 16⟩else⟨0,[],[]⟩
def JS(b:aH)(n:Int)(k:b.small)(s:∀p∈b.qs,p.fB):Sq 171 [] [.agg b.cells,.int .i64 n] [.own 7 ((gG b n).ts.map aR.cells),.own 4 ((gG b n).qs.map aB.cells)] (.bI [.agg [.int .i64 (gG b n).next,.ref 0,.ref 1],.int .i64 (ij b n)]):=by
 have c1:=kV b k s;have c2:=xx b n k;have c3:=yZ (eI n b.ts) true;have c4:=xw b (j9 (eI n b.ts) true) k s (by have:=K9 (eI n b.ts) true;omega);have hlt:=k.1;simp only[aH.cells]at c1 c2 c3 c4 |-;refine bp 40 2 [.cell 4 34,.tmp 5] mixed func171 ?_;refine sc aS c1 ?_;cases m:b.okB
 ·have e:ij b n=14:=by simp[ij,m]
  simp only[go_sem,seval,gG,e];all_goals simp
 refine sc aS c2 ?_;by_cases h:j6 n b.ts<0
 ·have e:ij b n=10:=by simp[ij,m,h]
  have d:decide (j6 n b.ts<0)=true:=dY h;simp only[go_sem,seval,d,gG,e];all_goals simp
 have o:decide (j6 n b.ts<0)=false:=iA h;have e:ij b n=jA b (j9 (eI n b.ts) true):=by simp only[ij,m,au h];rfl
 obtain⟨i,r,a,hon⟩:=yz h;obtain⟨t,v,l,hli⟩:=oc (c:=aR.cells) b.ts r;have g:eI n b.ts=b.ts[i]:=by simp[eI,a,r]
 have f:VB n b.ts=b.ts.set i { b.ts[i]with off:=true }:=by simp[VB,g,a]
 simp only[gG];rw[e];rw[g]at c3 c4 |-;rw[f];clear e c1 c2 g f;rw[<-v]at c3 c4 |-;simp only[aR.cells]at l c3;simp only[go_sem,seval,o,a,l];rw[a]at o;refine sc (a3 o a l) c3 ?_;refine so aS c4 ?_;by_cases j:jA b (j9 t true)=0
 ·have q:=(oO j).2;rw[q,j];simp only[go_sem,seval,l];refine bg ?_;all_goals simp[map_set]
 ·have q:=Ti j;have u:(jA b (j9 t true)==0)=false:=su j;rw[q,au j];refine sm (a2 gr u) ?_
  and_intros<;>first|exact .dq|omega|skip
  all_goals simp
def yY(b:aH)(n:Int)(a:b.small)(c:∀p∈b.qs,p.fB):Sq 171 [] [.agg b.cells,.int .i64 n] [] (.bI [.agg (gG b n).cells,.int .i64 (ij b n)]):=by
 refine Spec.frozen (JS b n a c) [0,1] rfl ?_;intro r;rcases r with _| _|r<;>rfl
def Ju(b:aH)(n:Int)(a:b.small):(gG b n).small:=by
 unfold gG;split
 ·refine⟨by simpa[VB]using a.1,?_⟩;have:=BP b (j9 (eI n b.ts) true) 16;show(yh b (j9 (eI n b.ts) true) 16).length<_;omega
 ·exact⟨by simp,by simp⟩
def Z6{b:aH}{g:List aB}{w n:Int}(d:iS w)(c:iS n)(h:uT b g w n=true):∀p∈FH b g w n,p.fB:=by
 intro p a;unfold FH at a;split at a
 ·cases a
 ·obtain rfl:=gV.1 a;simp only[uT,bQ]at h;exact⟨d,c,tH h.1,tH h.2.1⟩
def sF{b:aH}{g:List aB}{p:aB}:∀{i:Nat},p∈yh b g i->∃k m:Nat,k<i/\m<8/\p∈FH b g ((k:Int)+1) ((m:Int)+1):=by
 intro i a;obtain⟨k,c,a⟩:=mem_flatMap.1 a;obtain⟨m,d,a⟩:=mem_flatMap.1 a;exact⟨k,m,mem_range.1 c,mem_range.1 d,a⟩
def Gf{b:aH}{g:List aB}(h:uy b g=true){k m:Nat}(a:k<16)(c:m<8):uT b g ((k:Int)+1) ((m:Int)+1)=true:=by
 have:=bL.1 h k (mem_range.2 a);exact bL.1 this m (mem_range.2 c)
def Dq{b:aH}{g:List aB}(h:jA b g=0):g.all jO=true/\xK g=true/\uy b g=true:=by
 unfold jA at h;split at h
 ·split at h
  ·split at h
   ·split at h
    ·exact⟨by assumption,by assumption,by assumption⟩
    ·cases h
   ·cases h
  ·cases h
 ·cases h
def Th{b:aH}{g:List aB}(h:jA b g=0):∀p∈yh b g 16,p.fB:=by
 intro p a;obtain⟨k,m,c,d,a⟩:=sF a;exact Z6 ⟨by omega,by omega⟩ ⟨by omega,by omega⟩ (Gf (Dq h).2.2 c d) p a
def wO{b:aH}{n:Int}(h:ij b n=0):b.okB=true/\¬j6 n b.ts<0/\jA b (j9 (eI n b.ts) true)=0:=by
 unfold ij at h;split at h
 ·split at h
  ·cases h
  ·exact⟨by assumption,by assumption,h⟩
 ·cases h
def Oo{b:aH}{n:Int}:∀p∈(gG b n).qs,p.fB:=by
 unfold gG;split
 ·rename_i h;exact Th (wO h).2.2
 ·intro p a;cases a
def vF(b:aH)(n q p:Int):Int:=if ij b n=0 then jC (gG b n) { eI n b.ts with aO:=q,aL:=p }else ij b n
def vE(b:aH)(n q p:Int):aH:=if ij b n=0 then mu (gG b n) { eI n b.ts with aO:=q,aL:=p }else⟨0,[],[]⟩
def GH(b:aH)(n q p:Int):Int:=if ij b n=0 then uZ (gG b n) { eI n b.ts with aO:=q,aL:=p }else 0
def Fp(b:aH)(n q p:Int)(f:b.small)(m:∀p∈b.qs,p.fB):Sq 172 [] [.agg b.cells,.int .i64 n,.int .i64 q,.int .i64 p] [] (.bI [.agg (vE b n q p).cells,.int .i64 (GH b n q p),.int .i64 (vF b n q p)]):=by
 have c1:=yY b n f m;have c2:=xx b n f;have c3:=Ax (gG b n) { eI n b.ts with aO:=q,aL:=p } (Ju b n f) Oo;have hlt:=f.1;simp only[vF,vE,GH];obtain⟨B,g⟩:=aN (gG b n);obtain⟨T,h⟩:=aN (eI n b.ts);rw[<-g,<-h]at c3;rw[<-g]at c1;rw[<-g,<-h];simp only[aH.cells,aR.cells]at c1 c2 c3 |-;refine bp 41 4 [.cell 8 34,.tmp 9,.tmp 10] mixed func172 ?_;refine sc aS c1 ?_;by_cases a:ij b n=0
 case neg =>
  have d:(ij b n==0)=false:=su a;rw[au a,au a,au a];refine sm (a2 gr d) ?_;all_goals simp
 obtain⟨i,l,e,hon⟩:=yz (wO a).2.1;have j:=br (c:=aR.cells) b.ts l;have k:T=b.ts[i]:=by rw[h];simp[eI,e,l]
 have hli:(i:Int)<(b.ts.length:Int):=ak
 rw[<-k]at j;rw[e]at c2;simp only[aR.cells]at j;rw[a];refine sc j c2 ?_;exact sZ aS c3
def cy(x:aE):Int:=if x.set==0 then x.aL else x.set
def cB(x:aE):Bool:=!(x.set==0&&x.aL==0)
def IJ(r:aA)(p:aB):Int:=
 if bJ r p.inst then(if !cB (aZ r p.inst)&&!(p.aO==0)then 20 else if bB (fY p (aZ r p.inst).mult (cy (aZ r p.inst)))&&bB (p.aO*cy (aZ r p.inst))then 0 else 1)else 10
def uc(r:aA):List aB->Int
 | []=>0
 |p::t=>if IJ r p=0 then uc r t else IJ r p
def II(r:aA)(p:aB):aU:=⟨p.who,(aZ r p.inst).cur,fY p (aZ r p.inst).mult (cy (aZ r p.inst))⟩
def ud(r:aA)(p:aB):List aB:=if p.aO==0&&p.aO*cy (aZ r p.inst)==0 then[]else[⟨p.who,p.inst,p.aO,p.aO*cy (aZ r p.inst)⟩]
def Ag(r:aA)(b:aH):Int:=if r.okB&&b.okB then uc r b.qs else 14
def Eb(r:aA)(b:aH):aH:=if Ag r b=0 then⟨b.next,b.ts,b.qs.flatMap (ud r)⟩else⟨0,[],[]⟩
def yc(r:aA)(b:aH):List aU:=if Ag r b=0 then b.qs.map (II r)else[]
def sq(b:aH)(h:b.small):Sq 89 [] [.agg b.cells] [] (.agg b.cells):=by
 refine Spec.frozen (vp b h) [0,1] rfl ?_;intro r;rcases r with _| _|r<;>rfl
def Pb{x:aE}(h:x.ok=true):0<=cy x/\cy x<=1073741824:=by
 simp only[aE.ok,within,bQ,bz]at h;unfold cy;split<;>omega
def BU{b:aH}(h:b.okB=true):∀p∈b.qs,p.okB=true:=by
 intro p c;simp only[aH.okB,bQ]at h;obtain⟨i,a,rfl⟩:=mem_iff_getElem.1 c;exact Mp h.1 a
def CF{p:aB}(h:p.okB=true):-1099511627776<=p.aO/\p.aO<=1099511627776/\bB p.cost=true:=by
 simp only[aB.okB,within,bQ,bz]at h;exact⟨h.2.1.1,h.2.1.2,h.2.2.1⟩
theorem SC(r:aA)(b:aH)(h:r.jX)(R:b.small)(hr:∀p∈b.qs,p.fB):Sq 174 [] [.agg r.cells,.agg b.cells] [.own 4 ((Eb r b).qs.map aB.cells),.own 3 ((yc r b).map aU.cells)] (.bI [.agg [.int .i64 (Eb r b).next,.sl 7 ((Eb r b).ts.map aR.cells),.ref 0],.ref 1,.int .i64 (Ag r b)]):=by
 have c1:=ga r h.small;have c2:=kV b R hr;have c3:=λn=>fF r n h.small;have c4:=sq b R;have B:=R.2;simp only[aA.cells,aH.cells]at c1 c2 c3 c4 |-;refine bp 117 2 [.cell 4 34,.tmp 5,.tmp 6] mixed func174 ?_;refine sc aS c1 ?_;cases E:r.okB
 ·have e:Ag r b=14:=by simp[Ag,E]
  simp only[go_sem,seval,Eb,yc,e];all_goals simp
 refine sc aS c2 ?_;cases N:b.okB
 ·have e:Ag r b=14:=by simp[Ag,E,N]
  simp only[go_sem,seval,Eb,yc,e];all_goals simp
 have e:Ag r b=uc r b.qs:=by simp[Ag,E,N]
 have s:=BU N;simp only[Eb,yc];rw[e];clear e c1 c2;refine s0 ?_;refine bg ?_;refine aG.bC c4 ?_;clear c4;refine s0 ?_;refine bg ?_;refine aF.wu b.qs.length [2,3,4,7] [48,64,80] (λi=>[(9,.I i),(8,.ref 1552)]) (λi=>[(128,.box [.I b.next,.sl 7 (b.ts.map aR.cells),.ref 1824]),(1552,.own 3 (((b.qs.take i).map (II r)).map aU.cells)),(1824,.own 4 (((b.qs.take i).flatMap (ud r)).map aB.cells))]) (λi=>uc r (b.qs.drop i)=uc r b.qs) rfl ?_ ?_ ?_
 ·exact kG
 ·intro i _ q S v a;have U:=br (c:=aB.cells) b.qs q;have hli:(i:Int)<(b.qs.length:Int):=ak
  have hlt:(b.qs.take i).length=i:=by simp;omega
  have o:=iq (ud r) q;have B:((b.qs.take i).flatMap (ud r)).length<=i:=by
   have:=gH (f:=ud r) (m:=1) (λp=>by unfold ud;split<;>simp) (b.qs.take i);omega
  have y:(b.qs.take (i+1)).map (II r)=(b.qs.take i).map (II r)++[II r b.qs[i]]:=by rw[jU q,jF];rfl
  obtain⟨n1,n2,Z⟩:=CF (s b.qs[i] (dS q));obtain⟨p,A⟩:=aN (b.qs[i]);obtain⟨Q,J⟩:=aN ((b.qs.take i).flatMap (ud r));obtain⟨L,H⟩:=aN ((b.qs.take i).map (II r));have hLl:L.length=i:=by rw[H];simp;omega
  have t:=c3 p.inst;have d:=λhh=>zI (r:=r) (n:=p.inst) E hh;obtain⟨x,M⟩:=aN (aZ r p.inst);rw[cg q,<-A]at a;simp only[uc,IJ,<-M]at a;rw[<-A,<-J]at o;rw[<-A,<-H]at y;rw[<-J]at B;simp only[ud,<-M]at o;simp only[II,<-M]at y;rw[<-A]at U n1 n2 Z;rw[<-M]at t d;rw[<-J,<-H];simp only[aB.cells]at U;simp only[aE.cells]at t;clear c3 J H A s;refine sc (a2 S U) t ?_;cases D:bJ r p.inst
  ·simp only[D,iM,if_false]at a;have j:uc r b.qs=10:=a.symm;refine sm (a2 D j) ?_;all_goals simp
  simp only[D,if_true]at a;have d:=d D;have V:=Pb d;have hmu:=(tI d).1;have O:=AE x;have F:=AK p x.mult (cy x) ⟨by omega,by omega⟩ Z ak V;have P:=EH p.aO (cy x) ⟨by omega,by omega⟩ ⟨by omega,by omega⟩;have Y:(if x.set==0 then x.aL else x.set)=cy x:=rfl;have X:(!(x.set==0&&x.aL==0))=cB x:=rfl;rw[Y,X]at O;obtain⟨W,K⟩:=aN (fY p x.mult (cy x));obtain⟨C,G⟩:=aN (p.aO*cy x);rw[<-K]at F;rw[<-G]at P;rw[<-K,<-G]at a;rw[<-G]at o;rw[<-K]at y;simp only[aE.cells]at O;simp only[aB.cells]at F;clear Y X K G;refine sc D O ?_;cases z:cB x
  case false =>
   cases k:p.aO==0
   ·simp only[z,k,Bool.not_false,Bool.and_self,if_true]at a;have j:uc r b.qs=20:=a.symm;refine sm (a4 z gr k j) ?_;all_goals simp
   simp only[z,k,Bool.not_true,Bool.and_false,iM,if_false]at a;refine sm (a3 z gr k) ?_;refine sc aS F ?_;refine sc aS P ?_;cases g:bB W
   ·simp only[g,cZ,iM,if_false]at a;have j:uc r b.qs=1:=a.symm;refine sm (a2 g j) ?_;all_goals simp
   cases l:bB C
   ·simp only[g,l,Bool.and_false,iM,if_false]at a;have j:uc r b.qs=1:=a.symm;refine sm (a3 g l j) ?_;all_goals simp
   simp only[g,l,Bool.and_self,if_true]at a;cases w:C==0
   ·simp only[k,w,Bool.and_false,iM,if_false]at o;refine sm (a5 g l gr k (a2 w v)) ?_;refine bg ?_;refine ah.u q a ?_;exact gY (a2 o y)
   ·simp only[k,w,Bool.and_self,if_true,append_nil]at o;refine sm (a5 g l gr k (a2 w v)) ?_;refine bg ?_;refine ah.u q a ?_;exact gY (a2 o y)
  simp only[z,Bool.not_true,cZ,iM,if_false]at a;refine sc z F ?_;refine sc aS P ?_;cases g:bB W
  ·simp only[g,cZ,iM,if_false]at a;have j:uc r b.qs=1:=a.symm;refine sm (a2 g j) ?_;all_goals simp
  cases l:bB C
  ·simp only[g,l,Bool.and_false,iM,if_false]at a;have j:uc r b.qs=1:=a.symm;refine sm (a3 g l j) ?_;all_goals simp
  simp only[g,l,Bool.and_self,if_true]at a
  cases k:p.aO==0<;>cases w:C==0<;>(
   simp only[k,w,Bool.and_self,Bool.and_false,cZ,iM,if_false,if_true,append_nil]at o;refine sm (a5 g l gr k (a2 w v)) ?_;refine bg ?_;try refine ah.u q a ?_
   try simp only[go_sem,seval,o,y])
  all_goals simp
 ·intro _ T a;rw[jw]at a;have j:uc r b.qs=0:=a.symm;simp only[go_sem,seval,T,j,eu];all_goals simp
theorem Qm(r:aA)(b:aH)(h:r.jX)(a:b.small)(c:∀p∈b.qs,p.fB):Sq 174 [] [.agg r.cells,.agg b.cells] [] (.bI [.agg (Eb r b).cells,.sl 3 ((yc r b).map aU.cells),.int .i64 (Ag r b)]):=by
 refine Spec.frozen (SC r b h a c) [0,1] rfl ?_;intro r;rcases r with _| _|r<;>rfl
def jG(b:aY):Bool:=within b.aO 1 1048576&&within b.aL 1 1073741824
def jy:Int->List aY->List cj×Int
 |left,[]=>([],left)
 |left,b::r=>if 0<left then(⟨b.src,min left b.aO,b.aL⟩::(jy (left-min left b.aO) r).1,(jy (left-min left b.aO) r).2)else([],left)
def j5(q:Int)(l:List aY):Int:=if within q (-1099511627776) 1099511627776&&l.all jG then 0 else 3
def iB(q:Int)(l:List aY):List cj×Int:=if j5 q l=0 then jy (max q (-q)) (vc (decide (0<q)) l)else([],0)
theorem KK:∀(l:List aY)(a:Int),(jy a l).1.length<=l.length
 | [],_=>fS _
 |b::r,a=>by
  simp only[jy];split
  ·have:=KK r (a-min a b.aO);simp only[length_cons];omega
  ·simp
def Qf(q:Int)(l:List aY)(hl:l.length<2^28):Sq 279 [] [.int .i64 q,.sl 5 (l.map aY.cells)] [.own 3 ((iB q l).1.map cj.cells)] (.bI [.ref 0,.int .i64 (iB q l).2,.int .i64 (j5 q l)]):=by
 have c1:=jd q (-1099511627776) 1099511627776;have c2:=JY (decide (0<q)) l ak;have G:(vc (decide (0<q)) l).length=l.length:=by rw[vc,Cw];simp
 refine bp 83 2 [.tmp 4,.tmp 5,.tmp 6] mixed func279 ?_;refine sc aS c1 ?_;cases E:within q (-1099511627776) 1099511627776
 ·have e:j5 q l=3:=by simp[j5,E]
  simp only[go_sem,seval,iB,e]<;>simp
 have e:j5 q l=if l.all jG then 0 else 3:=by simp[j5,E]
 have hq:-1099511627776<=q/\q<=1099511627776:=by simpa[within]using E
 simp only[iB];rw[e];clear e c1;simp only[go_sem,seval];refine aF.w1 l.length 7 [0,1] [] (λi _=>(l.drop i).all jG=l.all jG) rfl ?_ ?_
 ·intro i _ p k y h;obtain⟨x,B,w,F⟩:=oc (c:=aY.cells) l p;have K:=jd x.aO 1 1048576;have M:=jd x.aL 1 1073741824;rw[cg p,<-B]at h;simp only[all_cons,jG]at h;simp only[aY.cells]at w;clear c2;refine sc (a2 k w) K ?_;cases A:within x.aO 1 1048576
  ·rw[A,cZ,cZ]at h;have v:l.all jG=false:=h.symm;exact gY (a2 A v)
  refine sc (a2 A w) M ?_;cases C:within x.aL 1 1073741824
  ·rw[A,C,Bool.and_false,cZ]at h;have v:l.all jG=false:=h.symm;exact gY (a2 C v)
  rw[A,C,Bool.and_self,cm]at h;simp only[go_sem,seval,C,y];refine ah.u p h ?_;simp only[go_sem,seval]
 intro _ n h;rw[jw]at h;have h:l.all jG=true:=h.symm;have t:∀b∈vc (decide (0<q)) l,jG b=true:=by
  have key:∀(long:Bool)(m out:List aY),(∀b∈out,jG b=true)->(∀b∈m,jG b=true)->∀b∈Bh long out m,jG b=true:=by
   intro long m;induction m with
   |nil=>intro out f _;exact f
   |cons x r ih =>
    intro out f g;refine ih _ ?_ λb j=>g b (by simp[j]);intro b j;rcases mem_append.1 j with j|j
    ·exact f b (mem_of_mem_take j)
    ·rcases mem_cons.1 j with rfl|j
     ·exact g b sT
     ·exact f b (mem_of_mem_drop j)
  exact key _ l [] sT λb j=>bL.1 h b j
 rw[h];clear h;obtain⟨o,I⟩:=aN (vc (decide (0<q)) l);rw[<-I]at c2 G t |-;have H:IntKind.wrap .i64 (0-q) = -q:=fQ;refine sc (a2 n H) c2 ?_;refine bg ?_;clear c2 n;refine aF.sK (S:=List cj×Int) o.length [9] [] (λi s=>[(11,.int .i64 i),(8,.int .i64 s.2),(10,.ref 1296)]) (λi s=>[(1296,.own 3 (s.1.map cj.cells))]) (λi s=>(s.1++(jy s.2 (o.drop i)).1=(jy (max q (-q)) o).1/\(jy s.2 (o.drop i)).2=(jy (max q (-q)) o).2)/\s.1.length=i/\(0<=s.2/\s.2<=1099511627776)) ([],max q (-q)) ⟨⟨rfl,rfl⟩,rfl,by omega⟩ ?_ ?_ ?_
 ·exact kG
 ·rintro i ⟨L,a⟩ p k y ⟨⟨f,g⟩,h3,h4⟩;dsimp only at f g h3 h4;obtain⟨x,B,w,F⟩:=oc (c:=aY.cells) o p;have z:=t _ (dS p);rw[cg p,<-B]at f g;rw[<-B]at z;simp only[jG,within,bQ,bz]at z;simp only[jy]at f g;simp only[aY.cells]at w;by_cases D:0<a
  ·have d:decide (0<a)=true:=dY D;rw[aq D]at f g;have J:IntKind.wrap .i64 (a-min a x.aO)=a-min a x.aO:=gO ak ak;simp only[go_sem,seval,k,w,d,J,y];refine bg ?_;refine ah.jT (L++[⟨x.src,min a x.aO,x.aL⟩],a-min a x.aO) p ⟨⟨by rw[dz];exact f,g⟩,by simp[h3],by dsimp only;omega⟩ ?_;exact kG
  ·have d:decide (0<a)=false:=iA D;rw[au D]at f g;rw[append_nil]at f;simp only[go_sem,seval,k,w,d,if_true,<-f,<-g];all_goals simp
 ·rintro⟨L,a⟩ n ⟨⟨f,g⟩,h3,h4⟩;dsimp only at f g;rw[jw]at f g;simp only[jy,append_nil]at f g;simp only[go_sem,seval,n,if_true,<-f,<-g];all_goals simp
def oH(q n:Int)(p:aB):Bool:=p.inst==n&&((decide (0<q)&&decide (p.aO<0))||(decide (q<0)&&decide (0<p.aO)))
def sP(q n:Int)(l:List aB):List Int:=pick (oH q n) aB.who l
def iU(q n:Int)(l:List aB):List Int:=pick (oH q n) (λp=>max p.aO (-p.aO)) l
def JZ(b:aH)(w n:Int)(t:b.small)(C:∀p∈b.qs,-1099511627776<=p.aO/\p.aO<=1099511627776):Sq 297 [] [.agg b.cells,.agg [.int .i64 w,.int .i64 n]] [.own 1 (ints (sP (posOf w n b.qs).aO n b.qs)),.own 1 (ints (iU (posOf w n b.qs).aO n b.qs))] (.bI [.ref 0,.ref 1]):=by
 have c1:=sR b w n t;have hbl:=t.2;obtain⟨p,u⟩:=aN (posOf w n b.qs);rw[<-u]at c1 |-;simp only[aH.cells,aB.cells]at c1 |-;clear u;refine bp 68 2 [.tmp 4,.tmp 5] mixed func297 ?_;refine sc aS c1 ?_;refine bg ?_;clear c1;refine aF.wv b.qs.length [2,3,6] [48,64] (λi=>[(9,.int .i64 i),(7,.ref 912),(8,.ref 1056)]) (λi=>[(912,.own 1 (ints (sP p.aO n (b.qs.take i)))),(1056,.own 1 (ints (iU p.aO n (b.qs.take i))))]) ?_ ?_ ?_
 ·simp only[go_sem,seval]<;>simp[sP,iU,pick,ints]
 ·intro i _ e f g _;obtain⟨x,D,m,hli⟩:=oc (c:=aB.cells) b.qs e;have a:ints (sP p.aO n (b.qs.take (i+1)))=ints (sP p.aO n (b.qs.take i))++_:=fK (oH p.aO n) aB.who e;have d:ints (iU p.aO n (b.qs.take (i+1)))=ints (iU p.aO n (b.qs.take i))++_:=fK (oH p.aO n) (λp=>max p.aO (-p.aO)) e;have k:(sP p.aO n (b.qs.take i)).length<=(b.qs.take i).length:=bN _ _ _;have l:(iU p.aO n (b.qs.take i)).length<=(b.qs.take i).length:=bN _ _ _;have hlt:(b.qs.take i).length=i:=by simp;omega
  have q:=C _ (dS e);obtain⟨L,r⟩:=aN (sP p.aO n (b.qs.take i));obtain⟨M,s⟩:=aN (iU p.aO n (b.qs.take i));rw[<-r]at a k;rw[<-s]at d l;rw[<-D]at a d q;rw[<-r,<-s];have o:IntKind.wrap .i64 (0-x.aO) = -x.aO:=fQ;simp only[oH]at a d;simp only[aB.cells]at m;cases h:x.inst==n
  ·simp only[h,cZ,iM,if_false,append_nil]at a d;simp only[go_sem,seval,f,m,h,g];refine bg ?_;refine ah.v e ?_;simp only[go_sem,seval,a,d]
  cases y:decide (0<p.aO)<;>cases z:decide (x.aO<0)<;>cases A:decide (p.aO<0)<;>cases B:decide (0<x.aO)<;>(
   simp only[h,y,z,A,B,cm,cZ,Bool.and_self,Bool.and_false,Bool.or_self,Bool.or_false,Bool.false_or,Bool.or_true,Bool.true_or,iM,if_false,if_true,append_nil]at a d;simp only[go_sem,seval,f,m,h,y,z,A,B,o,g,az];refine bg ?_;refine ah.v e ?_
   simp only[go_sem,seval,a,d])
 ·intro _ j _;simp only[go_sem,seval,j,eu]
def Iv(b:aH)(w n:Int)(a:b.small)(c:∀p∈b.qs,-1099511627776<=p.aO/\p.aO<=1099511627776):Sq 297 [] [.agg b.cells,.agg [.int .i64 w,.int .i64 n]] [] (.bI [.sl 1 (ints (sP (posOf w n b.qs).aO n b.qs)),.sl 1 (ints (iU (posOf w n b.qs).aO n b.qs))]):=by
 refine Spec.frozen (JZ b w n a c) [0,1] rfl ?_;intro r;rcases r with _| _|r<;>rfl
def Nh(q:Int)(l:List aY)(a:l.length<2^28):Sq 279 [] [.int .i64 q,.sl 5 (l.map aY.cells)] [] (.bI [.sl 3 ((iB q l).1.map cj.cells),.int .i64 (iB q l).2,.int .i64 (j5 q l)]):=by
 refine Spec.frozen (Qf q l a) [0] rfl ?_;intro r;rcases r with _|r<;>rfl
def qa(f:cj):Bool:=within f.aO 0 1099511627776&&within f.aL 0 1073741824
def zk(long:Bool)(n:Int):Int:=if long then n else -n
def lM(w n:Int)(long:Bool)(f:cj):List aB:=[⟨f.src,n,zk long f.aO,zk long (f.aO*f.aL)⟩,⟨w,n,-zk long f.aO,-zk long (f.aO*f.aL)⟩]
def iC(l:List cj):Int:=if l.all qa then(if l.all λf=>bB (f.aO*f.aL)then 0 else 1)else 3
def kI(w n:Int)(long:Bool)(l:List cj):List aB:=if iC l=0 then l.flatMap (lM w n long)else[]
def JW(w n:Int)(long:Bool)(l:List cj)(hl:l.length<2^28):Sq 280 [] [.agg [.int .i64 w,.int .i64 n],.bool long,.sl 3 (l.map cj.cells)] [.own 4 ((kI w n long l).map aB.cells)] (.bI [.ref 0,.int .i64 (iC l)]):=by
 simp only[kI];refine bp 86 3 [.tmp 6,.tmp 7] mixed func280 ?_;simp only[go_sem,seval];refine aF.w1 l.length 8 [1,2,3] [64] (λi _=>(l.drop i).all qa=l.all qa) rfl ?_ ?_
 ·intro i _ d p h a;obtain⟨x,s,j,v⟩:=oc (c:=cj.cells) l d;have F:=jd x.aO 0 1099511627776;have G:=jd x.aL 0 1073741824;rw[cg d,<-s]at a;simp only[all_cons,qa]at a;simp only[cj.cells]at j;refine sc (a2 p j) F ?_;cases b:within x.aO 0 1099511627776
  ·rw[b,cZ,cZ]at a;have o:iC l=3:=by simp only[iC];rw[show l.all qa=false from a.symm];rfl
   exact gY (a2 b o)
  refine sc (a2 b j) G ?_;cases t:within x.aL 0 1073741824
  ·rw[b,t,Bool.and_false,cZ]at a;have o:iC l=3:=by simp only[iC];rw[show l.all qa=false from a.symm];rfl
   exact gY (a2 t o)
  rw[b,t,Bool.and_self,cm]at a;simp only[go_sem,seval,t,h];refine ah.u d a ?_;simp only[go_sem,seval]
 intro _ g a;rw[jw]at a;have a:l.all qa=true:=a.symm;have q:∀f∈l,qa f=true:=bL.1 a;have e:iC l=if l.all λf=>bB (f.aO*f.aL)then 0 else 1:=by simp[iC,a]
 rw[e];clear e a;simp only[go_sem,seval,g];clear g;refine aF.wu l.length [1,2,3] [64] (λi=>[(10,.int .i64 i),(9,.ref 1360)]) (λi=>[(1360,.own 4 (((l.take i).flatMap (lM w n long)).map aB.cells))]) (λi=>((l.drop i).all λf=>bB (f.aO*f.aL))=l.all λf=>bB (f.aO*f.aL)) rfl ?_ ?_ ?_
 ·exact kG
 ·intro i _ d p h a;obtain⟨x,s,j,v⟩:=oc (c:=cj.cells) l d;have k:=iq (lM w n long) d;have y:=gH (f:=lM w n long) (m:=2) (λf=>by simp[lM]) (l.take i);have hlt:(l.take i).length=i:=by simp;omega
  have r:=q _ (dS d);obtain⟨L,E⟩:=aN ((l.take i).flatMap (lM w n long));rw[<-E]at k y |-;rw[cg d,<-s,all_cons]at a;rw[<-s]at k r;simp only[qa,within,bQ,bz]at r;have c1:=EH x.aO x.aL ⟨by omega,by omega⟩ ⟨by omega,by omega⟩;simp only[lM]at k;obtain⟨C,D⟩:=aN (x.aO*x.aL);rw[<-D]at c1 a k;simp only[cj.cells]at j;refine sc (a2 p j) c1 ?_;cases b:bB C
  ·rw[b,cZ]at a;rw[<-a];simp only[go_sem,seval,b];all_goals simp
  have hCr:=aP.1 b;rw[b,cm]at a;have w1:IntKind.wrap .i64 (0-x.aO) = -x.aO:=fQ;have z:IntKind.wrap .i64 (0-C) = -C:=fQ;have A:IntKind.wrap .i64 (0 - -x.aO) = - -x.aO:=fQ;have B:IntKind.wrap .i64 (0 - -C) = - -C:=fQ;cases long
  ·simp only[zk,iM,if_false]at k;simp only[go_sem,seval,b,j,w1,z,A,B,h,if_true];refine bg ?_;refine ah.u d a ?_;exact gY k
  ·simp only[zk,if_true]at k;simp only[go_sem,seval,b,j,w1,z,A,B,h,if_true];refine bg ?_;refine ah.u d a ?_;exact gY k
 ·intro _ g a;rw[jw]at a;rw[<-a];simp only[go_sem,seval,g,eu]
  and_intros<;>first|exact .dq|omega|skip
  all_goals simp
def y4(w n:Int)(long:Bool)(l:List cj)(a:l.length<2^28):Sq 280 [] [.agg [.int .i64 w,.int .i64 n],.bool long,.sl 3 (l.map cj.cells)] [] (.bI [.sl 4 ((kI w n long l).map aB.cells),.int .i64 (iC l)]):=by
 refine Spec.frozen (JW w n long l a) [0] rfl ?_;intro r;rcases r with _|r<;>rfl
def Ir(t:Int)(l:List Int)(a:l.length<2^30):Sq 251 [] [.int .i64 t,.sl 1 (ints l)] [] (.bI [.sl 1 (ints (if iP t l=0 then tD t l else[])),.int .i64 (if iP t l=0 then wR t l else 0),.int .i64 (iP t l)]):=by
 refine Spec.frozen (JU t l a) [0] rfl ?_;intro r;rcases r with _|r<;>rfl
def jx(c aV:Int)(a:List Int):Int:=if(within c 0 2&&a.length==5)&&(within aV 0 4611686018427387904&&iP aV a==0)then 0 else 3
def AW(c aV rest:Int)(g:List Int):dM:=⟨c,aV,g.getD 0 0,g.getD 1 0,g.getD 2 0,g.getD 3 0,g.getD 4 0,rest⟩
def jL(c aV:Int)(a:List Int):dM:=if jx c aV a=0 then AW c aV (wR aV a) (tD aV a)else⟨0,0,0,0,0,0,0,0⟩
theorem G4:∀(l:List Int)(t:Int),(tD t l).length=l.length
 | [],_=>rfl
 |c::r,t=>by simp only[tD,length_cons,G4 r]
def Xu(g:List Int)(i:Nat):List D:=[.I (if 0<i then g.getD 0 0 else 0),.I (if 1<i then g.getD 1 0 else 0),.I (if 2<i then g.getD 2 0 else 0),.I (if 3<i then g.getD 3 0 else 0),.I (if 4<i then g.getD 4 0 else 0)]
def Ng(c aV:Int)(a:List Int)(t:a.length<2^30):Sq 188 [] [.int .i64 c,.int .i64 aV,.sl 1 (ints a)] [] (.bI [.agg (jL c aV a).cells,.int .i64 (jx c aV a)]):=by
 have c1:=iX c;have c2:=jd aV 0 4611686018427387904;have c3:=Ir aV a t;refine bp 53 3 [.cell 6 88,.tmp 7] mixed func188 ?_;refine sc aS c1 ?_;cases n:within c 0 2
 ·have e:jx c aV a=3:=by simp[jx,n]
  simp only[go_sem,seval,jL,e,dM.cells]<;>simp
 by_cases k:a.length=5
 case neg =>
  have d:(((a.length:Nat):Int)==5)=false:=by simp;omega
  have e:jx c aV a=3:=by simp[jx,k]
  simp only[go_sem,seval,az,bne,d,jL,e,dM.cells]<;>simp
 have r:(((a.length:Nat):Int)==5)=true:=by simp;omega
 simp only[go_sem,seval,az,bne,r];refine sc aS c2 ?_;cases o:within aV 0 4611686018427387904
 ·have e:jx c aV a=3:=by simp[jx,o]
  simp only[go_sem,seval,jL,e,dM.cells]<;>simp
 refine sc aS c3 ?_;by_cases f:iP aV a=0
 case neg =>
  have d:(iP aV a==0)=false:=su f;have e:jx c aV a=3:=by simp[jx,d]
  rw[au f,au f];simp only[go_sem,seval,bne,d,jL,e,dM.cells]<;>simp
 have e:jx c aV a=0:=by simp[jx,n,k,o,f]
 have l:(tD aV a).length=5:=by rw[G4,k]
 simp only[jL,e,if_true];rw[f,aq rfl,aq rfl];obtain⟨g,j⟩:=aN (tD aV a);obtain⟨T,p⟩:=aN (wR aV a);rw[<-j]at l |-;rw[<-p];clear j p c1 c2 c3 e;simp only[go_sem,seval];refine bg ?_;refine aF.wv 5 [6,8,11] [112] (λi=>[(12,.int .i64 i)]) (λi=>[(192,.box ([.int .i64 c,.int .i64 aV]++Xu g i++[.int .i64 T]))]) ?_ ?_ ?_
 ·simp only[go_sem,seval,Xu]<;>simp
 ·intro i _ s b m _;have b:decide ((i:Int)<5)=true:=b;have h:i<g.length:=ak
  have q:=ints_at g h;have j:g[i]=g.getD i 0:=by simp[h]
  rw[j]at q;have hli:(i:Int)<(g.length:Int):=ak
  obtain rfl|rfl|rfl|rfl|rfl:i=0\/i=1\/i=2\/i=3\/i=4:=ak
  all_goals
   simp only[Xu,cons_append,nil_append];simp only[go_sem,seval,b,az,q,m];refine bg ?_;refine ah.v s ?_;simp only[go_sem,seval,Xu];all_goals rfl
 ·intro _ hdx _;simp only[go_sem,seval,Xu,AW,dM.cells];all_goals simp
theorem G1(a b:Int):Sq 263 [] [.agg [.int .u64 (a/18446744073709551616),.int .u64 (a%18446744073709551616)],.agg [.int .u64 (b/18446744073709551616),.int .u64 (b%18446744073709551616)]] [] (.int .i64 (gm a b)):=by
 have d:=mP (a/18446744073709551616) (b/18446744073709551616);have f:=mP (a%18446744073709551616) (b%18446744073709551616);have c:=tC (gm (a/18446744073709551616) (b/18446744073709551616)) (gm (a%18446744073709551616) (b%18446744073709551616));have e:(if gm (a/18446744073709551616) (b/18446744073709551616)=0 then gm (a%18446744073709551616) (b%18446744073709551616)else gm (a/18446744073709551616) (b/18446744073709551616))=gm a b:=by
  unfold gm;repeat' split
  all_goals omega
 rw[e]at c;refine bp 17 2 [.tmp 4] mixed func263 ?_;refine sc aS d ?_;refine sc aS f ?_;exact WQ aS c
theorem Kb(x y:Int×Nat):∃c:Int,Sq 262 [] [.agg (pz x),.agg (pz y)] [] (.int .i64 c)/\decide (c<0)=ZP x y:=by
 have h:=G1 y.1 x.1;refine⟨gm y.1 x.1,?_,?_⟩
 ·simp only[pz];refine bp 10 2 [.tmp 4] mixed func262 ?_;exact sZ aS h
 ·rw[nJ,decide_eq_true_iff,ZP,decide_eq_true_iff,gm];repeat' split
  all_goals omega
def IZ(rs:List Int)(a:rs.length<2^38):Sq 261 [.own 3 ((Fk rs).map pz)] [.ref 0,.fn 262 []] [.own 3 ((tY rs).map pz)] (.bI []):=
 Ka ZP 262 Kb (Fk rs) (by rw[Fk,length_zipIdx];exact a)
theorem Mz(w n:Int)(long:Bool)(l:List cj)(hl:l.length<2^28):Sq 200 [] [.agg [.int .i64 w,.int .i64 n],.bool long,.sl 3 (l.map cj.cells)] [.own 4 ((kI w n long l).map aB.cells)] (.bI [.ref 0,.int .i64 (iC l)]):=by
 simp only[kI];refine bp 86 3 [.tmp 6,.tmp 7] mixed func200 ?_;refine s0 ?_;refine aF.w1 l.length 18 [1,2,3,16,17] [64,288] (λi _=>(l.drop i).all qa=l.all qa) rfl ?_ ?_
 ·intro i _ g d p a;obtain⟨x,y,k,j⟩:=oc (c:=cj.cells) l g;rw[cg g,<-y]at a;simp only[all_cons,qa]at a;simp only[cj.cells]at k;have bad:(within x.aO 0 1099511627776&&within x.aL 0 1073741824)=false->iC l=3:=λh=>by
   rw[h,cZ]at a;simp only[iC];rw[show l.all qa=false from a.symm];rfl
  by_cases E:x.aO<0
  ·have r:decide (x.aO<0)=true:=dY E;have b:=bad (by simp[within];omega);simp only[go_sem,seval,d,k,r,b]<;>simp[j,g]
  have r:decide (x.aO<0)=false:=iA E;by_cases F:1099511627776<x.aO
  ·have v:decide (1099511627776<x.aO)=true:=dY F;have b:=bad (by simp[within];omega);simp only[go_sem,seval,d,k,r,v,b]<;>simp[j,g]
  have v:decide (1099511627776<x.aO)=false:=iA F;by_cases G:x.aL<0
  ·have z:decide (x.aL<0)=true:=dY G;have b:=bad (by simp[within];omega);simp only[go_sem,seval,d,k,r,v,z,b]<;>simp[j,g]
  have z:decide (x.aL<0)=false:=iA G;by_cases H:1073741824<x.aL
  ·have D:decide (1073741824<x.aL)=true:=dY H;have b:=bad (by simp[within];omega);simp only[go_sem,seval,d,k,r,v,z,D,b]<;>simp[j,g]
  have D:decide (1073741824<x.aL)=false:=iA H;have Q:(within x.aO 0 1099511627776&&within x.aL 0 1073741824)=true:=by simp[within];omega
  rw[Q,cm]at a;refine sm (a5 d k r v (a3 z D p)) ?_;refine bg ?_;refine ah.u g a ?_;exact jq
 intro _ o a;rw[jw]at a;have a:l.all qa=true:=a.symm;have s:∀f∈l,qa f=true:=bL.1 a;have e:iC l=if l.all λf=>bB (f.aO*f.aL)then 0 else 1:=by simp[iC,a]
 rw[e];clear e a;refine sm o ?_;clear o;refine aF.wu l.length [1,3,41,42] [64,688] (λi=>[(43,.I i),(10,.ref 1344)]) (λi=>[(1344,.own 4 (((l.take i).flatMap (lM w n long)).map aB.cells))]) (λi=>((l.drop i).all λf=>bB (f.aO*f.aL))=l.all λf=>bB (f.aO*f.aL)) rfl ?_ ?_ ?_
 ·exact kG
 ·intro i _ g d p a;obtain⟨x,y,k,j⟩:=oc (c:=cj.cells) l g;have q:=iq (lM w n long) g;have A:=gH (f:=lM w n long) (m:=2) (λf=>by simp[lM]) (l.take i);have hlt:(l.take i).length=i:=by simp;omega
  have t:=s _ (dS g);obtain⟨L,P⟩:=aN ((l.take i).flatMap (lM w n long));rw[<-P]at q A |-;rw[cg g,<-y,all_cons]at a;rw[<-y]at q t;simp only[qa,within,bQ,bz]at t;have c1:=xD x.aO x.aL ⟨by omega,by omega⟩ ⟨by omega,by omega⟩;simp only[lM]at q;obtain⟨C,O⟩:=aN (x.aO*x.aL);rw[<-O]at c1 a q;have c2:=xF C;simp only[wd]at c1 c2;simp only[cj.cells]at k;obtain⟨B,J⟩:=aN (bB C);rw[<-J]at c2 a;refine sc (a2 d k) c1 ?_;cases B
  ·rw[cZ]at a;rw[<-a];simp only[iM,if_false]at c2;refine aG.bC c2 ?_;refine s0 ?_;all_goals simp
  have hCr:=aP.1 J.symm;rw[cm]at a;have w1:IntKind.wrap .i64 (0-x.aO) = -x.aO:=fQ;have K:IntKind.wrap .i64 (0-C) = -C:=fQ;have M:IntKind.wrap .i64 (0 - -x.aO) = - -x.aO:=fQ;have N:IntKind.wrap .i64 (0 - -C) = - -C:=fQ;simp only[if_true]at c2;refine sc aS c2 ?_;cases long
  ·simp only[zk,iM,if_false]at q;simp only[go_sem,seval,k,w1,K,M,N,p,if_true];refine bg ?_;refine ah.u g a ?_;exact gY q
  ·simp only[zk,if_true]at q;simp only[go_sem,seval,k,w1,K,M,N,p,if_true];refine bg ?_;refine ah.u g a ?_;exact gY q
 ·intro _ o a;rw[jw]at a;rw[<-a];simp only[go_sem,seval,o,eu]
  and_intros<;>first|exact .dq|omega|skip
  all_goals simp
def xS(l:bu)(c n:Int)(ws:List Int):Int:=if dV l c ws=0 then oQ 3 c n (ir l c ws) ws (bH l c ws)else dV l c ws
def tO(l:bu)(c n:Int)(ws:List Int):List aK:=if dV l c ws=0 then rC 3 c n (ir l c ws) ws (bH l c ws)else[]
def Nk(l:bu)(c n:Int)(ws:List Int)(e:l.bs.length<2^30)(g:∀b∈l.bs,b.fB)(f:ws.length<2^27):Sq 252 [] [.agg l.cells,.int .i64 c,.int .i64 n,.sl 1 (ints ws)] [] (.bI [.sl 4 ((tO l c n ws).map aK.cells),.int .i64 (xS l c n ws)]):=by
 have c1:=y8 l c ws e g ak;have c2:=AD l c ws e ak;have c3:=Aw 3 c n (ir l c ws) ws (bH l c ws) (by simp[bH]) f;simp only[bu.cells]at c1 c2 |-;simp only[tO,xS];refine bp 33 4 [.tmp 8,.tmp 9] mixed func252 ?_;refine sc aS c1 ?_;by_cases a:dV l c ws=0
 case neg =>
  have d:(dV l c ws==0)=false:=su a;simp only[go_sem,seval,bne,d,au a]<;>simp
 rw[a,aq rfl,aq rfl];refine sc aS c2 ?_;exact sZ aS c3
def nS(r:aA)(c n:Int)(ws:List Int):Int:=if gp r ws=0 then(if within c 0 2 then oQ 2 c n (ke r ws) ws (cr r ws)else 3)else gp r ws
def kN(r:aA)(c n:Int)(ws:List Int):List aK:=if gp r ws=0&&within c 0 2 then rC 2 c n (ke r ws) ws (cr r ws)else[]
def Il(r:aA)(c n:Int)(ws:List Int)(h:r.jX)(e:∀m∈r.ms,m.fB)(b:ws.length<2^27):Sq 253 [] [.agg r.cells,.int .i64 c,.int .i64 n,.sl 1 (ints ws)] [] (.bI [.sl 4 ((kN r c n ws).map aK.cells),.int .i64 (nS r c n ws)]):=by
 have c1:=AB r ws h e ak;have c2:=y7 r ws h ak;have c3:=Aw 2 c n (ke r ws) ws (cr r ws) (by simp[cr]) b;have c4:=iX c;simp only[aA.cells]at c1 c2 |-;simp only[kN,nS];refine bp 34 4 [.tmp 8,.tmp 9] mixed func253 ?_;refine sc aS c1 ?_;by_cases a:gp r ws=0
 case neg =>
  have d:(gp r ws==0)=false:=su a;simp only[go_sem,seval,bne,d,au a]<;>simp[a]
 rw[a,aq rfl];refine sc aS c4 ?_;cases b2:within c 0 2
 ·exact kG
 refine sc aS c2 ?_;refine bg ?_;refine aG.bC c3 ?_;exact kG
def oD(ws ps:List Int)(i:Nat):List cj:=if 0<ps.getD i 0 then[⟨ws.getD i 0,ps.getD i 0,0⟩]else[]
def ES(ws ps:List Int):List cj:=pQ (oD ws ps) ps.length
def iR(b:aH)(w n k:Int):Int:=if b.okB then(if within k 0 1099511627776 then(if ay (iU (posOf w n b.qs).aO n b.qs)<k then 13 else 0)else 3)else 14
def jt(b:aH)(w n k:Int):List cj:=if iR b w n k=0 then ES (sP (posOf w n b.qs).aO n b.qs) (bA k (iU (posOf w n b.qs).aO n b.qs))else[]
theorem vW{A:Type}(p:A->Bool)(f g:A->Int):∀l:List A,(pick p f l).length=(pick p g l).length
 | []=>rfl
 |x::r=>by
  have:=vW p f g r;simp only[pick,flatMap_cons,cR]at this |-;split<;>simp[this]
theorem qO{B:Int}(a:0<=B):∀{l:List Int},(∀x∈l,0<=x/\x<=B)->0<=ay l/\ay l<=B*l.length
 | [],_=>by simp[ay]
 |x::r,h=>by
  have h1:=h x sT;have h2:=qO a (l:=r) λy b=>h y (by simp[b]);simp only[ay,length_cons];push_cast;rw[Int.mul_add];omega
def Qn(b:aH)(w n k:Int)(P:b.small)(U:∀p∈b.qs,p.fB)(hq:b.qs.length<2^20):Sq 281 [] [.agg b.cells,.agg [.int .i64 w,.int .i64 n],.int .i64 k] [.own 3 ((jt b w n k).map cj.cells)] (.bI [.ref 0,.int .i64 (iR b w n k)]):=by
 have c1:=kV b P U;have c2:=jd k 0 1099511627776;simp only[aH.cells]at c1 |-;refine bp 73 3 [.tmp 6,.tmp 7] mixed func281 ?_;simp only[go_sem,seval];refine sc aS c1 ?_;cases A:b.okB
 ·have e:iR b w n k=14:=by simp[iR,A]
  simp only[go_sem,seval,jt,e]<;>simp
 simp only[go_sem,seval];refine sc aS c2 ?_;cases N:within k 0 1099511627776
 ·have e:iR b w n k=3:=by simp[iR,A,N]
  simp only[go_sem,seval,jt,e]<;>simp
 have e:iR b w n k=if ay (iU (posOf w n b.qs).aO n b.qs)<k then 13 else 0:=by simp[iR,A,N]
 have s:=λp t=>CF (BU A p t);have c3:=Iv b w n P (λp t=>⟨(s p t).1,(s p t).2.1⟩);have c:(sP (posOf w n b.qs).aO n b.qs).length=(iU (posOf w n b.qs).aO n b.qs).length:=vW _ _ _ _;have J:(iU (posOf w n b.qs).aO n b.qs).length<=b.qs.length:=bN _ _ _;have r:∀x∈iU (posOf w n b.qs).aO n b.qs,0<=x/\x<=1099511627776:=jN λp t=>by have:=s p t;omega
 simp only[jt];rw[e];obtain⟨ns,y⟩:=aN (iU (posOf w n b.qs).aO n b.qs);obtain⟨ws,z⟩:=aN (sP (posOf w n b.qs).aO n b.qs);rw[<-y]at c J r c3 |-;rw[<-z]at c c3 |-;simp only[aH.cells]at c3;clear y z e c1 c2;simp only[go_sem,seval]
 and_intros<;>first|exact .dq|omega|skip
 refine aG.bC c3 ?_;clear c3;simp only[go_sem,seval,az]
 and_intros<;>first|exact .dq|omega|skip
 refine aF.wv ns.length [2,8,9] [] (λi=>[(11,.int .i64 i),(10,.int .i64 (ay (ns.take i)))]) (λ_=>[]) ?_ ?_ ?_
 ·simp only[go_sem,seval]<;>simp[ay]
 ·intro i _ h g o _;have D:=ints_at ns h;have j:ay (ns.take (i+1))=ay (ns.take i)+ns[i]:=by rw[jU h,pJ]
  have O:=qO (B:=1099511627776) (by decide) (l:=ns.take i) λx W=>r x (mem_of_mem_take W);have h2:=r ns[i] (dS h);have H:(ns.take i).length=i:=by simp;omega
  obtain⟨S,T⟩:=aN (ay (ns.take i));rw[<-T]at j O |-;rw[H]at O;have V:IntKind.wrap .i64 (S+ns[i])=S+ns[i]:=gO ak ak;have hli:(i:Int)<(ns.length:Int):=ak
  simp only[go_sem,seval,az,g,D,V,o]
  and_intros<;>first|exact .dq|omega|skip
  refine ah.v h ?_;simp only[go_sem,seval,j]
 intro _ a _;rw[eu];by_cases C:ay ns<k
 ·have d:decide (ay ns<k)=true:=dY C;simp only[go_sem,seval,az,a,d,aq C]<;>simp
 have Q:decide (ay ns<k)=false:=iA C;have c4:=AG k ns ak;have K:=jV k ns;simp only[au C];obtain⟨ps,M⟩:=aN (bA k ns);rw[<-M]at c4 K |-;simp only[go_sem,seval,az,a,Q];refine bg ?_;refine aG.bC c4 ?_;clear c4 a;simp only[go_sem,seval,az,if_true]
 and_intros<;>first|exact .dq|omega|skip
 refine aF.wv ps.length [8,12] [] (λi=>[(15,.int .i64 i),(14,.ref 1152)]) (λi=>[(1152,.own 3 ((pQ (oD ws ps) i).map cj.cells))]) ?_ ?_ ?_
 ·simp only[go_sem,seval,mw]<;>simp
 ·intro i _ h g o _;have u:i<ws.length:=ak
  have D:=ints_at ps h;have I:=ints_at ws u;have E:ps.getD i 0=ps[i]:=by simp[h]
  have F:ws.getD i 0=ws[i]:=by simp[u]
  have j:=ji (oD ws ps) i;have G:=lX (f:=oD ws ps) (m:=1) (λi=>by unfold oD;split<;>simp) i;obtain⟨L,R⟩:=aN (pQ (oD ws ps) i);rw[<-R]at j G |-;simp only[oD,E,F]at j;have hlw:(i:Int)<(ws.length:Int):=ak
  have hlp:(i:Int)<(ps.length:Int):=ak
  by_cases q:0<ps[i]
  ·have d:decide (0<ps[i])=true:=dY q;rw[aq q]at j;simp only[go_sem,seval,az,g,D,d,I,o]
   and_intros<;>first|exact .dq|omega|skip
   refine ah.v h ?_;exact gY j
  ·have d:decide (0<ps[i])=false:=iA q;rw[au q,append_nil]at j;simp only[go_sem,seval,az,g,D,d,o]
   and_intros<;>first|exact .dq|omega|skip
   refine ah.v h ?_;simp only[go_sem,seval,j]
 ·intro _ a _;simp only[go_sem,seval,az,a,ES]
def Ix(l:bu)(r:aA)(c:Int)(a:l.bs.length<2^30)(e:∀b∈l.bs,b.fB)(h:r.jX)(d:r.ms.length<2^27):Sq 190 [] [.agg l.cells,.agg r.cells,.I c] [] (.bI [.sl 4 ((jQ l r c).map aK.cells),.sl 3 ((l7 l r c).map aU.cells),.I (mZ l r c)]):=by
 refine Spec.frozen (J0 l r c a e h d) [0] rfl ?_;intro r;rcases r with _|r<;>rfl
def El(k w c:Int):Sq 245 [] [.I k,.I w,.I c] [] (.agg [.I k,.I w,.I c]):=by
 refine bp 11 3 [.cell 6 70] mixed func245 ?_;simp only[go_sem,seval];all_goals(with_reducible and_intros)<;>first|exact .dq|omega|skip
def xY(b:aH)(g:List aB)(a:b.small)(d:∀p∈b.qs,p.fB)(c:g.length<2^29):Sq 229 [] [.agg b.cells,.sl 4 (g.map aB.cells)] [] (.bI [.agg (oN b g).cells,.I (jA b g)]):=by
 refine Spec.frozen (xw b g a d c) [0,1] rfl ?_;intro r;rcases r with _| _|r<;>rfl
def HJ(s:af)(w:Int):Int:=if bM s then(if bD s.aj w=0 then 10 else if bD s.aj w=2 then 0 else 14)else 14
def Qj(s:af)(w:Int)(d:s.small)(g:s.fB):Sq 243 [] [.agg s.cells,.I w] [] (.I (HJ s w)):=by
 have c1:=kk s d g;have c2:=qX s w d.aj.small;simp only[af.cells,HJ]at c1 c2 |-;obtain⟨t,h⟩:=aN (bD s.aj w);rw[<-h]at c2 |-;refine bp 15 2 [.tmp 4] mixed func243 ?_;refine sc aS c1 ?_;cases c:bM s
 ·simp only[go_sem,seval,c]
 refine sc c c2 ?_;by_cases a:t=0
 ·rw[a];simp only[go_sem,seval];all_goals(with_reducible and_intros)<;>first|exact .dq|omega|skip
 by_cases b:t=2
 ·rw[b];simp only[go_sem,seval];all_goals(with_reducible and_intros)<;>first|exact .dq|omega|skip
 have e:(t==0)=false:=su a;have f:(t==2)=false:=su b;rw[au a,au b];simp only[go_sem,seval,e,f];all_goals(with_reducible and_intros)<;>first|exact .dq|omega|skip
def AQ(s:af)(w n:Int)(b:aY):Bool:=(b.who==w&&b.inst==n)&&bD s.aj b.src==1
def eG(s:af)(w n:Int)(l:List aY):List aY:=l.flatMap λb=>if AQ s w n b then[b]else[]
def dw(p:Int)(f:cj):cj:={ f with aL:=p }
def jz(b:aH)(w n:Int)(long:Bool)(f:List cj):aH×Int:=if iC f=0 then(oN b (kI w n long f),jA b (kI w n long f))else(b,iC f)
def x5(b:aH)(w n p:Int)(long:Bool)(rest:Int):aH×Int:=if iR b w n rest=0 then jz b w n long ((jt b w n rest).map (dw p))else(b,iR b w n rest)
def lB(s:af)(b:aH)(w n q:Int):aH×Int:=
 if cB (aZ s.aj n)then
  (if j5 q (eG s w n s.aW)=0 then
   (if(jz b w n (decide (0<q)) (iB q (eG s w n s.aW)).1).2=0/\(iB q (eG s w n s.aW)).2≠0 then
    x5 (jz b w n (decide (0<q)) (iB q (eG s w n s.aW)).1).1 w n (cy (aZ s.aj n)) (decide (0<q)) (iB q (eG s w n s.aW)).2
   else jz b w n (decide (0<q)) (iB q (eG s w n s.aW)).1)
  else(b,j5 q (eG s w n s.aW)))
 else(b,20)
structure aH.fk(b:aH):Prop where
 small:b.small
 short:b.qs.length<2^20
 fB:∀p∈b.qs,p.fB
 ok:∀p∈b.qs,(-1099511627776<=p.aO/\p.aO<=1099511627776)/\bB p.cost=true
def Dp{b:aH}(d:b.fk)(g:List aB):(oN b g).fk:=by
 unfold oN;split
 ·rename_i h;have c:=(Dq h).2.2;refine⟨⟨d.small.1,?_⟩,?_,Th h,?_⟩
  ·have:=BP b g 16;show(yh b g 16).length<_;omega
  ·have:=BP b g 16;show(yh b g 16).length<_;omega
  ·intro p a;obtain⟨k,m,e,f,a⟩:=sF a;have:=Gf c e f;simp only[uT,within,bQ,bz]at this;unfold FH at a;split at a
   ·cases a
   ·obtain rfl:=gV.1 a;exact⟨this.2.2,this.2.1⟩
 ·exact⟨⟨by simp,by simp⟩,by simp,by simp,by simp⟩
def Bt{b:aH}(a:b.fk)(w n:Int)(long:Bool)(f:List cj):(jz b w n long f).1.fk:=by
 unfold jz;split
 ·exact Dp a _
 ·exact a
def SH{b:aH}(a:b.fk)(w n p:Int)(long:Bool)(rest:Int):(x5 b w n p long rest).1.fk:=by
 unfold x5;split
 ·exact Bt a _ _ _ _
 ·exact a
def SG{s:af}{b:aH}(a:b.fk)(w n q:Int):(lB s b w n q).1.fk:=by
 unfold lB;split
 ·split
  ·split
   ·exact SH (Bt a _ _ _ _) _ _ _ _ _
   ·exact Bt a _ _ _ _
  ·exact a
 ·exact a
def DC(w n:Int)(long:Bool)(f:List cj):(kI w n long f).length<=2*f.length:=by
 unfold kI;split
 ·exact gH (f:=lM w n long) (λf=>by simp[lM]) f
 ·simp
def LV(b:aH)(w n k:Int):(jt b w n k).length<=b.qs.length:=by
 unfold jt;split
 ·have h1:=lX (f:=oD (sP (posOf w n b.qs).aO n b.qs) (bA k (iU (posOf w n b.qs).aO n b.qs))) (m:=1) (λi=>by unfold oD;split<;>simp) (bA k (iU (posOf w n b.qs).aO n b.qs)).length;have h2:=jV k (iU (posOf w n b.qs).aO n b.qs);have h3:(iU (posOf w n b.qs).aO n b.qs).length<=b.qs.length:=bN _ _ _;simp only[ES];omega
 ·simp
def wJ(s:af)(w n:Int)(l:List aY):(eG s w n l).length<=l.length:=by
 have:=gH (f:=λb=>if AQ s w n b then[b]else[]) (m:=1) (λb=>by split<;>simp) l;simpa[eG]using this
def KN(q:Int)(l:List aY):(iB q l).1.length<=l.length:=by
 unfold iB;split
 ·refine Nat.le_trans (KK _ _) ?_;rw[vc,Cw];simp
 ·simp
theorem Np(s:af)(b:aH)(w n q:Int)(hs:s.small)(hb:b.fk)(hbl:s.aW.length<2^20):Sq 244 [] [.agg s.cells,.agg b.cells,.agg [.int .i64 w,.int .i64 n],.int .i64 q] [] (.bI [.agg (lB s b w n q).1.cells,.int .i64 (lB s b w n q).2]):=by
 have c1:=fF s.aj n hs.aj.small;have Z:=λw=>qX s w hs.aj.small;have c2:=AE (aZ s.aj n);have ep:(if(aZ s.aj n).set==0 then(aZ s.aj n).aL else(aZ s.aj n).set)=cy (aZ s.aj n):=rfl;have eh:(!((aZ s.aj n).set==0&&(aZ s.aj n).aL==0))=cB (aZ s.aj n):=rfl;rw[ep,eh]at c2;obtain⟨x,hx⟩:=aN (aZ s.aj n);have al:=wJ s w n s.aW;have c3:=Nh q (eG s w n s.aW) ak;have ad:=KN q (eG s w n s.aW);obtain⟨R,a⟩:=aN (lB s b w n q);have aa:=a;simp only[lB]at a;obtain⟨B,hB⟩:=aN (eG s w n s.aW);rw[<-aa];rw[<-hx]at c1 c2 a;rw[<-hB]at c3 ad al a;obtain⟨f,hf⟩:=aN ((iB q B).1);obtain⟨rest,ag⟩:=aN ((iB q B).2);rw[<-hf]at c3 ad a;rw[<-ag]at c3 a;have c4:=y4 w n (decide (0<q)) f ak;have J:=xY b (kI w n (decide (0<q)) f) hb.small hb.fB (by have:=DC w n (decide (0<q)) f;omega);obtain⟨g,hg⟩:=aN (kI w n (decide (0<q)) f);have hA:jz b w n (decide (0<q)) f=if iC f=0 then(oN b g,jA b g)else(b,iC f):=by rw[hg];rfl
 rw[hA]at a;rw[<-hg]at c4 J;have k:=Dp hb g;obtain⟨j,I⟩:=aN (oN b g);rw[<-I]at a J k;obtain⟨p,hp⟩:=aN (cy x);rw[<-hp]at c2 a;obtain⟨long,m⟩:=aN (decide (0<q));rw[<-m]at c4 a;have W:=Qn j w n rest k.small k.fB k.short;have ai:=LV j w n rest;have hqs:=k.short;have u:x5 j w n p long rest=if iR j w n rest=0 then jz j w n long ((jt j w n rest).map (dw p))else(j,iR j w n rest):=rfl;obtain⟨F,hF⟩:=aN (jt j w n rest);rw[<-hF]at W ai u;have X:=y4 w n long (F.map (dw p)) (by rw[qE];omega);have Y:=xY j (kI w n long (F.map (dw p))) k.small k.fB (by have:=DC w n long (F.map (dw p));rw[qE]at this;omega);have ab:jz j w n long (F.map (dw p))=if iC (F.map (dw p))=0 then(oN j (kI w n long (F.map (dw p))),jA j (kI w n long (F.map (dw p))))else(j,iC (F.map (dw p))):=rfl;rw[ab]at u;obtain⟨g2,ae⟩:=aN (kI w n long (F.map (dw p)));rw[<-ae]at X Y u;have K:R=if cB x=true then(if j5 q B=0 then(if iC f=0 then(if jA b g=0/\rest≠0 then x5 j w n p long rest else(j,jA b g))else(b,iC f))else(b,j5 q B))else(b,20):=by
  rw[a];by_cases h:iC f=0<;>simp[h]
 rw[u]at K;clear a;have a:=K;clear K;obtain⟨b2,N⟩:=aN (oN j g2);obtain⟨e1,P⟩:=aN (iC f);obtain⟨e2,Q⟩:=aN (jA b g);obtain⟨e3,S⟩:=aN (iR j w n rest);obtain⟨e4,T⟩:=aN (iC (F.map (dw p)));obtain⟨e5,U⟩:=aN (jA j g2);obtain⟨e0,O⟩:=aN (j5 q B);rw[<-N,<-U]at Y;rw[<-T]at X;rw[<-S]at W;rw[<-Q]at J;rw[<-P]at c4;rw[<-O]at c3;rw[<-O,<-P,<-Q,<-S,<-T,<-U,<-N]at a;clear aa hx ep eh hf ag hA hg I hp u ab hF ae N P Q S T U O k;simp only[aA.cells,aE.cells]at c1 c2;simp only[af.cells]at Z |-;simp only[aH.cells]at J W Y |-;refine bp 158 4 [.cell 8 34,.tmp 9] mixed func244 ?_;simp only[go_sem,seval];refine bg ?_;refine sc aS c1 ?_;(with_reducible and_intros)<;>first|exact .dq|omega|skip
 refine aG.bC c2 ?_;cases q1:cB x
 ·rw[q1,au (by simp)]at a;rw[a];simp only[go_sem,seval,q1];all_goals(with_reducible and_intros)<;>first|exact .dq|omega|skip
 rw[q1,aq rfl]at a;clear c1 c2;simp only[go_sem,seval,q1];(with_reducible and_intros)<;>first|exact .dq|omega|skip
 have ac:∀l,eG s w n l=l.flatMap λb=>if AQ s w n b then[b]else[]:=λl=>rfl;refine aF.wv s.aW.length [3,4,5,6,8,12] [80,96,112,144] (λi=>[(15,.int .i64 i),(14,.ref 1360)]) (λi=>[(1360,.own 5 ((eG s w n (s.aW.take i)).map aY.cells))]) ?_ ?_ ?_
 ·simp only[go_sem,seval]<;>simp[eG]
 ·intro i _ G z r _;obtain⟨y,hy,C,an⟩:=oc (c:=aY.cells) s.aW G;have e:eG s w n (s.aW.take (i+1))=eG s w n (s.aW.take i)++_:=iq _ G;have am:=wJ s w n (s.aW.take i);have hlt:(s.aW.take i).length=i:=by simp;omega
  obtain⟨L,hL⟩:=aN (eG s w n (s.aW.take i));rw[<-hy]at e;rw[<-hL]at e am |-;have Z:=Z y.src;simp only[AQ]at e;simp only[aY.cells]at C;clear c3 c4 J W X Y a;cases t:y.who==w
  ·simp only[t,cZ,iM,if_false,append_nil]at e;simp only[go_sem,seval,z,C,t,r];(with_reducible and_intros)<;>first|exact .dq|omega|skip
   refine ah.v G ?_;simp only[go_sem,seval,e]
  cases E:y.inst==n
  ·simp only[t,E,Bool.and_false,cZ,iM,if_false,append_nil]at e;simp only[go_sem,seval,z,C,t,E,r];(with_reducible and_intros)<;>first|exact .dq|omega|skip
   refine ah.v G ?_;simp only[go_sem,seval,e]
  simp only[go_sem,seval,z,C,t,E];refine bg ?_;refine aG.bC Z ?_;cases H:bD s.aj y.src==1
  ·simp only[t,E,H,Bool.and_false,iM,if_false,append_nil]at e;simp only[go_sem,seval,H,r];(with_reducible and_intros)<;>first|exact .dq|omega|skip
   refine ah.v G ?_;simp only[go_sem,seval,e]
  simp only[t,E,H,Bool.and_self,if_true]at e;simp only[go_sem,seval,H,C,r];(with_reducible and_intros)<;>first|exact .dq|omega|skip
  refine ah.v G ?_;simp only[go_sem,seval,e]<;>simp
 intro _ A _;rw[eu,<-hB];clear Z ac;simp only[go_sem,seval,A];(with_reducible and_intros)<;>first|exact .dq|omega|skip
 refine aG.gE [1360] [] false (by simp) ?_;simp only[go_sem,seval];refine cz.gF c3 ?_;clear c3 A;by_cases k0:e0=0
 case neg =>
  have d:(e0==0)=false:=by simpa using k0
  rw[au k0]at a;rw[a];simp only[go_sem,seval,bne,d];all_goals(with_reducible and_intros)<;>first|exact .dq|omega|skip
 rw[aq k0]at a;rw[k0];simp only[go_sem,seval];(with_reducible and_intros)<;>first|exact .dq|omega|skip
 rw[<-m];refine aG.bC c4 ?_;clear c4;by_cases t:e1=0
 case neg =>
  have d:(e1==0)=false:=by simpa using t
  rw[au t]at a;rw[a];simp only[go_sem,seval,bne,d];all_goals(with_reducible and_intros)<;>first|exact .dq|omega|skip
 rw[aq t]at a;rw[t];simp only[go_sem,seval];refine bg ?_;refine aG.bC J ?_;clear J;by_cases E:e2=0
 case neg =>
  have d:(e2==0)=false:=by simpa using E
  rw[au (by rintro⟨h,_⟩;exact E h)]at a;rw[a];simp only[go_sem,seval,bne,d];all_goals(with_reducible and_intros)<;>first|exact .dq|omega|skip
 by_cases H:rest=0
 ·rw[au (by rintro⟨_,h⟩;exact h H)]at a;rw[a,H,E];simp only[go_sem,seval,bne];all_goals(with_reducible and_intros)<;>first|exact .dq|omega|skip
 have d3:(rest==0)=false:=by simpa using H
 rw[aq ⟨E,H⟩]at a;rw[E];simp only[go_sem,seval,bne,d3];(with_reducible and_intros)<;>first|exact .dq|omega|skip
 refine aG.gE [] [] false (by simp) ?_;simp only[go_sem,seval];refine cz.gF W ?_;clear W;simp only[go_sem,seval];(with_reducible and_intros)<;>first|exact .dq|omega|skip
 refine aF.wv F.length [3,5,6,8,12,18] [96,112,144] (λi=>[(20,.int .i64 i),(16,.ref 272)]) (λi=>[(272,.own 3 ((rJ (dw p) F i).map cj.cells))]) ?_ ?_ ?_
 ·simp only[go_sem,seval,DS]<;>simp
 ·intro i _ G z r _;have o:=vS (dw p) F i;have C:=br (c:=cj.cells) (rJ (dw p) F i) (i:=i) ak;have D:=Ct (dw p) G;rw[FP (dw p) G]at C;obtain⟨y,hy⟩:=aN (F[i]);obtain⟨M,hM⟩:=aN (rJ (dw p) F i);rw[<-hy]at C D;rw[<-hM]at C D o |-;have V:M.set i { y with aL:=p }=rJ (dw p) F (i+1):=D;have an:(i:Int)<(F.length:Int):=ak
  simp only[cj.cells]at C;clear X Y a;simp only[go_sem,seval,o,z,C,r];(with_reducible and_intros)<;>first|exact .dq|omega|skip
  all_goals first
   |omega
   | (refine ah.v G ?_
      simp only[go_sem,seval,<-V,map_set])
 intro _ A _;have o:=vS (dw p) F F.length;rw[Cs];rw[Cs,qE]at o;by_cases k4:e3=0
 case neg =>
  have d:(e3==0)=false:=by simpa using k4
  rw[au k4]at a;rw[a];simp only[go_sem,seval,A,d];all_goals(with_reducible and_intros)<;>first|exact .dq|omega|skip
 rw[aq k4]at a;rw[k4];simp only[go_sem,seval,A];(with_reducible and_intros)<;>first|exact .dq|omega|skip
 refine aG.gE [272] [] false (by simp) ?_;rw[<-m];simp only[go_sem,seval];refine cz.gF X ?_;clear X;by_cases k5:e4=0
 case neg =>
  have d:(e4==0)=false:=by simpa using k5
  rw[au k5]at a;rw[a];simp only[go_sem,seval,d];all_goals(with_reducible and_intros)<;>first|exact .dq|omega|skip
 rw[aq k5]at a;rw[k5];simp only[go_sem,seval];refine bg ?_;refine aG.bC Y ?_;rw[a];simp only[go_sem,seval];all_goals(with_reducible and_intros)<;>first|exact .dq|omega|skip
def aJ(s:af)(w:Int):List Int:=pick (λx=>!(x==w)) (λx=>x) (ku s.aj [1])
def uo(r:aA)(a:List Int):(ku r a).length<=r.ms.length:=bN _ _ _
def uE(s:af)(w:Int):(aJ s w).length<=s.aj.ms.length:=Nat.le_trans (bN _ _ _) (uo _ _)
def Fv(s:af)(w:Int)(k:s.small):Sq 248 [] [.agg s.cells,.int .i64 w] [.own 1 (ints (aJ s w))] (.ref 0):=by
 have c1:=AH s.aj [1] k.aj sT;have n:=uo s.aj [1];have hml:=k.aj.1;obtain⟨l,c⟩:=aN (ku s.aj [1]);simp only[aJ];rw[<-c]at c1 n |-;simp only[aA.cells,ints,map_cons,map_nil]at c1;have j:(l.map λx=>[D.int .i64 x])=ints l:=rfl;rw[j]at c1;simp only[af.cells];clear c j;refine bp 32 2 [.tmp 4] mixed func248 ?_;simp only[go_sem,seval];refine bg ?_;refine aG.gE [176] [] false sT ?_;simp only[go_sem,seval];refine cz.gF c1 ?_;simp only[go_sem,seval,az];refine bg ?_;refine aF.wv l.length [1,6] [] (λi=>[(7,.int .i64 i),(5,.ref 496)]) (λi=>[(496,.own 1 (ints (pick (λx=>!(x==w)) (λx=>x) (l.take i))))]) ?_ ?_ ?_
 ·simp only[go_sem,seval]<;>simp[pick,ints]
 ·intro i _ f b e _;have h:=ints_at l f;have a:=fK (λx:Int=>!(x==w)) (λx=>x) f;have d:=bN (λx:Int=>!(x==w)) (λx=>x) (l.take i);have hlt:(l.take i).length=i:=by simp;omega
  have hli:(i:Int)<(l.length:Int):=ak
  obtain⟨L,m⟩:=aN (pick (λx:Int=>!(x==w)) (λx=>x) (l.take i));obtain⟨x,o⟩:=aN (l[i]);rw[<-o]at h a;rw[<-m]at a d |-;clear c1;cases q:x==w
  ·simp only[q,Bool.not_false,if_true]at a;simp only[go_sem,seval,az,b,h,bne,q,e];refine bg ?_;refine ah.v f ?_;simp only[go_sem,seval,a]
  ·simp only[q,Bool.not_true,iM,if_false,append_nil]at a;simp only[go_sem,seval,az,b,h,bne,q,e];refine bg ?_;refine ah.v f ?_;simp only[go_sem,seval,a]
 ·intro _ g _;simp only[go_sem,seval,az,g,eu]
def wo(s:af)(w:Int)(a:s.small):Sq 248 [] [.agg s.cells,.int .i64 w] [] (.sl 1 (ints (aJ s w))):=by
 refine Spec.frozen (Fv s w a) [0] rfl ?_;intro r;rcases r with _|r<;>rfl
def uk(s:af)(w c:Int)(p:gC):Bool:=p.who==w&&(nA s.aj p.bT).b==c
def pI(s:af)(p:gC):Int:=p.units*(nA s.aj p.bT).c
def oC(s:af)(w c:Int):List Int:=pick (uk s w c) (pI s) s.ps
def lD(s:af)(w c:Int):Int:=ay (oC s w c)
def iZ(s:af)(w c:Int):Int:=if bB (lD s w c)then lD s w c else 0
def FJ{r:aA}(h:r.okB=true)(n:Int):0<=(nA r n).c/\(nA r n).c<=1073741824:=by
 simp only[aA.okB,bQ]at h;refine vI (R:=λa:aD=>0<=a.c/\a.c<=1073741824) (by decide) λa b=>?_;have:=wC h.2 a b;simp only[aD.ok,within,bQ,bz]at this;omega
def LK{s:af}(d:s.aj.okB=true)(e:jB s.ps=true):∀p∈s.ps,0<=pI s p/\pI s p<=1180591620717411303424:=λp g=>by
 have f:=FJ d p.bT;have hu:=((jg.1 e).1 p g).2;have h3:=fE (a:=p.units) (b:=(nA s.aj p.bT).c) (A:=1099511627776) (B:=1073741824) ak ak;have h4:=Int.mul_nonneg (show 0<=p.units by omega) f.1;simp only[pI];omega
def Wf{s:af}(b:s.aj.okB=true)(d:jB s.ps=true)(hl:s.ps.length<2^30)(w c:Int):vM (lD s w c)=true/\∀n∈oC s w c,vM n=true:=by
 have a:∀n∈oC s w c,0<=n/\n<=1180591620717411303424:=jN λp g=>LK b d p g;have hs:=qO (B:=1180591620717411303424) (by decide) a;have hlen:(oC s w c).length<=s.ps.length:=bN _ _ _;constructor
 ·have e:lD s w c=ay (oC s w c):=rfl;rw[e];simp only[vM,bQ,bz];constructor<;>omega
 ·intro n f;have:=a n f;simp only[vM,bQ,bz];omega
def CR(s:af)(w c:Int)(D:s.small)(y:s.aj.okB=true)(z:jB s.ps=true):Sq 246 [] [.agg s.cells,.int .i64 w,.int .i64 c] [] (.bI [.int .i64 (iZ s w c),.bool (bB (lD s w c))]):=by
 have u:∀n,Sq 157 [] [.agg s.aj.cells,.int .i64 n] [] (.bI [.agg (nA s.aj n).cells,.bool (nq s.aj n)]):=λn=>pq s.aj n D.aj.small;obtain⟨m,f⟩:=Wf y z D.ps w c;have hll:(oC s w c).length<=s.ps.length:=bN _ _ _;have hpl:=D.ps;have e:=oA (oC s w c) ak f;have r:=oz (lD s w c);have H:ay (oC s w c)=lD s w c:=rfl;rw[H,m,aq rfl]at e;have G:(if bB (lD s w c)then lD s w c else 0)=iZ s w c:=rfl;rw[G]at r;have g:=λn=>FJ y n;have J:=λp M=>((jg.1 z).1 p M).2;simp only[wd]at e r;simp only[af.cells];simp only[aA.cells]at u;clear y z m f H G;refine bp 76 3 [.tmp 6,.tmp 7] mixed func246 ?_;simp only[go_sem,seval,nG];refine aF.wv s.ps.length [1,2,3] [64] (λi=>[(9,.int .i64 i),(8,.ref 976)]) (λi=>[(976,.own 2 (vr (pick (uk s w c) (pI s) (s.ps.take i))))]) ?_ ?_ ?_
 ·simp only[go_sem,seval]<;>simp[pick,vr]
 ·intro i _ k B j _;have q:=qh s.ps k;have d:=zO (uk s w c) (pI s) k;have o:=bN (uk s w c) (pI s) (s.ps.take i);have hlt:(s.ps.take i).length=i:=by simp;omega
  have hli:(i:Int)<(s.ps.length:Int):=ak
  have E:=J _ (dS k);obtain⟨L,K⟩:=aN (pick (uk s w c) (pI s) (s.ps.take i));obtain⟨x,N⟩:=aN (s.ps[i]);rw[<-N]at q d E;rw[<-K]at d o |-;have h:=u x.bT;have A:=g x.bT;simp only[uk,pI]at d;obtain⟨a,I⟩:=aN (nA s.aj x.bT);rw[<-I]at h A;simp only[<-I]at d;have F:=qJ x.units a.c ⟨by omega,by omega⟩ ⟨by omega,by omega⟩;have hwl:(vr L).length<=i:=by rw[Dd];omega
  simp only[aD.cells]at h;simp only[wd]at F;clear u e r g J;simp only[go_sem,seval,nG,B,q]
  and_intros<;>first|exact .dq|omega|skip
  refine aG.bC h ?_;cases l:x.who==w
  ·simp only[l,cZ,iM,if_false,append_nil]at d;simp only[go_sem,seval,nG,q,l,j]
   and_intros<;>first|exact .dq|omega|skip
   refine ah.v k ?_;simp only[go_sem,seval,d]
  cases t:a.b==c
  ·simp only[l,t,Bool.and_false,iM,if_false,append_nil]at d;simp only[go_sem,seval,nG,q,l,t,j]
   and_intros<;>first|exact .dq|omega|skip
   refine ah.v k ?_;simp only[go_sem,seval,d]
  simp only[l,t,Bool.and_self,if_true]at d;simp only[go_sem,seval,nG,q,l,t]
  and_intros<;>first|exact .dq|omega|skip
  refine aG.bC F ?_;simp only[go_sem,seval,j]
  and_intros<;>first|exact .dq|omega|skip
  refine ah.v k ?_;simp only[go_sem,seval,d]<;>simp[vr,wd]
 ·intro _ C _;simp only[go_sem,seval,nG,C,eu]
  and_intros<;>first|exact .dq|omega|skip
  refine aG.gE [] [] true sT ?_;simp only[go_sem,seval];refine cz.gF e ?_;simp only[go_sem,seval]
  and_intros<;>first|exact .dq|omega|skip
  refine aG.bC r ?_;simp only[go_sem,seval];all_goals(with_reducible and_intros)<;>first|exact .dq|omega|skip
def iH(s:af)(w:Int)(b:aH)(n:Int):aH×Int:=if(posOf w n b.qs).aO==0 then(b,0)else lB s b w n (posOf w n b.qs).aO
def kf(s:af)(w:Int):Nat->Nat->aH->aH×Int
 | 0,_,b=>(b,0)
 |m+1,i,b=>if(iH s w b ((i:Int)+1)).2=0 then kf s w m (i+1) (iH s w b ((i:Int)+1)).1 else((iH s w b ((i:Int)+1)).1,(iH s w b ((i:Int)+1)).2)
def lZ(w:Int)(l:List aB):List aB:=l.flatMap λp=>if p.who==w then[]else[p]
def Ke(s:af)(w:Int)(p:aB):List aU:=if p.who==w then[⟨w,(aZ s.aj p.inst).cur,fY p (aZ s.aj p.inst).mult 0⟩]else[]
def mM(s:af)(w:Int)(l:List aB):List aU:=l.flatMap (Ke s w)
def pU(s:af)(w:Int)(l:List aB):Bool:=l.all λp=>!(p.who==w)||bB (fY p (aZ s.aj p.inst).mult 0)
def kg(s:af)(w:Int):Int:=if HJ s w=0 then(if(kf s w 8 0 s.book).2=0 then(if pU s w (kf s w 8 0 s.book).1.qs then 0 else 1)else(kf s w 8 0 s.book).2)else HJ s w
def mF(s:af)(w:Int):aH:=if kg s w=0 then⟨(kf s w 8 0 s.book).1.next,(kf s w 8 0 s.book).1.ts,lZ w (kf s w 8 0 s.book).1.qs⟩else⟨0,[],[]⟩
def fU(s:af)(w:Int):List aU:=if kg s w=0 then mM s w (kf s w 8 0 s.book).1.qs else[]
def xp{s:af}{w:Int}{b:aH}(a:b.fk)(n:Int):(iH s w b n).1.fk:=by
 unfold iH;split
 ·exact a
 ·exact SG a _ _ _
theorem vX{s:af}{w:Int}:∀(m i:Nat) {b:aH},b.fk->(kf s w m i b).1.fk
 | 0,_,_,hb=>hb
 |m+1,i,b,hb=>by
  simp only[kf];split
  ·exact vX m _ (xp hb _)
  ·exact xp hb _
def wZ{s:af}{w:Int}(h:HJ s w=0):bM s=true/\bD s.aj w=2:=by
 unfold HJ at h;split at h
 ·split at h
  ·cases h
  ·split at h
   ·exact⟨by assumption,by assumption⟩
   ·cases h
 ·cases h
def uL{s:af}(h:bM s=true):s.aj.okB=true/\s.book.okB=true/\s.bf.okB=true/\jB s.ps=true/\pY dh cq s.calls=true:=by
 simp only[bM,bQ]at h;exact⟨h.2.1,h.2.2.1,h.2.2.2.1,h.2.2.2.2.1,h.2.2.2.2.2.1⟩
def Yo{r:aA}(h:r.okB=true)(n:Int):0<=(aZ r n).mult/\(aZ r n).mult<=1024:=by
 simp only[aA.okB,bQ]at h;refine vI (R:=λx:aE=>0<=x.mult/\x.mult<=1024) (by decide) λx a=>?_;have:=wC h.1.2 x a;simp only[aE.ok,within,bQ,bz]at this;omega
def Kp{b:aH}(h:b.okB=true)(e:b.small)(c:b.qs.length<2^20)(d:∀p∈b.qs,p.fB):b.fk:=
 ⟨e,c,d,λp a=>by have:=CF (BU h p a);exact⟨⟨this.1,this.2.1⟩,this.2.2⟩⟩
theorem D7(s:af)(w:Int)(N:s.small)(hr:s.fB)(hq:s.book.qs.length<2^20)(ac:s.aW.length<2^20):Sq 185 [] [.agg s.cells,.int .i64 w] [.own 4 ((mF s w).qs.map aB.cells),.own 3 ((fU s w).map aU.cells)] (.bI [.agg [.int .i64 (mF s w).next,.sl 7 ((mF s w).ts.map aR.cells),.ref 0],.ref 1,.int .i64 (kg s w)]):=by
 have c1:=Qj s w N hr;have c2:=sq s.book N.book;have e:=λb n q z=>Np s b w n q N z ac;have T:=λn=>fF s.aj n N.aj.small;have F:=@wZ s w;simp only[mF,fU,kg];obtain⟨me,o⟩:=aN (HJ s w);rw[<-o]at c1 F;simp only[<-o];have W:=c1;simp only[af.cells]at c1 e |-;simp only[aH.cells]at c2;simp only[aA.cells]at T;clear W o;refine bp 110 2 [.cell 4 34,.tmp 5,.tmp 6] mixed func185 ?_;simp only[go_sem,seval];refine bg ?_;refine aG.bC c1 ?_;clear c1;by_cases H:me=0
 case neg =>
  have d:(me==0)=false:=by simpa using H
  simp only[au H];simp only[go_sem,seval,bne,d];all_goals simp
 obtain⟨g,_⟩:=F H;obtain⟨r,k,_⟩:=uL g;have l:=Kp k N.book hq hr.qs;have M:=λn=>Yo r n;simp only[H,if_true];obtain⟨R,U⟩:=aN (kf s w 8 0 s.book);have ab:R.1.fk:=by rw[U];exact vX 8 0 l
 simp only[<-U];clear F g r k H;simp only[go_sem,seval];(with_reducible and_intros)<;>first|exact .dq|omega|skip
 refine aG.bC c2 ?_;clear c2;simp only[go_sem,seval];(with_reducible and_intros)<;>first|exact .dq|omega|skip
 refine aF.sK (S:=aH) 8 [1,2,4,8] [48,80] (λi _=>[(9,.int .i64 ((i:Int)+1))]) (λ_ b=>[(144,.box [.int .i64 b.next,.sl 7 (b.ts.map aR.cells),.sl 4 (b.qs.map aB.cells)])]) (λi b=>kf s w (8-i) i b=R/\b.fk) s.book ⟨U.symm,l⟩ ?_ ?_ ?_
 ·simp only[go_sem,seval]<;>simp
 ·rintro i b A _ _ ⟨a,z⟩;obtain⟨n,hn⟩:=aN ((i:Int)+1);have hd:decide (n<=8)=true:=iy;have P:IntKind.wrap .i64 (n+1)=((i+1:Nat):Int)+1:=fQ;obtain⟨m,J⟩:∃m,8-i=m+1:=⟨8-i-1,by omega⟩
  have L:8-(i+1)=m:=ak
  rw[J]at a;simp only[kf,<-hn]at a;have G:=xp (s:=s) (w:=w) z n;have c3:=sR b w n z.small;have c4:=e b n (posOf w n b.qs).aO z;have t:iH s w b n=if(posOf w n b.qs).aO==0 then(b,0)else lB s b w n (posOf w n b.qs).aO:=rfl;obtain⟨p,hp⟩:=aN (posOf w n b.qs);rw[<-hp]at c3 c4 t;rw[<-hn];simp only[aH.cells,aB.cells]at c3 c4;clear e T hp;cases v:p.aO==0
  case true =>
   simp only[v,if_true]at t;rw[t]at a;simp only[if_true]at a;simp only[go_sem,seval,hd];refine bg ?_;refine sc (a2 v P) c3 ?_;(with_reducible and_intros)<;>first|exact .dq|omega|skip
   refine ah.jT b A ⟨by rw[L];exact a,z⟩ ?_;simp only[go_sem,seval]
  simp only[v,iM,if_false]at t;rw[t]at a G;obtain⟨X,hX⟩:=aN (lB s b w n p.aO);rw[<-hX]at a G c4;simp only[go_sem,seval,hd];refine bg ?_;refine sc v c3 ?_;(with_reducible and_intros)<;>first|exact .dq|omega|skip
  refine aG.bC c4 ?_;by_cases B:X.2=0
  ·rw[aq B]at a;rw[B];simp only[go_sem,seval,bne,P];(with_reducible and_intros)<;>first|exact .dq|omega|skip
   refine ah.jT X.1 A ⟨by rw[L];exact a,G⟩ ?_;simp only[go_sem,seval]
  ·have d:(X.2==0)=false:=by simpa using B
   rw[au B]at a;have aa:R.2=X.2:=by rw[<-a]
   simp only[aa,au B];simp only[go_sem,seval,bne,d];all_goals simp
 ·rintro b _ ⟨a,z⟩;have a:(b,0)=R:=a;simp only[<-a,if_true];have Y:=sq b z.small;have hbs:=z.small.2;simp only[aH.cells]at Y;clear e a ab U;have C:(if(if pU s w b.qs=true then(0:Int)else 1)=0 then(⟨b.next,b.ts,lZ w b.qs⟩:aH)else⟨0,[],[]⟩)=if pU s w b.qs=true then⟨b.next,b.ts,lZ w b.qs⟩else⟨0,[],[]⟩:=by cases pU s w b.qs<;>rfl
  have j:(if(if pU s w b.qs=true then(0:Int)else 1)=0 then mM s w b.qs else[])=if pU s w b.qs=true then mM s w b.qs else[]:=by cases pU s w b.qs<;>rfl
  rw[C,j];clear C j;simp only[go_sem,seval];refine bg ?_;refine aG.bC Y ?_;clear Y;simp only[go_sem,seval];(with_reducible and_intros)<;>first|exact .dq|omega|skip
  refine aF.wu b.qs.length [1,2,4,8,12] [48,80,144] (λi=>[(14,.int .i64 i),(13,.ref 1728)]) (λi=>[(208,.box [.int .i64 b.next,.sl 7 (b.ts.map aR.cells),.ref 1280]),(1280,.own 4 ((lZ w (b.qs.take i)).map aB.cells)),(1728,.own 3 ((mM s w (b.qs.take i)).map aU.cells))]) (λi=>pU s w (b.qs.drop i)=pU s w b.qs) rfl ?_ ?_ ?_
  ·simp only[go_sem,seval]<;>simp[lZ,mM]
  ·intro i _ A I O a;obtain⟨x,hx,J,hli⟩:=oc (c:=aB.cells) b.qs A;have hlt:(b.qs.take i).length=i:=by simp;omega
   have h:lZ w (b.qs.take (i+1))=lZ w (b.qs.take i)++_:=iq _ A;have f:mM s w (b.qs.take (i+1))=mM s w (b.qs.take i)++_:=iq _ A;have ae:(lZ w (b.qs.take i)).length<=1*(b.qs.take i).length:=gH (λp=>by split<;>simp) _;have ag:(mM s w (b.qs.take i)).length<=1*(b.qs.take i).length:=gH (λp=>by unfold Ke;split<;>simp) _;have Q:=z.ok _ (dS A);obtain⟨K,Z⟩:=aN (lZ w (b.qs.take i));obtain⟨V,hV⟩:=aN (mM s w (b.qs.take i));rw[cg A,<-hx]at a;rw[<-hx]at h f Q;rw[<-Z]at h ae;rw[<-hV]at f ag;rw[<-Z,<-hV];have hc:pU s w (x::b.qs.drop (i+1))=((!(x.who==w)||bB (fY x (aZ s.aj x.inst).mult 0))&&pU s w (b.qs.drop (i+1))):=rfl;rw[hc]at a;have E:=T x.inst;have D:=M x.inst;simp only[Ke]at f;obtain⟨y,hy⟩:=aN (aZ s.aj x.inst);rw[<-hy]at E D a;simp only[<-hy]at f;have cW:=AK x y.mult 0 ⟨by omega,by omega⟩ Q.2 D ⟨by omega,by omega⟩;simp only[aB.cells]at J cW;simp only[aE.cells]at E;clear T M Z hV hy;cases v:x.who==w
   ·simp only[v,iM,if_false,append_nil]at h f;simp only[v,Bool.not_false,Bool.true_or,cm]at a;simp only[go_sem,seval,I,J,bne,v,O];refine bg ?_;refine ah.u A a ?_;simp only[go_sem,seval,h,f]<;>simp
   simp only[v,if_true,append_nil]at h f;simp only[v,Bool.not_true,Bool.false_or]at a;simp only[go_sem,seval,I,J,bne,v];refine sc aS E ?_;refine bg ?_;refine aG.bC cW ?_;cases B:bB (fY x y.mult 0)
   ·rw[B,cZ]at a;rw[<-a];simp only[go_sem,seval,B];all_goals simp
   rw[B,cm]at a;simp only[go_sem,seval,B,O,if_true];refine bg ?_;refine ah.u A a ?_;simp only[go_sem,seval,h,f]<;>simp
  ·intro _ ad a;rw[jw]at a;rw[<-a,show pU s w []=true from rfl];simp only[go_sem,seval,ad,eu];all_goals simp
def CQ(s:af)(w:Int)(d:s.small)(c:s.fB)(b:s.book.qs.length<2^20)(a:s.aW.length<2^20):Sq 185 [] [.agg s.cells,.int .i64 w] [] (.bI [.agg (mF s w).cells,.sl 3 ((fU s w).map aU.cells),.int .i64 (kg s w)]):=by
 refine Spec.frozen (D7 s w d c b a) [0,1] rfl ?_;intro r;rcases r with _| _|r<;>rfl
def rQ(s:af)(w c a:Int):Int:=ay [a,min (eP ⟨2,w,c⟩ s.bf.bs) 0]
def kF(s:af)(w c a:Int):Int:=ay [max (eP ⟨2,w,c⟩ s.bf.bs) 0,iZ s w c,max (rQ s w c a) 0]
def Dy(s:af)(w c a:Int):Bool:=(bB (lD s w c)&&bB (rQ s w c a))&&(bB (kF s w c a)&&(dV s.bf c (aJ s w)==0&&gp s.aj (aJ s w)==0))
def jI(s:af)(w c a:Int):Int:=if bM s then(if bD s.aj w=0 then 10 else if within c 0 2&&bB a then(if Dy s w c a then 0 else 1)else 3)else 14
def fC(s:af)(w c a:Int):List Int:=if jI s w c a=0 then[kF s w c a,eP ⟨3,w,c⟩ s.bf.bs,eP ⟨4,0,c⟩ s.bf.bs,ir s.bf c (aJ s w),ke s.aj (aJ s w)]else[]
def eT(s:af)(w c a:Int):Int:=if jI s w c a=0 then max (-rQ s w c a) 0 else 0
def Md{l:List Int}(h:bB (ay l)=true):addN l=ay l:=by simp[addN,h]
def C2(s:af)(w c:Int):bB (iZ s w c)=true:=by
 unfold iZ;split
 ·assumption
 ·rfl
def Qe(s:af)(w c b:Int)(p:s.small)(T:s.fB)(hm:s.aj.ms.length<2^27):Sq 187 [] [.agg s.cells,.int .i64 w,.int .i64 c,.int .i64 b] [.own 1 (ints (fC s w c b))] (.bI [.int .i64 (eT s w c b),.ref 0,.int .i64 (jI s w c b)]):=by
 have c1:=kk s p T;have c2:=qX s w p.aj.small;have c3:=iX c;have c4:=fy b;have P:=λk w=>El k w c;have z:=λa=>ou s.bf a p.bf;have O:=wo s w p;have R:=uE s w;have Z:=y8 s.bf c (aJ s w) p.bf T.bs ak;have c7:=AB s.aj (aJ s w) p.aj T.ms ak;have e:=CR s w c p;have U:=@uL s;simp only[aC.cells,bu.cells]at z;simp only[bu.cells]at Z;simp only[aA.cells]at c7;obtain⟨t,W⟩:=aN (bD s.aj w);obtain⟨E,d⟩:=aN (jI s w c b);have D:=d;simp only[jI,<-W]at d;simp only[fC,eT,<-D];rw[<-W]at c2;simp only[af.cells]at c1 c2 O e |-;clear W D R;refine bp 120 4 [.tmp 8,.tmp 9,.tmp 10] mixed func187 ?_;refine sc aS c1 ?_;clear c1;cases y:bM s
 ·rw[y,au sT]at d;rw[d];simp only[go_sem,seval,y]<;>simp[ints]
 obtain⟨o,hbook,G,S,_⟩:=U y;have e:=e o S;rw[y,aq rfl]at d;refine sc y c2 ?_;clear c2;by_cases I:t=0
 ·rw[aq I]at d;rw[d,I];simp only[go_sem,seval]<;>simp[ints]
 have d2:(t==0)=false:=su I;rw[au I]at d;refine sc d2 c3 ?_;clear c3;cases Y:within c 0 2
 ·rw[Y,cZ,au sT]at d;rw[d];simp only[go_sem,seval]<;>simp[ints]
 refine sc aS c4 ?_;clear c4;cases N:bB b
 ·rw[N,Bool.and_false,au sT]at d;rw[d];simp only[go_sem,seval]<;>simp[ints]
 rw[Y,N,Bool.and_self,aq rfl]at d;have hg:=aP.1 N;have f:=mQ G ⟨2,w,c⟩;have Q:=aP.1 f;have J:=eM [b,min (eP ⟨2,w,c⟩ s.bf.bs) 0] (by intro n H;simp only[mem_cons,not_mem_nil,or_false]at H;rcases H with rfl|rfl<;>exact⟨by omega,by omega⟩) sT;have eX:ay [b,min (eP ⟨2,w,c⟩ s.bf.bs) 0]=rQ s w c b:=rfl;have L:bB (rQ s w c b)=true->addN [b,min (eP ⟨2,w,c⟩ s.bf.bs) 0]=rQ s w c b:=λh=>Md h;have V:=aP.1 (C2 s w c);have u:=λ(h:bB (rQ s w c b)=true)=>eM [max (eP ⟨2,w,c⟩ s.bf.bs) 0,iZ s w c,max (rQ s w c b) 0] (by have:=aP.1 h;intro n H;simp only[mem_cons,not_mem_nil,or_false]at H;rcases H with rfl|rfl|rfl<;>exact⟨by omega,by omega⟩) sT;have eF:ay [max (eP ⟨2,w,c⟩ s.bf.bs) 0,iZ s w c,max (rQ s w c b) 0]=kF s w c b:=rfl;have K:bB (kF s w c b)=true->addN [max (eP ⟨2,w,c⟩ s.bf.bs) 0,iZ s w c,max (rQ s w c b) 0]=kF s w c b:=λh=>Md h;rw[eX]at J;simp only[eF]at u;simp only[Dy]at d;simp only[ints,map_cons,map_nil]at J u;have A:=z ⟨2,w,c⟩;have B:=z ⟨3,w,c⟩;have C:=z ⟨4,0,c⟩;obtain⟨ca,l⟩:=aN (eP ⟨2,w,c⟩ s.bf.bs);obtain⟨ow,m⟩:=aN (eP ⟨3,w,c⟩ s.bf.bs);obtain⟨sk,q⟩:=aN (eP ⟨4,0,c⟩ s.bf.bs);obtain⟨X,j⟩:=aN (rQ s w c b);obtain⟨F,i⟩:=aN (kF s w c b);simp only[<-l,<-j,<-i]at J u L K d;rw[<-l]at A;rw[<-m]at B;rw[<-q]at C;simp only[<-j,<-i,<-m,<-q];clear eX eF f Q l m q j i z hg V;refine sc aS (P 2 w) ?_;refine sc aS A ?_;refine sc aS e ?_;refine sl aS J ?_;cases v:bB (lD s w c)
 ·rw[v,cZ,cZ,au sT]at d;rw[d];simp only[go_sem,seval,v]<;>simp[ints]
 cases r:bB X
 ·rw[v,r,Bool.and_false,cZ,au sT]at d;rw[d];simp only[go_sem,seval,v,r]<;>simp[ints]
 have hXr:=aP.1 r;have L:=L r;have u:=u r;rw[L];rw[v,r,Bool.and_self,cm]at d;refine sl (a2 v r) u ?_;refine sc aS O ?_;refine sc aS Z ?_;refine sc aS O ?_;refine sc aS c7 ?_;cases g:bB F
 ·rw[g,cZ,au sT]at d;rw[d];simp only[go_sem,seval,g]<;>simp[ints]
 have K:=K g;cases x:dV s.bf c (aJ s w)==0
 ·rw[g,x,cZ,Bool.and_false,au sT]at d;rw[d];simp only[go_sem,seval,g,bne,x]<;>simp[ints]
 cases M:gp s.aj (aJ s w)==0
 ·rw[g,x,M,Bool.and_false,Bool.and_false,au sT]at d;rw[d];simp only[go_sem,seval,g,bne,x,M]<;>simp[ints]
 rw[g,x,M,Bool.and_self,Bool.and_self,aq rfl]at d;have hw:IntKind.wrap .i64 (0-X) = -X:=fQ;rw[d,K];refine sm (a5 g gr x M hw) ?_;refine sc aS (P 3 w) ?_;refine sc aS B ?_;refine sc aS (P 4 0) ?_;refine bg ?_;refine aG.bC C ?_;simp only[go_sem,seval]<;>simp[ints]
def Nd(s:af)(w c a:Int)(e:s.small)(d:s.fB)(b:s.aj.ms.length<2^27):Sq 187 [] [.agg s.cells,.int .i64 w,.int .i64 c,.int .i64 a] [] (.bI [.int .i64 (eT s w c a),.sl 1 (ints (fC s w c a)),.int .i64 (jI s w c a)]):=by
 refine Spec.frozen (Qe s w c a e d b) [0] rfl ?_;intro r;rcases r with _|r<;>rfl
def Ot(s:af)(w c a:Int)(f:dM):List aK:=
 bR ⟨1,0,c⟩ ⟨2,w,c⟩ (iZ s w c)++bR ⟨5,0,c⟩ ⟨2,w,c⟩ a++bR ⟨6,0,c⟩ ⟨2,w,c⟩ f.aV++bR ⟨2,w,c⟩ ⟨6,0,c⟩ f.c0++bR ⟨3,w,c⟩ ⟨6,0,c⟩ f.c1++bR ⟨4,0,c⟩ ⟨6,0,c⟩ f.c2
def uW(s:af)(w c a:Int)(f:dM)(x y:Int):List aK:=
 Ot s w c a f++tO s.bf c f.c3 (aJ s w)++kN s.aj c f.c4 (aJ s w)++bR ⟨2,w,c⟩ ⟨1,0,c⟩ x++bR ⟨3,w,c⟩ ⟨1,0,c⟩ y
def jJ(s:af)(w c d:Int)(f:dM)(a b:Int):List aK×Int×Int:=
 if xS s.bf c f.c3 (aJ s w)=0 then(if nS s.aj c f.c4 (aJ s w)=0 then(if bB (a-f.c0+(b-f.c1))then(fG (uW s w c d f (a-f.c0) (b-f.c1)),a-f.c0+(b-f.c1),jk (uW s w c d f (a-f.c0) (b-f.c1)))else([],0,1))else([],0,nS s.aj c f.c4 (aJ s w)))else([],0,xS s.bf c f.c3 (aJ s w))
def vN(l:List aK):(fG l).length<=306:=by
 unfold fG;split
 ·exact Nat.le_trans (K6 _ _) BQ
 ·simp
def Kr(k c n a:Int)(ws gs:List Int):(rC k c n a ws gs).length<=306:=by
 unfold rC;split
 ·exact vN _
 ·simp
def Lb(l:bu)(c n:Int)(ws:List Int):(tO l c n ws).length<=306:=by
 unfold tO;split
 ·exact Kr _ _ _ _ _ _
 ·simp
def Em(r:aA)(c n:Int)(ws:List Int):(kN r c n ws).length<=306:=by
 unfold kN;split
 ·exact Kr _ _ _ _ _ _
 ·simp
def Io(s:af)(w c e:Int)(f:dM)(E:List Int)(a b:Int)(rest:List Int)(l:E=a::b::rest)(hrl:rest.length<2^20)(hs:s.small)(hr:s.fB)(hm:s.aj.ms.length<2^27)(h1:s.aj.okB=true)(h2:jB s.ps=true)(hx:iS (a-f.c0))(hy:iS (b-f.c1)) :
  Sq 189 [] [.agg s.cells,.int .i64 w,.int .i64 c,.int .i64 e,.agg f.cells,.sl 1 (ints E)] [] (.bI [.sl 4 ((jJ s w c e f a b).1.map aK.cells),.int .i64 (jJ s w c e f a b).2.1,.int .i64 (jJ s w c e f a b).2.2]):=by
 have T:=λk w=>El k w c;have m:=λx y n=>lI x y n;have j:=CR s w c hs h1 h2;have c5:=wo s w hs;have ad:=uE s w;have c6:=Nk s.bf c f.c3 (aJ s w) hs.bf hr.bs ak;have c7:=Il s.aj c f.c4 (aJ s w) hs.aj hr.ms ak;have c8:=eM [a-f.c0,b-f.c1] (by intro n hn;simp only[mem_cons,not_mem_nil,or_false]at hn;rcases hn with rfl|rfl<;>assumption) sT;have eX:ay [a-f.c0,b-f.c1]=a-f.c0+(b-f.c1):=by simp[ay]
 have N:IntKind.wrap .i64 (a-f.c0)=a-f.c0:=gO hx.1 (by have:=hx.2;omega);have O:IntKind.wrap .i64 (b-f.c1)=b-f.c1:=gO hy.1 (by have:=hy.2;omega);have ab:=Lb s.bf c f.c3 (aJ s w);have aa:=Em s.aj c f.c4 (aJ s w);have cJ:=qW (uW s w c e f (a-f.c0) (b-f.c1)) (by simp[uW,Ot,bR];omega);obtain⟨R,g⟩:=aN (jJ s w c e f a b);rw[<-g];simp only[jJ]at g;obtain⟨G,F⟩:=aN (uW s w c e f (a-f.c0) (b-f.c1));rw[<-F]at cJ g;simp only[uW,Ot]at F;obtain⟨x,P⟩:=aN (a-f.c0);obtain⟨y,Q⟩:=aN (b-f.c1);rw[<-P,<-Q]at eX c8 F g;have N:=N.trans P.symm;have O:=O.trans Q.symm;rw[eX]at c8;have X:bB (x+y)=true->addN [x,y]=x+y:=λh=>by rw[Md (by rw[eX];exact h),eX]
 have ac:∀p q n,(bR p q n).length=2:=λ_ _ _=>rfl;obtain⟨e1,L⟩:=aN (xS s.bf c f.c3 (aJ s w));obtain⟨e2,M⟩:=aN (nS s.aj c f.c4 (aJ s w));obtain⟨V,hV⟩:=aN (tO s.bf c f.c3 (aJ s w));obtain⟨U,hU⟩:=aN (kN s.aj c f.c4 (aJ s w));rw[<-hV]at c6 F ab;rw[<-hU]at c7 F aa;rw[<-L]at c6;rw[<-M]at c7;rw[<-L,<-M]at g;have m1:=m ⟨1,0,c⟩ ⟨2,w,c⟩ (iZ s w c);have m2:=m ⟨5,0,c⟩ ⟨2,w,c⟩ e;have m3:=m ⟨6,0,c⟩ ⟨2,w,c⟩ f.aV;have m4:=m ⟨2,w,c⟩ ⟨6,0,c⟩ f.c0;have m5:=m ⟨3,w,c⟩ ⟨6,0,c⟩ f.c1;have m6:=m ⟨4,0,c⟩ ⟨6,0,c⟩ f.c2;have m7:=m ⟨2,w,c⟩ ⟨1,0,c⟩ x;have m8:=m ⟨3,w,c⟩ ⟨1,0,c⟩ y;obtain⟨A1,o⟩:∃A,A=bR ⟨1,0,c⟩ ⟨2,w,c⟩ (iZ s w c):=⟨_,rfl⟩
 obtain⟨A2,r⟩:∃A,A=bR ⟨5,0,c⟩ ⟨2,w,c⟩ e:=⟨_,rfl⟩
 obtain⟨A3,t⟩:∃A,A=bR ⟨6,0,c⟩ ⟨2,w,c⟩ f.aV:=⟨_,rfl⟩
 obtain⟨A4,u⟩:∃A,A=bR ⟨2,w,c⟩ ⟨6,0,c⟩ f.c0:=⟨_,rfl⟩
 obtain⟨A5,v⟩:∃A,A=bR ⟨3,w,c⟩ ⟨6,0,c⟩ f.c1:=⟨_,rfl⟩
 obtain⟨A6,z⟩:∃A,A=bR ⟨4,0,c⟩ ⟨6,0,c⟩ f.c2:=⟨_,rfl⟩
 obtain⟨A7,B⟩:∃A,A=bR ⟨2,w,c⟩ ⟨1,0,c⟩ x:=⟨_,rfl⟩
 obtain⟨A8,C⟩:∃A,A=bR ⟨3,w,c⟩ ⟨1,0,c⟩ y:=⟨_,rfl⟩
 have D:A1.length=2:=by rw[o];rfl
 have I:A2.length=2:=by rw[r];rfl
 have S:A3.length=2:=by rw[t];rfl
 have W:A4.length=2:=by rw[u];rfl
 have z5:A5.length=2:=by rw[v];rfl
 have z6:A6.length=2:=by rw[z];rfl
 have z7:A7.length=2:=by rw[B];rfl
 have z8:A8.length=2:=by rw[C];rfl
 rw[<-o,<-r,<-t,<-u,<-v,<-z,<-B,<-C]at F;rw[<-o]at m1;rw[<-r]at m2;rw[<-t]at m3;rw[<-u]at m4;rw[<-v]at m5;rw[<-z]at m6;rw[<-B]at m7;rw[<-C]at m8;have H:G.map aK.cells=A1.map aK.cells++A2.map aK.cells++A3.map aK.cells++A4.map aK.cells++A5.map aK.cells++A6.map aK.cells++V.map aK.cells++U.map aK.cells++A7.map aK.cells++A8.map aK.cells:=by rw[F];simp only[jF]
 rw[H]at cJ;simp only[aC.cells]at m1 m2 m3 m4 m5 m6 m7 m8;simp only[bu.cells]at c6;simp only[aA.cells]at c7;simp only[af.cells]at c5 j |-;simp only[dM.cells];simp only[ints,map_cons,map_nil]at c8;rw[l];have Y:(ints (a::b::rest)).length=rest.length+2:=by rw[az];rfl
 have J:=ints_at (a::b::rest) (i:=0) sT;have K:=ints_at (a::b::rest) (i:=1) sT;simp only[List.getElem_cons_zero,getElem_cons_succ]at J K;have hp0:(0:Int)<((rest.length+2:Nat):Int):=ak
 have hp1:(1:Int)<((rest.length+2:Nat):Int):=ak
 obtain⟨cp,Z⟩:=aN (ints (a::b::rest));rw[<-Z]at Y J K |-;clear m o r t u v z B C hV hU L M P Q Z l F H ad ac;refine bp 171 6 [.tmp 12,.tmp 13,.tmp 14] mixed func189 ?_;refine sc aS j ?_;refine sc aS (T 2 w) ?_;refine sc aS (T 1 0) ?_;refine sc aS (T 6 0) ?_;refine sc aS (T 3 w) ?_;refine sc D m1 ?_;refine sc aS (T 5 0) ?_;refine sc aS m2 ?_;simp only[go_sem,seval,cR,D,I];refine sc aS m3 ?_;simp only[go_sem,seval,cR,D,I,S];refine sc aS m4 ?_;simp only[go_sem,seval,cR,D,I,S,W];refine sc aS m5 ?_;simp only[go_sem,seval,cR,D,I,S,W,z5];refine sc aS (T 4 0) ?_;refine sc aS m6 ?_;simp only[go_sem,seval,cR,D,I,S,W,z5,z6];refine sc aS c5 ?_;refine sc aS c6 ?_;by_cases k1:e1=0
 case neg =>
  have d:(e1==0)=false:=su k1;rw[au k1]at g;rw[g];exact gY (a2 gr d)
 rw[aq k1]at g;rw[k1];refine sc aS c5 ?_;refine sc aS c7 ?_;by_cases k2:e2=0
 case neg =>
  have d:(e2==0)=false:=su k2;rw[au k2]at g;rw[g];exact gY (a2 gr d)
 rw[aq k2]at g;rw[k2];simp only[go_sem,seval,cR,D,I,S,W,z5,z6,Y,J,K,N,O];refine sc aS m7 ?_;simp only[go_sem,seval,cR,D,I,S,W,z5,z6,z7];refine sc aS m8 ?_;simp only[go_sem,seval,cR,D,I,S,W,z5,z6,z7,z8];refine sl aS c8 ?_;cases k3:bB (x+y)
 ·rw[k3,au sT]at g;rw[g];exact gY k3
 rw[k3,aq rfl]at g;rw[X k3,g];simp only[go_sem,seval,k3];refine bg ?_;refine aG.gE [2464] [] false sT ?_;simp only[go_sem,seval];refine cz.gF cJ ?_;simp only[go_sem,seval];all_goals(with_reducible and_intros)<;>first|exact .dq|omega|skip
def AL{A:Type}(f:Nat->A)(n:Nat):List A:=(range n).map f
theorem I8{A:Type}(f:Nat->A):AL f 0=[]:=rfl
def C3{A:Type}(f:Nat->A)(n:Nat):AL f (n+1)=AL f n++[f n]:=by simp[AL,range_succ]
def ry{A:Type}(f:Nat->A)(n:Nat):(AL f n).length=n:=by simp[AL]
def fD(f:Nat->Int):Nat->Nat->Int
 | 0,_=>0
 |m+1,i=>if f i=0 then fD f m (i+1)else f i
def af.zero:af:=⟨0,0,0,⟨[],[],[]⟩,⟨0,[],[]⟩,⟨0,[]⟩,[],[],[],[]⟩
def aQ(s:af)(w:Int)(c:Nat):Int:=qz w c (fU s w)
def qg(s:af)(w:Int)(c:Nat):Int:=nD w c (fU s w)
def gQ(s:af)(w:Int)(c:Nat):List Int:=fC s w c (aQ s w c)
def cU(s:af)(w:Int)(c:Nat):dM:=jL c (eT s w c (aQ s w c)) (gQ s w c)
def o9(s:af)(w:Int)(c:Nat):Int:=if jI s w c (aQ s w c)=0 then jx c (eT s w c (aQ s w c)) (gQ s w c)else jI s w c (aQ s w c)
def gN(s:af)(w:Int)(c:Nat):List aK×Int×Int:=jJ s w c (aQ s w c) (cU s w c) ((gQ s w c).getD 0 0) ((gQ s w c).getD 1 0)
def nextId(l:bu):Int:=IntKind.wrap .i64 (l.last+1)
def fL(l:bu)(g:List aK)(e:Int):bu×Int:=if e=0/\g≠[]then(iQ l (nextId l) g,eK l (nextId l) g)else(l,e)
def nF(w:Int)(c:Nat)(n:Int):List aU:=if n==0 then[]else[⟨w,c,n⟩]
def rY(s:af)(w:Int):Nat->Nat->bu->List aU->bu×List aU×Int
 | 0,_,l,p=>(l,p,0)
 |m+1,i,l,p =>
  if(fL l (gN s w i).1 (gN s w i).2.2).2=0 then rY s w m (i+1) (fL l (gN s w i).1 (gN s w i).2.2).1 (p++nF w i (gN s w i).2.1)
  else(l,p,(fL l (gN s w i).1 (gN s w i).2.2).2)
def rW(w:Int)(l:List gC):List gC:=l.flatMap λp=>if p.who==w then[]else[p]
def rV(w:Int)(l:List aY):List aY:=l.flatMap λb=>if b.who==w||b.src==w then[]else[b]
def rX(s:af)(w:Int):Int:=
 if kg s w=0 then(if fD (qg s w) 3 0=0 then(if fD (o9 s w) 3 0=0 then(rY s w 3 0 s.bf []).2.2 else fD (o9 s w) 3 0)else fD (qg s w) 3 0)else kg s w
def lN(s:af)(w:Int):af:=
 if rX s w=0 then{ s with aj:=kU s.aj w 3,book:=mF s w,bf:=(rY s w 3 0 s.bf []).1,ps:=rW w s.ps,calls:=dR s.calls [w],aW:=rV w s.aW }else .zero
def CB(s:af)(w:Int):List dM:=if rX s w=0 then AL (cU s w) 3 else[]
def CA(s:af)(w:Int):List aU:=if rX s w=0 then(rY s w 3 0 s.bf []).2.1 else[]
def L2(s:af)(w:Int)(l:List aB):(mM s w l).length<=l.length:=by
 have:=gH (f:=Ke s w) (m:=1) (λp=>by unfold Ke;split<;>simp) l;simpa[mM]using this
def VN(s:af)(w:Int)(h:s.fB)(e:s.small)(d:s.book.qs.length<2^20):(fU s w).length<2^20:=by
 unfold fU;split
 ·rename_i a;unfold kg at a;split at a
  ·rename_i b;have c:=(uL (wZ b).1).2.1;have:=(vX (s:=s) (w:=w) 8 0 (Kp c e.book d h.qs)).short;have h2:=L2 s w (kf s w 8 0 s.book).1.qs;omega
  ·rename_i b;exact absurd a b
 ·simp
def UI{s:af}{w c g:Int}(h:jI s w c g=0):∃a b rest,fC s w c g=a::b::rest/\rest.length=3:=by
 refine⟨_,_,_,by rw[fC,aq h],rfl⟩
def XH{c aV:Int}{d:List Int}{a b:Int}{rest:List Int}(h:jx c aV d=0)(e:d=a::b::rest):iS (a-(jL c aV d).c0)/\iS (b-(jL c aV d).c1):=by
 simp only[jL,aq h,AW];unfold jx at h;split at h
 ·rename_i n;simp only[bQ,ff]at n;have f:=n.2.2;unfold iP at f;split at f
  ·rename_i g;simp only[bQ,gD,gv]at g;split at f
   ·rename_i k;have l:=bL.1 g.2 a (by rw[e];simp);have m:=bL.1 g.2 b (by rw[e];simp);have i:=bL.1 k a (by rw[e];simp);have j:=bL.1 k b (by rw[e];simp);simp only[gD,gv]at i j;have l:=aP.1 l;have m:=aP.1 m;rw[e];simp only[tD,getD_cons_zero,getD_cons_succ];exact⟨⟨by omega,by omega⟩,⟨by omega,by omega⟩⟩
   ·cases f
  ·cases f
 ·cases h
theorem AY{f:Nat->Int}:∀{m i:Nat},fD f m i=0->∀c,i<=c->c<i+m->f c=0
 | 0,i,_,c,h1,h2=>by omega
 |m+1,i,h,c,h1,h2=>by
  simp only[fD]at h;split at h
  ·rename_i a;rcases dN i c with h3|h3
   ·exact AY h c ak ak
   ·obtain rfl:c=i:=ak
    exact a
  ·rename_i a;exact absurd h a
def Bk{l:bu}{id:Int}{g:List aK}:(iQ l id g).bs.length<=306/\∀b∈(iQ l id g).bs,b.fB:=by
 unfold iQ;split
 ·rename_i h;refine⟨Nat.le_trans (P6 _ _ _) BQ,?_⟩;have i:uF l g fP=true:=by
   unfold eK at h;split at h
   ·split at h
    ·split at h
     ·cases h
     ·split at h
      ·split at h
       ·assumption
       ·cases h
      ·rename_i j;exact absurd h j
    ·cases h
   ·cases h
  intro b f;obtain⟨a,d,f⟩:=mem_flatMap.1 f;unfold uU at f;split at f
  ·cases f
  ·obtain rfl:=gV.1 f;have o:=bL.1 i a d;have e:iS a.kind/\iS a.who/\iS a.cur:=by
    obtain⟨k,n,d⟩:=mem_flatMap.1 d;obtain⟨w,p,d⟩:=mem_flatMap.1 d;obtain⟨c,m,d⟩:=mem_flatMap.1 d;have h1:=mem_range.1 n;have j:=mem_range.1 p;have h3:=mem_range.1 m;unfold acc at d;split at d
    ·obtain rfl:=gV.1 d;exact⟨⟨by dsimp only;omega,by dsimp only;omega⟩,⟨by dsimp only;omega,by dsimp only;omega⟩,⟨by dsimp only;omega,by dsimp only;omega⟩⟩
    ·cases d
   exact⟨e.1,e.2.1,e.2.2,tH o⟩
 ·exact⟨by simp,by simp⟩
def bu.fk(l:bu):Prop:=l.bs.length<2^29/\(∀b∈l.bs,b.fB)/\iS l.last
def YO{l:bu}{id:Int}{g:List aK}(h:eK l id g=0):1<=id/\id<=1099511627776:=by
 unfold eK at h;split at h
 ·split at h
  ·rename_i a;simpa[within]using a
  ·cases h
 ·cases h
def Ly{l:bu}{id:Int}{g:List aK}:(iQ l id g).fk:=by
 refine⟨Nat.lt_of_le_of_lt Bk.1 (by decide),Bk.2,?_⟩;unfold iQ;split
 ·rename_i h;have:=YO h;exact⟨by dsimp only;omega,by dsimp only;omega⟩
 ·exact⟨by decide,by decide⟩
def P2{l:bu}(h:l.fk)(g:List aK)(e:Int):(fL l g e).1.fk:=by
 unfold fL;split
 ·exact Ly
 ·exact h
def R3(w:Int)(l:List gC):(rW w l).length<=l.length:=by
 have:=gH (f:=λp:gC=>if p.who==w then[]else[p]) (m:=1) (λp=>by split<;>simp) l;simpa[rW]using this
def Hr(w:Int)(l:List aY):(rV w l).length<=l.length:=by
 have:=gH (f:=λb:aY=>if b.who==w||b.src==w then[]else[b]) (m:=1) (λp=>by split<;>simp) l;simpa[rV]using this
def nT(l:List (List Int)):List (List D):=l.map λx=>[.sl 1 (ints x)]
def Ep(l:List (List Int)):(nT l).length=l.length:=by simp[nT]
def RC(l:List (List Int)){i:Nat}(h:i<l.length):(nT l).getD i []=[.sl 1 (ints l[i])]:=by simp[nT,h]
def SA(s:af)(w:Int)(hs:s.small)(hr:s.fB)(A:s.aj.ms.length<2^27)(hq:s.book.qs.length<2^20)(be:s.aW.length<2^20)(bm:s.bf.bs.length<2^29) :
  Sq 82 [] [.agg s.cells,.int .i64 w] [.own 3 (pl (lN s w).ps),.own 5 ((lN s w).aW.map aY.cells),.own 8 ((CB s w).map dM.cells),.own 3 ((CA s w).map aU.cells)]
   (.bI [.agg [.int .i64 (lN s w).now,.int .i64 (lN s w).day,.int .i64 (lN s w).phase,.sl 3 ((lN s w).aj.ms.map av.cells),.sl 12 ((lN s w).aj.ns.map aE.cells),.sl 4 ((lN s w).aj.xs.map aD.cells),.int .i64 (lN s w).book.next,.sl 7 ((lN s w).book.ts.map aR.cells),.sl 4 ((lN s w).book.qs.map aB.cells),
    .int .i64 (lN s w).bf.last,.sl 4 ((lN s w).bf.bs.map bU.cells),.ref 0,.sl 4 ((lN s w).calls.map aI.cells),.ref 1,.sl 7 ((lN s w).aT.map bX.cells)],.ref 2,.ref 3,.int .i64 (rX s w)]):=by
 have c1:=CQ s w hs hr hq be;have c2:=aX s hs;have hDl:=VN s w hr hs hq;have cG:=λc=>Ay w c (fU s w) ak;have cC:=λc g=>Nd s w c g hs hr A;have cF:=λc aV B h=>Ng c aV B h;have cX:=λc g f B a b rest h1 h2=>Io s w c g f B a b rest h1 h2 hs hr A;have cP:=λl id g (h1:l.bs.length<2^30) h2 h3=>vh l id g h1 h2 h3;have y:=EJ s.aj w 3 hs.aj;have cW:=Fw s.calls [w] hs.calls sT;have aK:kg s w=0->bM s=true:=λh=>by
  unfold kg at h;split at h
  ·rename_i A;exact(wZ A).1
  ·rename_i A;exact absurd h A
 obtain⟨E,r⟩:=aN (rX s w);have aZ:=r;simp only[rX]at r;simp only[lN,CB,CA,<-aZ];obtain⟨pe,ba⟩:=aN (kg s w);rw[<-ba]at c1 aK r;simp only[af.cells]at c1 c2 cC cX |-;simp only[aH.cells]at c1;simp only[bu.cells]at cP;simp only[aA.cells]at y;simp only[dM.cells]at cF cX;simp only[ints,map_cons,map_nil]at cW;clear aZ;refine bp 241 2 [.cell 4 42,.tmp 5,.tmp 6,.tmp 7] mixed func82 ?_;simp only[go_sem,seval];refine bg ?_;refine aG.bC c1 ?_;clear c1;by_cases b1:pe=0
 case neg =>
  have d:(pe==0)=false:=su b1;rw[au b1]at r;rw[r];simp only[au b1];simp only[go_sem,seval,bne,d];(with_reducible and_intros)<;>first|exact .dq|omega|skip
  all_goals simp[af.zero,pl]
 obtain⟨aM,_,_,bw,_⟩:=uL (aK b1);have cX:=λc g f B a b rest h1 h2=>cX c g f B a b rest h1 h2 aM bw;rw[aq b1]at r;rw[b1];clear aK ba b1;simp only[go_sem,seval];refine bg ?_;refine aG.bC c2 ?_;clear c2;simp only[go_sem,seval];(with_reducible and_intros)<;>first|exact .dq|omega|skip
 obtain⟨F1,ar⟩:=aN (fD (qg s w) 3 0);rw[<-ar]at r;refine aF.wu 3 [1,2,4,8,9,10,12,13,14] [48,80,144,160,208] (λi=>[(16,.int .i64 i),(15,.ref 1024)]) (λi=>[(1024,.own 1 (ints (AL (aQ s w) i)))]) (λi=>fD (qg s w) (3-i) i=F1) ar.symm ?_ ?_ ?_
 ·simp only[go_sem,seval,I8]<;>simp[ints]
 ·intro c _ P o D j;have o:decide ((c:Int)<3)=true:=o;obtain⟨m,A⟩:∃m,3-c=m+1:=⟨3-c-1,by omega⟩
  have C:3-(c+1)=m:=ak
  rw[A]at j;simp only[fD]at j;have aO:=cG c;have e1:nD w c (fU s w)=qg s w c:=rfl;have e2:qz w c (fU s w)=aQ s w c:=rfl;rw[e1,e2]at aO;have bb:=C3 (aQ s w) c;have al:=ry (aQ s w) c;have an:ints (AL (aQ s w) (c+1))=ints (AL (aQ s w) c)++[[.int .i64 (aQ s w c)]]:=by rw[bb];simp only[ints,jF,map_cons,map_nil]
  obtain⟨T,hT⟩:=aN (AL (aQ s w) c);rw[<-hT]at an al |-;clear cG cC cF cX cP y cW bb hT e1 e2;simp only[go_sem,seval,o];refine bg ?_;refine aG.bC aO ?_;by_cases q:qg s w c=0
  ·rw[aq q]at j;rw[q];simp only[go_sem,seval,bne,az,al,D];(with_reducible and_intros)<;>first|exact .dq|omega|skip
   refine ah.u P (by rw[C];exact j) ?_;simp only[go_sem,seval,an]
  ·have d:(qg s w c==0)=false:=su q;rw[au q]at j;rw[<-j,au q]at r;rw[r];simp only[au q];simp only[go_sem,seval,bne,d];(with_reducible and_intros)<;>first|exact .dq|omega|skip
   all_goals simp[af.zero,pl]
 intro _ _ j;have j:F1=0:=j.symm;rw[aq j]at r;clear cG j;have a1:=ry (aQ s w) 3;have z:∀c,c<3->(AL (aQ s w) 3)[c]?=some (aQ s w c):=λc h=>by simp[AL,h]
 obtain⟨GS,aw⟩:=aN (AL (aQ s w) 3);simp only[<-aw]at a1 z;rw[<-aw];clear aw;simp only[go_sem,seval];(with_reducible and_intros)<;>first|exact .dq|omega|skip
 obtain⟨F2,ae⟩:=aN (fD (o9 s w) 3 0);rw[<-ae]at r;refine aF.wu 3 [1,2,4,8,9,12,14,15] [48,80,144,160,208,1024] (λi=>[(20,.int .i64 i),(13,.ref 1584),(19,.ref 1648)]) (λi=>[(1584,.own 8 ((AL (cU s w) i).map dM.cells)),(1648,.own 1 (nT (AL (gQ s w) i)))]) (λi=>fD (o9 s w) (3-i) i=F2) ae.symm ?_ ?_ ?_
 ·simp only[go_sem,seval,I8]<;>simp[nT]
 ·intro c _ P o D j;have o:decide ((c:Int)<3)=true:=o;obtain⟨m,A⟩:∃m,3-c=m+1:=⟨3-c-1,by omega⟩
  have C:3-(c+1)=m:=ak
  rw[A]at j;simp only[fD]at j;have Z:c<GS.length:=ak
  have aa:=ints_at GS Z;have ay:GS[c]=aQ s w c:=by
   have:=z c P;rw[fj Z]at this;exact Option.some.inj this
  rw[ay]at aa;have bn:(c:Int)<(GS.length:Int):=ak
  have bc:=cC c (aQ s w c);have bh:(fC s w c (aQ s w c)).length<2^30:=by unfold fC;split<;>simp
  have ao:=cF c (eT s w c (aQ s w c)) (fC s w c (aQ s w c)) bh;have ad:o9 s w c=if jI s w c (aQ s w c)=0 then jx c (eT s w c (aQ s w c)) (fC s w c (aQ s w c))else jI s w c (aQ s w c):=rfl;have e1:jL c (eT s w c (aQ s w c)) (fC s w c (aQ s w c))=cU s w c:=rfl;have ab:=C3 (cU s w) c;have am:=C3 (gQ s w) c;have ac:nT (AL (gQ s w) (c+1))=nT (AL (gQ s w) c)++[[.sl 1 (ints (fC s w c (aQ s w c)))]]:=by rw[am];simp only[nT,jF,map_cons,map_nil,gQ]
  have a8:=ry (cU s w) c;have a9:=ry (gQ s w) c;rw[e1]at ao;obtain⟨T,hT⟩:=aN (AL (cU s w) c);obtain⟨U,hU⟩:=aN (AL (gQ s w) c);rw[<-hT]at ab a8;rw[<-hU]at ac a9;rw[<-hT,<-hU];obtain⟨fl,ag⟩:=aN (cU s w c);rw[<-ag]at ao ab;clear cC cF cX cP y cW am hT hU e1 z;simp only[go_sem,seval,o,az,aa];(with_reducible and_intros)<;>first|exact .dq|omega|skip
  refine aG.bC bc ?_;by_cases q:jI s w c (aQ s w c)=0
  case neg =>
   have d:(jI s w c (aQ s w c)==0)=false:=su q;rw[au q]at ad;rw[ad,au q]at j;rw[<-j,au q]at r;rw[r];simp only[au q];simp only[go_sem,seval,bne,d];(with_reducible and_intros)<;>first|exact .dq|omega|skip
   all_goals simp[af.zero,pl]
  rw[aq q]at ad;rw[q];simp only[go_sem,seval];refine bg ?_;refine aG.bC ao ?_;rw[<-ad];by_cases G:o9 s w c=0
  ·rw[aq G]at j;rw[G];simp only[go_sem,seval,bne,Ep,a8,a9,D];(with_reducible and_intros)<;>first|exact .dq|omega|skip
   refine ah.u P (by rw[C];exact j) ?_;simp only[go_sem,seval,ab,ac]<;>simp
  ·have d:(o9 s w c==0)=false:=su G;rw[au G]at j;rw[<-j,au G]at r;rw[r];simp only[au G];simp only[go_sem,seval,bne,d];(with_reducible and_intros)<;>first|exact .dq|omega|skip
   all_goals simp[af.zero,pl]
 intro _ _ j;have j:F2=0:=j.symm;rw[aq j]at r;have Y:∀c<3,o9 s w c=0:=λc h=>AY (ae.symm.trans j) c ak ak;clear cC cF j;have bd:=ry (cU s w) 3;have N:∀c,c<3->(AL (cU s w) 3)[c]?=some (cU s w c):=λc h=>by simp[AL,h]
 have aP:(nT (AL (gQ s w) 3)).length=3:=by rw[Ep,ry]
 have J:∀c,c<3->(nT (AL (gQ s w) 3)).getD c []=[.sl 1 (ints (gQ s w c))]:=λc h=>by
  rw[RC _ (by rw[ry];exact h)];simp[AL]
 obtain⟨FX,a0⟩:=aN (AL (cU s w) 3);simp only[<-a0]at bd N;obtain⟨CS,ap⟩:=aN (nT (AL (gQ s w) 3));simp only[<-ap]at aP J;rw[<-ap];obtain⟨R,hR⟩:=aN (rY s w 3 0 s.bf []);simp only[<-hR]at r |-;clear ap;have aJ:s.bf.fk:=⟨bm,hr.bs,hr.last⟩
 simp only[go_sem,seval,<-a0];(with_reducible and_intros)<;>first|exact .dq|omega|skip
 refine aF.sK (S:=bu×List aU) 3 [1,2,4,8,9,12,13,15,19] [48,80,144,160,1024,1584,1648] (λi _=>[(25,.int .i64 i),(14,.ref 2544)])
  (λ_ x=>[(208,.box [.int .i64 s.now,.int .i64 s.day,.int .i64 s.phase,.sl 3 (s.aj.ms.map av.cells),.sl 12 (s.aj.ns.map aE.cells),.sl 4 (s.aj.xs.map aD.cells),.int .i64 s.book.next,.sl 7 (s.book.ts.map aR.cells),.sl 4 (s.book.qs.map aB.cells),
   .int .i64 x.1.last,.sl 4 (x.1.bs.map bU.cells),.sl 3 (pl s.ps),.sl 4 (s.calls.map aI.cells),.sl 5 (s.aW.map aY.cells),.sl 7 (s.aT.map bX.cells)]),(2544,.own 3 (x.2.map aU.cells))])
  (λi x=>rY s w (3-i) i x.1 x.2=R/\x.1.fk/\x.2.length<=i) (s.bf,[]) ⟨hR.symm,aJ,fS _⟩ ?_ ?_ ?_
 ·simp only[go_sem,seval]<;>simp
 ·intro c x P o D j;obtain⟨L,p⟩:=x;obtain⟨j,O,aL⟩:=j;dsimp only at j O aL |-;have o:decide ((c:Int)<3)=true:=o;obtain⟨m,A⟩:∃m,3-c=m+1:=⟨3-c-1,by omega⟩
  have C:3-(c+1)=m:=ak
  rw[A]at j;simp only[rY]at j;have Z:c<GS.length:=ak
  have a5:c<FX.length:=ak
  have aa:=ints_at GS Z;have ay:GS[c]=aQ s w c:=by
   have:=z c P;rw[fj Z]at this;exact Option.some.inj this
  rw[ay]at aa;have ai:=br (c:=dM.cells) FX a5;have bj:FX[c]=cU s w c:=by
   have:=N c P;rw[fj a5]at this;exact Option.some.inj this
  rw[bj]at ai;have bt:=J c P;have bn:(c:Int)<(GS.length:Int):=ak
  have aJ:(c:Int)<(FX.length:Int):=ak
  have hlk:(c:Int)<(CS.length:Int):=ak
  have Q:=Y c P;unfold o9 at Q;have ax:jI s w c (aQ s w c)=0:=by
   split at Q
   ·assumption
   ·exact Q
  rw[aq ax]at Q;obtain⟨a,b,rest,ho,hrl⟩:=UI ax;have ho:gQ s w c=a::b::rest:=ho;obtain⟨hx,hy⟩:=XH Q ho;have X:=cX c (aQ s w c) (cU s w c) (gQ s w c) a b rest ho ak hx hy;have hA:gN s w c=jJ s w c (aQ s w c) (cU s w c) a b:=by unfold gN;rw[ho];rfl
  rw[<-hA]at X;have bk:(gN s w c).1.length<=306:=by
   rw[hA];unfold jJ;split
   ·split
    ·split
     ·exact vN _
     ·simp
    ·simp
   ·simp
  have H:=λh=>cP L (nextId L) (gN s w c).1 (by have:=O.1;omega) O.2.1 h;have H:=H ak;simp only[nextId]at H;have t:=P2 O (gN s w c).1 (gN s w c).2.2;obtain⟨g,hg⟩:=aN ((gN s w c).1);obtain⟨n,hn⟩:=aN ((gN s w c).2.1);obtain⟨e,he⟩:=aN ((gN s w c).2.2);simp only[<-hg,<-hn,<-he]at X H t j bk;obtain⟨fl,ag⟩:=aN (cU s w c);rw[<-ag]at ai X;simp only[dM.cells]at ai;clear cX cP hA hg hn he z N J hx hy Q ax Y y cW ag;simp only[go_sem,seval,o,az,aa,ai,bt];(with_reducible and_intros)<;>first|exact .dq|omega|skip
  refine aG.bC X ?_;by_cases F:e=0
  case neg =>
   have d:(e==0)=false:=su F;have I:fL L g e=(L,e):=by simp[fL,F]
   rw[I]at j;dsimp only at j;rw[au F]at j;rw[r,<-j];simp only[au F];simp only[go_sem,seval,bne,d];(with_reducible and_intros)<;>first|exact .dq|omega|skip
   all_goals simp[af.zero,pl]
  rw[F]at j t |-
  by_cases G:g=[]
  ·have I:fL L g 0=(L,0):=by simp[fL,G]
   rw[I]at j t;dsimp only at j t;rw[aq rfl]at j;rw[G];simp only[go_sem,seval,map_nil,length_nil];(with_reducible and_intros)<;>first|exact .dq|omega|skip
   by_cases q3:n=0
   ·have j:rY s w m (c+1) L p=R:=by rw[<-j];simp[nF,q3]
    rw[q3];simp only[go_sem,seval,bne,D];(with_reducible and_intros)<;>first|exact .dq|omega|skip
    refine ah.jT (L,p) P ⟨by rw[C];exact j,t,by dsimp only;omega⟩ ?_;simp only[go_sem,seval]<;>simp
   ·have d:(n==0)=false:=su q3;have j:rY s w m (c+1) L (p++[⟨w,c,n⟩])=R:=by rw[<-j];simp[nF,q3]
    simp only[go_sem,seval,bne,d,D];(with_reducible and_intros)<;>first|exact .dq|omega|skip
    refine ah.jT (L,p++[⟨w,c,n⟩]) P ⟨by rw[C];exact j,t,by simp;omega⟩ ?_;simp only[go_sem,seval]<;>simp
  have bl:decide ((0:Int)<(g.length:Int))=true:=by
   have:g.length≠0:=λh=>G (eq_nil_of_length_eq_zero h);simp;omega
  have I:fL L g 0=(iQ L (nextId L) g,eK L (nextId L) g):=by simp[fL,G]
  simp only[nextId]at I;obtain⟨M,hM⟩:=aN (iQ L (IntKind.wrap .i64 (L.last+1)) g);obtain⟨e2,a7⟩:=aN (eK L (IntKind.wrap .i64 (L.last+1)) g);rw[<-hM,<-a7]at I H;rw[I]at j t;dsimp only at j t;simp only[go_sem,seval,bl];refine bg ?_;refine aG.bC H ?_;clear H hM a7 X;by_cases q4:e2=0
  case neg =>
   have d:(e2==0)=false:=su q4;rw[au q4]at j;rw[r,<-j];simp only[au q4];simp only[go_sem,seval,bne,d];(with_reducible and_intros)<;>first|exact .dq|omega|skip
   all_goals simp[af.zero,pl]
  rw[q4]at j |-;rw[aq rfl]at j;simp only[go_sem,seval];(with_reducible and_intros)<;>first|exact .dq|omega|skip
  by_cases q3:n=0
  ·have j:rY s w m (c+1) M p=R:=by rw[<-j];simp[nF,q3]
   rw[q3];simp only[go_sem,seval,bne,D];(with_reducible and_intros)<;>first|exact .dq|omega|skip
   refine ah.jT (M,p) P ⟨by rw[C];exact j,t,by dsimp only;omega⟩ ?_;simp only[go_sem,seval]<;>simp
  ·have d:(n==0)=false:=su q3;have j:rY s w m (c+1) M (p++[⟨w,c,n⟩])=R:=by rw[<-j];simp[nF,q3]
   simp only[go_sem,seval,bne,d,D];(with_reducible and_intros)<;>first|exact .dq|omega|skip
   refine ah.jT (M,p++[⟨w,c,n⟩]) P ⟨by rw[C];exact j,t,by simp;omega⟩ ?_;simp only[go_sem,seval]<;>simp
 rintro⟨L,p⟩ _ ⟨j,O,aL⟩;have j:(L,p,(0:Int))=R:=j;subst j;dsimp only at r O aL |-;rw[r];clear r cX cP z N J Y a1 aP aJ ar ae hR;simp only[go_sem,seval];refine bg ?_;refine sc aS y ?_;(with_reducible and_intros)<;>first|exact .dq|omega|skip
 refine aG.gE [2768] [] false sT ?_;simp only[go_sem,seval];refine cz.gF cW ?_;clear y cW;have hpsl:=hs.ps;obtain⟨PU,a3⟩:=aN (kU s.aj w 3);obtain⟨PB,a2⟩:=aN (mF s w);obtain⟨WL,a4⟩:=aN (dR s.calls [w]);rw[<-a3,<-a2,<-a4];clear a3 a2 a4;simp only[go_sem,seval];(with_reducible and_intros)<;>first|exact .dq|omega|skip
 refine aF.sK (S:=Unit) s.ps.length [1,2,4,12,13,14] [48,80,1584,2544] (λi _=>[(29,.int .i64 i)])
  (λi _=>[(208,.box [.int .i64 s.now,.int .i64 s.day,.int .i64 s.phase,.sl 3 (PU.ms.map av.cells),.sl 12 (PU.ns.map aE.cells),.sl 4 (PU.xs.map aD.cells),.int .i64 PB.next,.sl 7 (PB.ts.map aR.cells),.sl 4 (PB.qs.map aB.cells),
   .int .i64 L.last,.sl 4 (L.bs.map bU.cells),.ref 3200,.sl 4 (WL.map aI.cells),.sl 5 (s.aW.map aY.cells),.sl 7 (s.aT.map bX.cells)]),(3200,.own 3 (pl (rW w (s.ps.take i))))])
  (λ_ _=>True) () trivial ?_ ?_ ?_
 ·simp only[go_sem,seval]<;>simp[rW,pl]
 ·intro i _ hi V W _;have A:=qh s.ps hi;have bo:(i:Int)<(s.ps.length:Int):=ak
  have bq:(s.ps.take i).length=i:=by simp;omega
  have k:rW w (s.ps.take (i+1))=rW w (s.ps.take i)++_:=iq _ hi;have aC:=R3 w (s.ps.take i);obtain⟨x,hx⟩:=aN (s.ps[i]);rw[<-hx]at A k;obtain⟨K,hK⟩:=aN (rW w (s.ps.take i));rw[<-hK]at k aC;rw[<-hK];have bv:pl (K++[x])=pl K++[[.int .i64 x.who,.int .i64 x.bT,.int .i64 x.units]]:=by simp[pl,gC.cells]
  cases F:x.who==w
  ·simp only[F,iM,if_false]at k;simp only[go_sem,seval,nG,V,A,bne,F,W];(with_reducible and_intros)<;>first|exact .dq|omega|skip
   refine ah.v hi ?_;simp only[go_sem,seval,k,bv]<;>simp
  ·simp only[F,if_true,append_nil]at k;simp only[go_sem,seval,nG,V,A,bne,F,W];(with_reducible and_intros)<;>first|exact .dq|omega|skip
   refine ah.v hi ?_;simp only[go_sem,seval,k]<;>simp
 intro _ bi _;simp only[go_sem,seval,nG,bi,eu];(with_reducible and_intros)<;>first|exact .dq|omega|skip
 have hbsl:=hs.aW;refine aF.sK (S:=Unit) s.aW.length [1,2,4,12,13,14] [48,80,1584,2544,3200] (λi _=>[(30,.int .i64 i)])
  (λi _=>[(208,.box [.int .i64 s.now,.int .i64 s.day,.int .i64 s.phase,.sl 3 (PU.ms.map av.cells),.sl 12 (PU.ns.map aE.cells),.sl 4 (PU.xs.map aD.cells),.int .i64 PB.next,.sl 7 (PB.ts.map aR.cells),.sl 4 (PB.qs.map aB.cells),
   .int .i64 L.last,.sl 4 (L.bs.map bU.cells),.ref 3200,.sl 4 (WL.map aI.cells),.ref 3792,.sl 7 (s.aT.map bX.cells)]),(3792,.own 5 ((rV w (s.aW.take i)).map aY.cells))])
  (λ_ _=>True) () trivial ?_ ?_ ?_
 ·simp only[go_sem,seval]<;>simp[rV]
 ·intro i _ hi V W _;obtain⟨x,hx,A,bo⟩:=oc (c:=aY.cells) s.aW hi;have bq:(s.aW.take i).length=i:=by simp;omega
  have k:rV w (s.aW.take (i+1))=rV w (s.aW.take i)++_:=iq _ hi;have aC:=Hr w (s.aW.take i);rw[<-hx]at k;obtain⟨K,hK⟩:=aN (rV w (s.aW.take i));rw[<-hK]at k aC;rw[<-hK];cases F:x.who==w
  ·cases G:x.src==w
   ·simp only[F,G,Bool.or_self,iM,if_false]at k;simp only[go_sem,seval,V,A,bne,F,G,W];refine bg ?_;refine ah.v hi ?_;simp only[go_sem,seval,k]<;>simp
   ·simp only[F,G,Bool.false_or,if_true,append_nil]at k;simp only[go_sem,seval,V,A,bne,F,G,W];refine bg ?_;refine ah.v hi ?_;simp only[go_sem,seval,k]<;>simp
  ·simp only[F,Bool.true_or,if_true,append_nil]at k;simp only[go_sem,seval,V,A,bne,F,W];refine bg ?_;refine ah.v hi ?_;simp only[go_sem,seval,k]<;>simp
 intro _ a6 _;simp only[go_sem,seval,a6,eu]
def Qk(s:af)(w:Int)(f:s.small)(e:s.fB)(c:s.aj.ms.length<2^27)(d:s.book.qs.length<2^20)(a:s.aW.length<2^20)(b:s.bf.bs.length<2^29) :
  Sq 82 [] [.agg s.cells,.int .i64 w] [] (.bI [.agg (lN s w).cells,.sl 8 ((CB s w).map dM.cells),.sl 3 ((CA s w).map aU.cells),.int .i64 (rX s w)]):=by
 refine Spec.frozen (SA s w f e c d a b) [0,1,2,3] rfl ?_;intro r;rcases r with _| _| _| _|r<;>rfl
def rj(s:af):List aU:=(oZ (yc s.aj s.book)).1
def FY(s:af):bu×Int:=fL s.bf (yP (rj s)) (Cu (rj s))
def nh(s:af):Int:=if bM s then(if s.phase=0 then(if Ag s.aj s.book=0 then(if(oZ (yc s.aj s.book)).2=0 then(FY s).2 else(oZ (yc s.aj s.book)).2)else Ag s.aj s.book)else 15)else 14
def rq(s:af):af:=if nh s=0 then{ s with phase:=1,aj:=Q3 s.aj,book:=Eb s.aj s.book,bf:=(FY s).1 }else .zero
def uN(s:af):List aU:=if nh s=0 then rj s else[]
def Vy(l:List aU):(yP l).length<=306:=by
 unfold yP;split
 ·exact vN _
 ·simp
def YX(r:aA)(b:aH):(yc r b).length<=b.qs.length:=by
 unfold yc;split<;>simp
def zg{s:af}(h:bM s=true):0<=s.now/\s.now<=1099511627776/\0<=s.day/\s.day<=1099511627776/\0<=s.phase/\s.phase<=2:=by
 simp only[bM,rR,within,bQ,bz]at h;have:=h.1;omega
def Iy(s:af)(c:s.small)(A:s.fB)(hq:s.book.qs.length<2^20) :
  Sq 77 [] [.agg s.cells] [] (.bI [.agg (rq s).cells,.sl 3 ((uN s).map aU.cells),.I (nh s)]):=by
 have c1:=kk s c A;have c2:=aX s c;have c3:=Qm s.aj s.book c.aj c.book A.qs;have w:=YX s.aj s.book;have c4:=EI (yc s.aj s.book) ak;have z:=(MP (yc s.aj s.book)).2;have i:=Fu (rj s) (by unfold rj;omega);have o:=Vy (rj s);have j:=vh s.bf (nextId s.bf) (yP (rj s)) c.bf A.bs ak;have v:=Nu s.aj c.aj;obtain⟨E,a⟩:=aN (nh s);have k:=a;simp only[nh]at a;simp only[rq,uN,<-k];clear k;obtain⟨P,b⟩:=aN (FY s);rw[<-b]at a |-;simp only[FY]at b;have D:(oZ (yc s.aj s.book)).1=rj s:=rfl;rw[D]at c4;clear D;obtain⟨N,G⟩:=aN (rj s);obtain⟨ne,p⟩:=aN ((oZ (yc s.aj s.book)).2);rw[<-G]at c4 i j b o |-;rw[<-p]at c4 a;clear G p z;obtain⟨g,H⟩:=aN (yP N);obtain⟨F,n⟩:=aN (Cu N);rw[<-H]at i j b o;rw[<-n]at i b;clear H n;simp only[af.cells]at c1 c2 |-;simp only[aH.cells]at c3;simp only[aA.cells]at c3 v;simp only[bu.cells,nextId]at j;simp only[nextId,fL]at b;obtain⟨RD,m⟩:=aN (yc s.aj s.book);obtain⟨RB,l⟩:=aN (Eb s.aj s.book);obtain⟨J,q⟩:=aN (Ag s.aj s.book);rw[<-m]at c3 c4;rw[<-l]at c3 |-;rw[<-q]at c3 a;clear m l q w;refine bp 82 1 [.cell 2 42,.tmp 3,.tmp 4] mixed func77 ?_;refine sc aS c1 ?_;cases C:bM s
 ·rw[C]at a;rw[a];simp only[go_sem,seval]<;>simp[af.zero,pl]
 rw[C,aq rfl]at a;refine s0 ?_;refine bg ?_;by_cases r:s.phase=0
 case neg =>
  have d:(s.phase==0)=false:=su r;rw[au r]at a;rw[a];simp only[go_sem,seval,bne,d]<;>simp[af.zero,pl]
 rw[aq r]at a;rw[r]at c1 c2 |-;refine sc aS c3 ?_;clear c1 c3;by_cases e:J=0
 case neg =>
  have d:(J==0)=false:=su e;rw[au e]at a;rw[a];simp only[au e];simp only[go_sem,seval,bne,d]<;>simp[af.zero,pl]
 rw[aq e]at a;rw[e];refine sc aS c4 ?_;by_cases f:ne=0
 case neg =>
  have d:(ne==0)=false:=su f;rw[au f]at a;rw[a];simp only[au f];simp only[go_sem,seval,bne,d]<;>simp[af.zero,pl]
 rw[aq f]at a;rw[f];clear c4;refine sc aS c2 ?_;refine sc aS i ?_;clear c2 i;by_cases t:F=0
 case neg =>
  have d:(F==0)=false:=su t;rw[au (by simp[t])]at b;rw[a,b];simp only[au t];simp only[go_sem,seval,bne,d]<;>simp[af.zero,pl]
 rw[t]at b |-
 by_cases u:g=[]
 ·rw[au (by simp[u])]at b;rw[a,b,u];simp only[go_sem,seval,map_nil,length_nil];exact sZ aS v
 have y:decide ((0:Int)<(g.length:Int))=true:=by
  have:g.length≠0:=λh=>u (eq_nil_of_length_eq_zero h);simp;omega
 rw[aq ⟨rfl,u⟩]at b;obtain⟨M,K⟩:=aN (iQ s.bf (IntKind.wrap .i64 (s.bf.last+1)) g);obtain⟨e2,x⟩:=aN (eK s.bf (IntKind.wrap .i64 (s.bf.last+1)) g);rw[<-K,<-x]at b j;refine sc y j ?_;by_cases B:e2=0
 case neg =>
  have d:(e2==0)=false:=su B;rw[a,b];simp only[au B];simp only[go_sem,seval,bne,d]<;>simp[af.zero,pl]
 rw[a,b,B];exact sZ aS v
def Ex(c:bG)(l a:ByteArray):Nat->Nat->Int
 | 0,_=>0
 |m+1,i=>if !hasB l (wM a i)&&!(My c (wM a i)==0)then 6 else Ex c l a m (i+1)
def Bv(c:bG):Nat->Int
 | 0=>c.s0
 | 1=>c.s1
 | 2=>c.s2
 | 3=>c.s3
 | 4=>c.s4
 | _=>c.s5
def OR(c:bG)(l:ByteArray):Nat->Nat->Int
 | 0,_=>0
 |m+1,i=>if !hasB l 115&&!(Bv c i==0)then 6 else OR c l m (i+1)
def aaa:ByteArray:=⟨#[119,111,110,105,99,113,112,97]⟩
def Cd(c:bG):Int:=if within c.kind 1 22 then(if Ex c (gI c.kind) aaa 8 0=0 then(if OR c (gI c.kind) 6 0=0 then(if within c.client 1 8 then 0 else 6)else 6)else 6)else 21
theorem OQ(c:bG)(l a:ByteArray):∀m i,Ex c l a m i=0\/Ex c l a m i=6
 | 0,_=>.inl rfl
 |m+1,i=>by simp only[Ex];split;exact .inr rfl;exact OQ c l a m (i+1)
def PT(k:Int):(gI k).size<2^60:=by
 unfold gI;generalize k.toNat=n;rcases(by omega:n<23\/23<=n)with h|h
 ·have:∀n<23,(Se.getD n ⟨#[]⟩).size<8:=by decide
  exact Nat.lt_trans (this n h) (by decide)
 ·rw[getD_eq_getElem?_getD,getElem?_eq_none (by simpa[Se]using h)];decide
def Ii(c:bG):Sq 64 [] [.agg c.cells] [] (.I (Cd c)):=by
 have c1:=jY c.kind 1 22;have c2:=λh=>Fm c.kind h;have c3:=jY c.client 1 8;have o:=λb=>JN (gI c.kind) b (PT c.kind);have w:=λb=>Fl c b;obtain⟨E,e⟩:=aN (Cd c);rw[<-e];simp only[Cd]at e;obtain⟨l,J⟩:=aN (gI c.kind);rw[<-J]at c2 o e;clear J;simp only[bG.cells]at w |-;refine bp 52 1 [.tmp 2] mixed func64 ?_;refine sc aS c1 ?_;cases v:within c.kind 1 22
 ·rw[v]at e;rw[e];exact kG
 have c2:=c2 (by simpa[within]using v);rw[v,aq rfl]at e;refine s0 ?_;refine bg ?_;refine aG.bC c2 ?_;clear c1 c2 v;refine s0 ?_;refine bg ?_;rw[show(⟨#[119,111,110,105,99,113,112,97]⟩:ByteArray)=aaa from rfl];have s:aaa.size=8:=rfl;obtain⟨A,K⟩:=aN (aaa);rw[<-K]at e s |-;obtain⟨F,y⟩:=aN (Ex c l A 8 0);rw[<-y]at e;have t:=OQ c l A 8 0;rw[<-y]at t;refine aF.wu A.size [1,3,4] [32,224] (λi=>[(5,.I i)]) (λ_=>[]) (λi=>Ex c l A (A.size-i) i=F) (by rw[s];exact y.symm) ?_ ?_ ?_
 ·refine s0 ?_;try simp
 ·intro i _ k j g a;obtain⟨m,C⟩:∃m,A.size-i=m+1:=⟨A.size-i-1,by omega⟩
  have f:A.size-(i+1)=m:=ak
  rw[C]at a;simp only[Ex]at a;have hli:(i:Int)<(A.size:Int):=ak
  have z:((A[i]?).map (λx=>(x.toNat:Int))).getD 0=wM A i:=rfl;have r:=o (wM A i);have p:=w (wM A i);obtain⟨b,B⟩:=aN (wM A i);rw[<-B]at z a r p;clear o w c3;simp only[go_sem,seval,j,Int.toNat_natCast,z];refine sc aS r ?_;cases q:hasB l b
  ·rw[q,Bool.not_false,cm]at a;simp only[go_sem,seval,Int.toNat_natCast,z];refine sc aS p ?_;cases d:My c b==0
   ·rw[d,Bool.not_false,aq rfl]at a;have:E=6:=by rw[e,<-a];rfl
    rw[this];exact dL (a2 gr d)
   ·rw[d]at a;refine sm (a3 gr d g) ?_;refine ah.u k (by rw[f];simpa using a) ?_;exact jq
  ·rw[q]at a;refine sm g ?_;refine ah.u k (by rw[f];simpa using a) ?_;exact jq
 intro _ n a;rw[Nat.sub_self]at a;have a:F=0:=a.symm;rw[aq a]at e;clear y t w a;obtain⟨G,H⟩:=aN (OR c l 6 0);rw[<-H]at e;have o:=o 115;refine sm n ?_;refine bg ?_;refine aF.wu 6 [1,3] [32,224] (λi=>[(6,.I i)]) (λ_=>[]) (λi=>OR c l (6-i) i=G) H.symm ?_ ?_ ?_
 ·refine s0 ?_;try simp
 ·intro i _ k j g a;have j:decide ((i:Int)<6)=true:=j;obtain⟨m,C⟩:∃m,6-i=m+1:=⟨6-i-1,by omega⟩
  have f:6-(i+1)=m:=ak
  rw[C]at a;simp only[OR]at a;refine sc j o ?_;cases q:hasB l 115
  case true =>
   rw[q]at a;refine sm g ?_;refine ah.u k (by rw[f];simpa using a) ?_;exact jq
  rw[q,Bool.not_false,cm]at a;rcases(by omega:i=0\/i=1\/i=2\/i=3\/i=4\/i=5)with rfl|rfl|rfl|rfl|rfl|rfl
  ·simp only[Bv]at a;cases d:c.s0==0
   ·rw[d,Bool.not_false,aq rfl]at a;have:E=6:=by rw[e,<-a];rfl
    rw[this];exact gY (a2 gr d)
   ·rw[d]at a;refine sm (a3 gr d g) ?_;refine ah.u k (by rw[f];simpa using a) ?_;refine s0 ?_;rfl
  ·simp only[Bv]at a;cases d:c.s1==0
   ·rw[d,Bool.not_false,aq rfl]at a;have:E=6:=by rw[e,<-a];rfl
    rw[this];exact gY (a2 gr d)
   ·rw[d]at a;refine sm (a3 gr d g) ?_;refine ah.u k (by rw[f];simpa using a) ?_;refine s0 ?_;rfl
  ·simp only[Bv]at a;cases d:c.s2==0
   ·rw[d,Bool.not_false,aq rfl]at a;have:E=6:=by rw[e,<-a];rfl
    rw[this];exact gY (a2 gr d)
   ·rw[d]at a;refine sm (a3 gr d g) ?_;refine ah.u k (by rw[f];simpa using a) ?_;refine s0 ?_;rfl
  ·simp only[Bv]at a;cases d:c.s3==0
   ·rw[d,Bool.not_false,aq rfl]at a;have:E=6:=by rw[e,<-a];rfl
    rw[this];exact gY (a2 gr d)
   ·rw[d]at a;refine sm (a3 gr d g) ?_;refine ah.u k (by rw[f];simpa using a) ?_;refine s0 ?_;rfl
  ·simp only[Bv]at a;cases d:c.s4==0
   ·rw[d,Bool.not_false,aq rfl]at a;have:E=6:=by rw[e,<-a];rfl
    rw[this];exact gY (a2 gr d)
   ·rw[d]at a;refine sm (a3 gr d g) ?_;refine ah.u k (by rw[f];simpa using a) ?_;refine s0 ?_;rfl
  ·simp only[Bv]at a;cases d:c.s5==0
   ·rw[d,Bool.not_false,aq rfl]at a;have:E=6:=by rw[e,<-a];rfl
    rw[this];exact gY (a2 gr d)
   ·rw[d]at a;refine sm (a3 gr d g) ?_;refine ah.u k (by rw[f];simpa using a) ?_;refine s0 ?_;rfl
 intro _ n a;have a:G=0:=a.symm;rw[aq a]at e;have n:decide (((6:Nat):Int)<6)=false:=n;refine sc aS c3 ?_;cases D:within c.client 1 8
 ·rw[D]at e;rw[e];exact kG
 ·rw[D]at e;rw[e];exact kG
def bF.err(e:Int):bF:=⟨e,0,0,[],[]⟩
def DN(c:bG)(last:Int):bF×Bool:=if c.seq=IntKind.wrap .i64 (last+1)then(if 1099511627776<c.seq then(.err 1,true)else(.err 0,false))else(.err 19,true)
def bX.zero:bX:=⟨0,0,.err 0⟩
def pH(s:af)(i:Int):bX:=s.aT.getD i.toNat .zero
def qD(s:af)(c:bG):bF×Bool:=
 if Cd c=0 then(if 0<=kr c.client s.aT 0 then(if c.seq=(pH s (kr c.client s.aT 0)).seq then((pH s (kr c.client s.aT 0)).r,true)else if c.seq<(pH s (kr c.client s.aT 0)).seq then(.err 18,true)else DN c (pH s (kr c.client s.aT 0)).seq)else DN c 0)else(.err (Cd c),true)
theorem QB(n:Int):∀(l:List bX)(k:Int),0<=k->0<=kr n l k->∃j:Nat,j<l.length/\kr n l k=k+j
 | [],k,_,h=>by simp[kr]at h
 |x::r,k,hk,h=>by
  simp only[kr]at h |-;split
  ·exact⟨0,by simp,by simp⟩
  ·rename_i b;rw[au b]at h;obtain⟨j,h1,a⟩:=QB n r (k+1) ak h;exact⟨j+1,by simp;omega,by rw[a];omega⟩
def xX(s:af)(c:bG)(F:s.small):Sq 18 [] [.agg s.cells,.agg c.cells] [] (.bI [.agg (qD s c).1.cells,.bool (qD s c).2]):=by
 have c1:=Ii c;have c2:=yW s c.client (by have:=F.aT;omega);have k:=QB c.client s.aT 0 ak;obtain⟨E,a⟩:=aN (qD s c);rw[<-a];simp only[qD]at a;obtain⟨C,g⟩:=aN (Cd c);obtain⟨i,D⟩:=aN (kr c.client s.aT 0);rw[<-g]at c1 a;rw[<-D]at c2 a k;clear g D;simp only[bG.cells]at c1 |-;simp only[af.cells]at c2 |-;refine bp 54 2 [.cell 4 64,.tmp 5] mixed func18 ?_;refine s0 ?_;refine sc aS c1 ?_;clear c1;by_cases l:C=0
 case neg =>
  have d:(C==0)=false:=su l;rw[au l]at a;rw[a];simp only[go_sem,seval,bne,d]<;>simp[bF.err]
 rw[aq l]at a;rw[l];refine s0 ?_;refine sc aS c2 ?_;clear c2;by_cases m:0<=i
 case neg =>
  have d:decide (0<=i)=false:=su m;rw[au m]at a;simp only[DN,show IntKind.wrap .i64 (0+1)=1 from rfl]at a;have A:IntKind.wrap .i64 1=1:=rfl;refine sm (a2 d A) ?_;refine bg ?_;by_cases b:c.seq=1
  ·rw[aq b,b]at a;have a:E=(.err 0,false):=a;rw[a,b];simp only[go_sem,seval]<;>simp[bF.err]
  ·have f:(c.seq==1)=false:=su b;rw[au b]at a;rw[a];simp only[go_sem,seval,bne,f]<;>simp[bF.err]
 obtain⟨j,y,h⟩:=k m;have h:i=(j:Int):=ak
 subst h;have d:decide ((0:Int)<=(j:Int))=true:=by simp
 have w:pH s (j:Int)=s.aT[j]:=by simp[pH,y]
 rw[aq m,w]at a;obtain⟨x,H,z,hlj⟩:=oc (c:=bX.cells) s.aT y;have e:=F.rs _ (dS y);rw[<-H]at a e;have B:=qP x.r e;simp only[bX.cells]at z;simp only[bF.cells]at B;simp only[go_sem,seval,d,z,Int.toNat_natCast];refine bg ?_;by_cases b:c.seq=x.seq
 ·have f:(c.seq==x.seq)=true:=su b;rw[aq b]at a;rw[a];simp only[go_sem,seval,f,z,Int.toNat_natCast];refine bg ?_;refine aG.bC B ?_;exact kG
 have f:(c.seq==x.seq)=false:=su b;rw[au b]at a;refine sm f ?_;refine bg ?_;by_cases n:c.seq<x.seq
 ·have q:decide (c.seq<x.seq)=true:=su n;rw[aq n]at a;rw[a];simp only[go_sem,seval,q]<;>simp[bF.err]
 have q:decide (c.seq<x.seq)=false:=su n;rw[au n]at a;simp only[DN]at a;obtain⟨v,G⟩:=aN (IntKind.wrap .i64 (x.seq+1));rw[<-G]at a;simp only[go_sem,seval,q,<-G];refine bg ?_;by_cases o:c.seq=v
 ·have t:(c.seq==v)=true:=su o;rw[aq o]at a;refine sm (a2 gr t) ?_;refine bg ?_;by_cases p:1099511627776<c.seq
  ·have u:decide (1099511627776<c.seq)=true:=su p;rw[aq p]at a;rw[a];simp only[go_sem,seval,u]<;>simp[bF.err]
  ·have u:decide (1099511627776<c.seq)=false:=su p;rw[au p]at a;rw[a];simp only[go_sem,seval,u]<;>simp[bF.err]
 ·have t:(c.seq==v)=false:=su o;rw[au o]at a;rw[a];simp only[go_sem,seval,bne,t]<;>simp[bF.err]
def x9(s:af)(g:List aK):Int:=eK s.bf (nextId s.bf) g
def qG(s:af)(g:List aK):af:=if x9 s g=0 then{ s with bf:=iQ s.bf (nextId s.bf) g }else s
def mH(s:af)(g:List aK)(i:s.bf.bs.length<2^30)(j:∀b∈s.bf.bs,b.fB)(h:g.length<2^29) :
  Sq 73 [.box s.cells] [.addr 0 0,.sl 4 (g.map aK.cells)] [.box (qG s g).cells] (.int .i64 (x9 s g)):=by
 have c1:=vh s.bf (nextId s.bf) g i j h;obtain⟨S,a⟩:=aN (qG s g);rw[<-a];simp only[qG]at a;obtain⟨e,f⟩:=aN (x9 s g);rw[<-f]at a |-;simp only[x9]at f;rw[<-f]at c1;clear f;simp only[bu.cells,nextId]at c1;simp only[nextId]at a;simp only[af.cells];refine bp 29 2 [.tmp 4] mixed func73 ?_;refine sc aS c1 ?_;refine bg ?_;by_cases c:e=0
 ·have d:(e==0)=true:=su c;rw[aq c]at a;rw[a];simp only[go_sem,seval,d]
 ·have d:(e==0)=false:=su c;rw[au c]at a;rw[a];simp only[go_sem,seval,d]
structure af.good(s:af):Prop where
 small:s.small
 fB:s.fB
 ms:s.aj.ms.length<2^27
 qs:s.book.qs.length<2^20
 aW:s.aW.length<2^20
 bs:s.bf.bs.length<2^29
 ps:s.ps.length<2^28
def af.good.bf{s:af}(h:s.good){l:bu}(a:l.fk):({ s with bf:=l }:af).good:=
 ⟨⟨h.small.aj,h.small.book,Nat.lt_trans a.1 (by decide),h.small.ps,h.small.calls,h.small.aW,h.small.aT,h.small.rs⟩,
  ⟨h.fB.now,h.fB.day,h.fB.phase,h.fB.ms,h.fB.ns,h.fB.xs,h.fB.next,h.fB.ts,h.fB.qs,a.2.2,a.2.1,h.fB.ps,h.fB.calls,h.fB.aW,h.fB.aT⟩,h.ms,h.qs,h.aW,a.1,h.ps⟩
def af.good.fk{s:af}(h:s.good):s.bf.fk:=⟨h.bs,h.fB.bs,h.fB.last⟩
def Lo{s:af}(h:s.good)(g:List aK):(qG s g).good:=by
 unfold qG;split
 ·exact h.bf Ly
 ·exact h
def ac4(s:af)(d:aU):af:={ s with calls:=xU s.calls d }
def vf(s:af)(c:bG):af×Int:=
 if aC.right ⟨2,c.who,c.cur⟩&&within c.cu 1 4611686018427387904 then
  (if Ge s.aj c.who=0 then
   (if c.kind=8 then(qG s (bR ⟨1,0,c.cur⟩ ⟨3,c.who,c.cur⟩ c.cu),x9 s (bR ⟨1,0,c.cur⟩ ⟨3,c.who,c.cur⟩ c.cu))
   else if c.kind=4 then
    (if x9 s (bR ⟨1,0,c.cur⟩ ⟨2,c.who,c.cur⟩ c.cu)=0 then(ac4 (qG s (bR ⟨1,0,c.cur⟩ ⟨2,c.who,c.cur⟩ c.cu)) ⟨c.who,c.cur,c.cu⟩,vR s.calls ⟨c.who,c.cur,c.cu⟩)
    else(qG s (bR ⟨1,0,c.cur⟩ ⟨2,c.who,c.cur⟩ c.cu),x9 s (bR ⟨1,0,c.cur⟩ ⟨2,c.who,c.cur⟩ c.cu)))
   else
    (qG s (bR ⟨2,c.who,c.cur⟩ ⟨1,0,c.cur⟩ c.cu),if x9 s (bR ⟨2,c.who,c.cur⟩ ⟨1,0,c.cur⟩ c.cu)=0 then UN (qG s (bR ⟨2,c.who,c.cur⟩ ⟨1,0,c.cur⟩ c.cu)) c.who c.cur else x9 s (bR ⟨2,c.who,c.cur⟩ ⟨1,0,c.cur⟩ c.cu)))
  else(s,Ge s.aj c.who))
 else(s,3)
def vg(s:af)(c:bG)(h:s.good):Sq 68 [.box s.cells] [.addr 0 0,.agg c.cells] [.box (vf s c).1.cells] (.int .i64 (vf s c).2):=by
 have c1:=kj 2 c.who c.cur;have c2:=kj 1 0 c.cur;have c3:=kj 3 c.who c.cur;have c4:=jm ⟨2,c.who,c.cur⟩;have T:=jY c.cu 1 4611686018427387904;have r:=v7 s c.who h.small.aj.small;have J:=lI ⟨1,0,c.cur⟩ ⟨3,c.who,c.cur⟩ c.cu;have H:=lI ⟨1,0,c.cur⟩ ⟨2,c.who,c.cur⟩ c.cu;have I:=lI ⟨2,c.who,c.cur⟩ ⟨1,0,c.cur⟩ c.cu;have g:∀a b n,(bR a b n).length<2^29:=λ_ _ _=>by simp[bR]
 have y:=mH s (bR ⟨1,0,c.cur⟩ ⟨3,c.who,c.cur⟩ c.cu) h.small.bf h.fB.bs (g _ _ _);have w:=mH s (bR ⟨1,0,c.cur⟩ ⟨2,c.who,c.cur⟩ c.cu) h.small.bf h.fB.bs (g _ _ _);have x:=mH s (bR ⟨2,c.who,c.cur⟩ ⟨1,0,c.cur⟩ c.cu) h.small.bf h.fB.bs (g _ _ _);have t:=CO s.calls ⟨c.who,c.cur,c.cu⟩ h.small.calls;have p:=Lo h (bR ⟨2,c.who,c.cur⟩ ⟨1,0,c.cur⟩ c.cu);have o:=uG (qG s (bR ⟨2,c.who,c.cur⟩ ⟨1,0,c.cur⟩ c.cu)) c.who c.cur p.small p.fB p.bs (by have:=p.ps;omega);have f:(qG s (bR ⟨1,0,c.cur⟩ ⟨2,c.who,c.cur⟩ c.cu)).calls=s.calls:=by unfold qG;split<;>rfl
 clear p g;obtain⟨R,e⟩:=aN (vf s c);rw[<-e];simp only[vf]at e;obtain⟨L8,W⟩:∃L,L=bR ⟨1,0,c.cur⟩ ⟨3,c.who,c.cur⟩ c.cu:=⟨_,rfl⟩
 obtain⟨N,U⟩:∃L,L=bR ⟨1,0,c.cur⟩ ⟨2,c.who,c.cur⟩ c.cu:=⟨_,rfl⟩
 obtain⟨O,V⟩:∃L,L=bR ⟨2,c.who,c.cur⟩ ⟨1,0,c.cur⟩ c.cu:=⟨_,rfl⟩
 rw[<-W]at J y e;rw[<-U]at H w e f;rw[<-V]at I x o e;clear W U V;obtain⟨S8,K⟩:∃S,S=qG s L8:=⟨_,rfl⟩
 obtain⟨P,s4⟩:∃S,S=qG s N:=⟨_,rfl⟩
 obtain⟨X,s5⟩:∃S,S=qG s O:=⟨_,rfl⟩
 obtain⟨E8,G⟩:∃E,E=x9 s L8:=⟨_,rfl⟩
 obtain⟨z,D⟩:∃E,E=x9 s N:=⟨_,rfl⟩
 obtain⟨A,F⟩:∃E,E=x9 s O:=⟨_,rfl⟩
 rw[<-K,<-G]at y;rw[<-s4,<-D]at w;rw[<-s5,<-F]at x;rw[<-s4]at f;rw[<-s5]at o;rw[<-K,<-s4,<-s5,<-G,<-D,<-F]at e;clear K s4 s5 G D F;rw[<-f]at t e;simp only[ac4]at e;obtain⟨ML,i⟩:∃M,M=xU P.calls ⟨c.who,c.cur,c.cu⟩:=⟨_,rfl⟩
 obtain⟨me,l⟩:∃M,M=vR P.calls ⟨c.who,c.cur,c.cu⟩:=⟨_,rfl⟩
 obtain⟨ce,k⟩:∃M,M=UN X c.who c.cur:=⟨_,rfl⟩
 obtain⟨Q,j⟩:∃M,M=Ge s.aj c.who:=⟨_,rfl⟩
 rw[<-i,<-l]at t;rw[<-k]at o;rw[<-j]at r;rw[<-i,<-l,<-k,<-j]at e;clear i l k j f;simp only[aC.cells]at c4 J H I;simp only[aU.cells]at t;simp only[af.cells]at r y w x o |-;simp only[bG.cells];refine bp 97 2 [.tmp 4] mixed func68 ?_;refine sc aS c1 ?_;refine sc aS c2 ?_;refine sc aS c4 ?_;cases B:aC.right ⟨2,c.who,c.cur⟩
 ·rw[B]at e;have e:R=(s,3):=e;rw[e];exact kG
 rw[B,cm]at e;refine sc aS T ?_;cases C:within c.cu 1 4611686018427387904
 ·rw[C]at e;have e:R=(s,3):=e;rw[e];exact kG
 rw[C,aq rfl]at e;refine sc aS r ?_;by_cases m:Q=0
 case neg =>
  have d:(Q==0)=false:=su m;rw[au m]at e;rw[e];exact gY (a2 gr d)
 rw[aq m]at e;rw[m];clear c1 c2 c4 T r B C m;simp only[go_sem,seval];refine bg ?_;by_cases v:c.kind=8
 ·have d:(c.kind==8)=true:=su v;rw[aq v]at e;rw[e];refine sc d c3 ?_;refine sc aS J ?_;exact sgx [0] aS y
 have Z:(c.kind==8)=false:=su v;rw[au v]at e;simp only[go_sem,seval,Z];refine bg ?_;by_cases u:c.kind=4
 ·have d:(c.kind==4)=true:=su u;rw[aq u]at e;refine sc d H ?_;refine sg [0] aS w ?_;refine bg ?_;by_cases q:z=0
  ·have d:(z==0)=true:=su q;rw[aq q]at e;rw[e];exact sZ d t
  ·have d:(z==0)=false:=su q;rw[au q]at e;rw[e];simp only[go_sem,seval,d]
 have Y:(c.kind==4)=false:=su u;rw[au u]at e;refine sc Y I ?_;refine sg [0] aS x ?_;refine bg ?_;by_cases q:A=0
 ·have d:(A==0)=true:=su q;rw[aq q]at e;rw[e];exact sZ d o
 ·have d:(A==0)=false:=su q;rw[au q]at e;rw[e];simp only[go_sem,seval,d]
def D5(ps:List gC)(w a u:Int)(b:ps.length<2^29):Sq 162 [] [.sl 3 (pl ps),.int .i64 w,.int .i64 a,.int .i64 u] [] (.bI [.sl 3 (pl (eZ ps w a u)),.int .i64 (gz ps w a u)]):=by
 refine Spec.frozen (Im ps w a u b) [0] rfl ?_;intro r;rcases r with _|r<;>rfl
def RS(r:aA)(n:Int):Bool:=decide (0<=lO aD.a n r.xs)
def tF(r:aA)(n:Int):aD:=jj aD.a n ⟨0,0,0,0⟩ r.xs
def tW(c:bG):Int:=if c.kind=7 then -c.aO else c.aO
def qi(s:af)(c:bG)(n:Int):af×Int:=
 if within c.aO 1 1099511627776 then
  (if gw s.aj c.who&&RS s.aj c.no then
   (if(fm s.aj c.who).state=1 then
    (if gz s.ps c.who c.no n=0 then
     (if n<0 then({ s with ps:=eZ s.ps c.who c.no n },UN { s with ps:=eZ s.ps c.who c.no n } c.who (tF s.aj c.no).b)
     else if(tF s.aj c.no).E n=0 then({ s with ps:=eZ s.ps c.who c.no n,calls:=xU s.calls ⟨c.who,(tF s.aj c.no).b,(tF s.aj c.no).V n⟩ },vR s.calls ⟨c.who,(tF s.aj c.no).b,(tF s.aj c.no).V n⟩)
     else({ s with ps:=eZ s.ps c.who c.no n },(tF s.aj c.no).E n))
    else(s,gz s.ps c.who c.no n))
   else(s,14))
  else(s,10))
 else(s,3)
def B0{ps:List gC}{w a u:Int}(h:gz ps w a u=0):Good (eZ ps w a u):=by
 obtain⟨b,c,h3,h4,h5,d⟩:=UK h;unfold eZ;rw[aq h];exact Ou c d b
def Yx{p:gC}(h:p.ok):p.fB:=by
 obtain⟨a,h2,h3⟩:=h;have:=qK.1 a;exact⟨⟨by omega,by omega⟩,⟨by omega,by omega⟩,⟨by omega,by omega⟩⟩
def v8(s:af)(c:bG)(h:s.good):Sq 69 [.box s.cells] [.addr 0 0,.agg c.cells] [.box (qi s c (tW c)).1.cells] (.int .i64 (qi s c (tW c)).2):=by
 have c1:=jY c.aO 1 1099511627776;have c2:=dZ s.aj c.who h.small.aj.small;have c3:=pq s.aj c.no h.small.aj.small;have P:jj aD.a c.no ⟨0,0,0,0⟩ s.aj.xs=tF s.aj c.no:=rfl;have Q:decide (0<=lO aD.a c.no s.aj.xs)=RS s.aj c.no:=rfl;rw[P,Q]at c3;have v:=λn=>D5 s.ps c.who c.no n (by have:=h.ps;omega);have t:=λd=>CO s.calls d h.small.calls;have u:=λn=>AJ (tF s.aj c.no) n;have g:∀n,gz s.ps c.who c.no n=0->_:=λn i=>uG { s with ps:=eZ s.ps c.who c.no n } c.who (tF s.aj c.no).b
  ⟨h.small.aj,h.small.book,h.small.bf,by have:=Mq c.who c.no (dH c.who c.no s.ps+n) s.ps;have:=h.ps;simp only[eZ,aq i];omega,h.small.calls,h.small.aW,h.small.aT,h.small.rs⟩
  ⟨h.fB.now,h.fB.day,h.fB.phase,h.fB.ms,h.fB.ns,h.fB.xs,h.fB.next,h.fB.ts,h.fB.qs,h.fB.last,h.fB.bs,λp X=>Yx ((B0 i).1 p X),h.fB.calls,h.fB.aW,h.fB.aT⟩
  h.bs (by have:=Mq c.who c.no (dH c.who c.no s.ps+n) s.ps;have:=h.ps;simp only[eZ,aq i];omega)
 obtain⟨n,i⟩:=aN (tW c);rw[<-i];have v:=v n;have u:=u n;have g:=g n;obtain⟨R,f⟩:=aN (qi s c n);rw[<-f];simp only[qi]at f;obtain⟨m,L⟩:=aN (fm s.aj c.who);obtain⟨a,x⟩:=aN (tF s.aj c.no);obtain⟨Y,k⟩:∃m,m=gw s.aj c.who:=⟨_,rfl⟩
 obtain⟨U,j⟩:∃m,m=RS s.aj c.no:=⟨_,rfl⟩
 rw[<-L,<-k]at c2;rw[<-x,<-j]at c3;rw[<-x]at u;simp only[<-x]at g;rw[<-L,<-k,<-x,<-j]at f;obtain⟨qs,r⟩:∃l,l=eZ s.ps c.who c.no n:=⟨_,rfl⟩
 obtain⟨G,o⟩:∃l,l=gz s.ps c.who c.no n:=⟨_,rfl⟩
 rw[<-r,<-o]at v f;rw[<-r,<-o]at g;obtain⟨ce,y⟩:∃e,e=UN { s with ps:=qs } c.who a.b:=⟨_,rfl⟩
 rw[<-y]at g f;clear L x k j r o y P Q;have t:=t ⟨c.who,a.b,a.V n⟩;simp only[aA.cells]at c2 c3;simp only[aD.cells]at c3 u;simp only[aU.cells]at t;obtain⟨V,K⟩:=aN (a.V n);obtain⟨T,A⟩:∃V,V=a.E n:=⟨_,rfl⟩
 rw[<-K]at t;rw[<-K,<-A]at u f;obtain⟨ML,w⟩:∃M,M=xU s.calls ⟨c.who,a.b,V⟩:=⟨_,rfl⟩
 obtain⟨me,z⟩:∃M,M=vR s.calls ⟨c.who,a.b,V⟩:=⟨_,rfl⟩
 rw[<-w,<-z]at t f;clear K A w z;simp only[af.cells]at g |-;simp only[bG.cells];refine bp 109 2 [.tmp 4] mixed func69 ?_;refine sc aS c1 ?_;cases H:within c.aO 1 1099511627776
 ·rw[H]at f;have f:R=(s,3):=f;rw[f];exact kG
 rw[H,aq rfl]at f;simp only[within,bQ,bz]at H;refine sc aS c2 ?_;refine sc aS c3 ?_;clear c1 c2 c3;cases N:Y
 ·rw[N]at f;have f:R=(s,10):=f;rw[f];simp only[go_sem,seval]
  and_intros<;>first|exact .dq|omega|skip
 rw[N,cm]at f;cases O:U
 ·rw[O]at f;have f:R=(s,10):=f;rw[f];simp only[go_sem,seval]
  and_intros<;>first|exact .dq|omega|skip
 rw[O,aq rfl]at f;simp only[go_sem,seval];refine bg ?_;by_cases C:m.state=1
 case neg =>
  have d:(m.state==1)=false:=su C;rw[au C]at f;rw[f];exact gY (a2 gr d)
 have W:(m.state==1)=true:=su C;rw[aq C]at f;have S:IntKind.wrap .i64 (0-c.aO) = -c.aO:=fQ;refine sm (a2 gr W) ?_;refine bg ?_;by_cases D:c.kind=7
 ·have J:(c.kind==7)=true:=su D;have i:-c.aO=n:=by rw[i];simp[tW,D]
  refine sc (a3 J S i) v ?_;by_cases q:G=0
  case neg =>
   have d:(G==0)=false:=su q;rw[au q]at f;rw[f];exact gY (a2 gr d)
  rw[aq q]at f;have g:=g q;rw[q];simp only[go_sem,seval];refine bg ?_;have B:n<0:=ak
  have I:decide (n<0)=true:=su B;rw[aq B]at f;rw[f];exact sZ I g
 ·have J:(c.kind==7)=false:=su D;have i:c.aO=n:=by rw[i];simp[tW,D]
  refine sc (a3 J S i) v ?_;by_cases q:G=0
  case neg =>
   have d:(G==0)=false:=su q;rw[au q]at f;rw[f];exact gY (a2 gr d)
  rw[aq q]at f;have g:=g q;rw[q];simp only[go_sem,seval];refine bg ?_;have B:¬n<0:=ak
  have I:decide (n<0)=false:=su B;rw[au B]at f;refine sc I u ?_;by_cases F:T=0
  case neg =>
   have d:(T==0)=false:=su F;rw[au F]at f;rw[f];exact gY d
  rw[aq F]at f;rw[f,F];exact sZ aS t
def nV(c:bG):aR:=⟨0,c.who,c.other,c.inst,c.aO,c.aL,false⟩
def nP(s:af)(c:bG):af×Int×Int:=
 if c.kind=10 then
  (if BE s.aj (nV c)=0 then({ s with book:=mu s.book (nV c) },uZ s.book (nV c),jC s.book (nV c))else(s,0,BE s.aj (nV c)))
 else if c.kind=13 then({ s with aj:=AN s.aj c.inst c.aL },0,AM s.aj c.inst c.aL)
 else if j6 c.no s.book.ts<0 then(s,0,10)
 else if Ge s.aj (eI c.no s.book.ts).jH=0/\Ge s.aj (eI c.no s.book.ts).gK=0 then
  (if c.kind=11 then({ s with book:=gG s.book c.no },0,ij s.book c.no)
  else({ s with book:=vE s.book c.no c.aO c.aL },GH s.book c.no c.aO c.aL,vF s.book c.no c.aO c.aL))
 else(s,0,14)
def mY(s:af)(c:bG)(h:s.good):Sq 76 [.box s.cells] [.addr 0 0,.agg c.cells] [.box (nP s c).1.cells] (.bI [.int .i64 (nP s c).2.1,.int .i64 (nP s c).2.2]):=by
 have c1:=J4 s.aj (nV c) h.small.aj;have c2:=Ax s.book (nV c) h.small.book h.fB.qs;have c3:=Nr s.aj c.inst c.aL h.small.aj;have c4:=xx s.book c.no h.small.book;have v:=λw=>v7 s w h.small.aj.small;have F:=yY s.book c.no h.small.book h.fB.qs;have G:=Fp s.book c.no c.aO c.aL h.small.book h.fB.qs;have r:¬j6 c.no s.book.ts<0->_:=λP=>yz (n:=c.no) (ts:=s.book.ts) P;obtain⟨R,a⟩:=aN (nP s c);rw[<-a];simp only[nP]at a;obtain⟨D,C⟩:∃e,e=BE s.aj (nV c):=⟨_,rfl⟩
 obtain⟨eB,M⟩:∃e,e=mu s.book (nV c):=⟨_,rfl⟩
 obtain⟨eN,O⟩:∃e,e=uZ s.book (nV c):=⟨_,rfl⟩
 obtain⟨eE,N⟩:∃e,e=jC s.book (nV c):=⟨_,rfl⟩
 rw[<-C]at c1 a;rw[<-M,<-O,<-N]at c2 a;simp only[nV,aR.cells]at c1 c2;simp only[aA.cells]at c1 c3;simp only[aH.cells]at c2 c4 F G;simp only[af.cells]at v |-;simp only[bG.cells];refine bp 142 2 [.tmp 4,.tmp 5] mixed func76 ?_;simp only[go_sem,seval];refine bg ?_;by_cases b:c.kind=10
 ·have A:(c.kind==10)=true:=su b;rw[aq b]at a;refine sc A c1 ?_;by_cases q:D=0
  ·have d:(D==0)=true:=su q;rw[aq q]at a;rw[a];exact sZ d c2
  ·have d:(D==0)=false:=su q;rw[au q]at a;rw[a];simp only[go_sem,seval,d]
 have A:(c.kind==10)=false:=su b;rw[au b]at a;clear c1 c2;simp only[go_sem,seval,A];refine bg ?_;by_cases g:c.kind=13
 ·have m:(c.kind==13)=true:=su g;rw[aq g]at a;rw[a];exact sZ m c3
 have m:(c.kind==13)=false:=su g;rw[au g]at a;clear c3;refine sc m c4 ?_;by_cases q:j6 c.no s.book.ts<0
 ·have d:decide (j6 c.no s.book.ts<0)=true:=su q;rw[aq q]at a;rw[a];simp only[go_sem,seval,d]
 have d:decide (j6 c.no s.book.ts<0)=false:=su q;rw[au q]at a;obtain⟨i,H,t,_⟩:=r q;have o:eI c.no s.book.ts=s.book.ts[i]:=by simp[eI,t,H]
 rw[o]at a;obtain⟨x,I,B,hli⟩:=oc (c:=aR.cells) s.book.ts H;rw[<-I]at a;have j:=v x.jH;have k:=v x.gK;obtain⟨E,p⟩:∃e,e=Ge s.aj x.jH:=⟨_,rfl⟩
 obtain⟨J,u⟩:∃e,e=Ge s.aj x.gK:=⟨_,rfl⟩
 rw[<-p]at j a;rw[<-u]at k a;rw[t]at d |-;simp only[aR.cells]at B;clear r c4 q v p u o I;simp only[go_sem,seval,d,B,Int.toNat_natCast];refine sc aS j ?_;by_cases y:E=0
 case neg =>
  have K:(E==0)=false:=su y;rw[au (λh=>y h.1)]at a;rw[a];exact gY (a2 gr K)
 rw[y];simp only[go_sem,seval,B,Int.toNat_natCast];refine sc aS k ?_;by_cases z:J=0
 case neg =>
  have L:(J==0)=false:=su z;rw[au (λh=>z h.2)]at a;rw[a];exact gY (a2 gr L)
 rw[aq ⟨y,z⟩]at a;rw[z];clear j k;simp only[go_sem,seval];refine bg ?_;by_cases f:c.kind=11
 ·have l:(c.kind==11)=true:=su f;rw[aq f]at a;rw[a];exact sZ l F
 ·have l:(c.kind==11)=false:=su f;rw[au f]at a;rw[a];exact sZ l G
def CP(s:af)(c:Int):af×Int:=if mZ s.bf s.aj c=0/\jQ s.bf s.aj c≠[]then(qG s (jQ s.bf s.aj c),x9 s (jQ s.bf s.aj c))else(s,mZ s.bf s.aj c)
def pR:Nat->Nat->af->List aU->af×List aU×Int
 | 0,_,s,ds=>(s,ds,0)
 |m+1,c,s,ds=>if(CP s c).2=0 then pR m (c+1) (CP s c).1 (ds++l7 s.bf s.aj c)else((CP s c).1,[],(CP s c).2)
def VZ{s:af}(h:s.good)(c:Int):(CP s c).1.good:=by
 unfold CP;split
 ·exact Lo h _
 ·exact h
def EM(l:bu)(r:aA)(c:Int):(l7 l r c).length<=r.ms.length:=by
 unfold l7;split
 ·have:=gH (f:=ze l c) (m:=1) (λm=>by unfold ze;split<;>simp) r.ms;simpa using this
 ·simp
def Qr(l:bu)(r:aA)(c:Int):(jQ l r c).length<=306:=by
 unfold jQ;split
 ·exact vN _
 ·simp
def Fo(s:af)(h:s.good):Sq 83 [.box s.cells] [.addr 0 0] [.box (pR 3 0 s []).1.cells,.own 3 ((pR 3 0 s []).2.1.map aU.cells)] (.bI [.ref 1,.int .i64 (pR 3 0 s []).2.2]):=by
 obtain⟨R,F⟩:=aN (pR 3 0 s []);rw[<-F];simp only[af.cells];refine bp 44 1 [.tmp 2,.tmp 3] mixed func83 ?_;simp only[go_sem,seval];refine bg ?_;refine aF.sK (S:=af×List aU) 3 [0] [] (λi _=>[(5,.int .i64 i),(4,.ref 688)]) (λi x=>[(0,.box x.1.cells),(688,.own 3 (x.2.map aU.cells))])
  (λi x=>pR (3-i) i x.1 x.2=R/\x.1.good/\x.2.length<=i*134217728) (s,[]) ⟨F.symm,h,Nat.zero_le _⟩ ?_ ?_ ?_
 ·exact kG
 ·intro c x G j u a;obtain⟨t,ds⟩:=x;obtain⟨a,f,B⟩:=a;dsimp only at a f B |-;have j:decide ((c:Int)<3)=true:=j;obtain⟨m,J⟩:∃m,3-c=m+1:=⟨3-c-1,by omega⟩
  have q:3-(c+1)=m:=ak
  rw[J]at a;simp only[pR]at a;have c1:=Ix t.bf t.aj c f.small.bf f.fB.bs f.small.aj f.ms;have D:=Qr t.bf t.aj c;have A:=EM t.bf t.aj c;have hms:=f.ms;have c2:=mH t (jQ t.bf t.aj c) f.small.bf f.fB.bs ak;have b:=VZ f c;obtain⟨P,e⟩:=aN (CP t c);rw[<-e]at a b;simp only[CP]at e;obtain⟨g,o⟩:=aN (jQ t.bf t.aj c);obtain⟨E,k⟩:∃g,g=l7 t.bf t.aj c:=⟨_,rfl⟩
  obtain⟨H,r⟩:∃g,g=mZ t.bf t.aj c:=⟨_,rfl⟩
  rw[<-o]at c1 c2 e D;rw[<-k]at c1 a A;rw[<-r]at c1 e;obtain⟨I,n⟩:∃p,p=qG t g:=⟨_,rfl⟩
  obtain⟨z,l⟩:∃p,p=x9 t g:=⟨_,rfl⟩
  rw[<-n,<-l]at c2 e;clear o k r n l;simp only[bu.cells,aA.cells]at c1;simp only[af.cells]at c2 |-;refine sc j c1 ?_;by_cases v:H=0
  case neg =>
   have d:(H==0)=false:=su v;rw[au (λh=>v h.1)]at e;rw[e]at a;dsimp only at a;rw[au v]at a;rw[<-a];refine sm (a2 gr d) ?_;all_goals simp
  rw[v]at e |-
  by_cases w:g=[]
  ·rw[au (λh=>h.2 w)]at e;rw[e]at a b;dsimp only at a b;rw[aq rfl]at a;rw[w];simp only[go_sem,seval,map_nil,length_nil,u];refine bg ?_;refine ah.jT (t,ds++E) G ⟨by rw[q];exact a,b,by simp;omega⟩ ?_;exact kG
  have C:decide ((0:Int)<(g.length:Int))=true:=by
   have:g.length≠0:=λh=>w (eq_nil_of_length_eq_zero h);simp;omega
  rw[aq ⟨rfl,w⟩]at e;rw[e]at a b;dsimp only at a b;refine sg [0] C c2 ?_;refine bg ?_;by_cases y:z=0
  ·have d:(z==0)=true:=su y;rw[aq y]at a;refine sm (a3 gr d u) ?_;refine bg ?_;refine ah.jT (I,ds++E) G ⟨by rw[q];exact a,b,by simp;omega⟩ ?_;exact kG
  ·have d:(z==0)=false:=su y;rw[au y]at a;rw[<-a];refine sm (a2 gr d) ?_;all_goals simp
 intro x _ a;obtain⟨t,ds⟩:=x;have a:=a.1;have a:(t,ds,(0:Int))=R:=a;subst a;simp only[af.cells];simp only[go_sem,seval]
def Spec.Tu{P:Program}{f:FuncId}{c ds a:List D}{d:D}(h:Abs.Spec P f c ds a d)(k:Nat)(hk:c.length<=k){g:List D}{y:D}(N:a.getD k .undef≠.undef)(K:(Ab k (sM [(0,d)] (uw 0 a))).t 0=y)
  (O:∀r,(Ab k (sM [(0,d)] (uw 0 a))).o r=g.getD r .undef) (R:∀i,i<c.length->a.getD i .undef=.undef->g.getD i .undef=.undef):Abs.Spec P f c ds g y:=by
 refine⟨h.1,?_⟩;intro w B x m C vs z p J u Q l;refine(h.2 w B x m C vs z p J u Q l).mono ?_;rintro e w' ⟨v,rfl,o⟩;refine⟨v,rfl,o.os,o.tape,o.output,o.size,o.old,o.part,?_⟩;obtain⟨lev,own,S,E,F,G,H,I⟩:=o.rep;have M:Inv w B x S w' lev own S (sM [(0,d)] (uw 0 a)) (λj=>if j=0 then v else Go.undef):=by
  refine⟨⟨o.os,z⟩,o.tape,o.output,o.size,o.old,o.part,E,F,λ_ _ _=>rfl,?_,?_⟩
  ·intro s;show aM _ _ (Abs.look [(0,d)] s);by_cases c:s=0
   ·subst c;simpa[Abs.look]using G
   ·simp only[Abs.look,au c];exact .undef _
  ·intro r;show nj _ _ _ _ _ _ r (Abs.look (uw 0 a) r);rw[o7];simpa using H r
 have b:=(Inv.frz M k).resolve_right (λn=>N (by
  have n:Abs.look (uw 0 a) k=.undef:=n;rw[o7]at n
  simpa using n))
 refine⟨_,own,lP S k none,b.priv,b.kR,?_,?_,?_⟩
 ·have:=b.pK 0;rw[K]at this;simpa using this
 ·intro r;have:=b.objs r;rwa[O]at this
 ·intro i A q;have:i≠k:=ak
  simp only[lP,this,if_false];exact I i A λL=>q (R i A L)
def x8(s:af)(c:bG):af×Int:=
 if within c.aO 1 1048576&&within c.aL 1 1073741824 then
  (if gw s.aj c.who&&(gw s.aj c.other&&bJ s.aj c.inst)then
   (if c.who=c.other then(s,16)
   else if(fm s.aj c.who).state=2/\(fm s.aj c.other).state=1 then
    (if 32<=s.aW.length then(s,9)else({ s with aW:=s.aW++[⟨c.who,c.inst,c.other,c.aO,c.aL⟩] },0))
   else(s,14))
  else(s,10))
 else(s,3)
@[reducible] def af.AS(s:af)(r:Nat):List D:=[.I s.now,.I s.day,.I s.phase,.sl 3 (s.aj.ms.map av.cells),.sl 12 (s.aj.ns.map aE.cells),.sl 4 (s.aj.xs.map aD.cells),.I s.book.next,.sl 7 (s.book.ts.map aR.cells),.sl 4 (s.book.qs.map aB.cells),
 .I s.bf.last,.sl 4 (s.bf.bs.map bU.cells),.sl 3 (pl s.ps),.sl 4 (s.calls.map aI.cells),.ref r,.sl 7 (s.aT.map bX.cells)]
def M6(s:af)(c:bG)(h:s.good):Sq 81 [.box (s.AS 1),.own 5 (s.aW.map aY.cells)] [.addr 0 0,.agg c.cells] [.box ((x8 s c).1.AS 2),.undef,.own 5 ((x8 s c).1.aW.map aY.cells)] (.int .i64 (x8 s c).2):=by
 have c1:=jY c.aO 1 1048576;have c2:=jY c.aL 1 1073741824;have c3:=dZ s.aj c.who h.small.aj.small;have c4:=dZ s.aj c.other h.small.aj.small;have i:=fF s.aj c.inst h.small.aj.small;have hbl:=h.aW;obtain⟨R,a⟩:=aN (x8 s c);rw[<-a];simp only[x8]at a;obtain⟨m,o⟩:=aN (fm s.aj c.who);obtain⟨p,f⟩:∃m,m=fm s.aj c.other:=⟨_,rfl⟩
 obtain⟨E,g⟩:∃m,m=gw s.aj c.who:=⟨_,rfl⟩
 obtain⟨q,b⟩:∃m,m=gw s.aj c.other:=⟨_,rfl⟩
 obtain⟨D,e⟩:∃m,m=bJ s.aj c.inst:=⟨_,rfl⟩
 obtain⟨y,x⟩:∃m,m=aZ s.aj c.inst:=⟨_,rfl⟩
 rw[<-o,<-g]at c3;rw[<-f,<-b]at c4;rw[<-e,<-x]at i;rw[<-o,<-f,<-g,<-b,<-e]at a;clear o f g b e x;simp only[aA.cells]at c3 c4 i;simp only[af.AS];simp only[bG.cells];refine bp 101 2 [.tmp 4] mixed func81 ?_;simp only[go_sem,seval];refine sc aS c1 ?_;cases r:within c.aO 1 1048576
 ·rw[r]at a;have a:R=(s,3):=a;rw[a];simp only[go_sem,seval]<;>simp
 rw[r,cm]at a;simp only[go_sem,seval];refine sc aS c2 ?_;cases t:within c.aL 1 1073741824
 ·rw[t]at a;have a:R=(s,3):=a;rw[a];simp only[go_sem,seval]<;>simp
 rw[t,aq rfl]at a;simp only[go_sem,seval];refine sc aS c3 ?_;refine bg ?_;refine sc aS c4 ?_;refine bg ?_;refine aG.bC i ?_;clear c1 c2 c3 c4 i;cases u:E
 ·rw[u]at a;have a:R=(s,10):=a;rw[a];simp only[go_sem,seval];(with_reducible and_intros)<;>first|exact .dq|omega|skip
 rw[u,cm]at a;cases v:q
 ·rw[v]at a;have a:R=(s,10):=a;rw[a];simp only[go_sem,seval];(with_reducible and_intros)<;>first|exact .dq|omega|skip
 rw[v,cm]at a;cases w:D
 ·rw[w]at a;have a:R=(s,10):=a;rw[a];simp only[go_sem,seval];(with_reducible and_intros)<;>first|exact .dq|omega|skip
 rw[w,aq rfl]at a;simp only[go_sem,seval];(with_reducible and_intros)<;>first|exact .dq|omega|skip
 by_cases j:c.who=c.other
 ·have d:(c.who==c.other)=true:=su j;rw[aq j]at a;rw[a];simp only[go_sem,seval,d]<;>simp
 have A:(c.who==c.other)=false:=su j;rw[au j]at a;simp only[go_sem,seval,A];(with_reducible and_intros)<;>first|exact .dq|omega|skip
 by_cases k:m.state=2
 case neg =>
  have d:(m.state==2)=false:=su k;rw[au (λh=>k h.1)]at a;rw[a];simp only[go_sem,seval,bne,d]<;>simp
 have B:(m.state==2)=true:=su k;simp only[go_sem,seval,bne,B];(with_reducible and_intros)<;>first|exact .dq|omega|skip
 by_cases l:p.state=1
 case neg =>
  have d:(p.state==1)=false:=su l;rw[au (λh=>l h.2)]at a;rw[a];simp only[go_sem,seval,d]<;>simp
 have C:(p.state==1)=true:=su l;rw[aq ⟨k,l⟩]at a;simp only[go_sem,seval,C];(with_reducible and_intros)<;>first|exact .dq|omega|skip
 by_cases z:32<=s.aW.length
 ·have n:decide ((32:Int)<=(s.aW.length:Int))=true:=by simp;omega
  rw[aq z]at a;rw[a];simp only[go_sem,seval,n]<;>simp
 have n:decide ((32:Int)<=(s.aW.length:Int))=false:=by simp;omega
 rw[au z]at a;rw[a];simp only[go_sem,seval,n];(with_reducible and_intros)<;>first|exact .dq|omega|skip
 all_goals simp
def JM(s:af)(c:bG)(h:s.good):Sq 81 [.box (s.AS 1),.own 5 (s.aW.map aY.cells)] [.addr 0 0,.agg c.cells] [.box (x8 s c).1.cells,.undef] (.int .i64 (x8 s c).2):=by
 refine Spec.Tu (M6 s c h) 2 (fS _) sT rfl ?_ ?_
 ·intro r;rcases r with _| _| _|r<;>rfl
 ·intro i a b;rcases i with _| _|i
  ·simp at b
  ·rfl
  ·simp at a;omega
def D4(s:af)(h:s.good):Sq 83 [.box s.cells] [.addr 0 0] [.box (pR 3 0 s []).1.cells] (.bI [.sl 3 ((pR 3 0 s []).2.1.map aU.cells),.int .i64 (pR 3 0 s []).2.2]):=by
 refine Spec.Tu (Fo s h) 1 (fS _) sT rfl ?_ ?_
 ·intro r;rcases r with _| _|r<;>rfl
 ·intro i a b;rcases i with _|i
  ·simp at b
  ·simp at a
theorem aj9(n0 n1 a b c:Int)(d r1 r2 r3 r4 r5 r6 e g f:List (List D)):(ia [0,1,2,3,4,5,6,7,9] (sM [(0,.agg [.int .i64 n0,.int .i64 n1,.int .i64 a,.ref 0,.ref 1,.ref 2,.int .i64 b,.ref 3,.ref 4,.int .i64 c,.ref 5,.ref 6,.ref 7,.ref 8,.ref 9])] (uw 0 [.own 3 d,.own 12 r1,.own 4 r2,.own 7 r3,.own 4 r4,.own 4 r5,.own 3 r6,.own 4 e,.own 5 g,.own 7 f]))).t 0=.agg [.int .i64 n0,.int .i64 n1,.int .i64 a,.sl 3 d,.sl 12 r1,.sl 4 r2,.int .i64 b,.sl 7 r3,.sl 4 r4,.int .i64 c,.sl 4 r5,.sl 3 r6,.sl 4 e,.ref 8,.sl 7 f]:=by
 kernel_rfl
def ae6(d:D)(b r1 r2 r3 r4 r5 r6 c a e:List (List D))(r:Nat):(ia [0,1,2,3,4,5,6,7,9] (sM [(0,d)] (uw 0 [.own 3 b,.own 12 r1,.own 4 r2,.own 7 r3,.own 4 r4,.own 4 r5,.own 3 r6,.own 4 c,.own 5 a,.own 7 e]))).o r=[D.undef,.undef,.undef,.undef,.undef,.undef,.undef,.undef,.own 5 a].getD r .undef:=by
 rcases r with _| _| _| _| _| _| _| _| _| _|r<;>kernel_rfl
def Q4(s:af)(a:s.small):Sq 20 [] [.agg s.cells] [.undef,.undef,.undef,.undef,.undef,.undef,.undef,.undef,.own 5 (s.aW.map aY.cells)] (.agg (s.AS 8)):=by
 have h:=uu s a;simp only[QO,I5]at h;simp only[af.AS];simp only[af.cells]at h |-;exact Spec.frozen h [0,1,2,3,4,5,6,7,9] (aj9 ..) (λr=>ae6 ..)
def T0{A:Type}{R:A->A->Prop}(g:∀{a b c},R a b->R b c->R a c){xs:List A}(h:∀j (f:j+1<xs.length),R (xs[j]'ak) xs[j+1]):xs.Pairwise R:=by
 rw[Gg];have key:∀d i (f:i+d+1<xs.length),R (xs[i]'ak) xs[i+d+1]:=by
  intro d;induction d with
  |zero=>intro i f;exact h i f
  |succ d ih=>intro i f;exact g (ih i ak) (h (i+d+1) f)
 intro i j hi f hij;have:=key (j-i-1) i ak;have e:i+(j-i-1)+1=j:=ak
 simpa only[e]using this
def oR{A:Type}{ok:A->Bool}{lt:A->A->Bool}(l:∀{a b c},lt a b=true->lt b c=true->lt a c=true){xs:List A}:pY ok lt xs=true↔(∀x∈xs,ok x=true)/\xs.Pairwise (λa b=>lt a b=true):=by
 constructor
 ·intro h;refine⟨λx k=>?_,T0 (R:=λa b=>lt a b=true) l λj g=>?_⟩
  ·obtain⟨i,d,rfl⟩:=mem_iff_getElem.1 k;exact Mp h d
  ·have:=Xt h g;rw[iG g,bQ]at this;exact this.2
 ·rintro⟨e,f⟩;rw[Gg]at f;refine oS λi d=>?_;cases i with
  |zero=>rw[jf d];exact e _ (dS d)
  |succ j=>rw[iG d,e _ (dS d),f j (j+1) ak d ak];rfl
def V3{A:Type}{no:A->Int}{ok:A->Bool}{xs:List A}:mI no ok xs=true↔(∀x∈xs,ok x=true)/\xs.Pairwise (λa b=>no a<no b):=by
 constructor
 ·intro h;have d:∀i (c:i<xs.length),eV no ok xs i=true:=λi c=>bL.1 h i (mem_range.2 c);refine⟨wC h,T0 (R:=λa b=>no a<no b) Int.lt_trans λj g=>?_⟩;have:=d (j+1) g;rw[jR no ok xs g ak,bQ,bz]at this;exact this.2
 ·rintro⟨e,f⟩;rw[Gg]at f;refine zR λi c=>?_;rcases Nat.eq_zero_or_pos i with h0|h0
  ·rw[jS no ok xs c ak];exact e _ (dS c)
  ·rw[jR no ok xs c h0,e _ (dS c),dY (f (i-1) i ak c ak)];rfl
def TM{bs:List bU}:lG bs=true↔(∀b∈bs,lR b=true)/\bs.Pairwise (λx y=>x.bq.less y.bq=true):=by
 constructor
 ·intro h;have c:∀i (a:i<bs.length),rE bs i=true:=λi a=>bL.1 h i (mem_range.2 a);refine⟨λx f=>?_,PX h⟩;obtain⟨i,a,rfl⟩:=mem_iff_getElem.1 f;have:=c i a;cases i with
  |zero=>rwa[n5 a]at this
  |succ j=>rw[mC a,bQ]at this;exact this.1
 ·rintro⟨d,e⟩;rw[Gg]at e;refine u9 λi a=>?_;cases i with
  |zero=>rw[n5 a];exact d _ (dS a)
  |succ j=>rw[mC a,d _ (dS a),e j (j+1) ak a ak];rfl
def vY{A:Type}{no:A->Int}{n:Int}{xs:List A}:decide (0<=lO no n xs)=true↔∃x∈xs,no x=n:=by
 rw[zP,any_eq_true];simp
theorem zF{A:Type}{no:A->Int}{n:Int}{z:A}:∀{xs:List A},(∃x∈xs,no x=n)->jj no n z xs∈xs/\no (jj no n z xs)=n
 | [],h=>by obtain⟨x,a,_⟩:=h;cases a
 |x::r,h=>by
  simp only[jj];split
  ·rename_i a;exact⟨by simp,a⟩
  ·rename_i a;obtain⟨y,b,c⟩:=h;rcases mem_cons.1 b with rfl|b
   ·exact absurd c a
   ·obtain⟨d,e⟩:=zF (z:=z) ⟨y,b,c⟩;exact⟨by simp[d],e⟩
theorem zG{A:Type}{no:A->Int}{n:Int}{z:A}:∀{xs:List A},(∀x∈xs,no x≠n)->jj no n z xs=z
 | [],_=>rfl
 |x::r,h=>by
  simp only[jj];rw[au (h x sT)];exact zG λy a=>h y (by simp[a])
theorem zE{A:Type}{no:A->Int}{n:Int}{z:A}{xs:List A}(d:xs.Pairwise (λa b=>no a<no b)){x:A}(c:x∈xs)(e:no x=n):jj no n z xs=x:=by
 induction xs with
 |nil=>cases c
 |cons y r ih =>
  rw[kB]at d;simp only[jj];rcases mem_cons.1 c with rfl|c
  ·rw[aq e]
  ·have:=d.1 x c;rw[au ak];exact ih d.2 c
def KT{A:Type}{no:A->Int}{n:Int}{z:A}{xs ys:List A}(i:ys.Pairwise (λa b=>no a<no b))(h:∀x,no x=n->(x∈xs↔x∈ys)):jj no n z xs=jj no n z ys:=by
 by_cases e:∃x∈xs,no x=n
 ·obtain⟨g,f⟩:=zF (z:=z) e;exact(zE i ((h _ f).1 g) f).symm
 ·rw[zG (λx d c=>e ⟨x,d,c⟩),zG (λx d c=>e ⟨x,(h x c).2 d,c⟩)]
def jM{B:Type}{f:Nat->List B}{n:Nat}{x:B}:x∈pQ f n↔∃i,i<n/\x∈f i:=by
 simp[pQ,mem_flatMap,mem_range]
theorem xq{B:Type}{R:B->B->Prop}{f:Nat->List B}{n:Nat}(c:∀i,i<n->(f i).Pairwise R)(d:∀i j,i<j->j<n->∀x∈f i,∀y∈f j,R x y):(pQ f n).Pairwise R:=by
 induction n with
 |zero=>simp[pQ]
 |succ n ih =>
  rw[ji,pairwise_append];refine⟨ih (λi e=>c i ak) (λi j a hj=>d i j a ak),c n ak,?_⟩;intro x b y g;obtain⟨i,e,b⟩:=jM.1 b;exact d i n e ak x b y g
theorem yV{B:Type}{R:B->B->Prop}:∀{l:List B},l.length<=1->l.Pairwise R
 | [],_=>by simp
 | [x],_=>by simp
 |x::y::r,h=>by simp at h
def YT{B:Type}{key:B->Int}{f:Nat->List B}{n:Nat}(d:∀i,i<n->(f i).length<=1)(c:∀i,i<n->∀x∈f i,key x=(i:Int)+1):(pQ f n).Pairwise (λa b=>key a<key b):=by
 refine xq (λi e=>yV (d i e)) λi j hij g x h y k=>?_;rw[c i ak x h,c j g y k];omega
theorem M4{A B:Type}{R:A->A->Prop}{S:B->B->Prop}{f:A->List B}{xs:List A}(e:xs.Pairwise R)(h:∀a∈xs,(f a).Pairwise S)(i:∀a b,a∈xs->b∈xs->R a b->∀x∈f a,∀y∈f b,S x y):(xs.flatMap f).Pairwise S:=by
 induction xs with
 |nil=>simp
 |cons a r ih =>
  rw[kB]at e;rw[flatMap_cons,pairwise_append];refine⟨h a sT,ih e.2 (λb d=>h b (by simp[d])) (λb c d j=>i b c (by simp[d]) (by simp[j])),?_⟩;intro x k y g;obtain⟨b,d,g⟩:=mem_flatMap.1 g;exact i a b sT (by simp[d]) (e.1 b d) x k y g
theorem NW{A:Type}{no:A->Int}{n:Int}{f:A->A}(a:∀x,no (f x)=no x)(xs:List A):(zu no n f xs).map no=xs.map no:=by
 induction xs with
 |nil=>rfl
 |cons x r ih=>simp only[zu];split<;>simp[ih,a]
theorem Q8{A:Type}{no:A->Int}{n:Int}{f:A->A}{xs:List A}{y:A}(h:y∈zu no n f xs):y∈xs\/∃x∈xs,y=f x:=by
 induction xs with
 |nil=>cases h
 |cons x r ih =>
  simp only[zu]at h;split at h
  ·rcases mem_cons.1 h with rfl|h
   ·exact .inr ⟨x,by simp,rfl⟩
   ·exact .inl (by simp[h])
  ·rcases mem_cons.1 h with rfl|h
   ·exact .inl sT
   ·rcases ih h with h| ⟨z,hz,rfl⟩
    ·exact .inl (by simp[h])
    ·exact .inr ⟨z,by simp[hz],rfl⟩
def P7{A:Type}{no:A->Int}{xs ys:List A}(h:ys.map no=xs.map no)(d:xs.Pairwise (λa b=>no a<no b)):ys.Pairwise (λa b=>no a<no b):=by
 have c:(xs.map no).Pairwise (λa b=>a<b):=pairwise_map.2 d;rw[<-h]at c;exact pairwise_map.1 c
def TZ{A:Type}{no:A->Int}{n:Int}{xs ys:List A}(h:ys.map no=xs.map no):decide (0<=lO no n ys)=decide (0<=lO no n xs):=by
 rw[zP,zP];have e:∀l:List A,l.any (λx=>no x==n)=(l.map no).any (λx=>x==n):=λl=>by simp[any_map,Function.comp_def]
 rw[e,e,h]
theorem Q6{A:Type}{no:A->Int}{n w:Int}{f:A->A}{z:A}(d:∀x,no (f x)=no x)(xs:List A):jj no w z (zu no n f xs)=if w=n/\(∃x∈xs,no x=n)then f (jj no w z xs)else jj no w z xs:=by
 induction xs with
 |nil=>simp[zu,jj]
 |cons x r ih =>
  simp only[zu];split
  ·rename_i b;simp only[jj,d];by_cases c:w=n
   ·subst c;rw[aq b,aq b,aq ⟨rfl,x,by simp,b⟩]
   ·rw[au (λh=>c (h.symm.trans b)),au (λh=>c h.1),au (λh=>c (h.symm.trans b))]
  ·rename_i b;simp only[jj,ih];by_cases a:no x=w
   ·rw[aq a,aq a,au];rintro⟨rfl,_⟩;exact b a
   ·rw[au a,au a];congr 1;simp only[mem_cons,exists_eq_or_imp,b,false_or]
