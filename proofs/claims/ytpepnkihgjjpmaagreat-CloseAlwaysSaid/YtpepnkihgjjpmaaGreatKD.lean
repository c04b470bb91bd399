/- Parts. -/
import Derived.Test.YtpepnkihgjjpmaaGreatKB
set_option linter.all false
set_option maxHeartbeats 4000000
set_option maxRecDepth 16000
namespace Go.Proofs.YtpepnkihgjjpmaaGreat
open Go.Abs Tryz
open List hiding max min
def abq(p:aB):within p.aO (-1099511627776) 1099511627776=D2 p:=by
 rw[nJ];simp[within,D2]
def Yi(j:Nat)(p:kM):-p.q*(p.i.mult*p.i.sh j)=xT j p:=by rw[xT,Int.mul_assoc]
theorem It(r:aA)(w c:Int)(qs:List aB)(hr:r.small)(hq:qs.length<2^30):Sq 278 [] [.agg r.cells,.int .i64 w,.int .i64 c,.sl 4 (qs.map aB.cells)] [] (.bI [.agg (JK r w c qs),.int .i64 (Ad r w c qs)]):=by
 have h2:=ga r hr;have h5:=λn=>fF r n hr;have U:=wX [];simp only[aA.cells]at h2 h5 |-;refine bp 115 4 [.cell 8 59,.tmp 9] mixed func278 ?_;refine sc aS h2 ?_;cases V:r.okB
 ·have e:WM r qs=14:=by simp[WM,V]
  have O:Ad r w c qs=14:=by simp[Ad,e]
  have e2:JK r w c qs=jv [] 0:=by simp[JK,O]
  rw[O,e2,U];exact jq
 refine s0 ?_;refine aF.w1 qs.length 11 [1,2,3,4,8,10] [80,144,176] (λi _=>∀j (t:j<qs.length),j<i->D2 qs[j]=true) (by intros;omega) ?_ ?_
 ·intro i _ l J q C;have F:=br (c:=aB.cells) qs l;have hv:=iw qs[i].aO (-1099511627776) 1099511627776;rw[abq]at hv;simp only[aB.cells]at F;refine sc (a2 J F) hv ?_;cases H:D2 qs[i]
  ·have:qs.all D2=false:=by
    cases hc:qs.all D2
    ·rfl
    ·rw[bL.1 hc _ (dS l)]at H;cases H
   have e:WM r qs=3:=by simp[WM,V,this]
   have O:Ad r w c qs=3:=by simp[Ad,e]
   have e2:JK r w c qs=jv [] 0:=by simp[JK,O]
   rw[O,e2,U];exact jq
  ·refine sm q ?_;refine ah.u l ?_ ?_
   ·intro j t hji;rcases dN j i with h|h
    ·exact C j t h
    ·obtain rfl:j=i:=ak
     exact H
   ·exact jq
 intro _ g C;have D:qs.all D2=true:=bL.2 λp hp=>by
  obtain⟨j,t,rfl⟩:=mem_iff_getElem.1 hp;exact C j t t
 have hE:WM r qs=0:=by simp[WM,V,D]
 have aa:=P0 (w:=w) (c:=c) hE;have hpl:=FU r w c qs;have e2:Ad r w c qs=if qU (sB r w c qs)then 1 else 0:=by simp[Ad,hE]
 simp only[JK,e2];clear e2 C;have hz:=wX (sB r w c qs);refine sm g ?_;clear g;refine aF.wu 6 [1,2,3,4,8,10] [80,144] (λi=>[(12,.I i)]) (λi=>[(176,.box (jv (sB r w c qs) i))]) (λi=>∀j<i,bB (qd (sB r w c qs) j)=true) (by intros;omega) ?_ ?_ ?_
 ·exact gY hz
 ·intro j _ t K ac C;have K:decide ((j:Int)<6)=true:=K;have s:=aaX aa j ak;have o:=Pv (sB r w c qs) t;obtain⟨B,Y⟩:=aN (jv (sB r w c qs) j);have hBl:B.length=6:=by rw[Y];rfl
  have y:∀d∈jv (sB r w c qs) (j+1),xR d=true:=by simp[jv,mT,xR]
  have f:∀d∈B,xR d=true:=by rw[Y];simp[jv,mT,xR]
  rw[<-Y]at o |-;refine sm K ?_;refine aF.wv qs.length [1,2,3,4,8,10,12] [80,144,176] (λi=>[(14,.I i),(13,.ref 1504)]) (λi=>[(1504,.own 2 (vr ((sB r w c (qs.take i)).map (xT j))))]) ?_ ?_ ?_
  ·simp only[go_sem,seval]<;>simp[vr,sB,j8 f,tK f]
  ·intro i _ l J q _;have F:=br (c:=aB.cells) qs l;have m:=PY r w c qs l;have hlen:=FU r w c (qs.take i);have hlt:(qs.take i).length=i:=by simp;omega
   have X:=h5 qs[i].inst;obtain⟨x,M⟩:=aN (aZ r qs[i].inst);have T:bJ r qs[i].inst=true->x.ok=true:=λh=>by rw[M];exact zI V h
   have R:=bL.1 D qs[i] (dS l);have hwl:(vr ((sB r w c (qs.take i)).map (xT j))).length<=i:=by simp[vr];omega
   have hlI:(i:Int)<(qs.length:Int):=ak
   simp only[Lp,<-M]at m;rw[<-M]at X;simp only[aB.cells]at F;simp only[aE.cells]at X;refine sc (a2 J F) X ?_;cases z:bJ r qs[i].inst
   ·simp only[z,cZ,iM,if_false]at m;refine sm (a2 z q) ?_;refine bg ?_;refine ah.v l ?_;simp only[go_sem,seval,m]<;>simp[j8 f,tK f]
   cases N:qs[i].who==w
   ·simp only[z,N,cZ,cm,iM,if_false]at m;refine sm (a4 F z N q) ?_;refine bg ?_;refine ah.v l ?_;simp only[go_sem,seval,m]<;>simp[j8 f,tK f]
   cases W:x.cur==c
   ·simp only[z,N,W,Bool.and_false,cm,iM,if_false]at m;refine sm (a5 F z N W q) ?_;refine bg ?_;refine ah.v l ?_;simp only[go_sem,seval,m]<;>simp[j8 f,tK f]
   simp only[z,N,W,Bool.and_self,if_true]at m;have Q:=T z;obtain⟨⟨m1,m2⟩,-⟩:=tI Q;have ab:=IV Q j;simp only[D2,bQ,gD,gv]at R;have hsa:=alA ⟨x,qs[i].aO⟩ t;have r1:=fE (a:=x.mult) (b:=x.sh j) (A:=1024) (B:=1073741824) ak ab;have r1:-1099511627776<=x.mult*x.sh j/\x.mult*x.sh j<=1099511627776:=r1;have w1:IntKind.wrap .i64 (0-qs[i].aO) = -qs[i].aO:=fQ;have w2:IntKind.wrap .i64 (x.mult*x.sh j)=x.mult*x.sh j:=gO ak ak;have ht:=qJ (-qs[i].aO) (x.mult*x.sh j) ⟨by omega,by omega⟩ ⟨by omega,by omega⟩;have hF:-qs[i].aO*(x.mult*x.sh j)=xT j ⟨x,qs[i].aO⟩:=Yi j ⟨x,qs[i].aO⟩;rw[hF]at ht;simp only[wd]at ht;have E:(drop (6+j*1) x.cells).headD .undef=.I (x.sh j):=by
    rcases j with _| _| _| _| _| _|j<;>first|rfl|omega
   simp only[aE.cells]at E;refine sc (a5 F z N W (a4 q w1 E w2)) ht ?_;refine bg ?_;refine ah.v l ?_;simp only[go_sem,seval,m]<;>simp[wd,vr,j8 f,tK f]
  ·intro _ g _;have m:=oA ((sB r w c qs).map (xT j)) (by simp;omega) s.1;have G:=oz (qd (sB r w c qs) j);have e:ay ((sB r w c qs).map (xT j))=qd (sB r w c qs) j:=rfl;rw[e,s.2,aq rfl]at m;obtain⟨S,Z⟩:=aN (qd (sB r w c qs) j);rw[<-Z]at m G o;have L:bB S=true->∀k<j+1,bB (qd (sB r w c qs) k)=true:=λM k Q=>by
    rcases dN k j with h|h
    ·exact C k h
    ·obtain rfl:k=j:=ak
     rw[<-Z];exact M
   have P:bB S=false->qU (sB r w c qs)=true:=λM=>by
    simp only[qU,any_eq_true,mem_range];exact⟨j,t,by rw[<-Z,M];rfl⟩
   simp only[wd]at m G;simp only[go_sem,seval,g,eu];refine sl aS m ?_;refine aG.bC G ?_;cases l:bB S
   ·have H:=P l;simp only[go_sem,seval,l,H,jv,mT]
   ·simp only[go_sem,seval]at o;refine sm (a3 l o ac) ?_;refine bg ?_;refine ah.u t (L l) ?_;refine s0 ?_;exact j8 y
 ·intro _ g C;have g:decide ((6:Int)<6)=false:=g;have H:qU (sB r w c qs)=false:=by
   simp only[qU,any_eq_false,mem_range];intro k Q;simp[C k Q]
  simp only[go_sem,seval,g,H,jv,mT]
theorem Iu(r:aA)(w c:Int)(qs:List aB)(X:r.small)(hq:qs.length<2^30):Sq 242 [] [.agg r.cells,.int .i64 w,.int .i64 c,.sl 4 (qs.map aB.cells)] [] (.bI [.int .i64 (Ff r w c qs),.int .i64 (HG r w c qs)]):=by
 have J:=It r w c qs X hq;have U:=λn=>fF r n X;simp only[aA.cells]at J U |-;refine bp 114 4 [.tmp 8,.tmp 9] mixed func242 ?_;refine sc aS J ?_;by_cases k:Ad r w c qs=0
 case neg =>
  have Y:(Ad r w c qs != 0)=true:=su k;have Z:HG r w c qs=Ad r w c qs:=by simp[HG,k]
  have e2:Ff r w c qs=0:=by simp[Ff,k]
  have F:JK r w c qs=jv [] 0:=by simp[JK,k]
  rw[Z,e2,F,wX];exact dL Y
 obtain⟨b,t⟩:=Vo k;have O:=P0 (w:=w) (c:=c) b;have hpl:=FU r w c qs;have z:r.okB=true/\qs.all D2=true:=by
  unfold WM at b;split at b
  ·rename_i h1;split at b
   ·rename_i o;exact⟨h1,o⟩
   ·cases b
  ·cases b
 have e2:HG r w c qs=if bB (PA (sB r w c qs))then 0 else 1:=by simp[HG,k]
 have F:Ff r w c qs=if bB (PA (sB r w c qs))then PA (sB r w c qs)else 0:=by simp[Ff,k]
 have S:JK r w c qs=[.I (qd (sB r w c qs) 0),.I (qd (sB r w c qs) 1),.I (qd (sB r w c qs) 2),.I (qd (sB r w c qs) 3),.I (qd (sB r w c qs) 4),.I (qd (sB r w c qs) 5)]:=by simp[JK,k,jv,mT]
 rw[e2,F,S];clear e2 F S J;have u:=R8 t;obtain⟨T,s⟩:=aN (PA (sB r w c qs));rw[<-s];simp only[PA]at s;obtain⟨L,K⟩:=aN (qd (sB r w c qs));rw[<-K]at u s |-;refine sm k ?_;refine aF.wv 6 [1,2,3,4,10] [80,176] (λi=>[(13,.I i),(12,.I (Ar L i))]) (λi=>[]) ?_ ?_ ?_
 ·simp only[go_sem,seval]<;>simp[Ar]
 ·intro i _ e g d _;have g:decide ((i:Int)<6)=true:=g;have P:=Y6 L e;refine sm (a3 g P d) ?_;refine bg ?_;refine ah.v e ?_;simp only[go_sem,seval,Ar]
 intro _ j _;have j:decide ((6:Int)<6)=false:=j;have N:=PO (f:=L) 6 u;obtain⟨M,hM⟩:=aN (Ar L 6);rw[<-hM]at N s |-;have V:=xy M ak;simp only[wd]at V;refine sc j V ?_;refine aF.wv qs.length [1,2,3,4] [80] (λi=>[(15,.I i),(14,.ref 1552)]) (λi=>[(1552,.own 2 (vr (M::(sB r w c (qs.take i)).map N9)))]) ?_ ?_ ?_
 ·simp only[go_sem,seval]<;>simp[vr,wd,sB]
 ·intro i _ e g d _;have A:=br (c:=aB.cells) qs e;have a:=PY r w c qs e;have hlen:=FU r w c (qs.take i);have hlt:(qs.take i).length=i:=by simp;omega
  have H:=U qs[i].inst;obtain⟨x,R⟩:=aN (aZ r qs[i].inst);have E:bJ r qs[i].inst=true->x.ok=true:=λh=>by rw[R];exact zI z.1 h
  have D:=bL.1 z.2 qs[i] (dS e);have hwl:(vr (M::(sB r w c (qs.take i)).map N9)).length<=i+1:=by simp[vr];omega
  have hlI:(i:Int)<(qs.length:Int):=ak
  simp only[Lp,<-R]at a;rw[<-R]at H;simp only[aB.cells]at A;simp only[aE.cells]at H;refine sc (a2 g A) H ?_;cases l:bJ r qs[i].inst
  ·simp only[l,cZ,iM,if_false]at a;refine sm (a2 l d) ?_;refine bg ?_;refine ah.v e ?_;exact dL a
  cases m:qs[i].who==w
  ·simp only[l,m,cZ,cm,iM,if_false]at a;refine sm (a4 A l m d) ?_;refine bg ?_;refine ah.v e ?_;exact dL a
  cases G:x.cur==c
  ·simp only[l,m,G,Bool.and_false,cm,iM,if_false]at a;refine sm (a5 A l m G d) ?_;refine bg ?_;refine ah.v e ?_;exact dL a
  simp only[l,m,G,Bool.and_self,if_true]at a;have hk:=E l;obtain⟨-,g1,g2⟩:=tI hk;simp only[D2,bQ,gD,gv]at D;have w1:IntKind.wrap .i64 (0-qs[i].aO) = -qs[i].aO:=fQ;have Q:=qJ (max qs[i].aO (-qs[i].aO)) x.add ⟨by omega,by omega⟩ ⟨by omega,by omega⟩;have hF:max qs[i].aO (-qs[i].aO)*x.add=N9 ⟨x,qs[i].aO⟩:=rfl;rw[hF]at Q;simp only[wd]at Q;refine sc (a5 A l m G (a2 d w1)) Q ?_;refine bg ?_;refine ah.v e ?_;simp only[go_sem,seval,a]<;>simp[wd,vr]
 ·intro _ j _;have W:∀n∈M::(sB r w c qs).map N9,-1208925819614629174706176<=n/\n<=1208925819614629174706176:=by
   intro n C;rcases mem_cons.1 C with rfl|C
   ·omega
   ·obtain⟨p,hp,rfl⟩:=mem_map.1 C;exact Rr (O p hp)
  have a:=oA (M::(sB r w c qs).map N9) (by simp;omega) (λn C=>DG (W n C) ak);have o:=BA (B:=1208925819614629174706176) W;rw[<-s]at a o;simp only[length_cons,qE]at o;have y:vM T=true:=DG (B:=1208925819614629174706176*(((sB r w c qs).length+1:Nat):Int)) o ak;have q:=oz T;rw[y,aq rfl]at a;simp only[wd]at a q;simp only[go_sem,seval,j,eu];refine sl aS a ?_;refine aG.bC q ?_;cases e:bB T<;>simp only[go_sem,seval,e]<;>simp
def Ye{bs:List bU}{i:Nat}(b:∀j<i,rE bs j=true)(a:rE bs i=true):∀k<i+1,rE bs k=true:=λk hk=>by
 rcases dN k i with h|h
 ·exact b k h
 ·obtain rfl:k=i:=ak
  exact a
def Ui{bs:List bU}(h:lG bs=true)(c:Int):BD c [1,2,3,4,5,6] bs=j4 c bs/\∀n∈j4 c bs,bB n=true:=by
 have g:∀b∈bs,lR b=true:=λb a=>by
  obtain⟨i,f,rfl⟩:=mem_iff_getElem.1 a;have:=bL.1 h i (mem_range.2 f);rcases Nat.eq_zero_or_pos i with rfl|hp
  ·rwa[n5 f]at this
  ·obtain⟨j,rfl⟩:∃j,i=j+1:=⟨i-1,by omega⟩
   rw[mC f,bQ]at this;exact this.1
 refine⟨?_,λn k=>?_⟩
 ·unfold BD j4;congr 1;refine filter_congr λb a=>?_;have:=g b a;simp only[lR,bQ]at this;have d:=this.1;unfold aC.right at d;split at d
  ·cases d
  ·rename_i l;simp only[bU.bq]at l;have e:sI [1,2,3,4,5,6] b.kind=true:=by
    simp only[sI,any_cons,any_nil,Bool.or_eq_true,ff];omega
   rw[e,cm]
 ·simp only[j4,mem_map,mem_filter]at k;obtain⟨b,⟨a,_⟩,rfl⟩:=k;have:=g b a;simp only[lR,bQ]at this;exact this.2.1
def LC{l:List Int}(h:∀n∈l,bB n=true):right l=true:=bL.2 h
def lz(l:bu)(J:l.bs.length<2^30)(K:∀b∈l.bs,b.fB):Sq 221 [] [.agg l.cells] [] (.bool l.okB):=by
 have w:=λc=>Ik l c [1,2,3,4,5,6] J sT K;simp only[bu.cells,ints,map_cons,map_nil]at w |-;refine bp 80 1 [.tmp 2] mixed func221 ?_;rcases Int.lt_or_le l.last 0 with h0|h0
 ·have v:decide (l.last<0)=true:=su h0;have e:l.okB=false:=by simp[bu.okB];omega
  exact dL (a2 v e)
 have v:decide (l.last<0)=false:=su h0;refine sm v ?_;refine aF.count l.bs.length [1] [32] (λi=>[(3,.I i)]) (λi=>[]) (λi=>∀j<i,rE l.bs j=true) sT ?_ ?_
 ·exact kG
 intro i hi B;refine s0 ?_;refine bS.fX (λh=>?_) (λh=>?_)
 ·have f:i<l.bs.length:=ak
  have hw:IntKind.wrap .i64 ((i:Int)+1)=((i+1:Nat):Int):=fQ;have y:=br (c:=bU.cells) l.bs f;have E:=jm l.bs[i].bq;have h2:=fy l.bs[i].sum;have F:=yX l.bs[i].bq;have e0:=Ye (i:=i) B;have o:rE l.bs i=false->l.okB=false:=λt=>by simp[bu.okB,Cp f t]
  simp only[bU.cells,aC.cells,bU.bq]at y E F;clear w;rcases Nat.eq_zero_or_pos i with rfl|hpos
  ·have d:=n5 f;simp only[lR,bU.bq]at d;refine sm y ?_;repeat' with_reducible first|apply And.intro|exact .dq|refine aG.bC (by assumption) ?_|refine mO (λh=>?_) λh=>?_|refine ah.jE ak ?_ ?_|simp only[*,go_sem,seval]
   all_goals first
    |omega
    |rfl
    | (refine e0 ?_;clear e0 o;rw[d];clear d;simp[bne, *];done)
    | (rw[o ?_];clear e0 o;rw[d];clear d;simp[bne, *];done)
  ·obtain⟨j,rfl⟩:∃j,i=j+1:=⟨i-1,by omega⟩
   have C:j<l.bs.length:=ak
   have hw1:IntKind.wrap .i64 (((j+1:Nat):Int)-1)=(j:Int):=fQ;have d:=mC f;simp only[lR,bU.bq]at d;have s:=br (c:=bU.cells) l.bs C;have G:=JO l.bs[j].bq l.bs[j+1].bq;simp only[bU.cells,aC.cells,bU.bq]at s G;refine sm y ?_;repeat' with_reducible first|apply And.intro|exact .dq|refine aG.bC (by assumption) ?_|refine mO (λh=>?_) λh=>?_|refine ah.jE ak ?_ ?_|simp only[*,go_sem,seval,s,qE]
   all_goals first
    |omega
    |rfl
    | (refine e0 ?_;clear e0 o;rw[d];clear d;simp[bne, *];done)
    | (rw[o ?_];clear e0 o;rw[d];clear d;simp[bne, *];done)
 have z:=u9 (λj (C:j<l.bs.length)=>B j ak);have r:∀c:Int,nX l.bs c=(bB (ay (j4 c l.bs))&&addN (j4 c l.bs)==0):=λc=>by
  have:=(Ui z c).2;simp only[nX,oa,oI,addN,LC this,if_true,cm];cases bB (ay (j4 c l.bs))<;>simp
 refine s0 ?_;refine aF.w1 3 5 [1] [32] (λi _=>∀c<i,nX l.bs (c:Nat)=true) sT ?_ ?_
 ·intro c _ H a A p;have a:decide ((c:Int)<3)=true:=a;have q:=w c;rw[(Ui z c).1]at q;have x:=r c;have m:nX l.bs c=false->l.okB=false:=λt=>by
   obtain rfl|rfl|rfl:c=0\/c=1\/c=2:=ak
   ·have:nX l.bs 0=false:=t;simp[bu.okB,this]
   ·have:nX l.bs 1=false:=t;simp[bu.okB,this]
   ·have:nX l.bs 2=false:=t;simp[bu.okB,this]
  refine sl a q ?_;cases g:bB (ay (j4 c l.bs))
  ·simp only[go_sem,seval,g,m (by rw[x,g];rfl)]
  cases n:addN (j4 c l.bs)==0
  ·simp only[go_sem,seval,g,bne,n,m (by rw[x,g,n];rfl)]
  refine sm (a4 g gr n A) ?_;refine ah.u H ?_ ?_
  ·intro k d;rcases dN k c with h|h
   ·exact p k h
   ·obtain rfl:k=c:=ak
    rw[x,g,n];rfl
  ·exact jq
 ·intro _ a p;have a:decide ((3:Int)<3)=false:=a;have D:nX l.bs 0=true:=p 0 ak;have g:nX l.bs 1=true:=p 1 ak;have n:nX l.bs 2=true:=p 2 ak;have e:l.okB=true:=by simp[bu.okB,z,D,g,n,h0]
  exact dL (a2 a e)
theorem pq(r:aA)(n:Int)(q:r.small):Sq 157 [] [.agg r.cells,.int .i64 n] [] (.bI [.agg (jj aD.a n ⟨0,0,0,0⟩ r.xs).cells,.bool (decide (0<=lO aD.a n r.xs))]):=by
 obtain⟨l1,l2,l3⟩:=q;simp only[aA.cells];refine bp 28 2 [.cell 4 159,.tmp 5] mixed func157 ?_;refine s0 ?_;refine aF.w1 r.xs.length 6 [1,2,4] [48,80] (λi _=>∀j (d:j<r.xs.length),j<i->r.xs[j].a≠n) (by intros;omega) ?_ ?_
 ·intro i _ m k s e;have o:=br (c:=aD.cells) r.xs m;have hlt:(i:Int)<(r.xs.length:Int):=ak
  simp only[aD.cells]at o |-;refine sm (a2 k o) ?_;refine bg ?_;cases p:r.xs[i].a==n
  ·have b:r.xs[i].a≠n:=su p;refine sm s ?_;refine ah.u m ?_ ?_
   ·intro j d hji;rcases dN j i with h|h
    ·exact e j d h
    ·obtain rfl:j=i:=ak
     exact b
   ·exact jq
  ·have b:r.xs[i].a=n:=su p;obtain⟨f,g⟩:=mz (z:=(⟨0,0,0,0⟩:aD)) m e b;have g3:decide (0<=(i:Int))=true:=iy;rw[f,g,g3];refine sm o ?_;exact Si
 ·intro _ l e;obtain⟨f,g⟩:=j7 (z:=(⟨0,0,0,0⟩:aD)) (λj d=>e j d d);rw[f,g];simp only[go_sem,seval,l,aD.cells]
theorem TR{a:aC}{bs:List bU}(h:∀b∈bs,b.fB):iS (eP a bs):=by
 induction bs with
 |nil=>exact⟨by simp[eP],by simp[eP]⟩
 |cons b r ih =>
  simp only[eP];split
  ·exact(h b sT).2.2.2
  ·exact ih λb c=>h b (by simp[c])
def ajG(a:aD)(n:Int):bB (a.V n)=true:=by
 simp only[aD.V];split
 ·unfold abr;split
  ·decide
  ·split
   ·assumption
   ·decide
 ·decide
def Zy(r:aA)(w c:Int)(ps:List gC):∀n∈mL r w c ps,bB n=true:=by
 intro n a;simp only[mL,mem_map]at a;obtain⟨x,_,rfl⟩:=a;exact ajG _ _
theorem mQ{l:bu}(h:l.okB=true)(a:aC):bB (eP a l.bs)=true:=by
 have c:=(afw h).2;clear h;generalize l.bs=bs at c;induction bs with
 |nil=>rfl
 |cons b r ih =>
  simp only[eP];split
  ·exact c b sT
  ·exact ih λz d=>c z (by simp[d])
def tH{n:Int}(h:bB n=true):iS n:=by have:=aP.1 h;exact⟨by omega,by omega⟩
def JT(l:bu)(r:aA)(ps:List gC)(w c:Int)(hl:l.bs.length<2^29)(P:r.small)(hp:ps.length<2^29)(S:∀b∈l.bs,b.fB) :
  Sq 241 [] [.agg l.cells,.agg r.cells,.sl 3 (pl ps),.I w,.I c] [] (.bI [.I (N1 l r ps w c),.I (MS l r ps w c)]):=by
 have B:=lz l ak S;have C:=ga r P;have N:=sj ps ak;have D:=ou l ⟨2,w,c⟩ ak;have F:=λn=>pq r n P;simp only[bu.cells,aC.cells]at B D |-;simp only[aA.cells]at C F |-;refine bp 97 5 [.tmp 10,.tmp 11] mixed func241 ?_;refine sc aS B ?_;cases A:l.okB
 ·have e:AT l r ps=14:=by simp[AT,A]
  have j:MS l r ps w c=14:=by simp[MS,e]
  have e2:N1 l r ps w c=0:=by simp[N1,e]
  exact dL (a2 j e2)
 refine sc aS C ?_;cases L:r.okB
 ·have e:AT l r ps=14:=by simp[AT,L]
  have j:MS l r ps w c=14:=by simp[MS,e]
  have e2:N1 l r ps w c=0:=by simp[N1,e]
  exact dL (a2 j e2)
 refine sc aS N ?_;cases M:jB ps
 ·have e:AT l r ps=14:=by simp[AT,M]
  have j:MS l r ps w c=14:=by simp[MS,e]
  have e2:N1 l r ps w c=0:=by simp[N1,e]
  exact dL (a2 j e2)
 have e:AT l r ps=0:=by simp[AT,A,L,M]
 have j:MS l r ps w c=if nB r w c ps != 0 then nB r w c ps else oa (eP ⟨2,w,c⟩ l.bs::mL r w c ps):=by simp[MS,e]
 have e2:N1 l r ps w c=if nB r w c ps != 0 then 0 else oI (eP ⟨2,w,c⟩ l.bs::mL r w c ps):=by simp[N1,e]
 rw[j,e2];clear j e2 e;refine s0 ?_;refine aG.bC D ?_;have m:=mQ A ⟨2,w,c⟩;obtain⟨o,T⟩:=aN (eP ⟨2,w,c⟩ l.bs);rw[<-T]at m |-;refine s0 ?_;refine aF.wu ps.length [2,3,4,6] [112] (λi=>[(13,.I i),(12,.ref 1424)]) (λi=>[(1424,.own 1 (ints (o::mL r w c (ps.take i))))]) (λi=>nB r w c (ps.drop i)=nB r w c ps) rfl ?_ ?_ ?_
 ·simp only[go_sem,seval]<;>simp[mL,ints]
 ·intro i _ f J x g;have d:=S6 r w c ps f;have G:=F ps[i].bT;have hvl:=LZ r w c (ps.take i);have htl:(ps.take i).length=i:=by simp;omega
  have hli:(i:Int)<(ps.length:Int):=ak
  rw[Tw f]at g;simp only[nB]at g;obtain⟨a,O⟩:=aN (Gk r ps[i]);have H:jj aD.a ps[i].bT ⟨0,0,0,0⟩ r.xs=a:=O.symm;rw[H]at G;simp only[RT,<-O]at g d;have Q:=AJ a ps[i].units;simp only[aD.cells]at G Q;clear B C N D F;simp only[go_sem,seval,J,qh ps f];refine sc aS G ?_;cases p:decide (0<=lO aD.a ps[i].bT r.xs)
  ·simp only[p,cZ,iM,if_false]at g d;refine sm (a2 p x) ?_;refine bg ?_;refine ah.u f g ?_;simp only[go_sem,seval,d]
  cases s:ps[i].who==w
  ·simp only[p,s,cZ,cm,iM,if_false]at g d;simp only[go_sem,seval,p,bne,s,x,qh ps f];refine bg ?_;refine ah.u f g ?_;simp only[go_sem,seval,d]
  cases y:a.b==c
  ·simp only[p,s,y,cZ,Bool.and_false,cm,iM,if_false]at g d;simp only[go_sem,seval,p,bne,s,y,x,qh ps f];refine bg ?_;refine ah.u f g ?_;simp only[go_sem,seval,d]
  simp only[p,s,y,cm,Bool.and_self,if_true]at g d;simp only[go_sem,seval,p,bne,s,y,qh ps f];refine sc aS Q ?_;cases z:a.E ps[i].units==0
  ·have q:(a.E ps[i].units != 0)=true:=by simp[bne,z]
   simp only[q,if_true]at g;have R:nB r w c ps=a.E ps[i].units:=g.symm;simp only[go_sem,seval,bne,z,R,Bool.not_false,if_true]
  ·have q:(a.E ps[i].units != 0)=false:=by simp[bne,z]
   simp only[q,iM,if_false]at g;simp only[go_sem,seval,bne,z,x,az];refine bg ?_;refine ah.u f g ?_;simp only[go_sem,seval,d]<;>simp[ints]
 ·intro _ K g;simp only[jw,nB]at g;have hlen:=LZ r w c ps;have k:∀n∈o::mL r w c ps,bB n=true:=λn v=>by
   rcases mem_cons.1 v with rfl|v
   ·exact m
   ·exact Zy r w c ps n v
  have U:=eM (o::mL r w c ps) (λn v=>tH (k n v)) (by simp;omega);have h:=LC k;rw[<-g];simp only[oa,oI,h,if_true,cm];simp only[go_sem,seval,K,eu];refine sl aS U ?_;cases t:bB (ay (o::mL r w c ps))
  ·exact gY t
  ·simp only[go_sem,seval,t,addN]<;>simp
theorem AF(s:af)(w c:Int)(D:s.fit)(x:s.fB)(A:s.bf.bs.length<2^29)(B:s.ps.length<2^29):Sq 179 [] [.agg s.cells,.int .i64 w,.int .i64 c] [] (.bI [.int .i64 (Y2 s w c),.int .i64 (shE s w c)]):=by
 obtain⟨g,u,_,_⟩:=D;have p:=JT s.bf s.aj s.ps w c A g B x.bs;have q:=kV s.book u x.qs;have r:=Iu s.aj w c s.book.qs g u.2;simp only[bu.cells,aA.cells,aH.cells]at p q r;simp only[af.cells,Y2,shE];refine bp 63 3 [.tmp 6,.tmp 7] mixed func179 ?_;refine sc aS p ?_;by_cases e:MS s.bf s.aj s.ps w c=0
 case neg =>
  have k:(MS s.bf s.aj s.ps w c==0)=false:=su e;simp only[go_sem,seval,bne,k,au e]
 have a:=(akX e).2.2.2;have b:=R9 s.aj w c s.book.qs;have k:(MS s.bf s.aj s.ps w c==0)=true:=su e;simp only[go_sem,seval,bne,k,aq e];refine aG.bC q ?_;cases o:s.book.okB
 ·exact dL o
 refine sc o r ?_;by_cases i:HG s.aj w c s.book.qs=0
 case neg =>
  have l:(HG s.aj w c s.book.qs==0)=false:=su i;simp only[go_sem,seval,bne,l,au i]
 have l:(HG s.aj w c s.book.qs==0)=true:=su i;simp only[aq i];obtain⟨M,z⟩:=aN (Ff s.aj w c s.book.qs);obtain⟨C,y⟩:=aN (N1 s.bf s.aj s.ps w c);rw[<-y]at a |-;rw[<-z]at b |-;have i1:=aP.1 a;have i3:=aP.1 b;have E:IntKind.wrap .i64 (0-C) = -C:=fQ;have t:=eM [M,-C] (by intro n v;simp only[mem_cons,not_mem_nil,or_false]at v;rcases v with rfl|rfl<;>exact⟨by omega,by omega⟩) sT;have h:ay [M,-C]=M-C:=by simp[ay];omega
 simp only[addN,h,ints,map_cons,map_nil]at t;refine sm (a3 gr l E) ?_;refine sl aS t ?_;simp only[ac0,ac1,a,b,cm,Bool.and_self,if_true];cases j:bB (M-C)
 ·by_cases f:M<=C
  ·have m:decide (C<M)=false:=iE;simp only[go_sem,seval,j,m,aq f,iM,if_false]<;>simp
  ·have m:decide (C<M)=true:=iy;simp only[go_sem,seval,j,m,au f,iM,if_false]
 ·by_cases f:M<=C
  ·have d:max (M-C) 0=0:=ak
   simp only[go_sem,seval,j,d,aq f]
  ·have d:max (M-C) 0=M-C:=ak
   simp only[go_sem,seval,j,d,au f]
def jd(a b c:Int):Sq 250 [] [.int .i64 a,.int .i64 b,.int .i64 c] [] (.bool (within a b c)):=by
 refine bp 15 3 [.tmp 6] mixed func250 ?_;simp only[go_sem,seval];repeat' with_reducible first|refine mO (λh=>?_) λh=>?_|simp only[*,go_sem,seval]
 all_goals(simp_all[within];try omega)
structure cj where
 src:Int
 aO:Int
 aL:Int
deriving DecidableEq
@[reducible] def cj.cells(x:cj):List D:=[.I x.src,.I x.aO,.I x.aL]
def ahead(long:Bool)(a b:aY):Bool:=if a.aL==b.aL then decide (a.src<b.src)else decide (b.aL<a.aL)==long
def JR(long:Bool)(a b:aY):Sq 307 [] [.bool long,.agg a.cells,.agg b.cells] [] (.bool (ahead long a b)):=by
 simp only[aY.cells];refine bp 24 3 [.tmp 6] mixed func307 ?_;cases q:a.aL==b.aL
 ·simp only[go_sem,seval,bne,q,ahead,iM,if_false];all_goals(with_reducible and_intros)<;>first|exact .dq|omega|skip
 ·simp only[go_sem,seval,bne,q,ahead,if_true];all_goals(with_reducible and_intros)<;>first|exact .dq|omega|skip
def kpos(long:Bool)(x:aY)(out:List aY):Nat->Nat
 | 0=>0
 |k+1=>if ahead long x (out.getD k ⟨0,0,0,0,0⟩)then kpos long x out k else k+1
theorem MF(long:Bool)(x:aY)(out:List aY):∀k,kpos long x out k<=k
 | 0=>fS _
 |k+1=>by
  simp only[kpos];split
  ·have:=MF long x out k;omega
  ·exact fS _
def He(long:Bool)(x:aY)(out:List aY):List aY:=out.take (kpos long x out out.length)++x::out.drop (kpos long x out out.length)
def Bh(long:Bool):List aY->List aY->List aY
 |out,[]=>out
 |out,x::r=>Bh long (He long x out) r
def vc(long:Bool)(l:List aY):List aY:=Bh long [] l
def X1(long:Bool)(x:aY)(out:List aY):(He long x out).length=out.length+1:=by
 have:=MF long x out out.length;simp only[He,cR,length_cons,fZ,iN];omega
theorem Cw(long:Bool):∀(l out:List aY),(Bh long out l).length=out.length+l.length
 | [],out=>rfl
 |x::r,out=>by simp only[Bh,Cw long r,X1,length_cons];omega
def hole(x:aY)(out:List aY)(k:Nat):List aY:=(out++[x]).take (k+1)++out.drop k
def vK{x:aY}{out:List aY}{k:Nat}(h:k<=out.length):(hole x out k).length=out.length+1:=by
 simp only[hole,cR,fZ,iN,length_cons,length_nil];omega
def XZ(x:aY)(out:List aY):hole x out out.length=out++[x]:=by
 rw[hole,take_of_length_le sT,jw,append_nil]
def G7{x:aY}{out:List aY}{k:Nat}(h:k<=out.length){j:Nat}(b:j<out.length+1):(hole x out k)[j]'(by rw[vK h];exact b)=if a:j<=k then(out++[x])[j]'(by simp;omega)else out[j-1]'ak:=by
 simp only[hole];split
 ·rename_i a;rw[getElem_append_left (by simp;omega),getElem_take]
 ·rename_i a;rw[getElem_append_right (by simp;omega),getElem_drop];have:k+(j-((out++[x]).take (k+1)).length)=j-1:=by simp;omega
  simp only[this]
def aaG{x:aY}{out:List aY}{k:Nat}(h:k+1<=out.length):(hole x out (k+1))[k]'(by rw[vK h];omega)=out[k]'ak:=by
 rw[G7 h ak,dif_pos ak,getElem_append_left ak]
def XY{x:aY}{out:List aY}{k:Nat}(h:k+1<=out.length):(hole x out (k+1)).set (k+1) (out[k]'ak)=hole x out k:=by
 refine ext_getElem (by rw[length_set,vK h,vK ak]) ?_;intro j a h2;have b:j<out.length+1:=by rw[length_set,vK h]at a;exact a
 rw[getElem_set,G7 (k:=k) ak b,G7 h b];split
 ·rename_i e;subst e;rw[dif_neg ak];simp
 ·split
  ·rename_i c e2;by_cases d:j<=k
   ·rw[dif_pos d]
   ·omega
  ·rename_i c e2;rw[dif_neg ak]
def O1{x:aY}{out:List aY}{k:Nat}(h:k<=out.length):(hole x out k).set k x=out.take k++x::out.drop k:=by
 have a:(out.take k).length=k:=by simp;omega
 have e:(out++[x]).take (k+1)=out.take k++[(out++[x])[k]'(by simp;omega)]:=by
  rw[jU (by simp;omega),take_append_of_le_length h]
 rw[hole,e,dz,set_append_right _ _ ak,a,Nat.sub_self];rfl
def Nn(long:Bool)(l:List aY)(hl:l.length<2^29):Sq 296 [] [.bool long,.sl 5 (l.map aY.cells)] [.own 5 ((vc long l).map aY.cells)] (.ref 0):=by
 have u:=λa b=>JR long a b;refine bp 56 2 [.tmp 4] mixed func296 ?_;simp only[go_sem,seval];refine aF.sK (S:=List aY) l.length [0,1] [] (λi _=>[(6,.int .i64 i),(5,.ref 96)]) (λ_ s=>[(96,.own 5 (s.map aY.cells))]) (λi s=>Bh long s (l.drop i)=vc long l/\s.length=i) [] ⟨rfl,rfl⟩ ?_ ?_ ?_
 ·exact kG
 ·rintro i out v z t ⟨f,hol⟩;obtain⟨x,D,p,hli⟩:=oc (c:=aY.cells) l v;rw[cg v,<-D]at f;simp only[Bh]at f;simp only[aY.cells]at p;simp only[go_sem,seval,z,p];refine bg ?_;refine aF.yN (T:=Nat) [0,1,6] [] (λk=>[(7,.int .i64 k),(5,.ref 96)]) (λk=>[(96,.own 5 ((hole x out k).map aY.cells))]) (λk=>k<=out.length/\kpos long x out k=kpos long x out out.length) (λk=>k) out.length ⟨fS _,rfl⟩ ?_ ?_
  ·simp only[go_sem,seval,XZ]<;>simp
  rintro k ⟨hk,hK⟩;have d:=vK (x:=x) hk;rcases Nat.eq_zero_or_pos k with rfl|hpos
  ·have g:=O1 (x:=x) hk;have h:He long x out=out.take 0++x::out.drop 0:=by rw[He,<-hK];rfl
   rw[h,<-g]at f;have o:Bh long ((hole x out 0).set 0 x) (l.drop (i+1))=vc long l/\((hole x out 0).set 0 x).length=i+1:=⟨f,by rw[length_set,d];omega⟩
   have e:=br (c:=aY.cells) (hole x out 0) (i:=0) ak;simp only[aY.cells]at e;simp only[go_sem,seval];refine bg ?_;refine gf.id ?_;simp only[go_sem,seval,p,d,t];refine bg ?_;all_goals first
    |omega
    | (refine ah.jT ((hole x out 0).set 0 x) v o ?_
       simp only[go_sem,seval,map_set,e])
  ·obtain⟨j,rfl⟩:∃j,k=j+1:=⟨k-1,by omega⟩
   have C:j<(hole x out (j+1)).length:=ak
   have m:=br (c:=aY.cells) (hole x out (j+1)) C;have n:=XY (x:=x) hk;rw[aaG hk]at m;have B:out.getD j ⟨0,0,0,0,0⟩=out[j]:=by simp[show j<out.length by omega]
   simp only[kpos,B]at hK;obtain⟨y,E⟩:=aN (out[j]'ak);rw[<-E]at m n hK;have u:=u x y;have w:decide (0<((j+1:Nat):Int))=true:=iy;have r:IntKind.wrap .i64 (((j+1:Nat):Int)-1)=(j:Int):=fQ;have e:=br (c:=aY.cells) (hole x out (j+1)) (i:=j+1) ak;simp only[aY.cells]at m u e;refine sc (a5 w p d r m) u ?_;cases q:ahead long x y
   ·rw[q]at hK;have g:=O1 (x:=x) hk;have h:He long x out=out.take (j+1)++x::out.drop (j+1):=by rw[He,<-hK];rfl
    rw[h,<-g]at f;have o:Bh long ((hole x out (j+1)).set (j+1) x) (l.drop (i+1))=vc long l/\((hole x out (j+1)).set (j+1) x).length=i+1:=⟨f,by rw[length_set,d];omega⟩
    simp only[go_sem,seval,q];refine bg ?_;refine gf.id ?_;simp only[go_sem,seval,p,d,t];refine bg ?_;all_goals first
     |omega
     | (refine ah.jT ((hole x out (j+1)).set (j+1) x) v o ?_
        simp only[go_sem,seval,map_set,e])
   ·rw[q,aq rfl]at hK;simp only[go_sem,seval,q,p,d,r,m];refine bg ?_;all_goals first
     |omega
     | (refine ⟨j,⟨by omega,hK⟩,?_,by show j < j+1;omega⟩
        simp only[go_sem,seval,map_set,<-n,e])
 ·rintro out A ⟨f,hol⟩;rw[jw]at f;have f:out=vc long l:=f;simp only[go_sem,seval,A,<-f]
def JY(long:Bool)(l:List aY)(a:l.length<2^29):Sq 296 [] [.bool long,.sl 5 (l.map aY.cells)] [] (.sl 5 ((vc long l).map aY.cells)):=by
 refine Spec.frozen (Nn long l a) [0] rfl ?_;intro r;rcases r with _|r<;>rfl
def ab2(X Y:Int):(X/18446744073709551616<Y/18446744073709551616\/(X/18446744073709551616=Y/18446744073709551616/\X%18446744073709551616<Y%18446744073709551616))↔X<Y:=ak
def y5(X Y:Int):Sq 309 [] [.agg (wd X),.agg (wd Y)] [] (.bool (decide (X<Y))):=by
 have h:=ab2 X Y;simp only[wd];refine bp 24 2 [.tmp 4] mixed func309 ?_;obtain⟨a,e⟩:=aN (X/18446744073709551616);obtain⟨b,f⟩:=aN (Y/18446744073709551616);obtain⟨c,g⟩:=aN (X%18446744073709551616);obtain⟨d,i⟩:=aN (Y%18446744073709551616);rw[<-e,<-f,<-g,<-i]at h;rw[<-e,<-f,<-g,<-i];clear e f g i;have k:decide (X<Y)=(decide (a<b)||(a==b&&decide (c<d))):=by
  rw[nJ];simp only[bz,Bool.or_eq_true,bQ,ff];exact h.symm
 rw[k];clear k h;cases j:decide (a<b)
 ·cases l:a==b
  ·simp only[go_sem,seval,j,l,Bool.false_or,cZ];all_goals(with_reducible and_intros)<;>first|exact .dq|omega|skip
  ·simp only[go_sem,seval,j,l,Bool.false_or,cm];all_goals(with_reducible and_intros)<;>first|exact .dq|omega|skip
 ·simp only[go_sem,seval,j,Bool.true_or];all_goals(with_reducible and_intros)<;>first|exact .dq|omega|skip
def Z9(X Y:Int)(h:-42535295865117307932921825928971026432<=X/\X<=42535295865117307932921825928971026432)(h':-42535295865117307932921825928971026432<=Y/\Y<=42535295865117307932921825928971026432) :
  IntKind.wrap .i64 ((X/18446744073709551616%18446744073709551616+Y/18446744073709551616%18446744073709551616+(X%18446744073709551616+Y%18446744073709551616+0)/18446744073709551616)%18446744073709551616)=(X+Y)/18446744073709551616:=by
 have a:=MN X Y;rw[a];obtain⟨z,b⟩:=aN ((X+Y)/18446744073709551616);have hzr:-9223372036854775808<=z/\z<9223372036854775808:=ak
 rw[<-b,IntKind.wrap_i64];omega
def Y5(X Y:Int):((decide (X/18446744073709551616<0) != decide (Y/18446744073709551616<0))||(decide ((X+Y)/18446744073709551616<0)==decide (X/18446744073709551616<0)))=true:=by
 by_cases a:X/18446744073709551616<0<;>by_cases b:Y/18446744073709551616<0
 ·have c:(X+Y)/18446744073709551616<0:=ak
  simp[a,b,c]
 ·simp[a,b]
 ·simp[a,b]
 ·have c:¬(X+Y)/18446744073709551616<0:=ak
  simp[a,b,c]
def JP(X Y:Int)(h:-42535295865117307932921825928971026432<=X/\X<=42535295865117307932921825928971026432)(l:-42535295865117307932921825928971026432<=Y/\Y<=42535295865117307932921825928971026432):Sq 313 [] [.agg (wd X),.agg (wd Y)] [] (.bI [.agg (wd (X+Y)),.bool true]):=by
 have c:IntKind.wrap .u64 (X/18446744073709551616)=(X/18446744073709551616)%18446744073709551616:=IntKind.wrap_u64 _;have d:IntKind.wrap .u64 (Y/18446744073709551616)=(Y/18446744073709551616)%18446744073709551616:=IntKind.wrap_u64 _;have g:=Me X Y;have e2:=Z9 X Y h l;have e:=Y5 X Y;obtain⟨p,a⟩:=aN (decide (X/18446744073709551616<0));obtain⟨q,f⟩:=aN (decide (Y/18446744073709551616<0));obtain⟨s,b⟩:=aN (decide ((X+Y)/18446744073709551616<0));rw[<-a,<-f,<-b]at e;simp only[wd];refine bp 50 2 [.cell 4 226,.tmp 5] mixed func313 ?_;simp only[go_sem,seval];refine aG.sem rfl ?_;with_reducible refine gM.xI (k:=126) (fn:=Tryz.f126) (i:=X%18446744073709551616) (j:=Y%18446744073709551616) (m:=0) ?_ func126 ?_ ?_ kZ kY ?_ ?_ ?_ ?_ ?_ ?_ ?_ ?_ ?_
 iterate 11 (first|rfl|omega)
 simp only[go_sem,seval,c,d];refine aG.sem rfl ?_;with_reducible refine gM.xI (k:=126) (fn:=Tryz.f126) (i:=X/18446744073709551616%18446744073709551616) (j:=Y/18446744073709551616%18446744073709551616) (m:=(X%18446744073709551616+Y%18446744073709551616+0)/18446744073709551616) ?_ func126 ?_ ?_ kZ kY ?_ ?_ ?_ ?_ ?_ ?_ ?_ ?_ ?_
 iterate 11 (first|rfl|omega)
 simp only[go_sem,seval,g,e2,<-a,<-f,<-b];cases p<;>cases q<;>cases s<;>(try(exact absurd e (by decide)))
 all_goals simp only[go_sem,seval,bne,beq_self_eq_true,Bool.not_true]
 all_goals(with_reducible and_intros)<;>first|exact .dq|omega|skip
 all_goals(rw[<-b,<-a];rfl)
def alB(h:Int)(h0:0<=h)(h1:h<4611686018427387904):Bc .i64 h 1=2*h:=by
 unfold Bc;have a:min (Int.toNat 1) (IntKind.bits .i64)=1:=by simp[IntKind.bits]
 rw[a,IntKind.wrap_i64];omega
def apr(h c:Int)(h0:0<=h)(h1:h<4611686018427387904)(hc:0<=c/\c<=1):ior .i64 (2*h) c=2*h+c:=by
 obtain⟨n,rfl⟩:∃n:Nat,h=n:=⟨h.toNat,by omega⟩
 obtain⟨m,rfl⟩:∃m:Nat,c=m:=⟨c.toNat,by omega⟩
 unfold ior;rw[BitVec.toNat_or,BitVec.toNat_ofInt,BitVec.toNat_ofInt];simp only[IntKind.bits];have a:((2*(n:Int))%((2^64:Nat):Int)).toNat=2^1*n:=ak
 have e2:((m:Int)%((2^64:Nat):Int)).toNat=m:=ak
 rw[a,e2,<-Nat.two_pow_add_eq_or_of_lt (by omega:m<2^1),IntKind.wrap_i64];omega
def alC(l:Int)(h0:0<=l):Bc .u64 l 1=l*2%18446744073709551616:=by
 unfold Bc;have a:min (Int.toNat 1) (IntKind.bits .u64)=1:=by simp[IntKind.bits]
 rw[a,IntKind.wrap_u64];rfl
def agj(l:Int)(a:0<=l):yG .u64 l 63=l/9223372036854775808:=by
 have:=Wb l.toNat 63 ak;rw[Int.toNat_of_nonneg a]at this;have e:((63:Nat):Int)=63:=rfl;rw[e]at this;rw[this];have e2:(2:Nat)^63=9223372036854775808:=by decide
 rw[e2];omega
def aad(s:Int):Bool:=decide (4611686018427387904<=s/18446744073709551616)
def NG:Nat->Int->Int
 | 0,s=>s
 |k+1,s=>if aad s then s else NG k (2*s)
def IT:Nat->Int->Bool
 | 0,_=>true
 |k+1,s=>if aad s then false else IT k (2*s)
theorem LJ:∀{k:Nat} {s:Int},IT k s=true->NG k s=s*2^k
 | 0,s,_=>by simp[NG]
 |k+1,s,h=>by
  simp only[IT]at h;split at h
  ·cases h
  ·rename_i a;simp only[NG,au a];rw[LJ h,Int.mul_comm 2 s,Int.mul_assoc,Int.pow_succ,Int.mul_comm 2]
theorem IU:∀{k:Nat} {s:Int},0<=s->IT k s=false->85070591730234615865843651857942052864<=s*2^k
 | 0,s,_,h=>by cases h
 |k+1,s,h0,h=>by
  simp only[IT]at h;split at h
  ·rename_i b;simp only[aad,bz]at b;have h3:1<=(2:Nat)^(k+1):=Nat.one_le_two_pow;have a:(1:Int)<=2^(k+1):=by
    have e:((2^(k+1):Nat):Int)=(2:Int)^(k+1):=by push_cast;rfl
    rw[<-e];omega
   have h2:s*1<=s*2^(k+1):=Int.mul_le_mul_of_nonneg_left a h0;omega
  ·have:=IU (k:=k) (s:=2*s) ak h;rw[Int.pow_succ,<-Int.mul_assoc,Int.mul_comm (s*2^k) 2,<-Int.mul_assoc];exact this
def Y3(s:Int)(h0:0<=s)(h1:s/18446744073709551616<4611686018427387904):2*(s/18446744073709551616)+s%18446744073709551616/9223372036854775808=2*s/18446744073709551616:=ak
def Y4(s:Int):s%18446744073709551616*2%18446744073709551616=2*s%18446744073709551616:=ak
def J2(X:Int)(k:Nat)(p:0<=X)(hk:k<100)(q:X<170141183460469231731687303715884105728):Sq 312 [] [.agg (wd X),.int .i64 k] [] (.bI [.agg (wd (NG k X)),.bool (IT k X)]):=by
 simp only[wd];refine bp 29 2 [.cell 4 226,.tmp 5] mixed func312 ?_;simp only[go_sem,seval];refine aF.sK (S:=Int) k [1,2,4] [80] (λi _=>[(6,.int .i64 i)]) (λ_ s=>[(48,.box [.int .i64 (s/18446744073709551616),.int .u64 (s%18446744073709551616)])]) (λi s=>(NG (k-i) s=NG k X/\IT (k-i) s=IT k X)/\0<=s/\s<170141183460469231731687303715884105728) X ⟨⟨rfl,rfl⟩,p,q⟩ ?_ ?_ ?_
 ·exact kG
 ·rintro i s r b h ⟨⟨h1,h2⟩,h3,h4⟩;obtain⟨m,t⟩:∃m,k-i=m+1:=⟨k-i-1,by omega⟩
  have c:k-(i+1)=m:=ak
  rw[t]at h1 h2;simp only[NG,IT]at h1 h2;cases e:aad s
  case true =>
   have d:decide (4611686018427387904<=s/18446744073709551616)=true:=e;rw[e,aq rfl]at h1 h2;rw[<-h1,<-h2];simp only[go_sem,seval,b,d]
  have d:decide (4611686018427387904<=s/18446744073709551616)=false:=e;have a:s/18446744073709551616<4611686018427387904:=su d;rw[e,au sT]at h1 h2;have n:=alB (s/18446744073709551616) ak a;have e2:=agj (s%18446744073709551616) ak;have f:0<=s%18446744073709551616/9223372036854775808/\s%18446744073709551616/9223372036854775808<=1:=ak
  have o:IntKind.wrap .i64 (s%18446744073709551616/9223372036854775808)=s%18446744073709551616/9223372036854775808:=gO ak ak;have j:=apr (s/18446744073709551616) (s%18446744073709551616/9223372036854775808) ak a f;have l:=alC (s%18446744073709551616) ak;rw[Y4]at l;rw[Y3 s h3 a]at j;simp only[go_sem,seval,b,d,n,e2,o,j,l,h];refine bg ?_;refine ah.jT (2*s) r ⟨⟨by rw[c];exact h1,by rw[c];exact h2⟩,by omega,by omega⟩ ?_;simp only[go_sem,seval]
 ·rintro s g ⟨⟨h1,h2⟩,h3,h4⟩;rw[Nat.sub_self]at h1 h2;simp only[NG,IT]at h1 h2;rw[<-h1,<-h2];simp only[go_sem,seval,g]
def adm:∀{k:Nat},k<=62->(2:Int)^k<=4611686018427387904/\1<=(2:Int)^k:=by
 intro k a;have h1:(2:Nat)^k<=2^62:=Nat.pow_le_pow_right (by decide) a;have h2:(2:Nat)^62=4611686018427387904:=by decide
 have h3:1<=(2:Nat)^k:=Nat.one_le_two_pow;have e:((2^k:Nat):Int)=(2:Int)^k:=by push_cast;rfl
 rw[<-e];omega
def abF{k:Nat}(b:k<=62):Bc .i64 1 (k:Int)=(2:Int)^k:=by
 have h:=adm b;unfold Bc;have a:min (Int.toNat (k:Int)) (IntKind.bits .i64)=k:=by simp[IntKind.bits];omega
 rw[a,Int.one_mul];exact gO ak ak
def Ip(X Y:Int)(H:0<=X)(hX:X<42535295865117307932921825928971026432)(hY:1<=Y)(hY2:Y<42535295865117307932921825928971026432)(I:X<Y*9223372036854775808):Sq 308 [] [.agg (wd X),.agg (wd Y)] [] (.bI [.int .i64 (X/Y),.agg (wd (X%Y))]):=by
 have g:=λk B=>J2 Y k ak B ak;have n:=λa b=>y5 a b;simp only[wd]at g n;simp only[wd];refine bp 42 2 [.tmp 4,.cell 5 226] mixed func308 ?_;simp only[go_sem,seval];refine aF.sK (S:=Int×Int) 63 [3,5,7] [64,96] (λi s=>[(8,.int .i64 ((62:Int)-i)),(6,.int .i64 s.1)]) (λ_ s=>[(128,.box [.int .i64 (s.2/18446744073709551616),.int .u64 (s.2%18446744073709551616)])])
  (λi s=>(0<=s.2/\s.2<Y*2^(63-i))/\s.1*Y+s.2=X/\0<=s.1) (0,X) ⟨⟨H,I⟩,by simp,by simp⟩ ?_ ?_ ?_
 ·exact kG
 ·rintro i ⟨q,r⟩ hi _ _ ⟨⟨h1,c⟩,h3,h4⟩;dsimp only at h1 c h3 h4;obtain⟨k,B⟩:∃k,62-i=k:=⟨_,rfl⟩
  have u:(62:Int)-(i:Int)=(k:Int):=ak
  have t:63-i=k+1:=ak
  have l:63-(i+1)=k:=ak
  have A:decide (0<=(k:Int))=true:=iy;have x:IntKind.wrap .i64 ((k:Int)-1)=(62:Int)-((i+1:Nat):Int):=fQ;have g:=g k ak;have f:=abF (k:=k) ak;have w:=adm (k:=k) ak;obtain⟨Q,j⟩:=aN ((2:Int)^k);rw[t,Int.pow_succ,<-j]at c;rw[<-j]at f w;obtain⟨Z,e⟩:=aN (Y*Q);have c:r<2*Z:=by rw[e];rw[<-Int.mul_assoc]at c;omega
  have hrX:r<=X:=by
   have:=Int.mul_nonneg h4 (show 0<=Y by omega);omega
  rw[u];cases o:IT k Y
  ·have m:=IU ak o;rw[<-j,<-e]at m;rw[o]at g;refine sc (a2 A x) g ?_;refine bg ?_;refine ah.jT (q,r) hi ⟨⟨h1,by rw[l,<-j,<-e];dsimp only;omega⟩,h3,h4⟩ ?_;simp only[go_sem,seval]
  have z:=LJ o;rw[<-j,<-e]at z;rw[o,z]at g;have n:=n r Z;refine sc A g ?_;refine sc aS n ?_;by_cases v:r<Z
  ·have d:decide (r<Z)=true:=dY v;simp only[go_sem,seval,d,x];refine bg ?_;refine ah.jT (q,r) hi ⟨⟨h1,by rw[l,<-j,<-e];exact v⟩,h3,h4⟩ ?_;simp only[go_sem,seval]
  have d:decide (r<Z)=false:=iA v;have hZ0:0<=Z:=by rw[e];exact Int.mul_nonneg ak ak
  have y:=akR Z ak;have p:=JP r (-Z) ak ak;have C:r + -Z=r-Z:=ak
  have e2:(q+Q)*Y+(r-Z)=X:=by rw[Int.add_mul,Int.mul_comm Q Y,<-e];omega
  have D:q+Q<9223372036854775808:=by
   rcases Int.lt_or_le (q+Q) 9223372036854775808 with h|h
   ·exact h
   ·have:=Int.mul_le_mul_of_nonneg_right h (show 0<=Y by omega);rw[Int.mul_comm 9223372036854775808 Y]at this;omega
  have E:IntKind.wrap .i64 (q+Q)=q+Q:=gO ak D;rw[C]at p;simp only[wd]at y p;refine sc d y ?_;refine sc (a3 f E x) p ?_;refine bg ?_;refine ah.jT (q+Q,r-Z) hi ⟨⟨by dsimp only;omega,by rw[l,<-j,<-e];dsimp only;omega⟩,e2,by dsimp only;omega⟩ ?_;simp only[go_sem,seval]
 ·rintro⟨q,r⟩ _ ⟨⟨h1,c⟩,h3,h4⟩;dsimp only at h1 c h3 h4;rw[Nat.sub_self,Int.pow_zero,Int.mul_one]at c;have F:X/Y=q:=by
   rw[<-h3,Int.add_comm,Int.add_mul_ediv_right _ _ ak,Int.ediv_eq_zero_of_lt h1 c];omega
  have G:X%Y=r:=by
   rw[<-h3,Int.add_comm,Int.add_mul_emod_self_right,Int.emod_eq_of_lt h1 c]
  rw[F,G];have J:(62:Int)-((63:Nat):Int) = -1:=ak
  rw[J];simp only[go_sem,seval]
  and_intros<;>first|exact .dq|omega|skip
def bk(long:Bool)(a:aY):Int:=if long then -a.aL else a.aL
def Dr{long:Bool}{a b:aY}:ahead long a b=true↔bk long a<bk long b\/(bk long a=bk long b/\a.src<b.src):=by
 unfold ahead bk;cases long<;>simp only[ff,iM,if_true,if_false]<;>split<;>simp<;>omega
def Kk(long:Bool):Ord (ahead long):=by
 have h:∀a b,ahead long a b=false↔¬(bk long a<bk long b\/(bk long a=bk long b/\a.src<b.src)):=λa b=>by rw[<-Dr,Bool.not_eq_true]
 refine⟨λx y c=>?_,λx y z h1 h2=>?_⟩
 ·rw[Dr]at c;rw[h];omega
 ·rw[h]at *;omega
theorem TG(long:Bool)(x:aY)(out:List aY):∀k,k<=out.length->(∀j y,kpos long x out k<=j->j<k->out[j]?=some y->ahead long x y=true)/\∀y,0<kpos long x out k->out[kpos long x out k-1]?=some y->ahead long x y=false
 | 0,_=>⟨λj y e f=>by omega,λy h=>by simp[kpos]at h⟩
 |k+1,hk=>by
  have g:out[k]?=some (out.getD k ⟨0,0,0,0,0⟩):=by rw[getD_eq_getElem?_getD,fj ak];rfl
  simp only[kpos];split
  ·rename_i d;obtain⟨e,f⟩:=TG long x out k ak;refine⟨λj y a b c=>?_,f⟩;rcases dN j k with h|h
   ·exact e j y a h c
   ·obtain rfl:j=k:=ak
    rw[g]at c;obtain rfl:=Option.some.inj c;exact d
  ·rename_i d;refine⟨λj y a b=>by omega,λy _ c=>?_⟩;rw[Nat.add_sub_cancel,g]at c;obtain rfl:=Option.some.inj c;simpa using d
def aaN(long:Bool)(x:aY){out:List aY}(h:xH (ahead long) out):xH (ahead long) (He long x out)/\∀p,Rg (ahead long) p->(He long x out).filter p=(out++[x]).filter p:=by
 have f:=Kk long;obtain⟨o,q⟩:=TG long x out out.length (fS _);have hk:=MF long x out out.length;unfold He;generalize kpos long x out out.length=k at *;have n:∀y∈out.drop k,ahead long x y=true:=λy c=>by
  obtain⟨j,r,g⟩:=iW c;exact o j y r (dJ g) g
 refine⟨?_,λp s=>?_⟩
 ·unfold xH;rw[pairwise_append,kB];refine⟨h.sublist (take_sublist _ _),⟨λy c=>f.asy _ _ (n y c),h.sublist (drop_sublist _ _)⟩,λa m b e=>?_⟩;obtain⟨i,hi,g⟩:=kJ m;have d:ahead long x a=false:=by
   obtain⟨y,c⟩:=mm (l:=out) (i:=k-1) ak;exact f.Wv a y x (h.UA f ak g c) (q y ak c)
  rcases mem_cons.1 e with rfl|e
  ·exact d
  ·exact f.Wv a x b d (f.asy _ _ (n b e))
 ·have:=yx s (A:=out.drop k) (B:=[x]) λa m b e=>by rw[gV.1 e];exact n a m
  rw[show out.take k++x::out.drop k=out.take k++([x]++out.drop k)from rfl,nK,this,<-nK,<-dz,mj]
theorem MU(long:Bool):∀(l out:List aY),xH (ahead long) out->xH (ahead long) (Bh long out l)/\∀p,Rg (ahead long) p->(Bh long out l).filter p=(out++l).filter p
 | [],out,h=>⟨h,λp _=>by rw[append_nil];rfl⟩
 |x::r,out,h=>by
  obtain⟨a,b⟩:=aaN long x h;obtain⟨c,d⟩:=MU long r _ a;refine⟨c,λp e=>?_⟩;rw[Bh,d p e,nK,b p e,<-nK,dz];rfl
def abM(long:Bool)(l:List aY):LQ (ahead long) l=vc long l:=
 agr (Kk long) (MU long l [] (by simp[xH])).1 λp a=>(MU long l [] (by simp[xH])).2 p a
