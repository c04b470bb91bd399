/- Parts. -/
import Derived.Test.YtpepnkihgjjpmaaGreatKI
import Derived.Test.YtpepnkihgjjpmaaGreatKJ
set_option linter.all false
set_option maxHeartbeats 4000000
set_option maxRecDepth 16000
namespace Go.Proofs.YtpepnkihgjjpmaaGreat
open Go.Abs Tryz
def YA(q n:Int)(p:aB):oH q n p=(p.inst==n&&decide (gm q 0*p.aO<0))/\(oH q n p=true -> -gm q 0*p.aO=max p.aO (-p.aO)):=by
 have c:(gm q 0 = -1/\q<0)\/(gm q 0=0/\q=0)\/(gm q 0=1/\0<q):=by unfold gm;repeat' split<;>omega
 rcases c with⟨h,b⟩| ⟨h,b⟩| ⟨h,b⟩<;>rw[h]<;>refine⟨?_,λa=>?_⟩
 ·rw[oH,nJ];simp;omega
 ·simp[oH]at a;omega
 ·rw[oH,nJ];simp;omega
 ·simp[oH]at a;omega
 ·rw[oH,nJ];simp;omega
 ·simp[oH]at a;omega
theorem Zm(b:aH)(w n k:Int)(hb:b.small)(hq:b.qs.length<2^20):Sq 123 [] [.agg b.cells,.agg [.int .i64 w,.int .i64 n],.int .i64 k] [.own 3 ((jt b w n k).map cj.cells)] (.bI [.ref 0,.int .i64 (iR b w n k)]):=by
 have c1:=tA b hb;have c2:=Oh b w n hb;have c3:=lg (posOf w n b.qs).aO 0;simp only[aH.cells,aB.cells]at c1 c2 |-;refine bp 109 3 [.tmp 6,.tmp 7] mixed func123 ?_;refine sc aS c1 ?_;cases E:b.okB
 ·have e:iR b w n k=14:=by simp[iR,E]
  simp only[go_sem,seval,jt,e]<;>simp
 by_cases k1:k<0
 ·have G:decide (k<0)=true:=dY k1;have e:iR b w n k=3:=by
   have:within k 0 1099511627776=false:=by simp[within];omega
   simp[iR,E,this]
  simp only[go_sem,seval,G,jt,e]<;>simp
 have G:decide (k<0)=false:=iA k1;by_cases k2:1099511627776<k
 ·have Y:decide (1099511627776<k)=true:=dY k2;have e:iR b w n k=3:=by
   have:within k 0 1099511627776=false:=by simp[within];omega
   simp[iR,E,this]
  simp only[go_sem,seval,G,Y,jt,e]<;>simp
 have Y:decide (1099511627776<k)=false:=iA k2;have b2:within k 0 1099511627776=true:=by simp[within];omega
 have e:iR b w n k=if ay (iU (posOf w n b.qs).aO n b.qs)<k then 13 else 0:=by simp[iR,E,b2]
 have D:=λp C=>CF (BU E p C);simp only[jt];rw[e];obtain⟨Q,hQ⟩:=aN ((posOf w n b.qs).aO);rw[<-hQ]at c3 c2 |-;refine sc (a2 G Y) c2 ?_;refine sc aS c3 ?_;have hσ:gm Q 0 = -1\/gm Q 0=0\/gm Q 0=1:=by
  unfold gm;repeat' split
  all_goals omega
 have P:=YA Q n;obtain⟨σ,ag⟩:=aN (gm Q 0);rw[<-ag]at hσ P |-;have wσ:IntKind.wrap .i64 (0-σ) = -σ:=fQ;refine aF.wv b.qs.length [2,4,9,36,37] [64,80,560,608] (λi=>[(38,.I i),(10,.ref 976),(11,.ref 1104),(12,.I (ay (iU Q n (b.qs.take i))))]) (λi=>[(976,.own 1 (ints (sP Q n (b.qs.take i)))),(1104,.own 1 (ints (iU Q n (b.qs.take i))))]) ?_ ?_ ?_
 ·simp only[go_sem,seval]<;>simp[sP,iU,pick,ints,ay]
 ·intro i _ j g o _;obtain⟨x,S,z,-⟩:=oc (c:=aB.cells) b.qs j;have C:=D _ (dS j);have u:ints (sP Q n (b.qs.take (i+1)))=_:=fK (oH Q n) aB.who j;have t:ints (iU Q n (b.qs.take (i+1)))=_:=fK (oH Q n) (λp=>max p.aO (-p.aO)) j;have a:iU Q n (b.qs.take (i+1))=iU Q n (b.qs.take i)++(if oH Q n b.qs[i]then[max b.qs[i].aO (-b.qs[i].aO)]else[]):=by
   rw[jU j,iU,iU,pick,pick,List.flatMap_append,List.flatMap_singleton]
  have M:=bN (oH Q n) aB.who (b.qs.take i);have N:=bN (oH Q n) (λp=>max p.aO (-p.aO)) (b.qs.take i);have hlt:(b.qs.take i).length=i:=by rw[fZ];omega
  have ai:=qO (B:=1099511627776) (by decide) (l:=iU Q n (b.qs.take i)) (jN λp C=>by have:=D p (List.mem_of_mem_take C);omega);rw[<-S]at C u t a;obtain⟨o1,o2⟩:=P x;have wm:IntKind.wrap .i64 (σ*x.aO)=σ*x.aO:=by
   rcases hσ with h|h|h<;>rw[h]<;>rw[gO ak ak]
  have al:IntKind.wrap .i64 (-σ*x.aO) = -σ*x.aO:=by
   rcases hσ with h|h|h<;>rw[h]<;>rw[gO ak ak]
  simp only[aB.cells]at z;have M:(sP Q n (b.qs.take i)).length<=i:=by unfold sP;omega
  have N:(iU Q n (b.qs.take i)).length<=i:=by unfold iU;omega
  obtain⟨W,J⟩:=aN (sP Q n (b.qs.take i));obtain⟨V,H⟩:=aN (iU Q n (b.qs.take i));have u:ints (sP Q n (b.qs.take (i+1)))=ints W++(if oH Q n x then[[.I x.who]]else[]):=by rw[u,J];rfl
  have t:ints (iU Q n (b.qs.take (i+1)))=ints V++(if oH Q n x then[[.I (max x.aO (-x.aO))]]else[]):=by rw[t,H];rfl
  rw[<-H]at a ai N |-;rw[<-J]at M |-
  by_cases U:oH Q n x=true
  ·rw[aq U]at u t a;have o2:=o2 U;rw[o1,bQ]at U;obtain⟨T,q2⟩:=U;have aj:ay (iU Q n (b.qs.take (i+1)))=ay V+max x.aO (-x.aO):=by rw[a,pJ]
   have wa:IntKind.wrap .i64 (ay V+max x.aO (-x.aO))=ay V+max x.aO (-x.aO):=gO ak ak;have wq:IntKind.wrap .i64 (max x.aO (-x.aO))=max x.aO (-x.aO):=gO ak ak;simp only[go_sem,seval,g,z,T,q2,wm,wσ,al,o2,wq,wa,az,o];refine bg ?_;refine ah.v j ?_;exact dL (a3 u t aj)
  ·have qf:oH Q n x=false:=su U;rw[qf]at u t a o1;simp only[iM,if_false,List.append_nil]at u t a;cases T:x.inst==n
   ·refine sm (a4 g z T o) ?_;refine bg ?_;refine ah.v j ?_;exact dL (a3 u t a)
   ·rw[T,cm]at o1;simp only[go_sem,seval,g,z,T,wm,<-o1,o];refine bg ?_;refine ah.v j ?_;exact dL (a3 u t a)
 intro _ y _;rw[eu];have s:(sP Q n b.qs).length=(iU Q n b.qs).length:=vW _ _ _ _;have ad:(iU Q n b.qs).length<=b.qs.length:=bN _ _ _;have h128:=wK E;have A:∀x∈iU Q n b.qs,0<=x/\x<=1099511627776:=jN λp C=>by have:=D p C;omega
 obtain⟨ns,O⟩:=aN (iU Q n b.qs);obtain⟨ws,R⟩:=aN (sP Q n b.qs);rw[<-O]at s ad A |-;rw[<-R]at s |-;clear O R e c1 c2;by_cases X:ay ns<k
 ·have d:decide (ay ns<k)=true:=dY X;simp only[go_sem,seval,y,d,aq X]<;>simp
 have d3:decide (ay ns<k)=false:=iA X;have c4:=LP k ns ak;have ae:=jV k ns;have hE:gZ k ns=0:=by
  rw[Eg];have hg:iP k ns=0:=by
   have h1:right ns=true:=bL.2 λx S=>by rw[aP];have:=A x S;omega
   have h2:sQ ns=true:=bL.2 λx S=>by have:=A x S;simp;omega
   have h3:bB k=true:=by rw[aP];omega
   simp only[iP,G,h1,h2,h3,au (by omega:¬ 1024<ns.length)];rfl
  rw[aq hg];split
  ·rw[aq ak]
  ·rfl
 rw[hE]at c4;simp only[au X];obtain⟨ps,af⟩:=aN (bA k ns);rw[<-af]at c4 ae |-;refine sl (a2 y d3) c4 ?_;simp only[go_sem,seval,az];refine⟨λr hr d hd=>?_,?_⟩
 ·obtain⟨v,_,rfl⟩:=List.mem_map.1 hr;obtain rfl:=gV.1 hd;trivial
 refine aF.wv ps.length [10,89,90] [976,1344] (λi=>[(91,.I i),(16,.ref 1712)]) (λi=>[(1712,.own 3 ((pQ (oD ws ps) i).map cj.cells))]) ?_ ?_ ?_
 ·simp only[go_sem,seval,mw]<;>simp
 ·intro i _ j g o _;have K:i<ws.length:=ak
  have z:=ints_at ps j;have ac:=ints_at ws K;have Z:ps.getD i 0=ps[i]:=by simp[j]
  have aa:ws.getD i 0=ws[i]:=by simp[K]
  have F:=ji (oD ws ps) i;have ab:=lX (f:=oD ws ps) (m:=1) (λi=>by unfold oD;split<;>simp) i;obtain⟨L,hL⟩:=aN (pQ (oD ws ps) i);rw[<-hL]at F ab |-;simp only[oD,Z,aa]at F;have hlw:(i:Int)<(ws.length:Int):=ak
  have hlp:(i:Int)<(ps.length:Int):=ak
  by_cases q:0<ps[i]
  ·have d:decide (0<ps[i])=true:=dY q;rw[aq q]at F;simp only[go_sem,seval,az,g,z,d,ac,o];refine bg ?_;refine ah.v j ?_;exact gY F
  ·have d:decide (0<ps[i])=false:=iA q;rw[au q,List.append_nil]at F;simp only[go_sem,seval,az,g,z,d,o];refine bg ?_;refine ah.v j ?_;exact dL F
 ·intro _ y _;simp only[go_sem,seval,az,y,ES]
