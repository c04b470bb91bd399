/- Parts. -/
import Derived.Test.YtfhdodehnpbeoaaGreatKC
import Derived.Test.YtfhdodehnpbeoaaGreatKB
import Derived.Test.YtfhdodehnpbeoaaGreatKD
set_option linter.all false
set_option maxHeartbeats 4000000
set_option maxRecDepth 16000
namespace Go.Proofs.YtfhdodehnpbeoaaGreat
open Go.Abs Tryz
open List hiding max
def BM(x:av):Sq 154 [] [.agg x.cells] [] (.bool x.ok):=by
 have a:=jZ x.no;have b:=bP x.state 1 3;have c:=bP x.need 0 4611686018427387904;simp only[av.cells];refine aX 16 1 [.tmp 2] mixed func154 ?_;refine s0 ?_;repeat' with_reducible first|apply And.intro|exact .dq|refine az.aP (by assumption) ?_|refine az.aP (a) ?_|refine az.aP (b) ?_|refine az.aP (c) ?_|refine mW (λh=>?_) λh=>?_|refine .id ?_|refine ah.eI aj ?_ ?_|exact aK|simp only[*,go_sem,seval]
 all_goals first
  | (simp_all[av.ok];done)
  | (rw[lZ];simp_all[av.ok,within,bA];omega)
def Aq(x:aF):Sq 155 [] [.agg x.cells] [] (.bool x.ok):=by
 have q:=bP x.no 1 8;have r:=jY x.cur;have s:=bP x.mult 1 1024;have t:=bP x.add 0 1073741824;have v:=bP x.set 0 1073741824;have w:=bP x.aS 0 1073741824;simp only[aF.cells];refine aX 42 1 [.tmp 2] mixed func155 ?_;refine s0 ?_;refine aG.w1 6 3 [1] [32] (λi _=>∀j<i,within (x.sh j) (-1073741824) 1073741824=true) (by intros;omega) ?_ ?_
 ·intro i _ k b z f;have b:decide ((i:Int)<6)=true:=b;have d:=WA x.sh k;have p:[D.I (x.sh 0),D.I (x.sh 1),D.I (x.sh 2),D.I (x.sh 3),D.I (x.sh 4),D.I (x.sh 5)]=[D.I x.s0,D.I x.s1,D.I x.s2,D.I x.s3,D.I x.s4,D.I x.s5]:=rfl;rw[p]at d;have a:(drop (6+i*1) x.cells).headD .undef=.I (x.sh i):=by
   rcases i with _| _| _| _| _| _|i<;>first|rfl|omega
  simp only[aF.cells]at a;have y:=bP (x.sh i) (-1073741824) 1073741824;refine sc (a3 b d a) y ?_;cases g:within (x.sh i) (-1073741824) 1073741824
  ·have o:x.RR=false:=by
    cases l:x.RR
    ·rfl
    ·rw[aF.RR,cg]at l;rw[l i (mem_range.2 k)]at g;cases g
   have e2:x.ok=false:=by simp[aF.ok,o]
   exact eo e2
  ·refine sm z ?_;refine ah.u k ?_ ?_
   ·intro j m;rcases dN j i with h|h
    ·exact f j h
    ·obtain rfl:j=i:=aj
     exact g
   ·exact iB
 ·intro _ c f;have c:decide ((6:Int)<6)=false:=c;have n:x.RR=true:=cg.2 λj m=>f j (mem_range.1 m);have e:x.ok=(within x.no 1 8&&within x.cur 0 2&&within x.mult 1 1024&&within x.add 0 1073741824&&within x.set 0 1073741824&&within x.aS 0 1073741824):=by simp[aF.ok,n]
  rw[e];clear f e n;repeat' with_reducible first|apply And.intro|exact .dq|refine az.aP (by assumption) ?_|refine az.aP (q) ?_|refine az.aP (r) ?_|refine az.aP (s) ?_|refine az.aP (t) ?_|refine az.aP (v) ?_|refine az.aP (w) ?_|refine mW (λh=>?_) λh=>?_|refine .id ?_|refine ah.eI aj ?_ ?_|exact aK|simp only[*,go_sem,seval]
  all_goals(simp_all;done)
section
variable{A:Type}{no:A->Int}{ok:A->Bool}{xs:List A}
def LF{i:Nat}(h:i<xs.length)(a:fQ no ok xs i=false):mL no ok xs=false:=by
 cases b:mL no ok xs
 ·rfl
 ·rw[cg.1 b i (mem_range.2 h)]at a;cases a
def Cp(h:∀i<xs.length,fQ no ok xs i=true):mL no ok xs=true:=cg.2 λi a=>h i (mem_range.1 a)
def DO{i:Nat}(b:∀j<i,fQ no ok xs j=true)(a:fQ no ok xs i=true):∀k<i+1,fQ no ok xs k=true:=λk hk=>by
 rcases dN k i with h|h
 ·exact b k h
 ·obtain rfl:k=i:=aj
  exact a
end
def gW(r:ay)(hl:r.small):Sq 59 [] [.agg r.cells] [] (.bool r.okB):=by
 obtain⟨l1,l2,l3⟩:=hl;simp only[ay.cells];refine aX 108 1 [.tmp 2] mixed func59 ?_;refine s0 ?_;refine aG.count r.ms.length [1] [32] (λi=>[(3,.I i)]) (λi=>[]) (λi=>∀j<i,fQ av.no av.ok r.ms j=true) sT ?_ ?_
 ·exact jh
 intro i u g;refine s0 ?_;refine bK.fP (λh=>?_) (λh=>?_)
 ·have b:i<r.ms.length:=aj
  have v:IntKind.wrap .i64 ((i:Int)+1)=((i+1:Nat):Int):=fU;have k:=aM (c:=av.cells) r.ms b;have f:=BM r.ms[i];have e0:=DO (i:=i) g;have e1:fQ av.no av.ok r.ms i=false->r.okB=false:=λp=>by simp[ay.okB,LF b p]
  have n:(i:Int)<(r.ms.length:Int):=aj
  simp only[av.cells]at k f;rcases Nat.eq_zero_or_pos i with rfl|hpos
  ·have hk:=lF av.no av.ok r.ms b aj;refine sm k ?_;repeat' with_reducible first|apply And.intro|exact .dq|refine az.aP (by assumption) ?_|refine az.aP (f) ?_|refine mW (λh=>?_) λh=>?_|refine .id ?_|refine ah.eI aj ?_ ?_|exact aK|simp only[*,go_sem,seval]
   all_goals exact Mr
  ·obtain⟨j,rfl⟩:∃j,i=j+1:=⟨i-1,by omega⟩
   have l:j<r.ms.length:=aj
   have o:IntKind.wrap .i64 (((j+1:Nat):Int)-1)=(j:Int):=fU;have hk:=lE av.no av.ok r.ms b aj;have d:=aM (c:=av.cells) r.ms l;have m:(j:Int)<(r.ms.length:Int):=aj
   simp only[av.cells]at d;simp only[Nat.add_sub_cancel]at hk;refine sm k ?_;repeat' with_reducible first|apply And.intro|exact .dq|refine az.aP (by assumption) ?_|refine az.aP (f) ?_|refine mW (λh=>?_) λh=>?_|refine .id ?_|refine ah.eI aj ?_ ?_|exact aK|simp only[*,go_sem,seval,d,qO]
   all_goals exact Mr
 have q:=Cp (λj (l:j<r.ms.length)=>g j aj);clear g;refine s0 ?_;refine aG.count r.ns.length [1] [32] (λi=>[(4,.I i)]) (λi=>[]) (λi=>∀j<i,fQ aF.no aF.ok r.ns j=true) sT ?_ ?_
 ·exact jh
 intro i u g;refine s0 ?_;refine bK.fP (λh=>?_) (λh=>?_)
 ·have b:i<r.ns.length:=aj
  have v:IntKind.wrap .i64 ((i:Int)+1)=((i+1:Nat):Int):=fU;have k:=aM (c:=aF.cells) r.ns b;have f:=Aq r.ns[i];have e0:=DO (i:=i) g;have e1:fQ aF.no aF.ok r.ns i=false->r.okB=false:=λp=>by simp[ay.okB,LF b p]
  have n:(i:Int)<(r.ns.length:Int):=aj
  simp only[aF.cells]at k f;rcases Nat.eq_zero_or_pos i with rfl|hpos
  ·have hk:=lF aF.no aF.ok r.ns b aj;refine sm k ?_;repeat' with_reducible first|apply And.intro|exact .dq|refine az.aP (by assumption) ?_|refine az.aP (f) ?_|refine mW (λh=>?_) λh=>?_|refine .id ?_|refine ah.eI aj ?_ ?_|exact aK|simp only[*,go_sem,seval]
   all_goals exact Mr
  ·obtain⟨j,rfl⟩:∃j,i=j+1:=⟨i-1,by omega⟩
   have l:j<r.ns.length:=aj
   have o:IntKind.wrap .i64 (((j+1:Nat):Int)-1)=(j:Int):=fU;have hk:=lE aF.no aF.ok r.ns b aj;have d:=aM (c:=aF.cells) r.ns l;have m:(j:Int)<(r.ns.length:Int):=aj
   simp only[aF.cells]at d;simp only[Nat.add_sub_cancel]at hk;refine sm k ?_;repeat' with_reducible first|apply And.intro|exact .dq|refine az.aP (by assumption) ?_|refine az.aP (f) ?_|refine mW (λh=>?_) λh=>?_|refine .id ?_|refine ah.eI aj ?_ ?_|exact aK|simp only[*,go_sem,seval,d,qO]
   all_goals exact Mr
 have s:=Cp (λj (l:j<r.ns.length)=>g j aj);clear g;refine s0 ?_;refine aG.count r.xs.length [1] [32] (λi=>[(5,.I i)]) (λi=>[]) (λi=>∀j<i,fQ aD.a aD.ok r.xs j=true) sT ?_ ?_
 ·exact jh
 intro i u g;refine s0 ?_;refine bK.fP (λh=>?_) (λh=>?_)
 ·have b:i<r.xs.length:=aj
  have v:IntKind.wrap .i64 ((i:Int)+1)=((i+1:Nat):Int):=fU;have k:=aM (c:=aD.cells) r.xs b;have f:=xA r.xs[i];have e0:=DO (i:=i) g;have e1:fQ aD.a aD.ok r.xs i=false->r.okB=false:=λp=>by simp[ay.okB,LF b p]
  have n:(i:Int)<(r.xs.length:Int):=aj
  simp only[aD.cells]at k f;rcases Nat.eq_zero_or_pos i with rfl|hpos
  ·have hk:=lF aD.a aD.ok r.xs b aj;refine sm k ?_;repeat' with_reducible first|apply And.intro|exact .dq|refine az.aP (by assumption) ?_|refine az.aP (f) ?_|refine mW (λh=>?_) λh=>?_|refine .id ?_|refine ah.eI aj ?_ ?_|exact aK|simp only[*,go_sem,seval]
   all_goals exact Mr
  ·obtain⟨j,rfl⟩:∃j,i=j+1:=⟨i-1,by omega⟩
   have l:j<r.xs.length:=aj
   have o:IntKind.wrap .i64 (((j+1:Nat):Int)-1)=(j:Int):=fU;have hk:=lE aD.a aD.ok r.xs b aj;have d:=aM (c:=aD.cells) r.xs l;have m:(j:Int)<(r.xs.length:Int):=aj
   simp only[aD.cells]at d;simp only[Nat.add_sub_cancel]at hk;refine sm k ?_;repeat' with_reducible first|apply And.intro|exact .dq|refine az.aP (by assumption) ?_|refine az.aP (f) ?_|refine mW (λh=>?_) λh=>?_|refine .id ?_|refine ah.eI aj ?_ ?_|exact aK|simp only[*,go_sem,seval,d,qO]
   all_goals exact Mr
 have t:=Cp (λj (l:j<r.xs.length)=>g j aj);clear g;refine s0 ?_;have e:r.okB=true:=by simp[ay.okB,q,s,t]
 rw[e]
def fu(r:ay)(n:Int)(q:r.small):Sq 15 [] [.agg r.cells,.I n] [] (.bD [.agg (aU r n).cells,.bool (bE r n)]):=by
 obtain⟨l1,l2,l3⟩:=q;simp only[ay.cells];refine aX 28 2 [.cell 4 52,.tmp 5] mixed func15 ?_;refine s0 ?_;refine aG.w1 r.ns.length 6 [1,2,4] [48,80] (λi _=>∀j (b:j<r.ns.length),j<i->r.ns[j].no≠n) (by intros;omega) ?_ ?_
 ·intro i _ m k s d;have o:=aM (c:=aF.cells) r.ns m;have hlt:(i:Int)<(r.ns.length:Int):=aj
  simp only[aF.cells]at o |-;refine sm (a2 k o) ?_;refine aV ?_;cases p:r.ns[i].no==n
  ·have a:r.ns[i].no≠n:=su p;refine sm s ?_;refine ah.u m ?_ ?_
   ·intro j b hji;rcases dN j i with h|h
    ·exact d j b h
    ·obtain rfl:j=i:=aj
     exact a
   ·exact iB
  ·have a:r.ns[i].no=n:=su p;obtain⟨f,g⟩:=nj (z:=aF.zero) m d a;have e:aU r n=r.ns[i]:=f;have e2:bE r n=true:=by simp[bE,g]
   rw[e,e2];refine sm o ?_;exact RS
 ·intro _ l d;obtain⟨f,g⟩:=kY (z:=aF.zero) (λj b=>d j b b);have e:aU r n=aF.zero:=f;have e2:bE r n=false:=by simp[bE,g]
  rw[e,e2];simp only[go_sem,seval,l,aF.cells,aF.zero]
def afB(p:aE):within p.aQ (-1099511627776) 1099511627776=vJ p:=by
 rw[lZ];simp[within,vJ]
def ab5(j:Nat)(p:jk):-p.q*(p.i.mult*p.i.sh j)=qF j p:=by rw[qF,Int.mul_assoc]
def Lr(r:ay)(w c:Int)(qs:List aE)(hr:r.small)(hq:qs.length<2^30):Sq 175 [] [.agg r.cells,.I w,.I c,.sl 4 (qs.map aE.cells)] [] (.bD [.agg (AA r w c qs),.I (uu r w c qs)]):=by
 have h2:=gW r hr;have h5:=λn=>fu r n hr;have U:=oP [];simp only[ay.cells]at h2 h5 |-;refine aX 115 4 [.cell 8 50,.tmp 9] mixed func175 ?_;refine sc aK h2 ?_;cases V:r.okB
 ·have e:IW r qs=14:=by simp[IW,V]
  have O:uu r w c qs=14:=by simp[uu,e]
  have e2:AA r w c qs=gA [] 0:=by simp[AA,O]
  rw[O,e2,U];exact iB
 refine s0 ?_;refine aG.w1 qs.length 11 [1,2,3,4,8,10] [80,144,176] (λi _=>∀j (t:j<qs.length),j<i->vJ qs[j]=true) (by intros;omega) ?_ ?_
 ·intro i _ l J q C;have F:=aM (c:=aE.cells) qs l;have hv:=jj qs[i].aQ (-1099511627776) 1099511627776;rw[afB]at hv;simp only[aE.cells]at F;refine sc (a2 J F) hv ?_;cases H:vJ qs[i]
  ·have:qs.all vJ=false:=by
    cases hc:qs.all vJ
    ·rfl
    ·rw[cg.1 hc _ (dH l)]at H;cases H
   have e:IW r qs=3:=by simp[IW,V,this]
   have O:uu r w c qs=3:=by simp[uu,e]
   have e2:AA r w c qs=gA [] 0:=by simp[AA,O]
   rw[O,e2,U];exact iB
  ·refine sm q ?_;refine ah.u l ?_ ?_
   ·intro j t hji;rcases dN j i with h|h
    ·exact C j t h
    ·obtain rfl:j=i:=aj
     exact H
   ·exact iB
 intro _ g C;have D:qs.all vJ=true:=cg.2 λp hp=>by
  obtain⟨j,t,rfl⟩:=mem_iff_getElem.1 hp;exact C j t t
 have hE:IW r qs=0:=by simp[IW,V,D]
 have aa:=EX (w:=w) (c:=c) hE;have hpl:=zF r w c qs;have e2:uu r w c qs=if mU (pq r w c qs)then 1 else 0:=by simp[uu,hE]
 simp only[AA,e2];clear e2 C;have hz:=oP (pq r w c qs);refine sm g ?_;clear g;refine aG.wu 6 [1,2,3,4,8,10] [80,144] (λi=>[(12,.I i)]) (λi=>[(176,.box (gA (pq r w c qs) i))]) (λi=>∀j<i,bA (kN (pq r w c qs) j)=true) (by intros;omega) ?_ ?_ ?_
 ·exact gH hz
 ·intro j _ t K ac C;have K:decide ((j:Int)<6)=true:=K;have s:=XF aa j aj;have o:=Hs (pq r w c qs) t;obtain⟨B,Y⟩:=aL (gA (pq r w c qs) j);have hBl:B.length=6:=by rw[Y];rfl
  have y:∀d∈gA (pq r w c qs) (j+1),mh d=true:=by simp[gA,kJ,mh]
  have f:∀d∈B,mh d=true:=by rw[Y];simp[gA,kJ,mh]
  rw[<-Y]at o |-;refine sm K ?_;refine aG.wv qs.length [1,2,3,4,8,10,12] [80,144,176] (λi=>[(14,.I i),(13,.ref 1504)]) (λi=>[(1504,.own 2 (sC ((pq r w c (qs.take i)).map (qF j))))]) ?_ ?_ ?_
  ·simp only[go_sem,seval]<;>simp[sC,pq,iJ f,qt f]
  ·intro i _ l J q _;have F:=aM (c:=aE.cells) qs l;have m:=KU r w c qs l;have hlen:=zF r w c (qs.take i);have hlt:(qs.take i).length=i:=by simp;omega
   have X:=h5 qs[i].inst;obtain⟨x,M⟩:=aL (aU r qs[i].inst);have T:bE r qs[i].inst=true->x.ok=true:=λh=>by rw[M];exact x9 V h
   have R:=cg.1 D qs[i] (dH l);have hwl:(sC ((pq r w c (qs.take i)).map (qF j))).length<=i:=by simp[sC];omega
   have hlI:(i:Int)<(qs.length:Int):=aj
   simp only[KT,<-M]at m;rw[<-M]at X;simp only[aE.cells]at F;simp only[aF.cells]at X;refine sc (a2 J F) X ?_;cases z:bE r qs[i].inst
   ·simp only[z,dU,iI,if_false]at m;refine sm (a2 z q) ?_;refine aV ?_;refine ah.v l ?_;simp only[go_sem,seval,m]<;>simp[iJ f,qt f]
   cases N:qs[i].who==w
   ·simp only[z,N,dU,cz,iI,if_false]at m;refine sm (a4 F z N q) ?_;refine aV ?_;refine ah.v l ?_;simp only[go_sem,seval,m]<;>simp[iJ f,qt f]
   cases W:x.cur==c
   ·simp only[z,N,W,Bool.and_false,cz,iI,if_false]at m;refine sm (a5 F z N W q) ?_;refine aV ?_;refine ah.v l ?_;simp only[go_sem,seval,m]<;>simp[iJ f,qt f]
   simp only[z,N,W,Bool.and_self,if_true]at m;have Q:=T z;obtain⟨⟨m1,m2⟩,-⟩:=qq Q;have ab:=Fv Q j;simp only[vJ,cU,iN,gP]at R;have hsa:=ahF ⟨x,qs[i].aQ⟩ t;have r1:=iK (a:=x.mult) (b:=x.sh j) (A:=1024) (B:=1073741824) aj ab;have r1:-1099511627776<=x.mult*x.sh j/\x.mult*x.sh j<=1099511627776:=r1;have w1:IntKind.wrap .i64 (0-qs[i].aQ) = -qs[i].aQ:=fU;have w2:IntKind.wrap .i64 (x.mult*x.sh j)=x.mult*x.sh j:=gx aj aj;have ht:=sV (-qs[i].aQ) (x.mult*x.sh j) ⟨by omega,by omega⟩ ⟨by omega,by omega⟩;have hF:-qs[i].aQ*(x.mult*x.sh j)=qF j ⟨x,qs[i].aQ⟩:=ab5 j ⟨x,qs[i].aQ⟩;rw[hF]at ht;simp only[wd]at ht;have E:(drop (6+j*1) x.cells).headD .undef=.I (x.sh j):=by
    rcases j with _| _| _| _| _| _|j<;>first|rfl|omega
   simp only[aF.cells]at E;refine sc (a5 F z N W (a4 q w1 E w2)) ht ?_;refine aV ?_;refine ah.v l ?_;simp only[go_sem,seval,m]<;>simp[wd,sC,iJ f,qt f]
  ·intro _ g _;have m:=qI ((pq r w c qs).map (qF j)) (by simp;omega) s.1;have G:=qH (kN (pq r w c qs) j);have e:aC ((pq r w c qs).map (qF j))=kN (pq r w c qs) j:=rfl;rw[e,s.2,au rfl]at m;obtain⟨S,Z⟩:=aL (kN (pq r w c qs) j);rw[<-Z]at m G o;have L:bA S=true->∀k<j+1,bA (kN (pq r w c qs) k)=true:=λM k Q=>by
    rcases dN k j with h|h
    ·exact C k h
    ·obtain rfl:k=j:=aj
     rw[<-Z];exact M
   have P:bA S=false->mU (pq r w c qs)=true:=λM=>by
    simp only[mU,any_eq_true,mem_range];exact⟨j,t,by rw[<-Z,M];rfl⟩
   simp only[wd]at m G;simp only[go_sem,seval,g,eU];refine sl aK m ?_;refine az.aP G ?_;cases l:bA S
   ·have H:=P l;simp only[go_sem,seval,l,H,gA,kJ]
   ·simp only[go_sem,seval]at o;refine sm (a3 l o ac) ?_;refine aV ?_;refine ah.u t (L l) ?_;refine s0 ?_;exact iJ y
 ·intro _ g C;have g:decide ((6:Int)<6)=false:=g;have H:mU (pq r w c qs)=false:=by
   simp only[mU,any_eq_false,mem_range];intro k Q;simp[C k Q]
  simp only[go_sem,seval,g,H,gA,kJ]
def Ls(r:ay)(w c:Int)(qs:List aE)(hr:r.small)(hq:qs.length<2^30):Sq 73 [] [.agg r.cells,.I w,.I c,.sl 4 (qs.map aE.cells)] [] (.bD [.I (uQ r w c qs),.I (xq r w c qs)]):=by
 have K:=Lr r w c qs hr hq;have V:=λn=>fu r n hr;simp only[ay.cells]at K V |-;refine aX 114 4 [.tmp 8,.tmp 9] mixed func73 ?_;refine sc aK K ?_;by_cases k:uu r w c qs=0
 case neg =>
  have Y:(uu r w c qs != 0)=true:=su k;have Z:xq r w c qs=uu r w c qs:=by simp[xq,k]
  have e2:uQ r w c qs=0:=by simp[uQ,k]
  have G:AA r w c qs=gA [] 0:=by simp[AA,k]
  rw[Z,e2,G,oP];exact eo Y
 obtain⟨b,t⟩:=OH k;have P:=EX (w:=w) (c:=c) b;have hpl:=zF r w c qs;have z:r.okB=true/\qs.all vJ=true:=by
  unfold IW at b;split at b
  ·rename_i h1;split at b
   ·rename_i o;exact⟨h1,o⟩
   ·cases b
  ·cases b
 have e2:xq r w c qs=if bA (Gy (pq r w c qs))then 0 else 1:=by simp[xq,k]
 have G:uQ r w c qs=if bA (Gy (pq r w c qs))then Gy (pq r w c qs)else 0:=by simp[uQ,k]
 have U:AA r w c qs=[.I (kN (pq r w c qs) 0),.I (kN (pq r w c qs) 1),.I (kN (pq r w c qs) 2),.I (kN (pq r w c qs) 3),.I (kN (pq r w c qs) 4),.I (kN (pq r w c qs) 5)]:=by simp[AA,k,gA,kJ]
 rw[e2,G,U];clear e2 G U K;have u:=Kz t;obtain⟨T,s⟩:=aL (Gy (pq r w c qs));rw[<-s];simp only[Gy]at s;obtain⟨L,N⟩:=aL (kN (pq r w c qs));rw[<-N]at u s |-;refine sm k ?_;refine aG.wv 6 [1,2,3,4,10] [80,176] (λi=>[(13,.I i),(12,.I (wC L i))]) (λi=>[]) ?_ ?_ ?_
 ·simp only[go_sem,seval]<;>simp[wC]
 ·intro i _ e g d _;have g:decide ((i:Int)<6)=true:=g;have Q:=WA L e;refine sm (a3 g Q d) ?_;refine aV ?_;refine ah.v e ?_;simp only[go_sem,seval,wC]
 intro _ j _;have j:decide ((6:Int)<6)=false:=j;have O:=Hv (f:=L) 6 u;obtain⟨M,hM⟩:=aL (wC L 6);rw[<-hM]at O s |-;have W:=zM M aj;simp only[wd]at W;refine sc j W ?_;refine aG.wv qs.length [1,2,3,4] [80] (λi=>[(15,.I i),(14,.ref 1552)]) (λi=>[(1552,.own 2 (sC (M::(pq r w c (qs.take i)).map CB)))]) ?_ ?_ ?_
 ·simp only[go_sem,seval]<;>simp[sC,wd,pq]
 ·intro i _ e g d _;have C:=aM (c:=aE.cells) qs e;have a:=KU r w c qs e;have hlen:=zF r w c (qs.take i);have hlt:(qs.take i).length=i:=by simp;omega
  have J:=V qs[i].inst;obtain⟨x,S⟩:=aL (aU r qs[i].inst);have F:bE r qs[i].inst=true->x.ok=true:=λh=>by rw[S];exact x9 z.1 h
  have E:=cg.1 z.2 qs[i] (dH e);have hwl:(sC (M::(pq r w c (qs.take i)).map CB)).length<=i+1:=by simp[sC];omega
  have hlI:(i:Int)<(qs.length:Int):=aj
  simp only[KT,<-S]at a;rw[<-S]at J;simp only[aE.cells]at C;simp only[aF.cells]at J;refine sc (a2 g C) J ?_;cases l:bE r qs[i].inst
  ·simp only[l,dU,iI,if_false]at a;refine sm (a2 l d) ?_;refine aV ?_;refine ah.v e ?_;exact eo a
  cases m:qs[i].who==w
  ·simp only[l,m,dU,cz,iI,if_false]at a;refine sm (a4 C l m d) ?_;refine aV ?_;refine ah.v e ?_;exact eo a
  cases H:x.cur==c
  ·simp only[l,m,H,Bool.and_false,cz,iI,if_false]at a;refine sm (a5 C l m H d) ?_;refine aV ?_;refine ah.v e ?_;exact eo a
  simp only[l,m,H,Bool.and_self,if_true]at a;have hk:=F l;obtain⟨-,g1,g2⟩:=qq hk;simp only[vJ,cU,iN,gP]at E;have w1:IntKind.wrap .i64 (0-qs[i].aQ) = -qs[i].aQ:=fU;have R:=sV (max qs[i].aQ (-qs[i].aQ)) x.add ⟨by omega,by omega⟩ ⟨by omega,by omega⟩;have hF:max qs[i].aQ (-qs[i].aQ)*x.add=CB ⟨x,qs[i].aQ⟩:=rfl;rw[hF]at R;simp only[wd]at R;refine sc (a5 C l m H (a2 d w1)) R ?_;refine aV ?_;refine ah.v e ?_;simp only[go_sem,seval,a]<;>simp[wd,sC]
 ·intro _ j _;have X:∀n∈M::(pq r w c qs).map CB,-1208925819614629174706176<=n/\n<=1208925819614629174706176:=by
   intro n D;rcases mem_cons.1 D with rfl|D
   ·omega
   ·obtain⟨p,hp,rfl⟩:=mem_map.1 D;exact Jh (P p hp)
  have a:=qI (M::(pq r w c qs).map CB) (by simp;omega) (λn D=>Bh (X n D) aj);have o:=zV (B:=1208925819614629174706176) X;rw[<-s]at a o;simp only[length_cons,qO]at o;have y:xK T=true:=Bh (B:=1208925819614629174706176*(((pq r w c qs).length+1:Nat):Int)) o aj;have q:=qH T;rw[y,au rfl]at a;simp only[wd]at a q;simp only[go_sem,seval,j,eU];refine sl aK a ?_;refine az.aP q ?_;cases e:bA T<;>simp only[go_sem,seval,e]<;>simp
