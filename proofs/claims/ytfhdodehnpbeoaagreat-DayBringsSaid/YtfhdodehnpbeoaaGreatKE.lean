/- Parts. -/
import Derived.Test.YtfhdodehnpbeoaaGreatKC
import Derived.Test.YtfhdodehnpbeoaaGreatKB
import Derived.Test.YtfhdodehnpbeoaaGreatKD
set_option linter.all false
set_option maxHeartbeats 4000000
set_option maxRecDepth 16000
namespace Go.Proofs.YtfhdodehnpbeoaaGreat
open Go.Abs Tryz
open List hiding lt
def Xv{l:List Int}(h:∀n∈l,jB n)(hl:l.length<2^58):(∀n∈l,xK n=true)/\xK (aC l)=true:=by
 have b:∀n∈l,-9223372036854775808<=n/\n<=9223372036854775808:=λn a=>by have:=h n a;exact⟨this.1,by have:=this.2;omega⟩
 refine⟨λn a=>Bh (b n a) aj,?_⟩;exact Bh (B:=9223372036854775808*(l.length:Int)) (zV b) aj
def addN(l:List Int):Int:=if bA (aC l)then aC l else 0
def fX(l:List Int)(h:∀n∈l,jB n)(hl:l.length<2^30):Sq 74 [] [.sl 1 (ints l)] [] (.bD [.I (addN l),.bool (bA (aC l))]):=by
 obtain⟨m,o⟩:=Xv h aj;have f:=qI l aj m;have j:=qH (aC l);rw[o,au rfl]at f;simp only[wd]at f j;refine aX 33 1 [.tmp 2,.tmp 3] mixed func74 ?_;simp only[go_sem,seval,aA];refine aG.wv l.length [0] [] (λi=>[(5,.I i),(4,.ref 352)]) (λi=>[(352,.own 2 (sC (l.take i)))]) ?_ ?_ ?_
 ·simp only[go_sem,seval]<;>simp[sC]
 ·intro i _ c d g _;have k:=zM l[i] (h _ (dH c));have a:sC (l.take (i+1))=sC (l.take i)++[wd l[i]]:=by rw[j7 c];simp only[sC,jv,map_cons,map_nil]
  have b:(sC (l.take i)).length=i:=by simp[sC];omega
  simp only[wd]at k;simp only[go_sem,seval,aA,d,ints_at l c];refine sc (a2 g b) k ?_;refine aV ?_;refine ah.v c ?_;simp only[go_sem,seval,a]<;>simp[wd]
 ·intro _ e _;simp only[go_sem,seval,aA,e,eU];refine sl aK f ?_;refine az.aP j ?_;simp only[go_sem,seval,addN]
def kn(x:aI):Sq 161 [] [.agg x.cells] [] (.bool x.right):=by
 simp only[aI.cells];refine aX 40 1 [.tmp 2] mixed func161 ?_;refine s0 ?_;repeat' with_reducible first|apply And.intro|exact .dq|refine az.aP (by assumption) ?_|refine mW (λh=>?_) λh=>?_|refine .id ?_|refine ah.eI aj ?_ ?_|exact aK|simp only[*,go_sem,seval]
 all_goals(try simp only[bO,gP]at *)
 all_goals(unfold aI.right;simp_all[owned];try(intros;omega))
def BH(x:aI):Sq 81 [] [.agg x.cells] [] (.I x.floor):=by
 have hr:=kn x;simp only[aI.cells]at hr |-;refine aX 15 1 [.tmp 2] mixed func81 ?_;refine s0 ?_;repeat' with_reducible first|apply And.intro|exact .dq|refine az.aP (by assumption) ?_|refine az.aP (hr) ?_|refine mW (λh=>?_) λh=>?_|refine .id ?_|refine ah.eI aj ?_ ?_|exact aK|simp only[*,go_sem,seval]
 all_goals(unfold aI.floor;simp[*])
def M6(x y:aI):Sq 162 [] [.agg x.cells,.agg y.cells] [] (.bool (x.less y)):=by
 simp only[aI.cells];refine aX 30 2 [.tmp 4] mixed func162 ?_;refine s0 ?_;repeat' with_reducible first|apply And.intro|exact .dq|refine az.aP (by assumption) ?_|refine mW (λh=>?_) λh=>?_|refine .id ?_|refine ah.eI aj ?_ ?_|exact aK|simp only[*,go_sem,seval]
 all_goals(unfold aI.less;simp_all)
def xz(x y:aI):Sq 57 [] [.agg x.cells,.agg y.cells] [] (.bool (x.same y)):=by
 simp only[aI.cells];refine aX 24 2 [.tmp 4] mixed func57 ?_;refine s0 ?_;repeat' with_reducible first|apply And.intro|exact .dq|refine az.aP (by assumption) ?_|refine mW (λh=>?_) λh=>?_|refine .id ?_|refine ah.eI aj ?_ ?_|exact aK|simp only[*,go_sem,seval]
 all_goals(simp_all[aI.same])
def jo(l:bu)(a:aI)(hl:l.bs.length<2^30):Sq 18 [] [.agg l.cells,.agg a.cells] [] (.I (gw a l.bs)):=by
 simp only[bu.cells,aI.cells];refine aX 27 2 [.tmp 4] mixed func18 ?_;refine s0 ?_;refine aG.w1 l.bs.length 5 [2,3] [48,64] (λi _=>gw a (l.bs.drop i)=gw a l.bs) rfl ?_ ?_
 ·intro i _ h f j b;have d:=aM (c:=bY.cells) l.bs h;obtain⟨z,n⟩:=aL (l.bs[i]);have k:=xz z.br a;have hlt:(i:Int)<(l.bs.length:Int):=aj
  rw[dI h]at b;rw[<-n]at d b;simp only[gw]at b;have e:VU a z=z.br.same a:=by simp[VU,aI.same,bY.br]
  rw[e]at b;simp only[aI.cells,bY.cells,bY.br]at k d;refine sc (a2 f d) k ?_;cases m:aI.same ⟨z.kind,z.who,z.cur⟩ a
  ·rw[show z.br.same a=false from m]at b;simp only[iI,if_false]at b;refine sm j ?_;refine ah.u h b ?_;exact iB
  ·rw[show z.br.same a=true from m,au rfl]at b;simp only[go_sem,seval,d,<-b];exact RS
 ·intro _ g b;simp only[jJ,gw]at b;simp only[go_sem,seval,g,<-b]
def tO(a:List Int)(k:Int):Bool:=a.any (· == k)
def D5(c:Int)(a:List Int)(bs:List bY):List Int:=(bs.filter λb=>tO a b.kind&&b.cur==c).map bY.sum
def aar(c:Int)(a:List Int)(bs:List bY){i:Nat}(h:i<bs.length):D5 c a (bs.take (i+1))=if tO a bs[i].kind&&bs[i].cur==c then D5 c a (bs.take i)++[bs[i].sum]else D5 c a (bs.take i):=by
 simp only[D5];rw[j7 h,pL,jv];cases b:(tO a bs[i].kind&&bs[i].cur==c)<;>simp[filter,b]
def U0(c:Int)(a:List Int)(bs:List bY):(D5 c a bs).length<=bs.length:=by
 simp only[D5,qO];exact length_filter_le _ _
def adr{c:Int}{e:List Int}{bs:List bY}(h:∀b∈bs,b.gq):∀n∈D5 c e bs,jB n:=by
 intro n a;simp only[D5,mem_map,mem_filter]at a;obtain⟨b,⟨d,_⟩,rfl⟩:=a;exact(h b d).2.2.2
def EI(a:List Int)(k:Int){i:Nat}(h:i<a.length):tO (a.take (i+1)) k=(tO (a.take i) k||a[i]==k):=by
 simp only[tO];rw[j7 h,any_append];simp
def Lj(l:bu)(c:Int)(a:List Int)(hl:l.bs.length<2^30)(j:a.length<2^30)(hr:∀b∈l.bs,b.gq):Sq 163 [] [.agg l.cells,.I c,.sl 1 (ints a)] [] (.bD [.I (addN (D5 c a l.bs)),.bool (bA (aC (D5 c a l.bs)))]):=by
 have htl:=U0 c a l.bs;have t:=fX (D5 c a l.bs) (adr hr) aj;simp only[bu.cells];refine aX 65 3 [.tmp 6,.tmp 7] mixed func163 ?_;simp only[go_sem,seval,aA];refine aG.wv l.bs.length [1,2,3] [64] (λi=>[(9,.I i),(8,.ref 976)]) (λi=>[(976,.own 1 (ints (D5 c a (l.bs.take i))))]) ?_ ?_ ?_
 ·simp only[go_sem,seval]<;>simp[D5,ints]
 ·intro i _ n q g _;have m:=aM (c:=bY.cells) l.bs n;have f:=aar c a l.bs n;have hlen:=U0 c a (l.bs.take i);have hlt:(l.bs.take i).length=i:=by simp;omega
  have hli:(i:Int)<(l.bs.length:Int):=aj
  obtain⟨z,u⟩:=aL (l.bs[i]);rw[<-u]at m f;simp only[bY.cells]at m;simp only[go_sem,seval,q,aA];refine aG.wv a.length [1,2,3,8,9] [64,976] (λk=>[(11,.I k),(10,.bool (tO (a.take k) z.kind))]) (λ_=>[]) ?_ ?_ ?_
  ·simp only[go_sem,seval]<;>simp[tO]
  ·intro k _ j d o _;have e:=EI a z.kind j;cases s:tO (a.take k) z.kind
   ·rw[s,Bool.false_or]at e;simp only[go_sem,seval,aA,d,ints_at a j,m,o];refine aV ?_;refine ah.v j ?_;exact eo e
   ·rw[s,Bool.true_or]at e;simp only[go_sem,seval,aA,d,ints_at a j,m,o];refine aV ?_;refine ah.v j ?_;exact eo e
  ·intro _ d _;cases h:tO a z.kind
   ·simp only[h,dU,iI,if_false]at f;simp only[go_sem,seval,aA,d,eU,h,g];refine aV ?_;refine ah.v n ?_;exact eo f
   cases p:z.cur==c
   ·simp only[h,p,Bool.and_false,iI,if_false]at f;simp only[go_sem,seval,aA,d,eU,h,m,p,g];refine aV ?_;refine ah.v n ?_;exact eo f
   simp only[h,p,Bool.and_self,if_true]at f;simp only[go_sem,seval,aA,d,eU,h,m,p,g];refine aV ?_;refine ah.v n ?_;simp only[go_sem,seval,f]<;>simp[ints]
 ·intro _ r _;simp only[go_sem,seval,aA,r,eU];exact X6 aK t
def ab0{bs:List bY}{i:Nat}(b:∀j<i,tP bs j=true)(a:tP bs i=true):∀k<i+1,tP bs k=true:=λk hk=>by
 rcases dN k i with h|h
 ·exact b k h
 ·obtain rfl:k=i:=aj
  exact a
def Yd{bs:List bY}(h:nI bs=true)(c:Int):D5 c [1,2,3,4,5,6] bs=l6 c bs/\∀n∈l6 c bs,bA n=true:=by
 have g:∀b∈bs,o8 b=true:=λb a=>by
  obtain⟨i,f,rfl⟩:=mem_iff_getElem.1 a;have:=cg.1 h i (mem_range.2 f);rcases Nat.eq_zero_or_pos i with rfl|hp
  ·rwa[qu f]at this
  ·obtain⟨j,rfl⟩:∃j,i=j+1:=⟨i-1,by omega⟩
   rw[oq f,cU]at this;exact this.1
 refine⟨?_,λn k=>?_⟩
 ·unfold D5 l6;congr 1;refine filter_congr λb a=>?_;have:=g b a;simp only[o8,cU]at this;have d:=this.1;unfold aI.right at d;split at d
  ·cases d
  ·rename_i l;simp only[bY.br]at l;have e:tO [1,2,3,4,5,6] b.kind=true:=by
    simp only[tO,any_cons,any_nil,Bool.or_eq_true,fE];omega
   rw[e,cz]
 ·simp only[l6,mem_map,mem_filter]at k;obtain⟨b,⟨a,_⟩,rfl⟩:=k;have:=g b a;simp only[o8,cU]at this;exact this.2.1
def Pe{l:List Int}(h:∀n∈l,bA n=true):right l=true:=cg.2 h
def ny(l:bu)(K:l.bs.length<2^30)(hr:∀b∈l.bs,b.gq):Sq 61 [] [.agg l.cells] [] (.bool l.okB):=by
 have y:=λc=>Lj l c [1,2,3,4,5,6] K sT hr;simp only[bu.cells,ints,map_cons,map_nil]at y |-;refine aX 80 1 [.tmp 2] mixed func61 ?_;rcases Int.lt_or_le l.last 0 with h0|h0
 ·have v:decide (l.last<0)=true:=su h0;have e:l.okB=false:=by simp[bu.okB];omega
  exact eo (a2 v e)
 have v:decide (l.last<0)=false:=su h0;refine sm v ?_;refine aG.count l.bs.length [1] [32] (λi=>[(3,.I i)]) (λi=>[]) (λi=>∀j<i,tP l.bs j=true) sT ?_ ?_
 ·exact jh
 intro i hi F;refine s0 ?_;refine bK.fP (λh=>?_) (λh=>?_)
 ·have f:i<l.bs.length:=aj
  have hw:IntKind.wrap .i64 ((i:Int)+1)=((i+1:Nat):Int):=fU;have A:=aM (c:=bY.cells) l.bs f;have w:=kn l.bs[i].br;have D:=gE l.bs[i].sum;have x:=BH l.bs[i].br;have e0:=ab0 (i:=i) F;have o:tP l.bs i=false->l.okB=false:=λt=>by simp[bu.okB,EO f t]
  simp only[bY.cells,aI.cells,bY.br]at A w x;clear y;rcases Nat.eq_zero_or_pos i with rfl|hpos
  ·have d:=qu f;simp only[o8,bY.br]at d;refine sm A ?_;repeat' with_reducible first|apply And.intro|exact .dq|refine az.aP (by assumption) ?_|refine az.aP (w) ?_|refine az.aP (D) ?_|refine az.aP (x) ?_|refine mW (λh=>?_) λh=>?_|refine .id ?_|refine ah.eI aj ?_ ?_|exact aK|simp only[*,go_sem,seval]
   all_goals first
    |omega
    |rfl
    | (refine e0 ?_;clear e0 o;rw[d];clear d;simp[bne, *];done)
    | (rw[o ?_];clear e0 o;rw[d];clear d;simp[bne, *];done)
  ·obtain⟨j,rfl⟩:∃j,i=j+1:=⟨i-1,by omega⟩
   have G:j<l.bs.length:=aj
   have hw1:IntKind.wrap .i64 (((j+1:Nat):Int)-1)=(j:Int):=fU;have d:=oq f;simp only[o8,bY.br]at d;have s:=aM (c:=bY.cells) l.bs G;have E:=M6 l.bs[j].br l.bs[j+1].br;simp only[bY.cells,aI.cells,bY.br]at s E;refine sm A ?_;repeat' with_reducible first|apply And.intro|exact .dq|refine az.aP (by assumption) ?_|refine az.aP (w) ?_|refine az.aP (D) ?_|refine az.aP (x) ?_|refine az.aP (E) ?_|refine mW (λh=>?_) λh=>?_|refine .id ?_|refine ah.eI aj ?_ ?_|exact aK|simp only[*,go_sem,seval,s,qO]
   all_goals first
    |omega
    |rfl
    | (refine e0 ?_;clear e0 o;rw[d];clear d;simp[bne, *];done)
    | (rw[o ?_];clear e0 o;rw[d];clear d;simp[bne, *];done)
 have B:=xm (λj (G:j<l.bs.length)=>F j aj);have r:∀c:Int,qm l.bs c=(bA (aC (l6 c l.bs))&&addN (l6 c l.bs)==0):=λc=>by
  have:=(Yd B c).2;simp only[qm,oF,pY,addN,Pe this,if_true,cz];cases bA (aC (l6 c l.bs))<;>simp
 refine s0 ?_;refine aG.w1 3 5 [1] [32] (λi _=>∀c<i,qm l.bs (c:Nat)=true) sT ?_ ?_
 ·intro c _ J a C p;have a:decide ((c:Int)<3)=true:=a;have q:=y c;rw[(Yd B c).1]at q;have z:=r c;have m:qm l.bs c=false->l.okB=false:=λt=>by
   obtain rfl|rfl|rfl:c=0\/c=1\/c=2:=aj
   ·have:qm l.bs 0=false:=t;simp[bu.okB,this]
   ·have:qm l.bs 1=false:=t;simp[bu.okB,this]
   ·have:qm l.bs 2=false:=t;simp[bu.okB,this]
  refine sl a q ?_;cases g:bA (aC (l6 c l.bs))
  ·simp only[go_sem,seval,g,m (by rw[z,g];rfl)]
  cases n:addN (l6 c l.bs)==0
  ·simp only[go_sem,seval,g,bne,n,m (by rw[z,g,n];rfl)]
  refine sm (a4 g dV n C) ?_;refine ah.u J ?_ ?_
  ·intro k d;rcases dN k c with h|h
   ·exact p k h
   ·obtain rfl:k=c:=aj
    rw[z,g,n];rfl
  ·exact iB
 ·intro _ a p;have a:decide ((3:Int)<3)=false:=a;have H:qm l.bs 0=true:=p 0 aj;have g:qm l.bs 1=true:=p 1 aj;have n:qm l.bs 2=true:=p 2 aj;have e:l.okB=true:=by simp[bu.okB,B,H,g,n,h0]
  exact eo (a2 a e)
def wH(w n:Int):Sq 158 [] [.agg [.I w,.I n]] [] (.bool (vv w n)):=by
 have a:=jZ w;have b:=bP n 1 8;refine aX 11 1 [.tmp 2] mixed func158 ?_;refine s0 ?_;repeat' with_reducible first|apply And.intro|exact .dq|refine az.aP (by assumption) ?_|refine az.aP (a) ?_|refine az.aP (b) ?_|refine mW (λh=>?_) λh=>?_|refine .id ?_|refine ah.eI aj ?_ ?_|exact aK|simp only[*,go_sem,seval]
 all_goals(simp_all[vv])
def Io(a b c d:Int):Sq 159 [] [.agg [.I a,.I b],.agg [.I c,.I d]] [] (.bool (MU a b c d)):=by
 refine aX 24 2 [.tmp 4] mixed func159 ?_;refine s0 ?_;repeat' with_reducible first|apply And.intro|exact .dq|refine az.aP (by assumption) ?_|refine mW (λh=>?_) λh=>?_|refine .id ?_|refine ah.eI aj ?_ ?_|exact aK|simp only[*,go_sem,seval]
 all_goals(simp only[MU];simp_all)
def xE(t:aT):Sq 260 [] [.agg t.cells] [] (.bool (within t.aQ 1 1048576&&within t.aS 1 1073741824)):=by
 have a:=bP t.aQ 1 1048576;have b:=bP t.aS 1 1073741824;simp only[aT.cells];refine aX 11 1 [.tmp 2] mixed func260 ?_;refine s0 ?_;repeat' with_reducible first|apply And.intro|exact .dq|refine az.aP (by assumption) ?_|refine az.aP (a) ?_|refine az.aP (b) ?_|refine mW (λh=>?_) λh=>?_|refine .id ?_|refine ah.eI aj ?_ ?_|exact aK|simp only[*,go_sem,seval]
 all_goals(simp_all)
def Ar(t:aT):Sq 160 [] [.agg t.cells] [] (.bool t.okB):=by
 have a:=xE t;have b:=jZ t.lg;have c:=jZ t.iH;have d:=bP t.inst 1 8;simp only[aT.cells]at a |-;refine aX 27 1 [.tmp 2] mixed func160 ?_;refine s0 ?_;repeat' with_reducible first|apply And.intro|exact .dq|refine az.aP (by assumption) ?_|refine az.aP (a) ?_|refine az.aP (b) ?_|refine az.aP (c) ?_|refine az.aP (d) ?_|refine mW (λh=>?_) λh=>?_|refine .id ?_|refine ah.eI aj ?_ ?_|exact aK|simp only[*,go_sem,seval]
 all_goals first
  | (simp_all[aT.okB,vv,bne];done)
  | (rw[lZ];simp_all[aT.okB,vv,bne])
def WR(a b:aT):iR a b = !decide (b.no<=a.no):=by
 rw[lZ];simp[iR]
def ZQ{n:Int}{l:List aE}(h:∀p∈l,p.gq):∀q∈fB n l,jB q:=by
 intro q a;simp only[fB,mem_map,mem_filter]at a;obtain⟨p,⟨b,_⟩,rfl⟩:=a;exact(h p b).2.2.1
def V1{n:Int}{l:List aE}(h:nQ aE.okB lC l=true):rz n l=(bA (aC (fB n l))&&addN (fB n l)==0):=by
 have hr:right (fB n l)=true:=cg.2 λq a=>by
  simp only[fB,mem_map,mem_filter]at a;obtain⟨p,⟨c,_⟩,rfl⟩:=a;obtain⟨i,b,rfl⟩:=mem_iff_getElem.1 c;have:=Qc h b;simp only[aE.okB,within,cU,bO]at this;refine bf.2 ?_;omega
 simp only[rz,oF,pY,addN,hr,if_true,cz];cases bA (aC (fB n l))<;>simp
def mV(b:aJ)(hl:b.small)(hr:∀p∈b.qs,p.gq):Sq 60 [] [.agg b.cells] [] (.bool b.okB):=by
 obtain⟨hl1,hl2⟩:=hl;have hA:=λn=>fX (fB n b.qs) (ZQ hr) (by have:=Co n b.qs;omega);have hN:=bP b.next 0 1099511627776
 have o:within b.next 0 1099511627776=(!decide (b.next<0)&&!decide (1099511627776<b.next)):=by rw[lZ];simp[within]
 simp only[aJ.cells];refine aX 156 1 [.tmp 2] mixed func60 ?_;refine sc aK hN ?_;cases B:within b.next 0 1099511627776
 ·rw[o]at B;have e:b.okB=false:=by simp only[aJ.okB,B,Bool.and_false]
  exact eo e
 cases C:decide (128<(b.ts.length:Int))
 case true =>
  have e:b.okB=false:=by simp[aJ.okB,C]
  exact eo (a2 C e)
 have e:b.okB=(nQ aE.okB lC b.qs&&(nQ (ji b.next) iR b.ts&&qw b.qs)):=by
  rw[o]at B;simp only[aJ.okB,B,C,Bool.not_false,Bool.and_true]
 rw[e];clear e hN o;refine sm C ?_;refine aG.count b.qs.length [1] [32] (λi=>[(3,.I i)]) (λi=>[]) (λi=>∀j<i,pO aE.okB lC b.qs j=true) sT ?_ ?_
 ·exact jh
 intro i w t;refine s0 ?_;refine bK.fP (λh=>?_) (λh=>?_)
 ·have a:i<b.qs.length:=aj
  have J:IntKind.wrap .i64 ((i:Int)+1)=((i+1:Nat):Int):=fU;have d:=aM (c:=aE.cells) b.qs a;have s:=wH b.qs[i].who b.qs[i].inst;have x:=gE b.qs[i].cost;have L:=bP b.qs[i].aQ (-1099511627776) 1099511627776;have e0:=tB (i:=i) t;have e1:pO aE.okB lC b.qs i=false->(nQ aE.okB lC b.qs&&(nQ (ji b.next) iR b.ts&&qw b.qs))=false:=λA=>by simp[wX a A]
  simp only[aE.cells]at d;clear hA;rcases Nat.eq_zero_or_pos i with rfl|hpos
  ·have hk:=j8 (ok:=aE.okB) (lt:=lC) a;simp only[aE.okB]at hk;refine sm d ?_;repeat' with_reducible first|apply And.intro|exact .dq|refine az.aP (by assumption) ?_|refine az.aP (s) ?_|refine az.aP (x) ?_|refine az.aP (L) ?_|refine mW (λh=>?_) λh=>?_|refine .id ?_|refine ah.eI aj ?_ ?_|exact aK|simp only[*,go_sem,seval]
   all_goals exact Mr
  ·obtain⟨j,rfl⟩:∃j,i=j+1:=⟨i-1,by omega⟩
   have l:j<b.qs.length:=aj
   have K:IntKind.wrap .i64 (((j+1:Nat):Int)-1)=(j:Int):=fU;have hk:=jy (ok:=aE.okB) (lt:=lC) a;simp only[aE.okB,lC]at hk;have f:=aM (c:=aE.cells) b.qs l;have P:=Io b.qs[j].who b.qs[j].inst b.qs[j+1].who b.qs[j+1].inst;simp only[aE.cells]at f;refine sm d ?_;repeat' with_reducible first|apply And.intro|exact .dq|refine az.aP (by assumption) ?_|refine az.aP (s) ?_|refine az.aP (x) ?_|refine az.aP (L) ?_|refine az.aP (P) ?_|refine mW (λh=>?_) λh=>?_|refine .id ?_|refine ah.eI aj ?_ ?_|exact aK|simp only[*,go_sem,seval,f,qO]
   all_goals exact Mr
 have M:=q9 (λj (l:j<b.qs.length)=>t j aj);have m:=λn:Int=>V1 (n:=n) M;rw[M,cz];clear t;refine s0 ?_;refine aG.wu 8 [1] [32] (λi=>[(5,.I ((i:Int)+1))]) (λi=>[]) (λi=>∀j<i,rz ((j:Int)+1) b.qs=true) sT ?_ ?_ ?_
 ·exact jh
 ·intro c _ O _ _ E;obtain⟨n,H⟩:=aL ((c:Int)+1);have R:decide (n<=8)=true:=jw;have J:IntKind.wrap .i64 (n+1)=((c+1:Nat):Int)+1:=fU;rw[<-H];refine sm R ?_;refine aG.wv b.qs.length [1,5] [32] (λi=>[(7,.I i),(6,.ref 1696)]) (λi=>[(1696,.own 1 (ints (fB n (b.qs.take i))))]) ?_ ?_ ?_
  ·simp only[go_sem,seval]<;>simp[fB,ints]
  ·intro i _ w F z _;have d:=aM (c:=aE.cells) b.qs w;have hs:=Lc n b.qs w;have hlen:=Co n (b.qs.take i);have hlt:(b.qs.take i).length=i:=by simp;omega
   have hli:(i:Int)<(b.qs.length:Int):=aj
   simp only[aE.cells]at d;refine sm (a2 F d) ?_;refine aV ?_;cases N:b.qs[i].inst==n
   ·simp only[N,iI,if_false]at hs;refine sm z ?_;refine ah.v w ?_;exact eo hs
   ·simp only[N,if_true]at hs;simp only[go_sem,seval,z,aA,d];refine aV ?_;refine ah.v w ?_;simp only[go_sem,seval,hs]<;>simp[ints]
  ·intro _ G _;have k:rz n b.qs=false->qw b.qs=false:=λA=>by
    cases S:qw b.qs
    ·rfl
    ·have:=cg.1 S c (mem_range.2 O);rw[<-H,A]at this;cases this
   have q:=m n;simp only[go_sem,seval,G,eU];refine sl aK (hA n) ?_;cases r:bA (aC (fB n b.qs))
   ·have:=k (by rw[q,r];rfl);simp only[go_sem,seval,r,this,Bool.and_false]
   cases D:addN (fB n b.qs)==0
   ·have:=k (by rw[q,r,D];rfl);simp only[go_sem,seval,bne,r,D,this,Bool.and_false]
   refine sm (a4 dV r D J) ?_;refine ah.u O ?_ ?_
   ·intro j l;rcases dN j c with h|h
    ·exact E j h
    ·obtain rfl:j=c:=aj
     rw[<-H,q,r,D];rfl
   ·exact iB
 ·intro _ _ E;have y:qw b.qs=true:=cg.2 λj l=>E j (mem_range.1 l);rw[y,Bool.and_true];clear E y m hA;refine s0 ?_;refine aG.count b.ts.length [1] [32] (λi=>[(10,.I i)]) (λi=>[]) (λi=>∀j<i,pO (ji b.next) iR b.ts j=true) sT ?_ ?_
  ·exact jh
  intro i w t;refine s0 ?_;refine bK.fP (λh=>?_) (λh=>?_)
  ·have a:i<b.ts.length:=aj
   have J:IntKind.wrap .i64 ((i:Int)+1)=((i+1:Nat):Int):=fU;have d:=aM (c:=aT.cells) b.ts a;have s:=Ar b.ts[i];have x:=bP b.ts[i].no 1 b.next
   have e0:=tB (i:=i) t;have e1:pO (ji b.next) iR b.ts i=false->nQ (ji b.next) iR b.ts=false:=λA=>wX a A;have g:ji b.next b.ts[i]=(b.ts[i].okB&&within b.ts[i].no 1 b.next):=by rw[lZ];simp[ji,within]
   simp only[aT.cells]at d s;rcases Nat.eq_zero_or_pos i with rfl|hpos
   ·have hk:=j8 (ok:=ji b.next) (lt:=iR) a;rw[g]at hk;clear g;refine sm d ?_;repeat' with_reducible first|apply And.intro|exact .dq|refine az.aP (by assumption) ?_|refine az.aP (s) ?_|refine az.aP (x) ?_|refine mW (λh=>?_) λh=>?_|refine .id ?_|refine ah.eI aj ?_ ?_|exact aK|simp only[*,go_sem,seval]
    all_goals exact Mr
   ·obtain⟨j,rfl⟩:∃j,i=j+1:=⟨i-1,by omega⟩
    have l:j<b.ts.length:=aj
    have K:IntKind.wrap .i64 (((j+1:Nat):Int)-1)=(j:Int):=fU;have hk:=jy (ok:=ji b.next) (lt:=iR) a;rw[g,WR]at hk;clear g;have f:=aM (c:=aT.cells) b.ts l;simp only[aT.cells]at f;refine sm d ?_;repeat' with_reducible first|apply And.intro|exact .dq|refine az.aP (by assumption) ?_|refine az.aP (s) ?_|refine az.aP (x) ?_|refine mW (λh=>?_) λh=>?_|refine .id ?_|refine ah.eI aj ?_ ?_|exact aK|simp only[*,go_sem,seval,f,qO]
    all_goals exact Mr
  ·have Q:=q9 (λj (l:j<b.ts.length)=>t j aj);exact eo Q
structure aN where
 kind:Int
 who:Int
 cur:Int
 bT:Int
deriving DecidableEq
@[reducible] def aN.cells(x:aN):List D:=[.I x.kind,.I x.who,.I x.cur,.I x.bT]
def aN.br(x:aN):aI:=⟨x.kind,x.who,x.cur⟩
def aN.gq(x:aN):Prop:=jB x.kind/\jB x.who/\jB x.cur/\jB x.bT
def acc(k w c:Nat):List aI:=if aI.right ⟨(k:Int)+1,w,c⟩then[⟨(k:Int)+1,w,c⟩]else[]
def FW(k w:Nat)(i:Nat):List aI:=(range i).flatMap (acc k w)
def FY(k:Nat)(i:Nat):List aI:=(range i).flatMap λw=>FW k w 3
def Jd(i:Nat):List aI:=(range i).flatMap λk=>FY k 17
def gf:List aI:=Jd 6
def RX(k w i:Nat):(FW k w i).length<=i:=by
 have:=Gi (f:=acc k w) (m:=1) (λc=>by simp only[acc];split<;>simp) i;simpa[FW]using this
def RZ(k i:Nat):(FY k i).length<=3*i:=Gi (λw=>RX k w 3) i
def RY(i:Nat):(Jd i).length<=51*i:=Gi (λk=>RZ k 17) i
def Ej:gf.length<=306:=RY 6
def Fe:Sq 80 [] [.sl 1 [[.I 1],[.I 2],[.I 3],[.I 4],[.I 5],[.I 6]]] [.own 3 (gf.map aI.cells)] (.ref 0):=by
 obtain⟨e,f⟩:=aL ([1,2,3,4,5,(6:Int)]);have o:e.length=6:=by rw[f];rfl
 have B:([[.I 1],[.I 2],[.I 3],[.I 4],[.I 5],[.I 6]]:List (List D))=ints e:=by rw[f];rfl
 have t:∀i:Nat,i<6->tO e ((i:Int)+1)=true:=λi hi=>by
  rw[f];simp only[tO,any_cons,any_nil,Bool.or_eq_true,fE];omega
 rw[B];clear B f;refine aX 51 1 [.tmp 2] mixed func80 ?_;refine s0 ?_;refine aG.wv 6 [0] [] (λi=>[(4,.I ((i:Int)+1)),(3,.ref 800)]) (λi=>[(800,.own 3 ((Jd i).map aI.cells))]) ?_ ?_ ?_
 ·simp only[go_sem,seval]<;>simp[Jd]
 ·intro k _ E _ _ _;have A:decide ((k:Int)+1<=6)=true:=jw;have r:IntKind.wrap .i64 ((k:Int)+1+1)=((k+1:Nat):Int)+1:=fU;obtain⟨K,s⟩:=aL ((k:Int)+1);have l:Jd (k+1)=Jd k++FY k 17:=wA _ k;have hlen:=RY k;rw[<-s]at A r |-;simp only[go_sem,seval,A,aA,o];refine aG.wv 6 [0,3,4] [800] (λj=>[(6,.I j),(5,.bool (tO (e.take j) K))]) (λ_=>[]) ?_ ?_ ?_
  ·simp only[go_sem,seval]<;>simp[tO]
  ·intro j _ C a q _;have h:j<e.length:=aj
   have g:=EI e K h;have a:decide ((j:Int)<6)=true:=a;cases m:tO (e.take j) K
   ·rw[m,Bool.false_or]at g;simp only[go_sem,seval,aA,o,a,ints_at e h,q];refine aV ?_;refine ah.v C ?_;exact eo g
   ·rw[m,Bool.true_or]at g;simp only[go_sem,seval,aA,o,a,ints_at e h,q];refine aV ?_;refine ah.v C ?_;exact eo g
  intro _ a _;have a:decide ((6:Int)<6)=false:=a;have G:tO (e.take 6) K=true:=by rw[<-o,eU,s];exact t k E
  rw[G];simp only[go_sem,seval,aA,o,a];refine aG.wv 17 [0,4,5] [] (λj=>[(7,.I j),(3,.ref 800)]) (λj=>[(800,.own 3 ((Jd k++FY k j).map aI.cells))]) ?_ ?_ ?_
  ·simp only[go_sem,seval]<;>simp[FY]
  ·intro w _ F n x _;have n:decide ((w:Int)<=16)=true:=jw;have u:FY k (w+1)=FY k w++FW k w 3:=wA _ w;have hlw:=RZ k w;refine sm n ?_;refine aG.wv 3 [0,4,5,7] [] (λj=>[(8,.I j),(3,.ref 800)]) (λj=>[(800,.own 3 ((Jd k++FY k w++FW k w j).map aI.cells))]) ?_ ?_ ?_
   ·simp only[go_sem,seval]<;>simp[FW]
   ·intro c _ z b p _;have b:decide ((c:Int)<3)=true:=b;have d:FW k w (c+1)=FW k w c++acc k w c:=wA _ c;have hlc:=RX k w c;have y:=kn ⟨K,w,c⟩;simp only[aI.cells]at y;simp only[acc,<-s]at d;refine sc b y ?_;cases m:aI.right ⟨K,w,c⟩
    ·rw[m]at d;refine sm p ?_;refine ah.v z ?_;exact gH d
    ·rw[m]at d;simp only[go_sem,seval,p,ct];refine aV ?_;refine ah.v z ?_;simp only[go_sem,seval,d]<;>simp[aI.cells]
   ·intro _ b _;have b:decide ((3:Int)<3)=false:=b;refine sm (a2 b x) ?_;refine ah.v F ?_;exact gH u
  ·intro _ _ _;refine sm r ?_;refine ah.v E ?_;simp only[go_sem,seval,l]<;>simp
 ·intro _ _ _;simp only[go_sem,seval,gf]
def ON(x:aN):Bool:=x.br.right&&bA x.bT
def uR(l:List aN):Bool:=l.all ON
def Ff(l:List aN)(hl:l.length<2^40):Sq 177 [] [.sl 4 (l.map aN.cells)] [] (.bool (uR l)):=by
 refine aX 26 1 [.tmp 2] mixed func177 ?_;refine s0 ?_;refine aG.w1 l.length 3 [0] [] (λi _=>uR (l.drop i)=uR l) rfl ?_ ?_
 ·intro i _ g e h a;have b:=aM (c:=aN.cells) l g;obtain⟨x,m⟩:=aL (l[i]);have k:=kn x.br;have n:=gE x.bT;have hli:(i:Int)<(l.length:Int):=aj
  rw[dI g,<-m]at a;rw[<-m]at b;have o:ON x=(aI.right ⟨x.kind,x.who,x.cur⟩&&bA x.bT):=rfl;simp only[uR,all_cons,o]at a;simp only[aN.cells]at b;simp only[aI.cells,aN.br]at k;refine sc (a2 e b) k ?_;cases d:aI.right ⟨x.kind,x.who,x.cur⟩
  ·rw[d]at a;simp only[go_sem,seval,uR,<-a,dU]
  refine sc b n ?_;cases j:bA x.bT
  ·rw[d,j]at a;simp only[go_sem,seval,uR,<-a,dU,Bool.and_false]
  rw[d,j,Bool.and_self,cz]at a;refine sm h ?_;refine ah.u g a ?_;exact iB
 ·intro _ f a;rw[jJ]at a;simp only[go_sem,seval,f,<-a];rfl
def cr(a b:aI)(n:Int):List aN:=[⟨a.kind,a.who,a.cur,-(if bA n then n else 0)⟩,⟨b.kind,b.who,b.cur,if bA n then n else 0⟩]
def Q6(a b:aI)(n:Int):Sq 32 [] [.agg a.cells,.agg b.cells,.int .i64 n] [.own 4 ((cr a b n).map aN.cells)] (.ref 0):=by
 have d:=gE n;have e:bA n=true->IntKind.wrap .i64 (0-n) = -n:=λh=>by have:=bf.1 h;rw[gx aj aj];omega
 simp only[aI.cells];refine aX 18 3 [.tmp 6] mixed func32 ?_;refine sc aK d ?_;cases c:bA n
 ·simp only[go_sem,seval,cr,c]<;>simp;rfl
 ·simp only[go_sem,seval,cr,c,e c]<;>simp
def nK(a b:aI)(n:Int):Sq 32 [] [.agg a.cells,.agg b.cells,.int .i64 n] [] (.sl 4 ((cr a b n).map aN.cells)):=by
 refine Spec.frozen (Q6 a b n) [0] rfl ?_;intro r;rcases r with _|r<;>rfl
def ade:AE (λt=>if t=63 then 171 else if t=44 then 88 else if t=220 then 312 else t) (λk=>if k=359 then 373 else if k=340 then 360 else if k=309 then 341 else if k=310 then 342 else if k=253 then 311 else if k=127 then 257 else k) aN.cells 4 32 where
 r1:=tZ func359 func373
 r2:=tZ func340 func360
 r3:=tZ func309 func341
 r4:=tZ func310 func342
 r5:=tZ func253 func311
 r6:=tZ func127 func257
 t0:=cY
 t3:=cY
 t4:=cY
 tu:=cY
 ne:=cY
 nv:=cY
 sl:=auI
 el:=ajz
 pos:=aj
 len:=λ_=>rfl
 ok:=λx d a=>by simp only[aN.cells,mem_cons,not_mem_nil,or_false]at a;rcases a with rfl|rfl|rfl|rfl<;>simp[go_sem,seval,cE,gM,D.names]
 nm:=λ_=>rfl
 pl:=λx=>by simp only[go_sem,seval,aN.cells]
def RG(lt:aN->aN->Bool)(g:FuncId)(b:∀x y:aN,∃c:Int,Sq g [] [.agg (aN.cells x),.agg (aN.cells y)] [] (.I c)/\decide (c<0)=lt x y)(l:List (aN))(a:l.length<2^38) :
  Sq 257 [.own 4 (l.map aN.cells)] [.ref 0,.fn g []] [.own 4 ((DZ lt l).map aN.cells)] (.bD []):=zU ade lt g [] rfl (eq_true trivial) (λ_ _=>eq_true trivial) b l a
def VS(a:List Int)(k:Int)(hl:a.length<2^62):Sq 261 [] [.sl 1 (ints a),.I k] [] (.I (lT id k a)):=by
 refine aX 19 2 [.tmp 4] mixed func261 ?_;simp only[go_sem,seval,aA];refine aG.w1 a.length 8 [0,1,7] [] (λi _=>∀j (c:j<a.length),j<i->id a[j]≠k) (by intros;omega) ?_ ?_
 ·intro i _ m g o d;have hli:(i:Int)<(a.length:Int):=aj
  simp only[go_sem,seval,g,aA,ints_at a m];refine aV ?_;cases f:k==a[i]
  ·have b:id a[i]≠k:=λh=>by simp only[id]at h;rw[h]at f;simp at f
   refine sm o ?_;refine ah.u m ?_ ?_
   ·intro j c hji;rcases dN j i with h|h
    ·exact d j c h
    ·obtain rfl:j=i:=aj
     exact b
   ·exact iB
  ·have b:id a[i]=k:=by simp only[id];have:=KM f;omega
   obtain⟨n,e⟩:=nj (z:=(0:Int)) m d b;rw[e];exact iB
 ·intro _ l d;obtain⟨n,e⟩:=kY (z:=(0:Int)) (λj c=>d j c c);rw[e];exact eo l
theorem zH{A:Type}{no:A->Int}{n:Int}:∀{xs:List A},decide (0<=lT no n xs)=xs.any (λx=>no x==n)
 | []=>by simp[lT]
 |x::r=>by
  have a:=zH (no:=no) (n:=n) (xs:=r);rw[lZ,decide_eq_true_iff]at a |-;rw[any_cons,Bool.or_eq_true,<-a,fE];simp only[lT];split
  ·simp[*]
  ·rename_i b;split
   ·exact⟨λh=>by omega,λh=>by rcases h with h|h;exact(b h).elim;omega⟩
   ·exact⟨λ_=>.inr aj,λh=>by omega⟩
def w7(a:List Int)(k:Int)(b:a.length<2^62):Sq 168 [] [.sl 1 (ints a),.I k] [] (.bool (tO a k)):=by
 have h:=VS a k b;have e:decide (0<=lT id k a)=tO a k:=by rw[zH];rfl
 refine aX 9 2 [.tmp 4] mixed func168 ?_;exact lX e h
def av.zero:av:=⟨0,0,0⟩
def HZ(xs:List av)(n:Int)(hl:xs.length<2^62):Sq 215 [] [.sl 3 (xs.map av.cells),.fn 180 [],.I n] [] (.bD [.agg (jS av.no n av.zero xs).cells,.I (lT av.no n xs)]):=by
 refine aX 27 3 [.cell 6 70,.tmp 7] mixed func215 ?_;refine s0 ?_;refine aG.w1 xs.length 13 [1,2,6,11,12] [112,208] (λi _=>∀j (b:j<xs.length),j<i->xs[j].no≠n) (by intros;omega) ?_ ?_
 ·intro i _ o l q e;have p:=aM (c:=av.cells) xs o;have d:=tF xs[i];simp only[av.cells]at p d |-;refine sc (a2 l p) d ?_;cases f:xs[i].no==n
  ·have a:xs[i].no≠n:=su f;refine sm (a2 f q) ?_;refine ah.u o ?_ ?_
   ·intro j b hji;rcases dN j i with h|h
    ·exact e j b h
    ·obtain rfl:j=i:=aj
     exact a
   ·exact iB
  ·have a:xs[i].no=n:=su f;obtain⟨g,k⟩:=nj (z:=av.zero) o e a;rw[g,k];exact eo f
 ·intro _ m e;obtain⟨g,k⟩:=kY (z:=av.zero) (λj b=>e j b b);rw[g,k];simp only[go_sem,seval,m,av.cells,av.zero]
def fj(r:ay)(n:Int):av:=jS av.no n av.zero r.ms
def gp(r:ay)(n:Int):Bool:=decide (0<=lT av.no n r.ms)
def bF(r:ay)(n:Int):Int:=(fj r n).state
def kZ(r:ay)(n:Int)(b:r.small):Sq 100 [] [.agg r.cells,.I n] [] (.bD [.agg (fj r n).cells,.bool (gp r n)]):=by
 have h:=HZ r.ms n (by have:=b.1;omega);obtain⟨g,a⟩:=aL (jS av.no n av.zero r.ms);simp only[fj,gp];rw[<-a]at h |-;simp only[av.cells]at h |-;simp only[ay.cells];refine aX 18 2 [.cell 4 70,.tmp 5] mixed func100 ?_;exact lX aK h
def Bo(s:af)(n:Int)(b:s.ak.small):Sq 209 [] [.I n,.bG s.cells] [] (.I (bF s.ak n)):=by
 have h:=kZ s.ak n b;simp only[bF];obtain⟨g,a⟩:=aL (fj s.ak n);rw[<-a]at h |-;simp only[ay.cells,av.cells]at h;simp only[af.cells];refine aX 15 2 [.tmp 3] mixed func209 ?_;exact lX aK h
def Tn(s:af)(n:Int)(b:s.ak.small):Sq 210 [] [.I n,.bG s.cells] [] (.bool (bE s.ak n)):=by
 have h:=pX s.ak n b;obtain⟨g,a⟩:=aL (aU s.ak n);rw[<-a]at h;simp only[ay.cells,aF.cells]at h;simp only[af.cells];refine aX 14 2 [.tmp 3] mixed func210 ?_;exact lX aK h
def C2(r:ay)(n:Int):Bool:=bF r n==1||bF r n==2
def To(s:af)(n:Int)(b:s.ak.small):Sq 211 [] [.I n,.bG [.fn 209 [.bG s.cells]]] [] (.bool (C2 s.ak n)):=by
 have h:=Bo s n b;simp only[af.cells]at h |-;refine aX 14 2 [.tmp 3] mixed func211 ?_;refine sc aK h ?_;cases a:bF s.ak n==1
 ·refine sm a ?_;refine aV ?_;refine az.aP h ?_;simp only[go_sem,seval,C2,a,Bool.false_or]
 ·simp only[go_sem,seval,C2,a,Bool.true_or]
def Tp(s:af)(c:aB)(a:s.ak.small):Sq 214 [] [.agg c.cells,.bG [.fn 209 [.bG s.cells]]] [] (.bool (!(bF s.ak c.who==1))):=by
 have h:=Bo s c.who a;simp only[af.cells]at h |-;simp only[aB.cells];refine aX 10 2 [.tmp 3] mixed func214 ?_;refine s0 ?_;refine aV ?_;refine az.aP h ?_;exact eo dV
def Jt(s:af)(cs:List aB)(p:s.ak.small)(l:cs.length<2^60):Sq 276 [] [.sl 4 (cs.map aB.cells),.fn 214 [.bG [.fn 209 [.bG s.cells]]]] [] (.I (lT (λc:aB=>if bF s.ak c.who==1 then 0 else 1) 1 cs)):=by
 have h:=λc=>Tp s c p;simp only[af.cells,aB.cells]at h |-;refine aX 19 2 [.tmp 4] mixed func276 ?_;refine s0 ?_;refine aG.w1 cs.length 8 [0,1,7] [] (λi _=>∀j (a:j<cs.length),j<i->(if bF s.ak cs[j].who==1 then(0:Int)else 1)≠1) (by intros;omega) ?_ ?_
 ·intro i _ k f q b;have m:=aM (c:=aB.cells) cs k;have hli:(i:Int)<(cs.length:Int):=aj
  have l:=h cs[i];simp only[aB.cells]at m;refine sc (a2 f m) l ?_;cases d:bF s.ak cs[i].who==1
  ·obtain⟨o,e⟩:=nj (no:=λc:aB=>if bF s.ak c.who==1 then(0:Int)else 1) (n:=1) (z:=(⟨0,0,0,0⟩:aB)) k b (by simp[d]);rw[e];exact eo d
  ·refine sm (a2 d q) ?_;refine ah.u k ?_ ?_
   ·intro j a hji;rcases dN j i with h|h
    ·exact b j a h
    ·obtain rfl:j=i:=aj
     simp[d]
   ·exact iB
 ·intro _ g b;obtain⟨o,e⟩:=kY (no:=λc:aB=>if bF s.ak c.who==1 then(0:Int)else 1) (n:=1) (z:=(⟨0,0,0,0⟩:aB)) (λj a=>b j a a);rw[e];exact eo g
def v8(r:ay)(c:aB):Bool:=bF r c.who==1
def Em(s:af)(cs:List aB)(d:s.ak.small)(b:cs.length<2^60):Sq 213 [] [.sl 4 (cs.map aB.cells),.fn 214 [.bG [.fn 209 [.bG s.cells]]]] [] (.bool (!cs.all (v8 s.ak))):=by
 have h:=Jt s cs d b;have e:decide (0<=lT (λc:aB=>if bF s.ak c.who==1 then(0:Int)else 1) 1 cs) = !cs.all (v8 s.ak):=by
  rw[zH,not_all_eq_any_not];congr 1;funext c;cases a:bF s.ak c.who==1<;>simp[v8,a]
 simp only[af.cells]at h |-;refine aX 9 2 [.tmp 4] mixed func213 ?_;exact lX e h
def KX(r:ay)(p:aE):Bool:=C2 r p.who&&bE r p.inst
def CN(r:ay)(t:aT):Bool:=!(bF r t.lg==0)&&(!(bF r t.iH==0)&&bE r t.inst)
def o7(r:ay)(n:Int):Bool:=decide (0<=lT aD.a n r.xs)
def BA(r:ay)(p:iu):Bool:=C2 r p.who&&o7 r p.bV
def sL(s:af):Bool:=s.book.qs.all (KX s.ak)&&(s.book.ts.all (CN s.ak)&&(s.ps.all (BA s.ak)&&s.calls.all (v8 s.ak)))
def yS{A:Type}{f:A->Bool}{xs:List A}{i:Nat}(h:i<xs.length)(a:f xs[i]=false):xs.all f=false:=by
 cases b:xs.all f
 ·rfl
 ·rw[cg.1 b _ (dH h)]at a;cases a
def uI{A:Type}{f:A->Bool}{xs:List A}(h:∀j (a:j<xs.length),j<xs.length->f xs[j]=true):xs.all f=true:=cg.2 λx b=>by
 obtain⟨j,a,rfl⟩:=mem_iff_getElem.1 b;exact h j a a
def qY{A:Type}{f:A->Bool}{xs:List A}{i:Nat}(hi:i<xs.length)(c:∀j (a:j<xs.length),j<i->f xs[j]=true)(b:f xs[i]=true):∀j (a:j<xs.length),j<i+1->f xs[j]=true:=λj a hji=>by
 rcases dN j i with h|h
 ·exact c j a h
 ·obtain rfl:j=i:=aj
  exact b
def VY(s:af)(C:s.fit)(hc:s.calls.length<2^30):Sq 98 [] [.agg s.cells] [] (.bool (sL s)):=by
 obtain⟨q,A,_,hp⟩:=C;obtain⟨hb1,hb2⟩:=A;have k2:=λn=>Tn s n q;have k1:=λn=>Bo s n q;have k3:=λn=>To s n q;have y:=λn=>vM s.ak n q;have z:=Em s s.calls q aj;simp only[ay.cells]at y;simp only[af.cells]at k1 k2 k3 z |-;refine aX 98 1 [.tmp 2] mixed func98 ?_;refine s0 ?_;refine aG.w1 s.book.qs.length 21 [1,3,4,5,19,20] [32,64,256,272,336] (λi _=>∀j (x:j<s.book.qs.length),j<i->KX s.ak s.book.qs[j]=true) (by intros;omega) ?_ ?_
 ·intro i _ k m r f;have p:=aM (c:=aE.cells) s.book.qs k;have e0:=qY k f;have o:KX s.ak s.book.qs[i]=false->sL s=false:=λh=>by simp[sL,yS k h]
  simp only[aE.cells]at p;refine sl (a2 m p) (k3 s.book.qs[i].who) ?_;cases b:C2 s.ak s.book.qs[i].who
  ·have:=o (by simp[KX,b]);exact eo (a2 b this)
  refine sl b (k2 s.book.qs[i].inst) ?_;cases d:bE s.ak s.book.qs[i].inst
  ·have:=o (by simp[KX,b,d]);exact eo (a2 d this)
  refine sm (a2 d r) ?_;refine ah.u k (e0 (by simp[KX,b,d])) ?_;exact iB
 intro _ e f;have l:=uI f;have w:sL s=(s.book.ts.all (CN s.ak)&&(s.ps.all (BA s.ak)&&s.calls.all (v8 s.ak))):=by simp[sL,l]
 rw[w];clear w l f;refine sm e ?_;clear e;refine aG.w1 s.book.ts.length 44 [1,3,4,5,42,43] [32,64,256,272,704] (λi _=>∀j (x:j<s.book.ts.length),j<i->CN s.ak s.book.ts[j]=true) (by intros;omega) ?_ ?_
 ·intro i _ k m r f;have p:=aM (c:=aT.cells) s.book.ts k;have e0:=qY k f;have o:CN s.ak s.book.ts[i]=false->(s.book.ts.all (CN s.ak)&&(s.ps.all (BA s.ak)&&s.calls.all (v8 s.ak)))=false:=λh=>by simp[yS k h]
  simp only[aT.cells]at p;refine sl (a2 m p) (k1 s.book.ts[i].lg) ?_;cases b:bF s.ak s.book.ts[i].lg==0
  case true =>
   have:=o (by simp only[CN,b];rfl);exact eo (a2 b this)
  refine sl b (k1 s.book.ts[i].iH) ?_;cases d:bF s.ak s.book.ts[i].iH==0
  case true =>
   have:=o (by simp only[CN,b,d];rfl);exact eo (a2 d this)
  refine sl d (k2 s.book.ts[i].inst) ?_;cases t:bE s.ak s.book.ts[i].inst
  ·have:=o (by simp only[CN,b,d,t];rfl);exact eo (a2 t this)
  refine sm (a2 t r) ?_;refine ah.u k (e0 (by simp only[CN,b,d,t];rfl)) ?_;exact iB
 intro _ e f;have l:=uI f;rw[l,cz];clear l f;have hpl:(pl s.ps).length=s.ps.length:=pK s.ps;refine sm e ?_;clear e;refine aG.w1 s.ps.length 71 [1,3,5,69,70] [32,64,272,1136] (λi _=>∀j (x:j<s.ps.length),j<i->BA s.ak s.ps[j]=true) (by intros;omega) ?_ ?_
 ·intro i _ k m r f;have p:=oA s.ps k;have e0:=qY k f;have o:BA s.ak s.ps[i]=false->(s.ps.all (BA s.ak)&&s.calls.all (v8 s.ak))=false:=λh=>by simp[yS k h]
  have l:=y s.ps[i].bV;obtain⟨g,B⟩:=aL (jS aD.a s.ps[i].bV ⟨0,0,0,0⟩ s.ak.xs);have v:decide (0<=lT aD.a s.ps[i].bV s.ak.xs)=o7 s.ak s.ps[i].bV:=rfl;rw[<-B,v]at l;simp only[aD.cells]at l;refine sc (a2 m p) l ?_;refine sl aK (k3 s.ps[i].who) ?_;cases b:C2 s.ak s.ps[i].who
  ·have:=o (by simp only[BA,b];rfl);exact eo (a2 b this)
  cases d:o7 s.ak s.ps[i].bV
  ·have:=o (by simp only[BA,b,d];rfl);exact eo (a3 b d this)
  refine sm (a3 b d r) ?_;refine ah.u k (e0 (by simp only[BA,b,d];rfl)) ?_;exact iB
 intro _ e f;have l:=uI f;rw[l,cz];clear l f;refine sm e ?_;refine az.iw [32,64] [] true sT ?_;refine s0 ?_;refine dL.ij z ?_;simp only[go_sem,seval,Bool.not_not]
