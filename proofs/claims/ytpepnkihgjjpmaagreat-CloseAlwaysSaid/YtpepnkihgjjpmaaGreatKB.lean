/- Parts. -/
import Derived.Test.YtpepnkihgjjpmaaGreatKA
set_option linter.all false
set_option maxHeartbeats 4000000
set_option maxRecDepth 16000
namespace Go.Proofs.YtpepnkihgjjpmaaGreat
open Go.Abs Tryz
open List hiding le lt min
def TB{l:List Int}(h:∀n∈l,iS n)(hl:l.length<2^58):(∀n∈l,vM n=true)/\vM (ay l)=true:=by
 have b:∀n∈l,-9223372036854775808<=n/\n<=9223372036854775808:=λn a=>by have:=h n a;exact⟨this.1,by have:=this.2;omega⟩
 refine⟨λn a=>DG (b n a) ak,?_⟩;exact DG (B:=9223372036854775808*(l.length:Int)) (BA b) ak
def addN(l:List Int):Int:=if bB (ay l)then ay l else 0
theorem eM(l:List Int)(h:∀n∈l,iS n)(hl:l.length<2^30):Sq 224 [] [.sl 1 (ints l)] [] (.bI [.int .i64 (addN l),.bool (bB (ay l))]):=by
 obtain⟨p,q⟩:=TB h ak;have g:=oA l ak p;have k:=oz (ay l);rw[q,aq rfl]at g;simp only[wd]at g k;refine bp 33 1 [.tmp 2,.tmp 3] mixed func224 ?_;simp only[go_sem,seval,az];refine aF.wv l.length [0] [] (λi=>[(5,.I i),(4,.ref 352)]) (λi=>[(352,.own 2 (vr (l.take i)))]) ?_ ?_ ?_
 ·simp only[go_sem,seval]<;>simp[vr]
 ·intro i _ c d j _;have o:=xy l[i] (h _ (dS c));have a:vr (l.take (i+1))=vr (l.take i)++[wd l[i]]:=by rw[jU c];simp only[vr,jF,map_cons,map_nil]
  have b:(vr (l.take i)).length=i:=by simp[vr];omega
  simp only[wd]at o;simp only[go_sem,seval,az,d,ints_at l c];refine sc (a2 j b) o ?_;refine bg ?_;refine ah.v c ?_;simp only[go_sem,seval,a]<;>simp[wd]
 ·intro _ e _;simp only[go_sem,seval,az,e,eu];refine sl aS g ?_;refine aG.bC k ?_;simp only[go_sem,seval,addN]
def jm(x:aC):Sq 84 [] [.agg x.cells] [] (.bool x.right):=by
 simp only[aC.cells];refine bp 40 1 [.tmp 2] mixed func84 ?_;refine s0 ?_;repeat' with_reducible first|refine mO (λh=>?_) λh=>?_|simp only[*,go_sem,seval]
 all_goals(try simp only[bz,gv]at *)
 all_goals(unfold aC.right;simp_all[owned];try(intros;omega))
theorem yX(x:aC):Sq 225 [] [.agg x.cells] [] (.int .i64 x.floor):=by
 have a:=jm x;simp only[aC.cells]at a |-;refine bp 15 1 [.tmp 2] mixed func225 ?_;refine s0 ?_;repeat' with_reducible first|apply And.intro|refine aG.bC (by assumption) ?_|refine mO (λh=>?_) λh=>?_|simp only[*,go_sem,seval]
 all_goals(unfold aC.floor;simp[*])
def JO(x y:aC):Sq 270 [] [.agg x.cells,.agg y.cells] [] (.bool (x.less y)):=by
 simp only[aC.cells];refine bp 30 2 [.tmp 4] mixed func270 ?_;refine s0 ?_;repeat' with_reducible first|refine mO (λh=>?_) λh=>?_|simp only[*,go_sem,seval]
 all_goals(unfold aC.less;simp_all)
def vi(x y:aC):Sq 191 [] [.agg x.cells,.agg y.cells] [] (.bool (x.same y)):=by
 simp only[aC.cells];refine bp 24 2 [.tmp 4] mixed func191 ?_;refine s0 ?_;repeat' with_reducible first|refine mO (λh=>?_) λh=>?_|simp only[*,go_sem,seval]
 all_goals(simp_all[aC.same])
theorem ou(l:bu)(a:aC)(hl:l.bs.length<2^30):Sq 85 [] [.agg l.cells,.agg a.cells] [] (.int .i64 (eP a l.bs)):=by
 simp only[bu.cells,aC.cells];refine bp 27 2 [.tmp 4] mixed func85 ?_;refine s0 ?_;refine aF.w1 l.bs.length 5 [2,3] [48,64] (λi _=>eP a (l.bs.drop i)=eP a l.bs) rfl ?_ ?_
 ·intro i _ h d j b;obtain⟨z,o,hm,hlt⟩:=oc (c:=bU.cells) l.bs h;have k:=vi z.bq a;rw[cg h]at b;rw[<-o]at b;simp only[eP]at b;have e:RX a z=z.bq.same a:=by simp[RX,aC.same,bU.bq]
  rw[e]at b;simp only[aC.cells,bU.cells,bU.bq]at k hm;refine sc (a2 d hm) k ?_;cases n:aC.same ⟨z.kind,z.who,z.cur⟩ a
  ·rw[show z.bq.same a=false from n]at b;simp only[iM,if_false]at b;refine sm j ?_;refine ah.u h b ?_;exact jq
  ·rw[show z.bq.same a=true from n,aq rfl]at b;simp only[go_sem,seval,hm,<-b];exact Si
 ·intro _ g b;simp only[jw,eP]at b;simp only[go_sem,seval,g,<-b]
def sI(a:List Int)(k:Int):Bool:=a.any (· == k)
def BD(c:Int)(a:List Int)(bs:List bU):List Int:=(bs.filter λb=>sI a b.kind&&b.cur==c).map bU.sum
def Ws(c:Int)(a:List Int)(bs:List bU){i:Nat}(h:i<bs.length):BD c a (bs.take (i+1))=if sI a bs[i].kind&&bs[i].cur==c then BD c a (bs.take i)++[bs[i].sum]else BD c a (bs.take i):=by
 simp only[BD];rw[jU h,nK,jF];cases b:(sI a bs[i].kind&&bs[i].cur==c)<;>simp[filter,b]
def QZ(c:Int)(a:List Int)(bs:List bU):(BD c a bs).length<=bs.length:=by
 simp only[BD,qE];exact length_filter_le _ _
def Zp{c:Int}{e:List Int}{bs:List bU}(h:∀b∈bs,b.fB):∀n∈BD c e bs,iS n:=by
 intro n a;simp only[BD,mem_map,mem_filter]at a;obtain⟨b,⟨d,_⟩,rfl⟩:=a;exact(h b d).2.2.2
def Cm(a:List Int)(k:Int){i:Nat}(h:i<a.length):sI (a.take (i+1)) k=(sI (a.take i) k||a[i]==k):=by
 simp only[sI];rw[jU h,any_append];simp
theorem Ik(l:bu)(c:Int)(a:List Int)(hl:l.bs.length<2^30)(n:a.length<2^30)(w:∀b∈l.bs,b.fB):Sq 271 [] [.agg l.cells,.int .i64 c,.sl 1 (ints a)] [] (.bI [.int .i64 (addN (BD c a l.bs)),.bool (bB (ay (BD c a l.bs)))]):=by
 have htl:=QZ c a l.bs;have u:=eM (BD c a l.bs) (Zp w) ak;simp only[bu.cells];refine bp 65 3 [.tmp 6,.tmp 7] mixed func271 ?_;simp only[go_sem,seval,az];refine aF.wv l.bs.length [1,2,3] [64] (λi=>[(9,.I i),(8,.ref 976)]) (λi=>[(976,.own 1 (ints (BD c a (l.bs.take i))))]) ?_ ?_ ?_
 ·simp only[go_sem,seval]<;>simp[BD,ints]
 ·intro i _ o r h _;obtain⟨z,x,hm,hli⟩:=oc (c:=bU.cells) l.bs o;have g:=Ws c a l.bs o;have hlen:=QZ c a (l.bs.take i);have hlt:(l.bs.take i).length=i:=by simp;omega
  rw[<-x]at g;simp only[bU.cells]at hm;simp only[go_sem,seval,r,az];refine aF.wv a.length [1,2,3,8,9] [64,976] (λk=>[(11,.I k),(10,.bool (sI (a.take k) z.kind))]) (λ_=>[]) ?_ ?_ ?_
  ·simp only[go_sem,seval]<;>simp[sI]
  ·intro k _ n d p _;have e:=Cm a z.kind n;cases t:sI (a.take k) z.kind
   ·rw[t,Bool.false_or]at e;simp only[go_sem,seval,az,d,ints_at a n,hm,p];refine bg ?_;refine ah.v n ?_;exact dL e
   ·rw[t,Bool.true_or]at e;simp only[go_sem,seval,az,d,ints_at a n,hm,p];refine bg ?_;refine ah.v n ?_;exact dL e
  ·intro _ d _;cases j:sI a z.kind
   ·simp only[j,cZ,iM,if_false]at g;simp only[go_sem,seval,az,d,eu,j,h];refine bg ?_;refine ah.v o ?_;exact dL g
   cases q:z.cur==c
   ·simp only[j,q,Bool.and_false,iM,if_false]at g;simp only[go_sem,seval,az,d,eu,j,hm,q,h];refine bg ?_;refine ah.v o ?_;exact dL g
   simp only[j,q,Bool.and_self,if_true]at g;simp only[go_sem,seval,az,d,eu,j,hm,q,h];refine bg ?_;refine ah.v o ?_;simp only[go_sem,seval,g]<;>simp[ints]
 ·intro _ s _;simp only[go_sem,seval,az,s,eu];exact WQ aS u
theorem uH(w n:Int):Sq 86 [] [.agg [.int .i64 w,.int .i64 n]] [] (.bool (qB w n)):=by
 have h1:=iY w;have h2:=bK n 1 8;refine bp 11 1 [.tmp 2] mixed func86 ?_;refine s0 ?_;repeat' with_reducible first|apply And.intro|refine aG.bC (by assumption) ?_|refine mO (λh=>?_) λh=>?_|simp only[*,go_sem,seval]
 all_goals(simp_all[qB])
theorem Ft(a b c d:Int):Sq 276 [] [.agg [.int .i64 a,.int .i64 b],.agg [.int .i64 c,.int .i64 d]] [] (.bool (JG a b c d)):=by
 refine bp 24 2 [.tmp 4] mixed func276 ?_;refine s0 ?_;repeat' with_reducible first|refine mO (λh=>?_) λh=>?_|simp only[*,go_sem,seval]
 all_goals(simp only[JG];simp_all)
def vm(t:aR):Sq 226 [] [.agg t.cells] [] (.bool (within t.aO 1 1048576&&within t.aL 1 1073741824)):=by
 have h1:=bK t.aO 1 1048576;have h2:=bK t.aL 1 1073741824;simp only[aR.cells];refine bp 11 1 [.tmp 2] mixed func226 ?_;refine s0 ?_;repeat' with_reducible first|apply And.intro|refine aG.bC (by assumption) ?_|refine mO (λh=>?_) λh=>?_|simp only[*,go_sem,seval]
 all_goals(simp_all)
def x3(t:aR):Sq 228 [] [.agg t.cells] [] (.bool t.okB):=by
 have a:=vm t;have h1:=iY t.jH;have h2:=iY t.gK;have h3:=bK t.inst 1 8;simp only[aR.cells]at a |-;refine bp 27 1 [.tmp 2] mixed func228 ?_;refine s0 ?_;repeat' with_reducible first|apply And.intro|refine aG.bC (by assumption) ?_|refine mO (λh=>?_) λh=>?_|simp only[*,go_sem,seval]
 all_goals first
  | (simp_all[aR.okB,qB,bne];done)
  | (rw[nJ];simp_all[aR.okB,qB,bne])
def SX(a b:aR):gS a b = !decide (b.no<=a.no):=by
 rw[nJ];simp[gS]
def VY{n:Int}{l:List aB}(h:∀p∈l,p.fB):∀q∈dP n l,iS q:=by
 intro q a;simp only[dP,mem_map,mem_filter]at a;obtain⟨p,⟨hp,_⟩,rfl⟩:=a;exact(h p hp).2.2.1
def R7{n:Int}{l:List aB}(h:pY aB.okB jP l=true):oW n l=(bB (ay (dP n l))&&addN (dP n l)==0):=by
 have c:right (dP n l)=true:=bL.2 λq a=>by
  simp only[dP,mem_map,mem_filter]at a;obtain⟨p,⟨hp,_⟩,rfl⟩:=a;obtain⟨i,b,rfl⟩:=mem_iff_getElem.1 hp;have:=Mp h b;simp only[aB.okB,within,bQ,bz]at this;refine aP.2 ?_;omega
 simp only[oW,oa,oI,addN,c,if_true,cm];cases bB (ay (dP n l))<;>simp
def kV(b:aH)(hl:b.small)(hr:∀p∈b.qs,p.fB):Sq 227 [] [.agg b.cells] [] (.bool b.okB):=by
 obtain⟨hl1,hl2⟩:=hl;have hA:=λn=>eM (dP n b.qs) (VY hr) (by have:=zQ n b.qs;omega);have hN:=bK b.next 0 1099511627776
 have q:within b.next 0 1099511627776=(!decide (b.next<0)&&!decide (1099511627776<b.next)):=by rw[nJ];simp[within]
 simp only[aH.cells];refine bp 156 1 [.tmp 2] mixed func227 ?_;refine sc aS hN ?_;cases B:within b.next 0 1099511627776
 ·rw[q]at B;have e:b.okB=false:=by simp only[aH.okB,B,Bool.and_false]
  exact dL e
 cases C:decide (128<(b.ts.length:Int))
 case true =>
  have e:b.okB=false:=by simp[aH.okB,C]
  exact dL (a2 C e)
 have e:b.okB=(pY aB.okB jP b.qs&&(pY (iu b.next) gS b.ts&&n6 b.qs)):=by
  rw[q]at B;simp only[aH.okB,B,C,Bool.not_false,Bool.and_true]
 rw[e];clear e hN q;refine sm C ?_;refine aF.count b.qs.length [1] [32] (λi=>[(3,.I i)]) (λi=>[]) (λi=>∀j<i,nL aB.okB jP b.qs j=true) sT ?_ ?_
 ·exact kG
 intro i w t;refine s0 ?_;refine bS.fX (λh=>?_) (λh=>?_)
 ·have a:i<b.qs.length:=ak
  have J:IntKind.wrap .i64 ((i:Int)+1)=((i+1:Nat):Int):=fQ;have hm:=br (c:=aB.cells) b.qs a;have L:=uH b.qs[i].who b.qs[i].inst;have Q:=fy b.qs[i].cost;have h3:=bK b.qs[i].aO (-1099511627776) 1099511627776;have e0:=qR (i:=i) t;have e1:nL aB.okB jP b.qs i=false->(pY aB.okB jP b.qs&&(pY (iu b.next) gS b.ts&&n6 b.qs))=false:=λhx=>by simp[uV a hx]
  simp only[aB.cells]at hm;clear hA;rcases Nat.eq_zero_or_pos i with rfl|hpos
  ·have hk:=jf (ok:=aB.okB) (lt:=jP) a;simp only[aB.okB]at hk;refine sm hm ?_;repeat' with_reducible first|apply And.intro|exact .dq|refine aG.bC (by assumption) ?_|refine mO (λh=>?_) λh=>?_|refine ah.jE ak ?_ ?_|simp only[*,go_sem,seval]
   all_goals exact Jl
  ·obtain⟨j,rfl⟩:∃j,i=j+1:=⟨i-1,by omega⟩
   have l:j<b.qs.length:=ak
   have K:IntKind.wrap .i64 (((j+1:Nat):Int)-1)=(j:Int):=fQ;have hk:=iG (ok:=aB.okB) (lt:=jP) a;simp only[aB.okB,jP]at hk;have d:=br (c:=aB.cells) b.qs l;have h4:=Ft b.qs[j].who b.qs[j].inst b.qs[j+1].who b.qs[j+1].inst;simp only[aB.cells]at d;refine sm hm ?_;repeat' with_reducible first|apply And.intro|exact .dq|refine aG.bC (by assumption) ?_|refine mO (λh=>?_) λh=>?_|refine ah.jE ak ?_ ?_|simp only[*,go_sem,seval,d,qE]
   all_goals exact Jl
 have M:=oS (λj (l:j<b.qs.length)=>t j ak);have o:=λn:Int=>R7 (n:=n) M;rw[M,cm];clear t;refine s0 ?_;refine aF.wu 8 [1] [32] (λi=>[(5,.I ((i:Int)+1))]) (λi=>[]) (λi=>∀j<i,oW ((j:Int)+1) b.qs=true) sT ?_ ?_ ?_
 ·exact kG
 ·intro c _ P _ _ E;obtain⟨n,H⟩:=aN ((c:Int)+1);have S:decide (n<=8)=true:=iy;have J:IntKind.wrap .i64 (n+1)=((c+1:Nat):Int)+1:=fQ;rw[<-H];refine sm S ?_;refine aF.wv b.qs.length [1,5] [32] (λi=>[(7,.I i),(6,.ref 1696)]) (λi=>[(1696,.own 1 (ints (dP n (b.qs.take i))))]) ?_ ?_ ?_
  ·simp only[go_sem,seval]<;>simp[dP,ints]
  ·intro i _ w F y _;have hm:=br (c:=aB.cells) b.qs w;have hs:=Ie n b.qs w;have hlen:=zQ n (b.qs.take i);have hlt:(b.qs.take i).length=i:=by simp;omega
   have hli:(i:Int)<(b.qs.length:Int):=ak
   simp only[aB.cells]at hm;refine sm (a2 F hm) ?_;refine bg ?_;cases O:b.qs[i].inst==n
   ·simp only[O,iM,if_false]at hs;refine sm y ?_;refine ah.v w ?_;exact dL hs
   ·simp only[O,if_true]at hs;simp only[go_sem,seval,y,az,hm];refine bg ?_;refine ah.v w ?_;simp only[go_sem,seval,hs]<;>simp[ints]
  ·intro _ G _;have k:oW n b.qs=false->n6 b.qs=false:=λhx=>by
    cases T:n6 b.qs
    ·rfl
    ·have:=bL.1 T c (mem_range.2 P);rw[<-H,hx]at this;cases this
   have r:=o n;simp only[go_sem,seval,G,eu];refine sl aS (hA n) ?_;cases s:bB (ay (dP n b.qs))
   ·have:=k (by rw[r,s];rfl);simp only[go_sem,seval,s,this,Bool.and_false]
   cases D:addN (dP n b.qs)==0
   ·have:=k (by rw[r,s,D];rfl);simp only[go_sem,seval,bne,s,D,this,Bool.and_false]
   refine sm (a4 gr s D J) ?_;refine ah.u P ?_ ?_
   ·intro j l;rcases dN j c with h|h
    ·exact E j h
    ·obtain rfl:j=c:=ak
     rw[<-H,r,s,D];rfl
   ·exact jq
 ·intro _ _ E;have x:n6 b.qs=true:=bL.2 λj l=>E j (mem_range.1 l);rw[x,Bool.and_true];clear E x o hA;refine s0 ?_;refine aF.count b.ts.length [1] [32] (λi=>[(10,.I i)]) (λi=>[]) (λi=>∀j<i,nL (iu b.next) gS b.ts j=true) sT ?_ ?_
  ·exact kG
  intro i w t;refine s0 ?_;refine bS.fX (λh=>?_) (λh=>?_)
  ·have a:i<b.ts.length:=ak
   have J:IntKind.wrap .i64 ((i:Int)+1)=((i+1:Nat):Int):=fQ;have hm:=br (c:=aR.cells) b.ts a;have L:=x3 b.ts[i];have Q:=bK b.ts[i].no 1 b.next
   have e0:=qR (i:=i) t;have e1:nL (iu b.next) gS b.ts i=false->pY (iu b.next) gS b.ts=false:=λhx=>uV a hx;have g:iu b.next b.ts[i]=(b.ts[i].okB&&within b.ts[i].no 1 b.next):=by rw[nJ];simp[iu,within]
   simp only[aR.cells]at hm L;rcases Nat.eq_zero_or_pos i with rfl|hpos
   ·have hk:=jf (ok:=iu b.next) (lt:=gS) a;rw[g]at hk;clear g;refine sm hm ?_;repeat' with_reducible first|apply And.intro|exact .dq|refine aG.bC (by assumption) ?_|refine mO (λh=>?_) λh=>?_|refine ah.jE ak ?_ ?_|simp only[*,go_sem,seval]
    all_goals exact Jl
   ·obtain⟨j,rfl⟩:∃j,i=j+1:=⟨i-1,by omega⟩
    have l:j<b.ts.length:=ak
    have K:IntKind.wrap .i64 (((j+1:Nat):Int)-1)=(j:Int):=fQ;have hk:=iG (ok:=iu b.next) (lt:=gS) a;rw[g,SX]at hk;clear g;have d:=br (c:=aR.cells) b.ts l;simp only[aR.cells]at d;refine sm hm ?_;repeat' with_reducible first|apply And.intro|exact .dq|refine aG.bC (by assumption) ?_|refine mO (λh=>?_) λh=>?_|refine ah.jE ak ?_ ?_|simp only[*,go_sem,seval,d,qE]
    all_goals exact Jl
  ·have R:=oS (λj (l:j<b.ts.length)=>t j ak);exact dL R
def pZ(f:Int->Int->Int)(w:Int):Nat->List gC
 | 0=>[]
 |n+1=>pZ f w n++if 0<f w (n+1)then[⟨w,n+1,f w (n+1)⟩]else[]
def enum(f:Int->Int->Int):Nat->List gC
 | 0=>[]
 |n+1=>enum f n++pZ f (n+1) 6
theorem zM{f:Int->Int->Int}{w:Int}{p:gC}:∀{n:Nat},p∈pZ f w n↔p.who=w/\1<=p.bT/\p.bT<=n/\p.units=f w p.bT/\0<p.units
 | 0=>by simp[pZ];omega
 |n+1=>by
  simp only[pZ,mem_append,zM (n:=n)];constructor
  ·rintro(⟨b,c,e,a,d⟩|h)
   ·exact⟨b,c,by omega,a,d⟩
   ·split at h
    ·rename_i g;simp only[mem_cons,not_mem_nil,or_false]at h;subst h;exact⟨rfl,by show(1:Int)<=n+1;omega,by show(n:Int)+1<=_;omega,rfl,g⟩
    ·cases h
  ·rintro⟨b,c,e,a,d⟩;by_cases h:p.bT=n+1
   ·right;rw[h]at a;rw[aq ak];cases p
    simp_all
   ·left;exact⟨b,c,by omega,a,d⟩
theorem HL{f:Int->Int->Int}{p:gC}:∀{n:Nat},p∈enum f n↔1<=p.who/\p.who<=n/\1<=p.bT/\p.bT<=6/\p.units=f p.who p.bT/\0<p.units
 | 0=>by simp[enum];omega
 |n+1=>by
  simp only[enum,mem_append,HL (n:=n),zM];constructor
  ·rintro(⟨b,e,a⟩| ⟨b,e,a,c,d⟩)
   ·exact⟨b,by omega,a⟩
   ·rw[<-b]at c;exact⟨by omega,by omega,e,a,c,d⟩
  ·rintro⟨b,e,a,c,d,g⟩;by_cases h:p.who=n+1
   ·right;rw[h]at d;exact⟨h,a,c,d,g⟩
   ·left;exact⟨b,by omega,a,c,d,g⟩
theorem Cb(f:Int->Int->Int)(w:Int):∀n:Nat,(pZ f w n).Pairwise (λp q=>p.key<q.key)
 | 0=>by simp[pZ]
 |n+1=>by
  simp only[pZ,pairwise_append];refine⟨Cb f w n,by split<;>simp,?_⟩;intro p hp q a;have h:=zM.1 hp;split at a
  ·simp only[mem_cons,not_mem_nil,or_false]at a;subst a;simp only[gC.key];omega
  ·cases a
theorem Ev(f:Int->Int->Int):∀n:Nat,(enum f n).Pairwise (λp q=>p.key<q.key)
 | 0=>by simp[enum]
 |n+1=>by
  simp only[enum,pairwise_append];refine⟨Ev f n,Cb f _ 6,?_⟩;intro p hp q a;have h:=HL.1 hp;have h2:=zM.1 a;simp only[gC.key];omega
theorem I0:∀{l m:List gC},l.Pairwise (λp q=>p.key<q.key)->m.Pairwise (λp q=>p.key<q.key)->(∀p,p∈l↔p∈m)->l=m
 | [],[],_,_,_=>rfl
 | [],q::m,_,_,h=>by have:=(h q).2 sT;cases this
 |p::l,[],_,_,h=>by have:=(h p).1 sT;cases this
 |p::l,q::m,hl,hm,h=>by
  rw[kB]at hl hm;have d:p=q:=by
   rcases mem_cons.1 ((h p).1 sT)with e|e
   ·exact e
   ·rcases mem_cons.1 ((h q).2 sT)with e2|e2
    ·exact e2.symm
    ·have a:=hm.1 p e;have b:=hl.1 q e2;omega
  subst d;rw[I0 hl.2 hm.2];intro r;constructor
  ·intro c;rcases mem_cons.1 ((h r).1 (by simp[c]))with e|e
   ·subst e;have:=hl.1 r c;omega
   ·exact e
  ·intro c;rcases mem_cons.1 ((h r).2 (by simp[c]))with e|e
   ·subst e;have:=hm.1 r c;omega
   ·exact e
theorem Ww{ps:List gC}(a:Good ps){p:gC}(hp:p∈ps):dH p.who p.bT ps=p.units:=by
 induction ps with
 |nil=>cases hp
 |cons q r ih =>
  have b:Good r:=⟨λx hx=>a.1 x (by simp[hx]),(kB.1 a.2).2⟩
  simp only[dH];rcases mem_cons.1 hp with e|e
  ·subst e;simp
  ·have c:=(kB.1 a.2).1 p e;have d:¬(q.who=p.who/\q.bT=p.bT):=λhh=>by
    simp only[gC.key]at c;omega
   rw[au d,ih b e]
theorem Jd{w a:Int}:∀{ps:List gC},0<dH w a ps->(⟨w,a,dH w a ps⟩:gC)∈ps
 | [],h=>by simp[dH]at h
 |q::r,h=>by
  simp only[dH]at h |-;split
  ·rename_i b;have:(⟨w,a,q.units⟩:gC)=q:=by cases q;simp_all
   rw[this];simp
  ·rename_i b;rw[au b]at h;exact mem_cons_of_mem _ (Jd h)
def RJ{ps:List gC}(c:Good ps):enum (λw a=>dH w a ps) 16=ps:=by
 refine I0 (Ev _ 16) c.2 ?_;intro p;rw[HL];constructor
 ·rintro⟨h1,h2,h3,h4,d,g⟩;have:=Jd (w:=p.who) (a:=p.bT) (ps:=ps) (by rw[<-d];exact g);rw[<-d]at this;exact this
 ·intro hp;have e:=(c.1 p hp)
  have b:=qK.1 e.1;exact⟨b.1,b.2.1,b.2.2.1,b.2.2.2,(Ww c hp).symm,by have:=e.2;omega⟩
def wg(ps:List gC)(w a n:Int)(w' b:Int):Int:=if w'=w/\b=a then n else dH w' b ps
def UZ{ps:List gC}{w a n:Int}(b:Good ps)(c:iK w a=true)(e:0<=n)(g:n<=1099511627776):enum (wg ps w a n) 16=Kx w a n ps:=by
 have:wg ps w a n=λw' d=>dH w' d (Kx w a n ps):=by
  funext w' d;unfold wg;split
  ·rename_i h;rw[h.1,h.2,LX c e b]
  ·rename_i h;rw[ET h c b]
 rw[this,RJ (Ou c g b)]
def AI(w a:Int)(ps:List gC)(hl:ps.length<2^62):Sq 218 [] [.int .i64 w,.int .i64 a,.sl 3 (pl ps)] [] (.int .i64 (dH w a ps)):=by
 refine bp 35 3 [.tmp 6] mixed func218 ?_;simp only[go_sem,seval];refine aF.count ps.length [0,1,2] [] (λi=>[(7,.int .i64 i)]) (λi=>[]) (λi=>dH w a (ps.drop i)=dH w a ps) sT ?_ ?_
 ·exact kG
 ·intro i hi c;simp only[go_sem,seval];refine bS.fX (λh=>?_) (λh=>?_)
  ·have b:i<ps.length:=ak
   have hw:IntKind.wrap .i64 ((i:Int)+1)=((i+1:Nat):Int):=fQ;rw[Tw b]at c;simp only[dH]at c;simp only[go_sem,seval,qh ps b];repeat' with_reducible first|apply And.intro|refine mO (λh=>?_) λh=>?_|refine ah.jE ak ?_ ?_|simp only[*,go_sem,seval,qh ps b]
   all_goals(simp_all;done)
  ·obtain rfl:i=ps.length:=ak
   simp only[jw,dH]at c;exact ato
def xA(w a:Int):iK w a=(within w 1 16&&within a 1 6):=by simp[iK,within,Bool.and_assoc]
def HT(q p:gC):Bool:=decide (q.who>p.who)||(q.who==p.who&&decide (q.bT >= p.bT))
def abf{q p:gC}(a:iK q.who q.bT=true)(hp:iK p.who p.bT=true):HT q p = !decide (Mt q p.who p.bT<0):=by
 rw[GD a hp,nJ];simp only[HT,Bool.or_eq_true,bQ,bz,ff,gD,gv];split<;>omega
def sj(ps:List gC)(hl:ps.length<2^62):Sq 215 [] [.sl 3 (pl ps)] [] (.bool (jB ps)):=by
 refine bp 66 1 [.tmp 2] mixed func215 ?_;refine s0 ?_;refine aF.count ps.length [0] [] (λi=>[(3,.I i)]) (λi=>[]) (λi=>∀j<i,tT ps j=true) sT ?_ ?_
 ·exact kG
 ·intro i hi n;refine s0 ?_;refine bS.fX (λh=>?_) (λh=>?_)
  ·have b:i<ps.length:=ak
   have hw:IntKind.wrap .i64 ((i:Int)+1)=((i+1:Nat):Int):=fQ;have h1:=iY ps[i].who;have h2:=xW ps[i].bT;have h3:=iw ps[i].units 1 1099511627776;have a:=MT b;have g:within ps[i].units 1 1099511627776=(decide (1<=ps[i].units)&&decide (ps[i].units<=1099511627776)):=rfl;rw[xA,Bool.and_assoc _ (decide (1<=ps[i].units)),<-g]at a;clear g;have e0:tT ps i=true->∀k<i+1,tT ps k=true:=λr k a=>by
    rcases dN k i with h|h
    ·exact n k h
    ·obtain rfl:k=i:=ak
     exact r
   have l:tT ps i=false->jB ps=false:=Kw b;rcases Nat.eq_zero_or_pos i with rfl|hpos
   ·simp only[go_sem,seval,qh ps b];repeat' with_reducible first|apply And.intro|exact .dq|refine aG.bC (by assumption) ?_|refine mO (λh=>?_) λh=>?_|refine ah.jE ak ?_ ?_|simp only[*,go_sem,seval]
    all_goals first
     |omega
     |rfl
     | (refine e0 ?_;rw[a];simp_all;done)
     | (refine e0 ?_;rw[a];simp_all[HT];omega)
     | (rw [l ?_]
        cases c:tT ps 0
        ·rfl
        ·exfalso;rw[a]at c;simp_all[HT])
     | (rw [l ?_]
        cases c:tT ps 0
        ·rfl
        ·exfalso;rw[a]at c;simp_all[HT];omega)
   ·obtain⟨j,rfl⟩:∃j,i=j+1:=⟨i-1,by omega⟩
    have o:j<ps.length:=ak
    have hw1:IntKind.wrap .i64 (((j+1:Nat):Int)-1)=(j:Int):=fQ;have q:ps.getD (j+1-1) ⟨0,0,0⟩=ps[j]:=by simp[o]
    rw[q]at a;have d:=n j ak;have p:iK ps[j].who ps[j].bT=true:=by
     rw[MT o]at d;simp only[bQ]at d;exact d.1.1.1
    replace a:tT ps (j+1)=(within ps[j+1].who 1 16&&within ps[j+1].bT 1 6&&within ps[j+1].units 1 1099511627776&&!HT ps[j] ps[j+1]):=by
     rw[a];cases e:within ps[j+1].who 1 16&&within ps[j+1].bT 1 6
     ·simp
     ·rw[<-xA]at e;rw[abf p e];simp
    simp only[go_sem,seval,qh ps b];repeat' with_reducible first|apply And.intro|exact .dq|refine aG.bC (by assumption) ?_|refine mO (λh=>?_) λh=>?_|refine ah.jE ak ?_ ?_|simp only[*,go_sem,seval,qh ps o]
    all_goals first
     |omega
     |rfl
     | (refine e0 ?_
        have s:HT ps[j] ps[j+1]=false:=by
         simp only[ff,beq_eq_false_iff_ne]at *;simp only[HT,Bool.or_eq_false_iff,Bool.and_eq_false_iff,gv,beq_eq_false_iff_ne];omega
        rw[a,s]
        simp only[*,Bool.and_self,Bool.not_false])
     | (refine e0 ?_;rw[a];simp_all;done)
     | (refine e0 ?_;rw[a];simp_all[HT];omega)
     | (rw [l ?_]
        cases c:tT ps (j+1)
        ·rfl
        ·exfalso;rw[a]at c;simp_all[HT])
     | (rw [l ?_]
        cases c:tT ps (j+1)
        ·rfl
        ·exfalso;rw[a]at c;simp_all[HT];omega)
  ·obtain rfl:i=ps.length:=ak
   have hc:=Gu n;exact ato
theorem DA(f:Int->Int->Int)(w:Int):∀n:Nat,(pZ f w n).length<=n
 | 0=>by simp[pZ]
 |n+1=>by have:=DA f w n;simp only[pZ,cR];split<;>simp<;>omega
theorem OL(f:Int->Int->Int):∀n:Nat,(enum f n).length<=6*n
 | 0=>by simp[enum]
 |n+1=>by have:=OL f n;have:=DA f (n+1) 6;simp only[enum,cR];omega
def Im(ps:List gC)(w a u:Int)(hl:ps.length<2^29) :
  Sq 162 [] [.sl 3 (pl ps),.int .i64 w,.int .i64 a,.int .i64 u] [.own 3 (pl (eZ ps w a u))] (.bI [.ref 0,.int .i64 (gz ps w a u)]):=by
 have D:=sj ps ak;have x:=iY w;have y:=xW a;have B:=iw u (-1099511627776) 1099511627776;have r:=AI w a ps ak;have e:=xA w a;refine bp 72 4 [.tmp 8,.tmp 9] mixed func162 ?_;refine sc aS D ?_;cases d:jB ps
 ·have b:gz ps w a u=14:=by simp[gz,d]
  have e2:eZ ps w a u=[]:=by simp[eZ,b]
  simp only[d,go_sem,seval,b,e2];rfl
 have C:=jg.1 d;have hur:=Da (w:=w) (a:=a) C.1;simp only[d,go_sem,seval];refine aG.bC x ?_;cases k:within w 1 16
 ·have b:gz ps w a u=3:=by simp[gz,d,e,k]
  have e2:eZ ps w a u=[]:=by simp[eZ,b]
  simp only[go_sem,seval,b,e2];rfl
 refine sc aS y ?_;cases l:within a 1 6
 ·have b:gz ps w a u=3:=by simp[gz,d,e,l]
  have e2:eZ ps w a u=[]:=by simp[eZ,b]
  simp only[go_sem,seval,b,e2];rfl
 have c:iK w a=true:=by rw[e,k,l];rfl
 refine sc aS B ?_;cases o:within u (-1099511627776) 1099511627776
 ·have b:gz ps w a u=3:=by
   have:(decide (-1099511627776<=u)&&decide (u<=1099511627776))=false:=o;simp only[gz,d,c,cm,this];rfl
  have e2:eZ ps w a u=[]:=by simp[eZ,b]
  simp only[go_sem,seval,b,e2];rfl
 have hub:-1099511627776<=u/\u<=1099511627776:=by simpa[within]using o
 refine sc aS r ?_;obtain⟨n,v⟩:=aN (dH w a ps+u);have s:IntKind.wrap .i64 (dH w a ps+u)=n:=by rw[gO ak ak,v]
 rcases Int.lt_or_le n 0 with h3|h3
 ·have b:gz ps w a u=13:=by simp[gz,d,c];omega
  have e2:eZ ps w a u=[]:=by simp[eZ,b]
  have q:decide (n<0)=true:=su h3;simp only[go_sem,seval,s,b,e2,q];rfl
 have q:decide (n<0)=false:=su h3;rcases Int.lt_or_le 1099511627776 n with h4|h4
 ·have b:gz ps w a u=1:=by simp[gz,d,c];omega
  have e2:eZ ps w a u=[]:=by simp[eZ,b]
  have t:decide (1099511627776<n)=true:=su h4;simp only[go_sem,seval,s,b,e2,q,t];rfl
 have t:decide (1099511627776<n)=false:=su h4;have b:gz ps w a u=0:=by simp[gz,d,c];omega
 have e2:eZ ps w a u=Kx w a n ps:=by simp[eZ,b,v]
 simp only[go_sem,seval,s,q,t,b,e2];rw[<-UZ C c h3 h4];clear v s b e2 r;refine aF.count 16 [0,1,2,10] [560] (λj=>[(12,.int .i64 ((j:Int)+1)),(11,.ref 1136)]) (λj=>[(1136,.own 3 (pl (enum (wg ps w a n) j)))]) (λ_=>True) trivial ?_ ?_
 ·simp only[go_sem,seval]<;>simp[enum,pl]
 ·intro j hj _;simp only[go_sem,seval];refine bS.fX (λh=>?_) (λh=>?_)
  ·have hj':j<16:=ak
   have hwj:IntKind.wrap .i64 ((j:Int)+1+1)=((j+1:Nat):Int)+1:=fQ;simp only[go_sem,seval];refine aF.count 6 [0,1,2,10,12] [560] (λi=>[(13,.int .i64 ((i:Int)+1)),(11,.ref 1136)]) (λi=>[(1136,.own 3 (pl (enum (wg ps w a n) j++pZ (wg ps w a n) (j+1) i)))]) (λ_=>True) trivial ?_ ?_
   ·simp only[go_sem,seval]<;>simp[pZ]
   ·intro i hi _;have hwi:IntKind.wrap .i64 ((i:Int)+1+1)=((i+1:Nat):Int)+1:=fQ;have r:=AI (j+1) (i+1) ps ak;simp only[go_sem,seval];refine bS.fX (λh=>?_) (λh=>?_)
    ·have hi':i<6:=ak
     have g:pl (enum (wg ps w a n) j++pZ (wg ps w a n) (j+1) (i+1))=pl (enum (wg ps w a n) j++pZ (wg ps w a n) (j+1) i)++if 0<wg ps w a n (j+1) (i+1)then[[.int .i64 (j+1),.int .i64 (i+1),.int .i64 (wg ps w a n (j+1) (i+1))]]else[]:=by
      simp only[pZ];split<;>simp[pl,gC.cells]
     have p:(enum (wg ps w a n) j++pZ (wg ps w a n) (j+1) i).length<=102:=by
      have:=OL (wg ps w a n) j;have:=DA (wg ps w a n) (j+1) i;simp only[cR];omega
     refine sc aS r ?_;repeat' with_reducible first|apply And.intro|refine mO (λh=>?_) λh=>?_|refine ah.jE ak ?_ ?_|exact aS|simp only[*,go_sem,seval]
     all_goals first
      |omega
      | (clear g p
         simp only[ff,beq_eq_false_iff_ne]at *;simp only[wg];(repeat' split)<;>first
          |rfl
          |omega
          | (simp;done)
          | (exfalso;omega))
    ·obtain rfl:i=6:=ak
     have e3:enum (wg ps w a n) (j+1)=enum (wg ps w a n) j++pZ (wg ps w a n) (j+1) 6:=rfl;exact ato
  ·obtain rfl:j=16:=ak
   simp only[go_sem,seval]
deriving instance DecidableEq for av,aE,aD,bU,aC
def dM.ch(x:dM):Nat->Int
 | 0=>x.c0| 1=>x.c1| 2=>x.c2| 3=>x.c3| _=>x.c4
theorem RV(a:List Int)(k:Int)(hl:a.length<2^62):Sq 198 [] [.sl 1 (ints a),.int .i64 k] [] (.int .i64 (lO id k a)):=by
 refine bp 19 2 [.tmp 4] mixed func198 ?_;simp only[go_sem,seval,az];refine aF.w1 a.length 8 [0,1,7] [] (λi _=>∀j (c:j<a.length),j<i->id a[j]≠k) (by intros;omega) ?_ ?_
 ·intro i _ o l q d;have hli:(i:Int)<(a.length:Int):=ak
  simp only[go_sem,seval,l,az,ints_at a o];refine bg ?_;cases g:k==a[i]
  ·have b:id a[i]≠k:=λh=>by simp only[id]at h;rw[h]at g;simp at g
   refine sm q ?_;refine ah.u o ?_ ?_
   ·intro j c hji;rcases dN j i with h|h
    ·exact d j c h
    ·obtain rfl:j=i:=ak
     exact b
   ·exact jq
  ·have b:id a[i]=k:=by simp only[id];have:=Sg g;omega
   obtain⟨p,e⟩:=mz (z:=(0:Int)) o d b;rw[e];exact jq
 ·intro _ n d;obtain⟨p,e⟩:=j7 (z:=(0:Int)) (λj c=>d j c c);rw[e];exact dL n
theorem zP{A:Type}{no:A->Int}{n:Int}:∀{xs:List A},decide (0<=lO no n xs)=xs.any (λx=>no x==n)
 | []=>by simp[lO]
 |x::r=>by
  have a:=zP (no:=no) (n:=n) (xs:=r);rw[nJ,decide_eq_true_iff]at a |-;rw[any_cons,Bool.or_eq_true,<-a,ff];simp only[lO];split
  ·simp[*]
  ·rename_i b;split
   ·exact⟨λh=>by omega,λh=>by rcases h with h|h;exact(b h).elim;omega⟩
   ·exact⟨λ_=>.inr ak,λh=>by omega⟩
theorem uY(a:List Int)(k:Int)(b:a.length<2^62):Sq 120 [] [.sl 1 (ints a),.int .i64 k] [] (.bool (sI a k)):=by
 have h:=RV a k b;have e:decide (0<=lO id k a)=sI a k:=by rw[zP];rfl
 refine bp 9 2 [.tmp 4] mixed func120 ?_;exact sZ e h
theorem fM:∀l m:List Int,ay (l++m)=ay l+ay m
 | [],m=>by simp[ay]
 |x::l,m=>by simp only[cons_append,ay,fM l m];omega
def av.zero:av:=⟨0,0,0⟩
theorem E7(xs:List av)(n:Int)(hl:xs.length<2^62):Sq 117 [] [.sl 3 (xs.map av.cells),.fn 54 [],.int .i64 n] [] (.bI [.agg (jj av.no n av.zero xs).cells,.int .i64 (lO av.no n xs)]):=by
 refine bp 27 3 [.cell 6 51,.tmp 7] mixed func117 ?_;refine s0 ?_;refine aF.w1 xs.length 13 [1,2,6,11,12] [112,208] (λi _=>∀j (b:j<xs.length),j<i->xs[j].no≠n) (by intros;omega) ?_ ?_
 ·intro i _ q o r e;have hm:=br (c:=av.cells) xs q;have d:=qV xs[i];simp only[av.cells]at hm d |-;refine sc (a2 o hm) d ?_;cases g:xs[i].no==n
  ·have a:xs[i].no≠n:=su g;refine sm (a2 g r) ?_;refine ah.u q ?_ ?_
   ·intro j b hji;rcases dN j i with h|h
    ·exact e j b h
    ·obtain rfl:j=i:=ak
     exact a
   ·exact jq
  ·have a:xs[i].no=n:=su g;obtain⟨k,l⟩:=mz (z:=av.zero) q e a;rw[k,l];exact dL g
 ·intro _ p e;obtain⟨k,l⟩:=j7 (z:=av.zero) (λj b=>e j b b);rw[k,l];simp only[go_sem,seval,p,av.cells,av.zero]
def fm(r:aA)(n:Int):av:=jj av.no n av.zero r.ms
def gw(r:aA)(n:Int):Bool:=decide (0<=lO av.no n r.ms)
def bD(r:aA)(n:Int):Int:=(fm r n).state
theorem lA(r:aA)(n:Int)(b:r.small):Sq 31 [] [.agg r.cells,.int .i64 n] [] (.bI [.agg (fm r n).cells,.bool (gw r n)]):=by
 have h:=E7 r.ms n (by have:=b.1;omega);obtain⟨g,a⟩:=aN (jj av.no n av.zero r.ms);simp only[fm,gw];rw[<-a]at h |-;simp only[av.cells]at h |-;simp only[aA.cells];refine bp 18 2 [.cell 4 51,.tmp 5] mixed func31 ?_;exact sZ aS h
theorem yJ(s:af)(n:Int)(b:s.aj.small):Sq 111 [] [.int .i64 n,.bE s.cells] [] (.int .i64 (bD s.aj n)):=by
 have h:=lA s.aj n b;simp only[bD];obtain⟨g,a⟩:=aN (fm s.aj n);rw[<-a]at h |-;simp only[aA.cells,av.cells]at h;simp only[af.cells];refine bp 15 2 [.tmp 3] mixed func111 ?_;exact sZ aS h
theorem Pm(s:af)(n:Int)(b:s.aj.small):Sq 112 [] [.int .i64 n,.bE s.cells] [] (.bool (bJ s.aj n)):=by
 have h:=vn s.aj n b;obtain⟨g,a⟩:=aN (aZ s.aj n);rw[<-a]at h;simp only[aA.cells,aE.cells]at h;simp only[af.cells];refine bp 14 2 [.tmp 3] mixed func112 ?_;exact sZ aS h
def At(r:aA)(n:Int):Bool:=bD r n==1||bD r n==2
theorem Pn(s:af)(n:Int)(b:s.aj.small):Sq 113 [] [.int .i64 n,.bE [.fn 111 [.bE s.cells]]] [] (.bool (At s.aj n)):=by
 have h:=yJ s n b;simp only[af.cells]at h |-;refine bp 14 2 [.tmp 3] mixed func113 ?_;refine sc aS h ?_;cases a:bD s.aj n==1
 ·refine sm a ?_;refine bg ?_;refine aG.bC h ?_;simp only[go_sem,seval,At,a,Bool.false_or]
 ·simp only[go_sem,seval,At,a,Bool.true_or]
def Po(s:af)(c:aI)(a:s.aj.small):Sq 116 [] [.agg c.cells,.bE [.fn 111 [.bE s.cells]]] [] (.bool (!(bD s.aj c.who==1))):=by
 have h:=yJ s c.who a;simp only[af.cells]at h |-;simp only[aI.cells];refine bp 10 2 [.tmp 3] mixed func116 ?_;refine s0 ?_;refine bg ?_;refine aG.bC h ?_;exact dL gr
theorem Gs(s:af)(cs:List aI)(q:s.aj.small)(o:cs.length<2^60):Sq 197 [] [.sl 4 (cs.map aI.cells),.fn 116 [.bE [.fn 111 [.bE s.cells]]]] [] (.int .i64 (lO (λc:aI=>if bD s.aj c.who==1 then 0 else 1) 1 cs)):=by
 have h:=λc=>Po s c q;simp only[af.cells,aI.cells]at h |-;refine bp 19 2 [.tmp 4] mixed func197 ?_;refine s0 ?_;refine aF.w1 cs.length 8 [0,1,7] [] (λi _=>∀j (a:j<cs.length),j<i->(if bD s.aj cs[j].who==1 then(0:Int)else 1)≠1) (by intros;omega) ?_ ?_
 ·intro i _ l g r b;have hm:=br (c:=aI.cells) cs l;have hli:(i:Int)<(cs.length:Int):=ak
  have o:=h cs[i];simp only[aI.cells]at hm;refine sc (a2 g hm) o ?_;cases d:bD s.aj cs[i].who==1
  ·obtain⟨p,e⟩:=mz (no:=λc:aI=>if bD s.aj c.who==1 then(0:Int)else 1) (n:=1) (z:=(⟨0,0,0,0⟩:aI)) l b (by simp[d]);rw[e];exact dL d
  ·refine sm (a2 d r) ?_;refine ah.u l ?_ ?_
   ·intro j a hji;rcases dN j i with h|h
    ·exact b j a h
    ·obtain rfl:j=i:=ak
     simp[d]
   ·exact jq
 ·intro _ k b;obtain⟨p,e⟩:=j7 (no:=λc:aI=>if bD s.aj c.who==1 then(0:Int)else 1) (n:=1) (z:=(⟨0,0,0,0⟩:aI)) (λj a=>b j a a);rw[e];exact dL k
def uA(r:aA)(c:aI):Bool:=bD r c.who==1
def BW(s:af)(cs:List aI)(d:s.aj.small)(b:cs.length<2^60):Sq 115 [] [.sl 4 (cs.map aI.cells),.fn 116 [.bE [.fn 111 [.bE s.cells]]]] [] (.bool (!cs.all (uA s.aj))):=by
 have h:=Gs s cs d b;have e:decide (0<=lO (λc:aI=>if bD s.aj c.who==1 then(0:Int)else 1) 1 cs) = !cs.all (uA s.aj):=by
  rw[zP,not_all_eq_any_not];congr 1;funext c;cases a:bD s.aj c.who==1<;>simp[uA,a]
 simp only[af.cells]at h |-;refine bp 9 2 [.tmp 4] mixed func115 ?_;exact sZ e h
def HV(r:aA)(p:aB):Bool:=At r p.who&&bJ r p.inst
def Ah(r:aA)(t:aR):Bool:=!(bD r t.jH==0)&&(!(bD r t.gK==0)&&bJ r t.inst)
def nq(r:aA)(n:Int):Bool:=decide (0<=lO aD.a n r.xs)
def yS(r:aA)(p:gC):Bool:=At r p.who&&nq r p.bT
def qC(s:af):Bool:=s.book.qs.all (HV s.aj)&&(s.book.ts.all (Ah s.aj)&&(s.ps.all (yS s.aj)&&s.calls.all (uA s.aj)))
def wI{A:Type}{f:A->Bool}{xs:List A}{i:Nat}(h:i<xs.length)(a:f xs[i]=false):xs.all f=false:=by
 cases b:xs.all f
 ·rfl
 ·rw[bL.1 b _ (dS h)]at a;cases a
def sG{A:Type}{f:A->Bool}{xs:List A}(h:∀j (a:j<xs.length),j<xs.length->f xs[j]=true):xs.all f=true:=bL.2 λx hx=>by
 obtain⟨j,a,rfl⟩:=mem_iff_getElem.1 hx;exact h j a a
def oP{A:Type}{f:A->Bool}{xs:List A}{i:Nat}(hi:i<xs.length)(c:∀j (a:j<xs.length),j<i->f xs[j]=true)(b:f xs[i]=true):∀j (a:j<xs.length),j<i+1->f xs[j]=true:=λj a hji=>by
 rcases dN j i with h|h
 ·exact c j a h
 ·obtain rfl:j=i:=ak
  exact b
def R4(s:af)(I:s.fit)(hc:s.calls.length<2^30):Sq 29 [] [.agg s.cells] [] (.bool (qC s)):=by
 obtain⟨r,G,_,hp⟩:=I;obtain⟨hb1,hb2⟩:=G;have y:=λn=>Pm s n r;have x:=λn=>yJ s n r;have B:=λn=>Pn s n r;have E:=λn=>zh s.aj n r;have F:=BW s s.calls r ak;simp only[aA.cells]at E;simp only[af.cells]at x y B F |-;refine bp 98 1 [.tmp 2] mixed func29 ?_;refine s0 ?_;refine aF.w1 s.book.qs.length 21 [1,3,4,5,19,20] [32,64,256,272,336] (λi _=>∀j (D:j<s.book.qs.length),j<i->HV s.aj s.book.qs[j]=true) (by intros;omega) ?_ ?_
 ·intro i _ l p t k;have hm:=br (c:=aB.cells) s.book.qs l;have e0:=oP l k;have q:HV s.aj s.book.qs[i]=false->qC s=false:=λh=>by simp[qC,wI l h]
  simp only[aB.cells]at hm;refine sl (a2 p hm) (B s.book.qs[i].who) ?_;cases b:At s.aj s.book.qs[i].who
  ·have:=q (by simp[HV,b]);exact dL (a2 b this)
  refine sl b (y s.book.qs[i].inst) ?_;cases d:bJ s.aj s.book.qs[i].inst
  ·have:=q (by simp[HV,b,d]);exact dL (a2 d this)
  refine sm (a2 d t) ?_;refine ah.u l (e0 (by simp[HV,b,d])) ?_;exact jq
 intro _ e k;have o:=sG k;have C:qC s=(s.book.ts.all (Ah s.aj)&&(s.ps.all (yS s.aj)&&s.calls.all (uA s.aj))):=by simp[qC,o]
 rw[C];clear C o k;refine sm e ?_;clear e;refine aF.w1 s.book.ts.length 44 [1,3,4,5,42,43] [32,64,256,272,704] (λi _=>∀j (D:j<s.book.ts.length),j<i->Ah s.aj s.book.ts[j]=true) (by intros;omega) ?_ ?_
 ·intro i _ l p t k;have hm:=br (c:=aR.cells) s.book.ts l;have e0:=oP l k;have q:Ah s.aj s.book.ts[i]=false->(s.book.ts.all (Ah s.aj)&&(s.ps.all (yS s.aj)&&s.calls.all (uA s.aj)))=false:=λh=>by simp[wI l h]
  simp only[aR.cells]at hm;refine sl (a2 p hm) (x s.book.ts[i].jH) ?_;cases b:bD s.aj s.book.ts[i].jH==0
  case true =>
   have:=q (by simp only[Ah,b];rfl);exact dL (a2 b this)
  refine sl b (x s.book.ts[i].gK) ?_;cases d:bD s.aj s.book.ts[i].gK==0
  case true =>
   have:=q (by simp only[Ah,b,d];rfl);exact dL (a2 d this)
  refine sl d (y s.book.ts[i].inst) ?_;cases v:bJ s.aj s.book.ts[i].inst
  ·have:=q (by simp only[Ah,b,d,v];rfl);exact dL (a2 v this)
  refine sm (a2 v t) ?_;refine ah.u l (e0 (by simp only[Ah,b,d,v];rfl)) ?_;exact jq
 intro _ e k;have o:=sG k;rw[o,cm];clear o k;have hpl:(pl s.ps).length=s.ps.length:=nG s.ps;refine sm e ?_;clear e;refine aF.w1 s.ps.length 71 [1,3,5,69,70] [32,64,272,1136] (λi _=>∀j (D:j<s.ps.length),j<i->yS s.aj s.ps[j]=true) (by intros;omega) ?_ ?_
 ·intro i _ l p t k;have hm:=qh s.ps l;have e0:=oP l k;have q:yS s.aj s.ps[i]=false->(s.ps.all (yS s.aj)&&s.calls.all (uA s.aj))=false:=λh=>by simp[wI l h]
  have o:=E s.ps[i].bT;obtain⟨g,H⟩:=aN (jj aD.a s.ps[i].bT ⟨0,0,0,0⟩ s.aj.xs);have w:decide (0<=lO aD.a s.ps[i].bT s.aj.xs)=nq s.aj s.ps[i].bT:=rfl;rw[<-H,w]at o;simp only[aD.cells]at o;refine sc (a2 p hm) o ?_;refine sl aS (B s.ps[i].who) ?_;cases b:At s.aj s.ps[i].who
  ·have:=q (by simp only[yS,b];rfl);exact dL (a2 b this)
  cases d:nq s.aj s.ps[i].bT
  ·have:=q (by simp only[yS,b,d];rfl);exact dL (a3 b d this)
  refine sm (a3 b d t) ?_;refine ah.u l (e0 (by simp only[yS,b,d];rfl)) ?_;exact jq
 intro _ e k;have o:=sG k;rw[o,cm];clear o k;refine sm e ?_;refine aG.gE [32,64] [] true sT ?_;refine s0 ?_;refine cz.gF F ?_;simp only[go_sem,seval,Bool.not_not]
def L3{x:Nat}(h:x<18446744073709551616):IntKind.wrap .u64 (x:Int)=x:=by rw[IntKind.wrap_u64];omega
def HQ(x:Nat):BitVec.ofInt 64 (x:Int)=BitVec.ofNat 64 x:=by simp
def aem(x s:Nat)(hs:s<64):yG .u64 (x:Int) (s:Int)=((x/2^s:Nat):Int):=by
 show(x:Int).fdiv (2^(min (s:Int).toNat 64))=_;rw[Int.toNat_natCast,Nat.min_eq_left ak,Int.fdiv_eq_ediv_of_nonneg _ (Int.le_of_lt (Int.pow_pos (by decide))),Int.natCast_ediv,Int.natCast_pow];rfl
def acv(x:Nat)(h:x<18446744073709551616):aaH .u64 (x:Int) 1=((x%2:Nat):Int):=by
 show IntKind.wrap .u64 (((BitVec.ofInt 64 (x:Int)) &&& (BitVec.ofInt 64 (1:Int))).toNat:Int)=_;rw[HQ,show BitVec.ofInt 64 (1:Int)=BitVec.ofNat 64 1 from rfl,BitVec.toNat_and,BitVec.toNat_ofNat,BitVec.toNat_ofNat,Nat.mod_eq_of_lt h,show 1%2^64=1 from rfl,Nat.and_one_is_mod,L3 ak]
def Kn(x:Nat):Bc .u64 (x:Int) 1=((2*x%18446744073709551616:Nat):Int):=by
 show IntKind.wrap .u64 ((x:Int)*2^(min (1:Int).toNat 64))=_;rw[show(2:Int)^(min (1:Int).toNat 64)=2 from rfl,IntKind.wrap_u64];omega
def bOr(y v:Nat)(hv:v<2)(a:2*y+v<18446744073709551616):ior .u64 ((2*y:Nat):Int) (v:Int)=((2*y+v:Nat):Int):=by
 show IntKind.wrap .u64 (((BitVec.ofInt 64 ((2*y:Nat):Int)) ||| (BitVec.ofInt 64 (v:Int))).toNat:Int)=_;rw[HQ,HQ,BitVec.toNat_or,BitVec.toNat_ofNat,BitVec.toNat_ofNat,Nat.mod_eq_of_lt ak,Nat.mod_eq_of_lt ak];have:=Nat.shiftLeft_add_eq_or_of_lt (b:=v) (i:=1) ak y;rw[Nat.shiftLeft_eq,show y*2^1=2*y by omega]at this;rw[<-this,L3 a]
def E0(xs:List av)(hl:xs.length<2^30):Sq 141 [] [.sl 3 (xs.map av.cells)] [.own 3 (xs.map av.cells)] (.ref 0):=by
 refine bp 8 1 [.tmp 2] mixed func141 ?_;refine s0 ?_;refine gM.As apI rfl ak ?_;intro b a;repeat' with_reducible first|refine mO (λh=>?_) λh=>?_|simp only[*,go_sem,seval,qE]
 all_goals first
  |omega
  | (rw[a (by assumption)])
  |skip
def Jx(xs:List aE)(hl:xs.length<2^30):Sq 142 [] [.sl 12 (xs.map aE.cells)] [.own 12 (xs.map aE.cells)] (.ref 0):=by
 refine bp 8 1 [.tmp 2] mixed func142 ?_;refine s0 ?_;refine gM.As apJ rfl ak ?_;intro b a;repeat' with_reducible first|refine mO (λh=>?_) λh=>?_|simp only[*,go_sem,seval,qE]
 all_goals first
  |omega
  | (rw[a (by assumption)])
  |skip
def GA(xs:List aE)(a:xs.length<2^30):Sq 142 [] [.sl 12 (xs.map aE.cells)] [] (.sl 12 (xs.map aE.cells)):=by
 refine Spec.frozen (Jx xs a) [0] rfl ?_;intro r;rcases r with _|r<;>rfl
def Gy(xs:List aD)(hl:xs.length<2^30):Sq 143 [] [.sl 4 (xs.map aD.cells)] [.own 4 (xs.map aD.cells)] (.ref 0):=by
 refine bp 8 1 [.tmp 2] mixed func143 ?_;refine s0 ?_;refine gM.As apK rfl ak ?_;intro b a;repeat' with_reducible first|refine mO (λh=>?_) λh=>?_|simp only[*,go_sem,seval,qE]
 all_goals first
  |omega
  | (rw[a (by assumption)])
  |skip
def EZ(xs:List aD)(a:xs.length<2^30):Sq 143 [] [.sl 4 (xs.map aD.cells)] [] (.sl 4 (xs.map aD.cells)):=by
 refine Spec.frozen (Gy xs a) [0] rfl ?_;intro r;rcases r with _|r<;>rfl
def yq(xs:List aR)(hl:xs.length<2^30):Sq 125 [] [.sl 7 (xs.map aR.cells)] [.own 7 (xs.map aR.cells)] (.ref 0):=by
 refine bp 8 1 [.tmp 2] mixed func125 ?_;refine s0 ?_;refine gM.As apL rfl ak ?_;intro b a;repeat' with_reducible first|refine mO (λh=>?_) λh=>?_|simp only[*,go_sem,seval,qE]
 all_goals first
  |omega
  | (rw[a (by assumption)])
  |skip
def E1(xs:List aR)(a:xs.length<2^30):Sq 125 [] [.sl 7 (xs.map aR.cells)] [] (.sl 7 (xs.map aR.cells)):=by
 refine Spec.frozen (yq xs a) [0] rfl ?_;intro r;rcases r with _|r<;>rfl
def Ms(xs:List aB)(hl:xs.length<2^30):Sq 288 [] [.sl 4 (xs.map aB.cells)] [.own 4 (xs.map aB.cells)] (.ref 0):=by
 refine bp 8 1 [.tmp 2] mixed func288 ?_;refine s0 ?_;refine gM.As apM rfl ak ?_;intro b a;repeat' with_reducible first|refine mO (λh=>?_) λh=>?_|simp only[*,go_sem,seval,qE]
 all_goals first
  |omega
  | (rw[a (by assumption)])
  |skip
def Jy(xs:List aB)(a:xs.length<2^30):Sq 288 [] [.sl 4 (xs.map aB.cells)] [] (.sl 4 (xs.map aB.cells)):=by
 refine Spec.frozen (Ms xs a) [0] rfl ?_;intro r;rcases r with _|r<;>rfl
def Dz(xs:List bU)(hl:xs.length<2^30):Sq 55 [] [.sl 4 (xs.map bU.cells)] [.own 4 (xs.map bU.cells)] (.ref 0):=by
 refine bp 8 1 [.tmp 2] mixed func55 ?_;refine s0 ?_;refine gM.As apO rfl ak ?_;intro b a;repeat' with_reducible first|refine mO (λh=>?_) λh=>?_|simp only[*,go_sem,seval,qE]
 all_goals first
  |omega
  | (rw[a (by assumption)])
  |skip
def B2(xs:List bU)(a:xs.length<2^30):Sq 55 [] [.sl 4 (xs.map bU.cells)] [] (.sl 4 (xs.map bU.cells)):=by
 refine Spec.frozen (Dz xs a) [0] rfl ?_;intro r;rcases r with _|r<;>rfl
def B3(xs:List aY)(hl:xs.length<2^30):Sq 61 [] [.sl 5 (xs.map aY.cells)] [.own 5 (xs.map aY.cells)] (.ref 0):=by
 refine bp 8 1 [.tmp 2] mixed func61 ?_;refine s0 ?_;refine gM.As agw rfl ak ?_;intro b a;repeat' with_reducible first|refine mO (λh=>?_) λh=>?_|simp only[*,go_sem,seval,qE]
 all_goals first
  |omega
  | (rw[a (by assumption)])
  |skip
def Mr(xs:List aU)(hl:xs.length<2^30):Sq 147 [] [.sl 3 (xs.map aU.cells)] [.own 3 (xs.map aU.cells)] (.ref 0):=by
 refine bp 8 1 [.tmp 2] mixed func147 ?_;refine s0 ?_;refine gM.As apQ rfl ak ?_;intro b a;repeat' with_reducible first|refine mO (λh=>?_) λh=>?_|simp only[*,go_sem,seval,qE]
 all_goals first
  |omega
  | (rw[a (by assumption)])
  |skip
def Jv(xs:List aU)(a:xs.length<2^30):Sq 147 [] [.sl 3 (xs.map aU.cells)] [] (.sl 3 (xs.map aU.cells)):=by
 refine Spec.frozen (Mr xs a) [0] rfl ?_;intro r;rcases r with _|r<;>rfl
def Jw(xs:List dM)(hl:xs.length<2^30):Sq 148 [] [.sl 8 (xs.map dM.cells)] [.own 8 (xs.map dM.cells)] (.ref 0):=by
 refine bp 8 1 [.tmp 2] mixed func148 ?_;refine s0 ?_;refine gM.As apP rfl ak ?_;intro b a;repeat' with_reducible first|refine mO (λh=>?_) λh=>?_|simp only[*,go_sem,seval,qE]
 all_goals first
  |omega
  | (rw[a (by assumption)])
  |skip
def Gz(xs:List dM)(a:xs.length<2^30):Sq 148 [] [.sl 8 (xs.map dM.cells)] [] (.sl 8 (xs.map dM.cells)):=by
 refine Spec.frozen (Jw xs a) [0] rfl ?_;intro r;rcases r with _|r<;>rfl
structure af.mid(s:af):Prop where
 small:s.small
 bs:s.bf.bs.length<2^20
 qs:s.book.qs.length<2^20
 ns:s.aj.ns.length<2^20
def alW(l:List ByteArray):List (List D):=l.map λs=>[.str s]
theorem alX(l:List ByteArray):(alW l).length=l.length:=by simp[alW]
def apk(s1 s2 s3 s4 s5 t u v w e g h i:ByteArray)(j k l n o p q r s a b c d:Bool):List (ByteArray×Bool):=[(s1,j),(s2,k),(s3,l),(s4,n),(s5,o),(t,p),(u,q),(v,r),(w,s),(e,a),(g,b),(h,c),(i,d)]
def parts(a b:af):List (ByteArray×Bool):=apk ⟨#[67,108,111,99,107]⟩ ⟨#[77,101,109,98,101,114,115]⟩ ⟨#[73,110,115,116,115]⟩ ⟨#[65,115,115,101,116,115]⟩ ⟨#[78,101,120,116]⟩ ⟨#[84,114,97,100,101,115]⟩ ⟨#[80,111,115,115]⟩ ⟨#[76,97,115,116]⟩ ⟨#[66,97,108,97,110,99,101,115]⟩ ⟨#[80,108,101,100,103,101,115]⟩ ⟨#[67,97,108,108,115]⟩ ⟨#[66,105,100,115]⟩ ⟨#[83,101,97,116,115]⟩ (a.now==b.now&&(a.day==b.day&&a.phase==b.phase)) (decide (a.aj.ms=b.aj.ms)) (decide (a.aj.ns=b.aj.ns)) (decide (a.aj.xs=b.aj.xs)) (a.book.next==b.book.next) (decide (a.book.ts=b.book.ts)) (decide (a.book.qs=b.book.qs)) (a.bf.last==b.bf.last) (decide (a.bf.bs=b.bf.bs)) (decide (a.ps=b.ps)) (decide (a.calls=b.calls)) (decide (a.aW=b.aW)) (decide (a.aT=b.aT))
@[reducible] def ar5(x:Int):List D:=[.I x]
theorem aj8(n0 n1 a b c:Int)(d r1 r2 r3 r4 r5 r6 e g h:List (List D)):(ia [0,1,2,3,4,5,6,7,8,9] (sM [(0,.agg [.int .i64 n0,.int .i64 n1,.int .i64 a,.ref 0,.ref 1,.ref 2,.int .i64 b,.ref 3,.ref 4,.int .i64 c,.ref 5,.ref 6,.ref 7,.ref 8,.ref 9])] (uw 0 [.own 3 d,.own 12 r1,.own 4 r2,.own 7 r3,.own 4 r4,.own 4 r5,.own 3 r6,.own 4 e,.own 5 g,.own 7 h]))).t 0=.agg [.int .i64 n0,.int .i64 n1,.int .i64 a,.sl 3 d,.sl 12 r1,.sl 4 r2,.int .i64 b,.sl 7 r3,.sl 4 r4,.int .i64 c,.sl 4 r5,.sl 3 r6,.sl 4 e,.sl 5 g,.sl 7 h]:=by
 kernel_rfl
def ae5(d:D)(a r1 r2 r3 r4 r5 r6 b c e:List (List D))(r:Nat):(ia [0,1,2,3,4,5,6,7,8,9] (sM [(0,d)] (uw 0 [.own 3 a,.own 12 r1,.own 4 r2,.own 7 r3,.own 4 r4,.own 4 r5,.own 3 r6,.own 4 b,.own 5 c,.own 7 e]))).o r=[].getD r .undef:=by
 rcases r with _| _| _| _| _| _| _| _| _| _|r<;>kernel_rfl
def aX(s:af)(a:s.small):Sq 20 [] [.agg s.cells] [] (.agg s.cells):=by
 have h:=uu s a;simp only[QO,I5]at h;simp only[af.cells];simp only[af.cells]at h;exact Spec.frozen h [0,1,2,3,4,5,6,7,8,9] (aj8 ..) (λr=>ae5 ..)
def adq{A:Type}{no:A->Int}{l m:List A}(c:l.Pairwise λa b=>no a<no b)(d:m.Pairwise λa b=>no a<no b)(h:∀x,x∈l↔x∈m):l=m:=by
 have g:∀{l:List A},l.Pairwise (λa b=>no a<no b)->l.Nodup:=λh=>h.imp λ{a b} hab e=>by subst e;omega
 exact Perm.eq_of_pairwise (le:=λa b=>no a<no b) (λa b _ _ x y=>by omega) c d ((perm_ext_iff_of_nodup (g c) (g d)).2 h)
attribute [go_sem] alX
section
variable{A:Type}{no:A->Int}{z m:A}{xs:List A}{N:Nat}{f:Nat->List A}(hp:xs.Pairwise λa b=>no a<no b)(hx:∀x∈xs,1<=no x/\no x<=N)(hm:1<=no m/\no m<=N)
 (hf:∀i:Nat,i<N->f i=if(i:Int)+1=no m then[m]else if decide (0<=lO no ((i:Int)+1) xs)=true then[jj no ((i:Int)+1) z xs]else[]) {k:Nat}
include hp hx hm hf
end
def Nx(r:aA)(h:r.jX):Sq 52 [] [.agg r.cells] [.own 3 (r.ms.map av.cells)] (.agg [.ref 0,.sl 12 (r.ns.map aE.cells),.sl 4 (r.xs.map aD.cells)]):=by
 obtain⟨a,b,c⟩:=h;have c1:=E0 r.ms a;have c2:=GA r.ns b;have c3:=EZ r.xs c;simp only[aA.cells];refine bp 13 1 [.cell 2 30] mixed func52 ?_;refine so aS c1 ?_;refine sc aS c2 ?_;exact sZ aS c3
def ug(x:bX):Prop:=x.r.OK.length<2^30/\x.r.falls.length<2^30
def GB(l:List bX)(hl:l.length<2^30)(o:∀x∈l,ug x):Sq 63 [] [.sl 7 (l.map bX.cells)] [.own 7 (l.map bX.cells)] (.ref 0):=by
 refine bp 30 1 [.tmp 2] mixed func63 ?_;refine s0 ?_;refine bg ?_;refine aF.wv l.length [6,7] [128] (λi=>[(8,.I i),(3,.ref 448)]) (λi=>[(448,.own 7 ((l.take i).map bX.cells))]) ?_ ?_ ?_
 ·exact kG
 ·intro i _ d e h _;obtain⟨x,hx,hm,hli⟩:=oc (c:=bX.cells) l d;obtain⟨k,n⟩:=o _ (dS d);have a:(l.take (i+1)).map bX.cells=(l.take i).map bX.cells++[bX.cells l[i]]:=by rw[jU d,jF];rfl
  have b:((l.take i).map bX.cells).length=i:=by simp;omega
  rw[<-hx]at k n a;have c1:=Jv x.r.OK k;have c2:=Gz x.r.falls n;obtain⟨O,j⟩:=aN ((l.take i).map bX.cells);rw[<-j]at a b |-;simp only[bX.cells]at hm a;clear hx j o;refine sc (a2 e hm) c1 ?_;refine sc (a2 b h) c2 ?_;refine bg ?_;refine ah.v d ?_;exact dL a
 ·intro _ g _;simp only[go_sem,seval,g,eu]
def E2(l:List bX)(a:l.length<2^30)(b:∀x∈l,ug x):Sq 63 [] [.sl 7 (l.map bX.cells)] [] (.sl 7 (l.map bX.cells)):=by
 refine Spec.frozen (GB l a b) [0] rfl ?_;intro r;rcases r with _|r<;>rfl
def F5(l:List aB):Int:=if right (l.map aB.aO)&&right (l.map aB.cost)then(if bB (ay (l.map aB.aO))&&bB (ay (l.map aB.cost))then 0 else 1)else 3
def WR(l:List aB):Int:=if F5 l=0 then ay (l.map aB.aO)else 0
def ZS(l:List aB):Int:=if F5 l=0 then ay (l.map aB.cost)else 0
theorem K5{A:Type}(f:A->Int){xs:List A}{i:Nat}(h:i<xs.length):ints ((xs.take (i+1)).map f)=ints ((xs.take i).map f)++[[.int .i64 (f xs[i])]]:=by
 rw[jU h,jF];simp only[ints,jF];rfl
theorem Kc(l:List aB)(hl:l.length<2^30):Sq 289 [] [.sl 4 (l.map aB.cells)] [] (.bI [.int .i64 (WR l),.int .i64 (ZS l),.int .i64 (F5 l)]):=by
 have r1:=fq (l.map aB.aO) (by simp;omega);have r2:=fq (l.map aB.cost) (by simp;omega);have s1:=jr (l.map aB.aO) (by simp;omega);have s2:=jr (l.map aB.cost) (by simp;omega);obtain⟨q,n⟩:=aN (WR l);obtain⟨c,j⟩:=aN (ZS l);obtain⟨e,k⟩:=aN (F5 l);rw[<-n,<-j,<-k];refine bp 52 1 [.tmp 2,.tmp 3,.tmp 4] mixed func289 ?_;refine s0 ?_;refine aF.wv l.length [9,10] [176] (λi=>[(11,.I i),(5,.ref 320),(6,.ref 400)]) (λi=>[(320,.own 1 (ints ((l.take i).map aB.aO))),(400,.own 1 (ints ((l.take i).map aB.cost)))]) ?_ ?_ ?_
 ·simp only[go_sem,seval]<;>simp[ints]
 ·intro i _ o p t _;obtain⟨x,hx,hm,-⟩:=oc (c:=aB.cells) l o;have s1:=K5 aB.aO o;have s2:=K5 aB.cost o;have s:(l.take i).length=i:=by simp;omega
  rw[<-hx]at s1 s2;simp only[aB.cells]at hm;simp only[go_sem,seval,p,hm,t,az,s];refine bg ?_;refine ah.v o ?_;exact dL (a2 s1 s2)
 ·intro _ r _;rw[oI,oa]at s1 s2;obtain⟨R,a⟩:∃b,b=right (l.map aB.aO):=⟨_,rfl⟩
  obtain⟨T,d⟩:∃b,b=right (l.map aB.cost):=⟨_,rfl⟩
  obtain⟨I,g⟩:∃b,b=bB (ay (l.map aB.aO)):=⟨_,rfl⟩
  obtain⟨J,h⟩:∃b,b=bB (ay (l.map aB.cost)):=⟨_,rfl⟩
  rw[<-a]at r1 s1;rw[<-d]at r2 s2;rw[<-g]at s1;rw[<-h]at s2;simp only[go_sem,seval,r,eu];cases R
  ·rw[show q=0 by rw[n,WR,F5,<-a];rfl,show c=0 by rw[j,ZS,F5,<-a];rfl,show e=3 by rw[k,F5,<-a];rfl];refine WQ aS r1
  refine sl aS r1 ?_;cases T
  ·rw[show q=0 by rw[n,WR,F5,<-a,<-d];rfl,show c=0 by rw[j,ZS,F5,<-a,<-d];rfl,show e=3 by rw[k,F5,<-a,<-d];rfl];refine WQ aS r2
  refine sl aS r2 ?_;cases I
  ·rw[show q=0 by rw[n,WR,F5,<-a,<-d,<-g];rfl,show c=0 by rw[j,ZS,F5,<-a,<-d,<-g];rfl,show e=1 by rw[k,F5,<-a,<-d,<-g];rfl];refine WQ aS s1
  refine sl aS s1 ?_;cases J
  ·rw[show q=0 by rw[n,WR,F5,<-a,<-d,<-g,<-h];rfl,show c=0 by rw[j,ZS,F5,<-a,<-d,<-g,<-h];rfl,show e=1 by rw[k,F5,<-a,<-d,<-g,<-h];rfl];refine WQ aS s2
  rw[show q=ay (l.map aB.aO)by rw[n,WR,F5,<-a,<-d,<-g,<-h];rfl,show c=ay (l.map aB.cost)by rw[j,ZS,F5,<-a,<-d,<-g,<-h];rfl,show e=0 by rw[k,F5,<-a,<-d,<-g,<-h];rfl];exact WQ aS s2
def JE{A:Type}(p:A->Bool):List A->Int
 | []=>-1
 |t::r=>if p t then 0 else if JE p r<0 then -1 else JE p r+1
theorem G9{A:Type}{p:A->Bool}:∀{xs:List A} {i:Nat} (h:i<xs.length),(∀j (b:j<xs.length),j<i->p xs[j]=false)->p xs[i]=true->JE p xs=i
 | [],i,h,_,_=>by simp at h
 |x::r,0,h,_,a=>by
  have a:p x=true:=a;simp[JE,a]
 |x::r,i+1,h,hn,a=>by
  have c:p x=false:=hn 0 sT ak;have d:=G9 (xs:=r) (i:=i) (su h) (λj b hji=>hn (j+1) (su b) ak) a;simp only[JE,c,d];rw[au sT,au ak];omega
theorem DF{A:Type}{p:A->Bool}:∀{xs:List A},(∀j (a:j<xs.length),p xs[j]=false)->JE p xs = -1
 | [],_=>rfl
 |x::r,hn=>by
  have b:p x=false:=hn 0 sT;have c:=DF (xs:=r) (λj a=>hn (j+1) (su a));simp[JE,b,c]
