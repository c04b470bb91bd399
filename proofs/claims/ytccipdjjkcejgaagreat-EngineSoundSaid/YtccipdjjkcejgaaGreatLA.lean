/- What EngineSound needs. No theorem of a claim. -/
import Derived.Test.YtccipdjjkcejgaaGreatMZ
set_option linter.unusedSimpArgs false
set_option linter.unusedVariables false
set_option maxHeartbeats 4000000
set_option maxRecDepth 16000
namespace Go.Proofs.YtccipdjjkcejgaaGreat
open Go.Abs Tryz
open List hiding lt min
theorem xQw (n:Int) (h:-9223372036854775808<=n/\n<=9223372036854775807):Sq 249 [] [.I n] [] (.agg (wd n)):=by
 have a:IntKind.wrap .u64 n=n%18446744073709551616:=IntKind.wrap_u64 n;refine bf 11 1 [.cell 2 190] mixed func249 ?_;rcases Int.lt_or_le n 0 with hn | hn
 ·have d:decide (n < 0)=true:=dI hn;have e:n / 18446744073709551616 = -1:=ah
  simp only [go_sem,seval,d,a,wd,e]
 ·have d:decide (n < 0)=false:=jL;have e:n / 18446744073709551616=0:=ah
  simp only [go_sem,seval,d,a,wd,e]
theorem xQi (n:Int):Sq 205 [] [.I n] [] (.bool (bQ n)):=by
 refine bf 9 1 [.tmp 2] mixed func205 ?_;refine s0 ?_;repeat' with_reducible first|apply And.intro|exact .dq|refine aD.bp (by assumption) ?_|refine pq (fun h=>?_) fun h=>?_|refine .id ?_|refine av.eS ah ?_ ?_|exact aJ|simp only [*,go_sem,seval]
 all_goals (rw [lA];simp [bQ];omega)
theorem xXq (S:Int):Sq 247 [] [.agg (wd S)] [] (.bT [.I (if bQ S then S else 0),.bool (bQ S)]):=by
 obtain ⟨n,h⟩:=aQ (IntKind.wrap .i64 (S%18446744073709551616));have a:n=if S%18446744073709551616 < 9223372036854775808 then S%18446744073709551616 else S%18446744073709551616-18446744073709551616:=by
  rw [h,IntKind.wrap_i64];split<;>omega
 have d:-9223372036854775808<=n/\n<=9223372036854775807:=by rw [a];split<;>omega
 have f:=xQw n d;have hr:=xQi n;have g:(n%18446744073709551616==S%18446744073709551616)=true:=by rw [eH,a];split<;>omega
 simp only [wd] at f |-;refine bf 18 1 [.tmp 2,.tmp 3] mixed func247 ?_;simp only [go_sem,seval,<- h];refine ⟨eZ.mk (by kernel_rfl),aD.bp f ?_⟩;by_cases hS:-9223372036854775808<=S/\S < 9223372036854775808
 ·have b:n=S:=by rw [a];split<;>omega
  have e:(n / 18446744073709551616==S / 18446744073709551616)=true:=by rw [b];exact beq_self_eq_true _
  refine sm (a2 g e) ?_;refine ⟨vO.mk (by kernel_rfl),aD.bp hr ?_⟩;rw [b];cases c:bQ S
  ·simp only [go_sem,seval,c,nJ,if_false]
  ·simp only [go_sem,seval,c,if_true]
 ·have e:(n / 18446744073709551616==S / 18446744073709551616)=false:=by
   rw [beq_eq_false_iff_ne,a];split<;>omega
  have c:bQ S=false:=by simp only [bQ,Bool.and_eq_false_iff,gM];omega
  simp only [go_sem,seval,g,e,c,nJ,if_false];exact vO.mk (by kernel_rfl)
theorem xXy (A B c:Int) (hc:0<=c/\c<=1) (hB:-9223372036854775808<=B/\B<=9223372036854775807) :
  A / 18446744073709551616+(A%18446744073709551616+B%18446744073709551616+c) / 18446744073709551616+(if B < 0 then -1 else 0)=(A+B+c) / 18446744073709551616:=by
 split<;>omega
theorem xXr (l:List Int) (hl:l.length < 2 ^ 58) (hr:∀ n∈l,Oa n=true):Sq 244 [] [.sl 2 (Pa l)] [] (.bT [.agg (wd (if Oa (aG l) then aG l else 0)),.bool (Oa (aG l))]):=by
 refine bf 75 1 [.cell 2 190,.tmp 3] mixed func244 ?_;refine s0 ?_;refine aM.count l.length [0,2] [48] (fun i=>[(7,.I i),(6,.int .u64 (aG (l.take i)%18446744073709551616)),(5,.int .u64 ((aG (l.take i) / 18446744073709551616)%18446744073709551616)),(4,.I (aG (l.take i) / 18446744073709551616 / 18446744073709551616))]) (fun i=>[]) (fun i=>True) trivial ?_ ?_
 ·simp only [go_sem,seval]<;>simp [aG]
 ·intro i q _;refine s0 ?_;refine bF.fM (fun h=>?_) (fun h=>?_)
  ·have a:i < l.length:=ah
   have Q:IntKind.wrap .i64 ((i:Int)+1)=((i+1:Nat):Int):=gN;have R:=hr l[i] (ck a);have x:∀ n∈l.take i,Oa n=true:=fun n g=>hr n (mem_of_mem_take g);have H:=OY x;have hlt:(l.take i).length<=l.length:=by simp;omega
   obtain ⟨S,G⟩:=aQ (aG (l.take i));obtain ⟨n,g⟩:=aQ (l[i]);have f:aG (l.take (i+1))=S+n:=by rw [l7 a,uO,G,g]
   rw [<- g] at R;rw [<- G] at H;simp only [Oa,cU,bL] at R;obtain ⟨B,t⟩:=aQ (n / 18446744073709551616);have F:-9223372036854775808<=B/\B<=9223372036854775807:=ah
   have W:IntKind.wrap .u64 B=B%18446744073709551616:=IntKind.wrap_u64 B;obtain ⟨c,O⟩:=aQ ((S%18446744073709551616+n%18446744073709551616+0) / 18446744073709551616);have K:0<=c/\c<=1:=ah
   have z:=xXy (S / 18446744073709551616) B c K F;have M:=aeY S n;have N:=div_add S n;rw [<- t,<- O] at M N;rw [N] at z;obtain ⟨d,P⟩:=aQ ((S / 18446744073709551616%18446744073709551616+B%18446744073709551616+c) / 18446744073709551616);have hdr:0<=d/\d<=1:=ah
   obtain ⟨e,b⟩:=aQ (S / 18446744073709551616 / 18446744073709551616);have htr:-4611686018427387904<=e/\e<=4611686018427387904:=ah
   have w1:IntKind.wrap .i64 d=d:=gA ah ah;have U:IntKind.wrap .i64 (e+d)=e+d:=gA ah ah;have X:IntKind.wrap .i64 (e+d-1)=e+d-1:=gA ah ah;rw [<- b,<- P] at z;simp only [go_sem,seval,akp l a,<- g,<- G,<- t];refine ⟨by omega,?_⟩;refine aD.sem rfl ?_;with_reducible refine dH.Ns (k:=299) (fn:=Tryz.f299) (i:=S%18446744073709551616) (j:=n%18446744073709551616) (m:=0) ?_ func299 ?_ ?_ ue ud ?_ ?_ ?_ ?_ ?_ ?_ ?_ ?_ ?_
   iterate 11 (first | rfl | omega)
   simp only [go_sem,seval,W,<- O,akp l a,<- g,<- t];refine ⟨by omega,?_⟩;refine aD.sem rfl ?_;with_reducible refine dH.Ns (k:=299) (fn:=Tryz.f299) (i:=S / 18446744073709551616%18446744073709551616) (j:=B%18446744073709551616) (m:=c) ?_ func299 ?_ ?_ ue ud ?_ ?_ ?_ ?_ ?_ ?_ ?_ ?_ ?_
   iterate 11 (first | rfl | omega)
   rw [<- P,M,aaL];rcases Int.lt_or_le B 0 with hB0 | hB0
   ·have D:decide (B < 0)=true:=dI hB0;rw [aq hB0] at z;have E:e+d-1=(S+n) / 18446744073709551616 / 18446744073709551616:=ah
    simp only [go_sem,seval,<- b,w1,U,akp l a,<- g,<- t,D,X,Q];refine ⟨by omega,av.eS a trivial ?_⟩;simp only [go_sem,seval,f,E]
   ·have D:decide (B < 0)=false:=jL;rw [ak ah] at z;have E:e+d=(S+n) / 18446744073709551616 / 18446744073709551616:=ah
    simp only [go_sem,seval,<- b,w1,U,akp l a,<- g,<- t,D,Q];refine ⟨by omega,av.eS a trivial ?_⟩;simp only [go_sem,seval,f,E]
  ·obtain rfl:i=l.length:=ah
   obtain ⟨T,u⟩:=aQ (aG l);have J:=OY hr;rw [<- u] at J |-;obtain ⟨A,C⟩:=aQ (T / 18446744073709551616);obtain ⟨m,v⟩:=aQ (IntKind.wrap .i64 (A%18446744073709551616));have r:m=if A%18446744073709551616 < 9223372036854775808 then A%18446744073709551616 else A%18446744073709551616-18446744073709551616:=by
    rw [v,IntKind.wrap_i64];split<;>omega
   obtain ⟨e,b⟩:=aQ (A / 18446744073709551616);by_cases q:Oa T=true
   ·have hi2:=q;simp only [Oa,cU,bL] at hi2;have w:m=A:=by rw [r];split<;>omega
    rw [aq q,q];rcases Int.lt_or_le A 0 with hs | hs
    ·have o:(e==0)=false:=by rw [beq_eq_false_iff_ne];omega
     have s:(e == -1)=true:=by rw [eH];omega
     have p:decide (A < 0)=true:=dI hs;simp only [go_sem,seval,jr,<- u,<- C,<- v,<- b,w,o,s,p,wd]
    ·have o:(e==0)=true:=by rw [eH];omega
     have p:decide (0<=A)=true:=dI hs;simp only [go_sem,seval,jr,<- u,<- C,<- v,<- b,w,o,p,wd]
   ·have hi2:¬ (-170141183460469231731687303715884105728<=T/\T < 170141183460469231731687303715884105728):=by
     simpa only [Oa,cU,bL] using q
    have L:Oa T=false:=by simpa using q
    rw [ak q,L];have y:wd 0=[.I 0,.int .u64 0]:=rfl;rcases Int.lt_or_le m 0 with hs | hs
    ·have s:(e == -1)=false:=by rw [beq_eq_false_iff_ne];rw [r] at hs;split at hs<;>omega
     have p:decide (m < 0)=true:=dI hs;have V:decide (0<=m)=false:=jL;cases o:(e==0)<;>simp only [go_sem,seval,jr,<- u,<- C,<- v,<- b,o,s,p,V,y]
    ·have o:(e==0)=false:=by rw [beq_eq_false_iff_ne];rw [r] at hs;split at hs<;>omega
     have p:decide (m < 0)=false:=jL;cases s:(e == -1)<;>simp only [go_sem,seval,jr,<- u,<- C,<- v,<- b,o,s,p,y]
theorem xQd (a b c:Int):Sq 178 [] [.I a,.I b,.I c] [] (.bool (within a b c)):=by
 refine bf 15 3 [.tmp 6] mixed func178 ?_;refine s0 ?_;repeat' with_reducible first|apply And.intro|exact .dq|refine aD.bp (by assumption) ?_|refine pq (fun h=>?_) fun h=>?_|refine .id ?_|refine av.eS ah ?_ ?_|exact aJ|simp only [*,go_sem,seval]
 all_goals (simp only [within];simp<;>omega)
theorem xQg (a b c:Int):Sq 165 [] [.I a,.I b,.I c] [] (.bool (within a b c)):=by
 refine bf 15 3 [.tmp 6] mixed func165 ?_;refine s0 ?_;repeat' with_reducible first|apply And.intro|exact .dq|refine aD.bp (by assumption) ?_|refine pq (fun h=>?_) fun h=>?_|refine .id ?_|refine av.eS ah ?_ ?_|exact aJ|simp only [*,go_sem,seval]
 all_goals (simp only [within];simp<;>omega)
theorem xQk (c:Int):Sq 212 [] [.I c] [] (.bool (within c 0 2)):=by
 have h:=xQd c 0 2;refine bf 5 1 [.tmp 2] mixed func212 ?_;refine s0 ?_;repeat' with_reducible first|apply And.intro|exact .dq|refine aD.bp (by assumption) ?_|refine pq (fun h=>?_) fun h=>?_|refine .id ?_|refine av.eS ah ?_ ?_|exact aJ|simp only [*,go_sem,seval]
theorem xQf (c:Int):Sq 210 [] [.I c] [] (.bool (within c 1 16)):=by
 have h:=xQd c 1 16;refine bf 5 1 [.tmp 2] mixed func210 ?_;refine s0 ?_;repeat' with_reducible first|apply And.intro|exact .dq|refine aD.bp (by assumption) ?_|refine pq (fun h=>?_) fun h=>?_|refine .id ?_|refine av.eS ah ?_ ?_|exact aJ|simp only [*,go_sem,seval]
theorem xQv (c:Int):Sq 211 [] [.I c] [] (.bool (within c 1 6)):=by
 have h:=xQg c 1 6;refine bf 5 1 [.tmp 2] mixed func211 ?_;refine s0 ?_;repeat' with_reducible first|apply And.intro|exact .dq|refine aD.bp (by assumption) ?_|refine pq (fun h=>?_) fun h=>?_|refine .id ?_|refine av.eS ah ?_ ?_|exact aJ|simp only [*,go_sem,seval]
theorem xXj (x:ay):Sq 203 [] [.agg x.cells] [] (.bool x.ok):=by
 have h1:=xQd x.a 1 6;have h2:=xQk x.b;have h3:=xQd x.c 1 1073741824;have h4:=xQd x.d 0 10000;refine bf 21 1 [.tmp 2] mixed func203 ?_;simp only [go_sem,seval,ay.cells];repeat' with_reducible first|apply And.intro|exact .dq|refine aD.bp (by assumption) ?_|refine pq (fun h=>?_) fun h=>?_|refine .id ?_|refine av.eS ah ?_ ?_|exact aJ|simp only [*,go_sem,seval]
 all_goals (simp only [ay.ok];simp_all)
theorem xXc (x:au):Sq 201 [] [.agg x.cells] [] (.bool x.ok):=by
 have a:=xQf x.no;have b:=xQd x.state 1 3;have c:=xQd x.need 0 4611686018427387904;simp only [au.cells];refine bf 16 1 [.tmp 2] mixed func201 ?_;refine s0 ?_;repeat' with_reducible first|apply And.intro|exact .dq|refine aD.bp (by assumption) ?_|refine aD.bp (a) ?_|refine aD.bp (b) ?_|refine aD.bp (c) ?_|refine pq (fun h=>?_) fun h=>?_|refine .id ?_|refine av.eS ah ?_ ?_|exact aJ|simp only [*,go_sem,seval]
 all_goals first
  | (simp_all [au.ok];done)
  | (rw [lA];simp_all [au.ok,within,bQ];omega)
theorem xQt (x:aC):Sq 202 [] [.agg x.cells] [] (.bool x.ok):=by
 have q:=xQd x.no 1 8;have r:=xQk x.cur;have s:=xQd x.mult 1 1024;have t:=xQd x.add 0 1073741824;have v:=xQd x.set 0 1073741824;have w:=xQd x.aH 0 1073741824;simp only [aC.cells];refine bf 42 1 [.tmp 2] mixed func202 ?_;refine s0 ?_;refine aM.w1 6 3 [1] [32] (fun i _=>∀ j < i,within (x.sh j) (-1073741824) 1073741824=true) (by intros;omega) ?_ ?_
 ·intro i _ k b z f;have b:decide ((i:Int) < 6)=true:=b;have d:=aj9 x.sh k;have p:[D.I (x.sh 0),D.I (x.sh 1),D.I (x.sh 2),D.I (x.sh 3),D.I (x.sh 4),D.I (x.sh 5)]=[D.I x.s0,D.I x.s1,D.I x.s2,D.I x.s3,D.I x.s4,D.I x.s5]:=rfl;rw [p] at d;have a:(drop (6+i*1) x.cells).headD .undef=.I (x.sh i):=by
   rcases i with _ | _ | _ | _ | _ | _ | i<;>first | rfl | omega
  simp only [aC.cells] at a;have y:=xQd (x.sh i) (-1073741824) 1073741824;refine sc (a3 b d a) y ?_;cases g:within (x.sh i) (-1073741824) 1073741824
  ·have o:x.WR=false:=by
    cases l:x.WR
    ·rfl
    ·rw [aC.WR,dn] at l;rw [l i (mem_range.2 k)] at g;cases g
   have e2:x.ok=false:=by simp [aC.ok,o]
   exact fL e2
  ·refine sm z ?_;refine av.u k ?_ ?_
   ·intro j m;rcases bZ j i with h | h
    ·exact f j h
    ·obtain rfl:j=i:=ah
     exact g
   ·exact gU
 ·intro _ c f;have c:decide ((6:Int) < 6)=false:=c;have n:x.WR=true:=dn.2 fun j m=>f j (mem_range.1 m);have e:x.ok=(within x.no 1 8&&within x.cur 0 2&&within x.mult 1 1024&&within x.add 0 1073741824&&within x.set 0 1073741824&&within x.aH 0 1073741824):=by simp [aC.ok,n]
  rw [e];clear f e n;repeat' with_reducible first|apply And.intro|exact .dq|refine aD.bp (by assumption) ?_|refine aD.bp (q) ?_|refine aD.bp (r) ?_|refine aD.bp (s) ?_|refine aD.bp (t) ?_|refine aD.bp (v) ?_|refine aD.bp (w) ?_|refine pq (fun h=>?_) fun h=>?_|refine .id ?_|refine av.eS ah ?_ ?_|exact aJ|simp only [*,go_sem,seval]
  all_goals (simp_all;done)
theorem xQr {A:Type} {no:A->Int} {ok:A->Bool} {xs:List A} {i:Nat} (h:i < xs.length) (a:gG no ok xs i=false):kr no ok xs=false:=by
 cases b:kr no ok xs
 ·rfl
 ·rw [dn.1 b i (mem_range.2 h)] at a;cases a
theorem xQl {A:Type} {no:A->Int} {ok:A->Bool} {xs:List A} {i:Nat} (b:∀ j < i,gG no ok xs j=true) (a:gG no ok xs i=true):∀ k < i+1,gG no ok xs k=true:=fun k hk=>by
 rcases bZ k i with h | h
 ·exact b k h
 ·obtain rfl:k=i:=ah
  exact a
theorem xXo (r:az) (hl:r.small):Sq 96 [] [.agg r.cells] [] (.bool r.okB):=by
 obtain ⟨l1,l2,l3⟩:=hl;simp only [az.cells];refine bf 108 1 [.tmp 2] mixed func96 ?_;refine s0 ?_;refine aM.count r.ms.length [1] [32] (fun i=>[(3,.I i)]) (fun i=>[]) (fun i=>∀ j < i,gG au.no au.ok r.ms j=true) (by simp) ?_ ?_
 ·simp only [go_sem,seval]<;>simp
 intro i u g;refine s0 ?_;refine bF.fM (fun h=>?_) (fun h=>?_)
 ·have b:i < r.ms.length:=ah
  have v:IntKind.wrap .i64 ((i:Int)+1)=((i+1:Nat):Int):=gN;have k:=aV (c:=au.cells) r.ms b;have f:=xXc r.ms[i];have e0:=xQl (i:=i) g;have e1:gG au.no au.ok r.ms i=false->r.okB=false:=fun p=>by simp [az.okB,xQr b p]
  have n:(i:Int) < (r.ms.length:Int):=ah
  simp only [au.cells] at k f;rcases Nat.eq_zero_or_pos i with rfl | hpos
  ·have hk:=nU au.no au.ok r.ms b ah;refine sm k ?_;repeat' with_reducible first|apply And.intro|exact .dq|refine aD.bp (by assumption) ?_|refine aD.bp (f) ?_|refine pq (fun h=>?_) fun h=>?_|refine .id ?_|refine av.eS ah ?_ ?_|exact aJ|simp only [*,go_sem,seval]
   all_goals exact clo
  ·obtain ⟨j,rfl⟩:∃ j,i=j+1:=⟨i-1,by omega⟩
   have l:j < r.ms.length:=ah
   have o:IntKind.wrap .i64 (((j+1:Nat):Int)-1)=(j:Int):=gN;have hk:=nh au.no au.ok r.ms b ah;have d:=aV (c:=au.cells) r.ms l;have m:(j:Int) < (r.ms.length:Int):=ah
   simp only [au.cells] at d;simp only [Nat.add_sub_cancel] at hk;refine sm k ?_;repeat' with_reducible first|apply And.intro|exact .dq|refine aD.bp (by assumption) ?_|refine aD.bp (f) ?_|refine pq (fun h=>?_) fun h=>?_|refine .id ?_|refine av.eS ah ?_ ?_|exact aJ|simp only [*,go_sem,seval,d,qn]
   all_goals exact clo
 have q:=Zn (fun j (l:j < r.ms.length)=>g j ah);clear g;refine s0 ?_;refine aM.count r.ns.length [1] [32] (fun i=>[(4,.I i)]) (fun i=>[]) (fun i=>∀ j < i,gG aC.no aC.ok r.ns j=true) (by simp) ?_ ?_
 ·simp only [go_sem,seval]<;>simp
 intro i u g;refine s0 ?_;refine bF.fM (fun h=>?_) (fun h=>?_)
 ·have b:i < r.ns.length:=ah
  have v:IntKind.wrap .i64 ((i:Int)+1)=((i+1:Nat):Int):=gN;have k:=aV (c:=aC.cells) r.ns b;have f:=xQt r.ns[i];have e0:=xQl (i:=i) g;have e1:gG aC.no aC.ok r.ns i=false->r.okB=false:=fun p=>by simp [az.okB,xQr b p]
  have n:(i:Int) < (r.ns.length:Int):=ah
  simp only [aC.cells] at k f;rcases Nat.eq_zero_or_pos i with rfl | hpos
  ·have hk:=nU aC.no aC.ok r.ns b ah;refine sm k ?_;repeat' with_reducible first|apply And.intro|exact .dq|refine aD.bp (by assumption) ?_|refine aD.bp (f) ?_|refine pq (fun h=>?_) fun h=>?_|refine .id ?_|refine av.eS ah ?_ ?_|exact aJ|simp only [*,go_sem,seval]
   all_goals exact clo
  ·obtain ⟨j,rfl⟩:∃ j,i=j+1:=⟨i-1,by omega⟩
   have l:j < r.ns.length:=ah
   have o:IntKind.wrap .i64 (((j+1:Nat):Int)-1)=(j:Int):=gN;have hk:=nh aC.no aC.ok r.ns b ah;have d:=aV (c:=aC.cells) r.ns l;have m:(j:Int) < (r.ns.length:Int):=ah
   simp only [aC.cells] at d;simp only [Nat.add_sub_cancel] at hk;refine sm k ?_;repeat' with_reducible first|apply And.intro|exact .dq|refine aD.bp (by assumption) ?_|refine aD.bp (f) ?_|refine pq (fun h=>?_) fun h=>?_|refine .id ?_|refine av.eS ah ?_ ?_|exact aJ|simp only [*,go_sem,seval,d,qn]
   all_goals exact clo
 have s:=Zn (fun j (l:j < r.ns.length)=>g j ah);clear g;refine s0 ?_;refine aM.count r.xs.length [1] [32] (fun i=>[(5,.I i)]) (fun i=>[]) (fun i=>∀ j < i,gG ay.a ay.ok r.xs j=true) (by simp) ?_ ?_
 ·simp only [go_sem,seval]<;>simp
 intro i u g;refine s0 ?_;refine bF.fM (fun h=>?_) (fun h=>?_)
 ·have b:i < r.xs.length:=ah
  have v:IntKind.wrap .i64 ((i:Int)+1)=((i+1:Nat):Int):=gN;have k:=aV (c:=ay.cells) r.xs b;have f:=xXj r.xs[i];have e0:=xQl (i:=i) g;have e1:gG ay.a ay.ok r.xs i=false->r.okB=false:=fun p=>by simp [az.okB,xQr b p]
  have n:(i:Int) < (r.xs.length:Int):=ah
  simp only [ay.cells] at k f;rcases Nat.eq_zero_or_pos i with rfl | hpos
  ·have hk:=nU ay.a ay.ok r.xs b ah;refine sm k ?_;repeat' with_reducible first|apply And.intro|exact .dq|refine aD.bp (by assumption) ?_|refine aD.bp (f) ?_|refine pq (fun h=>?_) fun h=>?_|refine .id ?_|refine av.eS ah ?_ ?_|exact aJ|simp only [*,go_sem,seval]
   all_goals exact clo
  ·obtain ⟨j,rfl⟩:∃ j,i=j+1:=⟨i-1,by omega⟩
   have l:j < r.xs.length:=ah
   have o:IntKind.wrap .i64 (((j+1:Nat):Int)-1)=(j:Int):=gN;have hk:=nh ay.a ay.ok r.xs b ah;have d:=aV (c:=ay.cells) r.xs l;have m:(j:Int) < (r.xs.length:Int):=ah
   simp only [ay.cells] at d;simp only [Nat.add_sub_cancel] at hk;refine sm k ?_;repeat' with_reducible first|apply And.intro|exact .dq|refine aD.bp (by assumption) ?_|refine aD.bp (f) ?_|refine pq (fun h=>?_) fun h=>?_|refine .id ?_|refine av.eS ah ?_ ?_|exact aJ|simp only [*,go_sem,seval,d,qn]
   all_goals exact clo
 have t:=Zn (fun j (l:j < r.xs.length)=>g j ah);clear g;refine s0 ?_;have e:r.okB=true:=by simp [az.okB,q,s,t]
 rw [e]
theorem xQq (r:az) (n:Int) (q:r.small):Sq 145 [] [.agg r.cells,.I n] [] (.bT [.agg (bA r n).cells,.bool (bJ r n)]):=by
 obtain ⟨l1,l2,l3⟩:=q;simp only [az.cells];refine bf 28 2 [.cell 4 183,.tmp 5] mixed func145 ?_;refine s0 ?_;refine aM.w1 r.ns.length 6 [1,2,4] [48,80] (fun i _=>∀ j (b:j < r.ns.length),j < i->r.ns[j].no≠n) (by intros;omega) ?_ ?_
 ·intro i _ m k s d;have o:=aV (c:=aC.cells) r.ns m;have hlt:(i:Int) < (r.ns.length:Int):=ah
  simp only [aC.cells] at o |-;refine sm (a2 k o) ?_;refine dP ?_;cases p:r.ns[i].no==n
  ·have a:r.ns[i].no≠n:=by simpa using p
   refine sm s ?_;refine av.u m ?_ ?_
   ·intro j b hji;rcases bZ j i with h | h
    ·exact d j b h
    ·obtain rfl:j=i:=ah
     exact a
   ·exact gU
  ·have a:r.ns[i].no=n:=by simpa using p
   obtain ⟨f,g⟩:=rH (z:=aC.zero) m d a;have e:bA r n=r.ns[i]:=f;have e2:bJ r n=true:=by simp [bJ,g]
   rw [e,e2];refine sm o ?_;exact okx
 ·intro _ l d;obtain ⟨f,g⟩:=oO (z:=aC.zero) (fun j b=>d j b b);have e:bA r n=aC.zero:=f;have e2:bJ r n=false:=by simp [bJ,g]
  rw [e,e2];simp only [go_sem,seval,l,aC.cells,aC.zero]
theorem xZe {l:List Int} (h:∀ n∈l,gm n) (hl:l.length < 2 ^ 58):(∀ n∈l,Oa n=true)/\Oa (aG l)=true:=by
 have b:∀ n∈l,-9223372036854775808<=n/\n<=9223372036854775808:=fun n a=>by have:=h n a;exact ⟨this.1,by have:=this.2;omega⟩
 refine ⟨fun n a=>PV (b n a) ah,?_⟩;exact PV (B:=9223372036854775808*(l.length:Int)) (LV b) ah
theorem xQp (l:List Int) (h:∀ n∈l,gm n) (hl:l.length < 2 ^ 30):Sq 154 [] [.sl 1 (ints l)] [] (.bT [.I (addN l),.bool (bQ (aG l))]):=by
 obtain ⟨m,o⟩:=xZe h ah;have f:=xXr l ah m;have j:=xXq (aG l);rw [o,aq rfl] at f;simp only [wd] at f j;refine bf 33 1 [.tmp 2,.tmp 3] mixed func154 ?_;simp only [go_sem,seval,aW];refine aM.wv l.length [0] [] (fun i=>[(5,.I i),(4,.ref 352)]) (fun i=>[(352,.own 2 (Pa (l.take i)))]) ?_ ?_ ?_
 ·simp only [go_sem,seval]<;>simp [Pa]
 ·intro i _ c d g _;have k:=xQw l[i] (h _ (ck c));have a:Pa (l.take (i+1))=Pa (l.take i)++[wd l[i]]:=by rw [l7 c];simp only [Pa,jq,map_cons,map_nil]
  have b:(Pa (l.take i)).length=i:=by simp [Pa];omega
  simp only [wd] at k;simp only [go_sem,seval,aW,d,ints_at l c];refine sc (a2 g b) k ?_;refine dP ?_;refine av.v c ?_;simp only [go_sem,seval,a]<;>simp [wd]
 ·intro _ e _;simp only [go_sem,seval,aW,e,jr];refine sl aJ f ?_;refine aD.bp j ?_;simp only [go_sem,seval,addN]
theorem xXd (x:aP):Sq 155 [] [.agg x.cells] [] (.I x.floor):=by
 have hr:=Ll x;simp only [aP.cells] at hr |-;refine bf 15 1 [.tmp 2] mixed func155 ?_;refine s0 ?_;repeat' with_reducible first|apply And.intro|exact .dq|refine aD.bp (by assumption) ?_|refine aD.bp (hr) ?_|refine pq (fun h=>?_) fun h=>?_|refine .id ?_|refine av.eS ah ?_ ?_|exact aJ|simp only [*,go_sem,seval]
 all_goals (unfold aP.floor;simp [*])
theorem xXe (x y:aP):Sq 208 [] [.agg x.cells,.agg y.cells] [] (.bool (x.less y)):=by
 simp only [aP.cells];refine bf 30 2 [.tmp 4] mixed func208 ?_;refine s0 ?_;repeat' with_reducible first|apply And.intro|exact .dq|refine aD.bp (by assumption) ?_|refine pq (fun h=>?_) fun h=>?_|refine .id ?_|refine av.eS ah ?_ ?_|exact aJ|simp only [*,go_sem,seval]
 all_goals (unfold aP.less;simp_all)
def xQh (c:Int) (a:List Int) (bs:List cq):List Int:=(bs.filter fun b=>Ob a b.kind&&b.cur==c).map cq.sum
theorem xXv (c:Int) (a:List Int) (bs:List cq) {i:Nat} (h:i < bs.length):xQh c a (bs.take (i+1))=if Ob a bs[i].kind&&bs[i].cur==c then xQh c a (bs.take i)++[bs[i].sum] else xQh c a (bs.take i):=by
 simp only [xQh];rw [l7 h,mK,jq];cases b:(Ob a bs[i].kind&&bs[i].cur==c)<;>simp [filter,b]
theorem xXn (c:Int) (a:List Int) (bs:List cq):(xQh c a bs).length<=bs.length:=by
 simp only [xQh,qn];exact length_filter_le _ _
theorem xXz {c:Int} {e:List Int} {bs:List cq} (h:∀ b∈bs,b.n7):∀ n∈xQh c e bs,gm n:=by
 intro n a;simp only [xQh,mem_map,mem_filter] at a;obtain ⟨b,⟨d,_⟩,rfl⟩:=a;exact (h b d).2.2.2
theorem xZc (a:List Int) (k:Int) {i:Nat} (h:i < a.length):Ob (a.take (i+1)) k=(Ob (a.take i) k||a[i]==k):=by
 simp only [Ob];rw [l7 h,any_append];simp
theorem xXa (l:bE) (c:Int) (a:List Int) (hl:l.bs.length < 2 ^ 30) (j:a.length < 2 ^ 30) (hr:∀ b∈l.bs,b.n7):Sq 209 [] [.agg l.cells,.I c,.sl 1 (ints a)] [] (.bT [.I (addN (xQh c a l.bs)),.bool (bQ (aG (xQh c a l.bs)))]):=by
 have htl:=xXn c a l.bs;have t:=xQp (xQh c a l.bs) (xXz hr) ah;simp only [bE.cells];refine bf 65 3 [.tmp 6,.tmp 7] mixed func209 ?_;simp only [go_sem,seval,aW];refine aM.wv l.bs.length [1,2,3] [64] (fun i=>[(9,.I i),(8,.ref 976)]) (fun i=>[(976,.own 1 (ints (xQh c a (l.bs.take i))))]) ?_ ?_ ?_
 ·simp only [go_sem,seval]<;>simp [xQh,ints]
 ·intro i _ n q g _;have m:=aV (c:=cq.cells) l.bs n;have f:=xXv c a l.bs n;have hlen:=xXn c a (l.bs.take i);have hlt:(l.bs.take i).length=i:=by simp;omega
  have hli:(i:Int) < (l.bs.length:Int):=ah
  obtain ⟨z,u⟩:=aQ (l.bs[i]);rw [<- u] at m f;simp only [cq.cells] at m;simp only [go_sem,seval,q,aW];refine aM.wv a.length [1,2,3,8,9] [64,976] (fun k=>[(11,.I k),(10,.bool (Ob (a.take k) z.kind))]) (fun _=>[]) ?_ ?_ ?_
  ·simp only [go_sem,seval]<;>simp [Ob]
  ·intro k _ j d o _;have e:=xZc a z.kind j;cases s:Ob (a.take k) z.kind
   ·rw [s,Bool.false_or] at e;simp only [go_sem,seval,aW,d,ints_at a j,m,o];refine dP ?_;refine av.v j ?_;exact fL e
   ·rw [s,Bool.true_or] at e;simp only [go_sem,seval,aW,d,ints_at a j,m,o];refine dP ?_;refine av.v j ?_;exact fL e
  ·intro _ d _;cases h:Ob a z.kind
   ·simp only [h,gV,nJ,if_false] at f;simp only [go_sem,seval,aW,d,jr,h,g];refine dP ?_;refine av.v n ?_;exact fL f
   cases p:z.cur==c
   ·simp only [h,p,Bool.and_false,nJ,if_false] at f;simp only [go_sem,seval,aW,d,jr,h,m,p,g];refine dP ?_;refine av.v n ?_;exact fL f
   simp only [h,p,Bool.and_self,if_true] at f;simp only [go_sem,seval,aW,d,jr,h,m,p,g];refine dP ?_;refine av.v n ?_;simp only [go_sem,seval,f]<;>simp [ints]
 ·intro _ r _;simp only [go_sem,seval,aW,r,jr];exact Xh aJ t
theorem xZa {bs:List cq} {i:Nat} (b:∀ j < i,v8 bs j=true) (a:v8 bs i=true):∀ k < i+1,v8 bs k=true:=fun k hk=>by
 rcases bZ k i with h | h
 ·exact b k h
 ·obtain rfl:k=i:=ah
  exact a
theorem xXs {bs:List cq} (h:lE bs=true) (c:Int):xQh c [1,2,3,4,5,6] bs=mh c bs/\∀ n∈mh c bs,bQ n=true:=by
 have g:∀ b∈bs,qG b=true:=fun b a=>by
  obtain ⟨i,f,rfl⟩:=mem_iff_getElem.1 a;have:=dn.1 h i (mem_range.2 f);rcases Nat.eq_zero_or_pos i with rfl | hp
  ·rwa [rO f] at this
  ·obtain ⟨j,rfl⟩:∃ j,i=j+1:=⟨i-1,by omega⟩
   rw [oS f,cU] at this;exact this.1
 refine ⟨?_,fun n k=>?_⟩
 ·unfold xQh mh;congr 1;refine filter_congr fun b a=>?_;have:=g b a;simp only [qG,cU] at this;have d:=this.1;unfold aP.right at d;split at d
  ·cases d
  ·rename_i l;simp only [cq.bz] at l;have e:Ob [1,2,3,4,5,6] b.kind=true:=by
    simp only [Ob,any_cons,any_nil,Bool.or_eq_true,eH];omega
   rw [e,fc]
 ·simp only [mh,mem_map,mem_filter] at k;obtain ⟨b,⟨a,_⟩,rfl⟩:=k;have:=g b a;simp only [qG,cU] at this;exact this.2.1
theorem xXw {l:List Int} (h:∀ n∈l,bQ n=true):right l=true:=dn.2 h
theorem xQu (l:bE) (K:l.bs.length < 2 ^ 30) (hr:∀ b∈l.bs,b.n7):Sq 98 [] [.agg l.cells] [] (.bool l.okB):=by
 have y:=fun c=>xXa l c [1,2,3,4,5,6] K (by simp) hr;simp only [bE.cells,ints,map_cons,map_nil] at y |-;refine bf 80 1 [.tmp 2] mixed func98 ?_;rcases Int.lt_or_le l.last 0 with h0 | h0
 ·have v:decide (l.last < 0)=true:=by simpa using h0
  have e:l.okB=false:=by simp [bE.okB];omega
  exact fL (a2 v e)
 have v:decide (l.last < 0)=false:=by simpa using h0
 refine sm v ?_;refine aM.count l.bs.length [1] [32] (fun i=>[(3,.I i)]) (fun i=>[]) (fun i=>∀ j < i,v8 l.bs j=true) (by simp) ?_ ?_
 ·simp only [go_sem,seval]<;>simp
 intro i hi F;refine s0 ?_;refine bF.fM (fun h=>?_) (fun h=>?_)
 ·have f:i < l.bs.length:=ah
  have hw:IntKind.wrap .i64 ((i:Int)+1)=((i+1:Nat):Int):=gN;have A:=aV (c:=cq.cells) l.bs f;have w:=Ll l.bs[i].bz;have D:=xQi l.bs[i].sum;have x:=xXd l.bs[i].bz;have e0:=xZa (i:=i) F;have o:v8 l.bs i=false->l.okB=false:=fun t=>by simp [bE.okB,P9 f t]
  simp only [cq.cells,aP.cells,cq.bz] at A w x;clear y;rcases Nat.eq_zero_or_pos i with rfl | hpos
  ·have d:=rO f;simp only [qG,cq.bz] at d;refine sm A ?_;repeat' with_reducible first|apply And.intro|exact .dq|refine aD.bp (by assumption) ?_|refine aD.bp (w) ?_|refine aD.bp (D) ?_|refine aD.bp (x) ?_|refine pq (fun h=>?_) fun h=>?_|refine .id ?_|refine av.eS ah ?_ ?_|exact aJ|simp only [*,go_sem,seval]
   all_goals first
    | omega
    | rfl
    | (refine e0 ?_;clear e0 o;rw [d];clear d;simp [bne, *];done)
    | (rw [o ?_];clear e0 o;rw [d];clear d;simp [bne, *];done)
  ·obtain ⟨j,rfl⟩:∃ j,i=j+1:=⟨i-1,by omega⟩
   have G:j < l.bs.length:=ah
   have hw1:IntKind.wrap .i64 (((j+1:Nat):Int)-1)=(j:Int):=gN;have d:=oS f;simp only [qG,cq.bz] at d;have s:=aV (c:=cq.cells) l.bs G;have E:=xXe l.bs[j].bz l.bs[j+1].bz;simp only [cq.cells,aP.cells,cq.bz] at s E;refine sm A ?_;repeat' with_reducible first|apply And.intro|exact .dq|refine aD.bp (by assumption) ?_|refine aD.bp (w) ?_|refine aD.bp (D) ?_|refine aD.bp (x) ?_|refine aD.bp (E) ?_|refine pq (fun h=>?_) fun h=>?_|refine .id ?_|refine av.eS ah ?_ ?_|exact aJ|simp only [*,go_sem,seval,s,qn]
   all_goals first
    | omega
    | rfl
    | (refine e0 ?_;clear e0 o;rw [d];clear d;simp [bne, *];done)
    | (rw [o ?_];clear e0 o;rw [d];clear d;simp [bne, *];done)
 have B:=Az (fun j (G:j < l.bs.length)=>F j ah);have r:∀ c:Int,tu l.bs c=(bQ (aG (mh c l.bs))&&addN (mh c l.bs)==0):=fun c=>by
  have:=(xXs B c).2;simp only [tu,nW,n9,addN,xXw this,if_true,fc];cases bQ (aG (mh c l.bs))<;>simp
 refine s0 ?_;refine aM.w1 3 5 [1] [32] (fun i _=>∀ c < i,tu l.bs (c:Nat)=true) (by simp) ?_ ?_
 ·intro c _ J a C p;have a:decide ((c:Int) < 3)=true:=a;have q:=y c;rw [(xXs B c).1] at q;have z:=r c;have m:tu l.bs c=false->l.okB=false:=fun t=>by
   obtain rfl | rfl | rfl:c=0\/c=1\/c=2:=ah
   ·have:tu l.bs 0=false:=t;simp [bE.okB,this]
   ·have:tu l.bs 1=false:=t;simp [bE.okB,this]
   ·have:tu l.bs 2=false:=t;simp [bE.okB,this]
  refine sl a q ?_;cases g:bQ (aG (mh c l.bs))
  ·simp only [go_sem,seval,g,m (by rw [z,g];rfl)]
  cases n:addN (mh c l.bs)==0
  ·simp only [go_sem,seval,g,bne,n,m (by rw [z,g,n];rfl)]
  simp only [go_sem,seval,g,bne,n,C];refine av.u J ?_ ?_
  ·intro k d;rcases bZ k c with h | h
   ·exact p k h
   ·obtain rfl:k=c:=ah
    rw [z,g,n];rfl
  ·exact gU
 ·intro _ a p;have a:decide ((3:Int) < 3)=false:=a;have H:tu l.bs 0=true:=p 0 ah;have g:tu l.bs 1=true:=p 1 ah;have n:tu l.bs 2=true:=p 2 ah;have e:l.okB=true:=by simp [bE.okB,B,H,g,n,h0]
  exact fL (a2 a e)
theorem xQo (w n:Int):Sq 204 [] [.agg [.I w,.I n]] [] (.bool (rN w n)):=by
 have a:=xQf w;have b:=xQd n 1 8;refine bf 11 1 [.tmp 2] mixed func204 ?_;refine s0 ?_;repeat' with_reducible first|apply And.intro|exact .dq|refine aD.bp (by assumption) ?_|refine aD.bp (a) ?_|refine aD.bp (b) ?_|refine pq (fun h=>?_) fun h=>?_|refine .id ?_|refine av.eS ah ?_ ?_|exact aJ|simp only [*,go_sem,seval]
 all_goals (simp_all [rN])
theorem xQx (a b c d:Int):Sq 206 [] [.agg [.I a,.I b],.agg [.I c,.I d]] [] (.bool (Sm a b c d)):=by
 refine bf 24 2 [.tmp 4] mixed func206 ?_;refine s0 ?_;repeat' with_reducible first|apply And.intro|exact .dq|refine aD.bp (by assumption) ?_|refine pq (fun h=>?_) fun h=>?_|refine .id ?_|refine av.eS ah ?_ ?_|exact aJ|simp only [*,go_sem,seval]
 all_goals (simp only [Sm];simp_all)
theorem xXh (t:aL):Sq 297 [] [.agg t.cells] [] (.bool (within t.aZ 1 1048576&&within t.aH 1 1073741824)):=by
 have a:=xQd t.aZ 1 1048576;have b:=xQd t.aH 1 1073741824;simp only [aL.cells];refine bf 11 1 [.tmp 2] mixed func297 ?_;refine s0 ?_;repeat' with_reducible first|apply And.intro|exact .dq|refine aD.bp (by assumption) ?_|refine aD.bp (a) ?_|refine aD.bp (b) ?_|refine pq (fun h=>?_) fun h=>?_|refine .id ?_|refine av.eS ah ?_ ?_|exact aJ|simp only [*,go_sem,seval]
 all_goals (simp_all)
theorem xQy (t:aL):Sq 207 [] [.agg t.cells] [] (.bool t.okB):=by
 have a:=xXh t;have b:=xQf t.jK;have c:=xQf t.gK;have d:=xQd t.inst 1 8;simp only [aL.cells] at a |-;refine bf 27 1 [.tmp 2] mixed func207 ?_;refine s0 ?_;repeat' with_reducible first|apply And.intro|exact .dq|refine aD.bp (by assumption) ?_|refine aD.bp (a) ?_|refine aD.bp (b) ?_|refine aD.bp (c) ?_|refine aD.bp (d) ?_|refine pq (fun h=>?_) fun h=>?_|refine .id ?_|refine av.eS ah ?_ ?_|exact aJ|simp only [*,go_sem,seval]
 all_goals first
  | (simp_all [aL.okB,rN,bne];done)
  | (rw [lA];simp_all [aL.okB,rN,bne])
theorem xXu (a b:aL):lN a b = !decide (b.no<=a.no):=by
 rw [lA];simp [lN]
theorem xXx {n:Int} {l:List aF} (h:∀ p∈l,p.n7):∀ q∈fu n l,gm q:=by
 intro q a;simp only [fu,mem_map,mem_filter] at a;obtain ⟨p,⟨b,_⟩,rfl⟩:=a;exact (h p b).2.2.1
theorem xXt {n:Int} {l:List aF} (h:qt aF.okB lT l=true):tJ n l=(bQ (aG (fu n l))&&addN (fu n l)==0):=by
 have hr:right (fu n l)=true:=dn.2 fun q a=>by
  simp only [fu,mem_map,mem_filter] at a;obtain ⟨p,⟨c,_⟩,rfl⟩:=a;obtain ⟨i,b,rfl⟩:=mem_iff_getElem.1 c;have:=aa3 h b;simp only [aF.okB,within,cU,bL] at this;refine bI.2 ?_;omega
 simp only [tJ,nW,n9,addN,hr,if_true,fc];cases bQ (aG (fu n l))<;>simp
theorem xXl (b:aI) (hl:b.small) (hr:∀ p∈b.qs,p.n7):Sq 97 [] [.agg b.cells] [] (.bool b.okB):=by
 obtain ⟨hl1,hl2⟩:=hl;have hA:=fun n=>xQp (fu n b.qs) (xXx hr) (by have:=OL n b.qs;omega);have hN:=xQd b.next 0 1099511627776
 have o:within b.next 0 1099511627776=(!decide (b.next < 0)&&!decide (1099511627776 < b.next)):=by rw [lA];simp [within]
 simp only [aI.cells];refine bf 156 1 [.tmp 2] mixed func97 ?_;refine sc aJ hN ?_;cases B:within b.next 0 1099511627776
 ·rw [o] at B;have e:b.okB=false:=by simp only [aI.okB,B,Bool.and_false]
  exact fL e
 cases C:decide (128 < (b.ts.length:Int))
 case true =>
  have e:b.okB=false:=by simp [aI.okB,C]
  exact fL (a2 C e)
 have e:b.okB=(qt aF.okB lT b.qs&&(qt (mJ b.next) lN b.ts&&tK b.qs)):=by
  rw [o] at B;simp only [aI.okB,B,C,Bool.not_false,Bool.and_true]
 rw [e];clear e hN o;refine sm C ?_;refine aM.count b.qs.length [1] [32] (fun i=>[(3,.I i)]) (fun i=>[]) (fun i=>∀ j < i,sA aF.okB lT b.qs j=true) (by simp) ?_ ?_
 ·simp only [go_sem,seval]<;>simp
 intro i w t;refine s0 ?_;refine bF.fM (fun h=>?_) (fun h=>?_)
 ·have a:i < b.qs.length:=ah
  have J:IntKind.wrap .i64 ((i:Int)+1)=((i+1:Nat):Int):=gN;have d:=aV (c:=aF.cells) b.qs a;have s:=xQo b.qs[i].who b.qs[i].inst;have x:=xQi b.qs[i].cost;have L:=xQd b.qs[i].aZ (-1099511627776) 1099511627776;have e0:=Cn (i:=i) t;have e1:sA aF.okB lT b.qs i=false->(qt aF.okB lT b.qs&&(qt (mJ b.next) lN b.ts&&tK b.qs))=false:=fun A=>by simp [JH a A]
  simp only [aF.cells] at d;clear hA;rcases Nat.eq_zero_or_pos i with rfl | hpos
  ·have hk:=mU (ok:=aF.okB) (lt:=lT) a;simp only [aF.okB] at hk;refine sm d ?_;repeat' with_reducible first|apply And.intro|exact .dq|refine aD.bp (by assumption) ?_|refine aD.bp (s) ?_|refine aD.bp (x) ?_|refine aD.bp (L) ?_|refine pq (fun h=>?_) fun h=>?_|refine .id ?_|refine av.eS ah ?_ ?_|exact aJ|simp only [*,go_sem,seval]
   all_goals exact clo
  ·obtain ⟨j,rfl⟩:∃ j,i=j+1:=⟨i-1,by omega⟩
   have l:j < b.qs.length:=ah
   have K:IntKind.wrap .i64 (((j+1:Nat):Int)-1)=(j:Int):=gN;have hk:=lC (ok:=aF.okB) (lt:=lT) a;simp only [aF.okB,lT] at hk;have f:=aV (c:=aF.cells) b.qs l;have P:=xQx b.qs[j].who b.qs[j].inst b.qs[j+1].who b.qs[j+1].inst;simp only [aF.cells] at f;refine sm d ?_;repeat' with_reducible first|apply And.intro|exact .dq|refine aD.bp (by assumption) ?_|refine aD.bp (s) ?_|refine aD.bp (x) ?_|refine aD.bp (L) ?_|refine aD.bp (P) ?_|refine pq (fun h=>?_) fun h=>?_|refine .id ?_|refine av.eS ah ?_ ?_|exact aJ|simp only [*,go_sem,seval,f,qn]
   all_goals exact clo
 have M:=yE (fun j (l:j < b.qs.length)=>t j ah);have m:=fun n:Int=>xXt (n:=n) M;rw [M,fc];clear t;refine s0 ?_;refine aM.wu 8 [1] [32] (fun i=>[(5,.I ((i:Int)+1))]) (fun i=>[]) (fun i=>∀ j < i,tJ ((j:Int)+1) b.qs=true) (by simp) ?_ ?_ ?_
 ·simp only [go_sem,seval]<;>simp
 ·intro c _ O _ _ E;obtain ⟨n,H⟩:=aQ ((c:Int)+1);have R:decide (n<=8)=true:=iC;have J:IntKind.wrap .i64 (n+1)=((c+1:Nat):Int)+1:=gN;rw [<- H];refine sm R ?_;refine aM.wv b.qs.length [1,5] [32] (fun i=>[(7,.I i),(6,.ref 1696)]) (fun i=>[(1696,.own 1 (ints (fu n (b.qs.take i))))]) ?_ ?_ ?_
  ·simp only [go_sem,seval]<;>simp [fu,ints]
  ·intro i _ w F z _;have d:=aV (c:=aF.cells) b.qs w;have hs:=VB n b.qs w;have hlen:=OL n (b.qs.take i);have hlt:(b.qs.take i).length=i:=by simp;omega
   have hli:(i:Int) < (b.qs.length:Int):=ah
   simp only [aF.cells] at d;refine sm (a2 F d) ?_;refine dP ?_;cases N:b.qs[i].inst==n
   ·simp only [N,nJ,if_false] at hs;refine sm z ?_;refine av.v w ?_;exact fL hs
   ·simp only [N,if_true] at hs;simp only [go_sem,seval,z,aW,d];refine dP ?_;refine av.v w ?_;simp only [go_sem,seval,hs]<;>simp [ints]
  ·intro _ G _;have k:tJ n b.qs=false->tK b.qs=false:=fun A=>by
    cases S:tK b.qs
    ·rfl
    ·have:=dn.1 S c (mem_range.2 O);rw [<- H,A] at this;cases this
   have q:=m n;simp only [go_sem,seval,G,jr];refine sl aJ (hA n) ?_;cases r:bQ (aG (fu n b.qs))
   ·have:=k (by rw [q,r];rfl);simp only [go_sem,seval,r,this,Bool.and_false]
   cases D:addN (fu n b.qs)==0
   ·have:=k (by rw [q,r,D];rfl);simp only [go_sem,seval,bne,r,D,this,Bool.and_false]
   simp only [go_sem,seval,bne,r,D,J];refine av.u O ?_ ?_
   ·intro j l;rcases bZ j c with h | h
    ·exact E j h
    ·obtain rfl:j=c:=ah
     rw [<- H,q,r,D];rfl
   ·exact gU
 ·intro _ _ E;have y:tK b.qs=true:=dn.2 fun j l=>E j (mem_range.1 l);rw [y,Bool.and_true];clear E y m hA;refine s0 ?_;refine aM.count b.ts.length [1] [32] (fun i=>[(10,.I i)]) (fun i=>[]) (fun i=>∀ j < i,sA (mJ b.next) lN b.ts j=true) (by simp) ?_ ?_
  ·simp only [go_sem,seval]<;>simp
  intro i w t;refine s0 ?_;refine bF.fM (fun h=>?_) (fun h=>?_)
  ·have a:i < b.ts.length:=ah
   have J:IntKind.wrap .i64 ((i:Int)+1)=((i+1:Nat):Int):=gN;have d:=aV (c:=aL.cells) b.ts a;have s:=xQy b.ts[i];have x:=xQd b.ts[i].no 1 b.next
   have e0:=Cn (i:=i) t;have e1:sA (mJ b.next) lN b.ts i=false->qt (mJ b.next) lN b.ts=false:=fun A=>JH a A;have g:mJ b.next b.ts[i]=(b.ts[i].okB&&within b.ts[i].no 1 b.next):=by rw [lA];simp [mJ,within]
   simp only [aL.cells] at d s;rcases Nat.eq_zero_or_pos i with rfl | hpos
   ·have hk:=mU (ok:=mJ b.next) (lt:=lN) a;rw [g] at hk;clear g;refine sm d ?_;repeat' with_reducible first|apply And.intro|exact .dq|refine aD.bp (by assumption) ?_|refine aD.bp (s) ?_|refine aD.bp (x) ?_|refine pq (fun h=>?_) fun h=>?_|refine .id ?_|refine av.eS ah ?_ ?_|exact aJ|simp only [*,go_sem,seval]
    all_goals exact clo
   ·obtain ⟨j,rfl⟩:∃ j,i=j+1:=⟨i-1,by omega⟩
    have l:j < b.ts.length:=ah
    have K:IntKind.wrap .i64 (((j+1:Nat):Int)-1)=(j:Int):=gN;have hk:=lC (ok:=mJ b.next) (lt:=lN) a;rw [g,xXu] at hk;clear g;have f:=aV (c:=aL.cells) b.ts l;simp only [aL.cells] at f;refine sm d ?_;repeat' with_reducible first|apply And.intro|exact .dq|refine aD.bp (by assumption) ?_|refine aD.bp (s) ?_|refine aD.bp (x) ?_|refine pq (fun h=>?_) fun h=>?_|refine .id ?_|refine av.eS ah ?_ ?_|exact aJ|simp only [*,go_sem,seval,f,qn]
    all_goals exact clo
  ·have Q:=yE (fun j (l:j < b.ts.length)=>t j ah);exact fL Q
theorem xQn (w a:Int):j6 w a=(within w 1 16&&within a 1 6):=by simp [j6,within,Bool.and_assoc]
def xQj (q p:fG):Bool:=decide (q.who > p.who)||(q.who==p.who&&decide (q.fq >= p.fq))
theorem xZg {q p:fG} (b:j6 q.who q.fq=true) (a:j6 p.who p.fq=true):xQj q p = !decide (Ms q p.who p.fq < 0):=by
 rw [JN b a,lA];simp only [xQj,Bool.or_eq_true,cU,bL,eH,iK,gM];split<;>omega
theorem xQs (ps:List fG) (hl:ps.length < 2 ^ 62):Sq 99 [] [.sl 3 (pl ps)] [] (.bool (mN ps)):=by
 refine bf 66 1 [.tmp 2] mixed func99 ?_;refine s0 ?_;refine aM.count ps.length [0] [] (fun i=>[(3,.I i)]) (fun i=>[]) (fun i=>∀ j < i,DP ps j=true) (by simp) ?_ ?_
 ·simp only [go_sem,seval]<;>simp
 ·intro i hi l;refine s0 ?_;refine bF.fM (fun h=>?_) (fun h=>?_)
  ·have b:i < ps.length:=ah
   have hw:IntKind.wrap .i64 ((i:Int)+1)=((i+1:Nat):Int):=gN;have o:=xQf ps[i].who;have p:=xQv ps[i].fq;have q:=xQg ps[i].units 1 1099511627776;have a:=ae' b;have f:within ps[i].units 1 1099511627776=(decide (1<=ps[i].units)&&decide (ps[i].units<=1099511627776)):=rfl;rw [xQn,Bool.and_assoc _ (decide (1<=ps[i].units)),<- f] at a;clear f;have e0:DP ps i=true->∀ k < i+1,DP ps k=true:=fun s k a=>by
    rcases bZ k i with h | h
    ·exact l k h
    ·obtain rfl:k=i:=ah
     exact s
   have g:DP ps i=false->mN ps=false:=XS b;rcases Nat.eq_zero_or_pos i with rfl | hpos
   ·simp only [go_sem,seval,uG ps b];repeat' with_reducible first|apply And.intro|exact .dq|refine aD.bp (by assumption) ?_|refine aD.bp (o) ?_|refine aD.bp (p) ?_|refine aD.bp (q) ?_|refine pq (fun h=>?_) fun h=>?_|refine .id ?_|refine av.eS ah ?_ ?_|exact aJ|simp only [*,go_sem,seval]
    all_goals first
     | omega
     | rfl
     | (refine e0 ?_;rw [a];simp_all;done)
     | (refine e0 ?_;rw [a];simp_all [xQj];omega)
     | (rw [g ?_]
        cases c:DP ps 0
        ·rfl
        ·exfalso;rw [a] at c;simp_all [xQj])
     | (rw [g ?_]
        cases c:DP ps 0
        ·rfl
        ·exfalso;rw [a] at c;simp_all [xQj];omega)
   ·obtain ⟨j,rfl⟩:∃ j,i=j+1:=⟨i-1,by omega⟩
    have m:j < ps.length:=ah
    have hw1:IntKind.wrap .i64 (((j+1:Nat):Int)-1)=(j:Int):=gN;have r:ps.getD (j+1-1) ⟨0,0,0⟩=ps[j]:=by simp [m]
    rw [r] at a;have d:=l j ah;have n:j6 ps[j].who ps[j].fq=true:=by
     rw [ae' m] at d;simp only [cU] at d;exact d.1.1.1
    replace a:DP ps (j+1)=(within ps[j+1].who 1 16&&within ps[j+1].fq 1 6&&within ps[j+1].units 1 1099511627776&&!xQj ps[j] ps[j+1]):=by
     rw [a];cases e:within ps[j+1].who 1 16&&within ps[j+1].fq 1 6
     ·simp
     ·rw [<- xQn] at e;rw [xZg n e];simp
    simp only [go_sem,seval,uG ps b];repeat' with_reducible first|apply And.intro|exact .dq|refine aD.bp (by assumption) ?_|refine aD.bp (o) ?_|refine aD.bp (p) ?_|refine aD.bp (q) ?_|refine pq (fun h=>?_) fun h=>?_|refine .id ?_|refine av.eS ah ?_ ?_|exact aJ|simp only [*,go_sem,seval,uG ps m]
    all_goals first
     | omega
     | rfl
     | (refine e0 ?_
        have t:xQj ps[j] ps[j+1]=false:=by
         simp only [eH,beq_eq_false_iff_ne] at *;simp only [xQj,Bool.or_eq_false_iff,Bool.and_eq_false_iff,gM,beq_eq_false_iff_ne];omega
        rw [a,t]
        simp only [*,Bool.and_self,Bool.not_false])
     | (refine e0 ?_;rw [a];simp_all;done)
     | (refine e0 ?_;rw [a];simp_all [xQj];omega)
     | (rw [g ?_]
        cases c:DP ps (j+1)
        ·rfl
        ·exfalso;rw [a] at c;simp_all [xQj])
     | (rw [g ?_]
        cases c:DP ps (j+1)
        ·rfl
        ·exfalso;rw [a] at c;simp_all [xQj];omega)
  ·obtain rfl:i=ps.length:=ah
   have hc:=UE l;repeat' with_reducible first|apply And.intro|exact .dq|refine aD.bp (by assumption) ?_|refine pq (fun h=>?_) fun h=>?_|refine .id ?_|refine av.eS ah ?_ ?_|exact aJ|simp only [*,go_sem,seval]
theorem xXp (r:az) (n:Int) (q:r.small):Sq 103 [] [.agg r.cells,.I n] [] (.bT [.agg (iE ay.a n ⟨0,0,0,0⟩ r.xs).cells,.bool (decide (0<=jt ay.a n r.xs))]):=by
 obtain ⟨l1,l2,l3⟩:=q;simp only [az.cells];refine bf 28 2 [.cell 4 169,.tmp 5] mixed func103 ?_;refine s0 ?_;refine aM.w1 r.xs.length 6 [1,2,4] [48,80] (fun i _=>∀ j (d:j < r.xs.length),j < i->r.xs[j].a≠n) (by intros;omega) ?_ ?_
 ·intro i _ m k s e;have o:=aV (c:=ay.cells) r.xs m;have hlt:(i:Int) < (r.xs.length:Int):=ah
  simp only [ay.cells] at o |-;refine sm (a2 k o) ?_;refine dP ?_;cases p:r.xs[i].a==n
  ·have b:r.xs[i].a≠n:=by simpa using p
   refine sm s ?_;refine av.u m ?_ ?_
   ·intro j d hji;rcases bZ j i with h | h
    ·exact e j d h
    ·obtain rfl:j=i:=ah
     exact b
   ·exact gU
  ·have b:r.xs[i].a=n:=by simpa using p
   obtain ⟨f,g⟩:=rH (z:=(⟨0,0,0,0⟩:ay)) m e b;have g3:decide (0<=(i:Int))=true:=iC;rw [f,g,g3];refine sm o ?_;exact okx
 ·intro _ l e;obtain ⟨f,g⟩:=oO (z:=(⟨0,0,0,0⟩:ay)) (fun j d=>e j d d);rw [f,g];simp only [go_sem,seval,l,ay.cells]
theorem xXm (a b:aE):Sq 150 [] [.agg a.cells,.agg b.cells] [] (.bool (decide (a.who < b.who)||(a.who==b.who&&decide (a.cur < b.cur)))):=by
 simp only [aE.cells];refine bf 24 2 [.tmp 4] mixed func150 ?_;refine s0 ?_;repeat' with_reducible first|apply And.intro|exact .dq|refine aD.bp (by assumption) ?_|refine pq (fun h=>?_) fun h=>?_|refine .id ?_|refine av.eS ah ?_ ?_|exact aJ|simp only [*,go_sem,seval]
 all_goals (simp_all)
theorem xXf (cs:List aB) (hl:cs.length < 2 ^ 30):Sq 100 [] [.sl 4 (cs.map aB.cells)] [] (.bool (qt cj bO cs)):=by
 refine bf 56 1 [.tmp 2] mixed func100 ?_;refine s0 ?_;refine aM.count cs.length [0] [] (fun i=>[(3,.I i)]) (fun i=>[]) (fun i=>∀ j < i,sA cj bO cs j=true) (by simp) ?_ ?_
 ·simp only [go_sem,seval]<;>simp
 intro i hi g;refine s0 ?_;refine bF.fM (fun h=>?_) (fun h=>?_)
 ·have a:i < cs.length:=ah
  have hw:IntKind.wrap .i64 ((i:Int)+1)=((i+1:Nat):Int):=gN;have k:=aV (c:=aB.cells) cs a;have e0:=Cn (i:=i) g;have e1:sA cj bO cs i=false->qt cj bO cs=false:=JH a;have l:=xQf cs[i].who;have m:=xQk cs[i].cur;have n:=xQg cs[i].br 1 4611686018427387904;have o:=xQg cs[i].till 0 1099511627776;simp only [aB.cells] at k;rcases Nat.eq_zero_or_pos i with rfl | hpos
  ·have hk:=mU (ok:=cj) (lt:=bO) a;simp only [cj] at hk;refine sm k ?_;repeat' with_reducible first|apply And.intro|exact .dq|refine aD.bp (by assumption) ?_|refine aD.bp (l) ?_|refine aD.bp (m) ?_|refine aD.bp (n) ?_|refine aD.bp (o) ?_|refine pq (fun h=>?_) fun h=>?_|refine .id ?_|refine av.eS ah ?_ ?_|exact aJ|simp only [*,go_sem,seval]
   all_goals exact clo
  ·obtain ⟨j,rfl⟩:∃ j,i=j+1:=⟨i-1,by omega⟩
   have p:j < cs.length:=ah
   have hw1:IntKind.wrap .i64 (((j+1:Nat):Int)-1)=(j:Int):=gN;have hk:=lC (ok:=cj) (lt:=bO) a;simp only [cj] at hk;have d:=aV (c:=aB.cells) cs p;have e:=xXm ⟨cs[j].who,cs[j].cur,cs[j].br⟩ ⟨cs[j+1].who,cs[j+1].cur,cs[j+1].br⟩;simp only [aE.cells] at e;simp only [bO] at hk;obtain ⟨lt,b⟩:=aQ ((decide (cs[j].who < cs[j+1].who)||(cs[j].who==cs[j+1].who&&decide (cs[j].cur < cs[j+1].cur))));rw [<- b] at hk e;clear b;simp only [aB.cells] at d;refine sm k ?_;repeat' with_reducible first|apply And.intro|exact .dq|refine aD.bp (by assumption) ?_|refine aD.bp (l) ?_|refine aD.bp (m) ?_|refine aD.bp (n) ?_|refine aD.bp (o) ?_|refine aD.bp (e) ?_|refine pq (fun h=>?_) fun h=>?_|refine .id ?_|refine av.eS ah ?_ ?_|exact aJ|simp only [*,go_sem,seval,d,qn]
   all_goals exact clo
 have f:=yE (fun j (p:j < cs.length)=>g j ah);clear g;exact fL f
theorem xQe (a b c:Int):Sq 75 [] [.I a,.I b,.I c] [] (.bool (within a b c)):=by
 refine bf 15 3 [.tmp 6] mixed func75 ?_;refine s0 ?_;repeat' with_reducible first|apply And.intro|exact .dq|refine aD.bp (by assumption) ?_|refine pq (fun h=>?_) fun h=>?_|refine .id ?_|refine av.eS ah ?_ ?_|exact aJ|simp only [*,go_sem,seval]
 all_goals (simp only [within];simp<;>omega)
theorem xQm (r:az) (n:Int) (q:r.small):Sq 213 [] [.agg r.cells,.I n] [] (.bT [.agg (fU r n).cells,.bool (gF r n)]):=by
 obtain ⟨l1,l2,l3⟩:=q;simp only [az.cells];refine bf 28 2 [.cell 4 206,.tmp 5] mixed func213 ?_;refine s0 ?_;refine aM.w1 r.ms.length 6 [1,2,4] [48,80] (fun i _=>∀ j (b:j < r.ms.length),j < i->r.ms[j].no≠n) (by intros;omega) ?_ ?_
 ·intro i _ m k s d;have o:=aV (c:=au.cells) r.ms m;have hlt:(i:Int) < (r.ms.length:Int):=ah
  simp only [au.cells] at o |-;refine sm (a2 k o) ?_;refine dP ?_;cases p:r.ms[i].no==n
  ·have a:r.ms[i].no≠n:=by simpa using p
   refine sm s ?_;refine av.u m ?_ ?_
   ·intro j b hji;rcases bZ j i with h | h
    ·exact d j b h
    ·obtain rfl:j=i:=ah
     exact a
   ·exact gU
  ·have a:r.ms[i].no=n:=by simpa using p
   obtain ⟨f,g⟩:=rH (z:=au.zero) m d a;have e:fU r n=r.ms[i]:=f;have e2:gF r n=true:=by simp [gF,g]
   rw [e,e2];refine sm o ?_;exact okx
 ·intro _ l d;obtain ⟨f,g⟩:=oO (z:=au.zero) (fun j b=>d j b b);have e:fU r n=au.zero:=f;have e2:gF r n=false:=by simp [gF,g]
  rw [e,e2];simp only [go_sem,seval,l,au.cells,au.zero]
theorem xXg (s:af) (n:Int) (b:s.aj.small):Sq 101 [] [.agg s.cells,.I n] [] (.I (bM s.aj n)):=by
 have h:=xQm s.aj n b;simp only [bM];obtain ⟨g,a⟩:=aQ (fU s.aj n);rw [<- a] at h |-;simp only [az.cells,au.cells] at h;simp only [af.cells];refine bf 16 2 [.tmp 4] mixed func101 ?_;exact jW aJ h
theorem xXb (s:af) (n:Int) (b:s.aj.small):Sq 102 [] [.agg s.cells,.I n] [] (.bool (bJ s.aj n)):=by
 have h:=xQq s.aj n b;obtain ⟨g,a⟩:=aQ (bA s.aj n);rw [<- a] at h;simp only [az.cells,aC.cells] at h;simp only [af.cells];refine bf 15 2 [.tmp 4] mixed func102 ?_;exact jW aJ h
theorem xXk (s:af) (hl:s.bH.length < 2 ^ 30):Sq 104 [] [.agg s.cells] [] (.bool (!decide (32 < (s.bH.length:Int))&&s.bH.all wW)):=by
 simp only [af.cells];refine bf 43 1 [.tmp 2] mixed func104 ?_;refine s0 ?_;refine aM.w1 s.bH.length 3 [1] [32] (fun i _=>∀ j (hj:j < s.bH.length),j < i->wW s.bH[j]=true) (by intros;omega) ?_ ?_
 ·intro i _ b f w d;have o:=aV (c:=bB.cells) s.bH b;have p:=xQo s.bH[i].who s.bH[i].inst;have q:=xQf s.bH[i].src;have r:=xQe s.bH[i].aZ 1 1048576;have t:=xQe s.bH[i].aH 1 1073741824;have hli:(i:Int) < (s.bH.length:Int):=ah
  have e0:=Cg b d;have a:wW s.bH[i]=false->(!decide (32 < (s.bH.length:Int))&&s.bH.all wW)=false:=fun h=>by simp [Pm b h]
  simp only [wW] at e0 a;simp only [bB.cells] at o;refine sc (a2 f o) p ?_;cases k:rN s.bH[i].who s.bH[i].inst
  ·have:=a (by simp [k]);exact fL this
  refine sc aJ q ?_;cases l:within s.bH[i].src 1 16
  ·have:=a (by simp [l]);exact fL this
  refine sc aJ r ?_;cases m:within s.bH[i].aZ 1 1048576
  ·have:=a (by simp [m]);exact fL this
  refine sc aJ t ?_;cases n:within s.bH[i].aH 1 1073741824
  ·have:=a (by simp [n]);exact fL this
  refine sm w ?_;refine av.u b (e0 (by simp [k,l,m,n])) ?_;exact gU
 ·intro _ g d;have v:=IQ d;have e:decide ((s.bH.length:Int)<=32) = !decide (32 < (s.bH.length:Int)):=by rw [lA];simp
  simp only [go_sem,seval,g,v,Bool.and_true,e]
theorem xXi (s:af) (hl:s.aA.length < 2 ^ 30):Sq 105 [] [.agg s.cells] [] (.bool (qt mg fW s.aA)):=by
 simp only [af.cells];refine bf 43 1 [.tmp 2] mixed func105 ?_;refine s0 ?_;refine aM.count s.aA.length [1] [32] (fun i=>[(3,.I i)]) (fun i=>[]) (fun i=>∀ j < i,sA mg fW s.aA j=true) (by simp) ?_ ?_
 ·simp only [go_sem,seval]<;>simp
 intro i hi f;refine s0 ?_;refine bF.fM (fun h=>?_) (fun h=>?_)
 ·have a:i < s.aA.length:=ah
  have hw:IntKind.wrap .i64 ((i:Int)+1)=((i+1:Nat):Int):=gN;have g:=aV (c:=aO.cells) s.aA a;have e0:=Cn (i:=i) f;have e1:sA mg fW s.aA i=false->qt mg fW s.aA=false:=JH a;have k:=xQe s.aA[i].client 1 8;have l:=xQe s.aA[i].seq 1 1099511627776;simp only [aO.cells] at g;rcases Nat.eq_zero_or_pos i with rfl | hpos
  ·have hk:=mU (ok:=mg) (lt:=fW) a;simp only [mg,fW] at hk;refine sm g ?_;repeat' with_reducible first|apply And.intro|exact .dq|refine aD.bp (by assumption) ?_|refine aD.bp (k) ?_|refine aD.bp (l) ?_|refine pq (fun h=>?_) fun h=>?_|refine .id ?_|refine av.eS ah ?_ ?_|exact aJ|simp only [*,go_sem,seval]
   all_goals exact clo
  ·obtain ⟨j,rfl⟩:∃ j,i=j+1:=⟨i-1,by omega⟩
   have m:j < s.aA.length:=ah
   have hw1:IntKind.wrap .i64 (((j+1:Nat):Int)-1)=(j:Int):=gN;have hk:=lC (ok:=mg) (lt:=fW) a;simp only [mg,fW] at hk;have d:=aV (c:=aO.cells) s.aA m;have b:decide (s.aA[j].client < s.aA[j+1].client) = !decide (s.aA[j+1].client<=s.aA[j].client):=by rw [lA];simp
   rw [b] at hk;clear b;simp only [aO.cells] at d;refine sm g ?_;repeat' with_reducible first|apply And.intro|exact .dq|refine aD.bp (by assumption) ?_|refine aD.bp (k) ?_|refine aD.bp (l) ?_|refine pq (fun h=>?_) fun h=>?_|refine .id ?_|refine av.eS ah ?_ ?_|exact aJ|simp only [*,go_sem,seval,d,qn]
   all_goals exact clo
 have e:=yE (fun j (m:j < s.aA.length)=>f j ah);clear f;exact fL e
theorem xZb {r:az} (h:r.okB=true) (n:Int):0<=bM r n/\bM r n<=3:=by
 simp only [az.okB,cU] at h;have a:=D7 h.1.1;unfold bM fU;generalize r.ms=ms at a;induction ms with
 | nil=>simp [iE,au.zero]
 | cons x t ih =>
  simp only [iE];split
  ·have:=a x (by simp);simp only [au.ok,within,cU,bL] at this;omega
  ·exact ih fun y b=>a y (by simp [b])
theorem xZf {r:az} (h:r.okB=true) (n:Int):He r n=(!(bM r n==0)&&!(bM r n==3)):=by
 have:=xZb h n;rw [lA];simp only [He,Bool.or_eq_true,cU,iK,eH,beq_eq_false_iff_ne];omega
theorem xQz (s:af) (y:s.small) (hr:s.n7):Sq 31 [] [.agg s.cells] [] (.bool (fJ s)):=by
 have x:=y.aj.small;have M:=xQe s.now 0 1099511627776;have a2:=xQe s.day 0 1099511627776;have a3:=xQe s.phase 0 2;have c2:=xXo s.aj x;have c3:=xXl s.book y.book hr.qs;have c4:=xQu s.bu y.bu hr.bs;have N:=xQs s.ps (by have:=y.ps;omega);have O:=xXf s.calls y.calls;have v:=fun n=>xXg s n x;have B:=fun n=>xXb s n x;have C:=fun n=>xXp s.aj n x;have P:=xXk s y.bH;have Q:=xXi s y.aA;obtain ⟨hb1,hb2⟩:=y.book;have hpl:=y.ps;have hcl:=y.calls;have w:=fun h n=>xZf (r:=s.aj) h n;simp only [az.cells,aI.cells,bE.cells] at c2 c3 c4 C;simp only [af.cells] at v B P Q |-;clear y hr x;refine bf 197 1 [.tmp 2] mixed func31 ?_;refine sc aJ M ?_;cases J:within s.now 0 1099511627776
 ·have e:fJ s=false:=by simp [fJ,JJ,J]
  exact fL e
 refine sc aJ a2 ?_;cases K:within s.day 0 1099511627776
 ·have e:fJ s=false:=by simp [fJ,JJ,K]
  exact fL e
 refine sc aJ a3 ?_;cases L:within s.phase 0 2
 ·have e:fJ s=false:=by simp [fJ,JJ,L]
  exact fL e
 refine sc aJ c2 ?_;cases f:s.aj.okB
 ·have e:fJ s=false:=by simp [fJ,f]
  exact fL e
 refine sc aJ c3 ?_;cases q:s.book.okB
 ·have e:fJ s=false:=by simp [fJ,q]
  exact fL e
 refine sc aJ c4 ?_;cases D:s.bu.okB
 ·have e:fJ s=false:=by simp [fJ,D]
  exact fL e
 refine sc aJ N ?_;cases E:mN s.ps
 ·have e:fJ s=false:=by simp [fJ,E]
  exact fL e
 refine sc aJ O ?_;cases F:qt cj bO s.calls
 ·have e:fJ s=false:=by simp [fJ,F]
  exact fL e
 have w:=w f;have e:fJ s=(xN s&&(!decide (32 < (s.bH.length:Int))&&(s.bH.all wW&&qt mg fW s.aA))):=by simp only [fJ,JJ,J,K,L,f,q,D,E,F,fc]
 rw [e];clear e M a2 a3 c2 c3 c4 N O J K L f q D E F;obtain ⟨R,H⟩:=aQ ((!decide (32 < (s.bH.length:Int))&&(s.bH.all wW&&qt mg fW s.aA)));rw [<- H];refine s0 ?_;refine aM.w1 s.book.qs.length 3 [1] [32] (fun i _=>∀ j (I:j < s.book.qs.length),j < i->Vs s.aj s.book.qs[j]=true) (by intros;omega) ?_ ?_
 ·intro i _ l p A k;have t:=aV (c:=aF.cells) s.book.qs l;have z:(i:Int) < (s.book.qs.length:Int):=ah
  have e0:=Cg l k;have m:Vs s.aj s.book.qs[i]=false->(xN s&&R)=false:=fun h=>by simp [xN,Pm l h]
  simp only [Vs,w] at m;simp only [aF.cells] at t;refine sc (a2 p t) (v s.book.qs[i].who) ?_;cases b:bM s.aj s.book.qs[i].who==0
  case true =>
   have:=m (by simp [b]);refine sm (a2 b this) ?_;exact okx
  cases f:bM s.aj s.book.qs[i].who==3
  case true =>
   have:=m (by simp [f]);refine sm (a3 b f this) ?_;exact okx
  refine sc (a3 b f t) (B s.book.qs[i].inst) ?_;cases q:bJ s.aj s.book.qs[i].inst
  ·have:=m (by simp [q]);exact fL this
  refine sm A ?_;refine av.u l (e0 (by simp only [Vs,w,b,f,q];rfl)) ?_;exact gU
 intro _ d k;have o:=IQ k;have S:(xN s&&R)=((s.book.ts.all (Ni s.aj)&&(s.ps.all (MT s.aj)&&s.calls.all (GU s.aj)))&&R):=by simp [xN,o]
 rw [S];clear S o k;refine sm d ?_;clear d;refine aM.w1 s.book.ts.length 5 [1] [32] (fun i _=>∀ j (I:j < s.book.ts.length),j < i->Ni s.aj s.book.ts[j]=true) (by intros;omega) ?_ ?_
 ·intro i _ l p A k;have t:=aV (c:=aL.cells) s.book.ts l;have z:(i:Int) < (s.book.ts.length:Int):=ah
  have e0:=Cg l k;have m:Ni s.aj s.book.ts[i]=false->((s.book.ts.all (Ni s.aj)&&(s.ps.all (MT s.aj)&&s.calls.all (GU s.aj)))&&R)=false:=fun h=>by simp [Pm l h]
  simp only [Ni] at m;simp only [aL.cells] at t;refine sc (a2 p t) (v s.book.ts[i].jK) ?_;cases b:bM s.aj s.book.ts[i].jK==0
  case true =>
   have:=m (by simp [b]);refine sm b ?_;exact this.symm
  refine sc (a2 b t) (v s.book.ts[i].gK) ?_;cases f:bM s.aj s.book.ts[i].gK==0
  case true =>
   refine sm f ?_;exact (m (by simp [f])).symm
  refine sc (a2 f t) (B s.book.ts[i].inst) ?_;cases q:bJ s.aj s.book.ts[i].inst
  ·refine s0 ?_;exact (m (by simp [q])).symm
  refine sm A ?_;refine av.u l (e0 (by simp only [Ni,b,f,q];rfl)) ?_;exact gU
 intro _ d k;have o:=IQ k;rw [o,fc];clear o k;have hpln:(pl s.ps).length=s.ps.length:=eV s.ps;refine sm d ?_;clear d;refine aM.w1 s.ps.length 6 [1] [32] (fun i _=>∀ j (I:j < s.ps.length),j < i->MT s.aj s.ps[j]=true) (by intros;omega) ?_ ?_
 ·intro i _ l p A k;have t:=uG s.ps l;have z:(i:Int) < (s.ps.length:Int):=ah
  have e0:=Cg l k;have m:MT s.aj s.ps[i]=false->((s.ps.all (MT s.aj)&&s.calls.all (GU s.aj))&&R)=false:=fun h=>by simp [Pm l h]
  have e2:MT s.aj s.ps[i]=((!(bM s.aj s.ps[i].who==0)&&!(bM s.aj s.ps[i].who==3))&&mT s.aj s.ps[i].fq):=by simp only [MT,w]
  have o:=C s.ps[i].fq;obtain ⟨g,T⟩:=aQ (iE ay.a s.ps[i].fq ⟨0,0,0,0⟩ s.aj.xs);have G:decide (0<=jt ay.a s.ps[i].fq s.aj.xs)=mT s.aj s.ps[i].fq:=rfl;rw [<- T,G] at o;simp only [ay.cells] at o;rw [e2] at e0 m;clear e2;refine sc (a2 p t) (v s.ps[i].who) ?_;refine sc aJ o ?_;cases b:bM s.aj s.ps[i].who==0
  case true =>
   refine sm b ?_;refine dP ?_;exact (m (by simp [b])).symm
  cases f:bM s.aj s.ps[i].who==3
  case true =>
   refine sm (a2 b f) ?_;refine dP ?_;exact (m (by simp [f])).symm
  cases q:mT s.aj s.ps[i].fq
  ·refine sm (a3 b f q) ?_;refine dP ?_;exact (m (by simp [q])).symm
  refine sm (a4 b f q A) ?_;refine dP ?_;refine av.u l (e0 (by simp [b,f,q])) ?_;exact gU
 intro _ d k;have o:=IQ k;rw [o,fc];clear o k;refine sm d ?_;clear d;refine aM.w1 s.calls.length 10 [1] [32] (fun i _=>∀ j (I:j < s.calls.length),j < i->GU s.aj s.calls[j]=true) (by intros;omega) ?_ ?_
 ·intro i _ l p A k;have t:=aV (c:=aB.cells) s.calls l;have z:(i:Int) < (s.calls.length:Int):=ah
  have e0:=Cg l k;have m:GU s.aj s.calls[i]=false->(s.calls.all (GU s.aj)&&R)=false:=fun h=>by simp [Pm l h]
  simp only [aB.cells] at t;refine sc (a2 p t) (v s.calls[i].who) ?_;cases b:bM s.aj s.calls[i].who==1
  ·simp only [go_sem,seval,bne,b];exact (m b).symm
  simp only [go_sem,seval,bne,b,A];refine av.u l (e0 b) ?_;exact gU
 intro _ d k;have o:=IQ k;rw [o,fc,H,<- Bool.and_assoc];clear o k H;refine sc d P ?_;cases b7:(!decide (32 < (s.bH.length:Int))&&s.bH.all wW)
 ·simp only [go_sem,seval,gV]
 refine s0 ?_;refine aD.bp Q ?_;simp only [go_sem,seval,fc]
theorem xZd (l:List aN) (y:∀ c∈l,gm c.br):Sq 4 [] [.sl 17 (l.map aN.cells)] [] (.bool true):=by
 rcases bZ 1000 l.length with hlen | hlen
 ·have d:decide ((1000:Int) < (l.length:Int))=true:=iC;refine bf 39 1 [.tmp 2] mixed func4 ?_;exact fL d
 have d:decide ((1000:Int) < (l.length:Int))=false:=jL;have u:=DN;have k:=lO;obtain ⟨n,A⟩:=aQ (min l.length 200);have r:n<=l.length/\n<=200/\(n=l.length\/n=200):=ah
 clear A;refine bf 39 1 [.tmp 2] mixed func4 ?_;refine sm d ?_;refine so aJ u ?_;try simp only [go_sem,seval]
 refine aM.uB (S:=af) n [0] [] (fun i _=>[(2,.bool false),(3,.addr 64 0),(4,.I i)]) (fun i s=>[(64,.box s.cells)]) (fun _ s=>s.EJ) .zero kI ?_ ?_ ?_
 ·exact gU
 ·intro i s z hdi t m;have q:=aV (c:=aN.cells) l (by omega:i < l.length);have a:decide ((i:Int) < (l.length:Int))=true:=iC;have f:decide ((i:Int) < 200)=true:=iC;have hli:(i:Int) < (l.length:Int):=ah
  have g:=y _ (ck (by omega:i < l.length));obtain ⟨c,h⟩:=aQ (l[i]);rw [<- h] at q g;have o:=iN s c m.eo.right;have j:=iw s (fI s c) m.trim g;have b:=nL m (fI s c);obtain ⟨x,w⟩:=aQ (fI s c);rw [<- w] at o j b;obtain ⟨Z,v⟩:=aQ (kH s x);rw [<- v] at j b;have p:=xQz Z.1 b.trim.small b.eo.good.n7;rw [eW.2 b.eo.right] at p;clear h w v u k;simp only [af.cells,aN.cells,aT.cells] at o j p q |-;refine sc (a3 a f q) o ?_;try simp only [go_sem,seval]
  try (with_reducible and_intros)<;>first|exact .dq|omega|skip
  refine n8.tO [64] (by kernel_rfl) ?_;refine s0 ?_;try (with_reducible and_intros)<;>first|exact .dq|omega|skip
  refine jv.intro j ?_;refine sc aJ p ?_;refine sm t ?_;refine av.kW Z.1 z b ?_;simp only [go_sem,seval,af.cells]
 ·intro s hdx m;simp only [af.cells];rcases r.2.2 with e | e
  ·have a:decide ((n:Int) < (l.length:Int))=false:=jL;exact jW a k
  ·have f:decide ((n:Int) < 200)=false:=jL;cases a:decide ((n:Int) < (l.length:Int))
   ·exact jW a k
   ·exact jW (a2 a f) k
end Go.Proofs.YtccipdjjkcejgaaGreat
