/- The program's fund: shares, needs, what is borne, and what follows. No theorem of a claim. -/
import Derived.Test.YtccipdjjkcejgaaGreatMG
import Derived.Test.YtccipdjjkcejgaaGreatMF
import Derived.Test.YtccipdjjkcejgaaGreatMD
import Derived.Test.YtccipdjjkcejgaaGreatME
import Derived.Test.YtccipdjjkcejgaaGreatMB
set_option linter.unusedSimpArgs false
set_option linter.unusedVariables false
set_option maxHeartbeats 4000000
set_option maxRecDepth 16000
namespace Go.Proofs.YtccipdjjkcejgaaGreat
open Go.Abs Tryz
open List hiding lt max min
theorem join_eq (l:List aU):uu l=(om l,rL l):=Kp (fun _ h=>rz.2 h) uV l
theorem Oh (l:List aU) (a:l.length < 2 ^ 29):Sq 130 [] [.sl 4 (l.map aU.cells)] [.own 4 ((om l).map aU.cells)] (.bT [.ref 0,.I (rL l)]):=by
 have:=Kr l a;rwa [join_eq] at this
theorem Kq (l:List aU) (a:l.length < 2 ^ 29):Sq 130 [] [.sl 4 (l.map aU.cells)] [] (.bT [.sl 4 ((om l).map aU.cells),.I (rL l)]):=by
 refine Spec.frozen (Oh l a) [0] rfl ?_;intro r;rcases r with _ | r<;>rfl
theorem vl (a b:aP) (n:Int):Sq 280 [] [.agg a.cells,.agg b.cells,.I n] [] (.sl 4 ((cg a b n).map aU.cells)):=by
 refine Spec.frozen (YK a b n) [0] rfl ?_;intro r;rcases r with _ | r<;>rfl
theorem u5 (c:Int):Sq 344 [] [.I c] [] (.bool (within c 0 2)):=by
 refine bf 9 1 [.tmp 2] mixed func344 ?_;by_cases d:0<=c
 ·by_cases f:c < 3
  ·have a:decide (0<=c)=true:=dI d;have b:decide (c < 3)=true:=dI f;have e:within c 0 2=true:=by simp [within];omega
   exact fL (a3 a b e)
  ·have a:decide (0<=c)=true:=dI d;have b:decide (c < 3)=false:=eJ f;have e:within c 0 2=false:=by simp [within];omega
   exact fL (a3 a b e)
 ·have a:decide (0<=c)=false:=eJ d;have e:within c 0 2=false:=by simp [within];omega
  exact fL (a2 a e)
def yz (ws:List Int):Bool:=qt (fun x=>within x 1 16) (fun a b=>decide (a < b)) ws
theorem named_eq (c:Int) (ws:List Int):Qg c ws=(within c 0 2&&yz ws):=by rw [Qg,Bool.and_comm];rfl
theorem Aw (ws:List Int) (hl:ws.length < 2 ^ 30):Sq 366 [] [.sl 1 (ints ws)] [] (.bool (yz ws)):=by
 simp only [yz];refine bf 32 1 [.tmp 2] mixed func366 ?_;simp only [go_sem,seval,aW];refine aM.w1 ws.length 7 [0,5,6] [112] (fun i _=>∀ j < i,sA (fun x=>within x 1 16) (fun a b=>decide (a < b)) ws j=true) (by simp) ?_ ?_
 ·intro i _ e c n s;have k:=ints_at ws e;have hil:=aW ws;have hli:(i:Int) < (ws.length:Int):=ah
  have e0:=Cn (ok:=fun x=>within x 1 16) (lt:=fun a b:Int=>decide (a < b)) (xs:=ws) (i:=i) s;have r:sA (fun x=>within x 1 16) (fun a b=>decide (a < b)) ws i=false->qt (fun x=>within x 1 16) (fun a b=>decide (a < b)) ws=false:=fun h=>JH e h;have g:within ws[i] 1 16=false->sA (fun x=>within x 1 16) (fun a b=>decide (a < b)) ws i=false:=fun h=>by
   rcases Nat.eq_zero_or_pos i with rfl | hpos
   ·rw [mU (ok:=fun x=>within x 1 16) (lt:=fun a b:Int=>decide (a < b)) e,h]
   ·obtain ⟨j,rfl⟩:∃ j,i=j+1:=⟨i-1,by omega⟩
    rw [lC (ok:=fun x=>within x 1 16) (lt:=fun a b:Int=>decide (a < b)) e,h];rfl
  by_cases z:ws[i] < 1
  ·have d:decide (ws[i] < 1)=true:=dI z;have:=r (g (by simp [within];omega));simp only [go_sem,seval,aW,c,k,d,this];exact okx
  have o:decide (ws[i] < 1)=false:=eJ z;by_cases A:16 < ws[i]
  ·have d:decide (16 < ws[i])=true:=dI A;have:=r (g (by simp [within];omega));simp only [go_sem,seval,aW,c,k,o,d,this];exact okx
  have q:decide (16 < ws[i])=false:=eJ A;have f:within ws[i] 1 16=true:=by simp [within];omega
  rcases Nat.eq_zero_or_pos i with rfl | hpos
  ·have p:=mU (ok:=fun x=>within x 1 16) (lt:=fun a b:Int=>decide (a < b)) e;have t:decide ((0:Int) < (ws.length:Int))=true:=iC;simp only [go_sem,seval,aW,t,k,o,q,n];refine dP ?_;all_goals refine av.u e (e0 (by rw [p,f])) ?_
   all_goals simp only [go_sem,seval]
   all_goals rfl
  ·obtain ⟨j,rfl⟩:∃ j,i=j+1:=⟨i-1,by omega⟩
   have w:j < ws.length:=ah
   have m:IntKind.wrap .i64 (((j+1:Nat):Int)-1)=(j:Int):=gN;have p:=lC (ok:=fun x=>within x 1 16) (lt:=fun a b:Int=>decide (a < b)) e;have l:=ints_at ws w;have y:decide (0 < ((j+1:Nat):Int))=true:=iC;by_cases B:ws[j] < ws[j+1]
   ·have d:decide (ws[j+1]<=ws[j])=false:=jL;simp only [go_sem,seval,aW,c,k,o,q,y,m,l,d,n];refine dP ?_;refine av.u e (e0 (by rw [p,f,dI B];rfl)) ?_;exact gU
   ·have d:decide (ws[j+1]<=ws[j])=true:=iC;have:=r (by rw [p,f,eJ B];rfl);simp only [go_sem,seval,aW,c,k,o,q,y,m,l,d,this];exact okx
 ·intro _ v s;have:=yE (fun j (w:j < ws.length)=>s j w);simp only [go_sem,seval,aW,v,this]
theorem MA (l:bE) (c:Int) (ws:List Int) (hb:l.bs.length < 2 ^ 30) (hl:ws.length < 2 ^ 30):Sq 367 [] [.agg l.cells,.I c,.sl 1 (ints ws)] [.own 1 (ints (iW l c ws))] (.ref 0):=by
 have d:=fun a=>oT l a ah;simp only [bE.cells,aP.cells] at d |-;refine bf 26 3 [.tmp 6] mixed func367 ?_;simp only [go_sem,seval,aW];refine aM.wv ws.length [1,3,10,11] [64] (fun i=>[(12,.I i),(7,.ref 384)]) (fun i=>[(384,.own 1 (ints (iW l c (ws.take i))))]) ?_ ?_ ?_
 ·simp only [go_sem,seval]<;>simp [iW,ints]
 ·intro i _ h f j _;have k:=ints_at ws h;have hil:=aW ws;have hli:(i:Int) < (ws.length:Int):=ah
  have m:ints (iW l c (ws.take (i+1)))=ints (iW l c (ws.take i))++[[.I (jo ⟨3,ws[i],c⟩ l.bs)]]:=by
   rw [l7 h];simp only [iW,ints,jq,map_cons,map_nil]
  have b:(iW l c (ws.take i)).length=i:=by simp [iW];omega
  have e:=d ⟨3,ws[i],c⟩;clear d;refine sc (a2 f k) e ?_;simp only [go_sem,seval,aW,b,j];refine dP ?_;refine av.v h ?_;exact fL m
 ·intro _ g _;simp only [go_sem,seval,aW,g,jr]
theorem xG (l:bE) (c:Int) (ws:List Int) (a:l.bs.length < 2 ^ 30) (b:ws.length < 2 ^ 30):Sq 367 [] [.agg l.cells,.I c,.sl 1 (ints ws)] [] (.sl 1 (ints (iW l c ws))):=by
 refine Spec.frozen (MA l c ws a b) [0] rfl ?_;intro r;rcases r with _ | r<;>rfl
theorem J' (r:az) (ws:List Int) (h:r.lp) (hl:ws.length < 2 ^ 30):Sq 370 [] [.agg r.cells,.sl 1 (ints ws)] [.own 1 (ints (iV r ws))] (.ref 0):=by
 have c:=fun n=>cw r n h.small;simp only [az.cells] at c |-;refine bf 29 2 [.tmp 4] mixed func370 ?_;simp only [go_sem,seval,aW];refine aM.wv ws.length [2,10,11] [48] (fun i=>[(12,.I i),(5,.ref 432)]) (fun i=>[(432,.own 1 (ints (iV r (ws.take i))))]) ?_ ?_ ?_
 ·simp only [go_sem,seval]<;>simp [iV,ints]
 ·intro i _ f d j _;have m:=ints_at ws f;have hil:=aW ws;have hli:(i:Int) < (ws.length:Int):=ah
  have k:ints (iV r (ws.take (i+1)))=ints (iV r (ws.take i))++[[.I (fU r ws[i]).need]]:=by
   rw [l7 f];simp only [iV,ints,jq,map_cons,map_nil]
  have b:(iV r (ws.take i)).length=i:=by simp [iV];omega
  have a:=c ws[i];obtain ⟨g,l⟩:=aQ (fU r ws[i]);rw [<- l] at a k;simp only [au.cells] at a;clear c;refine sc (a2 d m) a ?_;simp only [go_sem,seval,aW,b,j];refine dP ?_;refine av.v f ?_;exact fL k
 ·intro _ e _;simp only [go_sem,seval,aW,e,jr]
theorem vW (r:az) (ws:List Int) (h:r.lp) (a:ws.length < 2 ^ 30):Sq 370 [] [.agg r.cells,.sl 1 (ints ws)] [] (.sl 1 (ints (iV r ws))):=by
 refine Spec.frozen (J' r ws h a) [0] rfl ?_;intro r;rcases r with _ | r<;>rfl
theorem Ez {l:List Int} (h:∀ n∈l,bQ n=true):right l=true:=dn.2 h
theorem jG {l:List Int} (h:right l=true):n9 l=(if bQ (aG l) then aG l else 0)/\nW l=if bQ (aG l) then 0 else 1:=by
 simp [n9,nW,h]
theorem vX (l:bE) (c:Int) (ws:List Int) (i:l.bs.length < 2 ^ 30) (hl:ws.length < 2 ^ 29):Sq 333 [] [.agg l.cells,.I c,.sl 1 (ints ws)] [] (.bT [.I (pN l c ws),.I (iz l c ws)]):=by
 have c1:=mu l i;have c2:=u5 c;have c3:=Aw ws ah;have c4:=xG l c ws i ah;have h:=gz (iW l c ws) (by simp [iW];omega);have a:iz l c ws=if l.okB then (if within c 0 2&&yz ws then (if bQ (aG (iW l c ws)) then 0 else 1) else 3) else 14:=by rw [iz,named_eq]
 obtain ⟨E,b⟩:=aQ (iz l c ws);simp only [pN,<- b];rw [<- b] at a;clear b;simp only [bE.cells] at c1 c4 |-;refine bf 31 3 [.tmp 6,.tmp 7] mixed func333 ?_;refine sc aJ c1 ?_;cases d:l.okB
 ·rw [d] at a;have e:E=14:=by simpa using a
  rw [e];simp only [go_sem,seval]<;>simp
 rw [d,aq rfl] at a;refine sc aJ c2 ?_;cases f:within c 0 2
 ·have e:E=3:=by rw [a,f];rfl
  rw [e];simp only [go_sem,seval]<;>simp
 refine sc aJ c3 ?_;cases g:yz ws
 ·have e:E=3:=by rw [a,f,g];rfl
  rw [e];simp only [go_sem,seval]<;>simp
 rw [f,g,Bool.and_self,aq rfl] at a;have hr:=Ez (l:=iW l c ws) fun n j=>by obtain ⟨w,_,rfl⟩:=mem_map.1 j;exact uz d _
 rw [(jG hr).1,(jG hr).2] at h;refine sc aJ c4 ?_;refine sc aJ h ?_;rw [a];cases q:bQ (aG (iW l c ws))<;>simp only [go_sem,seval,q]<;>simp
theorem SI {r:az} (h:r.okB=true) (w:Int):bQ (fU r w).need=true:=by
 refine Dw (R:=fun m:au=>bQ m.need=true) (by decide) fun m a=>?_;have:=Ve h m a;simp only [au.ok,cU] at this;exact this.1.2
theorem xF (r:az) (ws:List Int) (h:r.lp) (hl:ws.length < 2 ^ 29):Sq 335 [] [.agg r.cells,.sl 1 (ints ws)] [] (.bT [.I (tM r ws),.I (j0 r ws)]):=by
 have c1:=dN r h.small;have c3:=Aw ws ah;have c4:=vW r ws h ah;have f:=gz (iV r ws) (by simp [iV];omega);have a:j0 r ws=if r.okB then (if yz ws then (if bQ (aG (iV r ws)) then 0 else 1) else 3) else 14:=by rw [j0,named_eq];simp [within]
 obtain ⟨E,b⟩:=aQ (j0 r ws);simp only [tM,<- b];rw [<- b] at a;clear b;simp only [az.cells] at c1 c4 |-;refine bf 23 2 [.tmp 4,.tmp 5] mixed func335 ?_;refine sc aJ c1 ?_;cases c:r.okB
 ·rw [c] at a;have e:E=14:=by simpa using a
  rw [e];simp only [go_sem,seval]<;>simp
 rw [c,aq rfl] at a;refine sc aJ c3 ?_;cases d:yz ws
 ·have e:E=3:=by rw [a,d];rfl
  rw [e];simp only [go_sem,seval]<;>simp
 rw [d,aq rfl] at a;have hr:=Ez (l:=iV r ws) fun n g=>by obtain ⟨w,_,rfl⟩:=mem_map.1 g;exact SI c w
 rw [(jG hr).1,(jG hr).2] at f;refine sc aJ c4 ?_;refine sc aJ f ?_;rw [a];cases q:bQ (aG (iV r ws))<;>simp only [go_sem,seval,q]<;>simp
theorem ac7 {n:Int} {gs:List Int} (h0:0<=n) (h1:n<=aG gs) (h2:n<=4611686018427387904) (c:∀ g∈gs,0<=g/\g<=4611686018427387904) (hl:gs.length<=1024):pz n gs=0:=by
 rw [GL];have a:mO n gs=0:=by
  have d:right gs=true:=dn.2 fun x b=>by rw [bI];have:=c x b;omega
  have e2:Lb gs=true:=dn.2 fun x b=>by have:=c x b;simp;omega
  have e:bQ n=true:=by rw [bI];omega
  have f:decide (n < 0)=false:=jL;simp only [mO,f,d,e2,e,ak (by omega:¬ 1024 < gs.length)];rfl
 rw [aq a];split
 ·rw [aq ah]
 ·rfl
theorem xE (k c n:Int) (ws gs:List Int) (he:gs.length=ws.length) (hl:ws.length<=1024) (D:∀ g∈gs,0<=g/\g<=4611686018427387904):Sq 372 [] [.I k,.I c,.I n,.I (aG gs),.sl 1 (ints ws),.sl 1 (ints gs)] [] (.bT [.sl 4 ((NC k c n (aG gs) ws gs).map aU.cells),.I (NA k c n (aG gs) ws gs)]):=by
 have c0:=bY [n] (by simp);rw [tQ] at c0;simp only [ints,map_cons,map_nil] at c0;obtain ⟨b,l⟩:=aQ (aG gs);rw [<- l];obtain ⟨E,a⟩:=aQ (NA k c n b ws gs);have j:=a;simp only [NC,<- j];clear j;simp only [NA] at a;refine bf 71 6 [.tmp 12,.tmp 13] mixed func372 ?_;by_cases G:n < 0
 ·have d:decide (n < 0)=true:=dI G;have e:E=3:=by rw [a,ak];simp [within];omega
  rw [e];simp only [go_sem,seval,d]<;>simp
 have J:decide (n < 0)=false:=eJ G;refine sl J c0 ?_;cases H:bQ n
 ·have e:E=3:=by rw [a,ak];simp [bQ,within] at H |-;omega
  rw [e];simp only [go_sem,seval]<;>simp
 have hn:=bI.1 H;rw [aq (by simp [within];omega)] at a;by_cases t:b < n
 ·have d:decide (b < n)=true:=dI t;rw [aq t] at a;rw [a];simp only [go_sem,seval,d]<;>simp
 have K:decide (b < n)=false:=eJ t;rw [ak t] at a;have c2:=VR n gs ah;have y:=vI n gs;have p:=VP n gs;rw [ac7 ah ah ah D ah] at c2;obtain ⟨ps,q⟩:=aQ (iH n gs);rw [<- q] at c2 y p a |-;have hgl:=yF (f:=Ap k c ws ps) (m:=1) (fun i=>by simp [Ap]) ps.length;have A:=Kq (NB k c n ws ps) (by simp only [NB,length_cons];omega);have B:(if E=0 then om (NB k c n ws ps) else [])=om (NB k c n ws ps):=by
  split
  ·rfl
  ·rename_i h;simp [om,<- a,h]
 rw [B,a];clear B a q D c0;refine sc K c2 ?_;simp only [go_sem,seval,aW];refine aM.wv ps.length [0,1,4,46,47] [] (fun i=>[(48,.I i),(16,.ref 1056)]) (fun i=>[(1056,.own 4 ((⟨6,0,c,n⟩ :: rG (Ap k c ws ps) i:List aU).map aU.cells))]) ?_ ?_ ?_
 ·simp only [go_sem,seval,RX]<;>simp
 ·intro i _ s u z _;have M:=ints_at ps s;have o:i < ws.length:=ah
  have x:=ints_at ws o;have hp:=p ps[i] (ck s);have N:IntKind.wrap .i64 (0-ps[i]) = -ps[i]:=gN;have F:(⟨6,0,c,n⟩ :: rG (Ap k c ws ps) (i+1):List aU)=(⟨6,0,c,n⟩ :: rG (Ap k c ws ps) i)++[⟨k,ws[i],c,-ps[i]⟩]:=by
   rw [Ds];simp [Ap,s,o]
  have hll:=yF (f:=Ap k c ws ps) (m:=1) (fun i=>by simp [Ap]) i;obtain ⟨L,C⟩:=aQ ((⟨6,0,c,n⟩ :: rG (Ap k c ws ps) i:List aU));have hLl:L.length<=i+1:=by rw [C,length_cons];omega
  rw [<- C] at F |-;have hlw:(i:Int) < (ws.length:Int):=ah
  have hlp:(i:Int) < (ps.length:Int):=ah
  clear A;simp only [go_sem,seval,aW,u,M,x,N,z];refine dP ?_;refine av.v s ?_;refine s0 ?_;have r:=congrArg (map aU.cells) F;simp only [jq,map_cons,map_nil] at r |-;exact r.symm
 ·intro _ w _;simp only [go_sem,seval,aW,w];refine dP ?_;refine aD.iT [1056] [] false (by simp) ?_;refine s0 ?_;refine cY.gB A ?_;exact gU
theorem T9 {ws:List Int} (h:yz ws=true):ws.length<=16:=by
 have e:=(jA (lt:=fun a b:Int=>decide (a < b)) (fun {a b c} h1 h2=>by simp only [bL] at h1 h2 |-;omega)).1 h;have:=xR (fun x:Int=>x) 1 17 e.2 (fun a _ b _ d=>by simpa using d) (fun x f=>by have:=e.1 x f;simp [within] at this;omega) (by decide);omega
theorem VJ {l:bE} {c:Int} {ws:List Int} (h:iz l c ws=0):l.okB=true/\ws.length<=16/\pN l c ws=aG (iW l c ws):=by
 refine ⟨?_,?_,by rw [pN,aq h]⟩
 ·unfold iz at h;split at h
  ·assumption
  ·cases h
 ·unfold iz at h;split at h
  ·split at h
   ·rename_i a;rw [named_eq,cU] at a;exact T9 a.2
   ·cases h
  ·cases h
theorem YL {r:az} {ws:List Int} (h:j0 r ws=0):r.okB=true/\ws.length<=16/\tM r ws=aG (iV r ws):=by
 refine ⟨?_,?_,by rw [tM,aq h]⟩
 ·unfold j0 at h;split at h
  ·assumption
  ·cases h
 ·unfold j0 at h;split at h
  ·split at h
   ·rename_i a;rw [named_eq,cU] at a;exact T9 a.2
   ·cases h
  ·cases h
theorem Mz (l:bE) (c n:Int) (ws:List Int) (b:l.bs.length < 2 ^ 30) (f:ws.length < 2 ^ 29):Sq 338 [] [.agg l.cells,.I c,.I n,.sl 1 (ints ws)] [] (.bT [.sl 4 ((On l c n ws).map aU.cells),.I (Sv l c n ws)]):=by
 have c1:=vX l c ws b f;have c2:=xG l c ws b ah;simp only [bE.cells] at c1 c2 |-;simp only [On,Sv];refine bf 33 4 [.tmp 8,.tmp 9] mixed func338 ?_;by_cases a:iz l c ws=0
 case neg =>
  have d:(iz l c ws==0)=false:=by simpa using a
  refine sc aJ c1 ?_;simp only [go_sem,seval,bne,d,ak a]<;>simp
 obtain ⟨k1,k2,k3⟩:=VJ a
 have c3:=xE 3 c n ws (iW l c ws) (by simp [iW]) ah (fun g e=>by
  obtain ⟨w,_,rfl⟩:=mem_map.1 e;have:=bI.1 (uz k1 ⟨3,w,c⟩);have:=WK k1 w c
  omega)
 rw [k3,a] at c1;rw [aq a,aq a,k3];refine sc aJ c1 ?_;refine sc aJ c2 ?_;exact jW aJ c3
theorem Ii (r:az) (c n:Int) (ws:List Int) (h:r.lp) (e:ws.length < 2 ^ 29):Sq 339 [] [.agg r.cells,.I c,.I n,.sl 1 (ints ws)] [] (.bT [.sl 4 ((yA r c n ws).map aU.cells),.I (Ch r c n ws)]):=by
 have c1:=xF r ws h e;have c2:=vW r ws h ah;have c4:=u5 c;simp only [az.cells] at c1 c2 |-;simp only [yA,Ch];refine bf 34 4 [.tmp 8,.tmp 9] mixed func339 ?_;by_cases a:j0 r ws=0
 case neg =>
  have d:(j0 r ws==0)=false:=by simpa using a
  refine sc aJ c1 ?_;simp only [go_sem,seval,bne,d,ak a]<;>simp [a]
 obtain ⟨k1,k2,k3⟩:=YL a
 have c3:=xE 2 c n ws (iV r ws) (by simp [iV]) ah (fun g b=>by
  obtain ⟨w,_,rfl⟩:=mem_map.1 b;have:=bI.1 (SI k1 w);have:0<=(fU r w).need:=Dw (R:=fun m:au=>0<=m.need) (by decide) fun m f=>(nP (Ve k1 m f)).2.2.1
  omega)
 rw [k3,a] at c1;rw [aq a,a,k3];refine sc aJ c1 ?_;refine sc aJ c4 ?_;cases b2:within c 0 2
 ·simp only [go_sem,seval]<;>simp
 refine sc aJ c2 ?_;exact jW aJ c3
theorem Ka (l:bE) (r:az) (c:Int) (hb:l.bs.length < 2 ^ 30) (h:r.lp) (J:r.ms.length < 2 ^ 27):Sq 294 [] [.agg l.cells,.agg r.cells,.I c] [.own 4 ((dS l r c).map aU.cells),.own 3 ((if gQ l r c=0 then pL l r c else []).map aE.cells)] (.bT [.ref 0,.ref 1,.I (gQ l r c)]):=by
 have c1:=mu l hb;have c2:=dN r h.small;have c3:=u5 c;have O:=fun a=>oT l a ah;have S:=fun a b n=>vl a b n;have D:∀ a,l.okB=true->bQ (jo a l.bs)=true:=fun a h=>uz h a;have Q:=fun (h:l.okB=true) w=>WK h w c;have hJl:=gw (f:=kS l c) (m:=2) (fun m=>by unfold kS;split<;>simp [cg]) r.ms;have cJ:=Oh (r.ms.flatMap (kS l c)) ah;simp only [bE.cells,aP.cells] at c1 O S |-;simp only [az.cells] at c2 |-;refine bf 95 3 [.tmp 6,.tmp 7,.tmp 8] mixed func294 ?_;refine sc aJ c1 ?_;cases p:l.okB
 ·have e:gQ l r c=14:=by simp [gQ,p]
  have s:dS l r c=[]:=by simp [dS,rfB,p]
  simp only [go_sem,seval,bne,e,s]<;>simp
 refine sc aJ c2 ?_;cases t:r.okB
 ·have e:gQ l r c=14:=by simp [gQ,t]
  have s:dS l r c=[]:=by simp [dS,rfB,t]
  simp only [go_sem,seval,bne,e,s]<;>simp
 refine sc aJ c3 ?_;cases C:within c 0 2
 ·have e:gQ l r c=3:=by simp [gQ,p,t,C]
  have s:dS l r c=[]:=by simp [dS,rfB,C]
  simp only [go_sem,seval,bne,e,s]<;>simp
 have e:gQ l r c=rL (r.ms.flatMap (kS l c)):=by simp [gQ,p,t,C]
 have s:dS l r c=om (r.ms.flatMap (kS l c)):=by simp [dS,rfB,p,t,C]
 have e2:pL l r c=r.ms.flatMap (yc l c):=by simp [pL,rfB,p,t,C]
 rw [e,s,e2];have D:=fun a=>D a p;have Q:=Q p;have K:=Ve t;clear e s e2 c1 c2 c3;simp only [go_sem,seval,bne];refine dP ?_;refine aM.wv r.ms.length [2,3,4,35,36] [64,80] (fun i=>[(37,.I i),(10,.ref 1136),(11,.ref 1344)]) (fun i=>[(1136,.own 4 (((r.ms.take i).flatMap (kS l c)).map aU.cells)),(1344,.own 3 (((r.ms.take i).flatMap (yc l c)).map aE.cells))]) ?_ ?_ ?_
 ·simp only [go_sem,seval]<;>simp
 ·intro i _ y E B _;have J:=aV (c:=au.cells) r.ms y;have hli:(i:Int) < (r.ms.length:Int):=ah
  have hlt:(r.ms.take i).length=i:=by simp;omega
  have k:=mI (kS l c) y;have j:=mI (yc l c) y;have Z:=gw (f:=kS l c) (m:=2) (fun m=>by unfold kS;split<;>simp [cg]) (r.ms.take i);have aa:=gw (f:=yc l c) (m:=1) (fun m=>by unfold yc;split<;>simp) (r.ms.take i);have N:=K _ (ck y);obtain ⟨L,T⟩:=aQ ((r.ms.take i).flatMap (kS l c));obtain ⟨M,U⟩:=aQ ((r.ms.take i).flatMap (yc l c));obtain ⟨x,hx⟩:=aQ (r.ms[i]);rw [<- hx] at k j J N;rw [<- T] at k Z;rw [<- U] at j aa;rw [<- T,<- U];simp only [au.ok,bQ,cU,bL] at N;simp only [au.cells] at J;clear cJ T U K;cases R:x.state==1
  ·simp only [kS,yc,R,gV,nJ,if_false,append_nil] at k j;simp only [go_sem,seval,E,J,bne,R,B];refine dP ?_;refine av.v y ?_;exact fL (a2 k j)
  have h1:=bI.1 (D ⟨3,x.no,c⟩);have h2:=bI.1 (D ⟨2,x.no,c⟩);have h3:=Q x.no;have cF:=O ⟨3,x.no,c⟩;have cC:=O ⟨2,x.no,c⟩;have u:=S ⟨2,x.no,c⟩ ⟨3,x.no,c⟩ (F5 l c x);have H:Gh l c x=max (x.need-jo ⟨3,x.no,c⟩ l.bs) 0:=rfl;have G:F5 l c x=min (Gh l c x) (max (jo ⟨2,x.no,c⟩ l.bs) 0):=rfl;simp only [kS,yc,R,fc,if_true] at k j;obtain ⟨A,P⟩:=aQ (Gh l c x);obtain ⟨F,o⟩:=aQ (F5 l c x);obtain ⟨f,X⟩:=aQ (jo ⟨3,x.no,c⟩ l.bs);obtain ⟨g,Y⟩:=aQ (jo ⟨2,x.no,c⟩ l.bs);rw [<- P,<- o] at j;rw [<- o] at k u;rw [<- P,<- X] at H;rw [<- o,<- P,<- Y] at G;rw [<- X] at cF h1 h3;rw [<- Y] at cC h2;have ab:IntKind.wrap .i64 (x.need-f)=x.need-f:=gA ah ah;have ac:IntKind.wrap .i64 (A-F)=A-F:=gA ah ah;have eA:max (x.need-f) 0=A:=H.symm;have eF:min A (max g 0)=F:=G.symm;have z:(cg ⟨2,x.no,c⟩ ⟨3,x.no,c⟩ F).length=2:=rfl;obtain ⟨V,hV⟩:=aQ (cg ⟨2,x.no,c⟩ ⟨3,x.no,c⟩ F);rw [<- hV] at k u z;clear O S P o X Y hV D Q;simp only [go_sem,seval,E,J,bne,R];refine sc (a2 ab eA) cF ?_;refine sc eF cC ?_;refine sc aJ u ?_;by_cases q2:F < A
  ·have d:decide (F < A)=true:=dI q2;rw [d,aq rfl] at j;refine sm (a4 d ac B z) ?_;refine dP ?_;refine av.v y ?_;simp only [go_sem,seval,k,j]<;>simp
  ·have d:decide (F < A)=false:=eJ q2;rw [d,ak (by simp),append_nil] at j;refine sm (a3 d B z) ?_;refine dP ?_;refine av.v y ?_;simp only [go_sem,seval,k,j]<;>simp
 ·intro _ W _;simp only [go_sem,seval,W,jr];refine sl aJ cJ ?_;by_cases q:rL (r.ms.flatMap (kS l c))=0
  ·rw [q,aq rfl];simp only [go_sem,seval]<;>simp
  ·have d:(rL (r.ms.flatMap (kS l c))==0)=false:=by simpa using q
   have e:om (r.ms.flatMap (kS l c))=[]:=ak q;rw [e,ak q];simp only [go_sem,seval,bne,d]<;>simp
theorem Ij (l:bE) (r:az) (c:Int) (a:l.bs.length < 2 ^ 30) (h:r.lp) (b:r.ms.length < 2 ^ 27):Sq 294 [] [.agg l.cells,.agg r.cells,.I c] [] (.bT [.sl 4 ((dS l r c).map aU.cells),.sl 3 ((if gQ l r c=0 then pL l r c else []).map aE.cells),.I (gQ l r c)]):=by
 refine Spec.frozen (Ka l r c a h b) [0,1] rfl ?_;intro r;rcases r with _ | _ | r<;>rfl
def BA {A:Type} (p:A->Bool):List A->Int
 | []=>-1
 | t :: r=>if p t then 0 else if BA p r < 0 then -1 else BA p r+1
theorem F8 (n:Int):∀ l:List aL,BA (onB n) l=lR n l
 | []=>rfl
 | t :: r=>by simp only [BA,lR,F8 n r]
theorem um {A:Type} {p:A->Bool}:∀ {xs:List A} {i:Nat} (h:i < xs.length),(∀ j (b:j < xs.length),j < i->p xs[j]=false)->p xs[i]=true->BA p xs=i
 | [],i,h,_,_=>by simp at h
 | x :: r,0,h,_,a=>by
  have a:p x=true:=a;simp [BA,a]
 | x :: r,i+1,h,hn,a=>by
  have c:p x=false:=hn 0 (by simp) ah;have d:=um (xs:=r) (i:=i) (by simpa using h) (fun j b hji=>hn (j+1) (by simpa using b) ah) a;simp only [BA,c,d];rw [ak (by simp),ak ah];omega
theorem uo {A:Type} {p:A->Bool}:∀ {xs:List A},(∀ j (a:j < xs.length),p xs[j]=false)->BA p xs = -1
 | [],_=>rfl
 | x :: r,hn=>by
  have b:p x=false:=hn 0 (by simp);have c:=uo (xs:=r) (fun j a=>hn (j+1) (by simpa using a));simp [BA,b,c]
theorem wE (p:aL->Bool) (g:FuncId) (n:Int) (o:∀ x:aL,Sq g [] [.agg x.cells,.bq [.I n]] [] (.bool (p x))) (cs:List aL) (e:cs.length < 2 ^ 60):Sq 326 [] [.sl 7 (cs.map aL.cells),.fn g [.bq [.I n]]] [] (.I (BA p cs)):=by
 refine bf 19 2 [.tmp 4] mixed func326 ?_;refine s0 ?_;refine aM.w1 cs.length 8 [0,1,7] [] (fun i _=>∀ j (a:j < cs.length),j < i->p cs[j]=false) (by intros;omega) ?_ ?_
 ·intro i _ l f q b;have m:=aV (c:=aL.cells) cs l;have hli:(i:Int) < (cs.length:Int):=ah
  have e:=o cs[i];simp only [aL.cells] at m e;refine sc (a2 f m) e ?_;cases d:p cs[i]
  ·refine sm (a2 d q) ?_;refine av.u l ?_ ?_
   ·intro j a hji;rcases bZ j i with h | h
    ·exact b j a h
    ·obtain rfl:j=i:=ah
     exact d
   ·exact gU
  ·simp only [go_sem,seval,d,um l b d]
 ·intro _ k b;simp only [go_sem,seval,k,uo fun j a=>b j a a]
theorem PA (n:Int) (t:aL):Sq 360 [] [.agg t.cells,.bq [.I n]] [] (.bool (onB n t)):=by
 simp only [aL.cells,onB];refine bf 13 2 [.tmp 3] mixed func360 ?_;cases q:t.no==n<;>simp only [go_sem,seval,q]<;>simp
theorem Mt (n:Int) (t:aL):Sq 362 [] [.agg t.cells,.bq [.I n]] [] (.bool (t.no==n)):=by
 simp only [aL.cells];refine bf 8 2 [.tmp 3] mixed func362 ?_;exact gU
theorem Ml (b:aI) (t:aL) (i:b.small) (n:b.qs.length < 2 ^ 28):Sq 285 [] [.agg b.cells,.agg t.cells] [.own 7 ((jf b t).ts.map aL.cells),.own 4 ((jf b t).qs.map aF.cells)] (.bT [.agg [.I (jf b t).next,.ref 0,.ref 1],.I (oL b t),.I (gO b t)]):=by
 have c1:=gX b i;have c2:=wo t;have c3:=LY t;have c4:=wY b (fT t false) i n (by have:=Ol t false;omega);have hlt:=i.1;simp only [aI.cells,aL.cells] at c1 c2 c3 c4 |-;refine bf 59 2 [.cell 4 32,.tmp 5,.tmp 6] mixed func285 ?_;refine sc aJ c1 ?_;cases a:b.okB
 ·have e:gO b t=14:=by simp [gO,a]
  simp only [go_sem,seval,jf,oL,e];all_goals simp
 obtain ⟨n1,n2,n3⟩:=XM a;refine sc a c2 ?_;cases f:t.okB
 ·have e:gO b t=3:=by simp [gO,a,f]
  simp only [go_sem,seval,jf,oL,e];all_goals simp
 by_cases g:128<=b.ts.length
 ·have e:gO b t=9:=by simp [gO,a,f,g]
  have d:decide ((128:Int)<=(b.ts.length:Int))=true:=iC;simp only [go_sem,seval,d,jf,oL,e];all_goals simp
 have k:decide ((128:Int)<=(b.ts.length:Int))=false:=jL;by_cases j:b.next=1099511627776
 ·have e:gO b t=1:=by simp only [gO,a,f,ak g,aq j];rfl
  have d:decide (1099511627776<=b.next)=true:=iC;simp only [go_sem,seval,k,d,jf,oL,e];all_goals simp
 have l:decide (1099511627776<=b.next)=false:=jL;have e:gO b t=nw b (fT t false):=by simp only [gO,a,f,ak g,ak j];rfl
 have w:IntKind.wrap .i64 (b.next+1)=b.next+1:=gA ah ah
 simp only [jf,oL];rw [e];clear e c1 c2;refine sm (a2 k l) ?_;refine sc aJ c3 ?_;refine so aJ c4 ?_;by_cases c:nw b (fT t false)=0
 ·have h:=(qQ c).2;rw [h,c];refine sm w ?_;refine dP ?_;all_goals simp
 ·have h:=Wc c;have m:(nw b (fT t false)==0)=false:=by simpa using c
  rw [h,ak c,ak c];simp only [go_sem,seval,bne,m];(with_reducible and_intros)<;>first|exact .dq|omega|skip
  all_goals simp
theorem wZ (b:aI) (t:aL) (a:b.small) (c:b.qs.length < 2 ^ 28):Sq 285 [] [.agg b.cells,.agg t.cells] [] (.bT [.agg (jf b t).cells,.I (oL b t),.I (gO b t)]):=by
 refine Spec.frozen (Ml b t a c) [0,1] rfl ?_;intro r;rcases r with _ | _ | r<;>rfl
theorem Jy (b:aI) (n:Int) (l:b.small) (u:b.qs.length < 2 ^ 28):Sq 328 [] [.agg b.cells,.I n] [.own 7 ((ct b n).ts.map aL.cells),.own 4 ((ct b n).qs.map aF.cells)] (.bT [.agg [.I (ct b n).next,.ref 0,.ref 1],.I (fY b n)]):=by
 have c1:=gX b l;have c2:=wE (onB n) 360 n (PA n) b.ts (by have:=l.1;omega);rw [F8] at c2;have c3:Sq 361 [] [.agg (bN n b.ts).cells] [] (.sl 4 ((fT (bN n b.ts) true).map aF.cells)):=by
  refine Spec.frozen (Nh (bN n b.ts)) [0] rfl ?_;intro r;rcases r with _ | r<;>rfl
 have c4:=wY b (fT (bN n b.ts) true) l u (by have:=Ol (bN n b.ts) true;omega);have hlt:=l.1;simp only [aI.cells] at c1 c2 c3 c4 |-;refine bf 42 2 [.cell 4 32,.tmp 5] mixed func328 ?_;refine sc aJ c1 ?_;cases k:b.okB
 ·have e:fY b n=14:=by simp [fY,k]
  simp only [go_sem,seval,ct,e];all_goals simp
 refine sl k c2 ?_;by_cases h:lR n b.ts < 0
 ·have e:fY b n=10:=by simp [fY,k,h]
  have d:decide (lR n b.ts < 0)=true:=dI h;simp only [go_sem,seval,d,ct,e];all_goals simp
 have p:decide (lR n b.ts < 0)=false:=eJ h;have e:fY b n=nw b (fT (bN n b.ts) true):=by simp only [fY,k,ak h];rfl
 obtain ⟨i,q,a,hon⟩:=xB h;have m:=aV (c:=aL.cells) b.ts q;have g:bN n b.ts=b.ts[i]:=by simp [bN,a,q]
 have hli:(i:Int) < (b.ts.length:Int):=ah
 have f:Vj n b.ts=b.ts.set i { b.ts[i] with off:=true }:=by simp [Vj,g,a]
 simp only [ct];rw [e];rw [g] at c3 c4 |-;rw [f];clear e c1 c2 g f;obtain ⟨t,v⟩:=aQ (b.ts[i]);rw [<- v] at m c3 c4 |-;rw [a] at p;simp only [aL.cells] at m c3;rw [a];refine sc (a2 p m) c3 ?_;refine so aJ c4 ?_;by_cases j:nw b (fT t true)=0
 ·have o:=(qQ j).2;rw [o,j];refine sm m ?_;refine dP ?_;all_goals simp [map_set]
 ·have o:=Wc j;have s:(nw b (fT t true)==0)=false:=by simpa using j
  rw [o,ak j];simp only [go_sem,seval,bne,s];(with_reducible and_intros)<;>first|exact .dq|omega|skip
  all_goals simp
theorem aaO {A:Type} {p:A->Bool}:∀ {l:List A},l.any p=true->∃ k,∃ h:k < l.length,(∀ j (b:j < l.length),j < k->p l[j]=false)/\p l[k]=true
 | [],h=>by simp at h
 | x :: r,h=>by
  cases a:p x
  ·rw [any_cons,a,Bool.false_or] at h;obtain ⟨k,e,c,d⟩:=aaO h;refine ⟨k+1,by simpa using e,fun j b hjk=>?_,d⟩;cases j with
   | zero=>exact a
   | succ j=>exact c j (by simpa using b) ah
  ·exact ⟨0,by simp,fun j _ h=>by omega,a⟩
theorem ah4 {A:Type} {p:A->Bool} {l:List A} (h:l.any p=false) (j:Nat) (a:j < l.length):p l[j]=false:=by
 rw [any_eq_false] at h;simpa using h _ (ck a)
theorem afP {A:Type} {p:A->Bool} {l:List A} {k:Nat} (hk:k < l.length) (h:∀ j (a:j < l.length),j < k->p l[j]=false):(l.take k).filter (fun x=>!p x)=l.take k:=by
 rw [filter_eq_self];intro x b;obtain ⟨j,a,rfl⟩:=mem_iff_getElem.1 b;rw [dY] at a;rw [getElem_take,h j ah ah];rfl
theorem Spec.Dt {P:Program} {f:FuncId} {g ds a:List D} {d:D} (h:Abs.Spec P f g ds a d) (k:Nat) {c:List D} {y:D} (Q:a.getD k .undef≠.undef) (L:(Du k (tL [(0,d)] (wK 0 a))).t 0=y)
  (B:∀ r,(Du k (tL [(0,d)] (wK 0 a))).o r=c.getD r .undef) (R:∀ i,i < g.length->a.getD i .undef=.undef->c.getD i .undef=.undef):Abs.Spec P f g ds c y:=by
 have O:c.getD k .undef=.undef:=by rw [<- B k];simp [Du]
 refine ⟨h.1,?_⟩;intro w C x n E vs z q K u hr m;refine (h.2 w C x n E vs z q K u hr m).mono ?_;rintro e w' ⟨v,rfl,o⟩;refine ⟨v,rfl,o.os,o.tape,o.output,o.size,o.old,o.part,?_⟩;obtain ⟨lev,own,S,F,G,H,I,J⟩:=o.rep;have N:Inv w C x S w' lev own S (tL [(0,d)] (wK 0 a)) (fun j=>if j=0 then v else Go.undef):=by
  refine ⟨⟨o.os,z⟩,o.tape,o.output,o.size,o.old,o.part,F,G,fun _ _ _=>rfl,?_,?_⟩
  ·intro s;show aK _ _ (Abs.look [(0,d)] s);by_cases g:s=0
   ·subst g;simpa [Abs.look] using H
   ·simp only [Abs.look,ak g];exact .undef _
  ·intro r;show lQ _ _ _ _ _ _ r (Abs.look (wK 0 a) r);rw [rW];simpa using I r
 have b:=(Inv.frz N k).resolve_right (fun p=>Q (by
  have p:Abs.look (wK 0 a) k=.undef:=p;rw [rW] at p
  simpa using p))
 refine ⟨_,own,jm S k none,b.priv,b.jZ,?_,?_,?_⟩
 ·have:=b.oC 0;rw [L] at this;simpa using this
 ·intro r;have:=b.objs r;rwa [B] at this
 ·intro i A l;have:i≠k:=fun e=>l (by rw [e];exact O);simp only [jm,this,if_false];exact J i A fun M=>l (R i A M)
structure Tf {T U:Type} (f:T->U):Prop where
theorem aM.ovt {a:(Exit->Env->Prop)->Env->Prop} {Q:Exit->Env->Prop} {e:Env} {T:Type} {os:T->EL} (g:Tf os) (h f:List Nat) (ts:T->EL) (I:T->Prop) (m:T->Nat) (s0:T) {c b:EL}
  (i:I s0) (d:Me e (ts s0++c) (os s0++b))
  (hr:∀ s,I s->a (kV (fun s=>ts s++c) (fun s=>os s++b) I m s Q) (tL (ts s++c) (os s++b)))
  (k:vZ e.t h=c:=by simp only [go_sem,seval,seval]<;>exact rfl) (j:v7 e.o f=b:=by simp only [go_sem,seval,seval]<;>exact rfl):aM a Q e:=aM.vh h f ts os I m s0 i d hr k j
theorem dH.air {P:Program} {n:Nat} {e:Env} {K:Env->Prop} {ty T:TypeId} {pos:String} {a:Array Edge} {k:Option (Nat × Bool)} {x:Operand} {z c:Nat} {j:Bool} {r lo l:Nat} {R:List (List D)} {zc:List D} (g:Tf fun _:Nat=>R) (q:dV P T=.slice z c j) (t:rd e x=.eC r z lo l) (s:e.o r=.own z R) (f:eE P T=some zc) (h:zc.length=z) (i:∀ d∈zc,bG d)
  (b:lo+l<=R.length) (m:l≠0) (p:K (cV e r (.own z (splice R lo (replicate l zc))))):dH P n ⟨none,.call ⟨.builtin .clear,#[x],#[T]⟩,ty,pos,a,k⟩ e K:=dH.RA q t s f h i b m p
theorem aiX {A:Type} {W E:Prop} {C:A->Prop} (t o:List Nat) (k:Nat) (c:A->List D) (e:E) (n:∀ x,C x) (h:Tg t o k->E->(∀ x,C x)->(∀ (l:List A) (i:Nat) (h:i < l.length),(l.map c).getD i []=c l[i])->W:=by
 intro w s n f;refine s0 ?_;refine aM.wt w cs.length (fun i _=>∀ j (a:j < cs.length),j < i->p cs[j]=false) (by intros;omega) ?_ ?_
 ·intro i _ q g v b;have f:=f cs i q;have hli:(i:Int) < (cs.length:Int):=ah
  have r:=n cs[i];try simp only [s] at f r
  refine sc (a2 g f) r ?_;cases d:p cs[i]
  ·refine sm (a2 d v) ?_;refine av.u q ?_ ?_
   ·intro j a hji;rcases bZ j i with h | h
    ·exact b j a h
    ·obtain rfl:j=i:=ah
     exact d
   ·exact gU
  ·simp only [go_sem,seval,d,um q b d]
 ·intro _ m b
  simp only [go_sem,seval,m,uo fun j a=>b j a a]):W:=h ⟨⟩ e n fun _ _ h=>aV _ h
theorem aiz {A:Type} (c:A->List D) (zc:List D) (W Z:List A) (N i:Nat) (a:W.take i=Z) (hN:W.length=N) (b:Z.length=i) (hl:i<=N):∃ F,splice (W.map c) i (replicate (N-i) zc)=F/\F.length=N/\Z.map c++replicate (N-Z.length) zc=F:=by
 refine ⟨_,?_,?_,rfl⟩
 ·rw [splice,drop_of_length_le (by rw [qn,length_replicate];omega),b,<- a,map_take,append_nil]
 ·rw [cm,qn,length_replicate];omega
theorem aiB {A:Type} {W E M O P:Prop} {C:A->Prop} (c:A->List D) (z:Nat) (zc:List D) (e:E) (G:∀ x,C x) (c1:M) (K:O) (L:P) (h:E->(∀ x,C x)->M->O->P->Tf (fun s:Nat × Nat × List A=>([(0,.own z (s.2.2.map c))]:EL))->(∀ W:List A,Tf fun _:Nat=>W.map c) ->
  (∀ (l:List A) (i:Nat) (u:A),l[i]?=some u->(l.map c).getD i []=c u)->(∀ (W:List A) (i:Nat) (y:A),(W.map c).set i (c y)=(W.set i y).map c) ->
  (∀ (W Z:List A) (N i:Nat),W.take i=Z->W.length=N->Z.length=i->i<=N->∃ F,splice (W.map c) i (replicate (N-i) zc)=F/\F.length=N/\Z.map c++replicate (N-Z.length) zc=F)->W:=by
 intro ce G c1 K L tf tr X mS mE;obtain ⟨N,b⟩:=aQ (l.length);rw [<- b] at hN hB;cases ha:l.any p
 ·obtain ⟨rfl,rfl⟩:=hA ha;rw [uo (ah4 ha)] at c1;exact Xh aJ c1
 obtain ⟨k,hk,Q,R⟩:=aaO ha;obtain ⟨Z,S⟩:=aQ (l.filter fun x=>!p x);have hB:=hB ha;rw [<- S] at hB;obtain ⟨rfl,rfl⟩:=hB;rw [um hk Q R] at c1;rw [<- b] at hk;have wk:IntKind.wrap .i64 ((k:Int)+1)=((k+1:Nat):Int):=gN;have d0:((k:Int) == -1)=false:=by simp<;>omega
 refine sl aJ c1 ?_;refine sm (a2 d0 wk) ?_;refine aM.ovt tf [0,1] [] (fun s=>[(5,.I ((s.1:Nat):Int)),(6,.I ((s.2.1:Nat):Int))]) (fun s=>s.1 < s.2.1/\s.2.1<=N/\s.2.2.length=N/\s.2.2.take s.1=(l.take s.2.1).filter (fun x=>!p x)/\s.2.2.drop s.2.1=l.drop s.2.1) (fun s=>N-s.2.1) (k,k+1,l) ?_ ?_ ?_
 ·refine ⟨Nat.lt_succ_self _,hk,b.symm,?_,rfl⟩;show l.take k=(l.take (k+1)).filter _;rw [xA _ ah,afP ah Q,R];simp
 ·exact gU
 rintro ⟨i,j,W⟩ ⟨i1,i2,i3,i4,i5⟩;dsimp only at i1 i2 i3 i4 i5;rcases bZ j N with hj | hj
 ·have t:decide ((j:Int) < (N:Int))=true:=iC;have Y:IntKind.wrap .i64 ((j:Int)+1)=((j+1:Nat):Int):=gN;have wi:IntKind.wrap .i64 ((i:Int)+1)=((i+1:Nat):Int):=gN;have n:j < l.length:=ah
  have a:=xA (fun x=>!p x) n;obtain ⟨y,q⟩:=aQ (l[j]);rw [<- q] at a;have hy:l[j]?=some y:=by rw [q,fO n]
  have w:W[j]?=some y:=by
   have:=congrArg (fun z=>z[0]?) i5;simpa only [getElem?_drop,Nat.add_zero,hy] using this
  obtain ⟨v,hv⟩:=iM (l:=W) (i:=i) ah;have J:=X W j y w;have V:=X W i v hv;have g:=G y;have m:W.drop (j+1)=l.drop (j+1):=by
   have:=congrArg (drop 1) i5;simpa only [drop_drop] using this
  have o:=mS W i y;try simp only [ce] at J V g o
  cases T:p y
  ·rw [T] at g a;refine sc (a5 i3 t J V (a3 Y wi o)) g ?_;refine dP ?_;refine ⟨(i+1,j+1,W.set i y),⟨by show i+1 < j+1;omega,by show j+1<=N;omega,by show (W.set i y).length=N;rw [length_set];exact i3,?_,?_⟩,?_,by show N-(j+1) < N-j;omega⟩
   ·show (W.set i y).take (i+1)=(l.take (j+1)).filter fun x=>!p x;have ht:(W.set i y).take (i+1)=W.take i++[y]:=by
     rw [take_add_one,take_set_of_le (dU _),getElem?_set_self ah];rfl
    rw [ht,i4,a];simp
   ·show (W.set i y).drop (j+1)=l.drop (j+1);rw [drop_set_of_lt ah];exact m
   ·exact gU
  ·rw [T] at g a;refine sc (a4 i3 t J Y) g ?_;refine ⟨(i,j+1,W),⟨by show i < j+1;omega,by show j+1<=N;omega,i3,?_,m⟩,?_,by show N-(j+1) < N-j;omega⟩
   ·show W.take i=(l.take (j+1)).filter fun x=>!p x;rw [i4,a];simp
   ·exact gU
 ·have t:decide ((j:Int) < (N:Int))=false:=jL;have d:W.take i=Z:=by rw [i4,S,take_of_length_le ah]
  have f:Z.length=i:=by rw [<- d,dY];omega
  have wsl:((N:Int)-((i:Nat):Int))=((N-i:Nat):Int):=ah
  refine sm (a2 i3 t) ?_;refine dP ?_;with_reducible refine dH.air (tr W) (r:=0) (lo:=i) (l:=N-i) K ?_ ?_ L ?_ ?_ ?_ ?_ ?_
  ·rfl
  ·rfl
  ·rfl
  ·simp [go_sem]
  ·rw [qn];omega
  ·omega
  ·obtain ⟨F,H,B,hF⟩:=mE W Z N i d i3 f ah;rw [H,hF];refine sm (a2 B f) ?_
   (with_reducible and_intros)<;>first|exact .dq|omega|skip):W:=h e G c1 K L ⟨⟩ (fun _=>⟨⟩) (fun l i u U=>(iy (c:=c) U U).1) (fun W i y=>by rw [map_set]) (fun W Z N i=>aiz c zc W Z N i)
theorem aiA {A:Type} {c:A->List D} {z:Nat} {zc:List D} {p:A->Bool} {F:FuncId} {g:D} {l:List A}
  (h:∀ f d,(l.any p=false->f=[.own z (l.map c)]/\d=.ref 0)->(l.any p=true->f=[.own z ((l.filter fun x=>!p x).map c++replicate (l.length-(l.filter fun x=>!p x).length) zc)]/\d=.eC 0 z 0 (l.filter fun x=>!p x).length) ->
   Sq F [.own z (l.map c)] [.ref 0,g] f d):Sq F [.own z (l.map c)] [.ref 0,g] [.undef] (.sl z ((l.filter fun x=>!p x).map c)):=by
 have a:∀ i:Nat,([.undef]:List D).getD i .undef=.undef:=fun i=>by rcases i with _ | i<;>rfl
 cases b:l.any p
 ·have e:(l.filter fun x=>!p x)=l:=by
   rw [filter_eq_self];intro x j;rw [any_eq_false] at b;have:=b x j;simp only [Bool.not_eq_true] at this;rw [this];rfl
  rw [e];exact Spec.Dt (h _ _ (fun _=>⟨rfl,rfl⟩) (fun h=>by rw [b] at h;cases h)) 0 (by simp) rfl (fun r=>by rcases r with _ | r<;>rfl) fun i _ _=>a i
 ·have hl:=length_filter_le (fun x=>!p x) l;refine Spec.Dt (h _ _ (fun h=>by rw [b] at h;cases h) (fun _=>⟨rfl,rfl⟩)) 0 (by simp) ?_ (fun r=>by rcases r with _ | r<;>rfl) fun i _ _=>a i;show mM z 0 _ (.own z _)=_;rw [mM,aq ⟨rfl,by simp⟩,drop_zero,take_left' (by simp)]
theorem R8 (p:Int->Bool) (g:FuncId) (w:Int) (a:∀ x:Int,Sq g [] [.I x,.bq [.I w]] [] (.bool (p x))) (cs:List Int) (hc:cs.length < 2 ^ 60):Sq 387 [] [.sl 1 (cs.map (fun x:Int=>[D.I x])),.fn g [.bq [.I w]]] [] (.I (BA p cs)):=by
 refine bf 19 2 [.tmp 4] mixed func387 ?_;exact aiX [0,1,7] [] 8 (fun x:Int=>[D.I x]) trivial a
theorem RN (p:Int->Bool) (g:FuncId) (w:Int) (a:∀ x:Int,Sq g [] [.I x,.bq [.I w]] [] (.bool (p x))) (l:List Int) (hN:l.length < 2 ^ 38):Sq 368 [.own 1 (l.map (fun x:Int=>[D.I x]))] [.ref 0,.fn g [.bq [.I w]]] [.undef] (.sl 1 ((l.filter fun x=>!p x).map (fun x:Int=>[D.I x]))):=by
 refine aiA (zc:=[.I 0]) fun hs d hA hB=>?_;have c1:=R8 p g w a l ah;refine bf 42 2 [.tmp 4] mixed func368 ?_;exact aiB (fun x:Int=>[D.I x]) 1 [.I 0] aJ a c1 aqc aqq
theorem R9 (p:fG->Bool) (g:FuncId) (w:Int) (a:∀ x:fG,Sq g [] [.agg x.cells,.bq [.I w]] [] (.bool (p x))) (cs:List fG) (hc:cs.length < 2 ^ 60):Sq 373 [] [.sl 3 (cs.map fG.cells),.fn g [.bq [.I w]]] [] (.I (BA p cs)):=by
 refine bf 19 2 [.tmp 4] mixed func373 ?_;exact aiX [0,1,7] [] 8 fG.cells fG.cells.eq_1 a
theorem RO (p:fG->Bool) (g:FuncId) (w:Int) (a:∀ x:fG,Sq g [] [.agg x.cells,.bq [.I w]] [] (.bool (p x))) (l:List fG) (hN:l.length < 2 ^ 38):Sq 340 [.own 3 (l.map fG.cells)] [.ref 0,.fn g [.bq [.I w]]] [.undef] (.sl 3 ((l.filter fun x=>!p x).map fG.cells)):=by
 refine aiA (zc:=[.I 0,.I 0,.I 0]) fun hs d hA hB=>?_;have c1:=R9 p g w a l ah;refine bf 42 2 [.tmp 4] mixed func340 ?_;exact aiB fG.cells 3 [.I 0,.I 0,.I 0] fG.cells.eq_1 a c1 Ej adI
theorem R7 (p:bB->Bool) (g:FuncId) (w:Int) (a:∀ x:bB,Sq g [] [.agg x.cells,.bq [.I w]] [] (.bool (p x))) (cs:List bB) (hc:cs.length < 2 ^ 60):Sq 374 [] [.sl 5 (cs.map bB.cells),.fn g [.bq [.I w]]] [] (.I (BA p cs)):=by
 refine bf 19 2 [.tmp 4] mixed func374 ?_;exact aiX [0,1,7] [] 8 bB.cells bB.cells.eq_1 a
theorem RM (p:bB->Bool) (g:FuncId) (w:Int) (a:∀ x:bB,Sq g [] [.agg x.cells,.bq [.I w]] [] (.bool (p x))) (l:List bB) (hN:l.length < 2 ^ 38):Sq 342 [.own 5 (l.map bB.cells)] [.ref 0,.fn g [.bq [.I w]]] [.undef] (.sl 5 ((l.filter fun x=>!p x).map bB.cells)):=by
 refine aiA (zc:=[.I 0,.I 0,.I 0,.I 0,.I 0]) fun hs d hA hB=>?_;have c1:=R7 p g w a l ah;refine bf 42 2 [.tmp 4] mixed func342 ?_;exact aiB bB.cells 5 [.I 0,.I 0,.I 0,.I 0,.I 0] bB.cells.eq_1 a c1 akj aqn
theorem BK (s:af) (w:Int):dL s w=(ld s.aj [1]).filter fun x=>!(x==w):=by rw [dL,m9];simp
theorem Hx {s:af} (h:s.aj.okB=true) (w:Int):yz (dL s w)=true:=by
 obtain ⟨⟨d,e⟩,-,-⟩:=cr.1 h;refine (jA (lt:=fun a b:Int=>decide (a < b)) (fun {a b c} d e=>by simp only [bL] at d e |-;omega)).2 ⟨fun x f=>?_,?_⟩
 ·rw [BK] at f;obtain ⟨m,g,-,rfl⟩:=rX (mem_filter.1 f).1;have:=nP (d m g);simp [within];omega
 ·rw [BK,ld,m9];refine Pairwise.filter _ ?_;rw [pairwise_map];refine (e.filter _).imp fun h=>by simpa using h
theorem VK {l:bE} {c:Int} {ws:List Int} (a:l.okB=true) (b:within c 0 2=true) (d:yz ws=true):iz l c ws=0\/iz l c ws=1:=by
 rw [iz,named_eq,a,b,d];simp only [if_true,Bool.and_self];split
 ·exact .inl rfl
 ·exact .inr rfl
theorem YM {r:az} {ws:List Int} (a:r.okB=true) (b:yz ws=true):j0 r ws=0\/j0 r ws=1:=by
 rw [j0,named_eq,a,b,show within 0 0 2=true from rfl];simp only [if_true,Bool.and_self];split
 ·exact .inl rfl
 ·exact .inr rfl
theorem Qp (w x:Int):Sq 369 [] [.I x,.bq [.I w]] [] (.bool (x==w)):=by
 refine bf 7 2 [.tmp 3] mixed func369 ?_;exact gU
theorem Hh (s:af) (w:Int) (a:s.small):Sq 334 [] [.agg s.cells,.I w] [] (.sl 1 (ints (dL s w))):=by
 have c1:=O4 s.aj [1] a.aj (by simp);have c:=vK s.aj [1];have hml:=a.aj.1;rw [BK];obtain ⟨T,b⟩:=aQ (ld s.aj [1]);rw [<- b] at c1 c |-;have c2:=RN (fun x=>x==w) 369 w (Qp w) T ah;simp only [az.cells,ints,map_cons,map_nil] at c1;simp only [af.cells,ints];refine bf 11 2 [.tmp 4] mixed func334 ?_;refine s0 ?_;refine aD.iT [128] [] false (by simp) ?_;refine s0 ?_;refine cY.gB c1 ?_;refine s0 ?_;refine aD.iT [64] [144] false (by simp) ?_;refine s0 ?_;refine cY.gB c2 ?_;exact gU
theorem OS (s:af) (w c:Int) (X:s.small) (O:s.aj.okB=true) (P:mN s.ps=true):Sq 332 [] [.agg s.cells,.I w,.I c] [] (.bT [.I (qi s w c),.I (if bQ (AL s w c) then 0 else 1)]):=by
 have H:∀ n,Sq 252 [] [.agg s.aj.cells,.I n] [] (.bT [.agg (nI s.aj n).cells,.bool (mT s.aj n)]):=fun n=>kU s.aj n X.aj.small;have hll:(yp s w c).length<=s.ps.length:=gx _ _ _;have hpl:=X.ps;have v:=ZI O P;have z:∀ n∈yp s w c,0<=n:=xX fun p T=>(v p T).1;have r:=Je z;have K:=gz (yp s w c) ah;have m:(∀ n∈yp s w c,bQ n=true)->n9 (yp s w c)=qi s w c/\nW (yp s w c)=if bQ (AL s w c) then 0 else 1:=fun h=>jG (Ez h);have q:∀ n∈yp s w c,bQ n=false->bQ (AL s w c)=false:=fun n t k=>by
  have a1:=r n t;have a2:=z n t;rw [Bool.eq_false_iff] at k |-;intro h;rw [bI] at h;refine k (bI.2 ⟨by omega,?_⟩);have:AL s w c=aG (yp s w c):=rfl;omega
 have o:=fun n=>Wi O n;have Y:=fun p T=>((jB.1 P).1 p T).2;simp only [af.cells];simp only [az.cells] at H;clear O P z r v;refine bf 61 3 [.tmp 6,.tmp 7] mixed func332 ?_;simp only [go_sem,seval,eV];refine aM.wu s.ps.length [1,2,3,16,17] [64] (fun i=>[(6,.I 0),(7,.I 0),(18,.I i),(8,.ref 896)]) (fun i=>[(896,.own 1 (ints (pick (AK s w c) (uM s) (s.ps.take i))))]) (fun i=>∀ n∈pick (AK s w c) (uM s) (s.ps.take i),bQ n=true) (by simp [pick]) ?_ ?_ ?_
 ·simp only [go_sem,seval]<;>simp [pick,ints]
 ·intro i _ k y A l;have F:=uG s.ps k;have d:=Gu (AK s w c) (uM s) k;have f:=oW (AK s w c) (uM s) k;have D:=gx (AK s w c) (uM s) (s.ps.take i);have hlt:(s.ps.take i).length=i:=by simp;omega
  have hli:(i:Int) < (s.ps.length:Int):=ah
  have U:=Y _ (ck k);have g:AK s w c s.ps[i]=true->uM s s.ps[i]∈yp s w c:=fun h=>mem_flatMap.2 ⟨s.ps[i],ck k,by simp [h]⟩;obtain ⟨L,V⟩:=aQ (pick (AK s w c) (uM s) (s.ps.take i));obtain ⟨x,Z⟩:=aQ (s.ps[i]);rw [<- Z] at F d f U g;rw [<- V] at d f D l |-;have j:=H x.fq;have R:=o x.fq;simp only [AK,uM] at d f g;obtain ⟨a,Q⟩:=aQ (nI s.aj x.fq);rw [<- Q] at j R;simp only [<- Q] at d f g;have N:=lg x.units a.c ⟨by omega,by omega⟩ ⟨by omega,by omega⟩;have J:=lP (x.units*a.c);have C:=q (x.units*a.c);have hLl:(ints L).length<=i:=by rw [aW];omega
  obtain ⟨M,hM⟩:=aQ (x.units*a.c);rw [<- hM] at N J d f g C;simp only [ay.cells] at j;simp only [wd] at N J;clear H K o Y m q Q Z V;cases B:x.who==w
  ·simp only [B,gV,nJ,if_false,append_nil] at d f;simp only [go_sem,seval,eV,y,F];refine dP ?_;refine aD.bp j ?_;simp only [go_sem,seval,bne,B,A];(with_reducible and_intros)<;>first|exact .dq|omega|skip
   refine av.u k (by rw [d];exact l) ?_;simp only [go_sem,seval,f]
  cases E:a.b==c
  ·simp only [B,E,Bool.and_false,nJ,if_false,append_nil] at d f;simp only [go_sem,seval,eV,y,F];refine dP ?_;refine aD.bp j ?_;simp only [go_sem,seval,bne,B,E,A];(with_reducible and_intros)<;>first|exact .dq|omega|skip
   refine av.u k (by rw [d];exact l) ?_;simp only [go_sem,seval,f]
  simp only [B,E,Bool.and_self,if_true] at d f;have g:=g (by rw [B,E];rfl);simp only [go_sem,seval,eV,y,F];refine dP ?_;refine aD.bp j ?_;simp only [go_sem,seval,bne,B,E];refine dP ?_;refine sc aJ N ?_;refine aD.bp J ?_;cases G:bQ M
  ·have W:=C g G;have e:qi s w c=0:=by rw [qi,W];rfl
   rw [e,W];simp only [go_sem,seval,bne,G];all_goals simp
  simp only [go_sem,seval,bne,G,A,if_true];(with_reducible and_intros)<;>first|exact .dq|omega|skip
  refine av.u k (by
   rw [d];intro n t;rcases mem_append.1 t with t | t
   ·exact l n t
   ·obtain rfl:=ga.1 t
    exact G) ?_
  simp only [go_sem,seval,f]
 ·intro _ S l;rw [jr] at l;have e:pick (AK s w c) (uM s) s.ps=yp s w c:=rfl;rw [e] at l;obtain ⟨e1,e2⟩:=m l;rw [e1,e2] at K;simp only [go_sem,seval,eV,S,jr,e];(with_reducible and_intros)<;>first|exact .dq|omega|skip
  refine aD.iT [] [] true (by simp) ?_;simp only [go_sem,seval];refine cY.gB K ?_;simp only [go_sem,seval];all_goals (with_reducible and_intros)<;>first|exact .dq|omega|skip
theorem aaZ (s:af) (w c b:Int) (o:s.small) (hm:s.aj.ms.length < 2 ^ 27):Sq 290 [] [.agg s.cells,.I w,.I c,.I b] [.own 1 (ints (iB s w c b))] (.bT [.I (gj s w c b),.ref 0,.I (qI s w c b)]):=by
 have c1:=cw s.aj w o.aj.small;have c2:=mH s o;have c4:=bY [b] (by simp);rw [tQ] at c4;have r:=fun a=>oT s.bu a (by have:=o.bu;omega);have R:=Hh s w o;have Z:=Hg s w;have S:=vX s.bu c (dL s w) o.bu ah;have T:=xF s.aj (dL s w) o.aj ah;have g:=OS s w c o;simp only [aP.cells,bE.cells] at r;simp only [bE.cells] at S;simp only [az.cells] at T;obtain ⟨E,f⟩:=aQ (qI s w c b);have z:=f;simp only [qI] at f;simp only [iB,gj,<- z];clear z Z;have aa:bM s.aj w=(fU s.aj w).state:=rfl;obtain ⟨mb,Y⟩:=aQ (fU s.aj w);rw [<- Y] at c1 aa;have M:=@vJ s.aj;have H:=@eW s;simp only [az.cells,au.cells] at c1;simp only [af.cells] at c2 R g |-;simp only [ints,map_cons,map_nil] at c4;refine bf 135 4 [.tmp 8,.tmp 9,.tmp 10] mixed func290 ?_;refine sc aJ c1 ?_;refine sc aJ c2 ?_;cases P:fJ s
 ·rw [P,ak (by simp)] at f;rw [f];simp only [go_sem,seval,bne]<;>simp [ints]
 have hr:=H.1 P;have M:=M hr.aj (w:=w);have g:=g hr.aj hr.ps;rw [P,aq rfl] at f;cases Q:gF s.aj w
 ·have h0:bM s.aj w=0:=by
   by_cases h:bM s.aj w=0
   ·exact h
   ·rw [M.1 h] at Q;cases Q
  rw [aq h0] at f;rw [f];simp only [go_sem,seval,bne]<;>simp [ints]
 rw [ak (M.2 Q)] at f;by_cases q1:c < 0
 ·have d:decide (c < 0)=true:=dI q1;have e:within c 0 2=false:=by simp [within];omega
  rw [e,gV,ak (by simp)] at f;rw [f];simp only [go_sem,seval,bne,d]<;>simp [ints]
 have d1:decide (c < 0)=false:=eJ q1;by_cases q2:3<=c
 ·have d:decide (3<=c)=true:=dI q2;have e:within c 0 2=false:=by simp [within];omega
  rw [e,gV,ak (by simp)] at f;rw [f];simp only [go_sem,seval,bne,d1,d]<;>simp [ints]
 have d2:decide (3<=c)=false:=eJ q2;have B:within c 0 2=true:=by simp [within];omega
 simp only [go_sem,seval,bne,d1,d2];refine sl aJ c4 ?_;cases N:bQ b
 ·rw [N,Bool.and_false,ak (by simp)] at f;rw [f];simp only [go_sem,seval]<;>simp [ints]
 rw [B,N,Bool.and_self,aq rfl] at f;have J:=VK (l:=s.bu) hr.bu B (Hx hr.aj w);have D:=YM hr.aj (Hx hr.aj w);have i:=uz hr.bu ⟨2,w,c⟩;have L:=TN s w c;have t:=r ⟨2,w,c⟩;have u:=r ⟨3,w,c⟩;have x:=r ⟨4,0,c⟩;have W:JG s w c b=aG [b,min (jo ⟨2,w,c⟩ s.bu.bs) 0]:=rfl;have y:wI s w c b=aG [max (jo ⟨2,w,c⟩ s.bu.bs) 0,qi s w c,max (JG s w c b) 0]:=rfl;obtain ⟨O,A⟩:=aQ (jo ⟨2,w,c⟩ s.bu.bs);obtain ⟨ow,G⟩:=aQ (jo ⟨3,w,c⟩ s.bu.bs);obtain ⟨sk,K⟩:=aQ (jo ⟨4,0,c⟩ s.bu.bs);obtain ⟨v,hv⟩:=aQ (qi s w c);obtain ⟨vb,q⟩:=aQ (bQ (AL s w c));obtain ⟨sE,p⟩:=aQ (iz s.bu c (dL s w));obtain ⟨nE,m⟩:=aQ (j0 s.aj (dL s w));simp only [UD,<- q,<- p,<- m] at f;rw [<- p] at S J;rw [<- m] at T D;rw [<- hv] at g y L;rw [<- q] at g;rw [<- A] at t W y i;rw [<- G] at u |-;rw [<- K] at x |-;obtain ⟨X,k⟩:=aQ (JG s w c b);obtain ⟨F,j⟩:=aQ (wI s w c b);rw [<- k] at W y;rw [<- j] at y;simp only [<- k,<- j] at f |-;have hcr:=bI.1 i;have hg:=bI.1 N;have U:=gz [b,min O 0] (by simp);have r8:right [b,min O 0]=true:=Ez fun n C=>by
  simp only [mem_cons,not_mem_nil,or_false] at C;rcases C with rfl | rfl
  ·exact N
  ·rw [bI];omega
 rw [(jG r8).1,(jG r8).2,<- W] at U;have V:=gz [max O 0,v,max X 0] (by simp);have r9:bQ X=true->right [max O 0,v,max X 0]=true:=fun hx=>Ez fun n C=>by
  simp only [mem_cons,not_mem_nil,or_false] at C;have:=bI.1 hx;rcases C with rfl | rfl | rfl
  ·rw [bI];omega
  ·exact L
  ·rw [bI];omega
 simp only [ints,map_cons,map_nil] at U V;clear r G K hv q p m A k j i H M c1 c2 c4;refine sc aJ t ?_;refine sc aJ g ?_;cases k1:vb
 ·rw [k1,gV,gV,ak (by simp)] at f;rw [f];simp only [go_sem,seval,bne]<;>simp [ints]
 simp only [go_sem,seval,bne,if_true];refine sl aJ U ?_;cases k2:bQ X
 ·rw [k1,k2,Bool.and_false,gV,ak (by simp)] at f;rw [f];simp only [go_sem,seval,bne,k2]<;>simp [ints]
 have hXr:=bI.1 k2;rw [(jG (r9 k2)).1,(jG (r9 k2)).2,<- y] at V;rw [k1,k2,Bool.and_self,fc] at f;simp only [go_sem,seval,bne,k2,if_true];refine sl aJ V ?_;cases k3:bQ F
 ·rw [k3,gV,ak (by simp)] at f;rw [f];simp only [go_sem,seval,bne,k3]<;>simp [ints]
 rw [k3,fc] at f;simp only [go_sem,seval,bne,k3,if_true];refine sc aJ R ?_;refine sc aJ S ?_;rcases J with k4 | k4
 case inr =>
  rw [k4,show ((1:Int)==0)=false from rfl,gV,ak (by simp)] at f;rw [f,k4];simp only [go_sem,seval,bne]<;>simp [ints]
 rw [k4,show ((0:Int)==0)=true from rfl,fc] at f;rw [k4];simp only [go_sem,seval,bne];refine sc aJ R ?_;refine sc aJ T ?_;rcases D with k5 | k5
 case inr =>
  rw [k5,show ((1:Int)==0)=false from rfl,ak (by simp)] at f;rw [f,k5];simp only [go_sem,seval,bne]<;>simp [ints]
 rw [k5,show ((0:Int)==0)=true from rfl,aq rfl] at f;have hw:IntKind.wrap .i64 (0-X) = -X:=gN;rw [k5,f,aq rfl,aq rfl];simp only [go_sem,seval,bne];refine sc aJ u ?_;refine sc aJ x ?_;refine sm hw ?_;all_goals simp [ints]
theorem XQ (s:af) (w c a:Int) (d:s.small) (b:s.aj.ms.length < 2 ^ 27):Sq 290 [] [.agg s.cells,.I w,.I c,.I a] [] (.bT [.I (gj s w c a),.sl 1 (ints (iB s w c a)),.I (qI s w c a)]):=by
 refine Spec.frozen (aaZ s w c a d b) [0] rfl ?_;intro r;rcases r with _ | r<;>rfl
theorem Va (k w:Int) (f:dQ):Sq 337 [] [.I k,.I w,.bq f.cells] [] (.agg [.I k,.I w,.I f.cur]):=by
 simp only [dQ.cells];refine bf 11 3 [.cell 5 75] mixed func337 ?_;simp only [go_sem,seval];all_goals (with_reducible and_intros)<;>first|exact .dq|omega|skip
theorem Yz (s:af) (w e:Int) (f:dQ) (a b:Int) (S:s.small) (hr:s.right) (hm:s.aj.ms.length < 2 ^ 27) (hv:bQ (AL s w f.cur)=true) (hg:bQ e=true) (hl:bQ f.iU=true)
  (ha:jo ⟨2,w,f.cur⟩ s.bu.bs+qi s w f.cur+e+f.iU=a) (hb:jo ⟨3,w,f.cur⟩ s.bu.bs=b) (h0:0<=f.c0/\f.c0<=a/\a<=4611686018427387904) (h1:0<=f.c1/\f.c1<=b/\b<=4611686018427387904) :
  Sq 292 [] [.agg s.cells,.I w,.I e,.agg f.cells] [] (.bT [.sl 4 ((sJ s w f.cur e f a b).1.map aU.cells),.I (sJ s w f.cur e f a b).2.1,.I (sJ s w f.cur e f a b).2.2]):=by
 obtain ⟨c,hc⟩:=aQ (f.cur);rw [<- hc] at hv ha hb |-;have j:=fun k w=>Va k w f;simp only [<- hc] at j;have l:=fun x y n=>vl x y n;have g:=OS s w c S hr.aj hr.ps;rw [hv,aq rfl] at g;have c5:=Hh s w S;have ac:=Hg s w;have Y:=Mz s.bu c f.c3 (dL s w) S.bu ah;have Z:=Ii s.aj c f.c4 (dL s w) S.aj ah;have cO:=fun a=>oT s.bu a (by have:=S.bu;omega);have m:=cO ⟨2,w,c⟩;have o:=cO ⟨3,w,c⟩;have i:=uz hr.bu ⟨2,w,c⟩;have T:=TN s w c;obtain ⟨x,ad⟩:=aQ (a-f.c0);obtain ⟨y,ae⟩:=aQ (b-f.c1);have F:bQ (-f.c0)=true:=by rw [bI];omega
 have H:bQ x=true:=by rw [bI];omega
 have Q:bQ y=true:=by rw [bI];omega
 have O:=gz [jo ⟨2,w,c⟩ s.bu.bs,qi s w c,e,f.iU,-f.c0] (by simp);have r8:right [jo ⟨2,w,c⟩ s.bu.bs,qi s w c,e,f.iU,-f.c0]=true:=by
  simp only [right,all_cons,all_nil,i,T,hg,hl,F,Bool.and_self]
 have e8:aG [jo ⟨2,w,c⟩ s.bu.bs,qi s w c,e,f.iU,-f.c0]=x:=by simp only [aG];omega
 rw [(jG r8).1,(jG r8).2,e8,H,aq rfl,aq rfl] at O;have c9:=gz [x,y] (by simp);have r9:right [x,y]=true:=by simp only [right,all_cons,all_nil,H,Q,Bool.and_self]
 have e9:aG [x,y]=x+y:=by simp [aG]
 rw [(jG r9).1,(jG r9).2,e9] at c9;have w0:IntKind.wrap .i64 (0-f.c0) = -f.c0:=gN;have w1:IntKind.wrap .i64 (b-f.c1)=y:=gN;have ab:=YD s.bu c f.c3 (dL s w);have aa:=Rm s.aj c f.c4 (dL s w);have cJ:=Kq (XT s w c e f (a-f.c0) (b-f.c1)) (by simp [XT,aiq,cg];omega);obtain ⟨R,h⟩:=aQ (sJ s w c e f a b);rw [<- h];simp only [sJ] at h;obtain ⟨G,D⟩:=aQ (XT s w c e f (a-f.c0) (b-f.c1));rw [<- D] at cJ h;simp only [XT,aiq] at D;rw [<- ad,<- ae] at D h;rw [hb] at o;obtain ⟨ca,P⟩:=aQ (jo ⟨2,w,c⟩ s.bu.bs);rw [<- P] at m O;obtain ⟨v,W⟩:=aQ (qi s w c);rw [<- W] at g O D;obtain ⟨e1,K⟩:=aQ (Sv s.bu c f.c3 (dL s w));obtain ⟨e2,L⟩:=aQ (Ch s.aj c f.c4 (dL s w));obtain ⟨V,hV⟩:=aQ (On s.bu c f.c3 (dL s w));obtain ⟨U,hU⟩:=aQ (yA s.aj c f.c4 (dL s w));rw [<- hV] at Y D ab;rw [<- hU] at Z D aa;rw [<- K] at Y;rw [<- L] at Z;rw [<- K,<- L] at h;have m1:=l ⟨1,0,c⟩ ⟨2,w,c⟩ v;have m2:=l ⟨5,0,c⟩ ⟨2,w,c⟩ e;have m3:=l ⟨6,0,c⟩ ⟨2,w,c⟩ f.iU;have m4:=l ⟨2,w,c⟩ ⟨6,0,c⟩ f.c0;have m5:=l ⟨3,w,c⟩ ⟨6,0,c⟩ f.c1;have m6:=l ⟨4,0,c⟩ ⟨6,0,c⟩ f.c2;have m7:=l ⟨2,w,c⟩ ⟨1,0,c⟩ x;have m8:=l ⟨3,w,c⟩ ⟨1,0,c⟩ y;obtain ⟨A1,p⟩:∃ A,A=cg ⟨1,0,c⟩ ⟨2,w,c⟩ v:=⟨_,rfl⟩
 obtain ⟨A2,q⟩:∃ A,A=cg ⟨5,0,c⟩ ⟨2,w,c⟩ e:=⟨_,rfl⟩
 obtain ⟨A3,r⟩:∃ A,A=cg ⟨6,0,c⟩ ⟨2,w,c⟩ f.iU:=⟨_,rfl⟩
 obtain ⟨A4,t⟩:∃ A,A=cg ⟨2,w,c⟩ ⟨6,0,c⟩ f.c0:=⟨_,rfl⟩
 obtain ⟨A5,u⟩:∃ A,A=cg ⟨3,w,c⟩ ⟨6,0,c⟩ f.c1:=⟨_,rfl⟩
 obtain ⟨A6,z⟩:∃ A,A=cg ⟨4,0,c⟩ ⟨6,0,c⟩ f.c2:=⟨_,rfl⟩
 obtain ⟨A7,B⟩:∃ A,A=cg ⟨2,w,c⟩ ⟨1,0,c⟩ x:=⟨_,rfl⟩
 obtain ⟨A8,C⟩:∃ A,A=cg ⟨3,w,c⟩ ⟨1,0,c⟩ y:=⟨_,rfl⟩
 have E:A1.length=2:=by rw [p];rfl
 have z2:A2.length=2:=by rw [q];rfl
 have M:A3.length=2:=by rw [r];rfl
 have N:A4.length=2:=by rw [t];rfl
 have X:A5.length=2:=by rw [u];rfl
 have z6:A6.length=2:=by rw [z];rfl
 have z7:A7.length=2:=by rw [B];rfl
 have z8:A8.length=2:=by rw [C];rfl
 rw [<- p,<- q,<- r,<- t,<- u,<- z,<- B,<- C] at D;rw [<- p] at m1;rw [<- q] at m2;rw [<- r] at m3;rw [<- t] at m4;rw [<- u] at m5;rw [<- z] at m6;rw [<- B] at m7;rw [<- C] at m8;have J:G.map aU.cells=A1.map aU.cells++A2.map aU.cells++A3.map aU.cells++A4.map aU.cells++A5.map aU.cells++A6.map aU.cells++V.map aU.cells++U.map aU.cells++A7.map aU.cells++A8.map aU.cells:=by rw [D];simp only [jq]
 rw [J] at cJ;simp only [aP.cells] at m1 m2 m3 m4 m5 m6 m7 m8 m o;simp only [bE.cells] at Y m o;simp only [az.cells] at Z;simp only [af.cells] at c5 g |-;simp only [dQ.cells] at j |-;rw [<- hc] at j |-;simp only [ints,map_cons,map_nil] at O c9;clear l cO p q r t u z B C hV hU K L D J ac P W hc ha r8 e8 r9 e9 i T F;refine bf 188 4 [.tmp 8,.tmp 9,.tmp 10] mixed func292 ?_;simp only [go_sem,seval];refine aD.iT [128] [] false (by simp) ?_;simp only [go_sem,seval];refine cY.gB (j 1 0) ?_;refine sc aJ (j 2 w) ?_;refine sc aJ (j 3 w) ?_;refine aD.bp (j 6 0) ?_;refine sc aJ g ?_;refine sc aJ m1 ?_;refine sc E (j 5 0) ?_;refine sc aJ m2 ?_;simp only [go_sem,seval,cm,E,z2];refine sc aJ m3 ?_;simp only [go_sem,seval,cm,E,z2,M];refine sc aJ m4 ?_;simp only [go_sem,seval,cm,E,z2,M,N];refine sc aJ m5 ?_;simp only [go_sem,seval,cm,E,z2,M,N,X];refine sc aJ (j 4 0) ?_;refine sc aJ m6 ?_;simp only [go_sem,seval,cm,E,z2,M,N,X,z6];refine sc aJ c5 ?_;refine sc aJ Y ?_;by_cases k1:e1=0
 case neg =>
  have d:(e1==0)=false:=by simpa using k1
  rw [ak k1] at h;rw [h];simp only [go_sem,seval,bne,d]<;>simp
 rw [aq k1] at h;rw [k1];refine sc aJ c5 ?_;refine sc aJ Z ?_;by_cases k2:e2=0
 case neg =>
  have d:(e2==0)=false:=by simpa using k2
  rw [ak k2] at h;rw [h];simp only [go_sem,seval,bne,d]<;>simp
 rw [aq k2] at h;rw [k2];simp only [go_sem,seval,cm,E,z2,M,N,X,z6];refine sc w0 m ?_;refine sl aJ O ?_;refine sc w1 o ?_;refine sl aJ c9 ?_;cases k3:bQ (x+y)
 ·rw [k3,ak (by simp)] at h;rw [h];simp only [go_sem,seval,bne,k3]<;>simp
 rw [k3,aq rfl] at h;simp only [go_sem,seval,bne,k3,if_true];refine sc aJ m7 ?_;simp only [go_sem,seval,cm,E,z2,M,N,X,z6,z7];refine sc aJ m8 ?_;simp only [go_sem,seval,cm,E,z2,M,N,X,z6,z7,z8];refine dP ?_;refine aD.iT [2880] [] false (by simp) ?_;simp only [go_sem,seval];refine cY.gB cJ ?_;rw [h];simp only [go_sem,seval];all_goals (with_reducible and_intros)<;>first|exact .dq|omega|skip
@[go_sem] theorem asd {e:Env} (n z:Nat) (a:Bool) (r o:Nat) (k:IntKind) (lo:Int):TJ e (.arr n z a) (.addr r o) (.int k lo) none=.bW r (o+lo.toNat*z) z (n-lo.toNat) (n-lo.toNat):=by
 simp [TJ,Ja,BY,ZG,VM]
@[go_sem] theorem amU {e:Env} (n z:Nat) (a:Bool) (r o:Nat) (k:IntKind) (lo:Int):ou e (.arr n z a) (.addr r o) (.int k lo) none=(0<=lo/\lo<=n):=by
 simp [ou,slC,Ja,BY,SlK]
theorem atq {g:List Int} (h:g.length=5):∃ a b c d e,g=[a,b,c,d,e]:=by
 match g,h with
 | [a,b,c,d,e],_=>exact ⟨a,b,c,d,e,rfl⟩
theorem J0 (c iU:Int) (a:List Int) (s:a.length < 2 ^ 30):Sq 291 [] [.I c,.I iU,.sl 1 (ints a)] [] (.bT [.agg (sM c iU a).cells,.I (Av c iU a)]):=by
 have c1:=R3 iU a s;obtain ⟨E,b⟩:=aQ (Av c iU a);have h:=b;simp only [sM,<- h];clear h;simp only [Av] at b;refine bf 44 3 [.cell 6 252,.tmp 7] mixed func291 ?_;by_cases k:c < 0
 ·have d:decide (c < 0)=true:=dI k;have e:E=3:=by rw [b];simp [within,k];omega
  rw [e];simp only [go_sem,seval,d,dQ.cells]<;>simp
 have i:decide (c < 0)=false:=eJ k;by_cases o:3<=c
 ·have d:decide (3<=c)=true:=dI o;have e:E=3:=by rw [b];simp [within];omega
  rw [e];simp only [go_sem,seval,i,d,dQ.cells]<;>simp
 have n:decide (3<=c)=false:=eJ o;by_cases m:a.length=5
 case neg =>
  have d:(((a.length:Nat):Int)==5)=false:=by simp;omega
  have e:E=3:=by rw [b];simp [m]
  rw [e];simp only [go_sem,seval,i,n,bne,aW,d,dQ.cells]<;>simp
 have q:(((a.length:Nat):Int)==5)=true:=by simp;omega
 simp only [go_sem,seval,i,n,bne,aW,q];refine sc aJ c1 ?_;by_cases f:mO iU a=0
 case neg =>
  have d:(mO iU a==0)=false:=by simpa using f
  have j:mO iU a=3:=by
   unfold mO at f |-
   repeat' split
   all_goals first | rfl | omega | simp_all
  have e:E=3:=by rw [b];simp [d]
  rw [e,j];simp only [go_sem,seval,bne,dQ.cells]<;>simp
 obtain ⟨⟨g1,g2⟩,-,-⟩:=PT f;have e:E=0:=by
  rw [b,aq];simp only [cU,eH,within,bL];refine ⟨⟨?_,m⟩,?_,f⟩<;>omega
 rw [e,aq f,aq f,f,aq rfl];obtain ⟨p,a2,a3,a4,a5,j⟩:=atq (g:=Dz iU a) (by rw [R2,m]);rw [j];simp only [go_sem,seval,ints,map_cons,map_nil];with_reducible refine dH.Cr (z:=1) (r:=192) (off:=2) (l:=5) (c:=5) (ly:=5) (cs:=[.I c,.I iU,.I 0,.I 0,.I 0,.I 0,.I 0,.I (Ik iU a)]) (rows:=[[.I p],[.I a2],[.I a3],[.I a4],[.I a5]]) aqc ?_ ?_ ?_ ?_ ?_ ?_
 ·rfl
 ·rfl
 ·exact ⟨_,rfl,rfl,by omega,rfl⟩
 ·omega
 ·simp
 refine s0 ?_;all_goals first
  | rfl
  | simp [JZ]
theorem acS (r:az) (b:aI) (h:r.small) (a:b.small):Sq 53 [] [.agg r.cells,.agg b.cells] [] (.bT [.agg (D8 r b).cells,.sl 3 ((sG r b).map aE.cells),.I (wO r b)]):=by
 refine Spec.frozen (afB r b h a) [0,1,2] rfl ?_;intro r;rcases r with _ | _ | _ | r<;>rfl
theorem ab8 (l:List aE) (a:l.length < 2 ^ 28):Sq 54 [] [.sl 3 (l.map aE.cells)] [] (.bT [.sl 3 ((pY l).1.map aE.cells),.I (pY l).2]):=by
 refine Spec.frozen (WO l a) [0] rfl ?_;intro r;rcases r with _ | r<;>rfl
theorem Qi (l:List aE) (a:l.length < 2 ^ 27):Sq 55 [] [.sl 3 (l.map aE.cells)] [] (.bT [.sl 4 ((sU l).1.map aU.cells),.I (sU l).2]):=by
 refine Spec.frozen (abW l a) [0] rfl ?_;intro r;rcases r with _ | r<;>rfl
theorem DH (l:bE) (id:Int) (g:List aU) (b:l.bs.length < 2 ^ 28) (a:g.length < 2 ^ 28):Sq 57 [] [.agg l.cells,.I id,.sl 4 (g.map aU.cells)] [] (.bT [.agg (nR l id g).cells,.I (j5 l id g)]):=by
 refine Spec.frozen (acD l id g b a) [0] rfl ?_;intro r;rcases r with _ | r<;>rfl
theorem M7 (r:az) (h:r.lp):Sq 58 [] [.agg r.cells] [] (.agg (L1 r).cells):=by
 refine Spec.frozen (adA r h) [0] rfl ?_;intro r;rcases r with _ | r<;>rfl
def zS:af:=⟨0,0,0,⟨[],[],[]⟩,⟨0,[],[]⟩,⟨0,[]⟩,[],[],[],[]⟩
def VT (s:af):List aE:=(pY (sG s.aj s.book)).1
def Xj (s:af):List aU:=(sU (VT s)).1
def stI (s:af):Int:=IntKind.wrap .i64 (s.bu.last+1)
def afM (s:af):bE:=if (Xj s).length=0 then s.bu else nR s.bu (stI s) (Xj s)
def afL (s:af):Int:=if (Xj s).length=0 then 0 else j5 s.bu (stI s) (Xj s)
def stE (s:af) (a:Int):Int:=if a=0 then (if wO s.aj s.book=0 then (if (pY (sG s.aj s.book)).2=0 then (if (sU (VT s)).2=0 then afL s else (sU (VT s)).2) else (pY (sG s.aj s.book)).2) else wO s.aj s.book) else a
def stS (s:af) (a:Int):af:=if stE s a=0 then { s with phase:=1,aj:=L1 s.aj,book:=D8 s.aj s.book,bu:=afM s } else zS
def stD (s:af) (a:Int):List aE:=if stE s a=0 then VT s else []
theorem Zr (r:az) (b:aI):(sG r b).length<=b.qs.length:=by
 unfold sG;split<;>simp
theorem SP (l:List aE):∀ (Z out:List aE),(xT l Z out).1.length<=out.length+Z.length
 | [],out=>by simp [xT]
 | d :: r,out=>by
  unfold xT;split
  ·have a:=SP l r (out++BH l d);have h2:=SR l d;rw [cm] at a;rw [length_cons];omega
  ·simp
theorem SS (l:List aE):(pY l).1.length<=l.length:=by
 unfold pY;split
 ·have a:=SP l (KB l) [];have b:=LB mm (B0 gE l);rw [GM] at b;unfold KB at a;simp only [length_nil] at a;unfold KB;omega
 ·simp
theorem YN (l:List aE):(sU l).1.length<=2*l.length:=by
 unfold sU;split
 ·split
  ·have h1:=Og (we (pY l).1);have h2:=Gn (pY l).1;have h3:=SS l;omega
  ·simp
 ·simp
theorem TH (s:af) (r:s.small) (hq:s.book.qs.length < 2 ^ 24) (K:s.bu.bs.length < 2 ^ 28) (A:∀ x∈s.aA,jE x) (b:Int) (m:Sq 52 [] [.agg s.cells,.I 0] [] (.I b)) :
  Sq 15 [] [.agg s.cells] [] (.bT [.agg (stS s b).cells,.sl 3 ((stD s b).map aE.cells),.I (stE s b)]):=by
 have c2:=qS s r A;have c3:=acS s.aj s.book r.aj.small r.book;have w:=Zr s.aj s.book;have c4:=ab8 (sG s.aj s.book) ah;have z:=SS (sG s.aj s.book);have p:=Qi (VT s) (by unfold VT;omega);have y:=YN (VT s);have g:=DH s.bu (stI s) (Xj s) K (by unfold Xj VT at *;omega);have q:=M7 s.aj r.aj;have l:(Xj s).length < 2 ^ 27:=by unfold Xj VT at *;omega
 obtain ⟨F,a⟩:=aQ (stE s b);have h:=a;simp only [stE,afL] at a;simp only [stS,stD,<- h,afM];clear h;rw [show (pY (sG s.aj s.book)).1=VT s from rfl] at c4;rw [show (sU (VT s)).1=Xj s from rfl] at p;simp only [af.cells] at m c2 |-;simp only [aI.cells,az.cells] at c3;simp only [az.cells] at q;simp only [bE.cells] at g;obtain ⟨N,E⟩:=aQ (VT s);obtain ⟨G,v⟩:=aQ (Xj s);obtain ⟨ne,n⟩:=aQ ((pY (sG s.aj s.book)).2);obtain ⟨D,f⟩:=aQ ((sU (VT s)).2);obtain ⟨RD,j⟩:=aQ (sG s.aj s.book);obtain ⟨RB,i⟩:=aQ (D8 s.aj s.book);obtain ⟨H,o⟩:=aQ (wO s.aj s.book);obtain ⟨C,c⟩:=aQ (j5 s.bu (stI s) (Xj s));obtain ⟨PL,e⟩:=aQ (nR s.bu (stI s) (Xj s));obtain ⟨TR,k⟩:=aQ (L1 s.aj);rw [<- c,<- e] at g;rw [<- c] at a;rw [<- e];rw [<- f,<- v] at p;rw [<- f] at a;rw [<- n] at c4 a;rw [<- E] at c4 p |-;rw [<- v] at g a l |-;rw [<- j] at c3 c4;rw [<- i] at c3 |-;rw [<- o] at c3 a;rw [<- k] at q |-;clear E v n f j i o c e k z w y;simp only [stI] at g;refine bf 79 1 [.cell 2 41,.tmp 3,.tmp 4] mixed func15 ?_;refine sc aJ m ?_;by_cases t:b=0
 case neg =>
  have d:(b==0)=false:=by simpa using t
  rw [ak t] at a;rw [a];simp only [go_sem,seval,bne,d,ak t,zS];all_goals rfl
 subst t;rw [aq rfl] at a;refine sc aJ c3 ?_;by_cases k1:H=0
 case neg =>
  have d:(H==0)=false:=by simpa using k1
  rw [ak k1] at a;rw [a];simp only [go_sem,seval,bne,d,ak k1,zS];all_goals rfl
 subst k1;rw [aq rfl] at a;refine sc aJ c4 ?_;by_cases k2:ne=0
 case neg =>
  have d:(ne==0)=false:=by simpa using k2
  rw [ak k2] at a;rw [a];simp only [go_sem,seval,bne,d,ak k2,zS];all_goals rfl
 subst k2;rw [aq rfl] at a;refine sc aJ p ?_;by_cases k3:D=0
 case neg =>
  have d:(D==0)=false:=by simpa using k3
  rw [ak k3] at a;rw [a];simp only [go_sem,seval,bne,d,ak k3,zS];all_goals rfl
 subst k3;rw [aq rfl] at a;refine sc aJ c2 ?_;by_cases u:G.length=0
 ·have d:decide ((0:Int) < (G.length:Int))=false:=jL;rw [aq u] at a;rw [a];simp only [go_sem,seval,d,aq u];exact jW aJ q
 ·have d:decide ((0:Int) < (G.length:Int))=true:=iC;rw [ak u] at a;rw [a];simp only [go_sem,seval,d,ak u];refine sc aJ g ?_;by_cases B:C=0
  case neg =>
   have J:(C==0)=false:=by simpa using B
   simp only [go_sem,seval,bne,J,ak B,zS];all_goals rfl
  subst B;exact jW aJ q
theorem Tr (r:az) (w:Int) (h:r.lp) (f:r.okB=true) (g:gF r w=true):Sq 74 [] [.agg r.cells,.I w,.I 2] [.own 3 ((ju r w 2).ms.map au.cells)] (.bT [.agg [.ref 0,.sl 12 ((ju r w 2).ns.map aC.cells),.sl 4 ((ju r w 2).xs.map ay.cells)],.I 0]):=by
 obtain ⟨x,q,p⟩:=q9.1 g;have c:=(cr.1 f).1.2;have o:fU r w=x:=sP c q p;obtain ⟨k,n,a⟩:=getElem_of_mem q;have b:∀ i (h:i < k),(r.ms[i]'ah).no < (x.put 2).no:=fun i l=>by
  have:=qo.1 c i k ah n l;rw [a] at this;exact this
 have t:ju r w 2=⟨r.ms.set k (x.put 2),r.ns,r.xs⟩:=by
  have e:MU r w 2=0:=by simp [MU,f,g,within]
  rw [ju,aq e,En n (fun j hj m he=>by have:=b j m;have:(x.put 2).no=x.no:=rfl;omega) (by rw [a];exact p),a]
 rw [t];have c1:=dN r h.small;have c2:=cw r w h.small;have c3:=fE 2 1 3;have c4:=vB r h;have d:=xZ r.ms (x.put 2) n b (by rw [a];rfl) h.1;rw [f] at c1;rw [o,g] at c2;rw [show within 2 1 3=true from rfl] at c3;obtain ⟨M,s⟩:=aQ ((r.ms.set k (x.put 2)).map au.cells);rw [<- s] at d |-;simp only [if_true] at c1;simp only [az.cells,au.cells,au.put] at c1 c2 c4 d |-;refine bf 43 3 [.cell 6 28,.tmp 7] mixed func74 ?_;refine sc aJ c1 ?_;refine sc aJ c2 ?_;refine sc aJ c3 ?_;refine so aJ c4 ?_;exact Hv [592] aJ d
theorem QG (r:az) (w:Int) (h:r.lp) (a:r.okB=true) (b:gF r w=true):Sq 74 [] [.agg r.cells,.I w,.I 2] [] (.bT [.agg (ju r w 2).cells,.I 0]):=by
 refine Spec.frozen (Tr r w h a b) [0] rfl ?_;intro r;rcases r with _ | r<;>rfl
theorem O5:∀ (l:List aB) (r:az) (a b:List aB),(lV l (r,a)).1=(lV l (r,b)).1
 | [],_,_,_=>rfl
 | c :: t,r,a,b=>O5 t _ _ _
def R1 (l:List aB) (c:aB):Bool:=l.any fun x=>x.who==c.who
theorem IJ (xs:List aB) (w:Int):eI xs [w]=xs.filter fun c=>!(c.who==w):=by
 induction xs with
 | nil=>rfl
 | cons x r ih =>
  rw [show eI (x :: r) [w]=(if Ob [w] x.who then [] else [x])++eI r [w] from rfl,ih,PW];by_cases q:x.who=w
  ·simp [q]
  ·have:(x.who==w)=false:=by simpa using q
   simp [q,this]
theorem B3:∀ (l:List aB) (r:az) (a:List aB),(lV l (r,a)).2=a.filter fun c=>!R1 l c
 | [],_,a=>by
  rw [lV];exact (filter_eq_self.2 (by simp [R1])).symm
 | x :: t,r,a=>by
  rw [lV,B3 t];simp only [IJ,filter_filter];congr 1;funext c;simp only [R1,any_cons,Bool.not_or];rw [Bool.and_comm,Bool.beq_comm]
theorem abR {r:az} (n:Int) (xs:List aB):(lV (kg n xs) (r,pU n xs)).2=(lV (kg n xs) (r,xs)).2:=by
 rw [B3,B3];have b:pU n xs=xs.filter fun c=>!decide (c.till<=n):=by
  induction xs with
  | nil=>rfl
  | cons x t ih =>
   rw [show pU n (x :: t)=(if x.till<=n then [] else [x])++pU n t from rfl,ih];by_cases q:x.till<=n<;>simp [q]
 rw [b,filter_filter];refine filter_congr fun c d=>?_;cases e:R1 (kg n xs) c
 ·have:decide (c.till<=n)=false:=by
   refine eJ fun a=>?_;have:R1 (kg n xs) c=true:=by
    refine any_eq_true.2 ⟨c,mem_flatMap.2 ⟨c,d,by rw [aq a];simp⟩,by simp⟩
   rw [e] at this;cases this
  simp [this]
 ·simp
theorem RJ (s:af) (n:Int) (hr:s.right) (w:s.small) (k:∀ x∈s.aA,jE x) (hn:gm n):Sq 21 [] [.agg s.cells,.I n] [.own 3 ((qj s n).map aE.cells)] (.bT [.agg (mD s n).cells,.ref 0,.I (qk s n)]):=by
 have c1:=mH s w;have j:=eW.2 hr;rw [j] at c1;simp only [if_true] at c1;have q:qk s n=if within n 1 1000 then (if 1099511627776 < s.now+n then 1 else 0) else 3:=by rw [qk,j];rfl
 have hclk:=hr.NI;simp only [af.cells] at c1 |-;refine bf 91 2 [.cell 4 41,.tmp 5,.tmp 6] mixed func21 ?_;refine sc aJ c1 ?_;by_cases w1:n < 1
 ·have o:decide (n < 1)=true:=dI w1;have e:qk s n=3:=by rw [q,ak];simp [within];omega
  have e2:mD s n=.zero:=by rw [mD,ak ah]
  have f:qj s n=[]:=by rw [qj,ak ah]
  rw [e,e2,f];simp only [go_sem,seval,o]<;>simp [af.zero,pl]
 have o:decide (n < 1)=false:=eJ w1;by_cases w2:1000 < n
 ·have C:decide (1000 < n)=true:=dI w2;have e:qk s n=3:=by rw [q,ak];simp [within];omega
  have e2:mD s n=.zero:=by rw [mD,ak ah]
  have f:qj s n=[]:=by rw [qj,ak ah]
  rw [e,e2,f];simp only [go_sem,seval,o,C]<;>simp [af.zero,pl]
 have C:decide (1000 < n)=false:=eJ w2;have A:IntKind.wrap .i64 (1099511627776-n)=1099511627776-n:=gA ah ah;by_cases w3:1099511627776-n < s.now
 ·have H:decide (1099511627776-n < s.now)=true:=dI w3;have e:qk s n=1:=by rw [q,aq (by simp [within];omega),aq ah]
  have e2:mD s n=.zero:=by rw [mD,ak ah]
  have f:qj s n=[]:=by rw [qj,ak ah]
  rw [e,e2,f];simp only [go_sem,seval,o,C,A,H]<;>simp [af.zero,pl]
 have H:decide (1099511627776-n < s.now)=false:=eJ w3;have e:qk s n=0:=by rw [q,aq (by simp [within];omega),ak ah]
 have c2:=qS s w k;have c3:=Yr (s.now+n) s.calls w.calls;have e2:mD s n={ s with now:=s.now+n,aj:=(lV (kg (s.now+n) s.calls) (s.aj,pU (s.now+n) s.calls)).1,calls:=(lV (kg (s.now+n) s.calls) (s.aj,pU (s.now+n) s.calls)).2 }:=by
  rw [mD,aq e,abR,O5 _ _ s.calls (pU (s.now+n) s.calls)]
 have f:qj s n=(kg (s.now+n) s.calls).map aB.due:=by rw [qj,aq e]
 have z:∀ c∈kg (s.now+n) s.calls,bM s.aj c.who≠0:=fun c h=>by
  obtain ⟨x,hx,h⟩:=mem_flatMap.1 h;split at h
  ·obtain rfl:=ga.1 h;have:=hr.known.cs _ hx;omega
  ·cases h
 have Q:(kg (s.now+n) s.calls).length<=1*s.calls.length:=gw (fun x=>by split<;>simp) _;have T:(pU (s.now+n) s.calls).length<=1*s.calls.length:=gw (fun x=>by split<;>simp) _;have hsc:=w.calls;have V:=w.aj;rw [e,e2,f];obtain ⟨l,u⟩:=aQ (kg (s.now+n) s.calls);obtain ⟨b,t⟩:=aQ (pU (s.now+n) s.calls);obtain ⟨N,D⟩:=aQ (s.now+n);have X:IntKind.wrap .i64 (s.now+n)=N:=by rw [D];exact gA ah ah
 rw [<- D] at c3 u t |-;rw [<- u,<- t] at c3;rw [<- D,<- u] at z Q;rw [<- D,<- t] at T;rw [<- u,<- t];obtain ⟨R,hR⟩:=aQ (lV l (s.aj,b));rw [<- hR];simp only [af.cells,az.cells] at c2 |-;clear q j e e2 f c1 u t w1 w2 w3;refine sc (a5 o C A H X) c2 ?_;refine sc aJ c3 ?_;refine dP ?_;refine aM.uB (S:=az × List aB) l.length [4,8,55,56] [80,848,912] (fun i x=>[(57,.I i),(11,.ref 1056),(10,.sl 4 (x.2.map aB.cells))])
  (fun i x=>[(1056,.own 3 (((l.take i).map aB.due).map aE.cells)),(144,.box [.I N,.I s.day,.I s.phase,.sl 3 (x.1.ms.map au.cells),.sl 12 (x.1.ns.map aC.cells),.sl 4 (x.1.xs.map ay.cells),.I s.book.next,.sl 7 (s.book.ts.map aL.cells),.sl 4 (s.book.qs.map aF.cells),.I s.bu.last,.sl 4 (s.bu.bs.map cq.cells),.sl 3 (pl s.ps),.sl 4 (s.calls.map aB.cells),.sl 5 (s.bH.map bB.cells),.sl 7 (s.aA.map aO.cells)])])
  (fun i x=>lV (l.drop i) x=R/\x.1.lp/\x.2.length < 2 ^ 30/\x.1.okB=true/\∀ c∈l.drop i,bM x.1 c.who≠0) (s.aj,b) ⟨hR.symm,V,by show b.length < 2 ^ 30;omega,hr.aj,z⟩ ?_ ?_ ?_
 ·simp only [go_sem,seval]<;>simp
 ·intro i x E K Y J;obtain ⟨r,cs⟩:=x;obtain ⟨d,Z,i3,F,B⟩:=J;simp only at Z i3 F;have U:=aV (c:=aB.cells) l E;have hli:(i:Int) < (l.length:Int):=ah
  rw [drop_eq_getElem_cons E] at d B;have m:=B _ (mem_cons_self ..);have a:((l.take (i+1)).map aB.due).map aE.cells=((l.take i).map aB.due).map aE.cells++[aE.cells l[i].due]:=by rw [l7 E,jq,jq];rfl
  have L:(((l.take i).map aB.due).map aE.cells).length=i:=by simp;omega
  obtain ⟨y,hy⟩:=aQ (l[i]);rw [<- hy] at U d B m a;obtain ⟨O,hO⟩:=aQ (((l.take i).map aB.due).map aE.cells);rw [<- hO] at a L |-;have c4:=Ep cs [y.who] i3 (by simp);have G:=QG r y.who Z F ((vJ F).1 m);have v:=Gx F m (p:=2) ah;obtain ⟨p1,p2,_⟩:=QA v;simp only [lV] at d;have g:lV (l.drop (i+1)) (ju r y.who 2,eI cs [y.who])=R/\(ju r y.who 2).lp/\(eI cs [y.who]).length < 2 ^ 30/\(ju r y.who 2).okB=true/\∀ c∈l.drop (i+1),bM (ju r y.who 2) c.who≠0:=
   ⟨d,Zf Z _ _,Nat.lt_of_le_of_lt (Rb _ _) i3,p1,fun c h=>by
    rw [p2];split
    ·decide
    ·exact B c (mem_cons_of_mem _ h)⟩
  simp only [aB.cells] at U;simp only [ints,map_cons,map_nil,az.cells] at c4 G;simp only [aB.due,aE.cells] at a;obtain ⟨W,hW⟩:=aQ (eI cs [y.who]);obtain ⟨P,hP⟩:=aQ (ju r y.who 2);rw [<- hW] at c4 g;rw [<- hP] at G g;clear hy hO hW hP d B p1 p2 v;refine sm (a2 K U) ?_;refine dP ?_;refine aD.iT [1136] [] false (by simp) ?_;refine s0 ?_;refine cY.gB c4 ?_;refine sc Y G ?_;refine dP ?_;refine av.kW (P,W) E ?_ ?_
  ·exact g
  exact fL a
 ·intro x M J;obtain ⟨r,cs⟩:=x;obtain ⟨d,_⟩:=J;rw [nx] at d;simp only [lV] at d;rw [<- d];simp only [go_sem,seval,M,jr]
theorem PI (s:af) (n:Int) (hr:s.right) (c:s.small) (a:∀ x∈s.aA,jE x) (b:gm n):Sq 21 [] [.agg s.cells,.I n] [] (.bT [.agg (mD s n).cells,.sl 3 ((qj s n).map aE.cells),.I (qk s n)]):=by
 refine Spec.frozen (RJ s n hr c a b) [0] rfl ?_;intro r;rcases r with _ | r<;>rfl
theorem tI (l:bE) (id:Int) (g:List aU) (b:l.bs.length < 2 ^ 28) (a:g.length < 2 ^ 28):Sq 57 [] [.agg l.cells,.I id,.sl 4 (g.map aU.cells)] [] (.bT [.agg (kR l id g).cells,.I (gf l id g)]):=by
 have h:=DH l id g b a;have e:=post_eq (fun _ h=>rz.2 h) uV (fun bs h=>Qb.1 h) l id g;rwa [e.1,e.2] at h
def IX (c:Int) (l:List aE):List Int:=pick (fun d:aE=>d.cur==c) aE.br l
def g3 (G:Nat->Int) (i:Nat):List D:=[.I (if 0 < i then G 0 else 0),.I (if 1 < i then G 1 else 0),.I (if 2 < i then G 2 else 0)]
def LS (f:Nat->Int):Nat->Nat->Nat
 | 0,i=>i
 | m+1,i=>if f i=0 then LS f m (i+1) else i
theorem UQ (l:List aE) (hl:l.length < 2 ^ 29):Sq 289 [] [.sl 3 (l.map aE.cells)] [] (.bT [.agg (g3 (fun c=>n9 (IX c l)) (LS (fun c=>nW (IX c l)) 3 0)),.I (gP (fun c=>nW (IX c l)) 3 0)]):=by
 obtain ⟨G,s⟩:∃ G:Nat->Int,G=fun c:Nat=>n9 (IX c l):=⟨_,rfl⟩
 obtain ⟨E,r⟩:∃ E:Nat->Int,E=fun c:Nat=>nW (IX c l):=⟨_,rfl⟩
 rw [<- s,<- r];have y:∀ c:Nat,Sq 236 [] [.sl 1 (ints (IX c l))] [] (.bT [.I (G c),.I (E c)]):=fun c=>by
  rw [s,r];exact gz (IX c l) (by have:=gx (fun d:aE=>d.cur==(c:Int)) aE.br l;unfold IX;omega)
 obtain ⟨Z,B⟩:=aQ (LS E 3 0);obtain ⟨R,A⟩:=aQ (gP E 3 0);rw [<- B,<- A];clear s r;refine bf 44 1 [.cell 2 334,.tmp 3] mixed func289 ?_;refine s0 ?_;refine aM.wu 3 [0,2,4] [] (fun c=>[(11,.I c),(3,.I 0)]) (fun c=>[(48,.box (g3 (fun _=>0) 0)),(80,.box (g3 G c))]) (fun c=>gP E (3-c) c=R/\LS E (3-c) c=Z) ⟨A.symm,B.symm⟩ ?_ ?_ ?_
 ·simp only [go_sem,seval,g3]<;>simp
 ·rintro c _ D e w ⟨a,b⟩;have e:decide ((c:Int) < 3)=true:=e;obtain ⟨m,F⟩:∃ m,3-c=m+1:=⟨3-c-1,by omega⟩
  have n:3-(c+1)=m:=ah
  rw [F] at a b;simp only [gP,LS] at a b;have h:=y c;clear y;refine sm e ?_;refine aM.wv l.length [0,2,4,5,11,14,15] [48,80] (fun i=>[(3,.I 0),(16,.I i),(6,.ref 464)]) (fun i=>[(464,.own 1 (ints (IX c (l.take i))))]) ?_ ?_ ?_
  ·simp only [go_sem,seval,g3]<;>simp [IX,pick,ints]
  ·intro i _ p j o _;have f:=aV (c:=aE.cells) l p;have hli:(i:Int) < (l.length:Int):=ah
   have g:ints (IX c (l.take (i+1)))=ints (IX c (l.take i))++_:=oW (fun d:aE=>d.cur==(c:Int)) aE.br p;have k:(IX c (l.take i)).length<=(l.take i).length:=gx _ _ _;have hlt:(l.take i).length=i:=by simp;omega
   obtain ⟨L,z⟩:=aQ (IX c (l.take i));obtain ⟨x,C⟩:=aQ (l[i]);rw [<- C] at f g;rw [<- z] at g k |-;have hLl:(ints L).length<=i:=by rw [aW];omega
   simp only [aE.cells] at f;clear h C z;cases q:x.cur==(c:Int)
   ·simp only [q,nJ,if_false,append_nil] at g;refine sm (a4 j f q o) ?_;refine dP ?_;refine av.v p ?_;simp only [go_sem,seval,g,g3]
   ·simp only [q,if_true] at g;refine sm (a4 j f q o) ?_;refine dP ?_;refine av.v p ?_;simp only [go_sem,seval,g,g3]
  ·intro _ t _;rw [jr];try refine dW.id ?_
   refine sm t ?_;refine dP ?_;refine aD.iT [464] [] false (by simp) ?_;refine s0 ?_;refine cY.gB h ?_;by_cases q:E c=0
   case neg =>
    have d:(E c==0)=false:=by simpa using q
    rw [ak q] at a b;rw [<- a,<- b];simp only [go_sem,seval,bne,d,g3];all_goals first | rfl | simp [g3]
   rw [aq q] at a b;rw [q];obtain rfl | rfl | rfl:c=0\/c=1\/c=2:=ah
   all_goals
    simp only [g3];simp only [go_sem,seval,bne,w];refine dP ?_;refine av.u D ⟨by rw [n];exact a,by rw [n];exact b⟩ ?_;simp only [go_sem,seval,g3];all_goals rfl
 ·rintro _ e ⟨a,b⟩;have a:(0:Int)=R:=a;have b:3=Z:=b;rw [<- a,<- b];simp only [g3];refine s0 ?_;all_goals first | rfl | simp
theorem QF (r:az) (w p:Int) (h:r.lp) (f:r.okB=true) (g:gF r w=true) (s:within p 1 3=true):Sq 74 [] [.agg r.cells,.I w,.I p] [.own 3 ((ju r w p).ms.map au.cells)] (.bT [.agg [.ref 0,.sl 12 ((ju r w p).ns.map aC.cells),.sl 4 ((ju r w p).xs.map ay.cells)],.I 0]):=by
 obtain ⟨x,t,q⟩:=q9.1 g;have c:=(cr.1 f).1.2;have o:fU r w=x:=sP c t q;obtain ⟨k,n,a⟩:=getElem_of_mem t;have b:∀ i (h:i < k),(r.ms[i]'ah).no < (x.put p).no:=fun i l=>by
  have:=qo.1 c i k ah n l;rw [a] at this;exact this
 have v:ju r w p=⟨r.ms.set k (x.put p),r.ns,r.xs⟩:=by
  have e:MU r w p=0:=by simp only [MU,f,g,s];rfl
  rw [ju,aq e,En n (fun j hj m he=>by have:=b j m;have:(x.put p).no=x.no:=rfl;omega) (by rw [a];exact q),a]
 rw [v];have c1:=dN r h.small;have c2:=cw r w h.small;have c3:=fE p 1 3;have c4:=vB r h;have d:=xZ r.ms (x.put p) n b (by rw [a];rfl) h.1;rw [f] at c1;rw [o,g] at c2;rw [s] at c3;obtain ⟨M,u⟩:=aQ ((r.ms.set k (x.put p)).map au.cells);rw [<- u] at d |-;simp only [if_true] at c1;simp only [az.cells,au.cells,au.put] at c1 c2 c4 d |-;refine bf 43 3 [.cell 6 28,.tmp 7] mixed func74 ?_;refine sc aJ c1 ?_;refine sc aJ c2 ?_;refine sc aJ c3 ?_;refine so aJ c4 ?_;exact Hv [592] aJ d
theorem M5 (r:az) (w p:Int) (h:r.lp) (a:r.okB=true) (b:gF r w=true) (c:within p 1 3=true):Sq 74 [] [.agg r.cells,.I w,.I p] [] (.bT [.agg (ju r w p).cells,.I 0]):=by
 refine Spec.frozen (QF r w p h a b c) [0] rfl ?_;intro r;rcases r with _ | r<;>rfl
theorem Nm (w:Int) (x:fG):Sq 341 [] [.agg x.cells,.bq [.I w]] [] (.bool (x.who==w)):=by
 simp only [fG.cells];refine bf 8 2 [.tmp 3] mixed func341 ?_;simp only [go_sem,seval];all_goals (with_reducible and_intros)<;>first|exact .dq|omega|skip
theorem Nn (w:Int) (x:bB):Sq 343 [] [.agg x.cells,.bq [.I w]] [] (.bool (x.who==w||x.src==w)):=by
 simp only [bB.cells];refine bf 15 2 [.tmp 3] mixed func343 ?_;cases q:x.who==w<;>simp only [go_sem,seval,q]<;>simp
theorem J6 {A:Type} (p:A->Bool):∀ l:List A,(l.flatMap fun x=>if p x then [] else [x])=l.filter fun x=>!p x
 | []=>rfl
 | x :: r=>by
  rw [flatMap_cons,J6 p r,filter_cons];cases p x<;>rfl
theorem U8 (w:Int) (l:List fG):Ky w l=l.filter fun x=>!(x.who==w):=J6 (fun x:fG=>x.who==w) l
theorem U5 (w:Int) (l:List bB):BE w l=l.filter fun x=>!(x.who==w||x.src==w):=J6 (fun x:bB=>x.who==w||x.src==w) l
theorem Cp (s:af) (w:Int) (a:s.small) (b:∀ x∈s.aA,jE x):Sq 293 [] [.agg s.cells,.I w] [] (.agg (af.cells { s with ps:=Ky w s.ps,calls:=eI s.calls [w],bH:=BE w s.bH })):=by
 have c1:=sK s.bu.bs a.bu;have c2:=AX s.ps a.ps;have c:=RO (fun x=>x.who==w) 341 w (Nm w) s.ps (by have:=a.ps;omega);rw [<- U8] at c;have c3:=Ep s.calls [w] a.calls (by simp);have c4:=uY s.bH a.bH;have d:=RM (fun x=>x.who==w||x.src==w) 343 w (Nn w) s.bH (by have:=a.bH;omega);rw [<- U5] at d;have e:=vT s.aA a.aA b;simp only [af.cells,pl] at c2 |-;simp only [ints,map_cons,map_nil] at c3;refine bf 34 2 [.cell 4 41] mixed func293 ?_;refine sc aJ c1 ?_;refine so aJ c2 ?_;refine aD.iT [64] [224] false (by simp) ?_;refine s0 ?_;refine cY.gB c ?_;refine s0 ?_;refine aD.iT [336] [] false (by simp) ?_;refine s0 ?_;refine cY.gB c3 ?_;refine so aJ c4 ?_;refine sg [416] aJ d ?_;try simp only [go_sem,seval]
 exact jW aJ e
def Al (xs:List aB) (d:aE) (a:Int):aB:=⟨d.who,d.cur,d.br,if eO d.who d.cur xs < 0 then a else (qq d.who d.cur xs).till⟩
theorem Ru (xs:List aB) (d:aE) (a:Int) (hl:xs.length < 2 ^ 29) (h:qt cj bO xs=true) (e:Cv d=true) (G:within a 0 1099511627776=true):Sq 161 [] [.sl 4 (xs.map aB.cells),.agg d.cells,.I a] [.own 4 ((ym xs (Al xs d a) 16).map aB.cells)] (.ref 0):=by
 have E:=rC h;have P:=(je.1 h).1;have e:=AZ.1 e;have G:0<=a/\a<=1099511627776:=by simpa [within] using G
 have s:(1<=(Al xs d a).who/\(Al xs d a).who<=16)/\0<=(Al xs d a).cur/\(Al xs d a).cur<=2:=⟨e.1,e.2.1⟩
 have f:eK (Al xs d a)=d.who*4+d.cur:=rfl;have c1:=As xs ah;have c2:=HF xs d.who d.cur d.br ah E (fun x s=>(ij.1 (P x s)).2.1) e.2.1;obtain ⟨O,T,U⟩:=iQ (n:=d.who*4+d.cur) E;obtain ⟨S,N⟩:=abJ (K:=d.who*4+d.cur) E;obtain ⟨k,C⟩:=aQ (putAt eK (d.who*4+d.cur) xs);obtain ⟨I,A⟩:=aQ (isC (d.who*4+d.cur) xs);rw [<- C,<- A] at c2;rw [<- A] at N;rw [<- C] at O N;have J:IntKind.wrap .i64 ((k:Int)+1)=((k+1:Nat):Int):=gN;simp only [aB.cells,aE.cells] at c1 c2 |-;refine bf 51 3 [.tmp 6] mixed func161 ?_;cases I
 case true =>
  have b:k < xs.length:=by
   rcases bZ k xs.length with hh | hh
   ·exact hh
   ·have:=N hh;cases this
  have o:eK xs[k]=d.who*4+d.cur:=by
   have:=S (by rw [<- C];exact b);rw [<- A] at this;subst C;simpa using this.symm
  have v:=ij.1 (P _ (ck b));have g:xs[k].who=d.who/\xs[k].cur=d.cur:=by have:=e.2.1;have:=v.2.1;simp only [eK] at o;omega
  obtain ⟨F,e2⟩:=NG E (ck b) g;have j:Al xs d a=⟨d.who,d.cur,d.br,xs[k].till⟩:=by rw [Al,ak F,e2]
  by_cases r:d.br=0
  ·have m:(d.br==0)=true:=by simpa using r
   have t:=afn h s b (by rw [o,f]) (show (Al xs d a).br=0 from r);have c3:=PJ xs k ah b;rw [t] at c3;refine so aJ c1 ?_;refine sl aJ c2 ?_;exact Hv [192] (a2 m J) c3
  ·have m:(d.br==0)=false:=by simpa using r
   have l:=afp h s b (by rw [o,f]) (by
    rw [j,ij];exact ⟨e.1,e.2.1,⟨show (1:Int)<=d.br by omega,e.2.2.2⟩,v.2.2.2⟩)
   have p:=aV (c:=aB.cells) xs b;obtain ⟨x,L⟩:=aQ (xs[k]);rw [<- L] at p g j;rw [j] at l;have z:([.I x.who,.I x.cur,.I d.br,.I x.till]:List D)=aB.cells ⟨d.who,d.cur,d.br,x.till⟩:=by rw [g.1,g.2]
   have hkli:(k:Int) < (xs.length:Int):=ah
   rw [j];rw [<- l];simp only [aB.cells] at p;refine so aJ c1 ?_;refine sl aJ c2 ?_;refine sm (a2 m p) ?_;refine dP ?_;rw [map_set,<- z]
 case false =>
  have q:∀ y∈xs,¬ eK y=d.who*4+d.cur:=fun y M Q=>by
   have:=A.symm;rw [isC,any_eq_false] at this;exact this y M (by simpa using Q)
  have F:eO d.who d.cur xs < 0:=by
   rcases Int.lt_or_le (eO d.who d.cur xs) 0 with hh | hh
   ·exact hh
   ·have p:=iS (xs:=xs) (w:=d.who) (c:=d.cur) ah;exact (q _ p.1 (by simp only [eK];rw [p.2.1,p.2.2])).elim
  have j:Al xs d a=⟨d.who,d.cur,d.br,a⟩:=by rw [Al,aq F]
  by_cases r:0 < d.br
  ·have m:decide (0 < d.br)=true:=dI r
   have u:=afo h s (k:=k) O (fun i B H=>by rw [f];exact T i B ah) (fun i B H=>by
    have h1:=U i B ah;have h2:=q _ (ck B)
    rw [f];omega) (by rw [j,ij];exact ⟨e.1,e.2.1,⟨show (1:Int)<=d.br by omega,e.2.2.2⟩,G⟩)
   have c3:=PX xs (Al xs d a) k ah O;rw [u,j] at c3;rw [j];simp only [aB.cells] at c3;refine so aJ c1 ?_;refine sl aJ c2 ?_;exact Hv [192,784] m c3
  ·have m:decide (0 < d.br)=false:=eJ r;have R:=acK h s (fun y M=>by rw [f];exact q y M) (show d.br=0 by omega);rw [<- R];refine so aJ c1 ?_;refine sl aJ c2 ?_;exact fL m
theorem Ck (xs:List aB) (d:aE) (a:Int) (e:xs.length < 2 ^ 29) (h:qt cj bO xs=true) (c:Cv d=true) (b:within a 0 1099511627776=true):Sq 161 [] [.sl 4 (xs.map aB.cells),.agg d.cells,.I a] [] (.sl 4 ((ym xs (Al xs d a) 16).map aB.cells)):=by
 refine Spec.frozen (Ru xs d a e h c b) [0] rfl ?_;intro r;rcases r with _ | r<;>rfl
theorem Wg {xs:List aB} {d:aE} {a:Int} (h:AS xs d a=0):qt cj bO xs=true/\Cv d=true/\within a 0 1099511627776=true:=by
 unfold AS at h;split at h
 ·rename_i c;split at h
  ·rename_i b;rw [cU] at b;exact ⟨c,b⟩
  ·cases h
 ·cases h
theorem Pz (xs:List aB) (d:aE) (a:Int) (g:xs.length < 2 ^ 29):Sq 66 [] [.sl 4 (xs.map aB.cells),.agg d.cells,.I a] [] (.bT [.sl 4 ((Mk xs d a).map aB.cells),.I (AS xs d a)]):=by
 have c1:=xe xs d a ah;simp only [aE.cells] at c1 |-;refine bf 20 3 [.tmp 6,.tmp 7] mixed func66 ?_;by_cases h:AS xs d a=0
 ·obtain ⟨c,e,f⟩:=Wg h;have c2:=Ck xs d a g c e f;simp only [aE.cells] at c2;rw [show Mk xs d a=ym xs (Al xs d a) 16 from aq h,h];rw [h] at c1;refine sc aJ c1 ?_;exact jW aJ c2
 ·have b:(AS xs d a==0)=false:=by simpa using h
  rw [show Mk xs d a=[] from ak h];refine sc aJ c1 ?_;simp only [go_sem,seval,bne,b]<;>simp
theorem ab1 (xs:List aB) (d:aE):AS xs d 0=G8 xs d:=by
 have:within 0 0 1099511627776=true:=rfl;simp only [AS,G8,this,Bool.and_true]
theorem Ar (xs:List aB) (d:aE) (j:xs.length < 2 ^ 29):Sq 281 [] [.sl 4 (xs.map aB.cells),.agg d.cells] [] (.bT [.sl 4 ((AD xs d).map aB.cells),.I (G8 xs d)]):=by
 have c1:=xe xs d 0 ah;have c2:=GV d.who d.cur xs ah;have a:=ab1 xs d;simp only [aE.cells] at c1 |-;refine bf 27 2 [.tmp 4,.tmp 5] mixed func281 ?_;by_cases h:AS xs d 0=0
 ·obtain ⟨c,g,i⟩:=Wg h;have e:=AZ.1 g;have hn:0<=iu d.who d.cur xs/\iu d.who d.cur xs<=4611686018427387904:=by
   unfold iu;split
   ·omega
   ·rename_i b;have:=ij.1 ((je.1 c).1 _ (iS b).1);omega
  have w1:IntKind.wrap .i64 (iu d.who d.cur xs-d.br)=iu d.who d.cur xs-d.br:=gA ah ah;have k:Al xs ⟨d.who,d.cur,max (iu d.who d.cur xs-d.br) 0⟩ 0=Ou xs d:=by
   unfold Al Ou iu;split
   ·rw [show max (0-d.br) 0=0 by omega]
   ·rename_i b;have:=iS b;dsimp only;rw [this.2.1,this.2.2]
  have c3:=Ck xs ⟨d.who,d.cur,max (iu d.who d.cur xs-d.br) 0⟩ 0 j c (AZ.2 ⟨e.1,e.2.1,by show 0<=max (iu d.who d.cur xs-d.br) 0/\max (iu d.who d.cur xs-d.br) 0<=_;omega⟩) i;rw [k] at c3;rw [show AD xs d=ym xs (Ou xs d) 16 from aq (by rw [<- a];exact h),<- a,h];rw [h] at c1;simp only [aE.cells] at c3;refine sc aJ c1 ?_;refine sc aJ c2 ?_;exact jW w1 c3
 ·have f:(G8 xs d==0)=false:=by rw [<- a];simpa using h
  rw [show AD xs d=[] from ak (by rw [<- a];exact h)];rw [a] at c1;refine sc aJ c1 ?_;simp only [go_sem,seval,bne,f]<;>simp
@[reducible] def tC (s:af) (rn a:Int):List D:=[.I s.now,.I s.day,.I s.phase,.sl 3 (s.aj.ms.map au.cells),.sl 12 (s.aj.ns.map aC.cells),.sl 4 (s.aj.xs.map ay.cells),.I s.book.next,.sl 7 (s.book.ts.map aL.cells),.sl 4 (s.book.qs.map aF.cells),
 .I s.bu.last,.sl 4 (s.bu.bs.map cq.cells),.sl 3 (pl s.ps),.sl 4 (s.calls.map aB.cells),.sl 5 (s.bH.map bB.cells),.sl 7 (s.aA.map aO.cells),.I 0,.I rn,.I a,.nil,.nil]
@[reducible] def tD (s:af) (r:Nat):List D:=[.I s.now,.I s.day,.I s.phase,.sl 3 (s.aj.ms.map au.cells),.sl 12 (s.aj.ns.map aC.cells),.sl 4 (s.aj.xs.map ay.cells),.I s.book.next,.sl 7 (s.book.ts.map aL.cells),.sl 4 (s.book.qs.map aF.cells),
 .I s.bu.last,.sl 4 (s.bu.bs.map cq.cells),.sl 3 (pl s.ps),.sl 4 (s.calls.map aB.cells),.sl 5 (s.bH.map bB.cells),.sl 7 (s.aA.map aO.cells),.I 0,.I 0,.I 0,.ref r,.nil]
def sV (s:af) (g:List aU):af:={ s with bu:=kR s.bu (nextId s.bu) g }
theorem DY {s:af} {g:List aU} (h:qz s g=0):sV s g=sF s g:=by rw [sF,aq h];rfl
theorem AO (s:af) (rn a:Int) (g:List aU) (c:s.bu.bs.length < 2 ^ 28) (b:g.length < 2 ^ 28):Sq 279 [.box (tC s rn a)] [.addr 0 0,.sl 4 (g.map aU.cells)] [.box (tC (sV s g) rn a)] (.I (qz s g)):=by
 have c1:=tI s.bu (nextId s.bu) g c b;simp only [nextId,bE.cells] at c1;simp only [tC,sV,qz,nextId];refine bf 27 2 [.tmp 4] mixed func279 ?_;first
  | exact jW aJ c1
  | (refine sc aJ c1 ?_
     simp only [go_sem,seval])
theorem L0 (s:af) (ds:List aE) (g:List aU) (b:s.bu.bs.length < 2 ^ 28) (a:g.length < 2 ^ 28):Sq 279 [.box (tD s 1),.own 3 (ds.map aE.cells)] [.addr 0 0,.sl 4 (g.map aU.cells)] [.box (tD (sV s g) 1),.own 3 (ds.map aE.cells)] (.I (qz s g)):=by
 have c1:=tI s.bu (nextId s.bu) g b a;simp only [nextId,bE.cells] at c1;simp only [tD,sV,qz,nextId];refine bf 27 2 [.tmp 4] mixed func279 ?_;first
  | exact jW aJ c1
  | (refine sc aJ c1 ?_
     simp only [go_sem,seval])
theorem qD (s:af) (rn e:Int) (w:Int) (f:s.aj.small):Sq 278 [.box (tC s rn e)] [.addr 0 0,.I w] [.box (tC s rn e)] (.I (HE s.aj w)):=by
 have c1:=cw s.aj w f;obtain ⟨m,b⟩:=aQ (fU s.aj w);have c:HE s.aj w=if gF s.aj w then (if m.state=1 then 0 else 14) else 10:=by rw [b];rfl
 rw [<- b] at c1;rw [c];simp only [az.cells,au.cells] at c1;simp only [tC];clear c b;refine bf 24 2 [.tmp 4] mixed func278 ?_;refine sc aJ c1 ?_;cases b1:gF s.aj w
 ·refine s0 ?_;all_goals simp
 by_cases a:m.state=1
 ·have d:(m.state==1)=true:=by simpa using a
  simp only [go_sem,seval,bne,d,aq a];all_goals simp
 ·have d:(m.state==1)=false:=by simpa using a
  simp only [go_sem,seval,bne,d,ak a];all_goals simp
theorem Uy {xs:List aB} (h:qt cj bO xs=true) (w c:Int):decide (0 < iu w c xs)=decide (0<=eO w c xs):=by
 unfold iu;by_cases a:eO w c xs < 0
 ·rw [aq a];simp;omega
 ·rw [ak a];have:=ij.1 ((je.1 h).1 _ (iS a).1);rw [iC,iC]
theorem uR (s:af) (rn l:Int) (w c:Int) (o:s.fit) (m:s.calls.length < 2 ^ 40) (p:qt cj bO s.calls=true):Sq 282 [.box (tC s rn l)] [.addr 0 0,.I w,.I c] [.box (tC s rn l)] (.I (aet s w c)):=by
 have c1:=LK s w c o;have c2:=GV w c s.calls m;have h:=Uy p w c;simp only [aet];rw [<- h];obtain ⟨E,e⟩:=aQ (Xf s w c);obtain ⟨n,f⟩:=aQ (TI s w c);obtain ⟨k,a⟩:=aQ (iu w c s.calls);rw [<- e,<- f] at c1;rw [<- a] at c2;rw [<- e,<- f,<- a];simp only [af.cells] at c1;simp only [tC];clear e f a h;refine bf 37 3 [.tmp 6] mixed func282 ?_;refine sc aJ c1 ?_;by_cases g:E=0
 case neg =>
  have d:(E==0)=false:=by simpa using g
  simp only [go_sem,seval,bne,d,ak g]
 rw [g,aq rfl];by_cases i:0 < n
 ·have d:decide (0 < n)=true:=dI i;simp only [go_sem,seval,bne,d];all_goals simp
 have b:decide (0 < n)=false:=eJ i;simp only [go_sem,seval,bne];refine sc b c2 ?_;by_cases j:0 < k
 ·have d:decide (0 < k)=true:=dI j;refine sm (a2 b d) ?_;all_goals simp
 ·have d:decide (0 < k)=false:=eJ j;refine sm (a2 b d) ?_;all_goals simp
theorem AI (n:Int):Sq 277 [] [.I n] [] (.bool (within n 1 4611686018427387904)):=by
 have c1:=bY [n] (by simp);rw [tQ] at c1;simp only [ints,map_cons,map_nil] at c1;refine bf 10 1 [.tmp 2] mixed func277 ?_;by_cases a:1<=n
 ·have d:decide (1<=n)=true:=dI a;have e:within n 1 4611686018427387904=bQ n:=by rw [lA,bI];simp [within];omega
  rw [e];exact Xh d c1
 ·have d:decide (1<=n)=false:=eJ a;have e:within n 1 4611686018427387904=false:=by simp [within];omega
  rw [e];exact fL d
theorem Ov (s:af) (g:List aU):(sV s g).calls=s.calls:=rfl
theorem Nj (s:af) (rn b:Int) (c:aN) (g:s.bu.bs.length < 2 ^ 28):∃ e,Sq 190 [.box (tC s rn b)] [.addr 0 0,.agg c.cells] [.box (tC e rn b)] (.I (if within c.cur 0 2&&within c.br 1 4611686018427387904 then qz s (cg ⟨1,0,c.cur⟩ ⟨4,0,c.cur⟩ c.br) else 3))/\((within c.cur 0 2&&within c.br 1 4611686018427387904)=true->qz s (cg ⟨1,0,c.cur⟩ ⟨4,0,c.cur⟩ c.br)=0->e=sF s (cg ⟨1,0,c.cur⟩ ⟨4,0,c.cur⟩ c.br)):=by
 have c1:=gW ⟨4,0,c.cur⟩;have f:aP.right ⟨4,0,c.cur⟩=within c.cur 0 2:=by
  rw [lA];simp [aP.right,within,owned];omega
 rw [f] at c1;have c2:=AI c.br;have c3:=vl ⟨1,0,c.cur⟩ ⟨4,0,c.cur⟩ c.br;have c4:=AO s rn b (cg ⟨1,0,c.cur⟩ ⟨4,0,c.cur⟩ c.br) g (by simp [cg]);simp only [aP.cells] at c1 c3;simp only [aN.cells];cases a:within c.cur 0 2
 ·refine ⟨s,?_,fun h=>by cases h⟩;rw [a] at c1;simp only [tC];refine bf 27 2 [.tmp 4] mixed func190 ?_;first
   | exact jW aJ c1
   | (refine sc aJ c1 ?_
      refine s0 ?_
      all_goals simp)
 cases d:within c.br 1 4611686018427387904
 ·refine ⟨s,?_,fun h=>by cases h⟩;rw [a] at c1;rw [d] at c2;simp only [tC];refine bf 27 2 [.tmp 4] mixed func190 ?_;refine sc aJ c1 ?_;first
   | exact jW aJ c2
   | (refine sc aJ c2 ?_
      refine s0 ?_
      all_goals simp)
 refine ⟨sV s (cg ⟨1,0,c.cur⟩ ⟨4,0,c.cur⟩ c.br),?_,fun _ h=>DY h⟩;rw [a] at c1;rw [d] at c2;obtain ⟨u,i⟩:=aQ (sV s (cg ⟨1,0,c.cur⟩ ⟨4,0,c.cur⟩ c.br));rw [<- i] at c4 |-;simp only [tC] at c4 |-;refine bf 27 2 [.tmp 4] mixed func190 ?_;refine sc aJ c1 ?_;refine sc aJ c2 ?_;refine sc aJ c3 ?_;exact Hv [0] aJ c4
theorem Zc {s:af} (a:s.small) (g:List aU):(sV s g).fit:=⟨a.aj.small,a.book,Nat.lt_of_le_of_lt BN.1 (by decide),a.ps⟩
theorem LZ (s:af) (rn w:Int) (c:aN) (D:c.kind=4\/c.kind=5\/c.kind=8) (hr:s.right) (E:s.small):∃ F,Sq 188 [.box (tC s rn w)] [.addr 0 0,.agg c.cells] [.box (tC F rn w)] (.I (wM s c).2)/\((wM s c).2=0->F=(wM s c).1):=by
 have G:s.bu.bs.length < 2 ^ 28:=by have:=hr.lens.bs;omega
 have B:s.calls.length < 2 ^ 29:=by have:=hr.lens.calls;omega
 have c1:=gW ⟨2,c.who,c.cur⟩;have c2:=AI c.br;have c3:=qD s rn w c.who E.aj.small;have l:=fun a b=>vl a b c.br;have o:=fun g (h:length g < 2 ^ 28)=>AO s rn w g G h;have p:=fun g=>uR (sV s g) rn w c.who c.cur (Zc E g) (by rw [Ov];omega) hr.calls;have k:=Ar s.calls ⟨c.who,c.cur,c.br⟩ B;obtain ⟨R,f⟩:=aQ (wM s c);rw [<- f];simp only [wM] at f;obtain ⟨cl,sq,kind,who,oth,no,inst,cur,aZ,aH,br,s0,s1,s2,s3,s4,s5⟩:=c;dsimp only at D f c1 c2 c3 l p k;simp only [aP.cells] at c1 l;simp only [aE.cells] at k;simp only [aN.cells];cases x:aP.right ⟨2,who,cur⟩
 ·rw [x] at c1 f;have f:R=(s,3):=by rw [f];rfl
  refine ⟨s,?_,fun h=>by rw [f] at h;cases h⟩;rw [f];simp only [tC];refine bf 88 2 [.tmp 4] mixed func188 ?_;first
   | exact jW aJ c1
   | (refine sc aJ c1 ?_
      refine s0 ?_
      all_goals simp)
 cases z:within br 1 4611686018427387904
 ·rw [x] at c1 f;rw [z] at c2 f;have f:R=(s,3):=by rw [f];rfl
  refine ⟨s,?_,fun h=>by rw [f] at h;cases h⟩;rw [f];simp only [tC];refine bf 88 2 [.tmp 4] mixed func188 ?_;refine sc aJ c1 ?_;first
   | exact jW aJ c2
   | (refine sc aJ c2 ?_
      refine s0 ?_
      all_goals simp)
 rw [x] at c1 f;rw [z] at c2 f;simp only [Bool.and_self,if_true] at f;obtain ⟨A,C⟩:=aQ (HE s.aj who);rw [<- C] at c3 f;by_cases n:A=0
 case neg =>
  have d:(A==0)=false:=by simpa using n
  have f:R=(s,A):=by rw [f,ak n]
  refine ⟨s,?_,fun h=>by rw [f] at h;exact absurd h n⟩;rw [f];simp only [tC] at c3 |-;refine bf 88 2 [.tmp 4] mixed func188 ?_;refine sc aJ c1 ?_;refine sc aJ c2 ?_;refine sg [0] aJ c3 ?_;simp only [go_sem,seval,bne,d];all_goals simp
 rw [aq n] at f;rw [n] at c3;clear C x z n;rcases D with rfl | rfl | rfl
 ·have c4:=l ⟨1,0,cur⟩ ⟨2,who,cur⟩;have i:=o (cg ⟨1,0,cur⟩ ⟨2,who,cur⟩ br) (by simp [cg]);have j:=@DY s (cg ⟨1,0,cur⟩ ⟨2,who,cur⟩ br);have m:=Ov s (cg ⟨1,0,cur⟩ ⟨2,who,cur⟩ br);obtain ⟨g,t⟩:=aQ (cg ⟨1,0,cur⟩ ⟨2,who,cur⟩ br);rw [<- t] at c4 i f j m;simp only [ak (show ¬ (4:Int)=8 by decide),if_true] at f;obtain ⟨e,r⟩:=aQ (qz s g);rw [<- r] at i f j;obtain ⟨u,v⟩:=aQ (sV s g);rw [<- v] at i j m;clear l o p;by_cases q:e=0
  case neg =>
   have d:(e==0)=false:=by simpa using q
   rw [ak q] at f;refine ⟨u,?_,fun h=>by rw [f] at h;exact absurd h q⟩;rw [f];simp only [tC] at c3 i |-;refine bf 88 2 [.tmp 4] mixed func188 ?_;refine sc aJ c1 ?_;refine sc aJ c2 ?_;refine sg [0] aJ c3 ?_;refine sc aJ c4 ?_;refine sg [0] aJ i ?_;simp only [go_sem,seval,bne,d];all_goals simp
  rw [aq q,<- j q] at f;rw [q] at i;refine ⟨WL u ⟨who,cur,br⟩,?_,fun h=>by rw [f]⟩;rw [f];simp only [tC,WL,m] at c3 i |-;refine bf 88 2 [.tmp 4] mixed func188 ?_;refine sc aJ c1 ?_;refine sc aJ c2 ?_;refine sg [0] aJ c3 ?_;refine sc aJ c4 ?_;refine sg [0] aJ i ?_;first
   | exact jW aJ k
   | (refine sc aJ k ?_
      refine s0 ?_
      all_goals simp)
 ·have c4:=l ⟨2,who,cur⟩ ⟨1,0,cur⟩;have i:=o (cg ⟨2,who,cur⟩ ⟨1,0,cur⟩ br) (by simp [cg]);have y:=p (cg ⟨2,who,cur⟩ ⟨1,0,cur⟩ br);have j:=@DY s (cg ⟨2,who,cur⟩ ⟨1,0,cur⟩ br);obtain ⟨g,t⟩:=aQ (cg ⟨2,who,cur⟩ ⟨1,0,cur⟩ br);rw [<- t] at c4 i y f j;simp only [ak (show ¬ (5:Int)=8 by decide),ak (show ¬ (5:Int)=4 by decide)] at f;obtain ⟨e,r⟩:=aQ (qz s g);rw [<- r] at i f j;obtain ⟨u,v⟩:=aQ (sV s g);rw [<- v] at i y j;clear l o p k;by_cases q:e=0
  case neg =>
   have d:(e==0)=false:=by simpa using q
   rw [ak q] at f;refine ⟨u,?_,fun h=>by rw [f] at h;exact absurd h q⟩;rw [f];simp only [tC] at c3 i |-;refine bf 88 2 [.tmp 4] mixed func188 ?_;refine sc aJ c1 ?_;refine sc aJ c2 ?_;refine sg [0] aJ c3 ?_;refine sc aJ c4 ?_;refine sg [0] aJ i ?_;simp only [go_sem,seval,bne,d];all_goals simp
  rw [aq q,<- j q] at f;rw [q] at i;refine ⟨u,?_,fun h=>by rw [f]⟩;rw [f];simp only [tC] at c3 i y |-;refine bf 88 2 [.tmp 4] mixed func188 ?_;refine sc aJ c1 ?_;refine sc aJ c2 ?_;refine sg [0] aJ c3 ?_;refine sc aJ c4 ?_;refine sg [0] aJ i ?_;exact Hv [0] aJ y
 ·have c4:=l ⟨1,0,cur⟩ ⟨3,who,cur⟩;have i:=o (cg ⟨1,0,cur⟩ ⟨3,who,cur⟩ br) (by simp [cg]);have j:=@DY s (cg ⟨1,0,cur⟩ ⟨3,who,cur⟩ br);obtain ⟨g,t⟩:=aQ (cg ⟨1,0,cur⟩ ⟨3,who,cur⟩ br);rw [<- t] at c4 i f j;simp only [if_true] at f;obtain ⟨e,r⟩:=aQ (qz s g);rw [<- r] at i f j;obtain ⟨u,v⟩:=aQ (sV s g);rw [<- v] at i j;clear l o p k;refine ⟨u,?_,fun h=>by rw [f] at h |-;exact j h⟩;rw [f];simp only [tC] at c3 i |-;refine bf 88 2 [.tmp 4] mixed func188 ?_;refine sc aJ c1 ?_;refine sc aJ c2 ?_;refine sg [0] aJ c3 ?_;refine sc aJ c4 ?_;refine sg [0] aJ i ?_;by_cases q:e=0
  ·rw [q];simp only [go_sem,seval,bne];all_goals simp
  ·have d:(e==0)=false:=by simpa using q
   simp only [go_sem,seval,bne,d];all_goals simp
theorem vR (b:aI) (n:Int) (a:b.small) (c:b.qs.length < 2 ^ 28):Sq 328 [] [.agg b.cells,.I n] [] (.bT [.agg (ct b n).cells,.I (fY b n)]):=by
 refine Spec.frozen (Jy b n a c) [0,1] rfl ?_;intro r;rcases r with _ | _ | r<;>rfl
theorem UB (b:aI) (n:Int):(ct b n).qs.length < 2 ^ 28:=by
 unfold ct;split
 ·have:=Cf b (fT (bN n b.ts) true) 16;show (Ce b (fT (bN n b.ts) true) 16).length < _;omega
 ·simp
theorem UC {b:aI} {n:Int} (h:fY b n=0):∃ (i:Nat) (d:i < b.ts.length),b.ts[i]=bN n b.ts/\(ct b n).ts=b.ts.set i { bN n b.ts with off:=true }/\BA (fun t:aL=>t.no==n) (ct b n).ts=i:=by
 obtain ⟨o,p,h3⟩:=AV h;obtain ⟨i,d,c,e⟩:=xB p;have a:bN n b.ts=b.ts[i]:=by simp [bN,c,d]
 have f:(ct b n).ts=b.ts.set i { bN n b.ts with off:=true }:=by simp [ct,h,Vj,a,c]
 refine ⟨i,d,a.symm,f,?_⟩;have l:b.ts[i].no=n:=by simp only [onB,cU,eH] at e;exact e.1
 have k:=qo.1 (cy.1 o).tpw;rw [f];refine um (by rw [length_set];exact d) (fun j m g=>?_) ?_
 ·rw [length_set] at m;rw [getElem_set,ak ah];have:=k j i m d g;simp only [beq_eq_false_iff_ne];omega
 ·rw [getElem_set,aq rfl];simp only [eH];rw [a];exact l
theorem ED (b:aI) (n q p:Int) (s:b.small) (v:b.qs.length < 2 ^ 28):Sq 329 [] [.agg b.cells,.I n,.I q,.I p] [] (.bT [.agg (pQ b n q p).cells,.I (Cs b n q p),.I (uk b n q p)]):=by
 have c1:=vR b n s v;have a:=Mn b n s;have c2:=wE (fun t:aL=>t.no==n) 362 n (Mt n) (ct b n).ts (by have:=a.1;omega);have c3:=wZ (ct b n) { bN n b.ts with aZ:=q,aH:=p,off:=true } a (UB b n);have m:gO (ct b n) { bN n b.ts with aZ:=q,aH:=p,off:=true }=gO (ct b n) { bN n b.ts with aZ:=q,aH:=p }:=rfl;have e2:oL (ct b n) { bN n b.ts with aZ:=q,aH:=p,off:=true }=oL (ct b n) { bN n b.ts with aZ:=q,aH:=p }:=rfl;have o:jf (ct b n) { bN n b.ts with aZ:=q,aH:=p,off:=true }=jf (ct b n) { bN n b.ts with aZ:=q,aH:=p }:=rfl;rw [m,e2,o] at c3;clear m e2 o;have k:=a.1;have f:=@UC b n;simp only [uk,pQ,Cs];obtain ⟨B,h⟩:=aQ (ct b n);obtain ⟨T,r⟩:=aQ (bN n b.ts);rw [<- h,<- r] at c3;rw [<- h] at c1 c2 k;rw [<- h,<- r] at f |-;simp only [aI.cells,aL.cells] at c1 c2 c3 |-;refine bf 43 4 [.cell 8 32,.tmp 9,.tmp 10] mixed func329 ?_;by_cases e:fY b n=0
 case neg =>
  have d:(fY b n==0)=false:=by simpa using e
  rw [ak e,ak e,ak e];refine sc aJ c1 ?_;simp only [go_sem,seval,bne,d];all_goals simp
 obtain ⟨i,u,hti,g,w⟩:=f e;have hi2:i < B.ts.length:=by rw [g,length_set];exact u
 have l:=aV (c:=aL.cells) B.ts hi2;have j:B.ts[i]={ T with off:=true }:=by simp [g]
 rw [j] at l;rw [w] at c2;have hli:(i:Int) < (B.ts.length:Int):=ah
 simp only [aL.cells] at l;rw [e] at c1 |-;refine sc aJ c1 ?_;refine sl aJ c2 ?_;exact jW l c3
theorem PD (ps:List fG) (w a u:Int) (b:ps.length < 2 ^ 29):Sq 283 [] [.sl 3 (pl ps),.I w,.I a,.I u] [] (.bT [.sl 3 (pl (eP ps w a u)),.I (fP ps w a u)]):=by
 refine Spec.frozen (Ry ps w a u b) [0] rfl ?_;intro r;rcases r with _ | r<;>rfl
theorem ID (s:af) (rn H:Int) (c:aN) (K:c.kind=6\/c.kind=7) (hr:s.right) (u:s.small):∃ Q,Sq 189 [.box (tC s rn H)] [.addr 0 0,.agg c.cells] [.box (tC Q rn H)] (.I (oq s c (ng c)).2)/\((oq s c (ng c)).2=0->Q=(oq s c (ng c)).1):=by
 have i:=hr.lens;have B:s.calls.length < 2 ^ 29:=by have:=i.calls;omega
 have D:s.ps.length < 2 ^ 29:=by have:=i.ps;omega
 have c1:=cw s.aj c.who u.aj.small;have c2:Sq 252 [] [.agg s.aj.cells,.I c.no] [] (.bT [.agg (oQ s.aj c.no).cells,.bool (UU s.aj c.no)]):=kU s.aj c.no u.aj.small;have c3:=qD s rn H c.who u.aj.small;have c4:=PD s.ps c.who c.no (ng c) D
 have r:=uR { s with ps:=eP s.ps c.who c.no (ng c) } rn H c.who (oQ s.aj c.no).b ⟨u.aj.small,u.book,u.bu,by
  unfold eP;split
  ·have:=Wn c.who c.no (jH c.who c.no s.ps+ng c) s.ps;show (Ue c.who c.no (jH c.who c.no s.ps+ng c) s.ps).length < _;omega
  ·simp⟩ (by show s.calls.length < _;omega) hr.calls
 have t:=L6 (oQ s.aj c.no) c.aZ;have y:=Ar s.calls ⟨c.who,(oQ s.aj c.no).b,(oQ s.aj c.no).V c.aZ⟩ B;have j:c.kind=6->ng c=c.aZ:=fun h=>by simp [ng,h]
 have k:c.kind=7->ng c = -c.aZ:=fun h=>by simp [ng,h]
 obtain ⟨R,e⟩:=aQ (oq s c (ng c));rw [<- e];simp only [oq] at e;have G:HE s.aj c.who=if gF s.aj c.who then (if (fU s.aj c.who).state=1 then 0 else 14) else 10:=rfl;obtain ⟨n,o⟩:=aQ (ng c);rw [<- o] at e c4 r j k;obtain ⟨m,P⟩:=aQ (fU s.aj c.who);obtain ⟨a,O⟩:=aQ (oQ s.aj c.no);rw [<- P] at c1 e G;rw [<- O] at c2 r t y e;obtain ⟨T,C⟩:∃ m,m=gF s.aj c.who:=⟨_,rfl⟩
 obtain ⟨S,z⟩:∃ m,m=UU s.aj c.no:=⟨_,rfl⟩
 rw [<- C] at c1 e G;rw [<- z] at c2 e;rw [G] at c3;obtain ⟨N,A⟩:=aQ (fP s.ps c.who c.no n);obtain ⟨F,l⟩:=aQ (eP s.ps c.who c.no n);rw [<- A] at c4 e;rw [<- l] at c4 r e;clear o P O C z G A l i B D;obtain ⟨cli,sq,kind,who,oth,no,inst,cur,aZ,aH,br,s0,s1,s2,s3,s4,s5⟩:=c;dsimp only at K e c1 c2 c3 c4 r t y j k;simp only [az.cells,au.cells,ay.cells] at c1 c2;simp only [ay.cells] at t;simp only [aE.cells] at y;simp only [aN.cells];by_cases L:aZ < 1
 ·have d:decide (aZ < 1)=true:=dI L;have e:R=(s,3):=by rw [e,ak];simp [within];omega
  refine ⟨s,?_,fun h=>by rw [e] at h;cases h⟩;rw [e];simp only [tC];refine bf 121 2 [.tmp 4] mixed func189 ?_;refine sm d ?_;all_goals (with_reducible and_intros)<;>first|exact .dq|omega|skip
  all_goals simp
 have f:decide (aZ < 1)=false:=eJ L;by_cases M:1099511627776 < aZ
 ·have d:decide (1099511627776 < aZ)=true:=dI M;have e:R=(s,3):=by rw [e,ak];simp [within];omega
  refine ⟨s,?_,fun h=>by rw [e] at h;cases h⟩;rw [e];simp only [tC];refine bf 121 2 [.tmp 4] mixed func189 ?_;refine sm (a2 f d) ?_;all_goals (with_reducible and_intros)<;>first|exact .dq|omega|skip
  all_goals simp
 have g:decide (1099511627776 < aZ)=false:=eJ M;rw [aq (by simp [within];omega)] at e;cases p:T
 ·rw [p] at e c1;have e:R=(s,10):=by rw [e];rfl
  refine ⟨s,?_,fun h=>by rw [e] at h;cases h⟩;rw [e];simp only [tC];refine bf 121 2 [.tmp 4] mixed func189 ?_;refine sc (a2 f g) c1 ?_;first
   | exact jW aJ c2
   | (refine sc aJ c2 ?_
      refine s0 ?_
      all_goals simp)
 cases v:S
 ·rw [p,v] at e;rw [p] at c1;rw [v] at c2;have e:R=(s,10):=by rw [e];rfl
  refine ⟨s,?_,fun h=>by rw [e] at h;cases h⟩;rw [e];simp only [tC];refine bf 121 2 [.tmp 4] mixed func189 ?_;refine sc (a2 f g) c1 ?_;first
   | exact jW aJ c2
   | (refine sc aJ c2 ?_
      refine s0 ?_
      all_goals simp)
 rw [p,v] at e;rw [p] at c1 c3;rw [v] at c2;simp only [Bool.and_self,if_true] at e c3;clear p v L M;by_cases J:m.state=1
 case neg =>
  rw [ak J] at e c3;refine ⟨s,?_,fun h=>by rw [e] at h;cases h⟩;rw [e];simp only [tC] at c3 |-;refine bf 121 2 [.tmp 4] mixed func189 ?_;refine sc (a2 f g) c1 ?_;refine sc aJ c2 ?_;first
   | exact Hv [0] aJ c3
   | (refine sg [0] aJ c3 ?_
      simp only [go_sem,seval,bne]
      all_goals simp)
 rw [aq J] at e c3;clear J;by_cases q:N=0
 case neg =>
  have d:(N==0)=false:=by simpa using q
  rw [ak q] at e;refine ⟨{ s with ps:=F },?_,fun h=>by rw [e] at h;exact absurd h q⟩;rw [e];simp only [tC] at c3 |-;rcases K with rfl | rfl
  ·rw [j rfl] at c4;refine bf 121 2 [.tmp 4] mixed func189 ?_;refine sc (a2 f g) c1 ?_;refine sc aJ c2 ?_;refine sg [0] aJ c3 ?_;refine sc aJ c4 ?_;simp only [go_sem,seval,bne,d];all_goals (with_reducible and_intros)<;>first|exact .dq|omega|skip
   all_goals simp
  ·rw [k rfl] at c4;have w:IntKind.wrap .i64 (0-aZ) = -aZ:=by rw [gA (by simp at f g;omega) (by simp at f g;omega)];omega
   refine bf 121 2 [.tmp 4] mixed func189 ?_;refine sc (a2 f g) c1 ?_;refine sc aJ c2 ?_;refine sg [0] aJ c3 ?_;refine sc w c4 ?_;simp only [go_sem,seval,bne,d];all_goals (with_reducible and_intros)<;>first|exact .dq|omega|skip
   all_goals simp
 rw [aq q] at e;rw [q] at c4;clear q;rcases K with rfl | rfl
 ·have o:=j rfl;rw [o,ak (by simp at f;omega)] at e;rw [o] at c4;by_cases x:a.E aZ=0
  case neg =>
   have d:(a.E aZ==0)=false:=by simpa using x
   rw [ak x] at e;refine ⟨{ s with ps:=F },?_,fun h=>by rw [e] at h;exact absurd h x⟩;rw [e];simp only [tC] at c3 |-;refine bf 121 2 [.tmp 4] mixed func189 ?_;refine sc (a2 f g) c1 ?_;refine sc aJ c2 ?_;refine sg [0] aJ c3 ?_;refine sc aJ c4 ?_;refine sc aJ t ?_;simp only [go_sem,seval,bne,d];all_goals (with_reducible and_intros)<;>first|exact .dq|omega|skip
   all_goals simp
  rw [aq x] at e;rw [x] at t;refine ⟨{ s with ps:=F,calls:=AD s.calls ⟨who,a.b,a.V aZ⟩ },?_,fun h=>by rw [e]⟩;rw [e];simp only [tC] at c3 |-;refine bf 121 2 [.tmp 4] mixed func189 ?_;refine sc (a2 f g) c1 ?_;refine sc aJ c2 ?_;refine sg [0] aJ c3 ?_;refine sc aJ c4 ?_;refine sc aJ t ?_;first
   | exact jW aJ y
   | (refine sc aJ y ?_
      refine s0 ?_
      all_goals simp)
 ·have o:=k rfl;rw [o,aq (by simp at f;omega)] at e;rw [o] at c4;have w:IntKind.wrap .i64 (0-aZ) = -aZ:=by rw [gA (by simp at f g;omega) (by simp at f g;omega)];omega
  refine ⟨{ s with ps:=F },?_,fun h=>by rw [e]⟩;rw [e];simp only [tC] at c3 r |-;refine bf 121 2 [.tmp 4] mixed func189 ?_;refine sc (a2 f g) c1 ?_;refine sc aJ c2 ?_;refine sg [0] aJ c3 ?_;refine sc w c4 ?_;exact Hv [0] aJ r
theorem Q7 (n:Int) (f:aN) (t:aL) (h:f.no=n):Sq 327 [] [.agg t.cells,.bq f.cells] [] (.bool (onB n t)):=by
 subst h;simp only [aL.cells,aN.cells,onB];refine bf 14 2 [.tmp 3] mixed func327 ?_;cases q:t.no==f.no<;>simp only [go_sem,seval,q]<;>simp
theorem GO (c:aN) (cs:List aL) (e:cs.length < 2 ^ 60):Sq 326 [] [.sl 7 (cs.map aL.cells),.fn 327 [.bq c.cells]] [] (.I (BA (onB c.no) cs)):=by
 have k:=fun x=>Q7 c.no c x rfl;obtain ⟨p,n⟩:=aQ (onB c.no);rw [<- n] at k |-;clear n;simp only [aN.cells] at k |-;refine bf 19 2 [.tmp 4] mixed func326 ?_;refine s0 ?_;refine aM.w1 cs.length 8 [0,1,7] [] (fun i _=>∀ j (a:j < cs.length),j < i->p cs[j]=false) (by intros;omega) ?_ ?_
 ·intro i _ l f o b;have m:=aV (c:=aL.cells) cs l;have hli:(i:Int) < (cs.length:Int):=ah
  have e:=k cs[i];simp only [aL.cells] at m e;refine sc (a2 f m) e ?_;cases d:p cs[i]
  ·refine sm (a2 d o) ?_;refine av.u l ?_ ?_
   ·intro j a hji;rcases bZ j i with h | h
    ·exact b j a h
    ·obtain rfl:j=i:=ah
     exact d
   ·exact gU
  ·simp only [go_sem,seval,d,um l b d]
 ·intro _ g b;simp only [go_sem,seval,g,uo fun j a=>b j a a]
theorem IF (s:af) (rn J:Int) (c:aN) (j:c.kind=11\/c.kind=12) (hr:s.right) (G:s.small) (O:rn=0):∃ N M,Sq 287 [.box (tC s rn J)] [.addr 0 0,.agg c.cells] [.box (tC N M J)] (.I (nD s c).2.2)/\((nD s c).2.2=0->N=(nD s c).1/\M=(nD s c).2.1):=by
 have e:=hr.lens;have z:s.book.ts.length < 2 ^ 60:=by have:=e.ts;omega
 have F:s.book.qs.length < 2 ^ 28:=by have:=e.qs;omega
 have c1:=GO c s.book.ts z;rw [F8] at c1;have A:=fun w=>qD s rn J w G.aj.small;have o:=vR s.book c.no G.book F;have p:=ED s.book c.no c.aZ c.aH G.book F;obtain ⟨R,a⟩:=aQ (nD s c);rw [<- a];have D:¬ c.kind=10:=ah
 have E:¬ c.kind=13:=ah
 simp only [nD,ak D,ak E] at a;by_cases m:lR c.no s.book.ts < 0
 ·have d:decide (lR c.no s.book.ts < 0)=true:=dI m;rw [aq m] at a;refine ⟨s,rn,?_,fun h=>by rw [a] at h;cases h⟩;rw [a];simp only [aN.cells] at c1 |-;simp only [tC];refine bf 87 2 [.tmp 4] mixed func287 ?_;refine s0 ?_;refine aD.iT [64] [] false (by simp) ?_;refine s0 ?_;refine cY.gB c1 ?_;refine sm d ?_;all_goals (with_reducible and_intros)<;>first|exact .dq|omega|skip
  all_goals simp
 have q:decide (lR c.no s.book.ts < 0)=false:=eJ m;rw [ak m] at a;obtain ⟨i,L,k,x⟩:=xB m;have f:=aV (c:=aL.cells) s.book.ts L;have y:bN c.no s.book.ts=s.book.ts[i]:=by simp [bN,k,L]
 have hli:(i:Int) < (s.book.ts.length:Int):=ah
 rw [y] at a;obtain ⟨t,P⟩:=aQ (s.book.ts[i]);rw [<- P] at f a;have b:=A t.jK;have g:=A t.gK;obtain ⟨K,u⟩:=aQ (HE s.aj t.jK);obtain ⟨e2,v⟩:=aQ (HE s.aj t.gK);rw [<- u] at b a;rw [<- v] at g a;rw [k] at c1 q;simp only [aL.cells] at f;clear A u v y z F e k;by_cases l:K=0
 case neg =>
  have d:(K==0)=false:=by simpa using l
  rw [ak (fun h=>l h.1)] at a;refine ⟨s,rn,?_,fun h=>by rw [a] at h;cases h⟩;rw [a];simp only [aN.cells] at c1 |-;simp only [tC] at b |-;refine bf 87 2 [.tmp 4] mixed func287 ?_;refine s0 ?_;refine aD.iT [64] [] false (by simp) ?_;refine s0 ?_;refine cY.gB c1 ?_;refine sg [0] (a3 q f (qn .. : (s.book.ts.map aL.cells).length=s.book.ts.length)) b ?_;simp only [go_sem,seval,bne,d];all_goals (with_reducible and_intros)<;>first|exact .dq|omega|skip
  all_goals simp
 by_cases n:e2=0
 case neg =>
  have d:(e2==0)=false:=by simpa using n
  rw [ak (fun h=>n h.2)] at a;rw [l] at b;refine ⟨s,rn,?_,fun h=>by rw [a] at h;cases h⟩;rw [a];simp only [aN.cells] at c1 |-;simp only [tC] at b g |-;refine bf 87 2 [.tmp 4] mixed func287 ?_;refine s0 ?_;refine aD.iT [64] [] false (by simp) ?_;refine s0 ?_;refine cY.gB c1 ?_;refine sg [0] (a3 q f (qn .. : (s.book.ts.map aL.cells).length=s.book.ts.length)) b ?_;refine sg [0] (a3 trivial f (qn .. : (s.book.ts.map aL.cells).length=s.book.ts.length)) g ?_;simp only [go_sem,seval,bne,d];all_goals (with_reducible and_intros)<;>first|exact .dq|omega|skip
  all_goals simp
 rw [aq ⟨l,n⟩] at a;rw [l] at b;rw [n] at g;clear l n;simp only [aI.cells] at o p;rcases j with j | j
 ·rw [aq j] at a;refine ⟨{ s with book:=ct s.book c.no },rn,?_,fun _=>by rw [a];exact ⟨rfl,O⟩⟩;rw [a];obtain ⟨C,Q,kind,who,H,no,inst,cur,aZ,aH,br,s0,s1,s2,s3,s4,s5⟩:=c;dsimp only at j c1 o x;subst j;obtain ⟨B,r⟩:=aQ (ct s.book no);rw [<- r] at o;simp only [<- r];simp only [aN.cells] at c1 |-;simp only [tC] at b g |-;refine bf 87 2 [.tmp 4] mixed func287 ?_;simp only [go_sem,seval];refine aD.iT [64] [] false (by simp) ?_;simp only [go_sem,seval];refine cY.gB c1 ?_;refine sg [0] (a3 q f (qn .. : (s.book.ts.map aL.cells).length=s.book.ts.length)) b ?_;refine sg [0] (a3 trivial f (qn .. : (s.book.ts.map aL.cells).length=s.book.ts.length)) g ?_;try simp only [go_sem,seval,bne]
  first
   | exact jW aJ o
   | (refine sc aJ o ?_
      refine s0 ?_
      all_goals simp)
 ·rw [ak ah] at a;refine ⟨{ s with book:=pQ s.book c.no c.aZ c.aH },Cs s.book c.no c.aZ c.aH,?_,fun _=>by rw [a];exact ⟨rfl,rfl⟩⟩;rw [a];obtain ⟨C,Q,kind,who,H,no,inst,cur,aZ,aH,br,s0,s1,s2,s3,s4,s5⟩:=c;dsimp only at j c1 p x;subst j;obtain ⟨B,r⟩:=aQ (pQ s.book no aZ aH);rw [<- r] at p;simp only [<- r];simp only [aN.cells] at c1 |-;simp only [tC] at b g |-;refine bf 87 2 [.tmp 4] mixed func287 ?_;simp only [go_sem,seval];refine aD.iT [64] [] false (by simp) ?_;simp only [go_sem,seval];refine cY.gB c1 ?_;refine sg [0] (a3 q f (qn .. : (s.book.ts.map aL.cells).length=s.book.ts.length)) b ?_;refine sg [0] (a3 trivial f (qn .. : (s.book.ts.map aL.cells).length=s.book.ts.length)) g ?_;try simp only [go_sem,seval,bne]
  first
   | exact jW aJ p
   | (refine sc aJ p ?_
      refine s0 ?_
      all_goals simp)
theorem L3 (s:af) (rn z:Int) (c:aN) (hk:c.kind=10\/c.kind=11\/c.kind=12\/c.kind=13) (hr:s.right) (q:s.small) (A:rn=0):∃ t r,Sq 191 [.box (tC s rn z)] [.addr 0 0,.agg c.cells] [.box (tC t r z)] (.I (if s.phase=0 then (nD s c).2.2 else 15))/\((if s.phase=0 then (nD s c).2.2 else 15)=0->t=(nD s c).1/\r=(nD s c).2.1):=by
 have E:s.book.qs.length < 2 ^ 28:=by have:=hr.lens.qs;omega
 by_cases k:s.phase=0
 case neg =>
  have d:(s.phase==0)=false:=by simpa using k
  rw [ak k];refine ⟨s,rn,?_,fun h=>by cases h⟩;simp only [tC,aN.cells];refine bf 79 2 [.tmp 4] mixed func191 ?_;simp only [go_sem,seval,bne,d];all_goals (with_reducible and_intros)<;>first|exact .dq|omega|skip
  all_goals simp
 have p:(s.phase != 0)=false:=by simpa using k
 rw [aq k];have l:=IF s rn z c;have c1:=IC s.aj (iA c) q.aj;have c2:=wZ s.book (iA c) q.book E;have c3:=M6 s.aj c.inst c.aH q.aj hr.aj;obtain ⟨R,b⟩:=aQ (nD s c);rw [<- b] at l |-;simp only [nD] at b;simp only [az.cells,iA,aL.cells] at c1;simp only [aI.cells,iA,aL.cells] at c2;simp only [az.cells] at c3;rw [show (⟨0,c.who,c.other,c.inst,c.aZ,c.aH,false⟩:aL)=iA c from rfl] at c1 c2;by_cases a:c.kind=10
 ·rw [aq a] at b;by_cases i:vL s.aj (iA c)=0
  case neg =>
   have d:(vL s.aj (iA c)==0)=false:=by simpa using i
   rw [ak i] at b;refine ⟨s,rn,?_,fun h=>by rw [b] at h;exact absurd h i⟩;rw [b];obtain ⟨e,f⟩:=aQ (vL s.aj (iA c));rw [<- f] at c1 d |-;clear l c2 c3 f i;obtain ⟨m,D,kind,who,o,no,inst,cur,aZ,aH,br,s0,s1,s2,s3,s4,s5⟩:=c;dsimp only at a c1;subst a;simp only [tC,aN.cells];refine bf 79 2 [.tmp 4] mixed func191 ?_;refine sc p c1 ?_;refine sm d ?_;all_goals (with_reducible and_intros)<;>first|exact .dq|omega|skip
   all_goals simp
  rw [aq i] at b;rw [i] at c1;refine ⟨{ s with book:=jf s.book (iA c) },oL s.book (iA c),?_,fun h=>by rw [b];exact ⟨rfl,rfl⟩⟩;rw [b];obtain ⟨e,f⟩:=aQ (gO s.book (iA c));obtain ⟨B,j⟩:=aQ (jf s.book (iA c));obtain ⟨n,y⟩:=aQ (oL s.book (iA c));rw [<- f,<- j,<- y] at c2;simp only [<- f,<- j,<- y];clear l c3 f j y i;obtain ⟨m,D,kind,who,o,no,inst,cur,aZ,aH,br,s0,s1,s2,s3,s4,s5⟩:=c;dsimp only at a c1 c2;subst a;simp only [tC,aN.cells];refine bf 79 2 [.tmp 4] mixed func191 ?_;refine sc p c1 ?_;first
   | exact jW aJ c2
   | (refine sc aJ c2 ?_
      refine s0 ?_
      all_goals simp)
 rw [ak a] at b;by_cases g:c.kind=13
 ·rw [aq g] at b;refine ⟨{ s with aj:=oB s.aj c.inst c.aH },rn,?_,fun h=>by rw [b];exact ⟨rfl,A⟩⟩;rw [b];obtain ⟨e,f⟩:=aQ (wD s.aj c.inst c.aH);obtain ⟨B,j⟩:=aQ (oB s.aj c.inst c.aH);rw [<- f,<- j] at c3;simp only [<- f,<- j];clear l c1 c2 f j;obtain ⟨m,D,kind,who,o,no,inst,cur,aZ,aH,br,s0,s1,s2,s3,s4,s5⟩:=c;dsimp only at g c3;subst g;simp only [tC,aN.cells];refine bf 79 2 [.tmp 4] mixed func191 ?_;first
   | exact jW p c3
   | (refine sc p c3 ?_
      refine s0 ?_
      all_goals simp)
 obtain ⟨t,r,u,C⟩:=l ah hr q A;refine ⟨t,r,?_,C⟩;have w:(c.kind==10)=false:=by simpa using a
 have x:(c.kind==13)=false:=by simpa using g
 clear C b c1 c2 c3;simp only [tC,aN.cells] at u |-;refine bf 79 2 [.tmp 4] mixed func191 ?_;have v:(s.phase==0)=true:=by simpa using k
 simp only [go_sem,seval,bne,v,w,x];first
  | exact Hv [0] aJ u
  | (refine sg [0] aJ u ?_
     refine s0 ?_
     all_goals simp)
theorem Q6 (s:af) (rn w:Int) (c:aN) (hr:s.right) (z:s.small):Sq 192 [.box (tC s rn w)] [.addr 0 0,.agg c.cells] [.box (tC (uW s c).1 rn w)] (.I (uW s c).2):=by
 have hbl:=hr.lens.bH;have c1:=cw s.aj c.who z.aj.small;have c2:=cw s.aj c.other z.aj.small;have c3:=gq s.aj c.inst z.aj.small;obtain ⟨R,a⟩:=aQ (uW s c);rw [<- a];simp only [uW] at a;obtain ⟨A,n⟩:∃ m,m=fU s.aj c.who:=⟨_,rfl⟩
 obtain ⟨B,o⟩:∃ m,m=fU s.aj c.other:=⟨_,rfl⟩
 obtain ⟨M,hi1⟩:∃ m,m=gF s.aj c.who:=⟨_,rfl⟩
 obtain ⟨N,hi2⟩:∃ m,m=gF s.aj c.other:=⟨_,rfl⟩
 obtain ⟨O,Wx⟩:∃ m,m=bJ s.aj c.inst:=⟨_,rfl⟩
 rw [<- n,<- hi1] at c1;rw [<- o,<- hi2] at c2;rw [<- Wx] at c3;rw [<- n,<- o,<- hi1,<- hi2,<- Wx] at a;clear n o hi1 hi2 Wx;obtain ⟨x,P,kind,who,e,no,inst,cur,aZ,aH,br,s0,s1,s2,s3,s4,s5⟩:=c;dsimp only at a c1 c2 c3;simp only [az.cells,au.cells,aC.cells] at c1 c2 c3;simp only [aN.cells];have bad:(within aZ 1 1048576&&within aH 1 1073741824)=false->R=(s,3):=fun h=>by rw [a,h];rfl
 by_cases C:aZ < 1
 ·have d:decide (aZ < 1)=true:=dI C;rw [bad (by simp [within];omega)];simp only [tC];refine bf 121 2 [.tmp 4] mixed func192 ?_;refine sm d ?_;all_goals (with_reducible and_intros)<;>first|exact .dq|omega|skip
  all_goals simp
 have b:decide (aZ < 1)=false:=eJ C;by_cases D:1048576 < aZ
 ·have d:decide (1048576 < aZ)=true:=dI D;rw [bad (by simp [within];omega)];simp only [tC];refine bf 121 2 [.tmp 4] mixed func192 ?_;refine sm (a2 b d) ?_;all_goals (with_reducible and_intros)<;>first|exact .dq|omega|skip
  all_goals simp
 have f:decide (1048576 < aZ)=false:=eJ D;by_cases E:aH < 1
 ·have d:decide (aH < 1)=true:=dI E;rw [bad (by simp [within];omega)];simp only [tC];refine bf 121 2 [.tmp 4] mixed func192 ?_;refine sm (a3 b f d) ?_;all_goals (with_reducible and_intros)<;>first|exact .dq|omega|skip
  all_goals simp
 have g:decide (aH < 1)=false:=eJ E;by_cases F:1073741824 < aH
 ·have d:decide (1073741824 < aH)=true:=dI F;rw [bad (by simp [within];omega)];simp only [tC];refine bf 121 2 [.tmp 4] mixed func192 ?_;refine sm (a4 b f g d) ?_;all_goals (with_reducible and_intros)<;>first|exact .dq|omega|skip
  all_goals simp
 have k:decide (1073741824 < aH)=false:=eJ F;rw [aq (by simp [within];omega)] at a;clear bad C D E F;cases j:M
 ·rw [j] at a c1;have a:R=(s,10):=by rw [a];rfl
  rw [a];simp only [tC];refine bf 121 2 [.tmp 4] mixed func192 ?_;refine sc (a4 b f g k) c1 ?_;refine sc aJ c2 ?_;first
   | exact jW aJ c3
   | (refine sc aJ c3 ?_
      refine s0 ?_
      all_goals simp)
 cases l:N
 ·rw [j] at c1;rw [j,l] at a;rw [l] at c2;have a:R=(s,10):=by rw [a];rfl
  rw [a];simp only [tC];refine bf 121 2 [.tmp 4] mixed func192 ?_;refine sc (a4 b f g k) c1 ?_;refine sc aJ c2 ?_;first
   | exact jW aJ c3
   | (refine sc aJ c3 ?_
      refine s0 ?_
      all_goals simp)
 cases p:O
 ·rw [j] at c1;rw [l] at c2;rw [j,l,p] at a;rw [p] at c3;have a:R=(s,10):=by rw [a];rfl
  rw [a];simp only [tC];refine bf 121 2 [.tmp 4] mixed func192 ?_;refine sc (a4 b f g k) c1 ?_;refine sc aJ c2 ?_;first
   | exact jW aJ c3
   | (refine sc aJ c3 ?_
      refine s0 ?_
      all_goals simp)
 rw [j] at c1;rw [l] at c2;rw [p] at c3;rw [j,l,p] at a;simp only [Bool.and_self,if_true] at a;clear j l p;by_cases t:who=e
 ·have d:(who==e)=true:=by simpa using t
  rw [aq t] at a;rw [a];simp only [tC];refine bf 121 2 [.tmp 4] mixed func192 ?_;refine sc (a4 b f g k) c1 ?_;refine sc aJ c2 ?_;refine sc aJ c3 ?_;refine sm d ?_;all_goals (with_reducible and_intros)<;>first|exact .dq|omega|skip
  all_goals simp
 have q:(who==e)=false:=by simpa using t
 rw [ak t] at a;by_cases u:A.state=2
 case neg =>
  have d:(A.state==2)=false:=by simpa using u
  rw [ak (fun h=>u h.1)] at a;rw [a];simp only [tC];refine bf 121 2 [.tmp 4] mixed func192 ?_;refine sc (a4 b f g k) c1 ?_;refine sc aJ c2 ?_;refine sc aJ c3 ?_;simp only [go_sem,seval,bne,q,d];all_goals (with_reducible and_intros)<;>first|exact .dq|omega|skip
  all_goals simp
 have y:(A.state==2)=true:=by simpa using u
 by_cases v:B.state=1
 case neg =>
  have d:(B.state==1)=false:=by simpa using v
  rw [ak (fun h=>v h.2)] at a;rw [a];simp only [tC];refine bf 121 2 [.tmp 4] mixed func192 ?_;refine sc (a4 b f g k) c1 ?_;refine sc aJ c2 ?_;refine sc aJ c3 ?_;simp only [go_sem,seval,bne,q,y,d];all_goals (with_reducible and_intros)<;>first|exact .dq|omega|skip
  all_goals simp
 have G:(B.state==1)=true:=by simpa using v
 rw [aq ⟨u,v⟩] at a;by_cases H:32<=s.bH.length
 ·have d:decide ((32:Int)<=(s.bH.length:Int))=true:=iC;rw [aq H] at a;rw [a];simp only [tC];refine bf 121 2 [.tmp 4] mixed func192 ?_;refine sc (a4 b f g k) c1 ?_;refine sc aJ c2 ?_;refine sc aJ c3 ?_;simp only [go_sem,seval,bne,q,y,G,d];all_goals (with_reducible and_intros)<;>first|exact .dq|omega|skip
  all_goals simp
 have J:decide ((32:Int)<=(s.bH.length:Int))=false:=jL;rw [ak H] at a;rw [a];have h:Sq 192 [.box (tC s rn w)] [.addr 0 0,.agg [.I x,.I P,.I kind,.I who,.I e,.I no,.I inst,.I cur,.I aZ,.I aH,.I br,.I s0,.I s1,.I s2,.I s3,.I s4,.I s5]]
   [.box (s.aa0 1++[.I 0,.I rn,.I w,.nil,.nil]),.own 5 ((s.bH++[(⟨who,inst,e,aZ,aH⟩:bB)]).map bB.cells)] (.I 0):=by
  simp only [tC,af.aa0,cons_append,nil_append];refine bf 121 2 [.tmp 4] mixed func192 ?_;refine sc (a4 b f g k) c1 ?_;refine sc aJ c2 ?_;refine sc aJ c3 ?_;simp only [go_sem,seval,bne,q,y,G,J];refine dP ?_;all_goals simp
 refine Spec.Dt h 1 (by simp) rfl ?_ ?_
 ·intro r;rcases r with _ | _ | r<;>rfl
 ·intro i K L;obtain rfl:i=0:=by simpa using K
  cases L
theorem Q5 (s:af) (c:aN) (g:c.kind=21\/c.kind=22) (v:s.small):∃ a,Sq 195 [.box (tC s 0 0)] [.addr 0 0,.agg c.cells] [.box (tC s 0 a)] (.I (dw s c).2.1)/\((dw s c).2.1=0->dw s c=(s,0,0,a,[],[])):=by
 obtain ⟨R,f⟩:=aQ (dw s c);rw [<- f];have c1:=gW ⟨c.no,c.who,c.cur⟩;have c2:=oT s.bu ⟨c.no,c.who,c.cur⟩ (by have:=v.bu;omega);have c3:=GS s.book c.who c.inst v.book;obtain ⟨p,m⟩:=aQ (posOf c.who c.inst s.book.qs);obtain ⟨n,l⟩:=aQ (jo ⟨c.no,c.who,c.cur⟩ s.bu.bs);simp only [aP.cells] at c1;simp only [aP.cells,bE.cells] at c2;rw [<- l] at c2;rw [<- m] at c3;simp only [aI.cells,aF.cells] at c3;rcases g with g | g
 ·have f:R=if aP.right ⟨c.no,c.who,c.cur⟩ then (s,0,0,n,[],[]) else (s,3,0,0,[],[]):=by rw [f,l];simp [dw,g]
  obtain ⟨b,u⟩:=aQ (aP.right ⟨c.no,c.who,c.cur⟩);rw [<- u] at f c1;clear m l u c3;obtain ⟨o,A,kind,who,r,no,inst,cur,aZ,aH,br,s0,s1,s2,s3,s4,s5⟩:=c;dsimp only at g c1 c2;subst g;simp only [aN.cells];cases b
  ·refine ⟨0,?_,fun h=>by rw [f] at h;cases h⟩;rw [f];simp only [tC];refine bf 66 2 [.tmp 4] mixed func195 ?_;first
    | exact jW aJ c1
    | (refine sc aJ c1 ?_
       refine s0 ?_
       all_goals simp)
  ·refine ⟨n,?_,fun _=>f⟩;rw [f];simp only [tC];refine bf 66 2 [.tmp 4] mixed func195 ?_;refine sc aJ c1 ?_;first
    | exact jW aJ c2
    | (refine sc aJ c2 ?_
       refine s0 ?_
       all_goals simp)
 ·have f:R=if rN c.who c.inst then (s,0,0,p.aZ,[],[]) else (s,3,0,0,[],[]):=by rw [f,m];simp [dw,g]
  have j:rN c.who c.inst=(within c.who 1 16&&within c.inst 1 8):=rfl;rw [j] at f;clear m l c1 c2 j;obtain ⟨o,A,kind,who,r,no,inst,cur,aZ,aH,br,s0,s1,s2,s3,s4,s5⟩:=c;dsimp only at g c3 f;subst g;simp only [aN.cells];have bad:(within who 1 16&&within inst 1 8)=false->R=(s,3,0,0,[],[]):=fun h=>by rw [f,h];rfl
  by_cases w:who < 1
  ·have d:decide (who < 1)=true:=dI w;have e:=bad (by simp [within];omega);refine ⟨0,?_,fun h=>by rw [e] at h;cases h⟩;rw [e];simp only [tC];refine bf 66 2 [.tmp 4] mixed func195 ?_;refine sm d ?_;all_goals (with_reducible and_intros)<;>first|exact .dq|omega|skip
   all_goals simp
  have i:decide (who < 1)=false:=eJ w;by_cases x:16 < who
  ·have d:decide (16 < who)=true:=dI x;have e:=bad (by simp [within];omega);refine ⟨0,?_,fun h=>by rw [e] at h;cases h⟩;rw [e];simp only [tC];refine bf 66 2 [.tmp 4] mixed func195 ?_;refine sm (a2 i d) ?_;all_goals (with_reducible and_intros)<;>first|exact .dq|omega|skip
   all_goals simp
  have k:decide (16 < who)=false:=eJ x;by_cases y:inst < 1
  ·have d:decide (inst < 1)=true:=dI y;have e:=bad (by simp [within];omega);refine ⟨0,?_,fun h=>by rw [e] at h;cases h⟩;rw [e];simp only [tC];refine bf 66 2 [.tmp 4] mixed func195 ?_;refine sm (a3 i k d) ?_;all_goals (with_reducible and_intros)<;>first|exact .dq|omega|skip
   all_goals simp
  have q:decide (inst < 1)=false:=eJ y;by_cases z:8 < inst
  ·have d:decide (8 < inst)=true:=dI z;have e:=bad (by simp [within];omega);refine ⟨0,?_,fun h=>by rw [e] at h;cases h⟩;rw [e];simp only [tC];refine bf 66 2 [.tmp 4] mixed func195 ?_;refine sm (a4 i k q d) ?_;all_goals (with_reducible and_intros)<;>first|exact .dq|omega|skip
   all_goals simp
  have t:decide (8 < inst)=false:=eJ z;rw [aq (by simp [within];omega)] at f;refine ⟨p.aZ,?_,fun _=>f⟩;rw [f];simp only [tC];refine bf 66 2 [.tmp 4] mixed func195 ?_;first
   | exact jW (a4 i k q t) c3
   | (refine sc (a4 i k q t) c3 ?_
      refine s0 ?_
      all_goals simp)
@[reducible] def tR (s:af) (r:aT):List D:=[.I s.now,.I s.day,.I s.phase,.sl 3 (s.aj.ms.map au.cells),.sl 12 (s.aj.ns.map aC.cells),.sl 4 (s.aj.xs.map ay.cells),.I s.book.next,.sl 7 (s.book.ts.map aL.cells),.sl 4 (s.book.qs.map aF.cells),
 .I s.bu.last,.sl 4 (s.bu.bs.map cq.cells),.sl 3 (pl s.ps),.sl 4 (s.calls.map aB.cells),.sl 5 (s.bH.map bB.cells),.sl 7 (s.aA.map aO.cells),.I r.code,.I r.no,.I r.br,.sl 3 (r.xy.map aE.cells),.sl 8 (r.falls.map dQ.cells)]
@[reducible] def tD2 (s:af) (r:Nat):List D:=[.I s.now,.I s.day,.I s.phase,.sl 3 (s.aj.ms.map au.cells),.sl 12 (s.aj.ns.map aC.cells),.sl 4 (s.aj.xs.map ay.cells),.I s.book.next,.sl 7 (s.book.ts.map aL.cells),.sl 4 (s.book.qs.map aF.cells),
 .I s.bu.last,.sl 4 (s.bu.bs.map cq.cells),.sl 3 (pl s.ps),.sl 4 (s.calls.map aB.cells),.sl 5 (s.bH.map bB.cells),.sl 7 (s.aA.map aO.cells),.I 0,.I 0,.I 0,.ref r,.sl 8 []]
def W8 (r:az):Nat->Nat->bE->List aE->bE × List aE × Int
 | 0,_,l,ds=>(l,ds,0)
 | m+1,c,l,ds =>
  if gQ l r c=0 then
   (if dS l r c=[] then W8 r m (c+1) l (ds++pL l r c)
   else if gf l (nextId l) (dS l r c)=0 then W8 r m (c+1) (kR l (nextId l) (dS l r c)) (ds++pL l r c) else (kR l (nextId l) (dS l r c),ds,gf l (nextId l) (dS l r c)))
  else (l,ds,gQ l r c)
theorem VE:∀ (m c:Nat) (s:af) (ds:List aE),(W8 s.aj m c s.bu ds).2.2=(nB m c s ds).2.2/\((nB m c s ds).2.2=0->(nB m c s ds).1={ s with bu:=(W8 s.aj m c s.bu ds).1 }/\(nB m c s ds).2.1=(W8 s.aj m c s.bu ds).2.1)
 | 0,_,_,_=>⟨rfl,fun _=>⟨rfl,rfl⟩⟩
 | m+1,c,s,ds=>by
  simp only [W8,nB];by_cases a:gQ s.bu s.aj c=0
  case neg =>
   have e:wN s c=(s,gQ s.bu s.aj c):=by rw [wN,ak fun h=>a h.1]
   rw [e,ak a,ak a];exact ⟨rfl,fun h=>absurd h a⟩
  by_cases f:dS s.bu s.aj c=[]
  ·have e:wN s c=(s,0):=by rw [wN,ak fun h=>h.2 f,a]
   rw [e,aq a,aq f,aq rfl];exact VE m (c+1) s _
  ·have e:wN s c=(sF s (dS s.bu s.aj c),qz s (dS s.bu s.aj c)):=by rw [wN,aq ⟨a,f⟩]
   rw [e,aq a,ak f];by_cases d:qz s (dS s.bu s.aj c)=0
   ·have b:gf s.bu (nextId s.bu) (dS s.bu s.aj c)=0:=d;rw [aq d,aq b];have e2:sF s (dS s.bu s.aj c)={ s with bu:=kR s.bu (nextId s.bu) (dS s.bu s.aj c) }:=by rw [sF,aq d]
    rw [e2];exact VE m (c+1) { s with bu:=kR s.bu (nextId s.bu) (dS s.bu s.aj c) } _
   ·have b:¬ gf s.bu (nextId s.bu) (dS s.bu s.aj c)=0:=d;rw [ak d,ak b];exact ⟨rfl,fun h=>absurd h d⟩
theorem L2 (s:af) (hr:s.right) (L:s.small):Sq 194 [.box (tC s 0 0)] [.addr 0 0] [.box (tD2 { s with bu:=(W8 s.aj 3 0 s.bu []).1 } 1),.own 3 ((W8 s.aj 3 0 s.bu []).2.1.map aE.cells)] (.I (W8 s.aj 3 0 s.bu []).2.2):=by
 have y:s.bu.bs.length < 2 ^ 28:=by have:=hr.lens.bs;omega
 have hms:=hr.lens.ms;have u:=fun l c (h:length (bE.bs l) < 2 ^ 28)=>Ij l s.aj c ah L.aj ah;have v:=fun l ds g (H:length (bE.bs l) < 2 ^ 28) (J:length g < 2 ^ 28)=>L0 { s with bu:=l } ds g H J;obtain ⟨R,D⟩:=aQ (W8 s.aj 3 0 s.bu []);rw [<- D];simp only [bE.cells,az.cells] at u;simp only [tD,sV,qz] at v;simp only [tC,tD2];refine bf 51 1 [.tmp 2] mixed func194 ?_;refine s0 ?_
 refine aM.uB (S:=bE × List aE) 3 [0] [] (fun c _=>[(2,.I 0),(7,.I c)]) (fun c x=>[(0,.box [.I s.now,.I s.day,.I s.phase,.sl 3 (s.aj.ms.map au.cells),.sl 12 (s.aj.ns.map aC.cells),.sl 4 (s.aj.xs.map ay.cells),.I s.book.next,.sl 7 (s.book.ts.map aL.cells),.sl 4 (s.book.qs.map aF.cells),
  .I x.1.last,.sl 4 (x.1.bs.map cq.cells),.sl 3 (pl s.ps),.sl 4 (s.calls.map aB.cells),.sl 5 (s.bH.map bB.cells),.sl 7 (s.aA.map aO.cells),.I 0,.I 0,.I 0,.ref 752,.nil]),(752,.own 3 (x.2.map aE.cells))])
  (fun c x=>W8 s.aj (3-c) c x.1 x.2=R/\x.1.bs.length < 2 ^ 28/\x.2.length<=16*c) (s.bu,[]) ⟨D.symm,y,dU _⟩ ?_ ?_ ?_
 ·simp only [go_sem,seval]<;>simp
 ·rintro c ⟨l,ds⟩ hc f hwc ⟨a,hl,hd⟩;dsimp only at a hl hd |-;have f:decide ((c:Int) < 3)=true:=f;obtain ⟨m,K⟩:∃ m,3-c=m+1:=⟨3-c-1,by omega⟩
  have n:3-(c+1)=m:=ah
  rw [K] at a;simp only [W8] at a;have b:=u l c hl;have z:=Hr l s.aj c;have C:=To l s.aj c;have i:=v l ds (dS l s.aj c) hl ah;try dsimp only at i
  have k:(kR l (nextId l) (dS l s.aj c)).bs.length < 2 ^ 28:=Nat.lt_of_le_of_lt BN.1 (by decide);obtain ⟨e,A⟩:=aQ (gQ l s.aj c);obtain ⟨g,q⟩:=aQ (dS l s.aj c);obtain ⟨d,j⟩:=aQ (pL l s.aj c);rw [<- A,<- q,<- j] at b;rw [<- q] at i k C;rw [<- j] at z;rw [<- A,<- q,<- j] at a;obtain ⟨E,o⟩:=aQ (gf l (nextId l) g);obtain ⟨P,w⟩:=aQ (kR l (nextId l) g);rw [<- o,<- w] at i a;rw [<- w] at k;clear u v A q j o w;by_cases p:e=0
  case neg =>
   have F:(e==0)=false:=by simpa using p
   rw [ak p] at a;rw [ak p] at b;rw [<- a];refine sm f ?_;try (with_reducible and_intros)<;>first|exact .dq|omega|skip
   refine aD.bp b ?_;simp only [go_sem,seval,bne,F];all_goals (with_reducible and_intros)<;>first|exact .dq|omega|skip
   all_goals simp
  rw [aq p] at a b;rw [p] at b;by_cases r:g=[]
  ·rw [aq r] at a;rw [r] at b;refine sm f ?_;try (with_reducible and_intros)<;>first|exact .dq|omega|skip
   refine aD.bp b ?_;simp only [go_sem,seval,bne,map_nil,length_nil,hwc];refine dP ?_;refine av.kW (l,ds++d) hc ⟨by rw [n];exact a,hl,by dsimp only;rw [cm];omega⟩ ?_;simp only [go_sem,seval,jq]
  ·rw [ak r] at a;have B:decide ((0:Int) < (g.length:Int))=true:=by
    have:g.length≠0:=fun h=>r (eq_nil_of_length_eq_zero h);simp;omega
   refine sm f ?_;try (with_reducible and_intros)<;>first|exact .dq|omega|skip
   refine sc B b ?_;try (with_reducible and_intros)<;>first|exact .dq|omega|skip
   refine sg [0,752] aJ i ?_;by_cases t:E=0
   ·rw [aq t] at a;rw [t];simp only [go_sem,seval,bne,hwc];refine dP ?_;refine av.kW (P,ds++d) hc ⟨by rw [n];exact a,k,by dsimp only;rw [cm];omega⟩ ?_;simp only [go_sem,seval,jq]
   ·have G:(E==0)=false:=by simpa using t
    rw [ak t] at a;rw [<- a];simp only [go_sem,seval,bne,G];all_goals (with_reducible and_intros)<;>first|exact .dq|omega|skip
    all_goals simp
 ·rintro ⟨l,ds⟩ hdx ⟨a,hl,hd⟩;have a:(l,ds,(0:Int))=R:=a;rw [<- a];try dsimp only
  refine sm hdx ?_;all_goals (with_reducible and_intros)<;>first|exact .dq|omega|skip
  all_goals simp
theorem IE (s:af) (hr:s.right) (f:s.small):∃ c ds,Sq 194 [.box (tC s 0 0)] [.addr 0 0] [.box (tR c ⟨0,0,0,ds,[]⟩)] (.I (nB 3 0 s []).2.2)/\((nB 3 0 s []).2.2=0->c=(nB 3 0 s []).1/\ds=(nB 3 0 s []).2.1):=by
 have h:=L2 s hr f;obtain ⟨d,b⟩:=VE 3 0 s [];rw [d] at h;refine ⟨{ s with bu:=(W8 s.aj 3 0 s.bu []).1 },(W8 s.aj 3 0 s.bu []).2.1,?_,fun a=>⟨(b a).1.symm,(b a).2.symm⟩⟩;refine Spec.Dt h 1 (by simp) rfl ?_ ?_
 ·intro r;rcases r with _ | _ | r<;>rfl
 ·intro i e g;obtain rfl:i=0:=by simpa using e
  cases g
end Go.Proofs.YtccipdjjkcejgaaGreat
