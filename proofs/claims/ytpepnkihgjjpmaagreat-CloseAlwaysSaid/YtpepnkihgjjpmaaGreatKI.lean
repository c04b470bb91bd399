/- Parts. -/
import Derived.Test.YtpepnkihgjjpmaaGreatKH
set_option linter.all false
set_option maxHeartbeats 4000000
set_option maxRecDepth 16000
namespace Go.Proofs.YtpepnkihgjjpmaaGreat
open Go.Abs Tryz
open List hiding lt max min
def Eg(t:Int)(ws:List Int):gZ t ws=if iP t ws=0 then(if ay ws=0 then(if t=0 then 0 else 2)else 0)else iP t ws:=by
 unfold gZ iP;by_cases a:((!decide (t<0)&&bB t)&&right ws)=true
 ·by_cases b:sQ ws=true
  ·by_cases c:1024<ws.length
   ·simp[a,b,c]
   ·simp[a,b,c]
  ·simp[a,b]
 ·simp only[a];rfl
def Ci{t:Int}{l:List Int}(a:iP t l=0):(0<=t/\t<=4611686018427387904)/\(∀x∈l,0<=x/\x<=4611686018427387904)/\l.length<=1024:=by
 unfold iP at a;split at a
 case isFalse=>cases a
 rename_i c;split at a
 case isFalse=>cases a
 rename_i e;split at a
 ·cases a
 rename_i h3;simp only[bQ,gD,gv]at c;have d:=λx b=>aP.1 (bL.1 c.2 x b);have htin:=aP.1 c.1.2;refine⟨⟨by omega,by omega⟩,λx b=>?_,by omega⟩;have:=bL.1 e x b;simp only[gD,gv]at this;have:=d x b;omega
theorem F3:∀{l:List Int},(∀x∈l,0<=x/\x<=4611686018427387904)->0<=ay l/\ay l<=4611686018427387904*l.length
 | [],_=>by simp[ay]
 |x::r,h=>by
  have:=F3 λy a=>h y (mem_cons_of_mem _ a);have:=h x sT;simp only[ay,length_cons];omega
theorem NQ{x:Int}:∀{l:List Int},(∀x∈l,0<=x/\x<=4611686018427387904)->x∈l->x<=ay l
 |y::r,h,hx=>by
  have h1:=h y sT;have h2:=F3 (l:=r) λz a=>h z (mem_cons_of_mem _ a);rcases mem_cons.1 hx with rfl|hx
  ·simp only[ay];omega
  ·have:=NQ (λz a=>h z (mem_cons_of_mem _ a)) hx;simp only[ay];omega
theorem Oj:∀(A:List (Int×Nat))(x:Int×Nat)(ps:List Int),zZ (A++[x]) ps=(zZ A ps).set x.2 ((zZ A ps).getD x.2 0+1)
 | [],_,_=>rfl
 |y::A,x,ps=>by simp only[cons_append,zZ];exact Oj A x _
theorem Ok:∀(A:List (Int×Nat))(ps:List Int),(zZ A ps).length=ps.length
 | [],_=>rfl
 |y::A,ps=>by simp only[zZ];rw[Ok A];simp
theorem Tq{B:Int}:∀(A:List (Int×Nat)) {ps:List Int},(∀p∈ps,0<=p/\p<=B)->0<=B->∀p∈zZ A ps,0<=p/\p<=B+A.length
 | [],ps,h,_=>by simpa[zZ]using h
 |x::A,ps,h,hB=>by
  intro p b;simp only[zZ]at b
  have h2:=Tq (B:=B+1) A (ps:=ps.set x.2 (ps.getD x.2 0+1)) (λq a=>by
   rcases mem_or_eq_of_mem_set a with a|rfl
   ·have:=h q a;omega
   ·rw[getD_eq_getElem?_getD];cases c:ps[x.2]? with
    |none=>simp;omega
    |some v=>have:=h v (fO c);simp;omega) ak p b
  simp only[length_cons];omega
theorem LP(t:Int)(ws:List Int)(hl:ws.length<2^30):Sq 203 [] [.int .i64 t,.sl 1 (ints ws)] [.own 1 (ints (bA t ws))] (.bI [.ref 0,.int .i64 (gZ t ws)]):=by
 have c1:=x6 t ws hl;have J:=Eg t ws;refine bp 103 2 [.tmp 4,.tmp 5] mixed func203 ?_;by_cases B:iP t ws=0
 case neg =>
  have d:(iP t ws==0)=false:=su B;rw[au B]at J;rw[bA,J,au B];refine sc aS c1 ?_;simp only[go_sem,seval,bne,d]<;>simp[ints]
 rw[aq B]at J;rw[B]at c1;obtain⟨ht,o,hl2⟩:=Ci B;rw[bA,J];refine sc aS c1 ?_;simp only[go_sem,seval,az];refine aF.wv ws.length [0,1,6,26,27] [] (λi=>[(28,.I i),(7,.addr 128 0),(4,.nil)]) (λi=>[(128,.box (gd (ay (ws.take i)).toNat))]) ?_ ?_ ?_
 ·simp only[go_sem,seval,gd,take_zero,ay,Int.toNat_zero,Nat.zero_div,Nat.zero_mod]<;>simp
 ·intro i _ f h k _;have m:=ints_at ws f;have g:=o _ (dS f);have hs:=F3 (l:=ws.take i) λx g=>o x (mem_of_mem_take g);have r:ay (ws.take (i+1))=ay (ws.take i)+ws[i]:=by rw[jU f,pJ]
  have u:(ws.take i).length<=1024:=by rw[fZ];omega
  obtain⟨x,z⟩:=aN (ws[i]);rw[<-z]at m g r;obtain⟨n,hn⟩:∃n:Nat,x=n:=⟨x.toNat,by omega⟩
  obtain⟨S,Y⟩:∃S:Nat,S=(ay (ws.take i)).toNat:=⟨_,rfl⟩
  have e:(ay (ws.take (i+1))).toNat=S+n:=ak
  have c2:=RO S n ak ak;have hu:IntKind.wrap .u64 (n:Int)=n:=L3 ak;rw[<-Y];rw[hn]at m;simp only[gd]at c2 |-;simp only[go_sem,seval,az,h,m,hu];refine sc k c2 ?_;refine ah.v f ?_;exact gY e
 ·intro _ j _;have hs:=F3 o;obtain⟨S,Y⟩:∃S:Nat,S=(ay ws).toNat:=⟨_,rfl⟩
  have e:ay ws=S:=ak
  simp only[eu,<-Y];rw[e];simp only[gd];by_cases q1:S=0
  ·rw[aq (by omega:(S:Int)=0)]at *;subst q1;by_cases q2:t=0
   ·subst q2;simp only[go_sem,seval,az,j];exact⟨Int.le_refl _,by omega,by omega,by simp[ints]⟩
   ·have d2:(t==0)=false:=su q2;simp only[go_sem,seval,az,j,bne,d2];simp[q2,ints]
  ·rw[au (by omega:¬(S:Int)=0),aq rfl,au (by omega:¬(S:Int)=0)];have hz:(((S/18446744073709551616:Nat):Int)==0&&(((S%18446744073709551616:Nat):Int)==0))=false:=by
    rw[Bool.and_eq_false_iff,beq_eq_false_iff_ne,beq_eq_false_iff_ne];omega
   have hS72:S<=4722366482869645213696:=ak
   obtain⟨T,hT⟩:∃T:Nat,t=T:=⟨t.toNat,by omega⟩
   subst hT;simp only[go_sem,seval,az,j,hz];refine aF.wv ws.length [0,1,6,7,46,47] [128] (λi=>[(48,.I i),(10,.ref 1184),(11,.ref 1280),(12,.I ((T:Int)-ay (mX T S (ws.take i))))]) (λi=>[(1184,.own 1 (ints (mX T S (ws.take i)))),(1280,.own 3 (((pS T S (ws.take i)).zipIdx).map pz))]) ?_ ?_ ?_
   ·simp only[go_sem,seval]<;>simp[mX,pS,ints,ay]
   ·intro i _ f h k _;have m:=ints_at ws f;have g:=o _ (dS f);have hg:=NQ o (dS f);have u:(ws.take i).length=i:=by rw[fZ];omega
    have y:mX T S (ws.take (i+1))=mX T S (ws.take i)++[(T:Int)*ws[i]/S]:=by rw[jU f,mX,mX,jF];rfl
    have P:pS T S (ws.take (i+1))=pS T S (ws.take i)++[(T:Int)*ws[i]%S]:=by rw[jU f,pS,pS,jF];rfl
    have F:(mX T S (ws.take i)).length=i:=by rw[mX,qE,u]
    have a:(pS T S (ws.take i)).length=i:=by rw[pS,qE,u]
    obtain⟨x,z⟩:=aN (ws[i]);rw[<-z]at m g hg y P;obtain⟨n,hn⟩:∃n:Nat,x=n:=⟨x.toNat,by omega⟩
    subst hn;have ad:n<=S:=ak
    have hTn:T*n<=4611686018427387904*4611686018427387904:=Nat.mul_le_mul ak ak;have ag:T*n/S<=T:=Nat.div_le_of_le_mul (by rw[Nat.mul_comm S];exact Nat.mul_le_mul_left T ad);have hu:IntKind.wrap .u64 (n:Int)=n:=L3 ak;have al:IntKind.wrap .u64 (T:Int)=T:=L3 ak;have c2:=w9 T n ak ak;have c3:=U4 (T*n) S ak ak ak ak;simp only[gd]at c3;obtain⟨Q,U⟩:=aN (T*n/S);obtain⟨R,hR⟩:=aN (T*n%S);have V:(T:Int)*n/S=Q:=by rw[U];push_cast;rfl
    have X:(T:Int)*n%S=R:=by rw[hR];push_cast;rfl
    rw[V]at y;rw[X]at P;rw[<-U,<-hR]at c3;rw[<-U]at ag;have E:IntKind.wrap .i64 (Q:Int)=Q:=gO ak ak;obtain⟨L,K⟩:=aN (mX T S (ws.take i));obtain⟨M,hM⟩:=aN (pS T S (ws.take i));rw[<-K]at y F |-;rw[<-hM]at P a |-;have ab:ay (mX T S (ws.take (i+1)))=ay L+Q:=by rw[y,pJ]
    simp only[go_sem,seval,az,h,m,hu,al];refine sc aS c2 ?_;refine aG.bC c3 ?_;simp only[go_sem,seval,E,az,F,a,k,length_zipIdx];refine bg ?_;have q:=yU (t:=(T:Int)) (W:=(S:Int)) (ws:=ws) ak e ak (λx g=>(o x g).1) (i+1);rw[ab]at q;have hle0:0<=ay L:=by rw[K];exact(yU (t:=(T:Int)) (W:=(S:Int)) (ws:=ws) ak e ak (λx g=>(o x g).1) i).1
    have wl:IntKind.wrap .i64 ((T:Int)-ay L-Q)=(T:Int)-ay L-Q:=gO ak ak;have ai:((M++[(R:Int)]).zipIdx).map pz=(M.zipIdx).map pz++[[.int .u64 ((R/18446744073709551616:Nat):Int),.int .u64 ((R%18446744073709551616:Nat):Int),.I i]]:=by
     rw[zipIdx_append,jF,a];simp only[zipIdx_cons,zipIdx_nil,map_cons,map_nil,pz,Nat.zero_add];rfl
    have af:ints (L++[(Q:Int)])=ints L++[[.I (Q:Int)]]:=by simp[ints]
    have aj:(T:Int)-ay (L++[(Q:Int)])=(T:Int)-ay L-Q:=by rw[pJ];omega
    refine ah.v f ?_;exact dL (a5 y P ai af (a2 aj wl))
   ·intro _ j _;have a:(pS (T:Int) S ws).length=ws.length:=by rw[pS,qE]
    have c4:=IZ (pS T S ws) (by rw[a];omega);have hlr:=tM (t:=(T:Int)) (W:=(S:Int)) (ws:=ws) ak e ak (λx g=>(o x g).1);obtain⟨N,hN⟩:∃N:Nat,(T:Int)-ay (mX T S ws)=N:=⟨((T:Int)-ay (mX T S ws)).toNat,by omega⟩
    have D:=XR (pS T S ws) (n:=N) (by rw[a];omega) (mX T S ws);rw[a]at D;simp only[eu];rw[hN,Int.toNat_natCast,D];simp only[Fk]at c4;refine sg [1280] j c4 ?_;refine aF.wv N [87] [] (λi=>[(88,.I i),(10,.ref 176),(11,.ref 192)]) (λi=>[(176,.own 1 (ints (zZ ((tY (pS T S ws)).take i) (mX T S ws)))),(192,.own 3 ((tY (pS T S ws)).map pz))]) ?_ ?_ ?_
    ·simp only[go_sem,seval]<;>simp[zZ]
    ·intro i _ f h k _;have hol:(tY (pS (T:Int) S ws)).length=ws.length:=by rw[tY,(zl _ _).length_eq,Fk,length_zipIdx,a]
     have hi2:i<(tY (pS (T:Int) S ws)).length:=ak
     have m:=br (c:=pz) (tY (pS (T:Int) S ws)) hi2;have s:=CK.1 (dS hi2);have r:(tY (pS (T:Int) S ws)).take (i+1)=(tY (pS (T:Int) S ws)).take i++[(tY (pS (T:Int) S ws))[i]]:=jU hi2;obtain⟨x,g⟩:=aN ((tY (pS (T:Int) S ws))[i]);rw[<-g]at m s r;have hx2:x.2<ws.length:=by rw[<-a];exact(gU.1 s).1
     have O:=Oj ((tY (pS (T:Int) S ws)).take i) x (mX T S ws);rw[<-r]at O;have ae:∀p∈mX (T:Int) S ws,0<=p/\p<=4611686018427387904:=λp y=>by
      obtain⟨w,H,rfl⟩:=mem_map.1 y;have h1:=o w H;have h2:=NQ o H;refine⟨Int.ediv_nonneg (Int.mul_nonneg ak h1.1) ak,?_⟩;refine Int.le_trans (Int.ediv_le_of_le_mul (b:=(T:Int)) ak ?_) ht.2;rw[e]at h2;exact Int.mul_le_mul_of_nonneg_left h2 ak
     have q:=Tq ((tY (pS (T:Int) S ws)).take i) ae ak;have C:=Ok ((tY (pS (T:Int) S ws)).take i) (mX T S ws);rw[show(mX (T:Int) S ws).length=ws.length by rw[mX,qE]]at C;obtain⟨L,K⟩:=aN (zZ ((tY (pS (T:Int) S ws)).take i) (mX T S ws));rw[<-K]at q C O |-;have A:x.2<L.length:=ak
     have ac:=ints_at L A;have hv:=q _ (dS A);have aa:L.getD x.2 0=L[x.2]:=by simp[A]
     rw[aa]at O;rw[fZ]at hv;have wv:IntKind.wrap .i64 (L[x.2]+1)=L[x.2]+1:=gO ak ak;simp only[pz]at m;have G:ints (L.set x.2 (L[x.2]+1))=(ints L).set x.2 [.I (L[x.2]+1)]:=by simp[ints,map_set]
     simp only[go_sem,seval,h,m,ac,wv,k,az];refine bg ?_;refine ah.v f ?_;exact dL (a2 O G)
    ·intro _ Z _;exact dL Z
theorem SN(t:Int)(ws:List Int)(a:ws.length<2^30):Sq 203 [] [.int .i64 t,.sl 1 (ints ws)] [] (.bI [.sl 1 (ints (bA t ws)),.int .i64 (gZ t ws)]):=by
 refine Spec.frozen (LP t ws a) [0] rfl ?_;intro r;rcases r with _|r<;>rfl
theorem RM:∀{l:List aY} {a:Int},¬ 0<a->jy a l=([],a)
 | [],_,_=>rfl
 | _::_,_,h=>by rw[jy,au h]
def abe{long:Bool}{l:List aY}(h:l.all jG=true):∀b∈vc long l,jG b=true:=by
 have key:∀(m out:List aY),(∀b∈out,jG b=true)->(∀b∈m,jG b=true)->∀b∈Bh long out m,jG b=true:=by
  intro m;induction m with
  |nil=>intro out c _;exact c
  |cons x r ih =>
   intro out c d;refine ih _ ?_ λb a=>d b (by simp[a]);intro b a;rcases mem_append.1 a with a|a
   ·exact c b (mem_of_mem_take a)
   ·rcases mem_cons.1 a with rfl|a
    ·exact d b sT
    ·exact c b (mem_of_mem_drop a)
 exact key l [] sT λb a=>bL.1 h b a
theorem XI(q:Int)(l:List aY)(Q:l.length<2^28)(hq64:iS q):Sq 121 [] [.int .i64 q,.sl 5 (l.map aY.cells)] [.own 3 ((iB q l).1.map cj.cells)] (.bI [.ref 0,.int .i64 (iB q l).2,.int .i64 (j5 q l)]):=by
 have c2:=Sm (decide (0<q)) l Q;have D:(vc (decide (0<q)) l).length=l.length:=by rw[vc,Cw];simp
 refine bp 77 2 [.tmp 4,.tmp 5,.tmp 6] mixed func121 ?_;by_cases H:q < -1099511627776
 ·have w:decide (q < -1099511627776)=true:=dY H;have e:j5 q l=3:=by
   have:within q (-1099511627776) 1099511627776=false:=by simp[within];omega
   simp[j5,this]
  simp only[go_sem,seval,w,iB,e]<;>simp
 have w:decide (q < -1099511627776)=false:=iA H;by_cases v:1099511627776<q
 ·have A:decide (1099511627776<q)=true:=dY v;have e:j5 q l=3:=by
   have:within q (-1099511627776) 1099511627776=false:=by simp[within];omega
   simp[j5,this]
  simp only[go_sem,seval,w,A,iB,e]<;>simp
 have A:decide (1099511627776<q)=false:=iA v;have e:j5 q l=if l.all jG then 0 else 3:=by
  have:within q (-1099511627776) 1099511627776=true:=by simp[within];omega
  simp[j5,this]
 simp only[iB];rw[e];clear e;refine sm (a2 w A) ?_;clear w A;refine aF.wu l.length [0,1,18,19] [320] (λi=>[(20,.I i),(4,.nil)]) (λ_=>[]) (λi=>(l.drop i).all jG=l.all jG) rfl ?_ ?_ ?_
 ·exact kG
 ·intro i _ j b p g;obtain⟨x,B,m,k⟩:=oc (c:=aY.cells) l j;rw[cg j,<-B]at g;simp only[all_cons,jG]at g;simp only[aY.cells]at m;clear c2;have bad:(within x.aO 1 1048576&&within x.aL 1 1073741824)=false->l.all jG=false:=λh=>by rw[h,cZ]at g;exact g.symm
  by_cases J:x.aO<1
  ·have t:decide (x.aO<1)=true:=dY J;have f:=bad (by simp[within];omega);simp only[go_sem,seval,b,m,t,f]<;>simp[k,j]
  have t:decide (x.aO<1)=false:=iA J;by_cases K:1048576<x.aO
  ·have z:decide (1048576<x.aO)=true:=dY K;have f:=bad (by simp[within];omega);simp only[go_sem,seval,b,m,t,z,f]<;>simp[k,j]
  have z:decide (1048576<x.aO)=false:=iA K;by_cases M:x.aL<1
  ·have C:decide (x.aL<1)=true:=dY M;have f:=bad (by simp[within];omega);simp only[go_sem,seval,b,m,t,z,C,f]<;>simp[k,j]
  have C:decide (x.aL<1)=false:=iA M;by_cases N:1073741824<x.aL
  ·have F:decide (1073741824<x.aL)=true:=dY N;have f:=bad (by simp[within];omega);simp only[go_sem,seval,b,m,t,z,C,F,f]<;>simp[k,j]
  have F:decide (1073741824<x.aL)=false:=iA N;have P:(within x.aO 1 1048576&&within x.aL 1 1073741824)=true:=by simp[within];omega
  rw[P,cm]at g;refine sm (a5 b m t z (a3 C F p)) ?_;refine bg ?_;refine ah.u j g ?_;exact jq
 intro _ n g;rw[jw]at g;have g:l.all jG=true:=g.symm;have r:=abe (long:=decide (0<q)) g;rw[g];clear g;obtain⟨o,R⟩:=aN (vc (decide (0<q)) l);rw[<-R]at c2 D r |-;have E:IntKind.wrap .i64 (0-q) = -q:=fQ;refine sm (a2 n E) ?_;refine sc aS c2 ?_;clear c2 n;refine aF.sK (S:=List cj×Int) o.length [50,51] [816,832] (λi s=>[(52,.I i),(5,.I s.2),(4,.ref 1136)]) (λi s=>[(1136,.own 3 (s.1.map cj.cells))]) (λi s=>(s.1++(jy s.2 (o.drop i)).1=(jy (max q (-q)) o).1/\(jy s.2 (o.drop i)).2=(jy (max q (-q)) o).2)/\s.1.length<=i/\(0<=s.2/\s.2<=1099511627776)) ([],max q (-q)) ⟨⟨rfl,rfl⟩,by simp,by omega⟩ ?_ ?_ ?_
 ·exact kG
 ·rintro i ⟨L,a⟩ j b p ⟨⟨h1,h2⟩,h3,h4⟩;dsimp only at h1 h2 h3 h4;obtain⟨x,B,m,k⟩:=oc (c:=aY.cells) o j;have y:=r _ (dS j);rw[cg j,<-B]at h1 h2;rw[<-B]at y;simp only[jG,within,bQ,bz]at y;simp only[jy]at h1 h2;simp only[aY.cells]at m;have O:IntKind.wrap .i64 (a-min a x.aO)=a-min a x.aO:=gO ak ak;by_cases G:0<a
  ·have d:decide (0<min a x.aO)=true:=iy;rw[aq G]at h1 h2;refine sm (a5 b m d O p) ?_;refine bg ?_;refine ah.jT (L++[⟨x.src,min a x.aO,x.aL⟩],a-min a x.aO) j ⟨⟨by rw[dz];exact h1,h2⟩,by simp;omega,by dsimp only;omega⟩ ?_;exact kG
  ·have d:decide (0<min a x.aO)=false:=iE;rw[au G]at h1 h2;refine sm (a5 b m d O p) ?_;refine bg ?_;refine ah.jT (L,a-min a x.aO) j ⟨?_,by dsimp only;omega,by dsimp only;omega⟩ ?_
   ·dsimp only;rw[show a-min a x.aO=a by omega,RM G];exact⟨h1,h2⟩
   ·exact kG
 ·rintro⟨L,a⟩ n ⟨⟨h1,h2⟩,h3,h4⟩;dsimp only at h1 h2;rw[jw]at h1 h2;simp only[jy,append_nil]at h1 h2;simp only[go_sem,seval,n,if_true,<-h1,<-h2];all_goals simp
theorem QU:∀{ps:List Int} {j:Nat},j<ps.length->ay (ps.set j (ps.getD j 0+1))=ay ps+1
 | [],j,h=>by simp at h
 |x::r,0,_=>by simp[ay];omega
 |x::r,j+1,h=>by
  have:=QU (ps:=r) (j:=j) (su h);simp only[set_cons_succ,getD_cons_succ,ay,this];omega
theorem KX(rs:List Int):∀(n:Nat)(gs:List Bool)(ps:List Int),gs.length=rs.length->ps.length=rs.length->gs.count true+n<=gs.length->ay (lY rs n gs ps)=ay ps+n
 | 0,_,_,_,_,_=>by simp[lY]
 |n+1,gs,ps,h1,h2,h3=>by
  have a:=FN (gs:=gs) ak;rw[h1]at a;have c:=FK rs gs rs.length a;have hr:=qp rs gs rs.length;have b:=vD rs gs rs.length c;simp only[lY];rw[KX rs n _ _ (by simp[h1]) (by simp[h2]) (by rw[count_set b,length_set];omega),QU ak];omega
theorem Ch(rs:List Int):∀(n:Nat)(gs:List Bool)(ps:List Int),(∀x∈ps,0<=x)->∀x∈lY rs n gs ps,0<=x
 | 0,_,_,h=>h
 |n+1,gs,ps,h=>by
  simp only[lY];refine Ch rs n _ _ λx a=>?_;rcases mem_or_eq_of_mem_set a with a|rfl
  ·exact h x a
  ·have:0<=ps.getD (gW rs gs rs.length).toNat 0:=by
    rw[getD_eq_getElem?_getD];cases b:ps[(gW rs gs rs.length).toNat]? with
    |none=>simp
    |some y=>exact h y (fO b)
   omega
def LO{t:Int}{ws:List Int}(h:gZ t ws=0):0<=t/\(∀x∈ws,0<=x):=by
 unfold gZ at h;split at h
 case isFalse=>cases h
 rename_i a;split at h
 case isFalse=>cases h
 rename_i b;simp only[bQ,gD,gv]at a;refine⟨by omega,λx c=>?_⟩;have:=bL.1 b x c;simp only[gD,gv]at this;omega
def xB{t:Int}{ws:List Int}(h:gZ t ws=0)(f:ay ws≠0):ay (bA t ws)=t/\(∀x∈bA t ws,0<=x):=by
 obtain⟨d,a⟩:=LO h;have hn:=jW a;have hl:=tM d rfl (show 1<=ay ws by omega) a;unfold bA;rw[aq h,au f];have b:(mX t (ay ws) ws).length=(pS t (ay ws) ws).length:=by simp[mX,pS]
 have c:(pS t (ay ws) ws).length=ws.length:=by simp[pS]
 refine⟨?_,Ch _ _ _ _ λx g=>?_⟩
 ·rw[KX _ _ _ _ (by simp[c]) b (by simp[count_replicate];omega)];omega
 ·obtain⟨w,e,rfl⟩:=mem_map.1 g;exact(xm d ak (a w e) (xC a w e)).1
def qy(f:List cj):Int:=ay (f.map cj.aO)
theorem KM:∀(l:List aY)(k:Int),qy (jy k l).1+(jy k l).2=k
 | [],k=>by simp[jy,qy,ay]
 |b::r,k=>by
  simp only[jy];split
  ·have:=KM r (k-min k b.aO);simp only[qy,map_cons,ay]at this |-;omega
  ·simp[qy,ay]
theorem KL:∀(l:List aY)(k:Int) {f:cj},f∈(jy k l).1->∃b∈l,f.src=b.src
 | [],k,f,h=>by simp[jy]at h
 |b::r,k,f,h=>by
  simp only[jy]at h;split at h
  ·rcases mem_cons.1 h with rfl|h
   ·exact⟨b,by simp,rfl⟩
   ·obtain⟨x,a,e⟩:=KL r _ h;exact⟨x,by simp[a],e⟩
  ·cases h
theorem Cy(long:Bool){y:aY}:∀(l out:List aY),y∈Bh long out l->y∈out\/y∈l
 | [],out,h=>.inl h
 |x::r,out,h=>by
  simp only[Bh]at h;rcases Cy long r _ h with h|h
  ·unfold He at h;rcases mem_append.1 h with h|h
   ·exact .inl (mem_of_mem_take h)
   ·rcases mem_cons.1 h with rfl|h
    ·exact .inr sT
    ·exact .inl (mem_of_mem_drop h)
  ·exact .inr (by simp[h])
def ON{q:Int}{l:List aY}(h:j5 q l=0):qy (iB q l).1+(iB q l).2=max q (-q)/\∀f∈(iB q l).1,∃b∈l,f.src=b.src:=by
 unfold iB;rw[aq h];refine⟨KM _ _,λf c=>?_⟩;obtain⟨b,a,e⟩:=KL _ _ c;rcases Cy _ _ _ a with a|a
 ·cases a
 ·exact⟨b,a,e⟩
theorem XL{w n m:Int}{long:Bool}:∀{f:List cj},(∀x∈f,x.src≠w)->ay (pick (bY w m) aB.aO (f.flatMap (lM w n long)))=if m=n then -zk long (qy f)else 0
 | [],_=>by simp[pick,ay,qy,zk]
 |x::r,h=>by
  have d:=XL (w:=w) (n:=n) (m:=m) (long:=long) (f:=r) λy c=>h y (by simp[c]);have b:=h x sT;rw[flatMap_cons,show lM w n long x=[⟨x.src,n,zk long x.aO,zk long (x.aO*x.aL)⟩,⟨w,n,-zk long x.aO,-zk long (x.aO*x.aL)⟩]from rfl];rw[cons_append,cons_append,nil_append,mW,mW,d];rw[au (λh=>b (lH.1 h).1)];by_cases a:m=n
  ·rw[aq (show bY w m ⟨w,n,-zk long x.aO,-zk long (x.aO*x.aL)⟩=true from lH.2 ⟨rfl,a.symm⟩),aq a,aq a];simp only[qy,map_cons,ay,zk];split<;>omega
  ·rw[au (λh=>a (lH.1 h).2.symm),au a,au a];rfl
def Ls{b:aH}{g:List aB}{w n:Int}(hw:1<=w/\w<=16)(hn:1<=n/\n<=8):(posOf w n (yh b g 16)).aO=zW b g w n:=by
 by_cases h:zW b g w n=0/\Jj b g w n=0
 ·rw[gJ,h.1];intro p d c;obtain⟨k,m,_,_,d⟩:=sF d;obtain⟨rfl,a⟩:=oM d;dsimp only at c;rw[c.1,c.2]at a;exact a h
 ·have e:(⟨w,n,zW b g w n,Jj b g w n⟩:aB)∈yh b g 16:=by
   refine mem_flatMap.2 ⟨(w-1).toNat,mem_range.2 ak,mem_flatMap.2 ⟨(n-1).toNat,mem_range.2 ak,?_⟩⟩;rw[show(((w-1).toNat:Nat):Int)+1=w by omega,show(((n-1).toNat:Nat):Int)+1=n by omega];unfold FH;rw[au (by simp only[bQ,ff];exact h)];simp
  rw[tX (Dm b g) e ⟨rfl,rfl⟩]
structure Cr(r:aA)(w:Int)(b:aH)(ts:List aR)(ps:List gC)(cs:List aI):Prop where
 ok:b.okB=true
 known:mA r b.qs ts ps cs
 ts:b.ts=ts
def CV{r:aA}{w n:Int}{b:aH}{ts ps cs}{long:Bool}{f:List cj}(q:1<=w/\w<=16)(t:1<=n/\n<=8)(i:Cr r w b ts ps cs)(v:bD r w=2)(l:bJ r n=true)(k:∀x∈f,x.src≠w/\(bD r x.src=1\/bD r x.src=2))(h:(jz b w n long f).2=0) :
  Cr r w (jz b w n long f).1 ts ps cs/\(posOf w n (jz b w n long f).1.qs).aO=(posOf w n b.qs).aO-zk long (qy f)/\∀m,1<=m/\m<=8->m≠n->(posOf w m (jz b w n long f).1.qs).aO=(posOf w m b.qs).aO:=by
 unfold jz at h |-;split
 case isFalse a=>rw[au a]at h;exact absurd h a
 rename_i j;rw[aq j]at h;dsimp only at h |-;have o:kI w n long f=f.flatMap (lM w n long):=by unfold kI;rw[aq j]
 have u:=λm=>XL (w:=w) (n:=n) (m:=m) (long:=long) (f:=f) λx e=>(k x e).1;have c:∀m,zW b (kI w n long f) w m=(posOf w m b.qs).aO+if m=n then -zk long (qy f)else 0:=λm=>by
  unfold zW;rw[ay,o,u]
 refine⟨⟨Tj h,?_,?_⟩,?_,λm s a=>?_⟩
 ·rw[(oO h).2];refine DO i.known λp d=>?_;rw[o]at d;obtain⟨x,e,d⟩:=mem_flatMap.1 d;have g:=k x e;unfold lM at d;simp only[mem_cons,not_mem_nil,or_false]at d;rcases d with rfl|rfl
  ·exact⟨g.2,l⟩
  ·exact⟨.inr v,l⟩
 ·rw[(oO h).2];exact i.ts
 ·rw[(oO h).2];show(posOf w n (yh b _ 16)).aO=_;rw[Ls q t,c,aq rfl];omega
 ·rw[(oO h).2];show(posOf w m (yh b _ 16)).aO=_;rw[Ls q s,c,au a];omega
theorem I9{ws ps:List Int}(h:∀x∈ps,0<=x):∀k,k<=ps.length->qy (pQ (oD ws ps) k)=ay (ps.take k)
 | 0,_=>rfl
 |k+1,hk=>by
  have b:=I9 (ws:=ws) h k ak;have a:k<ps.length:=ak
  rw[ji,jU a,fM];unfold qy at b |-;rw[jF,fM,b];congr 1;have c:ps.getD k 0=ps[k]:=by rw[getD_eq_getElem?_getD,fj a];rfl
  have h0:=h ps[k] (dS a);unfold oD;rw[c];split
  ·rfl
  ·have:ps[k]=0:=ak
   rw[this];rfl
def QX{ws ps:List Int}(hl:ps.length<=ws.length){f:cj}(h:f∈ES ws ps):f.src∈ws:=by
 obtain⟨i,hi,h⟩:=jM.1 h;unfold oD at h;split at h
 ·obtain rfl:=gV.1 h;dsimp only;rw[getD_eq_getElem?_getD,fj ak];exact dS _
 ·cases h
def QW{b:aH}{w n k:Int}(h:iR b w n k=0):b.okB=true/\(0<=k/\k<=1099511627776)/\k<=ay (iU (posOf w n b.qs).aO n b.qs):=by
 unfold iR at h;split at h
 case isFalse=>cases h
 rename_i c;split at h
 case isFalse=>cases h
 rename_i a;split at h
 ·cases h
 rename_i h3;simp only[within,bQ,bz]at a;exact⟨c,a,by omega⟩
def Cz{q n:Int}{p:aB}:oH q n p=true↔p.inst=n/\((0<q/\p.aO<0)\/(q<0/\0<p.aO)):=by
 simp only[oH,bQ,Bool.or_eq_true,ff,bz]
def jl{A:Type}{q:A->Bool}{f:A->Int}{xs:List A}{v:Int}(h:v∈pick q f xs):∃x∈xs,q x=true/\v=f x:=by
 obtain⟨x,b,h⟩:=mem_flatMap.1 h;split at h
 ·rename_i a;exact⟨x,b,a,gV.1 h⟩
 ·cases h
def wK{b:aH}(h:b.okB=true):b.qs.length<=128:=by
 have f:=dn.1 h;have j:(b.qs.map λp=>p.who*8+p.inst).Pairwise (λa c=>a<c):=by
  rw[pairwise_map];refine(Pairwise.imp_of_mem (λ{p q} d hq hpq=>?_) f.pw);have k1:=iJ.1 (f.ok p d);have k2:=iJ.1 (f.ok q hq);simp only[jP,JG,Bool.or_eq_true,bQ,bz,ff]at hpq;omega
 have key:∀(l:List Int)(lo e:Int),l.Pairwise (λa c=>a<c)->(∀x∈l,lo<=x/\x<e)->lo<=e->(l.length:Int)<=e-lo:=by
  intro l;induction l with
  |nil=>intro lo e _ _ h;simp;omega
  |cons x r ih =>
   intro lo e d g hlh;rw[kB]at d;have hx0:=g x sT;have:=ih (x+1) e d.2 (λy i=>by have:=d.1 y i;have:=g y (by simp[i]);omega) ak;simp only[length_cons];omega
 have:=key _ 9 137 j (λx g=>by
  obtain⟨p,d,rfl⟩:=mem_map.1 g;have:=iJ.1 (f.ok p d)
  omega) ak
 simp only[qE]at this;omega
def Y1{r:aA}{w n p rest:Int}{b:aH}{ts ps cs}{long:Bool}(I:1<=w/\w<=16)(F:1<=n/\n<=8)(B:Cr r w b ts ps cs)(H:bD r w=2)(E:bJ r n=true)(G:(posOf w n b.qs).aO=zk long rest)(hr:rest≠0)(h:(x5 b w n p long rest).2=0) :
  Cr r w (x5 b w n p long rest).1 ts ps cs/\(posOf w n (x5 b w n p long rest).1.qs).aO=0/\∀m,1<=m/\m<=8->m≠n->(posOf w m (x5 b w n p long rest).1.qs).aO=(posOf w m b.qs).aO:=by
 unfold x5 at h |-;split
 case isFalse hne=>rw[au hne]at h;exact absurd h hne
 rename_i o;rw[aq o]at h;obtain⟨D,t2,t3⟩:=QW o;have j:=dn.1 D;obtain⟨ws,g⟩:∃l,l=sP (posOf w n b.qs).aO n b.qs:=⟨_,rfl⟩
 obtain⟨ns,a⟩:∃l,l=iU (posOf w n b.qs).aO n b.qs:=⟨_,rfl⟩
 have hlen:ns.length=ws.length:=by rw[g,a];exact vW _ _ _ _
 have c:∀x∈ns,0<x/\x<=1099511627776:=λx d=>by
  rw[a]at d;obtain⟨y,i,t,rfl⟩:=jl d;have k:=Cz.1 t;have h2:=iJ.1 (j.ok y i);omega
 rw[<-a]at t3;have hnl:ns.length<=128:=by
  rw[a];exact Nat.le_trans (bN _ _ _) (wK D)
 have s:gZ rest ns=0:=by
  unfold gZ;rw[aq,aq,au ak,au ak]
  ·exact bL.2 λx d=>by have:=c x d;simp only[gD,gv];omega
  ·simp only[bQ,gD,gv];refine⟨⟨by omega,by rw[aP];omega⟩,bL.2 λx d=>by have:=c x d;rw[aP];omega⟩
 obtain⟨s1,s2⟩:=xB s ak;have hsl:=jV rest ns;have A:jt b w n rest=ES ws (bA rest ns):=by unfold jt;rw[aq o,<-g,<-a]
 have q:qy ((jt b w n rest).map (dw p))=rest:=by
  have:qy ((jt b w n rest).map (dw p))=qy (jt b w n rest):=by
   unfold qy;rw[map_map];rfl
  rw[this,A];have:=I9 (ws:=ws) s2 _ (fS _);rw[eu,s1]at this;exact this
 obtain⟨J,K,L⟩:=CV (long:=long) (f:=(jt b w n rest).map (dw p)) I F B H E (λx d=>by
  obtain⟨y,i,rfl⟩:=mem_map.1 d;rw[A]at i;have i:=QX ak i;rw[g]at i;obtain⟨z,C,u,e⟩:=jl i;show y.src≠w/\_;rw[show(dw p y).src=y.src from rfl,e];refine⟨λv=>?_,(B.known.qs z C).1⟩;have k:=Cz.1 u;rw[tX j.pw C ⟨v,k.1⟩]at k
  omega) h
 refine⟨J,?_,L⟩;rw[K,q,G];omega
def QC{s:af}{w n:Int}{b:aH}(h:s.right)(D:1<=w/\w<=16)(B:1<=n/\n<=8)(v:Cr s.aj w b s.book.ts s.ps s.calls)(r:bD s.aj w=2)(C:(posOf w n b.qs).aO≠0)(c:(lB s b w n (posOf w n b.qs).aO).2=0) :
  Cr s.aj w (lB s b w n (posOf w n b.qs).aO).1 s.book.ts s.ps s.calls/\(posOf w n (lB s b w n (posOf w n b.qs).aO).1.qs).aO=0/\∀m,1<=m/\m<=8->m≠n->(posOf w m (lB s b w n (posOf w n b.qs).aO).1.qs).aO=(posOf w m b.qs).aO:=by
 have A:bJ s.aj n=true:=by
  by_cases t:∃p∈b.qs,p.who=w/\p.inst=n
  ·obtain⟨p,l,_,e⟩:=t;rw[<-e];exact(v.known.qs p l).2
  ·rw[gJ λp l O=>t ⟨p,l,O⟩]at C;exact absurd rfl C
 obtain⟨q,f⟩:=aN ((posOf w n b.qs).aO);rw[<-f]at C c |-;unfold lB at c |-;split
 case isFalse a=>rw[au a]at c;cases c
 rename_i l;rw[aq l]at c;split
 case isFalse a=>rw[au a]at c;exact absurd c a
 rename_i G;rw[aq G]at c;obtain⟨L,E⟩:=ON G;obtain⟨F,N⟩:=aN (iB q (eG s w n s.aW));rw[<-N]at L E c |-
 have g:∀k:Int,zk (decide (0<q)) k=if 0<q then k else -k:=λk=>by
  unfold zk;by_cases M:0<q<;>simp[M]
 have d:∀x∈F.1,x.src≠w/\(bD s.aj x.src=1\/bD s.aj x.src=2):=λx t=>by
  obtain⟨y,o,e⟩:=E x t;obtain⟨z,_,o⟩:=mem_flatMap.1 o;split at o
  ·rename_i i;obtain rfl:=gV.1 o;simp only[AQ,bQ,ff]at i;rw[e];refine⟨λh=>?_,.inl i.2⟩;rw[h,r]at i;omega
  ·cases o
 split
 ·rename_i j;rw[aq j]at c;obtain⟨u,a2,a3⟩:=CV (long:=decide (0<q)) D B v r A d j.1
  obtain⟨I,J,K⟩:=Y1 (p:=cy (aZ s.aj n)) (long:=decide (0<q)) (rest:=F.2) D B u r A (by
   rw[a2,<-f,g,g]
   split<;>omega) j.2 c
  exact⟨I,J,λm H a=>by rw[K m H a,a3 m H a]⟩
 ·rename_i j;rw[au j]at c;obtain⟨u,a2,a3⟩:=CV (long:=decide (0<q)) D B v r A d c;have i:F.2=0:=by
   by_cases i:F.2=0
   ·exact i
   ·exact absurd ⟨c,i⟩ j
  refine⟨u,?_,a3⟩;rw[a2,<-f,g];split<;>omega
def HX{s:af}{w n:Int}{b:aH}(h:s.right)(g:1<=w/\w<=16)(e:1<=n/\n<=8)(d:Cr s.aj w b s.book.ts s.ps s.calls)(f:bD s.aj w=2)(c:(iH s w b n).2=0) :
  Cr s.aj w (iH s w b n).1 s.book.ts s.ps s.calls/\(posOf w n (iH s w b n).1.qs).aO=0/\∀m,1<=m/\m<=8->m≠n->(posOf w m (iH s w b n).1.qs).aO=(posOf w m b.qs).aO:=by
 unfold iH at c |-;split
 ·rename_i a;exact⟨d,su a,λ_ _ _=>rfl⟩
 ·rename_i a;rw[au a]at c;exact QC h g e d f (su a) c
theorem M0{s:af}{w:Int}(h:s.right)(d:1<=w/\w<=16)(c:bD s.aj w=2):∀(m i:Nat) {b:aH},i+m=8->Cr s.aj w b s.book.ts s.ps s.calls->(∀k:Nat,k<i->(posOf w ((k:Int)+1) b.qs).aO=0)->(kf s w m i b).2=0 ->
  Cr s.aj w (kf s w m i b).1 s.book.ts s.ps s.calls/\∀k:Nat,k<8->(posOf w ((k:Int)+1) (kf s w m i b).1.qs).aO=0
 | 0,i,b,hi,hb,hz,_=>⟨hb,λk f=>hz k ak⟩
 |m+1,i,b,hi,hb,hz,he=>by
  simp only[kf]at he |-;split
  ·rename_i a;rw[aq a]at he;obtain⟨e,a2,a3⟩:=HX h d (n:=(i:Int)+1) ak hb c a;refine M0 h d c m (i+1) ak e (λk f=>?_) he;rcases dN k i with hki|hki
   ·rw[a3 _ ak ak];exact hz k hki
   ·obtain rfl:k=i:=ak
    exact a2
  ·rename_i a;rw[au a]at he;exact absurd he a
def DL{w:Int}{l:List aB}{p:aB}:p∈lZ w l↔p∈l/\p.who≠w:=by
 unfold lZ;rw[mem_flatMap];constructor
 ·rintro⟨x,d,h⟩;split at h
  ·cases h
  ·rename_i c;obtain rfl:=gV.1 h;exact⟨d,su c⟩
 ·rintro⟨a,b⟩;exact⟨p,a,by rw[au (su b)];simp⟩
def yT{s:af}{w:Int}(h:kg s w=0):HJ s w=0/\(kf s w 8 0 s.book).2=0:=by
 unfold kg at h;split at h
 case isFalse hne=>exact absurd h hne
 rename_i a;split at h
 case isFalse hne=>exact absurd h hne
 rename_i b;exact⟨a,b⟩
def YN{s:af}{w:Int}(h:kg s w=0):(mF s w).okB=true/\mA s.aj (mF s w).qs (mF s w).ts s.ps s.calls/\∀p∈(mF s w).qs,p.who≠w:=by
 obtain⟨o,r⟩:=yT h;obtain⟨f,v⟩:=wZ o;have f:=gX.1 f;have x:=(zm f.aj (w:=w) ak).2;obtain⟨e,a2⟩:=M0 f x v 8 0 rfl (b:=s.book) ⟨f.book,f.known,rfl⟩ (λk hk=>by omega) r;have a:=dn.1 e.ok;unfold mF;rw[aq h];refine⟨dn.2 ⟨λp c=>a.ok p (DL.1 c).1,SP a.pw,λn g i=>?_,a.tok,a.tpw,a.tl,a.n0,a.n1⟩,⟨λp c=>e.known.qs p (DL.1 c).1,λt j=>?_,e.known.ps,e.known.cs⟩,λp c=>(DL.1 c).2⟩
 ·dsimp only;rw[<-a.level n g i];have key:∀l:List aB,(∀p∈l,p.who=w->p.aO=0)->ay (dP n (lZ w l))=ay (dP n l):=λl=>by
   induction l with
   |nil=>intro _;rfl
   |cons p t ih =>
    intro m;rw[n8,<-ih λq u=>m q (by simp[u])];unfold lZ;rw[flatMap_cons,LA,fM];congr 1;split
    ·rename_i d;rw[m p sT (su d)];split<;>rfl
    ·rw[n8];simp[dP,ay]
  refine key _ λp c d=>?_;have hpi:=(iJ.1 (a.ok p c)).2.1;have:=a2 (p.inst-1).toNat ak;rw[show(((p.inst-1).toNat:Nat):Int)+1=p.inst by omega,tX a.pw c ⟨d,rfl⟩]at this;exact this
 ·dsimp only at j;rw[e.ts]at j;exact e.known.ts t j
def join_eq(l:List aK):xO l=(fG l,jk l):=Pf (λ_ h=>tq.2 h) wH l
theorem Vd(l:List aK)(a:l.length<2^29):Sq 48 [] [.sl 4 (l.map aK.cells)] [.own 4 ((fG l).map aK.cells)] (.bI [.ref 0,.int .i64 (jk l)]):=by
 have:=Ph l a;rwa[join_eq]at this
theorem Hq(l:List aK)(a:l.length<2^29):Sq 48 [] [.sl 4 (l.map aK.cells)] [] (.bI [.sl 4 ((fG l).map aK.cells),.int .i64 (jk l)]):=by
 refine Spec.frozen (Vd l a) [0] rfl ?_;intro r;rcases r with _|r<;>rfl
theorem Sc(a b:aC)(n:Int):Sq 45 [] [.agg a.cells,.agg b.cells,.int .i64 n] [] (.sl 4 ((bR a b n).map aK.cells)):=by
 refine Spec.frozen (Vw a b n) [0] rfl ?_;intro r;rcases r with _|r<;>rfl
theorem Cf(c:Int):Sq 130 [] [.int .i64 c] [] (.bool (within c 0 2)):=by
 refine bp 9 1 [.tmp 2] mixed func130 ?_;by_cases d:0<=c
 ·by_cases f:c<3
  ·have a:decide (0<=c)=true:=dY d;have b:decide (c<3)=true:=dY f;have e:within c 0 2=true:=by simp[within];omega
   exact dL (a3 a b e)
  ·have a:decide (0<=c)=true:=dY d;have b:decide (c<3)=false:=iA f;have e:within c 0 2=false:=by simp[within];omega
   exact dL (a3 a b e)
 ·have a:decide (0<=c)=false:=iA d;have e:within c 0 2=false:=by simp[within];omega
  exact dL (a2 a e)
def zz(ws:List Int):Bool:=pY (λx=>within x 1 16) (λa b=>decide (a<b)) ws
def named_eq(c:Int)(ws:List Int):yO c ws=(within c 0 2&&zz ws):=by rw[yO,Bool.and_comm];rfl
def Al(ws:List Int)(hl:ws.length<2^30):Sq 131 [] [.sl 1 (ints ws)] [] (.bool (zz ws)):=by
 simp only[zz];refine bp 32 1 [.tmp 2] mixed func131 ?_;simp only[go_sem,seval,az];refine aF.w1 ws.length 7 [0,5,6] [112] (λi _=>∀j<i,nL (λx=>within x 1 16) (λa b=>decide (a<b)) ws j=true) sT ?_ ?_
 ·intro i _ e c n s;have k:=ints_at ws e;have hil:=az ws;have hli:(i:Int)<(ws.length:Int):=ak
  have e0:=qR (ok:=λx=>within x 1 16) (lt:=λa b:Int=>decide (a<b)) (xs:=ws) (i:=i) s;have r:nL (λx=>within x 1 16) (λa b=>decide (a<b)) ws i=false->pY (λx=>within x 1 16) (λa b=>decide (a<b)) ws=false:=λh=>uV e h;have g:within ws[i] 1 16=false->nL (λx=>within x 1 16) (λa b=>decide (a<b)) ws i=false:=λh=>by
   rcases Nat.eq_zero_or_pos i with rfl|hpos
   ·rw[jf (ok:=λx=>within x 1 16) (lt:=λa b:Int=>decide (a<b)) e,h]
   ·obtain⟨j,rfl⟩:∃j,i=j+1:=⟨i-1,by omega⟩
    rw[iG (ok:=λx=>within x 1 16) (lt:=λa b:Int=>decide (a<b)) e,h];rfl
  by_cases z:ws[i]<1
  ·have d:decide (ws[i]<1)=true:=dY z;have:=r (g (by simp[within];omega));simp only[go_sem,seval,az,c,k,d,this];exact Si
  have o:decide (ws[i]<1)=false:=iA z;by_cases A:16<ws[i]
  ·have d:decide (16<ws[i])=true:=dY A;have:=r (g (by simp[within];omega));simp only[go_sem,seval,az,c,k,o,d,this];exact Si
  have q:decide (16<ws[i])=false:=iA A;have f:within ws[i] 1 16=true:=by simp[within];omega
  rcases Nat.eq_zero_or_pos i with rfl|hpos
  ·have p:=jf (ok:=λx=>within x 1 16) (lt:=λa b:Int=>decide (a<b)) e;have t:decide ((0:Int)<(ws.length:Int))=true:=iy;simp only[go_sem,seval,az,t,k,o,q,n];refine bg ?_;all_goals refine ah.u e (e0 (by rw[p,f])) ?_
   all_goals simp only[go_sem,seval]
   all_goals rfl
  ·obtain⟨j,rfl⟩:∃j,i=j+1:=⟨i-1,by omega⟩
   have w:j<ws.length:=ak
   have m:IntKind.wrap .i64 (((j+1:Nat):Int)-1)=(j:Int):=fQ;have p:=iG (ok:=λx=>within x 1 16) (lt:=λa b:Int=>decide (a<b)) e;have l:=ints_at ws w;have y:decide (0<((j+1:Nat):Int))=true:=iy;by_cases B:ws[j]<ws[j+1]
   ·have d:decide (ws[j+1]<=ws[j])=false:=iE;simp only[go_sem,seval,az,c,k,o,q,y,m,l,d,n];refine bg ?_;refine ah.u e (e0 (by rw[p,f,dY B];rfl)) ?_;exact jq
   ·have d:decide (ws[j+1]<=ws[j])=true:=iy;have:=r (by rw[p,f,iA B];rfl);simp only[go_sem,seval,az,c,k,o,q,y,m,l,d,this];exact Si
 ·intro _ v s;have:=oS (λj (w:j<ws.length)=>s j w);simp only[go_sem,seval,az,v,this]
theorem JC(l:bu)(c:Int)(ws:List Int)(hb:l.bs.length<2^30)(hl:ws.length<2^30):Sq 132 [] [.agg l.cells,.int .i64 c,.sl 1 (ints ws)] [.own 1 (ints (bH l c ws))] (.ref 0):=by
 have d:=λa=>Be l a ak;simp only[bu.cells,aC.cells]at d |-;refine bp 26 3 [.tmp 6] mixed func132 ?_;simp only[go_sem,seval,az];refine aF.wv ws.length [1,3,10,11] [64] (λi=>[(12,.I i),(7,.ref 384)]) (λi=>[(384,.own 1 (ints (bH l c (ws.take i))))]) ?_ ?_ ?_
 ·simp only[go_sem,seval]<;>simp[bH,ints]
 ·intro i _ h f j _;have k:=ints_at ws h;have hil:=az ws;have hli:(i:Int)<(ws.length:Int):=ak
  have m:ints (bH l c (ws.take (i+1)))=ints (bH l c (ws.take i))++[[.I (eP ⟨3,ws[i],c⟩ l.bs)]]:=by
   rw[jU h];simp only[bH,ints,jF,map_cons,map_nil]
  have b:(bH l c (ws.take i)).length=i:=by simp[bH];omega
  have e:=d ⟨3,ws[i],c⟩;clear d;refine sc (a2 f k) e ?_;simp only[go_sem,seval,az,b,j];refine bg ?_;refine ah.v h ?_;exact dL m
 ·intro _ g _;simp only[go_sem,seval,az,g,eu]
theorem yC(l:bu)(c:Int)(ws:List Int)(a:l.bs.length<2^30)(b:ws.length<2^30):Sq 132 [] [.agg l.cells,.int .i64 c,.sl 1 (ints ws)] [] (.sl 1 (ints (bH l c ws))):=by
 refine Spec.frozen (JC l c ws a b) [0] rfl ?_;intro r;rcases r with _|r<;>rfl
def GZ(r:aA)(ws:List Int)(h:r.jX)(hl:ws.length<2^30):Sq 135 [] [.agg r.cells,.sl 1 (ints ws)] [.own 1 (ints (cr r ws))] (.ref 0):=by
 have c:=λn=>lA r n h.small;simp only[aA.cells]at c |-;refine bp 29 2 [.tmp 4] mixed func135 ?_;simp only[go_sem,seval,az];refine aF.wv ws.length [2,10,11] [48] (λi=>[(12,.I i),(5,.ref 432)]) (λi=>[(432,.own 1 (ints (cr r (ws.take i))))]) ?_ ?_ ?_
 ·simp only[go_sem,seval]<;>simp[cr,ints]
 ·intro i _ f d j _;have m:=ints_at ws f;have hil:=az ws;have hli:(i:Int)<(ws.length:Int):=ak
  have k:ints (cr r (ws.take (i+1)))=ints (cr r (ws.take i))++[[.I (fm r ws[i]).need]]:=by
   rw[jU f];simp only[cr,ints,jF,map_cons,map_nil]
  have b:(cr r (ws.take i)).length=i:=by simp[cr];omega
  have a:=c ws[i];obtain⟨g,l⟩:=aN (fm r ws[i]);rw[<-l]at a k;simp only[av.cells]at a;clear c;refine sc (a2 d m) a ?_;simp only[go_sem,seval,az,b,j];refine bg ?_;refine ah.v f ?_;exact dL k
 ·intro _ e _;simp only[go_sem,seval,az,e,eu]
def xM(r:aA)(ws:List Int)(h:r.jX)(a:ws.length<2^30):Sq 135 [] [.agg r.cells,.sl 1 (ints ws)] [] (.sl 1 (ints (cr r ws))):=by
 refine Spec.frozen (GZ r ws h a) [0] rfl ?_;intro r;rcases r with _|r<;>rfl
def Ds{l:List Int}(h:∀n∈l,bB n=true):right l=true:=bL.2 h
def kW{l:List Int}(h:right l=true):oI l=(if bB (ay l)then ay l else 0)/\oa l=if bB (ay l)then 0 else 1:=by
 simp[oI,oa,h]
theorem xN(l:bu)(c:Int)(ws:List Int)(i:l.bs.length<2^30)(hl:ws.length<2^29):Sq 40 [] [.agg l.cells,.int .i64 c,.sl 1 (ints ws)] [] (.bI [.int .i64 (ir l c ws),.int .i64 (dV l c ws)]):=by
 have c1:=u7 l i;have c2:=Cf c;have c3:=Al ws ak;have c4:=yC l c ws i ak;have h:=jr (bH l c ws) (by simp[bH];omega);have a:dV l c ws=if l.okB then(if within c 0 2&&zz ws then(if bB (ay (bH l c ws))then 0 else 1)else 3)else 14:=by rw[dV,named_eq]
 obtain⟨E,b⟩:=aN (dV l c ws);simp only[ir,<-b];rw[<-b]at a;clear b;simp only[bu.cells]at c1 c4 |-;refine bp 31 3 [.tmp 6,.tmp 7] mixed func40 ?_;refine sc aS c1 ?_;cases d:l.okB
 ·rw[d]at a;have e:E=14:=su a;rw[e];exact kG
 rw[d,aq rfl]at a;refine sc aS c2 ?_;cases f:within c 0 2
 ·have e:E=3:=by rw[a,f];rfl
  rw[e];exact kG
 refine sc aS c3 ?_;cases g:zz ws
 ·have e:E=3:=by rw[a,f,g];rfl
  rw[e];exact kG
 rw[f,g,Bool.and_self,aq rfl]at a;have j:=Ds (l:=bH l c ws) λn k=>by obtain⟨w,_,rfl⟩:=mem_map.1 k;exact mQ d _
 rw[(kW j).1,(kW j).2]at h;refine sc aS c4 ?_;refine sc aS h ?_;rw[a];cases q:bB (ay (bH l c ws))<;>simp only[go_sem,seval,q]<;>simp
def PI{r:aA}(h:r.okB=true)(w:Int):bB (fm r w).need=true:=by
 refine vI (R:=λm:av=>bB m.need=true) (by decide) λm a=>?_;have:=Sb h m a;simp only[av.ok,bQ]at this;exact this.1.2
theorem yB(r:aA)(ws:List Int)(h:r.jX)(hl:ws.length<2^29):Sq 42 [] [.agg r.cells,.sl 1 (ints ws)] [] (.bI [.int .i64 (ke r ws),.int .i64 (gp r ws)]):=by
 have c1:=tZ r h.small;have c3:=Al ws ak;have c4:=xM r ws h ak;have f:=jr (cr r ws) (by simp[cr];omega);have a:gp r ws=if r.okB then(if zz ws then(if bB (ay (cr r ws))then 0 else 1)else 3)else 14:=by rw[gp,named_eq];simp[within]
 obtain⟨E,b⟩:=aN (gp r ws);simp only[ke,<-b];rw[<-b]at a;clear b;simp only[aA.cells]at c1 c4 |-;refine bp 23 2 [.tmp 4,.tmp 5] mixed func42 ?_;refine sc aS c1 ?_;cases c:r.okB
 ·rw[c]at a;have e:E=14:=su a;rw[e];exact kG
 rw[c,aq rfl]at a;refine sc aS c3 ?_;cases d:zz ws
 ·have e:E=3:=by rw[a,d];rfl
  rw[e];exact kG
 rw[d,aq rfl]at a;have g:=Ds (l:=cr r ws) λn i=>by obtain⟨w,_,rfl⟩:=mem_map.1 i;exact PI c w
 rw[(kW g).1,(kW g).2]at f;refine sc aS c4 ?_;refine sc aS f ?_;rw[a];cases q:bB (ay (cr r ws))<;>simp only[go_sem,seval,q]<;>simp
def I4{n:Int}{gs:List Int}(h0:0<=n)(h1:n<=ay gs)(h2:n<=4611686018427387904)(c:∀g∈gs,0<=g/\g<=4611686018427387904)(hl:gs.length<=1024):gZ n gs=0:=by
 rw[Eg];have a:iP n gs=0:=by
  have d:right gs=true:=bL.2 λx b=>by rw[aP];have:=c x b;omega
  have e2:sQ gs=true:=bL.2 λx b=>by have:=c x b;simp;omega
  have e:bB n=true:=by rw[aP];omega
  have f:decide (n<0)=false:=iE;simp only[iP,f,d,e2,e,au (by omega:¬ 1024<gs.length)];rfl
 rw[aq a];split
 ·rw[aq ak]
 ·rfl
theorem yA(k c n:Int)(ws gs:List Int)(he:gs.length=ws.length)(hl:ws.length<=1024)(D:∀g∈gs,0<=g/\g<=4611686018427387904):Sq 137 [] [.int .i64 k,.int .i64 c,.int .i64 n,.int .i64 (ay gs),.sl 1 (ints ws),.sl 1 (ints gs)] [] (.bI [.sl 4 ((rC k c n (ay gs) ws gs).map aK.cells),.int .i64 (oQ k c n (ay gs) ws gs)]):=by
 have c0:=fq [n] sT;rw[D8]at c0;simp only[ints,map_cons,map_nil]at c0;obtain⟨b,l⟩:=aN (ay gs);rw[<-l];obtain⟨E,a⟩:=aN (oQ k c n b ws gs);have j:=a;simp only[rC,<-j];clear j;simp only[oQ]at a;refine bp 71 6 [.tmp 12,.tmp 13] mixed func137 ?_;by_cases G:n<0
 ·have d:decide (n<0)=true:=dY G;have e:E=3:=by rw[a,au];simp[within];omega
  rw[e];exact gY d
 have J:decide (n<0)=false:=iA G;refine sl J c0 ?_;cases H:bB n
 ·have e:E=3:=by rw[a,au];simp[bB,within]at H |-;omega
  rw[e];exact kG
 have hn:=aP.1 H;rw[aq (by simp[within];omega)]at a;by_cases t:b<n
 ·have d:decide (b<n)=true:=dY t;rw[aq t]at a;rw[a];exact gY d
 have K:decide (b<n)=false:=iA t;rw[au t]at a;have c2:=SN n gs ak;have y:=jV n gs;have p:=I3 n gs;rw[I4 ak ak ak D ak]at c2;obtain⟨ps,q⟩:=aN (bA n gs);rw[<-q]at c2 y p a |-;have hgl:=lX (f:=lT k c ws ps) (m:=1) (λi=>by simp[lT]) ps.length;have A:=Hq (rB k c n ws ps) (by simp only[rB,length_cons];omega);have B:(if E=0 then fG (rB k c n ws ps)else[])=fG (rB k c n ws ps):=by
  split
  ·rfl
  ·rename_i h;simp[fG,<-a,h]
 rw[B,a];clear B a q D c0;refine sc K c2 ?_;simp only[go_sem,seval,az];refine aF.wv ps.length [0,1,4,46,47] [] (λi=>[(48,.I i),(16,.ref 1056)]) (λi=>[(1056,.own 4 ((⟨6,0,c,n⟩::pQ (lT k c ws ps) i:List aK).map aK.cells))]) ?_ ?_ ?_
 ·simp only[go_sem,seval,mw]<;>simp
 ·intro i _ s u z _;have M:=ints_at ps s;have o:i<ws.length:=ak
  have x:=ints_at ws o;have hp:=p ps[i] (dS s);have N:IntKind.wrap .i64 (0-ps[i]) = -ps[i]:=fQ;have F:(⟨6,0,c,n⟩::pQ (lT k c ws ps) (i+1):List aK)=(⟨6,0,c,n⟩::pQ (lT k c ws ps) i)++[⟨k,ws[i],c,-ps[i]⟩]:=by
   rw[ji];simp[lT,s,o]
  have hll:=lX (f:=lT k c ws ps) (m:=1) (λi=>by simp[lT]) i;obtain⟨L,C⟩:=aN ((⟨6,0,c,n⟩::pQ (lT k c ws ps) i:List aK));have hLl:L.length<=i+1:=by rw[C,length_cons];omega
  rw[<-C]at F |-;have hlw:(i:Int)<(ws.length:Int):=ak
  have hlp:(i:Int)<(ps.length:Int):=ak
  clear A;simp only[go_sem,seval,az,u,M,x,N,z];refine bg ?_;refine ah.v s ?_;refine s0 ?_;have r:=congrArg (map aK.cells) F;simp only[jF,map_cons,map_nil]at r |-;exact r.symm
 ·intro _ w _;simp only[go_sem,seval,az,w];refine bg ?_;refine aG.gE [1056] [] false sT ?_;refine s0 ?_;refine cz.gF A ?_;exact jq
def Lk{s:af}{w v:Int}(h:v∈aJ s w):v≠w:=by
 obtain⟨x,_,a,rfl⟩:=jl h;simpa using a
def YB{s:af}{w:Int}{i:Nat}(h:o9 s w i=0):jI s w i (aQ s w i)=0/\jx i (eT s w i (aQ s w i)) (fC s w i (aQ s w i))=0:=by
 unfold o9 at h;split at h
 ·rename_i a;exact⟨a,h⟩
 ·rename_i a;exact absurd h a
