/- What EnginePays needs. -/
import Derived.Test.YtccipdjjkcejgaaGreatKZ
set_option linter.unusedSimpArgs false
set_option linter.unusedVariables false
set_option maxHeartbeats 4000000
set_option maxRecDepth 16000
namespace Go.Proofs.YtccipdjjkcejgaaGreat
open Go.Abs Tryz
open List hiding lt
theorem amD (a:List Int) (k:Int) {i:Nat} (h:i < a.length):Ob (a.take (i+1)) k=(Ob (a.take i) k||a[i]==k):=by
 simp only [Ob];rw [l7 h,any_append];simp
theorem ahR:Sq 38 [] [.sl 1 [[.I 1],[.I 2],[.I 3],[.I 4],[.I 5],[.I 6]]] [.own 3 (jd.map aP.cells)] (.ref 0):=by
 obtain ⟨e,f⟩:=aQ ([1,2,3,4,5,(6:Int)]);have o:e.length=6:=by rw [f];rfl
 have B:([[.I 1],[.I 2],[.I 3],[.I 4],[.I 5],[.I 6]]:List (List D))=ints e:=by rw [f];rfl
 have t:∀ i:Nat,i < 6->Ob e ((i:Int)+1)=true:=fun i hi=>by
  rw [f];simp only [Ob,any_cons,any_nil,Bool.or_eq_true,eH];omega
 rw [B];clear B f;refine bf 51 1 [.tmp 2] mixed func38 ?_;refine s0 ?_;refine aM.wv 6 [0] [] (fun i=>[(4,.I ((i:Int)+1)),(3,.ref 800)]) (fun i=>[(800,.own 3 ((aaG i).map aP.cells))]) ?_ ?_ ?_
 ·simp only [go_sem,seval]<;>simp [aaG]
 ·intro k _ E _ _ _;have A:decide ((k:Int)+1<=6)=true:=iC;have r:IntKind.wrap .i64 ((k:Int)+1+1)=((k+1:Nat):Int)+1:=gN;obtain ⟨K,s⟩:=aQ ((k:Int)+1);have l:aaG (k+1)=aaG k++Un k 17:=PR _ k;have hlen:=aaH k;rw [<- s] at A r |-;simp only [go_sem,seval,A,aW,o];refine aM.wv 6 [0,3,4] [800] (fun j=>[(6,.I j),(5,.bool (Ob (e.take j) K))]) (fun _=>[]) ?_ ?_ ?_
  ·simp only [go_sem,seval]<;>simp [Ob]
  ·intro j _ C a q _;have h:j < e.length:=ah
   have g:=amD e K h;have a:decide ((j:Int) < 6)=true:=a;cases m:Ob (e.take j) K
   ·rw [m,Bool.false_or] at g;simp only [go_sem,seval,aW,o,a,ints_at e h,q];refine dP ?_;refine av.v C ?_;exact fL g
   ·rw [m,Bool.true_or] at g;simp only [go_sem,seval,aW,o,a,ints_at e h,q];refine dP ?_;refine av.v C ?_;exact fL g
  intro _ a _;have a:decide ((6:Int) < 6)=false:=a;have G:Ob (e.take 6) K=true:=by rw [<- o,jr,s];exact t k E
  rw [G];simp only [go_sem,seval,aW,o,a];refine aM.wv 17 [0,4,5] [] (fun j=>[(7,.I j),(3,.ref 800)]) (fun j=>[(800,.own 3 ((aaG k++Un k j).map aP.cells))]) ?_ ?_ ?_
  ·simp only [go_sem,seval]<;>simp [Un]
  ·intro w _ F n x _;have n:decide ((w:Int)<=16)=true:=iC;have u:Un k (w+1)=Un k w++Rf k w 3:=PR _ w;have hlw:=aaJ k w;refine sm n ?_;refine aM.wv 3 [0,4,5,7] [] (fun j=>[(8,.I j),(3,.ref 800)]) (fun j=>[(800,.own 3 ((aaG k++Un k w++Rf k w j).map aP.cells))]) ?_ ?_ ?_
   ·simp only [go_sem,seval]<;>simp [Rf]
   ·intro c _ z b p _;have b:decide ((c:Int) < 3)=true:=b;have d:Rf k w (c+1)=Rf k w c++acc k w c:=PR _ c;have hlc:=aaF k w c;have y:=Ll ⟨K,w,c⟩;simp only [aP.cells] at y;simp only [acc,<- s] at d;refine sc b y ?_;cases m:aP.right ⟨K,w,c⟩
    ·rw [m] at d;refine sm p ?_;refine av.v z ?_;simp only [go_sem,seval,d]<;>simp
    ·rw [m] at d;simp only [go_sem,seval,p,cm];refine dP ?_;refine av.v z ?_;simp only [go_sem,seval,d]<;>simp [aP.cells]
   ·intro _ b _;have b:decide ((3:Int) < 3)=false:=b;refine sm (a2 b x) ?_;refine av.v F ?_;simp only [go_sem,seval,u]<;>simp
  ·intro _ _ _;refine sm r ?_;refine av.v E ?_;simp only [go_sem,seval,l]<;>simp
 ·intro _ _ _;simp only [go_sem,seval,jd]
theorem TC {s:af} (i:s.EJ) (c:aN) {B:Int} (hB:0<=B/\B<=1099511627776) (h:∀ x∈s.aA,x.seq<=B):∀ x∈(kH s c).1.aA,x.seq<=B+1:=by
 cases a:(ec s c).2
 case true=>rw [iI a];intro x b;have:=h x b;omega
 have hr:=i.eo.right;obtain ⟨j,-⟩:=ia hr;have g:=(xO hr a).2;have f:=(uv hr a).1;have k:c.seq<=B+1:=by
  rw [pS hr,aq f] at a;unfold KD at a;split at a
  ·have:=va a ah;omega
  ·rename_i y l;have e:=((iY j).1 l).1;have d:=h y e;have h2:=yR.1 (((jA (lt:=fW) jX).1 hr.aA).1 y e);split at a
   ·cases a
   ·split at a
    ·cases a
    ·have:=va a ah;omega
 rw [qZ a];intro x b;rcases (OQ hr g _ x).1 b with rfl | ⟨d,-⟩
 ·exact k
 ·have:=h x d;omega
theorem S5:∀ (l:List aN) {s:af} {B:Int},s.EJ->(0<=B/\B+l.length<=1099511627776)->(∀ x∈s.aA,x.seq<=B)->∀ x∈(OD l s).aA,x.seq<=B+l.length
 | [],_,_,_,_,h=>fun x a=>by
  have:=h x a;simp only [length_nil];omega
 | c :: r,s,B,he,hB,h=>by
  rw [length_cons] at hB |-;have:=S5 r (nL he (fI s c)) (B:=B+1) ⟨by omega,by omega⟩ (TC he (fI s c) ⟨by omega,by omega⟩ h);intro x a;have:=this x a;push_cast at this |-;omega
theorem acw (l:List aN):∀ x∈(DW l).aA,x.seq<=200:=by
 intro x a;have hl:(l.take 200).length<=200:=by rw [dY];omega
 have:=S5 (l.take 200) kI (B:=0) ⟨by omega,by omega⟩ (fun x a=>by cases a) x a;omega
theorem Oo {s:af} (i:s.EJ) (h:∀ x∈s.aA,x.seq<=1000) {c:aN} (j:c.seq=4) (e:fC (fI s c)=0):(ec s (fI s c)).2=false:=by
 have hr:=i.eo.right;obtain ⟨g,-⟩:=ia hr;have d:ZB c.seq=4:=by rw [j];decide
 have a:(fI s c).seq=xQ (fI s c).client s.aA 0+1:=by
  show aeT c.seq _=_;unfold aeT;rw [d,ak (by decide),ak (by decide),ak (by decide)];rfl
 rw [abQ g] at a;obtain ⟨x,k⟩:=aQ (fI s c);rw [<- k] at a e |-;rw [pS hr,aq e];unfold KD;cases b:kY s.aA x.client with
 | none =>
  rw [b] at a;have a:x.seq=0+1:=a;show (jh x 0).2=false;have w:IntKind.wrap .i64 (0+1)=1:=rfl;unfold jh;rw [w,aq ah,ak ah]
 | some y =>
  rw [b] at a;have a:x.seq=y.seq+1:=a;have f:=((iY g).1 b).1;have h1:=h y f;have h2:=yR.1 (((jA (lt:=fW) jX).1 hr.aA).1 y f);have w:IntKind.wrap .i64 (y.seq+1)=y.seq+1:=gA ah ah;show (if x.seq=y.seq then _ else if x.seq < y.seq then _ else jh x y.seq).2=false;rw [ak ah,ak ah];unfold jh;rw [w,aq a,ak ah]
theorem Vc (s:af) (c:aN):1<=(fI s c).client/\(fI s c).client<=8:=by
 show 1<=c.client%8+1/\c.client%8+1<=8;omega
theorem Sw {s:af} {c:aN} (h:AJ (rA (fI s c))=true) (hk:1<=c.kind/\c.kind<=22):fC (fI s c)=0:=by
 have hc:=Vc s c;have e:(fI s c).kind=c.kind:=rfl;rw [form_eq,e,aq (by simp [within];omega),h,aq (by simp [within];omega)]
theorem ahW {a x:aP} {n:Int} (h:x≠a) (r:List cq):jo a (EB x n++r)=jo a r:=by
 unfold EB;split
 ·rfl
 ·simp only [cons_append,nil_append,jo];rw [ak];intro b;exact h (P1.1 b)
theorem ahY {a:aP} (S:aP->Int):∀ {L:List aP},L.Pairwise (fun x y=>x.less y=true)->a∈L->jo a (L.flatMap fun x=>EB x (S x))=S a
 | [],_,h=>by cases h
 | x :: r,hp,h=>by
  rw [iL] at hp;rw [flatMap_cons];by_cases e:x=a
  ·subst e;unfold EB;split
   ·rename_i f;have f:S x=0:=by simpa using f
    rw [f,nil_append,SU];intro b c d;obtain ⟨y,i,c⟩:=mem_flatMap.1 c;split at c
    ·cases c
    ·obtain rfl:=ga.1 c;have:y=x:=d;have g:=hp.1 y i;rw [this] at g;exact KL g
   ·simp only [cons_append,nil_append,jo];rw [aq (show WB x ⟨x.kind,x.who,x.cur,S x⟩=true from P1.2 rfl)]
  ·rw [ahW e];rcases mem_cons.1 h with h | h
   ·exact absurd h.symm e
   ·exact ahY S hp.2 h
theorem arS {l:bE} {id:Int} {g:List aU} {a:aP} (h:gf l id g=0) (b:a∈jd):jo a (kR l id g).bs=jo a l.bs+aG (jC a g):=by
 unfold kR;rw [aq h];exact ahY (tP l g) uV b
theorem ars {l:bE} {id n:Int} {a b x:aP} (h:gf l id (cg a b n)=0) (j:bQ n=true) (f:a≠b) (k:x∈jd) :
  jo x (kR l id (cg a b n)).bs=jo x l.bs+if x=b then n else if x=a then -n else 0:=by
 rw [arS h k];unfold cg;rw [aq j,Yw,Yw];show jo x l.bs+((if a=x then -n else 0)+((if b=x then n else 0)+0))=jo x l.bs+if x=b then n else if x=a then -n else 0;by_cases c:x=b
 ·have d:¬ a=x:=fun e=>f (e.trans c);rw [ak d,aq c.symm,aq c];omega
 have g:¬ b=x:=fun e=>c e.symm;by_cases d:x=a
 ·rw [aq d.symm,ak g,ak c,aq d];omega
 ·have i:¬ a=x:=fun e=>d e.symm;rw [ak i,ak g,ak c,ak d];omega
theorem ah5 {l:bE} {id:Int} {g:List aU} (h:gf l id g=0):(kR l id g).last=id:=by
 unfold kR;rw [aq h]
theorem ahN {s:af} {g:List aU} (h:qz s g=0):(sF s g).bu=kR s.bu (nextId s.bu) g:=by
 unfold sF;rw [aq h]
def agI (k a w b n:Int):aN:=⟨a,4,k,w,0,0,0,b,0,0,n,0,0,0,0,0,0⟩
def ahu (k w a:Int):aP:=if k=8 then ⟨3,w,a⟩ else if k=9 then ⟨4,0,a⟩ else ⟨2,w,a⟩
def ahO (k n:Int):Int:=if k=5 then -n else n
def arA (c:aN):List aU:=if c.kind=5 then cg (ahu c.kind c.who c.cur) ⟨1,0,c.cur⟩ c.br else cg ⟨1,0,c.cur⟩ (ahu c.kind c.who c.cur) c.br
theorem arQ {s:af} {c:aN} (a:c.kind=4\/c.kind=5\/c.kind=8\/c.kind=9) (h:(dw s c).2.1=0) :
  within c.br 1 4611686018427387904=true/\gf s.bu (nextId s.bu) (arA c)=0/\(dw s c).1.bu=kR s.bu (nextId s.bu) (arA c):=by
 unfold arA ahu;rcases a with a | a | a | a
 case inr.inr.inr =>
  have d:dw s c=if within c.cur 0 2&&within c.br 1 4611686018427387904 then (sF s (cg ⟨1,0,c.cur⟩ ⟨4,0,c.cur⟩ c.br),qz s (cg ⟨1,0,c.cur⟩ ⟨4,0,c.cur⟩ c.br),0,0,[],[]) else (s,3,0,0,[],[]):=by simp [dw,a]
  simp only [a,seval];split at d<;>rw [d] at h |-
  ·rename_i q;rw [cU] at q;exact ⟨q.2,h,ahN h⟩
  ·cases h
 all_goals
  have d:dw s c=((wM s c).1,(wM s c).2,0,0,[],[]):=by simp [dw,a]
  rw [d] at h |-
  replace h:(wM s c).2=0:=h;show _/\_/\(wM s c).1.bu=_;unfold wM at h |-;simp only [a,seval] at h |-;split at h
  ·rename_i q;rw [aq q];rw [cU] at q;split at h
   ·rename_i e;rw [aq e];first
     | exact ⟨q.2,h,ahN h⟩
     | (split at h
        ·rename_i b;exact ⟨q.2,b,by (try rw [aq b]);exact ahN b⟩
        ·rename_i b
         exact absurd h b)
   ·rename_i e;exact absurd h e
  ·cases h
theorem anO {s:af} (j:s.EJ) (y:∀ x∈s.aA,x.seq<=1000) {k:Int} (m:k=4\/k=5\/k=8\/k=9) (f w a n:Int) (v:k=9->w=0)
  (h:(kH s (fI s (agI k f w a n))).2.code=0) :
  (kH s (fI s (agI k f w a n))).1.bu.last=s.bu.last+1/\(1<=n/\n<=4611686018427387904)/\∀ x∈jd,jo x (kH s (fI s (agI k f w a n))).1.bu.bs=jo x s.bu.bs+if x=ahu k w a then ahO k n else if x=⟨1,0,a⟩ then -ahO k n else 0:=by
 have t:fC (fI s (agI k f w a n))=0:=Sw (by rcases m with rfl | rfl | rfl | rfl<;>simp [AJ,rA,fI,agI,v]) (by show 1<=k/\k<=22;omega);have g:=Oo j y rfl t;have b:nextId s.bu=s.bu.last+1:=gA (by have:=j.eo.good.n7.last.1;omega) (by have:=j.eo.last;omega);obtain ⟨c,d⟩:=aQ (fI s (agI k f w a n));have o:c.kind=k:=by rw [d];rfl
 have e2:c.who=w:=by rw [d];rfl
 have u:c.cur=a:=by rw [d];rfl
 have p:c.br=n:=by rw [d];rfl
 rw [<- d] at h g |-;clear d t;rw [qZ g] at h |-;dsimp only at h |-
 have r:(dw s c).2.1=0:=by
  unfold gY xw at h;split at h
  ·assumption
  ·exact h
 have z:(gY s c).1=(dw s c).1:=by
  unfold gY xw;rw [aq r]
 rw [z];obtain ⟨q,e,A⟩:=arQ (by rw [o];exact m) r;rw [A];unfold arA at e |-;rw [o,e2,u,p] at e |-;rw [p] at q;have B:1<=n/\n<=4611686018427387904:=by simpa [within] using q
 have l:bQ n=true:=by simp [bQ];omega
 refine ⟨by rw [ah5 e,b],B,fun x C=>?_⟩;unfold ahu at e |-;unfold ahO;rcases m with rfl | rfl | rfl | rfl<;>simp only [seval] at e |-<;>rw [ars e l (by simp) C]
 by_cases i:x=⟨1,0,a⟩
 ·rw [aq i,ak (by rw [i];simp),aq i];omega
 ·rw [ak i,ak i]
theorem aht (l:List aN) (kn t w f n:Int) (hc:∀ c∈l,gm c.br) (H:gm n):Sq 8 [] [.sl 17 (l.map aN.cells),.I kn,.I t,.I w,.I f,.I n] [] (.bool true):=by
 rcases bZ 1000 l.length with hlen | hlen
 ·have d:decide ((1000:Int) < (l.length:Int))=true:=iC;refine bf 148 6 [.tmp 12] mixed func8 ?_;exact fL d
 have d:decide ((1000:Int) < (l.length:Int))=false:=jL;have T:=yO l hlen hc;have cW:=lO;have p:=yN l;have V:=acw l;obtain ⟨s,hs⟩:=aQ (DW l);rw [<- hs] at T p V;clear hs;obtain ⟨k,j,h9,hk,B⟩:∃ k j:Int,(k=9->j=0)/\(k=4\/k=5\/k=8\/k=9)/\(((IntKind.wrap .u64 kn).tmod 4=((0:Nat):Int)/\k=4/\j=w)\/((IntKind.wrap .u64 kn).tmod 4=((1:Nat):Int)/\k=5/\j=w)\/((IntKind.wrap .u64 kn).tmod 4=((2:Nat):Int)/\k=8/\j=w)\/((IntKind.wrap .u64 kn).tmod 4=((3:Nat):Int)/\k=9/\j=0)):=by
  have hu:IntKind.wrap .u64 kn=kn%18446744073709551616:=by rw [IntKind.wrap_u64]
  have e:(IntKind.wrap .u64 kn).tmod 4=(kn%18446744073709551616)%4:=by rw [hu,Int.tmod_eq_emod_of_nonneg ah]
  have:(kn%18446744073709551616)%4=0\/(kn%18446744073709551616)%4=1\/(kn%18446744073709551616)%4=2\/(kn%18446744073709551616)%4=3:=ah
  rcases this with h | h | h | h
  ·exact ⟨4,w,by omega,by omega,.inl ⟨by rw [e,h];rfl,rfl,rfl⟩⟩
  ·exact ⟨5,w,by omega,by omega,.inr (.inl ⟨by rw [e,h];rfl,rfl,rfl⟩)⟩
  ·exact ⟨8,w,by omega,by omega,.inr (.inr (.inl ⟨by rw [e,h];rfl,rfl,rfl⟩))⟩
  ·exact ⟨9,0,by omega,by omega,.inr (.inr (.inr ⟨by rw [e,h];rfl,rfl,rfl⟩))⟩
 have hr:=p.eo.right;have S:=iN s (agI k t j f n) hr;have C:=iw s (fI s (agI k t j f n)) p.trim H;have m:=nL p (fI s (agI k t j f n));have r:=aex p (fI s (agI k t j f n));have g:=anO p (fun x Q=>by have:=V x Q;omega) hk t j f n h9;obtain ⟨x,Q⟩:=aQ (fI s (agI k t j f n));rw [<- Q] at S C m r g;obtain ⟨Z,hZ⟩:=aQ (kH s x);rw [<- hZ] at C m r g;have cT:=gh s p.trim.small;have R:=Ip Z.1.bu s.bu (by have:=m.eo.right.lens.bs;omega);have cA:=ahR;have D:=fun a=>Tn Z.1.bu a (by have:=m.eo.right.lens.bs;omega);have E:=fun a=>Tn s.bu a (by have:=hr.lens.bs;omega);have cE:=Ks;have hlast:=p.eo.last;have hlast0:-9223372036854775808<=s.bu.last:=p.eo.good.n7.last.1;clear Q hZ V m;obtain ⟨L,W⟩:=aQ (jd);have hLl:L.length < 1000:=by rw [W];decide
 rw [<- W] at cA g;clear W;have Y:Z.2.code≠0->(Z.1.bu.last=s.bu.last/\Z.1.bu.bs=s.bu.bs):=fun q=>by
  have:=congrArg af.bu (r q).2;exact ⟨congrArg bE.last this,congrArg bE.bs this⟩
 clear r;have K:∀ v:Int,-4611686018427387904<=v/\v<=4611686018427387904->IntKind.wrap .i64 v=v:=fun v h=>gA ah ah;have ab:IntKind.wrap .i64 (s.bu.last+1)=s.bu.last+1:=gA ah ah;obtain ⟨A,O⟩:=aQ (ahu k j f);obtain ⟨v,J⟩:=aQ (ahO k n);rw [<- O,<- J] at g;have u:Z.2.code=0->∀ y∈L,(decide (y=A)=true/\IntKind.wrap .i64 (jo y Z.1.bu.bs-jo y s.bu.bs)=v)\/(decide (y=A)=false/\((decide (y=⟨1,0,f⟩)=true/\IntKind.wrap .i64 (jo y Z.1.bu.bs-jo y s.bu.bs) = -v)\/(decide (y=⟨1,0,f⟩)=false/\IntKind.wrap .i64 (jo y Z.1.bu.bs-jo y s.bu.bs)=0))):=by
  intro q y hy;obtain ⟨-,h2,h3⟩:=g q;have aa:-4611686018427387904<=v/\v<=4611686018427387904:=by rw [J,ahO];split<;>omega
  have e:∀ a b:Int,a+b-a=b:=fun a b=>by omega
  have h:=h3 y hy;by_cases N:y=A
  ·rw [aq N] at h;exact .inl ⟨dI N,by rw [h,e];exact K v aa⟩
  rw [ak N] at h;refine .inr ⟨eJ N,?_⟩;by_cases e2:y=⟨1,0,f⟩
  ·rw [aq e2] at h;exact .inl ⟨dI e2,by rw [h,e];exact K (-v) ah⟩
  ·rw [ak e2] at h;exact .inr ⟨eJ e2,by rw [h,e];exact K 0 ah⟩
 have pA:(∀ w,ahu 4 w f=⟨2,w,f⟩)/\(∀ w,ahu 5 w f=⟨2,w,f⟩)/\(∀ w,ahu 8 w f=⟨3,w,f⟩)/\(∀ w,ahu 9 w f=⟨4,0,f⟩)/\ahO 4 n=n/\ahO 5 n = -n/\ahO 8 n=n/\ahO 9 n=n:=⟨fun _=>rfl,fun _=>rfl,fun _=>rfl,fun _=>rfl,rfl,rfl,rfl,rfl⟩
 simp only [af.cells,aN.cells,aT.cells,agI,bE.cells] at T S C cT R D E |-;refine bf 148 6 [.tmp 12] mixed func8 ?_;refine sm d ?_;refine aD.RY [(1,.I kn),(2,.I t),(3,.I w),(4,.I f),(5,.I n),(12,.bool false),(29,.addr 224 0)] [(224,.box s.cells)] [] [] false rfl ?_;refine s0 ?_;refine cY.gB T ?_;simp only [go_sem,seval,af.cells];rcases B with ⟨B,rfl,rfl⟩ | ⟨B,rfl,rfl⟩ | ⟨B,rfl,rfl⟩ | ⟨B,rfl,rfl⟩;all_goals
  simp only [pA] at O J;refine sm B ?_;try refine dP ?_
  refine sc aJ cT ?_;refine sc aJ S ?_;by_cases q:Z.2.code=0
  case neg =>
   have F:(Z.2.code==0)=false:=by simpa using q
   obtain ⟨U,g2⟩:=Y q;rw [dI U,dI g2,Bool.and_self] at R;refine sp [224] F C ?_;try simp only [go_sem,seval,bne,F]
   try refine dP ?_
   refine sc aJ R ?_;try refine dP ?_
   exact jW aJ cW
  have F:(Z.2.code==0)=true:=by simpa using q
  obtain ⟨U,g2,-⟩:=g q;have n1:IntKind.wrap .i64 (0-n) = -n:=by rw [Int.zero_sub];exact K (-n) ah
  have n2:IntKind.wrap .i64 (0 - -n) = - -n:=by rw [Int.zero_sub];exact K (- -n) ah
  have dl:(Z.1.bu.last==s.bu.last+1)=true:=by simpa using U
  refine sp [224] F C ?_;try simp only [go_sem,seval,bne,F]
  try refine dP ?_
  refine aD.iT [1456] [] false (by simp) ?_;refine s0 ?_;refine cY.gB cA ?_;refine s0 ?_;refine aM.w1 L.length 22 [13,16,17,18,20,21] [224,272,304,336,1472] (fun _ _=>True) trivial ?_ ?_
  ·intro i _ P G M _;have o:=aV (c:=aP.cells) L P;have hli:(i:Int) < (L.length:Int):=ah
   have u:=u q L[i] (ck P);obtain ⟨y,hy⟩:=aQ (L[i]);rw [<- hy] at o u;have c1:=D y;have c2:=E y;have c3:=Ks y A;have c4:=Ks y ⟨1,0,f⟩;rcases u with ⟨q1,z⟩ | ⟨q1,u⟩
   ·rw [q1] at c3;rw [J] at z;simp only [O,aP.cells] at o c1 c2 c3;refine sc (a2 G o) c1 ?_;refine sc (a2 o z) c2 ?_;refine sc (a2 o n1) c3 ?_;simp only [go_sem,seval,bne,n1,M];refine av.v P ?_;exact gU
   rcases u with ⟨q2,z⟩ | ⟨q2,z⟩;all_goals
    rw [q1] at c3;rw [q2] at c4;try rw [J] at z
    simp only [O,aP.cells] at o c1 c2 c3 c4;refine sc (a2 G o) c1 ?_;refine sc (a2 o z) c2 ?_;refine sc o c3 ?_;refine sc (a3 o n1 n2) c4 ?_;simp only [go_sem,seval,bne,n1,n2,M];refine av.v P ?_;exact gU
  ·intro _ X _;refine sm (a3 X ab dl) ?_;try refine dP ?_
   exact jW aJ cW
end Go.Proofs.YtccipdjjkcejgaaGreat
