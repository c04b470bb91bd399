/- The program's opening of a day, and what follows. No theorem of a claim. -/
import Derived.Test.YtccipdjjkcejgaaGreatMH
import Derived.Test.YtccipdjjkcejgaaGreatMG
import Derived.Test.YtccipdjjkcejgaaGreatMD
import Derived.Test.YtccipdjjkcejgaaGreatMC
set_option linter.unusedSimpArgs false
set_option linter.unusedVariables false
set_option maxHeartbeats 4000000
set_option maxRecDepth 16000
namespace Go.Proofs.YtccipdjjkcejgaaGreat
open Go.Abs Tryz
open List hiding lt max min
theorem Mm (b:aI) (h:b.small):Sq 168 [] [.agg b.cells] [] (.agg b.cells):=by
 have c1:=qw b.ts h.1;have c2:=tv b.qs h.2;simp only [aI.cells];refine bf 12 1 [.cell 2 32] mixed func168 ?_;refine sc aJ c1 ?_;exact jW aJ c2
theorem Jz (b:aI) (h:b.small):Sq 70 [] [.agg b.cells] [] (.agg (aI.cells ⟨b.next,[],b.qs⟩)):=by
 have c1:=Mm b h;simp only [aI.cells] at c1 |-;refine bf 7 1 [.cell 2 32] mixed func70 ?_;refine s0 ?_;(with_reducible and_intros)<;>first|exact .dq|omega|skip
 refine aD.bp c1 ?_;simp only [go_sem,seval];all_goals rfl
def opE (s:af) (a:Int):Int:=if a=0 then (if 1099511627776<=s.day then 1 else 0) else a
def opS (s:af) (a:Int):af:=if opE s a=0 then { s with day:=s.day+1,phase:=0,book:=⟨s.book.next,[],s.book.qs⟩ } else zS
theorem YU (s:af) (f:s.small) (g:gm s.day) (c:∀ x∈s.aA,jE x) (a:Int) (b:Sq 52 [] [.agg s.cells,.I 2] [] (.I a)) :
  Sq 19 [] [.agg s.cells] [] (.bT [.agg (opS s a).cells,.I (opE s a)]):=by
 have c2:=qS s f c;have c3:=Jz s.book f.book;unfold opS opE;simp only [af.cells] at b c2 |-;simp only [aI.cells] at c3;refine bf 34 1 [.cell 2 41,.tmp 3] mixed func19 ?_;refine sc aJ b ?_;by_cases e:a=0
 case neg =>
  have d:(a==0)=false:=by simpa using e
  simp only [go_sem,seval,bne,d,ak e,zS];all_goals rfl
 subst e;by_cases k1:1099511627776<=s.day
 ·have d:decide (1099511627776<=s.day)=true:=dI k1;simp only [go_sem,seval,d,aq k1,ak (by decide:¬ (1:Int)=0),zS];all_goals rfl
 have d:decide (1099511627776<=s.day)=false:=eJ k1;have wd:IntKind.wrap .i64 (s.day+1)=s.day+1:=gA (by have:=g.1;omega) ah;simp only [go_sem,seval,d,ak k1,wd];refine sc aJ c2 ?_;refine sc aJ c3 ?_;simp only [go_sem,seval,wd];all_goals first | rfl | simp
theorem xu (s:af) (p:Int) (a:s.small) (hr:s.right):Sq 52 [] [.agg s.cells,.I p] [] (.I (if s.phase=p then 0 else 15)):=by
 have c1:=mH s a;rw [eW.2 hr] at c1;simp only [if_true] at c1;simp only [af.cells] at c1 |-;refine bf 18 2 [.tmp 4] mixed func52 ?_;by_cases h:s.phase=p
 ·have q:(s.phase==p)=true:=by simpa using h
  rw [aq h];refine sc aJ c1 ?_;simp only [go_sem,seval,bne,q]
 ·have q:(s.phase==p)=false:=by simpa using h
  rw [ak h];refine sc aJ c1 ?_;simp only [go_sem,seval,bne,q]
theorem aj5 (s:af) (w c:Int):bQ (TI s w c)=true:=by
 unfold TI AB;(repeat' split)<;>first | rfl | simp_all
theorem ZT {r:az} (h:r.okB=true):∀ w∈ld r [1],1<=w/\w<=16:=fun w b=>by
 obtain ⟨m,a,-,rfl⟩:=rX b;exact (nP ((cr.1 h).1.1 m a)).1
theorem aaV {xs:List aB} {w c n t:Int} (h:qt cj bO xs=true) (f:1<=w/\w<=16) (d:0<=c/\c<=2) (e:0<=n/\n<=4611686018427387904) (ht:0<=t/\t<=1099511627776):AS xs ⟨w,c,n⟩ t=0:=by
 have a:Cv ⟨w,c,n⟩=true:=AZ.2 ⟨f,d,e⟩;have b:within t 0 1099511627776=true:=by simp [within];omega
 simp only [AS,h,a,b];rfl
theorem Mu (s:af) (v:s.small) (hr:s.right) (ac:∀ x∈s.aA,jE x) :
  Sq 17 [] [.agg s.cells] [.own 3 ((pK s).map aE.cells)] (.bT [.agg (kj s).cells,.ref 0,.I (lG s)]):=by
 have c1:=xu s 1 v hr;have c2:=qS s v ac;have c3:=LX s.aj [1] v.aj (by simp);have r:s.fit:=⟨v.aj.small,v.book,v.bu,v.ps⟩
 have T:=fun w c=>LK s w c r;have Y:=fun xs d (h:xs.length < 2 ^ 29)=>Pz xs d (KP s) h;have ad:=vK s.aj [1];have hml:=v.aj.1;have l:=ZT hr.aj;have hclk:=hr.NI.1;have hlen:=hr.lens.calls;obtain ⟨E,o⟩:=aQ (lG s);have F:=o;simp only [lG,eW.2 hr,if_true] at o;simp only [kj,pK,<- F];clear F;obtain ⟨R,U⟩:=aQ (YG s);rw [<- U] at o |-;simp only [YG] at U;obtain ⟨ws,P⟩:=aQ (ld s.aj [1]);rw [<- P] at c3 U ad l;clear P;have hA:KP s=min (s.now+3) 1099511627776:=rfl;have hw:IntKind.wrap .i64 (s.now+3)=s.now+3:=gA ah ah;have q:=hr.calls;simp only [af.cells] at c1 c2 T |-;rw [show ints [1]=[[.I 1]] from rfl] at c3;simp only [az.cells] at c3;simp only [aE.cells] at Y;by_cases X:s.phase=1
 case neg =>
  rw [ak X] at o c1;rw [o];refine bf 78 1 [.cell 2 41,.tmp 3,.tmp 4] mixed func17 ?_;refine sc aJ c1 ?_;try simp only [go_sem,seval,bne]
  all_goals simp [af.zero,pl]
 rw [aq X] at o c1;obtain ⟨ph,L⟩:=aQ (s.phase);rw [<- L] at X c1 c2 T |-;clear L hr r;refine bf 78 1 [.cell 2 41,.tmp 3,.tmp 4] mixed func17 ?_;refine sc aJ c1 ?_;refine sc aJ c2 ?_;refine aD.iT [400] [] false (by simp) ?_;refine s0 ?_;refine cY.gB c3 ?_;clear c1 c2 c3;simp only [go_sem,seval,aW];refine aM.uB (S:=List aB × List aE) ws.length [1,2,6,25,26] [32,48] (fun i _=>[(3,.nil),(4,.I 0),(27,.I i),(7,.ref 1152)])
  (fun i x=>[(112,.box [.I s.now,.I s.day,.I ph,.sl 3 (s.aj.ms.map au.cells),.sl 12 (s.aj.ns.map aC.cells),.sl 4 (s.aj.xs.map ay.cells),.I s.book.next,.sl 7 (s.book.ts.map aL.cells),.sl 4 (s.book.qs.map aF.cells),
   .I s.bu.last,.sl 4 (s.bu.bs.map cq.cells),.sl 3 (pl s.ps),.sl 4 (x.1.map aB.cells),.sl 5 (s.bH.map bB.cells),.sl 7 (s.aA.map aO.cells)]),(1152,.own 3 (x.2.map aE.cells))])
  (fun i x=>vi s (ws.drop i) x=R/\(x.1.length < 2 ^ 29/\qt cj bO x.1=true)/\x.2.length<=3*i) (s.calls,[]) ⟨U.symm,⟨by dsimp only;omega,q⟩,dU _⟩ ?_ ?_ ?_
 ·simp only [go_sem,seval]<;>simp
 ·intro i x V aa ae b;obtain ⟨cs,ds⟩:=x;obtain ⟨b,f,g⟩:=b;dsimp only at b f g |-;rw [fZ V] at b;simp only [vi] at b;have K:=ints_at ws V;have hli:(i:Int) < (ws.length:Int):=ah
  have z:=T ws[i];have O:=l ws[i] (ck V);obtain ⟨w,M⟩:=aQ (ws[i]);rw [<- M] at b K z O;obtain ⟨Q,hQ⟩:=aQ (rQ s w 3 0 (cs,ds));rw [<- hQ] at b;clear T M l;simp only [go_sem,seval,aW,aa,K];refine dP ?_;refine aM.uB (S:=List aB × List aE) 3 [1,2,6,9,25,26,27] [32,48] (fun c _=>[(3,.nil),(4,.I 0),(31,.I c),(7,.ref 1152)])
   (fun c x=>[(112,.box [.I s.now,.I s.day,.I ph,.sl 3 (s.aj.ms.map au.cells),.sl 12 (s.aj.ns.map aC.cells),.sl 4 (s.aj.xs.map ay.cells),.I s.book.next,.sl 7 (s.book.ts.map aL.cells),.sl 4 (s.book.qs.map aF.cells),
    .I s.bu.last,.sl 4 (s.bu.bs.map cq.cells),.sl 3 (pl s.ps),.sl 4 (x.1.map aB.cells),.sl 5 (s.bH.map bB.cells),.sl 7 (s.aA.map aO.cells)]),(1152,.own 3 (x.2.map aE.cells))])
   (fun c x=>rQ s w (3-c) c x=Q/\(x.1.length < 2 ^ 29/\qt cj bO x.1=true)/\x.2.length<=3*i+c) (cs,ds) ⟨hQ.symm,f,g⟩ ?_ ?_ ?_
  ·simp only [go_sem,seval]<;>simp
  ·intro c x hc C N a;obtain ⟨cs,ds⟩:=x;obtain ⟨a,f,g⟩:=a;dsimp only at a f g |-;have C:decide ((c:Int) < 3)=true:=C;obtain ⟨m,hm⟩:∃ m,3-c=m+1:=⟨3-c-1,by omega⟩
   have J:3-(c+1)=m:=ah
   rw [hm] at a;simp only [rQ] at a;have y:=z c;have j:=Y cs ⟨w,c,TI s w c⟩ f.1;have B:=aaU cs ⟨w,c,TI s w c⟩ (KP s);have k:=(Wh (d:=⟨w,c,TI s w c⟩) (t:=KP s) f.2).1;have H:=bI.1 (aj5 s w c);have u:Xf s w c=0->0<=TI s w c:=fun h=>by have:=(apF h).2.2.2.1;omega
   have p:=fun h=>aaV (c:=(c:Int)) (t:=KP s) f.2 O ⟨by omega,by omega⟩ ⟨u h,H.2⟩ ⟨by omega,by omega⟩;dsimp only at j;obtain ⟨n,hn⟩:=aQ (TI s w c);obtain ⟨e,he⟩:=aQ (Xf s w c);rw [<- hn] at y j a B k p;rw [<- he] at y a p;rw [hA] at j a B k p;clear Y z hn he u H;refine sm C ?_;try (with_reducible and_intros)<;>first|exact .dq|omega|skip
   refine aD.bp y ?_;by_cases D:e=0
   case neg =>
    have d:(e==0)=false:=by simpa using D
    rw [ak D] at a;rw [<- a] at b;dsimp only at b;rw [ak D] at b;rw [<- b] at o;rw [o];simp only [ak D];simp only [go_sem,seval,bne,d];all_goals simp [af.zero,pl]
   rw [aq D] at a;rw [p D] at j;rw [D];refine sc hw j ?_;obtain ⟨A,Z⟩:=aQ (Mk cs ⟨w,c,n⟩ (min (s.now+3) 1099511627776));rw [<- Z] at a B k |-
   by_cases W:n=0
   ·have a:rQ s w m (c+1) (A,ds)=Q:=by rw [<- a];simp [qA,W]
    rw [W];simp only [go_sem,seval,bne,N];refine dP ?_;refine av.kW (A,ds) hc ⟨by rw [J];exact a,⟨by dsimp only;omega,k⟩,by dsimp only;omega⟩ ?_;simp only [go_sem,seval]<;>simp
   ·have d:(n==0)=false:=by simpa using W
    have a:rQ s w m (c+1) (A,ds++[⟨w,c,n⟩])=Q:=by rw [<- a];simp [qA,W]
    simp only [go_sem,seval,bne,d,N];refine dP ?_;refine av.kW (A,ds++[⟨w,c,n⟩]) hc ⟨by rw [J];exact a,⟨by dsimp only;omega,k⟩,by simp;omega⟩ ?_;simp only [go_sem,seval]<;>simp
  intro x G a;obtain ⟨cs,ds⟩:=x;obtain ⟨a,f,g⟩:=a;have a:((cs,ds),(0:Int))=Q:=a;rw [<- a] at b;dsimp only at b f g;rw [aq rfl] at b;dsimp only;try refine dW.id ?_
  refine sm (a2 ae G) ?_;try (with_reducible and_intros)<;>first|exact .dq|omega|skip
  refine av.kW (cs,ds) V ⟨b,f,by dsimp only;omega⟩ ?_;simp only [go_sem,seval]<;>simp
 intro x ab b;obtain ⟨cs,ds⟩:=x;have b:=b.1;rw [nx] at b;have b:((cs,ds),(0:Int))=R:=b;subst b;rw [o];dsimp only;refine sm ab ?_;all_goals simp
theorem JR (s:af) (b:s.small) (hr:s.right) (a:∀ x∈s.aA,jE x):Sq 17 [] [.agg s.cells] [] (.bT [.agg (kj s).cells,.sl 3 ((pK s).map aE.cells),.I (lG s)]):=by
 refine Spec.frozen (Mu s b hr a) [0] rfl ?_;intro r;rcases r with _ | r<;>rfl
theorem ahp (s:af):(yT s).2=if DO (fH s)=0 then (if (rS (fH s)).length=0 then 0 else gf s.bu (nextId s.bu) (rS (fH s))) else DO (fH s):=by
 unfold yT jj;by_cases h:DO (fH s)=0
 ·by_cases a:rS (fH s)=[]
  ·rw [ak fun k=>k.2 a,aq h,a,h];rfl
  ·rw [aq ⟨h,a⟩,aq h,ak fun k=>a (eq_nil_of_length_eq_zero k)]
 ·rw [ak fun k=>h k.1,ak h]
theorem apB {s:af} (h:DO (fH s)=0):(yT s).1=if (rS (fH s)).length=0 then s.bu else kR s.bu (nextId s.bu) (rS (fH s)):=by
 unfold yT jj;by_cases a:rS (fH s)=[]
 ·rw [ak fun k=>k.2 a,a];rfl
 ·rw [aq ⟨h,a⟩,ak fun k=>a (eq_nil_of_length_eq_zero k)]
theorem st_eq {s:af} (hr:s.right):stE s (if s.phase=0 then 0 else 15)=jF s/\stS s (if s.phase=0 then 0 else 15)=lJ s/\stD s (if s.phase=0 then 0 else 15)=qW s:=by
 have k:=eW.2 hr;have j:=I2 (sG s.aj s.book);have c:VT s=fH s:=by rw [VT,fH,j]
 have i:=ab' (fun _ h=>rz.2 h) uV (fH s);have f:Xj s=rS (fH s):=by rw [Xj,c,i]
 have l:=post_eq (fun _ h=>rz.2 h) uV (fun bs h=>Qb.1 h) s.bu (stI s) (rS (fH s));have g:stI s=nextId s.bu:=rfl;have d:afL s=if (rS (fH s)).length=0 then 0 else gf s.bu (nextId s.bu) (rS (fH s)):=by rw [afL,f,l.1,g]
 have e:afM s=if (rS (fH s)).length=0 then s.bu else kR s.bu (nextId s.bu) (rS (fH s)):=by rw [afM,f,l.2,g]
 have b:stE s (if s.phase=0 then 0 else 15)=jF s:=by
  unfold stE jF;rw [k,aq rfl,ahp,c,i,d,j];by_cases h:s.phase=0
  ·rw [aq h,aq rfl,aq h]
  ·rw [ak h,ak (by decide),ak h]
 have m:jF s=0->DO (fH s)=0:=fun h=>by
  unfold jF at h;rw [k,aq rfl,ahp] at h;split at h
  ·split at h
   ·split at h
    ·split at h
     ·assumption
     ·exact h
    ·rename_i a;exact absurd h a
   ·rename_i a;exact absurd h a
  ·cases h
 refine ⟨b,?_,?_⟩
 ·unfold stS lJ;rw [b];split
  ·rename_i h;rw [e,apB (m h)]
  ·rfl
 ·unfold stD qW;rw [b,c]
theorem op_eq {s:af} (hr:s.right):opS s (if s.phase=2 then 0 else 15)=uE s/\opE s (if s.phase=2 then 0 else 15)=xV s:=by
 have b:opE s (if s.phase=2 then 0 else 15)=xV s:=by
  have hk:=hr.NI;unfold opE xV;rw [eW.2 hr,aq rfl];by_cases h:s.phase=2
  ·rw [aq h,aq rfl,aq h];by_cases a:s.day=1099511627776
   ·rw [aq a,aq ah]
   ·rw [ak a,ak ah]
  ·rw [ak h,ak (by decide),ak h]
 refine ⟨?_,b⟩;unfold opS uE;rw [b];split<;>rfl
theorem Zb {s:af} {w:Int} (h:qh s w=0):Am s w (mB s w 8 0 s.book).1.qs=true:=by
 obtain ⟨a,b⟩:=xY h;unfold qh at h;rw [aq a,aq b] at h;split at h
 ·assumption
 ·cases h
theorem Za {s:af} {w:Int} (h:qh s w=0):∀ d∈jP s w,d.who=w/\bQ d.br=true:=by
 have e:=Zb h;intro d a;rw [jP,aq h] at a;obtain ⟨p,c,a⟩:=mem_flatMap.1 a;have:=dn.1 e p c;unfold aac at a;split at a
 ·rename_i b;obtain rfl:=ga.1 a;rw [b] at this;exact ⟨rfl,by simpa using this⟩
 ·cases a
theorem abu {w c:Int}:∀ {l:List aE},(∀ d∈l,d.who=w)->By w c l=IX c l
 | [],_=>rfl
 | d :: r,h=>by
  have a:=abu (w:=w) (c:=c) fun y b=>h y (mem_cons_of_mem _ b);unfold By IX pick at a |-;rw [flatMap_cons,flatMap_cons,a];simp [NR,h d (by simp)]
theorem ajJ {s:af} {w:Int} (h:qh s w=0) (c:Nat):AH s w c=nW (IX c (jP s w))/\cz s w c=n9 (IX c (jP s w)):=by
 have b:=Za h;have g:oV (jP s w)=true:=dn.2 fun d a=>(b d a).2;have f:=abu (w:=w) (c:=(c:Int)) fun d a=>(b d a).1;have hr:right (IX c (jP s w))=true:=Ez fun n i=>by
  obtain ⟨d,a,_,rfl⟩:=rX i;exact (b d a).2
 have e:AH s w c=if bQ (aG (IX c (jP s w))) then 0 else 1:=by
  rw [AH,jg,g,aq rfl,f]
 refine ⟨by rw [e,(jG hr).2],?_⟩;have e2:cz s w c=if AH s w c=0 then aG (IX c (jP s w)) else 0:=by rw [cz,oP,f];rfl
 rw [e2,e,(jG hr).1];cases bQ (aG (IX c (jP s w)))<;>rfl
theorem Rx {s:af} {w c g:Int} (h:qI s w c g=0):s.right/\bQ g=true/\bQ (AL s w c)=true/\bQ (JG s w c g)=true/\bQ (wI s w c g)=true:=by
 unfold qI at h;split at h
 case isFalse=>cases h
 rename_i d;split at h
 ·cases h
 split at h
 case isFalse=>cases h
 rename_i b;split at h
 case isFalse=>cases h
 rename_i a;simp only [UD,cU] at b a;exact ⟨eW.1 d,b.2,a.1.1,a.1.2,a.2.1⟩
theorem abg {c iU:Int} {a:List Int} (h:Av c iU a=0):mO iU a=0:=by
 unfold Av at h;split at h
 ·rename_i b;simp only [cU,eH] at b;exact b.2.2
 ·cases h
theorem PF {s:af} {w c g:Int} (h:qI s w c g=0) (b:Av c (gj s w c g) (iB s w c g)=0) :
  iB s w c g=[wI s w c g,jo ⟨3,w,c⟩ s.bu.bs,jo ⟨4,0,c⟩ s.bu.bs,pN s.bu c (dL s w),tM s.aj (dL s w)]/\(sM c (gj s w c g) (iB s w c g)).cur=c/\bQ (sM c (gj s w c g) (iB s w c g)).iU=true /\
  jo ⟨2,w,c⟩ s.bu.bs+qi s w c+g+(sM c (gj s w c g) (iB s w c g)).iU=wI s w c g /\
  (0<=(sM c (gj s w c g) (iB s w c g)).c0/\(sM c (gj s w c g) (iB s w c g)).c0<=wI s w c g/\wI s w c g<=4611686018427387904) /\
  (0<=(sM c (gj s w c g) (iB s w c g)).c1/\(sM c (gj s w c g) (iB s w c g)).c1<=jo ⟨3,w,c⟩ s.bu.bs/\jo ⟨3,w,c⟩ s.bu.bs<=4611686018427387904):=by
 obtain ⟨-,-,-,d,hCF⟩:=Rx h;have d:=bI.1 d;have a:iB s w c g=[wI s w c g,jo ⟨3,w,c⟩ s.bu.bs,jo ⟨4,0,c⟩ s.bu.bs,pN s.bu c (dL s w),tM s.aj (dL s w)]:=by rw [iB,aq h]
 have hN:gj s w c g=max (-JG s w c g) 0:=by rw [gj,aq h]
 obtain ⟨⟨l1,l2⟩,hc,-⟩:=PT (abg b);have f:sM c (gj s w c g) (iB s w c g)=JZ c (gj s w c g) (Ik (gj s w c g) (iB s w c g)) (Dz (gj s w c g) (iB s w c g)):=by rw [sM,aq b]
 rw [f];have c1:=hc (wI s w c g) (by rw [a];simp);have c2:=hc (jo ⟨3,w,c⟩ s.bu.bs) (by rw [a];simp);have eX:JG s w c g=g+min (jo ⟨2,w,c⟩ s.bu.bs) 0:=by simp [JG,aG]
 have eF:wI s w c g=max (jo ⟨2,w,c⟩ s.bu.bs) 0+(qi s w c+max (JG s w c g) 0):=by simp [wI,aG]
 have e0:(JZ c (gj s w c g) (Ik (gj s w c g) (iB s w c g)) (Dz (gj s w c g) (iB s w c g))).c0=min (gj s w c g) (wI s w c g):=by rw [a];rfl
 have e:(JZ c (gj s w c g) (Ik (gj s w c g) (iB s w c g)) (Dz (gj s w c g) (iB s w c g))).c1=min (gj s w c g-min (gj s w c g) (wI s w c g)) (jo ⟨3,w,c⟩ s.bu.bs):=by rw [a];rfl
 refine ⟨a,rfl,bI.2 ⟨by show _<=gj s w c g;omega,by show gj s w c g<=_;omega⟩,?_,?_,?_⟩
 ·show _+_+g+gj s w c g=_;omega
 ·rw [e0];omega
 ·rw [e];omega
theorem OA {s:af} {w:Int} {c:Nat} (h:qI s w c (cz s w c)=0):kQ s w c=sJ s w c (cz s w c) (iP s w c) (wI s w c (cz s w c)) (jo ⟨3,w,c⟩ s.bu.bs):=by
 have a:yK s w c=[wI s w c (cz s w c),jo ⟨3,w,c⟩ s.bu.bs,jo ⟨4,0,c⟩ s.bu.bs,pN s.bu c (dL s w),tM s.aj (dL s w)]:=by rw [yK,iB,aq h]
 rw [kQ,a];rfl
theorem OW {f:Nat->Int}:∀ {m i:Nat},gP f m i=0->LS f m i=i+m
 | 0,_,_=>rfl
 | m+1,i,h=>by
  simp only [gP] at h;split at h
  ·rename_i a;rw [LS,aq a,OW h];omega
  ·rename_i a;exact absurd h a
theorem aff (s:af) (w:Int) (K:s.small) (hm:s.aj.ms.length < 2 ^ 27) (hq:s.book.qs.length < 2 ^ 20) (am:∀ p∈s.book.qs,p.n7) (a5:s.bH.length < 2 ^ 20) (aZ:s.bu.eo) (aY:s.bu.bs.length < 2 ^ 28) (a9:∀ x∈s.aA,jE x) :
  Sq 193 [] [.agg s.cells,.I w] [.own 8 ((MS s w).map dQ.cells),.own 3 ((MR s w).map aE.cells)] (.bT [.agg (DQ s w).cells,.ref 0,.ref 1,.I (BL s w)]):=by
 have c1:=Ld s w K hq am a5;have a3:(jP s w).length < 2 ^ 29:=by
  unfold jP;split
  ·rename_i he;obtain ⟨ab,_⟩:=xY he;have hr:=eW.1 (I0 ab).1;have hf:s.book.eo:=⟨K.book,hq,am,fun p hp=>by have:=iG.1 ((cy.1 hr.book).ok p hp);exact ⟨this.2.2.1,this.2.2.2.1⟩⟩
   have hb:=(Gw (s:=s) (w:=w) 8 0 hf).short;have h2:=aad s w (mB s w 8 0 s.book).1.qs;omega
  ·simp
 have c2:=UQ (jP s w) a3;have cC:=fun c g=>XQ s w c g K hm;have cF:=fun c iU an h=>J0 c iU an h;have cP:=fun l id g (h1:l.bs.length < 2 ^ 28) h2=>tI l id g h1 h2;obtain ⟨E,k⟩:=aQ (BL s w);have ar:=k;simp only [BL] at k;simp only [DQ,MS,MR,<- ar];clear ar;by_cases b1:qh s w=0
 case neg =>
  have d:(qh s w==0)=false:=by simpa using b1
  rw [ak b1] at k;rw [k];simp only [ak b1];simp only [af.cells] at c1 |-;simp only [aI.cells] at c1;refine bf 152 2 [.cell 4 41,.tmp 5,.tmp 6,.tmp 7] mixed func193 ?_;refine sc aJ c1 ?_;simp only [go_sem,seval,bne,d];(with_reducible and_intros)<;>first|exact .dq|omega|skip
  all_goals simp [af.zero,pl]
 obtain ⟨ab,a4⟩:=xY b1;obtain ⟨a1,a8⟩:=I0 ab;have hr:=eW.1 a1;have a0:gF s.aj w=true:=(vJ hr.aj).1 ah;have cX:=fun g f a b=>Yz s w g f a b K hr hm;have t:=M5 s.aj w 3 K.aj hr.aj a0 rfl;have ai:=ajJ b1;have ao:(fun c:Nat=>nW (IX c (jP s w)))=AH s w:=funext fun c=>(ai c).1.symm;have ap:(fun c:Nat=>n9 (IX c (jP s w)))=cz s w:=funext fun c=>(ai c).2.symm;rw [ao,ap] at c2;rw [aq b1] at k;rw [b1] at c1;clear ai ao ap ab a4 a1 a8 a0 b1;have X:=fun h=>OW (f:=AH s w) (m:=3) (i:=0) h;obtain ⟨F1,aw⟩:=aQ (gP (AH s w) 3 0);rw [<- aw] at k c2 X;obtain ⟨PB,aH⟩:=aQ (qg s w);rw [<- aH] at c1 |-;simp only [af.cells] at c1 cC cX |-;simp only [aI.cells] at c1;simp only [az.cells] at t;by_cases b2:F1=0
 case neg =>
  have d:(F1==0)=false:=by simpa using b2
  rw [ak b2] at k;rw [k];simp only [ak b2];simp only [g3] at c2;refine bf 152 2 [.cell 4 41,.tmp 5,.tmp 6,.tmp 7] mixed func193 ?_;refine sc aJ c1 ?_;refine sc aJ c2 ?_;simp only [go_sem,seval,bne,d];(with_reducible and_intros)<;>first|exact .dq|omega|skip
  all_goals simp [af.zero,pl]
 rw [aq b2] at k;rw [X b2,b2] at c2;have aU:g3 (cz s w) (0+3)=[.I (cz s w 0),.I (cz s w 1),.I (cz s w 2)]:=rfl;rw [aU] at c2;clear X aU aw b2;simp only [dQ.cells] at cF;refine bf 152 2 [.cell 4 41,.tmp 5,.tmp 6,.tmp 7] mixed func193 ?_;refine sc aJ c1 ?_;refine sc aJ c2 ?_;clear c1 c2;obtain ⟨F2,Z⟩:=aQ (gP (Hi s w) 3 0);rw [<- Z] at k;try simp only [go_sem,seval,bne]
 refine aM.wu 3 [1,2,4,8,11,46] [48,80,144,192] (fun i=>[(5,.nil),(6,.nil),(7,.I 0),(47,.I i),(12,.ref 1264)]) (fun i=>[(1264,.own 8 ((tab (iP s w) i).map dQ.cells))]) (fun i=>gP (Hi s w) (3-i) i=F2) Z.symm ?_ ?_ ?_
 ·simp only [go_sem,seval,adh]<;>simp
 ·intro c _ hc z J j;have z:decide ((c:Int) < 3)=true:=z;obtain ⟨m,hm⟩:∃ m,3-c=m+1:=⟨3-c-1,by omega⟩
  have H:3-(c+1)=m:=ah
  rw [hm] at j;simp only [gP] at j;have ad:=cC c (cz s w c);have aP:(iB s w c (cz s w c)).length < 2 ^ 30:=by unfold iB;split<;>simp
  have N:=cF c (gj s w c (cz s w c)) (iB s w c (cz s w c)) aP;have y:Hi s w c=if qI s w c (cz s w c)=0 then Av c (gj s w c (cz s w c)) (iB s w c (cz s w c)) else qI s w c (cz s w c):=rfl;have e1:sM c (gj s w c (cz s w c)) (iB s w c (cz s w c))=iP s w c:=rfl;have W:=adg (iP s w) c;have aX:=Q3 (iP s w) c;rw [e1] at N;obtain ⟨T,hT⟩:=aQ (tab (iP s w) c);rw [<- hT] at W aX;rw [<- hT];obtain ⟨fl,Q⟩:=aQ (iP s w c);rw [<- Q] at N W;obtain ⟨gn,U⟩:∃ gn:Nat->Int,gn=cz s w:=⟨_,rfl⟩
  rw [<- U] at ad N y |-;obtain ⟨ce,aK⟩:=aQ (qI s w c (gn c));obtain ⟨cn,ae⟩:=aQ (gj s w c (gn c));obtain ⟨cl,P⟩:=aQ (iB s w c (gn c));obtain ⟨fe,ag⟩:=aQ (Av c cn cl);rw [<- aK,<- ae,<- P] at ad y;rw [<- ae,<- P,<- ag] at N;rw [<- ag] at y;clear cC cF cX cP t hT e1 aK ae P ag aP U Q;have aW:c=0\/c=1\/c=2:=ah
  have fin:∀ r:Nat,r=c->True:=fun _ _=>trivial;rcases aW with rfl | rfl | rfl;all_goals
   refine sm z ?_;try (with_reducible and_intros)<;>first|exact .dq|omega|skip
   refine aD.bp ad ?_;by_cases q:ce=0
   case neg =>
    have d:(ce==0)=false:=by simpa using q
    rw [ak q] at y;rw [y,ak q] at j;rw [<- j,ak q] at k;rw [k];simp only [ak q];simp only [go_sem,seval,bne,d];(with_reducible and_intros)<;>first|exact .dq|omega|skip
    all_goals simp [af.zero,pl]
   rw [aq q] at y;rw [q];refine s0 ?_;try (with_reducible and_intros)<;>first|exact .dq|omega|skip
   refine aD.bp N ?_;rw [y] at j;by_cases Y:fe=0
   ·rw [aq Y] at j;rw [Y];simp only [go_sem,seval,bne,aX,J];(with_reducible and_intros)<;>first|exact .dq|omega|skip
    refine av.u hc (by rw [H];exact j) ?_;simp only [go_sem,seval,W]<;>simp<;>exact gA ah ah
   ·have d:(fe==0)=false:=beq_eq_false_iff_ne.2 Y;rw [ak Y] at j;rw [<- j,ak Y] at k;rw [k];simp only [ak Y];simp only [go_sem,seval,bne,d];(with_reducible and_intros)<;>first|exact .dq|omega|skip
    all_goals simp [af.zero,pl]
 intro _ aR j;have j:F2=0:=j.symm;rw [aq j] at k;have O:∀ c < 3,Hi s w c=0:=fun c h=>J4 (Z.symm.trans j) c ah ah;clear cC cF j;have aG:=Q3 (iP s w) 3;have B:∀ c,c < 3->(tab (iP s w) 3)[c]?=some (iP s w c):=fun c h=>by simp [tab,h]
 obtain ⟨FX,ax⟩:=aQ (tab (iP s w) 3);simp only [<- ax] at aG B;obtain ⟨R,hR⟩:=aQ (Ai s w 3 0 s.bu []);simp only [<- hR] at k |-;simp only [go_sem,seval,<- ax,aR,aG];refine aM.uB (S:=bE × List aE) 3 [1,2,4,8,11,12,19,81,82] [48,80,144,192,1264] (fun i _=>[(5,.nil),(6,.nil),(7,.I 0),(83,.I i),(20,.ref 2112)])
  (fun _ x=>[(320,.box [.I s.now,.I s.day,.I s.phase,.sl 3 (s.aj.ms.map au.cells),.sl 12 (s.aj.ns.map aC.cells),.sl 4 (s.aj.xs.map ay.cells),.I s.book.next,.sl 7 (s.book.ts.map aL.cells),.sl 4 (s.book.qs.map aF.cells),
   .I x.1.last,.sl 4 (x.1.bs.map cq.cells),.sl 3 (pl s.ps),.sl 4 (s.calls.map aB.cells),.sl 5 (s.bH.map bB.cells),.sl 7 (s.aA.map aO.cells)]),(2112,.own 3 (x.2.map aE.cells))])
  (fun i x=>Ai s w (3-i) i x.1 x.2=R/\x.1.bs.length < 2 ^ 28/\x.2.length<=i) (s.bu,[]) ⟨hR.symm,aY,dU _⟩ ?_ ?_ ?_
 ·simp only [go_sem,seval]<;>simp
 ·intro c x hc z J j;obtain ⟨L,p⟩:=x;obtain ⟨j,D,al⟩:=j;dsimp only at j D al |-;have z:decide ((c:Int) < 3)=true:=z;obtain ⟨m,hm⟩:∃ m,3-c=m+1:=⟨3-c-1,by omega⟩
  have H:3-(c+1)=m:=ah
  rw [hm] at j;simp only [Ai] at j;have aN:c < FX.length:=ah
  have V:=aV (c:=dQ.cells) FX aN;have aT:FX[c]=iP s w c:=by
   have:=B c hc;rw [fO aN] at this;exact Option.some.inj this
  rw [aT] at V;have aZ:(c:Int) < (FX.length:Int):=ah
  have F:=O c hc;unfold Hi at F;have G:qI s w c (cz s w c)=0:=by
   split at F
   ·assumption
   ·exact F
  rw [aq G] at F;obtain ⟨k1,k2,k3,k4,k5,k6⟩:=PF G F;obtain ⟨-,j2,j3,-,-⟩:=Rx G;have ef:sM c (gj s w c (cz s w c)) (iB s w c (cz s w c))=iP s w c:=rfl;rw [ef] at k2 k3 k4 k5 k6;have v:=cX (cz s w c) (iP s w c) (wI s w c (cz s w c)) (jo ⟨3,w,c⟩ s.bu.bs) (by rw [k2];exact j3) j2 k3 (by rw [k2];exact k4) (by rw [k2]) k5 k6;rw [k2,<- OA G] at v;have a6:(kQ s w c).1.length<=306:=by
   rw [OA G];unfold sJ;split
   ·split
    ·split
     ·exact Gd _
     ·simp
    ·simp
   ·simp
  have C:=cP L (nextId L) (kQ s w c).1 D ah;simp only [nextId] at C;have o:(jj L (kQ s w c).1 (kQ s w c).2.2).1.bs.length < 2 ^ 28:=by
   unfold jj;split
   ·exact Nat.lt_of_le_of_lt BN.1 (by decide)
   ·exact D
  obtain ⟨g,hg⟩:=aQ ((kQ s w c).1);obtain ⟨n,hn⟩:=aQ ((kQ s w c).2.1);obtain ⟨e,he⟩:=aQ ((kQ s w c).2.2);simp only [<- hg,<- hn,<- he] at v C o j a6;obtain ⟨fl,Q⟩:=aQ (iP s w c);rw [<- Q] at V v k2;simp only [dQ.cells] at V v;rw [k2] at V v;obtain ⟨gn,U⟩:∃ gn:Nat->Int,gn=cz s w:=⟨_,rfl⟩
  rw [<- U] at v |-;simp only [bE.cells] at C;clear cX cP hg hn he B F G O t Q k1 k2 k3 k4 k5 k6 j2 j3 ef U aT;rcases (by omega:c=0\/c=1\/c=2) with rfl | rfl | rfl;all_goals
   refine sm (a2 z V) ?_;refine sc aJ v ?_;by_cases q1:e=0
   case neg =>
    have d:(e==0)=false:=by simpa using q1
    have A:jj L g e=(L,e):=by simp [jj,q1]
    rw [A] at j;dsimp only at j;rw [ak q1] at j;rw [k,<- j];simp only [ak q1];simp only [go_sem,seval,bne,d];(with_reducible and_intros)<;>first|exact .dq|omega|skip
    all_goals simp [af.zero,pl]
   rw [q1] at j o |-
   by_cases Y:g=[]
   ·have A:jj L g 0=(L,0):=by simp [jj,Y]
    rw [A] at j o;dsimp only at j o;rw [aq rfl] at j;rw [Y];simp only [go_sem,seval,map_nil,length_nil];try (with_reducible and_intros)<;>first|exact .dq|omega|skip
    by_cases q3:n=0
    ·simp only [qA,q3,beq_self_eq_true,if_true,append_nil] at j;rw [q3];simp only [go_sem,seval,bne,J];(with_reducible and_intros)<;>first|exact .dq|omega|skip
     refine av.kW (L,p) hc ⟨by rw [H];exact j,o,by dsimp only;omega⟩ ?_;refine s0 ?_;all_goals try simp
     all_goals exact gA ah ah
    ·have d:(n==0)=false:=by simpa using q3
     simp only [qA,d,nJ,if_false] at j;simp only [go_sem,seval,bne,d,J];(with_reducible and_intros)<;>first|exact .dq|omega|skip
     refine av.kW (L,p++[⟨w,_,n⟩]) hc ⟨by rw [H];exact j,o,by dsimp only;rw [cm,length_singleton];omega⟩ ?_;refine s0 ?_;all_goals try simp
     all_goals exact gA ah ah
   have a7:decide ((0:Int) < (g.length:Int))=true:=by
    have:g.length≠0:=fun h=>Y (eq_nil_of_length_eq_zero h);simp;omega
   have A:jj L g 0=(kR L (nextId L) g,gf L (nextId L) g):=by simp [jj,Y]
   simp only [nextId] at A;obtain ⟨M,hM⟩:=aQ (kR L (IntKind.wrap .i64 (L.last+1)) g);obtain ⟨e2,aS⟩:=aQ (gf L (IntKind.wrap .i64 (L.last+1)) g);rw [<- hM,<- aS] at A C;rw [A] at j o;dsimp only at j o;refine sm a7 ?_;try (with_reducible and_intros)<;>first|exact .dq|omega|skip
   refine aD.bp C ?_;clear C hM aS v;by_cases q4:e2=0
   case neg =>
    have d:(e2==0)=false:=by simpa using q4
    rw [ak q4] at j;rw [k,<- j];simp only [ak q4];simp only [go_sem,seval,bne,d];(with_reducible and_intros)<;>first|exact .dq|omega|skip
    all_goals simp [af.zero,pl]
   rw [q4] at j |-;rw [aq rfl] at j;refine s0 ?_;try (with_reducible and_intros)<;>first|exact .dq|omega|skip
   by_cases q3:n=0
   ·simp only [qA,q3,beq_self_eq_true,if_true,append_nil] at j;rw [q3];simp only [go_sem,seval,bne,J];(with_reducible and_intros)<;>first|exact .dq|omega|skip
    refine av.kW (M,p) hc ⟨by rw [H];exact j,o,by dsimp only;omega⟩ ?_;refine s0 ?_;all_goals try simp
    all_goals exact gA ah ah
   ·have d:(n==0)=false:=by simpa using q3
    simp only [qA,d,nJ,if_false] at j;simp only [go_sem,seval,bne,d,J];(with_reducible and_intros)<;>first|exact .dq|omega|skip
    refine av.kW (M,p++[⟨w,_,n⟩]) hc ⟨by rw [H];exact j,o,by dsimp only;rw [cm,length_singleton];omega⟩ ?_;refine s0 ?_;all_goals try simp
    all_goals exact gA ah ah
 rintro ⟨L,p⟩ hdx ⟨j,D,al⟩;have j:(L,p,(0:Int))=R:=j;subst j;dsimp only at k D al |-
 have ac:PB.small:=by
  rw [aH];have hf:s.book.eo:=⟨K.book,hq,am,fun p hp=>by have:=iG.1 ((cy.1 hr.book).ok p hp);exact ⟨this.2.2.1,this.2.2.2.1⟩⟩
  have hb:=(Gw (s:=s) (w:=w) 8 0 hf).small;unfold qg;split
  ·refine ⟨hb.1,?_⟩;have:(qK w (mB s w 8 0 s.book).1.qs).length<=1*(mB s w 8 0 s.book).1.qs.length:=gw (fun p=>by split<;>simp) _;have:=hb.2;show (qK w (mB s w 8 0 s.book).1.qs).length < _;omega
  ·exact ⟨by simp,by simp⟩
 have aa:(ju s.aj w 3).lp:=by
  unfold ju;split
  ·have:=K.aj;refine ⟨?_,this.2.1,this.2.2⟩;show (yw au.no w (au.put 3) s.aj.ms).length < _;exact Nat.lt_of_le_of_lt (T6 _ _ _ _) this.1
  ·exact ⟨by simp [az.none],by simp [az.none],by simp [az.none]⟩
 have cW:=Cp { s with aj:=ju s.aj w 3,book:=PB,bu:=L } w ⟨aa,ac,Nat.lt_trans D (by decide),K.ps,K.calls,K.bH,K.aA,K.rs⟩ a9;rw [k];clear k cX cP B O aZ Z hR aa ac;obtain ⟨PU,aa⟩:=aQ (ju s.aj w 3);rw [<- aa] at t cW |-;simp only [af.cells] at cW;simp only [if_true];refine sc hdx t ?_;refine aD.bp cW ?_;exact gU
theorem aco (s:af) (w:Int) (h:s.small) (f:s.aj.ms.length < 2 ^ 27) (g:s.book.qs.length < 2 ^ 20) (d:∀ p∈s.book.qs,p.n7) (b:s.bH.length < 2 ^ 20) (c:s.bu.eo) (a:s.bu.bs.length < 2 ^ 28) (e:∀ x∈s.aA,jE x) :
  Sq 193 [] [.agg s.cells,.I w] [] (.bT [.agg (DQ s w).cells,.sl 8 ((MS s w).map dQ.cells),.sl 3 ((MR s w).map aE.cells),.I (BL s w)]):=by
 refine Spec.frozen (aff s w h f g d b c a e) [0,1] rfl ?_;intro r;rcases r with _ | _ | r<;>rfl
def an3 (m:af × Int × Int × Int × List aE × List dQ):aT:=⟨0,m.2.2.1,m.2.2.2.1,m.2.2.2.2.1,m.2.2.2.2.2⟩
def fS (s:af) (c:aN):Prop:=∃ b a,Sq 91 [.box (tC s 0 0)] [.addr 0 0,.agg c.cells] [.box (tR b a)] (.I (dw s c).2.1)/\((dw s c).2.1=0->b=(dw s c).1/\a=an3 (dw s c))
structure af.trim (s:af):Prop where
 right:s.right
 small:s.small
 aA:∀ x∈s.aA,jE x
 last:s.bu.last<=1099511627776
theorem doW {W E:Prop} (c1:E) (h:E->W:=by
 intro c1;obtain ⟨cli,sq,kind,who,oth,no,inst,cur,aZ,aH,br,s0,s1,s2,s3,s4,s5⟩:=c;dsimp only at *;subst hk;simp only [aN.cells];simp only [tC] at *;simp only [tR];refine bf 209 2 [.tmp 4] mixed func91 ?_;try simp -implicitDefEqProofs only [go_sem,seval]
 try (with_reducible and_intros)<;>first|exact .dq|omega|skip
 refine aD.bp c1 ?_;simp -implicitDefEqProofs only [go_sem,seval];all_goals (with_reducible and_intros)<;>first|exact .dq|omega|skip
 all_goals simp [pl]):W:=h c1
theorem doG {W E:Prop} (c1:E) (h:E->W:=by
 intro c1;obtain ⟨cli,sq,kind,who,oth,no,inst,cur,aZ,aH,br,s0,s1,s2,s3,s4,s5⟩:=c;dsimp only at *;subst hk;simp only [aN.cells];simp only [tC] at *;simp only [tR];refine bf 209 2 [.tmp 4] mixed func91 ?_;try simp -implicitDefEqProofs only [go_sem,seval]
 refine aD.iT [] [0] false (by simp) ?_;simp -implicitDefEqProofs only [go_sem,seval];refine cY.gB c1 ?_;simp -implicitDefEqProofs only [go_sem,seval];all_goals (with_reducible and_intros)<;>first|exact .dq|omega|skip
 all_goals simp [pl]):W:=h c1
theorem adq (s:af) (c:aN) (h:s.trim) (hk:c.kind=1):fS s c:=by
 have hr:=h.right;have hs:=h.small;have c1:=Lw s.aj c.who c.br hs.aj hr.aj;have b:dw s c=({ s with aj:=jc s.aj c.who c.br },lY s.aj c.who c.br,0,0,[],[]):=by simp [dw,hk]
 unfold fS;rw [b];refine ⟨{ s with aj:=jc s.aj c.who c.br },⟨0,0,0,[],[]⟩,?_,fun _=>⟨rfl,rfl⟩⟩;obtain ⟨e,a⟩:=aQ (lY s.aj c.who c.br);obtain ⟨B,hB⟩:=aQ (jc s.aj c.who c.br);rw [<- a,<- hB] at c1;simp only [<- a,<- hB];clear a hB b hr hs h;simp only [az.cells] at c1;exact doW c1
theorem adr (s:af) (c:aN) (h:s.trim) (hk:c.kind=2):fS s c:=by
 have hr:=h.right;have hs:=h.small;have c1:=M4 s.aj (xI c) hs.aj hr.aj;have b:dw s c=({ s with aj:=mZ s.aj (xI c) },qL s.aj (xI c),0,0,[],[]):=by simp [dw,hk]
 unfold fS;rw [b];refine ⟨{ s with aj:=mZ s.aj (xI c) },⟨0,0,0,[],[]⟩,?_,fun _=>⟨rfl,rfl⟩⟩;obtain ⟨e,a⟩:=aQ (qL s.aj (xI c));obtain ⟨B,hB⟩:=aQ (mZ s.aj (xI c));rw [<- a,<- hB] at c1;simp only [<- a,<- hB];clear a hB b hr hs h;simp only [az.cells,aC.cells,xI] at c1;exact doW c1
theorem ads (s:af) (c:aN) (h:s.trim) (hk:c.kind=3):fS s c:=by
 have hr:=h.right;have hs:=h.small;have c1:=M3 s.aj ⟨c.no,c.cur,c.aH,c.br⟩ hs.aj hr.aj;have b:dw s c=({ s with aj:=mq s.aj ⟨c.no,c.cur,c.aH,c.br⟩ },rJ s.aj ⟨c.no,c.cur,c.aH,c.br⟩,0,0,[],[]):=by simp [dw,hk]
 unfold fS;rw [b];refine ⟨{ s with aj:=mq s.aj ⟨c.no,c.cur,c.aH,c.br⟩ },⟨0,0,0,[],[]⟩,?_,fun _=>⟨rfl,rfl⟩⟩;obtain ⟨e,a⟩:=aQ (rJ s.aj ⟨c.no,c.cur,c.aH,c.br⟩);obtain ⟨B,hB⟩:=aQ (mq s.aj ⟨c.no,c.cur,c.aH,c.br⟩);rw [<- a,<- hB] at c1;simp only [<- a,<- hB];clear a hB b hr hs h;simp only [az.cells,ay.cells] at c1;exact doW c1
theorem ajL {W:Prop} (h:W:=by
 have hr:=h.right;have hs:=h.small;obtain ⟨e,cM,d⟩:=LZ s 0 0 c ah hr hs;have a:dw s c=((wM s c).1,(wM s c).2,0,0,[],[]):=by simp [dw,hk]
 unfold fS;rw [a];refine ⟨e,⟨0,0,0,[],[]⟩,?_,fun h=>⟨d h,rfl⟩⟩;dsimp only;obtain ⟨E,b⟩:=aQ ((wM s c).2);rw [<- b] at cM |-;clear b d a hr hs h;simp only [aN.cells] at cM
 exact doG cM):W:=h
theorem adt (s:af) (c:aN) (h:s.trim) (hk:c.kind=4):fS s c:=by exact ajL
theorem adu (s:af) (c:aN) (h:s.trim) (hk:c.kind=5):fS s c:=by exact ajL
theorem adx (s:af) (c:aN) (h:s.trim) (hk:c.kind=8):fS s c:=by exact ajL
theorem apd {W:Prop} (h:W:=by
 have hr:=h.right;have hs:=h.small;obtain ⟨e,cM,d⟩:=ID s 0 0 c ah hr hs;have a:dw s c=((oq s c (ng c)).1,(oq s c (ng c)).2,0,0,[],[]):=by simp [dw,hk]
 unfold fS;rw [a];refine ⟨e,⟨0,0,0,[],[]⟩,?_,fun h=>⟨d h,rfl⟩⟩;dsimp only;obtain ⟨E,b⟩:=aQ ((oq s c (ng c)).2);rw [<- b] at cM |-;clear b d a hr hs h;simp only [aN.cells] at cM
 exact doG cM):W:=h
theorem adv (s:af) (c:aN) (h:s.trim) (hk:c.kind=6):fS s c:=by exact apd
theorem adw (s:af) (c:aN) (h:s.trim) (hk:c.kind=7):fS s c:=by exact apd
theorem ady (s:af) (c:aN) (h:s.trim) (hk:c.kind=9):fS s c:=by
 have hr:=h.right;have hs:=h.small;obtain ⟨i,cM,g⟩:=Nj s 0 0 c (by have:=hr.lens.bs;omega);have e:dw s c=if within c.cur 0 2&&within c.br 1 4611686018427387904 then (sF s (cg ⟨1,0,c.cur⟩ ⟨4,0,c.cur⟩ c.br),qz s (cg ⟨1,0,c.cur⟩ ⟨4,0,c.cur⟩ c.br),0,0,[],[]) else (s,3,0,0,[],[]):=by simp [dw,hk]
 have f:(dw s c).2.1=if within c.cur 0 2&&within c.br 1 4611686018427387904 then qz s (cg ⟨1,0,c.cur⟩ ⟨4,0,c.cur⟩ c.br) else 3:=by rw [e];split<;>rfl
 unfold fS;refine ⟨i,⟨0,0,0,[],[]⟩,?_,fun a=>?_⟩
 ·rw [f];obtain ⟨E,b⟩:∃ E:Int,E=if within c.cur 0 2&&within c.br 1 4611686018427387904 then qz s (cg ⟨1,0,c.cur⟩ ⟨4,0,c.cur⟩ c.br) else 3:=⟨_,rfl⟩
  rw [<- b] at cM |-;clear b f e g hr hs h;simp only [aN.cells] at cM;exact doG cM
 ·rw [f] at a;rw [e];split
  ·rename_i d;rw [aq d] at a;exact ⟨g d a,rfl⟩
  ·rename_i d;rw [ak d] at a;cases a
theorem afV {W:Prop} (h:W:=by
 have hr:=h.right;have hs:=h.small;obtain ⟨k,j,cM,f⟩:=L3 s 0 0 c ah hr hs rfl;have d:dw s c=if s.phase=0 then ((nD s c).1,(nD s c).2.2,(nD s c).2.1,0,[],[]) else (s,15,0,0,[],[]):=by simp [dw,hk]
 have e:(dw s c).2.1=if s.phase=0 then (nD s c).2.2 else 15:=by rw [d];split<;>rfl
 unfold fS;refine ⟨k,⟨0,j,0,[],[]⟩,?_,fun b=>?_⟩
 ·rw [e];obtain ⟨E,a⟩:∃ E:Int,E=if s.phase=0 then (nD s c).2.2 else 15:=⟨_,rfl⟩
  rw [<- a] at cM |-;clear a e d f hr hs h;simp only [aN.cells] at cM;exact doG cM
 ·rw [e] at b;obtain ⟨g,a2⟩:=f b;rw [d];split
  ·exact ⟨g,by rw [a2];rfl⟩
  ·rename_i i;rw [ak i] at b
   cases b):W:=h
theorem ZX (s:af) (c:aN) (h:s.trim) (hk:c.kind=10):fS s c:=by exact afV
theorem ZY (s:af) (c:aN) (h:s.trim) (hk:c.kind=11):fS s c:=by exact afV
theorem ZZ (s:af) (c:aN) (h:s.trim) (hk:c.kind=12):fS s c:=by exact afV
theorem Z0 (s:af) (c:aN) (h:s.trim) (hk:c.kind=13):fS s c:=by exact afV
theorem Z2 (s:af) (c:aN) (h:s.trim) (hk:c.kind=14):fS s c:=by
 have hr:=h.right;have hs:=h.small;have c1:=TH s hs (by have:=hr.lens.qs;omega) (by have:=hr.lens.bs;omega) h.aA _ (xu s 0 hs hr);obtain ⟨e1,e2,e⟩:=st_eq hr;rw [e1,e2,e] at c1;clear e1 e2 e;have f:dw s c=(lJ s,jF s,0,0,qW s,[]):=by simp [dw,hk]
 unfold fS;rw [f];refine ⟨lJ s,⟨0,0,0,qW s,[]⟩,?_,fun _=>⟨rfl,rfl⟩⟩;dsimp only;obtain ⟨U,d⟩:=aQ (lJ s);obtain ⟨E,a⟩:=aQ (jF s);obtain ⟨L,b⟩:=aQ (qW s);rw [<- d,<- a,<- b] at c1;simp only [<- d,<- a,<- b];clear d a b f hr hs h;simp only [af.cells] at c1;exact doW c1
theorem Z3 (s:af) (c:aN) (h:s.trim) (hk:c.kind=15):fS s c:=by
 have hr:=h.right;have hs:=h.small;have c1:=JR s hs hr h.aA;have e:dw s c=(kj s,lG s,0,0,pK s,[]):=by simp [dw,hk]
 unfold fS;rw [e];refine ⟨kj s,⟨0,0,0,pK s,[]⟩,?_,fun _=>⟨rfl,rfl⟩⟩;dsimp only;obtain ⟨U,d⟩:=aQ (kj s);obtain ⟨E,a⟩:=aQ (lG s);obtain ⟨L,b⟩:=aQ (pK s);rw [<- d,<- a,<- b] at c1;simp only [<- d,<- a,<- b];clear d a b e hr hs h;simp only [af.cells] at c1;exact doW c1
theorem Z4 (s:af) (c:aN) (h:s.trim) (hk:c.kind=16):fS s c:=by
 have hr:=h.right;have hs:=h.small;have c1:=YU s hs (by have:=hr.NI;exact ⟨by omega,by omega⟩) h.aA _ (xu s 2 hs hr);obtain ⟨e1,e2⟩:=op_eq hr;rw [e1,e2] at c1;clear e1 e2;have d:dw s c=(uE s,xV s,0,0,[],[]):=by simp [dw,hk]
 unfold fS;rw [d];refine ⟨uE s,⟨0,0,0,[],[]⟩,?_,fun _=>⟨rfl,rfl⟩⟩;dsimp only;obtain ⟨U,b⟩:=aQ (uE s);obtain ⟨E,a⟩:=aQ (xV s);rw [<- b,<- a] at c1;simp only [<- b,<- a];clear b a d hr hs h;simp only [af.cells] at c1;exact doW c1
theorem Z5 (s:af) (c:aN) (h:s.trim) (ha:gm c.br) (hk:c.kind=17):fS s c:=by
 have hr:=h.right;have hs:=h.small;have c1:=PI s c.br hr hs h.aA ha;have e:dw s c=(mD s c.br,qk s c.br,0,0,qj s c.br,[]):=by simp [dw,hk]
 unfold fS;rw [e];refine ⟨mD s c.br,⟨0,0,0,qj s c.br,[]⟩,?_,fun _=>⟨rfl,rfl⟩⟩;dsimp only;obtain ⟨U,d⟩:=aQ (mD s c.br);obtain ⟨E,a⟩:=aQ (qk s c.br);obtain ⟨L,b⟩:=aQ (qj s c.br);rw [<- d,<- a,<- b] at c1;simp only [<- d,<- a,<- b];clear d a b e hr hs h;simp only [af.cells] at c1;exact doW c1
theorem Z6 (s:af) (c:aN) (h:s.trim) (hk:c.kind=18):fS s c:=by
 have hr:=h.right;have hs:=h.small;have cM:=Q6 s 0 0 c hr hs;have d:dw s c=((uW s c).1,(uW s c).2,0,0,[],[]):=by simp [dw,hk]
 unfold fS;rw [d];refine ⟨(uW s c).1,⟨0,0,0,[],[]⟩,?_,fun _=>⟨rfl,rfl⟩⟩;dsimp only;obtain ⟨U,b⟩:=aQ ((uW s c).1);obtain ⟨E,a⟩:=aQ ((uW s c).2);rw [<- b,<- a] at cM;rw [<- b,<- a];clear b a d hr hs h;simp only [aN.cells] at cM;exact doG cM
theorem Z7 (s:af) (c:aN) (h:s.trim) (hk:c.kind=19):fS s c:=by
 have hr:=h.right;have hs:=h.small;have a:=hr.lens;have c1:=aco s c.who hs (by have:=a.ms;omega) (by have:=a.qs;omega) (hr.n7 h.last hs.rs).qs (by have:=a.bH;omega) ⟨by have:=a.bs;omega,(hr.n7 h.last hs.rs).bs,(hr.n7 h.last hs.rs).last⟩ (by have:=a.bs;omega) h.aA;clear a;have g:dw s c=(DQ s c.who,BL s c.who,0,0,MR s c.who,MS s c.who):=by simp [dw,hk]
 unfold fS;rw [g];refine ⟨DQ s c.who,⟨0,0,0,MR s c.who,MS s c.who⟩,?_,fun _=>⟨rfl,rfl⟩⟩;dsimp only;obtain ⟨U,f⟩:=aQ (DQ s c.who);obtain ⟨E,b⟩:=aQ (BL s c.who);obtain ⟨L,e⟩:=aQ (MR s c.who);obtain ⟨F,d⟩:=aQ (MS s c.who);rw [<- f,<- b,<- e,<- d] at c1;simp only [<- f,<- b,<- e,<- d];clear f b e d g hr hs h;simp only [af.cells] at c1;exact doW c1
theorem Z8 (s:af) (c:aN) (h:s.trim) (hk:c.kind=20):fS s c:=by
 have hr:=h.right;have hs:=h.small;obtain ⟨f,ds,cM,a⟩:=IE s hr hs;have d:dw s c=((nB 3 0 s []).1,(nB 3 0 s []).2.2,0,0,(nB 3 0 s []).2.1,[]):=by simp [dw,hk]
 unfold fS;rw [d];refine ⟨f,⟨0,0,0,ds,[]⟩,?_,fun b=>⟨(a b).1,by rw [(a b).2];rfl⟩⟩;dsimp only;obtain ⟨E,e⟩:=aQ ((nB 3 0 s []).2.2);rw [<- e] at cM |-;clear e a d hr hs h;simp only [tR] at cM;exact doG cM
theorem anP {W:Prop} (h:W:=by
 have hr:=h.right;have hs:=h.small;obtain ⟨a,cM,d⟩:=Q5 s c ah hs;unfold fS;refine ⟨s,⟨0,0,a,[],[]⟩,?_,fun e=>by rw [d e];exact ⟨rfl,rfl⟩⟩;obtain ⟨E,b⟩:=aQ ((dw s c).2.1);rw [<- b] at cM |-;clear b d hr hs h;simp only [aN.cells] at cM
 exact doG cM):W:=h
theorem Z9 (s:af) (c:aN) (h:s.trim) (hk:c.kind=21):fS s c:=by exact anP
theorem aaa (s:af) (c:aN) (h:s.trim) (hk:c.kind=22):fS s c:=by exact anP
theorem T4 (s:af) (c:aN) (h:s.trim) (b:gm c.br) (hk:1<=c.kind/\c.kind<=22):fS s c:=by
 have a:c.kind=1\/c.kind=2\/c.kind=3\/c.kind=4\/c.kind=5\/c.kind=6\/c.kind=7\/c.kind=8\/c.kind=9\/c.kind=10\/c.kind=11\/c.kind=12\/c.kind=13\/c.kind=14\/c.kind=15\/c.kind=16\/c.kind=17\/c.kind=18\/c.kind=19\/c.kind=20\/c.kind=21\/c.kind=22:=ah
 rcases a with a | a | a | a | a | a | a | a | a | a | a | a | a | a | a | a | a | a | a | a | a | a
 ·exact adq s c h a
 ·exact adr s c h a
 ·exact ads s c h a
 ·exact adt s c h a
 ·exact adu s c h a
 ·exact adv s c h a
 ·exact adw s c h a
 ·exact adx s c h a
 ·exact ady s c h a
 ·exact ZX s c h a
 ·exact ZY s c h a
 ·exact ZZ s c h a
 ·exact Z0 s c h a
 ·exact Z2 s c h a
 ·exact Z3 s c h a
 ·exact Z4 s c h a
 ·exact Z5 s c h b a
 ·exact Z6 s c h a
 ·exact Z7 s c h a
 ·exact Z8 s c h a
 ·exact Z9 s c h a
 ·exact aaa s c h a
@[reducible] def aio (s:af) (r:Nat):List D:=[.I s.now,.I s.day,.I s.phase,.sl 3 (s.aj.ms.map au.cells),.sl 12 (s.aj.ns.map aC.cells),.sl 4 (s.aj.xs.map ay.cells),.I s.book.next,.sl 7 (s.book.ts.map aL.cells),.sl 4 (s.book.qs.map aF.cells),
 .I s.bu.last,.sl 4 (s.bu.bs.map cq.cells),.sl 3 (pl s.ps),.sl 4 (s.calls.map aB.cells),.sl 5 (s.bH.map bB.cells),.ref r]
@[reducible] def aa1 (s:af) (d:D):List D:=[.I s.now,.I s.day,.I s.phase,.sl 3 (s.aj.ms.map au.cells),.sl 12 (s.aj.ns.map aC.cells),.sl 4 (s.aj.xs.map ay.cells),.I s.book.next,.sl 7 (s.book.ts.map aL.cells),.sl 4 (s.book.qs.map aF.cells),
 .I s.bu.last,.sl 4 (s.bu.bs.map cq.cells),.sl 3 (pl s.ps),.sl 4 (s.calls.map aB.cells),.sl 5 (s.bH.map bB.cells),d]
theorem acX {A:Type} (a b:List A) (x y:A) (k:Nat) (h:a.length=k):(a++[x]++b).set k y=a++[y]++b:=by subst h;simp
theorem NP (xs:List aO) (k:Nat):((xs.map aO.cells).getD k []).drop 7=[]:=by
 rcases bZ k xs.length with h | h
 ·rw [aV xs h];rfl
 ·have:(xs.map aO.cells).getD k []=[]:=by simp [getD,h]
  rw [this];rfl
theorem NO {a b:List (List D)} {k:Nat} (h:a.length=k):((a++[qN]++b).getD k []).drop 7=[]:=by
 subst h;have:(a++[qN]++b).getD a.length []=qN:=by simp
 rw [this];rfl
theorem xO {s:af} {c:aN} (hr:s.right) (h:(ec s c).2=false):(1<=c.kind/\c.kind<=22)/\1<=c.client/\c.client<=8:=RW (uv hr h).1
theorem Gq (s:af) (g:List aU):(sF s g).aA=s.aA:=by unfold sF;split<;>rfl
theorem Y5 (s:af) (c:aN):(wM s c).1.aA=s.aA:=by
 unfold wM WL;(repeat' split)<;>first | rfl | exact Gq _ _
theorem Vq (s:af) (c:aN) (n:Int):(oq s c n).1.aA=s.aA:=by
 unfold oq;(repeat' split)<;>rfl
theorem ZW (s:af) (c:aN):(nD s c).1.aA=s.aA:=by
 unfold nD;(repeat' split)<;>rfl
theorem XK (s:af) (c:aN):(uW s c).1.aA=s.aA:=by
 unfold uW;(repeat' split)<;>rfl
theorem Lp (s:af) (c:Int):(wN s c).1.aA=s.aA:=by
 unfold wN;split
 ·exact Gq _ _
 ·rfl
theorem Ln:∀ (m c:Nat) (s:af) (ds:List aE),(nB m c s ds).1.aA=s.aA
 | 0,_,_,_=>rfl
 | m+1,c,s,ds=>by
  simp only [nB];split
  ·rw [Ln m (c+1)];exact Lp s c
  ·exact Lp s c
theorem RR (s:af) (c:aN):(dw s c).2.1=0->(dw s c).1.aA=s.aA:=
 sL s c (P:=fun m=>m.2.1=0->m.1.aA=s.aA) (fun _=>rfl) (fun _=>rfl) (fun _=>rfl) (fun _=>Y5 s c) (fun _=>Vq s c _) (fun _=>Gq s _) (fun _=>ZW s c)
  (fun a=>by show (lJ s).aA=_;rw [lJ,aq a]) (fun a=>by show (kj s).aA=_;rw [kj,aq a]) (fun a=>by show (uE s).aA=_;rw [uE,aq a]) (fun a=>by show (mD s c.br).aA=_;rw [mD,aq a])
  (fun _=>XK s c) (fun a=>by show (DQ s c.who).aA=_;rw [DQ,aq a]) (fun _=>Ln 3 0 s []) (fun _ _ _=>rfl)
theorem NN {s:af} {c:aN} (h:s.lens):(gY s c).2.xy.length < 2 ^ 30/\(gY s c).2.falls.length < 2 ^ 30:=by
 have hl:=EH (c:=c) h;unfold gY xw;split
 ·dsimp only;omega
 ·simp [aT.err]
theorem aew {s:af} {c:aN} (h:s.eo) (b:∀ x∈s.aA,jE x):∀ x∈(kH s c).1.aA,jE x:=by
 unfold kH;split
 ·exact b
 have d:=xx s c h;intro x a;obtain ⟨i,e,a⟩:=fR.1 a;rcases (d i e x a).2 with a | rfl
 ·exact b x a
 ·exact NN h.right.lens
theorem aiD (s:af) (c:aN) (h:s.trim) (W:gm c.br) (E:(ec s c).2=false) :
  Sq 29 [.box s.cells] [.addr 0 0,.agg c.cells] [.box (aio (kH s c).1 1),.own 7 ((kH s c).1.aA.map aO.cells)] (.agg (kH s c).2.cells):=by
 have hr:=h.right;obtain ⟨G,m⟩:=xO hr E;have z:=AR s c hr h.aA;rw [E] at z;simp only [Bool.not_false] at z;obtain ⟨Z,Y,A,C⟩:=T4 s c h W G;have hsl:=hr.lens.aA;obtain ⟨p,v⟩:=ia hr;have y:=RR s c;have L:=EH (c:=c) hr.lens;have T:kH s c=({ (gY s c).1 with aA:=rG (qM s c (gY s c).2) 8 },(gY s c).2):=by rw [kH,E];rfl
 have d:=Zz hr (c:=c) m (gY s c).2;have a:=Zy hr (c:=c) m (gY s c).2;obtain ⟨V,-⟩:=vF (w:=c.client) p;obtain ⟨U,-,-⟩:=iQ (n:=c.client) p;rw [T];dsimp only;obtain ⟨M,O⟩:=aQ (dw s c);have l:gY s c=xw s M:=by rw [O];rfl
 rw [l] at d a |-;rw [<- O] at A C y L;obtain ⟨u,r⟩:=aQ ((xw s M).1);obtain ⟨q,t⟩:=aQ ((xw s M).2);have g:(M.2.1=0->u=Z/\q=Y)/\(M.2.1≠0->u=s/\q=.err M.2.1):=by
  rw [r,t];unfold xw;refine ⟨fun e=>?_,fun e=>?_⟩
  ·rw [aq e,(C e).1,(C e).2];exact ⟨rfl,rfl⟩
  ·rw [ak e];exact ⟨rfl,rfl⟩
 have f:u.aA=s.aA:=by
  by_cases e:M.2.1=0
  ·rw [(g.1 e).1,(C e).1];exact y e
  ·rw [(g.2 e).1]
 have Q:q.xy.length < 2 ^ 30/\q.falls.length < 2 ^ 30:=by
  by_cases e:M.2.1=0
  ·rw [(g.1 e).2,(C e).2];exact ⟨by show M.2.2.2.2.1.length < _;omega,by show M.2.2.2.2.2.length < _;omega⟩
  ·rw [(g.2 e).2];exact ⟨by simp [aT.err],by simp [aT.err]⟩
 have x:=Cy u c.client (by rw [f];exact p) (by rw [f];exact v) m (by rw [f];omega);rw [f] at x;have R:=Mr s.aA ah;have B:=TW q Q;rw [<- r,<- t];rw [<- t] at d a;obtain ⟨k,o⟩:=aQ (putAt aO.client c.client s.aA);obtain ⟨b,P⟩:=aQ (Si c.client s.aA);have S:=PZ s.aA k ah (by rw [o];exact U);have H:b=true->k < s.aA.length:=fun h=>by rw [o];exact (V (by rw [<- P];exact h)).1
 rw [<- o] at d a U x;rw [<- P] at d a x;obtain ⟨F,D⟩:=aQ (rG (qM s c q) 8);rw [<- D] at d a |-;clear O l C r t T y L o P D V m G p v;have K:(s.aA.map aO.cells).length=s.aA.length:=qn ..;have N:((s.aA.take k).map aO.cells++[qN]++(s.aA.drop k).map aO.cells).length=s.aA.length+1:=by simp;omega
 have J:((s.aA.take k).map aO.cells).length=k:=by simp;omega
 have i:((s.aA.take k).map aO.cells++[qN]++(s.aA.drop k).map aO.cells).set k (aO.cells ⟨c.client,c.seq,q⟩)=(s.aA.take k++[(⟨c.client,c.seq,q⟩:aO)]++s.aA.drop k).map aO.cells:=by
  rw [acX _ _ _ _ _ (by simp;omega)];simp
 have j:(s.aA.map aO.cells).set k (aO.cells ⟨c.client,c.seq,q⟩)=(s.aA.set k (⟨c.client,c.seq,q⟩:aO)).map aO.cells:=map_set.symm;simp only [aO.cells] at i j;by_cases e:M.2.1=0
 ·obtain ⟨r,t⟩:=g.1 e;subst r t;rw [e] at A;simp only [af.cells,tC,tR,aT.cells,aN.cells,f] at z A x B |-;clear g;refine bf 85 2 [.cell 4 62] mixed func29 ?_;refine sg [0] aJ z ?_;refine sg [128] aJ A ?_;try refine dW.id ?_
  refine sg [0] aJ x ?_;refine aD.RY [(0,.addr 0 0),(3,.addr 64 0),(4,.addr 80 0),(5,.addr 96 0),(9,.I k),(10,.bool b),(45,.addr 0 0),(51,.ref 1200)] [(0,.box u.cells),(64,.box c.cells),(80,.box [.I 0,.I 0,.I 0,.nil,.nil]),(96,.box q.cells),(1200,.own 7 (s.aA.map aO.cells))] [] [] false rfl ?_;refine s0 ?_;refine cY.gB R ?_;simp only [go_sem,seval,f,af.cells,aT.cells,aN.cells];cases b
  ·have l:=a rfl;rw [<- l];refine s0 ?_;refine aD.RY [(0,.addr 0 0),(3,.addr 64 0),(4,.addr 80 0),(5,.addr 96 0),(9,.I k),(57,.addr 0 0),(66,.ref 1200)] [(0,.box (aa1 u .undef)),(64,.box c.cells),(80,.box [.I 0,.I 0,.I 0,.nil,.nil]),(96,.box q.cells),(1200,.own 7 ((s.aA.take k).map aO.cells++[qN]++(s.aA.drop k).map aO.cells))] [] [1200,1056] false rfl ?_;refine s0 ?_;refine cY.gB S ?_;simp only [go_sem,seval,f,af.cells,aT.cells,aN.cells];refine sc N B ?_;refine dP ?_;all_goals
    rw [NO J];exact i
  ·have l:=d rfl;have E:=H rfl;rw [<- l];refine sc K B ?_;refine dP ?_;all_goals
    rw [NP];exact j
 ·obtain ⟨r,t⟩:=g.2 e;have r:=r.symm;subst r;subst t;have X:(M.2.1==0)=false:=by simpa using e
  simp only [af.cells,tC,tR,aT.cells,aT.err,aN.cells,map_nil] at z A x B |-;simp only [aT.err,map_nil] at i j d a;clear g;refine bf 85 2 [.cell 4 62] mixed func29 ?_;refine sg [0] aJ z ?_;refine sg [128] aJ A ?_;try refine dW.id ?_
  refine sg [0] X x ?_;refine aD.RY [(0,.addr 0 0),(3,.addr 64 0),(4,.addr 80 0),(5,.addr 96 0),(9,.I k),(10,.bool b),(45,.addr 0 0),(51,.ref 1200)] [(0,.box s.cells),(64,.box c.cells),(80,.box [.I 0,.I 0,.I 0,.nil,.nil]),(96,.box [.I M.2.1,.I 0,.I 0,.sl 3 [],.sl 8 []]),(1200,.own 7 (s.aA.map aO.cells))] [] [] false rfl ?_;refine s0 ?_;refine cY.gB R ?_;simp only [go_sem,seval,f,af.cells,aT.cells,aN.cells];cases b
  ·have l:=a rfl;rw [<- l];refine s0 ?_;refine aD.RY [(0,.addr 0 0),(3,.addr 64 0),(4,.addr 80 0),(5,.addr 96 0),(9,.I k),(57,.addr 0 0),(66,.ref 1200)] [(0,.box (aa1 s .undef)),(64,.box c.cells),(80,.box [.I 0,.I 0,.I 0,.nil,.nil]),(96,.box [.I M.2.1,.I 0,.I 0,.sl 3 [],.sl 8 []]),(1200,.own 7 ((s.aA.take k).map aO.cells++[qN]++(s.aA.drop k).map aO.cells))] [] [1200,1056] false rfl ?_;refine s0 ?_;refine cY.gB S ?_;simp only [go_sem,seval,f,af.cells,aT.cells,aN.cells];refine sc N B ?_;refine dP ?_;all_goals
    rw [NO J];exact i
  ·have l:=d rfl;have E:=H rfl;rw [<- l];refine sc K B ?_;refine dP ?_;all_goals
    rw [NP];exact j
theorem abb (s:af) (c:aN) (hr:s.right) (a:∀ x∈s.aA,jE x) (d:(ec s c).2=true) :
  Sq 29 [.box s.cells] [.addr 0 0,.agg c.cells] [.box s.cells] (.agg (ec s c).1.cells):=by
 have c1:=AR s c hr a;rw [d] at c1;simp only [Bool.not_true] at c1;obtain ⟨K,b⟩:=aQ ((ec s c).1);rw [<- b] at c1 |-;simp only [af.cells,aT.cells,aN.cells] at c1 |-;refine bf 85 2 [.cell 4 62] mixed func29 ?_;exact Hv [0] aJ c1
theorem iw (s:af) (c:aN) (h:s.trim) (d:gm c.br) :
  Sq 29 [.box s.cells] [.addr 0 0,.agg c.cells] [.box (kH s c).1.cells] (.agg (kH s c).2.cells):=by
 cases b:(ec s c).2
 ·have a:=aiD s c h d b;refine Spec.Dt a 1 (by simp) rfl (fun r=>by rcases r with _ | _ | r<;>rfl) ?_;intro i f g;have:i=0:=by simp at f;omega
  subst this;cases g
 ·have a:=abb s c h.right h.aA b;have e:kH s c=(s,(ec s c).1):=by rw [kH,b];rfl
  rw [e];exact a
theorem aep (n:Int):IntKind.wrap .i64 (1+IntKind.wrap .i64 ((IntKind.wrap .u64 n).tmod 8))=n%8+1:=by
 have h:IntKind.wrap .u64 n=n%18446744073709551616:=by rw [IntKind.wrap_u64]
 rw [h,Int.tmod_eq_emod_of_nonneg ah,gA (x:=n%18446744073709551616%8) ah ah,gA ah ah];omega
def xQ (n:Int):List aO->Int->Int
 | [],k=>k
 | x :: r,k=>xQ n r (if x.client==n then x.seq else k)
def ZB (q:Int):Int:=(IntKind.wrap .u64 q).tmod 16
def aeT (q last:Int):Int:=if ZB q=1 then last else if ZB q=2 then last+2 else if ZB q=3 then last-1 else last+1
def fI (s:af) (c:aN):aN:={ c with client:=c.client%8+1,seq:=aeT c.seq (xQ (c.client%8+1) s.aA 0) }
theorem Oj {n B:Int}:∀ {l:List aO} {k:Int},(∀ x∈l,0<=x.seq/\x.seq<=B)->0<=k/\k<=B->0<=xQ n l k/\xQ n l k<=B
 | [],_,_,h=>h
 | x :: r,k,hx,h=>by
  simp only [xQ];refine Oj (fun y a=>hx y (mem_cons_of_mem _ a)) ?_;split
  ·exact hx x (by simp)
  ·exact h
theorem iN (s:af) (c:aN) (hr:s.right):Sq 30 [] [.agg s.cells,.agg c.cells] [] (.agg (fI s c).cells):=by
 have hsl:=hr.lens.aA;have f:∀ x∈s.aA,0<=x.seq/\x.seq<=1099511627776:=fun x t=>by
  have:=yR.1 (((jA (lt:=fW) jX).1 hr.aA).1 x t);omega
 have m:=Oj (n:=c.client%8+1) (k:=0) f ⟨by omega,by omega⟩;have g:=aep c.client;have h:ZB c.seq=(IntKind.wrap .u64 c.seq).tmod 16:=rfl;obtain ⟨L,e⟩:=aQ (fI s c);rw [<- e];simp only [fI,aeT] at e;obtain ⟨Q,j⟩:=aQ (ZB c.seq);rw [<- j] at h e;obtain ⟨n,C⟩:=aQ (c.client%8+1);rw [<- C] at e m g;obtain ⟨R,B⟩:=aQ (xQ n s.aA 0);rw [<- B] at e m;obtain ⟨cli,D,kind,who,z,no,inst,cur,aZ,aH,br,s0,s1,s2,s3,s4,s5⟩:=c;dsimp only at e g h;rw [e];simp only [af.cells,aN.cells];clear C j f hr e;refine bf 58 2 [.cell 4 66] mixed func30 ?_;refine sm g ?_;refine aM.uB (S:=Int) s.aA.length [2,3,4] [48,80] (fun i k=>[(5,.I k),(6,.I i)]) (fun i _=>[(64,.box [.I n,.I D,.I kind,.I who,.I z,.I no,.I inst,.I cur,.I aZ,.I aH,.I br,.I s0,.I s1,.I s2,.I s3,.I s4,.I s5])]) (fun i k=>xQ n (s.aA.drop i) k=R) 0 B.symm ?_ ?_ ?_
 ·exact gU
 ·intro i k p l o a;have r:=aV (c:=aO.cells) s.aA p;have hli:(i:Int) < (s.aA.length:Int):=ah
  obtain ⟨x,t⟩:=aQ (s.aA[i]);rw [fZ p,<- t] at a;rw [<- t] at r;simp only [xQ] at a;simp only [aO.cells] at r;cases q:x.client==n
  ·rw [q,ak (by simp)] at a;refine sm (a4 l r q o) ?_;refine dP ?_;refine av.kW k p a ?_;exact gU
  ·rw [q,aq rfl] at a;refine sm (a4 l r q o) ?_;refine dP ?_;refine av.kW x.seq p a ?_;exact gU
 ·intro k b a;rw [nx] at a;have a:k=R:=a;subst a;have w1:IntKind.wrap .i64 (k+1)=k+1:=gA ah ah;have E:IntKind.wrap .i64 (k+2)=k+2:=gA ah ah;have F:IntKind.wrap .i64 (k-1)=k-1:=gA ah ah;by_cases u:Q=1
  ·have d:(Q==1)=true:=by simpa using u
   rw [aq u];simp only [go_sem,seval,b,<- h,d];all_goals simp
  have y:(Q==1)=false:=by simpa using u
  rw [ak u];by_cases v:Q=2
  ·have d:(Q==2)=true:=by simpa using v
   rw [aq v];simp only [go_sem,seval,b,<- h,y,d,E];all_goals simp
  have A:(Q==2)=false:=by simpa using v
  rw [ak v];by_cases w:Q=3
  ·have d:(Q==3)=true:=by simpa using w
   rw [aq w];simp only [go_sem,seval,b,<- h,y,A,d,F];all_goals simp
  ·have d:(Q==3)=false:=by simpa using w
   rw [ak w];simp only [go_sem,seval,b,<- h,y,A,d,w1];all_goals simp
theorem DN:Sq 28 [] [] [.box af.zero.cells] (.addr 0 0):=by
 simp only [af.cells,af.zero,pl];refine bf 3 0 [.tmp 0] mixed func28 ?_;refine s0 ?_;all_goals simp
structure af.EJ (s:af):Prop where
 eo:s.eo
 sm:∀ x∈s.aA,jE x
 ok:∀ x∈s.aA,x.r.code≠0->x.r=.err x.r.code
theorem af.EJ.trim {s:af} (h:s.EJ):s.trim:=⟨h.eo.right,h.eo.good.small,h.sm,h.eo.last⟩
theorem aev {s:af} {c:aN} (h:s.eo) (b:∀ x∈s.aA,x.r.code≠0->x.r=.err x.r.code):∀ x∈(kH s c).1.aA,x.r.code≠0->x.r=.err x.r.code:=by
 unfold kH;split
 ·exact b
 have d:=xx s c h;intro x a;obtain ⟨i,e,a⟩:=fR.1 a;rcases (d i e x a).2 with a | rfl
 ·exact b x a
 ·dsimp only;unfold gY xw;split
  ·intro h;exact absurd rfl h
  ·intro _;rfl
theorem nL {s:af} (h:s.EJ) (c:aN):(kH s c).1.EJ:=⟨aba h.eo,aew h.eo h.sm,aev h.eo h.ok⟩
theorem kI:af.zero.EJ:=⟨Pc,fun x a=>(not_mem_nil a).elim,fun x a=>(not_mem_nil a).elim⟩
def wk1 (q:Int):aN:=⟨1,q,1,3,0,0,0,0,0,0,5,0,0,0,0,0,0⟩
def wkS:af:=⟨0,0,0,⟨[⟨3,1,5⟩],[],[]⟩,⟨0,[],[]⟩,⟨0,[]⟩,[],[],[],[⟨1,1,.err 0⟩]⟩
theorem aqe:kH .zero (wk1 1)=(wkS,.err 0):=bD
theorem auC:kH wkS (wk1 1)=(wkS,.err 0):=bD
theorem auD:kH wkS (wk1 3)=(wkS,.err 19):=bD
theorem lO:Sq 32 [] [] [] (.bool true):=by
 have c:=DN;have a:wkS.EJ:=by have:=nL kI (wk1 1);rwa [aqe] at this
 have c1:=iw .zero (wk1 1) kI.trim ⟨by decide,by decide⟩;have c2:=iw wkS (wk1 1) a.trim ⟨by decide,by decide⟩;have c3:=iw wkS (wk1 3) a.trim ⟨by decide,by decide⟩;rw [aqe] at c1;rw [auC] at c2;rw [auD] at c3;simp only [af.cells,af.zero,aN.cells,aT.cells,aT.err,wk1,pl] at c c1;simp only [af.cells,aN.cells,aT.cells,aT.err,wk1,pl] at c2 c3;obtain ⟨W,b⟩:=aQ (wkS);have d:W.aj.ms.length=1:=by rw [b];rfl
 rw [<- b] at c1 c2 c3;clear b a;refine bf 41 0 [.tmp 0] mixed func32 ?_;refine s0 ?_;refine aD.RY [(0,.bool false),(5,.addr 32 0)] [(32,.box af.zero.cells)] [] [] false rfl ?_;refine s0 ?_;refine cY.gB c ?_;simp only [go_sem,seval,af.cells,af.zero,pl];try simp only [go_sem,seval]
 try (with_reducible and_intros)<;>first|exact .dq|omega|skip
 refine n8.tO [32] (by kernel_rfl) ?_;refine s0 ?_;try (with_reducible and_intros)<;>first|exact .dq|omega|skip
 refine jv.intro c1 ?_;try simp only [go_sem,seval]
 try (with_reducible and_intros)<;>first|exact .dq|omega|skip
 refine n8.tO [32] (by kernel_rfl) ?_;refine s0 ?_;try (with_reducible and_intros)<;>first|exact .dq|omega|skip
 refine jv.intro c2 ?_;refine sm d ?_;try (with_reducible and_intros)<;>first|exact .dq|omega|skip
 exact Hv [32] aJ c3
theorem pR (r:List D) (h:lW [.int .i64,.int .i64,.int .i64,.int .i64,.int .i64,.int .i64,.int .i64,.int .i64,.int .i64,.int .i64,.int .i64,.int .i64,.int .i64,.int .i64,.int .i64,.int .i64,.int .i64] r):∃ x:aN,gm x.br/\r=x.cells:=by
 simp only [lW,Fit] at h;obtain ⟨_,_,rfl,⟨a,rfl,r0⟩,_,_,rfl,⟨a1,rfl,r1⟩,_,_,rfl,⟨a2,rfl,r2⟩,_,_,rfl,⟨a3,rfl,r3⟩,_,_,rfl,⟨a4,rfl,r4⟩,_,_,rfl,⟨a5,rfl,r5⟩,_,_,rfl,⟨a6,rfl,r6⟩,_,_,rfl,⟨a7,rfl,r7⟩,_,_,rfl,⟨a8,rfl,r8⟩,_,_,rfl,⟨a9,rfl,r9⟩,_,_,rfl,⟨a10,rfl,r10⟩,_,_,rfl,⟨a11,rfl,r11⟩,_,_,rfl,⟨a12,rfl,r12⟩,_,_,rfl,⟨a13,rfl,r13⟩,_,_,rfl,⟨a14,rfl,r14⟩,_,_,rfl,⟨a15,rfl,r15⟩,_,_,rfl,⟨a16,rfl,r16⟩,rfl⟩:=h;exact ⟨⟨a,a1,a2,a3,a4,a5,a6,a7,a8,a9,a10,a11,a12,a13,a14,a15,a16⟩,r10,rfl⟩
end Go.Proofs.YtccipdjjkcejgaaGreat
