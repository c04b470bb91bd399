/- Parts. -/
import Derived.Test.YtfhdodehnpbeoaaGreatNA
import Derived.Test.YtfhdodehnpbeoaaGreatQA
set_option linter.all false
set_option maxHeartbeats 4000000
set_option maxRecDepth 16000
namespace Go.Proofs.YtfhdodehnpbeoaaGreat
open Go.Abs Tryz
def adv{A:Type}(F:A->Int){l:List A}{i:Nat}(h:i<l.length):tot (l.take (i+1)) F=tot (l.take i) F+F l[i]:=by
 rw[j7 h,FF];simp[tot,aC]
theorem UC{f:Bool}{last:aH}:∀(l:List aH)(s:Bool×aH),
  (∀d∈l,(f||fV last d)=true->(jr f last l s).1=true/\¬fV d (jr f last l s).2=true)/\(s.1=true->(jr f last l s).1=true/\¬fV s.2 (jr f last l s).2=true)
 | [],s=>⟨λd c=>(by cases c),λh=>⟨h,by rw[fm];simp only[jr];omega⟩⟩
 |x::r,s=>by
  simp only[jr];obtain⟨n,b⟩:=UC (f:=f) (last:=last) r (if Ak f last s x=true then(true,x)else s);constructor
  ·intro d c j;rcases List.mem_cons.1 c with rfl|c
   ·by_cases a:Ak f last s d=true
    ·rw[au a]at b |-;exact b rfl
    ·rw[aq a]at b |-;simp only[Ak,j,cz,Bool.or_eq_true,iN,not_or]at a;have m:s.1=true:=su a.1;obtain⟨i,e⟩:=b m;refine⟨i,λh=>?_⟩;have g:=a.2;rw[fm]at h e g;omega
   ·exact n d c j
  ·intro k;by_cases a:Ak f last s x=true
   ·rw[au a]at b |-;obtain⟨i,e⟩:=b rfl;refine⟨i,λh=>?_⟩;simp only[Ak,k,Bool.not_true,Bool.false_or,cU]at a;have g:=a.2;dsimp only at e;rw[fm]at h e g;omega
   ·rw[aq a]at b |-;exact b k
def FL(w c:Int)(d:aH):Int:=if d.who=w/\d.cur=c then d.bT else 0
theorem OQ{w c:Int}{l:List aH}(y:kV l=true):∀(n:Nat)(f:Bool)(last:aH)(out:List aH),VE f last l<n->(zq l n f last out).2=0->tot (zq l n f last out).1 (FL w c)=tot out (FL w c)+tot l (λd=>if(f||fV last d)=true then FL w c d else 0)
 | 0,_,_,_,h,_=>by omega
 |n+1,f,last,out,hn,h=>by
  obtain⟨i,hm2⟩:=UC (f:=f) (last:=last) l (false,.zero);have b:=yL (f:=f) (last:=last) (l:=l) (s:=(false,.zero));simp only[zq]at h |-;obtain⟨S,x⟩:=aL (jr f last l (false,.zero));rw[<-x]at h i b |-;split
  ·rename_i j;rw[au j]at h;split
   ·rename_i k;rw[au k]at h;obtain⟨k1,k2⟩:S.2∈l/\(f||fV last S.2)=true:=by
     rcases b j with e|e
     ·rw[e]at j;cases j
     ·exact e
    have hlt:=NX k1 k2;rw[OQ y n false S.2 _ aj h,FF];have p:jF S.2.who S.2.cur l=aC (rj S.2.who S.2.cur l):=by unfold jF;rw[au k]
    have u:tot (xu l S.2) (FL w c)=tot l (λd=>if d.who=S.2.who/\d.cur=S.2.cur then FL w c d else 0):=by
     have e2:tot (xu l S.2) (FL w c)=if S.2.who=w/\S.2.cur=c then jF S.2.who S.2.cur l else 0:=by
      unfold xu;split
      ·rename_i r;have r:jF S.2.who S.2.cur l=0:=su r;rw[r];split<;>rfl
      ·simp only[tot,List.map_cons,List.map_nil,aC,FL];omega
     rw[e2,p,Xq];by_cases o:S.2.who=w/\S.2.cur=c
     ·rw[au o];refine iX λd _=>?_;by_cases a:d.who=S.2.who/\d.cur=S.2.cur
      ·rw[au a,au a];unfold FL;rw[au (by rw[a.1,a.2];exact o)]
      ·rw[aq a,aq a]
     ·rw[aq o,lH];intro d _;by_cases a:d.who=S.2.who/\d.cur=S.2.cur
      ·rw[au a];unfold FL;rw[aq (by rw[a.1,a.2];exact o)]
      ·rw[aq a]
    rw[u,Int.add_assoc,<-wP];congr 1;refine iX λd a=>?_;by_cases g:(f||fV last d)=true
    ·rw[au g];have q:=(i d a g).2;by_cases t:d.who=S.2.who/\d.cur=S.2.cur
     ·rw[au t,aq]
      ·omega
      ·rw[Bool.false_or,fm];omega
     ·rw[aq t,au]
      ·omega
      ·rw[Bool.false_or,fm];rw[fm]at q;omega
    ·rw[aq g];have m:f=false/\¬fV last d=true:=by
      simp only[Bool.or_eq_true,not_or]at g;exact⟨su g.1,g.2⟩
     have k2:=k2;rw[m.1,Bool.false_or,fm]at k2;have v:=m.2;rw[fm]at v;rw[aq aj,aq (by rw[Bool.false_or,fm];omega)];rfl
   ·rename_i k;rw[aq k]at h;exact absurd h k
  ·rename_i j;have:tot l (λd=>if(f||fV last d)=true then FL w c d else 0)=0:=lH λd a=>by
    rw[aq];intro g;exact j (i d a g).1
   rw[this];dsimp only;omega
def TV{w c:Int}{l:List aH}(h:(lA l).2=0):tot (lA l).1 (FL w c)=tot l (FL w c):=by
 unfold lA at h |-;split
 ·rename_i a;rw[au a]at h
  rw[OQ a _ _ _ _ (by
   have:VE true .zero l<=l.length:=List.countP_le_length
   omega) h]
  simp only[Bool.true_or,if_true];simp[tot,aC]
 ·rename_i a;rw[aq a]at h;cases h
theorem KF(w c:Int):∀l:List aH,aC (dM ⟨2,w,c⟩ (nV l))=tot l (FL w c)
 | []=>rfl
 |d::r=>by
  have a:=KF w c r;unfold nV at a |-;rw[List.flatMap_cons,tR,a,iU,mj,mj];have b:¬(aN.br ⟨5,0,d.cur,-d.bT⟩=⟨2,w,c⟩):=by
   intro e;have:=congrArg aI.kind e;cases this
  rw[aq b];have e2:(aN.br ⟨2,d.who,d.cur,d.bT⟩=⟨2,w,c⟩)↔d.who=w/\d.cur=c:=by
   simp[aN.br]
  simp only[e2,FL,dM,pick,List.flatMap_nil,aC];split<;>omega
def V8{w c:Int}(a:(⟨2,w,c⟩:aI)∈gf){l:List aH}(h:ou l=0):aC (dM ⟨2,w,c⟩ (kP l))=tot l (FL w c):=by
 unfold kP;rw[au h];unfold ou at h;split at h
 case isFalse=>cases h
 split at h
 case isFalse hne=>exact absurd h hne
 rename_i b;rw[qE a h,KF,TV b]
def UJ{s:af}(a:cu s=0){w c:Int}(d:(⟨2,w,c⟩:aI)∈gf):tot (jV s) (FL w c)=tot (lU s.ak s.book) (FL w c)/\gw ⟨2,w,c⟩ (bz s).bp.bs=gw ⟨2,w,c⟩ s.bp.bs+tot (lU s.ak s.book) (FL w c):=by
 obtain⟨h1,h2,h3,e,f⟩:=zR a;have b:tot (eJ s) (FL w c)=tot (lU s.ak s.book) (FL w c):=TV e;unfold jV bz;rw[au a,au a];refine⟨b,?_⟩;obtain⟨g,h⟩:=O7 d (show(gD s.bp (kP (eJ s)) (ou (eJ s))).2=0 from f);show gw ⟨2,w,c⟩ (gD s.bp (kP (eJ s)) (ou (eJ s))).1.bs=_;rw[h,V8 d g,b]
def Vf(r:ay)(w c:Int)(p:aE):Bool:=p.who==w&&(aU r p.inst).cur==c
def Vg(r:ay)(p:aE):Int:=gN p (aU r p.inst).mult (bC (aU r p.inst))
theorem Yj(r:ay)(w c:Int):∀qs:List aE,aC (pick (Vf r w c) (Vg r) qs)=tot (qs.map (pz r)) (FL w c)
 | []=>rfl
 |p::t=>by
  rw[nJ,Yj r w c t,List.map_cons,iU];refine congrArg (λz=>z+tot (t.map (pz r)) (FL w c)) ?_;unfold Vf FL;by_cases h:p.who=w/\(aU r p.inst).cur=c
  ·rw[au (by simp[h]),au (show(pz r p).who=w/\(pz r p).cur=c from h)];rfl
  ·rw[aq (by simp only[cU,fE];exact h),aq (show ¬((pz r p).who=w/\(pz r p).cur=c)from h)]
def abQ{r:ay}(h:r.okB=true){n:Int}(a:bE r n=true):(0<=(aU r n).mult/\(aU r n).mult<=1024)/\0<=bC (aU r n)/\bC (aU r n)<=1073741824:=by
 have b:=(fF.1 h).2.1.1 _ (vr a).1;simp only[aF.ok,within,cU,bO]at b;unfold bC;split<;>omega
def Kr(l:List bB):Sq 3 [] [.sl 17 (l.map bB.cells)] [] (.bool true):=by
 rcases dN 1000 l.length with hlen|hlen
 ·have d:decide ((1000:Int)<(l.length:Int))=true:=jw;refine aX 180 1 [.tmp 2] mixed func3 ?_;exact eo d
 have d:decide ((1000:Int)<(l.length:Int))=false:=lJ;have cW:=wR;have G:=qp l hlen;have R:=vL l;obtain⟨s,hs⟩:=aL (Af l);rw[<-hs]at G R;clear hs;have c1:=nG s R.small R.right R.sm;by_cases z:cu s=0
 case neg =>
  have Z:(cu s != 0)=true:=su z;have J:jV s=[]:=by unfold jV;rw[aq z]
  rw[J]at c1;simp only[af.cells]at G c1 |-;refine aX 180 1 [.tmp 2] mixed func3 ?_;refine sc d G ?_;refine sc Z c1 ?_;exact lX aK cW
 have Z:(cu s==0)=true:=su z;have F:=zT R z;obtain⟨s1,s2,s3,s4,s5⟩:=zR z;have A:=Ru s3;have hq:∀p∈s.book.qs,(bE s.ak p.inst=true/\bA (Vg s.ak p)=true)/\jB p.aQ/\bA p.cost=true:=λp P=>by
  have h1:=LI (A.2.2 p P);have h2:=jG.1 ((dY.1 s1.book).ok p P);exact⟨⟨h1.1,h1.2.1⟩,⟨by omega,by omega⟩,h2.2.2.2.1⟩
 have e:=λ{w c}=>UJ (w:=w) (c:=c) z;have S:lU s.ak s.book=s.book.qs.map (pz s.ak):=by unfold lU;rw[au s3]
 have V:=λn=>fu s.ak n R.small.ak.small;have E:=λw c=>jo s.bp ⟨2,w,c⟩ (by have:=R.right.lens.bs;omega);have u:=λw c=>jo (bz s).bp ⟨2,w,c⟩ (by have:=F.right.lens.bs;omega);have H:=jq (bz s) F.small F.gq;rw[bU.2 F.right]at H;have Q:(bz s).phase=1:=by unfold bz;rw[au z]
 have N:=λ{n} h=>abQ (r:=s.ak) R.right.ak (n:=n) h;have ad:=R.right.lens.qs;have ab:=HJ R.right.lens;obtain⟨t,ht⟩:=aL (bz s);rw[<-ht]at c1 H Q;simp only[<-ht]at u e;obtain⟨D,J⟩:=aL (jV s);rw[<-J]at c1 ab;simp only[<-J,S]at e;clear ht J s1 s2 s3 s4 s5 A S R F z;simp only[af.cells,ay.cells,bu.cells,aI.cells,aF.cells]at G c1 V E u H |-;refine aX 180 1 [.tmp 2] mixed func3 ?_;refine sc d G ?_;refine sc aK c1 ?_;refine sm (a2 dV Z) ?_;refine aG.wv 16 [3,4,5] [64,80,480] (λi=>[(7,.I ((i:Int)+1))]) (λ_=>[]) ?_ ?_ ?_
 ·exact jh
 ·intro i _ hi _ _ _;obtain⟨w,hw⟩:=aL ((i:Int)+1);have hd:decide (w<=16)=true:=jw;have ag:IntKind.wrap .i64 (w+1)=((i+1:Nat):Int)+1:=fU;rw[<-hw];refine sm hd ?_;refine aG.wv 3 [3,4,5,7] [64,80,480] (λc=>[(8,.I c)]) (λ_=>[]) ?_ ?_ ?_
  ·exact jh
  ·intro c _ hc hdc ae _
   have ha:(⟨2,w,c⟩:aI)∈gf:=oa.2 (by
    unfold aI.right;rw[aq (by dsimp only;omega)];show(decide (1<=w)&&decide (w<=16))=true
    rw[dw aj,dw aj];rfl)
   obtain⟨p1,p2⟩:=e ha;rw[<-Yj]at p1 p2;have l1:=E w c;have l2:=u w c;rw[p2]at l2;have aa:decide ((c:Int)<3)=true:=jw;refine sm aa ?_;refine aG.wv s.book.qs.length [3,4,5,7,8] [64,80,480] (λk=>[(10,.I k),(9,.ref 1744)]) (λk=>[(1744,.own 1 (ints (pick (Vf s.ak w c) (Vg s.ak) (s.book.qs.take k))))]) ?_ ?_ ?_
   ·simp only[go_sem,seval]<;>simp[pick,ints]
   ·intro k _ m b f _;have g:=aM (c:=aE.cells) s.book.qs m;have O:(k:Int)<(s.book.qs.length:Int):=aj
    have j:=ga (Vf s.ak w c) (Vg s.ak) m;have ac:=bR (Vf s.ak w c) (Vg s.ak) (s.book.qs.take k);have hlt:(s.book.qs.take k).length=k:=by simp;omega
    obtain⟨⟨q1,U⟩,q3,q4⟩:=hq _ (dH m);obtain⟨L,K⟩:=aL (pick (Vf s.ak w c) (Vg s.ak) (s.book.qs.take k));obtain⟨p,P⟩:=aL (s.book.qs[k]);rw[<-K,<-P]at j;rw[<-K]at ac |-;rw[<-P]at g q1 U q3 q4;have hi1:=N q1;have T:=V p.inst;obtain⟨X,M⟩:=aL (aU s.ak p.inst);have W:=tH X;have Y:=xF p X.mult (bC X) q3 q4 (by rw[M];exact hi1.1) (by rw[M];exact hi1.2);have U:bA (gN p X.mult (bC X))=true:=by rw[M];exact U
    rw[U,au rfl]at Y;simp only[Vf,Vg,<-M]at j;rw[<-M]at T;simp only[aE.cells]at g Y;simp only[aF.cells]at W;rw[show(if X.set==0 then X.aS else X.set)=bC X from rfl]at W;clear V E u H c1 hq N e;by_cases B:p.who=w
    case neg =>
     have q:(p.who==w)=false:=su B;simp only[q,dU,iI,if_false,List.append_nil]at j;refine sc (a2 b g) T ?_;refine sm (a4 g dV q f) ?_;try refine aV ?_
     refine ah.v m ?_;exact eo j
    have q:(p.who==w)=true:=su B;by_cases C:X.cur=c
    case neg =>
     have y:(X.cur==(c:Int))=false:=su C;simp only[q,y,Bool.and_false,iI,if_false,List.append_nil]at j;refine sc (a2 b g) T ?_;refine sm (a5 g dV q y f) ?_;try refine aV ?_
     refine ah.v m ?_;exact eo j
    have y:(X.cur==(c:Int))=true:=su C;simp only[q,y,Bool.and_self,if_true]at j;refine sc (a2 b g) T ?_;refine sm (a4 g dV q y) ?_;refine sc aK W ?_;refine sc g Y ?_;simp only[go_sem,seval,f,aA];try refine aV ?_
    refine ah.v m ?_;exact gH j
   ·intro _ o _;rw[eU];obtain⟨L,K⟩:=aL (pick (Vf s.ak w c) (Vg s.ak) s.book.qs);have hLl:L.length<=128:=by rw[K];exact Nat.le_trans (bR _ _ _) ad
    rw[<-K]at p1 l2 |-;refine sm o ?_;refine aG.wv L.length [3,4,5,7,8,9] [64,80,480,1744] (λk=>[(18,.I k),(17,.I (IntKind.wrap .i64 (aC (L.take k))))]) (λ_=>[]) ?_ ?_ ?_
    ·simp only[go_sem,seval]<;>simp[aC,show IntKind.wrap .i64 0=0 from rfl]
    ·intro k _ m b f _;have g:=ints_at L m;have O:(k:Int)<(L.length:Int):=aj
     have a:IntKind.wrap .i64 (IntKind.wrap .i64 (aC (L.take k))+L[k])=IntKind.wrap .i64 (aC (L.take (k+1))):=by
      rw[Mm,j7 m,gO];simp[aC]
     simp only[go_sem,seval,aA,b,g,a,f];try refine aV ?_
     refine ah.v m ?_;exact iB
    ·intro _ o _;rw[eU];simp only[go_sem,seval,aA,o];refine aG.wv D.length [3,4,5,7,8,17] [64,80,480,1744] (λk=>[(20,.I k),(19,.I (IntKind.wrap .i64 (tot (D.take k) (FL w c))))]) (λ_=>[]) ?_ ?_ ?_
     ·simp only[go_sem,seval]<;>simp[tot,aC,show IntKind.wrap .i64 0=0 from rfl]
     ·intro k _ m b f _;have g:=aM (c:=aH.cells) D m;have O:(k:Int)<(D.length:Int):=aj
      have a:=adv (FL w c) m;obtain⟨x,hx⟩:=aL (D[k]);rw[<-hx]at g a;unfold FL at a;simp only[aH.cells]at g;by_cases B:x.who=w
      case neg =>
       have q:(x.who==w)=false:=su B;rw[aq (λh=>B h.1),Int.add_zero]at a;refine sm (a4 b g q f) ?_;try refine aV ?_
       refine ah.v m ?_;unfold FL;exact eo a
      have q:(x.who==w)=true:=su B;by_cases C:x.cur=c
      case neg =>
       have y:(x.cur==(c:Int))=false:=su C;rw[aq (λh=>C h.2),Int.add_zero]at a;refine sm (a5 b g q y f) ?_;try refine aV ?_
       refine ah.v m ?_;unfold FL;exact eo a
      have y:(x.cur==(c:Int))=true:=su C;rw[au ⟨B,C⟩]at a;unfold FL;simp only[go_sem,seval,b,g,q,y,Mm,f,<-a];try refine aV ?_
      refine ah.v m ?_;exact iB
     ·intro _ o _;rw[eU,p1];have w2:IntKind.wrap .i64 (gw ⟨2,w,c⟩ s.bp.bs+aC L-gw ⟨2,w,c⟩ s.bp.bs)=IntKind.wrap .i64 (aC L):=by rw[show gw ⟨2,w,c⟩ s.bp.bs+aC L-gw ⟨2,w,c⟩ s.bp.bs=aC L by omega]
      refine sc o l2 ?_;refine sc aK l1 ?_;simp only[go_sem,seval,bne,w2,beq_self_eq_true,ae];try refine aV ?_
      refine ah.v hc ?_;exact iB
  ·intro _ o _;refine sm (a2 o ag) ?_;try refine aV ?_
   refine ah.v hi ?_;exact iB
 ·intro _ _ _;refine s0 ?_;refine sc aK H ?_;refine sm Q ?_;try refine aV ?_
  exact lX aK cW
