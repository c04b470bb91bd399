/- Layer 25: what is asked, and what follows. No theorem of a claim. -/
import Derived.Test.YtccipdjjkcejgaaGreatKZ
import Derived.Test.YtccipdjjkcejgaaGreatKB
set_option linter.unusedSimpArgs false
set_option linter.unusedVariables false
set_option maxHeartbeats 4000000
set_option maxRecDepth 16000
namespace Go.Proofs.YtccipdjjkcejgaaGreat
open Go.Abs Tryz
theorem TC {s:af} (i:s.EJ) (c:aN) {B:Int} (hB:0<=B/\B<=1099511627776) (h:∀ x∈s.aA,x.seq<=B):∀ x∈(kH s c).1.aA,x.seq<=B+1:=by
 cases a:(ec s c).2
 case true=>rw [iI a];intro x b;have:=h x b;omega
 have hr:=i.eo.right;obtain ⟨j,-⟩:=ia hr;have g:=(xO hr a).2;have f:=(uv hr a).1;have k:c.seq<=B+1:=by
  rw [pS hr,aq f] at a;unfold KD at a;split at a
  ·have:=va a ah;omega
  ·rename_i y l;have e:=((iY j).1 l).1;have d:=h y e;have h2:=yR.1 (((jA (lt:=fW) jX).1 hr.aA).1 y e);split at a
   ·cases a
   ·split at a
    ·cases a
    ·have:=va a ah;omega
 rw [qZ a];intro x b;rcases (OQ hr g _ x).1 b with rfl | ⟨d,-⟩
 ·exact k
 ·have:=h x d;omega
theorem S5:∀ (l:List aN) {s:af} {B:Int},s.EJ->(0<=B/\B+l.length<=1099511627776)->(∀ x∈s.aA,x.seq<=B)->∀ x∈(OD l s).aA,x.seq<=B+l.length
 | [],_,_,_,_,h=>fun x a=>by
  have:=h x a;simp only [List.length_nil];omega
 | c :: r,s,B,he,hB,h=>by
  rw [List.length_cons] at hB |-;have:=S5 r (nL he (fI s c)) (B:=B+1) ⟨by omega,by omega⟩ (TC he (fI s c) ⟨by omega,by omega⟩ h);intro x a;have:=this x a;push_cast at this |-;omega
theorem acw (l:List aN):∀ x∈(DW l).aA,x.seq<=200:=by
 intro x a;have hl:(l.take 200).length<=200:=by rw [dY];omega
 have:=S5 (l.take 200) kI (B:=0) ⟨by omega,by omega⟩ (fun x a=>by cases a) x a;omega
theorem Oo {s:af} (i:s.EJ) (h:∀ x∈s.aA,x.seq<=1000) {c:aN} (j:c.seq=4) (e:fC (fI s c)=0):(ec s (fI s c)).2=false:=by
 have hr:=i.eo.right;obtain ⟨g,-⟩:=ia hr;have d:ZB c.seq=4:=by rw [j];decide
 have a:(fI s c).seq=xQ (fI s c).client s.aA 0+1:=by
  show aeT c.seq _=_;unfold aeT;rw [d,ak (by decide),ak (by decide),ak (by decide)];rfl
 rw [abQ g] at a;obtain ⟨x,k⟩:=aQ (fI s c);rw [<- k] at a e |-;rw [pS hr,aq e];unfold KD;cases b:kY s.aA x.client with
 | none =>
  rw [b] at a;have a:x.seq=0+1:=a;show (jh x 0).2=false;have w:IntKind.wrap .i64 (0+1)=1:=rfl;unfold jh;rw [w,aq ah,ak ah]
 | some y =>
  rw [b] at a;have a:x.seq=y.seq+1:=a;have f:=((iY g).1 b).1;have h1:=h y f;have h2:=yR.1 (((jA (lt:=fW) jX).1 hr.aA).1 y f);have w:IntKind.wrap .i64 (y.seq+1)=y.seq+1:=gA ah ah;show (if x.seq=y.seq then _ else if x.seq < y.seq then _ else jh x y.seq).2=false;rw [ak ah,ak ah];unfold jh;rw [w,aq a,ak ah]
theorem Vc (s:af) (c:aN):1<=(fI s c).client/\(fI s c).client<=8:=by
 show 1<=c.client%8+1/\c.client%8+1<=8;omega
theorem Sw {s:af} {c:aN} (h:AJ (rA (fI s c))=true) (hk:1<=c.kind/\c.kind<=22):fC (fI s c)=0:=by
 have hc:=Vc s c;have e:(fI s c).kind=c.kind:=rfl;rw [form_eq,e,aq (by simp [within];omega),h,aq (by simp [within];omega)]
def xP (w n:Int):List aF->Int->Int
 | [],k=>k
 | p :: r,k=>xP w n r (if cE w n p then p.aZ else k)
theorem abP {w n:Int} {l:List aF} (e:l.Pairwise fun x y=>lT x y=true):∀ k,xP w n l k=if (∃ p∈l,p.who=w/\p.inst=n) then (posOf w n l).aZ else k:=by
 induction l with
 | nil=>intro k;simp [xP]
 | cons p r ih =>
  intro k;obtain ⟨i,g⟩:=iL.1 e;simp only [xP];rw [ih g];by_cases q:p.who=w/\p.inst=n
  ·have f:cE w n p=true:=ji.2 q;have d:¬ ∃ p∈r,p.who=w/\p.inst=n:=by
    rintro ⟨x,c,hk⟩;have:=oY.1 (i x c);omega
   rw [ak d,f,aq rfl,aq ⟨p,by simp,q⟩,qe e (by simp) q]
  ·have f:cE w n p=false:=by
    rw [Bool.eq_false_iff];exact fun h=>q (ji.1 h)
   rw [f,ak lZ];by_cases c:∃ p∈r,p.who=w/\p.inst=n
   ·obtain ⟨x,a,b⟩:=c;rw [aq ⟨x,a,b⟩,aq ⟨x,List.mem_cons_of_mem _ a,b⟩,qe g a b,qe e (List.mem_cons_of_mem _ a) b]
   ·rw [ak c,ak];rintro ⟨x,a,b⟩;rcases List.mem_cons.1 a with rfl | a
    ·exact q b
    ·exact c ⟨x,a,b⟩
theorem Yp {b:aI} (h:b.okB=true) (w n:Int):xP w n b.qs 0=if rN w n then (posOf w n b.qs).aZ else 0:=by
 have d:=cy.1 h;rw [abP d.pw];by_cases a:∃ p∈b.qs,p.who=w/\p.inst=n
 ·rw [aq a];obtain ⟨p,c,rfl,rfl⟩:=a;have:=iG.1 (d.ok p c);rw [aq];simp only [rN,within,cU,bL];omega
 ·rw [ak a,iX fun p c e=>a ⟨p,c,e⟩];split<;>rfl
def vP (a k w b:Int):aN:=⟨a,4,21,w,0,k,0,b,0,0,0,0,0,0,0,0,0⟩
def wT (a w n:Int):aN:=⟨a,4,22,w,0,0,n,0,0,0,0,0,0,0,0,0,0⟩
theorem aaS {s:af} (e:s.EJ) (c:∀ x∈s.aA,x.seq<=1000) (b k w a:Int) :
  (kH s (fI s (vP b k w a))).2=(if aP.right ⟨k,w,a⟩=true then ⟨0,0,jo ⟨k,w,a⟩ s.bu.bs,[],[]⟩ else .err 3)/\{ (kH s (fI s (vP b k w a))).1 with aA:=[] }={ s with aA:=[] }:=by
 have f:fC (fI s (vP b k w a))=0:=Sw (by simp [AJ,rA,fI,vP]) (by show 1<=(21:Int)/\(21:Int)<=22;decide);have g:=Oo e c rfl f;have d:dw s (fI s (vP b k w a))=if aP.right ⟨k,w,a⟩=true then (s,0,0,jo ⟨k,w,a⟩ s.bu.bs,[],[]) else (s,3,0,0,[],[]):=by
  simp [dw,fI,vP];rfl
 rw [qZ g];unfold gY;rw [d];by_cases q:aP.right ⟨k,w,a⟩=true
 ·rw [aq q,aq q];exact ⟨rfl,rfl⟩
 ·rw [ak q,ak q];exact ⟨rfl,rfl⟩
theorem aaT {s:af} (d:s.EJ) (b:∀ x∈s.aA,x.seq<=1000) (a w n:Int) :
  (kH s (fI s (wT a w n))).2=(if rN w n=true then ⟨0,0,(posOf w n s.book.qs).aZ,[],[]⟩ else .err 3)/\{ (kH s (fI s (wT a w n))).1 with aA:=[] }={ s with aA:=[] }:=by
 have e:fC (fI s (wT a w n))=0:=Sw (by simp [AJ,rA,fI,wT]) (by show 1<=(22:Int)/\(22:Int)<=22;decide);have f:=Oo d b rfl e;have c:dw s (fI s (wT a w n))=if rN w n=true then (s,0,0,(posOf w n s.book.qs).aZ,[],[]) else (s,3,0,0,[],[]):=by
  simp [dw,fI,wT];rfl
 rw [qZ f];unfold gY;rw [c];by_cases q:rN w n=true
 ·rw [aq q,aq q];exact ⟨rfl,rfl⟩
 ·rw [ak q,ak q];exact ⟨rfl,rfl⟩
theorem XD {s:af} (a:s.book.okB=true) (w n:Int):aT.br (if rN w n=true then ⟨0,0,(posOf w n s.book.qs).aZ,[],[]⟩ else .err 3)=xP w n s.book.qs 0:=by
 rw [Yp a];split<;>rfl
theorem KE (l:List aN) (h k w o n:Int) (hc:∀ c∈l,gm c.br):Sq 6 [] [.sl 17 (l.map aN.cells),.I h,.I k,.I w,.I o,.I n] [] (.bool true):=by
 rcases bZ 1000 l.length with hlen | hlen
 ·have d:decide ((1000:Int) < (l.length:Int))=true:=iC;refine bf 150 6 [.tmp 12] mixed func6 ?_;exact fL d
 have d:decide ((1000:Int) < (l.length:Int))=false:=jL;have T:=yO l hlen hc;have Y:=lO;have E:=yN l;have P:=acw l;obtain ⟨s,hs⟩:=aQ (DW l);rw [<- hs] at T E P;clear hs;have hr:=E.eo.right;have z:=iN s (vP h k w o) hr;have j:=iw s (fI s (vP h k w o)) E.trim ⟨by show (-9223372036854775808:Int)<=0;decide,by show (0:Int)<=9223372036854775807;decide⟩;obtain ⟨r1,N⟩:=aaS E (fun x X=>by have:=P x X;omega) h k w o;have b:=nL E (fI s (vP h k w o));have v:=TC E (fI s (vP h k w o)) (B:=200) ⟨by omega,by omega⟩ P;obtain ⟨x1,K⟩:∃ x,x=fI s (vP h k w o):=⟨_,rfl⟩
 rw [<- K] at z j r1 N b v;obtain ⟨Z,hZ⟩:=aQ (kH s x1);rw [<- hZ] at j r1 N b v;have t:=iN Z.1 (wT h w n) b.eo.right;have m:=iw Z.1 (fI Z.1 (wT h w n)) b.trim ⟨by show (-9223372036854775808:Int)<=0;decide,by show (0:Int)<=9223372036854775807;decide⟩;obtain ⟨r2,Q⟩:=aaT b (fun x X=>by have:=v x X;omega) h w n;have g:=nL b (fI Z.1 (wT h w n));obtain ⟨x2,L⟩:∃ x,x=fI Z.1 (wT h w n):=⟨_,rfl⟩
 rw [<- L] at t m r2 Q g;obtain ⟨V,hV⟩:=aQ (kH Z.1 x2);rw [<- hV] at m r2 Q g;have H:Z.1.book=s.book:=by have:=congrArg af.book N;exact this
 have J:V.2.br=xP w n s.book.qs 0:=by rw [r2,H,XD ((eW.2 hr |> fun _=>hr.book))]
 have G:=gh s E.trim.small;have C:=gh V.1 g.trim.small;have U:=sR V.1 s g.trim.small;rw [Q,N,ru.2 rfl] at U;have A:=Ll ⟨k,w,o⟩;have u:=Tn s.bu ⟨k,w,o⟩ (by have:=hr.lens.bs;omega);obtain ⟨R,hR⟩:=aQ (aP.right ⟨k,w,o⟩);obtain ⟨O,hO⟩:=aQ (jo ⟨k,w,o⟩ s.bu.bs);rw [<- hR] at A r1;rw [<- hO] at u r1;have hqs:=hr.lens.qs;clear K hZ L hV H r2 N Q P v hR hO;cases R;all_goals
  simp only [nJ,if_true,if_false] at r1;rw [r1] at j;simp only [af.cells,aN.cells,aT.cells,aT.err,vP,wT,bE.cells,aP.cells,List.map_nil] at T z j t m G C A u |-;refine bf 150 6 [.tmp 12] mixed func6 ?_;refine sm d ?_;refine so aJ T ?_;refine sc aJ G ?_;refine sc aJ z ?_;refine sg [400] aJ j ?_;try (with_reducible and_intros)<;>first|exact .dq|omega|skip
  refine aD.bp A ?_;simp only [go_sem,seval,bne];try (with_reducible and_intros)<;>first|exact .dq|omega|skip
 ·refine aD.bp u ?_;cases hz:((0:Int)==O);all_goals
   simp only [go_sem,seval,bne,hz];try (with_reducible and_intros)<;>first|exact .dq|omega|skip
   refine sc aJ t ?_;try (with_reducible and_intros)<;>first|exact .dq|omega|skip
   refine sg [400] aJ m ?_;refine aM.uB (S:=Int) s.book.qs.length [3,5,13,14,16] [240,272,400] (fun i q=>[(12,.bool false),(17,.I q),(18,.I i)]) (fun _ _=>[]) (fun i q=>xP w n (s.book.qs.drop i) q=V.2.br) 0 J.symm ?_ ?_ ?_
   ·exact gU
   ·intro i q p e f a;have r:=aV (c:=aF.cells) s.book.qs p;have W:(i:Int) < (s.book.qs.length:Int):=ah
    obtain ⟨y,M⟩:=aQ (s.book.qs[i]);rw [fZ p,<- M] at a;rw [<- M] at r;simp only [xP] at a;simp only [aF.cells] at r;cases k1:y.who==w
    ·rw [show cE w n y=false by rw [cE,k1,gV],ak lZ] at a;refine sm (a4 e r k1 f) ?_;refine dP ?_;refine av.kW q p a ?_;exact gU
    cases k2:y.inst==n
    ·rw [show cE w n y=false by rw [cE,k1,k2,fc],ak lZ] at a;refine sm (a5 e r k1 k2 f) ?_;refine dP ?_;refine av.kW q p a ?_;exact gU
    rw [show cE w n y=true by rw [cE,k1,k2,fc],aq rfl] at a;refine sm (a5 e r k1 k2 f) ?_;refine dP ?_;refine av.kW y.aZ p a ?_;exact gU
   ·intro q D a;rw [nx] at a;have a:q=V.2.br:=a;have F:(V.2.br==q)=true:=by rw [a];simp
    refine sm D ?_;try (with_reducible and_intros)<;>first|exact .dq|omega|skip
    refine sc F C ?_;try (with_reducible and_intros)<;>first|exact .dq|omega|skip
    refine aD.bp U ?_;try simp only [go_sem,seval]
    try (with_reducible and_intros)<;>first|exact .dq|omega|skip
    exact jW aJ Y
 ·refine aD.bp u ?_;simp only [go_sem,seval,bne,beq_self_eq_true];try (with_reducible and_intros)<;>first|exact .dq|omega|skip
  refine sc aJ t ?_;try (with_reducible and_intros)<;>first|exact .dq|omega|skip
  refine sg [400] aJ m ?_;refine aM.uB (S:=Int) s.book.qs.length [3,5,13,14,16] [240,272,400] (fun i q=>[(12,.bool false),(17,.I q),(18,.I i)]) (fun _ _=>[]) (fun i q=>xP w n (s.book.qs.drop i) q=V.2.br) 0 J.symm ?_ ?_ ?_
  ·exact gU
  ·intro i q p e f a;have r:=aV (c:=aF.cells) s.book.qs p;have W:(i:Int) < (s.book.qs.length:Int):=ah
   obtain ⟨y,M⟩:=aQ (s.book.qs[i]);rw [fZ p,<- M] at a;rw [<- M] at r;simp only [xP] at a;simp only [aF.cells] at r;cases k1:y.who==w
   ·rw [show cE w n y=false by rw [cE,k1,gV],ak lZ] at a;refine sm (a4 e r k1 f) ?_;refine dP ?_;refine av.kW q p a ?_;exact gU
   cases k2:y.inst==n
   ·rw [show cE w n y=false by rw [cE,k1,k2,fc],ak lZ] at a;refine sm (a5 e r k1 k2 f) ?_;refine dP ?_;refine av.kW q p a ?_;exact gU
   rw [show cE w n y=true by rw [cE,k1,k2,fc],aq rfl] at a;refine sm (a5 e r k1 k2 f) ?_;refine dP ?_;refine av.kW y.aZ p a ?_;exact gU
  ·intro q D a;rw [nx] at a;have a:q=V.2.br:=a;have F:(V.2.br==q)=true:=by rw [a];simp
   refine sm D ?_;try (with_reducible and_intros)<;>first|exact .dq|omega|skip
   refine sc F C ?_;try (with_reducible and_intros)<;>first|exact .dq|omega|skip
   refine aD.bp U ?_;try simp only [go_sem,seval]
   try (with_reducible and_intros)<;>first|exact .dq|omega|skip
   exact jW aJ Y
end Go.Proofs.YtccipdjjkcejgaaGreat
