/- What EngineTrades needs. No theorem of a claim. -/
import Derived.Test.YtccipdjjkcejgaaGreatNZ
set_option linter.unusedSimpArgs false
set_option linter.unusedVariables false
set_option maxHeartbeats 4000000
set_option maxRecDepth 16000
namespace Go.Proofs.YtccipdjjkcejgaaGreat
open Go.Abs Tryz
open List hiding lt
theorem xQe (b:aI) (w n:Int) (m:b.small):Sq 41 [] [.agg b.cells,.agg [.I w,.I n]] [] (.agg (posOf w n b.qs).cells):=by
 obtain ⟨h1,h2⟩:=m;simp only [aI.cells];refine bf 42 2 [.cell 4 81] mixed func41 ?_;refine s0 ?_;refine aM.w1 b.qs.length 5 [2,3,4] [48,64,80] (fun i _=>posOf w n (b.qs.drop i)=posOf w n b.qs) rfl ?_ ?_
 ·intro i _ h d g a;have f:=aV (c:=aF.cells) b.qs h;have hli:(i:Int) < (b.qs.length:Int):=ah
  obtain ⟨x,l⟩:=aQ (b.qs[i]);rw [fZ h,<- l] at a;rw [<- l] at f;simp only [posOf,cE] at a;simp only [aF.cells] at f;cases e:x.who==w
  ·simp only [e,gV,nJ,if_false] at a;refine sm (a4 d f e g) ?_;refine dP ?_;refine av.u h a ?_;exact gU
  cases j:x.inst==n
  ·simp only [e,j,Bool.and_false,nJ,if_false] at a;refine sm (a5 d f e j g) ?_;refine dP ?_;refine av.u h a ?_;exact gU
  simp only [e,j,Bool.and_self,if_true] at a;rw [<- a];refine sm (a4 d f e j) ?_;exact okx
 ·intro _ k a;rw [nx] at a;rw [<- a];simp only [go_sem,seval,k,posOf]
theorem xQj {n:Int}:∀ {xs:List aL} {i:Nat} (h:i < xs.length),(∀ j (b:j < xs.length),j < i->onB n xs[j]=false)->onB n xs[i]=true->lR n xs=i
 | [],i,h,_,_=>by simp at h
 | x :: r,0,h,_,a=>by
  have a:onB n x=true:=a;simp [lR,a]
 | x :: r,i+1,h,hn,a=>by
  have c:onB n x=false:=hn 0 (by simp) ah;have d:=xQj (xs:=r) (i:=i) (by simpa using h) (fun j b hji=>hn (j+1) (by simpa using b) ah) a;simp only [lR,c,d];rw [ak (by simp),ak ah];omega
theorem TC {s:af} (i:s.EJ) (c:aN) {B:Int} (hB:0<=B/\B<=1099511627776) (h:∀ x∈s.aA,x.seq<=B):∀ x∈(kH s c).1.aA,x.seq<=B+1:=by
 cases a:(ec s c).2
 case true=>rw [iI a];intro x b;have:=h x b;omega
 have hr:=i.eo.right;obtain ⟨j,-⟩:=ia hr;have g:=(xO hr a).2;have f:=(uv hr a).1;have k:c.seq<=B+1:=by
  rw [pS hr,aq f] at a;unfold KD at a;split at a
  ·have:=va a ah;omega
  ·rename_i y l;have e:=((iY j).1 l).1;have d:=h y e;have h2:=yR.1 (((jA (lt:=fW) jX).1 hr.aA).1 y e);split at a
   ·cases a
   ·split at a
    ·cases a
    ·have:=va a ah;omega
 rw [qZ a];intro x b;rcases (OQ hr g _ x).1 b with rfl | ⟨d,-⟩
 ·exact k
 ·have:=h x d;omega
theorem S5:∀ (l:List aN) {s:af} {B:Int},s.EJ->(0<=B/\B+l.length<=1099511627776)->(∀ x∈s.aA,x.seq<=B)->∀ x∈(OD l s).aA,x.seq<=B+l.length
 | [],_,_,_,_,h=>fun x a=>by
  have:=h x a;simp only [length_nil];omega
 | c :: r,s,B,he,hB,h=>by
  rw [length_cons] at hB |-;have:=S5 r (nL he (fI s c)) (B:=B+1) ⟨by omega,by omega⟩ (TC he (fI s c) ⟨by omega,by omega⟩ h);intro x a;have:=this x a;push_cast at this |-;omega
theorem acw (l:List aN):∀ x∈(DW l).aA,x.seq<=200:=by
 intro x a;have hl:(l.take 200).length<=200:=by rw [dY];omega
 have:=S5 (l.take 200) kI (B:=0) ⟨by omega,by omega⟩ (fun x a=>by cases a) x a;omega
theorem Oo {s:af} (i:s.EJ) (h:∀ x∈s.aA,x.seq<=1000) {c:aN} (j:c.seq=4) (e:fC (fI s c)=0):(ec s (fI s c)).2=false:=by
 have hr:=i.eo.right;obtain ⟨g,-⟩:=ia hr;have d:ZB c.seq=4:=by rw [j];decide
 have a:(fI s c).seq=xQ (fI s c).client s.aA 0+1:=by
  show aeT c.seq _=_;unfold aeT;rw [d,ak (by decide),ak (by decide),ak (by decide)];rfl
 rw [abQ g] at a;obtain ⟨x,k⟩:=aQ (fI s c);rw [<- k] at a e |-;rw [pS hr,aq e];unfold KD;cases b:kY s.aA x.client with
 | none =>
  rw [b] at a;have a:x.seq=0+1:=a;show (jh x 0).2=false;have w:IntKind.wrap .i64 (0+1)=1:=rfl;unfold jh;rw [w,aq ah,ak ah]
 | some y =>
  rw [b] at a;have a:x.seq=y.seq+1:=a;have f:=((iY g).1 b).1;have h1:=h y f;have h2:=yR.1 (((jA (lt:=fW) jX).1 hr.aA).1 y f);have w:IntKind.wrap .i64 (y.seq+1)=y.seq+1:=gA ah ah;show (if x.seq=y.seq then _ else if x.seq < y.seq then _ else jh x y.seq).2=false;rw [ak ah,ak ah];unfold jh;rw [w,aq a,ak ah]
theorem Vc (s:af) (c:aN):1<=(fI s c).client/\(fI s c).client<=8:=by
 show 1<=c.client%8+1/\c.client%8+1<=8;omega
theorem Sw {s:af} {c:aN} (h:AJ (rA (fI s c))=true) (hk:1<=c.kind/\c.kind<=22):fC (fI s c)=0:=by
 have hc:=Vc s c;have e:(fI s c).kind=c.kind:=rfl;rw [form_eq,e,aq (by simp [within];omega),h,aq (by simp [within];omega)]
theorem xQf {A B:Type} {f g:A->List B}:∀ {l:List A},(∀ x∈l,f x=g x)->l.flatMap f=l.flatMap g
 | [],_=>rfl
 | x :: r,h=>by rw [flatMap_cons,flatMap_cons,h x (by simp),xQf fun y a=>h y (by simp [a])]
theorem xQh {b:aI} {g:List aF} {w n:Int} (hw:1<=w/\w<=16) (hn:1<=n/\n<=8):posOf w n (Ce b g 16)=⟨w,n,IN b g w n,Uo b g w n⟩:=by
 by_cases h:IN b g w n=0/\Uo b g w n=0
 ·rw [iX,h.1,h.2];intro p d c;obtain ⟨k,m,_,_,d⟩:=sH d;obtain ⟨rfl,a⟩:=pF d;dsimp only at c;rw [c.1,c.2] at a;exact a h
 ·have e:(⟨w,n,IN b g w n,Uo b g w n⟩:aF)∈Ce b g 16:=by
   refine mem_flatMap.2 ⟨(w-1).toNat,mem_range.2 ah,mem_flatMap.2 ⟨(n-1).toNat,mem_range.2 ah,?_⟩⟩;rw [show (((w-1).toNat:Nat):Int)+1=w by omega,show (((n-1).toNat:Nat):Int)+1=n by omega];unfold Nr;rw [ak (by simp only [cU,eH];exact h)];simp
  exact qe (Jq b g) e ⟨rfl,rfl⟩
def trD (t:aL) (k:Bool) (w n:Int):Int:=(if t.jK=w/\t.inst=n then V0 t k else 0)+(if t.gK=w/\t.inst=n then -V0 t k else 0)
theorem xQg {t:aL} (d:sizedB t=true) (b:aI) (k:Bool) (w n:Int):IN b (fT t k) w n=(posOf w n b.qs).aZ+trD t k w n/\Uo b (fT t k) w n=(posOf w n b.qs).cost+trD t k w n*t.aH:=by
 unfold IN Uo fT trD;rw [aq d];simp only [aG,yM,S3,ji];by_cases c:t.jK=w/\t.inst=n
 ·by_cases a:t.gK=w/\t.inst=n
  ·simp only [aq c,aq a];exact ⟨by omega,by simp only [Int.add_mul,Int.neg_mul];omega⟩
  ·simp only [aq c,ak a];exact ⟨by omega,by simp only [Int.add_mul,Int.zero_mul];omega⟩
 ·by_cases a:t.gK=w/\t.inst=n
  ·simp only [ak c,aq a];exact ⟨by omega,by simp only [Int.add_mul,Int.neg_mul,Int.zero_mul];omega⟩
  ·simp only [ak c,ak a];exact ⟨by omega,by simp only [Int.add_mul,Int.zero_mul];omega⟩
theorem xQm (t:aL) (k:Bool):J5 (fT t k)=true:=by
 refine dn.2 fun i _=>?_;unfold fT;split
 ·simp only [aG,yM,S3];by_cases h:(t.inst==(i:Int)+1)=true<;>simp only [h,if_true]<;>simp<;>omega
 ·rfl
theorem xQn {t:aL} (h:t.okB=true) (k:Bool):(fT t k).all qc=true:=by
 refine dn.2 fun p b=>?_;have h1:=Yy t k p b;have a:=Om b;simp only [aL.okB,cU] at h;simp only [qc,cU];refine ⟨?_,bI.2 ah,bI.2 ah⟩;rcases a.1 with e | e<;>rw [e,a.2]
 ·exact h.2.2.2.1
 ·exact h.2.2.2.2
theorem xQi {t:aL} (h:t.okB=true):sizedB t=true:=by
 simp only [aL.okB,cU] at h;simp only [sizedB,h.1,h.2.1,Bool.and_self]
theorem xQl {b:aI} {t:aL} (h:gO b t=0):lR (b.next+1) (jf b t).ts=b.ts.length/\bN (b.next+1) (jf b t).ts={ t with no:=b.next+1,off:=false }/\fY (jf b t) (b.next+1)=0/\(ct (jf b t) (b.next+1)).qs=b.qs:=by
 obtain ⟨e,l,h3,h4,h5⟩:=X4 h;have v:=cy.1 e;have m:=NT h;have f:jf b t=⟨b.next+1,b.ts++[{ t with no:=b.next+1,off:=false }],Ce b (fT t false) 16⟩:=by unfold jf;rw [aq h]
 have q:=xQi l;have g:lR (b.next+1) (jf b t).ts=b.ts.length:=by
  rw [f];dsimp only;refine xQj (by simp) (fun j a c=>?_) (by simp [onB]);rw [getElem_append_left c];have:=v.tok _ (ck c);simp only [mJ,cU,iK,gM] at this;unfold onB;rw [beq_eq_false_iff_ne.2 ah];rfl
 have p:bN (b.next+1) (jf b t).ts={ t with no:=b.next+1,off:=false }:=by
  unfold bN;rw [g,f];simp
 have o:fT (bN (b.next+1) (jf b t).ts) true=fT t true:=by rw [p];rfl
 have key:∀ i j:Nat,i < 16->j < 8->IN (jf b t) (fT t true) ((i:Int)+1) ((j:Int)+1)=(posOf ((i:Int)+1) ((j:Int)+1) b.qs).aZ/\Uo (jf b t) (fT t true) ((i:Int)+1) ((j:Int)+1)=(posOf ((i:Int)+1) ((j:Int)+1) b.qs).cost:=fun i j d a=>by
  have k:=xQg q (jf b t) true ((i:Int)+1) ((j:Int)+1);have e2:=xQg q b false ((i:Int)+1) ((j:Int)+1);have w:posOf ((i:Int)+1) ((j:Int)+1) (jf b t).qs=⟨(i:Int)+1,(j:Int)+1,IN b (fT t false) ((i:Int)+1) ((j:Int)+1),Uo b (fT t false) ((i:Int)+1) ((j:Int)+1)⟩:=by rw [f];exact xQh ah ah
  have s:trD t true ((i:Int)+1) ((j:Int)+1) = -trD t false ((i:Int)+1) ((j:Int)+1):=by
   unfold trD V0;simp only [if_true,nJ,if_false];split<;>split<;>omega
  rw [w,e2.1,e2.2,s,Int.neg_mul] at k;obtain ⟨r,a2⟩:=k;dsimp only at r a2;exact ⟨by omega,by omega⟩
 have u:nw (jf b t) (fT t true)=0:=by
  unfold nw;rw [aq m,aq (xQn l true),aq (xQm t true),aq];refine dn.2 fun i d=>dn.2 fun j a=>?_;obtain ⟨k1,k2⟩:=key i j (mem_range.1 d) (mem_range.1 a);have hr:=Y8 e ((i:Int)+1) ((j:Int)+1);unfold AQ;rw [k1,k2,hr.2,bI.2 ah];simp only [within,fc,cU,bL];exact hr.1
 have n:fY (jf b t) (b.next+1)=0:=by
  unfold fY;rw [aq m,ak (by rw [g];omega),o];exact u
 refine ⟨g,p,n,?_⟩;unfold ct;rw [aq n,o];refine Eq.trans ?_ (aeg e);refine xQf fun i d=>xQf fun j a=>?_;obtain ⟨k1,k2⟩:=key i j (mem_range.1 d) (mem_range.1 a);unfold Nr;rw [k1,k2,IP,IM]
theorem xQk {s:af} {c:aN} (a:(ec s c).2=false):((kH s c).2.code=0->(dw s c).2.1=0)/\((dw s c).2.1=0->(kH s c).2.code=0/\(kH s c).2.no=(dw s c).2.2.1/\(kH s c).1.book=(dw s c).1.book/\(kH s c).1.bu=(dw s c).1.bu/\(kH s c).1.aj=(dw s c).1.aj/\(kH s c).1.phase=(dw s c).1.phase):=by
 rw [qZ a,show gY s c=xw s (dw s c) from rfl];unfold xw;by_cases q:(dw s c).2.1=0
 ·rw [aq q];exact ⟨fun _=>q,fun _=>⟨rfl,rfl,rfl,rfl,rfl,rfl⟩⟩
 ·rw [ak q];exact ⟨fun h=>h,fun h=>absurd h q⟩
def xQd (a b sl n q p:Int):aN:=⟨a,4,10,b,sl,0,n,0,q,p,0,0,0,0,0,0,0⟩
def xQc (a k:Int):aN:=⟨a,4,11,0,0,k,0,0,0,0,0,0,0,0,0,0,0⟩
theorem xQo {s:af} (D:s.EJ) (O:∀ x∈s.aA,x.seq<=200) (f b sl n q p:Int) {Z:af × aT} (H:Z=kH s (fI s (xQd f b sl n q p))) (h:Z.2.code=0) :
  (Z.2.no=s.book.next+1/\Z.1.bu=s.bu/\(1<=q/\q<=1048576)/\(1<=p/\p<=1073741824)/\b≠sl)/\(∀ w m,(1<=w/\w<=16)->(1<=m/\m<=8)->posOf w m Z.1.book.qs=⟨w,m,(posOf w m s.book.qs).aZ+trD ⟨0,b,sl,n,q,p,false⟩ false w m,(posOf w m s.book.qs).cost+trD ⟨0,b,sl,n,q,p,false⟩ false w m*p⟩)/\(kH Z.1 (fI Z.1 (xQc f (s.book.next+1)))).2.code=0/\(kH Z.1 (fI Z.1 (xQc f (s.book.next+1)))).1.book.qs=s.book.qs:=by
 have v:=Oo D (fun x j=>by have:=O x j;omega) (c:=xQd f b sl n q p) rfl (Sw (by simp [AJ,rA,fI,xQd]) (by show (1:Int)<=10/\(10:Int)<=22;decide));obtain ⟨c,I⟩:=aQ (fI s (xQd f b sl n q p));have e0:c.kind=10:=by rw [I];rfl
 obtain ⟨T,G⟩:∃ T:aL,T=⟨0,b,sl,n,q,p,false⟩:=⟨_,rfl⟩
 have K:iA c=T:=by rw [I,G];rfl
 rw [<- I] at v H;have t:=nL D c;have y:=TC D c (B:=200) ah O;rw [<- H] at t y;obtain ⟨L,M⟩:=xQk v;rw [<- H] at L M;have a:=L h;obtain ⟨-,z,i,N,A,C⟩:=M a;have l:dw s c=if s.phase=0 then ((nD s c).1,(nD s c).2.2,(nD s c).2.1,0,[],[]) else (s,15,0,0,[],[]):=by simp [dw,e0]
 by_cases J:s.phase=0
 case neg =>
  rw [l,ak J] at a;replace a:(15:Int)=0:=a;omega
 rw [aq J] at l;have P:nD s c=if vL s.aj T=0 then ({ s with book:=jf s.book T },oL s.book T,gO s.book T) else (s,0,vL s.aj T):=by unfold nD;rw [aq e0,K]
 by_cases E:vL s.aj T=0
 case neg =>
  rw [l,P,ak E] at a;exact absurd a E
 rw [P,aq E] at l;rw [l] at a z i N A C;replace a:gO s.book T=0:=a;replace z:Z.2.no=oL s.book T:=z;replace i:Z.1.book=jf s.book T:=i;replace A:Z.1.aj=s.aj:=A;replace C:Z.1.phase=s.phase:=C;obtain ⟨h1,k,h3,h4,h5⟩:=X4 a;have hz:=xQi k;obtain ⟨Q,R,S,U⟩:=xQl a;have j:=ZV E;have r:T.aZ=q/\T.aH=p/\T.jK=b/\T.gK=sl:=by rw [G];exact ⟨rfl,rfl,rfl,rfl⟩
 refine ⟨⟨?_,N,?_⟩,fun w m hw Y=>?_,?_⟩
 ·rw [z];unfold oL;rw [aq a]
 ·simp only [aL.okB,within,cU,bL,bne_iff_ne,ne_eq,r] at k;exact ⟨k.1,k.2.1,k.2.2.1⟩
 ·have:=xQg hz s.book false w m;rw [i,show (jf s.book T).qs=Ce s.book (fT T false) 16 by unfold jf;rw [aq a],xQh hw Y,this.1,this.2,r.2.1,G]
 have u:=Oo t (fun x j=>by have:=y x j;omega) (c:=xQc f (s.book.next+1)) rfl (Sw (by simp [AJ,rA,fI,xQc]) (by show (1:Int)<=11/\(11:Int)<=22;decide));obtain ⟨x,g⟩:=aQ (fI Z.1 (xQc f (s.book.next+1)));have F:x.kind=11:=by rw [g];rfl
 have k1:x.no=s.book.next+1:=by rw [g];rfl
 rw [<- g] at u |-
 have d:∀ w,bM s.aj w=1->HE s.aj w=0:=fun w h=>by
  unfold HE;rw [aq ((vJ D.eo.right.aj).1 ah),aq (show (fU s.aj w).state=1 from h)]
 have o:(dw Z.1 x).2.1=0/\(dw Z.1 x).1.book=ct Z.1.book (s.book.next+1):=by
  have e:dw Z.1 x=if Z.1.phase=0 then ((nD Z.1 x).1,(nD Z.1 x).2.2,(nD Z.1 x).2.1,0,[],[]) else (Z.1,15,0,0,[],[]):=by simp [dw,F]
  rw [e,aq (by rw [C];exact J)];unfold nD;rw [ak (by rw [F];decide),ak (by rw [F];decide),k1,i,A,Q,R,ak ah,aq ⟨d _ j.1,d _ j.2.1⟩,aq F,S];exact ⟨rfl,rfl⟩
 obtain ⟨-,V⟩:=xQk u;obtain ⟨W,-,X,-⟩:=V o.1;refine ⟨W,?_⟩;rw [X,o.2,i];exact U
theorem xQq {b sl n q p w m:Int} (h:b≠sl):trD ⟨0,b,sl,n,q,p,false⟩ false w m=if m=n then (if w=sl then -q else if w=b then q else 0) else 0:=by
 simp only [trD,V0,nJ,if_false];(repeat' split)<;>omega
theorem xQp (l:List aN) (h b sl n q p:Int) (hc:∀ c∈l,gm c.br):Sq 9 [] [.sl 17 (l.map aN.cells),.I h,.I b,.I sl,.I n,.I q,.I p] [] (.bool true):=by
 rcases bZ 1000 l.length with hlen | hlen
 ·have d:decide ((1000:Int) < (l.length:Int))=true:=iC;refine bf 175 7 [.tmp 14] mixed func9 ?_;simp only [go_sem,seval,d]
 have d:decide ((1000:Int) < (l.length:Int))=false:=jL;have cP:=yO l hlen hc;have cW:=lO;have u:=yN l;have hB:=acw l;obtain ⟨s,hs⟩:=aQ (DW l);rw [<- hs] at cP u hB;clear hs;have hr:=u.eo.right;have cT:=gh s u.trim.small;have X:=iN s (xQd h b sl n q p) hr;have H:=iw s (fI s (xQd h b sl n q p)) u.trim ⟨by show (-9223372036854775808:Int)<=0;decide,by show (0:Int) < 9223372036854775808;decide⟩;have f:=nL u (fI s (xQd h b sl n q p));have z:=aex u (fI s (xQd h b sl n q p));have o:=fun {Z}=>xQo u hB h b sl n q p (Z:=Z);obtain ⟨x,hx⟩:=aQ (fI s (xQd h b sl n q p));rw [<- hx] at X H f z o;obtain ⟨Z,hZ⟩:=aQ (kH s x);have o:=o hZ;rw [<- hZ] at H f z;clear hx hZ hB;have F:=f.eo.right;have Q:=MG Z.1.book s.book f.trim.small.book;have R:=Ip Z.1.bu s.bu (by have:=F.lens.bs;omega);have D:=fun w m=>xQe s.book w m u.trim.small.book;have E:=fun w m=>xQe Z.1.book w m f.trim.small.book;have hnx:0<=s.book.next/\s.book.next<=1099511627776:=by have:=cy.1 hr.book;exact ⟨this.n0,this.n1⟩
 have w0:IntKind.wrap .i64 (s.book.next+1)=s.book.next+1:=gA ah ah
 simp only [af.cells,aN.cells,aT.cells,xQd,aI.cells] at cP X H cT |-;refine bf 175 7 [.tmp 14] mixed func9 ?_;simp only [go_sem,seval,d];refine aD.RY [(1,.I h),(2,.I b),(3,.I sl),(4,.I n),(5,.I q),(6,.I p),(14,.bool false),(28,.addr 256 0)] [(256,.box s.cells)] [] [] false rfl ?_;simp only [go_sem,seval];refine cY.gB cP ?_;simp only [go_sem,seval,af.cells];try refine dP ?_
 refine sc aJ cT ?_;refine sc aJ X ?_;by_cases U:Z.2.code=0
 case neg =>
  have J:(Z.2.code==0)=false:=by simpa using U
  obtain ⟨g1,g2⟩:=z U;have g3:Z.2.no=0:=by rw [g1];rfl
  have g4:Z.1.book=s.book:=by have:=congrArg af.book g2;exact this
  rw [dI (show Z.1.book.next=s.book.next by rw [g4]),dI (show Z.1.book.ts=s.book.ts by rw [g4]),dI (show Z.1.book.qs=s.book.qs by rw [g4]),Bool.and_self,Bool.and_self] at Q;have d1:(Z.2.no==0)=true:=by simpa using g3
  simp only [aI.cells] at Q;refine sg [256] J H ?_;try simp only [go_sem,seval,bne,J,d1]
  try refine dP ?_
  refine sc aJ Q ?_;try refine dP ?_
  exact jW aJ cW
 have J:(Z.2.code==0)=true:=by simpa using U
 obtain ⟨⟨t1,t2,t3,t4,t5⟩,t6,N,O⟩:=o U;have hm1:=jV (a:=q) (b:=p) (A:=1048576) (B:=1073741824) ah ah;have n1:IntKind.wrap .i64 (0-q) = -q:=by rw [Int.zero_sub];exact gA ah ah
 have v1:IntKind.wrap .i64 (q*p)=q*p:=gA ah ah;have v2:IntKind.wrap .i64 (-q*p) = -q*p:=by rw [Int.neg_mul];exact gA ah ah
 have e1:∀ a:Int,IntKind.wrap .i64 (a+q-a)=q:=fun a=>by rw [show a+q-a=q by omega];exact gA ah ah
 have e2:∀ a:Int,IntKind.wrap .i64 (a + -q-a) = -q:=fun a=>by rw [show a + -q-a = -q by omega];exact gA ah ah
 have e3:∀ a:Int,IntKind.wrap .i64 (a-a)=0:=fun a=>by rw [Int.sub_self];rfl
 have e4:∀ a:Int,IntKind.wrap .i64 (a+q*p-a)=q*p:=fun a=>by rw [show a+q*p-a=q*p by omega];exact v1
 have e5:∀ a:Int,IntKind.wrap .i64 (a + -q*p-a) = -q*p:=fun a=>by rw [show a + -q*p-a = -q*p by omega];exact v2
 have v0:IntKind.wrap .i64 (0*p)=0:=by rw [Int.zero_mul];rfl
 have r:=iN Z.1 (xQc h Z.2.no) F;have k:=iw Z.1 (fI Z.1 (xQc h Z.2.no)) f.trim ⟨by show (-9223372036854775808:Int)<=0;decide,by show (0:Int) < 9223372036854775808;decide⟩;have g:=nL f (fI Z.1 (xQc h Z.2.no));rw [<- t1] at N O;obtain ⟨y,hy⟩:=aQ (fI Z.1 (xQc h Z.2.no));rw [<- hy] at r k g N O;obtain ⟨Y,hY⟩:=aQ (kH Z.1 y);rw [<- hY] at k g N O;have G:=MK Y.1.book.qs s.book.qs (by have:=g.trim.small.book.2;omega);rw [dI O] at G;have d2:(Y.2.code==0)=true:=by simpa using N
 have d3:(Z.2.no==s.book.next+1)=true:=by simpa using t1
 rw [dI (show Z.1.bu.last=s.bu.last by rw [t2]),dI (show Z.1.bu.bs=s.bu.bs by rw [t2]),Bool.and_self] at R;clear hy hY z o f g N O F u hr Q;simp only [af.cells,aN.cells,aT.cells,xQc,aI.cells,bE.cells] at D E R r k;refine sg [256] J H ?_;try simp only [go_sem,seval,bne,J]
 refine aM.wv 16 [1,2,3,4,5,6,15,16,17] [256,272,288] (fun i=>[(18,.I ((i:Int)+1))]) (fun _=>[]) ?_ ?_ ?_
 ·simp only [go_sem,seval]<;>simp
 ·intro i _ hi _ _ _;obtain ⟨w,hw⟩:=aQ ((i:Int)+1);have hd:decide (w<=16)=true:=iC;have aa:IntKind.wrap .i64 (w+1)=((i+1:Nat):Int)+1:=gN;rw [<- hw];simp only [go_sem,seval,hd];refine aM.wv 8 [1,2,3,4,5,6,15,16,17,18] [256,272,288] (fun j=>[(19,.I ((j:Int)+1))]) (fun _=>[]) ?_ ?_ ?_
  ·simp only [go_sem,seval]<;>simp
  ·intro j _ T _ _ _;obtain ⟨m,hm⟩:=aQ ((j:Int)+1);have t:decide (m<=8)=true:=iC;have C:IntKind.wrap .i64 (m+1)=((j+1:Nat):Int)+1:=gN;have c1:=D w m;have c2:=E w m;rw [t6 w m ah ah,xQq t5] at c2;obtain ⟨P,hP⟩:=aQ (posOf w m s.book.qs);rw [<- hP] at c1 c2;rw [<- hm];simp only [aF.cells] at c1 c2;clear hP D E R r k G;by_cases V:m=n
   case neg =>
    have K:(m==n)=false:=by simpa using V
    rw [ak V,Int.zero_mul,Int.add_zero,Int.add_zero] at c2;refine sc t c1 ?_;refine sc aJ c2 ?_;simp only [go_sem,seval,K,e3,bne,v0,C];try refine dP ?_
    refine av.v T ?_;simp only [go_sem,seval]
   have K:(m==n)=true:=by simpa using V
   rw [aq V] at c2;by_cases M:w=sl
   ·have S:(w==sl)=true:=by simpa using M
    have L:(w==b)=false:=by simpa using fun e=>t5 (e.symm.trans M)
    rw [aq M] at c2;refine sc t c1 ?_;refine sc aJ c2 ?_;simp only [go_sem,seval,K,S,L,e2,e5,bne,n1,v2,C];try refine dP ?_
    refine av.v T ?_;simp only [go_sem,seval]
   have S:(w==sl)=false:=by simpa using M
   rw [ak M] at c2;by_cases W:w=b
   ·have L:(w==b)=true:=by simpa using W
    rw [aq W] at c2;refine sc t c1 ?_;refine sc aJ c2 ?_;simp only [go_sem,seval,K,S,L,e1,e4,bne,v1,C];try refine dP ?_
    refine av.v T ?_;simp only [go_sem,seval]
   ·have L:(w==b)=false:=by simpa using W
    rw [ak W,Int.zero_mul,Int.add_zero,Int.add_zero] at c2;refine sc t c1 ?_;refine sc aJ c2 ?_;simp only [go_sem,seval,K,S,L,e3,bne,v0,C];try refine dP ?_
    refine av.v T ?_;simp only [go_sem,seval]
  ·intro _ _ _;simp only [go_sem,seval,aa];refine av.v hi ?_;simp only [go_sem,seval]
 ·intro _ _ _;simp only [go_sem,seval,w0,bne,d3];try refine dP ?_
  refine aD.bp R ?_;refine sc aJ r ?_;refine sp [256] d2 k ?_;try simp only [go_sem,seval,d2]
  try refine dP ?_
  refine sc aJ G ?_;try refine dP ?_
  exact jW aJ cW
end Go.Proofs.YtccipdjjkcejgaaGreat
