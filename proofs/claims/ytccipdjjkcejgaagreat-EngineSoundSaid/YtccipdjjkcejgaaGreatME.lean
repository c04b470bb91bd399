/- Right states: lists in order, what is found in them, and what follows. No theorem of a claim. -/
import Derived.Test.YtccipdjjkcejgaaGreatMD
import Derived.Test.YtccipdjjkcejgaaGreatMB
import Derived.Test.YtccipdjjkcejgaaGreatAC
import Derived.Test.YtccipdjjkcejgaaGreatMA
set_option linter.unusedSimpArgs false
set_option linter.unusedVariables false
set_option maxHeartbeats 4000000
set_option maxRecDepth 16000
namespace Go.Proofs.YtccipdjjkcejgaaGreat
open Go.Abs Tryz
open List hiding le lt
theorem WZ {A:Type} {R:A->A->Prop} (l:∀ {a b c},R a b->R b c->R a c) {xs:List A} (h:∀ j (g:j+1 < xs.length),R (xs[j]'ah) xs[j+1]):xs.Pairwise R:=by
 rw [qo];have key:∀ d i (g:i+d+1 < xs.length),R (xs[i]'ah) xs[i+d+1]:=by
  intro d;induction d with
  | zero=>intro i g;exact h i g
  | succ d ih=>intro i g;exact l (ih i ah) (h (i+d+1) g)
 intro i j hi g hij;have:=key (j-i-1) i ah;have e:i+(j-i-1)+1=j:=ah
 simpa only [e] using this
theorem jA {A:Type} {ok:A->Bool} {lt:A->A->Bool} (n:∀ {a b c},lt a b=true->lt b c=true->lt a c=true) {xs:List A}:qt ok lt xs=true ↔ (∀ x∈xs,ok x=true)/\xs.Pairwise (fun a b=>lt a b=true):=by
 constructor
 ·intro h;refine ⟨fun x hx=>?_,WZ (R:=fun a b=>lt a b=true) n fun j l=>?_⟩
  ·obtain ⟨i,d,rfl⟩:=mem_iff_getElem.1 hx;exact aa3 h d
  ·have:=aa2 h l;rw [lC l,cU] at this;exact this.2
 ·rintro ⟨e,g⟩;rw [qo] at g;refine yE fun i d=>?_;cases i with
  | zero=>rw [mU d];exact e _ (ck d)
  | succ j=>rw [lC d,e _ (ck d),g j (j+1) ah d ah];rfl
theorem Zm {A:Type} {no:A->Int} {ok:A->Bool} {xs:List A}:kr no ok xs=true ↔ (∀ x∈xs,ok x=true)/\xs.Pairwise (fun a b=>no a < no b):=by
 constructor
 ·intro h;have d:∀ i (c:i < xs.length),gG no ok xs i=true:=fun i c=>dn.1 h i (mem_range.2 c);refine ⟨D7 h,WZ (R:=fun a b=>no a < no b) Int.lt_trans fun j l=>?_⟩;have:=d (j+1) l;rw [nh no ok xs l ah,cU,bL] at this;exact this.2
 ·rintro ⟨e,g⟩;rw [qo] at g;refine Zn fun i c=>?_;rcases Nat.eq_zero_or_pos i with h0 | h0
  ·rw [nU no ok xs c ah];exact e _ (ck c)
  ·rw [nh no ok xs c h0,e _ (ck c),dI (g (i-1) i ah c ah)];rfl
theorem Qb {bs:List cq}:lE bs=true ↔ (∀ b∈bs,qG b=true)/\bs.Pairwise (fun x y=>x.bz.less y.bz=true):=by
 constructor
 ·intro h;have c:∀ i (a:i < bs.length),v8 bs i=true:=fun i a=>dn.1 h i (mem_range.2 a);refine ⟨fun x hx=>?_,SY h⟩;obtain ⟨i,a,rfl⟩:=mem_iff_getElem.1 hx;have:=c i a;cases i with
  | zero=>rwa [rO a] at this
  | succ j=>rw [oS a,cU] at this;exact this.1
 ·rintro ⟨d,e⟩;rw [qo] at e;refine Az fun i a=>?_;cases i with
  | zero=>rw [rO a];exact d _ (ck a)
  | succ j=>rw [oS a,d _ (ck a),e j (j+1) ah a ah];rfl
theorem qd {A:Type} {no:A->Int} {n:Int} {xs:List A}:decide (0<=jt no n xs)=true ↔ ∃ x∈xs,no x=n:=by
 rw [vu,any_eq_true];simp
theorem yG {A:Type} {no:A->Int} {n:Int} {z:A}:∀ {xs:List A},(∃ x∈xs,no x=n)->iE no n z xs∈xs/\no (iE no n z xs)=n
 | [],h=>by obtain ⟨x,hx,_⟩:=h;cases hx
 | x :: r,h=>by
  simp only [iE];split
  ·rename_i hx;exact ⟨by simp,hx⟩
  ·rename_i hx;obtain ⟨y,a,b⟩:=h;rcases mem_cons.1 a with rfl | a
   ·exact absurd b hx
   ·obtain ⟨c,d⟩:=yG (z:=z) ⟨y,a,b⟩;exact ⟨by simp [c],d⟩
theorem yH {A:Type} {no:A->Int} {n:Int} {z:A}:∀ {xs:List A},(∀ x∈xs,no x≠n)->iE no n z xs=z
 | [],_=>rfl
 | x :: r,h=>by
  simp only [iE];rw [ak (h x (by simp))];exact yH fun y a=>h y (by simp [a])
theorem sP {A:Type} {no:A->Int} {n:Int} {z:A} {xs:List A} (hp:xs.Pairwise (fun a b=>no a < no b)) {x:A} (hx:x∈xs) (c:no x=n):iE no n z xs=x:=by
 induction xs with
 | nil=>cases hx
 | cons y r ih =>
  rw [iL] at hp;simp only [iE];rcases mem_cons.1 hx with rfl | hx
  ·rw [aq c]
  ·have:=hp.1 x hx;rw [ak ah];exact ih hp.2 hx
theorem N4 {A:Type} {no:A->Int} {n:Int} {z:A} {xs d:List A} (hp:d.Pairwise (fun a b=>no a < no b)) (h:∀ x,no x=n->(x∈xs ↔ x∈d)):iE no n z xs=iE no n z d:=by
 by_cases hx:∃ x∈xs,no x=n
 ·obtain ⟨g,e⟩:=yG (z:=z) hx;exact (sP hp ((h _ e).1 g) e).symm
 ·rw [yH (fun x hm c=>hx ⟨x,hm,c⟩),yH (fun x hm c=>hx ⟨x,(h x c).2 hm,c⟩)]
theorem fR {B:Type} {f:Nat->List B} {n:Nat} {x:B}:x∈rG f n ↔ ∃ i,i < n/\x∈f i:=by
 simp [rG,mem_flatMap,mem_range]
theorem vv {B:Type} {R:B->B->Prop} {f:Nat->List B} {n:Nat} (b:∀ i,i < n->(f i).Pairwise R) (c:∀ i j,i < j->j < n->∀ x∈f i,∀ y∈f j,R x y):(rG f n).Pairwise R:=by
 induction n with
 | zero=>simp [rG]
 | succ n ih =>
  rw [Ds,pairwise_append];refine ⟨ih (fun i d=>b i ah) (fun i j a hj=>c i j a ah),b n ah,?_⟩;intro x hx y e;obtain ⟨i,d,hx⟩:=fR.1 hx;exact c i n d ah x hx y e
theorem x9 {B:Type} {R:B->B->Prop}:∀ {l:List B},l.length<=1->l.Pairwise R
 | [],_=>by simp
 | [x],_=>by simp
 | x :: y :: r,h=>by simp at h
theorem acL {B:Type} {key:B->Int} {f:Nat->List B} {n:Nat} (d:∀ i,i < n->(f i).length<=1) (c:∀ i,i < n->∀ x∈f i,key x=(i:Int)+1):(rG f n).Pairwise (fun a b=>key a < key b):=by
 refine vv (fun i e=>x9 (d i e)) fun i j hij g x hx y l=>?_;rw [c i ah x hx,c j g y l];omega
theorem QB {A B:Type} {R:A->A->Prop} {S:B->B->Prop} {f:A->List B} {xs:List A} (hp:xs.Pairwise R) (g:∀ a∈xs,(f a).Pairwise S) (i:∀ a b,a∈xs->b∈xs->R a b->∀ x∈f a,∀ y∈f b,S x y):(xs.flatMap f).Pairwise S:=by
 induction xs with
 | nil=>simp
 | cons a r ih =>
  rw [iL] at hp;rw [flatMap_cons,pairwise_append];refine ⟨g a (by simp),ih hp.2 (fun b d=>g b (by simp [d])) (fun b c d j=>i b c (by simp [d]) (by simp [j])),?_⟩;intro x hx y e;obtain ⟨b,d,e⟩:=mem_flatMap.1 e;exact i a b (by simp) (by simp [d]) (hp.1 b d) x hx y e
theorem Xp {A:Type} {no:A->Int} {n:Int} {f:A->A} (a:∀ x,no (f x)=no x) (xs:List A):(yw no n f xs).map no=xs.map no:=by
 induction xs with
 | nil=>rfl
 | cons x r ih=>simp only [yw];split<;>simp [ih,a]
theorem T7 {A:Type} {no:A->Int} {n:Int} {f:A->A} {xs:List A} {y:A} (h:y∈yw no n f xs):y∈xs\/∃ x∈xs,y=f x:=by
 induction xs with
 | nil=>cases h
 | cons x r ih =>
  simp only [yw] at h;split at h
  ·rcases mem_cons.1 h with rfl | h
   ·exact .inr ⟨x,by simp,rfl⟩
   ·exact .inl (by simp [h])
  ·rcases mem_cons.1 h with rfl | h
   ·exact .inl (by simp)
   ·rcases ih h with h | ⟨z,hz,rfl⟩
    ·exact .inl (by simp [h])
    ·exact .inr ⟨z,by simp [hz],rfl⟩
theorem Ti {A:Type} {no:A->Int} {xs d:List A} (h:d.map no=xs.map no) (hp:xs.Pairwise (fun a b=>no a < no b)):d.Pairwise (fun a b=>no a < no b):=by
 have c:(xs.map no).Pairwise (fun a b=>a < b):=pairwise_map.2 hp;rw [<- h] at c;exact pairwise_map.1 c
theorem WY {A:Type} {no:A->Int} {n:Int} {xs a:List A} (h:a.map no=xs.map no):decide (0<=jt no n a)=decide (0<=jt no n xs):=by
 rw [vu,vu];have e:∀ l:List A,l.any (fun x=>no x==n)=(l.map no).any (fun x=>x==n):=fun l=>by simp [any_map,Function.comp_def]
 rw [e,e,h]
theorem T5 {A:Type} {no:A->Int} {n w:Int} {f:A->A} {z:A} (c:∀ x,no (f x)=no x) (xs:List A):iE no w z (yw no n f xs)=if w=n/\(∃ x∈xs,no x=n) then f (iE no w z xs) else iE no w z xs:=by
 induction xs with
 | nil=>simp [yw,iE]
 | cons x r ih =>
  simp only [yw];split
  ·rename_i hx;simp only [iE,c];by_cases b:w=n
   ·subst b;rw [aq hx,aq hx,aq ⟨rfl,x,by simp,hx⟩]
   ·rw [ak (fun h=>b (h.symm.trans hx)),ak (fun h=>b h.1),ak (fun h=>b (h.symm.trans hx))]
  ·rename_i hx;simp only [iE,ih];by_cases a:no x=w
   ·rw [aq a,aq a,ak];rintro ⟨rfl,_⟩;exact hx a
   ·rw [ak a,ak a];congr 1;simp only [mem_cons,exists_eq_or_imp,hx,false_or]
theorem cr {r:az}:r.okB=true ↔ ((∀ x∈r.ms,x.ok=true)/\r.ms.Pairwise (fun a b=>a.no < b.no))/\((∀ x∈r.ns,x.ok=true)/\r.ns.Pairwise (fun a b=>a.no < b.no))/\((∀ x∈r.xs,x.ok=true)/\r.xs.Pairwise (fun a b=>a.a < b.a)):=by
 simp only [az.okB,cU,Zm,and_assoc]
theorem nP {x:au} (h:x.ok=true):(1<=x.no/\x.no<=16)/\(1<=x.state/\x.state<=3)/\0<=x.need/\x.need<=4611686018427387904:=by
 simp only [au.ok,within,bQ,cU,bL] at h;omega
theorem u6 {x:aC} (h:x.ok=true):(1<=x.no/\x.no<=8)/\(0<=x.cur/\x.cur<=2)/\(1<=x.mult/\x.mult<=1024):=by
 simp only [aC.ok,within,cU,bL] at h;omega
theorem wU {x:ay} (h:x.ok=true):(1<=x.a/\x.a<=6)/\(0<=x.b/\x.b<=2)/\(1<=x.c/\x.c<=1073741824):=by
 simp only [ay.ok,within,cU,bL] at h;omega
theorem q9 {r:az} {w:Int}:gF r w=true ↔ ∃ x∈r.ms,x.no=w:=qd
theorem oR {r:az} {w:Int}:bJ r w=true ↔ ∃ x∈r.ns,x.no=w:=qd
theorem XE {r:az} {w:Int}:mT r w=true ↔ ∃ x∈r.xs,x.a=w:=qd
theorem Gj {r:az} {w:Int} (h:gF r w=true):fU r w∈r.ms/\(fU r w).no=w:=yG (q9.1 h)
theorem BC {r:az} {w:Int} (h:bJ r w=true):bA r w∈r.ns/\(bA r w).no=w:=yG (oR.1 h)
theorem vJ {r:az} (h:r.okB=true) {w:Int}:bM r w≠0 ↔ gF r w=true:=by
 constructor
 ·intro b;cases hm:gF r w
  ·exact absurd (show bM r w=0 from by
    unfold bM fU;rw [yH]
    ·rfl
    ·intro x hx a
     rw [q9.2 ⟨x,hx,a⟩] at hm;cases hm) b
  ·rfl
 ·intro hm;have:=nP ((cr.1 h).1.1 _ (Gj hm).1);unfold bM;omega
theorem QZ {r:az} (h:r.okB=true) {w:Int} (a:bM r w≠0):(1<=bM r w/\bM r w<=3)/\1<=w/\w<=16:=by
 have hm:=Gj ((vJ h).1 a);have:=nP ((cr.1 h).1.1 _ hm.1);rw [hm.2] at this;unfold bM;omega
theorem x8 {A:Type} {no:A->Int} {z m:A} {xs:List A} {N:Nat} {f:Nat->List A} (hp:xs.Pairwise (fun a b=>no a < no b)) (hx:∀ x∈xs,1<=no x/\no x<=N) (hm:1<=no m/\no m<=N)
  (c:∀ i:Nat,i < N->f i=if (i:Int)+1=no m then [m] else if decide (0<=jt no ((i:Int)+1) xs)=true then [iE no ((i:Int)+1) z xs] else []) :
  (rG f N).Pairwise (fun a b=>no a < no b)/\∀ x,x∈rG f N ↔ x=m\/(x∈xs/\no x≠no m):=by
 refine ⟨acL (key:=no) (fun i d=>?_) (fun i d x hx=>?_),fun x=>?_⟩
 ·rw [c i d];split
  ·simp
  ·split<;>simp
 ·rw [c i d] at hx;split at hx
  ·rename_i h;simp only [ga] at hx;rw [hx,h]
  ·split at hx
   ·rename_i h;simp only [ga] at hx;rw [hx];exact (yG (qd.1 h)).2
   ·cases hx
 ·rw [fR];constructor
  ·rintro ⟨i,d,h⟩;rw [c i d] at h;split at h
   ·simp only [ga] at h;exact .inl h
   ·rename_i j;split at h
    ·rename_i l;simp only [ga] at h;have g:=yG (z:=z) (qd.1 l);rw [<- h] at g;exact .inr ⟨g.1,by rw [g.2];exact j⟩
    ·cases h
  ·rintro (rfl | ⟨h1,h2⟩)
   ·refine ⟨(no x-1).toNat,by omega,?_⟩;rw [c _ ah,aq ah];simp
   ·have hr:=hx x h1;refine ⟨(no x-1).toNat,by omega,?_⟩;have e:(((no x-1).toNat:Nat):Int)+1=no x:=ah
    rw [c _ ah,e,ak h2,aq (qd.2 ⟨x,h1,rfl⟩),sP hp h1 rfl];simp
structure az.ext (r r':az):Prop where
 st:∀ w,bM r w≠0->bM r' w=bM r w
 inst:∀ n,bJ r n=true->bJ r' n=true
 same:∀ n,bJ r n=true->(bA r' n).mult=(bA r n).mult/\(bA r' n).cur=(bA r n).cur
 ast:∀ n,mT r n=true->mT r' n=true
theorem aaN {r:az} {w n:Int} (h:lY r w n=0):(jc r w n).okB=true/\r.ext (jc r w n):=by
 unfold jc;rw [aq h];unfold lY at h;split at h
 case isFalse=>cases h
 rename_i hr;split at h
 case isFalse=>cases h
 rename_i hm;split at h
 ·cases h
 rename_i a;have d:=hr;rw [cr] at hr;obtain ⟨⟨o1,g⟩,h2,h3⟩:=hr;have c:=nP hm;dsimp only at c
 have o:=x8 (no:=au.no) (z:=au.zero) (m:=⟨w,1,n⟩) (N:=16) (f:=aaM r ⟨w,1,n⟩) g (fun x hx=>by have:=nP (o1 x hx);omega) (by dsimp only;omega) (by
  intro i _;unfold aaM;dsimp only;by_cases e:(i:Int)+1=w
  ·rw [e,ak a];simp
  ·have l:((i:Int)+1==w)=false:=by simpa using e
   rw [l,ak e];simp only [gF,fU,nJ,if_false,append_nil]
   rfl)
 obtain ⟨p,j⟩:=o;refine ⟨cr.2 ⟨⟨fun x hx=>?_,p⟩,h2,h3⟩,⟨fun v b=>?_,fun _ h=>h,fun _ _=>⟨rfl,rfl⟩,fun _ h=>h⟩⟩
 ·rcases (j x).1 hx with rfl | h
  ·exact hm
  ·exact o1 x h.1
 ·have b:=(vJ d).1 b;unfold bM fU;congr 1;refine N4 g fun x hx=>?_;rw [j x];constructor
  ·rintro (rfl | h)
   ·dsimp only at hx;rw [hx] at a;exact absurd b a
   ·exact h.1
  ·intro h;refine .inr ⟨h,?_⟩;dsimp only;rintro rfl;rw [hx] at a;exact a b
theorem aeU {r:az} {i:aC} (h:qL r i=0):(mZ r i).okB=true/\r.ext (mZ r i):=by
 unfold mZ;rw [aq h];unfold qL at h;split at h
 case isFalse=>cases h
 rename_i hr;split at h
 case isFalse=>cases h
 rename_i hm;split at h
 ·cases h
 rename_i a;rw [cr] at hr;obtain ⟨l,⟨o1,g⟩,h3⟩:=hr;have hmk:=u6 hm
 have o:=x8 (no:=aC.no) (z:=aC.zero) (m:=i.bare) (N:=8) (f:=YF r i.bare) g (fun x hx=>by have:=u6 (o1 x hx);omega) ah (by
  intro k _;unfold YF;by_cases e:(k:Int)+1=i.bare.no
  ·have e2:bJ r ((k:Int)+1)=false:=by
    rw [e];have:bJ r i.bare.no=bJ r i.no:=rfl;rw [this];simpa using a
   rw [e2,e];simp
  ·have j:((k:Int)+1==i.bare.no)=false:=by simpa using e
   rw [j,ak e];simp only [bJ,bA,nJ,if_false,append_nil]
   rfl)
 obtain ⟨p,d⟩:=o;refine ⟨cr.2 ⟨l,⟨fun x hx=>?_,p⟩,h3⟩,⟨fun _ _=>rfl,fun n b=>?_,fun n b=>?_,fun _ h=>h⟩⟩
 ·rcases (d x).1 hx with rfl | h
  ·exact hm
  ·exact o1 x h.1
 ·rw [oR] at b |-;obtain ⟨x,hx,c⟩:=b;refine ⟨x,(d x).2 (.inr ⟨hx,fun e=>a ?_⟩),c⟩;rw [oR];exact ⟨x,hx,e⟩
 ·have e:bA (⟨r.ms,rG (YF r i.bare) 8,r.xs⟩:az) n=bA r n:=by
   unfold bA;refine N4 g fun x hx=>?_;rw [d x];constructor
   ·rintro (rfl | h)
    ·have hx:i.no=n:=hx;rw [hx] at a;exact absurd b a
    ·exact h.1
   ·intro h;refine .inr ⟨h,fun e=>a ?_⟩;rw [oR];exact ⟨x,h,e⟩
  rw [e];exact ⟨rfl,rfl⟩
theorem aeH {r:az} {a:ay} (h:rJ r a=0):(mq r a).okB=true/\r.ext (mq r a):=by
 unfold mq;rw [aq h];unfold rJ at h;split at h
 case isFalse=>cases h
 rename_i hr;split at h
 case isFalse=>cases h
 rename_i hm;rw [cU] at hm;have hm:=hm.1;rw [cr] at hr;obtain ⟨i,j,⟨o1,o⟩⟩:=hr;have hmk:=wU hm
 have l:=x8 (no:=ay.a) (z:=(⟨0,0,0,0⟩:ay)) (m:=a) (N:=6) (f:=abw r a) o (fun x hx=>by have:=wU (o1 x hx);omega) ah (by
  intro k _;unfold abw;by_cases e:(k:Int)+1=a.a
  ·rw [e];simp
  ·have g:((k:Int)+1==a.a)=false:=by simpa using e
   rw [g,ak e];simp only [mT,nI,nJ,if_false]
   rfl)
 obtain ⟨p,c⟩:=l;refine ⟨cr.2 ⟨i,j,⟨fun x hx=>?_,p⟩⟩,⟨fun _ _=>rfl,fun _ h=>h,fun _ _=>⟨rfl,rfl⟩,fun n d=>?_⟩⟩
 ·rcases (c x).1 hx with rfl | h
  ·exact hm
  ·exact o1 x h.1
 ·rw [XE] at d |-;obtain ⟨x,hx,b⟩:=d;by_cases e:x.a=a.a
  ·exact ⟨a,(c a).2 (.inl rfl),by rw [<- e];exact b⟩
  ·exact ⟨x,(c x).2 (.inr ⟨hx,e⟩),b⟩
theorem afT {x:aC} {p:Int} (h:x.ok=true) (hp:1<=p/\p<=1073741824):(x.told p).ok=true:=by
 have e:(x.told p).WR=x.WR:=by
  have:(x.told p).sh=x.sh:=by funext i;rcases i with _ | _ | _ | _ | _ | i<;>rfl
  simp only [aC.WR,this]
 have e2:(x.told p).ok=(x.WR&&within x.no 1 8&&within x.cur 0 2&&within x.mult 1 1024&&within x.add 0 1073741824&&within p 0 1073741824&&within x.aH 0 1073741824):=by
  unfold aC.ok;rw [e];rfl
 rw [e2];simp only [aC.ok,within,cU,bL] at h |-;obtain ⟨⟨⟨⟨⟨⟨a,b⟩,h2⟩,h3⟩,h4⟩,h5⟩,h6⟩:=h;exact ⟨⟨⟨⟨⟨⟨a,b⟩,h2⟩,h3⟩,h4⟩,⟨by omega,by omega⟩⟩,h6⟩
theorem afW {x:aC} (h:x.ok=true):x.tU.ok=true:=by
 unfold aC.tU;split
 ·exact h
 rename_i a;have a:x.set≠0:=by simpa using a
 have e:aC.WR { x with aH:=x.set,set:=0 }=x.WR:=by
  have:aC.sh { x with aH:=x.set,set:=0 }=x.sh:=by funext i;rcases i with _ | _ | _ | _ | _ | i<;>rfl
  simp only [aC.WR,this]
 have e2:aC.ok { x with aH:=x.set,set:=0 }=(x.WR&&within x.no 1 8&&within x.cur 0 2&&within x.mult 1 1024&&within x.add 0 1073741824&&within 0 0 1073741824&&within x.set 0 1073741824):=by
  unfold aC.ok;rw [e]
 rw [e2];simp only [aC.ok,within,cU,bL] at h |-;obtain ⟨⟨⟨⟨⟨⟨b,c⟩,h2⟩,h3⟩,h4⟩,h5⟩,h6⟩:=h;exact ⟨⟨⟨⟨⟨⟨b,c⟩,h2⟩,h3⟩,h4⟩,⟨by omega,by omega⟩⟩,h5⟩
theorem Xo (x:aC):x.tU.no=x.no:=by unfold aC.tU;split<;>rfl
theorem afQ {r:az} {n p:Int} (h:wD r n p=0):(oB r n p).okB=true/\r.ext (oB r n p):=by
 unfold oB;rw [aq h];unfold wD at h;split at h
 case isFalse=>cases h
 rename_i hr;split at h
 case isFalse=>cases h
 split at h
 case isFalse=>cases h
 rename_i hp;simp only [within,cU,bL] at hp;rw [cr] at hr;obtain ⟨b,⟨o1,c⟩,h3⟩:=hr;have a:=Xp (no:=aC.no) (n:=n) (f:=aC.told p) (fun _=>rfl) r.ns;refine ⟨cr.2 ⟨b,⟨fun x hx=>?_,Ti a c⟩,h3⟩,⟨fun _ _=>rfl,fun m hm=>?_,fun m hm=>?_,fun _ h=>h⟩⟩
 ·rcases T7 hx with h | ⟨y,hy,rfl⟩
  ·exact o1 x h
  ·exact afT (o1 y hy) hp
 ·unfold bJ at hm |-;rw [<- hm];exact WY a
 ·unfold bA;dsimp only;rw [T5 (no:=aC.no) (f:=aC.told p) (fun _=>rfl)];split<;>exact ⟨rfl,rfl⟩
theorem adz {r:az} (hr:r.okB=true):(L1 r).okB=true/\r.ext (L1 r):=by
 rw [cr] at hr;obtain ⟨c,⟨o1,b⟩,h3⟩:=hr;have a:(r.ns.map aC.tU).map aC.no=r.ns.map aC.no:=by
  rw [map_map];exact map_congr_left fun x _=>Xo x
 refine ⟨cr.2 ⟨c,⟨fun x hx=>?_,Ti a b⟩,h3⟩,⟨fun _ _=>rfl,fun m hm=>?_,fun m hm=>?_,fun _ h=>h⟩⟩
 ·obtain ⟨y,d,rfl⟩:=mem_map.1 hx;exact afW (o1 y d)
 ·unfold bJ at hm |-;rw [<- hm];exact WY a
 ·obtain ⟨g,i⟩:=BC hm;have e:bA (L1 r) m=(bA r m).tU:=sP (no:=aC.no) (Ti a b) (mem_map.2 ⟨_,g,rfl⟩) (by rw [Xo];exact i);rw [e];unfold aC.tU;split<;>exact ⟨rfl,rfl⟩
theorem QA {r:az} {n p:Int} (h:MU r n p=0):(ju r n p).okB=true/\(∀ w,bM (ju r n p) w=if w=n then p else bM r w)/\(ju r n p).ns=r.ns/\(ju r n p).xs=r.xs:=by
 unfold ju;rw [aq h];unfold MU at h;split at h
 case isFalse=>cases h
 rename_i hr;split at h
 case isFalse=>cases h
 rename_i c;split at h
 case isFalse=>cases h
 rename_i hp;simp only [within,cU,bL] at hp;rw [cr] at hr;obtain ⟨⟨o1,d⟩,h2,h3⟩:=hr;have b:=Xp (no:=au.no) (n:=n) (f:=au.put p) (fun _=>rfl) r.ms;refine ⟨cr.2 ⟨⟨fun x hx=>?_,Ti b d⟩,h2,h3⟩,fun w=>?_,rfl,rfl⟩
 ·rcases T7 hx with h | ⟨y,hy,rfl⟩
  ·exact o1 x h
  ·have:=o1 y hy;have e2:(y.put p).ok=(within y.no 1 16&&within p 1 3&&bQ y.need&&decide (0<=y.need)):=rfl;rw [e2];simp only [au.ok,within,cU,bL] at this |-;exact ⟨⟨⟨this.1.1.1,hp⟩,this.1.2⟩,this.2⟩
 ·unfold bM fU;dsimp only;rw [T5 (no:=au.no) (f:=au.put p) (fun _=>rfl)];by_cases a:w=n
  ·rw [aq ⟨a,q9.1 c⟩,aq a];rfl
  ·rw [ak (fun h=>a h.1),ak a]
theorem Hq {A:Type} {no:A->Int} {l m:List A} (c:l.Pairwise fun a b=>no a < no b) (d:m.Pairwise fun a b=>no a < no b) (h:∀ x,x∈l ↔ x∈m):l=m:=by
 have g:∀ {l:List A},l.Pairwise (fun a b=>no a < no b)->l.Nodup:=fun h=>h.imp fun {a b} hab e=>by subst e;omega
 exact Perm.eq_of_pairwise (le:=fun a b=>no a < no b) (fun a b _ _ x y=>by omega) c d ((perm_ext_iff_of_nodup (g c) (g d)).2 h)
section
variable {A:Type} {no:A->Int} {z m:A} {xs:List A} {N:Nat} {f:Nat->List A} (hp:xs.Pairwise fun a b=>no a < no b) (hx:∀ x∈xs,1<=no x/\no x<=N) (hm:1<=no m/\no m<=N)
 (hf:∀ i:Nat,i < N->f i=if (i:Int)+1=no m then [m] else if decide (0<=jt no ((i:Int)+1) xs)=true then [iE no ((i:Int)+1) z xs] else []) {k:Nat}
include hp hx hm hf
theorem IZ (hk:k<=xs.length) (j:∀ i (h:i < k),no (xs[i]'ah) < no m) (e:∀ i (h:i < xs.length),k<=i->no m < no xs[i]):xs.take k++[m]++xs.drop k=rG f N:=by
 obtain ⟨o,p⟩:=x8 hp hx hm hf;have l:∀ x∈xs.take k,no x < no m:=fun x hx=>by
  obtain ⟨i,g,rfl⟩:=getElem_of_mem hx;rw [dY] at g;rw [getElem_take];exact j i ah
 have d:∀ x∈xs.drop k,no m < no x:=fun x hx=>by
  obtain ⟨i,g,rfl⟩:=getElem_of_mem hx;rw [fj] at g;rw [getElem_drop];exact e _ ah ah
 refine Hq ?_ o fun x=>?_
 ·rw [cQ,pairwise_append];refine ⟨hp.sublist (take_sublist _ _),iL.2 ⟨d,hp.sublist (drop_sublist _ _)⟩,fun a n b c=>?_⟩;rcases mem_cons.1 c with rfl | c
  ·exact l a n
  ·have:=l a n;have:=d b c;omega
 ·rw [p,mem_append,mem_append,ga];constructor
  ·rintro ((h | rfl) | h)
   ·exact .inr ⟨mem_of_mem_take h,by have:=l x h;omega⟩
   ·exact .inl rfl
   ·exact .inr ⟨mem_of_mem_drop h,by have:=d x h;omega⟩
  ·rintro (rfl | ⟨h,_⟩)
   ·exact .inl (.inr rfl)
   ·rw [<- jY k xs,mem_append] at h;rcases h with h | h
    ·exact .inl (.inl h)
    ·exact .inr h
theorem Xe (g:k < xs.length) (b:no xs[k]=no m):xs.set k m=rG f N:=by
 obtain ⟨n,o⟩:=x8 hp hx hm hf;have l:∀ i (h:i < xs.length),no ((xs.set k m)[i]'(by rw [length_set];exact h))=no xs[i]:=fun i h=>by
  rw [getElem_set];split
  ·rename_i e;subst e;exact b.symm
  ·rfl
 refine Hq (qo.2 fun i j a d c=>?_) n fun x=>?_
 ·rw [length_set] at a d;rw [l i a,l j d];exact qo.1 hp i j a d c
 ·rw [o,mem_iff_getElem];constructor
  ·rintro ⟨i,a,rfl⟩;rw [length_set] at a;rw [getElem_set];split
   ·exact .inl rfl
   ·rename_i e;refine .inr ⟨ck _,fun p=>?_⟩;rw [<- b] at p;have:=qo.1 hp;rcases Nat.lt_or_gt_of_ne e with h | h
    ·have:=this k i g a h;omega
    ·have:=this i k a g h;omega
  ·rintro (rfl | ⟨h,hne⟩)
   ·exact ⟨k,by rw [length_set];exact g,by rw [getElem_set];simp⟩
   ·obtain ⟨i,a,rfl⟩:=getElem_of_mem h;refine ⟨i,by rw [length_set];exact a,?_⟩;rw [getElem_set,ak];rintro rfl;exact hne b
end
def putAt {A:Type} (no:A->Int) (n:Int) (xs:List A):Nat:=(xs.takeWhile fun x=>decide (no x < n)).length
theorem iQ {A:Type} {no:A->Int} {n:Int} {xs:List A} (hp:xs.Pairwise fun a b=>no a < no b):putAt no n xs<=xs.length/\(∀ i (h:i < xs.length),i < putAt no n xs->no xs[i] < n)/\∀ i (h:i < xs.length),putAt no n xs<=i->n<=no xs[i]:=by
 induction xs with
 | nil=>exact ⟨by simp [putAt],by simp,by simp⟩
 | cons x r ih =>
  obtain ⟨j,l⟩:=iL.1 hp;obtain ⟨d,e,g⟩:=ih l;unfold putAt at *;cases q:decide (no x < n)
  ·rw [takeWhile_cons_of_neg (by simp [q])];refine ⟨by simp,fun i h c=>by simp at c,fun i h _=>?_⟩;simp only [gM] at q;cases i with
   | zero=>simp;omega
   | succ i=>have:=j (r[i]'(by simpa using h)) (ck _);simp;omega
  ·rw [takeWhile_cons_of_pos (by simpa using q)];simp only [bL] at q;refine ⟨by simpa using d,fun i h c=>?_,fun i h c=>?_⟩
   ·cases i with
    | zero=>simpa using q
    | succ i=>simpa using e i (by simpa using h) (by simpa using c)
   ·cases i with
    | zero=>simp at c
    | succ i=>simpa using g i (by simpa using h) (by simpa using c)
theorem Nq {a b:aP}:a.same b=true ↔ a=b:=by
 obtain ⟨a1,a2,a3⟩:=a;obtain ⟨b1,b2,b3⟩:=b;simp only [aP.same,cU,eH,aP.mk.injEq]
theorem P1 {a:aP} {b:cq}:WB a b=true ↔ b.bz=a:=by
 obtain ⟨a1,a2,a3⟩:=a;obtain ⟨b1,b2,b3,b4⟩:=b;simp only [WB,cq.bz,cU,eH,aP.mk.injEq]
theorem KL {a:aP} (h:a.less a=true):False:=by rw [pW] at h;omega
def tot {A:Type} (L:List A) (F:A->Int):Int:=aG (L.map F)
theorem sy {A:Type} (x:A) (L:List A) (F:A->Int):tot (x :: L) F=F x+tot L F:=rfl
theorem yV {A:Type} (L:List A) (F G:A->Int):tot L (fun a=>F a+G a)=tot L F+tot L G:=by
 induction L with
 | nil=>rfl
 | cons x r ih=>simp only [sy,ih];omega
theorem yq {A:Type} {L:List A} {F:A->Int} (h:∀ a∈L,F a=0):tot L F=0:=by
 induction L with
 | nil=>rfl
 | cons x r ih=>rw [sy,h x (by simp),ih fun a b=>h a (by simp [b])];rfl
theorem nq {A:Type} {L:List A} {F G:A->Int} (h:∀ a∈L,F a=G a):tot L F=tot L G:=by
 induction L with
 | nil=>rfl
 | cons x r ih=>rw [sy,sy,h x (by simp),ih fun a b=>h a (by simp [b])]
theorem Jf {A:Type} {L:List A} {R:A->A->Prop} (hp:L.Pairwise R) {x:A} (hx:x∈L) {F:A->Int} (b:∀ a,(R a x\/R x a)->F a=0):tot L F=F x:=by
 induction L with
 | nil=>cases hx
 | cons y r ih =>
  rw [iL] at hp;rw [sy];rcases mem_cons.1 hx with rfl | hx
  ·rw [yq fun a c=>b a (.inr (hp.1 a c))];omega
  ·rw [ih hp.2 hx,b y (.inl (hp.1 x hx))];omega
theorem Pj {k w c:Nat} {x:aP}:x∈acc k w c ↔ x=⟨(k:Int)+1,w,c⟩/\x.right=true:=by
 unfold acc;split
 ·rename_i h;simp only [ga];constructor
  ·rintro rfl;exact ⟨rfl,h⟩
  ·exact fun h=>h.1
 ·rename_i h;constructor
  ·intro h;cases h
  ·rintro ⟨rfl,a⟩;exact absurd a h
theorem Jn {k w n:Nat} {x:aP}:x∈Rf k w n ↔ ∃ c,c < n/\x=⟨(k:Int)+1,w,(c:Nat)⟩/\x.right=true:=by
 rw [show Rf k w n=rG (acc k w) n from rfl,fR];simp only [Pj]
theorem Jo {k n:Nat} {x:aP}:x∈Un k n ↔ ∃ w,w < n/\∃ c,c < 3/\x=⟨(k:Int)+1,(w:Nat),(c:Nat)⟩/\x.right=true:=by
 rw [show Un k n=rG (fun w=>Rf k w 3) n from rfl,fR];simp only [Jn]
theorem aaI {n:Nat} {x:aP}:x∈aaG n ↔ ∃ k,k < n/\∃ w,w < 17/\∃ c,c < 3/\x=⟨((k:Nat):Int)+1,(w:Nat),(c:Nat)⟩/\x.right=true:=by
 rw [show aaG n=rG (fun k=>Un k 17) n from rfl,fR];simp only [Jo]
theorem GC {x:aP} (h:x.right=true):(1<=x.kind/\x.kind<=6)/\(0<=x.who/\x.who<=16)/\0<=x.cur/\x.cur<=2:=by
 unfold aP.right at h;split at h
 ·cases h
 ·split at h
  ·simp only [cU,bL] at h;omega
  ·simp only [eH] at h;omega
theorem rz {x:aP}:x∈jd ↔ x.right=true:=by
 unfold jd;rw [aaI];constructor
 ·rintro ⟨_,_,_,_,_,_,_,h⟩;exact h
 ·intro h;have:=GC h;refine ⟨(x.kind-1).toNat,by omega,x.who.toNat,by omega,x.cur.toNat,by omega,?_,h⟩;obtain ⟨a,b,c⟩:=x;dsimp only at this |-;rw [aP.mk.injEq];omega
theorem uV:jd.Pairwise (fun a b=>a.less b=true):=by
 unfold jd;rw [show aaG 6=rG (fun k=>Un k 17) 6 from rfl];refine vv (fun k _=>?_) fun i j d _ x hx y e=>?_
 ·rw [show Un k 17=rG (fun w=>Rf k w 3) 17 from rfl];refine vv (fun w _=>?_) fun i j d _ x hx y e=>?_
  ·rw [show Rf k w 3=rG (acc k w) 3 from rfl];refine vv (fun c _=>x9 (by unfold acc;split<;>simp)) fun i j d _ x hx y e=>?_;obtain ⟨rfl,_⟩:=Pj.1 hx;obtain ⟨rfl,_⟩:=Pj.1 e;rw [pW];dsimp only;omega
  ·obtain ⟨_,_,rfl,_⟩:=Jn.1 hx;obtain ⟨_,_,rfl,_⟩:=Jn.1 e;rw [pW];dsimp only;omega
 ·obtain ⟨_,_,_,_,rfl,_⟩:=Jo.1 hx;obtain ⟨_,_,_,_,rfl,_⟩:=Jo.1 e;rw [pW];dsimp only;omega
def IY (c:Int) (a:aP) (n:Int):Int:=if a.cur=c then n else 0
theorem aeL (c:Int) (b:cq) (n:Int):IY c b.bz n=if b.cur=c then n else 0:=rfl
theorem aeM (c:Int) (b:aU) (n:Int):IY c b.bz n=if b.cur=c then n else 0:=rfl
theorem aiY (c:Int) (a:aP) (m n:Int):IY c (cq.bz ⟨a.kind,a.who,a.cur,m⟩) n=IY c a n:=rfl
theorem NK (c:Int) (b:cq) (r:List cq):aG (mh c (b :: r))=IY c b.bz b.sum+aG (mh c r):=by
 rw [aeL];simp only [mh,filter_cons];by_cases h:b.cur=c
 ·rw [aq (by simpa using h),aq h];rfl
 ·rw [ak (by simpa using h),ak h];simp
theorem aa7 (c:Int) (a b:List cq):mh c (a++b)=mh c a++mh c b:=by simp [mh]
theorem aa8 (c:Int) (S:aP->Int) (L:List aP):aG (mh c (L.flatMap fun a=>EB a (S a)))=tot L fun a=>IY c a (S a):=by
 induction L with
 | nil=>rfl
 | cons x r ih =>
  rw [flatMap_cons,aa7,gy,ih,sy];congr 1;unfold EB;split
  ·rename_i h;have h:S x=0:=by simpa using h
   rw [h];simp [mh,aG,IY]
  ·rw [NK,aiY];simp [mh,aG]
theorem SU {a:aP}:∀ {bs:List cq},(∀ b∈bs,b.bz≠a)->jo a bs=0
 | [],_=>rfl
 | b :: r,h=>by
  simp only [jo];rw [ak (fun c=>h b (by simp) (P1.1 c))];exact SU fun x hx=>h x (by simp [hx])
theorem adn (c:Int):∀ {bs:List cq},(∀ b∈bs,b.bz.right=true)->bs.Pairwise (fun x y=>x.bz.less y.bz=true)->tot jd (fun a=>IY c a (jo a bs))=aG (mh c bs)
 | [],_,_=>yq fun a _=>by simp [jo,IY]
 | b :: r,h1,h2=>by
  rw [iL] at h2;rw [NK,<- adn c (fun x hx=>h1 x (by simp [hx])) h2.2];have e:∀ a∈jd,IY c a (jo a (b :: r))=(if b.bz=a then IY c a b.sum else 0)+IY c a (jo a r):=by
   intro a _;simp only [jo];by_cases d:b.bz=a
   ·rw [aq (P1.2 d),aq d];rw [SU (bs:=r) (fun x hx g=>by have:=h2.1 x hx;rw [d,g] at this;exact KL this)];simp [IY]
   ·rw [ak (fun j=>d (P1.1 j)),ak d];omega
  rw [nq e,yV];congr 1;rw [Jf uV (x:=b.bz) (rz.2 (h1 b (by simp)))]
  ·simp
  ·intro a i;rw [ak];rintro rfl;rcases i with h | h<;>exact KL h
theorem Yw (a:aP) (x:aU) (g:List aU):aG (jC a (x :: g))=(if x.bz=a then x.br else 0)+aG (jC a g):=by
 simp only [jC,pick,flatMap_cons,gy];congr 1;by_cases h:x.bz=a
 ·rw [aq (Nq.2 h),aq h];simp [aG]
 ·rw [ak (fun b=>h (Nq.1 b)),ak h];rfl
theorem XV (c:Int) (x:aU) (g:List aU):aG (tE c (x :: g))=IY c x.bz x.br+aG (tE c g):=by
 simp only [tE,pick,flatMap_cons,gy];congr 1;rw [aeM];by_cases h:x.cur=c
 ·rw [aq (by simpa using h),aq h];simp [aG]
 ·rw [ak (by simpa using h),ak h];rfl
theorem TX (c:Int):∀ {g:List aU},(∀ x∈g,x.bz.right=true)->tot jd (fun a=>IY c a (aG (jC a g)))=aG (tE c g)
 | [],_=>yq fun a _=>by simp [jC,pick,IY,aG]
 | x :: r,h1=>by
  rw [XV,<- TX c (fun y i=>h1 y (by simp [i]))];have e:∀ a∈jd,IY c a (aG (jC a (x :: r)))=(if x.bz=a then IY c a x.br else 0)+IY c a (aG (jC a r)):=by
   intro a _;rw [Yw];by_cases b:x.bz=a
   ·rw [aq b,aq b];simp only [IY];split<;>omega
   ·rw [ak b,ak b];simp only [Int.zero_add]
  rw [nq e,yV];congr 1;rw [Jf uV (x:=x.bz) (rz.2 (h1 x (by simp)))]
  ·simp
  ·intro a d;rw [ak];rintro rfl;rcases d with h | h<;>exact KL h
theorem aaW {bs:List cq} {c:Int}:tu bs c=true ↔ right (mh c bs)=true/\aG (mh c bs)=0:=by
 simp only [tu,nW,n9,cU,eH];constructor
 ·rintro ⟨a,b⟩;split at a
  ·rename_i hr;split at a
   ·rename_i d;rw [hr,d] at b;exact ⟨hr,by simpa using b⟩
   ·cases a
  ·cases a
 ·rintro ⟨hr,e⟩;rw [aq hr,e,hr];exact ⟨rfl,rfl⟩
theorem rP {l:bE}:l.okB=true ↔ 0<=l.last/\((∀ b∈l.bs,qG b=true)/\l.bs.Pairwise (fun x y=>x.bz.less y.bz=true))/\tu l.bs 0=true/\tu l.bs 1=true/\tu l.bs 2=true:=by
 simp only [bE.okB,cU,Qb,bL,and_assoc]
theorem Gi {l:bE} (h:l.okB=true):∀ b∈l.bs,b.bz.right=true:=fun b a=>by
 have:=(rP.1 h).2.1.1 b a;simp only [qG,cU] at this;exact this.1
theorem S7 {l:bE} {id:Int} {g:List aU} (h:gf l id g=0):l.okB=true/\(1<=id/\id<=1099511627776)/\sB g=0/\Ho l g jd=true/\Tc l g jd=false:=by
 unfold gf at h;split at h
 case isFalse=>cases h
 rename_i c;split at h
 case isFalse=>cases h
 rename_i b;split at h
 ·cases h
 split at h
 case isFalse a=>exact absurd h a
 rename_i a;split at h
 case isFalse=>cases h
 rename_i d;split at h
 ·cases h
 rename_i e;simp only [within,cU,bL] at b;exact ⟨c,b,a,d,by simpa using e⟩
theorem S9 {l:bE} {id:Int} {g:List aU} (h:gf l id g=0):(kR l id g).okB=true:=by
 unfold kR;rw [aq h];obtain ⟨w,h2,C,D,E⟩:=S7 h;obtain ⟨I,J,m3⟩:=Rz C;have v:∀ x∈g,x.bz.right=true:=fun x hx=>by
  have:=dn.1 I x hx;simp only [SH,cU] at this;exact this.1
 have d:=rP.1 w;have q:∀ b∈Tb l g jd,∃ a∈jd,b=⟨a.kind,a.who,a.cur,tP l g a⟩/\tP l g a≠0:=by
  intro b d;obtain ⟨a,j,d⟩:=mem_flatMap.1 d;unfold EB at d;split at d
  ·cases d
  ·rename_i p;simp only [ga] at d;exact ⟨a,j,d,by simpa using p⟩
 have r:∀ a∈jd,bQ (tP l g a)=true:=fun a j=>dn.1 D a j;have i:∀ c:Int,tu l.bs c=true->aG (tE c g)=0->tu (Tb l g jd) c=true:=by
  intro c s F;rw [aaW] at s |-;constructor
  ·refine dn.2 fun n B=>?_;simp only [mh,mem_map,mem_filter] at B;obtain ⟨b,⟨d,_⟩,rfl⟩:=B;obtain ⟨a,j,rfl,_⟩:=q b d;exact r a j
  ·have e:=aa8 c (tP l g) jd;rw [show Tb l g jd=jd.flatMap fun a=>EB a (tP l g a) from rfl,e];have e2:∀ a∈jd,IY c a (tP l g a)=IY c a (jo a l.bs)+IY c a (aG (jC a g)):=fun a _=>by
    simp only [tP,aG,IY];split<;>omega
   rw [nq e2,yV,adn c (Gi w) d.2.1.2,TX c v,s.2,F];rfl
 have o:∀ c:Nat,c < 3->aG (tE c g)=0:=fun c s=>by
  have:=dn.1 J c (mem_range.2 s);simpa using this
 refine rP.2 ⟨by dsimp only;omega,⟨fun b d=>?_,?_⟩,i 0 d.2.2.1 (o 0 ah),i 1 d.2.2.2.1 (o 1 ah),i 2 d.2.2.2.2 (o 2 ah)⟩
 ·obtain ⟨a,j,rfl,p⟩:=q b d;rw [show qG ⟨a.kind,a.who,a.cur,tP l g a⟩=(a.right&&(bQ (tP l g a)&&(tP l g a != 0&&!decide (tP l g a < a.floor)))) from rfl];simp only [cU,bne_iff_ne,iK,gM];refine ⟨rz.1 j,r a j,p,fun u=>?_⟩;have:Tc l g jd=true:=any_eq_true.2 ⟨a,j,by simpa using u⟩;rw [E] at this;cases this
 ·refine QB (f:=fun a=>EB a (tP l g a)) uV (fun a _=>x9 (Rn _ _)) fun a b _ _ t x hx y G=>?_;have key:∀ (a:aP) (x:cq),x∈EB a (tP l g a)->x.bz=a:=fun a x hx=>by
   unfold EB at hx;split at hx
   ·cases hx
   ·simp only [ga] at hx;rw [hx];rfl
  rw [key a x hx,key b y G];exact t
theorem OI {l:bE} {g:List aU} {e:Int} (h:l.okB=true) (a:(jj l g e).2=0):(jj l g e).1.okB=true:=by
 unfold jj at a |-;split
 ·rename_i b;rw [aq b] at a;exact S9 a
 ·exact h
theorem oY {a b:aF}:lT a b=true ↔ a.who < b.who\/(a.who=b.who/\a.inst < b.inst):=by
 simp only [lT,Sm,Bool.or_eq_true,cU,bL,eH]
theorem acz {a b c:aF} (d:lT a b=true) (e:lT b c=true):lT a c=true:=by
 simp only [lT,Sm,Bool.or_eq_true,cU,bL,eH] at d e |-;omega
theorem V1 {a b c:aL} (d:lN a b=true) (e:lN b c=true):lN a c=true:=by
 simp only [lN,bL] at d e |-;omega
theorem KM {n:Int} {l:List aF}:tJ n l=true ↔ right (fu n l)=true/\aG (fu n l)=0:=by
 simp only [tJ,nW,n9,cU,eH];constructor
 ·rintro ⟨a,b⟩;split at a
  ·rename_i hr;split at a
   ·rename_i c;rw [hr,c] at b;exact ⟨hr,by simpa using b⟩
   ·cases a
  ·cases a
 ·rintro ⟨hr,d⟩;rw [aq hr,d,hr];exact ⟨rfl,rfl⟩
theorem iG {p:aF}:p.okB=true ↔ (1<=p.who/\p.who<=16)/\(1<=p.inst/\p.inst<=8)/\(-1099511627776<=p.aZ/\p.aZ<=1099511627776)/\bQ p.cost=true /\ ¬ (p.aZ=0/\p.cost=0):=by
 simp only [aF.okB,rN,within,cU,bL,iK,Bool.and_eq_false_iff,beq_eq_false_iff_ne,ne_eq];constructor
 ·rintro ⟨⟨b,c⟩,d,e,a⟩;exact ⟨b,c,d,e,fun h=>by rcases a with a | a<;>omega⟩
 ·rintro ⟨b,c,d,e,a⟩;refine ⟨⟨b,c⟩,d,e,?_⟩;omega
structure aI.right (b:aI):Prop where
 ok:∀ p∈b.qs,p.okB=true
 pw:b.qs.Pairwise (fun x y=>lT x y=true)
 level:∀ n:Int,1<=n->n<=8->aG (fu n b.qs)=0
 tok:∀ t∈b.ts,mJ b.next t=true
 tpw:b.ts.Pairwise (fun x y=>x.no < y.no)
 tl:b.ts.length<=128
 n0:0<=b.next
 n1:b.next<=1099511627776
theorem cy {b:aI}:b.okB=true ↔ b.right:=by
 simp only [aI.okB,cU,jA (lt:=lT) acz,jA (lt:=lN) V1,iK,gM,tK,dn,KM];constructor
 ·rintro ⟨⟨c,d⟩,⟨h3,h4⟩,h5,h6,h7,h8⟩;refine ⟨c,d,fun n hn hn2=>?_,h3,h4.imp fun h=>by simpa [lN] using h,by omega,by omega,by omega⟩;have:=(h5 (n-1).toNat (mem_range.2 ah)).2;rwa [show (((n-1).toNat:Nat):Int)+1=n by omega] at this
 ·intro h;refine ⟨⟨h.ok,h.pw⟩,⟨h.tok,h.tpw.imp fun h=>by simpa [lN] using h⟩,fun i e=>⟨?_,h.level _ ah (by have:=mem_range.1 e;omega)⟩,by have:=h.tl;omega,by have:=h.n0;omega,by have:=h.n1;omega⟩;refine dn.2 fun q a=>?_;simp only [fu,mem_map,mem_filter] at a;obtain ⟨p,⟨hp,_⟩,rfl⟩:=a;have:=(iG.1 (h.ok p hp)).2.2.1;rw [bI];omega
theorem OK (n:Int) (a b:List aF):fu n (a++b)=fu n a++fu n b:=by simp [fu]
theorem oZ (n:Int) (p:aF) (r:List aF):aG (fu n (p :: r))=(if p.inst=n then p.aZ else 0)+aG (fu n r):=by
 simp only [fu,filter_cons];by_cases h:p.inst=n
 ·rw [aq (by simpa using h),aq h];rfl
 ·rw [ak (by simpa using h),ak h];simp
theorem BO {A:Type} (n:Int) (f:A->List aF) (L:List A):aG (fu n (L.flatMap f))=tot L (fun a=>aG (fu n (f a))):=by
 induction L with
 | nil=>rfl
 | cons x r ih=>rw [flatMap_cons,OK,gy,ih];rfl
theorem Zh (b:aI) (g:List aF) (w m n:Int):aG (fu n (Nr b g w m))=if m=n then IN b g w m else 0:=by
 unfold Nr;split
 ·rename_i h;simp only [cU,eH] at h;rw [h.1];split<;>rfl
 ·rw [oZ];simp [fu,aG]
theorem Tl (n:Nat):(range n).Pairwise (fun a b=>a < b):=pairwise_lt_range
theorem Zg (b:aI) (g:List aF) (w n:Int) (h1:1<=n) (h8:n<=8):aG (fu n (Up b g w 8))=IN b g w n:=by
 unfold Up;rw [BO];have e:∀ k∈range 8,aG (fu n (Nr b g w ((k:Int)+1)))=if (k:Int)+1=n then IN b g w n else 0:=fun k _=>by
  rw [Zh];split
  ·rename_i h;rw [h]
  ·rfl
 rw [nq e,Jf (Tl 8) (x:=(n-1).toNat) (mem_range.2 ah)]
 ·rw [aq ah]
 ·intro a ha;rw [ak ah]
theorem Zi (b:aI) (g:List aF) (n:Int) (a:1<=n) (c:n<=8):aG (fu n (Ce b g 16))=tot (range 16) (fun k=>IN b g ((k:Int)+1) n):=by
 unfold Ce;rw [BO];exact nq fun k _=>Zg b g _ n a c
theorem ji {w n:Int} {p:aF}:cE w n p=true ↔ p.who=w/\p.inst=n:=by simp only [cE,cU,eH]
theorem iX {w n:Int}:∀ {qs:List aF},(∀ p∈qs,¬ (p.who=w/\p.inst=n))->posOf w n qs=⟨w,n,0,0⟩
 | [],_=>rfl
 | p :: r,h=>by
  simp only [posOf];rw [ak (by simp only [cE,cU,eH];exact h p (by simp))];exact iX fun x hx=>h x (by simp [hx])
theorem uH {w n:Int}:∀ {qs:List aF},(∃ p∈qs,p.who=w/\p.inst=n)->posOf w n qs∈qs/\(posOf w n qs).who=w/\(posOf w n qs).inst=n
 | [],h=>by obtain ⟨_,h,_⟩:=h;cases h
 | p :: r,h=>by
  simp only [posOf];split
  ·rename_i hp;simp only [cE,cU,eH] at hp;exact ⟨by simp,hp⟩
  ·rename_i hp;simp only [cE,cU,eH] at hp;obtain ⟨x,hx,a⟩:=h;rcases mem_cons.1 hx with rfl | hx
   ·exact absurd a hp
   ·obtain ⟨b,c⟩:=uH ⟨x,hx,a⟩;exact ⟨by simp [b],c⟩
theorem qe {w n:Int} {qs:List aF} (hp:qs.Pairwise (fun x y=>lT x y=true)) {p:aF} (hm:p∈qs) (a:p.who=w/\p.inst=n):posOf w n qs=p:=by
 induction qs with
 | nil=>cases hm
 | cons y r ih =>
  rw [iL] at hp;simp only [posOf];rcases mem_cons.1 hm with rfl | hm
  ·rw [aq (by simp only [cE,cU,eH];exact a)]
  ·have:=hp.1 p hm;rw [ak]
   ·exact ih hp.2 hm
   ·simp only [lT,Sm,Bool.or_eq_true,cU,bL,eH] at this;simp only [cE,cU,eH];omega
theorem ahv {w v:Int} (h:1<=w/\w<=16):tot (range 16) (fun k=>if w=(k:Int)+1 then v else 0)=v:=by
 rw [Jf (Tl 16) (x:=(w-1).toNat) (mem_range.2 ah)]
 ·rw [aq ah]
 ·intro a ha;rw [ak ah]
theorem ado (n:Int):∀ {qs:List aF},(∀ p∈qs,1<=p.who/\p.who<=16)->qs.Pairwise (fun x y=>lT x y=true)->tot (range 16) (fun k=>(posOf ((k:Int)+1) n qs).aZ)=aG (fu n qs)
 | [],_,_=>yq fun a _=>rfl
 | p :: r,h1,h2=>by
  rw [iL] at h2;rw [oZ,<- ado n (fun x hx=>h1 x (by simp [hx])) h2.2];have e:∀ k∈range 16,(posOf ((k:Int)+1) n (p :: r)).aZ=(if p.who=(k:Int)+1 then (if p.inst=n then p.aZ else 0) else 0)+(posOf ((k:Int)+1) n r).aZ:=by
   intro k _;simp only [posOf];by_cases c:p.who=(k:Int)+1
   ·rw [aq c];by_cases b:p.inst=n
    ·rw [aq b,aq (ji.2 ⟨c,b⟩)];rw [iX (qs:=r)]
     ·simp
     ·intro x hx hk;have:=h2.1 x hx;simp only [lT,Sm,Bool.or_eq_true,cU,bL,eH] at this;omega
    ·rw [ak b,ak (fun h=>b (ji.1 h).2)];omega
   ·rw [ak c,ak (fun h=>c (ji.1 h).1)];omega
  rw [nq e,yV,ahv (h1 p (by simp))]
theorem yM {A:Type} (q:A->Bool) (f:A->Int) (x:A) (r:List A):aG (pick q f (x :: r))=(if q x=true then f x else 0)+aG (pick q f r):=by
 simp only [pick,flatMap_cons,gy];congr 1;split
 ·simp [aG]
 ·rfl
theorem TY (n:Int) (f:aF->Int):∀ {g:List aF},(∀ p∈g,1<=p.who/\p.who<=16)->tot (range 16) (fun k=>aG (pick (cE ((k:Int)+1) n) f g))=aG (pick (fun p=>p.inst==n) f g)
 | [],_=>yq fun a _=>rfl
 | p :: r,h1=>by
  rw [yM,<- TY n f (fun x hx=>h1 x (by simp [hx]))];have e:∀ k∈range 16,aG (pick (cE ((k:Int)+1) n) f (p :: r))=(if p.who=(k:Int)+1 then (if (p.inst==n)=true then f p else 0) else 0)+aG (pick (cE ((k:Int)+1) n) f r):=by
   intro k _;rw [yM];congr 1;by_cases c:p.who=(k:Int)+1
   ·rw [aq c];by_cases b:p.inst=n
    ·rw [aq (ji.2 ⟨c,b⟩),aq (by simpa using b)]
    ·rw [ak (fun h=>b (ji.1 h).2),ak (by simpa using b)]
   ·rw [ak c,ak (fun h=>c (ji.1 h).1)]
  rw [nq e,yV,ahv (h1 p (by simp))]
theorem afl {p:aF} (h:qc p=true):(1<=p.who/\p.who<=16)/\(1<=p.inst/\p.inst<=8):=by
 simp only [qc,rN,within,cU,bL] at h;exact h.1
theorem pF {b:aI} {g:List aF} {w n:Int} {p:aF} (h:p∈Nr b g w n):p=⟨w,n,IN b g w n,Uo b g w n⟩ /\ ¬ (IN b g w n=0/\Uo b g w n=0):=by
 unfold Nr at h;split at h
 ·cases h
 ·rename_i a;simp only [cU,eH] at a;exact ⟨ga.1 h,a⟩
theorem aef {b:aI} {g:List aF} {p:aF} (h:p∈Ce b g 16):(∃ q∈b.qs,q.who=p.who/\q.inst=p.inst)\/(∃ q∈g,q.who=p.who/\q.inst=p.inst):=by
 obtain ⟨k,m,_,_,hp⟩:=sH h;obtain ⟨rfl,c⟩:=pF hp;dsimp only;by_cases d:∃ q∈b.qs,q.who=(k:Int)+1/\q.inst=(m:Int)+1
 ·exact .inl d
 by_cases e:∃ q∈g,q.who=(k:Int)+1/\q.inst=(m:Int)+1
 ·exact .inr e
 exfalso;have i:=iX (w:=(k:Int)+1) (n:=(m:Int)+1) (qs:=b.qs) fun p hp a=>d ⟨p,hp,a⟩;have e2:∀ f:aF->Int,pick (cE ((k:Int)+1) ((m:Int)+1)) f g=[]:=fun f=>by
  unfold pick;rw [flatMap_eq_nil_iff];intro x hx;rw [ak];simp only [cE,cU,eH];exact fun a=>e ⟨x,hx,a⟩
 apply c;unfold IN Uo;rw [i,e2,e2];exact ⟨rfl,rfl⟩
theorem Jq (b:aI) (g:List aF):(Ce b g 16).Pairwise (fun x y=>lT x y=true):=by
 rw [show Ce b g 16=rG (fun k=>Up b g ((k:Int)+1) 8) 16 from rfl];refine vv (fun k _=>?_) fun i j c _ x hx y a=>?_
 ·rw [show Up b g ((k:Int)+1) 8=rG (fun m=>Nr b g ((k:Int)+1) ((m:Int)+1)) 8 from rfl];refine vv (fun m _=>x9 (by unfold Nr;split<;>simp)) fun i j c _ x hx y a=>?_;rw [(pF hx).1,(pF a).1];rw [oY];dsimp only;omega
 ·obtain ⟨m,_,hx⟩:=mem_flatMap.1 hx;obtain ⟨m2,_,a⟩:=mem_flatMap.1 a;rw [(pF hx).1,(pF a).1];rw [oY];dsimp only;omega
theorem Ew {b:aI} {g:List aF} (h:nw b g=0):(∀ p∈Ce b g 16,p.okB=true)/\∀ n:Int,1<=n->n<=8->aG (fu n (Ce b g 16))=0:=by
 obtain ⟨l,o,q⟩:=Ex h;have i:=cy.1 (qQ h).1;refine ⟨fun p hp=>?_,fun n c d=>?_⟩
 ·obtain ⟨k,m,r,hm,hp⟩:=sH hp;have a:=Jp q r hm;obtain ⟨rfl,j⟩:=pF hp;simp only [AQ,within,cU,bL] at a;rw [iG];dsimp only;exact ⟨by omega,by omega,a.2.2,a.2.1,j⟩
 ·rw [Zi _ _ _ c d];have e:∀ k∈range 16,IN b g ((k:Int)+1) n=(posOf ((k:Int)+1) n b.qs).aZ+aG (pick (cE ((k:Int)+1) n) aF.aZ g):=fun k _=>rfl;rw [nq e,yV,ado n (fun p hp=>(iG.1 (i.ok p hp)).1) i.pw,TY n aF.aZ (fun p hp=>(afl (dn.1 l p hp)).1),i.level n c d];have:=dn.1 o (n-1).toNat (mem_range.2 ah);rw [show (((n-1).toNat:Nat):Int)+1=n by omega] at this;simpa using this
theorem Wd {b:aI} {g:List aF} (h:nw b g=0):(wS b g).okB=true:=by
 have a:=cy.1 (qQ h).1;rw [(qQ h).2];obtain ⟨c,d⟩:=Ew h;exact cy.2 ⟨c,Jq b g,d,a.tok,a.tpw,a.tl,a.n0,a.n1⟩
theorem X4 {b:aI} {t:aL} (h:gO b t=0):b.okB=true/\t.okB=true/\b.ts.length < 128/\b.next≠1099511627776/\nw b (fT t false)=0:=by
 unfold gO at h;split at h
 case isFalse=>cases h
 rename_i a;split at h
 case isFalse=>cases h
 rename_i c;split at h
 ·cases h
 rename_i h3;split at h
 ·cases h
 rename_i d;exact ⟨a,c,by omega,d,h⟩
theorem NT {b:aI} {t:aL} (h:gO b t=0):(jf b t).okB=true:=by
 obtain ⟨d,e,h3,h4,g⟩:=X4 h;have c:=cy.1 d;obtain ⟨j,l⟩:=Ew g;have n0:=c.n0;have n1:=c.n1;have a:∀ x∈b.ts,(1<=x.no/\x.no<=b.next)/\x.okB=true:=fun x hx=>by
  have:=c.tok x hx;simp only [mJ,cU,iK,gM] at this;exact ⟨by omega,this.1⟩
 unfold jf;rw [aq h];refine cy.2 ⟨j,Jq _ _,l,fun x hx=>?_,?_,by dsimp only;simp;omega,by dsimp only;omega,by dsimp only;omega⟩
 ·simp only [mJ,cU,iK,gM];rcases mem_append.1 hx with hx | hx
  ·have:=a x hx;exact ⟨this.2,by omega,by omega⟩
  ·obtain rfl:=ga.1 hx;exact ⟨e,by dsimp only;omega,by dsimp only;omega⟩
 ·dsimp only;rw [pairwise_append];refine ⟨c.tpw,by simp,fun x hx y i=>?_⟩;obtain rfl:=ga.1 i;have:=a x hx;dsimp only;omega
theorem J3 {b:aI} {n:Int} (h:¬ lR n b.ts < 0):bN n b.ts∈b.ts/\(lR n b.ts).toNat < b.ts.length/\b.ts[(lR n b.ts).toNat]?=some (bN n b.ts):=by
 obtain ⟨i,a,c,_⟩:=xB h;unfold bN;rw [c,Int.toNat_natCast,getD_eq_getElem?_getD,fO a];exact ⟨ck a,a,rfl⟩
theorem UA {b:aI} {n:Int} (h:fY b n=0):(ct b n).okB=true:=by
 obtain ⟨c,d,e⟩:=AV h;have a:=cy.1 c;obtain ⟨p,q⟩:=Ew e;obtain ⟨i,l,o⟩:=J3 d;unfold ct;rw [aq h];refine cy.2 ⟨p,Jq _ _,q,fun x hx=>?_,?_,by dsimp only;simp only [Vj,length_set];exact a.tl,a.n0,a.n1⟩
 ·rcases mem_or_eq_of_mem_set hx with hx | rfl
  ·exact a.tok x hx
  ·exact (show mJ b.next (bN n b.ts)=true from a.tok _ i)
 ·refine Ti (no:=aL.no) ?_ a.tpw;dsimp only;unfold Vj;rw [map_set];refine ext_getElem? fun j=>?_;rw [getElem?_set];split
  ·rename_i g;subst g;rw [getElem?_map,o];simp [l]
  ·rfl
theorem GY {b:aI} {n q p:Int} (h:uk b n q p=0):fY b n=0/\gO (ct b n) { bN n b.ts with aZ:=q,aH:=p }=0:=by
 unfold uk at h;split at h
 ·exact ⟨by assumption,h⟩
 ·rename_i a;exact absurd h a
theorem RG {b:aI} {n q p:Int} (h:uk b n q p=0):(pQ b n q p).okB=true:=by
 obtain ⟨a,c⟩:=GY h;unfold pQ;rw [aq a];exact NT c
theorem Tt {r:az}:∀ {l:List aF},uJ r l=0->∀ p∈l,LA r p=0
 | [],_,_,h=>by cases h
 | q :: t,h,p,hp=>by
  simp only [uJ] at h;split at h
  ·rcases mem_cons.1 hp with rfl | hp
   ·assumption
   ·exact Tt h p hp
  ·rename_i a;exact absurd h a
theorem afx {r:az} {b:aI} (h:wO r b=0):r.okB=true/\b.okB=true/\∀ p∈b.qs,LA r p=0:=by
 unfold wO at h;split at h
 ·rename_i a;rw [cU] at a;exact ⟨a.1,a.2,Tt h⟩
 ·cases h
theorem acP {r:az} {p:aF} (h:LA r p=0):bJ r p.inst=true/\bQ (lq p (bA r p.inst).mult (cG (bA r p.inst)))=true/\bQ (p.aZ*cG (bA r p.inst))=true:=by
 unfold LA at h;split at h
 case isFalse=>cases h
 rename_i b;split at h
 ·cases h
 split at h
 case isFalse=>cases h
 rename_i a;rw [cU] at a;exact ⟨b,a⟩
theorem yP {r:az} {p x:aF} (h:x∈sv r p):x=⟨p.who,p.inst,p.aZ,p.aZ*cG (bA r p.inst)⟩ /\ ¬ (p.aZ=0/\p.aZ*cG (bA r p.inst)=0):=by
 unfold sv at h;split at h
 ·cases h
 ·rename_i a;simp only [cU,eH] at a;exact ⟨ga.1 h,a⟩
theorem afw {r:az} {b:aI} (h:wO r b=0):(D8 r b).okB=true:=by
 obtain ⟨_,o,s⟩:=afx h;have a:=cy.1 o;unfold D8;rw [aq h];refine cy.2 ⟨fun x hx=>?_,?_,fun n c d=>?_,a.tok,a.tpw,a.tl,a.n0,a.n1⟩
 ·obtain ⟨p,hp,hx⟩:=mem_flatMap.1 hx;obtain ⟨rfl,g⟩:=yP hx;have:=iG.1 (a.ok p hp);rw [iG];exact ⟨this.1,this.2.1,this.2.2.1,(acP (s p hp)).2.2,g⟩
 ·refine QB (f:=sv r) a.pw (fun p _=>x9 (by unfold sv;split<;>simp)) fun p q _ _ i x hx y u=>?_;rw [(yP hx).1,(yP u).1];exact i
 ·dsimp only;rw [BO,<- a.level n c d];have e:∀ l:List aF,tot l (fun p=>aG (fu n (sv r p)))=aG (fu n l):=fun l=>by
   induction l with
   | nil=>rfl
   | cons p t ih =>
    rw [sy,ih,oZ];congr 1;unfold sv;split
    ·rename_i j;simp only [cU,eH] at j;rw [j.1];split<;>rfl
    ·rw [oZ];simp [fu,aG]
  exact e b.qs
theorem XO {a b c:aB} (d:bO a b=true) (e:bO b c=true):bO a c=true:=by
 simp only [bO,Bool.or_eq_true,cU,bL,eH] at d e |-;omega
theorem jX {a b c:aO} (d:fW a b=true) (e:fW b c=true):fW a c=true:=by
 simp only [fW,bL] at d e |-;omega
theorem je {xs:List aB}:qt cj bO xs=true ↔ (∀ x∈xs,cj x=true)/\xs.Pairwise (fun a b=>bO a b=true):=jA (lt:=bO) XO
theorem ij {x:aB}:cj x=true ↔ (1<=x.who/\x.who<=16)/\(0<=x.cur/\x.cur<=2)/\(1<=x.br/\x.br<=4611686018427387904)/\0<=x.till/\x.till<=1099511627776:=by
 simp only [cj,within,cU,bL];omega
theorem AZ {x:aE}:Cv x=true ↔ (1<=x.who/\x.who<=16)/\(0<=x.cur/\x.cur<=2)/\0<=x.br/\x.br<=4611686018427387904:=by
 simp only [Cv,within,cU,bL];omega
theorem iS {w c:Int} {xs:List aB} (h:¬ eO w c xs < 0):qq w c xs∈xs/\(qq w c xs).who=w/\(qq w c xs).cur=c:=by
 obtain ⟨i,b,d,a⟩:=JF h;unfold qq;rw [d,Int.toNat_natCast,getD_eq_getElem?_getD,fO b];simp only [l8,cU,eH] at a;exact ⟨ck b,a⟩
theorem yj {xs:List aB} {x y:aB} {w c:Int} (h:y∈Nb xs x w c):(y.who=w/\y.cur=c)/\((y=x/\0 < x.br)\/y∈xs):=by
 unfold Nb at h;split at h
 ·rename_i a;simp only [cU,eH] at a;split at h
  ·rename_i b;obtain rfl:=ga.1 h;exact ⟨a,.inl ⟨rfl,b⟩⟩
  ·cases h
 ·split at h
  ·cases h
  ·rename_i d;obtain rfl:=ga.1 h;have:=iS d;exact ⟨this.2,.inr this.1⟩
theorem LI {xs:List aB} {x y:aB} (h:y∈ym xs x 16):(y=x/\0 < x.br)\/y∈xs:=by
 obtain ⟨k,_,h⟩:=fR.1 h;obtain ⟨c,_,h⟩:=fR.1 h;exact (yj h).2
theorem QM {xs:List aB} {x:aB} (h:qt cj bO xs=true) (hx:0 < x.br->cj x=true):qt cj bO (ym xs x 16)=true:=by
 rw [je] at h |-;refine ⟨fun y l=>?_,?_⟩
 ·rcases LI l with ⟨rfl,d⟩ | l
  ·exact hx d
  ·exact h.1 y l
 ·unfold ym;refine vv (fun k _=>?_) fun i j g _ a d b e=>?_
  ·unfold afD;refine vv (fun c _=>x9 (TF _ _ _ _)) fun i j g _ a d b e=>?_;have n:=(yj d).1;have o:=(yj e).1;simp only [bO,Bool.or_eq_true,cU,bL,eH];omega
  ·obtain ⟨_,_,d⟩:=fR.1 d;obtain ⟨_,_,e⟩:=fR.1 e;have n:=(yj d).1;have o:=(yj e).1;simp only [bO,Bool.or_eq_true,cU,bL,eH];omega
theorem Wh {xs:List aB} {d:aE} {t:Int} (h:qt cj bO xs=true):qt cj bO (Mk xs d t)=true/\∀ y∈Mk xs d t,y.who=d.who\/y∈xs:=by
 unfold Mk;split
 case isFalse=>exact ⟨rfl,fun y b=>by cases b⟩
 rename_i c;unfold AS at c;rw [aq h] at c;split at c
 case isFalse=>cases c
 rename_i a;rw [cU] at a;obtain ⟨a,e⟩:=a;rw [AZ] at a;simp only [within,cU,bL] at e;refine ⟨QM h fun g=>?_,fun y b=>?_⟩
 ·dsimp only at g;rw [ij];dsimp only;refine ⟨a.1,a.2.1,by omega,?_⟩;split
  ·exact e
  ·rename_i i;exact (ij.1 ((je.1 h).1 _ (iS i).1)).2.2.2
 ·rcases LI b with ⟨rfl,_⟩ | b
  ·exact .inl rfl
  ·exact .inr b
theorem ab2 {xs:List aB} {d:aE} (h:qt cj bO xs=true):qt cj bO (AD xs d)=true/\∀ y∈AD xs d,∃ x∈xs,y.who=x.who:=by
 unfold AD;split
 case isFalse=>exact ⟨rfl,fun y c=>by cases c⟩
 rename_i e;unfold G8 at e;rw [aq h] at e;split at e
 case isFalse=>cases e
 rename_i g;rw [AZ] at g;refine ⟨QM h fun a=>?_,fun y c=>?_⟩
 ·unfold Ou at a |-;split at a
  ·dsimp only at a;omega
  ·rename_i b;rw [ak b];have hx:=ij.1 ((je.1 h).1 _ (iS b).1);dsimp only at a;rw [ij];dsimp only;exact ⟨hx.1,hx.2.1,by omega,hx.2.2.2⟩
 ·rcases LI c with ⟨rfl,a⟩ | c
  ·unfold Ou at a |-;split at a
   ·dsimp only at a;omega
   ·rename_i b;rw [ak b];exact ⟨_,(iS b).1,rfl⟩
  ·exact ⟨y,c,rfl⟩
theorem vN {xs:List aB} {ws:List Int} {y:aB}:y∈eI xs ws ↔ y∈xs/\Ob ws y.who=false:=by
 unfold eI;rw [mem_flatMap];constructor
 ·rintro ⟨x,hx,h⟩;split at h
  ·cases h
  ·rename_i c;obtain rfl:=ga.1 h;exact ⟨hx,by simpa using c⟩
 ·rintro ⟨a,b⟩;exact ⟨y,a,by rw [b];simp⟩
theorem VV {A:Type} {R:A->A->Prop} {q:A->Bool} {xs:List A} (h:xs.Pairwise R):(xs.flatMap fun x=>if q x=true then [] else [x]).Pairwise R:=by
 refine QB h (fun a _=>x9 (by split<;>simp)) fun a b _ _ c x hx y d=>?_;split at hx
 ·cases hx
 split at d
 ·cases d
 obtain rfl:=ga.1 hx;obtain rfl:=ga.1 d;exact c
theorem Hz {xs:List aB} {ws:List Int} (h:qt cj bO xs=true):qt cj bO (eI xs ws)=true:=by
 rw [je] at h |-;exact ⟨fun y a=>h.1 y (vN.1 a).1,VV h.2⟩
structure kL (r:az) (qs:List aF) (ts:List aL) (ps:List fG) (cs:List aB):Prop where
 qs:∀ p∈qs,(bM r p.who=1\/bM r p.who=2)/\bJ r p.inst=true
 ts:∀ t∈ts,bM r t.jK≠0/\bM r t.gK≠0/\bJ r t.inst=true
 ps:∀ p∈ps,(bM r p.who=1\/bM r p.who=2)/\mT r p.fq=true
 cs:∀ c∈cs,bM r c.who=1
structure af.right (s:af):Prop where
 NI:(0<=s.now/\s.now<=1099511627776)/\(0<=s.day/\s.day<=1099511627776)/\0<=s.phase/\s.phase<=2
 aj:s.aj.okB=true
 book:s.book.okB=true
 bu:s.bu.okB=true
 ps:mN s.ps=true
 calls:qt cj bO s.calls=true
 known:kL s.aj s.book.qs s.book.ts s.ps s.calls
 bl:s.bH.length<=32
 bH:∀ b∈s.bH,wW b=true
 aA:qt mg fW s.aA=true
theorem eW {s:af}:fJ s=true ↔ s.right:=by
 simp only [fJ,JJ,xN,Vs,Ni,MT,GU,He,within,cU,Bool.or_eq_true,iK,bL,gM,eH,beq_eq_false_iff_ne,dn,ne_eq];constructor
 ·rintro ⟨h0,a,b,c,d,e,⟨k1,k2,k3,g⟩,h7,h8,h9⟩;exact ⟨by omega,a,b,c,d,e,⟨k1,k2,k3,g⟩,by omega,h8,h9⟩
 ·intro h;have:=h.bl;have:=h.NI;exact ⟨by omega,h.aj,h.book,h.bu,h.ps,h.calls,⟨h.known.qs,h.known.ts,h.known.ps,h.known.cs⟩,by omega,h.bH,h.aA⟩
theorem kL.ext {r a:az} {qs ts ps cs} (h:kL r qs ts ps cs) (e:r.ext a):kL a qs ts ps cs:=by
 have b:∀ w,(bM r w=1\/bM r w=2)->bM a w=1\/bM a w=2:=fun w i=>by
  rw [e.st w ah];exact i
 refine ⟨fun p hp=>⟨b _ (h.qs p hp).1,e.inst _ (h.qs p hp).2⟩,fun t g=>?_,fun p hp=>⟨b _ (h.ps p hp).1,e.ast _ (h.ps p hp).2⟩,fun c d=>?_⟩
 ·have:=h.ts t g;rw [e.st _ this.1,e.st _ this.2.1];exact ⟨this.1,this.2.1,e.inst _ this.2.2⟩
 ·have:=h.cs c d;rw [e.st _ ah];exact this
theorem vA {s:af} (h:s.right) {a:az} (b:a.okB=true/\s.aj.ext a):({ s with aj:=a }:af).right:=
 ⟨h.NI,b.1,h.book,h.bu,h.ps,h.calls,h.known.ext b.2,h.bl,h.bH,h.aA⟩
theorem Zl {s:af} (h:s.right) {l:bE} (a:l.okB=true):({ s with bu:=l }:af).right:=
 ⟨h.NI,h.aj,h.book,a,h.ps,h.calls,h.known,h.bl,h.bH,h.aA⟩
theorem Tq {s:af} (h:s.right) {cs:List aB} (a:qt cj bO cs=true) (b:∀ c∈cs,bM s.aj c.who=1):({ s with calls:=cs }:af).right:=
 ⟨h.NI,h.aj,h.book,h.bu,h.ps,a,⟨h.known.qs,h.known.ts,h.known.ps,b⟩,h.bl,h.bH,h.aA⟩
theorem rq {s:af} (h:s.right) (g:List aU):(sF s g).right:=by
 unfold sF;split
 ·rename_i a;exact Zl h (S9 a)
 ·exact h
theorem Lt {s:af} (h:s.right) (d:aE):({ s with calls:=AD s.calls d }:af).right:=by
 obtain ⟨a,b⟩:=ab2 (d:=d) h.calls;refine Tq h a fun c e=>?_;obtain ⟨x,hx,g⟩:=b c e;rw [g];exact h.known.cs x hx
theorem Y4 {s:af} (h:s.right) (c:aN):(wM s c).1.right:=by
 unfold wM;split
 case isFalse=>exact h
 split
 case isFalse=>exact h
 split
 ·exact rq h _
 split
 ·split
  ·exact Lt (rq h _) _
  ·exact rq h _
 ·exact rq h _
theorem aaK {r:az} {w:Int} (h:HE r w=0):bM r w=1:=by
 unfold HE at h;split at h
 ·split at h
  ·assumption
  ·cases h
 ·cases h
theorem Qu {s:af} (h:s.right) (c:aN) (n:Int):(oq s c n).1.right:=by
 unfold oq;split
 case isFalse=>exact h
 split
 case isFalse=>exact h
 rename_i hm;rw [cU] at hm;split
 case isFalse=>exact h
 rename_i d;split
 case isFalse=>exact h
 rename_i a;have b:=PC a;have key:({ s with ps:=eP s.ps c.who c.no n }:af).right:=by
  refine ⟨h.NI,h.aj,h.book,h.bu,jB.2 b,h.calls,⟨h.known.qs,h.known.ts,fun p hp=>?_,h.known.cs⟩,h.bl,h.bH,h.aA⟩;dsimp only at hp |-;unfold eP at hp;rw [aq a] at hp;rcases IS hp with hp | ⟨rfl,_⟩
  ·exact h.known.ps p hp
  ·exact ⟨.inl d,hm.2⟩
 split
 ·exact key
 split
 ·exact Lt key _
 ·exact key
theorem Om {t:aL} {b:Bool} {p:aF} (h:p∈fT t b):(p.who=t.jK\/p.who=t.gK)/\p.inst=t.inst:=by
 unfold fT at h;split at h
 ·simp only [mem_cons,not_mem_nil,or_false] at h;rcases h with rfl | rfl<;>simp
 ·cases h
theorem Gg {r:az} {b:aI} {g:List aF} {ts ps cs} (h:kL r b.qs ts ps cs) (d:∀ p∈g,(bM r p.who=1\/bM r p.who=2)/\bJ r p.inst=true):kL r (Ce b g 16) ts ps cs:=by
 refine ⟨fun p hp=>?_,h.ts,h.ps,h.cs⟩;rcases aef hp with ⟨q,c,a,e2⟩ | ⟨q,c,a,e2⟩
 ·rw [<- a,<- e2];exact h.qs q c
 ·rw [<- a,<- e2];exact d q c
theorem BR {s:af} (h:s.right) {b:aI} (a:b.okB=true) (c:kL s.aj b.qs b.ts s.ps s.calls):({ s with book:=b }:af).right:=
 ⟨h.NI,h.aj,a,h.bu,h.ps,h.calls,c,h.bl,h.bH,h.aA⟩
theorem ZV {r:az} {t:aL} (h:vL r t=0):bM r t.jK=1/\bM r t.gK=1/\bJ r t.inst=true:=by
 unfold vL at h;split at h
 case isFalse=>cases h
 split at h
 case isFalse=>cases h
 split at h
 case isFalse=>cases h
 rename_i b;split at h
 ·cases h
 split at h
 case isFalse=>cases h
 rename_i a;simp only [cU,eH] at b a;exact ⟨a.1,a.2,b.1⟩
theorem GZ {s:af} {b:aI} {t:aL} {ps cs} (j:gO b t=0) (a:kL s.aj b.qs b.ts ps cs) (d:bM s.aj t.jK=1) (i:bM s.aj t.gK=1) (c:bJ s.aj t.inst=true):kL s.aj (jf b t).qs (jf b t).ts ps cs:=by
 unfold jf;rw [aq j];have l:=Gg (g:=fT t false) a fun p hp=>by
  have:=Om hp;rw [this.2];exact ⟨by rcases this.1 with e | e<;>rw [e]<;>simp [d,i],c⟩
 refine ⟨l.qs,fun x hx=>?_,a.ps,a.cs⟩;rcases mem_append.1 hx with hx | hx
 ·exact a.ts x hx
 ·obtain rfl:=ga.1 hx;exact ⟨by dsimp only;omega,by dsimp only;omega,c⟩
theorem Cm {s:af} {b:aI} {n:Int} {ps cs} (c:fY b n=0) (a:kL s.aj b.qs b.ts ps cs) (d:bM s.aj (bN n b.ts).jK=1) (i:bM s.aj (bN n b.ts).gK=1):kL s.aj (ct b n).qs (ct b n).ts ps cs:=by
 have hm:=(J3 (AV c).2.1).1;have j:=(a.ts _ hm).2.2;unfold ct;rw [aq c];have l:=Gg (g:=fT (bN n b.ts) true) a fun p hp=>by
  have:=Om hp;rw [this.2];exact ⟨by rcases this.1 with e | e<;>rw [e]<;>simp [d,i],j⟩
 refine ⟨l.qs,fun x hx=>?_,a.ps,a.cs⟩;rcases mem_or_eq_of_mem_set hx with hx | rfl
 ·exact a.ts x hx
 ·have:=a.ts _ hm;exact ⟨this.1,this.2.1,this.2.2⟩
theorem TZ {s:af} (h:s.right) (c:aN) (a:(nD s c).2.2=0):(nD s c).1.right:=by
 unfold nD at a |-;split
 ·rename_i b;rw [aq b] at a;split
  ·rename_i j;rw [aq j] at a;obtain ⟨n,t2,t3⟩:=ZV j;exact BR h (NT a) (GZ (s:=s) a h.known n t2 t3)
  ·exact h
 rename_i b;rw [ak b] at a;split
 ·rename_i b;rw [aq b] at a;exact vA h (afQ a)
 rename_i b;rw [ak b] at a;split
 ·exact h
 rename_i i;rw [ak i] at a;split
 case isFalse=>exact h
 rename_i e;rw [aq e] at a;have d:=aaK e.1;have a2:=aaK e.2;split
 ·rename_i b;rw [aq b] at a;exact BR h (UA a) (Cm (s:=s) a h.known d a2)
 ·rename_i b;rw [ak b] at a;obtain ⟨g,e2⟩:=GY a;have k1:=Cm (s:=s) g h.known d a2;have l:=(h.known.ts _ (J3 i).1).2.2;refine BR h (RG a) ?_;unfold pQ;rw [aq g];exact GZ (s:=s) e2 k1 d a2 l
theorem XJ {s:af} (h:s.right) (c:aN):(uW s c).1.right:=by
 unfold uW;split
 case isFalse=>exact h
 rename_i d;split
 case isFalse=>exact h
 rename_i hm;split
 ·exact h
 split
 case isFalse=>exact h
 rename_i hs;split
 ·exact h
 rename_i hl;simp only [cU] at hm d;have r1:=QZ h.aj (w:=c.who) (by unfold bM;omega);have r2:=QZ h.aj (w:=c.other) (by unfold bM;omega);have r3:=BC hm.2.2;have r4:=u6 ((cr.1 h.aj).2.1.1 _ r3.1);rw [r3.2] at r4;refine ⟨h.NI,h.aj,h.book,h.bu,h.ps,h.calls,h.known,by dsimp only;simp;omega,fun b a=>?_,h.aA⟩;rcases mem_append.1 a with a | a
 ·exact h.bH b a
 ·obtain rfl:=ga.1 a;simp only [wW,rN,d.1,d.2,within,cU,bL];simp only [within,cU,bL] at d;omega
def eK (c:aB):Int:=c.who*4+c.cur
theorem aen {a b:aB} (ha:0<=a.cur/\a.cur<=2) (hb:0<=b.cur/\b.cur<=2):bO a b=true ↔ eK a < eK b:=by
 simp only [bO,eK,Bool.or_eq_true,cU,bL,eH];omega
theorem rC {xs:List aB} (h:qt cj bO xs=true):xs.Pairwise (fun a b=>eK a < eK b):=by
 obtain ⟨c,d⟩:=je.1 h;refine d.imp_of_mem fun {a b} ha hb hab=>?_;exact (aen (ij.1 (c a ha)).2.1 (ij.1 (c b hb)).2.1).1 hab
theorem NG {w c:Int} {xs:List aB} (hp:xs.Pairwise fun a b=>eK a < eK b) {y:aB} (d:y∈xs) (q:y.who=w/\y.cur=c):¬ eO w c xs < 0/\qq w c xs=y:=by
 have p:¬ eO w c xs < 0:=by
  intro h;obtain ⟨i,hi,rfl⟩:=getElem_of_mem d;have key:∀ {xs:List aB},eO w c xs < 0->∀ y∈xs,l8 w c y=false:=by
   intro xs;induction xs with
   | nil=>intro _ y d;cases d
   | cons x r ih =>
    intro h y d;simp only [eO] at h;split at h
    ·omega
    ·rename_i e;split at h
     ·rename_i g;rcases mem_cons.1 d with rfl | d
      ·simpa using e
      ·exact ih g y d
     ·omega
  have:=key h _ d;simp only [l8,Bool.and_eq_false_iff,beq_eq_false_iff_ne] at this;omega
 refine ⟨p,?_⟩;have n:=iS p;have u:∀ {l:List aB},l.Pairwise (fun a b=>eK a < eK b)->∀ a∈l,∀ b∈l,eK a=eK b->a=b:=by
  intro l;induction l with
  | nil=>intro _ a j;cases j
  | cons x r ih =>
   intro hp a j b t o;obtain ⟨s,v⟩:=iL.1 hp;rcases mem_cons.1 j with e | e<;>rcases mem_cons.1 t with g | g
   ·rw [e,g]
   ·have:=s b g;rw [e] at o;omega
   ·have:=s a e;rw [g] at o;omega
   ·exact ih v a e b g o
 exact u hp _ n.1 _ d (by simp only [eK];rw [n.2.1,n.2.2,q.1,q.2])
theorem Ed {xs:List aB} {x y:aB} (h:qt cj bO xs=true) (hx:(1<=x.who/\x.who<=16)/\0<=x.cur/\x.cur<=2):y∈ym xs x 16 ↔ (y=x/\0 < x.br)\/(y∈xs /\ ¬ eK y=eK x):=by
 have hp:=rC h;have j:=(je.1 h).1;constructor
 ·intro a;obtain ⟨k,_,a⟩:=fR.1 a;obtain ⟨c,_,a⟩:=fR.1 a;unfold Nb at a;split at a
  ·split at a
   ·rename_i g;exact .inl ⟨ga.1 a,g⟩
   ·cases a
  ·rename_i i;split at a
   ·cases a
   ·rename_i b;obtain rfl:=ga.1 a;have hm:=iS b;refine .inr ⟨hm.1,fun n=>i ?_⟩;have:=(ij.1 (j _ hm.1)).2.1;simp only [eK,hm.2.1,hm.2.2] at n this;simp only [cU,eH];omega
 ·intro a;have d:∀ w c:Int,(1<=w/\w<=16)->(0<=c/\c<=2)->y∈Nb xs x w c->y∈ym xs x 16:=by
   intro w c hw b a;refine fR.2 ⟨(w-1).toNat,by omega,fR.2 ⟨c.toNat,by omega,?_⟩⟩;rw [show (((w-1).toNat:Nat):Int)+1=w by omega,show ((c.toNat:Nat):Int)=c by omega];exact a
  rcases a with ⟨rfl,g⟩ | ⟨a,hk⟩
  ·refine d y.who y.cur hx.1 hx.2 ?_;unfold Nb;rw [aq (by simp),aq g];simp
  ·have b:=ij.1 (j y a);refine d y.who y.cur b.1 b.2.1 ?_;obtain ⟨l,e2⟩:=NG hp a ⟨rfl,rfl⟩;unfold Nb
   rw [ak (fun e=>hk (by
    simp only [cU,eH] at e
    simp only [eK];rw [e.1,e.2])),ak l,e2]
   simp
section
set_option linter.unusedSectionVars false
variable {xs:List aB} {x:aB} (h:qt cj bO xs=true) (hx:(1<=x.who/\x.who<=16)/\0<=x.cur/\x.cur<=2) {k:Nat}
include h hx
theorem I9 (c:0 < x.br->cj x=true):(ym xs x 16).Pairwise (fun a b=>eK a < eK b):=rC (QM h c)
theorem afn (g:k < xs.length) (n:eK xs[k]=eK x) (h0:x.br=0):xs.take k++xs.drop (k+1)=ym xs x 16:=by
 have hp:=rC h;refine Hq (no:=eK) ?_ (I9 h hx fun e=>by omega) fun y=>?_
 ·rw [pairwise_append];refine ⟨hp.sublist (take_sublist _ _),hp.sublist (drop_sublist _ _),fun a e b l=>?_⟩;obtain ⟨i,c,rfl⟩:=getElem_of_mem e;obtain ⟨j,o,rfl⟩:=getElem_of_mem l;rw [dY] at c;rw [fj] at o;rw [getElem_take,getElem_drop];exact qo.1 hp _ _ ah ah ah
 ·rw [Ed h hx,mem_append];have d:=qo.1 hp;constructor
  ·rintro (hy | hy)
   ·obtain ⟨i,c,rfl⟩:=getElem_of_mem hy;rw [dY] at c;rw [getElem_take];have:=d i k ah g ah;exact .inr ⟨ck _,by omega⟩
   ·obtain ⟨i,c,rfl⟩:=getElem_of_mem hy;rw [fj] at c;rw [getElem_drop];have:=d k (k+1+i) g ah ah;exact .inr ⟨ck _,by omega⟩
  ·rintro (⟨_,e⟩ | ⟨hy,hn⟩)
   ·omega
   ·obtain ⟨i,c,rfl⟩:=getElem_of_mem hy;rcases Nat.lt_trichotomy i k with hik | rfl | hik
    ·exact .inl (mem_iff_getElem.2 ⟨i,by rw [dY];omega,by rw [getElem_take]⟩)
    ·exact (hn n).elim
    ·refine .inr (mem_iff_getElem.2 ⟨i-(k+1),by rw [fj];omega,?_⟩);rw [getElem_drop];congr 1;omega
theorem afp (n:k < xs.length) (d:eK xs[k]=eK x) (p:cj x=true):xs.set k x=ym xs x 16:=by
 have hp:=rC h;have b:=qo.1 hp;have c:0 < x.br:=by have:=ij.1 p;omega
 have o:∀ i (a:i < xs.length),eK ((xs.set k x)[i]'(by rw [length_set];exact a))=eK xs[i]:=fun i a=>by
  rw [getElem_set];split
  ·rename_i e;subst e;exact d.symm
  ·rfl
 refine Hq (no:=eK) (qo.2 fun i j a l g=>?_) (I9 h hx fun _=>p) fun y=>?_
 ·rw [length_set] at a l;rw [o i a,o j l];exact b i j a l g
 ·rw [Ed h hx,mem_iff_getElem];constructor
  ·rintro ⟨i,a,rfl⟩;rw [length_set] at a;rw [getElem_set];split
   ·exact .inl ⟨rfl,c⟩
   ·rename_i e;refine .inr ⟨ck _,fun q=>?_⟩;rw [<- d] at q;rcases Nat.lt_or_gt_of_ne e with hh | hh
    ·have:=b k i n a hh;omega
    ·have:=b i k a n hh;omega
  ·rintro (⟨rfl,_⟩ | ⟨hy,hne⟩)
   ·exact ⟨k,by rw [length_set];exact n,by rw [getElem_set];simp⟩
   ·obtain ⟨i,a,rfl⟩:=getElem_of_mem hy;refine ⟨i,by rw [length_set];exact a,?_⟩;rw [getElem_set,ak];rintro rfl;exact hne d
theorem afo (hk:k<=xs.length) (n:∀ i (d:i < xs.length),i < k->eK xs[i] < eK x) (l:∀ i (d:i < xs.length),k<=i->eK x < eK xs[i]) (q:cj x=true):xs.take k++[x]++xs.drop k=ym xs x 16:=by
 have hp:=rC h;have e:0 < x.br:=by have:=ij.1 q;omega
 have o:∀ y∈xs.take k,eK y < eK x:=fun y c=>by
  obtain ⟨i,d,rfl⟩:=getElem_of_mem c;rw [dY] at d;rw [getElem_take];exact n i ah ah
 have j:∀ y∈xs.drop k,eK x < eK y:=fun y c=>by
  obtain ⟨i,d,rfl⟩:=getElem_of_mem c;rw [fj] at d;rw [getElem_drop];exact l _ ah ah
 refine Hq (no:=eK) ?_ (I9 h hx fun _=>q) fun y=>?_
 ·rw [cQ,pairwise_append];refine ⟨hp.sublist (take_sublist _ _),iL.2 ⟨j,hp.sublist (drop_sublist _ _)⟩,fun a p b g=>?_⟩;rcases mem_cons.1 g with rfl | g
  ·exact o a p
  ·have:=o a p;have:=j b g;omega
 ·rw [Ed h hx,mem_append,mem_append,ga];constructor
  ·rintro ((c | rfl) | c)
   ·exact .inr ⟨mem_of_mem_take c,by have:=o y c;omega⟩
   ·exact .inl ⟨rfl,e⟩
   ·exact .inr ⟨mem_of_mem_drop c,by have:=j y c;omega⟩
  ·rintro (⟨rfl,_⟩ | ⟨c,_⟩)
   ·exact .inl (.inr rfl)
   ·rw [<- jY k xs,mem_append] at c;rcases c with c | c
    ·exact .inl (.inl c)
    ·exact .inr c
theorem acK (b:∀ y∈xs,¬ eK y=eK x) (h0:x.br=0):xs=ym xs x 16:=by
 refine Hq (no:=eK) (rC h) (I9 h hx fun c=>by omega) fun y=>?_;rw [Ed h hx];constructor
 ·intro a;exact .inr ⟨a,b y a⟩
 ·rintro (⟨_,c⟩ | ⟨a,_⟩)
  ·omega
  ·exact a
end
theorem vB (r:az) (h:r.lp):Sq 144 [] [.agg r.cells] [.own 3 (r.ms.map au.cells)] (.agg [.ref 0,.sl 12 (r.ns.map aC.cells),.sl 4 (r.xs.map ay.cells)]):=by
 obtain ⟨a,b,c⟩:=h;have c1:=vS r.ms a;have c2:=rD r.ns b;have c3:=qu r.xs c;simp only [az.cells];refine bf 13 1 [.cell 2 28] mixed func144 ?_;refine so aJ c1 ?_;refine sc aJ c2 ?_;exact jW aJ c3
def jE (x:aO):Prop:=x.r.xy.length < 2 ^ 30/\x.r.falls.length < 2 ^ 30
theorem JL (l:List aO) (hl:l.length < 2 ^ 30) (q:∀ x∈l,jE x):Sq 140 [] [.sl 7 (l.map aO.cells)] [.own 7 (l.map aO.cells)] (.ref 0):=by
 refine bf 30 1 [.tmp 2] mixed func140 ?_;refine s0 ?_;refine dP ?_;refine aM.wv l.length [6,7] [128] (fun i=>[(8,.I i),(3,.ref 448)]) (fun i=>[(448,.own 7 ((l.take i).map aO.cells))]) ?_ ?_ ?_
 ·simp only [go_sem,seval]<;>simp
 ·intro i _ d e j _;have hm:=aV (c:=aO.cells) l d;obtain ⟨o,p⟩:=q _ (ck d);have hli:(i:Int) < (l.length:Int):=ah
  have a:(l.take (i+1)).map aO.cells=(l.take i).map aO.cells++[aO.cells l[i]]:=by rw [l7 d,jq];rfl
  have b:((l.take i).map aO.cells).length=i:=by simp;omega
  obtain ⟨x,hx⟩:=aQ (l[i]);rw [<- hx] at hm o p a;have c1:=At x.r.xy o;have c2:=xm x.r.falls p;obtain ⟨O,n⟩:=aQ ((l.take i).map aO.cells);rw [<- n] at a b |-;simp only [aO.cells] at hm a;clear hx n q;refine sc (a2 e hm) c1 ?_;refine sc (a2 b j) c2 ?_;refine dP ?_;refine av.v d ?_;exact fL a
 ·intro _ g _;simp only [go_sem,seval,g,jr]
theorem vT (l:List aO) (a:l.length < 2 ^ 30) (b:∀ x∈l,jE x):Sq 140 [] [.sl 7 (l.map aO.cells)] [] (.sl 7 (l.map aO.cells)):=by
 refine Spec.frozen (JL l a b) [0] rfl ?_;intro r;rcases r with _ | r<;>rfl
theorem qS (s:af) (h:s.small) (n:∀ x∈s.aA,jE x):Sq 56 [] [.agg s.cells] [] (.agg s.cells):=by
 obtain ⟨i,j,l⟩:=h.aj;have c1:=oG s.aj.ms i;have c2:=rD s.aj.ns j;have c3:=qu s.aj.xs l;have c4:=qw s.book.ts h.book.1;have b:=tv s.book.qs h.book.2;have c:=sK s.bu.bs h.bu;have d:=Mq s.ps h.ps;have e:=JK s.calls h.calls;have g:=Mo s.bH h.bH;have a:=vT s.aA h.aA n;simp only [af.cells];refine bf 56 1 [.cell 2 41] mixed func56 ?_;refine sc aJ c1 ?_;refine sc aJ c2 ?_;refine sc aJ c3 ?_;refine sc aJ c4 ?_;refine sc aJ b ?_;refine sc aJ c ?_;refine sc aJ d ?_;refine sc aJ e ?_;refine sc aJ g ?_;exact jW aJ a
theorem abS (n:Int) (xs:List aB) (hl:xs.length < 2 ^ 30):Sq 72 [] [.I n,.sl 4 (xs.map aB.cells)] [.own 4 ((kg n xs).map aB.cells),.own 4 ((pU n xs).map aB.cells)] (.bT [.ref 0,.ref 1]):=by
 refine bf 29 2 [.tmp 4,.tmp 5] mixed func72 ?_;refine s0 ?_;refine dP ?_;refine aM.wv xs.length [0,8,9] [160] (fun i=>[(10,.I i),(4,.ref 352),(5,.ref 416)]) (fun i=>[(352,.own 4 ((kg n (xs.take i)).map aB.cells)),(416,.own 4 ((pU n (xs.take i)).map aB.cells))]) ?_ ?_ ?_
 ·simp only [go_sem,seval]<;>simp [kg,pU]
 ·intro i _ g e j _;have hm:=aV (c:=aB.cells) xs g;have hli:(i:Int) < (xs.length:Int):=ah
  have hlt:(xs.take i).length=i:=by simp;omega
  have a:kg n (xs.take (i+1))=kg n (xs.take i)++_:=mI _ g;have b:pU n (xs.take (i+1))=pU n (xs.take i)++_:=mI _ g;have l:(kg n (xs.take i)).length<=1*(xs.take i).length:=gw (fun x=>by split<;>simp) _;have o:(pU n (xs.take i)).length<=1*(xs.take i).length:=gw (fun x=>by split<;>simp) _;obtain ⟨L,r⟩:=aQ (kg n (xs.take i));obtain ⟨M,s⟩:=aQ (pU n (xs.take i));obtain ⟨x,hx⟩:=aQ (xs[i]);rw [<- r] at a l;rw [<- s] at b o;rw [<- hx] at a b hm;rw [<- r,<- s];simp only [aB.cells] at hm;by_cases q:x.till<=n
  ·have d:decide (x.till<=n)=true:=dI q;rw [aq q] at a b;refine sm (a4 e hm d j) ?_;refine dP ?_;refine av.v g ?_;simp only [go_sem,seval,a,b]<;>simp
  ·have d:decide (x.till<=n)=false:=eJ q;rw [ak q] at a b;refine sm (a4 e hm d j) ?_;refine dP ?_;refine av.v g ?_;simp only [go_sem,seval,a,b]<;>simp
 ·intro _ p _;simp only [go_sem,seval,p,jr]
theorem Yr (n:Int) (xs:List aB) (a:xs.length < 2 ^ 30):Sq 72 [] [.I n,.sl 4 (xs.map aB.cells)] [] (.bT [.sl 4 ((kg n xs).map aB.cells),.sl 4 ((pU n xs).map aB.cells)]):=by
 refine Spec.frozen (abS n xs a) [0,1] rfl ?_;intro r;rcases r with _ | _ | r<;>rfl
theorem T' (xs:List aB) (ws:List Int) (hl:xs.length < 2 ^ 30) (hs:ws.length < 2 ^ 30):Sq 73 [] [.sl 4 (xs.map aB.cells),.sl 1 (ints ws)] [.own 4 ((eI xs ws).map aB.cells)] (.ref 0):=by
 refine bf 26 2 [.tmp 4] mixed func73 ?_;refine s0 ?_;refine dP ?_;refine aM.wv xs.length [1,8,9] [160] (fun i=>[(10,.I i),(5,.ref 384)]) (fun i=>[(384,.own 4 ((eI (xs.take i) ws).map aB.cells))]) ?_ ?_ ?_
 ·simp only [go_sem,seval]<;>simp [eI]
 ·intro i _ d g b _;have hm:=aV (c:=aB.cells) xs d;have hli:(i:Int) < (xs.length:Int):=ah
  have hlt:(xs.take i).length=i:=by simp;omega
  have a:eI (xs.take (i+1)) ws=eI (xs.take i) ws++_:=mI _ d;have e:(eI (xs.take i) ws).length<=1*(xs.take i).length:=gw (fun x=>by split<;>simp) _;obtain ⟨L,n⟩:=aQ (eI (xs.take i) ws);obtain ⟨x,hx⟩:=aQ (xs[i]);rw [<- n] at a e |-;rw [<- hx] at a hm;have l:=tB ws x.who ah;simp only [aB.cells] at hm;refine sc (a2 g hm) l ?_;cases q:Ob ws x.who
  ·rw [q] at a;simp only [nJ,if_false] at a;refine sm b ?_;refine dP ?_;refine av.v d ?_;simp only [go_sem,seval,a]<;>simp
  ·rw [q] at a;simp only [if_true,append_nil] at a;refine sm b ?_;refine dP ?_;refine av.v d ?_;exact fL a
 ·intro _ j _;simp only [go_sem,seval,j,jr]
theorem Ep (xs:List aB) (ws:List Int) (a:xs.length < 2 ^ 30) (b:ws.length < 2 ^ 30):Sq 73 [] [.sl 4 (xs.map aB.cells),.sl 1 (ints ws)] [] (.sl 4 ((eI xs ws).map aB.cells)):=by
 refine Spec.frozen (T' xs ws a b) [0] rfl ?_;intro r;rcases r with _ | r<;>rfl
theorem xZ (ms:List au) (x:au) {k:Nat} (B:k < ms.length) (q:∀ i (h:i < k),(ms[i]'ah).no < x.no) (w:ms[k].no=x.no) (hl:ms.length < 2 ^ 30):Sq 176 [.own 3 (ms.map au.cells)] [.ref 0,.fn 177 [],.agg x.cells] [.own 3 ((ms.set k x).map au.cells)] (.ref 0):=by
 have d:=fun y=>mw y;have j:(ms.set k x).map au.cells=(ms.map au.cells).set k x.cells:=by rw [map_set]
 rw [j];simp only [au.cells] at d |-;refine bf 52 3 [.tmp 6] mixed func176 ?_;refine s0 ?_;refine dP ?_;refine aM.wv k [0,1,5] [0,96] (fun i=>[(7,.I i)]) (fun _=>[]) ?_ ?_ ?_
 ·exact gU
 ·intro i _ t _ r _;have a:i < ms.length:=ah
  have hm:=aV (c:=au.cells) ms a;have o:(i:Int) < (ms.length:Int):=ah
  have n:decide ((i:Int) < (ms.length:Int))=true:=dI o;have e:decide ((ms[i]'a).no < x.no)=true:=dI (q i t);have b:=d (ms[i]'a);have l:=d x;obtain ⟨y,s⟩:=aQ (ms[i]'a);rw [<- s] at hm e b;simp only [au.cells] at hm;refine sc (a2 n hm) b ?_;refine sc (a2 e r) l ?_;refine dP ?_;refine av.v t ?_;exact gU
 ·intro _ _ _;have hm:=aV (c:=au.cells) ms B;have p:(k:Int) < (ms.length:Int):=ah
  have g:decide ((k:Int) < (ms.length:Int))=true:=dI p;have e:decide (ms[k].no < x.no)=false:=jL;have u:(ms[k].no==x.no)=true:=by simpa using w
  have b:=d ms[k];have l:=d x;obtain ⟨y,s⟩:=aQ (ms[k]);rw [<- s] at hm e u b;simp only [au.cells] at hm;refine sc (a2 g hm) b ?_;refine sc e l ?_;refine dW.id ?_;refine sc (a2 g hm) b ?_;refine sc u l ?_;refine dP ?_;rw [hm];rfl
theorem MV (xs:List au) (x:au) {k:Nat} (n:k<=xs.length) (p:∀ i (h:i < k),(xs[i]'ah).no < x.no) (j:∀ (h:k < xs.length),x.no < xs[k].no) (w:xs.length < 2 ^ 30):Sq 176 [.own 3 (xs.map au.cells)] [.ref 0,.fn 177 [],.agg x.cells] [.undef,.own 3 ((xs.take k++[x]++xs.drop k).map au.cells)] (.ref 1):=by
 have l:=Kh xs x k w n;simp only [au.cells] at l;obtain ⟨O,s⟩:=aQ ((xs.take k++[x]++xs.drop k).map au.cells);rw [<- s] at l |-;clear s;have e:=fun y=>mw y;simp only [au.cells] at e |-;refine bf 52 3 [.tmp 6] mixed func176 ?_;refine s0 ?_;refine dP ?_;refine aM.wv k [0,1,5] [0,96] (fun i=>[(7,.I i)]) (fun _=>[]) ?_ ?_ ?_
 ·exact gU
 ·intro i _ t _ q _;have b:i < xs.length:=ah
  have hm:=aV (c:=au.cells) xs b;have o:decide ((i:Int) < (xs.length:Int))=true:=iC;have g:decide ((xs[i]'b).no < x.no)=true:=dI (p i t);have d:=e (xs[i]'b);obtain ⟨y,r⟩:=aQ (xs[i]'b);rw [<- r] at hm g d;simp only [au.cells] at hm;refine sc (a2 o hm) d ?_;refine sc g (e x) ?_;refine sm q ?_;exact av.u t trivial (by simp only [go_sem,seval])
 ·intro _ _ _;rcases bZ k xs.length with n | hk'
  ·have j:=j n;have hm:=aV (c:=au.cells) xs n;have a:decide ((k:Int) < (xs.length:Int))=true:=iC;have g:decide (xs[k].no < x.no)=false:=jL;have v:(xs[k].no==x.no)=false:=by simp;omega
   have d:=e xs[k];obtain ⟨y,r⟩:=aQ (xs[k]);rw [<- r] at hm g v d;simp only [au.cells] at hm;refine sc (a2 a hm) d ?_;refine sc g (e x) ?_;refine dW.id ?_;refine sc (a2 a hm) d ?_;refine sc v (e x) ?_;exact Hv [0,816] a l
  ·have a:decide ((k:Int) < (xs.length:Int))=false:=jL;refine sm a ?_;refine dP ?_;refine dW.id ?_;exact Hv [0,816] a l
theorem Th (xs:List aC) (x:aC) {k:Nat} (s:k < xs.length) (l:∀ i (h:i < k),(xs[i]'ah).no < x.no) (r:xs[k].no=x.no) (hl:xs.length < 2 ^ 30):Sq 275 [.own 12 (xs.map aC.cells)] [.ref 0,.fn 218 [],.agg x.cells] [.own 12 ((xs.set k x).map aC.cells)] (.ref 0):=by
 rw [map_set];have d:=fun y=>qa y;simp only [aC.cells] at d |-;refine bf 52 3 [.tmp 6] mixed func275 ?_;refine s0 ?_;refine dP ?_;refine aM.wv k [0,1,5] [0,96] (fun i=>[(7,.I i)]) (fun _=>[]) ?_ ?_ ?_
 ·exact gU
 ·intro i _ p _ n _;have a:i < xs.length:=ah
  have hm:=aV (c:=aC.cells) xs a;have j:decide ((i:Int) < (xs.length:Int))=true:=iC;have e:decide ((xs[i]'a).no < x.no)=true:=dI (l i p);have b:=d (xs[i]'a);obtain ⟨y,o⟩:=aQ (xs[i]'a);rw [<- o] at hm e b;simp only [aC.cells] at hm;refine sc (a2 j hm) b ?_;refine sc e (d x) ?_;refine sm n ?_;exact av.u p trivial (by simp only [go_sem,seval])
 ·intro _ _ _;have hm:=aV (c:=aC.cells) xs s;have g:decide ((k:Int) < (xs.length:Int))=true:=iC;have e:decide (xs[k].no < x.no)=false:=jL;have q:(xs[k].no==x.no)=true:=by simpa using r
  have b:=d xs[k];obtain ⟨y,o⟩:=aQ (xs[k]);rw [<- o] at hm e q b;simp only [aC.cells] at hm;refine sc (a2 g hm) b ?_;refine sc e (d x) ?_;refine dW.id ?_;refine sc (a2 g hm) b ?_;refine sc q (d x) ?_;refine dP ?_;rw [hm];rfl
theorem Te (xs:List aC) (x:aC) {k:Nat} (n:k<=xs.length) (p:∀ i (h:i < k),(xs[i]'ah).no < x.no) (j:∀ (h:k < xs.length),x.no < xs[k].no) (w:xs.length < 2 ^ 30):Sq 275 [.own 12 (xs.map aC.cells)] [.ref 0,.fn 218 [],.agg x.cells] [.undef,.own 12 ((xs.take k++[x]++xs.drop k).map aC.cells)] (.ref 1):=by
 have l:=PY xs x k w n;simp only [aC.cells] at l;obtain ⟨O,s⟩:=aQ ((xs.take k++[x]++xs.drop k).map aC.cells);rw [<- s] at l |-;clear s;have e:=fun y=>qa y;simp only [aC.cells] at e |-;refine bf 52 3 [.tmp 6] mixed func275 ?_;refine s0 ?_;refine dP ?_;refine aM.wv k [0,1,5] [0,96] (fun i=>[(7,.I i)]) (fun _=>[]) ?_ ?_ ?_
 ·exact gU
 ·intro i _ t _ q _;have b:i < xs.length:=ah
  have hm:=aV (c:=aC.cells) xs b;have o:decide ((i:Int) < (xs.length:Int))=true:=iC;have g:decide ((xs[i]'b).no < x.no)=true:=dI (p i t);have d:=e (xs[i]'b);obtain ⟨y,r⟩:=aQ (xs[i]'b);rw [<- r] at hm g d;simp only [aC.cells] at hm;refine sc (a2 o hm) d ?_;refine sc g (e x) ?_;refine sm q ?_;exact av.u t trivial (by simp only [go_sem,seval])
 ·intro _ _ _;rcases bZ k xs.length with n | hk'
  ·have j:=j n;have hm:=aV (c:=aC.cells) xs n;have a:decide ((k:Int) < (xs.length:Int))=true:=iC;have g:decide (xs[k].no < x.no)=false:=jL;have v:(xs[k].no==x.no)=false:=by simp;omega
   have d:=e xs[k];obtain ⟨y,r⟩:=aQ (xs[k]);rw [<- r] at hm g v d;simp only [aC.cells] at hm;refine sc (a2 a hm) d ?_;refine sc g (e x) ?_;refine dW.id ?_;refine sc (a2 a hm) d ?_;refine sc v (e x) ?_;exact Hv [0,816] a l
  ·have a:decide ((k:Int) < (xs.length:Int))=false:=jL;refine sm a ?_;refine dP ?_;refine dW.id ?_;exact Hv [0,816] a l
theorem Qz (xs:List ay) (x:ay) {k:Nat} (t:k < xs.length) (n:∀ i (h:i < k),(xs[i]'ah).a < x.a) (s:xs[k].a=x.a) (hl:xs.length < 2 ^ 30):Sq 276 [.own 4 (xs.map ay.cells)] [.ref 0,.fn 221 [],.agg x.cells] [.own 4 ((xs.set k x).map ay.cells)] (.ref 0):=by
 rw [map_set];have e:=fun y=>nQ y;simp only [ay.cells] at e |-;refine bf 52 3 [.tmp 6] mixed func276 ?_;refine s0 ?_;refine dP ?_;refine aM.wv k [0,1,5] [0,96] (fun i=>[(7,.I i)]) (fun _=>[]) ?_ ?_ ?_
 ·exact gU
 ·intro i _ q _ o _;have b:i < xs.length:=ah
  have hm:=aV (c:=ay.cells) xs b;have l:decide ((i:Int) < (xs.length:Int))=true:=iC;have g:decide ((xs[i]'b).a < x.a)=true:=dI (n i q);have d:=e (xs[i]'b);obtain ⟨y,p⟩:=aQ (xs[i]'b);rw [<- p] at hm g d;simp only [ay.cells] at hm;refine sc (a2 l hm) d ?_;refine sc g (e x) ?_;refine sm o ?_;exact av.u q trivial (by simp only [go_sem,seval])
 ·intro _ _ _;have hm:=aV (c:=ay.cells) xs t;have j:decide ((k:Int) < (xs.length:Int))=true:=iC;have g:decide (xs[k].a < x.a)=false:=jL;have r:(xs[k].a==x.a)=true:=by simpa using s
  have d:=e xs[k];obtain ⟨y,p⟩:=aQ (xs[k]);rw [<- p] at hm g r d;simp only [ay.cells] at hm;refine sc (a2 j hm) d ?_;refine sc g (e x) ?_;refine dW.id ?_;refine sc (a2 j hm) d ?_;refine sc r (e x) ?_;refine dP ?_;rw [hm];rfl
theorem Qy (xs:List ay) (x:ay) {k:Nat} (o:k<=xs.length) (q:∀ i (h:i < k),(xs[i]'ah).a < x.a) (l:∀ (h:k < xs.length),x.a < xs[k].a) (B:xs.length < 2 ^ 30):Sq 276 [.own 4 (xs.map ay.cells)] [.ref 0,.fn 221 [],.agg x.cells] [.undef,.own 4 ((xs.take k++[x]++xs.drop k).map ay.cells)] (.ref 1):=by
 have n:=MC xs x k B o;simp only [ay.cells] at n;obtain ⟨O,t⟩:=aQ ((xs.take k++[x]++xs.drop k).map ay.cells);rw [<- t] at n |-;clear t;have g:=fun y=>nQ y;simp only [ay.cells] at g |-;refine bf 52 3 [.tmp 6] mixed func276 ?_;refine s0 ?_;refine dP ?_;refine aM.wv k [0,1,5] [0,96] (fun i=>[(7,.I i)]) (fun _=>[]) ?_ ?_ ?_
 ·exact gU
 ·intro i _ v _ r _;have d:i < xs.length:=ah
  have hm:=aV (c:=ay.cells) xs d;have p:decide ((i:Int) < (xs.length:Int))=true:=iC;have j:decide ((xs[i]'d).a < x.a)=true:=dI (q i v);have e:=g (xs[i]'d);obtain ⟨y,s⟩:=aQ (xs[i]'d);rw [<- s] at hm j e;simp only [ay.cells] at hm;refine sc (a2 p hm) e ?_;refine sc j (g x) ?_;refine sm r ?_;exact av.u v trivial (by simp only [go_sem,seval])
 ·intro _ _ _;rcases bZ k xs.length with o | hk'
  ·have l:=l o;have hm:=aV (c:=ay.cells) xs o;have b:decide ((k:Int) < (xs.length:Int))=true:=iC;have j:decide (xs[k].a < x.a)=false:=jL;have w:(xs[k].a==x.a)=false:=by simp;omega
   have e:=g xs[k];obtain ⟨y,s⟩:=aQ (xs[k]);rw [<- s] at hm j w e;simp only [ay.cells] at hm;refine sc (a2 b hm) e ?_;refine sc j (g x) ?_;refine dW.id ?_;refine sc (a2 b hm) e ?_;refine sc w (g x) ?_;exact Hv [0,816] b n
  ·have b:decide ((k:Int) < (xs.length:Int))=false:=jL;refine sm b ?_;refine dP ?_;refine dW.id ?_;exact Hv [0,816] b n
section
variable {α:Type}
def uh (p:Nat->Bool) (i j:Nat):Nat:=if i < j then (if p ((i+j) / 2) then uh p ((i+j) / 2+1) j else uh p i ((i+j) / 2)) else i
termination_by j-i
theorem Pw {p:Nat->Bool} {i j:Nat} (h:i < j):uh p i j=if p ((i+j) / 2) then uh p ((i+j) / 2+1) j else uh p i ((i+j) / 2):=by rw [uh,aq h]
theorem AU {p:Nat->Bool} {i j:Nat} (h:¬ i < j):uh p i j=i:=by rw [uh,ak h]
theorem Px {p:Nat->Bool} {i j h:Nat} (a:i < j) (b:h=(i+j) / 2) (hp:p h=true):uh p (h+1) j=uh p i j:=by
 subst b;rw [Pw a,hp];rfl
theorem Uw {p:Nat->Bool} {i j h:Nat} (a:i < j) (b:h=(i+j) / 2) (hp:p h=false):uh p i h=uh p i j:=by
 subst b;rw [Pw a,hp];rfl
theorem EF {p:Nat->Bool} {lo:Nat} (hm:∀ a b,lo<=a->a<=b->p b=true->p a=true):∀ (n i j:Nat),lo<=i->j-i<=n->i<=j->i<=uh p i j/\uh p i j<=j/\(∀ k,i<=k->k < uh p i j->p k=true)/\(∀ k,uh p i j<=k->k < j->p k=false)
 | 0,i,j,hlo,h,hij=>by
  have:i=j:=ah
  subst this;rw [AU ah];exact ⟨dU _,dU _,fun k d e=>by omega,fun k d e=>by omega⟩
 | n+1,i,j,hlo,h,hij=>by
  by_cases g:i < j
  ·rw [Pw g];have d:i<=(i+j) / 2:=ah
   have e:(i+j) / 2 < j:=ah
   generalize (i+j) / 2=c at d e;cases hp:p c with
   | true =>
    obtain ⟨o,a2,a3,a4⟩:=EF hm n (c+1) j ah ah ah;simp only [if_true];refine ⟨by omega,a2,fun k k1 k2=>?_,a4⟩;rcases bZ c k with hk | hk
    ·exact a3 k hk k2
    ·exact hm k c ah hk hp
   | false =>
    obtain ⟨o,a2,a3,a4⟩:=EF hm n i c hlo ah d;simp only [nJ,if_false];refine ⟨o,by omega,a3,fun k k1 k2=>?_⟩;rcases bZ k c with hk | hk
    ·exact a4 k k1 hk
    ·cases l:p k with
     | false=>rfl
     | true=>rw [hm c k ah hk l] at hp;cases hp
  ·rw [AU g];exact ⟨dU _,hij,fun k d e=>by omega,fun k d e=>by omega⟩
theorem JB {p:Nat->Bool}:∀ (n i j:Nat),j-i<=n->i<=j->i<=uh p i j/\uh p i j<=j
 | 0,i,j,h,hij=>by
  rw [AU ah];exact ⟨dU _,hij⟩
 | n+1,i,j,h,hij=>by
  by_cases a:i < j
  ·rw [Pw a];have b:i<=(i+j) / 2:=ah
   have d:(i+j) / 2 < j:=ah
   generalize (i+j) / 2=c at b d;split
   ·have:=JB (p:=p) n (c+1) j ah ah;omega
   ·have:=JB (p:=p) n i c ah ah;omega
  ·rw [AU a];exact ⟨dU _,hij⟩
def t2 (q:α->α->Bool) (x y:Option α):Bool:=match x,y with
 | some x,some y=>q x y
 | _,_=>false
def cutAt (lt:α->α->Bool) (X Y:List α):Nat:=
 uh (fun c=>t2 (fun y x=>!lt y x) Y[(X.length+Y.length) / 2-1-c]? X[c]?) (if X.length > (X.length+Y.length) / 2 then (X.length+Y.length) / 2-Y.length else 0) (if X.length > (X.length+Y.length) / 2 then (X.length+Y.length) / 2 else X.length)
theorem Ct (lt:α->α->Bool) (X Y:List α):cutAt lt X Y<=X.length/\cutAt lt X Y<=(X.length+Y.length) / 2/\(X.length+Y.length) / 2-cutAt lt X Y<=Y.length:=by
 have key:∀ p,uh p (if X.length > (X.length+Y.length) / 2 then (X.length+Y.length) / 2-Y.length else 0) (if X.length > (X.length+Y.length) / 2 then (X.length+Y.length) / 2 else X.length)<=X.length /\
   uh p (if X.length > (X.length+Y.length) / 2 then (X.length+Y.length) / 2-Y.length else 0) (if X.length > (X.length+Y.length) / 2 then (X.length+Y.length) / 2 else X.length)<=(X.length+Y.length) / 2 /\
   (X.length+Y.length) / 2-uh p (if X.length > (X.length+Y.length) / 2 then (X.length+Y.length) / 2-Y.length else 0) (if X.length > (X.length+Y.length) / 2 then (X.length+Y.length) / 2 else X.length)<=Y.length:=by
  intro p;split
  ·have:=JB (p:=p) _ ((X.length+Y.length) / 2-Y.length) ((X.length+Y.length) / 2) (dU _) ah;omega
  ·have:=JB (p:=p) _ 0 X.length (dU _) ah;omega
 exact key _
def Jb (lt:α->α->Bool):Nat->List α->List α->List α
 | 0,X,Y=>X++Y
 | n+1,X,Y =>
  if X.length=0\/Y.length=0 then X++Y
  else if X.length=1 then Y.take (uh (fun c=>t2 lt Y[c]? X[0]?) 0 Y.length)++X++Y.drop (uh (fun c=>t2 lt Y[c]? X[0]?) 0 Y.length)
  else if Y.length=1 then X.take (uh (fun c=>t2 (fun y x=>!lt y x) Y[0]? X[c]?) 0 X.length)++Y++X.drop (uh (fun c=>t2 (fun y x=>!lt y x) Y[0]? X[c]?) 0 X.length)
  else Jb lt n (X.take (cutAt lt X Y)) (Y.take ((X.length+Y.length) / 2-cutAt lt X Y))++Jb lt n (X.drop (cutAt lt X Y)) (Y.drop ((X.length+Y.length) / 2-cutAt lt X Y))
def uU (lt:α->α->Bool) (l:List α):Prop:=l.Pairwise fun x y=>lt y x=false
structure Ord (lt:α->α->Bool):Prop where
 asy:∀ x y,lt x y=true->lt y x=false
 Xm:∀ x y z,lt y x=false->lt z y=false->lt z x=false
theorem uU.at {lt:α->α->Bool} {l:List α} (h:uU lt l) {i j:Nat} {x y:α} (a:i < j) (hx:l[i]?=some x) (d:l[j]?=some y):lt y x=false:=by
 obtain ⟨b,rfl⟩:=fA.1 hx;obtain ⟨c,rfl⟩:=fA.1 d;exact qo.1 h i j b c a
theorem Ord.refl {lt:α->α->Bool} (a:Ord lt) (x:α):lt x x=false:=by
 cases h:lt x x with
 | false=>rfl
 | true=>rw [a.asy x x h] at h;cases h
theorem uU.XF {lt:α->α->Bool} (b:Ord lt) {l:List α} (h:uU lt l) {i j:Nat} {x y:α} (hij:i<=j) (hx:l[i]?=some x) (a:l[j]?=some y):lt y x=false:=by
 rcases bZ i j with hlt | hge
 ·exact h.at hlt hx a
 ·obtain rfl:i=j:=ah
  rw [hx] at a;cases a;exact b.refl x
theorem jw {l:List α} {n:Nat} {x:α} (h:x∈l.take n):∃ i,i < n/\l[i]?=some x:=by
 obtain ⟨i,a⟩:=mem_iff_getElem?.1 h;rw [getElem?_take] at a;split at a
 ·exact ⟨i,by assumption,a⟩
 ·cases a
theorem gT {l:List α} {n:Nat} {x:α} (h:x∈l.drop n):∃ i,n<=i/\l[i]?=some x:=by
 obtain ⟨i,a⟩:=mem_iff_getElem?.1 h;rw [getElem?_drop] at a;exact ⟨n+i,by omega,a⟩
theorem iM {l:List α} {i:Nat} (h:i < l.length):∃ x,l[i]?=some x:=⟨l[i],fO h⟩
theorem dz {l:List α} {i:Nat} {x:α} (h:l[i]?=some x):i < l.length:=(fA.1 h).1
def Ud (lt:α->α->Bool) (p:α->Bool):Prop:=∀ a b,p a=true->p b=true->lt a b=false
theorem xz {lt:α->α->Bool} {p:α->Bool} (hp:Ud lt p) {A B:List α} (h:∀ a∈A,∀ b∈B,lt b a=true):(B++A).filter p=(A++B).filter p:=by
 rw [mK,mK];cases e:A.filter p with
 | nil=>simp
 | cons a r =>
  cases g:B.filter p with
  | nil=>simp
  | cons b t =>
   have c:=mem_filter.1 (e ▸ mem_cons_self:a∈A.filter p);have d:=mem_filter.1 (g ▸ mem_cons_self:b∈B.filter p);have:=hp b a d.2 c.2;rw [h a c.1 b d.1] at this;cases this
theorem Eg {lt:α->α->Bool} (o:Ord lt):∀ (n:Nat) (X Y:List α),X.length+Y.length<=n->uU lt X->uU lt Y->uU lt (Jb lt n X Y)/\(Jb lt n X Y).Perm (X++Y)/\∀ p,Ud lt p->(Jb lt n X Y).filter p=(X++Y).filter p
 | 0,X,Y,h,hX,hY=>by
  have:X=[]:=length_eq_zero_iff.1 ah;subst this;simp only [Jb,nil_append];exact ⟨hY,.refl _,fun _ _=>by first | rfl | trivial⟩
 | n+1,X,Y,h,hX,hY=>by
  unfold Jb;split
  ·rename_i t;refine ⟨?_,.refl _,fun _ _=>rfl⟩;rcases t with t | t<;>rw [length_eq_zero_iff] at t<;>subst t<;>simpa
  rename_i t;split
  ·rename_i D;obtain ⟨x,rfl⟩:=length_eq_one_iff.1 D
   have d:=EF (p:=fun c=>t2 lt Y[c]? [x][0]?) (lo:=0) (by
    intro a b _ J d;simp only [getElem?_cons_zero] at d |-;cases P:Y[b]? with
    | none=>simp [t2,P] at d
    | some y =>
     simp only [t2,P] at d;obtain ⟨z,S⟩:=iM (l:=Y) (i:=a) (by have:=dz P;omega);simp only [S,t2];cases I:lt z x with
     | true=>rfl
     | false=>rw [o.Xm x z y I (hY.XF o J S P)] at d;cases d) _ 0 Y.length (dU _) (dU _) ah
   generalize uh (fun c=>t2 lt Y[c]? [x][0]?) 0 Y.length=p at d;obtain ⟨-,b2,M,O⟩:=d;simp only [getElem?_cons_zero] at M O;refine ⟨?_,?_,fun q I=>?_⟩
   ·unfold uU;rw [cQ,pairwise_append];refine ⟨hY.sublist (take_sublist _ _),?_,?_⟩
    ·rw [singleton_append,iL];refine ⟨fun y P=>?_,hY.sublist (drop_sublist _ _)⟩;obtain ⟨i,E,g⟩:=gT P;have:=O i E (dz g);simpa [t2,g] using this
    ·intro a r b d;obtain ⟨i,E,g⟩:=jw r;rw [singleton_append,mem_cons] at d;rcases d with rfl | d
     ·have:=M i ah E;simp only [t2,g] at this;exact o.asy _ _ this
     ·obtain ⟨j,U,G⟩:=gT d;exact hY.XF o ah g G
   ·have D:(Y.take p++[x]++Y.drop p).Perm ([x]++Y.take p++Y.drop p):=Perm.append_right _ perm_append_comm;refine D.trans ?_;rw [cQ,jY]
   ·have:=xz I (A:=[x]) (B:=Y.take p) fun a r b d=>by
     obtain rfl:=ga.1 r;obtain ⟨i,E,g⟩:=jw d;have:=M i ah E;simpa [t2,g] using this
    rw [mK,this,<- mK,cQ,jY]
  rename_i D;split
  ·rename_i F;obtain ⟨y,rfl⟩:=length_eq_one_iff.1 F
   have d:=EF (p:=fun c=>t2 (fun y x=>!lt y x) [y][0]? X[c]?) (lo:=0) (by
    intro a b _ J d;simp only [getElem?_cons_zero] at d |-;cases hx:X[b]? with
    | none=>simp [t2,hx] at d
    | some x =>
     simp only [t2,hx,iK] at d;obtain ⟨z,S⟩:=iM (l:=X) (i:=a) (by have:=dz hx;omega);simp only [S,t2,iK]
     exact o.Xm z x y (hX.XF o J S hx) d) _ 0 X.length (dU _) (dU _) ah
   generalize uh (fun c=>t2 (fun y x=>!lt y x) [y][0]? X[c]?) 0 X.length=p at d;obtain ⟨-,b2,M,O⟩:=d;simp only [getElem?_cons_zero] at M O;refine ⟨?_,?_,fun q I=>?_⟩
   ·unfold uU;rw [cQ,pairwise_append];refine ⟨hX.sublist (take_sublist _ _),?_,?_⟩
    ·rw [singleton_append,iL];refine ⟨fun x hx=>?_,hX.sublist (drop_sublist _ _)⟩;obtain ⟨i,E,g⟩:=gT hx;have:=O i E (dz g);simp only [t2,g,Bool.not_eq_false'] at this;exact o.asy _ _ this
    ·intro a r b d;obtain ⟨i,E,g⟩:=jw r;rw [singleton_append,mem_cons] at d;rcases d with rfl | d
     ·have:=M i ah E;simpa [t2,g] using this
     ·obtain ⟨j,U,G⟩:=gT d;exact hX.XF o ah g G
   ·have D:(X.take p++[y]++X.drop p).Perm (X.take p++(X.drop p++[y])):=by
     rw [cQ];exact Perm.append_left _ perm_append_comm
    refine D.trans ?_;rw [<- cQ,jY]
   ·have:=xz I (A:=X.drop p) (B:=[y]) fun a r b d=>by
     obtain rfl:=ga.1 d;obtain ⟨i,E,g⟩:=gT r;have:=O i E (dz g);simpa [t2,g] using this
    rw [cQ,mK,this,<- mK,<- cQ,jY]
  rename_i F;obtain ⟨c1,c2,c3⟩:=Ct lt X Y;have hl0:X.length≠0/\Y.length≠0:=ah
  have R:∀ a b,(X.length > (X.length+Y.length) / 2->(X.length+Y.length) / 2-Y.length<=a)->a<=b->t2 (fun y x=>!lt y x) Y[(X.length+Y.length) / 2-1-b]? X[b]?=true->t2 (fun y x=>!lt y x) Y[(X.length+Y.length) / 2-1-a]? X[a]?=true:=by
   intro a b r J d;cases hx:X[b]? with
   | none=>simp [t2,hx] at d
   | some x =>
    have hbx:=dz hx;cases P:Y[(X.length+Y.length) / 2-1-b]? with
    | none=>simp [t2,hx,P] at d
    | some y =>
     simp only [t2,hx,P,iK] at d;obtain ⟨z,S⟩:=iM (l:=X) (i:=a) ah
     obtain ⟨u,Q⟩:=iM (l:=Y) (i:=(X.length+Y.length) / 2-1-a) (by
      rcases bZ ((X.length+Y.length) / 2) X.length with hlt | hge
      ·have:=r hlt;omega
      ·omega)
     simp only [S,Q,t2,iK];exact o.Xm z y u (o.Xm z x y (hX.XF o J S hx) d) (hY.XF o ah P Q)
  -- what the cut tells
  have K:(∀ k,(X.length > (X.length+Y.length) / 2->(X.length+Y.length) / 2-Y.length<=k)->k < cutAt lt X Y->t2 (fun y x=>!lt y x) Y[(X.length+Y.length) / 2-1-k]? X[k]?=true) /\
    (∀ k,cutAt lt X Y<=k->k < (X.length+Y.length) / 2->k < X.length->t2 (fun y x=>!lt y x) Y[(X.length+Y.length) / 2-1-k]? X[k]?=false):=by
   unfold cutAt;split
   ·rename_i C;obtain ⟨-,-,M,O⟩:=EF (p:=fun c=>t2 (fun y x=>!lt y x) Y[(X.length+Y.length) / 2-1-c]? X[c]?) (lo:=(X.length+Y.length) / 2-Y.length) (fun a b D F T=>R a b (fun _=>D) F T) _ ((X.length+Y.length) / 2-Y.length) ((X.length+Y.length) / 2) (dU _) (dU _) ah;exact ⟨fun k D F=>M k (D C) F,fun k D F T=>O k D F⟩
   ·rename_i C;obtain ⟨-,-,M,O⟩:=EF (p:=fun c=>t2 (fun y x=>!lt y x) Y[(X.length+Y.length) / 2-1-c]? X[c]?) (lo:=0) (fun a b D F T=>R a b (fun h=>(C h).elim) F T) _ 0 X.length (dU _) (dU _) ah;exact ⟨fun k D F=>M k ah F,fun k D F T=>O k D T⟩
  have L:X.length > (X.length+Y.length) / 2->(X.length+Y.length) / 2-Y.length<=cutAt lt X Y:=by
   intro C;unfold cutAt;rw [aq C,aq C];exact (JB _ _ _ (dU _) ah).1
  generalize cutAt lt X Y=s at c1 c2 c3 K L;generalize hh:(X.length+Y.length) / 2=t at c2 c3 K L;obtain ⟨ad,ae⟩:=K;have aa:=hX.sublist (take_sublist s X);have Z:=hX.sublist (drop_sublist s X);have ac:=hY.sublist (take_sublist (t-s) Y);have ab:=hY.sublist (drop_sublist (t-s) Y);obtain ⟨r1,r2,r5⟩:=Eg o n (X.take s) (Y.take (t-s)) (by simp only [dY];omega) aa ac;obtain ⟨r3,r4,r6⟩:=Eg o n (X.drop s) (Y.drop (t-s)) (by simp only [fj];omega) Z ab;have W:∀ a∈X.drop s,∀ b∈Y.take (t-s),lt b a=true:=by
   intro b d a r;obtain ⟨i,E,g⟩:=jw r;obtain ⟨j,U,G⟩:=gT d;have hjx:=dz G;have hiy:=dz g;have I:=ae s (dU _) ah ah;obtain ⟨u,Q⟩:=iM (l:=X) (i:=s) ah;obtain ⟨v,V⟩:=iM (l:=Y) (i:=t-1-s) ah;simp only [t2,Q,V,Bool.not_eq_false'] at I;cases hc:lt a b with
   | true=>rfl
   | false=>rw [o.Xm u a v (o.Xm u b a (hX.XF o U Q G) hc) (hY.XF o ah g V)] at I;cases I
  refine ⟨?_,?_,fun p hp=>?_⟩
  ·unfold uU;rw [pairwise_append];refine ⟨r1,r3,?_⟩;intro a r b d;have r:=r2.mem_iff.1 r;have d:=r4.mem_iff.1 d;rw [mem_append] at r d;rcases r with r | r<;>rcases d with d | d
   ·obtain ⟨i,E,g⟩:=jw r;obtain ⟨j,U,G⟩:=gT d;exact hX.XF o ah g G
   ·obtain ⟨i,E,g⟩:=jw r;obtain ⟨j,U,G⟩:=gT d;have hjy:=dz G
    -- the last of the front of X against the first of the back of Y
    have I:=ad (s-1) (fun C=>by have:=L C;omega) ah;obtain ⟨u,Q⟩:=iM (l:=X) (i:=s-1) ah;cases V:Y[t-1-(s-1)]? with
    | none=>simp [t2,Q,V] at I
    | some v =>
     simp only [t2,Q,V,iK] at I;exact o.Xm a u b (hX.XF o ah g Q) (o.Xm u v b I (hY.XF o ah V G))
   ·exact o.asy _ _ (W b d a r)
   ·obtain ⟨i,E,g⟩:=jw r;obtain ⟨j,U,G⟩:=gT d;exact hY.XF o ah g G
  ·refine (r2.append r4).trans ?_;have e1:(X.take s++Y.take (t-s)++(X.drop s++Y.drop (t-s))).Perm (X.take s++(X.drop s++Y.take (t-s))++Y.drop (t-s)):=by
    simp only [cQ];refine Perm.append_left _ ?_;rw [<- cQ,<- cQ];exact Perm.append_right _ perm_append_comm
   refine e1.trans (Perm.of_eq ?_);rw [<- cQ,jY,cQ,jY]
  ·rw [mK,r5 p hp,r6 p hp,<- mK];have e:X++Y=X.take s++(X.drop s++Y.take (t-s))++Y.drop (t-s):=by
    rw [<- cQ,jY,cQ,jY]
   have w:=xz hp W;rw [mK,mK] at w;rw [e];simp only [mK,cQ] at w |-;rw [<- cQ ((Y.take (t-s)).filter p),w,cQ]
def Ae (lt:α->α->Bool) (x:α):List α->List α
 | []=>[x]
 | y :: R=>if lt x y then y :: Ae lt x R else x :: y :: R
theorem Ga (lt:α->α->Bool) (x:α):∀ R:List α,(Ae lt x R).Perm (x :: R)
 | []=>.refl _
 | y :: R=>by
  unfold Ae;split
  ·exact ((Ga lt x R).cons y).trans (Perm.swap _ _ _)
  ·exact .refl _
theorem Se {lt:α->α->Bool} (g:Ord lt) (x:α):∀ R:List α,R.Pairwise (fun a b=>lt a b=false)->(Ae lt x R).Pairwise (fun a b=>lt a b=false)
 | [],_=>by simp [Ae]
 | y :: R,h=>by
  have e:=iL.1 h;unfold Ae;split
  ·rename_i c;rw [iL];refine ⟨fun b d=>?_,Se g x R e.2⟩;rcases mem_cons.1 ((Ga lt x R).mem_iff.1 d) with rfl | d
   ·exact g.asy _ _ c
   ·exact e.1 b d
  ·rename_i c;have c:lt x y=false:=by simpa using c
   rw [iL];refine ⟨fun b d=>?_,h⟩;rcases mem_cons.1 d with rfl | d
   ·exact c
   ·exact g.Xm b y x (e.1 b d) c
theorem Sd {lt:α->α->Bool} {p:α->Bool} (hp:Ud lt p) (x:α):∀ R:List α,(Ae lt x R).filter p=(x :: R).filter p
 | []=>rfl
 | y :: R=>by
  unfold Ae;split
  ·rename_i h;have:=xz hp (A:=[y]) (B:=[x]) fun a c b d=>by rw [ga.1 c,ga.1 d];exact h
   rw [show y :: Ae lt x R=[y]++Ae lt x R from rfl,mK,Sd hp x R,show x :: y :: R=([x]++[y])++R from rfl,mK,this,<- mK,<- mK];rfl
  ·rfl
def tF (lt:α->α->Bool) (R:List α):List α->List α
 | []=>R
 | x :: X=>tF lt (Ae lt x R) X
def BB (lt:α->α->Bool) (X:List α):List α:=(tF lt [] X).reverse
theorem F9 (lt:α->α->Bool):∀ (X R:List α),(tF lt R X).Perm (X++R)
 | [],R=>.refl _
 | x :: X,R=>by
  simp only [tF];refine (F9 lt X _).trans ?_;refine ((Ga lt x R).append_left X).trans ?_;simp only [cons_append];exact perm_middle
theorem Sc {lt:α->α->Bool} (c:Ord lt):∀ (X R:List α),R.Pairwise (fun a b=>lt a b=false)->(tF lt R X).Pairwise (fun a b=>lt a b=false)
 | [],R,h=>h
 | x :: X,R,h=>Sc c X _ (Se c x R h)
theorem Sb (lt:α->α->Bool) (X R:List α):(tF lt R X).length=X.length+R.length:=by rw [(F9 lt X R).length_eq,cm]
theorem Sa {lt:α->α->Bool} {p:α->Bool} (hp:Ud lt p):∀ (X R:List α),(tF lt R X).filter p=(X.reverse++R).filter p
 | [],R=>rfl
 | x :: X,R=>by
  simp only [tF,reverse_cons,cQ];rw [Sa hp X,mK,Sd hp,<- mK];rfl
theorem Kf {lt:α->α->Bool} {p:α->Bool} (hp:Ud lt p) (X:List α):(BB lt X).filter p=X.filter p:=by
 rw [BB,filter_reverse,Sa hp,append_nil,filter_reverse,reverse_reverse]
theorem yI (lt:α->α->Bool) (X:List α):(BB lt X).Perm X:=by
 refine (reverse_perm _).trans ?_;simpa using F9 lt X []
theorem Kg {lt:α->α->Bool} (a:Ord lt) (X:List α):uU lt (BB lt X):=by
 unfold uU BB;rw [pairwise_reverse];exact Sc a X [] Pairwise.nil
theorem xH (lt:α->α->Bool) (X:List α):(BB lt X).length=X.length:=(yI lt X).length_eq
theorem Ef (lt:α->α->Bool):∀ (n:Nat) (X Y:List α),(Jb lt n X Y).Perm (X++Y)
 | 0,X,Y=>.refl _
 | n+1,X,Y=>by
  unfold Jb;split
  ·exact .refl _
  split
  ·generalize uh _ 0 Y.length=p;have a:(Y.take p++X++Y.drop p).Perm (X++Y.take p++Y.drop p):=Perm.append_right _ perm_append_comm;refine a.trans ?_;rw [cQ,jY]
  split
  ·generalize uh _ 0 X.length=p;have a:(X.take p++Y++X.drop p).Perm (X.take p++(X.drop p++Y)):=by
    rw [cQ];exact Perm.append_left _ perm_append_comm
   refine a.trans ?_;rw [<- cQ,jY]
  generalize cutAt lt X Y=s;generalize (X.length+Y.length) / 2=h0;refine ((Ef lt n _ _).append (Ef lt n _ _)).trans ?_;have b:(X.take s++Y.take (h0-s)++(X.drop s++Y.drop (h0-s))).Perm (X.take s++(X.drop s++Y.take (h0-s))++Y.drop (h0-s)):=by
   simp only [cQ];refine Perm.append_left _ ?_;rw [<- cQ,<- cQ];exact Perm.append_right _ perm_append_comm
  refine b.trans (Perm.of_eq ?_);rw [<- cQ,jY,cQ,jY]
theorem afG (lt:α->α->Bool) (n:Nat) (X Y:List α):(Jb lt n X Y).length=X.length+Y.length:=by rw [(Ef lt n X Y).length_eq,cm]
theorem Ee (lt:α->α->Bool):∀ (n m:Nat) (X Y:List α),X.length+Y.length<=n->X.length+Y.length<=m->Jb lt n X Y=Jb lt m X Y
 | 0,m,X,Y,h,_=>by
  have a:X=[]:=length_eq_zero_iff.1 ah;have b:Y=[]:=length_eq_zero_iff.1 ah;subst a;subst b;cases m<;>simp [Jb]
 | n+1,0,X,Y,_,h=>by
  have a:X=[]:=length_eq_zero_iff.1 ah;have b:Y=[]:=length_eq_zero_iff.1 ah;subst a;subst b;simp [Jb]
 | n+1,m+1,X,Y,h,h'=>by
  by_cases c:X.length=0\/Y.length=0
  ·simp only [Jb,aq c]
  by_cases a:X.length=1
  ·simp only [Jb,ak c,aq a]
  by_cases b:Y.length=1
  ·simp only [Jb,ak c,ak a,aq b]
  simp only [Jb,ak c,ak a,ak b];obtain ⟨c1,c2,c3⟩:=Ct lt X Y;rw [Ee lt n m _ _ (by simp only [dY];omega) (by simp only [dY];omega),Ee lt n m (X.drop _) _ (by simp only [fj];omega) (by simp only [fj];omega)]
def B8 (lt:α->α->Bool) (X Y:List α):List α:=Jb lt (X.length+Y.length) X Y
theorem Eh (lt:α->α->Bool) (X Y:List α):(B8 lt X Y).length=X.length+Y.length:=afG _ _ _ _
theorem TL (lt:α->α->Bool) (X Y:List α):(B8 lt X Y).Perm (X++Y):=Ef _ _ _ _
theorem QT {lt:α->α->Bool} (c:Ord lt) {X Y:List α} (a:uU lt X) (b:uU lt Y):uU lt (B8 lt X Y):=(Eg c _ X Y (dU _) a b).1
theorem QS {lt:α->α->Bool} (c:Ord lt) {p:α->Bool} (hp:Ud lt p) {X Y:List α} (a:uU lt X) (b:uU lt Y):(B8 lt X Y).filter p=(X++Y).filter p:=(Eg c _ X Y (dU _) a b).2.2 p hp
theorem LM (lt:α->α->Bool) (Y:List α):B8 lt [] Y=Y:=by unfold B8;cases h:([]:List α).length+Y.length<;>simp [Jb]
theorem TK (lt:α->α->Bool) (X:List α):B8 lt X []=X:=by unfold B8;cases h:X.length+([]:List α).length<;>simp [Jb]
theorem afH (lt:α->α->Bool) (x:α) {Y:List α} (hY:Y.length≠0):B8 lt [x] Y=Y.take (uh (fun c=>t2 lt Y[c]? (some x)) 0 Y.length)++[x]++Y.drop (uh (fun c=>t2 lt Y[c]? (some x)) 0 Y.length):=by
 unfold B8;rw [show [x].length+Y.length=Y.length+1 by simp;omega];rw [Jb,ak (by simp only [length_cons,length_nil];omega),aq (by simp)];simp
theorem ac2 (lt:α->α->Bool) {X:List α} (hX:X.length≠0) (a:X.length≠1) (y:α):B8 lt X [y]=X.take (uh (fun c=>t2 (fun y x=>!lt y x) (some y) X[c]?) 0 X.length)++[y]++X.drop (uh (fun c=>t2 (fun y x=>!lt y x) (some y) X[c]?) 0 X.length):=by
 unfold B8;rw [show X.length+[y].length=X.length+1 by simp];rw [Jb,ak (by simp only [length_cons,length_nil];omega),ak a,aq (by simp)];simp
theorem afI (lt:α->α->Bool) {X Y:List α} (h1:2<=X.length) (h2:2<=Y.length):B8 lt X Y=B8 lt (X.take (cutAt lt X Y)) (Y.take ((X.length+Y.length) / 2-cutAt lt X Y))++B8 lt (X.drop (cutAt lt X Y)) (Y.drop ((X.length+Y.length) / 2-cutAt lt X Y)):=by
 obtain ⟨c1,c2,c3⟩:=Ct lt X Y;obtain ⟨n,a⟩:∃ n,X.length+Y.length=n+1:=⟨X.length+Y.length-1,by omega⟩
 unfold B8;rw [a,Jb,ak ah,ak ah,ak ah,<- a];rw [Ee lt n _ (X.take _) _ (by simp only [dY];omega) (dU _),Ee lt n _ (X.drop _) _ (by simp only [fj];omega) (dU _)]
def yX (lt:α->α->Bool):Nat->List α->List α
 | 0,l=>BB lt l
 | n+1,l=>if 20<=l.length then BB lt (l.take 20)++yX lt n (l.drop 20) else BB lt l
def lS (lt:α->α->Bool) (bs:Nat):Nat->List α->List α
 | 0,l=>l
 | n+1,l=>if 2*bs<=l.length then B8 lt (l.take bs) ((l.drop bs).take bs)++lS lt bs n (l.drop (2*bs)) else if bs < l.length then B8 lt (l.take bs) (l.drop bs) else l
def Cu (lt:α->α->Bool):Nat->Nat->List α->List α
 | 0,_,l=>l
 | n+1,bs,l=>if bs < l.length then Cu lt n (2*bs) (lS lt bs l.length l) else l
def B0 (lt:α->α->Bool) (l:List α):List α:=Cu lt l.length 20 (yX lt l.length l)
theorem EC (lt:α->α->Bool):∀ (n:Nat) (l:List α),(yX lt n l).Perm l
 | 0,l=>yI lt l
 | n+1,l=>by
  unfold yX;split
  ·refine ((yI lt _).append (EC lt n _)).trans ?_;rw [jY]
  ·exact yI lt l
theorem BM (lt:α->α->Bool) (bs:Nat):∀ (n:Nat) (l:List α),(lS lt bs n l).Perm l
 | 0,l=>.refl _
 | n+1,l=>by
  unfold lS;split
  ·refine ((TL lt _ _).append (BM lt bs n _)).trans (Perm.of_eq ?_);rw [cQ,show l.drop (2*bs)=(l.drop bs).drop bs by rw [drop_drop];congr 1;omega,jY,jY]
  split
  ·refine (TL lt _ _).trans ?_;rw [jY]
  ·exact .refl _
theorem NL (lt:α->α->Bool):∀ (n bs:Nat) (l:List α),(Cu lt n bs l).Perm l
 | 0,_,l=>.refl _
 | n+1,bs,l=>by
  unfold Cu;split
  ·exact (NL lt n _ _).trans (BM lt bs _ l)
  ·exact .refl _
theorem uN (lt:α->α->Bool) (l:List α):(B0 lt l).Perm l:=(NL lt _ _ _).trans (EC lt _ _)
theorem aaX (lt:α->α->Bool) (n:Nat) (l:List α):(yX lt n l).length=l.length:=(EC lt n l).length_eq
theorem uF (lt:α->α->Bool) (bs n:Nat) (l:List α):(lS lt bs n l).length=l.length:=(BM lt bs n l).length_eq
theorem QY (lt:α->α->Bool) (l:List α):(B0 lt l).length=l.length:=(uN lt l).length_eq
inductive Blk (lt:α->α->Bool) (bs:Nat):List α->Prop
 | last (l:List α):l.length<=bs->uU lt l->Blk lt bs l
 | more (A B:List α):A.length=bs->uU lt A->Blk lt bs B->Blk lt bs (A++B)
theorem Jw {lt:α->α->Bool} (a:Ord lt):∀ (n:Nat) (l:List α),l.length<=n->Blk lt 20 (yX lt n l)
 | 0,l,h=>.last _ (by simp only [yX,xH];omega) (Kg a _)
 | n+1,l,h=>by
  unfold yX;split
  ·exact .more _ _ (by rw [xH,dY];omega) (Kg a _) (Jw a n _ (by simp only [fj];omega))
  ·exact .last _ (by rw [xH];omega) (Kg a _)
theorem Gr {lt:α->α->Bool} (b:Ord lt) {bs:Nat} (g:0 < bs):∀ (n:Nat) (l:List α),l.length<=n->Blk lt bs l->Blk lt (2*bs) (lS lt bs n l)
 | 0,l,h,a=>by
  have:l=[]:=length_eq_zero_iff.1 ah;subst this;exact .last _ (by simp [lS]) (by simp [lS,uU])
 | n+1,l,h,a=>by
  unfold lS;cases a with
  | last _ h1 h2 =>
   rw [ak ah,ak ah];exact .last _ ah h2
  | more A B h1 h2 d =>
   have i:(A++B).take bs=A:=by rw [<- h1];simp
   have t2:(A++B).drop bs=B:=by rw [<- h1];simp
   have t3:(A++B).drop (2*bs)=B.drop bs:=by rw [show 2*bs=bs+bs by omega,<- drop_drop,t2]
   rw [i,t2,t3];cases d with
   | last _ k1 k2 =>
    split
    ·rename_i a;have:B.length=bs:=by rw [cm] at a;omega
     rw [take_of_length_le ah,drop_of_length_le ah];have e:lS lt bs n ([]:List α)=[]:=length_eq_zero_iff.1 (by rw [uF];rfl);rw [e,append_nil];exact .last _ (by rw [Eh];omega) (QT b h2 k2)
    split
    ·exact .last _ (by rw [Eh];omega) (QT b h2 k2)
    ·rename_i a c;rw [cm] at c;have:B=[]:=length_eq_zero_iff.1 ah;subst this;rw [append_nil];exact .last _ ah h2
   | more B C k1 k2 k3 =>
    rw [aq (by simp only [cm];omega)];rw [show (B++C).take bs=B by rw [<- k1];simp,show (B++C).drop bs=C by rw [<- k1];simp];exact .more _ _ (by rw [Eh];omega) (QT b h2 k2) (Gr b g n C (by simp only [cm] at h;omega) k3)
theorem Ro {lt:α->α->Bool} {p:α->Bool} (hp:Ud lt p):∀ (n:Nat) (l:List α),(yX lt n l).filter p=l.filter p
 | 0,l=>Kf hp l
 | n+1,l=>by
  unfold yX;split
  ·rw [mK,Kf hp,Ro hp n,<- mK,jY]
  ·exact Kf hp l
theorem Gs {lt:α->α->Bool} (a:Ord lt) {p:α->Bool} (hp:Ud lt p) {bs:Nat}:∀ (n:Nat) (l:List α),Blk lt bs l->(lS lt bs n l).filter p=l.filter p
 | 0,l,b=>rfl
 | n+1,l,b=>by
  unfold lS;cases b with
  | last _ h1 h2 =>
   split
   ·have:l.length=0\/l.length≠0:=ah
    have d:l=[]:=length_eq_zero_iff.1 ah;subst d;simp only [take_nil,drop_nil,LM,nil_append];exact Gs a hp n _ (.last _ (by simp) (by simp [uU]))
   ·rw [ak ah]
  | more A B h1 h2 c =>
   have g:(A++B).take bs=A:=by rw [<- h1];simp
   have t2:(A++B).drop bs=B:=by rw [<- h1];simp
   have t3:(A++B).drop (2*bs)=B.drop bs:=by rw [show 2*bs=bs+bs by omega,<- drop_drop,t2]
   rw [g,t2,t3];cases c with
   | last _ k1 k2 =>
    split
    ·rename_i b;have:B.length=bs:=by rw [cm] at b;omega
     rw [take_of_length_le ah,drop_of_length_le ah];have e:lS lt bs n ([]:List α)=[]:=length_eq_zero_iff.1 (by rw [uF];rfl);rw [e,append_nil,QS a hp h2 k2]
    split
    ·rw [QS a hp h2 k2]
    ·rfl
   | more B C k1 k2 k3 =>
    rw [aq (by simp only [cm];omega)];rw [show (B++C).take bs=B by rw [<- k1];simp,show (B++C).drop bs=C by rw [<- k1];simp];rw [mK,QS a hp h2 k2,Gs a hp n C k3,<- mK,cQ]
theorem Blk.srt {lt:α->α->Bool} {bs:Nat} {l:List α} (h:Blk lt bs l) (a:l.length<=bs):uU lt l:=by
 cases h with
 | last _ h1 h2=>exact h2
 | more A B h1 h2 h3 =>
  rw [cm] at a;have:B=[]:=length_eq_zero_iff.1 ah;subst this;rwa [append_nil]
theorem RL {lt:α->α->Bool} (a:Ord lt):∀ (n bs:Nat) (l:List α),0 < bs->l.length<=n+bs->Blk lt bs l->uU lt (Cu lt n bs l)
 | 0,bs,l,_,hl,h=>h.srt ah
 | n+1,bs,l,hb,hl,h=>by
  unfold Cu;split
  ·exact RL a n _ _ ah (by rw [uF];omega) (Gr a hb _ l (dU _) h)
  ·exact h.srt ah
theorem RK {lt:α->α->Bool} (a:Ord lt) {p:α->Bool} (hp:Ud lt p):∀ (n bs:Nat) (l:List α),0 < bs->Blk lt bs l->(Cu lt n bs l).filter p=l.filter p
 | 0,bs,l,_,h=>rfl
 | n+1,bs,l,hb,h=>by
  unfold Cu;split
  ·rw [RK a hp n _ _ ah (Gr a hb _ l (dU _) h),Gs a hp _ l h]
  ·rfl
theorem Xk {lt:α->α->Bool} (a:Ord lt) {p:α->Bool} (hp:Ud lt p) (l:List α):(B0 lt l).filter p=l.filter p:=by
 rw [B0,RK a hp _ _ _ ah (Jw a _ l (dU _)),Ro hp]
theorem Jc {lt:α->α->Bool} (a:Ord lt) (l:List α):uU lt (B0 lt l):=RL a _ _ _ ah (by rw [aaX];omega) (Jw a _ l (dU _))
theorem akd {lt:α->α->Bool} (d:Ord lt):∀ {l m:List α},uU lt l->uU lt m->(∀ p,Ud lt p->l.filter p=m.filter p)->l=m:=by
 have n:∀ x,Ud lt fun a=>!lt a x&&!lt x a:=fun x a b i j=>by
  simp only [cU,iK] at i j;exact d.Xm b x a j.2 i.1
 have hx:∀ x,(!lt x x&&!lt x x)=true:=fun x=>by simp [d.refl]
 have c:∀ {l m:List α},(∀ p,Ud lt p->l.filter p=m.filter p)->∀ x∈l,x∈m:=fun {l m} h x hm=>by
  have:=(mem_filter (p:=fun a=>!lt a x&&!lt x a)).2 ⟨hm,hx x⟩;rw [h _ (n x)] at this;exact (mem_filter.1 this).1
 intro l;induction l with
 | nil =>
  intro m _ _ h;cases m with
  | nil=>rfl
  | cons y s=>cases c (fun p hp=>(h p hp).symm) y (mem_cons_self ..)
 | cons x r ih =>
  intro m o t h;cases m with
  | nil=>cases c h x (mem_cons_self ..)
  | cons y s =>
   have k1:=iL.1 o;have k2:=iL.1 t;have u:lt y x=false:=by
    rcases mem_cons.1 (c (fun p hp=>(h p hp).symm) y (mem_cons_self ..)) with rfl | hm
    ·exact d.refl _
    ·exact k1.1 y hm
   have g:lt x y=false:=by
    rcases mem_cons.1 (c h x (mem_cons_self ..)) with rfl | hm
    ·exact d.refl _
    ·exact k2.1 x hm
   have e:=h _ (n x);rw [filter_cons_of_pos (p:=fun a=>!lt a x&&!lt x a) (hx x),filter_cons_of_pos (p:=fun a=>!lt a x&&!lt x a) (by simp [u,g])] at e;obtain ⟨rfl,_⟩:=List.cons.inj e
   rw [ih k1.2 k2.2 fun p hp=>by
    have:=h p hp;cases q:p x
    ·rwa [filter_cons_of_neg (by simp [q]),filter_cons_of_neg (by simp [q])] at this
    ·rw [filter_cons_of_pos q,filter_cons_of_pos q] at this
     exact (List.cons.inj this).2]
theorem ake {lt:α->α->Bool} (a:Ord lt) {l m:List α} (hm:uU lt m) (b:∀ p,Ud lt p->m.filter p=l.filter p):B0 lt l=m:=
 akd a (Jc a l) hm fun p hp=>by rw [Xk a hp,b p hp]
def VW (L U M V R:List α) (i:Nat):List α:=L++(V.take i++U.drop i)++M++(U.take i++V.drop i)++R
theorem adf (L U M V R:List α):VW L U M V R 0=L++U++M++V++R:=by simp [VW]
theorem afO (L U M V R:List α) (h:U.length=V.length):VW L U M V R U.length=L++V++M++U++R:=by
 have a:V.take U.length=V:=by rw [h];exact jr
 have b:V.drop U.length=[]:=by rw [h];exact nx
 simp [VW,a,b]
theorem wV (P:List α) (u:α) (Q:List α) {k:Nat} (h:k=P.length):(P++u :: Q)[k]?=some u:=by subst h;simp
theorem yS (P:List α) (u v:α) (Q:List α) {k:Nat} (h:k=P.length):(P++u :: Q).set k v=P++v :: Q:=by subst h;simp
theorem ade (L U M V R:List α) (h:U.length=V.length) {a b:Nat} (ha:a=L.length) (hb:b=L.length+U.length+M.length) {i:Nat} (g:i < U.length) :
  (VW L U M V R i).length=L.length+U.length+M.length+V.length+R.length/\∃ u v,(VW L U M V R i)[a+i]?=some u/\(VW L U M V R i)[b+i]?=some v/\VW L U M V R (i+1)=((VW L U M V R i).set (a+i) v).set (b+i) u:=by
 have c:i < V.length:=ah
 refine ⟨by simp only [VW,cm,dY,fj];omega,U[i],V[i],?_⟩;have d:VW L U M V R i=(L++V.take i)++U[i] :: ((U.drop (i+1)++M++U.take i)++V[i] :: (V.drop (i+1)++R)):=by
  simp only [VW,drop_eq_getElem_cons g,drop_eq_getElem_cons c,cQ,cons_append]
 have e2:VW L U M V R (i+1)=(L++V.take i)++V[i] :: ((U.drop (i+1)++M++U.take i)++U[i] :: (V.drop (i+1)++R)):=by
  simp only [VW,l7 g,l7 c,cQ,cons_append,nil_append]
 have k1:a+i=(L++V.take i).length:=by simp only [cm,dY];omega
 have k2:∀ x,b+i=(L++V.take i++x :: (U.drop (i+1)++M++U.take i)).length:=by
  intro x;simp only [cm,length_cons,dY,fj];omega
 have e:∀ x y,(L++V.take i)++x :: ((U.drop (i+1)++M++U.take i)++y :: (V.drop (i+1)++R))=(L++V.take i++x :: (U.drop (i+1)++M++U.take i))++y :: (V.drop (i+1)++R):=by
  intro x y;simp only [cQ,cons_append]
 refine ⟨?_,?_,?_⟩
 ·rw [d];exact wV _ _ _ k1
 ·rw [d,e];exact wV _ _ _ (k2 _)
 ·rw [d,yS _ _ _ _ k1,e,yS _ _ _ _ (k2 _),e2,e]
def mj (L:List α) (x:α) (P R:List α) (i:Nat):List α:=L++P.take (P.length-i)++x :: (P.drop (P.length-i)++R)
theorem JS (L:List α) (x:α) (P R:List α) {i:Nat} (hi:i < P.length) {a b:Nat} (ha:a=L.length+P.length-i) (hb:b+1=a) :
  ∃ v,(mj L x P R i)[a]?=some x/\(mj L x P R i)[b]?=some v/\P[P.length-i-1]?=some v/\mj L x P R (i+1)=((mj L x P R i).set a v).set b x:=by
 obtain ⟨k,g⟩:∃ k,P.length-i=k+1:=⟨P.length-i-1,by omega⟩
 have c:k < P.length:=ah
 refine ⟨P[k],?_⟩;have d:mj L x P R i=(L++P.take k)++P[k] :: x :: (P.drop (k+1)++R):=by
  simp only [mj,g,l7 c,cQ,cons_append,nil_append]
 have e2:mj L x P R (i+1)=(L++P.take k)++x :: P[k] :: (P.drop (k+1)++R):=by
  simp only [mj,show P.length-(i+1)=k by omega,drop_eq_getElem_cons c,cQ,cons_append]
 have k1:b=(L++P.take k).length:=by simp only [cm,dY];omega
 have k2:∀ y,a=(L++P.take k++[y]).length:=by intro y;simp only [cm,dY,length_cons,length_nil];omega
 have e:∀ y z,(L++P.take k)++y :: z :: (P.drop (k+1)++R)=(L++P.take k++[y])++z :: (P.drop (k+1)++R):=by
  intro y z;simp only [cQ,cons_append,nil_append]
 refine ⟨?_,?_,?_,?_⟩
 ·rw [d,e];exact wV _ _ _ (k2 _)
 ·rw [d];exact wV _ _ _ k1
 ·rw [g];exact fO c
 ·rw [d,e,yS _ _ _ _ (k2 _),<- e,yS _ _ _ _ k1,e2]
theorem JT (L:List α) (x:α) (P R:List α):mj L x P R 0=L++P++x :: R:=by simp [mj]
theorem XY (L:List α) (x:α) (P R:List α):mj L x P R P.length=L++x :: (P++R):=by simp [mj]
theorem XZ (L:List α) (x:α) (P R:List α) (i:Nat):(mj L x P R i).length=L.length+P.length+R.length+1:=by
 simp only [mj,cm,length_cons,dY,fj];omega
def T8 (L:List α) (x:α) (P R:List α) (i:Nat):List α:=L++P.take i++x :: (P.drop i++R)
theorem adD (L:List α) (x:α) (P R:List α) {i:Nat} (e:i < P.length) {a b:Nat} (ha:a=L.length+i) (hb:b=a+1) :
  ∃ v,(T8 L x P R i)[a]?=some x/\(T8 L x P R i)[b]?=some v/\T8 L x P R (i+1)=((T8 L x P R i).set a v).set b x:=by
 refine ⟨P[i],?_⟩;have c:T8 L x P R i=(L++P.take i)++x :: P[i] :: (P.drop (i+1)++R):=by
  simp only [T8,drop_eq_getElem_cons e,cQ,cons_append]
 have e2:T8 L x P R (i+1)=(L++P.take i)++P[i] :: x :: (P.drop (i+1)++R):=by
  simp only [T8,l7 e,cQ,cons_append,nil_append]
 have k1:a=(L++P.take i).length:=by simp only [cm,dY];omega
 have k2:∀ y,b=(L++P.take i++[y]).length:=by intro y;simp only [cm,dY,length_cons,length_nil];omega
 have d:∀ y z,(L++P.take i)++y :: z :: (P.drop (i+1)++R)=(L++P.take i++[y])++z :: (P.drop (i+1)++R):=by
  intro y z;simp only [cQ,cons_append,nil_append]
 refine ⟨?_,?_,?_⟩
 ·rw [c];exact wV _ _ _ k1
 ·rw [c,d];exact wV _ _ _ (k2 _)
 ·rw [c,yS _ _ _ _ k1,d,yS _ _ _ _ (k2 _),e2,d]
theorem adE (L:List α) (x:α) (P R:List α):T8 L x P R 0=L++x :: (P++R):=by simp [T8]
theorem afY (L:List α) (x:α) (P R:List α):T8 L x P R P.length=L++P++x :: R:=by simp [T8]
theorem afZ (L:List α) (x:α) (P R:List α) (i:Nat):(T8 L x P R i).length=L.length+P.length+R.length+1:=by
 simp only [T8,cm,length_cons,dY,fj];omega
theorem Wz (lt:α->α->Bool) (x:α):∀ (Q:List α) (i:Nat),i<=Q.length->(∀ j v,j < i->Q[j]?=some v->lt x v=true)->(∀ v,Q[i]?=some v->lt x v=false)->Ae lt x Q=Q.take i++x :: Q.drop i
 | [],i,h,_,_=>by
  have:i=0:=by simpa using h
  subst this;rfl
 | y :: Q,0,_,_,h=>by
  have:=h y rfl;simp [Ae,this]
 | y :: Q,i+1,hl,h1,h2=>by
  have b:=h1 0 y ah rfl;have c:=Wz lt x Q i (by simpa using hl) (fun j v hj a=>h1 (j+1) v ah (by simpa using a)) (fun v a=>h2 v (by simpa using a));simp [Ae,b,c]
theorem Od (lt:α->α->Bool):∀ (X R:List α) (k:Nat) (h:k < X.length),tF lt R (X.take (k+1))=Ae lt X[k] (tF lt R (X.take k))
 | [],_,k,h=>by simp at h
 | x :: X,R,0,h=>by simp [tF]
 | x :: X,R,k+1,h=>by
  simp only [take_succ_cons,tF,getElem_cons_succ];exact Od lt X _ k (by simpa using h)
def Im (lt:α->α->Bool) (L X R:List α) (k:Nat):List α:=L++(tF lt [] (X.take k)).reverse++X.drop k++R
theorem abH (lt:α->α->Bool) (L X R:List α):Im lt L X R 1=L++X++R:=by
 cases X with
 | nil=>simp [Im,tF]
 | cons x X=>simp [Im,tF,Ae]
theorem abF (lt:α->α->Bool) (L X R:List α) {k:Nat} (h:X.length<=k):Im lt L X R k=L++BB lt X++R:=by
 simp [Im,BB,take_of_length_le h,drop_of_length_le h]
theorem abG (lt:α->α->Bool) (L X R:List α) (k:Nat):(Im lt L X R k).length=L.length+X.length+R.length:=by
 simp only [Im,cm,length_reverse,Sb,dY,fj,length_nil];omega
theorem Yk (lt:α->α->Bool) (L X R:List α) {k:Nat} (h:k < X.length):Im lt L X R k=mj L X[k] (tF lt [] (X.take k)).reverse (X.drop (k+1)++R) 0:=by
 rw [JT];simp only [Im,drop_eq_getElem_cons h,cQ,cons_append]
theorem Yl (lt:α->α->Bool) (L X R:List α) {k:Nat} (h:k < X.length) {P:List α} (g:P=(tF lt [] (X.take k)).reverse) {i:Nat} (b:i<=P.length) (d:∀ j v,j < i->P[P.length-j-1]?=some v->lt X[k] v=true) (e:i < P.length->∀ v,P[P.length-i-1]?=some v->lt X[k] v=false) :
  Im lt L X R (k+1)=mj L X[k] P (X.drop (k+1)++R) i:=by
 subst g;generalize l:tF lt [] (X.take k)=Q at *;have hr:∀ j,j < Q.length->Q.reverse[Q.reverse.length-j-1]?=Q[j]?:=by
  intro j c;rw [length_reverse,getElem?_reverse ah];congr 1;omega
 have n:=Wz lt X[k] Q i (by simpa using b) (fun j v c a=>d j v c (by rw [hr j (dz a)];exact a)) (fun v a=>e (by rw [length_reverse];exact dz a) v (by rw [hr i (dz a)];exact a));have hil:i<=Q.length:=by simpa using b
 simp only [Im,Od lt X [] k h,l,n,mj,reverse_append,reverse_cons,length_reverse];have o:Q.reverse.take (Q.length-i)=(Q.drop i).reverse:=by rw [take_reverse];congr 2;omega
 have t2:Q.reverse.drop (Q.length-i)=(Q.take i).reverse:=by rw [drop_reverse];congr 2;omega
 rw [o,t2];simp only [cQ,cons_append,nil_append]
end
theorem iy {A:Type} {c:A->List D} {l:List A} {i j:Nat} {u v:A} (a:l[i]?=some u) (b:l[j]?=some v) :
  (l.map c).getD i []=c u/\(l.map c).getD j []=c v/\((l.map c).set i (c v)).getD j []=c v/\((l.map c).set i (c v)).set j (c u)=((l.set i v).set j u).map c:=by
 have h1:(l.map c)[i]?=some (c u):=by simp [a]
 have h2:(l.map c)[j]?=some (c v):=by simp [b]
 have d:=dz a;refine ⟨by simp [getD,a],by simp [getD,b],?_,by rw [map_set,map_set]⟩;rw [getD,getElem?_set];by_cases h:i=j
 ·subst h;simp [d]
 ·simp [h,b]
theorem XW {A:Type} (lt:A->A->Bool) (n bs:Nat) (l:List A) (h:l.length<=bs):Cu lt n bs l=l:=by
 cases n with
 | zero=>rfl
 | succ n=>rw [Cu,ak ah]
theorem UG {cs:List D} (h:tZ cs=True) (e:Env) (bw:Bool) (gs:List Nat) (k:Nat):cs.map (cv e bw gs k)=cs:=(map_congr_left (g:=id) fun d a=>Pl.conv bw gs e.o k d (IL (of_eq_true h) d a)).trans (map_id _)
structure wQ {A:Type} (τ:TypeId->TypeId) (ρ:FuncId->FuncId) (c0:A->List D) (z b:Nat):Prop where
 r1:Mi prog τ ρ 375 5
 r2:Mi prog τ ρ 346 5
 r3:Mi prog τ ρ 301 4
 r4:Mi prog τ ρ 302 5
 r5:Mi prog τ ρ 234 3
 r6:Mi prog τ ρ 121 2
 t0:τ 0=0
 t3:τ 3=3
 t4:τ 4=4
 t85:τ 85=85
 sl:dV prog (τ 44)=.slice z b true
 el:gC prog (τ 124)=some ⟨true,z⟩
 ne:(τ 124==D1||τ 124==D2)=false
 nv:(τ 124==Lf)=false
 pos:1<=z
 len:∀ x,(c0 x).length=z
 ok:∀ x,∀ d∈c0 x,bG d
 nm:∀ x,D.bK (c0 x)=[]
 pl:∀ x,tZ (c0 x)
theorem wQ.tk {A:Type} {τ:TypeId->TypeId} {ρ:FuncId->FuncId} {c0:A->List D} {z by_:Nat} (H:wQ τ ρ c0 z by_) (x:A):(c0 x).take z=c0 x:=take_of_length_le (Nat.le_of_eq (H.len x))
theorem wQ.dr {A:Type} {τ:TypeId->TypeId} {ρ:FuncId->FuncId} {c0:A->List D} {z by_:Nat} (H:wQ τ ρ c0 z by_) (x:A):(c0 x).drop z=[]:=drop_eq_nil_of_le (Nat.le_of_eq (H.len x))
theorem wQ.pT {A:Type} {τ:TypeId->TypeId} {ρ:FuncId->FuncId} {c0:A->List D} {z by_:Nat} (H:wQ τ ρ c0 z by_) (x:A):tZ (c0 x)=True:=eq_true (H.pl x)
section
variable {A:Type} {τ:TypeId->TypeId} {ρ:FuncId->FuncId} {c0:A->List D} {z by_:Nat} (H:wQ τ ρ c0 z by_)
include H
theorem ZQ (f:Nat->List A) (a b n N:Nat) (g:D) (hN:N < 2 ^ 40) (hn:n<=N) (y:∀ i,i < n->(f i).length=N/\∃ u v,(f i)[a+i]?=some u/\(f i)[b+i]?=some v/\f (i+1)=((f i).set (a+i) v).set (b+i) u) :
  Sq (ρ 375) [.own z ((f 0).map c0)] [.ref 0,.I a,.I b,.I n,g] [.own z ((f n).map c0)] (.bT []):=by
 have hz1:=H.pos;have e:=H.ne;simp only [D1,D2] at e;have j:=H.nv;simp only [Lf] at j;have hx:=a5 H.sl H.el H.len H.nm (a5 H.tk H.dr H.pT e j);refine IA 38 5 [] (H.r1) mixed func375 fun d=>?_;simp only [I7,Zp,GF,I8,Zo,toList_toArray,map_cons,map_nil,H.t0,H.t3,H.t4,H.t85,gp,Bool.not_true,Bool.not_false,Bool.true_or,Bool.false_or,Bool.and_true,fc,cU] at d |-;refine sm hx ?_;refine aM.wv n [0,1,2,3] [] (fun i=>[(10,.I i)]) (fun i=>[(0,.own z ((f i).map c0))]) ?_ ?_ ?_
 ·exact fL hx
 ·intro i _ s l r _;obtain ⟨hl,u,v,t,w,B⟩:=y i s;have ha:=dz t;have hb:=dz w;have J:IntKind.wrap .i64 ((a:Int)+i)=((a+i:Nat):Int):=gN;have K:IntKind.wrap .i64 ((b:Int)+i)=((b+i:Nat):Int):=gN;obtain ⟨C,E,F,G⟩:=iy (c:=c0) t w;generalize a+i=p at *;generalize b+i=q at *;simp only [go_sem,seval,hx,l,J,K,length_set,C,E,F,r];(with_reducible and_intros)<;>first|exact eZ.mk (by simp only [d])|exact .dq|omega|exact H.ok _|exact H.pl _|skip
  refine av.v s ?_;exact fL (a3 hx B G)
 ·intro _ o _;exact fL (a2 hx o)
theorem B2 (L U M V R:List A) (h:U.length=V.length) (a b n:Nat) (d:a=L.length) (e:b=L.length+U.length+M.length) (l:n=U.length) (g:D) (c:L.length+U.length+M.length+V.length+R.length < 2 ^ 40) :
  Sq (ρ 375) [.own z ((L++U++M++V++R).map c0)] [.ref 0,.I a,.I b,.I n,g] [.own z ((L++V++M++U++R).map c0)] (.bT []):=by
 subst l;have:=ZQ H (VW L U M V R) a b U.length _ g c ah (fun i j=>ade L U M V R h d e j);rwa [adf,afO L U M V R h] at this
theorem QI (L U V R:List A) (a m b:Nat) (ha:a=L.length) (hm:m=L.length+U.length) (hb:b=L.length+U.length+V.length) (B:U.length≠0) (C:V.length≠0) (g:FuncId) (cs:List D) (t:D.bK cs=[]) (j:tZ cs=True) (u:∀ (F:Nat->Option Nat) (E:Nat->Bool),kM F E cs cs=True) (hN:L.length+U.length+V.length+R.length < 2 ^ 40) :
  Sq (ρ 346) [.own z ((L++U++V++R).map c0)] [.ref 0,.I a,.I m,.I b,.fn g cs] [.own z ((L++V++U++R).map c0)] (.bT []):=by
 have w1:IntKind.wrap .i64 ((m:Int)-a)=((U.length:Nat):Int):=gN;have G:IntKind.wrap .i64 ((b:Int)-m)=((V.length:Nat):Int):=gN;have hz1:=H.pos;have l:=H.ne;simp only [D1,D2] at l;have n:=H.nv;simp only [Lf] at n;have hx:=a5 H.sl H.el H.len H.nm (a5 H.tk H.dr H.pT l (a5 n t j u (UG j)));refine IA 58 5 [] (H.r2) mixed func346 fun v=>?_;simp only [I7,Zp,GF,I8,Zo,toList_toArray,map_cons,map_nil,H.t0,H.t3,H.t4,H.t85,gp,Bool.not_true,Bool.not_false,Bool.true_or,Bool.false_or,Bool.and_true,fc,cU] at v |-;refine sm (a3 hx w1 G) ?_;refine aM.vh (T:=List A × List A × List A × List A) [0,2,4] [] (fun s=>[(10,.I s.2.1.length),(11,.I s.2.2.1.length)]) (fun s=>[(0,.own z ((s.1++s.2.1++s.2.2.1++s.2.2.2).map c0))])
  (fun s=>s.1++s.2.2.1++s.2.1++s.2.2.2=L++V++U++R/\s.1.length+s.2.1.length=m/\s.2.1.length≠0/\s.2.2.1.length≠0) (fun s=>s.2.1.length+s.2.2.1.length) (L,U,V,R) ?_ ?_ ?_
 ·exact ⟨rfl,hm.symm,B,C⟩
 ·exact fL hx
 ·rintro ⟨e,d,c,i⟩ ⟨h1,h2,h3,h4⟩;dsimp only at h1 h2 h3 h4;have hlen:e.length+d.length+c.length+i.length=L.length+U.length+V.length+R.length:=by
   have:=congrArg length h1;simp only [cm] at this;omega
  rcases Nat.lt_trichotomy d.length c.length with hlt | heq | hgt
  ·have p:((d.length:Int)==(c.length:Int))=false:=by simp;omega
   have w:decide ((c.length:Int) < (d.length:Int))=false:=jL;have q:IntKind.wrap .i64 ((m:Int)-d.length)=((e.length:Nat):Int):=gN;have J:IntKind.wrap .i64 ((m:Int)+c.length)=((m+c.length:Nat):Int):=gN;have K:IntKind.wrap .i64 (((m+c.length:Nat):Int)-d.length)=((m+c.length-d.length:Nat):Int):=gN;have r:IntKind.wrap .i64 ((c.length:Int)-d.length)=((c.length-d.length:Nat):Int):=gN;have o:=B2 H e d (c.take (c.length-d.length)) (c.drop (c.length-d.length)) i (by simp only [fj];omega) e.length (m+c.length-d.length) d.length rfl (by simp only [dY];omega) rfl;have e0:e++d++c++i=e++d++c.take (c.length-d.length)++c.drop (c.length-d.length)++i:=by
    simp only [cQ];rw [<- cQ (c.take _),jY]
   simp only [go_sem,seval,hx,bne,p,w,q,J,K,r];refine aD.iT [] [0] false (by simp) ?_;refine sm hx ?_;rw [e0];refine cY.gB (o _ (by simp only [dY,fj];omega)) ?_;refine sm (a2 hx r) ?_;refine ⟨(e,c.drop (c.length-d.length),c.take (c.length-d.length),d++i),⟨?_,?_,?_,?_⟩,?_,?_⟩
   ·rw [<- h1];simp only [cQ];rw [<- cQ (c.take _),jY]
   ·simp only [fj];omega
   ·simp only [fj];omega
   ·simp only [dY];omega
   ·simp only [go_sem,seval,hx,fj,dY];exact ⟨⟨by omega,by omega⟩,by simp only [cQ]⟩
   ·simp only [fj,dY];omega
  ·have p:((d.length:Int)==(c.length:Int))=true:=by simp;omega
   have q:IntKind.wrap .i64 ((m:Int)-d.length)=((e.length:Nat):Int):=gN;have o:=B2 H e d [] c i heq e.length m d.length rfl (by simp only [length_nil];omega) rfl;have e0:e++d++c++i=e++d++[]++c++i:=by simp
   have y:L++V++U++R=e++c++[]++d++i:=by rw [<- h1];simp
   simp only [go_sem,seval,hx,bne,p];refine dW.id ?_;refine sm (a2 hx q) ?_;refine aD.iT [] [0] false (by simp) ?_;refine sm hx ?_;rw [e0,y];refine cY.gB (o _ (by simp only [length_nil];omega)) ?_;exact fL hx
  ·have p:((d.length:Int)==(c.length:Int))=false:=by simp;omega
   have w:decide ((c.length:Int) < (d.length:Int))=true:=iC;have q:IntKind.wrap .i64 ((m:Int)-d.length)=((e.length:Nat):Int):=gN;have r:IntKind.wrap .i64 ((d.length:Int)-c.length)=((d.length-c.length:Nat):Int):=gN;have o:=B2 H e (d.take c.length) (d.drop c.length) c i (by simp only [dY];omega) e.length m c.length rfl (by simp only [dY,fj];omega) (by simp only [dY];omega);have e0:e++d++c++i=e++d.take c.length++d.drop c.length++c++i:=by
    simp only [cQ];rw [<- cQ (d.take _),jY]
   simp only [go_sem,seval,hx,bne,p,w,q,r];refine aD.iT [] [0] false (by simp) ?_;refine sm hx ?_;rw [e0];refine cY.gB (o _ (by simp only [dY,fj];omega)) ?_;refine sm (a2 hx r) ?_;refine ⟨(e++c,d.drop c.length,d.take c.length,i),⟨?_,?_,?_,?_⟩,?_,?_⟩
   ·rw [<- h1];simp only [cQ];rw [<- cQ (d.take _),jY]
   ·simp only [cm,fj];omega
   ·simp only [fj];omega
   ·simp only [dY];omega
   ·simp only [go_sem,seval,hx,fj,dY];omega
   ·simp only [fj,dY];omega
theorem Oc (lt:A->A->Bool) (g:FuncId) (cs:List D) (F:D.bK cs=[]) (r:tZ cs=True) (G:∀ (rh:Nat->Option Nat) (lv:Nat->Bool),kM rh lv cs cs=True) (hg:∀ x y:A,∃ c:Int,Sq g [] (.agg (c0 x) :: .agg (c0 y) :: cs) [] (.I c)/\decide (c < 0)=lt x y) (L X R:List A) (a b:Nat) (ha:a=L.length) (hb:b=L.length+X.length) (hN:L.length+X.length+R.length < 2 ^ 40) :
  Sq (ρ 301) [.own z ((L++X++R).map c0)] [.ref 0,.I a,.I b,.fn g cs] [.own z ((L++BB lt X++R).map c0)] (.bT []):=by
 have w1:IntKind.wrap .i64 ((a:Int)+1)=((a+1:Nat):Int):=gN;have hz1:=H.pos;have s:=H.ne;simp only [D1,D2] at s;have t:=H.nv;simp only [Lf] at t;have hx:=a5 H.sl H.el H.len H.nm (a5 H.tk H.dr H.pT s (a5 t F r G (UG r)));refine IA 53 4 [] (H.r3) mixed func301 fun l=>?_;simp only [I7,Zp,GF,I8,Zo,toList_toArray,map_cons,map_nil,H.t0,H.t3,H.t4,H.t85,gp,Bool.not_true,Bool.not_false,Bool.true_or,Bool.false_or,Bool.and_true,fc,cU] at l |-;refine sm (a2 hx w1) ?_;refine aM.vh (T:=Nat) [0,1,2,3] [] (fun k=>[(8,.I ((a+k:Nat):Int))]) (fun k=>[(0,.own z ((Im lt L X R k).map c0))]) (fun k=>k<=X.length+1) (fun k=>X.length+1-k) 1 ah ?_ ?_
 ·simp only [go_sem,seval,hx,abH]
 ·intro k hk;rcases bZ k X.length with hlt | hge
  ·have w:decide (((a+k:Nat):Int) < (b:Int))=true:=iC;have hfl:=abG lt L X R (k+1);have u:=Yk lt L X R hlt;have d:=fun i W Y Z=>Yl lt L X R hlt (P:=(tF lt [] (X.take k)).reverse) rfl (i:=i) W Y Z;have C:(tF lt [] (X.take k)).reverse.length=k:=by simp only [length_reverse,Sb,dY,length_nil];omega
   have E:(X.drop (k+1)++R).length=X.length-(k+1)+R.length:=by simp only [cm,fj]
   generalize (tF lt [] (X.take k)).reverse=P at u d C;generalize X.drop (k+1)++R=R' at u d E;generalize X[k]=x at u d;have U:IntKind.wrap .i64 (((a+k:Nat):Int)+1)=((a+(k+1):Nat):Int):=gN;rw [u];refine sm (a2 hx w) ?_;refine aM.vh (T:=Nat) [0,1,2,3,8] [] (fun i=>[(9,.I ((a+k-i:Nat):Int))]) (fun i=>[(0,.own z ((mj L x P R' i).map c0))]) (fun i=>i<=P.length/\∀ j v,j < i->P[P.length-j-1]?=some v->lt x v=true) (fun i=>P.length-i) 0 ⟨by omega,by intro j v h;omega⟩ ?_ ?_
   ·simp only [go_sem,seval,hx,Nat.sub_zero]
   ·rintro i ⟨hi,hI⟩;rcases bZ i P.length with hil | hil
    ·have B:decide ((a:Int) < ((a+k-i:Nat):Int))=true:=iC;have S:IntKind.wrap .i64 (((a+k-i:Nat):Int)-1)=((a+k-(i+1):Nat):Int):=gN;obtain ⟨v,K,M,g3,V⟩:=JS L x P R' hil (a:=a+k-i) (b:=a+k-(i+1)) ah ah;obtain ⟨c,hc,e⟩:=hg x v;have l1:=dz K;have l2:=dz M;obtain ⟨O,Q,m3,m4⟩:=iy (c:=c0) K M;generalize a+k-i=p at *;generalize hq:a+k-(i+1)=q at *;refine sm (a5 hx B O Q S) ?_;(with_reducible and_intros)<;>first|exact eZ.mk (by simp only [l])|exact .dq|omega|exact H.ok _|exact H.pl _|skip
     refine aD.bp hc ?_;cases n:lt x v with
     | true =>
      rw [n] at e;simp only [go_sem,seval,hx,e,length_set,O,Q,m3,S];(with_reducible and_intros)<;>first|exact eZ.mk (by simp only [l])|exact .dq|omega|exact H.ok _|exact H.pl _|skip
      refine ⟨i+1,⟨hil,?_⟩,?_,by show P.length-(i+1) < P.length-i;omega⟩
      ·intro j y hj o;rcases bZ j i with h | h
       ·exact hI j y h o
       ·obtain rfl:j=i:=ah
        rw [g3] at o;cases o;exact n
      ·exact fL (a4 hx V m4 hq)
     | false =>
      rw [n] at e;have J:=d i hi hI (fun _ y o=>by rw [g3] at o;cases o;exact n);refine sm (a3 hx e U) ?_;refine ⟨k+1,by omega,?_,by show X.length+1-(k+1) < X.length+1-k;omega⟩;exact fL (a2 hx J)
    ·have B:decide ((a:Int) < ((a+k-i:Nat):Int))=false:=jL;have J:=d i hi hI (fun h=>by omega);refine sm (a3 hx B U) ?_;(with_reducible and_intros)<;>first|exact eZ.mk (by simp only [l])|exact .dq|omega|exact H.ok _|exact H.pl _|skip
     refine ⟨k+1,by omega,?_,by show X.length+1-(k+1) < X.length+1-k;omega⟩;exact fL (a2 hx J)
  ·have w:decide (((a+k:Nat):Int) < (b:Int))=false:=jL;simp only [go_sem,seval,hx,w,abF lt L X R hge]
theorem VX (lt:A->A->Bool) (g:FuncId) (cs:List D) (G:D.bK cs=[]) (o:tZ cs=True) (J:∀ (rh:Nat->Option Nat) (lv:Nat->Bool),kM rh lv cs cs=True) (hg:∀ x y:A,∃ c:Int,Sq g [] (.agg (c0 x) :: .agg (c0 y) :: cs) [] (.I c)/\decide (c < 0)=lt x y) (L:List A) (x:A) (Y R:List A) (a m b:Nat) (Z:Y.length≠0) (ha:a=L.length) (hm:m=L.length+1) (hb:b=L.length+1+Y.length) (hN:L.length+1+Y.length+R.length < 2 ^ 40) :
  Sq (ρ 302) [.own z ((L++x :: (Y++R)).map c0)] [.ref 0,.I a,.I m,.I b,.fn g cs] [.own z ((L++B8 lt [x] Y++R).map c0)] (.bT []):=by
 have w1:IntKind.wrap .i64 ((m:Int)-a)=1:=gN;rw [afH lt x Z];have hz1:=H.pos;have r:=H.ne;simp only [D1,D2] at r;have t:=H.nv;simp only [Lf] at t;have hx:=a5 H.sl H.el H.len H.nm (a5 H.tk H.dr H.pT r (a5 t G o J (UG o)));refine IA 220 5 [] (H.r4) mixed func302 fun e=>?_;simp only [I7,Zp,GF,I8,Zo,toList_toArray,map_cons,map_nil,H.t0,H.t3,H.t4,H.t85,gp,Bool.not_true,Bool.not_false,Bool.true_or,Bool.false_or,Bool.and_true,fc,cU] at e |-;refine sm (a2 hx w1) ?_;refine aM.vh (T:=Nat × Nat) [0,1,2,4] [0] (fun s=>[(10,.I ((m+s.1:Nat):Int)),(11,.I ((m+s.2:Nat):Int))]) (fun _=>[]) (fun s=>s.1<=s.2/\s.2<=Y.length/\uh (fun c=>t2 lt Y[c]? (some x)) s.1 s.2=uh (fun c=>t2 lt Y[c]? (some x)) 0 Y.length) (fun s=>s.2-s.1) (0,Y.length) ⟨Nat.zero_le _,dU _,rfl⟩ ?_ ?_
 ·simp only [go_sem,seval,hx,Nat.add_zero];omega
 ·rintro ⟨i,j⟩ ⟨h1,h2,h3⟩;dsimp only at h1 h2 h3;rcases bZ i j with hij | hij
  ·have u:decide (((m+i:Nat):Int) < ((m+j:Nat):Int))=true:=iC;obtain ⟨h,U⟩:=aQ ((i+j) / 2);have K:h < Y.length:=ah
   have P:=half (i:=m+i) (j:=m+j) ah;rw [show (m+i+(m+j)) / 2=m+h by omega] at P;have wh:IntKind.wrap .i64 (((m+h:Nat):Int)+1)=((m+(h+1):Nat):Int):=gN;have l:(L++x :: (Y++R))[a]?=some x:=wV _ _ _ ha;have n:(L++x :: (Y++R))[m+h]?=some Y[h]:=by
    rw [getElem?_append_right ah,show m+h-L.length=h+1 by omega,getElem?_cons_succ,getElem?_append_left K,fO K]
   have hp:t2 lt Y[h]? (some x)=lt Y[h] x:=by rw [fO K];rfl
   obtain ⟨c,S,d⟩:=hg Y[h] x;have l1:=dz l;have l2:=dz n;have B:=(iy (c:=c0) l l).1;have C:=(iy (c:=c0) n n).1;generalize Y[h]=y at *;cases w:lt y x with
   | true =>
    rw [w] at d hp;refine sm (a5 hx u P B C) ?_;(with_reducible and_intros)<;>first|exact eZ.mk (by simp only [e])|exact .dq|omega|exact H.ok _|exact H.pl _|skip
    refine sc (a3 hx d wh) S ?_;refine ⟨(h+1,j),⟨by show h+1<=j;omega,h2,?_⟩,?_,by show j-(h+1) < j-i;omega⟩
    ·exact (Px (p:=fun c=>t2 lt Y[c]? (some x)) hij U hp).trans h3
    ·exact fL hx
   | false =>
    rw [w] at d hp;refine sm (a5 hx u P B C) ?_;(with_reducible and_intros)<;>first|exact eZ.mk (by simp only [e])|exact .dq|omega|exact H.ok _|exact H.pl _|skip
    refine sc (a2 hx d) S ?_;refine ⟨(i,h),⟨by show i<=h;omega,by show h<=_;omega,?_⟩,?_,by show h-i < j-i;omega⟩
    ·exact (Uw (p:=fun c=>t2 lt Y[c]? (some x)) hij U hp).trans h3
    ·exact fL hx
  ·have u:decide (((m+i:Nat):Int) < ((m+j:Nat):Int))=false:=jL;obtain rfl:i=j:=ah
   rw [AU ah] at h3;rw [<- h3];have W:IntKind.wrap .i64 (((m+i:Nat):Int)-1)=((a+i:Nat):Int):=gN;have Q:(Y.take i).length=i:=by simp only [dY];omega
   have M:=fun k V=>adD L x (Y.take i) (Y.drop i++R) (i:=k) V (a:=a+k) (b:=a+(k+1)) ah ah;have O:=fun k=>afZ L x (Y.take i) (Y.drop i++R) k;have e0:L++x :: (Y++R)=T8 L x (Y.take i) (Y.drop i++R) 0:=by rw [adE,<- cQ (Y.take i),jY]
   have X:L++(Y.take i++[x]++Y.drop i)++R=T8 L x (Y.take i) (Y.drop i++R) i:=by
    have:=afY L x (Y.take i) (Y.drop i++R);rw [Q] at this;rw [this];simp only [cQ,cons_append,nil_append]
   rw [e0,X];rw [Q] at M;generalize hF:T8 L x (Y.take i) (Y.drop i++R)=F at M O;refine sm (a2 hx u) ?_;refine dW.id ?_;refine sm hx ?_;refine aM.vh (T:=Nat) [0,10] [] (fun k=>[(13,.I ((a+k:Nat):Int))]) (fun k=>[(0,.own z ((F k).map c0))]) (fun k=>k<=i) (fun k=>i-k) 0 (Nat.zero_le _) ?_ ?_
   ·simp only [go_sem,seval,hx,Nat.add_zero]
   ·intro k V;rcases bZ k i with hki | hki
    ·have E:decide (((a+k:Nat):Int) < ((a+i:Nat):Int))=true:=iC;have wk:IntKind.wrap .i64 (((a+k:Nat):Int)+1)=((a+(k+1):Nat):Int):=gN;obtain ⟨v,l,n,g3⟩:=M k hki;have l1:=dz l;have l2:=dz n;obtain ⟨B,C,m3,m4⟩:=iy (c:=c0) l n;generalize hp:a+k=p at *;generalize w:a+(k+1)=q at *;simp only [go_sem,seval,hx,W,E,wk,length_set,B,C,m3];(with_reducible and_intros)<;>first|exact eZ.mk (by simp only [e])|exact .dq|omega|exact H.ok _|exact H.pl _|skip
     refine ⟨k+1,hki,?_,by show i-(k+1) < i-k;omega⟩;simp only [go_sem,seval,hx,g3,m4,w]
    ·obtain rfl:k=i:=ah
     have E:decide (((a+k:Nat):Int) < ((a+k:Nat):Int))=false:=jL;exact fL (a3 hx W E)
theorem VY (lt:A->A->Bool) (g:FuncId) (cs:List D) (J:D.bK cs=[]) (o:tZ cs=True) (K:∀ (rh:Nat->Option Nat) (lv:Nat->Bool),kM rh lv cs cs=True) (hg:∀ x y:A,∃ c:Int,Sq g [] (.agg (c0 x) :: .agg (c0 y) :: cs) [] (.I c)/\decide (c < 0)=lt x y) (L X:List A) (y:A) (R:List A) (a m b:Nat) (Z:X.length≠0) (G:X.length≠1) (ha:a=L.length) (hm:m=L.length+X.length) (hb:b=L.length+X.length+1) (hN:L.length+X.length+1+R.length < 2 ^ 40) :
  Sq (ρ 302) [.own z ((L++X++y :: R).map c0)] [.ref 0,.I a,.I m,.I b,.fn g cs] [.own z ((L++B8 lt X [y]++R).map c0)] (.bT []):=by
 have w1:IntKind.wrap .i64 ((m:Int)-a)=((X.length:Nat):Int):=gN;have q1:((X.length:Int)==1)=false:=by simp;omega
 have w2:IntKind.wrap .i64 ((b:Int)-m)=1:=gN;rw [ac2 lt Z G y];have hz1:=H.pos;have r:=H.ne;simp only [D1,D2] at r;have t:=H.nv;simp only [Lf] at t;have hx:=a5 H.sl H.el H.len H.nm (a5 H.tk H.dr H.pT r (a5 t J o K (UG o)));refine IA 220 5 [] (H.r4) mixed func302 fun e=>?_;simp only [I7,Zp,GF,I8,Zo,toList_toArray,map_cons,map_nil,H.t0,H.t3,H.t4,H.t85,gp,Bool.not_true,Bool.not_false,Bool.true_or,Bool.false_or,Bool.and_true,fc,cU] at e |-;refine sm (a4 hx w1 q1 w2) ?_;refine aM.vh (T:=Nat × Nat) [0,1,2,4] [0] (fun s=>[(14,.I ((a+s.1:Nat):Int)),(15,.I ((a+s.2:Nat):Int))]) (fun _=>[]) (fun s=>s.1<=s.2/\s.2<=X.length/\uh (fun c=>t2 (fun y x=>!lt y x) (some y) X[c]?) s.1 s.2=uh (fun c=>t2 (fun y x=>!lt y x) (some y) X[c]?) 0 X.length) (fun s=>s.2-s.1) (0,X.length) ⟨Nat.zero_le _,dU _,rfl⟩ ?_ ?_
 ·simp only [go_sem,seval,hx,Nat.add_zero];omega
 ·rintro ⟨i,j⟩ ⟨h1,h2,h3⟩;dsimp only at h1 h2 h3;rcases bZ i j with hij | hij
  ·have u:decide (((a+i:Nat):Int) < ((a+j:Nat):Int))=true:=iC;obtain ⟨h,V⟩:=aQ ((i+j) / 2);have M:h < X.length:=ah
   have Q:=half (i:=a+i) (j:=a+j) ah;rw [show (a+i+(a+j)) / 2=a+h by omega] at Q;have wh:IntKind.wrap .i64 (((a+h:Nat):Int)+1)=((a+(h+1):Nat):Int):=gN;have l:(L++X++y :: R)[m]?=some y:=wV _ _ _ (by simp only [cm];omega);have n:(L++X++y :: R)[a+h]?=some X[h]:=by
    rw [cQ,getElem?_append_right ah,show a+h-L.length=h by omega,getElem?_append_left M,fO M]
   have hp:t2 (fun y x=>!lt y x) (some y) X[h]? = !lt y X[h]:=by rw [fO M];rfl
   obtain ⟨c,U,d⟩:=hg y X[h];have l1:=dz l;have l2:=dz n;have B:=(iy (c:=c0) l l).1;have C:=(iy (c:=c0) n n).1;generalize X[h]=x at *;cases w:lt y x with
   | false =>
    rw [w] at d hp;refine sm (a5 hx u Q B C) ?_;(with_reducible and_intros)<;>first|exact eZ.mk (by simp only [e])|exact .dq|omega|exact H.ok _|exact H.pl _|skip
    refine sc (a3 hx d wh) U ?_;refine ⟨(h+1,j),⟨by show h+1<=j;omega,h2,?_⟩,?_,by show j-(h+1) < j-i;omega⟩
    ·exact (Px (p:=(fun c=>t2 (fun y x=>!lt y x) (some y) X[c]?)) hij V hp).trans h3
    ·exact fL hx
   | true =>
    rw [w] at d hp;refine sm (a5 hx u Q B C) ?_;(with_reducible and_intros)<;>first|exact eZ.mk (by simp only [e])|exact .dq|omega|exact H.ok _|exact H.pl _|skip
    refine sc (a2 hx d) U ?_;refine ⟨(i,h),⟨by show i<=h;omega,by show h<=_;omega,?_⟩,?_,by show h-i < j-i;omega⟩
    ·exact (Uw (p:=(fun c=>t2 (fun y x=>!lt y x) (some y) X[c]?)) hij V hp).trans h3
    ·exact fL hx
  ·have u:decide (((a+i:Nat):Int) < ((a+j:Nat):Int))=false:=jL;obtain rfl:i=j:=ah
   rw [AU ah] at h3;rw [<- h3];have S:(X.drop i).length=X.length-i:=by simp only [fj]
   have hLl:(L++X.take i).length=a+i:=by simp only [cm,dY];omega
   have O:=fun k W=>JS (L++X.take i) y (X.drop i) R (i:=k) W (a:=m-k) (b:=m-(k+1)) ah ah;have P:=fun k=>XZ (L++X.take i) y (X.drop i) R k;have e0:L++X++y :: R=mj (L++X.take i) y (X.drop i) R 0:=by rw [JT,cQ L (X.take i),jY]
   have Y:L++(X.take i++[y]++X.drop i)++R=mj (L++X.take i) y (X.drop i) R (X.length-i):=by
    have:=XY (L++X.take i) y (X.drop i) R;rw [S] at this;rw [this];simp only [cQ,cons_append,nil_append]
   rw [e0,Y];rw [S] at O;generalize hF:mj (L++X.take i) y (X.drop i) R=F at O P;refine sm (a2 hx u) ?_;refine dW.id ?_;refine sm hx ?_;refine aM.vh (T:=Nat) [0,14] [] (fun k=>[(17,.I ((m-k:Nat):Int))]) (fun k=>[(0,.own z ((F k).map c0))]) (fun k=>k<=X.length-i) (fun k=>X.length-i-k) 0 (Nat.zero_le _) ?_ ?_
   ·simp only [go_sem,seval,hx,Nat.sub_zero]
   ·intro k W;rcases bZ k (X.length-i) with hki | hki
    ·have E:decide (((a+i:Nat):Int) < ((m-k:Nat):Int))=true:=iC;have wk:IntKind.wrap .i64 (((m-k:Nat):Int)-1)=((m-(k+1):Nat):Int):=gN;obtain ⟨v,l,n,g4,g3⟩:=O k hki;have l1:=dz l;have l2:=dz n;obtain ⟨B,C,m3,m4⟩:=iy (c:=c0) l n;generalize hp:m-k=p at *;generalize w:m-(k+1)=q at *;simp only [go_sem,seval,hx,E,wk,length_set,B,C,m3];(with_reducible and_intros)<;>first|exact eZ.mk (by simp only [e])|exact .dq|omega|exact H.ok _|exact H.pl _|skip
     refine ⟨k+1,hki,?_,by show X.length-i-(k+1) < X.length-i-k;omega⟩;simp only [go_sem,seval,hx,g3,m4,w]
    ·obtain rfl:k=X.length-i:=ah
     have E:decide (((a+i:Nat):Int) < ((m-(X.length-i):Nat):Int))=false:=jL;exact fL (a2 hx E)
set_option maxHeartbeats 8000000 in
set_option maxRecDepth 8000 in
theorem OZ (lt:A->A->Bool) (g:FuncId) (cs:List D) (ab:D.bK cs=[]) (K:tZ cs=True) (ac:∀ (rh:Nat->Option Nat) (lv:Nat->Bool),kM rh lv cs cs=True) (hg:∀ x y:A,∃ c:Int,Sq g [] (.agg (c0 x) :: .agg (c0 y) :: cs) [] (.I c)/\decide (c < 0)=lt x y) (n:Nat):∀ (L X Y R:List A) (a m b:Nat),X.length+Y.length<=n->X.length≠0->Y.length≠0->a=L.length->m=L.length+X.length->b=L.length+X.length+Y.length->L.length+X.length+Y.length+R.length < 2 ^ 40 ->
  Sq (ρ 302) [.own z ((L++X++Y++R).map c0)] [.ref 0,.I a,.I m,.I b,.fn g cs] [.own z ((L++B8 lt X Y++R).map c0)] (.bT []):=by
 induction n with
 | zero=>intro L X Y R a m b h hX hY;omega
 | succ n ih =>
  intro L X Y R a m b h hX hY ha hm hb hN;by_cases ar:X.length=1
  ·obtain ⟨x,rfl⟩:=length_eq_one_iff.1 ar;rw [show L++[x]++Y++R=L++x :: (Y++R) by simp only [cQ,cons_append,nil_append]];simp only [length_cons,length_nil] at hm hb hN;exact VX H lt g cs ab K ac hg L x Y R a m b hY ha ah ah ah
  by_cases ax:Y.length=1
  ·obtain ⟨y,rfl⟩:=length_eq_one_iff.1 ax;rw [show L++X++[y]++R=L++X++y :: R by simp only [cQ,cons_append,nil_append]];simp only [length_cons,length_nil] at hm hb hN;exact VY H lt g cs ab K ac hg L X y R a m b hX ar ha hm ah ah
  rw [afI lt ah ah];have B:=Ct lt X Y;obtain ⟨d,aj⟩:=aQ ((X.length+Y.length) / 2);obtain ⟨s0,O,ad,aw,hd⟩:∃ s0 O,cutAt lt X Y=uh (fun c=>t2 (fun y x=>!lt y x) Y[d-1-c]? X[c]?) s0 O/\(s0<=O/\O<=X.length/\O<=d/\d<=s0+Y.length)/\((d < X.length/\s0=d-Y.length/\O=d)\/(X.length<=d/\s0=0/\O=X.length)):=by
   unfold cutAt;rw [<- aj];rcases bZ d X.length with hc | hc
   ·rw [aq hc,aq hc];exact ⟨_,_,rfl,⟨by omega,by omega,by omega,by omega⟩,.inl ⟨hc,rfl,rfl⟩⟩
   ·rw [ak ah,ak ah];exact ⟨_,_,rfl,⟨by omega,by omega,by omega,by omega⟩,.inr ⟨hc,rfl,rfl⟩⟩
  rw [<- aj] at B;rw [<- aj];have w1:IntKind.wrap .i64 ((m:Int)-a)=((X.length:Nat):Int):=gN;have q1:((X.length:Int)==1)=false:=by simp;omega
  have w2:IntKind.wrap .i64 ((b:Int)-m)=((Y.length:Nat):Int):=gN;have q2:((Y.length:Int)==1)=false:=by simp;omega
  have wm:=half (i:=a) (j:=b) ah;rw [show (a+b) / 2=a+d by omega] at wm;have wn:IntKind.wrap .i64 (((a+d:Nat):Int)+m)=((a+d+m:Nat):Int):=gN;have wp:IntKind.wrap .i64 (((a+d+m:Nat):Int)-1)=((a+d+m-1:Nat):Int):=gN;obtain ⟨wB,M⟩:∃ w:Int,w=IntKind.wrap .i64 (((a+d+m:Nat):Int)-b):=⟨_,rfl⟩
  have ae:d < X.length->wB=((a+s0:Nat):Int):=by
   intro hc;rw [M,gA ah ah];omega
  have hz1:=H.pos;have ao:=H.ne;simp only [D1,D2] at ao;have ap:=H.nv;simp only [Lf] at ap;have hx:=a5 H.sl H.el H.len H.nm (a5 H.tk H.dr H.pT ao (a5 ap ab K ac (UG K)));refine IA 220 5 [] (H.r4) mixed func302 fun ai=>?_;simp only [I7,Zp,GF,I8,Zo,toList_toArray,map_cons,map_nil,H.t0,H.t3,H.t4,H.t85,gp,Bool.not_true,Bool.not_false,Bool.true_or,Bool.false_or,Bool.and_true,fc,cU] at ai |-;rcases hd with ⟨c1,c2,c3⟩ | ⟨c1,c2,c3⟩;all_goals first
   | (have dG:decide (((a+d:Nat):Int) < (m:Int))=true:=iC
      replace M:=M.symm.trans (ae c1)
      simp only [go_sem,seval,hx,w1,w2,q1,q2,wm,wn,wp,dG,M])
   | (have dG:decide (((a+d:Nat):Int) < (m:Int))=false:=jL
      simp only [go_sem,seval,hx,w1,w2,q1,q2,wm,wn,wp,dG])
  all_goals
   refine aM.vh (T:=Nat × Nat) [0,1,2,3,4,18,19,22] [0] (fun s=>[(20,.I ((a+s.1:Nat):Int)),(21,.I ((a+s.2:Nat):Int))]) (fun _=>[]) (fun s=>s0<=s.1/\s.1<=s.2/\s.2<=O/\uh (fun c=>t2 (fun y x=>!lt y x) Y[d-1-c]? X[c]?) s.1 s.2=uh (fun c=>t2 (fun y x=>!lt y x) Y[d-1-c]? X[c]?) s0 O) (fun s=>s.2-s.1) (s0,O) ⟨dU _,aw.1,dU _,rfl⟩ ?_ ?_
   ·simp only [go_sem,seval,hx]<;>omega
   ·rintro ⟨i,j⟩ ⟨h1,h2,h3,h4⟩;dsimp only at h1 h2 h3 h4;rcases bZ i j with hij | hij
    ·have d1:decide (((a+i:Nat):Int) < ((a+j:Nat):Int))=true:=iC;obtain ⟨k,hk⟩:=aQ ((i+j) / 2);have al:k < X.length:=ah
     have am:d-1-k < Y.length:=ah
     have hv:=half (i:=a+i) (j:=a+j) ah;rw [show (a+i+(a+j)) / 2=a+k by omega] at hv;have wk:IntKind.wrap .i64 (((a+k:Nat):Int)+1)=((a+(k+1):Nat):Int):=gN;have wy:IntKind.wrap .i64 (((a+d+m-1:Nat):Int)-((a+k:Nat):Int))=((m+(d-1-k):Nat):Int):=gN;have g1:(L++X++Y++R)[m+(d-1-k)]?=some Y[d-1-k]:=by
      rw [cQ,getElem?_append_right (by rw [cm];omega),show m+(d-1-k)-(L++X).length=d-1-k by rw [cm];omega,getElem?_append_left am,fO am]
     have g2:(L++X++Y++R)[a+k]?=some X[k]:=by
      rw [cQ,cQ,getElem?_append_right ah,show a+k-L.length=k by omega,getElem?_append_left al,fO al]
     have hp:t2 (fun y x=>!lt y x) Y[d-1-k]? X[k]? = !lt Y[d-1-k] X[k]:=by rw [fO am,fO al];rfl
     obtain ⟨c,hc,B⟩:=hg Y[d-1-k] X[k];have l1:=dz g1;have l2:=dz g2;have m1:=(iy (c:=c0) g1 g1).1;have m2:=(iy (c:=c0) g2 g2).1;generalize Y[d-1-k]=y at *;generalize X[k]=x at *;cases hq:lt y x with
     | true =>
      rw [hq] at B hp;refine sm (a5 hx d1 hv wy (a2 m1 m2)) ?_;(with_reducible and_intros)<;>first|exact eZ.mk (by simp only [ai])|exact .dq|omega|exact H.ok _|exact H.pl _|skip
      refine sc (a2 hx B) hc ?_;refine ⟨(i,k),⟨h1,by show i<=k;omega,by show k<=_;omega,?_⟩,?_,by show k-i < j-i;omega⟩
      ·exact (Uw (p:=fun c=>t2 (fun y x=>!lt y x) Y[d-1-c]? X[c]?) hij hk hp).trans h4
      ·exact fL hx
     | false =>
      rw [hq] at B hp;refine sm (a5 hx d1 hv wy (a2 m1 m2)) ?_;(with_reducible and_intros)<;>first|exact eZ.mk (by simp only [ai])|exact .dq|omega|exact H.ok _|exact H.pl _|skip
      refine sc (a3 hx B wk) hc ?_;refine ⟨(k+1,j),⟨by show s0<=k+1;omega,by show k+1<=j;omega,h3,?_⟩,?_,by show j-(k+1) < j-i;omega⟩
      ·exact (Px (p:=fun c=>t2 (fun y x=>!lt y x) Y[d-1-c]? X[c]?) hij hk hp).trans h4
      ·exact fL hx
    ·have d1:decide (((a+i:Nat):Int) < ((a+j:Nat):Int))=false:=jL;obtain rfl:i=j:=ah
     rw [AU ah] at h4;have an:cutAt lt X Y=i:=by rw [ad];exact h4.symm
     rw [an] at B |-;have wq:IntKind.wrap .i64 (((a+d+m:Nat):Int)-((a+i:Nat):Int))=((m+(d-i):Nat):Int):=gN;obtain ⟨o,S⟩:∃ Z,Z=X.take i:=⟨_,rfl⟩
     obtain ⟨l,U⟩:∃ Z,Z=X.drop i:=⟨_,rfl⟩
     obtain ⟨e,V⟩:∃ Z,Z=Y.take (d-i):=⟨_,rfl⟩
     obtain ⟨v,aa⟩:∃ Z,Z=Y.drop (d-i):=⟨_,rfl⟩
     have lXa:o.length=i:=by rw [S,dY];omega
     have lXb:l.length=X.length-i:=by rw [U,fj]
     have lYa:e.length=d-i:=by rw [V,dY];omega
     have lYb:v.length=Y.length-(d-i):=by rw [aa,fj]
     have eX:o++l=X:=by rw [S,U,jY]
     have eY:e++v=Y:=by rw [V,aa,jY]
     rw [<- S,<- U,<- V,<- aa];obtain ⟨W0,P⟩:∃ W,W=L++X++Y++R:=⟨_,rfl⟩
     obtain ⟨W1,G⟩:∃ W,W=L++o++e++l++v++R:=⟨_,rfl⟩
     obtain ⟨W2,J⟩:∃ W,W=L++B8 lt o e++l++v++R:=⟨_,rfl⟩
     obtain ⟨W3,Q⟩:∃ W,W=L++(B8 lt o e++B8 lt l v)++R:=⟨_,rfl⟩
     rw [<- P,<- Q];have C:l.length≠0->e.length≠0->Sq (ρ 346) [.own z (W0.map c0)] [.ref 0,.I ((a+i:Nat):Int),.I m,.I ((m+(d-i):Nat):Int),.fn g cs] [.own z (W1.map c0)] (.bT []):=by
      intro av au;have:=QI H (L++o) l e (v++R) (a+i) m (m+(d-i)) (by rw [cm];omega) (by rw [cm];omega) (by rw [cm];omega) av au g cs ab K ac (by simp only [cm];omega);rwa [show L++o++l++e++(v++R)=W0 by rw [P,<- eX,<- eY];simp only [cQ],show L++o++e++l++(v++R)=W1 by rw [G];simp only [cQ]] at this
     have af:o.length≠0->e.length≠0->Sq (ρ 302) [.own z (W1.map c0)] [.ref 0,.I a,.I ((a+i:Nat):Int),.I ((a+d:Nat):Int),.fn g cs] [.own z (W2.map c0)] (.bT []):=by
      intro h1 h2;have:=ih L o e (l++v++R) a (a+i) (a+d) ah h1 h2 ha ah ah (by simp only [cm];omega);rwa [show L++o++e++(l++v++R)=W1 by rw [G];simp only [cQ],show L++B8 lt o e++(l++v++R)=W2 by rw [J];simp only [cQ]] at this
     have ag:l.length≠0->v.length≠0->Sq (ρ 302) [.own z (W2.map c0)] [.ref 0,.I ((a+d:Nat):Int),.I ((m+(d-i):Nat):Int),.I b,.fn g cs] [.own z (W3.map c0)] (.bT []):=by
      intro h1 h2;have lsm:=Eh lt o e;have:=ih (L++B8 lt o e) l v R (a+d) (m+(d-i)) b ah h1 h2 (by rw [cm];omega) (by rw [cm];omega) (by rw [cm];omega) (by rw [cm];omega);rwa [<- J,show L++B8 lt o e++B8 lt l v++R=W3 by rw [Q];simp only [cQ]] at this
     have eR:l.length=0\/e.length=0->W0=W1:=by
      intro h;rw [P,G,<- eX,<- eY];rcases h with h | h<;>(rw [eq_nil_of_length_eq_zero h];simp only [cQ,nil_append,append_nil])
     have e1:o.length=0\/e.length=0->W1=W2:=by
      intro h;rw [G,J];rcases h with h | h<;>(rw [eq_nil_of_length_eq_zero h];simp only [LM,TK,cQ,nil_append,append_nil])
     have e2:l.length=0\/v.length=0->W2=W3:=by
      intro h;rw [J,Q];rcases h with h | h<;>(rw [eq_nil_of_length_eq_zero h];simp only [LM,TK,cQ,nil_append,append_nil])
     refine sm (a2 hx d1) ?_;refine dW.id ?_;refine sm (a2 hx wq) ?_;clear M ae hg ih P G J Q S U V aa eX eY ad h4 an wm wn wp w1 w2 q1 q2 dG d1 wq h1 h2 h3;rcases Nat.eq_zero_or_pos l.length with zb | zb<;>rcases Nat.eq_zero_or_pos e.length with za | za<;>rcases Nat.eq_zero_or_pos o.length with zc | zc<;>rcases Nat.eq_zero_or_pos v.length with zd | zd
     ·exfalso;omega
     ·exfalso;omega
     ·exfalso;omega
     ·have E:decide (((a+i:Nat):Int) < (m:Int))=false:=jL;have F:decide ((m:Int) < ((m+(d-i):Nat):Int))=false:=jL;have q:decide ((a:Int) < ((a+i:Nat):Int))=true:=iC;have r:decide (((a+i:Nat):Int) < ((a+d:Nat):Int))=false:=jL;have t:decide (((a+d:Nat):Int) < ((m+(d-i):Nat):Int))=false:=jL;have u:decide (((m+(d-i):Nat):Int) < (b:Int))=true:=iC;rw [eR ah];rw [e1 ah];have e2:=e2 ah;refine sm (a5 hx E F q (a3 r t u)) ?_;rw [e2]
     ·exfalso;omega
     ·exfalso;omega
     ·exfalso;omega
     ·have E:decide (((a+i:Nat):Int) < (m:Int))=false:=jL;have F:decide ((m:Int) < ((m+(d-i):Nat):Int))=true:=iC;have q:decide ((a:Int) < ((a+i:Nat):Int))=true:=iC;have r:decide (((a+i:Nat):Int) < ((a+d:Nat):Int))=true:=iC;have t:decide (((a+d:Nat):Int) < ((m+(d-i):Nat):Int))=false:=jL;have u:decide (((m+(d-i):Nat):Int) < (b:Int))=true:=iC;rw [eR ah];have e2:=e2 ah;refine sg [0] (a5 hx E F q (a3 r t u)) (af ah ah) ?_;rw [e2]
     ·exfalso;omega
     ·exfalso;omega
     ·exfalso;omega
     ·have E:decide (((a+i:Nat):Int) < (m:Int))=true:=iC;have F:decide ((m:Int) < ((m+(d-i):Nat):Int))=false:=jL;have q:decide ((a:Int) < ((a+i:Nat):Int))=true:=iC;have r:decide (((a+i:Nat):Int) < ((a+d:Nat):Int))=false:=jL;have t:decide (((a+d:Nat):Int) < ((m+(d-i):Nat):Int))=true:=iC;have u:decide (((m+(d-i):Nat):Int) < (b:Int))=true:=iC;rw [eR ah];rw [e1 ah];exact Hv [0] (a5 hx E F q (a3 r t u)) (ag ah ah)
     ·have E:decide (((a+i:Nat):Int) < (m:Int))=true:=iC;have F:decide ((m:Int) < ((m+(d-i):Nat):Int))=true:=iC;have q:decide ((a:Int) < ((a+i:Nat):Int))=false:=jL;have r:decide (((a+i:Nat):Int) < ((a+d:Nat):Int))=true:=iC;have t:decide (((a+d:Nat):Int) < ((m+(d-i):Nat):Int))=true:=iC;have u:decide (((m+(d-i):Nat):Int) < (b:Int))=false:=jL;have e1:=e1 ah;have e2:=e2 ah;refine sg [0] (a5 hx E F q (a3 r t u)) (C ah ah) ?_;rw [e1];rw [e2]
     ·have E:decide (((a+i:Nat):Int) < (m:Int))=true:=iC;have F:decide ((m:Int) < ((m+(d-i):Nat):Int))=true:=iC;have q:decide ((a:Int) < ((a+i:Nat):Int))=false:=jL;have r:decide (((a+i:Nat):Int) < ((a+d:Nat):Int))=true:=iC;have t:decide (((a+d:Nat):Int) < ((m+(d-i):Nat):Int))=true:=iC;have u:decide (((m+(d-i):Nat):Int) < (b:Int))=true:=iC;have e1:=e1 ah;refine sg [0] (a5 hx E F q (a3 r t u)) (C ah ah) ?_;rw [e1];exact Hv [0] (a5 hx q r t u) (ag ah ah)
     ·have E:decide (((a+i:Nat):Int) < (m:Int))=true:=iC;have F:decide ((m:Int) < ((m+(d-i):Nat):Int))=true:=iC;have q:decide ((a:Int) < ((a+i:Nat):Int))=true:=iC;have r:decide (((a+i:Nat):Int) < ((a+d:Nat):Int))=true:=iC;have t:decide (((a+d:Nat):Int) < ((m+(d-i):Nat):Int))=true:=iC;have u:decide (((m+(d-i):Nat):Int) < (b:Int))=false:=jL;have e2:=e2 ah;refine sg [0] (a5 hx E F q (a3 r t u)) (C ah ah) ?_;refine sg [0] (a5 hx q r t u) (af ah ah) ?_;rw [e2]
     ·have E:decide (((a+i:Nat):Int) < (m:Int))=true:=iC;have F:decide ((m:Int) < ((m+(d-i):Nat):Int))=true:=iC;have q:decide ((a:Int) < ((a+i:Nat):Int))=true:=iC;have r:decide (((a+i:Nat):Int) < ((a+d:Nat):Int))=true:=iC;have t:decide (((a+d:Nat):Int) < ((m+(d-i):Nat):Int))=true:=iC;have u:decide (((m+(d-i):Nat):Int) < (b:Int))=true:=iC;refine sg [0] (a5 hx E F q (a3 r t u)) (C ah ah) ?_;refine sg [0] (a5 hx q r t u) (af ah ah) ?_;exact Hv [0] (a5 hx q r t u) (ag ah ah)
theorem Q0 (lt:A->A->Bool) (g:FuncId) (cs:List D) (j:D.bK cs=[]) (d:tZ cs=True) (o:∀ (rh:Nat->Option Nat) (lv:Nat->Bool),kM rh lv cs cs=True) (J:∀ x y:A,∃ c:Int,Sq g [] (.agg (c0 x) :: .agg (c0 y) :: cs) [] (.I c)/\decide (c < 0)=lt x y) (l:List A) (Y:l.length < 2 ^ 38) :
  Sq (ρ 234) [.own z (l.map c0)] [.ref 0,.I l.length,.fn g cs] [.own z ((B0 lt l).map c0)] (.bT []):=by
 obtain ⟨N,i⟩:=aQ (l.length);have S:B0 lt l=Cu lt N 20 (yX lt N l):=by rw [i];rfl
 rw [S,<- i];rw [<- i] at Y;have hz1:=H.pos;have C:=H.ne;simp only [D1,D2] at C;have E:=H.nv;simp only [Lf] at E;have hx:=a5 H.sl H.el H.len H.nm (a5 H.tk H.dr H.pT C (a5 E j d o (UG d)));refine IA 63 3 [] (H.r5) mixed func234 fun R=>?_;simp only [I7,Zp,GF,I8,Zo,toList_toArray,map_cons,map_nil,H.t0,H.t3,H.t4,H.t85,gp,Bool.not_true,Bool.not_false,Bool.true_or,Bool.false_or,Bool.and_true,fc,cU] at R |-;refine sm hx ?_;refine aM.vh (T:=Nat × List A × List A) [0,1,2,6] [] (fun s=>[(7,.I s.2.1.length),(8,.I ((s.2.1.length+20:Nat):Int))]) (fun s=>[(0,.own z ((s.2.1++s.2.2).map c0))]) (fun s=>s.2.1++yX lt s.1 s.2.2=yX lt N l/\s.2.2.length<=s.1/\s.2.1.length+s.2.2.length=N) (fun s=>s.2.2.length) (N,[],l) ⟨rfl,Nat.le_of_eq i.symm,(Nat.zero_add _).trans i.symm⟩ ?_ ?_
 ·simp only [go_sem,seval,hx,length_nil,nil_append,Nat.zero_add]
 ·rintro ⟨n,P,Q⟩ ⟨h1,h2,h3⟩;dsimp only at h1 h2 h3;rcases bZ Q.length 20 with hq | hq
  ·have K:decide (((P.length+20:Nat):Int)<=(N:Int))=false:=jL;have t:=Oc H lt g cs j d o J P Q [] P.length N rfl ah (by simp only [length_nil];omega);have hb:yX lt n Q=BB lt Q:=by
    cases n with
    | zero=>rfl
    | succ n=>rw [yX,ak ah]
   rw [hb] at h1;rw [<- h1];simp only [append_nil] at t;refine sm (a2 hx K) ?_;refine dW.id ?_;refine sg [0] hx t ?_;obtain ⟨U,w⟩:=aQ (P++BB lt Q);have B:U.length=N:=by rw [w,cm,xH];omega
   rw [<- w];refine aM.vh (T:=Nat × Nat × List A) [0,1,2] [] (fun s=>[(6,.I s.2.1)]) (fun s=>[(0,.own z (s.2.2.map c0))]) (fun s=>Cu lt s.1 s.2.1 s.2.2=Cu lt N 20 U/\s.2.2.length=N/\N<=s.1+s.2.1/\0 < s.2.1/\s.2.1<=2*N+20) (fun s=>s.1) (N,20,U) ⟨rfl,B,by show N<=N+20;omega,by show 0 < 20;omega,by show 20<=2*N+20;omega⟩ ?_ ?_
   ·exact fL hx
   ·rintro ⟨f,bs,m⟩ ⟨k1,k2,k3,k4,k5⟩;dsimp only at k1 k2 k3 k4 k5;rcases bZ bs N with hbs | hbs
    ·have L:decide ((bs:Int) < (N:Int))=true:=iC;have W:IntKind.wrap .i64 (2*(bs:Int))=((2*bs:Nat):Int):=gN;have X:IntKind.wrap .i64 ((bs:Int)*2)=((2*bs:Nat):Int):=gN;obtain ⟨p,rfl⟩:∃ p,f=p+1:=⟨f-1,by omega⟩
     rw [Cu,aq ah] at k1;rw [k2] at k1;refine sm (a3 hx L W) ?_;refine aM.vh (T:=Nat × List A × List A) [0,1,2,6] [] (fun s=>[(7,.I s.2.1.length),(8,.I ((s.2.1.length+2*bs:Nat):Int))]) (fun s=>[(0,.own z ((s.2.1++s.2.2).map c0))]) (fun s=>s.2.1++lS lt bs s.1 s.2.2=lS lt bs N m/\s.2.2.length<=s.1/\s.2.1.length+s.2.2.length=N) (fun s=>s.2.2.length) (N,[],m) ⟨rfl,Nat.le_of_eq k2,(Nat.zero_add _).trans k2⟩ ?_ ?_
     ·simp only [go_sem,seval,hx,length_nil,nil_append,Nat.zero_add]
     ·rintro ⟨e,b,a⟩ ⟨j1,j2,j3⟩;dsimp only at j1 j2 j3;have V:IntKind.wrap .i64 ((b.length:Int)+bs)=((b.length+bs:Nat):Int):=gN;rcases bZ a.length (2*bs) with hq' | hq'
      ·have G:decide (((b.length+2*bs:Nat):Int)<=(N:Int))=false:=jL;rcases bZ bs a.length with hqb | hqb
       ·have M:decide (((b.length+bs:Nat):Int) < (N:Int))=true:=iC;have hp:lS lt bs e a=B8 lt (a.take bs) (a.drop bs):=by
         cases e with
         | zero=>omega
         | succ e=>rw [lS,ak ah,aq hqb]
        have u:=OZ H lt g cs j d o J a.length b (a.take bs) (a.drop bs) [] b.length (b.length+bs) N (by rw [dY,fj];omega) (by rw [dY];omega) (by rw [fj];omega) rfl (by rw [dY];omega) (by rw [dY,fj];omega) (by rw [dY,fj,length_nil];omega);rw [append_nil,append_nil,cQ,jY] at u;rw [hp] at j1;refine sm (a2 hx G) ?_;refine dW.id ?_;refine sg [0] (a5 hx V M X j1) u ?_;refine ⟨(p,2*bs,lS lt bs N m),⟨k1,by rw [uF];exact k2,by show N<=p+2*bs;omega,by show 0 < 2*bs;omega,by show 2*bs<=_;omega⟩,?_,by show p < p+1;omega⟩;exact fL hx
       ·have M:decide (((b.length+bs:Nat):Int) < (N:Int))=false:=jL;have hp:lS lt bs e a=a:=by
         cases e with
         | zero=>rfl
         | succ e=>rw [lS,ak ah,ak ah]
        rw [hp] at j1;refine sm (a2 hx G) ?_;refine dW.id ?_;refine sm (a5 hx V M X j1) ?_;refine ⟨(p,2*bs,lS lt bs N m),⟨k1,by rw [uF];exact k2,by show N<=p+2*bs;omega,by show 0 < 2*bs;omega,by show 2*bs<=_;omega⟩,?_,by show p < p+1;omega⟩;exact fL hx
      ·have G:decide (((b.length+2*bs:Nat):Int)<=(N:Int))=true:=iC;have w5:IntKind.wrap .i64 (((b.length+2*bs:Nat):Int)+((2*bs:Nat):Int))=((b.length+2*bs+2*bs:Nat):Int):=gN;obtain ⟨r,rfl⟩:∃ r,e=r+1:=⟨e-1,by omega⟩
       rw [lS,aq hq'] at j1;have u:=OZ H lt g cs j d o J (2*bs) b (a.take bs) ((a.drop bs).take bs) (a.drop (2*bs)) b.length (b.length+bs) (b.length+2*bs) (by simp only [dY,fj];omega) (by rw [dY];omega) (by rw [dY,fj];omega) rfl (by rw [dY];omega) (by simp only [dY,fj];omega) (by simp only [dY,fj];omega);have e0:b++a.take bs++(a.drop bs).take bs++a.drop (2*bs)=b++a:=by
        rw [show a.drop (2*bs)=(a.drop bs).drop bs by rw [drop_drop];congr 1;omega,cQ,cQ,jY,jY]
       rw [e0] at u;have F:=Eh lt (a.take bs) ((a.drop bs).take bs);rw [dY,dY,fj] at F;obtain ⟨Z,O⟩:=aQ (B8 lt (a.take bs) ((a.drop bs).take bs));rw [<- O] at u F j1;refine sg [0] (a5 hx G V W w5) u ?_;refine ⟨(r,b++Z,a.drop (2*bs)),⟨by show (b++Z)++_=_;rw [cQ];exact j1,by show (a.drop (2*bs)).length<=r;rw [fj];omega,by show (b++Z).length+(a.drop (2*bs)).length=N;rw [cm,fj];omega⟩,?_,by show (a.drop (2*bs)).length < a.length;rw [fj];omega⟩;have q:(b++Z).length=b.length+2*bs:=by rw [cm];omega
       exact fL (a2 hx q)
    ·have L:decide ((bs:Int) < (N:Int))=false:=jL;rw [XW lt f bs m ah] at k1;rw [<- k1];exact fL (a2 hx L)
  ·have K:decide (((P.length+20:Nat):Int)<=(N:Int))=true:=iC;have w1:IntKind.wrap .i64 (((P.length+20:Nat):Int)+20)=((P.length+20+20:Nat):Int):=gN;obtain ⟨e,rfl⟩:∃ e,n=e+1:=⟨n-1,by omega⟩
   rw [yX,aq hq] at h1;have t:=Oc H lt g cs j d o J P (Q.take 20) (Q.drop 20) P.length (P.length+20) rfl (by rw [dY];omega) (by rw [dY,fj];omega);rw [cQ P,jY] at t;have v:=xH lt (Q.take 20);rw [dY] at v;obtain ⟨Z,O⟩:=aQ (BB lt (Q.take 20));rw [<- O] at t v h1;refine sg [0] (a3 hx K w1) t ?_;have q:(P++Z).length=P.length+20:=by rw [cm];omega
   refine ⟨(e,P++Z,Q.drop 20),⟨by show (P++Z)++_=_;rw [cQ];exact h1,by show (Q.drop 20).length<=e;rw [fj];omega,by show (P++Z).length+(Q.drop 20).length=N;rw [q,fj];omega⟩,?_,by show (Q.drop 20).length < Q.length;rw [fj];omega⟩;exact fL (a2 hx q)
theorem vG (lt:A->A->Bool) (g:FuncId) (cs:List D) (b:D.bK cs=[]) (a:tZ cs=True) (d:∀ (q:Nat->Option Nat) (p:Nat->Bool),kM q p cs cs=True) (o:∀ x y:A,∃ c:Int,Sq g [] (.agg (c0 x) :: .agg (c0 y) :: cs) [] (.I c)/\decide (c < 0)=lt x y) (l:List A) (n:l.length < 2 ^ 38) :
  Sq (ρ 121) [.own z (l.map c0)] [.ref 0,.fn g cs] [.own z ((B0 lt l).map c0)] (.bT []):=by
 have h:=Q0 H lt g cs b a d o l n;have hz1:=H.pos;have i:=H.ne;simp only [D1,D2] at i;have j:=H.nv;simp only [Lf] at j;have hx:=a5 H.sl H.el H.len H.nm (a5 H.tk H.dr H.pT i (a5 j b a d (UG a)));refine IA 9 2 [] (H.r6) mixed func121 fun e=>?_;simp only [I7,Zp,GF,I8,Zo,toList_toArray,map_cons,map_nil,H.t0,H.t3,H.t4,H.t85,gp,Bool.not_true,Bool.not_false,Bool.true_or,Bool.false_or,Bool.and_true,fc,cU] at e |-;refine sm hx ?_;(with_reducible and_intros)<;>first|exact eZ.mk (by simp only [e])|exact .dq|omega|exact H.ok _|exact H.pl _|skip
 exact Hv [0] hx h
end
end Go.Proofs.YtccipdjjkcejgaaGreat
