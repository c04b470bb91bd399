/- Right states: lists in order, what is found in them, and what follows. No theorem of a claim. -/
import Derived.Test.YtnkobepdbkmedaaGreatKH
set_option linter.unusedSimpArgs false
set_option linter.unusedVariables false
set_option maxHeartbeats 4000000
set_option maxRecDepth 16000
namespace Go.Proofs.YtnkobepdbkmedaaGreat
open Go.Abs
theorem MQ {A:Type} {R:A->A->Prop} (tr:∀ {a b c},R a b->R b c->R a c) {xs:List A} (h:∀ j (hj:j+1 < xs.length),R (xs[j]'(by omega)) xs[j+1]):xs.Pairwise R:=by
 rw [List.pairwise_iff_getElem]
 have key:∀ d i (hj:i+d+1 < xs.length),R (xs[i]'(by omega)) xs[i+d+1]:=by
  intro d
  induction d with
  | zero=>intro i hj;exact h i hj
  | succ d ih=>intro i hj;exact tr (ih i (by omega)) (h (i+d+1) hj)
 intro i j hi hj hij;have:=key (j-i-1) i (by omega);have e:i+(j-i-1)+1=j:=by omega
 simpa only [e] using this
theorem oB {A:Type} {ok:A->Bool} {lt:A->A->Bool} (tr:∀ {a b c},lt a b=true->lt b c=true->lt a c=true) {xs:List A}:mg ok lt xs=true ↔ (∀ x∈xs,ok x=true)/\xs.Pairwise (fun a b=>lt a b=true):=by
 constructor
 ·intro h;refine ⟨fun x hx=>?_,MQ (R:=fun a b=>lt a b=true) tr fun j hj=>?_⟩
  ·obtain ⟨i,hi,rfl⟩:=List.mem_iff_getElem.1 hx;exact G2 h hi
  ·have:=Qt h hj;rw [fR hj,bW] at this;exact this.2
 ·rintro ⟨h1,h2⟩
  rw [List.pairwise_iff_getElem] at h2;refine l7 fun i hi=>?_
  cases i with
  | zero=>rw [gn hi];exact h1 _ (List.getElem_mem hi)
  | succ j=>rw [fR hi,h1 _ (List.getElem_mem hi),h2 j (j+1) (by omega) hi (by omega)];rfl
theorem Nu {A:Type} {no:A->Int} {ok:A->Bool} {xs:List A}:iW no ok xs=true ↔ (∀ x∈xs,ok x=true)/\xs.Pairwise (fun a b=>no a < no b):=by
 constructor
 ·intro h;have hat:∀ i (hi:i < xs.length),cw no ok xs i=true:=fun i hi=>List.all_eq_true.1 h i (List.mem_range.2 hi)
  refine ⟨qn h,MQ (R:=fun a b=>no a < no b) Int.lt_trans fun j hj=>?_⟩;have:=hat (j+1) hj;rw [fT no ok xs hj (by omega),bW,decide_eq_true_eq] at this;exact this.2
 ·rintro ⟨h1,h2⟩
  rw [List.pairwise_iff_getElem] at h2;refine tY fun i hi=>?_
  rcases Nat.eq_zero_or_pos i with h0 | h0
  ·rw [fW no ok xs hi (by omega)];exact h1 _ (List.getElem_mem hi)
  ·rw [fT no ok xs hi h0,h1 _ (List.getElem_mem hi),decide_eq_true (h2 (i-1) i (by omega) hi (by omega))];rfl
theorem RZ {bs:List bp}:jX bs=true ↔ (∀ b∈bs,j0 b=true)/\bs.Pairwise (fun x y=>x.bG.less y.bG=true):=by
 constructor
 ·intro h;have hat:∀ i (hi:i < bs.length),mq bs i=true:=fun i hi=>List.all_eq_true.1 h i (List.mem_range.2 hi)
  refine ⟨fun x hx=>?_,Jo h⟩;obtain ⟨i,hi,rfl⟩:=List.mem_iff_getElem.1 hx;have:=hat i hi;cases i with
  | zero=>rwa [jF hi] at this
  | succ j=>rw [iS hi,bW] at this;exact this.1
 ·rintro ⟨h1,h2⟩
  rw [List.pairwise_iff_getElem] at h2;refine pN fun i hi=>?_
  cases i with
  | zero=>rw [jF hi];exact h1 _ (List.getElem_mem hi)
  | succ j=>rw [iS hi,h1 _ (List.getElem_mem hi),h2 j (j+1) (by omega) hi (by omega)];rfl
theorem qC {A:Type} {no:A->Int} {n:Int} {xs:List A}:decide (0<=fU no n xs)=true ↔ ∃ x∈xs,no x=n:=by
 rw [ng,List.any_eq_true];simp
theorem tX {A:Type} {no:A->Int} {n:Int} {z:A}:∀ {xs:List A},(∃ x∈xs,no x=n)->eR no n z xs∈xs/\no (eR no n z xs)=n
 | [],h=>by obtain ⟨x,hx,_⟩:=h;cases hx
 | x :: r,h=>by
  simp only [eR];split
  ·rename_i hx;exact ⟨by simp,hx⟩
  ·rename_i hx;obtain ⟨y,hy,hn⟩:=h;rcases List.mem_cons.1 hy with rfl | hy
   ·exact absurd hn hx
   ·obtain ⟨h1,h2⟩:=tX (z:=z) ⟨y,hy,hn⟩;exact ⟨by simp [h1],h2⟩
theorem tP {A:Type} {no:A->Int} {n:Int} {z:A}:∀ {xs:List A},(∀ x∈xs,no x≠n)->eR no n z xs=z
 | [],_=>rfl
 | x :: r,h=>by
  simp only [eR];rw [if_neg (h x (by simp))];exact tP fun y hy=>h y (by simp [hy])
theorem AL {A:Type} {no:A->Int} {n:Int} {z:A} {xs:List A} (hp:xs.Pairwise (fun a b=>no a < no b)) {x:A} (hx:x∈xs) (hn:no x=n):eR no n z xs=x:=by
 induction xs with
 | nil=>cases hx
 | cons y r ih =>
  rw [List.pairwise_cons] at hp;simp only [eR];rcases List.mem_cons.1 hx with rfl | hx
  ·rw [if_pos hn]
  ·have:=hp.1 x hx;rw [if_neg (by omega)];exact ih hp.2 hx
theorem E1 {A:Type} {no:A->Int} {n:Int} {z:A} {xs ys:List A} (hp:ys.Pairwise (fun a b=>no a < no b)) (h:∀ x,no x=n->(x∈xs ↔ x∈ys)):eR no n z xs=eR no n z ys:=by
 by_cases hx:∃ x∈xs,no x=n
 ·obtain ⟨h1,h2⟩:=tX (z:=z) hx;exact (AL hp ((h _ h2).1 h1) h2).symm
 ·rw [tP (fun x hm hn=>hx ⟨x,hm,hn⟩),tP (fun x hm hn=>hx ⟨x,(h x hn).2 hm,hn⟩)]
theorem iY {B:Type} {f:Nat->List B} {n:Nat} {x:B}:x∈oo f n ↔ ∃ i,i < n/\x∈f i:=by
 simp [oo,List.mem_flatMap,List.mem_range]
theorem qM {B:Type} {R:B->B->Prop} {f:Nat->List B} {n:Nat} (h1:∀ i,i < n->(f i).Pairwise R) (h2:∀ i j,i < j->j < n->∀ x∈f i,∀ y∈f j,R x y):(oo f n).Pairwise R:=by
 induction n with
 | zero=>simp [oo]
 | succ n ih =>
  rw [iM,List.pairwise_append];refine ⟨ih (fun i hi=>h1 i (by omega)) (fun i j hij hj=>h2 i j hij (by omega)),h1 n (by omega),?_⟩;intro x hx y hy;obtain ⟨i,hi,hx⟩:=iY.1 hx;exact h2 i n hi (by omega) x hx y hy
theorem tu {B:Type} {R:B->B->Prop}:∀ {l:List B},l.length<=1->l.Pairwise R
 | [],_=>by simp
 | [x],_=>by simp
 | x :: y :: r,h=>by simp at h
theorem VR {B:Type} {key:B->Int} {f:Nat->List B} {n:Nat} (h0:∀ i,i < n->(f i).length<=1) (hk:∀ i,i < n->∀ x∈f i,key x=(i:Int)+1):(oo f n).Pairwise (fun a b=>key a < key b):=by
 refine qM (fun i hi=>tu (h0 i hi)) fun i j hij hj x hx y hy=>?_
 rw [hk i (by omega) x hx,hk j hj y hy];omega
theorem F4 {A B:Type} {R:A->A->Prop} {S:B->B->Prop} {f:A->List B} {xs:List A} (hp:xs.Pairwise R) (h1:∀ a∈xs,(f a).Pairwise S) (h2:∀ a b,a∈xs->b∈xs->R a b->∀ x∈f a,∀ y∈f b,S x y):(xs.flatMap f).Pairwise S:=by
 induction xs with
 | nil=>simp
 | cons a r ih =>
  rw [List.pairwise_cons] at hp;rw [List.flatMap_cons,List.pairwise_append];refine ⟨h1 a (by simp),ih hp.2 (fun b hb=>h1 b (by simp [hb])) (fun b c hb hc=>h2 b c (by simp [hb]) (by simp [hc])),?_⟩;intro x hx y hy;obtain ⟨b,hb,hy⟩:=List.mem_flatMap.1 hy;exact h2 a b (by simp) (by simp [hb]) (hp.1 b hb) x hx y hy
theorem MK {A:Type} {no:A->Int} {n:Int} {f:A->A} (hf:∀ x,no (f x)=no x) (xs:List A):(ur no n f xs).map no=xs.map no:=by
 induction xs with
 | nil=>rfl
 | cons x r ih=>simp only [ur];split<;>simp [ih,hf]
theorem Kp {A:Type} {no:A->Int} {n:Int} {f:A->A} {xs:List A} {y:A} (h:y∈ur no n f xs):y∈xs\/∃ x∈xs,y=f x:=by
 induction xs with
 | nil=>cases h
 | cons x r ih =>
  simp only [ur] at h;split at h
  ·rcases List.mem_cons.1 h with rfl | h
   ·exact .inr ⟨x,by simp,rfl⟩
   ·exact .inl (by simp [h])
  ·rcases List.mem_cons.1 h with rfl | h
   ·exact .inl (by simp)
   ·rcases ih h with h | ⟨z,hz,rfl⟩
    ·exact .inl (by simp [h])
    ·exact .inr ⟨z,by simp [hz],rfl⟩
theorem Jz {A:Type} {no:A->Int} {xs ys:List A} (h:ys.map no=xs.map no) (hp:xs.Pairwise (fun a b=>no a < no b)):ys.Pairwise (fun a b=>no a < no b):=by
 have h1:(xs.map no).Pairwise (fun a b=>a < b):=List.pairwise_map.2 hp;rw [<- h] at h1;exact List.pairwise_map.1 h1
theorem Mu {A:Type} {no:A->Int} {n:Int} {xs ys:List A} (h:ys.map no=xs.map no):decide (0<=fU no n ys)=decide (0<=fU no n xs):=by
 rw [ng,ng];have e:∀ l:List A,l.any (fun x=>no x==n)=(l.map no).any (fun x=>x==n):=fun l=>by simp [List.any_map,Function.comp_def]
 rw [e,e,h]
theorem IJ {A:Type} {no:A->Int} {n w:Int} {f:A->A} {z:A} (hf:∀ x,no (f x)=no x) (xs:List A):eR no w z (ur no n f xs)=if w=n/\(∃ x∈xs,no x=n) then f (eR no w z xs) else eR no w z xs:=by
 induction xs with
 | nil=>simp [ur,eR]
 | cons x r ih =>
  simp only [ur];split
  ·rename_i hx;simp only [eR,hf]
   by_cases hw:w=n
   ·subst hw;rw [if_pos hx,if_pos hx,if_pos ⟨rfl,x,by simp,hx⟩]
   ·rw [if_neg (fun h=>hw (h.symm.trans hx)),if_neg (fun h=>hw h.1),if_neg (fun h=>hw (h.symm.trans hx))]
  ·rename_i hx;simp only [eR,ih]
   by_cases hxw:no x=w
   ·rw [if_pos hxw,if_pos hxw,if_neg]
    rintro ⟨rfl,_⟩;exact hx hxw
   ·rw [if_neg hxw,if_neg hxw];congr 1;simp only [List.mem_cons,exists_eq_or_imp,hx,false_or]
theorem eo {r:aq}:r.okB=true ↔ ((∀ x∈r.ms,x.ok=true)/\r.ms.Pairwise (fun a b=>a.no < b.no))/\((∀ x∈r.ns,x.ok=true)/\r.ns.Pairwise (fun a b=>a.no < b.no))/\((∀ x∈r.xs,x.ok=true)/\r.xs.Pairwise (fun a b=>a.a < b.a)):=by
 simp only [aq.okB,bW,Nu,and_assoc]
theorem tV {x:ak} (h:x.ok=true):(1<=x.no/\x.no<=16)/\(1<=x.state/\x.state<=3)/\0<=x.need/\x.need<=4611686018427387904:=by
 simp only [ak.ok,within,bP,bW,decide_eq_true_eq] at h;omega
theorem AR {x:au} (h:x.ok=true):(1<=x.no/\x.no<=8)/\(0<=x.cur/\x.cur<=2)/\(1<=x.mult/\x.mult<=1024):=by
 simp only [au.ok,within,bW,decide_eq_true_eq] at h;omega
theorem Bl {x:av} (h:x.ok=true):(1<=x.a/\x.a<=6)/\(0<=x.b/\x.b<=2)/\(1<=x.c/\x.c<=1073741824):=by
 simp only [av.ok,within,bW,decide_eq_true_eq] at h;omega
theorem ym {r:aq} {w:Int}:eI r w=true ↔ ∃ x∈r.ms,x.no=w:=qC
theorem qK {r:aq} {w:Int}:aZ r w=true ↔ ∃ x∈r.ns,x.no=w:=qC
theorem Ol {r:aq} {w:Int}:ju r w=true ↔ ∃ x∈r.xs,x.a=w:=qC
theorem EA {r:aq} {w:Int} (h:eI r w=true):ff r w∈r.ms/\(ff r w).no=w:=tX (ym.1 h)
theorem CF {r:aq} {w:Int} (h:aZ r w=true):aT r w∈r.ns/\(aT r w).no=w:=tX (qK.1 h)
theorem Lo {r:aq} (h:r.okB=true) {w:Int}:bB r w≠0 ↔ eI r w=true:=by
 constructor
 ·intro hs;cases hm:eI r w
  ·exact absurd (show bB r w=0 from by
    unfold bB ff;rw [tP]
    ·rfl
    ·intro x hx hn
     rw [ym.2 ⟨x,hx,hn⟩] at hm;cases hm) hs
  ·rfl
 ·intro hm;have:=tV ((eo.1 h).1.1 _ (EA hm).1);unfold bB;omega
theorem Hv {r:aq} (h:r.okB=true) {w:Int} (hs:bB r w≠0):(1<=bB r w/\bB r w<=3)/\1<=w/\w<=16:=by
 have hm:=EA ((Lo h).1 hs);have:=tV ((eo.1 h).1.1 _ hm.1);rw [hm.2] at this;unfold bB;omega
theorem Ce {A:Type} {no:A->Int} {z m:A} {xs:List A} {N:Nat} {f:Nat->List A} (hp:xs.Pairwise (fun a b=>no a < no b)) (hx:∀ x∈xs,1<=no x/\no x<=N) (hm:1<=no m/\no m<=N)
  (hf:∀ i:Nat,i < N->f i=if (i:Int)+1=no m then [m] else if decide (0<=fU no ((i:Int)+1) xs)=true then [eR no ((i:Int)+1) z xs] else []) :
  (oo f N).Pairwise (fun a b=>no a < no b)/\∀ x,x∈oo f N ↔ x=m\/(x∈xs/\no x≠no m):=by
 refine ⟨VR (key:=no) (fun i hi=>?_) (fun i hi x hx=>?_),fun x=>?_⟩
 ·rw [hf i hi];split
  ·simp
  ·split<;>simp
 ·rw [hf i hi] at hx;split at hx
  ·rename_i h;simp only [List.mem_singleton] at hx;rw [hx,h]
  ·split at hx
   ·rename_i h;simp only [List.mem_singleton] at hx;rw [hx];exact (tX (qC.1 h)).2
   ·cases hx
 ·rw [iY];constructor
  ·rintro ⟨i,hi,h⟩
   rw [hf i hi] at h;split at h
   ·simp only [List.mem_singleton] at h;exact .inl h
   ·rename_i hne;split at h
    ·rename_i hh;simp only [List.mem_singleton] at h;have hg:=tX (z:=z) (qC.1 hh);rw [<- h] at hg;exact .inr ⟨hg.1,by rw [hg.2];exact hne⟩
    ·cases h
  ·rintro (rfl | ⟨h1,h2⟩)
   ·refine ⟨(no x-1).toNat,by omega,?_⟩;rw [hf _ (by omega),if_pos (by omega)];simp
   ·have hr:=hx x h1;refine ⟨(no x-1).toNat,by omega,?_⟩;have e:(((no x-1).toNat:Nat):Int)+1=no x:=by omega
    rw [hf _ (by omega),e,if_neg h2,if_pos (qC.2 ⟨x,h1,rfl⟩),AL hp h1 rfl];simp
structure aq.ext (r r':aq):Prop where
 st:∀ w,bB r w≠0->bB r' w=bB r w
 inst:∀ n,aZ r n=true->aZ r' n=true
 same:∀ n,aZ r n=true->(aT r' n).mult=(aT r n).mult/\(aT r' n).cur=(aT r n).cur
 ast:∀ n,ju r n=true->ju r' n=true
theorem J9 {r:aq} {w n:Int} (h:iV r w n=0):(jJ r w n).okB=true/\r.ext (jJ r w n):=by
 unfold jJ;rw [if_pos h];unfold iV at h;split at h
 case isFalse=>cases h
 rename_i hr;split at h
 case isFalse=>cases h
 rename_i hm;split at h
 ·cases h
 rename_i hi;have hr0:=hr;rw [eo] at hr;obtain ⟨⟨o1,p1⟩,h2,h3⟩:=hr;have hmk:=tV hm;dsimp only at hmk
 have hP:=Ce (no:=ak.no) (z:=ak.zero) (m:=⟨w,1,n⟩) (N:=16) (f:=Gj r ⟨w,1,n⟩) p1 (fun x hx=>by have:=tV (o1 x hx);omega) (by dsimp only;omega) (by
  intro i _;unfold Gj;dsimp only
  by_cases e:(i:Int)+1=w
  ·rw [e,if_neg hi];simp
  ·have e':((i:Int)+1==w)=false:=by simpa using e
   rw [e',if_neg e];simp only [eI,ff,fZ,if_false,List.append_nil]
   rfl)
 obtain ⟨q1,q2⟩:=hP;refine ⟨eo.2 ⟨⟨fun x hx=>?_,q1⟩,h2,h3⟩,⟨fun v hv=>?_,fun _ h=>h,fun _ _=>⟨rfl,rfl⟩,fun _ h=>h⟩⟩
 ·rcases (q2 x).1 hx with rfl | h
  ·exact hm
  ·exact o1 x h.1
 ·have hv:=(Lo hr0).1 hv;unfold bB ff;congr 1;refine E1 p1 fun x hx=>?_
  rw [q2 x];constructor
  ·rintro (rfl | h)
   ·dsimp only at hx;rw [hx] at hi;exact absurd hv hi
   ·exact h.1
  ·intro h;refine .inr ⟨h,?_⟩;dsimp only
   rintro rfl
   rw [hx] at hi;exact hi hv
theorem M8 {r:aq} {i:au} (h:mo r i=0):(nM r i).okB=true/\r.ext (nM r i):=by
 unfold nM;rw [if_pos h];unfold mo at h;split at h
 case isFalse=>cases h
 rename_i hr;split at h
 case isFalse=>cases h
 rename_i hm;split at h
 ·cases h
 rename_i hi;rw [eo] at hr;obtain ⟨h1,⟨o1,p1⟩,h3⟩:=hr;have hmk:=AR hm
 have hP:=Ce (no:=au.no) (z:=au.zero) (m:=i.bare) (N:=8) (f:=D4 r i.bare) p1 (fun x hx=>by have:=AR (o1 x hx);omega) (by omega) (by
  intro k _;unfold D4
  by_cases e:(k:Int)+1=i.bare.no
  ·have e2:aZ r ((k:Int)+1)=false:=by
    rw [e];have:aZ r i.bare.no=aZ r i.no:=rfl;rw [this];simpa using hi
   rw [e2,e];simp
  ·have e':((k:Int)+1==i.bare.no)=false:=by simpa using e
   rw [e',if_neg e];simp only [aZ,aT,fZ,if_false,List.append_nil]
   rfl)
 obtain ⟨q1,q2⟩:=hP;refine ⟨eo.2 ⟨h1,⟨fun x hx=>?_,q1⟩,h3⟩,⟨fun _ _=>rfl,fun n hn=>?_,fun n hn=>?_,fun _ h=>h⟩⟩
 ·rcases (q2 x).1 hx with rfl | h
  ·exact hm
  ·exact o1 x h.1
 ·rw [qK] at hn |-;obtain ⟨x,hx,hxn⟩:=hn;refine ⟨x,(q2 x).2 (.inr ⟨hx,fun e=>hi ?_⟩),hxn⟩;rw [qK];exact ⟨x,hx,e⟩
 ·have e:aT (⟨r.ms,oo (D4 r i.bare) 8,r.xs⟩:aq) n=aT r n:=by
   unfold aT;refine E1 p1 fun x hx=>?_
   rw [q2 x];constructor
   ·rintro (rfl | h)
    ·have hx:i.no=n:=hx;rw [hx] at hi;exact absurd hn hi
    ·exact h.1
   ·intro h;refine .inr ⟨h,fun e=>hi ?_⟩;rw [qK];exact ⟨x,h,e⟩
  rw [e];exact ⟨rfl,rfl⟩
theorem Ml {r:aq} {a:av} (h:mz r a=0):(nQ r a).okB=true/\r.ext (nQ r a):=by
 unfold nQ;rw [if_pos h];unfold mz at h;split at h
 case isFalse=>cases h
 rename_i hr;split at h
 case isFalse=>cases h
 rename_i hm;rw [bW] at hm;have hm:=hm.1;rw [eo] at hr;obtain ⟨h1,h2,⟨o1,p1⟩⟩:=hr;have hmk:=Bl hm
 have hP:=Ce (no:=av.a) (z:=(⟨0,0,0,0⟩:av)) (m:=a) (N:=6) (f:=GU r a) p1 (fun x hx=>by have:=Bl (o1 x hx);omega) (by omega) (by
  intro k _;unfold GU
  by_cases e:(k:Int)+1=a.a
  ·rw [e];simp
  ·have e':((k:Int)+1==a.a)=false:=by simpa using e
   rw [e',if_neg e];simp only [ju,lB,fZ,if_false]
   rfl)
 obtain ⟨q1,q2⟩:=hP;refine ⟨eo.2 ⟨h1,h2,⟨fun x hx=>?_,q1⟩⟩,⟨fun _ _=>rfl,fun _ h=>h,fun _ _=>⟨rfl,rfl⟩,fun n hn=>?_⟩⟩
 ·rcases (q2 x).1 hx with rfl | h
  ·exact hm
  ·exact o1 x h.1
 ·rw [Ol] at hn |-;obtain ⟨x,hx,hxn⟩:=hn
  by_cases e:x.a=a.a
  ·exact ⟨a,(q2 a).2 (.inl rfl),by rw [<- e];exact hxn⟩
  ·exact ⟨x,(q2 x).2 (.inr ⟨hx,e⟩),hxn⟩
theorem TH {x:au} {p:Int} (h:x.ok=true) (hp:1<=p/\p<=1073741824):(x.told p).ok=true:=by
 have e:(x.told p).HG=x.HG:=by
  have:(x.told p).sh=x.sh:=by funext i;rcases i with _ | _ | _ | _ | _ | i<;>rfl
  simp only [au.HG,this]
 have e2:(x.told p).ok=(x.HG&&within x.no 1 8&&within x.cur 0 2&&within x.mult 1 1024&&within x.add 0 1073741824&&within p 0 1073741824&&within x.aR 0 1073741824):=by
  unfold au.ok;rw [e];rfl
 rw [e2];simp only [au.ok,within,bW,decide_eq_true_eq] at h |-;obtain ⟨⟨⟨⟨⟨⟨h0,h1⟩,h2⟩,h3⟩,h4⟩,h5⟩,h6⟩:=h;exact ⟨⟨⟨⟨⟨⟨h0,h1⟩,h2⟩,h3⟩,h4⟩,⟨by omega,by omega⟩⟩,h6⟩
theorem Su {x:au} (h:x.ok=true):x.pz.ok=true:=by
 unfold au.pz;split
 ·exact h
 rename_i hs;have hs:x.set≠0:=by simpa using hs
 have e:au.HG { x with aR:=x.set,set:=0 }=x.HG:=by
  have:au.sh { x with aR:=x.set,set:=0 }=x.sh:=by funext i;rcases i with _ | _ | _ | _ | _ | i<;>rfl
  simp only [au.HG,this]
 have e2:au.ok { x with aR:=x.set,set:=0 }=(x.HG&&within x.no 1 8&&within x.cur 0 2&&within x.mult 1 1024&&within x.add 0 1073741824&&within 0 0 1073741824&&within x.set 0 1073741824):=by
  unfold au.ok;rw [e]
 rw [e2];simp only [au.ok,within,bW,decide_eq_true_eq] at h |-;obtain ⟨⟨⟨⟨⟨⟨h0,h1⟩,h2⟩,h3⟩,h4⟩,h5⟩,h6⟩:=h;exact ⟨⟨⟨⟨⟨⟨h0,h1⟩,h2⟩,h3⟩,h4⟩,⟨by omega,by omega⟩⟩,h5⟩
theorem Nf (x:au):x.pz.no=x.no:=by unfold au.pz;split<;>rfl
theorem Mk {r:aq} {n p:Int} (h:uP r n p=0):(uC r n p).okB=true/\r.ext (uC r n p):=by
 unfold uC;rw [if_pos h];unfold uP at h;split at h
 case isFalse=>cases h
 rename_i hr;split at h
 case isFalse=>cases h
 split at h
 case isFalse=>cases h
 rename_i hp;simp only [within,bW,decide_eq_true_eq] at hp;rw [eo] at hr;obtain ⟨h1,⟨o1,p1⟩,h3⟩:=hr;have hno:=MK (no:=au.no) (n:=n) (f:=au.told p) (fun _=>rfl) r.ns;refine ⟨eo.2 ⟨h1,⟨fun x hx=>?_,Jz hno p1⟩,h3⟩,⟨fun _ _=>rfl,fun m hm=>?_,fun m hm=>?_,fun _ h=>h⟩⟩
 ·rcases Kp hx with h | ⟨y,hy,rfl⟩
  ·exact o1 x h
  ·exact TH (o1 y hy) hp
 ·unfold aZ at hm |-;rw [<- hm];exact Mu hno
 ·unfold aT;dsimp only;rw [IJ (no:=au.no) (f:=au.told p) (fun _=>rfl)];split<;>exact ⟨rfl,rfl⟩
theorem Ks {r:aq} (hr:r.okB=true):(IB r).okB=true/\r.ext (IB r):=by
 rw [eo] at hr;obtain ⟨h1,⟨o1,p1⟩,h3⟩:=hr
 have hno:(r.ns.map au.pz).map au.no=r.ns.map au.no:=by
  rw [List.map_map];exact List.map_congr_left fun x _=>Nf x
 refine ⟨eo.2 ⟨h1,⟨fun x hx=>?_,Jz hno p1⟩,h3⟩,⟨fun _ _=>rfl,fun m hm=>?_,fun m hm=>?_,fun _ h=>h⟩⟩
 ·obtain ⟨y,hy,rfl⟩:=List.mem_map.1 hx;exact Su (o1 y hy)
 ·unfold aZ at hm |-;rw [<- hm];exact Mu hno
 ·obtain ⟨m1,m2⟩:=CF hm;have e:aT (IB r) m=(aT r m).pz:=AL (no:=au.no) (Jz hno p1) (List.mem_map.2 ⟨_,m1,rfl⟩) (by rw [Nf];exact m2);rw [e];unfold au.pz;split<;>exact ⟨rfl,rfl⟩
theorem Bv {r:aq} {n p:Int} (h:zZ r n p=0):(lA r n p).okB=true/\(∀ w,bB (lA r n p) w=if w=n then p else bB r w)/\(lA r n p).ns=r.ns/\(lA r n p).xs=r.xs:=by
 unfold lA;rw [if_pos h];unfold zZ at h;split at h
 case isFalse=>cases h
 rename_i hr;split at h
 case isFalse=>cases h
 rename_i hi;split at h
 case isFalse=>cases h
 rename_i hp;simp only [within,bW,decide_eq_true_eq] at hp;rw [eo] at hr;obtain ⟨⟨o1,p1⟩,h2,h3⟩:=hr;have hno:=MK (no:=ak.no) (n:=n) (f:=ak.put p) (fun _=>rfl) r.ms;refine ⟨eo.2 ⟨⟨fun x hx=>?_,Jz hno p1⟩,h2,h3⟩,fun w=>?_,rfl,rfl⟩
 ·rcases Kp hx with h | ⟨y,hy,rfl⟩
  ·exact o1 x h
  ·have:=o1 y hy;have e2:(y.put p).ok=(within y.no 1 16&&within p 1 3&&bP y.need&&decide (0<=y.need)):=rfl;rw [e2];simp only [ak.ok,within,bW,decide_eq_true_eq] at this |-;exact ⟨⟨⟨this.1.1.1,hp⟩,this.1.2⟩,this.2⟩
 ·unfold bB ff;dsimp only;rw [IJ (no:=ak.no) (f:=ak.put p) (fun _=>rfl)]
  by_cases hw:w=n
  ·rw [if_pos ⟨hw,ym.1 hi⟩,if_pos hw];rfl
  ·rw [if_neg (fun h=>hw h.1),if_neg hw]
theorem FE {a b:aH}:a.same b=true ↔ a=b:=by
 obtain ⟨a1,a2,a3⟩:=a;obtain ⟨b1,b2,b3⟩:=b;simp only [aH.same,bW,beq_iff_eq,aH.mk.injEq]
theorem tN {a:aH} {b:bp}:RS a b=true ↔ b.bG=a:=by
 obtain ⟨a1,a2,a3⟩:=a;obtain ⟨b1,b2,b3,b4⟩:=b;simp only [RS,bp.bG,bW,beq_iff_eq,aH.mk.injEq]
theorem qw {a:aH} (h:a.less a=true):False:=by rw [mw] at h;omega
def tot {A:Type} (L:List A) (F:A->Int):Int:=az (L.map F)
theorem eP {A:Type} (x:A) (L:List A) (F:A->Int):tot (x :: L) F=F x+tot L F:=rfl
theorem gR {A:Type} (L:List A) (F G:A->Int):tot L (fun a=>F a+G a)=tot L F+tot L G:=by
 induction L with
 | nil=>rfl
 | cons x r ih=>simp only [eP,ih];omega
theorem gC {A:Type} {L:List A} {F:A->Int} (h:∀ a∈L,F a=0):tot L F=0:=by
 induction L with
 | nil=>rfl
 | cons x r ih=>rw [eP,h x (by simp),ih fun a ha=>h a (by simp [ha])];rfl
theorem ct {A:Type} {L:List A} {F G:A->Int} (h:∀ a∈L,F a=G a):tot L F=tot L G:=by
 induction L with
 | nil=>rfl
 | cons x r ih=>rw [eP,eP,h x (by simp),ih fun a ha=>h a (by simp [ha])]
theorem wG {A:Type} {L:List A} {R:A->A->Prop} (hp:L.Pairwise R) {x:A} (hx:x∈L) {F:A->Int} (h0:∀ a,(R a x\/R x a)->F a=0):tot L F=F x:=by
 induction L with
 | nil=>cases hx
 | cons y r ih =>
  rw [List.pairwise_cons] at hp;rw [eP];rcases List.mem_cons.1 hx with rfl | hx
  ·rw [gC fun a ha=>h0 a (.inr (hp.1 a ha))];omega
  ·rw [ih hp.2 hx,h0 y (.inl (hp.1 x hx))];omega
theorem Hq {k w c:Nat} {x:aH}:x∈acc k w c ↔ x=⟨(k:Int)+1,w,c⟩/\x.right=true:=by
 unfold acc;split
 ·rename_i h;simp only [List.mem_singleton];constructor
  ·rintro rfl;exact ⟨rfl,h⟩
  ·exact fun h=>h.1
 ·rename_i h;constructor
  ·intro h;cases h
  ·rintro ⟨rfl,h2⟩;exact absurd h2 h
theorem BK {k w n:Nat} {x:aH}:x∈xR k w n ↔ ∃ c,c < n/\x=⟨(k:Int)+1,w,(c:Nat)⟩/\x.right=true:=by
 rw [show xR k w n=oo (acc k w) n from rfl,iY];simp only [Hq]
theorem Be {k n:Nat} {x:aH}:x∈xF k n ↔ ∃ w,w < n/\∃ c,c < 3/\x=⟨(k:Int)+1,(w:Nat),(c:Nat)⟩/\x.right=true:=by
 rw [show xF k n=oo (fun w=>xR k w 3) n from rfl,iY];simp only [BK]
theorem Pk {n:Nat} {x:aH}:x∈B1 n ↔ ∃ k,k < n/\∃ w,w < 17/\∃ c,c < 3/\x=⟨((k:Nat):Int)+1,(w:Nat),(c:Nat)⟩/\x.right=true:=by
 rw [show B1 n=oo (fun k=>xF k 17) n from rfl,iY];simp only [Be]
theorem qy {x:aH} (h:x.right=true):(1<=x.kind/\x.kind<=6)/\(0<=x.who/\x.who<=16)/\0<=x.cur/\x.cur<=2:=by
 unfold aH.right at h;split at h
 ·cases h
 ·split at h
  ·simp only [bW,decide_eq_true_eq] at h;omega
  ·simp only [beq_iff_eq] at h;omega
theorem wJ {x:aH}:x∈gE ↔ x.right=true:=by
 unfold gE;rw [Pk];constructor
 ·rintro ⟨_,_,_,_,_,_,_,h⟩;exact h
 ·intro h;have:=qy h;refine ⟨(x.kind-1).toNat,by omega,x.who.toNat,by omega,x.cur.toNat,by omega,?_,h⟩;obtain ⟨a,b,c⟩:=x;dsimp only at this |-;rw [aH.mk.injEq];omega
theorem wM:gE.Pairwise (fun a b=>a.less b=true):=by
 unfold gE;rw [show B1 6=oo (fun k=>xF k 17) 6 from rfl];refine qM (fun k _=>?_) fun i j hij _ x hx y hy=>?_
 ·rw [show xF k 17=oo (fun w=>xR k w 3) 17 from rfl];refine qM (fun w _=>?_) fun i j hij _ x hx y hy=>?_
  ·rw [show xR k w 3=oo (acc k w) 3 from rfl];refine qM (fun c _=>tu (by unfold acc;split<;>simp)) fun i j hij _ x hx y hy=>?_
   obtain ⟨rfl,_⟩:=Hq.1 hx;obtain ⟨rfl,_⟩:=Hq.1 hy;rw [mw];dsimp only;omega
  ·obtain ⟨_,_,rfl,_⟩:=BK.1 hx;obtain ⟨_,_,rfl,_⟩:=BK.1 hy;rw [mw];dsimp only;omega
 ·obtain ⟨_,_,_,_,rfl,_⟩:=Be.1 hx;obtain ⟨_,_,_,_,rfl,_⟩:=Be.1 hy;rw [mw];dsimp only;omega
def y8 (c:Int) (a:aH) (n:Int):Int:=if a.cur=c then n else 0
theorem wZ (c:Int) (b:bp) (n:Int):y8 c b.bG n=if b.cur=c then n else 0:=rfl
theorem Te (c:Int) (b:aX) (n:Int):y8 c b.bG n=if b.cur=c then n else 0:=rfl
theorem Vk (c:Int) (a:aH) (m n:Int):y8 c (bp.bG ⟨a.kind,a.who,a.cur,m⟩) n=y8 c a n:=rfl
theorem uf (c:Int) (b:bp) (r:List bp):az (fO c (b :: r))=y8 c b.bG b.sum+az (fO c r):=by
 rw [wZ];simp only [fO,List.filter_cons]
 by_cases h:b.cur=c
 ·rw [if_pos (by simpa using h),if_pos h];rfl
 ·rw [if_neg (by simpa using h),if_neg h];simp
theorem PA (c:Int) (a b:List bp):fO c (a++b)=fO c a++fO c b:=by simp [fO]
theorem Qg (c:Int) (S:aH->Int) (L:List aH):az (fO c (L.flatMap fun a=>qi a (S a)))=tot L fun a=>y8 c a (S a):=by
 induction L with
 | nil=>rfl
 | cons x r ih =>
  rw [List.flatMap_cons,PA,cU,ih,eP];congr 1;unfold qi;split
  ·rename_i h;have h:S x=0:=by simpa using h
   rw [h];simp [fO,az,y8]
  ·rw [uf,Vk];simp [fO,az]
theorem wv {a:aH}:∀ {bs:List bp},(∀ b∈bs,b.bG≠a)->gB a bs=0
 | [],_=>rfl
 | b :: r,h=>by
  simp only [gB];rw [if_neg (fun hh=>h b (by simp) (tN.1 hh))];exact wv fun x hx=>h x (by simp [hx])
theorem Qy (c:Int):∀ {bs:List bp},(∀ b∈bs,b.bG.right=true)->bs.Pairwise (fun x y=>x.bG.less y.bG=true)->tot gE (fun a=>y8 c a (gB a bs))=az (fO c bs)
 | [],_,_=>gC fun a _=>by simp [gB,y8]
 | b :: r,h1,h2=>by
  rw [List.pairwise_cons] at h2;rw [uf,<- Qy c (fun x hx=>h1 x (by simp [hx])) h2.2]
  have e:∀ a∈gE,y8 c a (gB a (b :: r))=(if b.bG=a then y8 c a b.sum else 0)+y8 c a (gB a r):=by
   intro a _;simp only [gB]
   by_cases hb:b.bG=a
   ·rw [if_pos (tN.2 hb),if_pos hb];rw [wv (bs:=r) (fun x hx hxa=>by have:=h2.1 x hx;rw [hb,hxa] at this;exact qw this)];simp [y8]
   ·rw [if_neg (fun hh=>hb (tN.1 hh)),if_neg hb];omega
  rw [ct e,gR];congr 1;rw [wG wM (x:=b.bG) (wJ.2 (h1 b (by simp)))]
  ·simp
  ·intro a ha;rw [if_neg]
   rintro rfl
   rcases ha with h | h<;>exact qw h
theorem lQ (a:aH) (x:aX) (g:List aX):az (dK a (x :: g))=(if x.bG=a then x.bV else 0)+az (dK a g):=by
 simp only [dK,pick,List.flatMap_cons,cU];congr 1
 by_cases h:x.bG=a
 ·rw [if_pos (FE.2 h),if_pos h];simp [az]
 ·rw [if_neg (fun hh=>h (FE.1 hh)),if_neg h];rfl
theorem Nx (c:Int) (x:aX) (g:List aX):az (qE c (x :: g))=y8 c x.bG x.bV+az (qE c g):=by
 simp only [qE,pick,List.flatMap_cons,cU];congr 1;rw [Te]
 by_cases h:x.cur=c
 ·rw [if_pos (by simpa using h),if_pos h];simp [az]
 ·rw [if_neg (by simpa using h),if_neg h];rfl
theorem J0 (c:Int):∀ {g:List aX},(∀ x∈g,x.bG.right=true)->tot gE (fun a=>y8 c a (az (dK a g)))=az (qE c g)
 | [],_=>gC fun a _=>by simp [dK,pick,y8,az]
 | x :: r,h1=>by
  rw [Nx,<- J0 c (fun y hy=>h1 y (by simp [hy]))]
  have e:∀ a∈gE,y8 c a (az (dK a (x :: r)))=(if x.bG=a then y8 c a x.bV else 0)+y8 c a (az (dK a r)):=by
   intro a _;rw [lQ]
   by_cases hb:x.bG=a
   ·rw [if_pos hb,if_pos hb];simp only [y8];split<;>omega
   ·rw [if_neg hb,if_neg hb];simp only [Int.zero_add]
  rw [ct e,gR];congr 1;rw [wG wM (x:=x.bG) (wJ.2 (h1 x (by simp)))]
  ·simp
  ·intro a ha;rw [if_neg]
   rintro rfl
   rcases ha with h | h<;>exact qw h
theorem w5 {bs:List bp} {c:Int}:jH bs c=true ↔ right (fO c bs)=true/\az (fO c bs)=0:=by
 simp only [jH,rA,rz,bW,beq_iff_eq];constructor
 ·rintro ⟨h1,h2⟩
  split at h1
  ·rename_i hr;split at h1
   ·rename_i hi;rw [hr,hi] at h2;exact ⟨hr,by simpa using h2⟩
   ·cases h1
  ·cases h1
 ·rintro ⟨hr,hs⟩
  rw [if_pos hr,hs,hr];exact ⟨rfl,rfl⟩
theorem iR {l:bq}:l.okB=true ↔ 0<=l.last/\((∀ b∈l.bs,j0 b=true)/\l.bs.Pairwise (fun x y=>x.bG.less y.bG=true))/\jH l.bs 0=true/\jH l.bs 1=true/\jH l.bs 2=true:=by
 simp only [bq.okB,bW,RZ,decide_eq_true_eq,and_assoc]
theorem qu {l:bq} (h:l.okB=true):∀ b∈l.bs,b.bG.right=true:=fun b hb=>by
 have:=(iR.1 h).2.1.1 b hb;simp only [j0,bW] at this;exact this.1
theorem IK {l:bq} {id:Int} {g:List aX} (h:eH l id g=0):l.okB=true/\(1<=id/\id<=1099511627776)/\rY g=0/\xm l g gE=true/\sB l g gE=false:=by
 unfold eH at h;split at h
 case isFalse=>cases h
 rename_i h1;split at h
 case isFalse=>cases h
 rename_i h2;split at h
 ·cases h
 split at h
 case isFalse h3=>exact absurd h h3
 rename_i h3;split at h
 case isFalse=>cases h
 rename_i h4;split at h
 ·cases h
 rename_i h5;simp only [within,bW,decide_eq_true_eq] at h2;exact ⟨h1,h2,h3,h4,by simpa using h5⟩
theorem J8 {l:bq} {id:Int} {g:List aX} (h:eH l id g=0):(gG l id g).okB=true:=by
 unfold gG;rw [if_pos h];obtain ⟨h1,h2,h3,h4,h5⟩:=IK h;obtain ⟨m1,m2,m3⟩:=J1 h3
 have hmr:∀ x∈g,x.bG.right=true:=fun x hx=>by
  have:=List.all_eq_true.1 m1 x hx;simp only [M4,bW] at this;exact this.1
 have hb:=iR.1 h1
 have hal:∀ b∈DD l g gE,∃ a∈gE,b=⟨a.kind,a.who,a.cur,mK l g a⟩/\mK l g a≠0:=by
  intro b hb;obtain ⟨a,ha,hb⟩:=List.mem_flatMap.1 hb;unfold qi at hb;split at hb
  ·cases hb
  ·rename_i hne;simp only [List.mem_singleton] at hb;exact ⟨a,ha,hb,by simpa using hne⟩
 have hin:∀ a∈gE,bP (mK l g a)=true:=fun a ha=>List.all_eq_true.1 h4 a ha
 have hcur:∀ c:Int,jH l.bs c=true->az (qE c g)=0->jH (DD l g gE) c=true:=by
  intro c hc hg;rw [w5] at hc |-;constructor
  ·refine List.all_eq_true.2 fun n hn=>?_
   simp only [fO,List.mem_map,List.mem_filter] at hn;obtain ⟨b,⟨hb,_⟩,rfl⟩:=hn;obtain ⟨a,ha,rfl,_⟩:=hal b hb;exact hin a ha
  ·have e:=Qg c (mK l g) gE;rw [show DD l g gE=gE.flatMap fun a=>qi a (mK l g a) from rfl,e]
   have e2:∀ a∈gE,y8 c a (mK l g a)=y8 c a (gB a l.bs)+y8 c a (az (dK a g)):=fun a _=>by
    simp only [mK,az,y8];split<;>omega
   rw [ct e2,gR,Qy c (qu h1) hb.2.1.2,J0 c hmr,hc.2,hg];rfl
 have hfl:∀ c:Nat,c < 3->az (qE c g)=0:=fun c hc=>by
  have:=List.all_eq_true.1 m2 c (List.mem_range.2 hc);simpa using this
 refine iR.2 ⟨by dsimp only;omega,⟨fun b hb=>?_,?_⟩,hcur 0 hb.2.2.1 (hfl 0 (by omega)),hcur 1 hb.2.2.2.1 (hfl 1 (by omega)),hcur 2 hb.2.2.2.2 (hfl 2 (by omega))⟩
 ·obtain ⟨a,ha,rfl,hne⟩:=hal b hb;rw [show j0 ⟨a.kind,a.who,a.cur,mK l g a⟩=(a.right&&(bP (mK l g a)&&(mK l g a != 0&&!decide (mK l g a < a.floor)))) from rfl];simp only [bW,bne_iff_ne,Bool.not_eq_true',decide_eq_false_iff_not];refine ⟨wJ.1 ha,hin a ha,hne,fun hlt=>?_⟩;have:sB l g gE=true:=List.any_eq_true.2 ⟨a,ha,by simpa using hlt⟩;rw [h5] at this;cases this
 ·refine F4 (f:=fun a=>qi a (mK l g a)) wM (fun a _=>tu (Ki _ _)) fun a b _ _ hab x hx y hy=>?_
  have key:∀ (a:aH) (x:bp),x∈qi a (mK l g a)->x.bG=a:=fun a x hx=>by
   unfold qi at hx;split at hx
   ·cases hx
   ·simp only [List.mem_singleton] at hx;rw [hx];rfl
  rw [key a x hx,key b y hy];exact hab
theorem EJ {l:bq} {g:List aX} {e:Int} (h:l.okB=true) (h0:(fm l g e).2=0):(fm l g e).1.okB=true:=by
 unfold fm at h0 |-;split
 ·rename_i hc;rw [if_pos hc] at h0;exact J8 h0
 ·exact h
theorem Fp {a b:aA}:fP a b=true ↔ a.who < b.who\/(a.who=b.who/\a.inst < b.inst):=by
 simp only [fP,Ba,Bool.or_eq_true,bW,decide_eq_true_eq,beq_iff_eq]
theorem Po {a b c:aA} (h1:fP a b=true) (h2:fP b c=true):fP a c=true:=by
 simp only [fP,Ba,Bool.or_eq_true,bW,decide_eq_true_eq,beq_iff_eq] at h1 h2 |-;omega
theorem L3 {a b c:aI} (h1:ef a b=true) (h2:ef b c=true):ef a c=true:=by
 simp only [ef,decide_eq_true_eq] at h1 h2 |-;omega
theorem L6 {n:Int} {l:List aA}:kE n l=true ↔ right (bR n l)=true/\az (bR n l)=0:=by
 simp only [kE,rA,rz,bW,beq_iff_eq];constructor
 ·rintro ⟨h1,h2⟩
  split at h1
  ·rename_i hr;split at h1
   ·rename_i hi;rw [hr,hi] at h2;exact ⟨hr,by simpa using h2⟩
   ·cases h1
  ·cases h1
 ·rintro ⟨hr,hs⟩
  rw [if_pos hr,hs,hr];exact ⟨rfl,rfl⟩
theorem jI {p:aA}:p.okB=true ↔ (1<=p.who/\p.who<=16)/\(1<=p.inst/\p.inst<=8)/\(-1099511627776<=p.aV/\p.aV<=1099511627776)/\bP p.cost=true /\ ¬ (p.aV=0/\p.cost=0):=by
 simp only [aA.okB,ot,within,bW,decide_eq_true_eq,Bool.not_eq_true',Bool.and_eq_false_iff,beq_eq_false_iff_ne,ne_eq];constructor
 ·rintro ⟨⟨h1,h2⟩,h3,h4,h5⟩;exact ⟨h1,h2,h3,h4,fun h=>by rcases h5 with h5 | h5<;>omega⟩
 ·rintro ⟨h1,h2,h3,h4,h5⟩;refine ⟨⟨h1,h2⟩,h3,h4,?_⟩;omega
structure aF.right (b:aF):Prop where
 ok:∀ p∈b.qs,p.okB=true
 pw:b.qs.Pairwise (fun x y=>fP x y=true)
 level:∀ n:Int,1<=n->n<=8->az (bR n b.qs)=0
 tok:∀ t∈b.ts,eK b.next t=true
 YK:b.ts.Pairwise (fun x y=>x.no < y.no)
 tl:b.ts.length<=128
 n0:0<=b.next
 n1:b.next<=1099511627776
theorem dD {b:aF}:b.okB=true ↔ b.right:=by
 simp only [aF.okB,bW,oB (lt:=fP) Po,oB (lt:=ef) L3,Bool.not_eq_true',decide_eq_false_iff_not,lq,List.all_eq_true,L6];constructor
 ·rintro ⟨⟨h1,h2⟩,⟨h3,h4⟩,h5,h6,h7,h8⟩
  refine ⟨h1,h2,fun n hn hn2=>?_,h3,h4.imp fun h=>by simpa [ef] using h,by omega,by omega,by omega⟩;have:=(h5 (n-1).toNat (List.mem_range.2 (by omega))).2
  rwa [show (((n-1).toNat:Nat):Int)+1=n by omega] at this
 ·intro h;refine ⟨⟨h.ok,h.pw⟩,⟨h.tok,h.YK.imp fun h=>by simpa [ef] using h⟩,fun i hi=>⟨?_,h.level _ (by omega) (by have:=List.mem_range.1 hi;omega)⟩,by have:=h.tl;omega,by have:=h.n0;omega,by have:=h.n1;omega⟩;refine List.all_eq_true.2 fun q hq=>?_
  simp only [bR,List.mem_map,List.mem_filter] at hq;obtain ⟨p,⟨hp,_⟩,rfl⟩:=hq;have:=(jI.1 (h.ok p hp)).2.2.1;rw [cm];omega
theorem Ff (n:Int) (a b:List aA):bR n (a++b)=bR n a++bR n b:=by simp [bR]
theorem jC (n:Int) (p:aA) (r:List aA):az (bR n (p :: r))=(if p.inst=n then p.aV else 0)+az (bR n r):=by
 simp only [bR,List.filter_cons]
 by_cases h:p.inst=n
 ·rw [if_pos (by simpa using h),if_pos h];rfl
 ·rw [if_neg (by simpa using h),if_neg h];simp
theorem vc {A:Type} (n:Int) (f:A->List aA) (L:List A):az (bR n (L.flatMap f))=tot L (fun a=>az (bR n (f a))):=by
 induction L with
 | nil=>rfl
 | cons x r ih=>rw [List.flatMap_cons,Ff,cU,ih];rfl
theorem NO (b:aF) (g:List aA) (w m n:Int):az (bR n (D8 b g w m))=if m=n then Ep b g w m else 0:=by
 unfold D8;split
 ·rename_i h;simp only [bW,beq_iff_eq] at h;rw [h.1];split<;>rfl
 ·rw [jC];simp [bR,az]
theorem Df (n:Nat):(List.range n).Pairwise (fun a b=>a < b):=List.pairwise_lt_range
theorem Nn (b:aF) (g:List aA) (w n:Int) (h1:1<=n) (h8:n<=8):az (bR n (Ky b g w 8))=Ep b g w n:=by
 unfold Ky;rw [vc]
 have e:∀ k∈List.range 8,az (bR n (D8 b g w ((k:Int)+1)))=if (k:Int)+1=n then Ep b g w n else 0:=fun k _=>by
  rw [NO];split
  ·rename_i h;rw [h]
  ·rfl
 rw [ct e,wG (Df 8) (x:=(n-1).toNat) (List.mem_range.2 (by omega))]
 ·rw [if_pos (by omega)]
 ·intro a ha;rw [if_neg (by omega)]
theorem Ob (b:aF) (g:List aA) (n:Int) (h1:1<=n) (h8:n<=8):az (bR n (vO b g 16))=tot (List.range 16) (fun k=>Ep b g ((k:Int)+1) n):=by
 unfold vO;rw [vc];exact ct fun k _=>Nn b g _ n h1 h8
theorem eC {w n:Int} {p:aA}:dM w n p=true ↔ p.who=w/\p.inst=n:=by simp only [dM,bW,beq_iff_eq]
theorem lF {w n:Int}:∀ {qs:List aA},(∀ p∈qs,¬ (p.who=w/\p.inst=n))->posOf w n qs=⟨w,n,0,0⟩
 | [],_=>rfl
 | p :: r,h=>by
  simp only [posOf];rw [if_neg (by simp only [dM,bW,beq_iff_eq];exact h p (by simp))];exact lF fun x hx=>h x (by simp [hx])
theorem Ca {w n:Int} {qs:List aA} (hp:qs.Pairwise (fun x y=>fP x y=true)) {p:aA} (hm:p∈qs) (hk:p.who=w/\p.inst=n):posOf w n qs=p:=by
 induction qs with
 | nil=>cases hm
 | cons y r ih =>
  rw [List.pairwise_cons] at hp;simp only [posOf];rcases List.mem_cons.1 hm with rfl | hm
  ·rw [if_pos (by simp only [dM,bW,beq_iff_eq];exact hk)]
  ·have:=hp.1 p hm;rw [if_neg]
   ·exact ih hp.2 hm
   ·simp only [fP,Ba,Bool.or_eq_true,bW,decide_eq_true_eq,beq_iff_eq] at this;simp only [dM,bW,beq_iff_eq];omega
theorem PK {w v:Int} (h:1<=w/\w<=16):tot (List.range 16) (fun k=>if w=(k:Int)+1 then v else 0)=v:=by
 rw [wG (Df 16) (x:=(w-1).toNat) (List.mem_range.2 (by omega))]
 ·rw [if_pos (by omega)]
 ·intro a ha;rw [if_neg (by omega)]
theorem P7 (n:Int):∀ {qs:List aA},(∀ p∈qs,1<=p.who/\p.who<=16)->qs.Pairwise (fun x y=>fP x y=true)->tot (List.range 16) (fun k=>(posOf ((k:Int)+1) n qs).aV)=az (bR n qs)
 | [],_,_=>gC fun a _=>rfl
 | p :: r,h1,h2=>by
  rw [List.pairwise_cons] at h2;rw [jC,<- P7 n (fun x hx=>h1 x (by simp [hx])) h2.2]
  have e:∀ k∈List.range 16,(posOf ((k:Int)+1) n (p :: r)).aV=(if p.who=(k:Int)+1 then (if p.inst=n then p.aV else 0) else 0)+(posOf ((k:Int)+1) n r).aV:=by
   intro k _;simp only [posOf]
   by_cases hw:p.who=(k:Int)+1
   ·rw [if_pos hw]
    by_cases hn:p.inst=n
    ·rw [if_pos hn,if_pos (eC.2 ⟨hw,hn⟩)];rw [lF (qs:=r)]
     ·simp
     ·intro x hx hk;have:=h2.1 x hx;simp only [fP,Ba,Bool.or_eq_true,bW,decide_eq_true_eq,beq_iff_eq] at this;omega
    ·rw [if_neg hn,if_neg (fun h=>hn (eC.1 h).2)];omega
   ·rw [if_neg hw,if_neg (fun h=>hw (eC.1 h).1)];omega
  rw [ct e,gR,PK (h1 p (by simp))]
theorem nA {A:Type} (q:A->Bool) (f:A->Int) (x:A) (r:List A):az (pick q f (x :: r))=(if q x=true then f x else 0)+az (pick q f r):=by
 simp only [pick,List.flatMap_cons,cU];congr 1;split
 ·simp [az]
 ·rfl
theorem Ih (n:Int) (f:aA->Int):∀ {g:List aA},(∀ p∈g,1<=p.who/\p.who<=16)->tot (List.range 16) (fun k=>az (pick (dM ((k:Int)+1) n) f g))=az (pick (fun p=>p.inst==n) f g)
 | [],_=>gC fun a _=>rfl
 | p :: r,h1=>by
  rw [nA,<- Ih n f (fun x hx=>h1 x (by simp [hx]))]
  have e:∀ k∈List.range 16,az (pick (dM ((k:Int)+1) n) f (p :: r))=(if p.who=(k:Int)+1 then (if (p.inst==n)=true then f p else 0) else 0)+az (pick (dM ((k:Int)+1) n) f r):=by
   intro k _;rw [nA];congr 1
   by_cases hw:p.who=(k:Int)+1
   ·rw [if_pos hw]
    by_cases hn:p.inst=n
    ·rw [if_pos (eC.2 ⟨hw,hn⟩),if_pos (by simpa using hn)]
    ·rw [if_neg (fun h=>hn (eC.1 h).2),if_neg (by simpa using hn)]
   ·rw [if_neg hw,if_neg (fun h=>hw (eC.1 h).1)]
  rw [ct e,gR,PK (h1 p (by simp))]
theorem Mc {p:aA} (h:qm p=true):(1<=p.who/\p.who<=16)/\(1<=p.inst/\p.inst<=8):=by
 simp only [qm,ot,within,bW,decide_eq_true_eq] at h;exact h.1
theorem q9 {b:aF} {g:List aA} {w n:Int} {p:aA} (h:p∈D8 b g w n):p=⟨w,n,Ep b g w n,Rs b g w n⟩ /\ ¬ (Ep b g w n=0/\Rs b g w n=0):=by
 unfold D8 at h;split at h
 ·cases h
 ·rename_i hne;simp only [bW,beq_iff_eq] at hne;exact ⟨List.mem_singleton.1 h,hne⟩
theorem Tn {b:aF} {g:List aA} {p:aA} (h:p∈vO b g 16):(∃ q∈b.qs,q.who=p.who/\q.inst=p.inst)\/(∃ q∈g,q.who=p.who/\q.inst=p.inst):=by
 obtain ⟨k,m,_,_,hp⟩:=wu h;obtain ⟨rfl,hne⟩:=q9 hp;dsimp only
 by_cases h1:∃ q∈b.qs,q.who=(k:Int)+1/\q.inst=(m:Int)+1
 ·exact .inl h1
 by_cases h2:∃ q∈g,q.who=(k:Int)+1/\q.inst=(m:Int)+1
 ·exact .inr h2
 exfalso;have e1:=lF (w:=(k:Int)+1) (n:=(m:Int)+1) (qs:=b.qs) fun p hp hk=>h1 ⟨p,hp,hk⟩
 have e2:∀ f:aA->Int,pick (dM ((k:Int)+1) ((m:Int)+1)) f g=[]:=fun f=>by
  unfold pick;rw [List.flatMap_eq_nil_iff];intro x hx;rw [if_neg];simp only [dM,bW,beq_iff_eq];exact fun hk=>h2 ⟨x,hx,hk⟩
 apply hne;unfold Ep Rs;rw [e1,e2,e2];exact ⟨rfl,rfl⟩
theorem FP (b:aF) (g:List aA):(vO b g 16).Pairwise (fun x y=>fP x y=true):=by
 rw [show vO b g 16=oo (fun k=>Ky b g ((k:Int)+1) 8) 16 from rfl];refine qM (fun k _=>?_) fun i j hij _ x hx y hy=>?_
 ·rw [show Ky b g ((k:Int)+1) 8=oo (fun m=>D8 b g ((k:Int)+1) ((m:Int)+1)) 8 from rfl];refine qM (fun m _=>tu (by unfold D8;split<;>simp)) fun i j hij _ x hx y hy=>?_
  rw [(q9 hx).1,(q9 hy).1];rw [Fp];dsimp only;omega
 ·obtain ⟨m,_,hx⟩:=List.mem_flatMap.1 hx;obtain ⟨m2,_,hy⟩:=List.mem_flatMap.1 hy;rw [(q9 hx).1,(q9 hy).1];rw [Fp];dsimp only;omega
theorem yh {b:aF} {g:List aA} (h:jj b g=0):(∀ p∈vO b g 16,p.okB=true)/\∀ n:Int,1<=n->n<=8->az (bR n (vO b g 16))=0:=by
 obtain ⟨h1,h2,h3⟩:=tQ h;have hb:=dD.1 (kg h).1;refine ⟨fun p hp=>?_,fun n hn1 hn8=>?_⟩
 ·obtain ⟨k,m,hk,hm,hp⟩:=wu hp;have hok:=BD h3 hk hm;obtain ⟨rfl,hne⟩:=q9 hp;simp only [CE,within,bW,decide_eq_true_eq] at hok;rw [jI];dsimp only;exact ⟨by omega,by omega,hok.2.2,hok.2.1,hne⟩
 ·rw [Ob _ _ _ hn1 hn8];have e:∀ k∈List.range 16,Ep b g ((k:Int)+1) n=(posOf ((k:Int)+1) n b.qs).aV+az (pick (dM ((k:Int)+1) n) aA.aV g):=fun k _=>rfl
  rw [ct e,gR,P7 n (fun p hp=>(jI.1 (hb.ok p hp)).1) hb.pw,Ih n aA.aV (fun p hp=>(Mc (List.all_eq_true.1 h1 p hp)).1),hb.level n hn1 hn8];have:=List.all_eq_true.1 h2 (n-1).toNat (List.mem_range.2 (by omega));rw [show (((n-1).toNat:Nat):Int)+1=n by omega] at this;simpa using this
theorem TE {b:aF} {g:List aA} (h:jj b g=0):(sn b g).okB=true:=by
 have hb:=dD.1 (kg h).1;rw [(kg h).2];obtain ⟨q1,q2⟩:=yh h;exact dD.2 ⟨q1,FP b g,q2,hb.tok,hb.YK,hb.tl,hb.n0,hb.n1⟩
theorem FC {b:aF} {t:aI} (h:fJ b t=0):b.okB=true/\t.okB=true/\b.ts.length < 128/\b.next≠1099511627776/\jj b (fV t false)=0:=by
 unfold fJ at h;split at h
 case isFalse=>cases h
 rename_i h1;split at h
 case isFalse=>cases h
 rename_i h2;split at h
 ·cases h
 rename_i h3;split at h
 ·cases h
 rename_i h4;exact ⟨h1,h2,by omega,h4,h⟩
theorem EN {b:aF} {t:aI} (h:fJ b t=0):(gS b t).okB=true:=by
 obtain ⟨h1,h2,h3,h4,h5⟩:=FC h;have hb:=dD.1 h1;obtain ⟨q1,q2⟩:=yh h5;have n0:=hb.n0;have n1:=hb.n1
 have hno:∀ x∈b.ts,(1<=x.no/\x.no<=b.next)/\x.okB=true:=fun x hx=>by
  have:=hb.tok x hx;simp only [eK,bW,Bool.not_eq_true',decide_eq_false_iff_not] at this;exact ⟨by omega,this.1⟩
 unfold gS;rw [if_pos h];refine dD.2 ⟨q1,FP _ _,q2,fun x hx=>?_,?_,by dsimp only;simp;omega,by dsimp only;omega,by dsimp only;omega⟩
 ·simp only [eK,bW,Bool.not_eq_true',decide_eq_false_iff_not];rcases List.mem_append.1 hx with hx | hx
  ·have:=hno x hx;exact ⟨this.2,by omega,by omega⟩
  ·obtain rfl:=List.mem_singleton.1 hx;exact ⟨h2,by dsimp only;omega,by dsimp only;omega⟩
 ·dsimp only;rw [List.pairwise_append];refine ⟨hb.YK,by simp,fun x hx y hy=>?_⟩;obtain rfl:=List.mem_singleton.1 hy;have:=hno x hx;dsimp only;omega
theorem B9 {b:aF} {n:Int} (h:¬ gy n b.ts < 0):cq n b.ts∈b.ts/\(gy n b.ts).toNat < b.ts.length/\b.ts[(gy n b.ts).toNat]?=some (cq n b.ts):=by
 obtain ⟨i,hi,he,_⟩:=sN h;unfold cq;rw [he,Int.toNat_natCast,List.getD_eq_getElem?_getD,List.getElem?_eq_getElem hi];exact ⟨List.getElem_mem hi,hi,rfl⟩
theorem L1 {b:aF} {n:Int} (h:eg b n=0):(dI b n).okB=true:=by
 obtain ⟨h1,h2,h3⟩:=nL h;have hb:=dD.1 h1;obtain ⟨q1,q2⟩:=yh h3;obtain ⟨m1,m2,m3⟩:=B9 h2;unfold dI;rw [if_pos h];refine dD.2 ⟨q1,FP _ _,q2,fun x hx=>?_,?_,by dsimp only;simp only [Oa,List.length_set];exact hb.tl,hb.n0,hb.n1⟩
 ·rcases List.mem_or_eq_of_mem_set hx with hx | rfl
  ·exact hb.tok x hx
  ·exact (show eK b.next (cq n b.ts)=true from hb.tok _ m1)
 ·refine Jz (no:=aI.no) ?_ hb.YK;dsimp only;unfold Oa;rw [List.map_set];refine List.ext_getElem? fun j=>?_
  rw [List.getElem?_set];split
  ·rename_i hj;subst hj;rw [List.getElem?_map,m3];simp [m2]
  ·rfl
theorem sE {b:aF} {n q p:Int} (h:qG b n q p=0):eg b n=0/\fJ (dI b n) { cq n b.ts with aV:=q,aR:=p }=0:=by
 unfold qG at h;split at h
 ·exact ⟨by assumption,h⟩
 ·rename_i hc;exact absurd h hc
theorem HS {b:aF} {n q p:Int} (h:qG b n q p=0):(nW b n q p).okB=true:=by
 obtain ⟨h1,h2⟩:=sE h;unfold nW;rw [if_pos h1];exact EN h2
theorem Iw {r:aq}:∀ {l:List aA},n9 r l=0->∀ p∈l,Bx r p=0
 | [],_,_,h=>by cases h
 | q :: t,h,p,hp=>by
  simp only [n9] at h;split at h
  ·rcases List.mem_cons.1 hp with rfl | hp
   ·assumption
   ·exact Iw h p hp
  ·rename_i hne;exact absurd h hne
theorem MY {r:aq} {b:aF} (h:um r b=0):r.okB=true/\b.okB=true/\∀ p∈b.qs,Bx r p=0:=by
 unfold um at h;split at h
 ·rename_i hb;rw [bW] at hb;exact ⟨hb.1,hb.2,Iw h⟩
 ·cases h
theorem CC {r:aq} {p:aA} (h:Bx r p=0):aZ r p.inst=true/\bP (gM p (aT r p.inst).mult (dQ (aT r p.inst)))=true/\bP (p.aV*dQ (aT r p.inst))=true:=by
 unfold Bx at h;split at h
 case isFalse=>cases h
 rename_i h1;split at h
 ·cases h
 split at h
 case isFalse=>cases h
 rename_i h2;rw [bW] at h2;exact ⟨h1,h2⟩
theorem ud {r:aq} {p x:aA} (h:x∈mT r p):x=⟨p.who,p.inst,p.aV,p.aV*dQ (aT r p.inst)⟩ /\ ¬ (p.aV=0/\p.aV*dQ (aT r p.inst)=0):=by
 unfold mT at h;split at h
 ·cases h
 ·rename_i hne;simp only [bW,beq_iff_eq] at hne;exact ⟨List.mem_singleton.1 h,hne⟩
theorem SJ {r:aq} {b:aF} (h:um r b=0):(vr r b).okB=true:=by
 obtain ⟨_,h2,h3⟩:=MY h;have hb:=dD.1 h2;unfold vr;rw [if_pos h];refine dD.2 ⟨fun x hx=>?_,?_,fun n hn1 hn8=>?_,hb.tok,hb.YK,hb.tl,hb.n0,hb.n1⟩
 ·obtain ⟨p,hp,hx⟩:=List.mem_flatMap.1 hx;obtain ⟨rfl,hne⟩:=ud hx;have:=jI.1 (hb.ok p hp);rw [jI];exact ⟨this.1,this.2.1,this.2.2.1,(CC (h3 p hp)).2.2,hne⟩
 ·refine F4 (f:=mT r) hb.pw (fun p _=>tu (by unfold mT;split<;>simp)) fun p q _ _ hpq x hx y hy=>?_
  rw [(ud hx).1,(ud hy).1];exact hpq
 ·dsimp only;rw [vc,<- hb.level n hn1 hn8]
  have e:∀ l:List aA,tot l (fun p=>az (bR n (mT r p)))=az (bR n l):=fun l=>by
   induction l with
   | nil=>rfl
   | cons p t ih =>
    rw [eP,ih,jC];congr 1;unfold mT;split
    ·rename_i hz;simp only [bW,beq_iff_eq] at hz;rw [hz.1];split<;>rfl
    ·rw [jC];simp [bR,az]
  exact e b.qs
theorem Nk {a b c:aB} (h1:bL a b=true) (h2:bL b c=true):bL a c=true:=by
 simp only [bL,Bool.or_eq_true,bW,decide_eq_true_eq,beq_iff_eq] at h1 h2 |-;omega
theorem qk {a b c:bD} (h1:dG a b=true) (h2:dG b c=true):dG a c=true:=by
 simp only [dG,decide_eq_true_eq] at h1 h2 |-;omega
theorem nB {xs:List aB}:mg bS bL xs=true ↔ (∀ x∈xs,bS x=true)/\xs.Pairwise (fun a b=>bL a b=true):=oB (lt:=bL) Nk
theorem tO {x:aB}:bS x=true ↔ (1<=x.who/\x.who<=16)/\(0<=x.cur/\x.cur<=2)/\(1<=x.bV/\x.bV<=4611686018427387904)/\0<=x.till/\x.till<=1099511627776:=by
 simp only [bS,within,bW,decide_eq_true_eq];omega
theorem Rf {x:aN}:wN x=true ↔ (1<=x.who/\x.who<=16)/\(0<=x.cur/\x.cur<=2)/\0<=x.bV/\x.bV<=4611686018427387904:=by
 simp only [wN,within,bW,decide_eq_true_eq];omega
theorem qQ {w c:Int} {xs:List aB} (h:¬ cR w c xs < 0):lI w c xs∈xs/\(lI w c xs).who=w/\(lI w c xs).cur=c:=by
 obtain ⟨i,hi,he,hc⟩:=om h;unfold lI;rw [he,Int.toNat_natCast,List.getD_eq_getElem?_getD,List.getElem?_eq_getElem hi];simp only [lO,bW,beq_iff_eq] at hc;exact ⟨List.getElem_mem hi,hc⟩
theorem sM {xs:List aB} {x y:aB} {w c:Int} (h:y∈F0 xs x w c):(y.who=w/\y.cur=c)/\((y=x/\0 < x.bV)\/y∈xs):=by
 unfold F0 at h;split at h
 ·rename_i hk;simp only [bW,beq_iff_eq] at hk;split at h
  ·rename_i ha;obtain rfl:=List.mem_singleton.1 h;exact ⟨hk,.inl ⟨rfl,ha⟩⟩
  ·cases h
 ·split at h
  ·cases h
  ·rename_i hc;obtain rfl:=List.mem_singleton.1 h;have:=qQ hc;exact ⟨this.2,.inr this.1⟩
theorem Bk {xs:List aB} {x y:aB} (h:y∈xY xs x 16):(y=x/\0 < x.bV)\/y∈xs:=by
 obtain ⟨k,_,h⟩:=iY.1 h;obtain ⟨c,_,h⟩:=iY.1 h;exact (sM h).2
theorem MG {xs:List aB} {x:aB} (h:mg bS bL xs=true) (hx:0 < x.bV->bS x=true):mg bS bL (xY xs x 16)=true:=by
 rw [nB] at h |-;refine ⟨fun y hy=>?_,?_⟩
 ·rcases Bk hy with ⟨rfl,ha⟩ | hy
  ·exact hx ha
  ·exact h.1 y hy
 ·unfold xY;refine qM (fun k _=>?_) fun i j hij _ a ha b hb=>?_
  ·unfold xU;refine qM (fun c _=>tu (Ku _ _ _ _)) fun i j hij _ a ha b hb=>?_
   have h1:=(sM ha).1;have h2:=(sM hb).1;simp only [bL,Bool.or_eq_true,bW,decide_eq_true_eq,beq_iff_eq];omega
  ·obtain ⟨_,_,ha⟩:=iY.1 ha;obtain ⟨_,_,hb⟩:=iY.1 hb;have h1:=(sM ha).1;have h2:=(sM hb).1;simp only [bL,Bool.or_eq_true,bW,decide_eq_true_eq,beq_iff_eq];omega
theorem Sq {xs:List aB} {d:aN} {t:Int} (h:mg bS bL xs=true):mg bS bL (zw xs d t)=true/\∀ y∈zw xs d t,y.who=d.who\/y∈xs:=by
 unfold zw;split
 case isFalse=>exact ⟨rfl,fun y hy=>by cases hy⟩
 rename_i he;unfold C9 at he;rw [if_pos h] at he;split at he
 case isFalse=>cases he
 rename_i hd;rw [bW] at hd;obtain ⟨hd,ht⟩:=hd;rw [Rf] at hd;simp only [within,bW,decide_eq_true_eq] at ht;refine ⟨MG h fun ha=>?_,fun y hy=>?_⟩
 ·dsimp only at ha;rw [tO];dsimp only;refine ⟨hd.1,hd.2.1,by omega,?_⟩;split
  ·exact ht
  ·rename_i hc;exact (tO.1 ((nB.1 h).1 _ (qQ hc).1)).2.2.2
 ·rcases Bk hy with ⟨rfl,_⟩ | hy
  ·exact .inl rfl
  ·exact .inr hy
theorem Ru {xs:List aB} {d:aN} (h:mg bS bL xs=true):mg bS bL (rJ xs d)=true/\∀ y∈rJ xs d,∃ x∈xs,y.who=x.who:=by
 unfold rJ;split
 case isFalse=>exact ⟨rfl,fun y hy=>by cases hy⟩
 rename_i he;unfold pY at he;rw [if_pos h] at he;split at he
 case isFalse=>cases he
 rename_i hd;rw [Rf] at hd;refine ⟨MG h fun ha=>?_,fun y hy=>?_⟩
 ·unfold JR at ha |-;split at ha
  ·dsimp only at ha;omega
  ·rename_i hc;rw [if_neg hc];have hx:=tO.1 ((nB.1 h).1 _ (qQ hc).1);dsimp only at ha;rw [tO];dsimp only;exact ⟨hx.1,hx.2.1,by omega,hx.2.2.2⟩
 ·rcases Bk hy with ⟨rfl,ha⟩ | hy
  ·unfold JR at ha |-;split at ha
   ·dsimp only at ha;omega
   ·rename_i hc;rw [if_neg hc];exact ⟨_,(qQ hc).1,rfl⟩
  ·exact ⟨y,hy,rfl⟩
theorem qV {xs:List aB} {ws:List Int} {y:aB}:y∈eu xs ws ↔ y∈xs/\qF ws y.who=false:=by
 unfold eu;rw [List.mem_flatMap];constructor
 ·rintro ⟨x,hx,h⟩
  split at h
  ·cases h
  ·rename_i hn;obtain rfl:=List.mem_singleton.1 h;exact ⟨hx,by simpa using hn⟩
 ·rintro ⟨h1,h2⟩
  exact ⟨y,h1,by rw [h2];simp⟩
theorem LQ {A:Type} {R:A->A->Prop} {q:A->Bool} {xs:List A} (h:xs.Pairwise R):(xs.flatMap fun x=>if q x=true then [] else [x]).Pairwise R:=by
 refine F4 h (fun a _=>tu (by split<;>simp)) fun a b _ _ hab x hx y hy=>?_
 split at hx
 ·cases hx
 split at hy
 ·cases hy
 obtain rfl:=List.mem_singleton.1 hx;obtain rfl:=List.mem_singleton.1 hy;exact hab
theorem yJ {xs:List aB} {ws:List Int} (h:mg bS bL xs=true):mg bS bL (eu xs ws)=true:=by
 rw [nB] at h |-;exact ⟨fun y hy=>h.1 y (qV.1 hy).1,LQ h.2⟩
structure iG (r:aq) (qs:List aA) (ts:List aI) (ps:List eO) (cs:List aB):Prop where
 qs:∀ p∈qs,(bB r p.who=1\/bB r p.who=2)/\aZ r p.inst=true
 ts:∀ t∈ts,bB r t.fX≠0/\bB r t.dU≠0/\aZ r t.inst=true
 ps:∀ p∈ps,(bB r p.who=1\/bB r p.who=2)/\ju r p.bE=true
 cs:∀ c∈cs,bB r c.who=1
structure af.right (s:af):Prop where
 KA:(0<=s.now/\s.now<=1099511627776)/\(0<=s.day/\s.day<=1099511627776)/\0<=s.phase/\s.phase<=2
 aj:s.aj.okB=true
 book:s.book.okB=true
 aU:s.aU.okB=true
 ps:gh s.ps=true
 calls:mg bS bL s.calls=true
 known:iG s.aj s.book.qs s.book.ts s.ps s.calls
 bl:s.aW.length<=32
 aW:∀ b∈s.aW,j9 b=true
 aJ:mg fc dG s.aJ=true
theorem gA {s:af}:bu s=true ↔ s.right:=by
 simp only [bu,pI,lD,CW,uk,sC,oN,uJ,within,bW,Bool.or_eq_true,Bool.not_eq_true',decide_eq_true_eq,decide_eq_false_iff_not,beq_iff_eq,beq_eq_false_iff_ne,List.all_eq_true,ne_eq];constructor
 ·rintro ⟨h0,h1,h2,h3,h4,h5,⟨k1,k2,k3,k4⟩,h7,h8,h9⟩
  exact ⟨by omega,h1,h2,h3,h4,h5,⟨k1,k2,k3,k4⟩,by omega,h8,h9⟩
 ·intro h;have:=h.bl;have:=h.KA;exact ⟨by omega,h.aj,h.book,h.aU,h.ps,h.calls,⟨h.known.qs,h.known.ts,h.known.ps,h.known.cs⟩,by omega,h.aW,h.aJ⟩
theorem iG.ext {r r':aq} {qs ts ps cs} (h:iG r qs ts ps cs) (e:r.ext r'):iG r' qs ts ps cs:=by
 have ho:∀ w,(bB r w=1\/bB r w=2)->bB r' w=1\/bB r' w=2:=fun w hw=>by
  rw [e.st w (by omega)];exact hw
 refine ⟨fun p hp=>⟨ho _ (h.qs p hp).1,e.inst _ (h.qs p hp).2⟩,fun t ht=>?_,fun p hp=>⟨ho _ (h.ps p hp).1,e.ast _ (h.ps p hp).2⟩,fun c hc=>?_⟩
 ·have:=h.ts t ht;rw [e.st _ this.1,e.st _ this.2.1];exact ⟨this.1,this.2.1,e.inst _ this.2.2⟩
 ·have:=h.cs c hc;rw [e.st _ (by omega)];exact this
theorem rF {s:af} (h:s.right) {r':aq} (h1:r'.okB=true/\s.aj.ext r'):({ s with aj:=r' }:af).right:=
 ⟨h.KA,h1.1,h.book,h.aU,h.ps,h.calls,h.known.ext h1.2,h.bl,h.aW,h.aJ⟩
theorem O4 {s:af} (h:s.right) {l:bq} (h1:l.okB=true):({ s with aU:=l }:af).right:=
 ⟨h.KA,h.aj,h.book,h1,h.ps,h.calls,h.known,h.bl,h.aW,h.aJ⟩
theorem J3 {s:af} (h:s.right) {cs:List aB} (h1:mg bS bL cs=true) (h2:∀ c∈cs,bB s.aj c.who=1):({ s with calls:=cs }:af).right:=
 ⟨h.KA,h.aj,h.book,h.aU,h.ps,h1,⟨h.known.qs,h.known.ts,h.known.ps,h2⟩,h.bl,h.aW,h.aJ⟩
theorem ny {s:af} (h:s.right) (g:List aX):(j8 s g).right:=by
 unfold j8;split
 ·rename_i he;exact O4 h (J8 he)
 ·exact h
theorem Cf {s:af} (h:s.right) (d:aN):({ s with calls:=rJ s.calls d }:af).right:=by
 obtain ⟨h1,h2⟩:=Ru (d:=d) h.calls;refine J3 h h1 fun c hc=>?_
 obtain ⟨x,hx,he⟩:=h2 c hc;rw [he];exact h.known.cs x hx
theorem On {s:af} (h:s.right) (c:bf):(nV s c).1.right:=by
 unfold nV;split
 case isFalse=>exact h
 split
 case isFalse=>exact h
 split
 ·exact ny h _
 split
 ·split
  ·exact Cf (ny h _) _
  ·exact ny h _
 ·exact ny h _
theorem Q4 {r:aq} {w:Int} (h:Dj r w=0):bB r w=1:=by
 unfold Dj at h;split at h
 ·split at h
  ·assumption
  ·cases h
 ·cases h
theorem Hz {s:af} (h:s.right) (c:bf) (n:Int):(jS s c n).1.right:=by
 unfold jS;split
 case isFalse=>exact h
 split
 case isFalse=>exact h
 rename_i hm;rw [bW] at hm;split
 case isFalse=>exact h
 rename_i hs;split
 case isFalse=>exact h
 rename_i he;have hg:=wj he
 have key:({ s with ps:=cQ s.ps c.who c.no n }:af).right:=by
  refine ⟨h.KA,h.aj,h.book,h.aU,gN.2 hg,h.calls,⟨h.known.qs,h.known.ts,fun p hp=>?_,h.known.cs⟩,h.bl,h.aW,h.aJ⟩;dsimp only at hp |-;unfold cQ at hp;rw [if_pos he] at hp;rcases AH hp with hp | ⟨rfl,_⟩
  ·exact h.known.ps p hp
  ·exact ⟨.inl hs,hm.2⟩
 split
 ·exact key
 split
 ·exact Cf key _
 ·exact key
theorem FD {t:aI} {b:Bool} {p:aA} (h:p∈fV t b):(p.who=t.fX\/p.who=t.dU)/\p.inst=t.inst:=by
 unfold fV at h;split at h
 ·simp only [List.mem_cons,List.not_mem_nil,or_false] at h;rcases h with rfl | rfl<;>simp
 ·cases h
theorem yy {r:aq} {b:aF} {g:List aA} {ts ps cs} (h:iG r b.qs ts ps cs) (hg:∀ p∈g,(bB r p.who=1\/bB r p.who=2)/\aZ r p.inst=true):iG r (vO b g 16) ts ps cs:=by
 refine ⟨fun p hp=>?_,h.ts,h.ps,h.cs⟩;rcases Tn hp with ⟨q,hq,e1,e2⟩ | ⟨q,hq,e1,e2⟩
 ·rw [<- e1,<- e2];exact h.qs q hq
 ·rw [<- e1,<- e2];exact hg q hq
theorem vw {s:af} (h:s.right) {b:aF} (h1:b.okB=true) (h2:iG s.aj b.qs b.ts s.ps s.calls):({ s with book:=b }:af).right:=
 ⟨h.KA,h.aj,h1,h.aU,h.ps,h.calls,h2,h.bl,h.aW,h.aJ⟩
theorem Nz {r:aq} {t:aI} (h:vC r t=0):bB r t.fX=1/\bB r t.dU=1/\aZ r t.inst=true:=by
 unfold vC at h;split at h
 case isFalse=>cases h
 split at h
 case isFalse=>cases h
 split at h
 case isFalse=>cases h
 rename_i h1;split at h
 ·cases h
 split at h
 case isFalse=>cases h
 rename_i h2;simp only [bW,beq_iff_eq] at h1 h2;exact ⟨h2.1,h2.2,h1.1⟩
theorem zm {s:af} {b:aF} {t:aI} {ps cs} (he:fJ b t=0) (hk:iG s.aj b.qs b.ts ps cs) (h1:bB s.aj t.fX=1) (h2:bB s.aj t.dU=1) (h3:aZ s.aj t.inst=true):iG s.aj (gS b t).qs (gS b t).ts ps cs:=by
 unfold gS;rw [if_pos he]
 have hq:=yy (g:=fV t false) hk fun p hp=>by
  have:=FD hp;rw [this.2];exact ⟨by rcases this.1 with e | e<;>rw [e]<;>simp [h1,h2],h3⟩
 refine ⟨hq.qs,fun x hx=>?_,hk.ps,hk.cs⟩;rcases List.mem_append.1 hx with hx | hx
 ·exact hk.ts x hx
 ·obtain rfl:=List.mem_singleton.1 hx;exact ⟨by dsimp only;omega,by dsimp only;omega,h3⟩
theorem w7 {s:af} {b:aF} {n:Int} {ps cs} (he:eg b n=0) (hk:iG s.aj b.qs b.ts ps cs) (h1:bB s.aj (cq n b.ts).fX=1) (h2:bB s.aj (cq n b.ts).dU=1):iG s.aj (dI b n).qs (dI b n).ts ps cs:=by
 have hm:=(B9 (nL he).2.1).1;have h3:=(hk.ts _ hm).2.2;unfold dI;rw [if_pos he]
 have hq:=yy (g:=fV (cq n b.ts) true) hk fun p hp=>by
  have:=FD hp;rw [this.2];exact ⟨by rcases this.1 with e | e<;>rw [e]<;>simp [h1,h2],h3⟩
 refine ⟨hq.qs,fun x hx=>?_,hk.ps,hk.cs⟩;rcases List.mem_or_eq_of_mem_set hx with hx | rfl
 ·exact hk.ts x hx
 ·have:=hk.ts _ hm;exact ⟨this.1,this.2.1,this.2.2⟩
theorem Im {s:af} (h:s.right) (c:bf) (he:(iL s c).2.2=0):(iL s c).1.right:=by
 unfold iL at he |-;split
 ·rename_i hk;rw [if_pos hk] at he;split
  ·rename_i ht;rw [if_pos ht] at he;obtain ⟨t1,t2,t3⟩:=Nz ht;exact vw h (EN he) (zm (s:=s) he h.known t1 t2 t3)
  ·exact h
 rename_i hk;rw [if_neg hk] at he;split
 ·rename_i hk;rw [if_pos hk] at he;exact rF h (Mk he)
 rename_i hk;rw [if_neg hk] at he;split
 ·exact h
 rename_i hf;rw [if_neg hf] at he;split
 case isFalse=>exact h
 rename_i ha;rw [if_pos ha] at he;have a1:=Q4 ha.1;have a2:=Q4 ha.2;split
 ·rename_i hk;rw [if_pos hk] at he;exact vw h (L1 he) (w7 (s:=s) he h.known a1 a2)
 ·rename_i hk;rw [if_neg hk] at he;obtain ⟨e1,e2⟩:=sE he;have k1:=w7 (s:=s) e1 h.known a1 a2;have h3:=(h.known.ts _ (B9 hf).1).2.2;refine vw h (HS he) ?_;unfold nW;rw [if_pos e1];exact zm (s:=s) e2 k1 a1 a2 h3
theorem Nl {s:af} (h:s.right) (c:bf):(pW s c).1.right:=by
 unfold pW;split
 case isFalse=>exact h
 rename_i hw;split
 case isFalse=>exact h
 rename_i hm;split
 ·exact h
 split
 case isFalse=>exact h
 rename_i hs;split
 ·exact h
 rename_i hl;simp only [bW] at hm hw;have r1:=Hv h.aj (w:=c.who) (by unfold bB;omega);have r2:=Hv h.aj (w:=c.other) (by unfold bB;omega);have r3:=CF hm.2.2;have r4:=AR ((eo.1 h.aj).2.1.1 _ r3.1);rw [r3.2] at r4;refine ⟨h.KA,h.aj,h.book,h.aU,h.ps,h.calls,h.known,by dsimp only;simp;omega,fun b hb=>?_,h.aJ⟩;rcases List.mem_append.1 hb with hb | hb
 ·exact h.aW b hb
 ·obtain rfl:=List.mem_singleton.1 hb;simp only [j9,ot,hw.1,hw.2,within,bW,decide_eq_true_eq];simp only [within,bW,decide_eq_true_eq] at hw;omega
theorem H7:∀ {ps:List Int} {j:Nat},j < ps.length->az (ps.set j (ps.getD j 0+1))=az ps+1
 | [],j,h=>by simp at h
 | x :: r,0,_=>by simp [az];omega
 | x :: r,j+1,h=>by
  have:=H7 (ps:=r) (j:=j) (by simpa using h);simp only [List.set_cons_succ,List.getD_cons_succ,az,this];omega
theorem Er (rs:List Int):∀ (n:Nat) (gs:List Bool) (ps:List Int),gs.length=rs.length->ps.length=rs.length->gs.count true+n<=gs.length->az (oR rs n gs ps)=az ps+n
 | 0,_,_,_,_,_=>by simp [oR]
 | n+1,gs,ps,h1,h2,h3=>by
  have hex:=Gw (gs:=gs) (by omega);rw [h1] at hex;have hp:=G8 rs gs rs.length hex;have hr:=xZ rs gs rs.length;have hf:=B4 rs gs rs.length hp;simp only [oR];rw [Er rs n _ _ (by simp [h1]) (by simp [h2]) (by rw [count_set hf,List.length_set];omega),H7 (by omega)];omega
theorem vU (rs:List Int):∀ (n:Nat) (gs:List Bool) (ps:List Int),(∀ x∈ps,0<=x)->∀ x∈oR rs n gs ps,0<=x
 | 0,_,_,h=>h
 | n+1,gs,ps,h=>by
  simp only [oR];refine vU rs n _ _ fun x hx=>?_
  rcases List.mem_or_eq_of_mem_set hx with hx | rfl
  ·exact h x hx
  ·have:0<=ps.getD (gF rs gs rs.length).toNat 0:=by
    rw [List.getD_eq_getElem?_getD];cases he:ps[(gF rs gs rs.length).toNat]? with
    | none=>simp
    | some y=>exact h y (List.mem_of_getElem? he)
   omega
theorem Oq {t:Int} {ws:List Int} (h:iI t ws=0):0<=t/\(∀ x∈ws,0<=x):=by
 unfold iI at h;split at h
 case isFalse=>cases h
 rename_i h1;split at h
 case isFalse=>cases h
 rename_i h2;simp only [bW,Bool.not_eq_true',decide_eq_false_iff_not] at h1;refine ⟨by omega,fun x hx=>?_⟩;have:=List.all_eq_true.1 h2 x hx;simp only [Bool.not_eq_true',decide_eq_false_iff_not] at this;omega
theorem Lk {t:Int} {ws:List Int} (h:iI t ws=0) (hs:az ws≠0):az (fK t ws)=t/\(∀ x∈fK t ws,0<=x):=by
 obtain ⟨h1,h2⟩:=Oq h;have hn:=lM h2;have hl:=vq h1 rfl (show 1<=az ws by omega) h2;unfold fK;rw [if_pos h,if_neg hs];have hpl:(uj t (az ws) ws).length=(Mr t (az ws) ws).length:=by simp [uj,Mr]
 have hrl:(Mr t (az ws) ws).length=ws.length:=by simp [Mr]
 refine ⟨?_,vU _ _ _ _ fun x hx=>?_⟩
 ·rw [Er _ _ _ _ (by simp [hrl]) hpl (by simp [List.count_replicate];omega)];omega
 ·obtain ⟨w,hw,rfl⟩:=List.mem_map.1 hx;exact (rj h1 (by omega) (h2 w hw) (AG h2 w hw)).1
def ux (f:List dP):Int:=az (f.map dP.aV)
theorem E2:∀ (l:List br) (k:Int),ux (kX k l).1+(kX k l).2=k
 | [],k=>by simp [kX,ux,az]
 | b :: r,k=>by
  simp only [kX];split
  ·have:=E2 r (k-min k b.aV);simp only [ux,List.map_cons,az] at this |-;omega
  ·simp [ux,az]
theorem E6:∀ (l:List br) (k:Int) {f:dP},f∈(kX k l).1->∃ b∈l,f.src=b.src
 | [],k,f,h=>by simp [kX] at h
 | b :: r,k,f,h=>by
  simp only [kX] at h;split at h
  ·rcases List.mem_cons.1 h with rfl | h
   ·exact ⟨b,by simp,rfl⟩
   ·obtain ⟨x,hx,e⟩:=E6 r _ h;exact ⟨x,by simp [hx],e⟩
  ·cases h
theorem Kn (long:Bool) {y:br}:∀ (l out:List br),y∈Cq long out l->y∈out\/y∈l
 | [],out,h=>.inl h
 | x :: r,out,h=>by
  simp only [Cq] at h;rcases Kn long r _ h with h | h
  ·unfold Jb at h;rcases List.mem_append.1 h with h | h
   ·exact .inl (List.mem_of_mem_take h)
   ·rcases List.mem_cons.1 h with rfl | h
    ·exact .inr (by simp)
    ·exact .inl (List.mem_of_mem_drop h)
  ·exact .inr (by simp [h])
theorem Pj {q:Int} {l:List br} (h:p7 q l=0):ux (jW q l).1+(jW q l).2=max q (-q)/\∀ f∈(jW q l).1,∃ b∈l,f.src=b.src:=by
 unfold jW;rw [if_pos h];refine ⟨E2 _ _,fun f hf=>?_⟩;obtain ⟨b,hb,e⟩:=E6 _ _ hf;rcases Kn _ _ _ hb with hb | hb
 ·cases hb
 ·exact ⟨b,hb,e⟩
theorem Qm {w n m:Int} {long:Bool}:∀ {f:List dP},(∀ x∈f,x.src≠w)->az (pick (dM w m) aA.aV (f.flatMap (uy w n long)))=if m=n then -Ft long (ux f) else 0
 | [],_=>by simp [pick,az,ux,Ft]
 | x :: r,h=>by
  have ih:=Qm (w:=w) (n:=n) (m:=m) (long:=long) (f:=r) fun y hy=>h y (by simp [hy])
  have hx:=h x (by simp);rw [List.flatMap_cons,show uy w n long x=[⟨x.src,n,Ft long x.aV,Ft long (x.aV*x.aR)⟩,⟨w,n,-Ft long x.aV,-Ft long (x.aV*x.aR)⟩] from rfl];rw [List.cons_append,List.cons_append,List.nil_append,nA,nA,ih];rw [if_neg (fun h=>hx (eC.1 h).1)]
  by_cases hm:m=n
  ·rw [if_pos (show dM w m ⟨w,n,-Ft long x.aV,-Ft long (x.aV*x.aR)⟩=true from eC.2 ⟨rfl,hm.symm⟩),if_pos hm,if_pos hm];simp only [ux,List.map_cons,az,Ft];split<;>omega
  ·rw [if_neg (fun h=>hm (eC.1 h).2.symm),if_neg hm,if_neg hm];rfl
theorem EM {b:aF} {g:List aA} {w n:Int} (hw:1<=w/\w<=16) (hn:1<=n/\n<=8):(posOf w n (vO b g 16)).aV=Ep b g w n:=by
 by_cases h:Ep b g w n=0/\Rs b g w n=0
 ·rw [lF,h.1];intro p hp hk;obtain ⟨k,m,_,_,hp⟩:=wu hp;obtain ⟨rfl,hne⟩:=q9 hp;dsimp only at hk;rw [hk.1,hk.2] at hne;exact hne h
 ·have hm:(⟨w,n,Ep b g w n,Rs b g w n⟩:aA)∈vO b g 16:=by
   refine List.mem_flatMap.2 ⟨(w-1).toNat,List.mem_range.2 (by omega),List.mem_flatMap.2 ⟨(n-1).toNat,List.mem_range.2 (by omega),?_⟩⟩;rw [show (((w-1).toNat:Nat):Int)+1=w by omega,show (((n-1).toNat:Nat):Int)+1=n by omega];unfold D8;rw [if_neg (by simp only [bW,beq_iff_eq];exact h)];simp
  rw [Ca (FP b g) hm ⟨rfl,rfl⟩]
structure DZ (r:aq) (w:Int) (b:aF) (ts:List aI) (ps:List eO) (cs:List aB):Prop where
 ok:b.okB=true
 known:iG r b.qs ts ps cs
 ts:b.ts=ts
theorem Cd {r:aq} {w n:Int} {b:aF} {ts ps cs} {long:Bool} {f:List dP} (hw:1<=w/\w<=16) (hn:1<=n/\n<=8) (hb:DZ r w b ts ps cs) (hs:bB r w=2) (hi:aZ r n=true) (hf:∀ x∈f,x.src≠w/\(bB r x.src=1\/bB r x.src=2)) (h:(mB b w n long f).2=0) :
  DZ r w (mB b w n long f).1 ts ps cs/\(posOf w n (mB b w n long f).1.qs).aV=(posOf w n b.qs).aV-Ft long (ux f)/\∀ m,1<=m/\m<=8->m≠n->(posOf w m (mB b w n long f).1.qs).aV=(posOf w m b.qs).aV:=by
 unfold mB at h |-;split
 case isFalse hne=>rw [if_neg hne] at h;exact absurd h hne
 rename_i he;rw [if_pos he] at h;dsimp only at h |-;have hl:kQ w n long f=f.flatMap (uy w n long):=by unfold kQ;rw [if_pos he]
 have hq:=fun m=>Qm (w:=w) (n:=n) (m:=m) (long:=long) (f:=f) fun x hx=>(hf x hx).1
 have hadq:∀ m,Ep b (kQ w n long f) w m=(posOf w m b.qs).aV+if m=n then -Ft long (ux f) else 0:=fun m=>by
  unfold Ep;rw [az,hl,hq]
 refine ⟨⟨TE h,?_,?_⟩,?_,fun m hm hne=>?_⟩
 ·rw [(kg h).2];refine yy hb.known fun p hp=>?_
  rw [hl] at hp;obtain ⟨x,hx,hp⟩:=List.mem_flatMap.1 hp;have hxs:=hf x hx;unfold uy at hp;simp only [List.mem_cons,List.not_mem_nil,or_false] at hp;rcases hp with rfl | rfl
  ·exact ⟨hxs.2,hi⟩
  ·exact ⟨.inr hs,hi⟩
 ·rw [(kg h).2];exact hb.ts
 ·rw [(kg h).2]
  show (posOf w n (vO b _ 16)).aV=_
  rw [EM hw hn,hadq,if_pos rfl];omega
 ·rw [(kg h).2]
  show (posOf w m (vO b _ 16)).aV=_
  rw [EM hw hm,hadq,if_neg hne];omega
theorem Jy {ws ps:List Int} (h:∀ x∈ps,0<=x):∀ k,k<=ps.length->ux (oo (rQ ws ps) k)=az (ps.take k)
 | 0,_=>rfl
 | k+1,hk=>by
  have ih:=Jy (ws:=ws) h k (by omega);have hk':k < ps.length:=by omega
  rw [iM,List.take_succ_eq_append_getElem hk',cU];unfold ux at ih |-;rw [List.map_append,cU,ih];congr 1;have hg:ps.getD k 0=ps[k]:=by rw [List.getD_eq_getElem?_getD,List.getElem?_eq_getElem hk'];rfl
  have h0:=h ps[k] (List.getElem_mem hk');unfold rQ;rw [hg];split
  ·rfl
  ·have:ps[k]=0:=by omega
   rw [this];rfl
theorem Q5 {ws ps:List Int} (hl:ps.length<=ws.length) {f:dP} (h:f∈JO ws ps):f.src∈ws:=by
 obtain ⟨i,hi,h⟩:=iY.1 h;unfold rQ at h;split at h
 ·obtain rfl:=List.mem_singleton.1 h;dsimp only;rw [List.getD_eq_getElem?_getD,List.getElem?_eq_getElem (by omega)];exact List.getElem_mem _
 ·cases h
theorem Pr {b:aF} {w n k:Int} (h:nI b w n k=0):b.okB=true/\(0<=k/\k<=1099511627776)/\k<=az (pJ (posOf w n b.qs).aV n b.qs):=by
 unfold nI at h;split at h
 case isFalse=>cases h
 rename_i h1;split at h
 case isFalse=>cases h
 rename_i h2;split at h
 ·cases h
 rename_i h3;simp only [within,bW,decide_eq_true_eq] at h2;exact ⟨h1,h2,by omega⟩
theorem HU {q n:Int} {p:aA}:Ly q n p=true ↔ p.inst=n/\((0 < q/\p.aV < 0)\/(q < 0/\0 < p.aV)):=by
 simp only [Ly,bW,Bool.or_eq_true,beq_iff_eq,decide_eq_true_eq]
theorem CH {A:Type} {q:A->Bool} {f:A->Int} {xs:List A} {v:Int} (h:v∈pick q f xs):∃ x∈xs,q x=true/\v=f x:=by
 obtain ⟨x,hx,h⟩:=List.mem_flatMap.1 h;split at h
 ·rename_i hq;exact ⟨x,hx,hq,List.mem_singleton.1 h⟩
 ·cases h
theorem BO {b:aF} (h:b.okB=true):b.qs.length<=128:=by
 have hb:=dD.1 h
 have h1:(b.qs.map fun p=>p.who*8+p.inst).Pairwise (fun a c=>a < c):=by
  rw [List.pairwise_map];refine (List.Pairwise.imp_of_mem (fun {p q} hp hq hpq=>?_) hb.pw);have k1:=jI.1 (hb.ok p hp);have k2:=jI.1 (hb.ok q hq);simp only [fP,Ba,Bool.or_eq_true,bW,decide_eq_true_eq,beq_iff_eq] at hpq;omega
 have key:∀ (l:List Int) (lo hi:Int),l.Pairwise (fun a c=>a < c)->(∀ x∈l,lo<=x/\x < hi)->lo<=hi->(l.length:Int)<=hi-lo:=by
  intro l
  induction l with
  | nil=>intro lo hi _ _ h;simp;omega
  | cons x r ih =>
   intro lo hi hp hx hlh;rw [List.pairwise_cons] at hp;have hx0:=hx x (by simp);have:=ih (x+1) hi hp.2 (fun y hy=>by have:=hp.1 y hy;have:=hx y (by simp [hy]);omega) (by omega);simp only [List.length_cons];omega
 have:=key _ 9 137 h1 (fun x hx=>by
  obtain ⟨p,hp,rfl⟩:=List.mem_map.1 hx;have:=jI.1 (hb.ok p hp)
  omega) (by omega)
 simp only [aG] at this;omega
theorem Pz {r:aq} {w n p rest:Int} {b:aF} {ts ps cs} {long:Bool} (hw:1<=w/\w<=16) (hn:1<=n/\n<=8) (hb:DZ r w b ts ps cs) (hs:bB r w=2) (hi:aZ r n=true) (hq:(posOf w n b.qs).aV=Ft long rest) (hr:rest≠0) (h:(p9 b w n p long rest).2=0) :
  DZ r w (p9 b w n p long rest).1 ts ps cs/\(posOf w n (p9 b w n p long rest).1.qs).aV=0/\∀ m,1<=m/\m<=8->m≠n->(posOf w m (p9 b w n p long rest).1.qs).aV=(posOf w m b.qs).aV:=by
 unfold p9 at h |-;split
 case isFalse hne=>rw [if_neg hne] at h;exact absurd h hne
 rename_i he;rw [if_pos he] at h;obtain ⟨t1,t2,t3⟩:=Pr he;have hbr:=dD.1 t1;obtain ⟨ws,hws⟩:∃ l,l=xO (posOf w n b.qs).aV n b.qs:=⟨_,rfl⟩
 obtain ⟨ns,hns⟩:∃ l,l=pJ (posOf w n b.qs).aV n b.qs:=⟨_,rfl⟩
 have hlen:ns.length=ws.length:=by rw [hws,hns];exact xE _ _ _ _
 have hnsr:∀ x∈ns,0 < x/\x<=1099511627776:=fun x hx=>by
  rw [hns] at hx;obtain ⟨y,hy,hyo,rfl⟩:=CH hx;have h1:=HU.1 hyo;have h2:=jI.1 (hbr.ok y hy);omega
 rw [<- hns] at t3
 have hnl:ns.length<=128:=by
  rw [hns];exact Nat.le_trans (bY _ _ _) (BO t1)
 have hsp:iI rest ns=0:=by
  unfold iI;rw [if_pos,if_pos,if_neg (by omega),if_neg (by omega)]
  ·exact List.all_eq_true.2 fun x hx=>by have:=hnsr x hx;simp only [Bool.not_eq_true',decide_eq_false_iff_not];omega
  ·simp only [bW,Bool.not_eq_true',decide_eq_false_iff_not];refine ⟨⟨by omega,by rw [cm];omega⟩,List.all_eq_true.2 fun x hx=>by have:=hnsr x hx;rw [cm];omega⟩
 obtain ⟨s1,s2⟩:=Lk hsp (by omega);have hsl:=rG rest ns;have hL:nJ b w n rest=JO ws (fK rest ns):=by unfold nJ;rw [if_pos he,<- hws,<- hns]
 have hfq:ux ((nJ b w n rest).map (dS p))=rest:=by
  have:ux ((nJ b w n rest).map (dS p))=ux (nJ b w n rest):=by
   unfold ux;rw [List.map_map];rfl
  rw [this,hL];have:=Jy (ws:=ws) s2 _ (Nat.le_refl _);rw [List.take_length,s1] at this;exact this
 obtain ⟨q1,q2,q3⟩:=Cd (long:=long) (f:=(nJ b w n rest).map (dS p)) hw hn hb hs hi (fun x hx=>by
  obtain ⟨y,hy,rfl⟩:=List.mem_map.1 hx;rw [hL] at hy;have hy:=Q5 (by omega) hy;rw [hws] at hy;obtain ⟨z,hz,hzo,e⟩:=CH hy
  show y.src≠w/\_
  rw [show (dS p y).src=y.src from rfl,e];refine ⟨fun hzw=>?_,(hb.known.qs z hz).1⟩;have h1:=HU.1 hzo;rw [Ca hbr.pw hz ⟨hzw,h1.1⟩] at h1
  omega) h
 refine ⟨q1,?_,q3⟩;rw [q2,hfq,hq];omega
theorem P8 {s:af} {w n:Int} {b:aF} (h:s.right) (hw:1<=w/\w<=16) (hn:1<=n/\n<=8) (hb:DZ s.aj w b s.book.ts s.ps s.calls) (hs:bB s.aj w=2) (hq:(posOf w n b.qs).aV≠0) (he:(nO s b w n (posOf w n b.qs).aV).2=0) :
  DZ s.aj w (nO s b w n (posOf w n b.qs).aV).1 s.book.ts s.ps s.calls/\(posOf w n (nO s b w n (posOf w n b.qs).aV).1.qs).aV=0/\∀ m,1<=m/\m<=8->m≠n->(posOf w m (nO s b w n (posOf w n b.qs).aV).1.qs).aV=(posOf w m b.qs).aV:=by
 have hi:aZ s.aj n=true:=by
  by_cases hx:∃ p∈b.qs,p.who=w/\p.inst=n
  ·obtain ⟨p,hp,_,e⟩:=hx;rw [<- e];exact (hb.known.qs p hp).2
  ·rw [lF fun p hp hk=>hx ⟨p,hp,hk⟩] at hq;exact absurd rfl hq
 obtain ⟨q,hqe⟩:=aL ((posOf w n b.qs).aV);rw [<- hqe] at hq he |-;unfold nO at he |-;split
 case isFalse hne=>rw [if_neg hne] at he;cases he
 rename_i hp;rw [if_pos hp] at he;split
 case isFalse hne=>rw [if_neg hne] at he;exact absurd he hne
 rename_i hf;rw [if_pos hf] at he;obtain ⟨f1,f2⟩:=Pj hf;obtain ⟨F,hF⟩:=aL (jW q (gK s w n s.aW));rw [<- hF] at f1 f2 he |-
 have hsg:∀ k:Int,Ft (decide (0 < q)) k=if 0 < q then k else -k:=fun k=>by
  unfold Ft
  by_cases h0:0 < q<;>simp [h0]
 have hsrc:∀ x∈F.1,x.src≠w/\(bB s.aj x.src=1\/bB s.aj x.src=2):=fun x hx=>by
  obtain ⟨y,hy,e⟩:=f2 x hx;obtain ⟨z,_,hy⟩:=List.mem_flatMap.1 hy;split at hy
  ·rename_i hz;obtain rfl:=List.mem_singleton.1 hy;simp only [Cp,bW,beq_iff_eq] at hz;rw [e];refine ⟨fun h=>?_,.inl hz.2⟩;rw [h,hs] at hz;omega
  ·cases hy
 split
 ·rename_i hc;rw [if_pos hc] at he;obtain ⟨a1,a2,a3⟩:=Cd (long:=decide (0 < q)) hw hn hb hs hi hsrc hc.1
  obtain ⟨b1,b2,b3⟩:=Pz (p:=dQ (aT s.aj n)) (long:=decide (0 < q)) (rest:=F.2) hw hn a1 hs hi (by
   rw [a2,<- hqe,hsg,hsg]
   split<;>omega) hc.2 he
  exact ⟨b1,b2,fun m hm hne=>by rw [b3 m hm hne,a3 m hm hne]⟩
 ·rename_i hc;rw [if_neg hc] at he;obtain ⟨a1,a2,a3⟩:=Cd (long:=decide (0 < q)) hw hn hb hs hi hsrc he
  have hz:F.2=0:=by
   by_cases hz:F.2=0
   ·exact hz
   ·exact absurd ⟨he,hz⟩ hc
  refine ⟨a1,?_,a3⟩;rw [a2,<- hqe,hsg];split<;>omega
theorem LW {s:af} {w n:Int} {b:aF} (h:s.right) (hw:1<=w/\w<=16) (hn:1<=n/\n<=8) (hb:DZ s.aj w b s.book.ts s.ps s.calls) (hs:bB s.aj w=2) (he:(gT s w b n).2=0) :
  DZ s.aj w (gT s w b n).1 s.book.ts s.ps s.calls/\(posOf w n (gT s w b n).1.qs).aV=0/\∀ m,1<=m/\m<=8->m≠n->(posOf w m (gT s w b n).1.qs).aV=(posOf w m b.qs).aV:=by
 unfold gT at he |-;split
 ·rename_i hz;exact ⟨hb,by simpa using hz,fun _ _ _=>rfl⟩
 ·rename_i hz;rw [if_neg hz] at he;exact P8 h hw hn hb hs (by simpa using hz) he
theorem F8 {s:af} {w:Int} (h:s.right) (hw:1<=w/\w<=16) (hs:bB s.aj w=2):∀ (m i:Nat) {b:aF},i+m=8->DZ s.aj w b s.book.ts s.ps s.calls->(∀ k:Nat,k < i->(posOf w ((k:Int)+1) b.qs).aV=0)->(mj s w m i b).2=0 ->
  DZ s.aj w (mj s w m i b).1 s.book.ts s.ps s.calls/\∀ k:Nat,k < 8->(posOf w ((k:Int)+1) (mj s w m i b).1.qs).aV=0
 | 0,i,b,hi,hb,hz,_=>⟨hb,fun k hk=>hz k (by omega)⟩
 | m+1,i,b,hi,hb,hz,he=>by
  simp only [mj] at he |-;split
  ·rename_i h0;rw [if_pos h0] at he;obtain ⟨a1,a2,a3⟩:=LW h hw (n:=(i:Int)+1) (by omega) hb hs h0;refine F8 h hw hs m (i+1) (by omega) a1 (fun k hk=>?_) he;rcases Nat.lt_or_ge k i with hki | hki
   ·rw [a3 _ (by omega) (by omega)];exact hz k hki
   ·obtain rfl:k=i:=by omega
    exact a2
  ·rename_i h0;rw [if_neg h0] at he;exact absurd he h0
theorem xW {w:Int} {l:List aA} {p:aA}:p∈mM w l ↔ p∈l/\p.who≠w:=by
 unfold mM;rw [List.mem_flatMap];constructor
 ·rintro ⟨x,hx,h⟩
  split at h
  ·cases h
  ·rename_i hn;obtain rfl:=List.mem_singleton.1 h;exact ⟨hx,by simpa using hn⟩
 ·rintro ⟨h1,h2⟩
  exact ⟨p,h1,by rw [if_neg (by simpa using h2)];simp⟩
theorem BZ {s:af} {w:Int} (h:nE s w=0):Ik s w=0/\(mj s w 8 0 s.book).2=0:=by
 unfold nE at h;split at h
 case isFalse hne=>exact absurd h hne
 rename_i h1;split at h
 case isFalse hne=>exact absurd h hne
 rename_i h2;exact ⟨h1,h2⟩
theorem PW {s:af} {w:Int} (h:nE s w=0):(oP s w).okB=true/\iG s.aj (oP s w).qs (oP s w).ts s.ps s.calls/\∀ p∈(oP s w).qs,p.who≠w:=by
 obtain ⟨h1,h2⟩:=BZ h;obtain ⟨hr,hs⟩:=tS h1;have hr:=gA.1 hr;have hw:=(Hv hr.aj (w:=w) (by omega)).2;obtain ⟨a1,a2⟩:=F8 hr hw hs 8 0 rfl (b:=s.book) ⟨hr.book,hr.known,rfl⟩ (fun k hk=>by omega) h2;have hb:=dD.1 a1.ok;unfold oP;rw [if_pos h];refine ⟨dD.2 ⟨fun p hp=>hb.ok p (xW.1 hp).1,LQ hb.pw,fun n hn1 hn8=>?_,hb.tok,hb.YK,hb.tl,hb.n0,hb.n1⟩,⟨fun p hp=>a1.known.qs p (xW.1 hp).1,fun t ht=>?_,a1.known.ps,a1.known.cs⟩,fun p hp=>(xW.1 hp).2⟩
 ·dsimp only;rw [<- hb.level n hn1 hn8]
  have key:∀ l:List aA,(∀ p∈l,p.who=w->p.aV=0)->az (bR n (mM w l))=az (bR n l):=fun l=>by
   induction l with
   | nil=>intro _;rfl
   | cons p t ih =>
    intro hl;rw [jC,<- ih fun q hq=>hl q (by simp [hq])];unfold mM;rw [List.flatMap_cons,Ff,cU];congr 1;split
    ·rename_i hpw;rw [hl p (by simp) (by simpa using hpw)];split<;>rfl
    ·rw [jC];simp [bR,az]
  refine key _ fun p hp hpw=>?_
  have hpi:=(jI.1 (hb.ok p hp)).2.1;have:=a2 (p.inst-1).toNat (by omega);rw [show (((p.inst-1).toNat:Nat):Int)+1=p.inst by omega,Ca hb.pw hp ⟨hpw,rfl⟩] at this;exact this
 ·dsimp only at ht;rw [a1.ts] at ht;exact a1.known.ts t ht
theorem Co {s:af} (h:s.right) (c:Int):(uw s c).1.right:=by
 unfold uw;split
 ·exact ny h _
 ·exact h
theorem CO:∀ (m c:Nat) {s:af} (ds:List aN),s.right->(j6 m c s ds).1.right
 | 0,_,_,_,h=>h
 | m+1,c,s,ds,h=>by
  simp only [j6];split
  ·exact CO m _ _ (Co h _)
  ·exact Co h _
theorem Hu {s:af} (he:gJ s=0):(jA s).right:=by
 unfold jA;rw [if_pos he];unfold gJ at he;split at he
 case isFalse=>cases he
 rename_i h1;split at he
 case isFalse=>cases he
 split at he
 case isFalse hne=>exact absurd he hne
 rename_i h3;split at he
 case isFalse hne=>exact absurd he hne
 have hr:=gA.1 h1;obtain ⟨t1,t2⟩:=Ks hr.aj;have k:=hr.known.ext t2;have e:vr s.aj s.book=⟨s.book.next,s.book.ts,s.book.qs.flatMap (mT s.aj)⟩:=by unfold vr;rw [if_pos h3]
 refine ⟨⟨hr.KA.1,hr.KA.2.1,by dsimp only;decide,by dsimp only;decide⟩,t1,SJ h3,EJ hr.aU he,hr.ps,hr.calls,⟨fun p hp=>?_,fun t ht=>?_,k.ps,k.cs⟩,hr.bl,hr.aW,hr.aJ⟩
 ·dsimp only at hp |-;rw [e] at hp;obtain ⟨q,hq,hp⟩:=List.mem_flatMap.1 hp;rw [(ud hp).1];exact k.qs q hq
 ·dsimp only at ht |-;rw [e] at ht;exact k.ts t ht
theorem Qf {r:aq} (h:r.okB=true) {w:Int} (hm:w∈mL r [1]):bB r w=1:=by
 obtain ⟨m,hmm,hq,rfl⟩:=CH hm;have e:ff r m.no=m:=AL (eo.1 h).1.2 hmm rfl;unfold bB;rw [e];simp only [qF,List.any_cons,List.any_nil,Bool.or_false,beq_iff_eq] at hq;exact hq.symm
theorem BY {s:af} {w:Int} (h:bB s.aj w=1):∀ (m c:Nat) (x:List aB × List aN),(mg bS bL x.1=true/\∀ y∈x.1,bB s.aj y.who=1)->mg bS bL (oa s w m c x).1.1=true/\∀ y∈(oa s w m c x).1.1,bB s.aj y.who=1
 | 0,_,_,hx=>hx
 | m+1,c,x,hx=>by
  simp only [oa];split
  ·obtain ⟨a1,a2⟩:=Sq (d:=⟨w,c,Qc s w c⟩) (t:=HK s) hx.1;refine BY h m _ _ ⟨a1,fun y hy=>?_⟩;rcases a2 y hy with e | hy
   ·rw [e];exact h
   ·exact hx.2 y hy
  ·exact hx
theorem Fh {s:af}:∀ (ws:List Int) (x:List aB × List aN),(∀ w∈ws,bB s.aj w=1)->(mg bS bL x.1=true/\∀ y∈x.1,bB s.aj y.who=1)->mg bS bL (qS s ws x).1.1=true/\∀ y∈(qS s ws x).1.1,bB s.aj y.who=1
 | [],_,_,hx=>hx
 | w :: r,x,hw,hx=>by
  simp only [qS];split
  ·exact Fh r _ (fun v hv=>hw v (by simp [hv])) (BY (hw w (by simp)) 3 0 x hx)
  ·exact BY (hw w (by simp)) 3 0 x hx
theorem GA {s:af} (he:iA s=0):(iZ s).right:=by
 unfold iZ;rw [if_pos he];unfold iA at he;split at he
 case isFalse=>cases he
 rename_i h1;have hr:=gA.1 h1;obtain ⟨a1,a2⟩:=Fh (s:=s) (mL s.aj [1]) (s.calls,[]) (fun w hw=>Qf hr.aj hw) ⟨hr.calls,hr.known.cs⟩;exact ⟨⟨hr.KA.1,hr.KA.2.1,by dsimp only;decide,by dsimp only;decide⟩,hr.aj,hr.book,hr.aU,hr.ps,a1,⟨hr.known.qs,hr.known.ts,hr.known.ps,a2⟩,hr.bl,hr.aW,hr.aJ⟩
theorem LG {s:af} (he:rR s=0):(rL s).right:=by
 unfold rL;rw [if_pos he];unfold rR at he;split at he
 case isFalse=>cases he
 rename_i h1;split at he
 case isFalse=>cases he
 split at he
 ·cases he
 have hr:=gA.1 h1;have hb:=dD.1 hr.book;have hc:=hr.KA;exact ⟨⟨hc.1,by dsimp only;omega,by dsimp only;decide,by dsimp only;decide⟩,hr.aj,dD.2 ⟨hb.ok,hb.pw,hb.level,fun t ht=>(by cases ht),List.Pairwise.nil,Nat.zero_le _,hb.n0,hb.n1⟩,hr.aU,hr.ps,hr.calls,⟨hr.known.qs,fun t ht=>(by cases ht),hr.known.ps,hr.known.cs⟩,hr.bl,hr.aW,hr.aJ⟩
theorem tU {r:aq} {w p:Int} (h:r.okB=true) (hs:bB r w≠0) (hp:1<=p/\p<=3):zZ r w p=0:=by
 unfold zZ;rw [if_pos h,if_pos ((Lo h).1 hs),if_pos (by simp only [within,bW,decide_eq_true_eq];omega)]
theorem Mz {w v:Int}:qF [w] v=decide (v=w):=by
 simp only [qF,List.any_cons,List.any_nil,Bool.or_false];rw [Bool.eq_iff_iff];simp only [beq_iff_eq,decide_eq_true_eq];exact eq_comm
theorem wh {r:aq} {w p:Int} (h:zZ r w p=0) (n:Int):aZ (lA r w p) n=aZ r n/\ju (lA r w p) n=ju r n:=by
 obtain ⟨_,_,h3,h4⟩:=Bv h;unfold aZ ju;rw [h3,h4];exact ⟨rfl,rfl⟩
theorem Le {r:aq} {qs ts ps cs} {w:Int} (hr:r.okB=true) (hs:bB r w≠0) (k:iG r qs ts ps cs):(lA r w 2).okB=true/\iG (lA r w 2) qs ts ps (eu cs [w])/\∀ v,bB r v≠0->bB (lA r w 2) v≠0:=by
 have h:=tU hr hs (p:=2) (by omega);obtain ⟨p1,p2,_⟩:=Bv h;have hi:=fun n=>(wh h n).1
 have ha:=fun n=>(wh h n).2
 have ho:∀ v,(bB r v=1\/bB r v=2)->bB (lA r w 2) v=1\/bB (lA r w 2) v=2:=fun v hv=>by rw [p2];split;exact .inr rfl;exact hv
 have hn:∀ v,bB r v≠0->bB (lA r w 2) v≠0:=fun v hv=>by rw [p2];split;decide;exact hv
 refine ⟨p1,⟨fun p hp=>⟨ho _ (k.qs p hp).1,by rw [hi];exact (k.qs p hp).2⟩,fun t ht=>⟨hn _ (k.ts t ht).1,hn _ (k.ts t ht).2.1,by rw [hi];exact (k.ts t ht).2.2⟩,fun p hp=>⟨ho _ (k.ps p hp).1,by rw [ha];exact (k.ps p hp).2⟩,fun c hc=>?_⟩,hn⟩;obtain ⟨h1,h2⟩:=qV.1 hc;rw [Mz] at h2;rw [p2,if_neg (by simpa using h2)];exact k.cs c h1
theorem Ip {qs ts ps}:∀ (l:List aB) (x:aq × List aB),(∀ c∈l,bB x.1 c.who≠0)->x.1.okB=true->iG x.1 qs ts ps x.2->mg bS bL x.2=true->(qA l x).1.okB=true/\iG (qA l x).1 qs ts ps (qA l x).2/\mg bS bL (qA l x).2=true
 | [],_,_,h2,h3,h4=>⟨h2,h3,h4⟩
 | c :: r,x,h1,h2,h3,h4=>by
  obtain ⟨a1,a2,a3⟩:=Le h2 (h1 c (by simp)) h3;simp only [qA];exact Ip r _ (fun y hy=>a3 _ (h1 y (by simp [hy]))) a1 a2 (yJ h4)
theorem Li {s:af} {n:Int} (he:nR s n=0):(gD s n).right:=by
 unfold gD;rw [if_pos he];unfold nR at he;split at he
 case isFalse=>cases he
 rename_i h1;split at he
 case isFalse=>cases he
 rename_i h2;split at he
 ·cases he
 simp only [within,bW,decide_eq_true_eq] at h2;have hr:=gA.1 h1;have hc:=hr.KA
 obtain ⟨a1,a2,a3⟩:=Ip (mN (s.now+n) s.calls) (s.aj,s.calls) (fun c hc=>by
  obtain ⟨x,hx,hc⟩:=List.mem_flatMap.1 hc;split at hc
  ·obtain rfl:=List.mem_singleton.1 hc;have:=hr.known.cs _ hx;dsimp only;omega
  ·cases hc) hr.aj hr.known hr.calls
 exact ⟨⟨by dsimp only;omega,hc.2⟩,a1,hr.book,hr.aU,hr.ps,a3,a2,hr.bl,hr.aW,hr.aJ⟩
theorem MH {s:af} {w:Int}:∀ (m i:Nat) (l:bq) (p:List aN),l.okB=true->(mW s w m i l p).2.2=0->(mW s w m i l p).1.okB=true
 | 0,_,_,_,h,_=>h
 | m+1,i,l,p,h,he=>by
  simp only [mW] at he |-;split
  ·rename_i h0;rw [if_pos h0] at he;exact MH m _ _ _ (EJ h h0) he
  ·rename_i h0;rw [if_neg h0] at he;exact absurd he h0
theorem F6 {s:af} {w:Int} (h:uq s w=0):nE s w=0/\gO (zj s w) 3 0=0/\gO (uG s w) 3 0=0/\(mW s w 3 0 s.aU []).2.2=0:=by
 unfold uq at h;split at h
 case isFalse hne=>exact absurd h hne
 rename_i h1;split at h
 case isFalse hne=>exact absurd h hne
 rename_i h2;split at h
 case isFalse hne=>exact absurd h hne
 rename_i h3;exact ⟨h1,h2,h3,h⟩
theorem Ds {w:Int} {l:List eO} {p:eO}:p∈pS w l ↔ p∈l/\p.who≠w:=by
 unfold pS;rw [List.mem_flatMap];constructor
 ·rintro ⟨x,hx,h⟩
  split at h
  ·cases h
  ·rename_i hn;obtain rfl:=List.mem_singleton.1 h;exact ⟨hx,by simpa using hn⟩
 ·rintro ⟨h1,h2⟩
  exact ⟨p,h1,by rw [if_neg (by simpa using h2)];simp⟩
theorem Lj {w:Int} {l:List br} {b:br}:b∈pL w l ↔ b∈l/\b.who≠w/\b.src≠w:=by
 unfold pL;rw [List.mem_flatMap];constructor
 ·rintro ⟨x,hx,h⟩
  split at h
  ·cases h
  ·rename_i hn;obtain rfl:=List.mem_singleton.1 h;simp only [Bool.or_eq_true,beq_iff_eq] at hn;exact ⟨hx,fun e=>hn (.inl e),fun e=>hn (.inr e)⟩
 ·rintro ⟨h1,h2,h3⟩
  exact ⟨b,h1,by rw [if_neg (by simp only [Bool.or_eq_true,beq_iff_eq];omega)];simp⟩
theorem NP {s:af} {w:Int} (he:uq s w=0):(lT s w).right:=by
 unfold lT;rw [if_pos he];obtain ⟨e1,_,_,e4⟩:=F6 he;obtain ⟨hm,_⟩:=BZ e1;obtain ⟨h1,hs⟩:=tS hm;have hr:=gA.1 h1;have hp:=tU hr.aj (w:=w) (p:=3) (by omega) (by omega);obtain ⟨p1,p2,_⟩:=Bv hp;have hi:=fun n=>(wh hp n).1
 have ha:=fun n=>(wh hp n).2
 obtain ⟨b1,b2,b3⟩:=PW e1;have hst:∀ v,v≠w->bB (lA s.aj w 3) v=bB s.aj v:=fun v hv=>by rw [p2,if_neg hv]
 have hg:=gN.1 hr.ps;refine ⟨hr.KA,p1,b1,MH 3 0 s.aU [] hr.aU e4,gN.2 ⟨fun p hp=>hg.1 p (Ds.1 hp).1,LQ hg.2⟩,yJ hr.calls,⟨fun p hp=>?_,fun t ht=>?_,fun p hp=>?_,fun c hc=>?_⟩,Nat.le_trans (BJ _ _) hr.bl,fun b hb=>hr.aW b (Lj.1 hb).1,hr.aJ⟩
 ·dsimp only at hp |-;rw [hst _ (b3 p hp),hi];exact b2.qs p hp
 ·dsimp only at ht |-;have:=b2.ts t ht;have hn:∀ v,bB s.aj v≠0->bB (lA s.aj w 3) v≠0:=fun v hv=>by rw [p2];split;decide;exact hv
  exact ⟨hn _ this.1,hn _ this.2.1,by rw [hi];exact this.2.2⟩
 ·dsimp only at hp |-;have:=Ds.1 hp;rw [hst _ this.2,ha];exact hr.known.ps p this.1
 ·dsimp only at hc |-;obtain ⟨h1,h2⟩:=qV.1 hc;rw [Mz] at h2;rw [hst _ (by simpa using h2)];exact hr.known.cs c h1
end Go.Proofs.YtnkobepdbkmedaaGreat
