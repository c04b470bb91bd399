/- Right states: lists in order, what is found in them, and what follows. No theorem of a claim. -/
import Derived.Test.YtnkobepdbkmedaaGreatDoorKH
set_option linter.unusedSimpArgs false
set_option linter.unusedVariables false
set_option maxHeartbeats 4000000
set_option maxRecDepth 16000
namespace Go.Proofs.YtnkobepdbkmedaaGreatDoor
open Go.Abs
theorem QG {A:Type} {R:A->A->Prop} (tr:∀ {a b c},R a b->R b c->R a c) {xs:List A} (h:∀ j (hj:j+1 < xs.length),R (xs[j]'(by omega)) xs[j+1]):xs.Pairwise R:=by
 rw [List.pairwise_iff_getElem]
 have key:∀ d i (hj:i+d+1 < xs.length),R (xs[i]'(by omega)) xs[i+d+1]:=by
  intro d
  induction d with
  | zero=>intro i hj;exact h i hj
  | succ d ih=>intro i hj;exact tr (ih i (by omega)) (h (i+d+1) hj)
 intro i j hi hj hij;have:=key (j-i-1) i (by omega);have e:i+(j-i-1)+1=j:=by omega
 simpa only [e] using this
theorem pW {A:Type} {ok:A->Bool} {lt:A->A->Bool} (tr:∀ {a b c},lt a b=true->lt b c=true->lt a c=true) {xs:List A}:mO ok lt xs=true ↔ (∀ x∈xs,ok x=true)/\xs.Pairwise (fun a b=>lt a b=true):=by
 constructor
 ·intro h;refine ⟨fun x hx=>?_,QG (R:=fun a b=>lt a b=true) tr fun j hj=>?_⟩
  ·obtain ⟨i,hi,rfl⟩:=List.mem_iff_getElem.1 hx;exact K3 h hi
  ·have:=UB h hj;rw [gm hj,cr] at this;exact this.2
 ·rintro ⟨h1,h2⟩
  rw [List.pairwise_iff_getElem] at h2;refine mM fun i hi=>?_
  cases i with
  | zero=>rw [gJ hi];exact h1 _ (List.getElem_mem hi)
  | succ j=>rw [gm hi,h1 _ (List.getElem_mem hi),h2 j (j+1) (by omega) hi (by omega)];rfl
theorem Sf {A:Type} {no:A->Int} {ok:A->Bool} {xs:List A}:gU no ok xs=true ↔ (∀ x∈xs,ok x=true)/\xs.Pairwise (fun a b=>no a < no b):=by
 constructor
 ·intro h;have hat:∀ i (hi:i < xs.length),cw no ok xs i=true:=fun i hi=>List.all_eq_true.1 h i (List.mem_range.2 hi)
  refine ⟨qL h,QG (R:=fun a b=>no a < no b) Int.lt_trans fun j hj=>?_⟩;have:=hat (j+1) hj;rw [gw no ok xs hj (by omega),cr,decide_eq_true_eq] at this;exact this.2
 ·rintro ⟨h1,h2⟩
  rw [List.pairwise_iff_getElem] at h2;refine vW fun i hi=>?_
  rcases Nat.eq_zero_or_pos i with h0 | h0
  ·rw [gr no ok xs hi (by omega)];exact h1 _ (List.getElem_mem hi)
  ·rw [gw no ok xs hi h0,h1 _ (List.getElem_mem hi),decide_eq_true (h2 (i-1) i (by omega) hi (by omega))];rfl
theorem W9 {bs:List bC}:kK bs=true ↔ (∀ b∈bs,kM b=true)/\bs.Pairwise (fun x y=>x.bB.less y.bB=true):=by
 constructor
 ·intro h;have hat:∀ i (hi:i < bs.length),nj bs i=true:=fun i hi=>List.all_eq_true.1 h i (List.mem_range.2 hi)
  refine ⟨fun x hx=>?_,LY h⟩;obtain ⟨i,hi,rfl⟩:=List.mem_iff_getElem.1 hx;have:=hat i hi;cases i with
  | zero=>rwa [jW hi] at this
  | succ j=>rw [jk hi,cr] at this;exact this.1
 ·rintro ⟨h1,h2⟩
  rw [List.pairwise_iff_getElem] at h2;refine qx fun i hi=>?_
  cases i with
  | zero=>rw [jW hi];exact h1 _ (List.getElem_mem hi)
  | succ j=>rw [jk hi,h1 _ (List.getElem_mem hi),h2 j (j+1) (by omega) hi (by omega)];rfl
theorem rj {A:Type} {no:A->Int} {n:Int} {xs:List A}:decide (0<=iJ no n xs)=true ↔ ∃ x∈xs,no x=n:=by
 rw [vw,List.any_eq_true];simp
theorem vJ {A:Type} {no:A->Int} {n:Int} {z:A}:∀ {xs:List A},(∃ x∈xs,no x=n)->fX no n z xs∈xs/\no (fX no n z xs)=n
 | [],h=>by obtain ⟨x,hx,_⟩:=h;cases hx
 | x :: r,h=>by
  simp only [fX];split
  ·rename_i hx;exact ⟨by simp,hx⟩
  ·rename_i hx;obtain ⟨y,hy,hn⟩:=h;rcases List.mem_cons.1 hy with rfl | hy
   ·exact absurd hn hx
   ·obtain ⟨h1,h2⟩:=vJ (z:=z) ⟨y,hy,hn⟩;exact ⟨by simp [h1],h2⟩
theorem vv {A:Type} {no:A->Int} {n:Int} {z:A}:∀ {xs:List A},(∀ x∈xs,no x≠n)->fX no n z xs=z
 | [],_=>rfl
 | x :: r,h=>by
  simp only [fX];rw [if_neg (h x (by simp))];exact vv fun y hy=>h y (by simp [hy])
theorem Av {A:Type} {no:A->Int} {n:Int} {z:A} {xs:List A} (hp:xs.Pairwise (fun a b=>no a < no b)) {x:A} (hx:x∈xs) (hn:no x=n):fX no n z xs=x:=by
 induction xs with
 | nil=>cases hx
 | cons y r ih =>
  rw [List.pairwise_cons] at hp;simp only [fX];rcases List.mem_cons.1 hx with rfl | hx
  ·rw [if_pos hn]
  ·have:=hp.1 x hx;rw [if_neg (by omega)];exact ih hp.2 hx
theorem Ic {A:Type} {no:A->Int} {n:Int} {z:A} {xs ys:List A} (hp:ys.Pairwise (fun a b=>no a < no b)) (h:∀ x,no x=n->(x∈xs ↔ x∈ys)):fX no n z xs=fX no n z ys:=by
 by_cases hx:∃ x∈xs,no x=n
 ·obtain ⟨h1,h2⟩:=vJ (z:=z) hx;exact (Av hp ((h _ h2).1 h1) h2).symm
 ·rw [vv (fun x hm hn=>hx ⟨x,hm,hn⟩),vv (fun x hm hn=>hx ⟨x,(h x hn).2 hm,hn⟩)]
theorem jv {B:Type} {f:Nat->List B} {n:Nat} {x:B}:x∈pq f n ↔ ∃ i,i < n/\x∈f i:=by
 simp [pq,List.mem_flatMap,List.mem_range]
theorem rX {B:Type} {R:B->B->Prop} {f:Nat->List B} {n:Nat} (h1:∀ i,i < n->(f i).Pairwise R) (h2:∀ i j,i < j->j < n->∀ x∈f i,∀ y∈f j,R x y):(pq f n).Pairwise R:=by
 induction n with
 | zero=>simp [pq]
 | succ n ih =>
  rw [jo,List.pairwise_append];refine ⟨ih (fun i hi=>h1 i (by omega)) (fun i j hij hj=>h2 i j hij (by omega)),h1 n (by omega),?_⟩;intro x hx y hy;obtain ⟨i,hi,hx⟩:=jv.1 hx;exact h2 i n hi (by omega) x hx y hy
theorem uD {B:Type} {R:B->B->Prop}:∀ {l:List B},l.length<=1->l.Pairwise R
 | [],_=>by simp
 | [x],_=>by simp
 | x :: y :: r,h=>by simp at h
theorem YV {B:Type} {key:B->Int} {f:Nat->List B} {n:Nat} (h0:∀ i,i < n->(f i).length<=1) (hk:∀ i,i < n->∀ x∈f i,key x=(i:Int)+1):(pq f n).Pairwise (fun a b=>key a < key b):=by
 refine rX (fun i hi=>uD (h0 i hi)) fun i j hij hj x hx y hy=>?_
 rw [hk i (by omega) x hx,hk j hj y hy];omega
theorem JX {A B:Type} {R:A->A->Prop} {S:B->B->Prop} {f:A->List B} {xs:List A} (hp:xs.Pairwise R) (h1:∀ a∈xs,(f a).Pairwise S) (h2:∀ a b,a∈xs->b∈xs->R a b->∀ x∈f a,∀ y∈f b,S x y):(xs.flatMap f).Pairwise S:=by
 induction xs with
 | nil=>simp
 | cons a r ih =>
  rw [List.pairwise_cons] at hp;rw [List.flatMap_cons,List.pairwise_append];refine ⟨h1 a (by simp),ih hp.2 (fun b hb=>h1 b (by simp [hb])) (fun b c hb hc=>h2 b c (by simp [hb]) (by simp [hc])),?_⟩;intro x hx y hy;obtain ⟨b,hb,hy⟩:=List.mem_flatMap.1 hy;exact h2 a b (by simp) (by simp [hb]) (hp.1 b hb) x hx y hy
theorem QD {A:Type} {no:A->Int} {n:Int} {f:A->A} (hf:∀ x,no (f x)=no x) (xs:List A):(xd no n f xs).map no=xs.map no:=by
 induction xs with
 | nil=>rfl
 | cons x r ih=>simp only [xd];split<;>simp [ih,hf]
theorem Nd {A:Type} {no:A->Int} {n:Int} {f:A->A} {xs:List A} {y:A} (h:y∈xd no n f xs):y∈xs\/∃ x∈xs,y=f x:=by
 induction xs with
 | nil=>cases h
 | cons x r ih =>
  simp only [xd] at h;split at h
  ·rcases List.mem_cons.1 h with rfl | h
   ·exact .inr ⟨x,by simp,rfl⟩
   ·exact .inl (by simp [h])
  ·rcases List.mem_cons.1 h with rfl | h
   ·exact .inl (by simp)
   ·rcases ih h with h | ⟨z,hz,rfl⟩
    ·exact .inl (by simp [h])
    ·exact .inr ⟨z,by simp [hz],rfl⟩
theorem LJ {A:Type} {no:A->Int} {xs ys:List A} (h:ys.map no=xs.map no) (hp:xs.Pairwise (fun a b=>no a < no b)):ys.Pairwise (fun a b=>no a < no b):=by
 have h1:(xs.map no).Pairwise (fun a b=>a < b):=List.pairwise_map.2 hp;rw [<- h] at h1;exact List.pairwise_map.1 h1
theorem QI {A:Type} {no:A->Int} {n:Int} {xs ys:List A} (h:ys.map no=xs.map no):decide (0<=iJ no n ys)=decide (0<=iJ no n xs):=by
 rw [vw,vw];have e:∀ l:List A,l.any (fun x=>no x==n)=(l.map no).any (fun x=>x==n):=fun l=>by simp [List.any_map,Function.comp_def]
 rw [e,e,h]
theorem Lp {A:Type} {no:A->Int} {n w:Int} {f:A->A} {z:A} (hf:∀ x,no (f x)=no x) (xs:List A):fX no w z (xd no n f xs)=if w=n/\(∃ x∈xs,no x=n) then f (fX no w z xs) else fX no w z xs:=by
 induction xs with
 | nil=>simp [xd,fX]
 | cons x r ih =>
  simp only [xd];split
  ·rename_i hx;simp only [fX,hf]
   by_cases hw:w=n
   ·subst hw;rw [if_pos hx,if_pos hx,if_pos ⟨rfl,x,by simp,hx⟩]
   ·rw [if_neg (fun h=>hw (h.symm.trans hx)),if_neg (fun h=>hw h.1),if_neg (fun h=>hw (h.symm.trans hx))]
  ·rename_i hx;simp only [fX,ih]
   by_cases hxw:no x=w
   ·rw [if_pos hxw,if_pos hxw,if_neg]
    rintro ⟨rfl,_⟩;exact hx hxw
   ·rw [if_neg hxw,if_neg hxw];congr 1;simp only [List.mem_cons,exists_eq_or_imp,hx,false_or]
theorem eo {r:aq}:r.okB=true ↔ ((∀ x∈r.ms,x.ok=true)/\r.ms.Pairwise (fun a b=>a.no < b.no))/\((∀ x∈r.ns,x.ok=true)/\r.ns.Pairwise (fun a b=>a.no < b.no))/\((∀ x∈r.xs,x.ok=true)/\r.xs.Pairwise (fun a b=>a.a < b.a)):=by
 simp only [aq.okB,cr,Sf,and_assoc]
theorem vU {x:ak} (h:x.ok=true):(1<=x.no/\x.no<=16)/\(1<=x.state/\x.state<=3)/\0<=x.need/\x.need<=4611686018427387904:=by
 simp only [ak.ok,within,bL,cr,decide_eq_true_eq] at h;omega
theorem Ef {x:ay} (h:x.ok=true):(1<=x.no/\x.no<=8)/\(0<=x.cur/\x.cur<=2)/\(1<=x.mult/\x.mult<=1024):=by
 simp only [ay.ok,within,cr,decide_eq_true_eq] at h;omega
theorem Fy {x:au} (h:x.ok=true):(1<=x.a/\x.a<=6)/\(0<=x.b/\x.b<=2)/\(1<=x.c/\x.c<=1073741824):=by
 simp only [au.ok,within,cr,decide_eq_true_eq] at h;omega
theorem q9 {r:aq} {w:Int}:dQ r w=true ↔ ∃ x∈r.ms,x.no=w:=rj
theorem sD {r:aq} {w:Int}:br r w=true ↔ ∃ x∈r.ns,x.no=w:=rj
theorem R7 {r:aq} {w:Int}:jN r w=true ↔ ∃ x∈r.xs,x.a=w:=rj
theorem H9 {r:aq} {w:Int} (h:dQ r w=true):ew r w∈r.ms/\(ew r w).no=w:=vJ (q9.1 h)
theorem Ej {r:aq} {w:Int} (h:br r w=true):bf r w∈r.ns/\(bf r w).no=w:=vJ (sD.1 h)
theorem Om {r:aq} (h:r.okB=true) {w:Int}:bJ r w≠0 ↔ dQ r w=true:=by
 constructor
 ·intro hs;cases hm:dQ r w
  ·exact absurd (show bJ r w=0 from by
    unfold bJ ew;rw [vv]
    ·rfl
    ·intro x hx hn
     rw [q9.2 ⟨x,hx,hn⟩] at hm;cases hm) hs
  ·rfl
 ·intro hm;have:=vU ((eo.1 h).1.1 _ (H9 hm).1);unfold bJ;omega
theorem KL {r:aq} (h:r.okB=true) {w:Int} (hs:bJ r w≠0):(1<=bJ r w/\bJ r w<=3)/\1<=w/\w<=16:=by
 have hm:=H9 ((Om h).1 hs);have:=vU ((eo.1 h).1.1 _ hm.1);rw [hm.2] at this;unfold bJ;omega
theorem F0 {A:Type} {no:A->Int} {z m:A} {xs:List A} {N:Nat} {f:Nat->List A} (hp:xs.Pairwise (fun a b=>no a < no b)) (hx:∀ x∈xs,1<=no x/\no x<=N) (hm:1<=no m/\no m<=N)
  (hf:∀ i:Nat,i < N->f i=if (i:Int)+1=no m then [m] else if decide (0<=iJ no ((i:Int)+1) xs)=true then [fX no ((i:Int)+1) z xs] else []) :
  (pq f N).Pairwise (fun a b=>no a < no b)/\∀ x,x∈pq f N ↔ x=m\/(x∈xs/\no x≠no m):=by
 refine ⟨YV (key:=no) (fun i hi=>?_) (fun i hi x hx=>?_),fun x=>?_⟩
 ·rw [hf i hi];split
  ·simp
  ·split<;>simp
 ·rw [hf i hi] at hx;split at hx
  ·rename_i h;simp only [List.mem_singleton] at hx;rw [hx,h]
  ·split at hx
   ·rename_i h;simp only [List.mem_singleton] at hx;rw [hx];exact (vJ (rj.1 h)).2
   ·cases hx
 ·rw [jv];constructor
  ·rintro ⟨i,hi,h⟩
   rw [hf i hi] at h;split at h
   ·simp only [List.mem_singleton] at h;exact .inl h
   ·rename_i hne;split at h
    ·rename_i hh;simp only [List.mem_singleton] at h;have hg:=vJ (z:=z) (rj.1 hh);rw [<- h] at hg;exact .inr ⟨hg.1,by rw [hg.2];exact hne⟩
    ·cases h
  ·rintro (rfl | ⟨h1,h2⟩)
   ·refine ⟨(no x-1).toNat,by omega,?_⟩;rw [hf _ (by omega),if_pos (by omega)];simp
   ·have hr:=hx x h1;refine ⟨(no x-1).toNat,by omega,?_⟩;have e:(((no x-1).toNat:Nat):Int)+1=no x:=by omega
    rw [hf _ (by omega),e,if_neg h2,if_pos (rj.2 ⟨x,h1,rfl⟩),Av hp h1 rfl];simp
structure aq.ext (r r':aq):Prop where
 st:∀ w,bJ r w≠0->bJ r' w=bJ r w
 inst:∀ n,br r n=true->br r' n=true
 same:∀ n,br r n=true->(bf r' n).mult=(bf r n).mult/\(bf r' n).cur=(bf r n).cur
 ast:∀ n,jN r n=true->jN r' n=true
theorem MZ {r:aq} {w n:Int} (h:ju r w n=0):(jX r w n).okB=true/\r.ext (jX r w n):=by
 unfold jX;rw [if_pos h];unfold ju at h;split at h
 case isFalse=>cases h
 rename_i hr;split at h
 case isFalse=>cases h
 rename_i hm;split at h
 ·cases h
 rename_i hi;have hr0:=hr;rw [eo] at hr;obtain ⟨⟨o1,p1⟩,h2,h3⟩:=hr;have hmk:=vU hm;dsimp only at hmk
 have hP:=F0 (no:=ak.no) (z:=ak.zero) (m:=⟨w,1,n⟩) (N:=16) (f:=Ku r ⟨w,1,n⟩) p1 (fun x hx=>by have:=vU (o1 x hx);omega) (by dsimp only;omega) (by
  intro i _;unfold Ku;dsimp only
  by_cases e:(i:Int)+1=w
  ·rw [e,if_neg hi];simp
  ·have e':((i:Int)+1==w)=false:=by simpa using e
   rw [e',if_neg e];simp only [dQ,ew,fZ,if_false,List.append_nil]
   rfl)
 obtain ⟨q1,q2⟩:=hP;refine ⟨eo.2 ⟨⟨fun x hx=>?_,q1⟩,h2,h3⟩,⟨fun v hv=>?_,fun _ h=>h,fun _ _=>⟨rfl,rfl⟩,fun _ h=>h⟩⟩
 ·rcases (q2 x).1 hx with rfl | h
  ·exact hm
  ·exact o1 x h.1
 ·have hv:=(Om hr0).1 hv;unfold bJ ew;congr 1;refine Ic p1 fun x hx=>?_
  rw [q2 x];constructor
  ·rintro (rfl | h)
   ·dsimp only at hx;rw [hx] at hi;exact absurd hv hi
   ·exact h.1
  ·intro h;refine .inr ⟨h,?_⟩;dsimp only
   rintro rfl
   rw [hx] at hi;exact hi hv
theorem QX {r:aq} {i:ay} (h:nh r i=0):(oD r i).okB=true/\r.ext (oD r i):=by
 unfold oD;rw [if_pos h];unfold nh at h;split at h
 case isFalse=>cases h
 rename_i hr;split at h
 case isFalse=>cases h
 rename_i hm;split at h
 ·cases h
 rename_i hi;rw [eo] at hr;obtain ⟨h1,⟨o1,p1⟩,h3⟩:=hr;have hmk:=Ef hm
 have hP:=F0 (no:=ay.no) (z:=ay.zero) (m:=i.bare) (N:=8) (f:=HW r i.bare) p1 (fun x hx=>by have:=Ef (o1 x hx);omega) (by omega) (by
  intro k _;unfold HW
  by_cases e:(k:Int)+1=i.bare.no
  ·have e2:br r ((k:Int)+1)=false:=by
    rw [e];have:br r i.bare.no=br r i.no:=rfl;rw [this];simpa using hi
   rw [e2,e];simp
  ·have e':((k:Int)+1==i.bare.no)=false:=by simpa using e
   rw [e',if_neg e];simp only [br,bf,fZ,if_false,List.append_nil]
   rfl)
 obtain ⟨q1,q2⟩:=hP;refine ⟨eo.2 ⟨h1,⟨fun x hx=>?_,q1⟩,h3⟩,⟨fun _ _=>rfl,fun n hn=>?_,fun n hn=>?_,fun _ h=>h⟩⟩
 ·rcases (q2 x).1 hx with rfl | h
  ·exact hm
  ·exact o1 x h.1
 ·rw [sD] at hn |-;obtain ⟨x,hx,hxn⟩:=hn;refine ⟨x,(q2 x).2 (.inr ⟨hx,fun e=>hi ?_⟩),hxn⟩;rw [sD];exact ⟨x,hx,e⟩
 ·have e:bf (⟨r.ms,pq (HW r i.bare) 8,r.xs⟩:aq) n=bf r n:=by
   unfold bf;refine Ic p1 fun x hx=>?_
   rw [q2 x];constructor
   ·rintro (rfl | h)
    ·have hx:i.no=n:=hx;rw [hx] at hi;exact absurd hn hi
    ·exact h.1
   ·intro h;refine .inr ⟨h,fun e=>hi ?_⟩;rw [sD];exact ⟨x,h,e⟩
  rw [e];exact ⟨rfl,rfl⟩
theorem QH {r:aq} {a:au} (h:ni r a=0):(oG r a).okB=true/\r.ext (oG r a):=by
 unfold oG;rw [if_pos h];unfold ni at h;split at h
 case isFalse=>cases h
 rename_i hr;split at h
 case isFalse=>cases h
 rename_i hm;rw [cr] at hm;have hm:=hm.1;rw [eo] at hr;obtain ⟨h1,h2,⟨o1,p1⟩⟩:=hr;have hmk:=Fy hm
 have hP:=F0 (no:=au.a) (z:=(⟨0,0,0,0⟩:au)) (m:=a) (N:=6) (f:=K4 r a) p1 (fun x hx=>by have:=Fy (o1 x hx);omega) (by omega) (by
  intro k _;unfold K4
  by_cases e:(k:Int)+1=a.a
  ·rw [e];simp
  ·have e':((k:Int)+1==a.a)=false:=by simpa using e
   rw [e',if_neg e];simp only [jN,mz,fZ,if_false]
   rfl)
 obtain ⟨q1,q2⟩:=hP;refine ⟨eo.2 ⟨h1,h2,⟨fun x hx=>?_,q1⟩⟩,⟨fun _ _=>rfl,fun _ h=>h,fun _ _=>⟨rfl,rfl⟩,fun n hn=>?_⟩⟩
 ·rcases (q2 x).1 hx with rfl | h
  ·exact hm
  ·exact o1 x h.1
 ·rw [R7] at hn |-;obtain ⟨x,hx,hxn⟩:=hn
  by_cases e:x.a=a.a
  ·exact ⟨a,(q2 a).2 (.inl rfl),by rw [<- e];exact hxn⟩
  ·exact ⟨x,(q2 x).2 (.inr ⟨hx,e⟩),hxn⟩
theorem VZ {x:ay} {p:Int} (h:x.ok=true) (hp:1<=p/\p<=1073741824):(x.told p).ok=true:=by
 have e:(x.told p).Li=x.Li:=by
  have:(x.told p).sh=x.sh:=by funext i;rcases i with _ | _ | _ | _ | _ | i<;>rfl
  simp only [ay.Li,this]
 have e2:(x.told p).ok=(x.Li&&within x.no 1 8&&within x.cur 0 2&&within x.mult 1 1024&&within x.add 0 1073741824&&within p 0 1073741824&&within x.aX 0 1073741824):=by
  unfold ay.ok;rw [e];rfl
 rw [e2];simp only [ay.ok,within,cr,decide_eq_true_eq] at h |-;obtain ⟨⟨⟨⟨⟨⟨h0,h1⟩,h2⟩,h3⟩,h4⟩,h5⟩,h6⟩:=h;exact ⟨⟨⟨⟨⟨⟨h0,h1⟩,h2⟩,h3⟩,h4⟩,⟨by omega,by omega⟩⟩,h6⟩
theorem V4 {x:ay} (h:x.ok=true):x.qC.ok=true:=by
 unfold ay.qC;split
 ·exact h
 rename_i hs;have hs:x.set≠0:=by simpa using hs
 have e:ay.Li { x with aX:=x.set,set:=0 }=x.Li:=by
  have:ay.sh { x with aX:=x.set,set:=0 }=x.sh:=by funext i;rcases i with _ | _ | _ | _ | _ | i<;>rfl
  simp only [ay.Li,this]
 have e2:ay.ok { x with aX:=x.set,set:=0 }=(x.Li&&within x.no 1 8&&within x.cur 0 2&&within x.mult 1 1024&&within x.add 0 1073741824&&within 0 0 1073741824&&within x.set 0 1073741824):=by
  unfold ay.ok;rw [e]
 rw [e2];simp only [ay.ok,within,cr,decide_eq_true_eq] at h |-;obtain ⟨⟨⟨⟨⟨⟨h0,h1⟩,h2⟩,h3⟩,h4⟩,h5⟩,h6⟩:=h;exact ⟨⟨⟨⟨⟨⟨h0,h1⟩,h2⟩,h3⟩,h4⟩,⟨by omega,by omega⟩⟩,h5⟩
theorem P2 (x:ay):x.qC.no=x.no:=by unfold ay.qC;split<;>rfl
theorem QV {r:aq} {n p:Int} (h:xL r n p=0):(xO r n p).okB=true/\r.ext (xO r n p):=by
 unfold xO;rw [if_pos h];unfold xL at h;split at h
 case isFalse=>cases h
 rename_i hr;split at h
 case isFalse=>cases h
 split at h
 case isFalse=>cases h
 rename_i hp;simp only [within,cr,decide_eq_true_eq] at hp;rw [eo] at hr;obtain ⟨h1,⟨o1,p1⟩,h3⟩:=hr;have hno:=QD (no:=ay.no) (n:=n) (f:=ay.told p) (fun _=>rfl) r.ns;refine ⟨eo.2 ⟨h1,⟨fun x hx=>?_,LJ hno p1⟩,h3⟩,⟨fun _ _=>rfl,fun m hm=>?_,fun m hm=>?_,fun _ h=>h⟩⟩
 ·rcases Nd hx with h | ⟨y,hy,rfl⟩
  ·exact o1 x h
  ·exact VZ (o1 y hy) hp
 ·unfold br at hm |-;rw [<- hm];exact QI hno
 ·unfold bf;dsimp only;rw [Lp (no:=ay.no) (f:=ay.told p) (fun _=>rfl)];split<;>exact ⟨rfl,rfl⟩
theorem LI {r:aq} (hr:r.okB=true):(Mm r).okB=true/\r.ext (Mm r):=by
 rw [eo] at hr;obtain ⟨h1,⟨o1,p1⟩,h3⟩:=hr
 have hno:(r.ns.map ay.qC).map ay.no=r.ns.map ay.no:=by
  rw [List.map_map];exact List.map_congr_left fun x _=>P2 x
 refine ⟨eo.2 ⟨h1,⟨fun x hx=>?_,LJ hno p1⟩,h3⟩,⟨fun _ _=>rfl,fun m hm=>?_,fun m hm=>?_,fun _ h=>h⟩⟩
 ·obtain ⟨y,hy,rfl⟩:=List.mem_map.1 hx;exact V4 (o1 y hy)
 ·unfold br at hm |-;rw [<- hm];exact QI hno
 ·obtain ⟨m1,m2⟩:=Ej hm;have e:bf (Mm r) m=(bf r m).qC:=Av (no:=ay.no) (LJ hno p1) (List.mem_map.2 ⟨_,m1,rfl⟩) (by rw [P2];exact m2);rw [e];unfold ay.qC;split<;>exact ⟨rfl,rfl⟩
theorem GY {r:aq} {n p:Int} (h:DH r n p=0):(l6 r n p).okB=true/\(∀ w,bJ (l6 r n p) w=if w=n then p else bJ r w)/\(l6 r n p).ns=r.ns/\(l6 r n p).xs=r.xs:=by
 unfold l6;rw [if_pos h];unfold DH at h;split at h
 case isFalse=>cases h
 rename_i hr;split at h
 case isFalse=>cases h
 rename_i hi;split at h
 case isFalse=>cases h
 rename_i hp;simp only [within,cr,decide_eq_true_eq] at hp;rw [eo] at hr;obtain ⟨⟨o1,p1⟩,h2,h3⟩:=hr;have hno:=QD (no:=ak.no) (n:=n) (f:=ak.put p) (fun _=>rfl) r.ms;refine ⟨eo.2 ⟨⟨fun x hx=>?_,LJ hno p1⟩,h2,h3⟩,fun w=>?_,rfl,rfl⟩
 ·rcases Nd hx with h | ⟨y,hy,rfl⟩
  ·exact o1 x h
  ·have:=o1 y hy;have e2:(y.put p).ok=(within y.no 1 16&&within p 1 3&&bL y.need&&decide (0<=y.need)):=rfl;rw [e2];simp only [ak.ok,within,cr,decide_eq_true_eq] at this |-;exact ⟨⟨⟨this.1.1.1,hp⟩,this.1.2⟩,this.2⟩
 ·unfold bJ ew;dsimp only;rw [Lp (no:=ak.no) (f:=ak.put p) (fun _=>rfl)]
  by_cases hw:w=n
  ·rw [if_pos ⟨hw,q9.1 hi⟩,if_pos hw];rfl
  ·rw [if_neg (fun h=>hw h.1),if_neg hw]
theorem Jp {a b:aD}:a.same b=true ↔ a=b:=by
 obtain ⟨a1,a2,a3⟩:=a;obtain ⟨b1,b2,b3⟩:=b;simp only [aD.same,cr,beq_iff_eq,aD.mk.injEq]
theorem AR {a:aD} {b:bC}:Wo a b=true ↔ b.bB=a:=by
 obtain ⟨a1,a2,a3⟩:=a;obtain ⟨b1,b2,b3,b4⟩:=b;simp only [Wo,bC.bB,cr,beq_iff_eq,aD.mk.injEq]
theorem u9 {a:aD} (h:a.less a=true):False:=by rw [ng] at h;omega
def tot {A:Type} (L:List A) (F:A->Int):Int:=az (L.map F)
theorem gx {A:Type} (x:A) (L:List A) (F:A->Int):tot (x :: L) F=F x+tot L F:=rfl
theorem iD {A:Type} (L:List A) (F G:A->Int):tot L (fun a=>F a+G a)=tot L F+tot L G:=by
 induction L with
 | nil=>rfl
 | cons x r ih=>simp only [gx,ih];omega
theorem gR {A:Type} {L:List A} {F:A->Int} (h:∀ a∈L,F a=0):tot L F=0:=by
 induction L with
 | nil=>rfl
 | cons x r ih=>rw [gx,h x (by simp),ih fun a ha=>h a (by simp [ha])];rfl
theorem cB {A:Type} {L:List A} {F G:A->Int} (h:∀ a∈L,F a=G a):tot L F=tot L G:=by
 induction L with
 | nil=>rfl
 | cons x r ih=>rw [gx,gx,h x (by simp),ih fun a ha=>h a (by simp [ha])]
theorem Bt {A:Type} {L:List A} {R:A->A->Prop} (hp:L.Pairwise R) {x:A} (hx:x∈L) {F:A->Int} (h0:∀ a,(R a x\/R x a)->F a=0):tot L F=F x:=by
 induction L with
 | nil=>cases hx
 | cons y r ih =>
  rw [List.pairwise_cons] at hp;rw [gx];rcases List.mem_cons.1 hx with rfl | hx
  ·rw [gR fun a ha=>h0 a (.inr (hp.1 a ha))];omega
  ·rw [ih hp.2 hx,h0 y (.inl (hp.1 x hx))];omega
theorem Kw {k w c:Nat} {x:aD}:x∈acc k w c ↔ x=⟨(k:Int)+1,w,c⟩/\x.right=true:=by
 unfold acc;split
 ·rename_i h;simp only [List.mem_singleton];constructor
  ·rintro rfl;exact ⟨rfl,h⟩
  ·exact fun h=>h.1
 ·rename_i h;constructor
  ·intro h;cases h
  ·rintro ⟨rfl,h2⟩;exact absurd h2 h
theorem E6 {k w n:Nat} {x:aD}:x∈tE k w n ↔ ∃ c,c < n/\x=⟨(k:Int)+1,w,(c:Nat)⟩/\x.right=true:=by
 rw [show tE k w n=pq (acc k w) n from rfl,jv];simp only [Kw]
theorem GF {k n:Nat} {x:aD}:x∈sG k n ↔ ∃ w,w < n/\∃ c,c < 3/\x=⟨(k:Int)+1,(w:Nat),(c:Nat)⟩/\x.right=true:=by
 rw [show sG k n=pq (fun w=>tE k w 3) n from rfl,jv];simp only [E6]
theorem Vf {n:Nat} {x:aD}:x∈tX n ↔ ∃ k,k < n/\∃ w,w < 17/\∃ c,c < 3/\x=⟨((k:Nat):Int)+1,(w:Nat),(c:Nat)⟩/\x.right=true:=by
 rw [show tX n=pq (fun k=>sG k 17) n from rfl,jv];simp only [GF]
theorem jx {x:aD} (h:x.right=true):(1<=x.kind/\x.kind<=6)/\(0<=x.who/\x.who<=16)/\0<=x.cur/\x.cur<=2:=by
 unfold aD.right at h;split at h
 ·cases h
 ·split at h
  ·simp only [cr,decide_eq_true_eq] at h;omega
  ·simp only [beq_iff_eq] at h;omega
theorem qV {x:aD}:x∈gv ↔ x.right=true:=by
 unfold gv;rw [Vf];constructor
 ·rintro ⟨_,_,_,_,_,_,_,h⟩;exact h
 ·intro h;have:=jx h;refine ⟨(x.kind-1).toNat,by omega,x.who.toNat,by omega,x.cur.toNat,by omega,?_,h⟩;obtain ⟨a,b,c⟩:=x;dsimp only at this |-;rw [aD.mk.injEq];omega
theorem A9:gv.Pairwise (fun a b=>a.less b=true):=by
 unfold gv;rw [show tX 6=pq (fun k=>sG k 17) 6 from rfl];refine rX (fun k _=>?_) fun i j hij _ x hx y hy=>?_
 ·rw [show sG k 17=pq (fun w=>tE k w 3) 17 from rfl];refine rX (fun w _=>?_) fun i j hij _ x hx y hy=>?_
  ·rw [show tE k w 3=pq (acc k w) 3 from rfl];refine rX (fun c _=>uD (by unfold acc;split<;>simp)) fun i j hij _ x hx y hy=>?_
   obtain ⟨rfl,_⟩:=Kw.1 hx;obtain ⟨rfl,_⟩:=Kw.1 hy;rw [ng];dsimp only;omega
  ·obtain ⟨_,_,rfl,_⟩:=E6.1 hx;obtain ⟨_,_,rfl,_⟩:=E6.1 hy;rw [ng];dsimp only;omega
 ·obtain ⟨_,_,_,_,rfl,_⟩:=GF.1 hx;obtain ⟨_,_,_,_,rfl,_⟩:=GF.1 hy;rw [ng];dsimp only;omega
def Eh (c:Int) (a:aD) (n:Int):Int:=if a.cur=c then n else 0
theorem QU (c:Int) (b:bC) (n:Int):Eh c b.bB n=if b.cur=c then n else 0:=rfl
theorem Xd (c:Int) (b:aY) (n:Int):Eh c b.bB n=if b.cur=c then n else 0:=rfl
theorem ZT (c:Int) (a:aD) (m n:Int):Eh c (bC.bB ⟨a.kind,a.who,a.cur,m⟩) n=Eh c a n:=rfl
theorem Cg (c:Int) (b:bC) (r:List bC):az (fB c (b :: r))=Eh c b.bB b.sum+az (fB c r):=by
 rw [QU];simp only [fB,List.filter_cons]
 by_cases h:b.cur=c
 ·rw [if_pos (by simpa using h),if_pos h];rfl
 ·rw [if_neg (by simpa using h),if_neg h];simp
theorem TU (c:Int) (a b:List bC):fB c (a++b)=fB c a++fB c b:=by simp [fB]
theorem Te (c:Int) (S:aD->Int) (L:List aD):az (fB c (L.flatMap fun a=>qT a (S a)))=tot L fun a=>Eh c a (S a):=by
 induction L with
 | nil=>rfl
 | cons x r ih =>
  rw [List.flatMap_cons,TU,dX,ih,gx];congr 1;unfold qT;split
  ·rename_i h;have h:S x=0:=by simpa using h
   rw [h];simp [fB,az,Eh]
  ·rw [Cg,ZT];simp [fB,az]
theorem EB {a:aD}:∀ {bs:List bC},(∀ b∈bs,b.bB≠a)->fj a bs=0
 | [],_=>rfl
 | b :: r,h=>by
  simp only [fj];rw [if_neg (fun hh=>h b (by simp) (AR.1 hh))];exact EB fun x hx=>h x (by simp [hx])
theorem Vg (c:Int):∀ {bs:List bC},(∀ b∈bs,b.bB.right=true)->bs.Pairwise (fun x y=>x.bB.less y.bB=true)->tot gv (fun a=>Eh c a (fj a bs))=az (fB c bs)
 | [],_,_=>gR fun a _=>by simp [fj,Eh]
 | b :: r,h1,h2=>by
  rw [List.pairwise_cons] at h2;rw [Cg,<- Vg c (fun x hx=>h1 x (by simp [hx])) h2.2]
  have e:∀ a∈gv,Eh c a (fj a (b :: r))=(if b.bB=a then Eh c a b.sum else 0)+Eh c a (fj a r):=by
   intro a _;simp only [fj]
   by_cases hb:b.bB=a
   ·rw [if_pos (AR.2 hb),if_pos hb];rw [EB (bs:=r) (fun x hx hxa=>by have:=h2.1 x hx;rw [hb,hxa] at this;exact u9 this)];simp [Eh]
   ·rw [if_neg (fun hh=>hb (AR.1 hh)),if_neg hb];omega
  rw [cB e,iD];congr 1;rw [Bt A9 (x:=b.bB) (qV.2 (h1 b (by simp)))]
  ·simp
  ·intro a ha;rw [if_neg]
   rintro rfl
   rcases ha with h | h<;>exact u9 h
theorem mj (a:aD) (x:aY) (g:List aY):az (dR a (x :: g))=(if x.bB=a then x.cm else 0)+az (dR a g):=by
 simp only [dR,pick,List.flatMap_cons,dX];congr 1
 by_cases h:x.bB=a
 ·rw [if_pos (Jp.2 h),if_pos h];simp [az]
 ·rw [if_neg (fun hh=>h (Jp.1 hh)),if_neg h];rfl
theorem RH (c:Int) (x:aY) (g:List aY):az (rC c (x :: g))=Eh c x.bB x.cm+az (rC c g):=by
 simp only [rC,pick,List.flatMap_cons,dX];congr 1;rw [Xd]
 by_cases h:x.cur=c
 ·rw [if_pos (by simpa using h),if_pos h];simp [az]
 ·rw [if_neg (by simpa using h),if_neg h];rfl
theorem Np (c:Int):∀ {g:List aY},(∀ x∈g,x.bB.right=true)->tot gv (fun a=>Eh c a (az (dR a g)))=az (rC c g)
 | [],_=>gR fun a _=>by simp [dR,pick,Eh,az]
 | x :: r,h1=>by
  rw [RH,<- Np c (fun y hy=>h1 y (by simp [hy]))]
  have e:∀ a∈gv,Eh c a (az (dR a (x :: r)))=(if x.bB=a then Eh c a x.cm else 0)+Eh c a (az (dR a r)):=by
   intro a _;rw [mj]
   by_cases hb:x.bB=a
   ·rw [if_pos hb,if_pos hb];simp only [Eh];split<;>omega
   ·rw [if_neg hb,if_neg hb];simp only [Int.zero_add]
  rw [cB e,iD];congr 1;rw [Bt A9 (x:=x.bB) (qV.2 (h1 x (by simp)))]
  ·simp
  ·intro a ha;rw [if_neg]
   rintro rfl
   rcases ha with h | h<;>exact u9 h
theorem zF {bs:List bC} {c:Int}:j9 bs c=true ↔ right (fB c bs)=true/\az (fB c bs)=0:=by
 simp only [j9,qM,qB,cr,beq_iff_eq];constructor
 ·rintro ⟨h1,h2⟩
  split at h1
  ·rename_i hr;split at h1
   ·rename_i hi;rw [hr,hi] at h2;exact ⟨hr,by simpa using h2⟩
   ·cases h1
  ·cases h1
 ·rintro ⟨hr,hs⟩
  rw [if_pos hr,hs,hr];exact ⟨rfl,rfl⟩
theorem j6 {l:bz}:l.okB=true ↔ 0<=l.last/\((∀ b∈l.bs,kM b=true)/\l.bs.Pairwise (fun x y=>x.bB.less y.bB=true))/\j9 l.bs 0=true/\j9 l.bs 1=true/\j9 l.bs 2=true:=by
 simp only [bz.okB,cr,W9,decide_eq_true_eq,and_assoc]
theorem oa {l:bz} (h:l.okB=true):∀ b∈l.bs,b.bB.right=true:=fun b hb=>by
 have:=(j6.1 h).2.1.1 b hb;simp only [kM,cr] at this;exact this.1
theorem NO {l:bz} {id:Int} {g:List aY} (h:eT l id g=0):l.okB=true/\(1<=id/\id<=1099511627776)/\tA g=0/\AX l g gv=true/\vk l g gv=false:=by
 unfold eT at h;split at h
 case isFalse=>cases h
 rename_i h1;split at h
 case isFalse=>cases h
 rename_i h2;split at h
 ·cases h
 split at h
 case isFalse h3=>exact absurd h h3
 rename_i h3;split at h
 case isFalse=>cases h
 rename_i h4;split at h
 ·cases h
 rename_i h5;simp only [within,cr,decide_eq_true_eq] at h2;exact ⟨h1,h2,h3,h4,by simpa using h5⟩
theorem Nv {l:bz} {id:Int} {g:List aY} (h:eT l id g=0):(gW l id g).okB=true:=by
 unfold gW;rw [if_pos h];obtain ⟨h1,h2,h3,h4,h5⟩:=NO h;obtain ⟨m1,m2,m3⟩:=MW h3
 have hmr:∀ x∈g,x.bB.right=true:=fun x hx=>by
  have:=List.all_eq_true.1 m1 x hx;simp only [PR,cr] at this;exact this.1
 have hb:=j6.1 h1
 have hal:∀ b∈HH l g gv,∃ a∈gv,b=⟨a.kind,a.who,a.cur,nB l g a⟩/\nB l g a≠0:=by
  intro b hb;obtain ⟨a,ha,hb⟩:=List.mem_flatMap.1 hb;unfold qT at hb;split at hb
  ·cases hb
  ·rename_i hne;simp only [List.mem_singleton] at hb;exact ⟨a,ha,hb,by simpa using hne⟩
 have hin:∀ a∈gv,bL (nB l g a)=true:=fun a ha=>List.all_eq_true.1 h4 a ha
 have hcur:∀ c:Int,j9 l.bs c=true->az (rC c g)=0->j9 (HH l g gv) c=true:=by
  intro c hc hg;rw [zF] at hc |-;constructor
  ·refine List.all_eq_true.2 fun n hn=>?_
   simp only [fB,List.mem_map,List.mem_filter] at hn;obtain ⟨b,⟨hb,_⟩,rfl⟩:=hn;obtain ⟨a,ha,rfl,_⟩:=hal b hb;exact hin a ha
  ·have e:=Te c (nB l g) gv;rw [show HH l g gv=gv.flatMap fun a=>qT a (nB l g a) from rfl,e]
   have e2:∀ a∈gv,Eh c a (nB l g a)=Eh c a (fj a l.bs)+Eh c a (az (dR a g)):=fun a _=>by
    simp only [nB,az,Eh];split<;>omega
   rw [cB e2,iD,Vg c (oa h1) hb.2.1.2,Np c hmr,hc.2,hg];rfl
 have hfl:∀ c:Nat,c < 3->az (rC c g)=0:=fun c hc=>by
  have:=List.all_eq_true.1 m2 c (List.mem_range.2 hc);simpa using this
 refine j6.2 ⟨by dsimp only;omega,⟨fun b hb=>?_,?_⟩,hcur 0 hb.2.2.1 (hfl 0 (by omega)),hcur 1 hb.2.2.2.1 (hfl 1 (by omega)),hcur 2 hb.2.2.2.2 (hfl 2 (by omega))⟩
 ·obtain ⟨a,ha,rfl,hne⟩:=hal b hb;rw [show kM ⟨a.kind,a.who,a.cur,nB l g a⟩=(a.right&&(bL (nB l g a)&&(nB l g a != 0&&!decide (nB l g a < a.floor)))) from rfl];simp only [cr,bne_iff_ne,Bool.not_eq_true',decide_eq_false_iff_not];refine ⟨qV.1 ha,hin a ha,hne,fun hlt=>?_⟩;have:vk l g gv=true:=List.any_eq_true.2 ⟨a,ha,by simpa using hlt⟩;rw [h5] at this;cases this
 ·refine JX (f:=fun a=>qT a (nB l g a)) A9 (fun a _=>uD (LC _ _)) fun a b _ _ hab x hx y hy=>?_
  have key:∀ (a:aD) (x:bC),x∈qT a (nB l g a)->x.bB=a:=fun a x hx=>by
   unfold qT at hx;split at hx
   ·cases hx
   ·simp only [List.mem_singleton] at hx;rw [hx];rfl
  rw [key a x hx,key b y hy];exact hab
theorem IE {l:bz} {g:List aY} {e:Int} (h:l.okB=true) (h0:(fG l g e).2=0):(fG l g e).1.okB=true:=by
 unfold fG at h0 |-;split
 ·rename_i hc;rw [if_pos hc] at h0;exact Nv h0
 ·exact h
theorem Jb {a b:aB}:ga a b=true ↔ a.who < b.who\/(a.who=b.who/\a.inst < b.inst):=by
 simp only [ga,Gs,Bool.or_eq_true,cr,decide_eq_true_eq,beq_iff_eq]
theorem U3 {a b c:aB} (h1:ga a b=true) (h2:ga b c=true):ga a c=true:=by
 simp only [ga,Gs,Bool.or_eq_true,cr,decide_eq_true_eq,beq_iff_eq] at h1 h2 |-;omega
theorem N4 {a b c:aL} (h1:eJ a b=true) (h2:eJ b c=true):eJ a c=true:=by
 simp only [eJ,decide_eq_true_eq] at h1 h2 |-;omega
theorem OX {n:Int} {l:List aB}:kY n l=true ↔ right (cu n l)=true/\az (cu n l)=0:=by
 simp only [kY,qM,qB,cr,beq_iff_eq];constructor
 ·rintro ⟨h1,h2⟩
  split at h1
  ·rename_i hr;split at h1
   ·rename_i hi;rw [hr,hi] at h2;exact ⟨hr,by simpa using h2⟩
   ·cases h1
  ·cases h1
 ·rintro ⟨hr,hs⟩
  rw [if_pos hr,hs,hr];exact ⟨rfl,rfl⟩
theorem mE {p:aB}:p.okB=true ↔ (1<=p.who/\p.who<=16)/\(1<=p.inst/\p.inst<=8)/\(-1099511627776<=p.bg/\p.bg<=1099511627776)/\bL p.cost=true /\ ¬ (p.bg=0/\p.cost=0):=by
 simp only [aB.okB,pz,within,cr,decide_eq_true_eq,Bool.not_eq_true',Bool.and_eq_false_iff,beq_eq_false_iff_ne,ne_eq];constructor
 ·rintro ⟨⟨h1,h2⟩,h3,h4,h5⟩;exact ⟨h1,h2,h3,h4,fun h=>by rcases h5 with h5 | h5<;>omega⟩
 ·rintro ⟨h1,h2,h3,h4,h5⟩;refine ⟨⟨h1,h2⟩,h3,h4,?_⟩;omega
structure aF.right (b:aF):Prop where
 ok:∀ p∈b.qs,p.okB=true
 pw:b.qs.Pairwise (fun x y=>ga x y=true)
 level:∀ n:Int,1<=n->n<=8->az (cu n b.qs)=0
 tok:∀ t∈b.ts,eW b.next t=true
 tpw:b.ts.Pairwise (fun x y=>x.no < y.no)
 tl:b.ts.length<=128
 n0:0<=b.next
 n1:b.next<=1099511627776
theorem eM {b:aF}:b.okB=true ↔ b.right:=by
 simp only [aF.okB,cr,pW (lt:=ga) U3,pW (lt:=eJ) N4,Bool.not_eq_true',decide_eq_false_iff_not,mK,List.all_eq_true,OX];constructor
 ·rintro ⟨⟨h1,h2⟩,⟨h3,h4⟩,h5,h6,h7,h8⟩
  refine ⟨h1,h2,fun n hn hn2=>?_,h3,h4.imp fun h=>by simpa [eJ] using h,by omega,by omega,by omega⟩;have:=(h5 (n-1).toNat (List.mem_range.2 (by omega))).2
  rwa [show (((n-1).toNat:Nat):Int)+1=n by omega] at this
 ·intro h;refine ⟨⟨h.ok,h.pw⟩,⟨h.tok,h.tpw.imp fun h=>by simpa [eJ] using h⟩,fun i hi=>⟨?_,h.level _ (by omega) (by have:=List.mem_range.1 hi;omega)⟩,by have:=h.tl;omega,by have:=h.n0;omega,by have:=h.n1;omega⟩;refine List.all_eq_true.2 fun q hq=>?_
  simp only [cu,List.mem_map,List.mem_filter] at hq;obtain ⟨p,⟨hp,_⟩,rfl⟩:=hq;have:=(mE.1 (h.ok p hp)).2.2.1;rw [cg];omega
theorem IC (n:Int) (a b:List aB):cu n (a++b)=cu n a++cu n b:=by simp [cu]
theorem mh (n:Int) (p:aB) (r:List aB):az (cu n (p :: r))=(if p.inst=n then p.bg else 0)+az (cu n r):=by
 simp only [cu,List.filter_cons]
 by_cases h:p.inst=n
 ·rw [if_pos (by simpa using h),if_pos h];rfl
 ·rw [if_neg (by simpa using h),if_neg h];simp
theorem ya {A:Type} (n:Int) (f:A->List aB) (L:List A):az (cu n (L.flatMap f))=tot L (fun a=>az (cu n (f a))):=by
 induction L with
 | nil=>rfl
 | cons x r ih=>rw [List.flatMap_cons,IC,dX,ih];rfl
theorem SH (b:aF) (g:List aB) (w m n:Int):az (cu n (HC b g w m))=if m=n then IZ b g w m else 0:=by
 unfold HC;split
 ·rename_i h;simp only [cr,beq_iff_eq] at h;rw [h.1];split<;>rfl
 ·rw [mh];simp [cu,az]
theorem EU (n:Nat):(List.range n).Pairwise (fun a b=>a < b):=List.pairwise_lt_range
theorem Rj (b:aF) (g:List aB) (w n:Int) (h1:1<=n) (h8:n<=8):az (cu n (NY b g w 8))=IZ b g w n:=by
 unfold NY;rw [ya]
 have e:∀ k∈List.range 8,az (cu n (HC b g w ((k:Int)+1)))=if (k:Int)+1=n then IZ b g w n else 0:=fun k _=>by
  rw [SH];split
  ·rename_i h;rw [h]
  ·rfl
 rw [cB e,Bt (EU 8) (x:=(n-1).toNat) (List.mem_range.2 (by omega))]
 ·rw [if_pos (by omega)]
 ·intro a ha;rw [if_neg (by omega)]
theorem RC (b:aF) (g:List aB) (n:Int) (h1:1<=n) (h8:n<=8):az (cu n (zu b g 16))=tot (List.range 16) (fun k=>IZ b g ((k:Int)+1) n):=by
 unfold zu;rw [ya];exact cB fun k _=>Rj b g _ n h1 h8
theorem eP {w n:Int} {p:aB}:dU w n p=true ↔ p.who=w/\p.inst=n:=by simp only [dU,cr,beq_iff_eq]
theorem mH {w n:Int}:∀ {qs:List aB},(∀ p∈qs,¬ (p.who=w/\p.inst=n))->posOf w n qs=⟨w,n,0,0⟩
 | [],_=>rfl
 | p :: r,h=>by
  simp only [posOf];rw [if_neg (by simp only [dU,cr,beq_iff_eq];exact h p (by simp))];exact mH fun x hx=>h x (by simp [hx])
theorem FY {w n:Int} {qs:List aB} (hp:qs.Pairwise (fun x y=>ga x y=true)) {p:aB} (hm:p∈qs) (hk:p.who=w/\p.inst=n):posOf w n qs=p:=by
 induction qs with
 | nil=>cases hm
 | cons y r ih =>
  rw [List.pairwise_cons] at hp;simp only [posOf];rcases List.mem_cons.1 hm with rfl | hm
  ·rw [if_pos (by simp only [dU,cr,beq_iff_eq];exact hk)]
  ·have:=hp.1 p hm;rw [if_neg]
   ·exact ih hp.2 hm
   ·simp only [ga,Gs,Bool.or_eq_true,cr,decide_eq_true_eq,beq_iff_eq] at this;simp only [dU,cr,beq_iff_eq];omega
theorem Ud {w v:Int} (h:1<=w/\w<=16):tot (List.range 16) (fun k=>if w=(k:Int)+1 then v else 0)=v:=by
 rw [Bt (EU 16) (x:=(w-1).toNat) (List.mem_range.2 (by omega))]
 ·rw [if_pos (by omega)]
 ·intro a ha;rw [if_neg (by omega)]
theorem Uh (n:Int):∀ {qs:List aB},(∀ p∈qs,1<=p.who/\p.who<=16)->qs.Pairwise (fun x y=>ga x y=true)->tot (List.range 16) (fun k=>(posOf ((k:Int)+1) n qs).bg)=az (cu n qs)
 | [],_,_=>gR fun a _=>rfl
 | p :: r,h1,h2=>by
  rw [List.pairwise_cons] at h2;rw [mh,<- Uh n (fun x hx=>h1 x (by simp [hx])) h2.2]
  have e:∀ k∈List.range 16,(posOf ((k:Int)+1) n (p :: r)).bg=(if p.who=(k:Int)+1 then (if p.inst=n then p.bg else 0) else 0)+(posOf ((k:Int)+1) n r).bg:=by
   intro k _;simp only [posOf]
   by_cases hw:p.who=(k:Int)+1
   ·rw [if_pos hw]
    by_cases hn:p.inst=n
    ·rw [if_pos hn,if_pos (eP.2 ⟨hw,hn⟩)];rw [mH (qs:=r)]
     ·simp
     ·intro x hx hk;have:=h2.1 x hx;simp only [ga,Gs,Bool.or_eq_true,cr,decide_eq_true_eq,beq_iff_eq] at this;omega
    ·rw [if_neg hn,if_neg (fun h=>hn (eP.1 h).2)];omega
   ·rw [if_neg hw,if_neg (fun h=>hw (eP.1 h).1)];omega
  rw [cB e,iD,Ud (h1 p (by simp))]
theorem n6 {A:Type} (q:A->Bool) (f:A->Int) (x:A) (r:List A):az (pick q f (x :: r))=(if q x=true then f x else 0)+az (pick q f r):=by
 simp only [pick,List.flatMap_cons,dX];congr 1;split
 ·simp [az]
 ·rfl
theorem Lq (n:Int) (f:aB->Int):∀ {g:List aB},(∀ p∈g,1<=p.who/\p.who<=16)->tot (List.range 16) (fun k=>az (pick (dU ((k:Int)+1) n) f g))=az (pick (fun p=>p.inst==n) f g)
 | [],_=>gR fun a _=>rfl
 | p :: r,h1=>by
  rw [n6,<- Lq n f (fun x hx=>h1 x (by simp [hx]))]
  have e:∀ k∈List.range 16,az (pick (dU ((k:Int)+1) n) f (p :: r))=(if p.who=(k:Int)+1 then (if (p.inst==n)=true then f p else 0) else 0)+az (pick (dU ((k:Int)+1) n) f r):=by
   intro k _;rw [n6];congr 1
   by_cases hw:p.who=(k:Int)+1
   ·rw [if_pos hw]
    by_cases hn:p.inst=n
    ·rw [if_pos (eP.2 ⟨hw,hn⟩),if_pos (by simpa using hn)]
    ·rw [if_neg (fun h=>hn (eP.1 h).2),if_neg (by simpa using hn)]
   ·rw [if_neg hw,if_neg (fun h=>hw (eP.1 h).1)]
  rw [cB e,iD,Ud (h1 p (by simp))]
theorem Qk {p:aB} (h:rB p=true):(1<=p.who/\p.who<=16)/\(1<=p.inst/\p.inst<=8):=by
 simp only [rB,pz,within,cr,decide_eq_true_eq] at h;exact h.1
theorem rY {b:aF} {g:List aB} {w n:Int} {p:aB} (h:p∈HC b g w n):p=⟨w,n,IZ b g w n,TT b g w n⟩ /\ ¬ (IZ b g w n=0/\TT b g w n=0):=by
 unfold HC at h;split at h
 ·cases h
 ·rename_i hne;simp only [cr,beq_iff_eq] at hne;exact ⟨List.mem_singleton.1 h,hne⟩
theorem Xh {b:aF} {g:List aB} {p:aB} (h:p∈zu b g 16):(∃ q∈b.qs,q.who=p.who/\q.inst=p.inst)\/(∃ q∈g,q.who=p.who/\q.inst=p.inst):=by
 obtain ⟨k,m,_,_,hp⟩:=zB h;obtain ⟨rfl,hne⟩:=rY hp;dsimp only
 by_cases h1:∃ q∈b.qs,q.who=(k:Int)+1/\q.inst=(m:Int)+1
 ·exact .inl h1
 by_cases h2:∃ q∈g,q.who=(k:Int)+1/\q.inst=(m:Int)+1
 ·exact .inr h2
 exfalso;have e1:=mH (w:=(k:Int)+1) (n:=(m:Int)+1) (qs:=b.qs) fun p hp hk=>h1 ⟨p,hp,hk⟩
 have e2:∀ f:aB->Int,pick (dU ((k:Int)+1) ((m:Int)+1)) f g=[]:=fun f=>by
  unfold pick;rw [List.flatMap_eq_nil_iff];intro x hx;rw [if_neg];simp only [dU,cr,beq_iff_eq];exact fun hk=>h2 ⟨x,hx,hk⟩
 apply hne;unfold IZ TT;rw [e1,e2,e2];exact ⟨rfl,rfl⟩
theorem Kb (b:aF) (g:List aB):(zu b g 16).Pairwise (fun x y=>ga x y=true):=by
 rw [show zu b g 16=pq (fun k=>NY b g ((k:Int)+1) 8) 16 from rfl];refine rX (fun k _=>?_) fun i j hij _ x hx y hy=>?_
 ·rw [show NY b g ((k:Int)+1) 8=pq (fun m=>HC b g ((k:Int)+1) ((m:Int)+1)) 8 from rfl];refine rX (fun m _=>uD (by unfold HC;split<;>simp)) fun i j hij _ x hx y hy=>?_
  rw [(rY hx).1,(rY hy).1];rw [Jb];dsimp only;omega
 ·obtain ⟨m,_,hx⟩:=List.mem_flatMap.1 hx;obtain ⟨m2,_,hy⟩:=List.mem_flatMap.1 hy;rw [(rY hx).1,(rY hy).1];rw [Jb];dsimp only;omega
theorem CB {b:aF} {g:List aB} (h:jH b g=0):(∀ p∈zu b g 16,p.okB=true)/\∀ n:Int,1<=n->n<=8->az (cu n (zu b g 16))=0:=by
 obtain ⟨h1,h2,h3⟩:=vR h;have hb:=eM.1 (kZ h).1;refine ⟨fun p hp=>?_,fun n hn1 hn8=>?_⟩
 ·obtain ⟨k,m,hk,hm,hp⟩:=zB hp;have hok:=EW h3 hk hm;obtain ⟨rfl,hne⟩:=rY hp;simp only [Fe,within,cr,decide_eq_true_eq] at hok;rw [mE];dsimp only;exact ⟨by omega,by omega,hok.2.2,hok.2.1,hne⟩
 ·rw [RC _ _ _ hn1 hn8];have e:∀ k∈List.range 16,IZ b g ((k:Int)+1) n=(posOf ((k:Int)+1) n b.qs).bg+az (pick (dU ((k:Int)+1) n) aB.bg g):=fun k _=>rfl
  rw [cB e,iD,Uh n (fun p hp=>(mE.1 (hb.ok p hp)).1) hb.pw,Lq n aB.bg (fun p hp=>(Qk (List.all_eq_true.1 h1 p hp)).1),hb.level n hn1 hn8];have:=List.all_eq_true.1 h2 (n-1).toNat (List.mem_range.2 (by omega));rw [show (((n-1).toNat:Nat):Int)+1=n by omega] at this;simpa using this
theorem WG {b:aF} {g:List aB} (h:jH b g=0):(tB b g).okB=true:=by
 have hb:=eM.1 (kZ h).1;rw [(kZ h).2];obtain ⟨q1,q2⟩:=CB h;exact eM.2 ⟨q1,Kb b g,q2,hb.tok,hb.tpw,hb.tl,hb.n0,hb.n1⟩
theorem I3 {b:aF} {t:aL} (h:fW b t=0):b.okB=true/\t.okB=true/\b.ts.length < 128/\b.next≠1099511627776/\jH b (gz t false)=0:=by
 unfold fW at h;split at h
 case isFalse=>cases h
 rename_i h1;split at h
 case isFalse=>cases h
 rename_i h2;split at h
 ·cases h
 rename_i h3;split at h
 ·cases h
 rename_i h4;exact ⟨h1,h2,by omega,h4,h⟩
theorem Ih {b:aF} {t:aL} (h:fW b t=0):(ia b t).okB=true:=by
 obtain ⟨h1,h2,h3,h4,h5⟩:=I3 h;have hb:=eM.1 h1;obtain ⟨q1,q2⟩:=CB h5;have n0:=hb.n0;have n1:=hb.n1
 have hno:∀ x∈b.ts,(1<=x.no/\x.no<=b.next)/\x.okB=true:=fun x hx=>by
  have:=hb.tok x hx;simp only [eW,cr,Bool.not_eq_true',decide_eq_false_iff_not] at this;exact ⟨by omega,this.1⟩
 unfold ia;rw [if_pos h];refine eM.2 ⟨q1,Kb _ _,q2,fun x hx=>?_,?_,by dsimp only;simp;omega,by dsimp only;omega,by dsimp only;omega⟩
 ·simp only [eW,cr,Bool.not_eq_true',decide_eq_false_iff_not];rcases List.mem_append.1 hx with hx | hx
  ·have:=hno x hx;exact ⟨this.2,by omega,by omega⟩
  ·obtain rfl:=List.mem_singleton.1 hx;exact ⟨h2,by dsimp only;omega,by dsimp only;omega⟩
 ·dsimp only;rw [List.pairwise_append];refine ⟨hb.tpw,by simp,fun x hx y hy=>?_⟩;obtain rfl:=List.mem_singleton.1 hy;have:=hno x hx;dsimp only;omega
theorem FO {b:aF} {n:Int} (h:¬ gQ n b.ts < 0):cy n b.ts∈b.ts/\(gQ n b.ts).toNat < b.ts.length/\b.ts[(gQ n b.ts).toNat]?=some (cy n b.ts):=by
 obtain ⟨i,hi,he,_⟩:=vu h;unfold cy;rw [he,Int.toNat_natCast,List.getD_eq_getElem?_getD,List.getElem?_eq_getElem hi];exact ⟨List.getElem_mem hi,hi,rfl⟩
theorem Ow {b:aF} {n:Int} (h:eK b n=0):(dO b n).okB=true:=by
 obtain ⟨h1,h2,h3⟩:=oY h;have hb:=eM.1 h1;obtain ⟨q1,q2⟩:=CB h3;obtain ⟨m1,m2,m3⟩:=FO h2;unfold dO;rw [if_pos h];refine eM.2 ⟨q1,Kb _ _,q2,fun x hx=>?_,?_,by dsimp only;simp only [Rp,List.length_set];exact hb.tl,hb.n0,hb.n1⟩
 ·rcases List.mem_or_eq_of_mem_set hx with hx | rfl
  ·exact hb.tok x hx
  ·exact (show eW b.next (cy n b.ts)=true from hb.tok _ m1)
 ·refine LJ (no:=aL.no) ?_ hb.tpw;dsimp only;unfold Rp;rw [List.map_set];refine List.ext_getElem? fun j=>?_
  rw [List.getElem?_set];split
  ·rename_i hj;subst hj;rw [List.getElem?_map,m3];simp [m2]
  ·rfl
theorem vq {b:aF} {n q p:Int} (h:rL b n q p=0):eK b n=0/\fW (dO b n) { cy n b.ts with bg:=q,aX:=p }=0:=by
 unfold rL at h;split at h
 ·exact ⟨by assumption,h⟩
 ·rename_i hc;exact absurd h hc
theorem Nt {b:aF} {n q p:Int} (h:rL b n q p=0):(oH b n q p).okB=true:=by
 obtain ⟨h1,h2⟩:=vq h;unfold oH;rw [if_pos h1];exact Ih h2
theorem LF {r:aq}:∀ {l:List aB},oo r l=0->∀ p∈l,EM r p=0
 | [],_,_,h=>by cases h
 | q :: t,h,p,hp=>by
  simp only [oo] at h;split at h
  ·rcases List.mem_cons.1 hp with rfl | hp
   ·assumption
   ·exact LF h p hp
  ·rename_i hne;exact absurd h hne
theorem Qu {r:aq} {b:aF} (h:wO r b=0):r.okB=true/\b.okB=true/\∀ p∈b.qs,EM r p=0:=by
 unfold wO at h;split at h
 ·rename_i hb;rw [cr] at hb;exact ⟨hb.1,hb.2,LF h⟩
 ·cases h
theorem FQ {r:aq} {p:aB} (h:EM r p=0):br r p.inst=true/\bL (gZ p (bf r p.inst).mult (ef (bf r p.inst)))=true/\bL (p.bg*ef (bf r p.inst))=true:=by
 unfold EM at h;split at h
 case isFalse=>cases h
 rename_i h1;split at h
 ·cases h
 split at h
 case isFalse=>cases h
 rename_i h2;rw [cr] at h2;exact ⟨h1,h2⟩
theorem vO {r:aq} {p x:aB} (h:x∈nJ r p):x=⟨p.who,p.inst,p.bg,p.bg*ef (bf r p.inst)⟩ /\ ¬ (p.bg=0/\p.bg*ef (bf r p.inst)=0):=by
 unfold nJ at h;split at h
 ·cases h
 ·rename_i hne;simp only [cr,beq_iff_eq] at hne;exact ⟨List.mem_singleton.1 h,hne⟩
theorem Wm {r:aq} {b:aF} (h:wO r b=0):(y6 r b).okB=true:=by
 obtain ⟨_,h2,h3⟩:=Qu h;have hb:=eM.1 h2;unfold y6;rw [if_pos h];refine eM.2 ⟨fun x hx=>?_,?_,fun n hn1 hn8=>?_,hb.tok,hb.tpw,hb.tl,hb.n0,hb.n1⟩
 ·obtain ⟨p,hp,hx⟩:=List.mem_flatMap.1 hx;obtain ⟨rfl,hne⟩:=vO hx;have:=mE.1 (hb.ok p hp);rw [mE];exact ⟨this.1,this.2.1,this.2.2.1,(FQ (h3 p hp)).2.2,hne⟩
 ·refine JX (f:=nJ r) hb.pw (fun p _=>uD (by unfold nJ;split<;>simp)) fun p q _ _ hpq x hx y hy=>?_
  rw [(vO hx).1,(vO hy).1];exact hpq
 ·dsimp only;rw [ya,<- hb.level n hn1 hn8]
  have e:∀ l:List aB,tot l (fun p=>az (cu n (nJ r p)))=az (cu n l):=fun l=>by
   induction l with
   | nil=>rfl
   | cons p t ih =>
    rw [gx,ih,mh];congr 1;unfold nJ;split
    ·rename_i hz;simp only [cr,beq_iff_eq] at hz;rw [hz.1];split<;>rfl
    ·rw [mh];simp [cu,az]
  exact e b.qs
theorem St {a b c:aA} (h1:bQ a b=true) (h2:bQ b c=true):bQ a c=true:=by
 simp only [bQ,Bool.or_eq_true,cr,decide_eq_true_eq,beq_iff_eq] at h1 h2 |-;omega
theorem qN {a b c:ck} (h1:dI a b=true) (h2:dI b c=true):dI a c=true:=by
 simp only [dI,decide_eq_true_eq] at h1 h2 |-;omega
theorem n8 {xs:List aA}:mO bV bQ xs=true ↔ (∀ x∈xs,bV x=true)/\xs.Pairwise (fun a b=>bQ a b=true):=pW (lt:=bQ) St
theorem vD {x:aA}:bV x=true ↔ (1<=x.who/\x.who<=16)/\(0<=x.cur/\x.cur<=2)/\(1<=x.cm/\x.cm<=4611686018427387904)/\0<=x.till/\x.till<=1099511627776:=by
 simp only [bV,within,cr,decide_eq_true_eq];omega
theorem TH {x:aQ}:Bu x=true ↔ (1<=x.who/\x.who<=16)/\(0<=x.cur/\x.cur<=2)/\0<=x.cm/\x.cm<=4611686018427387904:=by
 simp only [Bu,within,cr,decide_eq_true_eq];omega
theorem sx {w c:Int} {xs:List aA} (h:¬ dc w c xs < 0):mm w c xs∈xs/\(mm w c xs).who=w/\(mm w c xs).cur=c:=by
 obtain ⟨i,hi,he,hc⟩:=ou h;unfold mm;rw [he,Int.toNat_natCast,List.getD_eq_getElem?_getD,List.getElem?_eq_getElem hi];simp only [mB,cr,beq_iff_eq] at hc;exact ⟨List.getElem_mem hi,hc⟩
theorem tQ {xs:List aA} {x y:aA} {w c:Int} (h:y∈Kp xs x w c):(y.who=w/\y.cur=c)/\((y=x/\0 < x.cm)\/y∈xs):=by
 unfold Kp at h;split at h
 ·rename_i hk;simp only [cr,beq_iff_eq] at hk;split at h
  ·rename_i ha;obtain rfl:=List.mem_singleton.1 h;exact ⟨hk,.inl ⟨rfl,ha⟩⟩
  ·cases h
 ·split at h
  ·cases h
  ·rename_i hc;obtain rfl:=List.mem_singleton.1 h;have:=sx hc;exact ⟨this.2,.inr this.1⟩
theorem EC {xs:List aA} {x y:aA} (h:y∈B8 xs x 16):(y=x/\0 < x.cm)\/y∈xs:=by
 obtain ⟨k,_,h⟩:=jv.1 h;obtain ⟨c,_,h⟩:=jv.1 h;exact (tQ h).2
theorem Qm {xs:List aA} {x:aA} (h:mO bV bQ xs=true) (hx:0 < x.cm->bV x=true):mO bV bQ (B8 xs x 16)=true:=by
 rw [n8] at h |-;refine ⟨fun y hy=>?_,?_⟩
 ·rcases EC hy with ⟨rfl,ha⟩ | hy
  ·exact hx ha
  ·exact h.1 y hy
 ·unfold B8;refine rX (fun k _=>?_) fun i j hij _ a ha b hb=>?_
  ·unfold BW;refine rX (fun c _=>uD (LL _ _ _ _)) fun i j hij _ a ha b hb=>?_
   have h1:=(tQ ha).1;have h2:=(tQ hb).1;simp only [bQ,Bool.or_eq_true,cr,decide_eq_true_eq,beq_iff_eq];omega
  ·obtain ⟨_,_,ha⟩:=jv.1 ha;obtain ⟨_,_,hb⟩:=jv.1 hb;have h1:=(tQ ha).1;have h2:=(tQ hb).1;simp only [bQ,Bool.or_eq_true,cr,decide_eq_true_eq,beq_iff_eq];omega
theorem WU {xs:List aA} {d:aQ} {t:Int} (h:mO bV bQ xs=true):mO bV bQ (DM xs d t)=true/\∀ y∈DM xs d t,y.who=d.who\/y∈xs:=by
 unfold DM;split
 case isFalse=>exact ⟨rfl,fun y hy=>by cases hy⟩
 rename_i he;unfold FV at he;rw [if_pos h] at he;split at he
 case isFalse=>cases he
 rename_i hd;rw [cr] at hd;obtain ⟨hd,ht⟩:=hd;rw [TH] at hd;simp only [within,cr,decide_eq_true_eq] at ht;refine ⟨Qm h fun ha=>?_,fun y hy=>?_⟩
 ·dsimp only at ha;rw [vD];dsimp only;refine ⟨hd.1,hd.2.1,by omega,?_⟩;split
  ·exact ht
  ·rename_i hc;exact (vD.1 ((n8.1 h).1 _ (sx hc).1)).2.2.2
 ·rcases EC hy with ⟨rfl,_⟩ | hy
  ·exact .inl rfl
  ·exact .inr hy
theorem T0 {xs:List aA} {d:aQ} (h:mO bV bQ xs=true):mO bV bQ (sX xs d)=true/\∀ y∈sX xs d,∃ x∈xs,y.who=x.who:=by
 unfold sX;split
 case isFalse=>exact ⟨rfl,fun y hy=>by cases hy⟩
 rename_i he;unfold qS at he;rw [if_pos h] at he;split at he
 case isFalse=>cases he
 rename_i hd;rw [TH] at hd;refine ⟨Qm h fun ha=>?_,fun y hy=>?_⟩
 ·unfold Nf at ha |-;split at ha
  ·dsimp only at ha;omega
  ·rename_i hc;rw [if_neg hc];have hx:=vD.1 ((n8.1 h).1 _ (sx hc).1);dsimp only at ha;rw [vD];dsimp only;exact ⟨hx.1,hx.2.1,by omega,hx.2.2.2⟩
 ·rcases EC hy with ⟨rfl,ha⟩ | hy
  ·unfold Nf at ha |-;split at ha
   ·dsimp only at ha;omega
   ·rename_i hc;rw [if_neg hc];exact ⟨_,(sx hc).1,rfl⟩
  ·exact ⟨y,hy,rfl⟩
theorem sC {xs:List aA} {ws:List Int} {y:aA}:y∈eL xs ws ↔ y∈xs/\lR ws y.who=false:=by
 unfold eL;rw [List.mem_flatMap];constructor
 ·rintro ⟨x,hx,h⟩
  split at h
  ·cases h
  ·rename_i hn;obtain rfl:=List.mem_singleton.1 h;exact ⟨hx,by simpa using hn⟩
 ·rintro ⟨h1,h2⟩
  exact ⟨y,h1,by rw [h2];simp⟩
theorem O8 {A:Type} {R:A->A->Prop} {q:A->Bool} {xs:List A} (h:xs.Pairwise R):(xs.flatMap fun x=>if q x=true then [] else [x]).Pairwise R:=by
 refine JX h (fun a _=>uD (by split<;>simp)) fun a b _ _ hab x hx y hy=>?_
 split at hx
 ·cases hx
 split at hy
 ·cases hy
 obtain rfl:=List.mem_singleton.1 hx;obtain rfl:=List.mem_singleton.1 hy;exact hab
theorem Di {xs:List aA} {ws:List Int} (h:mO bV bQ xs=true):mO bV bQ (eL xs ws)=true:=by
 rw [n8] at h |-;exact ⟨fun y hy=>h.1 y (sC.1 hy).1,O8 h.2⟩
structure iZ (r:aq) (qs:List aB) (ts:List aL) (ps:List dS) (cs:List aA):Prop where
 qs:∀ p∈qs,(bJ r p.who=1\/bJ r p.who=2)/\br r p.inst=true
 ts:∀ t∈ts,bJ r t.gp≠0/\bJ r t.eC≠0/\br r t.inst=true
 ps:∀ p∈ps,(bJ r p.who=1\/bJ r p.who=2)/\jN r p.bG=true
 cs:∀ c∈cs,bJ r c.who=1
structure af.right (s:af):Prop where
 NZ:(0<=s.now/\s.now<=1099511627776)/\(0<=s.day/\s.day<=1099511627776)/\0<=s.phase/\s.phase<=2
 aj:s.aj.okB=true
 book:s.book.okB=true
 aW:s.aW.okB=true
 ps:gj s.ps=true
 calls:mO bV bQ s.calls=true
 known:iZ s.aj s.book.qs s.book.ts s.ps s.calls
 bl:s.bp.length<=32
 bp:∀ b∈s.bp,kX b=true
 aN:mO fA dI s.aN=true
theorem iN {s:af}:bD s=true ↔ s.right:=by
 simp only [bD,qH,l7,FM,wF,vi,pY,xk,within,cr,Bool.or_eq_true,Bool.not_eq_true',decide_eq_true_eq,decide_eq_false_iff_not,beq_iff_eq,beq_eq_false_iff_ne,List.all_eq_true,ne_eq];constructor
 ·rintro ⟨h0,h1,h2,h3,h4,h5,⟨k1,k2,k3,k4⟩,h7,h8,h9⟩
  exact ⟨by omega,h1,h2,h3,h4,h5,⟨k1,k2,k3,k4⟩,by omega,h8,h9⟩
 ·intro h;have:=h.bl;have:=h.NZ;exact ⟨by omega,h.aj,h.book,h.aW,h.ps,h.calls,⟨h.known.qs,h.known.ts,h.known.ps,h.known.cs⟩,by omega,h.bp,h.aN⟩
theorem iZ.ext {r r':aq} {qs ts ps cs} (h:iZ r qs ts ps cs) (e:r.ext r'):iZ r' qs ts ps cs:=by
 have ho:∀ w,(bJ r w=1\/bJ r w=2)->bJ r' w=1\/bJ r' w=2:=fun w hw=>by
  rw [e.st w (by omega)];exact hw
 refine ⟨fun p hp=>⟨ho _ (h.qs p hp).1,e.inst _ (h.qs p hp).2⟩,fun t ht=>?_,fun p hp=>⟨ho _ (h.ps p hp).1,e.ast _ (h.ps p hp).2⟩,fun c hc=>?_⟩
 ·have:=h.ts t ht;rw [e.st _ this.1,e.st _ this.2.1];exact ⟨this.1,this.2.1,e.inst _ this.2.2⟩
 ·have:=h.cs c hc;rw [e.st _ (by omega)];exact this
theorem sF {s:af} (h:s.right) {r':aq} (h1:r'.okB=true/\s.aj.ext r'):({ s with aj:=r' }:af).right:=
 ⟨h.NZ,h1.1,h.book,h.aW,h.ps,h.calls,h.known.ext h1.2,h.bl,h.bp,h.aN⟩
theorem Sj {s:af} (h:s.right) {l:bz} (h1:l.okB=true):({ s with aW:=l }:af).right:=
 ⟨h.NZ,h.aj,h.book,h1,h.ps,h.calls,h.known,h.bl,h.bp,h.aN⟩
theorem LZ {s:af} (h:s.right) {cs:List aA} (h1:mO bV bQ cs=true) (h2:∀ c∈cs,bJ s.aj c.who=1):({ s with calls:=cs }:af).right:=
 ⟨h.NZ,h.aj,h.book,h.aW,h.ps,h1,⟨h.known.qs,h.known.ts,h.known.ps,h2⟩,h.bl,h.bp,h.aN⟩
theorem n7 {s:af} (h:s.right) (g:List aY):(lE s g).right:=by
 unfold lE;split
 ·rename_i he;exact Sj h (Nv he)
 ·exact h
theorem G2 {s:af} (h:s.right) (d:aQ):({ s with calls:=sX s.calls d }:af).right:=by
 obtain ⟨h1,h2⟩:=T0 (d:=d) h.calls;refine LZ h h1 fun c hc=>?_
 obtain ⟨x,hx,he⟩:=h2 c hc;rw [he];exact h.known.cs x hx
theorem SL {s:af} (h:s.right) (c:aZ):(oZ s c).1.right:=by
 unfold oZ;split
 case isFalse=>exact h
 split
 case isFalse=>exact h
 split
 ·exact n7 h _
 split
 ·split
  ·exact G2 (n7 h _) _
  ·exact n7 h _
 ·exact n7 h _
theorem TS {r:aq} {w:Int} (h:FX r w=0):bJ r w=1:=by
 unfold FX at h;split at h
 ·split at h
  ·assumption
  ·cases h
 ·cases h
theorem KM {s:af} (h:s.right) (c:aZ) (n:Int):(kI s c n).1.right:=by
 unfold kI;split
 case isFalse=>exact h
 split
 case isFalse=>exact h
 rename_i hm;rw [cr] at hm;split
 case isFalse=>exact h
 rename_i hs;split
 case isFalse=>exact h
 rename_i he;have hg:=zV he
 have key:({ s with ps:=dh s.ps c.who c.no n }:af).right:=by
  refine ⟨h.NZ,h.aj,h.book,h.aW,gY.2 hg,h.calls,⟨h.known.qs,h.known.ts,fun p hp=>?_,h.known.cs⟩,h.bl,h.bp,h.aN⟩;dsimp only at hp |-;unfold dh at hp;rw [if_pos he] at hp;rcases D9 hp with hp | ⟨rfl,_⟩
  ·exact h.known.ps p hp
  ·exact ⟨.inl hs,hm.2⟩
 split
 ·exact key
 split
 ·exact G2 key _
 ·exact key
theorem JA {t:aL} {b:Bool} {p:aB} (h:p∈gz t b):(p.who=t.gp\/p.who=t.eC)/\p.inst=t.inst:=by
 unfold gz at h;split at h
 ·simp only [List.mem_cons,List.not_mem_nil,or_false] at h;rcases h with rfl | rfl<;>simp
 ·cases h
theorem B0 {r:aq} {b:aF} {g:List aB} {ts ps cs} (h:iZ r b.qs ts ps cs) (hg:∀ p∈g,(bJ r p.who=1\/bJ r p.who=2)/\br r p.inst=true):iZ r (zu b g 16) ts ps cs:=by
 refine ⟨fun p hp=>?_,h.ts,h.ps,h.cs⟩;rcases Xh hp with ⟨q,hq,e1,e2⟩ | ⟨q,hq,e1,e2⟩
 ·rw [<- e1,<- e2];exact h.qs q hq
 ·rw [<- e1,<- e2];exact hg q hq
theorem yU {s:af} (h:s.right) {b:aF} (h1:b.okB=true) (h2:iZ s.aj b.qs b.ts s.ps s.calls):({ s with book:=b }:af).right:=
 ⟨h.NZ,h.aj,h1,h.aW,h.ps,h.calls,h2,h.bl,h.bp,h.aN⟩
theorem Ry {r:aq} {t:aL} (h:yw r t=0):bJ r t.gp=1/\bJ r t.eC=1/\br r t.inst=true:=by
 unfold yw at h;split at h
 case isFalse=>cases h
 split at h
 case isFalse=>cases h
 split at h
 case isFalse=>cases h
 rename_i h1;split at h
 ·cases h
 split at h
 case isFalse=>cases h
 rename_i h2;simp only [cr,beq_iff_eq] at h1 h2;exact ⟨h2.1,h2.2,h1.1⟩
theorem Dh {s:af} {b:aF} {t:aL} {ps cs} (he:fW b t=0) (hk:iZ s.aj b.qs b.ts ps cs) (h1:bJ s.aj t.gp=1) (h2:bJ s.aj t.eC=1) (h3:br s.aj t.inst=true):iZ s.aj (ia b t).qs (ia b t).ts ps cs:=by
 unfold ia;rw [if_pos he]
 have hq:=B0 (g:=gz t false) hk fun p hp=>by
  have:=JA hp;rw [this.2];exact ⟨by rcases this.1 with e | e<;>rw [e]<;>simp [h1,h2],h3⟩
 refine ⟨hq.qs,fun x hx=>?_,hk.ps,hk.cs⟩;rcases List.mem_append.1 hx with hx | hx
 ·exact hk.ts x hx
 ·obtain rfl:=List.mem_singleton.1 hx;exact ⟨by dsimp only;omega,by dsimp only;omega,h3⟩
theorem Af {s:af} {b:aF} {n:Int} {ps cs} (he:eK b n=0) (hk:iZ s.aj b.qs b.ts ps cs) (h1:bJ s.aj (cy n b.ts).gp=1) (h2:bJ s.aj (cy n b.ts).eC=1):iZ s.aj (dO b n).qs (dO b n).ts ps cs:=by
 have hm:=(FO (oY he).2.1).1;have h3:=(hk.ts _ hm).2.2;unfold dO;rw [if_pos he]
 have hq:=B0 (g:=gz (cy n b.ts) true) hk fun p hp=>by
  have:=JA hp;rw [this.2];exact ⟨by rcases this.1 with e | e<;>rw [e]<;>simp [h1,h2],h3⟩
 refine ⟨hq.qs,fun x hx=>?_,hk.ps,hk.cs⟩;rcases List.mem_or_eq_of_mem_set hx with hx | rfl
 ·exact hk.ts x hx
 ·have:=hk.ts _ hm;exact ⟨this.1,this.2.1,this.2.2⟩
theorem Ng {s:af} (h:s.right) (c:aZ) (he:(jr s c).2.2=0):(jr s c).1.right:=by
 unfold jr at he |-;split
 ·rename_i hk;rw [if_pos hk] at he;split
  ·rename_i ht;rw [if_pos ht] at he;obtain ⟨t1,t2,t3⟩:=Ry ht;exact yU h (Ih he) (Dh (s:=s) he h.known t1 t2 t3)
  ·exact h
 rename_i hk;rw [if_neg hk] at he;split
 ·rename_i hk;rw [if_pos hk] at he;exact sF h (QV he)
 rename_i hk;rw [if_neg hk] at he;split
 ·exact h
 rename_i hf;rw [if_neg hf] at he;split
 case isFalse=>exact h
 rename_i ha;rw [if_pos ha] at he;have a1:=TS ha.1;have a2:=TS ha.2;split
 ·rename_i hk;rw [if_pos hk] at he;exact yU h (Ow he) (Af (s:=s) he h.known a1 a2)
 ·rename_i hk;rw [if_neg hk] at he;obtain ⟨e1,e2⟩:=vq he;have k1:=Af (s:=s) e1 h.known a1 a2;have h3:=(h.known.ts _ (FO hf).1).2.2;refine yU h (Nt he) ?_;unfold oH;rw [if_pos e1];exact Dh (s:=s) e2 k1 a1 a2 h3
theorem RP {s:af} (h:s.right) (c:aZ):(rF s c).1.right:=by
 unfold rF;split
 case isFalse=>exact h
 rename_i hw;split
 case isFalse=>exact h
 rename_i hm;split
 ·exact h
 split
 case isFalse=>exact h
 rename_i hs;split
 ·exact h
 rename_i hl;simp only [cr] at hm hw;have r1:=KL h.aj (w:=c.who) (by unfold bJ;omega);have r2:=KL h.aj (w:=c.other) (by unfold bJ;omega);have r3:=Ej hm.2.2;have r4:=Ef ((eo.1 h.aj).2.1.1 _ r3.1);rw [r3.2] at r4;refine ⟨h.NZ,h.aj,h.book,h.aW,h.ps,h.calls,h.known,by dsimp only;simp;omega,fun b hb=>?_,h.aN⟩;rcases List.mem_append.1 hb with hb | hb
 ·exact h.bp b hb
 ·obtain rfl:=List.mem_singleton.1 hb;simp only [kX,pz,hw.1,hw.2,within,cr,decide_eq_true_eq];simp only [within,cr,decide_eq_true_eq] at hw;omega
theorem NV:∀ {ps:List Int} {j:Nat},j < ps.length->az (ps.set j (ps.getD j 0+1))=az ps+1
 | [],j,h=>by simp at h
 | x :: r,0,_=>by simp [az];omega
 | x :: r,j+1,h=>by
  have:=NV (ps:=r) (j:=j) (by simpa using h);simp only [List.set_cons_succ,List.getD_cons_succ,az,this];omega
theorem I6 (rs:List Int):∀ (n:Nat) (gs:List Bool) (ps:List Int),gs.length=rs.length->ps.length=rs.length->gs.count true+n<=gs.length->az (pM rs n gs ps)=az ps+n
 | 0,_,_,_,_,_=>by simp [pM]
 | n+1,gs,ps,h1,h2,h3=>by
  have hex:=Kv (gs:=gs) (by omega);rw [h1] at hex;have hp:=JP rs gs rs.length hex;have hr:=BN rs gs rs.length;have hf:=Fg rs gs rs.length hp;simp only [pM];rw [I6 rs n _ _ (by simp [h1]) (by simp [h2]) (by rw [count_set hf,List.length_set];omega),NV (by omega)];omega
theorem BB (rs:List Int):∀ (n:Nat) (gs:List Bool) (ps:List Int),(∀ x∈ps,0<=x)->∀ x∈pM rs n gs ps,0<=x
 | 0,_,_,h=>h
 | n+1,gs,ps,h=>by
  simp only [pM];refine BB rs n _ _ fun x hx=>?_
  rcases List.mem_or_eq_of_mem_set hx with hx | rfl
  ·exact h x hx
  ·have:0<=ps.getD (gT rs gs rs.length).toNat 0:=by
    rw [List.getD_eq_getElem?_getD];cases he:ps[(gT rs gs rs.length).toNat]? with
    | none=>simp
    | some y=>exact h y (List.mem_of_getElem? he)
   omega
theorem Q3 {t:Int} {ws:List Int} (h:jl t ws=0):0<=t/\(∀ x∈ws,0<=x):=by
 unfold jl at h;split at h
 case isFalse=>cases h
 rename_i h1;split at h
 case isFalse=>cases h
 rename_i h2;simp only [cr,Bool.not_eq_true',decide_eq_false_iff_not] at h1;refine ⟨by omega,fun x hx=>?_⟩;have:=List.all_eq_true.1 h2 x hx;simp only [Bool.not_eq_true',decide_eq_false_iff_not] at this;omega
theorem Of {t:Int} {ws:List Int} (h:jl t ws=0) (hs:az ws≠0):az (fS t ws)=t/\(∀ x∈fS t ws,0<=x):=by
 obtain ⟨h1,h2⟩:=Q3 h;have hn:=mI h2;have hl:=y8 h1 rfl (show 1<=az ws by omega) h2;unfold fS;rw [if_pos h,if_neg hs];have hpl:(w6 t (az ws) ws).length=(P7 t (az ws) ws).length:=by simp [w6,P7]
 have hrl:(P7 t (az ws) ws).length=ws.length:=by simp [P7]
 refine ⟨?_,BB _ _ _ _ fun x hx=>?_⟩
 ·rw [I6 _ _ _ _ (by simp [hrl]) hpl (by simp [List.count_replicate];omega)];omega
 ·obtain ⟨w,hw,rfl⟩:=List.mem_map.1 hx;exact (sK h1 (by omega) (h2 w hw) (D4 h2 w hw)).1
def wI (f:List dV):Int:=az (f.map dV.bg)
theorem Jy:∀ (l:List bM) (k:Int),wI (lW k l).1+(lW k l).2=k
 | [],k=>by simp [lW,wI,az]
 | b :: r,k=>by
  simp only [lW];split
  ·have:=Jy r (k-min k b.bg);simp only [wI,List.map_cons,az] at this |-;omega
  ·simp [wI,az]
theorem IY:∀ (l:List bM) (k:Int) {f:dV},f∈(lW k l).1->∃ b∈l,f.src=b.src
 | [],k,f,h=>by simp [lW] at h
 | b :: r,k,f,h=>by
  simp only [lW] at h;split at h
  ·rcases List.mem_cons.1 h with rfl | h
   ·exact ⟨b,by simp,rfl⟩
   ·obtain ⟨x,hx,e⟩:=IY r _ h;exact ⟨x,by simp [hx],e⟩
  ·cases h
theorem Mw (long:Bool) {y:bM}:∀ (l out:List bM),y∈Ev long out l->y∈out\/y∈l
 | [],out,h=>.inl h
 | x :: r,out,h=>by
  simp only [Ev] at h;rcases Mw long r _ h with h | h
  ·unfold Ll at h;rcases List.mem_append.1 h with h | h
   ·exact .inl (List.mem_of_mem_take h)
   ·rcases List.mem_cons.1 h with rfl | h
    ·exact .inr (by simp)
    ·exact .inl (List.mem_of_mem_drop h)
  ·exact .inr (by simp [h])
theorem Tp {q:Int} {l:List bM} (h:qO q l=0):wI (kN q l).1+(kN q l).2=max q (-q)/\∀ f∈(kN q l).1,∃ b∈l,f.src=b.src:=by
 unfold kN;rw [if_pos h];refine ⟨Jy _ _,fun f hf=>?_⟩;obtain ⟨b,hb,e⟩:=IY _ _ hf;rcases Mw _ _ _ hb with hb | hb
 ·cases hb
 ·exact ⟨b,hb,e⟩
theorem Uo {w n m:Int} {long:Bool}:∀ {f:List dV},(∀ x∈f,x.src≠w)->az (pick (dU w m) aB.bg (f.flatMap (wQ w n long)))=if m=n then -Jx long (wI f) else 0
 | [],_=>by simp [pick,az,wI,Jx]
 | x :: r,h=>by
  have ih:=Uo (w:=w) (n:=n) (m:=m) (long:=long) (f:=r) fun y hy=>h y (by simp [hy])
  have hx:=h x (by simp);rw [List.flatMap_cons,show wQ w n long x=[⟨x.src,n,Jx long x.bg,Jx long (x.bg*x.aX)⟩,⟨w,n,-Jx long x.bg,-Jx long (x.bg*x.aX)⟩] from rfl];rw [List.cons_append,List.cons_append,List.nil_append,n6,n6,ih];rw [if_neg (fun h=>hx (eP.1 h).1)]
  by_cases hm:m=n
  ·rw [if_pos (show dU w m ⟨w,n,-Jx long x.bg,-Jx long (x.bg*x.aX)⟩=true from eP.2 ⟨rfl,hm.symm⟩),if_pos hm,if_pos hm];simp only [wI,List.map_cons,az,Jx];split<;>omega
  ·rw [if_neg (fun h=>hm (eP.1 h).2.symm),if_neg hm,if_neg hm];rfl
theorem IG {b:aF} {g:List aB} {w n:Int} (hw:1<=w/\w<=16) (hn:1<=n/\n<=8):(posOf w n (zu b g 16)).bg=IZ b g w n:=by
 by_cases h:IZ b g w n=0/\TT b g w n=0
 ·rw [mH,h.1];intro p hp hk;obtain ⟨k,m,_,_,hp⟩:=zB hp;obtain ⟨rfl,hne⟩:=rY hp;dsimp only at hk;rw [hk.1,hk.2] at hne;exact hne h
 ·have hm:(⟨w,n,IZ b g w n,TT b g w n⟩:aB)∈zu b g 16:=by
   refine List.mem_flatMap.2 ⟨(w-1).toNat,List.mem_range.2 (by omega),List.mem_flatMap.2 ⟨(n-1).toNat,List.mem_range.2 (by omega),?_⟩⟩;rw [show (((w-1).toNat:Nat):Int)+1=w by omega,show (((n-1).toNat:Nat):Int)+1=n by omega];unfold HC;rw [if_neg (by simp only [cr,beq_iff_eq];exact h)];simp
  rw [FY (Kb b g) hm ⟨rfl,rfl⟩]
structure Hi (r:aq) (w:Int) (b:aF) (ts:List aL) (ps:List dS) (cs:List aA):Prop where
 ok:b.okB=true
 known:iZ r b.qs ts ps cs
 ts:b.ts=ts
theorem Fm {r:aq} {w n:Int} {b:aF} {ts ps cs} {long:Bool} {f:List dV} (hw:1<=w/\w<=16) (hn:1<=n/\n<=8) (hb:Hi r w b ts ps cs) (hs:bJ r w=2) (hi:br r n=true) (hf:∀ x∈f,x.src≠w/\(bJ r x.src=1\/bJ r x.src=2)) (h:(nu b w n long f).2=0) :
  Hi r w (nu b w n long f).1 ts ps cs/\(posOf w n (nu b w n long f).1.qs).bg=(posOf w n b.qs).bg-Jx long (wI f)/\∀ m,1<=m/\m<=8->m≠n->(posOf w m (nu b w n long f).1.qs).bg=(posOf w m b.qs).bg:=by
 unfold nu at h |-;split
 case isFalse hne=>rw [if_neg hne] at h;exact absurd h hne
 rename_i he;rw [if_pos he] at h;dsimp only at h |-;have hl:lu w n long f=f.flatMap (wQ w n long):=by unfold lu;rw [if_pos he]
 have hq:=fun m=>Uo (w:=w) (n:=n) (m:=m) (long:=long) (f:=f) fun x hx=>(hf x hx).1
 have hadq:∀ m,IZ b (lu w n long f) w m=(posOf w m b.qs).bg+if m=n then -Jx long (wI f) else 0:=fun m=>by
  unfold IZ;rw [az,hl,hq]
 refine ⟨⟨WG h,?_,?_⟩,?_,fun m hm hne=>?_⟩
 ·rw [(kZ h).2];refine B0 hb.known fun p hp=>?_
  rw [hl] at hp;obtain ⟨x,hx,hp⟩:=List.mem_flatMap.1 hp;have hxs:=hf x hx;unfold wQ at hp;simp only [List.mem_cons,List.not_mem_nil,or_false] at hp;rcases hp with rfl | rfl
  ·exact ⟨hxs.2,hi⟩
  ·exact ⟨.inr hs,hi⟩
 ·rw [(kZ h).2];exact hb.ts
 ·rw [(kZ h).2]
  show (posOf w n (zu b _ 16)).bg=_
  rw [IG hw hn,hadq,if_pos rfl];omega
 ·rw [(kZ h).2]
  show (posOf w m (zu b _ 16)).bg=_
  rw [IG hw hm,hadq,if_neg hne];omega
theorem Nn {ws ps:List Int} (h:∀ x∈ps,0<=x):∀ k,k<=ps.length->wI (pq (sR ws ps) k)=az (ps.take k)
 | 0,_=>rfl
 | k+1,hk=>by
  have ih:=Nn (ws:=ws) h k (by omega);have hk':k < ps.length:=by omega
  rw [jo,List.take_succ_eq_append_getElem hk',dX];unfold wI at ih |-;rw [List.map_append,dX,ih];congr 1;have hg:ps.getD k 0=ps[k]:=by rw [List.getD_eq_getElem?_getD,List.getElem?_eq_getElem hk'];rfl
  have h0:=h ps[k] (List.getElem_mem hk');unfold sR;rw [hg];split
  ·rfl
  ·have:ps[k]=0:=by omega
   rw [this];rfl
theorem T4 {ws ps:List Int} (hl:ps.length<=ws.length) {f:dV} (h:f∈Me ws ps):f.src∈ws:=by
 obtain ⟨i,hi,h⟩:=jv.1 h;unfold sR at h;split at h
 ·obtain rfl:=List.mem_singleton.1 h;dsimp only;rw [List.getD_eq_getElem?_getD,List.getElem?_eq_getElem (by omega)];exact List.getElem_mem _
 ·cases h
theorem T' {b:aF} {w n k:Int} (h:oh b w n k=0):b.okB=true/\(0<=k/\k<=1099511627776)/\k<=az (qw (posOf w n b.qs).bg n b.qs):=by
 unfold oh at h;split at h
 case isFalse=>cases h
 rename_i h1;split at h
 case isFalse=>cases h
 rename_i h2;split at h
 ·cases h
 rename_i h3;simp only [within,cr,decide_eq_true_eq] at h2;exact ⟨h1,h2,by omega⟩
theorem Ny {q n:Int} {p:aB}:OW q n p=true ↔ p.inst=n/\((0 < q/\p.bg < 0)\/(q < 0/\0 < p.bg)):=by
 simp only [OW,cr,Bool.or_eq_true,beq_iff_eq,decide_eq_true_eq]
theorem ER {A:Type} {q:A->Bool} {f:A->Int} {xs:List A} {v:Int} (h:v∈pick q f xs):∃ x∈xs,q x=true/\v=f x:=by
 obtain ⟨x,hx,h⟩:=List.mem_flatMap.1 h;split at h
 ·rename_i hq;exact ⟨x,hx,hq,List.mem_singleton.1 h⟩
 ·cases h
theorem Gi {b:aF} (h:b.okB=true):b.qs.length<=128:=by
 have hb:=eM.1 h
 have h1:(b.qs.map fun p=>p.who*8+p.inst).Pairwise (fun a c=>a < c):=by
  rw [List.pairwise_map];refine (List.Pairwise.imp_of_mem (fun {p q} hp hq hpq=>?_) hb.pw);have k1:=mE.1 (hb.ok p hp);have k2:=mE.1 (hb.ok q hq);simp only [ga,Gs,Bool.or_eq_true,cr,decide_eq_true_eq,beq_iff_eq] at hpq;omega
 have key:∀ (l:List Int) (lo hi:Int),l.Pairwise (fun a c=>a < c)->(∀ x∈l,lo<=x/\x < hi)->lo<=hi->(l.length:Int)<=hi-lo:=by
  intro l
  induction l with
  | nil=>intro lo hi _ _ h;simp;omega
  | cons x r ih =>
   intro lo hi hp hx hlh;rw [List.pairwise_cons] at hp;have hx0:=hx x (by simp);have:=ih (x+1) hi hp.2 (fun y hy=>by have:=hp.1 y hy;have:=hx y (by simp [hy]);omega) (by omega);simp only [List.length_cons];omega
 have:=key _ 9 137 h1 (fun x hx=>by
  obtain ⟨p,hp,rfl⟩:=List.mem_map.1 hx;have:=mE.1 (hb.ok p hp)
  omega) (by omega)
 simp only [aJ] at this;omega
theorem UA {r:aq} {w n p rest:Int} {b:aF} {ts ps cs} {long:Bool} (hw:1<=w/\w<=16) (hn:1<=n/\n<=8) (hb:Hi r w b ts ps cs) (hs:bJ r w=2) (hi:br r n=true) (hq:(posOf w n b.qs).bg=Jx long rest) (hr:rest≠0) (h:(ru b w n p long rest).2=0) :
  Hi r w (ru b w n p long rest).1 ts ps cs/\(posOf w n (ru b w n p long rest).1.qs).bg=0/\∀ m,1<=m/\m<=8->m≠n->(posOf w m (ru b w n p long rest).1.qs).bg=(posOf w m b.qs).bg:=by
 unfold ru at h |-;split
 case isFalse hne=>rw [if_neg hne] at h;exact absurd h hne
 rename_i he;rw [if_pos he] at h;obtain ⟨t1,t2,t3⟩:=T' he;have hbr:=eM.1 t1;obtain ⟨ws,hws⟩:∃ l,l=BR (posOf w n b.qs).bg n b.qs:=⟨_,rfl⟩
 obtain ⟨ns,hns⟩:∃ l,l=qw (posOf w n b.qs).bg n b.qs:=⟨_,rfl⟩
 have hlen:ns.length=ws.length:=by rw [hws,hns];exact Cr _ _ _ _
 have hnsr:∀ x∈ns,0 < x/\x<=1099511627776:=fun x hx=>by
  rw [hns] at hx;obtain ⟨y,hy,hyo,rfl⟩:=ER hx;have h1:=Ny.1 hyo;have h2:=mE.1 (hbr.ok y hy);omega
 rw [<- hns] at t3
 have hnl:ns.length<=128:=by
  rw [hns];exact Nat.le_trans (bW _ _ _) (Gi t1)
 have hsp:jl rest ns=0:=by
  unfold jl;rw [if_pos,if_pos,if_neg (by omega),if_neg (by omega)]
  ·exact List.all_eq_true.2 fun x hx=>by have:=hnsr x hx;simp only [Bool.not_eq_true',decide_eq_false_iff_not];omega
  ·simp only [cr,Bool.not_eq_true',decide_eq_false_iff_not];refine ⟨⟨by omega,by rw [cg];omega⟩,List.all_eq_true.2 fun x hx=>by have:=hnsr x hx;rw [cg];omega⟩
 obtain ⟨s1,s2⟩:=Of hsp (by omega);have hsl:=rS rest ns;have hL:o7 b w n rest=Me ws (fS rest ns):=by unfold o7;rw [if_pos he,<- hws,<- hns]
 have hfq:wI ((o7 b w n rest).map (dZ p))=rest:=by
  have:wI ((o7 b w n rest).map (dZ p))=wI (o7 b w n rest):=by
   unfold wI;rw [List.map_map];rfl
  rw [this,hL];have:=Nn (ws:=ws) s2 _ (Nat.le_refl _);rw [List.take_length,s1] at this;exact this
 obtain ⟨q1,q2,q3⟩:=Fm (long:=long) (f:=(o7 b w n rest).map (dZ p)) hw hn hb hs hi (fun x hx=>by
  obtain ⟨y,hy,rfl⟩:=List.mem_map.1 hx;rw [hL] at hy;have hy:=T4 (by omega) hy;rw [hws] at hy;obtain ⟨z,hz,hzo,e⟩:=ER hy
  show y.src≠w/\_
  rw [show (dZ p y).src=y.src from rfl,e];refine ⟨fun hzw=>?_,(hb.known.qs z hz).1⟩;have h1:=Ny.1 hzo;rw [FY hbr.pw hz ⟨hzw,h1.1⟩] at h1
  omega) h
 refine ⟨q1,?_,q3⟩;rw [q2,hfq,hq];omega
theorem Uk {s:af} {w n:Int} {b:aF} (h:s.right) (hw:1<=w/\w<=16) (hn:1<=n/\n<=8) (hb:Hi s.aj w b s.book.ts s.ps s.calls) (hs:bJ s.aj w=2) (hq:(posOf w n b.qs).bg≠0) (he:(oL s b w n (posOf w n b.qs).bg).2=0) :
  Hi s.aj w (oL s b w n (posOf w n b.qs).bg).1 s.book.ts s.ps s.calls/\(posOf w n (oL s b w n (posOf w n b.qs).bg).1.qs).bg=0/\∀ m,1<=m/\m<=8->m≠n->(posOf w m (oL s b w n (posOf w n b.qs).bg).1.qs).bg=(posOf w m b.qs).bg:=by
 have hi:br s.aj n=true:=by
  by_cases hx:∃ p∈b.qs,p.who=w/\p.inst=n
  ·obtain ⟨p,hp,_,e⟩:=hx;rw [<- e];exact (hb.known.qs p hp).2
  ·rw [mH fun p hp hk=>hx ⟨p,hp,hk⟩] at hq;exact absurd rfl hq
 obtain ⟨q,hqe⟩:=aH ((posOf w n b.qs).bg);rw [<- hqe] at hq he |-;unfold oL at he |-;split
 case isFalse hne=>rw [if_neg hne] at he;cases he
 rename_i hp;rw [if_pos hp] at he;split
 case isFalse hne=>rw [if_neg hne] at he;exact absurd he hne
 rename_i hf;rw [if_pos hf] at he;obtain ⟨f1,f2⟩:=Tp hf;obtain ⟨F,hF⟩:=aH (kN q (iF s w n s.bp));rw [<- hF] at f1 f2 he |-
 have hsg:∀ k:Int,Jx (decide (0 < q)) k=if 0 < q then k else -k:=fun k=>by
  unfold Jx
  by_cases h0:0 < q<;>simp [h0]
 have hsrc:∀ x∈F.1,x.src≠w/\(bJ s.aj x.src=1\/bJ s.aj x.src=2):=fun x hx=>by
  obtain ⟨y,hy,e⟩:=f2 x hx;obtain ⟨z,_,hy⟩:=List.mem_flatMap.1 hy;split at hy
  ·rename_i hz;obtain rfl:=List.mem_singleton.1 hy;simp only [Fu,cr,beq_iff_eq] at hz;rw [e];refine ⟨fun h=>?_,.inl hz.2⟩;rw [h,hs] at hz;omega
  ·cases hy
 split
 ·rename_i hc;rw [if_pos hc] at he;obtain ⟨a1,a2,a3⟩:=Fm (long:=decide (0 < q)) hw hn hb hs hi hsrc hc.1
  obtain ⟨b1,b2,b3⟩:=UA (p:=ef (bf s.aj n)) (long:=decide (0 < q)) (rest:=F.2) hw hn a1 hs hi (by
   rw [a2,<- hqe,hsg,hsg]
   split<;>omega) hc.2 he
  exact ⟨b1,b2,fun m hm hne=>by rw [b3 m hm hne,a3 m hm hne]⟩
 ·rename_i hc;rw [if_neg hc] at he;obtain ⟨a1,a2,a3⟩:=Fm (long:=decide (0 < q)) hw hn hb hs hi hsrc he
  have hz:F.2=0:=by
   by_cases hz:F.2=0
   ·exact hz
   ·exact absurd ⟨he,hz⟩ hc
  refine ⟨a1,?_,a3⟩;rw [a2,<- hqe,hsg];split<;>omega
theorem N7 {s:af} {w n:Int} {b:aF} (h:s.right) (hw:1<=w/\w<=16) (hn:1<=n/\n<=8) (hb:Hi s.aj w b s.book.ts s.ps s.calls) (hs:bJ s.aj w=2) (he:(iB s w b n).2=0) :
  Hi s.aj w (iB s w b n).1 s.book.ts s.ps s.calls/\(posOf w n (iB s w b n).1.qs).bg=0/\∀ m,1<=m/\m<=8->m≠n->(posOf w m (iB s w b n).1.qs).bg=(posOf w m b.qs).bg:=by
 unfold iB at he |-;split
 ·rename_i hz;exact ⟨hb,by simpa using hz,fun _ _ _=>rfl⟩
 ·rename_i hz;rw [if_neg hz] at he;exact Uk h hw hn hb hs (by simpa using hz) he
theorem K1 {s:af} {w:Int} (h:s.right) (hw:1<=w/\w<=16) (hs:bJ s.aj w=2):∀ (m i:Nat) {b:aF},i+m=8->Hi s.aj w b s.book.ts s.ps s.calls->(∀ k:Nat,k < i->(posOf w ((k:Int)+1) b.qs).bg=0)->(mX s w m i b).2=0 ->
  Hi s.aj w (mX s w m i b).1 s.book.ts s.ps s.calls/\∀ k:Nat,k < 8->(posOf w ((k:Int)+1) (mX s w m i b).1.qs).bg=0
 | 0,i,b,hi,hb,hz,_=>⟨hb,fun k hk=>hz k (by omega)⟩
 | m+1,i,b,hi,hb,hz,he=>by
  simp only [mX] at he |-;split
  ·rename_i h0;rw [if_pos h0] at he;obtain ⟨a1,a2,a3⟩:=N7 h hw (n:=(i:Int)+1) (by omega) hb hs h0;refine K1 h hw hs m (i+1) (by omega) a1 (fun k hk=>?_) he;rcases Nat.lt_or_ge k i with hki | hki
   ·rw [a3 _ (by omega) (by omega)];exact hz k hki
   ·obtain rfl:k=i:=by omega
    exact a2
  ·rename_i h0;rw [if_neg h0] at he;exact absurd he h0
theorem BQ {w:Int} {l:List aB} {p:aB}:p∈nH w l ↔ p∈l/\p.who≠w:=by
 unfold nH;rw [List.mem_flatMap];constructor
 ·rintro ⟨x,hx,h⟩
  split at h
  ·cases h
  ·rename_i hn;obtain rfl:=List.mem_singleton.1 h;exact ⟨hx,by simpa using hn⟩
 ·rintro ⟨h1,h2⟩
  exact ⟨p,h1,by rw [if_neg (by simpa using h2)];simp⟩
theorem F7 {s:af} {w:Int} (h:ot s w=0):LA s w=0/\(mX s w 8 0 s.book).2=0:=by
 unfold ot at h;split at h
 case isFalse hne=>exact absurd h hne
 rename_i h1;split at h
 case isFalse hne=>exact absurd h hne
 rename_i h2;exact ⟨h1,h2⟩
theorem Uy {s:af} {w:Int} (h:ot s w=0):(pP s w).okB=true/\iZ s.aj (pP s w).qs (pP s w).ts s.ps s.calls/\∀ p∈(pP s w).qs,p.who≠w:=by
 obtain ⟨h1,h2⟩:=F7 h;obtain ⟨hr,hs⟩:=vQ h1;have hr:=iN.1 hr;have hw:=(KL hr.aj (w:=w) (by omega)).2;obtain ⟨a1,a2⟩:=K1 hr hw hs 8 0 rfl (b:=s.book) ⟨hr.book,hr.known,rfl⟩ (fun k hk=>by omega) h2;have hb:=eM.1 a1.ok;unfold pP;rw [if_pos h];refine ⟨eM.2 ⟨fun p hp=>hb.ok p (BQ.1 hp).1,O8 hb.pw,fun n hn1 hn8=>?_,hb.tok,hb.tpw,hb.tl,hb.n0,hb.n1⟩,⟨fun p hp=>a1.known.qs p (BQ.1 hp).1,fun t ht=>?_,a1.known.ps,a1.known.cs⟩,fun p hp=>(BQ.1 hp).2⟩
 ·dsimp only;rw [<- hb.level n hn1 hn8]
  have key:∀ l:List aB,(∀ p∈l,p.who=w->p.bg=0)->az (cu n (nH w l))=az (cu n l):=fun l=>by
   induction l with
   | nil=>intro _;rfl
   | cons p t ih =>
    intro hl;rw [mh,<- ih fun q hq=>hl q (by simp [hq])];unfold nH;rw [List.flatMap_cons,IC,dX];congr 1;split
    ·rename_i hpw;rw [hl p (by simp) (by simpa using hpw)];split<;>rfl
    ·rw [mh];simp [cu,az]
  refine key _ fun p hp hpw=>?_
  have hpi:=(mE.1 (hb.ok p hp)).2.1;have:=a2 (p.inst-1).toNat (by omega);rw [show (((p.inst-1).toNat:Nat):Int)+1=p.inst by omega,FY hb.pw hp ⟨hpw,rfl⟩] at this;exact this
 ·dsimp only at ht;rw [a1.ts] at ht;exact a1.known.ts t ht
theorem Fj {s:af} (h:s.right) (c:Int):(w9 s c).1.right:=by
 unfold w9;split
 ·exact n7 h _
 ·exact h
theorem Gp:∀ (m c:Nat) {s:af} (ds:List aQ),s.right->(kR m c s ds).1.right
 | 0,_,_,_,h=>h
 | m+1,c,s,ds,h=>by
  simp only [kR];split
  ·exact Gp m _ _ (Fj h _)
  ·exact Fj h _
theorem K6 {s:af} (he:ig s=0):(jR s).right:=by
 unfold jR;rw [if_pos he];unfold ig at he;split at he
 case isFalse=>cases he
 rename_i h1;split at he
 case isFalse=>cases he
 split at he
 case isFalse hne=>exact absurd he hne
 rename_i h3;split at he
 case isFalse hne=>exact absurd he hne
 have hr:=iN.1 h1;obtain ⟨t1,t2⟩:=LI hr.aj;have k:=hr.known.ext t2;have e:y6 s.aj s.book=⟨s.book.next,s.book.ts,s.book.qs.flatMap (nJ s.aj)⟩:=by unfold y6;rw [if_pos h3]
 refine ⟨⟨hr.NZ.1,hr.NZ.2.1,by dsimp only;decide,by dsimp only;decide⟩,t1,Wm h3,IE hr.aW he,hr.ps,hr.calls,⟨fun p hp=>?_,fun t ht=>?_,k.ps,k.cs⟩,hr.bl,hr.bp,hr.aN⟩
 ·dsimp only at hp |-;rw [e] at hp;obtain ⟨q,hq,hp⟩:=List.mem_flatMap.1 hp;rw [(vO hp).1];exact k.qs q hq
 ·dsimp only at ht |-;rw [e] at ht;exact k.ts t ht
theorem UP {r:aq} (h:r.okB=true) {w:Int} (hm:w∈gB r [1]):bJ r w=1:=by
 obtain ⟨m,hmm,hq,rfl⟩:=ER hm;have e:ew r m.no=m:=Av (eo.1 h).1.2 hmm rfl;unfold bJ;rw [e];simp only [lR,List.any_cons,List.any_nil,Bool.or_false,beq_iff_eq] at hq;exact hq.symm
theorem FK {s:af} {w:Int} (h:bJ s.aj w=1):∀ (m c:Nat) (x:List aA × List aQ),(mO bV bQ x.1=true/\∀ y∈x.1,bJ s.aj y.who=1)->mO bV bQ (oM s w m c x).1.1=true/\∀ y∈(oM s w m c x).1.1,bJ s.aj y.who=1
 | 0,_,_,hx=>hx
 | m+1,c,x,hx=>by
  simp only [oM];split
  ·obtain ⟨a1,a2⟩:=WU (d:=⟨w,c,Hg s w c⟩) (t:=Ly s) hx.1;refine FK h m _ _ ⟨a1,fun y hy=>?_⟩;rcases a2 y hy with e | hy
   ·rw [e];exact h
   ·exact hx.2 y hy
  ·exact hx
theorem JC {s:af}:∀ (ws:List Int) (x:List aA × List aQ),(∀ w∈ws,bJ s.aj w=1)->(mO bV bQ x.1=true/\∀ y∈x.1,bJ s.aj y.who=1)->mO bV bQ (rV s ws x).1.1=true/\∀ y∈(rV s ws x).1.1,bJ s.aj y.who=1
 | [],_,_,hx=>hx
 | w :: r,x,hw,hx=>by
  simp only [rV];split
  ·exact JC r _ (fun v hv=>hw v (by simp [hv])) (FK (hw w (by simp)) 3 0 x hx)
  ·exact FK (hw w (by simp)) 3 0 x hx
theorem JH {s:af} (he:iT s=0):(jz s).right:=by
 unfold jz;rw [if_pos he];unfold iT at he;split at he
 case isFalse=>cases he
 rename_i h1;have hr:=iN.1 h1;obtain ⟨a1,a2⟩:=JC (s:=s) (gB s.aj [1]) (s.calls,[]) (fun w hw=>UP hr.aj hw) ⟨hr.calls,hr.known.cs⟩;exact ⟨⟨hr.NZ.1,hr.NZ.2.1,by dsimp only;decide,by dsimp only;decide⟩,hr.aj,hr.book,hr.aW,hr.ps,a1,⟨hr.known.qs,hr.known.ts,hr.known.ps,a2⟩,hr.bl,hr.bp,hr.aN⟩
theorem O5 {s:af} (he:sV s=0):(th s).right:=by
 unfold th;rw [if_pos he];unfold sV at he;split at he
 case isFalse=>cases he
 rename_i h1;split at he
 case isFalse=>cases he
 split at he
 ·cases he
 have hr:=iN.1 h1;have hb:=eM.1 hr.book;have hc:=hr.NZ;exact ⟨⟨hc.1,by dsimp only;omega,by dsimp only;decide,by dsimp only;decide⟩,hr.aj,eM.2 ⟨hb.ok,hb.pw,hb.level,fun t ht=>(by cases ht),List.Pairwise.nil,Nat.zero_le _,hb.n0,hb.n1⟩,hr.aW,hr.ps,hr.calls,⟨hr.known.qs,fun t ht=>(by cases ht),hr.known.ps,hr.known.cs⟩,hr.bl,hr.bp,hr.aN⟩
theorem vE {r:aq} {w p:Int} (h:r.okB=true) (hs:bJ r w≠0) (hp:1<=p/\p<=3):DH r w p=0:=by
 unfold DH;rw [if_pos h,if_pos ((Om h).1 hs),if_pos (by simp only [within,cr,decide_eq_true_eq];omega)]
theorem Ld {w v:Int}:lR [w] v=decide (v=w):=by
 simp only [lR,List.any_cons,List.any_nil,Bool.or_false];rw [Bool.eq_iff_iff];simp only [beq_iff_eq,decide_eq_true_eq];exact eq_comm
theorem AE {r:aq} {w p:Int} (h:DH r w p=0) (n:Int):br (l6 r w p) n=br r n/\jN (l6 r w p) n=jN r n:=by
 obtain ⟨_,_,h3,h4⟩:=GY h;unfold br jN;rw [h3,h4];exact ⟨rfl,rfl⟩
theorem Py {r:aq} {qs ts ps cs} {w:Int} (hr:r.okB=true) (hs:bJ r w≠0) (k:iZ r qs ts ps cs):(l6 r w 2).okB=true/\iZ (l6 r w 2) qs ts ps (eL cs [w])/\∀ v,bJ r v≠0->bJ (l6 r w 2) v≠0:=by
 have h:=vE hr hs (p:=2) (by omega);obtain ⟨p1,p2,_⟩:=GY h;have hi:=fun n=>(AE h n).1
 have ha:=fun n=>(AE h n).2
 have ho:∀ v,(bJ r v=1\/bJ r v=2)->bJ (l6 r w 2) v=1\/bJ (l6 r w 2) v=2:=fun v hv=>by rw [p2];split;exact .inr rfl;exact hv
 have hn:∀ v,bJ r v≠0->bJ (l6 r w 2) v≠0:=fun v hv=>by rw [p2];split;decide;exact hv
 refine ⟨p1,⟨fun p hp=>⟨ho _ (k.qs p hp).1,by rw [hi];exact (k.qs p hp).2⟩,fun t ht=>⟨hn _ (k.ts t ht).1,hn _ (k.ts t ht).2.1,by rw [hi];exact (k.ts t ht).2.2⟩,fun p hp=>⟨ho _ (k.ps p hp).1,by rw [ha];exact (k.ps p hp).2⟩,fun c hc=>?_⟩,hn⟩;obtain ⟨h1,h2⟩:=sC.1 hc;rw [Ld] at h2;rw [p2,if_neg (by simpa using h2)];exact k.cs c h1
theorem Md {qs ts ps}:∀ (l:List aA) (x:aq × List aA),(∀ c∈l,bJ x.1 c.who≠0)->x.1.okB=true->iZ x.1 qs ts ps x.2->mO bV bQ x.2=true->(qY l x).1.okB=true/\iZ (qY l x).1 qs ts ps (qY l x).2/\mO bV bQ (qY l x).2=true
 | [],_,_,h2,h3,h4=>⟨h2,h3,h4⟩
 | c :: r,x,h1,h2,h3,h4=>by
  obtain ⟨a1,a2,a3⟩:=Py h2 (h1 c (by simp)) h3;simp only [qY];exact Md r _ (fun y hy=>a3 _ (h1 y (by simp [hy]))) a1 a2 (Di h4)
theorem OV {s:af} {n:Int} (he:oV s n=0):(gP s n).right:=by
 unfold gP;rw [if_pos he];unfold oV at he;split at he
 case isFalse=>cases he
 rename_i h1;split at he
 case isFalse=>cases he
 rename_i h2;split at he
 ·cases he
 simp only [within,cr,decide_eq_true_eq] at h2;have hr:=iN.1 h1;have hc:=hr.NZ
 obtain ⟨a1,a2,a3⟩:=Md (nG (s.now+n) s.calls) (s.aj,s.calls) (fun c hc=>by
  obtain ⟨x,hx,hc⟩:=List.mem_flatMap.1 hc;split at hc
  ·obtain rfl:=List.mem_singleton.1 hc;have:=hr.known.cs _ hx;dsimp only;omega
  ·cases hc) hr.aj hr.known hr.calls
 exact ⟨⟨by dsimp only;omega,hc.2⟩,a1,hr.book,hr.aW,hr.ps,a3,a2,hr.bl,hr.bp,hr.aN⟩
theorem Qv {s:af} {w:Int}:∀ (m i:Nat) (l:bz) (p:List aQ),l.okB=true->(nQ s w m i l p).2.2=0->(nQ s w m i l p).1.okB=true
 | 0,_,_,_,h,_=>h
 | m+1,i,l,p,h,he=>by
  simp only [nQ] at he |-;split
  ·rename_i h0;rw [if_pos h0] at he;exact Qv m _ _ _ (IE h h0) he
  ·rename_i h0;rw [if_neg h0] at he;exact absurd he h0
theorem Ky {s:af} {w:Int} (h:wP s w=0):ot s w=0/\iE (CN s w) 3 0=0/\iE (xF s w) 3 0=0/\(nQ s w 3 0 s.aW []).2.2=0:=by
 unfold wP at h;split at h
 case isFalse hne=>exact absurd h hne
 rename_i h1;split at h
 case isFalse hne=>exact absurd h hne
 rename_i h2;split at h
 case isFalse hne=>exact absurd h hne
 rename_i h3;exact ⟨h1,h2,h3,h⟩
theorem FE {w:Int} {l:List dS} {p:dS}:p∈qE w l ↔ p∈l/\p.who≠w:=by
 unfold qE;rw [List.mem_flatMap];constructor
 ·rintro ⟨x,hx,h⟩
  split at h
  ·cases h
  ·rename_i hn;obtain rfl:=List.mem_singleton.1 h;exact ⟨hx,by simpa using hn⟩
 ·rintro ⟨h1,h2⟩
  exact ⟨p,h1,by rw [if_neg (by simpa using h2)];simp⟩
theorem OK {w:Int} {l:List bM} {b:bM}:b∈qg w l ↔ b∈l/\b.who≠w/\b.src≠w:=by
 unfold qg;rw [List.mem_flatMap];constructor
 ·rintro ⟨x,hx,h⟩
  split at h
  ·cases h
  ·rename_i hn;obtain rfl:=List.mem_singleton.1 h;simp only [Bool.or_eq_true,beq_iff_eq] at hn;exact ⟨hx,fun e=>hn (.inl e),fun e=>hn (.inr e)⟩
 ·rintro ⟨h1,h2,h3⟩
  exact ⟨b,h1,by rw [if_neg (by simp only [Bool.or_eq_true,beq_iff_eq];omega)];simp⟩
theorem RZ {s:af} {w:Int} (he:wP s w=0):(mu s w).right:=by
 unfold mu;rw [if_pos he];obtain ⟨e1,_,_,e4⟩:=Ky he;obtain ⟨hm,_⟩:=F7 e1;obtain ⟨h1,hs⟩:=vQ hm;have hr:=iN.1 h1;have hp:=vE hr.aj (w:=w) (p:=3) (by omega) (by omega);obtain ⟨p1,p2,_⟩:=GY hp;have hi:=fun n=>(AE hp n).1
 have ha:=fun n=>(AE hp n).2
 obtain ⟨b1,b2,b3⟩:=Uy e1;have hst:∀ v,v≠w->bJ (l6 s.aj w 3) v=bJ s.aj v:=fun v hv=>by rw [p2,if_neg hv]
 have hg:=gY.1 hr.ps;refine ⟨hr.NZ,p1,b1,Qv 3 0 s.aW [] hr.aW e4,gY.2 ⟨fun p hp=>hg.1 p (FE.1 hp).1,O8 hg.2⟩,Di hr.calls,⟨fun p hp=>?_,fun t ht=>?_,fun p hp=>?_,fun c hc=>?_⟩,Nat.le_trans (ET _ _) hr.bl,fun b hb=>hr.bp b (OK.1 hb).1,hr.aN⟩
 ·dsimp only at hp |-;rw [hst _ (b3 p hp),hi];exact b2.qs p hp
 ·dsimp only at ht |-;have:=b2.ts t ht;have hn:∀ v,bJ s.aj v≠0->bJ (l6 s.aj w 3) v≠0:=fun v hv=>by rw [p2];split;decide;exact hv
  exact ⟨hn _ this.1,hn _ this.2.1,by rw [hi];exact this.2.2⟩
 ·dsimp only at hp |-;have:=FE.1 hp;rw [hst _ this.2,ha];exact hr.known.ps p this.1
 ·dsimp only at hc |-;obtain ⟨h1,h2⟩:=sC.1 hc;rw [Ld] at h2;rw [hst _ (by simpa using h2)];exact hr.known.cs c h1
end Go.Proofs.YtnkobepdbkmedaaGreatDoor
