/- Right states: lists in order, what is found in them, and what follows. No theorem of a claim. -/
import Derived.Test.YtnkobepdbkmedaaGreatKH
set_option linter.unusedSimpArgs false
set_option linter.unusedVariables false
set_option maxHeartbeats 4000000
set_option maxRecDepth 16000
namespace Go.Proofs.YtnkobepdbkmedaaGreat
open Go.Abs
theorem Mt {A:Type} {R:A->A->Prop} (tr:∀ {a b c},R a b->R b c->R a c) {xs:List A} (h:∀ j (hj:j+1 < xs.length),R (xs[j]'(by omega)) xs[j+1]):xs.Pairwise R:=by
 rw [List.pairwise_iff_getElem]
 have key:∀ d i (hj:i+d+1 < xs.length),R (xs[i]'(by omega)) xs[i+d+1]:=by
  intro d
  induction d with
  | zero=>intro i hj;exact h i hj
  | succ d ih=>intro i hj;exact tr (ih i (by omega)) (h (i+d+1) hj)
 intro i j hi hj hij;have:=key (j-i-1) i (by omega);have e:i+(j-i-1)+1=j:=by omega
 simpa only [e] using this
theorem oM {A:Type} {ok:A->Bool} {lt:A->A->Bool} (tr:∀ {a b c},lt a b=true->lt b c=true->lt a c=true) {xs:List A}:lZ ok lt xs=true ↔ (∀ x∈xs,ok x=true)/\xs.Pairwise (fun a b=>lt a b=true):=by
 constructor
 ·intro h;refine ⟨fun x hx=>?_,Mt (R:=fun a b=>lt a b=true) tr fun j hj=>?_⟩
  ·obtain ⟨i,hi,rfl⟩:=List.mem_iff_getElem.1 hx;exact FW h hi
  ·have:=QA h hj;rw [fQ hj,bZ] at this;exact this.2
 ·rintro ⟨h1,h2⟩
  rw [List.pairwise_iff_getElem] at h2;refine lY fun i hi=>?_
  cases i with
  | zero=>rw [gz hi];exact h1 _ (List.getElem_mem hi)
  | succ j=>rw [fQ hi,h1 _ (List.getElem_mem hi),h2 j (j+1) (by omega) hi (by omega)];rfl
theorem OY {A:Type} {no:A->Int} {ok:A->Bool} {xs:List A}:iN no ok xs=true ↔ (∀ x∈xs,ok x=true)/\xs.Pairwise (fun a b=>no a < no b):=by
 constructor
 ·intro h;have hat:∀ i (hi:i < xs.length),cw no ok xs i=true:=fun i hi=>List.all_eq_true.1 h i (List.mem_range.2 hi)
  refine ⟨qy h,Mt (R:=fun a b=>no a < no b) Int.lt_trans fun j hj=>?_⟩;have:=hat (j+1) hj;rw [fU no ok xs hj (by omega),bZ,decide_eq_true_eq] at this;exact this.2
 ·rintro ⟨h1,h2⟩
  rw [List.pairwise_iff_getElem] at h2;refine uc fun i hi=>?_
  rcases Nat.eq_zero_or_pos i with h0 | h0
  ·rw [fX no ok xs hi (by omega)];exact h1 _ (List.getElem_mem hi)
  ·rw [fU no ok xs hi h0,h1 _ (List.getElem_mem hi),decide_eq_true (h2 (i-1) i (by omega) hi (by omega))];rfl
theorem SY {bs:List bp}:j3 bs=true ↔ (∀ b∈bs,jZ b=true)/\bs.Pairwise (fun x y=>x.bH.less y.bH=true):=by
 constructor
 ·intro h;have hat:∀ i (hi:i < bs.length),mC bs i=true:=fun i hi=>List.all_eq_true.1 h i (List.mem_range.2 hi)
  refine ⟨fun x hx=>?_,IW h⟩;obtain ⟨i,hi,rfl⟩:=List.mem_iff_getElem.1 hx;have:=hat i hi;cases i with
  | zero=>rwa [jN hi] at this
  | succ j=>rw [iJ hi,bZ] at this;exact this.1
 ·rintro ⟨h1,h2⟩
  rw [List.pairwise_iff_getElem] at h2;refine pH fun i hi=>?_
  cases i with
  | zero=>rw [jN hi];exact h1 _ (List.getElem_mem hi)
  | succ j=>rw [iJ hi,h1 _ (List.getElem_mem hi),h2 j (j+1) (by omega) hi (by omega)];rfl
theorem pV {A:Type} {no:A->Int} {n:Int} {xs:List A}:decide (0<=fT no n xs)=true ↔ ∃ x∈xs,no x=n:=by
 rw [nw,List.any_eq_true];simp
theorem tT {A:Type} {no:A->Int} {n:Int} {z:A}:∀ {xs:List A},(∃ x∈xs,no x=n)->eP no n z xs∈xs/\no (eP no n z xs)=n
 | [],h=>by obtain ⟨x,hx,_⟩:=h;cases hx
 | x :: r,h=>by
  simp only [eP];split
  ·rename_i hx;exact ⟨by simp,hx⟩
  ·rename_i hx;obtain ⟨y,hy,hn⟩:=h;rcases List.mem_cons.1 hy with rfl | hy
   ·exact absurd hn hx
   ·obtain ⟨h1,h2⟩:=tT (z:=z) ⟨y,hy,hn⟩;exact ⟨by simp [h1],h2⟩
theorem tJ {A:Type} {no:A->Int} {n:Int} {z:A}:∀ {xs:List A},(∀ x∈xs,no x≠n)->eP no n z xs=z
 | [],_=>rfl
 | x :: r,h=>by
  simp only [eP];rw [if_neg (h x (by simp))];exact tJ fun y hy=>h y (by simp [hy])
theorem AI {A:Type} {no:A->Int} {n:Int} {z:A} {xs:List A} (hp:xs.Pairwise (fun a b=>no a < no b)) {x:A} (hx:x∈xs) (hn:no x=n):eP no n z xs=x:=by
 induction xs with
 | nil=>cases hx
 | cons y r ih =>
  rw [List.pairwise_cons] at hp;simp only [eP];rcases List.mem_cons.1 hx with rfl | hx
  ·rw [if_pos hn]
  ·have:=hp.1 x hx;rw [if_neg (by omega)];exact ih hp.2 hx
theorem EX {A:Type} {no:A->Int} {n:Int} {z:A} {xs ys:List A} (hp:ys.Pairwise (fun a b=>no a < no b)) (h:∀ x,no x=n->(x∈xs ↔ x∈ys)):eP no n z xs=eP no n z ys:=by
 by_cases hx:∃ x∈xs,no x=n
 ·obtain ⟨h1,h2⟩:=tT (z:=z) hx;exact (AI hp ((h _ h2).1 h1) h2).symm
 ·rw [tJ (fun x hm hn=>hx ⟨x,hm,hn⟩),tJ (fun x hm hn=>hx ⟨x,(h x hn).2 hm,hn⟩)]
theorem jf {B:Type} {f:Nat->List B} {n:Nat} {x:B}:x∈oq f n ↔ ∃ i,i < n/\x∈f i:=by
 simp [oq,List.mem_flatMap,List.mem_range]
theorem qX {B:Type} {R:B->B->Prop} {f:Nat->List B} {n:Nat} (h1:∀ i,i < n->(f i).Pairwise R) (h2:∀ i j,i < j->j < n->∀ x∈f i,∀ y∈f j,R x y):(oq f n).Pairwise R:=by
 induction n with
 | zero=>simp [oq]
 | succ n ih =>
  rw [iI,List.pairwise_append];refine ⟨ih (fun i hi=>h1 i (by omega)) (fun i j hij hj=>h2 i j hij (by omega)),h1 n (by omega),?_⟩;intro x hx y hy;obtain ⟨i,hi,hx⟩:=jf.1 hx;exact h2 i n hi (by omega) x hx y hy
theorem tE {B:Type} {R:B->B->Prop}:∀ {l:List B},l.length<=1->l.Pairwise R
 | [],_=>by simp
 | [x],_=>by simp
 | x :: y :: r,h=>by simp at h
theorem Wb {B:Type} {key:B->Int} {f:Nat->List B} {n:Nat} (h0:∀ i,i < n->(f i).length<=1) (hk:∀ i,i < n->∀ x∈f i,key x=(i:Int)+1):(oq f n).Pairwise (fun a b=>key a < key b):=by
 refine qX (fun i hi=>tE (h0 i hi)) fun i j hij hj x hx y hy=>?_
 rw [hk i (by omega) x hx,hk j hj y hy];omega
theorem Gu {A B:Type} {R:A->A->Prop} {S:B->B->Prop} {f:A->List B} {xs:List A} (hp:xs.Pairwise R) (h1:∀ a∈xs,(f a).Pairwise S) (h2:∀ a b,a∈xs->b∈xs->R a b->∀ x∈f a,∀ y∈f b,S x y):(xs.flatMap f).Pairwise S:=by
 induction xs with
 | nil=>simp
 | cons a r ih =>
  rw [List.pairwise_cons] at hp;rw [List.flatMap_cons,List.pairwise_append];refine ⟨h1 a (by simp),ih hp.2 (fun b hb=>h1 b (by simp [hb])) (fun b c hb hc=>h2 b c (by simp [hb]) (by simp [hc])),?_⟩;intro x hx y hy;obtain ⟨b,hb,hy⟩:=List.mem_flatMap.1 hy;exact h2 a b (by simp) (by simp [hb]) (hp.1 b hb) x hx y hy
theorem M7 {A:Type} {no:A->Int} {n:Int} {f:A->A} (hf:∀ x,no (f x)=no x) (xs:List A):(uz no n f xs).map no=xs.map no:=by
 induction xs with
 | nil=>rfl
 | cons x r ih=>simp only [uz];split<;>simp [ih,hf]
theorem Jl {A:Type} {no:A->Int} {n:Int} {f:A->A} {xs:List A} {y:A} (h:y∈uz no n f xs):y∈xs\/∃ x∈xs,y=f x:=by
 induction xs with
 | nil=>cases h
 | cons x r ih =>
  simp only [uz] at h;split at h
  ·rcases List.mem_cons.1 h with rfl | h
   ·exact .inr ⟨x,by simp,rfl⟩
   ·exact .inl (by simp [h])
  ·rcases List.mem_cons.1 h with rfl | h
   ·exact .inl (by simp)
   ·rcases ih h with h | ⟨z,hz,rfl⟩
    ·exact .inl (by simp [h])
    ·exact .inr ⟨z,by simp [hz],rfl⟩
theorem Je {A:Type} {no:A->Int} {xs ys:List A} (h:ys.map no=xs.map no) (hp:xs.Pairwise (fun a b=>no a < no b)):ys.Pairwise (fun a b=>no a < no b):=by
 have h1:(xs.map no).Pairwise (fun a b=>a < b):=List.pairwise_map.2 hp;rw [<- h] at h1;exact List.pairwise_map.1 h1
theorem Nf {A:Type} {no:A->Int} {n:Int} {xs ys:List A} (h:ys.map no=xs.map no):decide (0<=fT no n ys)=decide (0<=fT no n xs):=by
 rw [nw,nw];have e:∀ l:List A,l.any (fun x=>no x==n)=(l.map no).any (fun x=>x==n):=fun l=>by simp [List.any_map,Function.comp_def]
 rw [e,e,h]
theorem IZ {A:Type} {no:A->Int} {n w:Int} {f:A->A} {z:A} (hf:∀ x,no (f x)=no x) (xs:List A):eP no w z (uz no n f xs)=if w=n/\(∃ x∈xs,no x=n) then f (eP no w z xs) else eP no w z xs:=by
 induction xs with
 | nil=>simp [uz,eP]
 | cons x r ih =>
  simp only [uz];split
  ·rename_i hx;simp only [eP,hf]
   by_cases hw:w=n
   ·subst hw;rw [if_pos hx,if_pos hx,if_pos ⟨rfl,x,by simp,hx⟩]
   ·rw [if_neg (fun h=>hw (h.symm.trans hx)),if_neg (fun h=>hw h.1),if_neg (fun h=>hw (h.symm.trans hx))]
  ·rename_i hx;simp only [eP,ih]
   by_cases hxw:no x=w
   ·rw [if_pos hxw,if_pos hxw,if_neg]
    rintro ⟨rfl,_⟩;exact hx hxw
   ·rw [if_neg hxw,if_neg hxw];congr 1;simp only [List.mem_cons,exists_eq_or_imp,hx,false_or]
theorem eu {r:au}:r.okB=true ↔ ((∀ x∈r.ms,x.ok=true)/\r.ms.Pairwise (fun a b=>a.no < b.no))/\((∀ x∈r.ns,x.ok=true)/\r.ns.Pairwise (fun a b=>a.no < b.no))/\((∀ x∈r.xs,x.ok=true)/\r.xs.Pairwise (fun a b=>a.a < b.a)):=by
 simp only [au.okB,bZ,OY,and_assoc]
theorem tI {x:ak} (h:x.ok=true):(1<=x.no/\x.no<=16)/\(1<=x.state/\x.state<=3)/\0<=x.need/\x.need<=4611686018427387904:=by
 simp only [ak.ok,within,bP,bZ,decide_eq_true_eq] at h;omega
theorem AQ {x:aq} (h:x.ok=true):(1<=x.no/\x.no<=8)/\(0<=x.cur/\x.cur<=2)/\(1<=x.mult/\x.mult<=1024):=by
 simp only [aq.ok,within,bZ,decide_eq_true_eq] at h;omega
theorem Cy {x:av} (h:x.ok=true):(1<=x.a/\x.a<=6)/\(0<=x.b/\x.b<=2)/\(1<=x.c/\x.c<=1073741824):=by
 simp only [av.ok,within,bZ,decide_eq_true_eq] at h;omega
theorem xI {r:au} {w:Int}:eJ r w=true ↔ ∃ x∈r.ms,x.no=w:=pV
theorem rj {r:au} {w:Int}:bf r w=true ↔ ∃ x∈r.ns,x.no=w:=pV
theorem N3 {r:au} {w:Int}:jm r w=true ↔ ∃ x∈r.xs,x.a=w:=pV
theorem Fm {r:au} {w:Int} (h:eJ r w=true):fc r w∈r.ms/\(fc r w).no=w:=tT (xI.1 h)
theorem BF {r:au} {w:Int} (h:bf r w=true):aT r w∈r.ns/\(aT r w).no=w:=tT (rj.1 h)
theorem KE {r:au} (h:r.okB=true) {w:Int}:bC r w≠0 ↔ eJ r w=true:=by
 constructor
 ·intro hs;cases hm:eJ r w
  ·exact absurd (show bC r w=0 from by
    unfold bC fc;rw [tJ]
    ·rfl
    ·intro x hx hn
     rw [xI.2 ⟨x,hx,hn⟩] at hm;cases hm) hs
  ·rfl
 ·intro hm;have:=tI ((eu.1 h).1.1 _ (Fm hm).1);unfold bC;omega
theorem Hv {r:au} (h:r.okB=true) {w:Int} (hs:bC r w≠0):(1<=bC r w/\bC r w<=3)/\1<=w/\w<=16:=by
 have hm:=Fm ((KE h).1 hs);have:=tI ((eu.1 h).1.1 _ hm.1);rw [hm.2] at this;unfold bC;omega
theorem B7 {A:Type} {no:A->Int} {z m:A} {xs:List A} {N:Nat} {f:Nat->List A} (hp:xs.Pairwise (fun a b=>no a < no b)) (hx:∀ x∈xs,1<=no x/\no x<=N) (hm:1<=no m/\no m<=N)
  (hf:∀ i:Nat,i < N->f i=if (i:Int)+1=no m then [m] else if decide (0<=fT no ((i:Int)+1) xs)=true then [eP no ((i:Int)+1) z xs] else []) :
  (oq f N).Pairwise (fun a b=>no a < no b)/\∀ x,x∈oq f N ↔ x=m\/(x∈xs/\no x≠no m):=by
 refine ⟨Wb (key:=no) (fun i hi=>?_) (fun i hi x hx=>?_),fun x=>?_⟩
 ·rw [hf i hi];split
  ·simp
  ·split<;>simp
 ·rw [hf i hi] at hx;split at hx
  ·rename_i h;simp only [List.mem_singleton] at hx;rw [hx,h]
  ·split at hx
   ·rename_i h;simp only [List.mem_singleton] at hx;rw [hx];exact (tT (pV.1 h)).2
   ·cases hx
 ·rw [jf];constructor
  ·rintro ⟨i,hi,h⟩
   rw [hf i hi] at h;split at h
   ·simp only [List.mem_singleton] at h;exact .inl h
   ·rename_i hne;split at h
    ·rename_i hh;simp only [List.mem_singleton] at h;have hg:=tT (z:=z) (pV.1 hh);rw [<- h] at hg;exact .inr ⟨hg.1,by rw [hg.2];exact hne⟩
    ·cases h
  ·rintro (rfl | ⟨h1,h2⟩)
   ·refine ⟨(no x-1).toNat,by omega,?_⟩;rw [hf _ (by omega),if_pos (by omega)];simp
   ·have hr:=hx x h1;refine ⟨(no x-1).toNat,by omega,?_⟩;have e:(((no x-1).toNat:Nat):Int)+1=no x:=by omega
    rw [hf _ (by omega),e,if_neg h2,if_pos (pV.2 ⟨x,h1,rfl⟩),AI hp h1 rfl];simp
structure au.ext (r r':au):Prop where
 st:∀ w,bC r w≠0->bC r' w=bC r w
 inst:∀ n,bf r n=true->bf r' n=true
 same:∀ n,bf r n=true->(aT r' n).mult=(aT r n).mult/\(aT r' n).cur=(aT r n).cur
 ast:∀ n,jm r n=true->jm r' n=true
theorem HL {r:au} {w n:Int} (h:iG r w n=0):(jJ r w n).okB=true/\r.ext (jJ r w n):=by
 unfold jJ;rw [if_pos h];unfold iG at h;split at h
 case isFalse=>cases h
 rename_i hr;split at h
 case isFalse=>cases h
 rename_i hm;split at h
 ·cases h
 rename_i hi;have hr0:=hr;rw [eu] at hr;obtain ⟨⟨o1,p1⟩,h2,h3⟩:=hr;have hmk:=tI hm;dsimp only at hmk
 have hP:=B7 (no:=ak.no) (z:=ak.zero) (m:=⟨w,1,n⟩) (N:=16) (f:=Gi r ⟨w,1,n⟩) p1 (fun x hx=>by have:=tI (o1 x hx);omega) (by dsimp only;omega) (by
  intro i _;unfold Gi;dsimp only
  by_cases e:(i:Int)+1=w
  ·rw [e,if_neg hi];simp
  ·have e':((i:Int)+1==w)=false:=by simpa using e
   rw [e',if_neg e];simp only [eJ,fc,fY,if_false,List.append_nil]
   rfl)
 obtain ⟨q1,q2⟩:=hP;refine ⟨eu.2 ⟨⟨fun x hx=>?_,q1⟩,h2,h3⟩,⟨fun v hv=>?_,fun _ h=>h,fun _ _=>⟨rfl,rfl⟩,fun _ h=>h⟩⟩
 ·rcases (q2 x).1 hx with rfl | h
  ·exact hm
  ·exact o1 x h.1
 ·have hv:=(KE hr0).1 hv;unfold bC fc;congr 1;refine EX p1 fun x hx=>?_
  rw [q2 x];constructor
  ·rintro (rfl | h)
   ·dsimp only at hx;rw [hx] at hi;exact absurd hv hi
   ·exact h.1
  ·intro h;refine .inr ⟨h,?_⟩;dsimp only
   rintro rfl
   rw [hx] at hi;exact hi hv
theorem Mm {r:au} {i:aq} (h:mz r i=0):(nW r i).okB=true/\r.ext (nW r i):=by
 unfold nW;rw [if_pos h];unfold mz at h;split at h
 case isFalse=>cases h
 rename_i hr;split at h
 case isFalse=>cases h
 rename_i hm;split at h
 ·cases h
 rename_i hi;rw [eu] at hr;obtain ⟨h1,⟨o1,p1⟩,h3⟩:=hr;have hmk:=AQ hm
 have hP:=B7 (no:=aq.no) (z:=aq.zero) (m:=i.bare) (N:=8) (f:=D0 r i.bare) p1 (fun x hx=>by have:=AQ (o1 x hx);omega) (by omega) (by
  intro k _;unfold D0
  by_cases e:(k:Int)+1=i.bare.no
  ·have e2:bf r ((k:Int)+1)=false:=by
    rw [e];have:bf r i.bare.no=bf r i.no:=rfl;rw [this];simpa using hi
   rw [e2,e];simp
  ·have e':((k:Int)+1==i.bare.no)=false:=by simpa using e
   rw [e',if_neg e];simp only [bf,aT,fY,if_false,List.append_nil]
   rfl)
 obtain ⟨q1,q2⟩:=hP;refine ⟨eu.2 ⟨h1,⟨fun x hx=>?_,q1⟩,h3⟩,⟨fun _ _=>rfl,fun n hn=>?_,fun n hn=>?_,fun _ h=>h⟩⟩
 ·rcases (q2 x).1 hx with rfl | h
  ·exact hm
  ·exact o1 x h.1
 ·rw [rj] at hn |-;obtain ⟨x,hx,hxn⟩:=hn;refine ⟨x,(q2 x).2 (.inr ⟨hx,fun e=>hi ?_⟩),hxn⟩;rw [rj];exact ⟨x,hx,e⟩
 ·have e:aT (⟨r.ms,oq (D0 r i.bare) 8,r.xs⟩:au) n=aT r n:=by
   unfold aT;refine EX p1 fun x hx=>?_
   rw [q2 x];constructor
   ·rintro (rfl | h)
    ·have hx:i.no=n:=hx;rw [hx] at hi;exact absurd hn hi
    ·exact h.1
   ·intro h;refine .inr ⟨h,fun e=>hi ?_⟩;rw [rj];exact ⟨x,h,e⟩
  rw [e];exact ⟨rfl,rfl⟩
theorem MJ {r:au} {a:av} (h:mD r a=0):(nT r a).okB=true/\r.ext (nT r a):=by
 unfold nT;rw [if_pos h];unfold mD at h;split at h
 case isFalse=>cases h
 rename_i hr;split at h
 case isFalse=>cases h
 rename_i hm;rw [bZ] at hm;have hm:=hm.1;rw [eu] at hr;obtain ⟨h1,h2,⟨o1,p1⟩⟩:=hr;have hmk:=Cy hm
 have hP:=B7 (no:=av.a) (z:=(⟨0,0,0,0⟩:av)) (m:=a) (N:=6) (f:=G6 r a) p1 (fun x hx=>by have:=Cy (o1 x hx);omega) (by omega) (by
  intro k _;unfold G6
  by_cases e:(k:Int)+1=a.a
  ·rw [e];simp
  ·have e':((k:Int)+1==a.a)=false:=by simpa using e
   rw [e',if_neg e];simp only [jm,lM,fY,if_false]
   rfl)
 obtain ⟨q1,q2⟩:=hP;refine ⟨eu.2 ⟨h1,h2,⟨fun x hx=>?_,q1⟩⟩,⟨fun _ _=>rfl,fun _ h=>h,fun _ _=>⟨rfl,rfl⟩,fun n hn=>?_⟩⟩
 ·rcases (q2 x).1 hx with rfl | h
  ·exact hm
  ·exact o1 x h.1
 ·rw [N3] at hn |-;obtain ⟨x,hx,hxn⟩:=hn
  by_cases e:x.a=a.a
  ·exact ⟨a,(q2 a).2 (.inl rfl),by rw [<- e];exact hxn⟩
  ·exact ⟨x,(q2 x).2 (.inr ⟨hx,e⟩),hxn⟩
theorem Th {x:aq} {p:Int} (h:x.ok=true) (hp:1<=p/\p<=1073741824):(x.told p).ok=true:=by
 have e:(x.told p).HG=x.HG:=by
  have:(x.told p).sh=x.sh:=by funext i;rcases i with _ | _ | _ | _ | _ | i<;>rfl
  simp only [aq.HG,this]
 have e2:(x.told p).ok=(x.HG&&within x.no 1 8&&within x.cur 0 2&&within x.mult 1 1024&&within x.add 0 1073741824&&within p 0 1073741824&&within x.aR 0 1073741824):=by
  unfold aq.ok;rw [e];rfl
 rw [e2];simp only [aq.ok,within,bZ,decide_eq_true_eq] at h |-;obtain ⟨⟨⟨⟨⟨⟨h0,h1⟩,h2⟩,h3⟩,h4⟩,h5⟩,h6⟩:=h;exact ⟨⟨⟨⟨⟨⟨h0,h1⟩,h2⟩,h3⟩,h4⟩,⟨by omega,by omega⟩⟩,h6⟩
theorem SR {x:aq} (h:x.ok=true):x.pS.ok=true:=by
 unfold aq.pS;split
 ·exact h
 rename_i hs;have hs:x.set≠0:=by simpa using hs
 have e:aq.HG { x with aR:=x.set,set:=0 }=x.HG:=by
  have:aq.sh { x with aR:=x.set,set:=0 }=x.sh:=by funext i;rcases i with _ | _ | _ | _ | _ | i<;>rfl
  simp only [aq.HG,this]
 have e2:aq.ok { x with aR:=x.set,set:=0 }=(x.HG&&within x.no 1 8&&within x.cur 0 2&&within x.mult 1 1024&&within x.add 0 1073741824&&within 0 0 1073741824&&within x.set 0 1073741824):=by
  unfold aq.ok;rw [e]
 rw [e2];simp only [aq.ok,within,bZ,decide_eq_true_eq] at h |-;obtain ⟨⟨⟨⟨⟨⟨h0,h1⟩,h2⟩,h3⟩,h4⟩,h5⟩,h6⟩:=h;exact ⟨⟨⟨⟨⟨⟨h0,h1⟩,h2⟩,h3⟩,h4⟩,⟨by omega,by omega⟩⟩,h5⟩
theorem Nb (x:aq):x.pS.no=x.no:=by unfold aq.pS;split<;>rfl
theorem ME {r:au} {n p:Int} (h:uA r n p=0):(uZ r n p).okB=true/\r.ext (uZ r n p):=by
 unfold uZ;rw [if_pos h];unfold uA at h;split at h
 case isFalse=>cases h
 rename_i hr;split at h
 case isFalse=>cases h
 split at h
 case isFalse=>cases h
 rename_i hp;simp only [within,bZ,decide_eq_true_eq] at hp;rw [eu] at hr;obtain ⟨h1,⟨o1,p1⟩,h3⟩:=hr;have hno:=M7 (no:=aq.no) (n:=n) (f:=aq.told p) (fun _=>rfl) r.ns;refine ⟨eu.2 ⟨h1,⟨fun x hx=>?_,Je hno p1⟩,h3⟩,⟨fun _ _=>rfl,fun m hm=>?_,fun m hm=>?_,fun _ h=>h⟩⟩
 ·rcases Jl hx with h | ⟨y,hy,rfl⟩
  ·exact o1 x h
  ·exact Th (o1 y hy) hp
 ·unfold bf at hm |-;rw [<- hm];exact Nf hno
 ·unfold aT;dsimp only;rw [IZ (no:=aq.no) (f:=aq.told p) (fun _=>rfl)];split<;>exact ⟨rfl,rfl⟩
theorem HZ {r:au} (hr:r.okB=true):(Ix r).okB=true/\r.ext (Ix r):=by
 rw [eu] at hr;obtain ⟨h1,⟨o1,p1⟩,h3⟩:=hr
 have hno:(r.ns.map aq.pS).map aq.no=r.ns.map aq.no:=by
  rw [List.map_map];exact List.map_congr_left fun x _=>Nb x
 refine ⟨eu.2 ⟨h1,⟨fun x hx=>?_,Je hno p1⟩,h3⟩,⟨fun _ _=>rfl,fun m hm=>?_,fun m hm=>?_,fun _ h=>h⟩⟩
 ·obtain ⟨y,hy,rfl⟩:=List.mem_map.1 hx;exact SR (o1 y hy)
 ·unfold bf at hm |-;rw [<- hm];exact Nf hno
 ·obtain ⟨m1,m2⟩:=BF hm;have e:aT (Ix r) m=(aT r m).pS:=AI (no:=aq.no) (Je hno p1) (List.mem_map.2 ⟨_,m1,rfl⟩) (by rw [Nb];exact m2);rw [e];unfold aq.pS;split<;>exact ⟨rfl,rfl⟩
theorem Dw {r:au} {n p:Int} (h:Ak r n p=0):(lR r n p).okB=true/\(∀ w,bC (lR r n p) w=if w=n then p else bC r w)/\(lR r n p).ns=r.ns/\(lR r n p).xs=r.xs:=by
 unfold lR;rw [if_pos h];unfold Ak at h;split at h
 case isFalse=>cases h
 rename_i hr;split at h
 case isFalse=>cases h
 rename_i hi;split at h
 case isFalse=>cases h
 rename_i hp;simp only [within,bZ,decide_eq_true_eq] at hp;rw [eu] at hr;obtain ⟨⟨o1,p1⟩,h2,h3⟩:=hr;have hno:=M7 (no:=ak.no) (n:=n) (f:=ak.put p) (fun _=>rfl) r.ms;refine ⟨eu.2 ⟨⟨fun x hx=>?_,Je hno p1⟩,h2,h3⟩,fun w=>?_,rfl,rfl⟩
 ·rcases Jl hx with h | ⟨y,hy,rfl⟩
  ·exact o1 x h
  ·have:=o1 y hy;have e2:(y.put p).ok=(within y.no 1 16&&within p 1 3&&bP y.need&&decide (0<=y.need)):=rfl;rw [e2];simp only [ak.ok,within,bZ,decide_eq_true_eq] at this |-;exact ⟨⟨⟨this.1.1.1,hp⟩,this.1.2⟩,this.2⟩
 ·unfold bC fc;dsimp only;rw [IZ (no:=ak.no) (f:=ak.put p) (fun _=>rfl)]
  by_cases hw:w=n
  ·rw [if_pos ⟨hw,xI.1 hi⟩,if_pos hw];rfl
  ·rw [if_neg (fun h=>hw h.1),if_neg hw]
theorem Em {a b:aH}:a.same b=true ↔ a=b:=by
 obtain ⟨a1,a2,a3⟩:=a;obtain ⟨b1,b2,b3⟩:=b;simp only [aH.same,bZ,beq_iff_eq,aH.mk.injEq]
theorem tM {a:aH} {b:bp}:SN a b=true ↔ b.bH=a:=by
 obtain ⟨a1,a2,a3⟩:=a;obtain ⟨b1,b2,b3,b4⟩:=b;simp only [SN,bp.bH,bZ,beq_iff_eq,aH.mk.injEq]
theorem qB {a:aH} (h:a.less a=true):False:=by rw [mq] at h;omega
def tot {A:Type} (L:List A) (F:A->Int):Int:=az (L.map F)
theorem eR {A:Type} (x:A) (L:List A) (F:A->Int):tot (x :: L) F=F x+tot L F:=rfl
theorem gT {A:Type} (L:List A) (F G:A->Int):tot L (fun a=>F a+G a)=tot L F+tot L G:=by
 induction L with
 | nil=>rfl
 | cons x r ih=>simp only [eR,ih];omega
theorem gp {A:Type} {L:List A} {F:A->Int} (h:∀ a∈L,F a=0):tot L F=0:=by
 induction L with
 | nil=>rfl
 | cons x r ih=>rw [eR,h x (by simp),ih fun a ha=>h a (by simp [ha])];rfl
theorem cq {A:Type} {L:List A} {F G:A->Int} (h:∀ a∈L,F a=G a):tot L F=tot L G:=by
 induction L with
 | nil=>rfl
 | cons x r ih=>rw [eR,eR,h x (by simp),ih fun a ha=>h a (by simp [ha])]
theorem vW {A:Type} {L:List A} {R:A->A->Prop} (hp:L.Pairwise R) {x:A} (hx:x∈L) {F:A->Int} (h0:∀ a,(R a x\/R x a)->F a=0):tot L F=F x:=by
 induction L with
 | nil=>cases hx
 | cons y r ih =>
  rw [List.pairwise_cons] at hp;rw [eR];rcases List.mem_cons.1 hx with rfl | hx
  ·rw [gp fun a ha=>h0 a (.inr (hp.1 a ha))];omega
  ·rw [ih hp.2 hx,h0 y (.inl (hp.1 x hx))];omega
theorem GY {k w c:Nat} {x:aH}:x∈acc k w c ↔ x=⟨(k:Int)+1,w,c⟩/\x.right=true:=by
 unfold acc;split
 ·rename_i h;simp only [List.mem_singleton];constructor
  ·rintro rfl;exact ⟨rfl,h⟩
  ·exact fun h=>h.1
 ·rename_i h;constructor
  ·intro h;cases h
  ·rintro ⟨rfl,h2⟩;exact absurd h2 h
theorem BZ {k w n:Nat} {x:aH}:x∈xX k w n ↔ ∃ c,c < n/\x=⟨(k:Int)+1,w,(c:Nat)⟩/\x.right=true:=by
 rw [show xX k w n=oq (acc k w) n from rfl,jf];simp only [GY]
theorem CH {k n:Nat} {x:aH}:x∈yE k n ↔ ∃ w,w < n/\∃ c,c < 3/\x=⟨(k:Int)+1,(w:Nat),(c:Nat)⟩/\x.right=true:=by
 rw [show yE k n=oq (fun w=>xX k w 3) n from rfl,jf];simp only [BZ]
theorem QY {n:Nat} {x:aH}:x∈Cf n ↔ ∃ k,k < n/\∃ w,w < 17/\∃ c,c < 3/\x=⟨((k:Nat):Int)+1,(w:Nat),(c:Nat)⟩/\x.right=true:=by
 rw [show Cf n=oq (fun k=>yE k 17) n from rfl,jf];simp only [CH]
theorem qE {x:aH} (h:x.right=true):(1<=x.kind/\x.kind<=6)/\(0<=x.who/\x.who<=16)/\0<=x.cur/\x.cur<=2:=by
 unfold aH.right at h;split at h
 ·cases h
 ·split at h
  ·simp only [bZ,decide_eq_true_eq] at h;omega
  ·simp only [beq_iff_eq] at h;omega
theorem xu {x:aH}:x∈gE ↔ x.right=true:=by
 unfold gE;rw [QY];constructor
 ·rintro ⟨_,_,_,_,_,_,_,h⟩;exact h
 ·intro h;have:=qE h;refine ⟨(x.kind-1).toNat,by omega,x.who.toNat,by omega,x.cur.toNat,by omega,?_,h⟩;obtain ⟨a,b,c⟩:=x;dsimp only at this |-;rw [aH.mk.injEq];omega
theorem xe:gE.Pairwise (fun a b=>a.less b=true):=by
 unfold gE;rw [show Cf 6=oq (fun k=>yE k 17) 6 from rfl];refine qX (fun k _=>?_) fun i j hij _ x hx y hy=>?_
 ·rw [show yE k 17=oq (fun w=>xX k w 3) 17 from rfl];refine qX (fun w _=>?_) fun i j hij _ x hx y hy=>?_
  ·rw [show xX k w 3=oq (acc k w) 3 from rfl];refine qX (fun c _=>tE (by unfold acc;split<;>simp)) fun i j hij _ x hx y hy=>?_
   obtain ⟨rfl,_⟩:=GY.1 hx;obtain ⟨rfl,_⟩:=GY.1 hy;rw [mq];dsimp only;omega
  ·obtain ⟨_,_,rfl,_⟩:=BZ.1 hx;obtain ⟨_,_,rfl,_⟩:=BZ.1 hy;rw [mq];dsimp only;omega
 ·obtain ⟨_,_,_,_,rfl,_⟩:=CH.1 hx;obtain ⟨_,_,_,_,rfl,_⟩:=CH.1 hy;rw [mq];dsimp only;omega
def yY (c:Int) (a:aH) (n:Int):Int:=if a.cur=c then n else 0
theorem wQ (c:Int) (b:bp) (n:Int):yY c b.bH n=if b.cur=c then n else 0:=rfl
theorem Sb (c:Int) (b:aW) (n:Int):yY c b.bH n=if b.cur=c then n else 0:=rfl
theorem U9 (c:Int) (a:aH) (m n:Int):yY c (bp.bH ⟨a.kind,a.who,a.cur,m⟩) n=yY c a n:=rfl
theorem uf (c:Int) (b:bp) (r:List bp):az (fN c (b :: r))=yY c b.bH b.sum+az (fN c r):=by
 rw [wQ];simp only [fN,List.filter_cons]
 by_cases h:b.cur=c
 ·rw [if_pos (by simpa using h),if_pos h];rfl
 ·rw [if_neg (by simpa using h),if_neg h];simp
theorem Rm (c:Int) (a b:List bp):fN c (a++b)=fN c a++fN c b:=by simp [fN]
theorem Rp (c:Int) (S:aH->Int) (L:List aH):az (fN c (L.flatMap fun a=>qg a (S a)))=tot L fun a=>yY c a (S a):=by
 induction L with
 | nil=>rfl
 | cons x r ih =>
  rw [List.flatMap_cons,Rm,cY,ih,eR];congr 1;unfold qg;split
  ·rename_i h;have h:S x=0:=by simpa using h
   rw [h];simp [fN,az,yY]
  ·rw [uf,U9];simp [fN,az]
theorem wA {a:aH}:∀ {bs:List bp},(∀ b∈bs,b.bH≠a)->gw a bs=0
 | [],_=>rfl
 | b :: r,h=>by
  simp only [gw];rw [if_neg (fun hh=>h b (by simp) (tM.1 hh))];exact wA fun x hx=>h x (by simp [hx])
theorem Rb (c:Int):∀ {bs:List bp},(∀ b∈bs,b.bH.right=true)->bs.Pairwise (fun x y=>x.bH.less y.bH=true)->tot gE (fun a=>yY c a (gw a bs))=az (fN c bs)
 | [],_,_=>gp fun a _=>by simp [gw,yY]
 | b :: r,h1,h2=>by
  rw [List.pairwise_cons] at h2;rw [uf,<- Rb c (fun x hx=>h1 x (by simp [hx])) h2.2]
  have e:∀ a∈gE,yY c a (gw a (b :: r))=(if b.bH=a then yY c a b.sum else 0)+yY c a (gw a r):=by
   intro a _;simp only [gw]
   by_cases hb:b.bH=a
   ·rw [if_pos (tM.2 hb),if_pos hb];rw [wA (bs:=r) (fun x hx hxa=>by have:=h2.1 x hx;rw [hb,hxa] at this;exact qB this)];simp [yY]
   ·rw [if_neg (fun hh=>hb (tM.1 hh)),if_neg hb];omega
  rw [cq e,gT];congr 1;rw [vW xe (x:=b.bH) (xu.2 (h1 b (by simp)))]
  ·simp
  ·intro a ha;rw [if_neg]
   rintro rfl
   rcases ha with h | h<;>exact qB h
theorem lV (a:aH) (x:aW) (g:List aW):az (dL a (x :: g))=(if x.bH=a then x.bW else 0)+az (dL a g):=by
 simp only [dL,pick,List.flatMap_cons,cY];congr 1
 by_cases h:x.bH=a
 ·rw [if_pos (Em.2 h),if_pos h];simp [az]
 ·rw [if_neg (fun hh=>h (Em.1 hh)),if_neg h];rfl
theorem Oa (c:Int) (x:aW) (g:List aW):az (qb c (x :: g))=yY c x.bH x.bW+az (qb c g):=by
 simp only [qb,pick,List.flatMap_cons,cY];congr 1;rw [Sb]
 by_cases h:x.cur=c
 ·rw [if_pos (by simpa using h),if_pos h];simp [az]
 ·rw [if_neg (by simpa using h),if_neg h];rfl
theorem HT (c:Int):∀ {g:List aW},(∀ x∈g,x.bH.right=true)->tot gE (fun a=>yY c a (az (dL a g)))=az (qb c g)
 | [],_=>gp fun a _=>by simp [dL,pick,yY,az]
 | x :: r,h1=>by
  rw [Oa,<- HT c (fun y hy=>h1 y (by simp [hy]))]
  have e:∀ a∈gE,yY c a (az (dL a (x :: r)))=(if x.bH=a then yY c a x.bW else 0)+yY c a (az (dL a r)):=by
   intro a _;rw [lV]
   by_cases hb:x.bH=a
   ·rw [if_pos hb,if_pos hb];simp only [yY];split<;>omega
   ·rw [if_neg hb,if_neg hb];simp only [Int.zero_add]
  rw [cq e,gT];congr 1;rw [vW xe (x:=x.bH) (xu.2 (h1 x (by simp)))]
  ·simp
  ·intro a ha;rw [if_neg]
   rintro rfl
   rcases ha with h | h<;>exact qB h
theorem xm {bs:List bp} {c:Int}:jK bs c=true ↔ right (fN c bs)=true/\az (fN c bs)=0:=by
 simp only [jK,ru,rz,bZ,beq_iff_eq];constructor
 ·rintro ⟨h1,h2⟩
  split at h1
  ·rename_i hr;split at h1
   ·rename_i hi;rw [hr,hi] at h2;exact ⟨hr,by simpa using h2⟩
   ·cases h1
  ·cases h1
 ·rintro ⟨hr,hs⟩
  rw [if_pos hr,hs,hr];exact ⟨rfl,rfl⟩
theorem iT {l:bq}:l.okB=true ↔ 0<=l.last/\((∀ b∈l.bs,jZ b=true)/\l.bs.Pairwise (fun x y=>x.bH.less y.bH=true))/\jK l.bs 0=true/\jK l.bs 1=true/\jK l.bs 2=true:=by
 simp only [bq.okB,bZ,SY,decide_eq_true_eq,and_assoc]
theorem qw {l:bq} (h:l.okB=true):∀ b∈l.bs,b.bH.right=true:=fun b hb=>by
 have:=(iT.1 h).2.1.1 b hb;simp only [jZ,bZ] at this;exact this.1
theorem JP {l:bq} {id:Int} {g:List aW} (h:eI l id g=0):l.okB=true/\(1<=id/\id<=1099511627776)/\sn g=0/\wH l g gE=true/\tv l g gE=false:=by
 unfold eI at h;split at h
 case isFalse=>cases h
 rename_i h1;split at h
 case isFalse=>cases h
 rename_i h2;split at h
 ·cases h
 split at h
 case isFalse h3=>exact absurd h h3
 rename_i h3;split at h
 case isFalse=>cases h
 rename_i h4;split at h
 ·cases h
 rename_i h5;simp only [within,bZ,decide_eq_true_eq] at h2;exact ⟨h1,h2,h3,h4,by simpa using h5⟩
theorem IK {l:bq} {id:Int} {g:List aW} (h:eI l id g=0):(gF l id g).okB=true:=by
 unfold gF;rw [if_pos h];obtain ⟨h1,h2,h3,h4,h5⟩:=JP h;obtain ⟨m1,m2,m3⟩:=Jf h3
 have hmr:∀ x∈g,x.bH.right=true:=fun x hx=>by
  have:=List.all_eq_true.1 m1 x hx;simp only [M1,bZ] at this;exact this.1
 have hb:=iT.1 h1
 have hal:∀ b∈DI l g gE,∃ a∈gE,b=⟨a.kind,a.who,a.cur,mF l g a⟩/\mF l g a≠0:=by
  intro b hb;obtain ⟨a,ha,hb⟩:=List.mem_flatMap.1 hb;unfold qg at hb;split at hb
  ·cases hb
  ·rename_i hne;simp only [List.mem_singleton] at hb;exact ⟨a,ha,hb,by simpa using hne⟩
 have hin:∀ a∈gE,bP (mF l g a)=true:=fun a ha=>List.all_eq_true.1 h4 a ha
 have hcur:∀ c:Int,jK l.bs c=true->az (qb c g)=0->jK (DI l g gE) c=true:=by
  intro c hc hg;rw [xm] at hc |-;constructor
  ·refine List.all_eq_true.2 fun n hn=>?_
   simp only [fN,List.mem_map,List.mem_filter] at hn;obtain ⟨b,⟨hb,_⟩,rfl⟩:=hn;obtain ⟨a,ha,rfl,_⟩:=hal b hb;exact hin a ha
  ·have e:=Rp c (mF l g) gE;rw [show DI l g gE=gE.flatMap fun a=>qg a (mF l g a) from rfl,e]
   have e2:∀ a∈gE,yY c a (mF l g a)=yY c a (gw a l.bs)+yY c a (az (dL a g)):=fun a _=>by
    simp only [mF,az,yY];split<;>omega
   rw [cq e2,gT,Rb c (qw h1) hb.2.1.2,HT c hmr,hc.2,hg];rfl
 have hfl:∀ c:Nat,c < 3->az (qb c g)=0:=fun c hc=>by
  have:=List.all_eq_true.1 m2 c (List.mem_range.2 hc);simpa using this
 refine iT.2 ⟨by dsimp only;omega,⟨fun b hb=>?_,?_⟩,hcur 0 hb.2.2.1 (hfl 0 (by omega)),hcur 1 hb.2.2.2.1 (hfl 1 (by omega)),hcur 2 hb.2.2.2.2 (hfl 2 (by omega))⟩
 ·obtain ⟨a,ha,rfl,hne⟩:=hal b hb;rw [show jZ ⟨a.kind,a.who,a.cur,mF l g a⟩=(a.right&&(bP (mF l g a)&&(mF l g a != 0&&!decide (mF l g a < a.floor)))) from rfl];simp only [bZ,bne_iff_ne,Bool.not_eq_true',decide_eq_false_iff_not];refine ⟨xu.1 ha,hin a ha,hne,fun hlt=>?_⟩;have:tv l g gE=true:=List.any_eq_true.2 ⟨a,ha,by simpa using hlt⟩;rw [h5] at this;cases this
 ·refine Gu (f:=fun a=>qg a (mF l g a)) xe (fun a _=>tE (JV _ _)) fun a b _ _ hab x hx y hy=>?_
  have key:∀ (a:aH) (x:bp),x∈qg a (mF l g a)->x.bH=a:=fun a x hx=>by
   unfold qg at hx;split at hx
   ·cases hx
   ·simp only [List.mem_singleton] at hx;rw [hx];rfl
  rw [key a x hx,key b y hy];exact hab
theorem Ff {l:bq} {g:List aW} {e:Int} (h:l.okB=true) (h0:(fu l g e).2=0):(fu l g e).1.okB=true:=by
 unfold fu at h0 |-;split
 ·rename_i hc;rw [if_pos hc] at h0;exact IK h0
 ·exact h
theorem Fv {a b:aA}:fO a b=true ↔ a.who < b.who\/(a.who=b.who/\a.inst < b.inst):=by
 simp only [fO,Ca,Bool.or_eq_true,bZ,decide_eq_true_eq,beq_iff_eq]
theorem QH {a b c:aA} (h1:fO a b=true) (h2:fO b c=true):fO a c=true:=by
 simp only [fO,Ca,Bool.or_eq_true,bZ,decide_eq_true_eq,beq_iff_eq] at h1 h2 |-;omega
theorem LI {a b c:aI} (h1:eo a b=true) (h2:eo b c=true):eo a c=true:=by
 simp only [eo,decide_eq_true_eq] at h1 h2 |-;omega
theorem KY {n:Int} {l:List aA}:kn n l=true ↔ right (bR n l)=true/\az (bR n l)=0:=by
 simp only [kn,ru,rz,bZ,beq_iff_eq];constructor
 ·rintro ⟨h1,h2⟩
  split at h1
  ·rename_i hr;split at h1
   ·rename_i hi;rw [hr,hi] at h2;exact ⟨hr,by simpa using h2⟩
   ·cases h1
  ·cases h1
 ·rintro ⟨hr,hs⟩
  rw [if_pos hr,hs,hr];exact ⟨rfl,rfl⟩
theorem jE {p:aA}:p.okB=true ↔ (1<=p.who/\p.who<=16)/\(1<=p.inst/\p.inst<=8)/\(-1099511627776<=p.aV/\p.aV<=1099511627776)/\bP p.cost=true /\ ¬ (p.aV=0/\p.cost=0):=by
 simp only [aA.okB,oA,within,bZ,decide_eq_true_eq,Bool.not_eq_true',Bool.and_eq_false_iff,beq_eq_false_iff_ne,ne_eq];constructor
 ·rintro ⟨⟨h1,h2⟩,h3,h4,h5⟩;exact ⟨h1,h2,h3,h4,fun h=>by rcases h5 with h5 | h5<;>omega⟩
 ·rintro ⟨h1,h2,h3,h4,h5⟩;refine ⟨⟨h1,h2⟩,h3,h4,?_⟩;omega
structure aF.right (b:aF):Prop where
 ok:∀ p∈b.qs,p.okB=true
 pw:b.qs.Pairwise (fun x y=>fO x y=true)
 level:∀ n:Int,1<=n->n<=8->az (bR n b.qs)=0
 tok:∀ t∈b.ts,eL b.next t=true
 XE:b.ts.Pairwise (fun x y=>x.no < y.no)
 tl:b.ts.length<=128
 n0:0<=b.next
 n1:b.next<=1099511627776
theorem dG {b:aF}:b.okB=true ↔ b.right:=by
 simp only [aF.okB,bZ,oM (lt:=fO) QH,oM (lt:=eo) LI,Bool.not_eq_true',decide_eq_false_iff_not,lG,List.all_eq_true,KY];constructor
 ·rintro ⟨⟨h1,h2⟩,⟨h3,h4⟩,h5,h6,h7,h8⟩
  refine ⟨h1,h2,fun n hn hn2=>?_,h3,h4.imp fun h=>by simpa [eo] using h,by omega,by omega,by omega⟩;have:=(h5 (n-1).toNat (List.mem_range.2 (by omega))).2
  rwa [show (((n-1).toNat:Nat):Int)+1=n by omega] at this
 ·intro h;refine ⟨⟨h.ok,h.pw⟩,⟨h.tok,h.XE.imp fun h=>by simpa [eo] using h⟩,fun i hi=>⟨?_,h.level _ (by omega) (by have:=List.mem_range.1 hi;omega)⟩,by have:=h.tl;omega,by have:=h.n0;omega,by have:=h.n1;omega⟩;refine List.all_eq_true.2 fun q hq=>?_
  simp only [bR,List.mem_map,List.mem_filter] at hq;obtain ⟨p,⟨hp,_⟩,rfl⟩:=hq;have:=(jE.1 (h.ok p hp)).2.2.1;rw [cm];omega
theorem EZ (n:Int) (a b:List aA):bR n (a++b)=bR n a++bR n b:=by simp [bR]
theorem jI (n:Int) (p:aA) (r:List aA):az (bR n (p :: r))=(if p.inst=n then p.aV else 0)+az (bR n r):=by
 simp only [bR,List.filter_cons]
 by_cases h:p.inst=n
 ·rw [if_pos (by simpa using h),if_pos h];rfl
 ·rw [if_neg (by simpa using h),if_neg h];simp
theorem vp {A:Type} (n:Int) (f:A->List aA) (L:List A):az (bR n (L.flatMap f))=tot L (fun a=>az (bR n (f a))):=by
 induction L with
 | nil=>rfl
 | cons x r ih=>rw [List.flatMap_cons,EZ,cY,ih];rfl
theorem Ns (b:aF) (g:List aA) (w m n:Int):az (bR n (DS b g w m))=if m=n then Fz b g w m else 0:=by
 unfold DS;split
 ·rename_i h;simp only [bZ,beq_iff_eq] at h;rw [h.1];split<;>rfl
 ·rw [jI];simp [bR,az]
theorem CT (n:Nat):(List.range n).Pairwise (fun a b=>a < b):=List.pairwise_lt_range
theorem Ov (b:aF) (g:List aA) (w n:Int) (h1:1<=n) (h8:n<=8):az (bR n (Ky b g w 8))=Fz b g w n:=by
 unfold Ky;rw [vp]
 have e:∀ k∈List.range 8,az (bR n (DS b g w ((k:Int)+1)))=if (k:Int)+1=n then Fz b g w n else 0:=fun k _=>by
  rw [Ns];split
  ·rename_i h;rw [h]
  ·rfl
 rw [cq e,vW (CT 8) (x:=(n-1).toNat) (List.mem_range.2 (by omega))]
 ·rw [if_pos (by omega)]
 ·intro a ha;rw [if_neg (by omega)]
theorem NP (b:aF) (g:List aA) (n:Int) (h1:1<=n) (h8:n<=8):az (bR n (vO b g 16))=tot (List.range 16) (fun k=>Fz b g ((k:Int)+1) n):=by
 unfold vO;rw [vp];exact cq fun k _=>Ov b g _ n h1 h8
theorem eG {w n:Int} {p:aA}:dO w n p=true ↔ p.who=w/\p.inst=n:=by simp only [dO,bZ,beq_iff_eq]
theorem lB {w n:Int}:∀ {qs:List aA},(∀ p∈qs,¬ (p.who=w/\p.inst=n))->posOf w n qs=⟨w,n,0,0⟩
 | [],_=>rfl
 | p :: r,h=>by
  simp only [posOf];rw [if_neg (by simp only [dO,bZ,beq_iff_eq];exact h p (by simp))];exact lB fun x hx=>h x (by simp [hx])
theorem B3 {w n:Int} {qs:List aA} (hp:qs.Pairwise (fun x y=>fO x y=true)) {p:aA} (hm:p∈qs) (hk:p.who=w/\p.inst=n):posOf w n qs=p:=by
 induction qs with
 | nil=>cases hm
 | cons y r ih =>
  rw [List.pairwise_cons] at hp;simp only [posOf];rcases List.mem_cons.1 hm with rfl | hm
  ·rw [if_pos (by simp only [dO,bZ,beq_iff_eq];exact hk)]
  ·have:=hp.1 p hm;rw [if_neg]
   ·exact ih hp.2 hm
   ·simp only [fO,Ca,Bool.or_eq_true,bZ,decide_eq_true_eq,beq_iff_eq] at this;simp only [dO,bZ,beq_iff_eq];omega
theorem Qz {w v:Int} (h:1<=w/\w<=16):tot (List.range 16) (fun k=>if w=(k:Int)+1 then v else 0)=v:=by
 rw [vW (CT 16) (x:=(w-1).toNat) (List.mem_range.2 (by omega))]
 ·rw [if_pos (by omega)]
 ·intro a ha;rw [if_neg (by omega)]
theorem QL (n:Int):∀ {qs:List aA},(∀ p∈qs,1<=p.who/\p.who<=16)->qs.Pairwise (fun x y=>fO x y=true)->tot (List.range 16) (fun k=>(posOf ((k:Int)+1) n qs).aV)=az (bR n qs)
 | [],_,_=>gp fun a _=>rfl
 | p :: r,h1,h2=>by
  rw [List.pairwise_cons] at h2;rw [jI,<- QL n (fun x hx=>h1 x (by simp [hx])) h2.2]
  have e:∀ k∈List.range 16,(posOf ((k:Int)+1) n (p :: r)).aV=(if p.who=(k:Int)+1 then (if p.inst=n then p.aV else 0) else 0)+(posOf ((k:Int)+1) n r).aV:=by
   intro k _;simp only [posOf]
   by_cases hw:p.who=(k:Int)+1
   ·rw [if_pos hw]
    by_cases hn:p.inst=n
    ·rw [if_pos hn,if_pos (eG.2 ⟨hw,hn⟩)];rw [lB (qs:=r)]
     ·simp
     ·intro x hx hk;have:=h2.1 x hx;simp only [fO,Ca,Bool.or_eq_true,bZ,decide_eq_true_eq,beq_iff_eq] at this;omega
    ·rw [if_neg hn,if_neg (fun h=>hn (eG.1 h).2)];omega
   ·rw [if_neg hw,if_neg (fun h=>hw (eG.1 h).1)];omega
  rw [cq e,gT,Qz (h1 p (by simp))]
theorem nB {A:Type} (q:A->Bool) (f:A->Int) (x:A) (r:List A):az (pick q f (x :: r))=(if q x=true then f x else 0)+az (pick q f r):=by
 simp only [pick,List.flatMap_cons,cY];congr 1;split
 ·simp [az]
 ·rfl
theorem Ia (n:Int) (f:aA->Int):∀ {g:List aA},(∀ p∈g,1<=p.who/\p.who<=16)->tot (List.range 16) (fun k=>az (pick (dO ((k:Int)+1) n) f g))=az (pick (fun p=>p.inst==n) f g)
 | [],_=>gp fun a _=>rfl
 | p :: r,h1=>by
  rw [nB,<- Ia n f (fun x hx=>h1 x (by simp [hx]))]
  have e:∀ k∈List.range 16,az (pick (dO ((k:Int)+1) n) f (p :: r))=(if p.who=(k:Int)+1 then (if (p.inst==n)=true then f p else 0) else 0)+az (pick (dO ((k:Int)+1) n) f r):=by
   intro k _;rw [nB];congr 1
   by_cases hw:p.who=(k:Int)+1
   ·rw [if_pos hw]
    by_cases hn:p.inst=n
    ·rw [if_pos (eG.2 ⟨hw,hn⟩),if_pos (by simpa using hn)]
    ·rw [if_neg (fun h=>hn (eG.1 h).2),if_neg (by simpa using hn)]
   ·rw [if_neg hw,if_neg (fun h=>hw (eG.1 h).1)]
  rw [cq e,gT,Qz (h1 p (by simp))]
theorem M8 {p:aA} (h:qm p=true):(1<=p.who/\p.who<=16)/\(1<=p.inst/\p.inst<=8):=by
 simp only [qm,oA,within,bZ,decide_eq_true_eq] at h;exact h.1
theorem qT {b:aF} {g:List aA} {w n:Int} {p:aA} (h:p∈DS b g w n):p=⟨w,n,Fz b g w n,Q6 b g w n⟩ /\ ¬ (Fz b g w n=0/\Q6 b g w n=0):=by
 unfold DS at h;split at h
 ·cases h
 ·rename_i hne;simp only [bZ,beq_iff_eq] at hne;exact ⟨List.mem_singleton.1 h,hne⟩
theorem Ss {b:aF} {g:List aA} {p:aA} (h:p∈vO b g 16):(∃ q∈b.qs,q.who=p.who/\q.inst=p.inst)\/(∃ q∈g,q.who=p.who/\q.inst=p.inst):=by
 obtain ⟨k,m,_,_,hp⟩:=wK h;obtain ⟨rfl,hne⟩:=qT hp;dsimp only
 by_cases h1:∃ q∈b.qs,q.who=(k:Int)+1/\q.inst=(m:Int)+1
 ·exact .inl h1
 by_cases h2:∃ q∈g,q.who=(k:Int)+1/\q.inst=(m:Int)+1
 ·exact .inr h2
 exfalso;have e1:=lB (w:=(k:Int)+1) (n:=(m:Int)+1) (qs:=b.qs) fun p hp hk=>h1 ⟨p,hp,hk⟩
 have e2:∀ f:aA->Int,pick (dO ((k:Int)+1) ((m:Int)+1)) f g=[]:=fun f=>by
  unfold pick;rw [List.flatMap_eq_nil_iff];intro x hx;rw [if_neg];simp only [dO,bZ,beq_iff_eq];exact fun hk=>h2 ⟨x,hx,hk⟩
 apply hne;unfold Fz Q6;rw [e1,e2,e2];exact ⟨rfl,rfl⟩
theorem GJ (b:aF) (g:List aA):(vO b g 16).Pairwise (fun x y=>fO x y=true):=by
 rw [show vO b g 16=oq (fun k=>Ky b g ((k:Int)+1) 8) 16 from rfl];refine qX (fun k _=>?_) fun i j hij _ x hx y hy=>?_
 ·rw [show Ky b g ((k:Int)+1) 8=oq (fun m=>DS b g ((k:Int)+1) ((m:Int)+1)) 8 from rfl];refine qX (fun m _=>tE (by unfold DS;split<;>simp)) fun i j hij _ x hx y hy=>?_
  rw [(qT hx).1,(qT hy).1];rw [Fv];dsimp only;omega
 ·obtain ⟨m,_,hx⟩:=List.mem_flatMap.1 hx;obtain ⟨m2,_,hy⟩:=List.mem_flatMap.1 hy;rw [(qT hx).1,(qT hy).1];rw [Fv];dsimp only;omega
theorem xV {b:aF} {g:List aA} (h:jh b g=0):(∀ p∈vO b g 16,p.okB=true)/\∀ n:Int,1<=n->n<=8->az (bR n (vO b g 16))=0:=by
 obtain ⟨h1,h2,h3⟩:=tK h;have hb:=dG.1 (ke h).1;refine ⟨fun p hp=>?_,fun n hn1 hn8=>?_⟩
 ·obtain ⟨k,m,hk,hm,hp⟩:=wK hp;have hok:=CD h3 hk hm;obtain ⟨rfl,hne⟩:=qT hp;simp only [CL,within,bZ,decide_eq_true_eq] at hok;rw [jE];dsimp only;exact ⟨by omega,by omega,hok.2.2,hok.2.1,hne⟩
 ·rw [NP _ _ _ hn1 hn8];have e:∀ k∈List.range 16,Fz b g ((k:Int)+1) n=(posOf ((k:Int)+1) n b.qs).aV+az (pick (dO ((k:Int)+1) n) aA.aV g):=fun k _=>rfl
  rw [cq e,gT,QL n (fun p hp=>(jE.1 (hb.ok p hp)).1) hb.pw,Ia n aA.aV (fun p hp=>(M8 (List.all_eq_true.1 h1 p hp)).1),hb.level n hn1 hn8];have:=List.all_eq_true.1 h2 (n-1).toNat (List.mem_range.2 (by omega));rw [show (((n-1).toNat:Nat):Int)+1=n by omega] at this;simpa using this
theorem Tq {b:aF} {g:List aA} (h:jh b g=0):(so b g).okB=true:=by
 have hb:=dG.1 (ke h).1;rw [(ke h).2];obtain ⟨q1,q2⟩:=xV h;exact dG.2 ⟨q1,GJ b g,q2,hb.tok,hb.XE,hb.tl,hb.n0,hb.n1⟩
theorem EF {b:aF} {t:aI} (h:fJ b t=0):b.okB=true/\t.okB=true/\b.ts.length < 128/\b.next≠1099511627776/\jh b (fS t false)=0:=by
 unfold fJ at h;split at h
 case isFalse=>cases h
 rename_i h1;split at h
 case isFalse=>cases h
 rename_i h2;split at h
 ·cases h
 rename_i h3;split at h
 ·cases h
 rename_i h4;exact ⟨h1,h2,by omega,h4,h⟩
theorem Fl {b:aF} {t:aI} (h:fJ b t=0):(gL b t).okB=true:=by
 obtain ⟨h1,h2,h3,h4,h5⟩:=EF h;have hb:=dG.1 h1;obtain ⟨q1,q2⟩:=xV h5;have n0:=hb.n0;have n1:=hb.n1
 have hno:∀ x∈b.ts,(1<=x.no/\x.no<=b.next)/\x.okB=true:=fun x hx=>by
  have:=hb.tok x hx;simp only [eL,bZ,Bool.not_eq_true',decide_eq_false_iff_not] at this;exact ⟨by omega,this.1⟩
 unfold gL;rw [if_pos h];refine dG.2 ⟨q1,GJ _ _,q2,fun x hx=>?_,?_,by dsimp only;simp;omega,by dsimp only;omega,by dsimp only;omega⟩
 ·simp only [eL,bZ,Bool.not_eq_true',decide_eq_false_iff_not];rcases List.mem_append.1 hx with hx | hx
  ·have:=hno x hx;exact ⟨this.2,by omega,by omega⟩
  ·obtain rfl:=List.mem_singleton.1 hx;exact ⟨h2,by dsimp only;omega,by dsimp only;omega⟩
 ·dsimp only;rw [List.pairwise_append];refine ⟨hb.XE,by simp,fun x hx y hy=>?_⟩;obtain rfl:=List.mem_singleton.1 hy;have:=hno x hx;dsimp only;omega
theorem CU {b:aF} {n:Int} (h:¬ gn n b.ts < 0):ck n b.ts∈b.ts/\(gn n b.ts).toNat < b.ts.length/\b.ts[(gn n b.ts).toNat]?=some (ck n b.ts):=by
 obtain ⟨i,hi,he,_⟩:=tg h;unfold ck;rw [he,Int.toNat_natCast,List.getD_eq_getElem?_getD,List.getElem?_eq_getElem hi];exact ⟨List.getElem_mem hi,hi,rfl⟩
theorem KQ {b:aF} {n:Int} (h:eg b n=0):(dI b n).okB=true:=by
 obtain ⟨h1,h2,h3⟩:=nG h;have hb:=dG.1 h1;obtain ⟨q1,q2⟩:=xV h3;obtain ⟨m1,m2,m3⟩:=CU h2;unfold dI;rw [if_pos h];refine dG.2 ⟨q1,GJ _ _,q2,fun x hx=>?_,?_,by dsimp only;simp only [Nl,List.length_set];exact hb.tl,hb.n0,hb.n1⟩
 ·rcases List.mem_or_eq_of_mem_set hx with hx | rfl
  ·exact hb.tok x hx
  ·exact (show eL b.next (ck n b.ts)=true from hb.tok _ m1)
 ·refine Je (no:=aI.no) ?_ hb.XE;dsimp only;unfold Nl;rw [List.map_set];refine List.ext_getElem? fun j=>?_
  rw [List.getElem?_set];split
  ·rename_i hj;subst hj;rw [List.getElem?_map,m3];simp [m2]
  ·rfl
theorem tD {b:aF} {n q p:Int} (h:qG b n q p=0):eg b n=0/\fJ (dI b n) { ck n b.ts with aV:=q,aR:=p }=0:=by
 unfold qG at h;split at h
 ·exact ⟨by assumption,h⟩
 ·rename_i hc;exact absurd h hc
theorem Jq {b:aF} {n q p:Int} (h:qG b n q p=0):(om b n q p).okB=true:=by
 obtain ⟨h1,h2⟩:=tD h;unfold om;rw [if_pos h1];exact Fl h2
theorem Jv {r:au}:∀ {l:List aA},nS r l=0->∀ p∈l,Bm r p=0
 | [],_,_,h=>by cases h
 | q :: t,h,p,hp=>by
  simp only [nS] at h;split at h
  ·rcases List.mem_cons.1 hp with rfl | hp
   ·assumption
   ·exact Jv h p hp
  ·rename_i hne;exact absurd h hne
theorem MQ {r:au} {b:aF} (h:uu r b=0):r.okB=true/\b.okB=true/\∀ p∈b.qs,Bm r p=0:=by
 unfold uu at h;split at h
 ·rename_i hb;rw [bZ] at hb;exact ⟨hb.1,hb.2,Jv h⟩
 ·cases h
theorem BS {r:au} {p:aA} (h:Bm r p=0):bf r p.inst=true/\bP (gI p (aT r p.inst).mult (dU (aT r p.inst)))=true/\bP (p.aV*dU (aT r p.inst))=true:=by
 unfold Bm at h;split at h
 case isFalse=>cases h
 rename_i h1;split at h
 ·cases h
 split at h
 case isFalse=>cases h
 rename_i h2;rw [bZ] at h2;exact ⟨h1,h2⟩
theorem tR {r:au} {p x:aA} (h:x∈mQ r p):x=⟨p.who,p.inst,p.aV,p.aV*dU (aT r p.inst)⟩ /\ ¬ (p.aV=0/\p.aV*dU (aT r p.inst)=0):=by
 unfold mQ at h;split at h
 ·cases h
 ·rename_i hne;simp only [bZ,beq_iff_eq] at hne;exact ⟨List.mem_singleton.1 h,hne⟩
theorem R2 {r:au} {b:aF} (h:uu r b=0):(vi r b).okB=true:=by
 obtain ⟨_,h2,h3⟩:=MQ h;have hb:=dG.1 h2;unfold vi;rw [if_pos h];refine dG.2 ⟨fun x hx=>?_,?_,fun n hn1 hn8=>?_,hb.tok,hb.XE,hb.tl,hb.n0,hb.n1⟩
 ·obtain ⟨p,hp,hx⟩:=List.mem_flatMap.1 hx;obtain ⟨rfl,hne⟩:=tR hx;have:=jE.1 (hb.ok p hp);rw [jE];exact ⟨this.1,this.2.1,this.2.2.1,(BS (h3 p hp)).2.2,hne⟩
 ·refine Gu (f:=mQ r) hb.pw (fun p _=>tE (by unfold mQ;split<;>simp)) fun p q _ _ hpq x hx y hy=>?_
  rw [(tR hx).1,(tR hy).1];exact hpq
 ·dsimp only;rw [vp,<- hb.level n hn1 hn8]
  have e:∀ l:List aA,tot l (fun p=>az (bR n (mQ r p)))=az (bR n l):=fun l=>by
   induction l with
   | nil=>rfl
   | cons p t ih =>
    rw [eR,ih,jI];congr 1;unfold mQ;split
    ·rename_i hz;simp only [bZ,beq_iff_eq] at hz;rw [hz.1];split<;>rfl
    ·rw [jI];simp [bR,az]
  exact e b.qs
theorem OC {a b c:aB} (h1:bM a b=true) (h2:bM b c=true):bM a c=true:=by
 simp only [bM,Bool.or_eq_true,bZ,decide_eq_true_eq,beq_iff_eq] at h1 h2 |-;omega
theorem qc {a b c:bE} (h1:dH a b=true) (h2:dH b c=true):dH a c=true:=by
 simp only [dH,decide_eq_true_eq] at h1 h2 |-;omega
theorem nC {xs:List aB}:lZ bS bM xs=true ↔ (∀ x∈xs,bS x=true)/\xs.Pairwise (fun a b=>bM a b=true):=oM (lt:=bM) OC
theorem tZ {x:aB}:bS x=true ↔ (1<=x.who/\x.who<=16)/\(0<=x.cur/\x.cur<=2)/\(1<=x.bW/\x.bW<=4611686018427387904)/\0<=x.till/\x.till<=1099511627776:=by
 simp only [bS,within,bZ,decide_eq_true_eq];omega
theorem QT {x:aN}:vY x=true ↔ (1<=x.who/\x.who<=16)/\(0<=x.cur/\x.cur<=2)/\0<=x.bW/\x.bW<=4611686018427387904:=by
 simp only [vY,within,bZ,decide_eq_true_eq];omega
theorem rA {w c:Int} {xs:List aB} (h:¬ cQ w c xs < 0):lC w c xs∈xs/\(lC w c xs).who=w/\(lC w c xs).cur=c:=by
 obtain ⟨i,hi,he,hc⟩:=nQ h;unfold lC;rw [he,Int.toNat_natCast,List.getD_eq_getElem?_getD,List.getElem?_eq_getElem hi];simp only [lJ,bZ,beq_iff_eq] at hc;exact ⟨List.getElem_mem hi,hc⟩
theorem sK {xs:List aB} {x y:aB} {w c:Int} (h:y∈G2 xs x w c):(y.who=w/\y.cur=c)/\((y=x/\0 < x.bW)\/y∈xs):=by
 unfold G2 at h;split at h
 ·rename_i hk;simp only [bZ,beq_iff_eq] at hk;split at h
  ·rename_i ha;obtain rfl:=List.mem_singleton.1 h;exact ⟨hk,.inl ⟨rfl,ha⟩⟩
  ·cases h
 ·split at h
  ·cases h
  ·rename_i hc;obtain rfl:=List.mem_singleton.1 h;have:=rA hc;exact ⟨this.2,.inr this.1⟩
theorem Cj {xs:List aB} {x y:aB} (h:y∈xM xs x 16):(y=x/\0 < x.bW)\/y∈xs:=by
 obtain ⟨k,_,h⟩:=jf.1 h;obtain ⟨c,_,h⟩:=jf.1 h;exact (sK h).2
theorem Mf {xs:List aB} {x:aB} (h:lZ bS bM xs=true) (hx:0 < x.bW->bS x=true):lZ bS bM (xM xs x 16)=true:=by
 rw [nC] at h |-;refine ⟨fun y hy=>?_,?_⟩
 ·rcases Cj hy with ⟨rfl,ha⟩ | hy
  ·exact hx ha
  ·exact h.1 y hy
 ·unfold xM;refine qX (fun k _=>?_) fun i j hij _ a ha b hb=>?_
  ·unfold xK;refine qX (fun c _=>tE (I3 _ _ _ _)) fun i j hij _ a ha b hb=>?_
   have h1:=(sK ha).1;have h2:=(sK hb).1;simp only [bM,Bool.or_eq_true,bZ,decide_eq_true_eq,beq_iff_eq];omega
  ·obtain ⟨_,_,ha⟩:=jf.1 ha;obtain ⟨_,_,hb⟩:=jf.1 hb;have h1:=(sK ha).1;have h2:=(sK hb).1;simp only [bM,Bool.or_eq_true,bZ,decide_eq_true_eq,beq_iff_eq];omega
theorem R5 {xs:List aB} {d:aN} {t:Int} (h:lZ bS bM xs=true):lZ bS bM (zO xs d t)=true/\∀ y∈zO xs d t,y.who=d.who\/y∈xs:=by
 unfold zO;split
 case isFalse=>exact ⟨rfl,fun y hy=>by cases hy⟩
 rename_i he;unfold Dy at he;rw [if_pos h] at he;split at he
 case isFalse=>cases he
 rename_i hd;rw [bZ] at hd;obtain ⟨hd,ht⟩:=hd;rw [QT] at hd;simp only [within,bZ,decide_eq_true_eq] at ht;refine ⟨Mf h fun ha=>?_,fun y hy=>?_⟩
 ·dsimp only at ha;rw [tZ];dsimp only;refine ⟨hd.1,hd.2.1,by omega,?_⟩;split
  ·exact ht
  ·rename_i hc;exact (tZ.1 ((nC.1 h).1 _ (rA hc).1)).2.2.2
 ·rcases Cj hy with ⟨rfl,_⟩ | hy
  ·exact .inl rfl
  ·exact .inr hy
theorem PC {xs:List aB} {d:aN} (h:lZ bS bM xs=true):lZ bS bM (rI xs d)=true/\∀ y∈rI xs d,∃ x∈xs,y.who=x.who:=by
 unfold rI;split
 case isFalse=>exact ⟨rfl,fun y hy=>by cases hy⟩
 rename_i he;unfold qu at he;rw [if_pos h] at he;split at he
 case isFalse=>cases he
 rename_i hd;rw [QT] at hd;refine ⟨Mf h fun ha=>?_,fun y hy=>?_⟩
 ·unfold Kg at ha |-;split at ha
  ·dsimp only at ha;omega
  ·rename_i hc;rw [if_neg hc];have hx:=tZ.1 ((nC.1 h).1 _ (rA hc).1);dsimp only at ha;rw [tZ];dsimp only;exact ⟨hx.1,hx.2.1,by omega,hx.2.2.2⟩
 ·rcases Cj hy with ⟨rfl,ha⟩ | hy
  ·unfold Kg at ha |-;split at ha
   ·dsimp only at ha;omega
   ·rename_i hc;rw [if_neg hc];exact ⟨_,(rA hc).1,rfl⟩
  ·exact ⟨y,hy,rfl⟩
theorem rE {xs:List aB} {ws:List Int} {y:aB}:y∈ew xs ws ↔ y∈xs/\pY ws y.who=false:=by
 unfold ew;rw [List.mem_flatMap];constructor
 ·rintro ⟨x,hx,h⟩
  split at h
  ·cases h
  ·rename_i hn;obtain rfl:=List.mem_singleton.1 h;exact ⟨hx,by simpa using hn⟩
 ·rintro ⟨h1,h2⟩
  exact ⟨y,h1,by rw [h2];simp⟩
theorem Lh {A:Type} {R:A->A->Prop} {q:A->Bool} {xs:List A} (h:xs.Pairwise R):(xs.flatMap fun x=>if q x=true then [] else [x]).Pairwise R:=by
 refine Gu h (fun a _=>tE (by split<;>simp)) fun a b _ _ hab x hx y hy=>?_
 split at hx
 ·cases hx
 split at hy
 ·cases hy
 obtain rfl:=List.mem_singleton.1 hx;obtain rfl:=List.mem_singleton.1 hy;exact hab
theorem ze {xs:List aB} {ws:List Int} (h:lZ bS bM xs=true):lZ bS bM (ew xs ws)=true:=by
 rw [nC] at h |-;exact ⟨fun y hy=>h.1 y (rE.1 hy).1,Lh h.2⟩
structure iU (r:au) (qs:List aA) (ts:List aI) (ps:List eO) (cs:List aB):Prop where
 qs:∀ p∈qs,(bC r p.who=1\/bC r p.who=2)/\bf r p.inst=true
 ts:∀ t∈ts,bC r t.fW≠0/\bC r t.dV≠0/\bf r t.inst=true
 ps:∀ p∈ps,(bC r p.who=1\/bC r p.who=2)/\jm r p.bG=true
 cs:∀ c∈cs,bC r c.who=1
structure af.right (s:af):Prop where
 Kx:(0<=s.now/\s.now<=1099511627776)/\(0<=s.day/\s.day<=1099511627776)/\0<=s.phase/\s.phase<=2
 aj:s.aj.okB=true
 book:s.book.okB=true
 aU:s.aU.okB=true
 ps:gf s.ps=true
 calls:lZ bS bM s.calls=true
 known:iU s.aj s.book.qs s.book.ts s.ps s.calls
 bl:s.aX.length<=32
 aX:∀ b∈s.aX,kf b=true
 aJ:lZ eY dH s.aJ=true
theorem gA {s:af}:br s=true ↔ s.right:=by
 simp only [br,o8,lE,Ce,uo,sQ,oJ,uL,within,bZ,Bool.or_eq_true,Bool.not_eq_true',decide_eq_true_eq,decide_eq_false_iff_not,beq_iff_eq,beq_eq_false_iff_ne,List.all_eq_true,ne_eq];constructor
 ·rintro ⟨h0,h1,h2,h3,h4,h5,⟨k1,k2,k3,k4⟩,h7,h8,h9⟩
  exact ⟨by omega,h1,h2,h3,h4,h5,⟨k1,k2,k3,k4⟩,by omega,h8,h9⟩
 ·intro h;have:=h.bl;have:=h.Kx;exact ⟨by omega,h.aj,h.book,h.aU,h.ps,h.calls,⟨h.known.qs,h.known.ts,h.known.ps,h.known.cs⟩,by omega,h.aX,h.aJ⟩
theorem iU.ext {r r':au} {qs ts ps cs} (h:iU r qs ts ps cs) (e:r.ext r'):iU r' qs ts ps cs:=by
 have ho:∀ w,(bC r w=1\/bC r w=2)->bC r' w=1\/bC r' w=2:=fun w hw=>by
  rw [e.st w (by omega)];exact hw
 refine ⟨fun p hp=>⟨ho _ (h.qs p hp).1,e.inst _ (h.qs p hp).2⟩,fun t ht=>?_,fun p hp=>⟨ho _ (h.ps p hp).1,e.ast _ (h.ps p hp).2⟩,fun c hc=>?_⟩
 ·have:=h.ts t ht;rw [e.st _ this.1,e.st _ this.2.1];exact ⟨this.1,this.2.1,e.inst _ this.2.2⟩
 ·have:=h.cs c hc;rw [e.st _ (by omega)];exact this
theorem q8 {s:af} (h:s.right) {r':au} (h1:r'.okB=true/\s.aj.ext r'):({ s with aj:=r' }:af).right:=
 ⟨h.Kx,h1.1,h.book,h.aU,h.ps,h.calls,h.known.ext h1.2,h.bl,h.aX,h.aJ⟩
theorem NI {s:af} (h:s.right) {l:bq} (h1:l.okB=true):({ s with aU:=l }:af).right:=
 ⟨h.Kx,h.aj,h.book,h1,h.ps,h.calls,h.known,h.bl,h.aX,h.aJ⟩
theorem IS {s:af} (h:s.right) {cs:List aB} (h1:lZ bS bM cs=true) (h2:∀ c∈cs,bC s.aj c.who=1):({ s with calls:=cs }:af).right:=
 ⟨h.Kx,h.aj,h.book,h.aU,h.ps,h1,⟨h.known.qs,h.known.ts,h.known.ps,h2⟩,h.bl,h.aX,h.aJ⟩
theorem ny {s:af} (h:s.right) (g:List aW):(kF s g).right:=by
 unfold kF;split
 ·rename_i he;exact NI h (IK he)
 ·exact h
theorem Bx {s:af} (h:s.right) (d:aN):({ s with calls:=rI s.calls d }:af).right:=by
 obtain ⟨h1,h2⟩:=PC (d:=d) h.calls;refine IS h h1 fun c hc=>?_
 obtain ⟨x,hx,he⟩:=h2 c hc;rw [he];exact h.known.cs x hx
theorem Np {s:af} (h:s.right) (c:aZ):(nV s c).1.right:=by
 unfold nV;split
 case isFalse=>exact h
 split
 case isFalse=>exact h
 split
 ·exact ny h _
 split
 ·split
  ·exact Bx (ny h _) _
  ·exact ny h _
 ·exact ny h _
theorem PN {r:au} {w:Int} (h:Dl r w=0):bC r w=1:=by
 unfold Dl at h;split at h
 ·split at h
  ·assumption
  ·cases h
 ·cases h
theorem HB {s:af} (h:s.right) (c:aZ) (n:Int):(jY s c n).1.right:=by
 unfold jY;split
 case isFalse=>exact h
 split
 case isFalse=>exact h
 rename_i hm;rw [bZ] at hm;split
 case isFalse=>exact h
 rename_i hs;split
 case isFalse=>exact h
 rename_i he;have hg:=xx he
 have key:({ s with ps:=cR s.ps c.who c.no n }:af).right:=by
  refine ⟨h.Kx,h.aj,h.book,h.aU,gO.2 hg,h.calls,⟨h.known.qs,h.known.ts,fun p hp=>?_,h.known.cs⟩,h.bl,h.aX,h.aJ⟩;dsimp only at hp |-;unfold cR at hp;rw [if_pos he] at hp;rcases AH hp with hp | ⟨rfl,_⟩
  ·exact h.known.ps p hp
  ·exact ⟨.inl hs,hm.2⟩
 split
 ·exact key
 split
 ·exact Bx key _
 ·exact key
theorem FL {t:aI} {b:Bool} {p:aA} (h:p∈fS t b):(p.who=t.fW\/p.who=t.dV)/\p.inst=t.inst:=by
 unfold fS at h;split at h
 ·simp only [List.mem_cons,List.not_mem_nil,or_false] at h;rcases h with rfl | rfl<;>simp
 ·cases h
theorem yj {r:au} {b:aF} {g:List aA} {ts ps cs} (h:iU r b.qs ts ps cs) (hg:∀ p∈g,(bC r p.who=1\/bC r p.who=2)/\bf r p.inst=true):iU r (vO b g 16) ts ps cs:=by
 refine ⟨fun p hp=>?_,h.ts,h.ps,h.cs⟩;rcases Ss hp with ⟨q,hq,e1,e2⟩ | ⟨q,hq,e1,e2⟩
 ·rw [<- e1,<- e2];exact h.qs q hq
 ·rw [<- e1,<- e2];exact hg q hq
theorem vF {s:af} (h:s.right) {b:aF} (h1:b.okB=true) (h2:iU s.aj b.qs b.ts s.ps s.calls):({ s with book:=b }:af).right:=
 ⟨h.Kx,h.aj,h1,h.aU,h.ps,h.calls,h2,h.bl,h.aX,h.aJ⟩
theorem NX {r:au} {t:aI} (h:vD r t=0):bC r t.fW=1/\bC r t.dV=1/\bf r t.inst=true:=by
 unfold vD at h;split at h
 case isFalse=>cases h
 split at h
 case isFalse=>cases h
 split at h
 case isFalse=>cases h
 rename_i h1;split at h
 ·cases h
 split at h
 case isFalse=>cases h
 rename_i h2;simp only [bZ,beq_iff_eq] at h1 h2;exact ⟨h2.1,h2.2,h1.1⟩
theorem yS {s:af} {b:aF} {t:aI} {ps cs} (he:fJ b t=0) (hk:iU s.aj b.qs b.ts ps cs) (h1:bC s.aj t.fW=1) (h2:bC s.aj t.dV=1) (h3:bf s.aj t.inst=true):iU s.aj (gL b t).qs (gL b t).ts ps cs:=by
 unfold gL;rw [if_pos he]
 have hq:=yj (g:=fS t false) hk fun p hp=>by
  have:=FL hp;rw [this.2];exact ⟨by rcases this.1 with e | e<;>rw [e]<;>simp [h1,h2],h3⟩
 refine ⟨hq.qs,fun x hx=>?_,hk.ps,hk.cs⟩;rcases List.mem_append.1 hx with hx | hx
 ·exact hk.ts x hx
 ·obtain rfl:=List.mem_singleton.1 hx;exact ⟨by dsimp only;omega,by dsimp only;omega,h3⟩
theorem xp {s:af} {b:aF} {n:Int} {ps cs} (he:eg b n=0) (hk:iU s.aj b.qs b.ts ps cs) (h1:bC s.aj (ck n b.ts).fW=1) (h2:bC s.aj (ck n b.ts).dV=1):iU s.aj (dI b n).qs (dI b n).ts ps cs:=by
 have hm:=(CU (nG he).2.1).1;have h3:=(hk.ts _ hm).2.2;unfold dI;rw [if_pos he]
 have hq:=yj (g:=fS (ck n b.ts) true) hk fun p hp=>by
  have:=FL hp;rw [this.2];exact ⟨by rcases this.1 with e | e<;>rw [e]<;>simp [h1,h2],h3⟩
 refine ⟨hq.qs,fun x hx=>?_,hk.ps,hk.cs⟩;rcases List.mem_or_eq_of_mem_set hx with hx | rfl
 ·exact hk.ts x hx
 ·have:=hk.ts _ hm;exact ⟨this.1,this.2.1,this.2.2⟩
theorem Kk {s:af} (h:s.right) (c:aZ) (he:(iK s c).2.2=0):(iK s c).1.right:=by
 unfold iK at he |-;split
 ·rename_i hk;rw [if_pos hk] at he;split
  ·rename_i ht;rw [if_pos ht] at he;obtain ⟨t1,t2,t3⟩:=NX ht;exact vF h (Fl he) (yS (s:=s) he h.known t1 t2 t3)
  ·exact h
 rename_i hk;rw [if_neg hk] at he;split
 ·rename_i hk;rw [if_pos hk] at he;exact q8 h (ME he)
 rename_i hk;rw [if_neg hk] at he;split
 ·exact h
 rename_i hf;rw [if_neg hf] at he;split
 case isFalse=>exact h
 rename_i ha;rw [if_pos ha] at he;have a1:=PN ha.1;have a2:=PN ha.2;split
 ·rename_i hk;rw [if_pos hk] at he;exact vF h (KQ he) (xp (s:=s) he h.known a1 a2)
 ·rename_i hk;rw [if_neg hk] at he;obtain ⟨e1,e2⟩:=tD he;have k1:=xp (s:=s) e1 h.known a1 a2;have h3:=(h.known.ts _ (CU hf).1).2.2;refine vF h (Jq he) ?_;unfold om;rw [if_pos e1];exact yS (s:=s) e2 k1 a1 a2 h3
theorem NZ {s:af} (h:s.right) (c:aZ):(p7 s c).1.right:=by
 unfold p7;split
 case isFalse=>exact h
 rename_i hw;split
 case isFalse=>exact h
 rename_i hm;split
 ·exact h
 split
 case isFalse=>exact h
 rename_i hs;split
 ·exact h
 rename_i hl;simp only [bZ] at hm hw;have r1:=Hv h.aj (w:=c.who) (by unfold bC;omega);have r2:=Hv h.aj (w:=c.other) (by unfold bC;omega);have r3:=BF hm.2.2;have r4:=AQ ((eu.1 h.aj).2.1.1 _ r3.1);rw [r3.2] at r4;refine ⟨h.Kx,h.aj,h.book,h.aU,h.ps,h.calls,h.known,by dsimp only;simp;omega,fun b hb=>?_,h.aJ⟩;rcases List.mem_append.1 hb with hb | hb
 ·exact h.aX b hb
 ·obtain rfl:=List.mem_singleton.1 hb;simp only [kf,oA,hw.1,hw.2,within,bZ,decide_eq_true_eq];simp only [within,bZ,decide_eq_true_eq] at hw;omega
theorem I7:∀ {ps:List Int} {j:Nat},j < ps.length->az (ps.set j (ps.getD j 0+1))=az ps+1
 | [],j,h=>by simp at h
 | x :: r,0,_=>by simp [az];omega
 | x :: r,j+1,h=>by
  have:=I7 (ps:=r) (j:=j) (by simpa using h);simp only [List.set_cons_succ,List.getD_cons_succ,az,this];omega
theorem Fx (rs:List Int):∀ (n:Nat) (gs:List Bool) (ps:List Int),gs.length=rs.length->ps.length=rs.length->gs.count true+n<=gs.length->az (oN rs n gs ps)=az ps+n
 | 0,_,_,_,_,_=>by simp [oN]
 | n+1,gs,ps,h1,h2,h3=>by
  have hex:=FY (gs:=gs) (by omega);rw [h1] at hex;have hp:=Gb rs gs rs.length hex;have hr:=yc rs gs rs.length;have hf:=B4 rs gs rs.length hp;simp only [oN];rw [Fx rs n _ _ (by simp [h1]) (by simp [h2]) (by rw [count_set hf,List.length_set];omega),I7 (by omega)];omega
theorem wO (rs:List Int):∀ (n:Nat) (gs:List Bool) (ps:List Int),(∀ x∈ps,0<=x)->∀ x∈oN rs n gs ps,0<=x
 | 0,_,_,h=>h
 | n+1,gs,ps,h=>by
  simp only [oN];refine wO rs n _ _ fun x hx=>?_
  rcases List.mem_or_eq_of_mem_set hx with hx | rfl
  ·exact h x hx
  ·have:0<=ps.getD (gD rs gs rs.length).toNat 0:=by
    rw [List.getD_eq_getElem?_getD];cases he:ps[(gD rs gs rs.length).toNat]? with
    | none=>simp
    | some y=>exact h y (List.mem_of_getElem? he)
   omega
theorem NF {t:Int} {ws:List Int} (h:iX t ws=0):0<=t/\(∀ x∈ws,0<=x):=by
 unfold iX at h;split at h
 case isFalse=>cases h
 rename_i h1;split at h
 case isFalse=>cases h
 rename_i h2;simp only [bZ,Bool.not_eq_true',decide_eq_false_iff_not] at h1;refine ⟨by omega,fun x hx=>?_⟩;have:=List.all_eq_true.1 h2 x hx;simp only [Bool.not_eq_true',decide_eq_false_iff_not] at this;omega
theorem Lr {t:Int} {ws:List Int} (h:iX t ws=0) (hs:az ws≠0):az (fL t ws)=t/\(∀ x∈fL t ws,0<=x):=by
 obtain ⟨h1,h2⟩:=NF h;have hn:=lQ h2;have hl:=vM h1 rfl (show 1<=az ws by omega) h2;unfold fL;rw [if_pos h,if_neg hs];have hpl:(uk t (az ws) ws).length=(MK t (az ws) ws).length:=by simp [uk,MK]
 have hrl:(MK t (az ws) ws).length=ws.length:=by simp [MK]
 refine ⟨?_,wO _ _ _ _ fun x hx=>?_⟩
 ·rw [Fx _ _ _ _ (by simp [hrl]) hpl (by simp [List.count_replicate];omega)];omega
 ·obtain ⟨w,hw,rfl⟩:=List.mem_map.1 hx;exact (rH h1 (by omega) (h2 w hw) (AK h2 w hw)).1
def um (f:List dP):Int:=az (f.map dP.aV)
theorem Es:∀ (l:List bu) (k:Int),um (ld k l).1+(ld k l).2=k
 | [],k=>by simp [ld,um,az]
 | b :: r,k=>by
  simp only [ld];split
  ·have:=Es r (k-min k b.aV);simp only [um,List.map_cons,az] at this |-;omega
  ·simp [um,az]
theorem Fo:∀ (l:List bu) (k:Int) {f:dP},f∈(ld k l).1->∃ b∈l,f.src=b.src
 | [],k,f,h=>by simp [ld] at h
 | b :: r,k,f,h=>by
  simp only [ld] at h;split at h
  ·rcases List.mem_cons.1 h with rfl | h
   ·exact ⟨b,by simp,rfl⟩
   ·obtain ⟨x,hx,e⟩:=Fo r _ h;exact ⟨x,by simp [hx],e⟩
  ·cases h
theorem IM (long:Bool) {y:bu}:∀ (l out:List bu),y∈BM long out l->y∈out\/y∈l
 | [],out,h=>.inl h
 | x :: r,out,h=>by
  simp only [BM] at h;rcases IM long r _ h with h | h
  ·unfold JY at h;rcases List.mem_append.1 h with h | h
   ·exact .inl (List.mem_of_mem_take h)
   ·rcases List.mem_cons.1 h with rfl | h
    ·exact .inr (by simp)
    ·exact .inl (List.mem_of_mem_drop h)
  ·exact .inr (by simp [h])
theorem Qf {q:Int} {l:List bu} (h:pW q l=0):um (jS q l).1+(jS q l).2=max q (-q)/\∀ f∈(jS q l).1,∃ b∈l,f.src=b.src:=by
 unfold jS;rw [if_pos h];refine ⟨Es _ _,fun f hf=>?_⟩;obtain ⟨b,hb,e⟩:=Fo _ _ hf;rcases IM _ _ _ hb with hb | hb
 ·cases hb
 ·exact ⟨b,hb,e⟩
theorem PM {w n m:Int} {long:Bool}:∀ {f:List dP},(∀ x∈f,x.src≠w)->az (pick (dO w m) aA.aV (f.flatMap (ur w n long)))=if m=n then -FM long (um f) else 0
 | [],_=>by simp [pick,az,um,FM]
 | x :: r,h=>by
  have ih:=PM (w:=w) (n:=n) (m:=m) (long:=long) (f:=r) fun y hy=>h y (by simp [hy])
  have hx:=h x (by simp);rw [List.flatMap_cons,show ur w n long x=[⟨x.src,n,FM long x.aV,FM long (x.aV*x.aR)⟩,⟨w,n,-FM long x.aV,-FM long (x.aV*x.aR)⟩] from rfl];rw [List.cons_append,List.cons_append,List.nil_append,nB,nB,ih];rw [if_neg (fun h=>hx (eG.1 h).1)]
  by_cases hm:m=n
  ·rw [if_pos (show dO w m ⟨w,n,-FM long x.aV,-FM long (x.aV*x.aR)⟩=true from eG.2 ⟨rfl,hm.symm⟩),if_pos hm,if_pos hm];simp only [um,List.map_cons,az,FM];split<;>omega
  ·rw [if_neg (fun h=>hm (eG.1 h).2.symm),if_neg hm,if_neg hm];rfl
theorem Eo {b:aF} {g:List aA} {w n:Int} (hw:1<=w/\w<=16) (hn:1<=n/\n<=8):(posOf w n (vO b g 16)).aV=Fz b g w n:=by
 by_cases h:Fz b g w n=0/\Q6 b g w n=0
 ·rw [lB,h.1];intro p hp hk;obtain ⟨k,m,_,_,hp⟩:=wK hp;obtain ⟨rfl,hne⟩:=qT hp;dsimp only at hk;rw [hk.1,hk.2] at hne;exact hne h
 ·have hm:(⟨w,n,Fz b g w n,Q6 b g w n⟩:aA)∈vO b g 16:=by
   refine List.mem_flatMap.2 ⟨(w-1).toNat,List.mem_range.2 (by omega),List.mem_flatMap.2 ⟨(n-1).toNat,List.mem_range.2 (by omega),?_⟩⟩;rw [show (((w-1).toNat:Nat):Int)+1=w by omega,show (((n-1).toNat:Nat):Int)+1=n by omega];unfold DS;rw [if_neg (by simp only [bZ,beq_iff_eq];exact h)];simp
  rw [B3 (GJ b g) hm ⟨rfl,rfl⟩]
structure Dz (r:au) (w:Int) (b:aF) (ts:List aI) (ps:List eO) (cs:List aB):Prop where
 ok:b.okB=true
 known:iU r b.qs ts ps cs
 ts:b.ts=ts
theorem Dh {r:au} {w n:Int} {b:aF} {ts ps cs} {long:Bool} {f:List dP} (hw:1<=w/\w<=16) (hn:1<=n/\n<=8) (hb:Dz r w b ts ps cs) (hs:bC r w=2) (hi:bf r n=true) (hf:∀ x∈f,x.src≠w/\(bC r x.src=1\/bC r x.src=2)) (h:(mu b w n long f).2=0) :
  Dz r w (mu b w n long f).1 ts ps cs/\(posOf w n (mu b w n long f).1.qs).aV=(posOf w n b.qs).aV-FM long (um f)/\∀ m,1<=m/\m<=8->m≠n->(posOf w m (mu b w n long f).1.qs).aV=(posOf w m b.qs).aV:=by
 unfold mu at h |-;split
 case isFalse hne=>rw [if_neg hne] at h;exact absurd h hne
 rename_i he;rw [if_pos he] at h;dsimp only at h |-;have hl:kU w n long f=f.flatMap (ur w n long):=by unfold kU;rw [if_pos he]
 have hq:=fun m=>PM (w:=w) (n:=n) (m:=m) (long:=long) (f:=f) fun x hx=>(hf x hx).1
 have hadq:∀ m,Fz b (kU w n long f) w m=(posOf w m b.qs).aV+if m=n then -FM long (um f) else 0:=fun m=>by
  unfold Fz;rw [az,hl,hq]
 refine ⟨⟨Tq h,?_,?_⟩,?_,fun m hm hne=>?_⟩
 ·rw [(ke h).2];refine yj hb.known fun p hp=>?_
  rw [hl] at hp;obtain ⟨x,hx,hp⟩:=List.mem_flatMap.1 hp;have hxs:=hf x hx;unfold ur at hp;simp only [List.mem_cons,List.not_mem_nil,or_false] at hp;rcases hp with rfl | rfl
  ·exact ⟨hxs.2,hi⟩
  ·exact ⟨.inr hs,hi⟩
 ·rw [(ke h).2];exact hb.ts
 ·rw [(ke h).2]
  show (posOf w n (vO b _ 16)).aV=_
  rw [Eo hw hn,hadq,if_pos rfl];omega
 ·rw [(ke h).2]
  show (posOf w m (vO b _ 16)).aV=_
  rw [Eo hw hm,hadq,if_neg hne];omega
theorem HM {ws ps:List Int} (h:∀ x∈ps,0<=x):∀ k,k<=ps.length->um (oq (rR ws ps) k)=az (ps.take k)
 | 0,_=>rfl
 | k+1,hk=>by
  have ih:=HM (ws:=ws) h k (by omega);have hk':k < ps.length:=by omega
  rw [iI,List.take_succ_eq_append_getElem hk',cY];unfold um at ih |-;rw [List.map_append,cY,ih];congr 1;have hg:ps.getD k 0=ps[k]:=by rw [List.getD_eq_getElem?_getD,List.getElem?_eq_getElem hk'];rfl
  have h0:=h ps[k] (List.getElem_mem hk');unfold rR;rw [hg];split
  ·rfl
  ·have:ps[k]=0:=by omega
   rw [this];rfl
theorem Rf {ws ps:List Int} (hl:ps.length<=ws.length) {f:dP} (h:f∈Ii ws ps):f.src∈ws:=by
 obtain ⟨i,hi,h⟩:=jf.1 h;unfold rR at h;split at h
 ·obtain rfl:=List.mem_singleton.1 h;dsimp only;rw [List.getD_eq_getElem?_getD,List.getElem?_eq_getElem (by omega)];exact List.getElem_mem _
 ·cases h
theorem QO {b:aF} {w n k:Int} (h:nZ b w n k=0):b.okB=true/\(0<=k/\k<=1099511627776)/\k<=az (pN (posOf w n b.qs).aV n b.qs):=by
 unfold nZ at h;split at h
 case isFalse=>cases h
 rename_i h1;split at h
 case isFalse=>cases h
 rename_i h2;split at h
 ·cases h
 rename_i h3;simp only [within,bZ,decide_eq_true_eq] at h2;exact ⟨h1,h2,by omega⟩
theorem IL {q n:Int} {p:aA}:Ly q n p=true ↔ p.inst=n/\((0 < q/\p.aV < 0)\/(q < 0/\0 < p.aV)):=by
 simp only [Ly,bZ,Bool.or_eq_true,beq_iff_eq,decide_eq_true_eq]
theorem B6 {A:Type} {q:A->Bool} {f:A->Int} {xs:List A} {v:Int} (h:v∈pick q f xs):∃ x∈xs,q x=true/\v=f x:=by
 obtain ⟨x,hx,h⟩:=List.mem_flatMap.1 h;split at h
 ·rename_i hq;exact ⟨x,hx,hq,List.mem_singleton.1 h⟩
 ·cases h
theorem Bq {b:aF} (h:b.okB=true):b.qs.length<=128:=by
 have hb:=dG.1 h
 have h1:(b.qs.map fun p=>p.who*8+p.inst).Pairwise (fun a c=>a < c):=by
  rw [List.pairwise_map];refine (List.Pairwise.imp_of_mem (fun {p q} hp hq hpq=>?_) hb.pw);have k1:=jE.1 (hb.ok p hp);have k2:=jE.1 (hb.ok q hq);simp only [fO,Ca,Bool.or_eq_true,bZ,decide_eq_true_eq,beq_iff_eq] at hpq;omega
 have key:∀ (l:List Int) (lo hi:Int),l.Pairwise (fun a c=>a < c)->(∀ x∈l,lo<=x/\x < hi)->lo<=hi->(l.length:Int)<=hi-lo:=by
  intro l
  induction l with
  | nil=>intro lo hi _ _ h;simp;omega
  | cons x r ih =>
   intro lo hi hp hx hlh;rw [List.pairwise_cons] at hp;have hx0:=hx x (by simp);have:=ih (x+1) hi hp.2 (fun y hy=>by have:=hp.1 y hy;have:=hx y (by simp [hy]);omega) (by omega);simp only [List.length_cons];omega
 have:=key _ 9 137 h1 (fun x hx=>by
  obtain ⟨p,hp,rfl⟩:=List.mem_map.1 hx;have:=jE.1 (hb.ok p hp)
  omega) (by omega)
 simp only [aG] at this;omega
theorem QD {r:au} {w n p rest:Int} {b:aF} {ts ps cs} {long:Bool} (hw:1<=w/\w<=16) (hn:1<=n/\n<=8) (hb:Dz r w b ts ps cs) (hs:bC r w=2) (hi:bf r n=true) (hq:(posOf w n b.qs).aV=FM long rest) (hr:rest≠0) (h:(qt b w n p long rest).2=0) :
  Dz r w (qt b w n p long rest).1 ts ps cs/\(posOf w n (qt b w n p long rest).1.qs).aV=0/\∀ m,1<=m/\m<=8->m≠n->(posOf w m (qt b w n p long rest).1.qs).aV=(posOf w m b.qs).aV:=by
 unfold qt at h |-;split
 case isFalse hne=>rw [if_neg hne] at h;exact absurd h hne
 rename_i he;rw [if_pos he] at h;obtain ⟨t1,t2,t3⟩:=QO he;have hbr:=dG.1 t1;obtain ⟨ws,hws⟩:∃ l,l=xR (posOf w n b.qs).aV n b.qs:=⟨_,rfl⟩
 obtain ⟨ns,hns⟩:∃ l,l=pN (posOf w n b.qs).aV n b.qs:=⟨_,rfl⟩
 have hlen:ns.length=ws.length:=by rw [hws,hns];exact xY _ _ _ _
 have hnsr:∀ x∈ns,0 < x/\x<=1099511627776:=fun x hx=>by
  rw [hns] at hx;obtain ⟨y,hy,hyo,rfl⟩:=B6 hx;have h1:=IL.1 hyo;have h2:=jE.1 (hbr.ok y hy);omega
 rw [<- hns] at t3
 have hnl:ns.length<=128:=by
  rw [hns];exact Nat.le_trans (bY _ _ _) (Bq t1)
 have hsp:iX rest ns=0:=by
  unfold iX;rw [if_pos,if_pos,if_neg (by omega),if_neg (by omega)]
  ·exact List.all_eq_true.2 fun x hx=>by have:=hnsr x hx;simp only [Bool.not_eq_true',decide_eq_false_iff_not];omega
  ·simp only [bZ,Bool.not_eq_true',decide_eq_false_iff_not];refine ⟨⟨by omega,by rw [cm];omega⟩,List.all_eq_true.2 fun x hx=>by have:=hnsr x hx;rw [cm];omega⟩
 obtain ⟨s1,s2⟩:=Lr hsp (by omega);have hsl:=qW rest ns;have hL:n9 b w n rest=Ii ws (fL rest ns):=by unfold n9;rw [if_pos he,<- hws,<- hns]
 have hfq:um ((n9 b w n rest).map (dS p))=rest:=by
  have:um ((n9 b w n rest).map (dS p))=um (n9 b w n rest):=by
   unfold um;rw [List.map_map];rfl
  rw [this,hL];have:=HM (ws:=ws) s2 _ (Nat.le_refl _);rw [List.take_length,s1] at this;exact this
 obtain ⟨q1,q2,q3⟩:=Dh (long:=long) (f:=(n9 b w n rest).map (dS p)) hw hn hb hs hi (fun x hx=>by
  obtain ⟨y,hy,rfl⟩:=List.mem_map.1 hx;rw [hL] at hy;have hy:=Rf (by omega) hy;rw [hws] at hy;obtain ⟨z,hz,hzo,e⟩:=B6 hy
  show y.src≠w/\_
  rw [show (dS p y).src=y.src from rfl,e];refine ⟨fun hzw=>?_,(hb.known.qs z hz).1⟩;have h1:=IL.1 hzo;rw [B3 hbr.pw hz ⟨hzw,h1.1⟩] at h1
  omega) h
 refine ⟨q1,?_,q3⟩;rw [q2,hfq,hq];omega
theorem PD {s:af} {w n:Int} {b:aF} (h:s.right) (hw:1<=w/\w<=16) (hn:1<=n/\n<=8) (hb:Dz s.aj w b s.book.ts s.ps s.calls) (hs:bC s.aj w=2) (hq:(posOf w n b.qs).aV≠0) (he:(nO s b w n (posOf w n b.qs).aV).2=0) :
  Dz s.aj w (nO s b w n (posOf w n b.qs).aV).1 s.book.ts s.ps s.calls/\(posOf w n (nO s b w n (posOf w n b.qs).aV).1.qs).aV=0/\∀ m,1<=m/\m<=8->m≠n->(posOf w m (nO s b w n (posOf w n b.qs).aV).1.qs).aV=(posOf w m b.qs).aV:=by
 have hi:bf s.aj n=true:=by
  by_cases hx:∃ p∈b.qs,p.who=w/\p.inst=n
  ·obtain ⟨p,hp,_,e⟩:=hx;rw [<- e];exact (hb.known.qs p hp).2
  ·rw [lB fun p hp hk=>hx ⟨p,hp,hk⟩] at hq;exact absurd rfl hq
 obtain ⟨q,hqe⟩:=aL ((posOf w n b.qs).aV);rw [<- hqe] at hq he |-;unfold nO at he |-;split
 case isFalse hne=>rw [if_neg hne] at he;cases he
 rename_i hp;rw [if_pos hp] at he;split
 case isFalse hne=>rw [if_neg hne] at he;exact absurd he hne
 rename_i hf;rw [if_pos hf] at he;obtain ⟨f1,f2⟩:=Qf hf;obtain ⟨F,hF⟩:=aL (jS q (gG s w n s.aX));rw [<- hF] at f1 f2 he |-
 have hsg:∀ k:Int,FM (decide (0 < q)) k=if 0 < q then k else -k:=fun k=>by
  unfold FM
  by_cases h0:0 < q<;>simp [h0]
 have hsrc:∀ x∈F.1,x.src≠w/\(bC s.aj x.src=1\/bC s.aj x.src=2):=fun x hx=>by
  obtain ⟨y,hy,e⟩:=f2 x hx;obtain ⟨z,_,hy⟩:=List.mem_flatMap.1 hy;split at hy
  ·rename_i hz;obtain rfl:=List.mem_singleton.1 hy;simp only [C2,bZ,beq_iff_eq] at hz;rw [e];refine ⟨fun h=>?_,.inl hz.2⟩;rw [h,hs] at hz;omega
  ·cases hy
 split
 ·rename_i hc;rw [if_pos hc] at he;obtain ⟨a1,a2,a3⟩:=Dh (long:=decide (0 < q)) hw hn hb hs hi hsrc hc.1
  obtain ⟨b1,b2,b3⟩:=QD (p:=dU (aT s.aj n)) (long:=decide (0 < q)) (rest:=F.2) hw hn a1 hs hi (by
   rw [a2,<- hqe,hsg,hsg]
   split<;>omega) hc.2 he
  exact ⟨b1,b2,fun m hm hne=>by rw [b3 m hm hne,a3 m hm hne]⟩
 ·rename_i hc;rw [if_neg hc] at he;obtain ⟨a1,a2,a3⟩:=Dh (long:=decide (0 < q)) hw hn hb hs hi hsrc he
  have hz:F.2=0:=by
   by_cases hz:F.2=0
   ·exact hz
   ·exact absurd ⟨he,hz⟩ hc
  refine ⟨a1,?_,a3⟩;rw [a2,<- hqe,hsg];split<;>omega
theorem KZ {s:af} {w n:Int} {b:aF} (h:s.right) (hw:1<=w/\w<=16) (hn:1<=n/\n<=8) (hb:Dz s.aj w b s.book.ts s.ps s.calls) (hs:bC s.aj w=2) (he:(gJ s w b n).2=0) :
  Dz s.aj w (gJ s w b n).1 s.book.ts s.ps s.calls/\(posOf w n (gJ s w b n).1.qs).aV=0/\∀ m,1<=m/\m<=8->m≠n->(posOf w m (gJ s w b n).1.qs).aV=(posOf w m b.qs).aV:=by
 unfold gJ at he |-;split
 ·rename_i hz;exact ⟨hb,by simpa using hz,fun _ _ _=>rfl⟩
 ·rename_i hz;rw [if_neg hz] at he;exact PD h hw hn hb hs (by simpa using hz) he
theorem Hy {s:af} {w:Int} (h:s.right) (hw:1<=w/\w<=16) (hs:bC s.aj w=2):∀ (m i:Nat) {b:aF},i+m=8->Dz s.aj w b s.book.ts s.ps s.calls->(∀ k:Nat,k < i->(posOf w ((k:Int)+1) b.qs).aV=0)->(mo s w m i b).2=0 ->
  Dz s.aj w (mo s w m i b).1 s.book.ts s.ps s.calls/\∀ k:Nat,k < 8->(posOf w ((k:Int)+1) (mo s w m i b).1.qs).aV=0
 | 0,i,b,hi,hb,hz,_=>⟨hb,fun k hk=>hz k (by omega)⟩
 | m+1,i,b,hi,hb,hz,he=>by
  simp only [mo] at he |-;split
  ·rename_i h0;rw [if_pos h0] at he;obtain ⟨a1,a2,a3⟩:=KZ h hw (n:=(i:Int)+1) (by omega) hb hs h0;refine Hy h hw hs m (i+1) (by omega) a1 (fun k hk=>?_) he;rcases Nat.lt_or_ge k i with hki | hki
   ·rw [a3 _ (by omega) (by omega)];exact hz k hki
   ·obtain rfl:k=i:=by omega
    exact a2
  ·rename_i h0;rw [if_neg h0] at he;exact absurd he h0
theorem yC {w:Int} {l:List aA} {p:aA}:p∈mO w l ↔ p∈l/\p.who≠w:=by
 unfold mO;rw [List.mem_flatMap];constructor
 ·rintro ⟨x,hx,h⟩
  split at h
  ·cases h
  ·rename_i hn;obtain rfl:=List.mem_singleton.1 h;exact ⟨hx,by simpa using hn⟩
 ·rintro ⟨h1,h2⟩
  exact ⟨p,h1,by rw [if_neg (by simpa using h2)];simp⟩
theorem A0 {s:af} {w:Int} (h:nU s w=0):Kh s w=0/\(mo s w 8 0 s.book).2=0:=by
 unfold nU at h;split at h
 case isFalse hne=>exact absurd h hne
 rename_i h1;split at h
 case isFalse hne=>exact absurd h hne
 rename_i h2;exact ⟨h1,h2⟩
theorem P4 {s:af} {w:Int} (h:nU s w=0):(oL s w).okB=true/\iU s.aj (oL s w).qs (oL s w).ts s.ps s.calls/\∀ p∈(oL s w).qs,p.who≠w:=by
 obtain ⟨h1,h2⟩:=A0 h;obtain ⟨hr,hs⟩:=tQ h1;have hr:=gA.1 hr;have hw:=(Hv hr.aj (w:=w) (by omega)).2;obtain ⟨a1,a2⟩:=Hy hr hw hs 8 0 rfl (b:=s.book) ⟨hr.book,hr.known,rfl⟩ (fun k hk=>by omega) h2;have hb:=dG.1 a1.ok;unfold oL;rw [if_pos h];refine ⟨dG.2 ⟨fun p hp=>hb.ok p (yC.1 hp).1,Lh hb.pw,fun n hn1 hn8=>?_,hb.tok,hb.XE,hb.tl,hb.n0,hb.n1⟩,⟨fun p hp=>a1.known.qs p (yC.1 hp).1,fun t ht=>?_,a1.known.ps,a1.known.cs⟩,fun p hp=>(yC.1 hp).2⟩
 ·dsimp only;rw [<- hb.level n hn1 hn8]
  have key:∀ l:List aA,(∀ p∈l,p.who=w->p.aV=0)->az (bR n (mO w l))=az (bR n l):=fun l=>by
   induction l with
   | nil=>intro _;rfl
   | cons p t ih =>
    intro hl;rw [jI,<- ih fun q hq=>hl q (by simp [hq])];unfold mO;rw [List.flatMap_cons,EZ,cY];congr 1;split
    ·rename_i hpw;rw [hl p (by simp) (by simpa using hpw)];split<;>rfl
    ·rw [jI];simp [bR,az]
  refine key _ fun p hp hpw=>?_
  have hpi:=(jE.1 (hb.ok p hp)).2.1;have:=a2 (p.inst-1).toNat (by omega);rw [show (((p.inst-1).toNat:Nat):Int)+1=p.inst by omega,B3 hb.pw hp ⟨hpw,rfl⟩] at this;exact this
 ·dsimp only at ht;rw [a1.ts] at ht;exact a1.known.ts t ht
theorem AT {s:af} (h:s.right) (c:Int):(ux s c).1.right:=by
 unfold ux;split
 ·exact ny h _
 ·exact h
theorem Bk:∀ (m c:Nat) {s:af} (ds:List aN),s.right->(j6 m c s ds).1.right
 | 0,_,_,_,h=>h
 | m+1,c,s,ds,h=>by
  simp only [j6];split
  ·exact Bk m _ _ (AT h _)
  ·exact AT h _
theorem HC {s:af} (he:gP s=0):(jB s).right:=by
 unfold jB;rw [if_pos he];unfold gP at he;split at he
 case isFalse=>cases he
 rename_i h1;split at he
 case isFalse=>cases he
 split at he
 case isFalse hne=>exact absurd he hne
 rename_i h3;split at he
 case isFalse hne=>exact absurd he hne
 have hr:=gA.1 h1;obtain ⟨t1,t2⟩:=HZ hr.aj;have k:=hr.known.ext t2;have e:vi s.aj s.book=⟨s.book.next,s.book.ts,s.book.qs.flatMap (mQ s.aj)⟩:=by unfold vi;rw [if_pos h3]
 refine ⟨⟨hr.Kx.1,hr.Kx.2.1,by dsimp only;decide,by dsimp only;decide⟩,t1,R2 h3,Ff hr.aU he,hr.ps,hr.calls,⟨fun p hp=>?_,fun t ht=>?_,k.ps,k.cs⟩,hr.bl,hr.aX,hr.aJ⟩
 ·dsimp only at hp |-;rw [e] at hp;obtain ⟨q,hq,hp⟩:=List.mem_flatMap.1 hp;rw [(tR hp).1];exact k.qs q hq
 ·dsimp only at ht |-;rw [e] at ht;exact k.ts t ht
theorem PW {r:au} (h:r.okB=true) {w:Int} (hm:w∈mK r [1]):bC r w=1:=by
 obtain ⟨m,hmm,hq,rfl⟩:=B6 hm;have e:fc r m.no=m:=AI (eu.1 h).1.2 hmm rfl;unfold bC;rw [e];simp only [pY,List.any_cons,List.any_nil,Bool.or_false,beq_iff_eq] at hq;exact hq.symm
theorem Bs {s:af} {w:Int} (h:bC s.aj w=1):∀ (m c:Nat) (x:List aB × List aN),(lZ bS bM x.1=true/\∀ y∈x.1,bC s.aj y.who=1)->lZ bS bM (nN s w m c x).1.1=true/\∀ y∈(nN s w m c x).1.1,bC s.aj y.who=1
 | 0,_,_,hx=>hx
 | m+1,c,x,hx=>by
  simp only [nN];split
  ·obtain ⟨a1,a2⟩:=R5 (d:=⟨w,c,Po s w c⟩) (t:=Kt s) hx.1;refine Bs h m _ _ ⟨a1,fun y hy=>?_⟩;rcases a2 y hy with e | hy
   ·rw [e];exact h
   ·exact hx.2 y hy
  ·exact hx
theorem EH {s:af}:∀ (ws:List Int) (x:List aB × List aN),(∀ w∈ws,bC s.aj w=1)->(lZ bS bM x.1=true/\∀ y∈x.1,bC s.aj y.who=1)->lZ bS bM (qP s ws x).1.1=true/\∀ y∈(qP s ws x).1.1,bC s.aj y.who=1
 | [],_,_,hx=>hx
 | w :: r,x,hw,hx=>by
  simp only [qP];split
  ·exact EH r _ (fun v hv=>hw v (by simp [hv])) (Bs (hw w (by simp)) 3 0 x hx)
  ·exact Bs (hw w (by simp)) 3 0 x hx
theorem Hf {s:af} (he:iB s=0):(iY s).right:=by
 unfold iY;rw [if_pos he];unfold iB at he;split at he
 case isFalse=>cases he
 rename_i h1;have hr:=gA.1 h1;obtain ⟨a1,a2⟩:=EH (s:=s) (mK s.aj [1]) (s.calls,[]) (fun w hw=>PW hr.aj hw) ⟨hr.calls,hr.known.cs⟩;exact ⟨⟨hr.Kx.1,hr.Kx.2.1,by dsimp only;decide,by dsimp only;decide⟩,hr.aj,hr.book,hr.aU,hr.ps,a1,⟨hr.known.qs,hr.known.ts,hr.known.ps,a2⟩,hr.bl,hr.aX,hr.aJ⟩
theorem KI {s:af} (he:rS s=0):(rT s).right:=by
 unfold rT;rw [if_pos he];unfold rS at he;split at he
 case isFalse=>cases he
 rename_i h1;split at he
 case isFalse=>cases he
 split at he
 ·cases he
 have hr:=gA.1 h1;have hb:=dG.1 hr.book;have hc:=hr.Kx;exact ⟨⟨hc.1,by dsimp only;omega,by dsimp only;decide,by dsimp only;decide⟩,hr.aj,dG.2 ⟨hb.ok,hb.pw,hb.level,fun t ht=>(by cases ht),List.Pairwise.nil,Nat.zero_le _,hb.n0,hb.n1⟩,hr.aU,hr.ps,hr.calls,⟨hr.known.qs,fun t ht=>(by cases ht),hr.known.ps,hr.known.cs⟩,hr.bl,hr.aX,hr.aJ⟩
theorem tL {r:au} {w p:Int} (h:r.okB=true) (hs:bC r w≠0) (hp:1<=p/\p<=3):Ak r w p=0:=by
 unfold Ak;rw [if_pos h,if_pos ((KE h).1 hs),if_pos (by simp only [within,bZ,decide_eq_true_eq];omega)]
theorem MC {w v:Int}:pY [w] v=decide (v=w):=by
 simp only [pY,List.any_cons,List.any_nil,Bool.or_false];rw [Bool.eq_iff_iff];simp only [beq_iff_eq,decide_eq_true_eq];exact eq_comm
theorem vP {r:au} {w p:Int} (h:Ak r w p=0) (n:Int):bf (lR r w p) n=bf r n/\jm (lR r w p) n=jm r n:=by
 obtain ⟨_,_,h3,h4⟩:=Dw h;unfold bf jm;rw [h3,h4];exact ⟨rfl,rfl⟩
theorem K4 {r:au} {qs ts ps cs} {w:Int} (hr:r.okB=true) (hs:bC r w≠0) (k:iU r qs ts ps cs):(lR r w 2).okB=true/\iU (lR r w 2) qs ts ps (ew cs [w])/\∀ v,bC r v≠0->bC (lR r w 2) v≠0:=by
 have h:=tL hr hs (p:=2) (by omega);obtain ⟨p1,p2,_⟩:=Dw h;have hi:=fun n=>(vP h n).1
 have ha:=fun n=>(vP h n).2
 have ho:∀ v,(bC r v=1\/bC r v=2)->bC (lR r w 2) v=1\/bC (lR r w 2) v=2:=fun v hv=>by rw [p2];split;exact .inr rfl;exact hv
 have hn:∀ v,bC r v≠0->bC (lR r w 2) v≠0:=fun v hv=>by rw [p2];split;decide;exact hv
 refine ⟨p1,⟨fun p hp=>⟨ho _ (k.qs p hp).1,by rw [hi];exact (k.qs p hp).2⟩,fun t ht=>⟨hn _ (k.ts t ht).1,hn _ (k.ts t ht).2.1,by rw [hi];exact (k.ts t ht).2.2⟩,fun p hp=>⟨ho _ (k.ps p hp).1,by rw [ha];exact (k.ps p hp).2⟩,fun c hc=>?_⟩,hn⟩;obtain ⟨h1,h2⟩:=rE.1 hc;rw [MC] at h2;rw [p2,if_neg (by simpa using h2)];exact k.cs c h1
theorem HW {qs ts ps}:∀ (l:List aB) (x:au × List aB),(∀ c∈l,bC x.1 c.who≠0)->x.1.okB=true->iU x.1 qs ts ps x.2->lZ bS bM x.2=true->(qi l x).1.okB=true/\iU (qi l x).1 qs ts ps (qi l x).2/\lZ bS bM (qi l x).2=true
 | [],_,_,h2,h3,h4=>⟨h2,h3,h4⟩
 | c :: r,x,h1,h2,h3,h4=>by
  obtain ⟨a1,a2,a3⟩:=K4 h2 (h1 c (by simp)) h3;simp only [qi];exact HW r _ (fun y hy=>a3 _ (h1 y (by simp [hy]))) a1 a2 (ze h4)
theorem Lk {s:af} {n:Int} (he:oc s n=0):(gq s n).right:=by
 unfold gq;rw [if_pos he];unfold oc at he;split at he
 case isFalse=>cases he
 rename_i h1;split at he
 case isFalse=>cases he
 rename_i h2;split at he
 ·cases he
 simp only [within,bZ,decide_eq_true_eq] at h2;have hr:=gA.1 h1;have hc:=hr.Kx
 obtain ⟨a1,a2,a3⟩:=HW (mN (s.now+n) s.calls) (s.aj,s.calls) (fun c hc=>by
  obtain ⟨x,hx,hc⟩:=List.mem_flatMap.1 hc;split at hc
  ·obtain rfl:=List.mem_singleton.1 hc;have:=hr.known.cs _ hx;dsimp only;omega
  ·cases hc) hr.aj hr.known hr.calls
 exact ⟨⟨by dsimp only;omega,hc.2⟩,a1,hr.book,hr.aU,hr.ps,a3,a2,hr.bl,hr.aX,hr.aJ⟩
theorem MF {s:af} {w:Int}:∀ (m i:Nat) (l:bq) (p:List aN),l.okB=true->(ni s w m i l p).2.2=0->(ni s w m i l p).1.okB=true
 | 0,_,_,_,h,_=>h
 | m+1,i,l,p,h,he=>by
  simp only [ni] at he |-;split
  ·rename_i h0;rw [if_pos h0] at he;exact MF m _ _ _ (Ff h h0) he
  ·rename_i h0;rw [if_neg h0] at he;exact absurd he h0
theorem GM {s:af} {w:Int} (h:uv s w=0):nU s w=0/\gQ (zj s w) 3 0=0/\gQ (uE s w) 3 0=0/\(ni s w 3 0 s.aU []).2.2=0:=by
 unfold uv at h;split at h
 case isFalse hne=>exact absurd h hne
 rename_i h1;split at h
 case isFalse hne=>exact absurd h hne
 rename_i h2;split at h
 case isFalse hne=>exact absurd h hne
 rename_i h3;exact ⟨h1,h2,h3,h⟩
theorem AZ {w:Int} {l:List eO} {p:eO}:p∈pF w l ↔ p∈l/\p.who≠w:=by
 unfold pF;rw [List.mem_flatMap];constructor
 ·rintro ⟨x,hx,h⟩
  split at h
  ·cases h
  ·rename_i hn;obtain rfl:=List.mem_singleton.1 h;exact ⟨hx,by simpa using hn⟩
 ·rintro ⟨h1,h2⟩
  exact ⟨p,h1,by rw [if_neg (by simpa using h2)];simp⟩
theorem LF {w:Int} {l:List bu} {b:bu}:b∈pE w l ↔ b∈l/\b.who≠w/\b.src≠w:=by
 unfold pE;rw [List.mem_flatMap];constructor
 ·rintro ⟨x,hx,h⟩
  split at h
  ·cases h
  ·rename_i hn;obtain rfl:=List.mem_singleton.1 h;simp only [Bool.or_eq_true,beq_iff_eq] at hn;exact ⟨hx,fun e=>hn (.inl e),fun e=>hn (.inr e)⟩
 ·rintro ⟨h1,h2,h3⟩
  exact ⟨b,h1,by rw [if_neg (by simp only [Bool.or_eq_true,beq_iff_eq];omega)];simp⟩
theorem OB {s:af} {w:Int} (he:uv s w=0):(lT s w).right:=by
 unfold lT;rw [if_pos he];obtain ⟨e1,_,_,e4⟩:=GM he;obtain ⟨hm,_⟩:=A0 e1;obtain ⟨h1,hs⟩:=tQ hm;have hr:=gA.1 h1;have hp:=tL hr.aj (w:=w) (p:=3) (by omega) (by omega);obtain ⟨p1,p2,_⟩:=Dw hp;have hi:=fun n=>(vP hp n).1
 have ha:=fun n=>(vP hp n).2
 obtain ⟨b1,b2,b3⟩:=P4 e1;have hst:∀ v,v≠w->bC (lR s.aj w 3) v=bC s.aj v:=fun v hv=>by rw [p2,if_neg hv]
 have hg:=gO.1 hr.ps;refine ⟨hr.Kx,p1,b1,MF 3 0 s.aU [] hr.aU e4,gO.2 ⟨fun p hp=>hg.1 p (AZ.1 hp).1,Lh hg.2⟩,ze hr.calls,⟨fun p hp=>?_,fun t ht=>?_,fun p hp=>?_,fun c hc=>?_⟩,Nat.le_trans (Cn _ _) hr.bl,fun b hb=>hr.aX b (LF.1 hb).1,hr.aJ⟩
 ·dsimp only at hp |-;rw [hst _ (b3 p hp),hi];exact b2.qs p hp
 ·dsimp only at ht |-;have:=b2.ts t ht;have hn:∀ v,bC s.aj v≠0->bC (lR s.aj w 3) v≠0:=fun v hv=>by rw [p2];split;decide;exact hv
  exact ⟨hn _ this.1,hn _ this.2.1,by rw [hi];exact this.2.2⟩
 ·dsimp only at hp |-;have:=AZ.1 hp;rw [hst _ this.2,ha];exact hr.known.ps p this.1
 ·dsimp only at hc |-;obtain ⟨h1,h2⟩:=rE.1 hc;rw [MC] at h2;rw [hst _ (by simpa using h2)];exact hr.known.cs c h1
end Go.Proofs.YtnkobepdbkmedaaGreat
