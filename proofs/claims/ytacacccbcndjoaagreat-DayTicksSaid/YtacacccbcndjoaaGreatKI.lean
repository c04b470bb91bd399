/- Right states: lists in order, what is found in them, and what follows. No theorem of a claim. -/
import Derived.Test.YtacacccbcndjoaaGreatKH
set_option linter.unusedSimpArgs false
set_option linter.unusedVariables false
set_option maxHeartbeats 4000000
set_option maxRecDepth 16000
namespace Go.Proofs.YtacacccbcndjoaaGreat
open Go.Abs
theorem NG {A:Type} {R:A->A->Prop} (tr:∀ {a b c},R a b->R b c->R a c) {xs:List A} (h:∀ j (hj:j+1 < xs.length),R (xs[j]'(by omega)) xs[j+1]):xs.Pairwise R:=by
 rw [List.pairwise_iff_getElem]
 have key:∀ d i (hj:i+d+1 < xs.length),R (xs[i]'(by omega)) xs[i+d+1]:=by
  intro d
  induction d with
  | zero=>intro i hj;exact h i hj
  | succ d ih=>intro i hj;exact tr (ih i (by omega)) (h (i+d+1) hj)
 intro i j hi hj hij;have:=key (j-i-1) i (by omega);have e:i+(j-i-1)+1=j:=by omega
 simpa only [e] using this
theorem oS {A:Type} {ok:A->Bool} {lt:A->A->Bool} (tr:∀ {a b c},lt a b=true->lt b c=true->lt a c=true) {xs:List A}:lV ok lt xs=true ↔ (∀ x∈xs,ok x=true)/\xs.Pairwise (fun a b=>lt a b=true):=by
 constructor
 ·intro h;refine ⟨fun x hx=>?_,NG (R:=fun a b=>lt a b=true) tr fun j hj=>?_⟩
  ·obtain ⟨i,hi,rfl⟩:=List.mem_iff_getElem.1 hx;exact G9 h hi
  ·have:=Ru h hj;rw [fT hj,cg] at this;exact this.2
 ·rintro ⟨h1,h2⟩
  rw [List.pairwise_iff_getElem] at h2;refine lY fun i hi=>?_
  cases i with
  | zero=>rw [gz hi];exact h1 _ (List.getElem_mem hi)
  | succ j=>rw [fT hi,h1 _ (List.getElem_mem hi),h2 j (j+1) (by omega) hi (by omega)];rfl
theorem OB {A:Type} {no:A->Int} {ok:A->Bool} {xs:List A}:iQ no ok xs=true ↔ (∀ x∈xs,ok x=true)/\xs.Pairwise (fun a b=>no a < no b):=by
 constructor
 ·intro h;have hat:∀ i (hi:i < xs.length),cw no ok xs i=true:=fun i hi=>List.all_eq_true.1 h i (List.mem_range.2 hi)
  refine ⟨qd h,NG (R:=fun a b=>no a < no b) Int.lt_trans fun j hj=>?_⟩;have:=hat (j+1) hj;rw [fV no ok xs hj (by omega),cg,decide_eq_true_eq] at this;exact this.2
 ·rintro ⟨h1,h2⟩
  rw [List.pairwise_iff_getElem] at h2;refine tM fun i hi=>?_
  rcases Nat.eq_zero_or_pos i with h0 | h0
  ·rw [ga no ok xs hi (by omega)];exact h1 _ (List.getElem_mem hi)
  ·rw [fV no ok xs hi h0,h1 _ (List.getElem_mem hi),decide_eq_true (h2 (i-1) i (by omega) hi (by omega))];rfl
theorem TL {bs:List bJ}:jY bs=true ↔ (∀ b∈bs,kB b=true)/\bs.Pairwise (fun x y=>x.bK.less y.bK=true):=by
 constructor
 ·intro h;have hat:∀ i (hi:i < bs.length),mh bs i=true:=fun i hi=>List.all_eq_true.1 h i (List.mem_range.2 hi)
  refine ⟨fun x hx=>?_,Jg h⟩;obtain ⟨i,hi,rfl⟩:=List.mem_iff_getElem.1 hx;have:=hat i hi;cases i with
  | zero=>rwa [jD hi] at this
  | succ j=>rw [iN hi,cg] at this;exact this.1
 ·rintro ⟨h1,h2⟩
  rw [List.pairwise_iff_getElem] at h2;refine pq fun i hi=>?_
  cases i with
  | zero=>rw [jD hi];exact h1 _ (List.getElem_mem hi)
  | succ j=>rw [iN hi,h1 _ (List.getElem_mem hi),h2 j (j+1) (by omega) hi (by omega)];rfl
theorem pV {A:Type} {no:A->Int} {n:Int} {xs:List A}:decide (0<=iG no n xs)=true ↔ ∃ x∈xs,no x=n:=by
 rw [uc,List.any_eq_true];simp
theorem tV {A:Type} {no:A->Int} {n:Int} {z:A}:∀ {xs:List A},(∃ x∈xs,no x=n)->fP no n z xs∈xs/\no (fP no n z xs)=n
 | [],h=>by obtain ⟨x,hx,_⟩:=h;cases hx
 | x :: r,h=>by
  simp only [fP];split
  ·rename_i hx;exact ⟨by simp,hx⟩
  ·rename_i hx;obtain ⟨y,hy,hn⟩:=h;rcases List.mem_cons.1 hy with rfl | hy
   ·exact absurd hn hx
   ·obtain ⟨h1,h2⟩:=tV (z:=z) ⟨y,hy,hn⟩;exact ⟨by simp [h1],h2⟩
theorem tH {A:Type} {no:A->Int} {n:Int} {z:A}:∀ {xs:List A},(∀ x∈xs,no x≠n)->fP no n z xs=z
 | [],_=>rfl
 | x :: r,h=>by
  simp only [fP];rw [if_neg (h x (by simp))];exact tH fun y hy=>h y (by simp [hy])
theorem uh {A:Type} {no:A->Int} {n:Int} {z:A} {xs:List A} (hp:xs.Pairwise (fun a b=>no a < no b)) {x:A} (hx:x∈xs) (hn:no x=n):fP no n z xs=x:=by
 induction xs with
 | nil=>cases hx
 | cons y r ih =>
  rw [List.pairwise_cons] at hp;simp only [fP];rcases List.mem_cons.1 hx with rfl | hx
  ·rw [if_pos hn]
  ·have:=hp.1 x hx;rw [if_neg (by omega)];exact ih hp.2 hx
theorem FD {A:Type} {no:A->Int} {n:Int} {z:A} {xs ys:List A} (hp:ys.Pairwise (fun a b=>no a < no b)) (h:∀ x,no x=n->(x∈xs ↔ x∈ys)):fP no n z xs=fP no n z ys:=by
 by_cases hx:∃ x∈xs,no x=n
 ·obtain ⟨h1,h2⟩:=tV (z:=z) hx;exact (uh hp ((h _ h2).1 h1) h2).symm
 ·rw [tH (fun x hm hn=>hx ⟨x,hm,hn⟩),tH (fun x hm hn=>hx ⟨x,(h x hn).2 hm,hn⟩)]
theorem iB {B:Type} {f:Nat->List B} {n:Nat} {x:B}:x∈oq f n ↔ ∃ i,i < n/\x∈f i:=by
 simp [oq,List.mem_flatMap,List.mem_range]
theorem qS {B:Type} {R:B->B->Prop} {f:Nat->List B} {n:Nat} (h1:∀ i,i < n->(f i).Pairwise R) (h2:∀ i j,i < j->j < n->∀ x∈f i,∀ y∈f j,R x y):(oq f n).Pairwise R:=by
 induction n with
 | zero=>simp [oq]
 | succ n ih =>
  rw [iZ,List.pairwise_append];refine ⟨ih (fun i hi=>h1 i (by omega)) (fun i j hij hj=>h2 i j hij (by omega)),h1 n (by omega),?_⟩;intro x hx y hy;obtain ⟨i,hi,hx⟩:=iB.1 hx;exact h2 i n hi (by omega) x hx y hy
theorem tg {B:Type} {R:B->B->Prop}:∀ {l:List B},l.length<=1->l.Pairwise R
 | [],_=>by simp
 | [x],_=>by simp
 | x :: y :: r,h=>by simp at h
theorem Vv {B:Type} {key:B->Int} {f:Nat->List B} {n:Nat} (h0:∀ i,i < n->(f i).length<=1) (hk:∀ i,i < n->∀ x∈f i,key x=(i:Int)+1):(oq f n).Pairwise (fun a b=>key a < key b):=by
 refine qS (fun i hi=>tg (h0 i hi)) fun i j hij hj x hx y hy=>?_
 rw [hk i (by omega) x hx,hk j hj y hy];omega
theorem G3 {A B:Type} {R:A->A->Prop} {S:B->B->Prop} {f:A->List B} {xs:List A} (hp:xs.Pairwise R) (h1:∀ a∈xs,(f a).Pairwise S) (h2:∀ a b,a∈xs->b∈xs->R a b->∀ x∈f a,∀ y∈f b,S x y):(xs.flatMap f).Pairwise S:=by
 induction xs with
 | nil=>simp
 | cons a r ih =>
  rw [List.pairwise_cons] at hp;rw [List.flatMap_cons,List.pairwise_append];refine ⟨h1 a (by simp),ih hp.2 (fun b hb=>h1 b (by simp [hb])) (fun b c hb hc=>h2 b c (by simp [hb]) (by simp [hc])),?_⟩;intro x hx y hy;obtain ⟨b,hb,hy⟩:=List.mem_flatMap.1 hy;exact h2 a b (by simp) (by simp [hb]) (hp.1 b hb) x hx y hy
theorem NK {A:Type} {no:A->Int} {n:Int} {f:A->A} (hf:∀ x,no (f x)=no x) (xs:List A):(rT no n f xs).map no=xs.map no:=by
 induction xs with
 | nil=>rfl
 | cons x r ih=>simp only [rT];split<;>simp [ih,hf]
theorem KU {A:Type} {no:A->Int} {n:Int} {f:A->A} {xs:List A} {y:A} (h:y∈rT no n f xs):y∈xs\/∃ x∈xs,y=f x:=by
 induction xs with
 | nil=>cases h
 | cons x r ih =>
  simp only [rT] at h;split at h
  ·rcases List.mem_cons.1 h with rfl | h
   ·exact .inr ⟨x,by simp,rfl⟩
   ·exact .inl (by simp [h])
  ·rcases List.mem_cons.1 h with rfl | h
   ·exact .inl (by simp)
   ·rcases ih h with h | ⟨z,hz,rfl⟩
    ·exact .inl (by simp [h])
    ·exact .inr ⟨z,by simp [hz],rfl⟩
theorem J7 {A:Type} {no:A->Int} {xs ys:List A} (h:ys.map no=xs.map no) (hp:xs.Pairwise (fun a b=>no a < no b)):ys.Pairwise (fun a b=>no a < no b):=by
 have h1:(xs.map no).Pairwise (fun a b=>a < b):=List.pairwise_map.2 hp;rw [<- h] at h1;exact List.pairwise_map.1 h1
theorem Nh {A:Type} {no:A->Int} {n:Int} {xs ys:List A} (h:ys.map no=xs.map no):decide (0<=iG no n ys)=decide (0<=iG no n xs):=by
 rw [uc,uc];have e:∀ l:List A,l.any (fun x=>no x==n)=(l.map no).any (fun x=>x==n):=fun l=>by simp [List.any_map,Function.comp_def]
 rw [e,e,h]
theorem Jl {A:Type} {no:A->Int} {n w:Int} {f:A->A} {z:A} (hf:∀ x,no (f x)=no x) (xs:List A):fP no w z (rT no n f xs)=if w=n/\(∃ x∈xs,no x=n) then f (fP no w z xs) else fP no w z xs:=by
 induction xs with
 | nil=>simp [rT,fP]
 | cons x r ih =>
  simp only [rT];split
  ·rename_i hx;simp only [fP,hf]
   by_cases hw:w=n
   ·subst hw;rw [if_pos hx,if_pos hx,if_pos ⟨rfl,x,by simp,hx⟩]
   ·rw [if_neg (fun h=>hw (h.symm.trans hx)),if_neg (fun h=>hw h.1),if_neg (fun h=>hw (h.symm.trans hx))]
  ·rename_i hx;simp only [fP,ih]
   by_cases hxw:no x=w
   ·rw [if_pos hxw,if_pos hxw,if_neg]
    rintro ⟨rfl,_⟩;exact hx hxw
   ·rw [if_neg hxw,if_neg hxw];congr 1;simp only [List.mem_cons,exists_eq_or_imp,hx,false_or]
theorem dB {r:aq}:r.okB=true ↔ ((∀ x∈r.ms,x.ok=true)/\r.ms.Pairwise (fun a b=>a.no < b.no))/\((∀ x∈r.ns,x.ok=true)/\r.ns.Pairwise (fun a b=>a.no < b.no))/\((∀ x∈r.xs,x.ok=true)/\r.xs.Pairwise (fun a b=>a.a < b.a)):=by
 simp only [aq.okB,cg,OB,and_assoc]
theorem ug {x:ak} (h:x.ok=true):(1<=x.no/\x.no<=16)/\(1<=x.state/\x.state<=3)/\0<=x.need/\x.need<=4611686018427387904:=by
 simp only [ak.ok,within,bS,cg,decide_eq_true_eq] at h;omega
theorem Ax {x:ay} (h:x.ok=true):(1<=x.no/\x.no<=8)/\(0<=x.cur/\x.cur<=2)/\(1<=x.mult/\x.mult<=1024):=by
 simp only [ay.ok,within,cg,decide_eq_true_eq] at h;omega
theorem AJ {x:av} (h:x.ok=true):(1<=x.a/\x.a<=6)/\(0<=x.b/\x.b<=2)/\(1<=x.c/\x.c<=1073741824):=by
 simp only [av.ok,within,cg,decide_eq_true_eq] at h;omega
theorem tP {r:aq} {w:Int}:eo r w=true ↔ ∃ x∈r.ms,x.no=w:=pV
theorem qY {r:aq} {w:Int}:bf r w=true ↔ ∃ x∈r.ns,x.no=w:=pV
theorem O2 {r:aq} {w:Int}:jr r w=true ↔ ∃ x∈r.xs,x.a=w:=pV
theorem Fv {r:aq} {w:Int} (h:eo r w=true):eV r w∈r.ms/\(eV r w).no=w:=tV (tP.1 h)
theorem C5 {r:aq} {w:Int} (h:bf r w=true):aV r w∈r.ns/\(aV r w).no=w:=tV (qY.1 h)
theorem Hi {r:aq} (h:r.okB=true) {w:Int}:bq r w≠0 ↔ eo r w=true:=by
 constructor
 ·intro hs;cases hm:eo r w
  ·exact absurd (show bq r w=0 from by
    unfold bq eV;rw [tH]
    ·rfl
    ·intro x hx hn
     rw [tP.2 ⟨x,hx,hn⟩] at hm;cases hm) hs
  ·rfl
 ·intro hm;have:=ug ((dB.1 h).1.1 _ (Fv hm).1);unfold bq;omega
theorem H8 {r:aq} (h:r.okB=true) {w:Int} (hs:bq r w≠0):(1<=bq r w/\bq r w<=3)/\1<=w/\w<=16:=by
 have hm:=Fv ((Hi h).1 hs);have:=ug ((dB.1 h).1.1 _ hm.1);rw [hm.2] at this;unfold bq;omega
theorem Bv {A:Type} {no:A->Int} {z m:A} {xs:List A} {N:Nat} {f:Nat->List A} (hp:xs.Pairwise (fun a b=>no a < no b)) (hx:∀ x∈xs,1<=no x/\no x<=N) (hm:1<=no m/\no m<=N)
  (hf:∀ i:Nat,i < N->f i=if (i:Int)+1=no m then [m] else if decide (0<=iG no ((i:Int)+1) xs)=true then [fP no ((i:Int)+1) z xs] else []) :
  (oq f N).Pairwise (fun a b=>no a < no b)/\∀ x,x∈oq f N ↔ x=m\/(x∈xs/\no x≠no m):=by
 refine ⟨Vv (key:=no) (fun i hi=>?_) (fun i hi x hx=>?_),fun x=>?_⟩
 ·rw [hf i hi];split
  ·simp
  ·split<;>simp
 ·rw [hf i hi] at hx;split at hx
  ·rename_i h;simp only [List.mem_singleton] at hx;rw [hx,h]
  ·split at hx
   ·rename_i h;simp only [List.mem_singleton] at hx;rw [hx];exact (tV (pV.1 h)).2
   ·cases hx
 ·rw [iB];constructor
  ·rintro ⟨i,hi,h⟩
   rw [hf i hi] at h;split at h
   ·simp only [List.mem_singleton] at h;exact .inl h
   ·rename_i hne;split at h
    ·rename_i hh;simp only [List.mem_singleton] at h;have hg:=tV (z:=z) (pV.1 hh);rw [<- h] at hg;exact .inr ⟨hg.1,by rw [hg.2];exact hne⟩
    ·cases h
  ·rintro (rfl | ⟨h1,h2⟩)
   ·refine ⟨(no x-1).toNat,by omega,?_⟩;rw [hf _ (by omega),if_pos (by omega)];simp
   ·have hr:=hx x h1;refine ⟨(no x-1).toNat,by omega,?_⟩;have e:(((no x-1).toNat:Nat):Int)+1=no x:=by omega
    rw [hf _ (by omega),e,if_neg h2,if_pos (pV.2 ⟨x,h1,rfl⟩),uh hp h1 rfl];simp
structure aq.ext (r r':aq):Prop where
 st:∀ w,bq r w≠0->bq r' w=bq r w
 inst:∀ n,bf r n=true->bf r' n=true
 same:∀ n,bf r n=true->(aV r' n).mult=(aV r n).mult/\(aV r' n).cur=(aV r n).cur
 ast:∀ n,jr r n=true->jr r' n=true
theorem Jk {r:aq} {w n:Int} (h:iR r w n=0):(jG r w n).okB=true/\r.ext (jG r w n):=by
 unfold jG;rw [if_pos h];unfold iR at h;split at h
 case isFalse=>cases h
 rename_i hr;split at h
 case isFalse=>cases h
 rename_i hm;split at h
 ·cases h
 rename_i hi;have hr0:=hr;rw [dB] at hr;obtain ⟨⟨o1,p1⟩,h2,h3⟩:=hr;have hmk:=ug hm;dsimp only at hmk
 have hP:=Bv (no:=ak.no) (z:=ak.zero) (m:=⟨w,1,n⟩) (N:=16) (f:=H9 r ⟨w,1,n⟩) p1 (fun x hx=>by have:=ug (o1 x hx);omega) (by dsimp only;omega) (by
  intro i _;unfold H9;dsimp only
  by_cases e:(i:Int)+1=w
  ·rw [e,if_neg hi];simp
  ·have e':((i:Int)+1==w)=false:=by simpa using e
   rw [e',if_neg e];simp only [eo,eV,ir,if_false,List.append_nil]
   rfl)
 obtain ⟨q1,q2⟩:=hP;refine ⟨dB.2 ⟨⟨fun x hx=>?_,q1⟩,h2,h3⟩,⟨fun v hv=>?_,fun _ h=>h,fun _ _=>⟨rfl,rfl⟩,fun _ h=>h⟩⟩
 ·rcases (q2 x).1 hx with rfl | h
  ·exact hm
  ·exact o1 x h.1
 ·have hv:=(Hi hr0).1 hv;unfold bq eV;congr 1;refine FD p1 fun x hx=>?_
  rw [q2 x];constructor
  ·rintro (rfl | h)
   ·dsimp only at hx;rw [hx] at hi;exact absurd hv hi
   ·exact h.1
  ·intro h;refine .inr ⟨h,?_⟩;dsimp only
   rintro rfl
   rw [hx] at hi;exact hi hv
theorem MD {r:aq} {i:ay} (h:mC r i=0):(n6 r i).okB=true/\r.ext (n6 r i):=by
 unfold n6;rw [if_pos h];unfold mC at h;split at h
 case isFalse=>cases h
 rename_i hr;split at h
 case isFalse=>cases h
 rename_i hm;split at h
 ·cases h
 rename_i hi;rw [dB] at hr;obtain ⟨h1,⟨o1,p1⟩,h3⟩:=hr;have hmk:=Ax hm
 have hP:=Bv (no:=ay.no) (z:=ay.zero) (m:=i.bare) (N:=8) (f:=EA r i.bare) p1 (fun x hx=>by have:=Ax (o1 x hx);omega) (by omega) (by
  intro k _;unfold EA
  by_cases e:(k:Int)+1=i.bare.no
  ·have e2:bf r ((k:Int)+1)=false:=by
    rw [e];have:bf r i.bare.no=bf r i.no:=rfl;rw [this];simpa using hi
   rw [e2,e];simp
  ·have e':((k:Int)+1==i.bare.no)=false:=by simpa using e
   rw [e',if_neg e];simp only [bf,aV,ir,if_false,List.append_nil]
   rfl)
 obtain ⟨q1,q2⟩:=hP;refine ⟨dB.2 ⟨h1,⟨fun x hx=>?_,q1⟩,h3⟩,⟨fun _ _=>rfl,fun n hn=>?_,fun n hn=>?_,fun _ h=>h⟩⟩
 ·rcases (q2 x).1 hx with rfl | h
  ·exact hm
  ·exact o1 x h.1
 ·rw [qY] at hn |-;obtain ⟨x,hx,hxn⟩:=hn;refine ⟨x,(q2 x).2 (.inr ⟨hx,fun e=>hi ?_⟩),hxn⟩;rw [qY];exact ⟨x,hx,e⟩
 ·have e:aV (⟨r.ms,oq (EA r i.bare) 8,r.xs⟩:aq) n=aV r n:=by
   unfold aV;refine FD p1 fun x hx=>?_
   rw [q2 x];constructor
   ·rintro (rfl | h)
    ·have hx:i.no=n:=hx;rw [hx] at hi;exact absurd hn hi
    ·exact h.1
   ·intro h;refine .inr ⟨h,fun e=>hi ?_⟩;rw [qY];exact ⟨x,h,e⟩
  rw [e];exact ⟨rfl,rfl⟩
theorem M6 {r:aq} {a:av} (h:mu r a=0):(nO r a).okB=true/\r.ext (nO r a):=by
 unfold nO;rw [if_pos h];unfold mu at h;split at h
 case isFalse=>cases h
 rename_i hr;split at h
 case isFalse=>cases h
 rename_i hm;rw [cg] at hm;have hm:=hm.1;rw [dB] at hr;obtain ⟨h1,h2,⟨o1,p1⟩⟩:=hr;have hmk:=AJ hm
 have hP:=Bv (no:=av.a) (z:=(⟨0,0,0,0⟩:av)) (m:=a) (N:=6) (f:=GL r a) p1 (fun x hx=>by have:=AJ (o1 x hx);omega) (by omega) (by
  intro k _;unfold GL
  by_cases e:(k:Int)+1=a.a
  ·rw [e];simp
  ·have e':((k:Int)+1==a.a)=false:=by simpa using e
   rw [e',if_neg e];simp only [jr,lu,ir,if_false]
   rfl)
 obtain ⟨q1,q2⟩:=hP;refine ⟨dB.2 ⟨h1,h2,⟨fun x hx=>?_,q1⟩⟩,⟨fun _ _=>rfl,fun _ h=>h,fun _ _=>⟨rfl,rfl⟩,fun n hn=>?_⟩⟩
 ·rcases (q2 x).1 hx with rfl | h
  ·exact hm
  ·exact o1 x h.1
 ·rw [O2] at hn |-;obtain ⟨x,hx,hxn⟩:=hn
  by_cases e:x.a=a.a
  ·exact ⟨a,(q2 a).2 (.inl rfl),by rw [<- e];exact hxn⟩
  ·exact ⟨x,(q2 x).2 (.inr ⟨hx,e⟩),hxn⟩
theorem TD {x:ay} {p:Int} (h:x.ok=true) (hp:1<=p/\p<=1073741824):(x.told p).ok=true:=by
 have e:(x.told p).Ih=x.Ih:=by
  have:(x.told p).sh=x.sh:=by funext i;rcases i with _ | _ | _ | _ | _ | i<;>rfl
  simp only [ay.Ih,this]
 have e2:(x.told p).ok=(x.Ih&&within x.no 1 8&&within x.cur 0 2&&within x.mult 1 1024&&within x.add 0 1073741824&&within p 0 1073741824&&within x.aR 0 1073741824):=by
  unfold ay.ok;rw [e];rfl
 rw [e2];simp only [ay.ok,within,cg,decide_eq_true_eq] at h |-;obtain ⟨⟨⟨⟨⟨⟨h0,h1⟩,h2⟩,h3⟩,h4⟩,h5⟩,h6⟩:=h;exact ⟨⟨⟨⟨⟨⟨h0,h1⟩,h2⟩,h3⟩,h4⟩,⟨by omega,by omega⟩⟩,h6⟩
theorem Tk {x:ay} (h:x.ok=true):x.pO.ok=true:=by
 unfold ay.pO;split
 ·exact h
 rename_i hs;have hs:x.set≠0:=by simpa using hs
 have e:ay.Ih { x with aR:=x.set,set:=0 }=x.Ih:=by
  have:ay.sh { x with aR:=x.set,set:=0 }=x.sh:=by funext i;rcases i with _ | _ | _ | _ | _ | i<;>rfl
  simp only [ay.Ih,this]
 have e2:ay.ok { x with aR:=x.set,set:=0 }=(x.Ih&&within x.no 1 8&&within x.cur 0 2&&within x.mult 1 1024&&within x.add 0 1073741824&&within 0 0 1073741824&&within x.set 0 1073741824):=by
  unfold ay.ok;rw [e]
 rw [e2];simp only [ay.ok,within,cg,decide_eq_true_eq] at h |-;obtain ⟨⟨⟨⟨⟨⟨h0,h1⟩,h2⟩,h3⟩,h4⟩,h5⟩,h6⟩:=h;exact ⟨⟨⟨⟨⟨⟨h0,h1⟩,h2⟩,h3⟩,h4⟩,⟨by omega,by omega⟩⟩,h5⟩
theorem NF (x:ay):x.pO.no=x.no:=by unfold ay.pO;split<;>rfl
theorem Nk {r:aq} {n p:Int} (h:uV r n p=0):(uM r n p).okB=true/\r.ext (uM r n p):=by
 unfold uM;rw [if_pos h];unfold uV at h;split at h
 case isFalse=>cases h
 rename_i hr;split at h
 case isFalse=>cases h
 split at h
 case isFalse=>cases h
 rename_i hp;simp only [within,cg,decide_eq_true_eq] at hp;rw [dB] at hr;obtain ⟨h1,⟨o1,p1⟩,h3⟩:=hr;have hno:=NK (no:=ay.no) (n:=n) (f:=ay.told p) (fun _=>rfl) r.ns;refine ⟨dB.2 ⟨h1,⟨fun x hx=>?_,J7 hno p1⟩,h3⟩,⟨fun _ _=>rfl,fun m hm=>?_,fun m hm=>?_,fun _ h=>h⟩⟩
 ·rcases KU hx with h | ⟨y,hy,rfl⟩
  ·exact o1 x h
  ·exact TD (o1 y hy) hp
 ·unfold bf at hm |-;rw [<- hm];exact Nh hno
 ·unfold aV;dsimp only;rw [Jl (no:=ay.no) (f:=ay.told p) (fun _=>rfl)];split<;>exact ⟨rfl,rfl⟩
theorem Jo {r:aq} (hr:r.okB=true):(KM r).okB=true/\r.ext (KM r):=by
 rw [dB] at hr;obtain ⟨h1,⟨o1,p1⟩,h3⟩:=hr
 have hno:(r.ns.map ay.pO).map ay.no=r.ns.map ay.no:=by
  rw [List.map_map];exact List.map_congr_left fun x _=>NF x
 refine ⟨dB.2 ⟨h1,⟨fun x hx=>?_,J7 hno p1⟩,h3⟩,⟨fun _ _=>rfl,fun m hm=>?_,fun m hm=>?_,fun _ h=>h⟩⟩
 ·obtain ⟨y,hy,rfl⟩:=List.mem_map.1 hx;exact Tk (o1 y hy)
 ·unfold bf at hm |-;rw [<- hm];exact Nh hno
 ·obtain ⟨m1,m2⟩:=C5 hm;have e:aV (KM r) m=(aV r m).pO:=uh (no:=ay.no) (J7 hno p1) (List.mem_map.2 ⟨_,m1,rfl⟩) (by rw [NF];exact m2);rw [e];unfold ay.pO;split<;>exact ⟨rfl,rfl⟩
theorem vp {r:aq} {n p:Int} (h:vV r n p=0):(gp r n p).okB=true/\(∀ w,bq (gp r n p) w=if w=n then p else bq r w)/\(gp r n p).ns=r.ns/\(gp r n p).xs=r.xs:=by
 unfold gp;rw [if_pos h];unfold vV at h;split at h
 case isFalse=>cases h
 rename_i hr;split at h
 case isFalse=>cases h
 rename_i hi;split at h
 case isFalse=>cases h
 rename_i hp;simp only [within,cg,decide_eq_true_eq] at hp;rw [dB] at hr;obtain ⟨⟨o1,p1⟩,h2,h3⟩:=hr;have hno:=NK (no:=ak.no) (n:=n) (f:=ak.put p) (fun _=>rfl) r.ms;refine ⟨dB.2 ⟨⟨fun x hx=>?_,J7 hno p1⟩,h2,h3⟩,fun w=>?_,rfl,rfl⟩
 ·rcases KU hx with h | ⟨y,hy,rfl⟩
  ·exact o1 x h
  ·have:=o1 y hy;have e2:(y.put p).ok=(within y.no 1 16&&within p 1 3&&bS y.need&&decide (0<=y.need)):=rfl;rw [e2];simp only [ak.ok,within,cg,decide_eq_true_eq] at this |-;exact ⟨⟨⟨this.1.1.1,hp⟩,this.1.2⟩,this.2⟩
 ·unfold bq eV;dsimp only;rw [Jl (no:=ak.no) (f:=ak.put p) (fun _=>rfl)]
  by_cases hw:w=n
  ·rw [if_pos ⟨hw,tP.1 hi⟩,if_pos hw];rfl
  ·rw [if_neg (fun h=>hw h.1),if_neg hw]
theorem EU {a b:aJ}:a.same b=true ↔ a=b:=by
 obtain ⟨a1,a2,a3⟩:=a;obtain ⟨b1,b2,b3⟩:=b;simp only [aJ.same,cg,beq_iff_eq,aJ.mk.injEq]
theorem wU {a:aJ} {b:bJ}:V1 a b=true ↔ b.bK=a:=by
 obtain ⟨a1,a2,a3⟩:=a;obtain ⟨b1,b2,b3,b4⟩:=b;simp only [V1,bJ.bK,cg,beq_iff_eq,aJ.mk.injEq]
theorem sA {a:aJ} (h:a.less a=true):False:=by rw [mE] at h;omega
def tot {A:Type} (L:List A) (F:A->Int):Int:=aC (L.map F)
theorem fU {A:Type} (x:A) (L:List A) (F:A->Int):tot (x :: L) F=F x+tot L F:=rfl
theorem gW {A:Type} (L:List A) (F G:A->Int):tot L (fun a=>F a+G a)=tot L F+tot L G:=by
 induction L with
 | nil=>rfl
 | cons x r ih=>simp only [fU,ih];omega
theorem gw {A:Type} {L:List A} {F:A->Int} (h:∀ a∈L,F a=0):tot L F=0:=by
 induction L with
 | nil=>rfl
 | cons x r ih=>rw [fU,h x (by simp),ih fun a ha=>h a (by simp [ha])];rfl
theorem ct {A:Type} {L:List A} {F G:A->Int} (h:∀ a∈L,F a=G a):tot L F=tot L G:=by
 induction L with
 | nil=>rfl
 | cons x r ih=>rw [fU,fU,h x (by simp),ih fun a ha=>h a (by simp [ha])]
theorem wq {A:Type} {L:List A} {R:A->A->Prop} (hp:L.Pairwise R) {x:A} (hx:x∈L) {F:A->Int} (h0:∀ a,(R a x\/R x a)->F a=0):tot L F=F x:=by
 induction L with
 | nil=>cases hx
 | cons y r ih =>
  rw [List.pairwise_cons] at hp;rw [fU];rcases List.mem_cons.1 hx with rfl | hx
  ·rw [gw fun a ha=>h0 a (.inr (hp.1 a ha))];omega
  ·rw [ih hp.2 hx,h0 y (.inl (hp.1 x hx))];omega
theorem HF {k w c:Nat} {x:aJ}:x∈acc k w c ↔ x=⟨(k:Int)+1,w,c⟩/\x.right=true:=by
 unfold acc;split
 ·rename_i h;simp only [List.mem_singleton];constructor
  ·rintro rfl;exact ⟨rfl,h⟩
  ·exact fun h=>h.1
 ·rename_i h;constructor
  ·intro h;cases h
  ·rintro ⟨rfl,h2⟩;exact absurd h2 h
theorem Cb {k w n:Nat} {x:aJ}:x∈yJ k w n ↔ ∃ c,c < n/\x=⟨(k:Int)+1,w,(c:Nat)⟩/\x.right=true:=by
 rw [show yJ k w n=oq (acc k w) n from rfl,iB];simp only [HF]
theorem BS {k n:Nat} {x:aJ}:x∈yE k n ↔ ∃ w,w < n/\∃ c,c < 3/\x=⟨(k:Int)+1,(w:Nat),(c:Nat)⟩/\x.right=true:=by
 rw [show yE k n=oq (fun w=>yJ k w 3) n from rfl,iB];simp only [Cb]
theorem RS {n:Nat} {x:aJ}:x∈Ch n ↔ ∃ k,k < n/\∃ w,w < 17/\∃ c,c < 3/\x=⟨((k:Nat):Int)+1,(w:Nat),(c:Nat)⟩/\x.right=true:=by
 rw [show Ch n=oq (fun k=>yE k 17) n from rfl,iB];simp only [BS]
theorem yx {x:aJ} (h:x.right=true):(1<=x.kind/\x.kind<=6)/\(0<=x.who/\x.who<=16)/\0<=x.cur/\x.cur<=2:=by
 unfold aJ.right at h;split at h
 ·cases h
 ·split at h
  ·simp only [cg,decide_eq_true_eq] at h;omega
  ·simp only [beq_iff_eq] at h;omega
theorem xu {x:aJ}:x∈gE ↔ x.right=true:=by
 unfold gE;rw [RS];constructor
 ·rintro ⟨_,_,_,_,_,_,_,h⟩;exact h
 ·intro h;have:=yx h;refine ⟨(x.kind-1).toNat,by omega,x.who.toNat,by omega,x.cur.toNat,by omega,?_,h⟩;obtain ⟨a,b,c⟩:=x;dsimp only at this |-;rw [aJ.mk.injEq];omega
theorem wR:gE.Pairwise (fun a b=>a.less b=true):=by
 unfold gE;rw [show Ch 6=oq (fun k=>yE k 17) 6 from rfl];refine qS (fun k _=>?_) fun i j hij _ x hx y hy=>?_
 ·rw [show yE k 17=oq (fun w=>yJ k w 3) 17 from rfl];refine qS (fun w _=>?_) fun i j hij _ x hx y hy=>?_
  ·rw [show yJ k w 3=oq (acc k w) 3 from rfl];refine qS (fun c _=>tg (by unfold acc;split<;>simp)) fun i j hij _ x hx y hy=>?_
   obtain ⟨rfl,_⟩:=HF.1 hx;obtain ⟨rfl,_⟩:=HF.1 hy;rw [mE];dsimp only;omega
  ·obtain ⟨_,_,rfl,_⟩:=Cb.1 hx;obtain ⟨_,_,rfl,_⟩:=Cb.1 hy;rw [mE];dsimp only;omega
 ·obtain ⟨_,_,_,_,rfl,_⟩:=BS.1 hx;obtain ⟨_,_,_,_,rfl,_⟩:=BS.1 hy;rw [mE];dsimp only;omega
def As (c:Int) (a:aJ) (n:Int):Int:=if a.cur=c then n else 0
theorem SW (c:Int) (b:bJ) (n:Int):As c b.bK n=if b.cur=c then n else 0:=rfl
theorem SI (c:Int) (b:aS) (n:Int):As c b.bK n=if b.cur=c then n else 0:=rfl
theorem Wm (c:Int) (a:aJ) (m n:Int):As c (bJ.bK ⟨a.kind,a.who,a.cur,m⟩) n=As c a n:=rfl
theorem Fy (c:Int) (b:bJ) (r:List bJ):aC (gv c (b :: r))=As c b.bK b.sum+aC (gv c r):=by
 rw [SW];simp only [gv,List.filter_cons]
 by_cases h:b.cur=c
 ·rw [if_pos (by simpa using h),if_pos h];rfl
 ·rw [if_neg (by simpa using h),if_neg h];simp
theorem Q1 (c:Int) (a b:List bJ):gv c (a++b)=gv c a++gv c b:=by simp [gv]
theorem Rz (c:Int) (S:aJ->Int) (L:List aJ):aC (gv c (L.flatMap fun a=>pX a (S a)))=tot L fun a=>As c a (S a):=by
 induction L with
 | nil=>rfl
 | cons x r ih =>
  rw [List.flatMap_cons,Q1,eT,ih,fU];congr 1;unfold pX;split
  ·rename_i h;have h:S x=0:=by simpa using h
   rw [h];simp [gv,aC,As]
  ·rw [Fy,Wm];simp [gv,aC]
theorem CJ {a:aJ}:∀ {bs:List bJ},(∀ b∈bs,b.bK≠a)->gG a bs=0
 | [],_=>rfl
 | b :: r,h=>by
  simp only [gG];rw [if_neg (fun hh=>h b (by simp) (wU.1 hh))];exact CJ fun x hx=>h x (by simp [hx])
theorem QK (c:Int):∀ {bs:List bJ},(∀ b∈bs,b.bK.right=true)->bs.Pairwise (fun x y=>x.bK.less y.bK=true)->tot gE (fun a=>As c a (gG a bs))=aC (gv c bs)
 | [],_,_=>gw fun a _=>by simp [gG,As]
 | b :: r,h1,h2=>by
  rw [List.pairwise_cons] at h2;rw [Fy,<- QK c (fun x hx=>h1 x (by simp [hx])) h2.2]
  have e:∀ a∈gE,As c a (gG a (b :: r))=(if b.bK=a then As c a b.sum else 0)+As c a (gG a r):=by
   intro a _;simp only [gG]
   by_cases hb:b.bK=a
   ·rw [if_pos (wU.2 hb),if_pos hb];rw [CJ (bs:=r) (fun x hx hxa=>by have:=h2.1 x hx;rw [hb,hxa] at this;exact sA this)];simp [As]
   ·rw [if_neg (fun hh=>hb (wU.1 hh)),if_neg hb];omega
  rw [ct e,gW];congr 1;rw [wq wR (x:=b.bK) (xu.2 (h1 b (by simp)))]
  ·simp
  ·intro a ha;rw [if_neg]
   rintro rfl
   rcases ha with h | h<;>exact sA h
theorem lS (a:aJ) (x:aS) (g:List aS):aC (dM a (x :: g))=(if x.bK=a then x.bX else 0)+aC (dM a g):=by
 simp only [dM,pick,List.flatMap_cons,eT];congr 1
 by_cases h:x.bK=a
 ·rw [if_pos (EU.2 h),if_pos h];simp [aC]
 ·rw [if_neg (fun hh=>h (EU.1 hh)),if_neg h];rfl
theorem NL (c:Int) (x:aS) (g:List aS):aC (qx c (x :: g))=As c x.bK x.bX+aC (qx c g):=by
 simp only [qx,pick,List.flatMap_cons,eT];congr 1;rw [SI]
 by_cases h:x.cur=c
 ·rw [if_pos (by simpa using h),if_pos h];simp [aC]
 ·rw [if_neg (by simpa using h),if_neg h];rfl
theorem I2 (c:Int):∀ {g:List aS},(∀ x∈g,x.bK.right=true)->tot gE (fun a=>As c a (aC (dM a g)))=aC (qx c g)
 | [],_=>gw fun a _=>by simp [dM,pick,As,aC]
 | x :: r,h1=>by
  rw [NL,<- I2 c (fun y hy=>h1 y (by simp [hy]))]
  have e:∀ a∈gE,As c a (aC (dM a (x :: r)))=(if x.bK=a then As c a x.bX else 0)+As c a (aC (dM a r)):=by
   intro a _;rw [lS]
   by_cases hb:x.bK=a
   ·rw [if_pos hb,if_pos hb];simp only [As];split<;>omega
   ·rw [if_neg hb,if_neg hb];simp only [Int.zero_add]
  rw [ct e,gW];congr 1;rw [wq wR (x:=x.bK) (xu.2 (h1 x (by simp)))]
  ·simp
  ·intro a ha;rw [if_neg]
   rintro rfl
   rcases ha with h | h<;>exact sA h
theorem PL {bs:List bJ} {c:Int}:jJ bs c=true ↔ right (gv c bs)=true/\aC (gv c bs)=0:=by
 simp only [jJ,qU,qC,cg,beq_iff_eq];constructor
 ·rintro ⟨h1,h2⟩
  split at h1
  ·rename_i hr;split at h1
   ·rename_i hi;rw [hr,hi] at h2;exact ⟨hr,by simpa using h2⟩
   ·cases h1
  ·cases h1
 ·rintro ⟨hr,hs⟩
  rw [if_pos hr,hs,hr];exact ⟨rfl,rfl⟩
theorem nD {l:bn}:l.okB=true ↔ 0<=l.last/\((∀ b∈l.bs,kB b=true)/\l.bs.Pairwise (fun x y=>x.bK.less y.bK=true))/\jJ l.bs 0=true/\jJ l.bs 1=true/\jJ l.bs 2=true:=by
 simp only [bn.okB,cg,TL,decide_eq_true_eq,and_assoc]
theorem yM {l:bn} (h:l.okB=true):∀ b∈l.bs,b.bK.right=true:=fun b hb=>by
 have:=(nD.1 h).2.1.1 b hb;simp only [kB,cg] at this;exact this.1
theorem Jz {l:bn} {id:Int} {g:List aS} (h:eO l id g=0):l.okB=true/\(1<=id/\id<=1099511627776)/\rW g=0/\xF l g gE=true/\sW l g gE=false:=by
 unfold eO at h;split at h
 case isFalse=>cases h
 rename_i h1;split at h
 case isFalse=>cases h
 rename_i h2;split at h
 ·cases h
 split at h
 case isFalse h3=>exact absurd h h3
 rename_i h3;split at h
 case isFalse=>cases h
 rename_i h4;split at h
 ·cases h
 rename_i h5;simp only [within,cg,decide_eq_true_eq] at h2;exact ⟨h1,h2,h3,h4,by simpa using h5⟩
theorem Io {l:bn} {id:Int} {g:List aS} (h:eO l id g=0):(gH l id g).okB=true:=by
 unfold gH;rw [if_pos h];obtain ⟨h1,h2,h3,h4,h5⟩:=Jz h;obtain ⟨m1,m2,m3⟩:=IB h3
 have hmr:∀ x∈g,x.bK.right=true:=fun x hx=>by
  have:=List.all_eq_true.1 m1 x hx;simp only [Nf,cg] at this;exact this.1
 have hb:=nD.1 h1
 have hal:∀ b∈Ef l g gE,∃ a∈gE,b=⟨a.kind,a.who,a.cur,mI l g a⟩/\mI l g a≠0:=by
  intro b hb;obtain ⟨a,ha,hb⟩:=List.mem_flatMap.1 hb;unfold pX at hb;split at hb
  ·cases hb
  ·rename_i hne;simp only [List.mem_singleton] at hb;exact ⟨a,ha,hb,by simpa using hne⟩
 have hin:∀ a∈gE,bS (mI l g a)=true:=fun a ha=>List.all_eq_true.1 h4 a ha
 have hcur:∀ c:Int,jJ l.bs c=true->aC (qx c g)=0->jJ (Ef l g gE) c=true:=by
  intro c hc hg;rw [PL] at hc |-;constructor
  ·refine List.all_eq_true.2 fun n hn=>?_
   simp only [gv,List.mem_map,List.mem_filter] at hn;obtain ⟨b,⟨hb,_⟩,rfl⟩:=hn;obtain ⟨a,ha,rfl,_⟩:=hal b hb;exact hin a ha
  ·have e:=Rz c (mI l g) gE;rw [show Ef l g gE=gE.flatMap fun a=>pX a (mI l g a) from rfl,e]
   have e2:∀ a∈gE,As c a (mI l g a)=As c a (gG a l.bs)+As c a (aC (dM a g)):=fun a _=>by
    simp only [mI,aC,As];split<;>omega
   rw [ct e2,gW,QK c (yM h1) hb.2.1.2,I2 c hmr,hc.2,hg];rfl
 have hfl:∀ c:Nat,c < 3->aC (qx c g)=0:=fun c hc=>by
  have:=List.all_eq_true.1 m2 c (List.mem_range.2 hc);simpa using this
 refine nD.2 ⟨by dsimp only;omega,⟨fun b hb=>?_,?_⟩,hcur 0 hb.2.2.1 (hfl 0 (by omega)),hcur 1 hb.2.2.2.1 (hfl 1 (by omega)),hcur 2 hb.2.2.2.2 (hfl 2 (by omega))⟩
 ·obtain ⟨a,ha,rfl,hne⟩:=hal b hb;rw [show kB ⟨a.kind,a.who,a.cur,mI l g a⟩=(a.right&&(bS (mI l g a)&&(mI l g a != 0&&!decide (mI l g a < a.floor)))) from rfl];simp only [cg,bne_iff_ne,Bool.not_eq_true',decide_eq_false_iff_not];refine ⟨xu.1 ha,hin a ha,hne,fun hlt=>?_⟩;have:sW l g gE=true:=List.any_eq_true.2 ⟨a,ha,by simpa using hlt⟩;rw [h5] at this;cases this
 ·refine G3 (f:=fun a=>pX a (mI l g a)) wR (fun a _=>tg (Kj _ _)) fun a b _ _ hab x hx y hy=>?_
  have key:∀ (a:aJ) (x:bJ),x∈pX a (mI l g a)->x.bK=a:=fun a x hx=>by
   unfold pX at hx;split at hx
   ·cases hx
   ·simp only [List.mem_singleton] at hx;rw [hx];rfl
  rw [key a x hx,key b y hy];exact hab
theorem Gk {l:bn} {g:List aS} {e:Int} (h:l.okB=true) (h0:(fB l g e).2=0):(fB l g e).1.okB=true:=by
 unfold fB at h0 |-;split
 ·rename_i hc;rw [if_pos hc] at h0;exact Io h0
 ·exact h
theorem FX {a b:aA}:fQ a b=true ↔ a.who < b.who\/(a.who=b.who/\a.inst < b.inst):=by
 simp only [fQ,DA,Bool.or_eq_true,cg,decide_eq_true_eq,beq_iff_eq]
theorem Q7 {a b c:aA} (h1:fQ a b=true) (h2:fQ b c=true):fQ a c=true:=by
 simp only [fQ,DA,Bool.or_eq_true,cg,decide_eq_true_eq,beq_iff_eq] at h1 h2 |-;omega
theorem Mc {a b c:aL} (h1:eD a b=true) (h2:eD b c=true):eD a c=true:=by
 simp only [eD,decide_eq_true_eq] at h1 h2 |-;omega
theorem Lj {n:Int} {l:List aA}:kD n l=true ↔ right (cq n l)=true/\aC (cq n l)=0:=by
 simp only [kD,qU,qC,cg,beq_iff_eq];constructor
 ·rintro ⟨h1,h2⟩
  split at h1
  ·rename_i hr;split at h1
   ·rename_i hi;rw [hr,hi] at h2;exact ⟨hr,by simpa using h2⟩
   ·cases h1
  ·cases h1
 ·rintro ⟨hr,hs⟩
  rw [if_pos hr,hs,hr];exact ⟨rfl,rfl⟩
theorem ld {p:aA}:p.okB=true ↔ (1<=p.who/\p.who<=16)/\(1<=p.inst/\p.inst<=8)/\(-1099511627776<=p.aX/\p.aX<=1099511627776)/\bS p.cost=true /\ ¬ (p.aX=0/\p.cost=0):=by
 simp only [aA.okB,ot,within,cg,decide_eq_true_eq,Bool.not_eq_true',Bool.and_eq_false_iff,beq_eq_false_iff_ne,ne_eq];constructor
 ·rintro ⟨⟨h1,h2⟩,h3,h4,h5⟩;exact ⟨h1,h2,h3,h4,fun h=>by rcases h5 with h5 | h5<;>omega⟩
 ·rintro ⟨h1,h2,h3,h4,h5⟩;refine ⟨⟨h1,h2⟩,h3,h4,?_⟩;omega
structure aG.right (b:aG):Prop where
 ok:∀ p∈b.qs,p.okB=true
 pw:b.qs.Pairwise (fun x y=>fQ x y=true)
 level:∀ n:Int,1<=n->n<=8->aC (cq n b.qs)=0
 tok:∀ t∈b.ts,eR b.next t=true
 Yx:b.ts.Pairwise (fun x y=>x.no < y.no)
 tl:b.ts.length<=128
 n0:0<=b.next
 n1:b.next<=1099511627776
theorem eH {b:aG}:b.okB=true ↔ b.right:=by
 simp only [aG.okB,cg,oS (lt:=fQ) Q7,oS (lt:=eD) Mc,Bool.not_eq_true',decide_eq_false_iff_not,kZ,List.all_eq_true,Lj];constructor
 ·rintro ⟨⟨h1,h2⟩,⟨h3,h4⟩,h5,h6,h7,h8⟩
  refine ⟨h1,h2,fun n hn hn2=>?_,h3,h4.imp fun h=>by simpa [eD] using h,by omega,by omega,by omega⟩;have:=(h5 (n-1).toNat (List.mem_range.2 (by omega))).2
  rwa [show (((n-1).toNat:Nat):Int)+1=n by omega] at this
 ·intro h;refine ⟨⟨h.ok,h.pw⟩,⟨h.tok,h.Yx.imp fun h=>by simpa [eD] using h⟩,fun i hi=>⟨?_,h.level _ (by omega) (by have:=List.mem_range.1 hi;omega)⟩,by have:=h.tl;omega,by have:=h.n0;omega,by have:=h.n1;omega⟩;refine List.all_eq_true.2 fun q hq=>?_
  simp only [cq,List.mem_map,List.mem_filter] at hq;obtain ⟨p,⟨hp,_⟩,rfl⟩:=hq;have:=(ld.1 (h.ok p hp)).2.2.1;rw [cR];omega
theorem EV (n:Int) (a b:List aA):cq n (a++b)=cq n a++cq n b:=by simp [cq]
theorem lC (n:Int) (p:aA) (r:List aA):aC (cq n (p :: r))=(if p.inst=n then p.aX else 0)+aC (cq n r):=by
 simp only [cq,List.filter_cons]
 by_cases h:p.inst=n
 ·rw [if_pos (by simpa using h),if_pos h];rfl
 ·rw [if_neg (by simpa using h),if_neg h];simp
theorem vn {A:Type} (n:Int) (f:A->List aA) (L:List A):aC (cq n (L.flatMap f))=tot L (fun a=>aC (cq n (f a))):=by
 induction L with
 | nil=>rfl
 | cons x r ih=>rw [List.flatMap_cons,EV,eT,ih];rfl
theorem Pp (b:aG) (g:List aA) (w m n:Int):aC (cq n (EJ b g w m))=if m=n then FE b g w m else 0:=by
 unfold EJ;split
 ·rename_i h;simp only [cg,beq_iff_eq] at h;rw [h.1];split<;>rfl
 ·rw [lC];simp [cq,aC]
theorem B6 (n:Nat):(List.range n).Pairwise (fun a b=>a < b):=List.pairwise_lt_range
theorem Oh (b:aG) (g:List aA) (w n:Int) (h1:1<=n) (h8:n<=8):aC (cq n (K1 b g w 8))=FE b g w n:=by
 unfold K1;rw [vn]
 have e:∀ k∈List.range 8,aC (cq n (EJ b g w ((k:Int)+1)))=if (k:Int)+1=n then FE b g w n else 0:=fun k _=>by
  rw [Pp];split
  ·rename_i h;rw [h]
  ·rfl
 rw [ct e,wq (B6 8) (x:=(n-1).toNat) (List.mem_range.2 (by omega))]
 ·rw [if_pos (by omega)]
 ·intro a ha;rw [if_neg (by omega)]
theorem NV (b:aG) (g:List aA) (n:Int) (h1:1<=n) (h8:n<=8):aC (cq n (vS b g 16))=tot (List.range 16) (fun k=>FE b g ((k:Int)+1) n):=by
 unfold vS;rw [vn];exact ct fun k _=>Oh b g _ n h1 h8
theorem eJ {w n:Int} {p:aA}:dP w n p=true ↔ p.who=w/\p.inst=n:=by simp only [dP,cg,beq_iff_eq]
theorem lP {w n:Int}:∀ {qs:List aA},(∀ p∈qs,¬ (p.who=w/\p.inst=n))->posOf w n qs=⟨w,n,0,0⟩
 | [],_=>rfl
 | p :: r,h=>by
  simp only [posOf];rw [if_neg (by simp only [dP,cg,beq_iff_eq];exact h p (by simp))];exact lP fun x hx=>h x (by simp [hx])
theorem Bi {w n:Int} {qs:List aA} (hp:qs.Pairwise (fun x y=>fQ x y=true)) {p:aA} (hm:p∈qs) (hk:p.who=w/\p.inst=n):posOf w n qs=p:=by
 induction qs with
 | nil=>cases hm
 | cons y r ih =>
  rw [List.pairwise_cons] at hp;simp only [posOf];rcases List.mem_cons.1 hm with rfl | hm
  ·rw [if_pos (by simp only [dP,cg,beq_iff_eq];exact hk)]
  ·have:=hp.1 p hm;rw [if_neg]
   ·exact ih hp.2 hm
   ·simp only [fQ,DA,Bool.or_eq_true,cg,decide_eq_true_eq,beq_iff_eq] at this;simp only [dP,cg,beq_iff_eq];omega
theorem Qy {w v:Int} (h:1<=w/\w<=16):tot (List.range 16) (fun k=>if w=(k:Int)+1 then v else 0)=v:=by
 rw [wq (B6 16) (x:=(w-1).toNat) (List.mem_range.2 (by omega))]
 ·rw [if_pos (by omega)]
 ·intro a ha;rw [if_neg (by omega)]
theorem QS (n:Int):∀ {qs:List aA},(∀ p∈qs,1<=p.who/\p.who<=16)->qs.Pairwise (fun x y=>fQ x y=true)->tot (List.range 16) (fun k=>(posOf ((k:Int)+1) n qs).aX)=aC (cq n qs)
 | [],_,_=>gw fun a _=>rfl
 | p :: r,h1,h2=>by
  rw [List.pairwise_cons] at h2;rw [lC,<- QS n (fun x hx=>h1 x (by simp [hx])) h2.2]
  have e:∀ k∈List.range 16,(posOf ((k:Int)+1) n (p :: r)).aX=(if p.who=(k:Int)+1 then (if p.inst=n then p.aX else 0) else 0)+(posOf ((k:Int)+1) n r).aX:=by
   intro k _;simp only [posOf]
   by_cases hw:p.who=(k:Int)+1
   ·rw [if_pos hw]
    by_cases hn:p.inst=n
    ·rw [if_pos hn,if_pos (eJ.2 ⟨hw,hn⟩)];rw [lP (qs:=r)]
     ·simp
     ·intro x hx hk;have:=h2.1 x hx;simp only [fQ,DA,Bool.or_eq_true,cg,decide_eq_true_eq,beq_iff_eq] at this;omega
    ·rw [if_neg hn,if_neg (fun h=>hn (eJ.1 h).2)];omega
   ·rw [if_neg hw,if_neg (fun h=>hw (eJ.1 h).1)];omega
  rw [ct e,gW,Qy (h1 p (by simp))]
theorem nw {A:Type} (q:A->Bool) (f:A->Int) (x:A) (r:List A):aC (pick q f (x :: r))=(if q x=true then f x else 0)+aC (pick q f r):=by
 simp only [pick,List.flatMap_cons,eT];congr 1;split
 ·simp [aC]
 ·rfl
theorem Ik (n:Int) (f:aA->Int):∀ {g:List aA},(∀ p∈g,1<=p.who/\p.who<=16)->tot (List.range 16) (fun k=>aC (pick (dP ((k:Int)+1) n) f g))=aC (pick (fun p=>p.inst==n) f g)
 | [],_=>gw fun a _=>rfl
 | p :: r,h1=>by
  rw [nw,<- Ik n f (fun x hx=>h1 x (by simp [hx]))]
  have e:∀ k∈List.range 16,aC (pick (dP ((k:Int)+1) n) f (p :: r))=(if p.who=(k:Int)+1 then (if (p.inst==n)=true then f p else 0) else 0)+aC (pick (dP ((k:Int)+1) n) f r):=by
   intro k _;rw [nw];congr 1
   by_cases hw:p.who=(k:Int)+1
   ·rw [if_pos hw]
    by_cases hn:p.inst=n
    ·rw [if_pos (eJ.2 ⟨hw,hn⟩),if_pos (by simpa using hn)]
    ·rw [if_neg (fun h=>hn (eJ.1 h).2),if_neg (by simpa using hn)]
   ·rw [if_neg hw,if_neg (fun h=>hw (eJ.1 h).1)]
  rw [ct e,gW,Qy (h1 p (by simp))]
theorem Mv {p:aA} (h:pW p=true):(1<=p.who/\p.who<=16)/\(1<=p.inst/\p.inst<=8):=by
 simp only [pW,ot,within,cg,decide_eq_true_eq] at h;exact h.1
theorem qH {b:aG} {g:List aA} {w n:Int} {p:aA} (h:p∈EJ b g w n):p=⟨w,n,FE b g w n,RM b g w n⟩ /\ ¬ (FE b g w n=0/\RM b g w n=0):=by
 unfold EJ at h;split at h
 ·cases h
 ·rename_i hne;simp only [cg,beq_iff_eq] at hne;exact ⟨List.mem_singleton.1 h,hne⟩
theorem Tx {b:aG} {g:List aA} {p:aA} (h:p∈vS b g 16):(∃ q∈b.qs,q.who=p.who/\q.inst=p.inst)\/(∃ q∈g,q.who=p.who/\q.inst=p.inst):=by
 obtain ⟨k,m,_,_,hp⟩:=wv h;obtain ⟨rfl,hne⟩:=qH hp;dsimp only
 by_cases h1:∃ q∈b.qs,q.who=(k:Int)+1/\q.inst=(m:Int)+1
 ·exact .inl h1
 by_cases h2:∃ q∈g,q.who=(k:Int)+1/\q.inst=(m:Int)+1
 ·exact .inr h2
 exfalso;have e1:=lP (w:=(k:Int)+1) (n:=(m:Int)+1) (qs:=b.qs) fun p hp hk=>h1 ⟨p,hp,hk⟩
 have e2:∀ f:aA->Int,pick (dP ((k:Int)+1) ((m:Int)+1)) f g=[]:=fun f=>by
  unfold pick;rw [List.flatMap_eq_nil_iff];intro x hx;rw [if_neg];simp only [dP,cg,beq_iff_eq];exact fun hk=>h2 ⟨x,hx,hk⟩
 apply hne;unfold FE RM;rw [e1,e2,e2];exact ⟨rfl,rfl⟩
theorem HL (b:aG) (g:List aA):(vS b g 16).Pairwise (fun x y=>fQ x y=true):=by
 rw [show vS b g 16=oq (fun k=>K1 b g ((k:Int)+1) 8) 16 from rfl];refine qS (fun k _=>?_) fun i j hij _ x hx y hy=>?_
 ·rw [show K1 b g ((k:Int)+1) 8=oq (fun m=>EJ b g ((k:Int)+1) ((m:Int)+1)) 8 from rfl];refine qS (fun m _=>tg (by unfold EJ;split<;>simp)) fun i j hij _ x hx y hy=>?_
  rw [(qH hx).1,(qH hy).1];rw [FX];dsimp only;omega
 ·obtain ⟨m,_,hx⟩:=List.mem_flatMap.1 hx;obtain ⟨m2,_,hy⟩:=List.mem_flatMap.1 hy;rw [(qH hx).1,(qH hy).1];rw [FX];dsimp only;omega
theorem yB {b:aG} {g:List aA} (h:jq b g=0):(∀ p∈vS b g 16,p.okB=true)/\∀ n:Int,1<=n->n<=8->aC (cq n (vS b g 16))=0:=by
 obtain ⟨h1,h2,h3⟩:=tG h;have hb:=eH.1 (kN h).1;refine ⟨fun p hp=>?_,fun n hn1 hn8=>?_⟩
 ·obtain ⟨k,m,hk,hm,hp⟩:=wv hp;have hok:=Cr h3 hk hm;obtain ⟨rfl,hne⟩:=qH hp;simp only [Co,within,cg,decide_eq_true_eq] at hok;rw [ld];dsimp only;exact ⟨by omega,by omega,hok.2.2,hok.2.1,hne⟩
 ·rw [NV _ _ _ hn1 hn8];have e:∀ k∈List.range 16,FE b g ((k:Int)+1) n=(posOf ((k:Int)+1) n b.qs).aX+aC (pick (dP ((k:Int)+1) n) aA.aX g):=fun k _=>rfl
  rw [ct e,gW,QS n (fun p hp=>(ld.1 (hb.ok p hp)).1) hb.pw,Ik n aA.aX (fun p hp=>(Mv (List.all_eq_true.1 h1 p hp)).1),hb.level n hn1 hn8];have:=List.all_eq_true.1 h2 (n-1).toNat (List.mem_range.2 (by omega));rw [show (((n-1).toNat:Nat):Int)+1=n by omega] at this;simpa using this
theorem T0 {b:aG} {g:List aA} (h:jq b g=0):(rX b g).okB=true:=by
 have hb:=eH.1 (kN h).1;rw [(kN h).2];obtain ⟨q1,q2⟩:=yB h;exact eH.2 ⟨q1,HL b g,q2,hb.tok,hb.Yx,hb.tl,hb.n0,hb.n1⟩
theorem E7 {b:aG} {t:aL} (h:fM b t=0):b.okB=true/\t.okB=true/\b.ts.length < 128/\b.next≠1099511627776/\jq b (fX t false)=0:=by
 unfold fM at h;split at h
 case isFalse=>cases h
 rename_i h1;split at h
 case isFalse=>cases h
 rename_i h2;split at h
 ·cases h
 rename_i h3;split at h
 ·cases h
 rename_i h4;exact ⟨h1,h2,by omega,h4,h⟩
theorem FW {b:aG} {t:aL} (h:fM b t=0):(gS b t).okB=true:=by
 obtain ⟨h1,h2,h3,h4,h5⟩:=E7 h;have hb:=eH.1 h1;obtain ⟨q1,q2⟩:=yB h5;have n0:=hb.n0;have n1:=hb.n1
 have hno:∀ x∈b.ts,(1<=x.no/\x.no<=b.next)/\x.okB=true:=fun x hx=>by
  have:=hb.tok x hx;simp only [eR,cg,Bool.not_eq_true',decide_eq_false_iff_not] at this;exact ⟨by omega,this.1⟩
 unfold gS;rw [if_pos h];refine eH.2 ⟨q1,HL _ _,q2,fun x hx=>?_,?_,by dsimp only;simp;omega,by dsimp only;omega,by dsimp only;omega⟩
 ·simp only [eR,cg,Bool.not_eq_true',decide_eq_false_iff_not];rcases List.mem_append.1 hx with hx | hx
  ·have:=hno x hx;exact ⟨this.2,by omega,by omega⟩
  ·obtain rfl:=List.mem_singleton.1 hx;exact ⟨h2,by dsimp only;omega,by dsimp only;omega⟩
 ·dsimp only;rw [List.pairwise_append];refine ⟨hb.Yx,by simp,fun x hx y hy=>?_⟩;obtain rfl:=List.mem_singleton.1 hy;have:=hno x hx;dsimp only;omega
theorem BN {b:aG} {n:Int} (h:¬ gq n b.ts < 0):cr n b.ts∈b.ts/\(gq n b.ts).toNat < b.ts.length/\b.ts[(gq n b.ts).toNat]?=some (cr n b.ts):=by
 obtain ⟨i,hi,he,_⟩:=tD h;unfold cr;rw [he,Int.toNat_natCast,List.getD_eq_getElem?_getD,List.getElem?_eq_getElem hi];exact ⟨List.getElem_mem hi,hi,rfl⟩
theorem LP {b:aG} {n:Int} (h:eG b n=0):(dI b n).okB=true:=by
 obtain ⟨h1,h2,h3⟩:=nL h;have hb:=eH.1 h1;obtain ⟨q1,q2⟩:=yB h3;obtain ⟨m1,m2,m3⟩:=BN h2;unfold dI;rw [if_pos h];refine eH.2 ⟨q1,HL _ _,q2,fun x hx=>?_,?_,by dsimp only;simp only [NO,List.length_set];exact hb.tl,hb.n0,hb.n1⟩
 ·rcases List.mem_or_eq_of_mem_set hx with hx | rfl
  ·exact hb.tok x hx
  ·exact (show eR b.next (cr n b.ts)=true from hb.tok _ m1)
 ·refine J7 (no:=aL.no) ?_ hb.Yx;dsimp only;unfold NO;rw [List.map_set];refine List.ext_getElem? fun j=>?_
  rw [List.getElem?_set];split
  ·rename_i hj;subst hj;rw [List.getElem?_map,m3];simp [m2]
  ·rfl
theorem sQ {b:aG} {n q p:Int} (h:qj b n q p=0):eG b n=0/\fM (dI b n) { cr n b.ts with aX:=q,aR:=p }=0:=by
 unfold qj at h;split at h
 ·exact ⟨by assumption,h⟩
 ·rename_i hc;exact absurd h hc
theorem JG {b:aG} {n q p:Int} (h:qj b n q p=0):(om b n q p).okB=true:=by
 obtain ⟨h1,h2⟩:=sQ h;unfold om;rw [if_pos h1];exact FW h2
theorem KP {r:aq}:∀ {l:List aA},nW r l=0->∀ p∈l,B3 r p=0
 | [],_,_,h=>by cases h
 | q :: t,h,p,hp=>by
  simp only [nW] at h;split at h
  ·rcases List.mem_cons.1 hp with rfl | hp
   ·assumption
   ·exact KP h p hp
  ·rename_i hne;exact absurd h hne
theorem Nj {r:aq} {b:aG} (h:um r b=0):r.okB=true/\b.okB=true/\∀ p∈b.qs,B3 r p=0:=by
 unfold um at h;split at h
 ·rename_i hb;rw [cg] at hb;exact ⟨hb.1,hb.2,KP h⟩
 ·cases h
theorem Dg {r:aq} {p:aA} (h:B3 r p=0):bf r p.inst=true/\bS (gP p (aV r p.inst).mult (dR (aV r p.inst)))=true/\bS (p.aX*dR (aV r p.inst))=true:=by
 unfold B3 at h;split at h
 case isFalse=>cases h
 rename_i h1;split at h
 ·cases h
 split at h
 case isFalse=>cases h
 rename_i h2;rw [cg] at h2;exact ⟨h1,h2⟩
theorem tZ {r:aq} {p x:aA} (h:x∈mP r p):x=⟨p.who,p.inst,p.aX,p.aX*dR (aV r p.inst)⟩ /\ ¬ (p.aX=0/\p.aX*dR (aV r p.inst)=0):=by
 unfold mP at h;split at h
 ·cases h
 ·rename_i hne;simp only [cg,beq_iff_eq] at hne;exact ⟨List.mem_singleton.1 h,hne⟩
theorem TF {r:aq} {b:aG} (h:um r b=0):(vf r b).okB=true:=by
 obtain ⟨_,h2,h3⟩:=Nj h;have hb:=eH.1 h2;unfold vf;rw [if_pos h];refine eH.2 ⟨fun x hx=>?_,?_,fun n hn1 hn8=>?_,hb.tok,hb.Yx,hb.tl,hb.n0,hb.n1⟩
 ·obtain ⟨p,hp,hx⟩:=List.mem_flatMap.1 hx;obtain ⟨rfl,hne⟩:=tZ hx;have:=ld.1 (hb.ok p hp);rw [ld];exact ⟨this.1,this.2.1,this.2.2.1,(Dg (h3 p hp)).2.2,hne⟩
 ·refine G3 (f:=mP r) hb.pw (fun p _=>tg (by unfold mP;split<;>simp)) fun p q _ _ hpq x hx y hy=>?_
  rw [(tZ hx).1,(tZ hy).1];exact hpq
 ·dsimp only;rw [vn,<- hb.level n hn1 hn8]
  have e:∀ l:List aA,tot l (fun p=>aC (cq n (mP r p)))=aC (cq n l):=fun l=>by
   induction l with
   | nil=>rfl
   | cons p t ih =>
    rw [fU,ih,lC];congr 1;unfold mP;split
    ·rename_i hz;simp only [cg,beq_iff_eq] at hz;rw [hz.1];split<;>rfl
    ·rw [lC];simp [cq,aC]
  exact e b.qs
theorem N2 {a b c:au} (h1:bN a b=true) (h2:bN b c=true):bN a c=true:=by
 simp only [bN,Bool.or_eq_true,cg,decide_eq_true_eq,beq_iff_eq] at h1 h2 |-;omega
theorem qp {a b c:bu} (h1:dD a b=true) (h2:dD b c=true):dD a c=true:=by
 simp only [dD,decide_eq_true_eq] at h1 h2 |-;omega
theorem nv {xs:List au}:lV bR bN xs=true ↔ (∀ x∈xs,bR x=true)/\xs.Pairwise (fun a b=>bN a b=true):=oS (lt:=bN) N2
theorem tL {x:au}:bR x=true ↔ (1<=x.who/\x.who<=16)/\(0<=x.cur/\x.cur<=2)/\(1<=x.bX/\x.bX<=4611686018427387904)/\0<=x.till/\x.till<=1099511627776:=by
 simp only [bR,within,cg,decide_eq_true_eq];omega
theorem Re {x:aN}:xm x=true ↔ (1<=x.who/\x.who<=16)/\(0<=x.cur/\x.cur<=2)/\0<=x.bX/\x.bX<=4611686018427387904:=by
 simp only [xm,within,cg,decide_eq_true_eq];omega
theorem qR {w c:Int} {xs:List au} (h:¬ cK w c xs < 0):lM w c xs∈xs/\(lM w c xs).who=w/\(lM w c xs).cur=c:=by
 obtain ⟨i,hi,he,hc⟩:=oh h;unfold lM;rw [he,Int.toNat_natCast,List.getD_eq_getElem?_getD,List.getElem?_eq_getElem hi];simp only [lO,cg,beq_iff_eq] at hc;exact ⟨List.getElem_mem hi,hc⟩
theorem sy {xs:List au} {x y:au} {w c:Int} (h:y∈Gn xs x w c):(y.who=w/\y.cur=c)/\((y=x/\0 < x.bX)\/y∈xs):=by
 unfold Gn at h;split at h
 ·rename_i hk;simp only [cg,beq_iff_eq] at hk;split at h
  ·rename_i ha;obtain rfl:=List.mem_singleton.1 h;exact ⟨hk,.inl ⟨rfl,ha⟩⟩
  ·cases h
 ·split at h
  ·cases h
  ·rename_i hc;obtain rfl:=List.mem_singleton.1 h;have:=qR hc;exact ⟨this.2,.inr this.1⟩
theorem B9 {xs:List au} {x y:au} (h:y∈xZ xs x 16):(y=x/\0 < x.bX)\/y∈xs:=by
 obtain ⟨k,_,h⟩:=iB.1 h;obtain ⟨c,_,h⟩:=iB.1 h;exact (sy h).2
theorem Nv {xs:List au} {x:au} (h:lV bR bN xs=true) (hx:0 < x.bX->bR x=true):lV bR bN (xZ xs x 16)=true:=by
 rw [nv] at h |-;refine ⟨fun y hy=>?_,?_⟩
 ·rcases B9 hy with ⟨rfl,ha⟩ | hy
  ·exact hx ha
  ·exact h.1 y hy
 ·unfold xZ;refine qS (fun k _=>?_) fun i j hij _ a ha b hb=>?_
  ·unfold xX;refine qS (fun c _=>tg (KB _ _ _ _)) fun i j hij _ a ha b hb=>?_
   have h1:=(sy ha).1;have h2:=(sy hb).1;simp only [bN,Bool.or_eq_true,cg,decide_eq_true_eq,beq_iff_eq];omega
  ·obtain ⟨_,_,ha⟩:=iB.1 ha;obtain ⟨_,_,hb⟩:=iB.1 hb;have h1:=(sy ha).1;have h2:=(sy hb).1;simp only [bN,Bool.or_eq_true,cg,decide_eq_true_eq,beq_iff_eq];omega
theorem TN {xs:List au} {d:aN} {t:Int} (h:lV bR bN xs=true):lV bR bN (Ae xs d t)=true/\∀ y∈Ae xs d t,y.who=d.who\/y∈xs:=by
 unfold Ae;split
 case isFalse=>exact ⟨rfl,fun y hy=>by cases hy⟩
 rename_i he;unfold A9 at he;rw [if_pos h] at he;split at he
 case isFalse=>cases he
 rename_i hd;rw [cg] at hd;obtain ⟨hd,ht⟩:=hd;rw [Re] at hd;simp only [within,cg,decide_eq_true_eq] at ht;refine ⟨Nv h fun ha=>?_,fun y hy=>?_⟩
 ·dsimp only at ha;rw [tL];dsimp only;refine ⟨hd.1,hd.2.1,by omega,?_⟩;split
  ·exact ht
  ·rename_i hc;exact (tL.1 ((nv.1 h).1 _ (qR hc).1)).2.2.2
 ·rcases B9 hy with ⟨rfl,_⟩ | hy
  ·exact .inl rfl
  ·exact .inr hy
theorem Rv {xs:List au} {d:aN} (h:lV bR bN xs=true):lV bR bN (rE xs d)=true/\∀ y∈rE xs d,∃ x∈xs,y.who=x.who:=by
 unfold rE;split
 case isFalse=>exact ⟨rfl,fun y hy=>by cases hy⟩
 rename_i he;unfold qo at he;rw [if_pos h] at he;split at he
 case isFalse=>cases he
 rename_i hd;rw [Re] at hd;refine ⟨Nv h fun ha=>?_,fun y hy=>?_⟩
 ·unfold Jc at ha |-;split at ha
  ·dsimp only at ha;omega
  ·rename_i hc;rw [if_neg hc];have hx:=tL.1 ((nv.1 h).1 _ (qR hc).1);dsimp only at ha;rw [tL];dsimp only;exact ⟨hx.1,hx.2.1,by omega,hx.2.2.2⟩
 ·rcases B9 hy with ⟨rfl,ha⟩ | hy
  ·unfold Jc at ha |-;split at ha
   ·dsimp only at ha;omega
   ·rename_i hc;rw [if_neg hc];exact ⟨_,(qR hc).1,rfl⟩
  ·exact ⟨y,hy,rfl⟩
theorem qN {xs:List au} {ws:List Int} {y:au}:y∈bM xs ws ↔ y∈xs/\qg ws y.who=false:=by
 unfold bM;rw [List.mem_flatMap];constructor
 ·rintro ⟨x,hx,h⟩
  split at h
  ·cases h
  ·rename_i hn;obtain rfl:=List.mem_singleton.1 h;exact ⟨hx,by simpa using hn⟩
 ·rintro ⟨h1,h2⟩
  exact ⟨y,h1,by rw [h2];simp⟩
theorem K3 {A:Type} {R:A->A->Prop} {q:A->Bool} {xs:List A} (h:xs.Pairwise R):(xs.flatMap fun x=>if q x=true then [] else [x]).Pairwise R:=by
 refine G3 h (fun a _=>tg (by split<;>simp)) fun a b _ _ hab x hx y hy=>?_
 split at hx
 ·cases hx
 split at hy
 ·cases hy
 obtain rfl:=List.mem_singleton.1 hx;obtain rfl:=List.mem_singleton.1 hy;exact hab
theorem yZ {xs:List au} {ws:List Int} (h:lV bR bN xs=true):lV bR bN (bM xs ws)=true:=by
 rw [nv] at h |-;exact ⟨fun y hy=>h.1 y (qN.1 hy).1,K3 h.2⟩
structure iO (r:aq) (qs:List aA) (ts:List aL) (ps:List eW) (cs:List au):Prop where
 qs:∀ p∈qs,(bq r p.who=1\/bq r p.who=2)/\bf r p.inst=true
 ts:∀ t∈ts,bq r t.fZ≠0/\bq r t.dY≠0/\bf r t.inst=true
 ps:∀ p∈ps,(bq r p.who=1\/bq r p.who=2)/\jr r p.bF=true
 cs:∀ c∈cs,bq r c.who=1
structure af.right (s:af):Prop where
 Ii:(0<=s.now/\s.now<=1099511627776)/\(0<=s.day/\s.day<=1099511627776)/\0<=s.phase/\s.phase<=2
 aj:s.aj.okB=true
 book:s.book.okB=true
 bE:s.bE.okB=true
 ps:gj s.ps=true
 calls:lV bR bN s.calls=true
 known:iO s.aj s.book.qs s.book.ts s.ps s.calls
 bl:s.aT.length<=32
 aT:∀ b∈s.aT,j5 b=true
 aM:lV ff dD s.aM=true
theorem eg {s:af}:bA s=true ↔ s.right:=by
 simp only [bA,oV,lN,Dq,uy,sG,oT,u5,within,cg,Bool.or_eq_true,Bool.not_eq_true',decide_eq_true_eq,decide_eq_false_iff_not,beq_iff_eq,beq_eq_false_iff_ne,List.all_eq_true,ne_eq];constructor
 ·rintro ⟨h0,h1,h2,h3,h4,h5,⟨k1,k2,k3,k4⟩,h7,h8,h9⟩
  exact ⟨by omega,h1,h2,h3,h4,h5,⟨k1,k2,k3,k4⟩,by omega,h8,h9⟩
 ·intro h;have:=h.bl;have:=h.Ii;exact ⟨by omega,h.aj,h.book,h.bE,h.ps,h.calls,⟨h.known.qs,h.known.ts,h.known.ps,h.known.cs⟩,by omega,h.aT,h.aM⟩
theorem iO.ext {r r':aq} {qs ts ps cs} (h:iO r qs ts ps cs) (e:r.ext r'):iO r' qs ts ps cs:=by
 have ho:∀ w,(bq r w=1\/bq r w=2)->bq r' w=1\/bq r' w=2:=fun w hw=>by
  rw [e.st w (by omega)];exact hw
 refine ⟨fun p hp=>⟨ho _ (h.qs p hp).1,e.inst _ (h.qs p hp).2⟩,fun t ht=>?_,fun p hp=>⟨ho _ (h.ps p hp).1,e.ast _ (h.ps p hp).2⟩,fun c hc=>?_⟩
 ·have:=h.ts t ht;rw [e.st _ this.1,e.st _ this.2.1];exact ⟨this.1,this.2.1,e.inst _ this.2.2⟩
 ·have:=h.cs c hc;rw [e.st _ (by omega)];exact this
theorem qT {s:af} (h:s.right) {r':aq} (h1:r'.okB=true/\s.aj.ext r'):({ s with aj:=r' }:af).right:=
 ⟨h.Ii,h1.1,h.book,h.bE,h.ps,h.calls,h.known.ext h1.2,h.bl,h.aT,h.aM⟩
theorem OJ {s:af} (h:s.right) {l:bn} (h1:l.okB=true):({ s with bE:=l }:af).right:=
 ⟨h.Ii,h.aj,h.book,h1,h.ps,h.calls,h.known,h.bl,h.aT,h.aM⟩
theorem J1 {s:af} (h:s.right) {cs:List au} (h1:lV bR bN cs=true) (h2:∀ c∈cs,bq s.aj c.who=1):({ s with calls:=cs }:af).right:=
 ⟨h.Ii,h.aj,h.book,h.bE,h.ps,h1,⟨h.known.qs,h.known.ts,h.known.ps,h2⟩,h.bl,h.aT,h.aM⟩
theorem nA {s:af} (h:s.right) (g:List aS):(kf s g).right:=by
 unfold kf;split
 ·rename_i he;exact OJ h (Io he)
 ·exact h
theorem DG {s:af} (h:s.right) (d:aN):({ s with calls:=rE s.calls d }:af).right:=by
 obtain ⟨h1,h2⟩:=Rv (d:=d) h.calls;refine J1 h h1 fun c hc=>?_
 obtain ⟨x,hx,he⟩:=h2 c hc;rw [he];exact h.known.cs x hx
theorem Oo {s:af} (h:s.right) (c:aY):(nJ s c).1.right:=by
 unfold nJ;split
 case isFalse=>exact h
 split
 case isFalse=>exact h
 split
 ·exact nA h _
 split
 ·split
  ·exact DG (nA h _) _
  ·exact nA h _
 ·exact nA h _
theorem Qs {r:aq} {w:Int} (h:C6 r w=0):bq r w=1:=by
 unfold C6 at h;split at h
 ·split at h
  ·assumption
  ·cases h
 ·cases h
theorem HZ {s:af} (h:s.right) (c:aY) (n:Int):(jU s c n).1.right:=by
 unfold jU;split
 case isFalse=>exact h
 split
 case isFalse=>exact h
 rename_i hm;rw [cg] at hm;split
 case isFalse=>exact h
 rename_i hs;split
 case isFalse=>exact h
 rename_i he;have hg:=xe he
 have key:({ s with ps:=cQ s.ps c.who c.no n }:af).right:=by
  refine ⟨h.Ii,h.aj,h.book,h.bE,gM.2 hg,h.calls,⟨h.known.qs,h.known.ts,fun p hp=>?_,h.known.cs⟩,h.bl,h.aT,h.aM⟩;dsimp only at hp |-;unfold cQ at hp;rw [if_pos he] at hp;rcases Ak hp with hp | ⟨rfl,_⟩
  ·exact h.known.ps p hp
  ·exact ⟨.inl hs,hm.2⟩
 split
 ·exact key
 split
 ·exact DG key _
 ·exact key
theorem F6 {t:aL} {b:Bool} {p:aA} (h:p∈fX t b):(p.who=t.fZ\/p.who=t.dY)/\p.inst=t.inst:=by
 unfold fX at h;split at h
 ·simp only [List.mem_cons,List.not_mem_nil,or_false] at h;rcases h with rfl | rfl<;>simp
 ·cases h
theorem yN {r:aq} {b:aG} {g:List aA} {ts ps cs} (h:iO r b.qs ts ps cs) (hg:∀ p∈g,(bq r p.who=1\/bq r p.who=2)/\bf r p.inst=true):iO r (vS b g 16) ts ps cs:=by
 refine ⟨fun p hp=>?_,h.ts,h.ps,h.cs⟩;rcases Tx hp with ⟨q,hq,e1,e2⟩ | ⟨q,hq,e1,e2⟩
 ·rw [<- e1,<- e2];exact h.qs q hq
 ·rw [<- e1,<- e2];exact hg q hq
theorem vG {s:af} (h:s.right) {b:aG} (h1:b.okB=true) (h2:iO s.aj b.qs b.ts s.ps s.calls):({ s with book:=b }:af).right:=
 ⟨h.Ii,h.aj,h1,h.bE,h.ps,h.calls,h2,h.bl,h.aT,h.aM⟩
theorem On {r:aq} {t:aL} (h:vN r t=0):bq r t.fZ=1/\bq r t.dY=1/\bf r t.inst=true:=by
 unfold vN at h;split at h
 case isFalse=>cases h
 split at h
 case isFalse=>cases h
 split at h
 case isFalse=>cases h
 rename_i h1;split at h
 ·cases h
 split at h
 case isFalse=>cases h
 rename_i h2;simp only [cg,beq_iff_eq] at h1 h2;exact ⟨h2.1,h2.2,h1.1⟩
theorem zi {s:af} {b:aG} {t:aL} {ps cs} (he:fM b t=0) (hk:iO s.aj b.qs b.ts ps cs) (h1:bq s.aj t.fZ=1) (h2:bq s.aj t.dY=1) (h3:bf s.aj t.inst=true):iO s.aj (gS b t).qs (gS b t).ts ps cs:=by
 unfold gS;rw [if_pos he]
 have hq:=yN (g:=fX t false) hk fun p hp=>by
  have:=F6 hp;rw [this.2];exact ⟨by rcases this.1 with e | e<;>rw [e]<;>simp [h1,h2],h3⟩
 refine ⟨hq.qs,fun x hx=>?_,hk.ps,hk.cs⟩;rcases List.mem_append.1 hx with hx | hx
 ·exact hk.ts x hx
 ·obtain rfl:=List.mem_singleton.1 hx;exact ⟨by dsimp only;omega,by dsimp only;omega,h3⟩
theorem v7 {s:af} {b:aG} {n:Int} {ps cs} (he:eG b n=0) (hk:iO s.aj b.qs b.ts ps cs) (h1:bq s.aj (cr n b.ts).fZ=1) (h2:bq s.aj (cr n b.ts).dY=1):iO s.aj (dI b n).qs (dI b n).ts ps cs:=by
 have hm:=(BN (nL he).2.1).1;have h3:=(hk.ts _ hm).2.2;unfold dI;rw [if_pos he]
 have hq:=yN (g:=fX (cr n b.ts) true) hk fun p hp=>by
  have:=F6 hp;rw [this.2];exact ⟨by rcases this.1 with e | e<;>rw [e]<;>simp [h1,h2],h3⟩
 refine ⟨hq.qs,fun x hx=>?_,hk.ps,hk.cs⟩;rcases List.mem_or_eq_of_mem_set hx with hx | rfl
 ·exact hk.ts x hx
 ·have:=hk.ts _ hm;exact ⟨this.1,this.2.1,this.2.2⟩
theorem JZ {s:af} (h:s.right) (c:aY) (he:(iT s c).2.2=0):(iT s c).1.right:=by
 unfold iT at he |-;split
 ·rename_i hk;rw [if_pos hk] at he;split
  ·rename_i ht;rw [if_pos ht] at he;obtain ⟨t1,t2,t3⟩:=On ht;exact vG h (FW he) (zi (s:=s) he h.known t1 t2 t3)
  ·exact h
 rename_i hk;rw [if_neg hk] at he;split
 ·rename_i hk;rw [if_pos hk] at he;exact qT h (Nk he)
 rename_i hk;rw [if_neg hk] at he;split
 ·exact h
 rename_i hf;rw [if_neg hf] at he;split
 case isFalse=>exact h
 rename_i ha;rw [if_pos ha] at he;have a1:=Qs ha.1;have a2:=Qs ha.2;split
 ·rename_i hk;rw [if_pos hk] at he;exact vG h (LP he) (v7 (s:=s) he h.known a1 a2)
 ·rename_i hk;rw [if_neg hk] at he;obtain ⟨e1,e2⟩:=sQ he;have k1:=v7 (s:=s) e1 h.known a1 a2;have h3:=(h.known.ts _ (BN hf).1).2.2;refine vG h (JG he) ?_;unfold om;rw [if_pos e1];exact zi (s:=s) e2 k1 a1 a2 h3
theorem NU {s:af} (h:s.right) (c:aY):(qt s c).1.right:=by
 unfold qt;split
 case isFalse=>exact h
 rename_i hw;split
 case isFalse=>exact h
 rename_i hm;split
 ·exact h
 split
 case isFalse=>exact h
 rename_i hs;split
 ·exact h
 rename_i hl;simp only [cg] at hm hw;have r1:=H8 h.aj (w:=c.who) (by unfold bq;omega);have r2:=H8 h.aj (w:=c.other) (by unfold bq;omega);have r3:=C5 hm.2.2;have r4:=Ax ((dB.1 h.aj).2.1.1 _ r3.1);rw [r3.2] at r4;refine ⟨h.Ii,h.aj,h.book,h.bE,h.ps,h.calls,h.known,by dsimp only;simp;omega,fun b hb=>?_,h.aM⟩;rcases List.mem_append.1 hb with hb | hb
 ·exact h.aT b hb
 ·obtain rfl:=List.mem_singleton.1 hb;simp only [j5,ot,hw.1,hw.2,within,cg,decide_eq_true_eq];simp only [within,cg,decide_eq_true_eq] at hw;omega
theorem I7:∀ {ps:List Int} {j:Nat},j < ps.length->aC (ps.set j (ps.getD j 0+1))=aC ps+1
 | [],j,h=>by simp at h
 | x :: r,0,_=>by simp [aC];omega
 | x :: r,j+1,h=>by
  have:=I7 (ps:=r) (j:=j) (by simpa using h);simp only [List.set_cons_succ,List.getD_cons_succ,aC,this];omega
theorem FI (rs:List Int):∀ (n:Nat) (gs:List Bool) (ps:List Int),gs.length=rs.length->ps.length=rs.length->gs.count true+n<=gs.length->aC (oE rs n gs ps)=aC ps+n
 | 0,_,_,_,_,_=>by simp [oE]
 | n+1,gs,ps,h1,h2,h3=>by
  have hex:=HH (gs:=gs) (by omega);rw [h1] at hex;have hp:=GA rs gs rs.length hex;have hr:=ya rs gs rs.length;have hf:=Dv rs gs rs.length hp;simp only [oE];rw [FI rs n _ _ (by simp [h1]) (by simp [h2]) (by rw [count_set hf,List.length_set];omega),I7 (by omega)];omega
theorem xg (rs:List Int):∀ (n:Nat) (gs:List Bool) (ps:List Int),(∀ x∈ps,0<=x)->∀ x∈oE rs n gs ps,0<=x
 | 0,_,_,h=>h
 | n+1,gs,ps,h=>by
  simp only [oE];refine xg rs n _ _ fun x hx=>?_
  rcases List.mem_or_eq_of_mem_set hx with hx | rfl
  ·exact h x hx
  ·have:0<=ps.getD (gF rs gs rs.length).toNat 0:=by
    rw [List.getD_eq_getElem?_getD];cases he:ps[(gF rs gs rs.length).toNat]? with
    | none=>simp
    | some y=>exact h y (List.mem_of_getElem? he)
   omega
theorem Oi {t:Int} {ws:List Int} (h:iJ t ws=0):0<=t/\(∀ x∈ws,0<=x):=by
 unfold iJ at h;split at h
 case isFalse=>cases h
 rename_i h1;split at h
 case isFalse=>cases h
 rename_i h2;simp only [cg,Bool.not_eq_true',decide_eq_false_iff_not] at h1;refine ⟨by omega,fun x hx=>?_⟩;have:=List.all_eq_true.1 h2 x hx;simp only [Bool.not_eq_true',decide_eq_false_iff_not] at this;omega
theorem L9 {t:Int} {ws:List Int} (h:iJ t ws=0) (hs:aC ws≠0):aC (fN t ws)=t/\(∀ x∈fN t ws,0<=x):=by
 obtain ⟨h1,h2⟩:=Oi h;have hn:=lJ h2;have hl:=vi h1 rfl (show 1<=aC ws by omega) h2;unfold fN;rw [if_pos h,if_neg hs];have hpl:(ux t (aC ws) ws).length=(M9 t (aC ws) ws).length:=by simp [ux,M9]
 have hrl:(M9 t (aC ws) ws).length=ws.length:=by simp [M9]
 refine ⟨?_,xg _ _ _ _ fun x hx=>?_⟩
 ·rw [FI _ _ _ _ (by simp [hrl]) hpl (by simp [List.count_replicate];omega)];omega
 ·obtain ⟨w,hw,rfl⟩:=List.mem_map.1 hx;exact (qL h1 (by omega) (h2 w hw) (Am h2 w hw)).1
def uq (f:List dO):Int:=aC (f.map dO.aX)
theorem Fx:∀ (l:List bp) (k:Int),uq (kV k l).1+(kV k l).2=k
 | [],k=>by simp [kV,uq,aC]
 | b :: r,k=>by
  simp only [kV];split
  ·have:=Fx r (k-min k b.aX);simp only [uq,List.map_cons,aC] at this |-;omega
  ·simp [uq,aC]
theorem Gb:∀ (l:List bp) (k:Int) {f:dO},f∈(kV k l).1->∃ b∈l,f.src=b.src
 | [],k,f,h=>by simp [kV] at h
 | b :: r,k,f,h=>by
  simp only [kV] at h;split at h
  ·rcases List.mem_cons.1 h with rfl | h
   ·exact ⟨b,by simp,rfl⟩
   ·obtain ⟨x,hx,e⟩:=Gb r _ h;exact ⟨x,by simp [hx],e⟩
  ·cases h
theorem Jd (long:Bool) {y:bp}:∀ (l out:List bp),y∈Bs long out l->y∈out\/y∈l
 | [],out,h=>.inl h
 | x :: r,out,h=>by
  simp only [Bs] at h;rcases Jd long r _ h with h | h
  ·unfold Jy at h;rcases List.mem_append.1 h with h | h
   ·exact .inl (List.mem_of_mem_take h)
   ·rcases List.mem_cons.1 h with rfl | h
    ·exact .inr (by simp)
    ·exact .inl (List.mem_of_mem_drop h)
  ·exact .inr (by simp [h])
theorem Qr {q:Int} {l:List bp} (h:qy q l=0):uq (jN q l).1+(jN q l).2=max q (-q)/\∀ f∈(jN q l).1,∃ b∈l,f.src=b.src:=by
 unfold jN;rw [if_pos h];refine ⟨Fx _ _,fun f hf=>?_⟩;obtain ⟨b,hb,e⟩:=Gb _ _ hf;rcases Jd _ _ _ hb with hb | hb
 ·cases hb
 ·exact ⟨b,hb,e⟩
theorem Qf {w n m:Int} {long:Bool}:∀ {f:List dO},(∀ x∈f,x.src≠w)->aC (pick (dP w m) aA.aX (f.flatMap (uk w n long)))=if m=n then -FB long (uq f) else 0
 | [],_=>by simp [pick,aC,uq,FB]
 | x :: r,h=>by
  have ih:=Qf (w:=w) (n:=n) (m:=m) (long:=long) (f:=r) fun y hy=>h y (by simp [hy])
  have hx:=h x (by simp);rw [List.flatMap_cons,show uk w n long x=[⟨x.src,n,FB long x.aX,FB long (x.aX*x.aR)⟩,⟨w,n,-FB long x.aX,-FB long (x.aX*x.aR)⟩] from rfl];rw [List.cons_append,List.cons_append,List.nil_append,nw,nw,ih];rw [if_neg (fun h=>hx (eJ.1 h).1)]
  by_cases hm:m=n
  ·rw [if_pos (show dP w m ⟨w,n,-FB long x.aX,-FB long (x.aX*x.aR)⟩=true from eJ.2 ⟨rfl,hm.symm⟩),if_pos hm,if_pos hm];simp only [uq,List.map_cons,aC,FB];split<;>omega
  ·rw [if_neg (fun h=>hm (eJ.1 h).2.symm),if_neg hm,if_neg hm];rfl
theorem Fc {b:aG} {g:List aA} {w n:Int} (hw:1<=w/\w<=16) (hn:1<=n/\n<=8):(posOf w n (vS b g 16)).aX=FE b g w n:=by
 by_cases h:FE b g w n=0/\RM b g w n=0
 ·rw [lP,h.1];intro p hp hk;obtain ⟨k,m,_,_,hp⟩:=wv hp;obtain ⟨rfl,hne⟩:=qH hp;dsimp only at hk;rw [hk.1,hk.2] at hne;exact hne h
 ·have hm:(⟨w,n,FE b g w n,RM b g w n⟩:aA)∈vS b g 16:=by
   refine List.mem_flatMap.2 ⟨(w-1).toNat,List.mem_range.2 (by omega),List.mem_flatMap.2 ⟨(n-1).toNat,List.mem_range.2 (by omega),?_⟩⟩;rw [show (((w-1).toNat:Nat):Int)+1=w by omega,show (((n-1).toNat:Nat):Int)+1=n by omega];unfold EJ;rw [if_neg (by simp only [cg,beq_iff_eq];exact h)];simp
  rw [Bi (HL b g) hm ⟨rfl,rfl⟩]
structure D4 (r:aq) (w:Int) (b:aG) (ts:List aL) (ps:List eW) (cs:List au):Prop where
 ok:b.okB=true
 known:iO r b.qs ts ps cs
 ts:b.ts=ts
theorem Dj {r:aq} {w n:Int} {b:aG} {ts ps cs} {long:Bool} {f:List dO} (hw:1<=w/\w<=16) (hn:1<=n/\n<=8) (hb:D4 r w b ts ps cs) (hs:bq r w=2) (hi:bf r n=true) (hf:∀ x∈f,x.src≠w/\(bq r x.src=1\/bq r x.src=2)) (h:(mq b w n long f).2=0) :
  D4 r w (mq b w n long f).1 ts ps cs/\(posOf w n (mq b w n long f).1.qs).aX=(posOf w n b.qs).aX-FB long (uq f)/\∀ m,1<=m/\m<=8->m≠n->(posOf w m (mq b w n long f).1.qs).aX=(posOf w m b.qs).aX:=by
 unfold mq at h |-;split
 case isFalse hne=>rw [if_neg hne] at h;exact absurd h hne
 rename_i he;rw [if_pos he] at h;dsimp only at h |-;have hl:kg w n long f=f.flatMap (uk w n long):=by unfold kg;rw [if_pos he]
 have hq:=fun m=>Qf (w:=w) (n:=n) (m:=m) (long:=long) (f:=f) fun x hx=>(hf x hx).1
 have hadq:∀ m,FE b (kg w n long f) w m=(posOf w m b.qs).aX+if m=n then -FB long (uq f) else 0:=fun m=>by
  unfold FE;rw [aC,hl,hq]
 refine ⟨⟨T0 h,?_,?_⟩,?_,fun m hm hne=>?_⟩
 ·rw [(kN h).2];refine yN hb.known fun p hp=>?_
  rw [hl] at hp;obtain ⟨x,hx,hp⟩:=List.mem_flatMap.1 hp;have hxs:=hf x hx;unfold uk at hp;simp only [List.mem_cons,List.not_mem_nil,or_false] at hp;rcases hp with rfl | rfl
  ·exact ⟨hxs.2,hi⟩
  ·exact ⟨.inr hs,hi⟩
 ·rw [(kN h).2];exact hb.ts
 ·rw [(kN h).2]
  show (posOf w n (vS b _ 16)).aX=_
  rw [Fc hw hn,hadq,if_pos rfl];omega
 ·rw [(kN h).2]
  show (posOf w m (vS b _ 16)).aX=_
  rw [Fc hw hm,hadq,if_neg hne];omega
theorem Ja {ws ps:List Int} (h:∀ x∈ps,0<=x):∀ k,k<=ps.length->uq (oq (rF ws ps) k)=aC (ps.take k)
 | 0,_=>rfl
 | k+1,hk=>by
  have ih:=Ja (ws:=ws) h k (by omega);have hk':k < ps.length:=by omega
  rw [iZ,List.take_succ_eq_append_getElem hk',eT];unfold uq at ih |-;rw [List.map_append,eT,ih];congr 1;have hg:ps.getD k 0=ps[k]:=by rw [List.getD_eq_getElem?_getD,List.getElem?_eq_getElem hk'];rfl
  have h0:=h ps[k] (List.getElem_mem hk');unfold rF;rw [hg];split
  ·rfl
  ·have:ps[k]=0:=by omega
   rw [this];rfl
theorem QM {ws ps:List Int} (hl:ps.length<=ws.length) {f:dO} (h:f∈Kt ws ps):f.src∈ws:=by
 obtain ⟨i,hi,h⟩:=iB.1 h;unfold rF at h;split at h
 ·obtain rfl:=List.mem_singleton.1 h;dsimp only;rw [List.getD_eq_getElem?_getD,List.getElem?_eq_getElem (by omega)];exact List.getElem_mem _
 ·cases h
theorem Qx {b:aG} {w n k:Int} (h:nE b w n k=0):b.okB=true/\(0<=k/\k<=1099511627776)/\k<=aC (o7 (posOf w n b.qs).aX n b.qs):=by
 unfold nE at h;split at h
 case isFalse=>cases h
 rename_i h1;split at h
 case isFalse=>cases h
 rename_i h2;split at h
 ·cases h
 rename_i h3;simp only [within,cg,decide_eq_true_eq] at h2;exact ⟨h1,h2,by omega⟩
theorem Jn {q n:Int} {p:aA}:K9 q n p=true ↔ p.inst=n/\((0 < q/\p.aX < 0)\/(q < 0/\0 < p.aX)):=by
 simp only [K9,cg,Bool.or_eq_true,beq_iff_eq,decide_eq_true_eq]
theorem Bg {A:Type} {q:A->Bool} {f:A->Int} {xs:List A} {v:Int} (h:v∈pick q f xs):∃ x∈xs,q x=true/\v=f x:=by
 obtain ⟨x,hx,h⟩:=List.mem_flatMap.1 h;split at h
 ·rename_i hq;exact ⟨x,hx,hq,List.mem_singleton.1 h⟩
 ·cases h
theorem BX {b:aG} (h:b.okB=true):b.qs.length<=128:=by
 have hb:=eH.1 h
 have h1:(b.qs.map fun p=>p.who*8+p.inst).Pairwise (fun a c=>a < c):=by
  rw [List.pairwise_map];refine (List.Pairwise.imp_of_mem (fun {p q} hp hq hpq=>?_) hb.pw);have k1:=ld.1 (hb.ok p hp);have k2:=ld.1 (hb.ok q hq);simp only [fQ,DA,Bool.or_eq_true,cg,decide_eq_true_eq,beq_iff_eq] at hpq;omega
 have key:∀ (l:List Int) (lo hi:Int),l.Pairwise (fun a c=>a < c)->(∀ x∈l,lo<=x/\x < hi)->lo<=hi->(l.length:Int)<=hi-lo:=by
  intro l
  induction l with
  | nil=>intro lo hi _ _ h;simp;omega
  | cons x r ih =>
   intro lo hi hp hx hlh;rw [List.pairwise_cons] at hp;have hx0:=hx x (by simp);have:=ih (x+1) hi hp.2 (fun y hy=>by have:=hp.1 y hy;have:=hx y (by simp [hy]);omega) (by omega);simp only [List.length_cons];omega
 have:=key _ 9 137 h1 (fun x hx=>by
  obtain ⟨p,hp,rfl⟩:=List.mem_map.1 hx;have:=ld.1 (hb.ok p hp)
  omega) (by omega)
 simp only [aI] at this;omega
theorem RU {r:aq} {w n p rest:Int} {b:aG} {ts ps cs} {long:Bool} (hw:1<=w/\w<=16) (hn:1<=n/\n<=8) (hb:D4 r w b ts ps cs) (hs:bq r w=2) (hi:bf r n=true) (hq:(posOf w n b.qs).aX=FB long rest) (hr:rest≠0) (h:(pS b w n p long rest).2=0) :
  D4 r w (pS b w n p long rest).1 ts ps cs/\(posOf w n (pS b w n p long rest).1.qs).aX=0/\∀ m,1<=m/\m<=8->m≠n->(posOf w m (pS b w n p long rest).1.qs).aX=(posOf w m b.qs).aX:=by
 unfold pS at h |-;split
 case isFalse hne=>rw [if_neg hne] at h;exact absurd h hne
 rename_i he;rw [if_pos he] at h;obtain ⟨t1,t2,t3⟩:=Qx he;have hbr:=eH.1 t1;obtain ⟨ws,hws⟩:∃ l,l=yI (posOf w n b.qs).aX n b.qs:=⟨_,rfl⟩
 obtain ⟨ns,hns⟩:∃ l,l=o7 (posOf w n b.qs).aX n b.qs:=⟨_,rfl⟩
 have hlen:ns.length=ws.length:=by rw [hws,hns];exact yg _ _ _ _
 have hnsr:∀ x∈ns,0 < x/\x<=1099511627776:=fun x hx=>by
  rw [hns] at hx;obtain ⟨y,hy,hyo,rfl⟩:=Bg hx;have h1:=Jn.1 hyo;have h2:=ld.1 (hbr.ok y hy);omega
 rw [<- hns] at t3
 have hnl:ns.length<=128:=by
  rw [hns];exact Nat.le_trans (bY _ _ _) (BX t1)
 have hsp:iJ rest ns=0:=by
  unfold iJ;rw [if_pos,if_pos,if_neg (by omega),if_neg (by omega)]
  ·exact List.all_eq_true.2 fun x hx=>by have:=hnsr x hx;simp only [Bool.not_eq_true',decide_eq_false_iff_not];omega
  ·simp only [cg,Bool.not_eq_true',decide_eq_false_iff_not];refine ⟨⟨by omega,by rw [cR];omega⟩,List.all_eq_true.2 fun x hx=>by have:=hnsr x hx;rw [cR];omega⟩
 obtain ⟨s1,s2⟩:=L9 hsp (by omega);have hsl:=qP rest ns;have hL:nR b w n rest=Kt ws (fN rest ns):=by unfold nR;rw [if_pos he,<- hws,<- hns]
 have hfq:uq ((nR b w n rest).map (dU p))=rest:=by
  have:uq ((nR b w n rest).map (dU p))=uq (nR b w n rest):=by
   unfold uq;rw [List.map_map];rfl
  rw [this,hL];have:=Ja (ws:=ws) s2 _ (Nat.le_refl _);rw [List.take_length,s1] at this;exact this
 obtain ⟨q1,q2,q3⟩:=Dj (long:=long) (f:=(nR b w n rest).map (dU p)) hw hn hb hs hi (fun x hx=>by
  obtain ⟨y,hy,rfl⟩:=List.mem_map.1 hx;rw [hL] at hy;have hy:=QM (by omega) hy;rw [hws] at hy;obtain ⟨z,hz,hzo,e⟩:=Bg hy
  show y.src≠w/\_
  rw [show (dU p y).src=y.src from rfl,e];refine ⟨fun hzw=>?_,(hb.known.qs z hz).1⟩;have h1:=Jn.1 hzo;rw [Bi hbr.pw hz ⟨hzw,h1.1⟩] at h1
  omega) h
 refine ⟨q1,?_,q3⟩;rw [q2,hfq,hq];omega
theorem Rc {s:af} {w n:Int} {b:aG} (h:s.right) (hw:1<=w/\w<=16) (hn:1<=n/\n<=8) (hb:D4 s.aj w b s.book.ts s.ps s.calls) (hs:bq s.aj w=2) (hq:(posOf w n b.qs).aX≠0) (he:(n7 s b w n (posOf w n b.qs).aX).2=0) :
  D4 s.aj w (n7 s b w n (posOf w n b.qs).aX).1 s.book.ts s.ps s.calls/\(posOf w n (n7 s b w n (posOf w n b.qs).aX).1.qs).aX=0/\∀ m,1<=m/\m<=8->m≠n->(posOf w m (n7 s b w n (posOf w n b.qs).aX).1.qs).aX=(posOf w m b.qs).aX:=by
 have hi:bf s.aj n=true:=by
  by_cases hx:∃ p∈b.qs,p.who=w/\p.inst=n
  ·obtain ⟨p,hp,_,e⟩:=hx;rw [<- e];exact (hb.known.qs p hp).2
  ·rw [lP fun p hp hk=>hx ⟨p,hp,hk⟩] at hq;exact absurd rfl hq
 obtain ⟨q,hqe⟩:=aO ((posOf w n b.qs).aX);rw [<- hqe] at hq he |-;unfold n7 at he |-;split
 case isFalse hne=>rw [if_neg hne] at he;cases he
 rename_i hp;rw [if_pos hp] at he;split
 case isFalse hne=>rw [if_neg hne] at he;exact absurd he hne
 rename_i hf;rw [if_pos hf] at he;obtain ⟨f1,f2⟩:=Qr hf;obtain ⟨F,hF⟩:=aO (jN q (gR s w n s.aT));rw [<- hF] at f1 f2 he |-
 have hsg:∀ k:Int,FB (decide (0 < q)) k=if 0 < q then k else -k:=fun k=>by
  unfold FB
  by_cases h0:0 < q<;>simp [h0]
 have hsrc:∀ x∈F.1,x.src≠w/\(bq s.aj x.src=1\/bq s.aj x.src=2):=fun x hx=>by
  obtain ⟨y,hy,e⟩:=f2 x hx;obtain ⟨z,_,hy⟩:=List.mem_flatMap.1 hy;split at hy
  ·rename_i hz;obtain rfl:=List.mem_singleton.1 hy;simp only [Ca,cg,beq_iff_eq] at hz;rw [e];refine ⟨fun h=>?_,.inl hz.2⟩;rw [h,hs] at hz;omega
  ·cases hy
 split
 ·rename_i hc;rw [if_pos hc] at he;obtain ⟨a1,a2,a3⟩:=Dj (long:=decide (0 < q)) hw hn hb hs hi hsrc hc.1
  obtain ⟨b1,b2,b3⟩:=RU (p:=dR (aV s.aj n)) (long:=decide (0 < q)) (rest:=F.2) hw hn a1 hs hi (by
   rw [a2,<- hqe,hsg,hsg]
   split<;>omega) hc.2 he
  exact ⟨b1,b2,fun m hm hne=>by rw [b3 m hm hne,a3 m hm hne]⟩
 ·rename_i hc;rw [if_neg hc] at he;obtain ⟨a1,a2,a3⟩:=Dj (long:=decide (0 < q)) hw hn hb hs hi hsrc he
  have hz:F.2=0:=by
   by_cases hz:F.2=0
   ·exact hz
   ·exact absurd ⟨he,hz⟩ hc
  refine ⟨a1,?_,a3⟩;rw [a2,<- hqe,hsg];split<;>omega
theorem Ms {s:af} {w n:Int} {b:aG} (h:s.right) (hw:1<=w/\w<=16) (hn:1<=n/\n<=8) (hb:D4 s.aj w b s.book.ts s.ps s.calls) (hs:bq s.aj w=2) (he:(gT s w b n).2=0) :
  D4 s.aj w (gT s w b n).1 s.book.ts s.ps s.calls/\(posOf w n (gT s w b n).1.qs).aX=0/\∀ m,1<=m/\m<=8->m≠n->(posOf w m (gT s w b n).1.qs).aX=(posOf w m b.qs).aX:=by
 unfold gT at he |-;split
 ·rename_i hz;exact ⟨hb,by simpa using hz,fun _ _ _=>rfl⟩
 ·rename_i hz;rw [if_neg hz] at he;exact Rc h hw hn hb hs (by simpa using hz) he
theorem GQ {s:af} {w:Int} (h:s.right) (hw:1<=w/\w<=16) (hs:bq s.aj w=2):∀ (m i:Nat) {b:aG},i+m=8->D4 s.aj w b s.book.ts s.ps s.calls->(∀ k:Nat,k < i->(posOf w ((k:Int)+1) b.qs).aX=0)->(mj s w m i b).2=0 ->
  D4 s.aj w (mj s w m i b).1 s.book.ts s.ps s.calls/\∀ k:Nat,k < 8->(posOf w ((k:Int)+1) (mj s w m i b).1.qs).aX=0
 | 0,i,b,hi,hb,hz,_=>⟨hb,fun k hk=>hz k (by omega)⟩
 | m+1,i,b,hi,hb,hz,he=>by
  simp only [mj] at he |-;split
  ·rename_i h0;rw [if_pos h0] at he;obtain ⟨a1,a2,a3⟩:=Ms h hw (n:=(i:Int)+1) (by omega) hb hs h0;refine GQ h hw hs m (i+1) (by omega) a1 (fun k hk=>?_) he;rcases Nat.lt_or_ge k i with hki | hki
   ·rw [a3 _ (by omega) (by omega)];exact hz k hki
   ·obtain rfl:k=i:=by omega
    exact a2
  ·rename_i h0;rw [if_neg h0] at he;exact absurd he h0
theorem yC {w:Int} {l:List aA} {p:aA}:p∈mU w l ↔ p∈l/\p.who≠w:=by
 unfold mU;rw [List.mem_flatMap];constructor
 ·rintro ⟨x,hx,h⟩
  split at h
  ·cases h
  ·rename_i hn;obtain rfl:=List.mem_singleton.1 h;exact ⟨hx,by simpa using hn⟩
 ·rintro ⟨h1,h2⟩
  exact ⟨p,h1,by rw [if_neg (by simpa using h2)];simp⟩
theorem Bw {s:af} {w:Int} (h:og s w=0):Ks s w=0/\(mj s w 8 0 s.book).2=0:=by
 unfold og at h;split at h
 case isFalse hne=>exact absurd h hne
 rename_i h1;split at h
 case isFalse hne=>exact absurd h hne
 rename_i h2;exact ⟨h1,h2⟩
theorem QU {s:af} {w:Int} (h:og s w=0):(oC s w).okB=true/\iO s.aj (oC s w).qs (oC s w).ts s.ps s.calls/\∀ p∈(oC s w).qs,p.who≠w:=by
 obtain ⟨h1,h2⟩:=Bw h;obtain ⟨hr,hs⟩:=uf h1;have hr:=eg.1 hr;have hw:=(H8 hr.aj (w:=w) (by omega)).2;obtain ⟨a1,a2⟩:=GQ hr hw hs 8 0 rfl (b:=s.book) ⟨hr.book,hr.known,rfl⟩ (fun k hk=>by omega) h2;have hb:=eH.1 a1.ok;unfold oC;rw [if_pos h];refine ⟨eH.2 ⟨fun p hp=>hb.ok p (yC.1 hp).1,K3 hb.pw,fun n hn1 hn8=>?_,hb.tok,hb.Yx,hb.tl,hb.n0,hb.n1⟩,⟨fun p hp=>a1.known.qs p (yC.1 hp).1,fun t ht=>?_,a1.known.ps,a1.known.cs⟩,fun p hp=>(yC.1 hp).2⟩
 ·dsimp only;rw [<- hb.level n hn1 hn8]
  have key:∀ l:List aA,(∀ p∈l,p.who=w->p.aX=0)->aC (cq n (mU w l))=aC (cq n l):=fun l=>by
   induction l with
   | nil=>intro _;rfl
   | cons p t ih =>
    intro hl;rw [lC,<- ih fun q hq=>hl q (by simp [hq])];unfold mU;rw [List.flatMap_cons,EV,eT];congr 1;split
    ·rename_i hpw;rw [hl p (by simp) (by simpa using hpw)];split<;>rfl
    ·rw [lC];simp [cq,aC]
  refine key _ fun p hp hpw=>?_
  have hpi:=(ld.1 (hb.ok p hp)).2.1;have:=a2 (p.inst-1).toNat (by omega);rw [show (((p.inst-1).toNat:Nat):Int)+1=p.inst by omega,Bi hb.pw hp ⟨hpw,rfl⟩] at this;exact this
 ·dsimp only at ht;rw [a1.ts] at ht;exact a1.known.ts t ht
theorem Ce {s:af} (h:s.right) (c:Int):(uo s c).1.right:=by
 unfold uo;split
 ·exact nA h _
 ·exact h
theorem CM:∀ (m c:Nat) {s:af} (ds:List aN),s.right->(j0 m c s ds).1.right
 | 0,_,_,_,h=>h
 | m+1,c,s,ds,h=>by
  simp only [j0];split
  ·exact CM m _ _ (Ce h _)
  ·exact Ce h _
theorem HP {s:af} (he:gL s=0):(jB s).right:=by
 unfold jB;rw [if_pos he];unfold gL at he;split at he
 case isFalse=>cases he
 rename_i h1;split at he
 case isFalse=>cases he
 split at he
 case isFalse hne=>exact absurd he hne
 rename_i h3;split at he
 case isFalse hne=>exact absurd he hne
 have hr:=eg.1 h1;obtain ⟨t1,t2⟩:=Jo hr.aj;have k:=hr.known.ext t2;have e:vf s.aj s.book=⟨s.book.next,s.book.ts,s.book.qs.flatMap (mP s.aj)⟩:=by unfold vf;rw [if_pos h3]
 refine ⟨⟨hr.Ii.1,hr.Ii.2.1,by dsimp only;decide,by dsimp only;decide⟩,t1,TF h3,Gk hr.bE he,hr.ps,hr.calls,⟨fun p hp=>?_,fun t ht=>?_,k.ps,k.cs⟩,hr.bl,hr.aT,hr.aM⟩
 ·dsimp only at hp |-;rw [e] at hp;obtain ⟨q,hq,hp⟩:=List.mem_flatMap.1 hp;rw [(tZ hp).1];exact k.qs q hq
 ·dsimp only at ht |-;rw [e] at ht;exact k.ts t ht
theorem RV {r:aq} (h:r.okB=true) {w:Int} (hm:w∈mN r [1]):bq r w=1:=by
 obtain ⟨m,hmm,hq,rfl⟩:=Bg hm;have e:eV r m.no=m:=uh (dB.1 h).1.2 hmm rfl;unfold bq;rw [e];simp only [qg,List.any_cons,List.any_nil,Bool.or_false,beq_iff_eq] at hq;exact hq.symm
theorem CD {s:af} {w:Int} (h:bq s.aj w=1):∀ (m c:Nat) (x:List au × List aN),(lV bR bN x.1=true/\∀ y∈x.1,bq s.aj y.who=1)->lV bR bN (nM s w m c x).1.1=true/\∀ y∈(nM s w m c x).1.1,bq s.aj y.who=1
 | 0,_,_,hx=>hx
 | m+1,c,x,hx=>by
  simp only [nM];split
  ·obtain ⟨a1,a2⟩:=TN (d:=⟨w,c,Rm s w c⟩) (t:=Kp s) hx.1;refine CD h m _ _ ⟨a1,fun y hy=>?_⟩;rcases a2 y hy with e | hy
   ·rw [e];exact h
   ·exact hx.2 y hy
  ·exact hx
theorem E9 {s:af}:∀ (ws:List Int) (x:List au × List aN),(∀ w∈ws,bq s.aj w=1)->(lV bR bN x.1=true/\∀ y∈x.1,bq s.aj y.who=1)->lV bR bN (ry s ws x).1.1=true/\∀ y∈(ry s ws x).1.1,bq s.aj y.who=1
 | [],_,_,hx=>hx
 | w :: r,x,hw,hx=>by
  simp only [ry];split
  ·exact E9 r _ (fun v hv=>hw v (by simp [hv])) (CD (hw w (by simp)) 3 0 x hx)
  ·exact CD (hw w (by simp)) 3 0 x hx
theorem Hz {s:af} (he:iC s=0):(jg s).right:=by
 unfold jg;rw [if_pos he];unfold iC at he;split at he
 case isFalse=>cases he
 rename_i h1;have hr:=eg.1 h1;obtain ⟨a1,a2⟩:=E9 (s:=s) (mN s.aj [1]) (s.calls,[]) (fun w hw=>RV hr.aj hw) ⟨hr.calls,hr.known.cs⟩;exact ⟨⟨hr.Ii.1,hr.Ii.2.1,by dsimp only;decide,by dsimp only;decide⟩,hr.aj,hr.book,hr.bE,hr.ps,a1,⟨hr.known.qs,hr.known.ts,hr.known.ps,a2⟩,hr.bl,hr.aT,hr.aM⟩
theorem Ml {s:af} (he:rL s=0):(rA s).right:=by
 unfold rA;rw [if_pos he];unfold rL at he;split at he
 case isFalse=>cases he
 rename_i h1;split at he
 case isFalse=>cases he
 split at he
 ·cases he
 have hr:=eg.1 h1;have hb:=eH.1 hr.book;have hc:=hr.Ii;exact ⟨⟨hc.1,by dsimp only;omega,by dsimp only;decide,by dsimp only;decide⟩,hr.aj,eH.2 ⟨hb.ok,hb.pw,hb.level,fun t ht=>(by cases ht),List.Pairwise.nil,Nat.zero_le _,hb.n0,hb.n1⟩,hr.bE,hr.ps,hr.calls,⟨hr.known.qs,fun t ht=>(by cases ht),hr.known.ps,hr.known.cs⟩,hr.bl,hr.aT,hr.aM⟩
theorem nx {r:aq} {w p:Int} (h:r.okB=true) (hs:bq r w≠0) (hp:1<=p/\p<=3):vV r w p=0:=by
 unfold vV;rw [if_pos h,if_pos ((Hi h).1 hs),if_pos (by simp only [within,cg,decide_eq_true_eq];omega)]
theorem GI {w v:Int}:qg [w] v=decide (v=w):=by
 simp only [qg,List.any_cons,List.any_nil,Bool.or_false];rw [Bool.eq_iff_iff];simp only [beq_iff_eq,decide_eq_true_eq];exact eq_comm
theorem wk {r:aq} {w p:Int} (h:vV r w p=0) (n:Int):bf (gp r w p) n=bf r n/\jr (gp r w p) n=jr r n:=by
 obtain ⟨_,_,h3,h4⟩:=vp h;unfold bf jr;rw [h3,h4];exact ⟨rfl,rfl⟩
theorem Mk {r:aq} {qs ts ps cs} {w:Int} (hr:r.okB=true) (hs:bq r w≠0) (k:iO r qs ts ps cs):(gp r w 2).okB=true/\iO (gp r w 2) qs ts ps (bM cs [w])/\∀ v,bq r v≠0->bq (gp r w 2) v≠0:=by
 have h:=nx hr hs (p:=2) (by omega);obtain ⟨p1,p2,_⟩:=vp h;have hi:=fun n=>(wk h n).1
 have ha:=fun n=>(wk h n).2
 have ho:∀ v,(bq r v=1\/bq r v=2)->bq (gp r w 2) v=1\/bq (gp r w 2) v=2:=fun v hv=>by rw [p2];split;exact .inr rfl;exact hv
 have hn:∀ v,bq r v≠0->bq (gp r w 2) v≠0:=fun v hv=>by rw [p2];split;decide;exact hv
 refine ⟨p1,⟨fun p hp=>⟨ho _ (k.qs p hp).1,by rw [hi];exact (k.qs p hp).2⟩,fun t ht=>⟨hn _ (k.ts t ht).1,hn _ (k.ts t ht).2.1,by rw [hi];exact (k.ts t ht).2.2⟩,fun p hp=>⟨ho _ (k.ps p hp).1,by rw [ha];exact (k.ps p hp).2⟩,fun c hc=>?_⟩,hn⟩;obtain ⟨h1,h2⟩:=qN.1 hc;rw [GI] at h2;rw [p2,if_neg (by simpa using h2)];exact k.cs c h1
theorem Kf {qs ts ps}:∀ (l:List au) (x:aq × List au),(∀ c∈l,bq x.1 c.who≠0)->x.1.okB=true->iO x.1 qs ts ps x.2->lV bR bN x.2=true->(eL l x).1.okB=true/\iO (eL l x).1 qs ts ps (eL l x).2/\lV bR bN (eL l x).2=true
 | [],_,_,h2,h3,h4=>⟨h2,h3,h4⟩
 | c :: r,x,h1,h2,h3,h4=>by
  obtain ⟨a1,a2,a3⟩:=Mk h2 (h1 c (by simp)) h3;simp only [eL];exact Kf r _ (fun y hy=>a3 _ (h1 y (by simp [hy]))) a1 a2 (yZ h4)
theorem qZ {s:af} {n:Int} (he:dL s n=0):(cE s n).right:=by
 unfold cE;rw [if_pos he];unfold dL at he;split at he
 case isFalse=>cases he
 rename_i h1;split at he
 case isFalse=>cases he
 rename_i h2;split at he
 ·cases he
 simp only [within,cg,decide_eq_true_eq] at h2;have hr:=eg.1 h1;have hc:=hr.Ii
 obtain ⟨a1,a2,a3⟩:=Kf (dQ (s.now+n) s.calls) (s.aj,s.calls) (fun c hc=>by
  obtain ⟨x,hx,hc⟩:=List.mem_flatMap.1 hc;split at hc
  ·obtain rfl:=List.mem_singleton.1 hc;have:=hr.known.cs _ hx;dsimp only;omega
  ·cases hc) hr.aj hr.known hr.calls
 exact ⟨⟨by dsimp only;omega,hc.2⟩,a1,hr.book,hr.bE,hr.ps,a3,a2,hr.bl,hr.aT,hr.aM⟩
theorem MG {s:af} {w:Int}:∀ (m i:Nat) (l:bn) (p:List aN),l.okB=true->(nh s w m i l p).2.2=0->(nh s w m i l p).1.okB=true
 | 0,_,_,_,h,_=>h
 | m+1,i,l,p,h,he=>by
  simp only [nh] at he |-;split
  ·rename_i h0;rw [if_pos h0] at he;exact MG m _ _ _ (Gk h h0) he
  ·rename_i h0;rw [if_neg h0] at he;exact absurd he h0
theorem HW {s:af} {w:Int} (h:ur s w=0):og s w=0/\gN (yY s w) 3 0=0/\gN (uI s w) 3 0=0/\(nh s w 3 0 s.bE []).2.2=0:=by
 unfold ur at h;split at h
 case isFalse hne=>exact absurd h hne
 rename_i h1;split at h
 case isFalse hne=>exact absurd h hne
 rename_i h2;split at h
 case isFalse hne=>exact absurd h hne
 rename_i h3;exact ⟨h1,h2,h3,h⟩
theorem C2 {w:Int} {l:List eW} {p:eW}:p∈pK w l ↔ p∈l/\p.who≠w:=by
 unfold pK;rw [List.mem_flatMap];constructor
 ·rintro ⟨x,hx,h⟩
  split at h
  ·cases h
  ·rename_i hn;obtain rfl:=List.mem_singleton.1 h;exact ⟨hx,by simpa using hn⟩
 ·rintro ⟨h1,h2⟩
  exact ⟨p,h1,by rw [if_neg (by simpa using h2)];simp⟩
theorem L0 {w:Int} {l:List bp} {b:bp}:b∈pz w l ↔ b∈l/\b.who≠w/\b.src≠w:=by
 unfold pz;rw [List.mem_flatMap];constructor
 ·rintro ⟨x,hx,h⟩
  split at h
  ·cases h
  ·rename_i hn;obtain rfl:=List.mem_singleton.1 h;simp only [Bool.or_eq_true,beq_iff_eq] at hn;exact ⟨hx,fun e=>hn (.inl e),fun e=>hn (.inr e)⟩
 ·rintro ⟨h1,h2,h3⟩
  exact ⟨b,h1,by rw [if_neg (by simp only [Bool.or_eq_true,beq_iff_eq];omega)];simp⟩
theorem Pu {s:af} {w:Int} (he:ur s w=0):(lz s w).right:=by
 unfold lz;rw [if_pos he];obtain ⟨e1,_,_,e4⟩:=HW he;obtain ⟨hm,_⟩:=Bw e1;obtain ⟨h1,hs⟩:=uf hm;have hr:=eg.1 h1;have hp:=nx hr.aj (w:=w) (p:=3) (by omega) (by omega);obtain ⟨p1,p2,_⟩:=vp hp;have hi:=fun n=>(wk hp n).1
 have ha:=fun n=>(wk hp n).2
 obtain ⟨b1,b2,b3⟩:=QU e1;have hst:∀ v,v≠w->bq (gp s.aj w 3) v=bq s.aj v:=fun v hv=>by rw [p2,if_neg hv]
 have hg:=gM.1 hr.ps;refine ⟨hr.Ii,p1,b1,MG 3 0 s.bE [] hr.bE e4,gM.2 ⟨fun p hp=>hg.1 p (C2.1 hp).1,K3 hg.2⟩,yZ hr.calls,⟨fun p hp=>?_,fun t ht=>?_,fun p hp=>?_,fun c hc=>?_⟩,Nat.le_trans (Cs _ _) hr.bl,fun b hb=>hr.aT b (L0.1 hb).1,hr.aM⟩
 ·dsimp only at hp |-;rw [hst _ (b3 p hp),hi];exact b2.qs p hp
 ·dsimp only at ht |-;have:=b2.ts t ht;have hn:∀ v,bq s.aj v≠0->bq (gp s.aj w 3) v≠0:=fun v hv=>by rw [p2];split;decide;exact hv
  exact ⟨hn _ this.1,hn _ this.2.1,by rw [hi];exact this.2.2⟩
 ·dsimp only at hp |-;have:=C2.1 hp;rw [hst _ this.2,ha];exact hr.known.ps p this.1
 ·dsimp only at hc |-;obtain ⟨h1,h2⟩:=qN.1 hc;rw [GI] at h2;rw [hst _ (by simpa using h2)];exact hr.known.cs c h1
end Go.Proofs.YtacacccbcndjoaaGreat
