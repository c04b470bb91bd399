/- Right states: lists in order, what is found in them, and what follows. No theorem of a claim. -/
import Derived.Test.YtgnhdbdipfncgaaGreatKH
set_option linter.unusedSimpArgs false
set_option linter.unusedVariables false
set_option maxHeartbeats 4000000
set_option maxRecDepth 16000
namespace Go.Proofs.YtgnhdbdipfncgaaGreat
open Go.Abs
theorem pw_next {A:Type} {R:A->A->Prop} (tr:∀ {a b c},R a b->R b c->R a c) {xs:List A} (h:∀ j (hj:j+1 < xs.length),R (xs[j]'(by omega)) xs[j+1]):xs.Pairwise R:=by
 rw [List.pairwise_iff_getElem]
 have key:∀ d i (hj:i+d+1 < xs.length),R (xs[i]'(by omega)) xs[i+d+1]:=by
  intro d
  induction d with
  | zero=>intro i hj;exact h i hj
  | succ d ih=>intro i hj;exact tr (ih i (by omega)) (h (i+d+1) hj)
 intro i j hi hj hij;have:=key (j-i-1) i (by omega);have e:i+(j-i-1)+1=j:=by omega
 simpa only [e] using this
theorem chB_iff {A:Type} {ok:A->Bool} {lt:A->A->Bool} (tr:∀ {a b c},lt a b=true->lt b c=true->lt a c=true) {xs:List A}:chB ok lt xs=true ↔ (∀ x∈xs,ok x=true)/\xs.Pairwise (fun a b=>lt a b=true):=by
 constructor
 ·intro h;refine ⟨fun x hx=>?_,pw_next (R:=fun a b=>lt a b=true) tr fun j hj=>?_⟩
  ·obtain ⟨i,hi,rfl⟩:=List.mem_iff_getElem.1 hx;exact chB_ok h hi
  ·have:=chB_at h hj;rw [chAt_succ hj,bae] at this;exact this.2
 ·rintro ⟨h1,h2⟩
  rw [List.pairwise_iff_getElem] at h2;refine chB_yes fun i hi=>?_
  cases i with
  | zero=>rw [chAt_zero hi];exact h1 _ (List.getElem_mem hi)
  | succ j=>rw [chAt_succ hi,h1 _ (List.getElem_mem hi),h2 j (j+1) (by omega) hi (by omega)];rfl
theorem rises_iff {A:Type} {no:A->Int} {ok:A->Bool} {xs:List A}:rises no ok xs=true ↔ (∀ x∈xs,ok x=true)/\xs.Pairwise (fun a b=>no a < no b):=by
 constructor
 ·intro h;have hat:∀ i (hi:i < xs.length),risesAt no ok xs i=true:=fun i hi=>List.all_eq_true.1 h i (List.mem_range.2 hi)
  refine ⟨rises_ok h,pw_next (R:=fun a b=>no a < no b) Int.lt_trans fun j hj=>?_⟩;have:=hat (j+1) hj;rw [risesAt_pos no ok xs hj (by omega),bae,decide_eq_true_eq] at this;exact this.2
 ·rintro ⟨h1,h2⟩
  rw [List.pairwise_iff_getElem] at h2;refine rises_yes fun i hi=>?_
  rcases Nat.eq_zero_or_pos i with h0 | h0
  ·rw [risesAt_zero no ok xs hi (by omega)];exact h1 _ (List.getElem_mem hi)
  ·rw [risesAt_pos no ok xs hi h0,h1 _ (List.getElem_mem hi),decide_eq_true (h2 (i-1) i (by omega) hi (by omega))];rfl
theorem led_iff {bs:List BalV}:ledSorted bs=true ↔ (∀ b∈bs,balOk b=true)/\bs.Pairwise (fun x y=>x.acct.less y.acct=true):=by
 constructor
 ·intro h;have hat:∀ i (hi:i < bs.length),ledAt bs i=true:=fun i hi=>List.all_eq_true.1 h i (List.mem_range.2 hi)
  refine ⟨fun x hx=>?_,pairwise_of h⟩;obtain ⟨i,hi,rfl⟩:=List.mem_iff_getElem.1 hx;have:=hat i hi;cases i with
  | zero=>rwa [ledAt_zero hi] at this
  | succ j=>rw [ledAt_succ hi,bae] at this;exact this.1
 ·rintro ⟨h1,h2⟩
  rw [List.pairwise_iff_getElem] at h2;refine ledSorted_yes fun i hi=>?_
  cases i with
  | zero=>rw [ledAt_zero hi];exact h1 _ (List.getElem_mem hi)
  | succ j=>rw [ledAt_succ hi,h1 _ (List.getElem_mem hi),h2 j (j+1) (by omega) hi (by omega)];rfl
theorem posL_iff {A:Type} {no:A->Int} {n:Int} {xs:List A}:decide (0<=posL no n xs)=true ↔ ∃ x∈xs,no x=n:=by
 rw [pos_any,List.any_eq_true];simp
theorem getL_in {A:Type} {no:A->Int} {n:Int} {z:A}:∀ {xs:List A},(∃ x∈xs,no x=n)->getL no n z xs∈xs/\no (getL no n z xs)=n
 | [],h=>by obtain ⟨x,hx,_⟩:=h;cases hx
 | x :: r,h=>by
  simp only [getL];split
  ·rename_i hx;exact ⟨by simp,hx⟩
  ·rename_i hx;obtain ⟨y,hy,hn⟩:=h;rcases List.mem_cons.1 hy with rfl | hy
   ·exact absurd hn hx
   ·obtain ⟨h1,h2⟩:=getL_in (z:=z) ⟨y,hy,hn⟩;exact ⟨by simp [h1],h2⟩
theorem getL_none {A:Type} {no:A->Int} {n:Int} {z:A}:∀ {xs:List A},(∀ x∈xs,no x≠n)->getL no n z xs=z
 | [],_=>rfl
 | x :: r,h=>by
  simp only [getL];rw [if_neg (h x (by simp))];exact getL_none fun y hy=>h y (by simp [hy])
theorem getL_eq {A:Type} {no:A->Int} {n:Int} {z:A} {xs:List A} (hp:xs.Pairwise (fun a b=>no a < no b)) {x:A} (hx:x∈xs) (hn:no x=n):getL no n z xs=x:=by
 induction xs with
 | nil=>cases hx
 | cons y r ih =>
  rw [List.pairwise_cons] at hp;simp only [getL];rcases List.mem_cons.1 hx with rfl | hx
  ·rw [if_pos hn]
  ·have:=hp.1 x hx;rw [if_neg (by omega)];exact ih hp.2 hx
theorem getL_same {A:Type} {no:A->Int} {n:Int} {z:A} {xs ys:List A} (hp:ys.Pairwise (fun a b=>no a < no b)) (h:∀ x,no x=n->(x∈xs ↔ x∈ys)):getL no n z xs=getL no n z ys:=by
 by_cases hx:∃ x∈xs,no x=n
 ·obtain ⟨h1,h2⟩:=getL_in (z:=z) hx;exact (getL_eq hp ((h _ h2).1 h1) h2).symm
 ·rw [getL_none (fun x hm hn=>hx ⟨x,hm,hn⟩),getL_none (fun x hm hn=>hx ⟨x,(h x hn).2 hm,hn⟩)]
theorem mem_frm {B:Type} {f:Nat->List B} {n:Nat} {x:B}:x∈frm f n ↔ ∃ i,i < n/\x∈f i:=by
 simp [frm,List.mem_flatMap,List.mem_range]
theorem pw_frm {B:Type} {R:B->B->Prop} {f:Nat->List B} {n:Nat} (h1:∀ i,i < n->(f i).Pairwise R) (h2:∀ i j,i < j->j < n->∀ x∈f i,∀ y∈f j,R x y):(frm f n).Pairwise R:=by
 induction n with
 | zero=>simp [frm]
 | succ n ih =>
  rw [frm_step,List.pairwise_append];refine ⟨ih (fun i hi=>h1 i (by omega)) (fun i j hij hj=>h2 i j hij (by omega)),h1 n (by omega),?_⟩;intro x hx y hy;obtain ⟨i,hi,hx⟩:=mem_frm.1 hx;exact h2 i n hi (by omega) x hx y hy
theorem pw_one {B:Type} {R:B->B->Prop}:∀ {l:List B},l.length<=1->l.Pairwise R
 | [],_=>by simp
 | [x],_=>by simp
 | x :: y :: r,h=>by simp at h
theorem pw_key {B:Type} {key:B->Int} {f:Nat->List B} {n:Nat} (h0:∀ i,i < n->(f i).length<=1) (hk:∀ i,i < n->∀ x∈f i,key x=(i:Int)+1):(frm f n).Pairwise (fun a b=>key a < key b):=by
 refine pw_frm (fun i hi=>pw_one (h0 i hi)) fun i j hij hj x hx y hy=>?_
 rw [hk i (by omega) x hx,hk j hj y hy];omega
theorem pw_flat {A B:Type} {R:A->A->Prop} {S:B->B->Prop} {f:A->List B} {xs:List A} (hp:xs.Pairwise R) (h1:∀ a∈xs,(f a).Pairwise S) (h2:∀ a b,a∈xs->b∈xs->R a b->∀ x∈f a,∀ y∈f b,S x y):(xs.flatMap f).Pairwise S:=by
 induction xs with
 | nil=>simp
 | cons a r ih =>
  rw [List.pairwise_cons] at hp;rw [List.flatMap_cons,List.pairwise_append];refine ⟨h1 a (by simp),ih hp.2 (fun b hb=>h1 b (by simp [hb])) (fun b c hb hc=>h2 b c (by simp [hb]) (by simp [hc])),?_⟩;intro x hx y hy;obtain ⟨b,hb,hy⟩:=List.mem_flatMap.1 hy;exact h2 a b (by simp) (by simp [hb]) (hp.1 b hb) x hx y hy
theorem updL_no {A:Type} {no:A->Int} {n:Int} {f:A->A} (hf:∀ x,no (f x)=no x) (xs:List A):(updL no n f xs).map no=xs.map no:=by
 induction xs with
 | nil=>rfl
 | cons x r ih=>simp only [updL];split<;>simp [ih,hf]
theorem updL_mem {A:Type} {no:A->Int} {n:Int} {f:A->A} {xs:List A} {y:A} (h:y∈updL no n f xs):y∈xs\/∃ x∈xs,y=f x:=by
 induction xs with
 | nil=>cases h
 | cons x r ih =>
  simp only [updL] at h;split at h
  ·rcases List.mem_cons.1 h with rfl | h
   ·exact .inr ⟨x,by simp,rfl⟩
   ·exact .inl (by simp [h])
  ·rcases List.mem_cons.1 h with rfl | h
   ·exact .inl (by simp)
   ·rcases ih h with h | ⟨z,hz,rfl⟩
    ·exact .inl (by simp [h])
    ·exact .inr ⟨z,by simp [hz],rfl⟩
theorem pw_no {A:Type} {no:A->Int} {xs ys:List A} (h:ys.map no=xs.map no) (hp:xs.Pairwise (fun a b=>no a < no b)):ys.Pairwise (fun a b=>no a < no b):=by
 have h1:(xs.map no).Pairwise (fun a b=>a < b):=List.pairwise_map.2 hp;rw [<- h] at h1;exact List.pairwise_map.1 h1
theorem posL_no {A:Type} {no:A->Int} {n:Int} {xs ys:List A} (h:ys.map no=xs.map no):decide (0<=posL no n ys)=decide (0<=posL no n xs):=by
 rw [pos_any,pos_any];have e:∀ l:List A,l.any (fun x=>no x==n)=(l.map no).any (fun x=>x==n):=fun l=>by simp [List.any_map,Function.comp_def]
 rw [e,e,h]
theorem updL_get {A:Type} {no:A->Int} {n w:Int} {f:A->A} {z:A} (hf:∀ x,no (f x)=no x) (xs:List A):getL no w z (updL no n f xs)=if w=n/\(∃ x∈xs,no x=n) then f (getL no w z xs) else getL no w z xs:=by
 induction xs with
 | nil=>simp [updL,getL]
 | cons x r ih =>
  simp only [updL];split
  ·rename_i hx;simp only [getL,hf]
   by_cases hw:w=n
   ·subst hw;rw [if_pos hx,if_pos hx,if_pos ⟨rfl,x,by simp,hx⟩]
   ·rw [if_neg (fun h=>hw (h.symm.trans hx)),if_neg (fun h=>hw h.1),if_neg (fun h=>hw (h.symm.trans hx))]
  ·rename_i hx;simp only [getL,ih]
   by_cases hxw:no x=w
   ·rw [if_pos hxw,if_pos hxw,if_neg]
    rintro ⟨rfl,_⟩;exact hx hxw
   ·rw [if_neg hxw,if_neg hxw];congr 1;simp only [List.mem_cons,exists_eq_or_imp,hx,false_or]
theorem roll_iff {r:RollV}:r.okB=true ↔ ((∀ x∈r.ms,x.ok=true)/\r.ms.Pairwise (fun a b=>a.no < b.no))/\((∀ x∈r.ns,x.ok=true)/\r.ns.Pairwise (fun a b=>a.no < b.no))/\((∀ x∈r.xs,x.ok=true)/\r.xs.Pairwise (fun a b=>a.a < b.a)):=by
 simp only [RollV.okB,bae,rises_iff,and_assoc]
theorem memb_ok {x:MemberV} (h:x.ok=true):(1<=x.no/\x.no<=16)/\(1<=x.state/\x.state<=3)/\0<=x.need/\x.need<=4611686018427387904:=by
 simp only [MemberV.ok,within,inR,bae,decide_eq_true_eq] at h;omega
theorem inst_ok {x:InstV} (h:x.ok=true):(1<=x.no/\x.no<=8)/\(0<=x.cur/\x.cur<=2)/\(1<=x.mult/\x.mult<=1024):=by
 simp only [InstV.ok,within,bae,decide_eq_true_eq] at h;omega
theorem asset_ok {x:AssetV} (h:x.ok=true):(1<=x.a/\x.a<=6)/\(0<=x.b/\x.b<=2)/\(1<=x.c/\x.c<=1073741824):=by
 simp only [AssetV.ok,within,bae,decide_eq_true_eq] at h;omega
theorem memIs_iff {r:RollV} {w:Int}:memIs r w=true ↔ ∃ x∈r.ms,x.no=w:=posL_iff
theorem instIs_iff {r:RollV} {w:Int}:instIs r w=true ↔ ∃ x∈r.ns,x.no=w:=posL_iff
theorem astIs_iff {r:RollV} {w:Int}:astIs r w=true ↔ ∃ x∈r.xs,x.a=w:=posL_iff
theorem memOf_mem {r:RollV} {w:Int} (h:memIs r w=true):memOf r w∈r.ms/\(memOf r w).no=w:=getL_in (memIs_iff.1 h)
theorem instOf_mem {r:RollV} {w:Int} (h:instIs r w=true):instOf r w∈r.ns/\(instOf r w).no=w:=getL_in (instIs_iff.1 h)
theorem st_iff {r:RollV} (h:r.okB=true) {w:Int}:stOf r w≠0 ↔ memIs r w=true:=by
 constructor
 ·intro hs;cases hm:memIs r w
  ·exact absurd (show stOf r w=0 from by
    unfold stOf memOf;rw [getL_none]
    ·rfl
    ·intro x hx hn
     rw [memIs_iff.2 ⟨x,hx,hn⟩] at hm;cases hm) hs
  ·rfl
 ·intro hm;have:=memb_ok ((roll_iff.1 h).1.1 _ (memOf_mem hm).1);unfold stOf;omega
theorem st_rng {r:RollV} (h:r.okB=true) {w:Int} (hs:stOf r w≠0):(1<=stOf r w/\stOf r w<=3)/\1<=w/\w<=16:=by
 have hm:=memOf_mem ((st_iff h).1 hs);have:=memb_ok ((roll_iff.1 h).1.1 _ hm.1);rw [hm.2] at this;unfold stOf;omega
theorem put_list {A:Type} {no:A->Int} {z m:A} {xs:List A} {N:Nat} {f:Nat->List A} (hp:xs.Pairwise (fun a b=>no a < no b)) (hx:∀ x∈xs,1<=no x/\no x<=N) (hm:1<=no m/\no m<=N)
  (hf:∀ i:Nat,i < N->f i=if (i:Int)+1=no m then [m] else if decide (0<=posL no ((i:Int)+1) xs)=true then [getL no ((i:Int)+1) z xs] else []) :
  (frm f N).Pairwise (fun a b=>no a < no b)/\∀ x,x∈frm f N ↔ x=m\/(x∈xs/\no x≠no m):=by
 refine ⟨pw_key (key:=no) (fun i hi=>?_) (fun i hi x hx=>?_),fun x=>?_⟩
 ·rw [hf i hi];split
  ·simp
  ·split<;>simp
 ·rw [hf i hi] at hx;split at hx
  ·rename_i h;simp only [List.mem_singleton] at hx;rw [hx,h]
  ·split at hx
   ·rename_i h;simp only [List.mem_singleton] at hx;rw [hx];exact (getL_in (posL_iff.1 h)).2
   ·cases hx
 ·rw [mem_frm];constructor
  ·rintro ⟨i,hi,h⟩
   rw [hf i hi] at h;split at h
   ·simp only [List.mem_singleton] at h;exact .inl h
   ·rename_i hne;split at h
    ·rename_i hh;simp only [List.mem_singleton] at h;have hg:=getL_in (z:=z) (posL_iff.1 hh);rw [<- h] at hg;exact .inr ⟨hg.1,by rw [hg.2];exact hne⟩
    ·cases h
  ·rintro (rfl | ⟨h1,h2⟩)
   ·refine ⟨(no x-1).toNat,by omega,?_⟩;rw [hf _ (by omega),if_pos (by omega)];simp
   ·have hr:=hx x h1;refine ⟨(no x-1).toNat,by omega,?_⟩;have e:(((no x-1).toNat:Nat):Int)+1=no x:=by omega
    rw [hf _ (by omega),e,if_neg h2,if_pos (posL_iff.2 ⟨x,h1,rfl⟩),getL_eq hp h1 rfl];simp
structure RollV.ext (r r':RollV):Prop where
 st:∀ w,stOf r w≠0->stOf r' w=stOf r w
 inst:∀ n,instIs r n=true->instIs r' n=true
 same:∀ n,instIs r n=true->(instOf r' n).mult=(instOf r n).mult/\(instOf r' n).cur=(instOf r n).cur
 ast:∀ n,astIs r n=true->astIs r' n=true
theorem admit_ok {r:RollV} {w n:Int} (h:admitE r w n=0):(admitR r w n).okB=true/\r.ext (admitR r w n):=by
 unfold admitR;rw [if_pos h];unfold admitE at h;split at h
 case isFalse=>cases h
 rename_i hr;split at h
 case isFalse=>cases h
 rename_i hm;split at h
 ·cases h
 rename_i hi;have hr0:=hr;rw [roll_iff] at hr;obtain ⟨⟨o1,p1⟩,h2,h3⟩:=hr;have hmk:=memb_ok hm;dsimp only at hmk
 have hP:=put_list (no:=MemberV.no) (z:=MemberV.zero) (m:=⟨w,1,n⟩) (N:=16) (f:=admP r ⟨w,1,n⟩) p1 (fun x hx=>by have:=memb_ok (o1 x hx);omega) (by dsimp only;omega) (by
  intro i _;unfold admP;dsimp only
  by_cases e:(i:Int)+1=w
  ·rw [e,if_neg hi];simp
  ·have e':((i:Int)+1==w)=false:=by simpa using e
   rw [e',if_neg e];simp only [memIs,memOf,bfe,if_false,List.append_nil]
   rfl)
 obtain ⟨q1,q2⟩:=hP;refine ⟨roll_iff.2 ⟨⟨fun x hx=>?_,q1⟩,h2,h3⟩,⟨fun v hv=>?_,fun _ h=>h,fun _ _=>⟨rfl,rfl⟩,fun _ h=>h⟩⟩
 ·rcases (q2 x).1 hx with rfl | h
  ·exact hm
  ·exact o1 x h.1
 ·have hv:=(st_iff hr0).1 hv;unfold stOf memOf;congr 1;refine getL_same p1 fun x hx=>?_
  rw [q2 x];constructor
  ·rintro (rfl | h)
   ·dsimp only at hx;rw [hx] at hi;exact absurd hv hi
   ·exact h.1
  ·intro h;refine .inr ⟨h,?_⟩;dsimp only
   rintro rfl
   rw [hx] at hi;exact hi hv
theorem list_ok {r:RollV} {i:InstV} (h:listE r i=0):(listR r i).okB=true/\r.ext (listR r i):=by
 unfold listR;rw [if_pos h];unfold listE at h;split at h
 case isFalse=>cases h
 rename_i hr;split at h
 case isFalse=>cases h
 rename_i hm;split at h
 ·cases h
 rename_i hi;rw [roll_iff] at hr;obtain ⟨h1,⟨o1,p1⟩,h3⟩:=hr;have hmk:=inst_ok hm
 have hP:=put_list (no:=InstV.no) (z:=InstV.zero) (m:=i.bare) (N:=8) (f:=lstP r i.bare) p1 (fun x hx=>by have:=inst_ok (o1 x hx);omega) (by omega) (by
  intro k _;unfold lstP
  by_cases e:(k:Int)+1=i.bare.no
  ·have e2:instIs r ((k:Int)+1)=false:=by
    rw [e];have:instIs r i.bare.no=instIs r i.no:=rfl;rw [this];simpa using hi
   rw [e2,e];simp
  ·have e':((k:Int)+1==i.bare.no)=false:=by simpa using e
   rw [e',if_neg e];simp only [instIs,instOf,bfe,if_false,List.append_nil]
   rfl)
 obtain ⟨q1,q2⟩:=hP;refine ⟨roll_iff.2 ⟨h1,⟨fun x hx=>?_,q1⟩,h3⟩,⟨fun _ _=>rfl,fun n hn=>?_,fun n hn=>?_,fun _ h=>h⟩⟩
 ·rcases (q2 x).1 hx with rfl | h
  ·exact hm
  ·exact o1 x h.1
 ·rw [instIs_iff] at hn |-;obtain ⟨x,hx,hxn⟩:=hn;refine ⟨x,(q2 x).2 (.inr ⟨hx,fun e=>hi ?_⟩),hxn⟩;rw [instIs_iff];exact ⟨x,hx,e⟩
 ·have e:instOf (⟨r.ms,frm (lstP r i.bare) 8,r.xs⟩:RollV) n=instOf r n:=by
   unfold instOf;refine getL_same p1 fun x hx=>?_
   rw [q2 x];constructor
   ·rintro (rfl | h)
    ·have hx:i.no=n:=hx;rw [hx] at hi;exact absurd hn hi
    ·exact h.1
   ·intro h;refine .inr ⟨h,fun e=>hi ?_⟩;rw [instIs_iff];exact ⟨x,h,e⟩
  rw [e];exact ⟨rfl,rfl⟩
theorem hold_ok {r:RollV} {a:AssetV} (h:holdE r a=0):(holdR r a).okB=true/\r.ext (holdR r a):=by
 unfold holdR;rw [if_pos h];unfold holdE at h;split at h
 case isFalse=>cases h
 rename_i hr;split at h
 case isFalse=>cases h
 rename_i hm;rw [bae] at hm;have hm:=hm.1;rw [roll_iff] at hr;obtain ⟨h1,h2,⟨o1,p1⟩⟩:=hr;have hmk:=asset_ok hm
 have hP:=put_list (no:=AssetV.a) (z:=(⟨0,0,0,0⟩:AssetV)) (m:=a) (N:=6) (f:=hldP r a) p1 (fun x hx=>by have:=asset_ok (o1 x hx);omega) (by omega) (by
  intro k _;unfold hldP
  by_cases e:(k:Int)+1=a.a
  ·rw [e];simp
  ·have e':((k:Int)+1==a.a)=false:=by simpa using e
   rw [e',if_neg e];simp only [astIs,astOf1,bfe,if_false]
   rfl)
 obtain ⟨q1,q2⟩:=hP;refine ⟨roll_iff.2 ⟨h1,h2,⟨fun x hx=>?_,q1⟩⟩,⟨fun _ _=>rfl,fun _ h=>h,fun _ _=>⟨rfl,rfl⟩,fun n hn=>?_⟩⟩
 ·rcases (q2 x).1 hx with rfl | h
  ·exact hm
  ·exact o1 x h.1
 ·rw [astIs_iff] at hn |-;obtain ⟨x,hx,hxn⟩:=hn
  by_cases e:x.a=a.a
  ·exact ⟨a,(q2 a).2 (.inl rfl),by rw [<- e];exact hxn⟩
  ·exact ⟨x,(q2 x).2 (.inr ⟨hx,e⟩),hxn⟩
theorem told_ok {x:InstV} {p:Int} (h:x.ok=true) (hp:1<=p/\p<=1073741824):(x.told p).ok=true:=by
 have e:(x.told p).okS=x.okS:=by
  have:(x.told p).sh=x.sh:=by funext i;rcases i with _ | _ | _ | _ | _ | i<;>rfl
  simp only [InstV.okS,this]
 have e2:(x.told p).ok=(x.okS&&within x.no 1 8&&within x.cur 0 2&&within x.mult 1 1024&&within x.add 0 1073741824&&within p 0 1073741824&&within x.price 0 1073741824):=by
  unfold InstV.ok;rw [e];rfl
 rw [e2];simp only [InstV.ok,within,bae,decide_eq_true_eq] at h |-;obtain ⟨⟨⟨⟨⟨⟨h0,h1⟩,h2⟩,h3⟩,h4⟩,h5⟩,h6⟩:=h;exact ⟨⟨⟨⟨⟨⟨h0,h1⟩,h2⟩,h3⟩,h4⟩,⟨by omega,by omega⟩⟩,h6⟩
theorem turn_ok {x:InstV} (h:x.ok=true):x.turn.ok=true:=by
 unfold InstV.turn;split
 ·exact h
 rename_i hs;have hs:x.set≠0:=by simpa using hs
 have e:InstV.okS { x with price:=x.set,set:=0 }=x.okS:=by
  have:InstV.sh { x with price:=x.set,set:=0 }=x.sh:=by funext i;rcases i with _ | _ | _ | _ | _ | i<;>rfl
  simp only [InstV.okS,this]
 have e2:InstV.ok { x with price:=x.set,set:=0 }=(x.okS&&within x.no 1 8&&within x.cur 0 2&&within x.mult 1 1024&&within x.add 0 1073741824&&within 0 0 1073741824&&within x.set 0 1073741824):=by
  unfold InstV.ok;rw [e]
 rw [e2];simp only [InstV.ok,within,bae,decide_eq_true_eq] at h |-;obtain ⟨⟨⟨⟨⟨⟨h0,h1⟩,h2⟩,h3⟩,h4⟩,h5⟩,h6⟩:=h;exact ⟨⟨⟨⟨⟨⟨h0,h1⟩,h2⟩,h3⟩,h4⟩,⟨by omega,by omega⟩⟩,h5⟩
theorem turn_no (x:InstV):x.turn.no=x.no:=by unfold InstV.turn;split<;>rfl
theorem tell_ok {r:RollV} {n p:Int} (h:tellE r n p=0):(tellR r n p).okB=true/\r.ext (tellR r n p):=by
 unfold tellR;rw [if_pos h];unfold tellE at h;split at h
 case isFalse=>cases h
 rename_i hr;split at h
 case isFalse=>cases h
 split at h
 case isFalse=>cases h
 rename_i hp;simp only [within,bae,decide_eq_true_eq] at hp;rw [roll_iff] at hr;obtain ⟨h1,⟨o1,p1⟩,h3⟩:=hr;have hno:=updL_no (no:=InstV.no) (n:=n) (f:=InstV.told p) (fun _=>rfl) r.ns;refine ⟨roll_iff.2 ⟨h1,⟨fun x hx=>?_,pw_no hno p1⟩,h3⟩,⟨fun _ _=>rfl,fun m hm=>?_,fun m hm=>?_,fun _ h=>h⟩⟩
 ·rcases updL_mem hx with h | ⟨y,hy,rfl⟩
  ·exact o1 x h
  ·exact told_ok (o1 y hy) hp
 ·unfold instIs at hm |-;rw [<- hm];exact posL_no hno
 ·unfold instOf;dsimp only;rw [updL_get (no:=InstV.no) (f:=InstV.told p) (fun _=>rfl)];split<;>exact ⟨rfl,rfl⟩
theorem turnR_ok {r:RollV} (hr:r.okB=true):(turnR r).okB=true/\r.ext (turnR r):=by
 rw [roll_iff] at hr;obtain ⟨h1,⟨o1,p1⟩,h3⟩:=hr
 have hno:(r.ns.map InstV.turn).map InstV.no=r.ns.map InstV.no:=by
  rw [List.map_map];exact List.map_congr_left fun x _=>turn_no x
 refine ⟨roll_iff.2 ⟨h1,⟨fun x hx=>?_,pw_no hno p1⟩,h3⟩,⟨fun _ _=>rfl,fun m hm=>?_,fun m hm=>?_,fun _ h=>h⟩⟩
 ·obtain ⟨y,hy,rfl⟩:=List.mem_map.1 hx;exact turn_ok (o1 y hy)
 ·unfold instIs at hm |-;rw [<- hm];exact posL_no hno
 ·obtain ⟨m1,m2⟩:=instOf_mem hm;have e:instOf (turnR r) m=(instOf r m).turn:=getL_eq (no:=InstV.no) (pw_no hno p1) (List.mem_map.2 ⟨_,m1,rfl⟩) (by rw [turn_no];exact m2);rw [e];unfold InstV.turn;split<;>exact ⟨rfl,rfl⟩
theorem put_ok {r:RollV} {n p:Int} (h:putE r n p=0):(putR r n p).okB=true/\(∀ w,stOf (putR r n p) w=if w=n then p else stOf r w)/\(putR r n p).ns=r.ns/\(putR r n p).xs=r.xs:=by
 unfold putR;rw [if_pos h];unfold putE at h;split at h
 case isFalse=>cases h
 rename_i hr;split at h
 case isFalse=>cases h
 rename_i hi;split at h
 case isFalse=>cases h
 rename_i hp;simp only [within,bae,decide_eq_true_eq] at hp;rw [roll_iff] at hr;obtain ⟨⟨o1,p1⟩,h2,h3⟩:=hr;have hno:=updL_no (no:=MemberV.no) (n:=n) (f:=MemberV.put p) (fun _=>rfl) r.ms;refine ⟨roll_iff.2 ⟨⟨fun x hx=>?_,pw_no hno p1⟩,h2,h3⟩,fun w=>?_,rfl,rfl⟩
 ·rcases updL_mem hx with h | ⟨y,hy,rfl⟩
  ·exact o1 x h
  ·have:=o1 y hy;have e2:(y.put p).ok=(within y.no 1 16&&within p 1 3&&inR y.need&&decide (0<=y.need)):=rfl;rw [e2];simp only [MemberV.ok,within,bae,decide_eq_true_eq] at this |-;exact ⟨⟨⟨this.1.1.1,hp⟩,this.1.2⟩,this.2⟩
 ·unfold stOf memOf;dsimp only;rw [updL_get (no:=MemberV.no) (f:=MemberV.put p) (fun _=>rfl)]
  by_cases hw:w=n
  ·rw [if_pos ⟨hw,memIs_iff.1 hi⟩,if_pos hw];rfl
  ·rw [if_neg (fun h=>hw h.1),if_neg hw]
theorem acct_same {a b:AcctV}:a.same b=true ↔ a=b:=by
 obtain ⟨a1,a2,a3⟩:=a;obtain ⟨b1,b2,b3⟩:=b;simp only [AcctV.same,bae,beq_iff_eq,AcctV.mk.injEq]
theorem isB_iff {a:AcctV} {b:BalV}:isB a b=true ↔ b.acct=a:=by
 obtain ⟨a1,a2,a3⟩:=a;obtain ⟨b1,b2,b3,b4⟩:=b;simp only [isB,BalV.acct,bae,beq_iff_eq,AcctV.mk.injEq]
theorem less_irr {a:AcctV} (h:a.less a=true):False:=by rw [less_iff] at h;omega
def tot {A:Type} (L:List A) (F:A->Int):Int:=sumL (L.map F)
theorem tot_cons {A:Type} (x:A) (L:List A) (F:A->Int):tot (x :: L) F=F x+tot L F:=rfl
theorem tot_add {A:Type} (L:List A) (F G:A->Int):tot L (fun a=>F a+G a)=tot L F+tot L G:=by
 induction L with
 | nil=>rfl
 | cons x r ih=>simp only [tot_cons,ih];omega
theorem tot_zero {A:Type} {L:List A} {F:A->Int} (h:∀ a∈L,F a=0):tot L F=0:=by
 induction L with
 | nil=>rfl
 | cons x r ih=>rw [tot_cons,h x (by simp),ih fun a ha=>h a (by simp [ha])];rfl
theorem tot_congr {A:Type} {L:List A} {F G:A->Int} (h:∀ a∈L,F a=G a):tot L F=tot L G:=by
 induction L with
 | nil=>rfl
 | cons x r ih=>rw [tot_cons,tot_cons,h x (by simp),ih fun a ha=>h a (by simp [ha])]
theorem tot_one {A:Type} {L:List A} {R:A->A->Prop} (hp:L.Pairwise R) {x:A} (hx:x∈L) {F:A->Int} (h0:∀ a,(R a x\/R x a)->F a=0):tot L F=F x:=by
 induction L with
 | nil=>cases hx
 | cons y r ih =>
  rw [List.pairwise_cons] at hp;rw [tot_cons];rcases List.mem_cons.1 hx with rfl | hx
  ·rw [tot_zero fun a ha=>h0 a (.inr (hp.1 a ha))];omega
  ·rw [ih hp.2 hx,h0 y (.inl (hp.1 x hx))];omega
theorem acc_mem {k w c:Nat} {x:AcctV}:x∈acc k w c ↔ x=⟨(k:Int)+1,w,c⟩/\x.right=true:=by
 unfold acc;split
 ·rename_i h;simp only [List.mem_singleton];constructor
  ·rintro rfl;exact ⟨rfl,h⟩
  ·exact fun h=>h.1
 ·rename_i h;constructor
  ·intro h;cases h
  ·rintro ⟨rfl,h2⟩;exact absurd h2 h
theorem accC_mem {k w n:Nat} {x:AcctV}:x∈accC k w n ↔ ∃ c,c < n/\x=⟨(k:Int)+1,w,(c:Nat)⟩/\x.right=true:=by
 rw [show accC k w n=frm (acc k w) n from rfl,mem_frm];simp only [acc_mem]
theorem accW_mem {k n:Nat} {x:AcctV}:x∈accW k n ↔ ∃ w,w < n/\∃ c,c < 3/\x=⟨(k:Int)+1,(w:Nat),(c:Nat)⟩/\x.right=true:=by
 rw [show accW k n=frm (fun w=>accC k w 3) n from rfl,mem_frm];simp only [accC_mem]
theorem accK_mem {n:Nat} {x:AcctV}:x∈accK n ↔ ∃ k,k < n/\∃ w,w < 17/\∃ c,c < 3/\x=⟨((k:Nat):Int)+1,(w:Nat),(c:Nat)⟩/\x.right=true:=by
 rw [show accK n=frm (fun k=>accW k 17) n from rfl,mem_frm];simp only [accW_mem]
theorem right_rng {x:AcctV} (h:x.right=true):(1<=x.kind/\x.kind<=6)/\(0<=x.who/\x.who<=16)/\0<=x.cur/\x.cur<=2:=by
 unfold AcctV.right at h;split at h
 ·cases h
 ·split at h
  ·simp only [bae,decide_eq_true_eq] at h;omega
  ·simp only [beq_iff_eq] at h;omega
theorem allA_mem {x:AcctV}:x∈allA ↔ x.right=true:=by
 unfold allA;rw [accK_mem];constructor
 ·rintro ⟨_,_,_,_,_,_,_,h⟩;exact h
 ·intro h;have:=right_rng h;refine ⟨(x.kind-1).toNat,by omega,x.who.toNat,by omega,x.cur.toNat,by omega,?_,h⟩;obtain ⟨a,b,c⟩:=x;dsimp only at this |-;rw [AcctV.mk.injEq];omega
theorem allA_pw:allA.Pairwise (fun a b=>a.less b=true):=by
 unfold allA;rw [show accK 6=frm (fun k=>accW k 17) 6 from rfl];refine pw_frm (fun k _=>?_) fun i j hij _ x hx y hy=>?_
 ·rw [show accW k 17=frm (fun w=>accC k w 3) 17 from rfl];refine pw_frm (fun w _=>?_) fun i j hij _ x hx y hy=>?_
  ·rw [show accC k w 3=frm (acc k w) 3 from rfl];refine pw_frm (fun c _=>pw_one (by unfold acc;split<;>simp)) fun i j hij _ x hx y hy=>?_
   obtain ⟨rfl,_⟩:=acc_mem.1 hx;obtain ⟨rfl,_⟩:=acc_mem.1 hy;rw [less_iff];dsimp only;omega
  ·obtain ⟨_,_,rfl,_⟩:=accC_mem.1 hx;obtain ⟨_,_,rfl,_⟩:=accC_mem.1 hy;rw [less_iff];dsimp only;omega
 ·obtain ⟨_,_,_,_,rfl,_⟩:=accW_mem.1 hx;obtain ⟨_,_,_,_,rfl,_⟩:=accW_mem.1 hy;rw [less_iff];dsimp only;omega
def inC (c:Int) (a:AcctV) (n:Int):Int:=if a.cur=c then n else 0
theorem inC_bal (c:Int) (b:BalV) (n:Int):inC c b.acct n=if b.cur=c then n else 0:=rfl
theorem inC_leg (c:Int) (b:LegV) (n:Int):inC c b.acct n=if b.cur=c then n else 0:=rfl
theorem inC_mk (c:Int) (a:AcctV) (m n:Int):inC c (BalV.acct ⟨a.kind,a.who,a.cur,m⟩) n=inC c a n:=rfl
theorem curL_cons (c:Int) (b:BalV) (r:List BalV):sumL (curL c (b :: r))=inC c b.acct b.sum+sumL (curL c r):=by
 rw [inC_bal];simp only [curL,List.filter_cons]
 by_cases h:b.cur=c
 ·rw [if_pos (by simpa using h),if_pos h];rfl
 ·rw [if_neg (by simpa using h),if_neg h];simp
theorem curL_app (c:Int) (a b:List BalV):curL c (a++b)=curL c a++curL c b:=by simp [curL]
theorem curL_bal (c:Int) (S:AcctV->Int) (L:List AcctV):sumL (curL c (L.flatMap fun a=>balN a (S a)))=tot L fun a=>inC c a (S a):=by
 induction L with
 | nil=>rfl
 | cons x r ih =>
  rw [List.flatMap_cons,curL_app,sumL_append,ih,tot_cons];congr 1;unfold balN;split
  ·rename_i h;have h:S x=0:=by simpa using h
   rw [h];simp [curL,sumL,inC]
  ·rw [curL_cons,inC_mk];simp [curL,sumL]
theorem ofL_none {a:AcctV}:∀ {bs:List BalV},(∀ b∈bs,b.acct≠a)->ofL a bs=0
 | [],_=>rfl
 | b :: r,h=>by
  simp only [ofL];rw [if_neg (fun hh=>h b (by simp) (isB_iff.1 hh))];exact ofL_none fun x hx=>h x (by simp [hx])
theorem tot_bs (c:Int):∀ {bs:List BalV},(∀ b∈bs,b.acct.right=true)->bs.Pairwise (fun x y=>x.acct.less y.acct=true)->tot allA (fun a=>inC c a (ofL a bs))=sumL (curL c bs)
 | [],_,_=>tot_zero fun a _=>by simp [ofL,inC]
 | b :: r,h1,h2=>by
  rw [List.pairwise_cons] at h2;rw [curL_cons,<- tot_bs c (fun x hx=>h1 x (by simp [hx])) h2.2]
  have e:∀ a∈allA,inC c a (ofL a (b :: r))=(if b.acct=a then inC c a b.sum else 0)+inC c a (ofL a r):=by
   intro a _;simp only [ofL]
   by_cases hb:b.acct=a
   ·rw [if_pos (isB_iff.2 hb),if_pos hb];rw [ofL_none (bs:=r) (fun x hx hxa=>by have:=h2.1 x hx;rw [hb,hxa] at this;exact less_irr this)];simp [inC]
   ·rw [if_neg (fun hh=>hb (isB_iff.1 hh)),if_neg hb];omega
  rw [tot_congr e,tot_add];congr 1;rw [tot_one allA_pw (x:=b.acct) (allA_mem.2 (h1 b (by simp)))]
  ·simp
  ·intro a ha;rw [if_neg]
   rintro rfl
   rcases ha with h | h<;>exact less_irr h
theorem legS_cons (a:AcctV) (x:LegV) (g:List LegV):sumL (legS a (x :: g))=(if x.acct=a then x.amt else 0)+sumL (legS a g):=by
 simp only [legS,pick,List.flatMap_cons,sumL_append];congr 1
 by_cases h:x.acct=a
 ·rw [if_pos (acct_same.2 h),if_pos h];simp [sumL]
 ·rw [if_neg (fun hh=>h (acct_same.1 hh)),if_neg h];rfl
theorem curS_cons (c:Int) (x:LegV) (g:List LegV):sumL (curS c (x :: g))=inC c x.acct x.amt+sumL (curS c g):=by
 simp only [curS,pick,List.flatMap_cons,sumL_append];congr 1;rw [inC_leg]
 by_cases h:x.cur=c
 ·rw [if_pos (by simpa using h),if_pos h];simp [sumL]
 ·rw [if_neg (by simpa using h),if_neg h];rfl
theorem tot_legs (c:Int):∀ {g:List LegV},(∀ x∈g,x.acct.right=true)->tot allA (fun a=>inC c a (sumL (legS a g)))=sumL (curS c g)
 | [],_=>tot_zero fun a _=>by simp [legS,pick,inC,sumL]
 | x :: r,h1=>by
  rw [curS_cons,<- tot_legs c (fun y hy=>h1 y (by simp [hy]))]
  have e:∀ a∈allA,inC c a (sumL (legS a (x :: r)))=(if x.acct=a then inC c a x.amt else 0)+inC c a (sumL (legS a r)):=by
   intro a _;rw [legS_cons]
   by_cases hb:x.acct=a
   ·rw [if_pos hb,if_pos hb];simp only [inC];split<;>omega
   ·rw [if_neg hb,if_neg hb];simp only [Int.zero_add]
  rw [tot_congr e,tot_add];congr 1;rw [tot_one allA_pw (x:=x.acct) (allA_mem.2 (h1 x (by simp)))]
  ·simp
  ·intro a ha;rw [if_neg]
   rintro rfl
   rcases ha with h | h<;>exact less_irr h
theorem balL_iff {bs:List BalV} {c:Int}:balL bs c=true ↔ right (curL c bs)=true/\sumL (curL c bs)=0:=by
 simp only [balL,sumE,sumN,bae,beq_iff_eq];constructor
 ·rintro ⟨h1,h2⟩
  split at h1
  ·rename_i hr;split at h1
   ·rename_i hi;rw [hr,hi] at h2;exact ⟨hr,by simpa using h2⟩
   ·cases h1
  ·cases h1
 ·rintro ⟨hr,hs⟩
  rw [if_pos hr,hs,hr];exact ⟨rfl,rfl⟩
theorem led_ok_iff {l:LedV}:l.okB=true ↔ 0<=l.last/\((∀ b∈l.bs,balOk b=true)/\l.bs.Pairwise (fun x y=>x.acct.less y.acct=true))/\balL l.bs 0=true/\balL l.bs 1=true/\balL l.bs 2=true:=by
 simp only [LedV.okB,bae,led_iff,decide_eq_true_eq,and_assoc]
theorem led_right {l:LedV} (h:l.okB=true):∀ b∈l.bs,b.acct.right=true:=fun b hb=>by
 have:=(led_ok_iff.1 h).2.1.1 b hb;simp only [balOk,bae] at this;exact this.1
theorem postE_ok {l:LedV} {id:Int} {g:List LegV} (h:postE l id g=0):l.okB=true/\(1<=id/\id<=1099511627776)/\chkE g=0/\pstIn l g allA=true/\pstFl l g allA=false:=by
 unfold postE at h;split at h
 case isFalse=>cases h
 rename_i h1;split at h
 case isFalse=>cases h
 rename_i h2;split at h
 ·cases h
 split at h
 case isFalse h3=>exact absurd h h3
 rename_i h3;split at h
 case isFalse=>cases h
 rename_i h4;split at h
 ·cases h
 rename_i h5;simp only [within,bae,decide_eq_true_eq] at h2;exact ⟨h1,h2,h3,h4,by simpa using h5⟩
theorem postL_ok {l:LedV} {id:Int} {g:List LegV} (h:postE l id g=0):(postL l id g).okB=true:=by
 unfold postL;rw [if_pos h];obtain ⟨h1,h2,h3,h4,h5⟩:=postE_ok h;obtain ⟨m1,m2,m3⟩:=chkE_may h3
 have hmr:∀ x∈g,x.acct.right=true:=fun x hx=>by
  have:=List.all_eq_true.1 m1 x hx;simp only [mayOk,bae] at this;exact this.1
 have hb:=led_ok_iff.1 h1
 have hal:∀ b∈pstA l g allA,∃ a∈allA,b=⟨a.kind,a.who,a.cur,pstS l g a⟩/\pstS l g a≠0:=by
  intro b hb;obtain ⟨a,ha,hb⟩:=List.mem_flatMap.1 hb;unfold balN at hb;split at hb
  ·cases hb
  ·rename_i hne;simp only [List.mem_singleton] at hb;exact ⟨a,ha,hb,by simpa using hne⟩
 have hin:∀ a∈allA,inR (pstS l g a)=true:=fun a ha=>List.all_eq_true.1 h4 a ha
 have hcur:∀ c:Int,balL l.bs c=true->sumL (curS c g)=0->balL (pstA l g allA) c=true:=by
  intro c hc hg;rw [balL_iff] at hc |-;constructor
  ·refine List.all_eq_true.2 fun n hn=>?_
   simp only [curL,List.mem_map,List.mem_filter] at hn;obtain ⟨b,⟨hb,_⟩,rfl⟩:=hn;obtain ⟨a,ha,rfl,_⟩:=hal b hb;exact hin a ha
  ·have e:=curL_bal c (pstS l g) allA;rw [show pstA l g allA=allA.flatMap fun a=>balN a (pstS l g a) from rfl,e]
   have e2:∀ a∈allA,inC c a (pstS l g a)=inC c a (ofL a l.bs)+inC c a (sumL (legS a g)):=fun a _=>by
    simp only [pstS,sumL,inC];split<;>omega
   rw [tot_congr e2,tot_add,tot_bs c (led_right h1) hb.2.1.2,tot_legs c hmr,hc.2,hg];rfl
 have hfl:∀ c:Nat,c < 3->sumL (curS c g)=0:=fun c hc=>by
  have:=List.all_eq_true.1 m2 c (List.mem_range.2 hc);simpa using this
 refine led_ok_iff.2 ⟨by dsimp only;omega,⟨fun b hb=>?_,?_⟩,hcur 0 hb.2.2.1 (hfl 0 (by omega)),hcur 1 hb.2.2.2.1 (hfl 1 (by omega)),hcur 2 hb.2.2.2.2 (hfl 2 (by omega))⟩
 ·obtain ⟨a,ha,rfl,hne⟩:=hal b hb;rw [show balOk ⟨a.kind,a.who,a.cur,pstS l g a⟩=(a.right&&(inR (pstS l g a)&&(pstS l g a != 0&&!decide (pstS l g a < a.floor)))) from rfl];simp only [bae,bne_iff_ne,Bool.not_eq_true',decide_eq_false_iff_not];refine ⟨allA_mem.1 ha,hin a ha,hne,fun hlt=>?_⟩;have:pstFl l g allA=true:=List.any_eq_true.2 ⟨a,ha,by simpa using hlt⟩;rw [h5] at this;cases this
 ·refine pw_flat (f:=fun a=>balN a (pstS l g a)) allA_pw (fun a _=>pw_one (balN_len _ _)) fun a b _ _ hab x hx y hy=>?_
  have key:∀ (a:AcctV) (x:BalV),x∈balN a (pstS l g a)->x.acct=a:=fun a x hx=>by
   unfold balN at hx;split at hx
   ·cases hx
   ·simp only [List.mem_singleton] at hx;rw [hx];rfl
  rw [key a x hx,key b y hy];exact hab
theorem postIf_ok {l:LedV} {g:List LegV} {e:Int} (h:l.okB=true) (h0:(postIf l g e).2=0):(postIf l g e).1.okB=true:=by
 unfold postIf at h0 |-;split
 ·rename_i hc;rw [if_pos hc] at h0;exact postL_ok h0
 ·exact h
theorem posLt_iff {a b:PosV}:posLt a b=true ↔ a.who < b.who\/(a.who=b.who/\a.inst < b.inst):=by
 simp only [posLt,keyL,Bool.or_eq_true,bae,decide_eq_true_eq,beq_iff_eq]
theorem posLt_tr {a b c:PosV} (h1:posLt a b=true) (h2:posLt b c=true):posLt a c=true:=by
 simp only [posLt,keyL,Bool.or_eq_true,bae,decide_eq_true_eq,beq_iff_eq] at h1 h2 |-;omega
theorem tradeLt_tr {a b c:TradeV} (h1:tradeLt a b=true) (h2:tradeLt b c=true):tradeLt a c=true:=by
 simp only [tradeLt,decide_eq_true_eq] at h1 h2 |-;omega
theorem level1_iff {n:Int} {l:List PosV}:level1 n l=true ↔ right (qtysL n l)=true/\sumL (qtysL n l)=0:=by
 simp only [level1,sumE,sumN,bae,beq_iff_eq];constructor
 ·rintro ⟨h1,h2⟩
  split at h1
  ·rename_i hr;split at h1
   ·rename_i hi;rw [hr,hi] at h2;exact ⟨hr,by simpa using h2⟩
   ·cases h1
  ·cases h1
 ·rintro ⟨hr,hs⟩
  rw [if_pos hr,hs,hr];exact ⟨rfl,rfl⟩
theorem pos_ok {p:PosV}:p.okB=true ↔ (1<=p.who/\p.who<=16)/\(1<=p.inst/\p.inst<=8)/\(-1099511627776<=p.qty/\p.qty<=1099511627776)/\inR p.cost=true /\ ¬ (p.qty=0/\p.cost=0):=by
 simp only [PosV.okB,keyB,within,bae,decide_eq_true_eq,Bool.not_eq_true',Bool.and_eq_false_iff,beq_eq_false_iff_ne,ne_eq];constructor
 ·rintro ⟨⟨h1,h2⟩,h3,h4,h5⟩;exact ⟨h1,h2,h3,h4,fun h=>by rcases h5 with h5 | h5<;>omega⟩
 ·rintro ⟨h1,h2,h3,h4,h5⟩;refine ⟨⟨h1,h2⟩,h3,h4,?_⟩;omega
structure BookV.right (b:BookV):Prop where
 ok:∀ p∈b.qs,p.okB=true
 pw:b.qs.Pairwise (fun x y=>posLt x y=true)
 level:∀ n:Int,1<=n->n<=8->sumL (qtysL n b.qs)=0
 tok:∀ t∈b.ts,tradeOk b.next t=true
 tpw:b.ts.Pairwise (fun x y=>x.no < y.no)
 tl:b.ts.length<=128
 n0:0<=b.next
 n1:b.next<=1099511627776
theorem book_iff {b:BookV}:b.okB=true ↔ b.right:=by
 simp only [BookV.okB,bae,chB_iff (lt:=posLt) posLt_tr,chB_iff (lt:=tradeLt) tradeLt_tr,Bool.not_eq_true',decide_eq_false_iff_not,levelB,List.all_eq_true,level1_iff];constructor
 ·rintro ⟨⟨h1,h2⟩,⟨h3,h4⟩,h5,h6,h7,h8⟩
  refine ⟨h1,h2,fun n hn hn2=>?_,h3,h4.imp fun h=>by simpa [tradeLt] using h,by omega,by omega,by omega⟩;have:=(h5 (n-1).toNat (List.mem_range.2 (by omega))).2
  rwa [show (((n-1).toNat:Nat):Int)+1=n by omega] at this
 ·intro h;refine ⟨⟨h.ok,h.pw⟩,⟨h.tok,h.tpw.imp fun h=>by simpa [tradeLt] using h⟩,fun i hi=>⟨?_,h.level _ (by omega) (by have:=List.mem_range.1 hi;omega)⟩,by have:=h.tl;omega,by have:=h.n0;omega,by have:=h.n1;omega⟩;refine List.all_eq_true.2 fun q hq=>?_
  simp only [qtysL,List.mem_map,List.mem_filter] at hq;obtain ⟨p,⟨hp,_⟩,rfl⟩:=hq;have:=(pos_ok.1 (h.ok p hp)).2.2.1;rw [inR_iff];omega
theorem qtysL_app (n:Int) (a b:List PosV):qtysL n (a++b)=qtysL n a++qtysL n b:=by simp [qtysL]
theorem qtysL_cons (n:Int) (p:PosV) (r:List PosV):sumL (qtysL n (p :: r))=(if p.inst=n then p.qty else 0)+sumL (qtysL n r):=by
 simp only [qtysL,List.filter_cons]
 by_cases h:p.inst=n
 ·rw [if_pos (by simpa using h),if_pos h];rfl
 ·rw [if_neg (by simpa using h),if_neg h];simp
theorem qtysL_flat {A:Type} (n:Int) (f:A->List PosV) (L:List A):sumL (qtysL n (L.flatMap f))=tot L (fun a=>sumL (qtysL n (f a))):=by
 induction L with
 | nil=>rfl
 | cons x r ih=>rw [List.flatMap_cons,qtysL_app,sumL_append,ih];rfl
theorem qtysL_adP (b:BookV) (g:List PosV) (w m n:Int):sumL (qtysL n (adP b g w m))=if m=n then adQ b g w m else 0:=by
 unfold adP;split
 ·rename_i h;simp only [bae,beq_iff_eq] at h;rw [h.1];split<;>rfl
 ·rw [qtysL_cons];simp [qtysL,sumL]
theorem range_pw (n:Nat):(List.range n).Pairwise (fun a b=>a < b):=List.pairwise_lt_range
theorem qtysL_adN (b:BookV) (g:List PosV) (w n:Int) (h1:1<=n) (h8:n<=8):sumL (qtysL n (adN b g w 8))=adQ b g w n:=by
 unfold adN;rw [qtysL_flat]
 have e:∀ k∈List.range 8,sumL (qtysL n (adP b g w ((k:Int)+1)))=if (k:Int)+1=n then adQ b g w n else 0:=fun k _=>by
  rw [qtysL_adP];split
  ·rename_i h;rw [h]
  ·rfl
 rw [tot_congr e,tot_one (range_pw 8) (x:=(n-1).toNat) (List.mem_range.2 (by omega))]
 ·rw [if_pos (by omega)]
 ·intro a ha;rw [if_neg (by omega)]
theorem qtysL_adW (b:BookV) (g:List PosV) (n:Int) (h1:1<=n) (h8:n<=8):sumL (qtysL n (adW b g 16))=tot (List.range 16) (fun k=>adQ b g ((k:Int)+1) n):=by
 unfold adW;rw [qtysL_flat];exact tot_congr fun k _=>qtysL_adN b g _ n h1 h8
theorem posIs_iff {w n:Int} {p:PosV}:posIs w n p=true ↔ p.who=w/\p.inst=n:=by simp only [posIs,bae,beq_iff_eq]
theorem posOf_none {w n:Int}:∀ {qs:List PosV},(∀ p∈qs,¬ (p.who=w/\p.inst=n))->posOf w n qs=⟨w,n,0,0⟩
 | [],_=>rfl
 | p :: r,h=>by
  simp only [posOf];rw [if_neg (by simp only [posIs,bae,beq_iff_eq];exact h p (by simp))];exact posOf_none fun x hx=>h x (by simp [hx])
theorem posOf_eq {w n:Int} {qs:List PosV} (hp:qs.Pairwise (fun x y=>posLt x y=true)) {p:PosV} (hm:p∈qs) (hk:p.who=w/\p.inst=n):posOf w n qs=p:=by
 induction qs with
 | nil=>cases hm
 | cons y r ih =>
  rw [List.pairwise_cons] at hp;simp only [posOf];rcases List.mem_cons.1 hm with rfl | hm
  ·rw [if_pos (by simp only [posIs,bae,beq_iff_eq];exact hk)]
  ·have:=hp.1 p hm;rw [if_neg]
   ·exact ih hp.2 hm
   ·simp only [posLt,keyL,Bool.or_eq_true,bae,decide_eq_true_eq,beq_iff_eq] at this;simp only [posIs,bae,beq_iff_eq];omega
theorem tot16 {w v:Int} (h:1<=w/\w<=16):tot (List.range 16) (fun k=>if w=(k:Int)+1 then v else 0)=v:=by
 rw [tot_one (range_pw 16) (x:=(w-1).toNat) (List.mem_range.2 (by omega))]
 ·rw [if_pos (by omega)]
 ·intro a ha;rw [if_neg (by omega)]
theorem tot_qs (n:Int):∀ {qs:List PosV},(∀ p∈qs,1<=p.who/\p.who<=16)->qs.Pairwise (fun x y=>posLt x y=true)->tot (List.range 16) (fun k=>(posOf ((k:Int)+1) n qs).qty)=sumL (qtysL n qs)
 | [],_,_=>tot_zero fun a _=>rfl
 | p :: r,h1,h2=>by
  rw [List.pairwise_cons] at h2;rw [qtysL_cons,<- tot_qs n (fun x hx=>h1 x (by simp [hx])) h2.2]
  have e:∀ k∈List.range 16,(posOf ((k:Int)+1) n (p :: r)).qty=(if p.who=(k:Int)+1 then (if p.inst=n then p.qty else 0) else 0)+(posOf ((k:Int)+1) n r).qty:=by
   intro k _;simp only [posOf]
   by_cases hw:p.who=(k:Int)+1
   ·rw [if_pos hw]
    by_cases hn:p.inst=n
    ·rw [if_pos hn,if_pos (posIs_iff.2 ⟨hw,hn⟩)];rw [posOf_none (qs:=r)]
     ·simp
     ·intro x hx hk;have:=h2.1 x hx;simp only [posLt,keyL,Bool.or_eq_true,bae,decide_eq_true_eq,beq_iff_eq] at this;omega
    ·rw [if_neg hn,if_neg (fun h=>hn (posIs_iff.1 h).2)];omega
   ·rw [if_neg hw,if_neg (fun h=>hw (posIs_iff.1 h).1)];omega
  rw [tot_congr e,tot_add,tot16 (h1 p (by simp))]
theorem pick_cons {A:Type} (q:A->Bool) (f:A->Int) (x:A) (r:List A):sumL (pick q f (x :: r))=(if q x=true then f x else 0)+sumL (pick q f r):=by
 simp only [pick,List.flatMap_cons,sumL_append];congr 1;split
 ·simp [sumL]
 ·rfl
theorem tot_pick (n:Int) (f:PosV->Int):∀ {g:List PosV},(∀ p∈g,1<=p.who/\p.who<=16)->tot (List.range 16) (fun k=>sumL (pick (posIs ((k:Int)+1) n) f g))=sumL (pick (fun p=>p.inst==n) f g)
 | [],_=>tot_zero fun a _=>rfl
 | p :: r,h1=>by
  rw [pick_cons,<- tot_pick n f (fun x hx=>h1 x (by simp [hx]))]
  have e:∀ k∈List.range 16,sumL (pick (posIs ((k:Int)+1) n) f (p :: r))=(if p.who=(k:Int)+1 then (if (p.inst==n)=true then f p else 0) else 0)+sumL (pick (posIs ((k:Int)+1) n) f r):=by
   intro k _;rw [pick_cons];congr 1
   by_cases hw:p.who=(k:Int)+1
   ·rw [if_pos hw]
    by_cases hn:p.inst=n
    ·rw [if_pos (posIs_iff.2 ⟨hw,hn⟩),if_pos (by simpa using hn)]
    ·rw [if_neg (fun h=>hn (posIs_iff.1 h).2),if_neg (by simpa using hn)]
   ·rw [if_neg hw,if_neg (fun h=>hw (posIs_iff.1 h).1)]
  rw [tot_congr e,tot_add,tot16 (h1 p (by simp))]
theorem pleg_ok {p:PosV} (h:plegB p=true):(1<=p.who/\p.who<=16)/\(1<=p.inst/\p.inst<=8):=by
 simp only [plegB,keyB,within,bae,decide_eq_true_eq] at h;exact h.1
theorem adP_mem {b:BookV} {g:List PosV} {w n:Int} {p:PosV} (h:p∈adP b g w n):p=⟨w,n,adQ b g w n,adC b g w n⟩ /\ ¬ (adQ b g w n=0/\adC b g w n=0):=by
 unfold adP at h;split at h
 ·cases h
 ·rename_i hne;simp only [bae,beq_iff_eq] at hne;exact ⟨List.mem_singleton.1 h,hne⟩
theorem adW_key {b:BookV} {g:List PosV} {p:PosV} (h:p∈adW b g 16):(∃ q∈b.qs,q.who=p.who/\q.inst=p.inst)\/(∃ q∈g,q.who=p.who/\q.inst=p.inst):=by
 obtain ⟨k,m,_,_,hp⟩:=adW_mem h;obtain ⟨rfl,hne⟩:=adP_mem hp;dsimp only
 by_cases h1:∃ q∈b.qs,q.who=(k:Int)+1/\q.inst=(m:Int)+1
 ·exact .inl h1
 by_cases h2:∃ q∈g,q.who=(k:Int)+1/\q.inst=(m:Int)+1
 ·exact .inr h2
 exfalso;have e1:=posOf_none (w:=(k:Int)+1) (n:=(m:Int)+1) (qs:=b.qs) fun p hp hk=>h1 ⟨p,hp,hk⟩
 have e2:∀ f:PosV->Int,pick (posIs ((k:Int)+1) ((m:Int)+1)) f g=[]:=fun f=>by
  unfold pick;rw [List.flatMap_eq_nil_iff];intro x hx;rw [if_neg];simp only [posIs,bae,beq_iff_eq];exact fun hk=>h2 ⟨x,hx,hk⟩
 apply hne;unfold adQ adC;rw [e1,e2,e2];exact ⟨rfl,rfl⟩
theorem adW_pw (b:BookV) (g:List PosV):(adW b g 16).Pairwise (fun x y=>posLt x y=true):=by
 rw [show adW b g 16=frm (fun k=>adN b g ((k:Int)+1) 8) 16 from rfl];refine pw_frm (fun k _=>?_) fun i j hij _ x hx y hy=>?_
 ·rw [show adN b g ((k:Int)+1) 8=frm (fun m=>adP b g ((k:Int)+1) ((m:Int)+1)) 8 from rfl];refine pw_frm (fun m _=>pw_one (by unfold adP;split<;>simp)) fun i j hij _ x hx y hy=>?_
  rw [(adP_mem hx).1,(adP_mem hy).1];rw [posLt_iff];dsimp only;omega
 ·obtain ⟨m,_,hx⟩:=List.mem_flatMap.1 hx;obtain ⟨m2,_,hy⟩:=List.mem_flatMap.1 hy;rw [(adP_mem hx).1,(adP_mem hy).1];rw [posLt_iff];dsimp only;omega
theorem adW_right {b:BookV} {g:List PosV} (h:addE b g=0):(∀ p∈adW b g 16,p.okB=true)/\∀ n:Int,1<=n->n<=8->sumL (qtysL n (adW b g 16))=0:=by
 obtain ⟨h1,h2,h3⟩:=addE_adOk h;have hb:=book_iff.1 (addE_ok h).1;refine ⟨fun p hp=>?_,fun n hn1 hn8=>?_⟩
 ·obtain ⟨k,m,hk,hm,hp⟩:=adW_mem hp;have hok:=adOkW_at h3 hk hm;obtain ⟨rfl,hne⟩:=adP_mem hp;simp only [adOk,within,bae,decide_eq_true_eq] at hok;rw [pos_ok];dsimp only;exact ⟨by omega,by omega,hok.2.2,hok.2.1,hne⟩
 ·rw [qtysL_adW _ _ _ hn1 hn8];have e:∀ k∈List.range 16,adQ b g ((k:Int)+1) n=(posOf ((k:Int)+1) n b.qs).qty+sumL (pick (posIs ((k:Int)+1) n) PosV.qty g):=fun k _=>rfl
  rw [tot_congr e,tot_add,tot_qs n (fun p hp=>(pos_ok.1 (hb.ok p hp)).1) hb.pw,tot_pick n PosV.qty (fun p hp=>(pleg_ok (List.all_eq_true.1 h1 p hp)).1),hb.level n hn1 hn8];have:=List.all_eq_true.1 h2 (n-1).toNat (List.mem_range.2 (by omega));rw [show (((n-1).toNat:Nat):Int)+1=n by omega] at this;simpa using this
theorem addB_ok {b:BookV} {g:List PosV} (h:addE b g=0):(addB b g).okB=true:=by
 have hb:=book_iff.1 (addE_ok h).1;rw [(addE_ok h).2];obtain ⟨q1,q2⟩:=adW_right h;exact book_iff.2 ⟨q1,adW_pw b g,q2,hb.tok,hb.tpw,hb.tl,hb.n0,hb.n1⟩
theorem enterE_ok {b:BookV} {t:TradeV} (h:enterE b t=0):b.okB=true/\t.okB=true/\b.ts.length < 128/\b.next≠1099511627776/\addE b (legsL t false)=0:=by
 unfold enterE at h;split at h
 case isFalse=>cases h
 rename_i h1;split at h
 case isFalse=>cases h
 rename_i h2;split at h
 ·cases h
 rename_i h3;split at h
 ·cases h
 rename_i h4;exact ⟨h1,h2,by omega,h4,h⟩
theorem enterB_ok {b:BookV} {t:TradeV} (h:enterE b t=0):(enterB b t).okB=true:=by
 obtain ⟨h1,h2,h3,h4,h5⟩:=enterE_ok h;have hb:=book_iff.1 h1;obtain ⟨q1,q2⟩:=adW_right h5;have n0:=hb.n0;have n1:=hb.n1
 have hno:∀ x∈b.ts,(1<=x.no/\x.no<=b.next)/\x.okB=true:=fun x hx=>by
  have:=hb.tok x hx;simp only [tradeOk,bae,Bool.not_eq_true',decide_eq_false_iff_not] at this;exact ⟨by omega,this.1⟩
 unfold enterB;rw [if_pos h];refine book_iff.2 ⟨q1,adW_pw _ _,q2,fun x hx=>?_,?_,by dsimp only;simp;omega,by dsimp only;omega,by dsimp only;omega⟩
 ·simp only [tradeOk,bae,Bool.not_eq_true',decide_eq_false_iff_not];rcases List.mem_append.1 hx with hx | hx
  ·have:=hno x hx;exact ⟨this.2,by omega,by omega⟩
  ·obtain rfl:=List.mem_singleton.1 hx;exact ⟨h2,by dsimp only;omega,by dsimp only;omega⟩
 ·dsimp only;rw [List.pairwise_append];refine ⟨hb.tpw,by simp,fun x hx y hy=>?_⟩;obtain rfl:=List.mem_singleton.1 hy;have:=hno x hx;dsimp only;omega
theorem findL_at {b:BookV} {n:Int} (h:¬ findL n b.ts < 0):tradeAt n b.ts∈b.ts/\(findL n b.ts).toNat < b.ts.length/\b.ts[(findL n b.ts).toNat]?=some (tradeAt n b.ts):=by
 obtain ⟨i,hi,he,_⟩:=findL_ex h;unfold tradeAt;rw [he,Int.toNat_natCast,List.getD_eq_getElem?_getD,List.getElem?_eq_getElem hi];exact ⟨List.getElem_mem hi,hi,rfl⟩
theorem cancelB_ok {b:BookV} {n:Int} (h:cancelE b n=0):(cancelB b n).okB=true:=by
 obtain ⟨h1,h2,h3⟩:=cancelE_ok h;have hb:=book_iff.1 h1;obtain ⟨q1,q2⟩:=adW_right h3;obtain ⟨m1,m2,m3⟩:=findL_at h2;unfold cancelB;rw [if_pos h];refine book_iff.2 ⟨q1,adW_pw _ _,q2,fun x hx=>?_,?_,by dsimp only;simp only [offT,List.length_set];exact hb.tl,hb.n0,hb.n1⟩
 ·rcases List.mem_or_eq_of_mem_set hx with hx | rfl
  ·exact hb.tok x hx
  ·exact (show tradeOk b.next (tradeAt n b.ts)=true from hb.tok _ m1)
 ·refine pw_no (no:=TradeV.no) ?_ hb.tpw;dsimp only;unfold offT;rw [List.map_set];refine List.ext_getElem? fun j=>?_
  rw [List.getElem?_set];split
  ·rename_i hj;subst hj;rw [List.getElem?_map,m3];simp [m2]
  ·rfl
theorem correctE_ok {b:BookV} {n q p:Int} (h:correctE b n q p=0):cancelE b n=0/\enterE (cancelB b n) { tradeAt n b.ts with qty:=q,price:=p }=0:=by
 unfold correctE at h;split at h
 ·exact ⟨by assumption,h⟩
 ·rename_i hc;exact absurd h hc
theorem correctB_ok {b:BookV} {n q p:Int} (h:correctE b n q p=0):(correctB b n q p).okB=true:=by
 obtain ⟨h1,h2⟩:=correctE_ok h;unfold correctB;rw [if_pos h1];exact enterB_ok h2
theorem runEL_ok {r:RollV}:∀ {l:List PosV},runEL r l=0->∀ p∈l,runE1 r p=0
 | [],_,_,h=>by cases h
 | q :: t,h,p,hp=>by
  simp only [runEL] at h;split at h
  ·rcases List.mem_cons.1 hp with rfl | hp
   ·assumption
   ·exact runEL_ok h p hp
  ·rename_i hne;exact absurd h hne
theorem runE_ok {r:RollV} {b:BookV} (h:runE r b=0):r.okB=true/\b.okB=true/\∀ p∈b.qs,runE1 r p=0:=by
 unfold runE at h;split at h
 ·rename_i hb;rw [bae] at hb;exact ⟨hb.1,hb.2,runEL_ok h⟩
 ·cases h
theorem runE1_ok {r:RollV} {p:PosV} (h:runE1 r p=0):instIs r p.inst=true/\inR (worthS p (instOf r p.inst).mult (priceOf (instOf r p.inst)))=true/\inR (p.qty*priceOf (instOf r p.inst))=true:=by
 unfold runE1 at h;split at h
 case isFalse=>cases h
 rename_i h1;split at h
 ·cases h
 split at h
 case isFalse=>cases h
 rename_i h2;rw [bae] at h2;exact ⟨h1,h2⟩
theorem runQ1_mem {r:RollV} {p x:PosV} (h:x∈runQ1 r p):x=⟨p.who,p.inst,p.qty,p.qty*priceOf (instOf r p.inst)⟩ /\ ¬ (p.qty=0/\p.qty*priceOf (instOf r p.inst)=0):=by
 unfold runQ1 at h;split at h
 ·cases h
 ·rename_i hne;simp only [bae,beq_iff_eq] at hne;exact ⟨List.mem_singleton.1 h,hne⟩
theorem runB_ok {r:RollV} {b:BookV} (h:runE r b=0):(runB r b).okB=true:=by
 obtain ⟨_,h2,h3⟩:=runE_ok h;have hb:=book_iff.1 h2;unfold runB;rw [if_pos h];refine book_iff.2 ⟨fun x hx=>?_,?_,fun n hn1 hn8=>?_,hb.tok,hb.tpw,hb.tl,hb.n0,hb.n1⟩
 ·obtain ⟨p,hp,hx⟩:=List.mem_flatMap.1 hx;obtain ⟨rfl,hne⟩:=runQ1_mem hx;have:=pos_ok.1 (hb.ok p hp);rw [pos_ok];exact ⟨this.1,this.2.1,this.2.2.1,(runE1_ok (h3 p hp)).2.2,hne⟩
 ·refine pw_flat (f:=runQ1 r) hb.pw (fun p _=>pw_one (by unfold runQ1;split<;>simp)) fun p q _ _ hpq x hx y hy=>?_
  rw [(runQ1_mem hx).1,(runQ1_mem hy).1];exact hpq
 ·dsimp only;rw [qtysL_flat,<- hb.level n hn1 hn8]
  have e:∀ l:List PosV,tot l (fun p=>sumL (qtysL n (runQ1 r p)))=sumL (qtysL n l):=fun l=>by
   induction l with
   | nil=>rfl
   | cons p t ih =>
    rw [tot_cons,ih,qtysL_cons];congr 1;unfold runQ1;split
    ·rename_i hz;simp only [bae,beq_iff_eq] at hz;rw [hz.1];split<;>rfl
    ·rw [qtysL_cons];simp [qtysL,sumL]
  exact e b.qs
theorem callLt_tr {a b c:CallV} (h1:callLt a b=true) (h2:callLt b c=true):callLt a c=true:=by
 simp only [callLt,Bool.or_eq_true,bae,decide_eq_true_eq,beq_iff_eq] at h1 h2 |-;omega
theorem seatLt_tr {a b c:SeatV} (h1:seatLt a b=true) (h2:seatLt b c=true):seatLt a c=true:=by
 simp only [seatLt,decide_eq_true_eq] at h1 h2 |-;omega
theorem calls_iff {xs:List CallV}:chB callOk callLt xs=true ↔ (∀ x∈xs,callOk x=true)/\xs.Pairwise (fun a b=>callLt a b=true):=chB_iff (lt:=callLt) callLt_tr
theorem call_ok {x:CallV}:callOk x=true ↔ (1<=x.who/\x.who<=16)/\(0<=x.cur/\x.cur<=2)/\(1<=x.amt/\x.amt<=4611686018427387904)/\0<=x.till/\x.till<=1099511627776:=by
 simp only [callOk,within,bae,decide_eq_true_eq];omega
theorem due_ok {x:DueV}:dueOk x=true ↔ (1<=x.who/\x.who<=16)/\(0<=x.cur/\x.cur<=2)/\0<=x.amt/\x.amt<=4611686018427387904:=by
 simp only [dueOk,within,bae,decide_eq_true_eq];omega
theorem callAt_mem {w c:Int} {xs:List CallV} (h:¬ calledL w c xs < 0):callAt w c xs∈xs/\(callAt w c xs).who=w/\(callAt w c xs).cur=c:=by
 obtain ⟨i,hi,he,hc⟩:=calledL_ex h;unfold callAt;rw [he,Int.toNat_natCast,List.getD_eq_getElem?_getD,List.getElem?_eq_getElem hi];simp only [callIs,bae,beq_iff_eq] at hc;exact ⟨List.getElem_mem hi,hc⟩
theorem setP_mem {xs:List CallV} {x y:CallV} {w c:Int} (h:y∈setP xs x w c):(y.who=w/\y.cur=c)/\((y=x/\0 < x.amt)\/y∈xs):=by
 unfold setP at h;split at h
 ·rename_i hk;simp only [bae,beq_iff_eq] at hk;split at h
  ·rename_i ha;obtain rfl:=List.mem_singleton.1 h;exact ⟨hk,.inl ⟨rfl,ha⟩⟩
  ·cases h
 ·split at h
  ·cases h
  ·rename_i hc;obtain rfl:=List.mem_singleton.1 h;have:=callAt_mem hc;exact ⟨this.2,.inr this.1⟩
theorem setW_mem {xs:List CallV} {x y:CallV} (h:y∈setW xs x 16):(y=x/\0 < x.amt)\/y∈xs:=by
 obtain ⟨k,_,h⟩:=mem_frm.1 h;obtain ⟨c,_,h⟩:=mem_frm.1 h;exact (setP_mem h).2
theorem setW_ok {xs:List CallV} {x:CallV} (h:chB callOk callLt xs=true) (hx:0 < x.amt->callOk x=true):chB callOk callLt (setW xs x 16)=true:=by
 rw [calls_iff] at h |-;refine ⟨fun y hy=>?_,?_⟩
 ·rcases setW_mem hy with ⟨rfl,ha⟩ | hy
  ·exact hx ha
  ·exact h.1 y hy
 ·unfold setW;refine pw_frm (fun k _=>?_) fun i j hij _ a ha b hb=>?_
  ·unfold setC;refine pw_frm (fun c _=>pw_one (setP_len _ _ _ _)) fun i j hij _ a ha b hb=>?_
   have h1:=(setP_mem ha).1;have h2:=(setP_mem hb).1;simp only [callLt,Bool.or_eq_true,bae,decide_eq_true_eq,beq_iff_eq];omega
  ·obtain ⟨_,_,ha⟩:=mem_frm.1 ha;obtain ⟨_,_,hb⟩:=mem_frm.1 hb;have h1:=(setP_mem ha).1;have h2:=(setP_mem hb).1;simp only [callLt,Bool.or_eq_true,bae,decide_eq_true_eq,beq_iff_eq];omega
theorem askL_ok {xs:List CallV} {d:DueV} {t:Int} (h:chB callOk callLt xs=true):chB callOk callLt (askL xs d t)=true/\∀ y∈askL xs d t,y.who=d.who\/y∈xs:=by
 unfold askL;split
 case isFalse=>exact ⟨rfl,fun y hy=>by cases hy⟩
 rename_i he;unfold askE at he;rw [if_pos h] at he;split at he
 case isFalse=>cases he
 rename_i hd;rw [bae] at hd;obtain ⟨hd,ht⟩:=hd;rw [due_ok] at hd;simp only [within,bae,decide_eq_true_eq] at ht;refine ⟨setW_ok h fun ha=>?_,fun y hy=>?_⟩
 ·dsimp only at ha;rw [call_ok];dsimp only;refine ⟨hd.1,hd.2.1,by omega,?_⟩;split
  ·exact ht
  ·rename_i hc;exact (call_ok.1 ((calls_iff.1 h).1 _ (callAt_mem hc).1)).2.2.2
 ·rcases setW_mem hy with ⟨rfl,_⟩ | hy
  ·exact .inl rfl
  ·exact .inr hy
theorem meetL_ok {xs:List CallV} {d:DueV} (h:chB callOk callLt xs=true):chB callOk callLt (meetL xs d)=true/\∀ y∈meetL xs d,∃ x∈xs,y.who=x.who:=by
 unfold meetL;split
 case isFalse=>exact ⟨rfl,fun y hy=>by cases hy⟩
 rename_i he;unfold meetE at he;rw [if_pos h] at he;split at he
 case isFalse=>cases he
 rename_i hd;rw [due_ok] at hd;refine ⟨setW_ok h fun ha=>?_,fun y hy=>?_⟩
 ·unfold meetC at ha |-;split at ha
  ·dsimp only at ha;omega
  ·rename_i hc;rw [if_neg hc];have hx:=call_ok.1 ((calls_iff.1 h).1 _ (callAt_mem hc).1);dsimp only at ha;rw [call_ok];dsimp only;exact ⟨hx.1,hx.2.1,by omega,hx.2.2.2⟩
 ·rcases setW_mem hy with ⟨rfl,ha⟩ | hy
  ·unfold meetC at ha |-;split at ha
   ·dsimp only at ha;omega
   ·rename_i hc;rw [if_neg hc];exact ⟨_,(callAt_mem hc).1,rfl⟩
  ·exact ⟨y,hy,rfl⟩
theorem withoutL_mem {xs:List CallV} {ws:List Int} {y:CallV}:y∈withoutL xs ws ↔ y∈xs/\inK ws y.who=false:=by
 unfold withoutL;rw [List.mem_flatMap];constructor
 ·rintro ⟨x,hx,h⟩
  split at h
  ·cases h
  ·rename_i hn;obtain rfl:=List.mem_singleton.1 h;exact ⟨hx,by simpa using hn⟩
 ·rintro ⟨h1,h2⟩
  exact ⟨y,h1,by rw [h2];simp⟩
theorem sub_pw {A:Type} {R:A->A->Prop} {q:A->Bool} {xs:List A} (h:xs.Pairwise R):(xs.flatMap fun x=>if q x=true then [] else [x]).Pairwise R:=by
 refine pw_flat h (fun a _=>pw_one (by split<;>simp)) fun a b _ _ hab x hx y hy=>?_
 split at hx
 ·cases hx
 split at hy
 ·cases hy
 obtain rfl:=List.mem_singleton.1 hx;obtain rfl:=List.mem_singleton.1 hy;exact hab
theorem withoutL_ok {xs:List CallV} {ws:List Int} (h:chB callOk callLt xs=true):chB callOk callLt (withoutL xs ws)=true:=by
 rw [calls_iff] at h |-;exact ⟨fun y hy=>h.1 y (withoutL_mem.1 hy).1,sub_pw h.2⟩
structure knownP (r:RollV) (qs:List PosV) (ts:List TradeV) (ps:List Plg) (cs:List CallV):Prop where
 qs:∀ p∈qs,(stOf r p.who=1\/stOf r p.who=2)/\instIs r p.inst=true
 ts:∀ t∈ts,stOf r t.buyer≠0/\stOf r t.seller≠0/\instIs r t.inst=true
 ps:∀ p∈ps,(stOf r p.who=1\/stOf r p.who=2)/\astIs r p.asset=true
 cs:∀ c∈cs,stOf r c.who=1
structure StateV.right (s:StateV):Prop where
 clk:(0<=s.now/\s.now<=1099511627776)/\(0<=s.day/\s.day<=1099511627776)/\0<=s.phase/\s.phase<=2
 roll:s.roll.okB=true
 book:s.book.okB=true
 led:s.led.okB=true
 ps:checkB s.ps=true
 calls:chB callOk callLt s.calls=true
 known:knownP s.roll s.book.qs s.book.ts s.ps s.calls
 bl:s.bids.length<=32
 bids:∀ b∈s.bids,bidOk b=true
 seats:chB seatOk seatLt s.seats=true
theorem right_iff {s:StateV}:rightS s=true ↔ s.right:=by
 simp only [rightS,clockB,knownB,posK,trdK,plgK,callK,openB,within,bae,Bool.or_eq_true,Bool.not_eq_true',decide_eq_true_eq,decide_eq_false_iff_not,beq_iff_eq,beq_eq_false_iff_ne,List.all_eq_true,ne_eq];constructor
 ·rintro ⟨h0,h1,h2,h3,h4,h5,⟨k1,k2,k3,k4⟩,h7,h8,h9⟩
  exact ⟨by omega,h1,h2,h3,h4,h5,⟨k1,k2,k3,k4⟩,by omega,h8,h9⟩
 ·intro h;have:=h.bl;have:=h.clk;exact ⟨by omega,h.roll,h.book,h.led,h.ps,h.calls,⟨h.known.qs,h.known.ts,h.known.ps,h.known.cs⟩,by omega,h.bids,h.seats⟩
theorem knownP.ext {r r':RollV} {qs ts ps cs} (h:knownP r qs ts ps cs) (e:r.ext r'):knownP r' qs ts ps cs:=by
 have ho:∀ w,(stOf r w=1\/stOf r w=2)->stOf r' w=1\/stOf r' w=2:=fun w hw=>by
  rw [e.st w (by omega)];exact hw
 refine ⟨fun p hp=>⟨ho _ (h.qs p hp).1,e.inst _ (h.qs p hp).2⟩,fun t ht=>?_,fun p hp=>⟨ho _ (h.ps p hp).1,e.ast _ (h.ps p hp).2⟩,fun c hc=>?_⟩
 ·have:=h.ts t ht;rw [e.st _ this.1,e.st _ this.2.1];exact ⟨this.1,this.2.1,e.inst _ this.2.2⟩
 ·have:=h.cs c hc;rw [e.st _ (by omega)];exact this
theorem right_roll {s:StateV} (h:s.right) {r':RollV} (h1:r'.okB=true/\s.roll.ext r'):({ s with roll:=r' }:StateV).right:=
 ⟨h.clk,h1.1,h.book,h.led,h.ps,h.calls,h.known.ext h1.2,h.bl,h.bids,h.seats⟩
theorem right_led {s:StateV} (h:s.right) {l:LedV} (h1:l.okB=true):({ s with led:=l }:StateV).right:=
 ⟨h.clk,h.roll,h.book,h1,h.ps,h.calls,h.known,h.bl,h.bids,h.seats⟩
theorem right_calls {s:StateV} (h:s.right) {cs:List CallV} (h1:chB callOk callLt cs=true) (h2:∀ c∈cs,stOf s.roll c.who=1):({ s with calls:=cs }:StateV).right:=
 ⟨h.clk,h.roll,h.book,h.led,h.ps,h1,⟨h.known.qs,h.known.ts,h.known.ps,h2⟩,h.bl,h.bids,h.seats⟩
theorem right_p25 {s:StateV} (h:s.right) (g:List LegV):(p25S s g).right:=by
 unfold p25S;split
 ·rename_i he;exact right_led h (postL_ok he)
 ·exact h
theorem right_meet {s:StateV} (h:s.right) (d:DueV):({ s with calls:=meetL s.calls d }:StateV).right:=by
 obtain ⟨h1,h2⟩:=meetL_ok (d:=d) h.calls;refine right_calls h h1 fun c hc=>?_
 obtain ⟨x,hx,he⟩:=h2 c hc;rw [he];exact h.known.cs x hx
theorem pay_right {s:StateV} (h:s.right) (c:CmdV):(payR s c).1.right:=by
 unfold payR;split
 case isFalse=>exact h
 split
 case isFalse=>exact h
 split
 ·exact right_p25 h _
 split
 ·split
  ·exact right_meet (right_p25 h _) _
  ·exact right_p25 h _
 ·exact right_p25 h _
theorem act_ok {r:RollV} {w:Int} (h:actE r w=0):stOf r w=1:=by
 unfold actE at h;split at h
 ·split at h
  ·assumption
  ·cases h
 ·cases h
theorem pledge_right {s:StateV} (h:s.right) (c:CmdV) (n:Int):(pledR s c n).1.right:=by
 unfold pledR;split
 case isFalse=>exact h
 split
 case isFalse=>exact h
 rename_i hm;rw [bae] at hm;split
 case isFalse=>exact h
 rename_i hs;split
 case isFalse=>exact h
 rename_i he;have hg:=changeL_fine he
 have key:({ s with ps:=changeL s.ps c.who c.no n }:StateV).right:=by
  refine ⟨h.clk,h.roll,h.book,h.led,check_good.2 hg,h.calls,⟨h.known.qs,h.known.ts,fun p hp=>?_,h.known.cs⟩,h.bl,h.bids,h.seats⟩;dsimp only at hp |-;unfold changeL at hp;rw [if_pos he] at hp;rcases chg_key hp with hp | ⟨rfl,_⟩
  ·exact h.known.ps p hp
  ·exact ⟨.inl hs,hm.2⟩
 split
 ·exact key
 split
 ·exact right_meet key _
 ·exact key
theorem legsL_mem {t:TradeV} {b:Bool} {p:PosV} (h:p∈legsL t b):(p.who=t.buyer\/p.who=t.seller)/\p.inst=t.inst:=by
 unfold legsL at h;split at h
 ·simp only [List.mem_cons,List.not_mem_nil,or_false] at h;rcases h with rfl | rfl<;>simp
 ·cases h
theorem known_adW {r:RollV} {b:BookV} {g:List PosV} {ts ps cs} (h:knownP r b.qs ts ps cs) (hg:∀ p∈g,(stOf r p.who=1\/stOf r p.who=2)/\instIs r p.inst=true):knownP r (adW b g 16) ts ps cs:=by
 refine ⟨fun p hp=>?_,h.ts,h.ps,h.cs⟩;rcases adW_key hp with ⟨q,hq,e1,e2⟩ | ⟨q,hq,e1,e2⟩
 ·rw [<- e1,<- e2];exact h.qs q hq
 ·rw [<- e1,<- e2];exact hg q hq
theorem right_book {s:StateV} (h:s.right) {b:BookV} (h1:b.okB=true) (h2:knownP s.roll b.qs b.ts s.ps s.calls):({ s with book:=b }:StateV).right:=
 ⟨h.clk,h.roll,h1,h.led,h.ps,h.calls,h2,h.bl,h.bids,h.seats⟩
theorem tradeE_ok {r:RollV} {t:TradeV} (h:tradeE r t=0):stOf r t.buyer=1/\stOf r t.seller=1/\instIs r t.inst=true:=by
 unfold tradeE at h;split at h
 case isFalse=>cases h
 split at h
 case isFalse=>cases h
 split at h
 case isFalse=>cases h
 rename_i h1;split at h
 ·cases h
 split at h
 case isFalse=>cases h
 rename_i h2;simp only [bae,beq_iff_eq] at h1 h2;exact ⟨h2.1,h2.2,h1.1⟩
theorem enter_known {s:StateV} {b:BookV} {t:TradeV} {ps cs} (he:enterE b t=0) (hk:knownP s.roll b.qs b.ts ps cs) (h1:stOf s.roll t.buyer=1) (h2:stOf s.roll t.seller=1) (h3:instIs s.roll t.inst=true):knownP s.roll (enterB b t).qs (enterB b t).ts ps cs:=by
 unfold enterB;rw [if_pos he]
 have hq:=known_adW (g:=legsL t false) hk fun p hp=>by
  have:=legsL_mem hp;rw [this.2];exact ⟨by rcases this.1 with e | e<;>rw [e]<;>simp [h1,h2],h3⟩
 refine ⟨hq.qs,fun x hx=>?_,hk.ps,hk.cs⟩;rcases List.mem_append.1 hx with hx | hx
 ·exact hk.ts x hx
 ·obtain rfl:=List.mem_singleton.1 hx;exact ⟨by dsimp only;omega,by dsimp only;omega,h3⟩
theorem cancel_known {s:StateV} {b:BookV} {n:Int} {ps cs} (he:cancelE b n=0) (hk:knownP s.roll b.qs b.ts ps cs) (h1:stOf s.roll (tradeAt n b.ts).buyer=1) (h2:stOf s.roll (tradeAt n b.ts).seller=1):knownP s.roll (cancelB b n).qs (cancelB b n).ts ps cs:=by
 have hm:=(findL_at (cancelE_ok he).2.1).1;have h3:=(hk.ts _ hm).2.2;unfold cancelB;rw [if_pos he]
 have hq:=known_adW (g:=legsL (tradeAt n b.ts) true) hk fun p hp=>by
  have:=legsL_mem hp;rw [this.2];exact ⟨by rcases this.1 with e | e<;>rw [e]<;>simp [h1,h2],h3⟩
 refine ⟨hq.qs,fun x hx=>?_,hk.ps,hk.cs⟩;rcases List.mem_or_eq_of_mem_set hx with hx | rfl
 ·exact hk.ts x hx
 ·have:=hk.ts _ hm;exact ⟨this.1,this.2.1,this.2.2⟩
theorem trade_right {s:StateV} (h:s.right) (c:CmdV) (he:(trdR s c).2.2=0):(trdR s c).1.right:=by
 unfold trdR at he |-;split
 ·rename_i hk;rw [if_pos hk] at he;split
  ·rename_i ht;rw [if_pos ht] at he;obtain ⟨t1,t2,t3⟩:=tradeE_ok ht;exact right_book h (enterB_ok he) (enter_known (s:=s) he h.known t1 t2 t3)
  ·exact h
 rename_i hk;rw [if_neg hk] at he;split
 ·rename_i hk;rw [if_pos hk] at he;exact right_roll h (tell_ok he)
 rename_i hk;rw [if_neg hk] at he;split
 ·exact h
 rename_i hf;rw [if_neg hf] at he;split
 case isFalse=>exact h
 rename_i ha;rw [if_pos ha] at he;have a1:=act_ok ha.1;have a2:=act_ok ha.2;split
 ·rename_i hk;rw [if_pos hk] at he;exact right_book h (cancelB_ok he) (cancel_known (s:=s) he h.known a1 a2)
 ·rename_i hk;rw [if_neg hk] at he;obtain ⟨e1,e2⟩:=correctE_ok he;have k1:=cancel_known (s:=s) e1 h.known a1 a2;have h3:=(h.known.ts _ (findL_at hf).1).2.2;refine right_book h (correctB_ok he) ?_;unfold correctB;rw [if_pos e1];exact enter_known (s:=s) e2 k1 a1 a2 h3
theorem bid_right {s:StateV} (h:s.right) (c:CmdV):(bidR s c).1.right:=by
 unfold bidR;split
 case isFalse=>exact h
 rename_i hw;split
 case isFalse=>exact h
 rename_i hm;split
 ·exact h
 split
 case isFalse=>exact h
 rename_i hs;split
 ·exact h
 rename_i hl;simp only [bae] at hm hw;have r1:=st_rng h.roll (w:=c.who) (by unfold stOf;omega);have r2:=st_rng h.roll (w:=c.other) (by unfold stOf;omega);have r3:=instOf_mem hm.2.2;have r4:=inst_ok ((roll_iff.1 h.roll).2.1.1 _ r3.1);rw [r3.2] at r4;refine ⟨h.clk,h.roll,h.book,h.led,h.ps,h.calls,h.known,by dsimp only;simp;omega,fun b hb=>?_,h.seats⟩;rcases List.mem_append.1 hb with hb | hb
 ·exact h.bids b hb
 ·obtain rfl:=List.mem_singleton.1 hb;simp only [bidOk,keyB,hw.1,hw.2,within,bae,decide_eq_true_eq];simp only [within,bae,decide_eq_true_eq] at hw;omega
theorem sumL_set:∀ {ps:List Int} {j:Nat},j < ps.length->sumL (ps.set j (ps.getD j 0+1))=sumL ps+1
 | [],j,h=>by simp at h
 | x :: r,0,_=>by simp [sumL];omega
 | x :: r,j+1,h=>by
  have:=sumL_set (ps:=r) (j:=j) (by simpa using h);simp only [List.set_cons_succ,List.getD_cons_succ,sumL,this];omega
theorem giveG_sum (rs:List Int):∀ (n:Nat) (gs:List Bool) (ps:List Int),gs.length=rs.length->ps.length=rs.length->gs.count true+n<=gs.length->sumL (giveG rs n gs ps)=sumL ps+n
 | 0,_,_,_,_,_=>by simp [giveG]
 | n+1,gs,ps,h1,h2,h3=>by
  have hex:=free_ex (gs:=gs) (by omega);rw [h1] at hex;have hp:=bst_pos rs gs rs.length hex;have hr:=bst_range rs gs rs.length;have hf:=bst_free rs gs rs.length hp;simp only [giveG];rw [giveG_sum rs n _ _ (by simp [h1]) (by simp [h2]) (by rw [count_set hf,List.length_set];omega),sumL_set (by omega)];omega
theorem giveG_nonneg (rs:List Int):∀ (n:Nat) (gs:List Bool) (ps:List Int),(∀ x∈ps,0<=x)->∀ x∈giveG rs n gs ps,0<=x
 | 0,_,_,h=>h
 | n+1,gs,ps,h=>by
  simp only [giveG];refine giveG_nonneg rs n _ _ fun x hx=>?_
  rcases List.mem_or_eq_of_mem_set hx with hx | rfl
  ·exact h x hx
  ·have:0<=ps.getD (bstG rs gs rs.length).toNat 0:=by
    rw [List.getD_eq_getElem?_getD];cases he:ps[(bstG rs gs rs.length).toNat]? with
    | none=>simp
    | some y=>exact h y (List.mem_of_getElem? he)
   omega
theorem splitE_ok {t:Int} {ws:List Int} (h:splitE t ws=0):0<=t/\(∀ x∈ws,0<=x):=by
 unfold splitE at h;split at h
 case isFalse=>cases h
 rename_i h1;split at h
 case isFalse=>cases h
 rename_i h2;simp only [bae,Bool.not_eq_true',decide_eq_false_iff_not] at h1;refine ⟨by omega,fun x hx=>?_⟩;have:=List.all_eq_true.1 h2 x hx;simp only [Bool.not_eq_true',decide_eq_false_iff_not] at this;omega
theorem splitL_sum {t:Int} {ws:List Int} (h:splitE t ws=0) (hs:sumL ws≠0):sumL (splitL t ws)=t/\(∀ x∈splitL t ws,0<=x):=by
 obtain ⟨h1,h2⟩:=splitE_ok h;have hn:=sum_nonneg h2;have hl:=left_range h1 rfl (show 1<=sumL ws by omega) h2;unfold splitL;rw [if_pos h,if_neg hs];have hpl:(prt t (sumL ws) ws).length=(rst t (sumL ws) ws).length:=by simp [prt,rst]
 have hrl:(rst t (sumL ws) ws).length=ws.length:=by simp [rst]
 refine ⟨?_,giveG_nonneg _ _ _ _ fun x hx=>?_⟩
 ·rw [giveG_sum _ _ _ _ (by simp [hrl]) hpl (by simp [List.count_replicate];omega)];omega
 ·obtain ⟨w,hw,rfl⟩:=List.mem_map.1 hx;exact (part_range h1 (by omega) (h2 w hw) (sum_mem h2 w hw)).1
def fqty (f:List FillV):Int:=sumL (f.map FillV.qty)
theorem fillG_sum:∀ (l:List BidV) (k:Int),fqty (fillG k l).1+(fillG k l).2=k
 | [],k=>by simp [fillG,fqty,sumL]
 | b :: r,k=>by
  simp only [fillG];split
  ·have:=fillG_sum r (k-min k b.qty);simp only [fqty,List.map_cons,sumL] at this |-;omega
  ·simp [fqty,sumL]
theorem fillG_src:∀ (l:List BidV) (k:Int) {f:FillV},f∈(fillG k l).1->∃ b∈l,f.src=b.src
 | [],k,f,h=>by simp [fillG] at h
 | b :: r,k,f,h=>by
  simp only [fillG] at h;split at h
  ·rcases List.mem_cons.1 h with rfl | h
   ·exact ⟨b,by simp,rfl⟩
   ·obtain ⟨x,hx,e⟩:=fillG_src r _ h;exact ⟨x,by simp [hx],e⟩
  ·cases h
theorem ordG_mem (long:Bool) {y:BidV}:∀ (l out:List BidV),y∈ordG long out l->y∈out\/y∈l
 | [],out,h=>.inl h
 | x :: r,out,h=>by
  simp only [ordG] at h;rcases ordG_mem long r _ h with h | h
  ·unfold insB at h;rcases List.mem_append.1 h with h | h
   ·exact .inl (List.mem_of_mem_take h)
   ·rcases List.mem_cons.1 h with rfl | h
    ·exact .inr (by simp)
    ·exact .inl (List.mem_of_mem_drop h)
  ·exact .inr (by simp [h])
theorem fillR_ok {q:Int} {l:List BidV} (h:fillE q l=0):fqty (fillR q l).1+(fillR q l).2=max q (-q)/\∀ f∈(fillR q l).1,∃ b∈l,f.src=b.src:=by
 unfold fillR;rw [if_pos h];refine ⟨fillG_sum _ _,fun f hf=>?_⟩;obtain ⟨b,hb,e⟩:=fillG_src _ _ hf;rcases ordG_mem _ _ _ hb with hb | hb
 ·cases hb
 ·exact ⟨b,hb,e⟩
theorem fl_qty {w n m:Int} {long:Bool}:∀ {f:List FillV},(∀ x∈f,x.src≠w)->sumL (pick (posIs w m) PosV.qty (f.flatMap (fleg w n long)))=if m=n then -sgn long (fqty f) else 0
 | [],_=>by simp [pick,sumL,fqty,sgn]
 | x :: r,h=>by
  have ih:=fl_qty (w:=w) (n:=n) (m:=m) (long:=long) (f:=r) fun y hy=>h y (by simp [hy])
  have hx:=h x (by simp);rw [List.flatMap_cons,show fleg w n long x=[⟨x.src,n,sgn long x.qty,sgn long (x.qty*x.price)⟩,⟨w,n,-sgn long x.qty,-sgn long (x.qty*x.price)⟩] from rfl];rw [List.cons_append,List.cons_append,List.nil_append,pick_cons,pick_cons,ih];rw [if_neg (fun h=>hx (posIs_iff.1 h).1)]
  by_cases hm:m=n
  ·rw [if_pos (show posIs w m ⟨w,n,-sgn long x.qty,-sgn long (x.qty*x.price)⟩=true from posIs_iff.2 ⟨rfl,hm.symm⟩),if_pos hm,if_pos hm];simp only [fqty,List.map_cons,sumL,sgn];split<;>omega
  ·rw [if_neg (fun h=>hm (posIs_iff.1 h).2.symm),if_neg hm,if_neg hm];rfl
theorem posOf_adW {b:BookV} {g:List PosV} {w n:Int} (hw:1<=w/\w<=16) (hn:1<=n/\n<=8):(posOf w n (adW b g 16)).qty=adQ b g w n:=by
 by_cases h:adQ b g w n=0/\adC b g w n=0
 ·rw [posOf_none,h.1];intro p hp hk;obtain ⟨k,m,_,_,hp⟩:=adW_mem hp;obtain ⟨rfl,hne⟩:=adP_mem hp;dsimp only at hk;rw [hk.1,hk.2] at hne;exact hne h
 ·have hm:(⟨w,n,adQ b g w n,adC b g w n⟩:PosV)∈adW b g 16:=by
   refine List.mem_flatMap.2 ⟨(w-1).toNat,List.mem_range.2 (by omega),List.mem_flatMap.2 ⟨(n-1).toNat,List.mem_range.2 (by omega),?_⟩⟩;rw [show (((w-1).toNat:Nat):Int)+1=w by omega,show (((n-1).toNat:Nat):Int)+1=n by omega];unfold adP;rw [if_neg (by simp only [bae,beq_iff_eq];exact h)];simp
  rw [posOf_eq (adW_pw b g) hm ⟨rfl,rfl⟩]
structure midB (r:RollV) (w:Int) (b:BookV) (ts:List TradeV) (ps:List Plg) (cs:List CallV):Prop where
 ok:b.okB=true
 known:knownP r b.qs ts ps cs
 ts:b.ts=ts
theorem sellA_ok {r:RollV} {w n:Int} {b:BookV} {ts ps cs} {long:Bool} {f:List FillV} (hw:1<=w/\w<=16) (hn:1<=n/\n<=8) (hb:midB r w b ts ps cs) (hs:stOf r w=2) (hi:instIs r n=true) (hf:∀ x∈f,x.src≠w/\(stOf r x.src=1\/stOf r x.src=2)) (h:(sellA b w n long f).2=0) :
  midB r w (sellA b w n long f).1 ts ps cs/\(posOf w n (sellA b w n long f).1.qs).qty=(posOf w n b.qs).qty-sgn long (fqty f)/\∀ m,1<=m/\m<=8->m≠n->(posOf w m (sellA b w n long f).1.qs).qty=(posOf w m b.qs).qty:=by
 unfold sellA at h |-;split
 case isFalse hne=>rw [if_neg hne] at h;exact absurd h hne
 rename_i he;rw [if_pos he] at h;dsimp only at h |-;have hl:flegL w n long f=f.flatMap (fleg w n long):=by unfold flegL;rw [if_pos he]
 have hq:=fun m=>fl_qty (w:=w) (n:=n) (m:=m) (long:=long) (f:=f) fun x hx=>(hf x hx).1
 have hadq:∀ m,adQ b (flegL w n long f) w m=(posOf w m b.qs).qty+if m=n then -sgn long (fqty f) else 0:=fun m=>by
  unfold adQ;rw [sumL,hl,hq]
 refine ⟨⟨addB_ok h,?_,?_⟩,?_,fun m hm hne=>?_⟩
 ·rw [(addE_ok h).2];refine known_adW hb.known fun p hp=>?_
  rw [hl] at hp;obtain ⟨x,hx,hp⟩:=List.mem_flatMap.1 hp;have hxs:=hf x hx;unfold fleg at hp;simp only [List.mem_cons,List.not_mem_nil,or_false] at hp;rcases hp with rfl | rfl
  ·exact ⟨hxs.2,hi⟩
  ·exact ⟨.inr hs,hi⟩
 ·rw [(addE_ok h).2];exact hb.ts
 ·rw [(addE_ok h).2]
  show (posOf w n (adW b _ 16)).qty=_
  rw [posOf_adW hw hn,hadq,if_pos rfl];omega
 ·rw [(addE_ok h).2]
  show (posOf w m (adW b _ 16)).qty=_
  rw [posOf_adW hw hm,hadq,if_neg hne];omega
theorem tear_sum {ws ps:List Int} (h:∀ x∈ps,0<=x):∀ k,k<=ps.length->fqty (frm (tearP ws ps) k)=sumL (ps.take k)
 | 0,_=>rfl
 | k+1,hk=>by
  have ih:=tear_sum (ws:=ws) h k (by omega);have hk':k < ps.length:=by omega
  rw [frm_step,List.take_succ_eq_append_getElem hk',sumL_append];unfold fqty at ih |-;rw [List.map_append,sumL_append,ih];congr 1;have hg:ps.getD k 0=ps[k]:=by rw [List.getD_eq_getElem?_getD,List.getElem?_eq_getElem hk'];rfl
  have h0:=h ps[k] (List.getElem_mem hk');unfold tearP;rw [hg];split
  ·rfl
  ·have:ps[k]=0:=by omega
   rw [this];rfl
theorem tear_src {ws ps:List Int} (hl:ps.length<=ws.length) {f:FillV} (h:f∈tearG ws ps):f.src∈ws:=by
 obtain ⟨i,hi,h⟩:=mem_frm.1 h;unfold tearP at h;split at h
 ·obtain rfl:=List.mem_singleton.1 h;dsimp only;rw [List.getD_eq_getElem?_getD,List.getElem?_eq_getElem (by omega)];exact List.getElem_mem _
 ·cases h
theorem tearE_ok {b:BookV} {w n k:Int} (h:tearE b w n k=0):b.okB=true/\(0<=k/\k<=1099511627776)/\k<=sumL (othN (posOf w n b.qs).qty n b.qs):=by
 unfold tearE at h;split at h
 case isFalse=>cases h
 rename_i h1;split at h
 case isFalse=>cases h
 rename_i h2;split at h
 ·cases h
 rename_i h3;simp only [within,bae,decide_eq_true_eq] at h2;exact ⟨h1,h2,by omega⟩
theorem othB_iff {q n:Int} {p:PosV}:othB q n p=true ↔ p.inst=n/\((0 < q/\p.qty < 0)\/(q < 0/\0 < p.qty)):=by
 simp only [othB,bae,Bool.or_eq_true,beq_iff_eq,decide_eq_true_eq]
theorem pick_mem {A:Type} {q:A->Bool} {f:A->Int} {xs:List A} {v:Int} (h:v∈pick q f xs):∃ x∈xs,q x=true/\v=f x:=by
 obtain ⟨x,hx,h⟩:=List.mem_flatMap.1 h;split at h
 ·rename_i hq;exact ⟨x,hx,hq,List.mem_singleton.1 h⟩
 ·cases h
theorem book_short {b:BookV} (h:b.okB=true):b.qs.length<=128:=by
 have hb:=book_iff.1 h
 have h1:(b.qs.map fun p=>p.who*8+p.inst).Pairwise (fun a c=>a < c):=by
  rw [List.pairwise_map];refine (List.Pairwise.imp_of_mem (fun {p q} hp hq hpq=>?_) hb.pw);have k1:=pos_ok.1 (hb.ok p hp);have k2:=pos_ok.1 (hb.ok q hq);simp only [posLt,keyL,Bool.or_eq_true,bae,decide_eq_true_eq,beq_iff_eq] at hpq;omega
 have key:∀ (l:List Int) (lo hi:Int),l.Pairwise (fun a c=>a < c)->(∀ x∈l,lo<=x/\x < hi)->lo<=hi->(l.length:Int)<=hi-lo:=by
  intro l
  induction l with
  | nil=>intro lo hi _ _ h;simp;omega
  | cons x r ih =>
   intro lo hi hp hx hlh;rw [List.pairwise_cons] at hp;have hx0:=hx x (by simp);have:=ih (x+1) hi hp.2 (fun y hy=>by have:=hp.1 y hy;have:=hx y (by simp [hy]);omega) (by omega);simp only [List.length_cons];omega
 have:=key _ 9 137 h1 (fun x hx=>by
  obtain ⟨p,hp,rfl⟩:=List.mem_map.1 hx;have:=pos_ok.1 (hb.ok p hp)
  omega) (by omega)
 simp only [lml] at this;omega
theorem sellT_ok {r:RollV} {w n p rest:Int} {b:BookV} {ts ps cs} {long:Bool} (hw:1<=w/\w<=16) (hn:1<=n/\n<=8) (hb:midB r w b ts ps cs) (hs:stOf r w=2) (hi:instIs r n=true) (hq:(posOf w n b.qs).qty=sgn long rest) (hr:rest≠0) (h:(sellT b w n p long rest).2=0) :
  midB r w (sellT b w n p long rest).1 ts ps cs/\(posOf w n (sellT b w n p long rest).1.qs).qty=0/\∀ m,1<=m/\m<=8->m≠n->(posOf w m (sellT b w n p long rest).1.qs).qty=(posOf w m b.qs).qty:=by
 unfold sellT at h |-;split
 case isFalse hne=>rw [if_neg hne] at h;exact absurd h hne
 rename_i he;rw [if_pos he] at h;obtain ⟨t1,t2,t3⟩:=tearE_ok he;have hbr:=book_iff.1 t1;obtain ⟨ws,hws⟩:∃ l,l=othW (posOf w n b.qs).qty n b.qs:=⟨_,rfl⟩
 obtain ⟨ns,hns⟩:∃ l,l=othN (posOf w n b.qs).qty n b.qs:=⟨_,rfl⟩
 have hlen:ns.length=ws.length:=by rw [hws,hns];exact pick_same _ _ _ _
 have hnsr:∀ x∈ns,0 < x/\x<=1099511627776:=fun x hx=>by
  rw [hns] at hx;obtain ⟨y,hy,hyo,rfl⟩:=pick_mem hx;have h1:=othB_iff.1 hyo;have h2:=pos_ok.1 (hbr.ok y hy);omega
 rw [<- hns] at t3
 have hnl:ns.length<=128:=by
  rw [hns];exact Nat.le_trans (pick_len _ _ _) (book_short t1)
 have hsp:splitE rest ns=0:=by
  unfold splitE;rw [if_pos,if_pos,if_neg (by omega),if_neg (by omega)]
  ·exact List.all_eq_true.2 fun x hx=>by have:=hnsr x hx;simp only [Bool.not_eq_true',decide_eq_false_iff_not];omega
  ·simp only [bae,Bool.not_eq_true',decide_eq_false_iff_not];refine ⟨⟨by omega,by rw [inR_iff];omega⟩,List.all_eq_true.2 fun x hx=>by have:=hnsr x hx;rw [inR_iff];omega⟩
 obtain ⟨s1,s2⟩:=splitL_sum hsp (by omega);have hsl:=splitL_len rest ns;have hL:tearL b w n rest=tearG ws (splitL rest ns):=by unfold tearL;rw [if_pos he,<- hws,<- hns]
 have hfq:fqty ((tearL b w n rest).map (atPrice p))=rest:=by
  have:fqty ((tearL b w n rest).map (atPrice p))=fqty (tearL b w n rest):=by
   unfold fqty;rw [List.map_map];rfl
  rw [this,hL];have:=tear_sum (ws:=ws) s2 _ (Nat.le_refl _);rw [List.take_length,s1] at this;exact this
 obtain ⟨q1,q2,q3⟩:=sellA_ok (long:=long) (f:=(tearL b w n rest).map (atPrice p)) hw hn hb hs hi (fun x hx=>by
  obtain ⟨y,hy,rfl⟩:=List.mem_map.1 hx;rw [hL] at hy;have hy:=tear_src (by omega) hy;rw [hws] at hy;obtain ⟨z,hz,hzo,e⟩:=pick_mem hy
  show y.src≠w/\_
  rw [show (atPrice p y).src=y.src from rfl,e];refine ⟨fun hzw=>?_,(hb.known.qs z hz).1⟩;have h1:=othB_iff.1 hzo;rw [posOf_eq hbr.pw hz ⟨hzw,h1.1⟩] at h1
  omega) h
 refine ⟨q1,?_,q3⟩;rw [q2,hfq,hq];omega
theorem sellR_ok {s:StateV} {w n:Int} {b:BookV} (h:s.right) (hw:1<=w/\w<=16) (hn:1<=n/\n<=8) (hb:midB s.roll w b s.book.ts s.ps s.calls) (hs:stOf s.roll w=2) (hq:(posOf w n b.qs).qty≠0) (he:(sellR s b w n (posOf w n b.qs).qty).2=0) :
  midB s.roll w (sellR s b w n (posOf w n b.qs).qty).1 s.book.ts s.ps s.calls/\(posOf w n (sellR s b w n (posOf w n b.qs).qty).1.qs).qty=0/\∀ m,1<=m/\m<=8->m≠n->(posOf w m (sellR s b w n (posOf w n b.qs).qty).1.qs).qty=(posOf w m b.qs).qty:=by
 have hi:instIs s.roll n=true:=by
  by_cases hx:∃ p∈b.qs,p.who=w/\p.inst=n
  ·obtain ⟨p,hp,_,e⟩:=hx;rw [<- e];exact (hb.known.qs p hp).2
  ·rw [posOf_none fun p hp hk=>hx ⟨p,hp,hk⟩] at hq;exact absurd rfl hq
 obtain ⟨q,hqe⟩:=nmE ((posOf w n b.qs).qty);rw [<- hqe] at hq he |-;unfold sellR at he |-;split
 case isFalse hne=>rw [if_neg hne] at he;cases he
 rename_i hp;rw [if_pos hp] at he;split
 case isFalse hne=>rw [if_neg hne] at he;exact absurd he hne
 rename_i hf;rw [if_pos hf] at he;obtain ⟨f1,f2⟩:=fillR_ok hf;obtain ⟨F,hF⟩:=nmE (fillR q (bidsOf s w n s.bids));rw [<- hF] at f1 f2 he |-
 have hsg:∀ k:Int,sgn (decide (0 < q)) k=if 0 < q then k else -k:=fun k=>by
  unfold sgn
  by_cases h0:0 < q<;>simp [h0]
 have hsrc:∀ x∈F.1,x.src≠w/\(stOf s.roll x.src=1\/stOf s.roll x.src=2):=fun x hx=>by
  obtain ⟨y,hy,e⟩:=f2 x hx;obtain ⟨z,_,hy⟩:=List.mem_flatMap.1 hy;split at hy
  ·rename_i hz;obtain rfl:=List.mem_singleton.1 hy;simp only [bidHit,bae,beq_iff_eq] at hz;rw [e];refine ⟨fun h=>?_,.inl hz.2⟩;rw [h,hs] at hz;omega
  ·cases hy
 split
 ·rename_i hc;rw [if_pos hc] at he;obtain ⟨a1,a2,a3⟩:=sellA_ok (long:=decide (0 < q)) hw hn hb hs hi hsrc hc.1
  obtain ⟨b1,b2,b3⟩:=sellT_ok (p:=priceOf (instOf s.roll n)) (long:=decide (0 < q)) (rest:=F.2) hw hn a1 hs hi (by
   rw [a2,<- hqe,hsg,hsg]
   split<;>omega) hc.2 he
  exact ⟨b1,b2,fun m hm hne=>by rw [b3 m hm hne,a3 m hm hne]⟩
 ·rename_i hc;rw [if_neg hc] at he;obtain ⟨a1,a2,a3⟩:=sellA_ok (long:=decide (0 < q)) hw hn hb hs hi hsrc he
  have hz:F.2=0:=by
   by_cases hz:F.2=0
   ·exact hz
   ·exact absurd ⟨he,hz⟩ hc
  refine ⟨a1,?_,a3⟩;rw [a2,<- hqe,hsg];split<;>omega
theorem posStep_ok {s:StateV} {w n:Int} {b:BookV} (h:s.right) (hw:1<=w/\w<=16) (hn:1<=n/\n<=8) (hb:midB s.roll w b s.book.ts s.ps s.calls) (hs:stOf s.roll w=2) (he:(posStep s w b n).2=0) :
  midB s.roll w (posStep s w b n).1 s.book.ts s.ps s.calls/\(posOf w n (posStep s w b n).1.qs).qty=0/\∀ m,1<=m/\m<=8->m≠n->(posOf w m (posStep s w b n).1.qs).qty=(posOf w m b.qs).qty:=by
 unfold posStep at he |-;split
 ·rename_i hz;exact ⟨hb,by simpa using hz,fun _ _ _=>rfl⟩
 ·rename_i hz;rw [if_neg hz] at he;exact sellR_ok h hw hn hb hs (by simpa using hz) he
theorem posG_ok {s:StateV} {w:Int} (h:s.right) (hw:1<=w/\w<=16) (hs:stOf s.roll w=2):∀ (m i:Nat) {b:BookV},i+m=8->midB s.roll w b s.book.ts s.ps s.calls->(∀ k:Nat,k < i->(posOf w ((k:Int)+1) b.qs).qty=0)->(posG s w m i b).2=0 ->
  midB s.roll w (posG s w m i b).1 s.book.ts s.ps s.calls/\∀ k:Nat,k < 8->(posOf w ((k:Int)+1) (posG s w m i b).1.qs).qty=0
 | 0,i,b,hi,hb,hz,_=>⟨hb,fun k hk=>hz k (by omega)⟩
 | m+1,i,b,hi,hb,hz,he=>by
  simp only [posG] at he |-;split
  ·rename_i h0;rw [if_pos h0] at he;obtain ⟨a1,a2,a3⟩:=posStep_ok h hw (n:=(i:Int)+1) (by omega) hb hs h0;refine posG_ok h hw hs m (i+1) (by omega) a1 (fun k hk=>?_) he;rcases Nat.lt_or_ge k i with hki | hki
   ·rw [a3 _ (by omega) (by omega)];exact hz k hki
   ·obtain rfl:k=i:=by omega
    exact a2
  ·rename_i h0;rw [if_neg h0] at he;exact absurd he h0
theorem keepP_mem {w:Int} {l:List PosV} {p:PosV}:p∈keepP w l ↔ p∈l/\p.who≠w:=by
 unfold keepP;rw [List.mem_flatMap];constructor
 ·rintro ⟨x,hx,h⟩
  split at h
  ·cases h
  ·rename_i hn;obtain rfl:=List.mem_singleton.1 h;exact ⟨hx,by simpa using hn⟩
 ·rintro ⟨h1,h2⟩
  exact ⟨p,h1,by rw [if_neg (by simpa using h2)];simp⟩
theorem posnE_ok {s:StateV} {w:Int} (h:posnE s w=0):mayE s w=0/\(posG s w 8 0 s.book).2=0:=by
 unfold posnE at h;split at h
 case isFalse hne=>exact absurd h hne
 rename_i h1;split at h
 case isFalse hne=>exact absurd h hne
 rename_i h2;exact ⟨h1,h2⟩
theorem posnB_ok {s:StateV} {w:Int} (h:posnE s w=0):(posnB s w).okB=true/\knownP s.roll (posnB s w).qs (posnB s w).ts s.ps s.calls/\∀ p∈(posnB s w).qs,p.who≠w:=by
 obtain ⟨h1,h2⟩:=posnE_ok h;obtain ⟨hr,hs⟩:=mayE_ok h1;have hr:=right_iff.1 hr;have hw:=(st_rng hr.roll (w:=w) (by omega)).2;obtain ⟨a1,a2⟩:=posG_ok hr hw hs 8 0 rfl (b:=s.book) ⟨hr.book,hr.known,rfl⟩ (fun k hk=>by omega) h2;have hb:=book_iff.1 a1.ok;unfold posnB;rw [if_pos h];refine ⟨book_iff.2 ⟨fun p hp=>hb.ok p (keepP_mem.1 hp).1,sub_pw hb.pw,fun n hn1 hn8=>?_,hb.tok,hb.tpw,hb.tl,hb.n0,hb.n1⟩,⟨fun p hp=>a1.known.qs p (keepP_mem.1 hp).1,fun t ht=>?_,a1.known.ps,a1.known.cs⟩,fun p hp=>(keepP_mem.1 hp).2⟩
 ·dsimp only;rw [<- hb.level n hn1 hn8]
  have key:∀ l:List PosV,(∀ p∈l,p.who=w->p.qty=0)->sumL (qtysL n (keepP w l))=sumL (qtysL n l):=fun l=>by
   induction l with
   | nil=>intro _;rfl
   | cons p t ih =>
    intro hl;rw [qtysL_cons,<- ih fun q hq=>hl q (by simp [hq])];unfold keepP;rw [List.flatMap_cons,qtysL_app,sumL_append];congr 1;split
    ·rename_i hpw;rw [hl p (by simp) (by simpa using hpw)];split<;>rfl
    ·rw [qtysL_cons];simp [qtysL,sumL]
  refine key _ fun p hp hpw=>?_
  have hpi:=(pos_ok.1 (hb.ok p hp)).2.1;have:=a2 (p.inst-1).toNat (by omega);rw [show (((p.inst-1).toNat:Nat):Int)+1=p.inst by omega,posOf_eq hb.pw hp ⟨hpw,rfl⟩] at this;exact this
 ·dsimp only at ht;rw [a1.ts] at ht;exact a1.known.ts t ht
theorem refP_right {s:StateV} (h:s.right) (c:Int):(refP s c).1.right:=by
 unfold refP;split
 ·exact right_p25 h _
 ·exact h
theorem refG_right:∀ (m c:Nat) {s:StateV} (ds:List DueV),s.right->(refG m c s ds).1.right
 | 0,_,_,_,h=>h
 | m+1,c,s,ds,h=>by
  simp only [refG];split
  ·exact refG_right m _ _ (refP_right h _)
  ·exact refP_right h _
theorem settle_right {s:StateV} (he:settleE s=0):(settleS s).right:=by
 unfold settleS;rw [if_pos he];unfold settleE at he;split at he
 case isFalse=>cases he
 rename_i h1;split at he
 case isFalse=>cases he
 split at he
 case isFalse hne=>exact absurd he hne
 rename_i h3;split at he
 case isFalse hne=>exact absurd he hne
 have hr:=right_iff.1 h1;obtain ⟨t1,t2⟩:=turnR_ok hr.roll;have k:=hr.known.ext t2;have e:runB s.roll s.book=⟨s.book.next,s.book.ts,s.book.qs.flatMap (runQ1 s.roll)⟩:=by unfold runB;rw [if_pos h3]
 refine ⟨⟨hr.clk.1,hr.clk.2.1,by dsimp only;decide,by dsimp only;decide⟩,t1,runB_ok h3,postIf_ok hr.led he,hr.ps,hr.calls,⟨fun p hp=>?_,fun t ht=>?_,k.ps,k.cs⟩,hr.bl,hr.bids,hr.seats⟩
 ·dsimp only at hp |-;rw [e] at hp;obtain ⟨q,hq,hp⟩:=List.mem_flatMap.1 hp;rw [(runQ1_mem hp).1];exact k.qs q hq
 ·dsimp only at ht |-;rw [e] at ht;exact k.ts t ht
theorem those_st {r:RollV} (h:r.okB=true) {w:Int} (hm:w∈thoseL r [1]):stOf r w=1:=by
 obtain ⟨m,hmm,hq,rfl⟩:=pick_mem hm;have e:memOf r m.no=m:=getL_eq (roll_iff.1 h).1.2 hmm rfl;unfold stOf;rw [e];simp only [inK,List.any_cons,List.any_nil,Bool.or_false,beq_iff_eq] at hq;exact hq.symm
theorem marIn_ok {s:StateV} {w:Int} (h:stOf s.roll w=1):∀ (m c:Nat) (x:List CallV × List DueV),(chB callOk callLt x.1=true/\∀ y∈x.1,stOf s.roll y.who=1)->chB callOk callLt (marIn s w m c x).1.1=true/\∀ y∈(marIn s w m c x).1.1,stOf s.roll y.who=1
 | 0,_,_,hx=>hx
 | m+1,c,x,hx=>by
  simp only [marIn];split
  ·obtain ⟨a1,a2⟩:=askL_ok (d:=⟨w,c,shN s w c⟩) (t:=marAt s) hx.1;refine marIn_ok h m _ _ ⟨a1,fun y hy=>?_⟩;rcases a2 y hy with e | hy
   ·rw [e];exact h
   ·exact hx.2 y hy
  ·exact hx
theorem marOut_ok {s:StateV}:∀ (ws:List Int) (x:List CallV × List DueV),(∀ w∈ws,stOf s.roll w=1)->(chB callOk callLt x.1=true/\∀ y∈x.1,stOf s.roll y.who=1)->chB callOk callLt (marOut s ws x).1.1=true/\∀ y∈(marOut s ws x).1.1,stOf s.roll y.who=1
 | [],_,_,hx=>hx
 | w :: r,x,hw,hx=>by
  simp only [marOut];split
  ·exact marOut_ok r _ (fun v hv=>hw v (by simp [hv])) (marIn_ok (hw w (by simp)) 3 0 x hx)
  ·exact marIn_ok (hw w (by simp)) 3 0 x hx
theorem margin_right {s:StateV} (he:marginE s=0):(marginS s).right:=by
 unfold marginS;rw [if_pos he];unfold marginE at he;split at he
 case isFalse=>cases he
 rename_i h1;have hr:=right_iff.1 h1;obtain ⟨a1,a2⟩:=marOut_ok (s:=s) (thoseL s.roll [1]) (s.calls,[]) (fun w hw=>those_st hr.roll hw) ⟨hr.calls,hr.known.cs⟩;exact ⟨⟨hr.clk.1,hr.clk.2.1,by dsimp only;decide,by dsimp only;decide⟩,hr.roll,hr.book,hr.led,hr.ps,a1,⟨hr.known.qs,hr.known.ts,hr.known.ps,a2⟩,hr.bl,hr.bids,hr.seats⟩
theorem open_right {s:StateV} (he:openE s=0):(openS s).right:=by
 unfold openS;rw [if_pos he];unfold openE at he;split at he
 case isFalse=>cases he
 rename_i h1;split at he
 case isFalse=>cases he
 split at he
 ·cases he
 have hr:=right_iff.1 h1;have hb:=book_iff.1 hr.book;have hc:=hr.clk;exact ⟨⟨hc.1,by dsimp only;omega,by dsimp only;decide,by dsimp only;decide⟩,hr.roll,book_iff.2 ⟨hb.ok,hb.pw,hb.level,fun t ht=>(by cases ht),List.Pairwise.nil,Nat.zero_le _,hb.n0,hb.n1⟩,hr.led,hr.ps,hr.calls,⟨hr.known.qs,fun t ht=>(by cases ht),hr.known.ps,hr.known.cs⟩,hr.bl,hr.bids,hr.seats⟩
theorem putE_zero {r:RollV} {w p:Int} (h:r.okB=true) (hs:stOf r w≠0) (hp:1<=p/\p<=3):putE r w p=0:=by
 unfold putE;rw [if_pos h,if_pos ((st_iff h).1 hs),if_pos (by simp only [within,bae,decide_eq_true_eq];omega)]
theorem inK_one {w v:Int}:inK [w] v=decide (v=w):=by
 simp only [inK,List.any_cons,List.any_nil,Bool.or_false];rw [Bool.eq_iff_iff];simp only [beq_iff_eq,decide_eq_true_eq];exact eq_comm
theorem put_inst {r:RollV} {w p:Int} (h:putE r w p=0) (n:Int):instIs (putR r w p) n=instIs r n/\astIs (putR r w p) n=astIs r n:=by
 obtain ⟨_,_,h3,h4⟩:=put_ok h;unfold instIs astIs;rw [h3,h4];exact ⟨rfl,rfl⟩
theorem put_known2 {r:RollV} {qs ts ps cs} {w:Int} (hr:r.okB=true) (hs:stOf r w≠0) (k:knownP r qs ts ps cs):(putR r w 2).okB=true/\knownP (putR r w 2) qs ts ps (withoutL cs [w])/\∀ v,stOf r v≠0->stOf (putR r w 2) v≠0:=by
 have h:=putE_zero hr hs (p:=2) (by omega);obtain ⟨p1,p2,_⟩:=put_ok h;have hi:=fun n=>(put_inst h n).1
 have ha:=fun n=>(put_inst h n).2
 have ho:∀ v,(stOf r v=1\/stOf r v=2)->stOf (putR r w 2) v=1\/stOf (putR r w 2) v=2:=fun v hv=>by rw [p2];split;exact .inr rfl;exact hv
 have hn:∀ v,stOf r v≠0->stOf (putR r w 2) v≠0:=fun v hv=>by rw [p2];split;decide;exact hv
 refine ⟨p1,⟨fun p hp=>⟨ho _ (k.qs p hp).1,by rw [hi];exact (k.qs p hp).2⟩,fun t ht=>⟨hn _ (k.ts t ht).1,hn _ (k.ts t ht).2.1,by rw [hi];exact (k.ts t ht).2.2⟩,fun p hp=>⟨ho _ (k.ps p hp).1,by rw [ha];exact (k.ps p hp).2⟩,fun c hc=>?_⟩,hn⟩;obtain ⟨h1,h2⟩:=withoutL_mem.1 hc;rw [inK_one] at h2;rw [p2,if_neg (by simpa using h2)];exact k.cs c h1
theorem tickF_ok {qs ts ps}:∀ (l:List CallV) (x:RollV × List CallV),(∀ c∈l,stOf x.1 c.who≠0)->x.1.okB=true->knownP x.1 qs ts ps x.2->chB callOk callLt x.2=true->(tickF l x).1.okB=true/\knownP (tickF l x).1 qs ts ps (tickF l x).2/\chB callOk callLt (tickF l x).2=true
 | [],_,_,h2,h3,h4=>⟨h2,h3,h4⟩
 | c :: r,x,h1,h2,h3,h4=>by
  obtain ⟨a1,a2,a3⟩:=put_known2 h2 (h1 c (by simp)) h3;simp only [tickF];exact tickF_ok r _ (fun y hy=>a3 _ (h1 y (by simp [hy]))) a1 a2 (withoutL_ok h4)
theorem tick_right {s:StateV} {n:Int} (he:tickE s n=0):(tickS s n).right:=by
 unfold tickS;rw [if_pos he];unfold tickE at he;split at he
 case isFalse=>cases he
 rename_i h1;split at he
 case isFalse=>cases he
 rename_i h2;split at he
 ·cases he
 simp only [within,bae,decide_eq_true_eq] at h2;have hr:=right_iff.1 h1;have hc:=hr.clk
 obtain ⟨a1,a2,a3⟩:=tickF_ok (lateA (s.now+n) s.calls) (s.roll,s.calls) (fun c hc=>by
  obtain ⟨x,hx,hc⟩:=List.mem_flatMap.1 hc;split at hc
  ·obtain rfl:=List.mem_singleton.1 hc;have:=hr.known.cs _ hx;dsimp only;omega
  ·cases hc) hr.roll hr.known hr.calls
 exact ⟨⟨by dsimp only;omega,hc.2⟩,a1,hr.book,hr.led,hr.ps,a3,a2,hr.bl,hr.bids,hr.seats⟩
theorem outG_ok {s:StateV} {w:Int}:∀ (m i:Nat) (l:LedV) (p:List DueV),l.okB=true->(outG s w m i l p).2.2=0->(outG s w m i l p).1.okB=true
 | 0,_,_,_,h,_=>h
 | m+1,i,l,p,h,he=>by
  simp only [outG] at he |-;split
  ·rename_i h0;rw [if_pos h0] at he;exact outG_ok m _ _ _ (postIf_ok h h0) he
  ·rename_i h0;rw [if_neg h0] at he;exact absurd he h0
theorem outE_ok {s:StateV} {w:Int} (h:outE s w=0):posnE s w=0/\firstE3 (outGE s w) 3 0=0/\firstE3 (outCE s w) 3 0=0/\(outG s w 3 0 s.led []).2.2=0:=by
 unfold outE at h;split at h
 case isFalse hne=>exact absurd h hne
 rename_i h1;split at h
 case isFalse hne=>exact absurd h hne
 rename_i h2;split at h
 case isFalse hne=>exact absurd h hne
 rename_i h3;exact ⟨h1,h2,h3,h⟩
theorem keepPl_mem {w:Int} {l:List Plg} {p:Plg}:p∈keepPl w l ↔ p∈l/\p.who≠w:=by
 unfold keepPl;rw [List.mem_flatMap];constructor
 ·rintro ⟨x,hx,h⟩
  split at h
  ·cases h
  ·rename_i hn;obtain rfl:=List.mem_singleton.1 h;exact ⟨hx,by simpa using hn⟩
 ·rintro ⟨h1,h2⟩
  exact ⟨p,h1,by rw [if_neg (by simpa using h2)];simp⟩
theorem keepBd_mem {w:Int} {l:List BidV} {b:BidV}:b∈keepBd w l ↔ b∈l/\b.who≠w/\b.src≠w:=by
 unfold keepBd;rw [List.mem_flatMap];constructor
 ·rintro ⟨x,hx,h⟩
  split at h
  ·cases h
  ·rename_i hn;obtain rfl:=List.mem_singleton.1 h;simp only [Bool.or_eq_true,beq_iff_eq] at hn;exact ⟨hx,fun e=>hn (.inl e),fun e=>hn (.inr e)⟩
 ·rintro ⟨h1,h2,h3⟩
  exact ⟨b,h1,by rw [if_neg (by simp only [Bool.or_eq_true,beq_iff_eq];omega)];simp⟩
theorem out_right {s:StateV} {w:Int} (he:outE s w=0):(outS s w).right:=by
 unfold outS;rw [if_pos he];obtain ⟨e1,_,_,e4⟩:=outE_ok he;obtain ⟨hm,_⟩:=posnE_ok e1;obtain ⟨h1,hs⟩:=mayE_ok hm;have hr:=right_iff.1 h1;have hp:=putE_zero hr.roll (w:=w) (p:=3) (by omega) (by omega);obtain ⟨p1,p2,_⟩:=put_ok hp;have hi:=fun n=>(put_inst hp n).1
 have ha:=fun n=>(put_inst hp n).2
 obtain ⟨b1,b2,b3⟩:=posnB_ok e1;have hst:∀ v,v≠w->stOf (putR s.roll w 3) v=stOf s.roll v:=fun v hv=>by rw [p2,if_neg hv]
 have hg:=check_good.1 hr.ps;refine ⟨hr.clk,p1,b1,outG_ok 3 0 s.led [] hr.led e4,check_good.2 ⟨fun p hp=>hg.1 p (keepPl_mem.1 hp).1,sub_pw hg.2⟩,withoutL_ok hr.calls,⟨fun p hp=>?_,fun t ht=>?_,fun p hp=>?_,fun c hc=>?_⟩,Nat.le_trans (keepBd_len _ _) hr.bl,fun b hb=>hr.bids b (keepBd_mem.1 hb).1,hr.seats⟩
 ·dsimp only at hp |-;rw [hst _ (b3 p hp),hi];exact b2.qs p hp
 ·dsimp only at ht |-;have:=b2.ts t ht;have hn:∀ v,stOf s.roll v≠0->stOf (putR s.roll w 3) v≠0:=fun v hv=>by rw [p2];split;decide;exact hv
  exact ⟨hn _ this.1,hn _ this.2.1,by rw [hi];exact this.2.2⟩
 ·dsimp only at hp |-;have:=keepPl_mem.1 hp;rw [hst _ this.2,ha];exact hr.known.ps p this.1
 ·dsimp only at hc |-;obtain ⟨h1,h2⟩:=withoutL_mem.1 hc;rw [inK_one] at h2;rw [hst _ (by simpa using h2)];exact hr.known.cs c h1
end Go.Proofs.YtgnhdbdipfncgaaGreat
