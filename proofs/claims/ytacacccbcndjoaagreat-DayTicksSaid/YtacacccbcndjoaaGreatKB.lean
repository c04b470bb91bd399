/- A roll is right: members, instruments, assets, and what follows. No theorem of a claim. -/
import Derived.Test.YtacacccbcndjoaaGreatKA
import Derived.Test.YtacacccbcndjoaaGreatAbcWalk
set_option linter.unusedSimpArgs false
set_option linter.unusedVariables false
set_option maxHeartbeats 4000000
set_option maxRecDepth 16000
namespace Go.Proofs.YtacacccbcndjoaaGreat
open Go.Abs
structure ak where
 no:Int
 state:Int
 need:Int
@[reducible] def ak.cells (x:ak):List D:=[.int .i64 x.no,.int .i64 x.state,.int .i64 x.need]
def ak.ok (x:ak):Bool:=within x.no 1 16&&within x.state 1 3&&bS x.need&&decide (0<=x.need)
theorem lT (x:ak):Abs.Spec Tryz.prog 53 [] [.agg x.cells] [] (.int .i64 x.no):=by
 refine aU 5 1 [.tmp 2] mixed Tryz.func53 ?_;simp only [ak.cells];simp only [go_sem,seval]
theorem p6 (x:ak):Abs.Spec Tryz.prog 98 [] [.agg x.cells] [] (.bool x.ok):=by
 have h1:=eU x.no 1 16;have h2:=eU x.state 1 3;have h3:=lg [x.need] (by simp);rw [p7] at h3;simp only [ak.cells];refine aU 22 1 [.tmp 2] mixed Tryz.func98 ?_;simp only [go_sem,seval];refine aa.pure h1 ?_;cases hb1:within x.no 1 16
 ·have e:x.ok=false:=by simp [ak.ok,hb1]
  simp only [go_sem,seval,e]
 simp only [go_sem,seval];refine aa.pure h2 ?_;cases hb2:within x.state 1 3
 ·have e:x.ok=false:=by simp [ak.ok,hb2]
  simp only [go_sem,seval,e]
 simp only [go_sem,seval];refine aa.gen [] [] true (by simp) ?_;simp only [go_sem,seval];refine bg.intro h3 ?_;cases hb3:bS x.need
 ·have e:x.ok=false:=by simp [ak.ok,hb3]
  simp only [go_sem,seval,e]
 have e:x.ok=decide (0<=x.need):=by simp [ak.ok,hb1,hb2,hb3]
 simp only [go_sem,seval,e]
structure ay where
 no:Int
 cur:Int
 mult:Int
 add:Int
 set:Int
 aR:Int
 s0:Int
 s1:Int
 s2:Int
 s3:Int
 s4:Int
 s5:Int
@[reducible] def ay.cells (x:ay):List D:=[.int .i64 x.no,.int .i64 x.cur,.int .i64 x.mult,.int .i64 x.add,.int .i64 x.set,.int .i64 x.aR,.int .i64 x.s0,.int .i64 x.s1,.int .i64 x.s2,.int .i64 x.s3,.int .i64 x.s4,.int .i64 x.s5]
def ay.sh (x:ay):Nat->Int
 | 0=>x.s0 | 1=>x.s1 | 2=>x.s2 | 3=>x.s3 | 4=>x.s4 | _=>x.s5
def ay.Ih (x:ay):Bool:=(List.range 6).all fun i=>within (x.sh i) (-1073741824) 1073741824
def ay.ok (x:ay):Bool:=x.Ih&&within x.no 1 8&&within x.cur 0 2&&within x.mult 1 1024&&within x.add 0 1073741824&&within x.set 0 1073741824&&within x.aR 0 1073741824
theorem tu (x:ay):Abs.Spec Tryz.prog 100 [] [.agg x.cells] [] (.int .i64 x.no):=by
 refine aU 5 1 [.tmp 2] mixed Tryz.func100 ?_;simp only [ay.cells];simp only [go_sem,seval]
theorem so (x:ay):Abs.Spec Tryz.prog 101 [] [.agg x.cells] [] (.bool x.ok):=by
 have h1:=eU x.no 1 8;have h2:=eU x.cur 0 2;have h3:=eU x.mult 1 1024;have h4:=eU x.add 0 1073741824;have h5:=eU x.set 0 1073741824;have h6:=eU x.aR 0 1073741824;simp only [ay.cells];refine aU 42 1 [.tmp 2] mixed Tryz.func101 ?_;simp only [go_sem,seval];refine aB.count 6 [1,6] [32] (fun i=>[(7,.int .i64 i)]) (fun i=>[]) (fun i=>∀ j < i,within (x.sh j) (-1073741824) 1073741824=true) (by simp) ?_ ?_
 ·simp only [go_sem,seval]
 ·intro i hi hI;simp only [go_sem,seval];refine bH.aF (fun h=>?_) (fun h=>?_)
  ·have hi':i < 6:=by omega
   have hix:(List.drop (i*1) [D.int .i64 x.s0,D.int .i64 x.s1,D.int .i64 x.s2,D.int .i64 x.s3,D.int .i64 x.s4,D.int .i64 x.s5]).headD .undef=.int .i64 (x.sh i):=by
    rcases i with _ | _ | _ | _ | _ | _ | i<;>first | rfl | omega
   have hw:IntKind.wrap .i64 ((i:Int)+1)=((i+1:Nat):Int):=by rw [bz (by omega) (by omega)];omega
   have hv:=eU (x.sh i) (-1073741824) 1073741824;simp only [go_sem,seval,hix];refine ⟨by omega,aa.pure hv ?_⟩;cases hb:within (x.sh i) (-1073741824) 1073741824
   ·have e1:x.Ih=false:=by
     cases hc:x.Ih
     ·rfl
     ·rw [ay.Ih,List.all_eq_true] at hc;rw [hc i (List.mem_range.2 hi')] at hb;cases hb
    have e2:x.ok=false:=by simp [ay.ok,e1]
    simp only [go_sem,seval,e2]
   ·simp only [go_sem,seval,hw];refine ah.next hi' ?_ ?_
    ·intro j hj;rcases Nat.lt_or_ge j i with h | h
     ·exact hI j h
     ·obtain rfl:j=i:=by omega
      exact hb
    ·simp only [go_sem,seval]
  ·obtain rfl:i=6:=by omega
   have hs:x.Ih=true:=List.all_eq_true.2 fun j hj=>hI j (List.mem_range.1 hj)
   have e:x.ok=(within x.no 1 8&&within x.cur 0 2&&within x.mult 1 1024&&within x.add 0 1073741824&&within x.set 0 1073741824&&within x.aR 0 1073741824):=by simp [ay.ok,hs]
   rw [e];clear hI e hs
   repeat' with_reducible first|apply And.intro|exact .dq|refine aa.pure (by assumption) ?_|refine aa.pure (h1) ?_|refine aa.pure (h2) ?_|refine aa.pure (h3) ?_|refine aa.pure (h4) ?_|refine aa.pure (h5) ?_|refine aa.pure (h6) ?_|refine .aH (fun h=>?_) fun h=>?_|refine .aF (fun h=>?_) fun h=>?_|refine .aK (fun h=>?_) fun h=>?_|refine .split (fun h=>?_) fun h=>?_|refine .id ?_|refine ah.next (by omega) ?_ ?_|exact trivial|simp only [*,go_sem,seval]
   all_goals (simp_all;done)
theorem xQ (xs:List ak) (hl:xs.length < 2 ^ 62):Abs.Spec Tryz.prog 97 [] [.sl 3 (xs.map ak.cells),.fn 53 [],.fn 98 []] [] (.bool (iQ ak.no ak.ok xs)):=by
 refine Abs.Spec.go (n:=38) (np:=3) (rs:=[.tmp 6]) mixed Tryz.func97 rfl rfl rfl rfl rfl (by simp) (by simp) ?_;simp only [go_sem,seval,aI];refine ⟨Nat,fun i=>[(6,.bool false),(0,.sl 3 (xs.map ak.cells)),(1,.fn 53 []),(2,.fn 98 []),(9,.sl 3 (xs.map ak.cells)),(10,.int .i64 xs.length),(11,.int .i64 i)],fun i=>[],fun i=>i<=xs.length/\∀ j,j < i->cw ak.no ak.ok xs j=true,fun i=>xs.length-i,0,?_,?_,?_⟩
 ·simp
 ·simp only [go_sem,seval,aI]<;>simp
 ·rintro i ⟨hi,hr⟩
  simp only [go_sem,seval];refine bH.split (fun h=>?_) (fun h=>?_)
  ·have hi':i < xs.length:=by simpa using h
   have bad:cw ak.no ak.ok xs i=false->iQ ak.no ak.ok xs=false:=fun hx=>by
    simp only [iQ,List.all_eq_false];exact ⟨i,List.mem_range.2 hi',by simp [hx]⟩
   simp only [go_sem,seval,Int.toNat_natCast,aD xs hi',ak.cells];refine ⟨by simp [hi'],?_⟩
   have next:cw ak.no ak.ok xs i=true->∀ j,j < i+1->cw ak.no ak.ok xs j=true:=fun hx j hj=>by
    rcases Nat.lt_succ_iff_lt_or_eq.1 hj with h1 | rfl
    ·exact hr j h1
    ·exact hx
   by_cases h0:0 < i
   ·have hw:IntKind.wrap .i64 ((i:Int)-1)=((i-1:Nat):Int):=by rw [wrap64 (by omega) (by omega)];omega
    have hp:i-1 < xs.length:=by omega
    have hg:decide (0 < (i:Int))=true:=by simp;omega
    have hm:=aD (c:=ak.cells) xs hp;have hra:=fV ak.no ak.ok xs hi' h0
    repeat' (with_reducible first
     | apply And.intro
     | exact ji.mk (by kernel_rfl)
     | exact DH.mk (by kernel_rfl)
     | refine aa.pure (p6 _) ?_
     | refine aa.pure (lT _) ?_
     | refine bZ.aK (fun h=>?_) (fun h=>?_)
     | refine bZ.split (fun h=>?_) (fun h=>?_)
     | refine bH.split (fun h=>?_) (fun h=>?_)
     | refine fm.id ?_
     | simp only [hw,hg,hm,go_sem,seval, *,Int.toNat_natCast,ak.cells])
    ·simp;omega
    ·exact (bad (by rw [hra];simp at h;simp;intro _;omega)).symm
    ·refine ⟨i+1,⟨hi',next (by rw [hra];simp at h;simp [*])⟩,?_,by simp only;omega⟩;simp only [go_sem,seval,aI];rw [wrap64 (by omega) (by omega)];simp
   ·have hg:decide (0 < (i:Int))=false:=by simp;omega
    have hra:=ga ak.no ak.ok xs hi' h0
    repeat' (with_reducible first
     | apply And.intro
     | exact ji.mk (by kernel_rfl)
     | exact DH.mk (by kernel_rfl)
     | refine aa.pure (p6 _) ?_
     | refine aa.pure (lT _) ?_
     | refine bZ.aK (fun h=>?_) (fun h=>?_)
     | refine bZ.split (fun h=>?_) (fun h=>?_)
     | refine bH.split (fun h=>?_) (fun h=>?_)
     | refine fm.id ?_
     | simp only [hg,go_sem,seval, *,Int.toNat_natCast,ak.cells])
    ·refine ⟨i+1,⟨hi',next (by rw [hra];simp [*])⟩,?_,by simp only;omega⟩;simp only [go_sem,seval,aI];rw [wrap64 (by omega) (by omega)];simp
  ·simp only [go_sem,seval];have:i=xs.length:=by simp at h;omega
   subst this
   symm
   simpa [iQ] using hr
theorem AA (xs:List ay) (hl:xs.length < 2 ^ 62):Abs.Spec Tryz.prog 99 [] [.sl 12 (xs.map ay.cells),.fn 100 [],.fn 101 []] [] (.bool (iQ ay.no ay.ok xs)):=by
 refine Abs.Spec.go (n:=38) (np:=3) (rs:=[.tmp 6]) mixed Tryz.func99 rfl rfl rfl rfl rfl (by simp) (by simp) ?_;simp only [go_sem,seval,aI];refine ⟨Nat,fun i=>[(6,.bool false),(0,.sl 12 (xs.map ay.cells)),(1,.fn 100 []),(2,.fn 101 []),(9,.sl 12 (xs.map ay.cells)),(10,.int .i64 xs.length),(11,.int .i64 i)],fun i=>[],fun i=>i<=xs.length/\∀ j,j < i->cw ay.no ay.ok xs j=true,fun i=>xs.length-i,0,?_,?_,?_⟩
 ·simp
 ·simp only [go_sem,seval,aI]<;>simp
 ·rintro i ⟨hi,hr⟩
  simp only [go_sem,seval];refine bH.split (fun h=>?_) (fun h=>?_)
  ·have hi':i < xs.length:=by simpa using h
   have bad:cw ay.no ay.ok xs i=false->iQ ay.no ay.ok xs=false:=fun hx=>by
    simp only [iQ,List.all_eq_false];exact ⟨i,List.mem_range.2 hi',by simp [hx]⟩
   simp only [go_sem,seval,Int.toNat_natCast,aD xs hi',ay.cells];refine ⟨by simp [hi'],?_⟩
   have next:cw ay.no ay.ok xs i=true->∀ j,j < i+1->cw ay.no ay.ok xs j=true:=fun hx j hj=>by
    rcases Nat.lt_succ_iff_lt_or_eq.1 hj with h1 | rfl
    ·exact hr j h1
    ·exact hx
   by_cases h0:0 < i
   ·have hw:IntKind.wrap .i64 ((i:Int)-1)=((i-1:Nat):Int):=by rw [wrap64 (by omega) (by omega)];omega
    have hp:i-1 < xs.length:=by omega
    have hg:decide (0 < (i:Int))=true:=by simp;omega
    have hm:=aD (c:=ay.cells) xs hp;have hra:=fV ay.no ay.ok xs hi' h0
    repeat' (with_reducible first
     | apply And.intro
     | exact ji.mk (by kernel_rfl)
     | exact DH.mk (by kernel_rfl)
     | refine aa.pure (so _) ?_
     | refine aa.pure (tu _) ?_
     | refine bZ.aK (fun h=>?_) (fun h=>?_)
     | refine bZ.split (fun h=>?_) (fun h=>?_)
     | refine bH.split (fun h=>?_) (fun h=>?_)
     | refine fm.id ?_
     | simp only [hw,hg,hm,go_sem,seval, *,Int.toNat_natCast,ay.cells])
    ·simp;omega
    ·exact (bad (by rw [hra];simp at h;simp;intro _;omega)).symm
    ·refine ⟨i+1,⟨hi',next (by rw [hra];simp at h;simp [*])⟩,?_,by simp only;omega⟩;simp only [go_sem,seval,aI];rw [wrap64 (by omega) (by omega)];simp
   ·have hg:decide (0 < (i:Int))=false:=by simp;omega
    have hra:=ga ay.no ay.ok xs hi' h0
    repeat' (with_reducible first
     | apply And.intro
     | exact ji.mk (by kernel_rfl)
     | exact DH.mk (by kernel_rfl)
     | refine aa.pure (so _) ?_
     | refine aa.pure (tu _) ?_
     | refine bZ.aK (fun h=>?_) (fun h=>?_)
     | refine bZ.split (fun h=>?_) (fun h=>?_)
     | refine bH.split (fun h=>?_) (fun h=>?_)
     | refine fm.id ?_
     | simp only [hg,go_sem,seval, *,Int.toNat_natCast,ay.cells])
    ·refine ⟨i+1,⟨hi',next (by rw [hra];simp [*])⟩,?_,by simp only;omega⟩;simp only [go_sem,seval,aI];rw [wrap64 (by omega) (by omega)];simp
  ·simp only [go_sem,seval];have:i=xs.length:=by simp at h;omega
   subst this
   symm
   simpa [iQ] using hr
structure aq where
 ms:List ak
 ns:List ay
 xs:List av
def aq.cells (r:aq):List D:=[.sl 3 (r.ms.map ak.cells),.sl 12 (r.ns.map ay.cells),.sl 4 (r.xs.map av.cells)]
def aq.okB (r:aq):Bool:=iQ ak.no ak.ok r.ms&&iQ ay.no ay.ok r.ns&&iQ av.a av.ok r.xs
def aq.small (r:aq):Prop:=r.ms.length < 2 ^ 60/\r.ns.length < 2 ^ 60/\r.xs.length < 2 ^ 60
theorem nV (r:aq) (hl:r.small):Abs.Spec Tryz.prog 31 [] [.agg r.cells] [] (.int .i64 (if r.okB then 0 else 14)):=by
 obtain ⟨l1,l2,l3⟩:=hl;have h1:=xQ r.ms (by omega);have h2:=AA r.ns (by omega);have h3:=zK r.xs (by omega);simp only [aq.cells];refine aU 19 1 [.tmp 2] mixed Tryz.func31 ?_;simp only [go_sem,seval];refine aa.pure h1 ?_;cases b1:iQ ak.no ak.ok r.ms
 ·have e:r.okB=false:=by simp [aq.okB,b1]
  simp only [go_sem,seval,e]<;>simp
 simp only [go_sem,seval];refine aa.pure h2 ?_;cases b2:iQ ay.no ay.ok r.ns
 ·have e:r.okB=false:=by simp [aq.okB,b2]
  simp only [go_sem,seval,e]<;>simp
 simp only [go_sem,seval];refine aa.pure h3 ?_;cases b3:iQ av.a av.ok r.xs
 ·have e:r.okB=false:=by simp [aq.okB,b3]
  simp only [go_sem,seval,e]<;>simp
 have e:r.okB=true:=by simp [aq.okB,b1,b2,b3]
 simp only [go_sem,seval,e]
def fP {A:Type} (no:A->Int) (n:Int) (z:A):List A->A
 | []=>z
 | x :: r=>if no x=n then x else fP no n z r
def iG {A:Type} (no:A->Int) (n:Int):List A->Int
 | []=>-1
 | x :: r=>if no x=n then 0 else if iG no n r < 0 then -1 else iG no n r+1
theorem iV {A:Type} {no:A->Int} {n:Int} {z:A}:∀ {xs:List A} {i:Nat} (h:i < xs.length),(∀ j (hj:j < xs.length),j < i->no xs[j]≠n)->no xs[i]=n->fP no n z xs=xs[i]/\iG no n xs=i
 | [],i,h,_,_=>by simp at h
 | x :: r,0,h,_,he=>by
  have he:no x=n:=he;simp [fP,iG,he]
 | x :: r,i+1,h,hn,he=>by
  have h0:no x≠n:=hn 0 (by simp) (by omega);obtain ⟨h1,h2⟩:=iV (z:=z) (xs:=r) (i:=i) (by simpa using h) (fun j hj hji=>hn (j+1) (by simpa using hj) (by omega)) he;simp only [fP,iG,if_neg h0,h2];refine ⟨h1,?_⟩;rw [if_neg (by omega)];omega
theorem gB {A:Type} {no:A->Int} {n:Int} {z:A}:∀ {xs:List A},(∀ j (hj:j < xs.length),no xs[j]≠n)->fP no n z xs=z/\iG no n xs = -1
 | [],_=>by simp [fP,iG]
 | x :: r,hn=>by
  have h0:no x≠n:=hn 0 (by simp);obtain ⟨h1,h2⟩:=gB (z:=z) (xs:=r) (fun j hj=>hn (j+1) (by simpa using hj));simp only [fP,iG,if_neg h0,h2];exact ⟨h1,by simp⟩
theorem AP (xs:List av) (n:Int) (hl:xs.length < 2 ^ 62):Abs.Spec Tryz.prog 199 [] [.sl 4 (xs.map av.cells),.fn 103 [],.int .i64 n] [] (.bD [.agg (fP av.a n ⟨0,0,0,0⟩ xs).cells,.int .i64 (iG av.a n xs)]):=by
 refine aU 27 3 [.cell 6 111,.tmp 7] mixed Tryz.func199 ?_;simp only [go_sem,seval,aI];refine aB.count xs.length [1,2,6,11,12] [112,208] (fun i=>[(13,.int .i64 i)]) (fun i=>[]) (fun i=>∀ j (hj:j < xs.length),j < i->xs[j].a≠n) (by simp) ?_ ?_
 ·simp only [go_sem,seval]<;>simp
 ·intro i hi hI;simp only [go_sem,seval];refine bH.aF (fun h=>?_) (fun h=>?_)
  ·have hi':i < xs.length:=by omega
   have hw:IntKind.wrap .i64 ((i:Int)+1)=((i+1:Nat):Int):=by rw [bz (by omega) (by omega)];omega
   have hm:=aD (c:=av.cells) xs hi';have hno:=qM xs[i];simp only [av.cells] at hm hno |-;simp only [go_sem,seval,hm];refine ⟨by omega,aa.pure hno ?_⟩;simp only [go_sem,seval];refine bH.split (fun hb=>?_) (fun hb=>?_)
   ·have hb:xs[i].a=n:=by simpa using hb
    obtain ⟨g1,g2⟩:=iV (z:=(⟨0,0,0,0⟩:av)) hi' hI hb;rw [g1,g2];simp only [go_sem,seval]
   ·have hb:xs[i].a≠n:=by simpa using hb
    simp only [go_sem,seval,hw];refine ah.next hi' ?_ ?_
    ·intro j hj hji;rcases Nat.lt_or_ge j i with h | h
     ·exact hI j hj h
     ·obtain rfl:j=i:=by omega
      exact hb
    ·simp only [go_sem,seval]
  ·obtain rfl:i=xs.length:=by omega
   obtain ⟨g1,g2⟩:=gB (z:=(⟨0,0,0,0⟩:av)) (fun j hj=>hI j hj hj);rw [g1,g2];simp only [go_sem,seval,av.cells]
structure aJ where
 kind:Int
 who:Int
 cur:Int
@[reducible] def aJ.cells (x:aJ):List D:=[.int .i64 x.kind,.int .i64 x.who,.int .i64 x.cur]
def owned (k:Int):Bool:=k==2||k==3
theorem LQ (k:Int):Abs.Spec Tryz.prog 195 [] [.int .i64 k] [] (.bool (owned k)):=by
 refine aU 9 1 [.tmp 2] mixed Tryz.func195 ?_;simp only [go_sem,seval]
 repeat' (with_reducible first
  | apply And.intro
  | exact ji.mk (by kernel_rfl)
  | exact DH.mk (by kernel_rfl)
  | refine bZ.aK (fun h=>?_) (fun h=>?_)
  | refine bZ.split (fun h=>?_) (fun h=>?_)
  | refine bH.split (fun h=>?_) (fun h=>?_)
  | refine fm.id ?_
  | simp only [*,go_sem,seval])
 all_goals simp [owned, *]
def aJ.right (x:aJ):Bool:=if x.kind < 1\/6 < x.kind\/x.cur < 0\/3<=x.cur then false else if owned x.kind then decide (1<=x.who)&&decide (x.who<=16) else x.who==0
theorem sK (x:aJ):Abs.Spec Tryz.prog 110 [] [.agg x.cells] [] (.bool x.right):=by
 refine aU 37 1 [.tmp 2] mixed Tryz.func110 ?_;simp only [aJ.cells];simp only [go_sem,seval]
 repeat' (with_reducible first
  | apply And.intro
  | exact ji.mk (by kernel_rfl)
  | exact DH.mk (by kernel_rfl)
  | refine aa.pure (LQ _) ?_
  | refine bZ.aK (fun h=>?_) (fun h=>?_)
  | refine bZ.split (fun h=>?_) (fun h=>?_)
  | refine bH.split (fun h=>?_) (fun h=>?_)
  | refine fm.id ?_
  | simp only [*,go_sem,seval])
 all_goals (simp only [decide_eq_true_eq,decide_eq_false_iff_not] at *)
 all_goals (unfold aJ.right;simp [*])
def aJ.floor (x:aJ):Int:=if x.right&&(x.kind==3||x.kind==4) then 0 else -4611686018427387904
theorem C4 (x:aJ):Abs.Spec Tryz.prog 111 [] [.agg x.cells] [] (.int .i64 x.floor):=by
 have hr:=sK x;simp only [aJ.cells] at hr;refine aU 15 1 [.tmp 2] mixed Tryz.func111 ?_;simp only [aJ.cells];simp only [go_sem,seval]
 repeat' (with_reducible first
  | apply And.intro
  | exact ji.mk (by kernel_rfl)
  | exact DH.mk (by kernel_rfl)
  | refine aa.pure hr ?_
  | refine bZ.aK (fun h=>?_) (fun h=>?_)
  | refine bZ.split (fun h=>?_) (fun h=>?_)
  | refine bH.split (fun h=>?_) (fun h=>?_)
  | refine fm.id ?_
  | simp only [*,go_sem,seval])
 all_goals (unfold aJ.floor;simp [*])
def aJ.less (x y:aJ):Bool:=if x.kind≠y.kind then decide (x.kind < y.kind) else if x.who≠y.who then decide (x.who < y.who) else decide (x.cur < y.cur)
theorem EO (x y:aJ):Abs.Spec Tryz.prog 112 [] [.agg x.cells,.agg y.cells] [] (.bool (x.less y)):=by
 refine aU 32 2 [.tmp 4] mixed Tryz.func112 ?_;simp only [aJ.cells];simp only [go_sem,seval]
 repeat' (with_reducible first
  | apply And.intro
  | exact ji.mk (by kernel_rfl)
  | exact DH.mk (by kernel_rfl)
  | exact trivial
  | refine bZ.aK (fun h=>?_) (fun h=>?_)
  | refine bZ.split (fun h=>?_) (fun h=>?_)
  | refine bH.split (fun h=>?_) (fun h=>?_)
  | refine fm.id ?_
  | simp only [*,go_sem,seval])
 all_goals (unfold aJ.less;simp_all)
def aJ.lt (x y:aJ):Prop:=x.kind < y.kind\/x.kind=y.kind/\(x.who < y.who\/x.who=y.who/\x.cur < y.cur)
theorem Sy (x:aJ):(x.floor==0)=(x.right&&(x.kind==3||x.kind==4)):=by
 unfold aJ.floor;split
 ·rename_i h;simp [h]
 ·rename_i h;simp at h;cases hr:x.right<;>simp [hr] at h |-;exact h
def aC:List Int->Int
 | []=>0
 | x :: r=>x+aC r
theorem wm (a:List Int) (x:Int):aC (a++[x])=aC a+x:=by
 induction a with
 | nil=>simp [aC]
 | cons y r ih=>simp only [List.cons_append,aC,ih];omega
theorem vI:∀ {l:List Int},right l=true -> -4611686018427387904*l.length<=aC l/\aC l<=4611686018427387904*l.length
 | [],_=>by simp [aC]
 | x :: r,h=>by
  simp only [right,List.all_cons,cg] at h;have h2:=vI (l:=r) h.2;have h1:-4611686018427387904<=x/\x<=4611686018427387904:=by simpa [bS] using h.1
  simp only [aC,List.length_cons];push_cast;omega
theorem Mm (S n:Int):(S%18446744073709551616+n%18446744073709551616+0)%18446744073709551616=(S+n)%18446744073709551616:=by omega
theorem VI (S n:Int) (h:-4611686018427387904<=n/\n<=4611686018427387904) (s:Int) (hs:s=if 0<=n then 0 else 18446744073709551615) :
  ((S / 18446744073709551616)%18446744073709551616+s+(S%18446744073709551616+n%18446744073709551616+0) / 18446744073709551616)%18446744073709551616=((S+n) / 18446744073709551616)%18446744073709551616:=by
 subst hs;split<;>omega
theorem Vn (n:Int) (h:-9223372036854775808<=n/\n<=9223372036854775807):IntKind.wrap .u64 (Dy .i64 n 63)=if 0<=n then 0 else 18446744073709551615:=by
 have:Dy .i64 n 63=n.fdiv (2 ^ 63):=rfl;rw [this,Int.fdiv_eq_ediv_of_nonneg _ (by omega),IntKind.wrap_u64];split<;>omega
theorem mD:Extern.find Tryz.f196=some add64Entry:=by kernel_rfl
theorem mg:Extern.findNext Tryz.f196=none:=by kernel_rfl
def qC (l:List Int):Int:=if right l&&bS (aC l) then aC l else 0
def qU (l:List Int):Int:=if right l then (if bS (aC l) then 0 else 1) else 3
theorem Cu (S:Int) (h:-85070591730234615865843651857942052864<=S/\S<=85070591730234615865843651857942052864):Abs.Spec Tryz.prog 197 [] [.int .u64 ((S / 18446744073709551616)%18446744073709551616),.int .u64 (S%18446744073709551616)] [] (.bD [.int .i64 (if bS S then S else 0),.int .i64 (if bS S then 0 else 1)]):=by
 obtain ⟨n,hn⟩:=aO (IntKind.wrap .i64 (S%18446744073709551616))
 have hn1:n=if S%18446744073709551616 < 9223372036854775808 then S%18446744073709551616 else S%18446744073709551616-18446744073709551616:=by
  rw [hn,IntKind.wrap_i64];split<;>omega
 have hs:=Vn n (by rw [hn1];split<;>omega);have hr:=lg [n] (by simp);rw [p7] at hr;refine aU 21 2 [.tmp 4,.tmp 5] mixed Tryz.func197 ?_
 by_cases hS:-9223372036854775808<=S/\S < 9223372036854775808
 ·have hnS:n=S:=by rw [hn1];split<;>omega
  have hb:(S / 18446744073709551616%18446744073709551616 != if 0<=n then 0 else 18446744073709551615)=false:=by
   rw [bne_eq_false_iff_eq,hnS];split<;>omega
  simp only [go_sem,seval,<- hn,hs,hb];refine aa.gen [] [] true (by simp) ?_;simp only [go_sem,seval];refine bg.intro hr ?_;rw [hnS] at hr |-;cases hi:bS S
  ·simp only [go_sem,seval,hi,ir,if_false]
  ·simp only [go_sem,seval,hi,if_true]
 ·have hb:(S / 18446744073709551616%18446744073709551616 != if 0<=n then 0 else 18446744073709551615)=true:=by
   rw [bne_iff_ne,hn1];split<;>split<;>omega
  have hi:bS S=false:=by simp only [bS,Bool.and_eq_false_iff,decide_eq_false_iff_not];omega
  simp only [go_sem,seval,<- hn,hs,hb,hi,ir,if_false]
theorem IC (l:List Int) (hl:l.length < 2 ^ 60):Abs.Spec Tryz.prog 113 [] [.sl 1 (ints l)] [] (.bD [.int .i64 (qC l),.int .i64 (qU l)]):=by
 have hr:=lg l (by omega);refine aU 40 1 [.tmp 2,.tmp 3] mixed Tryz.func113 ?_;simp only [go_sem,seval];refine aa.pure hr ?_;cases hb:right l
 ·have e1:qC l=0:=by simp [qC,hb]
  have e2:qU l=3:=by simp [qU,hb]
  simp only [go_sem,seval,e1,e2]
 simp only [go_sem,seval,az];refine aB.count l.length [12,13] [224] (fun i=>[(14,.int .i64 i),(4,.int .u64 ((aC (l.take i) / 18446744073709551616)%18446744073709551616)),(5,.int .u64 (aC (l.take i)%18446744073709551616))]) (fun i=>[]) (fun i=>True) trivial ?_ ?_
 ·simp only [go_sem,seval]<;>simp [aC]
 ·intro i hi _;simp only [go_sem,seval];refine bH.aF (fun h=>?_) (fun h=>?_)
  ·have hi':i < l.length:=by omega
   have hw:IntKind.wrap .i64 ((i:Int)+1)=((i+1:Nat):Int):=by rw [bz (by omega) (by omega)];omega
   have hx:bS l[i]=true:=List.all_eq_true.1 hb _ (List.getElem_mem hi');have hxr:-4611686018427387904<=l[i]/\l[i]<=4611686018427387904:=by simpa [bS] using hx
   obtain ⟨S,hS⟩:=aO (aC (l.take i));obtain ⟨n,hn⟩:=aO (l[i]);have hnext:aC (l.take (i+1))=S+n:=by rw [List.take_succ_eq_append_getElem hi',wm,hS,hn]
   have hu:IntKind.wrap .u64 n=n%18446744073709551616:=IntKind.wrap_u64 n;rw [<- hn] at hxr;have hsh:=Vn n (by omega);simp only [go_sem,seval,ints_at l hi',az,<- hn,<- hS,hu];refine ⟨by omega,?_⟩;refine aa.sem rfl ?_
   with_reducible refine gU.yX (k:=196) (fn:=Tryz.f196) (i:=S%18446744073709551616) (j:=n%18446744073709551616) (m:=0) ?_ Tryz.func196 ?_ ?_ mg mD ?_ ?_ ?_ ?_ ?_ ?_ ?_ ?_ ?_
   iterate 11 (first | rfl | omega)
   simp only [go_sem,seval,hsh];refine aa.sem rfl ?_
   with_reducible refine gU.yX (k:=196) (fn:=Tryz.f196) (i:=S / 18446744073709551616%18446744073709551616) (j:=if 0<=n then 0 else 18446744073709551615) (m:=(S%18446744073709551616+n%18446744073709551616+0) / 18446744073709551616) ?_ Tryz.func196 ?_ ?_ mg mD ?_ ?_ ?_ ?_ ?_ ?_ ?_ ?_ ?_
   iterate 7 (first | rfl | omega)
   ·split<;>omega
   iterate 3 (first | rfl | omega)
   rw [VI S n hxr _ rfl,Mm];simp only [go_sem,seval,hw];refine ah.next hi' trivial ?_
   simp only [go_sem,seval,hnext]
  ·obtain rfl:i=l.length:=by omega
   obtain ⟨S,hS⟩:=aO (aC l);have hSr:=vI hb;have hf:=Cu S (by rw [hS];omega);have e1:qC l=if bS S then S else 0:=by simp [qC,hb,hS]
   have e2:qU l=if bS S then 0 else 1:=by simp [qU,hb,hS]
   rw [e1,e2];simp only [go_sem,seval,List.take_length,<- hS];refine aa.pure hf ?_;simp only [go_sem,seval]
theorem CU (r:aq) (n:Int) (hl:r.small):Abs.Spec Tryz.prog 124 [] [.agg r.cells,.int .i64 n] [] (.bD [.agg (fP av.a n ⟨0,0,0,0⟩ r.xs).cells,.bool (decide (0<=iG av.a n r.xs))]):=by
 have hf:=AP r.xs n (by have:=hl.2.2;omega);simp only [av.cells] at hf |-;simp only [aq.cells,av.cells];refine aU 18 2 [.cell 4 111,.tmp 5] mixed Tryz.func124 ?_;simp only [go_sem,seval];refine aa.pure hf ?_;simp only [go_sem,seval]
structure bJ where
 kind:Int
 who:Int
 cur:Int
 sum:Int
@[reducible] def bJ.cells (x:bJ):List D:=[.int .i64 x.kind,.int .i64 x.who,.int .i64 x.cur,.int .i64 x.sum]
def bJ.bK (x:bJ):aJ:=⟨x.kind,x.who,x.cur⟩
structure bn where
 last:Int
 bs:List bJ
def bn.cells (l:bn):List D:=[.int .i64 l.last,.sl 4 (l.bs.map bJ.cells)]
def V1 (a:aJ) (b:bJ):Bool:=b.kind==a.kind&&(b.who==a.who&&b.cur==a.cur)
def gG (a:aJ):List bJ->Int
 | []=>0
 | b :: r=>if V1 a b then b.sum else gG a r
def gv (c:Int) (bs:List bJ):List Int:=(bs.filter fun b=>b.cur==c).map bJ.sum
theorem N3 (c:Int) (bs:List bJ) {i:Nat} (h:i < bs.length):gv c (bs.take (i+1))=if bs[i].cur==c then gv c (bs.take i)++[bs[i].sum] else gv c (bs.take i):=by
 simp only [gv];rw [List.take_succ_eq_append_getElem h,List.filter_append,List.map_append];cases hb:bs[i].cur==c<;>simp [List.filter,hb]
theorem J2 (c:Int) (bs:List bJ):(gv c bs).length<=bs.length:=by
 simp only [gv,aI];exact List.length_filter_le _ _
theorem Bn (x:Int):Abs.Spec Tryz.prog 115 [] [.int .i64 x] [] (.bool true):=by
 refine aU 3 1 [.tmp 2] mixed Tryz.func115 ?_;simp only [go_sem,seval]
theorem NY (l:bn) (c:Int) (hl:l.bs.length < 2 ^ 30):Abs.Spec Tryz.prog 114 [] [.agg l.cells,.int .i64 c,.fn 115 []] [.own 1 (ints (gv c l.bs))] (.ref 0):=by
 simp only [bn.cells];refine aU 36 3 [.tmp 6] mixed Tryz.func114 ?_;simp only [go_sem,seval,aI];refine aB.count l.bs.length [1,2,11,12] [64,208] (fun i=>[(13,.int .i64 i),(7,.ref 544)]) (fun i=>[(544,.own 1 (ints (gv c (l.bs.take i))))]) (fun i=>True) trivial ?_ ?_
 ·simp only [go_sem,seval]<;>simp [gv,ints]
 ·intro i hi _;simp only [go_sem,seval];refine bH.aF (fun h=>?_) (fun h=>?_)
  ·have hi':i < l.bs.length:=by omega
   have hw:IntKind.wrap .i64 ((i:Int)+1)=((i+1:Nat):Int):=by rw [bz (by omega) (by omega)];omega
   have hm:=aD (c:=bJ.cells) l.bs hi';have hs:=N3 c l.bs hi';have hlen:=J2 c (l.bs.take i);have hlt:(l.bs.take i).length<=l.bs.length:=by simp;omega
   simp only [bJ.cells] at hm;simp only [go_sem,seval,hm];refine ⟨by omega,?_⟩;cases hb:l.bs[i].cur==c
   ·rw [hb] at hs;simp only [ir,if_false] at hs;simp only [go_sem,seval,hw];refine ah.next hi' trivial ?_
    simp only [go_sem,seval,hs]
   ·rw [hb,if_pos rfl] at hs;have hk:=Bn l.bs[i].kind;simp only [go_sem,seval];refine aa.pure hk ?_;simp only [go_sem,seval,hw,az];refine ⟨by omega,ah.next hi' trivial ?_⟩;simp only [go_sem,seval,hs]<;>simp [ints]
  ·obtain rfl:i=l.bs.length:=by omega
   simp only [go_sem,seval,List.take_length]
def kB (b:bJ):Bool:=b.bK.right&&(bS b.sum&&(b.sum != 0&&!decide (b.sum < b.bK.floor)))
def mh (bs:List bJ) (i:Nat):Bool:=
 match bs[i]? with
 | none=>true
 | some b=>kB b&&(match i with
  | 0=>true
  | j+1=>match bs[j]? with
   | some q=>q.bK.less b.bK
   | none=>true)
theorem jD {bs:List bJ} (h:0 < bs.length):mh bs 0=kB bs[0]:=by simp [mh,h]
theorem iN {bs:List bJ} {j:Nat} (h:j+1 < bs.length):mh bs (j+1)=(kB bs[j+1]&&(bs[j]'(by omega)).bK.less bs[j+1].bK):=by
 have h':j < bs.length:=by omega
 simp [mh,h,h']
def jY (bs:List bJ):Bool:=(List.range bs.length).all (mh bs)
theorem wA {bs:List bJ} {i:Nat} (h:i < bs.length) (hn:mh bs i=false):jY bs=false:=by
 cases hc:jY bs
 ·rfl
 ·rw [List.all_eq_true.1 hc i (List.mem_range.2 h)] at hn;cases hn
theorem pq {bs:List bJ} (h:∀ i < bs.length,mh bs i=true):jY bs=true:=List.all_eq_true.2 fun i hi=>h i (List.mem_range.1 hi)
def jJ (bs:List bJ) (c:Int):Bool:=qU (gv c bs)==0&&qC (gv c bs)==0
def bn.okB (l:bn):Bool:=decide (0<=l.last)&&jY l.bs&&(jJ l.bs 0&&jJ l.bs 1&&jJ l.bs 2)
theorem Ej (l:bn) (hl:l.bs.length < 2 ^ 30):Abs.Spec Tryz.prog 33 [] [.agg l.cells] [] (.int .i64 (if l.okB then 0 else 14)):=by
 have hsums:=fun c=>NY l c hl
 simp only [bn.cells] at hsums |-;refine aU 78 1 [.tmp 2] mixed Tryz.func33 ?_;simp only [go_sem,seval,aI];rcases Int.lt_or_le l.last 0 with h0 | h0
 ·have d0:decide (l.last < 0)=true:=by simpa using h0
  have e:l.okB=false:=by simp [bn.okB];omega
  simp only [go_sem,seval,d0,e]<;>simp
 have d0:decide (l.last < 0)=false:=by simpa using h0
 simp only [go_sem,seval,d0,aI];refine aB.count l.bs.length [1,12,13] [32,224] (fun i=>[(14,.int .i64 i)]) (fun i=>[]) (fun i=>∀ j < i,mh l.bs j=true) (by simp) ?_ ?_
 ·simp only [go_sem,seval]<;>simp
 ·intro i hi hI;simp only [go_sem,seval];refine bH.aF (fun h=>?_) (fun h=>?_)
  ·have hi':i < l.bs.length:=by omega
   have hw:IntKind.wrap .i64 ((i:Int)+1)=((i+1:Nat):Int):=by rw [bz (by omega) (by omega)];omega
   have hm:=aD (c:=bJ.cells) l.bs hi';have h1:=sK l.bs[i].bK;have h2:Abs.Spec Tryz.prog 106 [] [.sl 1 [[.int .i64 l.bs[i].sum]]] [] (.bool (right [l.bs[i].sum])):=lg [l.bs[i].sum] (by simp);have h3:=C4 l.bs[i].bK;rw [p7] at h2
   have e0:mh l.bs i=true->∀ k < i+1,mh l.bs k=true:=fun h0 k hk=>by
    rcases Nat.lt_or_ge k i with h | h
    ·exact hI k h
    ·obtain rfl:k=i:=by omega
     exact h0
   have e1:mh l.bs i=false->l.okB=false:=fun hx=>by simp [bn.okB,wA hi' hx]
   simp only [bJ.cells,aJ.cells,bJ.bK] at hm h1 h3;rcases Nat.eq_zero_or_pos i with rfl | hpos
   ·have hk:=jD hi';simp only [kB,bJ.bK] at hk;clear hsums;simp only [go_sem,seval,hm]
    repeat' with_reducible first|apply And.intro|exact .dq|refine aa.pure (by assumption) ?_|(refine aa.gen [] [] true (by simp) ?_;simp only [go_sem,seval];refine bg.intro h2 ?_)|refine .aH (fun h=>?_) fun h=>?_|refine .aF (fun h=>?_) fun h=>?_|refine .aK (fun h=>?_) fun h=>?_|refine .split (fun h=>?_) fun h=>?_|refine .id ?_|refine ah.next (by omega) ?_ ?_|exact trivial|simp only [*,go_sem,seval]
    all_goals first
     | omega
     | rfl
     | (refine e0 ?_;clear e0 e1;rw [hk];clear hk;simp [bne, *];done)
     | (rw [e1 ?_]
        ·rfl
        ·clear e0 e1;rw [hk];clear hk;simp [bne, *];done)
   ·obtain ⟨j,rfl⟩:∃ j,i=j+1:=⟨i-1,by omega⟩
    have hj:j < l.bs.length:=by omega
    have hw1:IntKind.wrap .i64 (((j+1:Nat):Int)-1)=(j:Int):=by rw [bz (by omega) (by omega)];omega
    have hk:=iN hi';simp only [kB,bJ.bK] at hk;have hmj:=aD (c:=bJ.cells) l.bs hj;have h4:=EO l.bs[j].bK l.bs[j+1].bK;simp only [bJ.cells,aJ.cells,bJ.bK] at hmj h4;clear hsums;simp only [go_sem,seval,hm]
    repeat' with_reducible first|apply And.intro|exact .dq|refine aa.pure (by assumption) ?_|(refine aa.gen [] [] true (by simp) ?_;simp only [go_sem,seval];refine bg.intro h2 ?_)|refine .aH (fun h=>?_) fun h=>?_|refine .aF (fun h=>?_) fun h=>?_|refine .aK (fun h=>?_) fun h=>?_|refine .split (fun h=>?_) fun h=>?_|refine .id ?_|refine ah.next (by omega) ?_ ?_|exact trivial|simp only [*,go_sem,seval,hmj]
    all_goals first
     | omega
     | rfl
     | (refine e0 ?_;clear e0 e1;rw [hk];clear hk;simp [bne, *];done)
     | (rw [e1 ?_]
        ·rfl
        ·clear e0 e1;rw [hk];clear hk;simp [bne, *];done)
  ·obtain rfl:i=l.bs.length:=by omega
   have hs:=pq hI;simp only [go_sem,seval];refine aB.count 3 [1] [32] (fun i=>[(61,.int .i64 i)]) (fun i=>[]) (fun i=>∀ c < i,jJ l.bs (c:Nat)=true) (by simp) ?_ ?_
   ·simp only [go_sem,seval]<;>simp
   ·intro c hc hC;simp only [go_sem,seval];refine bH.aF (fun h=>?_) (fun h=>?_)
    ·have hc':c < 3:=by omega
     have hw:IntKind.wrap .i64 ((c:Int)+1)=((c+1:Nat):Int):=by rw [bz (by omega) (by omega)];omega
     have hlen:=J2 c l.bs;have hsum:=IC (gv c l.bs) (by omega)
     have hbad:jJ l.bs c=false->l.okB=false:=fun hx=>by
      obtain rfl | rfl | rfl:c=0\/c=1\/c=2:=by omega
      ·have:jJ l.bs 0=false:=hx;simp [bn.okB,this]
      ·have:jJ l.bs 1=false:=hx;simp [bn.okB,this]
      ·have:jJ l.bs 2=false:=hx;simp [bn.okB,this]
     simp only [go_sem,seval];refine aa.gen [] [] false (by simp) ?_;simp only [go_sem,seval];refine bg.intro (hsums c) ?_;simp only [go_sem,seval];refine aa.gen [] [] true (by simp) ?_;simp only [go_sem,seval];refine bg.intro hsum ?_;cases hE:qU (gv c l.bs)==0
     ·have e:l.okB=false:=hbad (by simp [jJ,hE]);have hE':(qU (gv c l.bs) != 0)=true:=by simp [bne,hE]
      simp only [go_sem,seval,hE',e]<;>simp
     have hE':(qU (gv c l.bs) != 0)=false:=by simp [bne,hE]
     cases hN:qC (gv c l.bs)==0
     ·have e:l.okB=false:=hbad (by simp [jJ,hE,hN]);have hN':(qC (gv c l.bs) != 0)=true:=by simp [bne,hN]
      simp only [go_sem,seval,hE',hN',e]<;>simp
     have hN':(qC (gv c l.bs) != 0)=false:=by simp [bne,hN]
     simp only [go_sem,seval,hE',hN',hw];refine ah.next hc' ?_ ?_
     ·intro k hk;rcases Nat.lt_or_ge k c with h | h
      ·exact hC k h
      ·obtain rfl:k=c:=by omega
       simp [jJ,hE,hN]
     ·simp only [go_sem,seval]
    ·obtain rfl:c=3:=by omega
     have b0:jJ l.bs 0=true:=hC 0 (by omega);have b1:jJ l.bs 1=true:=hC 1 (by omega);have b2:jJ l.bs 2=true:=hC 2 (by omega);have e:l.okB=true:=by simp [bn.okB,hs,b0,b1,b2,h0]
     simp only [go_sem,seval,e]<;>simp
def Dh (r:aq) (x:eW):av:=fP av.a x.bF ⟨0,0,0,0⟩ r.xs
def Mo (r:aq) (w c:Int) (x:eW):Bool:=decide (0<=iG av.a x.bF r.xs)&&(x.who==w&&(Dh r x).b==c)
def iL (r:aq) (w c:Int) (ps:List eW):List Int:=(ps.filter (Mo r w c)).map fun x=>(Dh r x).V x.units
def jo (r:aq) (w c:Int):List eW->Int
 | []=>0
 | x :: l=>if Mo r w c x&&(Dh r x).E x.units != 0 then (Dh r x).E x.units else jo r w c l
theorem Lv (r:aq) (w c:Int) (ps:List eW) {i:Nat} (h:i < ps.length):iL r w c (ps.take (i+1))=if Mo r w c ps[i] then iL r w c (ps.take i)++[(Dh r ps[i]).V ps[i].units] else iL r w c (ps.take i):=by
 simp only [iL];rw [List.take_succ_eq_append_getElem h,List.filter_append,List.map_append];cases hb:Mo r w c ps[i]<;>simp [List.filter,hb]
theorem EY (r:aq) (w c:Int) (ps:List eW):(iL r w c ps).length<=ps.length:=by
 simp only [iL,aI];exact List.length_filter_le _ _
def vD (l:bn) (r:aq) (ps:List eW):Int:=if l.okB&&r.okB&&gj ps then 0 else 14
def H7 (l:bn) (r:aq) (ps:List eW) (w c:Int):Int:=
 if vD l r ps != 0 then vD l r ps else if jo r w c ps != 0 then jo r w c ps else qU (gG ⟨2,w,c⟩ l.bs :: iL r w c ps)
def Ig (l:bn) (r:aq) (ps:List eW) (w c:Int):Int:=
 if vD l r ps != 0 then 0 else if jo r w c ps != 0 then 0 else qC (gG ⟨2,w,c⟩ l.bs :: iL r w c ps)
def acd (r:aq) (w c:Int) (x:eW):Int:=if Mo r w c x then (Dh r x).V x.units else 0
def SQ (r:aq) (w c:Int):List eW->Int
 | []=>0
 | x :: l=>acd r w c x+SQ r w c l
theorem Nu (r:aq) (w c:Int):∀ ps:List eW,aC (iL r w c ps)=SQ r w c ps
 | []=>rfl
 | x :: l=>by
  have ih:=Nu r w c l;simp only [iL] at ih;simp only [SQ,acd,iL,List.filter];cases hb:Mo r w c x
  ·simp only [ir,if_false,ih];omega
  ·simp only [List.map_cons,aC,if_true,ih]
theorem cR {x:Int}:bS x=true ↔ -4611686018427387904<=x/\x<=4611686018427387904:=by simp [bS]
def Ut (a b:Int):Int:=if bS a&&(bS b&&bS (a-b)) then a-b else 0
def Un (a b:Int):Int:=if bS a&&bS b then (if bS (a-b) then 0 else 1) else 3
def wd (S:Int):List D:=[.int .i64 (S / 18446744073709551616),.int .u64 (S%18446744073709551616)]
theorem rq (n:Int) (h:-9223372036854775808<=n/\n<=9223372036854775807):Abs.Spec Tryz.prog 269 [] [.int .i64 n] [] (.agg (wd n)):=by
 have h2:IntKind.wrap .u64 n=n%18446744073709551616:=IntKind.wrap_u64 n;refine aU 11 1 [.cell 2 214] mixed Tryz.func269 ?_;rcases Int.lt_or_le n 0 with hn | hn
 ·have d:decide (n < 0)=true:=decide_eq_true hn;have e:n / 18446744073709551616 = -1:=by omega
  simp only [go_sem,seval,d,h2,wd,e]
 ·have d:decide (n < 0)=false:=decide_eq_false (by omega);have e:n / 18446744073709551616=0:=by omega
  simp only [go_sem,seval,d,h2,wd,e]
def qz (l:List Int):List (List D):=l.map wd
@[go_sem] theorem xH (l:List Int):(qz l).length=l.length:=by simp [qz]
theorem vC (l:List Int) {i:Nat} (h:i < l.length):(qz l).getD i []=[.int .i64 (l[i] / 18446744073709551616),.int .u64 (l[i]%18446744073709551616)]:=by simp [qz,h,wd]
def xJ (S:Int):Bool:=decide (-170141183460469231731687303715884105728<=S)&&decide (S < 170141183460469231731687303715884105728)
theorem Nc (S n:Int):((S / 18446744073709551616)%18446744073709551616+(n / 18446744073709551616)%18446744073709551616+(S%18446744073709551616+n%18446744073709551616+0) / 18446744073709551616)%18446744073709551616=((S+n) / 18446744073709551616)%18446744073709551616:=by
 have h1:(S+n) / 18446744073709551616=S / 18446744073709551616+n / 18446744073709551616+(S%18446744073709551616+n%18446744073709551616+0) / 18446744073709551616:=by omega
 rw [h1];omega
theorem div_add (S n:Int):S / 18446744073709551616+n / 18446744073709551616+(S%18446744073709551616+n%18446744073709551616+0) / 18446744073709551616=(S+n) / 18446744073709551616:=by omega
theorem xK:∀ {l:List Int},(∀ n∈l,xJ n=true) -> -170141183460469231731687303715884105728*(l.length:Int)<=aC l/\aC l<=170141183460469231731687303715884105728*(l.length:Int)
 | [],_=>by simp [aC]
 | x :: r,h=>by
  have h2:=xK (l:=r) fun n hn=>h n (by simp [hn])
  have h1:=h x (by simp);simp only [xJ,cg,decide_eq_true_eq] at h1;simp only [aC,List.length_cons];push_cast;omega
theorem cY (n:Int):Abs.Spec Tryz.prog 168 [] [.int .i64 n] [] (.bool (bS n)):=by
 refine aU 9 1 [.tmp 2] mixed Tryz.func168 ?_;simp only [go_sem,seval]
 repeat' with_reducible first|apply And.intro|exact .dq|refine aa.pure (by assumption) ?_|refine .aH (fun h=>?_) fun h=>?_|refine .aF (fun h=>?_) fun h=>?_|refine .aK (fun h=>?_) fun h=>?_|refine .split (fun h=>?_) fun h=>?_|refine .id ?_|refine ah.next (by omega) ?_ ?_|exact trivial|simp only [*,go_sem,seval]
 all_goals (rw [Bool.eq_iff_iff];simp [bS];omega)
theorem jR (S:Int):Abs.Spec Tryz.prog 271 [] [.agg (wd S)] [] (.bD [.int .i64 (if bS S then S else 0),.bool (bS S)]):=by
 obtain ⟨n,hn⟩:=aO (IntKind.wrap .i64 (S%18446744073709551616))
 have hn1:n=if S%18446744073709551616 < 9223372036854775808 then S%18446744073709551616 else S%18446744073709551616-18446744073709551616:=by
  rw [hn,IntKind.wrap_i64];split<;>omega
 have hnr:-9223372036854775808<=n/\n<=9223372036854775807:=by rw [hn1];split<;>omega
 have hO:=rq n hnr;have hr:=cY n;have hm:(n%18446744073709551616==S%18446744073709551616)=true:=by rw [beq_iff_eq,hn1];split<;>omega
 simp only [wd] at hO |-;refine aU 18 1 [.tmp 2,.tmp 3] mixed Tryz.func271 ?_;simp only [go_sem,seval,<- hn];refine ⟨ji.mk (by kernel_rfl),aa.pure hO ?_⟩
 by_cases hS:-9223372036854775808<=S/\S < 9223372036854775808
 ·have hnS:n=S:=by rw [hn1];split<;>omega
  have hq:(n / 18446744073709551616==S / 18446744073709551616)=true:=by rw [hnS];exact beq_self_eq_true _
  simp only [go_sem,seval,hm,hq];refine ⟨DH.mk (by kernel_rfl),aa.pure hr ?_⟩;rw [hnS];cases hi:bS S
  ·simp only [go_sem,seval,hi,ir,if_false]
  ·simp only [go_sem,seval,hi,if_true]
 ·have hq:(n / 18446744073709551616==S / 18446744073709551616)=false:=by
   rw [beq_eq_false_iff_ne,hn1];split<;>omega
  have hi:bS S=false:=by simp only [bS,Bool.and_eq_false_iff,decide_eq_false_iff_not];omega
  simp only [go_sem,seval,hm,hq,hi,ir,if_false];exact DH.mk (by kernel_rfl)
theorem QB (A B c:Int) (hc:0<=c/\c<=1) (hB:-9223372036854775808<=B/\B<=9223372036854775807) :
  A / 18446744073709551616+(A%18446744073709551616+B%18446744073709551616+c) / 18446744073709551616+(if B < 0 then -1 else 0)=(A+B+c) / 18446744073709551616:=by
 split<;>omega
theorem jO (l:List Int) (hl:l.length < 2 ^ 58) (hr:∀ n∈l,xJ n=true):Abs.Spec Tryz.prog 270 [] [.sl 2 (qz l)] [] (.bD [.agg (wd (if xJ (aC l) then aC l else 0)),.bool (xJ (aC l))]):=by
 refine aU 75 1 [.cell 2 214,.tmp 3] mixed Tryz.func270 ?_;simp only [go_sem,seval];refine aB.count l.length [0,2] [48] (fun i=>[(7,.int .i64 i),(6,.int .u64 (aC (l.take i)%18446744073709551616)),(5,.int .u64 ((aC (l.take i) / 18446744073709551616)%18446744073709551616)),(4,.int .i64 (aC (l.take i) / 18446744073709551616 / 18446744073709551616))]) (fun i=>[]) (fun i=>True) trivial ?_ ?_
 ·simp only [go_sem,seval]<;>simp [aC]
 ·intro i hi _;simp only [go_sem,seval];refine bH.aF (fun h=>?_) (fun h=>?_)
  ·have hi':i < l.length:=by omega
   have hw:IntKind.wrap .i64 ((i:Int)+1)=((i+1:Nat):Int):=by rw [bz (by omega) (by omega)];omega
   have hx:=hr l[i] (List.getElem_mem hi');have hpre:∀ n∈l.take i,xJ n=true:=fun n hn=>hr n (List.mem_of_mem_take hn)
   have hSr:=xK hpre;have hlt:(l.take i).length<=l.length:=by simp;omega
   obtain ⟨S,hS⟩:=aO (aC (l.take i));obtain ⟨n,hn⟩:=aO (l[i]);have hnext:aC (l.take (i+1))=S+n:=by rw [List.take_succ_eq_append_getElem hi',wm,hS,hn]
   rw [<- hn] at hx;rw [<- hS] at hSr;simp only [xJ,cg,decide_eq_true_eq] at hx;obtain ⟨B,hB⟩:=aO (n / 18446744073709551616);have hBr:-9223372036854775808<=B/\B<=9223372036854775807:=by omega
   have hu:IntKind.wrap .u64 B=B%18446744073709551616:=IntKind.wrap_u64 B;obtain ⟨c,hc⟩:=aO ((S%18446744073709551616+n%18446744073709551616+0) / 18446744073709551616);have hcr:0<=c/\c<=1:=by omega
   have h3:=QB (S / 18446744073709551616) B c hcr hBr;have h2:=Nc S n;have h4:=div_add S n;rw [<- hB,<- hc] at h2 h4;rw [h4] at h3;obtain ⟨d,hd⟩:=aO ((S / 18446744073709551616%18446744073709551616+B%18446744073709551616+c) / 18446744073709551616);have hdr:0<=d/\d<=1:=by omega
   obtain ⟨tp,htp⟩:=aO (S / 18446744073709551616 / 18446744073709551616);have htr:-4611686018427387904<=tp/\tp<=4611686018427387904:=by omega
   have w1:IntKind.wrap .i64 d=d:=bz (by omega) (by omega);have w2:IntKind.wrap .i64 (tp+d)=tp+d:=bz (by omega) (by omega);have w3:IntKind.wrap .i64 (tp+d-1)=tp+d-1:=bz (by omega) (by omega);rw [<- htp,<- hd] at h3;simp only [go_sem,seval,vC l hi',<- hn,<- hS,<- hB];refine ⟨by omega,?_⟩;refine aa.sem rfl ?_
   with_reducible refine gU.yX (k:=196) (fn:=Tryz.f196) (i:=S%18446744073709551616) (j:=n%18446744073709551616) (m:=0) ?_ Tryz.func196 ?_ ?_ mg mD ?_ ?_ ?_ ?_ ?_ ?_ ?_ ?_ ?_
   iterate 11 (first | rfl | omega)
   simp only [go_sem,seval,hu,<- hc,vC l hi',<- hn,<- hB];refine ⟨by omega,?_⟩;refine aa.sem rfl ?_
   with_reducible refine gU.yX (k:=196) (fn:=Tryz.f196) (i:=S / 18446744073709551616%18446744073709551616) (j:=B%18446744073709551616) (m:=c) ?_ Tryz.func196 ?_ ?_ mg mD ?_ ?_ ?_ ?_ ?_ ?_ ?_ ?_ ?_
   iterate 11 (first | rfl | omega)
   rw [<- hd,h2,Mm];rcases Int.lt_or_le B 0 with hB0 | hB0
   ·have db:decide (B < 0)=true:=decide_eq_true hB0;rw [if_pos hB0] at h3;have h5:tp+d-1=(S+n) / 18446744073709551616 / 18446744073709551616:=by omega
    simp only [go_sem,seval,<- htp,w1,w2,vC l hi',<- hn,<- hB,db,w3,hw];refine ⟨by omega,ah.next hi' trivial ?_⟩;simp only [go_sem,seval,hnext,h5]
   ·have db:decide (B < 0)=false:=decide_eq_false (by omega);rw [if_neg (by omega)] at h3;have h5:tp+d=(S+n) / 18446744073709551616 / 18446744073709551616:=by omega
    simp only [go_sem,seval,<- htp,w1,w2,vC l hi',<- hn,<- hB,db,hw];refine ⟨by omega,ah.next hi' trivial ?_⟩;simp only [go_sem,seval,hnext,h5]
  ·obtain rfl:i=l.length:=by omega
   obtain ⟨T,hT⟩:=aO (aC l);have hTr:=xK hr;rw [<- hT] at hTr |-;obtain ⟨A,hA⟩:=aO (T / 18446744073709551616);obtain ⟨m,hm⟩:=aO (IntKind.wrap .i64 (A%18446744073709551616))
   have hm1:m=if A%18446744073709551616 < 9223372036854775808 then A%18446744073709551616 else A%18446744073709551616-18446744073709551616:=by
    rw [hm,IntKind.wrap_i64];split<;>omega
   obtain ⟨tp,htp⟩:=aO (A / 18446744073709551616)
   by_cases hi:xJ T=true
   ·have hi2:=hi;simp only [xJ,cg,decide_eq_true_eq] at hi2;have hmA:m=A:=by rw [hm1];split<;>omega
    rw [if_pos hi,hi];rcases Int.lt_or_le A 0 with hs | hs
    ·have b1:(tp==0)=false:=by rw [beq_eq_false_iff_ne];omega
     have b2:(tp == -1)=true:=by rw [beq_iff_eq];omega
     have b3:decide (A < 0)=true:=decide_eq_true hs;simp only [go_sem,seval,List.take_length,<- hT,<- hA,<- hm,<- htp,hmA,b1,b2,b3,wd]
    ·have b1:(tp==0)=true:=by rw [beq_iff_eq];omega
     have b3:decide (0<=A)=true:=decide_eq_true hs;simp only [go_sem,seval,List.take_length,<- hT,<- hA,<- hm,<- htp,hmA,b1,b3,wd]
   ·have hi2:¬ (-170141183460469231731687303715884105728<=T/\T < 170141183460469231731687303715884105728):=by
     simpa only [xJ,cg,decide_eq_true_eq] using hi
    have hif:xJ T=false:=by simpa using hi
    rw [if_neg hi,hif];have hw0:wd 0=[.int .i64 0,.int .u64 0]:=rfl;rcases Int.lt_or_le m 0 with hs | hs
    ·have b2:(tp == -1)=false:=by rw [beq_eq_false_iff_ne];rw [hm1] at hs;split at hs<;>omega
     have b3:decide (m < 0)=true:=decide_eq_true hs;have b4:decide (0<=m)=false:=decide_eq_false (by omega);cases b1:(tp==0)<;>simp only [go_sem,seval,List.take_length,<- hT,<- hA,<- hm,<- htp,b1,b2,b3,b4,hw0]
    ·have b1:(tp==0)=false:=by rw [beq_eq_false_iff_ne];rw [hm1] at hs;split at hs<;>omega
     have b3:decide (m < 0)=false:=decide_eq_false (by omega);cases b2:(tp == -1)<;>simp only [go_sem,seval,List.take_length,<- hT,<- hA,<- hm,<- htp,b1,b2,b3,hw0]
end Go.Proofs.YtacacccbcndjoaaGreat
