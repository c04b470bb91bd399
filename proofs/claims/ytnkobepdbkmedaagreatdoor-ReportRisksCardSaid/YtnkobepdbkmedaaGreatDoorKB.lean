/- A roll is right: members, instruments, assets, and what follows. No theorem of a claim. -/
import Derived.Test.YtnkobepdbkmedaaGreatDoorKA
import Derived.Test.YtnkobepdbkmedaaGreatDoorAbcWalk
set_option linter.unusedSimpArgs false
set_option linter.unusedVariables false
set_option maxHeartbeats 4000000
set_option maxRecDepth 16000
namespace Go.Proofs.YtnkobepdbkmedaaGreatDoor
open Go.Abs
structure ak where
 no:Int
 state:Int
 need:Int
@[reducible] def ak.cells (x:ak):List D:=[.int .i64 x.no,.int .i64 x.state,.int .i64 x.need]
def ak.ok (x:ak):Bool:=within x.no 1 16&&within x.state 1 3&&bL x.need&&decide (0<=x.need)
theorem qk (x:ak):Abs.Spec Tryz.prog 56 [] [.agg x.cells] [] (.int .i64 x.no):=by
 refine bu 5 1 [.tmp 2] mixed Tryz.func56 ?_;simp only [ak.cells];simp only [go_sem,seval]
theorem qR (x:ak):Abs.Spec Tryz.prog 136 [] [.agg x.cells] [] (.bool x.ok):=by
 have h1:=fJ x.no 1 16;have h2:=fJ x.state 1 3;have h3:=gA [x.need] (by simp);rw [mG] at h3;simp only [ak.cells];refine bu 22 1 [.tmp 2] mixed Tryz.func136 ?_;simp only [go_sem,seval];refine aa.pure h1 ?_;cases hb1:within x.no 1 16
 ·have e:x.ok=false:=by simp [ak.ok,hb1]
  simp only [go_sem,seval,e]
 simp only [go_sem,seval];refine aa.pure h2 ?_;cases hb2:within x.state 1 3
 ·have e:x.ok=false:=by simp [ak.ok,hb2]
  simp only [go_sem,seval,e]
 simp only [go_sem,seval];refine aa.gen [] [] true (by simp) ?_;simp only [go_sem,seval];refine aU.intro h3 ?_;cases hb3:bL x.need
 ·have e:x.ok=false:=by simp [ak.ok,hb3]
  simp only [go_sem,seval,e]
 have e:x.ok=decide (0<=x.need):=by simp [ak.ok,hb1,hb2,hb3]
 simp only [go_sem,seval,e]
structure ay where
 no:Int
 cur:Int
 mult:Int
 add:Int
 set:Int
 aX:Int
 s0:Int
 s1:Int
 s2:Int
 s3:Int
 s4:Int
 s5:Int
@[reducible] def ay.cells (x:ay):List D:=[.int .i64 x.no,.int .i64 x.cur,.int .i64 x.mult,.int .i64 x.add,.int .i64 x.set,.int .i64 x.aX,.int .i64 x.s0,.int .i64 x.s1,.int .i64 x.s2,.int .i64 x.s3,.int .i64 x.s4,.int .i64 x.s5]
def ay.sh (x:ay):Nat->Int
 | 0=>x.s0 | 1=>x.s1 | 2=>x.s2 | 3=>x.s3 | 4=>x.s4 | _=>x.s5
def ay.Li (x:ay):Bool:=(List.range 6).all fun i=>within (x.sh i) (-1073741824) 1073741824
def ay.ok (x:ay):Bool:=x.Li&&within x.no 1 8&&within x.cur 0 2&&within x.mult 1 1024&&within x.add 0 1073741824&&within x.set 0 1073741824&&within x.aX 0 1073741824
theorem tS (x:ay):Abs.Spec Tryz.prog 138 [] [.agg x.cells] [] (.int .i64 x.no):=by
 refine bu 5 1 [.tmp 2] mixed Tryz.func138 ?_;simp only [ay.cells];simp only [go_sem,seval]
theorem tP (x:ay):Abs.Spec Tryz.prog 139 [] [.agg x.cells] [] (.bool x.ok):=by
 have h1:=fJ x.no 1 8;have h2:=fJ x.cur 0 2;have h3:=fJ x.mult 1 1024;have h4:=fJ x.add 0 1073741824;have h5:=fJ x.set 0 1073741824;have h6:=fJ x.aX 0 1073741824;simp only [ay.cells];refine bu 42 1 [.tmp 2] mixed Tryz.func139 ?_;simp only [go_sem,seval];refine aC.count 6 [1,6] [32] (fun i=>[(7,.int .i64 i)]) (fun i=>[]) (fun i=>∀ j < i,within (x.sh j) (-1073741824) 1073741824=true) (by simp) ?_ ?_
 ·simp only [go_sem,seval]
 ·intro i hi hI;simp only [go_sem,seval];refine bH.aO (fun h=>?_) (fun h=>?_)
  ·have hi':i < 6:=by omega
   have hix:(List.drop (i*1) [D.int .i64 x.s0,D.int .i64 x.s1,D.int .i64 x.s2,D.int .i64 x.s3,D.int .i64 x.s4,D.int .i64 x.s5]).headD .undef=.int .i64 (x.sh i):=by
    rcases i with _ | _ | _ | _ | _ | _ | i<;>first | rfl | omega
   have hw:IntKind.wrap .i64 ((i:Int)+1)=((i+1:Nat):Int):=by rw [bn (by omega) (by omega)];omega
   have hv:=fJ (x.sh i) (-1073741824) 1073741824;simp only [go_sem,seval,hix];refine ⟨by omega,aa.pure hv ?_⟩;cases hb:within (x.sh i) (-1073741824) 1073741824
   ·have e1:x.Li=false:=by
     cases hc:x.Li
     ·rfl
     ·rw [ay.Li,List.all_eq_true] at hc;rw [hc i (List.mem_range.2 hi')] at hb;cases hb
    have e2:x.ok=false:=by simp [ay.ok,e1]
    simp only [go_sem,seval,e2]
   ·simp only [go_sem,seval,hw];refine ah.next hi' ?_ ?_
    ·intro j hj;rcases Nat.lt_or_ge j i with h | h
     ·exact hI j h
     ·obtain rfl:j=i:=by omega
      exact hb
    ·simp only [go_sem,seval]
  ·obtain rfl:i=6:=by omega
   have hs:x.Li=true:=List.all_eq_true.2 fun j hj=>hI j (List.mem_range.1 hj)
   have e:x.ok=(within x.no 1 8&&within x.cur 0 2&&within x.mult 1 1024&&within x.add 0 1073741824&&within x.set 0 1073741824&&within x.aX 0 1073741824):=by simp [ay.ok,hs]
   rw [e];clear hI e hs
   repeat' with_reducible first|apply And.intro|exact .dq|refine aa.pure (by assumption) ?_|refine aa.pure (h1) ?_|refine aa.pure (h2) ?_|refine aa.pure (h3) ?_|refine aa.pure (h4) ?_|refine aa.pure (h5) ?_|refine aa.pure (h6) ?_|refine .aT (fun h=>?_) fun h=>?_|refine .aO (fun h=>?_) fun h=>?_|refine .aS (fun h=>?_) fun h=>?_|refine .split (fun h=>?_) fun h=>?_|refine .id ?_|refine ah.next (by omega) ?_ ?_|exact trivial|simp only [*,go_sem,seval]
   all_goals (simp_all;done)
theorem BH (xs:List ak) (hl:xs.length < 2 ^ 62):Abs.Spec Tryz.prog 135 [] [.sl 3 (xs.map ak.cells),.fn 56 [],.fn 136 []] [] (.bool (gU ak.no ak.ok xs)):=by
 refine Abs.Spec.go (n:=38) (np:=3) (rs:=[.tmp 6]) mixed Tryz.func135 rfl rfl rfl rfl rfl (by simp) (by simp) ?_;simp only [go_sem,seval,aJ];refine ⟨Nat,fun i=>[(6,.bool false),(0,.sl 3 (xs.map ak.cells)),(1,.fn 56 []),(2,.fn 136 []),(9,.sl 3 (xs.map ak.cells)),(10,.int .i64 xs.length),(11,.int .i64 i)],fun i=>[],fun i=>i<=xs.length/\∀ j,j < i->cw ak.no ak.ok xs j=true,fun i=>xs.length-i,0,?_,?_,?_⟩
 ·simp
 ·simp only [go_sem,seval,aJ]<;>simp
 ·rintro i ⟨hi,hr⟩
  simp only [go_sem,seval];refine bH.split (fun h=>?_) (fun h=>?_)
  ·have hi':i < xs.length:=by simpa using h
   have bad:cw ak.no ak.ok xs i=false->gU ak.no ak.ok xs=false:=fun hx=>by
    simp only [gU,List.all_eq_false];exact ⟨i,List.mem_range.2 hi',by simp [hx]⟩
   simp only [go_sem,seval,Int.toNat_natCast,aG xs hi',ak.cells];refine ⟨by simp [hi'],?_⟩
   have next:cw ak.no ak.ok xs i=true->∀ j,j < i+1->cw ak.no ak.ok xs j=true:=fun hx j hj=>by
    rcases Nat.lt_succ_iff_lt_or_eq.1 hj with h1 | rfl
    ·exact hr j h1
    ·exact hx
   by_cases h0:0 < i
   ·have hw:IntKind.wrap .i64 ((i:Int)-1)=((i-1:Nat):Int):=by rw [wrap64 (by omega) (by omega)];omega
    have hp:i-1 < xs.length:=by omega
    have hg:decide (0 < (i:Int))=true:=by simp;omega
    have hm:=aG (c:=ak.cells) xs hp;have hra:=gw ak.no ak.ok xs hi' h0
    repeat' (with_reducible first
     | apply And.intro
     | exact gX.mk (by kernel_rfl)
     | exact B1.mk (by kernel_rfl)
     | refine aa.pure (qR _) ?_
     | refine aa.pure (qk _) ?_
     | refine bY.aS (fun h=>?_) (fun h=>?_)
     | refine bY.split (fun h=>?_) (fun h=>?_)
     | refine bH.split (fun h=>?_) (fun h=>?_)
     | refine fu.id ?_
     | simp only [hw,hg,hm,go_sem,seval, *,Int.toNat_natCast,ak.cells])
    ·simp;omega
    ·exact (bad (by rw [hra];simp at h;simp;intro _;omega)).symm
    ·refine ⟨i+1,⟨hi',next (by rw [hra];simp at h;simp [*])⟩,?_,by simp only;omega⟩;simp only [go_sem,seval,aJ];rw [wrap64 (by omega) (by omega)];simp
   ·have hg:decide (0 < (i:Int))=false:=by simp;omega
    have hra:=gr ak.no ak.ok xs hi' h0
    repeat' (with_reducible first
     | apply And.intro
     | exact gX.mk (by kernel_rfl)
     | exact B1.mk (by kernel_rfl)
     | refine aa.pure (qR _) ?_
     | refine aa.pure (qk _) ?_
     | refine bY.aS (fun h=>?_) (fun h=>?_)
     | refine bY.split (fun h=>?_) (fun h=>?_)
     | refine bH.split (fun h=>?_) (fun h=>?_)
     | refine fu.id ?_
     | simp only [hg,go_sem,seval, *,Int.toNat_natCast,ak.cells])
    ·refine ⟨i+1,⟨hi',next (by rw [hra];simp [*])⟩,?_,by simp only;omega⟩;simp only [go_sem,seval,aJ];rw [wrap64 (by omega) (by omega)];simp
  ·simp only [go_sem,seval];have:i=xs.length:=by simp at h;omega
   subst this
   symm
   simpa [gU] using hr
theorem ES (xs:List ay) (hl:xs.length < 2 ^ 62):Abs.Spec Tryz.prog 137 [] [.sl 12 (xs.map ay.cells),.fn 138 [],.fn 139 []] [] (.bool (gU ay.no ay.ok xs)):=by
 refine Abs.Spec.go (n:=38) (np:=3) (rs:=[.tmp 6]) mixed Tryz.func137 rfl rfl rfl rfl rfl (by simp) (by simp) ?_;simp only [go_sem,seval,aJ];refine ⟨Nat,fun i=>[(6,.bool false),(0,.sl 12 (xs.map ay.cells)),(1,.fn 138 []),(2,.fn 139 []),(9,.sl 12 (xs.map ay.cells)),(10,.int .i64 xs.length),(11,.int .i64 i)],fun i=>[],fun i=>i<=xs.length/\∀ j,j < i->cw ay.no ay.ok xs j=true,fun i=>xs.length-i,0,?_,?_,?_⟩
 ·simp
 ·simp only [go_sem,seval,aJ]<;>simp
 ·rintro i ⟨hi,hr⟩
  simp only [go_sem,seval];refine bH.split (fun h=>?_) (fun h=>?_)
  ·have hi':i < xs.length:=by simpa using h
   have bad:cw ay.no ay.ok xs i=false->gU ay.no ay.ok xs=false:=fun hx=>by
    simp only [gU,List.all_eq_false];exact ⟨i,List.mem_range.2 hi',by simp [hx]⟩
   simp only [go_sem,seval,Int.toNat_natCast,aG xs hi',ay.cells];refine ⟨by simp [hi'],?_⟩
   have next:cw ay.no ay.ok xs i=true->∀ j,j < i+1->cw ay.no ay.ok xs j=true:=fun hx j hj=>by
    rcases Nat.lt_succ_iff_lt_or_eq.1 hj with h1 | rfl
    ·exact hr j h1
    ·exact hx
   by_cases h0:0 < i
   ·have hw:IntKind.wrap .i64 ((i:Int)-1)=((i-1:Nat):Int):=by rw [wrap64 (by omega) (by omega)];omega
    have hp:i-1 < xs.length:=by omega
    have hg:decide (0 < (i:Int))=true:=by simp;omega
    have hm:=aG (c:=ay.cells) xs hp;have hra:=gw ay.no ay.ok xs hi' h0
    repeat' (with_reducible first
     | apply And.intro
     | exact gX.mk (by kernel_rfl)
     | exact B1.mk (by kernel_rfl)
     | refine aa.pure (tP _) ?_
     | refine aa.pure (tS _) ?_
     | refine bY.aS (fun h=>?_) (fun h=>?_)
     | refine bY.split (fun h=>?_) (fun h=>?_)
     | refine bH.split (fun h=>?_) (fun h=>?_)
     | refine fu.id ?_
     | simp only [hw,hg,hm,go_sem,seval, *,Int.toNat_natCast,ay.cells])
    ·simp;omega
    ·exact (bad (by rw [hra];simp at h;simp;intro _;omega)).symm
    ·refine ⟨i+1,⟨hi',next (by rw [hra];simp at h;simp [*])⟩,?_,by simp only;omega⟩;simp only [go_sem,seval,aJ];rw [wrap64 (by omega) (by omega)];simp
   ·have hg:decide (0 < (i:Int))=false:=by simp;omega
    have hra:=gr ay.no ay.ok xs hi' h0
    repeat' (with_reducible first
     | apply And.intro
     | exact gX.mk (by kernel_rfl)
     | exact B1.mk (by kernel_rfl)
     | refine aa.pure (tP _) ?_
     | refine aa.pure (tS _) ?_
     | refine bY.aS (fun h=>?_) (fun h=>?_)
     | refine bY.split (fun h=>?_) (fun h=>?_)
     | refine bH.split (fun h=>?_) (fun h=>?_)
     | refine fu.id ?_
     | simp only [hg,go_sem,seval, *,Int.toNat_natCast,ay.cells])
    ·refine ⟨i+1,⟨hi',next (by rw [hra];simp [*])⟩,?_,by simp only;omega⟩;simp only [go_sem,seval,aJ];rw [wrap64 (by omega) (by omega)];simp
  ·simp only [go_sem,seval];have:i=xs.length:=by simp at h;omega
   subst this
   symm
   simpa [gU] using hr
structure aq where
 ms:List ak
 ns:List ay
 xs:List au
def aq.cells (r:aq):List D:=[.sl 3 (r.ms.map ak.cells),.sl 12 (r.ns.map ay.cells),.sl 4 (r.xs.map au.cells)]
def aq.okB (r:aq):Bool:=gU ak.no ak.ok r.ms&&gU ay.no ay.ok r.ns&&gU au.a au.ok r.xs
def aq.small (r:aq):Prop:=r.ms.length < 2 ^ 60/\r.ns.length < 2 ^ 60/\r.xs.length < 2 ^ 60
theorem oT (r:aq) (hl:r.small):Abs.Spec Tryz.prog 67 [] [.agg r.cells] [] (.int .i64 (if r.okB then 0 else 14)):=by
 obtain ⟨l1,l2,l3⟩:=hl;have h1:=BH r.ms (by omega);have h2:=ES r.ns (by omega);have h3:=tg r.xs (by omega);simp only [aq.cells];refine bu 19 1 [.tmp 2] mixed Tryz.func67 ?_;simp only [go_sem,seval];refine aa.pure h1 ?_;cases b1:gU ak.no ak.ok r.ms
 ·have e:r.okB=false:=by simp [aq.okB,b1]
  simp only [go_sem,seval,e]<;>simp
 simp only [go_sem,seval];refine aa.pure h2 ?_;cases b2:gU ay.no ay.ok r.ns
 ·have e:r.okB=false:=by simp [aq.okB,b2]
  simp only [go_sem,seval,e]<;>simp
 simp only [go_sem,seval];refine aa.pure h3 ?_;cases b3:gU au.a au.ok r.xs
 ·have e:r.okB=false:=by simp [aq.okB,b3]
  simp only [go_sem,seval,e]<;>simp
 have e:r.okB=true:=by simp [aq.okB,b1,b2,b3]
 simp only [go_sem,seval,e]
def fX {A:Type} (no:A->Int) (n:Int) (z:A):List A->A
 | []=>z
 | x :: r=>if no x=n then x else fX no n z r
def iJ {A:Type} (no:A->Int) (n:Int):List A->Int
 | []=>-1
 | x :: r=>if no x=n then 0 else if iJ no n r < 0 then -1 else iJ no n r+1
theorem jg {A:Type} {no:A->Int} {n:Int} {z:A}:∀ {xs:List A} {i:Nat} (h:i < xs.length),(∀ j (hj:j < xs.length),j < i->no xs[j]≠n)->no xs[i]=n->fX no n z xs=xs[i]/\iJ no n xs=i
 | [],i,h,_,_=>by simp at h
 | x :: r,0,h,_,he=>by
  have he:no x=n:=he;simp [fX,iJ,he]
 | x :: r,i+1,h,hn,he=>by
  have h0:no x≠n:=hn 0 (by simp) (by omega);obtain ⟨h1,h2⟩:=jg (z:=z) (xs:=r) (i:=i) (by simpa using h) (fun j hj hji=>hn (j+1) (by simpa using hj) (by omega)) he;simp only [fX,iJ,if_neg h0,h2];refine ⟨h1,?_⟩;rw [if_neg (by omega)];omega
theorem gK {A:Type} {no:A->Int} {n:Int} {z:A}:∀ {xs:List A},(∀ j (hj:j < xs.length),no xs[j]≠n)->fX no n z xs=z/\iJ no n xs = -1
 | [],_=>by simp [fX,iJ]
 | x :: r,hn=>by
  have h0:no x≠n:=hn 0 (by simp);obtain ⟨h1,h2⟩:=gK (z:=z) (xs:=r) (fun j hj=>hn (j+1) (by simpa using hj));simp only [fX,iJ,if_neg h0,h2];exact ⟨h1,by simp⟩
theorem El (xs:List au) (n:Int) (hl:xs.length < 2 ^ 62):Abs.Spec Tryz.prog 162 [] [.sl 4 (xs.map au.cells),.fn 141 [],.int .i64 n] [] (.bI [.agg (fX au.a n ⟨0,0,0,0⟩ xs).cells,.int .i64 (iJ au.a n xs)]):=by
 refine bu 27 3 [.cell 6 166,.tmp 7] mixed Tryz.func162 ?_;simp only [go_sem,seval,aJ];refine aC.count xs.length [1,2,6,11,12] [112,208] (fun i=>[(13,.int .i64 i)]) (fun i=>[]) (fun i=>∀ j (hj:j < xs.length),j < i->xs[j].a≠n) (by simp) ?_ ?_
 ·simp only [go_sem,seval]<;>simp
 ·intro i hi hI;simp only [go_sem,seval];refine bH.aO (fun h=>?_) (fun h=>?_)
  ·have hi':i < xs.length:=by omega
   have hw:IntKind.wrap .i64 ((i:Int)+1)=((i+1:Nat):Int):=by rw [bn (by omega) (by omega)];omega
   have hm:=aG (c:=au.cells) xs hi';have hno:=sL xs[i];simp only [au.cells] at hm hno |-;simp only [go_sem,seval,hm];refine ⟨by omega,aa.pure hno ?_⟩;simp only [go_sem,seval];refine bH.split (fun hb=>?_) (fun hb=>?_)
   ·have hb:xs[i].a=n:=by simpa using hb
    obtain ⟨g1,g2⟩:=jg (z:=(⟨0,0,0,0⟩:au)) hi' hI hb;rw [g1,g2];simp only [go_sem,seval]
   ·have hb:xs[i].a≠n:=by simpa using hb
    simp only [go_sem,seval,hw];refine ah.next hi' ?_ ?_
    ·intro j hj hji;rcases Nat.lt_or_ge j i with h | h
     ·exact hI j hj h
     ·obtain rfl:j=i:=by omega
      exact hb
    ·simp only [go_sem,seval]
  ·obtain rfl:i=xs.length:=by omega
   obtain ⟨g1,g2⟩:=gK (z:=(⟨0,0,0,0⟩:au)) (fun j hj=>hI j hj hj);rw [g1,g2];simp only [go_sem,seval,au.cells]
structure aD where
 kind:Int
 who:Int
 cur:Int
@[reducible] def aD.cells (x:aD):List D:=[.int .i64 x.kind,.int .i64 x.who,.int .i64 x.cur]
def owned (k:Int):Bool:=k==2||k==3
theorem Gn (k:Int):Abs.Spec Tryz.prog 62 [] [.int .i64 k] [] (.bool (owned k)):=by
 refine bu 9 1 [.tmp 2] mixed Tryz.func62 ?_;simp only [go_sem,seval]
 repeat' (with_reducible first
  | apply And.intro
  | exact gX.mk (by kernel_rfl)
  | exact B1.mk (by kernel_rfl)
  | refine bY.aS (fun h=>?_) (fun h=>?_)
  | refine bY.split (fun h=>?_) (fun h=>?_)
  | refine bH.split (fun h=>?_) (fun h=>?_)
  | refine fu.id ?_
  | simp only [*,go_sem,seval])
 all_goals simp [owned, *]
def aD.right (x:aD):Bool:=if x.kind < 1\/6 < x.kind\/x.cur < 0\/3<=x.cur then false else if owned x.kind then decide (1<=x.who)&&decide (x.who<=16) else x.who==0
theorem lH (x:aD):Abs.Spec Tryz.prog 60 [] [.agg x.cells] [] (.bool x.right):=by
 refine bu 37 1 [.tmp 2] mixed Tryz.func60 ?_;simp only [aD.cells];simp only [go_sem,seval]
 repeat' (with_reducible first
  | apply And.intro
  | exact gX.mk (by kernel_rfl)
  | exact B1.mk (by kernel_rfl)
  | refine aa.pure (Gn _) ?_
  | refine bY.aS (fun h=>?_) (fun h=>?_)
  | refine bY.split (fun h=>?_) (fun h=>?_)
  | refine bH.split (fun h=>?_) (fun h=>?_)
  | refine fu.id ?_
  | simp only [*,go_sem,seval])
 all_goals (simp only [decide_eq_true_eq,decide_eq_false_iff_not] at *)
 all_goals (unfold aD.right;simp [*])
def aD.floor (x:aD):Int:=if x.right&&(x.kind==3||x.kind==4) then 0 else -4611686018427387904
theorem Et (x:aD):Abs.Spec Tryz.prog 148 [] [.agg x.cells] [] (.int .i64 x.floor):=by
 have hr:=lH x;simp only [aD.cells] at hr;refine bu 15 1 [.tmp 2] mixed Tryz.func148 ?_;simp only [aD.cells];simp only [go_sem,seval]
 repeat' (with_reducible first
  | apply And.intro
  | exact gX.mk (by kernel_rfl)
  | exact B1.mk (by kernel_rfl)
  | refine aa.pure hr ?_
  | refine bY.aS (fun h=>?_) (fun h=>?_)
  | refine bY.split (fun h=>?_) (fun h=>?_)
  | refine bH.split (fun h=>?_) (fun h=>?_)
  | refine fu.id ?_
  | simp only [*,go_sem,seval])
 all_goals (unfold aD.floor;simp [*])
def aD.less (x y:aD):Bool:=if x.kind≠y.kind then decide (x.kind < y.kind) else if x.who≠y.who then decide (x.who < y.who) else decide (x.cur < y.cur)
theorem Ht (x y:aD):Abs.Spec Tryz.prog 149 [] [.agg x.cells,.agg y.cells] [] (.bool (x.less y)):=by
 refine bu 32 2 [.tmp 4] mixed Tryz.func149 ?_;simp only [aD.cells];simp only [go_sem,seval]
 repeat' (with_reducible first
  | apply And.intro
  | exact gX.mk (by kernel_rfl)
  | exact B1.mk (by kernel_rfl)
  | exact trivial
  | refine bY.aS (fun h=>?_) (fun h=>?_)
  | refine bY.split (fun h=>?_) (fun h=>?_)
  | refine bH.split (fun h=>?_) (fun h=>?_)
  | refine fu.id ?_
  | simp only [*,go_sem,seval])
 all_goals (unfold aD.less;simp_all)
def aD.lt (x y:aD):Prop:=x.kind < y.kind\/x.kind=y.kind/\(x.who < y.who\/x.who=y.who/\x.cur < y.cur)
theorem V2 (x:aD):(x.floor==0)=(x.right&&(x.kind==3||x.kind==4)):=by
 unfold aD.floor;split
 ·rename_i h;simp [h]
 ·rename_i h;simp at h;cases hr:x.right<;>simp [hr] at h |-;exact h
def az:List Int->Int
 | []=>0
 | x :: r=>x+az r
theorem u7 (a:List Int) (x:Int):az (a++[x])=az a+x:=by
 induction a with
 | nil=>simp [az]
 | cons y r ih=>simp only [List.cons_append,az,ih];omega
theorem ym:∀ {l:List Int},right l=true -> -4611686018427387904*l.length<=az l/\az l<=4611686018427387904*l.length
 | [],_=>by simp [az]
 | x :: r,h=>by
  simp only [right,List.all_cons,cr] at h;have h2:=ym (l:=r) h.2;have h1:-4611686018427387904<=x/\x<=4611686018427387904:=by simpa [bL] using h.1
  simp only [az,List.length_cons];push_cast;omega
theorem KU (S n:Int):(S%18446744073709551616+n%18446744073709551616+0)%18446744073709551616=(S+n)%18446744073709551616:=by omega
theorem aaJ (S n:Int) (h:-4611686018427387904<=n/\n<=4611686018427387904) (s:Int) (hs:s=if 0<=n then 0 else 18446744073709551615) :
  ((S / 18446744073709551616)%18446744073709551616+s+(S%18446744073709551616+n%18446744073709551616+0) / 18446744073709551616)%18446744073709551616=((S+n) / 18446744073709551616)%18446744073709551616:=by
 subst hs;split<;>omega
theorem QS (n:Int) (h:-9223372036854775808<=n/\n<=9223372036854775807):IntKind.wrap .u64 (BP .i64 n 63)=if 0<=n then 0 else 18446744073709551615:=by
 have:BP .i64 n 63=n.fdiv (2 ^ 63):=rfl;rw [this,Int.fdiv_eq_ediv_of_nonneg _ (by omega),IntKind.wrap_u64];split<;>omega
theorem iY:Extern.find Tryz.f91=some add64Entry:=by kernel_rfl
theorem jj:Extern.findNext Tryz.f91=none:=by kernel_rfl
def qB (l:List Int):Int:=if right l&&bL (az l) then az l else 0
def qM (l:List Int):Int:=if right l then (if bL (az l) then 0 else 1) else 3
theorem FI (S:Int) (h:-85070591730234615865843651857942052864<=S/\S<=85070591730234615865843651857942052864):Abs.Spec Tryz.prog 164 [] [.int .u64 ((S / 18446744073709551616)%18446744073709551616),.int .u64 (S%18446744073709551616)] [] (.bI [.int .i64 (if bL S then S else 0),.int .i64 (if bL S then 0 else 1)]):=by
 obtain ⟨n,hn⟩:=aH (IntKind.wrap .i64 (S%18446744073709551616))
 have hn1:n=if S%18446744073709551616 < 9223372036854775808 then S%18446744073709551616 else S%18446744073709551616-18446744073709551616:=by
  rw [hn,IntKind.wrap_i64];split<;>omega
 have hs:=QS n (by rw [hn1];split<;>omega);have hr:=gA [n] (by simp);rw [mG] at hr;refine bu 21 2 [.tmp 4,.tmp 5] mixed Tryz.func164 ?_
 by_cases hS:-9223372036854775808<=S/\S < 9223372036854775808
 ·have hnS:n=S:=by rw [hn1];split<;>omega
  have hb:(S / 18446744073709551616%18446744073709551616 != if 0<=n then 0 else 18446744073709551615)=false:=by
   rw [bne_eq_false_iff_eq,hnS];split<;>omega
  simp only [go_sem,seval,<- hn,hs,hb];refine aa.gen [] [] true (by simp) ?_;simp only [go_sem,seval];refine aU.intro hr ?_;rw [hnS] at hr |-;cases hi:bL S
  ·simp only [go_sem,seval,hi,fZ,if_false]
  ·simp only [go_sem,seval,hi,if_true]
 ·have hb:(S / 18446744073709551616%18446744073709551616 != if 0<=n then 0 else 18446744073709551615)=true:=by
   rw [bne_iff_ne,hn1];split<;>split<;>omega
  have hi:bL S=false:=by simp only [bL,Bool.and_eq_false_iff,decide_eq_false_iff_not];omega
  simp only [go_sem,seval,<- hn,hs,hb,hi,fZ,if_false]
theorem Gz (l:List Int) (hl:l.length < 2 ^ 60):Abs.Spec Tryz.prog 81 [] [.sl 1 (ints l)] [] (.bI [.int .i64 (qB l),.int .i64 (qM l)]):=by
 have hr:=gA l (by omega);refine bu 40 1 [.tmp 2,.tmp 3] mixed Tryz.func81 ?_;simp only [go_sem,seval];refine aa.pure hr ?_;cases hb:right l
 ·have e1:qB l=0:=by simp [qB,hb]
  have e2:qM l=3:=by simp [qM,hb]
  simp only [go_sem,seval,e1,e2]
 simp only [go_sem,seval,av];refine aC.count l.length [12,13] [224] (fun i=>[(14,.int .i64 i),(4,.int .u64 ((az (l.take i) / 18446744073709551616)%18446744073709551616)),(5,.int .u64 (az (l.take i)%18446744073709551616))]) (fun i=>[]) (fun i=>True) trivial ?_ ?_
 ·simp only [go_sem,seval]<;>simp [az]
 ·intro i hi _;simp only [go_sem,seval];refine bH.aO (fun h=>?_) (fun h=>?_)
  ·have hi':i < l.length:=by omega
   have hw:IntKind.wrap .i64 ((i:Int)+1)=((i+1:Nat):Int):=by rw [bn (by omega) (by omega)];omega
   have hx:bL l[i]=true:=List.all_eq_true.1 hb _ (List.getElem_mem hi');have hxr:-4611686018427387904<=l[i]/\l[i]<=4611686018427387904:=by simpa [bL] using hx
   obtain ⟨S,hS⟩:=aH (az (l.take i));obtain ⟨n,hn⟩:=aH (l[i]);have hnext:az (l.take (i+1))=S+n:=by rw [List.take_succ_eq_append_getElem hi',u7,hS,hn]
   have hu:IntKind.wrap .u64 n=n%18446744073709551616:=IntKind.wrap_u64 n;rw [<- hn] at hxr;have hsh:=QS n (by omega);simp only [go_sem,seval,ints_at l hi',av,<- hn,<- hS,hu];refine ⟨by omega,?_⟩;refine aa.sem rfl ?_
   with_reducible refine lS.tK (k:=91) (fn:=Tryz.f91) (i:=S%18446744073709551616) (j:=n%18446744073709551616) (m:=0) ?_ Tryz.func91 ?_ ?_ jj iY ?_ ?_ ?_ ?_ ?_ ?_ ?_ ?_ ?_
   iterate 11 (first | rfl | omega)
   simp only [go_sem,seval,hsh];refine aa.sem rfl ?_
   with_reducible refine lS.tK (k:=91) (fn:=Tryz.f91) (i:=S / 18446744073709551616%18446744073709551616) (j:=if 0<=n then 0 else 18446744073709551615) (m:=(S%18446744073709551616+n%18446744073709551616+0) / 18446744073709551616) ?_ Tryz.func91 ?_ ?_ jj iY ?_ ?_ ?_ ?_ ?_ ?_ ?_ ?_ ?_
   iterate 7 (first | rfl | omega)
   ·split<;>omega
   iterate 3 (first | rfl | omega)
   rw [aaJ S n hxr _ rfl,KU];simp only [go_sem,seval,hw];refine ah.next hi' trivial ?_
   simp only [go_sem,seval,hnext]
  ·obtain rfl:i=l.length:=by omega
   obtain ⟨S,hS⟩:=aH (az l);have hSr:=ym hb;have hf:=FI S (by rw [hS];omega);have e1:qB l=if bL S then S else 0:=by simp [qB,hb,hS]
   have e2:qM l=if bL S then 0 else 1:=by simp [qM,hb,hS]
   rw [e1,e2];simp only [go_sem,seval,List.take_length,<- hS];refine aa.pure hf ?_;simp only [go_sem,seval]
theorem uO (r:aq) (n:Int) (hl:r.small):Abs.Spec Tryz.prog 79 [] [.agg r.cells,.int .i64 n] [] (.bI [.agg (fX au.a n ⟨0,0,0,0⟩ r.xs).cells,.bool (decide (0<=iJ au.a n r.xs))]):=by
 have hf:=El r.xs n (by have:=hl.2.2;omega);simp only [au.cells] at hf |-;simp only [aq.cells,au.cells];refine bu 18 2 [.cell 4 166,.tmp 5] mixed Tryz.func79 ?_;simp only [go_sem,seval];refine aa.pure hf ?_;simp only [go_sem,seval]
structure bC where
 kind:Int
 who:Int
 cur:Int
 sum:Int
@[reducible] def bC.cells (x:bC):List D:=[.int .i64 x.kind,.int .i64 x.who,.int .i64 x.cur,.int .i64 x.sum]
def bC.bB (x:bC):aD:=⟨x.kind,x.who,x.cur⟩
structure bz where
 last:Int
 bs:List bC
def bz.cells (l:bz):List D:=[.int .i64 l.last,.sl 4 (l.bs.map bC.cells)]
def Wo (a:aD) (b:bC):Bool:=b.kind==a.kind&&(b.who==a.who&&b.cur==a.cur)
def fj (a:aD):List bC->Int
 | []=>0
 | b :: r=>if Wo a b then b.sum else fj a r
theorem yY (l:bz) (a:aD) (hl:l.bs.length < 2 ^ 60):Abs.Spec Tryz.prog 25 [] [.agg l.cells,.agg a.cells] [] (.int .i64 (fj a l.bs)):=by
 simp only [bz.cells,aD.cells];refine bu 21 2 [.tmp 4] mixed Tryz.func25 ?_;simp only [go_sem,seval,aJ];refine aC.count l.bs.length [3,8,9] [48,64,160] (fun i=>[(10,.int .i64 i)]) (fun i=>[]) (fun i=>fj a (l.bs.drop i)=fj a l.bs) (by simp) ?_ ?_
 ·simp only [go_sem,seval]<;>simp
 ·intro i hi hI;simp only [go_sem,seval];refine bH.aO (fun h=>?_) (fun h=>?_)
  ·have hi':i < l.bs.length:=by omega
   have hw:IntKind.wrap .i64 ((i:Int)+1)=((i+1:Nat):Int):=by rw [bn (by omega) (by omega)];omega
   have hm:=aG (c:=bC.cells) l.bs hi';rw [List.drop_eq_getElem_cons hi'] at hI;simp only [fj] at hI;simp only [bC.cells] at hm;simp only [go_sem,seval,hm];refine ⟨by omega,?_⟩;refine bH.split (fun hb=>?_) (fun hb=>?_)
   ·rw [if_pos (show Wo a l.bs[i]=true from hb)] at hI;simp only [go_sem,seval,hI]
   ·rw [show Wo a l.bs[i]=false from hb] at hI;simp only [fZ,if_false] at hI;simp only [go_sem,seval,hw];refine ah.next hi' hI ?_
    simp only [go_sem,seval]
  ·obtain rfl:i=l.bs.length:=by omega
   simp only [List.drop_length,fj] at hI;simp only [go_sem,seval,hI]
def fB (c:Int) (bs:List bC):List Int:=(bs.filter fun b=>b.cur==c).map bC.sum
theorem Iz (c:Int) (bs:List bC) {i:Nat} (h:i < bs.length):fB c (bs.take (i+1))=if bs[i].cur==c then fB c (bs.take i)++[bs[i].sum] else fB c (bs.take i):=by
 simp only [fB];rw [List.take_succ_eq_append_getElem h,List.filter_append,List.map_append];cases hb:bs[i].cur==c<;>simp [List.filter,hb]
theorem Lt (c:Int) (bs:List bC):(fB c bs).length<=bs.length:=by
 simp only [fB,aJ];exact List.length_filter_le _ _
theorem EV (x:Int):Abs.Spec Tryz.prog 151 [] [.int .i64 x] [] (.bool true):=by
 refine bu 3 1 [.tmp 2] mixed Tryz.func151 ?_;simp only [go_sem,seval]
theorem Su (l:bz) (c:Int) (hl:l.bs.length < 2 ^ 30):Abs.Spec Tryz.prog 150 [] [.agg l.cells,.int .i64 c,.fn 151 []] [.own 1 (ints (fB c l.bs))] (.ref 0):=by
 simp only [bz.cells];refine bu 36 3 [.tmp 6] mixed Tryz.func150 ?_;simp only [go_sem,seval,aJ];refine aC.count l.bs.length [1,2,11,12] [64,208] (fun i=>[(13,.int .i64 i),(7,.ref 544)]) (fun i=>[(544,.own 1 (ints (fB c (l.bs.take i))))]) (fun i=>True) trivial ?_ ?_
 ·simp only [go_sem,seval]<;>simp [fB,ints]
 ·intro i hi _;simp only [go_sem,seval];refine bH.aO (fun h=>?_) (fun h=>?_)
  ·have hi':i < l.bs.length:=by omega
   have hw:IntKind.wrap .i64 ((i:Int)+1)=((i+1:Nat):Int):=by rw [bn (by omega) (by omega)];omega
   have hm:=aG (c:=bC.cells) l.bs hi';have hs:=Iz c l.bs hi';have hlen:=Lt c (l.bs.take i);have hlt:(l.bs.take i).length<=l.bs.length:=by simp;omega
   simp only [bC.cells] at hm;simp only [go_sem,seval,hm];refine ⟨by omega,?_⟩;cases hb:l.bs[i].cur==c
   ·rw [hb] at hs;simp only [fZ,if_false] at hs;simp only [go_sem,seval,hw];refine ah.next hi' trivial ?_
    simp only [go_sem,seval,hs]
   ·rw [hb,if_pos rfl] at hs;have hk:=EV l.bs[i].kind;simp only [go_sem,seval];refine aa.pure hk ?_;simp only [go_sem,seval,hw,av];refine ⟨by omega,ah.next hi' trivial ?_⟩;simp only [go_sem,seval,hs]<;>simp [ints]
  ·obtain rfl:i=l.bs.length:=by omega
   simp only [go_sem,seval,List.take_length]
def kM (b:bC):Bool:=b.bB.right&&(bL b.sum&&(b.sum != 0&&!decide (b.sum < b.bB.floor)))
def nj (bs:List bC) (i:Nat):Bool:=
 match bs[i]? with
 | none=>true
 | some b=>kM b&&(match i with
  | 0=>true
  | j+1=>match bs[j]? with
   | some q=>q.bB.less b.bB
   | none=>true)
theorem jW {bs:List bC} (h:0 < bs.length):nj bs 0=kM bs[0]:=by simp [nj,h]
theorem jk {bs:List bC} {j:Nat} (h:j+1 < bs.length):nj bs (j+1)=(kM bs[j+1]&&(bs[j]'(by omega)).bB.less bs[j+1].bB):=by
 have h':j < bs.length:=by omega
 simp [nj,h,h']
def kK (bs:List bC):Bool:=(List.range bs.length).all (nj bs)
theorem Bg {bs:List bC} {i:Nat} (h:i < bs.length) (hn:nj bs i=false):kK bs=false:=by
 cases hc:kK bs
 ·rfl
 ·rw [List.all_eq_true.1 hc i (List.mem_range.2 h)] at hn;cases hn
theorem qx {bs:List bC} (h:∀ i < bs.length,nj bs i=true):kK bs=true:=List.all_eq_true.2 fun i hi=>h i (List.mem_range.1 hi)
def j9 (bs:List bC) (c:Int):Bool:=qM (fB c bs)==0&&qB (fB c bs)==0
def bz.okB (l:bz):Bool:=decide (0<=l.last)&&kK l.bs&&(j9 l.bs 0&&j9 l.bs 1&&j9 l.bs 2)
theorem xT (l:bz) (hl:l.bs.length < 2 ^ 30):Abs.Spec Tryz.prog 69 [] [.agg l.cells] [] (.int .i64 (if l.okB then 0 else 14)):=by
 have hsums:=fun c=>Su l c hl
 simp only [bz.cells] at hsums |-;refine bu 78 1 [.tmp 2] mixed Tryz.func69 ?_;simp only [go_sem,seval,aJ];rcases Int.lt_or_le l.last 0 with h0 | h0
 ·have d0:decide (l.last < 0)=true:=by simpa using h0
  have e:l.okB=false:=by simp [bz.okB];omega
  simp only [go_sem,seval,d0,e]<;>simp
 have d0:decide (l.last < 0)=false:=by simpa using h0
 simp only [go_sem,seval,d0,aJ];refine aC.count l.bs.length [1,12,13] [32,224] (fun i=>[(14,.int .i64 i)]) (fun i=>[]) (fun i=>∀ j < i,nj l.bs j=true) (by simp) ?_ ?_
 ·simp only [go_sem,seval]<;>simp
 ·intro i hi hI;simp only [go_sem,seval];refine bH.aO (fun h=>?_) (fun h=>?_)
  ·have hi':i < l.bs.length:=by omega
   have hw:IntKind.wrap .i64 ((i:Int)+1)=((i+1:Nat):Int):=by rw [bn (by omega) (by omega)];omega
   have hm:=aG (c:=bC.cells) l.bs hi';have h1:=lH l.bs[i].bB;have h2:Abs.Spec Tryz.prog 144 [] [.sl 1 [[.int .i64 l.bs[i].sum]]] [] (.bool (right [l.bs[i].sum])):=gA [l.bs[i].sum] (by simp);have h3:=Et l.bs[i].bB;rw [mG] at h2
   have e0:nj l.bs i=true->∀ k < i+1,nj l.bs k=true:=fun h0 k hk=>by
    rcases Nat.lt_or_ge k i with h | h
    ·exact hI k h
    ·obtain rfl:k=i:=by omega
     exact h0
   have e1:nj l.bs i=false->l.okB=false:=fun hx=>by simp [bz.okB,Bg hi' hx]
   simp only [bC.cells,aD.cells,bC.bB] at hm h1 h3;rcases Nat.eq_zero_or_pos i with rfl | hpos
   ·have hk:=jW hi';simp only [kM,bC.bB] at hk;clear hsums;simp only [go_sem,seval,hm]
    repeat' with_reducible first|apply And.intro|exact .dq|refine aa.pure (by assumption) ?_|(refine aa.gen [] [] true (by simp) ?_;simp only [go_sem,seval];refine aU.intro h2 ?_)|refine .aT (fun h=>?_) fun h=>?_|refine .aO (fun h=>?_) fun h=>?_|refine .aS (fun h=>?_) fun h=>?_|refine .split (fun h=>?_) fun h=>?_|refine .id ?_|refine ah.next (by omega) ?_ ?_|exact trivial|simp only [*,go_sem,seval]
    all_goals first
     | omega
     | rfl
     | (refine e0 ?_;clear e0 e1;rw [hk];clear hk;simp [bne, *];done)
     | (rw [e1 ?_]
        ·rfl
        ·clear e0 e1;rw [hk];clear hk;simp [bne, *];done)
   ·obtain ⟨j,rfl⟩:∃ j,i=j+1:=⟨i-1,by omega⟩
    have hj:j < l.bs.length:=by omega
    have hw1:IntKind.wrap .i64 (((j+1:Nat):Int)-1)=(j:Int):=by rw [bn (by omega) (by omega)];omega
    have hk:=jk hi';simp only [kM,bC.bB] at hk;have hmj:=aG (c:=bC.cells) l.bs hj;have h4:=Ht l.bs[j].bB l.bs[j+1].bB;simp only [bC.cells,aD.cells,bC.bB] at hmj h4;clear hsums;simp only [go_sem,seval,hm]
    repeat' with_reducible first|apply And.intro|exact .dq|refine aa.pure (by assumption) ?_|(refine aa.gen [] [] true (by simp) ?_;simp only [go_sem,seval];refine aU.intro h2 ?_)|refine .aT (fun h=>?_) fun h=>?_|refine .aO (fun h=>?_) fun h=>?_|refine .aS (fun h=>?_) fun h=>?_|refine .split (fun h=>?_) fun h=>?_|refine .id ?_|refine ah.next (by omega) ?_ ?_|exact trivial|simp only [*,go_sem,seval,hmj]
    all_goals first
     | omega
     | rfl
     | (refine e0 ?_;clear e0 e1;rw [hk];clear hk;simp [bne, *];done)
     | (rw [e1 ?_]
        ·rfl
        ·clear e0 e1;rw [hk];clear hk;simp [bne, *];done)
  ·obtain rfl:i=l.bs.length:=by omega
   have hs:=qx hI;simp only [go_sem,seval];refine aC.count 3 [1] [32] (fun i=>[(61,.int .i64 i)]) (fun i=>[]) (fun i=>∀ c < i,j9 l.bs (c:Nat)=true) (by simp) ?_ ?_
   ·simp only [go_sem,seval]<;>simp
   ·intro c hc hC;simp only [go_sem,seval];refine bH.aO (fun h=>?_) (fun h=>?_)
    ·have hc':c < 3:=by omega
     have hw:IntKind.wrap .i64 ((c:Int)+1)=((c+1:Nat):Int):=by rw [bn (by omega) (by omega)];omega
     have hlen:=Lt c l.bs;have hsum:=Gz (fB c l.bs) (by omega)
     have hbad:j9 l.bs c=false->l.okB=false:=fun hx=>by
      obtain rfl | rfl | rfl:c=0\/c=1\/c=2:=by omega
      ·have:j9 l.bs 0=false:=hx;simp [bz.okB,this]
      ·have:j9 l.bs 1=false:=hx;simp [bz.okB,this]
      ·have:j9 l.bs 2=false:=hx;simp [bz.okB,this]
     simp only [go_sem,seval];refine aa.gen [] [] false (by simp) ?_;simp only [go_sem,seval];refine aU.intro (hsums c) ?_;simp only [go_sem,seval];refine aa.gen [] [] true (by simp) ?_;simp only [go_sem,seval];refine aU.intro hsum ?_;cases hE:qM (fB c l.bs)==0
     ·have e:l.okB=false:=hbad (by simp [j9,hE]);have hE':(qM (fB c l.bs) != 0)=true:=by simp [bne,hE]
      simp only [go_sem,seval,hE',e]<;>simp
     have hE':(qM (fB c l.bs) != 0)=false:=by simp [bne,hE]
     cases hN:qB (fB c l.bs)==0
     ·have e:l.okB=false:=hbad (by simp [j9,hE,hN]);have hN':(qB (fB c l.bs) != 0)=true:=by simp [bne,hN]
      simp only [go_sem,seval,hE',hN',e]<;>simp
     have hN':(qB (fB c l.bs) != 0)=false:=by simp [bne,hN]
     simp only [go_sem,seval,hE',hN',hw];refine ah.next hc' ?_ ?_
     ·intro k hk;rcases Nat.lt_or_ge k c with h | h
      ·exact hC k h
      ·obtain rfl:k=c:=by omega
       simp [j9,hE,hN]
     ·simp only [go_sem,seval]
    ·obtain rfl:c=3:=by omega
     have b0:j9 l.bs 0=true:=hC 0 (by omega);have b1:j9 l.bs 1=true:=hC 1 (by omega);have b2:j9 l.bs 2=true:=hC 2 (by omega);have e:l.okB=true:=by simp [bz.okB,hs,b0,b1,b2,h0]
     simp only [go_sem,seval,e]<;>simp
def C9 (r:aq) (x:dS):au:=fX au.a x.bG ⟨0,0,0,0⟩ r.xs
def Ls (r:aq) (w c:Int) (x:dS):Bool:=decide (0<=iJ au.a x.bG r.xs)&&(x.who==w&&(C9 r x).b==c)
def gD (r:aq) (w c:Int) (ps:List dS):List Int:=(ps.filter (Ls r w c)).map fun x=>(C9 r x).V x.units
def fE (r:aq) (w c:Int):List dS->Int
 | []=>0
 | x :: l=>if Ls r w c x&&(C9 r x).E x.units != 0 then (C9 r x).E x.units else fE r w c l
theorem EN (r:aq) (w c:Int) (ps:List dS) {i:Nat} (h:i < ps.length):gD r w c (ps.take (i+1))=if Ls r w c ps[i] then gD r w c (ps.take i)++[(C9 r ps[i]).V ps[i].units] else gD r w c (ps.take i):=by
 simp only [gD];rw [List.take_succ_eq_append_getElem h,List.filter_append,List.map_append];cases hb:Ls r w c ps[i]<;>simp [List.filter,hb]
theorem vF (r:aq) (w c:Int) (ps:List dS):(gD r w c ps).length<=ps.length:=by
 simp only [gD,aJ];exact List.length_filter_le _ _
def o9 (l:bz) (r:aq) (ps:List dS):Int:=if l.okB&&r.okB&&gj ps then 0 else 14
def vP (l:bz) (r:aq) (ps:List dS) (w c:Int):Int:=
 if o9 l r ps != 0 then o9 l r ps else if fE r w c ps != 0 then fE r w c ps else qM (fj ⟨2,w,c⟩ l.bs :: gD r w c ps)
def tG (l:bz) (r:aq) (ps:List dS) (w c:Int):Int:=
 if o9 l r ps != 0 then 0 else if fE r w c ps != 0 then 0 else qB (fj ⟨2,w,c⟩ l.bs :: gD r w c ps)
theorem Qq (l:bz) (r:aq) (ps:List dS) (w c:Int) (hl:l.bs.length < 2 ^ 30) (hr:r.small) (hp:ps.length < 2 ^ 30) :
  Abs.Spec Tryz.prog 38 [] [.agg l.cells,.agg r.cells,.sl 3 (pl ps),.int .i64 w,.int .i64 c] [] (.bI [.int .i64 (tG l r ps w c),.int .i64 (vP l r ps w c)]):=by
 have h1:=xT l hl;have h2:=oT r hr;have h3:=I1 ps (by omega);have h4:=yY l ⟨2,w,c⟩ (by omega);have h5:=fun n=>uO r n hr
 simp only [bz.cells,aD.cells] at h1 h4 |-;simp only [aq.cells] at h2 h5 |-;refine bu 85 5 [.tmp 10,.tmp 11] mixed Tryz.func38 ?_;simp only [go_sem,seval];refine aa.pure h1 ?_;cases b1:l.okB
 ·have e:o9 l r ps=14:=by simp [o9,b1]
  have e1:vP l r ps w c=14:=by simp [vP,e]
  have e2:tG l r ps w c=0:=by simp [tG,e]
  simp only [go_sem,seval,e1,e2]
 simp only [go_sem,seval];refine aa.pure h2 ?_;cases b2:r.okB
 ·have e:o9 l r ps=14:=by simp [o9,b2]
  have e1:vP l r ps w c=14:=by simp [vP,e]
  have e2:tG l r ps w c=0:=by simp [tG,e]
  simp only [go_sem,seval,e1,e2]
 simp only [go_sem,seval];refine aa.pure h3 ?_;cases b3:gj ps
 ·have e:o9 l r ps=14:=by simp [o9,b3]
  have e1:vP l r ps w c=14:=by simp [vP,e]
  have e2:tG l r ps w c=0:=by simp [tG,e]
  simp only [go_sem,seval,e1,e2]
 have e:o9 l r ps=0:=by simp [o9,b1,b2,b3]
 have e1:vP l r ps w c=if fE r w c ps != 0 then fE r w c ps else qM (fj ⟨2,w,c⟩ l.bs :: gD r w c ps):=by simp [vP,e]
 have e2:tG l r ps w c=if fE r w c ps != 0 then 0 else qB (fj ⟨2,w,c⟩ l.bs :: gD r w c ps):=by simp [tG,e]
 rw [e1,e2];clear e1 e2 e;simp only [go_sem,seval];refine aa.pure h4 ?_;obtain ⟨o,ho⟩:=aH (fj ⟨2,w,c⟩ l.bs);rw [<- ho];simp only [go_sem,seval];refine aC.count ps.length [3,4,6,39,40] [112] (fun i=>[(41,.int .i64 i),(13,.ref 1280)]) (fun i=>[(1280,.own 1 (ints (o :: gD r w c (ps.take i))))]) (fun i=>fE r w c (ps.drop i)=fE r w c ps) (by simp) ?_ ?_
 ·simp only [go_sem,seval]<;>simp [gD,ints]
 ·intro i hi hI;simp only [go_sem,seval];refine bH.aO (fun h=>?_) (fun h=>?_)
  ·have hi':i < ps.length:=by omega
   have hw:IntKind.wrap .i64 ((i:Int)+1)=((i+1:Nat):Int):=by rw [bn (by omega) (by omega)];omega
   have hstep:=EN r w c ps hi';have hA:=h5 ps[i].bG;have hvl:=vF r w c (ps.take i);have htl:(ps.take i).length<=ps.length:=by simp;omega
   rw [Ka hi'] at hI;simp only [fE] at hI;obtain ⟨a,ha⟩:=aH (C9 r ps[i]);have ha':fX au.a ps[i].bG ⟨0,0,0,0⟩ r.xs=a:=ha.symm;rw [ha'] at hA;rw [<- ha] at hI hstep;have hh:Ls r w c ps[i]=(decide (0<=iJ au.a ps[i].bG r.xs)&&(ps[i].who==w&&a.b==c)):=by rw [ha];rfl
   have hv:=OR a ps[i].units;simp only [au.cells] at hA hv;clear h1 h2 h3 h4 h5;simp only [go_sem,seval,nq ps hi'];refine ⟨by omega,aa.pure hA ?_⟩;cases p1:decide (0<=iJ au.a ps[i].bG r.xs)
   ·rw [hh,p1] at hI hstep;simp only [Bool.false_and,fZ,if_false] at hI hstep;simp only [go_sem,seval,p1,hw];refine ah.next hi' hI ?_
    simp only [go_sem,seval,hstep]
   cases p2:ps[i].who==w
   ·rw [hh,p1,p2] at hI hstep;simp only [Bool.false_and,Bool.true_and,fZ,if_false] at hI hstep;simp only [go_sem,seval,p1,bne,p2,hw];refine ah.next hi' hI ?_
    simp only [go_sem,seval,hstep]
   cases p3:a.b==c
   ·rw [hh,p1,p2,p3] at hI hstep;simp only [Bool.false_and,Bool.true_and,fZ,if_false] at hI hstep;simp only [go_sem,seval,p1,bne,p2,p3,hw];refine ah.next hi' hI ?_
    simp only [go_sem,seval,hstep]
   rw [hh,p1,p2,p3] at hI hstep;simp only [Bool.true_and,Bool.and_self,if_true] at hI hstep;simp only [go_sem,seval,p1,bne,p2,p3];refine aa.pure hv ?_;cases p4:a.E ps[i].units==0
   ·have p4':(a.E ps[i].units != 0)=true:=by simp [bne,p4]
    rw [p4',if_pos rfl] at hI;have hF:fE r w c ps=a.E ps[i].units:=hI.symm;simp only [go_sem,seval,bne,p4,hF,Bool.not_false,if_true]
   ·have p4':(a.E ps[i].units != 0)=false:=by simp [bne,p4]
    rw [p4'] at hI;simp only [fZ,if_false] at hI;simp only [go_sem,seval,bne,p4,hw,av];refine ⟨by omega,ah.next hi' hI ?_⟩;simp only [go_sem,seval,hstep]<;>simp [ints]
  ·obtain rfl:i=ps.length:=by omega
   simp only [List.drop_length,fE] at hI;have hlen:=vF r w c ps;have hs:=Gz (o :: gD r w c ps) (by simp;omega);rw [<- hI];simp only [go_sem,seval,List.take_length];refine aa.gen [] [] true (by simp) ?_;simp only [go_sem,seval];refine aU.intro hs ?_;simp only [go_sem,seval]<;>simp
def aef (r:aq) (w c:Int) (x:dS):Int:=if Ls r w c x then (C9 r x).V x.units else 0
def W7 (r:aq) (w c:Int):List dS->Int
 | []=>0
 | x :: l=>aef r w c x+W7 r w c l
theorem PX (r:aq) (w c:Int):∀ ps:List dS,az (gD r w c ps)=W7 r w c ps
 | []=>rfl
 | x :: l=>by
  have ih:=PX r w c l;simp only [gD] at ih;simp only [W7,aef,gD,List.filter];cases hb:Ls r w c x
  ·simp only [fZ,if_false,ih];omega
  ·simp only [List.map_cons,az,if_true,ih]
theorem cg {x:Int}:bL x=true ↔ -4611686018427387904<=x/\x<=4611686018427387904:=by simp [bL]
def xE (a b:Int):Int:=if bL a&&(bL b&&bL (a-b)) then a-b else 0
def zJ (a b:Int):Int:=if bL a&&bL b then (if bL (a-b) then 0 else 1) else 3
theorem K8 (a b:Int):Abs.Spec Tryz.prog 82 [] [.int .i64 a,.int .i64 b] [] (.bI [.int .i64 (xE a b),.int .i64 (zJ a b)]):=by
 have h1:Abs.Spec Tryz.prog 144 [] [.sl 1 [[.int .i64 a],[.int .i64 b]]] [] (.bool (right [a,b])):=gA [a,b] (by simp);have e1:right [a,b]=(bL a&&bL b):=by simp [right]
 rw [e1] at h1;refine bu 20 2 [.tmp 4,.tmp 5] mixed Tryz.func82 ?_;simp only [go_sem,seval];refine aa.gen [] [] true (by simp) ?_;simp only [go_sem,seval];refine aU.intro h1 ?_;cases hb:bL a&&bL b
 ·have e2:xE a b=0:=by
   simp only [xE];rw [<- Bool.and_assoc,hb];simp
  have e3:zJ a b=3:=by simp [zJ,hb]
  simp only [go_sem,seval,e2,e3]
 have hr:(-4611686018427387904<=a/\a<=4611686018427387904)/\(-4611686018427387904<=b/\b<=4611686018427387904):=by
  simp only [cr,cg] at hb;exact hb
 have hw:bL (IntKind.wrap .i64 (a-b))=bL (a-b)/\(bL (a-b)=true->IntKind.wrap .i64 (a-b)=a-b):=by
  by_cases hx:a-b < 9223372036854775808
  ·rw [bn (by omega) (by omega)];exact ⟨rfl,fun _=>rfl⟩
  ·have hab:a-b=9223372036854775808:=by omega
   rw [hab];exact ⟨by decide,fun h=>by revert h;decide⟩
 have h2:Abs.Spec Tryz.prog 144 [] [.sl 1 [[.int .i64 (IntKind.wrap .i64 (a-b))]]] [] (.bool (right [IntKind.wrap .i64 (a-b)])):=gA [IntKind.wrap .i64 (a-b)] (by simp);rw [mG,hw.1] at h2;simp only [go_sem,seval];refine aa.gen [] [] true (by simp) ?_;simp only [go_sem,seval];refine aU.intro h2 ?_;cases hi:bL (a-b)
 ·have e2:xE a b=0:=by simp [xE,hi]
  have e3:zJ a b=1:=by simp [zJ,hb,hi]
  simp only [go_sem,seval,e2,e3]
 ·have e2:xE a b=a-b:=by
   simp only [xE];rw [<- Bool.and_assoc,hb,hi];simp
  have e3:zJ a b=0:=by simp [zJ,hb,hi]
  simp only [go_sem,seval,e2,e3,hw.2 hi]
def wd (S:Int):List D:=[.int .i64 (S / 18446744073709551616),.int .u64 (S%18446744073709551616)]
theorem aaI (n:Int) (h:-9223372036854775808<=n/\n<=9223372036854775807):BP .i64 n 63=n / 18446744073709551616:=by
 have:BP .i64 n 63=n.fdiv (2 ^ 63):=rfl;rw [this,Int.fdiv_eq_ediv_of_nonneg _ (by omega)];omega
theorem tJ (n:Int) (h:-9223372036854775808<=n/\n<=9223372036854775807):Abs.Spec Tryz.prog 58 [] [.int .i64 n] [] (.agg (wd n)):=by
 have h1:=aaI n h;have h2:IntKind.wrap .u64 n=n%18446744073709551616:=IntKind.wrap_u64 n;refine bu 8 1 [.cell 2 117] mixed Tryz.func58 ?_;simp only [go_sem,seval,h1,h2,wd]
theorem sN (n:Int) (h:-9223372036854775808<=n/\n<=9223372036854775807):Abs.Spec Tryz.prog 42 [] [.int .i64 n] [] (.agg (wd n)):=by
 have h2:IntKind.wrap .u64 n=n%18446744073709551616:=IntKind.wrap_u64 n;refine bu 11 1 [.cell 2 117] mixed Tryz.func42 ?_;rcases Int.lt_or_le n 0 with hn | hn
 ·have d:decide (n < 0)=true:=decide_eq_true hn;have e:n / 18446744073709551616 = -1:=by omega
  simp only [go_sem,seval,d,h2,wd,e]
 ·have d:decide (n < 0)=false:=decide_eq_false (by omega);have e:n / 18446744073709551616=0:=by omega
  simp only [go_sem,seval,d,h2,wd,e]
theorem sM (S:Int):Abs.Spec Tryz.prog 78 [] [.agg (wd S)] [] (.bI [.int .i64 (if bL S then S else 0),.int .i64 (if bL S then 0 else 1)]):=by
 obtain ⟨n,hn⟩:=aH (IntKind.wrap .i64 (S%18446744073709551616))
 have hn1:n=if S%18446744073709551616 < 9223372036854775808 then S%18446744073709551616 else S%18446744073709551616-18446744073709551616:=by
  rw [hn,IntKind.wrap_i64];split<;>omega
 have hnr:-9223372036854775808<=n/\n<=9223372036854775807:=by rw [hn1];split<;>omega
 have hO:=tJ n hnr;have hr:Abs.Spec Tryz.prog 144 [] [.sl 1 [[.int .i64 n]]] [] (.bool (right [n])):=gA [n] (by simp);rw [mG] at hr;have hm:(S%18446744073709551616==n%18446744073709551616)=true:=by rw [beq_iff_eq,hn1];split<;>omega
 simp only [wd] at hO |-;refine bu 19 1 [.tmp 2,.tmp 3] mixed Tryz.func78 ?_;simp only [go_sem,seval,<- hn];refine ⟨gX.mk (by kernel_rfl),B1.mk (by kernel_rfl),aa.pure hO ?_⟩
 by_cases hS:-9223372036854775808<=S/\S < 9223372036854775808
 ·have hnS:n=S:=by rw [hn1];split<;>omega
  have hq:(S / 18446744073709551616==n / 18446744073709551616)=true:=by rw [hnS];exact beq_self_eq_true _
  simp only [go_sem,seval,hm,hq];refine ⟨B1.mk (by kernel_rfl),?_⟩;refine aa.gen [] [] true (by simp) ?_;simp only [go_sem,seval];refine aU.intro hr ?_;rw [hnS];cases hi:bL S
  ·simp only [go_sem,seval,hi,fZ,if_false]
  ·simp only [go_sem,seval,hi,if_true]
 ·have hq:(S / 18446744073709551616==n / 18446744073709551616)=false:=by
   rw [beq_eq_false_iff_ne,hn1];split<;>omega
  have hi:bL S=false:=by simp only [bL,Bool.and_eq_false_iff,decide_eq_false_iff_not];omega
  simp only [go_sem,seval,hm,hq,hi,fZ,if_false]
def kD (l:List Int):List (List D):=l.map wd
@[go_sem] theorem zx (l:List Int):(kD l).length=l.length:=by simp [kD]
theorem tM (l:List Int) {i:Nat} (h:i < l.length):(kD l).getD i []=[.int .i64 (l[i] / 18446744073709551616),.int .u64 (l[i]%18446744073709551616)]:=by simp [kD,h,wd]
def qI (S:Int):Bool:=decide (-170141183460469231731687303715884105728<=S)&&decide (S < 170141183460469231731687303715884105728)
theorem Kr (S n:Int):((S / 18446744073709551616)%18446744073709551616+(n / 18446744073709551616)%18446744073709551616+(S%18446744073709551616+n%18446744073709551616+0) / 18446744073709551616)%18446744073709551616=((S+n) / 18446744073709551616)%18446744073709551616:=by
 have h1:(S+n) / 18446744073709551616=S / 18446744073709551616+n / 18446744073709551616+(S%18446744073709551616+n%18446744073709551616+0) / 18446744073709551616:=by omega
 rw [h1];omega
theorem WY (A B c s:Int) (hc:0<=c/\c<=1) (hB:-9223372036854775808<=B/\B<=9223372036854775807) (hs:s=if 0<=B then 0 else 18446744073709551615) :
  ((A / 18446744073709551616)%18446744073709551616+s+(A%18446744073709551616+B%18446744073709551616+c) / 18446744073709551616)%18446744073709551616=((A+B+c) / 18446744073709551616)%18446744073709551616:=by
 have h1:(A+B+c) / 18446744073709551616=A / 18446744073709551616+B / 18446744073709551616+(A%18446744073709551616+B%18446744073709551616+c) / 18446744073709551616:=by omega
 rw [h1,hs];split<;>omega
theorem div_add (S n:Int):S / 18446744073709551616+n / 18446744073709551616+(S%18446744073709551616+n%18446744073709551616+0) / 18446744073709551616=(S+n) / 18446744073709551616:=by omega
theorem vC:∀ {l:List Int},(∀ n∈l,qI n=true) -> -170141183460469231731687303715884105728*(l.length:Int)<=az l/\az l<=170141183460469231731687303715884105728*(l.length:Int)
 | [],_=>by simp [az]
 | x :: r,h=>by
  have h2:=vC (l:=r) fun n hn=>h n (by simp [hn])
  have h1:=h x (by simp);simp only [qI,cr,decide_eq_true_eq] at h1;simp only [az,List.length_cons];push_cast;omega
theorem sn (l:List Int) (hl:l.length < 2 ^ 60) (hr:∀ n∈l,qI n=true):Abs.Spec Tryz.prog 77 [] [.sl 2 (kD l)] [] (.bI [.agg (wd (if qI (az l) then az l else 0)),.int .i64 (if qI (az l) then 0 else 1)]):=by
 refine bu 54 1 [.cell 2 117,.tmp 3] mixed Tryz.func77 ?_;simp only [go_sem,seval];refine aC.count l.length [2,10,11] [48,192] (fun i=>[(12,.int .i64 i),(4,.int .u64 (az (l.take i)%18446744073709551616)),(5,.int .u64 ((az (l.take i) / 18446744073709551616)%18446744073709551616)),(6,.int .u64 ((az (l.take i) / 18446744073709551616 / 18446744073709551616)%18446744073709551616))]) (fun i=>[]) (fun i=>True) trivial ?_ ?_
 ·simp only [go_sem,seval]<;>simp [az]
 ·intro i hi _;simp only [go_sem,seval];refine bH.aO (fun h=>?_) (fun h=>?_)
  ·have hi':i < l.length:=by omega
   have hw:IntKind.wrap .i64 ((i:Int)+1)=((i+1:Nat):Int):=by rw [bn (by omega) (by omega)];omega
   have hx:=hr l[i] (List.getElem_mem hi');obtain ⟨S,hS⟩:=aH (az (l.take i));obtain ⟨n,hn⟩:=aH (l[i]);have hnext:az (l.take (i+1))=S+n:=by rw [List.take_succ_eq_append_getElem hi',u7,hS,hn]
   rw [<- hn] at hx;simp only [qI,cr,decide_eq_true_eq] at hx;obtain ⟨B,hB⟩:=aH (n / 18446744073709551616);have hBr:-9223372036854775808<=B/\B<=9223372036854775807:=by omega
   have hu:IntKind.wrap .u64 B=B%18446744073709551616:=IntKind.wrap_u64 B;have hsh:=QS B hBr;have h3:=WY (S / 18446744073709551616) B ((S%18446744073709551616+n%18446744073709551616+0) / 18446744073709551616) _ (by omega) hBr rfl;have h2:=Kr S n;have h4:=div_add S n;rw [<- hB] at h2 h4;rw [h4] at h3;simp only [go_sem,seval,tM l hi',<- hn,<- hS,<- hB];refine ⟨by omega,?_⟩;refine aa.sem rfl ?_
   with_reducible refine lS.tK (k:=91) (fn:=Tryz.f91) (i:=S%18446744073709551616) (j:=n%18446744073709551616) (m:=0) ?_ Tryz.func91 ?_ ?_ jj iY ?_ ?_ ?_ ?_ ?_ ?_ ?_ ?_ ?_
   iterate 11 (first | rfl | omega)
   simp only [go_sem,seval,hu];refine aa.sem rfl ?_
   with_reducible refine lS.tK (k:=91) (fn:=Tryz.f91) (i:=S / 18446744073709551616%18446744073709551616) (j:=B%18446744073709551616) (m:=(S%18446744073709551616+n%18446744073709551616+0) / 18446744073709551616) ?_ Tryz.func91 ?_ ?_ jj iY ?_ ?_ ?_ ?_ ?_ ?_ ?_ ?_ ?_
   iterate 11 (first | rfl | omega)
   simp only [go_sem,seval,hsh];refine aa.sem rfl ?_
   with_reducible refine lS.tK (k:=91) (fn:=Tryz.f91) (i:=S / 18446744073709551616 / 18446744073709551616%18446744073709551616) (j:=if 0<=B then 0 else 18446744073709551615) (m:=(S / 18446744073709551616%18446744073709551616+B%18446744073709551616+(S%18446744073709551616+n%18446744073709551616+0) / 18446744073709551616) / 18446744073709551616) ?_ Tryz.func91 ?_ ?_ jj iY ?_ ?_ ?_ ?_ ?_ ?_ ?_ ?_ ?_
   iterate 7 (first | rfl | omega)
   ·split<;>omega
   iterate 3 (first | rfl | omega)
   rw [h3,h2,KU];simp only [go_sem,seval,hw];refine ah.next hi' trivial ?_
   simp only [go_sem,seval,hnext]
  ·obtain rfl:i=l.length:=by omega
   obtain ⟨T,hT⟩:=aH (az l);have hTr:=vC hr;rw [<- hT] at hTr |-;obtain ⟨A,hA⟩:=aH (T / 18446744073709551616);have hAr:-85070591730234615865843651857942052864<=A/\A<=85070591730234615865843651857942052864:=by omega
   obtain ⟨m,hm⟩:=aH (IntKind.wrap .i64 (A%18446744073709551616))
   have hm1:m=if A%18446744073709551616 < 9223372036854775808 then A%18446744073709551616 else A%18446744073709551616-18446744073709551616:=by
    rw [hm,IntKind.wrap_i64];split<;>omega
   have hs:=QS m (by rw [hm1];split<;>omega)
   by_cases hi:qI T=true
   ·have hi2:=hi;simp only [qI,cr,decide_eq_true_eq] at hi2;have hmA:m=A:=by rw [hm1];split<;>omega
    have hb:(A / 18446744073709551616%18446744073709551616 != if 0<=m then 0 else 18446744073709551615)=false:=by
     rw [bne_eq_false_iff_eq,hmA];split<;>omega
    rw [if_pos hi,if_pos hi];rw [hmA] at hs hb;have hm2:IntKind.wrap .i64 (A%18446744073709551616)=A:=by rw [<- hm,hmA]
    simp only [go_sem,seval,List.take_length,<- hT,<- hA,hm2,hs,hb,wd]
   ·have hi2:¬ (-170141183460469231731687303715884105728<=T/\T < 170141183460469231731687303715884105728):=by
     simpa only [qI,cr,decide_eq_true_eq] using hi
    have hb:(A / 18446744073709551616%18446744073709551616 != if 0<=m then 0 else 18446744073709551615)=true:=by
     rw [bne_iff_ne,hm1];split<;>split<;>omega
    rw [if_neg hi,if_neg hi];simp only [go_sem,seval,List.take_length,<- hT,<- hA,<- hm,hs,hb,wd]
    try exact ⟨by decide,by decide⟩
theorem dn (n:Int):Abs.Spec Tryz.prog 92 [] [.int .i64 n] [] (.bool (bL n)):=by
 refine bu 9 1 [.tmp 2] mixed Tryz.func92 ?_;simp only [go_sem,seval]
 repeat' with_reducible first|apply And.intro|exact .dq|refine aa.pure (by assumption) ?_|refine .aT (fun h=>?_) fun h=>?_|refine .aO (fun h=>?_) fun h=>?_|refine .aS (fun h=>?_) fun h=>?_|refine .split (fun h=>?_) fun h=>?_|refine .id ?_|refine ah.next (by omega) ?_ ?_|exact trivial|simp only [*,go_sem,seval]
 all_goals (rw [Bool.eq_iff_iff];simp [bL];omega)
theorem kB (S:Int):Abs.Spec Tryz.prog 46 [] [.agg (wd S)] [] (.bI [.int .i64 (if bL S then S else 0),.bool (bL S)]):=by
 obtain ⟨n,hn⟩:=aH (IntKind.wrap .i64 (S%18446744073709551616))
 have hn1:n=if S%18446744073709551616 < 9223372036854775808 then S%18446744073709551616 else S%18446744073709551616-18446744073709551616:=by
  rw [hn,IntKind.wrap_i64];split<;>omega
 have hnr:-9223372036854775808<=n/\n<=9223372036854775807:=by rw [hn1];split<;>omega
 have hO:=sN n hnr;have hr:=dn n;have hm:(n%18446744073709551616==S%18446744073709551616)=true:=by rw [beq_iff_eq,hn1];split<;>omega
 simp only [wd] at hO |-;refine bu 18 1 [.tmp 2,.tmp 3] mixed Tryz.func46 ?_;simp only [go_sem,seval,<- hn];refine ⟨gX.mk (by kernel_rfl),aa.pure hO ?_⟩
 by_cases hS:-9223372036854775808<=S/\S < 9223372036854775808
 ·have hnS:n=S:=by rw [hn1];split<;>omega
  have hq:(n / 18446744073709551616==S / 18446744073709551616)=true:=by rw [hnS];exact beq_self_eq_true _
  simp only [go_sem,seval,hm,hq];refine ⟨B1.mk (by kernel_rfl),aa.pure hr ?_⟩;rw [hnS];cases hi:bL S
  ·simp only [go_sem,seval,hi,fZ,if_false]
  ·simp only [go_sem,seval,hi,if_true]
 ·have hq:(n / 18446744073709551616==S / 18446744073709551616)=false:=by
   rw [beq_eq_false_iff_ne,hn1];split<;>omega
  have hi:bL S=false:=by simp only [bL,Bool.and_eq_false_iff,decide_eq_false_iff_not];omega
  simp only [go_sem,seval,hm,hq,hi,fZ,if_false];exact B1.mk (by kernel_rfl)
theorem Ug (A B c:Int) (hc:0<=c/\c<=1) (hB:-9223372036854775808<=B/\B<=9223372036854775807) :
  A / 18446744073709551616+(A%18446744073709551616+B%18446744073709551616+c) / 18446744073709551616+(if B < 0 then -1 else 0)=(A+B+c) / 18446744073709551616:=by
 split<;>omega
theorem kr (l:List Int) (hl:l.length < 2 ^ 58) (hr:∀ n∈l,qI n=true):Abs.Spec Tryz.prog 45 [] [.sl 2 (kD l)] [] (.bI [.agg (wd (if qI (az l) then az l else 0)),.bool (qI (az l))]):=by
 refine bu 75 1 [.cell 2 117,.tmp 3] mixed Tryz.func45 ?_;simp only [go_sem,seval];refine aC.count l.length [0,2] [48] (fun i=>[(7,.int .i64 i),(6,.int .u64 (az (l.take i)%18446744073709551616)),(5,.int .u64 ((az (l.take i) / 18446744073709551616)%18446744073709551616)),(4,.int .i64 (az (l.take i) / 18446744073709551616 / 18446744073709551616))]) (fun i=>[]) (fun i=>True) trivial ?_ ?_
 ·simp only [go_sem,seval]<;>simp [az]
 ·intro i hi _;simp only [go_sem,seval];refine bH.aO (fun h=>?_) (fun h=>?_)
  ·have hi':i < l.length:=by omega
   have hw:IntKind.wrap .i64 ((i:Int)+1)=((i+1:Nat):Int):=by rw [bn (by omega) (by omega)];omega
   have hx:=hr l[i] (List.getElem_mem hi');have hpre:∀ n∈l.take i,qI n=true:=fun n hn=>hr n (List.mem_of_mem_take hn)
   have hSr:=vC hpre;have hlt:(l.take i).length<=l.length:=by simp;omega
   obtain ⟨S,hS⟩:=aH (az (l.take i));obtain ⟨n,hn⟩:=aH (l[i]);have hnext:az (l.take (i+1))=S+n:=by rw [List.take_succ_eq_append_getElem hi',u7,hS,hn]
   rw [<- hn] at hx;rw [<- hS] at hSr;simp only [qI,cr,decide_eq_true_eq] at hx;obtain ⟨B,hB⟩:=aH (n / 18446744073709551616);have hBr:-9223372036854775808<=B/\B<=9223372036854775807:=by omega
   have hu:IntKind.wrap .u64 B=B%18446744073709551616:=IntKind.wrap_u64 B;obtain ⟨c,hc⟩:=aH ((S%18446744073709551616+n%18446744073709551616+0) / 18446744073709551616);have hcr:0<=c/\c<=1:=by omega
   have h3:=Ug (S / 18446744073709551616) B c hcr hBr;have h2:=Kr S n;have h4:=div_add S n;rw [<- hB,<- hc] at h2 h4;rw [h4] at h3;obtain ⟨d,hd⟩:=aH ((S / 18446744073709551616%18446744073709551616+B%18446744073709551616+c) / 18446744073709551616);have hdr:0<=d/\d<=1:=by omega
   obtain ⟨tp,htp⟩:=aH (S / 18446744073709551616 / 18446744073709551616);have htr:-4611686018427387904<=tp/\tp<=4611686018427387904:=by omega
   have w1:IntKind.wrap .i64 d=d:=bn (by omega) (by omega);have w2:IntKind.wrap .i64 (tp+d)=tp+d:=bn (by omega) (by omega);have w3:IntKind.wrap .i64 (tp+d-1)=tp+d-1:=bn (by omega) (by omega);rw [<- htp,<- hd] at h3;simp only [go_sem,seval,tM l hi',<- hn,<- hS,<- hB];refine ⟨by omega,?_⟩;refine aa.sem rfl ?_
   with_reducible refine lS.tK (k:=91) (fn:=Tryz.f91) (i:=S%18446744073709551616) (j:=n%18446744073709551616) (m:=0) ?_ Tryz.func91 ?_ ?_ jj iY ?_ ?_ ?_ ?_ ?_ ?_ ?_ ?_ ?_
   iterate 11 (first | rfl | omega)
   simp only [go_sem,seval,hu,<- hc,tM l hi',<- hn,<- hB];refine ⟨by omega,?_⟩;refine aa.sem rfl ?_
   with_reducible refine lS.tK (k:=91) (fn:=Tryz.f91) (i:=S / 18446744073709551616%18446744073709551616) (j:=B%18446744073709551616) (m:=c) ?_ Tryz.func91 ?_ ?_ jj iY ?_ ?_ ?_ ?_ ?_ ?_ ?_ ?_ ?_
   iterate 11 (first | rfl | omega)
   rw [<- hd,h2,KU];rcases Int.lt_or_le B 0 with hB0 | hB0
   ·have db:decide (B < 0)=true:=decide_eq_true hB0;rw [if_pos hB0] at h3;have h5:tp+d-1=(S+n) / 18446744073709551616 / 18446744073709551616:=by omega
    simp only [go_sem,seval,<- htp,w1,w2,tM l hi',<- hn,<- hB,db,w3,hw];refine ⟨by omega,ah.next hi' trivial ?_⟩;simp only [go_sem,seval,hnext,h5]
   ·have db:decide (B < 0)=false:=decide_eq_false (by omega);rw [if_neg (by omega)] at h3;have h5:tp+d=(S+n) / 18446744073709551616 / 18446744073709551616:=by omega
    simp only [go_sem,seval,<- htp,w1,w2,tM l hi',<- hn,<- hB,db,hw];refine ⟨by omega,ah.next hi' trivial ?_⟩;simp only [go_sem,seval,hnext,h5]
  ·obtain rfl:i=l.length:=by omega
   obtain ⟨T,hT⟩:=aH (az l);have hTr:=vC hr;rw [<- hT] at hTr |-;obtain ⟨A,hA⟩:=aH (T / 18446744073709551616);obtain ⟨m,hm⟩:=aH (IntKind.wrap .i64 (A%18446744073709551616))
   have hm1:m=if A%18446744073709551616 < 9223372036854775808 then A%18446744073709551616 else A%18446744073709551616-18446744073709551616:=by
    rw [hm,IntKind.wrap_i64];split<;>omega
   obtain ⟨tp,htp⟩:=aH (A / 18446744073709551616)
   by_cases hi:qI T=true
   ·have hi2:=hi;simp only [qI,cr,decide_eq_true_eq] at hi2;have hmA:m=A:=by rw [hm1];split<;>omega
    rw [if_pos hi,hi];rcases Int.lt_or_le A 0 with hs | hs
    ·have b1:(tp==0)=false:=by rw [beq_eq_false_iff_ne];omega
     have b2:(tp == -1)=true:=by rw [beq_iff_eq];omega
     have b3:decide (A < 0)=true:=decide_eq_true hs;simp only [go_sem,seval,List.take_length,<- hT,<- hA,<- hm,<- htp,hmA,b1,b2,b3,wd]
    ·have b1:(tp==0)=true:=by rw [beq_iff_eq];omega
     have b3:decide (0<=A)=true:=decide_eq_true hs;simp only [go_sem,seval,List.take_length,<- hT,<- hA,<- hm,<- htp,hmA,b1,b3,wd]
   ·have hi2:¬ (-170141183460469231731687303715884105728<=T/\T < 170141183460469231731687303715884105728):=by
     simpa only [qI,cr,decide_eq_true_eq] using hi
    have hif:qI T=false:=by simpa using hi
    rw [if_neg hi,hif];have hw0:wd 0=[.int .i64 0,.int .u64 0]:=rfl;rcases Int.lt_or_le m 0 with hs | hs
    ·have b2:(tp == -1)=false:=by rw [beq_eq_false_iff_ne];rw [hm1] at hs;split at hs<;>omega
     have b3:decide (m < 0)=true:=decide_eq_true hs;have b4:decide (0<=m)=false:=decide_eq_false (by omega);cases b1:(tp==0)<;>simp only [go_sem,seval,List.take_length,<- hT,<- hA,<- hm,<- htp,b1,b2,b3,b4,hw0]
    ·have b1:(tp==0)=false:=by rw [beq_eq_false_iff_ne];rw [hm1] at hs;split at hs<;>omega
     have b3:decide (m < 0)=false:=decide_eq_false (by omega);cases b2:(tp == -1)<;>simp only [go_sem,seval,List.take_length,<- hT,<- hA,<- hm,<- htp,b1,b2,b3,hw0]
end Go.Proofs.YtnkobepdbkmedaaGreatDoor
