/- A roll is right: members, instruments, assets, and what follows. No theorem of a claim. -/
import Derived.Test.YtnkobepdbkmedaaGreatKA
import Derived.Test.YtnkobepdbkmedaaGreatAbcWalk
set_option linter.unusedSimpArgs false
set_option linter.unusedVariables false
set_option maxHeartbeats 4000000
set_option maxRecDepth 16000
namespace Go.Proofs.YtnkobepdbkmedaaGreat
open Go.Abs
structure ak where
 no:Int
 state:Int
 need:Int
@[reducible] def ak.cells (x:ak):List D:=[.int .i64 x.no,.int .i64 x.state,.int .i64 x.need]
def ak.ok (x:ak):Bool:=within x.no 1 16&&within x.state 1 3&&bP x.need&&decide (0<=x.need)
theorem pL (x:ak):Abs.Spec Tryz.prog 74 [] [.agg x.cells] [] (.int .i64 x.no):=by
 refine bg 5 1 [.tmp 2] mixed Tryz.func74 ?_;simp only [ak.cells];simp only [go_sem,seval]
theorem qA (x:ak):Abs.Spec Tryz.prog 75 [] [.agg x.cells] [] (.bool x.ok):=by
 have h1:=fA x.no 1 16;have h2:=fA x.state 1 3;have h3:=jM [x.need] (by simp);rw [nA] at h3;simp only [ak.cells];refine bg 22 1 [.tmp 2] mixed Tryz.func75 ?_;simp only [go_sem,seval];refine aa.pure h1 ?_;cases hb1:within x.no 1 16
 ·have e:x.ok=false:=by simp [ak.ok,hb1]
  simp only [go_sem,seval,e]
 simp only [go_sem,seval];refine aa.pure h2 ?_;cases hb2:within x.state 1 3
 ·have e:x.ok=false:=by simp [ak.ok,hb2]
  simp only [go_sem,seval,e]
 simp only [go_sem,seval];refine aa.gen [] [] true (by simp) ?_;simp only [go_sem,seval];refine aY.intro h3 ?_;cases hb3:bP x.need
 ·have e:x.ok=false:=by simp [ak.ok,hb3]
  simp only [go_sem,seval,e]
 have e:x.ok=decide (0<=x.need):=by simp [ak.ok,hb1,hb2,hb3]
 simp only [go_sem,seval,e]
structure aq where
 no:Int
 cur:Int
 mult:Int
 add:Int
 set:Int
 aR:Int
 s0:Int
 s1:Int
 s2:Int
 s3:Int
 s4:Int
 s5:Int
@[reducible] def aq.cells (x:aq):List D:=[.int .i64 x.no,.int .i64 x.cur,.int .i64 x.mult,.int .i64 x.add,.int .i64 x.set,.int .i64 x.aR,.int .i64 x.s0,.int .i64 x.s1,.int .i64 x.s2,.int .i64 x.s3,.int .i64 x.s4,.int .i64 x.s5]
def aq.sh (x:aq):Nat->Int
 | 0=>x.s0 | 1=>x.s1 | 2=>x.s2 | 3=>x.s3 | 4=>x.s4 | _=>x.s5
def aq.HG (x:aq):Bool:=(List.range 6).all fun i=>within (x.sh i) (-1073741824) 1073741824
def aq.ok (x:aq):Bool:=x.HG&&within x.no 1 8&&within x.cur 0 2&&within x.mult 1 1024&&within x.add 0 1073741824&&within x.set 0 1073741824&&within x.aR 0 1073741824
theorem sR (x:aq):Abs.Spec Tryz.prog 77 [] [.agg x.cells] [] (.int .i64 x.no):=by
 refine bg 5 1 [.tmp 2] mixed Tryz.func77 ?_;simp only [aq.cells];simp only [go_sem,seval]
theorem sA (x:aq):Abs.Spec Tryz.prog 78 [] [.agg x.cells] [] (.bool x.ok):=by
 have h1:=fA x.no 1 8;have h2:=fA x.cur 0 2;have h3:=fA x.mult 1 1024;have h4:=fA x.add 0 1073741824;have h5:=fA x.set 0 1073741824;have h6:=fA x.aR 0 1073741824;simp only [aq.cells];refine bg 42 1 [.tmp 2] mixed Tryz.func78 ?_;simp only [go_sem,seval];refine aC.count 6 [1,6] [32] (fun i=>[(7,.int .i64 i)]) (fun i=>[]) (fun i=>∀ j < i,within (x.sh j) (-1073741824) 1073741824=true) (by simp) ?_ ?_
 ·simp only [go_sem,seval]
 ·intro i hi hI;simp only [go_sem,seval];refine bJ.aK (fun h=>?_) (fun h=>?_)
  ·have hi':i < 6:=by omega
   have hix:(List.drop (i*1) [D.int .i64 x.s0,D.int .i64 x.s1,D.int .i64 x.s2,D.int .i64 x.s3,D.int .i64 x.s4,D.int .i64 x.s5]).headD .undef=.int .i64 (x.sh i):=by
    rcases i with _ | _ | _ | _ | _ | _ | i<;>first | rfl | omega
   have hw:IntKind.wrap .i64 ((i:Int)+1)=((i+1:Nat):Int):=by rw [bz (by omega) (by omega)];omega
   have hv:=fA (x.sh i) (-1073741824) 1073741824;simp only [go_sem,seval,hix];refine ⟨by omega,aa.pure hv ?_⟩;cases hb:within (x.sh i) (-1073741824) 1073741824
   ·have e1:x.HG=false:=by
     cases hc:x.HG
     ·rfl
     ·rw [aq.HG,List.all_eq_true] at hc;rw [hc i (List.mem_range.2 hi')] at hb;cases hb
    have e2:x.ok=false:=by simp [aq.ok,e1]
    simp only [go_sem,seval,e2]
   ·simp only [go_sem,seval,hw];refine ah.next hi' ?_ ?_
    ·intro j hj;rcases Nat.lt_or_ge j i with h | h
     ·exact hI j h
     ·obtain rfl:j=i:=by omega
      exact hb
    ·simp only [go_sem,seval]
  ·obtain rfl:i=6:=by omega
   have hs:x.HG=true:=List.all_eq_true.2 fun j hj=>hI j (List.mem_range.1 hj)
   have e:x.ok=(within x.no 1 8&&within x.cur 0 2&&within x.mult 1 1024&&within x.add 0 1073741824&&within x.set 0 1073741824&&within x.aR 0 1073741824):=by simp [aq.ok,hs]
   rw [e];clear hI e hs
   repeat' with_reducible first|apply And.intro|exact .dq|refine aa.pure (by assumption) ?_|refine aa.pure (h1) ?_|refine aa.pure (h2) ?_|refine aa.pure (h3) ?_|refine aa.pure (h4) ?_|refine aa.pure (h5) ?_|refine aa.pure (h6) ?_|refine .aM (fun h=>?_) fun h=>?_|refine .aK (fun h=>?_) fun h=>?_|refine .aO (fun h=>?_) fun h=>?_|refine .split (fun h=>?_) fun h=>?_|refine .id ?_|refine ah.next (by omega) ?_ ?_|exact trivial|simp only [*,go_sem,seval]
   all_goals (simp_all;done)
theorem yA (xs:List ak) (hl:xs.length < 2 ^ 62):Abs.Spec Tryz.prog 73 [] [.sl 3 (xs.map ak.cells),.fn 74 [],.fn 75 []] [] (.bool (iN ak.no ak.ok xs)):=by
 refine Abs.Spec.go (n:=38) (np:=3) (rs:=[.tmp 6]) mixed Tryz.func73 rfl rfl rfl rfl rfl (by simp) (by simp) ?_;simp only [go_sem,seval,aG];refine ⟨Nat,fun i=>[(6,.bool false),(0,.sl 3 (xs.map ak.cells)),(1,.fn 74 []),(2,.fn 75 []),(9,.sl 3 (xs.map ak.cells)),(10,.int .i64 xs.length),(11,.int .i64 i)],fun i=>[],fun i=>i<=xs.length/\∀ j,j < i->cw ak.no ak.ok xs j=true,fun i=>xs.length-i,0,?_,?_,?_⟩
 ·simp
 ·simp only [go_sem,seval,aG]<;>simp
 ·rintro i ⟨hi,hr⟩
  simp only [go_sem,seval];refine bJ.split (fun h=>?_) (fun h=>?_)
  ·have hi':i < xs.length:=by simpa using h
   have bad:cw ak.no ak.ok xs i=false->iN ak.no ak.ok xs=false:=fun hx=>by
    simp only [iN,List.all_eq_false];exact ⟨i,List.mem_range.2 hi',by simp [hx]⟩
   simp only [go_sem,seval,Int.toNat_natCast,aD xs hi',ak.cells];refine ⟨by simp [hi'],?_⟩
   have next:cw ak.no ak.ok xs i=true->∀ j,j < i+1->cw ak.no ak.ok xs j=true:=fun hx j hj=>by
    rcases Nat.lt_succ_iff_lt_or_eq.1 hj with h1 | rfl
    ·exact hr j h1
    ·exact hx
   by_cases h0:0 < i
   ·have hw:IntKind.wrap .i64 ((i:Int)-1)=((i-1:Nat):Int):=by rw [wrap64 (by omega) (by omega)];omega
    have hp:i-1 < xs.length:=by omega
    have hg:decide (0 < (i:Int))=true:=by simp;omega
    have hm:=aD (c:=ak.cells) xs hp;have hra:=fU ak.no ak.ok xs hi' h0
    repeat' (with_reducible first
     | apply And.intro
     | exact iw.mk (by kernel_rfl)
     | exact Ad.mk (by kernel_rfl)
     | refine aa.pure (qA _) ?_
     | refine aa.pure (pL _) ?_
     | refine bX.aO (fun h=>?_) (fun h=>?_)
     | refine bX.split (fun h=>?_) (fun h=>?_)
     | refine bJ.split (fun h=>?_) (fun h=>?_)
     | refine fH.id ?_
     | simp only [hw,hg,hm,go_sem,seval, *,Int.toNat_natCast,ak.cells])
    ·simp;omega
    ·exact (bad (by rw [hra];simp at h;simp;intro _;omega)).symm
    ·refine ⟨i+1,⟨hi',next (by rw [hra];simp at h;simp [*])⟩,?_,by simp only;omega⟩;simp only [go_sem,seval,aG];rw [wrap64 (by omega) (by omega)];simp
   ·have hg:decide (0 < (i:Int))=false:=by simp;omega
    have hra:=fX ak.no ak.ok xs hi' h0
    repeat' (with_reducible first
     | apply And.intro
     | exact iw.mk (by kernel_rfl)
     | exact Ad.mk (by kernel_rfl)
     | refine aa.pure (qA _) ?_
     | refine aa.pure (pL _) ?_
     | refine bX.aO (fun h=>?_) (fun h=>?_)
     | refine bX.split (fun h=>?_) (fun h=>?_)
     | refine bJ.split (fun h=>?_) (fun h=>?_)
     | refine fH.id ?_
     | simp only [hg,go_sem,seval, *,Int.toNat_natCast,ak.cells])
    ·refine ⟨i+1,⟨hi',next (by rw [hra];simp [*])⟩,?_,by simp only;omega⟩;simp only [go_sem,seval,aG];rw [wrap64 (by omega) (by omega)];simp
  ·simp only [go_sem,seval];have:i=xs.length:=by simp at h;omega
   subst this
   symm
   simpa [iN] using hr
theorem Dv (xs:List aq) (hl:xs.length < 2 ^ 62):Abs.Spec Tryz.prog 76 [] [.sl 12 (xs.map aq.cells),.fn 77 [],.fn 78 []] [] (.bool (iN aq.no aq.ok xs)):=by
 refine Abs.Spec.go (n:=38) (np:=3) (rs:=[.tmp 6]) mixed Tryz.func76 rfl rfl rfl rfl rfl (by simp) (by simp) ?_;simp only [go_sem,seval,aG];refine ⟨Nat,fun i=>[(6,.bool false),(0,.sl 12 (xs.map aq.cells)),(1,.fn 77 []),(2,.fn 78 []),(9,.sl 12 (xs.map aq.cells)),(10,.int .i64 xs.length),(11,.int .i64 i)],fun i=>[],fun i=>i<=xs.length/\∀ j,j < i->cw aq.no aq.ok xs j=true,fun i=>xs.length-i,0,?_,?_,?_⟩
 ·simp
 ·simp only [go_sem,seval,aG]<;>simp
 ·rintro i ⟨hi,hr⟩
  simp only [go_sem,seval];refine bJ.split (fun h=>?_) (fun h=>?_)
  ·have hi':i < xs.length:=by simpa using h
   have bad:cw aq.no aq.ok xs i=false->iN aq.no aq.ok xs=false:=fun hx=>by
    simp only [iN,List.all_eq_false];exact ⟨i,List.mem_range.2 hi',by simp [hx]⟩
   simp only [go_sem,seval,Int.toNat_natCast,aD xs hi',aq.cells];refine ⟨by simp [hi'],?_⟩
   have next:cw aq.no aq.ok xs i=true->∀ j,j < i+1->cw aq.no aq.ok xs j=true:=fun hx j hj=>by
    rcases Nat.lt_succ_iff_lt_or_eq.1 hj with h1 | rfl
    ·exact hr j h1
    ·exact hx
   by_cases h0:0 < i
   ·have hw:IntKind.wrap .i64 ((i:Int)-1)=((i-1:Nat):Int):=by rw [wrap64 (by omega) (by omega)];omega
    have hp:i-1 < xs.length:=by omega
    have hg:decide (0 < (i:Int))=true:=by simp;omega
    have hm:=aD (c:=aq.cells) xs hp;have hra:=fU aq.no aq.ok xs hi' h0
    repeat' (with_reducible first
     | apply And.intro
     | exact iw.mk (by kernel_rfl)
     | exact Ad.mk (by kernel_rfl)
     | refine aa.pure (sA _) ?_
     | refine aa.pure (sR _) ?_
     | refine bX.aO (fun h=>?_) (fun h=>?_)
     | refine bX.split (fun h=>?_) (fun h=>?_)
     | refine bJ.split (fun h=>?_) (fun h=>?_)
     | refine fH.id ?_
     | simp only [hw,hg,hm,go_sem,seval, *,Int.toNat_natCast,aq.cells])
    ·simp;omega
    ·exact (bad (by rw [hra];simp at h;simp;intro _;omega)).symm
    ·refine ⟨i+1,⟨hi',next (by rw [hra];simp at h;simp [*])⟩,?_,by simp only;omega⟩;simp only [go_sem,seval,aG];rw [wrap64 (by omega) (by omega)];simp
   ·have hg:decide (0 < (i:Int))=false:=by simp;omega
    have hra:=fX aq.no aq.ok xs hi' h0
    repeat' (with_reducible first
     | apply And.intro
     | exact iw.mk (by kernel_rfl)
     | exact Ad.mk (by kernel_rfl)
     | refine aa.pure (sA _) ?_
     | refine aa.pure (sR _) ?_
     | refine bX.aO (fun h=>?_) (fun h=>?_)
     | refine bX.split (fun h=>?_) (fun h=>?_)
     | refine bJ.split (fun h=>?_) (fun h=>?_)
     | refine fH.id ?_
     | simp only [hg,go_sem,seval, *,Int.toNat_natCast,aq.cells])
    ·refine ⟨i+1,⟨hi',next (by rw [hra];simp [*])⟩,?_,by simp only;omega⟩;simp only [go_sem,seval,aG];rw [wrap64 (by omega) (by omega)];simp
  ·simp only [go_sem,seval];have:i=xs.length:=by simp at h;omega
   subst this
   symm
   simpa [iN] using hr
structure au where
 ms:List ak
 ns:List aq
 xs:List av
def au.cells (r:au):List D:=[.sl 3 (r.ms.map ak.cells),.sl 12 (r.ns.map aq.cells),.sl 4 (r.xs.map av.cells)]
def au.okB (r:au):Bool:=iN ak.no ak.ok r.ms&&iN aq.no aq.ok r.ns&&iN av.a av.ok r.xs
def au.small (r:au):Prop:=r.ms.length < 2 ^ 60/\r.ns.length < 2 ^ 60/\r.xs.length < 2 ^ 60
theorem Df (r:au) (hl:r.small):Abs.Spec Tryz.prog 36 [] [.agg r.cells] [] (.int .i64 (if r.okB then 0 else 14)):=by
 obtain ⟨l1,l2,l3⟩:=hl;have h1:=yA r.ms (by omega);have h2:=Dv r.ns (by omega);have h3:=zY r.xs (by omega);simp only [au.cells];refine bg 19 1 [.tmp 2] mixed Tryz.func36 ?_;simp only [go_sem,seval];refine aa.pure h1 ?_;cases b1:iN ak.no ak.ok r.ms
 ·have e:r.okB=false:=by simp [au.okB,b1]
  simp only [go_sem,seval,e]<;>simp
 simp only [go_sem,seval];refine aa.pure h2 ?_;cases b2:iN aq.no aq.ok r.ns
 ·have e:r.okB=false:=by simp [au.okB,b2]
  simp only [go_sem,seval,e]<;>simp
 simp only [go_sem,seval];refine aa.pure h3 ?_;cases b3:iN av.a av.ok r.xs
 ·have e:r.okB=false:=by simp [au.okB,b3]
  simp only [go_sem,seval,e]<;>simp
 have e:r.okB=true:=by simp [au.okB,b1,b2,b3]
 simp only [go_sem,seval,e]
def eP {A:Type} (no:A->Int) (n:Int) (z:A):List A->A
 | []=>z
 | x :: r=>if no x=n then x else eP no n z r
def fT {A:Type} (no:A->Int) (n:Int):List A->Int
 | []=>-1
 | x :: r=>if no x=n then 0 else if fT no n r < 0 then -1 else fT no n r+1
theorem gW {A:Type} {no:A->Int} {n:Int} {z:A}:∀ {xs:List A} {i:Nat} (h:i < xs.length),(∀ j (hj:j < xs.length),j < i->no xs[j]≠n)->no xs[i]=n->eP no n z xs=xs[i]/\fT no n xs=i
 | [],i,h,_,_=>by simp at h
 | x :: r,0,h,_,he=>by
  have he:no x=n:=he;simp [eP,fT,he]
 | x :: r,i+1,h,hn,he=>by
  have h0:no x≠n:=hn 0 (by simp) (by omega);obtain ⟨h1,h2⟩:=gW (z:=z) (xs:=r) (i:=i) (by simpa using h) (fun j hj hji=>hn (j+1) (by simpa using hj) (by omega)) he;simp only [eP,fT,if_neg h0,h2];refine ⟨h1,?_⟩;rw [if_neg (by omega)];omega
theorem fR {A:Type} {no:A->Int} {n:Int} {z:A}:∀ {xs:List A},(∀ j (hj:j < xs.length),no xs[j]≠n)->eP no n z xs=z/\fT no n xs = -1
 | [],_=>by simp [eP,fT]
 | x :: r,hn=>by
  have h0:no x≠n:=hn 0 (by simp);obtain ⟨h1,h2⟩:=fR (z:=z) (xs:=r) (fun j hj=>hn (j+1) (by simpa using hj));simp only [eP,fT,if_neg h0,h2];exact ⟨h1,by simp⟩
theorem Cg (xs:List av) (n:Int) (hl:xs.length < 2 ^ 62):Abs.Spec Tryz.prog 162 [] [.sl 4 (xs.map av.cells),.fn 80 [],.int .i64 n] [] (.bI [.agg (eP av.a n ⟨0,0,0,0⟩ xs).cells,.int .i64 (fT av.a n xs)]):=by
 refine bg 27 3 [.cell 6 85,.tmp 7] mixed Tryz.func162 ?_;simp only [go_sem,seval,aG];refine aC.count xs.length [1,2,6,11,12] [112,208] (fun i=>[(13,.int .i64 i)]) (fun i=>[]) (fun i=>∀ j (hj:j < xs.length),j < i->xs[j].a≠n) (by simp) ?_ ?_
 ·simp only [go_sem,seval]<;>simp
 ·intro i hi hI;simp only [go_sem,seval];refine bJ.aK (fun h=>?_) (fun h=>?_)
  ·have hi':i < xs.length:=by omega
   have hw:IntKind.wrap .i64 ((i:Int)+1)=((i+1:Nat):Int):=by rw [bz (by omega) (by omega)];omega
   have hm:=aD (c:=av.cells) xs hi';have hno:=q9 xs[i];simp only [av.cells] at hm hno |-;simp only [go_sem,seval,hm];refine ⟨by omega,aa.pure hno ?_⟩;simp only [go_sem,seval];refine bJ.split (fun hb=>?_) (fun hb=>?_)
   ·have hb:xs[i].a=n:=by simpa using hb
    obtain ⟨g1,g2⟩:=gW (z:=(⟨0,0,0,0⟩:av)) hi' hI hb;rw [g1,g2];simp only [go_sem,seval]
   ·have hb:xs[i].a≠n:=by simpa using hb
    simp only [go_sem,seval,hw];refine ah.next hi' ?_ ?_
    ·intro j hj hji;rcases Nat.lt_or_ge j i with h | h
     ·exact hI j hj h
     ·obtain rfl:j=i:=by omega
      exact hb
    ·simp only [go_sem,seval]
  ·obtain rfl:i=xs.length:=by omega
   obtain ⟨g1,g2⟩:=fR (z:=(⟨0,0,0,0⟩:av)) (fun j hj=>hI j hj hj);rw [g1,g2];simp only [go_sem,seval,av.cells]
structure aH where
 kind:Int
 who:Int
 cur:Int
@[reducible] def aH.cells (x:aH):List D:=[.int .i64 x.kind,.int .i64 x.who,.int .i64 x.cur]
def owned (k:Int):Bool:=k==2||k==3
theorem K6 (k:Int):Abs.Spec Tryz.prog 155 [] [.int .i64 k] [] (.bool (owned k)):=by
 refine bg 9 1 [.tmp 2] mixed Tryz.func155 ?_;simp only [go_sem,seval]
 repeat' (with_reducible first
  | apply And.intro
  | exact iw.mk (by kernel_rfl)
  | exact Ad.mk (by kernel_rfl)
  | refine bX.aO (fun h=>?_) (fun h=>?_)
  | refine bX.split (fun h=>?_) (fun h=>?_)
  | refine bJ.split (fun h=>?_) (fun h=>?_)
  | refine fH.id ?_
  | simp only [*,go_sem,seval])
 all_goals simp [owned, *]
def aH.right (x:aH):Bool:=if x.kind < 1\/6 < x.kind\/x.cur < 0\/3<=x.cur then false else if owned x.kind then decide (1<=x.who)&&decide (x.who<=16) else x.who==0
theorem su (x:aH):Abs.Spec Tryz.prog 87 [] [.agg x.cells] [] (.bool x.right):=by
 refine bg 37 1 [.tmp 2] mixed Tryz.func87 ?_;simp only [aH.cells];simp only [go_sem,seval]
 repeat' (with_reducible first
  | apply And.intro
  | exact iw.mk (by kernel_rfl)
  | exact Ad.mk (by kernel_rfl)
  | refine aa.pure (K6 _) ?_
  | refine bX.aO (fun h=>?_) (fun h=>?_)
  | refine bX.split (fun h=>?_) (fun h=>?_)
  | refine bJ.split (fun h=>?_) (fun h=>?_)
  | refine fH.id ?_
  | simp only [*,go_sem,seval])
 all_goals (simp only [decide_eq_true_eq,decide_eq_false_iff_not] at *)
 all_goals (unfold aH.right;simp [*])
def aH.floor (x:aH):Int:=if x.right&&(x.kind==3||x.kind==4) then 0 else -4611686018427387904
theorem C6 (x:aH):Abs.Spec Tryz.prog 88 [] [.agg x.cells] [] (.int .i64 x.floor):=by
 have hr:=su x;simp only [aH.cells] at hr;refine bg 15 1 [.tmp 2] mixed Tryz.func88 ?_;simp only [aH.cells];simp only [go_sem,seval]
 repeat' (with_reducible first
  | apply And.intro
  | exact iw.mk (by kernel_rfl)
  | exact Ad.mk (by kernel_rfl)
  | refine aa.pure hr ?_
  | refine bX.aO (fun h=>?_) (fun h=>?_)
  | refine bX.split (fun h=>?_) (fun h=>?_)
  | refine bJ.split (fun h=>?_) (fun h=>?_)
  | refine fH.id ?_
  | simp only [*,go_sem,seval])
 all_goals (unfold aH.floor;simp [*])
def aH.less (x y:aH):Bool:=if x.kind≠y.kind then decide (x.kind < y.kind) else if x.who≠y.who then decide (x.who < y.who) else decide (x.cur < y.cur)
theorem DU (x y:aH):Abs.Spec Tryz.prog 89 [] [.agg x.cells,.agg y.cells] [] (.bool (x.less y)):=by
 refine bg 32 2 [.tmp 4] mixed Tryz.func89 ?_;simp only [aH.cells];simp only [go_sem,seval]
 repeat' (with_reducible first
  | apply And.intro
  | exact iw.mk (by kernel_rfl)
  | exact Ad.mk (by kernel_rfl)
  | exact trivial
  | refine bX.aO (fun h=>?_) (fun h=>?_)
  | refine bX.split (fun h=>?_) (fun h=>?_)
  | refine bJ.split (fun h=>?_) (fun h=>?_)
  | refine fH.id ?_
  | simp only [*,go_sem,seval])
 all_goals (unfold aH.less;simp_all)
def aH.lt (x y:aH):Prop:=x.kind < y.kind\/x.kind=y.kind/\(x.who < y.who\/x.who=y.who/\x.cur < y.cur)
theorem Ti (x:aH):(x.floor==0)=(x.right&&(x.kind==3||x.kind==4)):=by
 unfold aH.floor;split
 ·rename_i h;simp [h]
 ·rename_i h;simp at h;cases hr:x.right<;>simp [hr] at h |-;exact h
def az:List Int->Int
 | []=>0
 | x :: r=>x+az r
theorem sU (a:List Int) (x:Int):az (a++[x])=az a+x:=by
 induction a with
 | nil=>simp [az]
 | cons y r ih=>simp only [List.cons_append,az,ih];omega
theorem vu:∀ {l:List Int},right l=true -> -4611686018427387904*l.length<=az l/\az l<=4611686018427387904*l.length
 | [],_=>by simp [az]
 | x :: r,h=>by
  simp only [right,List.all_cons,bZ] at h;have h2:=vu (l:=r) h.2;have h1:-4611686018427387904<=x/\x<=4611686018427387904:=by simpa [bP] using h.1
  simp only [az,List.length_cons];push_cast;omega
theorem Hl (S n:Int):(S%18446744073709551616+n%18446744073709551616+0)%18446744073709551616=(S+n)%18446744073709551616:=by omega
theorem U' (S n:Int) (h:-4611686018427387904<=n/\n<=4611686018427387904) (s:Int) (hs:s=if 0<=n then 0 else 18446744073709551615) :
  ((S / 18446744073709551616)%18446744073709551616+s+(S%18446744073709551616+n%18446744073709551616+0) / 18446744073709551616)%18446744073709551616=((S+n) / 18446744073709551616)%18446744073709551616:=by
 subst hs;split<;>omega
theorem Mz (n:Int) (h:-9223372036854775808<=n/\n<=9223372036854775807):IntKind.wrap .u64 (ym .i64 n 63)=if 0<=n then 0 else 18446744073709551615:=by
 have:ym .i64 n 63=n.fdiv (2 ^ 63):=rfl;rw [this,Int.fdiv_eq_ediv_of_nonneg _ (by omega),IntKind.wrap_u64];split<;>omega
theorem iH:Extern.find Tryz.f156=some add64Entry:=by kernel_rfl
theorem iO:Extern.findNext Tryz.f156=none:=by kernel_rfl
def rz (l:List Int):Int:=if right l&&bP (az l) then az l else 0
def ru (l:List Int):Int:=if right l then (if bP (az l) then 0 else 1) else 3
theorem Dq (S:Int) (h:-85070591730234615865843651857942052864<=S/\S<=85070591730234615865843651857942052864):Abs.Spec Tryz.prog 157 [] [.int .u64 ((S / 18446744073709551616)%18446744073709551616),.int .u64 (S%18446744073709551616)] [] (.bI [.int .i64 (if bP S then S else 0),.int .i64 (if bP S then 0 else 1)]):=by
 obtain ⟨n,hn⟩:=aL (IntKind.wrap .i64 (S%18446744073709551616))
 have hn1:n=if S%18446744073709551616 < 9223372036854775808 then S%18446744073709551616 else S%18446744073709551616-18446744073709551616:=by
  rw [hn,IntKind.wrap_i64];split<;>omega
 have hs:=Mz n (by rw [hn1];split<;>omega);have hr:=jM [n] (by simp);rw [nA] at hr;refine bg 21 2 [.tmp 4,.tmp 5] mixed Tryz.func157 ?_
 by_cases hS:-9223372036854775808<=S/\S < 9223372036854775808
 ·have hnS:n=S:=by rw [hn1];split<;>omega
  have hb:(S / 18446744073709551616%18446744073709551616 != if 0<=n then 0 else 18446744073709551615)=false:=by
   rw [bne_eq_false_iff_eq,hnS];split<;>omega
  simp only [go_sem,seval,<- hn,hs,hb];refine aa.gen [] [] true (by simp) ?_;simp only [go_sem,seval];refine aY.intro hr ?_;rw [hnS] at hr |-;cases hi:bP S
  ·simp only [go_sem,seval,hi,fY,if_false]
  ·simp only [go_sem,seval,hi,if_true]
 ·have hb:(S / 18446744073709551616%18446744073709551616 != if 0<=n then 0 else 18446744073709551615)=true:=by
   rw [bne_iff_ne,hn1];split<;>split<;>omega
  have hi:bP S=false:=by simp only [bP,Bool.and_eq_false_iff,decide_eq_false_iff_not];omega
  simp only [go_sem,seval,<- hn,hs,hb,hi,fY,if_false]
theorem Ja (l:List Int) (hl:l.length < 2 ^ 60):Abs.Spec Tryz.prog 90 [] [.sl 1 (ints l)] [] (.bI [.int .i64 (rz l),.int .i64 (ru l)]):=by
 have hr:=jM l (by omega);refine bg 40 1 [.tmp 2,.tmp 3] mixed Tryz.func90 ?_;simp only [go_sem,seval];refine aa.pure hr ?_;cases hb:right l
 ·have e1:rz l=0:=by simp [rz,hb]
  have e2:ru l=3:=by simp [ru,hb]
  simp only [go_sem,seval,e1,e2]
 simp only [go_sem,seval,ay];refine aC.count l.length [12,13] [224] (fun i=>[(14,.int .i64 i),(4,.int .u64 ((az (l.take i) / 18446744073709551616)%18446744073709551616)),(5,.int .u64 (az (l.take i)%18446744073709551616))]) (fun i=>[]) (fun i=>True) trivial ?_ ?_
 ·simp only [go_sem,seval]<;>simp [az]
 ·intro i hi _;simp only [go_sem,seval];refine bJ.aK (fun h=>?_) (fun h=>?_)
  ·have hi':i < l.length:=by omega
   have hw:IntKind.wrap .i64 ((i:Int)+1)=((i+1:Nat):Int):=by rw [bz (by omega) (by omega)];omega
   have hx:bP l[i]=true:=List.all_eq_true.1 hb _ (List.getElem_mem hi');have hxr:-4611686018427387904<=l[i]/\l[i]<=4611686018427387904:=by simpa [bP] using hx
   obtain ⟨S,hS⟩:=aL (az (l.take i));obtain ⟨n,hn⟩:=aL (l[i]);have hnext:az (l.take (i+1))=S+n:=by rw [List.take_succ_eq_append_getElem hi',sU,hS,hn]
   have hu:IntKind.wrap .u64 n=n%18446744073709551616:=IntKind.wrap_u64 n;rw [<- hn] at hxr;have hsh:=Mz n (by omega);simp only [go_sem,seval,ints_at l hi',ay,<- hn,<- hS,hu];refine ⟨by omega,?_⟩;refine aa.sem rfl ?_
   with_reducible refine kW.sC (k:=156) (fn:=Tryz.f156) (i:=S%18446744073709551616) (j:=n%18446744073709551616) (m:=0) ?_ Tryz.func156 ?_ ?_ iO iH ?_ ?_ ?_ ?_ ?_ ?_ ?_ ?_ ?_
   iterate 11 (first | rfl | omega)
   simp only [go_sem,seval,hsh];refine aa.sem rfl ?_
   with_reducible refine kW.sC (k:=156) (fn:=Tryz.f156) (i:=S / 18446744073709551616%18446744073709551616) (j:=if 0<=n then 0 else 18446744073709551615) (m:=(S%18446744073709551616+n%18446744073709551616+0) / 18446744073709551616) ?_ Tryz.func156 ?_ ?_ iO iH ?_ ?_ ?_ ?_ ?_ ?_ ?_ ?_ ?_
   iterate 7 (first | rfl | omega)
   ·split<;>omega
   iterate 3 (first | rfl | omega)
   rw [U' S n hxr _ rfl,Hl];simp only [go_sem,seval,hw];refine ah.next hi' trivial ?_
   simp only [go_sem,seval,hnext]
  ·obtain rfl:i=l.length:=by omega
   obtain ⟨S,hS⟩:=aL (az l);have hSr:=vu hb;have hf:=Dq S (by rw [hS];omega);have e1:rz l=if bP S then S else 0:=by simp [rz,hb,hS]
   have e2:ru l=if bP S then 0 else 1:=by simp [ru,hb,hS]
   rw [e1,e2];simp only [go_sem,seval,List.take_length,<- hS];refine aa.pure hf ?_;simp only [go_sem,seval]
theorem CO (r:au) (n:Int) (hl:r.small):Abs.Spec Tryz.prog 102 [] [.agg r.cells,.int .i64 n] [] (.bI [.agg (eP av.a n ⟨0,0,0,0⟩ r.xs).cells,.bool (decide (0<=fT av.a n r.xs))]):=by
 have hf:=Cg r.xs n (by have:=hl.2.2;omega);simp only [av.cells] at hf |-;simp only [au.cells,av.cells];refine bg 18 2 [.cell 4 85,.tmp 5] mixed Tryz.func102 ?_;simp only [go_sem,seval];refine aa.pure hf ?_;simp only [go_sem,seval]
structure bp where
 kind:Int
 who:Int
 cur:Int
 sum:Int
@[reducible] def bp.cells (x:bp):List D:=[.int .i64 x.kind,.int .i64 x.who,.int .i64 x.cur,.int .i64 x.sum]
def bp.bH (x:bp):aH:=⟨x.kind,x.who,x.cur⟩
structure bq where
 last:Int
 bs:List bp
def bq.cells (l:bq):List D:=[.int .i64 l.last,.sl 4 (l.bs.map bp.cells)]
def SN (a:aH) (b:bp):Bool:=b.kind==a.kind&&(b.who==a.who&&b.cur==a.cur)
def gw (a:aH):List bp->Int
 | []=>0
 | b :: r=>if SN a b then b.sum else gw a r
def fN (c:Int) (bs:List bp):List Int:=(bs.filter fun b=>b.cur==c).map bp.sum
theorem OQ (c:Int) (bs:List bp) {i:Nat} (h:i < bs.length):fN c (bs.take (i+1))=if bs[i].cur==c then fN c (bs.take i)++[bs[i].sum] else fN c (bs.take i):=by
 simp only [fN];rw [List.take_succ_eq_append_getElem h,List.filter_append,List.map_append];cases hb:bs[i].cur==c<;>simp [List.filter,hb]
theorem Jd (c:Int) (bs:List bp):(fN c bs).length<=bs.length:=by
 simp only [fN,aG];exact List.length_filter_le _ _
theorem B8 (x:Int):Abs.Spec Tryz.prog 92 [] [.int .i64 x] [] (.bool true):=by
 refine bg 3 1 [.tmp 2] mixed Tryz.func92 ?_;simp only [go_sem,seval]
theorem NN (l:bq) (c:Int) (hl:l.bs.length < 2 ^ 30):Abs.Spec Tryz.prog 91 [] [.agg l.cells,.int .i64 c,.fn 92 []] [.own 1 (ints (fN c l.bs))] (.ref 0):=by
 simp only [bq.cells];refine bg 36 3 [.tmp 6] mixed Tryz.func91 ?_;simp only [go_sem,seval,aG];refine aC.count l.bs.length [1,2,11,12] [64,208] (fun i=>[(13,.int .i64 i),(7,.ref 544)]) (fun i=>[(544,.own 1 (ints (fN c (l.bs.take i))))]) (fun i=>True) trivial ?_ ?_
 ·simp only [go_sem,seval]<;>simp [fN,ints]
 ·intro i hi _;simp only [go_sem,seval];refine bJ.aK (fun h=>?_) (fun h=>?_)
  ·have hi':i < l.bs.length:=by omega
   have hw:IntKind.wrap .i64 ((i:Int)+1)=((i+1:Nat):Int):=by rw [bz (by omega) (by omega)];omega
   have hm:=aD (c:=bp.cells) l.bs hi';have hs:=OQ c l.bs hi';have hlen:=Jd c (l.bs.take i);have hlt:(l.bs.take i).length<=l.bs.length:=by simp;omega
   simp only [bp.cells] at hm;simp only [go_sem,seval,hm];refine ⟨by omega,?_⟩;cases hb:l.bs[i].cur==c
   ·rw [hb] at hs;simp only [fY,if_false] at hs;simp only [go_sem,seval,hw];refine ah.next hi' trivial ?_
    simp only [go_sem,seval,hs]
   ·rw [hb,if_pos rfl] at hs;have hk:=B8 l.bs[i].kind;simp only [go_sem,seval];refine aa.pure hk ?_;simp only [go_sem,seval,hw,ay];refine ⟨by omega,ah.next hi' trivial ?_⟩;simp only [go_sem,seval,hs]<;>simp [ints]
  ·obtain rfl:i=l.bs.length:=by omega
   simp only [go_sem,seval,List.take_length]
def jZ (b:bp):Bool:=b.bH.right&&(bP b.sum&&(b.sum != 0&&!decide (b.sum < b.bH.floor)))
def mC (bs:List bp) (i:Nat):Bool:=
 match bs[i]? with
 | none=>true
 | some b=>jZ b&&(match i with
  | 0=>true
  | j+1=>match bs[j]? with
   | some q=>q.bH.less b.bH
   | none=>true)
theorem jN {bs:List bp} (h:0 < bs.length):mC bs 0=jZ bs[0]:=by simp [mC,h]
theorem iJ {bs:List bp} {j:Nat} (h:j+1 < bs.length):mC bs (j+1)=(jZ bs[j+1]&&(bs[j]'(by omega)).bH.less bs[j+1].bH):=by
 have h':j < bs.length:=by omega
 simp [mC,h,h']
def j3 (bs:List bp):Bool:=(List.range bs.length).all (mC bs)
theorem wo {bs:List bp} {i:Nat} (h:i < bs.length) (hn:mC bs i=false):j3 bs=false:=by
 cases hc:j3 bs
 ·rfl
 ·rw [List.all_eq_true.1 hc i (List.mem_range.2 h)] at hn;cases hn
theorem pH {bs:List bp} (h:∀ i < bs.length,mC bs i=true):j3 bs=true:=List.all_eq_true.2 fun i hi=>h i (List.mem_range.1 hi)
def jK (bs:List bp) (c:Int):Bool:=ru (fN c bs)==0&&rz (fN c bs)==0
def bq.okB (l:bq):Bool:=decide (0<=l.last)&&j3 l.bs&&(jK l.bs 0&&jK l.bs 1&&jK l.bs 2)
theorem DJ (l:bq) (hl:l.bs.length < 2 ^ 30):Abs.Spec Tryz.prog 38 [] [.agg l.cells] [] (.int .i64 (if l.okB then 0 else 14)):=by
 have hsums:=fun c=>NN l c hl
 simp only [bq.cells] at hsums |-;refine bg 78 1 [.tmp 2] mixed Tryz.func38 ?_;simp only [go_sem,seval,aG];rcases Int.lt_or_le l.last 0 with h0 | h0
 ·have d0:decide (l.last < 0)=true:=by simpa using h0
  have e:l.okB=false:=by simp [bq.okB];omega
  simp only [go_sem,seval,d0,e]<;>simp
 have d0:decide (l.last < 0)=false:=by simpa using h0
 simp only [go_sem,seval,d0,aG];refine aC.count l.bs.length [1,12,13] [32,224] (fun i=>[(14,.int .i64 i)]) (fun i=>[]) (fun i=>∀ j < i,mC l.bs j=true) (by simp) ?_ ?_
 ·simp only [go_sem,seval]<;>simp
 ·intro i hi hI;simp only [go_sem,seval];refine bJ.aK (fun h=>?_) (fun h=>?_)
  ·have hi':i < l.bs.length:=by omega
   have hw:IntKind.wrap .i64 ((i:Int)+1)=((i+1:Nat):Int):=by rw [bz (by omega) (by omega)];omega
   have hm:=aD (c:=bp.cells) l.bs hi';have h1:=su l.bs[i].bH;have h2:Abs.Spec Tryz.prog 83 [] [.sl 1 [[.int .i64 l.bs[i].sum]]] [] (.bool (right [l.bs[i].sum])):=jM [l.bs[i].sum] (by simp);have h3:=C6 l.bs[i].bH;rw [nA] at h2
   have e0:mC l.bs i=true->∀ k < i+1,mC l.bs k=true:=fun h0 k hk=>by
    rcases Nat.lt_or_ge k i with h | h
    ·exact hI k h
    ·obtain rfl:k=i:=by omega
     exact h0
   have e1:mC l.bs i=false->l.okB=false:=fun hx=>by simp [bq.okB,wo hi' hx]
   simp only [bp.cells,aH.cells,bp.bH] at hm h1 h3;rcases Nat.eq_zero_or_pos i with rfl | hpos
   ·have hk:=jN hi';simp only [jZ,bp.bH] at hk;clear hsums;simp only [go_sem,seval,hm]
    repeat' with_reducible first|apply And.intro|exact .dq|refine aa.pure (by assumption) ?_|(refine aa.gen [] [] true (by simp) ?_;simp only [go_sem,seval];refine aY.intro h2 ?_)|refine .aM (fun h=>?_) fun h=>?_|refine .aK (fun h=>?_) fun h=>?_|refine .aO (fun h=>?_) fun h=>?_|refine .split (fun h=>?_) fun h=>?_|refine .id ?_|refine ah.next (by omega) ?_ ?_|exact trivial|simp only [*,go_sem,seval]
    all_goals first
     | omega
     | rfl
     | (refine e0 ?_;clear e0 e1;rw [hk];clear hk;simp [bne, *];done)
     | (rw [e1 ?_]
        ·rfl
        ·clear e0 e1;rw [hk];clear hk;simp [bne, *];done)
   ·obtain ⟨j,rfl⟩:∃ j,i=j+1:=⟨i-1,by omega⟩
    have hj:j < l.bs.length:=by omega
    have hw1:IntKind.wrap .i64 (((j+1:Nat):Int)-1)=(j:Int):=by rw [bz (by omega) (by omega)];omega
    have hk:=iJ hi';simp only [jZ,bp.bH] at hk;have hmj:=aD (c:=bp.cells) l.bs hj;have h4:=DU l.bs[j].bH l.bs[j+1].bH;simp only [bp.cells,aH.cells,bp.bH] at hmj h4;clear hsums;simp only [go_sem,seval,hm]
    repeat' with_reducible first|apply And.intro|exact .dq|refine aa.pure (by assumption) ?_|(refine aa.gen [] [] true (by simp) ?_;simp only [go_sem,seval];refine aY.intro h2 ?_)|refine .aM (fun h=>?_) fun h=>?_|refine .aK (fun h=>?_) fun h=>?_|refine .aO (fun h=>?_) fun h=>?_|refine .split (fun h=>?_) fun h=>?_|refine .id ?_|refine ah.next (by omega) ?_ ?_|exact trivial|simp only [*,go_sem,seval,hmj]
    all_goals first
     | omega
     | rfl
     | (refine e0 ?_;clear e0 e1;rw [hk];clear hk;simp [bne, *];done)
     | (rw [e1 ?_]
        ·rfl
        ·clear e0 e1;rw [hk];clear hk;simp [bne, *];done)
  ·obtain rfl:i=l.bs.length:=by omega
   have hs:=pH hI;simp only [go_sem,seval];refine aC.count 3 [1] [32] (fun i=>[(61,.int .i64 i)]) (fun i=>[]) (fun i=>∀ c < i,jK l.bs (c:Nat)=true) (by simp) ?_ ?_
   ·simp only [go_sem,seval]<;>simp
   ·intro c hc hC;simp only [go_sem,seval];refine bJ.aK (fun h=>?_) (fun h=>?_)
    ·have hc':c < 3:=by omega
     have hw:IntKind.wrap .i64 ((c:Int)+1)=((c+1:Nat):Int):=by rw [bz (by omega) (by omega)];omega
     have hlen:=Jd c l.bs;have hsum:=Ja (fN c l.bs) (by omega)
     have hbad:jK l.bs c=false->l.okB=false:=fun hx=>by
      obtain rfl | rfl | rfl:c=0\/c=1\/c=2:=by omega
      ·have:jK l.bs 0=false:=hx;simp [bq.okB,this]
      ·have:jK l.bs 1=false:=hx;simp [bq.okB,this]
      ·have:jK l.bs 2=false:=hx;simp [bq.okB,this]
     simp only [go_sem,seval];refine aa.gen [] [] false (by simp) ?_;simp only [go_sem,seval];refine aY.intro (hsums c) ?_;simp only [go_sem,seval];refine aa.gen [] [] true (by simp) ?_;simp only [go_sem,seval];refine aY.intro hsum ?_;cases hE:ru (fN c l.bs)==0
     ·have e:l.okB=false:=hbad (by simp [jK,hE]);have hE':(ru (fN c l.bs) != 0)=true:=by simp [bne,hE]
      simp only [go_sem,seval,hE',e]<;>simp
     have hE':(ru (fN c l.bs) != 0)=false:=by simp [bne,hE]
     cases hN:rz (fN c l.bs)==0
     ·have e:l.okB=false:=hbad (by simp [jK,hE,hN]);have hN':(rz (fN c l.bs) != 0)=true:=by simp [bne,hN]
      simp only [go_sem,seval,hE',hN',e]<;>simp
     have hN':(rz (fN c l.bs) != 0)=false:=by simp [bne,hN]
     simp only [go_sem,seval,hE',hN',hw];refine ah.next hc' ?_ ?_
     ·intro k hk;rcases Nat.lt_or_ge k c with h | h
      ·exact hC k h
      ·obtain rfl:k=c:=by omega
       simp [jK,hE,hN]
     ·simp only [go_sem,seval]
    ·obtain rfl:c=3:=by omega
     have b0:jK l.bs 0=true:=hC 0 (by omega);have b1:jK l.bs 1=true:=hC 1 (by omega);have b2:jK l.bs 2=true:=hC 2 (by omega);have e:l.okB=true:=by simp [bq.okB,hs,b0,b1,b2,h0]
     simp only [go_sem,seval,e]<;>simp
def BR (r:au) (x:eO):av:=eP av.a x.bG ⟨0,0,0,0⟩ r.xs
def KR (r:au) (w c:Int) (x:eO):Bool:=decide (0<=fT av.a x.bG r.xs)&&(x.who==w&&(BR r x).b==c)
def iS (r:au) (w c:Int) (ps:List eO):List Int:=(ps.filter (KR r w c)).map fun x=>(BR r x).V x.units
def jj (r:au) (w c:Int):List eO->Int
 | []=>0
 | x :: l=>if KR r w c x&&(BR r x).E x.units != 0 then (BR r x).E x.units else jj r w c l
theorem L0 (r:au) (w c:Int) (ps:List eO) {i:Nat} (h:i < ps.length):iS r w c (ps.take (i+1))=if KR r w c ps[i] then iS r w c (ps.take i)++[(BR r ps[i]).V ps[i].units] else iS r w c (ps.take i):=by
 simp only [iS];rw [List.take_succ_eq_append_getElem h,List.filter_append,List.map_append];cases hb:KR r w c ps[i]<;>simp [List.filter,hb]
theorem FJ (r:au) (w c:Int) (ps:List eO):(iS r w c ps).length<=ps.length:=by
 simp only [iS,aG];exact List.length_filter_le _ _
def u0 (l:bq) (r:au) (ps:List eO):Int:=if l.okB&&r.okB&&gf ps then 0 else 14
def GU (l:bq) (r:au) (ps:List eO) (w c:Int):Int:=
 if u0 l r ps != 0 then u0 l r ps else if jj r w c ps != 0 then jj r w c ps else ru (gw ⟨2,w,c⟩ l.bs :: iS r w c ps)
def HI (l:bq) (r:au) (ps:List eO) (w c:Int):Int:=
 if u0 l r ps != 0 then 0 else if jj r w c ps != 0 then 0 else rz (gw ⟨2,w,c⟩ l.bs :: iS r w c ps)
def aaJ (r:au) (w c:Int) (x:eO):Int:=if KR r w c x then (BR r x).V x.units else 0
def Tz (r:au) (w c:Int):List eO->Int
 | []=>0
 | x :: l=>aaJ r w c x+Tz r w c l
theorem MA (r:au) (w c:Int):∀ ps:List eO,az (iS r w c ps)=Tz r w c ps
 | []=>rfl
 | x :: l=>by
  have ih:=MA r w c l;simp only [iS] at ih;simp only [Tz,aaJ,iS,List.filter];cases hb:KR r w c x
  ·simp only [fY,if_false,ih];omega
  ·simp only [List.map_cons,az,if_true,ih]
theorem cm {x:Int}:bP x=true ↔ -4611686018427387904<=x/\x<=4611686018427387904:=by simp [bP]
def UI (a b:Int):Int:=if bP a&&(bP b&&bP (a-b)) then a-b else 0
def Ug (a b:Int):Int:=if bP a&&bP b then (if bP (a-b) then 0 else 1) else 3
def wd (S:Int):List D:=[.int .i64 (S / 18446744073709551616),.int .u64 (S%18446744073709551616)]
theorem Wt (n:Int) (h:-9223372036854775808<=n/\n<=9223372036854775807):ym .i64 n 63=n / 18446744073709551616:=by
 have:ym .i64 n 63=n.fdiv (2 ^ 63):=rfl;rw [this,Int.fdiv_eq_ediv_of_nonneg _ (by omega)];omega
theorem oH (n:Int) (h:-9223372036854775808<=n/\n<=9223372036854775807):Abs.Spec Tryz.prog 43 [] [.int .i64 n] [] (.agg (wd n)):=by
 have h1:=Wt n h;have h2:IntKind.wrap .u64 n=n%18446744073709551616:=IntKind.wrap_u64 n;refine bg 8 1 [.cell 2 128] mixed Tryz.func43 ?_;simp only [go_sem,seval,h1,h2,wd]
theorem qN (n:Int) (h:-9223372036854775808<=n/\n<=9223372036854775807):Abs.Spec Tryz.prog 214 [] [.int .i64 n] [] (.agg (wd n)):=by
 have h2:IntKind.wrap .u64 n=n%18446744073709551616:=IntKind.wrap_u64 n;refine bg 11 1 [.cell 2 128] mixed Tryz.func214 ?_;rcases Int.lt_or_le n 0 with hn | hn
 ·have d:decide (n < 0)=true:=decide_eq_true hn;have e:n / 18446744073709551616 = -1:=by omega
  simp only [go_sem,seval,d,h2,wd,e]
 ·have d:decide (n < 0)=false:=decide_eq_false (by omega);have e:n / 18446744073709551616=0:=by omega
  simp only [go_sem,seval,d,h2,wd,e]
theorem GI (S:Int):Abs.Spec Tryz.prog 106 [] [.agg (wd S)] [] (.bI [.int .i64 (if bP S then S else 0),.int .i64 (if bP S then 0 else 1)]):=by
 obtain ⟨n,hn⟩:=aL (IntKind.wrap .i64 (S%18446744073709551616))
 have hn1:n=if S%18446744073709551616 < 9223372036854775808 then S%18446744073709551616 else S%18446744073709551616-18446744073709551616:=by
  rw [hn,IntKind.wrap_i64];split<;>omega
 have hnr:-9223372036854775808<=n/\n<=9223372036854775807:=by rw [hn1];split<;>omega
 have hO:=oH n hnr;have hr:Abs.Spec Tryz.prog 83 [] [.sl 1 [[.int .i64 n]]] [] (.bool (right [n])):=jM [n] (by simp);rw [nA] at hr;have hm:(S%18446744073709551616==n%18446744073709551616)=true:=by rw [beq_iff_eq,hn1];split<;>omega
 simp only [wd] at hO |-;refine bg 19 1 [.tmp 2,.tmp 3] mixed Tryz.func106 ?_;simp only [go_sem,seval,<- hn];refine ⟨iw.mk (by kernel_rfl),Ad.mk (by kernel_rfl),aa.pure hO ?_⟩
 by_cases hS:-9223372036854775808<=S/\S < 9223372036854775808
 ·have hnS:n=S:=by rw [hn1];split<;>omega
  have hq:(S / 18446744073709551616==n / 18446744073709551616)=true:=by rw [hnS];exact beq_self_eq_true _
  simp only [go_sem,seval,hm,hq];refine ⟨Ad.mk (by kernel_rfl),?_⟩;refine aa.gen [] [] true (by simp) ?_;simp only [go_sem,seval];refine aY.intro hr ?_;rw [hnS];cases hi:bP S
  ·simp only [go_sem,seval,hi,fY,if_false]
  ·simp only [go_sem,seval,hi,if_true]
 ·have hq:(S / 18446744073709551616==n / 18446744073709551616)=false:=by
   rw [beq_eq_false_iff_ne,hn1];split<;>omega
  have hi:bP S=false:=by simp only [bP,Bool.and_eq_false_iff,decide_eq_false_iff_not];omega
  simp only [go_sem,seval,hm,hq,hi,fY,if_false]
def kD (l:List Int):List (List D):=l.map wd
@[go_sem] theorem we (l:List Int):(kD l).length=l.length:=by simp [kD]
theorem sB (l:List Int) {i:Nat} (h:i < l.length):(kD l).getD i []=[.int .i64 (l[i] / 18446744073709551616),.int .u64 (l[i]%18446744073709551616)]:=by simp [kD,h,wd]
def pg (S:Int):Bool:=decide (-170141183460469231731687303715884105728<=S)&&decide (S < 170141183460469231731687303715884105728)
theorem F7 (S n:Int):((S / 18446744073709551616)%18446744073709551616+(n / 18446744073709551616)%18446744073709551616+(S%18446744073709551616+n%18446744073709551616+0) / 18446744073709551616)%18446744073709551616=((S+n) / 18446744073709551616)%18446744073709551616:=by
 have h1:(S+n) / 18446744073709551616=S / 18446744073709551616+n / 18446744073709551616+(S%18446744073709551616+n%18446744073709551616+0) / 18446744073709551616:=by omega
 rw [h1];omega
theorem So (A B c s:Int) (hc:0<=c/\c<=1) (hB:-9223372036854775808<=B/\B<=9223372036854775807) (hs:s=if 0<=B then 0 else 18446744073709551615) :
  ((A / 18446744073709551616)%18446744073709551616+s+(A%18446744073709551616+B%18446744073709551616+c) / 18446744073709551616)%18446744073709551616=((A+B+c) / 18446744073709551616)%18446744073709551616:=by
 have h1:(A+B+c) / 18446744073709551616=A / 18446744073709551616+B / 18446744073709551616+(A%18446744073709551616+B%18446744073709551616+c) / 18446744073709551616:=by omega
 rw [h1,hs];split<;>omega
theorem div_add (S n:Int):S / 18446744073709551616+n / 18446744073709551616+(S%18446744073709551616+n%18446744073709551616+0) / 18446744073709551616=(S+n) / 18446744073709551616:=by omega
theorem tX:∀ {l:List Int},(∀ n∈l,pg n=true) -> -170141183460469231731687303715884105728*(l.length:Int)<=az l/\az l<=170141183460469231731687303715884105728*(l.length:Int)
 | [],_=>by simp [az]
 | x :: r,h=>by
  have h2:=tX (l:=r) fun n hn=>h n (by simp [hn])
  have h1:=h x (by simp);simp only [pg,bZ,decide_eq_true_eq] at h1;simp only [az,List.length_cons];push_cast;omega
theorem G7 (l:List Int) (hl:l.length < 2 ^ 60) (hr:∀ n∈l,pg n=true):Abs.Spec Tryz.prog 105 [] [.sl 2 (kD l)] [] (.bI [.agg (wd (if pg (az l) then az l else 0)),.int .i64 (if pg (az l) then 0 else 1)]):=by
 refine bg 54 1 [.cell 2 128,.tmp 3] mixed Tryz.func105 ?_;simp only [go_sem,seval];refine aC.count l.length [2,10,11] [48,192] (fun i=>[(12,.int .i64 i),(4,.int .u64 (az (l.take i)%18446744073709551616)),(5,.int .u64 ((az (l.take i) / 18446744073709551616)%18446744073709551616)),(6,.int .u64 ((az (l.take i) / 18446744073709551616 / 18446744073709551616)%18446744073709551616))]) (fun i=>[]) (fun i=>True) trivial ?_ ?_
 ·simp only [go_sem,seval]<;>simp [az]
 ·intro i hi _;simp only [go_sem,seval];refine bJ.aK (fun h=>?_) (fun h=>?_)
  ·have hi':i < l.length:=by omega
   have hw:IntKind.wrap .i64 ((i:Int)+1)=((i+1:Nat):Int):=by rw [bz (by omega) (by omega)];omega
   have hx:=hr l[i] (List.getElem_mem hi');obtain ⟨S,hS⟩:=aL (az (l.take i));obtain ⟨n,hn⟩:=aL (l[i]);have hnext:az (l.take (i+1))=S+n:=by rw [List.take_succ_eq_append_getElem hi',sU,hS,hn]
   rw [<- hn] at hx;simp only [pg,bZ,decide_eq_true_eq] at hx;obtain ⟨B,hB⟩:=aL (n / 18446744073709551616);have hBr:-9223372036854775808<=B/\B<=9223372036854775807:=by omega
   have hu:IntKind.wrap .u64 B=B%18446744073709551616:=IntKind.wrap_u64 B;have hsh:=Mz B hBr;have h3:=So (S / 18446744073709551616) B ((S%18446744073709551616+n%18446744073709551616+0) / 18446744073709551616) _ (by omega) hBr rfl;have h2:=F7 S n;have h4:=div_add S n;rw [<- hB] at h2 h4;rw [h4] at h3;simp only [go_sem,seval,sB l hi',<- hn,<- hS,<- hB];refine ⟨by omega,?_⟩;refine aa.sem rfl ?_
   with_reducible refine kW.sC (k:=156) (fn:=Tryz.f156) (i:=S%18446744073709551616) (j:=n%18446744073709551616) (m:=0) ?_ Tryz.func156 ?_ ?_ iO iH ?_ ?_ ?_ ?_ ?_ ?_ ?_ ?_ ?_
   iterate 11 (first | rfl | omega)
   simp only [go_sem,seval,hu];refine aa.sem rfl ?_
   with_reducible refine kW.sC (k:=156) (fn:=Tryz.f156) (i:=S / 18446744073709551616%18446744073709551616) (j:=B%18446744073709551616) (m:=(S%18446744073709551616+n%18446744073709551616+0) / 18446744073709551616) ?_ Tryz.func156 ?_ ?_ iO iH ?_ ?_ ?_ ?_ ?_ ?_ ?_ ?_ ?_
   iterate 11 (first | rfl | omega)
   simp only [go_sem,seval,hsh];refine aa.sem rfl ?_
   with_reducible refine kW.sC (k:=156) (fn:=Tryz.f156) (i:=S / 18446744073709551616 / 18446744073709551616%18446744073709551616) (j:=if 0<=B then 0 else 18446744073709551615) (m:=(S / 18446744073709551616%18446744073709551616+B%18446744073709551616+(S%18446744073709551616+n%18446744073709551616+0) / 18446744073709551616) / 18446744073709551616) ?_ Tryz.func156 ?_ ?_ iO iH ?_ ?_ ?_ ?_ ?_ ?_ ?_ ?_ ?_
   iterate 7 (first | rfl | omega)
   ·split<;>omega
   iterate 3 (first | rfl | omega)
   rw [h3,h2,Hl];simp only [go_sem,seval,hw];refine ah.next hi' trivial ?_
   simp only [go_sem,seval,hnext]
  ·obtain rfl:i=l.length:=by omega
   obtain ⟨T,hT⟩:=aL (az l);have hTr:=tX hr;rw [<- hT] at hTr |-;obtain ⟨A,hA⟩:=aL (T / 18446744073709551616);have hAr:-85070591730234615865843651857942052864<=A/\A<=85070591730234615865843651857942052864:=by omega
   obtain ⟨m,hm⟩:=aL (IntKind.wrap .i64 (A%18446744073709551616))
   have hm1:m=if A%18446744073709551616 < 9223372036854775808 then A%18446744073709551616 else A%18446744073709551616-18446744073709551616:=by
    rw [hm,IntKind.wrap_i64];split<;>omega
   have hs:=Mz m (by rw [hm1];split<;>omega)
   by_cases hi:pg T=true
   ·have hi2:=hi;simp only [pg,bZ,decide_eq_true_eq] at hi2;have hmA:m=A:=by rw [hm1];split<;>omega
    have hb:(A / 18446744073709551616%18446744073709551616 != if 0<=m then 0 else 18446744073709551615)=false:=by
     rw [bne_eq_false_iff_eq,hmA];split<;>omega
    rw [if_pos hi,if_pos hi];rw [hmA] at hs hb;have hm2:IntKind.wrap .i64 (A%18446744073709551616)=A:=by rw [<- hm,hmA]
    simp only [go_sem,seval,List.take_length,<- hT,<- hA,hm2,hs,hb,wd]
   ·have hi2:¬ (-170141183460469231731687303715884105728<=T/\T < 170141183460469231731687303715884105728):=by
     simpa only [pg,bZ,decide_eq_true_eq] using hi
    have hb:(A / 18446744073709551616%18446744073709551616 != if 0<=m then 0 else 18446744073709551615)=true:=by
     rw [bne_iff_ne,hm1];split<;>split<;>omega
    rw [if_neg hi,if_neg hi];simp only [go_sem,seval,List.take_length,<- hT,<- hA,<- hm,hs,hb,wd]
    try exact ⟨by decide,by decide⟩
theorem cZ (n:Int):Abs.Spec Tryz.prog 127 [] [.int .i64 n] [] (.bool (bP n)):=by
 refine bg 9 1 [.tmp 2] mixed Tryz.func127 ?_;simp only [go_sem,seval]
 repeat' with_reducible first|apply And.intro|exact .dq|refine aa.pure (by assumption) ?_|refine .aM (fun h=>?_) fun h=>?_|refine .aK (fun h=>?_) fun h=>?_|refine .aO (fun h=>?_) fun h=>?_|refine .split (fun h=>?_) fun h=>?_|refine .id ?_|refine ah.next (by omega) ?_ ?_|exact trivial|simp only [*,go_sem,seval]
 all_goals (rw [Bool.eq_iff_iff];simp [bP];omega)
theorem jU (S:Int):Abs.Spec Tryz.prog 216 [] [.agg (wd S)] [] (.bI [.int .i64 (if bP S then S else 0),.bool (bP S)]):=by
 obtain ⟨n,hn⟩:=aL (IntKind.wrap .i64 (S%18446744073709551616))
 have hn1:n=if S%18446744073709551616 < 9223372036854775808 then S%18446744073709551616 else S%18446744073709551616-18446744073709551616:=by
  rw [hn,IntKind.wrap_i64];split<;>omega
 have hnr:-9223372036854775808<=n/\n<=9223372036854775807:=by rw [hn1];split<;>omega
 have hO:=qN n hnr;have hr:=cZ n;have hm:(n%18446744073709551616==S%18446744073709551616)=true:=by rw [beq_iff_eq,hn1];split<;>omega
 simp only [wd] at hO |-;refine bg 18 1 [.tmp 2,.tmp 3] mixed Tryz.func216 ?_;simp only [go_sem,seval,<- hn];refine ⟨iw.mk (by kernel_rfl),aa.pure hO ?_⟩
 by_cases hS:-9223372036854775808<=S/\S < 9223372036854775808
 ·have hnS:n=S:=by rw [hn1];split<;>omega
  have hq:(n / 18446744073709551616==S / 18446744073709551616)=true:=by rw [hnS];exact beq_self_eq_true _
  simp only [go_sem,seval,hm,hq];refine ⟨Ad.mk (by kernel_rfl),aa.pure hr ?_⟩;rw [hnS];cases hi:bP S
  ·simp only [go_sem,seval,hi,fY,if_false]
  ·simp only [go_sem,seval,hi,if_true]
 ·have hq:(n / 18446744073709551616==S / 18446744073709551616)=false:=by
   rw [beq_eq_false_iff_ne,hn1];split<;>omega
  have hi:bP S=false:=by simp only [bP,Bool.and_eq_false_iff,decide_eq_false_iff_not];omega
  simp only [go_sem,seval,hm,hq,hi,fY,if_false];exact Ad.mk (by kernel_rfl)
theorem Pk (A B c:Int) (hc:0<=c/\c<=1) (hB:-9223372036854775808<=B/\B<=9223372036854775807) :
  A / 18446744073709551616+(A%18446744073709551616+B%18446744073709551616+c) / 18446744073709551616+(if B < 0 then -1 else 0)=(A+B+c) / 18446744073709551616:=by
 split<;>omega
theorem jW (l:List Int) (hl:l.length < 2 ^ 58) (hr:∀ n∈l,pg n=true):Abs.Spec Tryz.prog 215 [] [.sl 2 (kD l)] [] (.bI [.agg (wd (if pg (az l) then az l else 0)),.bool (pg (az l))]):=by
 refine bg 75 1 [.cell 2 128,.tmp 3] mixed Tryz.func215 ?_;simp only [go_sem,seval];refine aC.count l.length [0,2] [48] (fun i=>[(7,.int .i64 i),(6,.int .u64 (az (l.take i)%18446744073709551616)),(5,.int .u64 ((az (l.take i) / 18446744073709551616)%18446744073709551616)),(4,.int .i64 (az (l.take i) / 18446744073709551616 / 18446744073709551616))]) (fun i=>[]) (fun i=>True) trivial ?_ ?_
 ·simp only [go_sem,seval]<;>simp [az]
 ·intro i hi _;simp only [go_sem,seval];refine bJ.aK (fun h=>?_) (fun h=>?_)
  ·have hi':i < l.length:=by omega
   have hw:IntKind.wrap .i64 ((i:Int)+1)=((i+1:Nat):Int):=by rw [bz (by omega) (by omega)];omega
   have hx:=hr l[i] (List.getElem_mem hi');have hpre:∀ n∈l.take i,pg n=true:=fun n hn=>hr n (List.mem_of_mem_take hn)
   have hSr:=tX hpre;have hlt:(l.take i).length<=l.length:=by simp;omega
   obtain ⟨S,hS⟩:=aL (az (l.take i));obtain ⟨n,hn⟩:=aL (l[i]);have hnext:az (l.take (i+1))=S+n:=by rw [List.take_succ_eq_append_getElem hi',sU,hS,hn]
   rw [<- hn] at hx;rw [<- hS] at hSr;simp only [pg,bZ,decide_eq_true_eq] at hx;obtain ⟨B,hB⟩:=aL (n / 18446744073709551616);have hBr:-9223372036854775808<=B/\B<=9223372036854775807:=by omega
   have hu:IntKind.wrap .u64 B=B%18446744073709551616:=IntKind.wrap_u64 B;obtain ⟨c,hc⟩:=aL ((S%18446744073709551616+n%18446744073709551616+0) / 18446744073709551616);have hcr:0<=c/\c<=1:=by omega
   have h3:=Pk (S / 18446744073709551616) B c hcr hBr;have h2:=F7 S n;have h4:=div_add S n;rw [<- hB,<- hc] at h2 h4;rw [h4] at h3;obtain ⟨d,hd⟩:=aL ((S / 18446744073709551616%18446744073709551616+B%18446744073709551616+c) / 18446744073709551616);have hdr:0<=d/\d<=1:=by omega
   obtain ⟨tp,htp⟩:=aL (S / 18446744073709551616 / 18446744073709551616);have htr:-4611686018427387904<=tp/\tp<=4611686018427387904:=by omega
   have w1:IntKind.wrap .i64 d=d:=bz (by omega) (by omega);have w2:IntKind.wrap .i64 (tp+d)=tp+d:=bz (by omega) (by omega);have w3:IntKind.wrap .i64 (tp+d-1)=tp+d-1:=bz (by omega) (by omega);rw [<- htp,<- hd] at h3;simp only [go_sem,seval,sB l hi',<- hn,<- hS,<- hB];refine ⟨by omega,?_⟩;refine aa.sem rfl ?_
   with_reducible refine kW.sC (k:=156) (fn:=Tryz.f156) (i:=S%18446744073709551616) (j:=n%18446744073709551616) (m:=0) ?_ Tryz.func156 ?_ ?_ iO iH ?_ ?_ ?_ ?_ ?_ ?_ ?_ ?_ ?_
   iterate 11 (first | rfl | omega)
   simp only [go_sem,seval,hu,<- hc,sB l hi',<- hn,<- hB];refine ⟨by omega,?_⟩;refine aa.sem rfl ?_
   with_reducible refine kW.sC (k:=156) (fn:=Tryz.f156) (i:=S / 18446744073709551616%18446744073709551616) (j:=B%18446744073709551616) (m:=c) ?_ Tryz.func156 ?_ ?_ iO iH ?_ ?_ ?_ ?_ ?_ ?_ ?_ ?_ ?_
   iterate 11 (first | rfl | omega)
   rw [<- hd,h2,Hl];rcases Int.lt_or_le B 0 with hB0 | hB0
   ·have db:decide (B < 0)=true:=decide_eq_true hB0;rw [if_pos hB0] at h3;have h5:tp+d-1=(S+n) / 18446744073709551616 / 18446744073709551616:=by omega
    simp only [go_sem,seval,<- htp,w1,w2,sB l hi',<- hn,<- hB,db,w3,hw];refine ⟨by omega,ah.next hi' trivial ?_⟩;simp only [go_sem,seval,hnext,h5]
   ·have db:decide (B < 0)=false:=decide_eq_false (by omega);rw [if_neg (by omega)] at h3;have h5:tp+d=(S+n) / 18446744073709551616 / 18446744073709551616:=by omega
    simp only [go_sem,seval,<- htp,w1,w2,sB l hi',<- hn,<- hB,db,hw];refine ⟨by omega,ah.next hi' trivial ?_⟩;simp only [go_sem,seval,hnext,h5]
  ·obtain rfl:i=l.length:=by omega
   obtain ⟨T,hT⟩:=aL (az l);have hTr:=tX hr;rw [<- hT] at hTr |-;obtain ⟨A,hA⟩:=aL (T / 18446744073709551616);obtain ⟨m,hm⟩:=aL (IntKind.wrap .i64 (A%18446744073709551616))
   have hm1:m=if A%18446744073709551616 < 9223372036854775808 then A%18446744073709551616 else A%18446744073709551616-18446744073709551616:=by
    rw [hm,IntKind.wrap_i64];split<;>omega
   obtain ⟨tp,htp⟩:=aL (A / 18446744073709551616)
   by_cases hi:pg T=true
   ·have hi2:=hi;simp only [pg,bZ,decide_eq_true_eq] at hi2;have hmA:m=A:=by rw [hm1];split<;>omega
    rw [if_pos hi,hi];rcases Int.lt_or_le A 0 with hs | hs
    ·have b1:(tp==0)=false:=by rw [beq_eq_false_iff_ne];omega
     have b2:(tp == -1)=true:=by rw [beq_iff_eq];omega
     have b3:decide (A < 0)=true:=decide_eq_true hs;simp only [go_sem,seval,List.take_length,<- hT,<- hA,<- hm,<- htp,hmA,b1,b2,b3,wd]
    ·have b1:(tp==0)=true:=by rw [beq_iff_eq];omega
     have b3:decide (0<=A)=true:=decide_eq_true hs;simp only [go_sem,seval,List.take_length,<- hT,<- hA,<- hm,<- htp,hmA,b1,b3,wd]
   ·have hi2:¬ (-170141183460469231731687303715884105728<=T/\T < 170141183460469231731687303715884105728):=by
     simpa only [pg,bZ,decide_eq_true_eq] using hi
    have hif:pg T=false:=by simpa using hi
    rw [if_neg hi,hif];have hw0:wd 0=[.int .i64 0,.int .u64 0]:=rfl;rcases Int.lt_or_le m 0 with hs | hs
    ·have b2:(tp == -1)=false:=by rw [beq_eq_false_iff_ne];rw [hm1] at hs;split at hs<;>omega
     have b3:decide (m < 0)=true:=decide_eq_true hs;have b4:decide (0<=m)=false:=decide_eq_false (by omega);cases b1:(tp==0)<;>simp only [go_sem,seval,List.take_length,<- hT,<- hA,<- hm,<- htp,b1,b2,b3,b4,hw0]
    ·have b1:(tp==0)=false:=by rw [beq_eq_false_iff_ne];rw [hm1] at hs;split at hs<;>omega
     have b3:decide (m < 0)=false:=decide_eq_false (by omega);cases b2:(tp == -1)<;>simp only [go_sem,seval,List.take_length,<- hT,<- hA,<- hm,<- htp,b1,b2,b3,hw0]
end Go.Proofs.YtnkobepdbkmedaaGreat
