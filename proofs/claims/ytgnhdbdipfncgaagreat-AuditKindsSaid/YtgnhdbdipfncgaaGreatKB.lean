/- A roll is right: members, instruments, assets, and what follows. No theorem of a claim. -/
import Derived.Test.YtgnhdbdipfncgaaGreatKA
import Derived.Test.YtgnhdbdipfncgaaGreatAbcWalk
set_option linter.unusedSimpArgs false
set_option linter.unusedVariables false
set_option maxHeartbeats 4000000
set_option maxRecDepth 16000
namespace Go.Proofs.YtgnhdbdipfncgaaGreat
open Go.Abs
structure MemberV where
 no:Int
 state:Int
 need:Int
@[reducible] def MemberV.cells (x:MemberV):List D:=[.int .i64 x.no,.int .i64 x.state,.int .i64 x.need]
def MemberV.ok (x:MemberV):Bool:=within x.no 1 16&&within x.state 1 3&&inR x.need&&decide (0<=x.need)
theorem noMember_spec (x:MemberV):Abs.Spec Tryz.prog 191 [] [.agg x.cells] [] (.int .i64 x.no):=by
 refine sgo 5 1 [.tmp 2] mixed Tryz.func191 ?_;simp only [MemberV.cells];simp only [go_sem,seval]
theorem rightMember_spec (x:MemberV):Abs.Spec Tryz.prog 197 [] [.agg x.cells] [] (.bool x.ok):=by
 have h1:=within_spec x.no 1 16;have h2:=within_spec x.state 1 3;have h3:=right_spec [x.need] (by simp);rw [right_one] at h3;simp only [MemberV.cells];refine sgo 22 1 [.tmp 2] mixed Tryz.func197 ?_;simp only [go_sem,seval];refine CallN.pure h1 ?_;cases hb1:within x.no 1 16
 ·have e:x.ok=false:=by simp [MemberV.ok,hb1]
  simp only [go_sem,seval,e]
 simp only [go_sem,seval];refine CallN.pure h2 ?_;cases hb2:within x.state 1 3
 ·have e:x.ok=false:=by simp [MemberV.ok,hb2]
  simp only [go_sem,seval,e]
 simp only [go_sem,seval];refine CallN.gen [] [] true (by simp) ?_;simp only [go_sem,seval];refine CallG.intro h3 ?_;cases hb3:inR x.need
 ·have e:x.ok=false:=by simp [MemberV.ok,hb3]
  simp only [go_sem,seval,e]
 have e:x.ok=decide (0<=x.need):=by simp [MemberV.ok,hb1,hb2,hb3]
 simp only [go_sem,seval,e]
structure InstV where
 no:Int
 cur:Int
 mult:Int
 add:Int
 set:Int
 price:Int
 s0:Int
 s1:Int
 s2:Int
 s3:Int
 s4:Int
 s5:Int
@[reducible] def InstV.cells (x:InstV):List D:=[.int .i64 x.no,.int .i64 x.cur,.int .i64 x.mult,.int .i64 x.add,.int .i64 x.set,.int .i64 x.price,.int .i64 x.s0,.int .i64 x.s1,.int .i64 x.s2,.int .i64 x.s3,.int .i64 x.s4,.int .i64 x.s5]
def InstV.sh (x:InstV):Nat->Int
 | 0=>x.s0 | 1=>x.s1 | 2=>x.s2 | 3=>x.s3 | 4=>x.s4 | _=>x.s5
def InstV.okS (x:InstV):Bool:=(List.range 6).all fun i=>within (x.sh i) (-1073741824) 1073741824
def InstV.ok (x:InstV):Bool:=x.okS&&within x.no 1 8&&within x.cur 0 2&&within x.mult 1 1024&&within x.add 0 1073741824&&within x.set 0 1073741824&&within x.price 0 1073741824
theorem noInst_spec (x:InstV):Abs.Spec Tryz.prog 199 [] [.agg x.cells] [] (.int .i64 x.no):=by
 refine sgo 5 1 [.tmp 2] mixed Tryz.func199 ?_;simp only [InstV.cells];simp only [go_sem,seval]
theorem rightInst_spec (x:InstV):Abs.Spec Tryz.prog 200 [] [.agg x.cells] [] (.bool x.ok):=by
 have h1:=within_spec x.no 1 8;have h2:=within_spec x.cur 0 2;have h3:=within_spec x.mult 1 1024;have h4:=within_spec x.add 0 1073741824;have h5:=within_spec x.set 0 1073741824;have h6:=within_spec x.price 0 1073741824;simp only [InstV.cells];refine sgo 42 1 [.tmp 2] mixed Tryz.func200 ?_;simp only [go_sem,seval];refine LoopK.count 6 [1,6] [32] (fun i=>[(7,.int .i64 i)]) (fun i=>[]) (fun i=>∀ j < i,within (x.sh j) (-1073741824) 1073741824=true) (by simp) ?_ ?_
 ·simp only [go_sem,seval]
 ·intro i hi hI;simp only [go_sem,seval];refine CondE.splitD (fun h=>?_) (fun h=>?_)
  ·have hi':i < 6:=by omega
   have hix:(List.drop (i*1) [D.int .i64 x.s0,D.int .i64 x.s1,D.int .i64 x.s2,D.int .i64 x.s3,D.int .i64 x.s4,D.int .i64 x.s5]).headD .undef=.int .i64 (x.sh i):=by
    rcases i with _ | _ | _ | _ | _ | _ | i<;>first | rfl | omega
   have hw:IntKind.wrap .i64 ((i:Int)+1)=((i+1:Nat):Int):=by rw [wr64 (by omega) (by omega)];omega
   have hv:=within_spec (x.sh i) (-1073741824) 1073741824;simp only [go_sem,seval,hix];refine ⟨by omega,CallN.pure hv ?_⟩;cases hb:within (x.sh i) (-1073741824) 1073741824
   ·have e1:x.okS=false:=by
     cases hc:x.okS
     ·rfl
     ·rw [InstV.okS,List.all_eq_true] at hc;rw [hc i (List.mem_range.2 hi')] at hb;cases hb
    have e2:x.ok=false:=by simp [InstV.ok,e1]
    simp only [go_sem,seval,e2]
   ·simp only [go_sem,seval,hw];refine RoundK.next hi' ?_ ?_
    ·intro j hj;rcases Nat.lt_or_ge j i with h | h
     ·exact hI j h
     ·obtain rfl:j=i:=by omega
      exact hb
    ·simp only [go_sem,seval]
  ·obtain rfl:i=6:=by omega
   have hs:x.okS=true:=List.all_eq_true.2 fun j hj=>hI j (List.mem_range.1 hj)
   have e:x.ok=(within x.no 1 8&&within x.cur 0 2&&within x.mult 1 1024&&within x.add 0 1073741824&&within x.set 0 1073741824&&within x.price 0 1073741824):=by simp [InstV.ok,hs]
   rw [e];clear hI e hs
   repeat' with_reducible first|apply And.intro|exact .dq|refine CallN.pure (by assumption) ?_|refine CallN.pure (h1) ?_|refine CallN.pure (h2) ?_|refine CallN.pure (h3) ?_|refine CallN.pure (h4) ?_|refine CallN.pure (h5) ?_|refine CallN.pure (h6) ?_|refine .splitDN (fun h=>?_) fun h=>?_|refine .splitD (fun h=>?_) fun h=>?_|refine .splitN (fun h=>?_) fun h=>?_|refine .split (fun h=>?_) fun h=>?_|refine .id ?_|refine RoundK.next (by omega) ?_ ?_|exact trivial|simp only [*,go_sem,seval]
   all_goals (simp_all;done)
theorem risesMember_spec (xs:List MemberV) (hl:xs.length < 2 ^ 62):Abs.Spec Tryz.prog 196 [] [.sl 3 (xs.map MemberV.cells),.fn 191 [],.fn 197 []] [] (.bool (rises MemberV.no MemberV.ok xs)):=by
 refine Abs.Spec.go (n:=38) (np:=3) (rs:=[.tmp 6]) mixed Tryz.func196 rfl rfl rfl rfl rfl (by simp) (by simp) ?_;simp only [go_sem,seval,lml];refine ⟨Nat,fun i=>[(6,.bool false),(0,.sl 3 (xs.map MemberV.cells)),(1,.fn 191 []),(2,.fn 197 []),(9,.sl 3 (xs.map MemberV.cells)),(10,.int .i64 xs.length),(11,.int .i64 i)],fun i=>[],fun i=>i<=xs.length/\∀ j,j < i->risesAt MemberV.no MemberV.ok xs j=true,fun i=>xs.length-i,0,?_,?_,?_⟩
 ·simp
 ·simp only [go_sem,seval,lml]<;>simp
 ·rintro i ⟨hi,hr⟩
  simp only [go_sem,seval];refine CondE.split (fun h=>?_) (fun h=>?_)
  ·have hi':i < xs.length:=by simpa using h
   have bad:risesAt MemberV.no MemberV.ok xs i=false->rises MemberV.no MemberV.ok xs=false:=fun hx=>by
    simp only [rises,List.all_eq_false];exact ⟨i,List.mem_range.2 hi',by simp [hx]⟩
   simp only [go_sem,seval,Int.toNat_natCast,map_at xs hi',MemberV.cells];refine ⟨by simp [hi'],?_⟩
   have next:risesAt MemberV.no MemberV.ok xs i=true->∀ j,j < i+1->risesAt MemberV.no MemberV.ok xs j=true:=fun hx j hj=>by
    rcases Nat.lt_succ_iff_lt_or_eq.1 hj with h1 | rfl
    ·exact hr j h1
    ·exact hx
   by_cases h0:0 < i
   ·have hw:IntKind.wrap .i64 ((i:Int)-1)=((i-1:Nat):Int):=by rw [wrap64 (by omega) (by omega)];omega
    have hp:i-1 < xs.length:=by omega
    have hg:decide (0 < (i:Int))=true:=by simp;omega
    have hm:=map_at (c:=MemberV.cells) xs hp;have hra:=risesAt_pos MemberV.no MemberV.ok xs hi' h0
    repeat' (with_reducible first
     | apply And.intro
     | exact DrawN.mk (by kernel_rfl)
     | exact OkN.mk (by kernel_rfl)
     | refine CallN.pure (rightMember_spec _) ?_
     | refine CallN.pure (noMember_spec _) ?_
     | refine GuardK.splitN (fun h=>?_) (fun h=>?_)
     | refine GuardK.split (fun h=>?_) (fun h=>?_)
     | refine CondE.split (fun h=>?_) (fun h=>?_)
     | refine WeakK.id ?_
     | simp only [hw,hg,hm,go_sem,seval, *,Int.toNat_natCast,MemberV.cells])
    ·simp;omega
    ·exact (bad (by rw [hra];simp at h;simp;intro _;omega)).symm
    ·refine ⟨i+1,⟨hi',next (by rw [hra];simp at h;simp [*])⟩,?_,by simp only;omega⟩;simp only [go_sem,seval,lml];rw [wrap64 (by omega) (by omega)];simp
   ·have hg:decide (0 < (i:Int))=false:=by simp;omega
    have hra:=risesAt_zero MemberV.no MemberV.ok xs hi' h0
    repeat' (with_reducible first
     | apply And.intro
     | exact DrawN.mk (by kernel_rfl)
     | exact OkN.mk (by kernel_rfl)
     | refine CallN.pure (rightMember_spec _) ?_
     | refine CallN.pure (noMember_spec _) ?_
     | refine GuardK.splitN (fun h=>?_) (fun h=>?_)
     | refine GuardK.split (fun h=>?_) (fun h=>?_)
     | refine CondE.split (fun h=>?_) (fun h=>?_)
     | refine WeakK.id ?_
     | simp only [hg,go_sem,seval, *,Int.toNat_natCast,MemberV.cells])
    ·refine ⟨i+1,⟨hi',next (by rw [hra];simp [*])⟩,?_,by simp only;omega⟩;simp only [go_sem,seval,lml];rw [wrap64 (by omega) (by omega)];simp
  ·simp only [go_sem,seval];have:i=xs.length:=by simp at h;omega
   subst this
   symm
   simpa [rises] using hr
theorem risesInst_spec (xs:List InstV) (hl:xs.length < 2 ^ 62):Abs.Spec Tryz.prog 198 [] [.sl 12 (xs.map InstV.cells),.fn 199 [],.fn 200 []] [] (.bool (rises InstV.no InstV.ok xs)):=by
 refine Abs.Spec.go (n:=38) (np:=3) (rs:=[.tmp 6]) mixed Tryz.func198 rfl rfl rfl rfl rfl (by simp) (by simp) ?_;simp only [go_sem,seval,lml];refine ⟨Nat,fun i=>[(6,.bool false),(0,.sl 12 (xs.map InstV.cells)),(1,.fn 199 []),(2,.fn 200 []),(9,.sl 12 (xs.map InstV.cells)),(10,.int .i64 xs.length),(11,.int .i64 i)],fun i=>[],fun i=>i<=xs.length/\∀ j,j < i->risesAt InstV.no InstV.ok xs j=true,fun i=>xs.length-i,0,?_,?_,?_⟩
 ·simp
 ·simp only [go_sem,seval,lml]<;>simp
 ·rintro i ⟨hi,hr⟩
  simp only [go_sem,seval];refine CondE.split (fun h=>?_) (fun h=>?_)
  ·have hi':i < xs.length:=by simpa using h
   have bad:risesAt InstV.no InstV.ok xs i=false->rises InstV.no InstV.ok xs=false:=fun hx=>by
    simp only [rises,List.all_eq_false];exact ⟨i,List.mem_range.2 hi',by simp [hx]⟩
   simp only [go_sem,seval,Int.toNat_natCast,map_at xs hi',InstV.cells];refine ⟨by simp [hi'],?_⟩
   have next:risesAt InstV.no InstV.ok xs i=true->∀ j,j < i+1->risesAt InstV.no InstV.ok xs j=true:=fun hx j hj=>by
    rcases Nat.lt_succ_iff_lt_or_eq.1 hj with h1 | rfl
    ·exact hr j h1
    ·exact hx
   by_cases h0:0 < i
   ·have hw:IntKind.wrap .i64 ((i:Int)-1)=((i-1:Nat):Int):=by rw [wrap64 (by omega) (by omega)];omega
    have hp:i-1 < xs.length:=by omega
    have hg:decide (0 < (i:Int))=true:=by simp;omega
    have hm:=map_at (c:=InstV.cells) xs hp;have hra:=risesAt_pos InstV.no InstV.ok xs hi' h0
    repeat' (with_reducible first
     | apply And.intro
     | exact DrawN.mk (by kernel_rfl)
     | exact OkN.mk (by kernel_rfl)
     | refine CallN.pure (rightInst_spec _) ?_
     | refine CallN.pure (noInst_spec _) ?_
     | refine GuardK.splitN (fun h=>?_) (fun h=>?_)
     | refine GuardK.split (fun h=>?_) (fun h=>?_)
     | refine CondE.split (fun h=>?_) (fun h=>?_)
     | refine WeakK.id ?_
     | simp only [hw,hg,hm,go_sem,seval, *,Int.toNat_natCast,InstV.cells])
    ·simp;omega
    ·exact (bad (by rw [hra];simp at h;simp;intro _;omega)).symm
    ·refine ⟨i+1,⟨hi',next (by rw [hra];simp at h;simp [*])⟩,?_,by simp only;omega⟩;simp only [go_sem,seval,lml];rw [wrap64 (by omega) (by omega)];simp
   ·have hg:decide (0 < (i:Int))=false:=by simp;omega
    have hra:=risesAt_zero InstV.no InstV.ok xs hi' h0
    repeat' (with_reducible first
     | apply And.intro
     | exact DrawN.mk (by kernel_rfl)
     | exact OkN.mk (by kernel_rfl)
     | refine CallN.pure (rightInst_spec _) ?_
     | refine CallN.pure (noInst_spec _) ?_
     | refine GuardK.splitN (fun h=>?_) (fun h=>?_)
     | refine GuardK.split (fun h=>?_) (fun h=>?_)
     | refine CondE.split (fun h=>?_) (fun h=>?_)
     | refine WeakK.id ?_
     | simp only [hg,go_sem,seval, *,Int.toNat_natCast,InstV.cells])
    ·refine ⟨i+1,⟨hi',next (by rw [hra];simp [*])⟩,?_,by simp only;omega⟩;simp only [go_sem,seval,lml];rw [wrap64 (by omega) (by omega)];simp
  ·simp only [go_sem,seval];have:i=xs.length:=by simp at h;omega
   subst this
   symm
   simpa [rises] using hr
structure RollV where
 ms:List MemberV
 ns:List InstV
 xs:List AssetV
def RollV.cells (r:RollV):List D:=[.sl 3 (r.ms.map MemberV.cells),.sl 12 (r.ns.map InstV.cells),.sl 4 (r.xs.map AssetV.cells)]
def RollV.okB (r:RollV):Bool:=rises MemberV.no MemberV.ok r.ms&&rises InstV.no InstV.ok r.ns&&rises AssetV.a AssetV.ok r.xs
def RollV.small (r:RollV):Prop:=r.ms.length < 2 ^ 60/\r.ns.length < 2 ^ 60/\r.xs.length < 2 ^ 60
theorem rollCheck_spec (r:RollV) (hl:r.small):Abs.Spec Tryz.prog 86 [] [.agg r.cells] [] (.int .i64 (if r.okB then 0 else 14)):=by
 obtain ⟨l1,l2,l3⟩:=hl;have h1:=risesMember_spec r.ms (by omega);have h2:=risesInst_spec r.ns (by omega);have h3:=risesAsset_spec r.xs (by omega);simp only [RollV.cells];refine sgo 19 1 [.tmp 2] mixed Tryz.func86 ?_;simp only [go_sem,seval];refine CallN.pure h1 ?_;cases b1:rises MemberV.no MemberV.ok r.ms
 ·have e:r.okB=false:=by simp [RollV.okB,b1]
  simp only [go_sem,seval,e]<;>simp
 simp only [go_sem,seval];refine CallN.pure h2 ?_;cases b2:rises InstV.no InstV.ok r.ns
 ·have e:r.okB=false:=by simp [RollV.okB,b2]
  simp only [go_sem,seval,e]<;>simp
 simp only [go_sem,seval];refine CallN.pure h3 ?_;cases b3:rises AssetV.a AssetV.ok r.xs
 ·have e:r.okB=false:=by simp [RollV.okB,b3]
  simp only [go_sem,seval,e]<;>simp
 have e:r.okB=true:=by simp [RollV.okB,b1,b2,b3]
 simp only [go_sem,seval,e]
def getL {A:Type} (no:A->Int) (n:Int) (z:A):List A->A
 | []=>z
 | x :: r=>if no x=n then x else getL no n z r
def posL {A:Type} (no:A->Int) (n:Int):List A->Int
 | []=>-1
 | x :: r=>if no x=n then 0 else if posL no n r < 0 then -1 else posL no n r+1
theorem getL_hit {A:Type} {no:A->Int} {n:Int} {z:A}:∀ {xs:List A} {i:Nat} (h:i < xs.length),(∀ j (hj:j < xs.length),j < i->no xs[j]≠n)->no xs[i]=n->getL no n z xs=xs[i]/\posL no n xs=i
 | [],i,h,_,_=>by simp at h
 | x :: r,0,h,_,he=>by
  have he:no x=n:=he;simp [getL,posL,he]
 | x :: r,i+1,h,hn,he=>by
  have h0:no x≠n:=hn 0 (by simp) (by omega);obtain ⟨h1,h2⟩:=getL_hit (z:=z) (xs:=r) (i:=i) (by simpa using h) (fun j hj hji=>hn (j+1) (by simpa using hj) (by omega)) he;simp only [getL,posL,if_neg h0,h2];refine ⟨h1,?_⟩;rw [if_neg (by omega)];omega
theorem getL_miss {A:Type} {no:A->Int} {n:Int} {z:A}:∀ {xs:List A},(∀ j (hj:j < xs.length),no xs[j]≠n)->getL no n z xs=z/\posL no n xs = -1
 | [],_=>by simp [getL,posL]
 | x :: r,hn=>by
  have h0:no x≠n:=hn 0 (by simp);obtain ⟨h1,h2⟩:=getL_miss (z:=z) (xs:=r) (fun j hj=>hn (j+1) (by simpa using hj));simp only [getL,posL,if_neg h0,h2];exact ⟨h1,by simp⟩
theorem findAsset_spec (xs:List AssetV) (n:Int) (hl:xs.length < 2 ^ 62):Abs.Spec Tryz.prog 281 [] [.sl 4 (xs.map AssetV.cells),.fn 202 [],.int .i64 n] [] (.tup [.agg (getL AssetV.a n ⟨0,0,0,0⟩ xs).cells,.int .i64 (posL AssetV.a n xs)]):=by
 refine sgo 27 3 [.cell 6 125,.tmp 7] mixed Tryz.func281 ?_;simp only [go_sem,seval,lml];refine LoopK.count xs.length [1,2,6,11,12] [112,208] (fun i=>[(13,.int .i64 i)]) (fun i=>[]) (fun i=>∀ j (hj:j < xs.length),j < i->xs[j].a≠n) (by simp) ?_ ?_
 ·simp only [go_sem,seval]<;>simp
 ·intro i hi hI;simp only [go_sem,seval];refine CondE.splitD (fun h=>?_) (fun h=>?_)
  ·have hi':i < xs.length:=by omega
   have hw:IntKind.wrap .i64 ((i:Int)+1)=((i+1:Nat):Int):=by rw [wr64 (by omega) (by omega)];omega
   have hm:=map_at (c:=AssetV.cells) xs hi';have hno:=noAsset_spec xs[i];simp only [AssetV.cells] at hm hno |-;simp only [go_sem,seval,hm];refine ⟨by omega,CallN.pure hno ?_⟩;simp only [go_sem,seval];refine CondE.split (fun hb=>?_) (fun hb=>?_)
   ·have hb:xs[i].a=n:=by simpa using hb
    obtain ⟨g1,g2⟩:=getL_hit (z:=(⟨0,0,0,0⟩:AssetV)) hi' hI hb;rw [g1,g2];simp only [go_sem,seval]
   ·have hb:xs[i].a≠n:=by simpa using hb
    simp only [go_sem,seval,hw];refine RoundK.next hi' ?_ ?_
    ·intro j hj hji;rcases Nat.lt_or_ge j i with h | h
     ·exact hI j hj h
     ·obtain rfl:j=i:=by omega
      exact hb
    ·simp only [go_sem,seval]
  ·obtain rfl:i=xs.length:=by omega
   obtain ⟨g1,g2⟩:=getL_miss (z:=(⟨0,0,0,0⟩:AssetV)) (fun j hj=>hI j hj hj);rw [g1,g2];simp only [go_sem,seval,AssetV.cells]
structure AcctV where
 kind:Int
 who:Int
 cur:Int
@[reducible] def AcctV.cells (x:AcctV):List D:=[.int .i64 x.kind,.int .i64 x.who,.int .i64 x.cur]
def owned (k:Int):Bool:=k==2||k==3
theorem owned_spec (k:Int):Abs.Spec Tryz.prog 256 [] [.int .i64 k] [] (.bool (owned k)):=by
 refine sgo 9 1 [.tmp 2] mixed Tryz.func256 ?_;simp only [go_sem,seval]
 repeat' (with_reducible first
  | apply And.intro
  | exact DrawN.mk (by kernel_rfl)
  | exact OkN.mk (by kernel_rfl)
  | refine GuardK.splitN (fun h=>?_) (fun h=>?_)
  | refine GuardK.split (fun h=>?_) (fun h=>?_)
  | refine CondE.split (fun h=>?_) (fun h=>?_)
  | refine WeakK.id ?_
  | simp only [*,go_sem,seval])
 all_goals simp [owned, *]
def AcctV.right (x:AcctV):Bool:=if x.kind < 1\/6 < x.kind\/x.cur < 0\/3<=x.cur then false else if owned x.kind then decide (1<=x.who)&&decide (x.who<=16) else x.who==0
theorem acctRight_spec (x:AcctV):Abs.Spec Tryz.prog 135 [] [.agg x.cells] [] (.bool x.right):=by
 refine sgo 37 1 [.tmp 2] mixed Tryz.func135 ?_;simp only [AcctV.cells];simp only [go_sem,seval]
 repeat' (with_reducible first
  | apply And.intro
  | exact DrawN.mk (by kernel_rfl)
  | exact OkN.mk (by kernel_rfl)
  | refine CallN.pure (owned_spec _) ?_
  | refine GuardK.splitN (fun h=>?_) (fun h=>?_)
  | refine GuardK.split (fun h=>?_) (fun h=>?_)
  | refine CondE.split (fun h=>?_) (fun h=>?_)
  | refine WeakK.id ?_
  | simp only [*,go_sem,seval])
 all_goals (simp only [decide_eq_true_eq,decide_eq_false_iff_not] at *)
 all_goals (unfold AcctV.right;simp [*])
def AcctV.floor (x:AcctV):Int:=if x.right&&(x.kind==3||x.kind==4) then 0 else -4611686018427387904
theorem acctFloor_spec (x:AcctV):Abs.Spec Tryz.prog 149 [] [.agg x.cells] [] (.int .i64 x.floor):=by
 have hr:=acctRight_spec x;simp only [AcctV.cells] at hr;refine sgo 15 1 [.tmp 2] mixed Tryz.func149 ?_;simp only [AcctV.cells];simp only [go_sem,seval]
 repeat' (with_reducible first
  | apply And.intro
  | exact DrawN.mk (by kernel_rfl)
  | exact OkN.mk (by kernel_rfl)
  | refine CallN.pure hr ?_
  | refine GuardK.splitN (fun h=>?_) (fun h=>?_)
  | refine GuardK.split (fun h=>?_) (fun h=>?_)
  | refine CondE.split (fun h=>?_) (fun h=>?_)
  | refine WeakK.id ?_
  | simp only [*,go_sem,seval])
 all_goals (unfold AcctV.floor;simp [*])
def AcctV.less (x y:AcctV):Bool:=if x.kind≠y.kind then decide (x.kind < y.kind) else if x.who≠y.who then decide (x.who < y.who) else decide (x.cur < y.cur)
theorem acctLess_spec (x y:AcctV):Abs.Spec Tryz.prog 208 [] [.agg x.cells,.agg y.cells] [] (.bool (x.less y)):=by
 refine sgo 32 2 [.tmp 4] mixed Tryz.func208 ?_;simp only [AcctV.cells];simp only [go_sem,seval]
 repeat' (with_reducible first
  | apply And.intro
  | exact DrawN.mk (by kernel_rfl)
  | exact OkN.mk (by kernel_rfl)
  | exact trivial
  | refine GuardK.splitN (fun h=>?_) (fun h=>?_)
  | refine GuardK.split (fun h=>?_) (fun h=>?_)
  | refine CondE.split (fun h=>?_) (fun h=>?_)
  | refine WeakK.id ?_
  | simp only [*,go_sem,seval])
 all_goals (unfold AcctV.less;simp_all)
def AcctV.lt (x y:AcctV):Prop:=x.kind < y.kind\/x.kind=y.kind/\(x.who < y.who\/x.who=y.who/\x.cur < y.cur)
theorem floor_z (x:AcctV):(x.floor==0)=(x.right&&(x.kind==3||x.kind==4)):=by
 unfold AcctV.floor;split
 ·rename_i h;simp [h]
 ·rename_i h;simp at h;cases hr:x.right<;>simp [hr] at h |-;exact h
def sumL:List Int->Int
 | []=>0
 | x :: r=>x+sumL r
theorem sumL_app (a:List Int) (x:Int):sumL (a++[x])=sumL a+x:=by
 induction a with
 | nil=>simp [sumL]
 | cons y r ih=>simp only [List.cons_append,sumL,ih];omega
theorem sumL_range:∀ {l:List Int},right l=true -> -4611686018427387904*l.length<=sumL l/\sumL l<=4611686018427387904*l.length
 | [],_=>by simp [sumL]
 | x :: r,h=>by
  simp only [right,List.all_cons,bae] at h;have h2:=sumL_range (l:=r) h.2;have h1:-4611686018427387904<=x/\x<=4611686018427387904:=by simpa [inR] using h.1
  simp only [sumL,List.length_cons];push_cast;omega
theorem add_lo (S n:Int):(S%18446744073709551616+n%18446744073709551616+0)%18446744073709551616=(S+n)%18446744073709551616:=by omega
theorem add_hi (S n:Int) (h:-4611686018427387904<=n/\n<=4611686018427387904) (s:Int) (hs:s=if 0<=n then 0 else 18446744073709551615) :
  ((S / 18446744073709551616)%18446744073709551616+s+(S%18446744073709551616+n%18446744073709551616+0) / 18446744073709551616)%18446744073709551616=((S+n) / 18446744073709551616)%18446744073709551616:=by
 subst hs;split<;>omega
theorem shr63 (n:Int) (h:-9223372036854775808<=n/\n<=9223372036854775807):IntKind.wrap .u64 (ishr .i64 n 63)=if 0<=n then 0 else 18446744073709551615:=by
 have:ishr .i64 n 63=n.fdiv (2 ^ 63):=rfl;rw [this,Int.fdiv_eq_ediv_of_nonneg _ (by omega),IntKind.wrap_u64];split<;>omega
theorem add_find:Extern.find Tryz.f154=some add64Entry:=by kernel_rfl
theorem add_next:Extern.findNext Tryz.f154=none:=by kernel_rfl
def sumN (l:List Int):Int:=if right l&&inR (sumL l) then sumL l else 0
def sumE (l:List Int):Int:=if right l then (if inR (sumL l) then 0 else 1) else 3
theorem numWithin_spec (S:Int) (h:-85070591730234615865843651857942052864<=S/\S<=85070591730234615865843651857942052864):Abs.Spec Tryz.prog 269 [] [.int .u64 ((S / 18446744073709551616)%18446744073709551616),.int .u64 (S%18446744073709551616)] [] (.tup [.int .i64 (if inR S then S else 0),.int .i64 (if inR S then 0 else 1)]):=by
 obtain ⟨n,hn⟩:=nmE (IntKind.wrap .i64 (S%18446744073709551616))
 have hn1:n=if S%18446744073709551616 < 9223372036854775808 then S%18446744073709551616 else S%18446744073709551616-18446744073709551616:=by
  rw [hn,IntKind.wrap_i64];split<;>omega
 have hs:=shr63 n (by rw [hn1];split<;>omega);have hr:=right_spec [n] (by simp);rw [right_one] at hr;refine sgo 21 2 [.tmp 4,.tmp 5] mixed Tryz.func269 ?_
 by_cases hS:-9223372036854775808<=S/\S < 9223372036854775808
 ·have hnS:n=S:=by rw [hn1];split<;>omega
  have hb:(S / 18446744073709551616%18446744073709551616 != if 0<=n then 0 else 18446744073709551615)=false:=by
   rw [bne_eq_false_iff_eq,hnS];split<;>omega
  simp only [go_sem,seval,<- hn,hs,hb];refine CallN.gen [] [] true (by simp) ?_;simp only [go_sem,seval];refine CallG.intro hr ?_;rw [hnS] at hr |-;cases hi:inR S
  ·simp only [go_sem,seval,hi,bfe,if_false]
  ·simp only [go_sem,seval,hi,if_true]
 ·have hb:(S / 18446744073709551616%18446744073709551616 != if 0<=n then 0 else 18446744073709551615)=true:=by
   rw [bne_iff_ne,hn1];split<;>split<;>omega
  have hi:inR S=false:=by simp only [inR,Bool.and_eq_false_iff,decide_eq_false_iff_not];omega
  simp only [go_sem,seval,<- hn,hs,hb,hi,bfe,if_false]
theorem sum_spec (l:List Int) (hl:l.length < 2 ^ 60):Abs.Spec Tryz.prog 178 [] [.sl 1 (ints l)] [] (.tup [.int .i64 (sumN l),.int .i64 (sumE l)]):=by
 have hr:=right_spec l (by omega);refine sgo 40 1 [.tmp 2,.tmp 3] mixed Tryz.func178 ?_;simp only [go_sem,seval];refine CallN.pure hr ?_;cases hb:right l
 ·have e1:sumN l=0:=by simp [sumN,hb]
  have e2:sumE l=3:=by simp [sumE,hb]
  simp only [go_sem,seval,e1,e2]
 simp only [go_sem,seval,ints_len];refine LoopK.count l.length [12,13] [224] (fun i=>[(14,.int .i64 i),(4,.int .u64 ((sumL (l.take i) / 18446744073709551616)%18446744073709551616)),(5,.int .u64 (sumL (l.take i)%18446744073709551616))]) (fun i=>[]) (fun i=>True) trivial ?_ ?_
 ·simp only [go_sem,seval]<;>simp [sumL]
 ·intro i hi _;simp only [go_sem,seval];refine CondE.splitD (fun h=>?_) (fun h=>?_)
  ·have hi':i < l.length:=by omega
   have hw:IntKind.wrap .i64 ((i:Int)+1)=((i+1:Nat):Int):=by rw [wr64 (by omega) (by omega)];omega
   have hx:inR l[i]=true:=List.all_eq_true.1 hb _ (List.getElem_mem hi');have hxr:-4611686018427387904<=l[i]/\l[i]<=4611686018427387904:=by simpa [inR] using hx
   obtain ⟨S,hS⟩:=nmE (sumL (l.take i));obtain ⟨n,hn⟩:=nmE (l[i]);have hnext:sumL (l.take (i+1))=S+n:=by rw [List.take_succ_eq_append_getElem hi',sumL_app,hS,hn]
   have hu:IntKind.wrap .u64 n=n%18446744073709551616:=IntKind.wrap_u64 n;rw [<- hn] at hxr;have hsh:=shr63 n (by omega);simp only [go_sem,seval,ints_at l hi',ints_len,<- hn,<- hS,hu];refine ⟨by omega,?_⟩;refine CallN.sem rfl ?_
   with_reducible refine SemK.add64 (k:=154) (fn:=Tryz.f154) (i:=S%18446744073709551616) (j:=n%18446744073709551616) (m:=0) ?_ Tryz.func154 ?_ ?_ add_next add_find ?_ ?_ ?_ ?_ ?_ ?_ ?_ ?_ ?_
   iterate 11 (first | rfl | omega)
   simp only [go_sem,seval,hsh];refine CallN.sem rfl ?_
   with_reducible refine SemK.add64 (k:=154) (fn:=Tryz.f154) (i:=S / 18446744073709551616%18446744073709551616) (j:=if 0<=n then 0 else 18446744073709551615) (m:=(S%18446744073709551616+n%18446744073709551616+0) / 18446744073709551616) ?_ Tryz.func154 ?_ ?_ add_next add_find ?_ ?_ ?_ ?_ ?_ ?_ ?_ ?_ ?_
   iterate 7 (first | rfl | omega)
   ·split<;>omega
   iterate 3 (first | rfl | omega)
   rw [add_hi S n hxr _ rfl,add_lo];simp only [go_sem,seval,hw];refine RoundK.next hi' trivial ?_
   simp only [go_sem,seval,hnext]
  ·obtain rfl:i=l.length:=by omega
   obtain ⟨S,hS⟩:=nmE (sumL l);have hSr:=sumL_range hb;have hf:=numWithin_spec S (by rw [hS];omega);have e1:sumN l=if inR S then S else 0:=by simp [sumN,hb,hS]
   have e2:sumE l=if inR S then 0 else 1:=by simp [sumE,hb,hS]
   rw [e1,e2];simp only [go_sem,seval,List.take_length,<- hS];refine CallN.pure hf ?_;simp only [go_sem,seval]
theorem rollAsset_spec (r:RollV) (n:Int) (hl:r.small):Abs.Spec Tryz.prog 218 [] [.agg r.cells,.int .i64 n] [] (.tup [.agg (getL AssetV.a n ⟨0,0,0,0⟩ r.xs).cells,.bool (decide (0<=posL AssetV.a n r.xs))]):=by
 have hf:=findAsset_spec r.xs n (by have:=hl.2.2;omega);simp only [AssetV.cells] at hf |-;simp only [RollV.cells,AssetV.cells];refine sgo 18 2 [.cell 4 125,.tmp 5] mixed Tryz.func218 ?_;simp only [go_sem,seval];refine CallN.pure hf ?_;simp only [go_sem,seval]
structure BalV where
 kind:Int
 who:Int
 cur:Int
 sum:Int
@[reducible] def BalV.cells (x:BalV):List D:=[.int .i64 x.kind,.int .i64 x.who,.int .i64 x.cur,.int .i64 x.sum]
def BalV.acct (x:BalV):AcctV:=⟨x.kind,x.who,x.cur⟩
structure LedV where
 last:Int
 bs:List BalV
def LedV.cells (l:LedV):List D:=[.int .i64 l.last,.sl 4 (l.bs.map BalV.cells)]
def isB (a:AcctV) (b:BalV):Bool:=b.kind==a.kind&&(b.who==a.who&&b.cur==a.cur)
def ofL (a:AcctV):List BalV->Int
 | []=>0
 | b :: r=>if isB a b then b.sum else ofL a r
def curL (c:Int) (bs:List BalV):List Int:=(bs.filter fun b=>b.cur==c).map BalV.sum
theorem curL_step (c:Int) (bs:List BalV) {i:Nat} (h:i < bs.length):curL c (bs.take (i+1))=if bs[i].cur==c then curL c (bs.take i)++[bs[i].sum] else curL c (bs.take i):=by
 simp only [curL];rw [List.take_succ_eq_append_getElem h,List.filter_append,List.map_append];cases hb:bs[i].cur==c<;>simp [List.filter,hb]
theorem curL_len (c:Int) (bs:List BalV):(curL c bs).length<=bs.length:=by
 simp only [curL,lml];exact List.length_filter_le _ _
theorem checkTrue_spec (x:Int):Abs.Spec Tryz.prog 210 [] [.int .i64 x] [] (.bool true):=by
 refine sgo 3 1 [.tmp 2] mixed Tryz.func210 ?_;simp only [go_sem,seval]
theorem sums_spec (l:LedV) (c:Int) (hl:l.bs.length < 2 ^ 30):Abs.Spec Tryz.prog 209 [] [.agg l.cells,.int .i64 c,.fn 210 []] [.own 1 (ints (curL c l.bs))] (.ref 0):=by
 simp only [LedV.cells];refine sgo 36 3 [.tmp 6] mixed Tryz.func209 ?_;simp only [go_sem,seval,lml];refine LoopK.count l.bs.length [1,2,11,12] [64,208] (fun i=>[(13,.int .i64 i),(7,.ref 544)]) (fun i=>[(544,.own 1 (ints (curL c (l.bs.take i))))]) (fun i=>True) trivial ?_ ?_
 ·simp only [go_sem,seval]<;>simp [curL,ints]
 ·intro i hi _;simp only [go_sem,seval];refine CondE.splitD (fun h=>?_) (fun h=>?_)
  ·have hi':i < l.bs.length:=by omega
   have hw:IntKind.wrap .i64 ((i:Int)+1)=((i+1:Nat):Int):=by rw [wr64 (by omega) (by omega)];omega
   have hm:=map_at (c:=BalV.cells) l.bs hi';have hs:=curL_step c l.bs hi';have hlen:=curL_len c (l.bs.take i);have hlt:(l.bs.take i).length<=l.bs.length:=by simp;omega
   simp only [BalV.cells] at hm;simp only [go_sem,seval,hm];refine ⟨by omega,?_⟩;cases hb:l.bs[i].cur==c
   ·rw [hb] at hs;simp only [bfe,if_false] at hs;simp only [go_sem,seval,hw];refine RoundK.next hi' trivial ?_
    simp only [go_sem,seval,hs]
   ·rw [hb,if_pos rfl] at hs;have hk:=checkTrue_spec l.bs[i].kind;simp only [go_sem,seval];refine CallN.pure hk ?_;simp only [go_sem,seval,hw,ints_len];refine ⟨by omega,RoundK.next hi' trivial ?_⟩;simp only [go_sem,seval,hs]<;>simp [ints]
  ·obtain rfl:i=l.bs.length:=by omega
   simp only [go_sem,seval,List.take_length]
def balOk (b:BalV):Bool:=b.acct.right&&(inR b.sum&&(b.sum != 0&&!decide (b.sum < b.acct.floor)))
def ledAt (bs:List BalV) (i:Nat):Bool:=
 match bs[i]? with
 | none=>true
 | some b=>balOk b&&(match i with
  | 0=>true
  | j+1=>match bs[j]? with
   | some q=>q.acct.less b.acct
   | none=>true)
theorem ledAt_zero {bs:List BalV} (h:0 < bs.length):ledAt bs 0=balOk bs[0]:=by simp [ledAt,h]
theorem ledAt_succ {bs:List BalV} {j:Nat} (h:j+1 < bs.length):ledAt bs (j+1)=(balOk bs[j+1]&&(bs[j]'(by omega)).acct.less bs[j+1].acct):=by
 have h':j < bs.length:=by omega
 simp [ledAt,h,h']
def ledSorted (bs:List BalV):Bool:=(List.range bs.length).all (ledAt bs)
theorem ledSorted_no {bs:List BalV} {i:Nat} (h:i < bs.length) (hn:ledAt bs i=false):ledSorted bs=false:=by
 cases hc:ledSorted bs
 ·rfl
 ·rw [List.all_eq_true.1 hc i (List.mem_range.2 h)] at hn;cases hn
theorem ledSorted_yes {bs:List BalV} (h:∀ i < bs.length,ledAt bs i=true):ledSorted bs=true:=List.all_eq_true.2 fun i hi=>h i (List.mem_range.1 hi)
def balL (bs:List BalV) (c:Int):Bool:=sumE (curL c bs)==0&&sumN (curL c bs)==0
def LedV.okB (l:LedV):Bool:=decide (0<=l.last)&&ledSorted l.bs&&(balL l.bs 0&&balL l.bs 1&&balL l.bs 2)
theorem ledCheck_spec (l:LedV) (hl:l.bs.length < 2 ^ 30):Abs.Spec Tryz.prog 88 [] [.agg l.cells] [] (.int .i64 (if l.okB then 0 else 14)):=by
 have hsums:=fun c=>sums_spec l c hl
 simp only [LedV.cells] at hsums |-;refine sgo 78 1 [.tmp 2] mixed Tryz.func88 ?_;simp only [go_sem,seval,lml];rcases Int.lt_or_le l.last 0 with h0 | h0
 ·have d0:decide (l.last < 0)=true:=by simpa using h0
  have e:l.okB=false:=by simp [LedV.okB];omega
  simp only [go_sem,seval,d0,e]<;>simp
 have d0:decide (l.last < 0)=false:=by simpa using h0
 simp only [go_sem,seval,d0,lml];refine LoopK.count l.bs.length [1,12,13] [32,224] (fun i=>[(14,.int .i64 i)]) (fun i=>[]) (fun i=>∀ j < i,ledAt l.bs j=true) (by simp) ?_ ?_
 ·simp only [go_sem,seval]<;>simp
 ·intro i hi hI;simp only [go_sem,seval];refine CondE.splitD (fun h=>?_) (fun h=>?_)
  ·have hi':i < l.bs.length:=by omega
   have hw:IntKind.wrap .i64 ((i:Int)+1)=((i+1:Nat):Int):=by rw [wr64 (by omega) (by omega)];omega
   have hm:=map_at (c:=BalV.cells) l.bs hi';have h1:=acctRight_spec l.bs[i].acct;have h2:Abs.Spec Tryz.prog 136 [] [.sl 1 [[.int .i64 l.bs[i].sum]]] [] (.bool (right [l.bs[i].sum])):=right_spec [l.bs[i].sum] (by simp);have h3:=acctFloor_spec l.bs[i].acct;rw [right_one] at h2
   have e0:ledAt l.bs i=true->∀ k < i+1,ledAt l.bs k=true:=fun h0 k hk=>by
    rcases Nat.lt_or_ge k i with h | h
    ·exact hI k h
    ·obtain rfl:k=i:=by omega
     exact h0
   have e1:ledAt l.bs i=false->l.okB=false:=fun hx=>by simp [LedV.okB,ledSorted_no hi' hx]
   simp only [BalV.cells,AcctV.cells,BalV.acct] at hm h1 h3;rcases Nat.eq_zero_or_pos i with rfl | hpos
   ·have hk:=ledAt_zero hi';simp only [balOk,BalV.acct] at hk;clear hsums;simp only [go_sem,seval,hm]
    repeat' with_reducible first|apply And.intro|exact .dq|refine CallN.pure (by assumption) ?_|(refine CallN.gen [] [] true (by simp) ?_;simp only [go_sem,seval];refine CallG.intro h2 ?_)|refine .splitDN (fun h=>?_) fun h=>?_|refine .splitD (fun h=>?_) fun h=>?_|refine .splitN (fun h=>?_) fun h=>?_|refine .split (fun h=>?_) fun h=>?_|refine .id ?_|refine RoundK.next (by omega) ?_ ?_|exact trivial|simp only [*,go_sem,seval]
    all_goals first
     | omega
     | rfl
     | (refine e0 ?_;clear e0 e1;rw [hk];clear hk;simp [bne, *];done)
     | (rw [e1 ?_]
        ·rfl
        ·clear e0 e1;rw [hk];clear hk;simp [bne, *];done)
   ·obtain ⟨j,rfl⟩:∃ j,i=j+1:=⟨i-1,by omega⟩
    have hj:j < l.bs.length:=by omega
    have hw1:IntKind.wrap .i64 (((j+1:Nat):Int)-1)=(j:Int):=by rw [wr64 (by omega) (by omega)];omega
    have hk:=ledAt_succ hi';simp only [balOk,BalV.acct] at hk;have hmj:=map_at (c:=BalV.cells) l.bs hj;have h4:=acctLess_spec l.bs[j].acct l.bs[j+1].acct;simp only [BalV.cells,AcctV.cells,BalV.acct] at hmj h4;clear hsums;simp only [go_sem,seval,hm]
    repeat' with_reducible first|apply And.intro|exact .dq|refine CallN.pure (by assumption) ?_|(refine CallN.gen [] [] true (by simp) ?_;simp only [go_sem,seval];refine CallG.intro h2 ?_)|refine .splitDN (fun h=>?_) fun h=>?_|refine .splitD (fun h=>?_) fun h=>?_|refine .splitN (fun h=>?_) fun h=>?_|refine .split (fun h=>?_) fun h=>?_|refine .id ?_|refine RoundK.next (by omega) ?_ ?_|exact trivial|simp only [*,go_sem,seval,hmj]
    all_goals first
     | omega
     | rfl
     | (refine e0 ?_;clear e0 e1;rw [hk];clear hk;simp [bne, *];done)
     | (rw [e1 ?_]
        ·rfl
        ·clear e0 e1;rw [hk];clear hk;simp [bne, *];done)
  ·obtain rfl:i=l.bs.length:=by omega
   have hs:=ledSorted_yes hI;simp only [go_sem,seval];refine LoopK.count 3 [1] [32] (fun i=>[(61,.int .i64 i)]) (fun i=>[]) (fun i=>∀ c < i,balL l.bs (c:Nat)=true) (by simp) ?_ ?_
   ·simp only [go_sem,seval]<;>simp
   ·intro c hc hC;simp only [go_sem,seval];refine CondE.splitD (fun h=>?_) (fun h=>?_)
    ·have hc':c < 3:=by omega
     have hw:IntKind.wrap .i64 ((c:Int)+1)=((c+1:Nat):Int):=by rw [wr64 (by omega) (by omega)];omega
     have hlen:=curL_len c l.bs;have hsum:=sum_spec (curL c l.bs) (by omega)
     have hbad:balL l.bs c=false->l.okB=false:=fun hx=>by
      obtain rfl | rfl | rfl:c=0\/c=1\/c=2:=by omega
      ·have:balL l.bs 0=false:=hx;simp [LedV.okB,this]
      ·have:balL l.bs 1=false:=hx;simp [LedV.okB,this]
      ·have:balL l.bs 2=false:=hx;simp [LedV.okB,this]
     simp only [go_sem,seval];refine CallN.gen [] [] false (by simp) ?_;simp only [go_sem,seval];refine CallG.intro (hsums c) ?_;simp only [go_sem,seval];refine CallN.gen [] [] true (by simp) ?_;simp only [go_sem,seval];refine CallG.intro hsum ?_;cases hE:sumE (curL c l.bs)==0
     ·have e:l.okB=false:=hbad (by simp [balL,hE]);have hE':(sumE (curL c l.bs) != 0)=true:=by simp [bne,hE]
      simp only [go_sem,seval,hE',e]<;>simp
     have hE':(sumE (curL c l.bs) != 0)=false:=by simp [bne,hE]
     cases hN:sumN (curL c l.bs)==0
     ·have e:l.okB=false:=hbad (by simp [balL,hE,hN]);have hN':(sumN (curL c l.bs) != 0)=true:=by simp [bne,hN]
      simp only [go_sem,seval,hE',hN',e]<;>simp
     have hN':(sumN (curL c l.bs) != 0)=false:=by simp [bne,hN]
     simp only [go_sem,seval,hE',hN',hw];refine RoundK.next hc' ?_ ?_
     ·intro k hk;rcases Nat.lt_or_ge k c with h | h
      ·exact hC k h
      ·obtain rfl:k=c:=by omega
       simp [balL,hE,hN]
     ·simp only [go_sem,seval]
    ·obtain rfl:c=3:=by omega
     have b0:balL l.bs 0=true:=hC 0 (by omega);have b1:balL l.bs 1=true:=hC 1 (by omega);have b2:balL l.bs 2=true:=hC 2 (by omega);have e:l.okB=true:=by simp [LedV.okB,hs,b0,b1,b2,h0]
     simp only [go_sem,seval,e]<;>simp
def astOf (r:RollV) (x:Plg):AssetV:=getL AssetV.a x.asset ⟨0,0,0,0⟩ r.xs
def hitB (r:RollV) (w c:Int) (x:Plg):Bool:=decide (0<=posL AssetV.a x.asset r.xs)&&(x.who==w&&(astOf r x).b==c)
def valsL (r:RollV) (w c:Int) (ps:List Plg):List Int:=(ps.filter (hitB r w c)).map fun x=>(astOf r x).V x.units
def firstE (r:RollV) (w c:Int):List Plg->Int
 | []=>0
 | x :: l=>if hitB r w c x&&(astOf r x).E x.units != 0 then (astOf r x).E x.units else firstE r w c l
theorem valsL_step (r:RollV) (w c:Int) (ps:List Plg) {i:Nat} (h:i < ps.length):valsL r w c (ps.take (i+1))=if hitB r w c ps[i] then valsL r w c (ps.take i)++[(astOf r ps[i]).V ps[i].units] else valsL r w c (ps.take i):=by
 simp only [valsL];rw [List.take_succ_eq_append_getElem h,List.filter_append,List.map_append];cases hb:hitB r w c ps[i]<;>simp [List.filter,hb]
theorem valsL_len (r:RollV) (w c:Int) (ps:List Plg):(valsL r w c ps).length<=ps.length:=by
 simp only [valsL,lml];exact List.length_filter_le _ _
def chk3 (l:LedV) (r:RollV) (ps:List Plg):Int:=if l.okB&&r.okB&&checkB ps then 0 else 14
def ofE (l:LedV) (r:RollV) (ps:List Plg) (w c:Int):Int:=
 if chk3 l r ps != 0 then chk3 l r ps else if firstE r w c ps != 0 then firstE r w c ps else sumE (ofL ⟨2,w,c⟩ l.bs :: valsL r w c ps)
def ofN (l:LedV) (r:RollV) (ps:List Plg) (w c:Int):Int:=
 if chk3 l r ps != 0 then 0 else if firstE r w c ps != 0 then 0 else sumN (ofL ⟨2,w,c⟩ l.bs :: valsL r w c ps)
def hitV (r:RollV) (w c:Int) (x:Plg):Int:=if hitB r w c x then (astOf r x).V x.units else 0
def sumV (r:RollV) (w c:Int):List Plg->Int
 | []=>0
 | x :: l=>hitV r w c x+sumV r w c l
theorem sumV_eq (r:RollV) (w c:Int):∀ ps:List Plg,sumL (valsL r w c ps)=sumV r w c ps
 | []=>rfl
 | x :: l=>by
  have ih:=sumV_eq r w c l;simp only [valsL] at ih;simp only [sumV,hitV,valsL,List.filter];cases hb:hitB r w c x
  ·simp only [bfe,if_false,ih];omega
  ·simp only [List.map_cons,sumL,if_true,ih]
theorem inR_iff {x:Int}:inR x=true ↔ -4611686018427387904<=x/\x<=4611686018427387904:=by simp [inR]
def lessN (a b:Int):Int:=if inR a&&(inR b&&inR (a-b)) then a-b else 0
def lessE (a b:Int):Int:=if inR a&&inR b then (if inR (a-b) then 0 else 1) else 3
def wd (S:Int):List D:=[.int .i64 (S / 18446744073709551616),.int .u64 (S%18446744073709551616)]
theorem shr63s (n:Int) (h:-9223372036854775808<=n/\n<=9223372036854775807):ishr .i64 n 63=n / 18446744073709551616:=by
 have:ishr .i64 n 63=n.fdiv (2 ^ 63):=rfl;rw [this,Int.fdiv_eq_ediv_of_nonneg _ (by omega)];omega
theorem wideOf_spec (n:Int) (h:-9223372036854775808<=n/\n<=9223372036854775807):Abs.Spec Tryz.prog 34 [] [.int .i64 n] [] (.agg (wd n)):=by
 have h1:=shr63s n h;have h2:IntKind.wrap .u64 n=n%18446744073709551616:=IntKind.wrap_u64 n;refine sgo 8 1 [.cell 2 110] mixed Tryz.func34 ?_;simp only [go_sem,seval,h1,h2,wd]
theorem refOf_spec (n:Int) (h:-9223372036854775808<=n/\n<=9223372036854775807):Abs.Spec Tryz.prog 157 [] [.int .i64 n] [] (.agg (wd n)):=by
 have h2:IntKind.wrap .u64 n=n%18446744073709551616:=IntKind.wrap_u64 n;refine sgo 11 1 [.cell 2 110] mixed Tryz.func157 ?_;rcases Int.lt_or_le n 0 with hn | hn
 ·have d:decide (n < 0)=true:=decide_eq_true hn;have e:n / 18446744073709551616 = -1:=by omega
  simp only [go_sem,seval,d,h2,wd,e]
 ·have d:decide (n < 0)=false:=decide_eq_false (by omega);have e:n / 18446744073709551616=0:=by omega
  simp only [go_sem,seval,d,h2,wd,e]
theorem wideInt_spec (S:Int):Abs.Spec Tryz.prog 116 [] [.agg (wd S)] [] (.tup [.int .i64 (if inR S then S else 0),.int .i64 (if inR S then 0 else 1)]):=by
 obtain ⟨n,hn⟩:=nmE (IntKind.wrap .i64 (S%18446744073709551616))
 have hn1:n=if S%18446744073709551616 < 9223372036854775808 then S%18446744073709551616 else S%18446744073709551616-18446744073709551616:=by
  rw [hn,IntKind.wrap_i64];split<;>omega
 have hnr:-9223372036854775808<=n/\n<=9223372036854775807:=by rw [hn1];split<;>omega
 have hO:=wideOf_spec n hnr;have hr:Abs.Spec Tryz.prog 136 [] [.sl 1 [[.int .i64 n]]] [] (.bool (right [n])):=right_spec [n] (by simp);rw [right_one] at hr;have hm:(S%18446744073709551616==n%18446744073709551616)=true:=by rw [beq_iff_eq,hn1];split<;>omega
 simp only [wd] at hO |-;refine sgo 19 1 [.tmp 2,.tmp 3] mixed Tryz.func116 ?_;simp only [go_sem,seval,<- hn];refine ⟨DrawN.mk (by kernel_rfl),OkN.mk (by kernel_rfl),CallN.pure hO ?_⟩
 by_cases hS:-9223372036854775808<=S/\S < 9223372036854775808
 ·have hnS:n=S:=by rw [hn1];split<;>omega
  have hq:(S / 18446744073709551616==n / 18446744073709551616)=true:=by rw [hnS];exact beq_self_eq_true _
  simp only [go_sem,seval,hm,hq];refine ⟨OkN.mk (by kernel_rfl),?_⟩;refine CallN.gen [] [] true (by simp) ?_;simp only [go_sem,seval];refine CallG.intro hr ?_;rw [hnS];cases hi:inR S
  ·simp only [go_sem,seval,hi,bfe,if_false]
  ·simp only [go_sem,seval,hi,if_true]
 ·have hq:(S / 18446744073709551616==n / 18446744073709551616)=false:=by
   rw [beq_eq_false_iff_ne,hn1];split<;>omega
  have hi:inR S=false:=by simp only [inR,Bool.and_eq_false_iff,decide_eq_false_iff_not];omega
  simp only [go_sem,seval,hm,hq,hi,bfe,if_false]
def wds (l:List Int):List (List D):=l.map wd
@[go_sem] theorem wds_len (l:List Int):(wds l).length=l.length:=by simp [wds]
theorem wds_at (l:List Int) {i:Nat} (h:i < l.length):(wds l).getD i []=[.int .i64 (l[i] / 18446744073709551616),.int .u64 (l[i]%18446744073709551616)]:=by simp [wds,h,wd]
def in2 (S:Int):Bool:=decide (-170141183460469231731687303715884105728<=S)&&decide (S < 170141183460469231731687303715884105728)
theorem mid_add (S n:Int):((S / 18446744073709551616)%18446744073709551616+(n / 18446744073709551616)%18446744073709551616+(S%18446744073709551616+n%18446744073709551616+0) / 18446744073709551616)%18446744073709551616=((S+n) / 18446744073709551616)%18446744073709551616:=by
 have h1:(S+n) / 18446744073709551616=S / 18446744073709551616+n / 18446744073709551616+(S%18446744073709551616+n%18446744073709551616+0) / 18446744073709551616:=by omega
 rw [h1];omega
theorem top_add (A B c s:Int) (hc:0<=c/\c<=1) (hB:-9223372036854775808<=B/\B<=9223372036854775807) (hs:s=if 0<=B then 0 else 18446744073709551615) :
  ((A / 18446744073709551616)%18446744073709551616+s+(A%18446744073709551616+B%18446744073709551616+c) / 18446744073709551616)%18446744073709551616=((A+B+c) / 18446744073709551616)%18446744073709551616:=by
 have h1:(A+B+c) / 18446744073709551616=A / 18446744073709551616+B / 18446744073709551616+(A%18446744073709551616+B%18446744073709551616+c) / 18446744073709551616:=by omega
 rw [h1,hs];split<;>omega
theorem div_add (S n:Int):S / 18446744073709551616+n / 18446744073709551616+(S%18446744073709551616+n%18446744073709551616+0) / 18446744073709551616=(S+n) / 18446744073709551616:=by omega
theorem sumL_wide:∀ {l:List Int},(∀ n∈l,in2 n=true) -> -170141183460469231731687303715884105728*(l.length:Int)<=sumL l/\sumL l<=170141183460469231731687303715884105728*(l.length:Int)
 | [],_=>by simp [sumL]
 | x :: r,h=>by
  have h2:=sumL_wide (l:=r) fun n hn=>h n (by simp [hn])
  have h1:=h x (by simp);simp only [in2,bae,decide_eq_true_eq] at h1;simp only [sumL,List.length_cons];push_cast;omega
theorem wideSum_spec (l:List Int) (hl:l.length < 2 ^ 60) (hr:∀ n∈l,in2 n=true):Abs.Spec Tryz.prog 115 [] [.sl 2 (wds l)] [] (.tup [.agg (wd (if in2 (sumL l) then sumL l else 0)),.int .i64 (if in2 (sumL l) then 0 else 1)]):=by
 refine sgo 54 1 [.cell 2 110,.tmp 3] mixed Tryz.func115 ?_;simp only [go_sem,seval];refine LoopK.count l.length [2,10,11] [48,192] (fun i=>[(12,.int .i64 i),(4,.int .u64 (sumL (l.take i)%18446744073709551616)),(5,.int .u64 ((sumL (l.take i) / 18446744073709551616)%18446744073709551616)),(6,.int .u64 ((sumL (l.take i) / 18446744073709551616 / 18446744073709551616)%18446744073709551616))]) (fun i=>[]) (fun i=>True) trivial ?_ ?_
 ·simp only [go_sem,seval]<;>simp [sumL]
 ·intro i hi _;simp only [go_sem,seval];refine CondE.splitD (fun h=>?_) (fun h=>?_)
  ·have hi':i < l.length:=by omega
   have hw:IntKind.wrap .i64 ((i:Int)+1)=((i+1:Nat):Int):=by rw [wr64 (by omega) (by omega)];omega
   have hx:=hr l[i] (List.getElem_mem hi');obtain ⟨S,hS⟩:=nmE (sumL (l.take i));obtain ⟨n,hn⟩:=nmE (l[i]);have hnext:sumL (l.take (i+1))=S+n:=by rw [List.take_succ_eq_append_getElem hi',sumL_app,hS,hn]
   rw [<- hn] at hx;simp only [in2,bae,decide_eq_true_eq] at hx;obtain ⟨B,hB⟩:=nmE (n / 18446744073709551616);have hBr:-9223372036854775808<=B/\B<=9223372036854775807:=by omega
   have hu:IntKind.wrap .u64 B=B%18446744073709551616:=IntKind.wrap_u64 B;have hsh:=shr63 B hBr;have h3:=top_add (S / 18446744073709551616) B ((S%18446744073709551616+n%18446744073709551616+0) / 18446744073709551616) _ (by omega) hBr rfl;have h2:=mid_add S n;have h4:=div_add S n;rw [<- hB] at h2 h4;rw [h4] at h3;simp only [go_sem,seval,wds_at l hi',<- hn,<- hS,<- hB];refine ⟨by omega,?_⟩;refine CallN.sem rfl ?_
   with_reducible refine SemK.add64 (k:=154) (fn:=Tryz.f154) (i:=S%18446744073709551616) (j:=n%18446744073709551616) (m:=0) ?_ Tryz.func154 ?_ ?_ add_next add_find ?_ ?_ ?_ ?_ ?_ ?_ ?_ ?_ ?_
   iterate 11 (first | rfl | omega)
   simp only [go_sem,seval,hu];refine CallN.sem rfl ?_
   with_reducible refine SemK.add64 (k:=154) (fn:=Tryz.f154) (i:=S / 18446744073709551616%18446744073709551616) (j:=B%18446744073709551616) (m:=(S%18446744073709551616+n%18446744073709551616+0) / 18446744073709551616) ?_ Tryz.func154 ?_ ?_ add_next add_find ?_ ?_ ?_ ?_ ?_ ?_ ?_ ?_ ?_
   iterate 11 (first | rfl | omega)
   simp only [go_sem,seval,hsh];refine CallN.sem rfl ?_
   with_reducible refine SemK.add64 (k:=154) (fn:=Tryz.f154) (i:=S / 18446744073709551616 / 18446744073709551616%18446744073709551616) (j:=if 0<=B then 0 else 18446744073709551615) (m:=(S / 18446744073709551616%18446744073709551616+B%18446744073709551616+(S%18446744073709551616+n%18446744073709551616+0) / 18446744073709551616) / 18446744073709551616) ?_ Tryz.func154 ?_ ?_ add_next add_find ?_ ?_ ?_ ?_ ?_ ?_ ?_ ?_ ?_
   iterate 7 (first | rfl | omega)
   ·split<;>omega
   iterate 3 (first | rfl | omega)
   rw [h3,h2,add_lo];simp only [go_sem,seval,hw];refine RoundK.next hi' trivial ?_
   simp only [go_sem,seval,hnext]
  ·obtain rfl:i=l.length:=by omega
   obtain ⟨T,hT⟩:=nmE (sumL l);have hTr:=sumL_wide hr;rw [<- hT] at hTr |-;obtain ⟨A,hA⟩:=nmE (T / 18446744073709551616);have hAr:-85070591730234615865843651857942052864<=A/\A<=85070591730234615865843651857942052864:=by omega
   obtain ⟨m,hm⟩:=nmE (IntKind.wrap .i64 (A%18446744073709551616))
   have hm1:m=if A%18446744073709551616 < 9223372036854775808 then A%18446744073709551616 else A%18446744073709551616-18446744073709551616:=by
    rw [hm,IntKind.wrap_i64];split<;>omega
   have hs:=shr63 m (by rw [hm1];split<;>omega)
   by_cases hi:in2 T=true
   ·have hi2:=hi;simp only [in2,bae,decide_eq_true_eq] at hi2;have hmA:m=A:=by rw [hm1];split<;>omega
    have hb:(A / 18446744073709551616%18446744073709551616 != if 0<=m then 0 else 18446744073709551615)=false:=by
     rw [bne_eq_false_iff_eq,hmA];split<;>omega
    rw [if_pos hi,if_pos hi];rw [hmA] at hs hb;have hm2:IntKind.wrap .i64 (A%18446744073709551616)=A:=by rw [<- hm,hmA]
    simp only [go_sem,seval,List.take_length,<- hT,<- hA,hm2,hs,hb,wd]
   ·have hi2:¬ (-170141183460469231731687303715884105728<=T/\T < 170141183460469231731687303715884105728):=by
     simpa only [in2,bae,decide_eq_true_eq] using hi
    have hb:(A / 18446744073709551616%18446744073709551616 != if 0<=m then 0 else 18446744073709551615)=true:=by
     rw [bne_iff_ne,hm1];split<;>split<;>omega
    rw [if_neg hi,if_neg hi];simp only [go_sem,seval,List.take_length,<- hT,<- hA,<- hm,hs,hb,wd]
    try exact ⟨by decide,by decide⟩
theorem refRight_spec (n:Int):Abs.Spec Tryz.prog 158 [] [.int .i64 n] [] (.bool (inR n)):=by
 refine sgo 9 1 [.tmp 2] mixed Tryz.func158 ?_;simp only [go_sem,seval]
 repeat' with_reducible first|apply And.intro|exact .dq|refine CallN.pure (by assumption) ?_|refine .splitDN (fun h=>?_) fun h=>?_|refine .splitD (fun h=>?_) fun h=>?_|refine .splitN (fun h=>?_) fun h=>?_|refine .split (fun h=>?_) fun h=>?_|refine .id ?_|refine RoundK.next (by omega) ?_ ?_|exact trivial|simp only [*,go_sem,seval]
 all_goals (rw [Bool.eq_iff_iff];simp [inR];omega)
theorem refInt_spec (S:Int):Abs.Spec Tryz.prog 65 [] [.agg (wd S)] [] (.tup [.int .i64 (if inR S then S else 0),.bool (inR S)]):=by
 obtain ⟨n,hn⟩:=nmE (IntKind.wrap .i64 (S%18446744073709551616))
 have hn1:n=if S%18446744073709551616 < 9223372036854775808 then S%18446744073709551616 else S%18446744073709551616-18446744073709551616:=by
  rw [hn,IntKind.wrap_i64];split<;>omega
 have hnr:-9223372036854775808<=n/\n<=9223372036854775807:=by rw [hn1];split<;>omega
 have hO:=refOf_spec n hnr;have hr:=refRight_spec n;have hm:(n%18446744073709551616==S%18446744073709551616)=true:=by rw [beq_iff_eq,hn1];split<;>omega
 simp only [wd] at hO |-;refine sgo 18 1 [.tmp 2,.tmp 3] mixed Tryz.func65 ?_;simp only [go_sem,seval,<- hn];refine ⟨DrawN.mk (by kernel_rfl),CallN.pure hO ?_⟩
 by_cases hS:-9223372036854775808<=S/\S < 9223372036854775808
 ·have hnS:n=S:=by rw [hn1];split<;>omega
  have hq:(n / 18446744073709551616==S / 18446744073709551616)=true:=by rw [hnS];exact beq_self_eq_true _
  simp only [go_sem,seval,hm,hq];refine ⟨OkN.mk (by kernel_rfl),CallN.pure hr ?_⟩;rw [hnS];cases hi:inR S
  ·simp only [go_sem,seval,hi,bfe,if_false]
  ·simp only [go_sem,seval,hi,if_true]
 ·have hq:(n / 18446744073709551616==S / 18446744073709551616)=false:=by
   rw [beq_eq_false_iff_ne,hn1];split<;>omega
  have hi:inR S=false:=by simp only [inR,Bool.and_eq_false_iff,decide_eq_false_iff_not];omega
  simp only [go_sem,seval,hm,hq,hi,bfe,if_false];exact OkN.mk (by kernel_rfl)
theorem top_step (A B c:Int) (hc:0<=c/\c<=1) (hB:-9223372036854775808<=B/\B<=9223372036854775807) :
  A / 18446744073709551616+(A%18446744073709551616+B%18446744073709551616+c) / 18446744073709551616+(if B < 0 then -1 else 0)=(A+B+c) / 18446744073709551616:=by
 split<;>omega
theorem refSum_spec (l:List Int) (hl:l.length < 2 ^ 58) (hr:∀ n∈l,in2 n=true):Abs.Spec Tryz.prog 62 [] [.sl 2 (wds l)] [] (.tup [.agg (wd (if in2 (sumL l) then sumL l else 0)),.bool (in2 (sumL l))]):=by
 refine sgo 75 1 [.cell 2 110,.tmp 3] mixed Tryz.func62 ?_;simp only [go_sem,seval];refine LoopK.count l.length [0,2] [48] (fun i=>[(7,.int .i64 i),(6,.int .u64 (sumL (l.take i)%18446744073709551616)),(5,.int .u64 ((sumL (l.take i) / 18446744073709551616)%18446744073709551616)),(4,.int .i64 (sumL (l.take i) / 18446744073709551616 / 18446744073709551616))]) (fun i=>[]) (fun i=>True) trivial ?_ ?_
 ·simp only [go_sem,seval]<;>simp [sumL]
 ·intro i hi _;simp only [go_sem,seval];refine CondE.splitD (fun h=>?_) (fun h=>?_)
  ·have hi':i < l.length:=by omega
   have hw:IntKind.wrap .i64 ((i:Int)+1)=((i+1:Nat):Int):=by rw [wr64 (by omega) (by omega)];omega
   have hx:=hr l[i] (List.getElem_mem hi');have hpre:∀ n∈l.take i,in2 n=true:=fun n hn=>hr n (List.mem_of_mem_take hn)
   have hSr:=sumL_wide hpre;have hlt:(l.take i).length<=l.length:=by simp;omega
   obtain ⟨S,hS⟩:=nmE (sumL (l.take i));obtain ⟨n,hn⟩:=nmE (l[i]);have hnext:sumL (l.take (i+1))=S+n:=by rw [List.take_succ_eq_append_getElem hi',sumL_app,hS,hn]
   rw [<- hn] at hx;rw [<- hS] at hSr;simp only [in2,bae,decide_eq_true_eq] at hx;obtain ⟨B,hB⟩:=nmE (n / 18446744073709551616);have hBr:-9223372036854775808<=B/\B<=9223372036854775807:=by omega
   have hu:IntKind.wrap .u64 B=B%18446744073709551616:=IntKind.wrap_u64 B;obtain ⟨c,hc⟩:=nmE ((S%18446744073709551616+n%18446744073709551616+0) / 18446744073709551616);have hcr:0<=c/\c<=1:=by omega
   have h3:=top_step (S / 18446744073709551616) B c hcr hBr;have h2:=mid_add S n;have h4:=div_add S n;rw [<- hB,<- hc] at h2 h4;rw [h4] at h3;obtain ⟨d,hd⟩:=nmE ((S / 18446744073709551616%18446744073709551616+B%18446744073709551616+c) / 18446744073709551616);have hdr:0<=d/\d<=1:=by omega
   obtain ⟨tp,htp⟩:=nmE (S / 18446744073709551616 / 18446744073709551616);have htr:-4611686018427387904<=tp/\tp<=4611686018427387904:=by omega
   have w1:IntKind.wrap .i64 d=d:=wr64 (by omega) (by omega);have w2:IntKind.wrap .i64 (tp+d)=tp+d:=wr64 (by omega) (by omega);have w3:IntKind.wrap .i64 (tp+d-1)=tp+d-1:=wr64 (by omega) (by omega);rw [<- htp,<- hd] at h3;simp only [go_sem,seval,wds_at l hi',<- hn,<- hS,<- hB];refine ⟨by omega,?_⟩;refine CallN.sem rfl ?_
   with_reducible refine SemK.add64 (k:=154) (fn:=Tryz.f154) (i:=S%18446744073709551616) (j:=n%18446744073709551616) (m:=0) ?_ Tryz.func154 ?_ ?_ add_next add_find ?_ ?_ ?_ ?_ ?_ ?_ ?_ ?_ ?_
   iterate 11 (first | rfl | omega)
   simp only [go_sem,seval,hu,<- hc,wds_at l hi',<- hn,<- hB];refine ⟨by omega,?_⟩;refine CallN.sem rfl ?_
   with_reducible refine SemK.add64 (k:=154) (fn:=Tryz.f154) (i:=S / 18446744073709551616%18446744073709551616) (j:=B%18446744073709551616) (m:=c) ?_ Tryz.func154 ?_ ?_ add_next add_find ?_ ?_ ?_ ?_ ?_ ?_ ?_ ?_ ?_
   iterate 11 (first | rfl | omega)
   rw [<- hd,h2,add_lo];rcases Int.lt_or_le B 0 with hB0 | hB0
   ·have db:decide (B < 0)=true:=decide_eq_true hB0;rw [if_pos hB0] at h3;have h5:tp+d-1=(S+n) / 18446744073709551616 / 18446744073709551616:=by omega
    simp only [go_sem,seval,<- htp,w1,w2,wds_at l hi',<- hn,<- hB,db,w3,hw];refine ⟨by omega,RoundK.next hi' trivial ?_⟩;simp only [go_sem,seval,hnext,h5]
   ·have db:decide (B < 0)=false:=decide_eq_false (by omega);rw [if_neg (by omega)] at h3;have h5:tp+d=(S+n) / 18446744073709551616 / 18446744073709551616:=by omega
    simp only [go_sem,seval,<- htp,w1,w2,wds_at l hi',<- hn,<- hB,db,hw];refine ⟨by omega,RoundK.next hi' trivial ?_⟩;simp only [go_sem,seval,hnext,h5]
  ·obtain rfl:i=l.length:=by omega
   obtain ⟨T,hT⟩:=nmE (sumL l);have hTr:=sumL_wide hr;rw [<- hT] at hTr |-;obtain ⟨A,hA⟩:=nmE (T / 18446744073709551616);obtain ⟨m,hm⟩:=nmE (IntKind.wrap .i64 (A%18446744073709551616))
   have hm1:m=if A%18446744073709551616 < 9223372036854775808 then A%18446744073709551616 else A%18446744073709551616-18446744073709551616:=by
    rw [hm,IntKind.wrap_i64];split<;>omega
   obtain ⟨tp,htp⟩:=nmE (A / 18446744073709551616)
   by_cases hi:in2 T=true
   ·have hi2:=hi;simp only [in2,bae,decide_eq_true_eq] at hi2;have hmA:m=A:=by rw [hm1];split<;>omega
    rw [if_pos hi,hi];rcases Int.lt_or_le A 0 with hs | hs
    ·have b1:(tp==0)=false:=by rw [beq_eq_false_iff_ne];omega
     have b2:(tp == -1)=true:=by rw [beq_iff_eq];omega
     have b3:decide (A < 0)=true:=decide_eq_true hs;simp only [go_sem,seval,List.take_length,<- hT,<- hA,<- hm,<- htp,hmA,b1,b2,b3,wd]
    ·have b1:(tp==0)=true:=by rw [beq_iff_eq];omega
     have b3:decide (0<=A)=true:=decide_eq_true hs;simp only [go_sem,seval,List.take_length,<- hT,<- hA,<- hm,<- htp,hmA,b1,b3,wd]
   ·have hi2:¬ (-170141183460469231731687303715884105728<=T/\T < 170141183460469231731687303715884105728):=by
     simpa only [in2,bae,decide_eq_true_eq] using hi
    have hif:in2 T=false:=by simpa using hi
    rw [if_neg hi,hif];have hw0:wd 0=[.int .i64 0,.int .u64 0]:=rfl;rcases Int.lt_or_le m 0 with hs | hs
    ·have b2:(tp == -1)=false:=by rw [beq_eq_false_iff_ne];rw [hm1] at hs;split at hs<;>omega
     have b3:decide (m < 0)=true:=decide_eq_true hs;have b4:decide (0<=m)=false:=decide_eq_false (by omega);cases b1:(tp==0)<;>simp only [go_sem,seval,List.take_length,<- hT,<- hA,<- hm,<- htp,b1,b2,b3,b4,hw0]
    ·have b1:(tp==0)=false:=by rw [beq_eq_false_iff_ne];rw [hm1] at hs;split at hs<;>omega
     have b3:decide (m < 0)=false:=decide_eq_false (by omega);cases b2:(tp == -1)<;>simp only [go_sem,seval,List.take_length,<- hT,<- hA,<- hm,<- htp,b1,b2,b3,hw0]
end Go.Proofs.YtgnhdbdipfncgaaGreat
