/- The reference's engine: does, kinds 1 to 3, and what follows. No theorem of a claim. -/
import Derived.Test.YtnkobepdbkmedaaGreatDoorKH
set_option linter.unusedSimpArgs false
set_option linter.unusedVariables false
set_option maxHeartbeats 4000000
set_option maxRecDepth 16000
namespace Go.Proofs.YtnkobepdbkmedaaGreatDoor
open Go.Abs
def xz (c:aZ):ay:=⟨c.inst,c.cur,c.bg,c.cm,0,0,c.s0,c.s1,c.s2,c.s3,c.s4,c.s5⟩
def fD (s:af) (c:aZ):af × Int × Int × Int × List aQ × List eY:=
 if c.kind=1 then ({ s with aj:=jX s.aj c.who c.cm },ju s.aj c.who c.cm,0,0,[],[])
 else if c.kind=2 then ({ s with aj:=oD s.aj (xz c) },nh s.aj (xz c),0,0,[],[])
 else if c.kind=3 then ({ s with aj:=oG s.aj ⟨c.no,c.cur,c.aX,c.cm⟩ },ni s.aj ⟨c.no,c.cur,c.aX,c.cm⟩,0,0,[],[])
 else if c.kind=4\/c.kind=5\/c.kind=8 then ((oZ s c).1,(oZ s c).2,0,0,[],[])
 else if c.kind=6\/c.kind=7 then ((kI s c (oq c)).1,(kI s c (oq c)).2,0,0,[],[])
 else if c.kind=9 then (if within c.cur 0 2&&within c.cm 1 4611686018427387904 then (lE s (bS ⟨1,0,c.cur⟩ ⟨4,0,c.cur⟩ c.cm),tH s (bS ⟨1,0,c.cur⟩ ⟨4,0,c.cur⟩ c.cm),0,0,[],[]) else (s,3,0,0,[],[]))
 else if c.kind=10\/c.kind=11\/c.kind=12\/c.kind=13 then (if s.phase=0 then ((jr s c).1,(jr s c).2.2,(jr s c).2.1,0,[],[]) else (s,15,0,0,[],[]))
 else if c.kind=14 then (jR s,ig s,0,0,pV s,[])
 else if c.kind=15 then (jz s,iT s,0,0,nP s,[])
 else if c.kind=16 then (th s,sV s,0,0,[],[])
 else if c.kind=17 then (gP s c.cm,oV s c.cm,0,0,AH s c.cm,[])
 else if c.kind=18 then ((rF s c).1,(rF s c).2,0,0,[],[])
 else if c.kind=19 then (mu s c.who,wP s c.who,0,0,JZ s c.who,Le s c.who)
 else if c.kind=20 then ((kR 3 0 s []).1,(kR 3 0 s []).2.2,0,0,(kR 3 0 s []).2.1,[])
 else if c.kind=21 then (if aD.right ⟨c.no,c.who,c.cur⟩ then (s,0,0,fj ⟨c.no,c.who,c.cur⟩ s.aW.bs,[],[]) else (s,3,0,0,[],[]))
 else if c.kind=22 then (if pz c.who c.inst then (s,0,0,(posOf c.who c.inst s.book.qs).bg,[],[]) else (s,3,0,0,[],[]))
 else (s,0,0,0,[],[])
def bF (s:af) (m:af × Int × Int × Int × List aQ × List eY):af × bq:=if m.2.1=0 then (m.1,⟨0,m.2.2.1,m.2.2.2.1,m.2.2.2.2.1,m.2.2.2.2.2⟩) else (s,.err m.2.1)
def aV (s:af) (c:aZ):af × bq:=bF s (fD s c)
theorem ZU (s:af) (c:aZ) (h:s.good) (hk:c.kind=1):Abs.Spec Tryz.prog 51 [] [.agg s.cells,.agg c.cells] [] (.bI [.agg (aV s c).1.cells,.agg (aV s c).2.cells]):=by
 have hno:=fun e=>bK e
 have c0:=aR s h.small;have hM:aV s c=bF s ({ s with aj:=jX s.aj c.who c.cm },ju s.aj c.who c.cm,0,0,[],[]):=by unfold aV;congr 1;simp [fD,hk]
 rw [hM];clear hM;have c1:=HG s.aj c.who c.cm h.small.aj;obtain ⟨A,hA⟩:=aH (jX s.aj c.who c.cm);obtain ⟨e,he⟩:=aH (ju s.aj c.who c.cm);rw [<- hA,<- he] at c1 |-;clear hA he;simp only [aq.cells] at c1;simp only [af.cells] at c0 |-;simp only [aZ.cells,hk];refine bu 227 2 [.cell 4 42,.cell 5 91] mixed Tryz.func51 ?_;simp only [go_sem,seval];(with_reducible and_intros)<;>first|exact .dq|omega|skip
 refine aa.pure c0 ?_;simp only [go_sem,seval];(with_reducible and_intros)<;>first|exact .dq|omega|skip
 refine aa.pure c1 ?_;simp only [go_sem,seval];(with_reducible and_intros)<;>first|exact .dq|omega|skip
 by_cases q:e=0
 ·have d:(e==0)=true:=by simpa using q
  simp only [bF,if_pos q];simp only [go_sem,seval,bne,d];(with_reducible and_intros)<;>first|exact .dq|omega|skip
  all_goals simp [pl]
 ·have d:(e==0)=false:=by simpa using q
  simp only [bF,if_neg q];simp only [go_sem,seval,bne,d];(with_reducible and_intros)<;>first|exact .dq|omega|skip
  refine aa.pure (hno e) ?_;simp only [go_sem,seval];(with_reducible and_intros)<;>first|exact .dq|omega|skip
  all_goals simp [bq.err]
theorem aaM (s:af) (c:aZ) (h:s.good) (hk:c.kind=2):Abs.Spec Tryz.prog 51 [] [.agg s.cells,.agg c.cells] [] (.bI [.agg (aV s c).1.cells,.agg (aV s c).2.cells]):=by
 have hno:=fun e=>bK e
 have c0:=aR s h.small;have hM:aV s c=bF s ({ s with aj:=oD s.aj (xz c) },nh s.aj (xz c),0,0,[],[]):=by unfold aV;congr 1;simp [fD,hk]
 rw [hM];clear hM;have c1:=JL s.aj (xz c) h.small.aj;obtain ⟨A,hA⟩:=aH (oD s.aj (xz c));obtain ⟨e,he⟩:=aH (nh s.aj (xz c));rw [<- hA,<- he] at c1 |-;clear hA he;simp only [aq.cells,xz,ay.cells] at c1;simp only [af.cells] at c0 |-;simp only [aZ.cells,hk];refine bu 227 2 [.cell 4 42,.cell 5 91] mixed Tryz.func51 ?_;simp only [go_sem,seval];(with_reducible and_intros)<;>first|exact .dq|omega|skip
 refine aa.pure c0 ?_;simp only [go_sem,seval];(with_reducible and_intros)<;>first|exact .dq|omega|skip
 refine aa.pure c1 ?_;simp only [go_sem,seval];(with_reducible and_intros)<;>first|exact .dq|omega|skip
 by_cases q:e=0
 ·have d:(e==0)=true:=by simpa using q
  simp only [bF,if_pos q];simp only [go_sem,seval,bne,d];(with_reducible and_intros)<;>first|exact .dq|omega|skip
  all_goals simp [pl]
 ·have d:(e==0)=false:=by simpa using q
  simp only [bF,if_neg q];simp only [go_sem,seval,bne,d];(with_reducible and_intros)<;>first|exact .dq|omega|skip
  refine aa.pure (hno e) ?_;simp only [go_sem,seval];(with_reducible and_intros)<;>first|exact .dq|omega|skip
  all_goals simp [bq.err]
theorem aap (s:af) (c:aZ) (h:s.good) (hk:c.kind=3):Abs.Spec Tryz.prog 51 [] [.agg s.cells,.agg c.cells] [] (.bI [.agg (aV s c).1.cells,.agg (aV s c).2.cells]):=by
 have hno:=fun e=>bK e
 have c0:=aR s h.small;have hM:aV s c=bF s ({ s with aj:=oG s.aj ⟨c.no,c.cur,c.aX,c.cm⟩ },ni s.aj ⟨c.no,c.cur,c.aX,c.cm⟩,0,0,[],[]):=by unfold aV;congr 1;simp [fD,hk]
 rw [hM];clear hM;have c1:=JU s.aj ⟨c.no,c.cur,c.aX,c.cm⟩ h.small.aj;obtain ⟨A,hA⟩:=aH (oG s.aj ⟨c.no,c.cur,c.aX,c.cm⟩);obtain ⟨e,he⟩:=aH (ni s.aj ⟨c.no,c.cur,c.aX,c.cm⟩);rw [<- hA,<- he] at c1 |-;clear hA he;simp only [aq.cells,au.cells] at c1;simp only [af.cells] at c0 |-;simp only [aZ.cells,hk];refine bu 227 2 [.cell 4 42,.cell 5 91] mixed Tryz.func51 ?_;simp only [go_sem,seval];(with_reducible and_intros)<;>first|exact .dq|omega|skip
 refine aa.pure c0 ?_;simp only [go_sem,seval];(with_reducible and_intros)<;>first|exact .dq|omega|skip
 refine aa.pure c1 ?_;simp only [go_sem,seval];(with_reducible and_intros)<;>first|exact .dq|omega|skip
 by_cases q:e=0
 ·have d:(e==0)=true:=by simpa using q
  simp only [bF,if_pos q];simp only [go_sem,seval,bne,d];(with_reducible and_intros)<;>first|exact .dq|omega|skip
  all_goals simp [pl]
 ·have d:(e==0)=false:=by simpa using q
  simp only [bF,if_neg q];simp only [go_sem,seval,bne,d];(with_reducible and_intros)<;>first|exact .dq|omega|skip
  refine aa.pure (hno e) ?_;simp only [go_sem,seval];(with_reducible and_intros)<;>first|exact .dq|omega|skip
  all_goals simp [bq.err]
theorem YS (s:af) (c:aZ) (h:s.good) (hk:c.kind=4):Abs.Spec Tryz.prog 51 [] [.agg s.cells,.agg c.cells] [] (.bI [.agg (aV s c).1.cells,.agg (aV s c).2.cells]):=by
 have hno:=fun e=>bK e
 have c0:=aR s h.small;have hM:aV s c=bF s ((oZ s c).1,(oZ s c).2,0,0,[],[]):=by unfold aV;congr 1;simp [fD,hk]
 rw [hM];clear hM;have c1:=qd s c h;obtain ⟨R,hR⟩:=aH (oZ s c);rw [<- hR] at c1 |-;clear hR;obtain ⟨T,e⟩:=R;dsimp only at c1 |-;simp only [af.cells,aZ.cells,hk] at c1;simp only [af.cells] at c0 |-;simp only [aZ.cells,hk];refine bu 227 2 [.cell 4 42,.cell 5 91] mixed Tryz.func51 ?_;simp -implicitDefEqProofs only [go_sem,seval];(with_reducible and_intros)<;>first|exact .dq|omega|skip
 refine aa.pure c0 ?_;simp -implicitDefEqProofs only [go_sem,seval];(with_reducible and_intros)<;>first|exact .dq|omega|skip
 refine aa.gen [] [112] false (by simp) ?_;simp -implicitDefEqProofs only [go_sem,seval];refine aU.intro c1 ?_;simp -implicitDefEqProofs only [go_sem,seval];(with_reducible and_intros)<;>first|exact .dq|omega|skip
 by_cases q:e=0
 ·have d:(e==0)=true:=by simpa using q
  simp only [bF,if_pos q];simp -implicitDefEqProofs only [go_sem,seval,bne,d];(with_reducible and_intros)<;>first|exact .dq|omega|skip
  all_goals simp [pl]
 ·have d:(e==0)=false:=by simpa using q
  simp only [bF,if_neg q];simp -implicitDefEqProofs only [go_sem,seval,bne,d];(with_reducible and_intros)<;>first|exact .dq|omega|skip
  refine aa.pure (hno e) ?_;simp -implicitDefEqProofs only [go_sem,seval];(with_reducible and_intros)<;>first|exact .dq|omega|skip
  all_goals simp [bq.err]
theorem YO (s:af) (c:aZ) (h:s.good) (hk:c.kind=5):Abs.Spec Tryz.prog 51 [] [.agg s.cells,.agg c.cells] [] (.bI [.agg (aV s c).1.cells,.agg (aV s c).2.cells]):=by
 have hno:=fun e=>bK e
 have c0:=aR s h.small;have hM:aV s c=bF s ((oZ s c).1,(oZ s c).2,0,0,[],[]):=by unfold aV;congr 1;simp [fD,hk]
 rw [hM];clear hM;have c1:=qd s c h;obtain ⟨R,hR⟩:=aH (oZ s c);rw [<- hR] at c1 |-;clear hR;obtain ⟨T,e⟩:=R;dsimp only at c1 |-;simp only [af.cells,aZ.cells,hk] at c1;simp only [af.cells] at c0 |-;simp only [aZ.cells,hk];refine bu 227 2 [.cell 4 42,.cell 5 91] mixed Tryz.func51 ?_;simp -implicitDefEqProofs only [go_sem,seval];(with_reducible and_intros)<;>first|exact .dq|omega|skip
 refine aa.pure c0 ?_;simp -implicitDefEqProofs only [go_sem,seval];(with_reducible and_intros)<;>first|exact .dq|omega|skip
 refine aa.gen [] [112] false (by simp) ?_;simp -implicitDefEqProofs only [go_sem,seval];refine aU.intro c1 ?_;simp -implicitDefEqProofs only [go_sem,seval];(with_reducible and_intros)<;>first|exact .dq|omega|skip
 by_cases q:e=0
 ·have d:(e==0)=true:=by simpa using q
  simp only [bF,if_pos q];simp -implicitDefEqProofs only [go_sem,seval,bne,d];(with_reducible and_intros)<;>first|exact .dq|omega|skip
  all_goals simp [pl]
 ·have d:(e==0)=false:=by simpa using q
  simp only [bF,if_neg q];simp -implicitDefEqProofs only [go_sem,seval,bne,d];(with_reducible and_intros)<;>first|exact .dq|omega|skip
  refine aa.pure (hno e) ?_;simp -implicitDefEqProofs only [go_sem,seval];(with_reducible and_intros)<;>first|exact .dq|omega|skip
  all_goals simp [bq.err]
theorem Y6 (s:af) (c:aZ) (h:s.good) (hk:c.kind=8):Abs.Spec Tryz.prog 51 [] [.agg s.cells,.agg c.cells] [] (.bI [.agg (aV s c).1.cells,.agg (aV s c).2.cells]):=by
 have hno:=fun e=>bK e
 have c0:=aR s h.small;have hM:aV s c=bF s ((oZ s c).1,(oZ s c).2,0,0,[],[]):=by unfold aV;congr 1;simp [fD,hk]
 rw [hM];clear hM;have c1:=qd s c h;obtain ⟨R,hR⟩:=aH (oZ s c);rw [<- hR] at c1 |-;clear hR;obtain ⟨T,e⟩:=R;dsimp only at c1 |-;simp only [af.cells,aZ.cells,hk] at c1;simp only [af.cells] at c0 |-;simp only [aZ.cells,hk];refine bu 227 2 [.cell 4 42,.cell 5 91] mixed Tryz.func51 ?_;simp -implicitDefEqProofs only [go_sem,seval];(with_reducible and_intros)<;>first|exact .dq|omega|skip
 refine aa.pure c0 ?_;simp -implicitDefEqProofs only [go_sem,seval];(with_reducible and_intros)<;>first|exact .dq|omega|skip
 refine aa.gen [] [112] false (by simp) ?_;simp -implicitDefEqProofs only [go_sem,seval];refine aU.intro c1 ?_;simp -implicitDefEqProofs only [go_sem,seval];(with_reducible and_intros)<;>first|exact .dq|omega|skip
 by_cases q:e=0
 ·have d:(e==0)=true:=by simpa using q
  simp only [bF,if_pos q];simp -implicitDefEqProofs only [go_sem,seval,bne,d];(with_reducible and_intros)<;>first|exact .dq|omega|skip
  all_goals simp [pl]
 ·have d:(e==0)=false:=by simpa using q
  simp only [bF,if_neg q];simp -implicitDefEqProofs only [go_sem,seval,bne,d];(with_reducible and_intros)<;>first|exact .dq|omega|skip
  refine aa.pure (hno e) ?_;simp -implicitDefEqProofs only [go_sem,seval];(with_reducible and_intros)<;>first|exact .dq|omega|skip
  all_goals simp [bq.err]
theorem Y9 (s:af) (c:aZ) (h:s.good) (hk:c.kind=6):Abs.Spec Tryz.prog 51 [] [.agg s.cells,.agg c.cells] [] (.bI [.agg (aV s c).1.cells,.agg (aV s c).2.cells]):=by
 have hno:=fun e=>bK e
 have c0:=aR s h.small;have hM:aV s c=bF s ((kI s c (oq c)).1,(kI s c (oq c)).2,0,0,[],[]):=by unfold aV;congr 1;simp [fD,hk]
 rw [hM];clear hM;have c1:=qU s c h;obtain ⟨R,hR⟩:=aH (kI s c (oq c));rw [<- hR] at c1 |-;clear hR;obtain ⟨T,e⟩:=R;dsimp only at c1 |-;simp only [af.cells,aZ.cells,hk] at c1;simp only [af.cells] at c0 |-;simp only [aZ.cells,hk];refine bu 227 2 [.cell 4 42,.cell 5 91] mixed Tryz.func51 ?_;simp -implicitDefEqProofs only [go_sem,seval];(with_reducible and_intros)<;>first|exact .dq|omega|skip
 refine aa.pure c0 ?_;simp -implicitDefEqProofs only [go_sem,seval];(with_reducible and_intros)<;>first|exact .dq|omega|skip
 refine aa.gen [] [112] false (by simp) ?_;simp -implicitDefEqProofs only [go_sem,seval];refine aU.intro c1 ?_;simp -implicitDefEqProofs only [go_sem,seval];(with_reducible and_intros)<;>first|exact .dq|omega|skip
 by_cases q:e=0
 ·have d:(e==0)=true:=by simpa using q
  simp only [bF,if_pos q];simp -implicitDefEqProofs only [go_sem,seval,bne,d];(with_reducible and_intros)<;>first|exact .dq|omega|skip
  all_goals simp [pl]
 ·have d:(e==0)=false:=by simpa using q
  simp only [bF,if_neg q];simp -implicitDefEqProofs only [go_sem,seval,bne,d];(with_reducible and_intros)<;>first|exact .dq|omega|skip
  refine aa.pure (hno e) ?_;simp -implicitDefEqProofs only [go_sem,seval];(with_reducible and_intros)<;>first|exact .dq|omega|skip
  all_goals simp [bq.err]
theorem YX (s:af) (c:aZ) (h:s.good) (hk:c.kind=7):Abs.Spec Tryz.prog 51 [] [.agg s.cells,.agg c.cells] [] (.bI [.agg (aV s c).1.cells,.agg (aV s c).2.cells]):=by
 have hno:=fun e=>bK e
 have c0:=aR s h.small;have hM:aV s c=bF s ((kI s c (oq c)).1,(kI s c (oq c)).2,0,0,[],[]):=by unfold aV;congr 1;simp [fD,hk]
 rw [hM];clear hM;have c1:=qU s c h;obtain ⟨R,hR⟩:=aH (kI s c (oq c));rw [<- hR] at c1 |-;clear hR;obtain ⟨T,e⟩:=R;dsimp only at c1 |-;simp only [af.cells,aZ.cells,hk] at c1;simp only [af.cells] at c0 |-;simp only [aZ.cells,hk];refine bu 227 2 [.cell 4 42,.cell 5 91] mixed Tryz.func51 ?_;simp -implicitDefEqProofs only [go_sem,seval];(with_reducible and_intros)<;>first|exact .dq|omega|skip
 refine aa.pure c0 ?_;simp -implicitDefEqProofs only [go_sem,seval];(with_reducible and_intros)<;>first|exact .dq|omega|skip
 refine aa.gen [] [112] false (by simp) ?_;simp -implicitDefEqProofs only [go_sem,seval];refine aU.intro c1 ?_;simp -implicitDefEqProofs only [go_sem,seval];(with_reducible and_intros)<;>first|exact .dq|omega|skip
 by_cases q:e=0
 ·have d:(e==0)=true:=by simpa using q
  simp only [bF,if_pos q];simp -implicitDefEqProofs only [go_sem,seval,bne,d];(with_reducible and_intros)<;>first|exact .dq|omega|skip
  all_goals simp [pl]
 ·have d:(e==0)=false:=by simpa using q
  simp only [bF,if_neg q];simp -implicitDefEqProofs only [go_sem,seval,bne,d];(with_reducible and_intros)<;>first|exact .dq|omega|skip
  refine aa.pure (hno e) ?_;simp -implicitDefEqProofs only [go_sem,seval];(with_reducible and_intros)<;>first|exact .dq|omega|skip
  all_goals simp [bq.err]
theorem ZH (s:af) (c:aZ) (h:s.good) (hk:c.kind=9):Abs.Spec Tryz.prog 51 [] [.agg s.cells,.agg c.cells] [] (.bI [.agg (aV s c).1.cells,.agg (aV s c).2.cells]):=by
 have hno:=fun e=>bK e
 have c0:=aR s h.small;have hM:aV s c=bF s (if within c.cur 0 2&&within c.cm 1 4611686018427387904 then (lE s (bS ⟨1,0,c.cur⟩ ⟨4,0,c.cur⟩ c.cm),tH s (bS ⟨1,0,c.cur⟩ ⟨4,0,c.cur⟩ c.cm),0,0,[],[]) else (s,3,0,0,[],[])):=by unfold aV;congr 1;simp [fD,hk]
 rw [hM];clear hM;have a1:=fK c.cur;have a2:=gC c.cm 1 4611686018427387904;have a3:=gM 1 0 c.cur;have a4:=gM 4 0 c.cur;have a5:=iM ⟨1,0,c.cur⟩ ⟨4,0,c.cur⟩ c.cm;have c1:=jq s (bS ⟨1,0,c.cur⟩ ⟨4,0,c.cur⟩ c.cm) h.small.aW h.cU.bs (by simp [bS]);obtain ⟨g,hg⟩:=aH (bS ⟨1,0,c.cur⟩ ⟨4,0,c.cur⟩ c.cm);rw [<- hg] at a5 c1 |-;clear hg;obtain ⟨T,hT⟩:=aH (lE s g);obtain ⟨e,he⟩:=aH (tH s g);rw [<- hT,<- he] at c1 |-;clear hT he;simp only [af.cells] at c1;simp only [aD.cells] at a5;simp only [af.cells] at c0 |-;simp only [aZ.cells,hk];refine bu 227 2 [.cell 4 42,.cell 5 91] mixed Tryz.func51 ?_;simp -implicitDefEqProofs only [go_sem,seval];(with_reducible and_intros)<;>first|exact .dq|omega|skip
 refine aa.pure c0 ?_;simp -implicitDefEqProofs only [go_sem,seval];(with_reducible and_intros)<;>first|exact .dq|omega|skip
 refine aa.pure a1 ?_;cases b1:within c.cur 0 2
 ·rw [Bool.false_and,if_neg (by decide)];simp only [bF,if_neg (show ¬ (3:Int)=0 by decide)];simp -implicitDefEqProofs only [go_sem,seval];(with_reducible and_intros)<;>first|exact .dq|omega|skip
  refine aa.pure (hno 3) ?_;simp -implicitDefEqProofs only [go_sem,seval];(with_reducible and_intros)<;>first|exact .dq|omega|skip
  all_goals simp [bq.err]
 simp -implicitDefEqProofs only [go_sem,seval];(with_reducible and_intros)<;>first|exact .dq|omega|skip
 refine aa.pure a2 ?_;cases b2:within c.cm 1 4611686018427387904
 ·rw [if_neg (by decide)];simp only [bF,if_neg (show ¬ (3:Int)=0 by decide)];simp -implicitDefEqProofs only [go_sem,seval];(with_reducible and_intros)<;>first|exact .dq|omega|skip
  refine aa.pure (hno 3) ?_;simp -implicitDefEqProofs only [go_sem,seval];(with_reducible and_intros)<;>first|exact .dq|omega|skip
  all_goals simp [bq.err]
 rw [if_pos rfl];simp -implicitDefEqProofs only [go_sem,seval];(with_reducible and_intros)<;>first|exact .dq|omega|skip
 refine aa.pure a3 ?_;simp -implicitDefEqProofs only [go_sem,seval];(with_reducible and_intros)<;>first|exact .dq|omega|skip
 refine aa.pure a4 ?_;simp -implicitDefEqProofs only [go_sem,seval];(with_reducible and_intros)<;>first|exact .dq|omega|skip
 refine aa.pure a5 ?_;simp -implicitDefEqProofs only [go_sem,seval];(with_reducible and_intros)<;>first|exact .dq|omega|skip
 refine aa.gen [] [112] false (by simp) ?_;simp -implicitDefEqProofs only [go_sem,seval];refine aU.intro c1 ?_;simp -implicitDefEqProofs only [go_sem,seval];(with_reducible and_intros)<;>first|exact .dq|omega|skip
 by_cases q:e=0
 ·have d:(e==0)=true:=by simpa using q
  simp only [bF,if_pos q];simp -implicitDefEqProofs only [go_sem,seval,bne,d];(with_reducible and_intros)<;>first|exact .dq|omega|skip
  all_goals simp [pl]
 ·have d:(e==0)=false:=by simpa using q
  simp only [bF,if_neg q];simp -implicitDefEqProofs only [go_sem,seval,bne,d];(with_reducible and_intros)<;>first|exact .dq|omega|skip
  refine aa.pure (hno e) ?_;simp -implicitDefEqProofs only [go_sem,seval];(with_reducible and_intros)<;>first|exact .dq|omega|skip
  all_goals simp [bq.err]
theorem VQ (s:af) (c:aZ) (h:s.good) (hk:c.kind=10):Abs.Spec Tryz.prog 51 [] [.agg s.cells,.agg c.cells] [] (.bI [.agg (aV s c).1.cells,.agg (aV s c).2.cells]):=by
 have hno:=fun e=>bK e
 have c0:=aR s h.small;have hM:aV s c=bF s (if s.phase=0 then ((jr s c).1,(jr s c).2.2,(jr s c).2.1,0,[],[]) else (s,15,0,0,[],[])):=by unfold aV;congr 1;simp [fD,hk]
 rw [hM];clear hM;have c1:=jw s c h;obtain ⟨R,hR⟩:=aH (jr s c);rw [<- hR] at c1 |-;clear hR;obtain ⟨T,no,e⟩:=R;dsimp only at c1 |-;simp only [af.cells,aZ.cells,hk] at c1;simp only [af.cells] at c0 |-;simp only [aZ.cells,hk];refine bu 227 2 [.cell 4 42,.cell 5 91] mixed Tryz.func51 ?_;simp -implicitDefEqProofs only [go_sem,seval];(with_reducible and_intros)<;>first|exact .dq|omega|skip
 refine aa.pure c0 ?_;simp -implicitDefEqProofs only [go_sem,seval];(with_reducible and_intros)<;>first|exact .dq|omega|skip
 by_cases b1:s.phase=0
 case neg =>
  have d:(s.phase==0)=false:=by simpa using b1
  rw [if_neg b1];simp only [bF,if_neg (show ¬ (15:Int)=0 by decide)];simp -implicitDefEqProofs only [go_sem,seval,bne,d];(with_reducible and_intros)<;>first|exact .dq|omega|skip
  refine aa.pure (hno 15) ?_;simp -implicitDefEqProofs only [go_sem,seval];(with_reducible and_intros)<;>first|exact .dq|omega|skip
  all_goals simp [bq.err]
 have d1:(s.phase==0)=true:=by simpa using b1
 rw [if_pos b1];simp -implicitDefEqProofs only [go_sem,seval,bne,d1];(with_reducible and_intros)<;>first|exact .dq|omega|skip
 refine aa.gen [] [112] false (by simp) ?_;simp -implicitDefEqProofs only [go_sem,seval];refine aU.intro c1 ?_;simp -implicitDefEqProofs only [go_sem,seval];(with_reducible and_intros)<;>first|exact .dq|omega|skip
 by_cases q:e=0
 ·have d:(e==0)=true:=by simpa using q
  simp only [bF,if_pos q];simp -implicitDefEqProofs only [go_sem,seval,bne,d];(with_reducible and_intros)<;>first|exact .dq|omega|skip
  all_goals simp [pl]
 ·have d:(e==0)=false:=by simpa using q
  simp only [bF,if_neg q];simp -implicitDefEqProofs only [go_sem,seval,bne,d];(with_reducible and_intros)<;>first|exact .dq|omega|skip
  refine aa.pure (hno e) ?_;simp -implicitDefEqProofs only [go_sem,seval];(with_reducible and_intros)<;>first|exact .dq|omega|skip
  all_goals simp [bq.err]
theorem Wp (s:af) (c:aZ) (h:s.good) (hk:c.kind=11):Abs.Spec Tryz.prog 51 [] [.agg s.cells,.agg c.cells] [] (.bI [.agg (aV s c).1.cells,.agg (aV s c).2.cells]):=by
 have hno:=fun e=>bK e
 have c0:=aR s h.small;have hM:aV s c=bF s (if s.phase=0 then ((jr s c).1,(jr s c).2.2,(jr s c).2.1,0,[],[]) else (s,15,0,0,[],[])):=by unfold aV;congr 1;simp [fD,hk]
 rw [hM];clear hM;have c1:=jw s c h;obtain ⟨R,hR⟩:=aH (jr s c);rw [<- hR] at c1 |-;clear hR;obtain ⟨T,no,e⟩:=R;dsimp only at c1 |-;simp only [af.cells,aZ.cells,hk] at c1;simp only [af.cells] at c0 |-;simp only [aZ.cells,hk];refine bu 227 2 [.cell 4 42,.cell 5 91] mixed Tryz.func51 ?_;simp -implicitDefEqProofs only [go_sem,seval];(with_reducible and_intros)<;>first|exact .dq|omega|skip
 refine aa.pure c0 ?_;simp -implicitDefEqProofs only [go_sem,seval];(with_reducible and_intros)<;>first|exact .dq|omega|skip
 by_cases b1:s.phase=0
 case neg =>
  have d:(s.phase==0)=false:=by simpa using b1
  rw [if_neg b1];simp only [bF,if_neg (show ¬ (15:Int)=0 by decide)];simp -implicitDefEqProofs only [go_sem,seval,bne,d];(with_reducible and_intros)<;>first|exact .dq|omega|skip
  refine aa.pure (hno 15) ?_;simp -implicitDefEqProofs only [go_sem,seval];(with_reducible and_intros)<;>first|exact .dq|omega|skip
  all_goals simp [bq.err]
 have d1:(s.phase==0)=true:=by simpa using b1
 rw [if_pos b1];simp -implicitDefEqProofs only [go_sem,seval,bne,d1];(with_reducible and_intros)<;>first|exact .dq|omega|skip
 refine aa.gen [] [112] false (by simp) ?_;simp -implicitDefEqProofs only [go_sem,seval];refine aU.intro c1 ?_;simp -implicitDefEqProofs only [go_sem,seval];(with_reducible and_intros)<;>first|exact .dq|omega|skip
 by_cases q:e=0
 ·have d:(e==0)=true:=by simpa using q
  simp only [bF,if_pos q];simp -implicitDefEqProofs only [go_sem,seval,bne,d];(with_reducible and_intros)<;>first|exact .dq|omega|skip
  all_goals simp [pl]
 ·have d:(e==0)=false:=by simpa using q
  simp only [bF,if_neg q];simp -implicitDefEqProofs only [go_sem,seval,bne,d];(with_reducible and_intros)<;>first|exact .dq|omega|skip
  refine aa.pure (hno e) ?_;simp -implicitDefEqProofs only [go_sem,seval];(with_reducible and_intros)<;>first|exact .dq|omega|skip
  all_goals simp [bq.err]
theorem WM (s:af) (c:aZ) (h:s.good) (hk:c.kind=12):Abs.Spec Tryz.prog 51 [] [.agg s.cells,.agg c.cells] [] (.bI [.agg (aV s c).1.cells,.agg (aV s c).2.cells]):=by
 have hno:=fun e=>bK e
 have c0:=aR s h.small;have hM:aV s c=bF s (if s.phase=0 then ((jr s c).1,(jr s c).2.2,(jr s c).2.1,0,[],[]) else (s,15,0,0,[],[])):=by unfold aV;congr 1;simp [fD,hk]
 rw [hM];clear hM;have c1:=jw s c h;obtain ⟨R,hR⟩:=aH (jr s c);rw [<- hR] at c1 |-;clear hR;obtain ⟨T,no,e⟩:=R;dsimp only at c1 |-;simp only [af.cells,aZ.cells,hk] at c1;simp only [af.cells] at c0 |-;simp only [aZ.cells,hk];refine bu 227 2 [.cell 4 42,.cell 5 91] mixed Tryz.func51 ?_;simp -implicitDefEqProofs only [go_sem,seval];(with_reducible and_intros)<;>first|exact .dq|omega|skip
 refine aa.pure c0 ?_;simp -implicitDefEqProofs only [go_sem,seval];(with_reducible and_intros)<;>first|exact .dq|omega|skip
 by_cases b1:s.phase=0
 case neg =>
  have d:(s.phase==0)=false:=by simpa using b1
  rw [if_neg b1];simp only [bF,if_neg (show ¬ (15:Int)=0 by decide)];simp -implicitDefEqProofs only [go_sem,seval,bne,d];(with_reducible and_intros)<;>first|exact .dq|omega|skip
  refine aa.pure (hno 15) ?_;simp -implicitDefEqProofs only [go_sem,seval];(with_reducible and_intros)<;>first|exact .dq|omega|skip
  all_goals simp [bq.err]
 have d1:(s.phase==0)=true:=by simpa using b1
 rw [if_pos b1];simp -implicitDefEqProofs only [go_sem,seval,bne,d1];(with_reducible and_intros)<;>first|exact .dq|omega|skip
 refine aa.gen [] [112] false (by simp) ?_;simp -implicitDefEqProofs only [go_sem,seval];refine aU.intro c1 ?_;simp -implicitDefEqProofs only [go_sem,seval];(with_reducible and_intros)<;>first|exact .dq|omega|skip
 by_cases q:e=0
 ·have d:(e==0)=true:=by simpa using q
  simp only [bF,if_pos q];simp -implicitDefEqProofs only [go_sem,seval,bne,d];(with_reducible and_intros)<;>first|exact .dq|omega|skip
  all_goals simp [pl]
 ·have d:(e==0)=false:=by simpa using q
  simp only [bF,if_neg q];simp -implicitDefEqProofs only [go_sem,seval,bne,d];(with_reducible and_intros)<;>first|exact .dq|omega|skip
  refine aa.pure (hno e) ?_;simp -implicitDefEqProofs only [go_sem,seval];(with_reducible and_intros)<;>first|exact .dq|omega|skip
  all_goals simp [bq.err]
theorem V6 (s:af) (c:aZ) (h:s.good) (hk:c.kind=13):Abs.Spec Tryz.prog 51 [] [.agg s.cells,.agg c.cells] [] (.bI [.agg (aV s c).1.cells,.agg (aV s c).2.cells]):=by
 have hno:=fun e=>bK e
 have c0:=aR s h.small;have hM:aV s c=bF s (if s.phase=0 then ((jr s c).1,(jr s c).2.2,(jr s c).2.1,0,[],[]) else (s,15,0,0,[],[])):=by unfold aV;congr 1;simp [fD,hk]
 rw [hM];clear hM;have c1:=jw s c h;obtain ⟨R,hR⟩:=aH (jr s c);rw [<- hR] at c1 |-;clear hR;obtain ⟨T,no,e⟩:=R;dsimp only at c1 |-;simp only [af.cells,aZ.cells,hk] at c1;simp only [af.cells] at c0 |-;simp only [aZ.cells,hk];refine bu 227 2 [.cell 4 42,.cell 5 91] mixed Tryz.func51 ?_;simp -implicitDefEqProofs only [go_sem,seval];(with_reducible and_intros)<;>first|exact .dq|omega|skip
 refine aa.pure c0 ?_;simp -implicitDefEqProofs only [go_sem,seval];(with_reducible and_intros)<;>first|exact .dq|omega|skip
 by_cases b1:s.phase=0
 case neg =>
  have d:(s.phase==0)=false:=by simpa using b1
  rw [if_neg b1];simp only [bF,if_neg (show ¬ (15:Int)=0 by decide)];simp -implicitDefEqProofs only [go_sem,seval,bne,d];(with_reducible and_intros)<;>first|exact .dq|omega|skip
  refine aa.pure (hno 15) ?_;simp -implicitDefEqProofs only [go_sem,seval];(with_reducible and_intros)<;>first|exact .dq|omega|skip
  all_goals simp [bq.err]
 have d1:(s.phase==0)=true:=by simpa using b1
 rw [if_pos b1];simp -implicitDefEqProofs only [go_sem,seval,bne,d1];(with_reducible and_intros)<;>first|exact .dq|omega|skip
 refine aa.gen [] [112] false (by simp) ?_;simp -implicitDefEqProofs only [go_sem,seval];refine aU.intro c1 ?_;simp -implicitDefEqProofs only [go_sem,seval];(with_reducible and_intros)<;>first|exact .dq|omega|skip
 by_cases q:e=0
 ·have d:(e==0)=true:=by simpa using q
  simp only [bF,if_pos q];simp -implicitDefEqProofs only [go_sem,seval,bne,d];(with_reducible and_intros)<;>first|exact .dq|omega|skip
  all_goals simp [pl]
 ·have d:(e==0)=false:=by simpa using q
  simp only [bF,if_neg q];simp -implicitDefEqProofs only [go_sem,seval,bne,d];(with_reducible and_intros)<;>first|exact .dq|omega|skip
  refine aa.pure (hno e) ?_;simp -implicitDefEqProofs only [go_sem,seval];(with_reducible and_intros)<;>first|exact .dq|omega|skip
  all_goals simp [bq.err]
theorem VP (s:af) (c:aZ) (h:s.good) (hk:c.kind=14):Abs.Spec Tryz.prog 51 [] [.agg s.cells,.agg c.cells] [] (.bI [.agg (aV s c).1.cells,.agg (aV s c).2.cells]):=by
 have hno:=fun e=>bK e
 have c0:=aR s h.small;have hM:aV s c=bF s (jR s,ig s,0,0,pV s,[]):=by unfold aV;congr 1;simp [fD,hk]
 rw [hM];clear hM;have c1:=ED s h.small h.cU h.qs;obtain ⟨T,hT⟩:=aH (jR s);obtain ⟨e,he⟩:=aH (ig s);obtain ⟨ds,hds⟩:∃ l,l=pV s:=⟨_,rfl⟩
 rw [<- hT,<- he,<- hds] at c1 |-;clear hT he hds;simp only [af.cells] at c1;simp only [af.cells] at c0 |-;simp only [aZ.cells,hk];refine bu 227 2 [.cell 4 42,.cell 5 91] mixed Tryz.func51 ?_;simp -implicitDefEqProofs only [go_sem,seval];(with_reducible and_intros)<;>first|exact .dq|omega|skip
 refine aa.pure c0 ?_;simp -implicitDefEqProofs only [go_sem,seval];(with_reducible and_intros)<;>first|exact .dq|omega|skip
 refine aa.pure c1 ?_;simp -implicitDefEqProofs only [go_sem,seval];(with_reducible and_intros)<;>first|exact .dq|omega|skip
 by_cases q:e=0
 ·have d:(e==0)=true:=by simpa using q
  simp only [bF,if_pos q];simp -implicitDefEqProofs only [go_sem,seval,bne,d];(with_reducible and_intros)<;>first|exact .dq|omega|skip
  all_goals simp [pl]
 ·have d:(e==0)=false:=by simpa using q
  simp only [bF,if_neg q];simp -implicitDefEqProofs only [go_sem,seval,bne,d];(with_reducible and_intros)<;>first|exact .dq|omega|skip
  refine aa.pure (hno e) ?_;simp -implicitDefEqProofs only [go_sem,seval];(with_reducible and_intros)<;>first|exact .dq|omega|skip
  all_goals simp [bq.err]
theorem WA (s:af) (c:aZ) (h:s.good) (hk:c.kind=15):Abs.Spec Tryz.prog 51 [] [.agg s.cells,.agg c.cells] [] (.bI [.agg (aV s c).1.cells,.agg (aV s c).2.cells]):=by
 have hno:=fun e=>bK e
 have c0:=aR s h.small;have hM:aV s c=bF s (jz s,iT s,0,0,nP s,[]):=by unfold aV;congr 1;simp [fD,hk]
 rw [hM];clear hM;have c1:=At s h.small h.cU h.bs (by have:=h.ps;omega);obtain ⟨T,hT⟩:=aH (jz s);obtain ⟨e,he⟩:=aH (iT s);obtain ⟨ds,hds⟩:∃ l,l=nP s:=⟨_,rfl⟩
 rw [<- hT,<- he,<- hds] at c1 |-;clear hT he hds;simp only [af.cells] at c1;simp only [af.cells] at c0 |-;simp only [aZ.cells,hk];refine bu 227 2 [.cell 4 42,.cell 5 91] mixed Tryz.func51 ?_;simp -implicitDefEqProofs only [go_sem,seval];(with_reducible and_intros)<;>first|exact .dq|omega|skip
 refine aa.pure c0 ?_;simp -implicitDefEqProofs only [go_sem,seval];(with_reducible and_intros)<;>first|exact .dq|omega|skip
 refine aa.pure c1 ?_;simp -implicitDefEqProofs only [go_sem,seval];(with_reducible and_intros)<;>first|exact .dq|omega|skip
 by_cases q:e=0
 ·have d:(e==0)=true:=by simpa using q
  simp only [bF,if_pos q];simp -implicitDefEqProofs only [go_sem,seval,bne,d];(with_reducible and_intros)<;>first|exact .dq|omega|skip
  all_goals simp [pl]
 ·have d:(e==0)=false:=by simpa using q
  simp only [bF,if_neg q];simp -implicitDefEqProofs only [go_sem,seval,bne,d];(with_reducible and_intros)<;>first|exact .dq|omega|skip
  refine aa.pure (hno e) ?_;simp -implicitDefEqProofs only [go_sem,seval];(with_reducible and_intros)<;>first|exact .dq|omega|skip
  all_goals simp [bq.err]
theorem VW (s:af) (c:aZ) (h:s.good) (hk:c.kind=16):Abs.Spec Tryz.prog 51 [] [.agg s.cells,.agg c.cells] [] (.bI [.agg (aV s c).1.cells,.agg (aV s c).2.cells]):=by
 have hno:=fun e=>bK e
 have c0:=aR s h.small;have hM:aV s c=bF s (th s,sV s,0,0,[],[]):=by unfold aV;congr 1;simp [fD,hk]
 rw [hM];clear hM;have c1:=DI s h.small h.cU;obtain ⟨T,hT⟩:=aH (th s);obtain ⟨e,he⟩:=aH (sV s);rw [<- hT,<- he] at c1 |-;clear hT he;simp only [af.cells] at c1;simp only [af.cells] at c0 |-;simp only [aZ.cells,hk];refine bu 227 2 [.cell 4 42,.cell 5 91] mixed Tryz.func51 ?_;simp -implicitDefEqProofs only [go_sem,seval];(with_reducible and_intros)<;>first|exact .dq|omega|skip
 refine aa.pure c0 ?_;simp -implicitDefEqProofs only [go_sem,seval];(with_reducible and_intros)<;>first|exact .dq|omega|skip
 refine aa.pure c1 ?_;simp -implicitDefEqProofs only [go_sem,seval];(with_reducible and_intros)<;>first|exact .dq|omega|skip
 by_cases q:e=0
 ·have d:(e==0)=true:=by simpa using q
  simp only [bF,if_pos q];simp -implicitDefEqProofs only [go_sem,seval,bne,d];(with_reducible and_intros)<;>first|exact .dq|omega|skip
  all_goals simp [pl]
 ·have d:(e==0)=false:=by simpa using q
  simp only [bF,if_neg q];simp -implicitDefEqProofs only [go_sem,seval,bne,d];(with_reducible and_intros)<;>first|exact .dq|omega|skip
  refine aa.pure (hno e) ?_;simp -implicitDefEqProofs only [go_sem,seval];(with_reducible and_intros)<;>first|exact .dq|omega|skip
  all_goals simp [bq.err]
theorem Vx (s:af) (c:aZ) (h:s.good) (hk:c.kind=17):Abs.Spec Tryz.prog 51 [] [.agg s.cells,.agg c.cells] [] (.bI [.agg (aV s c).1.cells,.agg (aV s c).2.cells]):=by
 have hno:=fun e=>bK e
 have c0:=aR s h.small;have hM:aV s c=bF s (gP s c.cm,oV s c.cm,0,0,AH s c.cm,[]):=by unfold aV;congr 1;simp [fD,hk]
 rw [hM];clear hM;have c1:=JR s c.cm h.small h.cU;obtain ⟨T,hT⟩:=aH (gP s c.cm);obtain ⟨e,he⟩:=aH (oV s c.cm);obtain ⟨ds,hds⟩:∃ l,l=AH s c.cm:=⟨_,rfl⟩
 rw [<- hT,<- he,<- hds] at c1 |-;clear hT he hds;simp only [af.cells] at c1;simp only [af.cells] at c0 |-;simp only [aZ.cells,hk];refine bu 227 2 [.cell 4 42,.cell 5 91] mixed Tryz.func51 ?_;simp -implicitDefEqProofs only [go_sem,seval];(with_reducible and_intros)<;>first|exact .dq|omega|skip
 refine aa.pure c0 ?_;simp -implicitDefEqProofs only [go_sem,seval];(with_reducible and_intros)<;>first|exact .dq|omega|skip
 refine aa.pure c1 ?_;simp -implicitDefEqProofs only [go_sem,seval];(with_reducible and_intros)<;>first|exact .dq|omega|skip
 by_cases q:e=0
 ·have d:(e==0)=true:=by simpa using q
  simp only [bF,if_pos q];simp -implicitDefEqProofs only [go_sem,seval,bne,d];(with_reducible and_intros)<;>first|exact .dq|omega|skip
  all_goals simp [pl]
 ·have d:(e==0)=false:=by simpa using q
  simp only [bF,if_neg q];simp -implicitDefEqProofs only [go_sem,seval,bne,d];(with_reducible and_intros)<;>first|exact .dq|omega|skip
  refine aa.pure (hno e) ?_;simp -implicitDefEqProofs only [go_sem,seval];(with_reducible and_intros)<;>first|exact .dq|omega|skip
  all_goals simp [bq.err]
theorem W1 (s:af) (c:aZ) (h:s.good) (hk:c.kind=18):Abs.Spec Tryz.prog 51 [] [.agg s.cells,.agg c.cells] [] (.bI [.agg (aV s c).1.cells,.agg (aV s c).2.cells]):=by
 have hno:=fun e=>bK e
 have c0:=NN s h.small;have hM:aV s c=bF s ((rF s c).1,(rF s c).2,0,0,[],[]):=by unfold aV;congr 1;simp [fD,hk]
 rw [hM];clear hM;have c1:=HA s c h;obtain ⟨R,hR⟩:=aH (rF s c);rw [<- hR] at c1 |-;clear hR;obtain ⟨T,e⟩:=R;dsimp only at c1 |-;simp only [af.cells,af.zm,aZ.cells,hk] at c1 c0;simp only [af.cells];simp only [aZ.cells,hk];refine bu 227 2 [.cell 4 42,.cell 5 91] mixed Tryz.func51 ?_;simp -implicitDefEqProofs only [go_sem,seval];(with_reducible and_intros)<;>first|exact .dq|omega|skip
 refine aa.gen [] [] false (by simp) ?_;simp -implicitDefEqProofs only [go_sem,seval];refine aU.intro c0 ?_;simp -implicitDefEqProofs only [go_sem,seval];(with_reducible and_intros)<;>first|exact .dq|omega|skip
 refine aa.gen [] [112,200] false (by simp) ?_;simp -implicitDefEqProofs only [go_sem,seval];refine aU.intro c1 ?_;simp -implicitDefEqProofs only [go_sem,seval];(with_reducible and_intros)<;>first|exact .dq|omega|skip
 by_cases q:e=0
 ·have d:(e==0)=true:=by simpa using q
  simp only [bF,if_pos q];simp -implicitDefEqProofs only [go_sem,seval,bne,d];(with_reducible and_intros)<;>first|exact .dq|omega|skip
  all_goals simp [pl]
 ·have d:(e==0)=false:=by simpa using q
  simp only [bF,if_neg q];simp -implicitDefEqProofs only [go_sem,seval,bne,d];(with_reducible and_intros)<;>first|exact .dq|omega|skip
  refine aa.pure (hno e) ?_;simp -implicitDefEqProofs only [go_sem,seval];(with_reducible and_intros)<;>first|exact .dq|omega|skip
  all_goals simp [bq.err]
theorem Wg (s:af) (c:aZ) (h:s.good) (hk:c.kind=19):Abs.Spec Tryz.prog 51 [] [.agg s.cells,.agg c.cells] [] (.bI [.agg (aV s c).1.cells,.agg (aV s c).2.cells]):=by
 have hno:=fun e=>bK e
 have c0:=aR s h.small;have hM:aV s c=bF s (mu s c.who,wP s c.who,0,0,JZ s c.who,Le s c.who):=by unfold aV;congr 1;simp [fD,hk]
 rw [hM];clear hM;have c1:=Lm s c.who h.small h.cU h.ms h.qs h.bp h.bs;obtain ⟨T,hT⟩:=aH (mu s c.who);obtain ⟨e,he⟩:=aH (wP s c.who);obtain ⟨ds,hds⟩:∃ l,l=JZ s c.who:=⟨_,rfl⟩
 obtain ⟨fs,hfs⟩:∃ l,l=Le s c.who:=⟨_,rfl⟩
 rw [<- hT,<- he,<- hds,<- hfs] at c1 |-;clear hT he hds hfs;simp only [af.cells] at c1;simp only [af.cells] at c0 |-;simp only [aZ.cells,hk];refine bu 227 2 [.cell 4 42,.cell 5 91] mixed Tryz.func51 ?_;simp -implicitDefEqProofs only [go_sem,seval];(with_reducible and_intros)<;>first|exact .dq|omega|skip
 refine aa.pure c0 ?_;simp -implicitDefEqProofs only [go_sem,seval];(with_reducible and_intros)<;>first|exact .dq|omega|skip
 refine aa.pure c1 ?_;simp -implicitDefEqProofs only [go_sem,seval];(with_reducible and_intros)<;>first|exact .dq|omega|skip
 by_cases q:e=0
 ·have d:(e==0)=true:=by simpa using q
  simp only [bF,if_pos q];simp -implicitDefEqProofs only [go_sem,seval,bne,d];(with_reducible and_intros)<;>first|exact .dq|omega|skip
  all_goals simp [pl]
 ·have d:(e==0)=false:=by simpa using q
  simp only [bF,if_neg q];simp -implicitDefEqProofs only [go_sem,seval,bne,d];(with_reducible and_intros)<;>first|exact .dq|omega|skip
  refine aa.pure (hno e) ?_;simp -implicitDefEqProofs only [go_sem,seval];(with_reducible and_intros)<;>first|exact .dq|omega|skip
  all_goals simp [bq.err]
theorem VU (s:af) (c:aZ) (h:s.good) (hk:c.kind=20):Abs.Spec Tryz.prog 51 [] [.agg s.cells,.agg c.cells] [] (.bI [.agg (aV s c).1.cells,.agg (aV s c).2.cells]):=by
 have hno:=fun e=>bK e
 have c0:=aR s h.small;have hM:aV s c=bF s ((kR 3 0 s []).1,(kR 3 0 s []).2.2,0,0,(kR 3 0 s []).2.1,[]):=by unfold aV;congr 1;simp [fD,hk]
 rw [hM];clear hM;have c1:=Cm s h;obtain ⟨R,hR⟩:=aH (kR 3 0 s []);rw [<- hR] at c1 |-;clear hR;obtain ⟨T,ds,e⟩:=R;dsimp only at c1 |-;simp only [af.cells] at c1;simp only [af.cells] at c0 |-;simp only [aZ.cells,hk];refine bu 227 2 [.cell 4 42,.cell 5 91] mixed Tryz.func51 ?_;simp -implicitDefEqProofs only [go_sem,seval];(with_reducible and_intros)<;>first|exact .dq|omega|skip
 refine aa.pure c0 ?_;simp -implicitDefEqProofs only [go_sem,seval];(with_reducible and_intros)<;>first|exact .dq|omega|skip
 refine aa.gen [] [112] false (by simp) ?_;simp -implicitDefEqProofs only [go_sem,seval];refine aU.intro c1 ?_;simp -implicitDefEqProofs only [go_sem,seval];(with_reducible and_intros)<;>first|exact .dq|omega|skip
 by_cases q:e=0
 ·have d:(e==0)=true:=by simpa using q
  simp only [bF,if_pos q];simp -implicitDefEqProofs only [go_sem,seval,bne,d];(with_reducible and_intros)<;>first|exact .dq|omega|skip
  all_goals simp [pl]
 ·have d:(e==0)=false:=by simpa using q
  simp only [bF,if_neg q];simp -implicitDefEqProofs only [go_sem,seval,bne,d];(with_reducible and_intros)<;>first|exact .dq|omega|skip
  refine aa.pure (hno e) ?_;simp -implicitDefEqProofs only [go_sem,seval];(with_reducible and_intros)<;>first|exact .dq|omega|skip
  all_goals simp [bq.err]
theorem WO (s:af) (c:aZ) (h:s.good) (hk:c.kind=21):Abs.Spec Tryz.prog 51 [] [.agg s.cells,.agg c.cells] [] (.bI [.agg (aV s c).1.cells,.agg (aV s c).2.cells]):=by
 have hno:=fun e=>bK e
 have c0:=aR s h.small;have hM:aV s c=bF s (if aD.right ⟨c.no,c.who,c.cur⟩ then (s,0,0,fj ⟨c.no,c.who,c.cur⟩ s.aW.bs,[],[]) else (s,3,0,0,[],[])):=by unfold aV;congr 1;simp [fD,hk]
 rw [hM];clear hM;have a1:=gM c.no c.who c.cur;have a2:=fT ⟨c.no,c.who,c.cur⟩;have a3:=gV s.aW ⟨c.no,c.who,c.cur⟩ h.small.aW;simp only [aD.cells] at a2 a3;simp only [bz.cells] at a3;simp only [af.cells] at c0 |-;simp only [aZ.cells,hk];refine bu 227 2 [.cell 4 42,.cell 5 91] mixed Tryz.func51 ?_;simp -implicitDefEqProofs only [go_sem,seval];(with_reducible and_intros)<;>first|exact .dq|omega|skip
 refine aa.pure c0 ?_;simp -implicitDefEqProofs only [go_sem,seval];(with_reducible and_intros)<;>first|exact .dq|omega|skip
 refine aa.pure a1 ?_;simp -implicitDefEqProofs only [go_sem,seval];(with_reducible and_intros)<;>first|exact .dq|omega|skip
 refine aa.pure a2 ?_;cases b1:aD.right ⟨c.no,c.who,c.cur⟩
 ·rw [if_neg (by decide)];simp only [bF,if_neg (show ¬ (3:Int)=0 by decide)];simp -implicitDefEqProofs only [go_sem,seval];(with_reducible and_intros)<;>first|exact .dq|omega|skip
  refine aa.pure (hno 3) ?_;simp -implicitDefEqProofs only [go_sem,seval];(with_reducible and_intros)<;>first|exact .dq|omega|skip
  all_goals simp [bq.err]
 rw [if_pos rfl];simp -implicitDefEqProofs only [go_sem,seval];(with_reducible and_intros)<;>first|exact .dq|omega|skip
 refine aa.pure a1 ?_;simp -implicitDefEqProofs only [go_sem,seval];(with_reducible and_intros)<;>first|exact .dq|omega|skip
 refine aa.pure a3 ?_;simp only [bF,if_pos (show (0:Int)=0 from rfl)];simp -implicitDefEqProofs only [go_sem,seval];(with_reducible and_intros)<;>first|exact .dq|omega|skip
 all_goals simp [pl]
theorem V9 (s:af) (c:aZ) (h:s.good) (hk:c.kind=22):Abs.Spec Tryz.prog 51 [] [.agg s.cells,.agg c.cells] [] (.bI [.agg (aV s c).1.cells,.agg (aV s c).2.cells]):=by
 have hno:=fun e=>bK e
 have c0:=aR s h.small;have hM:aV s c=bF s (if pz c.who c.inst then (s,0,0,(posOf c.who c.inst s.book.qs).bg,[],[]) else (s,3,0,0,[],[])):=by unfold aV;congr 1;simp [fD,hk]
 rw [hM];clear hM;have a1:=pX c.who c.inst;have a3:=nU s.book c.who c.inst h.small.book;obtain ⟨y,hy⟩:=aH (posOf c.who c.inst s.book.qs);rw [<- hy] at a3 |-;clear hy;simp only [aF.cells,aB.cells] at a3;simp only [af.cells] at c0 |-;simp only [aZ.cells,hk];refine bu 227 2 [.cell 4 42,.cell 5 91] mixed Tryz.func51 ?_;simp -implicitDefEqProofs only [go_sem,seval];(with_reducible and_intros)<;>first|exact .dq|omega|skip
 refine aa.pure c0 ?_;simp -implicitDefEqProofs only [go_sem,seval];(with_reducible and_intros)<;>first|exact .dq|omega|skip
 refine aa.pure a1 ?_;cases b1:pz c.who c.inst
 ·rw [if_neg (by decide)];simp only [bF,if_neg (show ¬ (3:Int)=0 by decide)];simp -implicitDefEqProofs only [go_sem,seval];(with_reducible and_intros)<;>first|exact .dq|omega|skip
  refine aa.pure (hno 3) ?_;simp -implicitDefEqProofs only [go_sem,seval];(with_reducible and_intros)<;>first|exact .dq|omega|skip
  all_goals simp [bq.err]
 rw [if_pos rfl];simp -implicitDefEqProofs only [go_sem,seval];(with_reducible and_intros)<;>first|exact .dq|omega|skip
 refine aa.pure a3 ?_;simp only [bF,if_pos (show (0:Int)=0 from rfl)];simp -implicitDefEqProofs only [go_sem,seval];(with_reducible and_intros)<;>first|exact .dq|omega|skip
 all_goals simp [pl]
end Go.Proofs.YtnkobepdbkmedaaGreatDoor
