/- The reference's engine: does, kinds 1 to 3, and what follows. No theorem of a claim. -/
import Derived.Test.YtacacccbcndjoaaGreatKH
set_option linter.unusedSimpArgs false
set_option linter.unusedVariables false
set_option maxHeartbeats 4000000
set_option maxRecDepth 16000
namespace Go.Proofs.YtacacccbcndjoaaGreat
open Go.Abs
def uS (c:aY):ay:=⟨c.inst,c.cur,c.aX,c.bX,0,0,c.s0,c.s1,c.s2,c.s3,c.s4,c.s5⟩
def fk (s:af) (c:aY):af × Int × Int × Int × List aN × List ck:=
 if c.kind=1 then ({ s with aj:=jG s.aj c.who c.bX },iR s.aj c.who c.bX,0,0,[],[])
 else if c.kind=2 then ({ s with aj:=n6 s.aj (uS c) },mC s.aj (uS c),0,0,[],[])
 else if c.kind=3 then ({ s with aj:=nO s.aj ⟨c.no,c.cur,c.aR,c.bX⟩ },mu s.aj ⟨c.no,c.cur,c.aR,c.bX⟩,0,0,[],[])
 else if c.kind=4\/c.kind=5\/c.kind=8 then ((nJ s c).1,(nJ s c).2,0,0,[],[])
 else if c.kind=6\/c.kind=7 then ((jU s c (n9 c)).1,(jU s c (n9 c)).2,0,0,[],[])
 else if c.kind=9 then (if within c.cur 0 2&&within c.bX 1 4611686018427387904 then (kf s (bP ⟨1,0,c.cur⟩ ⟨4,0,c.cur⟩ c.bX),rV s (bP ⟨1,0,c.cur⟩ ⟨4,0,c.cur⟩ c.bX),0,0,[],[]) else (s,3,0,0,[],[]))
 else if c.kind=10\/c.kind=11\/c.kind=12\/c.kind=13 then (if s.phase=0 then ((iT s c).1,(iT s c).2.2,(iT s c).2.1,0,[],[]) else (s,15,0,0,[],[]))
 else if c.kind=14 then (jB s,gL s,0,0,oR s,[])
 else if c.kind=15 then (jg s,iC s,0,0,m9 s,[])
 else if c.kind=16 then (rA s,rL s,0,0,[],[])
 else if c.kind=17 then (cE s c.bX,dL s c.bX,0,0,jk s c.bX,[])
 else if c.kind=18 then ((qt s c).1,(qt s c).2,0,0,[],[])
 else if c.kind=19 then (lz s c.who,ur s c.who,0,0,G7 s c.who,He s c.who)
 else if c.kind=20 then ((j0 3 0 s []).1,(j0 3 0 s []).2.2,0,0,(j0 3 0 s []).2.1,[])
 else if c.kind=21 then (if aJ.right ⟨c.no,c.who,c.cur⟩ then (s,0,0,gG ⟨c.no,c.who,c.cur⟩ s.bE.bs,[],[]) else (s,3,0,0,[],[]))
 else if c.kind=22 then (if ot c.who c.inst then (s,0,0,(posOf c.who c.inst s.book.qs).aX,[],[]) else (s,3,0,0,[],[]))
 else (s,0,0,0,[],[])
def br (s:af) (m:af × Int × Int × Int × List aN × List ck):af × aW:=if m.2.1=0 then (m.1,⟨0,m.2.2.1,m.2.2.2.1,m.2.2.2.2.1,m.2.2.2.2.2⟩) else (s,.err m.2.1)
def aQ (s:af) (c:aY):af × aW:=br s (fk s c)
theorem VZ (s:af) (c:aY) (h:s.good) (hk:c.kind=1):Abs.Spec Tryz.prog 26 [] [.agg s.cells,.agg c.cells] [] (.bD [.agg (aQ s c).1.cells,.agg (aQ s c).2.cells]):=by
 have hno:=fun e=>bC e
 have c0:=aP s h.small;have hM:aQ s c=br s ({ s with aj:=jG s.aj c.who c.bX },iR s.aj c.who c.bX,0,0,[],[]):=by unfold aQ;congr 1;simp [fk,hk]
 rw [hM];clear hM;have c1:=D2 s.aj c.who c.bX h.small.aj;obtain ⟨A,hA⟩:=aO (jG s.aj c.who c.bX);obtain ⟨e,he⟩:=aO (iR s.aj c.who c.bX);rw [<- hA,<- he] at c1 |-;clear hA he;simp only [aq.cells] at c1;simp only [af.cells] at c0 |-;simp only [aY.cells,hk];refine aU 227 2 [.cell 4 42,.cell 5 66] mixed Tryz.func26 ?_;simp only [go_sem,seval];(with_reducible and_intros)<;>first|exact .dq|omega|skip
 refine aa.pure c0 ?_;simp only [go_sem,seval];(with_reducible and_intros)<;>first|exact .dq|omega|skip
 refine aa.pure c1 ?_;simp only [go_sem,seval];(with_reducible and_intros)<;>first|exact .dq|omega|skip
 by_cases q:e=0
 ·have d:(e==0)=true:=by simpa using q
  simp only [br,if_pos q];simp only [go_sem,seval,bne,d];(with_reducible and_intros)<;>first|exact .dq|omega|skip
  all_goals simp [pl]
 ·have d:(e==0)=false:=by simpa using q
  simp only [br,if_neg q];simp only [go_sem,seval,bne,d];(with_reducible and_intros)<;>first|exact .dq|omega|skip
  refine aa.pure (hno e) ?_;simp only [go_sem,seval];(with_reducible and_intros)<;>first|exact .dq|omega|skip
  all_goals simp [aW.err]
theorem Wo (s:af) (c:aY) (h:s.good) (hk:c.kind=2):Abs.Spec Tryz.prog 26 [] [.agg s.cells,.agg c.cells] [] (.bD [.agg (aQ s c).1.cells,.agg (aQ s c).2.cells]):=by
 have hno:=fun e=>bC e
 have c0:=aP s h.small;have hM:aQ s c=br s ({ s with aj:=n6 s.aj (uS c) },mC s.aj (uS c),0,0,[],[]):=by unfold aQ;congr 1;simp [fk,hk]
 rw [hM];clear hM;have c1:=HB s.aj (uS c) h.small.aj;obtain ⟨A,hA⟩:=aO (n6 s.aj (uS c));obtain ⟨e,he⟩:=aO (mC s.aj (uS c));rw [<- hA,<- he] at c1 |-;clear hA he;simp only [aq.cells,uS,ay.cells] at c1;simp only [af.cells] at c0 |-;simp only [aY.cells,hk];refine aU 227 2 [.cell 4 42,.cell 5 66] mixed Tryz.func26 ?_;simp only [go_sem,seval];(with_reducible and_intros)<;>first|exact .dq|omega|skip
 refine aa.pure c0 ?_;simp only [go_sem,seval];(with_reducible and_intros)<;>first|exact .dq|omega|skip
 refine aa.pure c1 ?_;simp only [go_sem,seval];(with_reducible and_intros)<;>first|exact .dq|omega|skip
 by_cases q:e=0
 ·have d:(e==0)=true:=by simpa using q
  simp only [br,if_pos q];simp only [go_sem,seval,bne,d];(with_reducible and_intros)<;>first|exact .dq|omega|skip
  all_goals simp [pl]
 ·have d:(e==0)=false:=by simpa using q
  simp only [br,if_neg q];simp only [go_sem,seval,bne,d];(with_reducible and_intros)<;>first|exact .dq|omega|skip
  refine aa.pure (hno e) ?_;simp only [go_sem,seval];(with_reducible and_intros)<;>first|exact .dq|omega|skip
  all_goals simp [aW.err]
theorem XM (s:af) (c:aY) (h:s.good) (hk:c.kind=3):Abs.Spec Tryz.prog 26 [] [.agg s.cells,.agg c.cells] [] (.bD [.agg (aQ s c).1.cells,.agg (aQ s c).2.cells]):=by
 have hno:=fun e=>bC e
 have c0:=aP s h.small;have hM:aQ s c=br s ({ s with aj:=nO s.aj ⟨c.no,c.cur,c.aR,c.bX⟩ },mu s.aj ⟨c.no,c.cur,c.aR,c.bX⟩,0,0,[],[]):=by unfold aQ;congr 1;simp [fk,hk]
 rw [hM];clear hM;have c1:=HU s.aj ⟨c.no,c.cur,c.aR,c.bX⟩ h.small.aj;obtain ⟨A,hA⟩:=aO (nO s.aj ⟨c.no,c.cur,c.aR,c.bX⟩);obtain ⟨e,he⟩:=aO (mu s.aj ⟨c.no,c.cur,c.aR,c.bX⟩);rw [<- hA,<- he] at c1 |-;clear hA he;simp only [aq.cells,av.cells] at c1;simp only [af.cells] at c0 |-;simp only [aY.cells,hk];refine aU 227 2 [.cell 4 42,.cell 5 66] mixed Tryz.func26 ?_;simp only [go_sem,seval];(with_reducible and_intros)<;>first|exact .dq|omega|skip
 refine aa.pure c0 ?_;simp only [go_sem,seval];(with_reducible and_intros)<;>first|exact .dq|omega|skip
 refine aa.pure c1 ?_;simp only [go_sem,seval];(with_reducible and_intros)<;>first|exact .dq|omega|skip
 by_cases q:e=0
 ·have d:(e==0)=true:=by simpa using q
  simp only [br,if_pos q];simp only [go_sem,seval,bne,d];(with_reducible and_intros)<;>first|exact .dq|omega|skip
  all_goals simp [pl]
 ·have d:(e==0)=false:=by simpa using q
  simp only [br,if_neg q];simp only [go_sem,seval,bne,d];(with_reducible and_intros)<;>first|exact .dq|omega|skip
  refine aa.pure (hno e) ?_;simp only [go_sem,seval];(with_reducible and_intros)<;>first|exact .dq|omega|skip
  all_goals simp [aW.err]
theorem WQ (s:af) (c:aY) (h:s.good) (hk:c.kind=4):Abs.Spec Tryz.prog 26 [] [.agg s.cells,.agg c.cells] [] (.bD [.agg (aQ s c).1.cells,.agg (aQ s c).2.cells]):=by
 have hno:=fun e=>bC e
 have c0:=aP s h.small;have hM:aQ s c=br s ((nJ s c).1,(nJ s c).2,0,0,[],[]):=by unfold aQ;congr 1;simp [fk,hk]
 rw [hM];clear hM;have c1:=pG s c h;obtain ⟨R,hR⟩:=aO (nJ s c);rw [<- hR] at c1 |-;clear hR;obtain ⟨T,e⟩:=R;dsimp only at c1 |-;simp only [af.cells,aY.cells,hk] at c1;simp only [af.cells] at c0 |-;simp only [aY.cells,hk];refine aU 227 2 [.cell 4 42,.cell 5 66] mixed Tryz.func26 ?_;simp -implicitDefEqProofs only [go_sem,seval];(with_reducible and_intros)<;>first|exact .dq|omega|skip
 refine aa.pure c0 ?_;simp -implicitDefEqProofs only [go_sem,seval];(with_reducible and_intros)<;>first|exact .dq|omega|skip
 refine aa.gen [] [112] false (by simp) ?_;simp -implicitDefEqProofs only [go_sem,seval];refine bg.intro c1 ?_;simp -implicitDefEqProofs only [go_sem,seval];(with_reducible and_intros)<;>first|exact .dq|omega|skip
 by_cases q:e=0
 ·have d:(e==0)=true:=by simpa using q
  simp only [br,if_pos q];simp -implicitDefEqProofs only [go_sem,seval,bne,d];(with_reducible and_intros)<;>first|exact .dq|omega|skip
  all_goals simp [pl]
 ·have d:(e==0)=false:=by simpa using q
  simp only [br,if_neg q];simp -implicitDefEqProofs only [go_sem,seval,bne,d];(with_reducible and_intros)<;>first|exact .dq|omega|skip
  refine aa.pure (hno e) ?_;simp -implicitDefEqProofs only [go_sem,seval];(with_reducible and_intros)<;>first|exact .dq|omega|skip
  all_goals simp [aW.err]
theorem WM (s:af) (c:aY) (h:s.good) (hk:c.kind=5):Abs.Spec Tryz.prog 26 [] [.agg s.cells,.agg c.cells] [] (.bD [.agg (aQ s c).1.cells,.agg (aQ s c).2.cells]):=by
 have hno:=fun e=>bC e
 have c0:=aP s h.small;have hM:aQ s c=br s ((nJ s c).1,(nJ s c).2,0,0,[],[]):=by unfold aQ;congr 1;simp [fk,hk]
 rw [hM];clear hM;have c1:=pG s c h;obtain ⟨R,hR⟩:=aO (nJ s c);rw [<- hR] at c1 |-;clear hR;obtain ⟨T,e⟩:=R;dsimp only at c1 |-;simp only [af.cells,aY.cells,hk] at c1;simp only [af.cells] at c0 |-;simp only [aY.cells,hk];refine aU 227 2 [.cell 4 42,.cell 5 66] mixed Tryz.func26 ?_;simp -implicitDefEqProofs only [go_sem,seval];(with_reducible and_intros)<;>first|exact .dq|omega|skip
 refine aa.pure c0 ?_;simp -implicitDefEqProofs only [go_sem,seval];(with_reducible and_intros)<;>first|exact .dq|omega|skip
 refine aa.gen [] [112] false (by simp) ?_;simp -implicitDefEqProofs only [go_sem,seval];refine bg.intro c1 ?_;simp -implicitDefEqProofs only [go_sem,seval];(with_reducible and_intros)<;>first|exact .dq|omega|skip
 by_cases q:e=0
 ·have d:(e==0)=true:=by simpa using q
  simp only [br,if_pos q];simp -implicitDefEqProofs only [go_sem,seval,bne,d];(with_reducible and_intros)<;>first|exact .dq|omega|skip
  all_goals simp [pl]
 ·have d:(e==0)=false:=by simpa using q
  simp only [br,if_neg q];simp -implicitDefEqProofs only [go_sem,seval,bne,d];(with_reducible and_intros)<;>first|exact .dq|omega|skip
  refine aa.pure (hno e) ?_;simp -implicitDefEqProofs only [go_sem,seval];(with_reducible and_intros)<;>first|exact .dq|omega|skip
  all_goals simp [aW.err]
theorem WD (s:af) (c:aY) (h:s.good) (hk:c.kind=8):Abs.Spec Tryz.prog 26 [] [.agg s.cells,.agg c.cells] [] (.bD [.agg (aQ s c).1.cells,.agg (aQ s c).2.cells]):=by
 have hno:=fun e=>bC e
 have c0:=aP s h.small;have hM:aQ s c=br s ((nJ s c).1,(nJ s c).2,0,0,[],[]):=by unfold aQ;congr 1;simp [fk,hk]
 rw [hM];clear hM;have c1:=pG s c h;obtain ⟨R,hR⟩:=aO (nJ s c);rw [<- hR] at c1 |-;clear hR;obtain ⟨T,e⟩:=R;dsimp only at c1 |-;simp only [af.cells,aY.cells,hk] at c1;simp only [af.cells] at c0 |-;simp only [aY.cells,hk];refine aU 227 2 [.cell 4 42,.cell 5 66] mixed Tryz.func26 ?_;simp -implicitDefEqProofs only [go_sem,seval];(with_reducible and_intros)<;>first|exact .dq|omega|skip
 refine aa.pure c0 ?_;simp -implicitDefEqProofs only [go_sem,seval];(with_reducible and_intros)<;>first|exact .dq|omega|skip
 refine aa.gen [] [112] false (by simp) ?_;simp -implicitDefEqProofs only [go_sem,seval];refine bg.intro c1 ?_;simp -implicitDefEqProofs only [go_sem,seval];(with_reducible and_intros)<;>first|exact .dq|omega|skip
 by_cases q:e=0
 ·have d:(e==0)=true:=by simpa using q
  simp only [br,if_pos q];simp -implicitDefEqProofs only [go_sem,seval,bne,d];(with_reducible and_intros)<;>first|exact .dq|omega|skip
  all_goals simp [pl]
 ·have d:(e==0)=false:=by simpa using q
  simp only [br,if_neg q];simp -implicitDefEqProofs only [go_sem,seval,bne,d];(with_reducible and_intros)<;>first|exact .dq|omega|skip
  refine aa.pure (hno e) ?_;simp -implicitDefEqProofs only [go_sem,seval];(with_reducible and_intros)<;>first|exact .dq|omega|skip
  all_goals simp [aW.err]
theorem Wh (s:af) (c:aY) (h:s.good) (hk:c.kind=6):Abs.Spec Tryz.prog 26 [] [.agg s.cells,.agg c.cells] [] (.bD [.agg (aQ s c).1.cells,.agg (aQ s c).2.cells]):=by
 have hno:=fun e=>bC e
 have c0:=aP s h.small;have hM:aQ s c=br s ((jU s c (n9 c)).1,(jU s c (n9 c)).2,0,0,[],[]):=by unfold aQ;congr 1;simp [fk,hk]
 rw [hM];clear hM;have c1:=pY s c h;obtain ⟨R,hR⟩:=aO (jU s c (n9 c));rw [<- hR] at c1 |-;clear hR;obtain ⟨T,e⟩:=R;dsimp only at c1 |-;simp only [af.cells,aY.cells,hk] at c1;simp only [af.cells] at c0 |-;simp only [aY.cells,hk];refine aU 227 2 [.cell 4 42,.cell 5 66] mixed Tryz.func26 ?_;simp -implicitDefEqProofs only [go_sem,seval];(with_reducible and_intros)<;>first|exact .dq|omega|skip
 refine aa.pure c0 ?_;simp -implicitDefEqProofs only [go_sem,seval];(with_reducible and_intros)<;>first|exact .dq|omega|skip
 refine aa.gen [] [112] false (by simp) ?_;simp -implicitDefEqProofs only [go_sem,seval];refine bg.intro c1 ?_;simp -implicitDefEqProofs only [go_sem,seval];(with_reducible and_intros)<;>first|exact .dq|omega|skip
 by_cases q:e=0
 ·have d:(e==0)=true:=by simpa using q
  simp only [br,if_pos q];simp -implicitDefEqProofs only [go_sem,seval,bne,d];(with_reducible and_intros)<;>first|exact .dq|omega|skip
  all_goals simp [pl]
 ·have d:(e==0)=false:=by simpa using q
  simp only [br,if_neg q];simp -implicitDefEqProofs only [go_sem,seval,bne,d];(with_reducible and_intros)<;>first|exact .dq|omega|skip
  refine aa.pure (hno e) ?_;simp -implicitDefEqProofs only [go_sem,seval];(with_reducible and_intros)<;>first|exact .dq|omega|skip
  all_goals simp [aW.err]
theorem Xy (s:af) (c:aY) (h:s.good) (hk:c.kind=7):Abs.Spec Tryz.prog 26 [] [.agg s.cells,.agg c.cells] [] (.bD [.agg (aQ s c).1.cells,.agg (aQ s c).2.cells]):=by
 have hno:=fun e=>bC e
 have c0:=aP s h.small;have hM:aQ s c=br s ((jU s c (n9 c)).1,(jU s c (n9 c)).2,0,0,[],[]):=by unfold aQ;congr 1;simp [fk,hk]
 rw [hM];clear hM;have c1:=pY s c h;obtain ⟨R,hR⟩:=aO (jU s c (n9 c));rw [<- hR] at c1 |-;clear hR;obtain ⟨T,e⟩:=R;dsimp only at c1 |-;simp only [af.cells,aY.cells,hk] at c1;simp only [af.cells] at c0 |-;simp only [aY.cells,hk];refine aU 227 2 [.cell 4 42,.cell 5 66] mixed Tryz.func26 ?_;simp -implicitDefEqProofs only [go_sem,seval];(with_reducible and_intros)<;>first|exact .dq|omega|skip
 refine aa.pure c0 ?_;simp -implicitDefEqProofs only [go_sem,seval];(with_reducible and_intros)<;>first|exact .dq|omega|skip
 refine aa.gen [] [112] false (by simp) ?_;simp -implicitDefEqProofs only [go_sem,seval];refine bg.intro c1 ?_;simp -implicitDefEqProofs only [go_sem,seval];(with_reducible and_intros)<;>first|exact .dq|omega|skip
 by_cases q:e=0
 ·have d:(e==0)=true:=by simpa using q
  simp only [br,if_pos q];simp -implicitDefEqProofs only [go_sem,seval,bne,d];(with_reducible and_intros)<;>first|exact .dq|omega|skip
  all_goals simp [pl]
 ·have d:(e==0)=false:=by simpa using q
  simp only [br,if_neg q];simp -implicitDefEqProofs only [go_sem,seval,bne,d];(with_reducible and_intros)<;>first|exact .dq|omega|skip
  refine aa.pure (hno e) ?_;simp -implicitDefEqProofs only [go_sem,seval];(with_reducible and_intros)<;>first|exact .dq|omega|skip
  all_goals simp [aW.err]
theorem Wj (s:af) (c:aY) (h:s.good) (hk:c.kind=9):Abs.Spec Tryz.prog 26 [] [.agg s.cells,.agg c.cells] [] (.bD [.agg (aQ s c).1.cells,.agg (aQ s c).2.cells]):=by
 have hno:=fun e=>bC e
 have c0:=aP s h.small;have hM:aQ s c=br s (if within c.cur 0 2&&within c.bX 1 4611686018427387904 then (kf s (bP ⟨1,0,c.cur⟩ ⟨4,0,c.cur⟩ c.bX),rV s (bP ⟨1,0,c.cur⟩ ⟨4,0,c.cur⟩ c.bX),0,0,[],[]) else (s,3,0,0,[],[])):=by unfold aQ;congr 1;simp [fk,hk]
 rw [hM];clear hM;have a1:=fH c.cur;have a2:=gf c.bX 1 4611686018427387904;have a3:=gy 1 0 c.cur;have a4:=gy 4 0 c.cur;have a5:=iu ⟨1,0,c.cur⟩ ⟨4,0,c.cur⟩ c.bX;have c1:=iS s (bP ⟨1,0,c.cur⟩ ⟨4,0,c.cur⟩ c.bX) h.small.bE h.dz.bs (by simp [bP]);obtain ⟨g,hg⟩:=aO (bP ⟨1,0,c.cur⟩ ⟨4,0,c.cur⟩ c.bX);rw [<- hg] at a5 c1 |-;clear hg;obtain ⟨T,hT⟩:=aO (kf s g);obtain ⟨e,he⟩:=aO (rV s g);rw [<- hT,<- he] at c1 |-;clear hT he;simp only [af.cells] at c1;simp only [aJ.cells] at a5;simp only [af.cells] at c0 |-;simp only [aY.cells,hk];refine aU 227 2 [.cell 4 42,.cell 5 66] mixed Tryz.func26 ?_;simp -implicitDefEqProofs only [go_sem,seval];(with_reducible and_intros)<;>first|exact .dq|omega|skip
 refine aa.pure c0 ?_;simp -implicitDefEqProofs only [go_sem,seval];(with_reducible and_intros)<;>first|exact .dq|omega|skip
 refine aa.pure a1 ?_;cases b1:within c.cur 0 2
 ·rw [Bool.false_and,if_neg (by decide)];simp only [br,if_neg (show ¬ (3:Int)=0 by decide)];simp -implicitDefEqProofs only [go_sem,seval];(with_reducible and_intros)<;>first|exact .dq|omega|skip
  refine aa.pure (hno 3) ?_;simp -implicitDefEqProofs only [go_sem,seval];(with_reducible and_intros)<;>first|exact .dq|omega|skip
  all_goals simp [aW.err]
 simp -implicitDefEqProofs only [go_sem,seval];(with_reducible and_intros)<;>first|exact .dq|omega|skip
 refine aa.pure a2 ?_;cases b2:within c.bX 1 4611686018427387904
 ·rw [if_neg (by decide)];simp only [br,if_neg (show ¬ (3:Int)=0 by decide)];simp -implicitDefEqProofs only [go_sem,seval];(with_reducible and_intros)<;>first|exact .dq|omega|skip
  refine aa.pure (hno 3) ?_;simp -implicitDefEqProofs only [go_sem,seval];(with_reducible and_intros)<;>first|exact .dq|omega|skip
  all_goals simp [aW.err]
 rw [if_pos rfl];simp -implicitDefEqProofs only [go_sem,seval];(with_reducible and_intros)<;>first|exact .dq|omega|skip
 refine aa.pure a3 ?_;simp -implicitDefEqProofs only [go_sem,seval];(with_reducible and_intros)<;>first|exact .dq|omega|skip
 refine aa.pure a4 ?_;simp -implicitDefEqProofs only [go_sem,seval];(with_reducible and_intros)<;>first|exact .dq|omega|skip
 refine aa.pure a5 ?_;simp -implicitDefEqProofs only [go_sem,seval];(with_reducible and_intros)<;>first|exact .dq|omega|skip
 refine aa.gen [] [112] false (by simp) ?_;simp -implicitDefEqProofs only [go_sem,seval];refine bg.intro c1 ?_;simp -implicitDefEqProofs only [go_sem,seval];(with_reducible and_intros)<;>first|exact .dq|omega|skip
 by_cases q:e=0
 ·have d:(e==0)=true:=by simpa using q
  simp only [br,if_pos q];simp -implicitDefEqProofs only [go_sem,seval,bne,d];(with_reducible and_intros)<;>first|exact .dq|omega|skip
  all_goals simp [pl]
 ·have d:(e==0)=false:=by simpa using q
  simp only [br,if_neg q];simp -implicitDefEqProofs only [go_sem,seval,bne,d];(with_reducible and_intros)<;>first|exact .dq|omega|skip
  refine aa.pure (hno e) ?_;simp -implicitDefEqProofs only [go_sem,seval];(with_reducible and_intros)<;>first|exact .dq|omega|skip
  all_goals simp [aW.err]
theorem Tf (s:af) (c:aY) (h:s.good) (hk:c.kind=10):Abs.Spec Tryz.prog 26 [] [.agg s.cells,.agg c.cells] [] (.bD [.agg (aQ s c).1.cells,.agg (aQ s c).2.cells]):=by
 have hno:=fun e=>bC e
 have c0:=aP s h.small;have hM:aQ s c=br s (if s.phase=0 then ((iT s c).1,(iT s c).2.2,(iT s c).2.1,0,[],[]) else (s,15,0,0,[],[])):=by unfold aQ;congr 1;simp [fk,hk]
 rw [hM];clear hM;have c1:=je s c h;obtain ⟨R,hR⟩:=aO (iT s c);rw [<- hR] at c1 |-;clear hR;obtain ⟨T,no,e⟩:=R;dsimp only at c1 |-;simp only [af.cells,aY.cells,hk] at c1;simp only [af.cells] at c0 |-;simp only [aY.cells,hk];refine aU 227 2 [.cell 4 42,.cell 5 66] mixed Tryz.func26 ?_;simp -implicitDefEqProofs only [go_sem,seval];(with_reducible and_intros)<;>first|exact .dq|omega|skip
 refine aa.pure c0 ?_;simp -implicitDefEqProofs only [go_sem,seval];(with_reducible and_intros)<;>first|exact .dq|omega|skip
 by_cases b1:s.phase=0
 case neg =>
  have d:(s.phase==0)=false:=by simpa using b1
  rw [if_neg b1];simp only [br,if_neg (show ¬ (15:Int)=0 by decide)];simp -implicitDefEqProofs only [go_sem,seval,bne,d];(with_reducible and_intros)<;>first|exact .dq|omega|skip
  refine aa.pure (hno 15) ?_;simp -implicitDefEqProofs only [go_sem,seval];(with_reducible and_intros)<;>first|exact .dq|omega|skip
  all_goals simp [aW.err]
 have d1:(s.phase==0)=true:=by simpa using b1
 rw [if_pos b1];simp -implicitDefEqProofs only [go_sem,seval,bne,d1];(with_reducible and_intros)<;>first|exact .dq|omega|skip
 refine aa.gen [] [112] false (by simp) ?_;simp -implicitDefEqProofs only [go_sem,seval];refine bg.intro c1 ?_;simp -implicitDefEqProofs only [go_sem,seval];(with_reducible and_intros)<;>first|exact .dq|omega|skip
 by_cases q:e=0
 ·have d:(e==0)=true:=by simpa using q
  simp only [br,if_pos q];simp -implicitDefEqProofs only [go_sem,seval,bne,d];(with_reducible and_intros)<;>first|exact .dq|omega|skip
  all_goals simp [pl]
 ·have d:(e==0)=false:=by simpa using q
  simp only [br,if_neg q];simp -implicitDefEqProofs only [go_sem,seval,bne,d];(with_reducible and_intros)<;>first|exact .dq|omega|skip
  refine aa.pure (hno e) ?_;simp -implicitDefEqProofs only [go_sem,seval];(with_reducible and_intros)<;>first|exact .dq|omega|skip
  all_goals simp [aW.err]
theorem Si (s:af) (c:aY) (h:s.good) (hk:c.kind=11):Abs.Spec Tryz.prog 26 [] [.agg s.cells,.agg c.cells] [] (.bD [.agg (aQ s c).1.cells,.agg (aQ s c).2.cells]):=by
 have hno:=fun e=>bC e
 have c0:=aP s h.small;have hM:aQ s c=br s (if s.phase=0 then ((iT s c).1,(iT s c).2.2,(iT s c).2.1,0,[],[]) else (s,15,0,0,[],[])):=by unfold aQ;congr 1;simp [fk,hk]
 rw [hM];clear hM;have c1:=je s c h;obtain ⟨R,hR⟩:=aO (iT s c);rw [<- hR] at c1 |-;clear hR;obtain ⟨T,no,e⟩:=R;dsimp only at c1 |-;simp only [af.cells,aY.cells,hk] at c1;simp only [af.cells] at c0 |-;simp only [aY.cells,hk];refine aU 227 2 [.cell 4 42,.cell 5 66] mixed Tryz.func26 ?_;simp -implicitDefEqProofs only [go_sem,seval];(with_reducible and_intros)<;>first|exact .dq|omega|skip
 refine aa.pure c0 ?_;simp -implicitDefEqProofs only [go_sem,seval];(with_reducible and_intros)<;>first|exact .dq|omega|skip
 by_cases b1:s.phase=0
 case neg =>
  have d:(s.phase==0)=false:=by simpa using b1
  rw [if_neg b1];simp only [br,if_neg (show ¬ (15:Int)=0 by decide)];simp -implicitDefEqProofs only [go_sem,seval,bne,d];(with_reducible and_intros)<;>first|exact .dq|omega|skip
  refine aa.pure (hno 15) ?_;simp -implicitDefEqProofs only [go_sem,seval];(with_reducible and_intros)<;>first|exact .dq|omega|skip
  all_goals simp [aW.err]
 have d1:(s.phase==0)=true:=by simpa using b1
 rw [if_pos b1];simp -implicitDefEqProofs only [go_sem,seval,bne,d1];(with_reducible and_intros)<;>first|exact .dq|omega|skip
 refine aa.gen [] [112] false (by simp) ?_;simp -implicitDefEqProofs only [go_sem,seval];refine bg.intro c1 ?_;simp -implicitDefEqProofs only [go_sem,seval];(with_reducible and_intros)<;>first|exact .dq|omega|skip
 by_cases q:e=0
 ·have d:(e==0)=true:=by simpa using q
  simp only [br,if_pos q];simp -implicitDefEqProofs only [go_sem,seval,bne,d];(with_reducible and_intros)<;>first|exact .dq|omega|skip
  all_goals simp [pl]
 ·have d:(e==0)=false:=by simpa using q
  simp only [br,if_neg q];simp -implicitDefEqProofs only [go_sem,seval,bne,d];(with_reducible and_intros)<;>first|exact .dq|omega|skip
  refine aa.pure (hno e) ?_;simp -implicitDefEqProofs only [go_sem,seval];(with_reducible and_intros)<;>first|exact .dq|omega|skip
  all_goals simp [aW.err]
theorem TC (s:af) (c:aY) (h:s.good) (hk:c.kind=12):Abs.Spec Tryz.prog 26 [] [.agg s.cells,.agg c.cells] [] (.bD [.agg (aQ s c).1.cells,.agg (aQ s c).2.cells]):=by
 have hno:=fun e=>bC e
 have c0:=aP s h.small;have hM:aQ s c=br s (if s.phase=0 then ((iT s c).1,(iT s c).2.2,(iT s c).2.1,0,[],[]) else (s,15,0,0,[],[])):=by unfold aQ;congr 1;simp [fk,hk]
 rw [hM];clear hM;have c1:=je s c h;obtain ⟨R,hR⟩:=aO (iT s c);rw [<- hR] at c1 |-;clear hR;obtain ⟨T,no,e⟩:=R;dsimp only at c1 |-;simp only [af.cells,aY.cells,hk] at c1;simp only [af.cells] at c0 |-;simp only [aY.cells,hk];refine aU 227 2 [.cell 4 42,.cell 5 66] mixed Tryz.func26 ?_;simp -implicitDefEqProofs only [go_sem,seval];(with_reducible and_intros)<;>first|exact .dq|omega|skip
 refine aa.pure c0 ?_;simp -implicitDefEqProofs only [go_sem,seval];(with_reducible and_intros)<;>first|exact .dq|omega|skip
 by_cases b1:s.phase=0
 case neg =>
  have d:(s.phase==0)=false:=by simpa using b1
  rw [if_neg b1];simp only [br,if_neg (show ¬ (15:Int)=0 by decide)];simp -implicitDefEqProofs only [go_sem,seval,bne,d];(with_reducible and_intros)<;>first|exact .dq|omega|skip
  refine aa.pure (hno 15) ?_;simp -implicitDefEqProofs only [go_sem,seval];(with_reducible and_intros)<;>first|exact .dq|omega|skip
  all_goals simp [aW.err]
 have d1:(s.phase==0)=true:=by simpa using b1
 rw [if_pos b1];simp -implicitDefEqProofs only [go_sem,seval,bne,d1];(with_reducible and_intros)<;>first|exact .dq|omega|skip
 refine aa.gen [] [112] false (by simp) ?_;simp -implicitDefEqProofs only [go_sem,seval];refine bg.intro c1 ?_;simp -implicitDefEqProofs only [go_sem,seval];(with_reducible and_intros)<;>first|exact .dq|omega|skip
 by_cases q:e=0
 ·have d:(e==0)=true:=by simpa using q
  simp only [br,if_pos q];simp -implicitDefEqProofs only [go_sem,seval,bne,d];(with_reducible and_intros)<;>first|exact .dq|omega|skip
  all_goals simp [pl]
 ·have d:(e==0)=false:=by simpa using q
  simp only [br,if_neg q];simp -implicitDefEqProofs only [go_sem,seval,bne,d];(with_reducible and_intros)<;>first|exact .dq|omega|skip
  refine aa.pure (hno e) ?_;simp -implicitDefEqProofs only [go_sem,seval];(with_reducible and_intros)<;>first|exact .dq|omega|skip
  all_goals simp [aW.err]
theorem TI (s:af) (c:aY) (h:s.good) (hk:c.kind=13):Abs.Spec Tryz.prog 26 [] [.agg s.cells,.agg c.cells] [] (.bD [.agg (aQ s c).1.cells,.agg (aQ s c).2.cells]):=by
 have hno:=fun e=>bC e
 have c0:=aP s h.small;have hM:aQ s c=br s (if s.phase=0 then ((iT s c).1,(iT s c).2.2,(iT s c).2.1,0,[],[]) else (s,15,0,0,[],[])):=by unfold aQ;congr 1;simp [fk,hk]
 rw [hM];clear hM;have c1:=je s c h;obtain ⟨R,hR⟩:=aO (iT s c);rw [<- hR] at c1 |-;clear hR;obtain ⟨T,no,e⟩:=R;dsimp only at c1 |-;simp only [af.cells,aY.cells,hk] at c1;simp only [af.cells] at c0 |-;simp only [aY.cells,hk];refine aU 227 2 [.cell 4 42,.cell 5 66] mixed Tryz.func26 ?_;simp -implicitDefEqProofs only [go_sem,seval];(with_reducible and_intros)<;>first|exact .dq|omega|skip
 refine aa.pure c0 ?_;simp -implicitDefEqProofs only [go_sem,seval];(with_reducible and_intros)<;>first|exact .dq|omega|skip
 by_cases b1:s.phase=0
 case neg =>
  have d:(s.phase==0)=false:=by simpa using b1
  rw [if_neg b1];simp only [br,if_neg (show ¬ (15:Int)=0 by decide)];simp -implicitDefEqProofs only [go_sem,seval,bne,d];(with_reducible and_intros)<;>first|exact .dq|omega|skip
  refine aa.pure (hno 15) ?_;simp -implicitDefEqProofs only [go_sem,seval];(with_reducible and_intros)<;>first|exact .dq|omega|skip
  all_goals simp [aW.err]
 have d1:(s.phase==0)=true:=by simpa using b1
 rw [if_pos b1];simp -implicitDefEqProofs only [go_sem,seval,bne,d1];(with_reducible and_intros)<;>first|exact .dq|omega|skip
 refine aa.gen [] [112] false (by simp) ?_;simp -implicitDefEqProofs only [go_sem,seval];refine bg.intro c1 ?_;simp -implicitDefEqProofs only [go_sem,seval];(with_reducible and_intros)<;>first|exact .dq|omega|skip
 by_cases q:e=0
 ·have d:(e==0)=true:=by simpa using q
  simp only [br,if_pos q];simp -implicitDefEqProofs only [go_sem,seval,bne,d];(with_reducible and_intros)<;>first|exact .dq|omega|skip
  all_goals simp [pl]
 ·have d:(e==0)=false:=by simpa using q
  simp only [br,if_neg q];simp -implicitDefEqProofs only [go_sem,seval,bne,d];(with_reducible and_intros)<;>first|exact .dq|omega|skip
  refine aa.pure (hno e) ?_;simp -implicitDefEqProofs only [go_sem,seval];(with_reducible and_intros)<;>first|exact .dq|omega|skip
  all_goals simp [aW.err]
theorem Se (s:af) (c:aY) (h:s.good) (hk:c.kind=14):Abs.Spec Tryz.prog 26 [] [.agg s.cells,.agg c.cells] [] (.bD [.agg (aQ s c).1.cells,.agg (aQ s c).2.cells]):=by
 have hno:=fun e=>bC e
 have c0:=aP s h.small;have hM:aQ s c=br s (jB s,gL s,0,0,oR s,[]):=by unfold aQ;congr 1;simp [fk,hk]
 rw [hM];clear hM;have c1:=CF s h.small h.dz h.qs;obtain ⟨T,hT⟩:=aO (jB s);obtain ⟨e,he⟩:=aO (gL s);obtain ⟨ds,hds⟩:∃ l,l=oR s:=⟨_,rfl⟩
 rw [<- hT,<- he,<- hds] at c1 |-;clear hT he hds;simp only [af.cells] at c1;simp only [af.cells] at c0 |-;simp only [aY.cells,hk];refine aU 227 2 [.cell 4 42,.cell 5 66] mixed Tryz.func26 ?_;simp -implicitDefEqProofs only [go_sem,seval];(with_reducible and_intros)<;>first|exact .dq|omega|skip
 refine aa.pure c0 ?_;simp -implicitDefEqProofs only [go_sem,seval];(with_reducible and_intros)<;>first|exact .dq|omega|skip
 refine aa.pure c1 ?_;simp -implicitDefEqProofs only [go_sem,seval];(with_reducible and_intros)<;>first|exact .dq|omega|skip
 by_cases q:e=0
 ·have d:(e==0)=true:=by simpa using q
  simp only [br,if_pos q];simp -implicitDefEqProofs only [go_sem,seval,bne,d];(with_reducible and_intros)<;>first|exact .dq|omega|skip
  all_goals simp [pl]
 ·have d:(e==0)=false:=by simpa using q
  simp only [br,if_neg q];simp -implicitDefEqProofs only [go_sem,seval,bne,d];(with_reducible and_intros)<;>first|exact .dq|omega|skip
  refine aa.pure (hno e) ?_;simp -implicitDefEqProofs only [go_sem,seval];(with_reducible and_intros)<;>first|exact .dq|omega|skip
  all_goals simp [aW.err]
theorem Sd (s:af) (c:aY) (h:s.good) (hk:c.kind=15):Abs.Spec Tryz.prog 26 [] [.agg s.cells,.agg c.cells] [] (.bD [.agg (aQ s c).1.cells,.agg (aQ s c).2.cells]):=by
 have hno:=fun e=>bC e
 have c0:=aP s h.small;have hM:aQ s c=br s (jg s,iC s,0,0,m9 s,[]):=by unfold aQ;congr 1;simp [fk,hk]
 rw [hM];clear hM;have c1:=wQ s h.small h.dz h.bs (by have:=h.ps;omega);obtain ⟨T,hT⟩:=aO (jg s);obtain ⟨e,he⟩:=aO (iC s);obtain ⟨ds,hds⟩:∃ l,l=m9 s:=⟨_,rfl⟩
 rw [<- hT,<- he,<- hds] at c1 |-;clear hT he hds;simp only [af.cells] at c1;simp only [af.cells] at c0 |-;simp only [aY.cells,hk];refine aU 227 2 [.cell 4 42,.cell 5 66] mixed Tryz.func26 ?_;simp -implicitDefEqProofs only [go_sem,seval];(with_reducible and_intros)<;>first|exact .dq|omega|skip
 refine aa.pure c0 ?_;simp -implicitDefEqProofs only [go_sem,seval];(with_reducible and_intros)<;>first|exact .dq|omega|skip
 refine aa.pure c1 ?_;simp -implicitDefEqProofs only [go_sem,seval];(with_reducible and_intros)<;>first|exact .dq|omega|skip
 by_cases q:e=0
 ·have d:(e==0)=true:=by simpa using q
  simp only [br,if_pos q];simp -implicitDefEqProofs only [go_sem,seval,bne,d];(with_reducible and_intros)<;>first|exact .dq|omega|skip
  all_goals simp [pl]
 ·have d:(e==0)=false:=by simpa using q
  simp only [br,if_neg q];simp -implicitDefEqProofs only [go_sem,seval,bne,d];(with_reducible and_intros)<;>first|exact .dq|omega|skip
  refine aa.pure (hno e) ?_;simp -implicitDefEqProofs only [go_sem,seval];(with_reducible and_intros)<;>first|exact .dq|omega|skip
  all_goals simp [aW.err]
theorem Tm (s:af) (c:aY) (h:s.good) (hk:c.kind=16):Abs.Spec Tryz.prog 26 [] [.agg s.cells,.agg c.cells] [] (.bD [.agg (aQ s c).1.cells,.agg (aQ s c).2.cells]):=by
 have hno:=fun e=>bC e
 have c0:=aP s h.small;have hM:aQ s c=br s (rA s,rL s,0,0,[],[]):=by unfold aQ;congr 1;simp [fk,hk]
 rw [hM];clear hM;have c1:=zZ s h.small h.dz;obtain ⟨T,hT⟩:=aO (rA s);obtain ⟨e,he⟩:=aO (rL s);rw [<- hT,<- he] at c1 |-;clear hT he;simp only [af.cells] at c1;simp only [af.cells] at c0 |-;simp only [aY.cells,hk];refine aU 227 2 [.cell 4 42,.cell 5 66] mixed Tryz.func26 ?_;simp -implicitDefEqProofs only [go_sem,seval];(with_reducible and_intros)<;>first|exact .dq|omega|skip
 refine aa.pure c0 ?_;simp -implicitDefEqProofs only [go_sem,seval];(with_reducible and_intros)<;>first|exact .dq|omega|skip
 refine aa.pure c1 ?_;simp -implicitDefEqProofs only [go_sem,seval];(with_reducible and_intros)<;>first|exact .dq|omega|skip
 by_cases q:e=0
 ·have d:(e==0)=true:=by simpa using q
  simp only [br,if_pos q];simp -implicitDefEqProofs only [go_sem,seval,bne,d];(with_reducible and_intros)<;>first|exact .dq|omega|skip
  all_goals simp [pl]
 ·have d:(e==0)=false:=by simpa using q
  simp only [br,if_neg q];simp -implicitDefEqProofs only [go_sem,seval,bne,d];(with_reducible and_intros)<;>first|exact .dq|omega|skip
  refine aa.pure (hno e) ?_;simp -implicitDefEqProofs only [go_sem,seval];(with_reducible and_intros)<;>first|exact .dq|omega|skip
  all_goals simp [aW.err]
theorem Sj (s:af) (c:aY) (h:s.good) (hk:c.kind=17):Abs.Spec Tryz.prog 26 [] [.agg s.cells,.agg c.cells] [] (.bD [.agg (aQ s c).1.cells,.agg (aQ s c).2.cells]):=by
 have hno:=fun e=>bC e
 have c0:=aP s h.small;have hM:aQ s c=br s (cE s c.bX,dL s c.bX,0,0,jk s c.bX,[]):=by unfold aQ;congr 1;simp [fk,hk]
 rw [hM];clear hM;have c1:=GV s c.bX h.small h.dz;obtain ⟨T,hT⟩:=aO (cE s c.bX);obtain ⟨e,he⟩:=aO (dL s c.bX);obtain ⟨ds,hds⟩:∃ l,l=jk s c.bX:=⟨_,rfl⟩
 rw [<- hT,<- he,<- hds] at c1 |-;clear hT he hds;simp only [af.cells] at c1;simp only [af.cells] at c0 |-;simp only [aY.cells,hk];refine aU 227 2 [.cell 4 42,.cell 5 66] mixed Tryz.func26 ?_;simp -implicitDefEqProofs only [go_sem,seval];(with_reducible and_intros)<;>first|exact .dq|omega|skip
 refine aa.pure c0 ?_;simp -implicitDefEqProofs only [go_sem,seval];(with_reducible and_intros)<;>first|exact .dq|omega|skip
 refine aa.pure c1 ?_;simp -implicitDefEqProofs only [go_sem,seval];(with_reducible and_intros)<;>first|exact .dq|omega|skip
 by_cases q:e=0
 ·have d:(e==0)=true:=by simpa using q
  simp only [br,if_pos q];simp -implicitDefEqProofs only [go_sem,seval,bne,d];(with_reducible and_intros)<;>first|exact .dq|omega|skip
  all_goals simp [pl]
 ·have d:(e==0)=false:=by simpa using q
  simp only [br,if_neg q];simp -implicitDefEqProofs only [go_sem,seval,bne,d];(with_reducible and_intros)<;>first|exact .dq|omega|skip
  refine aa.pure (hno e) ?_;simp -implicitDefEqProofs only [go_sem,seval];(with_reducible and_intros)<;>first|exact .dq|omega|skip
  all_goals simp [aW.err]
theorem SO (s:af) (c:aY) (h:s.good) (hk:c.kind=18):Abs.Spec Tryz.prog 26 [] [.agg s.cells,.agg c.cells] [] (.bD [.agg (aQ s c).1.cells,.agg (aQ s c).2.cells]):=by
 have hno:=fun e=>bC e
 have c0:=Kr s h.small;have hM:aQ s c=br s ((qt s c).1,(qt s c).2,0,0,[],[]):=by unfold aQ;congr 1;simp [fk,hk]
 rw [hM];clear hM;have c1:=Ed s c h;obtain ⟨R,hR⟩:=aO (qt s c);rw [<- hR] at c1 |-;clear hR;obtain ⟨T,e⟩:=R;dsimp only at c1 |-;simp only [af.cells,af.va,aY.cells,hk] at c1 c0;simp only [af.cells];simp only [aY.cells,hk];refine aU 227 2 [.cell 4 42,.cell 5 66] mixed Tryz.func26 ?_;simp -implicitDefEqProofs only [go_sem,seval];(with_reducible and_intros)<;>first|exact .dq|omega|skip
 refine aa.gen [] [] false (by simp) ?_;simp -implicitDefEqProofs only [go_sem,seval];refine bg.intro c0 ?_;simp -implicitDefEqProofs only [go_sem,seval];(with_reducible and_intros)<;>first|exact .dq|omega|skip
 refine aa.gen [] [112,200] false (by simp) ?_;simp -implicitDefEqProofs only [go_sem,seval];refine bg.intro c1 ?_;simp -implicitDefEqProofs only [go_sem,seval];(with_reducible and_intros)<;>first|exact .dq|omega|skip
 by_cases q:e=0
 ·have d:(e==0)=true:=by simpa using q
  simp only [br,if_pos q];simp -implicitDefEqProofs only [go_sem,seval,bne,d];(with_reducible and_intros)<;>first|exact .dq|omega|skip
  all_goals simp [pl]
 ·have d:(e==0)=false:=by simpa using q
  simp only [br,if_neg q];simp -implicitDefEqProofs only [go_sem,seval,bne,d];(with_reducible and_intros)<;>first|exact .dq|omega|skip
  refine aa.pure (hno e) ?_;simp -implicitDefEqProofs only [go_sem,seval];(with_reducible and_intros)<;>first|exact .dq|omega|skip
  all_goals simp [aW.err]
theorem SX (s:af) (c:aY) (h:s.good) (hk:c.kind=19):Abs.Spec Tryz.prog 26 [] [.agg s.cells,.agg c.cells] [] (.bD [.agg (aQ s c).1.cells,.agg (aQ s c).2.cells]):=by
 have hno:=fun e=>bC e
 have c0:=aP s h.small;have hM:aQ s c=br s (lz s c.who,ur s c.who,0,0,G7 s c.who,He s c.who):=by unfold aQ;congr 1;simp [fk,hk]
 rw [hM];clear hM;have c1:=JL s c.who h.small h.dz h.ms h.qs h.aT h.bs;obtain ⟨T,hT⟩:=aO (lz s c.who);obtain ⟨e,he⟩:=aO (ur s c.who);obtain ⟨ds,hds⟩:∃ l,l=G7 s c.who:=⟨_,rfl⟩
 obtain ⟨fs,hfs⟩:∃ l,l=He s c.who:=⟨_,rfl⟩
 rw [<- hT,<- he,<- hds,<- hfs] at c1 |-;clear hT he hds hfs;simp only [af.cells] at c1;simp only [af.cells] at c0 |-;simp only [aY.cells,hk];refine aU 227 2 [.cell 4 42,.cell 5 66] mixed Tryz.func26 ?_;simp -implicitDefEqProofs only [go_sem,seval];(with_reducible and_intros)<;>first|exact .dq|omega|skip
 refine aa.pure c0 ?_;simp -implicitDefEqProofs only [go_sem,seval];(with_reducible and_intros)<;>first|exact .dq|omega|skip
 refine aa.pure c1 ?_;simp -implicitDefEqProofs only [go_sem,seval];(with_reducible and_intros)<;>first|exact .dq|omega|skip
 by_cases q:e=0
 ·have d:(e==0)=true:=by simpa using q
  simp only [br,if_pos q];simp -implicitDefEqProofs only [go_sem,seval,bne,d];(with_reducible and_intros)<;>first|exact .dq|omega|skip
  all_goals simp [pl]
 ·have d:(e==0)=false:=by simpa using q
  simp only [br,if_neg q];simp -implicitDefEqProofs only [go_sem,seval,bne,d];(with_reducible and_intros)<;>first|exact .dq|omega|skip
  refine aa.pure (hno e) ?_;simp -implicitDefEqProofs only [go_sem,seval];(with_reducible and_intros)<;>first|exact .dq|omega|skip
  all_goals simp [aW.err]
theorem Sf (s:af) (c:aY) (h:s.good) (hk:c.kind=20):Abs.Spec Tryz.prog 26 [] [.agg s.cells,.agg c.cells] [] (.bD [.agg (aQ s c).1.cells,.agg (aQ s c).2.cells]):=by
 have hno:=fun e=>bC e
 have c0:=aP s h.small;have hM:aQ s c=br s ((j0 3 0 s []).1,(j0 3 0 s []).2.2,0,0,(j0 3 0 s []).2.1,[]):=by unfold aQ;congr 1;simp [fk,hk]
 rw [hM];clear hM;have c1:=xV s h;obtain ⟨R,hR⟩:=aO (j0 3 0 s []);rw [<- hR] at c1 |-;clear hR;obtain ⟨T,ds,e⟩:=R;dsimp only at c1 |-;simp only [af.cells] at c1;simp only [af.cells] at c0 |-;simp only [aY.cells,hk];refine aU 227 2 [.cell 4 42,.cell 5 66] mixed Tryz.func26 ?_;simp -implicitDefEqProofs only [go_sem,seval];(with_reducible and_intros)<;>first|exact .dq|omega|skip
 refine aa.pure c0 ?_;simp -implicitDefEqProofs only [go_sem,seval];(with_reducible and_intros)<;>first|exact .dq|omega|skip
 refine aa.gen [] [112] false (by simp) ?_;simp -implicitDefEqProofs only [go_sem,seval];refine bg.intro c1 ?_;simp -implicitDefEqProofs only [go_sem,seval];(with_reducible and_intros)<;>first|exact .dq|omega|skip
 by_cases q:e=0
 ·have d:(e==0)=true:=by simpa using q
  simp only [br,if_pos q];simp -implicitDefEqProofs only [go_sem,seval,bne,d];(with_reducible and_intros)<;>first|exact .dq|omega|skip
  all_goals simp [pl]
 ·have d:(e==0)=false:=by simpa using q
  simp only [br,if_neg q];simp -implicitDefEqProofs only [go_sem,seval,bne,d];(with_reducible and_intros)<;>first|exact .dq|omega|skip
  refine aa.pure (hno e) ?_;simp -implicitDefEqProofs only [go_sem,seval];(with_reducible and_intros)<;>first|exact .dq|omega|skip
  all_goals simp [aW.err]
theorem TV (s:af) (c:aY) (h:s.good) (hk:c.kind=21):Abs.Spec Tryz.prog 26 [] [.agg s.cells,.agg c.cells] [] (.bD [.agg (aQ s c).1.cells,.agg (aQ s c).2.cells]):=by
 have hno:=fun e=>bC e
 have c0:=aP s h.small;have hM:aQ s c=br s (if aJ.right ⟨c.no,c.who,c.cur⟩ then (s,0,0,gG ⟨c.no,c.who,c.cur⟩ s.bE.bs,[],[]) else (s,3,0,0,[],[])):=by unfold aQ;congr 1;simp [fk,hk]
 rw [hM];clear hM;have a1:=gy c.no c.who c.cur;have a2:=fL ⟨c.no,c.who,c.cur⟩;have a3:=jQ s.bE ⟨c.no,c.who,c.cur⟩ h.small.bE;simp only [aJ.cells] at a2 a3;simp only [bn.cells] at a3;simp only [af.cells] at c0 |-;simp only [aY.cells,hk];refine aU 227 2 [.cell 4 42,.cell 5 66] mixed Tryz.func26 ?_;simp -implicitDefEqProofs only [go_sem,seval];(with_reducible and_intros)<;>first|exact .dq|omega|skip
 refine aa.pure c0 ?_;simp -implicitDefEqProofs only [go_sem,seval];(with_reducible and_intros)<;>first|exact .dq|omega|skip
 refine aa.pure a1 ?_;simp -implicitDefEqProofs only [go_sem,seval];(with_reducible and_intros)<;>first|exact .dq|omega|skip
 refine aa.pure a2 ?_;cases b1:aJ.right ⟨c.no,c.who,c.cur⟩
 ·rw [if_neg (by decide)];simp only [br,if_neg (show ¬ (3:Int)=0 by decide)];simp -implicitDefEqProofs only [go_sem,seval];(with_reducible and_intros)<;>first|exact .dq|omega|skip
  refine aa.pure (hno 3) ?_;simp -implicitDefEqProofs only [go_sem,seval];(with_reducible and_intros)<;>first|exact .dq|omega|skip
  all_goals simp [aW.err]
 rw [if_pos rfl];simp -implicitDefEqProofs only [go_sem,seval];(with_reducible and_intros)<;>first|exact .dq|omega|skip
 refine aa.pure a1 ?_;simp -implicitDefEqProofs only [go_sem,seval];(with_reducible and_intros)<;>first|exact .dq|omega|skip
 refine aa.pure a3 ?_;simp only [br,if_pos (show (0:Int)=0 from rfl)];simp -implicitDefEqProofs only [go_sem,seval];(with_reducible and_intros)<;>first|exact .dq|omega|skip
 all_goals simp [pl]
theorem Sz (s:af) (c:aY) (h:s.good) (hk:c.kind=22):Abs.Spec Tryz.prog 26 [] [.agg s.cells,.agg c.cells] [] (.bD [.agg (aQ s c).1.cells,.agg (aQ s c).2.cells]):=by
 have hno:=fun e=>bC e
 have c0:=aP s h.small;have hM:aQ s c=br s (if ot c.who c.inst then (s,0,0,(posOf c.who c.inst s.book.qs).aX,[],[]) else (s,3,0,0,[],[])):=by unfold aQ;congr 1;simp [fk,hk]
 rw [hM];clear hM;have a1:=oF c.who c.inst;have a3:=mZ s.book c.who c.inst h.small.book;obtain ⟨y,hy⟩:=aO (posOf c.who c.inst s.book.qs);rw [<- hy] at a3 |-;clear hy;simp only [aG.cells,aA.cells] at a3;simp only [af.cells] at c0 |-;simp only [aY.cells,hk];refine aU 227 2 [.cell 4 42,.cell 5 66] mixed Tryz.func26 ?_;simp -implicitDefEqProofs only [go_sem,seval];(with_reducible and_intros)<;>first|exact .dq|omega|skip
 refine aa.pure c0 ?_;simp -implicitDefEqProofs only [go_sem,seval];(with_reducible and_intros)<;>first|exact .dq|omega|skip
 refine aa.pure a1 ?_;cases b1:ot c.who c.inst
 ·rw [if_neg (by decide)];simp only [br,if_neg (show ¬ (3:Int)=0 by decide)];simp -implicitDefEqProofs only [go_sem,seval];(with_reducible and_intros)<;>first|exact .dq|omega|skip
  refine aa.pure (hno 3) ?_;simp -implicitDefEqProofs only [go_sem,seval];(with_reducible and_intros)<;>first|exact .dq|omega|skip
  all_goals simp [aW.err]
 rw [if_pos rfl];simp -implicitDefEqProofs only [go_sem,seval];(with_reducible and_intros)<;>first|exact .dq|omega|skip
 refine aa.pure a3 ?_;simp only [br,if_pos (show (0:Int)=0 from rfl)];simp -implicitDefEqProofs only [go_sem,seval];(with_reducible and_intros)<;>first|exact .dq|omega|skip
 all_goals simp [pl]
end Go.Proofs.YtacacccbcndjoaaGreat
