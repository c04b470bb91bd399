/- The reference's engine: does, kinds 1 to 3, and what follows. No theorem of a claim. -/
import Derived.Test.YtnkobepdbkmedaaGreatKH
set_option linter.unusedSimpArgs false
set_option linter.unusedVariables false
set_option maxHeartbeats 4000000
set_option maxRecDepth 16000
namespace Go.Proofs.YtnkobepdbkmedaaGreat
open Go.Abs
def uT (c:aZ):aq:=⟨c.inst,c.cur,c.aV,c.bW,0,0,c.s0,c.s1,c.s2,c.s3,c.s4,c.s5⟩
def fj (s:af) (c:aZ):af × Int × Int × Int × List aN × List dM:=
 if c.kind=1 then ({ s with aj:=jJ s.aj c.who c.bW },iG s.aj c.who c.bW,0,0,[],[])
 else if c.kind=2 then ({ s with aj:=nW s.aj (uT c) },mz s.aj (uT c),0,0,[],[])
 else if c.kind=3 then ({ s with aj:=nT s.aj ⟨c.no,c.cur,c.aR,c.bW⟩ },mD s.aj ⟨c.no,c.cur,c.aR,c.bW⟩,0,0,[],[])
 else if c.kind=4\/c.kind=5\/c.kind=8 then ((nV s c).1,(nV s c).2,0,0,[],[])
 else if c.kind=6\/c.kind=7 then ((jY s c (n8 c)).1,(jY s c (n8 c)).2,0,0,[],[])
 else if c.kind=9 then (if within c.cur 0 2&&within c.bW 1 4611686018427387904 then (kF s (bN ⟨1,0,c.cur⟩ ⟨4,0,c.cur⟩ c.bW),sj s (bN ⟨1,0,c.cur⟩ ⟨4,0,c.cur⟩ c.bW),0,0,[],[]) else (s,3,0,0,[],[]))
 else if c.kind=10\/c.kind=11\/c.kind=12\/c.kind=13 then (if s.phase=0 then ((iK s c).1,(iK s c).2.2,(iK s c).2.1,0,[],[]) else (s,15,0,0,[],[]))
 else if c.kind=14 then (jB s,gP s,0,0,oO s,[])
 else if c.kind=15 then (iY s,iB s,0,0,mY s,[])
 else if c.kind=16 then (rT s,rS s,0,0,[],[])
 else if c.kind=17 then (gq s c.bW,oc s c.bW,0,0,wz s c.bW,[])
 else if c.kind=18 then ((p7 s c).1,(p7 s c).2,0,0,[],[])
 else if c.kind=19 then (lT s c.who,uv s c.who,0,0,FN s c.who,FU s c.who)
 else if c.kind=20 then ((j6 3 0 s []).1,(j6 3 0 s []).2.2,0,0,(j6 3 0 s []).2.1,[])
 else if c.kind=21 then (if aH.right ⟨c.no,c.who,c.cur⟩ then (s,0,0,gw ⟨c.no,c.who,c.cur⟩ s.aU.bs,[],[]) else (s,3,0,0,[],[]))
 else if c.kind=22 then (if oA c.who c.inst then (s,0,0,(posOf c.who c.inst s.book.qs).aV,[],[]) else (s,3,0,0,[],[]))
 else (s,0,0,0,[],[])
def bB (s:af) (m:af × Int × Int × Int × List aN × List dM):af × bk:=if m.2.1=0 then (m.1,⟨0,m.2.2.1,m.2.2.2.1,m.2.2.2.2.1,m.2.2.2.2.2⟩) else (s,.err m.2.1)
def aQ (s:af) (c:aZ):af × bk:=bB s (fj s c)
theorem VK (s:af) (c:aZ) (h:s.good) (hk:c.kind=1):Abs.Spec Tryz.prog 29 [] [.agg s.cells,.agg c.cells] [] (.bI [.agg (aQ s c).1.cells,.agg (aQ s c).2.cells]):=by
 have hno:=fun e=>bD e
 have c0:=aP s h.small;have hM:aQ s c=bB s ({ s with aj:=jJ s.aj c.who c.bW },iG s.aj c.who c.bW,0,0,[],[]):=by unfold aQ;congr 1;simp [fj,hk]
 rw [hM];clear hM;have c1:=DF s.aj c.who c.bW h.small.aj;obtain ⟨A,hA⟩:=aL (jJ s.aj c.who c.bW);obtain ⟨e,he⟩:=aL (iG s.aj c.who c.bW);rw [<- hA,<- he] at c1 |-;clear hA he;simp only [au.cells] at c1;simp only [af.cells] at c0 |-;simp only [aZ.cells,hk];refine bg 227 2 [.cell 4 42,.cell 5 67] mixed Tryz.func29 ?_;simp only [go_sem,seval];(with_reducible and_intros)<;>first|exact .dq|omega|skip
 refine aa.pure c0 ?_;simp only [go_sem,seval];(with_reducible and_intros)<;>first|exact .dq|omega|skip
 refine aa.pure c1 ?_;simp only [go_sem,seval];(with_reducible and_intros)<;>first|exact .dq|omega|skip
 by_cases q:e=0
 ·have d:(e==0)=true:=by simpa using q
  simp only [bB,if_pos q];simp only [go_sem,seval,bne,d];(with_reducible and_intros)<;>first|exact .dq|omega|skip
  all_goals simp [pl]
 ·have d:(e==0)=false:=by simpa using q
  simp only [bB,if_neg q];simp only [go_sem,seval,bne,d];(with_reducible and_intros)<;>first|exact .dq|omega|skip
  refine aa.pure (hno e) ?_;simp only [go_sem,seval];(with_reducible and_intros)<;>first|exact .dq|omega|skip
  all_goals simp [bk.err]
theorem WW (s:af) (c:aZ) (h:s.good) (hk:c.kind=2):Abs.Spec Tryz.prog 29 [] [.agg s.cells,.agg c.cells] [] (.bI [.agg (aQ s c).1.cells,.agg (aQ s c).2.cells]):=by
 have hno:=fun e=>bD e
 have c0:=aP s h.small;have hM:aQ s c=bB s ({ s with aj:=nW s.aj (uT c) },mz s.aj (uT c),0,0,[],[]):=by unfold aQ;congr 1;simp [fj,hk]
 rw [hM];clear hM;have c1:=GW s.aj (uT c) h.small.aj;obtain ⟨A,hA⟩:=aL (nW s.aj (uT c));obtain ⟨e,he⟩:=aL (mz s.aj (uT c));rw [<- hA,<- he] at c1 |-;clear hA he;simp only [au.cells,uT,aq.cells] at c1;simp only [af.cells] at c0 |-;simp only [aZ.cells,hk];refine bg 227 2 [.cell 4 42,.cell 5 67] mixed Tryz.func29 ?_;simp only [go_sem,seval];(with_reducible and_intros)<;>first|exact .dq|omega|skip
 refine aa.pure c0 ?_;simp only [go_sem,seval];(with_reducible and_intros)<;>first|exact .dq|omega|skip
 refine aa.pure c1 ?_;simp only [go_sem,seval];(with_reducible and_intros)<;>first|exact .dq|omega|skip
 by_cases q:e=0
 ·have d:(e==0)=true:=by simpa using q
  simp only [bB,if_pos q];simp only [go_sem,seval,bne,d];(with_reducible and_intros)<;>first|exact .dq|omega|skip
  all_goals simp [pl]
 ·have d:(e==0)=false:=by simpa using q
  simp only [bB,if_neg q];simp only [go_sem,seval,bne,d];(with_reducible and_intros)<;>first|exact .dq|omega|skip
  refine aa.pure (hno e) ?_;simp only [go_sem,seval];(with_reducible and_intros)<;>first|exact .dq|omega|skip
  all_goals simp [bk.err]
theorem WE (s:af) (c:aZ) (h:s.good) (hk:c.kind=3):Abs.Spec Tryz.prog 29 [] [.agg s.cells,.agg c.cells] [] (.bI [.agg (aQ s c).1.cells,.agg (aQ s c).2.cells]):=by
 have hno:=fun e=>bD e
 have c0:=aP s h.small;have hM:aQ s c=bB s ({ s with aj:=nT s.aj ⟨c.no,c.cur,c.aR,c.bW⟩ },mD s.aj ⟨c.no,c.cur,c.aR,c.bW⟩,0,0,[],[]):=by unfold aQ;congr 1;simp [fj,hk]
 rw [hM];clear hM;have c1:=GO s.aj ⟨c.no,c.cur,c.aR,c.bW⟩ h.small.aj;obtain ⟨A,hA⟩:=aL (nT s.aj ⟨c.no,c.cur,c.aR,c.bW⟩);obtain ⟨e,he⟩:=aL (mD s.aj ⟨c.no,c.cur,c.aR,c.bW⟩);rw [<- hA,<- he] at c1 |-;clear hA he;simp only [au.cells,av.cells] at c1;simp only [af.cells] at c0 |-;simp only [aZ.cells,hk];refine bg 227 2 [.cell 4 42,.cell 5 67] mixed Tryz.func29 ?_;simp only [go_sem,seval];(with_reducible and_intros)<;>first|exact .dq|omega|skip
 refine aa.pure c0 ?_;simp only [go_sem,seval];(with_reducible and_intros)<;>first|exact .dq|omega|skip
 refine aa.pure c1 ?_;simp only [go_sem,seval];(with_reducible and_intros)<;>first|exact .dq|omega|skip
 by_cases q:e=0
 ·have d:(e==0)=true:=by simpa using q
  simp only [bB,if_pos q];simp only [go_sem,seval,bne,d];(with_reducible and_intros)<;>first|exact .dq|omega|skip
  all_goals simp [pl]
 ·have d:(e==0)=false:=by simpa using q
  simp only [bB,if_neg q];simp only [go_sem,seval,bne,d];(with_reducible and_intros)<;>first|exact .dq|omega|skip
  refine aa.pure (hno e) ?_;simp only [go_sem,seval];(with_reducible and_intros)<;>first|exact .dq|omega|skip
  all_goals simp [bk.err]
theorem Xi (s:af) (c:aZ) (h:s.good) (hk:c.kind=4):Abs.Spec Tryz.prog 29 [] [.agg s.cells,.agg c.cells] [] (.bI [.agg (aQ s c).1.cells,.agg (aQ s c).2.cells]):=by
 have hno:=fun e=>bD e
 have c0:=aP s h.small;have hM:aQ s c=bB s ((nV s c).1,(nV s c).2,0,0,[],[]):=by unfold aQ;congr 1;simp [fj,hk]
 rw [hM];clear hM;have c1:=pR s c h;obtain ⟨R,hR⟩:=aL (nV s c);rw [<- hR] at c1 |-;clear hR;obtain ⟨T,e⟩:=R;dsimp only at c1 |-;simp only [af.cells,aZ.cells,hk] at c1;simp only [af.cells] at c0 |-;simp only [aZ.cells,hk];refine bg 227 2 [.cell 4 42,.cell 5 67] mixed Tryz.func29 ?_;simp -implicitDefEqProofs only [go_sem,seval];(with_reducible and_intros)<;>first|exact .dq|omega|skip
 refine aa.pure c0 ?_;simp -implicitDefEqProofs only [go_sem,seval];(with_reducible and_intros)<;>first|exact .dq|omega|skip
 refine aa.gen [] [112] false (by simp) ?_;simp -implicitDefEqProofs only [go_sem,seval];refine aY.intro c1 ?_;simp -implicitDefEqProofs only [go_sem,seval];(with_reducible and_intros)<;>first|exact .dq|omega|skip
 by_cases q:e=0
 ·have d:(e==0)=true:=by simpa using q
  simp only [bB,if_pos q];simp -implicitDefEqProofs only [go_sem,seval,bne,d];(with_reducible and_intros)<;>first|exact .dq|omega|skip
  all_goals simp [pl]
 ·have d:(e==0)=false:=by simpa using q
  simp only [bB,if_neg q];simp -implicitDefEqProofs only [go_sem,seval,bne,d];(with_reducible and_intros)<;>first|exact .dq|omega|skip
  refine aa.pure (hno e) ?_;simp -implicitDefEqProofs only [go_sem,seval];(with_reducible and_intros)<;>first|exact .dq|omega|skip
  all_goals simp [bk.err]
theorem We (s:af) (c:aZ) (h:s.good) (hk:c.kind=5):Abs.Spec Tryz.prog 29 [] [.agg s.cells,.agg c.cells] [] (.bI [.agg (aQ s c).1.cells,.agg (aQ s c).2.cells]):=by
 have hno:=fun e=>bD e
 have c0:=aP s h.small;have hM:aQ s c=bB s ((nV s c).1,(nV s c).2,0,0,[],[]):=by unfold aQ;congr 1;simp [fj,hk]
 rw [hM];clear hM;have c1:=pR s c h;obtain ⟨R,hR⟩:=aL (nV s c);rw [<- hR] at c1 |-;clear hR;obtain ⟨T,e⟩:=R;dsimp only at c1 |-;simp only [af.cells,aZ.cells,hk] at c1;simp only [af.cells] at c0 |-;simp only [aZ.cells,hk];refine bg 227 2 [.cell 4 42,.cell 5 67] mixed Tryz.func29 ?_;simp -implicitDefEqProofs only [go_sem,seval];(with_reducible and_intros)<;>first|exact .dq|omega|skip
 refine aa.pure c0 ?_;simp -implicitDefEqProofs only [go_sem,seval];(with_reducible and_intros)<;>first|exact .dq|omega|skip
 refine aa.gen [] [112] false (by simp) ?_;simp -implicitDefEqProofs only [go_sem,seval];refine aY.intro c1 ?_;simp -implicitDefEqProofs only [go_sem,seval];(with_reducible and_intros)<;>first|exact .dq|omega|skip
 by_cases q:e=0
 ·have d:(e==0)=true:=by simpa using q
  simp only [bB,if_pos q];simp -implicitDefEqProofs only [go_sem,seval,bne,d];(with_reducible and_intros)<;>first|exact .dq|omega|skip
  all_goals simp [pl]
 ·have d:(e==0)=false:=by simpa using q
  simp only [bB,if_neg q];simp -implicitDefEqProofs only [go_sem,seval,bne,d];(with_reducible and_intros)<;>first|exact .dq|omega|skip
  refine aa.pure (hno e) ?_;simp -implicitDefEqProofs only [go_sem,seval];(with_reducible and_intros)<;>first|exact .dq|omega|skip
  all_goals simp [bk.err]
theorem VT (s:af) (c:aZ) (h:s.good) (hk:c.kind=8):Abs.Spec Tryz.prog 29 [] [.agg s.cells,.agg c.cells] [] (.bI [.agg (aQ s c).1.cells,.agg (aQ s c).2.cells]):=by
 have hno:=fun e=>bD e
 have c0:=aP s h.small;have hM:aQ s c=bB s ((nV s c).1,(nV s c).2,0,0,[],[]):=by unfold aQ;congr 1;simp [fj,hk]
 rw [hM];clear hM;have c1:=pR s c h;obtain ⟨R,hR⟩:=aL (nV s c);rw [<- hR] at c1 |-;clear hR;obtain ⟨T,e⟩:=R;dsimp only at c1 |-;simp only [af.cells,aZ.cells,hk] at c1;simp only [af.cells] at c0 |-;simp only [aZ.cells,hk];refine bg 227 2 [.cell 4 42,.cell 5 67] mixed Tryz.func29 ?_;simp -implicitDefEqProofs only [go_sem,seval];(with_reducible and_intros)<;>first|exact .dq|omega|skip
 refine aa.pure c0 ?_;simp -implicitDefEqProofs only [go_sem,seval];(with_reducible and_intros)<;>first|exact .dq|omega|skip
 refine aa.gen [] [112] false (by simp) ?_;simp -implicitDefEqProofs only [go_sem,seval];refine aY.intro c1 ?_;simp -implicitDefEqProofs only [go_sem,seval];(with_reducible and_intros)<;>first|exact .dq|omega|skip
 by_cases q:e=0
 ·have d:(e==0)=true:=by simpa using q
  simp only [bB,if_pos q];simp -implicitDefEqProofs only [go_sem,seval,bne,d];(with_reducible and_intros)<;>first|exact .dq|omega|skip
  all_goals simp [pl]
 ·have d:(e==0)=false:=by simpa using q
  simp only [bB,if_neg q];simp -implicitDefEqProofs only [go_sem,seval,bne,d];(with_reducible and_intros)<;>first|exact .dq|omega|skip
  refine aa.pure (hno e) ?_;simp -implicitDefEqProofs only [go_sem,seval];(with_reducible and_intros)<;>first|exact .dq|omega|skip
  all_goals simp [bk.err]
theorem Vn (s:af) (c:aZ) (h:s.good) (hk:c.kind=6):Abs.Spec Tryz.prog 29 [] [.agg s.cells,.agg c.cells] [] (.bI [.agg (aQ s c).1.cells,.agg (aQ s c).2.cells]):=by
 have hno:=fun e=>bD e
 have c0:=aP s h.small;have hM:aQ s c=bB s ((jY s c (n8 c)).1,(jY s c (n8 c)).2,0,0,[],[]):=by unfold aQ;congr 1;simp [fj,hk]
 rw [hM];clear hM;have c1:=qd s c h;obtain ⟨R,hR⟩:=aL (jY s c (n8 c));rw [<- hR] at c1 |-;clear hR;obtain ⟨T,e⟩:=R;dsimp only at c1 |-;simp only [af.cells,aZ.cells,hk] at c1;simp only [af.cells] at c0 |-;simp only [aZ.cells,hk];refine bg 227 2 [.cell 4 42,.cell 5 67] mixed Tryz.func29 ?_;simp -implicitDefEqProofs only [go_sem,seval];(with_reducible and_intros)<;>first|exact .dq|omega|skip
 refine aa.pure c0 ?_;simp -implicitDefEqProofs only [go_sem,seval];(with_reducible and_intros)<;>first|exact .dq|omega|skip
 refine aa.gen [] [112] false (by simp) ?_;simp -implicitDefEqProofs only [go_sem,seval];refine aY.intro c1 ?_;simp -implicitDefEqProofs only [go_sem,seval];(with_reducible and_intros)<;>first|exact .dq|omega|skip
 by_cases q:e=0
 ·have d:(e==0)=true:=by simpa using q
  simp only [bB,if_pos q];simp -implicitDefEqProofs only [go_sem,seval,bne,d];(with_reducible and_intros)<;>first|exact .dq|omega|skip
  all_goals simp [pl]
 ·have d:(e==0)=false:=by simpa using q
  simp only [bB,if_neg q];simp -implicitDefEqProofs only [go_sem,seval,bne,d];(with_reducible and_intros)<;>first|exact .dq|omega|skip
  refine aa.pure (hno e) ?_;simp -implicitDefEqProofs only [go_sem,seval];(with_reducible and_intros)<;>first|exact .dq|omega|skip
  all_goals simp [bk.err]
theorem WX (s:af) (c:aZ) (h:s.good) (hk:c.kind=7):Abs.Spec Tryz.prog 29 [] [.agg s.cells,.agg c.cells] [] (.bI [.agg (aQ s c).1.cells,.agg (aQ s c).2.cells]):=by
 have hno:=fun e=>bD e
 have c0:=aP s h.small;have hM:aQ s c=bB s ((jY s c (n8 c)).1,(jY s c (n8 c)).2,0,0,[],[]):=by unfold aQ;congr 1;simp [fj,hk]
 rw [hM];clear hM;have c1:=qd s c h;obtain ⟨R,hR⟩:=aL (jY s c (n8 c));rw [<- hR] at c1 |-;clear hR;obtain ⟨T,e⟩:=R;dsimp only at c1 |-;simp only [af.cells,aZ.cells,hk] at c1;simp only [af.cells] at c0 |-;simp only [aZ.cells,hk];refine bg 227 2 [.cell 4 42,.cell 5 67] mixed Tryz.func29 ?_;simp -implicitDefEqProofs only [go_sem,seval];(with_reducible and_intros)<;>first|exact .dq|omega|skip
 refine aa.pure c0 ?_;simp -implicitDefEqProofs only [go_sem,seval];(with_reducible and_intros)<;>first|exact .dq|omega|skip
 refine aa.gen [] [112] false (by simp) ?_;simp -implicitDefEqProofs only [go_sem,seval];refine aY.intro c1 ?_;simp -implicitDefEqProofs only [go_sem,seval];(with_reducible and_intros)<;>first|exact .dq|omega|skip
 by_cases q:e=0
 ·have d:(e==0)=true:=by simpa using q
  simp only [bB,if_pos q];simp -implicitDefEqProofs only [go_sem,seval,bne,d];(with_reducible and_intros)<;>first|exact .dq|omega|skip
  all_goals simp [pl]
 ·have d:(e==0)=false:=by simpa using q
  simp only [bB,if_neg q];simp -implicitDefEqProofs only [go_sem,seval,bne,d];(with_reducible and_intros)<;>first|exact .dq|omega|skip
  refine aa.pure (hno e) ?_;simp -implicitDefEqProofs only [go_sem,seval];(with_reducible and_intros)<;>first|exact .dq|omega|skip
  all_goals simp [bk.err]
theorem Vz (s:af) (c:aZ) (h:s.good) (hk:c.kind=9):Abs.Spec Tryz.prog 29 [] [.agg s.cells,.agg c.cells] [] (.bI [.agg (aQ s c).1.cells,.agg (aQ s c).2.cells]):=by
 have hno:=fun e=>bD e
 have c0:=aP s h.small;have hM:aQ s c=bB s (if within c.cur 0 2&&within c.bW 1 4611686018427387904 then (kF s (bN ⟨1,0,c.cur⟩ ⟨4,0,c.cur⟩ c.bW),sj s (bN ⟨1,0,c.cur⟩ ⟨4,0,c.cur⟩ c.bW),0,0,[],[]) else (s,3,0,0,[],[])):=by unfold aQ;congr 1;simp [fj,hk]
 rw [hM];clear hM;have a1:=fB c.cur;have a2:=ga c.bW 1 4611686018427387904;have a3:=gB 1 0 c.cur;have a4:=gB 4 0 c.cur;have a5:=ij ⟨1,0,c.cur⟩ ⟨4,0,c.cur⟩ c.bW;have c1:=iR s (bN ⟨1,0,c.cur⟩ ⟨4,0,c.cur⟩ c.bW) h.small.aU h.cE.bs (by simp [bN]);obtain ⟨g,hg⟩:=aL (bN ⟨1,0,c.cur⟩ ⟨4,0,c.cur⟩ c.bW);rw [<- hg] at a5 c1 |-;clear hg;obtain ⟨T,hT⟩:=aL (kF s g);obtain ⟨e,he⟩:=aL (sj s g);rw [<- hT,<- he] at c1 |-;clear hT he;simp only [af.cells] at c1;simp only [aH.cells] at a5;simp only [af.cells] at c0 |-;simp only [aZ.cells,hk];refine bg 227 2 [.cell 4 42,.cell 5 67] mixed Tryz.func29 ?_;simp -implicitDefEqProofs only [go_sem,seval];(with_reducible and_intros)<;>first|exact .dq|omega|skip
 refine aa.pure c0 ?_;simp -implicitDefEqProofs only [go_sem,seval];(with_reducible and_intros)<;>first|exact .dq|omega|skip
 refine aa.pure a1 ?_;cases b1:within c.cur 0 2
 ·rw [Bool.false_and,if_neg (by decide)];simp only [bB,if_neg (show ¬ (3:Int)=0 by decide)];simp -implicitDefEqProofs only [go_sem,seval];(with_reducible and_intros)<;>first|exact .dq|omega|skip
  refine aa.pure (hno 3) ?_;simp -implicitDefEqProofs only [go_sem,seval];(with_reducible and_intros)<;>first|exact .dq|omega|skip
  all_goals simp [bk.err]
 simp -implicitDefEqProofs only [go_sem,seval];(with_reducible and_intros)<;>first|exact .dq|omega|skip
 refine aa.pure a2 ?_;cases b2:within c.bW 1 4611686018427387904
 ·rw [if_neg (by decide)];simp only [bB,if_neg (show ¬ (3:Int)=0 by decide)];simp -implicitDefEqProofs only [go_sem,seval];(with_reducible and_intros)<;>first|exact .dq|omega|skip
  refine aa.pure (hno 3) ?_;simp -implicitDefEqProofs only [go_sem,seval];(with_reducible and_intros)<;>first|exact .dq|omega|skip
  all_goals simp [bk.err]
 rw [if_pos rfl];simp -implicitDefEqProofs only [go_sem,seval];(with_reducible and_intros)<;>first|exact .dq|omega|skip
 refine aa.pure a3 ?_;simp -implicitDefEqProofs only [go_sem,seval];(with_reducible and_intros)<;>first|exact .dq|omega|skip
 refine aa.pure a4 ?_;simp -implicitDefEqProofs only [go_sem,seval];(with_reducible and_intros)<;>first|exact .dq|omega|skip
 refine aa.pure a5 ?_;simp -implicitDefEqProofs only [go_sem,seval];(with_reducible and_intros)<;>first|exact .dq|omega|skip
 refine aa.gen [] [112] false (by simp) ?_;simp -implicitDefEqProofs only [go_sem,seval];refine aY.intro c1 ?_;simp -implicitDefEqProofs only [go_sem,seval];(with_reducible and_intros)<;>first|exact .dq|omega|skip
 by_cases q:e=0
 ·have d:(e==0)=true:=by simpa using q
  simp only [bB,if_pos q];simp -implicitDefEqProofs only [go_sem,seval,bne,d];(with_reducible and_intros)<;>first|exact .dq|omega|skip
  all_goals simp [pl]
 ·have d:(e==0)=false:=by simpa using q
  simp only [bB,if_neg q];simp -implicitDefEqProofs only [go_sem,seval,bne,d];(with_reducible and_intros)<;>first|exact .dq|omega|skip
  refine aa.pure (hno e) ?_;simp -implicitDefEqProofs only [go_sem,seval];(with_reducible and_intros)<;>first|exact .dq|omega|skip
  all_goals simp [bk.err]
theorem R3 (s:af) (c:aZ) (h:s.good) (hk:c.kind=10):Abs.Spec Tryz.prog 29 [] [.agg s.cells,.agg c.cells] [] (.bI [.agg (aQ s c).1.cells,.agg (aQ s c).2.cells]):=by
 have hno:=fun e=>bD e
 have c0:=aP s h.small;have hM:aQ s c=bB s (if s.phase=0 then ((iK s c).1,(iK s c).2.2,(iK s c).2.1,0,[],[]) else (s,15,0,0,[],[])):=by unfold aQ;congr 1;simp [fj,hk]
 rw [hM];clear hM;have c1:=jc s c h;obtain ⟨R,hR⟩:=aL (iK s c);rw [<- hR] at c1 |-;clear hR;obtain ⟨T,no,e⟩:=R;dsimp only at c1 |-;simp only [af.cells,aZ.cells,hk] at c1;simp only [af.cells] at c0 |-;simp only [aZ.cells,hk];refine bg 227 2 [.cell 4 42,.cell 5 67] mixed Tryz.func29 ?_;simp -implicitDefEqProofs only [go_sem,seval];(with_reducible and_intros)<;>first|exact .dq|omega|skip
 refine aa.pure c0 ?_;simp -implicitDefEqProofs only [go_sem,seval];(with_reducible and_intros)<;>first|exact .dq|omega|skip
 by_cases b1:s.phase=0
 case neg =>
  have d:(s.phase==0)=false:=by simpa using b1
  rw [if_neg b1];simp only [bB,if_neg (show ¬ (15:Int)=0 by decide)];simp -implicitDefEqProofs only [go_sem,seval,bne,d];(with_reducible and_intros)<;>first|exact .dq|omega|skip
  refine aa.pure (hno 15) ?_;simp -implicitDefEqProofs only [go_sem,seval];(with_reducible and_intros)<;>first|exact .dq|omega|skip
  all_goals simp [bk.err]
 have d1:(s.phase==0)=true:=by simpa using b1
 rw [if_pos b1];simp -implicitDefEqProofs only [go_sem,seval,bne,d1];(with_reducible and_intros)<;>first|exact .dq|omega|skip
 refine aa.gen [] [112] false (by simp) ?_;simp -implicitDefEqProofs only [go_sem,seval];refine aY.intro c1 ?_;simp -implicitDefEqProofs only [go_sem,seval];(with_reducible and_intros)<;>first|exact .dq|omega|skip
 by_cases q:e=0
 ·have d:(e==0)=true:=by simpa using q
  simp only [bB,if_pos q];simp -implicitDefEqProofs only [go_sem,seval,bne,d];(with_reducible and_intros)<;>first|exact .dq|omega|skip
  all_goals simp [pl]
 ·have d:(e==0)=false:=by simpa using q
  simp only [bB,if_neg q];simp -implicitDefEqProofs only [go_sem,seval,bne,d];(with_reducible and_intros)<;>first|exact .dq|omega|skip
  refine aa.pure (hno e) ?_;simp -implicitDefEqProofs only [go_sem,seval];(with_reducible and_intros)<;>first|exact .dq|omega|skip
  all_goals simp [bk.err]
theorem Tr (s:af) (c:aZ) (h:s.good) (hk:c.kind=11):Abs.Spec Tryz.prog 29 [] [.agg s.cells,.agg c.cells] [] (.bI [.agg (aQ s c).1.cells,.agg (aQ s c).2.cells]):=by
 have hno:=fun e=>bD e
 have c0:=aP s h.small;have hM:aQ s c=bB s (if s.phase=0 then ((iK s c).1,(iK s c).2.2,(iK s c).2.1,0,[],[]) else (s,15,0,0,[],[])):=by unfold aQ;congr 1;simp [fj,hk]
 rw [hM];clear hM;have c1:=jc s c h;obtain ⟨R,hR⟩:=aL (iK s c);rw [<- hR] at c1 |-;clear hR;obtain ⟨T,no,e⟩:=R;dsimp only at c1 |-;simp only [af.cells,aZ.cells,hk] at c1;simp only [af.cells] at c0 |-;simp only [aZ.cells,hk];refine bg 227 2 [.cell 4 42,.cell 5 67] mixed Tryz.func29 ?_;simp -implicitDefEqProofs only [go_sem,seval];(with_reducible and_intros)<;>first|exact .dq|omega|skip
 refine aa.pure c0 ?_;simp -implicitDefEqProofs only [go_sem,seval];(with_reducible and_intros)<;>first|exact .dq|omega|skip
 by_cases b1:s.phase=0
 case neg =>
  have d:(s.phase==0)=false:=by simpa using b1
  rw [if_neg b1];simp only [bB,if_neg (show ¬ (15:Int)=0 by decide)];simp -implicitDefEqProofs only [go_sem,seval,bne,d];(with_reducible and_intros)<;>first|exact .dq|omega|skip
  refine aa.pure (hno 15) ?_;simp -implicitDefEqProofs only [go_sem,seval];(with_reducible and_intros)<;>first|exact .dq|omega|skip
  all_goals simp [bk.err]
 have d1:(s.phase==0)=true:=by simpa using b1
 rw [if_pos b1];simp -implicitDefEqProofs only [go_sem,seval,bne,d1];(with_reducible and_intros)<;>first|exact .dq|omega|skip
 refine aa.gen [] [112] false (by simp) ?_;simp -implicitDefEqProofs only [go_sem,seval];refine aY.intro c1 ?_;simp -implicitDefEqProofs only [go_sem,seval];(with_reducible and_intros)<;>first|exact .dq|omega|skip
 by_cases q:e=0
 ·have d:(e==0)=true:=by simpa using q
  simp only [bB,if_pos q];simp -implicitDefEqProofs only [go_sem,seval,bne,d];(with_reducible and_intros)<;>first|exact .dq|omega|skip
  all_goals simp [pl]
 ·have d:(e==0)=false:=by simpa using q
  simp only [bB,if_neg q];simp -implicitDefEqProofs only [go_sem,seval,bne,d];(with_reducible and_intros)<;>first|exact .dq|omega|skip
  refine aa.pure (hno e) ?_;simp -implicitDefEqProofs only [go_sem,seval];(with_reducible and_intros)<;>first|exact .dq|omega|skip
  all_goals simp [bk.err]
theorem SI (s:af) (c:aZ) (h:s.good) (hk:c.kind=12):Abs.Spec Tryz.prog 29 [] [.agg s.cells,.agg c.cells] [] (.bI [.agg (aQ s c).1.cells,.agg (aQ s c).2.cells]):=by
 have hno:=fun e=>bD e
 have c0:=aP s h.small;have hM:aQ s c=bB s (if s.phase=0 then ((iK s c).1,(iK s c).2.2,(iK s c).2.1,0,[],[]) else (s,15,0,0,[],[])):=by unfold aQ;congr 1;simp [fj,hk]
 rw [hM];clear hM;have c1:=jc s c h;obtain ⟨R,hR⟩:=aL (iK s c);rw [<- hR] at c1 |-;clear hR;obtain ⟨T,no,e⟩:=R;dsimp only at c1 |-;simp only [af.cells,aZ.cells,hk] at c1;simp only [af.cells] at c0 |-;simp only [aZ.cells,hk];refine bg 227 2 [.cell 4 42,.cell 5 67] mixed Tryz.func29 ?_;simp -implicitDefEqProofs only [go_sem,seval];(with_reducible and_intros)<;>first|exact .dq|omega|skip
 refine aa.pure c0 ?_;simp -implicitDefEqProofs only [go_sem,seval];(with_reducible and_intros)<;>first|exact .dq|omega|skip
 by_cases b1:s.phase=0
 case neg =>
  have d:(s.phase==0)=false:=by simpa using b1
  rw [if_neg b1];simp only [bB,if_neg (show ¬ (15:Int)=0 by decide)];simp -implicitDefEqProofs only [go_sem,seval,bne,d];(with_reducible and_intros)<;>first|exact .dq|omega|skip
  refine aa.pure (hno 15) ?_;simp -implicitDefEqProofs only [go_sem,seval];(with_reducible and_intros)<;>first|exact .dq|omega|skip
  all_goals simp [bk.err]
 have d1:(s.phase==0)=true:=by simpa using b1
 rw [if_pos b1];simp -implicitDefEqProofs only [go_sem,seval,bne,d1];(with_reducible and_intros)<;>first|exact .dq|omega|skip
 refine aa.gen [] [112] false (by simp) ?_;simp -implicitDefEqProofs only [go_sem,seval];refine aY.intro c1 ?_;simp -implicitDefEqProofs only [go_sem,seval];(with_reducible and_intros)<;>first|exact .dq|omega|skip
 by_cases q:e=0
 ·have d:(e==0)=true:=by simpa using q
  simp only [bB,if_pos q];simp -implicitDefEqProofs only [go_sem,seval,bne,d];(with_reducible and_intros)<;>first|exact .dq|omega|skip
  all_goals simp [pl]
 ·have d:(e==0)=false:=by simpa using q
  simp only [bB,if_neg q];simp -implicitDefEqProofs only [go_sem,seval,bne,d];(with_reducible and_intros)<;>first|exact .dq|omega|skip
  refine aa.pure (hno e) ?_;simp -implicitDefEqProofs only [go_sem,seval];(with_reducible and_intros)<;>first|exact .dq|omega|skip
  all_goals simp [bk.err]
theorem Sj (s:af) (c:aZ) (h:s.good) (hk:c.kind=13):Abs.Spec Tryz.prog 29 [] [.agg s.cells,.agg c.cells] [] (.bI [.agg (aQ s c).1.cells,.agg (aQ s c).2.cells]):=by
 have hno:=fun e=>bD e
 have c0:=aP s h.small;have hM:aQ s c=bB s (if s.phase=0 then ((iK s c).1,(iK s c).2.2,(iK s c).2.1,0,[],[]) else (s,15,0,0,[],[])):=by unfold aQ;congr 1;simp [fj,hk]
 rw [hM];clear hM;have c1:=jc s c h;obtain ⟨R,hR⟩:=aL (iK s c);rw [<- hR] at c1 |-;clear hR;obtain ⟨T,no,e⟩:=R;dsimp only at c1 |-;simp only [af.cells,aZ.cells,hk] at c1;simp only [af.cells] at c0 |-;simp only [aZ.cells,hk];refine bg 227 2 [.cell 4 42,.cell 5 67] mixed Tryz.func29 ?_;simp -implicitDefEqProofs only [go_sem,seval];(with_reducible and_intros)<;>first|exact .dq|omega|skip
 refine aa.pure c0 ?_;simp -implicitDefEqProofs only [go_sem,seval];(with_reducible and_intros)<;>first|exact .dq|omega|skip
 by_cases b1:s.phase=0
 case neg =>
  have d:(s.phase==0)=false:=by simpa using b1
  rw [if_neg b1];simp only [bB,if_neg (show ¬ (15:Int)=0 by decide)];simp -implicitDefEqProofs only [go_sem,seval,bne,d];(with_reducible and_intros)<;>first|exact .dq|omega|skip
  refine aa.pure (hno 15) ?_;simp -implicitDefEqProofs only [go_sem,seval];(with_reducible and_intros)<;>first|exact .dq|omega|skip
  all_goals simp [bk.err]
 have d1:(s.phase==0)=true:=by simpa using b1
 rw [if_pos b1];simp -implicitDefEqProofs only [go_sem,seval,bne,d1];(with_reducible and_intros)<;>first|exact .dq|omega|skip
 refine aa.gen [] [112] false (by simp) ?_;simp -implicitDefEqProofs only [go_sem,seval];refine aY.intro c1 ?_;simp -implicitDefEqProofs only [go_sem,seval];(with_reducible and_intros)<;>first|exact .dq|omega|skip
 by_cases q:e=0
 ·have d:(e==0)=true:=by simpa using q
  simp only [bB,if_pos q];simp -implicitDefEqProofs only [go_sem,seval,bne,d];(with_reducible and_intros)<;>first|exact .dq|omega|skip
  all_goals simp [pl]
 ·have d:(e==0)=false:=by simpa using q
  simp only [bB,if_neg q];simp -implicitDefEqProofs only [go_sem,seval,bne,d];(with_reducible and_intros)<;>first|exact .dq|omega|skip
  refine aa.pure (hno e) ?_;simp -implicitDefEqProofs only [go_sem,seval];(with_reducible and_intros)<;>first|exact .dq|omega|skip
  all_goals simp [bk.err]
theorem Tk (s:af) (c:aZ) (h:s.good) (hk:c.kind=14):Abs.Spec Tryz.prog 29 [] [.agg s.cells,.agg c.cells] [] (.bI [.agg (aQ s c).1.cells,.agg (aQ s c).2.cells]):=by
 have hno:=fun e=>bD e
 have c0:=aP s h.small;have hM:aQ s c=bB s (jB s,gP s,0,0,oO s,[]):=by unfold aQ;congr 1;simp [fj,hk]
 rw [hM];clear hM;have c1:=CW s h.small h.cE h.qs;obtain ⟨T,hT⟩:=aL (jB s);obtain ⟨e,he⟩:=aL (gP s);obtain ⟨ds,hds⟩:∃ l,l=oO s:=⟨_,rfl⟩
 rw [<- hT,<- he,<- hds] at c1 |-;clear hT he hds;simp only [af.cells] at c1;simp only [af.cells] at c0 |-;simp only [aZ.cells,hk];refine bg 227 2 [.cell 4 42,.cell 5 67] mixed Tryz.func29 ?_;simp -implicitDefEqProofs only [go_sem,seval];(with_reducible and_intros)<;>first|exact .dq|omega|skip
 refine aa.pure c0 ?_;simp -implicitDefEqProofs only [go_sem,seval];(with_reducible and_intros)<;>first|exact .dq|omega|skip
 refine aa.pure c1 ?_;simp -implicitDefEqProofs only [go_sem,seval];(with_reducible and_intros)<;>first|exact .dq|omega|skip
 by_cases q:e=0
 ·have d:(e==0)=true:=by simpa using q
  simp only [bB,if_pos q];simp -implicitDefEqProofs only [go_sem,seval,bne,d];(with_reducible and_intros)<;>first|exact .dq|omega|skip
  all_goals simp [pl]
 ·have d:(e==0)=false:=by simpa using q
  simp only [bB,if_neg q];simp -implicitDefEqProofs only [go_sem,seval,bne,d];(with_reducible and_intros)<;>first|exact .dq|omega|skip
  refine aa.pure (hno e) ?_;simp -implicitDefEqProofs only [go_sem,seval];(with_reducible and_intros)<;>first|exact .dq|omega|skip
  all_goals simp [bk.err]
theorem Sw (s:af) (c:aZ) (h:s.good) (hk:c.kind=15):Abs.Spec Tryz.prog 29 [] [.agg s.cells,.agg c.cells] [] (.bI [.agg (aQ s c).1.cells,.agg (aQ s c).2.cells]):=by
 have hno:=fun e=>bD e
 have c0:=aP s h.small;have hM:aQ s c=bB s (iY s,iB s,0,0,mY s,[]):=by unfold aQ;congr 1;simp [fj,hk]
 rw [hM];clear hM;have c1:=wV s h.small h.cE h.bs (by have:=h.ps;omega);obtain ⟨T,hT⟩:=aL (iY s);obtain ⟨e,he⟩:=aL (iB s);obtain ⟨ds,hds⟩:∃ l,l=mY s:=⟨_,rfl⟩
 rw [<- hT,<- he,<- hds] at c1 |-;clear hT he hds;simp only [af.cells] at c1;simp only [af.cells] at c0 |-;simp only [aZ.cells,hk];refine bg 227 2 [.cell 4 42,.cell 5 67] mixed Tryz.func29 ?_;simp -implicitDefEqProofs only [go_sem,seval];(with_reducible and_intros)<;>first|exact .dq|omega|skip
 refine aa.pure c0 ?_;simp -implicitDefEqProofs only [go_sem,seval];(with_reducible and_intros)<;>first|exact .dq|omega|skip
 refine aa.pure c1 ?_;simp -implicitDefEqProofs only [go_sem,seval];(with_reducible and_intros)<;>first|exact .dq|omega|skip
 by_cases q:e=0
 ·have d:(e==0)=true:=by simpa using q
  simp only [bB,if_pos q];simp -implicitDefEqProofs only [go_sem,seval,bne,d];(with_reducible and_intros)<;>first|exact .dq|omega|skip
  all_goals simp [pl]
 ·have d:(e==0)=false:=by simpa using q
  simp only [bB,if_neg q];simp -implicitDefEqProofs only [go_sem,seval,bne,d];(with_reducible and_intros)<;>first|exact .dq|omega|skip
  refine aa.pure (hno e) ?_;simp -implicitDefEqProofs only [go_sem,seval];(with_reducible and_intros)<;>first|exact .dq|omega|skip
  all_goals simp [bk.err]
theorem RW (s:af) (c:aZ) (h:s.good) (hk:c.kind=16):Abs.Spec Tryz.prog 29 [] [.agg s.cells,.agg c.cells] [] (.bI [.agg (aQ s c).1.cells,.agg (aQ s c).2.cells]):=by
 have hno:=fun e=>bD e
 have c0:=aP s h.small;have hM:aQ s c=bB s (rT s,rS s,0,0,[],[]):=by unfold aQ;congr 1;simp [fj,hk]
 rw [hM];clear hM;have c1:=Aw s h.small h.cE;obtain ⟨T,hT⟩:=aL (rT s);obtain ⟨e,he⟩:=aL (rS s);rw [<- hT,<- he] at c1 |-;clear hT he;simp only [af.cells] at c1;simp only [af.cells] at c0 |-;simp only [aZ.cells,hk];refine bg 227 2 [.cell 4 42,.cell 5 67] mixed Tryz.func29 ?_;simp -implicitDefEqProofs only [go_sem,seval];(with_reducible and_intros)<;>first|exact .dq|omega|skip
 refine aa.pure c0 ?_;simp -implicitDefEqProofs only [go_sem,seval];(with_reducible and_intros)<;>first|exact .dq|omega|skip
 refine aa.pure c1 ?_;simp -implicitDefEqProofs only [go_sem,seval];(with_reducible and_intros)<;>first|exact .dq|omega|skip
 by_cases q:e=0
 ·have d:(e==0)=true:=by simpa using q
  simp only [bB,if_pos q];simp -implicitDefEqProofs only [go_sem,seval,bne,d];(with_reducible and_intros)<;>first|exact .dq|omega|skip
  all_goals simp [pl]
 ·have d:(e==0)=false:=by simpa using q
  simp only [bB,if_neg q];simp -implicitDefEqProofs only [go_sem,seval,bne,d];(with_reducible and_intros)<;>first|exact .dq|omega|skip
  refine aa.pure (hno e) ?_;simp -implicitDefEqProofs only [go_sem,seval];(with_reducible and_intros)<;>first|exact .dq|omega|skip
  all_goals simp [bk.err]
theorem SW (s:af) (c:aZ) (h:s.good) (hk:c.kind=17):Abs.Spec Tryz.prog 29 [] [.agg s.cells,.agg c.cells] [] (.bI [.agg (aQ s c).1.cells,.agg (aQ s c).2.cells]):=by
 have hno:=fun e=>bD e
 have c0:=aP s h.small;have hM:aQ s c=bB s (gq s c.bW,oc s c.bW,0,0,wz s c.bW,[]):=by unfold aQ;congr 1;simp [fj,hk]
 rw [hM];clear hM;have c1:=Hu s c.bW h.small h.cE;obtain ⟨T,hT⟩:=aL (gq s c.bW);obtain ⟨e,he⟩:=aL (oc s c.bW);obtain ⟨ds,hds⟩:∃ l,l=wz s c.bW:=⟨_,rfl⟩
 rw [<- hT,<- he,<- hds] at c1 |-;clear hT he hds;simp only [af.cells] at c1;simp only [af.cells] at c0 |-;simp only [aZ.cells,hk];refine bg 227 2 [.cell 4 42,.cell 5 67] mixed Tryz.func29 ?_;simp -implicitDefEqProofs only [go_sem,seval];(with_reducible and_intros)<;>first|exact .dq|omega|skip
 refine aa.pure c0 ?_;simp -implicitDefEqProofs only [go_sem,seval];(with_reducible and_intros)<;>first|exact .dq|omega|skip
 refine aa.pure c1 ?_;simp -implicitDefEqProofs only [go_sem,seval];(with_reducible and_intros)<;>first|exact .dq|omega|skip
 by_cases q:e=0
 ·have d:(e==0)=true:=by simpa using q
  simp only [bB,if_pos q];simp -implicitDefEqProofs only [go_sem,seval,bne,d];(with_reducible and_intros)<;>first|exact .dq|omega|skip
  all_goals simp [pl]
 ·have d:(e==0)=false:=by simpa using q
  simp only [bB,if_neg q];simp -implicitDefEqProofs only [go_sem,seval,bne,d];(with_reducible and_intros)<;>first|exact .dq|omega|skip
  refine aa.pure (hno e) ?_;simp -implicitDefEqProofs only [go_sem,seval];(with_reducible and_intros)<;>first|exact .dq|omega|skip
  all_goals simp [bk.err]
theorem RV (s:af) (c:aZ) (h:s.good) (hk:c.kind=18):Abs.Spec Tryz.prog 29 [] [.agg s.cells,.agg c.cells] [] (.bI [.agg (aQ s c).1.cells,.agg (aQ s c).2.cells]):=by
 have hno:=fun e=>bD e
 have c0:=Jm s h.small;have hM:aQ s c=bB s ((p7 s c).1,(p7 s c).2,0,0,[],[]):=by unfold aQ;congr 1;simp [fj,hk]
 rw [hM];clear hM;have c1:=DL s c h;obtain ⟨R,hR⟩:=aL (p7 s c);rw [<- hR] at c1 |-;clear hR;obtain ⟨T,e⟩:=R;dsimp only at c1 |-;simp only [af.cells,af.vk,aZ.cells,hk] at c1 c0;simp only [af.cells];simp only [aZ.cells,hk];refine bg 227 2 [.cell 4 42,.cell 5 67] mixed Tryz.func29 ?_;simp -implicitDefEqProofs only [go_sem,seval];(with_reducible and_intros)<;>first|exact .dq|omega|skip
 refine aa.gen [] [] false (by simp) ?_;simp -implicitDefEqProofs only [go_sem,seval];refine aY.intro c0 ?_;simp -implicitDefEqProofs only [go_sem,seval];(with_reducible and_intros)<;>first|exact .dq|omega|skip
 refine aa.gen [] [112,200] false (by simp) ?_;simp -implicitDefEqProofs only [go_sem,seval];refine aY.intro c1 ?_;simp -implicitDefEqProofs only [go_sem,seval];(with_reducible and_intros)<;>first|exact .dq|omega|skip
 by_cases q:e=0
 ·have d:(e==0)=true:=by simpa using q
  simp only [bB,if_pos q];simp -implicitDefEqProofs only [go_sem,seval,bne,d];(with_reducible and_intros)<;>first|exact .dq|omega|skip
  all_goals simp [pl]
 ·have d:(e==0)=false:=by simpa using q
  simp only [bB,if_neg q];simp -implicitDefEqProofs only [go_sem,seval,bne,d];(with_reducible and_intros)<;>first|exact .dq|omega|skip
  refine aa.pure (hno e) ?_;simp -implicitDefEqProofs only [go_sem,seval];(with_reducible and_intros)<;>first|exact .dq|omega|skip
  all_goals simp [bk.err]
theorem Sr (s:af) (c:aZ) (h:s.good) (hk:c.kind=19):Abs.Spec Tryz.prog 29 [] [.agg s.cells,.agg c.cells] [] (.bI [.agg (aQ s c).1.cells,.agg (aQ s c).2.cells]):=by
 have hno:=fun e=>bD e
 have c0:=aP s h.small;have hM:aQ s c=bB s (lT s c.who,uv s c.who,0,0,FN s c.who,FU s c.who):=by unfold aQ;congr 1;simp [fj,hk]
 rw [hM];clear hM;have c1:=Jo s c.who h.small h.cE h.ms h.qs h.aX h.bs;obtain ⟨T,hT⟩:=aL (lT s c.who);obtain ⟨e,he⟩:=aL (uv s c.who);obtain ⟨ds,hds⟩:∃ l,l=FN s c.who:=⟨_,rfl⟩
 obtain ⟨fs,hfs⟩:∃ l,l=FU s c.who:=⟨_,rfl⟩
 rw [<- hT,<- he,<- hds,<- hfs] at c1 |-;clear hT he hds hfs;simp only [af.cells] at c1;simp only [af.cells] at c0 |-;simp only [aZ.cells,hk];refine bg 227 2 [.cell 4 42,.cell 5 67] mixed Tryz.func29 ?_;simp -implicitDefEqProofs only [go_sem,seval];(with_reducible and_intros)<;>first|exact .dq|omega|skip
 refine aa.pure c0 ?_;simp -implicitDefEqProofs only [go_sem,seval];(with_reducible and_intros)<;>first|exact .dq|omega|skip
 refine aa.pure c1 ?_;simp -implicitDefEqProofs only [go_sem,seval];(with_reducible and_intros)<;>first|exact .dq|omega|skip
 by_cases q:e=0
 ·have d:(e==0)=true:=by simpa using q
  simp only [bB,if_pos q];simp -implicitDefEqProofs only [go_sem,seval,bne,d];(with_reducible and_intros)<;>first|exact .dq|omega|skip
  all_goals simp [pl]
 ·have d:(e==0)=false:=by simpa using q
  simp only [bB,if_neg q];simp -implicitDefEqProofs only [go_sem,seval,bne,d];(with_reducible and_intros)<;>first|exact .dq|omega|skip
  refine aa.pure (hno e) ?_;simp -implicitDefEqProofs only [go_sem,seval];(with_reducible and_intros)<;>first|exact .dq|omega|skip
  all_goals simp [bk.err]
theorem RO (s:af) (c:aZ) (h:s.good) (hk:c.kind=20):Abs.Spec Tryz.prog 29 [] [.agg s.cells,.agg c.cells] [] (.bI [.agg (aQ s c).1.cells,.agg (aQ s c).2.cells]):=by
 have hno:=fun e=>bD e
 have c0:=aP s h.small;have hM:aQ s c=bB s ((j6 3 0 s []).1,(j6 3 0 s []).2.2,0,0,(j6 3 0 s []).2.1,[]):=by unfold aQ;congr 1;simp [fj,hk]
 rw [hM];clear hM;have c1:=yx s h;obtain ⟨R,hR⟩:=aL (j6 3 0 s []);rw [<- hR] at c1 |-;clear hR;obtain ⟨T,ds,e⟩:=R;dsimp only at c1 |-;simp only [af.cells] at c1;simp only [af.cells] at c0 |-;simp only [aZ.cells,hk];refine bg 227 2 [.cell 4 42,.cell 5 67] mixed Tryz.func29 ?_;simp -implicitDefEqProofs only [go_sem,seval];(with_reducible and_intros)<;>first|exact .dq|omega|skip
 refine aa.pure c0 ?_;simp -implicitDefEqProofs only [go_sem,seval];(with_reducible and_intros)<;>first|exact .dq|omega|skip
 refine aa.gen [] [112] false (by simp) ?_;simp -implicitDefEqProofs only [go_sem,seval];refine aY.intro c1 ?_;simp -implicitDefEqProofs only [go_sem,seval];(with_reducible and_intros)<;>first|exact .dq|omega|skip
 by_cases q:e=0
 ·have d:(e==0)=true:=by simpa using q
  simp only [bB,if_pos q];simp -implicitDefEqProofs only [go_sem,seval,bne,d];(with_reducible and_intros)<;>first|exact .dq|omega|skip
  all_goals simp [pl]
 ·have d:(e==0)=false:=by simpa using q
  simp only [bB,if_neg q];simp -implicitDefEqProofs only [go_sem,seval,bne,d];(with_reducible and_intros)<;>first|exact .dq|omega|skip
  refine aa.pure (hno e) ?_;simp -implicitDefEqProofs only [go_sem,seval];(with_reducible and_intros)<;>first|exact .dq|omega|skip
  all_goals simp [bk.err]
theorem RZ (s:af) (c:aZ) (h:s.good) (hk:c.kind=21):Abs.Spec Tryz.prog 29 [] [.agg s.cells,.agg c.cells] [] (.bI [.agg (aQ s c).1.cells,.agg (aQ s c).2.cells]):=by
 have hno:=fun e=>bD e
 have c0:=aP s h.small;have hM:aQ s c=bB s (if aH.right ⟨c.no,c.who,c.cur⟩ then (s,0,0,gw ⟨c.no,c.who,c.cur⟩ s.aU.bs,[],[]) else (s,3,0,0,[],[])):=by unfold aQ;congr 1;simp [fj,hk]
 rw [hM];clear hM;have a1:=gB c.no c.who c.cur;have a2:=fI ⟨c.no,c.who,c.cur⟩;have a3:=j0 s.aU ⟨c.no,c.who,c.cur⟩ h.small.aU;simp only [aH.cells] at a2 a3;simp only [bq.cells] at a3;simp only [af.cells] at c0 |-;simp only [aZ.cells,hk];refine bg 227 2 [.cell 4 42,.cell 5 67] mixed Tryz.func29 ?_;simp -implicitDefEqProofs only [go_sem,seval];(with_reducible and_intros)<;>first|exact .dq|omega|skip
 refine aa.pure c0 ?_;simp -implicitDefEqProofs only [go_sem,seval];(with_reducible and_intros)<;>first|exact .dq|omega|skip
 refine aa.pure a1 ?_;simp -implicitDefEqProofs only [go_sem,seval];(with_reducible and_intros)<;>first|exact .dq|omega|skip
 refine aa.pure a2 ?_;cases b1:aH.right ⟨c.no,c.who,c.cur⟩
 ·rw [if_neg (by decide)];simp only [bB,if_neg (show ¬ (3:Int)=0 by decide)];simp -implicitDefEqProofs only [go_sem,seval];(with_reducible and_intros)<;>first|exact .dq|omega|skip
  refine aa.pure (hno 3) ?_;simp -implicitDefEqProofs only [go_sem,seval];(with_reducible and_intros)<;>first|exact .dq|omega|skip
  all_goals simp [bk.err]
 rw [if_pos rfl];simp -implicitDefEqProofs only [go_sem,seval];(with_reducible and_intros)<;>first|exact .dq|omega|skip
 refine aa.pure a1 ?_;simp -implicitDefEqProofs only [go_sem,seval];(with_reducible and_intros)<;>first|exact .dq|omega|skip
 refine aa.pure a3 ?_;simp only [bB,if_pos (show (0:Int)=0 from rfl)];simp -implicitDefEqProofs only [go_sem,seval];(with_reducible and_intros)<;>first|exact .dq|omega|skip
 all_goals simp [pl]
theorem Tw (s:af) (c:aZ) (h:s.good) (hk:c.kind=22):Abs.Spec Tryz.prog 29 [] [.agg s.cells,.agg c.cells] [] (.bI [.agg (aQ s c).1.cells,.agg (aQ s c).2.cells]):=by
 have hno:=fun e=>bD e
 have c0:=aP s h.small;have hM:aQ s c=bB s (if oA c.who c.inst then (s,0,0,(posOf c.who c.inst s.book.qs).aV,[],[]) else (s,3,0,0,[],[])):=by unfold aQ;congr 1;simp [fj,hk]
 rw [hM];clear hM;have a1:=oI c.who c.inst;have a3:=m9 s.book c.who c.inst h.small.book;obtain ⟨y,hy⟩:=aL (posOf c.who c.inst s.book.qs);rw [<- hy] at a3 |-;clear hy;simp only [aF.cells,aA.cells] at a3;simp only [af.cells] at c0 |-;simp only [aZ.cells,hk];refine bg 227 2 [.cell 4 42,.cell 5 67] mixed Tryz.func29 ?_;simp -implicitDefEqProofs only [go_sem,seval];(with_reducible and_intros)<;>first|exact .dq|omega|skip
 refine aa.pure c0 ?_;simp -implicitDefEqProofs only [go_sem,seval];(with_reducible and_intros)<;>first|exact .dq|omega|skip
 refine aa.pure a1 ?_;cases b1:oA c.who c.inst
 ·rw [if_neg (by decide)];simp only [bB,if_neg (show ¬ (3:Int)=0 by decide)];simp -implicitDefEqProofs only [go_sem,seval];(with_reducible and_intros)<;>first|exact .dq|omega|skip
  refine aa.pure (hno 3) ?_;simp -implicitDefEqProofs only [go_sem,seval];(with_reducible and_intros)<;>first|exact .dq|omega|skip
  all_goals simp [bk.err]
 rw [if_pos rfl];simp -implicitDefEqProofs only [go_sem,seval];(with_reducible and_intros)<;>first|exact .dq|omega|skip
 refine aa.pure a3 ?_;simp only [bB,if_pos (show (0:Int)=0 from rfl)];simp -implicitDefEqProofs only [go_sem,seval];(with_reducible and_intros)<;>first|exact .dq|omega|skip
 all_goals simp [pl]
end Go.Proofs.YtnkobepdbkmedaaGreat
