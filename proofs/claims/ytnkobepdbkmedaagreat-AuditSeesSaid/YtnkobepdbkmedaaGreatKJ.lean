/- The reference's engine: does, kinds 1 to 3, and what follows. No theorem of a claim. -/
import Derived.Test.YtnkobepdbkmedaaGreatKH
set_option linter.unusedSimpArgs false
set_option linter.unusedVariables false
set_option maxHeartbeats 4000000
set_option maxRecDepth 16000
namespace Go.Proofs.YtnkobepdbkmedaaGreat
open Go.Abs
def uN (c:bf):au:=⟨c.inst,c.cur,c.aV,c.bV,0,0,c.s0,c.s1,c.s2,c.s3,c.s4,c.s5⟩
def fj (s:af) (c:bf):af × Int × Int × Int × List aN × List dO:=
 if c.kind=1 then ({ s with aj:=jJ s.aj c.who c.bV },iV s.aj c.who c.bV,0,0,[],[])
 else if c.kind=2 then ({ s with aj:=nM s.aj (uN c) },mo s.aj (uN c),0,0,[],[])
 else if c.kind=3 then ({ s with aj:=nQ s.aj ⟨c.no,c.cur,c.aR,c.bV⟩ },mz s.aj ⟨c.no,c.cur,c.aR,c.bV⟩,0,0,[],[])
 else if c.kind=4\/c.kind=5\/c.kind=8 then ((nV s c).1,(nV s c).2,0,0,[],[])
 else if c.kind=6\/c.kind=7 then ((jS s c (nX c)).1,(jS s c (nX c)).2,0,0,[],[])
 else if c.kind=9 then (if within c.cur 0 2&&within c.bV 1 4611686018427387904 then (j8 s (bN ⟨1,0,c.cur⟩ ⟨4,0,c.cur⟩ c.bV),rZ s (bN ⟨1,0,c.cur⟩ ⟨4,0,c.cur⟩ c.bV),0,0,[],[]) else (s,3,0,0,[],[]))
 else if c.kind=10\/c.kind=11\/c.kind=12\/c.kind=13 then (if s.phase=0 then ((iL s c).1,(iL s c).2.2,(iL s c).2.1,0,[],[]) else (s,15,0,0,[],[]))
 else if c.kind=14 then (jA s,gJ s,0,0,oV s,[])
 else if c.kind=15 then (iZ s,iA s,0,0,m9 s,[])
 else if c.kind=16 then (rL s,rR s,0,0,[],[])
 else if c.kind=17 then (gD s c.bV,nR s c.bV,0,0,wQ s c.bV,[])
 else if c.kind=18 then ((pW s c).1,(pW s c).2,0,0,[],[])
 else if c.kind=19 then (lT s c.who,uq s c.who,0,0,G7 s c.who,Gt s c.who)
 else if c.kind=20 then ((j6 3 0 s []).1,(j6 3 0 s []).2.2,0,0,(j6 3 0 s []).2.1,[])
 else if c.kind=21 then (if aH.right ⟨c.no,c.who,c.cur⟩ then (s,0,0,gB ⟨c.no,c.who,c.cur⟩ s.aU.bs,[],[]) else (s,3,0,0,[],[]))
 else if c.kind=22 then (if ot c.who c.inst then (s,0,0,(posOf c.who c.inst s.book.qs).aV,[],[]) else (s,3,0,0,[],[]))
 else (s,0,0,0,[],[])
def bA (s:af) (m:af × Int × Int × Int × List aN × List dO):af × bk:=if m.2.1=0 then (m.1,⟨0,m.2.2.1,m.2.2.2.1,m.2.2.2.2.1,m.2.2.2.2.2⟩) else (s,.err m.2.1)
def aQ (s:af) (c:bf):af × bk:=bA s (fj s c)
theorem V9 (s:af) (c:bf) (h:s.good) (hk:c.kind=1):Abs.Spec Tryz.prog 29 [] [.agg s.cells,.agg c.cells] [] (.bH [.agg (aQ s c).1.cells,.agg (aQ s c).2.cells]):=by
 have hno:=fun e=>bC e
 have c0:=aP s h.small;have hM:aQ s c=bA s ({ s with aj:=jJ s.aj c.who c.bV },iV s.aj c.who c.bV,0,0,[],[]):=by unfold aQ;congr 1;simp [fj,hk]
 rw [hM];clear hM;have c1:=DF s.aj c.who c.bV h.small.aj;obtain ⟨A,hA⟩:=aL (jJ s.aj c.who c.bV);obtain ⟨e,he⟩:=aL (iV s.aj c.who c.bV);rw [<- hA,<- he] at c1 |-;clear hA he;simp only [aq.cells] at c1;simp only [af.cells] at c0 |-;simp only [bf.cells,hk];refine bg 227 2 [.cell 4 42,.cell 5 67] mixed Tryz.func29 ?_;simp only [go_sem,seval];(with_reducible and_intros)<;>first|exact .dq|omega|skip
 refine aa.pure c0 ?_;simp only [go_sem,seval];(with_reducible and_intros)<;>first|exact .dq|omega|skip
 refine aa.pure c1 ?_;simp only [go_sem,seval];(with_reducible and_intros)<;>first|exact .dq|omega|skip
 by_cases q:e=0
 ·have d:(e==0)=true:=by simpa using q
  simp only [bA,if_pos q];simp only [go_sem,seval,bne,d];(with_reducible and_intros)<;>first|exact .dq|omega|skip
  all_goals simp [pl]
 ·have d:(e==0)=false:=by simpa using q
  simp only [bA,if_neg q];simp only [go_sem,seval,bne,d];(with_reducible and_intros)<;>first|exact .dq|omega|skip
  refine aa.pure (hno e) ?_;simp only [go_sem,seval];(with_reducible and_intros)<;>first|exact .dq|omega|skip
  all_goals simp [bk.err]
theorem Wx (s:af) (c:bf) (h:s.good) (hk:c.kind=2):Abs.Spec Tryz.prog 29 [] [.agg s.cells,.agg c.cells] [] (.bH [.agg (aQ s c).1.cells,.agg (aQ s c).2.cells]):=by
 have hno:=fun e=>bC e
 have c0:=aP s h.small;have hM:aQ s c=bA s ({ s with aj:=nM s.aj (uN c) },mo s.aj (uN c),0,0,[],[]):=by unfold aQ;congr 1;simp [fj,hk]
 rw [hM];clear hM;have c1:=Hi s.aj (uN c) h.small.aj;obtain ⟨A,hA⟩:=aL (nM s.aj (uN c));obtain ⟨e,he⟩:=aL (mo s.aj (uN c));rw [<- hA,<- he] at c1 |-;clear hA he;simp only [aq.cells,uN,au.cells] at c1;simp only [af.cells] at c0 |-;simp only [bf.cells,hk];refine bg 227 2 [.cell 4 42,.cell 5 67] mixed Tryz.func29 ?_;simp only [go_sem,seval];(with_reducible and_intros)<;>first|exact .dq|omega|skip
 refine aa.pure c0 ?_;simp only [go_sem,seval];(with_reducible and_intros)<;>first|exact .dq|omega|skip
 refine aa.pure c1 ?_;simp only [go_sem,seval];(with_reducible and_intros)<;>first|exact .dq|omega|skip
 by_cases q:e=0
 ·have d:(e==0)=true:=by simpa using q
  simp only [bA,if_pos q];simp only [go_sem,seval,bne,d];(with_reducible and_intros)<;>first|exact .dq|omega|skip
  all_goals simp [pl]
 ·have d:(e==0)=false:=by simpa using q
  simp only [bA,if_neg q];simp only [go_sem,seval,bne,d];(with_reducible and_intros)<;>first|exact .dq|omega|skip
  refine aa.pure (hno e) ?_;simp only [go_sem,seval];(with_reducible and_intros)<;>first|exact .dq|omega|skip
  all_goals simp [bk.err]
theorem Vg (s:af) (c:bf) (h:s.good) (hk:c.kind=3):Abs.Spec Tryz.prog 29 [] [.agg s.cells,.agg c.cells] [] (.bH [.agg (aQ s c).1.cells,.agg (aQ s c).2.cells]):=by
 have hno:=fun e=>bC e
 have c0:=aP s h.small;have hM:aQ s c=bA s ({ s with aj:=nQ s.aj ⟨c.no,c.cur,c.aR,c.bV⟩ },mz s.aj ⟨c.no,c.cur,c.aR,c.bV⟩,0,0,[],[]):=by unfold aQ;congr 1;simp [fj,hk]
 rw [hM];clear hM;have c1:=Hy s.aj ⟨c.no,c.cur,c.aR,c.bV⟩ h.small.aj;obtain ⟨A,hA⟩:=aL (nQ s.aj ⟨c.no,c.cur,c.aR,c.bV⟩);obtain ⟨e,he⟩:=aL (mz s.aj ⟨c.no,c.cur,c.aR,c.bV⟩);rw [<- hA,<- he] at c1 |-;clear hA he;simp only [aq.cells,av.cells] at c1;simp only [af.cells] at c0 |-;simp only [bf.cells,hk];refine bg 227 2 [.cell 4 42,.cell 5 67] mixed Tryz.func29 ?_;simp only [go_sem,seval];(with_reducible and_intros)<;>first|exact .dq|omega|skip
 refine aa.pure c0 ?_;simp only [go_sem,seval];(with_reducible and_intros)<;>first|exact .dq|omega|skip
 refine aa.pure c1 ?_;simp only [go_sem,seval];(with_reducible and_intros)<;>first|exact .dq|omega|skip
 by_cases q:e=0
 ·have d:(e==0)=true:=by simpa using q
  simp only [bA,if_pos q];simp only [go_sem,seval,bne,d];(with_reducible and_intros)<;>first|exact .dq|omega|skip
  all_goals simp [pl]
 ·have d:(e==0)=false:=by simpa using q
  simp only [bA,if_neg q];simp only [go_sem,seval,bne,d];(with_reducible and_intros)<;>first|exact .dq|omega|skip
  refine aa.pure (hno e) ?_;simp only [go_sem,seval];(with_reducible and_intros)<;>first|exact .dq|omega|skip
  all_goals simp [bk.err]
theorem VA (s:af) (c:bf) (h:s.good) (hk:c.kind=4):Abs.Spec Tryz.prog 29 [] [.agg s.cells,.agg c.cells] [] (.bH [.agg (aQ s c).1.cells,.agg (aQ s c).2.cells]):=by
 have hno:=fun e=>bC e
 have c0:=aP s h.small;have hM:aQ s c=bA s ((nV s c).1,(nV s c).2,0,0,[],[]):=by unfold aQ;congr 1;simp [fj,hk]
 rw [hM];clear hM;have c1:=o8 s c h;obtain ⟨R,hR⟩:=aL (nV s c);rw [<- hR] at c1 |-;clear hR;obtain ⟨T,e⟩:=R;dsimp only at c1 |-;simp only [af.cells,bf.cells,hk] at c1;simp only [af.cells] at c0 |-;simp only [bf.cells,hk];refine bg 227 2 [.cell 4 42,.cell 5 67] mixed Tryz.func29 ?_;simp -implicitDefEqProofs only [go_sem,seval];(with_reducible and_intros)<;>first|exact .dq|omega|skip
 refine aa.pure c0 ?_;simp -implicitDefEqProofs only [go_sem,seval];(with_reducible and_intros)<;>first|exact .dq|omega|skip
 refine aa.gen [] [112] false (by simp) ?_;simp -implicitDefEqProofs only [go_sem,seval];refine aY.intro c1 ?_;simp -implicitDefEqProofs only [go_sem,seval];(with_reducible and_intros)<;>first|exact .dq|omega|skip
 by_cases q:e=0
 ·have d:(e==0)=true:=by simpa using q
  simp only [bA,if_pos q];simp -implicitDefEqProofs only [go_sem,seval,bne,d];(with_reducible and_intros)<;>first|exact .dq|omega|skip
  all_goals simp [pl]
 ·have d:(e==0)=false:=by simpa using q
  simp only [bA,if_neg q];simp -implicitDefEqProofs only [go_sem,seval,bne,d];(with_reducible and_intros)<;>first|exact .dq|omega|skip
  refine aa.pure (hno e) ?_;simp -implicitDefEqProofs only [go_sem,seval];(with_reducible and_intros)<;>first|exact .dq|omega|skip
  all_goals simp [bk.err]
theorem Wq (s:af) (c:bf) (h:s.good) (hk:c.kind=5):Abs.Spec Tryz.prog 29 [] [.agg s.cells,.agg c.cells] [] (.bH [.agg (aQ s c).1.cells,.agg (aQ s c).2.cells]):=by
 have hno:=fun e=>bC e
 have c0:=aP s h.small;have hM:aQ s c=bA s ((nV s c).1,(nV s c).2,0,0,[],[]):=by unfold aQ;congr 1;simp [fj,hk]
 rw [hM];clear hM;have c1:=o8 s c h;obtain ⟨R,hR⟩:=aL (nV s c);rw [<- hR] at c1 |-;clear hR;obtain ⟨T,e⟩:=R;dsimp only at c1 |-;simp only [af.cells,bf.cells,hk] at c1;simp only [af.cells] at c0 |-;simp only [bf.cells,hk];refine bg 227 2 [.cell 4 42,.cell 5 67] mixed Tryz.func29 ?_;simp -implicitDefEqProofs only [go_sem,seval];(with_reducible and_intros)<;>first|exact .dq|omega|skip
 refine aa.pure c0 ?_;simp -implicitDefEqProofs only [go_sem,seval];(with_reducible and_intros)<;>first|exact .dq|omega|skip
 refine aa.gen [] [112] false (by simp) ?_;simp -implicitDefEqProofs only [go_sem,seval];refine aY.intro c1 ?_;simp -implicitDefEqProofs only [go_sem,seval];(with_reducible and_intros)<;>first|exact .dq|omega|skip
 by_cases q:e=0
 ·have d:(e==0)=true:=by simpa using q
  simp only [bA,if_pos q];simp -implicitDefEqProofs only [go_sem,seval,bne,d];(with_reducible and_intros)<;>first|exact .dq|omega|skip
  all_goals simp [pl]
 ·have d:(e==0)=false:=by simpa using q
  simp only [bA,if_neg q];simp -implicitDefEqProofs only [go_sem,seval,bne,d];(with_reducible and_intros)<;>first|exact .dq|omega|skip
  refine aa.pure (hno e) ?_;simp -implicitDefEqProofs only [go_sem,seval];(with_reducible and_intros)<;>first|exact .dq|omega|skip
  all_goals simp [bk.err]
theorem WC (s:af) (c:bf) (h:s.good) (hk:c.kind=8):Abs.Spec Tryz.prog 29 [] [.agg s.cells,.agg c.cells] [] (.bH [.agg (aQ s c).1.cells,.agg (aQ s c).2.cells]):=by
 have hno:=fun e=>bC e
 have c0:=aP s h.small;have hM:aQ s c=bA s ((nV s c).1,(nV s c).2,0,0,[],[]):=by unfold aQ;congr 1;simp [fj,hk]
 rw [hM];clear hM;have c1:=o8 s c h;obtain ⟨R,hR⟩:=aL (nV s c);rw [<- hR] at c1 |-;clear hR;obtain ⟨T,e⟩:=R;dsimp only at c1 |-;simp only [af.cells,bf.cells,hk] at c1;simp only [af.cells] at c0 |-;simp only [bf.cells,hk];refine bg 227 2 [.cell 4 42,.cell 5 67] mixed Tryz.func29 ?_;simp -implicitDefEqProofs only [go_sem,seval];(with_reducible and_intros)<;>first|exact .dq|omega|skip
 refine aa.pure c0 ?_;simp -implicitDefEqProofs only [go_sem,seval];(with_reducible and_intros)<;>first|exact .dq|omega|skip
 refine aa.gen [] [112] false (by simp) ?_;simp -implicitDefEqProofs only [go_sem,seval];refine aY.intro c1 ?_;simp -implicitDefEqProofs only [go_sem,seval];(with_reducible and_intros)<;>first|exact .dq|omega|skip
 by_cases q:e=0
 ·have d:(e==0)=true:=by simpa using q
  simp only [bA,if_pos q];simp -implicitDefEqProofs only [go_sem,seval,bne,d];(with_reducible and_intros)<;>first|exact .dq|omega|skip
  all_goals simp [pl]
 ·have d:(e==0)=false:=by simpa using q
  simp only [bA,if_neg q];simp -implicitDefEqProofs only [go_sem,seval,bne,d];(with_reducible and_intros)<;>first|exact .dq|omega|skip
  refine aa.pure (hno e) ?_;simp -implicitDefEqProofs only [go_sem,seval];(with_reducible and_intros)<;>first|exact .dq|omega|skip
  all_goals simp [bk.err]
theorem W2 (s:af) (c:bf) (h:s.good) (hk:c.kind=6):Abs.Spec Tryz.prog 29 [] [.agg s.cells,.agg c.cells] [] (.bH [.agg (aQ s c).1.cells,.agg (aQ s c).2.cells]):=by
 have hno:=fun e=>bC e
 have c0:=aP s h.small;have hM:aQ s c=bA s ((jS s c (nX c)).1,(jS s c (nX c)).2,0,0,[],[]):=by unfold aQ;congr 1;simp [fj,hk]
 rw [hM];clear hM;have c1:=qg s c h;obtain ⟨R,hR⟩:=aL (jS s c (nX c));rw [<- hR] at c1 |-;clear hR;obtain ⟨T,e⟩:=R;dsimp only at c1 |-;simp only [af.cells,bf.cells,hk] at c1;simp only [af.cells] at c0 |-;simp only [bf.cells,hk];refine bg 227 2 [.cell 4 42,.cell 5 67] mixed Tryz.func29 ?_;simp -implicitDefEqProofs only [go_sem,seval];(with_reducible and_intros)<;>first|exact .dq|omega|skip
 refine aa.pure c0 ?_;simp -implicitDefEqProofs only [go_sem,seval];(with_reducible and_intros)<;>first|exact .dq|omega|skip
 refine aa.gen [] [112] false (by simp) ?_;simp -implicitDefEqProofs only [go_sem,seval];refine aY.intro c1 ?_;simp -implicitDefEqProofs only [go_sem,seval];(with_reducible and_intros)<;>first|exact .dq|omega|skip
 by_cases q:e=0
 ·have d:(e==0)=true:=by simpa using q
  simp only [bA,if_pos q];simp -implicitDefEqProofs only [go_sem,seval,bne,d];(with_reducible and_intros)<;>first|exact .dq|omega|skip
  all_goals simp [pl]
 ·have d:(e==0)=false:=by simpa using q
  simp only [bA,if_neg q];simp -implicitDefEqProofs only [go_sem,seval,bne,d];(with_reducible and_intros)<;>first|exact .dq|omega|skip
  refine aa.pure (hno e) ?_;simp -implicitDefEqProofs only [go_sem,seval];(with_reducible and_intros)<;>first|exact .dq|omega|skip
  all_goals simp [bk.err]
theorem Wo (s:af) (c:bf) (h:s.good) (hk:c.kind=7):Abs.Spec Tryz.prog 29 [] [.agg s.cells,.agg c.cells] [] (.bH [.agg (aQ s c).1.cells,.agg (aQ s c).2.cells]):=by
 have hno:=fun e=>bC e
 have c0:=aP s h.small;have hM:aQ s c=bA s ((jS s c (nX c)).1,(jS s c (nX c)).2,0,0,[],[]):=by unfold aQ;congr 1;simp [fj,hk]
 rw [hM];clear hM;have c1:=qg s c h;obtain ⟨R,hR⟩:=aL (jS s c (nX c));rw [<- hR] at c1 |-;clear hR;obtain ⟨T,e⟩:=R;dsimp only at c1 |-;simp only [af.cells,bf.cells,hk] at c1;simp only [af.cells] at c0 |-;simp only [bf.cells,hk];refine bg 227 2 [.cell 4 42,.cell 5 67] mixed Tryz.func29 ?_;simp -implicitDefEqProofs only [go_sem,seval];(with_reducible and_intros)<;>first|exact .dq|omega|skip
 refine aa.pure c0 ?_;simp -implicitDefEqProofs only [go_sem,seval];(with_reducible and_intros)<;>first|exact .dq|omega|skip
 refine aa.gen [] [112] false (by simp) ?_;simp -implicitDefEqProofs only [go_sem,seval];refine aY.intro c1 ?_;simp -implicitDefEqProofs only [go_sem,seval];(with_reducible and_intros)<;>first|exact .dq|omega|skip
 by_cases q:e=0
 ·have d:(e==0)=true:=by simpa using q
  simp only [bA,if_pos q];simp -implicitDefEqProofs only [go_sem,seval,bne,d];(with_reducible and_intros)<;>first|exact .dq|omega|skip
  all_goals simp [pl]
 ·have d:(e==0)=false:=by simpa using q
  simp only [bA,if_neg q];simp -implicitDefEqProofs only [go_sem,seval,bne,d];(with_reducible and_intros)<;>first|exact .dq|omega|skip
  refine aa.pure (hno e) ?_;simp -implicitDefEqProofs only [go_sem,seval];(with_reducible and_intros)<;>first|exact .dq|omega|skip
  all_goals simp [bk.err]
theorem Wk (s:af) (c:bf) (h:s.good) (hk:c.kind=9):Abs.Spec Tryz.prog 29 [] [.agg s.cells,.agg c.cells] [] (.bH [.agg (aQ s c).1.cells,.agg (aQ s c).2.cells]):=by
 have hno:=fun e=>bC e
 have c0:=aP s h.small;have hM:aQ s c=bA s (if within c.cur 0 2&&within c.bV 1 4611686018427387904 then (j8 s (bN ⟨1,0,c.cur⟩ ⟨4,0,c.cur⟩ c.bV),rZ s (bN ⟨1,0,c.cur⟩ ⟨4,0,c.cur⟩ c.bV),0,0,[],[]) else (s,3,0,0,[],[])):=by unfold aQ;congr 1;simp [fj,hk]
 rw [hM];clear hM;have a1:=fA c.cur;have a2:=ga c.bV 1 4611686018427387904;have a3:=gx 1 0 c.cur;have a4:=gx 4 0 c.cur;have a5:=ij ⟨1,0,c.cur⟩ ⟨4,0,c.cur⟩ c.bV;have c1:=iF s (bN ⟨1,0,c.cur⟩ ⟨4,0,c.cur⟩ c.bV) h.small.aU h.cE.bs (by simp [bN]);obtain ⟨g,hg⟩:=aL (bN ⟨1,0,c.cur⟩ ⟨4,0,c.cur⟩ c.bV);rw [<- hg] at a5 c1 |-;clear hg;obtain ⟨T,hT⟩:=aL (j8 s g);obtain ⟨e,he⟩:=aL (rZ s g);rw [<- hT,<- he] at c1 |-;clear hT he;simp only [af.cells] at c1;simp only [aH.cells] at a5;simp only [af.cells] at c0 |-;simp only [bf.cells,hk];refine bg 227 2 [.cell 4 42,.cell 5 67] mixed Tryz.func29 ?_;simp -implicitDefEqProofs only [go_sem,seval];(with_reducible and_intros)<;>first|exact .dq|omega|skip
 refine aa.pure c0 ?_;simp -implicitDefEqProofs only [go_sem,seval];(with_reducible and_intros)<;>first|exact .dq|omega|skip
 refine aa.pure a1 ?_;cases b1:within c.cur 0 2
 ·rw [Bool.false_and,if_neg (by decide)];simp only [bA,if_neg (show ¬ (3:Int)=0 by decide)];simp -implicitDefEqProofs only [go_sem,seval];(with_reducible and_intros)<;>first|exact .dq|omega|skip
  refine aa.pure (hno 3) ?_;simp -implicitDefEqProofs only [go_sem,seval];(with_reducible and_intros)<;>first|exact .dq|omega|skip
  all_goals simp [bk.err]
 simp -implicitDefEqProofs only [go_sem,seval];(with_reducible and_intros)<;>first|exact .dq|omega|skip
 refine aa.pure a2 ?_;cases b2:within c.bV 1 4611686018427387904
 ·rw [if_neg (by decide)];simp only [bA,if_neg (show ¬ (3:Int)=0 by decide)];simp -implicitDefEqProofs only [go_sem,seval];(with_reducible and_intros)<;>first|exact .dq|omega|skip
  refine aa.pure (hno 3) ?_;simp -implicitDefEqProofs only [go_sem,seval];(with_reducible and_intros)<;>first|exact .dq|omega|skip
  all_goals simp [bk.err]
 rw [if_pos rfl];simp -implicitDefEqProofs only [go_sem,seval];(with_reducible and_intros)<;>first|exact .dq|omega|skip
 refine aa.pure a3 ?_;simp -implicitDefEqProofs only [go_sem,seval];(with_reducible and_intros)<;>first|exact .dq|omega|skip
 refine aa.pure a4 ?_;simp -implicitDefEqProofs only [go_sem,seval];(with_reducible and_intros)<;>first|exact .dq|omega|skip
 refine aa.pure a5 ?_;simp -implicitDefEqProofs only [go_sem,seval];(with_reducible and_intros)<;>first|exact .dq|omega|skip
 refine aa.gen [] [112] false (by simp) ?_;simp -implicitDefEqProofs only [go_sem,seval];refine aY.intro c1 ?_;simp -implicitDefEqProofs only [go_sem,seval];(with_reducible and_intros)<;>first|exact .dq|omega|skip
 by_cases q:e=0
 ·have d:(e==0)=true:=by simpa using q
  simp only [bA,if_pos q];simp -implicitDefEqProofs only [go_sem,seval,bne,d];(with_reducible and_intros)<;>first|exact .dq|omega|skip
  all_goals simp [pl]
 ·have d:(e==0)=false:=by simpa using q
  simp only [bA,if_neg q];simp -implicitDefEqProofs only [go_sem,seval,bne,d];(with_reducible and_intros)<;>first|exact .dq|omega|skip
  refine aa.pure (hno e) ?_;simp -implicitDefEqProofs only [go_sem,seval];(with_reducible and_intros)<;>first|exact .dq|omega|skip
  all_goals simp [bk.err]
theorem SK (s:af) (c:bf) (h:s.good) (hk:c.kind=10):Abs.Spec Tryz.prog 29 [] [.agg s.cells,.agg c.cells] [] (.bH [.agg (aQ s c).1.cells,.agg (aQ s c).2.cells]):=by
 have hno:=fun e=>bC e
 have c0:=aP s h.small;have hM:aQ s c=bA s (if s.phase=0 then ((iL s c).1,(iL s c).2.2,(iL s c).2.1,0,[],[]) else (s,15,0,0,[],[])):=by unfold aQ;congr 1;simp [fj,hk]
 rw [hM];clear hM;have c1:=jd s c h;obtain ⟨R,hR⟩:=aL (iL s c);rw [<- hR] at c1 |-;clear hR;obtain ⟨T,no,e⟩:=R;dsimp only at c1 |-;simp only [af.cells,bf.cells,hk] at c1;simp only [af.cells] at c0 |-;simp only [bf.cells,hk];refine bg 227 2 [.cell 4 42,.cell 5 67] mixed Tryz.func29 ?_;simp -implicitDefEqProofs only [go_sem,seval];(with_reducible and_intros)<;>first|exact .dq|omega|skip
 refine aa.pure c0 ?_;simp -implicitDefEqProofs only [go_sem,seval];(with_reducible and_intros)<;>first|exact .dq|omega|skip
 by_cases b1:s.phase=0
 case neg =>
  have d:(s.phase==0)=false:=by simpa using b1
  rw [if_neg b1];simp only [bA,if_neg (show ¬ (15:Int)=0 by decide)];simp -implicitDefEqProofs only [go_sem,seval,bne,d];(with_reducible and_intros)<;>first|exact .dq|omega|skip
  refine aa.pure (hno 15) ?_;simp -implicitDefEqProofs only [go_sem,seval];(with_reducible and_intros)<;>first|exact .dq|omega|skip
  all_goals simp [bk.err]
 have d1:(s.phase==0)=true:=by simpa using b1
 rw [if_pos b1];simp -implicitDefEqProofs only [go_sem,seval,bne,d1];(with_reducible and_intros)<;>first|exact .dq|omega|skip
 refine aa.gen [] [112] false (by simp) ?_;simp -implicitDefEqProofs only [go_sem,seval];refine aY.intro c1 ?_;simp -implicitDefEqProofs only [go_sem,seval];(with_reducible and_intros)<;>first|exact .dq|omega|skip
 by_cases q:e=0
 ·have d:(e==0)=true:=by simpa using q
  simp only [bA,if_pos q];simp -implicitDefEqProofs only [go_sem,seval,bne,d];(with_reducible and_intros)<;>first|exact .dq|omega|skip
  all_goals simp [pl]
 ·have d:(e==0)=false:=by simpa using q
  simp only [bA,if_neg q];simp -implicitDefEqProofs only [go_sem,seval,bne,d];(with_reducible and_intros)<;>first|exact .dq|omega|skip
  refine aa.pure (hno e) ?_;simp -implicitDefEqProofs only [go_sem,seval];(with_reducible and_intros)<;>first|exact .dq|omega|skip
  all_goals simp [bk.err]
theorem SB (s:af) (c:bf) (h:s.good) (hk:c.kind=11):Abs.Spec Tryz.prog 29 [] [.agg s.cells,.agg c.cells] [] (.bH [.agg (aQ s c).1.cells,.agg (aQ s c).2.cells]):=by
 have hno:=fun e=>bC e
 have c0:=aP s h.small;have hM:aQ s c=bA s (if s.phase=0 then ((iL s c).1,(iL s c).2.2,(iL s c).2.1,0,[],[]) else (s,15,0,0,[],[])):=by unfold aQ;congr 1;simp [fj,hk]
 rw [hM];clear hM;have c1:=jd s c h;obtain ⟨R,hR⟩:=aL (iL s c);rw [<- hR] at c1 |-;clear hR;obtain ⟨T,no,e⟩:=R;dsimp only at c1 |-;simp only [af.cells,bf.cells,hk] at c1;simp only [af.cells] at c0 |-;simp only [bf.cells,hk];refine bg 227 2 [.cell 4 42,.cell 5 67] mixed Tryz.func29 ?_;simp -implicitDefEqProofs only [go_sem,seval];(with_reducible and_intros)<;>first|exact .dq|omega|skip
 refine aa.pure c0 ?_;simp -implicitDefEqProofs only [go_sem,seval];(with_reducible and_intros)<;>first|exact .dq|omega|skip
 by_cases b1:s.phase=0
 case neg =>
  have d:(s.phase==0)=false:=by simpa using b1
  rw [if_neg b1];simp only [bA,if_neg (show ¬ (15:Int)=0 by decide)];simp -implicitDefEqProofs only [go_sem,seval,bne,d];(with_reducible and_intros)<;>first|exact .dq|omega|skip
  refine aa.pure (hno 15) ?_;simp -implicitDefEqProofs only [go_sem,seval];(with_reducible and_intros)<;>first|exact .dq|omega|skip
  all_goals simp [bk.err]
 have d1:(s.phase==0)=true:=by simpa using b1
 rw [if_pos b1];simp -implicitDefEqProofs only [go_sem,seval,bne,d1];(with_reducible and_intros)<;>first|exact .dq|omega|skip
 refine aa.gen [] [112] false (by simp) ?_;simp -implicitDefEqProofs only [go_sem,seval];refine aY.intro c1 ?_;simp -implicitDefEqProofs only [go_sem,seval];(with_reducible and_intros)<;>first|exact .dq|omega|skip
 by_cases q:e=0
 ·have d:(e==0)=true:=by simpa using q
  simp only [bA,if_pos q];simp -implicitDefEqProofs only [go_sem,seval,bne,d];(with_reducible and_intros)<;>first|exact .dq|omega|skip
  all_goals simp [pl]
 ·have d:(e==0)=false:=by simpa using q
  simp only [bA,if_neg q];simp -implicitDefEqProofs only [go_sem,seval,bne,d];(with_reducible and_intros)<;>first|exact .dq|omega|skip
  refine aa.pure (hno e) ?_;simp -implicitDefEqProofs only [go_sem,seval];(with_reducible and_intros)<;>first|exact .dq|omega|skip
  all_goals simp [bk.err]
theorem SS (s:af) (c:bf) (h:s.good) (hk:c.kind=12):Abs.Spec Tryz.prog 29 [] [.agg s.cells,.agg c.cells] [] (.bH [.agg (aQ s c).1.cells,.agg (aQ s c).2.cells]):=by
 have hno:=fun e=>bC e
 have c0:=aP s h.small;have hM:aQ s c=bA s (if s.phase=0 then ((iL s c).1,(iL s c).2.2,(iL s c).2.1,0,[],[]) else (s,15,0,0,[],[])):=by unfold aQ;congr 1;simp [fj,hk]
 rw [hM];clear hM;have c1:=jd s c h;obtain ⟨R,hR⟩:=aL (iL s c);rw [<- hR] at c1 |-;clear hR;obtain ⟨T,no,e⟩:=R;dsimp only at c1 |-;simp only [af.cells,bf.cells,hk] at c1;simp only [af.cells] at c0 |-;simp only [bf.cells,hk];refine bg 227 2 [.cell 4 42,.cell 5 67] mixed Tryz.func29 ?_;simp -implicitDefEqProofs only [go_sem,seval];(with_reducible and_intros)<;>first|exact .dq|omega|skip
 refine aa.pure c0 ?_;simp -implicitDefEqProofs only [go_sem,seval];(with_reducible and_intros)<;>first|exact .dq|omega|skip
 by_cases b1:s.phase=0
 case neg =>
  have d:(s.phase==0)=false:=by simpa using b1
  rw [if_neg b1];simp only [bA,if_neg (show ¬ (15:Int)=0 by decide)];simp -implicitDefEqProofs only [go_sem,seval,bne,d];(with_reducible and_intros)<;>first|exact .dq|omega|skip
  refine aa.pure (hno 15) ?_;simp -implicitDefEqProofs only [go_sem,seval];(with_reducible and_intros)<;>first|exact .dq|omega|skip
  all_goals simp [bk.err]
 have d1:(s.phase==0)=true:=by simpa using b1
 rw [if_pos b1];simp -implicitDefEqProofs only [go_sem,seval,bne,d1];(with_reducible and_intros)<;>first|exact .dq|omega|skip
 refine aa.gen [] [112] false (by simp) ?_;simp -implicitDefEqProofs only [go_sem,seval];refine aY.intro c1 ?_;simp -implicitDefEqProofs only [go_sem,seval];(with_reducible and_intros)<;>first|exact .dq|omega|skip
 by_cases q:e=0
 ·have d:(e==0)=true:=by simpa using q
  simp only [bA,if_pos q];simp -implicitDefEqProofs only [go_sem,seval,bne,d];(with_reducible and_intros)<;>first|exact .dq|omega|skip
  all_goals simp [pl]
 ·have d:(e==0)=false:=by simpa using q
  simp only [bA,if_neg q];simp -implicitDefEqProofs only [go_sem,seval,bne,d];(with_reducible and_intros)<;>first|exact .dq|omega|skip
  refine aa.pure (hno e) ?_;simp -implicitDefEqProofs only [go_sem,seval];(with_reducible and_intros)<;>first|exact .dq|omega|skip
  all_goals simp [bk.err]
theorem TA (s:af) (c:bf) (h:s.good) (hk:c.kind=13):Abs.Spec Tryz.prog 29 [] [.agg s.cells,.agg c.cells] [] (.bH [.agg (aQ s c).1.cells,.agg (aQ s c).2.cells]):=by
 have hno:=fun e=>bC e
 have c0:=aP s h.small;have hM:aQ s c=bA s (if s.phase=0 then ((iL s c).1,(iL s c).2.2,(iL s c).2.1,0,[],[]) else (s,15,0,0,[],[])):=by unfold aQ;congr 1;simp [fj,hk]
 rw [hM];clear hM;have c1:=jd s c h;obtain ⟨R,hR⟩:=aL (iL s c);rw [<- hR] at c1 |-;clear hR;obtain ⟨T,no,e⟩:=R;dsimp only at c1 |-;simp only [af.cells,bf.cells,hk] at c1;simp only [af.cells] at c0 |-;simp only [bf.cells,hk];refine bg 227 2 [.cell 4 42,.cell 5 67] mixed Tryz.func29 ?_;simp -implicitDefEqProofs only [go_sem,seval];(with_reducible and_intros)<;>first|exact .dq|omega|skip
 refine aa.pure c0 ?_;simp -implicitDefEqProofs only [go_sem,seval];(with_reducible and_intros)<;>first|exact .dq|omega|skip
 by_cases b1:s.phase=0
 case neg =>
  have d:(s.phase==0)=false:=by simpa using b1
  rw [if_neg b1];simp only [bA,if_neg (show ¬ (15:Int)=0 by decide)];simp -implicitDefEqProofs only [go_sem,seval,bne,d];(with_reducible and_intros)<;>first|exact .dq|omega|skip
  refine aa.pure (hno 15) ?_;simp -implicitDefEqProofs only [go_sem,seval];(with_reducible and_intros)<;>first|exact .dq|omega|skip
  all_goals simp [bk.err]
 have d1:(s.phase==0)=true:=by simpa using b1
 rw [if_pos b1];simp -implicitDefEqProofs only [go_sem,seval,bne,d1];(with_reducible and_intros)<;>first|exact .dq|omega|skip
 refine aa.gen [] [112] false (by simp) ?_;simp -implicitDefEqProofs only [go_sem,seval];refine aY.intro c1 ?_;simp -implicitDefEqProofs only [go_sem,seval];(with_reducible and_intros)<;>first|exact .dq|omega|skip
 by_cases q:e=0
 ·have d:(e==0)=true:=by simpa using q
  simp only [bA,if_pos q];simp -implicitDefEqProofs only [go_sem,seval,bne,d];(with_reducible and_intros)<;>first|exact .dq|omega|skip
  all_goals simp [pl]
 ·have d:(e==0)=false:=by simpa using q
  simp only [bA,if_neg q];simp -implicitDefEqProofs only [go_sem,seval,bne,d];(with_reducible and_intros)<;>first|exact .dq|omega|skip
  refine aa.pure (hno e) ?_;simp -implicitDefEqProofs only [go_sem,seval];(with_reducible and_intros)<;>first|exact .dq|omega|skip
  all_goals simp [bk.err]
theorem R9 (s:af) (c:bf) (h:s.good) (hk:c.kind=14):Abs.Spec Tryz.prog 29 [] [.agg s.cells,.agg c.cells] [] (.bH [.agg (aQ s c).1.cells,.agg (aQ s c).2.cells]):=by
 have hno:=fun e=>bC e
 have c0:=aP s h.small;have hM:aQ s c=bA s (jA s,gJ s,0,0,oV s,[]):=by unfold aQ;congr 1;simp [fj,hk]
 rw [hM];clear hM;have c1:=Dd s h.small h.cE h.qs;obtain ⟨T,hT⟩:=aL (jA s);obtain ⟨e,he⟩:=aL (gJ s);obtain ⟨ds,hds⟩:∃ l,l=oV s:=⟨_,rfl⟩
 rw [<- hT,<- he,<- hds] at c1 |-;clear hT he hds;simp only [af.cells] at c1;simp only [af.cells] at c0 |-;simp only [bf.cells,hk];refine bg 227 2 [.cell 4 42,.cell 5 67] mixed Tryz.func29 ?_;simp -implicitDefEqProofs only [go_sem,seval];(with_reducible and_intros)<;>first|exact .dq|omega|skip
 refine aa.pure c0 ?_;simp -implicitDefEqProofs only [go_sem,seval];(with_reducible and_intros)<;>first|exact .dq|omega|skip
 refine aa.pure c1 ?_;simp -implicitDefEqProofs only [go_sem,seval];(with_reducible and_intros)<;>first|exact .dq|omega|skip
 by_cases q:e=0
 ·have d:(e==0)=true:=by simpa using q
  simp only [bA,if_pos q];simp -implicitDefEqProofs only [go_sem,seval,bne,d];(with_reducible and_intros)<;>first|exact .dq|omega|skip
  all_goals simp [pl]
 ·have d:(e==0)=false:=by simpa using q
  simp only [bA,if_neg q];simp -implicitDefEqProofs only [go_sem,seval,bne,d];(with_reducible and_intros)<;>first|exact .dq|omega|skip
  refine aa.pure (hno e) ?_;simp -implicitDefEqProofs only [go_sem,seval];(with_reducible and_intros)<;>first|exact .dq|omega|skip
  all_goals simp [bk.err]
theorem SV (s:af) (c:bf) (h:s.good) (hk:c.kind=15):Abs.Spec Tryz.prog 29 [] [.agg s.cells,.agg c.cells] [] (.bH [.agg (aQ s c).1.cells,.agg (aQ s c).2.cells]):=by
 have hno:=fun e=>bC e
 have c0:=aP s h.small;have hM:aQ s c=bA s (iZ s,iA s,0,0,m9 s,[]):=by unfold aQ;congr 1;simp [fj,hk]
 rw [hM];clear hM;have c1:=xw s h.small h.cE h.bs (by have:=h.ps;omega);obtain ⟨T,hT⟩:=aL (iZ s);obtain ⟨e,he⟩:=aL (iA s);obtain ⟨ds,hds⟩:∃ l,l=m9 s:=⟨_,rfl⟩
 rw [<- hT,<- he,<- hds] at c1 |-;clear hT he hds;simp only [af.cells] at c1;simp only [af.cells] at c0 |-;simp only [bf.cells,hk];refine bg 227 2 [.cell 4 42,.cell 5 67] mixed Tryz.func29 ?_;simp -implicitDefEqProofs only [go_sem,seval];(with_reducible and_intros)<;>first|exact .dq|omega|skip
 refine aa.pure c0 ?_;simp -implicitDefEqProofs only [go_sem,seval];(with_reducible and_intros)<;>first|exact .dq|omega|skip
 refine aa.pure c1 ?_;simp -implicitDefEqProofs only [go_sem,seval];(with_reducible and_intros)<;>first|exact .dq|omega|skip
 by_cases q:e=0
 ·have d:(e==0)=true:=by simpa using q
  simp only [bA,if_pos q];simp -implicitDefEqProofs only [go_sem,seval,bne,d];(with_reducible and_intros)<;>first|exact .dq|omega|skip
  all_goals simp [pl]
 ·have d:(e==0)=false:=by simpa using q
  simp only [bA,if_neg q];simp -implicitDefEqProofs only [go_sem,seval,bne,d];(with_reducible and_intros)<;>first|exact .dq|omega|skip
  refine aa.pure (hno e) ?_;simp -implicitDefEqProofs only [go_sem,seval];(with_reducible and_intros)<;>first|exact .dq|omega|skip
  all_goals simp [bk.err]
theorem RV (s:af) (c:bf) (h:s.good) (hk:c.kind=16):Abs.Spec Tryz.prog 29 [] [.agg s.cells,.agg c.cells] [] (.bH [.agg (aQ s c).1.cells,.agg (aQ s c).2.cells]):=by
 have hno:=fun e=>bC e
 have c0:=aP s h.small;have hM:aQ s c=bA s (rL s,rR s,0,0,[],[]):=by unfold aQ;congr 1;simp [fj,hk]
 rw [hM];clear hM;have c1:=Ac s h.small h.cE;obtain ⟨T,hT⟩:=aL (rL s);obtain ⟨e,he⟩:=aL (rR s);rw [<- hT,<- he] at c1 |-;clear hT he;simp only [af.cells] at c1;simp only [af.cells] at c0 |-;simp only [bf.cells,hk];refine bg 227 2 [.cell 4 42,.cell 5 67] mixed Tryz.func29 ?_;simp -implicitDefEqProofs only [go_sem,seval];(with_reducible and_intros)<;>first|exact .dq|omega|skip
 refine aa.pure c0 ?_;simp -implicitDefEqProofs only [go_sem,seval];(with_reducible and_intros)<;>first|exact .dq|omega|skip
 refine aa.pure c1 ?_;simp -implicitDefEqProofs only [go_sem,seval];(with_reducible and_intros)<;>first|exact .dq|omega|skip
 by_cases q:e=0
 ·have d:(e==0)=true:=by simpa using q
  simp only [bA,if_pos q];simp -implicitDefEqProofs only [go_sem,seval,bne,d];(with_reducible and_intros)<;>first|exact .dq|omega|skip
  all_goals simp [pl]
 ·have d:(e==0)=false:=by simpa using q
  simp only [bA,if_neg q];simp -implicitDefEqProofs only [go_sem,seval,bne,d];(with_reducible and_intros)<;>first|exact .dq|omega|skip
  refine aa.pure (hno e) ?_;simp -implicitDefEqProofs only [go_sem,seval];(with_reducible and_intros)<;>first|exact .dq|omega|skip
  all_goals simp [bk.err]
theorem Sa (s:af) (c:bf) (h:s.good) (hk:c.kind=17):Abs.Spec Tryz.prog 29 [] [.agg s.cells,.agg c.cells] [] (.bH [.agg (aQ s c).1.cells,.agg (aQ s c).2.cells]):=by
 have hno:=fun e=>bC e
 have c0:=aP s h.small;have hM:aQ s c=bA s (gD s c.bV,nR s c.bV,0,0,wQ s c.bV,[]):=by unfold aQ;congr 1;simp [fj,hk]
 rw [hM];clear hM;have c1:=Gf s c.bV h.small h.cE;obtain ⟨T,hT⟩:=aL (gD s c.bV);obtain ⟨e,he⟩:=aL (nR s c.bV);obtain ⟨ds,hds⟩:∃ l,l=wQ s c.bV:=⟨_,rfl⟩
 rw [<- hT,<- he,<- hds] at c1 |-;clear hT he hds;simp only [af.cells] at c1;simp only [af.cells] at c0 |-;simp only [bf.cells,hk];refine bg 227 2 [.cell 4 42,.cell 5 67] mixed Tryz.func29 ?_;simp -implicitDefEqProofs only [go_sem,seval];(with_reducible and_intros)<;>first|exact .dq|omega|skip
 refine aa.pure c0 ?_;simp -implicitDefEqProofs only [go_sem,seval];(with_reducible and_intros)<;>first|exact .dq|omega|skip
 refine aa.pure c1 ?_;simp -implicitDefEqProofs only [go_sem,seval];(with_reducible and_intros)<;>first|exact .dq|omega|skip
 by_cases q:e=0
 ·have d:(e==0)=true:=by simpa using q
  simp only [bA,if_pos q];simp -implicitDefEqProofs only [go_sem,seval,bne,d];(with_reducible and_intros)<;>first|exact .dq|omega|skip
  all_goals simp [pl]
 ·have d:(e==0)=false:=by simpa using q
  simp only [bA,if_neg q];simp -implicitDefEqProofs only [go_sem,seval,bne,d];(with_reducible and_intros)<;>first|exact .dq|omega|skip
  refine aa.pure (hno e) ?_;simp -implicitDefEqProofs only [go_sem,seval];(with_reducible and_intros)<;>first|exact .dq|omega|skip
  all_goals simp [bk.err]
theorem Tl (s:af) (c:bf) (h:s.good) (hk:c.kind=18):Abs.Spec Tryz.prog 29 [] [.agg s.cells,.agg c.cells] [] (.bH [.agg (aQ s c).1.cells,.agg (aQ s c).2.cells]):=by
 have hno:=fun e=>bC e
 have c0:=IT s h.small;have hM:aQ s c=bA s ((pW s c).1,(pW s c).2,0,0,[],[]):=by unfold aQ;congr 1;simp [fj,hk]
 rw [hM];clear hM;have c1:=Eb s c h;obtain ⟨R,hR⟩:=aL (pW s c);rw [<- hR] at c1 |-;clear hR;obtain ⟨T,e⟩:=R;dsimp only at c1 |-;simp only [af.cells,af.vG,bf.cells,hk] at c1 c0;simp only [af.cells];simp only [bf.cells,hk];refine bg 227 2 [.cell 4 42,.cell 5 67] mixed Tryz.func29 ?_;simp -implicitDefEqProofs only [go_sem,seval];(with_reducible and_intros)<;>first|exact .dq|omega|skip
 refine aa.gen [] [] false (by simp) ?_;simp -implicitDefEqProofs only [go_sem,seval];refine aY.intro c0 ?_;simp -implicitDefEqProofs only [go_sem,seval];(with_reducible and_intros)<;>first|exact .dq|omega|skip
 refine aa.gen [] [112,200] false (by simp) ?_;simp -implicitDefEqProofs only [go_sem,seval];refine aY.intro c1 ?_;simp -implicitDefEqProofs only [go_sem,seval];(with_reducible and_intros)<;>first|exact .dq|omega|skip
 by_cases q:e=0
 ·have d:(e==0)=true:=by simpa using q
  simp only [bA,if_pos q];simp -implicitDefEqProofs only [go_sem,seval,bne,d];(with_reducible and_intros)<;>first|exact .dq|omega|skip
  all_goals simp [pl]
 ·have d:(e==0)=false:=by simpa using q
  simp only [bA,if_neg q];simp -implicitDefEqProofs only [go_sem,seval,bne,d];(with_reducible and_intros)<;>first|exact .dq|omega|skip
  refine aa.pure (hno e) ?_;simp -implicitDefEqProofs only [go_sem,seval];(with_reducible and_intros)<;>first|exact .dq|omega|skip
  all_goals simp [bk.err]
theorem SH (s:af) (c:bf) (h:s.good) (hk:c.kind=19):Abs.Spec Tryz.prog 29 [] [.agg s.cells,.agg c.cells] [] (.bH [.agg (aQ s c).1.cells,.agg (aQ s c).2.cells]):=by
 have hno:=fun e=>bC e
 have c0:=aP s h.small;have hM:aQ s c=bA s (lT s c.who,uq s c.who,0,0,G7 s c.who,Gt s c.who):=by unfold aQ;congr 1;simp [fj,hk]
 rw [hM];clear hM;have c1:=Kv s c.who h.small h.cE h.ms h.qs h.aW h.bs;obtain ⟨T,hT⟩:=aL (lT s c.who);obtain ⟨e,he⟩:=aL (uq s c.who);obtain ⟨ds,hds⟩:∃ l,l=G7 s c.who:=⟨_,rfl⟩
 obtain ⟨fs,hfs⟩:∃ l,l=Gt s c.who:=⟨_,rfl⟩
 rw [<- hT,<- he,<- hds,<- hfs] at c1 |-;clear hT he hds hfs;simp only [af.cells] at c1;simp only [af.cells] at c0 |-;simp only [bf.cells,hk];refine bg 227 2 [.cell 4 42,.cell 5 67] mixed Tryz.func29 ?_;simp -implicitDefEqProofs only [go_sem,seval];(with_reducible and_intros)<;>first|exact .dq|omega|skip
 refine aa.pure c0 ?_;simp -implicitDefEqProofs only [go_sem,seval];(with_reducible and_intros)<;>first|exact .dq|omega|skip
 refine aa.pure c1 ?_;simp -implicitDefEqProofs only [go_sem,seval];(with_reducible and_intros)<;>first|exact .dq|omega|skip
 by_cases q:e=0
 ·have d:(e==0)=true:=by simpa using q
  simp only [bA,if_pos q];simp -implicitDefEqProofs only [go_sem,seval,bne,d];(with_reducible and_intros)<;>first|exact .dq|omega|skip
  all_goals simp [pl]
 ·have d:(e==0)=false:=by simpa using q
  simp only [bA,if_neg q];simp -implicitDefEqProofs only [go_sem,seval,bne,d];(with_reducible and_intros)<;>first|exact .dq|omega|skip
  refine aa.pure (hno e) ?_;simp -implicitDefEqProofs only [go_sem,seval];(with_reducible and_intros)<;>first|exact .dq|omega|skip
  all_goals simp [bk.err]
theorem TI (s:af) (c:bf) (h:s.good) (hk:c.kind=20):Abs.Spec Tryz.prog 29 [] [.agg s.cells,.agg c.cells] [] (.bH [.agg (aQ s c).1.cells,.agg (aQ s c).2.cells]):=by
 have hno:=fun e=>bC e
 have c0:=aP s h.small;have hM:aQ s c=bA s ((j6 3 0 s []).1,(j6 3 0 s []).2.2,0,0,(j6 3 0 s []).2.1,[]):=by unfold aQ;congr 1;simp [fj,hk]
 rw [hM];clear hM;have c1:=yc s h;obtain ⟨R,hR⟩:=aL (j6 3 0 s []);rw [<- hR] at c1 |-;clear hR;obtain ⟨T,ds,e⟩:=R;dsimp only at c1 |-;simp only [af.cells] at c1;simp only [af.cells] at c0 |-;simp only [bf.cells,hk];refine bg 227 2 [.cell 4 42,.cell 5 67] mixed Tryz.func29 ?_;simp -implicitDefEqProofs only [go_sem,seval];(with_reducible and_intros)<;>first|exact .dq|omega|skip
 refine aa.pure c0 ?_;simp -implicitDefEqProofs only [go_sem,seval];(with_reducible and_intros)<;>first|exact .dq|omega|skip
 refine aa.gen [] [112] false (by simp) ?_;simp -implicitDefEqProofs only [go_sem,seval];refine aY.intro c1 ?_;simp -implicitDefEqProofs only [go_sem,seval];(with_reducible and_intros)<;>first|exact .dq|omega|skip
 by_cases q:e=0
 ·have d:(e==0)=true:=by simpa using q
  simp only [bA,if_pos q];simp -implicitDefEqProofs only [go_sem,seval,bne,d];(with_reducible and_intros)<;>first|exact .dq|omega|skip
  all_goals simp [pl]
 ·have d:(e==0)=false:=by simpa using q
  simp only [bA,if_neg q];simp -implicitDefEqProofs only [go_sem,seval,bne,d];(with_reducible and_intros)<;>first|exact .dq|omega|skip
  refine aa.pure (hno e) ?_;simp -implicitDefEqProofs only [go_sem,seval];(with_reducible and_intros)<;>first|exact .dq|omega|skip
  all_goals simp [bk.err]
theorem R8 (s:af) (c:bf) (h:s.good) (hk:c.kind=21):Abs.Spec Tryz.prog 29 [] [.agg s.cells,.agg c.cells] [] (.bH [.agg (aQ s c).1.cells,.agg (aQ s c).2.cells]):=by
 have hno:=fun e=>bC e
 have c0:=aP s h.small;have hM:aQ s c=bA s (if aH.right ⟨c.no,c.who,c.cur⟩ then (s,0,0,gB ⟨c.no,c.who,c.cur⟩ s.aU.bs,[],[]) else (s,3,0,0,[],[])):=by unfold aQ;congr 1;simp [fj,hk]
 rw [hM];clear hM;have a1:=gx c.no c.who c.cur;have a2:=fI ⟨c.no,c.who,c.cur⟩;have a3:=j4 s.aU ⟨c.no,c.who,c.cur⟩ h.small.aU;simp only [aH.cells] at a2 a3;simp only [bq.cells] at a3;simp only [af.cells] at c0 |-;simp only [bf.cells,hk];refine bg 227 2 [.cell 4 42,.cell 5 67] mixed Tryz.func29 ?_;simp -implicitDefEqProofs only [go_sem,seval];(with_reducible and_intros)<;>first|exact .dq|omega|skip
 refine aa.pure c0 ?_;simp -implicitDefEqProofs only [go_sem,seval];(with_reducible and_intros)<;>first|exact .dq|omega|skip
 refine aa.pure a1 ?_;simp -implicitDefEqProofs only [go_sem,seval];(with_reducible and_intros)<;>first|exact .dq|omega|skip
 refine aa.pure a2 ?_;cases b1:aH.right ⟨c.no,c.who,c.cur⟩
 ·rw [if_neg (by decide)];simp only [bA,if_neg (show ¬ (3:Int)=0 by decide)];simp -implicitDefEqProofs only [go_sem,seval];(with_reducible and_intros)<;>first|exact .dq|omega|skip
  refine aa.pure (hno 3) ?_;simp -implicitDefEqProofs only [go_sem,seval];(with_reducible and_intros)<;>first|exact .dq|omega|skip
  all_goals simp [bk.err]
 rw [if_pos rfl];simp -implicitDefEqProofs only [go_sem,seval];(with_reducible and_intros)<;>first|exact .dq|omega|skip
 refine aa.pure a1 ?_;simp -implicitDefEqProofs only [go_sem,seval];(with_reducible and_intros)<;>first|exact .dq|omega|skip
 refine aa.pure a3 ?_;simp only [bA,if_pos (show (0:Int)=0 from rfl)];simp -implicitDefEqProofs only [go_sem,seval];(with_reducible and_intros)<;>first|exact .dq|omega|skip
 all_goals simp [pl]
theorem SY (s:af) (c:bf) (h:s.good) (hk:c.kind=22):Abs.Spec Tryz.prog 29 [] [.agg s.cells,.agg c.cells] [] (.bH [.agg (aQ s c).1.cells,.agg (aQ s c).2.cells]):=by
 have hno:=fun e=>bC e
 have c0:=aP s h.small;have hM:aQ s c=bA s (if ot c.who c.inst then (s,0,0,(posOf c.who c.inst s.book.qs).aV,[],[]) else (s,3,0,0,[],[])):=by unfold aQ;congr 1;simp [fj,hk]
 rw [hM];clear hM;have a1:=oQ c.who c.inst;have a3:=nv s.book c.who c.inst h.small.book;obtain ⟨y,hy⟩:=aL (posOf c.who c.inst s.book.qs);rw [<- hy] at a3 |-;clear hy;simp only [aF.cells,aA.cells] at a3;simp only [af.cells] at c0 |-;simp only [bf.cells,hk];refine bg 227 2 [.cell 4 42,.cell 5 67] mixed Tryz.func29 ?_;simp -implicitDefEqProofs only [go_sem,seval];(with_reducible and_intros)<;>first|exact .dq|omega|skip
 refine aa.pure c0 ?_;simp -implicitDefEqProofs only [go_sem,seval];(with_reducible and_intros)<;>first|exact .dq|omega|skip
 refine aa.pure a1 ?_;cases b1:ot c.who c.inst
 ·rw [if_neg (by decide)];simp only [bA,if_neg (show ¬ (3:Int)=0 by decide)];simp -implicitDefEqProofs only [go_sem,seval];(with_reducible and_intros)<;>first|exact .dq|omega|skip
  refine aa.pure (hno 3) ?_;simp -implicitDefEqProofs only [go_sem,seval];(with_reducible and_intros)<;>first|exact .dq|omega|skip
  all_goals simp [bk.err]
 rw [if_pos rfl];simp -implicitDefEqProofs only [go_sem,seval];(with_reducible and_intros)<;>first|exact .dq|omega|skip
 refine aa.pure a3 ?_;simp only [bA,if_pos (show (0:Int)=0 from rfl)];simp -implicitDefEqProofs only [go_sem,seval];(with_reducible and_intros)<;>first|exact .dq|omega|skip
 all_goals simp [pl]
end Go.Proofs.YtnkobepdbkmedaaGreat
