/- The reference's engine: does, kinds 1 to 3, and what follows. No theorem of a claim. -/
import Derived.Test.YtgnhdbdipfncgaaGreatKH
set_option linter.unusedSimpArgs false
set_option linter.unusedVariables false
set_option maxHeartbeats 4000000
set_option maxRecDepth 16000
namespace Go.Proofs.YtgnhdbdipfncgaaGreat
open Go.Abs
def instC (c:CmdV):InstV:=⟨c.inst,c.cur,c.qty,c.amt,0,0,c.s0,c.s1,c.s2,c.s3,c.s4,c.s5⟩
def doesM (s:StateV) (c:CmdV):StateV × Int × Int × Int × List DueV × List FallV:=
 if c.kind=1 then ({ s with roll:=admitR s.roll c.who c.amt },admitE s.roll c.who c.amt,0,0,[],[])
 else if c.kind=2 then ({ s with roll:=listR s.roll (instC c) },listE s.roll (instC c),0,0,[],[])
 else if c.kind=3 then ({ s with roll:=holdR s.roll ⟨c.no,c.cur,c.price,c.amt⟩ },holdE s.roll ⟨c.no,c.cur,c.price,c.amt⟩,0,0,[],[])
 else if c.kind=4\/c.kind=5\/c.kind=8 then ((payR s c).1,(payR s c).2,0,0,[],[])
 else if c.kind=6\/c.kind=7 then ((pledR s c (pledN c)).1,(pledR s c (pledN c)).2,0,0,[],[])
 else if c.kind=9 then (if within c.cur 0 2&&within c.amt 1 4611686018427387904 then (p25S s (moveL ⟨1,0,c.cur⟩ ⟨4,0,c.cur⟩ c.amt),p25E s (moveL ⟨1,0,c.cur⟩ ⟨4,0,c.cur⟩ c.amt),0,0,[],[]) else (s,3,0,0,[],[]))
 else if c.kind=10\/c.kind=11\/c.kind=12\/c.kind=13 then (if s.phase=0 then ((trdR s c).1,(trdR s c).2.2,(trdR s c).2.1,0,[],[]) else (s,15,0,0,[],[]))
 else if c.kind=14 then (settleS s,settleE s,0,0,settleD s,[])
 else if c.kind=15 then (marginS s,marginE s,0,0,marginD s,[])
 else if c.kind=16 then (openS s,openE s,0,0,[],[])
 else if c.kind=17 then (tickS s c.amt,tickE s c.amt,0,0,tickD s c.amt,[])
 else if c.kind=18 then ((bidR s c).1,(bidR s c).2,0,0,[],[])
 else if c.kind=19 then (outS s c.who,outE s c.who,0,0,outD s c.who,outF s c.who)
 else if c.kind=20 then ((refG 3 0 s []).1,(refG 3 0 s []).2.2,0,0,(refG 3 0 s []).2.1,[])
 else if c.kind=21 then (if AcctV.right ⟨c.no,c.who,c.cur⟩ then (s,0,0,ofL ⟨c.no,c.who,c.cur⟩ s.led.bs,[],[]) else (s,3,0,0,[],[]))
 else if c.kind=22 then (if keyB c.who c.inst then (s,0,0,(posOf c.who c.inst s.book.qs).qty,[],[]) else (s,3,0,0,[],[]))
 else (s,0,0,0,[],[])
def doesF (s:StateV) (m:StateV × Int × Int × Int × List DueV × List FallV):StateV × ReplyV:=if m.2.1=0 then (m.1,⟨0,m.2.2.1,m.2.2.2.1,m.2.2.2.2.1,m.2.2.2.2.2⟩) else (s,.err m.2.1)
def doesR (s:StateV) (c:CmdV):StateV × ReplyV:=doesF s (doesM s c)
theorem does_1 (s:StateV) (c:CmdV) (h:s.good) (hk:c.kind=1):Abs.Spec Tryz.prog 31 [] [.agg s.cells,.agg c.cells] [] (.tup [.agg (doesR s c).1.cells,.agg (doesR s c).2.cells]):=by
 have hno:=fun e=>ref25No_spec e
 have c0:=twinState_frozen s h.small;have hM:doesR s c=doesF s ({ s with roll:=admitR s.roll c.who c.amt },admitE s.roll c.who c.amt,0,0,[],[]):=by unfold doesR;congr 1;simp [doesM,hk]
 rw [hM];clear hM;have c1:=refAdmit_spec s.roll c.who c.amt h.small.roll;obtain ⟨A,hA⟩:=nmE (admitR s.roll c.who c.amt);obtain ⟨e,he⟩:=nmE (admitE s.roll c.who c.amt);rw [<- hA,<- he] at c1 |-;clear hA he;simp only [RollV.cells] at c1;simp only [StateV.cells] at c0 |-;simp only [CmdV.cells,hk];refine sgo 227 2 [.cell 4 42,.cell 5 52] mixed Tryz.func31 ?_;simp only [go_sem,seval];(with_reducible and_intros)<;>first|exact .dq|omega|skip
 refine CallN.pure c0 ?_;simp only [go_sem,seval];(with_reducible and_intros)<;>first|exact .dq|omega|skip
 refine CallN.pure c1 ?_;simp only [go_sem,seval];(with_reducible and_intros)<;>first|exact .dq|omega|skip
 by_cases q:e=0
 ·have d:(e==0)=true:=by simpa using q
  simp only [doesF,if_pos q];simp only [go_sem,seval,bne,d];(with_reducible and_intros)<;>first|exact .dq|omega|skip
  all_goals simp [pl]
 ·have d:(e==0)=false:=by simpa using q
  simp only [doesF,if_neg q];simp only [go_sem,seval,bne,d];(with_reducible and_intros)<;>first|exact .dq|omega|skip
  refine CallN.pure (hno e) ?_;simp only [go_sem,seval];(with_reducible and_intros)<;>first|exact .dq|omega|skip
  all_goals simp [ReplyV.err]
theorem does_2 (s:StateV) (c:CmdV) (h:s.good) (hk:c.kind=2):Abs.Spec Tryz.prog 31 [] [.agg s.cells,.agg c.cells] [] (.tup [.agg (doesR s c).1.cells,.agg (doesR s c).2.cells]):=by
 have hno:=fun e=>ref25No_spec e
 have c0:=twinState_frozen s h.small;have hM:doesR s c=doesF s ({ s with roll:=listR s.roll (instC c) },listE s.roll (instC c),0,0,[],[]):=by unfold doesR;congr 1;simp [doesM,hk]
 rw [hM];clear hM;have c1:=refList_spec s.roll (instC c) h.small.roll;obtain ⟨A,hA⟩:=nmE (listR s.roll (instC c));obtain ⟨e,he⟩:=nmE (listE s.roll (instC c));rw [<- hA,<- he] at c1 |-;clear hA he;simp only [RollV.cells,instC,InstV.cells] at c1;simp only [StateV.cells] at c0 |-;simp only [CmdV.cells,hk];refine sgo 227 2 [.cell 4 42,.cell 5 52] mixed Tryz.func31 ?_;simp only [go_sem,seval];(with_reducible and_intros)<;>first|exact .dq|omega|skip
 refine CallN.pure c0 ?_;simp only [go_sem,seval];(with_reducible and_intros)<;>first|exact .dq|omega|skip
 refine CallN.pure c1 ?_;simp only [go_sem,seval];(with_reducible and_intros)<;>first|exact .dq|omega|skip
 by_cases q:e=0
 ·have d:(e==0)=true:=by simpa using q
  simp only [doesF,if_pos q];simp only [go_sem,seval,bne,d];(with_reducible and_intros)<;>first|exact .dq|omega|skip
  all_goals simp [pl]
 ·have d:(e==0)=false:=by simpa using q
  simp only [doesF,if_neg q];simp only [go_sem,seval,bne,d];(with_reducible and_intros)<;>first|exact .dq|omega|skip
  refine CallN.pure (hno e) ?_;simp only [go_sem,seval];(with_reducible and_intros)<;>first|exact .dq|omega|skip
  all_goals simp [ReplyV.err]
theorem does_3 (s:StateV) (c:CmdV) (h:s.good) (hk:c.kind=3):Abs.Spec Tryz.prog 31 [] [.agg s.cells,.agg c.cells] [] (.tup [.agg (doesR s c).1.cells,.agg (doesR s c).2.cells]):=by
 have hno:=fun e=>ref25No_spec e
 have c0:=twinState_frozen s h.small;have hM:doesR s c=doesF s ({ s with roll:=holdR s.roll ⟨c.no,c.cur,c.price,c.amt⟩ },holdE s.roll ⟨c.no,c.cur,c.price,c.amt⟩,0,0,[],[]):=by unfold doesR;congr 1;simp [doesM,hk]
 rw [hM];clear hM;have c1:=refHold_spec s.roll ⟨c.no,c.cur,c.price,c.amt⟩ h.small.roll;obtain ⟨A,hA⟩:=nmE (holdR s.roll ⟨c.no,c.cur,c.price,c.amt⟩);obtain ⟨e,he⟩:=nmE (holdE s.roll ⟨c.no,c.cur,c.price,c.amt⟩);rw [<- hA,<- he] at c1 |-;clear hA he;simp only [RollV.cells,AssetV.cells] at c1;simp only [StateV.cells] at c0 |-;simp only [CmdV.cells,hk];refine sgo 227 2 [.cell 4 42,.cell 5 52] mixed Tryz.func31 ?_;simp only [go_sem,seval];(with_reducible and_intros)<;>first|exact .dq|omega|skip
 refine CallN.pure c0 ?_;simp only [go_sem,seval];(with_reducible and_intros)<;>first|exact .dq|omega|skip
 refine CallN.pure c1 ?_;simp only [go_sem,seval];(with_reducible and_intros)<;>first|exact .dq|omega|skip
 by_cases q:e=0
 ·have d:(e==0)=true:=by simpa using q
  simp only [doesF,if_pos q];simp only [go_sem,seval,bne,d];(with_reducible and_intros)<;>first|exact .dq|omega|skip
  all_goals simp [pl]
 ·have d:(e==0)=false:=by simpa using q
  simp only [doesF,if_neg q];simp only [go_sem,seval,bne,d];(with_reducible and_intros)<;>first|exact .dq|omega|skip
  refine CallN.pure (hno e) ?_;simp only [go_sem,seval];(with_reducible and_intros)<;>first|exact .dq|omega|skip
  all_goals simp [ReplyV.err]
theorem does_4 (s:StateV) (c:CmdV) (h:s.good) (hk:c.kind=4):Abs.Spec Tryz.prog 31 [] [.agg s.cells,.agg c.cells] [] (.tup [.agg (doesR s c).1.cells,.agg (doesR s c).2.cells]):=by
 have hno:=fun e=>ref25No_spec e
 have c0:=twinState_frozen s h.small;have hM:doesR s c=doesF s ((payR s c).1,(payR s c).2,0,0,[],[]):=by unfold doesR;congr 1;simp [doesM,hk]
 rw [hM];clear hM;have c1:=ref25Pay_spec s c h;obtain ⟨R,hR⟩:=nmE (payR s c);rw [<- hR] at c1 |-;clear hR;obtain ⟨T,e⟩:=R;dsimp only at c1 |-;simp only [StateV.cells,CmdV.cells,hk] at c1;simp only [StateV.cells] at c0 |-;simp only [CmdV.cells,hk];refine sgo 227 2 [.cell 4 42,.cell 5 52] mixed Tryz.func31 ?_;simp -implicitDefEqProofs only [go_sem,seval];(with_reducible and_intros)<;>first|exact .dq|omega|skip
 refine CallN.pure c0 ?_;simp -implicitDefEqProofs only [go_sem,seval];(with_reducible and_intros)<;>first|exact .dq|omega|skip
 refine CallN.gen [] [112] false (by simp) ?_;simp -implicitDefEqProofs only [go_sem,seval];refine CallG.intro c1 ?_;simp -implicitDefEqProofs only [go_sem,seval];(with_reducible and_intros)<;>first|exact .dq|omega|skip
 by_cases q:e=0
 ·have d:(e==0)=true:=by simpa using q
  simp only [doesF,if_pos q];simp -implicitDefEqProofs only [go_sem,seval,bne,d];(with_reducible and_intros)<;>first|exact .dq|omega|skip
  all_goals simp [pl]
 ·have d:(e==0)=false:=by simpa using q
  simp only [doesF,if_neg q];simp -implicitDefEqProofs only [go_sem,seval,bne,d];(with_reducible and_intros)<;>first|exact .dq|omega|skip
  refine CallN.pure (hno e) ?_;simp -implicitDefEqProofs only [go_sem,seval];(with_reducible and_intros)<;>first|exact .dq|omega|skip
  all_goals simp [ReplyV.err]
theorem does_5 (s:StateV) (c:CmdV) (h:s.good) (hk:c.kind=5):Abs.Spec Tryz.prog 31 [] [.agg s.cells,.agg c.cells] [] (.tup [.agg (doesR s c).1.cells,.agg (doesR s c).2.cells]):=by
 have hno:=fun e=>ref25No_spec e
 have c0:=twinState_frozen s h.small;have hM:doesR s c=doesF s ((payR s c).1,(payR s c).2,0,0,[],[]):=by unfold doesR;congr 1;simp [doesM,hk]
 rw [hM];clear hM;have c1:=ref25Pay_spec s c h;obtain ⟨R,hR⟩:=nmE (payR s c);rw [<- hR] at c1 |-;clear hR;obtain ⟨T,e⟩:=R;dsimp only at c1 |-;simp only [StateV.cells,CmdV.cells,hk] at c1;simp only [StateV.cells] at c0 |-;simp only [CmdV.cells,hk];refine sgo 227 2 [.cell 4 42,.cell 5 52] mixed Tryz.func31 ?_;simp -implicitDefEqProofs only [go_sem,seval];(with_reducible and_intros)<;>first|exact .dq|omega|skip
 refine CallN.pure c0 ?_;simp -implicitDefEqProofs only [go_sem,seval];(with_reducible and_intros)<;>first|exact .dq|omega|skip
 refine CallN.gen [] [112] false (by simp) ?_;simp -implicitDefEqProofs only [go_sem,seval];refine CallG.intro c1 ?_;simp -implicitDefEqProofs only [go_sem,seval];(with_reducible and_intros)<;>first|exact .dq|omega|skip
 by_cases q:e=0
 ·have d:(e==0)=true:=by simpa using q
  simp only [doesF,if_pos q];simp -implicitDefEqProofs only [go_sem,seval,bne,d];(with_reducible and_intros)<;>first|exact .dq|omega|skip
  all_goals simp [pl]
 ·have d:(e==0)=false:=by simpa using q
  simp only [doesF,if_neg q];simp -implicitDefEqProofs only [go_sem,seval,bne,d];(with_reducible and_intros)<;>first|exact .dq|omega|skip
  refine CallN.pure (hno e) ?_;simp -implicitDefEqProofs only [go_sem,seval];(with_reducible and_intros)<;>first|exact .dq|omega|skip
  all_goals simp [ReplyV.err]
theorem does_8 (s:StateV) (c:CmdV) (h:s.good) (hk:c.kind=8):Abs.Spec Tryz.prog 31 [] [.agg s.cells,.agg c.cells] [] (.tup [.agg (doesR s c).1.cells,.agg (doesR s c).2.cells]):=by
 have hno:=fun e=>ref25No_spec e
 have c0:=twinState_frozen s h.small;have hM:doesR s c=doesF s ((payR s c).1,(payR s c).2,0,0,[],[]):=by unfold doesR;congr 1;simp [doesM,hk]
 rw [hM];clear hM;have c1:=ref25Pay_spec s c h;obtain ⟨R,hR⟩:=nmE (payR s c);rw [<- hR] at c1 |-;clear hR;obtain ⟨T,e⟩:=R;dsimp only at c1 |-;simp only [StateV.cells,CmdV.cells,hk] at c1;simp only [StateV.cells] at c0 |-;simp only [CmdV.cells,hk];refine sgo 227 2 [.cell 4 42,.cell 5 52] mixed Tryz.func31 ?_;simp -implicitDefEqProofs only [go_sem,seval];(with_reducible and_intros)<;>first|exact .dq|omega|skip
 refine CallN.pure c0 ?_;simp -implicitDefEqProofs only [go_sem,seval];(with_reducible and_intros)<;>first|exact .dq|omega|skip
 refine CallN.gen [] [112] false (by simp) ?_;simp -implicitDefEqProofs only [go_sem,seval];refine CallG.intro c1 ?_;simp -implicitDefEqProofs only [go_sem,seval];(with_reducible and_intros)<;>first|exact .dq|omega|skip
 by_cases q:e=0
 ·have d:(e==0)=true:=by simpa using q
  simp only [doesF,if_pos q];simp -implicitDefEqProofs only [go_sem,seval,bne,d];(with_reducible and_intros)<;>first|exact .dq|omega|skip
  all_goals simp [pl]
 ·have d:(e==0)=false:=by simpa using q
  simp only [doesF,if_neg q];simp -implicitDefEqProofs only [go_sem,seval,bne,d];(with_reducible and_intros)<;>first|exact .dq|omega|skip
  refine CallN.pure (hno e) ?_;simp -implicitDefEqProofs only [go_sem,seval];(with_reducible and_intros)<;>first|exact .dq|omega|skip
  all_goals simp [ReplyV.err]
theorem does_6 (s:StateV) (c:CmdV) (h:s.good) (hk:c.kind=6):Abs.Spec Tryz.prog 31 [] [.agg s.cells,.agg c.cells] [] (.tup [.agg (doesR s c).1.cells,.agg (doesR s c).2.cells]):=by
 have hno:=fun e=>ref25No_spec e
 have c0:=twinState_frozen s h.small;have hM:doesR s c=doesF s ((pledR s c (pledN c)).1,(pledR s c (pledN c)).2,0,0,[],[]):=by unfold doesR;congr 1;simp [doesM,hk]
 rw [hM];clear hM;have c1:=ref25Pledge_spec s c h;obtain ⟨R,hR⟩:=nmE (pledR s c (pledN c));rw [<- hR] at c1 |-;clear hR;obtain ⟨T,e⟩:=R;dsimp only at c1 |-;simp only [StateV.cells,CmdV.cells,hk] at c1;simp only [StateV.cells] at c0 |-;simp only [CmdV.cells,hk];refine sgo 227 2 [.cell 4 42,.cell 5 52] mixed Tryz.func31 ?_;simp -implicitDefEqProofs only [go_sem,seval];(with_reducible and_intros)<;>first|exact .dq|omega|skip
 refine CallN.pure c0 ?_;simp -implicitDefEqProofs only [go_sem,seval];(with_reducible and_intros)<;>first|exact .dq|omega|skip
 refine CallN.gen [] [112] false (by simp) ?_;simp -implicitDefEqProofs only [go_sem,seval];refine CallG.intro c1 ?_;simp -implicitDefEqProofs only [go_sem,seval];(with_reducible and_intros)<;>first|exact .dq|omega|skip
 by_cases q:e=0
 ·have d:(e==0)=true:=by simpa using q
  simp only [doesF,if_pos q];simp -implicitDefEqProofs only [go_sem,seval,bne,d];(with_reducible and_intros)<;>first|exact .dq|omega|skip
  all_goals simp [pl]
 ·have d:(e==0)=false:=by simpa using q
  simp only [doesF,if_neg q];simp -implicitDefEqProofs only [go_sem,seval,bne,d];(with_reducible and_intros)<;>first|exact .dq|omega|skip
  refine CallN.pure (hno e) ?_;simp -implicitDefEqProofs only [go_sem,seval];(with_reducible and_intros)<;>first|exact .dq|omega|skip
  all_goals simp [ReplyV.err]
theorem does_7 (s:StateV) (c:CmdV) (h:s.good) (hk:c.kind=7):Abs.Spec Tryz.prog 31 [] [.agg s.cells,.agg c.cells] [] (.tup [.agg (doesR s c).1.cells,.agg (doesR s c).2.cells]):=by
 have hno:=fun e=>ref25No_spec e
 have c0:=twinState_frozen s h.small;have hM:doesR s c=doesF s ((pledR s c (pledN c)).1,(pledR s c (pledN c)).2,0,0,[],[]):=by unfold doesR;congr 1;simp [doesM,hk]
 rw [hM];clear hM;have c1:=ref25Pledge_spec s c h;obtain ⟨R,hR⟩:=nmE (pledR s c (pledN c));rw [<- hR] at c1 |-;clear hR;obtain ⟨T,e⟩:=R;dsimp only at c1 |-;simp only [StateV.cells,CmdV.cells,hk] at c1;simp only [StateV.cells] at c0 |-;simp only [CmdV.cells,hk];refine sgo 227 2 [.cell 4 42,.cell 5 52] mixed Tryz.func31 ?_;simp -implicitDefEqProofs only [go_sem,seval];(with_reducible and_intros)<;>first|exact .dq|omega|skip
 refine CallN.pure c0 ?_;simp -implicitDefEqProofs only [go_sem,seval];(with_reducible and_intros)<;>first|exact .dq|omega|skip
 refine CallN.gen [] [112] false (by simp) ?_;simp -implicitDefEqProofs only [go_sem,seval];refine CallG.intro c1 ?_;simp -implicitDefEqProofs only [go_sem,seval];(with_reducible and_intros)<;>first|exact .dq|omega|skip
 by_cases q:e=0
 ·have d:(e==0)=true:=by simpa using q
  simp only [doesF,if_pos q];simp -implicitDefEqProofs only [go_sem,seval,bne,d];(with_reducible and_intros)<;>first|exact .dq|omega|skip
  all_goals simp [pl]
 ·have d:(e==0)=false:=by simpa using q
  simp only [doesF,if_neg q];simp -implicitDefEqProofs only [go_sem,seval,bne,d];(with_reducible and_intros)<;>first|exact .dq|omega|skip
  refine CallN.pure (hno e) ?_;simp -implicitDefEqProofs only [go_sem,seval];(with_reducible and_intros)<;>first|exact .dq|omega|skip
  all_goals simp [ReplyV.err]
theorem does_9 (s:StateV) (c:CmdV) (h:s.good) (hk:c.kind=9):Abs.Spec Tryz.prog 31 [] [.agg s.cells,.agg c.cells] [] (.tup [.agg (doesR s c).1.cells,.agg (doesR s c).2.cells]):=by
 have hno:=fun e=>ref25No_spec e
 have c0:=twinState_frozen s h.small;have hM:doesR s c=doesF s (if within c.cur 0 2&&within c.amt 1 4611686018427387904 then (p25S s (moveL ⟨1,0,c.cur⟩ ⟨4,0,c.cur⟩ c.amt),p25E s (moveL ⟨1,0,c.cur⟩ ⟨4,0,c.cur⟩ c.amt),0,0,[],[]) else (s,3,0,0,[],[])):=by unfold doesR;congr 1;simp [doesM,hk]
 rw [hM];clear hM;have a1:=refCur_spec c.cur;have a2:=within25_spec c.amt 1 4611686018427387904;have a3:=ref25Acct_spec 1 0 c.cur;have a4:=ref25Acct_spec 4 0 c.cur;have a5:=ref8Move_spec ⟨1,0,c.cur⟩ ⟨4,0,c.cur⟩ c.amt;have c1:=ref25Post_spec s (moveL ⟨1,0,c.cur⟩ ⟨4,0,c.cur⟩ c.amt) h.small.led h.rng.bs (by simp [moveL]);obtain ⟨g,hg⟩:=nmE (moveL ⟨1,0,c.cur⟩ ⟨4,0,c.cur⟩ c.amt);rw [<- hg] at a5 c1 |-;clear hg;obtain ⟨T,hT⟩:=nmE (p25S s g);obtain ⟨e,he⟩:=nmE (p25E s g);rw [<- hT,<- he] at c1 |-;clear hT he;simp only [StateV.cells] at c1;simp only [AcctV.cells] at a5;simp only [StateV.cells] at c0 |-;simp only [CmdV.cells,hk];refine sgo 227 2 [.cell 4 42,.cell 5 52] mixed Tryz.func31 ?_;simp -implicitDefEqProofs only [go_sem,seval];(with_reducible and_intros)<;>first|exact .dq|omega|skip
 refine CallN.pure c0 ?_;simp -implicitDefEqProofs only [go_sem,seval];(with_reducible and_intros)<;>first|exact .dq|omega|skip
 refine CallN.pure a1 ?_;cases b1:within c.cur 0 2
 ·rw [Bool.false_and,if_neg (by decide)];simp only [doesF,if_neg (show ¬ (3:Int)=0 by decide)];simp -implicitDefEqProofs only [go_sem,seval];(with_reducible and_intros)<;>first|exact .dq|omega|skip
  refine CallN.pure (hno 3) ?_;simp -implicitDefEqProofs only [go_sem,seval];(with_reducible and_intros)<;>first|exact .dq|omega|skip
  all_goals simp [ReplyV.err]
 simp -implicitDefEqProofs only [go_sem,seval];(with_reducible and_intros)<;>first|exact .dq|omega|skip
 refine CallN.pure a2 ?_;cases b2:within c.amt 1 4611686018427387904
 ·rw [if_neg (by decide)];simp only [doesF,if_neg (show ¬ (3:Int)=0 by decide)];simp -implicitDefEqProofs only [go_sem,seval];(with_reducible and_intros)<;>first|exact .dq|omega|skip
  refine CallN.pure (hno 3) ?_;simp -implicitDefEqProofs only [go_sem,seval];(with_reducible and_intros)<;>first|exact .dq|omega|skip
  all_goals simp [ReplyV.err]
 rw [if_pos rfl];simp -implicitDefEqProofs only [go_sem,seval];(with_reducible and_intros)<;>first|exact .dq|omega|skip
 refine CallN.pure a3 ?_;simp -implicitDefEqProofs only [go_sem,seval];(with_reducible and_intros)<;>first|exact .dq|omega|skip
 refine CallN.pure a4 ?_;simp -implicitDefEqProofs only [go_sem,seval];(with_reducible and_intros)<;>first|exact .dq|omega|skip
 refine CallN.pure a5 ?_;simp -implicitDefEqProofs only [go_sem,seval];(with_reducible and_intros)<;>first|exact .dq|omega|skip
 refine CallN.gen [] [112] false (by simp) ?_;simp -implicitDefEqProofs only [go_sem,seval];refine CallG.intro c1 ?_;simp -implicitDefEqProofs only [go_sem,seval];(with_reducible and_intros)<;>first|exact .dq|omega|skip
 by_cases q:e=0
 ·have d:(e==0)=true:=by simpa using q
  simp only [doesF,if_pos q];simp -implicitDefEqProofs only [go_sem,seval,bne,d];(with_reducible and_intros)<;>first|exact .dq|omega|skip
  all_goals simp [pl]
 ·have d:(e==0)=false:=by simpa using q
  simp only [doesF,if_neg q];simp -implicitDefEqProofs only [go_sem,seval,bne,d];(with_reducible and_intros)<;>first|exact .dq|omega|skip
  refine CallN.pure (hno e) ?_;simp -implicitDefEqProofs only [go_sem,seval];(with_reducible and_intros)<;>first|exact .dq|omega|skip
  all_goals simp [ReplyV.err]
theorem does_10 (s:StateV) (c:CmdV) (h:s.good) (hk:c.kind=10):Abs.Spec Tryz.prog 31 [] [.agg s.cells,.agg c.cells] [] (.tup [.agg (doesR s c).1.cells,.agg (doesR s c).2.cells]):=by
 have hno:=fun e=>ref25No_spec e
 have c0:=twinState_frozen s h.small;have hM:doesR s c=doesF s (if s.phase=0 then ((trdR s c).1,(trdR s c).2.2,(trdR s c).2.1,0,[],[]) else (s,15,0,0,[],[])):=by unfold doesR;congr 1;simp [doesM,hk]
 rw [hM];clear hM;have c1:=ref25Trades_spec s c h;obtain ⟨R,hR⟩:=nmE (trdR s c);rw [<- hR] at c1 |-;clear hR;obtain ⟨T,no,e⟩:=R;dsimp only at c1 |-;simp only [StateV.cells,CmdV.cells,hk] at c1;simp only [StateV.cells] at c0 |-;simp only [CmdV.cells,hk];refine sgo 227 2 [.cell 4 42,.cell 5 52] mixed Tryz.func31 ?_;simp -implicitDefEqProofs only [go_sem,seval];(with_reducible and_intros)<;>first|exact .dq|omega|skip
 refine CallN.pure c0 ?_;simp -implicitDefEqProofs only [go_sem,seval];(with_reducible and_intros)<;>first|exact .dq|omega|skip
 by_cases b1:s.phase=0
 case neg =>
  have d:(s.phase==0)=false:=by simpa using b1
  rw [if_neg b1];simp only [doesF,if_neg (show ¬ (15:Int)=0 by decide)];simp -implicitDefEqProofs only [go_sem,seval,bne,d];(with_reducible and_intros)<;>first|exact .dq|omega|skip
  refine CallN.pure (hno 15) ?_;simp -implicitDefEqProofs only [go_sem,seval];(with_reducible and_intros)<;>first|exact .dq|omega|skip
  all_goals simp [ReplyV.err]
 have d1:(s.phase==0)=true:=by simpa using b1
 rw [if_pos b1];simp -implicitDefEqProofs only [go_sem,seval,bne,d1];(with_reducible and_intros)<;>first|exact .dq|omega|skip
 refine CallN.gen [] [112] false (by simp) ?_;simp -implicitDefEqProofs only [go_sem,seval];refine CallG.intro c1 ?_;simp -implicitDefEqProofs only [go_sem,seval];(with_reducible and_intros)<;>first|exact .dq|omega|skip
 by_cases q:e=0
 ·have d:(e==0)=true:=by simpa using q
  simp only [doesF,if_pos q];simp -implicitDefEqProofs only [go_sem,seval,bne,d];(with_reducible and_intros)<;>first|exact .dq|omega|skip
  all_goals simp [pl]
 ·have d:(e==0)=false:=by simpa using q
  simp only [doesF,if_neg q];simp -implicitDefEqProofs only [go_sem,seval,bne,d];(with_reducible and_intros)<;>first|exact .dq|omega|skip
  refine CallN.pure (hno e) ?_;simp -implicitDefEqProofs only [go_sem,seval];(with_reducible and_intros)<;>first|exact .dq|omega|skip
  all_goals simp [ReplyV.err]
theorem does_11 (s:StateV) (c:CmdV) (h:s.good) (hk:c.kind=11):Abs.Spec Tryz.prog 31 [] [.agg s.cells,.agg c.cells] [] (.tup [.agg (doesR s c).1.cells,.agg (doesR s c).2.cells]):=by
 have hno:=fun e=>ref25No_spec e
 have c0:=twinState_frozen s h.small;have hM:doesR s c=doesF s (if s.phase=0 then ((trdR s c).1,(trdR s c).2.2,(trdR s c).2.1,0,[],[]) else (s,15,0,0,[],[])):=by unfold doesR;congr 1;simp [doesM,hk]
 rw [hM];clear hM;have c1:=ref25Trades_spec s c h;obtain ⟨R,hR⟩:=nmE (trdR s c);rw [<- hR] at c1 |-;clear hR;obtain ⟨T,no,e⟩:=R;dsimp only at c1 |-;simp only [StateV.cells,CmdV.cells,hk] at c1;simp only [StateV.cells] at c0 |-;simp only [CmdV.cells,hk];refine sgo 227 2 [.cell 4 42,.cell 5 52] mixed Tryz.func31 ?_;simp -implicitDefEqProofs only [go_sem,seval];(with_reducible and_intros)<;>first|exact .dq|omega|skip
 refine CallN.pure c0 ?_;simp -implicitDefEqProofs only [go_sem,seval];(with_reducible and_intros)<;>first|exact .dq|omega|skip
 by_cases b1:s.phase=0
 case neg =>
  have d:(s.phase==0)=false:=by simpa using b1
  rw [if_neg b1];simp only [doesF,if_neg (show ¬ (15:Int)=0 by decide)];simp -implicitDefEqProofs only [go_sem,seval,bne,d];(with_reducible and_intros)<;>first|exact .dq|omega|skip
  refine CallN.pure (hno 15) ?_;simp -implicitDefEqProofs only [go_sem,seval];(with_reducible and_intros)<;>first|exact .dq|omega|skip
  all_goals simp [ReplyV.err]
 have d1:(s.phase==0)=true:=by simpa using b1
 rw [if_pos b1];simp -implicitDefEqProofs only [go_sem,seval,bne,d1];(with_reducible and_intros)<;>first|exact .dq|omega|skip
 refine CallN.gen [] [112] false (by simp) ?_;simp -implicitDefEqProofs only [go_sem,seval];refine CallG.intro c1 ?_;simp -implicitDefEqProofs only [go_sem,seval];(with_reducible and_intros)<;>first|exact .dq|omega|skip
 by_cases q:e=0
 ·have d:(e==0)=true:=by simpa using q
  simp only [doesF,if_pos q];simp -implicitDefEqProofs only [go_sem,seval,bne,d];(with_reducible and_intros)<;>first|exact .dq|omega|skip
  all_goals simp [pl]
 ·have d:(e==0)=false:=by simpa using q
  simp only [doesF,if_neg q];simp -implicitDefEqProofs only [go_sem,seval,bne,d];(with_reducible and_intros)<;>first|exact .dq|omega|skip
  refine CallN.pure (hno e) ?_;simp -implicitDefEqProofs only [go_sem,seval];(with_reducible and_intros)<;>first|exact .dq|omega|skip
  all_goals simp [ReplyV.err]
theorem does_12 (s:StateV) (c:CmdV) (h:s.good) (hk:c.kind=12):Abs.Spec Tryz.prog 31 [] [.agg s.cells,.agg c.cells] [] (.tup [.agg (doesR s c).1.cells,.agg (doesR s c).2.cells]):=by
 have hno:=fun e=>ref25No_spec e
 have c0:=twinState_frozen s h.small;have hM:doesR s c=doesF s (if s.phase=0 then ((trdR s c).1,(trdR s c).2.2,(trdR s c).2.1,0,[],[]) else (s,15,0,0,[],[])):=by unfold doesR;congr 1;simp [doesM,hk]
 rw [hM];clear hM;have c1:=ref25Trades_spec s c h;obtain ⟨R,hR⟩:=nmE (trdR s c);rw [<- hR] at c1 |-;clear hR;obtain ⟨T,no,e⟩:=R;dsimp only at c1 |-;simp only [StateV.cells,CmdV.cells,hk] at c1;simp only [StateV.cells] at c0 |-;simp only [CmdV.cells,hk];refine sgo 227 2 [.cell 4 42,.cell 5 52] mixed Tryz.func31 ?_;simp -implicitDefEqProofs only [go_sem,seval];(with_reducible and_intros)<;>first|exact .dq|omega|skip
 refine CallN.pure c0 ?_;simp -implicitDefEqProofs only [go_sem,seval];(with_reducible and_intros)<;>first|exact .dq|omega|skip
 by_cases b1:s.phase=0
 case neg =>
  have d:(s.phase==0)=false:=by simpa using b1
  rw [if_neg b1];simp only [doesF,if_neg (show ¬ (15:Int)=0 by decide)];simp -implicitDefEqProofs only [go_sem,seval,bne,d];(with_reducible and_intros)<;>first|exact .dq|omega|skip
  refine CallN.pure (hno 15) ?_;simp -implicitDefEqProofs only [go_sem,seval];(with_reducible and_intros)<;>first|exact .dq|omega|skip
  all_goals simp [ReplyV.err]
 have d1:(s.phase==0)=true:=by simpa using b1
 rw [if_pos b1];simp -implicitDefEqProofs only [go_sem,seval,bne,d1];(with_reducible and_intros)<;>first|exact .dq|omega|skip
 refine CallN.gen [] [112] false (by simp) ?_;simp -implicitDefEqProofs only [go_sem,seval];refine CallG.intro c1 ?_;simp -implicitDefEqProofs only [go_sem,seval];(with_reducible and_intros)<;>first|exact .dq|omega|skip
 by_cases q:e=0
 ·have d:(e==0)=true:=by simpa using q
  simp only [doesF,if_pos q];simp -implicitDefEqProofs only [go_sem,seval,bne,d];(with_reducible and_intros)<;>first|exact .dq|omega|skip
  all_goals simp [pl]
 ·have d:(e==0)=false:=by simpa using q
  simp only [doesF,if_neg q];simp -implicitDefEqProofs only [go_sem,seval,bne,d];(with_reducible and_intros)<;>first|exact .dq|omega|skip
  refine CallN.pure (hno e) ?_;simp -implicitDefEqProofs only [go_sem,seval];(with_reducible and_intros)<;>first|exact .dq|omega|skip
  all_goals simp [ReplyV.err]
theorem does_13 (s:StateV) (c:CmdV) (h:s.good) (hk:c.kind=13):Abs.Spec Tryz.prog 31 [] [.agg s.cells,.agg c.cells] [] (.tup [.agg (doesR s c).1.cells,.agg (doesR s c).2.cells]):=by
 have hno:=fun e=>ref25No_spec e
 have c0:=twinState_frozen s h.small;have hM:doesR s c=doesF s (if s.phase=0 then ((trdR s c).1,(trdR s c).2.2,(trdR s c).2.1,0,[],[]) else (s,15,0,0,[],[])):=by unfold doesR;congr 1;simp [doesM,hk]
 rw [hM];clear hM;have c1:=ref25Trades_spec s c h;obtain ⟨R,hR⟩:=nmE (trdR s c);rw [<- hR] at c1 |-;clear hR;obtain ⟨T,no,e⟩:=R;dsimp only at c1 |-;simp only [StateV.cells,CmdV.cells,hk] at c1;simp only [StateV.cells] at c0 |-;simp only [CmdV.cells,hk];refine sgo 227 2 [.cell 4 42,.cell 5 52] mixed Tryz.func31 ?_;simp -implicitDefEqProofs only [go_sem,seval];(with_reducible and_intros)<;>first|exact .dq|omega|skip
 refine CallN.pure c0 ?_;simp -implicitDefEqProofs only [go_sem,seval];(with_reducible and_intros)<;>first|exact .dq|omega|skip
 by_cases b1:s.phase=0
 case neg =>
  have d:(s.phase==0)=false:=by simpa using b1
  rw [if_neg b1];simp only [doesF,if_neg (show ¬ (15:Int)=0 by decide)];simp -implicitDefEqProofs only [go_sem,seval,bne,d];(with_reducible and_intros)<;>first|exact .dq|omega|skip
  refine CallN.pure (hno 15) ?_;simp -implicitDefEqProofs only [go_sem,seval];(with_reducible and_intros)<;>first|exact .dq|omega|skip
  all_goals simp [ReplyV.err]
 have d1:(s.phase==0)=true:=by simpa using b1
 rw [if_pos b1];simp -implicitDefEqProofs only [go_sem,seval,bne,d1];(with_reducible and_intros)<;>first|exact .dq|omega|skip
 refine CallN.gen [] [112] false (by simp) ?_;simp -implicitDefEqProofs only [go_sem,seval];refine CallG.intro c1 ?_;simp -implicitDefEqProofs only [go_sem,seval];(with_reducible and_intros)<;>first|exact .dq|omega|skip
 by_cases q:e=0
 ·have d:(e==0)=true:=by simpa using q
  simp only [doesF,if_pos q];simp -implicitDefEqProofs only [go_sem,seval,bne,d];(with_reducible and_intros)<;>first|exact .dq|omega|skip
  all_goals simp [pl]
 ·have d:(e==0)=false:=by simpa using q
  simp only [doesF,if_neg q];simp -implicitDefEqProofs only [go_sem,seval,bne,d];(with_reducible and_intros)<;>first|exact .dq|omega|skip
  refine CallN.pure (hno e) ?_;simp -implicitDefEqProofs only [go_sem,seval];(with_reducible and_intros)<;>first|exact .dq|omega|skip
  all_goals simp [ReplyV.err]
theorem does_14 (s:StateV) (c:CmdV) (h:s.good) (hk:c.kind=14):Abs.Spec Tryz.prog 31 [] [.agg s.cells,.agg c.cells] [] (.tup [.agg (doesR s c).1.cells,.agg (doesR s c).2.cells]):=by
 have hno:=fun e=>ref25No_spec e
 have c0:=twinState_frozen s h.small;have hM:doesR s c=doesF s (settleS s,settleE s,0,0,settleD s,[]):=by unfold doesR;congr 1;simp [doesM,hk]
 rw [hM];clear hM;have c1:=refSettle_spec s h.small h.rng h.qs;obtain ⟨T,hT⟩:=nmE (settleS s);obtain ⟨e,he⟩:=nmE (settleE s);obtain ⟨ds,hds⟩:∃ l,l=settleD s:=⟨_,rfl⟩
 rw [<- hT,<- he,<- hds] at c1 |-;clear hT he hds;simp only [StateV.cells] at c1;simp only [StateV.cells] at c0 |-;simp only [CmdV.cells,hk];refine sgo 227 2 [.cell 4 42,.cell 5 52] mixed Tryz.func31 ?_;simp -implicitDefEqProofs only [go_sem,seval];(with_reducible and_intros)<;>first|exact .dq|omega|skip
 refine CallN.pure c0 ?_;simp -implicitDefEqProofs only [go_sem,seval];(with_reducible and_intros)<;>first|exact .dq|omega|skip
 refine CallN.pure c1 ?_;simp -implicitDefEqProofs only [go_sem,seval];(with_reducible and_intros)<;>first|exact .dq|omega|skip
 by_cases q:e=0
 ·have d:(e==0)=true:=by simpa using q
  simp only [doesF,if_pos q];simp -implicitDefEqProofs only [go_sem,seval,bne,d];(with_reducible and_intros)<;>first|exact .dq|omega|skip
  all_goals simp [pl]
 ·have d:(e==0)=false:=by simpa using q
  simp only [doesF,if_neg q];simp -implicitDefEqProofs only [go_sem,seval,bne,d];(with_reducible and_intros)<;>first|exact .dq|omega|skip
  refine CallN.pure (hno e) ?_;simp -implicitDefEqProofs only [go_sem,seval];(with_reducible and_intros)<;>first|exact .dq|omega|skip
  all_goals simp [ReplyV.err]
theorem does_15 (s:StateV) (c:CmdV) (h:s.good) (hk:c.kind=15):Abs.Spec Tryz.prog 31 [] [.agg s.cells,.agg c.cells] [] (.tup [.agg (doesR s c).1.cells,.agg (doesR s c).2.cells]):=by
 have hno:=fun e=>ref25No_spec e
 have c0:=twinState_frozen s h.small;have hM:doesR s c=doesF s (marginS s,marginE s,0,0,marginD s,[]):=by unfold doesR;congr 1;simp [doesM,hk]
 rw [hM];clear hM;have c1:=refMarginDay_spec s h.small h.rng h.bs (by have:=h.ps;omega);obtain ⟨T,hT⟩:=nmE (marginS s);obtain ⟨e,he⟩:=nmE (marginE s);obtain ⟨ds,hds⟩:∃ l,l=marginD s:=⟨_,rfl⟩
 rw [<- hT,<- he,<- hds] at c1 |-;clear hT he hds;simp only [StateV.cells] at c1;simp only [StateV.cells] at c0 |-;simp only [CmdV.cells,hk];refine sgo 227 2 [.cell 4 42,.cell 5 52] mixed Tryz.func31 ?_;simp -implicitDefEqProofs only [go_sem,seval];(with_reducible and_intros)<;>first|exact .dq|omega|skip
 refine CallN.pure c0 ?_;simp -implicitDefEqProofs only [go_sem,seval];(with_reducible and_intros)<;>first|exact .dq|omega|skip
 refine CallN.pure c1 ?_;simp -implicitDefEqProofs only [go_sem,seval];(with_reducible and_intros)<;>first|exact .dq|omega|skip
 by_cases q:e=0
 ·have d:(e==0)=true:=by simpa using q
  simp only [doesF,if_pos q];simp -implicitDefEqProofs only [go_sem,seval,bne,d];(with_reducible and_intros)<;>first|exact .dq|omega|skip
  all_goals simp [pl]
 ·have d:(e==0)=false:=by simpa using q
  simp only [doesF,if_neg q];simp -implicitDefEqProofs only [go_sem,seval,bne,d];(with_reducible and_intros)<;>first|exact .dq|omega|skip
  refine CallN.pure (hno e) ?_;simp -implicitDefEqProofs only [go_sem,seval];(with_reducible and_intros)<;>first|exact .dq|omega|skip
  all_goals simp [ReplyV.err]
theorem does_16 (s:StateV) (c:CmdV) (h:s.good) (hk:c.kind=16):Abs.Spec Tryz.prog 31 [] [.agg s.cells,.agg c.cells] [] (.tup [.agg (doesR s c).1.cells,.agg (doesR s c).2.cells]):=by
 have hno:=fun e=>ref25No_spec e
 have c0:=twinState_frozen s h.small;have hM:doesR s c=doesF s (openS s,openE s,0,0,[],[]):=by unfold doesR;congr 1;simp [doesM,hk]
 rw [hM];clear hM;have c1:=refDayOpen_spec s h.small h.rng;obtain ⟨T,hT⟩:=nmE (openS s);obtain ⟨e,he⟩:=nmE (openE s);rw [<- hT,<- he] at c1 |-;clear hT he;simp only [StateV.cells] at c1;simp only [StateV.cells] at c0 |-;simp only [CmdV.cells,hk];refine sgo 227 2 [.cell 4 42,.cell 5 52] mixed Tryz.func31 ?_;simp -implicitDefEqProofs only [go_sem,seval];(with_reducible and_intros)<;>first|exact .dq|omega|skip
 refine CallN.pure c0 ?_;simp -implicitDefEqProofs only [go_sem,seval];(with_reducible and_intros)<;>first|exact .dq|omega|skip
 refine CallN.pure c1 ?_;simp -implicitDefEqProofs only [go_sem,seval];(with_reducible and_intros)<;>first|exact .dq|omega|skip
 by_cases q:e=0
 ·have d:(e==0)=true:=by simpa using q
  simp only [doesF,if_pos q];simp -implicitDefEqProofs only [go_sem,seval,bne,d];(with_reducible and_intros)<;>first|exact .dq|omega|skip
  all_goals simp [pl]
 ·have d:(e==0)=false:=by simpa using q
  simp only [doesF,if_neg q];simp -implicitDefEqProofs only [go_sem,seval,bne,d];(with_reducible and_intros)<;>first|exact .dq|omega|skip
  refine CallN.pure (hno e) ?_;simp -implicitDefEqProofs only [go_sem,seval];(with_reducible and_intros)<;>first|exact .dq|omega|skip
  all_goals simp [ReplyV.err]
theorem does_17 (s:StateV) (c:CmdV) (h:s.good) (hk:c.kind=17):Abs.Spec Tryz.prog 31 [] [.agg s.cells,.agg c.cells] [] (.tup [.agg (doesR s c).1.cells,.agg (doesR s c).2.cells]):=by
 have hno:=fun e=>ref25No_spec e
 have c0:=twinState_frozen s h.small;have hM:doesR s c=doesF s (tickS s c.amt,tickE s c.amt,0,0,tickD s c.amt,[]):=by unfold doesR;congr 1;simp [doesM,hk]
 rw [hM];clear hM;have c1:=refTick_spec s c.amt h.small h.rng;obtain ⟨T,hT⟩:=nmE (tickS s c.amt);obtain ⟨e,he⟩:=nmE (tickE s c.amt);obtain ⟨ds,hds⟩:∃ l,l=tickD s c.amt:=⟨_,rfl⟩
 rw [<- hT,<- he,<- hds] at c1 |-;clear hT he hds;simp only [StateV.cells] at c1;simp only [StateV.cells] at c0 |-;simp only [CmdV.cells,hk];refine sgo 227 2 [.cell 4 42,.cell 5 52] mixed Tryz.func31 ?_;simp -implicitDefEqProofs only [go_sem,seval];(with_reducible and_intros)<;>first|exact .dq|omega|skip
 refine CallN.pure c0 ?_;simp -implicitDefEqProofs only [go_sem,seval];(with_reducible and_intros)<;>first|exact .dq|omega|skip
 refine CallN.pure c1 ?_;simp -implicitDefEqProofs only [go_sem,seval];(with_reducible and_intros)<;>first|exact .dq|omega|skip
 by_cases q:e=0
 ·have d:(e==0)=true:=by simpa using q
  simp only [doesF,if_pos q];simp -implicitDefEqProofs only [go_sem,seval,bne,d];(with_reducible and_intros)<;>first|exact .dq|omega|skip
  all_goals simp [pl]
 ·have d:(e==0)=false:=by simpa using q
  simp only [doesF,if_neg q];simp -implicitDefEqProofs only [go_sem,seval,bne,d];(with_reducible and_intros)<;>first|exact .dq|omega|skip
  refine CallN.pure (hno e) ?_;simp -implicitDefEqProofs only [go_sem,seval];(with_reducible and_intros)<;>first|exact .dq|omega|skip
  all_goals simp [ReplyV.err]
theorem does_18 (s:StateV) (c:CmdV) (h:s.good) (hk:c.kind=18):Abs.Spec Tryz.prog 31 [] [.agg s.cells,.agg c.cells] [] (.tup [.agg (doesR s c).1.cells,.agg (doesR s c).2.cells]):=by
 have hno:=fun e=>ref25No_spec e
 have c0:=twinState_B s h.small;have hM:doesR s c=doesF s ((bidR s c).1,(bidR s c).2,0,0,[],[]):=by unfold doesR;congr 1;simp [doesM,hk]
 rw [hM];clear hM;have c1:=ref25Bid_spec s c h;obtain ⟨R,hR⟩:=nmE (bidR s c);rw [<- hR] at c1 |-;clear hR;obtain ⟨T,e⟩:=R;dsimp only at c1 |-;simp only [StateV.cells,StateV.cellsB,CmdV.cells,hk] at c1 c0;simp only [StateV.cells];simp only [CmdV.cells,hk];refine sgo 227 2 [.cell 4 42,.cell 5 52] mixed Tryz.func31 ?_;simp -implicitDefEqProofs only [go_sem,seval];(with_reducible and_intros)<;>first|exact .dq|omega|skip
 refine CallN.gen [] [] false (by simp) ?_;simp -implicitDefEqProofs only [go_sem,seval];refine CallG.intro c0 ?_;simp -implicitDefEqProofs only [go_sem,seval];(with_reducible and_intros)<;>first|exact .dq|omega|skip
 refine CallN.gen [] [112,200] false (by simp) ?_;simp -implicitDefEqProofs only [go_sem,seval];refine CallG.intro c1 ?_;simp -implicitDefEqProofs only [go_sem,seval];(with_reducible and_intros)<;>first|exact .dq|omega|skip
 by_cases q:e=0
 ·have d:(e==0)=true:=by simpa using q
  simp only [doesF,if_pos q];simp -implicitDefEqProofs only [go_sem,seval,bne,d];(with_reducible and_intros)<;>first|exact .dq|omega|skip
  all_goals simp [pl]
 ·have d:(e==0)=false:=by simpa using q
  simp only [doesF,if_neg q];simp -implicitDefEqProofs only [go_sem,seval,bne,d];(with_reducible and_intros)<;>first|exact .dq|omega|skip
  refine CallN.pure (hno e) ?_;simp -implicitDefEqProofs only [go_sem,seval];(with_reducible and_intros)<;>first|exact .dq|omega|skip
  all_goals simp [ReplyV.err]
theorem does_19 (s:StateV) (c:CmdV) (h:s.good) (hk:c.kind=19):Abs.Spec Tryz.prog 31 [] [.agg s.cells,.agg c.cells] [] (.tup [.agg (doesR s c).1.cells,.agg (doesR s c).2.cells]):=by
 have hno:=fun e=>ref25No_spec e
 have c0:=twinState_frozen s h.small;have hM:doesR s c=doesF s (outS s c.who,outE s c.who,0,0,outD s c.who,outF s c.who):=by unfold doesR;congr 1;simp [doesM,hk]
 rw [hM];clear hM;have c1:=refOut_spec s c.who h.small h.rng h.ms h.qs h.bids h.bs;obtain ⟨T,hT⟩:=nmE (outS s c.who);obtain ⟨e,he⟩:=nmE (outE s c.who);obtain ⟨ds,hds⟩:∃ l,l=outD s c.who:=⟨_,rfl⟩
 obtain ⟨fs,hfs⟩:∃ l,l=outF s c.who:=⟨_,rfl⟩
 rw [<- hT,<- he,<- hds,<- hfs] at c1 |-;clear hT he hds hfs;simp only [StateV.cells] at c1;simp only [StateV.cells] at c0 |-;simp only [CmdV.cells,hk];refine sgo 227 2 [.cell 4 42,.cell 5 52] mixed Tryz.func31 ?_;simp -implicitDefEqProofs only [go_sem,seval];(with_reducible and_intros)<;>first|exact .dq|omega|skip
 refine CallN.pure c0 ?_;simp -implicitDefEqProofs only [go_sem,seval];(with_reducible and_intros)<;>first|exact .dq|omega|skip
 refine CallN.pure c1 ?_;simp -implicitDefEqProofs only [go_sem,seval];(with_reducible and_intros)<;>first|exact .dq|omega|skip
 by_cases q:e=0
 ·have d:(e==0)=true:=by simpa using q
  simp only [doesF,if_pos q];simp -implicitDefEqProofs only [go_sem,seval,bne,d];(with_reducible and_intros)<;>first|exact .dq|omega|skip
  all_goals simp [pl]
 ·have d:(e==0)=false:=by simpa using q
  simp only [doesF,if_neg q];simp -implicitDefEqProofs only [go_sem,seval,bne,d];(with_reducible and_intros)<;>first|exact .dq|omega|skip
  refine CallN.pure (hno e) ?_;simp -implicitDefEqProofs only [go_sem,seval];(with_reducible and_intros)<;>first|exact .dq|omega|skip
  all_goals simp [ReplyV.err]
theorem does_20 (s:StateV) (c:CmdV) (h:s.good) (hk:c.kind=20):Abs.Spec Tryz.prog 31 [] [.agg s.cells,.agg c.cells] [] (.tup [.agg (doesR s c).1.cells,.agg (doesR s c).2.cells]):=by
 have hno:=fun e=>ref25No_spec e
 have c0:=twinState_frozen s h.small;have hM:doesR s c=doesF s ((refG 3 0 s []).1,(refG 3 0 s []).2.2,0,0,(refG 3 0 s []).2.1,[]):=by unfold doesR;congr 1;simp [doesM,hk]
 rw [hM];clear hM;have c1:=ref25Refill_spec s h;obtain ⟨R,hR⟩:=nmE (refG 3 0 s []);rw [<- hR] at c1 |-;clear hR;obtain ⟨T,ds,e⟩:=R;dsimp only at c1 |-;simp only [StateV.cells] at c1;simp only [StateV.cells] at c0 |-;simp only [CmdV.cells,hk];refine sgo 227 2 [.cell 4 42,.cell 5 52] mixed Tryz.func31 ?_;simp -implicitDefEqProofs only [go_sem,seval];(with_reducible and_intros)<;>first|exact .dq|omega|skip
 refine CallN.pure c0 ?_;simp -implicitDefEqProofs only [go_sem,seval];(with_reducible and_intros)<;>first|exact .dq|omega|skip
 refine CallN.gen [] [112] false (by simp) ?_;simp -implicitDefEqProofs only [go_sem,seval];refine CallG.intro c1 ?_;simp -implicitDefEqProofs only [go_sem,seval];(with_reducible and_intros)<;>first|exact .dq|omega|skip
 by_cases q:e=0
 ·have d:(e==0)=true:=by simpa using q
  simp only [doesF,if_pos q];simp -implicitDefEqProofs only [go_sem,seval,bne,d];(with_reducible and_intros)<;>first|exact .dq|omega|skip
  all_goals simp [pl]
 ·have d:(e==0)=false:=by simpa using q
  simp only [doesF,if_neg q];simp -implicitDefEqProofs only [go_sem,seval,bne,d];(with_reducible and_intros)<;>first|exact .dq|omega|skip
  refine CallN.pure (hno e) ?_;simp -implicitDefEqProofs only [go_sem,seval];(with_reducible and_intros)<;>first|exact .dq|omega|skip
  all_goals simp [ReplyV.err]
theorem does_21 (s:StateV) (c:CmdV) (h:s.good) (hk:c.kind=21):Abs.Spec Tryz.prog 31 [] [.agg s.cells,.agg c.cells] [] (.tup [.agg (doesR s c).1.cells,.agg (doesR s c).2.cells]):=by
 have hno:=fun e=>ref25No_spec e
 have c0:=twinState_frozen s h.small;have hM:doesR s c=doesF s (if AcctV.right ⟨c.no,c.who,c.cur⟩ then (s,0,0,ofL ⟨c.no,c.who,c.cur⟩ s.led.bs,[],[]) else (s,3,0,0,[],[])):=by unfold doesR;congr 1;simp [doesM,hk]
 rw [hM];clear hM;have a1:=ref25Acct_spec c.no c.who c.cur;have a2:=ref8Right_spec ⟨c.no,c.who,c.cur⟩;have a3:=ref8Of_spec s.led ⟨c.no,c.who,c.cur⟩ h.small.led;simp only [AcctV.cells] at a2 a3;simp only [LedV.cells] at a3;simp only [StateV.cells] at c0 |-;simp only [CmdV.cells,hk];refine sgo 227 2 [.cell 4 42,.cell 5 52] mixed Tryz.func31 ?_;simp -implicitDefEqProofs only [go_sem,seval];(with_reducible and_intros)<;>first|exact .dq|omega|skip
 refine CallN.pure c0 ?_;simp -implicitDefEqProofs only [go_sem,seval];(with_reducible and_intros)<;>first|exact .dq|omega|skip
 refine CallN.pure a1 ?_;simp -implicitDefEqProofs only [go_sem,seval];(with_reducible and_intros)<;>first|exact .dq|omega|skip
 refine CallN.pure a2 ?_;cases b1:AcctV.right ⟨c.no,c.who,c.cur⟩
 ·rw [if_neg (by decide)];simp only [doesF,if_neg (show ¬ (3:Int)=0 by decide)];simp -implicitDefEqProofs only [go_sem,seval];(with_reducible and_intros)<;>first|exact .dq|omega|skip
  refine CallN.pure (hno 3) ?_;simp -implicitDefEqProofs only [go_sem,seval];(with_reducible and_intros)<;>first|exact .dq|omega|skip
  all_goals simp [ReplyV.err]
 rw [if_pos rfl];simp -implicitDefEqProofs only [go_sem,seval];(with_reducible and_intros)<;>first|exact .dq|omega|skip
 refine CallN.pure a1 ?_;simp -implicitDefEqProofs only [go_sem,seval];(with_reducible and_intros)<;>first|exact .dq|omega|skip
 refine CallN.pure a3 ?_;simp only [doesF,if_pos (show (0:Int)=0 from rfl)];simp -implicitDefEqProofs only [go_sem,seval];(with_reducible and_intros)<;>first|exact .dq|omega|skip
 all_goals simp [pl]
theorem does_22 (s:StateV) (c:CmdV) (h:s.good) (hk:c.kind=22):Abs.Spec Tryz.prog 31 [] [.agg s.cells,.agg c.cells] [] (.tup [.agg (doesR s c).1.cells,.agg (doesR s c).2.cells]):=by
 have hno:=fun e=>ref25No_spec e
 have c0:=twinState_frozen s h.small;have hM:doesR s c=doesF s (if keyB c.who c.inst then (s,0,0,(posOf c.who c.inst s.book.qs).qty,[],[]) else (s,3,0,0,[],[])):=by unfold doesR;congr 1;simp [doesM,hk]
 rw [hM];clear hM;have a1:=refKey_spec c.who c.inst;have a3:=refOf11_spec s.book c.who c.inst h.small.book;obtain ⟨y,hy⟩:=nmE (posOf c.who c.inst s.book.qs);rw [<- hy] at a3 |-;clear hy;simp only [BookV.cells,PosV.cells] at a3;simp only [StateV.cells] at c0 |-;simp only [CmdV.cells,hk];refine sgo 227 2 [.cell 4 42,.cell 5 52] mixed Tryz.func31 ?_;simp -implicitDefEqProofs only [go_sem,seval];(with_reducible and_intros)<;>first|exact .dq|omega|skip
 refine CallN.pure c0 ?_;simp -implicitDefEqProofs only [go_sem,seval];(with_reducible and_intros)<;>first|exact .dq|omega|skip
 refine CallN.pure a1 ?_;cases b1:keyB c.who c.inst
 ·rw [if_neg (by decide)];simp only [doesF,if_neg (show ¬ (3:Int)=0 by decide)];simp -implicitDefEqProofs only [go_sem,seval];(with_reducible and_intros)<;>first|exact .dq|omega|skip
  refine CallN.pure (hno 3) ?_;simp -implicitDefEqProofs only [go_sem,seval];(with_reducible and_intros)<;>first|exact .dq|omega|skip
  all_goals simp [ReplyV.err]
 rw [if_pos rfl];simp -implicitDefEqProofs only [go_sem,seval];(with_reducible and_intros)<;>first|exact .dq|omega|skip
 refine CallN.pure a3 ?_;simp only [doesF,if_pos (show (0:Int)=0 from rfl)];simp -implicitDefEqProofs only [go_sem,seval];(with_reducible and_intros)<;>first|exact .dq|omega|skip
 all_goals simp [pl]
end Go.Proofs.YtgnhdbdipfncgaaGreat
