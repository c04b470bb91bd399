/- Money of kinds: the law. No theorem of a claim. -/
import Derived.Test.YtgnhdbdipfncgaaGreatKL
set_option linter.unusedSimpArgs false
set_option linter.unusedVariables false
namespace Go.Proofs.YtgnhdbdipfncgaaGreat
open Go.Abs
set_option maxHeartbeats 2000000 in
set_option maxRecDepth 8000 in
theorem law_auditKinds (l:List CmdV) (c:Int):Abs.Spec Tryz.prog 5 [] [.sl 17 (l.map CmdV.cells),.int .i64 c] [] (.bool true):=by
 have hwk:=wakes27_spec;rcases Nat.lt_or_ge 1000 l.length with hlen | hlen
 ·have d:decide ((1000:Int) < (l.length:Int))=true:=decide_eq_true (by omega);refine sgo 55 2 [.tmp 4] mixed Tryz.func5 ?_;simp only [go_sem,seval,lml,d]
 have d:decide ((1000:Int) < (l.length:Int))=false:=decide_eq_false (by omega);have hG:=grown_spec l hlen;obtain ⟨hf,hp⟩:=growR_ok l;have hok:=hf.right.led;have hks:=led_kinds hok;have h6:=mon_six c _ hks;have h7:=mon_seven c _ hks;have h0:=curL_zero hok c;rw [h0] at h6 h7;have hlb:=hf.right.lens.bs;have hrng:=hf.right.rng hf.last hf.fit;have hM:=fun ks hk=>auditMoney_spec (growR l) c ks hrng (by omega) hk
 obtain ⟨s,hs⟩:=nmE (growR l);rw [<- hs] at hG h6 h7 hM;clear hs hf hp hok hks h0 hlb hrng;have hM7:=hM [1,2,3,4,5,6,1] (by decide);rw [h7,show resN 0=0 from rfl,show resE 0=0 from rfl] at hM7;have hM1:=fun k=>hM [k] (by simp)
 clear hM h7;obtain ⟨f,hfd⟩:∃ f:Nat->Int,f=fun (i:Nat)=>sumL (monL c [(i:Int)+1] s.led.bs):=⟨_,rfl⟩
 have hfi:∀ i:Nat,sumL (monL c [(i:Int)+1] s.led.bs)=f i:=fun i=>by rw [hfd]
 have hk6:kSum f 6=0:=by
  have g0:sumL (monL c [1] s.led.bs)=f 0:=hfi 0;have g1:sumL (monL c [2] s.led.bs)=f 1:=hfi 1;have g2:sumL (monL c [3] s.led.bs)=f 2:=hfi 2;have g3:sumL (monL c [4] s.led.bs)=f 3:=hfi 3;have g4:sumL (monL c [5] s.led.bs)=f 4:=hfi 4;have g5:sumL (monL c [6] s.led.bs)=f 5:=hfi 5;rw [g0,g1,g2,g3,g4,g5] at h6;simp only [kSum];omega
 clear hfd h6;simp only [StateV.cells,ints,List.map_cons,List.map_nil] at hG hM1 hM7;refine sgo 55 2 [.tmp 4] mixed Tryz.func5 ?_;simp only [go_sem,seval,lml,d];(with_reducible and_intros)<;>first|exact .dq|omega|skip
 refine CallN.pure hG ?_;simp only [go_sem,seval];(with_reducible and_intros)<;>first|exact .dq|omega|skip
 refine LoopK.walk (S:=Unit) 6 [1,5] [96] (fun i _=>[(6,.int .i64 (IntKind.wrap .i64 (kSum f i))),(7,.int .i64 ((i:Int)+1))]) (fun _ _=>[]) (fun _ _=>True) () trivial ?_ ?_ ?_
 ·have hk0:IntKind.wrap .i64 (kSum f 0)=0:=rfl;simp only [go_sem,seval,hk0]
 ·intro i _ hi _ _ _;have hdi:decide ((i:Int)+1<=6)=true:=decide_eq_true (by omega);have hw:IntKind.wrap .i64 ((i:Int)+1+1)=((i+1:Nat):Int)+1:=by rw [wr64 (by omega) (by omega)];omega
  have hMi:=hM1 ((i:Int)+1);rw [hfi] at hMi;have hst:IntKind.wrap .i64 (IntKind.wrap .i64 (kSum f i)+f i)=IntKind.wrap .i64 (kSum f (i+1)):=wrap_add _ _;obtain ⟨k,hk⟩:=nmE ((i:Int)+1);rw [<- hk] at hdi hw hMi |-;clear hM1 hM7 hfi;simp only [go_sem,seval,hdi];(with_reducible and_intros)<;>first|exact .dq|omega|skip
  refine CallN.gen [] [] true (by simp) ?_;simp only [go_sem,seval];refine CallG.intro hMi ?_;cases b:inR (f i)
  ·have e:resE (f i)=1:=by simp [resE,b]
   rw [e];simp only [go_sem,seval];(with_reducible and_intros)<;>first|exact .dq|omega|skip
   refine CallN.pure hwk ?_;simp only [go_sem,seval]
  ·have e:resE (f i)=0:=by simp [resE,b]
   have e2:resN (f i)=f i:=by simp [resN,b]
   rw [e,e2];simp only [go_sem,seval,hst,hw];(with_reducible and_intros)<;>first|exact .dq|omega|skip
   refine RoundK.step () hi trivial ?_;simp only [go_sem,seval]<;>simp
 intro _ _ _;have hdx:decide (((6:Nat):Int)+1<=6)=false:=by decide
 rw [hk6,show IntKind.wrap .i64 0=0 from rfl];simp only [go_sem,seval,hdx];(with_reducible and_intros)<;>first|exact .dq|omega|skip
 refine CallN.gen [] [] true (by simp) ?_;simp only [go_sem,seval];refine CallG.intro hM7 ?_;simp only [go_sem,seval];(with_reducible and_intros)<;>first|exact .dq|omega|skip
 refine CallN.pure hwk ?_;simp only [go_sem,seval]
end Go.Proofs.YtgnhdbdipfncgaaGreat
