/- EngineSound: for every input the law returns true, and its arguments read as before. -/
import Derived.Test.YtccipdjjkcejgaaGreatLA
import Derived.Test.YtccipdjjkcejgaaGreatAB
import Derived.Test.YtccipdjjkcejgaaGreatPFA
set_option linter.unusedSimpArgs false
set_option linter.unusedVariables false
open Go.Proofs.YtccipdjjkcejgaaGreat.Rows Go.Proofs.Tryz
namespace Go.Proofs.YtccipdjjkcejgaaGreat
open Go.ChangeShapes Go.WideShapes Go.ChangeAt Go.RowKit Go.Abs

theorem own:ownKnob prog.godebug=Option.none:=by kernel_rfl
theorem laidOut:laidOutB prog=true:=by kernel_rfl
set_option maxRecDepth 100000 in
theorem lifted (os:Os) (h:os.Started) (H:Type) (enc:TypeId × Value->H) :
  ReturnsInHanded {} checked os 4 .any (engineSoundSpec.pre6 enc prog f4 engineSoundRow.domain false) (engineSoundSpec.post enc prog f4 false true false false):=by
 refine returnsInHanded_of_change_sized (C:=checked) own h (by kernel_rfl) func4
  (ChangeSpec.witness6 (enc:=enc) (C:=checked) false ⟨#[],#[.slice none 0 0],[]⟩ 8 (by kernel_rfl) (by kernel_rfl) (by kernel_rfl) (by kernel_rfl)) ?_
 intro W k args ds gs before g I hcnd w _;have a:∀ (j:Nat) t v,f4.params[j]?=some t->args[j]?=some v->Value.okWide prog W .any k t v:=g;have o:=I;obtain ⟨p,q,l,hV,rfl,hfz,hnd⟩:=I;have G:DataW.TrodAll enc prog W 0 (fun _=>true) true f4.params.toList args.toList ds p:=l;rw [params4] at G a;obtain ⟨J,vs0,R,ds0,p0,q0,hargs,rfl,rfl,Z,r0⟩:=trodAll_cons G;obtain ⟨rfl,rfl,rfl⟩:=trodAll_nil r0;obtain rfl:args = #[J]:=by cases args;simp_all
 obtain ⟨rfl,rfl⟩:=trodVars_none hV;have hz:(DataW.weightsEach prog [57] [R]).all (· <= reachBytes)=true:=w;obtain ⟨rows0,Y,m⟩:=vr (z:=17) (s:=[.int .i64,.int .i64,.int .i64,.int .i64,.int .i64,.int .i64,.int .i64,.int .i64,.int .i64,.int .i64,.int .i64,.int .i64,.int .i64,.int .i64,.int .i64,.int .i64,.int .i64]) underlying57 (by kernel_rfl) (a 0 57 J rfl rfl) Z (gL hz 0 rfl rfl);obtain ⟨P,rfl,E⟩:=sY (c:=aN.cells) pR Y.2;clear l g;refine ((xZd P E).law (yU fun t ht=>by have n:t∈([]:List (Nat × Mj)):=ht;simp at n) rfl ?_).mono fun e W' ⟨he,hb⟩=>?_
 ·intro i v d b f
  match i,b,f with
  | 0,b,f=>simp at b f;subst b;subst f;exact m
  | i+1,b,f=>simp at b
 ·subst he;exact ⟨_,rfl,uw o rfl hb laidOut (by kernel_rfl) (by kernel_rfl) underlying4 rfl⟩
theorem K7:engineSoundRow.holds Tryz.pinned (OpenSpec.ofChange engineSoundSpec):=
 OpenClaim.holds_of_wide 4 f4 rfl rfl rfl rfl rfl rfl rfl ⟨rfl,rfl,rfl,rfl,rfl⟩ rfl rfl rfl rfl rfl agA func4 ad2
  (of_decide_eq_true agM) agS
  (fun os a H enc _=>lifted os a H enc)
theorem ad3:Rows.EngineSoundSaid:=K7
end Go.Proofs.YtccipdjjkcejgaaGreat
#print axioms Go.Proofs.YtccipdjjkcejgaaGreat.ad3
