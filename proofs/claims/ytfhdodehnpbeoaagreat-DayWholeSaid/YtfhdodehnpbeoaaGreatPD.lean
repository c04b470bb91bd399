/- DayWhole: for every input the law returns true, and its arguments read as before. -/
import Derived.Test.YtfhdodehnpbeoaaGreatYA
import Derived.Test.YtfhdodehnpbeoaaGreatAB
import Derived.Test.YtfhdodehnpbeoaaGreatPFD
set_option linter.unusedSimpArgs false
set_option linter.unusedVariables false
namespace Go.Proofs.YtfhdodehnpbeoaaGreat
open Go.ChangeShapes Go.WideShapes Go.ChangeAt Go.RowKit Go.Abs

theorem own:ownKnob Tryz.prog.godebug=none:=by kernel_rfl
theorem laidOut:laidOutB Tryz.prog=true:=by kernel_rfl
set_option maxRecDepth 100000 in
theorem lifted (os : Os) (b : os.Started) (H : Type) (enc : TypeId × Value → H) :
    ReturnsInHanded {} Tryz.checked os 6 .any (Rows.dayWholeSpec.pre6 enc Tryz.prog Tryz.f6 Rows.dayWholeRow.domain false) (Rows.dayWholeSpec.post enc Tryz.prog Tryz.f6 false true false false):=by
  refine returnsInHanded_of_change_sized (C:=Tryz.checked) own b (by kernel_rfl) Tryz.func6
    (ChangeSpec.witness6 (enc:=enc) (C:=Tryz.checked) false ⟨#[], #[.slice none 0 0], []⟩ 8 (by kernel_rfl) (by kernel_rfl) (by kernel_rfl) (by kernel_rfl)) ?_
  intro W h args ds gs before a u hcnd o _
  have f:∀(j:Nat) t v, Tryz.f6.params[j]? = some t → args[j]? = some v → Value.okWide Tryz.prog W .any h t v:=a
  have n:=u
  obtain⟨p, q, k, E, rfl, hfz, hnd⟩:=u
  have r:DataW.TrodAll enc Tryz.prog W 0 (λ_ => true) true Tryz.f6.params.toList args.toList ds p:=k
  rw[Tryz.params6]at r f
  obtain⟨w, vs0, y, ds0, p0, q0, hargs, rfl, rfl, B, J⟩:=trodAll_cons r
  obtain⟨rfl, rfl, rfl⟩:=trodAll_nil J
  obtain rfl:args = #[w]:=by cases args; simp_all
  obtain⟨rfl, rfl⟩:=trodVars_none E
  have I:(DataW.weightsEach Tryz.prog [22] [y]).all (· ≤ reachBytes)=true:=o
  obtain⟨rows0, A, m⟩:=zA (z:=17) (s:=[.int .i64, .int .i64, .int .i64, .int .i64, .int .i64, .int .i64, .int .i64, .int .i64, .int .i64, .int .i64, .int .i64, .int .i64, .int .i64, .int .i64, .int .i64, .int .i64, .int .i64]) Tryz.underlying22 (by kernel_rfl) (f 0 22 w rfl rfl) B (qB I 0 rfl rfl)
  obtain⟨x, rfl, ok0⟩:=wM (c:=bB.cells) vk A.2
  clear k a
  refine((QA x).law (zW λt G => by have D:t∈([]:List (Nat×Jb)):=G; simp at D) rfl ?_).mono λe W' ⟨F, hb⟩ => ?_
  · intro i v d g l
    match i, g, l with
    | 0, g, l => simp at g l; subst g; subst l; exact m
    |i + 1, g, l => simp at g
  · subst F
    exact⟨_, rfl, vw n rfl hb laidOut (by kernel_rfl) (by kernel_rfl) Tryz.underlying4 rfl⟩
theorem GG:Rows.dayWholeRow.holds Tryz.pinned (OpenSpec.ofChange Rows.dayWholeSpec) :=
  OpenClaim.holds_of_wide 6 Tryz.f6 rfl rfl rfl rfl rfl rfl rfl ⟨rfl, rfl, rfl, rfl, rfl⟩ rfl rfl rfl rfl rfl fN Tryz.func6 fJ
    (of_decide_eq_true fI) fW
    (λos a H enc _ => lifted os a H enc)
theorem JN:Rows.DayWholeSaid:=GG
end Go.Proofs.YtfhdodehnpbeoaaGreat
#print axioms Go.Proofs.YtfhdodehnpbeoaaGreat.JN
