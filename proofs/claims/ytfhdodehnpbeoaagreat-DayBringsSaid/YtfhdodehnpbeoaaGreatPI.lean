/- DayBrings: for every input the law returns true, and its arguments read as before. -/
import Derived.Test.YtfhdodehnpbeoaaGreatLI
import Derived.Test.YtfhdodehnpbeoaaGreatAB
import Derived.Test.YtfhdodehnpbeoaaGreatPFI
set_option linter.unusedSimpArgs false
set_option linter.unusedVariables false
namespace Go.Proofs.YtfhdodehnpbeoaaGreat
open Go.ChangeShapes Go.WideShapes Go.ChangeAt Go.RowKit Go.Abs

theorem own:ownKnob Tryz.prog.godebug=none:=by kernel_rfl
theorem laidOut:laidOutB Tryz.prog=true:=by kernel_rfl
set_option maxRecDepth 100000 in
theorem lifted (os : Os) (f : os.Started) (H : Type) (enc : TypeId × Value → H) :
    ReturnsInHanded {} Tryz.checked os 7 .any (Rows.dayBringsSpec.pre6 enc Tryz.prog Tryz.f7 Rows.dayBringsRow.domain false) (Rows.dayBringsSpec.post enc Tryz.prog Tryz.f7 false true false false):=by
  refine returnsInHanded_of_change_sized (C:=Tryz.checked) own f (by kernel_rfl) Tryz.func7
    (ChangeSpec.witness6 (enc:=enc) (C:=Tryz.checked) false ⟨#[], #[.slice none 0 0, .bool false], []⟩ 8 (by kernel_rfl) (by kernel_rfl) (by kernel_rfl) (by kernel_rfl)) ?_
  intro W k args ds gs before b u hcnd o _
  have a:∀(j:Nat) t v, Tryz.f7.params[j]? = some t → args[j]? = some v → Value.okWide Tryz.prog W .any k t v:=b
  have n:=u
  obtain⟨p, q, l, I, rfl, hfz, hnd⟩:=u
  have r:DataW.TrodAll enc Tryz.prog W 0 (λ_ => true) true Tryz.f7.params.toList args.toList ds p:=l
  rw[Tryz.params7]at r a
  obtain⟨w, vs0, B, ds0, p0, q0, hargs, rfl, rfl, F, M⟩:=trodAll_cons r
  obtain⟨x, vs1, D, ds1, p1, q1, rfl, rfl, rfl, h1, r1⟩:=trodAll_cons M
  obtain⟨rfl, rfl, rfl⟩:=trodAll_nil r1
  obtain rfl:args = #[w, x]:=by cases args; simp_all
  obtain⟨rfl, rfl⟩:=trodVars_none I
  have L:(DataW.weightsEach Tryz.prog [22, 4] [B, D]).all (· ≤ reachBytes)=true:=o
  obtain⟨rows0, E, m⟩:=zA (z:=17) (s:=[.int .i64, .int .i64, .int .i64, .int .i64, .int .i64, .int .i64, .int .i64, .int .i64, .int .i64, .int .i64, .int .i64, .int .i64, .int .i64, .int .i64, .int .i64, .int .i64, .int .i64]) Tryz.underlying22 (by kernel_rfl) (a 0 22 w rfl rfl) F (qB L 0 rfl rfl)
  obtain⟨y, rfl, ok0⟩:=wM (c:=bB.cells) vk E.2
  obtain⟨A, rfl⟩:=okWide_bool Tryz.underlying4 (a 1 4 x rfl rfl)
  clear l b
  refine((aaH y A).law (zW λt K => by have G:t∈([]:List (Nat×Jb)):=K; simp at G) rfl ?_).mono λe W' ⟨J, hb⟩ => ?_
  · intro i v d g h
    match i, g, h with
    | 0, g, h => simp at g h; subst g; subst h; exact m
    | 1, g, h => simp at g h; subst g; subst h; exact .bool _
    |i + 2, g, h => simp at g
  · subst J
    exact⟨_, rfl, vw n rfl hb laidOut (by kernel_rfl) (by kernel_rfl) Tryz.underlying4 rfl⟩
theorem GG:Rows.dayBringsRow.holds Tryz.pinned (OpenSpec.ofChange Rows.dayBringsSpec) :=
  OpenClaim.holds_of_wide 7 Tryz.f7 rfl rfl rfl rfl rfl rfl rfl ⟨rfl, rfl, rfl, rfl, rfl⟩ rfl rfl rfl rfl rfl fN Tryz.func7 fJ
    (of_decide_eq_true fI) fW
    (λos a H enc _ => lifted os a H enc)
theorem aaE:Rows.DayBringsSaid:=GG
end Go.Proofs.YtfhdodehnpbeoaaGreat
#print axioms Go.Proofs.YtfhdodehnpbeoaaGreat.aaE
