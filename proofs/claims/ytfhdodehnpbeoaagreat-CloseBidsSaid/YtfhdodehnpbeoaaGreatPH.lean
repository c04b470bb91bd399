/- CloseBids: for every input the law returns true, and its arguments read as before. -/
import Derived.Test.YtfhdodehnpbeoaaGreatIA
import Derived.Test.YtfhdodehnpbeoaaGreatAB
import Derived.Test.YtfhdodehnpbeoaaGreatPFH
set_option linter.unusedSimpArgs false
set_option linter.unusedVariables false
namespace Go.Proofs.YtfhdodehnpbeoaaGreat
open Go.ChangeShapes Go.WideShapes Go.ChangeAt Go.RowKit Go.Abs

theorem own:ownKnob Tryz.prog.godebug=none:=by kernel_rfl
theorem laidOut:laidOutB Tryz.prog=true:=by kernel_rfl
set_option maxRecDepth 100000 in
theorem lifted (os : Os) (f : os.Started) (H : Type) (enc : TypeId × Value → H) :
    ReturnsInHanded {} Tryz.checked os 11 .any (Rows.closeBidsSpec.pre6 enc Tryz.prog Tryz.f11 Rows.closeBidsRow.domain false) (Rows.closeBidsSpec.post enc Tryz.prog Tryz.f11 false true false false):=by
  refine returnsInHanded_of_change_sized (C:=Tryz.checked) own f (by kernel_rfl) Tryz.func11
    (ChangeSpec.witness6 (enc:=enc) (C:=Tryz.checked) false ⟨#[], #[.slice none 0 0, .int .i64 0], []⟩ 8 (by kernel_rfl) (by kernel_rfl) (by kernel_rfl) (by kernel_rfl)) ?_
  intro W k args ds gs before b w hcnd o _
  have a:∀(j:Nat) t v, Tryz.f11.params[j]? = some t → args[j]? = some v → Value.okWide Tryz.prog W .any k t v:=b
  have n:=w
  obtain⟨p, q, l, K, rfl, hfz, hnd⟩:=w
  have u:DataW.TrodAll enc Tryz.prog W 0 (λ_ => true) true Tryz.f11.params.toList args.toList ds p:=l
  rw[Tryz.params11]at u a
  obtain⟨x, vs0, D, ds0, p0, q0, hargs, rfl, rfl, G, O⟩:=trodAll_cons u
  obtain⟨y, vs1, E, ds1, p1, q1, rfl, rfl, rfl, I, r1⟩:=trodAll_cons O
  obtain⟨rfl, rfl, rfl⟩:=trodAll_nil r1
  obtain rfl:args = #[x, y]:=by cases args; simp_all
  obtain⟨rfl, rfl⟩:=trodVars_none K
  have N:(DataW.weightsEach Tryz.prog [22, 3] [D, E]).all (· ≤ reachBytes)=true:=o
  obtain⟨rows0, F, m⟩:=zA (z:=17) (s:=[.int .i64, .int .i64, .int .i64, .int .i64, .int .i64, .int .i64, .int .i64, .int .i64, .int .i64, .int .i64, .int .i64, .int .i64, .int .i64, .int .i64, .int .i64, .int .i64, .int .i64]) Tryz.underlying22 (by kernel_rfl) (a 0 22 x rfl rfl) G (qB N 0 rfl rfl)
  obtain⟨A, rfl, ok0⟩:=wM (c:=bB.cells) vk F.2
  obtain⟨B, rfl, r, hi1⟩:=KO Tryz.underlying3 (a 1 3 y rfl rfl) I
  have ok1:=And.intro r hi1
  clear l b
  refine((MV A B).law (zW λt M => by have J:t∈([]:List (Nat×Jb)):=M; simp at J) rfl ?_).mono λe W' ⟨L, hb⟩ => ?_
  · intro i v d g h
    match i, g, h with
    | 0, g, h => simp at g h; subst g; subst h; exact m
    | 1, g, h => simp at g h; subst g; subst h; exact .int _ _
    |i + 2, g, h => simp at g
  · subst L
    exact⟨_, rfl, vw n rfl hb laidOut (by kernel_rfl) (by kernel_rfl) Tryz.underlying4 rfl⟩
theorem GG:Rows.closeBidsRow.holds Tryz.pinned (OpenSpec.ofChange Rows.closeBidsSpec) :=
  OpenClaim.holds_of_wide 11 Tryz.f11 rfl rfl rfl rfl rfl rfl rfl ⟨rfl, rfl, rfl, rfl, rfl⟩ rfl rfl rfl rfl rfl fN Tryz.func11 fJ
    (of_decide_eq_true fI) fW
    (λos a H enc _ => lifted os a H enc)
theorem HU:Rows.CloseBidsSaid:=GG
end Go.Proofs.YtfhdodehnpbeoaaGreat
#print axioms Go.Proofs.YtfhdodehnpbeoaaGreat.HU
