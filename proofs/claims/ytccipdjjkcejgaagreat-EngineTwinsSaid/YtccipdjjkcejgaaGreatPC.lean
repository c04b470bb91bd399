/- EngineTwins: for every input the law returns true, and its arguments read as before. -/
import Derived.Test.YtccipdjjkcejgaaGreatKZ
import Derived.Test.YtccipdjjkcejgaaGreatLC
import Derived.Test.YtccipdjjkcejgaaGreatAB
import Derived.Test.YtccipdjjkcejgaaGreatPFC
set_option linter.unusedSimpArgs false
set_option linter.unusedVariables false
namespace Go.Proofs.YtccipdjjkcejgaaGreat
open Go.ChangeShapes Go.WideShapes Go.ChangeAt Go.RowKit Go.Abs

theorem own : ownKnob Tryz.prog.godebug = none := by kernel_rfl
theorem laidOut : laidOutB Tryz.prog = true := by kernel_rfl
set_option maxRecDepth 100000 in
theorem lifted (os : Os) (f : os.Started) (H : Type) (enc : TypeId × Value → H) :
    ReturnsInHanded {} Tryz.checked os 7 .any (Rows.engineTwinsSpec.pre6 enc Tryz.prog Tryz.f7 Rows.engineTwinsRow.domain false) (Rows.engineTwinsSpec.post enc Tryz.prog Tryz.f7 false true false false) := by
  refine returnsInHanded_of_change_sized (C := Tryz.checked) own f (by kernel_rfl) Tryz.func7
    (ChangeSpec.witness6 (enc := enc) (C := Tryz.checked) false ⟨#[], #[.slice none 0 0, .slice none 0 0], []⟩ 8 (by kernel_rfl) (by kernel_rfl) (by kernel_rfl) (by kernel_rfl)) ?_
  intro W k args ds gs before b y hcnd r _
  have a : ∀ (j : Nat) t v, Tryz.f7.params[j]? = some t → args[j]? = some v → Value.okWide Tryz.prog W .any k t v := b
  have o := y
  obtain ⟨p, q, l, O, rfl, hfz, hnd⟩ := y
  have x : DataW.TrodAll enc Tryz.prog W 0 (fun _ => true) true Tryz.f7.params.toList args.toList ds p := l
  rw [Tryz.params7] at x a
  obtain ⟨B, vs0, G, ds0, p0, q0, hargs, rfl, rfl, L, R⟩ := trodAll_cons x
  obtain ⟨D, vs1, I, ds1, p1, q1, rfl, rfl, rfl, M, r1⟩ := trodAll_cons R
  obtain ⟨rfl, rfl, rfl⟩ := trodAll_nil r1
  obtain rfl : args = #[B, D] := by cases args; simp_all
  obtain ⟨rfl, rfl⟩ := trodVars_none O
  have A : (DataW.weightsEach Tryz.prog [57, 57] [G, I]).all (· ≤ reachBytes) = true := r
  obtain ⟨rows0, J, m⟩ := vr (z := 17) (s := [.int .i64, .int .i64, .int .i64, .int .i64, .int .i64, .int .i64, .int .i64, .int .i64, .int .i64, .int .i64, .int .i64, .int .i64, .int .i64, .int .i64, .int .i64, .int .i64, .int .i64]) Tryz.underlying57 (by kernel_rfl) (a 0 57 B rfl rfl) L (gL A 0 rfl rfl)
  obtain ⟨E, rfl, u⟩ := sY (c := aN.cells) pR J.2
  obtain ⟨rows1, K, n⟩ := vr (z := 17) (s := [.int .i64, .int .i64, .int .i64, .int .i64, .int .i64, .int .i64, .int .i64, .int .i64, .int .i64, .int .i64, .int .i64, .int .i64, .int .i64, .int .i64, .int .i64, .int .i64, .int .i64]) Tryz.underlying57 (by kernel_rfl) (a 1 57 D rfl rfl) M (gL A 1 rfl rfl)
  obtain ⟨F, rfl, w⟩ := sY (c := aN.cells) pR K.2
  clear l b
  refine ((Is E F u w).law (yU fun t Q => by have N : t ∈ ([] : List (Nat × Mj)) := Q; simp at N) rfl ?_).mono fun e W' ⟨P, hb⟩ => ?_
  · intro i v d g h
    match i, g, h with
    | 0, g, h => simp at g h; subst g; subst h; exact m
    | 1, g, h => simp at g h; subst g; subst h; exact n
    | i + 2, g, h => simp at g
  · subst P
    exact ⟨_, rfl, uw o rfl hb laidOut (by kernel_rfl) (by kernel_rfl) Tryz.underlying4 rfl⟩
theorem K7 : Rows.engineTwinsRow.holds Tryz.pinned (OpenSpec.ofChange Rows.engineTwinsSpec) :=
  OpenClaim.holds_of_wide 7 Tryz.f7 rfl rfl rfl rfl rfl rfl rfl ⟨rfl, rfl, rfl, rfl, rfl⟩ rfl rfl rfl rfl rfl F4 Tryz.func7 Dp
    (of_decide_eq_true Ic) Ie
    (fun os a H enc _ => lifted os a H enc)
theorem Dq : Rows.EngineTwinsSaid := K7
end Go.Proofs.YtccipdjjkcejgaaGreat
#print axioms Go.Proofs.YtccipdjjkcejgaaGreat.Dq
