/- EngineOnce: for every input the law returns true, and its arguments read as before. -/
import Derived.Test.YtccipdjjkcejgaaGreatKZ
import Derived.Test.YtccipdjjkcejgaaGreatLE
import Derived.Test.YtccipdjjkcejgaaGreatAB
import Derived.Test.YtccipdjjkcejgaaGreatPFE
set_option linter.unusedSimpArgs false
set_option linter.unusedVariables false
namespace Go.Proofs.YtccipdjjkcejgaaGreat
open Go.ChangeShapes Go.WideShapes Go.ChangeAt Go.RowKit Go.Abs

theorem own : ownKnob Tryz.prog.godebug = none := by kernel_rfl
theorem laidOut : laidOutB Tryz.prog = true := by kernel_rfl
set_option maxRecDepth 100000 in
theorem lifted (os : Os) (h : os.Started) (H : Type) (enc : TypeId × Value → H) :
    ReturnsInHanded {} Tryz.checked os 11 .any (Rows.engineOnceSpec.pre6 enc Tryz.prog Tryz.f11 Rows.engineOnceRow.domain false) (Rows.engineOnceSpec.post enc Tryz.prog Tryz.f11 false true false false) := by
  refine returnsInHanded_of_change_sized (C := Tryz.checked) own h (by kernel_rfl) Tryz.func11
    (ChangeSpec.witness6 (enc := enc) (C := Tryz.checked) false ⟨#[], #[.slice none 0 0, .agg #[.int .i64 0, .int .i64 0, .int .i64 0, .int .i64 0, .int .i64 0, .int .i64 0, .int .i64 0, .int .i64 0, .int .i64 0, .int .i64 0, .int .i64 0, .int .i64 0, .int .i64 0, .int .i64 0, .int .i64 0, .int .i64 0, .int .i64 0], .agg #[.int .i64 0, .int .i64 0, .int .i64 0, .int .i64 0, .int .i64 0, .int .i64 0, .int .i64 0, .int .i64 0, .int .i64 0, .int .i64 0, .int .i64 0, .int .i64 0, .int .i64 0, .int .i64 0, .int .i64 0, .int .i64 0, .int .i64 0]], []⟩ 8 (by kernel_rfl) (by kernel_rfl) (by kernel_rfl) (by kernel_rfl)) ?_
  intro W k args ds gs before g G hcnd A _
  have a : ∀ (j : Nat) t v, Tryz.f11.params[j]? = some t → args[j]? = some v → Value.okWide Tryz.prog W .any k t v := g
  have x := G
  obtain ⟨p, q, l, V, rfl, hfz, hnd⟩ := G
  have F : DataW.TrodAll enc Tryz.prog W 0 (fun _ => true) true Tryz.f11.params.toList args.toList ds p := l
  rw [Tryz.params11] at F a
  obtain ⟨I, vs0, N, ds0, p0, q0, hargs, rfl, rfl, T, Z⟩ := trodAll_cons F
  obtain ⟨J, vs1, O, r, p1, q1, rfl, rfl, rfl, U, r1⟩ := trodAll_cons Z
  obtain ⟨K, vs2, P, u, p2, q2, rfl, rfl, rfl, w, r2⟩ := trodAll_cons r1
  obtain ⟨rfl, rfl, rfl⟩ := trodAll_nil r2
  obtain rfl : args = #[I, J, K] := by cases args; simp_all
  obtain ⟨rfl, rfl⟩ := trodVars_none V
  have y : (DataW.weightsEach Tryz.prog [57, 66, 66] [N, O, P]).all (· ≤ reachBytes) = true := A
  obtain ⟨rows0, Q, m⟩ := vr (z := 17) (s := [.int .i64, .int .i64, .int .i64, .int .i64, .int .i64, .int .i64, .int .i64, .int .i64, .int .i64, .int .i64, .int .i64, .int .i64, .int .i64, .int .i64, .int .i64, .int .i64, .int .i64]) Tryz.underlying57 (by kernel_rfl) (a 0 57 I rfl rfl) T (gL y 0 rfl rfl)
  obtain ⟨L, rfl, B⟩ := sY (c := aN.cells) pR Q.2
  obtain ⟨r, R, n⟩ := xW (ss := [.int .i64, .int .i64, .int .i64, .int .i64, .int .i64, .int .i64, .int .i64, .int .i64, .int .i64, .int .i64, .int .i64, .int .i64, .int .i64, .int .i64, .int .i64, .int .i64, .int .i64]) Tryz.underlying66 (by kernel_rfl) (a 1 66 J rfl rfl) U (gL y 1 rfl rfl)
  obtain ⟨M, D, rfl⟩ := xC R
  obtain ⟨u, S, o⟩ := xW (ss := [.int .i64, .int .i64, .int .i64, .int .i64, .int .i64, .int .i64, .int .i64, .int .i64, .int .i64, .int .i64, .int .i64, .int .i64, .int .i64, .int .i64, .int .i64, .int .i64, .int .i64]) Tryz.underlying66 (by kernel_rfl) (a 2 66 K rfl rfl) w (gL y 2 rfl rfl)
  obtain ⟨a2, E, rfl⟩ := xC S
  clear l g
  refine ((KF L M a2 B D E).law (yU fun t Y => by have w : t ∈ ([] : List (Nat × Mj)) := Y; simp at w) rfl ?_).mono fun e W' ⟨X, hb⟩ => ?_
  · intro i v d b f
    match i, b, f with
    | 0, b, f => simp at b f; subst b; subst f; exact m
    | 1, b, f => simp at b f; subst b; subst f; exact n
    | 2, b, f => simp at b f; subst b; subst f; exact o
    | i + 3, b, f => simp at b
  · subst X
    exact ⟨_, rfl, uw x rfl hb laidOut (by kernel_rfl) (by kernel_rfl) Tryz.underlying4 rfl⟩
theorem K7 : Rows.engineOnceRow.holds Tryz.pinned (OpenSpec.ofChange Rows.engineOnceSpec) :=
  OpenClaim.holds_of_wide 11 Tryz.f11 rfl rfl rfl rfl rfl rfl rfl ⟨rfl, rfl, rfl, rfl, rfl⟩ rfl rfl rfl rfl rfl Ib Tryz.func11 FO
    (of_decide_eq_true JW) JX
    (fun os a H enc _ => lifted os a H enc)
theorem FP : Rows.EngineOnceSaid := K7
end Go.Proofs.YtccipdjjkcejgaaGreat
#print axioms Go.Proofs.YtccipdjjkcejgaaGreat.FP
