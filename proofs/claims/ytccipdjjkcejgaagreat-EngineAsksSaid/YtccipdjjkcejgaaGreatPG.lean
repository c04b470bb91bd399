/- EngineAsks: for every input the law returns true, and its arguments read as before. -/
import Derived.Test.YtccipdjjkcejgaaGreatKZ
import Derived.Test.YtccipdjjkcejgaaGreatLG
import Derived.Test.YtccipdjjkcejgaaGreatAB
import Derived.Test.YtccipdjjkcejgaaGreatPFG
set_option linter.unusedSimpArgs false
set_option linter.unusedVariables false
namespace Go.Proofs.YtccipdjjkcejgaaGreat
open Go.ChangeShapes Go.WideShapes Go.ChangeAt Go.RowKit Go.Abs

theorem own : ownKnob Tryz.prog.godebug = none := by kernel_rfl
theorem laidOut : laidOutB Tryz.prog = true := by kernel_rfl
set_option maxRecDepth 100000 in
theorem lifted (os : Os) (h : os.Started) (H : Type) (enc : TypeId × Value → H) :
    ReturnsInHanded {} Tryz.checked os 6 .any (Rows.engineAsksSpec.pre6 enc Tryz.prog Tryz.f6 Rows.engineAsksRow.domain false) (Rows.engineAsksSpec.post enc Tryz.prog Tryz.f6 false true false false) := by
  refine returnsInHanded_of_change_sized (C := Tryz.checked) own h (by kernel_rfl) Tryz.func6
    (ChangeSpec.witness6 (enc := enc) (C := Tryz.checked) false ⟨#[], #[.slice none 0 0, .int .i64 0, .int .i64 0, .int .i64 0, .int .i64 0, .int .i64 0], []⟩ 8 (by kernel_rfl) (by kernel_rfl) (by kernel_rfl) (by kernel_rfl)) ?_
  intro W k args ds gs before g G hcnd w _
  have a : ∀ (j : Nat) t v, Tryz.f6.params[j]? = some t → args[j]? = some v → Value.okWide Tryz.prog W .any k t v := g
  have o := G
  obtain ⟨p, q, l, hV, rfl, hfz, hnd⟩ := G
  have F : DataW.TrodAll enc Tryz.prog W 0 (fun _ => true) true Tryz.f6.params.toList args.toList ds p := l
  rw [Tryz.params6] at F a
  obtain ⟨I, vs0, Q, ds0, p0, q0, hargs, rfl, rfl, Y, r0⟩ := trodAll_cons F
  obtain ⟨J, vs1, R, ds1, p1, q1, rfl, rfl, rfl, Z, r1⟩ := trodAll_cons r0
  obtain ⟨K, vs2, S, ds2, p2, q2, rfl, rfl, rfl, n, r2⟩ := trodAll_cons r1
  obtain ⟨L, vs3, T, ds3, p3, q3, rfl, rfl, rfl, h3, r3⟩ := trodAll_cons r2
  obtain ⟨M, vs4, U, ds4, p4, q4, rfl, rfl, rfl, h4, r4⟩ := trodAll_cons r3
  obtain ⟨N, vs5, V, ds5, p5, q5, rfl, rfl, rfl, h5, r5⟩ := trodAll_cons r4
  obtain ⟨rfl, rfl, rfl⟩ := trodAll_nil r5
  obtain rfl : args = #[I, J, K, L, M, N] := by cases args; simp_all
  obtain ⟨rfl, rfl⟩ := trodVars_none hV
  have hz : (DataW.weightsEach Tryz.prog [57, 3, 3, 3, 3, 3] [Q, R, S, T, U, V]).all (· ≤ reachBytes) = true := w
  obtain ⟨rows0, X, m⟩ := vr (z := 17) (s := [.int .i64, .int .i64, .int .i64, .int .i64, .int .i64, .int .i64, .int .i64, .int .i64, .int .i64, .int .i64, .int .i64, .int .i64, .int .i64, .int .i64, .int .i64, .int .i64, .int .i64]) Tryz.underlying57 (by kernel_rfl) (a 0 57 I rfl rfl) Y (gL hz 0 rfl rfl)
  obtain ⟨O, rfl, E⟩ := sY (c := aN.cells) pR X.2
  obtain ⟨P, rfl, x, hi1⟩ := rV Tryz.underlying3 (a 1 3 J rfl rfl) Z
  have ok1 := And.intro x hi1
  obtain ⟨a2, rfl, y, hi2⟩ := rV Tryz.underlying3 (a 2 3 K rfl rfl) n
  have ok2 := And.intro y hi2
  obtain ⟨a3, rfl, A, Wx⟩ := rV Tryz.underlying3 (a 3 3 L rfl rfl) h3
  have ok3 := And.intro A Wx
  obtain ⟨a4, rfl, B, r⟩ := rV Tryz.underlying3 (a 4 3 M rfl rfl) h4
  have ok4 := And.intro B r
  obtain ⟨a5, rfl, D, u⟩ := rV Tryz.underlying3 (a 5 3 N rfl rfl) h5
  have ok5 := And.intro D u
  clear l g
  refine ((KE O P a2 a3 a4 a5 E).law (yU fun t ht => by have n : t ∈ ([] : List (Nat × Mj)) := ht; simp at n) rfl ?_).mono fun e W' ⟨he, hb⟩ => ?_
  · intro i v d b f
    match i, b, f with
    | 0, b, f => simp at b f; subst b; subst f; exact m
    | 1, b, f => simp at b f; subst b; subst f; exact .int _ _
    | 2, b, f => simp at b f; subst b; subst f; exact .int _ _
    | 3, b, f => simp at b f; subst b; subst f; exact .int _ _
    | 4, b, f => simp at b f; subst b; subst f; exact .int _ _
    | 5, b, f => simp at b f; subst b; subst f; exact .int _ _
    | i + 6, b, f => simp at b
  · subst he
    exact ⟨_, rfl, uw o rfl hb laidOut (by kernel_rfl) (by kernel_rfl) Tryz.underlying4 rfl⟩
theorem K7 : Rows.engineAsksRow.holds Tryz.pinned (OpenSpec.ofChange Rows.engineAsksSpec) :=
  OpenClaim.holds_of_wide 6 Tryz.f6 rfl rfl rfl rfl rfl rfl rfl ⟨rfl, rfl, rfl, rfl, rfl⟩ rfl rfl rfl rfl rfl HS Tryz.func6 Fb
    (of_decide_eq_true JU) JV
    (fun os a H enc _ => lifted os a H enc)
theorem Fc : Rows.EngineAsksSaid := K7
end Go.Proofs.YtccipdjjkcejgaaGreat
#print axioms Go.Proofs.YtccipdjjkcejgaaGreat.Fc
