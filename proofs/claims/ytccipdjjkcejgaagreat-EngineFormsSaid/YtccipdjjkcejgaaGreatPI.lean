/- EngineForms: for every input the law returns true, and its arguments read as before. -/
import Derived.Test.YtccipdjjkcejgaaGreatKZ
import Derived.Test.YtccipdjjkcejgaaGreatLI
import Derived.Test.YtccipdjjkcejgaaGreatAB
import Derived.Test.YtccipdjjkcejgaaGreatPFI
set_option linter.unusedSimpArgs false
set_option linter.unusedVariables false
namespace Go.Proofs.YtccipdjjkcejgaaGreat
open Go.ChangeShapes Go.WideShapes Go.ChangeAt Go.RowKit Go.Abs

theorem own : ownKnob Tryz.prog.godebug = none := by kernel_rfl
theorem laidOut : laidOutB Tryz.prog = true := by kernel_rfl
set_option maxRecDepth 100000 in
theorem lifted (os : Os) (h : os.Started) (H : Type) (enc : TypeId × Value → H) :
    ReturnsInHanded {} Tryz.checked os 12 .any (Rows.engineFormsSpec.pre6 enc Tryz.prog Tryz.f12 Rows.engineFormsRow.domain false) (Rows.engineFormsSpec.post enc Tryz.prog Tryz.f12 false true false false) := by
  refine returnsInHanded_of_change_sized (C := Tryz.checked) own h (by kernel_rfl) Tryz.func12
    (ChangeSpec.witness6 (enc := enc) (C := Tryz.checked) false ⟨#[], #[.slice none 0 0, .agg #[.int .i64 0, .int .i64 0, .int .i64 0, .int .i64 0, .int .i64 0, .int .i64 0, .int .i64 0, .int .i64 0, .int .i64 0, .int .i64 0, .int .i64 0, .int .i64 0, .int .i64 0, .int .i64 0, .int .i64 0, .int .i64 0, .int .i64 0], .int .i64 0, .int .i64 0], []⟩ 8 (by kernel_rfl) (by kernel_rfl) (by kernel_rfl) (by kernel_rfl)) ?_
  intro W k args ds gs before g F hcnd w _
  have a : ∀ (j : Nat) t v, Tryz.f12.params[j]? = some t → args[j]? = some v → Value.okWide Tryz.prog W .any k t v := g
  have u := F
  obtain ⟨p, q, l, Y, rfl, hfz, hnd⟩ := F
  have E : DataW.TrodAll enc Tryz.prog W 0 (fun _ => true) true Tryz.f12.params.toList args.toList ds p := l
  rw [Tryz.params12] at E a
  obtain ⟨I, vs0, O, ds0, p0, q0, hargs, rfl, rfl, U, r0⟩ := trodAll_cons E
  obtain ⟨J, vs1, P, o, p1, q1, rfl, rfl, rfl, V, r1⟩ := trodAll_cons r0
  obtain ⟨K, vs2, Q, ds2, p2, q2, rfl, rfl, rfl, r, r2⟩ := trodAll_cons r1
  obtain ⟨L, vs3, R, ds3, p3, q3, rfl, rfl, rfl, X, r3⟩ := trodAll_cons r2
  obtain ⟨rfl, rfl, rfl⟩ := trodAll_nil r3
  obtain rfl : args = #[I, J, K, L] := by cases args; simp_all
  obtain ⟨rfl, rfl⟩ := trodVars_none Y
  have G : (DataW.weightsEach Tryz.prog [57, 66, 3, 3] [O, P, Q, R]).all (· ≤ reachBytes) = true := w
  obtain ⟨rows0, S, m⟩ := vr (z := 17) (s := [.int .i64, .int .i64, .int .i64, .int .i64, .int .i64, .int .i64, .int .i64, .int .i64, .int .i64, .int .i64, .int .i64, .int .i64, .int .i64, .int .i64, .int .i64, .int .i64, .int .i64]) Tryz.underlying57 (by kernel_rfl) (a 0 57 I rfl rfl) U (gL G 0 rfl rfl)
  obtain ⟨M, rfl, A⟩ := sY (c := aN.cells) pR S.2
  obtain ⟨o, T, n⟩ := xW (ss := [.int .i64, .int .i64, .int .i64, .int .i64, .int .i64, .int .i64, .int .i64, .int .i64, .int .i64, .int .i64, .int .i64, .int .i64, .int .i64, .int .i64, .int .i64, .int .i64, .int .i64]) Tryz.underlying66 (by kernel_rfl) (a 1 66 J rfl rfl) V (gL G 1 rfl rfl)
  obtain ⟨N, B, rfl⟩ := xC T
  obtain ⟨a2, rfl, x, hi2⟩ := rV Tryz.underlying3 (a 2 3 K rfl rfl) r
  have ok2 := And.intro x hi2
  obtain ⟨a3, rfl, y, Wx⟩ := rV Tryz.underlying3 (a 3 3 L rfl rfl) X
  have D := And.intro y Wx
  clear l g
  refine ((Ir M N a2 a3 A B D).law (yU fun t ht => by have r : t ∈ ([] : List (Nat × Mj)) := ht; simp at r) rfl ?_).mono fun e W' ⟨Z, hb⟩ => ?_
  · intro i v d b f
    match i, b, f with
    | 0, b, f => simp at b f; subst b; subst f; exact m
    | 1, b, f => simp at b f; subst b; subst f; exact n
    | 2, b, f => simp at b f; subst b; subst f; exact .int _ _
    | 3, b, f => simp at b f; subst b; subst f; exact .int _ _
    | i + 4, b, f => simp at b
  · subst Z
    exact ⟨_, rfl, uw u rfl hb laidOut (by kernel_rfl) (by kernel_rfl) Tryz.underlying4 rfl⟩
theorem K7 : Rows.engineFormsRow.holds Tryz.pinned (OpenSpec.ofChange Rows.engineFormsSpec) :=
  OpenClaim.holds_of_wide 12 Tryz.f12 rfl rfl rfl rfl rfl rfl rfl ⟨rfl, rfl, rfl, rfl, rfl⟩ rfl rfl rfl rfl rfl Fp Tryz.func12 CX
    (of_decide_eq_true HT) HU
    (fun os a H enc _ => lifted os a H enc)
theorem CY : Rows.EngineFormsSaid := K7
end Go.Proofs.YtccipdjjkcejgaaGreat
#print axioms Go.Proofs.YtccipdjjkcejgaaGreat.CY
