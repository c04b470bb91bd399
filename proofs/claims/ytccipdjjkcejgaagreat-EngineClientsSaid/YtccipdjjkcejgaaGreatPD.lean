/- EngineClients: for every input the law returns true, and its arguments read as before. -/
import Derived.Test.YtccipdjjkcejgaaGreatKZ
import Derived.Test.YtccipdjjkcejgaaGreatLC
import Derived.Test.YtccipdjjkcejgaaGreatAB
import Derived.Test.YtccipdjjkcejgaaGreatPFD
set_option linter.unusedSimpArgs false
set_option linter.unusedVariables false
namespace Go.Proofs.YtccipdjjkcejgaaGreat
open Go.ChangeShapes Go.WideShapes Go.ChangeAt Go.RowKit Go.Abs

theorem own : ownKnob Tryz.prog.godebug = none := by kernel_rfl
theorem laidOut : laidOutB Tryz.prog = true := by kernel_rfl
set_option maxRecDepth 100000 in
theorem lifted (os : Os) (f : os.Started) (H : Type) (enc : TypeId × Value → H) :
    ReturnsInHanded {} Tryz.checked os 10 .any (Rows.engineClientsSpec.pre6 enc Tryz.prog Tryz.f10 Rows.engineClientsRow.domain false) (Rows.engineClientsSpec.post enc Tryz.prog Tryz.f10 false true false false) := by
  refine returnsInHanded_of_change_sized (C := Tryz.checked) own f (by kernel_rfl) Tryz.func10
    (ChangeSpec.witness6 (enc := enc) (C := Tryz.checked) false ⟨#[], #[.slice none 0 0, .agg #[.int .i64 0, .int .i64 0, .int .i64 0, .int .i64 0, .int .i64 0, .int .i64 0, .int .i64 0, .int .i64 0, .int .i64 0, .int .i64 0, .int .i64 0, .int .i64 0, .int .i64 0, .int .i64 0, .int .i64 0, .int .i64 0, .int .i64 0]], []⟩ 8 (by kernel_rfl) (by kernel_rfl) (by kernel_rfl) (by kernel_rfl)) ?_
  intro W k args ds gs before b A hcnd u _
  have a : ∀ (j : Nat) t v, Tryz.f10.params[j]? = some t → args[j]? = some v → Value.okWide Tryz.prog W .any k t v := b
  have r := A
  obtain ⟨p, q, l, P, rfl, hfz, hnd⟩ := A
  have y : DataW.TrodAll enc Tryz.prog W 0 (fun _ => true) true Tryz.f10.params.toList args.toList ds p := l
  rw [Tryz.params10] at y a
  obtain ⟨D, vs0, I, ds0, p0, q0, hargs, rfl, rfl, M, S⟩ := trodAll_cons y
  obtain ⟨E, vs1, J, o, p1, q1, rfl, rfl, rfl, N, r1⟩ := trodAll_cons S
  obtain ⟨rfl, rfl, rfl⟩ := trodAll_nil r1
  obtain rfl : args = #[D, E] := by cases args; simp_all
  obtain ⟨rfl, rfl⟩ := trodVars_none P
  have B : (DataW.weightsEach Tryz.prog [57, 66] [I, J]).all (· ≤ reachBytes) = true := u
  obtain ⟨rows0, K, m⟩ := vr (z := 17) (s := [.int .i64, .int .i64, .int .i64, .int .i64, .int .i64, .int .i64, .int .i64, .int .i64, .int .i64, .int .i64, .int .i64, .int .i64, .int .i64, .int .i64, .int .i64, .int .i64, .int .i64]) Tryz.underlying57 (by kernel_rfl) (a 0 57 D rfl rfl) M (gL B 0 rfl rfl)
  obtain ⟨F, rfl, w⟩ := sY (c := aN.cells) pR K.2
  obtain ⟨o, L, n⟩ := xW (ss := [.int .i64, .int .i64, .int .i64, .int .i64, .int .i64, .int .i64, .int .i64, .int .i64, .int .i64, .int .i64, .int .i64, .int .i64, .int .i64, .int .i64, .int .i64, .int .i64, .int .i64]) Tryz.underlying66 (by kernel_rfl) (a 1 66 E rfl rfl) N (gL B 1 rfl rfl)
  obtain ⟨G, x, rfl⟩ := xC L
  clear l b
  refine ((DE F G w x).law (yU fun t R => by have O : t ∈ ([] : List (Nat × Mj)) := R; simp at O) rfl ?_).mono fun e W' ⟨Q, hb⟩ => ?_
  · intro i v d g h
    match i, g, h with
    | 0, g, h => simp at g h; subst g; subst h; exact m
    | 1, g, h => simp at g h; subst g; subst h; exact n
    | i + 2, g, h => simp at g
  · subst Q
    exact ⟨_, rfl, uw r rfl hb laidOut (by kernel_rfl) (by kernel_rfl) Tryz.underlying4 rfl⟩
theorem K7 : Rows.engineClientsRow.holds Tryz.pinned (OpenSpec.ofChange Rows.engineClientsSpec) :=
  OpenClaim.holds_of_wide 10 Tryz.f10 rfl rfl rfl rfl rfl rfl rfl ⟨rfl, rfl, rfl, rfl, rfl⟩ rfl rfl rfl rfl rfl Bi Tryz.func10 zE
    (of_decide_eq_true Cz) CA
    (fun os a H enc _ => lifted os a H enc)
theorem zF : Rows.EngineClientsSaid := K7
end Go.Proofs.YtccipdjjkcejgaaGreat
#print axioms Go.Proofs.YtccipdjjkcejgaaGreat.zF
