/- AuditHolds: for every input the law returns true, and its arguments read as before. -/
import Derived.Test.YtgnhdbdipfncgaaGreatKM
import Derived.Test.YtgnhdbdipfncgaaGreatAbcLaw
import Derived.Test.YtgnhdbdipfncgaaGreatAbcOpen
import Derived.Test.YtgnhdbdipfncgaaGreatPG
set_option linter.unusedSimpArgs false
set_option linter.unusedVariables false
namespace Go.Proofs.YtgnhdbdipfncgaaGreat
open Go.ChangeShapes Go.WideShapes Go.ChangeAt Go.RowKit Go.Abs

theorem own : ownKnob Tryz.prog.godebug = none := by kernel_rfl
theorem laidOut : laidOutB Tryz.prog = true := by kernel_rfl
set_option maxRecDepth 100000 in
theorem lifted (os : Os) (started : os.Started) (H : Type) (enc : TypeId × Value → H) :
    ReturnsInHanded {} Tryz.checked os 3 .any (Rows.auditHoldsSpec.pre6 enc Tryz.prog Tryz.f3 Rows.auditHoldsRow.domain false) (Rows.auditHoldsSpec.post enc Tryz.prog Tryz.f3 false true false false) := by
  refine returnsInHanded_of_change_sized (C := Tryz.checked) own started (by kernel_rfl) Tryz.func3
    (ChangeSpec.witness6 (enc := enc) (C := Tryz.checked) false ⟨#[], #[.slice none 0 0], []⟩ 8 (by kernel_rfl) (by kernel_rfl) (by kernel_rfl) (by kernel_rfl)) ?_
  intro W base args ds gs before hval0 hW hcnd hz0 _
  have hval : ∀ (j : Nat) t v, Tryz.f3.params[j]? = some t → args[j]? = some v → Value.okWide Tryz.prog W .any base t v := hval0
  have hW' := hW
  obtain ⟨p, q, hA0, hV, rfl, hfz, hnd⟩ := hW
  have hA : DataW.TrodAll enc Tryz.prog W 0 (fun _ => true) true Tryz.f3.params.toList args.toList ds p := hA0
  rw [Tryz.params3] at hA hval
  obtain ⟨v0, vs0, d0, ds0, p0, q0, hargs, rfl, rfl, h0, r0⟩ := trodAll_cons hA
  obtain ⟨rfl, rfl, rfl⟩ := trodAll_nil r0
  obtain rfl : args = #[v0] := by cases args; simp_all
  obtain ⟨rfl, rfl⟩ := trodVars_none hV
  have hz : (DataW.weightsEach Tryz.prog [22] [d0]).all (· ≤ reachBytes) = true := hz0
  obtain ⟨rows0, f0, rep0⟩ := open_sl (z := 17) (s := [.int .i64, .int .i64, .int .i64, .int .i64, .int .i64, .int .i64, .int .i64, .int .i64, .int .i64, .int .i64, .int .i64, .int .i64, .int .i64, .int .i64, .int .i64, .int .i64, .int .i64]) Tryz.underlying22 (by kernel_rfl) (hval 0 22 v0 rfl rfl) h0 (weights_at hz 0 rfl rfl)
  obtain ⟨a0, rfl, ok0⟩ := rows_of (c := CmdV.cells) fit_CmdV f0.2
  clear hA0 hval0
  refine ((law_auditHolds a0).law rfl ?_).mono fun e W' ⟨he, hb⟩ => ?_
  · intro i v d hv hd
    match i, hv, hd with
    | 0, hv, hd => simp at hv hd; subst hv; subst hd; exact rep0
    | i + 1, hv, hd => simp at hv
  · subst he
    exact ⟨_, rfl, law_post hW' rfl hb laidOut (by kernel_rfl) (by kernel_rfl) Tryz.underlying4 rfl⟩
theorem over : Rows.auditHoldsRow.holds Tryz.pinned (OpenSpec.ofChange Rows.auditHoldsSpec) :=
  OpenClaim.holds_of_wide 3 Tryz.f3 rfl rfl rfl rfl rfl rfl rfl ⟨rfl, rfl, rfl, rfl, rfl⟩ rfl rfl rfl rfl rfl auditHoldsNamed Tryz.func3 auditHoldsJoined
    (of_decide_eq_true auditHoldsInst) auditHoldsWrap
    (fun os started H enc _ => lifted os started H enc)
theorem auditHolds_holds : Rows.AuditHoldsSaid := over
end Go.Proofs.YtgnhdbdipfncgaaGreat
#print axioms Go.Proofs.YtgnhdbdipfncgaaGreat.auditHolds_holds
