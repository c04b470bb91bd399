/- AuditDiffs: for every input the law returns true, and its arguments read as before. -/
import Derived.Test.YtbllopdcbkeadaaGreatLJ
import Derived.Test.YtbllopdcbkeadaaGreatAbcLaw
import Derived.Test.YtbllopdcbkeadaaGreatAbcOpen
set_option linter.unusedSimpArgs false
set_option linter.unusedVariables false
namespace Go.Proofs.YtbllopdcbkeadaaGreat
open Go.ChangeShapes Go.WideShapes Go.ChangeAt Go.RowKit Go.Abs

theorem own : ownKnob Tryz.prog.godebug = none := by kernel_rfl
theorem laidOut : laidOutB Tryz.prog = true := by kernel_rfl
set_option maxRecDepth 100000 in
theorem lifted (os : Os) (started : os.Started) (H : Type) (enc : TypeId × Value → H) :
    ReturnsInHanded {} Tryz.checked os 5 .any (Rows.auditDiffsSpec.pre6 enc Tryz.prog Tryz.f5 Rows.auditDiffsRow.domain false) (Rows.auditDiffsSpec.post enc Tryz.prog Tryz.f5 false true false false) := by
  refine returnsInHanded_of_change_sized (C := Tryz.checked) own started (by kernel_rfl) Tryz.func5
    (ChangeSpec.witness6 (enc := enc) (C := Tryz.checked) false ⟨#[], #[.agg #[.int .i64 0, .int .i64 0, .int .i64 0, .slice none 0 0, .slice none 0 0, .slice none 0 0, .int .i64 0, .slice none 0 0, .slice none 0 0, .int .i64 0, .slice none 0 0, .slice none 0 0, .slice none 0 0, .slice none 0 0, .slice none 0 0], .agg #[.int .i64 0, .int .i64 0, .int .i64 0, .slice none 0 0, .slice none 0 0, .slice none 0 0, .int .i64 0, .slice none 0 0, .slice none 0 0, .int .i64 0, .slice none 0 0, .slice none 0 0, .slice none 0 0, .slice none 0 0, .slice none 0 0]], []⟩ 8 (by kernel_rfl) (by kernel_rfl) (by kernel_rfl) (by kernel_rfl)) ?_
  intro W base args ds gs before hval0 hW hcnd hz0 _
  have hval : ∀ (j : Nat) t v, Tryz.f5.params[j]? = some t → args[j]? = some v → Value.okWide Tryz.prog W .any base t v := hval0
  have hW' := hW
  obtain ⟨p, q, hA0, hV, rfl, hfz, hnd⟩ := hW
  have hA : DataW.TrodAll enc Tryz.prog W 0 (fun _ => true) true Tryz.f5.params.toList args.toList ds p := hA0
  rw [Tryz.params5] at hA hval
  obtain ⟨v0, vs0, d0, ds0, p0, q0, hargs, rfl, rfl, h0, r0⟩ := trodAll_cons hA
  obtain ⟨v1, vs1, d1, ds1, p1, q1, rfl, rfl, rfl, h1, r1⟩ := trodAll_cons r0
  obtain ⟨rfl, rfl, rfl⟩ := trodAll_nil r1
  obtain rfl : args = #[v0, v1] := by cases args; simp_all
  obtain ⟨rfl, rfl⟩ := trodVars_none hV
  have hz : (DataW.weightsEach Tryz.prog [41, 41] [d0, d1]).all (· ≤ reachBytes) = true := hz0
  obtain ⟨ds0, f0, rep0⟩ := open_agg (ss := [.int .i64, .int .i64, .int .i64, .sl 3 [.int .i64, .int .i64, .int .i64], .sl 12 [.int .i64, .int .i64, .int .i64, .int .i64, .int .i64, .int .i64, .int .i64, .int .i64, .int .i64, .int .i64, .int .i64, .int .i64], .sl 4 [.int .i64, .int .i64, .int .i64, .int .i64], .int .i64, .sl 7 [.int .i64, .int .i64, .int .i64, .int .i64, .int .i64, .int .i64, .bool], .sl 4 [.int .i64, .int .i64, .int .i64, .int .i64], .int .i64, .sl 4 [.int .i64, .int .i64, .int .i64, .int .i64], .sl 3 [.int .i64, .int .i64, .int .i64], .sl 4 [.int .i64, .int .i64, .int .i64, .int .i64], .sl 5 [.int .i64, .int .i64, .int .i64, .int .i64, .int .i64], .sl 7 [.int .i64, .int .i64, .int .i64, .int .i64, .int .i64, .sl 3 [.int .i64, .int .i64, .int .i64], .sl 8 [.int .i64, .int .i64, .int .i64, .int .i64, .int .i64, .int .i64, .int .i64, .int .i64]]]) Tryz.underlying41 (by kernel_rfl) (hval 0 41 v0 rfl rfl) h0 (weights_at hz 0 rfl rfl)
  obtain ⟨a0, ok0, rfl⟩ := fit_state f0
  obtain ⟨ds1, f1, rep1⟩ := open_agg (ss := [.int .i64, .int .i64, .int .i64, .sl 3 [.int .i64, .int .i64, .int .i64], .sl 12 [.int .i64, .int .i64, .int .i64, .int .i64, .int .i64, .int .i64, .int .i64, .int .i64, .int .i64, .int .i64, .int .i64, .int .i64], .sl 4 [.int .i64, .int .i64, .int .i64, .int .i64], .int .i64, .sl 7 [.int .i64, .int .i64, .int .i64, .int .i64, .int .i64, .int .i64, .bool], .sl 4 [.int .i64, .int .i64, .int .i64, .int .i64], .int .i64, .sl 4 [.int .i64, .int .i64, .int .i64, .int .i64], .sl 3 [.int .i64, .int .i64, .int .i64], .sl 4 [.int .i64, .int .i64, .int .i64, .int .i64], .sl 5 [.int .i64, .int .i64, .int .i64, .int .i64, .int .i64], .sl 7 [.int .i64, .int .i64, .int .i64, .int .i64, .int .i64, .sl 3 [.int .i64, .int .i64, .int .i64], .sl 8 [.int .i64, .int .i64, .int .i64, .int .i64, .int .i64, .int .i64, .int .i64, .int .i64]]]) Tryz.underlying41 (by kernel_rfl) (hval 1 41 v1 rfl rfl) h1 (weights_at hz 1 rfl rfl)
  obtain ⟨a1, ok1, rfl⟩ := fit_state f1
  clear hA0 hval0
  refine ((law_auditDiffs a0 a1 ok0 ok1).law rfl ?_).mono fun e W' ⟨he, hb⟩ => ?_
  · intro i v d hv hd
    match i, hv, hd with
    | 0, hv, hd => simp at hv hd; subst hv; subst hd; exact rep0
    | 1, hv, hd => simp at hv hd; subst hv; subst hd; exact rep1
    | i + 2, hv, hd => simp at hv
  · subst he
    exact ⟨_, rfl, law_post hW' rfl hb laidOut (by kernel_rfl) (by kernel_rfl) Tryz.underlying4 rfl⟩
theorem over : Rows.auditDiffsRow.holds Tryz.pinned (OpenSpec.ofChange Rows.auditDiffsSpec) :=
  OpenClaim.holds_of_wide 5 Tryz.f5 rfl rfl rfl rfl rfl rfl rfl ⟨rfl, rfl, rfl, rfl, rfl⟩ rfl rfl rfl rfl rfl (by kernel_rfl) Tryz.func5 (by kernel_rfl)
    (of_decide_eq_true (by kernel_rfl)) (by unfold Func.isWrapper; first | (rw [if_pos (by decide +kernel)]; kernel_rfl) | (rw [if_neg (by decide +kernel)]; exact ⟨rfl, rfl⟩))
    (fun os started H enc _ => lifted os started H enc)
theorem auditDiffs_holds : Rows.AuditDiffsSaid := over
end Go.Proofs.YtbllopdcbkeadaaGreat
#print axioms Go.Proofs.YtbllopdcbkeadaaGreat.auditDiffs_holds
