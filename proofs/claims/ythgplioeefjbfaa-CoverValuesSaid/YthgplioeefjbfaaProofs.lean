/- CoverValues: for every input the law returns true, and its arguments read as before. -/
import Derived.Test.YthgplioeefjbfaaS5
import Derived.Test.YthgplioeefjbfaaAbcLaw
set_option linter.unusedSimpArgs false
set_option linter.unusedVariables false
namespace Go.Proofs.Ythgplioeefjbfaa
open Go.ChangeShapes Go.WideShapes Go.ChangeAt Go.RowKit Go.Abs

theorem own : ownKnob Try.prog.godebug = none := by kernel_rfl
theorem laidOut : laidOutB Try.prog = true := by kernel_rfl

set_option maxRecDepth 100000 in
theorem lifted (os : Os) (started : os.Started) (H : Type) (enc : TypeId × Value → H) :
    ReturnsInHanded {} Try.checked os 3 .any (Rows.coverValuesSpec.pre6 enc Try.prog Try.f3 Rows.coverValuesRow.domain false) (Rows.coverValuesSpec.post enc Try.prog Try.f3 false true false false) := by
  refine returnsInHanded_of_change (C := Try.checked) own started (by kernel_rfl) Try.func3
    (ChangeSpec.witness6 (enc := enc) (C := Try.checked) false ⟨#[], #[.agg #[.int .i64 0, .int .i64 0, .int .i64 0, .int .i64 0], .int .i64 0, .int .i64 0, .int .i64 0, .int .i64 0], []⟩ 8 (by kernel_rfl) (by kernel_rfl) (by kernel_rfl) (by kernel_rfl)) ?_
  intro W base args ds gs before hval0 hW hcnd _
  have hval : ∀ (j : Nat) t v, Try.f3.params[j]? = some t → args[j]? = some v → Value.okWide Try.prog W .any base t v := hval0
  have hW' := hW
  obtain ⟨p, q, hA0, hV, rfl, hfz, hnd⟩ := hW
  have hA : DataW.TrodAll enc Try.prog W 0 (fun _ => true) true Try.f3.params.toList args.toList ds p := hA0
  rw [Try.params3] at hA hval
  obtain ⟨v0, vs0, d0, ds0, p0, q0, hargs, rfl, rfl, h0, r0⟩ := trodAll_cons hA
  obtain ⟨v1, vs1, d1, ds1, p1, q1, rfl, rfl, rfl, h1, r1⟩ := trodAll_cons r0
  obtain ⟨v2, vs2, d2, ds2, p2, q2, rfl, rfl, rfl, h2, r2⟩ := trodAll_cons r1
  obtain ⟨v3, vs3, d3, ds3, p3, q3, rfl, rfl, rfl, h3, r3⟩ := trodAll_cons r2
  obtain ⟨v4, vs4, d4, ds4, p4, q4, rfl, rfl, rfl, h4, r4⟩ := trodAll_cons r3
  obtain ⟨rfl, rfl, rfl⟩ := trodAll_nil r4
  obtain rfl : args = #[v0, v1, v2, v3, v4] := by cases args; simp_all
  obtain ⟨rfl, rfl⟩ := trodVars_none hV
  obtain ⟨a0, a1, a2, a3, y0, y1, y2, y3, n, rfl, _, _, g0, g1, g2, g3⟩ := Go.Joins.open_agg4 Try.underlying23 (by kernel_rfl) (by kernel_rfl) (hval 0 23 v0 rfl rfl) h0
  obtain ⟨x0, e0, _, _⟩ := DataW.trod_int Try.underlying3 g0
  obtain ⟨x1, e1, _, _⟩ := DataW.trod_int Try.underlying3 g1
  obtain ⟨x2, e2, _, _⟩ := DataW.trod_int Try.underlying3 g2
  obtain ⟨x3, e3, _, _⟩ := DataW.trod_int Try.underlying3 g3
  obtain rfl : a0 = .int .i64 x0 := by simpa using e0
  obtain rfl : a1 = .int .i64 x1 := by simpa using e1
  obtain rfl : a2 = .int .i64 x2 := by simpa using e2
  obtain rfl : a3 = .int .i64 x3 := by simpa using e3
  obtain ⟨n1, rfl, _, _, _⟩ := open_int Try.underlying3 (hval 1 3 v1 rfl rfl) h1
  obtain ⟨n2, rfl, _, _, _⟩ := open_int Try.underlying3 (hval 2 3 v2 rfl rfl) h2
  obtain ⟨n3, rfl, _, _, _⟩ := open_int Try.underlying3 (hval 3 3 v3 rfl rfl) h3
  obtain ⟨n4, rfl, _, _, _⟩ := open_int Try.underlying3 (hval 4 3 v4 rfl rfl) h4
  clear hA0 hval0
  refine ((law_spec ⟨x0, x1, x2, x3⟩ n1 n2 n3 n4).law rfl ?_).mono fun e W' ⟨he, hb⟩ => ?_
  · intro i v x hv hx
    match i, hv, hx with
    | 0, hv, hx =>
      simp at hv hx; subst hv; subst hx
      refine .agg _ _ rfl ?_
      intro j v x hv hx
      match j, hv, hx with
      | 0, hv, hx => simp at hv hx; subst hv; subst hx; exact .int _ _
      | 1, hv, hx => simp at hv hx; subst hv; subst hx; exact .int _ _
      | 2, hv, hx => simp at hv hx; subst hv; subst hx; exact .int _ _
      | 3, hv, hx => simp at hv hx; subst hv; subst hx; exact .int _ _
      | j + 4, hv, hx => simp at hv
    | 1, hv, hx => simp at hv hx; subst hv; subst hx; exact .int _ _
    | 2, hv, hx => simp at hv hx; subst hv; subst hx; exact .int _ _
    | 3, hv, hx => simp at hv hx; subst hv; subst hx; exact .int _ _
    | 4, hv, hx => simp at hv hx; subst hv; subst hx; exact .int _ _
    | i + 5, hv, hx => simp at hv
  · subst he
    exact ⟨_, rfl, law_post hW' rfl hb laidOut (by kernel_rfl) (by kernel_rfl) Try.underlying4 rfl⟩

theorem over : Rows.coverValuesRow.holds Try.pinned (OpenSpec.ofChange Rows.coverValuesSpec) :=
  OpenClaim.holds_of_wide 3 Try.f3 rfl rfl rfl rfl rfl rfl rfl ⟨rfl, rfl, rfl, rfl, rfl⟩ rfl rfl rfl rfl rfl (by kernel_rfl) Try.func3 (by kernel_rfl)
    (of_decide_eq_true (by kernel_rfl)) (by unfold Func.isWrapper; first | (rw [if_pos (by decide +kernel)]; kernel_rfl) | (rw [if_neg (by decide +kernel)]; exact ⟨rfl, rfl⟩))
    (fun os started H enc _ => lifted os started H enc)

theorem coverValues_holds : Rows.CoverValuesSaid := over
end Go.Proofs.Ythgplioeefjbfaa
#print axioms Go.Proofs.Ythgplioeefjbfaa.coverValues_holds
