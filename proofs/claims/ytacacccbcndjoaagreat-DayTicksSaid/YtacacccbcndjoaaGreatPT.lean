/- DayTicks: for every input the law returns true, and its arguments read as before. -/
import Derived.Test.YtacacccbcndjoaaGreatKN
import Derived.Test.YtacacccbcndjoaaGreatAbcLaw
import Derived.Test.YtacacccbcndjoaaGreatAbcOpen
import Derived.Test.YtacacccbcndjoaaGreatPF
set_option linter.unusedSimpArgs false
set_option linter.unusedVariables false
namespace Go.Proofs.YtacacccbcndjoaaGreat
open Go.ChangeShapes Go.WideShapes Go.ChangeAt Go.RowKit Go.Abs

theorem own : ownKnob Tryz.prog.godebug = none := by kernel_rfl
theorem laidOut : laidOutB Tryz.prog = true := by kernel_rfl
set_option maxRecDepth 100000 in
theorem lifted (os : Os) (started : os.Started) (H : Type) (enc : TypeId × Value → H) :
    ReturnsInHanded {} Tryz.checked os 3 .any (Rows.dayTicksSpec.pre6 enc Tryz.prog Tryz.f3 Rows.dayTicksRow.domain false) (Rows.dayTicksSpec.post enc Tryz.prog Tryz.f3 false true false false) := by
  refine returnsInHanded_of_change_sized (C := Tryz.checked) own started (by kernel_rfl) Tryz.func3
    (ChangeSpec.witness6 (enc := enc) (C := Tryz.checked) false ⟨#[], #[.slice none 0 0, .int .i64 0, .int .i64 0], []⟩ 8 (by kernel_rfl) (by kernel_rfl) (by kernel_rfl) (by kernel_rfl)) ?_
  intro W base args ds gs before hval0 hW hcnd hz0 _
  have hval : ∀ (j : Nat) t v, Tryz.f3.params[j]? = some t → args[j]? = some v → Value.okWide Tryz.prog W .any base t v := hval0
  have hW' := hW
  obtain ⟨p, q, hA0, hV, rfl, hfz, hnd⟩ := hW
  have hA : DataW.TrodAll enc Tryz.prog W 0 (fun _ => true) true Tryz.f3.params.toList args.toList ds p := hA0
  rw [Tryz.params3] at hA hval
  obtain ⟨v0, vs0, d0, ds0, p0, q0, hargs, rfl, rfl, h0, r0⟩ := trodAll_cons hA
  obtain ⟨v1, vs1, d1, ds1, p1, q1, rfl, rfl, rfl, h1, r1⟩ := trodAll_cons r0
  obtain ⟨v2, vs2, d2, ds2, p2, q2, rfl, rfl, rfl, h2, r2⟩ := trodAll_cons r1
  obtain ⟨rfl, rfl, rfl⟩ := trodAll_nil r2
  obtain rfl : args = #[v0, v1, v2] := by cases args; simp_all
  obtain ⟨rfl, rfl⟩ := trodVars_none hV
  have hz : (DataW.weightsEach Tryz.prog [22, 3, 3] [d0, d1, d2]).all (· ≤ reachBytes) = true := hz0
  obtain ⟨rows0, f0, rep0⟩ := Tv (z := 17) (s := [.int .i64, .int .i64, .int .i64, .int .i64, .int .i64, .int .i64, .int .i64, .int .i64, .int .i64, .int .i64, .int .i64, .int .i64, .int .i64, .int .i64, .int .i64, .int .i64, .int .i64]) Tryz.underlying22 (by kernel_rfl) (hval 0 22 v0 rfl rfl) h0 (LR hz 0 rfl rfl)
  obtain ⟨a0, rfl, ok0⟩ := Ny (c := aY.cells) RJ f0.2
  obtain ⟨a1, rfl, lo1, hi1⟩ := IN Tryz.underlying3 (hval 1 3 v1 rfl rfl) h1
  have ok1 := And.intro lo1 hi1
  obtain ⟨a2, rfl, lo2, hi2⟩ := IN Tryz.underlying3 (hval 2 3 v2 rfl rfl) h2
  have ok2 := And.intro lo2 hi2
  clear hA0 hval0
  refine ((GU a0 a1 a2 ok1 ok2).law (fun t ht => by have h2 : t ∈ ([] : List (Nat × IntKind × List Int)) := ht; simp at h2) rfl ?_).mono fun e W' ⟨he, hb⟩ => ?_
  · intro i v d hv hd
    match i, hv, hd with
    | 0, hv, hd => simp at hv hd; subst hv; subst hd; exact rep0
    | 1, hv, hd => simp at hv hd; subst hv; subst hd; exact .int _ _
    | 2, hv, hd => simp at hv hd; subst hv; subst hd; exact .int _ _
    | i + 3, hv, hd => simp at hv
  · subst he
    exact ⟨_, rfl, QI hW' rfl hb laidOut (by kernel_rfl) (by kernel_rfl) Tryz.underlying4 rfl⟩
theorem Rw : Rows.dayTicksRow.holds Tryz.pinned (OpenSpec.ofChange Rows.dayTicksSpec) :=
  OpenClaim.holds_of_wide 3 Tryz.f3 rfl rfl rfl rfl rfl rfl rfl ⟨rfl, rfl, rfl, rfl, rfl⟩ rfl rfl rfl rfl rfl EC Tryz.func3 BD
    (of_decide_eq_true Hy) Hs
    (fun os started H enc _ => lifted os started H enc)
theorem dayTicks_holds : Rows.DayTicksSaid := Rw
end Go.Proofs.YtacacccbcndjoaaGreat
#print axioms Go.Proofs.YtacacccbcndjoaaGreat.dayTicks_holds
