/- DayExact: for every input the law returns true, and its arguments read as before. -/
import Derived.Test.YtbfilfeggodcjaaGreatKL
import Derived.Test.YtbfilfeggodcjaaGreatAB
import Derived.Test.YtbfilfeggodcjaaGreatPFZ
set_option linter.unusedSimpArgs false
set_option linter.unusedVariables false
namespace Go.Proofs.YtbfilfeggodcjaaGreat
open Go.ChangeShapes Go.WideShapes Go.ChangeAt Go.RowKit Go.Abs

theorem own:ownKnob Tryz.prog.godebug=none:=by kernel_rfl
theorem laidOut:laidOutB Tryz.prog=true:=by kernel_rfl
set_option maxRecDepth 100000 in
theorem lifted (os : Os) (c : os.Started) (H : Type) (enc : TypeId × Value → H) :
    ReturnsInHanded {} Tryz.checked os 3 .any (Rows.dayExactSpec.pre6 enc Tryz.prog Tryz.f3 Rows.dayExactRow.domain false) (Rows.dayExactSpec.post enc Tryz.prog Tryz.f3 false true false false):=by
  refine returnsInHanded_of_change_sized (C:=Tryz.checked) own c (by kernel_rfl) Tryz.func3
    (ChangeSpec.witness6 (enc:=enc) (C:=Tryz.checked) false ⟨#[], #[.agg #[.int .i64 0, .int .i64 0, .int .i64 0, .slice none 0 0, .slice none 0 0, .slice none 0 0, .int .i64 0, .slice none 0 0, .slice none 0 0, .int .i64 0, .slice none 0 0, .slice none 0 0, .slice none 0 0, .slice none 0 0, .slice none 0 0], .int .i64 0], []⟩ 8 (by kernel_rfl) (by kernel_rfl) (by kernel_rfl) (by kernel_rfl)) ?_
  intro W h args ds gs before b x hcnd o _
  have a:∀(j:Nat) t v, Tryz.f3.params[j]? = some t → args[j]? = some v → Value.okWide Tryz.prog W .any h t v:=b
  have n:=x
  obtain⟨p, q, k, K, rfl, hfz, hnd⟩:=x
  have w:DataW.TrodAll enc Tryz.prog W 0 (λ_ => true) true Tryz.f3.params.toList args.toList ds p:=k
  rw[Tryz.params3]at w a
  obtain⟨y, vs0, D, m, p0, q0, hargs, rfl, rfl, G, O⟩:=trodAll_cons w
  obtain⟨z, vs1, E, ds1, p1, q1, rfl, rfl, rfl, I, r1⟩:=trodAll_cons O
  obtain⟨rfl, rfl, rfl⟩:=trodAll_nil r1
  obtain rfl:args = #[y, z]:=by cases args; simp_all
  obtain⟨rfl, rfl⟩:=trodVars_none K
  have N:(DataW.weightsEach Tryz.prog [41, 3] [D, E]).all (· ≤ reachBytes)=true:=o
  obtain⟨m, F, l⟩:=N6 (ss:=[.int .i64, .int .i64, .int .i64, .sl 3 [.int .i64, .int .i64, .int .i64], .sl 12 [.int .i64, .int .i64, .int .i64, .int .i64, .int .i64, .int .i64, .int .i64, .int .i64, .int .i64, .int .i64, .int .i64, .int .i64], .sl 4 [.int .i64, .int .i64, .int .i64, .int .i64], .int .i64, .sl 7 [.int .i64, .int .i64, .int .i64, .int .i64, .int .i64, .int .i64, .bool], .sl 4 [.int .i64, .int .i64, .int .i64, .int .i64], .int .i64, .sl 4 [.int .i64, .int .i64, .int .i64, .int .i64], .sl 3 [.int .i64, .int .i64, .int .i64], .sl 4 [.int .i64, .int .i64, .int .i64, .int .i64], .sl 5 [.int .i64, .int .i64, .int .i64, .int .i64, .int .i64], .sl 7 [.int .i64, .int .i64, .int .i64, .int .i64, .int .i64, .sl 3 [.int .i64, .int .i64, .int .i64], .sl 8 [.int .i64, .int .i64, .int .i64, .int .i64, .int .i64, .int .i64, .int .i64, .int .i64]]]) Tryz.underlying41 (by kernel_rfl) (a 0 41 y rfl rfl) G (JR N 0 rfl rfl)
  obtain⟨A, s, rfl⟩:=Lo F
  obtain⟨B, rfl, r, hi1⟩:=N8 Tryz.underlying3 (a 1 3 z rfl rfl) I
  have u:=And.intro r hi1
  clear k b
  refine((Fi A B s u).law (Q5 λt M => by have J:t∈([]:List (Nat×MN)):=M; simp at J) rfl ?_).mono λe W' ⟨L, hb⟩ => ?_
  · intro i v d f g
    match i, f, g with
    | 0, f, g => simp at f g; subst f; subst g; exact l
    | 1, f, g => simp at f g; subst f; subst g; exact .int _ _
    |i + 2, f, g => simp at f
  · subst L
    exact⟨_, rfl, ND n rfl hb laidOut (by kernel_rfl) (by kernel_rfl) Tryz.underlying4 rfl⟩
theorem afj:Rows.dayExactRow.holds Tryz.pinned (OpenSpec.ofChange Rows.dayExactSpec) :=
  OpenClaim.holds_of_wide 3 Tryz.f3 rfl rfl rfl rfl rfl rfl rfl ⟨rfl, rfl, rfl, rfl, rfl⟩ rfl rfl rfl rfl rfl fN Tryz.func3 fJ
    (of_decide_eq_true fI) fW
    (λos a H enc _ => lifted os a H enc)
theorem AT:Rows.DayExactSaid:=afj
end Go.Proofs.YtbfilfeggodcjaaGreat
#print axioms Go.Proofs.YtbfilfeggodcjaaGreat.AT
