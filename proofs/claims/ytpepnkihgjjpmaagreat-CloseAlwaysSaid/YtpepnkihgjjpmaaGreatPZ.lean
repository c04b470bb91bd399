/- CloseAlways: for every input the law returns true, and its arguments read as before. -/
import Derived.Test.YtpepnkihgjjpmaaGreatKM
import Derived.Test.YtpepnkihgjjpmaaGreatAB
import Derived.Test.YtpepnkihgjjpmaaGreatPFZ
set_option linter.unusedSimpArgs false
set_option linter.unusedVariables false
namespace Go.Proofs.YtpepnkihgjjpmaaGreat
open Go.ChangeShapes Go.WideShapes Go.ChangeAt Go.RowKit Go.Abs

theorem own:ownKnob Tryz.prog.godebug=none:=by kernel_rfl
theorem laidOut:laidOutB Tryz.prog=true:=by kernel_rfl
set_option maxRecDepth 100000 in
theorem lifted (os : Os) (f : os.Started) (H : Type) (enc : TypeId × Value → H) :
    ReturnsInHanded {} Tryz.checked os 3 .any (Rows.closeAlwaysSpec.pre6 enc Tryz.prog Tryz.f3 Rows.closeAlwaysRow.domain false) (Rows.closeAlwaysSpec.post enc Tryz.prog Tryz.f3 false true false false):=by
  refine returnsInHanded_of_change_sized (C:=Tryz.checked) own f (by kernel_rfl) Tryz.func3
    (ChangeSpec.witness6 (enc:=enc) (C:=Tryz.checked) false ⟨#[], #[.slice none 0 0, .slice none 0 0], []⟩ 8 (by kernel_rfl) (by kernel_rfl) (by kernel_rfl) (by kernel_rfl)) ?_
  intro W k args ds gs before b w hcnd r _
  have a:∀(j:Nat) t v, Tryz.f3.params[j]? = some t → args[j]? = some v → Value.okWide Tryz.prog W .any k t v:=b
  have o:=w
  obtain⟨p, q, l, M, rfl, hfz, hnd⟩:=w
  have u:DataW.TrodAll enc Tryz.prog W 0 (λ_ => true) true Tryz.f3.params.toList args.toList ds p:=l
  rw[Tryz.params3]at u a
  obtain⟨y, vs0, E, ds0, p0, q0, hargs, rfl, rfl, J, P⟩:=trodAll_cons u
  obtain⟨A, vs1, F, ds1, p1, q1, rfl, rfl, rfl, K, r1⟩:=trodAll_cons P
  obtain⟨rfl, rfl, rfl⟩:=trodAll_nil r1
  obtain rfl:args = #[y, A]:=by cases args; simp_all
  obtain⟨rfl, rfl⟩:=trodVars_none M
  have x:(DataW.weightsEach Tryz.prog [22, 23] [E, F]).all (· ≤ reachBytes)=true:=r
  obtain⟨rows0, G, m⟩:=TS (z:=17) (s:=[.int .i64, .int .i64, .int .i64, .int .i64, .int .i64, .int .i64, .int .i64, .int .i64, .int .i64, .int .i64, .int .i64, .int .i64, .int .i64, .int .i64, .int .i64, .int .i64, .int .i64]) Tryz.underlying22 (by kernel_rfl) (a 0 22 y rfl rfl) J (Je x 0 rfl rfl)
  obtain⟨B, rfl, ok0⟩:=Nz (c:=bG.cells) XK G.2
  obtain⟨rows1, I, n⟩:=TS (z:=5) (s:=[.int .i64, .int .i64, .int .i64, .int .i64, .int .i64]) Tryz.underlying23 (by kernel_rfl) (a 1 23 A rfl rfl) K (Je x 1 rfl rfl)
  obtain⟨D, rfl, ok1⟩:=Nz (c:=aY.cells) XJ I.2
  clear l b
  refine((Fe B D).law (abQ λt O => by have L:t∈([]:List (Nat×Xc)):=O; simp at L) rfl ?_).mono λe W' ⟨N, hb⟩ => ?_
  · intro i v d g h
    match i, g, h with
    | 0, g, h => simp at g h; subst g; subst h; exact m
    | 1, g, h => simp at g h; subst g; subst h; exact n
    |i + 2, g, h => simp at g
  · subst N
    exact⟨_, rfl, X8 o rfl hb laidOut (by kernel_rfl) (by kernel_rfl) Tryz.underlying4 rfl⟩
theorem aps:Rows.closeAlwaysRow.holds Tryz.pinned (OpenSpec.ofChange Rows.closeAlwaysSpec) :=
  OpenClaim.holds_of_wide 3 Tryz.f3 rfl rfl rfl rfl rfl rfl rfl ⟨rfl, rfl, rfl, rfl, rfl⟩ rfl rfl rfl rfl rfl fN Tryz.func3 fJ
    (of_decide_eq_true fI) fW
    (λos a H enc _ => lifted os a H enc)
theorem B4:Rows.CloseAlwaysSaid:=aps
end Go.Proofs.YtpepnkihgjjpmaaGreat
#print axioms Go.Proofs.YtpepnkihgjjpmaaGreat.B4
