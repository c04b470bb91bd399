/- ShellLines: for every input the law returns true, and its arguments read as before; the row's variables are tied to the program's text. -/
import Derived.Test.YtdklpddmplflgaaDoorV12
import Derived.Test.YtdklpddmplflgaaDoorAbcLaw
import Derived.Test.YtdklpddmplflgaaDoorAbcOpen
import Derived.Test.YtdklpddmplflgaaDoorCards
import Derived.Test.YtdklpddmplflgaaDoorTie
import Derived.LaidMore
import Derived.SevenTiedAt
import Derived.LaidSub
import Derived.MakeChecks
import Derived.Lib.LaidTab
import Derived.Lib.ItoaNum
import Derived.Shelf.Vars
import Derived.Lay
set_option linter.unusedSimpArgs false
set_option linter.unusedVariables false
namespace Go.Proofs.YtdklpddmplflgaaDoor
open Go.ChangeShapes Go.WideShapes Go.ChangeAt Go.RowKit Go.Abs

theorem own : ownKnob Tryd.prog.godebug = none := by kernel_rfl
theorem laidOut : laidOutB Tryd.prog = true := by kernel_rfl
theorem door_met (os : Os) (args : Array Value) : laidMetH Tryd.prog Rows.shellLinesRow.laid ((World.laidAll Tryd.prog os Rows.shellLinesRow.laid).forCall (fun _ _ => 0) ⟨#[], args, []⟩).memory := by
  rw [Go.MakeChecks.laidMetH_plain _ _ _ (by kernel_rfl)]; exact laidMet_laidAll _ (by kernel_rfl) (by kernel_rfl)
set_option maxRecDepth 100000 in
theorem lifted (os : Os) (started : os.Started) (H : Type) (enc : TypeId × Value → H) :
    ReturnsInHanded {} Tryd.checked os 7 .any (fun w args => (Rows.shellLinesSpec.pre enc Tryd.prog Tryd.f7 [] false w args ∧ laidMetH Tryd.prog Rows.shellLinesRow.laid w) ∧ sizedMet enc Tryd.prog Tryd.f7 (OpenSpec.ofChange Rows.shellLinesSpec) false w args)
      (Rows.shellLinesSpec.post enc Tryd.prog Tryd.f7 false true false false) := by
  refine handed_shaped (C := Tryd.checked) (X := fun w _ => laidMetH Tryd.prog Rows.shellLinesRow.laid w) (fun _ _ _ hh h => h.of_heap hh) own started (by kernel_rfl) Tryd.func7
    (ChangeSpec.witness_shaped (enc := enc) (C := Tryd.checked) (os := os) (X := fun w _ => laidMetH Tryd.prog Rows.shellLinesRow.laid w) false (World.laidAll Tryd.prog os Rows.shellLinesRow.laid) #[.agg #[.int .i64 0, .int .i64 0, .int .i64 0, .int .i64 0, .int .i64 0, .int .i64 0, .int .i64 0, .int .i64 0, .int .i64 0, .int .i64 0, .int .i64 0, .int .i64 0, .int .i64 0, .int .i64 0, .int .i64 0, .int .i64 0, .int .i64 0], .agg #[.int .i64 0, .int .i64 0, .int .i64 0, .slice none 0 0, .slice none 0 0]] 8 (World.laidAll_os _ _ _) (World.shaped_of_ZipB (by kernel_rfl) (by kernel_rfl)) (by kernel_rfl) (by kernel_rfl) (by kernel_rfl) (door_met os _)) ?_
  intro W base args ds gs before hval0 hW _ hz0 hL hsh
  have hval : ∀ (j : Nat) t v, Tryd.f7.params[j]? = some t → args[j]? = some v → Value.okWide Tryd.prog W .any base t v := hval0
  have hW' := hW
  obtain ⟨p, q, hA0, hV, rfl, hfz, hnd⟩ := hW
  have hA : DataW.TrodAll enc Tryd.prog W 0 (fun _ => true) true Tryd.f7.params.toList args.toList ds p := hA0
  rw [Tryd.params7] at hA hval
  obtain ⟨v0, vs0, d0, ds0, p0, q0, hargs, rfl, rfl, h0, r0⟩ := trodAll_cons hA
  obtain ⟨v1, vs1, d1, ds1, p1, q1, rfl, rfl, rfl, h1, r1⟩ := trodAll_cons r0
  obtain ⟨rfl, rfl, rfl⟩ := trodAll_nil r1
  obtain rfl : args = #[v0, v1] := by cases args; simp_all
  obtain ⟨rfl, rfl⟩ := trodVars_none hV
  have hz : (DataW.weightsEach Tryd.prog [24, 41] [d0, d1]).all (· ≤ reachBytes) = true := hz0
  obtain ⟨ds0, f0, rep0⟩ := open_agg (ss := [.int .i64, .int .i64, .int .i64, .int .i64, .int .i64, .int .i64, .int .i64, .int .i64, .int .i64, .int .i64, .int .i64, .int .i64, .int .i64, .int .i64, .int .i64, .int .i64, .int .i64]) Tryd.underlying24 (by kernel_rfl) (hval 0 24 v0 rfl rfl) h0 (weights_at hz 0 rfl rfl)
  obtain ⟨a0, ok0, rfl⟩ := fit_cmd f0
  obtain ⟨ds1, f1, rep1⟩ := open_agg (ss := [.int .i64, .int .i64, .int .i64, .sl 3 [.int .i64, .int .i64, .int .i64], .sl 8 [.int .i64, .int .i64, .int .i64, .int .i64, .int .i64, .int .i64, .int .i64, .int .i64]]) Tryd.underlying41 (by kernel_rfl) (hval 1 41 v1 rfl rfl) h1 (weights_at hz 1 rfl rfl)
  obtain ⟨a1, ok1, rfl⟩ := fit_reply f1
  clear hA0 hval0
  have t0 : TabIn W (0, .ints .u64 Go.Lib.pow10Tab) := by
    have h := laidMetH.filter (fun x => x.1 == "internal/strconv.uint64pow10") hL
    have e : Rows.shellLinesRow.laid.filter (fun x => x.1 == "internal/strconv.uint64pow10") = [("internal/strconv.uint64pow10", Lib.tabData .u64 Go.Lib.pow10Tab)] := by kernel_rfl
    rw [Go.MakeChecks.laidMetH_plain _ _ _ (by kernel_rfl), e] at h
    exact tab_var "internal/strconv.uint64pow10" (by kernel_rfl) (Lib.tabIs_of_head (g := 0) (t := 108) (e := 90) (n := 20) (by kernel_rfl) (by kernel_rfl) (by kernel_rfl) (by kernel_rfl) (by kernel_rfl) (by kernel_rfl) h) rfl
  have t1 : TabIn W (1, .int1 .i64) := tab_int1 (Go.Proofs.cell_of_shapedOpen_int (t := 3) (zero := #[.int .i64 0]) hsh (of_decide_eq_true (by kernel_rfl)) (by kernel_rfl) rfl (by kernel_rfl) (by kernel_rfl) (by kernel_rfl))
  have t2 : TabIn W (2, .err1) := by
    have h := laidMetH.filter (fun x => x.1 == "strconv.ErrSyntax") hL
    have e : Rows.shellLinesRow.laid.filter (fun x => x.1 == "strconv.ErrSyntax") = [("strconv.ErrSyntax", Rows.laid_strconv_ErrSyntax)] := by kernel_rfl
    rw [Go.MakeChecks.laidMetH_plain _ _ _ (by kernel_rfl), e] at h
    exact tab_err1 (t := 73) "strconv.ErrSyntax" (by kernel_rfl) (by kernel_rfl) Tryd.underlying73 h
  have t3 : TabIn W (3, .err1) := by
    have h := laidMetH.filter (fun x => x.1 == "strconv.ErrRange") hL
    have e : Rows.shellLinesRow.laid.filter (fun x => x.1 == "strconv.ErrRange") = [("strconv.ErrRange", Rows.laid_strconv_ErrRange)] := by kernel_rfl
    rw [Go.MakeChecks.laidMetH_plain _ _ _ (by kernel_rfl), e] at h
    exact tab_err1 (t := 73) "strconv.ErrRange" (by kernel_rfl) (by kernel_rfl) Tryd.underlying73 h
  have hT : TabW W (fun _ => none) := tabW_of (by
    intro t ht
    unfold tabs at ht
    simp only [List.mem_cons, List.not_mem_nil, or_false] at ht
    rcases ht with rfl | rfl | rfl | rfl <;> assumption)
  refine ((law_shellLines a0 ok0 a1 ok1).law hT rfl ?_).mono fun e W' ⟨he, hb⟩ => ?_
  · intro i v d hv hd
    match i, hv, hd with
    | 0, hv, hd => simp at hv hd; subst hv; subst hd; exact rep0
    | 1, hv, hd => simp at hv hd; subst hv; subst hd; exact rep1
    | i + 2, hv, hd => simp at hv
  · subst he
    exact ⟨_, rfl, law_post hW' rfl hb laidOut (by kernel_rfl) (by kernel_rfl) Tryd.underlying4 rfl⟩
theorem over : Rows.shellLinesRow.holds Tryd.pinned (OpenSpec.ofChange Rows.shellLinesSpec) :=
  OpenClaim.holds_of_wide 7 Tryd.f7 rfl rfl rfl rfl rfl rfl rfl ⟨rfl, rfl, rfl, rfl, rfl⟩ rfl rfl rfl rfl rfl (by kernel_rfl) Tryd.func7 (by kernel_rfl)
    (of_decide_eq_true (by kernel_rfl)) (by unfold Func.isWrapper; first | (rw [if_pos (by decide +kernel)]; kernel_rfl) | (rw [if_neg (by decide +kernel)]; exact ⟨rfl, rfl⟩))
    (fun os started H enc _ => lifted os started H enc)
theorem shellLines_holds : Rows.ShellLinesCardSaid :=
  Claim7.holds_tied_plain_at .later [] [.data, .data, .data, .data, .sentinel, .sentinel, .pinned] true (true, "b2fa823ae9c2436f025745558d28491177754fbb4ea11bf06861b6f4dfdd5e7d") true
    over (fun _ h => by cases h) (by kernel_rfl) (fun _ h => by cases h) shellLines_row_tie rfl ⟨rfl, rfl⟩ (by kernel_rfl) rfl
    (fun f fn hf hfn => by
      obtain rfl : f = 7 := Option.some.inj ((show Tryd.prog.funcNamed "cambist/cambistlaw28.ShellLines" = some 7 by kernel_rfl).symm.trans hf) |>.symm
      obtain rfl : fn = Tryd.f7 := (Option.some.inj (Tryd.func7.symm.trans hfn)).symm
      exact ⟨by kernel_rfl, fun j t ht => by
        rw [Tryd.params7] at ht
        have hm : t ∈ [24, 41] := by simpa using Array.mem_of_getElem? ht
        have hall : ([24, 41].all fun u => !Tryd.prog.wantsStandIn u) = true := by kernel_rfl
        exact (show Tryd.prog.wantsStandIn t = false by simpa using List.all_eq_true.1 hall t hm)⟩)
    (by kernel_rfl)
end Go.Proofs.YtdklpddmplflgaaDoor
#print axioms Go.Proofs.YtdklpddmplflgaaDoor.shellLines_holds
