/- ReportAccounts: for every input the law returns true, and its arguments read as before; the row's variables are tied to the program's text. -/
import Derived.Test.YtnkobepdbkmedaaGreatDoorKO
import Derived.Test.YtnkobepdbkmedaaGreatDoorAbcLaw
import Derived.Test.YtnkobepdbkmedaaGreatDoorAbcOpen
import Derived.Test.YtnkobepdbkmedaaGreatDoorCards
import Derived.Test.YtnkobepdbkmedaaGreatDoorTie
import Derived.LaidMore
import Derived.SevenTiedAt
import Derived.LaidSub
import Derived.MakeChecks
import Derived.Lib.LaidTab
import Derived.Lib.ItoaNum
import Derived.Test.YtnkobepdbkmedaaGreatDoorPFA
set_option linter.unusedSimpArgs false
set_option linter.unusedVariables false
namespace Go.Proofs.YtnkobepdbkmedaaGreatDoor
open Go.ChangeShapes Go.WideShapes Go.ChangeAt Go.RowKit Go.Abs

theorem own : ownKnob Tryz.prog.godebug = none := by kernel_rfl
theorem laidOut : laidOutB Tryz.prog = true := by kernel_rfl
theorem oF (os : Os) (args : Array Value) : laidMetH Tryz.prog Rows.reportAccountsRow.laid ((World.doorLaid Tryz.prog 4000 os).forCall (fun _ _ => 0) ⟨#[], args, []⟩).memory :=
  laidMetH_of_parts3 (fuel := 8) (laidMet_of_run' 8 (by kernel_rfl) (by kernel_rfl)) (by kernel_rfl) (by kernel_rfl)
set_option maxRecDepth 100000 in
theorem lifted (os : Os) (started : os.Started) (H : Type) (enc : TypeId × Value → H) :
    ReturnsInHanded {} Tryz.checked os 5 .any (fun w args => (Rows.reportAccountsSpec.pre enc Tryz.prog Tryz.f5 [] false w args ∧ laidMetH Tryz.prog Rows.reportAccountsRow.laid w) ∧ sizedMet enc Tryz.prog Tryz.f5 (OpenSpec.ofChange Rows.reportAccountsSpec) false w args)
      (Rows.reportAccountsSpec.post enc Tryz.prog Tryz.f5 false true false false) := by
  refine returnsInHanded_of_change_and (C := Tryz.checked) (X := fun w _ => laidMetH Tryz.prog Rows.reportAccountsRow.laid w) (fun _ _ _ hh h => h.of_heap hh) own started (by kernel_rfl) Tryz.func5
    (ChangeSpec.witness_shaped (enc := enc) (C := Tryz.checked) (os := os) (X := fun w _ => laidMetH Tryz.prog Rows.reportAccountsRow.laid w) false (World.doorLaid Tryz.prog 4000 os) #[.slice none 0 0] 8 rfl (World.shaped_of_RefB (by kernel_rfl) (by kernel_rfl)) (by kernel_rfl) (by kernel_rfl) (by kernel_rfl) (oF os _)) ?_
  intro W base args ds gs before hval0 hW _ hz0 hL _
  have hval : ∀ (j : Nat) t v, Tryz.f5.params[j]? = some t → args[j]? = some v → Value.okWide Tryz.prog W .any base t v := hval0
  have hW' := hW
  obtain ⟨p, q, hA0, hV, rfl, hfz, hnd⟩ := hW
  have hA : DataW.TrodAll enc Tryz.prog W 0 (fun _ => true) true Tryz.f5.params.toList args.toList ds p := hA0
  rw [Tryz.params5] at hA hval
  obtain ⟨v0, vs0, d0, ds0, p0, q0, hargs, rfl, rfl, h0, r0⟩ := trodAll_cons hA
  obtain ⟨rfl, rfl, rfl⟩ := trodAll_nil r0
  obtain rfl : args = #[v0] := by cases args; simp_all
  obtain ⟨rfl, rfl⟩ := trodVars_none hV
  have hz : (DataW.weightsEach Tryz.prog [22] [d0]).all (· ≤ reachBytes) = true := hz0
  obtain ⟨rows0, f0, rep0⟩ := D5 (z := 17) (s := [.int .i64, .int .i64, .int .i64, .int .i64, .int .i64, .int .i64, .int .i64, .int .i64, .int .i64, .int .i64, .int .i64, .int .i64, .int .i64, .int .i64, .int .i64, .int .i64, .int .i64]) Tryz.underlying22 (by kernel_rfl) (hval 0 22 v0 rfl rfl) h0 (sJ hz 0 rfl rfl)
  obtain ⟨a0, rfl, ok0⟩ := Bn (c := aZ.cells) Bl f0.2
  clear hA0 hval0
  have hT : MJ W (fun _ => none) := by
    have h := laidMetH.filter (fun x => x.1 == "internal/strconv.uint64pow10") hL
    have e : Rows.reportAccountsRow.laid.filter (fun x => x.1 == "internal/strconv.uint64pow10") = [("internal/strconv.uint64pow10", Lib.tabData .u64 Lib.pow10Tab)] := by kernel_rfl
    rw [Go.MakeChecks.laidMetH_plain _ _ _ (by kernel_rfl), e] at h
    exact Ag "internal/strconv.uint64pow10" (by kernel_rfl) (Lib.tabIs_of_head (g := 0) (t := 300) (e := 115) (n := 20) (by kernel_rfl) (by kernel_rfl) (by kernel_rfl) (by kernel_rfl) (by kernel_rfl) (by kernel_rfl) h) rfl
  refine ((DN a0).law hT rfl ?_).mono fun e W' ⟨he, hb⟩ => ?_
  · intro i v d hv hd
    match i, hv, hd with
    | 0, hv, hd => simp at hv hd; subst hv; subst hd; exact rep0
    | i + 1, hv, hd => simp at hv
  · subst he
    exact ⟨_, rfl, AZ hW' rfl hb laidOut (by kernel_rfl) (by kernel_rfl) Tryz.underlying4 rfl⟩
theorem over : Rows.reportAccountsRow.holds Tryz.pinned (OpenSpec.ofChange Rows.reportAccountsSpec) :=
  OpenClaim.holds_of_wide 5 Tryz.f5 rfl rfl rfl rfl rfl rfl rfl ⟨rfl, rfl, rfl, rfl, rfl⟩ rfl rfl rfl rfl rfl wV Tryz.func5 uP
    (of_decide_eq_true yR) zn
    (fun os started H enc _ => lifted os started H enc)
theorem reportAccounts_holds : Rows.ReportAccountsCardSaid :=
  Claim7.holds_tied_plain_at .later [] [.data, .data, .data, .sentinel, .sentinel] true (true, "83e6c488a79a253eaf5ac85fcac7182973340d3802ccbbccdd8a0cb995bf3178") true
    over (fun _ h => by cases h) (by kernel_rfl) (fun _ h => by cases h) reportAccounts_row_tie rfl ⟨rfl, rfl⟩ (by kernel_rfl) rfl
    (fun f fn hf hfn => by
      obtain rfl : f = 5 := Option.some.inj ((show Tryz.prog.funcNamed "cambist/cambistlaw29.ReportAccounts" = some 5 by kernel_rfl).symm.trans hf) |>.symm
      obtain rfl : fn = Tryz.f5 := (Option.some.inj (Tryz.func5.symm.trans hfn)).symm
      exact ⟨by kernel_rfl, fun j t ht => by
        rw [Tryz.params5] at ht
        have hm : t ∈ [22] := by simpa using Array.mem_of_getElem? ht
        have hall : ([22].all fun u => !Tryz.prog.wantsStandIn u) = true := by kernel_rfl
        exact (show Tryz.prog.wantsStandIn t = false by simpa using List.all_eq_true.1 hall t hm)⟩)
    (by kernel_rfl)
end Go.Proofs.YtnkobepdbkmedaaGreatDoor
#print axioms Go.Proofs.YtnkobepdbkmedaaGreatDoor.reportAccounts_holds
