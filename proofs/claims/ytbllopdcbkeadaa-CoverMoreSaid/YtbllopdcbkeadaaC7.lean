/- States: their sizes; no theorem of a claim. -/
import Derived.Test.YtbllopdcbkeadaaC6
set_option linter.unusedSimpArgs false
set_option linter.unusedVariables false
namespace Go.Proofs.Ytbllopdcbkeadaa
open Go.Abs
structure StateV where
  now : Int
  day : Int
  phase : Int
  roll : RollV
  next : Int
  trades : List (List D)
  poss : List (List D)
  led : LedV
  ps : List Plg
  calls : List (List D)
  bids : List (List D)
  seats : List (List D)
def heavyR (r : RollV) : Bool := decide (100 < (r.ms.length : Int)) || (decide (100 < (r.ns.length : Int)) || decide (100 < (r.xs.length : Int)))
theorem heavyR_spec (r : RollV) : Abs.Spec Try.prog 39 [] [.agg r.cells] [] (.bool (heavyR r)) := by
  simp only [RollV.cells]
  refine Abs.Spec.go (n := 19) (np := 1) (rs := [.tmp 2]) mixed Try.func39 rfl rfl rfl rfl rfl (by simp) (by simp) ?_
  simp only [go_sem, Nat.reduceAdd, Nat.reduceSub, Nat.reduceMul, Nat.reducePow, Nat.reduceEqDiff, Nat.reduceLT, Nat.reduceLeDiff, Nat.reduceBEq, Nat.reduceBNe, Int.reduceToNat, Int.reduceLT, Int.reduceLE, Int.reduceEq, Int.reduceBNe, Int.reduceBEq, Int.reduceAdd, Int.reduceSub, Int.reduceMul, Int.reduceNeg, ↓reduceIte, List.length_map]
  repeat' (with_reducible first
      | refine And.intro ?_ ?_
      | exact DrawN.mk (by kernel_rfl)
      | exact OkN.mk (by kernel_rfl)
      | refine CallN.pure (by assumption) ?_
      | refine GuardK.splitDN (fun h => ?_) (fun h => ?_)
      | refine GuardK.splitD (fun h => ?_) (fun h => ?_)
      | refine CondE.splitDN (fun h => ?_) (fun h => ?_)
      | refine CondE.splitD (fun h => ?_) (fun h => ?_)
      | refine GuardK.splitN (fun h => ?_) (fun h => ?_)
      | refine GuardK.split (fun h => ?_) (fun h => ?_)
      | refine CondE.splitN (fun h => ?_) (fun h => ?_)
      | refine CondE.split (fun h => ?_) (fun h => ?_)
      | refine WeakK.id ?_
      | refine RoundK.next (by omega) ?_ ?_
      | exact trivial
      | simp only [*, go_sem, Nat.reduceAdd, Nat.reduceSub, Nat.reduceMul, Nat.reducePow, Nat.reduceEqDiff, Nat.reduceLT, Nat.reduceLeDiff, Nat.reduceBEq, Nat.reduceBNe, Int.reduceToNat, Int.reduceLT, Int.reduceLE, Int.reduceEq, Int.reduceBNe, Int.reduceBEq, Int.reduceAdd, Int.reduceSub, Int.reduceMul, Int.reduceNeg, ↓reduceIte])
  all_goals first
    | (simp_all [heavyR]; done)
    | (rw [Bool.eq_iff_iff]; simp only [heavyR, Bool.or_eq_true, decide_eq_true_eq]; omega)
def heavyK (t p : List (List D)) : Bool := decide (300 < (t.length : Int)) || decide (300 < (p.length : Int))
theorem heavyK_spec (n : Int) (t p : List (List D)) : Abs.Spec Try.prog 40 [] [.agg [.int .i64 n, .sl 7 t, .sl 4 p]] [] (.bool (heavyK t p)) := by
  refine Abs.Spec.go (n := 13) (np := 1) (rs := [.tmp 2]) mixed Try.func40 rfl rfl rfl rfl rfl (by simp) (by simp) ?_
  simp only [go_sem, Nat.reduceAdd, Nat.reduceSub, Nat.reduceMul, Nat.reducePow, Nat.reduceEqDiff, Nat.reduceLT, Nat.reduceLeDiff, Nat.reduceBEq, Nat.reduceBNe, Int.reduceToNat, Int.reduceLT, Int.reduceLE, Int.reduceEq, Int.reduceBNe, Int.reduceBEq, Int.reduceAdd, Int.reduceSub, Int.reduceMul, Int.reduceNeg, ↓reduceIte, List.length_map]
  repeat' (with_reducible first
      | refine And.intro ?_ ?_
      | exact DrawN.mk (by kernel_rfl)
      | exact OkN.mk (by kernel_rfl)
      | refine CallN.pure (by assumption) ?_
      | refine GuardK.splitDN (fun h => ?_) (fun h => ?_)
      | refine GuardK.splitD (fun h => ?_) (fun h => ?_)
      | refine CondE.splitDN (fun h => ?_) (fun h => ?_)
      | refine CondE.splitD (fun h => ?_) (fun h => ?_)
      | refine GuardK.splitN (fun h => ?_) (fun h => ?_)
      | refine GuardK.split (fun h => ?_) (fun h => ?_)
      | refine CondE.splitN (fun h => ?_) (fun h => ?_)
      | refine CondE.split (fun h => ?_) (fun h => ?_)
      | refine WeakK.id ?_
      | refine RoundK.next (by omega) ?_ ?_
      | exact trivial
      | simp only [*, go_sem, Nat.reduceAdd, Nat.reduceSub, Nat.reduceMul, Nat.reducePow, Nat.reduceEqDiff, Nat.reduceLT, Nat.reduceLeDiff, Nat.reduceBEq, Nat.reduceBNe, Int.reduceToNat, Int.reduceLT, Int.reduceLE, Int.reduceEq, Int.reduceBNe, Int.reduceBEq, Int.reduceAdd, Int.reduceSub, Int.reduceMul, Int.reduceNeg, ↓reduceIte])
  all_goals first
    | (rw [Bool.eq_iff_iff]; simp only [heavyK, Bool.or_eq_true, decide_eq_true_eq]; omega)
    | (simp_all [heavyK]; done)
@[reducible] def StateV.cells (s : StateV) : List D := [.int .i64 s.now, .int .i64 s.day, .int .i64 s.phase, .sl 3 (s.roll.ms.map MemberV.cells), .sl 12 (s.roll.ns.map InstV.cells), .sl 4 (s.roll.xs.map AssetV.cells), .int .i64 s.next, .sl 7 s.trades, .sl 4 s.poss,
  .int .i64 s.led.last, .sl 4 (s.led.bs.map BalV.cells), .sl 3 (pl s.ps), .sl 4 s.calls, .sl 5 s.bids, .sl 7 s.seats]
def heavyB (s : StateV) : Bool := heavyR s.roll || (heavyK s.trades s.poss || (decide (300 < (s.led.bs.length : Int)) || (decide (300 < (s.ps.length : Int)) || (decide (300 < (s.calls.length : Int)) || (decide (300 < (s.bids.length : Int)) || decide (300 < (s.seats.length : Int)))))))
theorem heavy_spec (s : StateV) : Abs.Spec Try.prog 18 [] [.agg s.cells] [] (.bool (heavyB s)) := by
  have h1 := heavyR_spec s.roll
  have h2 := heavyK_spec s.next s.trades s.poss
  simp only [RollV.cells] at h1
  simp only [StateV.cells]
  refine Abs.Spec.go (n := 42) (np := 1) (rs := [.tmp 2]) mixed Try.func18 rfl rfl rfl rfl rfl (by simp) (by simp) ?_
  simp only [go_sem, Nat.reduceAdd, Nat.reduceSub, Nat.reduceMul, Nat.reducePow, Nat.reduceEqDiff, Nat.reduceLT, Nat.reduceLeDiff, Nat.reduceBEq, Nat.reduceBNe, Int.reduceToNat, Int.reduceLT, Int.reduceLE, Int.reduceEq, Int.reduceBNe, Int.reduceBEq, Int.reduceAdd, Int.reduceSub, Int.reduceMul, Int.reduceNeg, ↓reduceIte]
  refine CallN.pure h1 ?_
  cases b1 : heavyR s.roll
  case true =>
    have e : heavyB s = true := by simp [heavyB, b1]
    simp only [go_sem, Nat.reduceAdd, Nat.reduceSub, Nat.reduceMul, Nat.reducePow, Nat.reduceEqDiff, Nat.reduceLT, Nat.reduceLeDiff, Nat.reduceBEq, Nat.reduceBNe, Int.reduceToNat, Int.reduceLT, Int.reduceLE, Int.reduceEq, Int.reduceBNe, Int.reduceBEq, Int.reduceAdd, Int.reduceSub, Int.reduceMul, Int.reduceNeg, ↓reduceIte, e]
  simp only [go_sem, Nat.reduceAdd, Nat.reduceSub, Nat.reduceMul, Nat.reducePow, Nat.reduceEqDiff, Nat.reduceLT, Nat.reduceLeDiff, Nat.reduceBEq, Nat.reduceBNe, Int.reduceToNat, Int.reduceLT, Int.reduceLE, Int.reduceEq, Int.reduceBNe, Int.reduceBEq, Int.reduceAdd, Int.reduceSub, Int.reduceMul, Int.reduceNeg, ↓reduceIte]
  refine CallN.pure h2 ?_
  cases b2 : heavyK s.trades s.poss
  case true =>
    have e : heavyB s = true := by simp [heavyB, b2]
    simp only [go_sem, Nat.reduceAdd, Nat.reduceSub, Nat.reduceMul, Nat.reducePow, Nat.reduceEqDiff, Nat.reduceLT, Nat.reduceLeDiff, Nat.reduceBEq, Nat.reduceBNe, Int.reduceToNat, Int.reduceLT, Int.reduceLE, Int.reduceEq, Int.reduceBNe, Int.reduceBEq, Int.reduceAdd, Int.reduceSub, Int.reduceMul, Int.reduceNeg, ↓reduceIte, e]
  have e : heavyB s = (decide (300 < (s.led.bs.length : Int)) || (decide (300 < (s.ps.length : Int)) || (decide (300 < (s.calls.length : Int)) || (decide (300 < (s.bids.length : Int)) || decide (300 < (s.seats.length : Int)))))) := by simp [heavyB, b1, b2]
  rw [e]
  clear e
  simp only [go_sem, Nat.reduceAdd, Nat.reduceSub, Nat.reduceMul, Nat.reducePow, Nat.reduceEqDiff, Nat.reduceLT, Nat.reduceLeDiff, Nat.reduceBEq, Nat.reduceBNe, Int.reduceToNat, Int.reduceLT, Int.reduceLE, Int.reduceEq, Int.reduceBNe, Int.reduceBEq, Int.reduceAdd, Int.reduceSub, Int.reduceMul, Int.reduceNeg, ↓reduceIte, List.length_map]
  cases d1 : decide (300 < (s.led.bs.length : Int))
  case true => simp only [go_sem, Nat.reduceAdd, Nat.reduceSub, Nat.reduceMul, Nat.reducePow, Nat.reduceEqDiff, Nat.reduceLT, Nat.reduceLeDiff, Nat.reduceBEq, Nat.reduceBNe, Int.reduceToNat, Int.reduceLT, Int.reduceLE, Int.reduceEq, Int.reduceBNe, Int.reduceBEq, Int.reduceAdd, Int.reduceSub, Int.reduceMul, Int.reduceNeg, ↓reduceIte, d1, List.length_map, Bool.true_or]
  cases d2 : decide (300 < (s.ps.length : Int))
  case true => simp only [go_sem, Nat.reduceAdd, Nat.reduceSub, Nat.reduceMul, Nat.reducePow, Nat.reduceEqDiff, Nat.reduceLT, Nat.reduceLeDiff, Nat.reduceBEq, Nat.reduceBNe, Int.reduceToNat, Int.reduceLT, Int.reduceLE, Int.reduceEq, Int.reduceBNe, Int.reduceBEq, Int.reduceAdd, Int.reduceSub, Int.reduceMul, Int.reduceNeg, ↓reduceIte, d1, d2, List.length_map, Bool.true_or, Bool.false_or]
  cases d3 : decide (300 < (s.calls.length : Int))
  case true => simp only [go_sem, Nat.reduceAdd, Nat.reduceSub, Nat.reduceMul, Nat.reducePow, Nat.reduceEqDiff, Nat.reduceLT, Nat.reduceLeDiff, Nat.reduceBEq, Nat.reduceBNe, Int.reduceToNat, Int.reduceLT, Int.reduceLE, Int.reduceEq, Int.reduceBNe, Int.reduceBEq, Int.reduceAdd, Int.reduceSub, Int.reduceMul, Int.reduceNeg, ↓reduceIte, d1, d2, d3, List.length_map, Bool.true_or, Bool.false_or]
  cases d4 : decide (300 < (s.bids.length : Int))
  case true => simp only [go_sem, Nat.reduceAdd, Nat.reduceSub, Nat.reduceMul, Nat.reducePow, Nat.reduceEqDiff, Nat.reduceLT, Nat.reduceLeDiff, Nat.reduceBEq, Nat.reduceBNe, Int.reduceToNat, Int.reduceLT, Int.reduceLE, Int.reduceEq, Int.reduceBNe, Int.reduceBEq, Int.reduceAdd, Int.reduceSub, Int.reduceMul, Int.reduceNeg, ↓reduceIte, d1, d2, d3, d4, List.length_map, Bool.true_or, Bool.false_or]
  simp only [go_sem, Nat.reduceAdd, Nat.reduceSub, Nat.reduceMul, Nat.reducePow, Nat.reduceEqDiff, Nat.reduceLT, Nat.reduceLeDiff, Nat.reduceBEq, Nat.reduceBNe, Int.reduceToNat, Int.reduceLT, Int.reduceLE, Int.reduceEq, Int.reduceBNe, Int.reduceBEq, Int.reduceAdd, Int.reduceSub, Int.reduceMul, Int.reduceNeg, ↓reduceIte, d1, d2, d3, d4, List.length_map, Bool.true_or, Bool.false_or]
theorem heavy_no {s : StateV} (h : heavyB s = false) : s.roll.small ∧ s.led.bs.length ≤ 300 ∧ s.ps.length ≤ 300 ∧ s.roll.xs.length ≤ 100 := by
  simp only [heavyB, heavyR, Bool.or_eq_false_iff, decide_eq_false_iff_not] at h
  refine ⟨⟨by omega, by omega, by omega⟩, by omega, by omega, by omega⟩
end Go.Proofs.Ytbllopdcbkeadaa
