/- What the functions of acct give; no theorem of a claim. -/
import Derived.Test.YthgplioeefjbfaaDoorTypes
set_option linter.unusedSimpArgs false
set_option linter.unusedVariables false
namespace Go.Proofs.YthgplioeefjbfaaDoor
open Go.Abs
structure AcctV where
  kind : Int
  who : Int
  cur : Int
@[reducible] def AcctV.cells (x : AcctV) : List D := [.int .i64 x.kind, .int .i64 x.who, .int .i64 x.cur]
def owned (k : Int) : Bool := k == 2 || k == 3
theorem owned_spec (k : Int) : Abs.Spec Tryd.prog 23 [] [.int .i64 k] [] (.bool (owned k)) := by
  refine Abs.Spec.go (n := 9) (np := 1) (rs := [.tmp 2]) mixed Tryd.func23 rfl rfl rfl rfl rfl (by simp) (by simp) ?_
  simp only [go_sem, Nat.reduceAdd, Nat.reduceSub, Nat.reduceMul, Nat.reduceEqDiff, Nat.reduceLT, Nat.reduceLeDiff, Nat.reduceBEq, Nat.reduceBNe, Int.reduceToNat, Int.reduceLT, Int.reduceLE, Int.reduceEq, Int.reduceBNe, Int.reduceBEq, Int.reduceAdd, Int.reduceSub, Int.reduceMul, Int.reduceNeg, ↓reduceIte]
  repeat' (with_reducible first
    | refine And.intro ?_ ?_
    | exact DrawN.mk (by kernel_rfl)
    | exact OkN.mk (by kernel_rfl)
    | refine GuardK.splitN (fun h => ?_) (fun h => ?_)
    | refine GuardK.split (fun h => ?_) (fun h => ?_)
    | refine CondE.split (fun h => ?_) (fun h => ?_)
    | refine WeakK.id ?_
    | simp only [*, go_sem, Nat.reduceAdd, Nat.reduceSub, Nat.reduceMul, Nat.reduceEqDiff, Nat.reduceLT, Nat.reduceLeDiff, Nat.reduceBEq, Nat.reduceBNe, Int.reduceToNat, Int.reduceLT, Int.reduceLE, Int.reduceEq, Int.reduceBNe, Int.reduceBEq, Int.reduceAdd, Int.reduceSub, Int.reduceMul, Int.reduceNeg, ↓reduceIte])
  all_goals simp [owned, *]
def AcctV.right (x : AcctV) : Bool := if x.kind < 1 ∨ 6 < x.kind ∨ x.cur < 0 ∨ 3 ≤ x.cur then false else if owned x.kind then decide (1 ≤ x.who) && decide (x.who ≤ 16) else x.who == 0
theorem right_spec (x : AcctV) : Abs.Spec Tryd.prog 10 [] [.agg x.cells] [] (.bool x.right) := by
  refine Abs.Spec.go (n := 37) (np := 1) (rs := [.tmp 2]) mixed Tryd.func10 rfl rfl rfl rfl rfl (by simp) (by simp) ?_
  simp only [AcctV.cells]
  simp only [go_sem, Nat.reduceAdd, Nat.reduceSub, Nat.reduceMul, Nat.reduceEqDiff, Nat.reduceLT, Nat.reduceLeDiff, Nat.reduceBEq, Nat.reduceBNe, Int.reduceToNat, Int.reduceLT, Int.reduceLE, Int.reduceEq, Int.reduceBNe, Int.reduceBEq, Int.reduceAdd, Int.reduceSub, Int.reduceMul, Int.reduceNeg, ↓reduceIte]
  repeat' (with_reducible first
    | refine And.intro ?_ ?_
    | exact DrawN.mk (by kernel_rfl)
    | exact OkN.mk (by kernel_rfl)
    | refine CallN.pure (owned_spec _) ?_
    | refine GuardK.splitN (fun h => ?_) (fun h => ?_)
    | refine GuardK.split (fun h => ?_) (fun h => ?_)
    | refine CondE.split (fun h => ?_) (fun h => ?_)
    | refine WeakK.id ?_
    | simp only [*, go_sem, Nat.reduceAdd, Nat.reduceSub, Nat.reduceMul, Nat.reduceEqDiff, Nat.reduceLT, Nat.reduceLeDiff, Nat.reduceBEq, Nat.reduceBNe, Int.reduceToNat, Int.reduceLT, Int.reduceLE, Int.reduceEq, Int.reduceBNe, Int.reduceBEq, Int.reduceAdd, Int.reduceSub, Int.reduceMul, Int.reduceNeg, ↓reduceIte])
  all_goals (simp only [decide_eq_true_eq, decide_eq_false_iff_not] at *)
  all_goals (unfold AcctV.right; simp [*])
def AcctV.floor (x : AcctV) : Int := if x.right && (x.kind == 3 || x.kind == 4) then 0 else -4611686018427387904
theorem floor_spec (x : AcctV) : Abs.Spec Tryd.prog 9 [] [.agg x.cells] [] (.int .i64 x.floor) := by
  have hr := right_spec x
  simp only [AcctV.cells] at hr
  refine Abs.Spec.go (n := 15) (np := 1) (rs := [.tmp 2]) mixed Tryd.func9 rfl rfl rfl rfl rfl (by simp) (by simp) ?_
  simp only [AcctV.cells]
  simp only [go_sem, Nat.reduceAdd, Nat.reduceSub, Nat.reduceMul, Nat.reduceEqDiff, Nat.reduceLT, Nat.reduceLeDiff, Nat.reduceBEq, Nat.reduceBNe, Int.reduceToNat, Int.reduceLT, Int.reduceLE, Int.reduceEq, Int.reduceBNe, Int.reduceBEq, Int.reduceAdd, Int.reduceSub, Int.reduceMul, Int.reduceNeg, ↓reduceIte]
  repeat' (with_reducible first
    | refine And.intro ?_ ?_
    | exact DrawN.mk (by kernel_rfl)
    | exact OkN.mk (by kernel_rfl)
    | refine CallN.pure hr ?_
    | refine GuardK.splitN (fun h => ?_) (fun h => ?_)
    | refine GuardK.split (fun h => ?_) (fun h => ?_)
    | refine CondE.split (fun h => ?_) (fun h => ?_)
    | refine WeakK.id ?_
    | simp only [*, go_sem, Nat.reduceAdd, Nat.reduceSub, Nat.reduceMul, Nat.reduceEqDiff, Nat.reduceLT, Nat.reduceLeDiff, Nat.reduceBEq, Nat.reduceBNe, Int.reduceToNat, Int.reduceLT, Int.reduceLE, Int.reduceEq, Int.reduceBNe, Int.reduceBEq, Int.reduceAdd, Int.reduceSub, Int.reduceMul, Int.reduceNeg, ↓reduceIte])
  all_goals (unfold AcctV.floor; simp [*])
def AcctV.less (x y : AcctV) : Bool := if x.kind ≠ y.kind then decide (x.kind < y.kind) else if x.who ≠ y.who then decide (x.who < y.who) else decide (x.cur < y.cur)
theorem less_spec (x y : AcctV) : Abs.Spec Tryd.prog 8 [] [.agg x.cells, .agg y.cells] [] (.bool (x.less y)) := by
  refine Abs.Spec.go (n := 32) (np := 2) (rs := [.tmp 4]) mixed Tryd.func8 rfl rfl rfl rfl rfl (by simp) (by simp) ?_
  simp only [AcctV.cells]
  simp only [go_sem, Nat.reduceAdd, Nat.reduceSub, Nat.reduceMul, Nat.reduceEqDiff, Nat.reduceLT, Nat.reduceLeDiff, Nat.reduceBEq, Nat.reduceBNe, Int.reduceToNat, Int.reduceLT, Int.reduceLE, Int.reduceEq, Int.reduceBNe, Int.reduceBEq, Int.reduceAdd, Int.reduceSub, Int.reduceMul, Int.reduceNeg, ↓reduceIte]
  repeat' (with_reducible first
    | refine And.intro ?_ ?_
    | exact DrawN.mk (by kernel_rfl)
    | exact OkN.mk (by kernel_rfl)
    | exact trivial
    | refine GuardK.splitN (fun h => ?_) (fun h => ?_)
    | refine GuardK.split (fun h => ?_) (fun h => ?_)
    | refine CondE.split (fun h => ?_) (fun h => ?_)
    | refine WeakK.id ?_
    | simp only [*, go_sem, Nat.reduceAdd, Nat.reduceSub, Nat.reduceMul, Nat.reduceEqDiff, Nat.reduceLT, Nat.reduceLeDiff, Nat.reduceBEq, Nat.reduceBNe, Int.reduceToNat, Int.reduceLT, Int.reduceLE, Int.reduceEq, Int.reduceBNe, Int.reduceBEq, Int.reduceAdd, Int.reduceSub, Int.reduceMul, Int.reduceNeg, ↓reduceIte])
  all_goals (unfold AcctV.less; simp_all)
def AcctV.lt (x y : AcctV) : Prop := x.kind < y.kind ∨ x.kind = y.kind ∧ (x.who < y.who ∨ x.who = y.who ∧ x.cur < y.cur)
theorem less_t (x y : AcctV) : x.less y = true ↔ x.lt y := by
  unfold AcctV.less AcctV.lt
  split
  · simp only [decide_eq_true_eq]; omega
  · split
    · simp only [decide_eq_true_eq]; omega
    · simp only [decide_eq_true_eq]; omega
theorem less_f (x y : AcctV) : x.less y = false ↔ ¬ x.lt y := by rw [← less_t]; simp
theorem floor_z (x : AcctV) : (x.floor == 0) = (x.right && (x.kind == 3 || x.kind == 4)) := by
  unfold AcctV.floor
  split
  · rename_i h; simp [h]
  · rename_i h; simp at h; cases hr : x.right <;> simp [hr] at h ⊢; exact h
set_option maxHeartbeats 2000000 in
theorem law_of (hw : Abs.Spec Tryd.prog 11 [] [] [] (.bool true)) (x y z : AcctV) : Abs.Spec Tryd.prog 3 [] [.agg x.cells, .agg y.cells, .agg z.cells] [] (.bool true) := by
  have h1 := less_spec x y
  have h2 := less_spec y x
  have h3 := less_spec y z
  have h4 := less_spec x z
  have h5 := floor_spec x
  have h6 := right_spec x
  simp only [AcctV.cells] at h1 h2 h3 h4 h5 h6
  refine Abs.Spec.go (n := 84) (np := 3) (rs := [.tmp 6]) mixed Tryd.func3 rfl rfl rfl rfl rfl (by simp) (by simp) ?_
  simp only [AcctV.cells]
  simp only [go_sem, Nat.reduceAdd, Nat.reduceSub, Nat.reduceMul, Nat.reduceEqDiff, Nat.reduceLT, Nat.reduceLeDiff, Nat.reduceBEq, Nat.reduceBNe, Int.reduceToNat, Int.reduceLT, Int.reduceLE, Int.reduceEq, Int.reduceBNe, Int.reduceBEq, Int.reduceAdd, Int.reduceSub, Int.reduceMul, Int.reduceNeg, ↓reduceIte]
  repeat' (with_reducible first
    | refine And.intro ?_ ?_
    | exact DrawN.mk (by kernel_rfl)
    | exact OkN.mk (by kernel_rfl)
    | refine CallN.pure hw ?_
    | refine CallN.pure h1 ?_
    | refine CallN.pure h2 ?_
    | refine CallN.pure h3 ?_
    | refine CallN.pure h4 ?_
    | refine CallN.pure h5 ?_
    | refine CallN.pure h6 ?_
    | refine GuardK.splitN (fun h => ?_) (fun h => ?_)
    | refine GuardK.split (fun h => ?_) (fun h => ?_)
    | refine CondE.split (fun h => ?_) (fun h => ?_)
    | refine WeakK.id ?_
    | simp only [*, go_sem, Nat.reduceAdd, Nat.reduceSub, Nat.reduceMul, Nat.reduceEqDiff, Nat.reduceLT, Nat.reduceLeDiff, Nat.reduceBEq, Nat.reduceBNe, Int.reduceToNat, Int.reduceLT, Int.reduceLE, Int.reduceEq, Int.reduceBNe, Int.reduceBEq, Int.reduceAdd, Int.reduceSub, Int.reduceMul, Int.reduceNeg, ↓reduceIte])
  all_goals (simp only [decide_eq_true_eq, decide_eq_false_iff_not, beq_iff_eq, bne_iff_ne, Bool.not_eq_true', beq_eq_false_iff_ne] at *)
  all_goals (clear h1 h2 h3 h4 h5 h6 hw)
  all_goals first
    | (exfalso; simp_all [AcctV.less, AcctV.floor]; done)
    | skip
  all_goals (try simp only [floor_z] at *)
  all_goals (have p1 := less_t x y; have p2 := less_t y x; have p3 := less_t y z; have p4 := less_t x z; unfold AcctV.lt at p1 p2 p3 p4)
  all_goals (cases e1 : x.less y <;> cases e2 : y.less x <;> cases e3 : y.less z <;> cases e4 : x.less z <;> simp_all <;> omega)
end Go.Proofs.YthgplioeefjbfaaDoor
