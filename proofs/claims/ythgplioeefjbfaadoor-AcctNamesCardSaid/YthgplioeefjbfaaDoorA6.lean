/- The page's accounts; no theorem of a claim. -/
import Derived.Test.YthgplioeefjbfaaDoorA5
set_option linter.unusedSimpArgs false
set_option linter.unusedVariables false
namespace Go.Proofs.YthgplioeefjbfaaDoor
open Go.Abs
theorem refRight_spec (x : AcctV) : Abs.Spec Tryd.prog 18 [] [.agg x.cells] [] (.bool x.right) := by
  refine Abs.Spec.go (n := 40) (np := 1) (rs := [.tmp 2]) mixed Tryd.func18 rfl rfl rfl rfl rfl (by simp) (by simp) ?_
  simp only [AcctV.cells]
  simp only [go_sem, Nat.reduceAdd, Nat.reduceSub, Nat.reduceMul, Nat.reducePow, Nat.reduceEqDiff, Nat.reduceLT, Nat.reduceLeDiff, Nat.reduceBEq, Nat.reduceBNe, Int.reduceToNat, Int.reduceLT, Int.reduceLE, Int.reduceEq, Int.reduceBNe, Int.reduceBEq, Int.reduceAdd, Int.reduceSub, Int.reduceMul, Int.reduceNeg, ↓reduceIte]
  repeat' (with_reducible first
      | refine And.intro ?_ ?_
      | exact DrawN.mk (by kernel_rfl)
      | exact OkN.mk (by kernel_rfl)
      | refine CallN.pure (by assumption) ?_
      | refine GuardK.splitDN (fun h => ?_) (fun h => ?_)
      | refine GuardK.splitD (fun h => ?_) (fun h => ?_)
      | refine CondE.splitDN (fun h => ?_) (fun h => ?_)
      | refine CondE.splitD (fun h => ?_) (fun h => ?_)
      | refine GuardK.splitN (fun h => ?_) (fun h => ?_)
      | refine GuardK.split (fun h => ?_) (fun h => ?_)
      | refine CondE.splitN (fun h => ?_) (fun h => ?_)
      | refine CondE.split (fun h => ?_) (fun h => ?_)
      | refine WeakK.id ?_
      | refine RoundK.next (by omega) ?_ ?_
      | exact trivial
      | simp only [*, go_sem, Nat.reduceAdd, Nat.reduceSub, Nat.reduceMul, Nat.reducePow, Nat.reduceEqDiff, Nat.reduceLT, Nat.reduceLeDiff, Nat.reduceBEq, Nat.reduceBNe, Int.reduceToNat, Int.reduceLT, Int.reduceLE, Int.reduceEq, Int.reduceBNe, Int.reduceBEq, Int.reduceAdd, Int.reduceSub, Int.reduceMul, Int.reduceNeg, ↓reduceIte])
  all_goals (unfold AcctV.right; simp_all [owned] <;> omega)
theorem refFloor_spec (x : AcctV) : Abs.Spec Tryd.prog 19 [] [.agg x.cells] [] (.int .i64 x.floor) := by
  have hr := refRight_spec x
  simp only [AcctV.cells] at hr
  refine Abs.Spec.go (n := 15) (np := 1) (rs := [.tmp 2]) mixed Tryd.func19 rfl rfl rfl rfl rfl (by simp) (by simp) ?_
  simp only [AcctV.cells]
  simp only [go_sem, Nat.reduceAdd, Nat.reduceSub, Nat.reduceMul, Nat.reducePow, Nat.reduceEqDiff, Nat.reduceLT, Nat.reduceLeDiff, Nat.reduceBEq, Nat.reduceBNe, Int.reduceToNat, Int.reduceLT, Int.reduceLE, Int.reduceEq, Int.reduceBNe, Int.reduceBEq, Int.reduceAdd, Int.reduceSub, Int.reduceMul, Int.reduceNeg, ↓reduceIte]
  repeat' (with_reducible first
      | refine And.intro ?_ ?_
      | exact DrawN.mk (by kernel_rfl)
      | exact OkN.mk (by kernel_rfl)
      | refine CallN.pure (by assumption) ?_
      | refine CallN.pure (hr) ?_
      | refine GuardK.splitDN (fun h => ?_) (fun h => ?_)
      | refine GuardK.splitD (fun h => ?_) (fun h => ?_)
      | refine CondE.splitDN (fun h => ?_) (fun h => ?_)
      | refine CondE.splitD (fun h => ?_) (fun h => ?_)
      | refine GuardK.splitN (fun h => ?_) (fun h => ?_)
      | refine GuardK.split (fun h => ?_) (fun h => ?_)
      | refine CondE.splitN (fun h => ?_) (fun h => ?_)
      | refine CondE.split (fun h => ?_) (fun h => ?_)
      | refine WeakK.id ?_
      | refine RoundK.next (by omega) ?_ ?_
      | exact trivial
      | simp only [*, go_sem, Nat.reduceAdd, Nat.reduceSub, Nat.reduceMul, Nat.reducePow, Nat.reduceEqDiff, Nat.reduceLT, Nat.reduceLeDiff, Nat.reduceBEq, Nat.reduceBNe, Int.reduceToNat, Int.reduceLT, Int.reduceLE, Int.reduceEq, Int.reduceBNe, Int.reduceBEq, Int.reduceAdd, Int.reduceSub, Int.reduceMul, Int.reduceNeg, ↓reduceIte])
  all_goals (unfold AcctV.floor; simp [*])
theorem refLess_spec (x y : AcctV) : Abs.Spec Tryd.prog 20 [] [.agg x.cells, .agg y.cells] [] (.bool (x.less y)) := by
  refine Abs.Spec.go (n := 30) (np := 2) (rs := [.tmp 4]) mixed Tryd.func20 rfl rfl rfl rfl rfl (by simp) (by simp) ?_
  simp only [AcctV.cells]
  simp only [go_sem, Nat.reduceAdd, Nat.reduceSub, Nat.reduceMul, Nat.reducePow, Nat.reduceEqDiff, Nat.reduceLT, Nat.reduceLeDiff, Nat.reduceBEq, Nat.reduceBNe, Int.reduceToNat, Int.reduceLT, Int.reduceLE, Int.reduceEq, Int.reduceBNe, Int.reduceBEq, Int.reduceAdd, Int.reduceSub, Int.reduceMul, Int.reduceNeg, ↓reduceIte]
  repeat' (with_reducible first
      | refine And.intro ?_ ?_
      | exact DrawN.mk (by kernel_rfl)
      | exact OkN.mk (by kernel_rfl)
      | refine CallN.pure (by assumption) ?_
      | refine GuardK.splitDN (fun h => ?_) (fun h => ?_)
      | refine GuardK.splitD (fun h => ?_) (fun h => ?_)
      | refine CondE.splitDN (fun h => ?_) (fun h => ?_)
      | refine CondE.splitD (fun h => ?_) (fun h => ?_)
      | refine GuardK.splitN (fun h => ?_) (fun h => ?_)
      | refine GuardK.split (fun h => ?_) (fun h => ?_)
      | refine CondE.splitN (fun h => ?_) (fun h => ?_)
      | refine CondE.split (fun h => ?_) (fun h => ?_)
      | refine WeakK.id ?_
      | refine RoundK.next (by omega) ?_ ?_
      | exact trivial
      | simp only [*, go_sem, Nat.reduceAdd, Nat.reduceSub, Nat.reduceMul, Nat.reducePow, Nat.reduceEqDiff, Nat.reduceLT, Nat.reduceLeDiff, Nat.reduceBEq, Nat.reduceBNe, Int.reduceToNat, Int.reduceLT, Int.reduceLE, Int.reduceEq, Int.reduceBNe, Int.reduceBEq, Int.reduceAdd, Int.reduceSub, Int.reduceMul, Int.reduceNeg, ↓reduceIte])
  all_goals (unfold AcctV.less; simp_all)
def AcctV.same (x y : AcctV) : Bool := x.kind == y.kind && x.who == y.who && x.cur == y.cur
theorem keepAcct_spec (x y : AcctV) : Abs.Spec Tryd.prog 17 [] [.agg x.cells, .agg y.cells] [] (.bool (x.same y)) := by
  refine Abs.Spec.go (n := 24) (np := 2) (rs := [.tmp 4]) mixed Tryd.func17 rfl rfl rfl rfl rfl (by simp) (by simp) ?_
  simp only [AcctV.cells]
  simp only [go_sem, Nat.reduceAdd, Nat.reduceSub, Nat.reduceMul, Nat.reducePow, Nat.reduceEqDiff, Nat.reduceLT, Nat.reduceLeDiff, Nat.reduceBEq, Nat.reduceBNe, Int.reduceToNat, Int.reduceLT, Int.reduceLE, Int.reduceEq, Int.reduceBNe, Int.reduceBEq, Int.reduceAdd, Int.reduceSub, Int.reduceMul, Int.reduceNeg, ↓reduceIte]
  repeat' (with_reducible first
      | refine And.intro ?_ ?_
      | exact DrawN.mk (by kernel_rfl)
      | exact OkN.mk (by kernel_rfl)
      | refine CallN.pure (by assumption) ?_
      | refine GuardK.splitDN (fun h => ?_) (fun h => ?_)
      | refine GuardK.splitD (fun h => ?_) (fun h => ?_)
      | refine CondE.splitDN (fun h => ?_) (fun h => ?_)
      | refine CondE.splitD (fun h => ?_) (fun h => ?_)
      | refine GuardK.splitN (fun h => ?_) (fun h => ?_)
      | refine GuardK.split (fun h => ?_) (fun h => ?_)
      | refine CondE.splitN (fun h => ?_) (fun h => ?_)
      | refine CondE.split (fun h => ?_) (fun h => ?_)
      | refine WeakK.id ?_
      | refine RoundK.next (by omega) ?_ ?_
      | exact trivial
      | simp only [*, go_sem, Nat.reduceAdd, Nat.reduceSub, Nat.reduceMul, Nat.reducePow, Nat.reduceEqDiff, Nat.reduceLT, Nat.reduceLeDiff, Nat.reduceBEq, Nat.reduceBNe, Int.reduceToNat, Int.reduceLT, Int.reduceLE, Int.reduceEq, Int.reduceBNe, Int.reduceBEq, Int.reduceAdd, Int.reduceSub, Int.reduceMul, Int.reduceNeg, ↓reduceIte])
  all_goals (unfold AcctV.same; simp_all)
theorem refAll_spec (ks : List Int) (hl : ks.length < 2 ^ 62) : Abs.Spec Tryd.prog 14 [] [.sl 1 (ints ks)] [.own 3 ((allL ks).map AcctV.cells)] (.ref 0) := by
  refine Abs.Spec.go (n := 51) (np := 1) (rs := [.tmp 2]) mixed Tryd.func14 rfl rfl rfl rfl rfl (by simp) (by simp) ?_
  simp only [go_sem, Nat.reduceAdd, Nat.reduceSub, Nat.reduceMul, Nat.reducePow, Nat.reduceEqDiff, Nat.reduceLT, Nat.reduceLeDiff, Nat.reduceBEq, Nat.reduceBNe, Int.reduceToNat, Int.reduceLT, Int.reduceLE, Int.reduceEq, Int.reduceBNe, Int.reduceBEq, Int.reduceAdd, Int.reduceSub, Int.reduceMul, Int.reduceNeg, ↓reduceIte]
  refine LoopK.count 6 [0] [] (fun j => [(3, .ref 800), (4, .int .i64 ((j : Int) + 1))]) (fun j => [(800, .own 3 ((allTo ks j).map AcctV.cells))]) (fun _ => True) (by simp only [go_sem, Nat.reduceAdd, Nat.reduceSub, Nat.reduceMul, Nat.reducePow, Nat.reduceEqDiff, Nat.reduceLT, Nat.reduceLeDiff, Nat.reduceBEq, Nat.reduceBNe, Int.reduceToNat, Int.reduceLT, Int.reduceLE, Int.reduceEq, Int.reduceBNe, Int.reduceBEq, Int.reduceAdd, Int.reduceSub, Int.reduceMul, Int.reduceNeg, ↓reduceIte] <;> exact rfl) (by simp only [go_sem, Nat.reduceAdd, Nat.reduceSub, Nat.reduceMul, Nat.reducePow, Nat.reduceEqDiff, Nat.reduceLT, Nat.reduceLeDiff, Nat.reduceBEq, Nat.reduceBNe, Int.reduceToNat, Int.reduceLT, Int.reduceLE, Int.reduceEq, Int.reduceBNe, Int.reduceBEq, Int.reduceAdd, Int.reduceSub, Int.reduceMul, Int.reduceNeg, ↓reduceIte] <;> exact rfl) trivial ?_ ?_
  · simp only [go_sem, Nat.reduceAdd, Nat.reduceSub, Nat.reduceMul, Nat.reducePow, Nat.reduceEqDiff, Nat.reduceLT, Nat.reduceLeDiff, Nat.reduceBEq, Nat.reduceBNe, Int.reduceToNat, Int.reduceLT, Int.reduceLE, Int.reduceEq, Int.reduceBNe, Int.reduceBEq, Int.reduceAdd, Int.reduceSub, Int.reduceMul, Int.reduceNeg, ↓reduceIte] <;> simp [allTo]
  · intro j hj _
    simp only [go_sem, Nat.reduceAdd, Nat.reduceSub, Nat.reduceMul, Nat.reducePow, Nat.reduceEqDiff, Nat.reduceLT, Nat.reduceLeDiff, Nat.reduceBEq, Nat.reduceBNe, Int.reduceToNat, Int.reduceLT, Int.reduceLE, Int.reduceEq, Int.reduceBNe, Int.reduceBEq, Int.reduceAdd, Int.reduceSub, Int.reduceMul, Int.reduceNeg, ↓reduceIte]
    refine CondE.splitD (fun h => ?_) (fun h => ?_)
    · have hj' : j < 6 := by omega
      simp only [go_sem, Nat.reduceAdd, Nat.reduceSub, Nat.reduceMul, Nat.reducePow, Nat.reduceEqDiff, Nat.reduceLT, Nat.reduceLeDiff, Nat.reduceBEq, Nat.reduceBNe, Int.reduceToNat, Int.reduceLT, Int.reduceLE, Int.reduceEq, Int.reduceBNe, Int.reduceBEq, Int.reduceAdd, Int.reduceSub, Int.reduceMul, Int.reduceNeg, ↓reduceIte, ints_len]
      refine LoopK.count ks.length [0, 3, 4] [800] (fun i => [(5, .bool (asked (ks.take i) (j + 1))), (6, .int .i64 i)]) (fun i => []) (fun _ => True) (by simp only [go_sem, Nat.reduceAdd, Nat.reduceSub, Nat.reduceMul, Nat.reducePow, Nat.reduceEqDiff, Nat.reduceLT, Nat.reduceLeDiff, Nat.reduceBEq, Nat.reduceBNe, Int.reduceToNat, Int.reduceLT, Int.reduceLE, Int.reduceEq, Int.reduceBNe, Int.reduceBEq, Int.reduceAdd, Int.reduceSub, Int.reduceMul, Int.reduceNeg, ↓reduceIte] <;> exact rfl) (by simp only [go_sem, Nat.reduceAdd, Nat.reduceSub, Nat.reduceMul, Nat.reducePow, Nat.reduceEqDiff, Nat.reduceLT, Nat.reduceLeDiff, Nat.reduceBEq, Nat.reduceBNe, Int.reduceToNat, Int.reduceLT, Int.reduceLE, Int.reduceEq, Int.reduceBNe, Int.reduceBEq, Int.reduceAdd, Int.reduceSub, Int.reduceMul, Int.reduceNeg, ↓reduceIte] <;> exact rfl) trivial ?_ ?_
      · simp only [go_sem, Nat.reduceAdd, Nat.reduceSub, Nat.reduceMul, Nat.reducePow, Nat.reduceEqDiff, Nat.reduceLT, Nat.reduceLeDiff, Nat.reduceBEq, Nat.reduceBNe, Int.reduceToNat, Int.reduceLT, Int.reduceLE, Int.reduceEq, Int.reduceBNe, Int.reduceBEq, Int.reduceAdd, Int.reduceSub, Int.reduceMul, Int.reduceNeg, ↓reduceIte] <;> simp [asked]
      · intro i hi _
        simp only [go_sem, Nat.reduceAdd, Nat.reduceSub, Nat.reduceMul, Nat.reducePow, Nat.reduceEqDiff, Nat.reduceLT, Nat.reduceLeDiff, Nat.reduceBEq, Nat.reduceBNe, Int.reduceToNat, Int.reduceLT, Int.reduceLE, Int.reduceEq, Int.reduceBNe, Int.reduceBEq, Int.reduceAdd, Int.reduceSub, Int.reduceMul, Int.reduceNeg, ↓reduceIte]
        refine CondE.splitD (fun h => ?_) (fun h => ?_)
        · have hi' : i < ks.length := by omega
          simp only [go_sem, Nat.reduceAdd, Nat.reduceSub, Nat.reduceMul, Nat.reducePow, Nat.reduceEqDiff, Nat.reduceLT, Nat.reduceLeDiff, Nat.reduceBEq, Nat.reduceBNe, Int.reduceToNat, Int.reduceLT, Int.reduceLE, Int.reduceEq, Int.reduceBNe, Int.reduceBEq, Int.reduceAdd, Int.reduceSub, Int.reduceMul, Int.reduceNeg, ↓reduceIte, ints_len, ints_at ks hi']
          have hw : IntKind.wrap .i64 ((i : Int) + 1) = ((i + 1 : Nat) : Int) := by rw [wrap64 (by omega) (by omega)]; omega
          have ha := asked_step ks (j + 1) hi'
          repeat' (with_reducible first
              | refine And.intro ?_ ?_
              | exact DrawN.mk (by kernel_rfl)
              | exact OkN.mk (by kernel_rfl)
              | refine CallN.pure (by assumption) ?_
              | refine GuardK.splitDN (fun h => ?_) (fun h => ?_)
              | refine GuardK.splitD (fun h => ?_) (fun h => ?_)
              | refine CondE.splitDN (fun h => ?_) (fun h => ?_)
              | refine CondE.splitD (fun h => ?_) (fun h => ?_)
              | refine GuardK.splitN (fun h => ?_) (fun h => ?_)
              | refine GuardK.split (fun h => ?_) (fun h => ?_)
              | refine CondE.splitN (fun h => ?_) (fun h => ?_)
              | refine CondE.split (fun h => ?_) (fun h => ?_)
              | refine WeakK.id ?_
              | refine RoundK.next (by omega) ?_ ?_
              | exact trivial
              | simp only [*, go_sem, Nat.reduceAdd, Nat.reduceSub, Nat.reduceMul, Nat.reducePow, Nat.reduceEqDiff, Nat.reduceLT, Nat.reduceLeDiff, Nat.reduceBEq, Nat.reduceBNe, Int.reduceToNat, Int.reduceLT, Int.reduceLE, Int.reduceEq, Int.reduceBNe, Int.reduceBEq, Int.reduceAdd, Int.reduceSub, Int.reduceMul, Int.reduceNeg, ↓reduceIte, ints_at ks hi'])
        · have hi' : i = ks.length := by omega
          subst hi'
          simp only [go_sem, Nat.reduceAdd, Nat.reduceSub, Nat.reduceMul, Nat.reducePow, Nat.reduceEqDiff, Nat.reduceLT, Nat.reduceLeDiff, Nat.reduceBEq, Nat.reduceBNe, Int.reduceToNat, Int.reduceLT, Int.reduceLE, Int.reduceEq, Int.reduceBNe, Int.reduceBEq, Int.reduceAdd, Int.reduceSub, Int.reduceMul, Int.reduceNeg, ↓reduceIte, List.take_length]
          cases ha : asked ks ((j : Int) + 1)
          · refine LoopK.count 0 [0, 4, 5] [] (fun i => [(7, .int .i64 i), (3, .ref 800)]) (fun i => [(800, .own 3 ((allTo ks j).map AcctV.cells))]) (fun _ => True) (by simp only [go_sem, Nat.reduceAdd, Nat.reduceSub, Nat.reduceMul, Nat.reducePow, Nat.reduceEqDiff, Nat.reduceLT, Nat.reduceLeDiff, Nat.reduceBEq, Nat.reduceBNe, Int.reduceToNat, Int.reduceLT, Int.reduceLE, Int.reduceEq, Int.reduceBNe, Int.reduceBEq, Int.reduceAdd, Int.reduceSub, Int.reduceMul, Int.reduceNeg, ↓reduceIte] <;> exact rfl) (by simp only [go_sem, Nat.reduceAdd, Nat.reduceSub, Nat.reduceMul, Nat.reducePow, Nat.reduceEqDiff, Nat.reduceLT, Nat.reduceLeDiff, Nat.reduceBEq, Nat.reduceBNe, Int.reduceToNat, Int.reduceLT, Int.reduceLE, Int.reduceEq, Int.reduceBNe, Int.reduceBEq, Int.reduceAdd, Int.reduceSub, Int.reduceMul, Int.reduceNeg, ↓reduceIte] <;> exact rfl) trivial ?_ ?_
            · simp only [go_sem, Nat.reduceAdd, Nat.reduceSub, Nat.reduceMul, Nat.reducePow, Nat.reduceEqDiff, Nat.reduceLT, Nat.reduceLeDiff, Nat.reduceBEq, Nat.reduceBNe, Int.reduceToNat, Int.reduceLT, Int.reduceLE, Int.reduceEq, Int.reduceBNe, Int.reduceBEq, Int.reduceAdd, Int.reduceSub, Int.reduceMul, Int.reduceNeg, ↓reduceIte] <;> simp
            · intro w hw _
              simp only [go_sem, Nat.reduceAdd, Nat.reduceSub, Nat.reduceMul, Nat.reducePow, Nat.reduceEqDiff, Nat.reduceLT, Nat.reduceLeDiff, Nat.reduceBEq, Nat.reduceBNe, Int.reduceToNat, Int.reduceLT, Int.reduceLE, Int.reduceEq, Int.reduceBNe, Int.reduceBEq, Int.reduceAdd, Int.reduceSub, Int.reduceMul, Int.reduceNeg, ↓reduceIte]
              have : allTo ks (j + 1) = allTo ks j := by simp [allTo, ha]
              have hw : IntKind.wrap .i64 ((j : Int) + 1 + 1) = ((j + 1 : Nat) : Int) + 1 := by rw [wrap64 (by omega) (by omega)]; omega
              repeat' (with_reducible first
                  | refine And.intro ?_ ?_
                  | exact DrawN.mk (by kernel_rfl)
                  | exact OkN.mk (by kernel_rfl)
                  | refine CallN.pure (by assumption) ?_
                  | refine GuardK.splitDN (fun h => ?_) (fun h => ?_)
                  | refine GuardK.splitD (fun h => ?_) (fun h => ?_)
                  | refine CondE.splitDN (fun h => ?_) (fun h => ?_)
                  | refine CondE.splitD (fun h => ?_) (fun h => ?_)
                  | refine GuardK.splitN (fun h => ?_) (fun h => ?_)
                  | refine GuardK.split (fun h => ?_) (fun h => ?_)
                  | refine CondE.splitN (fun h => ?_) (fun h => ?_)
                  | refine CondE.split (fun h => ?_) (fun h => ?_)
                  | refine WeakK.id ?_
                  | refine RoundK.next (by omega) ?_ ?_
                  | exact trivial
                  | simp only [*, go_sem, Nat.reduceAdd, Nat.reduceSub, Nat.reduceMul, Nat.reducePow, Nat.reduceEqDiff, Nat.reduceLT, Nat.reduceLeDiff, Nat.reduceBEq, Nat.reduceBNe, Int.reduceToNat, Int.reduceLT, Int.reduceLE, Int.reduceEq, Int.reduceBNe, Int.reduceBEq, Int.reduceAdd, Int.reduceSub, Int.reduceMul, Int.reduceNeg, ↓reduceIte])
          · refine LoopK.count 17 [0, 4, 5] [] (fun i => [(7, .int .i64 i), (3, .ref 800)]) (fun i => [(800, .own 3 ((allTo ks j ++ acctsK (j + 1) i).map AcctV.cells))]) (fun _ => True) (by simp only [go_sem, Nat.reduceAdd, Nat.reduceSub, Nat.reduceMul, Nat.reducePow, Nat.reduceEqDiff, Nat.reduceLT, Nat.reduceLeDiff, Nat.reduceBEq, Nat.reduceBNe, Int.reduceToNat, Int.reduceLT, Int.reduceLE, Int.reduceEq, Int.reduceBNe, Int.reduceBEq, Int.reduceAdd, Int.reduceSub, Int.reduceMul, Int.reduceNeg, ↓reduceIte] <;> exact rfl) (by simp only [go_sem, Nat.reduceAdd, Nat.reduceSub, Nat.reduceMul, Nat.reducePow, Nat.reduceEqDiff, Nat.reduceLT, Nat.reduceLeDiff, Nat.reduceBEq, Nat.reduceBNe, Int.reduceToNat, Int.reduceLT, Int.reduceLE, Int.reduceEq, Int.reduceBNe, Int.reduceBEq, Int.reduceAdd, Int.reduceSub, Int.reduceMul, Int.reduceNeg, ↓reduceIte] <;> exact rfl) trivial ?_ ?_
            · simp only [go_sem, Nat.reduceAdd, Nat.reduceSub, Nat.reduceMul, Nat.reducePow, Nat.reduceEqDiff, Nat.reduceLT, Nat.reduceLeDiff, Nat.reduceBEq, Nat.reduceBNe, Int.reduceToNat, Int.reduceLT, Int.reduceLE, Int.reduceEq, Int.reduceBNe, Int.reduceBEq, Int.reduceAdd, Int.reduceSub, Int.reduceMul, Int.reduceNeg, ↓reduceIte] <;> simp [acctsK]
            · intro w hw _
              simp only [go_sem, Nat.reduceAdd, Nat.reduceSub, Nat.reduceMul, Nat.reducePow, Nat.reduceEqDiff, Nat.reduceLT, Nat.reduceLeDiff, Nat.reduceBEq, Nat.reduceBNe, Int.reduceToNat, Int.reduceLT, Int.reduceLE, Int.reduceEq, Int.reduceBNe, Int.reduceBEq, Int.reduceAdd, Int.reduceSub, Int.reduceMul, Int.reduceNeg, ↓reduceIte]
              refine GuardK.splitD (fun h => ?_) (fun h => ?_)
              · have hd : decide ((w : Int) ≤ 16) = true := by simpa using h
                simp only [go_sem, Nat.reduceAdd, Nat.reduceSub, Nat.reduceMul, Nat.reducePow, Nat.reduceEqDiff, Nat.reduceLT, Nat.reduceLeDiff, Nat.reduceBEq, Nat.reduceBNe, Int.reduceToNat, Int.reduceLT, Int.reduceLE, Int.reduceEq, Int.reduceBNe, Int.reduceBEq, Int.reduceAdd, Int.reduceSub, Int.reduceMul, Int.reduceNeg, ↓reduceIte, hd]
                refine LoopK.count 3 [0, 4, 5, 7] [] (fun i => [(8, .int .i64 i), (3, .ref 800)]) (fun i => [(800, .own 3 ((allTo ks j ++ acctsK (j + 1) w ++ acctsW (j + 1) w i).map AcctV.cells))]) (fun _ => True) (by simp only [go_sem, Nat.reduceAdd, Nat.reduceSub, Nat.reduceMul, Nat.reducePow, Nat.reduceEqDiff, Nat.reduceLT, Nat.reduceLeDiff, Nat.reduceBEq, Nat.reduceBNe, Int.reduceToNat, Int.reduceLT, Int.reduceLE, Int.reduceEq, Int.reduceBNe, Int.reduceBEq, Int.reduceAdd, Int.reduceSub, Int.reduceMul, Int.reduceNeg, ↓reduceIte] <;> exact rfl) (by simp only [go_sem, Nat.reduceAdd, Nat.reduceSub, Nat.reduceMul, Nat.reducePow, Nat.reduceEqDiff, Nat.reduceLT, Nat.reduceLeDiff, Nat.reduceBEq, Nat.reduceBNe, Int.reduceToNat, Int.reduceLT, Int.reduceLE, Int.reduceEq, Int.reduceBNe, Int.reduceBEq, Int.reduceAdd, Int.reduceSub, Int.reduceMul, Int.reduceNeg, ↓reduceIte] <;> exact rfl) trivial ?_ ?_
                · simp only [go_sem, Nat.reduceAdd, Nat.reduceSub, Nat.reduceMul, Nat.reducePow, Nat.reduceEqDiff, Nat.reduceLT, Nat.reduceLeDiff, Nat.reduceBEq, Nat.reduceBNe, Int.reduceToNat, Int.reduceLT, Int.reduceLE, Int.reduceEq, Int.reduceBNe, Int.reduceBEq, Int.reduceAdd, Int.reduceSub, Int.reduceMul, Int.reduceNeg, ↓reduceIte] <;> simp [acctsW]
                · intro c hc _
                  have hr := refRight_spec ⟨j + 1, w, c⟩
                  simp only [AcctV.cells] at hr
                  have e1 : acctsW (j + 1) w (c + 1) = acctsW (j + 1) w c ++ if AcctV.right ⟨j + 1, w, c⟩ then [⟨j + 1, w, c⟩] else [] := rfl
                  have e2 : acctsK (j + 1) (w + 1) = acctsK (j + 1) w ++ acctsW (j + 1) w 3 := rfl
                  have hw2 : IntKind.wrap .i64 ((c : Int) + 1) = ((c + 1 : Nat) : Int) := by rw [wrap64 (by omega) (by omega)]; omega
                  have hw3 : IntKind.wrap .i64 ((w : Int) + 1) = ((w + 1 : Nat) : Int) := by rw [wrap64 (by omega) (by omega)]; omega
                  have hlen : (allTo ks j ++ acctsK (j + 1) w ++ acctsW (j + 1) w c).length ≤ 1000 := by
                    have := allTo_len ks j; have := acctsK_len (j + 1) w; have := acctsW_len (j + 1) w c
                    simp only [List.length_append]; omega
                  simp only [go_sem, Nat.reduceAdd, Nat.reduceSub, Nat.reduceMul, Nat.reducePow, Nat.reduceEqDiff, Nat.reduceLT, Nat.reduceLeDiff, Nat.reduceBEq, Nat.reduceBNe, Int.reduceToNat, Int.reduceLT, Int.reduceLE, Int.reduceEq, Int.reduceBNe, Int.reduceBEq, Int.reduceAdd, Int.reduceSub, Int.reduceMul, Int.reduceNeg, ↓reduceIte]
                  repeat' (with_reducible first
                      | refine And.intro ?_ ?_
                      | exact DrawN.mk (by kernel_rfl)
                      | exact OkN.mk (by kernel_rfl)
                      | refine CallN.pure (by assumption) ?_
                      | refine CallN.pure (hr) ?_
                      | refine GuardK.splitDN (fun h => ?_) (fun h => ?_)
                      | refine GuardK.splitD (fun h => ?_) (fun h => ?_)
                      | refine CondE.splitDN (fun h => ?_) (fun h => ?_)
                      | refine CondE.splitD (fun h => ?_) (fun h => ?_)
                      | refine GuardK.splitN (fun h => ?_) (fun h => ?_)
                      | refine GuardK.split (fun h => ?_) (fun h => ?_)
                      | refine CondE.splitN (fun h => ?_) (fun h => ?_)
                      | refine CondE.split (fun h => ?_) (fun h => ?_)
                      | refine WeakK.id ?_
                      | refine RoundK.next (by omega) ?_ ?_
                      | exact trivial
                      | simp only [*, go_sem, Nat.reduceAdd, Nat.reduceSub, Nat.reduceMul, Nat.reducePow, Nat.reduceEqDiff, Nat.reduceLT, Nat.reduceLeDiff, Nat.reduceBEq, Nat.reduceBNe, Int.reduceToNat, Int.reduceLT, Int.reduceLE, Int.reduceEq, Int.reduceBNe, Int.reduceBEq, Int.reduceAdd, Int.reduceSub, Int.reduceMul, Int.reduceNeg, ↓reduceIte])
                  all_goals first
                    | (simp only [List.length_map, List.length_append] at hlen ⊢; omega)
                    | (simp [List.append_assoc]; done)
                    | (obtain rfl : c = 3 := by omega
                       simp [List.append_assoc])
              · obtain rfl : w = 17 := by omega
                have e3 : allTo ks (j + 1) = allTo ks j ++ acctsK (j + 1) 17 := by simp [allTo, ha]
                have hw : IntKind.wrap .i64 ((j : Int) + 1 + 1) = ((j + 1 : Nat) : Int) + 1 := by rw [wrap64 (by omega) (by omega)]; omega
                repeat' (with_reducible first
                    | refine And.intro ?_ ?_
                    | exact DrawN.mk (by kernel_rfl)
                    | exact OkN.mk (by kernel_rfl)
                    | refine CallN.pure (by assumption) ?_
                    | refine GuardK.splitDN (fun h => ?_) (fun h => ?_)
                    | refine GuardK.splitD (fun h => ?_) (fun h => ?_)
                    | refine CondE.splitDN (fun h => ?_) (fun h => ?_)
                    | refine CondE.splitD (fun h => ?_) (fun h => ?_)
                    | refine GuardK.splitN (fun h => ?_) (fun h => ?_)
                    | refine GuardK.split (fun h => ?_) (fun h => ?_)
                    | refine CondE.splitN (fun h => ?_) (fun h => ?_)
                    | refine CondE.split (fun h => ?_) (fun h => ?_)
                    | refine WeakK.id ?_
                    | refine RoundK.next (by omega) ?_ ?_
                    | exact trivial
                    | simp only [*, go_sem, Nat.reduceAdd, Nat.reduceSub, Nat.reduceMul, Nat.reducePow, Nat.reduceEqDiff, Nat.reduceLT, Nat.reduceLeDiff, Nat.reduceBEq, Nat.reduceBNe, Int.reduceToNat, Int.reduceLT, Int.reduceLE, Int.reduceEq, Int.reduceBNe, Int.reduceBEq, Int.reduceAdd, Int.reduceSub, Int.reduceMul, Int.reduceNeg, ↓reduceIte])
    · obtain rfl : j = 6 := by omega
      simp only [go_sem, Nat.reduceAdd, Nat.reduceSub, Nat.reduceMul, Nat.reducePow, Nat.reduceEqDiff, Nat.reduceLT, Nat.reduceLeDiff, Nat.reduceBEq, Nat.reduceBNe, Int.reduceToNat, Int.reduceLT, Int.reduceLE, Int.reduceEq, Int.reduceBNe, Int.reduceBEq, Int.reduceAdd, Int.reduceSub, Int.reduceMul, Int.reduceNeg, ↓reduceIte]
      simp [allL]
theorem map_at {A : Type} {c : A → List D} (xs : List A) {i : Nat} (h : i < xs.length) : (xs.map c).getD i [] = c xs[i] := by simp [h]
def acctsSame (xs ys : List AcctV) : Bool := xs.length == ys.length && (List.range xs.length).all fun i => match xs[i]?, ys[i]? with
  | some x, some y => x.same y
  | _, _ => true
theorem keepAccts_spec (xs ys : List AcctV) (hx : xs.length < 2 ^ 62) (hy : ys.length < 2 ^ 62) : Abs.Spec Tryd.prog 13 [] [.sl 3 (xs.map AcctV.cells), .sl 3 (ys.map AcctV.cells)] [] (.bool (acctsSame xs ys)) := by
  refine Abs.Spec.go (n := 27) (np := 2) (rs := [.tmp 4]) mixed Tryd.func13 rfl rfl rfl rfl rfl (by simp) (by simp) ?_
  simp only [go_sem, Nat.reduceAdd, Nat.reduceSub, Nat.reduceMul, Nat.reducePow, Nat.reduceEqDiff, Nat.reduceLT, Nat.reduceLeDiff, Nat.reduceBEq, Nat.reduceBNe, Int.reduceToNat, Int.reduceLT, Int.reduceLE, Int.reduceEq, Int.reduceBNe, Int.reduceBEq, Int.reduceAdd, Int.reduceSub, Int.reduceMul, Int.reduceNeg, ↓reduceIte, List.length_map]
  refine CondE.split (fun h => ?_) (fun h => ?_)
  · simp only [go_sem, Nat.reduceAdd, Nat.reduceSub, Nat.reduceMul, Nat.reducePow, Nat.reduceEqDiff, Nat.reduceLT, Nat.reduceLeDiff, Nat.reduceBEq, Nat.reduceBNe, Int.reduceToNat, Int.reduceLT, Int.reduceLE, Int.reduceEq, Int.reduceBNe, Int.reduceBEq, Int.reduceAdd, Int.reduceSub, Int.reduceMul, Int.reduceNeg, ↓reduceIte]
    have : ¬ xs.length = ys.length := by simp at h; omega
    simp [acctsSame, this]
  · have hl : xs.length = ys.length := by simp at h; omega
    simp only [go_sem, Nat.reduceAdd, Nat.reduceSub, Nat.reduceMul, Nat.reducePow, Nat.reduceEqDiff, Nat.reduceLT, Nat.reduceLeDiff, Nat.reduceBEq, Nat.reduceBNe, Int.reduceToNat, Int.reduceLT, Int.reduceLE, Int.reduceEq, Int.reduceBNe, Int.reduceBEq, Int.reduceAdd, Int.reduceSub, Int.reduceMul, Int.reduceNeg, ↓reduceIte]
    refine LoopK.count xs.length [0, 1] [] (fun i => [(5, .int .i64 i)]) (fun i => []) (fun i => ∀ j, j < i → ∀ x y, xs[j]? = some x → ys[j]? = some y → x.same y = true) (by simp only [go_sem, Nat.reduceAdd, Nat.reduceSub, Nat.reduceMul, Nat.reducePow, Nat.reduceEqDiff, Nat.reduceLT, Nat.reduceLeDiff, Nat.reduceBEq, Nat.reduceBNe, Int.reduceToNat, Int.reduceLT, Int.reduceLE, Int.reduceEq, Int.reduceBNe, Int.reduceBEq, Int.reduceAdd, Int.reduceSub, Int.reduceMul, Int.reduceNeg, ↓reduceIte] <;> exact rfl) (by simp only [go_sem, Nat.reduceAdd, Nat.reduceSub, Nat.reduceMul, Nat.reducePow, Nat.reduceEqDiff, Nat.reduceLT, Nat.reduceLeDiff, Nat.reduceBEq, Nat.reduceBNe, Int.reduceToNat, Int.reduceLT, Int.reduceLE, Int.reduceEq, Int.reduceBNe, Int.reduceBEq, Int.reduceAdd, Int.reduceSub, Int.reduceMul, Int.reduceNeg, ↓reduceIte] <;> exact rfl) (by intro j hj; omega) ?_ ?_
    · simp only [go_sem, Nat.reduceAdd, Nat.reduceSub, Nat.reduceMul, Nat.reducePow, Nat.reduceEqDiff, Nat.reduceLT, Nat.reduceLeDiff, Nat.reduceBEq, Nat.reduceBNe, Int.reduceToNat, Int.reduceLT, Int.reduceLE, Int.reduceEq, Int.reduceBNe, Int.reduceBEq, Int.reduceAdd, Int.reduceSub, Int.reduceMul, Int.reduceNeg, ↓reduceIte] <;> simp
    · intro i hi hI
      simp only [go_sem, Nat.reduceAdd, Nat.reduceSub, Nat.reduceMul, Nat.reducePow, Nat.reduceEqDiff, Nat.reduceLT, Nat.reduceLeDiff, Nat.reduceBEq, Nat.reduceBNe, Int.reduceToNat, Int.reduceLT, Int.reduceLE, Int.reduceEq, Int.reduceBNe, Int.reduceBEq, Int.reduceAdd, Int.reduceSub, Int.reduceMul, Int.reduceNeg, ↓reduceIte, List.length_map]
      refine CondE.splitD (fun h => ?_) (fun h => ?_)
      · have h1 : i < xs.length := by omega
        have h2 : i < ys.length := by omega
        have hw : IntKind.wrap .i64 ((i : Int) + 1) = ((i + 1 : Nat) : Int) := by rw [wrap64 (by omega) (by omega)]; omega
        have hs := keepAcct_spec xs[i] ys[i]
        simp only [AcctV.cells] at hs
        simp only [go_sem, Nat.reduceAdd, Nat.reduceSub, Nat.reduceMul, Nat.reducePow, Nat.reduceEqDiff, Nat.reduceLT, Nat.reduceLeDiff, Nat.reduceBEq, Nat.reduceBNe, Int.reduceToNat, Int.reduceLT, Int.reduceLE, Int.reduceEq, Int.reduceBNe, Int.reduceBEq, Int.reduceAdd, Int.reduceSub, Int.reduceMul, Int.reduceNeg, ↓reduceIte, List.length_map, map_at xs h1, map_at ys h2, AcctV.cells]
        repeat' (with_reducible first
            | refine And.intro ?_ ?_
            | exact DrawN.mk (by kernel_rfl)
            | exact OkN.mk (by kernel_rfl)
            | refine CallN.pure (by assumption) ?_
            | refine CallN.pure (hs) ?_
            | refine GuardK.splitDN (fun h => ?_) (fun h => ?_)
            | refine GuardK.splitD (fun h => ?_) (fun h => ?_)
            | refine CondE.splitDN (fun h => ?_) (fun h => ?_)
            | refine CondE.splitD (fun h => ?_) (fun h => ?_)
            | refine GuardK.splitN (fun h => ?_) (fun h => ?_)
            | refine GuardK.split (fun h => ?_) (fun h => ?_)
            | refine CondE.splitN (fun h => ?_) (fun h => ?_)
            | refine CondE.split (fun h => ?_) (fun h => ?_)
            | refine WeakK.id ?_
            | refine RoundK.next (by omega) ?_ ?_
            | exact trivial
            | simp only [*, go_sem, Nat.reduceAdd, Nat.reduceSub, Nat.reduceMul, Nat.reducePow, Nat.reduceEqDiff, Nat.reduceLT, Nat.reduceLeDiff, Nat.reduceBEq, Nat.reduceBNe, Int.reduceToNat, Int.reduceLT, Int.reduceLE, Int.reduceEq, Int.reduceBNe, Int.reduceBEq, Int.reduceAdd, Int.reduceSub, Int.reduceMul, Int.reduceNeg, ↓reduceIte, List.length_map, map_at ys h2])
        all_goals (try omega)
        · symm
          simp only [acctsSame, Bool.and_eq_false_iff, List.all_eq_false]
          right
          refine ⟨i, by simpa using h1, ?_⟩
          simp [h1, h2, h]
        · intro j hj x y hx hy
          by_cases hji : j = i
          · subst hji
            simp [h1] at hx; simp [h2] at hy
            subst hx; subst hy; exact h
          · exact hI j (by omega) x y hx hy
      · obtain rfl : i = xs.length := by omega
        simp only [go_sem, Nat.reduceAdd, Nat.reduceSub, Nat.reduceMul, Nat.reducePow, Nat.reduceEqDiff, Nat.reduceLT, Nat.reduceLeDiff, Nat.reduceBEq, Nat.reduceBNe, Int.reduceToNat, Int.reduceLT, Int.reduceLE, Int.reduceEq, Int.reduceBNe, Int.reduceBEq, Int.reduceAdd, Int.reduceSub, Int.reduceMul, Int.reduceNeg, ↓reduceIte]
        symm
        simp only [acctsSame, Bool.and_eq_true, List.all_eq_true, beq_iff_eq]
        refine ⟨hl, fun j hj => ?_⟩
        have hj : j < xs.length := by simpa using hj
        have h2 : j < ys.length := by omega
        simp only [List.getElem?_eq_getElem hj, List.getElem?_eq_getElem h2]
        exact hI j hj _ _ (by simp [hj]) (by simp [h2])
end Go.Proofs.YthgplioeefjbfaaDoor
