/- All accounts of kinds; no theorem of a claim. -/
import Derived.Test.YthgplioeefjbfaaDoorA4
import Derived.Test.YthgplioeefjbfaaDoorAbcLoop
set_option linter.unusedSimpArgs false
set_option linter.unusedVariables false
namespace Go.Proofs.YthgplioeefjbfaaDoor
open Go.Abs
def ints (xs : List Int) : List (List D) := xs.map fun x => [.int .i64 x]
@[go_sem] theorem ints_len (xs : List Int) : (ints xs).length = xs.length := by simp [ints]
theorem ints_at (xs : List Int) {i : Nat} (h : i < xs.length) : (ints xs).getD i [] = [.int .i64 xs[i]] := by simp [ints, h]
def acctsW (k w : Int) : Nat → List AcctV
  | 0 => []
  | n + 1 => acctsW k w n ++ if AcctV.right ⟨k, w, n⟩ then [⟨k, w, n⟩] else []
def acctsK (k : Int) : Nat → List AcctV
  | 0 => []
  | n + 1 => acctsK k n ++ acctsW k n 3
def asked (ks : List Int) (k : Int) : Bool := ks.any (· == k)
def allTo (ks : List Int) : Nat → List AcctV
  | 0 => []
  | n + 1 => allTo ks n ++ if asked ks (n + 1) then acctsK (n + 1) 17 else []
def allL (ks : List Int) : List AcctV := allTo ks 6
theorem acctsW_len (k w : Int) : ∀ n : Nat, (acctsW k w n).length ≤ n
  | 0 => by simp [acctsW]
  | n + 1 => by have := acctsW_len k w n; simp only [acctsW, List.length_append]; split <;> simp <;> omega
theorem acctsK_len (k : Int) : ∀ n : Nat, (acctsK k n).length ≤ 3 * n
  | 0 => by simp [acctsK]
  | n + 1 => by have := acctsK_len k n; have := acctsW_len k n 3; simp only [acctsK, List.length_append]; omega
theorem allTo_len (ks : List Int) : ∀ n : Nat, (allTo ks n).length ≤ 51 * n
  | 0 => by simp [allTo]
  | n + 1 => by have := allTo_len ks n; have := acctsK_len (n + 1) 17; simp only [allTo, List.length_append]; split <;> simp <;> omega
theorem asked_step (ks : List Int) (k : Int) {i : Nat} (h : i < ks.length) : asked (ks.take (i + 1)) k = (asked (ks.take i) k || ks[i] == k) := by
  rw [asked, List.take_succ_eq_append_getElem h, List.any_append]; simp [asked]
theorem all_spec (ks : List Int) (hl : ks.length < 2 ^ 62) : Abs.Spec Tryd.prog 12 [] [.sl 1 (ints ks)] [.own 3 ((allL ks).map AcctV.cells)] (.ref 0) := by
  refine Abs.Spec.go (n := 50) (np := 1) (rs := [.tmp 2]) mixed Tryd.func12 rfl rfl rfl rfl rfl (by simp) (by simp) ?_
  simp only [go_sem, Nat.reduceAdd, Nat.reduceSub, Nat.reduceMul, Nat.reducePow, Nat.reduceEqDiff, Nat.reduceLT, Nat.reduceLeDiff, Nat.reduceBEq, Nat.reduceBNe, Int.reduceToNat, Int.reduceLT, Int.reduceLE, Int.reduceEq, Int.reduceBNe, Int.reduceBEq, Int.reduceAdd, Int.reduceSub, Int.reduceMul, Int.reduceNeg, ↓reduceIte]
  refine LoopK.count 6 [0] [] (fun j => [(3, .ref 768), (4, .int .i64 ((j : Int) + 1))]) (fun j => [(768, .own 3 ((allTo ks j).map AcctV.cells))]) (fun _ => True) (by simp only [go_sem, Nat.reduceAdd, Nat.reduceSub, Nat.reduceMul, Nat.reducePow, Nat.reduceEqDiff, Nat.reduceLT, Nat.reduceLeDiff, Nat.reduceBEq, Nat.reduceBNe, Int.reduceToNat, Int.reduceLT, Int.reduceLE, Int.reduceEq, Int.reduceBNe, Int.reduceBEq, Int.reduceAdd, Int.reduceSub, Int.reduceMul, Int.reduceNeg, ↓reduceIte] <;> exact rfl) (by simp only [go_sem, Nat.reduceAdd, Nat.reduceSub, Nat.reduceMul, Nat.reducePow, Nat.reduceEqDiff, Nat.reduceLT, Nat.reduceLeDiff, Nat.reduceBEq, Nat.reduceBNe, Int.reduceToNat, Int.reduceLT, Int.reduceLE, Int.reduceEq, Int.reduceBNe, Int.reduceBEq, Int.reduceAdd, Int.reduceSub, Int.reduceMul, Int.reduceNeg, ↓reduceIte] <;> exact rfl) trivial ?_ ?_
  · simp only [go_sem, Nat.reduceAdd, Nat.reduceSub, Nat.reduceMul, Nat.reducePow, Nat.reduceEqDiff, Nat.reduceLT, Nat.reduceLeDiff, Nat.reduceBEq, Nat.reduceBNe, Int.reduceToNat, Int.reduceLT, Int.reduceLE, Int.reduceEq, Int.reduceBNe, Int.reduceBEq, Int.reduceAdd, Int.reduceSub, Int.reduceMul, Int.reduceNeg, ↓reduceIte] <;> simp [allTo]
  · intro j hj _
    simp only [go_sem, Nat.reduceAdd, Nat.reduceSub, Nat.reduceMul, Nat.reducePow, Nat.reduceEqDiff, Nat.reduceLT, Nat.reduceLeDiff, Nat.reduceBEq, Nat.reduceBNe, Int.reduceToNat, Int.reduceLT, Int.reduceLE, Int.reduceEq, Int.reduceBNe, Int.reduceBEq, Int.reduceAdd, Int.reduceSub, Int.reduceMul, Int.reduceNeg, ↓reduceIte]
    refine CondE.splitD (fun h => ?_) (fun h => ?_)
    · have hj' : j < 6 := by omega
      simp only [go_sem, Nat.reduceAdd, Nat.reduceSub, Nat.reduceMul, Nat.reducePow, Nat.reduceEqDiff, Nat.reduceLT, Nat.reduceLeDiff, Nat.reduceBEq, Nat.reduceBNe, Int.reduceToNat, Int.reduceLT, Int.reduceLE, Int.reduceEq, Int.reduceBNe, Int.reduceBEq, Int.reduceAdd, Int.reduceSub, Int.reduceMul, Int.reduceNeg, ↓reduceIte, ints_len]
      refine LoopK.count ks.length [0, 3, 4, 15, 16] [272, 768] (fun i => [(5, .bool (asked (ks.take i) (j + 1))), (17, .int .i64 i)]) (fun i => []) (fun _ => True) (by simp only [go_sem, Nat.reduceAdd, Nat.reduceSub, Nat.reduceMul, Nat.reducePow, Nat.reduceEqDiff, Nat.reduceLT, Nat.reduceLeDiff, Nat.reduceBEq, Nat.reduceBNe, Int.reduceToNat, Int.reduceLT, Int.reduceLE, Int.reduceEq, Int.reduceBNe, Int.reduceBEq, Int.reduceAdd, Int.reduceSub, Int.reduceMul, Int.reduceNeg, ↓reduceIte] <;> exact rfl) (by simp only [go_sem, Nat.reduceAdd, Nat.reduceSub, Nat.reduceMul, Nat.reducePow, Nat.reduceEqDiff, Nat.reduceLT, Nat.reduceLeDiff, Nat.reduceBEq, Nat.reduceBNe, Int.reduceToNat, Int.reduceLT, Int.reduceLE, Int.reduceEq, Int.reduceBNe, Int.reduceBEq, Int.reduceAdd, Int.reduceSub, Int.reduceMul, Int.reduceNeg, ↓reduceIte] <;> exact rfl) trivial ?_ ?_
      · simp only [go_sem, Nat.reduceAdd, Nat.reduceSub, Nat.reduceMul, Nat.reducePow, Nat.reduceEqDiff, Nat.reduceLT, Nat.reduceLeDiff, Nat.reduceBEq, Nat.reduceBNe, Int.reduceToNat, Int.reduceLT, Int.reduceLE, Int.reduceEq, Int.reduceBNe, Int.reduceBEq, Int.reduceAdd, Int.reduceSub, Int.reduceMul, Int.reduceNeg, ↓reduceIte] <;> simp [asked]
      · intro i hi _
        simp only [go_sem, Nat.reduceAdd, Nat.reduceSub, Nat.reduceMul, Nat.reducePow, Nat.reduceEqDiff, Nat.reduceLT, Nat.reduceLeDiff, Nat.reduceBEq, Nat.reduceBNe, Int.reduceToNat, Int.reduceLT, Int.reduceLE, Int.reduceEq, Int.reduceBNe, Int.reduceBEq, Int.reduceAdd, Int.reduceSub, Int.reduceMul, Int.reduceNeg, ↓reduceIte]
        refine CondE.splitD (fun h => ?_) (fun h => ?_)
        · have hi' : i < ks.length := by omega
          simp only [go_sem, Nat.reduceAdd, Nat.reduceSub, Nat.reduceMul, Nat.reducePow, Nat.reduceEqDiff, Nat.reduceLT, Nat.reduceLeDiff, Nat.reduceBEq, Nat.reduceBNe, Int.reduceToNat, Int.reduceLT, Int.reduceLE, Int.reduceEq, Int.reduceBNe, Int.reduceBEq, Int.reduceAdd, Int.reduceSub, Int.reduceMul, Int.reduceNeg, ↓reduceIte, ints_len, ints_at ks hi']
          have hw : IntKind.wrap .i64 ((i : Int) + 1) = ((i + 1 : Nat) : Int) := by rw [wrap64 (by omega) (by omega)]; omega
          have ha := asked_step ks (j + 1) hi'
          repeat' (with_reducible first
              | refine And.intro ?_ ?_
              | exact DrawN.mk (by kernel_rfl)
              | exact OkN.mk (by kernel_rfl)
              | refine CallN.pure (by assumption) ?_
              | refine GuardK.splitDN (fun h => ?_) (fun h => ?_)
              | refine GuardK.splitD (fun h => ?_) (fun h => ?_)
              | refine CondE.splitDN (fun h => ?_) (fun h => ?_)
              | refine CondE.splitD (fun h => ?_) (fun h => ?_)
              | refine GuardK.splitN (fun h => ?_) (fun h => ?_)
              | refine GuardK.split (fun h => ?_) (fun h => ?_)
              | refine CondE.splitN (fun h => ?_) (fun h => ?_)
              | refine CondE.split (fun h => ?_) (fun h => ?_)
              | refine WeakK.id ?_
              | refine RoundK.next (by omega) ?_ ?_
              | exact trivial
              | simp only [*, go_sem, Nat.reduceAdd, Nat.reduceSub, Nat.reduceMul, Nat.reducePow, Nat.reduceEqDiff, Nat.reduceLT, Nat.reduceLeDiff, Nat.reduceBEq, Nat.reduceBNe, Int.reduceToNat, Int.reduceLT, Int.reduceLE, Int.reduceEq, Int.reduceBNe, Int.reduceBEq, Int.reduceAdd, Int.reduceSub, Int.reduceMul, Int.reduceNeg, ↓reduceIte])
        · have hi' : i = ks.length := by omega
          subst hi'
          simp only [go_sem, Nat.reduceAdd, Nat.reduceSub, Nat.reduceMul, Nat.reducePow, Nat.reduceEqDiff, Nat.reduceLT, Nat.reduceLeDiff, Nat.reduceBEq, Nat.reduceBNe, Int.reduceToNat, Int.reduceLT, Int.reduceLE, Int.reduceEq, Int.reduceBNe, Int.reduceBEq, Int.reduceAdd, Int.reduceSub, Int.reduceMul, Int.reduceNeg, ↓reduceIte, List.take_length]
          cases ha : asked ks ((j : Int) + 1)
          · refine LoopK.count 0 [0, 4, 5] [] (fun i => [(8, .int .i64 i), (3, .ref 768)]) (fun i => [(768, .own 3 ((allTo ks j).map AcctV.cells))]) (fun _ => True) (by simp only [go_sem, Nat.reduceAdd, Nat.reduceSub, Nat.reduceMul, Nat.reducePow, Nat.reduceEqDiff, Nat.reduceLT, Nat.reduceLeDiff, Nat.reduceBEq, Nat.reduceBNe, Int.reduceToNat, Int.reduceLT, Int.reduceLE, Int.reduceEq, Int.reduceBNe, Int.reduceBEq, Int.reduceAdd, Int.reduceSub, Int.reduceMul, Int.reduceNeg, ↓reduceIte] <;> exact rfl) (by simp only [go_sem, Nat.reduceAdd, Nat.reduceSub, Nat.reduceMul, Nat.reducePow, Nat.reduceEqDiff, Nat.reduceLT, Nat.reduceLeDiff, Nat.reduceBEq, Nat.reduceBNe, Int.reduceToNat, Int.reduceLT, Int.reduceLE, Int.reduceEq, Int.reduceBNe, Int.reduceBEq, Int.reduceAdd, Int.reduceSub, Int.reduceMul, Int.reduceNeg, ↓reduceIte] <;> exact rfl) trivial ?_ ?_
            · simp only [go_sem, Nat.reduceAdd, Nat.reduceSub, Nat.reduceMul, Nat.reducePow, Nat.reduceEqDiff, Nat.reduceLT, Nat.reduceLeDiff, Nat.reduceBEq, Nat.reduceBNe, Int.reduceToNat, Int.reduceLT, Int.reduceLE, Int.reduceEq, Int.reduceBNe, Int.reduceBEq, Int.reduceAdd, Int.reduceSub, Int.reduceMul, Int.reduceNeg, ↓reduceIte] <;> simp
            · intro w hw _
              simp only [go_sem, Nat.reduceAdd, Nat.reduceSub, Nat.reduceMul, Nat.reducePow, Nat.reduceEqDiff, Nat.reduceLT, Nat.reduceLeDiff, Nat.reduceBEq, Nat.reduceBNe, Int.reduceToNat, Int.reduceLT, Int.reduceLE, Int.reduceEq, Int.reduceBNe, Int.reduceBEq, Int.reduceAdd, Int.reduceSub, Int.reduceMul, Int.reduceNeg, ↓reduceIte]
              have : allTo ks (j + 1) = allTo ks j := by simp [allTo, ha]
              have hw : IntKind.wrap .i64 ((j : Int) + 1 + 1) = ((j + 1 : Nat) : Int) + 1 := by rw [wrap64 (by omega) (by omega)]; omega
              repeat' (with_reducible first
                  | refine And.intro ?_ ?_
                  | exact DrawN.mk (by kernel_rfl)
                  | exact OkN.mk (by kernel_rfl)
                  | refine CallN.pure (by assumption) ?_
                  | refine GuardK.splitDN (fun h => ?_) (fun h => ?_)
                  | refine GuardK.splitD (fun h => ?_) (fun h => ?_)
                  | refine CondE.splitDN (fun h => ?_) (fun h => ?_)
                  | refine CondE.splitD (fun h => ?_) (fun h => ?_)
                  | refine GuardK.splitN (fun h => ?_) (fun h => ?_)
                  | refine GuardK.split (fun h => ?_) (fun h => ?_)
                  | refine CondE.splitN (fun h => ?_) (fun h => ?_)
                  | refine CondE.split (fun h => ?_) (fun h => ?_)
                  | refine WeakK.id ?_
                  | refine RoundK.next (by omega) ?_ ?_
                  | exact trivial
                  | simp only [*, go_sem, Nat.reduceAdd, Nat.reduceSub, Nat.reduceMul, Nat.reducePow, Nat.reduceEqDiff, Nat.reduceLT, Nat.reduceLeDiff, Nat.reduceBEq, Nat.reduceBNe, Int.reduceToNat, Int.reduceLT, Int.reduceLE, Int.reduceEq, Int.reduceBNe, Int.reduceBEq, Int.reduceAdd, Int.reduceSub, Int.reduceMul, Int.reduceNeg, ↓reduceIte])
          · refine LoopK.count 17 [0, 4, 5] [] (fun i => [(8, .int .i64 i), (3, .ref 768)]) (fun i => [(768, .own 3 ((allTo ks j ++ acctsK (j + 1) i).map AcctV.cells))]) (fun _ => True) (by simp only [go_sem, Nat.reduceAdd, Nat.reduceSub, Nat.reduceMul, Nat.reducePow, Nat.reduceEqDiff, Nat.reduceLT, Nat.reduceLeDiff, Nat.reduceBEq, Nat.reduceBNe, Int.reduceToNat, Int.reduceLT, Int.reduceLE, Int.reduceEq, Int.reduceBNe, Int.reduceBEq, Int.reduceAdd, Int.reduceSub, Int.reduceMul, Int.reduceNeg, ↓reduceIte] <;> exact rfl) (by simp only [go_sem, Nat.reduceAdd, Nat.reduceSub, Nat.reduceMul, Nat.reducePow, Nat.reduceEqDiff, Nat.reduceLT, Nat.reduceLeDiff, Nat.reduceBEq, Nat.reduceBNe, Int.reduceToNat, Int.reduceLT, Int.reduceLE, Int.reduceEq, Int.reduceBNe, Int.reduceBEq, Int.reduceAdd, Int.reduceSub, Int.reduceMul, Int.reduceNeg, ↓reduceIte] <;> exact rfl) trivial ?_ ?_
            · simp only [go_sem, Nat.reduceAdd, Nat.reduceSub, Nat.reduceMul, Nat.reducePow, Nat.reduceEqDiff, Nat.reduceLT, Nat.reduceLeDiff, Nat.reduceBEq, Nat.reduceBNe, Int.reduceToNat, Int.reduceLT, Int.reduceLE, Int.reduceEq, Int.reduceBNe, Int.reduceBEq, Int.reduceAdd, Int.reduceSub, Int.reduceMul, Int.reduceNeg, ↓reduceIte] <;> simp [acctsK]
            · intro w hw _
              simp only [go_sem, Nat.reduceAdd, Nat.reduceSub, Nat.reduceMul, Nat.reducePow, Nat.reduceEqDiff, Nat.reduceLT, Nat.reduceLeDiff, Nat.reduceBEq, Nat.reduceBNe, Int.reduceToNat, Int.reduceLT, Int.reduceLE, Int.reduceEq, Int.reduceBNe, Int.reduceBEq, Int.reduceAdd, Int.reduceSub, Int.reduceMul, Int.reduceNeg, ↓reduceIte]
              refine CondE.splitD (fun h => ?_) (fun h => ?_)
              · simp only [go_sem, Nat.reduceAdd, Nat.reduceSub, Nat.reduceMul, Nat.reducePow, Nat.reduceEqDiff, Nat.reduceLT, Nat.reduceLeDiff, Nat.reduceBEq, Nat.reduceBNe, Int.reduceToNat, Int.reduceLT, Int.reduceLE, Int.reduceEq, Int.reduceBNe, Int.reduceBEq, Int.reduceAdd, Int.reduceSub, Int.reduceMul, Int.reduceNeg, ↓reduceIte]
                refine LoopK.count 3 [0, 4, 5, 8] [] (fun i => [(35, .int .i64 i), (3, .ref 768)]) (fun i => [(768, .own 3 ((allTo ks j ++ acctsK (j + 1) w ++ acctsW (j + 1) w i).map AcctV.cells))]) (fun _ => True) (by simp only [go_sem, Nat.reduceAdd, Nat.reduceSub, Nat.reduceMul, Nat.reducePow, Nat.reduceEqDiff, Nat.reduceLT, Nat.reduceLeDiff, Nat.reduceBEq, Nat.reduceBNe, Int.reduceToNat, Int.reduceLT, Int.reduceLE, Int.reduceEq, Int.reduceBNe, Int.reduceBEq, Int.reduceAdd, Int.reduceSub, Int.reduceMul, Int.reduceNeg, ↓reduceIte] <;> exact rfl) (by simp only [go_sem, Nat.reduceAdd, Nat.reduceSub, Nat.reduceMul, Nat.reducePow, Nat.reduceEqDiff, Nat.reduceLT, Nat.reduceLeDiff, Nat.reduceBEq, Nat.reduceBNe, Int.reduceToNat, Int.reduceLT, Int.reduceLE, Int.reduceEq, Int.reduceBNe, Int.reduceBEq, Int.reduceAdd, Int.reduceSub, Int.reduceMul, Int.reduceNeg, ↓reduceIte] <;> exact rfl) trivial ?_ ?_
                · simp only [go_sem, Nat.reduceAdd, Nat.reduceSub, Nat.reduceMul, Nat.reducePow, Nat.reduceEqDiff, Nat.reduceLT, Nat.reduceLeDiff, Nat.reduceBEq, Nat.reduceBNe, Int.reduceToNat, Int.reduceLT, Int.reduceLE, Int.reduceEq, Int.reduceBNe, Int.reduceBEq, Int.reduceAdd, Int.reduceSub, Int.reduceMul, Int.reduceNeg, ↓reduceIte] <;> simp [acctsW]
                · intro c hc _
                  have hr := right_spec ⟨j + 1, w, c⟩
                  simp only [AcctV.cells] at hr
                  have e1 : acctsW (j + 1) w (c + 1) = acctsW (j + 1) w c ++ if AcctV.right ⟨j + 1, w, c⟩ then [⟨j + 1, w, c⟩] else [] := rfl
                  have e2 : acctsK (j + 1) (w + 1) = acctsK (j + 1) w ++ acctsW (j + 1) w 3 := rfl
                  have hw2 : IntKind.wrap .i64 ((c : Int) + 1) = ((c + 1 : Nat) : Int) := by rw [wrap64 (by omega) (by omega)]; omega
                  have hw3 : IntKind.wrap .i64 ((w : Int) + 1) = ((w + 1 : Nat) : Int) := by rw [wrap64 (by omega) (by omega)]; omega
                  have hlen : (allTo ks j ++ acctsK (j + 1) w ++ acctsW (j + 1) w c).length ≤ 1000 := by
                    have := allTo_len ks j; have := acctsK_len (j + 1) w; have := acctsW_len (j + 1) w c
                    simp only [List.length_append]; omega
                  simp only [go_sem, Nat.reduceAdd, Nat.reduceSub, Nat.reduceMul, Nat.reducePow, Nat.reduceEqDiff, Nat.reduceLT, Nat.reduceLeDiff, Nat.reduceBEq, Nat.reduceBNe, Int.reduceToNat, Int.reduceLT, Int.reduceLE, Int.reduceEq, Int.reduceBNe, Int.reduceBEq, Int.reduceAdd, Int.reduceSub, Int.reduceMul, Int.reduceNeg, ↓reduceIte]
                  repeat' (with_reducible first
                      | refine And.intro ?_ ?_
                      | exact DrawN.mk (by kernel_rfl)
                      | exact OkN.mk (by kernel_rfl)
                      | refine CallN.pure (by assumption) ?_
                      | refine CallN.pure (hr) ?_
                      | refine GuardK.splitDN (fun h => ?_) (fun h => ?_)
                      | refine GuardK.splitD (fun h => ?_) (fun h => ?_)
                      | refine CondE.splitDN (fun h => ?_) (fun h => ?_)
                      | refine CondE.splitD (fun h => ?_) (fun h => ?_)
                      | refine GuardK.splitN (fun h => ?_) (fun h => ?_)
                      | refine GuardK.split (fun h => ?_) (fun h => ?_)
                      | refine CondE.splitN (fun h => ?_) (fun h => ?_)
                      | refine CondE.split (fun h => ?_) (fun h => ?_)
                      | refine WeakK.id ?_
                      | refine RoundK.next (by omega) ?_ ?_
                      | exact trivial
                      | simp only [*, go_sem, Nat.reduceAdd, Nat.reduceSub, Nat.reduceMul, Nat.reducePow, Nat.reduceEqDiff, Nat.reduceLT, Nat.reduceLeDiff, Nat.reduceBEq, Nat.reduceBNe, Int.reduceToNat, Int.reduceLT, Int.reduceLE, Int.reduceEq, Int.reduceBNe, Int.reduceBEq, Int.reduceAdd, Int.reduceSub, Int.reduceMul, Int.reduceNeg, ↓reduceIte])
                  all_goals first
                    | (simp only [List.length_map, List.length_append] at hlen ⊢; omega)
                    | (simp [List.append_assoc]; done)
                    | (obtain rfl : c = 3 := by omega
                       simp [List.append_assoc])
              · obtain rfl : w = 17 := by omega
                have e3 : allTo ks (j + 1) = allTo ks j ++ acctsK (j + 1) 17 := by simp [allTo, ha]
                have hw : IntKind.wrap .i64 ((j : Int) + 1 + 1) = ((j + 1 : Nat) : Int) + 1 := by rw [wrap64 (by omega) (by omega)]; omega
                repeat' (with_reducible first
                    | refine And.intro ?_ ?_
                    | exact DrawN.mk (by kernel_rfl)
                    | exact OkN.mk (by kernel_rfl)
                    | refine CallN.pure (by assumption) ?_
                    | refine GuardK.splitDN (fun h => ?_) (fun h => ?_)
                    | refine GuardK.splitD (fun h => ?_) (fun h => ?_)
                    | refine CondE.splitDN (fun h => ?_) (fun h => ?_)
                    | refine CondE.splitD (fun h => ?_) (fun h => ?_)
                    | refine GuardK.splitN (fun h => ?_) (fun h => ?_)
                    | refine GuardK.split (fun h => ?_) (fun h => ?_)
                    | refine CondE.splitN (fun h => ?_) (fun h => ?_)
                    | refine CondE.split (fun h => ?_) (fun h => ?_)
                    | refine WeakK.id ?_
                    | refine RoundK.next (by omega) ?_ ?_
                    | exact trivial
                    | simp only [*, go_sem, Nat.reduceAdd, Nat.reduceSub, Nat.reduceMul, Nat.reducePow, Nat.reduceEqDiff, Nat.reduceLT, Nat.reduceLeDiff, Nat.reduceBEq, Nat.reduceBNe, Int.reduceToNat, Int.reduceLT, Int.reduceLE, Int.reduceEq, Int.reduceBNe, Int.reduceBEq, Int.reduceAdd, Int.reduceSub, Int.reduceMul, Int.reduceNeg, ↓reduceIte])
    · obtain rfl : j = 6 := by omega
      simp only [go_sem, Nat.reduceAdd, Nat.reduceSub, Nat.reduceMul, Nat.reducePow, Nat.reduceEqDiff, Nat.reduceLT, Nat.reduceLeDiff, Nat.reduceBEq, Nat.reduceBNe, Int.reduceToNat, Int.reduceLT, Int.reduceLE, Int.reduceEq, Int.reduceBNe, Int.reduceBEq, Int.reduceAdd, Int.reduceSub, Int.reduceMul, Int.reduceNeg, ↓reduceIte]
      simp [allL]
end Go.Proofs.YthgplioeefjbfaaDoor
