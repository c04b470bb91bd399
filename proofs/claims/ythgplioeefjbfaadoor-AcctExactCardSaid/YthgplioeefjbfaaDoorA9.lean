/- The laws of accounts; no theorem of a claim. -/
import Derived.Test.YthgplioeefjbfaaDoorA8
import Derived.Test.YthgplioeefjbfaaDoorAbcOpen
set_option linter.unusedSimpArgs false
set_option linter.unusedVariables false
namespace Go.Proofs.YthgplioeefjbfaaDoor
open Go.Abs
theorem wakes : Abs.Spec Tryd.prog 11 [] [] [] (.bool true) := wakes_spec joinIs
theorem fit_acct {ds : List D} (h : FitL [.int .i64, .int .i64, .int .i64] ds) : ∃ x : AcctV, True ∧ ds = x.cells := by
  simp only [FitL, Fit] at h
  obtain ⟨_, _, rfl, ⟨a, rfl, _⟩, _, _, rfl, ⟨b, rfl, _⟩, _, _, rfl, ⟨c, rfl, _⟩, rfl⟩ := h
  exact ⟨⟨a, b, c⟩, trivial, rfl⟩
theorem fit_int (r : List D) (h : FitL [.int .i64] r) : ∃ x : Int, (-9223372036854775808 ≤ x ∧ x ≤ 9223372036854775807) ∧ r = [.int .i64 x] := by
  simp only [FitL, Fit] at h
  obtain ⟨_, _, rfl, ⟨a, rfl, h1, h2⟩, rfl⟩ := h
  exact ⟨a, ⟨h1, h2⟩, rfl⟩
theorem same_self (x : AcctV) : x.same x = true := by simp [AcctV.same]
theorem same_eq {x y : AcctV} (h : x.same y = true) : x = y := by
  obtain ⟨a, b, c⟩ := x
  obtain ⟨a', b', c'⟩ := y
  simpa [AcctV.same, and_assoc] using h
theorem acctsSame_self (xs : List AcctV) : acctsSame xs xs = true := by
  simp only [acctsSame, beq_self_eq_true, Bool.true_and, List.all_eq_true]
  intro i hi
  have hi : i < xs.length := by simpa using hi
  simp [hi, same_self]
theorem less_of (x y : AcctV) (h : x.lt y) : x.less y = true := (less_t x y).2 h
theorem back_spec (x : AcctV) (s : ByteArray) : Abs.Spec Tryd.prog 5 [] [.agg x.cells, .str s] [] (.bool true) := by
  have h0 := wakes
  have h1 := nameFull_spec x
  have h2 := parse_spec s
  have h3 := parse_spec (nameV x)
  have h4 := nameFull_spec (readV s)
  have h5 := keepAcct_spec (readV (nameV x)) x
  have k1 : x.right = true → readA (nameV x) = some x := readA_name
  have k2 : ∀ a, readA s = some a → a.right = true ∧ nameV a = s := fun a => readA_some
  have e : readV (nameV x) = (readA (nameV x)).getD ⟨0, 0, 0⟩ := rfl
  have e2 : readV s = (readA s).getD ⟨0, 0, 0⟩ := rfl
  refine Abs.Spec.go (n := 57) (np := 2) (rs := [.tmp 4]) mixed Tryd.func5 rfl rfl rfl rfl rfl (by simp) (by simp) ?_
  cases hr : x.right <;> cases hs : readA s
  all_goals (try have k2 := k2 _ hs)
  all_goals (try have k1 := k1 hr)
  all_goals simp only [hr, hs, k1, k2, e, e2, same_self, Option.getD_some, Option.getD_none, Option.isSome_some, Option.isSome_none, AcctV.cells, if_true, Bool.false_eq_true, if_false] at h1 h2 h3 h4 h5 ⊢
  all_goals simp only [go_sem, Nat.reduceAdd, Nat.reduceSub, Nat.reduceMul, Nat.reducePow, Nat.reduceEqDiff, Nat.reduceLT, Nat.reduceLeDiff, Nat.reduceBEq, Nat.reduceBNe, Int.reduceToNat, Int.reduceLT, Int.reduceLE, Int.reduceEq, Int.reduceBNe, Int.reduceBEq, Int.reduceAdd, Int.reduceSub, Int.reduceMul, Int.reduceNeg, ↓reduceIte]
  repeat' (with_reducible first
      | refine And.intro ?_ ?_
      | exact DrawN.mk (by kernel_rfl)
      | exact OkN.mk (by kernel_rfl)
      | refine CallN.pure (by assumption) ?_
      | refine GuardK.splitDN (fun h => ?_) (fun h => ?_)
      | refine GuardK.splitD (fun h => ?_) (fun h => ?_)
      | refine CondE.splitDN (fun h => ?_) (fun h => ?_)
      | refine CondE.splitD (fun h => ?_) (fun h => ?_)
      | refine GuardK.splitN (fun h => ?_) (fun h => ?_)
      | refine GuardK.split (fun h => ?_) (fun h => ?_)
      | refine CondE.splitN (fun h => ?_) (fun h => ?_)
      | refine CondE.split (fun h => ?_) (fun h => ?_)
      | refine WeakK.id ?_
      | refine RoundK.next (by omega) ?_ ?_
      | exact trivial
      | simp only [*, go_sem, Nat.reduceAdd, Nat.reduceSub, Nat.reduceMul, Nat.reducePow, Nat.reduceEqDiff, Nat.reduceLT, Nat.reduceLeDiff, Nat.reduceBEq, Nat.reduceBNe, Int.reduceToNat, Int.reduceLT, Int.reduceLE, Int.reduceEq, Int.reduceBNe, Int.reduceBEq, Int.reduceAdd, Int.reduceSub, Int.reduceMul, Int.reduceNeg, ↓reduceIte])
theorem order_at {l : List AcctV} (hs : l.Pairwise AcctV.lt) {k i : Nat} (h : k < i) (hi : i < l.length) : (l[k]).less l[i] = true := less_of _ _ (List.pairwise_iff_getElem.1 hs k i (by omega) hi h)
theorem all_law (ks : List Int) : Abs.Spec Tryd.prog 4 [] [.sl 1 (ints ks)] [] (.bool true) := by
  have hlen : (allL ks).length ≤ 306 := by have := allTo_len ks 6; simpa [allL] using this
  have h0 := wakes
  have hA := keepAccts_spec (allL ks) (allL ks) (by omega) (by omega)
  rw [acctsSame_self] at hA
  refine Abs.Spec.go (n := 45) (np := 1) (rs := [.tmp 2]) mixed Tryd.func4 rfl rfl rfl rfl rfl (by simp) (by simp) ?_
  simp only [go_sem, Nat.reduceAdd, Nat.reduceSub, Nat.reduceMul, Nat.reducePow, Nat.reduceEqDiff, Nat.reduceLT, Nat.reduceLeDiff, Nat.reduceBEq, Nat.reduceBNe, Int.reduceToNat, Int.reduceLT, Int.reduceLE, Int.reduceEq, Int.reduceBNe, Int.reduceBEq, Int.reduceAdd, Int.reduceSub, Int.reduceMul, Int.reduceNeg, ↓reduceIte]
  refine CondE.splitD (fun h => ?_) (fun h => ?_)
  · simp only [go_sem, Nat.reduceAdd, Nat.reduceSub, Nat.reduceMul, Nat.reducePow, Nat.reduceEqDiff, Nat.reduceLT, Nat.reduceLeDiff, Nat.reduceBEq, Nat.reduceBNe, Int.reduceToNat, Int.reduceLT, Int.reduceLE, Int.reduceEq, Int.reduceBNe, Int.reduceBEq, Int.reduceAdd, Int.reduceSub, Int.reduceMul, Int.reduceNeg, ↓reduceIte]
  · have hl : ks.length < 2 ^ 62 := by omega
    simp only [go_sem, Nat.reduceAdd, Nat.reduceSub, Nat.reduceMul, Nat.reducePow, Nat.reduceEqDiff, Nat.reduceLT, Nat.reduceLeDiff, Nat.reduceBEq, Nat.reduceBNe, Int.reduceToNat, Int.reduceLT, Int.reduceLE, Int.reduceEq, Int.reduceBNe, Int.reduceBEq, Int.reduceAdd, Int.reduceSub, Int.reduceMul, Int.reduceNeg, ↓reduceIte]
    refine CallN.gen [] [] false (by simp) ?_
    simp only [go_sem, Nat.reduceAdd, Nat.reduceSub, Nat.reduceMul, Nat.reducePow, Nat.reduceEqDiff, Nat.reduceLT, Nat.reduceLeDiff, Nat.reduceBEq, Nat.reduceBNe, Int.reduceToNat, Int.reduceLT, Int.reduceLE, Int.reduceEq, Int.reduceBNe, Int.reduceBEq, Int.reduceAdd, Int.reduceSub, Int.reduceMul, Int.reduceNeg, ↓reduceIte]
    refine CallG.intro (all_spec ks hl) ?_
    simp only [go_sem, Nat.reduceAdd, Nat.reduceSub, Nat.reduceMul, Nat.reducePow, Nat.reduceEqDiff, Nat.reduceLT, Nat.reduceLeDiff, Nat.reduceBEq, Nat.reduceBNe, Int.reduceToNat, Int.reduceLT, Int.reduceLE, Int.reduceEq, Int.reduceBNe, Int.reduceBEq, Int.reduceAdd, Int.reduceSub, Int.reduceMul, Int.reduceNeg, ↓reduceIte]
    refine CallN.gen [] [] false (by simp) ?_
    simp only [go_sem, Nat.reduceAdd, Nat.reduceSub, Nat.reduceMul, Nat.reducePow, Nat.reduceEqDiff, Nat.reduceLT, Nat.reduceLeDiff, Nat.reduceBEq, Nat.reduceBNe, Int.reduceToNat, Int.reduceLT, Int.reduceLE, Int.reduceEq, Int.reduceBNe, Int.reduceBEq, Int.reduceAdd, Int.reduceSub, Int.reduceMul, Int.reduceNeg, ↓reduceIte]
    refine CallG.intro (refAll_spec ks hl) ?_
    simp only [go_sem, Nat.reduceAdd, Nat.reduceSub, Nat.reduceMul, Nat.reducePow, Nat.reduceEqDiff, Nat.reduceLT, Nat.reduceLeDiff, Nat.reduceBEq, Nat.reduceBNe, Int.reduceToNat, Int.reduceLT, Int.reduceLE, Int.reduceEq, Int.reduceBNe, Int.reduceBEq, Int.reduceAdd, Int.reduceSub, Int.reduceMul, Int.reduceNeg, ↓reduceIte]
    refine CallN.gen [] [] true (by simp) ?_
    simp only [go_sem, Nat.reduceAdd, Nat.reduceSub, Nat.reduceMul, Nat.reducePow, Nat.reduceEqDiff, Nat.reduceLT, Nat.reduceLeDiff, Nat.reduceBEq, Nat.reduceBNe, Int.reduceToNat, Int.reduceLT, Int.reduceLE, Int.reduceEq, Int.reduceBNe, Int.reduceBEq, Int.reduceAdd, Int.reduceSub, Int.reduceMul, Int.reduceNeg, ↓reduceIte]
    refine CallG.intro hA ?_
    simp only [go_sem, Nat.reduceAdd, Nat.reduceSub, Nat.reduceMul, Nat.reducePow, Nat.reduceEqDiff, Nat.reduceLT, Nat.reduceLeDiff, Nat.reduceBEq, Nat.reduceBNe, Int.reduceToNat, Int.reduceLT, Int.reduceLE, Int.reduceEq, Int.reduceBNe, Int.reduceBEq, Int.reduceAdd, Int.reduceSub, Int.reduceMul, Int.reduceNeg, ↓reduceIte]
    refine LoopK.count (allL ks).length [3] [160] (fun i => [(4, .int .i64 i)]) (fun i => []) (fun _ => True) (by simp only [go_sem, Nat.reduceAdd, Nat.reduceSub, Nat.reduceMul, Nat.reducePow, Nat.reduceEqDiff, Nat.reduceLT, Nat.reduceLeDiff, Nat.reduceBEq, Nat.reduceBNe, Int.reduceToNat, Int.reduceLT, Int.reduceLE, Int.reduceEq, Int.reduceBNe, Int.reduceBEq, Int.reduceAdd, Int.reduceSub, Int.reduceMul, Int.reduceNeg, ↓reduceIte] <;> exact rfl) (by simp only [go_sem, Nat.reduceAdd, Nat.reduceSub, Nat.reduceMul, Nat.reducePow, Nat.reduceEqDiff, Nat.reduceLT, Nat.reduceLeDiff, Nat.reduceBEq, Nat.reduceBNe, Int.reduceToNat, Int.reduceLT, Int.reduceLE, Int.reduceEq, Int.reduceBNe, Int.reduceBEq, Int.reduceAdd, Int.reduceSub, Int.reduceMul, Int.reduceNeg, ↓reduceIte] <;> exact rfl) trivial ?_ ?_
    · simp only [go_sem, Nat.reduceAdd, Nat.reduceSub, Nat.reduceMul, Nat.reducePow, Nat.reduceEqDiff, Nat.reduceLT, Nat.reduceLeDiff, Nat.reduceBEq, Nat.reduceBNe, Int.reduceToNat, Int.reduceLT, Int.reduceLE, Int.reduceEq, Int.reduceBNe, Int.reduceBEq, Int.reduceAdd, Int.reduceSub, Int.reduceMul, Int.reduceNeg, ↓reduceIte] <;> simp
    · intro i hi _
      simp only [go_sem, Nat.reduceAdd, Nat.reduceSub, Nat.reduceMul, Nat.reducePow, Nat.reduceEqDiff, Nat.reduceLT, Nat.reduceLeDiff, Nat.reduceBEq, Nat.reduceBNe, Int.reduceToNat, Int.reduceLT, Int.reduceLE, Int.reduceEq, Int.reduceBNe, Int.reduceBEq, Int.reduceAdd, Int.reduceSub, Int.reduceMul, Int.reduceNeg, ↓reduceIte]
      refine CondE.splitD (fun h => ?_) (fun h => ?_)
      · have h1 : i < (allL ks).length := by omega
        have m1 := map_at (c := AcctV.cells) (allL ks) h1
        have hr := right_spec (allL ks)[i]
        rw [(mem_allL.1 (List.getElem_mem h1)).1] at hr
        have hw : IntKind.wrap .i64 ((i : Int) + 1) = ((i + 1 : Nat) : Int) := by rw [wrap64 (by omega) (by omega)]; omega
        by_cases h0 : 0 < i
        · have h2 : i - 1 < (allL ks).length := by omega
          have m2 := map_at (c := AcctV.cells) (allL ks) h2
          have hl := less_spec (allL ks)[i - 1] (allL ks)[i]
          rw [order_at (allL_sorted ks) (by omega) h1] at hl
          have hw2 : IntKind.wrap .i64 ((i : Int) - 1) = ((i - 1 : Nat) : Int) := by rw [wrap64 (by omega) (by omega)]; omega
          have hg : decide (0 < (i : Int)) = true := by simp; omega
          simp only [AcctV.cells] at m1 m2 hr hl
          simp only [go_sem, Nat.reduceAdd, Nat.reduceSub, Nat.reduceMul, Nat.reducePow, Nat.reduceEqDiff, Nat.reduceLT, Nat.reduceLeDiff, Nat.reduceBEq, Nat.reduceBNe, Int.reduceToNat, Int.reduceLT, Int.reduceLE, Int.reduceEq, Int.reduceBNe, Int.reduceBEq, Int.reduceAdd, Int.reduceSub, Int.reduceMul, Int.reduceNeg, ↓reduceIte, m1, AcctV.cells]
          repeat' (with_reducible first
              | refine And.intro ?_ ?_
              | exact DrawN.mk (by kernel_rfl)
              | exact OkN.mk (by kernel_rfl)
              | refine CallN.pure (by assumption) ?_
              | refine GuardK.splitDN (fun h => ?_) (fun h => ?_)
              | refine GuardK.splitD (fun h => ?_) (fun h => ?_)
              | refine CondE.splitDN (fun h => ?_) (fun h => ?_)
              | refine CondE.splitD (fun h => ?_) (fun h => ?_)
              | refine GuardK.splitN (fun h => ?_) (fun h => ?_)
              | refine GuardK.split (fun h => ?_) (fun h => ?_)
              | refine CondE.splitN (fun h => ?_) (fun h => ?_)
              | refine CondE.split (fun h => ?_) (fun h => ?_)
              | refine WeakK.id ?_
              | refine RoundK.next (by omega) ?_ ?_
              | exact trivial
              | simp only [*, go_sem, Nat.reduceAdd, Nat.reduceSub, Nat.reduceMul, Nat.reducePow, Nat.reduceEqDiff, Nat.reduceLT, Nat.reduceLeDiff, Nat.reduceBEq, Nat.reduceBNe, Int.reduceToNat, Int.reduceLT, Int.reduceLE, Int.reduceEq, Int.reduceBNe, Int.reduceBEq, Int.reduceAdd, Int.reduceSub, Int.reduceMul, Int.reduceNeg, ↓reduceIte])
          all_goals omega
        · have hg : decide (0 < (i : Int)) = false := by simp; omega
          simp only [AcctV.cells] at m1 hr
          simp only [go_sem, Nat.reduceAdd, Nat.reduceSub, Nat.reduceMul, Nat.reducePow, Nat.reduceEqDiff, Nat.reduceLT, Nat.reduceLeDiff, Nat.reduceBEq, Nat.reduceBNe, Int.reduceToNat, Int.reduceLT, Int.reduceLE, Int.reduceEq, Int.reduceBNe, Int.reduceBEq, Int.reduceAdd, Int.reduceSub, Int.reduceMul, Int.reduceNeg, ↓reduceIte, m1, AcctV.cells]
          repeat' (with_reducible first
              | refine And.intro ?_ ?_
              | exact DrawN.mk (by kernel_rfl)
              | exact OkN.mk (by kernel_rfl)
              | refine CallN.pure (by assumption) ?_
              | refine GuardK.splitDN (fun h => ?_) (fun h => ?_)
              | refine GuardK.splitD (fun h => ?_) (fun h => ?_)
              | refine CondE.splitDN (fun h => ?_) (fun h => ?_)
              | refine CondE.splitD (fun h => ?_) (fun h => ?_)
              | refine GuardK.splitN (fun h => ?_) (fun h => ?_)
              | refine GuardK.split (fun h => ?_) (fun h => ?_)
              | refine CondE.splitN (fun h => ?_) (fun h => ?_)
              | refine CondE.split (fun h => ?_) (fun h => ?_)
              | refine WeakK.id ?_
              | refine RoundK.next (by omega) ?_ ?_
              | exact trivial
              | simp only [*, go_sem, Nat.reduceAdd, Nat.reduceSub, Nat.reduceMul, Nat.reducePow, Nat.reduceEqDiff, Nat.reduceLT, Nat.reduceLeDiff, Nat.reduceBEq, Nat.reduceBNe, Int.reduceToNat, Int.reduceLT, Int.reduceLE, Int.reduceEq, Int.reduceBNe, Int.reduceBEq, Int.reduceAdd, Int.reduceSub, Int.reduceMul, Int.reduceNeg, ↓reduceIte])
      · simp only [go_sem, Nat.reduceAdd, Nat.reduceSub, Nat.reduceMul, Nat.reducePow, Nat.reduceEqDiff, Nat.reduceLT, Nat.reduceLeDiff, Nat.reduceBEq, Nat.reduceBNe, Int.reduceToNat, Int.reduceLT, Int.reduceLE, Int.reduceEq, Int.reduceBNe, Int.reduceBEq, Int.reduceAdd, Int.reduceSub, Int.reduceMul, Int.reduceNeg, ↓reduceIte]
        repeat' (with_reducible first
            | refine And.intro ?_ ?_
            | exact DrawN.mk (by kernel_rfl)
            | exact OkN.mk (by kernel_rfl)
            | refine CallN.pure (by assumption) ?_
            | refine GuardK.splitDN (fun h => ?_) (fun h => ?_)
            | refine GuardK.splitD (fun h => ?_) (fun h => ?_)
            | refine CondE.splitDN (fun h => ?_) (fun h => ?_)
            | refine CondE.splitD (fun h => ?_) (fun h => ?_)
            | refine GuardK.splitN (fun h => ?_) (fun h => ?_)
            | refine GuardK.split (fun h => ?_) (fun h => ?_)
            | refine CondE.splitN (fun h => ?_) (fun h => ?_)
            | refine CondE.split (fun h => ?_) (fun h => ?_)
            | refine WeakK.id ?_
            | refine RoundK.next (by omega) ?_ ?_
            | exact trivial
            | simp only [*, go_sem, Nat.reduceAdd, Nat.reduceSub, Nat.reduceMul, Nat.reducePow, Nat.reduceEqDiff, Nat.reduceLT, Nat.reduceLeDiff, Nat.reduceBEq, Nat.reduceBNe, Int.reduceToNat, Int.reduceLT, Int.reduceLE, Int.reduceEq, Int.reduceBNe, Int.reduceBEq, Int.reduceAdd, Int.reduceSub, Int.reduceMul, Int.reduceNeg, ↓reduceIte])
theorem less_self (x : AcctV) : x.less x = false := by
  rw [less_f]; simp only [AcctV.lt]; omega
theorem names_law : Abs.Spec Tryd.prog 6 [] [] [] (.bool true) := by
  have hsrt : allA.Pairwise AcctV.lt := allL_sorted _
  have hw0 := wakes
  refine Abs.Spec.go (n := 69) (np := 0) (rs := [.tmp 0]) mixed Tryd.func6 rfl rfl rfl rfl rfl (by simp) (by simp) ?_
  simp only [go_sem, Nat.reduceAdd, Nat.reduceSub, Nat.reduceMul, Nat.reducePow, Nat.reduceEqDiff, Nat.reduceLT, Nat.reduceLeDiff, Nat.reduceBEq, Nat.reduceBNe, Int.reduceToNat, Int.reduceLT, Int.reduceLE, Int.reduceEq, Int.reduceBNe, Int.reduceBEq, Int.reduceAdd, Int.reduceSub, Int.reduceMul, Int.reduceNeg, ↓reduceIte]
  refine CallN.gen [144] [] false (by simp) ?_
  simp only [go_sem, Nat.reduceAdd, Nat.reduceSub, Nat.reduceMul, Nat.reducePow, Nat.reduceEqDiff, Nat.reduceLT, Nat.reduceLeDiff, Nat.reduceBEq, Nat.reduceBNe, Int.reduceToNat, Int.reduceLT, Int.reduceLE, Int.reduceEq, Int.reduceBNe, Int.reduceBEq, Int.reduceAdd, Int.reduceSub, Int.reduceMul, Int.reduceNeg, ↓reduceIte, ints6]
  refine CallG.intro (all_spec [1, 2, 3, 4, 5, 6] (by simp)) ?_
  simp only [go_sem, Nat.reduceAdd, Nat.reduceSub, Nat.reduceMul, Nat.reducePow, Nat.reduceEqDiff, Nat.reduceLT, Nat.reduceLeDiff, Nat.reduceBEq, Nat.reduceBNe, Int.reduceToNat, Int.reduceLT, Int.reduceLE, Int.reduceEq, Int.reduceBNe, Int.reduceBEq, Int.reduceAdd, Int.reduceSub, Int.reduceMul, Int.reduceNeg, ↓reduceIte]
  rw [show allL [1, 2, 3, 4, 5, 6] = allA from rfl]
  simp only [go_sem, Nat.reduceAdd, Nat.reduceSub, Nat.reduceMul, Nat.reducePow, Nat.reduceEqDiff, Nat.reduceLT, Nat.reduceLeDiff, Nat.reduceBEq, Nat.reduceBNe, Int.reduceToNat, Int.reduceLT, Int.reduceLE, Int.reduceEq, Int.reduceBNe, Int.reduceBEq, Int.reduceAdd, Int.reduceSub, Int.reduceMul, Int.reduceNeg, ↓reduceIte, allA_len]
  refine LoopK.count 108 [1] [160] (fun i => [(2, .int .i64 i)]) (fun i => []) (fun _ => True) (by simp only [go_sem, Nat.reduceAdd, Nat.reduceSub, Nat.reduceMul, Nat.reducePow, Nat.reduceEqDiff, Nat.reduceLT, Nat.reduceLeDiff, Nat.reduceBEq, Nat.reduceBNe, Int.reduceToNat, Int.reduceLT, Int.reduceLE, Int.reduceEq, Int.reduceBNe, Int.reduceBEq, Int.reduceAdd, Int.reduceSub, Int.reduceMul, Int.reduceNeg, ↓reduceIte] <;> exact rfl) (by simp only [go_sem, Nat.reduceAdd, Nat.reduceSub, Nat.reduceMul, Nat.reducePow, Nat.reduceEqDiff, Nat.reduceLT, Nat.reduceLeDiff, Nat.reduceBEq, Nat.reduceBNe, Int.reduceToNat, Int.reduceLT, Int.reduceLE, Int.reduceEq, Int.reduceBNe, Int.reduceBEq, Int.reduceAdd, Int.reduceSub, Int.reduceMul, Int.reduceNeg, ↓reduceIte] <;> exact rfl) trivial ?_ ?_
  · simp only [go_sem, Nat.reduceAdd, Nat.reduceSub, Nat.reduceMul, Nat.reducePow, Nat.reduceEqDiff, Nat.reduceLT, Nat.reduceLeDiff, Nat.reduceBEq, Nat.reduceBNe, Int.reduceToNat, Int.reduceLT, Int.reduceLE, Int.reduceEq, Int.reduceBNe, Int.reduceBEq, Int.reduceAdd, Int.reduceSub, Int.reduceMul, Int.reduceNeg, ↓reduceIte] <;> simp
  · intro i hi _
    simp only [go_sem, Nat.reduceAdd, Nat.reduceSub, Nat.reduceMul, Nat.reducePow, Nat.reduceEqDiff, Nat.reduceLT, Nat.reduceLeDiff, Nat.reduceBEq, Nat.reduceBNe, Int.reduceToNat, Int.reduceLT, Int.reduceLE, Int.reduceEq, Int.reduceBNe, Int.reduceBEq, Int.reduceAdd, Int.reduceSub, Int.reduceMul, Int.reduceNeg, ↓reduceIte, allA_len]
    refine CondE.splitD (fun h => ?_) (fun h => ?_)
    · have h1 : i < allA.length := by rw [allA_len]; omega
      have m1 := map_at (c := AcctV.cells) allA h1
      have hr : allA[i].right = true := mem_allA.1 (List.getElem_mem h1)
      have hn := nameFull_spec allA[i]
      rw [hr] at hn
      have hl := less_spec allA[i] allA[i]
      rw [less_self] at hl
      have hw : IntKind.wrap .i64 ((i : Int) + 1) = ((i + 1 : Nat) : Int) := by rw [wrap64 (by omega) (by omega)]; omega
      simp only [AcctV.cells, if_true] at m1 hn hl
      simp only [go_sem, Nat.reduceAdd, Nat.reduceSub, Nat.reduceMul, Nat.reducePow, Nat.reduceEqDiff, Nat.reduceLT, Nat.reduceLeDiff, Nat.reduceBEq, Nat.reduceBNe, Int.reduceToNat, Int.reduceLT, Int.reduceLE, Int.reduceEq, Int.reduceBNe, Int.reduceBEq, Int.reduceAdd, Int.reduceSub, Int.reduceMul, Int.reduceNeg, ↓reduceIte, m1, AcctV.cells, allA_len]
      repeat' (with_reducible first
          | refine And.intro ?_ ?_
          | exact DrawN.mk (by kernel_rfl)
          | exact OkN.mk (by kernel_rfl)
          | refine CallN.pure (by assumption) ?_
          | refine GuardK.splitDN (fun h => ?_) (fun h => ?_)
          | refine GuardK.splitD (fun h => ?_) (fun h => ?_)
          | refine CondE.splitDN (fun h => ?_) (fun h => ?_)
          | refine CondE.splitD (fun h => ?_) (fun h => ?_)
          | refine GuardK.splitN (fun h => ?_) (fun h => ?_)
          | refine GuardK.split (fun h => ?_) (fun h => ?_)
          | refine CondE.splitN (fun h => ?_) (fun h => ?_)
          | refine CondE.split (fun h => ?_) (fun h => ?_)
          | refine WeakK.id ?_
          | refine RoundK.next (by omega) ?_ ?_
          | exact trivial
          | simp only [*, go_sem, Nat.reduceAdd, Nat.reduceSub, Nat.reduceMul, Nat.reducePow, Nat.reduceEqDiff, Nat.reduceLT, Nat.reduceLeDiff, Nat.reduceBEq, Nat.reduceBNe, Int.reduceToNat, Int.reduceLT, Int.reduceLE, Int.reduceEq, Int.reduceBNe, Int.reduceBEq, Int.reduceAdd, Int.reduceSub, Int.reduceMul, Int.reduceNeg, ↓reduceIte, allA_len])
      all_goals (try omega)
      refine LoopK.count i [1, 2, 3] [160, 400] (fun i => [(5, .int .i64 i)]) (fun i => []) (fun _ => True) (by simp only [go_sem, Nat.reduceAdd, Nat.reduceSub, Nat.reduceMul, Nat.reducePow, Nat.reduceEqDiff, Nat.reduceLT, Nat.reduceLeDiff, Nat.reduceBEq, Nat.reduceBNe, Int.reduceToNat, Int.reduceLT, Int.reduceLE, Int.reduceEq, Int.reduceBNe, Int.reduceBEq, Int.reduceAdd, Int.reduceSub, Int.reduceMul, Int.reduceNeg, ↓reduceIte] <;> exact rfl) (by simp only [go_sem, Nat.reduceAdd, Nat.reduceSub, Nat.reduceMul, Nat.reducePow, Nat.reduceEqDiff, Nat.reduceLT, Nat.reduceLeDiff, Nat.reduceBEq, Nat.reduceBNe, Int.reduceToNat, Int.reduceLT, Int.reduceLE, Int.reduceEq, Int.reduceBNe, Int.reduceBEq, Int.reduceAdd, Int.reduceSub, Int.reduceMul, Int.reduceNeg, ↓reduceIte] <;> exact rfl) trivial ?_ ?_
      · simp only [go_sem, Nat.reduceAdd, Nat.reduceSub, Nat.reduceMul, Nat.reducePow, Nat.reduceEqDiff, Nat.reduceLT, Nat.reduceLeDiff, Nat.reduceBEq, Nat.reduceBNe, Int.reduceToNat, Int.reduceLT, Int.reduceLE, Int.reduceEq, Int.reduceBNe, Int.reduceBEq, Int.reduceAdd, Int.reduceSub, Int.reduceMul, Int.reduceNeg, ↓reduceIte] <;> simp
      · intro k hk _
        simp only [go_sem, Nat.reduceAdd, Nat.reduceSub, Nat.reduceMul, Nat.reducePow, Nat.reduceEqDiff, Nat.reduceLT, Nat.reduceLeDiff, Nat.reduceBEq, Nat.reduceBNe, Int.reduceToNat, Int.reduceLT, Int.reduceLE, Int.reduceEq, Int.reduceBNe, Int.reduceBEq, Int.reduceAdd, Int.reduceSub, Int.reduceMul, Int.reduceNeg, ↓reduceIte, allA_len]
        refine CondE.splitD (fun h => ?_) (fun h => ?_)
        · have g1 : k < allA.length := by rw [allA_len]; omega
          have n1 := map_at (c := AcctV.cells) allA g1
          have gr : allA[k].right = true := mem_allA.1 (List.getElem_mem g1)
          have gn := nameFull_spec allA[k]
          rw [gr] at gn
          have gl := less_spec allA[k] allA[i]
          rw [order_at hsrt (by omega) h1] at gl
          have gne : ¬ nameV allA[i] = nameV allA[k] := fun e => List.pairwise_iff_getElem.1 names_pair k i g1 h1 (by omega) e.symm
          have gw : IntKind.wrap .i64 ((k : Int) + 1) = ((k + 1 : Nat) : Int) := by rw [wrap64 (by omega) (by omega)]; omega
          simp only [AcctV.cells, if_true] at n1 gn gl
          simp only [go_sem, Nat.reduceAdd, Nat.reduceSub, Nat.reduceMul, Nat.reducePow, Nat.reduceEqDiff, Nat.reduceLT, Nat.reduceLeDiff, Nat.reduceBEq, Nat.reduceBNe, Int.reduceToNat, Int.reduceLT, Int.reduceLE, Int.reduceEq, Int.reduceBNe, Int.reduceBEq, Int.reduceAdd, Int.reduceSub, Int.reduceMul, Int.reduceNeg, ↓reduceIte, n1, AcctV.cells, allA_len]
          repeat' (with_reducible first
              | refine And.intro ?_ ?_
              | exact DrawN.mk (by kernel_rfl)
              | exact OkN.mk (by kernel_rfl)
              | refine CallN.pure (by assumption) ?_
              | refine GuardK.splitDN (fun h => ?_) (fun h => ?_)
              | refine GuardK.splitD (fun h => ?_) (fun h => ?_)
              | refine CondE.splitDN (fun h => ?_) (fun h => ?_)
              | refine CondE.splitD (fun h => ?_) (fun h => ?_)
              | refine GuardK.splitN (fun h => ?_) (fun h => ?_)
              | refine GuardK.split (fun h => ?_) (fun h => ?_)
              | refine CondE.splitN (fun h => ?_) (fun h => ?_)
              | refine CondE.split (fun h => ?_) (fun h => ?_)
              | refine WeakK.id ?_
              | refine RoundK.next (by omega) ?_ ?_
              | exact trivial
              | simp only [*, go_sem, Nat.reduceAdd, Nat.reduceSub, Nat.reduceMul, Nat.reducePow, Nat.reduceEqDiff, Nat.reduceLT, Nat.reduceLeDiff, Nat.reduceBEq, Nat.reduceBNe, Int.reduceToNat, Int.reduceLT, Int.reduceLE, Int.reduceEq, Int.reduceBNe, Int.reduceBEq, Int.reduceAdd, Int.reduceSub, Int.reduceMul, Int.reduceNeg, ↓reduceIte, allA_len])
          all_goals omega
        · simp only [go_sem, Nat.reduceAdd, Nat.reduceSub, Nat.reduceMul, Nat.reducePow, Nat.reduceEqDiff, Nat.reduceLT, Nat.reduceLeDiff, Nat.reduceBEq, Nat.reduceBNe, Int.reduceToNat, Int.reduceLT, Int.reduceLE, Int.reduceEq, Int.reduceBNe, Int.reduceBEq, Int.reduceAdd, Int.reduceSub, Int.reduceMul, Int.reduceNeg, ↓reduceIte]
          repeat' (with_reducible first
              | refine And.intro ?_ ?_
              | exact DrawN.mk (by kernel_rfl)
              | exact OkN.mk (by kernel_rfl)
              | refine CallN.pure (by assumption) ?_
              | refine GuardK.splitDN (fun h => ?_) (fun h => ?_)
              | refine GuardK.splitD (fun h => ?_) (fun h => ?_)
              | refine CondE.splitDN (fun h => ?_) (fun h => ?_)
              | refine CondE.splitD (fun h => ?_) (fun h => ?_)
              | refine GuardK.splitN (fun h => ?_) (fun h => ?_)
              | refine GuardK.split (fun h => ?_) (fun h => ?_)
              | refine CondE.splitN (fun h => ?_) (fun h => ?_)
              | refine CondE.split (fun h => ?_) (fun h => ?_)
              | refine WeakK.id ?_
              | refine RoundK.next (by omega) ?_ ?_
              | exact trivial
              | simp only [*, go_sem, Nat.reduceAdd, Nat.reduceSub, Nat.reduceMul, Nat.reducePow, Nat.reduceEqDiff, Nat.reduceLT, Nat.reduceLeDiff, Nat.reduceBEq, Nat.reduceBNe, Int.reduceToNat, Int.reduceLT, Int.reduceLE, Int.reduceEq, Int.reduceBNe, Int.reduceBEq, Int.reduceAdd, Int.reduceSub, Int.reduceMul, Int.reduceNeg, ↓reduceIte])
    · simp only [go_sem, Nat.reduceAdd, Nat.reduceSub, Nat.reduceMul, Nat.reducePow, Nat.reduceEqDiff, Nat.reduceLT, Nat.reduceLeDiff, Nat.reduceBEq, Nat.reduceBNe, Int.reduceToNat, Int.reduceLT, Int.reduceLE, Int.reduceEq, Int.reduceBNe, Int.reduceBEq, Int.reduceAdd, Int.reduceSub, Int.reduceMul, Int.reduceNeg, ↓reduceIte]
      repeat' (with_reducible first
          | refine And.intro ?_ ?_
          | exact DrawN.mk (by kernel_rfl)
          | exact OkN.mk (by kernel_rfl)
          | refine CallN.pure (by assumption) ?_
          | refine GuardK.splitDN (fun h => ?_) (fun h => ?_)
          | refine GuardK.splitD (fun h => ?_) (fun h => ?_)
          | refine CondE.splitDN (fun h => ?_) (fun h => ?_)
          | refine CondE.splitD (fun h => ?_) (fun h => ?_)
          | refine GuardK.splitN (fun h => ?_) (fun h => ?_)
          | refine GuardK.split (fun h => ?_) (fun h => ?_)
          | refine CondE.splitN (fun h => ?_) (fun h => ?_)
          | refine CondE.split (fun h => ?_) (fun h => ?_)
          | refine WeakK.id ?_
          | refine RoundK.next (by omega) ?_ ?_
          | exact trivial
          | simp only [*, go_sem, Nat.reduceAdd, Nat.reduceSub, Nat.reduceMul, Nat.reducePow, Nat.reduceEqDiff, Nat.reduceLT, Nat.reduceLeDiff, Nat.reduceBEq, Nat.reduceBNe, Int.reduceToNat, Int.reduceLT, Int.reduceLE, Int.reduceEq, Int.reduceBNe, Int.reduceBEq, Int.reduceAdd, Int.reduceSub, Int.reduceMul, Int.reduceNeg, ↓reduceIte])
theorem exact_law (x y : AcctV) (s : ByteArray) : Abs.Spec Tryd.prog 7 [] [.agg x.cells, .agg y.cells, .str s] [] (.bool true) := by
  have h0 := wakes
  have h1 := right_spec x
  have h2 := refRight_spec x
  have h3 := floor_spec x
  have h4 := refFloor_spec x
  have h5 := less_spec x y
  have h6 := refLess_spec x y
  have h7 := nameFull_spec x
  have h8 := refName_spec x
  have h9 := parse_spec s
  have h10 := refParse_spec s
  have h11 := keepAcct_spec (readV s) (readV s)
  refine Abs.Spec.go (n := 95) (np := 3) (rs := [.tmp 6]) mixed Tryd.func7 rfl rfl rfl rfl rfl (by simp) (by simp) ?_
  cases hr : x.right
  · simp only [hr, same_self, AcctV.cells, if_true, Bool.false_eq_true, if_false] at h1 h2 h3 h4 h5 h6 h7 h9 h10 h11 ⊢
    simp only [go_sem, Nat.reduceAdd, Nat.reduceSub, Nat.reduceMul, Nat.reducePow, Nat.reduceEqDiff, Nat.reduceLT, Nat.reduceLeDiff, Nat.reduceBEq, Nat.reduceBNe, Int.reduceToNat, Int.reduceLT, Int.reduceLE, Int.reduceEq, Int.reduceBNe, Int.reduceBEq, Int.reduceAdd, Int.reduceSub, Int.reduceMul, Int.reduceNeg, ↓reduceIte]
    cases hs : readA s
    all_goals simp only [hs, Option.isSome_some, Option.isSome_none, if_true, Bool.false_eq_true, if_false] at h9 h10
    repeat' (with_reducible first
        | refine And.intro ?_ ?_
        | exact DrawN.mk (by kernel_rfl)
        | exact OkN.mk (by kernel_rfl)
        | refine CallN.pure (by assumption) ?_
        | refine GuardK.splitDN (fun h => ?_) (fun h => ?_)
        | refine GuardK.splitD (fun h => ?_) (fun h => ?_)
        | refine CondE.splitDN (fun h => ?_) (fun h => ?_)
        | refine CondE.splitD (fun h => ?_) (fun h => ?_)
        | refine GuardK.splitN (fun h => ?_) (fun h => ?_)
        | refine GuardK.split (fun h => ?_) (fun h => ?_)
        | refine CondE.splitN (fun h => ?_) (fun h => ?_)
        | refine CondE.split (fun h => ?_) (fun h => ?_)
        | refine WeakK.id ?_
        | refine RoundK.next (by omega) ?_ ?_
        | exact trivial
        | simp only [*, go_sem, Nat.reduceAdd, Nat.reduceSub, Nat.reduceMul, Nat.reducePow, Nat.reduceEqDiff, Nat.reduceLT, Nat.reduceLeDiff, Nat.reduceBEq, Nat.reduceBNe, Int.reduceToNat, Int.reduceLT, Int.reduceLE, Int.reduceEq, Int.reduceBNe, Int.reduceBEq, Int.reduceAdd, Int.reduceSub, Int.reduceMul, Int.reduceNeg, ↓reduceIte])
  · have h8 := h8 hr
    simp only [hr, same_self, AcctV.cells, if_true, Bool.false_eq_true, if_false] at h1 h2 h3 h4 h5 h6 h7 h8 h9 h10 h11 ⊢
    simp only [go_sem, Nat.reduceAdd, Nat.reduceSub, Nat.reduceMul, Nat.reducePow, Nat.reduceEqDiff, Nat.reduceLT, Nat.reduceLeDiff, Nat.reduceBEq, Nat.reduceBNe, Int.reduceToNat, Int.reduceLT, Int.reduceLE, Int.reduceEq, Int.reduceBNe, Int.reduceBEq, Int.reduceAdd, Int.reduceSub, Int.reduceMul, Int.reduceNeg, ↓reduceIte]
    cases hs : readA s
    all_goals simp only [hs, Option.isSome_some, Option.isSome_none, if_true, Bool.false_eq_true, if_false] at h9 h10
    repeat' (with_reducible first
        | refine And.intro ?_ ?_
        | exact DrawN.mk (by kernel_rfl)
        | exact OkN.mk (by kernel_rfl)
        | refine CallN.pure (by assumption) ?_
        | refine GuardK.splitDN (fun h => ?_) (fun h => ?_)
        | refine GuardK.splitD (fun h => ?_) (fun h => ?_)
        | refine CondE.splitDN (fun h => ?_) (fun h => ?_)
        | refine CondE.splitD (fun h => ?_) (fun h => ?_)
        | refine GuardK.splitN (fun h => ?_) (fun h => ?_)
        | refine GuardK.split (fun h => ?_) (fun h => ?_)
        | refine CondE.splitN (fun h => ?_) (fun h => ?_)
        | refine CondE.split (fun h => ?_) (fun h => ?_)
        | refine WeakK.id ?_
        | refine RoundK.next (by omega) ?_ ?_
        | exact trivial
        | simp only [*, go_sem, Nat.reduceAdd, Nat.reduceSub, Nat.reduceMul, Nat.reducePow, Nat.reduceEqDiff, Nat.reduceLT, Nat.reduceLeDiff, Nat.reduceBEq, Nat.reduceBNe, Int.reduceToNat, Int.reduceLT, Int.reduceLE, Int.reduceEq, Int.reduceBNe, Int.reduceBEq, Int.reduceAdd, Int.reduceSub, Int.reduceMul, Int.reduceNeg, ↓reduceIte])
end Go.Proofs.YthgplioeefjbfaaDoor
