/- The reference's worth of collateral; no theorem of a claim. -/
import Derived.Test.YtbllopdcbkeadaaB6
set_option linter.unusedSimpArgs false
set_option linter.unusedVariables false
namespace Go.Proofs.Ytbllopdcbkeadaa
open Go.Abs
theorem within11_spec (a b c : Int) : Abs.Spec Try.prog 72 [] [.int .i64 a, .int .i64 b, .int .i64 c] [] (.bool (within a b c)) := by
  refine Abs.Spec.go (n := 15) (np := 3) (rs := [.tmp 6]) mixed Try.func72 rfl rfl rfl rfl rfl (by simp) (by simp) ?_
  simp only [go_sem, Nat.reduceAdd, Nat.reduceSub, Nat.reduceMul, Nat.reducePow, Nat.reduceEqDiff, Nat.reduceLT, Nat.reduceLeDiff, Nat.reduceBEq, Nat.reduceBNe, Int.reduceToNat, Int.reduceLT, Int.reduceLE, Int.reduceEq, Int.reduceBNe, Int.reduceBEq, Int.reduceAdd, Int.reduceSub, Int.reduceMul, Int.reduceNeg, ↓reduceIte]
  repeat' (with_reducible first
      | refine And.intro ?_ ?_
      | exact DrawN.mk (by kernel_rfl)
      | exact OkN.mk (by kernel_rfl)
      | refine CallN.pure (by assumption) ?_
      | refine GuardK.splitDN (fun h => ?_) (fun h => ?_)
      | refine GuardK.splitD (fun h => ?_) (fun h => ?_)
      | refine CondE.splitDN (fun h => ?_) (fun h => ?_)
      | refine CondE.splitD (fun h => ?_) (fun h => ?_)
      | refine GuardK.splitN (fun h => ?_) (fun h => ?_)
      | refine GuardK.split (fun h => ?_) (fun h => ?_)
      | refine CondE.splitN (fun h => ?_) (fun h => ?_)
      | refine CondE.split (fun h => ?_) (fun h => ?_)
      | refine WeakK.id ?_
      | refine RoundK.next (by omega) ?_ ?_
      | exact trivial
      | simp only [*, go_sem, Nat.reduceAdd, Nat.reduceSub, Nat.reduceMul, Nat.reducePow, Nat.reduceEqDiff, Nat.reduceLT, Nat.reduceLeDiff, Nat.reduceBEq, Nat.reduceBNe, Int.reduceToNat, Int.reduceLT, Int.reduceLE, Int.reduceEq, Int.reduceBNe, Int.reduceBEq, Int.reduceAdd, Int.reduceSub, Int.reduceMul, Int.reduceNeg, ↓reduceIte])
  all_goals (simp only [within]; simp <;> omega)
theorem within15_spec (a b c : Int) : Abs.Spec Try.prog 34 [] [.int .i64 a, .int .i64 b, .int .i64 c] [] (.bool (within a b c)) := by
  refine Abs.Spec.go (n := 15) (np := 3) (rs := [.tmp 6]) mixed Try.func34 rfl rfl rfl rfl rfl (by simp) (by simp) ?_
  simp only [go_sem, Nat.reduceAdd, Nat.reduceSub, Nat.reduceMul, Nat.reducePow, Nat.reduceEqDiff, Nat.reduceLT, Nat.reduceLeDiff, Nat.reduceBEq, Nat.reduceBNe, Int.reduceToNat, Int.reduceLT, Int.reduceLE, Int.reduceEq, Int.reduceBNe, Int.reduceBEq, Int.reduceAdd, Int.reduceSub, Int.reduceMul, Int.reduceNeg, ↓reduceIte]
  repeat' (with_reducible first
      | refine And.intro ?_ ?_
      | exact DrawN.mk (by kernel_rfl)
      | exact OkN.mk (by kernel_rfl)
      | refine CallN.pure (by assumption) ?_
      | refine GuardK.splitDN (fun h => ?_) (fun h => ?_)
      | refine GuardK.splitD (fun h => ?_) (fun h => ?_)
      | refine CondE.splitDN (fun h => ?_) (fun h => ?_)
      | refine CondE.splitD (fun h => ?_) (fun h => ?_)
      | refine GuardK.splitN (fun h => ?_) (fun h => ?_)
      | refine GuardK.split (fun h => ?_) (fun h => ?_)
      | refine CondE.splitN (fun h => ?_) (fun h => ?_)
      | refine CondE.split (fun h => ?_) (fun h => ?_)
      | refine WeakK.id ?_
      | refine RoundK.next (by omega) ?_ ?_
      | exact trivial
      | simp only [*, go_sem, Nat.reduceAdd, Nat.reduceSub, Nat.reduceMul, Nat.reducePow, Nat.reduceEqDiff, Nat.reduceLT, Nat.reduceLeDiff, Nat.reduceBEq, Nat.reduceBNe, Int.reduceToNat, Int.reduceLT, Int.reduceLE, Int.reduceEq, Int.reduceBNe, Int.reduceBEq, Int.reduceAdd, Int.reduceSub, Int.reduceMul, Int.reduceNeg, ↓reduceIte])
  all_goals (simp only [within]; simp <;> omega)
theorem refCur_spec (c : Int) : Abs.Spec Try.prog 73 [] [.int .i64 c] [] (.bool (within c 0 2)) := by
  have h := within11_spec c 0 2
  refine Abs.Spec.go (n := 5) (np := 1) (rs := [.tmp 2]) mixed Try.func73 rfl rfl rfl rfl rfl (by simp) (by simp) ?_
  simp only [go_sem, Nat.reduceAdd, Nat.reduceSub, Nat.reduceMul, Nat.reducePow, Nat.reduceEqDiff, Nat.reduceLT, Nat.reduceLeDiff, Nat.reduceBEq, Nat.reduceBNe, Int.reduceToNat, Int.reduceLT, Int.reduceLE, Int.reduceEq, Int.reduceBNe, Int.reduceBEq, Int.reduceAdd, Int.reduceSub, Int.reduceMul, Int.reduceNeg, ↓reduceIte]
  repeat' (with_reducible first
      | refine And.intro ?_ ?_
      | exact DrawN.mk (by kernel_rfl)
      | exact OkN.mk (by kernel_rfl)
      | refine CallN.pure (by assumption) ?_
      | refine GuardK.splitDN (fun h => ?_) (fun h => ?_)
      | refine GuardK.splitD (fun h => ?_) (fun h => ?_)
      | refine CondE.splitDN (fun h => ?_) (fun h => ?_)
      | refine CondE.splitD (fun h => ?_) (fun h => ?_)
      | refine GuardK.splitN (fun h => ?_) (fun h => ?_)
      | refine GuardK.split (fun h => ?_) (fun h => ?_)
      | refine CondE.splitN (fun h => ?_) (fun h => ?_)
      | refine CondE.split (fun h => ?_) (fun h => ?_)
      | refine WeakK.id ?_
      | refine RoundK.next (by omega) ?_ ?_
      | exact trivial
      | simp only [*, go_sem, Nat.reduceAdd, Nat.reduceSub, Nat.reduceMul, Nat.reducePow, Nat.reduceEqDiff, Nat.reduceLT, Nat.reduceLeDiff, Nat.reduceBEq, Nat.reduceBNe, Int.reduceToNat, Int.reduceLT, Int.reduceLE, Int.reduceEq, Int.reduceBNe, Int.reduceBEq, Int.reduceAdd, Int.reduceSub, Int.reduceMul, Int.reduceNeg, ↓reduceIte])
theorem refWho_spec (c : Int) : Abs.Spec Try.prog 37 [] [.int .i64 c] [] (.bool (within c 1 16)) := by
  have h := within11_spec c 1 16
  refine Abs.Spec.go (n := 5) (np := 1) (rs := [.tmp 2]) mixed Try.func37 rfl rfl rfl rfl rfl (by simp) (by simp) ?_
  simp only [go_sem, Nat.reduceAdd, Nat.reduceSub, Nat.reduceMul, Nat.reducePow, Nat.reduceEqDiff, Nat.reduceLT, Nat.reduceLeDiff, Nat.reduceBEq, Nat.reduceBNe, Int.reduceToNat, Int.reduceLT, Int.reduceLE, Int.reduceEq, Int.reduceBNe, Int.reduceBEq, Int.reduceAdd, Int.reduceSub, Int.reduceMul, Int.reduceNeg, ↓reduceIte]
  repeat' (with_reducible first
      | refine And.intro ?_ ?_
      | exact DrawN.mk (by kernel_rfl)
      | exact OkN.mk (by kernel_rfl)
      | refine CallN.pure (by assumption) ?_
      | refine GuardK.splitDN (fun h => ?_) (fun h => ?_)
      | refine GuardK.splitD (fun h => ?_) (fun h => ?_)
      | refine CondE.splitDN (fun h => ?_) (fun h => ?_)
      | refine CondE.splitD (fun h => ?_) (fun h => ?_)
      | refine GuardK.splitN (fun h => ?_) (fun h => ?_)
      | refine GuardK.split (fun h => ?_) (fun h => ?_)
      | refine CondE.splitN (fun h => ?_) (fun h => ?_)
      | refine CondE.split (fun h => ?_) (fun h => ?_)
      | refine WeakK.id ?_
      | refine RoundK.next (by omega) ?_ ?_
      | exact trivial
      | simp only [*, go_sem, Nat.reduceAdd, Nat.reduceSub, Nat.reduceMul, Nat.reducePow, Nat.reduceEqDiff, Nat.reduceLT, Nat.reduceLeDiff, Nat.reduceBEq, Nat.reduceBNe, Int.reduceToNat, Int.reduceLT, Int.reduceLE, Int.reduceEq, Int.reduceBNe, Int.reduceBEq, Int.reduceAdd, Int.reduceSub, Int.reduceMul, Int.reduceNeg, ↓reduceIte])
theorem ref15asset_spec (c : Int) : Abs.Spec Try.prog 38 [] [.int .i64 c] [] (.bool (within c 1 6)) := by
  have h := within15_spec c 1 6
  refine Abs.Spec.go (n := 5) (np := 1) (rs := [.tmp 2]) mixed Try.func38 rfl rfl rfl rfl rfl (by simp) (by simp) ?_
  simp only [go_sem, Nat.reduceAdd, Nat.reduceSub, Nat.reduceMul, Nat.reducePow, Nat.reduceEqDiff, Nat.reduceLT, Nat.reduceLeDiff, Nat.reduceBEq, Nat.reduceBNe, Int.reduceToNat, Int.reduceLT, Int.reduceLE, Int.reduceEq, Int.reduceBNe, Int.reduceBEq, Int.reduceAdd, Int.reduceSub, Int.reduceMul, Int.reduceNeg, ↓reduceIte]
  repeat' (with_reducible first
      | refine And.intro ?_ ?_
      | exact DrawN.mk (by kernel_rfl)
      | exact OkN.mk (by kernel_rfl)
      | refine CallN.pure (by assumption) ?_
      | refine GuardK.splitDN (fun h => ?_) (fun h => ?_)
      | refine GuardK.splitD (fun h => ?_) (fun h => ?_)
      | refine CondE.splitDN (fun h => ?_) (fun h => ?_)
      | refine CondE.splitD (fun h => ?_) (fun h => ?_)
      | refine GuardK.splitN (fun h => ?_) (fun h => ?_)
      | refine GuardK.split (fun h => ?_) (fun h => ?_)
      | refine CondE.splitN (fun h => ?_) (fun h => ?_)
      | refine CondE.split (fun h => ?_) (fun h => ?_)
      | refine WeakK.id ?_
      | refine RoundK.next (by omega) ?_ ?_
      | exact trivial
      | simp only [*, go_sem, Nat.reduceAdd, Nat.reduceSub, Nat.reduceMul, Nat.reducePow, Nat.reduceEqDiff, Nat.reduceLT, Nat.reduceLeDiff, Nat.reduceBEq, Nat.reduceBNe, Int.reduceToNat, Int.reduceLT, Int.reduceLE, Int.reduceEq, Int.reduceBNe, Int.reduceBEq, Int.reduceAdd, Int.reduceSub, Int.reduceMul, Int.reduceNeg, ↓reduceIte])
theorem refAsset_spec (x : AssetV) : Abs.Spec Try.prog 33 [] [.agg x.cells] [] (.bool x.ok) := by
  have h1 := within11_spec x.a 1 6
  have h2 := refCur_spec x.b
  have h3 := within11_spec x.c 1 1073741824
  have h4 := within11_spec x.d 0 10000
  refine Abs.Spec.go (n := 21) (np := 1) (rs := [.tmp 2]) mixed Try.func33 rfl rfl rfl rfl rfl (by simp) (by simp) ?_
  simp only [go_sem, Nat.reduceAdd, Nat.reduceSub, Nat.reduceMul, Nat.reducePow, Nat.reduceEqDiff, Nat.reduceLT, Nat.reduceLeDiff, Nat.reduceBEq, Nat.reduceBNe, Int.reduceToNat, Int.reduceLT, Int.reduceLE, Int.reduceEq, Int.reduceBNe, Int.reduceBEq, Int.reduceAdd, Int.reduceSub, Int.reduceMul, Int.reduceNeg, ↓reduceIte, AssetV.cells]
  repeat' (with_reducible first
      | refine And.intro ?_ ?_
      | exact DrawN.mk (by kernel_rfl)
      | exact OkN.mk (by kernel_rfl)
      | refine CallN.pure (by assumption) ?_
      | refine GuardK.splitDN (fun h => ?_) (fun h => ?_)
      | refine GuardK.splitD (fun h => ?_) (fun h => ?_)
      | refine CondE.splitDN (fun h => ?_) (fun h => ?_)
      | refine CondE.splitD (fun h => ?_) (fun h => ?_)
      | refine GuardK.splitN (fun h => ?_) (fun h => ?_)
      | refine GuardK.split (fun h => ?_) (fun h => ?_)
      | refine CondE.splitN (fun h => ?_) (fun h => ?_)
      | refine CondE.split (fun h => ?_) (fun h => ?_)
      | refine WeakK.id ?_
      | refine RoundK.next (by omega) ?_ ?_
      | exact trivial
      | simp only [*, go_sem, Nat.reduceAdd, Nat.reduceSub, Nat.reduceMul, Nat.reducePow, Nat.reduceEqDiff, Nat.reduceLT, Nat.reduceLeDiff, Nat.reduceBEq, Nat.reduceBNe, Int.reduceToNat, Int.reduceLT, Int.reduceLE, Int.reduceEq, Int.reduceBNe, Int.reduceBEq, Int.reduceAdd, Int.reduceSub, Int.reduceMul, Int.reduceNeg, ↓reduceIte])
  all_goals (simp only [AssetV.ok]; simp_all)
theorem mag_spec (a : Nat) (h : a < 9223372036854775808) : Abs.Spec Try.prog 77 [] [.int .i64 a] [] (.int .u64 a) := by
  have hd : decide ((a : Int) < 0) = false := by simp
  have hw : IntKind.wrap .u64 (a : Int) = a := by rw [IntKind.wrap_u64]; omega
  refine Abs.Spec.go (n := 10) (np := 1) (rs := [.tmp 2]) mixed Try.func77 rfl rfl rfl rfl rfl (by simp) (by simp) ?_
  simp only [go_sem, Nat.reduceAdd, Nat.reduceSub, Nat.reduceMul, Nat.reducePow, Nat.reduceEqDiff, Nat.reduceLT, Nat.reduceLeDiff, Nat.reduceBEq, Nat.reduceBNe, Int.reduceToNat, Int.reduceLT, Int.reduceLE, Int.reduceEq, Int.reduceBNe, Int.reduceBEq, Int.reduceAdd, Int.reduceSub, Int.reduceMul, Int.reduceNeg, ↓reduceIte, hd, hw]
theorem refTimes_spec (a b : Nat) (ha : a < 9223372036854775808) (hb : b < 9223372036854775808) : Abs.Spec Try.prog 36 [] [.int .i64 a, .int .i64 b] [] (.agg [.int .i64 ((a * b / 18446744073709551616 : Nat) : Int), .int .u64 ((a * b % 18446744073709551616 : Nat) : Int)]) := by
  have h1 := mag_spec a ha
  have h2 := mag_spec b hb
  have h3 := mul64_spec a b (by omega) (by omega)
  have hP : a * b / 18446744073709551616 < 9223372036854775808 := by
    have : a * b < 9223372036854775808 * 9223372036854775808 := Nat.mul_lt_mul'' ha hb
    omega
  have hw : IntKind.wrap .i64 ((a * b / 18446744073709551616 : Nat) : Int) = ((a * b / 18446744073709551616 : Nat) : Int) := by rw [IntKind.wrap_i64]; omega
  have d1 : decide ((a : Int) < 0) = false := by simp
  have d2 : decide ((b : Int) < 0) = false := by simp
  refine Abs.Spec.go (n := 28) (np := 2) (rs := [.cell 4 85]) mixed Try.func36 rfl rfl rfl rfl rfl (by simp) (by simp) ?_
  simp only [go_sem, Nat.reduceAdd, Nat.reduceSub, Nat.reduceMul, Nat.reducePow, Nat.reduceEqDiff, Nat.reduceLT, Nat.reduceLeDiff, Nat.reduceBEq, Nat.reduceBNe, Int.reduceToNat, Int.reduceLT, Int.reduceLE, Int.reduceEq, Int.reduceBNe, Int.reduceBEq, Int.reduceAdd, Int.reduceSub, Int.reduceMul, Int.reduceNeg, ↓reduceIte]
  refine CallN.pure h1 ?_
  simp only [go_sem, Nat.reduceAdd, Nat.reduceSub, Nat.reduceMul, Nat.reducePow, Nat.reduceEqDiff, Nat.reduceLT, Nat.reduceLeDiff, Nat.reduceBEq, Nat.reduceBNe, Int.reduceToNat, Int.reduceLT, Int.reduceLE, Int.reduceEq, Int.reduceBNe, Int.reduceBEq, Int.reduceAdd, Int.reduceSub, Int.reduceMul, Int.reduceNeg, ↓reduceIte]
  refine CallN.pure h2 ?_
  simp only [go_sem, Nat.reduceAdd, Nat.reduceSub, Nat.reduceMul, Nat.reducePow, Nat.reduceEqDiff, Nat.reduceLT, Nat.reduceLeDiff, Nat.reduceBEq, Nat.reduceBNe, Int.reduceToNat, Int.reduceLT, Int.reduceLE, Int.reduceEq, Int.reduceBNe, Int.reduceBEq, Int.reduceAdd, Int.reduceSub, Int.reduceMul, Int.reduceNeg, ↓reduceIte]
  refine CallN.pure h3 ?_
  simp only [go_sem, Nat.reduceAdd, Nat.reduceSub, Nat.reduceMul, Nat.reducePow, Nat.reduceEqDiff, Nat.reduceLT, Nat.reduceLeDiff, Nat.reduceBEq, Nat.reduceBNe, Int.reduceToNat, Int.reduceLT, Int.reduceLE, Int.reduceEq, Int.reduceBNe, Int.reduceBEq, Int.reduceAdd, Int.reduceSub, Int.reduceMul, Int.reduceNeg, ↓reduceIte, hw, d1, d2]
theorem refQuo_spec (P N : Nat) (hN : 0 < N ∧ N < 9223372036854775808) (hP : P < 170141183460469231731687303715884105728) : Abs.Spec Try.prog 35 [] [.agg [.int .i64 ((P / 18446744073709551616 : Nat) : Int), .int .u64 ((P % 18446744073709551616 : Nat) : Int)], .int .i64 N] []
    (.tup [.int .i64 (if P / N ≤ 4611686018427387904 then (P / N : Nat) else (0 : Int)), .int .i64 (if P / N ≤ 4611686018427387904 then (P % N : Nat) else (0 : Int)), .bool (decide (P / N ≤ 4611686018427387904))]) := by
  obtain ⟨H, hH⟩ : ∃ H, H = P / 18446744073709551616 := ⟨_, rfl⟩
  obtain ⟨L, hL⟩ : ∃ L, L = P % 18446744073709551616 := ⟨_, rfl⟩
  have hHL : H * 18446744073709551616 + L = P := by omega
  have hLl : L < 18446744073709551616 := by omega
  have hHl : H < 9223372036854775808 := by omega
  rw [← hH, ← hL]
  obtain ⟨Q, hQ⟩ : ∃ Q, Q = P / N := ⟨_, rfl⟩
  obtain ⟨R, hR⟩ : ∃ R, R = P % N := ⟨_, rfl⟩
  have hRN : R < N := by rw [hR]; exact Nat.mod_lt _ hN.1
  have hd := div64_spec H L N (by omega)
  rw [hHL, ← hQ, ← hR] at hd
  have hbig : N ≤ H → 18446744073709551616 ≤ Q := fun h => by
    rw [hQ, Nat.le_div_iff_mul_le hN.1]
    have := Nat.mul_le_mul_right 18446744073709551616 h
    rw [Nat.mul_comm] at this
    omega
  rw [← hQ, ← hR]
  have d1 : decide ((N : Int) < 1) = false := by simp; omega
  have d2 : decide ((H : Int) < 0) = false := by simp
  have w1 : IntKind.wrap .u64 (H : Int) = H := by rw [IntKind.wrap_u64]; omega
  have w2 : IntKind.wrap .u64 (N : Int) = N := by rw [IntKind.wrap_u64]; omega
  refine Abs.Spec.go (n := 79) (np := 2) (rs := [.tmp 4, .tmp 5, .tmp 6]) mixed Try.func35 rfl rfl rfl rfl rfl (by simp) (by simp) ?_
  simp only [go_sem, Nat.reduceAdd, Nat.reduceSub, Nat.reduceMul, Nat.reducePow, Nat.reduceEqDiff, Nat.reduceLT, Nat.reduceLeDiff, Nat.reduceBEq, Nat.reduceBNe, Int.reduceToNat, Int.reduceLT, Int.reduceLE, Int.reduceEq, Int.reduceBNe, Int.reduceBEq, Int.reduceAdd, Int.reduceSub, Int.reduceMul, Int.reduceNeg, ↓reduceIte, d1, d2, w1, w2]
  refine ⟨DrawN.mk (by kernel_rfl), OkN.mk (by kernel_rfl), OkN.mk (by kernel_rfl), ?_⟩
  refine CondE.splitD (fun h => ?_) (fun h => ?_)
  · have h1 := hbig (by omega)
    have h2 : ¬ Q ≤ 4611686018427387904 := by omega
    simp only [go_sem, Nat.reduceAdd, Nat.reduceSub, Nat.reduceMul, Nat.reducePow, Nat.reduceEqDiff, Nat.reduceLT, Nat.reduceLeDiff, Nat.reduceBEq, Nat.reduceBNe, Int.reduceToNat, Int.reduceLT, Int.reduceLE, Int.reduceEq, Int.reduceBNe, Int.reduceBEq, Int.reduceAdd, Int.reduceSub, Int.reduceMul, Int.reduceNeg, ↓reduceIte, if_neg h2, decide_eq_false h2]
  · have h1 : H < N := by omega
    simp only [go_sem, Nat.reduceAdd, Nat.reduceSub, Nat.reduceMul, Nat.reducePow, Nat.reduceEqDiff, Nat.reduceLT, Nat.reduceLeDiff, Nat.reduceBEq, Nat.reduceBNe, Int.reduceToNat, Int.reduceLT, Int.reduceLE, Int.reduceEq, Int.reduceBNe, Int.reduceBEq, Int.reduceAdd, Int.reduceSub, Int.reduceMul, Int.reduceNeg, ↓reduceIte, w1, w2]
    refine CallN.pure (hd h1 hLl) ?_
    simp only [go_sem, Nat.reduceAdd, Nat.reduceSub, Nat.reduceMul, Nat.reducePow, Nat.reduceEqDiff, Nat.reduceLT, Nat.reduceLeDiff, Nat.reduceBEq, Nat.reduceBNe, Int.reduceToNat, Int.reduceLT, Int.reduceLE, Int.reduceEq, Int.reduceBNe, Int.reduceBEq, Int.reduceAdd, Int.reduceSub, Int.reduceMul, Int.reduceNeg, ↓reduceIte]
    refine CondE.splitD (fun hq => ?_) (fun hq => ?_)
    · have h2 : ¬ Q ≤ 4611686018427387904 := by omega
      simp only [go_sem, Nat.reduceAdd, Nat.reduceSub, Nat.reduceMul, Nat.reducePow, Nat.reduceEqDiff, Nat.reduceLT, Nat.reduceLeDiff, Nat.reduceBEq, Nat.reduceBNe, Int.reduceToNat, Int.reduceLT, Int.reduceLE, Int.reduceEq, Int.reduceBNe, Int.reduceBEq, Int.reduceAdd, Int.reduceSub, Int.reduceMul, Int.reduceNeg, ↓reduceIte, if_neg h2, decide_eq_false h2]
    · have h2 : Q ≤ 4611686018427387904 := by omega
      have w3 : IntKind.wrap .i64 (Q : Int) = Q := wr64 (by omega) (by omega)
      have w4 : IntKind.wrap .i64 (R : Int) = R := wr64 (by omega) (by omega)
      simp only [go_sem, Nat.reduceAdd, Nat.reduceSub, Nat.reduceMul, Nat.reducePow, Nat.reduceEqDiff, Nat.reduceLT, Nat.reduceLeDiff, Nat.reduceBEq, Nat.reduceBNe, Int.reduceToNat, Int.reduceLT, Int.reduceLE, Int.reduceEq, Int.reduceBNe, Int.reduceBEq, Int.reduceAdd, Int.reduceSub, Int.reduceMul, Int.reduceNeg, ↓reduceIte, if_pos h2, decide_eq_true h2, w3, w4]
theorem refValue_spec (x : AssetV) (u : Int) : Abs.Spec Try.prog 13 [] [.agg x.cells, .int .i64 u] [] (.tup [.int .i64 (x.V u), .int .i64 (x.E u)]) := by
  have h1 := refAsset_spec x
  have h2 := within15_spec u 0 1099511627776
  simp only [AssetV.cells] at h1 ⊢
  refine Abs.Spec.go (n := 33) (np := 2) (rs := [.tmp 4, .tmp 5]) mixed Try.func13 rfl rfl rfl rfl rfl (by simp) (by simp) ?_
  simp only [go_sem, Nat.reduceAdd, Nat.reduceSub, Nat.reduceMul, Nat.reducePow, Nat.reduceEqDiff, Nat.reduceLT, Nat.reduceLeDiff, Nat.reduceBEq, Nat.reduceBNe, Int.reduceToNat, Int.reduceLT, Int.reduceLE, Int.reduceEq, Int.reduceBNe, Int.reduceBEq, Int.reduceAdd, Int.reduceSub, Int.reduceMul, Int.reduceNeg, ↓reduceIte]
  refine CallN.pure h1 ?_
  cases hok : x.ok
  · have e1 : x.V u = 0 := by simp [AssetV.V, AssetV.fit, hok]
    have e2 : x.E u = 3 := by simp [AssetV.E, AssetV.fit, hok]
    simp only [go_sem, Nat.reduceAdd, Nat.reduceSub, Nat.reduceMul, Nat.reducePow, Nat.reduceEqDiff, Nat.reduceLT, Nat.reduceLeDiff, Nat.reduceBEq, Nat.reduceBNe, Int.reduceToNat, Int.reduceLT, Int.reduceLE, Int.reduceEq, Int.reduceBNe, Int.reduceBEq, Int.reduceAdd, Int.reduceSub, Int.reduceMul, Int.reduceNeg, ↓reduceIte, e1, e2]
  simp only [go_sem, Nat.reduceAdd, Nat.reduceSub, Nat.reduceMul, Nat.reducePow, Nat.reduceEqDiff, Nat.reduceLT, Nat.reduceLeDiff, Nat.reduceBEq, Nat.reduceBNe, Int.reduceToNat, Int.reduceLT, Int.reduceLE, Int.reduceEq, Int.reduceBNe, Int.reduceBEq, Int.reduceAdd, Int.reduceSub, Int.reduceMul, Int.reduceNeg, ↓reduceIte]
  refine CallN.pure h2 ?_
  cases hin : within u 0 1099511627776
  · have hf : x.fit u = false := by simp [AssetV.fit, hok]; simp [within] at hin; omega
    have e1 : x.V u = 0 := by simp [AssetV.V, hf]
    have e2 : x.E u = 3 := by simp [AssetV.E, hf]
    simp only [go_sem, Nat.reduceAdd, Nat.reduceSub, Nat.reduceMul, Nat.reducePow, Nat.reduceEqDiff, Nat.reduceLT, Nat.reduceLeDiff, Nat.reduceBEq, Nat.reduceBNe, Int.reduceToNat, Int.reduceLT, Int.reduceLE, Int.reduceEq, Int.reduceBNe, Int.reduceBEq, Int.reduceAdd, Int.reduceSub, Int.reduceMul, Int.reduceNeg, ↓reduceIte, e1, e2]
  have hf : x.fit u = true := by simp [AssetV.fit, hok]; simp [within] at hin; omega
  have hr := (AssetV.ok_iff x).1 hok
  obtain ⟨U, rfl⟩ : ∃ U : Nat, u = U := ⟨u.toNat, by simp [within] at hin; omega⟩
  have hU : U ≤ 1099511627776 := by simp [within] at hin; omega
  obtain ⟨C, hC⟩ : ∃ C : Nat, x.c = C := ⟨x.c.toNat, by omega⟩
  obtain ⟨M, hM⟩ : ∃ M : Nat, 10000 - x.d = M := ⟨(10000 - x.d).toNat, by omega⟩
  have hC1 : C ≤ 1073741824 := by omega
  have hM1 : M ≤ 10000 := by omega
  have hCM : C * M ≤ 1073741824 * 10000 := Nat.mul_le_mul hC1 hM1
  have hP : U * (C * M) ≤ 1099511627776 * (1073741824 * 10000) := Nat.mul_le_mul hU hCM
  have w1 : IntKind.wrap .i64 (10000 - x.d) = M := by rw [wr64 (by omega) (by omega)]; omega
  have w2 : IntKind.wrap .i64 (x.c * (M : Int)) = ((C * M : Nat) : Int) := by
    rw [hC, ← Int.natCast_mul, wr64 (by omega) (by omega)]
  have hT := refTimes_spec U (C * M) (by omega) (by omega)
  have hQ := refQuo_spec (U * (C * M)) 10000 (by omega) (by omega)
  have ePP : x.P U = ((U * (C * M) : Nat) : Int) := by
    simp only [AssetV.P, hM, hC]
    rw [Int.natCast_mul, Int.natCast_mul, Int.mul_assoc, Int.mul_comm (M : Int)]
  simp only [go_sem, Nat.reduceAdd, Nat.reduceSub, Nat.reduceMul, Nat.reducePow, Nat.reduceEqDiff, Nat.reduceLT, Nat.reduceLeDiff, Nat.reduceBEq, Nat.reduceBNe, Int.reduceToNat, Int.reduceLT, Int.reduceLE, Int.reduceEq, Int.reduceBNe, Int.reduceBEq, Int.reduceAdd, Int.reduceSub, Int.reduceMul, Int.reduceNeg, ↓reduceIte, w1, w2]
  refine CallN.pure hT ?_
  simp only [go_sem, Nat.reduceAdd, Nat.reduceSub, Nat.reduceMul, Nat.reducePow, Nat.reduceEqDiff, Nat.reduceLT, Nat.reduceLeDiff, Nat.reduceBEq, Nat.reduceBNe, Int.reduceToNat, Int.reduceLT, Int.reduceLE, Int.reduceEq, Int.reduceBNe, Int.reduceBEq, Int.reduceAdd, Int.reduceSub, Int.reduceMul, Int.reduceNeg, ↓reduceIte]
  refine CallN.pure hQ ?_
  by_cases hq : U * (C * M) / 10000 ≤ 4611686018427387904
  · have hR : inR (x.P U / 10000) = true := by rw [ePP]; simp only [inR, Bool.and_eq_true, decide_eq_true_eq]; omega
    have e1 : x.V U = ((U * (C * M) / 10000 : Nat) : Int) := by
      simp only [AssetV.V, hf, if_true, quoQ, hR]
      rw [ePP]; rfl
    have e2 : x.E U = 0 := by simp [AssetV.E, hf, quoE, hR]
    simp only [go_sem, Nat.reduceAdd, Nat.reduceSub, Nat.reduceMul, Nat.reducePow, Nat.reduceEqDiff, Nat.reduceLT, Nat.reduceLeDiff, Nat.reduceBEq, Nat.reduceBNe, Int.reduceToNat, Int.reduceLT, Int.reduceLE, Int.reduceEq, Int.reduceBNe, Int.reduceBEq, Int.reduceAdd, Int.reduceSub, Int.reduceMul, Int.reduceNeg, ↓reduceIte, if_pos hq, decide_eq_true hq, e1, e2]
  · have hR : inR (x.P U / 10000) = false := by rw [ePP]; simp only [inR, Bool.and_eq_false_iff, decide_eq_false_iff_not]; omega
    have e1 : x.V U = 0 := by simp [AssetV.V, hf, quoQ, hR]
    have e2 : x.E U = 1 := by simp [AssetV.E, hf, quoE, hR]
    simp only [go_sem, Nat.reduceAdd, Nat.reduceSub, Nat.reduceMul, Nat.reducePow, Nat.reduceEqDiff, Nat.reduceLT, Nat.reduceLeDiff, Nat.reduceBEq, Nat.reduceBNe, Int.reduceToNat, Int.reduceLT, Int.reduceLE, Int.reduceEq, Int.reduceBNe, Int.reduceBEq, Int.reduceAdd, Int.reduceSub, Int.reduceMul, Int.reduceNeg, ↓reduceIte, if_neg hq, decide_eq_false hq, e1, e2]
end Go.Proofs.Ytbllopdcbkeadaa
