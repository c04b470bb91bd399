/- The law CoverValues; no theorem of a claim. -/
import Derived.Test.YthgplioeefjbfaaS4
set_option linter.unusedSimpArgs false
set_option linter.unusedVariables false
namespace Go.Proofs.Ythgplioeefjbfaa
open Go.Abs
theorem wakes_spec : Abs.Spec Try.prog 5 [] [] [] (.bool true) := by
  refine Abs.Spec.go (n := 14) (np := 0) (rs := [.tmp 0]) mixed Try.func5 rfl rfl rfl rfl rfl (by simp) (by simp) ?_
  simp only [go_sem, Nat.reduceAdd, Nat.reduceSub, Nat.reduceMul, Nat.reduceEqDiff, Nat.reduceLT, Nat.reduceLeDiff, Nat.reduceBEq, Nat.reduceBNe, Int.reduceToNat, Int.reduceLT, Int.reduceLE, Int.reduceEq, Int.reduceBNe, Int.reduceBEq, Int.reduceAdd, Int.reduceSub, Int.reduceMul, Int.reduceNeg, ↓reduceIte]
  have hv := value_spec ⟨1, 0, 100, 2500⟩ 3
  have e1 : AssetV.V ⟨1, 0, 100, 2500⟩ 3 = 225 := by decide
  have e2 : AssetV.E ⟨1, 0, 100, 2500⟩ 3 = 0 := by decide
  rw [e1, e2] at hv
  refine CallN.pure hv ?_
  simp only [go_sem, Nat.reduceAdd, Nat.reduceSub, Nat.reduceMul, Nat.reduceEqDiff, Nat.reduceLT, Nat.reduceLeDiff, Nat.reduceBEq, Nat.reduceBNe, Int.reduceToNat, Int.reduceLT, Int.reduceLE, Int.reduceEq, Int.reduceBNe, Int.reduceBEq, Int.reduceAdd, Int.reduceSub, Int.reduceMul, Int.reduceNeg, ↓reduceIte]
section
variable (x : AssetV)
theorem fit_iff (u : Int) : x.fit u = true ↔ x.ok = true ∧ 0 ≤ u ∧ u ≤ 1099511627776 := by simp [AssetV.fit, and_assoc]
theorem E_ok {u : Int} (h : x.E u = 0) : x.ok = true ∧ 0 ≤ u ∧ x.V u = x.P u / 10000 := by
  unfold AssetV.E at h
  split at h
  · rename_i hf
    have hf' := (fit_iff x u).1 hf
    refine ⟨hf'.1, hf'.2.1, ?_⟩
    unfold quoE at h
    split at h
    · cases h
    · split at h
      · rename_i hi
        simp [AssetV.V, hf, quoQ, hi]
      · cases h
  · cases h
theorem E_small {u : Int} (hok : x.ok = true) (h0 : 0 ≤ u) (h1 : u ≤ 2147483648) : x.E u = 0 ∧ x.V u = x.P u / 10000 := by
  have hk := x.ok_iff.1 hok
  have hf : x.fit u = true := (fit_iff x u).2 ⟨hok, h0, by omega⟩
  have hb : 0 ≤ u * (10000 - x.d) ∧ u * (10000 - x.d) ≤ 21474836480000 := by
    refine ⟨Int.mul_nonneg (by omega) (by omega), ?_⟩
    exact Int.le_trans (Int.mul_le_mul h1 (show 10000 - x.d ≤ 10000 by omega) (by omega) (by omega)) (by decide)
  have hb2 : 0 ≤ x.P u ∧ x.P u ≤ 23058430092136939520000 := by
    refine ⟨Int.mul_nonneg hb.1 (by omega), ?_⟩
    exact Int.le_trans (Int.mul_le_mul hb.2 hk.2.2.1.2 (by omega) (by omega)) (by decide)
  have hi : inR (x.P u / 10000) = true := by simp [inR]; omega
  simp [AssetV.E, AssetV.V, hf, quoE, quoQ, hi]
end
theorem P_add (x : AssetV) (n m : Int) : x.P (n + m) = x.P n + x.P m := by simp only [AssetV.P, Int.add_mul]
theorem P_mono {x y : AssetV} {n m : Int} (h0 : 0 ≤ n) (h : n ≤ m) (hd : y.d ≤ x.d) (hc : x.c ≤ y.c) (hx : x.d ≤ 10000) (hcx : 0 ≤ x.c) : x.P n ≤ y.P m := by
  unfold AssetV.P
  exact Int.mul_le_mul (Int.mul_le_mul h (by omega) (by omega) (by omega)) hc hcx (Int.mul_nonneg (by omega) (by omega))
theorem P_top {x : AssetV} {n : Int} (h0 : 0 ≤ n) (hd : 0 ≤ x.d) (hc : 0 ≤ x.c) : x.P n ≤ n * x.c * 10000 := by
  unfold AssetV.P
  have h1 : n * (10000 - x.d) ≤ n * 10000 := Int.mul_le_mul_of_nonneg_left (by omega) h0
  have h2 := Int.mul_le_mul_of_nonneg_right h1 hc
  have h3 : n * 10000 * x.c = n * x.c * 10000 := by rw [Int.mul_assoc, Int.mul_comm 10000, ← Int.mul_assoc]
  omega
set_option maxRecDepth 20000 in
theorem law_spec (x : AssetV) (n m price cut : Int) : Abs.Spec Try.prog 3 [] [.agg x.cells, .int .i64 n, .int .i64 m, .int .i64 price, .int .i64 cut] [] (.bool true) := by
  refine Abs.Spec.go (n := 119) (np := 5) (rs := [.tmp 10]) mixed Try.func3 rfl rfl rfl rfl rfl (by simp) (by simp) ?_
  have h1 := value_spec x n
  have h2 := value_spec x m
  simp only [AssetV.cells] at h1 h2
  simp only [go_sem, Nat.reduceAdd, Nat.reduceSub, Nat.reduceMul, Nat.reduceEqDiff, Nat.reduceLT, Nat.reduceLeDiff, Nat.reduceBEq, Nat.reduceBNe, Int.reduceToNat, Int.reduceLT, Int.reduceLE, Int.reduceEq, Int.reduceBNe, Int.reduceBEq, Int.reduceAdd, Int.reduceSub, Int.reduceMul, Int.reduceNeg, ↓reduceIte, AssetV.cells]
  refine CallN.pure h1 ?_
  simp only [go_sem, Nat.reduceAdd, Nat.reduceSub, Nat.reduceMul, Nat.reduceEqDiff, Nat.reduceLT, Nat.reduceLeDiff, Nat.reduceBEq, Nat.reduceBNe, Int.reduceToNat, Int.reduceLT, Int.reduceLE, Int.reduceEq, Int.reduceBNe, Int.reduceBEq, Int.reduceAdd, Int.reduceSub, Int.reduceMul, Int.reduceNeg, ↓reduceIte]
  refine CallN.pure h2 ?_
  simp only [go_sem, Nat.reduceAdd, Nat.reduceSub, Nat.reduceMul, Nat.reduceEqDiff, Nat.reduceLT, Nat.reduceLeDiff, Nat.reduceBEq, Nat.reduceBNe, Int.reduceToNat, Int.reduceLT, Int.reduceLE, Int.reduceEq, Int.reduceBNe, Int.reduceBEq, Int.reduceAdd, Int.reduceSub, Int.reduceMul, Int.reduceNeg, ↓reduceIte]
  repeat' (with_reducible first
    | refine GuardK.splitN (fun h => ?_) (fun h => ?_)
    | refine GuardK.split (fun h => ?_) (fun h => ?_)
    | refine CondE.split (fun h => ?_) (fun h => ?_)
    | refine CallN.pure wakes_spec ?_
    | simp only [*, go_sem, Nat.reduceAdd, Nat.reduceSub, Nat.reduceMul, Nat.reduceEqDiff, Nat.reduceLT, Nat.reduceLeDiff, Nat.reduceBEq, Nat.reduceBNe, Int.reduceToNat, Int.reduceLT, Int.reduceLE, Int.reduceEq, Int.reduceBNe, Int.reduceBEq, Int.reduceAdd, Int.reduceSub, Int.reduceMul, Int.reduceNeg, ↓reduceIte])
  rename_i g1 g2 g3
  have g4 := h
  simp only [bne_eq_false_iff_eq, decide_eq_false_iff_not] at g1 g2 g3 g4
  obtain ⟨ok, n0, v1⟩ := E_ok x g1
  obtain ⟨-, m0, v2⟩ := E_ok x g2
  have hk := x.ok_iff.1 ok
  obtain ⟨e3, v3⟩ := E_small x ok (show 0 ≤ n + m by omega) (by omega)
  have P0 : ∀ u, 0 ≤ u → 0 ≤ x.P u := fun u hu => Int.mul_nonneg (Int.mul_nonneg hu (by omega)) (by omega)
  have pn := P0 n n0
  have pm := P0 m m0
  have pa := P_add x n m
  have pt := P_top (x := x) n0 hk.2.2.2.1 (by omega)
  have pmo : n ≤ m → x.P n ≤ x.P m := fun h => P_mono n0 h (Int.le_refl _) (Int.le_refl _) hk.2.2.2.2 (by omega)
  have pp : n * x.c ≤ 1152921504606846976 := Int.le_trans (Int.mul_le_mul (show n ≤ 1073741824 by omega) hk.2.2.1.2 (by omega) (by omega)) (by decide)
  have pp0 : 0 ≤ n * x.c := Int.mul_nonneg n0 (by omega)
  have pu := P_top (x := x) m0 hk.2.2.2.1 (by omega)
  have pp2 : m * x.c ≤ 1152921504606846976 := Int.le_trans (Int.mul_le_mul (show m ≤ 1073741824 by omega) hk.2.2.1.2 (by omega) (by omega)) (by decide)
  have w1 : IntKind.wrap .i64 (n + m) = n + m := wrap64 (by omega) (by omega)
  have w2 : IntKind.wrap .i64 (n * x.c) = n * x.c := wrap64 (by omega) (by omega)
  have w3 : IntKind.wrap .i64 (x.V n + x.V m) = x.V n + x.V m := wrap64 (by omega) (by omega)
  have w4 : IntKind.wrap .i64 (x.V n + x.V m + 1) = x.V n + x.V m + 1 := wrap64 (by omega) (by omega)
  have c1 : decide (x.V n < 0) = false := by simp; omega
  have c2 : decide (n * x.c < x.V n) = false := by simp; omega
  have c3 : decide (x.V (n + m) < x.V n + x.V m) = false := by simp; omega
  have c4 : decide (x.V n + x.V m + 1 < x.V (n + m)) = false := by simp; omega
  have c5 : n ≤ m → decide (x.V m < x.V n) = false := fun h => by have := pmo h; simp; omega
  have h3 := value_spec x (n + m)
  simp only [AssetV.cells, e3] at h3
  have h4 := value_spec ⟨x.a, x.b, max x.c price, min x.d cut⟩ n
  simp only [AssetV.cells] at h4
  simp only [w1, go_sem, Nat.reduceAdd, Nat.reduceSub, Nat.reduceMul, Nat.reduceEqDiff, Nat.reduceLT, Nat.reduceLeDiff, Nat.reduceBEq, Nat.reduceBNe, Int.reduceToNat, Int.reduceLT, Int.reduceLE, Int.reduceEq, Int.reduceBNe, Int.reduceBEq, Int.reduceAdd, Int.reduceSub, Int.reduceMul, Int.reduceNeg, ↓reduceIte]
  refine CallN.pure h3 ?_
  simp only [go_sem, Nat.reduceAdd, Nat.reduceSub, Nat.reduceMul, Nat.reduceEqDiff, Nat.reduceLT, Nat.reduceLeDiff, Nat.reduceBEq, Nat.reduceBNe, Int.reduceToNat, Int.reduceLT, Int.reduceLE, Int.reduceEq, Int.reduceBNe, Int.reduceBEq, Int.reduceAdd, Int.reduceSub, Int.reduceMul, Int.reduceNeg, ↓reduceIte, Int.reduceBNe, w1, w2, w3, w4, c1, c2, c3, c4]
  have c6 : AssetV.E ⟨x.a, x.b, max x.c price, min x.d cut⟩ n = 0 → decide (x.V n ≤ AssetV.V ⟨x.a, x.b, max x.c price, min x.d cut⟩ n) = true := fun h => by
    obtain ⟨ok', -, v4⟩ := E_ok _ h
    have hk' := (AssetV.ok_iff _).1 ok'
    simp only at hk'
    have := P_mono (x := x) (y := ⟨x.a, x.b, max x.c price, min x.d cut⟩) n0 (Int.le_refl n) (Int.min_le_left _ _) (Int.le_max_left _ _) hk.2.2.2.2 (by omega)
    simp only [decide_eq_true_eq]
    rw [v1, v4]
    omega
  refine GuardK.split (fun h5 => ?_) (fun h5 => ?_)
  · have c7 := c5 (by simpa using h5)
    simp only [go_sem, Nat.reduceAdd, Nat.reduceSub, Nat.reduceMul, Nat.reduceEqDiff, Nat.reduceLT, Nat.reduceLeDiff, Nat.reduceBEq, Nat.reduceBNe, Int.reduceToNat, Int.reduceLT, Int.reduceLE, Int.reduceEq, Int.reduceBNe, Int.reduceBEq, Int.reduceAdd, Int.reduceSub, Int.reduceMul, Int.reduceNeg, ↓reduceIte, h5, c7]
    repeat' (with_reducible first
      | refine And.intro ?_ ?_
      | exact DrawN.mk (by kernel_rfl)
      | exact OkN.mk (by kernel_rfl)
      | refine CallN.pure h4 ?_
      | simp only [go_sem, Nat.reduceAdd, Nat.reduceSub, Nat.reduceMul, Nat.reduceEqDiff, Nat.reduceLT, Nat.reduceLeDiff, Nat.reduceBEq, Nat.reduceBNe, Int.reduceToNat, Int.reduceLT, Int.reduceLE, Int.reduceEq, Int.reduceBNe, Int.reduceBEq, Int.reduceAdd, Int.reduceSub, Int.reduceMul, Int.reduceNeg, ↓reduceIte, h5])
    refine GuardK.splitN (fun h6 => ?_) (fun h6 => ?_)
    · have c8 := c6 (by simpa using h6)
      simp only [go_sem, Nat.reduceAdd, Nat.reduceSub, Nat.reduceMul, Nat.reduceEqDiff, Nat.reduceLT, Nat.reduceLeDiff, Nat.reduceBEq, Nat.reduceBNe, Int.reduceToNat, Int.reduceLT, Int.reduceLE, Int.reduceEq, Int.reduceBNe, Int.reduceBEq, Int.reduceAdd, Int.reduceSub, Int.reduceMul, Int.reduceNeg, ↓reduceIte, h6, c8]
      refine CallN.pure wakes_spec ?_
      simp only [go_sem, Nat.reduceAdd, Nat.reduceSub, Nat.reduceMul, Nat.reduceEqDiff, Nat.reduceLT, Nat.reduceLeDiff, Nat.reduceBEq, Nat.reduceBNe, Int.reduceToNat, Int.reduceLT, Int.reduceLE, Int.reduceEq, Int.reduceBNe, Int.reduceBEq, Int.reduceAdd, Int.reduceSub, Int.reduceMul, Int.reduceNeg, ↓reduceIte]
    · simp only [go_sem, Nat.reduceAdd, Nat.reduceSub, Nat.reduceMul, Nat.reduceEqDiff, Nat.reduceLT, Nat.reduceLeDiff, Nat.reduceBEq, Nat.reduceBNe, Int.reduceToNat, Int.reduceLT, Int.reduceLE, Int.reduceEq, Int.reduceBNe, Int.reduceBEq, Int.reduceAdd, Int.reduceSub, Int.reduceMul, Int.reduceNeg, ↓reduceIte, h6]
      refine CallN.pure wakes_spec ?_
      simp only [go_sem, Nat.reduceAdd, Nat.reduceSub, Nat.reduceMul, Nat.reduceEqDiff, Nat.reduceLT, Nat.reduceLeDiff, Nat.reduceBEq, Nat.reduceBNe, Int.reduceToNat, Int.reduceLT, Int.reduceLE, Int.reduceEq, Int.reduceBNe, Int.reduceBEq, Int.reduceAdd, Int.reduceSub, Int.reduceMul, Int.reduceNeg, ↓reduceIte]
  · simp only [go_sem, Nat.reduceAdd, Nat.reduceSub, Nat.reduceMul, Nat.reduceEqDiff, Nat.reduceLT, Nat.reduceLeDiff, Nat.reduceBEq, Nat.reduceBNe, Int.reduceToNat, Int.reduceLT, Int.reduceLE, Int.reduceEq, Int.reduceBNe, Int.reduceBEq, Int.reduceAdd, Int.reduceSub, Int.reduceMul, Int.reduceNeg, ↓reduceIte, h5]
    repeat' (with_reducible first
      | refine And.intro ?_ ?_
      | exact DrawN.mk (by kernel_rfl)
      | exact OkN.mk (by kernel_rfl)
      | refine CallN.pure h4 ?_
      | simp only [go_sem, Nat.reduceAdd, Nat.reduceSub, Nat.reduceMul, Nat.reduceEqDiff, Nat.reduceLT, Nat.reduceLeDiff, Nat.reduceBEq, Nat.reduceBNe, Int.reduceToNat, Int.reduceLT, Int.reduceLE, Int.reduceEq, Int.reduceBNe, Int.reduceBEq, Int.reduceAdd, Int.reduceSub, Int.reduceMul, Int.reduceNeg, ↓reduceIte, h5])
    refine GuardK.splitN (fun h6 => ?_) (fun h6 => ?_)
    · have c8 := c6 (by simpa using h6)
      simp only [go_sem, Nat.reduceAdd, Nat.reduceSub, Nat.reduceMul, Nat.reduceEqDiff, Nat.reduceLT, Nat.reduceLeDiff, Nat.reduceBEq, Nat.reduceBNe, Int.reduceToNat, Int.reduceLT, Int.reduceLE, Int.reduceEq, Int.reduceBNe, Int.reduceBEq, Int.reduceAdd, Int.reduceSub, Int.reduceMul, Int.reduceNeg, ↓reduceIte, h6, c8]
      refine CallN.pure wakes_spec ?_
      simp only [go_sem, Nat.reduceAdd, Nat.reduceSub, Nat.reduceMul, Nat.reduceEqDiff, Nat.reduceLT, Nat.reduceLeDiff, Nat.reduceBEq, Nat.reduceBNe, Int.reduceToNat, Int.reduceLT, Int.reduceLE, Int.reduceEq, Int.reduceBNe, Int.reduceBEq, Int.reduceAdd, Int.reduceSub, Int.reduceMul, Int.reduceNeg, ↓reduceIte]
    · simp only [go_sem, Nat.reduceAdd, Nat.reduceSub, Nat.reduceMul, Nat.reduceEqDiff, Nat.reduceLT, Nat.reduceLeDiff, Nat.reduceBEq, Nat.reduceBNe, Int.reduceToNat, Int.reduceLT, Int.reduceLE, Int.reduceEq, Int.reduceBNe, Int.reduceBEq, Int.reduceAdd, Int.reduceSub, Int.reduceMul, Int.reduceNeg, ↓reduceIte, h6]
      refine CallN.pure wakes_spec ?_
      simp only [go_sem, Nat.reduceAdd, Nat.reduceSub, Nat.reduceMul, Nat.reduceEqDiff, Nat.reduceLT, Nat.reduceLeDiff, Nat.reduceBEq, Nat.reduceBNe, Int.reduceToNat, Int.reduceLT, Int.reduceLE, Int.reduceEq, Int.reduceBNe, Int.reduceBEq, Int.reduceAdd, Int.reduceSub, Int.reduceMul, Int.reduceNeg, ↓reduceIte]
end Go.Proofs.Ythgplioeefjbfaa
