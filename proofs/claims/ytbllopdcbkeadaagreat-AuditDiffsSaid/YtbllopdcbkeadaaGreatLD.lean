/- For CoverShorts: differences. Wides: of one word. Wides back to a word. Sums of wides. The reference's wides back to a word. The reference's sum of wides. No theorem of a claim. -/
import Derived.Test.YtbllopdcbkeadaaGreatLC
import Derived.Test.YtbllopdcbkeadaaGreatAbcWalk
set_option linter.unusedSimpArgs false
set_option linter.unusedVariables false
namespace Go.Proofs.YtbllopdcbkeadaaGreat
open Go.Abs
theorem inR_iff {x : Int} : inR x = true ↔ -4611686018427387904 ≤ x ∧ x ≤ 4611686018427387904 := by simp [inR]
end Go.Proofs.YtbllopdcbkeadaaGreat
set_option linter.unusedSimpArgs false
set_option linter.unusedVariables false
namespace Go.Proofs.YtbllopdcbkeadaaGreat
open Go.Abs
/-- a number as two words -/
def wd (S : Int) : List D := [.int .i64 (S / 18446744073709551616), .int .u64 (S % 18446744073709551616)]
theorem shr63s (n : Int) (h : -9223372036854775808 ≤ n ∧ n ≤ 9223372036854775807) : ishr .i64 n 63 = n / 18446744073709551616 := by
  have : ishr .i64 n 63 = n.fdiv (2 ^ 63) := rfl
  rw [this, Int.fdiv_eq_ediv_of_nonneg _ (by omega)]
  omega
theorem wideOf_spec (n : Int) (h : -9223372036854775808 ≤ n ∧ n ≤ 9223372036854775807) : Abs.Spec Tryz.prog 62 [] [.int .i64 n] [] (.agg (wd n)) := by
  have h1 := shr63s n h
  have h2 : IntKind.wrap .u64 n = n % 18446744073709551616 := IntKind.wrap_u64 n
  refine Abs.Spec.go (n := 8) (np := 1) (rs := [.cell 2 109]) mixed Tryz.func62 rfl rfl rfl rfl rfl (by simp) (by simp) ?_
  simp only [go_sem, Nat.reduceAdd, Nat.reduceSub, Nat.reduceMul, Nat.reducePow, Nat.reduceEqDiff, Nat.reduceLT, Nat.reduceLeDiff, Nat.reduceBEq, Nat.reduceBNe, Int.reduceToNat, Int.reduceLT, Int.reduceLE, Int.reduceEq, Int.reduceBNe, Int.reduceBEq, Int.reduceAdd, Int.reduceSub, Int.reduceMul, Int.reduceNeg, ↓reduceIte, h1, h2, wd]
end Go.Proofs.YtbllopdcbkeadaaGreat
set_option linter.unusedSimpArgs false
set_option linter.unusedVariables false
namespace Go.Proofs.YtbllopdcbkeadaaGreat
open Go.Abs
theorem wideInt_spec (S : Int) : Abs.Spec Tryz.prog 132 [] [.agg (wd S)] [] (.tup [.int .i64 (if inR S then S else 0), .int .i64 (if inR S then 0 else 1)]) := by
  obtain ⟨n, hn⟩ : ∃ n, n = IntKind.wrap .i64 (S % 18446744073709551616) := ⟨_, rfl⟩
  have hn1 : n = if S % 18446744073709551616 < 9223372036854775808 then S % 18446744073709551616 else S % 18446744073709551616 - 18446744073709551616 := by
    rw [hn, IntKind.wrap_i64]; split <;> omega
  have hnr : -9223372036854775808 ≤ n ∧ n ≤ 9223372036854775807 := by rw [hn1]; split <;> omega
  have hO := wideOf_spec n hnr
  have hr : Abs.Spec Tryz.prog 90 [] [.sl 1 [[.int .i64 n]]] [] (.bool (right [n])) := right_spec [n] (by simp)
  rw [right_one] at hr
  have hm : (S % 18446744073709551616 == n % 18446744073709551616) = true := by rw [beq_iff_eq, hn1]; split <;> omega
  simp only [wd] at hO ⊢
  refine Abs.Spec.go (n := 19) (np := 1) (rs := [.tmp 2, .tmp 3]) mixed Tryz.func132 rfl rfl rfl rfl rfl (by simp) (by simp) ?_
  simp only [go_sem, Nat.reduceAdd, Nat.reduceSub, Nat.reduceMul, Nat.reducePow, Nat.reduceEqDiff, Nat.reduceLT, Nat.reduceLeDiff, Nat.reduceBEq, Nat.reduceBNe, Int.reduceToNat, Int.reduceLT, Int.reduceLE, Int.reduceEq, Int.reduceBNe, Int.reduceBEq, Int.reduceAdd, Int.reduceSub, Int.reduceMul, Int.reduceNeg, ↓reduceIte, ← hn]
  refine ⟨DrawN.mk (by kernel_rfl), OkN.mk (by kernel_rfl), CallN.pure hO ?_⟩
  by_cases hS : -9223372036854775808 ≤ S ∧ S < 9223372036854775808
  · have hnS : n = S := by rw [hn1]; split <;> omega
    have hq : (S / 18446744073709551616 == n / 18446744073709551616) = true := by rw [hnS]; exact beq_self_eq_true _
    simp only [go_sem, Nat.reduceAdd, Nat.reduceSub, Nat.reduceMul, Nat.reducePow, Nat.reduceEqDiff, Nat.reduceLT, Nat.reduceLeDiff, Nat.reduceBEq, Nat.reduceBNe, Int.reduceToNat, Int.reduceLT, Int.reduceLE, Int.reduceEq, Int.reduceBNe, Int.reduceBEq, Int.reduceAdd, Int.reduceSub, Int.reduceMul, Int.reduceNeg, ↓reduceIte, hm, hq]
    refine ⟨OkN.mk (by kernel_rfl), ?_⟩
    refine CallN.gen [] [] true (by simp) ?_
    simp only [go_sem, Nat.reduceAdd, Nat.reduceSub, Nat.reduceMul, Nat.reducePow, Nat.reduceEqDiff, Nat.reduceLT, Nat.reduceLeDiff, Nat.reduceBEq, Nat.reduceBNe, Int.reduceToNat, Int.reduceLT, Int.reduceLE, Int.reduceEq, Int.reduceBNe, Int.reduceBEq, Int.reduceAdd, Int.reduceSub, Int.reduceMul, Int.reduceNeg, ↓reduceIte]
    refine CallG.intro hr ?_
    rw [hnS]
    cases hi : inR S
    · simp only [go_sem, Nat.reduceAdd, Nat.reduceSub, Nat.reduceMul, Nat.reducePow, Nat.reduceEqDiff, Nat.reduceLT, Nat.reduceLeDiff, Nat.reduceBEq, Nat.reduceBNe, Int.reduceToNat, Int.reduceLT, Int.reduceLE, Int.reduceEq, Int.reduceBNe, Int.reduceBEq, Int.reduceAdd, Int.reduceSub, Int.reduceMul, Int.reduceNeg, ↓reduceIte, hi, Bool.false_eq_true, if_false]
    · simp only [go_sem, Nat.reduceAdd, Nat.reduceSub, Nat.reduceMul, Nat.reducePow, Nat.reduceEqDiff, Nat.reduceLT, Nat.reduceLeDiff, Nat.reduceBEq, Nat.reduceBNe, Int.reduceToNat, Int.reduceLT, Int.reduceLE, Int.reduceEq, Int.reduceBNe, Int.reduceBEq, Int.reduceAdd, Int.reduceSub, Int.reduceMul, Int.reduceNeg, ↓reduceIte, hi, if_true]
  · have hq : (S / 18446744073709551616 == n / 18446744073709551616) = false := by
      rw [beq_eq_false_iff_ne, hn1]; split <;> omega
    have hi : inR S = false := by simp only [inR, Bool.and_eq_false_iff, decide_eq_false_iff_not]; omega
    simp only [go_sem, Nat.reduceAdd, Nat.reduceSub, Nat.reduceMul, Nat.reducePow, Nat.reduceEqDiff, Nat.reduceLT, Nat.reduceLeDiff, Nat.reduceBEq, Nat.reduceBNe, Int.reduceToNat, Int.reduceLT, Int.reduceLE, Int.reduceEq, Int.reduceBNe, Int.reduceBEq, Int.reduceAdd, Int.reduceSub, Int.reduceMul, Int.reduceNeg, ↓reduceIte, hm, hq, hi, Bool.false_eq_true, if_false]
end Go.Proofs.YtbllopdcbkeadaaGreat
set_option linter.unusedSimpArgs false
set_option linter.unusedVariables false
namespace Go.Proofs.YtbllopdcbkeadaaGreat
open Go.Abs
def wds (l : List Int) : List (List D) := l.map wd
@[go_sem] theorem wds_len (l : List Int) : (wds l).length = l.length := by simp [wds]
theorem wds_at (l : List Int) {i : Nat} (h : i < l.length) : (wds l).getD i [] = [.int .i64 (l[i] / 18446744073709551616), .int .u64 (l[i] % 18446744073709551616)] := by simp [wds, h, wd]
/-- a number that two words hold -/
def in2 (S : Int) : Bool := decide (-170141183460469231731687303715884105728 ≤ S) && decide (S < 170141183460469231731687303715884105728)
theorem mid_add (S n : Int) : ((S / 18446744073709551616) % 18446744073709551616 + (n / 18446744073709551616) % 18446744073709551616 + (S % 18446744073709551616 + n % 18446744073709551616 + 0) / 18446744073709551616) % 18446744073709551616 = ((S + n) / 18446744073709551616) % 18446744073709551616 := by
  have h1 : (S + n) / 18446744073709551616 = S / 18446744073709551616 + n / 18446744073709551616 + (S % 18446744073709551616 + n % 18446744073709551616 + 0) / 18446744073709551616 := by omega
  rw [h1]
  omega
theorem top_add (A B c s : Int) (hc : 0 ≤ c ∧ c ≤ 1) (hB : -9223372036854775808 ≤ B ∧ B ≤ 9223372036854775807) (hs : s = if 0 ≤ B then 0 else 18446744073709551615) :
    ((A / 18446744073709551616) % 18446744073709551616 + s + (A % 18446744073709551616 + B % 18446744073709551616 + c) / 18446744073709551616) % 18446744073709551616 = ((A + B + c) / 18446744073709551616) % 18446744073709551616 := by
  have h1 : (A + B + c) / 18446744073709551616 = A / 18446744073709551616 + B / 18446744073709551616 + (A % 18446744073709551616 + B % 18446744073709551616 + c) / 18446744073709551616 := by omega
  rw [h1, hs]
  split <;> omega
theorem div_add (S n : Int) : S / 18446744073709551616 + n / 18446744073709551616 + (S % 18446744073709551616 + n % 18446744073709551616 + 0) / 18446744073709551616 = (S + n) / 18446744073709551616 := by omega
theorem sumL_wide : ∀ {l : List Int}, (∀ n ∈ l, in2 n = true) → -170141183460469231731687303715884105728 * (l.length : Int) ≤ sumL l ∧ sumL l ≤ 170141183460469231731687303715884105728 * (l.length : Int)
  | [], _ => by simp [sumL]
  | x :: r, h => by
    have h2 := sumL_wide (l := r) fun n hn => h n (by simp [hn])
    have h1 := h x (by simp)
    simp only [in2, Bool.and_eq_true, decide_eq_true_eq] at h1
    simp only [sumL, List.length_cons]; push_cast; omega
theorem wideSum_spec (l : List Int) (hl : l.length < 2 ^ 60) (hr : ∀ n ∈ l, in2 n = true) : Abs.Spec Tryz.prog 131 [] [.sl 2 (wds l)] [] (.tup [.agg (wd (if in2 (sumL l) then sumL l else 0)), .int .i64 (if in2 (sumL l) then 0 else 1)]) := by
  refine Abs.Spec.go (n := 54) (np := 1) (rs := [.cell 2 109, .tmp 3]) mixed Tryz.func131 rfl rfl rfl rfl rfl (by simp) (by simp) ?_
  simp only [go_sem, Nat.reduceAdd, Nat.reduceSub, Nat.reduceMul, Nat.reducePow, Nat.reduceEqDiff, Nat.reduceLT, Nat.reduceLeDiff, Nat.reduceBEq, Nat.reduceBNe, Int.reduceToNat, Int.reduceLT, Int.reduceLE, Int.reduceEq, Int.reduceBNe, Int.reduceBEq, Int.reduceAdd, Int.reduceSub, Int.reduceMul, Int.reduceNeg, ↓reduceIte]
  refine LoopK.count l.length [2, 10, 11] [48, 192] (fun i => [(12, .int .i64 i), (4, .int .u64 (sumL (l.take i) % 18446744073709551616)), (5, .int .u64 ((sumL (l.take i) / 18446744073709551616) % 18446744073709551616)), (6, .int .u64 ((sumL (l.take i) / 18446744073709551616 / 18446744073709551616) % 18446744073709551616))]) (fun i => []) (fun i => True) (by simp only [go_sem, Nat.reduceAdd, Nat.reduceSub, Nat.reduceMul, Nat.reducePow, Nat.reduceEqDiff, Nat.reduceLT, Nat.reduceLeDiff, Nat.reduceBEq, Nat.reduceBNe, Int.reduceToNat, Int.reduceLT, Int.reduceLE, Int.reduceEq, Int.reduceBNe, Int.reduceBEq, Int.reduceAdd, Int.reduceSub, Int.reduceMul, Int.reduceNeg, ↓reduceIte] <;> exact rfl) (by simp only [go_sem, Nat.reduceAdd, Nat.reduceSub, Nat.reduceMul, Nat.reducePow, Nat.reduceEqDiff, Nat.reduceLT, Nat.reduceLeDiff, Nat.reduceBEq, Nat.reduceBNe, Int.reduceToNat, Int.reduceLT, Int.reduceLE, Int.reduceEq, Int.reduceBNe, Int.reduceBEq, Int.reduceAdd, Int.reduceSub, Int.reduceMul, Int.reduceNeg, ↓reduceIte] <;> exact rfl) trivial ?_ ?_
  · simp only [go_sem, Nat.reduceAdd, Nat.reduceSub, Nat.reduceMul, Nat.reducePow, Nat.reduceEqDiff, Nat.reduceLT, Nat.reduceLeDiff, Nat.reduceBEq, Nat.reduceBNe, Int.reduceToNat, Int.reduceLT, Int.reduceLE, Int.reduceEq, Int.reduceBNe, Int.reduceBEq, Int.reduceAdd, Int.reduceSub, Int.reduceMul, Int.reduceNeg, ↓reduceIte] <;> simp [sumL]
  · intro i hi _
    simp only [go_sem, Nat.reduceAdd, Nat.reduceSub, Nat.reduceMul, Nat.reducePow, Nat.reduceEqDiff, Nat.reduceLT, Nat.reduceLeDiff, Nat.reduceBEq, Nat.reduceBNe, Int.reduceToNat, Int.reduceLT, Int.reduceLE, Int.reduceEq, Int.reduceBNe, Int.reduceBEq, Int.reduceAdd, Int.reduceSub, Int.reduceMul, Int.reduceNeg, ↓reduceIte]
    refine CondE.splitD (fun h => ?_) (fun h => ?_)
    · have hi' : i < l.length := by omega
      have hw : IntKind.wrap .i64 ((i : Int) + 1) = ((i + 1 : Nat) : Int) := by rw [wr64 (by omega) (by omega)]; omega
      have hx := hr l[i] (List.getElem_mem hi')
      obtain ⟨S, hS⟩ : ∃ S, S = sumL (l.take i) := ⟨_, rfl⟩
      obtain ⟨n, hn⟩ : ∃ n, n = l[i] := ⟨_, rfl⟩
      have hnext : sumL (l.take (i + 1)) = S + n := by rw [List.take_succ_eq_append_getElem hi', sumL_app, hS, hn]
      rw [← hn] at hx
      simp only [in2, Bool.and_eq_true, decide_eq_true_eq] at hx
      obtain ⟨B, hB⟩ : ∃ B, B = n / 18446744073709551616 := ⟨_, rfl⟩
      have hBr : -9223372036854775808 ≤ B ∧ B ≤ 9223372036854775807 := by omega
      have hu : IntKind.wrap .u64 B = B % 18446744073709551616 := IntKind.wrap_u64 B
      have hsh := shr63 B hBr
      have h3 := top_add (S / 18446744073709551616) B ((S % 18446744073709551616 + n % 18446744073709551616 + 0) / 18446744073709551616) _ (by omega) hBr rfl
      have h2 := mid_add S n
      have h4 := div_add S n
      rw [← hB] at h2 h4
      rw [h4] at h3
      simp only [go_sem, Nat.reduceAdd, Nat.reduceSub, Nat.reduceMul, Nat.reducePow, Nat.reduceEqDiff, Nat.reduceLT, Nat.reduceLeDiff, Nat.reduceBEq, Nat.reduceBNe, Int.reduceToNat, Int.reduceLT, Int.reduceLE, Int.reduceEq, Int.reduceBNe, Int.reduceBEq, Int.reduceAdd, Int.reduceSub, Int.reduceMul, Int.reduceNeg, ↓reduceIte, wds_at l hi', ← hn, ← hS, ← hB]
      refine ⟨by omega, ?_⟩
      refine CallN.sem rfl ?_
      with_reducible refine SemK.add64 (k := 108) (fn := Tryz.f108) (i := S % 18446744073709551616) (j := n % 18446744073709551616) (m := 0) ?_ Tryz.func108 ?_ ?_ add_next add_find ?_ ?_ ?_ ?_ ?_ ?_ ?_ ?_ ?_
      iterate 11 (first | rfl | omega)
      simp only [go_sem, Nat.reduceAdd, Nat.reduceSub, Nat.reduceMul, Nat.reducePow, Nat.reduceEqDiff, Nat.reduceLT, Nat.reduceLeDiff, Nat.reduceBEq, Nat.reduceBNe, Int.reduceToNat, Int.reduceLT, Int.reduceLE, Int.reduceEq, Int.reduceBNe, Int.reduceBEq, Int.reduceAdd, Int.reduceSub, Int.reduceMul, Int.reduceNeg, ↓reduceIte, hu]
      refine CallN.sem rfl ?_
      with_reducible refine SemK.add64 (k := 108) (fn := Tryz.f108) (i := S / 18446744073709551616 % 18446744073709551616) (j := B % 18446744073709551616) (m := (S % 18446744073709551616 + n % 18446744073709551616 + 0) / 18446744073709551616) ?_ Tryz.func108 ?_ ?_ add_next add_find ?_ ?_ ?_ ?_ ?_ ?_ ?_ ?_ ?_
      iterate 11 (first | rfl | omega)
      simp only [go_sem, Nat.reduceAdd, Nat.reduceSub, Nat.reduceMul, Nat.reducePow, Nat.reduceEqDiff, Nat.reduceLT, Nat.reduceLeDiff, Nat.reduceBEq, Nat.reduceBNe, Int.reduceToNat, Int.reduceLT, Int.reduceLE, Int.reduceEq, Int.reduceBNe, Int.reduceBEq, Int.reduceAdd, Int.reduceSub, Int.reduceMul, Int.reduceNeg, ↓reduceIte, hsh]
      refine CallN.sem rfl ?_
      with_reducible refine SemK.add64 (k := 108) (fn := Tryz.f108) (i := S / 18446744073709551616 / 18446744073709551616 % 18446744073709551616) (j := if 0 ≤ B then 0 else 18446744073709551615) (m := (S / 18446744073709551616 % 18446744073709551616 + B % 18446744073709551616 + (S % 18446744073709551616 + n % 18446744073709551616 + 0) / 18446744073709551616) / 18446744073709551616) ?_ Tryz.func108 ?_ ?_ add_next add_find ?_ ?_ ?_ ?_ ?_ ?_ ?_ ?_ ?_
      iterate 7 (first | rfl | omega)
      · split <;> omega
      iterate 3 (first | rfl | omega)
      rw [h3, h2, add_lo]
      simp only [go_sem, Nat.reduceAdd, Nat.reduceSub, Nat.reduceMul, Nat.reducePow, Nat.reduceEqDiff, Nat.reduceLT, Nat.reduceLeDiff, Nat.reduceBEq, Nat.reduceBNe, Int.reduceToNat, Int.reduceLT, Int.reduceLE, Int.reduceEq, Int.reduceBNe, Int.reduceBEq, Int.reduceAdd, Int.reduceSub, Int.reduceMul, Int.reduceNeg, ↓reduceIte, hw]
      refine RoundK.next hi' trivial ?_
      simp only [go_sem, Nat.reduceAdd, Nat.reduceSub, Nat.reduceMul, Nat.reducePow, Nat.reduceEqDiff, Nat.reduceLT, Nat.reduceLeDiff, Nat.reduceBEq, Nat.reduceBNe, Int.reduceToNat, Int.reduceLT, Int.reduceLE, Int.reduceEq, Int.reduceBNe, Int.reduceBEq, Int.reduceAdd, Int.reduceSub, Int.reduceMul, Int.reduceNeg, ↓reduceIte, hnext]
    · obtain rfl : i = l.length := by omega
      obtain ⟨T, hT⟩ : ∃ T, T = sumL l := ⟨_, rfl⟩
      have hTr := sumL_wide hr
      rw [← hT] at hTr ⊢
      obtain ⟨A, hA⟩ : ∃ A, A = T / 18446744073709551616 := ⟨_, rfl⟩
      have hAr : -85070591730234615865843651857942052864 ≤ A ∧ A ≤ 85070591730234615865843651857942052864 := by omega
      obtain ⟨m, hm⟩ : ∃ m, m = IntKind.wrap .i64 (A % 18446744073709551616) := ⟨_, rfl⟩
      have hm1 : m = if A % 18446744073709551616 < 9223372036854775808 then A % 18446744073709551616 else A % 18446744073709551616 - 18446744073709551616 := by
        rw [hm, IntKind.wrap_i64]; split <;> omega
      have hs := shr63 m (by rw [hm1]; split <;> omega)
      by_cases hi : in2 T = true
      · have hi2 := hi
        simp only [in2, Bool.and_eq_true, decide_eq_true_eq] at hi2
        have hmA : m = A := by rw [hm1]; split <;> omega
        have hb : (A / 18446744073709551616 % 18446744073709551616 != if 0 ≤ m then 0 else 18446744073709551615) = false := by
          rw [bne_eq_false_iff_eq, hmA]; split <;> omega
        rw [if_pos hi, if_pos hi]
        rw [hmA] at hs hb
        have hm2 : IntKind.wrap .i64 (A % 18446744073709551616) = A := by rw [← hm, hmA]
        simp only [go_sem, Nat.reduceAdd, Nat.reduceSub, Nat.reduceMul, Nat.reducePow, Nat.reduceEqDiff, Nat.reduceLT, Nat.reduceLeDiff, Nat.reduceBEq, Nat.reduceBNe, Int.reduceToNat, Int.reduceLT, Int.reduceLE, Int.reduceEq, Int.reduceBNe, Int.reduceBEq, Int.reduceAdd, Int.reduceSub, Int.reduceMul, Int.reduceNeg, ↓reduceIte, List.take_length, ← hT, ← hA, hm2, hs, hb, wd]
      · have hi2 : ¬ (-170141183460469231731687303715884105728 ≤ T ∧ T < 170141183460469231731687303715884105728) := by
          simpa only [in2, Bool.and_eq_true, decide_eq_true_eq] using hi
        have hb : (A / 18446744073709551616 % 18446744073709551616 != if 0 ≤ m then 0 else 18446744073709551615) = true := by
          rw [bne_iff_ne, hm1]; split <;> split <;> omega
        rw [if_neg hi, if_neg hi]
        simp only [go_sem, Nat.reduceAdd, Nat.reduceSub, Nat.reduceMul, Nat.reducePow, Nat.reduceEqDiff, Nat.reduceLT, Nat.reduceLeDiff, Nat.reduceBEq, Nat.reduceBNe, Int.reduceToNat, Int.reduceLT, Int.reduceLE, Int.reduceEq, Int.reduceBNe, Int.reduceBEq, Int.reduceAdd, Int.reduceSub, Int.reduceMul, Int.reduceNeg, ↓reduceIte, List.take_length, ← hT, ← hA, ← hm, hs, hb, wd]
        try exact ⟨by decide, by decide⟩
end Go.Proofs.YtbllopdcbkeadaaGreat
set_option linter.unusedSimpArgs false
set_option linter.unusedVariables false
namespace Go.Proofs.YtbllopdcbkeadaaGreat
open Go.Abs
end Go.Proofs.YtbllopdcbkeadaaGreat
set_option linter.unusedSimpArgs false
set_option linter.unusedVariables false
namespace Go.Proofs.YtbllopdcbkeadaaGreat
open Go.Abs
end Go.Proofs.YtbllopdcbkeadaaGreat
