/- Wides, what collateral is worth; no theorem of a claim. -/
import Derived.Test.YtbllopdcbkeadaaS3
set_option linter.unusedSimpArgs false
set_option linter.unusedVariables false
namespace Go.Proofs.Ytbllopdcbkeadaa
open Go.Abs
theorem u64N {a : Int} : ∃ u : Nat, IntKind.wrap .u64 a = (u : Int) ∧ u < 18446744073709551616 ∧ (u : Int) = a % 18446744073709551616 := by
  refine ⟨(a % 18446744073709551616).toNat, ?_, ?_, ?_⟩
  · rw [IntKind.wrap_u64]; omega
  · omega
  · omega
theorem hi1 (x : Nat) (P : Int) (h : (x : Int) = P) (hP : -85070591730234615865843651857942052864 ≤ P ∧ P ≤ 85070591730234615865843651857942052864) : IntKind.wrap .i64 ((x / 18446744073709551616 : Nat) : Int) = P / 18446744073709551616 ∧ ((x % 18446744073709551616 : Nat) : Int) = P % 18446744073709551616 := by
  rw [IntKind.wrap_i64]; omega
theorem hi2 (x : Nat) (P b : Int) (h : (x : Int) = P + 18446744073709551616 * b) (hP : -85070591730234615865843651857942052864 ≤ P ∧ P ≤ 85070591730234615865843651857942052864) : IntKind.wrap .i64 (IntKind.wrap .u64 (((x / 18446744073709551616 : Nat) : Int) - b % 18446744073709551616)) = P / 18446744073709551616 ∧ ((x % 18446744073709551616 : Nat) : Int) = P % 18446744073709551616 := by
  rw [IntKind.wrap_i64, IntKind.wrap_u64]; omega
theorem hi3 (x : Nat) (P a b : Int) (h : (x : Int) = P + 18446744073709551616 * a + 18446744073709551616 * b + 18446744073709551616 * 18446744073709551616) (hP : -85070591730234615865843651857942052864 ≤ P ∧ P ≤ 85070591730234615865843651857942052864) :
    IntKind.wrap .i64 (IntKind.wrap .u64 (IntKind.wrap .u64 (((x / 18446744073709551616 : Nat) : Int) - b % 18446744073709551616) - a % 18446744073709551616)) = P / 18446744073709551616 ∧ ((x % 18446744073709551616 : Nat) : Int) = P % 18446744073709551616 := by
  rw [IntKind.wrap_i64, IntKind.wrap_u64, IntKind.wrap_u64]; omega
theorem prodB (a b : Int) (ha : -9223372036854775808 ≤ a ∧ a ≤ 9223372036854775807) (hb : -9223372036854775808 ≤ b ∧ b ≤ 9223372036854775807) : -85070591730234615865843651857942052864 ≤ a * b ∧ a * b ≤ 85070591730234615865843651857942052864 := by
  have h1 : (a * b).natAbs ≤ 9223372036854775808 * 9223372036854775808 := by
    rw [Int.natAbs_mul]
    exact Nat.mul_le_mul (by omega) (by omega)
  omega
section
variable {a b : Int} {u w : Nat}
theorem prod3 (hu : (u : Int) = a % 18446744073709551616) (hw : (w : Int) = b % 18446744073709551616) (ha : -9223372036854775808 ≤ a ∧ a ≤ 9223372036854775807) (hb : -9223372036854775808 ≤ b ∧ b ≤ 9223372036854775807) (h1 : a < 0) (h2 : b < 0) :
    ((u * w : Nat) : Int) = a * b + 18446744073709551616 * a + 18446744073709551616 * b + 18446744073709551616 * 18446744073709551616 := by
  have e1 : (u : Int) = a + 18446744073709551616 := by omega
  have e2 : (w : Int) = b + 18446744073709551616 := by omega
  rw [Int.natCast_mul, e1, e2, Int.add_mul, Int.mul_add, Int.mul_add, Int.mul_comm a 18446744073709551616, Int.add_assoc, Int.add_assoc, Int.add_assoc]
theorem prod2 (hu : (u : Int) = a % 18446744073709551616) (hw : (w : Int) = b % 18446744073709551616) (ha : -9223372036854775808 ≤ a ∧ a ≤ 9223372036854775807) (hb : -9223372036854775808 ≤ b ∧ b ≤ 9223372036854775807) (h1 : a < 0) (h2 : ¬ b < 0) :
    ((u * w : Nat) : Int) = a * b + 18446744073709551616 * b := by
  have e1 : (u : Int) = a + 18446744073709551616 := by omega
  have e2 : (w : Int) = b := by omega
  rw [Int.natCast_mul, e1, e2, Int.add_mul]
theorem prod2' (hu : (u : Int) = a % 18446744073709551616) (hw : (w : Int) = b % 18446744073709551616) (ha : -9223372036854775808 ≤ a ∧ a ≤ 9223372036854775807) (hb : -9223372036854775808 ≤ b ∧ b ≤ 9223372036854775807) (h1 : ¬ a < 0) (h2 : b < 0) :
    ((u * w : Nat) : Int) = a * b + 18446744073709551616 * a := by
  have e1 : (u : Int) = a := by omega
  have e2 : (w : Int) = b + 18446744073709551616 := by omega
  rw [Int.natCast_mul, e1, e2, Int.mul_add, Int.mul_comm a 18446744073709551616]
theorem prod1 (hu : (u : Int) = a % 18446744073709551616) (hw : (w : Int) = b % 18446744073709551616) (ha : -9223372036854775808 ≤ a ∧ a ≤ 9223372036854775807) (hb : -9223372036854775808 ≤ b ∧ b ≤ 9223372036854775807) (h1 : ¬ a < 0) (h2 : ¬ b < 0) :
    ((u * w : Nat) : Int) = a * b := by
  have e1 : (u : Int) = a := by omega
  have e2 : (w : Int) = b := by omega
  rw [Int.natCast_mul, e1, e2]
end
theorem times_spec (a b : Int) (ha : -9223372036854775808 ≤ a ∧ a ≤ 9223372036854775807) (hb : -9223372036854775808 ≤ b ∧ b ≤ 9223372036854775807) : Abs.Spec Try.prog 71 [] [.int .i64 a, .int .i64 b] [] (.agg [.int .i64 (a * b / 18446744073709551616), .int .u64 (a * b % 18446744073709551616)]) := by
  obtain ⟨u, hu, hu2, hu3⟩ := u64N (a := a)
  obtain ⟨w, hw, hw2, hw3⟩ := u64N (a := b)
  refine Abs.Spec.go (n := 31) (np := 2) (rs := [.cell 4 85]) mixed Try.func71 rfl rfl rfl rfl rfl (by simp) (by simp) ?_
  simp only [go_sem, Nat.reduceAdd, Nat.reduceSub, Nat.reduceMul, Nat.reducePow, Nat.reduceEqDiff, Nat.reduceLT, Nat.reduceLeDiff, Nat.reduceBEq, Nat.reduceBNe, Int.reduceToNat, Int.reduceLT, Int.reduceLE, Int.reduceEq, Int.reduceBNe, Int.reduceBEq, Int.reduceAdd, Int.reduceSub, Int.reduceMul, Int.reduceNeg, ↓reduceIte, hu, hw]
  repeat' (with_reducible first
    | refine And.intro ?_ ?_
    | exact DrawN.mk (by kernel_rfl)
    | exact OkN.mk (by kernel_rfl)
    | refine CallN.pure (mul64_spec _ _ hu2 hw2) ?_
    | refine CondE.split (fun h => ?_) (fun h => ?_)
    | refine WeakK.id ?_
    | simp only [*, go_sem, Nat.reduceAdd, Nat.reduceSub, Nat.reduceMul, Nat.reducePow, Nat.reduceEqDiff, Nat.reduceLT, Nat.reduceLeDiff, Nat.reduceBEq, Nat.reduceBNe, Int.reduceToNat, Int.reduceLT, Int.reduceLE, Int.reduceEq, Int.reduceBNe, Int.reduceBEq, Int.reduceAdd, Int.reduceSub, Int.reduceMul, Int.reduceNeg, ↓reduceIte])
  all_goals (simp only [decide_eq_true_eq, decide_eq_false_iff_not] at *)
  all_goals (have hP := prodB a b ha hb)
  all_goals (clear hu hw)
  all_goals first
    | exact (hi3 _ _ _ _ (prod3 hu3 hw3 ha hb ‹_› ‹_›) hP).1
    | exact (hi3 _ _ _ _ (prod3 hu3 hw3 ha hb ‹_› ‹_›) hP).2
    | exact (hi2 _ _ _ (prod2 hu3 hw3 ha hb ‹_› ‹_›) hP).1
    | exact (hi2 _ _ _ (prod2 hu3 hw3 ha hb ‹_› ‹_›) hP).2
    | exact (hi2 _ _ _ (prod2' hu3 hw3 ha hb ‹_› ‹_›) hP).1
    | exact (hi2 _ _ _ (prod2' hu3 hw3 ha hb ‹_› ‹_›) hP).2
    | exact (hi1 _ _ (prod1 hu3 hw3 ha hb ‹_› ‹_›) hP).1
    | exact (hi1 _ _ (prod1 hu3 hw3 ha hb ‹_› ‹_›) hP).2
theorem notN (x : Nat) (h : x < 18446744073709551616) : inot .u64 (x : Int) = ((18446744073709551615 - x : Nat) : Int) := by
  unfold inot
  have h1 : BitVec.ofInt 64 (if IntKind.signed .u64 then -1 else IntKind.max .u64) = BitVec.allOnes 64 := by decide
  show IntKind.wrap .u64 (((BitVec.ofInt 64 (if IntKind.signed .u64 then -1 else IntKind.max .u64) ^^^ BitVec.ofInt 64 (x : Int)).toNat : Nat) : Int) = _
  rw [h1, BitVec.allOnes_xor, BitVec.toNat_not, BitVec.toNat_ofInt, IntKind.wrap_u64]
  omega
def quoQ (P n : Int) : Int := if n ≤ 0 then 0 else if inR (P / n) then P / n else 0
def quoR (P n : Int) : Int := if n ≤ 0 then 0 else if inR (P / n) then P % n else 0
def quoE (P n : Int) : Int := if n ≤ 0 then 2 else if inR (P / n) then 0 else 1
theorem quo_in {P n : Int} (hn : 0 < n) (h : inR (P / n) = true) : quoQ P n = P / n ∧ quoR P n = P % n ∧ quoE P n = 0 := by
  simp [quoQ, quoR, quoE, h, show ¬ n ≤ 0 by omega]
theorem quo_out {P n : Int} (hn : 0 < n) (h : inR (P / n) = false) : quoQ P n = 0 ∧ quoR P n = 0 ∧ quoE P n = 1 := by
  simp [quoQ, quoR, quoE, h, show ¬ n ≤ 0 by omega]
theorem right_one (x : Int) : right [x] = inR x := by simp [right]
theorem quo_pos (P : Nat) (n : Int) (hn : 0 < n ∧ n ≤ 9223372036854775807) (hP : P < 170141183460469231731687303715884105728) : Abs.Spec Try.prog 70 [] [.agg [.int .i64 ((P / 18446744073709551616 : Nat) : Int), .int .u64 ((P % 18446744073709551616 : Nat) : Int)], .int .i64 n] [] (.tup [.int .i64 (quoQ P n), .int .i64 (quoR P n), .int .i64 (quoE P n)]) := by
  obtain ⟨N, rfl⟩ : ∃ N : Nat, n = N := ⟨n.toNat, by omega⟩
  obtain ⟨H, hH⟩ : ∃ H, H = P / 18446744073709551616 := ⟨_, rfl⟩
  obtain ⟨L, hL⟩ : ∃ L, L = P % 18446744073709551616 := ⟨_, rfl⟩
  have hN : 0 < N := by omega
  have hHL : H * 18446744073709551616 + L = P := by omega
  have hLl : L < 18446744073709551616 := by omega
  have hHl : H < 9223372036854775808 := by omega
  rw [← hH, ← hL]
  obtain ⟨Q, hQ⟩ : ∃ Q, Q = P / N := ⟨_, rfl⟩
  obtain ⟨R, hR⟩ : ∃ R, R = P % N := ⟨_, rfl⟩
  have hQi : (P : Int) / (N : Int) = (Q : Int) := by rw [hQ]; rfl
  have hRi : (P : Int) % (N : Int) = (R : Int) := by rw [hR]; rfl
  have hRN : R < N := by rw [hR]; exact Nat.mod_lt _ hN
  have hd := div64_spec H L N (by omega)
  rw [hHL, ← hQ, ← hR] at hd
  have hbig : N ≤ H → 18446744073709551616 ≤ Q := fun h => by
    rw [hQ, Nat.le_div_iff_mul_le hN]
    have := Nat.mul_le_mul_left 18446744073709551616 h
    omega
  have c1 : decide ((N : Int) ≤ 0) = false := by simp; omega
  have c2 : decide ((H : Int) < 0) = false := by simp
  have c3 : IntKind.wrap .u64 (H : Int) = H := Mul64.wrapN _ (by omega)
  have c4 : IntKind.wrap .u64 (N : Int) = N := Mul64.wrapN _ (by omega)
  have hin := quo_in (P := P) (n := N) (by omega)
  have hout := quo_out (P := P) (n := N) (by omega)
  rw [hQi] at hin hout
  rw [hRi] at hin
  clear hQ hR hQi hRi
  refine Abs.Spec.go (n := 59) (np := 2) (rs := [.tmp 4, .tmp 5, .tmp 6]) mixed Try.func70 rfl rfl rfl rfl rfl (by simp) (by simp) ?_
  simp only [go_sem, Nat.reduceAdd, Nat.reduceSub, Nat.reduceMul, Nat.reducePow, Nat.reduceEqDiff, Nat.reduceLT, Nat.reduceLeDiff, Nat.reduceBEq, Nat.reduceBNe, Int.reduceToNat, Int.reduceLT, Int.reduceLE, Int.reduceEq, Int.reduceBNe, Int.reduceBEq, Int.reduceAdd, Int.reduceSub, Int.reduceMul, Int.reduceNeg, ↓reduceIte, c1, c2, c3, c4]
  repeat' (with_reducible first
    | refine And.intro ?_ ?_
    | exact DrawN.mk (by kernel_rfl)
    | exact OkN.mk (by kernel_rfl)
    | simp only [go_sem, Nat.reduceAdd, Nat.reduceSub, Nat.reduceMul, Nat.reducePow, Nat.reduceEqDiff, Nat.reduceLT, Nat.reduceLeDiff, Nat.reduceBEq, Nat.reduceBNe, Int.reduceToNat, Int.reduceLT, Int.reduceLE, Int.reduceEq, Int.reduceBNe, Int.reduceBEq, Int.reduceAdd, Int.reduceSub, Int.reduceMul, Int.reduceNeg, ↓reduceIte, c1, c2, c3, c4])
  refine CondE.split (fun h => ?_) (fun h => ?_)
  · simp only [go_sem, Nat.reduceAdd, Nat.reduceSub, Nat.reduceMul, Nat.reducePow, Nat.reduceEqDiff, Nat.reduceLT, Nat.reduceLeDiff, Nat.reduceBEq, Nat.reduceBNe, Int.reduceToNat, Int.reduceLT, Int.reduceLE, Int.reduceEq, Int.reduceBNe, Int.reduceBEq, Int.reduceAdd, Int.reduceSub, Int.reduceMul, Int.reduceNeg, ↓reduceIte]
    have h := hbig (by rw [decide_eq_true_eq] at h; omega)
    obtain ⟨q1, q2, q3⟩ := hout (by simp [inR]; omega)
    rw [q1, q2, q3]
    exact ⟨rfl, rfl, rfl⟩
  · have hNH : H < N := by rw [decide_eq_false_iff_not] at h; omega
    simp only [go_sem, Nat.reduceAdd, Nat.reduceSub, Nat.reduceMul, Nat.reducePow, Nat.reduceEqDiff, Nat.reduceLT, Nat.reduceLeDiff, Nat.reduceBEq, Nat.reduceBNe, Int.reduceToNat, Int.reduceLT, Int.reduceLE, Int.reduceEq, Int.reduceBNe, Int.reduceBEq, Int.reduceAdd, Int.reduceSub, Int.reduceMul, Int.reduceNeg, ↓reduceIte, c1, c2, c3, c4]
    refine CallN.pure (hd hNH hLl) ?_
    simp only [go_sem, Nat.reduceAdd, Nat.reduceSub, Nat.reduceMul, Nat.reducePow, Nat.reduceEqDiff, Nat.reduceLT, Nat.reduceLeDiff, Nat.reduceBEq, Nat.reduceBNe, Int.reduceToNat, Int.reduceLT, Int.reduceLE, Int.reduceEq, Int.reduceBNe, Int.reduceBEq, Int.reduceAdd, Int.reduceSub, Int.reduceMul, Int.reduceNeg, ↓reduceIte]
    refine CondE.split (fun hb => ?_) (fun hb => ?_)
    · simp only [go_sem, Nat.reduceAdd, Nat.reduceSub, Nat.reduceMul, Nat.reducePow, Nat.reduceEqDiff, Nat.reduceLT, Nat.reduceLeDiff, Nat.reduceBEq, Nat.reduceBNe, Int.reduceToNat, Int.reduceLT, Int.reduceLE, Int.reduceEq, Int.reduceBNe, Int.reduceBEq, Int.reduceAdd, Int.reduceSub, Int.reduceMul, Int.reduceNeg, ↓reduceIte]
      obtain ⟨q1, q2, q3⟩ := hout (by rw [decide_eq_true_eq] at hb; simp [inR]; omega)
      rw [q1, q2, q3]
      exact ⟨rfl, rfl, rfl⟩
    · rw [decide_eq_false_iff_not] at hb
      have c5 : IntKind.wrap .i64 (Q : Int) = Q := wrap64 (by omega) (by omega)
      have c6 : IntKind.wrap .i64 (R : Int) = R := wrap64 (by omega) (by omega)
      simp only [go_sem, Nat.reduceAdd, Nat.reduceSub, Nat.reduceMul, Nat.reducePow, Nat.reduceEqDiff, Nat.reduceLT, Nat.reduceLeDiff, Nat.reduceBEq, Nat.reduceBNe, Int.reduceToNat, Int.reduceLT, Int.reduceLE, Int.reduceEq, Int.reduceBNe, Int.reduceBEq, Int.reduceAdd, Int.reduceSub, Int.reduceMul, Int.reduceNeg, ↓reduceIte, c5, c6]
      first | (refine ⟨by decide, ?_⟩) | skip
      refine CallN.gen [] [] true (by simp) ?_
      simp only [go_sem, Nat.reduceAdd, Nat.reduceSub, Nat.reduceMul, Nat.reducePow, Nat.reduceEqDiff, Nat.reduceLT, Nat.reduceLeDiff, Nat.reduceBEq, Nat.reduceBNe, Int.reduceToNat, Int.reduceLT, Int.reduceLE, Int.reduceEq, Int.reduceBNe, Int.reduceBEq, Int.reduceAdd, Int.reduceSub, Int.reduceMul, Int.reduceNeg, ↓reduceIte]
      refine CallG.intro (right_spec [(Q : Int)] (by simp)) ?_
      have : right [(Q : Int)] = true := by simp [right, inR]; omega
      simp only [go_sem, Nat.reduceAdd, Nat.reduceSub, Nat.reduceMul, Nat.reducePow, Nat.reduceEqDiff, Nat.reduceLT, Nat.reduceLeDiff, Nat.reduceBEq, Nat.reduceBNe, Int.reduceToNat, Int.reduceLT, Int.reduceLE, Int.reduceEq, Int.reduceBNe, Int.reduceBEq, Int.reduceAdd, Int.reduceSub, Int.reduceMul, Int.reduceNeg, ↓reduceIte, this]
      obtain ⟨q1, q2, q3⟩ := hin (by simp [inR]; omega)
      rw [q1, q2, q3]
      exact ⟨rfl, rfl, rfl⟩
theorem share_pos (a b c : Int) (ha : 0 ≤ a ∧ a ≤ 9223372036854775807) (hb : 0 ≤ b ∧ b ≤ 9223372036854775807) (hc : 0 < c ∧ c ≤ 9223372036854775807) : Abs.Spec Try.prog 32 [] [.int .i64 a, .int .i64 b, .int .i64 c] [] (.tup [.int .i64 (quoQ (a * b) c), .int .i64 (quoE (a * b) c)]) := by
  have hP := prodB a b (by omega) (by omega)
  have h0 : 0 ≤ a * b := Int.mul_nonneg ha.1 hb.1
  obtain ⟨P, hPe⟩ : ∃ P : Nat, a * b = P := ⟨(a * b).toNat, by omega⟩
  have hq := quo_pos P c hc (by omega)
  have ht := times_spec a b (by omega) (by omega)
  rw [hPe] at ht ⊢
  refine Abs.Spec.go (n := 22) (np := 3) (rs := [.tmp 6, .tmp 7]) mixed Try.func32 rfl rfl rfl rfl rfl (by simp) (by simp) ?_
  simp only [go_sem, Nat.reduceAdd, Nat.reduceSub, Nat.reduceMul, Nat.reducePow, Nat.reduceEqDiff, Nat.reduceLT, Nat.reduceLeDiff, Nat.reduceBEq, Nat.reduceBNe, Int.reduceToNat, Int.reduceLT, Int.reduceLE, Int.reduceEq, Int.reduceBNe, Int.reduceBEq, Int.reduceAdd, Int.reduceSub, Int.reduceMul, Int.reduceNeg, ↓reduceIte]
  refine CallN.pure ht ?_
  simp only [go_sem, Nat.reduceAdd, Nat.reduceSub, Nat.reduceMul, Nat.reducePow, Nat.reduceEqDiff, Nat.reduceLT, Nat.reduceLeDiff, Nat.reduceBEq, Nat.reduceBNe, Int.reduceToNat, Int.reduceLT, Int.reduceLE, Int.reduceEq, Int.reduceBNe, Int.reduceBEq, Int.reduceAdd, Int.reduceSub, Int.reduceMul, Int.reduceNeg, ↓reduceIte]
  refine CallN.pure hq ?_
  simp only [go_sem, Nat.reduceAdd, Nat.reduceSub, Nat.reduceMul, Nat.reducePow, Nat.reduceEqDiff, Nat.reduceLT, Nat.reduceLeDiff, Nat.reduceBEq, Nat.reduceBNe, Int.reduceToNat, Int.reduceLT, Int.reduceLE, Int.reduceEq, Int.reduceBNe, Int.reduceBEq, Int.reduceAdd, Int.reduceSub, Int.reduceMul, Int.reduceNeg, ↓reduceIte]
def AssetV.P (x : AssetV) (u : Int) : Int := u * (10000 - x.d) * x.c
def AssetV.fit (x : AssetV) (u : Int) : Bool := x.ok && decide (0 ≤ u) && decide (u ≤ 1099511627776)
def AssetV.V (x : AssetV) (u : Int) : Int := if x.fit u then quoQ (x.P u) 10000 else 0
def AssetV.E (x : AssetV) (u : Int) : Int := if x.fit u then quoE (x.P u) 10000 else 3
theorem rises_one (x : AssetV) : rises AssetV.a AssetV.ok [x] = x.ok := by simp [rises, risesAt, List.range_succ]
theorem AssetV.ok_iff (x : AssetV) : x.ok = true ↔ (1 ≤ x.a ∧ x.a ≤ 6) ∧ (0 ≤ x.b ∧ x.b ≤ 2) ∧ (1 ≤ x.c ∧ x.c ≤ 1073741824) ∧ (0 ≤ x.d ∧ x.d ≤ 10000) := by
  simp [AssetV.ok, within, and_assoc]
theorem value_spec (x : AssetV) (u : Int) : Abs.Spec Try.prog 12 [] [.agg x.cells, .int .i64 u] [] (.tup [.int .i64 (x.V u), .int .i64 (x.E u)]) := by
  refine Abs.Spec.go (n := 29) (np := 2) (rs := [.tmp 4, .tmp 5]) mixed Try.func12 rfl rfl rfl rfl rfl (by simp) (by simp) ?_
  simp only [go_sem, Nat.reduceAdd, Nat.reduceSub, Nat.reduceMul, Nat.reducePow, Nat.reduceEqDiff, Nat.reduceLT, Nat.reduceLeDiff, Nat.reduceBEq, Nat.reduceBNe, Int.reduceToNat, Int.reduceLT, Int.reduceLE, Int.reduceEq, Int.reduceBNe, Int.reduceBEq, Int.reduceAdd, Int.reduceSub, Int.reduceMul, Int.reduceNeg, ↓reduceIte, AssetV.cells]
  first | (refine ⟨by decide, ?_⟩) | skip
  refine CallN.gen [] [] true (by simp) ?_
  simp only [go_sem, Nat.reduceAdd, Nat.reduceSub, Nat.reduceMul, Nat.reducePow, Nat.reduceEqDiff, Nat.reduceLT, Nat.reduceLeDiff, Nat.reduceBEq, Nat.reduceBNe, Int.reduceToNat, Int.reduceLT, Int.reduceLE, Int.reduceEq, Int.reduceBNe, Int.reduceBEq, Int.reduceAdd, Int.reduceSub, Int.reduceMul, Int.reduceNeg, ↓reduceIte]
  refine CallG.intro (check_spec [x] (by simp)) ?_
  cases hok : x.ok
  · have hf : x.fit u = false := by simp [AssetV.fit, hok]
    have e1 : x.V u = 0 := by simp [AssetV.V, hf]
    have e2 : x.E u = 3 := by simp [AssetV.E, hf]
    simp only [go_sem, Nat.reduceAdd, Nat.reduceSub, Nat.reduceMul, Nat.reducePow, Nat.reduceEqDiff, Nat.reduceLT, Nat.reduceLeDiff, Nat.reduceBEq, Nat.reduceBNe, Int.reduceToNat, Int.reduceLT, Int.reduceLE, Int.reduceEq, Int.reduceBNe, Int.reduceBEq, Int.reduceAdd, Int.reduceSub, Int.reduceMul, Int.reduceNeg, ↓reduceIte, rises_one, hok, e1, e2, Int.reduceBNe]
  · simp only [go_sem, Nat.reduceAdd, Nat.reduceSub, Nat.reduceMul, Nat.reducePow, Nat.reduceEqDiff, Nat.reduceLT, Nat.reduceLeDiff, Nat.reduceBEq, Nat.reduceBNe, Int.reduceToNat, Int.reduceLT, Int.reduceLE, Int.reduceEq, Int.reduceBNe, Int.reduceBEq, Int.reduceAdd, Int.reduceSub, Int.reduceMul, Int.reduceNeg, ↓reduceIte, rises_one, hok, Int.reduceBNe]
    refine GuardK.splitN (fun h => ?_) (fun h => ?_)
    · simp only [go_sem, Nat.reduceAdd, Nat.reduceSub, Nat.reduceMul, Nat.reducePow, Nat.reduceEqDiff, Nat.reduceLT, Nat.reduceLeDiff, Nat.reduceBEq, Nat.reduceBNe, Int.reduceToNat, Int.reduceLT, Int.reduceLE, Int.reduceEq, Int.reduceBNe, Int.reduceBEq, Int.reduceAdd, Int.reduceSub, Int.reduceMul, Int.reduceNeg, ↓reduceIte, h]
      refine CondE.split (fun h2 => ?_) (fun h2 => ?_)
      · have hf : x.fit u = false := by simp [AssetV.fit] at h2 ⊢; intros; omega
        have e1 : x.V u = 0 := by simp [AssetV.V, hf]
        have e2 : x.E u = 3 := by simp [AssetV.E, hf]
        simp only [go_sem, Nat.reduceAdd, Nat.reduceSub, Nat.reduceMul, Nat.reducePow, Nat.reduceEqDiff, Nat.reduceLT, Nat.reduceLeDiff, Nat.reduceBEq, Nat.reduceBNe, Int.reduceToNat, Int.reduceLT, Int.reduceLE, Int.reduceEq, Int.reduceBNe, Int.reduceBEq, Int.reduceAdd, Int.reduceSub, Int.reduceMul, Int.reduceNeg, ↓reduceIte, e1, e2]
      · have hf : x.fit u = true := by simp [AssetV.fit, hok] at h h2 ⊢; omega
        have e1 : x.V u = quoQ (x.P u) 10000 := by simp [AssetV.V, hf]
        have e2 : x.E u = quoE (x.P u) 10000 := by simp [AssetV.E, hf]
        have hk := x.ok_iff.1 hok
        simp only [decide_eq_false_iff_not] at h h2
        have w1 : IntKind.wrap .i64 (10000 - x.d) = 10000 - x.d := wrap64 (by omega) (by omega)
        have hb : 0 ≤ u * (10000 - x.d) ∧ u * (10000 - x.d) ≤ 10995116277760000 := by
          refine ⟨Int.mul_nonneg (by omega) (by omega), ?_⟩
          exact Int.le_trans (Int.mul_le_mul (show u ≤ 1099511627776 by omega) (show 10000 - x.d ≤ 10000 by omega) (by omega) (by omega)) (by decide)
        have w2 : IntKind.wrap .i64 (u * (10000 - x.d)) = u * (10000 - x.d) := wrap64 (by omega) (by omega)
        have hs := share_pos (u * (10000 - x.d)) x.c 10000 (by omega) (by omega) (by omega)
        simp only [go_sem, Nat.reduceAdd, Nat.reduceSub, Nat.reduceMul, Nat.reducePow, Nat.reduceEqDiff, Nat.reduceLT, Nat.reduceLeDiff, Nat.reduceBEq, Nat.reduceBNe, Int.reduceToNat, Int.reduceLT, Int.reduceLE, Int.reduceEq, Int.reduceBNe, Int.reduceBEq, Int.reduceAdd, Int.reduceSub, Int.reduceMul, Int.reduceNeg, ↓reduceIte, w1, w2]
        refine CallN.pure hs ?_
        simp only [go_sem, Nat.reduceAdd, Nat.reduceSub, Nat.reduceMul, Nat.reducePow, Nat.reduceEqDiff, Nat.reduceLT, Nat.reduceLeDiff, Nat.reduceBEq, Nat.reduceBNe, Int.reduceToNat, Int.reduceLT, Int.reduceLE, Int.reduceEq, Int.reduceBNe, Int.reduceBEq, Int.reduceAdd, Int.reduceSub, Int.reduceMul, Int.reduceNeg, ↓reduceIte, e1, e2, AssetV.P]
    · have hf : x.fit u = false := by simp [AssetV.fit] at h ⊢; intros; omega
      have e1 : x.V u = 0 := by simp [AssetV.V, hf]
      have e2 : x.E u = 3 := by simp [AssetV.E, hf]
      simp only [go_sem, Nat.reduceAdd, Nat.reduceSub, Nat.reduceMul, Nat.reducePow, Nat.reduceEqDiff, Nat.reduceLT, Nat.reduceLeDiff, Nat.reduceBEq, Nat.reduceBNe, Int.reduceToNat, Int.reduceLT, Int.reduceLE, Int.reduceEq, Int.reduceBNe, Int.reduceBEq, Int.reduceAdd, Int.reduceSub, Int.reduceMul, Int.reduceNeg, ↓reduceIte, h, e1, e2]
end Go.Proofs.Ytbllopdcbkeadaa
