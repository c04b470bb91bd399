/- Accounts, sums; no theorem of a claim. -/
import Derived.Test.YtbllopdcbkeadaaC2
set_option linter.unusedSimpArgs false
set_option linter.unusedVariables false
namespace Go.Proofs.Ytbllopdcbkeadaa
open Go.Abs
structure AcctV where
  kind : Int
  who : Int
  cur : Int
@[reducible] def AcctV.cells (x : AcctV) : List D := [.int .i64 x.kind, .int .i64 x.who, .int .i64 x.cur]
def owned (k : Int) : Bool := k == 2 || k == 3
theorem owned_spec (k : Int) : Abs.Spec Try.prog 102 [] [.int .i64 k] [] (.bool (owned k)) := by
  refine Abs.Spec.go (n := 9) (np := 1) (rs := [.tmp 2]) mixed Try.func102 rfl rfl rfl rfl rfl (by simp) (by simp) ?_
  simp only [go_sem, Nat.reduceAdd, Nat.reduceSub, Nat.reduceMul, Nat.reducePow, Nat.reduceEqDiff, Nat.reduceLT, Nat.reduceLeDiff, Nat.reduceBEq, Nat.reduceBNe, Int.reduceToNat, Int.reduceLT, Int.reduceLE, Int.reduceEq, Int.reduceBNe, Int.reduceBEq, Int.reduceAdd, Int.reduceSub, Int.reduceMul, Int.reduceNeg, ↓reduceIte]
  repeat' (with_reducible first
    | refine And.intro ?_ ?_
    | exact DrawN.mk (by kernel_rfl)
    | exact OkN.mk (by kernel_rfl)
    | refine GuardK.splitN (fun h => ?_) (fun h => ?_)
    | refine GuardK.split (fun h => ?_) (fun h => ?_)
    | refine CondE.split (fun h => ?_) (fun h => ?_)
    | refine WeakK.id ?_
    | simp only [*, go_sem, Nat.reduceAdd, Nat.reduceSub, Nat.reduceMul, Nat.reducePow, Nat.reduceEqDiff, Nat.reduceLT, Nat.reduceLeDiff, Nat.reduceBEq, Nat.reduceBNe, Int.reduceToNat, Int.reduceLT, Int.reduceLE, Int.reduceEq, Int.reduceBNe, Int.reduceBEq, Int.reduceAdd, Int.reduceSub, Int.reduceMul, Int.reduceNeg, ↓reduceIte])
  all_goals simp [owned, *]
def AcctV.right (x : AcctV) : Bool := if x.kind < 1 ∨ 6 < x.kind ∨ x.cur < 0 ∨ 3 ≤ x.cur then false else if owned x.kind then decide (1 ≤ x.who) && decide (x.who ≤ 16) else x.who == 0
theorem acctRight_spec (x : AcctV) : Abs.Spec Try.prog 89 [] [.agg x.cells] [] (.bool x.right) := by
  refine Abs.Spec.go (n := 37) (np := 1) (rs := [.tmp 2]) mixed Try.func89 rfl rfl rfl rfl rfl (by simp) (by simp) ?_
  simp only [AcctV.cells]
  simp only [go_sem, Nat.reduceAdd, Nat.reduceSub, Nat.reduceMul, Nat.reducePow, Nat.reduceEqDiff, Nat.reduceLT, Nat.reduceLeDiff, Nat.reduceBEq, Nat.reduceBNe, Int.reduceToNat, Int.reduceLT, Int.reduceLE, Int.reduceEq, Int.reduceBNe, Int.reduceBEq, Int.reduceAdd, Int.reduceSub, Int.reduceMul, Int.reduceNeg, ↓reduceIte]
  repeat' (with_reducible first
    | refine And.intro ?_ ?_
    | exact DrawN.mk (by kernel_rfl)
    | exact OkN.mk (by kernel_rfl)
    | refine CallN.pure (owned_spec _) ?_
    | refine GuardK.splitN (fun h => ?_) (fun h => ?_)
    | refine GuardK.split (fun h => ?_) (fun h => ?_)
    | refine CondE.split (fun h => ?_) (fun h => ?_)
    | refine WeakK.id ?_
    | simp only [*, go_sem, Nat.reduceAdd, Nat.reduceSub, Nat.reduceMul, Nat.reducePow, Nat.reduceEqDiff, Nat.reduceLT, Nat.reduceLeDiff, Nat.reduceBEq, Nat.reduceBNe, Int.reduceToNat, Int.reduceLT, Int.reduceLE, Int.reduceEq, Int.reduceBNe, Int.reduceBEq, Int.reduceAdd, Int.reduceSub, Int.reduceMul, Int.reduceNeg, ↓reduceIte])
  all_goals (simp only [decide_eq_true_eq, decide_eq_false_iff_not] at *)
  all_goals (unfold AcctV.right; simp [*])
def AcctV.floor (x : AcctV) : Int := if x.right && (x.kind == 3 || x.kind == 4) then 0 else -4611686018427387904
theorem acctFloor_spec (x : AcctV) : Abs.Spec Try.prog 90 [] [.agg x.cells] [] (.int .i64 x.floor) := by
  have hr := acctRight_spec x
  simp only [AcctV.cells] at hr
  refine Abs.Spec.go (n := 15) (np := 1) (rs := [.tmp 2]) mixed Try.func90 rfl rfl rfl rfl rfl (by simp) (by simp) ?_
  simp only [AcctV.cells]
  simp only [go_sem, Nat.reduceAdd, Nat.reduceSub, Nat.reduceMul, Nat.reducePow, Nat.reduceEqDiff, Nat.reduceLT, Nat.reduceLeDiff, Nat.reduceBEq, Nat.reduceBNe, Int.reduceToNat, Int.reduceLT, Int.reduceLE, Int.reduceEq, Int.reduceBNe, Int.reduceBEq, Int.reduceAdd, Int.reduceSub, Int.reduceMul, Int.reduceNeg, ↓reduceIte]
  repeat' (with_reducible first
    | refine And.intro ?_ ?_
    | exact DrawN.mk (by kernel_rfl)
    | exact OkN.mk (by kernel_rfl)
    | refine CallN.pure hr ?_
    | refine GuardK.splitN (fun h => ?_) (fun h => ?_)
    | refine GuardK.split (fun h => ?_) (fun h => ?_)
    | refine CondE.split (fun h => ?_) (fun h => ?_)
    | refine WeakK.id ?_
    | simp only [*, go_sem, Nat.reduceAdd, Nat.reduceSub, Nat.reduceMul, Nat.reducePow, Nat.reduceEqDiff, Nat.reduceLT, Nat.reduceLeDiff, Nat.reduceBEq, Nat.reduceBNe, Int.reduceToNat, Int.reduceLT, Int.reduceLE, Int.reduceEq, Int.reduceBNe, Int.reduceBEq, Int.reduceAdd, Int.reduceSub, Int.reduceMul, Int.reduceNeg, ↓reduceIte])
  all_goals (unfold AcctV.floor; simp [*])
def AcctV.less (x y : AcctV) : Bool := if x.kind ≠ y.kind then decide (x.kind < y.kind) else if x.who ≠ y.who then decide (x.who < y.who) else decide (x.cur < y.cur)
theorem acctLess_spec (x y : AcctV) : Abs.Spec Try.prog 91 [] [.agg x.cells, .agg y.cells] [] (.bool (x.less y)) := by
  refine Abs.Spec.go (n := 32) (np := 2) (rs := [.tmp 4]) mixed Try.func91 rfl rfl rfl rfl rfl (by simp) (by simp) ?_
  simp only [AcctV.cells]
  simp only [go_sem, Nat.reduceAdd, Nat.reduceSub, Nat.reduceMul, Nat.reducePow, Nat.reduceEqDiff, Nat.reduceLT, Nat.reduceLeDiff, Nat.reduceBEq, Nat.reduceBNe, Int.reduceToNat, Int.reduceLT, Int.reduceLE, Int.reduceEq, Int.reduceBNe, Int.reduceBEq, Int.reduceAdd, Int.reduceSub, Int.reduceMul, Int.reduceNeg, ↓reduceIte]
  repeat' (with_reducible first
    | refine And.intro ?_ ?_
    | exact DrawN.mk (by kernel_rfl)
    | exact OkN.mk (by kernel_rfl)
    | exact trivial
    | refine GuardK.splitN (fun h => ?_) (fun h => ?_)
    | refine GuardK.split (fun h => ?_) (fun h => ?_)
    | refine CondE.split (fun h => ?_) (fun h => ?_)
    | refine WeakK.id ?_
    | simp only [*, go_sem, Nat.reduceAdd, Nat.reduceSub, Nat.reduceMul, Nat.reducePow, Nat.reduceEqDiff, Nat.reduceLT, Nat.reduceLeDiff, Nat.reduceBEq, Nat.reduceBNe, Int.reduceToNat, Int.reduceLT, Int.reduceLE, Int.reduceEq, Int.reduceBNe, Int.reduceBEq, Int.reduceAdd, Int.reduceSub, Int.reduceMul, Int.reduceNeg, ↓reduceIte])
  all_goals (unfold AcctV.less; simp_all)
def AcctV.lt (x y : AcctV) : Prop := x.kind < y.kind ∨ x.kind = y.kind ∧ (x.who < y.who ∨ x.who = y.who ∧ x.cur < y.cur)
theorem less_t (x y : AcctV) : x.less y = true ↔ x.lt y := by
  unfold AcctV.less AcctV.lt
  split
  · simp only [decide_eq_true_eq]; omega
  · split
    · simp only [decide_eq_true_eq]; omega
    · simp only [decide_eq_true_eq]; omega
theorem less_f (x y : AcctV) : x.less y = false ↔ ¬ x.lt y := by rw [← less_t]; simp
theorem floor_z (x : AcctV) : (x.floor == 0) = (x.right && (x.kind == 3 || x.kind == 4)) := by
  unfold AcctV.floor
  split
  · rename_i h; simp [h]
  · rename_i h; simp at h; cases hr : x.right <;> simp [hr] at h ⊢; exact h
def sumL : List Int → Int
  | [] => 0
  | x :: r => x + sumL r
theorem sumL_app (a : List Int) (x : Int) : sumL (a ++ [x]) = sumL a + x := by
  induction a with
  | nil => simp [sumL]
  | cons y r ih => simp only [List.cons_append, sumL, ih]; omega
theorem sumL_range : ∀ {l : List Int}, right l = true → -4611686018427387904 * l.length ≤ sumL l ∧ sumL l ≤ 4611686018427387904 * l.length
  | [], _ => by simp [sumL]
  | x :: r, h => by
    simp only [right, List.all_cons, Bool.and_eq_true] at h
    have h2 := sumL_range (l := r) h.2
    have h1 : -4611686018427387904 ≤ x ∧ x ≤ 4611686018427387904 := by simpa [inR] using h.1
    simp only [sumL, List.length_cons]; push_cast; omega
theorem add_lo (S n : Int) : (S % 18446744073709551616 + n % 18446744073709551616 + 0) % 18446744073709551616 = (S + n) % 18446744073709551616 := by omega
theorem add_hi (S n : Int) (h : -4611686018427387904 ≤ n ∧ n ≤ 4611686018427387904) (s : Int) (hs : s = if 0 ≤ n then 0 else 18446744073709551615) :
    ((S / 18446744073709551616) % 18446744073709551616 + s + (S % 18446744073709551616 + n % 18446744073709551616 + 0) / 18446744073709551616) % 18446744073709551616 = ((S + n) / 18446744073709551616) % 18446744073709551616 := by
  subst hs
  split <;> omega
theorem shr63 (n : Int) (h : -9223372036854775808 ≤ n ∧ n ≤ 9223372036854775807) : IntKind.wrap .u64 (ishr .i64 n 63) = if 0 ≤ n then 0 else 18446744073709551615 := by
  have : ishr .i64 n 63 = n.fdiv (2 ^ 63) := rfl
  rw [this, Int.fdiv_eq_ediv_of_nonneg _ (by omega), IntKind.wrap_u64]
  split <;> omega
theorem add_find : Extern.find Try.f74 = some add64Entry := by kernel_rfl
theorem add_next : Extern.findNext Try.f74 = none := by kernel_rfl
def sumN (l : List Int) : Int := if right l && inR (sumL l) then sumL l else 0
def sumE (l : List Int) : Int := if right l then (if inR (sumL l) then 0 else 1) else 3
theorem numWithin_spec (S : Int) (h : -85070591730234615865843651857942052864 ≤ S ∧ S ≤ 85070591730234615865843651857942052864) : Abs.Spec Try.prog 95 [] [.int .u64 ((S / 18446744073709551616) % 18446744073709551616), .int .u64 (S % 18446744073709551616)] [] (.tup [.int .i64 (if inR S then S else 0), .int .i64 (if inR S then 0 else 1)]) := by
  obtain ⟨n, hn⟩ : ∃ n, n = IntKind.wrap .i64 (S % 18446744073709551616) := ⟨_, rfl⟩
  have hn1 : n = if S % 18446744073709551616 < 9223372036854775808 then S % 18446744073709551616 else S % 18446744073709551616 - 18446744073709551616 := by
    rw [hn, IntKind.wrap_i64]; split <;> omega
  have hs := shr63 n (by rw [hn1]; split <;> omega)
  have hr := right_spec [n] (by simp)
  rw [right_one] at hr
  refine Abs.Spec.go (n := 21) (np := 2) (rs := [.tmp 4, .tmp 5]) mixed Try.func95 rfl rfl rfl rfl rfl (by simp) (by simp) ?_
  by_cases hS : -9223372036854775808 ≤ S ∧ S < 9223372036854775808
  · have hnS : n = S := by rw [hn1]; split <;> omega
    have hb : (S / 18446744073709551616 % 18446744073709551616 != if 0 ≤ n then 0 else 18446744073709551615) = false := by
      rw [bne_eq_false_iff_eq, hnS]; split <;> omega
    simp only [go_sem, Nat.reduceAdd, Nat.reduceSub, Nat.reduceMul, Nat.reducePow, Nat.reduceEqDiff, Nat.reduceLT, Nat.reduceLeDiff, Nat.reduceBEq, Nat.reduceBNe, Int.reduceToNat, Int.reduceLT, Int.reduceLE, Int.reduceEq, Int.reduceBNe, Int.reduceBEq, Int.reduceAdd, Int.reduceSub, Int.reduceMul, Int.reduceNeg, ↓reduceIte, ← hn, hs, hb]
    refine CallN.gen [] [] true (by simp) ?_
    simp only [go_sem, Nat.reduceAdd, Nat.reduceSub, Nat.reduceMul, Nat.reducePow, Nat.reduceEqDiff, Nat.reduceLT, Nat.reduceLeDiff, Nat.reduceBEq, Nat.reduceBNe, Int.reduceToNat, Int.reduceLT, Int.reduceLE, Int.reduceEq, Int.reduceBNe, Int.reduceBEq, Int.reduceAdd, Int.reduceSub, Int.reduceMul, Int.reduceNeg, ↓reduceIte]
    refine CallG.intro hr ?_
    rw [hnS] at hr ⊢
    cases hi : inR S
    · simp only [go_sem, Nat.reduceAdd, Nat.reduceSub, Nat.reduceMul, Nat.reducePow, Nat.reduceEqDiff, Nat.reduceLT, Nat.reduceLeDiff, Nat.reduceBEq, Nat.reduceBNe, Int.reduceToNat, Int.reduceLT, Int.reduceLE, Int.reduceEq, Int.reduceBNe, Int.reduceBEq, Int.reduceAdd, Int.reduceSub, Int.reduceMul, Int.reduceNeg, ↓reduceIte, hi, Bool.false_eq_true, if_false]
    · simp only [go_sem, Nat.reduceAdd, Nat.reduceSub, Nat.reduceMul, Nat.reducePow, Nat.reduceEqDiff, Nat.reduceLT, Nat.reduceLeDiff, Nat.reduceBEq, Nat.reduceBNe, Int.reduceToNat, Int.reduceLT, Int.reduceLE, Int.reduceEq, Int.reduceBNe, Int.reduceBEq, Int.reduceAdd, Int.reduceSub, Int.reduceMul, Int.reduceNeg, ↓reduceIte, hi, if_true]
  · have hb : (S / 18446744073709551616 % 18446744073709551616 != if 0 ≤ n then 0 else 18446744073709551615) = true := by
      rw [bne_iff_ne, hn1]; split <;> split <;> omega
    have hi : inR S = false := by simp only [inR, Bool.and_eq_false_iff, decide_eq_false_iff_not]; omega
    simp only [go_sem, Nat.reduceAdd, Nat.reduceSub, Nat.reduceMul, Nat.reducePow, Nat.reduceEqDiff, Nat.reduceLT, Nat.reduceLeDiff, Nat.reduceBEq, Nat.reduceBNe, Int.reduceToNat, Int.reduceLT, Int.reduceLE, Int.reduceEq, Int.reduceBNe, Int.reduceBEq, Int.reduceAdd, Int.reduceSub, Int.reduceMul, Int.reduceNeg, ↓reduceIte, ← hn, hs, hb, hi, Bool.false_eq_true, if_false]
theorem sum_spec (l : List Int) (hl : l.length < 2 ^ 60) : Abs.Spec Try.prog 47 [] [.sl 1 (ints l)] [] (.tup [.int .i64 (sumN l), .int .i64 (sumE l)]) := by
  have hr := right_spec l (by omega)
  refine Abs.Spec.go (n := 40) (np := 1) (rs := [.tmp 2, .tmp 3]) mixed Try.func47 rfl rfl rfl rfl rfl (by simp) (by simp) ?_
  simp only [go_sem, Nat.reduceAdd, Nat.reduceSub, Nat.reduceMul, Nat.reducePow, Nat.reduceEqDiff, Nat.reduceLT, Nat.reduceLeDiff, Nat.reduceBEq, Nat.reduceBNe, Int.reduceToNat, Int.reduceLT, Int.reduceLE, Int.reduceEq, Int.reduceBNe, Int.reduceBEq, Int.reduceAdd, Int.reduceSub, Int.reduceMul, Int.reduceNeg, ↓reduceIte]
  refine CallN.pure hr ?_
  cases hb : right l
  · have e1 : sumN l = 0 := by simp [sumN, hb]
    have e2 : sumE l = 3 := by simp [sumE, hb]
    simp only [go_sem, Nat.reduceAdd, Nat.reduceSub, Nat.reduceMul, Nat.reducePow, Nat.reduceEqDiff, Nat.reduceLT, Nat.reduceLeDiff, Nat.reduceBEq, Nat.reduceBNe, Int.reduceToNat, Int.reduceLT, Int.reduceLE, Int.reduceEq, Int.reduceBNe, Int.reduceBEq, Int.reduceAdd, Int.reduceSub, Int.reduceMul, Int.reduceNeg, ↓reduceIte, e1, e2]
  simp only [go_sem, Nat.reduceAdd, Nat.reduceSub, Nat.reduceMul, Nat.reducePow, Nat.reduceEqDiff, Nat.reduceLT, Nat.reduceLeDiff, Nat.reduceBEq, Nat.reduceBNe, Int.reduceToNat, Int.reduceLT, Int.reduceLE, Int.reduceEq, Int.reduceBNe, Int.reduceBEq, Int.reduceAdd, Int.reduceSub, Int.reduceMul, Int.reduceNeg, ↓reduceIte, ints_len]
  refine LoopK.count l.length [12, 13] [224] (fun i => [(14, .int .i64 i), (4, .int .u64 ((sumL (l.take i) / 18446744073709551616) % 18446744073709551616)), (5, .int .u64 (sumL (l.take i) % 18446744073709551616))]) (fun i => []) (fun i => True) (by simp only [go_sem, Nat.reduceAdd, Nat.reduceSub, Nat.reduceMul, Nat.reducePow, Nat.reduceEqDiff, Nat.reduceLT, Nat.reduceLeDiff, Nat.reduceBEq, Nat.reduceBNe, Int.reduceToNat, Int.reduceLT, Int.reduceLE, Int.reduceEq, Int.reduceBNe, Int.reduceBEq, Int.reduceAdd, Int.reduceSub, Int.reduceMul, Int.reduceNeg, ↓reduceIte] <;> exact rfl) (by simp only [go_sem, Nat.reduceAdd, Nat.reduceSub, Nat.reduceMul, Nat.reducePow, Nat.reduceEqDiff, Nat.reduceLT, Nat.reduceLeDiff, Nat.reduceBEq, Nat.reduceBNe, Int.reduceToNat, Int.reduceLT, Int.reduceLE, Int.reduceEq, Int.reduceBNe, Int.reduceBEq, Int.reduceAdd, Int.reduceSub, Int.reduceMul, Int.reduceNeg, ↓reduceIte] <;> exact rfl) trivial ?_ ?_
  · simp only [go_sem, Nat.reduceAdd, Nat.reduceSub, Nat.reduceMul, Nat.reducePow, Nat.reduceEqDiff, Nat.reduceLT, Nat.reduceLeDiff, Nat.reduceBEq, Nat.reduceBNe, Int.reduceToNat, Int.reduceLT, Int.reduceLE, Int.reduceEq, Int.reduceBNe, Int.reduceBEq, Int.reduceAdd, Int.reduceSub, Int.reduceMul, Int.reduceNeg, ↓reduceIte] <;> simp [sumL]
  · intro i hi _
    simp only [go_sem, Nat.reduceAdd, Nat.reduceSub, Nat.reduceMul, Nat.reducePow, Nat.reduceEqDiff, Nat.reduceLT, Nat.reduceLeDiff, Nat.reduceBEq, Nat.reduceBNe, Int.reduceToNat, Int.reduceLT, Int.reduceLE, Int.reduceEq, Int.reduceBNe, Int.reduceBEq, Int.reduceAdd, Int.reduceSub, Int.reduceMul, Int.reduceNeg, ↓reduceIte]
    refine CondE.splitD (fun h => ?_) (fun h => ?_)
    · have hi' : i < l.length := by omega
      have hw : IntKind.wrap .i64 ((i : Int) + 1) = ((i + 1 : Nat) : Int) := by rw [wr64 (by omega) (by omega)]; omega
      have hx : inR l[i] = true := List.all_eq_true.1 hb _ (List.getElem_mem hi')
      have hxr : -4611686018427387904 ≤ l[i] ∧ l[i] ≤ 4611686018427387904 := by simpa [inR] using hx
      obtain ⟨S, hS⟩ : ∃ S, S = sumL (l.take i) := ⟨_, rfl⟩
      obtain ⟨n, hn⟩ : ∃ n, n = l[i] := ⟨_, rfl⟩
      have hnext : sumL (l.take (i + 1)) = S + n := by rw [List.take_succ_eq_append_getElem hi', sumL_app, hS, hn]
      have hu : IntKind.wrap .u64 n = n % 18446744073709551616 := IntKind.wrap_u64 n
      rw [← hn] at hxr
      have hsh := shr63 n (by omega)
      simp only [go_sem, Nat.reduceAdd, Nat.reduceSub, Nat.reduceMul, Nat.reducePow, Nat.reduceEqDiff, Nat.reduceLT, Nat.reduceLeDiff, Nat.reduceBEq, Nat.reduceBNe, Int.reduceToNat, Int.reduceLT, Int.reduceLE, Int.reduceEq, Int.reduceBNe, Int.reduceBEq, Int.reduceAdd, Int.reduceSub, Int.reduceMul, Int.reduceNeg, ↓reduceIte, ints_at l hi', ints_len, ← hn, ← hS, hu]
      refine ⟨by omega, ?_⟩
      refine CallN.sem rfl ?_
      with_reducible refine SemK.add64 (k := 74) (fn := Try.f74) (i := S % 18446744073709551616) (j := n % 18446744073709551616) (m := 0) ?_ Try.func74 ?_ ?_ add_next add_find ?_ ?_ ?_ ?_ ?_ ?_ ?_ ?_ ?_
      iterate 11 (first | rfl | omega)
      simp only [go_sem, Nat.reduceAdd, Nat.reduceSub, Nat.reduceMul, Nat.reducePow, Nat.reduceEqDiff, Nat.reduceLT, Nat.reduceLeDiff, Nat.reduceBEq, Nat.reduceBNe, Int.reduceToNat, Int.reduceLT, Int.reduceLE, Int.reduceEq, Int.reduceBNe, Int.reduceBEq, Int.reduceAdd, Int.reduceSub, Int.reduceMul, Int.reduceNeg, ↓reduceIte, hsh]
      refine CallN.sem rfl ?_
      with_reducible refine SemK.add64 (k := 74) (fn := Try.f74) (i := S / 18446744073709551616 % 18446744073709551616) (j := if 0 ≤ n then 0 else 18446744073709551615) (m := (S % 18446744073709551616 + n % 18446744073709551616 + 0) / 18446744073709551616) ?_ Try.func74 ?_ ?_ add_next add_find ?_ ?_ ?_ ?_ ?_ ?_ ?_ ?_ ?_
      iterate 7 (first | rfl | omega)
      · split <;> omega
      iterate 3 (first | rfl | omega)
      rw [add_hi S n hxr _ rfl, add_lo]
      simp only [go_sem, Nat.reduceAdd, Nat.reduceSub, Nat.reduceMul, Nat.reducePow, Nat.reduceEqDiff, Nat.reduceLT, Nat.reduceLeDiff, Nat.reduceBEq, Nat.reduceBNe, Int.reduceToNat, Int.reduceLT, Int.reduceLE, Int.reduceEq, Int.reduceBNe, Int.reduceBEq, Int.reduceAdd, Int.reduceSub, Int.reduceMul, Int.reduceNeg, ↓reduceIte, hw]
      refine RoundK.next hi' trivial ?_
      simp only [go_sem, Nat.reduceAdd, Nat.reduceSub, Nat.reduceMul, Nat.reducePow, Nat.reduceEqDiff, Nat.reduceLT, Nat.reduceLeDiff, Nat.reduceBEq, Nat.reduceBNe, Int.reduceToNat, Int.reduceLT, Int.reduceLE, Int.reduceEq, Int.reduceBNe, Int.reduceBEq, Int.reduceAdd, Int.reduceSub, Int.reduceMul, Int.reduceNeg, ↓reduceIte, hnext]
    · obtain rfl : i = l.length := by omega
      obtain ⟨S, hS⟩ : ∃ S, S = sumL l := ⟨_, rfl⟩
      have hSr := sumL_range hb
      have hf := numWithin_spec S (by rw [hS]; omega)
      have e1 : sumN l = if inR S then S else 0 := by simp [sumN, hb, hS]
      have e2 : sumE l = if inR S then 0 else 1 := by simp [sumE, hb, hS]
      rw [e1, e2]
      simp only [go_sem, Nat.reduceAdd, Nat.reduceSub, Nat.reduceMul, Nat.reducePow, Nat.reduceEqDiff, Nat.reduceLT, Nat.reduceLeDiff, Nat.reduceBEq, Nat.reduceBNe, Int.reduceToNat, Int.reduceLT, Int.reduceLE, Int.reduceEq, Int.reduceBNe, Int.reduceBEq, Int.reduceAdd, Int.reduceSub, Int.reduceMul, Int.reduceNeg, ↓reduceIte, List.take_length, ← hS]
      refine CallN.pure hf ?_
      simp only [go_sem, Nat.reduceAdd, Nat.reduceSub, Nat.reduceMul, Nat.reducePow, Nat.reduceEqDiff, Nat.reduceLT, Nat.reduceLeDiff, Nat.reduceBEq, Nat.reduceBNe, Int.reduceToNat, Int.reduceLT, Int.reduceLE, Int.reduceEq, Int.reduceBNe, Int.reduceBEq, Int.reduceAdd, Int.reduceSub, Int.reduceMul, Int.reduceNeg, ↓reduceIte]
end Go.Proofs.Ytbllopdcbkeadaa
