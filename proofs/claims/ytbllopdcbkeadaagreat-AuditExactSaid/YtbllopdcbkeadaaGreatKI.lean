/- What always holds. What was marked and not paid, by the program; what always holds. What always holds, by the program. What differs. What differs, by the reference. Which states are looked at; the laws of audit. The law AuditExact. No theorem of a claim. -/
import Derived.Test.YtbllopdcbkeadaaGreatKH
set_option linter.unusedSimpArgs false
set_option linter.unusedVariables false
namespace Go.Proofs.YtbllopdcbkeadaaGreat
open Go.Abs
def qZ (s : StateV) (n : Int) : Bool := sumL (qtysL n s.book.qs) == 0
def mZ (s : StateV) (c : Int) : Bool := sumL (monL c [] s.led.bs) == 0
def pZ (s : StateV) (c : Int) : Bool := sumL (varL c s.led.bs ++ papL s.roll c s.book.qs) == 0
def holdsB (s : StateV) : Bool := rightS s && ((List.range 8).all (fun i => qZ s ((i : Int) + 1)) && (List.range 3).all (fun c => mZ s (c : Nat) && pZ s (c : Nat)))
theorem res_zero (S : Int) : (resE S == 0 && resN S == 0) = (S == 0) := by
  rw [Bool.eq_iff_iff]
  simp only [resE, resN, Bool.and_eq_true, beq_iff_eq]
  constructor
  · rintro ⟨h1, h2⟩
    split at h1
    · rename_i h; rw [if_pos h] at h2; exact h2
    · cases h1
  · rintro rfl
    exact ⟨rfl, rfl⟩
theorem range_no {n i : Nat} {f : Nat → Bool} (h : i < n) (hf : f i = false) : (List.range n).all f = false := by
  cases hc : (List.range n).all f
  · rfl
  · rw [List.all_eq_true.1 hc i (List.mem_range.2 h)] at hf; cases hf
theorem range_yes {n : Nat} {f : Nat → Bool} (h : ∀ i < n, f i = true) : (List.range n).all f = true := List.all_eq_true.2 fun i hi => h i (List.mem_range.1 hi)
theorem lt_next {n : Nat} {f : Nat → Bool} (hI : ∀ i < n, f i = true) (h : f n = true) : ∀ i < n + 1, f i = true := fun i hi => by
  rcases Nat.lt_or_ge i n with h1 | h1
  · exact hI i h1
  · obtain rfl : i = n := by omega
    exact h
structure StateV.mid (s : StateV) : Prop where
  small : s.small
  bs : s.led.bs.length < 2 ^ 20
  qs : s.book.qs.length < 2 ^ 20
  ns : s.roll.ns.length < 2 ^ 20
set_option maxHeartbeats 1000000 in
set_option maxRecDepth 8000 in
theorem refHolds_spec (s : StateV) (hm : s.mid) (hr : s.rng) : Abs.Spec Tryz.prog 22 [] [.agg s.cells] [] (.bool (holdsB s)) := by
  have c1 := refRightS_spec s hm.small hr
  have c2 := fun n => refQty_spec s n hr (by have := hm.qs; omega)
  have c3 := fun c => Spec.le_args (refMoney_spec s c [] hr (by have := hm.bs; omega) (by simp)) (ds' := [.agg s.cells, .int .i64 c, .nil]) (by simp [leDL, leD, ints])
  have c4 := fun c => refPaper_spec s c hr hm.bs hm.qs hm.small.roll.small
  simp only [StateV.cells] at c1 c2 c3 c4 ⊢
  refine Abs.Spec.go (n := 60) (np := 1) (rs := [.tmp 2]) mixed Tryz.func22 rfl rfl rfl rfl rfl (by simp) (by simp) ?_
  simp only [go_sem, Nat.reduceAdd, Nat.reduceSub, Nat.reduceMul, Nat.reducePow, Nat.reduceEqDiff, Nat.reduceLT, Nat.reduceLeDiff, Nat.reduceBEq, Nat.reduceBNe, Int.reduceToNat, Int.reduceLT, Int.reduceLE, Int.reduceEq, Int.reduceBNe, Int.reduceBEq, Int.reduceAdd, Int.reduceSub, Int.reduceMul, Int.reduceNeg, ↓reduceIte]
  refine CallN.pure c1 ?_
  cases b1 : rightS s
  · have e : holdsB s = false := by simp [holdsB, b1]
    simp only [go_sem, Nat.reduceAdd, Nat.reduceSub, Nat.reduceMul, Nat.reducePow, Nat.reduceEqDiff, Nat.reduceLT, Nat.reduceLeDiff, Nat.reduceBEq, Nat.reduceBNe, Int.reduceToNat, Int.reduceLT, Int.reduceLE, Int.reduceEq, Int.reduceBNe, Int.reduceBEq, Int.reduceAdd, Int.reduceSub, Int.reduceMul, Int.reduceNeg, ↓reduceIte, e]
  have e : holdsB s = ((List.range 8).all (fun i => qZ s ((i : Int) + 1)) && (List.range 3).all (fun c => mZ s (c : Nat) && pZ s (c : Nat))) := by simp only [holdsB, b1, Bool.true_and]
  rw [e]
  clear e b1 c1
  obtain ⟨A, hA⟩ : ∃ A, A = (List.range 8).all (fun i => qZ s ((i : Int) + 1)) := ⟨_, rfl⟩
  obtain ⟨B, hB⟩ : ∃ B, B = (List.range 3).all (fun c => mZ s (c : Nat) && pZ s (c : Nat)) := ⟨_, rfl⟩
  rw [← hA, ← hB]
  simp only [go_sem, Nat.reduceAdd, Nat.reduceSub, Nat.reduceMul, Nat.reducePow, Nat.reduceEqDiff, Nat.reduceLT, Nat.reduceLeDiff, Nat.reduceBEq, Nat.reduceBNe, Int.reduceToNat, Int.reduceLT, Int.reduceLE, Int.reduceEq, Int.reduceBNe, Int.reduceBEq, Int.reduceAdd, Int.reduceSub, Int.reduceMul, Int.reduceNeg, ↓reduceIte]
  refine LoopK.walk (S := Unit) 8 [1] [32] (fun i _ => [(3, .int .i64 ((i : Int) + 1))]) (fun i _ => []) (fun i _ => ∀ j < i, qZ s ((j : Int) + 1) = true) () (by simp only [go_sem, Nat.reduceAdd, Nat.reduceSub, Nat.reduceMul, Nat.reducePow, Nat.reduceEqDiff, Nat.reduceLT, Nat.reduceLeDiff, Nat.reduceBEq, Nat.reduceBNe, Int.reduceToNat, Int.reduceLT, Int.reduceLE, Int.reduceEq, Int.reduceBNe, Int.reduceBEq, Int.reduceAdd, Int.reduceSub, Int.reduceMul, Int.reduceNeg, ↓reduceIte] <;> exact rfl) (by simp only [go_sem, Nat.reduceAdd, Nat.reduceSub, Nat.reduceMul, Nat.reducePow, Nat.reduceEqDiff, Nat.reduceLT, Nat.reduceLeDiff, Nat.reduceBEq, Nat.reduceBNe, Int.reduceToNat, Int.reduceLT, Int.reduceLE, Int.reduceEq, Int.reduceBNe, Int.reduceBEq, Int.reduceAdd, Int.reduceSub, Int.reduceMul, Int.reduceNeg, ↓reduceIte] <;> exact rfl) (by simp) ?_ ?_ ?_
  · simp only [go_sem, Nat.reduceAdd, Nat.reduceSub, Nat.reduceMul, Nat.reducePow, Nat.reduceEqDiff, Nat.reduceLT, Nat.reduceLeDiff, Nat.reduceBEq, Nat.reduceBNe, Int.reduceToNat, Int.reduceLT, Int.reduceLE, Int.reduceEq, Int.reduceBNe, Int.reduceBEq, Int.reduceAdd, Int.reduceSub, Int.reduceMul, Int.reduceNeg, ↓reduceIte] <;> simp
  · intro i _ hi _ _ hI
    obtain ⟨n, hn⟩ : ∃ n, n = (i : Int) + 1 := ⟨_, rfl⟩
    have hd : decide (n ≤ 8) = true := decide_eq_true (by omega)
    have hw : IntKind.wrap .i64 (n + 1) = ((i + 1 : Nat) : Int) + 1 := by rw [wr64 (by omega) (by omega)]; omega
    have hz := res_zero (sumL (qtysL n s.book.qs))
    have hbad : qZ s n = false → (A && B) = false := fun h => by
      rw [hA, range_no hi (by rw [← hn]; exact h)]; rfl
    clear hA hB
    have hgood : qZ s n = true → ∀ j < i + 1, qZ s ((j : Int) + 1) = true := fun h => lt_next (f := fun j => qZ s ((j : Int) + 1)) hI (by rw [← hn]; exact h)
    simp only [qZ] at hbad hgood
    rw [← hn]
    simp only [go_sem, Nat.reduceAdd, Nat.reduceSub, Nat.reduceMul, Nat.reducePow, Nat.reduceEqDiff, Nat.reduceLT, Nat.reduceLeDiff, Nat.reduceBEq, Nat.reduceBNe, Int.reduceToNat, Int.reduceLT, Int.reduceLE, Int.reduceEq, Int.reduceBNe, Int.reduceBEq, Int.reduceAdd, Int.reduceSub, Int.reduceMul, Int.reduceNeg, ↓reduceIte, hd]
    refine CallN.pure (c2 n) ?_
    cases q1 : resN (sumL (qtysL n s.book.qs)) == 0
    · rw [q1, Bool.and_false] at hz
      have := hbad hz.symm
      simp only [go_sem, Nat.reduceAdd, Nat.reduceSub, Nat.reduceMul, Nat.reducePow, Nat.reduceEqDiff, Nat.reduceLT, Nat.reduceLeDiff, Nat.reduceBEq, Nat.reduceBNe, Int.reduceToNat, Int.reduceLT, Int.reduceLE, Int.reduceEq, Int.reduceBNe, Int.reduceBEq, Int.reduceAdd, Int.reduceSub, Int.reduceMul, Int.reduceNeg, ↓reduceIte, bne, q1]
      first | exact this.symm | simp only [qZ, this]
    cases q2 : resE (sumL (qtysL n s.book.qs)) == 0
    · rw [q2, Bool.false_and] at hz
      have := hbad hz.symm
      simp only [go_sem, Nat.reduceAdd, Nat.reduceSub, Nat.reduceMul, Nat.reducePow, Nat.reduceEqDiff, Nat.reduceLT, Nat.reduceLeDiff, Nat.reduceBEq, Nat.reduceBNe, Int.reduceToNat, Int.reduceLT, Int.reduceLE, Int.reduceEq, Int.reduceBNe, Int.reduceBEq, Int.reduceAdd, Int.reduceSub, Int.reduceMul, Int.reduceNeg, ↓reduceIte, bne, q1, q2]
      first | exact this.symm | simp only [qZ, this]
    rw [q1, q2] at hz
    simp only [go_sem, Nat.reduceAdd, Nat.reduceSub, Nat.reduceMul, Nat.reducePow, Nat.reduceEqDiff, Nat.reduceLT, Nat.reduceLeDiff, Nat.reduceBEq, Nat.reduceBNe, Int.reduceToNat, Int.reduceLT, Int.reduceLE, Int.reduceEq, Int.reduceBNe, Int.reduceBEq, Int.reduceAdd, Int.reduceSub, Int.reduceMul, Int.reduceNeg, ↓reduceIte, bne, q1, q2, hw]
    refine RoundK.step () hi (hgood (by rw [← hz]; rfl)) ?_
    simp only [go_sem, Nat.reduceAdd, Nat.reduceSub, Nat.reduceMul, Nat.reducePow, Nat.reduceEqDiff, Nat.reduceLT, Nat.reduceLeDiff, Nat.reduceBEq, Nat.reduceBNe, Int.reduceToNat, Int.reduceLT, Int.reduceLE, Int.reduceEq, Int.reduceBNe, Int.reduceBEq, Int.reduceAdd, Int.reduceSub, Int.reduceMul, Int.reduceNeg, ↓reduceIte]
  intro _ _ hI
  rw [range_yes (f := fun i => qZ s ((i : Int) + 1)) hI] at hA
  rw [hA, Bool.true_and]
  clear hI hA
  simp only [go_sem, Nat.reduceAdd, Nat.reduceSub, Nat.reduceMul, Nat.reducePow, Nat.reduceEqDiff, Nat.reduceLT, Nat.reduceLeDiff, Nat.reduceBEq, Nat.reduceBNe, Int.reduceToNat, Int.reduceLT, Int.reduceLE, Int.reduceEq, Int.reduceBNe, Int.reduceBEq, Int.reduceAdd, Int.reduceSub, Int.reduceMul, Int.reduceNeg, ↓reduceIte]
  refine LoopK.walk (S := Unit) 3 [1] [32] (fun i _ => [(6, .int .i64 i)]) (fun i _ => []) (fun i _ => ∀ j < i, (mZ s (j : Nat) && pZ s (j : Nat)) = true) () (by simp only [go_sem, Nat.reduceAdd, Nat.reduceSub, Nat.reduceMul, Nat.reducePow, Nat.reduceEqDiff, Nat.reduceLT, Nat.reduceLeDiff, Nat.reduceBEq, Nat.reduceBNe, Int.reduceToNat, Int.reduceLT, Int.reduceLE, Int.reduceEq, Int.reduceBNe, Int.reduceBEq, Int.reduceAdd, Int.reduceSub, Int.reduceMul, Int.reduceNeg, ↓reduceIte] <;> exact rfl) (by simp only [go_sem, Nat.reduceAdd, Nat.reduceSub, Nat.reduceMul, Nat.reducePow, Nat.reduceEqDiff, Nat.reduceLT, Nat.reduceLeDiff, Nat.reduceBEq, Nat.reduceBNe, Int.reduceToNat, Int.reduceLT, Int.reduceLE, Int.reduceEq, Int.reduceBNe, Int.reduceBEq, Int.reduceAdd, Int.reduceSub, Int.reduceMul, Int.reduceNeg, ↓reduceIte] <;> exact rfl) (by simp) ?_ ?_ ?_
  · simp only [go_sem, Nat.reduceAdd, Nat.reduceSub, Nat.reduceMul, Nat.reducePow, Nat.reduceEqDiff, Nat.reduceLT, Nat.reduceLeDiff, Nat.reduceBEq, Nat.reduceBNe, Int.reduceToNat, Int.reduceLT, Int.reduceLE, Int.reduceEq, Int.reduceBNe, Int.reduceBEq, Int.reduceAdd, Int.reduceSub, Int.reduceMul, Int.reduceNeg, ↓reduceIte] <;> simp
  · intro i _ hi hdi hw hI
    have hdi : decide ((i : Int) < 3) = true := hdi
    have hz := res_zero (sumL (monL i [] s.led.bs))
    have hy := res_zero (sumL (varL i s.led.bs ++ papL s.roll i s.book.qs))
    have hbad : (mZ s (i : Nat) && pZ s (i : Nat)) = false → B = false := fun h => by rw [hB]; exact range_no hi h
    clear hB
    have hgood : (mZ s (i : Nat) && pZ s (i : Nat)) = true → ∀ j < i + 1, (mZ s (j : Nat) && pZ s (j : Nat)) = true := fun h => lt_next (f := fun j => mZ s (j : Nat) && pZ s (j : Nat)) hI h
    simp only [mZ, pZ] at hbad hgood
    simp only [go_sem, Nat.reduceAdd, Nat.reduceSub, Nat.reduceMul, Nat.reducePow, Nat.reduceEqDiff, Nat.reduceLT, Nat.reduceLeDiff, Nat.reduceBEq, Nat.reduceBNe, Int.reduceToNat, Int.reduceLT, Int.reduceLE, Int.reduceEq, Int.reduceBNe, Int.reduceBEq, Int.reduceAdd, Int.reduceSub, Int.reduceMul, Int.reduceNeg, ↓reduceIte, hdi]
    refine CallN.pure (c3 i) ?_
    simp only [go_sem, Nat.reduceAdd, Nat.reduceSub, Nat.reduceMul, Nat.reducePow, Nat.reduceEqDiff, Nat.reduceLT, Nat.reduceLeDiff, Nat.reduceBEq, Nat.reduceBNe, Int.reduceToNat, Int.reduceLT, Int.reduceLE, Int.reduceEq, Int.reduceBNe, Int.reduceBEq, Int.reduceAdd, Int.reduceSub, Int.reduceMul, Int.reduceNeg, ↓reduceIte]
    refine CallN.pure (c4 i) ?_
    simp only [mZ, pZ]
    cases q1 : resN (sumL (monL i [] s.led.bs)) == 0
    · rw [q1, Bool.and_false] at hz
      have := hbad (by rw [← hz]; rfl)
      simp only [go_sem, Nat.reduceAdd, Nat.reduceSub, Nat.reduceMul, Nat.reducePow, Nat.reduceEqDiff, Nat.reduceLT, Nat.reduceLeDiff, Nat.reduceBEq, Nat.reduceBNe, Int.reduceToNat, Int.reduceLT, Int.reduceLE, Int.reduceEq, Int.reduceBNe, Int.reduceBEq, Int.reduceAdd, Int.reduceSub, Int.reduceMul, Int.reduceNeg, ↓reduceIte, bne, q1, this]
    cases q2 : resN (sumL (varL i s.led.bs ++ papL s.roll i s.book.qs)) == 0
    · rw [q2, Bool.and_false] at hy
      have := hbad (by rw [← hy]; simp)
      simp only [go_sem, Nat.reduceAdd, Nat.reduceSub, Nat.reduceMul, Nat.reducePow, Nat.reduceEqDiff, Nat.reduceLT, Nat.reduceLeDiff, Nat.reduceBEq, Nat.reduceBNe, Int.reduceToNat, Int.reduceLT, Int.reduceLE, Int.reduceEq, Int.reduceBNe, Int.reduceBEq, Int.reduceAdd, Int.reduceSub, Int.reduceMul, Int.reduceNeg, ↓reduceIte, bne, q1, q2, this]
    cases q3 : resE (sumL (monL i [] s.led.bs)) == 0
    · rw [q3, Bool.false_and] at hz
      have := hbad (by rw [← hz]; rfl)
      simp only [go_sem, Nat.reduceAdd, Nat.reduceSub, Nat.reduceMul, Nat.reducePow, Nat.reduceEqDiff, Nat.reduceLT, Nat.reduceLeDiff, Nat.reduceBEq, Nat.reduceBNe, Int.reduceToNat, Int.reduceLT, Int.reduceLE, Int.reduceEq, Int.reduceBNe, Int.reduceBEq, Int.reduceAdd, Int.reduceSub, Int.reduceMul, Int.reduceNeg, ↓reduceIte, bne, q1, q2, q3, this]
    cases q4 : resE (sumL (varL i s.led.bs ++ papL s.roll i s.book.qs)) == 0
    · rw [q4, Bool.false_and] at hy
      have := hbad (by rw [← hy]; simp)
      simp only [go_sem, Nat.reduceAdd, Nat.reduceSub, Nat.reduceMul, Nat.reducePow, Nat.reduceEqDiff, Nat.reduceLT, Nat.reduceLeDiff, Nat.reduceBEq, Nat.reduceBNe, Int.reduceToNat, Int.reduceLT, Int.reduceLE, Int.reduceEq, Int.reduceBNe, Int.reduceBEq, Int.reduceAdd, Int.reduceSub, Int.reduceMul, Int.reduceNeg, ↓reduceIte, bne, q1, q2, q3, q4, this]
    rw [q1, q3] at hz
    rw [q2, q4] at hy
    simp only [go_sem, Nat.reduceAdd, Nat.reduceSub, Nat.reduceMul, Nat.reducePow, Nat.reduceEqDiff, Nat.reduceLT, Nat.reduceLeDiff, Nat.reduceBEq, Nat.reduceBNe, Int.reduceToNat, Int.reduceLT, Int.reduceLE, Int.reduceEq, Int.reduceBNe, Int.reduceBEq, Int.reduceAdd, Int.reduceSub, Int.reduceMul, Int.reduceNeg, ↓reduceIte, bne, q1, q2, q3, q4, hw]
    refine RoundK.step () hi ?_ ?_
    · exact hgood (by rw [← hz, ← hy]; rfl)
    · simp only [go_sem, Nat.reduceAdd, Nat.reduceSub, Nat.reduceMul, Nat.reducePow, Nat.reduceEqDiff, Nat.reduceLT, Nat.reduceLeDiff, Nat.reduceBEq, Nat.reduceBNe, Int.reduceToNat, Int.reduceLT, Int.reduceLE, Int.reduceEq, Int.reduceBNe, Int.reduceBEq, Int.reduceAdd, Int.reduceSub, Int.reduceMul, Int.reduceNeg, ↓reduceIte]
  intro _ hdx hI
  have hdx : decide ((3 : Int) < 3) = false := hdx
  rw [range_yes (f := fun c => mZ s (c : Nat) && pZ s (c : Nat)) hI] at hB
  rw [hB]
  simp only [go_sem, Nat.reduceAdd, Nat.reduceSub, Nat.reduceMul, Nat.reducePow, Nat.reduceEqDiff, Nat.reduceLT, Nat.reduceLeDiff, Nat.reduceBEq, Nat.reduceBNe, Int.reduceToNat, Int.reduceLT, Int.reduceLE, Int.reduceEq, Int.reduceBNe, Int.reduceBEq, Int.reduceAdd, Int.reduceSub, Int.reduceMul, Int.reduceNeg, ↓reduceIte, hdx]
end Go.Proofs.YtbllopdcbkeadaaGreat
set_option linter.unusedSimpArgs false
set_option linter.unusedVariables false
namespace Go.Proofs.YtbllopdcbkeadaaGreat
open Go.Abs
theorem paper1_spec (a b : InstV) : Abs.Spec Tryz.prog 68 [] [.agg a.cells, .eaddr b.cells] [] (.bool (a.no == b.no)) := by
  simp only [InstV.cells]
  refine Abs.Spec.go (n := 9) (np := 2) (rs := [.tmp 3]) mixed Tryz.func68 rfl rfl rfl rfl rfl (by simp) (by simp) ?_
  simp only [go_sem, Nat.reduceAdd, Nat.reduceSub, Nat.reduceMul, Nat.reduceEqDiff, Nat.reduceLT, Nat.reduceLeDiff, Nat.reduceBEq, Int.reduceToNat, Int.reduceLT, Int.reduceLE, Int.reduceBEq, ↓reduceIte]
theorem instIndex_spec (xs : List InstV) (x : InstV) (hl : xs.length < 2 ^ 60) : Abs.Spec Tryz.prog 143 [] [.sl 12 (xs.map InstV.cells), .fn 68 [.eaddr x.cells]] [] (.int .i64 (posL InstV.no x.no xs)) := by
  have h := fun a => paper1_spec a x
  simp only [InstV.cells] at h ⊢
  refine Abs.Spec.go (n := 19) (np := 2) (rs := [.tmp 4]) mixed Tryz.func143 rfl rfl rfl rfl rfl (by simp) (by simp) ?_
  simp only [go_sem, Nat.reduceAdd, Nat.reduceSub, Nat.reduceMul, Nat.reduceEqDiff, Nat.reduceLT, Nat.reduceLeDiff, Nat.reduceBEq, Int.reduceToNat, Int.reduceLT, Int.reduceLE, Int.reduceBEq, ↓reduceIte, List.length_map]
  refine LoopK.walk (S := Unit) xs.length [0, 1, 7] [] (fun i _ => [(8, .int .i64 i)]) (fun i _ => []) (fun i _ => ∀ j (hj : j < xs.length), j < i → xs[j].no ≠ x.no) () (by simp only [go_sem, Nat.reduceAdd, Nat.reduceSub, Nat.reduceMul, Nat.reduceEqDiff, Nat.reduceLT, Nat.reduceLeDiff, Nat.reduceBEq, Int.reduceToNat, Int.reduceLT, Int.reduceLE, Int.reduceBEq, ↓reduceIte] <;> exact rfl) (by simp only [go_sem, Nat.reduceAdd, Nat.reduceSub, Nat.reduceMul, Nat.reduceEqDiff, Nat.reduceLT, Nat.reduceLeDiff, Nat.reduceBEq, Int.reduceToNat, Int.reduceLT, Int.reduceLE, Int.reduceBEq, ↓reduceIte] <;> exact rfl) (by intros; omega) ?_ ?_ ?_
  · simp only [go_sem, Nat.reduceAdd, Nat.reduceSub, Nat.reduceMul, Nat.reduceEqDiff, Nat.reduceLT, Nat.reduceLeDiff, Nat.reduceBEq, Int.reduceToNat, Int.reduceLT, Int.reduceLE, Int.reduceBEq, ↓reduceIte] <;> simp
  · intro i _ hi hdi hw hI
    have hm := map_at (c := InstV.cells) xs hi
    have hli : (i : Int) < (xs.length : Int) := by omega
    have hc := h xs[i]
    simp only [InstV.cells] at hm
    simp only [go_sem, Nat.reduceAdd, Nat.reduceSub, Nat.reduceMul, Nat.reduceEqDiff, Nat.reduceLT, Nat.reduceLeDiff, Nat.reduceBEq, Int.reduceToNat, Int.reduceLT, Int.reduceLE, Int.reduceBEq, ↓reduceIte, hdi, List.length_map, hm]
    (repeat' (with_reducible first | refine And.intro ?_ ?_ | exact DrawN.mk (by kernel_rfl) | exact OkN.mk (by kernel_rfl))) <;> try omega
    refine CallN.pure hc ?_
    cases hb : xs[i].no == x.no
    · have hb2 : xs[i].no ≠ x.no := by simpa using hb
      simp only [go_sem, Nat.reduceAdd, Nat.reduceSub, Nat.reduceMul, Nat.reduceEqDiff, Nat.reduceLT, Nat.reduceLeDiff, Nat.reduceBEq, Int.reduceToNat, Int.reduceLT, Int.reduceLE, Int.reduceBEq, ↓reduceIte, hb, hw]
      refine RoundK.step () hi ?_ ?_
      · intro j hj hji
        rcases Nat.lt_or_ge j i with h | h
        · exact hI j hj h
        · obtain rfl : j = i := by omega
          exact hb2
      · simp only [go_sem, Nat.reduceAdd, Nat.reduceSub, Nat.reduceMul, Nat.reduceEqDiff, Nat.reduceLT, Nat.reduceLeDiff, Nat.reduceBEq, Int.reduceToNat, Int.reduceLT, Int.reduceLE, Int.reduceBEq, ↓reduceIte]
    · have hb2 : xs[i].no = x.no := by simpa using hb
      obtain ⟨g1, g2⟩ := getL_hit (z := InstV.zero) hi hI hb2
      rw [g2]
      simp only [go_sem, Nat.reduceAdd, Nat.reduceSub, Nat.reduceMul, Nat.reduceEqDiff, Nat.reduceLT, Nat.reduceLeDiff, Nat.reduceBEq, Int.reduceToNat, Int.reduceLT, Int.reduceLE, Int.reduceBEq, ↓reduceIte, hb]
  · intro _ hdx hI
    obtain ⟨g1, g2⟩ := getL_miss (z := InstV.zero) (fun j hj => hI j hj hj)
    rw [g2]
    simp only [go_sem, Nat.reduceAdd, Nat.reduceSub, Nat.reduceMul, Nat.reduceEqDiff, Nat.reduceLT, Nat.reduceLeDiff, Nat.reduceBEq, Int.reduceToNat, Int.reduceLT, Int.reduceLE, Int.reduceBEq, ↓reduceIte, hdx]
theorem instContains_spec (xs : List InstV) (x : InstV) (hl : xs.length < 2 ^ 60) : Abs.Spec Tryz.prog 67 [] [.sl 12 (xs.map InstV.cells), .fn 68 [.eaddr x.cells]] [] (.bool (seenB xs x.no)) := by
  have h := instIndex_spec xs x hl
  have e : decide (0 ≤ posL InstV.no x.no xs) = seenB xs x.no := by rw [pos_any]; rfl
  simp only [InstV.cells] at h ⊢
  refine Abs.Spec.go (n := 9) (np := 2) (rs := [.tmp 4]) mixed Tryz.func67 rfl rfl rfl rfl rfl (by simp) (by simp) ?_
  simp only [go_sem, Nat.reduceAdd, Nat.reduceSub, Nat.reduceMul, Nat.reduceEqDiff, Nat.reduceLT, Nat.reduceLeDiff, Nat.reduceBEq, Int.reduceToNat, Int.reduceLT, Int.reduceLE, Int.reduceBEq, ↓reduceIte]
  refine CallN.pure h ?_
  simp only [go_sem, Nat.reduceAdd, Nat.reduceSub, Nat.reduceMul, Nat.reduceEqDiff, Nat.reduceLT, Nat.reduceLeDiff, Nat.reduceBEq, Int.reduceToNat, Int.reduceLT, Int.reduceLE, Int.reduceBEq, ↓reduceIte, e]
set_option maxHeartbeats 1000000 in
set_option maxRecDepth 8000 in
theorem auditPaper_spec (s : StateV) (c : Int) (hr : s.rng) (hl : s.led.bs.length < 2 ^ 20) (hq : s.book.qs.length < 2 ^ 11) (hn : s.roll.ns.length < 2 ^ 11) : Abs.Spec Tryz.prog 19 [] [.agg s.cells, .int .i64 c] [] (.tup [.int .i64 (resN (sumL (varL c s.led.bs ++ papL s.roll c s.book.qs))), .int .i64 (resE (sumL (varL c s.led.bs ++ papL s.roll c s.book.qs)))]) := by
  have l1 := varL_len c s.led.bs
  have l2 := papI_len (c := c) (qs := s.book.qs) s.roll.ns []
  have l3 : s.roll.ns.length * s.book.qs.length ≤ 2048 * 2048 := Nat.mul_le_mul (by omega) (by omega)
  have hS := auditSum_spec (varL c s.led.bs ++ papI c s.book.qs [] s.roll.ns) (by simp; omega) (fun q hq => by
    rcases List.mem_append.1 hq with hq | hq
    · exact in2_i64 (varL_rng hr.bs q hq)
    · exact papI_in2 hr.qs _ _ hr.ns q hq)
  have hsum : sumL (varL c s.led.bs ++ papI c s.book.qs [] s.roll.ns) = sumL (varL c s.led.bs ++ papL s.roll c s.book.qs) := by
    rw [sumL_append, sumL_append, pap_eq]
  rw [hsum] at hS
  simp only [StateV.cells]
  refine Abs.Spec.go (n := 83) (np := 2) (rs := [.tmp 4, .tmp 5]) mixed Tryz.func19 rfl rfl rfl rfl rfl (by simp) (by simp) ?_
  simp only [go_sem, Nat.reduceAdd, Nat.reduceSub, Nat.reduceMul, Nat.reduceEqDiff, Nat.reduceLT, Nat.reduceLeDiff, Nat.reduceBEq, Int.reduceToNat, Int.reduceLT, Int.reduceLE, Int.reduceBEq, ↓reduceIte, List.length_map]
  refine LoopK.walk (S := Unit) s.led.bs.length [1, 2, 15, 16] [48, 272] (fun i _ => [(17, .int .i64 i), (6, .ref 512)]) (fun i _ => [(512, .own 2 (wds (varL c (s.led.bs.take i))))]) (fun _ _ => True) () (by simp only [go_sem, Nat.reduceAdd, Nat.reduceSub, Nat.reduceMul, Nat.reduceEqDiff, Nat.reduceLT, Nat.reduceLeDiff, Nat.reduceBEq, Int.reduceToNat, Int.reduceLT, Int.reduceLE, Int.reduceBEq, ↓reduceIte] <;> exact rfl) (by simp only [go_sem, Nat.reduceAdd, Nat.reduceSub, Nat.reduceMul, Nat.reduceEqDiff, Nat.reduceLT, Nat.reduceLeDiff, Nat.reduceBEq, Int.reduceToNat, Int.reduceLT, Int.reduceLE, Int.reduceBEq, ↓reduceIte] <;> exact rfl) trivial ?_ ?_ ?_
  · simp only [go_sem, Nat.reduceAdd, Nat.reduceSub, Nat.reduceMul, Nat.reduceEqDiff, Nat.reduceLT, Nat.reduceLeDiff, Nat.reduceBEq, Int.reduceToNat, Int.reduceLT, Int.reduceLE, Int.reduceBEq, ↓reduceIte] <;> simp [varL, wds]
  · intro i _ hi hdi hwi _
    have hm := map_at (c := BalV.cells) s.led.bs hi
    have hs := varL_step c s.led.bs hi
    have hlen := varL_len c (s.led.bs.take i)
    have hlt : (s.led.bs.take i).length = i := by simp; omega
    obtain ⟨z, hz⟩ : ∃ z, z = s.led.bs[i] := ⟨_, rfl⟩
    have hO := wideOf_spec z.sum (by rw [hz]; exact (hr.bs _ (List.getElem_mem hi)).2.2.2)
    rw [← hz] at hm hs
    simp only [BalV.cells] at hm
    simp only [wd] at hO
    simp only [isVar] at hs
    simp only [go_sem, Nat.reduceAdd, Nat.reduceSub, Nat.reduceMul, Nat.reduceEqDiff, Nat.reduceLT, Nat.reduceLeDiff, Nat.reduceBEq, Int.reduceToNat, Int.reduceLT, Int.reduceLE, Int.reduceBEq, ↓reduceIte, hdi, hm]
    (repeat' (with_reducible first | refine And.intro ?_ ?_ | exact DrawN.mk (by kernel_rfl) | exact OkN.mk (by kernel_rfl))) <;> try omega
    cases b1 : z.kind == 5
    · simp only [b1, Bool.false_and, Bool.false_eq_true, if_false] at hs
      simp only [go_sem, Nat.reduceAdd, Nat.reduceSub, Nat.reduceMul, Nat.reduceEqDiff, Nat.reduceLT, Nat.reduceLeDiff, Nat.reduceBEq, Int.reduceToNat, Int.reduceLT, Int.reduceLE, Int.reduceBEq, ↓reduceIte, b1, hwi]
      refine RoundK.step () hi trivial ?_
      simp only [go_sem, Nat.reduceAdd, Nat.reduceSub, Nat.reduceMul, Nat.reduceEqDiff, Nat.reduceLT, Nat.reduceLeDiff, Nat.reduceBEq, Int.reduceToNat, Int.reduceLT, Int.reduceLE, Int.reduceBEq, ↓reduceIte, hs]
    cases b2 : z.who == 0
    · simp only [b1, b2, Bool.false_and, Bool.and_false, Bool.false_eq_true, if_false] at hs
      simp only [go_sem, Nat.reduceAdd, Nat.reduceSub, Nat.reduceMul, Nat.reduceEqDiff, Nat.reduceLT, Nat.reduceLeDiff, Nat.reduceBEq, Int.reduceToNat, Int.reduceLT, Int.reduceLE, Int.reduceBEq, ↓reduceIte, b1, b2, hwi]
      refine RoundK.step () hi trivial ?_
      simp only [go_sem, Nat.reduceAdd, Nat.reduceSub, Nat.reduceMul, Nat.reduceEqDiff, Nat.reduceLT, Nat.reduceLeDiff, Nat.reduceBEq, Int.reduceToNat, Int.reduceLT, Int.reduceLE, Int.reduceBEq, ↓reduceIte, hs]
    cases b3 : z.cur == c
    · simp only [b1, b2, b3, Bool.and_false, Bool.false_eq_true, if_false] at hs
      simp only [go_sem, Nat.reduceAdd, Nat.reduceSub, Nat.reduceMul, Nat.reduceEqDiff, Nat.reduceLT, Nat.reduceLeDiff, Nat.reduceBEq, Int.reduceToNat, Int.reduceLT, Int.reduceLE, Int.reduceBEq, ↓reduceIte, b1, b2, b3, hwi]
      refine RoundK.step () hi trivial ?_
      simp only [go_sem, Nat.reduceAdd, Nat.reduceSub, Nat.reduceMul, Nat.reduceEqDiff, Nat.reduceLT, Nat.reduceLeDiff, Nat.reduceBEq, Int.reduceToNat, Int.reduceLT, Int.reduceLE, Int.reduceBEq, ↓reduceIte, hs]
    simp only [b1, b2, b3, Bool.and_self, if_true] at hs
    simp only [go_sem, Nat.reduceAdd, Nat.reduceSub, Nat.reduceMul, Nat.reduceEqDiff, Nat.reduceLT, Nat.reduceLeDiff, Nat.reduceBEq, Int.reduceToNat, Int.reduceLT, Int.reduceLE, Int.reduceBEq, ↓reduceIte, b1, b2, b3]
    refine CallN.pure hO ?_
    simp only [go_sem, Nat.reduceAdd, Nat.reduceSub, Nat.reduceMul, Nat.reduceEqDiff, Nat.reduceLT, Nat.reduceLeDiff, Nat.reduceBEq, Int.reduceToNat, Int.reduceLT, Int.reduceLE, Int.reduceBEq, ↓reduceIte, hwi]
    (repeat' (with_reducible first | refine And.intro ?_ ?_ | exact DrawN.mk (by kernel_rfl) | exact OkN.mk (by kernel_rfl))) <;> try omega
    refine RoundK.step () hi trivial ?_
    simp only [go_sem, Nat.reduceAdd, Nat.reduceSub, Nat.reduceMul, Nat.reduceEqDiff, Nat.reduceLT, Nat.reduceLeDiff, Nat.reduceBEq, Int.reduceToNat, Int.reduceLT, Int.reduceLE, Int.reduceBEq, ↓reduceIte, hs] <;> simp [wds, wd]
  intro _ hdx _
  obtain ⟨Vs, hVs⟩ : ∃ Vs, Vs = varL c s.led.bs := ⟨_, rfl⟩
  rw [← hVs] at hS l1
  simp only [go_sem, Nat.reduceAdd, Nat.reduceSub, Nat.reduceMul, Nat.reduceEqDiff, Nat.reduceLT, Nat.reduceLeDiff, Nat.reduceBEq, Int.reduceToNat, Int.reduceLT, Int.reduceLE, Int.reduceBEq, ↓reduceIte, hdx, List.take_length, List.length_map, ← hVs]
  clear hdx
  refine LoopK.walk (S := List Int) s.roll.ns.length [1, 2, 35, 36] [48, 592] (fun i _ => [(37, .int .i64 i), (6, .ref 1232)]) (fun _ L => [(1232, .own 2 (wds (Vs ++ L)))]) (fun k L => L.length ≤ k * s.book.qs.length ∧ L ++ papI c s.book.qs (s.roll.ns.take k) (s.roll.ns.drop k) = papI c s.book.qs [] s.roll.ns) [] (by simp only [go_sem, Nat.reduceAdd, Nat.reduceSub, Nat.reduceMul, Nat.reduceEqDiff, Nat.reduceLT, Nat.reduceLeDiff, Nat.reduceBEq, Int.reduceToNat, Int.reduceLT, Int.reduceLE, Int.reduceBEq, ↓reduceIte] <;> exact rfl) (by simp only [go_sem, Nat.reduceAdd, Nat.reduceSub, Nat.reduceMul, Nat.reduceEqDiff, Nat.reduceLT, Nat.reduceLeDiff, Nat.reduceBEq, Int.reduceToNat, Int.reduceLT, Int.reduceLE, Int.reduceBEq, ↓reduceIte] <;> exact rfl) (by simp) ?_ ?_ ?_
  · simp only [go_sem, Nat.reduceAdd, Nat.reduceSub, Nat.reduceMul, Nat.reduceEqDiff, Nat.reduceLT, Nat.reduceLeDiff, Nat.reduceBEq, Int.reduceToNat, Int.reduceLT, Int.reduceLE, Int.reduceBEq, ↓reduceIte] <;> simp
  · rintro k L hk hdk hwk ⟨hL, hI⟩
    have hm := map_at (c := InstV.cells) s.roll.ns hk
    obtain ⟨x, hx⟩ : ∃ x, x = s.roll.ns[k] := ⟨_, rfl⟩
    have hxr : x.rng := by rw [hx]; exact hr.ns _ (List.getElem_mem hk)
    have hC := instContains_spec (s.roll.ns.take k) x (by simp; omega)
    have htk : s.roll.ns.take (k + 1) = s.roll.ns.take k ++ [x] := by rw [List.take_succ_eq_append_getElem hk, hx]
    rw [drop_at hk, ← hx] at hI
    rw [← hx] at hm
    simp only [papI] at hI
    have hkm : (k + 1) * s.book.qs.length = k * s.book.qs.length + s.book.qs.length := Nat.succ_mul _ _
    have hkk : k * s.book.qs.length ≤ 2048 * 2048 := Nat.mul_le_mul (by omega) (by omega)
    have hmt : (s.roll.ns.map InstV.cells).take k = (s.roll.ns.take k).map InstV.cells := (List.map_take ..).symm
    have hkl : (k : Int) ≤ (s.roll.ns.length : Int) := by omega
    simp only [InstV.cells] at hm hC
    simp only [go_sem, Nat.reduceAdd, Nat.reduceSub, Nat.reduceMul, Nat.reduceEqDiff, Nat.reduceLT, Nat.reduceLeDiff, Nat.reduceBEq, Int.reduceToNat, Int.reduceLT, Int.reduceLE, Int.reduceBEq, ↓reduceIte, hdk, hm]
    (repeat' (with_reducible first | refine And.intro ?_ ?_ | exact DrawN.mk (by kernel_rfl) | exact OkN.mk (by kernel_rfl))) <;> try omega
    cases b1 : x.cur == c
    · simp only [b1, Bool.false_and, Bool.false_eq_true, if_false, List.nil_append] at hI
      simp only [go_sem, Nat.reduceAdd, Nat.reduceSub, Nat.reduceMul, Nat.reduceEqDiff, Nat.reduceLT, Nat.reduceLeDiff, Nat.reduceBEq, Int.reduceToNat, Int.reduceLT, Int.reduceLE, Int.reduceBEq, ↓reduceIte, bne, b1, hwk]
      refine RoundK.step L hk ⟨by omega, by rw [htk]; exact hI⟩ ?_
      simp only [go_sem, Nat.reduceAdd, Nat.reduceSub, Nat.reduceMul, Nat.reduceEqDiff, Nat.reduceLT, Nat.reduceLeDiff, Nat.reduceBEq, Int.reduceToNat, Int.reduceLT, Int.reduceLE, Int.reduceBEq, ↓reduceIte]
    simp only [go_sem, Nat.reduceAdd, Nat.reduceSub, Nat.reduceMul, Nat.reduceEqDiff, Nat.reduceLT, Nat.reduceLeDiff, Nat.reduceBEq, Int.reduceToNat, Int.reduceLT, Int.reduceLE, Int.reduceBEq, ↓reduceIte, bne, b1, List.length_map, hmt]
    (repeat' (with_reducible first | refine And.intro ?_ ?_ | exact DrawN.mk (by kernel_rfl) | exact OkN.mk (by kernel_rfl))) <;> try omega
    refine CallN.gen [] [] true (by simp) ?_
    simp only [go_sem, Nat.reduceAdd, Nat.reduceSub, Nat.reduceMul, Nat.reduceEqDiff, Nat.reduceLT, Nat.reduceLeDiff, Nat.reduceBEq, Int.reduceToNat, Int.reduceLT, Int.reduceLE, Int.reduceBEq, ↓reduceIte, hmt]
    refine CallG.intro hC ?_
    cases b2 : seenB (s.roll.ns.take k) x.no
    case true =>
      simp only [b1, b2, Bool.not_true, Bool.and_false, Bool.false_eq_true, if_false, List.nil_append] at hI
      simp only [go_sem, Nat.reduceAdd, Nat.reduceSub, Nat.reduceMul, Nat.reduceEqDiff, Nat.reduceLT, Nat.reduceLeDiff, Nat.reduceBEq, Int.reduceToNat, Int.reduceLT, Int.reduceLE, Int.reduceBEq, ↓reduceIte, hwk]
      refine RoundK.step L hk ⟨by omega, by rw [htk]; exact hI⟩ ?_
      simp only [go_sem, Nat.reduceAdd, Nat.reduceSub, Nat.reduceMul, Nat.reduceEqDiff, Nat.reduceLT, Nat.reduceLeDiff, Nat.reduceBEq, Int.reduceToNat, Int.reduceLT, Int.reduceLE, Int.reduceBEq, ↓reduceIte]
    simp only [b1, b2, Bool.not_false, Bool.and_self, if_true] at hI
    simp only [go_sem, Nat.reduceAdd, Nat.reduceSub, Nat.reduceMul, Nat.reduceEqDiff, Nat.reduceLT, Nat.reduceLeDiff, Nat.reduceBEq, Int.reduceToNat, Int.reduceLT, Int.reduceLE, Int.reduceBEq, ↓reduceIte, List.length_map]
    refine LoopK.walk (S := Unit) s.book.qs.length [1, 2, 10, 35, 36, 37, 57, 58] [48, 176, 592, 944] (fun i _ => [(59, .int .i64 i), (6, .ref 1232)]) (fun i _ => [(1232, .own 2 (wds (Vs ++ (L ++ costL x (s.book.qs.take i)))))]) (fun _ _ => True) () (by simp only [go_sem, Nat.reduceAdd, Nat.reduceSub, Nat.reduceMul, Nat.reduceEqDiff, Nat.reduceLT, Nat.reduceLeDiff, Nat.reduceBEq, Int.reduceToNat, Int.reduceLT, Int.reduceLE, Int.reduceBEq, ↓reduceIte] <;> exact rfl) (by simp only [go_sem, Nat.reduceAdd, Nat.reduceSub, Nat.reduceMul, Nat.reduceEqDiff, Nat.reduceLT, Nat.reduceLeDiff, Nat.reduceBEq, Int.reduceToNat, Int.reduceLT, Int.reduceLE, Int.reduceBEq, ↓reduceIte] <;> exact rfl) trivial ?_ ?_ ?_
    · simp only [go_sem, Nat.reduceAdd, Nat.reduceSub, Nat.reduceMul, Nat.reduceEqDiff, Nat.reduceLT, Nat.reduceLeDiff, Nat.reduceBEq, Int.reduceToNat, Int.reduceLT, Int.reduceLE, Int.reduceBEq, ↓reduceIte] <;> simp [costL]
    · intro i _ hi hdi hwi _
      have hmp := map_at (c := PosV.cells) s.book.qs hi
      have hs := costL_step x s.book.qs hi
      have hlen := costL_len x (s.book.qs.take i)
      have hlt : (s.book.qs.take i).length = i := by simp; omega
      obtain ⟨p, hp⟩ : ∃ p, p = s.book.qs[i] := ⟨_, rfl⟩
      have hpr : p.rng := by rw [hp]; exact hr.qs _ (List.getElem_mem hi)
      have hT := times_spec x.mult p.cost hxr.2.2.1 hpr.2.2.2
      have hwl : (Vs ++ (L ++ costL x (s.book.qs.take i))).length ≤ s.led.bs.length + (k * s.book.qs.length + i) := by simp; omega
      rw [← hp] at hmp hs
      simp only [PosV.cells] at hmp
      simp only [go_sem, Nat.reduceAdd, Nat.reduceSub, Nat.reduceMul, Nat.reduceEqDiff, Nat.reduceLT, Nat.reduceLeDiff, Nat.reduceBEq, Int.reduceToNat, Int.reduceLT, Int.reduceLE, Int.reduceBEq, ↓reduceIte, hdi, hmp]
      (repeat' (with_reducible first | refine And.intro ?_ ?_ | exact DrawN.mk (by kernel_rfl) | exact OkN.mk (by kernel_rfl))) <;> try omega
      cases b3 : p.inst == x.no
      · simp only [b3, Bool.false_eq_true, if_false] at hs
        simp only [go_sem, Nat.reduceAdd, Nat.reduceSub, Nat.reduceMul, Nat.reduceEqDiff, Nat.reduceLT, Nat.reduceLeDiff, Nat.reduceBEq, Int.reduceToNat, Int.reduceLT, Int.reduceLE, Int.reduceBEq, ↓reduceIte, hwi]
        refine RoundK.step () hi trivial ?_
        simp only [go_sem, Nat.reduceAdd, Nat.reduceSub, Nat.reduceMul, Nat.reduceEqDiff, Nat.reduceLT, Nat.reduceLeDiff, Nat.reduceBEq, Int.reduceToNat, Int.reduceLT, Int.reduceLE, Int.reduceBEq, ↓reduceIte, hs]
      simp only [b3, if_true] at hs
      simp only [go_sem, Nat.reduceAdd, Nat.reduceSub, Nat.reduceMul, Nat.reduceEqDiff, Nat.reduceLT, Nat.reduceLeDiff, Nat.reduceBEq, Int.reduceToNat, Int.reduceLT, Int.reduceLE, Int.reduceBEq, ↓reduceIte]
      refine CallN.pure hT ?_
      simp only [go_sem, Nat.reduceAdd, Nat.reduceSub, Nat.reduceMul, Nat.reduceEqDiff, Nat.reduceLT, Nat.reduceLeDiff, Nat.reduceBEq, Int.reduceToNat, Int.reduceLT, Int.reduceLE, Int.reduceBEq, ↓reduceIte, hwi]
      (repeat' (with_reducible first | refine And.intro ?_ ?_ | exact DrawN.mk (by kernel_rfl) | exact OkN.mk (by kernel_rfl))) <;> try omega
      refine RoundK.step () hi trivial ?_
      simp only [go_sem, Nat.reduceAdd, Nat.reduceSub, Nat.reduceMul, Nat.reduceEqDiff, Nat.reduceLT, Nat.reduceLeDiff, Nat.reduceBEq, Int.reduceToNat, Int.reduceLT, Int.reduceLE, Int.reduceBEq, ↓reduceIte, hs] <;> simp [wds, wd]
    · intro _ hdx _
      have hcl := costL_len x s.book.qs
      simp only [go_sem, Nat.reduceAdd, Nat.reduceSub, Nat.reduceMul, Nat.reduceEqDiff, Nat.reduceLT, Nat.reduceLeDiff, Nat.reduceBEq, Int.reduceToNat, Int.reduceLT, Int.reduceLE, Int.reduceBEq, ↓reduceIte, hdx, List.take_length, hwk]
      refine RoundK.step (L ++ costL x s.book.qs) hk ⟨by simp only [List.length_append]; omega, by rw [htk, List.append_assoc]; exact hI⟩ ?_
      simp only [go_sem, Nat.reduceAdd, Nat.reduceSub, Nat.reduceMul, Nat.reduceEqDiff, Nat.reduceLT, Nat.reduceLeDiff, Nat.reduceBEq, Int.reduceToNat, Int.reduceLT, Int.reduceLE, Int.reduceBEq, ↓reduceIte]
  · rintro L hdx ⟨_, hI⟩
    simp only [List.drop_length, papI, List.append_nil] at hI
    subst hI
    simp only [go_sem, Nat.reduceAdd, Nat.reduceSub, Nat.reduceMul, Nat.reduceEqDiff, Nat.reduceLT, Nat.reduceLeDiff, Nat.reduceBEq, Int.reduceToNat, Int.reduceLT, Int.reduceLE, Int.reduceBEq, ↓reduceIte, hdx]
    refine CallN.gen [] [] true (by simp) ?_
    simp only [go_sem, Nat.reduceAdd, Nat.reduceSub, Nat.reduceMul, Nat.reduceEqDiff, Nat.reduceLT, Nat.reduceLeDiff, Nat.reduceBEq, Int.reduceToNat, Int.reduceLT, Int.reduceLE, Int.reduceBEq, ↓reduceIte]
    refine CallG.intro hS ?_
    simp only [go_sem, Nat.reduceAdd, Nat.reduceSub, Nat.reduceMul, Nat.reduceEqDiff, Nat.reduceLT, Nat.reduceLeDiff, Nat.reduceBEq, Int.reduceToNat, Int.reduceLT, Int.reduceLE, Int.reduceBEq, ↓reduceIte]
end Go.Proofs.YtbllopdcbkeadaaGreat
set_option linter.unusedSimpArgs false
set_option linter.unusedVariables false
namespace Go.Proofs.YtbllopdcbkeadaaGreat
open Go.Abs
set_option maxHeartbeats 1000000 in
set_option maxRecDepth 8000 in
theorem auditHolds_spec (s : StateV) (hm : s.mid) (hq : s.book.qs.length < 2 ^ 11) (hn : s.roll.ns.length < 2 ^ 11) (hr : s.rng) : Abs.Spec Tryz.prog 21 [] [.agg s.cells] [] (.bool (holdsB s)) := by
  have c1 := closeCheck_spec s hm.small
  have c2 := fun n => auditQty_spec s n hr (by have := hm.qs; omega)
  have c3 := fun c => Spec.le_args (auditMoney_spec s c [] hr (by have := hm.bs; omega) (by simp)) (ds' := [.agg s.cells, .int .i64 c, .nil]) (by simp [leDL, leD, ints])
  have c4 := fun c => auditPaper_spec s c hr hm.bs hq hn
  simp only [StateV.cells] at c1 c2 c3 c4 ⊢
  refine Abs.Spec.go (n := 60) (np := 1) (rs := [.tmp 2]) mixed Tryz.func21 rfl rfl rfl rfl rfl (by simp) (by simp) ?_
  simp only [go_sem, Nat.reduceAdd, Nat.reduceSub, Nat.reduceMul, Nat.reducePow, Nat.reduceEqDiff, Nat.reduceLT, Nat.reduceLeDiff, Nat.reduceBEq, Nat.reduceBNe, Int.reduceToNat, Int.reduceLT, Int.reduceLE, Int.reduceEq, Int.reduceBNe, Int.reduceBEq, Int.reduceAdd, Int.reduceSub, Int.reduceMul, Int.reduceNeg, ↓reduceIte]
  refine CallN.pure c1 ?_
  cases b1 : rightS s
  · have e : holdsB s = false := by simp [holdsB, b1]
    simp only [go_sem, Nat.reduceAdd, Nat.reduceSub, Nat.reduceMul, Nat.reducePow, Nat.reduceEqDiff, Nat.reduceLT, Nat.reduceLeDiff, Nat.reduceBEq, Nat.reduceBNe, Int.reduceToNat, Int.reduceLT, Int.reduceLE, Int.reduceEq, Int.reduceBNe, Int.reduceBEq, Int.reduceAdd, Int.reduceSub, Int.reduceMul, Int.reduceNeg, ↓reduceIte, e, b1] <;> simp
  have e : holdsB s = ((List.range 8).all (fun i => qZ s ((i : Int) + 1)) && (List.range 3).all (fun c => mZ s (c : Nat) && pZ s (c : Nat))) := by simp only [holdsB, b1, Bool.true_and]
  rw [e]
  simp only [b1]
  clear e b1 c1
  obtain ⟨A, hA⟩ : ∃ A, A = (List.range 8).all (fun i => qZ s ((i : Int) + 1)) := ⟨_, rfl⟩
  obtain ⟨B, hB⟩ : ∃ B, B = (List.range 3).all (fun c => mZ s (c : Nat) && pZ s (c : Nat)) := ⟨_, rfl⟩
  rw [← hA, ← hB]
  simp only [go_sem, Nat.reduceAdd, Nat.reduceSub, Nat.reduceMul, Nat.reducePow, Nat.reduceEqDiff, Nat.reduceLT, Nat.reduceLeDiff, Nat.reduceBEq, Nat.reduceBNe, Int.reduceToNat, Int.reduceLT, Int.reduceLE, Int.reduceEq, Int.reduceBNe, Int.reduceBEq, Int.reduceAdd, Int.reduceSub, Int.reduceMul, Int.reduceNeg, ↓reduceIte]
  refine LoopK.walk (S := Unit) 8 [1] [32] (fun i _ => [(3, .int .i64 ((i : Int) + 1))]) (fun i _ => []) (fun i _ => ∀ j < i, qZ s ((j : Int) + 1) = true) () (by simp only [go_sem, Nat.reduceAdd, Nat.reduceSub, Nat.reduceMul, Nat.reducePow, Nat.reduceEqDiff, Nat.reduceLT, Nat.reduceLeDiff, Nat.reduceBEq, Nat.reduceBNe, Int.reduceToNat, Int.reduceLT, Int.reduceLE, Int.reduceEq, Int.reduceBNe, Int.reduceBEq, Int.reduceAdd, Int.reduceSub, Int.reduceMul, Int.reduceNeg, ↓reduceIte] <;> exact rfl) (by simp only [go_sem, Nat.reduceAdd, Nat.reduceSub, Nat.reduceMul, Nat.reducePow, Nat.reduceEqDiff, Nat.reduceLT, Nat.reduceLeDiff, Nat.reduceBEq, Nat.reduceBNe, Int.reduceToNat, Int.reduceLT, Int.reduceLE, Int.reduceEq, Int.reduceBNe, Int.reduceBEq, Int.reduceAdd, Int.reduceSub, Int.reduceMul, Int.reduceNeg, ↓reduceIte] <;> exact rfl) (by simp) ?_ ?_ ?_
  · simp only [go_sem, Nat.reduceAdd, Nat.reduceSub, Nat.reduceMul, Nat.reducePow, Nat.reduceEqDiff, Nat.reduceLT, Nat.reduceLeDiff, Nat.reduceBEq, Nat.reduceBNe, Int.reduceToNat, Int.reduceLT, Int.reduceLE, Int.reduceEq, Int.reduceBNe, Int.reduceBEq, Int.reduceAdd, Int.reduceSub, Int.reduceMul, Int.reduceNeg, ↓reduceIte] <;> simp
  · intro i _ hi _ _ hI
    obtain ⟨n, hn⟩ : ∃ n, n = (i : Int) + 1 := ⟨_, rfl⟩
    have hd : decide (n ≤ 8) = true := decide_eq_true (by omega)
    have hw : IntKind.wrap .i64 (n + 1) = ((i + 1 : Nat) : Int) + 1 := by rw [wr64 (by omega) (by omega)]; omega
    have hz := res_zero (sumL (qtysL n s.book.qs))
    have hbad : qZ s n = false → (A && B) = false := fun h => by
      rw [hA, range_no hi (by rw [← hn]; exact h)]; rfl
    clear hA hB
    have hgood : qZ s n = true → ∀ j < i + 1, qZ s ((j : Int) + 1) = true := fun h => lt_next (f := fun j => qZ s ((j : Int) + 1)) hI (by rw [← hn]; exact h)
    simp only [qZ] at hbad hgood
    rw [← hn]
    simp only [go_sem, Nat.reduceAdd, Nat.reduceSub, Nat.reduceMul, Nat.reducePow, Nat.reduceEqDiff, Nat.reduceLT, Nat.reduceLeDiff, Nat.reduceBEq, Nat.reduceBNe, Int.reduceToNat, Int.reduceLT, Int.reduceLE, Int.reduceEq, Int.reduceBNe, Int.reduceBEq, Int.reduceAdd, Int.reduceSub, Int.reduceMul, Int.reduceNeg, ↓reduceIte, hd]
    refine CallN.pure (c2 n) ?_
    cases q2 : resE (sumL (qtysL n s.book.qs)) == 0
    · rw [q2, Bool.false_and] at hz
      have := hbad hz.symm
      simp only [go_sem, Nat.reduceAdd, Nat.reduceSub, Nat.reduceMul, Nat.reducePow, Nat.reduceEqDiff, Nat.reduceLT, Nat.reduceLeDiff, Nat.reduceBEq, Nat.reduceBNe, Int.reduceToNat, Int.reduceLT, Int.reduceLE, Int.reduceEq, Int.reduceBNe, Int.reduceBEq, Int.reduceAdd, Int.reduceSub, Int.reduceMul, Int.reduceNeg, ↓reduceIte, bne, q2]
      first | exact this.symm | simp only [qZ, this]
    cases q1 : resN (sumL (qtysL n s.book.qs)) == 0
    · rw [q1, Bool.and_false] at hz
      have := hbad hz.symm
      simp only [go_sem, Nat.reduceAdd, Nat.reduceSub, Nat.reduceMul, Nat.reducePow, Nat.reduceEqDiff, Nat.reduceLT, Nat.reduceLeDiff, Nat.reduceBEq, Nat.reduceBNe, Int.reduceToNat, Int.reduceLT, Int.reduceLE, Int.reduceEq, Int.reduceBNe, Int.reduceBEq, Int.reduceAdd, Int.reduceSub, Int.reduceMul, Int.reduceNeg, ↓reduceIte, bne, q1, q2]
      first | exact this.symm | simp only [qZ, this]
    rw [q1, q2] at hz
    simp only [go_sem, Nat.reduceAdd, Nat.reduceSub, Nat.reduceMul, Nat.reducePow, Nat.reduceEqDiff, Nat.reduceLT, Nat.reduceLeDiff, Nat.reduceBEq, Nat.reduceBNe, Int.reduceToNat, Int.reduceLT, Int.reduceLE, Int.reduceEq, Int.reduceBNe, Int.reduceBEq, Int.reduceAdd, Int.reduceSub, Int.reduceMul, Int.reduceNeg, ↓reduceIte, bne, q1, q2, hw]
    refine RoundK.step () hi (hgood (by rw [← hz]; rfl)) ?_
    simp only [go_sem, Nat.reduceAdd, Nat.reduceSub, Nat.reduceMul, Nat.reducePow, Nat.reduceEqDiff, Nat.reduceLT, Nat.reduceLeDiff, Nat.reduceBEq, Nat.reduceBNe, Int.reduceToNat, Int.reduceLT, Int.reduceLE, Int.reduceEq, Int.reduceBNe, Int.reduceBEq, Int.reduceAdd, Int.reduceSub, Int.reduceMul, Int.reduceNeg, ↓reduceIte]
  intro _ _ hI
  rw [range_yes (f := fun i => qZ s ((i : Int) + 1)) hI] at hA
  rw [hA, Bool.true_and]
  clear hI hA
  simp only [go_sem, Nat.reduceAdd, Nat.reduceSub, Nat.reduceMul, Nat.reducePow, Nat.reduceEqDiff, Nat.reduceLT, Nat.reduceLeDiff, Nat.reduceBEq, Nat.reduceBNe, Int.reduceToNat, Int.reduceLT, Int.reduceLE, Int.reduceEq, Int.reduceBNe, Int.reduceBEq, Int.reduceAdd, Int.reduceSub, Int.reduceMul, Int.reduceNeg, ↓reduceIte]
  refine LoopK.walk (S := Unit) 3 [1] [32] (fun i _ => [(30, .int .i64 i)]) (fun i _ => []) (fun i _ => ∀ j < i, (mZ s (j : Nat) && pZ s (j : Nat)) = true) () (by simp only [go_sem, Nat.reduceAdd, Nat.reduceSub, Nat.reduceMul, Nat.reducePow, Nat.reduceEqDiff, Nat.reduceLT, Nat.reduceLeDiff, Nat.reduceBEq, Nat.reduceBNe, Int.reduceToNat, Int.reduceLT, Int.reduceLE, Int.reduceEq, Int.reduceBNe, Int.reduceBEq, Int.reduceAdd, Int.reduceSub, Int.reduceMul, Int.reduceNeg, ↓reduceIte] <;> exact rfl) (by simp only [go_sem, Nat.reduceAdd, Nat.reduceSub, Nat.reduceMul, Nat.reducePow, Nat.reduceEqDiff, Nat.reduceLT, Nat.reduceLeDiff, Nat.reduceBEq, Nat.reduceBNe, Int.reduceToNat, Int.reduceLT, Int.reduceLE, Int.reduceEq, Int.reduceBNe, Int.reduceBEq, Int.reduceAdd, Int.reduceSub, Int.reduceMul, Int.reduceNeg, ↓reduceIte] <;> exact rfl) (by simp) ?_ ?_ ?_
  · simp only [go_sem, Nat.reduceAdd, Nat.reduceSub, Nat.reduceMul, Nat.reducePow, Nat.reduceEqDiff, Nat.reduceLT, Nat.reduceLeDiff, Nat.reduceBEq, Nat.reduceBNe, Int.reduceToNat, Int.reduceLT, Int.reduceLE, Int.reduceEq, Int.reduceBNe, Int.reduceBEq, Int.reduceAdd, Int.reduceSub, Int.reduceMul, Int.reduceNeg, ↓reduceIte] <;> simp
  · intro i _ hi hdi hw hI
    have hdi : decide ((i : Int) < 3) = true := hdi
    have hz := res_zero (sumL (monL i [] s.led.bs))
    have hy := res_zero (sumL (varL i s.led.bs ++ papL s.roll i s.book.qs))
    have hbad : (mZ s (i : Nat) && pZ s (i : Nat)) = false → B = false := fun h => by rw [hB]; exact range_no hi h
    clear hB
    have hgood : (mZ s (i : Nat) && pZ s (i : Nat)) = true → ∀ j < i + 1, (mZ s (j : Nat) && pZ s (j : Nat)) = true := fun h => lt_next (f := fun j => mZ s (j : Nat) && pZ s (j : Nat)) hI h
    simp only [mZ, pZ] at hbad hgood
    simp only [go_sem, Nat.reduceAdd, Nat.reduceSub, Nat.reduceMul, Nat.reducePow, Nat.reduceEqDiff, Nat.reduceLT, Nat.reduceLeDiff, Nat.reduceBEq, Nat.reduceBNe, Int.reduceToNat, Int.reduceLT, Int.reduceLE, Int.reduceEq, Int.reduceBNe, Int.reduceBEq, Int.reduceAdd, Int.reduceSub, Int.reduceMul, Int.reduceNeg, ↓reduceIte, hdi]
    refine CallN.pure (c3 i) ?_
    simp only [go_sem, Nat.reduceAdd, Nat.reduceSub, Nat.reduceMul, Nat.reducePow, Nat.reduceEqDiff, Nat.reduceLT, Nat.reduceLeDiff, Nat.reduceBEq, Nat.reduceBNe, Int.reduceToNat, Int.reduceLT, Int.reduceLE, Int.reduceEq, Int.reduceBNe, Int.reduceBEq, Int.reduceAdd, Int.reduceSub, Int.reduceMul, Int.reduceNeg, ↓reduceIte]
    refine CallN.pure (c4 i) ?_
    simp only [mZ, pZ]
    cases q3 : resE (sumL (monL i [] s.led.bs)) == 0
    · rw [q3, Bool.false_and] at hz
      have := hbad (by rw [← hz]; rfl)
      simp only [go_sem, Nat.reduceAdd, Nat.reduceSub, Nat.reduceMul, Nat.reducePow, Nat.reduceEqDiff, Nat.reduceLT, Nat.reduceLeDiff, Nat.reduceBEq, Nat.reduceBNe, Int.reduceToNat, Int.reduceLT, Int.reduceLE, Int.reduceEq, Int.reduceBNe, Int.reduceBEq, Int.reduceAdd, Int.reduceSub, Int.reduceMul, Int.reduceNeg, ↓reduceIte, bne, q3, this]
    cases q4 : resE (sumL (varL i s.led.bs ++ papL s.roll i s.book.qs)) == 0
    · rw [q4, Bool.false_and] at hy
      have := hbad (by rw [← hy]; simp)
      simp only [go_sem, Nat.reduceAdd, Nat.reduceSub, Nat.reduceMul, Nat.reducePow, Nat.reduceEqDiff, Nat.reduceLT, Nat.reduceLeDiff, Nat.reduceBEq, Nat.reduceBNe, Int.reduceToNat, Int.reduceLT, Int.reduceLE, Int.reduceEq, Int.reduceBNe, Int.reduceBEq, Int.reduceAdd, Int.reduceSub, Int.reduceMul, Int.reduceNeg, ↓reduceIte, bne, q3, q4, this]
    cases q1 : resN (sumL (monL i [] s.led.bs)) == 0
    · rw [q1, Bool.and_false] at hz
      have := hbad (by rw [← hz]; rfl)
      simp only [go_sem, Nat.reduceAdd, Nat.reduceSub, Nat.reduceMul, Nat.reducePow, Nat.reduceEqDiff, Nat.reduceLT, Nat.reduceLeDiff, Nat.reduceBEq, Nat.reduceBNe, Int.reduceToNat, Int.reduceLT, Int.reduceLE, Int.reduceEq, Int.reduceBNe, Int.reduceBEq, Int.reduceAdd, Int.reduceSub, Int.reduceMul, Int.reduceNeg, ↓reduceIte, bne, q1, q3, q4, this]
    cases q2 : resN (sumL (varL i s.led.bs ++ papL s.roll i s.book.qs)) == 0
    · rw [q2, Bool.and_false] at hy
      have := hbad (by rw [← hy]; simp)
      simp only [go_sem, Nat.reduceAdd, Nat.reduceSub, Nat.reduceMul, Nat.reducePow, Nat.reduceEqDiff, Nat.reduceLT, Nat.reduceLeDiff, Nat.reduceBEq, Nat.reduceBNe, Int.reduceToNat, Int.reduceLT, Int.reduceLE, Int.reduceEq, Int.reduceBNe, Int.reduceBEq, Int.reduceAdd, Int.reduceSub, Int.reduceMul, Int.reduceNeg, ↓reduceIte, bne, q1, q2, q3, q4, this]
    rw [q1, q3] at hz
    rw [q2, q4] at hy
    simp only [go_sem, Nat.reduceAdd, Nat.reduceSub, Nat.reduceMul, Nat.reducePow, Nat.reduceEqDiff, Nat.reduceLT, Nat.reduceLeDiff, Nat.reduceBEq, Nat.reduceBNe, Int.reduceToNat, Int.reduceLT, Int.reduceLE, Int.reduceEq, Int.reduceBNe, Int.reduceBEq, Int.reduceAdd, Int.reduceSub, Int.reduceMul, Int.reduceNeg, ↓reduceIte, bne, q1, q2, q3, q4, hw]
    refine RoundK.step () hi ?_ ?_
    · exact hgood (by rw [← hz, ← hy]; rfl)
    · simp only [go_sem, Nat.reduceAdd, Nat.reduceSub, Nat.reduceMul, Nat.reducePow, Nat.reduceEqDiff, Nat.reduceLT, Nat.reduceLeDiff, Nat.reduceBEq, Nat.reduceBNe, Int.reduceToNat, Int.reduceLT, Int.reduceLE, Int.reduceEq, Int.reduceBNe, Int.reduceBEq, Int.reduceAdd, Int.reduceSub, Int.reduceMul, Int.reduceNeg, ↓reduceIte]
  intro _ hdx hI
  have hdx : decide ((3 : Int) < 3) = false := hdx
  rw [range_yes (f := fun c => mZ s (c : Nat) && pZ s (c : Nat)) hI] at hB
  rw [hB]
  simp only [go_sem, Nat.reduceAdd, Nat.reduceSub, Nat.reduceMul, Nat.reducePow, Nat.reduceEqDiff, Nat.reduceLT, Nat.reduceLeDiff, Nat.reduceBEq, Nat.reduceBNe, Int.reduceToNat, Int.reduceLT, Int.reduceLE, Int.reduceEq, Int.reduceBNe, Int.reduceBEq, Int.reduceAdd, Int.reduceSub, Int.reduceMul, Int.reduceNeg, ↓reduceIte, hdx]
end Go.Proofs.YtbllopdcbkeadaaGreat
set_option linter.unusedSimpArgs false
set_option linter.unusedVariables false
namespace Go.Proofs.YtbllopdcbkeadaaGreat
open Go.Abs
def txts (l : List ByteArray) : List (List D) := l.map fun s => [.str s]
@[go_sem] theorem txts_len (l : List ByteArray) : (txts l).length = l.length := by simp [txts]
def prow (x : ByteArray × Bool) : List D := [.str x.1, .bool x.2]
def mk13 (s1 s2 s3 s4 s5 s6 s7 s8 s9 s10 s11 s12 s13 : ByteArray) (b1 b2 b3 b4 b5 b6 b7 b8 b9 b10 b11 b12 b13 : Bool) : List (ByteArray × Bool) := [(s1, b1), (s2, b2), (s3, b3), (s4, b4), (s5, b5), (s6, b6), (s7, b7), (s8, b8), (s9, b9), (s10, b10), (s11, b11), (s12, b12), (s13, b13)]
theorem fold13 (s1 s2 s3 s4 s5 s6 s7 s8 s9 s10 s11 s12 s13 : ByteArray) (b1 b2 b3 b4 b5 b6 b7 b8 b9 b10 b11 b12 b13 : Bool) : [[D.str s1, D.bool b1], [D.str s2, D.bool b2], [D.str s3, D.bool b3], [D.str s4, D.bool b4], [D.str s5, D.bool b5], [D.str s6, D.bool b6], [D.str s7, D.bool b7], [D.str s8, D.bool b8], [D.str s9, D.bool b9], [D.str s10, D.bool b10], [D.str s11, D.bool b11], [D.str s12, D.bool b12], [D.str s13, D.bool b13]] = (mk13 s1 s2 s3 s4 s5 s6 s7 s8 s9 s10 s11 s12 s13 b1 b2 b3 b4 b5 b6 b7 b8 b9 b10 b11 b12 b13).map prow := rfl
def bools (l : List Bool) : List (List D) := l.map fun b => [.bool b]
@[go_sem] theorem bools_len (l : List Bool) : (bools l).length = l.length := by simp [bools]
theorem prow_at (l : List (ByteArray × Bool)) {i : Nat} (hi : i < l.length) : (l.map prow).getD i [] = [.str l[i].1, .bool l[i].2] := by simp [prow, hi]
def diffL (L : List (ByteArray × Bool)) : List ByteArray := (L.filter fun x => !x.2).map (·.1)
theorem diffL_len (L : List (ByteArray × Bool)) : (diffL L).length ≤ L.length := by
  rw [diffL, List.length_map]; exact List.length_filter_le ..
theorem diffL_step (L : List (ByteArray × Bool)) {i : Nat} (hi : i < L.length) : diffL (L.take (i + 1)) = if L[i].2 then diffL (L.take i) else diffL (L.take i) ++ [L[i].1] := by
  rw [List.take_succ_eq_append_getElem hi, diffL, List.filter_append, List.map_append]
  cases h : L[i].2 <;> simp [diffL, h]
def parts (a b : StateV) : List (ByteArray × Bool) := mk13 ⟨#[67, 108, 111, 99, 107]⟩ ⟨#[77, 101, 109, 98, 101, 114, 115]⟩ ⟨#[73, 110, 115, 116, 115]⟩ ⟨#[65, 115, 115, 101, 116, 115]⟩ ⟨#[78, 101, 120, 116]⟩ ⟨#[84, 114, 97, 100, 101, 115]⟩ ⟨#[80, 111, 115, 115]⟩ ⟨#[76, 97, 115, 116]⟩ ⟨#[66, 97, 108, 97, 110, 99, 101, 115]⟩ ⟨#[80, 108, 101, 100, 103, 101, 115]⟩ ⟨#[67, 97, 108, 108, 115]⟩ ⟨#[66, 105, 100, 115]⟩ ⟨#[83, 101, 97, 116, 115]⟩ (a.now == b.now && (a.day == b.day && a.phase == b.phase)) (decide (a.roll.ms = b.roll.ms)) (decide (a.roll.ns = b.roll.ns)) (decide (a.roll.xs = b.roll.xs)) (a.book.next == b.book.next) (decide (a.book.ts = b.book.ts)) (decide (a.book.qs = b.book.qs)) (a.led.last == b.led.last) (decide (a.led.bs = b.led.bs)) (decide (a.ps = b.ps)) (decide (a.calls = b.calls)) (decide (a.bids = b.bids)) (decide (a.seats = b.seats))
set_option maxHeartbeats 4000000 in
set_option maxRecDepth 16000 in
theorem auditDiff_spec (a b : StateV) (h : a.small) : Abs.Spec Tryz.prog 24 [] [.agg a.cells, .agg b.cells] [.own 1 (txts (diffL (parts a b)))] (.ref 0) := by
  have hr := h.roll.small
  obtain ⟨hr1, hr2, hr3⟩ := h.roll
  obtain ⟨hb1, hb2⟩ := h.book
  have h1 := eqMemberV_spec a.roll.ms b.roll.ms (by omega)
  have h2 := eqInstV_spec a.roll.ns b.roll.ns (by omega)
  have h3 := eqAssetV_spec a.roll.xs b.roll.xs (by omega)
  have h4 := eqTradeV_spec a.book.ts b.book.ts (by omega)
  have h5 := eqPosV_spec a.book.qs b.book.qs (by omega)
  have h6 := eqBalV_spec a.led.bs b.led.bs (by have := h.led; omega)
  have h7 := eqPlg_spec a.ps b.ps (by have := h.ps; omega)
  have h8 := eqCallV_spec a.calls b.calls (by have := h.calls; omega)
  have h9 := eqBidV_spec a.bids b.bids (by have := h.bids; omega)
  have h10 := sameSeats_spec a.seats b.seats (by have := h.seats; omega) (fun x hx => ⟨by have := (h.rs x hx).1; omega, by have := (h.rs x hx).2; omega⟩)
  simp only [StateV.cells]
  refine Abs.Spec.go (n := 118) (np := 2) (rs := [.tmp 4]) mixed Tryz.func24 rfl rfl rfl rfl rfl (by simp) (by simp) ?_
  simp only [go_sem, Nat.reduceAdd, Nat.reduceSub, Nat.reduceMul, Nat.reduceEqDiff, Nat.reduceLT, Nat.reduceLeDiff, Nat.reduceBEq, Int.reduceToNat, Int.reduceLT, Int.reduceLE, Int.reduceBEq, ↓reduceIte]
  (repeat' (with_reducible first | refine And.intro ?_ ?_ | exact DrawN.mk (by kernel_rfl) | exact OkN.mk (by kernel_rfl))) <;> try omega
  simp only [List.append_eq, List.cons_append, List.nil_append]
  simp only [go_sem, Nat.reduceAdd, Nat.reduceSub, Nat.reduceMul, Nat.reduceEqDiff, Nat.reduceLT, Nat.reduceLeDiff, Nat.reduceBEq, Int.reduceToNat, Int.reduceLT, Int.reduceLE, Int.reduceBEq, ↓reduceIte]
  (repeat' (with_reducible first | refine And.intro ?_ ?_ | exact DrawN.mk (by kernel_rfl) | exact OkN.mk (by kernel_rfl))) <;> try omega
  refine CallN.pure h1 ?_
  simp only [go_sem, Nat.reduceAdd, Nat.reduceSub, Nat.reduceMul, Nat.reduceEqDiff, Nat.reduceLT, Nat.reduceLeDiff, Nat.reduceBEq, Int.reduceToNat, Int.reduceLT, Int.reduceLE, Int.reduceBEq, ↓reduceIte]
  (repeat' (with_reducible first | refine And.intro ?_ ?_ | exact DrawN.mk (by kernel_rfl) | exact OkN.mk (by kernel_rfl))) <;> try omega
  refine CallN.pure h2 ?_
  simp only [go_sem, Nat.reduceAdd, Nat.reduceSub, Nat.reduceMul, Nat.reduceEqDiff, Nat.reduceLT, Nat.reduceLeDiff, Nat.reduceBEq, Int.reduceToNat, Int.reduceLT, Int.reduceLE, Int.reduceBEq, ↓reduceIte]
  (repeat' (with_reducible first | refine And.intro ?_ ?_ | exact DrawN.mk (by kernel_rfl) | exact OkN.mk (by kernel_rfl))) <;> try omega
  refine CallN.pure h3 ?_
  simp only [go_sem, Nat.reduceAdd, Nat.reduceSub, Nat.reduceMul, Nat.reduceEqDiff, Nat.reduceLT, Nat.reduceLeDiff, Nat.reduceBEq, Int.reduceToNat, Int.reduceLT, Int.reduceLE, Int.reduceBEq, ↓reduceIte]
  (repeat' (with_reducible first | refine And.intro ?_ ?_ | exact DrawN.mk (by kernel_rfl) | exact OkN.mk (by kernel_rfl))) <;> try omega
  refine CallN.pure h4 ?_
  simp only [go_sem, Nat.reduceAdd, Nat.reduceSub, Nat.reduceMul, Nat.reduceEqDiff, Nat.reduceLT, Nat.reduceLeDiff, Nat.reduceBEq, Int.reduceToNat, Int.reduceLT, Int.reduceLE, Int.reduceBEq, ↓reduceIte]
  (repeat' (with_reducible first | refine And.intro ?_ ?_ | exact DrawN.mk (by kernel_rfl) | exact OkN.mk (by kernel_rfl))) <;> try omega
  refine CallN.pure h5 ?_
  simp only [go_sem, Nat.reduceAdd, Nat.reduceSub, Nat.reduceMul, Nat.reduceEqDiff, Nat.reduceLT, Nat.reduceLeDiff, Nat.reduceBEq, Int.reduceToNat, Int.reduceLT, Int.reduceLE, Int.reduceBEq, ↓reduceIte]
  (repeat' (with_reducible first | refine And.intro ?_ ?_ | exact DrawN.mk (by kernel_rfl) | exact OkN.mk (by kernel_rfl))) <;> try omega
  refine CallN.pure h6 ?_
  simp only [go_sem, Nat.reduceAdd, Nat.reduceSub, Nat.reduceMul, Nat.reduceEqDiff, Nat.reduceLT, Nat.reduceLeDiff, Nat.reduceBEq, Int.reduceToNat, Int.reduceLT, Int.reduceLE, Int.reduceBEq, ↓reduceIte]
  (repeat' (with_reducible first | refine And.intro ?_ ?_ | exact DrawN.mk (by kernel_rfl) | exact OkN.mk (by kernel_rfl))) <;> try omega
  refine CallN.pure h7 ?_
  simp only [go_sem, Nat.reduceAdd, Nat.reduceSub, Nat.reduceMul, Nat.reduceEqDiff, Nat.reduceLT, Nat.reduceLeDiff, Nat.reduceBEq, Int.reduceToNat, Int.reduceLT, Int.reduceLE, Int.reduceBEq, ↓reduceIte]
  (repeat' (with_reducible first | refine And.intro ?_ ?_ | exact DrawN.mk (by kernel_rfl) | exact OkN.mk (by kernel_rfl))) <;> try omega
  refine CallN.pure h8 ?_
  simp only [go_sem, Nat.reduceAdd, Nat.reduceSub, Nat.reduceMul, Nat.reduceEqDiff, Nat.reduceLT, Nat.reduceLeDiff, Nat.reduceBEq, Int.reduceToNat, Int.reduceLT, Int.reduceLE, Int.reduceBEq, ↓reduceIte]
  (repeat' (with_reducible first | refine And.intro ?_ ?_ | exact DrawN.mk (by kernel_rfl) | exact OkN.mk (by kernel_rfl))) <;> try omega
  refine CallN.pure h9 ?_
  simp only [go_sem, Nat.reduceAdd, Nat.reduceSub, Nat.reduceMul, Nat.reduceEqDiff, Nat.reduceLT, Nat.reduceLeDiff, Nat.reduceBEq, Int.reduceToNat, Int.reduceLT, Int.reduceLE, Int.reduceBEq, ↓reduceIte]
  (repeat' (with_reducible first | refine And.intro ?_ ?_ | exact DrawN.mk (by kernel_rfl) | exact OkN.mk (by kernel_rfl))) <;> try omega
  refine CallN.pure h10 ?_
  simp only [go_sem, Nat.reduceAdd, Nat.reduceSub, Nat.reduceMul, Nat.reduceEqDiff, Nat.reduceLT, Nat.reduceLeDiff, Nat.reduceBEq, Int.reduceToNat, Int.reduceLT, Int.reduceLE, Int.reduceBEq, ↓reduceIte]
  (repeat' (with_reducible first | refine And.intro ?_ ?_ | exact DrawN.mk (by kernel_rfl) | exact OkN.mk (by kernel_rfl))) <;> try omega
  clear h1 h2 h3 h4 h5 h6 h7 h8 h9 h10
  rw [fold13]
  generalize hL : mk13 _ _ _ _ _ _ _ _ _ _ _ _ _ _ _ _ _ _ _ _ _ _ _ _ _ _ = L
  have hlen : L.length = 13 := by rw [← hL]; rfl
  have hres : diffL (parts a b) = diffL L := by rw [← hL]; rfl
  rw [hres]
  clear hres hL
  refine LoopK.walk (S := Unit) 13 [102, 103] [1648] (fun i _ => [(104, .int .i64 i), (5, .ref 1856)]) (fun i _ => [(1856, .own 1 (txts (diffL (L.take i))))]) (fun _ _ => True) () (by simp only [go_sem, Nat.reduceAdd, Nat.reduceSub, Nat.reduceMul, Nat.reduceEqDiff, Nat.reduceLT, Nat.reduceLeDiff, Nat.reduceBEq, Int.reduceToNat, Int.reduceLT, Int.reduceLE, Int.reduceBEq, ↓reduceIte] <;> exact rfl) (by simp only [go_sem, Nat.reduceAdd, Nat.reduceSub, Nat.reduceMul, Nat.reduceEqDiff, Nat.reduceLT, Nat.reduceLeDiff, Nat.reduceBEq, Int.reduceToNat, Int.reduceLT, Int.reduceLE, Int.reduceBEq, ↓reduceIte] <;> exact rfl) trivial ?_ ?_ ?_
  · simp only [go_sem, Nat.reduceAdd, Nat.reduceSub, Nat.reduceMul, Nat.reduceEqDiff, Nat.reduceLT, Nat.reduceLeDiff, Nat.reduceBEq, Int.reduceToNat, Int.reduceLT, Int.reduceLE, Int.reduceBEq, ↓reduceIte] <;> simp [diffL, txts]
  · intro i _ hi hdi hw _
    have hdi : decide ((i : Int) < 13) = true := hdi
    have hi2 : i < L.length := by omega
    have hm := prow_at L hi2
    have hs := diffL_step L hi2
    have hn := diffL_len (L.take i)
    have hn2 : (L.take i).length ≤ 13 := by simp; omega
    have hl1 : (i : Int) < 13 := by omega
    obtain ⟨x, hx⟩ : ∃ x, x = L[i] := ⟨_, rfl⟩
    rw [← hx] at hm hs
    simp only [go_sem, Nat.reduceAdd, Nat.reduceSub, Nat.reduceMul, Nat.reduceEqDiff, Nat.reduceLT, Nat.reduceLeDiff, Nat.reduceBEq, Int.reduceToNat, Int.reduceLT, Int.reduceLE, Int.reduceBEq, ↓reduceIte, hdi, hm, List.length_map, hlen]
    (repeat' (with_reducible first | refine And.intro ?_ ?_ | exact DrawN.mk (by kernel_rfl) | exact OkN.mk (by kernel_rfl))) <;> try omega
    cases hb : x.2
    · rw [hb] at hs
      simp only [Bool.false_eq_true, if_false] at hs
      simp only [go_sem, Nat.reduceAdd, Nat.reduceSub, Nat.reduceMul, Nat.reduceEqDiff, Nat.reduceLT, Nat.reduceLeDiff, Nat.reduceBEq, Int.reduceToNat, Int.reduceLT, Int.reduceLE, Int.reduceBEq, ↓reduceIte, hb, hw]
      (repeat' (with_reducible first | refine And.intro ?_ ?_ | exact DrawN.mk (by kernel_rfl) | exact OkN.mk (by kernel_rfl))) <;> try omega
      refine RoundK.step () hi trivial ?_
      simp only [go_sem, Nat.reduceAdd, Nat.reduceSub, Nat.reduceMul, Nat.reduceEqDiff, Nat.reduceLT, Nat.reduceLeDiff, Nat.reduceBEq, Int.reduceToNat, Int.reduceLT, Int.reduceLE, Int.reduceBEq, ↓reduceIte, hs] <;> simp [txts]
    · rw [hb] at hs
      simp only [if_true] at hs
      simp only [go_sem, Nat.reduceAdd, Nat.reduceSub, Nat.reduceMul, Nat.reduceEqDiff, Nat.reduceLT, Nat.reduceLeDiff, Nat.reduceBEq, Int.reduceToNat, Int.reduceLT, Int.reduceLE, Int.reduceBEq, ↓reduceIte, hb, hw]
      refine RoundK.step () hi trivial ?_
      simp only [go_sem, Nat.reduceAdd, Nat.reduceSub, Nat.reduceMul, Nat.reduceEqDiff, Nat.reduceLT, Nat.reduceLeDiff, Nat.reduceBEq, Int.reduceToNat, Int.reduceLT, Int.reduceLE, Int.reduceBEq, ↓reduceIte, hs]
  · intro _ hdx _
    have hdx : decide ((13 : Int) < 13) = false := hdx
    have ht : L.take 13 = L := List.take_of_length_le (by omega)
    simp only [go_sem, Nat.reduceAdd, Nat.reduceSub, Nat.reduceMul, Nat.reduceEqDiff, Nat.reduceLT, Nat.reduceLeDiff, Nat.reduceBEq, Int.reduceToNat, Int.reduceLT, Int.reduceLE, Int.reduceBEq, ↓reduceIte, hdx, ht]
end Go.Proofs.YtbllopdcbkeadaaGreat
set_option linter.unusedSimpArgs false
set_option linter.unusedVariables false
namespace Go.Proofs.YtbllopdcbkeadaaGreat
open Go.Abs
end Go.Proofs.YtbllopdcbkeadaaGreat
set_option linter.unusedSimpArgs false
set_option linter.unusedVariables false
namespace Go.Proofs.YtbllopdcbkeadaaGreat
open Go.Abs
def longB (r : ReplyV) : Bool := decide (1200 < (r.dues.length : Int)) || decide (1200 < (r.falls.length : Int))
theorem long_spec (r : ReplyV) : Abs.Spec Tryz.prog 61 [] [.agg r.cells] [] (.bool (longB r)) := by
  simp only [ReplyV.cells, longB]
  refine Abs.Spec.go (n := 13) (np := 1) (rs := [.tmp 2]) mixed Tryz.func61 rfl rfl rfl rfl rfl (by simp) (by simp) ?_
  simp only [go_sem, Nat.reduceAdd, Nat.reduceSub, Nat.reduceMul, Nat.reduceEqDiff, Nat.reduceLT, Nat.reduceLeDiff, Nat.reduceBEq, Int.reduceToNat, Int.reduceLT, Int.reduceLE, Int.reduceBEq, ↓reduceIte, List.length_map]
  cases d1 : decide (1200 < (r.dues.length : Int))
  case true => simp only [go_sem, Nat.reduceAdd, Nat.reduceSub, Nat.reduceMul, Nat.reduceEqDiff, Nat.reduceLT, Nat.reduceLeDiff, Nat.reduceBEq, Int.reduceToNat, Int.reduceLT, Int.reduceLE, Int.reduceBEq, ↓reduceIte, d1, List.length_map, Bool.true_or]
  simp only [go_sem, Nat.reduceAdd, Nat.reduceSub, Nat.reduceMul, Nat.reduceEqDiff, Nat.reduceLT, Nat.reduceLeDiff, Nat.reduceBEq, Int.reduceToNat, Int.reduceLT, Int.reduceLE, Int.reduceBEq, ↓reduceIte, d1, List.length_map, Bool.false_or]
def heavyF (s : StateV) : Bool := decide (1200 < (s.roll.ms.length : Int)) || (decide (1200 < (s.roll.ns.length : Int)) || (decide (1200 < (s.roll.xs.length : Int)) || (decide (1200 < (s.book.ts.length : Int)) || (decide (1200 < (s.book.qs.length : Int)) || (decide (1200 < (s.led.bs.length : Int)) || (decide (1200 < (s.ps.length : Int)) || (decide (1200 < (s.calls.length : Int)) || (decide (1200 < (s.bids.length : Int)) || (decide (100 < (s.seats.length : Int)))))))))))
def heavy24 (s : StateV) : Bool := heavyF s || s.seats.any (fun x => longB x.r)
set_option maxHeartbeats 1000000 in
set_option maxRecDepth 8000 in
theorem heavy24_spec (s : StateV) : Abs.Spec Tryz.prog 14 [] [.agg s.cells] [] (.bool (heavy24 s)) := by
  have hpl : (pl s.ps).length = s.ps.length := pl_len s.ps
  have hc := fun x => long_spec x
  simp only [StateV.cells]
  refine Abs.Spec.go (n := 82) (np := 1) (rs := [.tmp 2]) mixed Tryz.func14 rfl rfl rfl rfl rfl (by simp) (by simp) ?_
  simp only [go_sem, Nat.reduceAdd, Nat.reduceSub, Nat.reduceMul, Nat.reduceEqDiff, Nat.reduceLT, Nat.reduceLeDiff, Nat.reduceBEq, Int.reduceToNat, Int.reduceLT, Int.reduceLE, Int.reduceBEq, ↓reduceIte, List.length_map, hpl]
  cases d0 : decide (1200 < (s.roll.ms.length : Int))
  case true =>
    have e : heavy24 s = true := by simp only [heavy24, heavyF, d0, Bool.true_or, Bool.false_or]
    simp only [go_sem, Nat.reduceAdd, Nat.reduceSub, Nat.reduceMul, Nat.reduceEqDiff, Nat.reduceLT, Nat.reduceLeDiff, Nat.reduceBEq, Int.reduceToNat, Int.reduceLT, Int.reduceLE, Int.reduceBEq, ↓reduceIte, d0, e, List.length_map, hpl]
  cases d1 : decide (1200 < (s.roll.ns.length : Int))
  case true =>
    have e : heavy24 s = true := by simp only [heavy24, heavyF, d0, d1, Bool.true_or, Bool.false_or]
    simp only [go_sem, Nat.reduceAdd, Nat.reduceSub, Nat.reduceMul, Nat.reduceEqDiff, Nat.reduceLT, Nat.reduceLeDiff, Nat.reduceBEq, Int.reduceToNat, Int.reduceLT, Int.reduceLE, Int.reduceBEq, ↓reduceIte, d0, d1, e, List.length_map, hpl]
  cases d2 : decide (1200 < (s.roll.xs.length : Int))
  case true =>
    have e : heavy24 s = true := by simp only [heavy24, heavyF, d0, d1, d2, Bool.true_or, Bool.false_or]
    simp only [go_sem, Nat.reduceAdd, Nat.reduceSub, Nat.reduceMul, Nat.reduceEqDiff, Nat.reduceLT, Nat.reduceLeDiff, Nat.reduceBEq, Int.reduceToNat, Int.reduceLT, Int.reduceLE, Int.reduceBEq, ↓reduceIte, d0, d1, d2, e, List.length_map, hpl]
  cases d3 : decide (1200 < (s.book.ts.length : Int))
  case true =>
    have e : heavy24 s = true := by simp only [heavy24, heavyF, d0, d1, d2, d3, Bool.true_or, Bool.false_or]
    simp only [go_sem, Nat.reduceAdd, Nat.reduceSub, Nat.reduceMul, Nat.reduceEqDiff, Nat.reduceLT, Nat.reduceLeDiff, Nat.reduceBEq, Int.reduceToNat, Int.reduceLT, Int.reduceLE, Int.reduceBEq, ↓reduceIte, d0, d1, d2, d3, e, List.length_map, hpl]
  cases d4 : decide (1200 < (s.book.qs.length : Int))
  case true =>
    have e : heavy24 s = true := by simp only [heavy24, heavyF, d0, d1, d2, d3, d4, Bool.true_or, Bool.false_or]
    simp only [go_sem, Nat.reduceAdd, Nat.reduceSub, Nat.reduceMul, Nat.reduceEqDiff, Nat.reduceLT, Nat.reduceLeDiff, Nat.reduceBEq, Int.reduceToNat, Int.reduceLT, Int.reduceLE, Int.reduceBEq, ↓reduceIte, d0, d1, d2, d3, d4, e, List.length_map, hpl]
  cases d5 : decide (1200 < (s.led.bs.length : Int))
  case true =>
    have e : heavy24 s = true := by simp only [heavy24, heavyF, d0, d1, d2, d3, d4, d5, Bool.true_or, Bool.false_or]
    simp only [go_sem, Nat.reduceAdd, Nat.reduceSub, Nat.reduceMul, Nat.reduceEqDiff, Nat.reduceLT, Nat.reduceLeDiff, Nat.reduceBEq, Int.reduceToNat, Int.reduceLT, Int.reduceLE, Int.reduceBEq, ↓reduceIte, d0, d1, d2, d3, d4, d5, e, List.length_map, hpl]
  cases d6 : decide (1200 < (s.ps.length : Int))
  case true =>
    have e : heavy24 s = true := by simp only [heavy24, heavyF, d0, d1, d2, d3, d4, d5, d6, Bool.true_or, Bool.false_or]
    simp only [go_sem, Nat.reduceAdd, Nat.reduceSub, Nat.reduceMul, Nat.reduceEqDiff, Nat.reduceLT, Nat.reduceLeDiff, Nat.reduceBEq, Int.reduceToNat, Int.reduceLT, Int.reduceLE, Int.reduceBEq, ↓reduceIte, d0, d1, d2, d3, d4, d5, d6, e, List.length_map, hpl]
  cases d7 : decide (1200 < (s.calls.length : Int))
  case true =>
    have e : heavy24 s = true := by simp only [heavy24, heavyF, d0, d1, d2, d3, d4, d5, d6, d7, Bool.true_or, Bool.false_or]
    simp only [go_sem, Nat.reduceAdd, Nat.reduceSub, Nat.reduceMul, Nat.reduceEqDiff, Nat.reduceLT, Nat.reduceLeDiff, Nat.reduceBEq, Int.reduceToNat, Int.reduceLT, Int.reduceLE, Int.reduceBEq, ↓reduceIte, d0, d1, d2, d3, d4, d5, d6, d7, e, List.length_map, hpl]
  cases d8 : decide (1200 < (s.bids.length : Int))
  case true =>
    have e : heavy24 s = true := by simp only [heavy24, heavyF, d0, d1, d2, d3, d4, d5, d6, d7, d8, Bool.true_or, Bool.false_or]
    simp only [go_sem, Nat.reduceAdd, Nat.reduceSub, Nat.reduceMul, Nat.reduceEqDiff, Nat.reduceLT, Nat.reduceLeDiff, Nat.reduceBEq, Int.reduceToNat, Int.reduceLT, Int.reduceLE, Int.reduceBEq, ↓reduceIte, d0, d1, d2, d3, d4, d5, d6, d7, d8, e, List.length_map, hpl]
  cases d9 : decide (100 < (s.seats.length : Int))
  case true =>
    have e : heavy24 s = true := by simp only [heavy24, heavyF, d0, d1, d2, d3, d4, d5, d6, d7, d8, d9, Bool.true_or, Bool.false_or]
    simp only [go_sem, Nat.reduceAdd, Nat.reduceSub, Nat.reduceMul, Nat.reduceEqDiff, Nat.reduceLT, Nat.reduceLeDiff, Nat.reduceBEq, Int.reduceToNat, Int.reduceLT, Int.reduceLE, Int.reduceBEq, ↓reduceIte, d0, d1, d2, d3, d4, d5, d6, d7, d8, d9, e, List.length_map, hpl]
  have e : heavy24 s = s.seats.any (fun x => longB x.r) := by simp only [heavy24, heavyF, d0, d1, d2, d3, d4, d5, d6, d7, d8, d9, Bool.false_or]
  rw [e]
  clear e
  have hsl : s.seats.length ≤ 100 := by simp only [decide_eq_false_iff_not] at d9; omega
  simp only [go_sem, Nat.reduceAdd, Nat.reduceSub, Nat.reduceMul, Nat.reduceEqDiff, Nat.reduceLT, Nat.reduceLeDiff, Nat.reduceBEq, Int.reduceToNat, Int.reduceLT, Int.reduceLE, Int.reduceBEq, ↓reduceIte, d0, d1, d2, d3, d4, d5, d6, d7, d8, d9, List.length_map, hpl]
  clear d0 d1 d2 d3 d4 d5 d6 d7 d8 d9
  refine LoopK.walk (S := Unit) s.seats.length [1] [32] (fun i _ => [(3, .int .i64 i)]) (fun i _ => []) (fun i _ => ∀ j (hj : j < s.seats.length), j < i → longB s.seats[j].r = false) () (by simp only [go_sem, Nat.reduceAdd, Nat.reduceSub, Nat.reduceMul, Nat.reduceEqDiff, Nat.reduceLT, Nat.reduceLeDiff, Nat.reduceBEq, Int.reduceToNat, Int.reduceLT, Int.reduceLE, Int.reduceBEq, ↓reduceIte] <;> exact rfl) (by simp only [go_sem, Nat.reduceAdd, Nat.reduceSub, Nat.reduceMul, Nat.reduceEqDiff, Nat.reduceLT, Nat.reduceLeDiff, Nat.reduceBEq, Int.reduceToNat, Int.reduceLT, Int.reduceLE, Int.reduceBEq, ↓reduceIte] <;> exact rfl) (by intros; omega) ?_ ?_ ?_
  · simp only [go_sem, Nat.reduceAdd, Nat.reduceSub, Nat.reduceMul, Nat.reduceEqDiff, Nat.reduceLT, Nat.reduceLeDiff, Nat.reduceBEq, Int.reduceToNat, Int.reduceLT, Int.reduceLE, Int.reduceBEq, ↓reduceIte] <;> simp
  · intro i _ hi hdi hw hI
    have hm := map_at (c := SeatV.cells) s.seats hi
    have hc := hc s.seats[i].r
    have hli : (i : Int) < (s.seats.length : Int) := by omega
    simp only [SeatV.cells] at hm
    simp only [go_sem, Nat.reduceAdd, Nat.reduceSub, Nat.reduceMul, Nat.reduceEqDiff, Nat.reduceLT, Nat.reduceLeDiff, Nat.reduceBEq, Int.reduceToNat, Int.reduceLT, Int.reduceLE, Int.reduceBEq, ↓reduceIte, hdi, List.length_map, hm]
    (repeat' (with_reducible first | refine And.intro ?_ ?_ | exact DrawN.mk (by kernel_rfl) | exact OkN.mk (by kernel_rfl))) <;> try omega
    refine CallN.pure hc ?_
    cases b : longB s.seats[i].r
    case true =>
      have e : s.seats.any (fun x => longB x.r) = true := List.any_eq_true.2 ⟨_, List.getElem_mem hi, b⟩
      simp only [go_sem, Nat.reduceAdd, Nat.reduceSub, Nat.reduceMul, Nat.reduceEqDiff, Nat.reduceLT, Nat.reduceLeDiff, Nat.reduceBEq, Int.reduceToNat, Int.reduceLT, Int.reduceLE, Int.reduceBEq, ↓reduceIte, e]
    simp only [go_sem, Nat.reduceAdd, Nat.reduceSub, Nat.reduceMul, Nat.reduceEqDiff, Nat.reduceLT, Nat.reduceLeDiff, Nat.reduceBEq, Int.reduceToNat, Int.reduceLT, Int.reduceLE, Int.reduceBEq, ↓reduceIte, hw]
    refine RoundK.step () hi (fun j hj hji => ?_) ?_
    · rcases Nat.lt_or_ge j i with h | h
      · exact hI j hj h
      · obtain rfl : j = i := by omega
        exact b
    · simp only [go_sem, Nat.reduceAdd, Nat.reduceSub, Nat.reduceMul, Nat.reduceEqDiff, Nat.reduceLT, Nat.reduceLeDiff, Nat.reduceBEq, Int.reduceToNat, Int.reduceLT, Int.reduceLE, Int.reduceBEq, ↓reduceIte]
  · intro _ hdx hI
    have e : s.seats.any (fun x => longB x.r) = false := List.any_eq_false.2 fun x hx => by
      obtain ⟨j, hj, rfl⟩ := List.mem_iff_getElem.1 hx
      simpa using hI j hj hj
    simp only [go_sem, Nat.reduceAdd, Nat.reduceSub, Nat.reduceMul, Nat.reduceEqDiff, Nat.reduceLT, Nat.reduceLeDiff, Nat.reduceBEq, Int.reduceToNat, Int.reduceLT, Int.reduceLE, Int.reduceBEq, ↓reduceIte, List.length_map, hdx, e]
theorem heavy24_no {s : StateV} (h : heavy24 s = false) (hr : s.rng) : s.mid ∧ s.book.qs.length < 2 ^ 11 ∧ s.roll.ns.length < 2 ^ 11 := by
  simp only [heavy24, heavyF, Bool.or_eq_false_iff, decide_eq_false_iff_not] at h
  refine ⟨⟨⟨⟨by omega, by omega, by omega⟩, ⟨by omega, by omega⟩, by omega, by omega, by omega, by omega, by omega, fun x hx => (hr.seats x hx).2.2.2.2.2.2.2⟩, by omega, by omega, by omega⟩, by omega, by omega⟩
def zeroS (n : Int) : StateV := ⟨n, 0, 0, ⟨[], [], []⟩, ⟨0, [], []⟩, ⟨0, []⟩, [], [], [], []⟩
theorem zeroS_rng {n : Int} (h : I64 n) : (zeroS n).rng := by
  have h0 : I64 0 := ⟨by decide, by decide⟩
  refine ⟨h, h0, h0, ?_, ?_, ?_, h0, ?_, ?_, h0, ?_, ?_, ?_, ?_, ?_⟩ <;> simp [zeroS]
theorem zeroS_mid (n : Int) : (zeroS n).mid := by
  refine ⟨⟨⟨?_, ?_, ?_⟩, ⟨?_, ?_⟩, ?_, ?_, ?_, ?_, ?_, ?_⟩, ?_, ?_, ?_⟩ <;> simp [zeroS]
theorem zero_holds : holdsB (zeroS 0) = true := by kernel_rfl
theorem zero_diff : diffL (parts (zeroS 0) (zeroS 1)) = [⟨#[67, 108, 111, 99, 107]⟩] := by kernel_rfl
set_option maxRecDepth 8000 in
theorem wakes27_spec : Abs.Spec Tryz.prog 23 [] [] [] (.bool true) := by
  have h1 := auditDiff_spec (zeroS 0) (zeroS 1) (zeroS_mid 0).small
  have h2 := auditHolds_spec (zeroS 0) (zeroS_mid 0) (by simp [zeroS]) (by simp [zeroS]) (zeroS_rng ⟨by decide, by decide⟩)
  rw [zero_diff] at h1
  rw [zero_holds] at h2
  simp only [StateV.cells, zeroS, List.map_nil] at h1 h2
  replace h1 := Spec.le_args h1 (ds' := [.agg [.int .i64 0, .int .i64 0, .int .i64 0, .nil, .nil, .nil, .int .i64 0, .nil, .nil, .int .i64 0, .nil, .nil, .nil, .nil, .nil], .agg [.int .i64 1, .int .i64 0, .int .i64 0, .nil, .nil, .nil, .int .i64 0, .nil, .nil, .int .i64 0, .nil, .nil, .nil, .nil, .nil]]) (by simp [leDL, leD, pl])
  replace h2 := Spec.le_args h2 (ds' := [.agg [.int .i64 0, .int .i64 0, .int .i64 0, .nil, .nil, .nil, .int .i64 0, .nil, .nil, .int .i64 0, .nil, .nil, .nil, .nil, .nil]]) (by simp [leDL, leD, pl])
  refine Abs.Spec.go (n := 19) (np := 0) (rs := [.tmp 0]) mixed Tryz.func23 rfl rfl rfl rfl rfl (by simp) (by simp) ?_
  simp only [go_sem, Nat.reduceAdd, Nat.reduceSub, Nat.reduceMul, Nat.reduceEqDiff, Nat.reduceLT, Nat.reduceLeDiff, Nat.reduceBEq, Int.reduceToNat, Int.reduceLT, Int.reduceLE, Int.reduceBEq, ↓reduceIte]
  refine CallN.gen [] [] false (by simp) ?_
  simp only [go_sem, Nat.reduceAdd, Nat.reduceSub, Nat.reduceMul, Nat.reduceEqDiff, Nat.reduceLT, Nat.reduceLeDiff, Nat.reduceBEq, Int.reduceToNat, Int.reduceLT, Int.reduceLE, Int.reduceBEq, ↓reduceIte]
  refine CallG.intro h1 ?_
  simp only [go_sem, Nat.reduceAdd, Nat.reduceSub, Nat.reduceMul, Nat.reduceEqDiff, Nat.reduceLT, Nat.reduceLeDiff, Nat.reduceBEq, Int.reduceToNat, Int.reduceLT, Int.reduceLE, Int.reduceBEq, ↓reduceIte, txts, List.map_cons, List.map_nil, List.length_cons, List.length_nil]
  refine CallN.pure h2 ?_
  simp only [go_sem, Nat.reduceAdd, Nat.reduceSub, Nat.reduceMul, Nat.reduceEqDiff, Nat.reduceLT, Nat.reduceLeDiff, Nat.reduceBEq, Int.reduceToNat, Int.reduceLT, Int.reduceLE, Int.reduceBEq, ↓reduceIte]
end Go.Proofs.YtbllopdcbkeadaaGreat
set_option linter.unusedSimpArgs false
set_option linter.unusedVariables false
namespace Go.Proofs.YtbllopdcbkeadaaGreat
open Go.Abs
set_option maxHeartbeats 1000000 in
set_option maxRecDepth 8000 in
theorem law_auditExact (s : StateV) (n c : Int) (ks : List Int) (hr : s.rng) : Abs.Spec Tryz.prog 4 [] [.agg s.cells, .int .i64 n, .int .i64 c, .sl 1 (ints ks)] [] (.bool true) := by
  have hwk := wakes27_spec
  have hH := heavy24_spec s
  cases hb : heavy24 s
  case true =>
    rw [hb] at hH
    simp only [StateV.cells] at hH ⊢
    refine Abs.Spec.go (n := 112) (np := 4) (rs := [.tmp 8]) mixed Tryz.func4 rfl rfl rfl rfl rfl (by simp) (by simp) ?_
    simp only [go_sem, Nat.reduceAdd, Nat.reduceSub, Nat.reduceMul, Nat.reduceEqDiff, Nat.reduceLT, Nat.reduceLeDiff, Nat.reduceBEq, Int.reduceToNat, Int.reduceLT, Int.reduceLE, Int.reduceBEq, ↓reduceIte]
    refine CallN.pure hH ?_
    simp only [go_sem, Nat.reduceAdd, Nat.reduceSub, Nat.reduceMul, Nat.reduceEqDiff, Nat.reduceLT, Nat.reduceLeDiff, Nat.reduceBEq, Int.reduceToNat, Int.reduceLT, Int.reduceLE, Int.reduceBEq, ↓reduceIte]
  obtain ⟨hm, hq, hn⟩ := heavy24_no hb hr
  cases hk : decide (200 < (ks.length : Int))
  case true =>
    rw [hb] at hH
    simp only [StateV.cells] at hH ⊢
    refine Abs.Spec.go (n := 112) (np := 4) (rs := [.tmp 8]) mixed Tryz.func4 rfl rfl rfl rfl rfl (by simp) (by simp) ?_
    simp only [go_sem, Nat.reduceAdd, Nat.reduceSub, Nat.reduceMul, Nat.reduceEqDiff, Nat.reduceLT, Nat.reduceLeDiff, Nat.reduceBEq, Int.reduceToNat, Int.reduceLT, Int.reduceLE, Int.reduceBEq, ↓reduceIte]
    refine CallN.pure hH ?_
    simp only [go_sem, Nat.reduceAdd, Nat.reduceSub, Nat.reduceMul, Nat.reduceEqDiff, Nat.reduceLT, Nat.reduceLeDiff, Nat.reduceBEq, Int.reduceToNat, Int.reduceLT, Int.reduceLE, Int.reduceBEq, ↓reduceIte, ints_len, hk]
  have hkl : ks.length ≤ 200 := by simp only [decide_eq_false_iff_not] at hk; omega
  have hT := twinState_spec s hm.small
  have hQ := auditQty_spec s n hr (by omega)
  have hQ2 := refQty_spec s n hr (by omega)
  have hM := auditMoney_spec s c ks hr (by have := hm.bs; omega) (by omega)
  have hM2 := refMoney_spec s c ks hr (by have := hm.bs; omega) (by omega)
  have hP := auditPaper_spec s c hr hm.bs hq hn
  have hP2 := refPaper_spec s c hr hm.bs hm.qs hm.small.roll.small
  have hA := auditHolds_spec s hm hq hn hr
  have hA2 := refHolds_spec s hm hr
  have hK := keepState_spec s s hm.small
  rw [sameS_self] at hK
  rw [hb] at hH
  obtain ⟨H, hHH⟩ : ∃ H, H = holdsB s := ⟨_, rfl⟩
  rw [← hHH] at hA hA2
  obtain ⟨q, hq'⟩ : ∃ q, q = sumL (qtysL n s.book.qs) := ⟨_, rfl⟩
  rw [← hq'] at hQ hQ2
  obtain ⟨m, hm'⟩ : ∃ m, m = sumL (monL c ks s.led.bs) := ⟨_, rfl⟩
  rw [← hm'] at hM hM2
  obtain ⟨p, hp'⟩ : ∃ p, p = sumL (varL c s.led.bs ++ papL s.roll c s.book.qs) := ⟨_, rfl⟩
  rw [← hp'] at hP hP2
  simp only [stOwn, stRefs] at hT
  simp only [StateV.cells] at hH hQ hQ2 hM hM2 hP hP2 hA hA2 hT hK ⊢
  refine Abs.Spec.go (n := 112) (np := 4) (rs := [.tmp 8]) mixed Tryz.func4 rfl rfl rfl rfl rfl (by simp) (by simp) ?_
  simp only [go_sem, Nat.reduceAdd, Nat.reduceSub, Nat.reduceMul, Nat.reduceEqDiff, Nat.reduceLT, Nat.reduceLeDiff, Nat.reduceBEq, Int.reduceToNat, Int.reduceLT, Int.reduceLE, Int.reduceBEq, ↓reduceIte]
  refine CallN.pure hH ?_
  simp only [go_sem, Nat.reduceAdd, Nat.reduceSub, Nat.reduceMul, Nat.reduceEqDiff, Nat.reduceLT, Nat.reduceLeDiff, Nat.reduceBEq, Int.reduceToNat, Int.reduceLT, Int.reduceLE, Int.reduceBEq, ↓reduceIte, ints_len, hk]
  refine CallN.gen [] [] false (by simp) ?_
  simp only [go_sem, Nat.reduceAdd, Nat.reduceSub, Nat.reduceMul, Nat.reduceEqDiff, Nat.reduceLT, Nat.reduceLeDiff, Nat.reduceBEq, Int.reduceToNat, Int.reduceLT, Int.reduceLE, Int.reduceBEq, ↓reduceIte]
  refine CallG.intro hT ?_
  simp only [go_sem, Nat.reduceAdd, Nat.reduceSub, Nat.reduceMul, Nat.reduceEqDiff, Nat.reduceLT, Nat.reduceLeDiff, Nat.reduceBEq, Int.reduceToNat, Int.reduceLT, Int.reduceLE, Int.reduceBEq, ↓reduceIte]
  refine CallN.gen [] [] true (by simp) ?_
  simp only [go_sem, Nat.reduceAdd, Nat.reduceSub, Nat.reduceMul, Nat.reduceEqDiff, Nat.reduceLT, Nat.reduceLeDiff, Nat.reduceBEq, Int.reduceToNat, Int.reduceLT, Int.reduceLE, Int.reduceBEq, ↓reduceIte]
  refine CallG.intro hQ ?_
  simp only [go_sem, Nat.reduceAdd, Nat.reduceSub, Nat.reduceMul, Nat.reduceEqDiff, Nat.reduceLT, Nat.reduceLeDiff, Nat.reduceBEq, Int.reduceToNat, Int.reduceLT, Int.reduceLE, Int.reduceBEq, ↓reduceIte]
  refine CallN.pure hQ2 ?_
  simp only [go_sem, Nat.reduceAdd, Nat.reduceSub, Nat.reduceMul, Nat.reduceEqDiff, Nat.reduceLT, Nat.reduceLeDiff, Nat.reduceBEq, Int.reduceToNat, Int.reduceLT, Int.reduceLE, Int.reduceBEq, ↓reduceIte]
  refine CallN.gen [] [] true (by simp) ?_
  simp only [go_sem, Nat.reduceAdd, Nat.reduceSub, Nat.reduceMul, Nat.reduceEqDiff, Nat.reduceLT, Nat.reduceLeDiff, Nat.reduceBEq, Int.reduceToNat, Int.reduceLT, Int.reduceLE, Int.reduceBEq, ↓reduceIte]
  refine CallG.intro hM ?_
  simp only [go_sem, Nat.reduceAdd, Nat.reduceSub, Nat.reduceMul, Nat.reduceEqDiff, Nat.reduceLT, Nat.reduceLeDiff, Nat.reduceBEq, Int.reduceToNat, Int.reduceLT, Int.reduceLE, Int.reduceBEq, ↓reduceIte]
  refine CallN.pure hM2 ?_
  simp only [go_sem, Nat.reduceAdd, Nat.reduceSub, Nat.reduceMul, Nat.reduceEqDiff, Nat.reduceLT, Nat.reduceLeDiff, Nat.reduceBEq, Int.reduceToNat, Int.reduceLT, Int.reduceLE, Int.reduceBEq, ↓reduceIte]
  refine CallN.gen [] [] true (by simp) ?_
  simp only [go_sem, Nat.reduceAdd, Nat.reduceSub, Nat.reduceMul, Nat.reduceEqDiff, Nat.reduceLT, Nat.reduceLeDiff, Nat.reduceBEq, Int.reduceToNat, Int.reduceLT, Int.reduceLE, Int.reduceBEq, ↓reduceIte]
  refine CallG.intro hP ?_
  simp only [go_sem, Nat.reduceAdd, Nat.reduceSub, Nat.reduceMul, Nat.reduceEqDiff, Nat.reduceLT, Nat.reduceLeDiff, Nat.reduceBEq, Int.reduceToNat, Int.reduceLT, Int.reduceLE, Int.reduceBEq, ↓reduceIte]
  refine CallN.pure hP2 ?_
  simp only [go_sem, Nat.reduceAdd, Nat.reduceSub, Nat.reduceMul, Nat.reduceEqDiff, Nat.reduceLT, Nat.reduceLeDiff, Nat.reduceBEq, Int.reduceToNat, Int.reduceLT, Int.reduceLE, Int.reduceBEq, ↓reduceIte, beq_self_eq_true]
  (repeat' (with_reducible first | refine And.intro ?_ ?_ | exact DrawN.mk (by kernel_rfl) | exact OkN.mk (by kernel_rfl))) <;> try omega
  try simp only [go_sem, Nat.reduceAdd, Nat.reduceSub, Nat.reduceMul, Nat.reduceEqDiff, Nat.reduceLT, Nat.reduceLeDiff, Nat.reduceBEq, Int.reduceToNat, Int.reduceLT, Int.reduceLE, Int.reduceBEq, ↓reduceIte, beq_self_eq_true]
  try (repeat' (with_reducible first | refine And.intro ?_ ?_ | exact DrawN.mk (by kernel_rfl) | exact OkN.mk (by kernel_rfl))) <;> try omega
  refine CallN.gen [] [] true (by simp) ?_
  simp only [go_sem, Nat.reduceAdd, Nat.reduceSub, Nat.reduceMul, Nat.reduceEqDiff, Nat.reduceLT, Nat.reduceLeDiff, Nat.reduceBEq, Int.reduceToNat, Int.reduceLT, Int.reduceLE, Int.reduceBEq, ↓reduceIte]
  refine CallG.intro hA ?_
  simp only [go_sem, Nat.reduceAdd, Nat.reduceSub, Nat.reduceMul, Nat.reduceEqDiff, Nat.reduceLT, Nat.reduceLeDiff, Nat.reduceBEq, Int.reduceToNat, Int.reduceLT, Int.reduceLE, Int.reduceBEq, ↓reduceIte]
  try (repeat' (with_reducible first | refine And.intro ?_ ?_ | exact DrawN.mk (by kernel_rfl) | exact OkN.mk (by kernel_rfl))) <;> try omega
  refine CallN.pure hA2 ?_
  simp only [go_sem, Nat.reduceAdd, Nat.reduceSub, Nat.reduceMul, Nat.reduceEqDiff, Nat.reduceLT, Nat.reduceLeDiff, Nat.reduceBEq, Int.reduceToNat, Int.reduceLT, Int.reduceLE, Int.reduceBEq, ↓reduceIte, beq_self_eq_true]
  try (repeat' (with_reducible first | refine And.intro ?_ ?_ | exact DrawN.mk (by kernel_rfl) | exact OkN.mk (by kernel_rfl))) <;> try omega
  refine CallN.gen [] [] true (by simp) ?_
  simp only [go_sem, Nat.reduceAdd, Nat.reduceSub, Nat.reduceMul, Nat.reduceEqDiff, Nat.reduceLT, Nat.reduceLeDiff, Nat.reduceBEq, Int.reduceToNat, Int.reduceLT, Int.reduceLE, Int.reduceBEq, ↓reduceIte]
  refine CallG.intro hK ?_
  simp only [go_sem, Nat.reduceAdd, Nat.reduceSub, Nat.reduceMul, Nat.reduceEqDiff, Nat.reduceLT, Nat.reduceLeDiff, Nat.reduceBEq, Int.reduceToNat, Int.reduceLT, Int.reduceLE, Int.reduceBEq, ↓reduceIte]
  try (repeat' (with_reducible first | refine And.intro ?_ ?_ | exact DrawN.mk (by kernel_rfl) | exact OkN.mk (by kernel_rfl))) <;> try omega
  refine CallN.pure hwk ?_
  simp only [go_sem, Nat.reduceAdd, Nat.reduceSub, Nat.reduceMul, Nat.reduceEqDiff, Nat.reduceLT, Nat.reduceLeDiff, Nat.reduceBEq, Int.reduceToNat, Int.reduceLT, Int.reduceLE, Int.reduceBEq, ↓reduceIte]
  try (repeat' (with_reducible first | refine And.intro ?_ ?_ | exact DrawN.mk (by kernel_rfl) | exact OkN.mk (by kernel_rfl))) <;> try omega
@[reducible] def intc (x : Int) : List D := [.int .i64 x]
theorem fit_int (r : List D) (h : FitL [.int .i64] r) : ∃ x : Int, True ∧ r = intc x := by
  simp only [FitL, Fit] at h
  obtain ⟨_, _, rfl, ⟨a, rfl, _⟩, rfl⟩ := h
  exact ⟨a, trivial, rfl⟩
theorem exact27 (s : StateV) (n c : Int) (ks : List Int) (hr : s.rng) : Abs.Spec Tryz.prog 4 [] [.agg s.cells, .int .i64 n, .int .i64 c, .sl 1 (ks.map intc)] [] (.bool true) := law_auditExact s n c ks hr
end Go.Proofs.YtbllopdcbkeadaaGreat
