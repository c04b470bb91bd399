/- The reference's books. The reference's cover and what it lacks. Whether two states are the same. The law CoverStands. No theorem of a claim. -/
import Derived.Test.YtbllopdcbkeadaaGreatNF
import Derived.Test.YtbllopdcbkeadaaGreatNC
set_option linter.unusedSimpArgs false
set_option linter.unusedVariables false
namespace Go.Proofs.YtbllopdcbkeadaaGreat
open Go.Abs
theorem refKey_spec (w n : Int) : Abs.Spec Tryz.prog 134 [] [.agg [.int .i64 w, .int .i64 n]] [] (.bool (keyB w n)) := by
  have h1 := refWho_spec w
  have h2 := within11_spec n 1 8
  refine Abs.Spec.go (n := 11) (np := 1) (rs := [.tmp 2]) mixed Tryz.func134 rfl rfl rfl rfl rfl (by simp) (by simp) ?_
  simp only [go_sem, Nat.reduceAdd, Nat.reduceSub, Nat.reduceMul, Nat.reducePow, Nat.reduceEqDiff, Nat.reduceLT, Nat.reduceLeDiff, Nat.reduceBEq, Nat.reduceBNe, Int.reduceToNat, Int.reduceLT, Int.reduceLE, Int.reduceEq, Int.reduceBNe, Int.reduceBEq, Int.reduceAdd, Int.reduceSub, Int.reduceMul, Int.reduceNeg, ↓reduceIte]
  repeat' (with_reducible first
      | refine And.intro ?_ ?_
      | exact DrawN.mk (by kernel_rfl)
      | exact OkN.mk (by kernel_rfl)
      | refine CallN.pure (by assumption) ?_
      | refine CallN.pure (h1) ?_
      | refine CallN.pure (h2) ?_
      | refine GuardK.splitDN (fun h => ?_) (fun h => ?_)
      | refine GuardK.splitD (fun h => ?_) (fun h => ?_)
      | refine CondE.splitDN (fun h => ?_) (fun h => ?_)
      | refine CondE.splitD (fun h => ?_) (fun h => ?_)
      | refine GuardK.splitN (fun h => ?_) (fun h => ?_)
      | refine GuardK.split (fun h => ?_) (fun h => ?_)
      | refine CondE.splitN (fun h => ?_) (fun h => ?_)
      | refine CondE.split (fun h => ?_) (fun h => ?_)
      | refine WeakK.id ?_
      | refine RoundK.next (by omega) ?_ ?_
      | exact trivial
      | simp only [*, go_sem, Nat.reduceAdd, Nat.reduceSub, Nat.reduceMul, Nat.reducePow, Nat.reduceEqDiff, Nat.reduceLT, Nat.reduceLeDiff, Nat.reduceBEq, Nat.reduceBNe, Int.reduceToNat, Int.reduceLT, Int.reduceLE, Int.reduceEq, Int.reduceBNe, Int.reduceBEq, Int.reduceAdd, Int.reduceSub, Int.reduceMul, Int.reduceNeg, ↓reduceIte])
  all_goals (simp_all [keyB])
theorem refKeyLess_spec (a b c d : Int) : Abs.Spec Tryz.prog 135 [] [.agg [.int .i64 a, .int .i64 b], .agg [.int .i64 c, .int .i64 d]] [] (.bool (keyL a b c d)) := by
  refine Abs.Spec.go (n := 24) (np := 2) (rs := [.tmp 4]) mixed Tryz.func135 rfl rfl rfl rfl rfl (by simp) (by simp) ?_
  simp only [go_sem, Nat.reduceAdd, Nat.reduceSub, Nat.reduceMul, Nat.reducePow, Nat.reduceEqDiff, Nat.reduceLT, Nat.reduceLeDiff, Nat.reduceBEq, Nat.reduceBNe, Int.reduceToNat, Int.reduceLT, Int.reduceLE, Int.reduceEq, Int.reduceBNe, Int.reduceBEq, Int.reduceAdd, Int.reduceSub, Int.reduceMul, Int.reduceNeg, ↓reduceIte]
  repeat' (with_reducible first
      | refine And.intro ?_ ?_
      | exact DrawN.mk (by kernel_rfl)
      | exact OkN.mk (by kernel_rfl)
      | refine CallN.pure (by assumption) ?_
      | refine GuardK.splitDN (fun h => ?_) (fun h => ?_)
      | refine GuardK.splitD (fun h => ?_) (fun h => ?_)
      | refine CondE.splitDN (fun h => ?_) (fun h => ?_)
      | refine CondE.splitD (fun h => ?_) (fun h => ?_)
      | refine GuardK.splitN (fun h => ?_) (fun h => ?_)
      | refine GuardK.split (fun h => ?_) (fun h => ?_)
      | refine CondE.splitN (fun h => ?_) (fun h => ?_)
      | refine CondE.split (fun h => ?_) (fun h => ?_)
      | refine WeakK.id ?_
      | refine RoundK.next (by omega) ?_ ?_
      | exact trivial
      | simp only [*, go_sem, Nat.reduceAdd, Nat.reduceSub, Nat.reduceMul, Nat.reducePow, Nat.reduceEqDiff, Nat.reduceLT, Nat.reduceLeDiff, Nat.reduceBEq, Nat.reduceBNe, Int.reduceToNat, Int.reduceLT, Int.reduceLE, Int.reduceEq, Int.reduceBNe, Int.reduceBEq, Int.reduceAdd, Int.reduceSub, Int.reduceMul, Int.reduceNeg, ↓reduceIte])
  all_goals (simp only [keyL]; simp_all)
theorem refSized_spec (t : TradeV) : Abs.Spec Tryz.prog 170 [] [.agg t.cells] [] (.bool (within t.qty 1 1048576 && within t.price 1 1073741824)) := by
  have h1 := within11_spec t.qty 1 1048576
  have h2 := within11_spec t.price 1 1073741824
  simp only [TradeV.cells]
  refine Abs.Spec.go (n := 11) (np := 1) (rs := [.tmp 2]) mixed Tryz.func170 rfl rfl rfl rfl rfl (by simp) (by simp) ?_
  simp only [go_sem, Nat.reduceAdd, Nat.reduceSub, Nat.reduceMul, Nat.reducePow, Nat.reduceEqDiff, Nat.reduceLT, Nat.reduceLeDiff, Nat.reduceBEq, Nat.reduceBNe, Int.reduceToNat, Int.reduceLT, Int.reduceLE, Int.reduceEq, Int.reduceBNe, Int.reduceBEq, Int.reduceAdd, Int.reduceSub, Int.reduceMul, Int.reduceNeg, ↓reduceIte]
  repeat' (with_reducible first
      | refine And.intro ?_ ?_
      | exact DrawN.mk (by kernel_rfl)
      | exact OkN.mk (by kernel_rfl)
      | refine CallN.pure (by assumption) ?_
      | refine CallN.pure (h1) ?_
      | refine CallN.pure (h2) ?_
      | refine GuardK.splitDN (fun h => ?_) (fun h => ?_)
      | refine GuardK.splitD (fun h => ?_) (fun h => ?_)
      | refine CondE.splitDN (fun h => ?_) (fun h => ?_)
      | refine CondE.splitD (fun h => ?_) (fun h => ?_)
      | refine GuardK.splitN (fun h => ?_) (fun h => ?_)
      | refine GuardK.split (fun h => ?_) (fun h => ?_)
      | refine CondE.splitN (fun h => ?_) (fun h => ?_)
      | refine CondE.split (fun h => ?_) (fun h => ?_)
      | refine WeakK.id ?_
      | refine RoundK.next (by omega) ?_ ?_
      | exact trivial
      | simp only [*, go_sem, Nat.reduceAdd, Nat.reduceSub, Nat.reduceMul, Nat.reducePow, Nat.reduceEqDiff, Nat.reduceLT, Nat.reduceLeDiff, Nat.reduceBEq, Nat.reduceBNe, Int.reduceToNat, Int.reduceLT, Int.reduceLE, Int.reduceEq, Int.reduceBNe, Int.reduceBEq, Int.reduceAdd, Int.reduceSub, Int.reduceMul, Int.reduceNeg, ↓reduceIte])
  all_goals (simp_all)
theorem refNumbers_spec (t : TradeV) : Abs.Spec Tryz.prog 136 [] [.agg t.cells] [] (.bool t.okB) := by
  have h0 := refSized_spec t
  have h1 := refWho_spec t.buyer
  have h2 := refWho_spec t.seller
  have h3 := within11_spec t.inst 1 8
  simp only [TradeV.cells] at h0 ⊢
  refine Abs.Spec.go (n := 27) (np := 1) (rs := [.tmp 2]) mixed Tryz.func136 rfl rfl rfl rfl rfl (by simp) (by simp) ?_
  simp only [go_sem, Nat.reduceAdd, Nat.reduceSub, Nat.reduceMul, Nat.reducePow, Nat.reduceEqDiff, Nat.reduceLT, Nat.reduceLeDiff, Nat.reduceBEq, Nat.reduceBNe, Int.reduceToNat, Int.reduceLT, Int.reduceLE, Int.reduceEq, Int.reduceBNe, Int.reduceBEq, Int.reduceAdd, Int.reduceSub, Int.reduceMul, Int.reduceNeg, ↓reduceIte]
  repeat' (with_reducible first
      | refine And.intro ?_ ?_
      | exact DrawN.mk (by kernel_rfl)
      | exact OkN.mk (by kernel_rfl)
      | refine CallN.pure (by assumption) ?_
      | refine CallN.pure (h0) ?_
      | refine CallN.pure (h1) ?_
      | refine CallN.pure (h2) ?_
      | refine CallN.pure (h3) ?_
      | refine GuardK.splitDN (fun h => ?_) (fun h => ?_)
      | refine GuardK.splitD (fun h => ?_) (fun h => ?_)
      | refine CondE.splitDN (fun h => ?_) (fun h => ?_)
      | refine CondE.splitD (fun h => ?_) (fun h => ?_)
      | refine GuardK.splitN (fun h => ?_) (fun h => ?_)
      | refine GuardK.split (fun h => ?_) (fun h => ?_)
      | refine CondE.splitN (fun h => ?_) (fun h => ?_)
      | refine CondE.split (fun h => ?_) (fun h => ?_)
      | refine WeakK.id ?_
      | refine RoundK.next (by omega) ?_ ?_
      | exact trivial
      | simp only [*, go_sem, Nat.reduceAdd, Nat.reduceSub, Nat.reduceMul, Nat.reducePow, Nat.reduceEqDiff, Nat.reduceLT, Nat.reduceLeDiff, Nat.reduceBEq, Nat.reduceBNe, Int.reduceToNat, Int.reduceLT, Int.reduceLE, Int.reduceEq, Int.reduceBNe, Int.reduceBEq, Int.reduceAdd, Int.reduceSub, Int.reduceMul, Int.reduceNeg, ↓reduceIte])
  all_goals first
    | (simp_all [TradeV.okB, keyB, bne]; done)
    | (rw [Bool.eq_iff_iff]; simp_all [TradeV.okB, keyB, bne])
theorem tradeLt_eq (a b : TradeV) : tradeLt a b = !decide (b.no ≤ a.no) := by
  rw [Bool.eq_iff_iff]; simp [tradeLt]
theorem qtysL_rng {n : Int} {l : List PosV} (h : ∀ p ∈ l, p.rng) : ∀ q ∈ qtysL n l, I64 q := by
  intro q hq
  simp only [qtysL, List.mem_map, List.mem_filter] at hq
  obtain ⟨p, ⟨hp, _⟩, rfl⟩ := hq
  exact (h p hp).2.2.1
theorem level1_ref {n : Int} {l : List PosV} (h : chB PosV.okB posLt l = true) : level1 n l = (inR (sumL (qtysL n l)) && addN (qtysL n l) == 0) := by
  have hr : right (qtysL n l) = true := List.all_eq_true.2 fun q hq => by
    simp only [qtysL, List.mem_map, List.mem_filter] at hq
    obtain ⟨p, ⟨hp, _⟩, rfl⟩ := hq
    obtain ⟨i, hi, rfl⟩ := List.mem_iff_getElem.1 hp
    have := chB_ok h hi
    simp only [PosV.okB, within, Bool.and_eq_true, decide_eq_true_eq] at this
    refine inR_iff.2 ?_
    omega
  simp only [level1, sumE, sumN, addN, hr, if_true, Bool.true_and]
  cases inR (sumL (qtysL n l)) <;> simp
set_option maxHeartbeats 2000000 in
set_option maxRecDepth 8000 in
theorem refBook_spec (b : BookV) (hl : b.small) (hr : ∀ p ∈ b.qs, p.rng) : Abs.Spec Tryz.prog 51 [] [.agg b.cells] [] (.bool b.okB) := by
  obtain ⟨hl1, hl2⟩ := hl
  have hA := fun n => refAdd_spec (qtysL n b.qs) (qtysL_rng hr) (by have := qtysL_len n b.qs; omega)
  have hN := within11_spec b.next 0 1099511627776
  have hNe : within b.next 0 1099511627776 = (!decide (b.next < 0) && !decide (1099511627776 < b.next)) := by rw [Bool.eq_iff_iff]; simp [within]
  simp only [BookV.cells]
  refine Abs.Spec.go (n := 156) (np := 1) (rs := [.tmp 2]) mixed Tryz.func51 rfl rfl rfl rfl rfl (by simp) (by simp) ?_
  simp only [go_sem, Nat.reduceAdd, Nat.reduceSub, Nat.reduceMul, Nat.reducePow, Nat.reduceEqDiff, Nat.reduceLT, Nat.reduceLeDiff, Nat.reduceBEq, Nat.reduceBNe, Int.reduceToNat, Int.reduceLT, Int.reduceLE, Int.reduceEq, Int.reduceBNe, Int.reduceBEq, Int.reduceAdd, Int.reduceSub, Int.reduceMul, Int.reduceNeg, ↓reduceIte]
  refine CallN.pure hN ?_
  cases b1 : within b.next 0 1099511627776
  · rw [hNe] at b1
    have e : b.okB = false := by simp only [BookV.okB, b1, Bool.and_false]
    simp only [go_sem, Nat.reduceAdd, Nat.reduceSub, Nat.reduceMul, Nat.reducePow, Nat.reduceEqDiff, Nat.reduceLT, Nat.reduceLeDiff, Nat.reduceBEq, Nat.reduceBNe, Int.reduceToNat, Int.reduceLT, Int.reduceLE, Int.reduceEq, Int.reduceBNe, Int.reduceBEq, Int.reduceAdd, Int.reduceSub, Int.reduceMul, Int.reduceNeg, ↓reduceIte, e]
  cases b2 : decide (128 < (b.ts.length : Int))
  case true =>
    have e : b.okB = false := by simp [BookV.okB, b2]
    simp only [go_sem, Nat.reduceAdd, Nat.reduceSub, Nat.reduceMul, Nat.reducePow, Nat.reduceEqDiff, Nat.reduceLT, Nat.reduceLeDiff, Nat.reduceBEq, Nat.reduceBNe, Int.reduceToNat, Int.reduceLT, Int.reduceLE, Int.reduceEq, Int.reduceBNe, Int.reduceBEq, Int.reduceAdd, Int.reduceSub, Int.reduceMul, Int.reduceNeg, ↓reduceIte, List.length_map, b2, e]
  have e : b.okB = (chB PosV.okB posLt b.qs && (chB (tradeOk b.next) tradeLt b.ts && levelB b.qs)) := by
    rw [hNe] at b1
    simp only [BookV.okB, b1, b2, Bool.not_false, Bool.and_true]
  rw [e]
  clear e hN hNe
  simp only [go_sem, Nat.reduceAdd, Nat.reduceSub, Nat.reduceMul, Nat.reducePow, Nat.reduceEqDiff, Nat.reduceLT, Nat.reduceLeDiff, Nat.reduceBEq, Nat.reduceBNe, Int.reduceToNat, Int.reduceLT, Int.reduceLE, Int.reduceEq, Int.reduceBNe, Int.reduceBEq, Int.reduceAdd, Int.reduceSub, Int.reduceMul, Int.reduceNeg, ↓reduceIte, List.length_map, b2]
  refine LoopK.count b.qs.length [1] [32] (fun i => [(3, .int .i64 i)]) (fun i => []) (fun i => ∀ j < i, chAt PosV.okB posLt b.qs j = true) (by simp only [go_sem, Nat.reduceAdd, Nat.reduceSub, Nat.reduceMul, Nat.reducePow, Nat.reduceEqDiff, Nat.reduceLT, Nat.reduceLeDiff, Nat.reduceBEq, Nat.reduceBNe, Int.reduceToNat, Int.reduceLT, Int.reduceLE, Int.reduceEq, Int.reduceBNe, Int.reduceBEq, Int.reduceAdd, Int.reduceSub, Int.reduceMul, Int.reduceNeg, ↓reduceIte] <;> exact rfl) (by simp only [go_sem, Nat.reduceAdd, Nat.reduceSub, Nat.reduceMul, Nat.reducePow, Nat.reduceEqDiff, Nat.reduceLT, Nat.reduceLeDiff, Nat.reduceBEq, Nat.reduceBNe, Int.reduceToNat, Int.reduceLT, Int.reduceLE, Int.reduceEq, Int.reduceBNe, Int.reduceBEq, Int.reduceAdd, Int.reduceSub, Int.reduceMul, Int.reduceNeg, ↓reduceIte] <;> exact rfl) (by simp) ?_ ?_
  · simp only [go_sem, Nat.reduceAdd, Nat.reduceSub, Nat.reduceMul, Nat.reducePow, Nat.reduceEqDiff, Nat.reduceLT, Nat.reduceLeDiff, Nat.reduceBEq, Nat.reduceBNe, Int.reduceToNat, Int.reduceLT, Int.reduceLE, Int.reduceEq, Int.reduceBNe, Int.reduceBEq, Int.reduceAdd, Int.reduceSub, Int.reduceMul, Int.reduceNeg, ↓reduceIte] <;> simp
  intro i hi hI
  simp only [go_sem, Nat.reduceAdd, Nat.reduceSub, Nat.reduceMul, Nat.reducePow, Nat.reduceEqDiff, Nat.reduceLT, Nat.reduceLeDiff, Nat.reduceBEq, Nat.reduceBNe, Int.reduceToNat, Int.reduceLT, Int.reduceLE, Int.reduceEq, Int.reduceBNe, Int.reduceBEq, Int.reduceAdd, Int.reduceSub, Int.reduceMul, Int.reduceNeg, ↓reduceIte, List.length_map]
  refine CondE.splitD (fun h => ?_) (fun h => ?_)
  · have hi' : i < b.qs.length := by omega
    have hw : IntKind.wrap .i64 ((i : Int) + 1) = ((i + 1 : Nat) : Int) := by rw [wr64 (by omega) (by omega)]; omega
    have hm := map_at (c := PosV.cells) b.qs hi'
    have h1 := refKey_spec b.qs[i].who b.qs[i].inst
    have h2 := refRight_spec b.qs[i].cost
    have h3 := within11_spec b.qs[i].qty (-1099511627776) 1099511627776
    have e0 := ch_next (i := i) hI
    have e1 : chAt PosV.okB posLt b.qs i = false → (chB PosV.okB posLt b.qs && (chB (tradeOk b.next) tradeLt b.ts && levelB b.qs)) = false := fun hx => by simp [chB_no hi' hx]
    simp only [PosV.cells] at hm
    clear hA
    rcases Nat.eq_zero_or_pos i with rfl | hpos
    · have hk := chAt_zero (ok := PosV.okB) (lt := posLt) hi'
      simp only [PosV.okB] at hk
      simp only [go_sem, Nat.reduceAdd, Nat.reduceSub, Nat.reduceMul, Nat.reducePow, Nat.reduceEqDiff, Nat.reduceLT, Nat.reduceLeDiff, Nat.reduceBEq, Nat.reduceBNe, Int.reduceToNat, Int.reduceLT, Int.reduceLE, Int.reduceEq, Int.reduceBNe, Int.reduceBEq, Int.reduceAdd, Int.reduceSub, Int.reduceMul, Int.reduceNeg, ↓reduceIte, hm, List.length_map]
      repeat' (with_reducible first
          | refine And.intro ?_ ?_
          | exact DrawN.mk (by kernel_rfl)
          | exact OkN.mk (by kernel_rfl)
          | refine CallN.pure (by assumption) ?_
          | refine CallN.pure (h1) ?_
          | refine CallN.pure (h2) ?_
          | refine CallN.pure (h3) ?_
          | refine GuardK.splitDN (fun h => ?_) (fun h => ?_)
          | refine GuardK.splitD (fun h => ?_) (fun h => ?_)
          | refine CondE.splitDN (fun h => ?_) (fun h => ?_)
          | refine CondE.splitD (fun h => ?_) (fun h => ?_)
          | refine GuardK.splitN (fun h => ?_) (fun h => ?_)
          | refine GuardK.split (fun h => ?_) (fun h => ?_)
          | refine CondE.splitN (fun h => ?_) (fun h => ?_)
          | refine CondE.split (fun h => ?_) (fun h => ?_)
          | refine WeakK.id ?_
          | refine RoundK.next (by omega) ?_ ?_
          | exact trivial
          | simp only [*, go_sem, Nat.reduceAdd, Nat.reduceSub, Nat.reduceMul, Nat.reducePow, Nat.reduceEqDiff, Nat.reduceLT, Nat.reduceLeDiff, Nat.reduceBEq, Nat.reduceBNe, Int.reduceToNat, Int.reduceLT, Int.reduceLE, Int.reduceEq, Int.reduceBNe, Int.reduceBEq, Int.reduceAdd, Int.reduceSub, Int.reduceMul, Int.reduceNeg, ↓reduceIte])
      all_goals first
        | omega
        | rfl
        | (refine e0 ?_; clear e0 e1; rw [hk]; clear hk; simp_all; done)
        | (rw [e1 ?_]; clear e0 e1; rw [hk]; clear hk; simp_all; done)
    · obtain ⟨j, rfl⟩ : ∃ j, i = j + 1 := ⟨i - 1, by omega⟩
      have hj : j < b.qs.length := by omega
      have hw1 : IntKind.wrap .i64 (((j + 1 : Nat) : Int) - 1) = (j : Int) := by rw [wr64 (by omega) (by omega)]; omega
      have hk := chAt_succ (ok := PosV.okB) (lt := posLt) hi'
      simp only [PosV.okB, posLt] at hk
      have hmj := map_at (c := PosV.cells) b.qs hj
      have h4 := refKeyLess_spec b.qs[j].who b.qs[j].inst b.qs[j + 1].who b.qs[j + 1].inst
      simp only [PosV.cells] at hmj
      simp only [go_sem, Nat.reduceAdd, Nat.reduceSub, Nat.reduceMul, Nat.reducePow, Nat.reduceEqDiff, Nat.reduceLT, Nat.reduceLeDiff, Nat.reduceBEq, Nat.reduceBNe, Int.reduceToNat, Int.reduceLT, Int.reduceLE, Int.reduceEq, Int.reduceBNe, Int.reduceBEq, Int.reduceAdd, Int.reduceSub, Int.reduceMul, Int.reduceNeg, ↓reduceIte, hm, List.length_map]
      repeat' (with_reducible first
          | refine And.intro ?_ ?_
          | exact DrawN.mk (by kernel_rfl)
          | exact OkN.mk (by kernel_rfl)
          | refine CallN.pure (by assumption) ?_
          | refine CallN.pure (h1) ?_
          | refine CallN.pure (h2) ?_
          | refine CallN.pure (h3) ?_
          | refine CallN.pure (h4) ?_
          | refine GuardK.splitDN (fun h => ?_) (fun h => ?_)
          | refine GuardK.splitD (fun h => ?_) (fun h => ?_)
          | refine CondE.splitDN (fun h => ?_) (fun h => ?_)
          | refine CondE.splitD (fun h => ?_) (fun h => ?_)
          | refine GuardK.splitN (fun h => ?_) (fun h => ?_)
          | refine GuardK.split (fun h => ?_) (fun h => ?_)
          | refine CondE.splitN (fun h => ?_) (fun h => ?_)
          | refine CondE.split (fun h => ?_) (fun h => ?_)
          | refine WeakK.id ?_
          | refine RoundK.next (by omega) ?_ ?_
          | exact trivial
          | simp only [*, go_sem, Nat.reduceAdd, Nat.reduceSub, Nat.reduceMul, Nat.reducePow, Nat.reduceEqDiff, Nat.reduceLT, Nat.reduceLeDiff, Nat.reduceBEq, Nat.reduceBNe, Int.reduceToNat, Int.reduceLT, Int.reduceLE, Int.reduceEq, Int.reduceBNe, Int.reduceBEq, Int.reduceAdd, Int.reduceSub, Int.reduceMul, Int.reduceNeg, ↓reduceIte, hmj, List.length_map])
      all_goals first
        | omega
        | rfl
        | (refine e0 ?_; clear e0 e1; rw [hk]; clear hk; simp_all; done)
        | (rw [e1 ?_]; clear e0 e1; rw [hk]; clear hk; simp_all; done)
  have hP := chB_yes (fun j (hj : j < b.qs.length) => hI j (by omega))
  have hl1r := fun n : Int => level1_ref (n := n) hP
  rw [hP, Bool.true_and]
  clear hI
  simp only [go_sem, Nat.reduceAdd, Nat.reduceSub, Nat.reduceMul, Nat.reducePow, Nat.reduceEqDiff, Nat.reduceLT, Nat.reduceLeDiff, Nat.reduceBEq, Nat.reduceBNe, Int.reduceToNat, Int.reduceLT, Int.reduceLE, Int.reduceEq, Int.reduceBNe, Int.reduceBEq, Int.reduceAdd, Int.reduceSub, Int.reduceMul, Int.reduceNeg, ↓reduceIte]
  refine LoopK.walk (S := Unit) 8 [1] [32] (fun i _ => [(5, .int .i64 ((i : Int) + 1))]) (fun i _ => []) (fun i _ => ∀ j < i, level1 ((j : Int) + 1) b.qs = true) () (by simp only [go_sem, Nat.reduceAdd, Nat.reduceSub, Nat.reduceMul, Nat.reducePow, Nat.reduceEqDiff, Nat.reduceLT, Nat.reduceLeDiff, Nat.reduceBEq, Nat.reduceBNe, Int.reduceToNat, Int.reduceLT, Int.reduceLE, Int.reduceEq, Int.reduceBNe, Int.reduceBEq, Int.reduceAdd, Int.reduceSub, Int.reduceMul, Int.reduceNeg, ↓reduceIte] <;> exact rfl) (by simp only [go_sem, Nat.reduceAdd, Nat.reduceSub, Nat.reduceMul, Nat.reducePow, Nat.reduceEqDiff, Nat.reduceLT, Nat.reduceLeDiff, Nat.reduceBEq, Nat.reduceBNe, Int.reduceToNat, Int.reduceLT, Int.reduceLE, Int.reduceEq, Int.reduceBNe, Int.reduceBEq, Int.reduceAdd, Int.reduceSub, Int.reduceMul, Int.reduceNeg, ↓reduceIte] <;> exact rfl) (by simp) ?_ ?_ ?_
  · simp only [go_sem, Nat.reduceAdd, Nat.reduceSub, Nat.reduceMul, Nat.reducePow, Nat.reduceEqDiff, Nat.reduceLT, Nat.reduceLeDiff, Nat.reduceBEq, Nat.reduceBNe, Int.reduceToNat, Int.reduceLT, Int.reduceLE, Int.reduceEq, Int.reduceBNe, Int.reduceBEq, Int.reduceAdd, Int.reduceSub, Int.reduceMul, Int.reduceNeg, ↓reduceIte] <;> simp
  · intro c _ hc _ _ hC
    obtain ⟨n, hn⟩ : ∃ n, n = (c : Int) + 1 := ⟨_, rfl⟩
    have hd : decide (n ≤ 8) = true := decide_eq_true (by omega)
    have hw : IntKind.wrap .i64 (n + 1) = ((c + 1 : Nat) : Int) + 1 := by rw [wr64 (by omega) (by omega)]; omega
    rw [← hn]
    simp only [go_sem, Nat.reduceAdd, Nat.reduceSub, Nat.reduceMul, Nat.reducePow, Nat.reduceEqDiff, Nat.reduceLT, Nat.reduceLeDiff, Nat.reduceBEq, Nat.reduceBNe, Int.reduceToNat, Int.reduceLT, Int.reduceLE, Int.reduceEq, Int.reduceBNe, Int.reduceBEq, Int.reduceAdd, Int.reduceSub, Int.reduceMul, Int.reduceNeg, ↓reduceIte, hd, List.length_map]
    refine LoopK.walk (S := Unit) b.qs.length [1, 5] [32] (fun i _ => [(7, .int .i64 i), (6, .ref 1696)]) (fun i _ => [(1696, .own 1 (ints (qtysL n (b.qs.take i))))]) (fun _ _ => True) () (by simp only [go_sem, Nat.reduceAdd, Nat.reduceSub, Nat.reduceMul, Nat.reducePow, Nat.reduceEqDiff, Nat.reduceLT, Nat.reduceLeDiff, Nat.reduceBEq, Nat.reduceBNe, Int.reduceToNat, Int.reduceLT, Int.reduceLE, Int.reduceEq, Int.reduceBNe, Int.reduceBEq, Int.reduceAdd, Int.reduceSub, Int.reduceMul, Int.reduceNeg, ↓reduceIte] <;> exact rfl) (by simp only [go_sem, Nat.reduceAdd, Nat.reduceSub, Nat.reduceMul, Nat.reducePow, Nat.reduceEqDiff, Nat.reduceLT, Nat.reduceLeDiff, Nat.reduceBEq, Nat.reduceBNe, Int.reduceToNat, Int.reduceLT, Int.reduceLE, Int.reduceEq, Int.reduceBNe, Int.reduceBEq, Int.reduceAdd, Int.reduceSub, Int.reduceMul, Int.reduceNeg, ↓reduceIte] <;> exact rfl) trivial ?_ ?_ ?_
    · simp only [go_sem, Nat.reduceAdd, Nat.reduceSub, Nat.reduceMul, Nat.reducePow, Nat.reduceEqDiff, Nat.reduceLT, Nat.reduceLeDiff, Nat.reduceBEq, Nat.reduceBNe, Int.reduceToNat, Int.reduceLT, Int.reduceLE, Int.reduceEq, Int.reduceBNe, Int.reduceBEq, Int.reduceAdd, Int.reduceSub, Int.reduceMul, Int.reduceNeg, ↓reduceIte] <;> simp [qtysL, ints]
    · intro i _ hi hdi hwi _
      have hm := map_at (c := PosV.cells) b.qs hi
      have hs := qtysL_step n b.qs hi
      have hlen := qtysL_len n (b.qs.take i)
      have hlt : (b.qs.take i).length = i := by simp; omega
      have hli : (i : Int) < (b.qs.length : Int) := by omega
      simp only [PosV.cells] at hm
      simp only [go_sem, Nat.reduceAdd, Nat.reduceSub, Nat.reduceMul, Nat.reducePow, Nat.reduceEqDiff, Nat.reduceLT, Nat.reduceLeDiff, Nat.reduceBEq, Nat.reduceBNe, Int.reduceToNat, Int.reduceLT, Int.reduceLE, Int.reduceEq, Int.reduceBNe, Int.reduceBEq, Int.reduceAdd, Int.reduceSub, Int.reduceMul, Int.reduceNeg, ↓reduceIte, hdi, hm, List.length_map]
      (repeat' (with_reducible first | refine And.intro ?_ ?_ | exact DrawN.mk (by kernel_rfl) | exact OkN.mk (by kernel_rfl))) <;> try omega
      cases hb : b.qs[i].inst == n
      · simp only [hb, Bool.false_eq_true, if_false] at hs
        simp only [go_sem, Nat.reduceAdd, Nat.reduceSub, Nat.reduceMul, Nat.reducePow, Nat.reduceEqDiff, Nat.reduceLT, Nat.reduceLeDiff, Nat.reduceBEq, Nat.reduceBNe, Int.reduceToNat, Int.reduceLT, Int.reduceLE, Int.reduceEq, Int.reduceBNe, Int.reduceBEq, Int.reduceAdd, Int.reduceSub, Int.reduceMul, Int.reduceNeg, ↓reduceIte, hwi]
        refine RoundK.step () hi trivial ?_
        simp only [go_sem, Nat.reduceAdd, Nat.reduceSub, Nat.reduceMul, Nat.reducePow, Nat.reduceEqDiff, Nat.reduceLT, Nat.reduceLeDiff, Nat.reduceBEq, Nat.reduceBNe, Int.reduceToNat, Int.reduceLT, Int.reduceLE, Int.reduceEq, Int.reduceBNe, Int.reduceBEq, Int.reduceAdd, Int.reduceSub, Int.reduceMul, Int.reduceNeg, ↓reduceIte, hs]
      · simp only [hb, if_true] at hs
        simp only [go_sem, Nat.reduceAdd, Nat.reduceSub, Nat.reduceMul, Nat.reducePow, Nat.reduceEqDiff, Nat.reduceLT, Nat.reduceLeDiff, Nat.reduceBEq, Nat.reduceBNe, Int.reduceToNat, Int.reduceLT, Int.reduceLE, Int.reduceEq, Int.reduceBNe, Int.reduceBEq, Int.reduceAdd, Int.reduceSub, Int.reduceMul, Int.reduceNeg, ↓reduceIte, hwi, ints_len, List.length_map, hm]
        (repeat' (with_reducible first | refine And.intro ?_ ?_ | exact DrawN.mk (by kernel_rfl) | exact OkN.mk (by kernel_rfl))) <;> try omega
        refine RoundK.step () hi trivial ?_
        simp only [go_sem, Nat.reduceAdd, Nat.reduceSub, Nat.reduceMul, Nat.reducePow, Nat.reduceEqDiff, Nat.reduceLT, Nat.reduceLeDiff, Nat.reduceBEq, Nat.reduceBNe, Int.reduceToNat, Int.reduceLT, Int.reduceLE, Int.reduceEq, Int.reduceBNe, Int.reduceBEq, Int.reduceAdd, Int.reduceSub, Int.reduceMul, Int.reduceNeg, ↓reduceIte, hs] <;> simp [ints]
    · intro _ hdx _
      have hbad : level1 n b.qs = false → levelB b.qs = false := fun hx => by
        cases hh : levelB b.qs
        · rfl
        · have := List.all_eq_true.1 hh c (List.mem_range.2 hc)
          rw [← hn, hx] at this; cases this
      have hr1 := hl1r n
      simp only [go_sem, Nat.reduceAdd, Nat.reduceSub, Nat.reduceMul, Nat.reducePow, Nat.reduceEqDiff, Nat.reduceLT, Nat.reduceLeDiff, Nat.reduceBEq, Nat.reduceBNe, Int.reduceToNat, Int.reduceLT, Int.reduceLE, Int.reduceEq, Int.reduceBNe, Int.reduceBEq, Int.reduceAdd, Int.reduceSub, Int.reduceMul, Int.reduceNeg, ↓reduceIte, hdx, List.length_map, List.take_length]
      refine CallN.gen [] [] true (by simp) ?_
      simp only [go_sem, Nat.reduceAdd, Nat.reduceSub, Nat.reduceMul, Nat.reducePow, Nat.reduceEqDiff, Nat.reduceLT, Nat.reduceLeDiff, Nat.reduceBEq, Nat.reduceBNe, Int.reduceToNat, Int.reduceLT, Int.reduceLE, Int.reduceEq, Int.reduceBNe, Int.reduceBEq, Int.reduceAdd, Int.reduceSub, Int.reduceMul, Int.reduceNeg, ↓reduceIte]
      refine CallG.intro (hA n) ?_
      cases b3 : inR (sumL (qtysL n b.qs))
      · have := hbad (by rw [hr1, b3]; rfl)
        simp only [go_sem, Nat.reduceAdd, Nat.reduceSub, Nat.reduceMul, Nat.reducePow, Nat.reduceEqDiff, Nat.reduceLT, Nat.reduceLeDiff, Nat.reduceBEq, Nat.reduceBNe, Int.reduceToNat, Int.reduceLT, Int.reduceLE, Int.reduceEq, Int.reduceBNe, Int.reduceBEq, Int.reduceAdd, Int.reduceSub, Int.reduceMul, Int.reduceNeg, ↓reduceIte, b3, this, Bool.and_false]
      cases b4 : addN (qtysL n b.qs) == 0
      · have := hbad (by rw [hr1, b3, b4]; rfl)
        simp only [go_sem, Nat.reduceAdd, Nat.reduceSub, Nat.reduceMul, Nat.reducePow, Nat.reduceEqDiff, Nat.reduceLT, Nat.reduceLeDiff, Nat.reduceBEq, Nat.reduceBNe, Int.reduceToNat, Int.reduceLT, Int.reduceLE, Int.reduceEq, Int.reduceBNe, Int.reduceBEq, Int.reduceAdd, Int.reduceSub, Int.reduceMul, Int.reduceNeg, ↓reduceIte, bne, b3, b4, this, Bool.and_false]
      simp only [go_sem, Nat.reduceAdd, Nat.reduceSub, Nat.reduceMul, Nat.reducePow, Nat.reduceEqDiff, Nat.reduceLT, Nat.reduceLeDiff, Nat.reduceBEq, Nat.reduceBNe, Int.reduceToNat, Int.reduceLT, Int.reduceLE, Int.reduceEq, Int.reduceBNe, Int.reduceBEq, Int.reduceAdd, Int.reduceSub, Int.reduceMul, Int.reduceNeg, ↓reduceIte, bne, b3, b4, hw]
      refine RoundK.step () hc ?_ ?_
      · intro j hj
        rcases Nat.lt_or_ge j c with h | h
        · exact hC j h
        · obtain rfl : j = c := by omega
          rw [← hn, hr1, b3, b4]; rfl
      · simp only [go_sem, Nat.reduceAdd, Nat.reduceSub, Nat.reduceMul, Nat.reducePow, Nat.reduceEqDiff, Nat.reduceLT, Nat.reduceLeDiff, Nat.reduceBEq, Nat.reduceBNe, Int.reduceToNat, Int.reduceLT, Int.reduceLE, Int.reduceEq, Int.reduceBNe, Int.reduceBEq, Int.reduceAdd, Int.reduceSub, Int.reduceMul, Int.reduceNeg, ↓reduceIte]
  · intro _ _ hC
    have hlv : levelB b.qs = true := List.all_eq_true.2 fun j hj => hC j (List.mem_range.1 hj)
    rw [hlv, Bool.and_true]
    clear hC hlv hl1r hA
    simp only [go_sem, Nat.reduceAdd, Nat.reduceSub, Nat.reduceMul, Nat.reducePow, Nat.reduceEqDiff, Nat.reduceLT, Nat.reduceLeDiff, Nat.reduceBEq, Nat.reduceBNe, Int.reduceToNat, Int.reduceLT, Int.reduceLE, Int.reduceEq, Int.reduceBNe, Int.reduceBEq, Int.reduceAdd, Int.reduceSub, Int.reduceMul, Int.reduceNeg, ↓reduceIte]
    refine LoopK.count b.ts.length [1] [32] (fun i => [(10, .int .i64 i)]) (fun i => []) (fun i => ∀ j < i, chAt (tradeOk b.next) tradeLt b.ts j = true) (by simp only [go_sem, Nat.reduceAdd, Nat.reduceSub, Nat.reduceMul, Nat.reducePow, Nat.reduceEqDiff, Nat.reduceLT, Nat.reduceLeDiff, Nat.reduceBEq, Nat.reduceBNe, Int.reduceToNat, Int.reduceLT, Int.reduceLE, Int.reduceEq, Int.reduceBNe, Int.reduceBEq, Int.reduceAdd, Int.reduceSub, Int.reduceMul, Int.reduceNeg, ↓reduceIte] <;> exact rfl) (by simp only [go_sem, Nat.reduceAdd, Nat.reduceSub, Nat.reduceMul, Nat.reducePow, Nat.reduceEqDiff, Nat.reduceLT, Nat.reduceLeDiff, Nat.reduceBEq, Nat.reduceBNe, Int.reduceToNat, Int.reduceLT, Int.reduceLE, Int.reduceEq, Int.reduceBNe, Int.reduceBEq, Int.reduceAdd, Int.reduceSub, Int.reduceMul, Int.reduceNeg, ↓reduceIte] <;> exact rfl) (by simp) ?_ ?_
    · simp only [go_sem, Nat.reduceAdd, Nat.reduceSub, Nat.reduceMul, Nat.reducePow, Nat.reduceEqDiff, Nat.reduceLT, Nat.reduceLeDiff, Nat.reduceBEq, Nat.reduceBNe, Int.reduceToNat, Int.reduceLT, Int.reduceLE, Int.reduceEq, Int.reduceBNe, Int.reduceBEq, Int.reduceAdd, Int.reduceSub, Int.reduceMul, Int.reduceNeg, ↓reduceIte] <;> simp
    intro i hi hI
    simp only [go_sem, Nat.reduceAdd, Nat.reduceSub, Nat.reduceMul, Nat.reducePow, Nat.reduceEqDiff, Nat.reduceLT, Nat.reduceLeDiff, Nat.reduceBEq, Nat.reduceBNe, Int.reduceToNat, Int.reduceLT, Int.reduceLE, Int.reduceEq, Int.reduceBNe, Int.reduceBEq, Int.reduceAdd, Int.reduceSub, Int.reduceMul, Int.reduceNeg, ↓reduceIte, List.length_map]
    refine CondE.splitD (fun h => ?_) (fun h => ?_)
    · have hi' : i < b.ts.length := by omega
      have hw : IntKind.wrap .i64 ((i : Int) + 1) = ((i + 1 : Nat) : Int) := by rw [wr64 (by omega) (by omega)]; omega
      have hm := map_at (c := TradeV.cells) b.ts hi'
      have h1 := refNumbers_spec b.ts[i]
      have h2 := within11_spec b.ts[i].no 1 b.next
      have e0 := ch_next (i := i) hI
      have e1 : chAt (tradeOk b.next) tradeLt b.ts i = false → chB (tradeOk b.next) tradeLt b.ts = false := fun hx => chB_no hi' hx
      have hte : tradeOk b.next b.ts[i] = (b.ts[i].okB && within b.ts[i].no 1 b.next) := by rw [Bool.eq_iff_iff]; simp [tradeOk, within]
      simp only [TradeV.cells] at hm h1
      rcases Nat.eq_zero_or_pos i with rfl | hpos
      · have hk := chAt_zero (ok := tradeOk b.next) (lt := tradeLt) hi'
        rw [hte] at hk
        clear hte
        simp only [go_sem, Nat.reduceAdd, Nat.reduceSub, Nat.reduceMul, Nat.reducePow, Nat.reduceEqDiff, Nat.reduceLT, Nat.reduceLeDiff, Nat.reduceBEq, Nat.reduceBNe, Int.reduceToNat, Int.reduceLT, Int.reduceLE, Int.reduceEq, Int.reduceBNe, Int.reduceBEq, Int.reduceAdd, Int.reduceSub, Int.reduceMul, Int.reduceNeg, ↓reduceIte, hm, List.length_map]
        repeat' (with_reducible first
            | refine And.intro ?_ ?_
            | exact DrawN.mk (by kernel_rfl)
            | exact OkN.mk (by kernel_rfl)
            | refine CallN.pure (by assumption) ?_
            | refine CallN.pure (h1) ?_
            | refine CallN.pure (h2) ?_
            | refine GuardK.splitDN (fun h => ?_) (fun h => ?_)
            | refine GuardK.splitD (fun h => ?_) (fun h => ?_)
            | refine CondE.splitDN (fun h => ?_) (fun h => ?_)
            | refine CondE.splitD (fun h => ?_) (fun h => ?_)
            | refine GuardK.splitN (fun h => ?_) (fun h => ?_)
            | refine GuardK.split (fun h => ?_) (fun h => ?_)
            | refine CondE.splitN (fun h => ?_) (fun h => ?_)
            | refine CondE.split (fun h => ?_) (fun h => ?_)
            | refine WeakK.id ?_
            | refine RoundK.next (by omega) ?_ ?_
            | exact trivial
            | simp only [*, go_sem, Nat.reduceAdd, Nat.reduceSub, Nat.reduceMul, Nat.reducePow, Nat.reduceEqDiff, Nat.reduceLT, Nat.reduceLeDiff, Nat.reduceBEq, Nat.reduceBNe, Int.reduceToNat, Int.reduceLT, Int.reduceLE, Int.reduceEq, Int.reduceBNe, Int.reduceBEq, Int.reduceAdd, Int.reduceSub, Int.reduceMul, Int.reduceNeg, ↓reduceIte])
        all_goals first
          | omega
          | rfl
          | (refine e0 ?_; clear e0 e1; rw [hk]; clear hk; simp_all; done)
          | (rw [e1 ?_]; clear e0 e1; rw [hk]; clear hk; simp_all; done)
      · obtain ⟨j, rfl⟩ : ∃ j, i = j + 1 := ⟨i - 1, by omega⟩
        have hj : j < b.ts.length := by omega
        have hw1 : IntKind.wrap .i64 (((j + 1 : Nat) : Int) - 1) = (j : Int) := by rw [wr64 (by omega) (by omega)]; omega
        have hk := chAt_succ (ok := tradeOk b.next) (lt := tradeLt) hi'
        rw [hte, tradeLt_eq] at hk
        clear hte
        have hmj := map_at (c := TradeV.cells) b.ts hj
        simp only [TradeV.cells] at hmj
        simp only [go_sem, Nat.reduceAdd, Nat.reduceSub, Nat.reduceMul, Nat.reducePow, Nat.reduceEqDiff, Nat.reduceLT, Nat.reduceLeDiff, Nat.reduceBEq, Nat.reduceBNe, Int.reduceToNat, Int.reduceLT, Int.reduceLE, Int.reduceEq, Int.reduceBNe, Int.reduceBEq, Int.reduceAdd, Int.reduceSub, Int.reduceMul, Int.reduceNeg, ↓reduceIte, hm, List.length_map]
        repeat' (with_reducible first
            | refine And.intro ?_ ?_
            | exact DrawN.mk (by kernel_rfl)
            | exact OkN.mk (by kernel_rfl)
            | refine CallN.pure (by assumption) ?_
            | refine CallN.pure (h1) ?_
            | refine CallN.pure (h2) ?_
            | refine GuardK.splitDN (fun h => ?_) (fun h => ?_)
            | refine GuardK.splitD (fun h => ?_) (fun h => ?_)
            | refine CondE.splitDN (fun h => ?_) (fun h => ?_)
            | refine CondE.splitD (fun h => ?_) (fun h => ?_)
            | refine GuardK.splitN (fun h => ?_) (fun h => ?_)
            | refine GuardK.split (fun h => ?_) (fun h => ?_)
            | refine CondE.splitN (fun h => ?_) (fun h => ?_)
            | refine CondE.split (fun h => ?_) (fun h => ?_)
            | refine WeakK.id ?_
            | refine RoundK.next (by omega) ?_ ?_
            | exact trivial
            | simp only [*, go_sem, Nat.reduceAdd, Nat.reduceSub, Nat.reduceMul, Nat.reducePow, Nat.reduceEqDiff, Nat.reduceLT, Nat.reduceLeDiff, Nat.reduceBEq, Nat.reduceBNe, Int.reduceToNat, Int.reduceLT, Int.reduceLE, Int.reduceEq, Int.reduceBNe, Int.reduceBEq, Int.reduceAdd, Int.reduceSub, Int.reduceMul, Int.reduceNeg, ↓reduceIte, hmj, List.length_map])
        all_goals first
          | omega
          | rfl
          | (refine e0 ?_; clear e0 e1; rw [hk]; clear hk; simp_all; done)
          | (refine e0 ?_; clear e0 e1; rw [hk]; clear hk; simp_all; omega)
          | (rw [e1 ?_]; clear e0 e1; rw [hk]; clear hk; simp_all; done)
          | (rw [e1 ?_]; clear e0 e1; rw [hk]; clear hk; simp_all; omega)
    · have hT := chB_yes (fun j (hj : j < b.ts.length) => hI j (by omega))
      simp only [go_sem, Nat.reduceAdd, Nat.reduceSub, Nat.reduceMul, Nat.reducePow, Nat.reduceEqDiff, Nat.reduceLT, Nat.reduceLeDiff, Nat.reduceBEq, Nat.reduceBNe, Int.reduceToNat, Int.reduceLT, Int.reduceLE, Int.reduceEq, Int.reduceBNe, Int.reduceBEq, Int.reduceAdd, Int.reduceSub, Int.reduceMul, Int.reduceNeg, ↓reduceIte, hT]
end Go.Proofs.YtbllopdcbkeadaaGreat
set_option linter.unusedSimpArgs false
set_option linter.unusedVariables false
namespace Go.Proofs.YtbllopdcbkeadaaGreat
open Go.Abs
theorem refHeld_spec (r : RollV) (n : Int) (hl : r.small) : Abs.Spec Tryz.prog 45 [] [.agg r.cells, .int .i64 n] [] (.tup [.agg (getL AssetV.a n ⟨0, 0, 0, 0⟩ r.xs).cells, .bool (decide (0 ≤ posL AssetV.a n r.xs))]) := by
  obtain ⟨l1, l2, l3⟩ := hl
  simp only [RollV.cells]
  refine Abs.Spec.go (n := 28) (np := 2) (rs := [.cell 4 80, .tmp 5]) mixed Tryz.func45 rfl rfl rfl rfl rfl (by simp) (by simp) ?_
  simp only [go_sem, Nat.reduceAdd, Nat.reduceSub, Nat.reduceMul, Nat.reducePow, Nat.reduceEqDiff, Nat.reduceLT, Nat.reduceLeDiff, Nat.reduceBEq, Nat.reduceBNe, Int.reduceToNat, Int.reduceLT, Int.reduceLE, Int.reduceEq, Int.reduceBNe, Int.reduceBEq, Int.reduceAdd, Int.reduceSub, Int.reduceMul, Int.reduceNeg, ↓reduceIte, List.length_map]
  refine LoopK.walk (S := Unit) r.xs.length [1, 2, 4] [48, 80] (fun i _ => [(6, .int .i64 i)]) (fun i _ => []) (fun i _ => ∀ j (hj : j < r.xs.length), j < i → r.xs[j].a ≠ n) () (by simp only [go_sem, Nat.reduceAdd, Nat.reduceSub, Nat.reduceMul, Nat.reducePow, Nat.reduceEqDiff, Nat.reduceLT, Nat.reduceLeDiff, Nat.reduceBEq, Nat.reduceBNe, Int.reduceToNat, Int.reduceLT, Int.reduceLE, Int.reduceEq, Int.reduceBNe, Int.reduceBEq, Int.reduceAdd, Int.reduceSub, Int.reduceMul, Int.reduceNeg, ↓reduceIte] <;> exact rfl) (by simp only [go_sem, Nat.reduceAdd, Nat.reduceSub, Nat.reduceMul, Nat.reducePow, Nat.reduceEqDiff, Nat.reduceLT, Nat.reduceLeDiff, Nat.reduceBEq, Nat.reduceBNe, Int.reduceToNat, Int.reduceLT, Int.reduceLE, Int.reduceEq, Int.reduceBNe, Int.reduceBEq, Int.reduceAdd, Int.reduceSub, Int.reduceMul, Int.reduceNeg, ↓reduceIte] <;> exact rfl) (by intros; omega) ?_ ?_ ?_
  · simp only [go_sem, Nat.reduceAdd, Nat.reduceSub, Nat.reduceMul, Nat.reducePow, Nat.reduceEqDiff, Nat.reduceLT, Nat.reduceLeDiff, Nat.reduceBEq, Nat.reduceBNe, Int.reduceToNat, Int.reduceLT, Int.reduceLE, Int.reduceEq, Int.reduceBNe, Int.reduceBEq, Int.reduceAdd, Int.reduceSub, Int.reduceMul, Int.reduceNeg, ↓reduceIte] <;> simp
  · intro i _ hi hdi hw hI
    have hm := map_at (c := AssetV.cells) r.xs hi
    have hlt : (i : Int) < (r.xs.length : Int) := by omega
    simp only [AssetV.cells] at hm ⊢
    simp only [go_sem, Nat.reduceAdd, Nat.reduceSub, Nat.reduceMul, Nat.reducePow, Nat.reduceEqDiff, Nat.reduceLT, Nat.reduceLeDiff, Nat.reduceBEq, Nat.reduceBNe, Int.reduceToNat, Int.reduceLT, Int.reduceLE, Int.reduceEq, Int.reduceBNe, Int.reduceBEq, Int.reduceAdd, Int.reduceSub, Int.reduceMul, Int.reduceNeg, ↓reduceIte, List.length_map, hdi, hm]
    (repeat' (with_reducible first | refine And.intro ?_ ?_ | exact DrawN.mk (by kernel_rfl) | exact OkN.mk (by kernel_rfl))) <;> try omega
    cases hb : r.xs[i].a == n
    · have hb2 : r.xs[i].a ≠ n := by simpa using hb
      simp only [go_sem, Nat.reduceAdd, Nat.reduceSub, Nat.reduceMul, Nat.reducePow, Nat.reduceEqDiff, Nat.reduceLT, Nat.reduceLeDiff, Nat.reduceBEq, Nat.reduceBNe, Int.reduceToNat, Int.reduceLT, Int.reduceLE, Int.reduceEq, Int.reduceBNe, Int.reduceBEq, Int.reduceAdd, Int.reduceSub, Int.reduceMul, Int.reduceNeg, ↓reduceIte, hw]
      refine RoundK.step () hi ?_ ?_
      · intro j hj hji
        rcases Nat.lt_or_ge j i with h | h
        · exact hI j hj h
        · obtain rfl : j = i := by omega
          exact hb2
      · simp only [go_sem, Nat.reduceAdd, Nat.reduceSub, Nat.reduceMul, Nat.reducePow, Nat.reduceEqDiff, Nat.reduceLT, Nat.reduceLeDiff, Nat.reduceBEq, Nat.reduceBNe, Int.reduceToNat, Int.reduceLT, Int.reduceLE, Int.reduceEq, Int.reduceBNe, Int.reduceBEq, Int.reduceAdd, Int.reduceSub, Int.reduceMul, Int.reduceNeg, ↓reduceIte]
    · have hb2 : r.xs[i].a = n := by simpa using hb
      obtain ⟨g1, g2⟩ := getL_hit (z := (⟨0, 0, 0, 0⟩ : AssetV)) hi hI hb2
      have g3 : decide (0 ≤ (i : Int)) = true := decide_eq_true (by omega)
      rw [g1, g2, g3]
      simp only [go_sem, Nat.reduceAdd, Nat.reduceSub, Nat.reduceMul, Nat.reducePow, Nat.reduceEqDiff, Nat.reduceLT, Nat.reduceLeDiff, Nat.reduceBEq, Nat.reduceBNe, Int.reduceToNat, Int.reduceLT, Int.reduceLE, Int.reduceEq, Int.reduceBNe, Int.reduceBEq, Int.reduceAdd, Int.reduceSub, Int.reduceMul, Int.reduceNeg, ↓reduceIte, hm, List.length_map]
      (repeat' (with_reducible first | refine And.intro ?_ ?_ | exact DrawN.mk (by kernel_rfl) | exact OkN.mk (by kernel_rfl))) <;> try omega
  · intro _ hdx hI
    obtain ⟨g1, g2⟩ := getL_miss (z := (⟨0, 0, 0, 0⟩ : AssetV)) (fun j hj => hI j hj hj)
    rw [g1, g2]
    simp only [go_sem, Nat.reduceAdd, Nat.reduceSub, Nat.reduceMul, Nat.reducePow, Nat.reduceEqDiff, Nat.reduceLT, Nat.reduceLeDiff, Nat.reduceBEq, Nat.reduceBNe, Int.reduceToNat, Int.reduceLT, Int.reduceLE, Int.reduceEq, Int.reduceBNe, Int.reduceBEq, Int.reduceAdd, Int.reduceSub, Int.reduceMul, Int.reduceNeg, ↓reduceIte, List.length_map, hdx, AssetV.cells]
theorem V_rng (a : AssetV) (n : Int) : inR (a.V n) = true := by
  simp only [AssetV.V]
  split
  · unfold quoQ
    split
    · decide
    · split
      · assumption
      · decide
  · decide
theorem valsL_in (r : RollV) (w c : Int) (ps : List Plg) : ∀ n ∈ valsL r w c ps, inR n = true := by
  intro n hn
  simp only [valsL, List.mem_map] at hn
  obtain ⟨x, _, rfl⟩ := hn
  exact V_rng _ _
theorem led_of_in {l : LedV} (h : l.okB = true) (a : AcctV) : inR (ofL a l.bs) = true := by
  have h1 := (led_bs h).2
  clear h
  generalize l.bs = bs at h1
  induction bs with
  | nil => rfl
  | cons b r ih =>
    simp only [ofL]
    split
    · exact h1 b (by simp)
    · exact ih fun z hz => h1 z (by simp [hz])
theorem i64_of {n : Int} (h : inR n = true) : I64 n := by have := inR_iff.1 h; exact ⟨by omega, by omega⟩
set_option maxRecDepth 8000 in
theorem refCover_spec (l : LedV) (r : RollV) (ps : List Plg) (w c : Int) (hl : l.bs.length < 2 ^ 29) (hr : r.small) (hp : ps.length < 2 ^ 29) (hb : ∀ b ∈ l.bs, b.rng) :
    Abs.Spec Tryz.prog 9 [] [.agg l.cells, .agg r.cells, .sl 3 (pl ps), .int .i64 w, .int .i64 c] [] (.tup [.int .i64 (ofN l r ps w c), .int .i64 (ofE l r ps w c)]) := by
  have h1 := ref8Ledger_spec l (by omega) hb
  have h2 := refRoll_spec r hr
  have h3 := refPledges_spec ps (by omega)
  have h4 := ref8Of_spec l ⟨2, w, c⟩ (by omega)
  have h5 := fun n => refHeld_spec r n hr
  simp only [LedV.cells, AcctV.cells] at h1 h4 ⊢
  simp only [RollV.cells] at h2 h5 ⊢
  refine Abs.Spec.go (n := 97) (np := 5) (rs := [.tmp 10, .tmp 11]) mixed Tryz.func9 rfl rfl rfl rfl rfl (by simp) (by simp) ?_
  simp only [go_sem, Nat.reduceAdd, Nat.reduceSub, Nat.reduceMul, Nat.reducePow, Nat.reduceEqDiff, Nat.reduceLT, Nat.reduceLeDiff, Nat.reduceBEq, Nat.reduceBNe, Int.reduceToNat, Int.reduceLT, Int.reduceLE, Int.reduceEq, Int.reduceBNe, Int.reduceBEq, Int.reduceAdd, Int.reduceSub, Int.reduceMul, Int.reduceNeg, ↓reduceIte]
  refine CallN.pure h1 ?_
  cases b1 : l.okB
  · have e : chk3 l r ps = 14 := by simp [chk3, b1]
    have e1 : ofE l r ps w c = 14 := by simp [ofE, e]
    have e2 : ofN l r ps w c = 0 := by simp [ofN, e]
    simp only [go_sem, Nat.reduceAdd, Nat.reduceSub, Nat.reduceMul, Nat.reducePow, Nat.reduceEqDiff, Nat.reduceLT, Nat.reduceLeDiff, Nat.reduceBEq, Nat.reduceBNe, Int.reduceToNat, Int.reduceLT, Int.reduceLE, Int.reduceEq, Int.reduceBNe, Int.reduceBEq, Int.reduceAdd, Int.reduceSub, Int.reduceMul, Int.reduceNeg, ↓reduceIte, e1, e2]
  simp only [go_sem, Nat.reduceAdd, Nat.reduceSub, Nat.reduceMul, Nat.reducePow, Nat.reduceEqDiff, Nat.reduceLT, Nat.reduceLeDiff, Nat.reduceBEq, Nat.reduceBNe, Int.reduceToNat, Int.reduceLT, Int.reduceLE, Int.reduceEq, Int.reduceBNe, Int.reduceBEq, Int.reduceAdd, Int.reduceSub, Int.reduceMul, Int.reduceNeg, ↓reduceIte]
  refine CallN.pure h2 ?_
  cases b2 : r.okB
  · have e : chk3 l r ps = 14 := by simp [chk3, b2]
    have e1 : ofE l r ps w c = 14 := by simp [ofE, e]
    have e2 : ofN l r ps w c = 0 := by simp [ofN, e]
    simp only [go_sem, Nat.reduceAdd, Nat.reduceSub, Nat.reduceMul, Nat.reducePow, Nat.reduceEqDiff, Nat.reduceLT, Nat.reduceLeDiff, Nat.reduceBEq, Nat.reduceBNe, Int.reduceToNat, Int.reduceLT, Int.reduceLE, Int.reduceEq, Int.reduceBNe, Int.reduceBEq, Int.reduceAdd, Int.reduceSub, Int.reduceMul, Int.reduceNeg, ↓reduceIte, e1, e2]
  simp only [go_sem, Nat.reduceAdd, Nat.reduceSub, Nat.reduceMul, Nat.reducePow, Nat.reduceEqDiff, Nat.reduceLT, Nat.reduceLeDiff, Nat.reduceBEq, Nat.reduceBNe, Int.reduceToNat, Int.reduceLT, Int.reduceLE, Int.reduceEq, Int.reduceBNe, Int.reduceBEq, Int.reduceAdd, Int.reduceSub, Int.reduceMul, Int.reduceNeg, ↓reduceIte]
  refine CallN.pure h3 ?_
  cases b3 : checkB ps
  · have e : chk3 l r ps = 14 := by simp [chk3, b3]
    have e1 : ofE l r ps w c = 14 := by simp [ofE, e]
    have e2 : ofN l r ps w c = 0 := by simp [ofN, e]
    simp only [go_sem, Nat.reduceAdd, Nat.reduceSub, Nat.reduceMul, Nat.reducePow, Nat.reduceEqDiff, Nat.reduceLT, Nat.reduceLeDiff, Nat.reduceBEq, Nat.reduceBNe, Int.reduceToNat, Int.reduceLT, Int.reduceLE, Int.reduceEq, Int.reduceBNe, Int.reduceBEq, Int.reduceAdd, Int.reduceSub, Int.reduceMul, Int.reduceNeg, ↓reduceIte, e1, e2]
  have e : chk3 l r ps = 0 := by simp [chk3, b1, b2, b3]
  have e1 : ofE l r ps w c = if firstE r w c ps != 0 then firstE r w c ps else sumE (ofL ⟨2, w, c⟩ l.bs :: valsL r w c ps) := by simp [ofE, e]
  have e2 : ofN l r ps w c = if firstE r w c ps != 0 then 0 else sumN (ofL ⟨2, w, c⟩ l.bs :: valsL r w c ps) := by simp [ofN, e]
  rw [e1, e2]
  clear e1 e2 e
  simp only [go_sem, Nat.reduceAdd, Nat.reduceSub, Nat.reduceMul, Nat.reducePow, Nat.reduceEqDiff, Nat.reduceLT, Nat.reduceLeDiff, Nat.reduceBEq, Nat.reduceBNe, Int.reduceToNat, Int.reduceLT, Int.reduceLE, Int.reduceEq, Int.reduceBNe, Int.reduceBEq, Int.reduceAdd, Int.reduceSub, Int.reduceMul, Int.reduceNeg, ↓reduceIte]
  refine CallN.pure h4 ?_
  have hoin := led_of_in b1 ⟨2, w, c⟩
  obtain ⟨o, ho⟩ : ∃ o, o = ofL ⟨2, w, c⟩ l.bs := ⟨_, rfl⟩
  rw [← ho] at hoin ⊢
  simp only [go_sem, Nat.reduceAdd, Nat.reduceSub, Nat.reduceMul, Nat.reducePow, Nat.reduceEqDiff, Nat.reduceLT, Nat.reduceLeDiff, Nat.reduceBEq, Nat.reduceBNe, Int.reduceToNat, Int.reduceLT, Int.reduceLE, Int.reduceEq, Int.reduceBNe, Int.reduceBEq, Int.reduceAdd, Int.reduceSub, Int.reduceMul, Int.reduceNeg, ↓reduceIte]
  refine LoopK.walk (S := Unit) ps.length [2, 3, 4, 6] [112] (fun i _ => [(13, .int .i64 i), (12, .ref 1424)]) (fun i _ => [(1424, .own 1 (ints (o :: valsL r w c (ps.take i))))]) (fun i _ => firstE r w c (ps.drop i) = firstE r w c ps) () (by simp only [go_sem, Nat.reduceAdd, Nat.reduceSub, Nat.reduceMul, Nat.reducePow, Nat.reduceEqDiff, Nat.reduceLT, Nat.reduceLeDiff, Nat.reduceBEq, Nat.reduceBNe, Int.reduceToNat, Int.reduceLT, Int.reduceLE, Int.reduceEq, Int.reduceBNe, Int.reduceBEq, Int.reduceAdd, Int.reduceSub, Int.reduceMul, Int.reduceNeg, ↓reduceIte] <;> exact rfl) (by simp only [go_sem, Nat.reduceAdd, Nat.reduceSub, Nat.reduceMul, Nat.reducePow, Nat.reduceEqDiff, Nat.reduceLT, Nat.reduceLeDiff, Nat.reduceBEq, Nat.reduceBNe, Int.reduceToNat, Int.reduceLT, Int.reduceLE, Int.reduceEq, Int.reduceBNe, Int.reduceBEq, Int.reduceAdd, Int.reduceSub, Int.reduceMul, Int.reduceNeg, ↓reduceIte] <;> exact rfl) rfl ?_ ?_ ?_
  · simp only [go_sem, Nat.reduceAdd, Nat.reduceSub, Nat.reduceMul, Nat.reducePow, Nat.reduceEqDiff, Nat.reduceLT, Nat.reduceLeDiff, Nat.reduceBEq, Nat.reduceBNe, Int.reduceToNat, Int.reduceLT, Int.reduceLE, Int.reduceEq, Int.reduceBNe, Int.reduceBEq, Int.reduceAdd, Int.reduceSub, Int.reduceMul, Int.reduceNeg, ↓reduceIte] <;> simp [valsL, ints]
  · intro i _ hi' hdi hw hI
    have hstep := valsL_step r w c ps hi'
    have hA := h5 ps[i].asset
    have hvl := valsL_len r w c (ps.take i)
    have htl : (ps.take i).length = i := by simp; omega
    have hli : (i : Int) < (ps.length : Int) := by omega
    rw [getD_pl hi'] at hI
    simp only [firstE] at hI
    obtain ⟨a, ha⟩ : ∃ a, a = astOf r ps[i] := ⟨_, rfl⟩
    have ha' : getL AssetV.a ps[i].asset ⟨0, 0, 0, 0⟩ r.xs = a := ha.symm
    rw [ha'] at hA
    simp only [hitB, ← ha] at hI hstep
    have hv := refValue_spec a ps[i].units
    simp only [AssetV.cells] at hA hv
    clear h1 h2 h3 h4 h5
    simp only [go_sem, Nat.reduceAdd, Nat.reduceSub, Nat.reduceMul, Nat.reducePow, Nat.reduceEqDiff, Nat.reduceLT, Nat.reduceLeDiff, Nat.reduceBEq, Nat.reduceBNe, Int.reduceToNat, Int.reduceLT, Int.reduceLE, Int.reduceEq, Int.reduceBNe, Int.reduceBEq, Int.reduceAdd, Int.reduceSub, Int.reduceMul, Int.reduceNeg, ↓reduceIte, hdi, pl_at ps hi']
    (repeat' (with_reducible first | refine And.intro ?_ ?_ | exact DrawN.mk (by kernel_rfl) | exact OkN.mk (by kernel_rfl))) <;> try omega
    refine CallN.pure hA ?_
    cases p1 : decide (0 ≤ posL AssetV.a ps[i].asset r.xs)
    · simp only [p1, Bool.false_and, Bool.false_eq_true, if_false] at hI hstep
      simp only [go_sem, Nat.reduceAdd, Nat.reduceSub, Nat.reduceMul, Nat.reducePow, Nat.reduceEqDiff, Nat.reduceLT, Nat.reduceLeDiff, Nat.reduceBEq, Nat.reduceBNe, Int.reduceToNat, Int.reduceLT, Int.reduceLE, Int.reduceEq, Int.reduceBNe, Int.reduceBEq, Int.reduceAdd, Int.reduceSub, Int.reduceMul, Int.reduceNeg, ↓reduceIte, p1, hw]
      (repeat' (with_reducible first | refine And.intro ?_ ?_ | exact DrawN.mk (by kernel_rfl) | exact OkN.mk (by kernel_rfl))) <;> try omega
      refine RoundK.step () hi' hI ?_
      simp only [go_sem, Nat.reduceAdd, Nat.reduceSub, Nat.reduceMul, Nat.reducePow, Nat.reduceEqDiff, Nat.reduceLT, Nat.reduceLeDiff, Nat.reduceBEq, Nat.reduceBNe, Int.reduceToNat, Int.reduceLT, Int.reduceLE, Int.reduceEq, Int.reduceBNe, Int.reduceBEq, Int.reduceAdd, Int.reduceSub, Int.reduceMul, Int.reduceNeg, ↓reduceIte, hstep]
    cases p2 : ps[i].who == w
    · simp only [p1, p2, Bool.false_and, Bool.true_and, Bool.false_eq_true, if_false] at hI hstep
      simp only [go_sem, Nat.reduceAdd, Nat.reduceSub, Nat.reduceMul, Nat.reducePow, Nat.reduceEqDiff, Nat.reduceLT, Nat.reduceLeDiff, Nat.reduceBEq, Nat.reduceBNe, Int.reduceToNat, Int.reduceLT, Int.reduceLE, Int.reduceEq, Int.reduceBNe, Int.reduceBEq, Int.reduceAdd, Int.reduceSub, Int.reduceMul, Int.reduceNeg, ↓reduceIte, p1, bne, p2, hw, pl_at ps hi']
      (repeat' (with_reducible first | refine And.intro ?_ ?_ | exact DrawN.mk (by kernel_rfl) | exact OkN.mk (by kernel_rfl))) <;> try omega
      refine RoundK.step () hi' hI ?_
      simp only [go_sem, Nat.reduceAdd, Nat.reduceSub, Nat.reduceMul, Nat.reducePow, Nat.reduceEqDiff, Nat.reduceLT, Nat.reduceLeDiff, Nat.reduceBEq, Nat.reduceBNe, Int.reduceToNat, Int.reduceLT, Int.reduceLE, Int.reduceEq, Int.reduceBNe, Int.reduceBEq, Int.reduceAdd, Int.reduceSub, Int.reduceMul, Int.reduceNeg, ↓reduceIte, hstep]
    cases p3 : a.b == c
    · simp only [p1, p2, p3, Bool.false_and, Bool.and_false, Bool.true_and, Bool.false_eq_true, if_false] at hI hstep
      simp only [go_sem, Nat.reduceAdd, Nat.reduceSub, Nat.reduceMul, Nat.reducePow, Nat.reduceEqDiff, Nat.reduceLT, Nat.reduceLeDiff, Nat.reduceBEq, Nat.reduceBNe, Int.reduceToNat, Int.reduceLT, Int.reduceLE, Int.reduceEq, Int.reduceBNe, Int.reduceBEq, Int.reduceAdd, Int.reduceSub, Int.reduceMul, Int.reduceNeg, ↓reduceIte, p1, bne, p2, p3, hw, pl_at ps hi']
      (repeat' (with_reducible first | refine And.intro ?_ ?_ | exact DrawN.mk (by kernel_rfl) | exact OkN.mk (by kernel_rfl))) <;> try omega
      refine RoundK.step () hi' hI ?_
      simp only [go_sem, Nat.reduceAdd, Nat.reduceSub, Nat.reduceMul, Nat.reducePow, Nat.reduceEqDiff, Nat.reduceLT, Nat.reduceLeDiff, Nat.reduceBEq, Nat.reduceBNe, Int.reduceToNat, Int.reduceLT, Int.reduceLE, Int.reduceEq, Int.reduceBNe, Int.reduceBEq, Int.reduceAdd, Int.reduceSub, Int.reduceMul, Int.reduceNeg, ↓reduceIte, hstep]
    simp only [p1, p2, p3, Bool.true_and, Bool.and_self, if_true] at hI hstep
    simp only [go_sem, Nat.reduceAdd, Nat.reduceSub, Nat.reduceMul, Nat.reducePow, Nat.reduceEqDiff, Nat.reduceLT, Nat.reduceLeDiff, Nat.reduceBEq, Nat.reduceBNe, Int.reduceToNat, Int.reduceLT, Int.reduceLE, Int.reduceEq, Int.reduceBNe, Int.reduceBEq, Int.reduceAdd, Int.reduceSub, Int.reduceMul, Int.reduceNeg, ↓reduceIte, p1, bne, p2, p3, pl_at ps hi']
    (repeat' (with_reducible first | refine And.intro ?_ ?_ | exact DrawN.mk (by kernel_rfl) | exact OkN.mk (by kernel_rfl))) <;> try omega
    refine CallN.pure hv ?_
    cases p4 : a.E ps[i].units == 0
    · have p4' : (a.E ps[i].units != 0) = true := by simp [bne, p4]
      simp only [p4', if_true] at hI
      have hF : firstE r w c ps = a.E ps[i].units := hI.symm
      simp only [go_sem, Nat.reduceAdd, Nat.reduceSub, Nat.reduceMul, Nat.reducePow, Nat.reduceEqDiff, Nat.reduceLT, Nat.reduceLeDiff, Nat.reduceBEq, Nat.reduceBNe, Int.reduceToNat, Int.reduceLT, Int.reduceLE, Int.reduceEq, Int.reduceBNe, Int.reduceBEq, Int.reduceAdd, Int.reduceSub, Int.reduceMul, Int.reduceNeg, ↓reduceIte, bne, p4, hF, Bool.not_false, if_true]
    · have p4' : (a.E ps[i].units != 0) = false := by simp [bne, p4]
      simp only [p4', Bool.false_eq_true, if_false] at hI
      simp only [go_sem, Nat.reduceAdd, Nat.reduceSub, Nat.reduceMul, Nat.reducePow, Nat.reduceEqDiff, Nat.reduceLT, Nat.reduceLeDiff, Nat.reduceBEq, Nat.reduceBNe, Int.reduceToNat, Int.reduceLT, Int.reduceLE, Int.reduceEq, Int.reduceBNe, Int.reduceBEq, Int.reduceAdd, Int.reduceSub, Int.reduceMul, Int.reduceNeg, ↓reduceIte, bne, p4, hw, ints_len]
      (repeat' (with_reducible first | refine And.intro ?_ ?_ | exact DrawN.mk (by kernel_rfl) | exact OkN.mk (by kernel_rfl))) <;> try omega
      refine RoundK.step () hi' hI ?_
      simp only [go_sem, Nat.reduceAdd, Nat.reduceSub, Nat.reduceMul, Nat.reducePow, Nat.reduceEqDiff, Nat.reduceLT, Nat.reduceLeDiff, Nat.reduceBEq, Nat.reduceBNe, Int.reduceToNat, Int.reduceLT, Int.reduceLE, Int.reduceEq, Int.reduceBNe, Int.reduceBEq, Int.reduceAdd, Int.reduceSub, Int.reduceMul, Int.reduceNeg, ↓reduceIte, hstep] <;> simp [ints]
  · intro _ hdx hI
    simp only [List.drop_length, firstE] at hI
    have hlen := valsL_len r w c ps
    have hall : ∀ n ∈ o :: valsL r w c ps, inR n = true := fun n hn => by
      rcases List.mem_cons.1 hn with rfl | hn
      · exact hoin
      · exact valsL_in r w c ps n hn
    have hs := refAdd_spec (o :: valsL r w c ps) (fun n hn => i64_of (hall n hn)) (by simp; omega)
    have hright := right_all hall
    rw [← hI]
    simp only [sumE, sumN, hright, if_true, Bool.true_and]
    simp only [go_sem, Nat.reduceAdd, Nat.reduceSub, Nat.reduceMul, Nat.reducePow, Nat.reduceEqDiff, Nat.reduceLT, Nat.reduceLeDiff, Nat.reduceBEq, Nat.reduceBNe, Int.reduceToNat, Int.reduceLT, Int.reduceLE, Int.reduceEq, Int.reduceBNe, Int.reduceBEq, Int.reduceAdd, Int.reduceSub, Int.reduceMul, Int.reduceNeg, ↓reduceIte, hdx, List.take_length]
    refine CallN.gen [] [] true (by simp) ?_
    simp only [go_sem, Nat.reduceAdd, Nat.reduceSub, Nat.reduceMul, Nat.reducePow, Nat.reduceEqDiff, Nat.reduceLT, Nat.reduceLeDiff, Nat.reduceBEq, Nat.reduceBNe, Int.reduceToNat, Int.reduceLT, Int.reduceLE, Int.reduceEq, Int.reduceBNe, Int.reduceBEq, Int.reduceAdd, Int.reduceSub, Int.reduceMul, Int.reduceNeg, ↓reduceIte]
    refine CallG.intro hs ?_
    cases hin : inR (sumL (o :: valsL r w c ps))
    · simp only [go_sem, Nat.reduceAdd, Nat.reduceSub, Nat.reduceMul, Nat.reducePow, Nat.reduceEqDiff, Nat.reduceLT, Nat.reduceLeDiff, Nat.reduceBEq, Nat.reduceBNe, Int.reduceToNat, Int.reduceLT, Int.reduceLE, Int.reduceEq, Int.reduceBNe, Int.reduceBEq, Int.reduceAdd, Int.reduceSub, Int.reduceMul, Int.reduceNeg, ↓reduceIte, hin] <;> simp
    · simp only [go_sem, Nat.reduceAdd, Nat.reduceSub, Nat.reduceMul, Nat.reducePow, Nat.reduceEqDiff, Nat.reduceLT, Nat.reduceLeDiff, Nat.reduceBEq, Nat.reduceBNe, Int.reduceToNat, Int.reduceLT, Int.reduceLE, Int.reduceEq, Int.reduceBNe, Int.reduceBEq, Int.reduceAdd, Int.reduceSub, Int.reduceMul, Int.reduceNeg, ↓reduceIte, hin, addN] <;> simp
theorem refShort_spec (s : StateV) (w c : Int) (hs : s.fit) (hr : s.rng) (hl : s.led.bs.length < 2 ^ 29) (hp : s.ps.length < 2 ^ 29) : Abs.Spec Tryz.prog 11 [] [.agg s.cells, .int .i64 w, .int .i64 c] [] (.tup [.int .i64 (shN s w c), .int .i64 (shE s w c)]) := by
  obtain ⟨hro, hb, _, _⟩ := hs
  have h1 := refCover_spec s.led s.roll s.ps w c hl hro hp hr.bs
  have h2 := refBook_spec s.book hb hr.qs
  have h3 := refMargin_spec s.roll w c s.book.qs hro hb.2
  simp only [LedV.cells, RollV.cells, BookV.cells] at h1 h2 h3
  simp only [StateV.cells, shN, shE]
  refine Abs.Spec.go (n := 63) (np := 3) (rs := [.tmp 6, .tmp 7]) mixed Tryz.func11 rfl rfl rfl rfl rfl (by simp) (by simp) ?_
  simp only [go_sem, Nat.reduceAdd, Nat.reduceSub, Nat.reduceMul, Nat.reducePow, Nat.reduceEqDiff, Nat.reduceLT, Nat.reduceLeDiff, Nat.reduceBEq, Nat.reduceBNe, Int.reduceToNat, Int.reduceLT, Int.reduceLE, Int.reduceEq, Int.reduceBNe, Int.reduceBEq, Int.reduceAdd, Int.reduceSub, Int.reduceMul, Int.reduceNeg, ↓reduceIte]
  refine CallN.pure h1 ?_
  by_cases e1 : ofE s.led s.roll s.ps w c = 0
  case neg =>
    have b1 : (ofE s.led s.roll s.ps w c == 0) = false := by simpa using e1
    simp only [go_sem, Nat.reduceAdd, Nat.reduceSub, Nat.reduceMul, Nat.reducePow, Nat.reduceEqDiff, Nat.reduceLT, Nat.reduceLeDiff, Nat.reduceBEq, Nat.reduceBNe, Int.reduceToNat, Int.reduceLT, Int.reduceLE, Int.reduceEq, Int.reduceBNe, Int.reduceBEq, Int.reduceAdd, Int.reduceSub, Int.reduceMul, Int.reduceNeg, ↓reduceIte, bne, b1, if_neg e1]
  have hin1 := (of_ok e1).2.2.2
  have hin3 := marN_range s.roll w c s.book.qs
  have b1 : (ofE s.led s.roll s.ps w c == 0) = true := by simpa using e1
  simp only [go_sem, Nat.reduceAdd, Nat.reduceSub, Nat.reduceMul, Nat.reducePow, Nat.reduceEqDiff, Nat.reduceLT, Nat.reduceLeDiff, Nat.reduceBEq, Nat.reduceBNe, Int.reduceToNat, Int.reduceLT, Int.reduceLE, Int.reduceEq, Int.reduceBNe, Int.reduceBEq, Int.reduceAdd, Int.reduceSub, Int.reduceMul, Int.reduceNeg, ↓reduceIte, bne, b1, if_pos e1]
  refine CallN.pure h2 ?_
  cases b2 : s.book.okB
  · simp only [go_sem, Nat.reduceAdd, Nat.reduceSub, Nat.reduceMul, Nat.reducePow, Nat.reduceEqDiff, Nat.reduceLT, Nat.reduceLeDiff, Nat.reduceBEq, Nat.reduceBNe, Int.reduceToNat, Int.reduceLT, Int.reduceLE, Int.reduceEq, Int.reduceBNe, Int.reduceBEq, Int.reduceAdd, Int.reduceSub, Int.reduceMul, Int.reduceNeg, ↓reduceIte, b2]
  simp only [go_sem, Nat.reduceAdd, Nat.reduceSub, Nat.reduceMul, Nat.reducePow, Nat.reduceEqDiff, Nat.reduceLT, Nat.reduceLeDiff, Nat.reduceBEq, Nat.reduceBNe, Int.reduceToNat, Int.reduceLT, Int.reduceLE, Int.reduceEq, Int.reduceBNe, Int.reduceBEq, Int.reduceAdd, Int.reduceSub, Int.reduceMul, Int.reduceNeg, ↓reduceIte, b2]
  refine CallN.pure h3 ?_
  by_cases e3 : marE s.roll w c s.book.qs = 0
  case neg =>
    have b3 : (marE s.roll w c s.book.qs == 0) = false := by simpa using e3
    simp only [go_sem, Nat.reduceAdd, Nat.reduceSub, Nat.reduceMul, Nat.reducePow, Nat.reduceEqDiff, Nat.reduceLT, Nat.reduceLeDiff, Nat.reduceBEq, Nat.reduceBNe, Int.reduceToNat, Int.reduceLT, Int.reduceLE, Int.reduceEq, Int.reduceBNe, Int.reduceBEq, Int.reduceAdd, Int.reduceSub, Int.reduceMul, Int.reduceNeg, ↓reduceIte, bne, b3, if_neg e3]
  have b3 : (marE s.roll w c s.book.qs == 0) = true := by simpa using e3
  simp only [if_pos e3]
  obtain ⟨M, hM⟩ : ∃ M, M = marN s.roll w c s.book.qs := ⟨_, rfl⟩
  obtain ⟨C, hC⟩ : ∃ C, C = ofN s.led s.roll s.ps w c := ⟨_, rfl⟩
  rw [← hC] at hin1 ⊢
  rw [← hM] at hin3 ⊢
  have i1 := inR_iff.1 hin1
  have i3 := inR_iff.1 hin3
  have hw : IntKind.wrap .i64 (0 - C) = -C := by rw [wr64 (by omega) (by omega)]; omega
  have hA := refAdd_spec [M, -C] (by intro n hn; simp only [List.mem_cons, List.not_mem_nil, or_false] at hn; rcases hn with rfl | rfl <;> exact ⟨by omega, by omega⟩) (by simp)
  have hsum : sumL [M, -C] = M - C := by simp [sumL]; omega
  simp only [addN, hsum, ints, List.map_cons, List.map_nil] at hA
  simp only [go_sem, Nat.reduceAdd, Nat.reduceSub, Nat.reduceMul, Nat.reducePow, Nat.reduceEqDiff, Nat.reduceLT, Nat.reduceLeDiff, Nat.reduceBEq, Nat.reduceBNe, Int.reduceToNat, Int.reduceLT, Int.reduceLE, Int.reduceEq, Int.reduceBNe, Int.reduceBEq, Int.reduceAdd, Int.reduceSub, Int.reduceMul, Int.reduceNeg, ↓reduceIte, bne, b3, hw]
  refine CallN.gen [] [] true (by simp) ?_
  simp only [go_sem, Nat.reduceAdd, Nat.reduceSub, Nat.reduceMul, Nat.reducePow, Nat.reduceEqDiff, Nat.reduceLT, Nat.reduceLeDiff, Nat.reduceBEq, Nat.reduceBNe, Int.reduceToNat, Int.reduceLT, Int.reduceLE, Int.reduceEq, Int.reduceBNe, Int.reduceBEq, Int.reduceAdd, Int.reduceSub, Int.reduceMul, Int.reduceNeg, ↓reduceIte]
  refine CallG.intro hA ?_
  simp only [lessE, lessN, hin1, hin3, Bool.true_and, Bool.and_self, if_true]
  cases hd : inR (M - C)
  · by_cases e4 : M ≤ C
    · have d4 : decide (C < M) = false := decide_eq_false (by omega)
      simp only [go_sem, Nat.reduceAdd, Nat.reduceSub, Nat.reduceMul, Nat.reducePow, Nat.reduceEqDiff, Nat.reduceLT, Nat.reduceLeDiff, Nat.reduceBEq, Nat.reduceBNe, Int.reduceToNat, Int.reduceLT, Int.reduceLE, Int.reduceEq, Int.reduceBNe, Int.reduceBEq, Int.reduceAdd, Int.reduceSub, Int.reduceMul, Int.reduceNeg, ↓reduceIte, hd, d4, if_pos e4, Bool.false_eq_true, if_false] <;> simp
    · have d4 : decide (C < M) = true := decide_eq_true (by omega)
      simp only [go_sem, Nat.reduceAdd, Nat.reduceSub, Nat.reduceMul, Nat.reducePow, Nat.reduceEqDiff, Nat.reduceLT, Nat.reduceLeDiff, Nat.reduceBEq, Nat.reduceBNe, Int.reduceToNat, Int.reduceLT, Int.reduceLE, Int.reduceEq, Int.reduceBNe, Int.reduceBEq, Int.reduceAdd, Int.reduceSub, Int.reduceMul, Int.reduceNeg, ↓reduceIte, hd, d4, if_neg e4, Bool.false_eq_true, if_false]
  · by_cases e4 : M ≤ C
    · have hmax : max (M - C) 0 = 0 := by omega
      simp only [go_sem, Nat.reduceAdd, Nat.reduceSub, Nat.reduceMul, Nat.reducePow, Nat.reduceEqDiff, Nat.reduceLT, Nat.reduceLeDiff, Nat.reduceBEq, Nat.reduceBNe, Int.reduceToNat, Int.reduceLT, Int.reduceLE, Int.reduceEq, Int.reduceBNe, Int.reduceBEq, Int.reduceAdd, Int.reduceSub, Int.reduceMul, Int.reduceNeg, ↓reduceIte, hd, hmax, if_pos e4]
    · have hmax : max (M - C) 0 = M - C := by omega
      simp only [go_sem, Nat.reduceAdd, Nat.reduceSub, Nat.reduceMul, Nat.reducePow, Nat.reduceEqDiff, Nat.reduceLT, Nat.reduceLeDiff, Nat.reduceBEq, Nat.reduceBNe, Int.reduceToNat, Int.reduceLT, Int.reduceLE, Int.reduceEq, Int.reduceBNe, Int.reduceBEq, Int.reduceAdd, Int.reduceSub, Int.reduceMul, Int.reduceNeg, ↓reduceIte, hd, hmax, if_neg e4]
end Go.Proofs.YtbllopdcbkeadaaGreat
set_option linter.unusedSimpArgs false
set_option linter.unusedVariables false
namespace Go.Proofs.YtbllopdcbkeadaaGreat
open Go.Abs
deriving instance DecidableEq for MemberV, InstV, AssetV, BalV, AcctV
theorem ext_list {A : Type} {xs ys : List A} (hl : xs.length = ys.length) (h : ∀ j (h1 : j < xs.length) (h2 : j < ys.length), j < xs.length → xs[j] = ys[j]) : xs = ys := List.ext_getElem hl fun j h1 h2 => h j h1 h2 h1
theorem eq_next {A : Type} {xs ys : List A} {i : Nat} (hI : ∀ j (h1 : j < xs.length) (h2 : j < ys.length), j < i → xs[j] = ys[j]) (h1 : i < xs.length) (h2 : i < ys.length) (he : xs[i] = ys[i]) : ∀ j (h1 : j < xs.length) (h2 : j < ys.length), j < i + 1 → xs[j] = ys[j] := by
  intro j a b hj
  rcases Nat.lt_or_ge j i with h | h
  · exact hI j a b h
  · obtain rfl : j = i := by omega
    exact he
theorem keepAcctD_spec (a b : AcctV) : Abs.Spec Tryz.prog 138 [] [.agg a.cells, .agg b.cells] [] (.bool (decide (a = b))) := by
  have h := keepAcct_spec a b
  have e : a.same b = decide (a = b) := by rw [Bool.eq_iff_iff, same_iff]; cases a; cases b; simp
  rwa [e] at h
theorem keepDue_spec (a b : DueV) : Abs.Spec Tryz.prog 139 [] [.agg a.cells, .agg b.cells] [] (.bool (decide (a = b))) := by
  simp only [DueV.cells]
  refine Abs.Spec.go (n := 24) (np := 2) (rs := [.tmp 4]) mixed Tryz.func139 rfl rfl rfl rfl rfl (by simp) (by simp) ?_
  simp only [go_sem, Nat.reduceAdd, Nat.reduceSub, Nat.reduceMul, Nat.reducePow, Nat.reduceEqDiff, Nat.reduceLT, Nat.reduceLeDiff, Nat.reduceBEq, Nat.reduceBNe, Int.reduceToNat, Int.reduceLT, Int.reduceLE, Int.reduceEq, Int.reduceBNe, Int.reduceBEq, Int.reduceAdd, Int.reduceSub, Int.reduceMul, Int.reduceNeg, ↓reduceIte]
  repeat' (with_reducible first
      | refine And.intro ?_ ?_
      | exact DrawN.mk (by kernel_rfl)
      | exact OkN.mk (by kernel_rfl)
      | refine CallN.pure (by assumption) ?_
      | refine GuardK.splitDN (fun h => ?_) (fun h => ?_)
      | refine GuardK.splitD (fun h => ?_) (fun h => ?_)
      | refine CondE.splitDN (fun h => ?_) (fun h => ?_)
      | refine CondE.splitD (fun h => ?_) (fun h => ?_)
      | refine GuardK.splitN (fun h => ?_) (fun h => ?_)
      | refine GuardK.split (fun h => ?_) (fun h => ?_)
      | refine CondE.splitN (fun h => ?_) (fun h => ?_)
      | refine CondE.split (fun h => ?_) (fun h => ?_)
      | refine WeakK.id ?_
      | refine RoundK.next (by omega) ?_ ?_
      | exact trivial
      | simp only [*, go_sem, Nat.reduceAdd, Nat.reduceSub, Nat.reduceMul, Nat.reducePow, Nat.reduceEqDiff, Nat.reduceLT, Nat.reduceLeDiff, Nat.reduceBEq, Nat.reduceBNe, Int.reduceToNat, Int.reduceLT, Int.reduceLE, Int.reduceEq, Int.reduceBNe, Int.reduceBEq, Int.reduceAdd, Int.reduceSub, Int.reduceMul, Int.reduceNeg, ↓reduceIte])
  all_goals (rw [Bool.eq_iff_iff]; cases a; cases b; simp_all)
theorem keepAsset_spec (a b : AssetV) : Abs.Spec Tryz.prog 162 [] [.agg a.cells, .agg b.cells] [] (.bool (decide (a = b))) := by
  simp only [AssetV.cells]
  refine Abs.Spec.go (n := 31) (np := 2) (rs := [.tmp 4]) mixed Tryz.func162 rfl rfl rfl rfl rfl (by simp) (by simp) ?_
  simp only [go_sem, Nat.reduceAdd, Nat.reduceSub, Nat.reduceMul, Nat.reducePow, Nat.reduceEqDiff, Nat.reduceLT, Nat.reduceLeDiff, Nat.reduceBEq, Nat.reduceBNe, Int.reduceToNat, Int.reduceLT, Int.reduceLE, Int.reduceEq, Int.reduceBNe, Int.reduceBEq, Int.reduceAdd, Int.reduceSub, Int.reduceMul, Int.reduceNeg, ↓reduceIte]
  repeat' (with_reducible first
      | refine And.intro ?_ ?_
      | exact DrawN.mk (by kernel_rfl)
      | exact OkN.mk (by kernel_rfl)
      | refine CallN.pure (by assumption) ?_
      | refine GuardK.splitDN (fun h => ?_) (fun h => ?_)
      | refine GuardK.splitD (fun h => ?_) (fun h => ?_)
      | refine CondE.splitDN (fun h => ?_) (fun h => ?_)
      | refine CondE.splitD (fun h => ?_) (fun h => ?_)
      | refine GuardK.splitN (fun h => ?_) (fun h => ?_)
      | refine GuardK.split (fun h => ?_) (fun h => ?_)
      | refine CondE.splitN (fun h => ?_) (fun h => ?_)
      | refine CondE.split (fun h => ?_) (fun h => ?_)
      | refine WeakK.id ?_
      | refine RoundK.next (by omega) ?_ ?_
      | exact trivial
      | simp only [*, go_sem, Nat.reduceAdd, Nat.reduceSub, Nat.reduceMul, Nat.reducePow, Nat.reduceEqDiff, Nat.reduceLT, Nat.reduceLeDiff, Nat.reduceBEq, Nat.reduceBNe, Int.reduceToNat, Int.reduceLT, Int.reduceLE, Int.reduceEq, Int.reduceBNe, Int.reduceBEq, Int.reduceAdd, Int.reduceSub, Int.reduceMul, Int.reduceNeg, ↓reduceIte])
  all_goals (rw [Bool.eq_iff_iff]; cases a; cases b; simp_all)
theorem keepKey_spec (a b c d : Int) : Abs.Spec Tryz.prog 140 [] [.agg [.int .i64 a, .int .i64 b], .agg [.int .i64 c, .int .i64 d]] [] (.bool (decide (a = c ∧ b = d))) := by
  refine Abs.Spec.go (n := 17) (np := 2) (rs := [.tmp 4]) mixed Tryz.func140 rfl rfl rfl rfl rfl (by simp) (by simp) ?_
  simp only [go_sem, Nat.reduceAdd, Nat.reduceSub, Nat.reduceMul, Nat.reducePow, Nat.reduceEqDiff, Nat.reduceLT, Nat.reduceLeDiff, Nat.reduceBEq, Nat.reduceBNe, Int.reduceToNat, Int.reduceLT, Int.reduceLE, Int.reduceEq, Int.reduceBNe, Int.reduceBEq, Int.reduceAdd, Int.reduceSub, Int.reduceMul, Int.reduceNeg, ↓reduceIte]
  repeat' (with_reducible first
      | refine And.intro ?_ ?_
      | exact DrawN.mk (by kernel_rfl)
      | exact OkN.mk (by kernel_rfl)
      | refine CallN.pure (by assumption) ?_
      | refine GuardK.splitDN (fun h => ?_) (fun h => ?_)
      | refine GuardK.splitD (fun h => ?_) (fun h => ?_)
      | refine CondE.splitDN (fun h => ?_) (fun h => ?_)
      | refine CondE.splitD (fun h => ?_) (fun h => ?_)
      | refine GuardK.splitN (fun h => ?_) (fun h => ?_)
      | refine GuardK.split (fun h => ?_) (fun h => ?_)
      | refine CondE.splitN (fun h => ?_) (fun h => ?_)
      | refine CondE.split (fun h => ?_) (fun h => ?_)
      | refine WeakK.id ?_
      | refine RoundK.next (by omega) ?_ ?_
      | exact trivial
      | simp only [*, go_sem, Nat.reduceAdd, Nat.reduceSub, Nat.reduceMul, Nat.reducePow, Nat.reduceEqDiff, Nat.reduceLT, Nat.reduceLeDiff, Nat.reduceBEq, Nat.reduceBNe, Int.reduceToNat, Int.reduceLT, Int.reduceLE, Int.reduceEq, Int.reduceBNe, Int.reduceBEq, Int.reduceAdd, Int.reduceSub, Int.reduceMul, Int.reduceNeg, ↓reduceIte])
  all_goals (rw [Bool.eq_iff_iff]; simp_all)
theorem keepPos_spec (a b : PosV) : Abs.Spec Tryz.prog 163 [] [.agg a.cells, .agg b.cells] [] (.bool (decide (a = b))) := by
  have h := keepKey_spec a.who a.inst b.who b.inst
  simp only [PosV.cells]
  refine Abs.Spec.go (n := 24) (np := 2) (rs := [.tmp 4]) mixed Tryz.func163 rfl rfl rfl rfl rfl (by simp) (by simp) ?_
  simp only [go_sem, Nat.reduceAdd, Nat.reduceSub, Nat.reduceMul, Nat.reducePow, Nat.reduceEqDiff, Nat.reduceLT, Nat.reduceLeDiff, Nat.reduceBEq, Nat.reduceBNe, Int.reduceToNat, Int.reduceLT, Int.reduceLE, Int.reduceEq, Int.reduceBNe, Int.reduceBEq, Int.reduceAdd, Int.reduceSub, Int.reduceMul, Int.reduceNeg, ↓reduceIte]
  repeat' (with_reducible first
      | refine And.intro ?_ ?_
      | exact DrawN.mk (by kernel_rfl)
      | exact OkN.mk (by kernel_rfl)
      | refine CallN.pure (by assumption) ?_
      | refine CallN.pure (h) ?_
      | refine GuardK.splitDN (fun h => ?_) (fun h => ?_)
      | refine GuardK.splitD (fun h => ?_) (fun h => ?_)
      | refine CondE.splitDN (fun h => ?_) (fun h => ?_)
      | refine CondE.splitD (fun h => ?_) (fun h => ?_)
      | refine GuardK.splitN (fun h => ?_) (fun h => ?_)
      | refine GuardK.split (fun h => ?_) (fun h => ?_)
      | refine CondE.splitN (fun h => ?_) (fun h => ?_)
      | refine CondE.split (fun h => ?_) (fun h => ?_)
      | refine WeakK.id ?_
      | refine RoundK.next (by omega) ?_ ?_
      | exact trivial
      | simp only [*, go_sem, Nat.reduceAdd, Nat.reduceSub, Nat.reduceMul, Nat.reducePow, Nat.reduceEqDiff, Nat.reduceLT, Nat.reduceLeDiff, Nat.reduceBEq, Nat.reduceBNe, Int.reduceToNat, Int.reduceLT, Int.reduceLE, Int.reduceEq, Int.reduceBNe, Int.reduceBEq, Int.reduceAdd, Int.reduceSub, Int.reduceMul, Int.reduceNeg, ↓reduceIte])
  all_goals (rw [Bool.eq_iff_iff]; cases a; cases b; simp_all)
theorem keepClock_spec (a b c d e f : Int) : Abs.Spec Tryz.prog 53 [] [.agg [.int .i64 a, .int .i64 b, .int .i64 c], .agg [.int .i64 d, .int .i64 e, .int .i64 f]] [] (.bool (decide (a = d ∧ b = e ∧ c = f))) := by
  refine Abs.Spec.go (n := 24) (np := 2) (rs := [.tmp 4]) mixed Tryz.func53 rfl rfl rfl rfl rfl (by simp) (by simp) ?_
  simp only [go_sem, Nat.reduceAdd, Nat.reduceSub, Nat.reduceMul, Nat.reducePow, Nat.reduceEqDiff, Nat.reduceLT, Nat.reduceLeDiff, Nat.reduceBEq, Nat.reduceBNe, Int.reduceToNat, Int.reduceLT, Int.reduceLE, Int.reduceEq, Int.reduceBNe, Int.reduceBEq, Int.reduceAdd, Int.reduceSub, Int.reduceMul, Int.reduceNeg, ↓reduceIte]
  repeat' (with_reducible first
      | refine And.intro ?_ ?_
      | exact DrawN.mk (by kernel_rfl)
      | exact OkN.mk (by kernel_rfl)
      | refine CallN.pure (by assumption) ?_
      | refine GuardK.splitDN (fun h => ?_) (fun h => ?_)
      | refine GuardK.splitD (fun h => ?_) (fun h => ?_)
      | refine CondE.splitDN (fun h => ?_) (fun h => ?_)
      | refine CondE.splitD (fun h => ?_) (fun h => ?_)
      | refine GuardK.splitN (fun h => ?_) (fun h => ?_)
      | refine GuardK.split (fun h => ?_) (fun h => ?_)
      | refine CondE.splitN (fun h => ?_) (fun h => ?_)
      | refine CondE.split (fun h => ?_) (fun h => ?_)
      | refine WeakK.id ?_
      | refine RoundK.next (by omega) ?_ ?_
      | exact trivial
      | simp only [*, go_sem, Nat.reduceAdd, Nat.reduceSub, Nat.reduceMul, Nat.reducePow, Nat.reduceEqDiff, Nat.reduceLT, Nat.reduceLeDiff, Nat.reduceBEq, Nat.reduceBNe, Int.reduceToNat, Int.reduceLT, Int.reduceLE, Int.reduceEq, Int.reduceBNe, Int.reduceBEq, Int.reduceAdd, Int.reduceSub, Int.reduceMul, Int.reduceNeg, ↓reduceIte])
  all_goals (rw [Bool.eq_iff_iff]; simp_all)
theorem inst_ext {a b : InstV} : a = b ↔ (∀ j < 6, a.sh j = b.sh j) ∧ a.no = b.no ∧ a.cur = b.cur ∧ a.mult = b.mult ∧ a.add = b.add ∧ a.set = b.set ∧ a.price = b.price := by
  constructor
  · rintro rfl; simp
  · rintro ⟨h, h1, h2, h3, h4, h5, h6⟩
    have s0 := h 0 (by omega)
    have s1 := h 1 (by omega)
    have s2 := h 2 (by omega)
    have s3 := h 3 (by omega)
    have s4 := h 4 (by omega)
    have s5 := h 5 (by omega)
    cases a; cases b
    simp only [InstV.sh] at s0 s1 s2 s3 s4 s5
    simp_all
theorem inst_sh (x : InstV) {i : Nat} (h : i < 6) : (List.drop (6 + i * 1) x.cells).headD .undef = .int .i64 (x.sh i) := by
  rcases i with _ | _ | _ | _ | _ | _ | i <;> first | rfl | omega
theorem keepInst_spec (a b : InstV) : Abs.Spec Tryz.prog 161 [] [.agg a.cells, .agg b.cells] [] (.bool (decide (a = b))) := by
  simp only [InstV.cells]
  refine Abs.Spec.go (n := 59) (np := 2) (rs := [.tmp 4]) mixed Tryz.func161 rfl rfl rfl rfl rfl (by simp) (by simp) ?_
  simp only [go_sem, Nat.reduceAdd, Nat.reduceSub, Nat.reduceMul, Nat.reducePow, Nat.reduceEqDiff, Nat.reduceLT, Nat.reduceLeDiff, Nat.reduceBEq, Nat.reduceBNe, Int.reduceToNat, Int.reduceLT, Int.reduceLE, Int.reduceEq, Int.reduceBNe, Int.reduceBEq, Int.reduceAdd, Int.reduceSub, Int.reduceMul, Int.reduceNeg, ↓reduceIte]
  refine LoopK.walk (S := Unit) 6 [2, 3] [48, 64] (fun i _ => [(5, .int .i64 i)]) (fun i _ => []) (fun i _ => ∀ j < i, a.sh j = b.sh j) () (by simp only [go_sem, Nat.reduceAdd, Nat.reduceSub, Nat.reduceMul, Nat.reducePow, Nat.reduceEqDiff, Nat.reduceLT, Nat.reduceLeDiff, Nat.reduceBEq, Nat.reduceBNe, Int.reduceToNat, Int.reduceLT, Int.reduceLE, Int.reduceEq, Int.reduceBNe, Int.reduceBEq, Int.reduceAdd, Int.reduceSub, Int.reduceMul, Int.reduceNeg, ↓reduceIte] <;> exact rfl) (by simp only [go_sem, Nat.reduceAdd, Nat.reduceSub, Nat.reduceMul, Nat.reducePow, Nat.reduceEqDiff, Nat.reduceLT, Nat.reduceLeDiff, Nat.reduceBEq, Nat.reduceBNe, Int.reduceToNat, Int.reduceLT, Int.reduceLE, Int.reduceEq, Int.reduceBNe, Int.reduceBEq, Int.reduceAdd, Int.reduceSub, Int.reduceMul, Int.reduceNeg, ↓reduceIte] <;> exact rfl) (by intros; omega) ?_ ?_ ?_
  · simp only [go_sem, Nat.reduceAdd, Nat.reduceSub, Nat.reduceMul, Nat.reducePow, Nat.reduceEqDiff, Nat.reduceLT, Nat.reduceLeDiff, Nat.reduceBEq, Nat.reduceBNe, Int.reduceToNat, Int.reduceLT, Int.reduceLE, Int.reduceEq, Int.reduceBNe, Int.reduceBEq, Int.reduceAdd, Int.reduceSub, Int.reduceMul, Int.reduceNeg, ↓reduceIte] <;> simp
  · intro i _ hi hdi hw hI
    have hdi : decide ((i : Int) < 6) = true := hdi
    have ha := inst_sh a hi
    have hb := inst_sh b hi
    simp only [InstV.cells] at ha hb
    simp only [go_sem, Nat.reduceAdd, Nat.reduceSub, Nat.reduceMul, Nat.reducePow, Nat.reduceEqDiff, Nat.reduceLT, Nat.reduceLeDiff, Nat.reduceBEq, Nat.reduceBNe, Int.reduceToNat, Int.reduceLT, Int.reduceLE, Int.reduceEq, Int.reduceBNe, Int.reduceBEq, Int.reduceAdd, Int.reduceSub, Int.reduceMul, Int.reduceNeg, ↓reduceIte, hdi, ha, hb]
    (repeat' (with_reducible first | refine And.intro ?_ ?_ | exact DrawN.mk (by kernel_rfl) | exact OkN.mk (by kernel_rfl))) <;> try omega
    cases he : a.sh i == b.sh i
    · have hn : decide (a = b) = false := decide_eq_false fun h => by rw [h] at he; simp at he
      simp only [go_sem, Nat.reduceAdd, Nat.reduceSub, Nat.reduceMul, Nat.reducePow, Nat.reduceEqDiff, Nat.reduceLT, Nat.reduceLeDiff, Nat.reduceBEq, Nat.reduceBNe, Int.reduceToNat, Int.reduceLT, Int.reduceLE, Int.reduceEq, Int.reduceBNe, Int.reduceBEq, Int.reduceAdd, Int.reduceSub, Int.reduceMul, Int.reduceNeg, ↓reduceIte, bne, he, hn]
    · simp only [go_sem, Nat.reduceAdd, Nat.reduceSub, Nat.reduceMul, Nat.reducePow, Nat.reduceEqDiff, Nat.reduceLT, Nat.reduceLeDiff, Nat.reduceBEq, Nat.reduceBNe, Int.reduceToNat, Int.reduceLT, Int.reduceLE, Int.reduceEq, Int.reduceBNe, Int.reduceBEq, Int.reduceAdd, Int.reduceSub, Int.reduceMul, Int.reduceNeg, ↓reduceIte, bne, he, hw]
      refine RoundK.step () hi ?_ ?_
      · intro j hj
        rcases Nat.lt_or_ge j i with h | h
        · exact hI j h
        · obtain rfl : j = i := by omega
          simpa using he
      · simp only [go_sem, Nat.reduceAdd, Nat.reduceSub, Nat.reduceMul, Nat.reducePow, Nat.reduceEqDiff, Nat.reduceLT, Nat.reduceLeDiff, Nat.reduceBEq, Nat.reduceBNe, Int.reduceToNat, Int.reduceLT, Int.reduceLE, Int.reduceEq, Int.reduceBNe, Int.reduceBEq, Int.reduceAdd, Int.reduceSub, Int.reduceMul, Int.reduceNeg, ↓reduceIte]
  · intro _ hdx hI
    have hdx : decide ((6 : Int) < 6) = false := hdx
    have e : decide (a = b) = decide (a.no = b.no ∧ a.cur = b.cur ∧ a.mult = b.mult ∧ a.add = b.add ∧ a.set = b.set ∧ a.price = b.price) := by
      rw [Bool.eq_iff_iff, decide_eq_true_iff, decide_eq_true_iff, inst_ext]
      exact ⟨fun h => h.2, fun h => ⟨hI, h⟩⟩
    rw [e]
    clear e hI
    simp only [go_sem, Nat.reduceAdd, Nat.reduceSub, Nat.reduceMul, Nat.reducePow, Nat.reduceEqDiff, Nat.reduceLT, Nat.reduceLeDiff, Nat.reduceBEq, Nat.reduceBNe, Int.reduceToNat, Int.reduceLT, Int.reduceLE, Int.reduceEq, Int.reduceBNe, Int.reduceBEq, Int.reduceAdd, Int.reduceSub, Int.reduceMul, Int.reduceNeg, ↓reduceIte, hdx]
    repeat' (with_reducible first
        | refine And.intro ?_ ?_
        | exact DrawN.mk (by kernel_rfl)
        | exact OkN.mk (by kernel_rfl)
        | refine CallN.pure (by assumption) ?_
        | refine GuardK.splitDN (fun h => ?_) (fun h => ?_)
        | refine GuardK.splitD (fun h => ?_) (fun h => ?_)
        | refine CondE.splitDN (fun h => ?_) (fun h => ?_)
        | refine CondE.splitD (fun h => ?_) (fun h => ?_)
        | refine GuardK.splitN (fun h => ?_) (fun h => ?_)
        | refine GuardK.split (fun h => ?_) (fun h => ?_)
        | refine CondE.splitN (fun h => ?_) (fun h => ?_)
        | refine CondE.split (fun h => ?_) (fun h => ?_)
        | refine WeakK.id ?_
        | refine RoundK.next (by omega) ?_ ?_
        | exact trivial
        | simp only [*, go_sem, Nat.reduceAdd, Nat.reduceSub, Nat.reduceMul, Nat.reducePow, Nat.reduceEqDiff, Nat.reduceLT, Nat.reduceLeDiff, Nat.reduceBEq, Nat.reduceBNe, Int.reduceToNat, Int.reduceLT, Int.reduceLE, Int.reduceEq, Int.reduceBNe, Int.reduceBEq, Int.reduceAdd, Int.reduceSub, Int.reduceMul, Int.reduceNeg, ↓reduceIte])
    all_goals (rw [Bool.eq_iff_iff]; simp_all)
def FallV.ch (x : FallV) : Nat → Int
  | 0 => x.c0 | 1 => x.c1 | 2 => x.c2 | 3 => x.c3 | _ => x.c4
theorem fall_ext {a b : FallV} : a = b ↔ (∀ j < 5, a.ch j = b.ch j) ∧ a.cur = b.cur ∧ a.loss = b.loss ∧ a.rest = b.rest := by
  constructor
  · rintro rfl; simp
  · rintro ⟨h, h1, h2, h3⟩
    have s0 := h 0 (by omega)
    have s1 := h 1 (by omega)
    have s2 := h 2 (by omega)
    have s3 := h 3 (by omega)
    have s4 := h 4 (by omega)
    cases a; cases b
    simp only [FallV.ch] at s0 s1 s2 s3 s4
    simp_all
theorem fall_ch (x : FallV) {i : Nat} (h : i < 5) : (List.drop (2 + i * 1) x.cells).headD .undef = .int .i64 (x.ch i) := by
  rcases i with _ | _ | _ | _ | _ | i <;> first | rfl | omega
theorem keepFall_spec (a b : FallV) : Abs.Spec Tryz.prog 185 [] [.agg a.cells, .agg b.cells] [] (.bool (decide (a = b))) := by
  simp only [FallV.cells]
  refine Abs.Spec.go (n := 38) (np := 2) (rs := [.tmp 4]) mixed Tryz.func185 rfl rfl rfl rfl rfl (by simp) (by simp) ?_
  simp only [go_sem, Nat.reduceAdd, Nat.reduceSub, Nat.reduceMul, Nat.reducePow, Nat.reduceEqDiff, Nat.reduceLT, Nat.reduceLeDiff, Nat.reduceBEq, Nat.reduceBNe, Int.reduceToNat, Int.reduceLT, Int.reduceLE, Int.reduceEq, Int.reduceBNe, Int.reduceBEq, Int.reduceAdd, Int.reduceSub, Int.reduceMul, Int.reduceNeg, ↓reduceIte]
  refine LoopK.walk (S := Unit) 5 [2, 3] [48, 64] (fun i _ => [(5, .int .i64 i)]) (fun i _ => []) (fun i _ => ∀ j < i, a.ch j = b.ch j) () (by simp only [go_sem, Nat.reduceAdd, Nat.reduceSub, Nat.reduceMul, Nat.reducePow, Nat.reduceEqDiff, Nat.reduceLT, Nat.reduceLeDiff, Nat.reduceBEq, Nat.reduceBNe, Int.reduceToNat, Int.reduceLT, Int.reduceLE, Int.reduceEq, Int.reduceBNe, Int.reduceBEq, Int.reduceAdd, Int.reduceSub, Int.reduceMul, Int.reduceNeg, ↓reduceIte] <;> exact rfl) (by simp only [go_sem, Nat.reduceAdd, Nat.reduceSub, Nat.reduceMul, Nat.reducePow, Nat.reduceEqDiff, Nat.reduceLT, Nat.reduceLeDiff, Nat.reduceBEq, Nat.reduceBNe, Int.reduceToNat, Int.reduceLT, Int.reduceLE, Int.reduceEq, Int.reduceBNe, Int.reduceBEq, Int.reduceAdd, Int.reduceSub, Int.reduceMul, Int.reduceNeg, ↓reduceIte] <;> exact rfl) (by intros; omega) ?_ ?_ ?_
  · simp only [go_sem, Nat.reduceAdd, Nat.reduceSub, Nat.reduceMul, Nat.reducePow, Nat.reduceEqDiff, Nat.reduceLT, Nat.reduceLeDiff, Nat.reduceBEq, Nat.reduceBNe, Int.reduceToNat, Int.reduceLT, Int.reduceLE, Int.reduceEq, Int.reduceBNe, Int.reduceBEq, Int.reduceAdd, Int.reduceSub, Int.reduceMul, Int.reduceNeg, ↓reduceIte] <;> simp
  · intro i _ hi hdi hw hI
    have hdi : decide ((i : Int) < 5) = true := hdi
    have ha := fall_ch a hi
    have hb := fall_ch b hi
    simp only [FallV.cells] at ha hb
    simp only [go_sem, Nat.reduceAdd, Nat.reduceSub, Nat.reduceMul, Nat.reducePow, Nat.reduceEqDiff, Nat.reduceLT, Nat.reduceLeDiff, Nat.reduceBEq, Nat.reduceBNe, Int.reduceToNat, Int.reduceLT, Int.reduceLE, Int.reduceEq, Int.reduceBNe, Int.reduceBEq, Int.reduceAdd, Int.reduceSub, Int.reduceMul, Int.reduceNeg, ↓reduceIte, hdi, ha, hb]
    (repeat' (with_reducible first | refine And.intro ?_ ?_ | exact DrawN.mk (by kernel_rfl) | exact OkN.mk (by kernel_rfl))) <;> try omega
    cases he : a.ch i == b.ch i
    · have hn : decide (a = b) = false := decide_eq_false fun h => by rw [h] at he; simp at he
      simp only [go_sem, Nat.reduceAdd, Nat.reduceSub, Nat.reduceMul, Nat.reducePow, Nat.reduceEqDiff, Nat.reduceLT, Nat.reduceLeDiff, Nat.reduceBEq, Nat.reduceBNe, Int.reduceToNat, Int.reduceLT, Int.reduceLE, Int.reduceEq, Int.reduceBNe, Int.reduceBEq, Int.reduceAdd, Int.reduceSub, Int.reduceMul, Int.reduceNeg, ↓reduceIte, bne, he, hn]
    · simp only [go_sem, Nat.reduceAdd, Nat.reduceSub, Nat.reduceMul, Nat.reducePow, Nat.reduceEqDiff, Nat.reduceLT, Nat.reduceLeDiff, Nat.reduceBEq, Nat.reduceBNe, Int.reduceToNat, Int.reduceLT, Int.reduceLE, Int.reduceEq, Int.reduceBNe, Int.reduceBEq, Int.reduceAdd, Int.reduceSub, Int.reduceMul, Int.reduceNeg, ↓reduceIte, bne, he, hw]
      refine RoundK.step () hi ?_ ?_
      · intro j hj
        rcases Nat.lt_or_ge j i with h | h
        · exact hI j h
        · obtain rfl : j = i := by omega
          simpa using he
      · simp only [go_sem, Nat.reduceAdd, Nat.reduceSub, Nat.reduceMul, Nat.reducePow, Nat.reduceEqDiff, Nat.reduceLT, Nat.reduceLeDiff, Nat.reduceBEq, Nat.reduceBNe, Int.reduceToNat, Int.reduceLT, Int.reduceLE, Int.reduceEq, Int.reduceBNe, Int.reduceBEq, Int.reduceAdd, Int.reduceSub, Int.reduceMul, Int.reduceNeg, ↓reduceIte]
  · intro _ hdx hI
    have hdx : decide ((5 : Int) < 5) = false := hdx
    have e : decide (a = b) = decide (a.cur = b.cur ∧ a.loss = b.loss ∧ a.rest = b.rest) := by
      rw [Bool.eq_iff_iff, decide_eq_true_iff, decide_eq_true_iff, fall_ext]
      exact ⟨fun h => h.2, fun h => ⟨hI, h⟩⟩
    rw [e]
    clear e hI
    simp only [go_sem, Nat.reduceAdd, Nat.reduceSub, Nat.reduceMul, Nat.reducePow, Nat.reduceEqDiff, Nat.reduceLT, Nat.reduceLeDiff, Nat.reduceBEq, Nat.reduceBNe, Int.reduceToNat, Int.reduceLT, Int.reduceLE, Int.reduceEq, Int.reduceBNe, Int.reduceBEq, Int.reduceAdd, Int.reduceSub, Int.reduceMul, Int.reduceNeg, ↓reduceIte, hdx]
    repeat' (with_reducible first
        | refine And.intro ?_ ?_
        | exact DrawN.mk (by kernel_rfl)
        | exact OkN.mk (by kernel_rfl)
        | refine CallN.pure (by assumption) ?_
        | refine GuardK.splitDN (fun h => ?_) (fun h => ?_)
        | refine GuardK.splitD (fun h => ?_) (fun h => ?_)
        | refine CondE.splitDN (fun h => ?_) (fun h => ?_)
        | refine CondE.splitD (fun h => ?_) (fun h => ?_)
        | refine GuardK.splitN (fun h => ?_) (fun h => ?_)
        | refine GuardK.split (fun h => ?_) (fun h => ?_)
        | refine CondE.splitN (fun h => ?_) (fun h => ?_)
        | refine CondE.split (fun h => ?_) (fun h => ?_)
        | refine WeakK.id ?_
        | refine RoundK.next (by omega) ?_ ?_
        | exact trivial
        | simp only [*, go_sem, Nat.reduceAdd, Nat.reduceSub, Nat.reduceMul, Nat.reducePow, Nat.reduceEqDiff, Nat.reduceLT, Nat.reduceLeDiff, Nat.reduceBEq, Nat.reduceBNe, Int.reduceToNat, Int.reduceLT, Int.reduceLE, Int.reduceEq, Int.reduceBNe, Int.reduceBEq, Int.reduceAdd, Int.reduceSub, Int.reduceMul, Int.reduceNeg, ↓reduceIte])
    all_goals (rw [Bool.eq_iff_iff]; simp_all)
set_option maxRecDepth 8000 in
theorem keepMembers_spec (xs ys : List MemberV) (hl : xs.length < 4611686018427387904) : Abs.Spec Tryz.prog 84 [] [.sl 3 (xs.map MemberV.cells), .sl 3 (ys.map MemberV.cells)] [] (.bool (decide (xs = ys))) := by
  refine Abs.Spec.go (n := 54) (np := 2) (rs := [.tmp 4]) mixed Tryz.func84 rfl rfl rfl rfl rfl (by simp) (by simp) ?_
  simp only [go_sem, Nat.reduceAdd, Nat.reduceSub, Nat.reduceMul, Nat.reducePow, Nat.reduceEqDiff, Nat.reduceLT, Nat.reduceLeDiff, Nat.reduceBEq, Nat.reduceBNe, Int.reduceToNat, Int.reduceLT, Int.reduceLE, Int.reduceEq, Int.reduceBNe, Int.reduceBEq, Int.reduceAdd, Int.reduceSub, Int.reduceMul, Int.reduceNeg, ↓reduceIte, List.length_map]
  by_cases hlen : xs.length = ys.length
  case neg =>
    have b : ((xs.length : Int) == (ys.length : Int)) = false := by rw [beq_eq_false_iff_ne]; omega
    have e : decide (xs = ys) = false := decide_eq_false fun h => hlen (by rw [h])
    simp only [go_sem, Nat.reduceAdd, Nat.reduceSub, Nat.reduceMul, Nat.reducePow, Nat.reduceEqDiff, Nat.reduceLT, Nat.reduceLeDiff, Nat.reduceBEq, Nat.reduceBNe, Int.reduceToNat, Int.reduceLT, Int.reduceLE, Int.reduceEq, Int.reduceBNe, Int.reduceBEq, Int.reduceAdd, Int.reduceSub, Int.reduceMul, Int.reduceNeg, ↓reduceIte, bne, b, e]
  have b : ((xs.length : Int) == (ys.length : Int)) = true := by rw [beq_iff_eq]; omega
  simp only [go_sem, Nat.reduceAdd, Nat.reduceSub, Nat.reduceMul, Nat.reducePow, Nat.reduceEqDiff, Nat.reduceLT, Nat.reduceLeDiff, Nat.reduceBEq, Nat.reduceBNe, Int.reduceToNat, Int.reduceLT, Int.reduceLE, Int.reduceEq, Int.reduceBNe, Int.reduceBEq, Int.reduceAdd, Int.reduceSub, Int.reduceMul, Int.reduceNeg, ↓reduceIte, bne, b, List.length_map]
  refine LoopK.walk (S := Unit) xs.length [0, 1] [] (fun i _ => [(5, .int .i64 i)]) (fun i _ => []) (fun i _ => ∀ j (h1 : j < xs.length) (h2 : j < ys.length), j < i → xs[j] = ys[j]) () (by simp only [go_sem, Nat.reduceAdd, Nat.reduceSub, Nat.reduceMul, Nat.reducePow, Nat.reduceEqDiff, Nat.reduceLT, Nat.reduceLeDiff, Nat.reduceBEq, Nat.reduceBNe, Int.reduceToNat, Int.reduceLT, Int.reduceLE, Int.reduceEq, Int.reduceBNe, Int.reduceBEq, Int.reduceAdd, Int.reduceSub, Int.reduceMul, Int.reduceNeg, ↓reduceIte] <;> exact rfl) (by simp only [go_sem, Nat.reduceAdd, Nat.reduceSub, Nat.reduceMul, Nat.reducePow, Nat.reduceEqDiff, Nat.reduceLT, Nat.reduceLeDiff, Nat.reduceBEq, Nat.reduceBNe, Int.reduceToNat, Int.reduceLT, Int.reduceLE, Int.reduceEq, Int.reduceBNe, Int.reduceBEq, Int.reduceAdd, Int.reduceSub, Int.reduceMul, Int.reduceNeg, ↓reduceIte] <;> exact rfl) (by intros; omega) ?_ ?_ ?_
  · simp only [go_sem, Nat.reduceAdd, Nat.reduceSub, Nat.reduceMul, Nat.reducePow, Nat.reduceEqDiff, Nat.reduceLT, Nat.reduceLeDiff, Nat.reduceBEq, Nat.reduceBNe, Int.reduceToNat, Int.reduceLT, Int.reduceLE, Int.reduceEq, Int.reduceBNe, Int.reduceBEq, Int.reduceAdd, Int.reduceSub, Int.reduceMul, Int.reduceNeg, ↓reduceIte] <;> simp
  · intro i _ hi hdi hw hI
    have hi2 : i < ys.length := by omega
    have hm := map_at (c := MemberV.cells) xs hi
    have hm2 := map_at (c := MemberV.cells) ys hi2
    have e0 := eq_next hI hi hi2
    have e1 : xs[i] ≠ ys[i] → decide (xs = ys) = false := fun h => decide_eq_false fun e => h (by subst e; rfl)
    have hl1 : (i : Int) < (xs.length : Int) := by omega
    have hl2 : (i : Int) < (ys.length : Int) := by omega
    obtain ⟨x, hx⟩ : ∃ x, x = xs[i] := ⟨_, rfl⟩
    obtain ⟨y, hy⟩ : ∃ y, y = ys[i] := ⟨_, rfl⟩
    rw [← hx] at hm e0 e1
    rw [← hy] at hm2 e0 e1
    simp only [MemberV.cells] at *
    clear hx hy hI hlen
    simp only [go_sem, Nat.reduceAdd, Nat.reduceSub, Nat.reduceMul, Nat.reducePow, Nat.reduceEqDiff, Nat.reduceLT, Nat.reduceLeDiff, Nat.reduceBEq, Nat.reduceBNe, Int.reduceToNat, Int.reduceLT, Int.reduceLE, Int.reduceEq, Int.reduceBNe, Int.reduceBEq, Int.reduceAdd, Int.reduceSub, Int.reduceMul, Int.reduceNeg, ↓reduceIte, List.length_map, hdi, hm, hm2]
    repeat' (with_reducible first
        | refine And.intro ?_ ?_
        | exact DrawN.mk (by kernel_rfl)
        | exact OkN.mk (by kernel_rfl)
        | refine CallN.pure (by assumption) ?_
        | refine GuardK.splitDN (fun h => ?_) (fun h => ?_)
        | refine GuardK.splitD (fun h => ?_) (fun h => ?_)
        | refine CondE.splitDN (fun h => ?_) (fun h => ?_)
        | refine CondE.splitD (fun h => ?_) (fun h => ?_)
        | refine GuardK.splitN (fun h => ?_) (fun h => ?_)
        | refine GuardK.split (fun h => ?_) (fun h => ?_)
        | refine CondE.splitN (fun h => ?_) (fun h => ?_)
        | refine CondE.split (fun h => ?_) (fun h => ?_)
        | refine WeakK.id ?_
        | refine RoundK.next (by omega) ?_ ?_
        | exact trivial
        | simp only [*, go_sem, Nat.reduceAdd, Nat.reduceSub, Nat.reduceMul, Nat.reducePow, Nat.reduceEqDiff, Nat.reduceLT, Nat.reduceLeDiff, Nat.reduceBEq, Nat.reduceBNe, Int.reduceToNat, Int.reduceLT, Int.reduceLE, Int.reduceEq, Int.reduceBNe, Int.reduceBEq, Int.reduceAdd, Int.reduceSub, Int.reduceMul, Int.reduceNeg, ↓reduceIte, hm, hm2, List.length_map])
    all_goals first
      | omega
      | (refine RoundK.step () hi (e0 ?_) ?_
         · clear e0 e1; cases x; cases y; simp_all; done
         · simp only [go_sem, Nat.reduceAdd, Nat.reduceSub, Nat.reduceMul, Nat.reducePow, Nat.reduceEqDiff, Nat.reduceLT, Nat.reduceLeDiff, Nat.reduceBEq, Nat.reduceBNe, Int.reduceToNat, Int.reduceLT, Int.reduceLE, Int.reduceEq, Int.reduceBNe, Int.reduceBEq, Int.reduceAdd, Int.reduceSub, Int.reduceMul, Int.reduceNeg, ↓reduceIte])
      | (rw [e1 ?_]; clear e0 e1; cases x; cases y; simp_all; done)
  · intro _ hdx hI
    have e : decide (xs = ys) = true := decide_eq_true (ext_list hlen hI)
    simp only [go_sem, Nat.reduceAdd, Nat.reduceSub, Nat.reduceMul, Nat.reducePow, Nat.reduceEqDiff, Nat.reduceLT, Nat.reduceLeDiff, Nat.reduceBEq, Nat.reduceBNe, Int.reduceToNat, Int.reduceLT, Int.reduceLE, Int.reduceEq, Int.reduceBNe, Int.reduceBEq, Int.reduceAdd, Int.reduceSub, Int.reduceMul, Int.reduceNeg, ↓reduceIte, List.length_map, hdx, e]
set_option maxRecDepth 8000 in
theorem keepInsts_spec (xs ys : List InstV) (hl : xs.length < 4611686018427387904) : Abs.Spec Tryz.prog 85 [] [.sl 12 (xs.map InstV.cells), .sl 12 (ys.map InstV.cells)] [] (.bool (decide (xs = ys))) := by
  refine Abs.Spec.go (n := 27) (np := 2) (rs := [.tmp 4]) mixed Tryz.func85 rfl rfl rfl rfl rfl (by simp) (by simp) ?_
  simp only [go_sem, Nat.reduceAdd, Nat.reduceSub, Nat.reduceMul, Nat.reducePow, Nat.reduceEqDiff, Nat.reduceLT, Nat.reduceLeDiff, Nat.reduceBEq, Nat.reduceBNe, Int.reduceToNat, Int.reduceLT, Int.reduceLE, Int.reduceEq, Int.reduceBNe, Int.reduceBEq, Int.reduceAdd, Int.reduceSub, Int.reduceMul, Int.reduceNeg, ↓reduceIte, List.length_map]
  by_cases hlen : xs.length = ys.length
  case neg =>
    have b : ((xs.length : Int) == (ys.length : Int)) = false := by rw [beq_eq_false_iff_ne]; omega
    have e : decide (xs = ys) = false := decide_eq_false fun h => hlen (by rw [h])
    simp only [go_sem, Nat.reduceAdd, Nat.reduceSub, Nat.reduceMul, Nat.reducePow, Nat.reduceEqDiff, Nat.reduceLT, Nat.reduceLeDiff, Nat.reduceBEq, Nat.reduceBNe, Int.reduceToNat, Int.reduceLT, Int.reduceLE, Int.reduceEq, Int.reduceBNe, Int.reduceBEq, Int.reduceAdd, Int.reduceSub, Int.reduceMul, Int.reduceNeg, ↓reduceIte, bne, b, e]
  have b : ((xs.length : Int) == (ys.length : Int)) = true := by rw [beq_iff_eq]; omega
  simp only [go_sem, Nat.reduceAdd, Nat.reduceSub, Nat.reduceMul, Nat.reducePow, Nat.reduceEqDiff, Nat.reduceLT, Nat.reduceLeDiff, Nat.reduceBEq, Nat.reduceBNe, Int.reduceToNat, Int.reduceLT, Int.reduceLE, Int.reduceEq, Int.reduceBNe, Int.reduceBEq, Int.reduceAdd, Int.reduceSub, Int.reduceMul, Int.reduceNeg, ↓reduceIte, bne, b, List.length_map]
  refine LoopK.walk (S := Unit) xs.length [0, 1] [] (fun i _ => [(5, .int .i64 i)]) (fun i _ => []) (fun i _ => ∀ j (h1 : j < xs.length) (h2 : j < ys.length), j < i → xs[j] = ys[j]) () (by simp only [go_sem, Nat.reduceAdd, Nat.reduceSub, Nat.reduceMul, Nat.reducePow, Nat.reduceEqDiff, Nat.reduceLT, Nat.reduceLeDiff, Nat.reduceBEq, Nat.reduceBNe, Int.reduceToNat, Int.reduceLT, Int.reduceLE, Int.reduceEq, Int.reduceBNe, Int.reduceBEq, Int.reduceAdd, Int.reduceSub, Int.reduceMul, Int.reduceNeg, ↓reduceIte] <;> exact rfl) (by simp only [go_sem, Nat.reduceAdd, Nat.reduceSub, Nat.reduceMul, Nat.reducePow, Nat.reduceEqDiff, Nat.reduceLT, Nat.reduceLeDiff, Nat.reduceBEq, Nat.reduceBNe, Int.reduceToNat, Int.reduceLT, Int.reduceLE, Int.reduceEq, Int.reduceBNe, Int.reduceBEq, Int.reduceAdd, Int.reduceSub, Int.reduceMul, Int.reduceNeg, ↓reduceIte] <;> exact rfl) (by intros; omega) ?_ ?_ ?_
  · simp only [go_sem, Nat.reduceAdd, Nat.reduceSub, Nat.reduceMul, Nat.reducePow, Nat.reduceEqDiff, Nat.reduceLT, Nat.reduceLeDiff, Nat.reduceBEq, Nat.reduceBNe, Int.reduceToNat, Int.reduceLT, Int.reduceLE, Int.reduceEq, Int.reduceBNe, Int.reduceBEq, Int.reduceAdd, Int.reduceSub, Int.reduceMul, Int.reduceNeg, ↓reduceIte] <;> simp
  · intro i _ hi hdi hw hI
    have hi2 : i < ys.length := by omega
    have hm := map_at (c := InstV.cells) xs hi
    have hm2 := map_at (c := InstV.cells) ys hi2
    have e0 := eq_next hI hi hi2
    have e1 : xs[i] ≠ ys[i] → decide (xs = ys) = false := fun h => decide_eq_false fun e => h (by subst e; rfl)
    have hl1 : (i : Int) < (xs.length : Int) := by omega
    have hl2 : (i : Int) < (ys.length : Int) := by omega
    obtain ⟨x, hx⟩ : ∃ x, x = xs[i] := ⟨_, rfl⟩
    obtain ⟨y, hy⟩ : ∃ y, y = ys[i] := ⟨_, rfl⟩
    rw [← hx] at hm e0 e1
    rw [← hy] at hm2 e0 e1
    have hc := keepInst_spec x y
    simp only [InstV.cells] at *
    clear hx hy hI hlen
    simp only [go_sem, Nat.reduceAdd, Nat.reduceSub, Nat.reduceMul, Nat.reducePow, Nat.reduceEqDiff, Nat.reduceLT, Nat.reduceLeDiff, Nat.reduceBEq, Nat.reduceBNe, Int.reduceToNat, Int.reduceLT, Int.reduceLE, Int.reduceEq, Int.reduceBNe, Int.reduceBEq, Int.reduceAdd, Int.reduceSub, Int.reduceMul, Int.reduceNeg, ↓reduceIte, List.length_map, hdi, hm, hm2]
    repeat' (with_reducible first
        | refine And.intro ?_ ?_
        | exact DrawN.mk (by kernel_rfl)
        | exact OkN.mk (by kernel_rfl)
        | refine CallN.pure (by assumption) ?_
        | refine CallN.pure (hc) ?_
        | refine GuardK.splitDN (fun h => ?_) (fun h => ?_)
        | refine GuardK.splitD (fun h => ?_) (fun h => ?_)
        | refine CondE.splitDN (fun h => ?_) (fun h => ?_)
        | refine CondE.splitD (fun h => ?_) (fun h => ?_)
        | refine GuardK.splitN (fun h => ?_) (fun h => ?_)
        | refine GuardK.split (fun h => ?_) (fun h => ?_)
        | refine CondE.splitN (fun h => ?_) (fun h => ?_)
        | refine CondE.split (fun h => ?_) (fun h => ?_)
        | refine WeakK.id ?_
        | refine RoundK.next (by omega) ?_ ?_
        | exact trivial
        | simp only [*, go_sem, Nat.reduceAdd, Nat.reduceSub, Nat.reduceMul, Nat.reducePow, Nat.reduceEqDiff, Nat.reduceLT, Nat.reduceLeDiff, Nat.reduceBEq, Nat.reduceBNe, Int.reduceToNat, Int.reduceLT, Int.reduceLE, Int.reduceEq, Int.reduceBNe, Int.reduceBEq, Int.reduceAdd, Int.reduceSub, Int.reduceMul, Int.reduceNeg, ↓reduceIte, hm, hm2, List.length_map])
    all_goals first
      | omega
      | (refine RoundK.step () hi (e0 ?_) ?_
         · clear e0 e1; cases x; cases y; simp_all; done
         · simp only [go_sem, Nat.reduceAdd, Nat.reduceSub, Nat.reduceMul, Nat.reducePow, Nat.reduceEqDiff, Nat.reduceLT, Nat.reduceLeDiff, Nat.reduceBEq, Nat.reduceBNe, Int.reduceToNat, Int.reduceLT, Int.reduceLE, Int.reduceEq, Int.reduceBNe, Int.reduceBEq, Int.reduceAdd, Int.reduceSub, Int.reduceMul, Int.reduceNeg, ↓reduceIte])
      | (rw [e1 ?_]; clear e0 e1; cases x; cases y; simp_all; done)
  · intro _ hdx hI
    have e : decide (xs = ys) = true := decide_eq_true (ext_list hlen hI)
    simp only [go_sem, Nat.reduceAdd, Nat.reduceSub, Nat.reduceMul, Nat.reducePow, Nat.reduceEqDiff, Nat.reduceLT, Nat.reduceLeDiff, Nat.reduceBEq, Nat.reduceBNe, Int.reduceToNat, Int.reduceLT, Int.reduceLE, Int.reduceEq, Int.reduceBNe, Int.reduceBEq, Int.reduceAdd, Int.reduceSub, Int.reduceMul, Int.reduceNeg, ↓reduceIte, List.length_map, hdx, e]
set_option maxRecDepth 8000 in
theorem keepAssets_spec (xs ys : List AssetV) (hl : xs.length < 4611686018427387904) : Abs.Spec Tryz.prog 86 [] [.sl 4 (xs.map AssetV.cells), .sl 4 (ys.map AssetV.cells)] [] (.bool (decide (xs = ys))) := by
  refine Abs.Spec.go (n := 27) (np := 2) (rs := [.tmp 4]) mixed Tryz.func86 rfl rfl rfl rfl rfl (by simp) (by simp) ?_
  simp only [go_sem, Nat.reduceAdd, Nat.reduceSub, Nat.reduceMul, Nat.reducePow, Nat.reduceEqDiff, Nat.reduceLT, Nat.reduceLeDiff, Nat.reduceBEq, Nat.reduceBNe, Int.reduceToNat, Int.reduceLT, Int.reduceLE, Int.reduceEq, Int.reduceBNe, Int.reduceBEq, Int.reduceAdd, Int.reduceSub, Int.reduceMul, Int.reduceNeg, ↓reduceIte, List.length_map]
  by_cases hlen : xs.length = ys.length
  case neg =>
    have b : ((xs.length : Int) == (ys.length : Int)) = false := by rw [beq_eq_false_iff_ne]; omega
    have e : decide (xs = ys) = false := decide_eq_false fun h => hlen (by rw [h])
    simp only [go_sem, Nat.reduceAdd, Nat.reduceSub, Nat.reduceMul, Nat.reducePow, Nat.reduceEqDiff, Nat.reduceLT, Nat.reduceLeDiff, Nat.reduceBEq, Nat.reduceBNe, Int.reduceToNat, Int.reduceLT, Int.reduceLE, Int.reduceEq, Int.reduceBNe, Int.reduceBEq, Int.reduceAdd, Int.reduceSub, Int.reduceMul, Int.reduceNeg, ↓reduceIte, bne, b, e]
  have b : ((xs.length : Int) == (ys.length : Int)) = true := by rw [beq_iff_eq]; omega
  simp only [go_sem, Nat.reduceAdd, Nat.reduceSub, Nat.reduceMul, Nat.reducePow, Nat.reduceEqDiff, Nat.reduceLT, Nat.reduceLeDiff, Nat.reduceBEq, Nat.reduceBNe, Int.reduceToNat, Int.reduceLT, Int.reduceLE, Int.reduceEq, Int.reduceBNe, Int.reduceBEq, Int.reduceAdd, Int.reduceSub, Int.reduceMul, Int.reduceNeg, ↓reduceIte, bne, b, List.length_map]
  refine LoopK.walk (S := Unit) xs.length [0, 1] [] (fun i _ => [(5, .int .i64 i)]) (fun i _ => []) (fun i _ => ∀ j (h1 : j < xs.length) (h2 : j < ys.length), j < i → xs[j] = ys[j]) () (by simp only [go_sem, Nat.reduceAdd, Nat.reduceSub, Nat.reduceMul, Nat.reducePow, Nat.reduceEqDiff, Nat.reduceLT, Nat.reduceLeDiff, Nat.reduceBEq, Nat.reduceBNe, Int.reduceToNat, Int.reduceLT, Int.reduceLE, Int.reduceEq, Int.reduceBNe, Int.reduceBEq, Int.reduceAdd, Int.reduceSub, Int.reduceMul, Int.reduceNeg, ↓reduceIte] <;> exact rfl) (by simp only [go_sem, Nat.reduceAdd, Nat.reduceSub, Nat.reduceMul, Nat.reducePow, Nat.reduceEqDiff, Nat.reduceLT, Nat.reduceLeDiff, Nat.reduceBEq, Nat.reduceBNe, Int.reduceToNat, Int.reduceLT, Int.reduceLE, Int.reduceEq, Int.reduceBNe, Int.reduceBEq, Int.reduceAdd, Int.reduceSub, Int.reduceMul, Int.reduceNeg, ↓reduceIte] <;> exact rfl) (by intros; omega) ?_ ?_ ?_
  · simp only [go_sem, Nat.reduceAdd, Nat.reduceSub, Nat.reduceMul, Nat.reducePow, Nat.reduceEqDiff, Nat.reduceLT, Nat.reduceLeDiff, Nat.reduceBEq, Nat.reduceBNe, Int.reduceToNat, Int.reduceLT, Int.reduceLE, Int.reduceEq, Int.reduceBNe, Int.reduceBEq, Int.reduceAdd, Int.reduceSub, Int.reduceMul, Int.reduceNeg, ↓reduceIte] <;> simp
  · intro i _ hi hdi hw hI
    have hi2 : i < ys.length := by omega
    have hm := map_at (c := AssetV.cells) xs hi
    have hm2 := map_at (c := AssetV.cells) ys hi2
    have e0 := eq_next hI hi hi2
    have e1 : xs[i] ≠ ys[i] → decide (xs = ys) = false := fun h => decide_eq_false fun e => h (by subst e; rfl)
    have hl1 : (i : Int) < (xs.length : Int) := by omega
    have hl2 : (i : Int) < (ys.length : Int) := by omega
    obtain ⟨x, hx⟩ : ∃ x, x = xs[i] := ⟨_, rfl⟩
    obtain ⟨y, hy⟩ : ∃ y, y = ys[i] := ⟨_, rfl⟩
    rw [← hx] at hm e0 e1
    rw [← hy] at hm2 e0 e1
    have hc := keepAsset_spec x y
    simp only [AssetV.cells] at *
    clear hx hy hI hlen
    simp only [go_sem, Nat.reduceAdd, Nat.reduceSub, Nat.reduceMul, Nat.reducePow, Nat.reduceEqDiff, Nat.reduceLT, Nat.reduceLeDiff, Nat.reduceBEq, Nat.reduceBNe, Int.reduceToNat, Int.reduceLT, Int.reduceLE, Int.reduceEq, Int.reduceBNe, Int.reduceBEq, Int.reduceAdd, Int.reduceSub, Int.reduceMul, Int.reduceNeg, ↓reduceIte, List.length_map, hdi, hm, hm2]
    repeat' (with_reducible first
        | refine And.intro ?_ ?_
        | exact DrawN.mk (by kernel_rfl)
        | exact OkN.mk (by kernel_rfl)
        | refine CallN.pure (by assumption) ?_
        | refine CallN.pure (hc) ?_
        | refine GuardK.splitDN (fun h => ?_) (fun h => ?_)
        | refine GuardK.splitD (fun h => ?_) (fun h => ?_)
        | refine CondE.splitDN (fun h => ?_) (fun h => ?_)
        | refine CondE.splitD (fun h => ?_) (fun h => ?_)
        | refine GuardK.splitN (fun h => ?_) (fun h => ?_)
        | refine GuardK.split (fun h => ?_) (fun h => ?_)
        | refine CondE.splitN (fun h => ?_) (fun h => ?_)
        | refine CondE.split (fun h => ?_) (fun h => ?_)
        | refine WeakK.id ?_
        | refine RoundK.next (by omega) ?_ ?_
        | exact trivial
        | simp only [*, go_sem, Nat.reduceAdd, Nat.reduceSub, Nat.reduceMul, Nat.reducePow, Nat.reduceEqDiff, Nat.reduceLT, Nat.reduceLeDiff, Nat.reduceBEq, Nat.reduceBNe, Int.reduceToNat, Int.reduceLT, Int.reduceLE, Int.reduceEq, Int.reduceBNe, Int.reduceBEq, Int.reduceAdd, Int.reduceSub, Int.reduceMul, Int.reduceNeg, ↓reduceIte, hm, hm2, List.length_map])
    all_goals first
      | omega
      | (refine RoundK.step () hi (e0 ?_) ?_
         · clear e0 e1; cases x; cases y; simp_all; done
         · simp only [go_sem, Nat.reduceAdd, Nat.reduceSub, Nat.reduceMul, Nat.reducePow, Nat.reduceEqDiff, Nat.reduceLT, Nat.reduceLeDiff, Nat.reduceBEq, Nat.reduceBNe, Int.reduceToNat, Int.reduceLT, Int.reduceLE, Int.reduceEq, Int.reduceBNe, Int.reduceBEq, Int.reduceAdd, Int.reduceSub, Int.reduceMul, Int.reduceNeg, ↓reduceIte])
      | (rw [e1 ?_]; clear e0 e1; cases x; cases y; simp_all; done)
  · intro _ hdx hI
    have e : decide (xs = ys) = true := decide_eq_true (ext_list hlen hI)
    simp only [go_sem, Nat.reduceAdd, Nat.reduceSub, Nat.reduceMul, Nat.reducePow, Nat.reduceEqDiff, Nat.reduceLT, Nat.reduceLeDiff, Nat.reduceBEq, Nat.reduceBNe, Int.reduceToNat, Int.reduceLT, Int.reduceLE, Int.reduceEq, Int.reduceBNe, Int.reduceBEq, Int.reduceAdd, Int.reduceSub, Int.reduceMul, Int.reduceNeg, ↓reduceIte, List.length_map, hdx, e]
set_option maxRecDepth 8000 in
theorem keepTrades_spec (xs ys : List TradeV) (hl : xs.length < 4611686018427387904) : Abs.Spec Tryz.prog 87 [] [.sl 7 (xs.map TradeV.cells), .sl 7 (ys.map TradeV.cells)] [] (.bool (decide (xs = ys))) := by
  refine Abs.Spec.go (n := 74) (np := 2) (rs := [.tmp 4]) mixed Tryz.func87 rfl rfl rfl rfl rfl (by simp) (by simp) ?_
  simp only [go_sem, Nat.reduceAdd, Nat.reduceSub, Nat.reduceMul, Nat.reducePow, Nat.reduceEqDiff, Nat.reduceLT, Nat.reduceLeDiff, Nat.reduceBEq, Nat.reduceBNe, Int.reduceToNat, Int.reduceLT, Int.reduceLE, Int.reduceEq, Int.reduceBNe, Int.reduceBEq, Int.reduceAdd, Int.reduceSub, Int.reduceMul, Int.reduceNeg, ↓reduceIte, List.length_map]
  by_cases hlen : xs.length = ys.length
  case neg =>
    have b : ((xs.length : Int) == (ys.length : Int)) = false := by rw [beq_eq_false_iff_ne]; omega
    have e : decide (xs = ys) = false := decide_eq_false fun h => hlen (by rw [h])
    simp only [go_sem, Nat.reduceAdd, Nat.reduceSub, Nat.reduceMul, Nat.reducePow, Nat.reduceEqDiff, Nat.reduceLT, Nat.reduceLeDiff, Nat.reduceBEq, Nat.reduceBNe, Int.reduceToNat, Int.reduceLT, Int.reduceLE, Int.reduceEq, Int.reduceBNe, Int.reduceBEq, Int.reduceAdd, Int.reduceSub, Int.reduceMul, Int.reduceNeg, ↓reduceIte, bne, b, e]
  have b : ((xs.length : Int) == (ys.length : Int)) = true := by rw [beq_iff_eq]; omega
  simp only [go_sem, Nat.reduceAdd, Nat.reduceSub, Nat.reduceMul, Nat.reducePow, Nat.reduceEqDiff, Nat.reduceLT, Nat.reduceLeDiff, Nat.reduceBEq, Nat.reduceBNe, Int.reduceToNat, Int.reduceLT, Int.reduceLE, Int.reduceEq, Int.reduceBNe, Int.reduceBEq, Int.reduceAdd, Int.reduceSub, Int.reduceMul, Int.reduceNeg, ↓reduceIte, bne, b, List.length_map]
  refine LoopK.walk (S := Unit) xs.length [0, 1] [] (fun i _ => [(5, .int .i64 i)]) (fun i _ => []) (fun i _ => ∀ j (h1 : j < xs.length) (h2 : j < ys.length), j < i → xs[j] = ys[j]) () (by simp only [go_sem, Nat.reduceAdd, Nat.reduceSub, Nat.reduceMul, Nat.reducePow, Nat.reduceEqDiff, Nat.reduceLT, Nat.reduceLeDiff, Nat.reduceBEq, Nat.reduceBNe, Int.reduceToNat, Int.reduceLT, Int.reduceLE, Int.reduceEq, Int.reduceBNe, Int.reduceBEq, Int.reduceAdd, Int.reduceSub, Int.reduceMul, Int.reduceNeg, ↓reduceIte] <;> exact rfl) (by simp only [go_sem, Nat.reduceAdd, Nat.reduceSub, Nat.reduceMul, Nat.reducePow, Nat.reduceEqDiff, Nat.reduceLT, Nat.reduceLeDiff, Nat.reduceBEq, Nat.reduceBNe, Int.reduceToNat, Int.reduceLT, Int.reduceLE, Int.reduceEq, Int.reduceBNe, Int.reduceBEq, Int.reduceAdd, Int.reduceSub, Int.reduceMul, Int.reduceNeg, ↓reduceIte] <;> exact rfl) (by intros; omega) ?_ ?_ ?_
  · simp only [go_sem, Nat.reduceAdd, Nat.reduceSub, Nat.reduceMul, Nat.reducePow, Nat.reduceEqDiff, Nat.reduceLT, Nat.reduceLeDiff, Nat.reduceBEq, Nat.reduceBNe, Int.reduceToNat, Int.reduceLT, Int.reduceLE, Int.reduceEq, Int.reduceBNe, Int.reduceBEq, Int.reduceAdd, Int.reduceSub, Int.reduceMul, Int.reduceNeg, ↓reduceIte] <;> simp
  · intro i _ hi hdi hw hI
    have hi2 : i < ys.length := by omega
    have hm := map_at (c := TradeV.cells) xs hi
    have hm2 := map_at (c := TradeV.cells) ys hi2
    have e0 := eq_next hI hi hi2
    have e1 : xs[i] ≠ ys[i] → decide (xs = ys) = false := fun h => decide_eq_false fun e => h (by subst e; rfl)
    have hl1 : (i : Int) < (xs.length : Int) := by omega
    have hl2 : (i : Int) < (ys.length : Int) := by omega
    obtain ⟨x, hx⟩ : ∃ x, x = xs[i] := ⟨_, rfl⟩
    obtain ⟨y, hy⟩ : ∃ y, y = ys[i] := ⟨_, rfl⟩
    rw [← hx] at hm e0 e1
    rw [← hy] at hm2 e0 e1
    simp only [TradeV.cells] at *
    clear hx hy hI hlen
    simp only [go_sem, Nat.reduceAdd, Nat.reduceSub, Nat.reduceMul, Nat.reducePow, Nat.reduceEqDiff, Nat.reduceLT, Nat.reduceLeDiff, Nat.reduceBEq, Nat.reduceBNe, Int.reduceToNat, Int.reduceLT, Int.reduceLE, Int.reduceEq, Int.reduceBNe, Int.reduceBEq, Int.reduceAdd, Int.reduceSub, Int.reduceMul, Int.reduceNeg, ↓reduceIte, List.length_map, hdi, hm, hm2]
    repeat' (with_reducible first
        | refine And.intro ?_ ?_
        | exact DrawN.mk (by kernel_rfl)
        | exact OkN.mk (by kernel_rfl)
        | refine CallN.pure (by assumption) ?_
        | refine GuardK.splitDN (fun h => ?_) (fun h => ?_)
        | refine GuardK.splitD (fun h => ?_) (fun h => ?_)
        | refine CondE.splitDN (fun h => ?_) (fun h => ?_)
        | refine CondE.splitD (fun h => ?_) (fun h => ?_)
        | refine GuardK.splitN (fun h => ?_) (fun h => ?_)
        | refine GuardK.split (fun h => ?_) (fun h => ?_)
        | refine CondE.splitN (fun h => ?_) (fun h => ?_)
        | refine CondE.split (fun h => ?_) (fun h => ?_)
        | refine WeakK.id ?_
        | refine RoundK.next (by omega) ?_ ?_
        | exact trivial
        | simp only [*, go_sem, Nat.reduceAdd, Nat.reduceSub, Nat.reduceMul, Nat.reducePow, Nat.reduceEqDiff, Nat.reduceLT, Nat.reduceLeDiff, Nat.reduceBEq, Nat.reduceBNe, Int.reduceToNat, Int.reduceLT, Int.reduceLE, Int.reduceEq, Int.reduceBNe, Int.reduceBEq, Int.reduceAdd, Int.reduceSub, Int.reduceMul, Int.reduceNeg, ↓reduceIte, hm, hm2, List.length_map])
    all_goals first
      | omega
      | (refine RoundK.step () hi (e0 ?_) ?_
         · clear e0 e1; cases x; cases y; simp_all; done
         · simp only [go_sem, Nat.reduceAdd, Nat.reduceSub, Nat.reduceMul, Nat.reducePow, Nat.reduceEqDiff, Nat.reduceLT, Nat.reduceLeDiff, Nat.reduceBEq, Nat.reduceBNe, Int.reduceToNat, Int.reduceLT, Int.reduceLE, Int.reduceEq, Int.reduceBNe, Int.reduceBEq, Int.reduceAdd, Int.reduceSub, Int.reduceMul, Int.reduceNeg, ↓reduceIte])
      | (rw [e1 ?_]; clear e0 e1; cases x; cases y; simp_all; done)
  · intro _ hdx hI
    have e : decide (xs = ys) = true := decide_eq_true (ext_list hlen hI)
    simp only [go_sem, Nat.reduceAdd, Nat.reduceSub, Nat.reduceMul, Nat.reducePow, Nat.reduceEqDiff, Nat.reduceLT, Nat.reduceLeDiff, Nat.reduceBEq, Nat.reduceBNe, Int.reduceToNat, Int.reduceLT, Int.reduceLE, Int.reduceEq, Int.reduceBNe, Int.reduceBEq, Int.reduceAdd, Int.reduceSub, Int.reduceMul, Int.reduceNeg, ↓reduceIte, List.length_map, hdx, e]
set_option maxRecDepth 8000 in
theorem keepPoss_spec (xs ys : List PosV) (hl : xs.length < 4611686018427387904) : Abs.Spec Tryz.prog 88 [] [.sl 4 (xs.map PosV.cells), .sl 4 (ys.map PosV.cells)] [] (.bool (decide (xs = ys))) := by
  refine Abs.Spec.go (n := 27) (np := 2) (rs := [.tmp 4]) mixed Tryz.func88 rfl rfl rfl rfl rfl (by simp) (by simp) ?_
  simp only [go_sem, Nat.reduceAdd, Nat.reduceSub, Nat.reduceMul, Nat.reducePow, Nat.reduceEqDiff, Nat.reduceLT, Nat.reduceLeDiff, Nat.reduceBEq, Nat.reduceBNe, Int.reduceToNat, Int.reduceLT, Int.reduceLE, Int.reduceEq, Int.reduceBNe, Int.reduceBEq, Int.reduceAdd, Int.reduceSub, Int.reduceMul, Int.reduceNeg, ↓reduceIte, List.length_map]
  by_cases hlen : xs.length = ys.length
  case neg =>
    have b : ((xs.length : Int) == (ys.length : Int)) = false := by rw [beq_eq_false_iff_ne]; omega
    have e : decide (xs = ys) = false := decide_eq_false fun h => hlen (by rw [h])
    simp only [go_sem, Nat.reduceAdd, Nat.reduceSub, Nat.reduceMul, Nat.reducePow, Nat.reduceEqDiff, Nat.reduceLT, Nat.reduceLeDiff, Nat.reduceBEq, Nat.reduceBNe, Int.reduceToNat, Int.reduceLT, Int.reduceLE, Int.reduceEq, Int.reduceBNe, Int.reduceBEq, Int.reduceAdd, Int.reduceSub, Int.reduceMul, Int.reduceNeg, ↓reduceIte, bne, b, e]
  have b : ((xs.length : Int) == (ys.length : Int)) = true := by rw [beq_iff_eq]; omega
  simp only [go_sem, Nat.reduceAdd, Nat.reduceSub, Nat.reduceMul, Nat.reducePow, Nat.reduceEqDiff, Nat.reduceLT, Nat.reduceLeDiff, Nat.reduceBEq, Nat.reduceBNe, Int.reduceToNat, Int.reduceLT, Int.reduceLE, Int.reduceEq, Int.reduceBNe, Int.reduceBEq, Int.reduceAdd, Int.reduceSub, Int.reduceMul, Int.reduceNeg, ↓reduceIte, bne, b, List.length_map]
  refine LoopK.walk (S := Unit) xs.length [0, 1] [] (fun i _ => [(5, .int .i64 i)]) (fun i _ => []) (fun i _ => ∀ j (h1 : j < xs.length) (h2 : j < ys.length), j < i → xs[j] = ys[j]) () (by simp only [go_sem, Nat.reduceAdd, Nat.reduceSub, Nat.reduceMul, Nat.reducePow, Nat.reduceEqDiff, Nat.reduceLT, Nat.reduceLeDiff, Nat.reduceBEq, Nat.reduceBNe, Int.reduceToNat, Int.reduceLT, Int.reduceLE, Int.reduceEq, Int.reduceBNe, Int.reduceBEq, Int.reduceAdd, Int.reduceSub, Int.reduceMul, Int.reduceNeg, ↓reduceIte] <;> exact rfl) (by simp only [go_sem, Nat.reduceAdd, Nat.reduceSub, Nat.reduceMul, Nat.reducePow, Nat.reduceEqDiff, Nat.reduceLT, Nat.reduceLeDiff, Nat.reduceBEq, Nat.reduceBNe, Int.reduceToNat, Int.reduceLT, Int.reduceLE, Int.reduceEq, Int.reduceBNe, Int.reduceBEq, Int.reduceAdd, Int.reduceSub, Int.reduceMul, Int.reduceNeg, ↓reduceIte] <;> exact rfl) (by intros; omega) ?_ ?_ ?_
  · simp only [go_sem, Nat.reduceAdd, Nat.reduceSub, Nat.reduceMul, Nat.reducePow, Nat.reduceEqDiff, Nat.reduceLT, Nat.reduceLeDiff, Nat.reduceBEq, Nat.reduceBNe, Int.reduceToNat, Int.reduceLT, Int.reduceLE, Int.reduceEq, Int.reduceBNe, Int.reduceBEq, Int.reduceAdd, Int.reduceSub, Int.reduceMul, Int.reduceNeg, ↓reduceIte] <;> simp
  · intro i _ hi hdi hw hI
    have hi2 : i < ys.length := by omega
    have hm := map_at (c := PosV.cells) xs hi
    have hm2 := map_at (c := PosV.cells) ys hi2
    have e0 := eq_next hI hi hi2
    have e1 : xs[i] ≠ ys[i] → decide (xs = ys) = false := fun h => decide_eq_false fun e => h (by subst e; rfl)
    have hl1 : (i : Int) < (xs.length : Int) := by omega
    have hl2 : (i : Int) < (ys.length : Int) := by omega
    obtain ⟨x, hx⟩ : ∃ x, x = xs[i] := ⟨_, rfl⟩
    obtain ⟨y, hy⟩ : ∃ y, y = ys[i] := ⟨_, rfl⟩
    rw [← hx] at hm e0 e1
    rw [← hy] at hm2 e0 e1
    have hc := keepPos_spec x y
    simp only [PosV.cells] at *
    clear hx hy hI hlen
    simp only [go_sem, Nat.reduceAdd, Nat.reduceSub, Nat.reduceMul, Nat.reducePow, Nat.reduceEqDiff, Nat.reduceLT, Nat.reduceLeDiff, Nat.reduceBEq, Nat.reduceBNe, Int.reduceToNat, Int.reduceLT, Int.reduceLE, Int.reduceEq, Int.reduceBNe, Int.reduceBEq, Int.reduceAdd, Int.reduceSub, Int.reduceMul, Int.reduceNeg, ↓reduceIte, List.length_map, hdi, hm, hm2]
    repeat' (with_reducible first
        | refine And.intro ?_ ?_
        | exact DrawN.mk (by kernel_rfl)
        | exact OkN.mk (by kernel_rfl)
        | refine CallN.pure (by assumption) ?_
        | refine CallN.pure (hc) ?_
        | refine GuardK.splitDN (fun h => ?_) (fun h => ?_)
        | refine GuardK.splitD (fun h => ?_) (fun h => ?_)
        | refine CondE.splitDN (fun h => ?_) (fun h => ?_)
        | refine CondE.splitD (fun h => ?_) (fun h => ?_)
        | refine GuardK.splitN (fun h => ?_) (fun h => ?_)
        | refine GuardK.split (fun h => ?_) (fun h => ?_)
        | refine CondE.splitN (fun h => ?_) (fun h => ?_)
        | refine CondE.split (fun h => ?_) (fun h => ?_)
        | refine WeakK.id ?_
        | refine RoundK.next (by omega) ?_ ?_
        | exact trivial
        | simp only [*, go_sem, Nat.reduceAdd, Nat.reduceSub, Nat.reduceMul, Nat.reducePow, Nat.reduceEqDiff, Nat.reduceLT, Nat.reduceLeDiff, Nat.reduceBEq, Nat.reduceBNe, Int.reduceToNat, Int.reduceLT, Int.reduceLE, Int.reduceEq, Int.reduceBNe, Int.reduceBEq, Int.reduceAdd, Int.reduceSub, Int.reduceMul, Int.reduceNeg, ↓reduceIte, hm, hm2, List.length_map])
    all_goals first
      | omega
      | (refine RoundK.step () hi (e0 ?_) ?_
         · clear e0 e1; cases x; cases y; simp_all; done
         · simp only [go_sem, Nat.reduceAdd, Nat.reduceSub, Nat.reduceMul, Nat.reducePow, Nat.reduceEqDiff, Nat.reduceLT, Nat.reduceLeDiff, Nat.reduceBEq, Nat.reduceBNe, Int.reduceToNat, Int.reduceLT, Int.reduceLE, Int.reduceEq, Int.reduceBNe, Int.reduceBEq, Int.reduceAdd, Int.reduceSub, Int.reduceMul, Int.reduceNeg, ↓reduceIte])
      | (rw [e1 ?_]; clear e0 e1; cases x; cases y; simp_all; done)
  · intro _ hdx hI
    have e : decide (xs = ys) = true := decide_eq_true (ext_list hlen hI)
    simp only [go_sem, Nat.reduceAdd, Nat.reduceSub, Nat.reduceMul, Nat.reducePow, Nat.reduceEqDiff, Nat.reduceLT, Nat.reduceLeDiff, Nat.reduceBEq, Nat.reduceBNe, Int.reduceToNat, Int.reduceLT, Int.reduceLE, Int.reduceEq, Int.reduceBNe, Int.reduceBEq, Int.reduceAdd, Int.reduceSub, Int.reduceMul, Int.reduceNeg, ↓reduceIte, List.length_map, hdx, e]
set_option maxRecDepth 8000 in
theorem keepCalls_spec (xs ys : List CallV) (hl : xs.length < 4611686018427387904) : Abs.Spec Tryz.prog 58 [] [.sl 4 (xs.map CallV.cells), .sl 4 (ys.map CallV.cells)] [] (.bool (decide (xs = ys))) := by
  refine Abs.Spec.go (n := 42) (np := 2) (rs := [.tmp 4]) mixed Tryz.func58 rfl rfl rfl rfl rfl (by simp) (by simp) ?_
  simp only [go_sem, Nat.reduceAdd, Nat.reduceSub, Nat.reduceMul, Nat.reducePow, Nat.reduceEqDiff, Nat.reduceLT, Nat.reduceLeDiff, Nat.reduceBEq, Nat.reduceBNe, Int.reduceToNat, Int.reduceLT, Int.reduceLE, Int.reduceEq, Int.reduceBNe, Int.reduceBEq, Int.reduceAdd, Int.reduceSub, Int.reduceMul, Int.reduceNeg, ↓reduceIte, List.length_map]
  by_cases hlen : xs.length = ys.length
  case neg =>
    have b : ((xs.length : Int) == (ys.length : Int)) = false := by rw [beq_eq_false_iff_ne]; omega
    have e : decide (xs = ys) = false := decide_eq_false fun h => hlen (by rw [h])
    simp only [go_sem, Nat.reduceAdd, Nat.reduceSub, Nat.reduceMul, Nat.reducePow, Nat.reduceEqDiff, Nat.reduceLT, Nat.reduceLeDiff, Nat.reduceBEq, Nat.reduceBNe, Int.reduceToNat, Int.reduceLT, Int.reduceLE, Int.reduceEq, Int.reduceBNe, Int.reduceBEq, Int.reduceAdd, Int.reduceSub, Int.reduceMul, Int.reduceNeg, ↓reduceIte, bne, b, e]
  have b : ((xs.length : Int) == (ys.length : Int)) = true := by rw [beq_iff_eq]; omega
  simp only [go_sem, Nat.reduceAdd, Nat.reduceSub, Nat.reduceMul, Nat.reducePow, Nat.reduceEqDiff, Nat.reduceLT, Nat.reduceLeDiff, Nat.reduceBEq, Nat.reduceBNe, Int.reduceToNat, Int.reduceLT, Int.reduceLE, Int.reduceEq, Int.reduceBNe, Int.reduceBEq, Int.reduceAdd, Int.reduceSub, Int.reduceMul, Int.reduceNeg, ↓reduceIte, bne, b, List.length_map]
  refine LoopK.walk (S := Unit) xs.length [0, 1] [] (fun i _ => [(5, .int .i64 i)]) (fun i _ => []) (fun i _ => ∀ j (h1 : j < xs.length) (h2 : j < ys.length), j < i → xs[j] = ys[j]) () (by simp only [go_sem, Nat.reduceAdd, Nat.reduceSub, Nat.reduceMul, Nat.reducePow, Nat.reduceEqDiff, Nat.reduceLT, Nat.reduceLeDiff, Nat.reduceBEq, Nat.reduceBNe, Int.reduceToNat, Int.reduceLT, Int.reduceLE, Int.reduceEq, Int.reduceBNe, Int.reduceBEq, Int.reduceAdd, Int.reduceSub, Int.reduceMul, Int.reduceNeg, ↓reduceIte] <;> exact rfl) (by simp only [go_sem, Nat.reduceAdd, Nat.reduceSub, Nat.reduceMul, Nat.reducePow, Nat.reduceEqDiff, Nat.reduceLT, Nat.reduceLeDiff, Nat.reduceBEq, Nat.reduceBNe, Int.reduceToNat, Int.reduceLT, Int.reduceLE, Int.reduceEq, Int.reduceBNe, Int.reduceBEq, Int.reduceAdd, Int.reduceSub, Int.reduceMul, Int.reduceNeg, ↓reduceIte] <;> exact rfl) (by intros; omega) ?_ ?_ ?_
  · simp only [go_sem, Nat.reduceAdd, Nat.reduceSub, Nat.reduceMul, Nat.reducePow, Nat.reduceEqDiff, Nat.reduceLT, Nat.reduceLeDiff, Nat.reduceBEq, Nat.reduceBNe, Int.reduceToNat, Int.reduceLT, Int.reduceLE, Int.reduceEq, Int.reduceBNe, Int.reduceBEq, Int.reduceAdd, Int.reduceSub, Int.reduceMul, Int.reduceNeg, ↓reduceIte] <;> simp
  · intro i _ hi hdi hw hI
    have hi2 : i < ys.length := by omega
    have hm := map_at (c := CallV.cells) xs hi
    have hm2 := map_at (c := CallV.cells) ys hi2
    have e0 := eq_next hI hi hi2
    have e1 : xs[i] ≠ ys[i] → decide (xs = ys) = false := fun h => decide_eq_false fun e => h (by subst e; rfl)
    have hl1 : (i : Int) < (xs.length : Int) := by omega
    have hl2 : (i : Int) < (ys.length : Int) := by omega
    obtain ⟨x, hx⟩ : ∃ x, x = xs[i] := ⟨_, rfl⟩
    obtain ⟨y, hy⟩ : ∃ y, y = ys[i] := ⟨_, rfl⟩
    rw [← hx] at hm e0 e1
    rw [← hy] at hm2 e0 e1
    have hc := keepDue_spec ⟨x.who, x.cur, x.amt⟩ ⟨y.who, y.cur, y.amt⟩
    simp only [DueV.cells] at hc
    simp only [CallV.cells] at *
    clear hx hy hI hlen
    simp only [go_sem, Nat.reduceAdd, Nat.reduceSub, Nat.reduceMul, Nat.reducePow, Nat.reduceEqDiff, Nat.reduceLT, Nat.reduceLeDiff, Nat.reduceBEq, Nat.reduceBNe, Int.reduceToNat, Int.reduceLT, Int.reduceLE, Int.reduceEq, Int.reduceBNe, Int.reduceBEq, Int.reduceAdd, Int.reduceSub, Int.reduceMul, Int.reduceNeg, ↓reduceIte, List.length_map, hdi, hm, hm2]
    repeat' (with_reducible first
        | refine And.intro ?_ ?_
        | exact DrawN.mk (by kernel_rfl)
        | exact OkN.mk (by kernel_rfl)
        | refine CallN.pure (by assumption) ?_
        | refine CallN.pure (hc) ?_
        | refine GuardK.splitDN (fun h => ?_) (fun h => ?_)
        | refine GuardK.splitD (fun h => ?_) (fun h => ?_)
        | refine CondE.splitDN (fun h => ?_) (fun h => ?_)
        | refine CondE.splitD (fun h => ?_) (fun h => ?_)
        | refine GuardK.splitN (fun h => ?_) (fun h => ?_)
        | refine GuardK.split (fun h => ?_) (fun h => ?_)
        | refine CondE.splitN (fun h => ?_) (fun h => ?_)
        | refine CondE.split (fun h => ?_) (fun h => ?_)
        | refine WeakK.id ?_
        | refine RoundK.next (by omega) ?_ ?_
        | exact trivial
        | simp only [*, go_sem, Nat.reduceAdd, Nat.reduceSub, Nat.reduceMul, Nat.reducePow, Nat.reduceEqDiff, Nat.reduceLT, Nat.reduceLeDiff, Nat.reduceBEq, Nat.reduceBNe, Int.reduceToNat, Int.reduceLT, Int.reduceLE, Int.reduceEq, Int.reduceBNe, Int.reduceBEq, Int.reduceAdd, Int.reduceSub, Int.reduceMul, Int.reduceNeg, ↓reduceIte, hm, hm2, List.length_map])
    all_goals first
      | omega
      | (refine RoundK.step () hi (e0 ?_) ?_
         · clear e0 e1; cases x; cases y; simp_all; done
         · simp only [go_sem, Nat.reduceAdd, Nat.reduceSub, Nat.reduceMul, Nat.reducePow, Nat.reduceEqDiff, Nat.reduceLT, Nat.reduceLeDiff, Nat.reduceBEq, Nat.reduceBNe, Int.reduceToNat, Int.reduceLT, Int.reduceLE, Int.reduceEq, Int.reduceBNe, Int.reduceBEq, Int.reduceAdd, Int.reduceSub, Int.reduceMul, Int.reduceNeg, ↓reduceIte])
      | (rw [e1 ?_]; clear e0 e1; cases x; cases y; simp_all; done)
  · intro _ hdx hI
    have e : decide (xs = ys) = true := decide_eq_true (ext_list hlen hI)
    simp only [go_sem, Nat.reduceAdd, Nat.reduceSub, Nat.reduceMul, Nat.reducePow, Nat.reduceEqDiff, Nat.reduceLT, Nat.reduceLeDiff, Nat.reduceBEq, Nat.reduceBNe, Int.reduceToNat, Int.reduceLT, Int.reduceLE, Int.reduceEq, Int.reduceBNe, Int.reduceBEq, Int.reduceAdd, Int.reduceSub, Int.reduceMul, Int.reduceNeg, ↓reduceIte, List.length_map, hdx, e]
set_option maxRecDepth 8000 in
theorem keepBids_spec (xs ys : List BidV) (hl : xs.length < 4611686018427387904) : Abs.Spec Tryz.prog 59 [] [.sl 5 (xs.map BidV.cells), .sl 5 (ys.map BidV.cells)] [] (.bool (decide (xs = ys))) := by
  refine Abs.Spec.go (n := 68) (np := 2) (rs := [.tmp 4]) mixed Tryz.func59 rfl rfl rfl rfl rfl (by simp) (by simp) ?_
  simp only [go_sem, Nat.reduceAdd, Nat.reduceSub, Nat.reduceMul, Nat.reducePow, Nat.reduceEqDiff, Nat.reduceLT, Nat.reduceLeDiff, Nat.reduceBEq, Nat.reduceBNe, Int.reduceToNat, Int.reduceLT, Int.reduceLE, Int.reduceEq, Int.reduceBNe, Int.reduceBEq, Int.reduceAdd, Int.reduceSub, Int.reduceMul, Int.reduceNeg, ↓reduceIte, List.length_map]
  by_cases hlen : xs.length = ys.length
  case neg =>
    have b : ((xs.length : Int) == (ys.length : Int)) = false := by rw [beq_eq_false_iff_ne]; omega
    have e : decide (xs = ys) = false := decide_eq_false fun h => hlen (by rw [h])
    simp only [go_sem, Nat.reduceAdd, Nat.reduceSub, Nat.reduceMul, Nat.reducePow, Nat.reduceEqDiff, Nat.reduceLT, Nat.reduceLeDiff, Nat.reduceBEq, Nat.reduceBNe, Int.reduceToNat, Int.reduceLT, Int.reduceLE, Int.reduceEq, Int.reduceBNe, Int.reduceBEq, Int.reduceAdd, Int.reduceSub, Int.reduceMul, Int.reduceNeg, ↓reduceIte, bne, b, e]
  have b : ((xs.length : Int) == (ys.length : Int)) = true := by rw [beq_iff_eq]; omega
  simp only [go_sem, Nat.reduceAdd, Nat.reduceSub, Nat.reduceMul, Nat.reducePow, Nat.reduceEqDiff, Nat.reduceLT, Nat.reduceLeDiff, Nat.reduceBEq, Nat.reduceBNe, Int.reduceToNat, Int.reduceLT, Int.reduceLE, Int.reduceEq, Int.reduceBNe, Int.reduceBEq, Int.reduceAdd, Int.reduceSub, Int.reduceMul, Int.reduceNeg, ↓reduceIte, bne, b, List.length_map]
  refine LoopK.walk (S := Unit) xs.length [0, 1] [] (fun i _ => [(5, .int .i64 i)]) (fun i _ => []) (fun i _ => ∀ j (h1 : j < xs.length) (h2 : j < ys.length), j < i → xs[j] = ys[j]) () (by simp only [go_sem, Nat.reduceAdd, Nat.reduceSub, Nat.reduceMul, Nat.reducePow, Nat.reduceEqDiff, Nat.reduceLT, Nat.reduceLeDiff, Nat.reduceBEq, Nat.reduceBNe, Int.reduceToNat, Int.reduceLT, Int.reduceLE, Int.reduceEq, Int.reduceBNe, Int.reduceBEq, Int.reduceAdd, Int.reduceSub, Int.reduceMul, Int.reduceNeg, ↓reduceIte] <;> exact rfl) (by simp only [go_sem, Nat.reduceAdd, Nat.reduceSub, Nat.reduceMul, Nat.reducePow, Nat.reduceEqDiff, Nat.reduceLT, Nat.reduceLeDiff, Nat.reduceBEq, Nat.reduceBNe, Int.reduceToNat, Int.reduceLT, Int.reduceLE, Int.reduceEq, Int.reduceBNe, Int.reduceBEq, Int.reduceAdd, Int.reduceSub, Int.reduceMul, Int.reduceNeg, ↓reduceIte] <;> exact rfl) (by intros; omega) ?_ ?_ ?_
  · simp only [go_sem, Nat.reduceAdd, Nat.reduceSub, Nat.reduceMul, Nat.reducePow, Nat.reduceEqDiff, Nat.reduceLT, Nat.reduceLeDiff, Nat.reduceBEq, Nat.reduceBNe, Int.reduceToNat, Int.reduceLT, Int.reduceLE, Int.reduceEq, Int.reduceBNe, Int.reduceBEq, Int.reduceAdd, Int.reduceSub, Int.reduceMul, Int.reduceNeg, ↓reduceIte] <;> simp
  · intro i _ hi hdi hw hI
    have hi2 : i < ys.length := by omega
    have hm := map_at (c := BidV.cells) xs hi
    have hm2 := map_at (c := BidV.cells) ys hi2
    have e0 := eq_next hI hi hi2
    have e1 : xs[i] ≠ ys[i] → decide (xs = ys) = false := fun h => decide_eq_false fun e => h (by subst e; rfl)
    have hl1 : (i : Int) < (xs.length : Int) := by omega
    have hl2 : (i : Int) < (ys.length : Int) := by omega
    obtain ⟨x, hx⟩ : ∃ x, x = xs[i] := ⟨_, rfl⟩
    obtain ⟨y, hy⟩ : ∃ y, y = ys[i] := ⟨_, rfl⟩
    rw [← hx] at hm e0 e1
    rw [← hy] at hm2 e0 e1
    have hc := keepKey_spec x.who x.inst y.who y.inst
    simp only [BidV.cells] at *
    clear hx hy hI hlen
    simp only [go_sem, Nat.reduceAdd, Nat.reduceSub, Nat.reduceMul, Nat.reducePow, Nat.reduceEqDiff, Nat.reduceLT, Nat.reduceLeDiff, Nat.reduceBEq, Nat.reduceBNe, Int.reduceToNat, Int.reduceLT, Int.reduceLE, Int.reduceEq, Int.reduceBNe, Int.reduceBEq, Int.reduceAdd, Int.reduceSub, Int.reduceMul, Int.reduceNeg, ↓reduceIte, List.length_map, hdi, hm, hm2]
    repeat' (with_reducible first
        | refine And.intro ?_ ?_
        | exact DrawN.mk (by kernel_rfl)
        | exact OkN.mk (by kernel_rfl)
        | refine CallN.pure (by assumption) ?_
        | refine CallN.pure (hc) ?_
        | refine GuardK.splitDN (fun h => ?_) (fun h => ?_)
        | refine GuardK.splitD (fun h => ?_) (fun h => ?_)
        | refine CondE.splitDN (fun h => ?_) (fun h => ?_)
        | refine CondE.splitD (fun h => ?_) (fun h => ?_)
        | refine GuardK.splitN (fun h => ?_) (fun h => ?_)
        | refine GuardK.split (fun h => ?_) (fun h => ?_)
        | refine CondE.splitN (fun h => ?_) (fun h => ?_)
        | refine CondE.split (fun h => ?_) (fun h => ?_)
        | refine WeakK.id ?_
        | refine RoundK.next (by omega) ?_ ?_
        | exact trivial
        | simp only [*, go_sem, Nat.reduceAdd, Nat.reduceSub, Nat.reduceMul, Nat.reducePow, Nat.reduceEqDiff, Nat.reduceLT, Nat.reduceLeDiff, Nat.reduceBEq, Nat.reduceBNe, Int.reduceToNat, Int.reduceLT, Int.reduceLE, Int.reduceEq, Int.reduceBNe, Int.reduceBEq, Int.reduceAdd, Int.reduceSub, Int.reduceMul, Int.reduceNeg, ↓reduceIte, hm, hm2, List.length_map])
    all_goals first
      | omega
      | (refine RoundK.step () hi (e0 ?_) ?_
         · clear e0 e1; cases x; cases y; simp_all; done
         · simp only [go_sem, Nat.reduceAdd, Nat.reduceSub, Nat.reduceMul, Nat.reducePow, Nat.reduceEqDiff, Nat.reduceLT, Nat.reduceLeDiff, Nat.reduceBEq, Nat.reduceBNe, Int.reduceToNat, Int.reduceLT, Int.reduceLE, Int.reduceEq, Int.reduceBNe, Int.reduceBEq, Int.reduceAdd, Int.reduceSub, Int.reduceMul, Int.reduceNeg, ↓reduceIte])
      | (rw [e1 ?_]; clear e0 e1; cases x; cases y; simp_all; done)
  · intro _ hdx hI
    have e : decide (xs = ys) = true := decide_eq_true (ext_list hlen hI)
    simp only [go_sem, Nat.reduceAdd, Nat.reduceSub, Nat.reduceMul, Nat.reducePow, Nat.reduceEqDiff, Nat.reduceLT, Nat.reduceLeDiff, Nat.reduceBEq, Nat.reduceBNe, Int.reduceToNat, Int.reduceLT, Int.reduceLE, Int.reduceEq, Int.reduceBNe, Int.reduceBEq, Int.reduceAdd, Int.reduceSub, Int.reduceMul, Int.reduceNeg, ↓reduceIte, List.length_map, hdx, e]
set_option maxRecDepth 8000 in
theorem keepDues_spec (xs ys : List DueV) (hl : xs.length < 4611686018427387904) : Abs.Spec Tryz.prog 171 [] [.sl 3 (xs.map DueV.cells), .sl 3 (ys.map DueV.cells)] [] (.bool (decide (xs = ys))) := by
  refine Abs.Spec.go (n := 27) (np := 2) (rs := [.tmp 4]) mixed Tryz.func171 rfl rfl rfl rfl rfl (by simp) (by simp) ?_
  simp only [go_sem, Nat.reduceAdd, Nat.reduceSub, Nat.reduceMul, Nat.reducePow, Nat.reduceEqDiff, Nat.reduceLT, Nat.reduceLeDiff, Nat.reduceBEq, Nat.reduceBNe, Int.reduceToNat, Int.reduceLT, Int.reduceLE, Int.reduceEq, Int.reduceBNe, Int.reduceBEq, Int.reduceAdd, Int.reduceSub, Int.reduceMul, Int.reduceNeg, ↓reduceIte, List.length_map]
  by_cases hlen : xs.length = ys.length
  case neg =>
    have b : ((xs.length : Int) == (ys.length : Int)) = false := by rw [beq_eq_false_iff_ne]; omega
    have e : decide (xs = ys) = false := decide_eq_false fun h => hlen (by rw [h])
    simp only [go_sem, Nat.reduceAdd, Nat.reduceSub, Nat.reduceMul, Nat.reducePow, Nat.reduceEqDiff, Nat.reduceLT, Nat.reduceLeDiff, Nat.reduceBEq, Nat.reduceBNe, Int.reduceToNat, Int.reduceLT, Int.reduceLE, Int.reduceEq, Int.reduceBNe, Int.reduceBEq, Int.reduceAdd, Int.reduceSub, Int.reduceMul, Int.reduceNeg, ↓reduceIte, bne, b, e]
  have b : ((xs.length : Int) == (ys.length : Int)) = true := by rw [beq_iff_eq]; omega
  simp only [go_sem, Nat.reduceAdd, Nat.reduceSub, Nat.reduceMul, Nat.reducePow, Nat.reduceEqDiff, Nat.reduceLT, Nat.reduceLeDiff, Nat.reduceBEq, Nat.reduceBNe, Int.reduceToNat, Int.reduceLT, Int.reduceLE, Int.reduceEq, Int.reduceBNe, Int.reduceBEq, Int.reduceAdd, Int.reduceSub, Int.reduceMul, Int.reduceNeg, ↓reduceIte, bne, b, List.length_map]
  refine LoopK.walk (S := Unit) xs.length [0, 1] [] (fun i _ => [(5, .int .i64 i)]) (fun i _ => []) (fun i _ => ∀ j (h1 : j < xs.length) (h2 : j < ys.length), j < i → xs[j] = ys[j]) () (by simp only [go_sem, Nat.reduceAdd, Nat.reduceSub, Nat.reduceMul, Nat.reducePow, Nat.reduceEqDiff, Nat.reduceLT, Nat.reduceLeDiff, Nat.reduceBEq, Nat.reduceBNe, Int.reduceToNat, Int.reduceLT, Int.reduceLE, Int.reduceEq, Int.reduceBNe, Int.reduceBEq, Int.reduceAdd, Int.reduceSub, Int.reduceMul, Int.reduceNeg, ↓reduceIte] <;> exact rfl) (by simp only [go_sem, Nat.reduceAdd, Nat.reduceSub, Nat.reduceMul, Nat.reducePow, Nat.reduceEqDiff, Nat.reduceLT, Nat.reduceLeDiff, Nat.reduceBEq, Nat.reduceBNe, Int.reduceToNat, Int.reduceLT, Int.reduceLE, Int.reduceEq, Int.reduceBNe, Int.reduceBEq, Int.reduceAdd, Int.reduceSub, Int.reduceMul, Int.reduceNeg, ↓reduceIte] <;> exact rfl) (by intros; omega) ?_ ?_ ?_
  · simp only [go_sem, Nat.reduceAdd, Nat.reduceSub, Nat.reduceMul, Nat.reducePow, Nat.reduceEqDiff, Nat.reduceLT, Nat.reduceLeDiff, Nat.reduceBEq, Nat.reduceBNe, Int.reduceToNat, Int.reduceLT, Int.reduceLE, Int.reduceEq, Int.reduceBNe, Int.reduceBEq, Int.reduceAdd, Int.reduceSub, Int.reduceMul, Int.reduceNeg, ↓reduceIte] <;> simp
  · intro i _ hi hdi hw hI
    have hi2 : i < ys.length := by omega
    have hm := map_at (c := DueV.cells) xs hi
    have hm2 := map_at (c := DueV.cells) ys hi2
    have e0 := eq_next hI hi hi2
    have e1 : xs[i] ≠ ys[i] → decide (xs = ys) = false := fun h => decide_eq_false fun e => h (by subst e; rfl)
    have hl1 : (i : Int) < (xs.length : Int) := by omega
    have hl2 : (i : Int) < (ys.length : Int) := by omega
    obtain ⟨x, hx⟩ : ∃ x, x = xs[i] := ⟨_, rfl⟩
    obtain ⟨y, hy⟩ : ∃ y, y = ys[i] := ⟨_, rfl⟩
    rw [← hx] at hm e0 e1
    rw [← hy] at hm2 e0 e1
    have hc := keepDue_spec x y
    simp only [DueV.cells] at *
    clear hx hy hI hlen
    simp only [go_sem, Nat.reduceAdd, Nat.reduceSub, Nat.reduceMul, Nat.reducePow, Nat.reduceEqDiff, Nat.reduceLT, Nat.reduceLeDiff, Nat.reduceBEq, Nat.reduceBNe, Int.reduceToNat, Int.reduceLT, Int.reduceLE, Int.reduceEq, Int.reduceBNe, Int.reduceBEq, Int.reduceAdd, Int.reduceSub, Int.reduceMul, Int.reduceNeg, ↓reduceIte, List.length_map, hdi, hm, hm2]
    repeat' (with_reducible first
        | refine And.intro ?_ ?_
        | exact DrawN.mk (by kernel_rfl)
        | exact OkN.mk (by kernel_rfl)
        | refine CallN.pure (by assumption) ?_
        | refine CallN.pure (hc) ?_
        | refine GuardK.splitDN (fun h => ?_) (fun h => ?_)
        | refine GuardK.splitD (fun h => ?_) (fun h => ?_)
        | refine CondE.splitDN (fun h => ?_) (fun h => ?_)
        | refine CondE.splitD (fun h => ?_) (fun h => ?_)
        | refine GuardK.splitN (fun h => ?_) (fun h => ?_)
        | refine GuardK.split (fun h => ?_) (fun h => ?_)
        | refine CondE.splitN (fun h => ?_) (fun h => ?_)
        | refine CondE.split (fun h => ?_) (fun h => ?_)
        | refine WeakK.id ?_
        | refine RoundK.next (by omega) ?_ ?_
        | exact trivial
        | simp only [*, go_sem, Nat.reduceAdd, Nat.reduceSub, Nat.reduceMul, Nat.reducePow, Nat.reduceEqDiff, Nat.reduceLT, Nat.reduceLeDiff, Nat.reduceBEq, Nat.reduceBNe, Int.reduceToNat, Int.reduceLT, Int.reduceLE, Int.reduceEq, Int.reduceBNe, Int.reduceBEq, Int.reduceAdd, Int.reduceSub, Int.reduceMul, Int.reduceNeg, ↓reduceIte, hm, hm2, List.length_map])
    all_goals first
      | omega
      | (refine RoundK.step () hi (e0 ?_) ?_
         · clear e0 e1; cases x; cases y; simp_all; done
         · simp only [go_sem, Nat.reduceAdd, Nat.reduceSub, Nat.reduceMul, Nat.reducePow, Nat.reduceEqDiff, Nat.reduceLT, Nat.reduceLeDiff, Nat.reduceBEq, Nat.reduceBNe, Int.reduceToNat, Int.reduceLT, Int.reduceLE, Int.reduceEq, Int.reduceBNe, Int.reduceBEq, Int.reduceAdd, Int.reduceSub, Int.reduceMul, Int.reduceNeg, ↓reduceIte])
      | (rw [e1 ?_]; clear e0 e1; cases x; cases y; simp_all; done)
  · intro _ hdx hI
    have e : decide (xs = ys) = true := decide_eq_true (ext_list hlen hI)
    simp only [go_sem, Nat.reduceAdd, Nat.reduceSub, Nat.reduceMul, Nat.reducePow, Nat.reduceEqDiff, Nat.reduceLT, Nat.reduceLeDiff, Nat.reduceBEq, Nat.reduceBNe, Int.reduceToNat, Int.reduceLT, Int.reduceLE, Int.reduceEq, Int.reduceBNe, Int.reduceBEq, Int.reduceAdd, Int.reduceSub, Int.reduceMul, Int.reduceNeg, ↓reduceIte, List.length_map, hdx, e]
set_option maxRecDepth 8000 in
theorem keepFalls_spec (xs ys : List FallV) (hl : xs.length < 4611686018427387904) : Abs.Spec Tryz.prog 172 [] [.sl 8 (xs.map FallV.cells), .sl 8 (ys.map FallV.cells)] [] (.bool (decide (xs = ys))) := by
  refine Abs.Spec.go (n := 27) (np := 2) (rs := [.tmp 4]) mixed Tryz.func172 rfl rfl rfl rfl rfl (by simp) (by simp) ?_
  simp only [go_sem, Nat.reduceAdd, Nat.reduceSub, Nat.reduceMul, Nat.reducePow, Nat.reduceEqDiff, Nat.reduceLT, Nat.reduceLeDiff, Nat.reduceBEq, Nat.reduceBNe, Int.reduceToNat, Int.reduceLT, Int.reduceLE, Int.reduceEq, Int.reduceBNe, Int.reduceBEq, Int.reduceAdd, Int.reduceSub, Int.reduceMul, Int.reduceNeg, ↓reduceIte, List.length_map]
  by_cases hlen : xs.length = ys.length
  case neg =>
    have b : ((xs.length : Int) == (ys.length : Int)) = false := by rw [beq_eq_false_iff_ne]; omega
    have e : decide (xs = ys) = false := decide_eq_false fun h => hlen (by rw [h])
    simp only [go_sem, Nat.reduceAdd, Nat.reduceSub, Nat.reduceMul, Nat.reducePow, Nat.reduceEqDiff, Nat.reduceLT, Nat.reduceLeDiff, Nat.reduceBEq, Nat.reduceBNe, Int.reduceToNat, Int.reduceLT, Int.reduceLE, Int.reduceEq, Int.reduceBNe, Int.reduceBEq, Int.reduceAdd, Int.reduceSub, Int.reduceMul, Int.reduceNeg, ↓reduceIte, bne, b, e]
  have b : ((xs.length : Int) == (ys.length : Int)) = true := by rw [beq_iff_eq]; omega
  simp only [go_sem, Nat.reduceAdd, Nat.reduceSub, Nat.reduceMul, Nat.reducePow, Nat.reduceEqDiff, Nat.reduceLT, Nat.reduceLeDiff, Nat.reduceBEq, Nat.reduceBNe, Int.reduceToNat, Int.reduceLT, Int.reduceLE, Int.reduceEq, Int.reduceBNe, Int.reduceBEq, Int.reduceAdd, Int.reduceSub, Int.reduceMul, Int.reduceNeg, ↓reduceIte, bne, b, List.length_map]
  refine LoopK.walk (S := Unit) xs.length [0, 1] [] (fun i _ => [(5, .int .i64 i)]) (fun i _ => []) (fun i _ => ∀ j (h1 : j < xs.length) (h2 : j < ys.length), j < i → xs[j] = ys[j]) () (by simp only [go_sem, Nat.reduceAdd, Nat.reduceSub, Nat.reduceMul, Nat.reducePow, Nat.reduceEqDiff, Nat.reduceLT, Nat.reduceLeDiff, Nat.reduceBEq, Nat.reduceBNe, Int.reduceToNat, Int.reduceLT, Int.reduceLE, Int.reduceEq, Int.reduceBNe, Int.reduceBEq, Int.reduceAdd, Int.reduceSub, Int.reduceMul, Int.reduceNeg, ↓reduceIte] <;> exact rfl) (by simp only [go_sem, Nat.reduceAdd, Nat.reduceSub, Nat.reduceMul, Nat.reducePow, Nat.reduceEqDiff, Nat.reduceLT, Nat.reduceLeDiff, Nat.reduceBEq, Nat.reduceBNe, Int.reduceToNat, Int.reduceLT, Int.reduceLE, Int.reduceEq, Int.reduceBNe, Int.reduceBEq, Int.reduceAdd, Int.reduceSub, Int.reduceMul, Int.reduceNeg, ↓reduceIte] <;> exact rfl) (by intros; omega) ?_ ?_ ?_
  · simp only [go_sem, Nat.reduceAdd, Nat.reduceSub, Nat.reduceMul, Nat.reducePow, Nat.reduceEqDiff, Nat.reduceLT, Nat.reduceLeDiff, Nat.reduceBEq, Nat.reduceBNe, Int.reduceToNat, Int.reduceLT, Int.reduceLE, Int.reduceEq, Int.reduceBNe, Int.reduceBEq, Int.reduceAdd, Int.reduceSub, Int.reduceMul, Int.reduceNeg, ↓reduceIte] <;> simp
  · intro i _ hi hdi hw hI
    have hi2 : i < ys.length := by omega
    have hm := map_at (c := FallV.cells) xs hi
    have hm2 := map_at (c := FallV.cells) ys hi2
    have e0 := eq_next hI hi hi2
    have e1 : xs[i] ≠ ys[i] → decide (xs = ys) = false := fun h => decide_eq_false fun e => h (by subst e; rfl)
    have hl1 : (i : Int) < (xs.length : Int) := by omega
    have hl2 : (i : Int) < (ys.length : Int) := by omega
    obtain ⟨x, hx⟩ : ∃ x, x = xs[i] := ⟨_, rfl⟩
    obtain ⟨y, hy⟩ : ∃ y, y = ys[i] := ⟨_, rfl⟩
    rw [← hx] at hm e0 e1
    rw [← hy] at hm2 e0 e1
    have hc := keepFall_spec x y
    simp only [FallV.cells] at *
    clear hx hy hI hlen
    simp only [go_sem, Nat.reduceAdd, Nat.reduceSub, Nat.reduceMul, Nat.reducePow, Nat.reduceEqDiff, Nat.reduceLT, Nat.reduceLeDiff, Nat.reduceBEq, Nat.reduceBNe, Int.reduceToNat, Int.reduceLT, Int.reduceLE, Int.reduceEq, Int.reduceBNe, Int.reduceBEq, Int.reduceAdd, Int.reduceSub, Int.reduceMul, Int.reduceNeg, ↓reduceIte, List.length_map, hdi, hm, hm2]
    repeat' (with_reducible first
        | refine And.intro ?_ ?_
        | exact DrawN.mk (by kernel_rfl)
        | exact OkN.mk (by kernel_rfl)
        | refine CallN.pure (by assumption) ?_
        | refine CallN.pure (hc) ?_
        | refine GuardK.splitDN (fun h => ?_) (fun h => ?_)
        | refine GuardK.splitD (fun h => ?_) (fun h => ?_)
        | refine CondE.splitDN (fun h => ?_) (fun h => ?_)
        | refine CondE.splitD (fun h => ?_) (fun h => ?_)
        | refine GuardK.splitN (fun h => ?_) (fun h => ?_)
        | refine GuardK.split (fun h => ?_) (fun h => ?_)
        | refine CondE.splitN (fun h => ?_) (fun h => ?_)
        | refine CondE.split (fun h => ?_) (fun h => ?_)
        | refine WeakK.id ?_
        | refine RoundK.next (by omega) ?_ ?_
        | exact trivial
        | simp only [*, go_sem, Nat.reduceAdd, Nat.reduceSub, Nat.reduceMul, Nat.reducePow, Nat.reduceEqDiff, Nat.reduceLT, Nat.reduceLeDiff, Nat.reduceBEq, Nat.reduceBNe, Int.reduceToNat, Int.reduceLT, Int.reduceLE, Int.reduceEq, Int.reduceBNe, Int.reduceBEq, Int.reduceAdd, Int.reduceSub, Int.reduceMul, Int.reduceNeg, ↓reduceIte, hm, hm2, List.length_map])
    all_goals first
      | omega
      | (refine RoundK.step () hi (e0 ?_) ?_
         · clear e0 e1; cases x; cases y; simp_all; done
         · simp only [go_sem, Nat.reduceAdd, Nat.reduceSub, Nat.reduceMul, Nat.reducePow, Nat.reduceEqDiff, Nat.reduceLT, Nat.reduceLeDiff, Nat.reduceBEq, Nat.reduceBNe, Int.reduceToNat, Int.reduceLT, Int.reduceLE, Int.reduceEq, Int.reduceBNe, Int.reduceBEq, Int.reduceAdd, Int.reduceSub, Int.reduceMul, Int.reduceNeg, ↓reduceIte])
      | (rw [e1 ?_]; clear e0 e1; cases x; cases y; simp_all; done)
  · intro _ hdx hI
    have e : decide (xs = ys) = true := decide_eq_true (ext_list hlen hI)
    simp only [go_sem, Nat.reduceAdd, Nat.reduceSub, Nat.reduceMul, Nat.reducePow, Nat.reduceEqDiff, Nat.reduceLT, Nat.reduceLeDiff, Nat.reduceBEq, Nat.reduceBNe, Int.reduceToNat, Int.reduceLT, Int.reduceLE, Int.reduceEq, Int.reduceBNe, Int.reduceBEq, Int.reduceAdd, Int.reduceSub, Int.reduceMul, Int.reduceNeg, ↓reduceIte, List.length_map, hdx, e]
theorem keepReply_spec (a b : ReplyV) (h1 : a.dues.length < 4611686018427387904) (h2 : a.falls.length < 4611686018427387904) : Abs.Spec Tryz.prog 141 [] [.agg a.cells, .agg b.cells] [] (.bool (decide (a = b))) := by
  have c1 := keepDues_spec a.dues b.dues h1
  have c2 := keepFalls_spec a.falls b.falls h2
  simp only [ReplyV.cells]
  refine Abs.Spec.go (n := 38) (np := 2) (rs := [.tmp 4]) mixed Tryz.func141 rfl rfl rfl rfl rfl (by simp) (by simp) ?_
  simp only [go_sem, Nat.reduceAdd, Nat.reduceSub, Nat.reduceMul, Nat.reducePow, Nat.reduceEqDiff, Nat.reduceLT, Nat.reduceLeDiff, Nat.reduceBEq, Nat.reduceBNe, Int.reduceToNat, Int.reduceLT, Int.reduceLE, Int.reduceEq, Int.reduceBNe, Int.reduceBEq, Int.reduceAdd, Int.reduceSub, Int.reduceMul, Int.reduceNeg, ↓reduceIte]
  repeat' (with_reducible first
      | refine And.intro ?_ ?_
      | exact DrawN.mk (by kernel_rfl)
      | exact OkN.mk (by kernel_rfl)
      | refine CallN.pure (by assumption) ?_
      | refine CallN.pure (c1) ?_
      | refine CallN.pure (c2) ?_
      | refine GuardK.splitDN (fun h => ?_) (fun h => ?_)
      | refine GuardK.splitD (fun h => ?_) (fun h => ?_)
      | refine CondE.splitDN (fun h => ?_) (fun h => ?_)
      | refine CondE.splitD (fun h => ?_) (fun h => ?_)
      | refine GuardK.splitN (fun h => ?_) (fun h => ?_)
      | refine GuardK.split (fun h => ?_) (fun h => ?_)
      | refine CondE.splitN (fun h => ?_) (fun h => ?_)
      | refine CondE.split (fun h => ?_) (fun h => ?_)
      | refine WeakK.id ?_
      | refine RoundK.next (by omega) ?_ ?_
      | exact trivial
      | simp only [*, go_sem, Nat.reduceAdd, Nat.reduceSub, Nat.reduceMul, Nat.reducePow, Nat.reduceEqDiff, Nat.reduceLT, Nat.reduceLeDiff, Nat.reduceBEq, Nat.reduceBNe, Int.reduceToNat, Int.reduceLT, Int.reduceLE, Int.reduceEq, Int.reduceBNe, Int.reduceBEq, Int.reduceAdd, Int.reduceSub, Int.reduceMul, Int.reduceNeg, ↓reduceIte])
  all_goals (rw [Bool.eq_iff_iff]; cases a; cases b; simp_all)
set_option maxRecDepth 8000 in
theorem keepSeats_spec (xs ys : List SeatV) (hl : xs.length < 4611686018427387904) (hq : ∀ x ∈ xs, x.r.dues.length < 4611686018427387904 ∧ x.r.falls.length < 4611686018427387904) : Abs.Spec Tryz.prog 60 [] [.sl 7 (xs.map SeatV.cells), .sl 7 (ys.map SeatV.cells)] [] (.bool (decide (xs = ys))) := by
  refine Abs.Spec.go (n := 55) (np := 2) (rs := [.tmp 4]) mixed Tryz.func60 rfl rfl rfl rfl rfl (by simp) (by simp) ?_
  simp only [go_sem, Nat.reduceAdd, Nat.reduceSub, Nat.reduceMul, Nat.reducePow, Nat.reduceEqDiff, Nat.reduceLT, Nat.reduceLeDiff, Nat.reduceBEq, Nat.reduceBNe, Int.reduceToNat, Int.reduceLT, Int.reduceLE, Int.reduceEq, Int.reduceBNe, Int.reduceBEq, Int.reduceAdd, Int.reduceSub, Int.reduceMul, Int.reduceNeg, ↓reduceIte, List.length_map]
  by_cases hlen : xs.length = ys.length
  case neg =>
    have b : ((xs.length : Int) == (ys.length : Int)) = false := by rw [beq_eq_false_iff_ne]; omega
    have e : decide (xs = ys) = false := decide_eq_false fun h => hlen (by rw [h])
    simp only [go_sem, Nat.reduceAdd, Nat.reduceSub, Nat.reduceMul, Nat.reducePow, Nat.reduceEqDiff, Nat.reduceLT, Nat.reduceLeDiff, Nat.reduceBEq, Nat.reduceBNe, Int.reduceToNat, Int.reduceLT, Int.reduceLE, Int.reduceEq, Int.reduceBNe, Int.reduceBEq, Int.reduceAdd, Int.reduceSub, Int.reduceMul, Int.reduceNeg, ↓reduceIte, bne, b, e]
  have b : ((xs.length : Int) == (ys.length : Int)) = true := by rw [beq_iff_eq]; omega
  simp only [go_sem, Nat.reduceAdd, Nat.reduceSub, Nat.reduceMul, Nat.reducePow, Nat.reduceEqDiff, Nat.reduceLT, Nat.reduceLeDiff, Nat.reduceBEq, Nat.reduceBNe, Int.reduceToNat, Int.reduceLT, Int.reduceLE, Int.reduceEq, Int.reduceBNe, Int.reduceBEq, Int.reduceAdd, Int.reduceSub, Int.reduceMul, Int.reduceNeg, ↓reduceIte, bne, b, List.length_map]
  refine LoopK.walk (S := Unit) xs.length [0, 1] [] (fun i _ => [(5, .int .i64 i)]) (fun i _ => []) (fun i _ => ∀ j (h1 : j < xs.length) (h2 : j < ys.length), j < i → xs[j] = ys[j]) () (by simp only [go_sem, Nat.reduceAdd, Nat.reduceSub, Nat.reduceMul, Nat.reducePow, Nat.reduceEqDiff, Nat.reduceLT, Nat.reduceLeDiff, Nat.reduceBEq, Nat.reduceBNe, Int.reduceToNat, Int.reduceLT, Int.reduceLE, Int.reduceEq, Int.reduceBNe, Int.reduceBEq, Int.reduceAdd, Int.reduceSub, Int.reduceMul, Int.reduceNeg, ↓reduceIte] <;> exact rfl) (by simp only [go_sem, Nat.reduceAdd, Nat.reduceSub, Nat.reduceMul, Nat.reducePow, Nat.reduceEqDiff, Nat.reduceLT, Nat.reduceLeDiff, Nat.reduceBEq, Nat.reduceBNe, Int.reduceToNat, Int.reduceLT, Int.reduceLE, Int.reduceEq, Int.reduceBNe, Int.reduceBEq, Int.reduceAdd, Int.reduceSub, Int.reduceMul, Int.reduceNeg, ↓reduceIte] <;> exact rfl) (by intros; omega) ?_ ?_ ?_
  · simp only [go_sem, Nat.reduceAdd, Nat.reduceSub, Nat.reduceMul, Nat.reducePow, Nat.reduceEqDiff, Nat.reduceLT, Nat.reduceLeDiff, Nat.reduceBEq, Nat.reduceBNe, Int.reduceToNat, Int.reduceLT, Int.reduceLE, Int.reduceEq, Int.reduceBNe, Int.reduceBEq, Int.reduceAdd, Int.reduceSub, Int.reduceMul, Int.reduceNeg, ↓reduceIte] <;> simp
  · intro i _ hi hdi hw hI
    have hi2 : i < ys.length := by omega
    have hm := map_at (c := SeatV.cells) xs hi
    have hm2 := map_at (c := SeatV.cells) ys hi2
    have e0 := eq_next hI hi hi2
    have e1 : xs[i] ≠ ys[i] → decide (xs = ys) = false := fun h => decide_eq_false fun e => h (by subst e; rfl)
    have hl1 : (i : Int) < (xs.length : Int) := by omega
    have hl2 : (i : Int) < (ys.length : Int) := by omega
    obtain ⟨x, hx⟩ : ∃ x, x = xs[i] := ⟨_, rfl⟩
    obtain ⟨y, hy⟩ : ∃ y, y = ys[i] := ⟨_, rfl⟩
    rw [← hx] at hm e0 e1
    rw [← hy] at hm2 e0 e1
    have hc := keepReply_spec x.r y.r (hq x (by rw [hx]; exact List.getElem_mem hi)).1 (hq x (by rw [hx]; exact List.getElem_mem hi)).2
    simp only [ReplyV.cells] at hc
    simp only [SeatV.cells] at *
    clear hx hy hI hlen hq
    simp only [go_sem, Nat.reduceAdd, Nat.reduceSub, Nat.reduceMul, Nat.reducePow, Nat.reduceEqDiff, Nat.reduceLT, Nat.reduceLeDiff, Nat.reduceBEq, Nat.reduceBNe, Int.reduceToNat, Int.reduceLT, Int.reduceLE, Int.reduceEq, Int.reduceBNe, Int.reduceBEq, Int.reduceAdd, Int.reduceSub, Int.reduceMul, Int.reduceNeg, ↓reduceIte, List.length_map, hdi, hm, hm2]
    repeat' (with_reducible first
        | refine And.intro ?_ ?_
        | exact DrawN.mk (by kernel_rfl)
        | exact OkN.mk (by kernel_rfl)
        | refine CallN.pure (by assumption) ?_
        | refine CallN.pure (hc) ?_
        | refine GuardK.splitDN (fun h => ?_) (fun h => ?_)
        | refine GuardK.splitD (fun h => ?_) (fun h => ?_)
        | refine CondE.splitDN (fun h => ?_) (fun h => ?_)
        | refine CondE.splitD (fun h => ?_) (fun h => ?_)
        | refine GuardK.splitN (fun h => ?_) (fun h => ?_)
        | refine GuardK.split (fun h => ?_) (fun h => ?_)
        | refine CondE.splitN (fun h => ?_) (fun h => ?_)
        | refine CondE.split (fun h => ?_) (fun h => ?_)
        | refine WeakK.id ?_
        | refine RoundK.next (by omega) ?_ ?_
        | exact trivial
        | simp only [*, go_sem, Nat.reduceAdd, Nat.reduceSub, Nat.reduceMul, Nat.reducePow, Nat.reduceEqDiff, Nat.reduceLT, Nat.reduceLeDiff, Nat.reduceBEq, Nat.reduceBNe, Int.reduceToNat, Int.reduceLT, Int.reduceLE, Int.reduceEq, Int.reduceBNe, Int.reduceBEq, Int.reduceAdd, Int.reduceSub, Int.reduceMul, Int.reduceNeg, ↓reduceIte, hm, hm2, List.length_map])
    all_goals first
      | omega
      | (refine RoundK.step () hi (e0 ?_) ?_
         · clear e0 e1; obtain ⟨x1, x2, ⟨x3, x4, x5, x6, x7⟩⟩ := x; obtain ⟨y1, y2, ⟨y3, y4, y5, y6, y7⟩⟩ := y; simp_all; done
         · simp only [go_sem, Nat.reduceAdd, Nat.reduceSub, Nat.reduceMul, Nat.reducePow, Nat.reduceEqDiff, Nat.reduceLT, Nat.reduceLeDiff, Nat.reduceBEq, Nat.reduceBNe, Int.reduceToNat, Int.reduceLT, Int.reduceLE, Int.reduceEq, Int.reduceBNe, Int.reduceBEq, Int.reduceAdd, Int.reduceSub, Int.reduceMul, Int.reduceNeg, ↓reduceIte])
      | (rw [e1 ?_]; clear e0 e1; obtain ⟨x1, x2, ⟨x3, x4, x5, x6, x7⟩⟩ := x; obtain ⟨y1, y2, ⟨y3, y4, y5, y6, y7⟩⟩ := y; simp_all; done)
  · intro _ hdx hI
    have e : decide (xs = ys) = true := decide_eq_true (ext_list hlen hI)
    simp only [go_sem, Nat.reduceAdd, Nat.reduceSub, Nat.reduceMul, Nat.reducePow, Nat.reduceEqDiff, Nat.reduceLT, Nat.reduceLeDiff, Nat.reduceBEq, Nat.reduceBNe, Int.reduceToNat, Int.reduceLT, Int.reduceLE, Int.reduceEq, Int.reduceBNe, Int.reduceBEq, Int.reduceAdd, Int.reduceSub, Int.reduceMul, Int.reduceNeg, ↓reduceIte, List.length_map, hdx, e]
set_option maxRecDepth 8000 in
theorem keepLedger_spec (a b : LedV) (hl : a.bs.length < 4611686018427387904) : Abs.Spec Tryz.prog 56 [] [.agg a.cells, .agg b.cells] [] (.bool (decide (a.last = b.last) && decide (a.bs = b.bs))) := by
  simp only [LedV.cells]
  refine Abs.Spec.go (n := 56) (np := 2) (rs := [.tmp 4]) mixed Tryz.func56 rfl rfl rfl rfl rfl (by simp) (by simp) ?_
  simp only [go_sem, Nat.reduceAdd, Nat.reduceSub, Nat.reduceMul, Nat.reducePow, Nat.reduceEqDiff, Nat.reduceLT, Nat.reduceLeDiff, Nat.reduceBEq, Nat.reduceBNe, Int.reduceToNat, Int.reduceLT, Int.reduceLE, Int.reduceEq, Int.reduceBNe, Int.reduceBEq, Int.reduceAdd, Int.reduceSub, Int.reduceMul, Int.reduceNeg, ↓reduceIte, List.length_map]
  by_cases h0 : a.last = b.last
  case neg =>
    have b0 : (a.last == b.last) = false := by simpa using h0
    have e : decide (a.last = b.last) = false := decide_eq_false h0
    simp only [go_sem, Nat.reduceAdd, Nat.reduceSub, Nat.reduceMul, Nat.reducePow, Nat.reduceEqDiff, Nat.reduceLT, Nat.reduceLeDiff, Nat.reduceBEq, Nat.reduceBNe, Int.reduceToNat, Int.reduceLT, Int.reduceLE, Int.reduceEq, Int.reduceBNe, Int.reduceBEq, Int.reduceAdd, Int.reduceSub, Int.reduceMul, Int.reduceNeg, ↓reduceIte, bne, b0, e, Bool.false_and]
  have b0 : (a.last == b.last) = true := by simpa using h0
  have e0 : decide (a.last = b.last) = true := decide_eq_true h0
  rw [e0, Bool.true_and]
  by_cases hlen : a.bs.length = b.bs.length
  case neg =>
    have b1 : ((a.bs.length : Int) == (b.bs.length : Int)) = false := by rw [beq_eq_false_iff_ne]; omega
    have e : decide (a.bs = b.bs) = false := decide_eq_false fun h => hlen (by rw [h])
    simp only [go_sem, Nat.reduceAdd, Nat.reduceSub, Nat.reduceMul, Nat.reducePow, Nat.reduceEqDiff, Nat.reduceLT, Nat.reduceLeDiff, Nat.reduceBEq, Nat.reduceBNe, Int.reduceToNat, Int.reduceLT, Int.reduceLE, Int.reduceEq, Int.reduceBNe, Int.reduceBEq, Int.reduceAdd, Int.reduceSub, Int.reduceMul, Int.reduceNeg, ↓reduceIte, bne, b0, b1, e, List.length_map]
  have b1 : ((a.bs.length : Int) == (b.bs.length : Int)) = true := by rw [beq_iff_eq]; omega
  simp only [go_sem, Nat.reduceAdd, Nat.reduceSub, Nat.reduceMul, Nat.reducePow, Nat.reduceEqDiff, Nat.reduceLT, Nat.reduceLeDiff, Nat.reduceBEq, Nat.reduceBNe, Int.reduceToNat, Int.reduceLT, Int.reduceLE, Int.reduceEq, Int.reduceBNe, Int.reduceBEq, Int.reduceAdd, Int.reduceSub, Int.reduceMul, Int.reduceNeg, ↓reduceIte, bne, b0, b1, List.length_map]
  refine LoopK.walk (S := Unit) a.bs.length [2, 3] [48, 64] (fun i _ => [(5, .int .i64 i)]) (fun i _ => []) (fun i _ => ∀ j (h1 : j < a.bs.length) (h2 : j < b.bs.length), j < i → a.bs[j] = b.bs[j]) () (by simp only [go_sem, Nat.reduceAdd, Nat.reduceSub, Nat.reduceMul, Nat.reducePow, Nat.reduceEqDiff, Nat.reduceLT, Nat.reduceLeDiff, Nat.reduceBEq, Nat.reduceBNe, Int.reduceToNat, Int.reduceLT, Int.reduceLE, Int.reduceEq, Int.reduceBNe, Int.reduceBEq, Int.reduceAdd, Int.reduceSub, Int.reduceMul, Int.reduceNeg, ↓reduceIte] <;> exact rfl) (by simp only [go_sem, Nat.reduceAdd, Nat.reduceSub, Nat.reduceMul, Nat.reducePow, Nat.reduceEqDiff, Nat.reduceLT, Nat.reduceLeDiff, Nat.reduceBEq, Nat.reduceBNe, Int.reduceToNat, Int.reduceLT, Int.reduceLE, Int.reduceEq, Int.reduceBNe, Int.reduceBEq, Int.reduceAdd, Int.reduceSub, Int.reduceMul, Int.reduceNeg, ↓reduceIte] <;> exact rfl) (by intros; omega) ?_ ?_ ?_
  · simp only [go_sem, Nat.reduceAdd, Nat.reduceSub, Nat.reduceMul, Nat.reducePow, Nat.reduceEqDiff, Nat.reduceLT, Nat.reduceLeDiff, Nat.reduceBEq, Nat.reduceBNe, Int.reduceToNat, Int.reduceLT, Int.reduceLE, Int.reduceEq, Int.reduceBNe, Int.reduceBEq, Int.reduceAdd, Int.reduceSub, Int.reduceMul, Int.reduceNeg, ↓reduceIte] <;> simp
  · intro i _ hi hdi hw hI
    have hi2 : i < b.bs.length := by omega
    have hm := map_at (c := BalV.cells) a.bs hi
    have hm2 := map_at (c := BalV.cells) b.bs hi2
    have e0 := eq_next hI hi hi2
    have e1 : a.bs[i] ≠ b.bs[i] → decide (a.bs = b.bs) = false := fun h => decide_eq_false fun e => h (by simp only [e])
    have hl1 : (i : Int) < (a.bs.length : Int) := by omega
    have hl2 : (i : Int) < (b.bs.length : Int) := by omega
    obtain ⟨x, hx⟩ : ∃ x, x = a.bs[i] := ⟨_, rfl⟩
    obtain ⟨y, hy⟩ : ∃ y, y = b.bs[i] := ⟨_, rfl⟩
    rw [← hx] at hm e0 e1
    rw [← hy] at hm2 e0 e1
    have hc := keepAcctD_spec x.acct y.acct
    simp only [BalV.cells, AcctV.cells, BalV.acct] at *
    clear hx hy hI hlen
    simp only [go_sem, Nat.reduceAdd, Nat.reduceSub, Nat.reduceMul, Nat.reducePow, Nat.reduceEqDiff, Nat.reduceLT, Nat.reduceLeDiff, Nat.reduceBEq, Nat.reduceBNe, Int.reduceToNat, Int.reduceLT, Int.reduceLE, Int.reduceEq, Int.reduceBNe, Int.reduceBEq, Int.reduceAdd, Int.reduceSub, Int.reduceMul, Int.reduceNeg, ↓reduceIte, List.length_map, hdi, hm, hm2]
    repeat' (with_reducible first
        | refine And.intro ?_ ?_
        | exact DrawN.mk (by kernel_rfl)
        | exact OkN.mk (by kernel_rfl)
        | refine CallN.pure (by assumption) ?_
        | refine CallN.pure (hc) ?_
        | refine GuardK.splitDN (fun h => ?_) (fun h => ?_)
        | refine GuardK.splitD (fun h => ?_) (fun h => ?_)
        | refine CondE.splitDN (fun h => ?_) (fun h => ?_)
        | refine CondE.splitD (fun h => ?_) (fun h => ?_)
        | refine GuardK.splitN (fun h => ?_) (fun h => ?_)
        | refine GuardK.split (fun h => ?_) (fun h => ?_)
        | refine CondE.splitN (fun h => ?_) (fun h => ?_)
        | refine CondE.split (fun h => ?_) (fun h => ?_)
        | refine WeakK.id ?_
        | refine RoundK.next (by omega) ?_ ?_
        | exact trivial
        | simp only [*, go_sem, Nat.reduceAdd, Nat.reduceSub, Nat.reduceMul, Nat.reducePow, Nat.reduceEqDiff, Nat.reduceLT, Nat.reduceLeDiff, Nat.reduceBEq, Nat.reduceBNe, Int.reduceToNat, Int.reduceLT, Int.reduceLE, Int.reduceEq, Int.reduceBNe, Int.reduceBEq, Int.reduceAdd, Int.reduceSub, Int.reduceMul, Int.reduceNeg, ↓reduceIte, hm, hm2, List.length_map])
    all_goals first
      | omega
      | (refine RoundK.step () hi (e0 ?_) ?_
         · clear e0 e1; cases x; cases y; simp_all; done
         · simp only [go_sem, Nat.reduceAdd, Nat.reduceSub, Nat.reduceMul, Nat.reducePow, Nat.reduceEqDiff, Nat.reduceLT, Nat.reduceLeDiff, Nat.reduceBEq, Nat.reduceBNe, Int.reduceToNat, Int.reduceLT, Int.reduceLE, Int.reduceEq, Int.reduceBNe, Int.reduceBEq, Int.reduceAdd, Int.reduceSub, Int.reduceMul, Int.reduceNeg, ↓reduceIte])
      | (rw [e1 ?_]; clear e0 e1; cases x; cases y; simp_all; done)
  · intro _ hdx hI
    have e : decide (a.bs = b.bs) = true := decide_eq_true (ext_list hlen hI)
    simp only [go_sem, Nat.reduceAdd, Nat.reduceSub, Nat.reduceMul, Nat.reducePow, Nat.reduceEqDiff, Nat.reduceLT, Nat.reduceLeDiff, Nat.reduceBEq, Nat.reduceBNe, Int.reduceToNat, Int.reduceLT, Int.reduceLE, Int.reduceEq, Int.reduceBNe, Int.reduceBEq, Int.reduceAdd, Int.reduceSub, Int.reduceMul, Int.reduceNeg, ↓reduceIte, List.length_map, hdx, e]
set_option maxRecDepth 8000 in
theorem keepRoll_spec (a b : RollV) (h : a.small) : Abs.Spec Tryz.prog 54 [] [.agg a.cells, .agg b.cells] [] (.bool (decide (a.ms = b.ms) && (decide (a.ns = b.ns) && decide (a.xs = b.xs)))) := by
  obtain ⟨l1, l2, l3⟩ := h
  have c1 := keepMembers_spec a.ms b.ms (by omega)
  have c2 := keepInsts_spec a.ns b.ns (by omega)
  have c3 := keepAssets_spec a.xs b.xs (by omega)
  simp only [RollV.cells]
  refine Abs.Spec.go (n := 24) (np := 2) (rs := [.tmp 4]) mixed Tryz.func54 rfl rfl rfl rfl rfl (by simp) (by simp) ?_
  simp only [go_sem, Nat.reduceAdd, Nat.reduceSub, Nat.reduceMul, Nat.reducePow, Nat.reduceEqDiff, Nat.reduceLT, Nat.reduceLeDiff, Nat.reduceBEq, Nat.reduceBNe, Int.reduceToNat, Int.reduceLT, Int.reduceLE, Int.reduceEq, Int.reduceBNe, Int.reduceBEq, Int.reduceAdd, Int.reduceSub, Int.reduceMul, Int.reduceNeg, ↓reduceIte]
  repeat' (with_reducible first
      | refine And.intro ?_ ?_
      | exact DrawN.mk (by kernel_rfl)
      | exact OkN.mk (by kernel_rfl)
      | refine CallN.pure (by assumption) ?_
      | refine CallN.pure (c1) ?_
      | refine CallN.pure (c2) ?_
      | refine CallN.pure (c3) ?_
      | refine GuardK.splitDN (fun h => ?_) (fun h => ?_)
      | refine GuardK.splitD (fun h => ?_) (fun h => ?_)
      | refine CondE.splitDN (fun h => ?_) (fun h => ?_)
      | refine CondE.splitD (fun h => ?_) (fun h => ?_)
      | refine GuardK.splitN (fun h => ?_) (fun h => ?_)
      | refine GuardK.split (fun h => ?_) (fun h => ?_)
      | refine CondE.splitN (fun h => ?_) (fun h => ?_)
      | refine CondE.split (fun h => ?_) (fun h => ?_)
      | refine WeakK.id ?_
      | refine RoundK.next (by omega) ?_ ?_
      | exact trivial
      | simp only [*, go_sem, Nat.reduceAdd, Nat.reduceSub, Nat.reduceMul, Nat.reducePow, Nat.reduceEqDiff, Nat.reduceLT, Nat.reduceLeDiff, Nat.reduceBEq, Nat.reduceBNe, Int.reduceToNat, Int.reduceLT, Int.reduceLE, Int.reduceEq, Int.reduceBNe, Int.reduceBEq, Int.reduceAdd, Int.reduceSub, Int.reduceMul, Int.reduceNeg, ↓reduceIte])
  all_goals (simp_all)
set_option maxRecDepth 8000 in
theorem keepBook_spec (a b : BookV) (h : a.small) : Abs.Spec Tryz.prog 55 [] [.agg a.cells, .agg b.cells] [] (.bool (decide (a.next = b.next) && (decide (a.ts = b.ts) && decide (a.qs = b.qs)))) := by
  obtain ⟨l1, l2⟩ := h
  have c1 := keepTrades_spec a.ts b.ts (by omega)
  have c2 := keepPoss_spec a.qs b.qs (by omega)
  simp only [BookV.cells]
  refine Abs.Spec.go (n := 24) (np := 2) (rs := [.tmp 4]) mixed Tryz.func55 rfl rfl rfl rfl rfl (by simp) (by simp) ?_
  simp only [go_sem, Nat.reduceAdd, Nat.reduceSub, Nat.reduceMul, Nat.reducePow, Nat.reduceEqDiff, Nat.reduceLT, Nat.reduceLeDiff, Nat.reduceBEq, Nat.reduceBNe, Int.reduceToNat, Int.reduceLT, Int.reduceLE, Int.reduceEq, Int.reduceBNe, Int.reduceBEq, Int.reduceAdd, Int.reduceSub, Int.reduceMul, Int.reduceNeg, ↓reduceIte]
  repeat' (with_reducible first
      | refine And.intro ?_ ?_
      | exact DrawN.mk (by kernel_rfl)
      | exact OkN.mk (by kernel_rfl)
      | refine CallN.pure (by assumption) ?_
      | refine CallN.pure (c1) ?_
      | refine CallN.pure (c2) ?_
      | refine GuardK.splitDN (fun h => ?_) (fun h => ?_)
      | refine GuardK.splitD (fun h => ?_) (fun h => ?_)
      | refine CondE.splitDN (fun h => ?_) (fun h => ?_)
      | refine CondE.splitD (fun h => ?_) (fun h => ?_)
      | refine GuardK.splitN (fun h => ?_) (fun h => ?_)
      | refine GuardK.split (fun h => ?_) (fun h => ?_)
      | refine CondE.splitN (fun h => ?_) (fun h => ?_)
      | refine CondE.split (fun h => ?_) (fun h => ?_)
      | refine WeakK.id ?_
      | refine RoundK.next (by omega) ?_ ?_
      | exact trivial
      | simp only [*, go_sem, Nat.reduceAdd, Nat.reduceSub, Nat.reduceMul, Nat.reducePow, Nat.reduceEqDiff, Nat.reduceLT, Nat.reduceLeDiff, Nat.reduceBEq, Nat.reduceBNe, Int.reduceToNat, Int.reduceLT, Int.reduceLE, Int.reduceEq, Int.reduceBNe, Int.reduceBEq, Int.reduceAdd, Int.reduceSub, Int.reduceMul, Int.reduceNeg, ↓reduceIte])
  all_goals (rw [Bool.eq_iff_iff]; simp_all)
def sameS (a b : StateV) : Bool := decide (a.now = b.now ∧ a.day = b.day ∧ a.phase = b.phase) && ((decide (a.roll.ms = b.roll.ms) && (decide (a.roll.ns = b.roll.ns) && decide (a.roll.xs = b.roll.xs))) && ((decide (a.book.next = b.book.next) && (decide (a.book.ts = b.book.ts) && decide (a.book.qs = b.book.qs))) &&
  ((decide (a.led.last = b.led.last) && decide (a.led.bs = b.led.bs)) && (decide (a.ps = b.ps) && (decide (a.calls = b.calls) && (decide (a.bids = b.bids) && decide (a.seats = b.seats)))))))
set_option maxRecDepth 8000 in
theorem keepState_spec (a b : StateV) (h : a.small) : Abs.Spec Tryz.prog 12 [] [.agg a.cells, .agg b.cells] [] (.bool (sameS a b)) := by
  have c1 := keepClock_spec a.now a.day a.phase b.now b.day b.phase
  have c2 := keepRoll_spec a.roll b.roll h.roll.small
  have c3 := keepBook_spec a.book b.book h.book
  have c4 := keepLedger_spec a.led b.led (by have := h.led; omega)
  have c5 := same_spec a.ps b.ps (by have := h.ps; omega)
  have c6 := keepCalls_spec a.calls b.calls (by have := h.calls; omega)
  have c7 := keepBids_spec a.bids b.bids (by have := h.bids; omega)
  have c8 := keepSeats_spec a.seats b.seats (by have := h.seats; omega) (fun x hx => by have := h.rs x hx; unfold ReplyV.fits at this; omega)
  simp only [RollV.cells, BookV.cells, LedV.cells] at c2 c3 c4
  obtain ⟨q1, e1⟩ : ∃ q, q = decide (a.now = b.now ∧ a.day = b.day ∧ a.phase = b.phase) := ⟨_, rfl⟩
  obtain ⟨q2, e2⟩ : ∃ q, q = (decide (a.roll.ms = b.roll.ms) && (decide (a.roll.ns = b.roll.ns) && decide (a.roll.xs = b.roll.xs))) := ⟨_, rfl⟩
  obtain ⟨q3, e3⟩ : ∃ q, q = (decide (a.book.next = b.book.next) && (decide (a.book.ts = b.book.ts) && decide (a.book.qs = b.book.qs))) := ⟨_, rfl⟩
  obtain ⟨q4, e4⟩ : ∃ q, q = (decide (a.led.last = b.led.last) && decide (a.led.bs = b.led.bs)) := ⟨_, rfl⟩
  simp only [StateV.cells, sameS]
  rw [← e1] at c1 ⊢
  rw [← e2] at c2 ⊢
  rw [← e3] at c3 ⊢
  rw [← e4] at c4 ⊢
  clear e1 e2 e3 e4 h
  refine Abs.Spec.go (n := 59) (np := 2) (rs := [.tmp 4]) mixed Tryz.func12 rfl rfl rfl rfl rfl (by simp) (by simp) ?_
  simp only [go_sem, Nat.reduceAdd, Nat.reduceSub, Nat.reduceMul, Nat.reducePow, Nat.reduceEqDiff, Nat.reduceLT, Nat.reduceLeDiff, Nat.reduceBEq, Nat.reduceBNe, Int.reduceToNat, Int.reduceLT, Int.reduceLE, Int.reduceEq, Int.reduceBNe, Int.reduceBEq, Int.reduceAdd, Int.reduceSub, Int.reduceMul, Int.reduceNeg, ↓reduceIte]
  refine CallN.pure c1 ?_
  cases q1
  · simp only [go_sem, Nat.reduceAdd, Nat.reduceSub, Nat.reduceMul, Nat.reducePow, Nat.reduceEqDiff, Nat.reduceLT, Nat.reduceLeDiff, Nat.reduceBEq, Nat.reduceBNe, Int.reduceToNat, Int.reduceLT, Int.reduceLE, Int.reduceEq, Int.reduceBNe, Int.reduceBEq, Int.reduceAdd, Int.reduceSub, Int.reduceMul, Int.reduceNeg, ↓reduceIte, Bool.false_and]
  simp only [go_sem, Nat.reduceAdd, Nat.reduceSub, Nat.reduceMul, Nat.reducePow, Nat.reduceEqDiff, Nat.reduceLT, Nat.reduceLeDiff, Nat.reduceBEq, Nat.reduceBNe, Int.reduceToNat, Int.reduceLT, Int.reduceLE, Int.reduceEq, Int.reduceBNe, Int.reduceBEq, Int.reduceAdd, Int.reduceSub, Int.reduceMul, Int.reduceNeg, ↓reduceIte]
  refine CallN.pure c2 ?_
  cases q2
  · simp only [go_sem, Nat.reduceAdd, Nat.reduceSub, Nat.reduceMul, Nat.reducePow, Nat.reduceEqDiff, Nat.reduceLT, Nat.reduceLeDiff, Nat.reduceBEq, Nat.reduceBNe, Int.reduceToNat, Int.reduceLT, Int.reduceLE, Int.reduceEq, Int.reduceBNe, Int.reduceBEq, Int.reduceAdd, Int.reduceSub, Int.reduceMul, Int.reduceNeg, ↓reduceIte, Bool.false_and, Bool.true_and]
  simp only [go_sem, Nat.reduceAdd, Nat.reduceSub, Nat.reduceMul, Nat.reducePow, Nat.reduceEqDiff, Nat.reduceLT, Nat.reduceLeDiff, Nat.reduceBEq, Nat.reduceBNe, Int.reduceToNat, Int.reduceLT, Int.reduceLE, Int.reduceEq, Int.reduceBNe, Int.reduceBEq, Int.reduceAdd, Int.reduceSub, Int.reduceMul, Int.reduceNeg, ↓reduceIte]
  refine CallN.pure c3 ?_
  cases q3
  · simp only [go_sem, Nat.reduceAdd, Nat.reduceSub, Nat.reduceMul, Nat.reducePow, Nat.reduceEqDiff, Nat.reduceLT, Nat.reduceLeDiff, Nat.reduceBEq, Nat.reduceBNe, Int.reduceToNat, Int.reduceLT, Int.reduceLE, Int.reduceEq, Int.reduceBNe, Int.reduceBEq, Int.reduceAdd, Int.reduceSub, Int.reduceMul, Int.reduceNeg, ↓reduceIte, Bool.false_and, Bool.true_and]
  simp only [go_sem, Nat.reduceAdd, Nat.reduceSub, Nat.reduceMul, Nat.reducePow, Nat.reduceEqDiff, Nat.reduceLT, Nat.reduceLeDiff, Nat.reduceBEq, Nat.reduceBNe, Int.reduceToNat, Int.reduceLT, Int.reduceLE, Int.reduceEq, Int.reduceBNe, Int.reduceBEq, Int.reduceAdd, Int.reduceSub, Int.reduceMul, Int.reduceNeg, ↓reduceIte]
  refine CallN.pure c4 ?_
  cases q4
  · simp only [go_sem, Nat.reduceAdd, Nat.reduceSub, Nat.reduceMul, Nat.reducePow, Nat.reduceEqDiff, Nat.reduceLT, Nat.reduceLeDiff, Nat.reduceBEq, Nat.reduceBNe, Int.reduceToNat, Int.reduceLT, Int.reduceLE, Int.reduceEq, Int.reduceBNe, Int.reduceBEq, Int.reduceAdd, Int.reduceSub, Int.reduceMul, Int.reduceNeg, ↓reduceIte, Bool.false_and, Bool.true_and]
  simp only [go_sem, Nat.reduceAdd, Nat.reduceSub, Nat.reduceMul, Nat.reducePow, Nat.reduceEqDiff, Nat.reduceLT, Nat.reduceLeDiff, Nat.reduceBEq, Nat.reduceBNe, Int.reduceToNat, Int.reduceLT, Int.reduceLE, Int.reduceEq, Int.reduceBNe, Int.reduceBEq, Int.reduceAdd, Int.reduceSub, Int.reduceMul, Int.reduceNeg, ↓reduceIte]
  refine CallN.pure c5 ?_
  cases q5 : decide (a.ps = b.ps)
  · simp only [go_sem, Nat.reduceAdd, Nat.reduceSub, Nat.reduceMul, Nat.reducePow, Nat.reduceEqDiff, Nat.reduceLT, Nat.reduceLeDiff, Nat.reduceBEq, Nat.reduceBNe, Int.reduceToNat, Int.reduceLT, Int.reduceLE, Int.reduceEq, Int.reduceBNe, Int.reduceBEq, Int.reduceAdd, Int.reduceSub, Int.reduceMul, Int.reduceNeg, ↓reduceIte, Bool.false_and, Bool.true_and]
  simp only [go_sem, Nat.reduceAdd, Nat.reduceSub, Nat.reduceMul, Nat.reducePow, Nat.reduceEqDiff, Nat.reduceLT, Nat.reduceLeDiff, Nat.reduceBEq, Nat.reduceBNe, Int.reduceToNat, Int.reduceLT, Int.reduceLE, Int.reduceEq, Int.reduceBNe, Int.reduceBEq, Int.reduceAdd, Int.reduceSub, Int.reduceMul, Int.reduceNeg, ↓reduceIte]
  refine CallN.pure c6 ?_
  cases q6 : decide (a.calls = b.calls)
  · simp only [go_sem, Nat.reduceAdd, Nat.reduceSub, Nat.reduceMul, Nat.reducePow, Nat.reduceEqDiff, Nat.reduceLT, Nat.reduceLeDiff, Nat.reduceBEq, Nat.reduceBNe, Int.reduceToNat, Int.reduceLT, Int.reduceLE, Int.reduceEq, Int.reduceBNe, Int.reduceBEq, Int.reduceAdd, Int.reduceSub, Int.reduceMul, Int.reduceNeg, ↓reduceIte, Bool.false_and, Bool.true_and]
  simp only [go_sem, Nat.reduceAdd, Nat.reduceSub, Nat.reduceMul, Nat.reducePow, Nat.reduceEqDiff, Nat.reduceLT, Nat.reduceLeDiff, Nat.reduceBEq, Nat.reduceBNe, Int.reduceToNat, Int.reduceLT, Int.reduceLE, Int.reduceEq, Int.reduceBNe, Int.reduceBEq, Int.reduceAdd, Int.reduceSub, Int.reduceMul, Int.reduceNeg, ↓reduceIte]
  refine CallN.pure c7 ?_
  cases q7 : decide (a.bids = b.bids)
  · simp only [go_sem, Nat.reduceAdd, Nat.reduceSub, Nat.reduceMul, Nat.reducePow, Nat.reduceEqDiff, Nat.reduceLT, Nat.reduceLeDiff, Nat.reduceBEq, Nat.reduceBNe, Int.reduceToNat, Int.reduceLT, Int.reduceLE, Int.reduceEq, Int.reduceBNe, Int.reduceBEq, Int.reduceAdd, Int.reduceSub, Int.reduceMul, Int.reduceNeg, ↓reduceIte, Bool.false_and, Bool.true_and]
  simp only [go_sem, Nat.reduceAdd, Nat.reduceSub, Nat.reduceMul, Nat.reducePow, Nat.reduceEqDiff, Nat.reduceLT, Nat.reduceLeDiff, Nat.reduceBEq, Nat.reduceBNe, Int.reduceToNat, Int.reduceLT, Int.reduceLE, Int.reduceEq, Int.reduceBNe, Int.reduceBEq, Int.reduceAdd, Int.reduceSub, Int.reduceMul, Int.reduceNeg, ↓reduceIte]
  refine CallN.pure c8 ?_
  simp only [go_sem, Nat.reduceAdd, Nat.reduceSub, Nat.reduceMul, Nat.reducePow, Nat.reduceEqDiff, Nat.reduceLT, Nat.reduceLeDiff, Nat.reduceBEq, Nat.reduceBNe, Int.reduceToNat, Int.reduceLT, Int.reduceLE, Int.reduceEq, Int.reduceBNe, Int.reduceBEq, Int.reduceAdd, Int.reduceSub, Int.reduceMul, Int.reduceNeg, ↓reduceIte, Bool.true_and]
theorem sameS_self (a : StateV) : sameS a a = true := by simp [sameS]
end Go.Proofs.YtbllopdcbkeadaaGreat
set_option linter.unusedSimpArgs false
set_option linter.unusedVariables false
namespace Go.Proofs.YtbllopdcbkeadaaGreat
open Go.Abs
set_option maxRecDepth 8000 in
theorem law_stands (s : StateV) (w c : Int) (hr : s.rng) : Abs.Spec Tryz.prog 3 [] [.agg s.cells, .int .i64 w, .int .i64 c] [] (.bool true) := by
  have hwk := wakes_spec
  have hH := heavy_spec s
  cases hb : heavyB s
  case true =>
    rw [hb] at hH
    simp only [StateV.cells] at hH ⊢
    refine Abs.Spec.go (n := 84) (np := 3) (rs := [.tmp 6]) mixed Tryz.func3 rfl rfl rfl rfl rfl (by simp) (by simp) ?_
    simp only [go_sem, Nat.reduceAdd, Nat.reduceSub, Nat.reduceMul, Nat.reducePow, Nat.reduceEqDiff, Nat.reduceLT, Nat.reduceLeDiff, Nat.reduceBEq, Nat.reduceBNe, Int.reduceToNat, Int.reduceLT, Int.reduceLE, Int.reduceEq, Int.reduceBNe, Int.reduceBEq, Int.reduceAdd, Int.reduceSub, Int.reduceMul, Int.reduceNeg, ↓reduceIte]
    refine CallN.pure hH ?_
    simp only [go_sem, Nat.reduceAdd, Nat.reduceSub, Nat.reduceMul, Nat.reducePow, Nat.reduceEqDiff, Nat.reduceLT, Nat.reduceLeDiff, Nat.reduceBEq, Nat.reduceBNe, Int.reduceToNat, Int.reduceLT, Int.reduceLE, Int.reduceEq, Int.reduceBNe, Int.reduceBEq, Int.reduceAdd, Int.reduceSub, Int.reduceMul, Int.reduceNeg, ↓reduceIte]
  have hsm := heavy_small hb hr
  have hfit : s.fit := ⟨hsm.roll.small, hsm.book, hsm.led, hsm.ps⟩
  have hlb : s.led.bs.length ≤ 300 ∧ s.ps.length ≤ 300 := by
    simp only [heavyB, heavyR, heavyK, Bool.or_eq_false_iff, decide_eq_false_iff_not, List.length_map] at hb; omega
  have hS := short_spec s w c hfit
  have hS2 := refShort_spec s w c hfit hr (by omega) (by omega)
  have hO := of_spec s.led s.roll s.ps w c hsm.led hsm.roll.small hsm.ps
  have hO2 := refCover_spec s.led s.roll s.ps w c (by omega) hsm.roll.small (by omega) hr.bs
  have hT := twinState_spec s hsm
  have hK := keepState_spec s s hsm
  rw [sameS_self] at hK
  rw [hb] at hH
  simp only [LedV.cells, RollV.cells] at hO hO2
  simp only [stOwn, stRefs] at hT
  simp only [StateV.cells] at hH hS hS2 hT hK ⊢
  obtain ⟨a, ha⟩ : ∃ a, a = ofN s.led s.roll s.ps w c := ⟨_, rfl⟩
  obtain ⟨e, he⟩ : ∃ e, e = ofE s.led s.roll s.ps w c := ⟨_, rfl⟩
  obtain ⟨d, hd⟩ : ∃ d, d = shN s w c := ⟨_, rfl⟩
  obtain ⟨f, hf⟩ : ∃ f, f = shE s w c := ⟨_, rfl⟩
  rw [← ha, ← he] at hO hO2
  rw [← hd, ← hf] at hS hS2
  refine Abs.Spec.go (n := 84) (np := 3) (rs := [.tmp 6]) mixed Tryz.func3 rfl rfl rfl rfl rfl (by simp) (by simp) ?_
  simp only [go_sem, Nat.reduceAdd, Nat.reduceSub, Nat.reduceMul, Nat.reducePow, Nat.reduceEqDiff, Nat.reduceLT, Nat.reduceLeDiff, Nat.reduceBEq, Nat.reduceBNe, Int.reduceToNat, Int.reduceLT, Int.reduceLE, Int.reduceEq, Int.reduceBNe, Int.reduceBEq, Int.reduceAdd, Int.reduceSub, Int.reduceMul, Int.reduceNeg, ↓reduceIte]
  refine CallN.pure hH ?_
  simp only [go_sem, Nat.reduceAdd, Nat.reduceSub, Nat.reduceMul, Nat.reducePow, Nat.reduceEqDiff, Nat.reduceLT, Nat.reduceLeDiff, Nat.reduceBEq, Nat.reduceBNe, Int.reduceToNat, Int.reduceLT, Int.reduceLE, Int.reduceEq, Int.reduceBNe, Int.reduceBEq, Int.reduceAdd, Int.reduceSub, Int.reduceMul, Int.reduceNeg, ↓reduceIte]
  refine CallN.gen [] [] false (by simp) ?_
  simp only [go_sem, Nat.reduceAdd, Nat.reduceSub, Nat.reduceMul, Nat.reducePow, Nat.reduceEqDiff, Nat.reduceLT, Nat.reduceLeDiff, Nat.reduceBEq, Nat.reduceBNe, Int.reduceToNat, Int.reduceLT, Int.reduceLE, Int.reduceEq, Int.reduceBNe, Int.reduceBEq, Int.reduceAdd, Int.reduceSub, Int.reduceMul, Int.reduceNeg, ↓reduceIte]
  refine CallG.intro hT ?_
  simp only [go_sem, Nat.reduceAdd, Nat.reduceSub, Nat.reduceMul, Nat.reducePow, Nat.reduceEqDiff, Nat.reduceLT, Nat.reduceLeDiff, Nat.reduceBEq, Nat.reduceBNe, Int.reduceToNat, Int.reduceLT, Int.reduceLE, Int.reduceEq, Int.reduceBNe, Int.reduceBEq, Int.reduceAdd, Int.reduceSub, Int.reduceMul, Int.reduceNeg, ↓reduceIte]
  refine CallN.gen [] [] true (by simp) ?_
  simp only [go_sem, Nat.reduceAdd, Nat.reduceSub, Nat.reduceMul, Nat.reducePow, Nat.reduceEqDiff, Nat.reduceLT, Nat.reduceLeDiff, Nat.reduceBEq, Nat.reduceBNe, Int.reduceToNat, Int.reduceLT, Int.reduceLE, Int.reduceEq, Int.reduceBNe, Int.reduceBEq, Int.reduceAdd, Int.reduceSub, Int.reduceMul, Int.reduceNeg, ↓reduceIte]
  refine CallG.intro hO ?_
  simp only [go_sem, Nat.reduceAdd, Nat.reduceSub, Nat.reduceMul, Nat.reducePow, Nat.reduceEqDiff, Nat.reduceLT, Nat.reduceLeDiff, Nat.reduceBEq, Nat.reduceBNe, Int.reduceToNat, Int.reduceLT, Int.reduceLE, Int.reduceEq, Int.reduceBNe, Int.reduceBEq, Int.reduceAdd, Int.reduceSub, Int.reduceMul, Int.reduceNeg, ↓reduceIte]
  refine CallN.pure hO2 ?_
  simp only [go_sem, Nat.reduceAdd, Nat.reduceSub, Nat.reduceMul, Nat.reducePow, Nat.reduceEqDiff, Nat.reduceLT, Nat.reduceLeDiff, Nat.reduceBEq, Nat.reduceBNe, Int.reduceToNat, Int.reduceLT, Int.reduceLE, Int.reduceEq, Int.reduceBNe, Int.reduceBEq, Int.reduceAdd, Int.reduceSub, Int.reduceMul, Int.reduceNeg, ↓reduceIte]
  refine CallN.gen [] [] true (by simp) ?_
  simp only [go_sem, Nat.reduceAdd, Nat.reduceSub, Nat.reduceMul, Nat.reducePow, Nat.reduceEqDiff, Nat.reduceLT, Nat.reduceLeDiff, Nat.reduceBEq, Nat.reduceBNe, Int.reduceToNat, Int.reduceLT, Int.reduceLE, Int.reduceEq, Int.reduceBNe, Int.reduceBEq, Int.reduceAdd, Int.reduceSub, Int.reduceMul, Int.reduceNeg, ↓reduceIte]
  refine CallG.intro hS ?_
  simp only [go_sem, Nat.reduceAdd, Nat.reduceSub, Nat.reduceMul, Nat.reducePow, Nat.reduceEqDiff, Nat.reduceLT, Nat.reduceLeDiff, Nat.reduceBEq, Nat.reduceBNe, Int.reduceToNat, Int.reduceLT, Int.reduceLE, Int.reduceEq, Int.reduceBNe, Int.reduceBEq, Int.reduceAdd, Int.reduceSub, Int.reduceMul, Int.reduceNeg, ↓reduceIte]
  refine CallN.pure hS2 ?_
  simp only [go_sem, Nat.reduceAdd, Nat.reduceSub, Nat.reduceMul, Nat.reducePow, Nat.reduceEqDiff, Nat.reduceLT, Nat.reduceLeDiff, Nat.reduceBEq, Nat.reduceBNe, Int.reduceToNat, Int.reduceLT, Int.reduceLE, Int.reduceEq, Int.reduceBNe, Int.reduceBEq, Int.reduceAdd, Int.reduceSub, Int.reduceMul, Int.reduceNeg, ↓reduceIte, beq_self_eq_true]
  refine CallN.gen [] [] true (by simp) ?_
  simp only [go_sem, Nat.reduceAdd, Nat.reduceSub, Nat.reduceMul, Nat.reducePow, Nat.reduceEqDiff, Nat.reduceLT, Nat.reduceLeDiff, Nat.reduceBEq, Nat.reduceBNe, Int.reduceToNat, Int.reduceLT, Int.reduceLE, Int.reduceEq, Int.reduceBNe, Int.reduceBEq, Int.reduceAdd, Int.reduceSub, Int.reduceMul, Int.reduceNeg, ↓reduceIte]
  refine CallG.intro hK ?_
  simp only [go_sem, Nat.reduceAdd, Nat.reduceSub, Nat.reduceMul, Nat.reducePow, Nat.reduceEqDiff, Nat.reduceLT, Nat.reduceLeDiff, Nat.reduceBEq, Nat.reduceBNe, Int.reduceToNat, Int.reduceLT, Int.reduceLE, Int.reduceEq, Int.reduceBNe, Int.reduceBEq, Int.reduceAdd, Int.reduceSub, Int.reduceMul, Int.reduceNeg, ↓reduceIte]
  refine CallN.pure hwk ?_
  simp only [go_sem, Nat.reduceAdd, Nat.reduceSub, Nat.reduceMul, Nat.reducePow, Nat.reduceEqDiff, Nat.reduceLT, Nat.reduceLeDiff, Nat.reduceBEq, Nat.reduceBNe, Int.reduceToNat, Int.reduceLT, Int.reduceLE, Int.reduceEq, Int.reduceBNe, Int.reduceBEq, Int.reduceAdd, Int.reduceSub, Int.reduceMul, Int.reduceNeg, ↓reduceIte]
end Go.Proofs.YtbllopdcbkeadaaGreat
