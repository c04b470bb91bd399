/- What differs, by the reference. Which states are looked at; the laws of audit. The law AuditExact. The law AuditDiffs. No theorem of a claim. -/
import Derived.Test.YtbllopdcbkeadaaGreatLI
set_option linter.unusedSimpArgs false
set_option linter.unusedVariables false
namespace Go.Proofs.YtbllopdcbkeadaaGreat
open Go.Abs
theorem clk_eq (a b c d e f : Int) : decide (a = d ∧ b = e ∧ c = f) = (a == d && (b == e && c == f)) := by
  rw [Bool.eq_iff_iff]; simp
set_option maxHeartbeats 4000000 in
set_option maxRecDepth 16000 in
theorem refDiff_spec (a b : StateV) (h : a.small) : Abs.Spec Tryz.prog 26 [] [.agg a.cells, .agg b.cells] [.own 1 (txts (diffL (parts a b)))] (.ref 0) := by
  obtain ⟨hr1, hr2, hr3⟩ := h.roll
  obtain ⟨hb1, hb2⟩ := h.book
  have h0 := keepClock_spec a.now a.day a.phase b.now b.day b.phase
  rw [clk_eq] at h0
  have h1 := keepMembers_spec a.roll.ms b.roll.ms (by omega)
  have h2 := keepInsts_spec a.roll.ns b.roll.ns (by omega)
  have h3 := keepAssets_spec a.roll.xs b.roll.xs (by omega)
  have h4 := keepTrades_spec a.book.ts b.book.ts (by omega)
  have h5 := keepPoss_spec a.book.qs b.book.qs (by omega)
  have h6 := keepLedger_spec ⟨0, a.led.bs⟩ ⟨0, b.led.bs⟩ (by have := h.led; simp only; omega)
  have e6 : (decide ((⟨0, a.led.bs⟩ : LedV).last = (⟨0, b.led.bs⟩ : LedV).last) && decide ((⟨0, a.led.bs⟩ : LedV).bs = (⟨0, b.led.bs⟩ : LedV).bs)) = decide (a.led.bs = b.led.bs) := by simp
  rw [e6] at h6
  simp only [LedV.cells] at h6
  have h7 := same_spec a.ps b.ps (by have := h.ps; omega)
  have h8 := keepCalls_spec a.calls b.calls (by have := h.calls; omega)
  have h9 := keepBids_spec a.bids b.bids (by have := h.bids; omega)
  have h10 := keepSeats_spec a.seats b.seats (by have := h.seats; omega) (fun x hx => ⟨by have := (h.rs x hx).1; omega, by have := (h.rs x hx).2; omega⟩)
  simp only [StateV.cells]
  refine Abs.Spec.go (n := 113) (np := 2) (rs := [.tmp 4]) mixed Tryz.func26 rfl rfl rfl rfl rfl (by simp) (by simp) ?_
  simp only [go_sem, Nat.reduceAdd, Nat.reduceSub, Nat.reduceMul, Nat.reducePow, Nat.reduceEqDiff, Nat.reduceLT, Nat.reduceLeDiff, Nat.reduceBEq, Nat.reduceBNe, Int.reduceToNat, Int.reduceLT, Int.reduceLE, Int.reduceEq, Int.reduceBNe, Int.reduceBEq, Int.reduceAdd, Int.reduceSub, Int.reduceMul, Int.reduceNeg, ↓reduceIte]
  (repeat' (with_reducible first | refine And.intro ?_ ?_ | exact DrawN.mk (by kernel_rfl) | exact OkN.mk (by kernel_rfl))) <;> try omega
  simp only [List.append_eq, List.cons_append, List.nil_append]
  simp only [go_sem, Nat.reduceAdd, Nat.reduceSub, Nat.reduceMul, Nat.reducePow, Nat.reduceEqDiff, Nat.reduceLT, Nat.reduceLeDiff, Nat.reduceBEq, Nat.reduceBNe, Int.reduceToNat, Int.reduceLT, Int.reduceLE, Int.reduceEq, Int.reduceBNe, Int.reduceBEq, Int.reduceAdd, Int.reduceSub, Int.reduceMul, Int.reduceNeg, ↓reduceIte]
  (repeat' (with_reducible first | refine And.intro ?_ ?_ | exact DrawN.mk (by kernel_rfl) | exact OkN.mk (by kernel_rfl))) <;> try omega
  refine CallN.pure h0 ?_
  simp only [go_sem, Nat.reduceAdd, Nat.reduceSub, Nat.reduceMul, Nat.reducePow, Nat.reduceEqDiff, Nat.reduceLT, Nat.reduceLeDiff, Nat.reduceBEq, Nat.reduceBNe, Int.reduceToNat, Int.reduceLT, Int.reduceLE, Int.reduceEq, Int.reduceBNe, Int.reduceBEq, Int.reduceAdd, Int.reduceSub, Int.reduceMul, Int.reduceNeg, ↓reduceIte]
  (repeat' (with_reducible first | refine And.intro ?_ ?_ | exact DrawN.mk (by kernel_rfl) | exact OkN.mk (by kernel_rfl))) <;> try omega
  refine CallN.pure h1 ?_
  simp only [go_sem, Nat.reduceAdd, Nat.reduceSub, Nat.reduceMul, Nat.reducePow, Nat.reduceEqDiff, Nat.reduceLT, Nat.reduceLeDiff, Nat.reduceBEq, Nat.reduceBNe, Int.reduceToNat, Int.reduceLT, Int.reduceLE, Int.reduceEq, Int.reduceBNe, Int.reduceBEq, Int.reduceAdd, Int.reduceSub, Int.reduceMul, Int.reduceNeg, ↓reduceIte]
  (repeat' (with_reducible first | refine And.intro ?_ ?_ | exact DrawN.mk (by kernel_rfl) | exact OkN.mk (by kernel_rfl))) <;> try omega
  refine CallN.pure h2 ?_
  simp only [go_sem, Nat.reduceAdd, Nat.reduceSub, Nat.reduceMul, Nat.reducePow, Nat.reduceEqDiff, Nat.reduceLT, Nat.reduceLeDiff, Nat.reduceBEq, Nat.reduceBNe, Int.reduceToNat, Int.reduceLT, Int.reduceLE, Int.reduceEq, Int.reduceBNe, Int.reduceBEq, Int.reduceAdd, Int.reduceSub, Int.reduceMul, Int.reduceNeg, ↓reduceIte]
  (repeat' (with_reducible first | refine And.intro ?_ ?_ | exact DrawN.mk (by kernel_rfl) | exact OkN.mk (by kernel_rfl))) <;> try omega
  refine CallN.pure h3 ?_
  simp only [go_sem, Nat.reduceAdd, Nat.reduceSub, Nat.reduceMul, Nat.reducePow, Nat.reduceEqDiff, Nat.reduceLT, Nat.reduceLeDiff, Nat.reduceBEq, Nat.reduceBNe, Int.reduceToNat, Int.reduceLT, Int.reduceLE, Int.reduceEq, Int.reduceBNe, Int.reduceBEq, Int.reduceAdd, Int.reduceSub, Int.reduceMul, Int.reduceNeg, ↓reduceIte]
  (repeat' (with_reducible first | refine And.intro ?_ ?_ | exact DrawN.mk (by kernel_rfl) | exact OkN.mk (by kernel_rfl))) <;> try omega
  refine CallN.pure h4 ?_
  simp only [go_sem, Nat.reduceAdd, Nat.reduceSub, Nat.reduceMul, Nat.reducePow, Nat.reduceEqDiff, Nat.reduceLT, Nat.reduceLeDiff, Nat.reduceBEq, Nat.reduceBNe, Int.reduceToNat, Int.reduceLT, Int.reduceLE, Int.reduceEq, Int.reduceBNe, Int.reduceBEq, Int.reduceAdd, Int.reduceSub, Int.reduceMul, Int.reduceNeg, ↓reduceIte]
  (repeat' (with_reducible first | refine And.intro ?_ ?_ | exact DrawN.mk (by kernel_rfl) | exact OkN.mk (by kernel_rfl))) <;> try omega
  refine CallN.pure h5 ?_
  simp only [go_sem, Nat.reduceAdd, Nat.reduceSub, Nat.reduceMul, Nat.reducePow, Nat.reduceEqDiff, Nat.reduceLT, Nat.reduceLeDiff, Nat.reduceBEq, Nat.reduceBNe, Int.reduceToNat, Int.reduceLT, Int.reduceLE, Int.reduceEq, Int.reduceBNe, Int.reduceBEq, Int.reduceAdd, Int.reduceSub, Int.reduceMul, Int.reduceNeg, ↓reduceIte]
  (repeat' (with_reducible first | refine And.intro ?_ ?_ | exact DrawN.mk (by kernel_rfl) | exact OkN.mk (by kernel_rfl))) <;> try omega
  refine CallN.pure h6 ?_
  simp only [go_sem, Nat.reduceAdd, Nat.reduceSub, Nat.reduceMul, Nat.reducePow, Nat.reduceEqDiff, Nat.reduceLT, Nat.reduceLeDiff, Nat.reduceBEq, Nat.reduceBNe, Int.reduceToNat, Int.reduceLT, Int.reduceLE, Int.reduceEq, Int.reduceBNe, Int.reduceBEq, Int.reduceAdd, Int.reduceSub, Int.reduceMul, Int.reduceNeg, ↓reduceIte]
  (repeat' (with_reducible first | refine And.intro ?_ ?_ | exact DrawN.mk (by kernel_rfl) | exact OkN.mk (by kernel_rfl))) <;> try omega
  refine CallN.pure h7 ?_
  simp only [go_sem, Nat.reduceAdd, Nat.reduceSub, Nat.reduceMul, Nat.reducePow, Nat.reduceEqDiff, Nat.reduceLT, Nat.reduceLeDiff, Nat.reduceBEq, Nat.reduceBNe, Int.reduceToNat, Int.reduceLT, Int.reduceLE, Int.reduceEq, Int.reduceBNe, Int.reduceBEq, Int.reduceAdd, Int.reduceSub, Int.reduceMul, Int.reduceNeg, ↓reduceIte]
  (repeat' (with_reducible first | refine And.intro ?_ ?_ | exact DrawN.mk (by kernel_rfl) | exact OkN.mk (by kernel_rfl))) <;> try omega
  refine CallN.pure h8 ?_
  simp only [go_sem, Nat.reduceAdd, Nat.reduceSub, Nat.reduceMul, Nat.reducePow, Nat.reduceEqDiff, Nat.reduceLT, Nat.reduceLeDiff, Nat.reduceBEq, Nat.reduceBNe, Int.reduceToNat, Int.reduceLT, Int.reduceLE, Int.reduceEq, Int.reduceBNe, Int.reduceBEq, Int.reduceAdd, Int.reduceSub, Int.reduceMul, Int.reduceNeg, ↓reduceIte]
  (repeat' (with_reducible first | refine And.intro ?_ ?_ | exact DrawN.mk (by kernel_rfl) | exact OkN.mk (by kernel_rfl))) <;> try omega
  refine CallN.pure h9 ?_
  simp only [go_sem, Nat.reduceAdd, Nat.reduceSub, Nat.reduceMul, Nat.reducePow, Nat.reduceEqDiff, Nat.reduceLT, Nat.reduceLeDiff, Nat.reduceBEq, Nat.reduceBNe, Int.reduceToNat, Int.reduceLT, Int.reduceLE, Int.reduceEq, Int.reduceBNe, Int.reduceBEq, Int.reduceAdd, Int.reduceSub, Int.reduceMul, Int.reduceNeg, ↓reduceIte]
  (repeat' (with_reducible first | refine And.intro ?_ ?_ | exact DrawN.mk (by kernel_rfl) | exact OkN.mk (by kernel_rfl))) <;> try omega
  refine CallN.pure h10 ?_
  simp only [go_sem, Nat.reduceAdd, Nat.reduceSub, Nat.reduceMul, Nat.reducePow, Nat.reduceEqDiff, Nat.reduceLT, Nat.reduceLeDiff, Nat.reduceBEq, Nat.reduceBNe, Int.reduceToNat, Int.reduceLT, Int.reduceLE, Int.reduceEq, Int.reduceBNe, Int.reduceBEq, Int.reduceAdd, Int.reduceSub, Int.reduceMul, Int.reduceNeg, ↓reduceIte]
  (repeat' (with_reducible first | refine And.intro ?_ ?_ | exact DrawN.mk (by kernel_rfl) | exact OkN.mk (by kernel_rfl))) <;> try omega
  clear h1 h2 h3 h4 h5 h6 h7 h8 h9 h10 h0 e6
  rw [foldS13, foldB13]
  generalize hB : mkB13 _ _ _ _ _ _ _ _ _ _ _ _ _ = B
  generalize hN : mkS13 _ _ _ _ _ _ _ _ _ _ _ _ _ = N
  have hBl : B.length = 13 := by rw [← hB]; rfl
  have hNl : N.length = 13 := by rw [← hN]; rfl
  have hres : diffL (parts a b) = diffL (N.zip B) := by rw [← hB, ← hN]; rfl
  rw [hres]
  clear hres hB hN
  have hlen : (N.zip B).length = 13 := by simp [hBl, hNl]
  obtain ⟨L, hL⟩ : ∃ L, L = N.zip B := ⟨_, rfl⟩
  have hat : ∀ (i : Nat) (h1 : i < L.length) (h2 : i < N.length) (h3 : i < B.length), L[i] = (N[i], B[i]) := fun i h1 h2 h3 => by subst hL; exact List.getElem_zip
  rw [← hL] at hlen ⊢
  clear hL
  refine LoopK.walk (S := Unit) 13 [5, 6] [1488, 1504] (fun i _ => [(8, .int .i64 i), (7, .ref 1792)]) (fun i _ => [(1792, .own 1 (txts (diffL (L.take i))))]) (fun _ _ => True) () (by simp only [go_sem, Nat.reduceAdd, Nat.reduceSub, Nat.reduceMul, Nat.reducePow, Nat.reduceEqDiff, Nat.reduceLT, Nat.reduceLeDiff, Nat.reduceBEq, Nat.reduceBNe, Int.reduceToNat, Int.reduceLT, Int.reduceLE, Int.reduceEq, Int.reduceBNe, Int.reduceBEq, Int.reduceAdd, Int.reduceSub, Int.reduceMul, Int.reduceNeg, ↓reduceIte] <;> exact rfl) (by simp only [go_sem, Nat.reduceAdd, Nat.reduceSub, Nat.reduceMul, Nat.reducePow, Nat.reduceEqDiff, Nat.reduceLT, Nat.reduceLeDiff, Nat.reduceBEq, Nat.reduceBNe, Int.reduceToNat, Int.reduceLT, Int.reduceLE, Int.reduceEq, Int.reduceBNe, Int.reduceBEq, Int.reduceAdd, Int.reduceSub, Int.reduceMul, Int.reduceNeg, ↓reduceIte] <;> exact rfl) trivial ?_ ?_ ?_
  · simp only [go_sem, Nat.reduceAdd, Nat.reduceSub, Nat.reduceMul, Nat.reducePow, Nat.reduceEqDiff, Nat.reduceLT, Nat.reduceLeDiff, Nat.reduceBEq, Nat.reduceBNe, Int.reduceToNat, Int.reduceLT, Int.reduceLE, Int.reduceEq, Int.reduceBNe, Int.reduceBEq, Int.reduceAdd, Int.reduceSub, Int.reduceMul, Int.reduceNeg, ↓reduceIte] <;> simp [diffL, txts]
  · intro i _ hi hdi hw _
    have hdi : decide ((i : Int) < 13) = true := hdi
    have hi2 : i < L.length := by omega
    have hi3 : i < N.length := by omega
    have hi4 : i < B.length := by omega
    have hm := txts_at N hi3
    have hm2 := bools_at B hi4
    have hs := diffL_step L hi2
    have hn := diffL_len (L.take i)
    have hn2 : (L.take i).length ≤ 13 := by simp; omega
    have hl1 : (i : Int) < 13 := by omega
    rw [hat i hi2 hi3 hi4] at hs
    simp only at hs
    obtain ⟨x, hx⟩ : ∃ x, x = N[i] := ⟨_, rfl⟩
    obtain ⟨y, hy⟩ : ∃ y, y = B[i] := ⟨_, rfl⟩
    rw [← hx] at hm hs
    rw [← hy] at hm2 hs
    have hNI : ((N.length : Nat) : Int) = 13 := by omega
    have hBI : ((B.length : Nat) : Int) = 13 := by omega
    simp only [go_sem, Nat.reduceAdd, Nat.reduceSub, Nat.reduceMul, Nat.reducePow, Nat.reduceEqDiff, Nat.reduceLT, Nat.reduceLeDiff, Nat.reduceBEq, Nat.reduceBNe, Int.reduceToNat, Int.reduceLT, Int.reduceLE, Int.reduceEq, Int.reduceBNe, Int.reduceBEq, Int.reduceAdd, Int.reduceSub, Int.reduceMul, Int.reduceNeg, ↓reduceIte, hdi, hm, hm2, hNI, hBI]
    (repeat' (with_reducible first | refine And.intro ?_ ?_ | exact DrawN.mk (by kernel_rfl) | exact OkN.mk (by kernel_rfl))) <;> try omega
    cases y
    · simp only [Bool.false_eq_true, if_false] at hs
      simp only [go_sem, Nat.reduceAdd, Nat.reduceSub, Nat.reduceMul, Nat.reducePow, Nat.reduceEqDiff, Nat.reduceLT, Nat.reduceLeDiff, Nat.reduceBEq, Nat.reduceBNe, Int.reduceToNat, Int.reduceLT, Int.reduceLE, Int.reduceEq, Int.reduceBNe, Int.reduceBEq, Int.reduceAdd, Int.reduceSub, Int.reduceMul, Int.reduceNeg, ↓reduceIte, hw, hm]
      (repeat' (with_reducible first | refine And.intro ?_ ?_ | exact DrawN.mk (by kernel_rfl) | exact OkN.mk (by kernel_rfl))) <;> try omega
      try simp only [go_sem, Nat.reduceAdd, Nat.reduceSub, Nat.reduceMul, Nat.reducePow, Nat.reduceEqDiff, Nat.reduceLT, Nat.reduceLeDiff, Nat.reduceBEq, Nat.reduceBNe, Int.reduceToNat, Int.reduceLT, Int.reduceLE, Int.reduceEq, Int.reduceBNe, Int.reduceBEq, Int.reduceAdd, Int.reduceSub, Int.reduceMul, Int.reduceNeg, ↓reduceIte, hw, hm]
      try (repeat' (with_reducible first | refine And.intro ?_ ?_ | exact DrawN.mk (by kernel_rfl) | exact OkN.mk (by kernel_rfl))) <;> try omega
      refine RoundK.step () hi trivial ?_
      simp only [go_sem, Nat.reduceAdd, Nat.reduceSub, Nat.reduceMul, Nat.reducePow, Nat.reduceEqDiff, Nat.reduceLT, Nat.reduceLeDiff, Nat.reduceBEq, Nat.reduceBNe, Int.reduceToNat, Int.reduceLT, Int.reduceLE, Int.reduceEq, Int.reduceBNe, Int.reduceBEq, Int.reduceAdd, Int.reduceSub, Int.reduceMul, Int.reduceNeg, ↓reduceIte, hs] <;> simp [txts]
    · simp only [if_true] at hs
      simp only [go_sem, Nat.reduceAdd, Nat.reduceSub, Nat.reduceMul, Nat.reducePow, Nat.reduceEqDiff, Nat.reduceLT, Nat.reduceLeDiff, Nat.reduceBEq, Nat.reduceBNe, Int.reduceToNat, Int.reduceLT, Int.reduceLE, Int.reduceEq, Int.reduceBNe, Int.reduceBEq, Int.reduceAdd, Int.reduceSub, Int.reduceMul, Int.reduceNeg, ↓reduceIte, hw]
      refine RoundK.step () hi trivial ?_
      simp only [go_sem, Nat.reduceAdd, Nat.reduceSub, Nat.reduceMul, Nat.reducePow, Nat.reduceEqDiff, Nat.reduceLT, Nat.reduceLeDiff, Nat.reduceBEq, Nat.reduceBNe, Int.reduceToNat, Int.reduceLT, Int.reduceLE, Int.reduceEq, Int.reduceBNe, Int.reduceBEq, Int.reduceAdd, Int.reduceSub, Int.reduceMul, Int.reduceNeg, ↓reduceIte, hs]
  · intro _ hdx _
    have hdx : decide ((13 : Int) < 13) = false := hdx
    have hBI : ((B.length : Nat) : Int) = 13 := by omega
    have ht : L.take 13 = L := List.take_of_length_le (by omega)
    simp only [go_sem, Nat.reduceAdd, Nat.reduceSub, Nat.reduceMul, Nat.reducePow, Nat.reduceEqDiff, Nat.reduceLT, Nat.reduceLeDiff, Nat.reduceBEq, Nat.reduceBNe, Int.reduceToNat, Int.reduceLT, Int.reduceLE, Int.reduceEq, Int.reduceBNe, Int.reduceBEq, Int.reduceAdd, Int.reduceSub, Int.reduceMul, Int.reduceNeg, ↓reduceIte, hBI, hdx, ht]
end Go.Proofs.YtbllopdcbkeadaaGreat
set_option linter.unusedSimpArgs false
set_option linter.unusedVariables false
namespace Go.Proofs.YtbllopdcbkeadaaGreat
open Go.Abs
def longB (r : ReplyV) : Bool := decide (1200 < (r.dues.length : Int)) || decide (1200 < (r.falls.length : Int))
theorem long_spec (r : ReplyV) : Abs.Spec Tryz.prog 61 [] [.agg r.cells] [] (.bool (longB r)) := by
  simp only [ReplyV.cells, longB]
  refine Abs.Spec.go (n := 13) (np := 1) (rs := [.tmp 2]) mixed Tryz.func61 rfl rfl rfl rfl rfl (by simp) (by simp) ?_
  simp only [go_sem, Nat.reduceAdd, Nat.reduceSub, Nat.reduceMul, Nat.reducePow, Nat.reduceEqDiff, Nat.reduceLT, Nat.reduceLeDiff, Nat.reduceBEq, Nat.reduceBNe, Int.reduceToNat, Int.reduceLT, Int.reduceLE, Int.reduceEq, Int.reduceBNe, Int.reduceBEq, Int.reduceAdd, Int.reduceSub, Int.reduceMul, Int.reduceNeg, ↓reduceIte, List.length_map]
  cases d1 : decide (1200 < (r.dues.length : Int))
  case true => simp only [go_sem, Nat.reduceAdd, Nat.reduceSub, Nat.reduceMul, Nat.reducePow, Nat.reduceEqDiff, Nat.reduceLT, Nat.reduceLeDiff, Nat.reduceBEq, Nat.reduceBNe, Int.reduceToNat, Int.reduceLT, Int.reduceLE, Int.reduceEq, Int.reduceBNe, Int.reduceBEq, Int.reduceAdd, Int.reduceSub, Int.reduceMul, Int.reduceNeg, ↓reduceIte, d1, List.length_map, Bool.true_or]
  simp only [go_sem, Nat.reduceAdd, Nat.reduceSub, Nat.reduceMul, Nat.reducePow, Nat.reduceEqDiff, Nat.reduceLT, Nat.reduceLeDiff, Nat.reduceBEq, Nat.reduceBNe, Int.reduceToNat, Int.reduceLT, Int.reduceLE, Int.reduceEq, Int.reduceBNe, Int.reduceBEq, Int.reduceAdd, Int.reduceSub, Int.reduceMul, Int.reduceNeg, ↓reduceIte, d1, List.length_map, Bool.false_or]
def heavyF (s : StateV) : Bool := decide (1200 < (s.roll.ms.length : Int)) || (decide (1200 < (s.roll.ns.length : Int)) || (decide (1200 < (s.roll.xs.length : Int)) || (decide (1200 < (s.book.ts.length : Int)) || (decide (1200 < (s.book.qs.length : Int)) || (decide (1200 < (s.led.bs.length : Int)) || (decide (1200 < (s.ps.length : Int)) || (decide (1200 < (s.calls.length : Int)) || (decide (1200 < (s.bids.length : Int)) || (decide (100 < (s.seats.length : Int)))))))))))
def heavy24 (s : StateV) : Bool := heavyF s || s.seats.any (fun x => longB x.r)
set_option maxHeartbeats 1000000 in
set_option maxRecDepth 8000 in
theorem heavy24_spec (s : StateV) : Abs.Spec Tryz.prog 14 [] [.agg s.cells] [] (.bool (heavy24 s)) := by
  have hpl : (pl s.ps).length = s.ps.length := pl_len s.ps
  have hc := fun x => long_spec x
  simp only [StateV.cells]
  refine Abs.Spec.go (n := 82) (np := 1) (rs := [.tmp 2]) mixed Tryz.func14 rfl rfl rfl rfl rfl (by simp) (by simp) ?_
  simp only [go_sem, Nat.reduceAdd, Nat.reduceSub, Nat.reduceMul, Nat.reducePow, Nat.reduceEqDiff, Nat.reduceLT, Nat.reduceLeDiff, Nat.reduceBEq, Nat.reduceBNe, Int.reduceToNat, Int.reduceLT, Int.reduceLE, Int.reduceEq, Int.reduceBNe, Int.reduceBEq, Int.reduceAdd, Int.reduceSub, Int.reduceMul, Int.reduceNeg, ↓reduceIte, List.length_map, hpl]
  cases d0 : decide (1200 < (s.roll.ms.length : Int))
  case true =>
    have e : heavy24 s = true := by simp only [heavy24, heavyF, d0, Bool.true_or, Bool.false_or]
    simp only [go_sem, Nat.reduceAdd, Nat.reduceSub, Nat.reduceMul, Nat.reducePow, Nat.reduceEqDiff, Nat.reduceLT, Nat.reduceLeDiff, Nat.reduceBEq, Nat.reduceBNe, Int.reduceToNat, Int.reduceLT, Int.reduceLE, Int.reduceEq, Int.reduceBNe, Int.reduceBEq, Int.reduceAdd, Int.reduceSub, Int.reduceMul, Int.reduceNeg, ↓reduceIte, d0, e, List.length_map, hpl]
  cases d1 : decide (1200 < (s.roll.ns.length : Int))
  case true =>
    have e : heavy24 s = true := by simp only [heavy24, heavyF, d0, d1, Bool.true_or, Bool.false_or]
    simp only [go_sem, Nat.reduceAdd, Nat.reduceSub, Nat.reduceMul, Nat.reducePow, Nat.reduceEqDiff, Nat.reduceLT, Nat.reduceLeDiff, Nat.reduceBEq, Nat.reduceBNe, Int.reduceToNat, Int.reduceLT, Int.reduceLE, Int.reduceEq, Int.reduceBNe, Int.reduceBEq, Int.reduceAdd, Int.reduceSub, Int.reduceMul, Int.reduceNeg, ↓reduceIte, d0, d1, e, List.length_map, hpl]
  cases d2 : decide (1200 < (s.roll.xs.length : Int))
  case true =>
    have e : heavy24 s = true := by simp only [heavy24, heavyF, d0, d1, d2, Bool.true_or, Bool.false_or]
    simp only [go_sem, Nat.reduceAdd, Nat.reduceSub, Nat.reduceMul, Nat.reducePow, Nat.reduceEqDiff, Nat.reduceLT, Nat.reduceLeDiff, Nat.reduceBEq, Nat.reduceBNe, Int.reduceToNat, Int.reduceLT, Int.reduceLE, Int.reduceEq, Int.reduceBNe, Int.reduceBEq, Int.reduceAdd, Int.reduceSub, Int.reduceMul, Int.reduceNeg, ↓reduceIte, d0, d1, d2, e, List.length_map, hpl]
  cases d3 : decide (1200 < (s.book.ts.length : Int))
  case true =>
    have e : heavy24 s = true := by simp only [heavy24, heavyF, d0, d1, d2, d3, Bool.true_or, Bool.false_or]
    simp only [go_sem, Nat.reduceAdd, Nat.reduceSub, Nat.reduceMul, Nat.reducePow, Nat.reduceEqDiff, Nat.reduceLT, Nat.reduceLeDiff, Nat.reduceBEq, Nat.reduceBNe, Int.reduceToNat, Int.reduceLT, Int.reduceLE, Int.reduceEq, Int.reduceBNe, Int.reduceBEq, Int.reduceAdd, Int.reduceSub, Int.reduceMul, Int.reduceNeg, ↓reduceIte, d0, d1, d2, d3, e, List.length_map, hpl]
  cases d4 : decide (1200 < (s.book.qs.length : Int))
  case true =>
    have e : heavy24 s = true := by simp only [heavy24, heavyF, d0, d1, d2, d3, d4, Bool.true_or, Bool.false_or]
    simp only [go_sem, Nat.reduceAdd, Nat.reduceSub, Nat.reduceMul, Nat.reducePow, Nat.reduceEqDiff, Nat.reduceLT, Nat.reduceLeDiff, Nat.reduceBEq, Nat.reduceBNe, Int.reduceToNat, Int.reduceLT, Int.reduceLE, Int.reduceEq, Int.reduceBNe, Int.reduceBEq, Int.reduceAdd, Int.reduceSub, Int.reduceMul, Int.reduceNeg, ↓reduceIte, d0, d1, d2, d3, d4, e, List.length_map, hpl]
  cases d5 : decide (1200 < (s.led.bs.length : Int))
  case true =>
    have e : heavy24 s = true := by simp only [heavy24, heavyF, d0, d1, d2, d3, d4, d5, Bool.true_or, Bool.false_or]
    simp only [go_sem, Nat.reduceAdd, Nat.reduceSub, Nat.reduceMul, Nat.reducePow, Nat.reduceEqDiff, Nat.reduceLT, Nat.reduceLeDiff, Nat.reduceBEq, Nat.reduceBNe, Int.reduceToNat, Int.reduceLT, Int.reduceLE, Int.reduceEq, Int.reduceBNe, Int.reduceBEq, Int.reduceAdd, Int.reduceSub, Int.reduceMul, Int.reduceNeg, ↓reduceIte, d0, d1, d2, d3, d4, d5, e, List.length_map, hpl]
  cases d6 : decide (1200 < (s.ps.length : Int))
  case true =>
    have e : heavy24 s = true := by simp only [heavy24, heavyF, d0, d1, d2, d3, d4, d5, d6, Bool.true_or, Bool.false_or]
    simp only [go_sem, Nat.reduceAdd, Nat.reduceSub, Nat.reduceMul, Nat.reducePow, Nat.reduceEqDiff, Nat.reduceLT, Nat.reduceLeDiff, Nat.reduceBEq, Nat.reduceBNe, Int.reduceToNat, Int.reduceLT, Int.reduceLE, Int.reduceEq, Int.reduceBNe, Int.reduceBEq, Int.reduceAdd, Int.reduceSub, Int.reduceMul, Int.reduceNeg, ↓reduceIte, d0, d1, d2, d3, d4, d5, d6, e, List.length_map, hpl]
  cases d7 : decide (1200 < (s.calls.length : Int))
  case true =>
    have e : heavy24 s = true := by simp only [heavy24, heavyF, d0, d1, d2, d3, d4, d5, d6, d7, Bool.true_or, Bool.false_or]
    simp only [go_sem, Nat.reduceAdd, Nat.reduceSub, Nat.reduceMul, Nat.reducePow, Nat.reduceEqDiff, Nat.reduceLT, Nat.reduceLeDiff, Nat.reduceBEq, Nat.reduceBNe, Int.reduceToNat, Int.reduceLT, Int.reduceLE, Int.reduceEq, Int.reduceBNe, Int.reduceBEq, Int.reduceAdd, Int.reduceSub, Int.reduceMul, Int.reduceNeg, ↓reduceIte, d0, d1, d2, d3, d4, d5, d6, d7, e, List.length_map, hpl]
  cases d8 : decide (1200 < (s.bids.length : Int))
  case true =>
    have e : heavy24 s = true := by simp only [heavy24, heavyF, d0, d1, d2, d3, d4, d5, d6, d7, d8, Bool.true_or, Bool.false_or]
    simp only [go_sem, Nat.reduceAdd, Nat.reduceSub, Nat.reduceMul, Nat.reducePow, Nat.reduceEqDiff, Nat.reduceLT, Nat.reduceLeDiff, Nat.reduceBEq, Nat.reduceBNe, Int.reduceToNat, Int.reduceLT, Int.reduceLE, Int.reduceEq, Int.reduceBNe, Int.reduceBEq, Int.reduceAdd, Int.reduceSub, Int.reduceMul, Int.reduceNeg, ↓reduceIte, d0, d1, d2, d3, d4, d5, d6, d7, d8, e, List.length_map, hpl]
  cases d9 : decide (100 < (s.seats.length : Int))
  case true =>
    have e : heavy24 s = true := by simp only [heavy24, heavyF, d0, d1, d2, d3, d4, d5, d6, d7, d8, d9, Bool.true_or, Bool.false_or]
    simp only [go_sem, Nat.reduceAdd, Nat.reduceSub, Nat.reduceMul, Nat.reducePow, Nat.reduceEqDiff, Nat.reduceLT, Nat.reduceLeDiff, Nat.reduceBEq, Nat.reduceBNe, Int.reduceToNat, Int.reduceLT, Int.reduceLE, Int.reduceEq, Int.reduceBNe, Int.reduceBEq, Int.reduceAdd, Int.reduceSub, Int.reduceMul, Int.reduceNeg, ↓reduceIte, d0, d1, d2, d3, d4, d5, d6, d7, d8, d9, e, List.length_map, hpl]
  have e : heavy24 s = s.seats.any (fun x => longB x.r) := by simp only [heavy24, heavyF, d0, d1, d2, d3, d4, d5, d6, d7, d8, d9, Bool.false_or]
  rw [e]
  clear e
  have hsl : s.seats.length ≤ 100 := by simp only [decide_eq_false_iff_not] at d9; omega
  simp only [go_sem, Nat.reduceAdd, Nat.reduceSub, Nat.reduceMul, Nat.reducePow, Nat.reduceEqDiff, Nat.reduceLT, Nat.reduceLeDiff, Nat.reduceBEq, Nat.reduceBNe, Int.reduceToNat, Int.reduceLT, Int.reduceLE, Int.reduceEq, Int.reduceBNe, Int.reduceBEq, Int.reduceAdd, Int.reduceSub, Int.reduceMul, Int.reduceNeg, ↓reduceIte, d0, d1, d2, d3, d4, d5, d6, d7, d8, d9, List.length_map, hpl]
  clear d0 d1 d2 d3 d4 d5 d6 d7 d8 d9
  refine LoopK.walk (S := Unit) s.seats.length [1] [32] (fun i _ => [(3, .int .i64 i)]) (fun i _ => []) (fun i _ => ∀ j (hj : j < s.seats.length), j < i → longB s.seats[j].r = false) () (by simp only [go_sem, Nat.reduceAdd, Nat.reduceSub, Nat.reduceMul, Nat.reducePow, Nat.reduceEqDiff, Nat.reduceLT, Nat.reduceLeDiff, Nat.reduceBEq, Nat.reduceBNe, Int.reduceToNat, Int.reduceLT, Int.reduceLE, Int.reduceEq, Int.reduceBNe, Int.reduceBEq, Int.reduceAdd, Int.reduceSub, Int.reduceMul, Int.reduceNeg, ↓reduceIte] <;> exact rfl) (by simp only [go_sem, Nat.reduceAdd, Nat.reduceSub, Nat.reduceMul, Nat.reducePow, Nat.reduceEqDiff, Nat.reduceLT, Nat.reduceLeDiff, Nat.reduceBEq, Nat.reduceBNe, Int.reduceToNat, Int.reduceLT, Int.reduceLE, Int.reduceEq, Int.reduceBNe, Int.reduceBEq, Int.reduceAdd, Int.reduceSub, Int.reduceMul, Int.reduceNeg, ↓reduceIte] <;> exact rfl) (by intros; omega) ?_ ?_ ?_
  · simp only [go_sem, Nat.reduceAdd, Nat.reduceSub, Nat.reduceMul, Nat.reducePow, Nat.reduceEqDiff, Nat.reduceLT, Nat.reduceLeDiff, Nat.reduceBEq, Nat.reduceBNe, Int.reduceToNat, Int.reduceLT, Int.reduceLE, Int.reduceEq, Int.reduceBNe, Int.reduceBEq, Int.reduceAdd, Int.reduceSub, Int.reduceMul, Int.reduceNeg, ↓reduceIte] <;> simp
  · intro i _ hi hdi hw hI
    have hm := map_at (c := SeatV.cells) s.seats hi
    have hc := hc s.seats[i].r
    have hli : (i : Int) < (s.seats.length : Int) := by omega
    simp only [SeatV.cells] at hm
    simp only [go_sem, Nat.reduceAdd, Nat.reduceSub, Nat.reduceMul, Nat.reducePow, Nat.reduceEqDiff, Nat.reduceLT, Nat.reduceLeDiff, Nat.reduceBEq, Nat.reduceBNe, Int.reduceToNat, Int.reduceLT, Int.reduceLE, Int.reduceEq, Int.reduceBNe, Int.reduceBEq, Int.reduceAdd, Int.reduceSub, Int.reduceMul, Int.reduceNeg, ↓reduceIte, hdi, List.length_map, hm]
    (repeat' (with_reducible first | refine And.intro ?_ ?_ | exact DrawN.mk (by kernel_rfl) | exact OkN.mk (by kernel_rfl))) <;> try omega
    refine CallN.pure hc ?_
    cases b : longB s.seats[i].r
    case true =>
      have e : s.seats.any (fun x => longB x.r) = true := List.any_eq_true.2 ⟨_, List.getElem_mem hi, b⟩
      simp only [go_sem, Nat.reduceAdd, Nat.reduceSub, Nat.reduceMul, Nat.reducePow, Nat.reduceEqDiff, Nat.reduceLT, Nat.reduceLeDiff, Nat.reduceBEq, Nat.reduceBNe, Int.reduceToNat, Int.reduceLT, Int.reduceLE, Int.reduceEq, Int.reduceBNe, Int.reduceBEq, Int.reduceAdd, Int.reduceSub, Int.reduceMul, Int.reduceNeg, ↓reduceIte, e]
    simp only [go_sem, Nat.reduceAdd, Nat.reduceSub, Nat.reduceMul, Nat.reducePow, Nat.reduceEqDiff, Nat.reduceLT, Nat.reduceLeDiff, Nat.reduceBEq, Nat.reduceBNe, Int.reduceToNat, Int.reduceLT, Int.reduceLE, Int.reduceEq, Int.reduceBNe, Int.reduceBEq, Int.reduceAdd, Int.reduceSub, Int.reduceMul, Int.reduceNeg, ↓reduceIte, hw]
    refine RoundK.step () hi (fun j hj hji => ?_) ?_
    · rcases Nat.lt_or_ge j i with h | h
      · exact hI j hj h
      · obtain rfl : j = i := by omega
        exact b
    · simp only [go_sem, Nat.reduceAdd, Nat.reduceSub, Nat.reduceMul, Nat.reducePow, Nat.reduceEqDiff, Nat.reduceLT, Nat.reduceLeDiff, Nat.reduceBEq, Nat.reduceBNe, Int.reduceToNat, Int.reduceLT, Int.reduceLE, Int.reduceEq, Int.reduceBNe, Int.reduceBEq, Int.reduceAdd, Int.reduceSub, Int.reduceMul, Int.reduceNeg, ↓reduceIte]
  · intro _ hdx hI
    have e : s.seats.any (fun x => longB x.r) = false := List.any_eq_false.2 fun x hx => by
      obtain ⟨j, hj, rfl⟩ := List.mem_iff_getElem.1 hx
      simpa using hI j hj hj
    simp only [go_sem, Nat.reduceAdd, Nat.reduceSub, Nat.reduceMul, Nat.reducePow, Nat.reduceEqDiff, Nat.reduceLT, Nat.reduceLeDiff, Nat.reduceBEq, Nat.reduceBNe, Int.reduceToNat, Int.reduceLT, Int.reduceLE, Int.reduceEq, Int.reduceBNe, Int.reduceBEq, Int.reduceAdd, Int.reduceSub, Int.reduceMul, Int.reduceNeg, ↓reduceIte, List.length_map, hdx, e]
theorem heavy24_no {s : StateV} (h : heavy24 s = false) (hr : s.rng) : s.mid ∧ s.book.qs.length < 2 ^ 11 ∧ s.roll.ns.length < 2 ^ 11 := by
  simp only [heavy24, heavyF, Bool.or_eq_false_iff, decide_eq_false_iff_not] at h
  refine ⟨⟨⟨⟨by omega, by omega, by omega⟩, ⟨by omega, by omega⟩, by omega, by omega, by omega, by omega, by omega, fun x hx => (hr.seats x hx).2.2.2.2.2.2.2⟩, by omega, by omega, by omega⟩, by omega, by omega⟩
def zeroS (n : Int) : StateV := ⟨n, 0, 0, ⟨[], [], []⟩, ⟨0, [], []⟩, ⟨0, []⟩, [], [], [], []⟩
theorem zeroS_rng {n : Int} (h : I64 n) : (zeroS n).rng := by
  have h0 : I64 0 := ⟨by decide, by decide⟩
  refine ⟨h, h0, h0, ?_, ?_, ?_, h0, ?_, ?_, h0, ?_, ?_, ?_, ?_, ?_⟩ <;> simp [zeroS]
theorem zeroS_mid (n : Int) : (zeroS n).mid := by
  refine ⟨⟨⟨?_, ?_, ?_⟩, ⟨?_, ?_⟩, ?_, ?_, ?_, ?_, ?_, ?_⟩, ?_, ?_, ?_⟩ <;> simp [zeroS]
theorem zero_holds : holdsB (zeroS 0) = true := by kernel_rfl
theorem zero_diff : diffL (parts (zeroS 0) (zeroS 1)) = [⟨#[67, 108, 111, 99, 107]⟩] := by kernel_rfl
set_option maxRecDepth 8000 in
theorem wakes27_spec : Abs.Spec Tryz.prog 23 [] [] [] (.bool true) := by
  have h1 := auditDiff_spec (zeroS 0) (zeroS 1) (zeroS_mid 0).small
  have h2 := auditHolds_spec (zeroS 0) (zeroS_mid 0) (by simp [zeroS]) (by simp [zeroS]) (zeroS_rng ⟨by decide, by decide⟩)
  rw [zero_diff] at h1
  rw [zero_holds] at h2
  simp only [StateV.cells, zeroS, List.map_nil] at h1 h2
  replace h1 := Spec.le_args h1 (ds' := [.agg [.int .i64 0, .int .i64 0, .int .i64 0, .nil, .nil, .nil, .int .i64 0, .nil, .nil, .int .i64 0, .nil, .nil, .nil, .nil, .nil], .agg [.int .i64 1, .int .i64 0, .int .i64 0, .nil, .nil, .nil, .int .i64 0, .nil, .nil, .int .i64 0, .nil, .nil, .nil, .nil, .nil]]) (by simp [leDL, leD, pl])
  replace h2 := Spec.le_args h2 (ds' := [.agg [.int .i64 0, .int .i64 0, .int .i64 0, .nil, .nil, .nil, .int .i64 0, .nil, .nil, .int .i64 0, .nil, .nil, .nil, .nil, .nil]]) (by simp [leDL, leD, pl])
  refine Abs.Spec.go (n := 19) (np := 0) (rs := [.tmp 0]) mixed Tryz.func23 rfl rfl rfl rfl rfl (by simp) (by simp) ?_
  simp only [go_sem, Nat.reduceAdd, Nat.reduceSub, Nat.reduceMul, Nat.reducePow, Nat.reduceEqDiff, Nat.reduceLT, Nat.reduceLeDiff, Nat.reduceBEq, Nat.reduceBNe, Int.reduceToNat, Int.reduceLT, Int.reduceLE, Int.reduceEq, Int.reduceBNe, Int.reduceBEq, Int.reduceAdd, Int.reduceSub, Int.reduceMul, Int.reduceNeg, ↓reduceIte]
  refine CallN.gen [] [] false (by simp) ?_
  simp only [go_sem, Nat.reduceAdd, Nat.reduceSub, Nat.reduceMul, Nat.reducePow, Nat.reduceEqDiff, Nat.reduceLT, Nat.reduceLeDiff, Nat.reduceBEq, Nat.reduceBNe, Int.reduceToNat, Int.reduceLT, Int.reduceLE, Int.reduceEq, Int.reduceBNe, Int.reduceBEq, Int.reduceAdd, Int.reduceSub, Int.reduceMul, Int.reduceNeg, ↓reduceIte]
  refine CallG.intro h1 ?_
  simp only [go_sem, Nat.reduceAdd, Nat.reduceSub, Nat.reduceMul, Nat.reducePow, Nat.reduceEqDiff, Nat.reduceLT, Nat.reduceLeDiff, Nat.reduceBEq, Nat.reduceBNe, Int.reduceToNat, Int.reduceLT, Int.reduceLE, Int.reduceEq, Int.reduceBNe, Int.reduceBEq, Int.reduceAdd, Int.reduceSub, Int.reduceMul, Int.reduceNeg, ↓reduceIte, txts, List.map_cons, List.map_nil, List.length_cons, List.length_nil]
  refine CallN.pure h2 ?_
  simp only [go_sem, Nat.reduceAdd, Nat.reduceSub, Nat.reduceMul, Nat.reducePow, Nat.reduceEqDiff, Nat.reduceLT, Nat.reduceLeDiff, Nat.reduceBEq, Nat.reduceBNe, Int.reduceToNat, Int.reduceLT, Int.reduceLE, Int.reduceEq, Int.reduceBNe, Int.reduceBEq, Int.reduceAdd, Int.reduceSub, Int.reduceMul, Int.reduceNeg, ↓reduceIte]
end Go.Proofs.YtbllopdcbkeadaaGreat
set_option linter.unusedSimpArgs false
set_option linter.unusedVariables false
namespace Go.Proofs.YtbllopdcbkeadaaGreat
open Go.Abs
@[reducible] def intc (x : Int) : List D := [.int .i64 x]
end Go.Proofs.YtbllopdcbkeadaaGreat
set_option linter.unusedSimpArgs false
set_option linter.unusedVariables false
namespace Go.Proofs.YtbllopdcbkeadaaGreat
open Go.Abs
theorem frz10 (n0 n1 n2 n3 n4 : Int) (r0 r1 r2 r3 r4 r5 r6 r7 r8 r9 : List (List D)) : (frzEL [0, 1, 2, 3, 4, 5, 6, 7, 8, 9] (mkE [(0, .agg [.int .i64 n0, .int .i64 n1, .int .i64 n2, .ref 0, .ref 1, .ref 2, .int .i64 n3, .ref 3, .ref 4, .int .i64 n4, .ref 5, .ref 6, .ref 7, .ref 8, .ref 9])] (osL 0 [.own 3 r0, .own 12 r1, .own 4 r2, .own 7 r3, .own 4 r4, .own 4 r5, .own 3 r6, .own 4 r7, .own 5 r8, .own 7 r9]))).t 0 = .agg [.int .i64 n0, .int .i64 n1, .int .i64 n2, .sl 3 r0, .sl 12 r1, .sl 4 r2, .int .i64 n3, .sl 7 r3, .sl 4 r4, .int .i64 n4, .sl 4 r5, .sl 3 r6, .sl 4 r7, .sl 5 r8, .sl 7 r9] := by
  kernel_rfl
theorem frz10o (d : D) (r0 r1 r2 r3 r4 r5 r6 r7 r8 r9 : List (List D)) (r : Nat) : (frzEL [0, 1, 2, 3, 4, 5, 6, 7, 8, 9] (mkE [(0, d)] (osL 0 [.own 3 r0, .own 12 r1, .own 4 r2, .own 7 r3, .own 4 r4, .own 4 r5, .own 3 r6, .own 4 r7, .own 5 r8, .own 7 r9]))).o r = [].getD r .undef := by
  rcases r with _ | _ | _ | _ | _ | _ | _ | _ | _ | _ | r <;> kernel_rfl
theorem twinState_frozen (s : StateV) (hs : s.small) : Abs.Spec Tryz.prog 7 [] [.agg s.cells] [] (.agg s.cells) := by
  have h := twinState_spec s hs
  simp only [stOwn, stRefs] at h
  simp only [StateV.cells]
  simp only [StateV.cells] at h
  exact Spec.frozen h [0, 1, 2, 3, 4, 5, 6, 7, 8, 9] (frz10 ..) (fun r => frz10o ..)
theorem refDiff_frozen (a b : StateV) (h : a.small) : Abs.Spec Tryz.prog 26 [] [.agg a.cells, .agg b.cells] [] (.sl 1 (txts (diffL (parts a b)))) := by
  refine Spec.frozen (refDiff_spec a b h) [0] ?_ ?_
  · rfl
  · intro r
    rcases r with _ | r <;> rfl
theorem auditSame_spec (a b : StateV) (h : a.small) : Abs.Spec Tryz.prog 27 [] [.agg a.cells, .agg b.cells] [] (.bool (((diffL (parts a b)).length : Int) == 0)) := by
  have hD := auditDiff_spec a b h
  simp only [StateV.cells] at hD ⊢
  refine Abs.Spec.go (n := 10) (np := 2) (rs := [.tmp 4]) mixed Tryz.func27 rfl rfl rfl rfl rfl (by simp) (by simp) ?_
  simp only [go_sem, Nat.reduceAdd, Nat.reduceSub, Nat.reduceMul, Nat.reducePow, Nat.reduceEqDiff, Nat.reduceLT, Nat.reduceLeDiff, Nat.reduceBEq, Nat.reduceBNe, Int.reduceToNat, Int.reduceLT, Int.reduceLE, Int.reduceEq, Int.reduceBNe, Int.reduceBEq, Int.reduceAdd, Int.reduceSub, Int.reduceMul, Int.reduceNeg, ↓reduceIte]
  refine CallN.gen [] [] true (by simp) ?_
  simp only [go_sem, Nat.reduceAdd, Nat.reduceSub, Nat.reduceMul, Nat.reducePow, Nat.reduceEqDiff, Nat.reduceLT, Nat.reduceLeDiff, Nat.reduceBEq, Nat.reduceBNe, Int.reduceToNat, Int.reduceLT, Int.reduceLE, Int.reduceEq, Int.reduceBNe, Int.reduceBEq, Int.reduceAdd, Int.reduceSub, Int.reduceMul, Int.reduceNeg, ↓reduceIte]
  refine CallG.intro hD ?_
  simp only [go_sem, Nat.reduceAdd, Nat.reduceSub, Nat.reduceMul, Nat.reducePow, Nat.reduceEqDiff, Nat.reduceLT, Nat.reduceLeDiff, Nat.reduceBEq, Nat.reduceBNe, Int.reduceToNat, Int.reduceLT, Int.reduceLE, Int.reduceEq, Int.reduceBNe, Int.reduceBEq, Int.reduceAdd, Int.reduceSub, Int.reduceMul, Int.reduceNeg, ↓reduceIte]
  simp [txts]
theorem diffL_nil (L : List (ByteArray × Bool)) : (((diffL L).length : Int) == 0) = L.all (·.2) := by
  rw [Bool.eq_iff_iff]
  simp [diffL]
theorem parts_same (a b : StateV) : (((diffL (parts a b)).length : Int) == 0) = sameS a b := by
  rw [diffL_nil, Bool.eq_iff_iff]
  simp only [parts, mk13, List.all_cons, List.all_nil, sameS, Bool.and_eq_true, decide_eq_true_eq, beq_iff_eq, Bool.and_true]
  constructor
  · rintro ⟨⟨h1, h2, h3⟩, h4, h5, h6, h7, h8, h9, h10, h11, h12, h13, h14, h15⟩
    exact ⟨⟨h1, h2, h3⟩, ⟨h4, h5, h6⟩, ⟨h7, h8, h9⟩, ⟨h10, h11⟩, h12, h13, h14, h15⟩
  · rintro ⟨⟨h1, h2, h3⟩, ⟨h4, h5, h6⟩, ⟨h7, h8, h9⟩, ⟨h10, h11⟩, h12, h13, h14, h15⟩
    exact ⟨⟨h1, h2, h3⟩, h4, h5, h6, h7, h8, h9, h10, h11, h12, h13, h14, h15⟩
set_option maxHeartbeats 1000000 in
set_option maxRecDepth 8000 in
theorem law_auditDiffs (a b : StateV) (ha : a.rng) (hb : b.rng) : Abs.Spec Tryz.prog 5 [] [.agg a.cells, .agg b.cells] [] (.bool true) := by
  have hwk := wakes27_spec
  have hH := heavy24_spec a
  have hH2 := heavy24_spec b
  cases b1 : heavy24 a
  case true =>
    rw [b1] at hH
    simp only [StateV.cells] at hH ⊢
    refine Abs.Spec.go (n := 68) (np := 2) (rs := [.tmp 4]) mixed Tryz.func5 rfl rfl rfl rfl rfl (by simp) (by simp) ?_
    simp only [go_sem, Nat.reduceAdd, Nat.reduceSub, Nat.reduceMul, Nat.reducePow, Nat.reduceEqDiff, Nat.reduceLT, Nat.reduceLeDiff, Nat.reduceBEq, Nat.reduceBNe, Int.reduceToNat, Int.reduceLT, Int.reduceLE, Int.reduceEq, Int.reduceBNe, Int.reduceBEq, Int.reduceAdd, Int.reduceSub, Int.reduceMul, Int.reduceNeg, ↓reduceIte]
    refine CallN.pure hH ?_
    simp only [go_sem, Nat.reduceAdd, Nat.reduceSub, Nat.reduceMul, Nat.reducePow, Nat.reduceEqDiff, Nat.reduceLT, Nat.reduceLeDiff, Nat.reduceBEq, Nat.reduceBNe, Int.reduceToNat, Int.reduceLT, Int.reduceLE, Int.reduceEq, Int.reduceBNe, Int.reduceBEq, Int.reduceAdd, Int.reduceSub, Int.reduceMul, Int.reduceNeg, ↓reduceIte]
  cases b2 : heavy24 b
  case true =>
    rw [b1] at hH
    rw [b2] at hH2
    simp only [StateV.cells] at hH hH2 ⊢
    refine Abs.Spec.go (n := 68) (np := 2) (rs := [.tmp 4]) mixed Tryz.func5 rfl rfl rfl rfl rfl (by simp) (by simp) ?_
    simp only [go_sem, Nat.reduceAdd, Nat.reduceSub, Nat.reduceMul, Nat.reducePow, Nat.reduceEqDiff, Nat.reduceLT, Nat.reduceLeDiff, Nat.reduceBEq, Nat.reduceBNe, Int.reduceToNat, Int.reduceLT, Int.reduceLE, Int.reduceEq, Int.reduceBNe, Int.reduceBEq, Int.reduceAdd, Int.reduceSub, Int.reduceMul, Int.reduceNeg, ↓reduceIte]
    refine CallN.pure hH ?_
    simp only [go_sem, Nat.reduceAdd, Nat.reduceSub, Nat.reduceMul, Nat.reducePow, Nat.reduceEqDiff, Nat.reduceLT, Nat.reduceLeDiff, Nat.reduceBEq, Nat.reduceBNe, Int.reduceToNat, Int.reduceLT, Int.reduceLE, Int.reduceEq, Int.reduceBNe, Int.reduceBEq, Int.reduceAdd, Int.reduceSub, Int.reduceMul, Int.reduceNeg, ↓reduceIte]
    refine CallN.pure hH2 ?_
    simp only [go_sem, Nat.reduceAdd, Nat.reduceSub, Nat.reduceMul, Nat.reducePow, Nat.reduceEqDiff, Nat.reduceLT, Nat.reduceLeDiff, Nat.reduceBEq, Nat.reduceBNe, Int.reduceToNat, Int.reduceLT, Int.reduceLE, Int.reduceEq, Int.reduceBNe, Int.reduceBEq, Int.reduceAdd, Int.reduceSub, Int.reduceMul, Int.reduceNeg, ↓reduceIte]
  have sa := (heavy24_no b1 ha).1.small
  have sb := (heavy24_no b2 hb).1.small
  have hT := twinState_frozen a sa
  have hT2 := twinState_frozen b sb
  have hD := auditDiff_spec a b sa
  have hDb := auditDiff_spec b b sb
  have hR := refDiff_frozen a b sa
  have hl : (diffL (parts a b)).length ≤ 13 := Nat.le_trans (diffL_len _) (Nat.le_refl 13)
  have hX := texts_spec (diffL (parts a b)) (diffL (parts a b)) (by omega)
  have hS := auditSame_spec a b sa
  have hSa := auditSame_spec a a sa
  have hK := keepState_spec a b sa
  have hKa := keepState_spec a a sa
  have hKb := keepState_spec b b sb
  have hbb := parts_same b b
  have hab := parts_same a b
  rw [parts_same] at hS
  rw [parts_same, sameS_self] at hSa
  rw [sameS_self] at hKa hKb hbb
  rw [decide_eq_true (rfl : diffL (parts a b) = diffL (parts a b))] at hX
  obtain ⟨L, hL⟩ : ∃ L, L = diffL (parts a b) := ⟨_, rfl⟩
  obtain ⟨M, hM⟩ : ∃ M, M = diffL (parts b b) := ⟨_, rfl⟩
  obtain ⟨q, hq⟩ : ∃ q, q = sameS a b := ⟨_, rfl⟩
  rw [← hL] at hD hR hX hab hl
  rw [← hM] at hDb hbb
  rw [← hq] at hS hK hab
  rw [b1] at hH
  rw [b2] at hH2
  clear hL hM hq b1 b2 ha hb sa sb
  simp only [StateV.cells] at hH hH2 hT hT2 hD hDb hR hS hSa hK hKa hKb ⊢
  refine Abs.Spec.go (n := 68) (np := 2) (rs := [.tmp 4]) mixed Tryz.func5 rfl rfl rfl rfl rfl (by simp) (by simp) ?_
  simp only [go_sem, Nat.reduceAdd, Nat.reduceSub, Nat.reduceMul, Nat.reducePow, Nat.reduceEqDiff, Nat.reduceLT, Nat.reduceLeDiff, Nat.reduceBEq, Nat.reduceBNe, Int.reduceToNat, Int.reduceLT, Int.reduceLE, Int.reduceEq, Int.reduceBNe, Int.reduceBEq, Int.reduceAdd, Int.reduceSub, Int.reduceMul, Int.reduceNeg, ↓reduceIte]
  refine CallN.pure hH ?_
  simp only [go_sem, Nat.reduceAdd, Nat.reduceSub, Nat.reduceMul, Nat.reducePow, Nat.reduceEqDiff, Nat.reduceLT, Nat.reduceLeDiff, Nat.reduceBEq, Nat.reduceBNe, Int.reduceToNat, Int.reduceLT, Int.reduceLE, Int.reduceEq, Int.reduceBNe, Int.reduceBEq, Int.reduceAdd, Int.reduceSub, Int.reduceMul, Int.reduceNeg, ↓reduceIte]
  refine CallN.pure hH2 ?_
  simp only [go_sem, Nat.reduceAdd, Nat.reduceSub, Nat.reduceMul, Nat.reducePow, Nat.reduceEqDiff, Nat.reduceLT, Nat.reduceLeDiff, Nat.reduceBEq, Nat.reduceBNe, Int.reduceToNat, Int.reduceLT, Int.reduceLE, Int.reduceEq, Int.reduceBNe, Int.reduceBEq, Int.reduceAdd, Int.reduceSub, Int.reduceMul, Int.reduceNeg, ↓reduceIte]
  (repeat' (with_reducible first | refine And.intro ?_ ?_ | exact DrawN.mk (by kernel_rfl) | exact OkN.mk (by kernel_rfl))) <;> try omega
  refine CallN.pure hT ?_
  simp only [go_sem, Nat.reduceAdd, Nat.reduceSub, Nat.reduceMul, Nat.reducePow, Nat.reduceEqDiff, Nat.reduceLT, Nat.reduceLeDiff, Nat.reduceBEq, Nat.reduceBNe, Int.reduceToNat, Int.reduceLT, Int.reduceLE, Int.reduceEq, Int.reduceBNe, Int.reduceBEq, Int.reduceAdd, Int.reduceSub, Int.reduceMul, Int.reduceNeg, ↓reduceIte]
  (repeat' (with_reducible first | refine And.intro ?_ ?_ | exact DrawN.mk (by kernel_rfl) | exact OkN.mk (by kernel_rfl))) <;> try omega
  refine CallN.pure hT2 ?_
  simp only [go_sem, Nat.reduceAdd, Nat.reduceSub, Nat.reduceMul, Nat.reducePow, Nat.reduceEqDiff, Nat.reduceLT, Nat.reduceLeDiff, Nat.reduceBEq, Nat.reduceBNe, Int.reduceToNat, Int.reduceLT, Int.reduceLE, Int.reduceEq, Int.reduceBNe, Int.reduceBEq, Int.reduceAdd, Int.reduceSub, Int.reduceMul, Int.reduceNeg, ↓reduceIte]
  (repeat' (with_reducible first | refine And.intro ?_ ?_ | exact DrawN.mk (by kernel_rfl) | exact OkN.mk (by kernel_rfl))) <;> try omega
  refine CallN.gen [] [] false (by simp) ?_
  simp only [go_sem, Nat.reduceAdd, Nat.reduceSub, Nat.reduceMul, Nat.reducePow, Nat.reduceEqDiff, Nat.reduceLT, Nat.reduceLeDiff, Nat.reduceBEq, Nat.reduceBNe, Int.reduceToNat, Int.reduceLT, Int.reduceLE, Int.reduceEq, Int.reduceBNe, Int.reduceBEq, Int.reduceAdd, Int.reduceSub, Int.reduceMul, Int.reduceNeg, ↓reduceIte]
  refine CallG.intro hD ?_
  simp only [go_sem, Nat.reduceAdd, Nat.reduceSub, Nat.reduceMul, Nat.reducePow, Nat.reduceEqDiff, Nat.reduceLT, Nat.reduceLeDiff, Nat.reduceBEq, Nat.reduceBNe, Int.reduceToNat, Int.reduceLT, Int.reduceLE, Int.reduceEq, Int.reduceBNe, Int.reduceBEq, Int.reduceAdd, Int.reduceSub, Int.reduceMul, Int.reduceNeg, ↓reduceIte]
  (repeat' (with_reducible first | refine And.intro ?_ ?_ | exact DrawN.mk (by kernel_rfl) | exact OkN.mk (by kernel_rfl))) <;> try omega
  refine CallN.pure hR ?_
  simp only [go_sem, Nat.reduceAdd, Nat.reduceSub, Nat.reduceMul, Nat.reducePow, Nat.reduceEqDiff, Nat.reduceLT, Nat.reduceLeDiff, Nat.reduceBEq, Nat.reduceBNe, Int.reduceToNat, Int.reduceLT, Int.reduceLE, Int.reduceEq, Int.reduceBNe, Int.reduceBEq, Int.reduceAdd, Int.reduceSub, Int.reduceMul, Int.reduceNeg, ↓reduceIte]
  (repeat' (with_reducible first | refine And.intro ?_ ?_ | exact DrawN.mk (by kernel_rfl) | exact OkN.mk (by kernel_rfl))) <;> try omega
  refine CallN.gen [] [] true (by simp) ?_
  simp only [go_sem, Nat.reduceAdd, Nat.reduceSub, Nat.reduceMul, Nat.reducePow, Nat.reduceEqDiff, Nat.reduceLT, Nat.reduceLeDiff, Nat.reduceBEq, Nat.reduceBNe, Int.reduceToNat, Int.reduceLT, Int.reduceLE, Int.reduceEq, Int.reduceBNe, Int.reduceBEq, Int.reduceAdd, Int.reduceSub, Int.reduceMul, Int.reduceNeg, ↓reduceIte]
  refine CallG.intro hX ?_
  simp only [go_sem, Nat.reduceAdd, Nat.reduceSub, Nat.reduceMul, Nat.reducePow, Nat.reduceEqDiff, Nat.reduceLT, Nat.reduceLeDiff, Nat.reduceBEq, Nat.reduceBNe, Int.reduceToNat, Int.reduceLT, Int.reduceLE, Int.reduceEq, Int.reduceBNe, Int.reduceBEq, Int.reduceAdd, Int.reduceSub, Int.reduceMul, Int.reduceNeg, ↓reduceIte]
  (repeat' (with_reducible first | refine And.intro ?_ ?_ | exact DrawN.mk (by kernel_rfl) | exact OkN.mk (by kernel_rfl))) <;> try omega
  refine CallN.pure hS ?_
  simp only [go_sem, Nat.reduceAdd, Nat.reduceSub, Nat.reduceMul, Nat.reducePow, Nat.reduceEqDiff, Nat.reduceLT, Nat.reduceLeDiff, Nat.reduceBEq, Nat.reduceBNe, Int.reduceToNat, Int.reduceLT, Int.reduceLE, Int.reduceEq, Int.reduceBNe, Int.reduceBEq, Int.reduceAdd, Int.reduceSub, Int.reduceMul, Int.reduceNeg, ↓reduceIte]
  (repeat' (with_reducible first | refine And.intro ?_ ?_ | exact DrawN.mk (by kernel_rfl) | exact OkN.mk (by kernel_rfl))) <;> try omega
  refine CallN.pure hK ?_
  simp only [go_sem, Nat.reduceAdd, Nat.reduceSub, Nat.reduceMul, Nat.reducePow, Nat.reduceEqDiff, Nat.reduceLT, Nat.reduceLeDiff, Nat.reduceBEq, Nat.reduceBNe, Int.reduceToNat, Int.reduceLT, Int.reduceLE, Int.reduceEq, Int.reduceBNe, Int.reduceBEq, Int.reduceAdd, Int.reduceSub, Int.reduceMul, Int.reduceNeg, ↓reduceIte, bne, beq_self_eq_true, Bool.not_true]
  (repeat' (with_reducible first | refine And.intro ?_ ?_ | exact DrawN.mk (by kernel_rfl) | exact OkN.mk (by kernel_rfl))) <;> try omega
  refine CallN.pure hS ?_
  simp only [go_sem, Nat.reduceAdd, Nat.reduceSub, Nat.reduceMul, Nat.reducePow, Nat.reduceEqDiff, Nat.reduceLT, Nat.reduceLeDiff, Nat.reduceBEq, Nat.reduceBNe, Int.reduceToNat, Int.reduceLT, Int.reduceLE, Int.reduceEq, Int.reduceBNe, Int.reduceBEq, Int.reduceAdd, Int.reduceSub, Int.reduceMul, Int.reduceNeg, ↓reduceIte, hab, txts_len, bne, beq_self_eq_true, Bool.not_true]
  (repeat' (with_reducible first | refine And.intro ?_ ?_ | exact DrawN.mk (by kernel_rfl) | exact OkN.mk (by kernel_rfl))) <;> try omega
  refine CallN.pure hSa ?_
  simp only [go_sem, Nat.reduceAdd, Nat.reduceSub, Nat.reduceMul, Nat.reducePow, Nat.reduceEqDiff, Nat.reduceLT, Nat.reduceLeDiff, Nat.reduceBEq, Nat.reduceBNe, Int.reduceToNat, Int.reduceLT, Int.reduceLE, Int.reduceEq, Int.reduceBNe, Int.reduceBEq, Int.reduceAdd, Int.reduceSub, Int.reduceMul, Int.reduceNeg, ↓reduceIte]
  refine CallN.gen [] [] false (by simp) ?_
  simp only [go_sem, Nat.reduceAdd, Nat.reduceSub, Nat.reduceMul, Nat.reducePow, Nat.reduceEqDiff, Nat.reduceLT, Nat.reduceLeDiff, Nat.reduceBEq, Nat.reduceBNe, Int.reduceToNat, Int.reduceLT, Int.reduceLE, Int.reduceEq, Int.reduceBNe, Int.reduceBEq, Int.reduceAdd, Int.reduceSub, Int.reduceMul, Int.reduceNeg, ↓reduceIte]
  refine CallG.intro hDb ?_
  simp only [go_sem, Nat.reduceAdd, Nat.reduceSub, Nat.reduceMul, Nat.reducePow, Nat.reduceEqDiff, Nat.reduceLT, Nat.reduceLeDiff, Nat.reduceBEq, Nat.reduceBNe, Int.reduceToNat, Int.reduceLT, Int.reduceLE, Int.reduceEq, Int.reduceBNe, Int.reduceBEq, Int.reduceAdd, Int.reduceSub, Int.reduceMul, Int.reduceNeg, ↓reduceIte, hbb, txts_len]
  refine CallN.pure hKa ?_
  simp only [go_sem, Nat.reduceAdd, Nat.reduceSub, Nat.reduceMul, Nat.reducePow, Nat.reduceEqDiff, Nat.reduceLT, Nat.reduceLeDiff, Nat.reduceBEq, Nat.reduceBNe, Int.reduceToNat, Int.reduceLT, Int.reduceLE, Int.reduceEq, Int.reduceBNe, Int.reduceBEq, Int.reduceAdd, Int.reduceSub, Int.reduceMul, Int.reduceNeg, ↓reduceIte]
  refine CallN.pure hKb ?_
  simp only [go_sem, Nat.reduceAdd, Nat.reduceSub, Nat.reduceMul, Nat.reducePow, Nat.reduceEqDiff, Nat.reduceLT, Nat.reduceLeDiff, Nat.reduceBEq, Nat.reduceBNe, Int.reduceToNat, Int.reduceLT, Int.reduceLE, Int.reduceEq, Int.reduceBNe, Int.reduceBEq, Int.reduceAdd, Int.reduceSub, Int.reduceMul, Int.reduceNeg, ↓reduceIte]
  refine CallN.pure hwk ?_
  simp only [go_sem, Nat.reduceAdd, Nat.reduceSub, Nat.reduceMul, Nat.reducePow, Nat.reduceEqDiff, Nat.reduceLT, Nat.reduceLeDiff, Nat.reduceBEq, Nat.reduceBNe, Int.reduceToNat, Int.reduceLT, Int.reduceLE, Int.reduceEq, Int.reduceBNe, Int.reduceBEq, Int.reduceAdd, Int.reduceSub, Int.reduceMul, Int.reduceNeg, ↓reduceIte]
end Go.Proofs.YtbllopdcbkeadaaGreat
