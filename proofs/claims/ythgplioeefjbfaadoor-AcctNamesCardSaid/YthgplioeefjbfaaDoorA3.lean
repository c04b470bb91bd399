/- An account's name; no theorem of a claim. -/
import Derived.Test.YthgplioeefjbfaaDoorA2
import Derived.Test.YthgplioeefjbfaaDoorAbcLib
set_option linter.unusedSimpArgs false
set_option linter.unusedVariables false
namespace Go.Proofs.YthgplioeefjbfaaDoor
open Go.Abs
def wordB (k : Nat) : ByteArray := match k with
  | 1 => ⟨#[98, 97, 110, 107]⟩
  | 2 => ⟨#[99, 97, 115, 104]⟩
  | 3 => ⟨#[102, 117, 110, 100]⟩
  | 4 => ⟨#[115, 107, 105, 110]⟩
  | 5 => ⟨#[118, 97, 114]⟩
  | 6 => ⟨#[108, 111, 115, 115]⟩
  | _ => ⟨#[]⟩
theorem word_spec (k : Nat) (hk : k < 7) : Abs.Spec Tryd.prog 24 [] [.int .i64 k] [] (.str (wordB k)) := by
  refine Abs.Spec.go (n := 6) (np := 1) (rs := [.tmp 2]) mixed Tryd.func24 rfl rfl rfl rfl rfl (by simp) (by simp) ?_
  simp only [go_sem, Nat.reduceAdd, Nat.reduceSub, Nat.reduceMul, Nat.reduceEqDiff, Nat.reduceLT, Nat.reduceLeDiff, Nat.reduceBEq, Nat.reduceBNe, Int.reduceToNat, Int.reduceLT, Int.reduceLE, Int.reduceEq, Int.reduceBNe, Int.reduceBEq, Int.reduceAdd, Int.reduceSub, Int.reduceMul, Int.reduceNeg, ↓reduceIte]
  refine ⟨by omega, ?_⟩
  have : k = 0 ∨ k = 1 ∨ k = 2 ∨ k = 3 ∨ k = 4 ∨ k = 5 ∨ k = 6 := by omega
  rcases this with rfl | rfl | rfl | rfl | rfl | rfl | rfl <;> simp only [go_sem, Nat.reduceAdd, Nat.reduceSub, Nat.reduceMul, Nat.reduceEqDiff, Nat.reduceLT, Nat.reduceLeDiff, Nat.reduceBEq, Nat.reduceBNe, Int.reduceToNat, Int.reduceLT, Int.reduceLE, Int.reduceEq, Int.reduceBNe, Int.reduceBEq, Int.reduceAdd, Int.reduceSub, Int.reduceMul, Int.reduceNeg, ↓reduceIte] <;> rfl
def joinB (xs : List ByteArray) (sep : ByteArray) : ByteArray := ⟨(sep.data.toList.intercalate (xs.map (·.data.toList))).toArray⟩
/-- what strings.Join gives: by the shelf's contract -/
def JoinIs : Prop := ∀ (xs : List ByteArray) (sep : ByteArray), xs ≠ [] → xs.length < 100 → (∀ x ∈ xs, x.size < 1000) → sep.size < 1000 → Abs.Spec Tryd.prog 26 [] [.sl 1 (strs xs), .str sep] [] (.str (joinB xs sep))
theorem word_size (k : Nat) : (wordB k).size < 1000 := by unfold wordB; split <;> decide
theorem dec2_size (i : Nat) : (ByteArray.mk (dec2 i).toArray).size < 1000 := by
  unfold dec2
  split
  · show 1 < 1000; decide
  · show 2 < 1000; decide
def dB (i : Nat) : ByteArray := ⟨(dec2 i).toArray⟩
def nameB (K W C : Nat) : ByteArray := if owned K then joinB [wordB K, dB W, dB C] ⟨#[46]⟩ else joinB [wordB K, dB C] ⟨#[46]⟩
theorem name_spec (hJ : JoinIs) (x : AcctV) (hr0 : x.right = true) (K W C : Nat) (hK : x.kind = K) (hW : x.who = W) (hC : x.cur = C) (hK7 : K < 7) (hW1 : W < 100) (hC1 : C < 100) : Abs.Spec Tryd.prog 15 [] [.agg x.cells] [] (.tup [.str (nameB K W C), .int .i64 0]) := by
  have hr := right_spec x
  simp only [AcctV.cells, hK, hW, hC] at hr
  have j3 := hJ [wordB K, dB W, dB C] ⟨#[46]⟩ (by simp) (by simp) (by intro x hx; simp at hx; rcases hx with rfl | rfl | rfl; exact word_size K; exact dec2_size W; exact dec2_size C) (by decide)
  have j2 := hJ [wordB K, dB C] ⟨#[46]⟩ (by simp) (by simp) (by intro x hx; simp at hx; rcases hx with rfl | rfl; exact word_size K; exact dec2_size C) (by decide)
  have eN : nameB K W C = if owned K then joinB [wordB K, dB W, dB C] ⟨#[46]⟩ else joinB [wordB K, dB C] ⟨#[46]⟩ := rfl
  refine Abs.Spec.go (n := 28) (np := 1) (rs := [.tmp 2, .tmp 3]) mixed Tryd.func15 rfl rfl rfl rfl rfl (by simp) (by simp) ?_
  simp only [AcctV.cells, hK, hW, hC]
  simp only [go_sem, Nat.reduceAdd, Nat.reduceSub, Nat.reduceMul, Nat.reduceEqDiff, Nat.reduceLT, Nat.reduceLeDiff, Nat.reduceBEq, Nat.reduceBNe, Int.reduceToNat, Int.reduceLT, Int.reduceLE, Int.reduceEq, Int.reduceBNe, Int.reduceBEq, Int.reduceAdd, Int.reduceSub, Int.reduceMul, Int.reduceNeg, ↓reduceIte]
  refine CallN.pure hr ?_
  simp only [go_sem, Nat.reduceAdd, Nat.reduceSub, Nat.reduceMul, Nat.reduceEqDiff, Nat.reduceLT, Nat.reduceLeDiff, Nat.reduceBEq, Nat.reduceBNe, Int.reduceToNat, Int.reduceLT, Int.reduceLE, Int.reduceEq, Int.reduceBNe, Int.reduceBEq, Int.reduceAdd, Int.reduceSub, Int.reduceMul, Int.reduceNeg, ↓reduceIte, hr0]
  refine CallN.pure (word_spec K hK7) ?_
  simp only [go_sem, Nat.reduceAdd, Nat.reduceSub, Nat.reduceMul, Nat.reduceEqDiff, Nat.reduceLT, Nat.reduceLeDiff, Nat.reduceBEq, Nat.reduceBNe, Int.reduceToNat, Int.reduceLT, Int.reduceLE, Int.reduceEq, Int.reduceBNe, Int.reduceBEq, Int.reduceAdd, Int.reduceSub, Int.reduceMul, Int.reduceNeg, ↓reduceIte]
  refine ⟨by decide, ?_⟩
  refine CallN.pure (owned_spec _) ?_
  simp only [go_sem, Nat.reduceAdd, Nat.reduceSub, Nat.reduceMul, Nat.reduceEqDiff, Nat.reduceLT, Nat.reduceLeDiff, Nat.reduceBEq, Nat.reduceBNe, Int.reduceToNat, Int.reduceLT, Int.reduceLE, Int.reduceEq, Int.reduceBNe, Int.reduceBEq, Int.reduceAdd, Int.reduceSub, Int.reduceMul, Int.reduceNeg, ↓reduceIte]
  refine CondE.split (fun h => ?_) (fun h => ?_)
  · rw [h, if_pos rfl] at eN
    rw [eN]
    simp only [go_sem, Nat.reduceAdd, Nat.reduceSub, Nat.reduceMul, Nat.reduceEqDiff, Nat.reduceLT, Nat.reduceLeDiff, Nat.reduceBEq, Nat.reduceBNe, Int.reduceToNat, Int.reduceLT, Int.reduceLE, Int.reduceEq, Int.reduceBNe, Int.reduceBEq, Int.reduceAdd, Int.reduceSub, Int.reduceMul, Int.reduceNeg, ↓reduceIte]
    refine CallN.pure (itoa_spec W hW1) ?_
    simp only [go_sem, Nat.reduceAdd, Nat.reduceSub, Nat.reduceMul, Nat.reduceEqDiff, Nat.reduceLT, Nat.reduceLeDiff, Nat.reduceBEq, Nat.reduceBNe, Int.reduceToNat, Int.reduceLT, Int.reduceLE, Int.reduceEq, Int.reduceBNe, Int.reduceBEq, Int.reduceAdd, Int.reduceSub, Int.reduceMul, Int.reduceNeg, ↓reduceIte]
    refine ⟨by decide, by decide, by decide, ?_⟩
    refine CallN.pure (itoa_spec C hC1) ?_
    simp only [go_sem, Nat.reduceAdd, Nat.reduceSub, Nat.reduceMul, Nat.reduceEqDiff, Nat.reduceLT, Nat.reduceLeDiff, Nat.reduceBEq, Nat.reduceBNe, Int.reduceToNat, Int.reduceLT, Int.reduceLE, Int.reduceEq, Int.reduceBNe, Int.reduceBEq, Int.reduceAdd, Int.reduceSub, Int.reduceMul, Int.reduceNeg, ↓reduceIte]
    repeat (refine And.intro (by decide) ?_)
    refine CallN.gen [] [] true (by simp) ?_
    simp only [go_sem, Nat.reduceAdd, Nat.reduceSub, Nat.reduceMul, Nat.reduceEqDiff, Nat.reduceLT, Nat.reduceLeDiff, Nat.reduceBEq, Nat.reduceBNe, Int.reduceToNat, Int.reduceLT, Int.reduceLE, Int.reduceEq, Int.reduceBNe, Int.reduceBEq, Int.reduceAdd, Int.reduceSub, Int.reduceMul, Int.reduceNeg, ↓reduceIte]
    refine CallG.intro j3 ?_
    simp only [go_sem, Nat.reduceAdd, Nat.reduceSub, Nat.reduceMul, Nat.reduceEqDiff, Nat.reduceLT, Nat.reduceLeDiff, Nat.reduceBEq, Nat.reduceBNe, Int.reduceToNat, Int.reduceLT, Int.reduceLE, Int.reduceEq, Int.reduceBNe, Int.reduceBEq, Int.reduceAdd, Int.reduceSub, Int.reduceMul, Int.reduceNeg, ↓reduceIte]
  · rw [h] at eN
    rw [eN]
    simp only [go_sem, Nat.reduceAdd, Nat.reduceSub, Nat.reduceMul, Nat.reduceEqDiff, Nat.reduceLT, Nat.reduceLeDiff, Nat.reduceBEq, Nat.reduceBNe, Int.reduceToNat, Int.reduceLT, Int.reduceLE, Int.reduceEq, Int.reduceBNe, Int.reduceBEq, Int.reduceAdd, Int.reduceSub, Int.reduceMul, Int.reduceNeg, ↓reduceIte]
    refine CallN.pure (itoa_spec C hC1) ?_
    simp only [go_sem, Nat.reduceAdd, Nat.reduceSub, Nat.reduceMul, Nat.reduceEqDiff, Nat.reduceLT, Nat.reduceLeDiff, Nat.reduceBEq, Nat.reduceBNe, Int.reduceToNat, Int.reduceLT, Int.reduceLE, Int.reduceEq, Int.reduceBNe, Int.reduceBEq, Int.reduceAdd, Int.reduceSub, Int.reduceMul, Int.reduceNeg, ↓reduceIte]
    repeat (refine And.intro (by decide) ?_)
    refine CallN.gen [] [] true (by simp) ?_
    simp only [go_sem, Nat.reduceAdd, Nat.reduceSub, Nat.reduceMul, Nat.reduceEqDiff, Nat.reduceLT, Nat.reduceLeDiff, Nat.reduceBEq, Nat.reduceBNe, Int.reduceToNat, Int.reduceLT, Int.reduceLE, Int.reduceEq, Int.reduceBNe, Int.reduceBEq, Int.reduceAdd, Int.reduceSub, Int.reduceMul, Int.reduceNeg, ↓reduceIte]
    refine CallG.intro j2 ?_
    simp only [go_sem, Nat.reduceAdd, Nat.reduceSub, Nat.reduceMul, Nat.reduceEqDiff, Nat.reduceLT, Nat.reduceLeDiff, Nat.reduceBEq, Nat.reduceBNe, Int.reduceToNat, Int.reduceLT, Int.reduceLE, Int.reduceEq, Int.reduceBNe, Int.reduceBEq, Int.reduceAdd, Int.reduceSub, Int.reduceMul, Int.reduceNeg, ↓reduceIte]
theorem wakes_spec (hJ : JoinIs) : Abs.Spec Tryd.prog 11 [] [] [] (.bool true) := by
  have hn := name_spec hJ ⟨2, 12, 0⟩ (by decide) 2 12 0 rfl rfl rfl (by decide) (by decide) (by decide)
  have e1 : nameB 2 12 0 = ⟨#[99, 97, 115, 104, 46, 49, 50, 46, 48]⟩ := by kernel_rfl
  rw [e1] at hn
  refine Abs.Spec.go (n := 14) (np := 0) (rs := [.tmp 0]) mixed Tryd.func11 rfl rfl rfl rfl rfl (by simp) (by simp) ?_
  simp only [go_sem, Nat.reduceAdd, Nat.reduceSub, Nat.reduceMul, Nat.reduceEqDiff, Nat.reduceLT, Nat.reduceLeDiff, Nat.reduceBEq, Nat.reduceBNe, Int.reduceToNat, Int.reduceLT, Int.reduceLE, Int.reduceEq, Int.reduceBNe, Int.reduceBEq, Int.reduceAdd, Int.reduceSub, Int.reduceMul, Int.reduceNeg, ↓reduceIte]
  refine CallN.pure hn ?_
  simp only [go_sem, Nat.reduceAdd, Nat.reduceSub, Nat.reduceMul, Nat.reduceEqDiff, Nat.reduceLT, Nat.reduceLeDiff, Nat.reduceBEq, Nat.reduceBNe, Int.reduceToNat, Int.reduceLT, Int.reduceLE, Int.reduceEq, Int.reduceBNe, Int.reduceBEq, Int.reduceAdd, Int.reduceSub, Int.reduceMul, Int.reduceNeg, ↓reduceIte]
theorem order_spec (hJ : JoinIs) (x y z : AcctV) : Abs.Spec Tryd.prog 3 [] [.agg x.cells, .agg y.cells, .agg z.cells] [] (.bool true) := law_of (wakes_spec hJ) x y z
end Go.Proofs.YthgplioeefjbfaaDoor
