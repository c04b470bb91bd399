/- cover.Change; no theorem of a claim. -/
import Derived.Test.YtbllopdcbkeadaaB4
set_option linter.unusedSimpArgs false
set_option linter.unusedVariables false
namespace Go.Proofs.Ytbllopdcbkeadaa
open Go.Abs
theorem insert_spec (ps : List Plg) (w a n : Int) (i : Nat) (hl : ps.length < 2 ^ 30) (hi : i ≤ ps.length) :
    Abs.Spec Try.prog 30 [.own 3 (pl ps), .own 3 [[.int .i64 w, .int .i64 a, .int .i64 n]]] [.ref 0, .int .i64 i, .ref 1] [.undef, .undef, .own 3 (pl (ps.take i ++ [⟨w, a, n⟩] ++ ps.drop i))] (.ref 2) := by
  rcases Nat.lt_or_ge i ps.length with h | h
  · exact insert_mid ps ⟨w, a, n⟩ i hl h
  · obtain rfl : i = ps.length := by omega
    have := insert_end ps ⟨w, a, n⟩ hl
    rw [List.take_length, List.drop_length, List.append_nil]
    exact this
def changeE (ps : List Plg) (w a u : Int) : Int :=
  if checkB ps = false then 14 else if (rightB w a && decide (-1099511627776 ≤ u) && decide (u ≤ 1099511627776)) = false then 3 else
    if unitsL w a ps + u < 0 then 13 else if unitsL w a ps + u > 1099511627776 then 1 else 0
def changeL (ps : List Plg) (w a u : Int) : List Plg := if changeE ps w a u = 0 then chg w a (unitsL w a ps + u) ps else []
theorem unitsL_range {w a : Int} : ∀ {ps : List Plg}, (∀ p ∈ ps, p.ok) → 0 ≤ unitsL w a ps ∧ unitsL w a ps ≤ 1099511627776
  | [], _ => by simp [unitsL]
  | p :: r, h => by
    have h1 := (h p (by simp)).2
    have h2 := unitsL_range (w := w) (a := a) (ps := r) fun q hq => h q (by simp [hq])
    simp only [unitsL]; split <;> omega
theorem part_len {ps : List Plg} {i b : Nat} (h : i + b ≤ ps.length) : (ps.take i ++ ps.drop (i + b)).length = ps.length - b := by simp; omega
theorem part_take {ps : List Plg} {i b : Nat} (h : i ≤ ps.length) : (ps.take i ++ ps.drop (i + b)).take i = ps.take i := by
  have hl : (ps.take i).length = i := by simp; omega
  rw [List.take_append_of_le_length (by omega), List.take_of_length_le (by omega)]
theorem part_drop {ps : List Plg} {i b : Nat} (h : i ≤ ps.length) : (ps.take i ++ ps.drop (i + b)).drop i = ps.drop (i + b) := by
  have hl : (ps.take i).length = i := by simp; omega
  rw [List.drop_append_of_le_length (by omega), List.drop_eq_nil_of_le (by omega), List.nil_append]
theorem isAt_lt {K : Int} {ps : List Plg} (h : isAt K ps = true) : pos K ps < ps.length := by
  rw [isAt_eq] at h
  split at h
  · rename_i hh; exact (List.getElem?_eq_some_iff.1 hh).1
  · cases h
theorem change_spec (ps : List Plg) (w a u : Int) (hl : ps.length < 2 ^ 29) :
    Abs.Spec Try.prog 8 [] [.sl 3 (pl ps), .int .i64 w, .int .i64 a, .int .i64 u] [.own 3 (pl (changeL ps w a u))] (.tup [.ref 0, .int .i64 (changeE ps w a u)]) := by
  have hc := plg_check ps (by omega)
  have hr := rightB_spec w a
  have hu := units_spec w a ps (by omega)
  refine Abs.Spec.go (n := 69) (np := 4) (rs := [.tmp 8, .tmp 9]) mixed Try.func8 rfl rfl rfl rfl rfl (by simp) (by simp) ?_
  simp only [go_sem, Nat.reduceAdd, Nat.reduceSub, Nat.reduceMul, Nat.reducePow, Nat.reduceEqDiff, Nat.reduceLT, Nat.reduceLeDiff, Nat.reduceBEq, Nat.reduceBNe, Int.reduceToNat, Int.reduceLT, Int.reduceLE, Int.reduceEq, Int.reduceBNe, Int.reduceBEq, Int.reduceAdd, Int.reduceSub, Int.reduceMul, Int.reduceNeg, ↓reduceIte]
  refine CallN.pure hc ?_
  cases hk : checkB ps
  · have e1 : changeE ps w a u = 14 := by simp [changeE, hk]
    have e2 : changeL ps w a u = [] := by simp [changeL, e1]
    simp only [hk, go_sem, Nat.reduceAdd, Nat.reduceSub, Nat.reduceMul, Nat.reducePow, Nat.reduceEqDiff, Nat.reduceLT, Nat.reduceLeDiff, Nat.reduceBEq, Nat.reduceBNe, Int.reduceToNat, Int.reduceLT, Int.reduceLE, Int.reduceEq, Int.reduceBNe, Int.reduceBEq, Int.reduceAdd, Int.reduceSub, Int.reduceMul, Int.reduceNeg, ↓reduceIte, e1, e2]
    rfl
  have hg := check_good.1 hk
  have hur := unitsL_range (w := w) (a := a) hg.1
  simp only [hk, go_sem, Nat.reduceAdd, Nat.reduceSub, Nat.reduceMul, Nat.reducePow, Nat.reduceEqDiff, Nat.reduceLT, Nat.reduceLeDiff, Nat.reduceBEq, Nat.reduceBNe, Int.reduceToNat, Int.reduceLT, Int.reduceLE, Int.reduceEq, Int.reduceBNe, Int.reduceBEq, Int.reduceAdd, Int.reduceSub, Int.reduceMul, Int.reduceNeg, ↓reduceIte]
  refine CallN.pure hr ?_
  cases hrb : rightB w a
  · have e1 : changeE ps w a u = 3 := by simp [changeE, hk, hrb]
    have e2 : changeL ps w a u = [] := by simp [changeL, e1]
    simp only [go_sem, Nat.reduceAdd, Nat.reduceSub, Nat.reduceMul, Nat.reducePow, Nat.reduceEqDiff, Nat.reduceLT, Nat.reduceLeDiff, Nat.reduceBEq, Nat.reduceBNe, Int.reduceToNat, Int.reduceLT, Int.reduceLE, Int.reduceEq, Int.reduceBNe, Int.reduceBEq, Int.reduceAdd, Int.reduceSub, Int.reduceMul, Int.reduceNeg, ↓reduceIte, e1, e2]
    rfl
  rcases Int.lt_or_le u (-1099511627776) with h1 | h1
  · have e1 : changeE ps w a u = 3 := by simp [changeE, hk, hrb]; omega
    have e2 : changeL ps w a u = [] := by simp [changeL, e1]
    have d1 : decide (u < -1099511627776) = true := by simpa using h1
    simp only [go_sem, Nat.reduceAdd, Nat.reduceSub, Nat.reduceMul, Nat.reducePow, Nat.reduceEqDiff, Nat.reduceLT, Nat.reduceLeDiff, Nat.reduceBEq, Nat.reduceBNe, Int.reduceToNat, Int.reduceLT, Int.reduceLE, Int.reduceEq, Int.reduceBNe, Int.reduceBEq, Int.reduceAdd, Int.reduceSub, Int.reduceMul, Int.reduceNeg, ↓reduceIte, e1, e2, d1]
    rfl
  have d1 : decide (u < -1099511627776) = false := by simpa using h1
  rcases Int.lt_or_le 1099511627776 u with h2 | h2
  · have e1 : changeE ps w a u = 3 := by simp [changeE, hk, hrb]; omega
    have e2 : changeL ps w a u = [] := by simp [changeL, e1]
    have d2 : decide (1099511627776 < u) = true := by simpa using h2
    simp only [go_sem, Nat.reduceAdd, Nat.reduceSub, Nat.reduceMul, Nat.reducePow, Nat.reduceEqDiff, Nat.reduceLT, Nat.reduceLeDiff, Nat.reduceBEq, Nat.reduceBNe, Int.reduceToNat, Int.reduceLT, Int.reduceLE, Int.reduceEq, Int.reduceBNe, Int.reduceBEq, Int.reduceAdd, Int.reduceSub, Int.reduceMul, Int.reduceNeg, ↓reduceIte, e1, e2, d1, d2]
    rfl
  have d2 : decide (1099511627776 < u) = false := by simpa using h2
  simp only [go_sem, Nat.reduceAdd, Nat.reduceSub, Nat.reduceMul, Nat.reducePow, Nat.reduceEqDiff, Nat.reduceLT, Nat.reduceLeDiff, Nat.reduceBEq, Nat.reduceBNe, Int.reduceToNat, Int.reduceLT, Int.reduceLE, Int.reduceEq, Int.reduceBNe, Int.reduceBEq, Int.reduceAdd, Int.reduceSub, Int.reduceMul, Int.reduceNeg, ↓reduceIte, d1, d2]
  refine CallN.pure hu ?_
  obtain ⟨n, hn⟩ : ∃ n, n = unitsL w a ps + u := ⟨_, rfl⟩
  have hw : IntKind.wrap .i64 (unitsL w a ps + u) = n := by rw [wr64 (by omega) (by omega), hn]
  rcases Int.lt_or_le n 0 with h3 | h3
  · have e1 : changeE ps w a u = 13 := by simp [changeE, hk, hrb]; omega
    have e2 : changeL ps w a u = [] := by simp [changeL, e1]
    have d3 : decide (n < 0) = true := by simpa using h3
    simp only [go_sem, Nat.reduceAdd, Nat.reduceSub, Nat.reduceMul, Nat.reducePow, Nat.reduceEqDiff, Nat.reduceLT, Nat.reduceLeDiff, Nat.reduceBEq, Nat.reduceBNe, Int.reduceToNat, Int.reduceLT, Int.reduceLE, Int.reduceEq, Int.reduceBNe, Int.reduceBEq, Int.reduceAdd, Int.reduceSub, Int.reduceMul, Int.reduceNeg, ↓reduceIte, hw, e1, e2, d3]
    rfl
  have d3 : decide (n < 0) = false := by simpa using h3
  rcases Int.lt_or_le 1099511627776 n with h4 | h4
  · have e1 : changeE ps w a u = 1 := by simp [changeE, hk, hrb]; omega
    have e2 : changeL ps w a u = [] := by simp [changeL, e1]
    have d4 : decide (1099511627776 < n) = true := by simpa using h4
    simp only [go_sem, Nat.reduceAdd, Nat.reduceSub, Nat.reduceMul, Nat.reducePow, Nat.reduceEqDiff, Nat.reduceLT, Nat.reduceLeDiff, Nat.reduceBEq, Nat.reduceBNe, Int.reduceToNat, Int.reduceLT, Int.reduceLE, Int.reduceEq, Int.reduceBNe, Int.reduceBEq, Int.reduceAdd, Int.reduceSub, Int.reduceMul, Int.reduceNeg, ↓reduceIte, hw, e1, e2, d3, d4]
    rfl
  have d4 : decide (1099511627776 < n) = false := by simpa using h4
  have e1 : changeE ps w a u = 0 := by simp [changeE, hk, hrb]; omega
  have e2 : changeL ps w a u = chg w a n ps := by simp [changeL, e1, hn]
  simp only [go_sem, Nat.reduceAdd, Nat.reduceSub, Nat.reduceMul, Nat.reducePow, Nat.reduceEqDiff, Nat.reduceLT, Nat.reduceLeDiff, Nat.reduceBEq, Nat.reduceBNe, Int.reduceToNat, Int.reduceLT, Int.reduceLE, Int.reduceEq, Int.reduceBNe, Int.reduceBEq, Int.reduceAdd, Int.reduceSub, Int.reduceMul, Int.reduceNeg, ↓reduceIte, hw, d3, d4]
  refine CallN.gen [] [] true (by simp) ?_
  simp only [go_sem, Nat.reduceAdd, Nat.reduceSub, Nat.reduceMul, Nat.reducePow, Nat.reduceEqDiff, Nat.reduceLT, Nat.reduceLeDiff, Nat.reduceBEq, Nat.reduceBNe, Int.reduceToNat, Int.reduceLT, Int.reduceLE, Int.reduceEq, Int.reduceBNe, Int.reduceBEq, Int.reduceAdd, Int.reduceSub, Int.reduceMul, Int.reduceNeg, ↓reduceIte]
  refine CallG.intro (search_spec ps w a (by omega) hg hrb) ?_
  simp only [go_sem, Nat.reduceAdd, Nat.reduceSub, Nat.reduceMul, Nat.reducePow, Nat.reduceEqDiff, Nat.reduceLT, Nat.reduceLeDiff, Nat.reduceBEq, Nat.reduceBNe, Int.reduceToNat, Int.reduceLT, Int.reduceLE, Int.reduceEq, Int.reduceBNe, Int.reduceBEq, Int.reduceAdd, Int.reduceSub, Int.reduceMul, Int.reduceNeg, ↓reduceIte]
  refine CallN.gen [] [] false (by simp) ?_
  simp only [go_sem, Nat.reduceAdd, Nat.reduceSub, Nat.reduceMul, Nat.reducePow, Nat.reduceEqDiff, Nat.reduceLT, Nat.reduceLeDiff, Nat.reduceBEq, Nat.reduceBNe, Int.reduceToNat, Int.reduceLT, Int.reduceLE, Int.reduceEq, Int.reduceBNe, Int.reduceBEq, Int.reduceAdd, Int.reduceSub, Int.reduceMul, Int.reduceNeg, ↓reduceIte]
  refine CallG.intro (clone_spec ps (by omega)) ?_
  simp only [go_sem, Nat.reduceAdd, Nat.reduceSub, Nat.reduceMul, Nat.reducePow, Nat.reduceEqDiff, Nat.reduceLT, Nat.reduceLeDiff, Nat.reduceBEq, Nat.reduceBNe, Int.reduceToNat, Int.reduceLT, Int.reduceLE, Int.reduceEq, Int.reduceBNe, Int.reduceBEq, Int.reduceAdd, Int.reduceSub, Int.reduceMul, Int.reduceNeg, ↓reduceIte]
  rw [e1, e2, chg_eq]
  have hple := pos_le (w * 8 + a) ps
  obtain ⟨m, hm⟩ : ∃ m, m = pos (w * 8 + a) ps := ⟨_, rfl⟩
  rw [← hm] at hple ⊢
  have hwm : IntKind.wrap .i64 ((m : Int) + 1) = ((m + 1 : Nat) : Int) := by rw [wr64 (by omega) (by omega)]; omega
  cases hat : isAt (w * 8 + a) ps
  · rcases Int.lt_or_le 0 n with h5 | h5
    · have d5 : decide (0 < n) = true := by simpa using h5
      simp only [go_sem, Nat.reduceAdd, Nat.reduceSub, Nat.reduceMul, Nat.reducePow, Nat.reduceEqDiff, Nat.reduceLT, Nat.reduceLeDiff, Nat.reduceBEq, Nat.reduceBNe, Int.reduceToNat, Int.reduceLT, Int.reduceLE, Int.reduceEq, Int.reduceBNe, Int.reduceBEq, Int.reduceAdd, Int.reduceSub, Int.reduceMul, Int.reduceNeg, ↓reduceIte, d5]
      refine CallN.gen [] [832, 1072] false (by simp) ?_
      simp only [go_sem, Nat.reduceAdd, Nat.reduceSub, Nat.reduceMul, Nat.reducePow, Nat.reduceEqDiff, Nat.reduceLT, Nat.reduceLeDiff, Nat.reduceBEq, Nat.reduceBNe, Int.reduceToNat, Int.reduceLT, Int.reduceLE, Int.reduceEq, Int.reduceBNe, Int.reduceBEq, Int.reduceAdd, Int.reduceSub, Int.reduceMul, Int.reduceNeg, ↓reduceIte]
      refine CallG.intro (insert_spec ps w a n m (by omega) hple) ?_
      simp only [go_sem, Nat.reduceAdd, Nat.reduceSub, Nat.reduceMul, Nat.reducePow, Nat.reduceEqDiff, Nat.reduceLT, Nat.reduceLeDiff, Nat.reduceBEq, Nat.reduceBNe, Int.reduceToNat, Int.reduceLT, Int.reduceLE, Int.reduceEq, Int.reduceBNe, Int.reduceBEq, Int.reduceAdd, Int.reduceSub, Int.reduceMul, Int.reduceNeg, ↓reduceIte]
      simp [h5]
    · have d5 : decide (0 < n) = false := by simpa using h5
      have h5' : ¬ n > 0 := by omega
      simp only [go_sem, Nat.reduceAdd, Nat.reduceSub, Nat.reduceMul, Nat.reducePow, Nat.reduceEqDiff, Nat.reduceLT, Nat.reduceLeDiff, Nat.reduceBEq, Nat.reduceBNe, Int.reduceToNat, Int.reduceLT, Int.reduceLE, Int.reduceEq, Int.reduceBNe, Int.reduceBEq, Int.reduceAdd, Int.reduceSub, Int.reduceMul, Int.reduceNeg, ↓reduceIte, d5]
      simp [h5']
  · have hml := isAt_lt hat
    rw [← hm] at hml
    have hpl := part_len (ps := ps) (i := m) (b := 1) (by omega)
    have hpt := part_take (ps := ps) (i := m) (b := 1) (by omega)
    have hpd := part_drop (ps := ps) (i := m) (b := 1) (by omega)
    simp only [go_sem, Nat.reduceAdd, Nat.reduceSub, Nat.reduceMul, Nat.reducePow, Nat.reduceEqDiff, Nat.reduceLT, Nat.reduceLeDiff, Nat.reduceBEq, Nat.reduceBNe, Int.reduceToNat, Int.reduceLT, Int.reduceLE, Int.reduceEq, Int.reduceBNe, Int.reduceBEq, Int.reduceAdd, Int.reduceSub, Int.reduceMul, Int.reduceNeg, ↓reduceIte, hwm]
    refine CallN.gen [] [832] false (by simp) ?_
    simp only [go_sem, Nat.reduceAdd, Nat.reduceSub, Nat.reduceMul, Nat.reducePow, Nat.reduceEqDiff, Nat.reduceLT, Nat.reduceLeDiff, Nat.reduceBEq, Nat.reduceBNe, Int.reduceToNat, Int.reduceLT, Int.reduceLE, Int.reduceEq, Int.reduceBNe, Int.reduceBEq, Int.reduceAdd, Int.reduceSub, Int.reduceMul, Int.reduceNeg, ↓reduceIte]
    refine CallG.intro (delete_spec ps m (m + 1) (by omega) (by omega) (by omega)) ?_
    simp only [go_sem, Nat.reduceAdd, Nat.reduceSub, Nat.reduceMul, Nat.reducePow, Nat.reduceEqDiff, Nat.reduceLT, Nat.reduceLeDiff, Nat.reduceBEq, Nat.reduceBNe, Int.reduceToNat, Int.reduceLT, Int.reduceLE, Int.reduceEq, Int.reduceBNe, Int.reduceBEq, Int.reduceAdd, Int.reduceSub, Int.reduceMul, Int.reduceNeg, ↓reduceIte]
    rcases Int.lt_or_le 0 n with h5 | h5
    · have d5 : decide (0 < n) = true := by simpa using h5
      simp only [go_sem, Nat.reduceAdd, Nat.reduceSub, Nat.reduceMul, Nat.reducePow, Nat.reduceEqDiff, Nat.reduceLT, Nat.reduceLeDiff, Nat.reduceBEq, Nat.reduceBNe, Int.reduceToNat, Int.reduceLT, Int.reduceLE, Int.reduceEq, Int.reduceBNe, Int.reduceBEq, Int.reduceAdd, Int.reduceSub, Int.reduceMul, Int.reduceNeg, ↓reduceIte, d5]
      refine CallN.gen [] [928, 1072] false (by simp) ?_
      simp only [go_sem, Nat.reduceAdd, Nat.reduceSub, Nat.reduceMul, Nat.reducePow, Nat.reduceEqDiff, Nat.reduceLT, Nat.reduceLeDiff, Nat.reduceBEq, Nat.reduceBNe, Int.reduceToNat, Int.reduceLT, Int.reduceLE, Int.reduceEq, Int.reduceBNe, Int.reduceBEq, Int.reduceAdd, Int.reduceSub, Int.reduceMul, Int.reduceNeg, ↓reduceIte]
      refine CallG.intro (insert_spec (ps.take m ++ ps.drop (m + 1)) w a n m (by omega) (by omega)) ?_
      simp only [go_sem, Nat.reduceAdd, Nat.reduceSub, Nat.reduceMul, Nat.reducePow, Nat.reduceEqDiff, Nat.reduceLT, Nat.reduceLeDiff, Nat.reduceBEq, Nat.reduceBNe, Int.reduceToNat, Int.reduceLT, Int.reduceLE, Int.reduceEq, Int.reduceBNe, Int.reduceBEq, Int.reduceAdd, Int.reduceSub, Int.reduceMul, Int.reduceNeg, ↓reduceIte, hpt, hpd]
      simp [h5]
    · have d5 : decide (0 < n) = false := by simpa using h5
      have h5' : ¬ n > 0 := by omega
      simp only [go_sem, Nat.reduceAdd, Nat.reduceSub, Nat.reduceMul, Nat.reducePow, Nat.reduceEqDiff, Nat.reduceLT, Nat.reduceLeDiff, Nat.reduceBEq, Nat.reduceBNe, Int.reduceToNat, Int.reduceLT, Int.reduceLE, Int.reduceEq, Int.reduceBNe, Int.reduceBEq, Int.reduceAdd, Int.reduceSub, Int.reduceMul, Int.reduceNeg, ↓reduceIte, d5]
      simp [h5']
end Go.Proofs.Ytbllopdcbkeadaa
