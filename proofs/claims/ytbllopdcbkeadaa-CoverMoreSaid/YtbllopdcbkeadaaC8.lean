/- The law CoverMore; no theorem of a claim. -/
import Derived.Test.YtbllopdcbkeadaaC7
import Derived.Test.YtbllopdcbkeadaaB8
set_option linter.unusedSimpArgs false
set_option linter.unusedVariables false
namespace Go.Proofs.Ytbllopdcbkeadaa
open Go.Abs
theorem of_ok {l : LedV} {r : RollV} {ps : List Plg} {w c : Int} (h : ofE l r ps w c = 0) : r.okB = true ∧ firstE r w c ps = 0 ∧ ofN l r ps w c = ofL ⟨2, w, c⟩ l.bs + sumV r w c ps ∧ inR (ofN l r ps w c) = true := by
  have h0 : chk3 l r ps = 0 := by
    by_cases hb : (chk3 l r ps != 0) = true
    · simp only [ofE, hb, if_true] at h
      exact h
    · simpa using hb
  have hb0 : (chk3 l r ps != 0) = false := by simp [h0]
  have hr : r.okB = true := by
    unfold chk3 at h0
    split at h0
    · rename_i hh; simp only [Bool.and_eq_true] at hh; exact hh.1.2
    · cases h0
  have h1 : firstE r w c ps = 0 := by
    by_cases hb : (firstE r w c ps != 0) = true
    · simp only [ofE, hb0, hb, if_true, Bool.false_eq_true, if_false] at h
      exact h
    · simpa using hb
  have hb1 : (firstE r w c ps != 0) = false := by simp [h1]
  simp only [ofE, hb0, hb1, Bool.false_eq_true, if_false] at h
  have hs : right (ofL ⟨2, w, c⟩ l.bs :: valsL r w c ps) = true ∧ inR (sumL (ofL ⟨2, w, c⟩ l.bs :: valsL r w c ps)) = true := by
    unfold sumE at h
    split at h
    · rename_i hh
      split at h
      · rename_i hi; exact ⟨hh, hi⟩
      · cases h
    · cases h
  have hN : ofN l r ps w c = sumL (ofL ⟨2, w, c⟩ l.bs :: valsL r w c ps) := by
    simp [ofN, hb0, hb1, sumN, hs.1, hs.2]
  refine ⟨hr, h1, ?_, by rw [hN]; exact hs.2⟩
  rw [hN]
  simp only [sumL, sumV_eq]
theorem inR_iff {x : Int} : inR x = true ↔ -4611686018427387904 ≤ x ∧ x ≤ 4611686018427387904 := by simp [inR]
theorem more_key {l : LedV} {r : RollV} {ps : List Plg} {w0 a u w c : Int} (hg : Good ps) (hr : rightB w0 a = true) (hu : 0 < u) {i : Nat} (hi : i < r.xs.length) (ha : r.xs[i].a = a) (hn : 0 ≤ unitsL w0 a ps + u)
    (h1 : ofE l r ps w c = 0) (h2 : ofE l r (chg w0 a (unitsL w0 a ps + u) ps) w c = 0) :
    IntKind.wrap .i64 (ofN l r (chg w0 a (unitsL w0 a ps + u) ps) w c - ofN l r ps w c) = ofN l r (chg w0 a (unitsL w0 a ps + u) ps) w c - ofN l r ps w c ∧
      (if w = w0 ∧ c = r.xs[i].b then (ofN l r (chg w0 a (unitsL w0 a ps + u) ps) w c - ofN l r ps w c = r.xs[i].V u ∨ ofN l r (chg w0 a (unitsL w0 a ps + u) ps) w c - ofN l r ps w c = r.xs[i].V u + 1) else ofN l r (chg w0 a (unitsL w0 a ps + u) ps) w c - ofN l r ps w c = 0) ∧
      (-9223372036854775808 ≤ r.xs[i].V u + 1 ∧ r.xs[i].V u + 1 ≤ 9223372036854775807) := by
  obtain ⟨hrk, f1, n1, r1⟩ := of_ok h1
  obtain ⟨-, f2, n2, r2⟩ := of_ok h2
  have hxs : rises AssetV.a AssetV.ok r.xs = true := by
    simp only [RollV.okB, Bool.and_eq_true] at hrk; exact hrk.2
  obtain ⟨g1, g2⟩ := getL_unique hxs hi
  rw [ha] at g1 g2
  have hast : ∀ n : Int, astOf r ⟨w0, a, n⟩ = r.xs[i] := fun n => g1
  have hhit : ∀ n : Int, hitB r w c ⟨w0, a, n⟩ = (w0 == w && r.xs[i].b == c) := fun n => by
    have hp : decide (0 ≤ posL AssetV.a a r.xs) = true := by rw [g2]; simp
    simp only [hitB, hast, hp, Bool.true_and]
  have hsum := sumV_chg r w c hr hn hg
  have hv0 := unitsL_range (w := w0) (a := a) hg.1
  have hVr : -4611686018427387904 ≤ r.xs[i].V u ∧ r.xs[i].V u ≤ 4611686018427387904 := by
    simp only [AssetV.V]
    split
    · unfold quoQ
      split
      · omega
      · split
        · rename_i hh; exact inR_iff.1 hh
        · omega
    · omega
  have i1 := inR_iff.1 r1
  have i2 := inR_iff.1 r2
  suffices main : if w = w0 ∧ c = r.xs[i].b then (ofN l r (chg w0 a (unitsL w0 a ps + u) ps) w c - ofN l r ps w c = r.xs[i].V u ∨ ofN l r (chg w0 a (unitsL w0 a ps + u) ps) w c - ofN l r ps w c = r.xs[i].V u + 1) else ofN l r (chg w0 a (unitsL w0 a ps + u) ps) w c - ofN l r ps w c = 0 by
    refine ⟨?_, main, by omega, by omega⟩
    split at main
    · exact wr64 (by omega) (by omega)
    · exact wr64 (by omega) (by omega)
  split
  · rename_i hwc
    have hh : (w0 == w && r.xs[i].b == c) = true := by simp [hwc.1, hwc.2]
    have e1 : ∀ n, hitV r w c ⟨w0, a, n⟩ = r.xs[i].V n := fun n => by
      simp only [hitV, hhit, hh, if_true, hast]
    rw [e1, e1] at hsum
    have hE : r.xs[i].E (unitsL w0 a ps + u) = 0 := by
      have hin : (⟨w0, a, unitsL w0 a ps + u⟩ : Plg) ∈ chg w0 a (unitsL w0 a ps + u) ps := by
        have hU := units_chg hr hn hg
        have := units_some (w := w0) (a := a) (ps := chg w0 a (unitsL w0 a ps + u) ps) (by rw [hU]; omega)
        rw [hU] at this; exact this
      have := firstE_zero f2 _ hin (by rw [hhit]; exact hh)
      rw [hast] at this
      exact this
    have := V_add hE hv0.1 (by omega)
    omega
  · rename_i hwc
    have hh : (w0 == w && r.xs[i].b == c) = false := by
      cases hb : (w0 == w && r.xs[i].b == c)
      · rfl
      · simp only [Bool.and_eq_true, beq_iff_eq] at hb
        exact (hwc ⟨hb.1.symm, hb.2.symm⟩).elim
    have e1 : ∀ n, hitV r w c ⟨w0, a, n⟩ = 0 := fun n => by
      simp only [hitV, hhit, hh]; rfl
    rw [e1, e1] at hsum
    omega
end Go.Proofs.Ytbllopdcbkeadaa
