/- Numbers as text, read by the library; no theorem of a claim. -/
import Derived.Test.YtdklpddmplflgaaDoorW2
import Derived.Lib.AtoiAll
set_option linter.unusedSimpArgs false
set_option linter.unusedVariables false
namespace Go.Proofs.YtdklpddmplflgaaDoor
open Go.Lib (itoa decDigits parseUint10 parseMag atoiAll)
theorem pu_app (b : UInt8) : ∀ (l : List UInt8) (a v : Nat), parseUint10 a l = .ok v → parseUint10 a (l ++ [b]) = parseUint10 v [b]
  | [], a, v, h => by
    simp only [parseUint10] at h
    injection h with h
    rw [h]; rfl
  | c :: r, a, v, h => by
    rw [parseUint10] at h
    rw [List.cons_append, parseUint10]
    split at h
    · rename_i hc
      rw [if_pos hc]
      split at h
      · cases h
      · rename_i h1
        rw [if_neg h1]
        split at h
        · cases h
        · rename_i h2
          rw [if_neg h2]
          exact pu_app b r _ _ h
    · cases h
theorem pu_dec : ∀ u : Nat, u < 18446744073709551616 → parseUint10 0 (decDigits u) = .ok u := by
  intro u
  induction u using Nat.strongRecOn with
  | _ u ih =>
    intro h
    have one : ∀ a d : Nat, d < 10 → a * 10 + d < 18446744073709551616 → parseUint10 a [UInt8.ofNat (48 + d)] = .ok (a * 10 + d) := by
      intro a d hd ha
      have e : (UInt8.ofNat (48 + d)).toNat = 48 + d := by rw [UInt8.toNat_ofNat']; omega
      simp only [parseUint10, e]
      rw [if_pos (by omega), if_neg (by omega), if_neg (by omega)]
      congr 1; omega
    rw [decDigits]
    split
    · rename_i h1
      have := one 0 u h1 (by omega)
      simpa using this
    · rw [pu_app _ _ _ _ (ih (u / 10) (by omega) (by omega)), one _ _ (by omega) (by omega)]
      congr 1; omega
theorem dec_first (u : Nat) : ∃ c r, decDigits u = c :: r ∧ 48 ≤ c.toNat ∧ c.toNat ≤ 57 := by
  induction u using Nat.strongRecOn with
  | _ u ih =>
    rw [decDigits]
    split
    · exact ⟨_, [], rfl, by rw [UInt8.toNat_ofNat']; omega, by rw [UInt8.toNat_ofNat']; omega⟩
    · obtain ⟨c, r, e, h⟩ := ih (u / 10) (by omega)
      exact ⟨c, r ++ _, by rw [e]; rfl, h⟩
theorem atoi_itoa (n : Int) (h0 : -9223372036854775808 ≤ n) (h1 : n ≤ 9223372036854775807) : atoiAll (itoa n) = .ok n := by
  by_cases hn : n < 0
  · obtain ⟨u, rfl⟩ : ∃ u : Nat, n = -(u : Int) := ⟨n.natAbs, by omega⟩
    rw [Go.Lib.itoa_neg u (by omega)]
    obtain ⟨c, r, e, hc⟩ := dec_first u
    have hp := pu_dec u (by omega)
    have hm : parseMag (decDigits u) = .ok u := by
      unfold parseMag; rw [if_neg (by rw [e]; simp)]; exact hp
    have e45 : (45 : UInt8).toNat = 45 := rfl
    simp only [atoiAll, e45, or_true, if_true, hm]
    rw [if_neg (by simp), if_neg (by omega)]
  · obtain ⟨u, rfl⟩ : ∃ u : Nat, n = (u : Int) := ⟨n.toNat, by omega⟩
    rw [Go.Lib.itoa_nonneg]
    obtain ⟨c, r, e, hc⟩ := dec_first u
    have hp := pu_dec u (by omega)
    have hm : parseMag (c :: r) = .ok u := by
      unfold parseMag; rw [if_neg (by simp), ← e]; exact hp
    rw [e]
    simp only [atoiAll]
    rw [if_neg (by omega), hm]
    simp only
    rw [if_neg (by omega), if_neg (by omega), if_neg (by omega)]
end Go.Proofs.YtdklpddmplflgaaDoor
