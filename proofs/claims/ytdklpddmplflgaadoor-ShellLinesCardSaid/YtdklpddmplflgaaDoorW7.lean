/- Numbers as text, read back; no theorem of a claim. -/
import Derived.Test.YtdklpddmplflgaaDoorW2
set_option linter.unusedSimpArgs false
set_option linter.unusedVariables false
namespace Go.Proofs.YtdklpddmplflgaaDoor
open Go.Lib (itoa decDigits)
def valL (l : List UInt8) : Nat := l.foldl (fun a b => 10 * a + (b.toNat - 48)) 0
theorem valL_app (l : List UInt8) (b : UInt8) : valL (l ++ [b]) = 10 * valL l + (b.toNat - 48) := by
  simp [valL]
theorem valL_step (l : List UInt8) {i : Nat} (hi : i < l.length) : valL (l.take (i + 1)) = 10 * valL (l.take i) + (l[i].toNat - 48) := by
  rw [List.take_succ_eq_append_getElem hi, valL_app]
theorem valL_take (l : List UInt8) (i : Nat) : valL (l.take i) ≤ valL l := by
  have h : ∀ k, i + k ≤ l.length → valL (l.take i) ≤ valL (l.take (i + k)) := by
    intro k
    induction k with
    | zero => intro _; exact Nat.le_refl _
    | succ k ih =>
      intro h
      have := valL_step l (i := i + k) (by omega)
      have := ih (by omega)
      rw [← Nat.add_assoc]; omega
  rcases Nat.lt_or_ge l.length i with g | g
  · rw [List.take_of_length_le (by omega)]; exact Nat.le_refl _
  · have := h (l.length - i) (by omega)
    rwa [show i + (l.length - i) = l.length by omega, List.take_length] at this
theorem valL_dec : ∀ u : Nat, valL (decDigits u) = u := by
  intro u
  induction u using Nat.strongRecOn with
  | _ u ih =>
    rw [decDigits]
    split
    · simp [valL, UInt8.toNat_ofNat']; omega
    · rw [valL_app, ih _ (by omega), UInt8.toNat_ofNat']; omega
theorem dec_len : ∀ (k u : Nat), 0 < k → u < 10 ^ k → (decDigits u).length ≤ k
  | 0, _, h, _ => by omega
  | 1, u, _, h => by rw [decDigits, dif_pos (by simpa using h)]; simp
  | k + 2, u, _, h => by
    rw [decDigits]
    split
    · simp
    · rw [List.length_append, List.length_singleton]
      have := dec_len (k + 1) (u / 10) (by omega) (by rw [Nat.pow_succ] at h; omega)
      omega
theorem dec_pos (u : Nat) : 0 < (decDigits u).length := by
  rw [decDigits]; split <;> simp
theorem itoa_len20 (n : Int) (h0 : -9223372036854775808 ≤ n) (h1 : n ≤ 9223372036854775807) : (itoa n).length ≤ 20 := by
  unfold itoa
  split
  · have := dec_len 19 n.natAbs (by omega) (by omega)
    simp; omega
  · have := dec_len 19 n.toNat (by omega) (by omega)
    omega
theorem itoa_inj {a b : Int} (h : itoa a = itoa b) : a = b := by
  have ne : ∀ (u : Nat) (r : List UInt8), decDigits u ≠ 45 :: r := by
    intro u r e
    have hm : (45 : UInt8) ∈ decDigits u := by rw [e]; simp
    have h : ∀ u : Nat, ∀ b ∈ decDigits u, 48 ≤ b.toNat := by
      intro u
      induction u using Nat.strongRecOn with
      | _ u ih =>
        intro b hb
        rw [decDigits] at hb
        split at hb
        · obtain rfl := List.mem_singleton.1 hb
          rw [UInt8.toNat_ofNat']; omega
        · rcases List.mem_append.1 hb with hb | hb
          · exact ih _ (by omega) b hb
          · obtain rfl := List.mem_singleton.1 hb
            rw [UInt8.toNat_ofNat']; omega
    have := h u _ hm
    simp at this
  have inj : ∀ u v : Nat, decDigits u = decDigits v → u = v := fun u v e => by rw [← valL_dec u, ← valL_dec v, e]
  unfold itoa at h
  split at h <;> split at h
  · have := inj _ _ (List.cons.inj h).2; omega
  · exact absurd h.symm (ne _ _)
  · exact absurd h (ne _ _)
  · have := inj _ _ h; omega
/-- the bound: no digit more is too great -/
theorem no_over {a d : Nat} (h : 10 * a + d ≤ 9223372036854775808) (hd : d ≤ 9) : ¬ (-(a : Int) < (-9223372036854775808 + (d : Int)).tdiv 10) := by
  have e : (-9223372036854775808 + (d : Int)).tdiv 10 = -(((9223372036854775808 - d) / 10 : Nat) : Int) := by
    rw [show (-9223372036854775808 + (d : Int)) = -((9223372036854775808 - d : Nat) : Int) by omega, Int.neg_tdiv, Int.ofNat_tdiv]
    rfl
  rw [e]; omega
end Go.Proofs.YtdklpddmplflgaaDoor
