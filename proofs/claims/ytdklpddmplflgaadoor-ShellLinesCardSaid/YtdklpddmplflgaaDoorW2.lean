/- Texts: numbers as text, words; no theorem of a claim. -/
import Derived.Test.YtdklpddmplflgaaDoorB0
import Derived.Lib.ItoaLen
import Derived.Lib.ItoaMem
import Derived.Lib.Strings
set_option linter.unusedSimpArgs false
set_option linter.unusedVariables false
namespace Go.Proofs.YtdklpddmplflgaaDoor
open Go.Abs
open Go.Lib (itoa decDigits)
def B (l : List UInt8) : ByteArray := ⟨l.toArray⟩
theorem B_mk (l : List UInt8) : ByteArray.mk l.toArray = B l := rfl
theorem B_lst (l : List UInt8) : (B l).toList = l := by
  rw [Go.Lib.toList_data]; rfl
theorem B_app (a b : List UInt8) : B a ++ B b = B (a ++ b) := by
  apply ByteArray.ext
  simp [B]
theorem B_size (l : List UInt8) : (B l).size = l.length := rfl
theorem B_ext (l : List UInt8) (i j : Nat) : (B l).extract i j = B ((l.drop i).take (j - i)) := by
  apply ByteArray.ext
  simp [B]
theorem B_at (l : List UInt8) (i : Nat) (h : i < l.length) : (Option.map (fun x : UInt8 => (x.toNat : Int)) (B l)[i]?).getD 0 = (l[i].toNat : Int) := by
  have : (B l)[i]? = some l[i] := by
    rw [getElem?_pos _ _ (by exact h)]; rfl
  rw [this]; rfl
theorem sop_eqd (a b : ByteArray) : (a.toList == b.toList) = decide (a = b) := by
  rw [Go.Lib.toList_data, Go.Lib.toList_data]
  by_cases h : a = b
  · subst h; simp
  · rw [decide_eq_false h]
    simp only [beq_eq_false_iff_ne]
    intro h2; apply h; cases a; cases b; simp at h2; simp [h2]
theorem dec_rng : ∀ u : Nat, ∀ b ∈ decDigits u, 48 ≤ b.toNat ∧ b.toNat ≤ 57 := by
  intro u
  induction u using Nat.strongRecOn with
  | _ u ih =>
    intro b hb
    rw [decDigits] at hb
    split at hb
    · obtain rfl := List.mem_singleton.1 hb
      rw [UInt8.toNat_ofNat']; omega
    · rcases List.mem_append.1 hb with hb | hb
      · exact ih _ (by omega) b hb
      · obtain rfl := List.mem_singleton.1 hb
        rw [UInt8.toNat_ofNat']; omega
theorem itoa_no (n : Int) : (32 : UInt8) ∉ itoa n := by
  intro h
  unfold itoa at h
  split at h
  · rcases List.mem_cons.1 h with h | h
    · cases h
    · have := dec_rng _ _ h; simp at this
  · have := dec_rng _ _ h; simp at this
def spl : List UInt8 → List UInt8 → List (List UInt8)
  | [], cur => [cur]
  | b :: r, cur => if b = 32 then cur :: spl r [] else spl r (cur ++ [b])
theorem spl_word : ∀ (a r cur : List UInt8), (32 : UInt8) ∉ a → spl (a ++ 32 :: r) cur = (cur ++ a) :: spl r []
  | [], r, cur, _ => by simp [spl]
  | b :: a, r, cur, h => by
    have hb : b ≠ 32 := fun e => h (by simp [e])
    have ha : (32 : UInt8) ∉ a := fun e => h (by simp [e])
    simp only [List.cons_append, spl, if_neg hb]
    rw [spl_word a r _ ha]; simp
theorem spl_last : ∀ (a cur : List UInt8), (32 : UInt8) ∉ a → spl a cur = [cur ++ a]
  | [], cur, _ => by simp [spl]
  | b :: a, cur, h => by
    have hb : b ≠ 32 := fun e => h (by simp [e])
    have ha : (32 : UInt8) ∉ a := fun e => h (by simp [e])
    simp only [spl, if_neg hb]
    rw [spl_last a _ ha]; simp
def tailN (ns : List Int) : List UInt8 := ns.flatMap fun n => 32 :: itoa n
theorem tailN_len : ∀ (ns : List Int), (∀ n ∈ ns, -9223372036854775808 ≤ n ∧ n ≤ 9223372036854775807) → (tailN ns).length ≤ 22 * ns.length
  | [], _ => by simp [tailN]
  | n :: r, h => by
    have h1 := Go.Lib.itoa_length_le n (h n (by simp)).1 (h n (by simp)).2
    have h2 := tailN_len r fun x hx => h x (by simp [hx])
    simp only [tailN, List.flatMap_cons, List.length_append, List.length_cons] at h2 ⊢
    omega
end Go.Proofs.YtdklpddmplflgaaDoor
