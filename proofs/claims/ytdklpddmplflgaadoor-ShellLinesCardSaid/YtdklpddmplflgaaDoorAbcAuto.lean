/- Steps that need no thought, found by instances; lists that a loop puts together; no theorem of a claim. -/
import Derived.Test.YtdklpddmplflgaaDoorAbcWalk
set_option linter.unusedSimpArgs false
set_option linter.unusedVariables false
namespace Go.Abs
theorem DrawN.dq {np : Nat} {os : Array Oper} (h : drawOk np os = true := by kernel_rfl) : DrawN np os := DrawN.mk h
theorem OkN.dq {np : Nat} {ops : List Oper} {o : Oper} {r : Nat} (h : okName np ops o r = true := by kernel_rfl) : OkN np ops o r := OkN.mk h
theorem nmE {A : Type _} (a : A) : ∃ x, x = a := ⟨_, rfl⟩
theorem lml {A B : Type _} {f : A → B} {l : List A} : (l.map f).length = l.length := List.length_map f
theorem bae (a b : Bool) : ((a && b) = true) = (a = true ∧ b = true) := Bool.and_eq_true a b
theorem bfe : (false = true) = False := Bool.false_eq_true
/-! ### lists that a loop puts together -/
theorem fm_step {A B : Type} (f : A → List B) {xs : List A} {i : Nat} (h : i < xs.length) : (xs.take (i + 1)).flatMap f = (xs.take i).flatMap f ++ f xs[i] := by
  rw [List.take_succ_eq_append_getElem h, List.flatMap_append]; simp
theorem fr_step {B : Type} (f : Nat → List B) (i : Nat) : (List.range (i + 1)).flatMap f = (List.range i).flatMap f ++ f i := by
  rw [List.range_succ, List.flatMap_append]; simp
theorem fm_len {A B : Type} {f : A → List B} {m : Nat} (h : ∀ a, (f a).length ≤ m) : ∀ xs : List A, (xs.flatMap f).length ≤ m * xs.length
  | [] => by simp
  | x :: r => by
    have h1 := h x
    have h2 := fm_len h r
    simp only [List.flatMap_cons, List.length_append, List.length_cons, Nat.mul_succ]; omega
theorem fr_len {B : Type} {f : Nat → List B} {m : Nat} (h : ∀ a, (f a).length ≤ m) (i : Nat) : ((List.range i).flatMap f).length ≤ m * i := by
  have := fm_len h (List.range i); simpa using this
/-- pieces of which each bears its own key stand in order -/
theorem fr_sorted {B : Type} {R : B → B → Prop} {f : Nat → List B} (h1 : ∀ n, (f n).Pairwise R) (h2 : ∀ n m, n < m → ∀ x ∈ f n, ∀ y ∈ f m, R x y) (i : Nat) : ((List.range i).flatMap f).Pairwise R := by
  induction i with
  | zero => simp
  | succ i ih =>
    rw [fr_step, List.pairwise_append]
    refine ⟨ih, h1 i, ?_⟩
    intro x hx y hy
    obtain ⟨n, hn, hx⟩ := List.mem_flatMap.1 hx
    exact h2 n i (List.mem_range.1 hn) x hx y hy
end Go.Abs
