/- A contract of a library function, told as data; no theorem of a claim. -/
import Derived.Test.YtdklpddmplflgaaDoorAbcEval2
set_option linter.unusedSimpArgs false
set_option linter.unusedVariables false
namespace Go.Abs
open Go.RowKit
section
variable {P : Program}
/-- Whoever returns what reads as d, whatever the memory, and turns nothing below the heap's old size. -/
theorem Spec.of_calls {f : FuncId} {ds : List D} {d : D} (he : Enters P f)
    (h : ∀ (w : World) (l0 : Nat → Option Nat) (S0 : Nat → Option Value) (vs : Array Value), (∀ t ∈ tabs, ∃ E x c, w.heap[t.1]? = some (.cells c E x) ∧ t.2.holds c) → (∀ b m, l0 b = some m → b < w.heap.size) → vs.size = ds.length → (∀ (i : Nat) v x, vs[i]? = some v → ds[i]? = some x → RepV (cx w l0 S0) v x) →
      Calls P f vs w fun e w' => ∃ v, e = .returned v ∧ Below w.heap.size w w' ∧ RepV (cx w' l0 S0) v d) (hd : d.names = []) : Spec P f [] ds [] d := by
  refine ⟨he, ?_⟩
  intro w l0 G0 own0 S0 vs hT hl hG hs hr ho
  refine (h w l0 S0 vs (fun t ht => (hT t ht).2) hl hs hr).mono ?_
  rintro e w' ⟨v, rfl, hb, hv⟩
  have hG' : ∀ b lo hi, G0 b = some (lo, hi) → PartAt w w' b lo hi := by
    intro b lo hi hg
    obtain ⟨c0, c, E, h1, h2, h3, h4⟩ := hG b lo hi hg
    have hlt : b < w.heap.size := (Array.getElem?_eq_some_iff.1 h1).1
    exact ⟨c0, c, E, h1, (hb.block b hlt).trans h2, h3, h4⟩
  refine ⟨v, rfl, hb.os, hb.tape, hb.output, hb.size, fun b hb' _ => hb.block b hb', hG', l0, fun _ => none, fun _ => none, ?_, fun _ _ _ => rfl, ?_, ?_, ?_⟩
  · intro b m hm
    exact Nat.lt_of_lt_of_le (hl b m hm) hb.size
  · exact RepV.keep (C := cx w' l0 S0) (C' := cx w' l0 fun _ => none) (fun _ _ h => h) hv (fun s hs => by rw [hd] at hs; cases hs)
  · intro r
    have : ([] : List D).getD r .undef = .undef := by simp
    rw [this]
    rfl
  · intro i hi
    simp at hi
/-- The world behind the call is the one before. -/
theorem Spec.of_same {f : FuncId} {ds : List D} {d : D} (he : Enters P f)
    (h : ∀ (w : World) (l0 : Nat → Option Nat) (S0 : Nat → Option Value) (vs : Array Value), vs.size = ds.length → (∀ (i : Nat) v x, vs[i]? = some v → ds[i]? = some x → RepV (cx w l0 S0) v x) →
      ∃ v, Calls P f vs w (fun e w' => e = .returned v ∧ w' = w) ∧ RepV (cx w l0 S0) v d) (hd : d.names = []) : Spec P f [] ds [] d := by
  refine Spec.of_calls he ?_ hd
  intro w l0 S0 vs _ hl hs hr
  obtain ⟨v, hc, hv⟩ := h w l0 S0 vs hs hr
  refine hc.mono ?_
  rintro e w' ⟨rfl, rfl⟩
  exact ⟨v, rfl, Below.refl _ _, hv⟩
/-- a list of texts in memory that stays -/
def strs (xs : List ByteArray) : List (List D) := xs.map fun x => [.str x]
theorem strs_open {w : World} {l0 : Nat → Option Nat} {S0 : Nat → Option Value} {v : Value} {xs : List ByteArray} (h : RepV (cx w l0 S0) v (.sl 1 (strs xs))) (hne : xs ≠ []) :
    ∃ bk o c, v = .slice (some ⟨bk, o, none⟩) xs.length c ∧ xs.length ≤ c ∧ bk < w.heap.size ∧ ∀ (j : Nat) x, xs[j]? = some x → w.cell? ⟨bk, o + j, none⟩ = some (.string x) := by
  generalize hr : strs xs = rows at h
  cases h with
  | slnil z => unfold strs at hr; exact (hne (List.map_eq_nil_iff.1 hr)).elim
  | sl z a cap rows f hl hz hk hc h1 =>
    subst hr
    have hcell : ∀ (j : Nat) x, xs[j]? = some x → w.cell? (a.add j) = some (.string x) := by
      intro j x hx
      have hrow : (strs xs)[j]? = some [.str x] := by simp [strs, hx]
      have c1 := hc j 0 _ _ hrow rfl
      have c2 := h1 j 0 _ _ hrow rfl
      have c3 : f j 0 = .string x := c2.str_inv
      rw [c3] at c1
      have := vis_cell c1
      simpa using this
    obtain ⟨x0, xr, rfl⟩ : ∃ x0 xr, xs = x0 :: xr := by cases xs with
      | nil => exact (hne rfl).elim
      | cons x0 xr => exact ⟨x0, xr, rfl⟩
    have c0 := hcell 0 x0 rfl
    obtain ⟨bk, o, sp⟩ := a
    have hsp : sp = none ∧ bk < w.heap.size := by
      simp only [Addr.add, if_true, World.cell?] at c0
      split at c0
      · rename_i c E B hb
        refine ⟨?_, (Array.getElem?_eq_some_iff.1 hb).1⟩
        cases sp with
        | none => rfl
        | some p => simp at c0
      · cases c0
    obtain ⟨rfl, hlt⟩ := hsp
    refine ⟨bk, o, cap, by simp [strs], by simpa [strs] using hl, hlt, ?_⟩
    intro j x hx
    have := hcell j x hx
    unfold Addr.add at this
    split at this
    · rename_i h0; subst h0; simpa using this
    · simpa using this
end
end Go.Abs
