/- Lines of commands, plain; no theorem of a claim. -/
import Derived.Test.YtdklpddmplflgaaDoorW7
import Derived.Test.YtdklpddmplflgaaDoorW10
import Derived.Lib.AtoiAllCases
set_option linter.unusedSimpArgs false
set_option linter.unusedVariables false
namespace Go.Proofs.YtdklpddmplflgaaDoor
open Go.Lib (itoa decDigits atoiAll)
def joinW : List (List UInt8) → List UInt8
  | [] => []
  | w :: ws => w ++ ws.flatMap fun x => 32 :: x
theorem spl_ne : ∀ (l cur : List UInt8), spl l cur ≠ []
  | [], cur => by simp [spl]
  | b :: r, cur => by
    simp only [spl]; split
    · simp
    · exact spl_ne r _
theorem joinW_cons (w : List UInt8) {ws : List (List UInt8)} (h : ws ≠ []) : joinW (w :: ws) = w ++ 32 :: joinW ws := by
  match ws, h with
  | x :: r, _ => simp [joinW]
theorem spl_join : ∀ (l cur : List UInt8), joinW (spl l cur) = cur ++ l
  | [], cur => by simp [spl, joinW]
  | b :: r, cur => by
    simp only [spl]
    split
    · rename_i h
      rw [joinW_cons _ (spl_ne r []), spl_join r [], h]; simp
    · rw [spl_join r (cur ++ [b])]; simp
theorem spl_no : ∀ (l cur : List UInt8), (32 : UInt8) ∉ cur → ∀ w ∈ spl l cur, (32 : UInt8) ∉ w
  | [], cur, h, w, hw => by simp only [spl, List.mem_singleton] at hw; rw [hw]; exact h
  | b :: r, cur, h, w, hw => by
    simp only [spl] at hw
    split at hw
    · rcases List.mem_cons.1 hw with rfl | hw
      · exact h
      · exact spl_no r [] (by simp) w hw
    · rename_i hb
      exact spl_no r _ (by simp only [List.mem_append, List.mem_singleton, not_or]; exact ⟨h, fun e => hb e.symm⟩) w hw
theorem spl_joinW : ∀ (ws : List (List UInt8)), ws ≠ [] → (∀ w ∈ ws, (32 : UInt8) ∉ w) → spl (joinW ws) [] = ws
  | [w], _, h => by
    simp only [joinW, List.flatMap_nil, List.append_nil]
    rw [spl_last w [] (h w (by simp))]; simp
  | w :: x :: r, _, h => by
    rw [joinW_cons w (by simp), spl_word w _ [] (h w (by simp)), spl_joinW (x :: r) (by simp) fun y hy => h y (by simp [hy])]
    simp
theorem tailN_joinW (w : List UInt8) (ns : List Int) : w ++ tailN ns = joinW (w :: ns.map itoa) := by
  simp only [joinW, tailN, List.flatMap_map]
/-- the number that a word is -/
def numOf (w : List UInt8) : Option Int :=
  match atoiAll w with
  | .ok n => if itoa n = w then some n else none
  | _ => none
theorem numOf_itoa (n : Int) (h : -9223372036854775808 ≤ n ∧ n ≤ 9223372036854775807) : numOf (itoa n) = some n := by
  unfold numOf
  rw [atoi_itoa n h.1 h.2]
  simp
theorem atoi_rng {w : List UInt8} {n : Int} (h : atoiAll w = .ok n) : -9223372036854775808 ≤ n ∧ n ≤ 9223372036854775807 := Go.Lib.atoiAll_bounds h
theorem numOf_some {w : List UInt8} {n : Int} (h : numOf w = some n) : w = itoa n ∧ -9223372036854775808 ≤ n ∧ n ≤ 9223372036854775807 := by
  unfold numOf at h
  split at h
  · rename_i m hm
    split at h
    · rename_i hi
      obtain rfl := Option.some.inj h
      exact ⟨hi.symm, atoi_rng hm⟩
    · cases h
  · cases h
theorem numOf_none {w : List UInt8} (h : numOf w = none) (n : Int) (hn : -9223372036854775808 ≤ n ∧ n ≤ 9223372036854775807) : itoa n ≠ w := by
  intro e
  rw [← e, numOf_itoa n hn] at h
  cases h
/-- the numbers that words are -/
def numsOf : List (List UInt8) → Option (List Int)
  | [] => some []
  | w :: r => match numOf w, numsOf r with
    | some n, some ns => some (n :: ns)
    | _, _ => none
theorem numsOf_itoa : ∀ (ns : List Int), (∀ n ∈ ns, -9223372036854775808 ≤ n ∧ n ≤ 9223372036854775807) → numsOf (ns.map itoa) = some ns
  | [], _ => rfl
  | n :: r, h => by
    simp only [List.map_cons, numsOf]
    rw [numOf_itoa n (h n (by simp)), numsOf_itoa r fun x hx => h x (by simp [hx])]
theorem numsOf_some : ∀ {ws : List (List UInt8)} {ns : List Int}, numsOf ws = some ns → ws = ns.map itoa ∧ ∀ n ∈ ns, -9223372036854775808 ≤ n ∧ n ≤ 9223372036854775807
  | [], ns, h => by
    obtain rfl := Option.some.inj h
    simp
  | w :: r, ns, h => by
    simp only [numsOf] at h
    split at h
    · rename_i n m h1 h2
      obtain rfl := Option.some.inj h
      obtain ⟨e1, e2⟩ := numOf_some h1
      obtain ⟨e3, e4⟩ := numsOf_some h2
      refine ⟨by rw [e1, e3]; rfl, ?_⟩
      intro x hx
      rcases List.mem_cons.1 hx with rfl | hx
      · exact e2
      · exact e4 x hx
    · cases h
theorem numsOf_len {ws : List (List UInt8)} {ns : List Int} (h : numsOf ws = some ns) : ns.length = ws.length := by
  rw [(numsOf_some h).1]; simp
theorem numsOf_at : ∀ {ws : List (List UInt8)} {i : Nat} (hi : i < ws.length), numOf ws[i] = none → numsOf ws = none
  | w :: r, 0, _, h => by
    simp only [numsOf]
    rw [show numOf w = none from h]
  | w :: r, i + 1, hi, h => by
    simp only [numsOf]
    rw [numsOf_at (ws := r) (i := i) (by simpa using hi) h]
    cases numOf w <;> rfl
/-- the words of the kinds -/
def kindW : List (List UInt8) := [[97, 100, 109, 105, 116], [108, 105, 115, 116], [97, 115, 115, 101, 116], [112, 97, 121], [100, 114, 97, 119], [112, 108, 101, 100, 103, 101], [114, 101, 108, 101, 97, 115, 101], [102, 117, 110, 100], [115, 107, 105, 110], [116, 114, 97, 100, 101], [99, 97, 110, 99, 101, 108], [99, 111, 114, 114, 101, 99, 116], [112, 114, 105, 99, 101], [115, 101, 116, 116, 108, 101], [109, 97, 114, 103, 105, 110], [111, 112, 101, 110], [116, 105, 99, 107], [98, 105, 100], [99, 108, 111, 115, 101], [114, 101, 102, 105, 108, 108], [98, 97, 108, 97, 110, 99, 101], [112, 111, 115, 105, 116, 105, 111, 110]]
/-- the places of the fields of the k-th kind -/
def offL : Nat → List Nat
  | 0 => [3, 10] | 1 => [6, 7, 8, 10, 11, 12, 13, 14, 15, 16] | 2 => [5, 7, 9, 10] | 3 => [3, 7, 10] | 4 => [3, 7, 10] | 5 => [3, 5, 8] | 6 => [3, 5, 8] | 7 => [3, 7, 10]
  | 8 => [7, 10] | 9 => [3, 4, 6, 8, 9] | 10 => [5] | 11 => [5, 8, 9] | 12 => [6, 9] | 13 => [] | 14 => [] | 15 => [] | 16 => [10] | 17 => [3, 6, 4, 8, 9] | 18 => [3] | 19 => [] | 20 => [5, 3, 7] | 21 => [3, 6] | _ => []
def placeL (k : Nat) : List Nat := 0 :: 1 :: offL k
def bareC (a b : Int) (k : Nat) : List Int := [a, b, k + 1, 0, 0, 0, 0, 0, 0, 0, 0, 0, 0, 0, 0, 0, 0]
def putL : List Int → List Nat → List Int → List Int
  | cs, o :: os, n :: ns => putL (cs.set o n) os ns
  | cs, _, _ => cs
def kindOf (w : List UInt8) : Option Nat := kindW.findIdx? (· == w)
def readC (l : List UInt8) : Option (List Int) :=
  match spl l [] with
  | [] => none
  | w :: ws => match kindOf w, numsOf ws with
    | some k, some ns => if ns.length = (placeL k).length then some (putL (bareC 0 0 k) (placeL k) ns) else none
    | _, _ => none
def lineC (k : Nat) (c : List Int) : List UInt8 := joinW (kindW.getD k [] :: (placeL k).map fun o => itoa (c.getD o 0))
theorem kindW_no : ∀ w ∈ kindW, (32 : UInt8) ∉ w := by decide
theorem kindW_len : kindW.length = 22 := rfl
theorem kindOf_at : ∀ k < 22, kindOf (kindW.getD k []) = some k := by decide
theorem kindOf_some {w : List UInt8} {k : Nat} (h : kindOf w = some k) : k < 22 ∧ kindW.getD k [] = w := by
  unfold kindOf at h
  rw [List.findIdx?_eq_some_iff_getElem] at h
  obtain ⟨h1, h2, _⟩ := h
  refine ⟨h1, ?_⟩
  rw [List.getD, List.getElem?_eq_getElem h1]
  simpa using h2
theorem kindOf_first {w : List UInt8} {k : Nat} (hk : k < 22) (h1 : ∀ j < k, kindW.getD j [] ≠ w) (h2 : kindW.getD k [] = w) : kindOf w = some k := by
  rw [← h2]; exact kindOf_at k hk
theorem kindOf_none {w : List UInt8} (h : ∀ j < 22, kindW.getD j [] ≠ w) : kindOf w = none := by
  cases e : kindOf w with
  | none => rfl
  | some k => exact absurd (kindOf_some e).2 (h k (kindOf_some e).1)
theorem len17 {c : List Int} (h : c.length = 17) : ∃ a0 a1 a2 a3 a4 a5 a6 a7 a8 a9 a10 a11 a12 a13 a14 a15 a16, c = [a0, a1, a2, a3, a4, a5, a6, a7, a8, a9, a10, a11, a12, a13, a14, a15, a16] := by
  match c, h with
  | [a0, a1, a2, a3, a4, a5, a6, a7, a8, a9, a10, a11, a12, a13, a14, a15, a16], _ => exact ⟨a0, a1, a2, a3, a4, a5, a6, a7, a8, a9, a10, a11, a12, a13, a14, a15, a16, rfl⟩
theorem len2 {l : List Int} (h : l.length = 2) : ∃ x0 x1, l = [x0, x1] := by
  match l, h with
  | [x0, x1], _ => exact ⟨x0, x1, rfl⟩
theorem len3 {l : List Int} (h : l.length = 3) : ∃ x0 x1 x2, l = [x0, x1, x2] := by
  match l, h with
  | [x0, x1, x2], _ => exact ⟨x0, x1, x2, rfl⟩
theorem len4 {l : List Int} (h : l.length = 4) : ∃ x0 x1 x2 x3, l = [x0, x1, x2, x3] := by
  match l, h with
  | [x0, x1, x2, x3], _ => exact ⟨x0, x1, x2, x3, rfl⟩
theorem len5 {l : List Int} (h : l.length = 5) : ∃ x0 x1 x2 x3 x4, l = [x0, x1, x2, x3, x4] := by
  match l, h with
  | [x0, x1, x2, x3, x4], _ => exact ⟨x0, x1, x2, x3, x4, rfl⟩
theorem len6 {l : List Int} (h : l.length = 6) : ∃ x0 x1 x2 x3 x4 x5, l = [x0, x1, x2, x3, x4, x5] := by
  match l, h with
  | [x0, x1, x2, x3, x4, x5], _ => exact ⟨x0, x1, x2, x3, x4, x5, rfl⟩
theorem len7 {l : List Int} (h : l.length = 7) : ∃ x0 x1 x2 x3 x4 x5 x6, l = [x0, x1, x2, x3, x4, x5, x6] := by
  match l, h with
  | [x0, x1, x2, x3, x4, x5, x6], _ => exact ⟨x0, x1, x2, x3, x4, x5, x6, rfl⟩
theorem len12 {l : List Int} (h : l.length = 12) : ∃ x0 x1 x2 x3 x4 x5 x6 x7 x8 x9 x10 x11, l = [x0, x1, x2, x3, x4, x5, x6, x7, x8, x9, x10, x11] := by
  match l, h with
  | [x0, x1, x2, x3, x4, x5, x6, x7, x8, x9, x10, x11], _ => exact ⟨x0, x1, x2, x3, x4, x5, x6, x7, x8, x9, x10, x11, rfl⟩
theorem lt22 {k : Nat} (h : k < 22) : k = 0 ∨ k = 1 ∨ k = 2 ∨ k = 3 ∨ k = 4 ∨ k = 5 ∨ k = 6 ∨ k = 7 ∨ k = 8 ∨ k = 9 ∨ k = 10 ∨ k = 11 ∨ k = 12 ∨ k = 13 ∨ k = 14 ∨ k = 15 ∨ k = 16 ∨ k = 17 ∨ k = 18 ∨ k = 19 ∨ k = 20 ∨ k = 21 := by omega
theorem putL_len : ∀ (os : List Nat) (cs ns : List Int), (putL cs os ns).length = cs.length
  | [], cs, ns => by simp [putL]
  | o :: os, cs, [] => by simp [putL]
  | o :: os, cs, n :: ns => by simp only [putL]; rw [putL_len os]; simp
/-- what is read of a command's own line -/
theorem read_line (k : Nat) (hk : k < 22) (c : List Int) (hc : ∀ o, -9223372036854775808 ≤ c.getD o 0 ∧ c.getD o 0 ≤ 9223372036854775807) : readC (lineC k c) = some (putL (bareC 0 0 k) (placeL k) ((placeL k).map fun o => c.getD o 0)) := by
  unfold readC lineC
  rw [spl_joinW]
  · have h2 := numsOf_itoa ((placeL k).map fun o => c.getD o 0) (by
      intro n hn
      obtain ⟨o, _, rfl⟩ := List.mem_map.1 hn
      exact hc o)
    rw [List.map_map] at h2
    simp only [kindOf_at k hk]
    rw [show ((placeL k).map fun o => itoa (c.getD o 0)) = (placeL k).map (itoa ∘ fun o => c.getD o 0) from rfl, h2]
    simp
  · simp
  · intro w hw
    rcases List.mem_cons.1 hw with rfl | hw
    · rw [List.getD, List.getElem?_eq_getElem (by rw [kindW_len]; exact hk)]
      exact kindW_no _ (List.getElem_mem _)
    · obtain ⟨o, _, rfl⟩ := List.mem_map.1 hw
      exact itoa_no _
/-- a command without what its kind does not name -/
def bare (k : Nat) (c : List Int) : Bool := putL c (offL k) ((offL k).map fun _ => 0) == bareC (c.getD 0 0) (c.getD 1 0) k
set_option maxHeartbeats 4000000 in
theorem bare_iff (k : Nat) (hk : k < 22) (c : List Int) (h : c.length = 17) (h2 : c.getD 2 0 = k + 1) : bare k c = true ↔ putL (bareC 0 0 k) (placeL k) ((placeL k).map fun o => c.getD o 0) = c := by
  obtain ⟨a0, a1, a2, a3, a4, a5, a6, a7, a8, a9, a10, a11, a12, a13, a14, a15, a16, rfl⟩ := len17 h
  have h2 : a2 = k + 1 := h2
  subst h2
  unfold bare
  rw [beq_iff_eq]
  rcases lt22 hk with rfl | rfl | rfl | rfl | rfl | rfl | rfl | rfl | rfl | rfl | rfl | rfl | rfl | rfl | rfl | rfl | rfl | rfl | rfl | rfl | rfl | rfl
  · show ([a0, a1, ((0 : Nat) : Int) + 1, 0, a4, a5, a6, a7, a8, a9, 0, a11, a12, a13, a14, a15, a16] = [a0, a1, ((0 : Nat) : Int) + 1, 0, 0, 0, 0, 0, 0, 0, 0, 0, 0, 0, 0, 0, 0]) ↔ ([a0, a1, ((0 : Nat) : Int) + 1, a3, 0, 0, 0, 0, 0, 0, a10, 0, 0, 0, 0, 0, 0] = [a0, a1, ((0 : Nat) : Int) + 1, a3, a4, a5, a6, a7, a8, a9, a10, a11, a12, a13, a14, a15, a16])
    simp only [List.cons.injEq, and_true, true_and]
    try omega
  · show ([a0, a1, ((1 : Nat) : Int) + 1, a3, a4, a5, 0, 0, 0, a9, 0, 0, 0, 0, 0, 0, 0] = [a0, a1, ((1 : Nat) : Int) + 1, 0, 0, 0, 0, 0, 0, 0, 0, 0, 0, 0, 0, 0, 0]) ↔ ([a0, a1, ((1 : Nat) : Int) + 1, 0, 0, 0, a6, a7, a8, 0, a10, a11, a12, a13, a14, a15, a16] = [a0, a1, ((1 : Nat) : Int) + 1, a3, a4, a5, a6, a7, a8, a9, a10, a11, a12, a13, a14, a15, a16])
    simp only [List.cons.injEq, and_true, true_and]
    try omega
  · show ([a0, a1, ((2 : Nat) : Int) + 1, a3, a4, 0, a6, 0, a8, 0, 0, a11, a12, a13, a14, a15, a16] = [a0, a1, ((2 : Nat) : Int) + 1, 0, 0, 0, 0, 0, 0, 0, 0, 0, 0, 0, 0, 0, 0]) ↔ ([a0, a1, ((2 : Nat) : Int) + 1, 0, 0, a5, 0, a7, 0, a9, a10, 0, 0, 0, 0, 0, 0] = [a0, a1, ((2 : Nat) : Int) + 1, a3, a4, a5, a6, a7, a8, a9, a10, a11, a12, a13, a14, a15, a16])
    simp only [List.cons.injEq, and_true, true_and]
    try omega
  · show ([a0, a1, ((3 : Nat) : Int) + 1, 0, a4, a5, a6, 0, a8, a9, 0, a11, a12, a13, a14, a15, a16] = [a0, a1, ((3 : Nat) : Int) + 1, 0, 0, 0, 0, 0, 0, 0, 0, 0, 0, 0, 0, 0, 0]) ↔ ([a0, a1, ((3 : Nat) : Int) + 1, a3, 0, 0, 0, a7, 0, 0, a10, 0, 0, 0, 0, 0, 0] = [a0, a1, ((3 : Nat) : Int) + 1, a3, a4, a5, a6, a7, a8, a9, a10, a11, a12, a13, a14, a15, a16])
    simp only [List.cons.injEq, and_true, true_and]
    try omega
  · show ([a0, a1, ((4 : Nat) : Int) + 1, 0, a4, a5, a6, 0, a8, a9, 0, a11, a12, a13, a14, a15, a16] = [a0, a1, ((4 : Nat) : Int) + 1, 0, 0, 0, 0, 0, 0, 0, 0, 0, 0, 0, 0, 0, 0]) ↔ ([a0, a1, ((4 : Nat) : Int) + 1, a3, 0, 0, 0, a7, 0, 0, a10, 0, 0, 0, 0, 0, 0] = [a0, a1, ((4 : Nat) : Int) + 1, a3, a4, a5, a6, a7, a8, a9, a10, a11, a12, a13, a14, a15, a16])
    simp only [List.cons.injEq, and_true, true_and]
    try omega
  · show ([a0, a1, ((5 : Nat) : Int) + 1, 0, a4, 0, a6, a7, 0, a9, a10, a11, a12, a13, a14, a15, a16] = [a0, a1, ((5 : Nat) : Int) + 1, 0, 0, 0, 0, 0, 0, 0, 0, 0, 0, 0, 0, 0, 0]) ↔ ([a0, a1, ((5 : Nat) : Int) + 1, a3, 0, a5, 0, 0, a8, 0, 0, 0, 0, 0, 0, 0, 0] = [a0, a1, ((5 : Nat) : Int) + 1, a3, a4, a5, a6, a7, a8, a9, a10, a11, a12, a13, a14, a15, a16])
    simp only [List.cons.injEq, and_true, true_and]
    try omega
  · show ([a0, a1, ((6 : Nat) : Int) + 1, 0, a4, 0, a6, a7, 0, a9, a10, a11, a12, a13, a14, a15, a16] = [a0, a1, ((6 : Nat) : Int) + 1, 0, 0, 0, 0, 0, 0, 0, 0, 0, 0, 0, 0, 0, 0]) ↔ ([a0, a1, ((6 : Nat) : Int) + 1, a3, 0, a5, 0, 0, a8, 0, 0, 0, 0, 0, 0, 0, 0] = [a0, a1, ((6 : Nat) : Int) + 1, a3, a4, a5, a6, a7, a8, a9, a10, a11, a12, a13, a14, a15, a16])
    simp only [List.cons.injEq, and_true, true_and]
    try omega
  · show ([a0, a1, ((7 : Nat) : Int) + 1, 0, a4, a5, a6, 0, a8, a9, 0, a11, a12, a13, a14, a15, a16] = [a0, a1, ((7 : Nat) : Int) + 1, 0, 0, 0, 0, 0, 0, 0, 0, 0, 0, 0, 0, 0, 0]) ↔ ([a0, a1, ((7 : Nat) : Int) + 1, a3, 0, 0, 0, a7, 0, 0, a10, 0, 0, 0, 0, 0, 0] = [a0, a1, ((7 : Nat) : Int) + 1, a3, a4, a5, a6, a7, a8, a9, a10, a11, a12, a13, a14, a15, a16])
    simp only [List.cons.injEq, and_true, true_and]
    try omega
  · show ([a0, a1, ((8 : Nat) : Int) + 1, a3, a4, a5, a6, 0, a8, a9, 0, a11, a12, a13, a14, a15, a16] = [a0, a1, ((8 : Nat) : Int) + 1, 0, 0, 0, 0, 0, 0, 0, 0, 0, 0, 0, 0, 0, 0]) ↔ ([a0, a1, ((8 : Nat) : Int) + 1, 0, 0, 0, 0, a7, 0, 0, a10, 0, 0, 0, 0, 0, 0] = [a0, a1, ((8 : Nat) : Int) + 1, a3, a4, a5, a6, a7, a8, a9, a10, a11, a12, a13, a14, a15, a16])
    simp only [List.cons.injEq, and_true, true_and]
    try omega
  · show ([a0, a1, ((9 : Nat) : Int) + 1, 0, 0, a5, 0, a7, 0, 0, a10, a11, a12, a13, a14, a15, a16] = [a0, a1, ((9 : Nat) : Int) + 1, 0, 0, 0, 0, 0, 0, 0, 0, 0, 0, 0, 0, 0, 0]) ↔ ([a0, a1, ((9 : Nat) : Int) + 1, a3, a4, 0, a6, 0, a8, a9, 0, 0, 0, 0, 0, 0, 0] = [a0, a1, ((9 : Nat) : Int) + 1, a3, a4, a5, a6, a7, a8, a9, a10, a11, a12, a13, a14, a15, a16])
    simp only [List.cons.injEq, and_true, true_and]
    try omega
  · show ([a0, a1, ((10 : Nat) : Int) + 1, a3, a4, 0, a6, a7, a8, a9, a10, a11, a12, a13, a14, a15, a16] = [a0, a1, ((10 : Nat) : Int) + 1, 0, 0, 0, 0, 0, 0, 0, 0, 0, 0, 0, 0, 0, 0]) ↔ ([a0, a1, ((10 : Nat) : Int) + 1, 0, 0, a5, 0, 0, 0, 0, 0, 0, 0, 0, 0, 0, 0] = [a0, a1, ((10 : Nat) : Int) + 1, a3, a4, a5, a6, a7, a8, a9, a10, a11, a12, a13, a14, a15, a16])
    simp only [List.cons.injEq, and_true, true_and]
    try omega
  · show ([a0, a1, ((11 : Nat) : Int) + 1, a3, a4, 0, a6, a7, 0, 0, a10, a11, a12, a13, a14, a15, a16] = [a0, a1, ((11 : Nat) : Int) + 1, 0, 0, 0, 0, 0, 0, 0, 0, 0, 0, 0, 0, 0, 0]) ↔ ([a0, a1, ((11 : Nat) : Int) + 1, 0, 0, a5, 0, 0, a8, a9, 0, 0, 0, 0, 0, 0, 0] = [a0, a1, ((11 : Nat) : Int) + 1, a3, a4, a5, a6, a7, a8, a9, a10, a11, a12, a13, a14, a15, a16])
    simp only [List.cons.injEq, and_true, true_and]
    try omega
  · show ([a0, a1, ((12 : Nat) : Int) + 1, a3, a4, a5, 0, a7, a8, 0, a10, a11, a12, a13, a14, a15, a16] = [a0, a1, ((12 : Nat) : Int) + 1, 0, 0, 0, 0, 0, 0, 0, 0, 0, 0, 0, 0, 0, 0]) ↔ ([a0, a1, ((12 : Nat) : Int) + 1, 0, 0, 0, a6, 0, 0, a9, 0, 0, 0, 0, 0, 0, 0] = [a0, a1, ((12 : Nat) : Int) + 1, a3, a4, a5, a6, a7, a8, a9, a10, a11, a12, a13, a14, a15, a16])
    simp only [List.cons.injEq, and_true, true_and]
    try omega
  · show ([a0, a1, ((13 : Nat) : Int) + 1, a3, a4, a5, a6, a7, a8, a9, a10, a11, a12, a13, a14, a15, a16] = [a0, a1, ((13 : Nat) : Int) + 1, 0, 0, 0, 0, 0, 0, 0, 0, 0, 0, 0, 0, 0, 0]) ↔ ([a0, a1, ((13 : Nat) : Int) + 1, 0, 0, 0, 0, 0, 0, 0, 0, 0, 0, 0, 0, 0, 0] = [a0, a1, ((13 : Nat) : Int) + 1, a3, a4, a5, a6, a7, a8, a9, a10, a11, a12, a13, a14, a15, a16])
    simp only [List.cons.injEq, and_true, true_and]
    try omega
  · show ([a0, a1, ((14 : Nat) : Int) + 1, a3, a4, a5, a6, a7, a8, a9, a10, a11, a12, a13, a14, a15, a16] = [a0, a1, ((14 : Nat) : Int) + 1, 0, 0, 0, 0, 0, 0, 0, 0, 0, 0, 0, 0, 0, 0]) ↔ ([a0, a1, ((14 : Nat) : Int) + 1, 0, 0, 0, 0, 0, 0, 0, 0, 0, 0, 0, 0, 0, 0] = [a0, a1, ((14 : Nat) : Int) + 1, a3, a4, a5, a6, a7, a8, a9, a10, a11, a12, a13, a14, a15, a16])
    simp only [List.cons.injEq, and_true, true_and]
    try omega
  · show ([a0, a1, ((15 : Nat) : Int) + 1, a3, a4, a5, a6, a7, a8, a9, a10, a11, a12, a13, a14, a15, a16] = [a0, a1, ((15 : Nat) : Int) + 1, 0, 0, 0, 0, 0, 0, 0, 0, 0, 0, 0, 0, 0, 0]) ↔ ([a0, a1, ((15 : Nat) : Int) + 1, 0, 0, 0, 0, 0, 0, 0, 0, 0, 0, 0, 0, 0, 0] = [a0, a1, ((15 : Nat) : Int) + 1, a3, a4, a5, a6, a7, a8, a9, a10, a11, a12, a13, a14, a15, a16])
    simp only [List.cons.injEq, and_true, true_and]
    try omega
  · show ([a0, a1, ((16 : Nat) : Int) + 1, a3, a4, a5, a6, a7, a8, a9, 0, a11, a12, a13, a14, a15, a16] = [a0, a1, ((16 : Nat) : Int) + 1, 0, 0, 0, 0, 0, 0, 0, 0, 0, 0, 0, 0, 0, 0]) ↔ ([a0, a1, ((16 : Nat) : Int) + 1, 0, 0, 0, 0, 0, 0, 0, a10, 0, 0, 0, 0, 0, 0] = [a0, a1, ((16 : Nat) : Int) + 1, a3, a4, a5, a6, a7, a8, a9, a10, a11, a12, a13, a14, a15, a16])
    simp only [List.cons.injEq, and_true, true_and]
    try omega
  · show ([a0, a1, ((17 : Nat) : Int) + 1, 0, 0, a5, 0, a7, 0, 0, a10, a11, a12, a13, a14, a15, a16] = [a0, a1, ((17 : Nat) : Int) + 1, 0, 0, 0, 0, 0, 0, 0, 0, 0, 0, 0, 0, 0, 0]) ↔ ([a0, a1, ((17 : Nat) : Int) + 1, a3, a4, 0, a6, 0, a8, a9, 0, 0, 0, 0, 0, 0, 0] = [a0, a1, ((17 : Nat) : Int) + 1, a3, a4, a5, a6, a7, a8, a9, a10, a11, a12, a13, a14, a15, a16])
    simp only [List.cons.injEq, and_true, true_and]
    try omega
  · show ([a0, a1, ((18 : Nat) : Int) + 1, 0, a4, a5, a6, a7, a8, a9, a10, a11, a12, a13, a14, a15, a16] = [a0, a1, ((18 : Nat) : Int) + 1, 0, 0, 0, 0, 0, 0, 0, 0, 0, 0, 0, 0, 0, 0]) ↔ ([a0, a1, ((18 : Nat) : Int) + 1, a3, 0, 0, 0, 0, 0, 0, 0, 0, 0, 0, 0, 0, 0] = [a0, a1, ((18 : Nat) : Int) + 1, a3, a4, a5, a6, a7, a8, a9, a10, a11, a12, a13, a14, a15, a16])
    simp only [List.cons.injEq, and_true, true_and]
    try omega
  · show ([a0, a1, ((19 : Nat) : Int) + 1, a3, a4, a5, a6, a7, a8, a9, a10, a11, a12, a13, a14, a15, a16] = [a0, a1, ((19 : Nat) : Int) + 1, 0, 0, 0, 0, 0, 0, 0, 0, 0, 0, 0, 0, 0, 0]) ↔ ([a0, a1, ((19 : Nat) : Int) + 1, 0, 0, 0, 0, 0, 0, 0, 0, 0, 0, 0, 0, 0, 0] = [a0, a1, ((19 : Nat) : Int) + 1, a3, a4, a5, a6, a7, a8, a9, a10, a11, a12, a13, a14, a15, a16])
    simp only [List.cons.injEq, and_true, true_and]
    try omega
  · show ([a0, a1, ((20 : Nat) : Int) + 1, 0, a4, 0, a6, 0, a8, a9, a10, a11, a12, a13, a14, a15, a16] = [a0, a1, ((20 : Nat) : Int) + 1, 0, 0, 0, 0, 0, 0, 0, 0, 0, 0, 0, 0, 0, 0]) ↔ ([a0, a1, ((20 : Nat) : Int) + 1, a3, 0, a5, 0, a7, 0, 0, 0, 0, 0, 0, 0, 0, 0] = [a0, a1, ((20 : Nat) : Int) + 1, a3, a4, a5, a6, a7, a8, a9, a10, a11, a12, a13, a14, a15, a16])
    simp only [List.cons.injEq, and_true, true_and]
    try omega
  · show ([a0, a1, ((21 : Nat) : Int) + 1, 0, a4, a5, 0, a7, a8, a9, a10, a11, a12, a13, a14, a15, a16] = [a0, a1, ((21 : Nat) : Int) + 1, 0, 0, 0, 0, 0, 0, 0, 0, 0, 0, 0, 0, 0, 0]) ↔ ([a0, a1, ((21 : Nat) : Int) + 1, a3, 0, 0, a6, 0, 0, 0, 0, 0, 0, 0, 0, 0, 0] = [a0, a1, ((21 : Nat) : Int) + 1, a3, a4, a5, a6, a7, a8, a9, a10, a11, a12, a13, a14, a15, a16])
    simp only [List.cons.injEq, and_true, true_and]
    try omega
set_option maxHeartbeats 4000000 in
theorem line_read {l : List UInt8} {d : List Int} (h : readC l = some d) : ∃ k : Nat, k < 22 ∧ d.getD 2 0 = (k : Int) + 1 ∧ d.length = 17 ∧ lineC k d = l ∧ bare k d = true ∧ ∀ o, -9223372036854775808 ≤ d.getD o 0 ∧ d.getD o 0 ≤ 9223372036854775807 := by
  unfold readC at h
  split at h
  · cases h
  rename_i w ws hs
  split at h
  · rename_i k ns hk hn
    split at h
    · rename_i hl
      obtain ⟨hk1, hk2⟩ := kindOf_some hk
      obtain ⟨e1, e2⟩ := numsOf_some hn
      have hd := Option.some.inj h
      have key : (placeL k).map (fun o => d.getD o 0) = ns ∧ d.getD 2 0 = (k : Int) + 1 ∧ bare k d = true ∧ ∀ o, d.getD o 0 ∈ ns ∨ d.getD o 0 = 0 ∨ d.getD o 0 = (k : Int) + 1 := by
        clear h hs hk e1 e2 hn
        subst hd
        have hm : ∀ a : Int, a ∈ ns ↔ a ∈ ns := fun _ => Iff.rfl
        rcases lt22 hk1 with rfl | rfl | rfl | rfl | rfl | rfl | rfl | rfl | rfl | rfl | rfl | rfl | rfl | rfl | rfl | rfl | rfl | rfl | rfl | rfl | rfl | rfl
        all_goals
          first
          | (have hl' : ns.length = 2 := hl; obtain ⟨b0, b1, rfl⟩ := len2 hl')
          | (have hl' : ns.length = 3 := hl; obtain ⟨b0, b1, b2, rfl⟩ := len3 hl')
          | (have hl' : ns.length = 4 := hl; obtain ⟨b0, b1, b2, b3, rfl⟩ := len4 hl')
          | (have hl' : ns.length = 5 := hl; obtain ⟨b0, b1, b2, b3, b4, rfl⟩ := len5 hl')
          | (have hl' : ns.length = 6 := hl; obtain ⟨b0, b1, b2, b3, b4, b5, rfl⟩ := len6 hl')
          | (have hl' : ns.length = 7 := hl; obtain ⟨b0, b1, b2, b3, b4, b5, b6, rfl⟩ := len7 hl')
          | (have hl' : ns.length = 12 := hl; obtain ⟨b0, b1, b2, b3, b4, b5, b6, b7, b8, b9, b10, b11, rfl⟩ := len12 hl')
          refine ⟨rfl, rfl, by simp [bare, placeL, offL, putL, bareC, List.set], ?_⟩
          intro o
          simp only [placeL, offL, putL, bareC, List.set]
          rcases Nat.lt_or_ge o 17 with ho | ho
          · have : o = 0 ∨ o = 1 ∨ o = 2 ∨ o = 3 ∨ o = 4 ∨ o = 5 ∨ o = 6 ∨ o = 7 ∨ o = 8 ∨ o = 9 ∨ o = 10 ∨ o = 11 ∨ o = 12 ∨ o = 13 ∨ o = 14 ∨ o = 15 ∨ o = 16 := by omega
            rcases this with rfl | rfl | rfl | rfl | rfl | rfl | rfl | rfl | rfl | rfl | rfl | rfl | rfl | rfl | rfl | rfl | rfl <;> simp [List.getD]
          · right; left
            rw [List.getD, List.getElem?_eq_none (by simpa using ho)]; rfl
      obtain ⟨k1, k2, k3, k4⟩ := key
      refine ⟨k, hk1, k2, by rw [← hd, putL_len]; rfl, ?_, k3, ?_⟩
      · unfold lineC
        rw [hk2, show ((placeL k).map fun o => itoa (d.getD o 0)) = ((placeL k).map fun o => d.getD o 0).map itoa by rw [List.map_map]; rfl, k1, ← e1, ← hs, spl_join]
        rfl
      · intro o
        rcases k4 o with h | h | h
        · exact e2 _ h
        · rw [h]; decide
        · rw [h]; omega
    · cases h
  · cases h
end Go.Proofs.YtdklpddmplflgaaDoor
