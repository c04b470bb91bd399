/- What the functions that CoverValues reaches give: the first part. Division of two words by one. Wides, what collateral is worth. No theorem of a claim. -/
import Derived.Test.YtbllopdcbkeadaaGreatTypes
import Derived.Shelf.Bits.Mul64
set_option linter.unusedSimpArgs false
set_option linter.unusedVariables false
namespace Go.Proofs.YtbllopdcbkeadaaGreat
open Go.Abs
def within (a b c : Int) : Bool := decide (b ≤ a) && decide (a ≤ c)
theorem within_spec (a b c : Int) : Abs.Spec Tryz.prog 165 [] [.int .i64 a,.int .i64 b,.int .i64 c] [] (.bool (within a b c)) := by
  refine Abs.Spec.go (n := 15) (np := 3) (rs := [.tmp 6]) mixed Tryz.func165 rfl rfl rfl rfl rfl (by simp) (by simp) ?_
  simp only [go_sem, Nat.reduceAdd, Nat.reduceSub, Nat.reduceMul, Nat.reducePow, Nat.reduceEqDiff, Nat.reduceLT, Nat.reduceLeDiff, Nat.reduceBEq, Nat.reduceBNe, Int.reduceToNat, Int.reduceLT, Int.reduceLE, Int.reduceEq, Int.reduceBNe, Int.reduceBEq, Int.reduceAdd, Int.reduceSub, Int.reduceMul, Int.reduceNeg, ↓reduceIte]
  refine GuardK.split (fun h => ?_) (fun h => ?_) <;> simp only [h, go_sem, Nat.reduceAdd, Nat.reduceSub, Nat.reduceMul, Nat.reducePow, Nat.reduceEqDiff, Nat.reduceLT, Nat.reduceLeDiff, Nat.reduceBEq, Nat.reduceBNe, Int.reduceToNat, Int.reduceLT, Int.reduceLE, Int.reduceEq, Int.reduceBNe, Int.reduceBEq, Int.reduceAdd, Int.reduceSub, Int.reduceMul, Int.reduceNeg, ↓reduceIte]
  all_goals simp [within, h]
def ints (xs : List Int) : List (List D) := xs.map fun x => [.int .i64 x]
def inR (x : Int) : Bool := decide (-4611686018427387904 ≤ x) && decide (x ≤ 4611686018427387904)
def right (xs : List Int) : Bool := xs.all inR
theorem ints_len (xs : List Int) : (ints xs).length = xs.length := by simp [ints]
theorem ints_at (xs : List Int) {i : Nat} (h : i < xs.length) : (ints xs).getD i [] = [.int .i64 xs[i]] := by simp [ints, h]
theorem wrap64 {x : Int} (h : -9223372036854775808 ≤ x) (h' : x ≤ 9223372036854775807) : IntKind.wrap .i64 x = x := by
  rw [IntKind.wrap_i64]; omega
theorem right_spec (xs : List Int) (hl : xs.length < 2 ^ 62) : Abs.Spec Tryz.prog 90 [] [.sl 1 (ints xs)] [] (.bool (right xs)) := by
  refine Abs.Spec.go (n := 18) (np := 1) (rs := [.tmp 2]) mixed Tryz.func90 rfl rfl rfl rfl rfl (by simp) (by simp) ?_
  simp only [go_sem, Nat.reduceAdd, Nat.reduceSub, Nat.reduceMul, Nat.reducePow, Nat.reduceEqDiff, Nat.reduceLT, Nat.reduceLeDiff, Nat.reduceBEq, Nat.reduceBNe, Int.reduceToNat, Int.reduceLT, Int.reduceLE, Int.reduceEq, Int.reduceBNe, Int.reduceBEq, Int.reduceAdd, Int.reduceSub, Int.reduceMul, Int.reduceNeg, ↓reduceIte]
  refine ⟨Nat, fun i => [(2, .bool false), (5, .sl 1 (ints xs)), (6, .int .i64 xs.length), (7, .int .i64 i)], fun i => [], fun i => i ≤ xs.length ∧ right (xs.take i) = true, fun i => xs.length - i, 0, ?_, ?_, ?_⟩
  · simp [right]
  · simp only [go_sem, Nat.reduceAdd, Nat.reduceSub, Nat.reduceMul, Nat.reducePow, Nat.reduceEqDiff, Nat.reduceLT, Nat.reduceLeDiff, Nat.reduceBEq, Nat.reduceBNe, Int.reduceToNat, Int.reduceLT, Int.reduceLE, Int.reduceEq, Int.reduceBNe, Int.reduceBEq, Int.reduceAdd, Int.reduceSub, Int.reduceMul, Int.reduceNeg, ↓reduceIte, ints_len] <;> simp
  · rintro i ⟨hi, hr⟩
    simp only [go_sem, Nat.reduceAdd, Nat.reduceSub, Nat.reduceMul, Nat.reducePow, Nat.reduceEqDiff, Nat.reduceLT, Nat.reduceLeDiff, Nat.reduceBEq, Nat.reduceBNe, Int.reduceToNat, Int.reduceLT, Int.reduceLE, Int.reduceEq, Int.reduceBNe, Int.reduceBEq, Int.reduceAdd, Int.reduceSub, Int.reduceMul, Int.reduceNeg, ↓reduceIte]
    refine CondE.split (fun h => ?_) (fun h => ?_)
    · have hi' : i < xs.length := by simpa using h
      simp only [go_sem, Nat.reduceAdd, Nat.reduceSub, Nat.reduceMul, Nat.reducePow, Nat.reduceEqDiff, Nat.reduceLT, Nat.reduceLeDiff, Nat.reduceBEq, Nat.reduceBNe, Int.reduceToNat, Int.reduceLT, Int.reduceLE, Int.reduceEq, Int.reduceBNe, Int.reduceBEq, Int.reduceAdd, Int.reduceSub, Int.reduceMul, Int.reduceNeg, ↓reduceIte, Int.toNat_natCast, ints_at xs hi']
      refine ⟨by simp [ints_len, hi'], ?_⟩
      have bad : inR xs[i] = false → false = right xs := fun hx => by
        symm; simp only [right, List.all_eq_false]
        exact ⟨xs[i], List.getElem_mem hi', by simp [hx]⟩
      refine .splitN (fun h => ?_) (fun h => ?_) <;> simp only [h, go_sem, Nat.reduceAdd, Nat.reduceSub, Nat.reduceMul, Nat.reducePow, Nat.reduceEqDiff, Nat.reduceLT, Nat.reduceLeDiff, Nat.reduceBEq, Nat.reduceBNe, Int.reduceToNat, Int.reduceLT, Int.reduceLE, Int.reduceEq, Int.reduceBNe, Int.reduceBEq, Int.reduceAdd, Int.reduceSub, Int.reduceMul, Int.reduceNeg, ↓reduceIte]
      · refine .split (fun h2 => ?_) (fun h2 => ?_) <;> simp only [h2, go_sem, Nat.reduceAdd, Nat.reduceSub, Nat.reduceMul, Nat.reducePow, Nat.reduceEqDiff, Nat.reduceLT, Nat.reduceLeDiff, Nat.reduceBEq, Nat.reduceBNe, Int.reduceToNat, Int.reduceLT, Int.reduceLE, Int.reduceEq, Int.reduceBNe, Int.reduceBEq, Int.reduceAdd, Int.reduceSub, Int.reduceMul, Int.reduceNeg, ↓reduceIte]
        · exact bad (by simp [inR] at h2 ⊢; omega)
        · refine ⟨i + 1, ⟨hi', ?_⟩, ?_, by simp only; omega⟩
          · rw [right, List.take_succ_eq_append_getElem hi', List.all_append]
            rw [right] at hr; rw [hr]
            simp [inR] at h h2 ⊢
            omega
          · simp only [go_sem, Nat.reduceAdd, Nat.reduceSub, Nat.reduceMul, Nat.reducePow, Nat.reduceEqDiff, Nat.reduceLT, Nat.reduceLeDiff, Nat.reduceBEq, Nat.reduceBNe, Int.reduceToNat, Int.reduceLT, Int.reduceLE, Int.reduceEq, Int.reduceBNe, Int.reduceBEq, Int.reduceAdd, Int.reduceSub, Int.reduceMul, Int.reduceNeg, ↓reduceIte, ints_len]
            rw [wrap64 (by omega) (by omega)]; simp
      · exact bad (by simp [inR] at h ⊢; omega)
    · simp only [go_sem, Nat.reduceAdd, Nat.reduceSub, Nat.reduceMul, Nat.reducePow, Nat.reduceEqDiff, Nat.reduceLT, Nat.reduceLeDiff, Nat.reduceBEq, Nat.reduceBNe, Int.reduceToNat, Int.reduceLT, Int.reduceLE, Int.reduceEq, Int.reduceBNe, Int.reduceBEq, Int.reduceAdd, Int.reduceSub, Int.reduceMul, Int.reduceNeg, ↓reduceIte]
      have : i = xs.length := by simp at h; omega
      subst this
      simpa using hr.symm
structure AssetV where
  a : Int
  b : Int
  c : Int
  d : Int
@[reducible] def AssetV.cells (x : AssetV) : List D := [.int .i64 x.a, .int .i64 x.b, .int .i64 x.c, .int .i64 x.d]
def AssetV.ok (x : AssetV) : Bool := within x.a 1 6 && within x.b 0 2 && within x.c 1 1073741824 && within x.d 0 10000
theorem rightAsset_spec (x : AssetV) : Abs.Spec Tryz.prog 103 [] [.agg x.cells] [] (.bool x.ok) := by
  refine Abs.Spec.go (n := 21) (np := 1) (rs := [.tmp 2]) mixed Tryz.func103 rfl rfl rfl rfl rfl (by simp) (by simp) ?_
  simp only [AssetV.cells]
  simp only [go_sem, Nat.reduceAdd, Nat.reduceSub, Nat.reduceMul, Nat.reducePow, Nat.reduceEqDiff, Nat.reduceLT, Nat.reduceLeDiff, Nat.reduceBEq, Nat.reduceBNe, Int.reduceToNat, Int.reduceLT, Int.reduceLE, Int.reduceEq, Int.reduceBNe, Int.reduceBEq, Int.reduceAdd, Int.reduceSub, Int.reduceMul, Int.reduceNeg, ↓reduceIte]
  repeat' (with_reducible first
    | refine And.intro ?_ ?_
    | refine CallN.pure (within_spec _ _ _) ?_
    | refine GuardK.splitN (fun h => ?_) (fun h => ?_)
    | refine GuardK.split (fun h => ?_) (fun h => ?_)
    | simp only [*, go_sem, Nat.reduceAdd, Nat.reduceSub, Nat.reduceMul, Nat.reducePow, Nat.reduceEqDiff, Nat.reduceLT, Nat.reduceLeDiff, Nat.reduceBEq, Nat.reduceBNe, Int.reduceToNat, Int.reduceLT, Int.reduceLE, Int.reduceEq, Int.reduceBNe, Int.reduceBEq, Int.reduceAdd, Int.reduceSub, Int.reduceMul, Int.reduceNeg, ↓reduceIte])
  all_goals simp [AssetV.ok, *]
theorem noAsset_spec (x : AssetV) : Abs.Spec Tryz.prog 102 [] [.agg x.cells] [] (.int .i64 x.a) := by
  refine Abs.Spec.go (n := 5) (np := 1) (rs := [.tmp 2]) mixed Tryz.func102 rfl rfl rfl rfl rfl (by simp) (by simp) ?_
  simp only [AssetV.cells]
  simp only [go_sem, Nat.reduceAdd, Nat.reduceSub, Nat.reduceMul, Nat.reducePow, Nat.reduceEqDiff, Nat.reduceLT, Nat.reduceLeDiff, Nat.reduceBEq, Nat.reduceBNe, Int.reduceToNat, Int.reduceLT, Int.reduceLE, Int.reduceEq, Int.reduceBNe, Int.reduceBEq, Int.reduceAdd, Int.reduceSub, Int.reduceMul, Int.reduceNeg, ↓reduceIte]
def risesAt {A : Type} (no : A → Int) (ok : A → Bool) (xs : List A) (i : Nat) : Bool := match xs[i]? with
  | some x => ok x && (match i with
    | 0 => true
    | j + 1 => match xs[j]? with
      | some y => decide (no y < no x)
      | none => true)
  | none => true
theorem risesAt_zero {A : Type} (no : A → Int) (ok : A → Bool) (xs : List A) {i : Nat} (hi : i < xs.length) (h : ¬ 0 < i) : risesAt no ok xs i = ok xs[i] := by
  have : i = 0 := by omega
  subst this
  simp [risesAt, hi]
theorem risesAt_pos {A : Type} (no : A → Int) (ok : A → Bool) (xs : List A) {i : Nat} (hi : i < xs.length) (h : 0 < i) : risesAt no ok xs i = (ok xs[i] && decide (no xs[i - 1] < no xs[i])) := by
  obtain ⟨j, rfl⟩ : ∃ j, i = j + 1 := ⟨i - 1, by omega⟩
  have : j < xs.length := by omega
  simp [risesAt, hi, this]
def rises {A : Type} (no : A → Int) (ok : A → Bool) (xs : List A) : Bool := (List.range xs.length).all (risesAt no ok xs)
theorem map_at {A : Type} {c : A → List D} (xs : List A) {i : Nat} (h : i < xs.length) : (xs.map c).getD i [] = c xs[i] := by simp [h]
theorem risesAsset_spec (xs : List AssetV) (hl : xs.length < 2 ^ 62) : Abs.Spec Tryz.prog 101 [] [.sl 4 (xs.map AssetV.cells), .fn 102 [], .fn 103 []] [] (.bool (rises AssetV.a AssetV.ok xs)) := by
  refine Abs.Spec.go (n := 38) (np := 3) (rs := [.tmp 6]) mixed Tryz.func101 rfl rfl rfl rfl rfl (by simp) (by simp) ?_
  simp only [go_sem, Nat.reduceAdd, Nat.reduceSub, Nat.reduceMul, Nat.reducePow, Nat.reduceEqDiff, Nat.reduceLT, Nat.reduceLeDiff, Nat.reduceBEq, Nat.reduceBNe, Int.reduceToNat, Int.reduceLT, Int.reduceLE, Int.reduceEq, Int.reduceBNe, Int.reduceBEq, Int.reduceAdd, Int.reduceSub, Int.reduceMul, Int.reduceNeg, ↓reduceIte, List.length_map]
  refine ⟨Nat, fun i => [(6, .bool false), (0, .sl 4 (xs.map AssetV.cells)), (1, .fn 102 []), (2, .fn 103 []), (9, .sl 4 (xs.map AssetV.cells)), (10, .int .i64 xs.length), (11, .int .i64 i)], fun i => [], fun i => i ≤ xs.length ∧ ∀ j, j < i → risesAt AssetV.a AssetV.ok xs j = true, fun i => xs.length - i, 0, ?_, ?_, ?_⟩
  · simp
  · simp only [go_sem, Nat.reduceAdd, Nat.reduceSub, Nat.reduceMul, Nat.reducePow, Nat.reduceEqDiff, Nat.reduceLT, Nat.reduceLeDiff, Nat.reduceBEq, Nat.reduceBNe, Int.reduceToNat, Int.reduceLT, Int.reduceLE, Int.reduceEq, Int.reduceBNe, Int.reduceBEq, Int.reduceAdd, Int.reduceSub, Int.reduceMul, Int.reduceNeg, ↓reduceIte, List.length_map] <;> simp
  · rintro i ⟨hi, hr⟩
    simp only [go_sem, Nat.reduceAdd, Nat.reduceSub, Nat.reduceMul, Nat.reducePow, Nat.reduceEqDiff, Nat.reduceLT, Nat.reduceLeDiff, Nat.reduceBEq, Nat.reduceBNe, Int.reduceToNat, Int.reduceLT, Int.reduceLE, Int.reduceEq, Int.reduceBNe, Int.reduceBEq, Int.reduceAdd, Int.reduceSub, Int.reduceMul, Int.reduceNeg, ↓reduceIte]
    refine CondE.split (fun h => ?_) (fun h => ?_)
    · have hi' : i < xs.length := by simpa using h
      have bad : risesAt AssetV.a AssetV.ok xs i = false → rises AssetV.a AssetV.ok xs = false := fun hx => by
        simp only [rises, List.all_eq_false]
        exact ⟨i, List.mem_range.2 hi', by simp [hx]⟩
      simp only [go_sem, Nat.reduceAdd, Nat.reduceSub, Nat.reduceMul, Nat.reducePow, Nat.reduceEqDiff, Nat.reduceLT, Nat.reduceLeDiff, Nat.reduceBEq, Nat.reduceBNe, Int.reduceToNat, Int.reduceLT, Int.reduceLE, Int.reduceEq, Int.reduceBNe, Int.reduceBEq, Int.reduceAdd, Int.reduceSub, Int.reduceMul, Int.reduceNeg, ↓reduceIte, Int.toNat_natCast, map_at xs hi', AssetV.cells]
      refine ⟨by simp [hi'], ?_⟩
      have next : risesAt AssetV.a AssetV.ok xs i = true → ∀ j, j < i + 1 → risesAt AssetV.a AssetV.ok xs j = true := fun hx j hj => by
        rcases Nat.lt_succ_iff_lt_or_eq.1 hj with h1 | rfl
        · exact hr j h1
        · exact hx
      by_cases h0 : 0 < i
      · have hw : IntKind.wrap .i64 ((i : Int) - 1) = ((i - 1 : Nat) : Int) := by rw [wrap64 (by omega) (by omega)]; omega
        have hp : i - 1 < xs.length := by omega
        have hg : decide (0 < (i : Int)) = true := by simp; omega
        have hm := map_at (c := AssetV.cells) xs hp
        have hra := risesAt_pos AssetV.a AssetV.ok xs hi' h0
        repeat' (with_reducible first
          | refine And.intro ?_ ?_
          | exact DrawN.mk (by kernel_rfl)
          | exact OkN.mk (by kernel_rfl)
          | refine CallN.pure (rightAsset_spec _) ?_
          | refine CallN.pure (noAsset_spec _) ?_
          | refine GuardK.splitN (fun h => ?_) (fun h => ?_)
          | refine GuardK.split (fun h => ?_) (fun h => ?_)
          | refine CondE.split (fun h => ?_) (fun h => ?_)
          | refine WeakK.id ?_
          | simp only [hw, hg, hm, go_sem, Nat.reduceAdd, Nat.reduceSub, Nat.reduceMul, Nat.reducePow, Nat.reduceEqDiff, Nat.reduceLT, Nat.reduceLeDiff, Nat.reduceBEq, Nat.reduceBNe, Int.reduceToNat, Int.reduceLT, Int.reduceLE, Int.reduceEq, Int.reduceBNe, Int.reduceBEq, Int.reduceAdd, Int.reduceSub, Int.reduceMul, Int.reduceNeg, ↓reduceIte, *, Int.toNat_natCast, AssetV.cells])
        · simp; omega
        · exact (bad (by rw [hra]; simp at h; simp; intro _; omega)).symm
        · refine ⟨i + 1, ⟨hi', next (by rw [hra]; simp at h; simp [*])⟩, ?_, by simp only; omega⟩
          simp only [go_sem, Nat.reduceAdd, Nat.reduceSub, Nat.reduceMul, Nat.reducePow, Nat.reduceEqDiff, Nat.reduceLT, Nat.reduceLeDiff, Nat.reduceBEq, Nat.reduceBNe, Int.reduceToNat, Int.reduceLT, Int.reduceLE, Int.reduceEq, Int.reduceBNe, Int.reduceBEq, Int.reduceAdd, Int.reduceSub, Int.reduceMul, Int.reduceNeg, ↓reduceIte, List.length_map]
          rw [wrap64 (by omega) (by omega)]; simp
      · have hg : decide (0 < (i : Int)) = false := by simp; omega
        have hra := risesAt_zero AssetV.a AssetV.ok xs hi' h0
        repeat' (with_reducible first
          | refine And.intro ?_ ?_
          | exact DrawN.mk (by kernel_rfl)
          | exact OkN.mk (by kernel_rfl)
          | refine CallN.pure (rightAsset_spec _) ?_
          | refine CallN.pure (noAsset_spec _) ?_
          | refine GuardK.splitN (fun h => ?_) (fun h => ?_)
          | refine GuardK.split (fun h => ?_) (fun h => ?_)
          | refine CondE.split (fun h => ?_) (fun h => ?_)
          | refine WeakK.id ?_
          | simp only [hg, go_sem, Nat.reduceAdd, Nat.reduceSub, Nat.reduceMul, Nat.reducePow, Nat.reduceEqDiff, Nat.reduceLT, Nat.reduceLeDiff, Nat.reduceBEq, Nat.reduceBNe, Int.reduceToNat, Int.reduceLT, Int.reduceLE, Int.reduceEq, Int.reduceBNe, Int.reduceBEq, Int.reduceAdd, Int.reduceSub, Int.reduceMul, Int.reduceNeg, ↓reduceIte, *, Int.toNat_natCast, AssetV.cells])
        · refine ⟨i + 1, ⟨hi', next (by rw [hra]; simp [*])⟩, ?_, by simp only; omega⟩
          simp only [go_sem, Nat.reduceAdd, Nat.reduceSub, Nat.reduceMul, Nat.reducePow, Nat.reduceEqDiff, Nat.reduceLT, Nat.reduceLeDiff, Nat.reduceBEq, Nat.reduceBNe, Int.reduceToNat, Int.reduceLT, Int.reduceLE, Int.reduceEq, Int.reduceBNe, Int.reduceBEq, Int.reduceAdd, Int.reduceSub, Int.reduceMul, Int.reduceNeg, ↓reduceIte, List.length_map]
          rw [wrap64 (by omega) (by omega)]; simp
    · simp only [go_sem, Nat.reduceAdd, Nat.reduceSub, Nat.reduceMul, Nat.reducePow, Nat.reduceEqDiff, Nat.reduceLT, Nat.reduceLeDiff, Nat.reduceBEq, Nat.reduceBNe, Int.reduceToNat, Int.reduceLT, Int.reduceLE, Int.reduceEq, Int.reduceBNe, Int.reduceBEq, Int.reduceAdd, Int.reduceSub, Int.reduceMul, Int.reduceNeg, ↓reduceIte]
      have : i = xs.length := by simp at h; omega
      subst this
      symm
      simpa [rises] using hr
end Go.Proofs.YtbllopdcbkeadaaGreat
set_option linter.unusedSimpArgs false
set_option linter.unusedVariables false
namespace Go.Proofs.YtbllopdcbkeadaaGreat
open Go.Abs
theorem shrN (a k : Nat) (hk : k ≤ 64) : ishr .u64 (a : Int) (k : Int) = ((a / 2 ^ k : Nat) : Int) := by
  unfold ishr
  have h1 : min (Int.toNat (k : Int)) (IntKind.bits .u64) = k := by simp [IntKind.bits]; omega
  rw [h1, Int.fdiv_eq_ediv_of_nonneg _ (by exact_mod_cast Nat.zero_le _)]
  push_cast
  rfl
theorem shr32N (a : Nat) : ishr .u64 (a : Int) 32 = ((a / 4294967296 : Nat) : Int) := shrN a 32 (by omega)
theorem mask32 (a : Nat) : iand .u64 (a : Int) 4294967295 = ((a % 4294967296 : Nat) : Int) := by
  unfold iand
  rw [BitVec.toNat_and, BitVec.toNat_ofInt, BitVec.toNat_ofInt]
  simp only [IntKind.bits]
  have h : ((4294967295 : Int) % ((2 ^ 64 : Nat) : Int)).toNat = 2 ^ 32 - 1 := by omega
  rw [h, Nat.and_two_pow_sub_one_eq_mod, IntKind.wrap_u64]
  omega
set_option maxRecDepth 20000 in
theorem mul64_spec (x y : Nat) (hx : x < 18446744073709551616) (hy : y < 18446744073709551616) : Abs.Spec Tryz.prog 144 [] [.int .u64 x, .int .u64 y] [] (.tup [.int .u64 ((x * y / 18446744073709551616 : Nat) : Int), .int .u64 ((x * y % 18446744073709551616 : Nat) : Int)]) := by
  obtain ⟨bd, bt, bw, hhi⟩ := Lib.mul64_hi x y hx hy
  have ba := Lib.half_mul_le (a := x / 4294967296) (b := y / 4294967296) (by omega) (by omega)
  have bb := Lib.half_mul_le (a := x / 4294967296) (b := y % 4294967296) (by omega) (by omega)
  have bc := Lib.half_mul_le (a := x % 4294967296) (b := y / 4294967296) (by omega) (by omega)
  have ba' : x / 4294967296 * (y / 4294967296) < 18446744073709551616 := by omega
  have bb' : x / 4294967296 * (y % 4294967296) < 18446744073709551616 := by omega
  have bc' : x % 4294967296 * (y / 4294967296) < 18446744073709551616 := by omega
  have bh1 : x / 4294967296 * (y / 4294967296) + (x / 4294967296 * (y % 4294967296) + x % 4294967296 * (y % 4294967296) / 4294967296) / 4294967296 < 18446744073709551616 := by omega
  have bh : x / 4294967296 * (y / 4294967296) + (x / 4294967296 * (y % 4294967296) + x % 4294967296 * (y % 4294967296) / 4294967296) / 4294967296 + ((x / 4294967296 * (y % 4294967296) + x % 4294967296 * (y % 4294967296) / 4294967296) % 4294967296 + x % 4294967296 * (y / 4294967296)) / 4294967296 < 18446744073709551616 := by omega
  refine Abs.Spec.go (n := 51) (np := 2) (rs := [.tmp 4, .tmp 5]) mixed Tryz.func144 rfl rfl rfl rfl rfl (by simp) (by simp) ?_
  simp only [mask32, shr32N, go_sem, Nat.reduceAdd, Nat.reduceSub, Nat.reduceMul, Nat.reducePow, Nat.reduceEqDiff, Nat.reduceLT, Nat.reduceLeDiff, Nat.reduceBEq, Nat.reduceBNe, Int.reduceToNat, Int.reduceLT, Int.reduceLE, Int.reduceEq, Int.reduceBNe, Int.reduceBEq, Int.reduceAdd, Int.reduceSub, Int.reduceMul, Int.reduceNeg, ↓reduceIte, Mul64.mulN, Mul64.addN, Mul64.wrapN _ bd, Mul64.wrapN _ bb', Mul64.wrapN _ bt, Mul64.wrapN _ bc', Mul64.wrapN _ bw, Mul64.wrapN _ ba', Mul64.wrapN _ bh1, Mul64.wrapN _ bh, Mul64.wrapM (x * y), hhi]
  exact Mul64.wrapN _ (hhi ▸ bh)
/-! ### division of two words by one -/
structure Dig (un d a b q r : Nat) : Prop where
  sum : q * a + r = un
  small : r < 4294967296
  top : q ≤ 4294967297
  least : (un * 4294967296 + d) / (a * 4294967296 + b) ≤ q
section
variable {un d a b q r : Nat}
theorem qv (q a b : Nat) : q * (a * 4294967296 + b) = q * a * 4294967296 + q * b := by rw [Nat.mul_add, Nat.mul_assoc]
theorem Dig.step (h : Dig un d a b q r) (hu : un < a * 4294967296 + b) (hd : d < 4294967296) (h1 : 4294967296 ≤ q ∨ 4294967296 * r + d < q * b) :
    0 < q ∧ (q - 1) * a + (r + a) = un ∧ q - 1 ≤ 4294967296 ∧ (un * 4294967296 + d) / (a * 4294967296 + b) ≤ q - 1 := by
  have hq : 0 < q := by
    rcases h1 with h1 | h1
    · omega
    · rcases Nat.eq_zero_or_pos q with h0 | h0
      · subst h0; omega
      · exact h0
  obtain ⟨p, rfl⟩ : ∃ p, q = p + 1 := ⟨q - 1, by omega⟩
  have hs := h.sum
  rw [Nat.add_mul, Nat.one_mul] at hs
  have ht := h.top
  refine ⟨hq, by simp only [Nat.add_sub_cancel]; omega, by omega, ?_⟩
  simp only [Nat.add_sub_cancel]
  apply Nat.le_of_lt_succ
  rw [Nat.div_lt_iff_lt_mul (by omega), Nat.succ_eq_add_one, qv]
  have e1 : (p + 1) * a = p * a + a := by rw [Nat.add_mul, Nat.one_mul]
  have e2 : (p + 1) * b = p * b + b := by rw [Nat.add_mul, Nat.one_mul]
  rw [e1]
  rcases h1 with h1 | h1
  · have : 4294967296 * b ≤ (p + 1) * b := Nat.mul_le_mul_right _ h1
    have h2 : 4294967296 * a ≤ (p + 1) * a := Nat.mul_le_mul_right _ h1
    omega
  · have := h.small
    omega
end
/-- the two digits -/
theorem two (N un W v : Nat) (hN : un * 18446744073709551616 + W = N) (hW : W < 18446744073709551616) (hv : 0 < v) (hu : un < v) :
    N / v = (un * 4294967296 + W / 4294967296) / v * 4294967296 + ((un * 4294967296 + W / 4294967296) % v * 4294967296 + W % 4294967296) / v ∧
    N % v = ((un * 4294967296 + W / 4294967296) % v * 4294967296 + W % 4294967296) % v := by
  have e1 := Nat.div_add_mod (un * 4294967296 + W / 4294967296) v
  have hN' : N = ((un * 4294967296 + W / 4294967296) % v * 4294967296 + W % 4294967296) + v * ((un * 4294967296 + W / 4294967296) / v * 4294967296) := by
    rw [← Nat.mul_assoc]; omega
  constructor
  · rw [hN', Nat.add_mul_div_left _ _ hv, Nat.add_comm]
  · rw [hN', Nat.add_mul_mod_self_left]
end Go.Proofs.YtbllopdcbkeadaaGreat
set_option linter.unusedSimpArgs false
set_option linter.unusedVariables false
namespace Go.Proofs.YtbllopdcbkeadaaGreat
open Go.Abs
end Go.Proofs.YtbllopdcbkeadaaGreat
set_option linter.unusedSimpArgs false
set_option linter.unusedVariables false
namespace Go.Proofs.YtbllopdcbkeadaaGreat
open Go.Abs
theorem u64N {a : Int} : ∃ u : Nat, IntKind.wrap .u64 a = (u : Int) ∧ u < 18446744073709551616 ∧ (u : Int) = a % 18446744073709551616 := by
  refine ⟨(a % 18446744073709551616).toNat, ?_, ?_, ?_⟩
  · rw [IntKind.wrap_u64]; omega
  · omega
  · omega
theorem hi1 (x : Nat) (P : Int) (h : (x : Int) = P) (hP : -85070591730234615865843651857942052864 ≤ P ∧ P ≤ 85070591730234615865843651857942052864) : IntKind.wrap .i64 ((x / 18446744073709551616 : Nat) : Int) = P / 18446744073709551616 ∧ ((x % 18446744073709551616 : Nat) : Int) = P % 18446744073709551616 := by
  rw [IntKind.wrap_i64]; omega
theorem hi2 (x : Nat) (P b : Int) (h : (x : Int) = P + 18446744073709551616 * b) (hP : -85070591730234615865843651857942052864 ≤ P ∧ P ≤ 85070591730234615865843651857942052864) : IntKind.wrap .i64 (IntKind.wrap .u64 (((x / 18446744073709551616 : Nat) : Int) - b % 18446744073709551616)) = P / 18446744073709551616 ∧ ((x % 18446744073709551616 : Nat) : Int) = P % 18446744073709551616 := by
  rw [IntKind.wrap_i64, IntKind.wrap_u64]; omega
theorem hi3 (x : Nat) (P a b : Int) (h : (x : Int) = P + 18446744073709551616 * a + 18446744073709551616 * b + 18446744073709551616 * 18446744073709551616) (hP : -85070591730234615865843651857942052864 ≤ P ∧ P ≤ 85070591730234615865843651857942052864) :
    IntKind.wrap .i64 (IntKind.wrap .u64 (IntKind.wrap .u64 (((x / 18446744073709551616 : Nat) : Int) - b % 18446744073709551616) - a % 18446744073709551616)) = P / 18446744073709551616 ∧ ((x % 18446744073709551616 : Nat) : Int) = P % 18446744073709551616 := by
  rw [IntKind.wrap_i64, IntKind.wrap_u64, IntKind.wrap_u64]; omega
theorem prodB (a b : Int) (ha : -9223372036854775808 ≤ a ∧ a ≤ 9223372036854775807) (hb : -9223372036854775808 ≤ b ∧ b ≤ 9223372036854775807) : -85070591730234615865843651857942052864 ≤ a * b ∧ a * b ≤ 85070591730234615865843651857942052864 := by
  have h1 : (a * b).natAbs ≤ 9223372036854775808 * 9223372036854775808 := by
    rw [Int.natAbs_mul]
    exact Nat.mul_le_mul (by omega) (by omega)
  omega
section
variable {a b : Int} {u w : Nat}
theorem prod3 (hu : (u : Int) = a % 18446744073709551616) (hw : (w : Int) = b % 18446744073709551616) (ha : -9223372036854775808 ≤ a ∧ a ≤ 9223372036854775807) (hb : -9223372036854775808 ≤ b ∧ b ≤ 9223372036854775807) (h1 : a < 0) (h2 : b < 0) :
    ((u * w : Nat) : Int) = a * b + 18446744073709551616 * a + 18446744073709551616 * b + 18446744073709551616 * 18446744073709551616 := by
  have e1 : (u : Int) = a + 18446744073709551616 := by omega
  have e2 : (w : Int) = b + 18446744073709551616 := by omega
  rw [Int.natCast_mul, e1, e2, Int.add_mul, Int.mul_add, Int.mul_add, Int.mul_comm a 18446744073709551616, Int.add_assoc, Int.add_assoc, Int.add_assoc]
theorem prod2 (hu : (u : Int) = a % 18446744073709551616) (hw : (w : Int) = b % 18446744073709551616) (ha : -9223372036854775808 ≤ a ∧ a ≤ 9223372036854775807) (hb : -9223372036854775808 ≤ b ∧ b ≤ 9223372036854775807) (h1 : a < 0) (h2 : ¬ b < 0) :
    ((u * w : Nat) : Int) = a * b + 18446744073709551616 * b := by
  have e1 : (u : Int) = a + 18446744073709551616 := by omega
  have e2 : (w : Int) = b := by omega
  rw [Int.natCast_mul, e1, e2, Int.add_mul]
theorem prod2' (hu : (u : Int) = a % 18446744073709551616) (hw : (w : Int) = b % 18446744073709551616) (ha : -9223372036854775808 ≤ a ∧ a ≤ 9223372036854775807) (hb : -9223372036854775808 ≤ b ∧ b ≤ 9223372036854775807) (h1 : ¬ a < 0) (h2 : b < 0) :
    ((u * w : Nat) : Int) = a * b + 18446744073709551616 * a := by
  have e1 : (u : Int) = a := by omega
  have e2 : (w : Int) = b + 18446744073709551616 := by omega
  rw [Int.natCast_mul, e1, e2, Int.mul_add, Int.mul_comm a 18446744073709551616]
theorem prod1 (hu : (u : Int) = a % 18446744073709551616) (hw : (w : Int) = b % 18446744073709551616) (ha : -9223372036854775808 ≤ a ∧ a ≤ 9223372036854775807) (hb : -9223372036854775808 ≤ b ∧ b ≤ 9223372036854775807) (h1 : ¬ a < 0) (h2 : ¬ b < 0) :
    ((u * w : Nat) : Int) = a * b := by
  have e1 : (u : Int) = a := by omega
  have e2 : (w : Int) = b := by omega
  rw [Int.natCast_mul, e1, e2]
end
theorem times_spec (a b : Int) (ha : -9223372036854775808 ≤ a ∧ a ≤ 9223372036854775807) (hb : -9223372036854775808 ≤ b ∧ b ≤ 9223372036854775807) : Abs.Spec Tryz.prog 69 [] [.int .i64 a, .int .i64 b] [] (.agg [.int .i64 (a * b / 18446744073709551616), .int .u64 (a * b % 18446744073709551616)]) := by
  obtain ⟨u, hu, hu2, hu3⟩ := u64N (a := a)
  obtain ⟨w, hw, hw2, hw3⟩ := u64N (a := b)
  refine Abs.Spec.go (n := 31) (np := 2) (rs := [.cell 4 109]) mixed Tryz.func69 rfl rfl rfl rfl rfl (by simp) (by simp) ?_
  simp only [go_sem, Nat.reduceAdd, Nat.reduceSub, Nat.reduceMul, Nat.reducePow, Nat.reduceEqDiff, Nat.reduceLT, Nat.reduceLeDiff, Nat.reduceBEq, Nat.reduceBNe, Int.reduceToNat, Int.reduceLT, Int.reduceLE, Int.reduceEq, Int.reduceBNe, Int.reduceBEq, Int.reduceAdd, Int.reduceSub, Int.reduceMul, Int.reduceNeg, ↓reduceIte, hu, hw]
  repeat' (with_reducible first
    | refine And.intro ?_ ?_
    | exact DrawN.mk (by kernel_rfl)
    | exact OkN.mk (by kernel_rfl)
    | refine CallN.pure (mul64_spec _ _ hu2 hw2) ?_
    | refine CondE.split (fun h => ?_) (fun h => ?_)
    | refine WeakK.id ?_
    | simp only [*, go_sem, Nat.reduceAdd, Nat.reduceSub, Nat.reduceMul, Nat.reducePow, Nat.reduceEqDiff, Nat.reduceLT, Nat.reduceLeDiff, Nat.reduceBEq, Nat.reduceBNe, Int.reduceToNat, Int.reduceLT, Int.reduceLE, Int.reduceEq, Int.reduceBNe, Int.reduceBEq, Int.reduceAdd, Int.reduceSub, Int.reduceMul, Int.reduceNeg, ↓reduceIte])
  all_goals (simp only [decide_eq_true_eq, decide_eq_false_iff_not] at *)
  all_goals (have hP := prodB a b ha hb)
  all_goals (clear hu hw)
  all_goals first
    | exact (hi3 _ _ _ _ (prod3 hu3 hw3 ha hb ‹_› ‹_›) hP).1
    | exact (hi3 _ _ _ _ (prod3 hu3 hw3 ha hb ‹_› ‹_›) hP).2
    | exact (hi2 _ _ _ (prod2 hu3 hw3 ha hb ‹_› ‹_›) hP).1
    | exact (hi2 _ _ _ (prod2 hu3 hw3 ha hb ‹_› ‹_›) hP).2
    | exact (hi2 _ _ _ (prod2' hu3 hw3 ha hb ‹_› ‹_›) hP).1
    | exact (hi2 _ _ _ (prod2' hu3 hw3 ha hb ‹_› ‹_›) hP).2
    | exact (hi1 _ _ (prod1 hu3 hw3 ha hb ‹_› ‹_›) hP).1
    | exact (hi1 _ _ (prod1 hu3 hw3 ha hb ‹_› ‹_›) hP).2
theorem right_one (x : Int) : right [x] = inR x := by simp [right]
def AssetV.P (x : AssetV) (u : Int) : Int := u * (10000 - x.d) * x.c
def AssetV.fit (x : AssetV) (u : Int) : Bool := x.ok && decide (0 ≤ u) && decide (u ≤ 1099511627776)
end Go.Proofs.YtbllopdcbkeadaaGreat
