/- What the functions that CoverValues reaches give: the first part. Division of two words by one. Wides, what collateral is worth. No theorem of a claim. -/
import Derived.Test.YtbllopdcbkeadaaGreatTypes
import Derived.Shelf.Bits.Mul64
set_option linter.unusedSimpArgs false
set_option linter.unusedVariables false
namespace Go.Proofs.YtbllopdcbkeadaaGreat
open Go.Abs
def within (a b c : Int) : Bool := decide (b ≤ a) && decide (a ≤ c)
theorem within_spec (a b c : Int) : Abs.Spec Tryz.prog 165 [] [.int .i64 a,.int .i64 b,.int .i64 c] [] (.bool (within a b c)) := by
  refine Abs.Spec.go (n := 15) (np := 3) (rs := [.tmp 6]) mixed Tryz.func165 rfl rfl rfl rfl rfl (by simp) (by simp) ?_
  simp only [go_sem, Nat.reduceAdd, Nat.reduceSub, Nat.reduceMul, Nat.reducePow, Nat.reduceEqDiff, Nat.reduceLT, Nat.reduceLeDiff, Nat.reduceBEq, Nat.reduceBNe, Int.reduceToNat, Int.reduceLT, Int.reduceLE, Int.reduceEq, Int.reduceBNe, Int.reduceBEq, Int.reduceAdd, Int.reduceSub, Int.reduceMul, Int.reduceNeg, ↓reduceIte]
  refine GuardK.split (fun h => ?_) (fun h => ?_) <;> simp only [h, go_sem, Nat.reduceAdd, Nat.reduceSub, Nat.reduceMul, Nat.reducePow, Nat.reduceEqDiff, Nat.reduceLT, Nat.reduceLeDiff, Nat.reduceBEq, Nat.reduceBNe, Int.reduceToNat, Int.reduceLT, Int.reduceLE, Int.reduceEq, Int.reduceBNe, Int.reduceBEq, Int.reduceAdd, Int.reduceSub, Int.reduceMul, Int.reduceNeg, ↓reduceIte]
  all_goals simp [within, h]
def ints (xs : List Int) : List (List D) := xs.map fun x => [.int .i64 x]
def inR (x : Int) : Bool := decide (-4611686018427387904 ≤ x) && decide (x ≤ 4611686018427387904)
def right (xs : List Int) : Bool := xs.all inR
theorem ints_len (xs : List Int) : (ints xs).length = xs.length := by simp [ints]
theorem ints_at (xs : List Int) {i : Nat} (h : i < xs.length) : (ints xs).getD i [] = [.int .i64 xs[i]] := by simp [ints, h]
theorem wrap64 {x : Int} (h : -9223372036854775808 ≤ x) (h' : x ≤ 9223372036854775807) : IntKind.wrap .i64 x = x := by
  rw [IntKind.wrap_i64]; omega
theorem right_spec (xs : List Int) (hl : xs.length < 2 ^ 62) : Abs.Spec Tryz.prog 90 [] [.sl 1 (ints xs)] [] (.bool (right xs)) := by
  refine Abs.Spec.go (n := 18) (np := 1) (rs := [.tmp 2]) mixed Tryz.func90 rfl rfl rfl rfl rfl (by simp) (by simp) ?_
  simp only [go_sem, Nat.reduceAdd, Nat.reduceSub, Nat.reduceMul, Nat.reducePow, Nat.reduceEqDiff, Nat.reduceLT, Nat.reduceLeDiff, Nat.reduceBEq, Nat.reduceBNe, Int.reduceToNat, Int.reduceLT, Int.reduceLE, Int.reduceEq, Int.reduceBNe, Int.reduceBEq, Int.reduceAdd, Int.reduceSub, Int.reduceMul, Int.reduceNeg, ↓reduceIte]
  refine ⟨Nat, fun i => [(2, .bool false), (5, .sl 1 (ints xs)), (6, .int .i64 xs.length), (7, .int .i64 i)], fun i => [], fun i => i ≤ xs.length ∧ right (xs.take i) = true, fun i => xs.length - i, 0, ?_, ?_, ?_⟩
  · simp [right]
  · simp only [go_sem, Nat.reduceAdd, Nat.reduceSub, Nat.reduceMul, Nat.reducePow, Nat.reduceEqDiff, Nat.reduceLT, Nat.reduceLeDiff, Nat.reduceBEq, Nat.reduceBNe, Int.reduceToNat, Int.reduceLT, Int.reduceLE, Int.reduceEq, Int.reduceBNe, Int.reduceBEq, Int.reduceAdd, Int.reduceSub, Int.reduceMul, Int.reduceNeg, ↓reduceIte, ints_len] <;> simp
  · rintro i ⟨hi, hr⟩
    simp only [go_sem, Nat.reduceAdd, Nat.reduceSub, Nat.reduceMul, Nat.reducePow, Nat.reduceEqDiff, Nat.reduceLT, Nat.reduceLeDiff, Nat.reduceBEq, Nat.reduceBNe, Int.reduceToNat, Int.reduceLT, Int.reduceLE, Int.reduceEq, Int.reduceBNe, Int.reduceBEq, Int.reduceAdd, Int.reduceSub, Int.reduceMul, Int.reduceNeg, ↓reduceIte]
    refine CondE.split (fun h => ?_) (fun h => ?_)
    · have hi' : i < xs.length := by simpa using h
      simp only [go_sem, Nat.reduceAdd, Nat.reduceSub, Nat.reduceMul, Nat.reducePow, Nat.reduceEqDiff, Nat.reduceLT, Nat.reduceLeDiff, Nat.reduceBEq, Nat.reduceBNe, Int.reduceToNat, Int.reduceLT, Int.reduceLE, Int.reduceEq, Int.reduceBNe, Int.reduceBEq, Int.reduceAdd, Int.reduceSub, Int.reduceMul, Int.reduceNeg, ↓reduceIte, Int.toNat_natCast, ints_at xs hi']
      refine ⟨by simp [ints_len, hi'], ?_⟩
      have bad : inR xs[i] = false → false = right xs := fun hx => by
        symm; simp only [right, List.all_eq_false]
        exact ⟨xs[i], List.getElem_mem hi', by simp [hx]⟩
      refine .splitN (fun h => ?_) (fun h => ?_) <;> simp only [h, go_sem, Nat.reduceAdd, Nat.reduceSub, Nat.reduceMul, Nat.reducePow, Nat.reduceEqDiff, Nat.reduceLT, Nat.reduceLeDiff, Nat.reduceBEq, Nat.reduceBNe, Int.reduceToNat, Int.reduceLT, Int.reduceLE, Int.reduceEq, Int.reduceBNe, Int.reduceBEq, Int.reduceAdd, Int.reduceSub, Int.reduceMul, Int.reduceNeg, ↓reduceIte]
      · refine .split (fun h2 => ?_) (fun h2 => ?_) <;> simp only [h2, go_sem, Nat.reduceAdd, Nat.reduceSub, Nat.reduceMul, Nat.reducePow, Nat.reduceEqDiff, Nat.reduceLT, Nat.reduceLeDiff, Nat.reduceBEq, Nat.reduceBNe, Int.reduceToNat, Int.reduceLT, Int.reduceLE, Int.reduceEq, Int.reduceBNe, Int.reduceBEq, Int.reduceAdd, Int.reduceSub, Int.reduceMul, Int.reduceNeg, ↓reduceIte]
        · exact bad (by simp [inR] at h2 ⊢; omega)
        · refine ⟨i + 1, ⟨hi', ?_⟩, ?_, by simp only; omega⟩
          · rw [right, List.take_succ_eq_append_getElem hi', List.all_append]
            rw [right] at hr; rw [hr]
            simp [inR] at h h2 ⊢
            omega
          · simp only [go_sem, Nat.reduceAdd, Nat.reduceSub, Nat.reduceMul, Nat.reducePow, Nat.reduceEqDiff, Nat.reduceLT, Nat.reduceLeDiff, Nat.reduceBEq, Nat.reduceBNe, Int.reduceToNat, Int.reduceLT, Int.reduceLE, Int.reduceEq, Int.reduceBNe, Int.reduceBEq, Int.reduceAdd, Int.reduceSub, Int.reduceMul, Int.reduceNeg, ↓reduceIte, ints_len]
            rw [wrap64 (by omega) (by omega)]; simp
      · exact bad (by simp [inR] at h ⊢; omega)
    · simp only [go_sem, Nat.reduceAdd, Nat.reduceSub, Nat.reduceMul, Nat.reducePow, Nat.reduceEqDiff, Nat.reduceLT, Nat.reduceLeDiff, Nat.reduceBEq, Nat.reduceBNe, Int.reduceToNat, Int.reduceLT, Int.reduceLE, Int.reduceEq, Int.reduceBNe, Int.reduceBEq, Int.reduceAdd, Int.reduceSub, Int.reduceMul, Int.reduceNeg, ↓reduceIte]
      have : i = xs.length := by simp at h; omega
      subst this
      simpa using hr.symm
structure AssetV where
  a : Int
  b : Int
  c : Int
  d : Int
@[reducible] def AssetV.cells (x : AssetV) : List D := [.int .i64 x.a, .int .i64 x.b, .int .i64 x.c, .int .i64 x.d]
def AssetV.ok (x : AssetV) : Bool := within x.a 1 6 && within x.b 0 2 && within x.c 1 1073741824 && within x.d 0 10000
theorem rightAsset_spec (x : AssetV) : Abs.Spec Tryz.prog 103 [] [.agg x.cells] [] (.bool x.ok) := by
  refine Abs.Spec.go (n := 21) (np := 1) (rs := [.tmp 2]) mixed Tryz.func103 rfl rfl rfl rfl rfl (by simp) (by simp) ?_
  simp only [AssetV.cells]
  simp only [go_sem, Nat.reduceAdd, Nat.reduceSub, Nat.reduceMul, Nat.reducePow, Nat.reduceEqDiff, Nat.reduceLT, Nat.reduceLeDiff, Nat.reduceBEq, Nat.reduceBNe, Int.reduceToNat, Int.reduceLT, Int.reduceLE, Int.reduceEq, Int.reduceBNe, Int.reduceBEq, Int.reduceAdd, Int.reduceSub, Int.reduceMul, Int.reduceNeg, ↓reduceIte]
  repeat' (with_reducible first
    | refine And.intro ?_ ?_
    | refine CallN.pure (within_spec _ _ _) ?_
    | refine GuardK.splitN (fun h => ?_) (fun h => ?_)
    | refine GuardK.split (fun h => ?_) (fun h => ?_)
    | simp only [*, go_sem, Nat.reduceAdd, Nat.reduceSub, Nat.reduceMul, Nat.reducePow, Nat.reduceEqDiff, Nat.reduceLT, Nat.reduceLeDiff, Nat.reduceBEq, Nat.reduceBNe, Int.reduceToNat, Int.reduceLT, Int.reduceLE, Int.reduceEq, Int.reduceBNe, Int.reduceBEq, Int.reduceAdd, Int.reduceSub, Int.reduceMul, Int.reduceNeg, ↓reduceIte])
  all_goals simp [AssetV.ok, *]
theorem noAsset_spec (x : AssetV) : Abs.Spec Tryz.prog 102 [] [.agg x.cells] [] (.int .i64 x.a) := by
  refine Abs.Spec.go (n := 5) (np := 1) (rs := [.tmp 2]) mixed Tryz.func102 rfl rfl rfl rfl rfl (by simp) (by simp) ?_
  simp only [AssetV.cells]
  simp only [go_sem, Nat.reduceAdd, Nat.reduceSub, Nat.reduceMul, Nat.reducePow, Nat.reduceEqDiff, Nat.reduceLT, Nat.reduceLeDiff, Nat.reduceBEq, Nat.reduceBNe, Int.reduceToNat, Int.reduceLT, Int.reduceLE, Int.reduceEq, Int.reduceBNe, Int.reduceBEq, Int.reduceAdd, Int.reduceSub, Int.reduceMul, Int.reduceNeg, ↓reduceIte]
def risesAt {A : Type} (no : A → Int) (ok : A → Bool) (xs : List A) (i : Nat) : Bool := match xs[i]? with
  | some x => ok x && (match i with
    | 0 => true
    | j + 1 => match xs[j]? with
      | some y => decide (no y < no x)
      | none => true)
  | none => true
theorem risesAt_zero {A : Type} (no : A → Int) (ok : A → Bool) (xs : List A) {i : Nat} (hi : i < xs.length) (h : ¬ 0 < i) : risesAt no ok xs i = ok xs[i] := by
  have : i = 0 := by omega
  subst this
  simp [risesAt, hi]
theorem risesAt_pos {A : Type} (no : A → Int) (ok : A → Bool) (xs : List A) {i : Nat} (hi : i < xs.length) (h : 0 < i) : risesAt no ok xs i = (ok xs[i] && decide (no xs[i - 1] < no xs[i])) := by
  obtain ⟨j, rfl⟩ : ∃ j, i = j + 1 := ⟨i - 1, by omega⟩
  have : j < xs.length := by omega
  simp [risesAt, hi, this]
def rises {A : Type} (no : A → Int) (ok : A → Bool) (xs : List A) : Bool := (List.range xs.length).all (risesAt no ok xs)
theorem map_at {A : Type} {c : A → List D} (xs : List A) {i : Nat} (h : i < xs.length) : (xs.map c).getD i [] = c xs[i] := by simp [h]
theorem risesAsset_spec (xs : List AssetV) (hl : xs.length < 2 ^ 62) : Abs.Spec Tryz.prog 101 [] [.sl 4 (xs.map AssetV.cells), .fn 102 [], .fn 103 []] [] (.bool (rises AssetV.a AssetV.ok xs)) := by
  refine Abs.Spec.go (n := 38) (np := 3) (rs := [.tmp 6]) mixed Tryz.func101 rfl rfl rfl rfl rfl (by simp) (by simp) ?_
  simp only [go_sem, Nat.reduceAdd, Nat.reduceSub, Nat.reduceMul, Nat.reducePow, Nat.reduceEqDiff, Nat.reduceLT, Nat.reduceLeDiff, Nat.reduceBEq, Nat.reduceBNe, Int.reduceToNat, Int.reduceLT, Int.reduceLE, Int.reduceEq, Int.reduceBNe, Int.reduceBEq, Int.reduceAdd, Int.reduceSub, Int.reduceMul, Int.reduceNeg, ↓reduceIte, List.length_map]
  refine ⟨Nat, fun i => [(6, .bool false), (0, .sl 4 (xs.map AssetV.cells)), (1, .fn 102 []), (2, .fn 103 []), (9, .sl 4 (xs.map AssetV.cells)), (10, .int .i64 xs.length), (11, .int .i64 i)], fun i => [], fun i => i ≤ xs.length ∧ ∀ j, j < i → risesAt AssetV.a AssetV.ok xs j = true, fun i => xs.length - i, 0, ?_, ?_, ?_⟩
  · simp
  · simp only [go_sem, Nat.reduceAdd, Nat.reduceSub, Nat.reduceMul, Nat.reducePow, Nat.reduceEqDiff, Nat.reduceLT, Nat.reduceLeDiff, Nat.reduceBEq, Nat.reduceBNe, Int.reduceToNat, Int.reduceLT, Int.reduceLE, Int.reduceEq, Int.reduceBNe, Int.reduceBEq, Int.reduceAdd, Int.reduceSub, Int.reduceMul, Int.reduceNeg, ↓reduceIte, List.length_map] <;> simp
  · rintro i ⟨hi, hr⟩
    simp only [go_sem, Nat.reduceAdd, Nat.reduceSub, Nat.reduceMul, Nat.reducePow, Nat.reduceEqDiff, Nat.reduceLT, Nat.reduceLeDiff, Nat.reduceBEq, Nat.reduceBNe, Int.reduceToNat, Int.reduceLT, Int.reduceLE, Int.reduceEq, Int.reduceBNe, Int.reduceBEq, Int.reduceAdd, Int.reduceSub, Int.reduceMul, Int.reduceNeg, ↓reduceIte]
    refine CondE.split (fun h => ?_) (fun h => ?_)
    · have hi' : i < xs.length := by simpa using h
      have bad : risesAt AssetV.a AssetV.ok xs i = false → rises AssetV.a AssetV.ok xs = false := fun hx => by
        simp only [rises, List.all_eq_false]
        exact ⟨i, List.mem_range.2 hi', by simp [hx]⟩
      simp only [go_sem, Nat.reduceAdd, Nat.reduceSub, Nat.reduceMul, Nat.reducePow, Nat.reduceEqDiff, Nat.reduceLT, Nat.reduceLeDiff, Nat.reduceBEq, Nat.reduceBNe, Int.reduceToNat, Int.reduceLT, Int.reduceLE, Int.reduceEq, Int.reduceBNe, Int.reduceBEq, Int.reduceAdd, Int.reduceSub, Int.reduceMul, Int.reduceNeg, ↓reduceIte, Int.toNat_natCast, map_at xs hi', AssetV.cells]
      refine ⟨by simp [hi'], ?_⟩
      have next : risesAt AssetV.a AssetV.ok xs i = true → ∀ j, j < i + 1 → risesAt AssetV.a AssetV.ok xs j = true := fun hx j hj => by
        rcases Nat.lt_succ_iff_lt_or_eq.1 hj with h1 | rfl
        · exact hr j h1
        · exact hx
      by_cases h0 : 0 < i
      · have hw : IntKind.wrap .i64 ((i : Int) - 1) = ((i - 1 : Nat) : Int) := by rw [wrap64 (by omega) (by omega)]; omega
        have hp : i - 1 < xs.length := by omega
        have hg : decide (0 < (i : Int)) = true := by simp; omega
        have hm := map_at (c := AssetV.cells) xs hp
        have hra := risesAt_pos AssetV.a AssetV.ok xs hi' h0
        repeat' (with_reducible first
          | refine And.intro ?_ ?_
          | exact DrawN.mk (by kernel_rfl)
          | exact OkN.mk (by kernel_rfl)
          | refine CallN.pure (rightAsset_spec _) ?_
          | refine CallN.pure (noAsset_spec _) ?_
          | refine GuardK.splitN (fun h => ?_) (fun h => ?_)
          | refine GuardK.split (fun h => ?_) (fun h => ?_)
          | refine CondE.split (fun h => ?_) (fun h => ?_)
          | refine WeakK.id ?_
          | simp only [hw, hg, hm, go_sem, Nat.reduceAdd, Nat.reduceSub, Nat.reduceMul, Nat.reducePow, Nat.reduceEqDiff, Nat.reduceLT, Nat.reduceLeDiff, Nat.reduceBEq, Nat.reduceBNe, Int.reduceToNat, Int.reduceLT, Int.reduceLE, Int.reduceEq, Int.reduceBNe, Int.reduceBEq, Int.reduceAdd, Int.reduceSub, Int.reduceMul, Int.reduceNeg, ↓reduceIte, *, Int.toNat_natCast, AssetV.cells])
        · simp; omega
        · exact (bad (by rw [hra]; simp at h; simp; intro _; omega)).symm
        · refine ⟨i + 1, ⟨hi', next (by rw [hra]; simp at h; simp [*])⟩, ?_, by simp only; omega⟩
          simp only [go_sem, Nat.reduceAdd, Nat.reduceSub, Nat.reduceMul, Nat.reducePow, Nat.reduceEqDiff, Nat.reduceLT, Nat.reduceLeDiff, Nat.reduceBEq, Nat.reduceBNe, Int.reduceToNat, Int.reduceLT, Int.reduceLE, Int.reduceEq, Int.reduceBNe, Int.reduceBEq, Int.reduceAdd, Int.reduceSub, Int.reduceMul, Int.reduceNeg, ↓reduceIte, List.length_map]
          rw [wrap64 (by omega) (by omega)]; simp
      · have hg : decide (0 < (i : Int)) = false := by simp; omega
        have hra := risesAt_zero AssetV.a AssetV.ok xs hi' h0
        repeat' (with_reducible first
          | refine And.intro ?_ ?_
          | exact DrawN.mk (by kernel_rfl)
          | exact OkN.mk (by kernel_rfl)
          | refine CallN.pure (rightAsset_spec _) ?_
          | refine CallN.pure (noAsset_spec _) ?_
          | refine GuardK.splitN (fun h => ?_) (fun h => ?_)
          | refine GuardK.split (fun h => ?_) (fun h => ?_)
          | refine CondE.split (fun h => ?_) (fun h => ?_)
          | refine WeakK.id ?_
          | simp only [hg, go_sem, Nat.reduceAdd, Nat.reduceSub, Nat.reduceMul, Nat.reducePow, Nat.reduceEqDiff, Nat.reduceLT, Nat.reduceLeDiff, Nat.reduceBEq, Nat.reduceBNe, Int.reduceToNat, Int.reduceLT, Int.reduceLE, Int.reduceEq, Int.reduceBNe, Int.reduceBEq, Int.reduceAdd, Int.reduceSub, Int.reduceMul, Int.reduceNeg, ↓reduceIte, *, Int.toNat_natCast, AssetV.cells])
        · refine ⟨i + 1, ⟨hi', next (by rw [hra]; simp [*])⟩, ?_, by simp only; omega⟩
          simp only [go_sem, Nat.reduceAdd, Nat.reduceSub, Nat.reduceMul, Nat.reducePow, Nat.reduceEqDiff, Nat.reduceLT, Nat.reduceLeDiff, Nat.reduceBEq, Nat.reduceBNe, Int.reduceToNat, Int.reduceLT, Int.reduceLE, Int.reduceEq, Int.reduceBNe, Int.reduceBEq, Int.reduceAdd, Int.reduceSub, Int.reduceMul, Int.reduceNeg, ↓reduceIte, List.length_map]
          rw [wrap64 (by omega) (by omega)]; simp
    · simp only [go_sem, Nat.reduceAdd, Nat.reduceSub, Nat.reduceMul, Nat.reducePow, Nat.reduceEqDiff, Nat.reduceLT, Nat.reduceLeDiff, Nat.reduceBEq, Nat.reduceBNe, Int.reduceToNat, Int.reduceLT, Int.reduceLE, Int.reduceEq, Int.reduceBNe, Int.reduceBEq, Int.reduceAdd, Int.reduceSub, Int.reduceMul, Int.reduceNeg, ↓reduceIte]
      have : i = xs.length := by simp at h; omega
      subst this
      symm
      simpa [rises] using hr
theorem risesMemberNil : Abs.Spec Tryz.prog 95 [] [.nil, .fn 96 [], .fn 97 []] [] (.bool true) := by
  refine Abs.Spec.go (n := 38) (np := 3) (rs := [.tmp 6]) mixed Tryz.func95 rfl rfl rfl rfl rfl (by simp) (by simp) ?_
  simp only [go_sem, Nat.reduceAdd, Nat.reduceSub, Nat.reduceMul, Nat.reducePow, Nat.reduceEqDiff, Nat.reduceLT, Nat.reduceLeDiff, Nat.reduceBEq, Nat.reduceBNe, Int.reduceToNat, Int.reduceLT, Int.reduceLE, Int.reduceEq, Int.reduceBNe, Int.reduceBEq, Int.reduceAdd, Int.reduceSub, Int.reduceMul, Int.reduceNeg, ↓reduceIte]
  refine ⟨Unit, fun _ => [(6, .bool false), (10, .int .i64 0), (11, .int .i64 0)], fun _ => [], fun _ => True, fun _ => 0, (), trivial, ?_, ?_⟩
  · simp only [go_sem, Nat.reduceAdd, Nat.reduceSub, Nat.reduceMul, Nat.reducePow, Nat.reduceEqDiff, Nat.reduceLT, Nat.reduceLeDiff, Nat.reduceBEq, Nat.reduceBNe, Int.reduceToNat, Int.reduceLT, Int.reduceLE, Int.reduceEq, Int.reduceBNe, Int.reduceBEq, Int.reduceAdd, Int.reduceSub, Int.reduceMul, Int.reduceNeg, ↓reduceIte]
  · intro _ _
    simp only [go_sem, Nat.reduceAdd, Nat.reduceSub, Nat.reduceMul, Nat.reducePow, Nat.reduceEqDiff, Nat.reduceLT, Nat.reduceLeDiff, Nat.reduceBEq, Nat.reduceBNe, Int.reduceToNat, Int.reduceLT, Int.reduceLE, Int.reduceEq, Int.reduceBNe, Int.reduceBEq, Int.reduceAdd, Int.reduceSub, Int.reduceMul, Int.reduceNeg, ↓reduceIte, Int.lt_irrefl, decide_false]
theorem risesInstNil : Abs.Spec Tryz.prog 98 [] [.nil, .fn 99 [], .fn 100 []] [] (.bool true) := by
  refine Abs.Spec.go (n := 38) (np := 3) (rs := [.tmp 6]) mixed Tryz.func98 rfl rfl rfl rfl rfl (by simp) (by simp) ?_
  simp only [go_sem, Nat.reduceAdd, Nat.reduceSub, Nat.reduceMul, Nat.reducePow, Nat.reduceEqDiff, Nat.reduceLT, Nat.reduceLeDiff, Nat.reduceBEq, Nat.reduceBNe, Int.reduceToNat, Int.reduceLT, Int.reduceLE, Int.reduceEq, Int.reduceBNe, Int.reduceBEq, Int.reduceAdd, Int.reduceSub, Int.reduceMul, Int.reduceNeg, ↓reduceIte]
  refine ⟨Unit, fun _ => [(6, .bool false), (10, .int .i64 0), (11, .int .i64 0)], fun _ => [], fun _ => True, fun _ => 0, (), trivial, ?_, ?_⟩
  · simp only [go_sem, Nat.reduceAdd, Nat.reduceSub, Nat.reduceMul, Nat.reducePow, Nat.reduceEqDiff, Nat.reduceLT, Nat.reduceLeDiff, Nat.reduceBEq, Nat.reduceBNe, Int.reduceToNat, Int.reduceLT, Int.reduceLE, Int.reduceEq, Int.reduceBNe, Int.reduceBEq, Int.reduceAdd, Int.reduceSub, Int.reduceMul, Int.reduceNeg, ↓reduceIte]
  · intro _ _
    simp only [go_sem, Nat.reduceAdd, Nat.reduceSub, Nat.reduceMul, Nat.reducePow, Nat.reduceEqDiff, Nat.reduceLT, Nat.reduceLeDiff, Nat.reduceBEq, Nat.reduceBNe, Int.reduceToNat, Int.reduceLT, Int.reduceLE, Int.reduceEq, Int.reduceBNe, Int.reduceBEq, Int.reduceAdd, Int.reduceSub, Int.reduceMul, Int.reduceNeg, ↓reduceIte, Int.lt_irrefl, decide_false]
theorem check_spec (xs : List AssetV) (hl : xs.length < 2 ^ 62) : Abs.Spec Tryz.prog 35 [] [.agg [.nil, .nil, .sl 4 (xs.map AssetV.cells)]] [] (.int .i64 (if rises AssetV.a AssetV.ok xs then 0 else 14)) := by
  refine Abs.Spec.go (n := 19) (np := 1) (rs := [.tmp 2]) mixed Tryz.func35 rfl rfl rfl rfl rfl (by simp) (by simp) ?_
  simp only [go_sem, Nat.reduceAdd, Nat.reduceSub, Nat.reduceMul, Nat.reducePow, Nat.reduceEqDiff, Nat.reduceLT, Nat.reduceLeDiff, Nat.reduceBEq, Nat.reduceBNe, Int.reduceToNat, Int.reduceLT, Int.reduceLE, Int.reduceEq, Int.reduceBNe, Int.reduceBEq, Int.reduceAdd, Int.reduceSub, Int.reduceMul, Int.reduceNeg, ↓reduceIte]
  repeat' (with_reducible first
    | refine And.intro ?_ ?_
    | exact DrawN.mk (by kernel_rfl)
    | exact OkN.mk (by kernel_rfl)
    | refine CallN.pure (risesAsset_spec _ hl) ?_
    | refine CallN.pure risesMemberNil ?_
    | refine CallN.pure risesInstNil ?_
    | refine GuardK.splitN (fun h => ?_) (fun h => ?_)
    | refine GuardK.split (fun h => ?_) (fun h => ?_)
    | refine CondE.splitN (fun h => ?_) (fun h => ?_)
    | refine CondE.split (fun h => ?_) (fun h => ?_)
    | refine WeakK.id ?_
    | simp only [*, go_sem, Nat.reduceAdd, Nat.reduceSub, Nat.reduceMul, Nat.reducePow, Nat.reduceEqDiff, Nat.reduceLT, Nat.reduceLeDiff, Nat.reduceBEq, Nat.reduceBNe, Int.reduceToNat, Int.reduceLT, Int.reduceLE, Int.reduceEq, Int.reduceBNe, Int.reduceBEq, Int.reduceAdd, Int.reduceSub, Int.reduceMul, Int.reduceNeg, ↓reduceIte])
  all_goals (simp at h; simp [h])
end Go.Proofs.YtbllopdcbkeadaaGreat
set_option linter.unusedSimpArgs false
set_option linter.unusedVariables false
namespace Go.Proofs.YtbllopdcbkeadaaGreat
open Go.Abs
theorem shrN (a k : Nat) (hk : k ≤ 64) : ishr .u64 (a : Int) (k : Int) = ((a / 2 ^ k : Nat) : Int) := by
  unfold ishr
  have h1 : min (Int.toNat (k : Int)) (IntKind.bits .u64) = k := by simp [IntKind.bits]; omega
  rw [h1, Int.fdiv_eq_ediv_of_nonneg _ (by exact_mod_cast Nat.zero_le _)]
  push_cast
  rfl
theorem shr32N (a : Nat) : ishr .u64 (a : Int) 32 = ((a / 4294967296 : Nat) : Int) := shrN a 32 (by omega)
theorem shr16N (a : Nat) : ishr .u64 (a : Int) 16 = ((a / 65536 : Nat) : Int) := shrN a 16 (by omega)
theorem shr8N (a : Nat) : ishr .u64 (a : Int) 8 = ((a / 256 : Nat) : Int) := shrN a 8 (by omega)
def len8 : ByteArray := ⟨((List.append (α := UInt8) [0, 1, 2, 2, 3, 3, 3, 3, 4, 4, 4, 4, 4, 4, 4, 4, 5, 5, 5, 5, 5, 5, 5, 5, 5, 5, 5, 5, 5, 5, 5, 5, 6, 6, 6, 6, 6, 6, 6, 6, 6, 6, 6, 6, 6, 6, 6, 6, 6, 6, 6, 6, 6, 6, 6, 6, 6, 6, 6, 6, 6, 6, 6, 6] [7, 7, 7, 7, 7, 7, 7, 7, 7, 7, 7, 7, 7, 7, 7, 7, 7, 7, 7, 7, 7, 7, 7, 7, 7, 7, 7, 7, 7, 7, 7, 7, 7, 7, 7, 7, 7, 7, 7, 7, 7, 7, 7, 7, 7, 7, 7, 7, 7, 7, 7, 7, 7, 7, 7, 7, 7, 7, 7, 7, 7, 7, 7, 7]).append (List.append (α := UInt8) [8, 8, 8, 8, 8, 8, 8, 8, 8, 8, 8, 8, 8, 8, 8, 8, 8, 8, 8, 8, 8, 8, 8, 8, 8, 8, 8, 8, 8, 8, 8, 8, 8, 8, 8, 8, 8, 8, 8, 8, 8, 8, 8, 8, 8, 8, 8, 8, 8, 8, 8, 8, 8, 8, 8, 8, 8, 8, 8, 8, 8, 8, 8, 8] [8, 8, 8, 8, 8, 8, 8, 8, 8, 8, 8, 8, 8, 8, 8, 8, 8, 8, 8, 8, 8, 8, 8, 8, 8, 8, 8, 8, 8, 8, 8, 8, 8, 8, 8, 8, 8, 8, 8, 8, 8, 8, 8, 8, 8, 8, 8, 8, 8, 8, 8, 8, 8, 8, 8, 8, 8, 8, 8, 8, 8, 8, 8, 8])).toArray⟩
theorem tabEq : ByteArray.mk (((List.append (α := UInt8) [0, 1, 2, 2, 3, 3, 3, 3, 4, 4, 4, 4, 4, 4, 4, 4, 5, 5, 5, 5, 5, 5, 5, 5, 5, 5, 5, 5, 5, 5, 5, 5, 6, 6, 6, 6, 6, 6, 6, 6, 6, 6, 6, 6, 6, 6, 6, 6, 6, 6, 6, 6, 6, 6, 6, 6, 6, 6, 6, 6, 6, 6, 6, 6] [7, 7, 7, 7, 7, 7, 7, 7, 7, 7, 7, 7, 7, 7, 7, 7, 7, 7, 7, 7, 7, 7, 7, 7, 7, 7, 7, 7, 7, 7, 7, 7, 7, 7, 7, 7, 7, 7, 7, 7, 7, 7, 7, 7, 7, 7, 7, 7, 7, 7, 7, 7, 7, 7, 7, 7, 7, 7, 7, 7, 7, 7, 7, 7]).append (List.append (α := UInt8) [8, 8, 8, 8, 8, 8, 8, 8, 8, 8, 8, 8, 8, 8, 8, 8, 8, 8, 8, 8, 8, 8, 8, 8, 8, 8, 8, 8, 8, 8, 8, 8, 8, 8, 8, 8, 8, 8, 8, 8, 8, 8, 8, 8, 8, 8, 8, 8, 8, 8, 8, 8, 8, 8, 8, 8, 8, 8, 8, 8, 8, 8, 8, 8] [8, 8, 8, 8, 8, 8, 8, 8, 8, 8, 8, 8, 8, 8, 8, 8, 8, 8, 8, 8, 8, 8, 8, 8, 8, 8, 8, 8, 8, 8, 8, 8, 8, 8, 8, 8, 8, 8, 8, 8, 8, 8, 8, 8, 8, 8, 8, 8, 8, 8, 8, 8, 8, 8, 8, 8, 8, 8, 8, 8, 8, 8, 8, 8])).toArray) = len8 := rfl
def L8 (x : Nat) : Nat := ((len8[x]?).map (·.toNat)).getD 0
def L16 (x : Nat) : Nat := if 256 ≤ x then 8 + L8 (x / 256) else L8 x
def L32 (x : Nat) : Nat := if 65536 ≤ x then 16 + L16 (x / 65536) else L16 x
def L64 (x : Nat) : Nat := if 4294967296 ≤ x then 32 + L32 (x / 4294967296) else L32 x
theorem L8_all : (List.range 256).all (fun x => decide (x < 2 ^ L8 x) && (x == 0 || decide (2 ^ L8 x ≤ 2 * x)) && decide (L8 x ≤ 8)) = true := by kernel_rfl
theorem L8_ok (x : Nat) (h : x < 256) : x < 2 ^ L8 x ∧ (0 < x → 2 ^ L8 x ≤ 2 * x) ∧ L8 x ≤ 8 := by
  have := List.all_eq_true.1 L8_all x (List.mem_range.2 h)
  simp only [Bool.and_eq_true, Bool.or_eq_true, decide_eq_true_eq, beq_iff_eq] at this
  refine ⟨this.1.1, ?_, this.2⟩
  intro h0
  rcases this.1.2 with h1 | h1
  · omega
  · exact h1
theorem L16_ok (x : Nat) (h : x < 65536) : x < 2 ^ L16 x ∧ (0 < x → 2 ^ L16 x ≤ 2 * x) ∧ L16 x ≤ 16 := by
  unfold L16
  split
  · obtain ⟨h1, h2, h3⟩ := L8_ok (x / 256) (by omega)
    have := h2 (by omega)
    rw [Nat.pow_add]
    refine ⟨by omega, by omega, by omega⟩
  · obtain ⟨h1, h2, h3⟩ := L8_ok x (by omega); exact ⟨h1, h2, by omega⟩
theorem L32_ok (x : Nat) (h : x < 4294967296) : x < 2 ^ L32 x ∧ (0 < x → 2 ^ L32 x ≤ 2 * x) ∧ L32 x ≤ 32 := by
  unfold L32
  split
  · obtain ⟨h1, h2, h3⟩ := L16_ok (x / 65536) (by omega)
    have := h2 (by omega)
    rw [Nat.pow_add]
    refine ⟨by omega, by omega, by omega⟩
  · obtain ⟨h1, h2, h3⟩ := L16_ok x (by omega); exact ⟨h1, h2, by omega⟩
theorem L64_ok (x : Nat) (h : x < 18446744073709551616) : x < 2 ^ L64 x ∧ (0 < x → 2 ^ L64 x ≤ 2 * x) ∧ L64 x ≤ 64 := by
  unfold L64
  split
  · obtain ⟨h1, h2, h3⟩ := L32_ok (x / 4294967296) (by omega)
    have := h2 (by omega)
    rw [Nat.pow_add]
    refine ⟨by omega, by omega, by omega⟩
  · obtain ⟨h1, h2, h3⟩ := L32_ok x (by omega); exact ⟨h1, h2, by omega⟩
theorem u8w {x : Int} (h : 0 ≤ x) (h' : x < 256) : IntKind.wrap .u8 x = x := by rw [IntKind.wrap_u8]; omega
theorem w48 : IntKind.wrap .i64 48 = 48 := by decide
theorem w56 : IntKind.wrap .i64 56 = 56 := by decide
theorem w40 : IntKind.wrap .i64 40 = 40 := by decide
theorem w16 : IntKind.wrap .i64 16 = 16 := by decide
theorem w24 : IntKind.wrap .i64 24 = 24 := by decide
theorem w8 : IntKind.wrap .i64 8 = 8 := by decide
theorem l8D {i : Nat} : (((len8[i]?).map fun x => (x.toNat : Int)).getD 0) = (L8 i : Int) := by
  unfold L8; cases len8[i]? <;> simp
theorem L8_le (i : Nat) : L8 i ≤ 255 := by
  unfold L8
  cases len8[i]? with
  | none => simp
  | some b => simpa using Nat.le_of_lt_succ b.toNat_lt
theorem wL {c : Int} (h : 0 ≤ c ∧ c ≤ 100) (i : Nat) : IntKind.wrap .i64 (c + IntKind.wrap .i64 (L8 i : Int)) = c + L8 i := by
  have := L8_le i
  rw [wrap64 (x := (L8 i : Int)) (by omega) (by omega), wrap64 (by omega) (by omega)]
theorem len8_size : len8.size = 256 := by kernel_rfl
set_option maxRecDepth 20000 in
theorem len_spec (x : Nat) (hx : x < 18446744073709551616) : Abs.Spec Tryz.prog 190 [] [.int .u64 x] [] (.int .i64 (L64 x)) := by
  refine Abs.Spec.go (n := 25) (np := 1) (rs := [.tmp 2]) mixed Tryz.func190 rfl rfl rfl rfl rfl (by simp) (by simp) ?_
  simp only [go_sem, Nat.reduceAdd, Nat.reduceSub, Nat.reduceMul, Nat.reducePow, Nat.reduceEqDiff, Nat.reduceLT, Nat.reduceLeDiff, Nat.reduceBEq, Nat.reduceBNe, Int.reduceToNat, Int.reduceLT, Int.reduceLE, Int.reduceEq, Int.reduceBNe, Int.reduceBEq, Int.reduceAdd, Int.reduceSub, Int.reduceMul, Int.reduceNeg, ↓reduceIte]
  repeat' (with_reducible first
    | refine And.intro ?_ ?_
    | refine CondE.split (fun h => ?_) (fun h => ?_)
    | refine WeakK.id ?_
    | simp only [*, go_sem, Nat.reduceAdd, Nat.reduceSub, Nat.reduceMul, Nat.reducePow, Nat.reduceEqDiff, Nat.reduceLT, Nat.reduceLeDiff, Nat.reduceBEq, Nat.reduceBNe, Int.reduceToNat, Int.reduceLT, Int.reduceLE, Int.reduceEq, Int.reduceBNe, Int.reduceBEq, Int.reduceAdd, Int.reduceSub, Int.reduceMul, Int.reduceNeg, ↓reduceIte, shr32N, shr16N, shr8N, w48, w56, w40, w16, w24, w8, tabEq])
  all_goals (simp only [decide_eq_true_eq, decide_eq_false_iff_not] at *)
  all_goals first
    | (rw [len8_size, u8w (by omega) (by omega)]; omega)
    | skip
  all_goals (rw [u8w (by omega) (by omega), Int.toNat_natCast, l8D])
  all_goals (simp only [L64, L32, L16])
  all_goals (repeat (rw [if_pos (by omega)]))
  all_goals (repeat (rw [if_neg (by omega)]))
  all_goals (repeat (rw [if_pos (by omega)]))
  all_goals (repeat (rw [if_neg (by omega)]))
  all_goals (repeat (rw [if_pos (by omega)]))
  all_goals (rw [wL (by omega)])
  all_goals omega
theorem lz_spec (x : Nat) (hx : x < 18446744073709551616) : Abs.Spec Tryz.prog 183 [] [.int .u64 x] [] (.int .i64 ((64 - L64 x : Nat) : Int)) := by
  refine Abs.Spec.go (n := 6) (np := 1) (rs := [.tmp 2]) mixed Tryz.func183 rfl rfl rfl rfl rfl (by simp) (by simp) ?_
  simp only [go_sem, Nat.reduceAdd, Nat.reduceSub, Nat.reduceMul, Nat.reducePow, Nat.reduceEqDiff, Nat.reduceLT, Nat.reduceLeDiff, Nat.reduceBEq, Nat.reduceBNe, Int.reduceToNat, Int.reduceLT, Int.reduceLE, Int.reduceEq, Int.reduceBNe, Int.reduceBEq, Int.reduceAdd, Int.reduceSub, Int.reduceMul, Int.reduceNeg, ↓reduceIte]
  refine CallN.pure (len_spec x hx) ?_
  simp only [go_sem, Nat.reduceAdd, Nat.reduceSub, Nat.reduceMul, Nat.reducePow, Nat.reduceEqDiff, Nat.reduceLT, Nat.reduceLeDiff, Nat.reduceBEq, Nat.reduceBNe, Int.reduceToNat, Int.reduceLT, Int.reduceLE, Int.reduceEq, Int.reduceBNe, Int.reduceBEq, Int.reduceAdd, Int.reduceSub, Int.reduceMul, Int.reduceNeg, ↓reduceIte]
  have := (L64_ok x hx).2.2
  rw [wrap64 (by omega) (by omega)]; omega
theorem mask32 (a : Nat) : iand .u64 (a : Int) 4294967295 = ((a % 4294967296 : Nat) : Int) := by
  unfold iand
  rw [BitVec.toNat_and, BitVec.toNat_ofInt, BitVec.toNat_ofInt]
  simp only [IntKind.bits]
  have h : ((4294967295 : Int) % ((2 ^ 64 : Nat) : Int)).toNat = 2 ^ 32 - 1 := by omega
  rw [h, Nat.and_two_pow_sub_one_eq_mod, IntKind.wrap_u64]
  omega
theorem divNn (a b : Nat) : (a : Int).tdiv (b : Int) = ((a / b : Nat) : Int) := by rw [Int.tdiv_eq_ediv_of_nonneg (by omega)]; rfl
theorem modNn (a b : Nat) : (a : Int).tmod (b : Int) = ((a % b : Nat) : Int) := by rw [Int.tmod_eq_emod_of_nonneg (by omega)]; rfl
set_option maxRecDepth 20000 in
theorem mul64_spec (x y : Nat) (hx : x < 18446744073709551616) (hy : y < 18446744073709551616) : Abs.Spec Tryz.prog 144 [] [.int .u64 x, .int .u64 y] [] (.tup [.int .u64 ((x * y / 18446744073709551616 : Nat) : Int), .int .u64 ((x * y % 18446744073709551616 : Nat) : Int)]) := by
  obtain ⟨bd, bt, bw, hhi⟩ := Lib.mul64_hi x y hx hy
  have ba := Lib.half_mul_le (a := x / 4294967296) (b := y / 4294967296) (by omega) (by omega)
  have bb := Lib.half_mul_le (a := x / 4294967296) (b := y % 4294967296) (by omega) (by omega)
  have bc := Lib.half_mul_le (a := x % 4294967296) (b := y / 4294967296) (by omega) (by omega)
  have ba' : x / 4294967296 * (y / 4294967296) < 18446744073709551616 := by omega
  have bb' : x / 4294967296 * (y % 4294967296) < 18446744073709551616 := by omega
  have bc' : x % 4294967296 * (y / 4294967296) < 18446744073709551616 := by omega
  have bh1 : x / 4294967296 * (y / 4294967296) + (x / 4294967296 * (y % 4294967296) + x % 4294967296 * (y % 4294967296) / 4294967296) / 4294967296 < 18446744073709551616 := by omega
  have bh : x / 4294967296 * (y / 4294967296) + (x / 4294967296 * (y % 4294967296) + x % 4294967296 * (y % 4294967296) / 4294967296) / 4294967296 + ((x / 4294967296 * (y % 4294967296) + x % 4294967296 * (y % 4294967296) / 4294967296) % 4294967296 + x % 4294967296 * (y / 4294967296)) / 4294967296 < 18446744073709551616 := by omega
  refine Abs.Spec.go (n := 51) (np := 2) (rs := [.tmp 4, .tmp 5]) mixed Tryz.func144 rfl rfl rfl rfl rfl (by simp) (by simp) ?_
  simp only [mask32, shr32N, go_sem, Nat.reduceAdd, Nat.reduceSub, Nat.reduceMul, Nat.reducePow, Nat.reduceEqDiff, Nat.reduceLT, Nat.reduceLeDiff, Nat.reduceBEq, Nat.reduceBNe, Int.reduceToNat, Int.reduceLT, Int.reduceLE, Int.reduceEq, Int.reduceBNe, Int.reduceBEq, Int.reduceAdd, Int.reduceSub, Int.reduceMul, Int.reduceNeg, ↓reduceIte, Mul64.mulN, Mul64.addN, Mul64.wrapN _ bd, Mul64.wrapN _ bb', Mul64.wrapN _ bt, Mul64.wrapN _ bc', Mul64.wrapN _ bw, Mul64.wrapN _ ba', Mul64.wrapN _ bh1, Mul64.wrapN _ bh, Mul64.wrapM (x * y), hhi]
  exact Mul64.wrapN _ (hhi ▸ bh)
/-! ### division of two words by one -/
theorem pow_split {s : Nat} (hs : s ≤ 64) : 2 ^ (64 - s) * 2 ^ s = 18446744073709551616 := by
  rw [← Nat.pow_add, show 64 - s + s = 64 by omega]
theorem prep (hi lo y s : Nat) (hs : s ≤ 64) (hh : hi < y) (hl : lo < 18446744073709551616) :
    lo / 2 ^ (64 - s) < 2 ^ s ∧ hi * 2 ^ s + lo / 2 ^ (64 - s) < y * 2 ^ s ∧ (hi * 2 ^ s + lo / 2 ^ (64 - s)) * 18446744073709551616 + lo * 2 ^ s % 18446744073709551616 = (hi * 18446744073709551616 + lo) * 2 ^ s := by
  have hp := pow_split hs
  have h1 : lo / 2 ^ (64 - s) < 2 ^ s := by
    rw [Nat.div_lt_iff_lt_mul (Nat.two_pow_pos _), Nat.mul_comm, hp]; exact hl
  refine ⟨h1, ?_, ?_⟩
  · have h2 : (hi + 1) * 2 ^ s ≤ y * 2 ^ s := Nat.mul_le_mul_right _ hh
    rw [Nat.add_mul, Nat.one_mul] at h2
    omega
  · have h3 : lo * 2 ^ s / 18446744073709551616 = lo / 2 ^ (64 - s) := by
      rw [← hp, Nat.mul_div_mul_right _ _ (Nat.two_pow_pos s)]
    have h4 := Nat.div_add_mod (lo * 2 ^ s) 18446744073709551616
    rw [h3] at h4
    have h5 : hi * 18446744073709551616 * 2 ^ s = hi * 2 ^ s * 18446744073709551616 := by rw [Nat.mul_assoc, Nat.mul_comm 18446744073709551616, ← Nat.mul_assoc]
    rw [Nat.add_mul, Nat.add_mul, h5]
    omega
structure Dig (un d a b q r : Nat) : Prop where
  sum : q * a + r = un
  small : r < 4294967296
  top : q ≤ 4294967297
  least : (un * 4294967296 + d) / (a * 4294967296 + b) ≤ q
section
variable {un d a b q r : Nat}
theorem qv (q a b : Nat) : q * (a * 4294967296 + b) = q * a * 4294967296 + q * b := by rw [Nat.mul_add, Nat.mul_assoc]
theorem Dig.start (ha : 2147483648 ≤ a) (ha' : a < 4294967296) (hb : b < 4294967296) (hd : d < 4294967296) (hu : un < a * 4294967296 + b) : Dig un d a b (un / a) (un % a) := by
  have hm := Nat.div_add_mod un a
  have hl := Nat.mod_lt un (show 0 < a by omega)
  have hq : un / a ≤ 4294967297 := by
    apply Nat.le_of_lt_succ
    rw [Nat.div_lt_iff_lt_mul (by omega)]
    omega
  refine ⟨by rw [Nat.mul_comm]; exact hm, by omega, hq, ?_⟩
  apply Nat.le_of_lt_succ
  rw [Nat.div_lt_iff_lt_mul (by omega), Nat.succ_eq_add_one, qv, Nat.add_mul, Nat.one_mul]
  have : un / a * a = a * (un / a) := Nat.mul_comm _ _
  omega
theorem Dig.stop (h : Dig un d a b q r) (hv : 0 < a) (h1 : q * b ≤ 4294967296 * r + d) : q = (un * 4294967296 + d) / (a * 4294967296 + b) := by
  refine Nat.le_antisymm ?_ h.least
  rw [Nat.le_div_iff_mul_le (by omega), qv]
  have := h.sum
  omega
theorem Dig.step (h : Dig un d a b q r) (hu : un < a * 4294967296 + b) (hd : d < 4294967296) (h1 : 4294967296 ≤ q ∨ 4294967296 * r + d < q * b) :
    0 < q ∧ (q - 1) * a + (r + a) = un ∧ q - 1 ≤ 4294967296 ∧ (un * 4294967296 + d) / (a * 4294967296 + b) ≤ q - 1 := by
  have hq : 0 < q := by
    rcases h1 with h1 | h1
    · omega
    · rcases Nat.eq_zero_or_pos q with h0 | h0
      · subst h0; omega
      · exact h0
  obtain ⟨p, rfl⟩ : ∃ p, q = p + 1 := ⟨q - 1, by omega⟩
  have hs := h.sum
  rw [Nat.add_mul, Nat.one_mul] at hs
  have ht := h.top
  refine ⟨hq, by simp only [Nat.add_sub_cancel]; omega, by omega, ?_⟩
  simp only [Nat.add_sub_cancel]
  apply Nat.le_of_lt_succ
  rw [Nat.div_lt_iff_lt_mul (by omega), Nat.succ_eq_add_one, qv]
  have e1 : (p + 1) * a = p * a + a := by rw [Nat.add_mul, Nat.one_mul]
  have e2 : (p + 1) * b = p * b + b := by rw [Nat.add_mul, Nat.one_mul]
  rw [e1]
  rcases h1 with h1 | h1
  · have : 4294967296 * b ≤ (p + 1) * b := Nat.mul_le_mul_right _ h1
    have h2 : 4294967296 * a ≤ (p + 1) * a := Nat.mul_le_mul_right _ h1
    omega
  · have := h.small
    omega
theorem Dig.brk (hsum : q * a + r = un) (ht : q ≤ 4294967296) (hl : (un * 4294967296 + d) / (a * 4294967296 + b) ≤ q) (hb : b < 4294967296) (hv : 0 < a) (hr : 4294967296 ≤ r) : q = (un * 4294967296 + d) / (a * 4294967296 + b) := by
  refine Nat.le_antisymm ?_ hl
  rw [Nat.le_div_iff_mul_le (by omega), qv]
  have h1 : q * b ≤ 4294967296 * 4294967296 := Nat.mul_le_mul ht (by omega)
  omega
end
/-- the two digits -/
theorem two (N un W v : Nat) (hN : un * 18446744073709551616 + W = N) (hW : W < 18446744073709551616) (hv : 0 < v) (hu : un < v) :
    N / v = (un * 4294967296 + W / 4294967296) / v * 4294967296 + ((un * 4294967296 + W / 4294967296) % v * 4294967296 + W % 4294967296) / v ∧
    N % v = ((un * 4294967296 + W / 4294967296) % v * 4294967296 + W % 4294967296) % v := by
  have e1 := Nat.div_add_mod (un * 4294967296 + W / 4294967296) v
  have hN' : N = ((un * 4294967296 + W / 4294967296) % v * 4294967296 + W % 4294967296) + v * ((un * 4294967296 + W / 4294967296) / v * 4294967296) := by
    rw [← Nat.mul_assoc]; omega
  constructor
  · rw [hN', Nat.add_mul_div_left _ _ hv, Nat.add_comm]
  · rw [hN', Nat.add_mul_mod_self_left]
end Go.Proofs.YtbllopdcbkeadaaGreat
set_option linter.unusedSimpArgs false
set_option linter.unusedVariables false
namespace Go.Proofs.YtbllopdcbkeadaaGreat
open Go.Abs
theorem shlN (a k : Nat) (hk : k ≤ 64) : ishl .u64 (a : Int) (k : Int) = ((a * 2 ^ k % 18446744073709551616 : Nat) : Int) := by
  unfold ishl
  have h1 : min (Int.toNat (k : Int)) (IntKind.bits .u64) = k := by simp [IntKind.bits]; omega
  rw [h1, IntKind.wrap_u64, Int.natCast_emod, Int.natCast_mul, Int.natCast_pow]
  rfl
theorem orN (a b k : Nat) (hb : b < 2 ^ k) (h : a * 2 ^ k + b < 18446744073709551616) : ior .u64 ((a * 2 ^ k : Nat) : Int) (b : Int) = ((a * 2 ^ k + b : Nat) : Int) := by
  unfold ior
  rw [BitVec.toNat_or, BitVec.toNat_ofInt, BitVec.toNat_ofInt]
  simp only [IntKind.bits]
  have h1 : (((a * 2 ^ k : Nat) : Int) % ((2 ^ 64 : Nat) : Int)).toNat = a * 2 ^ k := by omega
  have h2 : ((b : Int) % ((2 ^ 64 : Nat) : Int)).toNat = b := by omega
  rw [h1, h2, Nat.mul_comm a, ← Nat.two_pow_add_eq_or_of_lt hb, Nat.mul_comm, IntKind.wrap_u64]
  omega
theorem wrap3 (a b X m : Int) (h : X + m = a + b) (h0 : 0 ≤ m) (h1 : m < 18446744073709551616) : IntKind.wrap .u64 (IntKind.wrap .u64 (IntKind.wrap .u64 a + b) - IntKind.wrap .u64 X) = m := by
  simp only [IntKind.wrap_u64]
  rw [Int.emod_add_emod, ← Int.sub_emod, ← h, show X + m - X = m by omega]
  exact Int.emod_eq_of_lt h0 h1
theorem divE (un w v q m : Nat) (hq : q = (un * 4294967296 + w) / v) (hm : m = (un * 4294967296 + w) % v) (hv : m < v) (hv2 : v < 18446744073709551616) : IntKind.wrap .u64 (IntKind.wrap .u64 (IntKind.wrap .u64 ((un : Int) * 4294967296) + (w : Int)) - IntKind.wrap .u64 ((q : Int) * (v : Int))) = (m : Int) := by
  have h0 := Nat.div_add_mod (un * 4294967296 + w) v
  rw [← hm, ← hq, Nat.mul_comm v] at h0
  refine wrap3 _ _ _ _ ?_ (Int.natCast_nonneg _) ?_
  · rw [Mul64.mulN]
    generalize q * v = x at h0 ⊢
    omega
  · omega
theorem add2 (q q0 Q : Nat) (h : q * 4294967296 + q0 = Q) (hQ : Q < 18446744073709551616) : IntKind.wrap .u64 (IntKind.wrap .u64 ((q : Int) * 4294967296) + (q0 : Int)) = (Q : Int) := by
  simp only [IntKind.wrap_u64]; omega
set_option maxRecDepth 20000 in
set_option maxHeartbeats 1000000 in
theorem div64_spec (hi lo y : Nat) (hy : y < 18446744073709551616) (hh : hi < y) (hl : lo < 18446744073709551616) : Abs.Spec Tryz.prog 168 [] [.int .u64 hi, .int .u64 lo, .int .u64 y] [] (.tup [.int .u64 ((hi * 18446744073709551616 + lo) / y : Nat), .int .u64 ((hi * 18446744073709551616 + lo) % y : Nat)]) := by
  have h1 : ((y : Int) == 0) = false := by simp; omega
  have h2 : decide ((y : Int) ≤ hi) = false := by simp; omega
  refine Abs.Spec.go (n := 135) (np := 3) (rs := [.tmp 6, .tmp 7]) mixed Tryz.func168 rfl rfl rfl rfl rfl (by simp) (by simp) ?_
  simp only [mask32, shr32N, go_sem, Nat.reduceAdd, Nat.reduceSub, Nat.reduceMul, Nat.reducePow, Nat.reduceEqDiff, Nat.reduceLT, Nat.reduceLeDiff, Nat.reduceBEq, Nat.reduceBNe, Int.reduceToNat, Int.reduceLT, Int.reduceLE, Int.reduceEq, Int.reduceBNe, Int.reduceBEq, Int.reduceAdd, Int.reduceSub, Int.reduceMul, Int.reduceNeg, ↓reduceIte, h1, h2]
  refine CondE.split (fun h => ?_) (fun h => ?_)
  · simp only [mask32, shr32N, go_sem, Nat.reduceAdd, Nat.reduceSub, Nat.reduceMul, Nat.reducePow, Nat.reduceEqDiff, Nat.reduceLT, Nat.reduceLeDiff, Nat.reduceBEq, Nat.reduceBNe, Int.reduceToNat, Int.reduceLT, Int.reduceLE, Int.reduceEq, Int.reduceBNe, Int.reduceBEq, Int.reduceAdd, Int.reduceSub, Int.reduceMul, Int.reduceNeg, ↓reduceIte, h1, h2, h]
    have : hi = 0 := by simpa using h
    subst this
    refine ⟨DrawN.mk (by kernel_rfl), ?_, ?_, ?_, ?_⟩
    · omega
    · omega
    · rw [divNn, Mul64.wrapN]
      · simp
      · exact Nat.lt_of_le_of_lt (Nat.div_le_self _ _) hl
    · rw [modNn]; simp
  · obtain ⟨l1, l2, l3⟩ := L64_ok y hy
    have l2 := l2 (by omega)
    obtain ⟨s, hs⟩ : ∃ s, s = 64 - L64 y := ⟨_, rfl⟩
    have hs64 : s ≤ 64 := by omega
    have hp : 2 ^ L64 y * 2 ^ s = 18446744073709551616 := by rw [← Nat.pow_add, show L64 y + s = 64 by omega]
    have hv1 : y * 2 ^ s < 18446744073709551616 := by rw [← hp]; exact Nat.mul_lt_mul_of_pos_right l1 (Nat.two_pow_pos s)
    have hv2 : 18446744073709551616 ≤ 2 * (y * 2 ^ s) := by rw [← hp, ← Nat.mul_assoc]; exact Nat.mul_le_mul_right _ l2
    obtain ⟨p1, p2, p3⟩ := prep hi lo y s hs64 hh hl
    obtain ⟨v, hv⟩ : ∃ v, v = y * 2 ^ s := ⟨_, rfl⟩
    obtain ⟨un, hun⟩ : ∃ un, un = hi * 2 ^ s + lo / 2 ^ (64 - s) := ⟨_, rfl⟩
    obtain ⟨W, hW⟩ : ∃ W, W = lo * 2 ^ s % 18446744073709551616 := ⟨_, rfl⟩
    have hvl : v < 18446744073709551616 := by rw [hv]; exact hv1
    have hvg : 18446744073709551616 ≤ 2 * v := by rw [hv]; exact hv2
    have huv : un < v := by rw [hun, hv]; exact p2
    have hA : hi * 2 ^ s ≤ un := by rw [hun]; exact Nat.le_add_right _ _
    have hWl : W < 18446744073709551616 := by rw [hW]; exact Nat.mod_lt _ (by decide)
    have e1 : IntKind.wrap .u64 ((64 - L64 y : Nat) : Int) = (s : Int) := by rw [← hs, Mul64.wrapN _ (by omega)]
    have e2 : ishl .u64 (y : Int) (s : Int) = (v : Int) := by rw [shlN _ _ hs64, hv, Nat.mod_eq_of_lt hv1]
    have e3 : IntKind.wrap .u64 (64 - (s : Int)) = ((64 - s : Nat) : Int) := by rw [IntKind.wrap_u64]; omega
    have e4 : ishl .u64 (hi : Int) (s : Int) = ((hi * 2 ^ s : Nat) : Int) := by rw [shlN _ _ hs64, Nat.mod_eq_of_lt (Nat.lt_of_le_of_lt hA (Nat.lt_trans huv hvl))]
    have e5 : ishr .u64 (lo : Int) ((64 - s : Nat) : Int) = ((lo / 2 ^ (64 - s) : Nat) : Int) := shrN _ _ (by omega)
    have e6 : ior .u64 ((hi * 2 ^ s : Nat) : Int) ((lo / 2 ^ (64 - s) : Nat) : Int) = (un : Int) := by rw [orN _ _ _ p1 (Nat.lt_trans p2 hv1), hun]
    have e7 : ishl .u64 (lo : Int) (s : Int) = (W : Int) := by rw [shlN _ _ hs64, hW]
    have hva : v = v / 4294967296 * 4294967296 + v % 4294967296 := by omega
    have e8 : IntKind.wrap .u64 ((un / (v / 4294967296) : Nat) : Int) = ((un / (v / 4294967296) : Nat) : Int) := Mul64.wrapN _ (Nat.lt_of_le_of_lt (Nat.div_le_self _ _) (by omega))
    have d1 : Dig un (W / 4294967296) (v / 4294967296) (v % 4294967296) (un / (v / 4294967296)) (un % (v / 4294967296)) := Dig.start (by omega) (by omega) (by omega) (by omega) (by omega)
    have e9 : IntKind.wrap .u64 ((un : Int) - IntKind.wrap .u64 (((un / (v / 4294967296) : Nat) : Int) * ((v / 4294967296 : Nat) : Int))) = ((un % (v / 4294967296) : Nat) : Int) := by
      have := d1.sum
      rw [Mul64.mulN, Mul64.wrapN _ (by omega), IntKind.wrap_u64]
      omega
    simp only [mask32, shr32N, go_sem, Nat.reduceAdd, Nat.reduceSub, Nat.reduceMul, Nat.reducePow, Nat.reduceEqDiff, Nat.reduceLT, Nat.reduceLeDiff, Nat.reduceBEq, Nat.reduceBNe, Int.reduceToNat, Int.reduceLT, Int.reduceLE, Int.reduceEq, Int.reduceBNe, Int.reduceBEq, Int.reduceAdd, Int.reduceSub, Int.reduceMul, Int.reduceNeg, ↓reduceIte, h1, h2, h]
    refine CallN.pure (lz_spec y hy) ?_
    simp only [mask32, shr32N, go_sem, Nat.reduceAdd, Nat.reduceSub, Nat.reduceMul, Nat.reducePow, Nat.reduceEqDiff, Nat.reduceLT, Nat.reduceLeDiff, Nat.reduceBEq, Nat.reduceBNe, Int.reduceToNat, Int.reduceLT, Int.reduceLE, Int.reduceEq, Int.reduceBNe, Int.reduceBEq, Int.reduceAdd, Int.reduceSub, Int.reduceMul, Int.reduceNeg, ↓reduceIte, h1, h2, h, e1, e2, e3, e4, e5, e6, e7, divNn, e8, e9]
    repeat (refine And.intro (by omega) ?_)
    have fin : ∀ x : Nat, (hi * 18446744073709551616 + lo) * 2 ^ s / v = x → x = (hi * 18446744073709551616 + lo) / y := fun x hx => by
      rw [← hx, hv, Nat.mul_div_mul_right _ _ (Nat.two_pow_pos s)]
    have fin2 : ∀ x : Nat, (hi * 18446744073709551616 + lo) * 2 ^ s % v = x → x / 2 ^ s = (hi * 18446744073709551616 + lo) % y := fun x hx => by
      rw [← hx, hv, Nat.mul_mod_mul_right, Nat.mul_div_cancel _ (Nat.two_pow_pos s)]
    obtain ⟨t1, t2⟩ := two ((hi * 18446744073709551616 + lo) * 2 ^ s) un W v (by rw [hun, hW]; exact p3) hWl (by omega) huv
    have fin := fin _ t1
    have fin2 := fin2 _ t2
    have hsr : ∀ a : Nat, ishr .u64 (a : Int) (s : Int) = ((a / 2 ^ s : Nat) : Int) := fun a => shrN a s hs64
    clear p1 p2 p3 hv1 hv2 hp hW hun hA e1 e2 e3 e4 e5 e6 e7 l1 l2 l3 t1 t2 hv hs
    have vpos : 0 < v / 4294967296 := by omega
    obtain ⟨m, hm⟩ : ∃ m, m = (un * 4294967296 + W / 4294967296) % v := ⟨_, rfl⟩
    have hmv : m < v := by rw [hm]; exact Nat.mod_lt _ (by omega)
    have hmv' : m < v / 4294967296 * 4294967296 + v % 4294967296 := by rw [← hva]; exact hmv
    obtain ⟨q1, hq1⟩ : ∃ q1, q1 = (un * 4294967296 + W / 4294967296) / v := ⟨_, rfl⟩
    rw [← hm, ← hq1] at fin
    rw [← hm] at fin2
    have huv' : un < v / 4294967296 * 4294967296 + v % 4294967296 := by rw [← hva]; exact huv
    have hvr := hva.symm
    refine cut_loop (T := Unit) (fun _ => [(2, .int .u64 v), (6, .int .u64 0), (7, .int .u64 0), (8, .int .u64 s), (9, .int .u64 (v / 4294967296 : Nat)), (10, .int .u64 (v % 4294967296 : Nat)), (11, .int .u64 un), (13, .int .u64 (W / 4294967296 : Nat)), (14, .int .u64 (W % 4294967296 : Nat)), (15, .int .u64 q1)]) (fun _ => []) (fun _ => True) (by rfl) ?_ ?_
    · rintro ⟨⟩ -
      have e10 := divE un (W / 4294967296) v q1 m hq1 hm hmv hvl
      have e11 : IntKind.wrap .u64 ((m / (v / 4294967296) : Nat) : Int) = ((m / (v / 4294967296) : Nat) : Int) := Mul64.wrapN _ (Nat.lt_of_le_of_lt (Nat.div_le_self _ _) (by omega))
      have d2 : Dig m (W % 4294967296) (v / 4294967296) (v % 4294967296) (m / (v / 4294967296)) (m % (v / 4294967296)) := Dig.start (by omega) (by omega) (by omega) (by omega) hmv'
      have e12 : IntKind.wrap .u64 ((m : Int) - IntKind.wrap .u64 (((m / (v / 4294967296) : Nat) : Int) * ((v / 4294967296 : Nat) : Int))) = ((m % (v / 4294967296) : Nat) : Int) := by
        have := d2.sum
        rw [Mul64.mulN, Mul64.wrapN _ (by omega), IntKind.wrap_u64]
        omega
      simp only [mask32, shr32N, go_sem, Nat.reduceAdd, Nat.reduceSub, Nat.reduceMul, Nat.reducePow, Nat.reduceEqDiff, Nat.reduceLT, Nat.reduceLeDiff, Nat.reduceBEq, Nat.reduceBNe, Int.reduceToNat, Int.reduceLT, Int.reduceLE, Int.reduceEq, Int.reduceBNe, Int.reduceBEq, Int.reduceAdd, Int.reduceSub, Int.reduceMul, Int.reduceNeg, ↓reduceIte, divNn, e10, e11, e12]
      repeat (refine And.intro (by omega) ?_)
      refine cut_loop (T := Unit) (fun _ => [(2, .int .u64 v), (8, .int .u64 s), (14, .int .u64 (W % 4294967296 : Nat)), (15, .int .u64 q1), (17, .int .u64 m), (18, .int .u64 ((m * 4294967296 + W % 4294967296) / v : Nat))]) (fun _ => []) (fun _ => True) (by rfl) ?_ ?_
      · rintro ⟨⟩ -
        simp only [mask32, shr32N, go_sem, Nat.reduceAdd, Nat.reduceSub, Nat.reduceMul, Nat.reducePow, Nat.reduceEqDiff, Nat.reduceLT, Nat.reduceLeDiff, Nat.reduceBEq, Nat.reduceBNe, Int.reduceToNat, Int.reduceLT, Int.reduceLE, Int.reduceEq, Int.reduceBNe, Int.reduceBEq, Int.reduceAdd, Int.reduceSub, Int.reduceMul, Int.reduceNeg, ↓reduceIte, divNn]
        have g1 : IntKind.wrap .u64 (IntKind.wrap .u64 ((q1 : Int) * 4294967296) + (((m * 4294967296 + W % 4294967296) / v : Nat) : Int)) = (((hi * 18446744073709551616 + lo) / y : Nat) : Int) := by
          have hQ : (hi * 18446744073709551616 + lo) / y < 18446744073709551616 := by
            rw [Nat.div_lt_iff_lt_mul (by omega)]
            omega
          exact add2 q1 _ _ fin hQ
        have g2 := divE m (W % 4294967296) v ((m * 4294967296 + W % 4294967296) / v) ((m * 4294967296 + W % 4294967296) % v) rfl rfl (Nat.mod_lt _ (by omega)) hvl
        rw [g1, g2, hsr, fin2]
        exact ⟨rfl, rfl⟩
      refine ⟨Nat × Nat, fun x => [(2, .int .u64 v), (6, .int .u64 0), (7, .int .u64 0), (8, .int .u64 s), (9, .int .u64 (v / 4294967296 : Nat)), (10, .int .u64 (v % 4294967296 : Nat)), (14, .int .u64 (W % 4294967296 : Nat)), (15, .int .u64 q1), (17, .int .u64 m), (18, .int .u64 x.1), (16, .int .u64 x.2)], fun _ => [], fun x => Dig m (W % 4294967296) (v / 4294967296) (v % 4294967296) x.1 x.2, fun x => x.1, (m / (v / 4294967296), m % (v / 4294967296)), d2, ?_, ?_⟩
      · simp only [go_sem, Nat.reduceAdd, Nat.reduceSub, Nat.reduceMul, Nat.reducePow, Nat.reduceEqDiff, Nat.reduceLT, Nat.reduceLeDiff, Nat.reduceBEq, Nat.reduceBNe, Int.reduceToNat, Int.reduceLT, Int.reduceLE, Int.reduceEq, Int.reduceBNe, Int.reduceBEq, Int.reduceAdd, Int.reduceSub, Int.reduceMul, Int.reduceNeg, ↓reduceIte]
      · rintro ⟨q, r⟩ dg
        simp only at dg
        have hsm := dg.small
        have htp := dg.top
        have hsum := dg.sum
        have f1 : IntKind.wrap .u64 (4294967296 * (r : Int)) = ((4294967296 * r : Nat) : Int) := by rw [IntKind.wrap_u64]; omega
        have f2 : IntKind.wrap .u64 (((4294967296 * r : Nat) : Int) + ((W % 4294967296 : Nat) : Int)) = ((4294967296 * r + W % 4294967296 : Nat) : Int) := by rw [IntKind.wrap_u64]; omega
        have f4 : IntKind.wrap .u64 ((r : Int) + ((v / 4294967296 : Nat) : Int)) = ((r + v / 4294967296 : Nat) : Int) := by rw [IntKind.wrap_u64]; omega
        have step : (4294967296 ≤ q ∨ 4294967296 * r + W % 4294967296 < q * (v % 4294967296)) → IntKind.wrap .u64 ((q : Int) - 1) = ((q - 1 : Nat) : Int) := fun hx => by
          have := (dg.step hmv' (by omega) hx).1
          rw [IntKind.wrap_u64]; omega
        simp only [mask32, shr32N, go_sem, Nat.reduceAdd, Nat.reduceSub, Nat.reduceMul, Nat.reducePow, Nat.reduceEqDiff, Nat.reduceLT, Nat.reduceLeDiff, Nat.reduceBEq, Nat.reduceBNe, Int.reduceToNat, Int.reduceLT, Int.reduceLE, Int.reduceEq, Int.reduceBNe, Int.reduceBEq, Int.reduceAdd, Int.reduceSub, Int.reduceMul, Int.reduceNeg, ↓reduceIte]
        refine GuardK.splitN (fun hq => ?_) (fun hq => ?_)
        · have hq' : q < 4294967296 := by simp at hq; omega
          have hb : q * (v % 4294967296) < 18446744073709551616 := by
            have := Nat.mul_le_mul (show q ≤ 4294967295 by omega) (show v % 4294967296 ≤ 4294967295 by omega)
            omega
          simp only [mask32, shr32N, go_sem, Nat.reduceAdd, Nat.reduceSub, Nat.reduceMul, Nat.reducePow, Nat.reduceEqDiff, Nat.reduceLT, Nat.reduceLeDiff, Nat.reduceBEq, Nat.reduceBNe, Int.reduceToNat, Int.reduceLT, Int.reduceLE, Int.reduceEq, Int.reduceBNe, Int.reduceBEq, Int.reduceAdd, Int.reduceSub, Int.reduceMul, Int.reduceNeg, ↓reduceIte, hq, f1, f2, Mul64.mulN, Mul64.wrapN _ hb]
          refine CondE.split (fun hc => ?_) (fun hc => ?_)
          · have hx : 4294967296 * r + W % 4294967296 < q * (v % 4294967296) := by rw [decide_eq_true_eq] at hc; exact_mod_cast hc
            obtain ⟨s1, s2, s3, s4⟩ := dg.step hmv' (by omega) (.inr hx)
            simp only [go_sem, Nat.reduceAdd, Nat.reduceSub, Nat.reduceMul, Nat.reducePow, Nat.reduceEqDiff, Nat.reduceLT, Nat.reduceLeDiff, Nat.reduceBEq, Nat.reduceBNe, Int.reduceToNat, Int.reduceLT, Int.reduceLE, Int.reduceEq, Int.reduceBNe, Int.reduceBEq, Int.reduceAdd, Int.reduceSub, Int.reduceMul, Int.reduceNeg, ↓reduceIte, step (.inr hx), f4]
            refine CondE.split (fun hr => ?_) (fun hr => ?_)
            · simp only [go_sem, Nat.reduceAdd, Nat.reduceSub, Nat.reduceMul, Nat.reducePow, Nat.reduceEqDiff, Nat.reduceLT, Nat.reduceLeDiff, Nat.reduceBEq, Nat.reduceBNe, Int.reduceToNat, Int.reduceLT, Int.reduceLE, Int.reduceEq, Int.reduceBNe, Int.reduceBEq, Int.reduceAdd, Int.reduceSub, Int.reduceMul, Int.reduceNeg, ↓reduceIte]
              have hqt := Dig.brk s2 s3 s4 (by omega) vpos (by rw [decide_eq_true_eq] at hr; omega)
              rw [hvr] at hqt
              refine ⟨(), trivial, ?_⟩
              simp only [go_sem, Nat.reduceAdd, Nat.reduceSub, Nat.reduceMul, Nat.reducePow, Nat.reduceEqDiff, Nat.reduceLT, Nat.reduceLeDiff, Nat.reduceBEq, Nat.reduceBNe, Int.reduceToNat, Int.reduceLT, Int.reduceLE, Int.reduceEq, Int.reduceBNe, Int.reduceBEq, Int.reduceAdd, Int.reduceSub, Int.reduceMul, Int.reduceNeg, ↓reduceIte, hqt]
            · simp only [go_sem, Nat.reduceAdd, Nat.reduceSub, Nat.reduceMul, Nat.reducePow, Nat.reduceEqDiff, Nat.reduceLT, Nat.reduceLeDiff, Nat.reduceBEq, Nat.reduceBNe, Int.reduceToNat, Int.reduceLT, Int.reduceLE, Int.reduceEq, Int.reduceBNe, Int.reduceBEq, Int.reduceAdd, Int.reduceSub, Int.reduceMul, Int.reduceNeg, ↓reduceIte]
              refine ⟨(q - 1, r + v / 4294967296), ⟨s2, by rw [decide_eq_false_iff_not] at hr; omega, by omega, s4⟩, ?_, by simp only; omega⟩
              simp only [go_sem, Nat.reduceAdd, Nat.reduceSub, Nat.reduceMul, Nat.reducePow, Nat.reduceEqDiff, Nat.reduceLT, Nat.reduceLeDiff, Nat.reduceBEq, Nat.reduceBNe, Int.reduceToNat, Int.reduceLT, Int.reduceLE, Int.reduceEq, Int.reduceBNe, Int.reduceBEq, Int.reduceAdd, Int.reduceSub, Int.reduceMul, Int.reduceNeg, ↓reduceIte]
          · simp only [go_sem, Nat.reduceAdd, Nat.reduceSub, Nat.reduceMul, Nat.reducePow, Nat.reduceEqDiff, Nat.reduceLT, Nat.reduceLeDiff, Nat.reduceBEq, Nat.reduceBNe, Int.reduceToNat, Int.reduceLT, Int.reduceLE, Int.reduceEq, Int.reduceBNe, Int.reduceBEq, Int.reduceAdd, Int.reduceSub, Int.reduceMul, Int.reduceNeg, ↓reduceIte]
            have hqt := dg.stop vpos (by rw [decide_eq_false_iff_not] at hc; have hc' := Int.not_lt.1 hc; exact_mod_cast hc')
            rw [hvr] at hqt
            refine ⟨(), trivial, ?_⟩
            simp only [go_sem, Nat.reduceAdd, Nat.reduceSub, Nat.reduceMul, Nat.reducePow, Nat.reduceEqDiff, Nat.reduceLT, Nat.reduceLeDiff, Nat.reduceBEq, Nat.reduceBNe, Int.reduceToNat, Int.reduceLT, Int.reduceLE, Int.reduceEq, Int.reduceBNe, Int.reduceBEq, Int.reduceAdd, Int.reduceSub, Int.reduceMul, Int.reduceNeg, ↓reduceIte, hqt]
        · have hx : 4294967296 ≤ q := by simp at hq; omega
          obtain ⟨s1, s2, s3, s4⟩ := dg.step hmv' (by omega) (.inl hx)
          simp only [mask32, shr32N, go_sem, Nat.reduceAdd, Nat.reduceSub, Nat.reduceMul, Nat.reducePow, Nat.reduceEqDiff, Nat.reduceLT, Nat.reduceLeDiff, Nat.reduceBEq, Nat.reduceBNe, Int.reduceToNat, Int.reduceLT, Int.reduceLE, Int.reduceEq, Int.reduceBNe, Int.reduceBEq, Int.reduceAdd, Int.reduceSub, Int.reduceMul, Int.reduceNeg, ↓reduceIte, hq, step (.inl hx), f4]
          refine CondE.split (fun hr => ?_) (fun hr => ?_)
          · simp only [go_sem, Nat.reduceAdd, Nat.reduceSub, Nat.reduceMul, Nat.reducePow, Nat.reduceEqDiff, Nat.reduceLT, Nat.reduceLeDiff, Nat.reduceBEq, Nat.reduceBNe, Int.reduceToNat, Int.reduceLT, Int.reduceLE, Int.reduceEq, Int.reduceBNe, Int.reduceBEq, Int.reduceAdd, Int.reduceSub, Int.reduceMul, Int.reduceNeg, ↓reduceIte]
            have hqt := Dig.brk s2 s3 s4 (by omega) vpos (by rw [decide_eq_true_eq] at hr; omega)
            rw [hvr] at hqt
            refine ⟨(), trivial, ?_⟩
            simp only [go_sem, Nat.reduceAdd, Nat.reduceSub, Nat.reduceMul, Nat.reducePow, Nat.reduceEqDiff, Nat.reduceLT, Nat.reduceLeDiff, Nat.reduceBEq, Nat.reduceBNe, Int.reduceToNat, Int.reduceLT, Int.reduceLE, Int.reduceEq, Int.reduceBNe, Int.reduceBEq, Int.reduceAdd, Int.reduceSub, Int.reduceMul, Int.reduceNeg, ↓reduceIte, hqt]
          · simp only [go_sem, Nat.reduceAdd, Nat.reduceSub, Nat.reduceMul, Nat.reducePow, Nat.reduceEqDiff, Nat.reduceLT, Nat.reduceLeDiff, Nat.reduceBEq, Nat.reduceBNe, Int.reduceToNat, Int.reduceLT, Int.reduceLE, Int.reduceEq, Int.reduceBNe, Int.reduceBEq, Int.reduceAdd, Int.reduceSub, Int.reduceMul, Int.reduceNeg, ↓reduceIte]
            refine ⟨(q - 1, r + v / 4294967296), ⟨s2, by rw [decide_eq_false_iff_not] at hr; omega, by omega, s4⟩, ?_, by simp only; omega⟩
            simp only [go_sem, Nat.reduceAdd, Nat.reduceSub, Nat.reduceMul, Nat.reducePow, Nat.reduceEqDiff, Nat.reduceLT, Nat.reduceLeDiff, Nat.reduceBEq, Nat.reduceBNe, Int.reduceToNat, Int.reduceLT, Int.reduceLE, Int.reduceEq, Int.reduceBNe, Int.reduceBEq, Int.reduceAdd, Int.reduceSub, Int.reduceMul, Int.reduceNeg, ↓reduceIte]

    refine ⟨Nat × Nat, fun x => [(2, .int .u64 v), (6, .int .u64 0), (7, .int .u64 0), (8, .int .u64 s), (9, .int .u64 (v / 4294967296 : Nat)), (10, .int .u64 (v % 4294967296 : Nat)), (11, .int .u64 un), (13, .int .u64 (W / 4294967296 : Nat)), (14, .int .u64 (W % 4294967296 : Nat)), (15, .int .u64 x.1), (16, .int .u64 x.2)], fun _ => [], fun x => Dig un (W / 4294967296) (v / 4294967296) (v % 4294967296) x.1 x.2, fun x => x.1, (un / (v / 4294967296), un % (v / 4294967296)), d1, ?_, ?_⟩
    · simp only [go_sem, Nat.reduceAdd, Nat.reduceSub, Nat.reduceMul, Nat.reducePow, Nat.reduceEqDiff, Nat.reduceLT, Nat.reduceLeDiff, Nat.reduceBEq, Nat.reduceBNe, Int.reduceToNat, Int.reduceLT, Int.reduceLE, Int.reduceEq, Int.reduceBNe, Int.reduceBEq, Int.reduceAdd, Int.reduceSub, Int.reduceMul, Int.reduceNeg, ↓reduceIte]
    · rintro ⟨q, r⟩ dg
      simp only at dg
      have hsm := dg.small
      have htp := dg.top
      have hsum := dg.sum
      have f1 : IntKind.wrap .u64 (4294967296 * (r : Int)) = ((4294967296 * r : Nat) : Int) := by rw [IntKind.wrap_u64]; omega
      have f2 : IntKind.wrap .u64 (((4294967296 * r : Nat) : Int) + ((W / 4294967296 : Nat) : Int)) = ((4294967296 * r + W / 4294967296 : Nat) : Int) := by rw [IntKind.wrap_u64]; omega
      have f4 : IntKind.wrap .u64 ((r : Int) + ((v / 4294967296 : Nat) : Int)) = ((r + v / 4294967296 : Nat) : Int) := by rw [IntKind.wrap_u64]; omega
      have step : (4294967296 ≤ q ∨ 4294967296 * r + W / 4294967296 < q * (v % 4294967296)) → IntKind.wrap .u64 ((q : Int) - 1) = ((q - 1 : Nat) : Int) := fun hx => by
        have := (dg.step huv' (by omega) hx).1
        rw [IntKind.wrap_u64]; omega
      simp only [mask32, shr32N, go_sem, Nat.reduceAdd, Nat.reduceSub, Nat.reduceMul, Nat.reducePow, Nat.reduceEqDiff, Nat.reduceLT, Nat.reduceLeDiff, Nat.reduceBEq, Nat.reduceBNe, Int.reduceToNat, Int.reduceLT, Int.reduceLE, Int.reduceEq, Int.reduceBNe, Int.reduceBEq, Int.reduceAdd, Int.reduceSub, Int.reduceMul, Int.reduceNeg, ↓reduceIte]
      refine GuardK.splitN (fun hq => ?_) (fun hq => ?_)
      · have hq' : q < 4294967296 := by simp at hq; omega
        have hb : q * (v % 4294967296) < 18446744073709551616 := by
          have := Nat.mul_le_mul (show q ≤ 4294967295 by omega) (show v % 4294967296 ≤ 4294967295 by omega)
          omega
        simp only [mask32, shr32N, go_sem, Nat.reduceAdd, Nat.reduceSub, Nat.reduceMul, Nat.reducePow, Nat.reduceEqDiff, Nat.reduceLT, Nat.reduceLeDiff, Nat.reduceBEq, Nat.reduceBNe, Int.reduceToNat, Int.reduceLT, Int.reduceLE, Int.reduceEq, Int.reduceBNe, Int.reduceBEq, Int.reduceAdd, Int.reduceSub, Int.reduceMul, Int.reduceNeg, ↓reduceIte, hq, f1, f2, Mul64.mulN, Mul64.wrapN _ hb]
        refine CondE.split (fun hc => ?_) (fun hc => ?_)
        · have hx : 4294967296 * r + W / 4294967296 < q * (v % 4294967296) := by rw [decide_eq_true_eq] at hc; exact_mod_cast hc
          obtain ⟨s1, s2, s3, s4⟩ := dg.step huv' (by omega) (.inr hx)
          simp only [go_sem, Nat.reduceAdd, Nat.reduceSub, Nat.reduceMul, Nat.reducePow, Nat.reduceEqDiff, Nat.reduceLT, Nat.reduceLeDiff, Nat.reduceBEq, Nat.reduceBNe, Int.reduceToNat, Int.reduceLT, Int.reduceLE, Int.reduceEq, Int.reduceBNe, Int.reduceBEq, Int.reduceAdd, Int.reduceSub, Int.reduceMul, Int.reduceNeg, ↓reduceIte, step (.inr hx), f4]
          refine CondE.split (fun hr => ?_) (fun hr => ?_)
          · simp only [go_sem, Nat.reduceAdd, Nat.reduceSub, Nat.reduceMul, Nat.reducePow, Nat.reduceEqDiff, Nat.reduceLT, Nat.reduceLeDiff, Nat.reduceBEq, Nat.reduceBNe, Int.reduceToNat, Int.reduceLT, Int.reduceLE, Int.reduceEq, Int.reduceBNe, Int.reduceBEq, Int.reduceAdd, Int.reduceSub, Int.reduceMul, Int.reduceNeg, ↓reduceIte]
            have hqt := Dig.brk s2 s3 s4 (by omega) vpos (by rw [decide_eq_true_eq] at hr; omega)
            rw [hvr, ← hq1] at hqt
            refine ⟨(), trivial, ?_⟩
            simp only [go_sem, Nat.reduceAdd, Nat.reduceSub, Nat.reduceMul, Nat.reducePow, Nat.reduceEqDiff, Nat.reduceLT, Nat.reduceLeDiff, Nat.reduceBEq, Nat.reduceBNe, Int.reduceToNat, Int.reduceLT, Int.reduceLE, Int.reduceEq, Int.reduceBNe, Int.reduceBEq, Int.reduceAdd, Int.reduceSub, Int.reduceMul, Int.reduceNeg, ↓reduceIte, hqt]
          · simp only [go_sem, Nat.reduceAdd, Nat.reduceSub, Nat.reduceMul, Nat.reducePow, Nat.reduceEqDiff, Nat.reduceLT, Nat.reduceLeDiff, Nat.reduceBEq, Nat.reduceBNe, Int.reduceToNat, Int.reduceLT, Int.reduceLE, Int.reduceEq, Int.reduceBNe, Int.reduceBEq, Int.reduceAdd, Int.reduceSub, Int.reduceMul, Int.reduceNeg, ↓reduceIte]
            refine ⟨(q - 1, r + v / 4294967296), ⟨s2, by rw [decide_eq_false_iff_not] at hr; omega, by omega, s4⟩, ?_, by simp only; omega⟩
            simp only [go_sem, Nat.reduceAdd, Nat.reduceSub, Nat.reduceMul, Nat.reducePow, Nat.reduceEqDiff, Nat.reduceLT, Nat.reduceLeDiff, Nat.reduceBEq, Nat.reduceBNe, Int.reduceToNat, Int.reduceLT, Int.reduceLE, Int.reduceEq, Int.reduceBNe, Int.reduceBEq, Int.reduceAdd, Int.reduceSub, Int.reduceMul, Int.reduceNeg, ↓reduceIte]
        · simp only [go_sem, Nat.reduceAdd, Nat.reduceSub, Nat.reduceMul, Nat.reducePow, Nat.reduceEqDiff, Nat.reduceLT, Nat.reduceLeDiff, Nat.reduceBEq, Nat.reduceBNe, Int.reduceToNat, Int.reduceLT, Int.reduceLE, Int.reduceEq, Int.reduceBNe, Int.reduceBEq, Int.reduceAdd, Int.reduceSub, Int.reduceMul, Int.reduceNeg, ↓reduceIte]
          have hqt := dg.stop vpos (by rw [decide_eq_false_iff_not] at hc; have hc' := Int.not_lt.1 hc; exact_mod_cast hc')
          rw [hvr, ← hq1] at hqt
          refine ⟨(), trivial, ?_⟩
          simp only [go_sem, Nat.reduceAdd, Nat.reduceSub, Nat.reduceMul, Nat.reducePow, Nat.reduceEqDiff, Nat.reduceLT, Nat.reduceLeDiff, Nat.reduceBEq, Nat.reduceBNe, Int.reduceToNat, Int.reduceLT, Int.reduceLE, Int.reduceEq, Int.reduceBNe, Int.reduceBEq, Int.reduceAdd, Int.reduceSub, Int.reduceMul, Int.reduceNeg, ↓reduceIte, hqt]
      · have hx : 4294967296 ≤ q := by simp at hq; omega
        obtain ⟨s1, s2, s3, s4⟩ := dg.step huv' (by omega) (.inl hx)
        simp only [mask32, shr32N, go_sem, Nat.reduceAdd, Nat.reduceSub, Nat.reduceMul, Nat.reducePow, Nat.reduceEqDiff, Nat.reduceLT, Nat.reduceLeDiff, Nat.reduceBEq, Nat.reduceBNe, Int.reduceToNat, Int.reduceLT, Int.reduceLE, Int.reduceEq, Int.reduceBNe, Int.reduceBEq, Int.reduceAdd, Int.reduceSub, Int.reduceMul, Int.reduceNeg, ↓reduceIte, hq, step (.inl hx), f4]
        refine CondE.split (fun hr => ?_) (fun hr => ?_)
        · simp only [go_sem, Nat.reduceAdd, Nat.reduceSub, Nat.reduceMul, Nat.reducePow, Nat.reduceEqDiff, Nat.reduceLT, Nat.reduceLeDiff, Nat.reduceBEq, Nat.reduceBNe, Int.reduceToNat, Int.reduceLT, Int.reduceLE, Int.reduceEq, Int.reduceBNe, Int.reduceBEq, Int.reduceAdd, Int.reduceSub, Int.reduceMul, Int.reduceNeg, ↓reduceIte]
          have hqt := Dig.brk s2 s3 s4 (by omega) vpos (by rw [decide_eq_true_eq] at hr; omega)
          rw [hvr, ← hq1] at hqt
          refine ⟨(), trivial, ?_⟩
          simp only [go_sem, Nat.reduceAdd, Nat.reduceSub, Nat.reduceMul, Nat.reducePow, Nat.reduceEqDiff, Nat.reduceLT, Nat.reduceLeDiff, Nat.reduceBEq, Nat.reduceBNe, Int.reduceToNat, Int.reduceLT, Int.reduceLE, Int.reduceEq, Int.reduceBNe, Int.reduceBEq, Int.reduceAdd, Int.reduceSub, Int.reduceMul, Int.reduceNeg, ↓reduceIte, hqt]
        · simp only [go_sem, Nat.reduceAdd, Nat.reduceSub, Nat.reduceMul, Nat.reducePow, Nat.reduceEqDiff, Nat.reduceLT, Nat.reduceLeDiff, Nat.reduceBEq, Nat.reduceBNe, Int.reduceToNat, Int.reduceLT, Int.reduceLE, Int.reduceEq, Int.reduceBNe, Int.reduceBEq, Int.reduceAdd, Int.reduceSub, Int.reduceMul, Int.reduceNeg, ↓reduceIte]
          refine ⟨(q - 1, r + v / 4294967296), ⟨s2, by rw [decide_eq_false_iff_not] at hr; omega, by omega, s4⟩, ?_, by simp only; omega⟩
          simp only [go_sem, Nat.reduceAdd, Nat.reduceSub, Nat.reduceMul, Nat.reducePow, Nat.reduceEqDiff, Nat.reduceLT, Nat.reduceLeDiff, Nat.reduceBEq, Nat.reduceBNe, Int.reduceToNat, Int.reduceLT, Int.reduceLE, Int.reduceEq, Int.reduceBNe, Int.reduceBEq, Int.reduceAdd, Int.reduceSub, Int.reduceMul, Int.reduceNeg, ↓reduceIte]
end Go.Proofs.YtbllopdcbkeadaaGreat
set_option linter.unusedSimpArgs false
set_option linter.unusedVariables false
namespace Go.Proofs.YtbllopdcbkeadaaGreat
open Go.Abs
theorem u64N {a : Int} : ∃ u : Nat, IntKind.wrap .u64 a = (u : Int) ∧ u < 18446744073709551616 ∧ (u : Int) = a % 18446744073709551616 := by
  refine ⟨(a % 18446744073709551616).toNat, ?_, ?_, ?_⟩
  · rw [IntKind.wrap_u64]; omega
  · omega
  · omega
theorem hi1 (x : Nat) (P : Int) (h : (x : Int) = P) (hP : -85070591730234615865843651857942052864 ≤ P ∧ P ≤ 85070591730234615865843651857942052864) : IntKind.wrap .i64 ((x / 18446744073709551616 : Nat) : Int) = P / 18446744073709551616 ∧ ((x % 18446744073709551616 : Nat) : Int) = P % 18446744073709551616 := by
  rw [IntKind.wrap_i64]; omega
theorem hi2 (x : Nat) (P b : Int) (h : (x : Int) = P + 18446744073709551616 * b) (hP : -85070591730234615865843651857942052864 ≤ P ∧ P ≤ 85070591730234615865843651857942052864) : IntKind.wrap .i64 (IntKind.wrap .u64 (((x / 18446744073709551616 : Nat) : Int) - b % 18446744073709551616)) = P / 18446744073709551616 ∧ ((x % 18446744073709551616 : Nat) : Int) = P % 18446744073709551616 := by
  rw [IntKind.wrap_i64, IntKind.wrap_u64]; omega
theorem hi3 (x : Nat) (P a b : Int) (h : (x : Int) = P + 18446744073709551616 * a + 18446744073709551616 * b + 18446744073709551616 * 18446744073709551616) (hP : -85070591730234615865843651857942052864 ≤ P ∧ P ≤ 85070591730234615865843651857942052864) :
    IntKind.wrap .i64 (IntKind.wrap .u64 (IntKind.wrap .u64 (((x / 18446744073709551616 : Nat) : Int) - b % 18446744073709551616) - a % 18446744073709551616)) = P / 18446744073709551616 ∧ ((x % 18446744073709551616 : Nat) : Int) = P % 18446744073709551616 := by
  rw [IntKind.wrap_i64, IntKind.wrap_u64, IntKind.wrap_u64]; omega
theorem prodB (a b : Int) (ha : -9223372036854775808 ≤ a ∧ a ≤ 9223372036854775807) (hb : -9223372036854775808 ≤ b ∧ b ≤ 9223372036854775807) : -85070591730234615865843651857942052864 ≤ a * b ∧ a * b ≤ 85070591730234615865843651857942052864 := by
  have h1 : (a * b).natAbs ≤ 9223372036854775808 * 9223372036854775808 := by
    rw [Int.natAbs_mul]
    exact Nat.mul_le_mul (by omega) (by omega)
  omega
section
variable {a b : Int} {u w : Nat}
theorem prod3 (hu : (u : Int) = a % 18446744073709551616) (hw : (w : Int) = b % 18446744073709551616) (ha : -9223372036854775808 ≤ a ∧ a ≤ 9223372036854775807) (hb : -9223372036854775808 ≤ b ∧ b ≤ 9223372036854775807) (h1 : a < 0) (h2 : b < 0) :
    ((u * w : Nat) : Int) = a * b + 18446744073709551616 * a + 18446744073709551616 * b + 18446744073709551616 * 18446744073709551616 := by
  have e1 : (u : Int) = a + 18446744073709551616 := by omega
  have e2 : (w : Int) = b + 18446744073709551616 := by omega
  rw [Int.natCast_mul, e1, e2, Int.add_mul, Int.mul_add, Int.mul_add, Int.mul_comm a 18446744073709551616, Int.add_assoc, Int.add_assoc, Int.add_assoc]
theorem prod2 (hu : (u : Int) = a % 18446744073709551616) (hw : (w : Int) = b % 18446744073709551616) (ha : -9223372036854775808 ≤ a ∧ a ≤ 9223372036854775807) (hb : -9223372036854775808 ≤ b ∧ b ≤ 9223372036854775807) (h1 : a < 0) (h2 : ¬ b < 0) :
    ((u * w : Nat) : Int) = a * b + 18446744073709551616 * b := by
  have e1 : (u : Int) = a + 18446744073709551616 := by omega
  have e2 : (w : Int) = b := by omega
  rw [Int.natCast_mul, e1, e2, Int.add_mul]
theorem prod2' (hu : (u : Int) = a % 18446744073709551616) (hw : (w : Int) = b % 18446744073709551616) (ha : -9223372036854775808 ≤ a ∧ a ≤ 9223372036854775807) (hb : -9223372036854775808 ≤ b ∧ b ≤ 9223372036854775807) (h1 : ¬ a < 0) (h2 : b < 0) :
    ((u * w : Nat) : Int) = a * b + 18446744073709551616 * a := by
  have e1 : (u : Int) = a := by omega
  have e2 : (w : Int) = b + 18446744073709551616 := by omega
  rw [Int.natCast_mul, e1, e2, Int.mul_add, Int.mul_comm a 18446744073709551616]
theorem prod1 (hu : (u : Int) = a % 18446744073709551616) (hw : (w : Int) = b % 18446744073709551616) (ha : -9223372036854775808 ≤ a ∧ a ≤ 9223372036854775807) (hb : -9223372036854775808 ≤ b ∧ b ≤ 9223372036854775807) (h1 : ¬ a < 0) (h2 : ¬ b < 0) :
    ((u * w : Nat) : Int) = a * b := by
  have e1 : (u : Int) = a := by omega
  have e2 : (w : Int) = b := by omega
  rw [Int.natCast_mul, e1, e2]
end
theorem times_spec (a b : Int) (ha : -9223372036854775808 ≤ a ∧ a ≤ 9223372036854775807) (hb : -9223372036854775808 ≤ b ∧ b ≤ 9223372036854775807) : Abs.Spec Tryz.prog 69 [] [.int .i64 a, .int .i64 b] [] (.agg [.int .i64 (a * b / 18446744073709551616), .int .u64 (a * b % 18446744073709551616)]) := by
  obtain ⟨u, hu, hu2, hu3⟩ := u64N (a := a)
  obtain ⟨w, hw, hw2, hw3⟩ := u64N (a := b)
  refine Abs.Spec.go (n := 31) (np := 2) (rs := [.cell 4 109]) mixed Tryz.func69 rfl rfl rfl rfl rfl (by simp) (by simp) ?_
  simp only [go_sem, Nat.reduceAdd, Nat.reduceSub, Nat.reduceMul, Nat.reducePow, Nat.reduceEqDiff, Nat.reduceLT, Nat.reduceLeDiff, Nat.reduceBEq, Nat.reduceBNe, Int.reduceToNat, Int.reduceLT, Int.reduceLE, Int.reduceEq, Int.reduceBNe, Int.reduceBEq, Int.reduceAdd, Int.reduceSub, Int.reduceMul, Int.reduceNeg, ↓reduceIte, hu, hw]
  repeat' (with_reducible first
    | refine And.intro ?_ ?_
    | exact DrawN.mk (by kernel_rfl)
    | exact OkN.mk (by kernel_rfl)
    | refine CallN.pure (mul64_spec _ _ hu2 hw2) ?_
    | refine CondE.split (fun h => ?_) (fun h => ?_)
    | refine WeakK.id ?_
    | simp only [*, go_sem, Nat.reduceAdd, Nat.reduceSub, Nat.reduceMul, Nat.reducePow, Nat.reduceEqDiff, Nat.reduceLT, Nat.reduceLeDiff, Nat.reduceBEq, Nat.reduceBNe, Int.reduceToNat, Int.reduceLT, Int.reduceLE, Int.reduceEq, Int.reduceBNe, Int.reduceBEq, Int.reduceAdd, Int.reduceSub, Int.reduceMul, Int.reduceNeg, ↓reduceIte])
  all_goals (simp only [decide_eq_true_eq, decide_eq_false_iff_not] at *)
  all_goals (have hP := prodB a b ha hb)
  all_goals (clear hu hw)
  all_goals first
    | exact (hi3 _ _ _ _ (prod3 hu3 hw3 ha hb ‹_› ‹_›) hP).1
    | exact (hi3 _ _ _ _ (prod3 hu3 hw3 ha hb ‹_› ‹_›) hP).2
    | exact (hi2 _ _ _ (prod2 hu3 hw3 ha hb ‹_› ‹_›) hP).1
    | exact (hi2 _ _ _ (prod2 hu3 hw3 ha hb ‹_› ‹_›) hP).2
    | exact (hi2 _ _ _ (prod2' hu3 hw3 ha hb ‹_› ‹_›) hP).1
    | exact (hi2 _ _ _ (prod2' hu3 hw3 ha hb ‹_› ‹_›) hP).2
    | exact (hi1 _ _ (prod1 hu3 hw3 ha hb ‹_› ‹_›) hP).1
    | exact (hi1 _ _ (prod1 hu3 hw3 ha hb ‹_› ‹_›) hP).2
theorem notN (x : Nat) (h : x < 18446744073709551616) : inot .u64 (x : Int) = ((18446744073709551615 - x : Nat) : Int) := by
  unfold inot
  have h1 : BitVec.ofInt 64 (if IntKind.signed .u64 then -1 else IntKind.max .u64) = BitVec.allOnes 64 := by decide
  show IntKind.wrap .u64 (((BitVec.ofInt 64 (if IntKind.signed .u64 then -1 else IntKind.max .u64) ^^^ BitVec.ofInt 64 (x : Int)).toNat : Nat) : Int) = _
  rw [h1, BitVec.allOnes_xor, BitVec.toNat_not, BitVec.toNat_ofInt, IntKind.wrap_u64]
  omega
def quoQ (P n : Int) : Int := if n ≤ 0 then 0 else if inR (P / n) then P / n else 0
def quoR (P n : Int) : Int := if n ≤ 0 then 0 else if inR (P / n) then P % n else 0
def quoE (P n : Int) : Int := if n ≤ 0 then 2 else if inR (P / n) then 0 else 1
theorem quo_in {P n : Int} (hn : 0 < n) (h : inR (P / n) = true) : quoQ P n = P / n ∧ quoR P n = P % n ∧ quoE P n = 0 := by
  simp [quoQ, quoR, quoE, h, show ¬ n ≤ 0 by omega]
theorem quo_out {P n : Int} (hn : 0 < n) (h : inR (P / n) = false) : quoQ P n = 0 ∧ quoR P n = 0 ∧ quoE P n = 1 := by
  simp [quoQ, quoR, quoE, h, show ¬ n ≤ 0 by omega]
theorem right_one (x : Int) : right [x] = inR x := by simp [right]
theorem quo_pos (P : Nat) (n : Int) (hn : 0 < n ∧ n ≤ 9223372036854775807) (hP : P < 170141183460469231731687303715884105728) : Abs.Spec Tryz.prog 166 [] [.agg [.int .i64 ((P / 18446744073709551616 : Nat) : Int), .int .u64 ((P % 18446744073709551616 : Nat) : Int)], .int .i64 n] [] (.tup [.int .i64 (quoQ P n), .int .i64 (quoR P n), .int .i64 (quoE P n)]) := by
  obtain ⟨N, rfl⟩ : ∃ N : Nat, n = N := ⟨n.toNat, by omega⟩
  obtain ⟨H, hH⟩ : ∃ H, H = P / 18446744073709551616 := ⟨_, rfl⟩
  obtain ⟨L, hL⟩ : ∃ L, L = P % 18446744073709551616 := ⟨_, rfl⟩
  have hN : 0 < N := by omega
  have hHL : H * 18446744073709551616 + L = P := by omega
  have hLl : L < 18446744073709551616 := by omega
  have hHl : H < 9223372036854775808 := by omega
  rw [← hH, ← hL]
  obtain ⟨Q, hQ⟩ : ∃ Q, Q = P / N := ⟨_, rfl⟩
  obtain ⟨R, hR⟩ : ∃ R, R = P % N := ⟨_, rfl⟩
  have hQi : (P : Int) / (N : Int) = (Q : Int) := by rw [hQ]; rfl
  have hRi : (P : Int) % (N : Int) = (R : Int) := by rw [hR]; rfl
  have hRN : R < N := by rw [hR]; exact Nat.mod_lt _ hN
  have hd := div64_spec H L N (by omega)
  rw [hHL, ← hQ, ← hR] at hd
  have hbig : N ≤ H → 18446744073709551616 ≤ Q := fun h => by
    rw [hQ, Nat.le_div_iff_mul_le hN]
    have := Nat.mul_le_mul_left 18446744073709551616 h
    omega
  have c1 : decide ((N : Int) ≤ 0) = false := by simp; omega
  have c2 : decide ((H : Int) < 0) = false := by simp
  have c3 : IntKind.wrap .u64 (H : Int) = H := Mul64.wrapN _ (by omega)
  have c4 : IntKind.wrap .u64 (N : Int) = N := Mul64.wrapN _ (by omega)
  have hin := quo_in (P := P) (n := N) (by omega)
  have hout := quo_out (P := P) (n := N) (by omega)
  rw [hQi] at hin hout
  rw [hRi] at hin
  clear hQ hR hQi hRi
  refine Abs.Spec.go (n := 59) (np := 2) (rs := [.tmp 4, .tmp 5, .tmp 6]) mixed Tryz.func166 rfl rfl rfl rfl rfl (by simp) (by simp) ?_
  simp only [go_sem, Nat.reduceAdd, Nat.reduceSub, Nat.reduceMul, Nat.reducePow, Nat.reduceEqDiff, Nat.reduceLT, Nat.reduceLeDiff, Nat.reduceBEq, Nat.reduceBNe, Int.reduceToNat, Int.reduceLT, Int.reduceLE, Int.reduceEq, Int.reduceBNe, Int.reduceBEq, Int.reduceAdd, Int.reduceSub, Int.reduceMul, Int.reduceNeg, ↓reduceIte, c1, c2, c3, c4]
  repeat' (with_reducible first
    | refine And.intro ?_ ?_
    | exact DrawN.mk (by kernel_rfl)
    | exact OkN.mk (by kernel_rfl)
    | simp only [go_sem, Nat.reduceAdd, Nat.reduceSub, Nat.reduceMul, Nat.reducePow, Nat.reduceEqDiff, Nat.reduceLT, Nat.reduceLeDiff, Nat.reduceBEq, Nat.reduceBNe, Int.reduceToNat, Int.reduceLT, Int.reduceLE, Int.reduceEq, Int.reduceBNe, Int.reduceBEq, Int.reduceAdd, Int.reduceSub, Int.reduceMul, Int.reduceNeg, ↓reduceIte, c1, c2, c3, c4])
  refine CondE.split (fun h => ?_) (fun h => ?_)
  · simp only [go_sem, Nat.reduceAdd, Nat.reduceSub, Nat.reduceMul, Nat.reducePow, Nat.reduceEqDiff, Nat.reduceLT, Nat.reduceLeDiff, Nat.reduceBEq, Nat.reduceBNe, Int.reduceToNat, Int.reduceLT, Int.reduceLE, Int.reduceEq, Int.reduceBNe, Int.reduceBEq, Int.reduceAdd, Int.reduceSub, Int.reduceMul, Int.reduceNeg, ↓reduceIte]
    have h := hbig (by rw [decide_eq_true_eq] at h; omega)
    obtain ⟨q1, q2, q3⟩ := hout (by simp [inR]; omega)
    rw [q1, q2, q3]
    exact ⟨rfl, rfl, rfl⟩
  · have hNH : H < N := by rw [decide_eq_false_iff_not] at h; omega
    simp only [go_sem, Nat.reduceAdd, Nat.reduceSub, Nat.reduceMul, Nat.reducePow, Nat.reduceEqDiff, Nat.reduceLT, Nat.reduceLeDiff, Nat.reduceBEq, Nat.reduceBNe, Int.reduceToNat, Int.reduceLT, Int.reduceLE, Int.reduceEq, Int.reduceBNe, Int.reduceBEq, Int.reduceAdd, Int.reduceSub, Int.reduceMul, Int.reduceNeg, ↓reduceIte, c1, c2, c3, c4]
    refine CallN.pure (hd hNH hLl) ?_
    simp only [go_sem, Nat.reduceAdd, Nat.reduceSub, Nat.reduceMul, Nat.reducePow, Nat.reduceEqDiff, Nat.reduceLT, Nat.reduceLeDiff, Nat.reduceBEq, Nat.reduceBNe, Int.reduceToNat, Int.reduceLT, Int.reduceLE, Int.reduceEq, Int.reduceBNe, Int.reduceBEq, Int.reduceAdd, Int.reduceSub, Int.reduceMul, Int.reduceNeg, ↓reduceIte]
    refine CondE.split (fun hb => ?_) (fun hb => ?_)
    · simp only [go_sem, Nat.reduceAdd, Nat.reduceSub, Nat.reduceMul, Nat.reducePow, Nat.reduceEqDiff, Nat.reduceLT, Nat.reduceLeDiff, Nat.reduceBEq, Nat.reduceBNe, Int.reduceToNat, Int.reduceLT, Int.reduceLE, Int.reduceEq, Int.reduceBNe, Int.reduceBEq, Int.reduceAdd, Int.reduceSub, Int.reduceMul, Int.reduceNeg, ↓reduceIte]
      obtain ⟨q1, q2, q3⟩ := hout (by rw [decide_eq_true_eq] at hb; simp [inR]; omega)
      rw [q1, q2, q3]
      exact ⟨rfl, rfl, rfl⟩
    · rw [decide_eq_false_iff_not] at hb
      have c5 : IntKind.wrap .i64 (Q : Int) = Q := wrap64 (by omega) (by omega)
      have c6 : IntKind.wrap .i64 (R : Int) = R := wrap64 (by omega) (by omega)
      simp only [go_sem, Nat.reduceAdd, Nat.reduceSub, Nat.reduceMul, Nat.reducePow, Nat.reduceEqDiff, Nat.reduceLT, Nat.reduceLeDiff, Nat.reduceBEq, Nat.reduceBNe, Int.reduceToNat, Int.reduceLT, Int.reduceLE, Int.reduceEq, Int.reduceBNe, Int.reduceBEq, Int.reduceAdd, Int.reduceSub, Int.reduceMul, Int.reduceNeg, ↓reduceIte, c5, c6]
      first | (refine ⟨by decide, ?_⟩) | skip
      refine CallN.gen [] [] true (by simp) ?_
      simp only [go_sem, Nat.reduceAdd, Nat.reduceSub, Nat.reduceMul, Nat.reducePow, Nat.reduceEqDiff, Nat.reduceLT, Nat.reduceLeDiff, Nat.reduceBEq, Nat.reduceBNe, Int.reduceToNat, Int.reduceLT, Int.reduceLE, Int.reduceEq, Int.reduceBNe, Int.reduceBEq, Int.reduceAdd, Int.reduceSub, Int.reduceMul, Int.reduceNeg, ↓reduceIte]
      refine CallG.intro (right_spec [(Q : Int)] (by simp)) ?_
      have : right [(Q : Int)] = true := by simp [right, inR]; omega
      simp only [go_sem, Nat.reduceAdd, Nat.reduceSub, Nat.reduceMul, Nat.reducePow, Nat.reduceEqDiff, Nat.reduceLT, Nat.reduceLeDiff, Nat.reduceBEq, Nat.reduceBNe, Int.reduceToNat, Int.reduceLT, Int.reduceLE, Int.reduceEq, Int.reduceBNe, Int.reduceBEq, Int.reduceAdd, Int.reduceSub, Int.reduceMul, Int.reduceNeg, ↓reduceIte, this]
      obtain ⟨q1, q2, q3⟩ := hin (by simp [inR]; omega)
      rw [q1, q2, q3]
      exact ⟨rfl, rfl, rfl⟩
theorem share_pos (a b c : Int) (ha : 0 ≤ a ∧ a ≤ 9223372036854775807) (hb : 0 ≤ b ∧ b ≤ 9223372036854775807) (hc : 0 < c ∧ c ≤ 9223372036854775807) : Abs.Spec Tryz.prog 107 [] [.int .i64 a, .int .i64 b, .int .i64 c] [] (.tup [.int .i64 (quoQ (a * b) c), .int .i64 (quoE (a * b) c)]) := by
  have hP := prodB a b (by omega) (by omega)
  have h0 : 0 ≤ a * b := Int.mul_nonneg ha.1 hb.1
  obtain ⟨P, hPe⟩ : ∃ P : Nat, a * b = P := ⟨(a * b).toNat, by omega⟩
  have hq := quo_pos P c hc (by omega)
  have ht := times_spec a b (by omega) (by omega)
  rw [hPe] at ht ⊢
  refine Abs.Spec.go (n := 22) (np := 3) (rs := [.tmp 6, .tmp 7]) mixed Tryz.func107 rfl rfl rfl rfl rfl (by simp) (by simp) ?_
  simp only [go_sem, Nat.reduceAdd, Nat.reduceSub, Nat.reduceMul, Nat.reducePow, Nat.reduceEqDiff, Nat.reduceLT, Nat.reduceLeDiff, Nat.reduceBEq, Nat.reduceBNe, Int.reduceToNat, Int.reduceLT, Int.reduceLE, Int.reduceEq, Int.reduceBNe, Int.reduceBEq, Int.reduceAdd, Int.reduceSub, Int.reduceMul, Int.reduceNeg, ↓reduceIte]
  refine CallN.pure ht ?_
  simp only [go_sem, Nat.reduceAdd, Nat.reduceSub, Nat.reduceMul, Nat.reducePow, Nat.reduceEqDiff, Nat.reduceLT, Nat.reduceLeDiff, Nat.reduceBEq, Nat.reduceBNe, Int.reduceToNat, Int.reduceLT, Int.reduceLE, Int.reduceEq, Int.reduceBNe, Int.reduceBEq, Int.reduceAdd, Int.reduceSub, Int.reduceMul, Int.reduceNeg, ↓reduceIte]
  refine CallN.pure hq ?_
  simp only [go_sem, Nat.reduceAdd, Nat.reduceSub, Nat.reduceMul, Nat.reducePow, Nat.reduceEqDiff, Nat.reduceLT, Nat.reduceLeDiff, Nat.reduceBEq, Nat.reduceBNe, Int.reduceToNat, Int.reduceLT, Int.reduceLE, Int.reduceEq, Int.reduceBNe, Int.reduceBEq, Int.reduceAdd, Int.reduceSub, Int.reduceMul, Int.reduceNeg, ↓reduceIte]
def AssetV.P (x : AssetV) (u : Int) : Int := u * (10000 - x.d) * x.c
def AssetV.fit (x : AssetV) (u : Int) : Bool := x.ok && decide (0 ≤ u) && decide (u ≤ 1099511627776)
def AssetV.V (x : AssetV) (u : Int) : Int := if x.fit u then quoQ (x.P u) 10000 else 0
def AssetV.E (x : AssetV) (u : Int) : Int := if x.fit u then quoE (x.P u) 10000 else 3
theorem rises_one (x : AssetV) : rises AssetV.a AssetV.ok [x] = x.ok := by simp [rises, risesAt, List.range_succ]
theorem AssetV.ok_iff (x : AssetV) : x.ok = true ↔ (1 ≤ x.a ∧ x.a ≤ 6) ∧ (0 ≤ x.b ∧ x.b ≤ 2) ∧ (1 ≤ x.c ∧ x.c ≤ 1073741824) ∧ (0 ≤ x.d ∧ x.d ≤ 10000) := by
  simp [AssetV.ok, within, and_assoc]
theorem value_spec (x : AssetV) (u : Int) : Abs.Spec Tryz.prog 39 [] [.agg x.cells, .int .i64 u] [] (.tup [.int .i64 (x.V u), .int .i64 (x.E u)]) := by
  refine Abs.Spec.go (n := 29) (np := 2) (rs := [.tmp 4, .tmp 5]) mixed Tryz.func39 rfl rfl rfl rfl rfl (by simp) (by simp) ?_
  simp only [go_sem, Nat.reduceAdd, Nat.reduceSub, Nat.reduceMul, Nat.reducePow, Nat.reduceEqDiff, Nat.reduceLT, Nat.reduceLeDiff, Nat.reduceBEq, Nat.reduceBNe, Int.reduceToNat, Int.reduceLT, Int.reduceLE, Int.reduceEq, Int.reduceBNe, Int.reduceBEq, Int.reduceAdd, Int.reduceSub, Int.reduceMul, Int.reduceNeg, ↓reduceIte, AssetV.cells]
  first | (refine ⟨by decide, ?_⟩) | skip
  refine CallN.gen [] [] true (by simp) ?_
  simp only [go_sem, Nat.reduceAdd, Nat.reduceSub, Nat.reduceMul, Nat.reducePow, Nat.reduceEqDiff, Nat.reduceLT, Nat.reduceLeDiff, Nat.reduceBEq, Nat.reduceBNe, Int.reduceToNat, Int.reduceLT, Int.reduceLE, Int.reduceEq, Int.reduceBNe, Int.reduceBEq, Int.reduceAdd, Int.reduceSub, Int.reduceMul, Int.reduceNeg, ↓reduceIte]
  refine CallG.intro (check_spec [x] (by simp)) ?_
  cases hok : x.ok
  · have hf : x.fit u = false := by simp [AssetV.fit, hok]
    have e1 : x.V u = 0 := by simp [AssetV.V, hf]
    have e2 : x.E u = 3 := by simp [AssetV.E, hf]
    simp only [go_sem, Nat.reduceAdd, Nat.reduceSub, Nat.reduceMul, Nat.reducePow, Nat.reduceEqDiff, Nat.reduceLT, Nat.reduceLeDiff, Nat.reduceBEq, Nat.reduceBNe, Int.reduceToNat, Int.reduceLT, Int.reduceLE, Int.reduceEq, Int.reduceBNe, Int.reduceBEq, Int.reduceAdd, Int.reduceSub, Int.reduceMul, Int.reduceNeg, ↓reduceIte, rises_one, hok, e1, e2, Int.reduceBNe]
  · simp only [go_sem, Nat.reduceAdd, Nat.reduceSub, Nat.reduceMul, Nat.reducePow, Nat.reduceEqDiff, Nat.reduceLT, Nat.reduceLeDiff, Nat.reduceBEq, Nat.reduceBNe, Int.reduceToNat, Int.reduceLT, Int.reduceLE, Int.reduceEq, Int.reduceBNe, Int.reduceBEq, Int.reduceAdd, Int.reduceSub, Int.reduceMul, Int.reduceNeg, ↓reduceIte, rises_one, hok, Int.reduceBNe]
    refine GuardK.splitN (fun h => ?_) (fun h => ?_)
    · simp only [go_sem, Nat.reduceAdd, Nat.reduceSub, Nat.reduceMul, Nat.reducePow, Nat.reduceEqDiff, Nat.reduceLT, Nat.reduceLeDiff, Nat.reduceBEq, Nat.reduceBNe, Int.reduceToNat, Int.reduceLT, Int.reduceLE, Int.reduceEq, Int.reduceBNe, Int.reduceBEq, Int.reduceAdd, Int.reduceSub, Int.reduceMul, Int.reduceNeg, ↓reduceIte, h]
      refine CondE.split (fun h2 => ?_) (fun h2 => ?_)
      · have hf : x.fit u = false := by simp [AssetV.fit] at h2 ⊢; intros; omega
        have e1 : x.V u = 0 := by simp [AssetV.V, hf]
        have e2 : x.E u = 3 := by simp [AssetV.E, hf]
        simp only [go_sem, Nat.reduceAdd, Nat.reduceSub, Nat.reduceMul, Nat.reducePow, Nat.reduceEqDiff, Nat.reduceLT, Nat.reduceLeDiff, Nat.reduceBEq, Nat.reduceBNe, Int.reduceToNat, Int.reduceLT, Int.reduceLE, Int.reduceEq, Int.reduceBNe, Int.reduceBEq, Int.reduceAdd, Int.reduceSub, Int.reduceMul, Int.reduceNeg, ↓reduceIte, e1, e2]
      · have hf : x.fit u = true := by simp [AssetV.fit, hok] at h h2 ⊢; omega
        have e1 : x.V u = quoQ (x.P u) 10000 := by simp [AssetV.V, hf]
        have e2 : x.E u = quoE (x.P u) 10000 := by simp [AssetV.E, hf]
        have hk := x.ok_iff.1 hok
        simp only [decide_eq_false_iff_not] at h h2
        have w1 : IntKind.wrap .i64 (10000 - x.d) = 10000 - x.d := wrap64 (by omega) (by omega)
        have hb : 0 ≤ u * (10000 - x.d) ∧ u * (10000 - x.d) ≤ 10995116277760000 := by
          refine ⟨Int.mul_nonneg (by omega) (by omega), ?_⟩
          exact Int.le_trans (Int.mul_le_mul (show u ≤ 1099511627776 by omega) (show 10000 - x.d ≤ 10000 by omega) (by omega) (by omega)) (by decide)
        have w2 : IntKind.wrap .i64 (u * (10000 - x.d)) = u * (10000 - x.d) := wrap64 (by omega) (by omega)
        have hs := share_pos (u * (10000 - x.d)) x.c 10000 (by omega) (by omega) (by omega)
        simp only [go_sem, Nat.reduceAdd, Nat.reduceSub, Nat.reduceMul, Nat.reducePow, Nat.reduceEqDiff, Nat.reduceLT, Nat.reduceLeDiff, Nat.reduceBEq, Nat.reduceBNe, Int.reduceToNat, Int.reduceLT, Int.reduceLE, Int.reduceEq, Int.reduceBNe, Int.reduceBEq, Int.reduceAdd, Int.reduceSub, Int.reduceMul, Int.reduceNeg, ↓reduceIte, w1, w2]
        refine CallN.pure hs ?_
        simp only [go_sem, Nat.reduceAdd, Nat.reduceSub, Nat.reduceMul, Nat.reducePow, Nat.reduceEqDiff, Nat.reduceLT, Nat.reduceLeDiff, Nat.reduceBEq, Nat.reduceBNe, Int.reduceToNat, Int.reduceLT, Int.reduceLE, Int.reduceEq, Int.reduceBNe, Int.reduceBEq, Int.reduceAdd, Int.reduceSub, Int.reduceMul, Int.reduceNeg, ↓reduceIte, e1, e2, AssetV.P]
    · have hf : x.fit u = false := by simp [AssetV.fit] at h ⊢; intros; omega
      have e1 : x.V u = 0 := by simp [AssetV.V, hf]
      have e2 : x.E u = 3 := by simp [AssetV.E, hf]
      simp only [go_sem, Nat.reduceAdd, Nat.reduceSub, Nat.reduceMul, Nat.reducePow, Nat.reduceEqDiff, Nat.reduceLT, Nat.reduceLeDiff, Nat.reduceBEq, Nat.reduceBNe, Int.reduceToNat, Int.reduceLT, Int.reduceLE, Int.reduceEq, Int.reduceBNe, Int.reduceBEq, Int.reduceAdd, Int.reduceSub, Int.reduceMul, Int.reduceNeg, ↓reduceIte, h, e1, e2]
end Go.Proofs.YtbllopdcbkeadaaGreat
