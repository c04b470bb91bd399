/- What the functions that CoverValues reaches give: the first part; no theorem of a claim. -/
import Derived.Test.YtbllopdcbkeadaaTypes
set_option linter.unusedSimpArgs false
set_option linter.unusedVariables false
namespace Go.Proofs.Ytbllopdcbkeadaa
open Go.Abs
def within (a b c : Int) : Bool := decide (b ≤ a) && decide (a ≤ c)
theorem within_spec (a b c : Int) : Abs.Spec Try.prog 99 [] [.int .i64 a,.int .i64 b,.int .i64 c] [] (.bool (within a b c)) := by
  refine Abs.Spec.go (n := 15) (np := 3) (rs := [.tmp 6]) mixed Try.func99 rfl rfl rfl rfl rfl (by simp) (by simp) ?_
  simp only [go_sem, Nat.reduceAdd, Nat.reduceSub, Nat.reduceMul, Nat.reducePow, Nat.reduceEqDiff, Nat.reduceLT, Nat.reduceLeDiff, Nat.reduceBEq, Nat.reduceBNe, Int.reduceToNat, Int.reduceLT, Int.reduceLE, Int.reduceEq, Int.reduceBNe, Int.reduceBEq, Int.reduceAdd, Int.reduceSub, Int.reduceMul, Int.reduceNeg, ↓reduceIte]
  refine GuardK.split (fun h => ?_) (fun h => ?_) <;> simp only [h, go_sem, Nat.reduceAdd, Nat.reduceSub, Nat.reduceMul, Nat.reducePow, Nat.reduceEqDiff, Nat.reduceLT, Nat.reduceLeDiff, Nat.reduceBEq, Nat.reduceBNe, Int.reduceToNat, Int.reduceLT, Int.reduceLE, Int.reduceEq, Int.reduceBNe, Int.reduceBEq, Int.reduceAdd, Int.reduceSub, Int.reduceMul, Int.reduceNeg, ↓reduceIte]
  all_goals simp [within, h]
def ints (xs : List Int) : List (List D) := xs.map fun x => [.int .i64 x]
def inR (x : Int) : Bool := decide (-4611686018427387904 ≤ x) && decide (x ≤ 4611686018427387904)
def right (xs : List Int) : Bool := xs.all inR
theorem ints_len (xs : List Int) : (ints xs).length = xs.length := by simp [ints]
theorem ints_at (xs : List Int) {i : Nat} (h : i < xs.length) : (ints xs).getD i [] = [.int .i64 xs[i]] := by simp [ints, h]
theorem wrap64 {x : Int} (h : -9223372036854775808 ≤ x) (h' : x ≤ 9223372036854775807) : IntKind.wrap .i64 x = x := by
  rw [IntKind.wrap_i64]; omega
theorem right_spec (xs : List Int) (hl : xs.length < 2 ^ 62) : Abs.Spec Try.prog 80 [] [.sl 1 (ints xs)] [] (.bool (right xs)) := by
  refine Abs.Spec.go (n := 18) (np := 1) (rs := [.tmp 2]) mixed Try.func80 rfl rfl rfl rfl rfl (by simp) (by simp) ?_
  simp only [go_sem, Nat.reduceAdd, Nat.reduceSub, Nat.reduceMul, Nat.reducePow, Nat.reduceEqDiff, Nat.reduceLT, Nat.reduceLeDiff, Nat.reduceBEq, Nat.reduceBNe, Int.reduceToNat, Int.reduceLT, Int.reduceLE, Int.reduceEq, Int.reduceBNe, Int.reduceBEq, Int.reduceAdd, Int.reduceSub, Int.reduceMul, Int.reduceNeg, ↓reduceIte]
  refine ⟨Nat, fun i => [(2, .bool false), (5, .sl 1 (ints xs)), (6, .int .i64 xs.length), (7, .int .i64 i)], fun i => [], fun i => i ≤ xs.length ∧ right (xs.take i) = true, fun i => xs.length - i, 0, ?_, ?_, ?_⟩
  · simp [right]
  · simp only [go_sem, Nat.reduceAdd, Nat.reduceSub, Nat.reduceMul, Nat.reducePow, Nat.reduceEqDiff, Nat.reduceLT, Nat.reduceLeDiff, Nat.reduceBEq, Nat.reduceBNe, Int.reduceToNat, Int.reduceLT, Int.reduceLE, Int.reduceEq, Int.reduceBNe, Int.reduceBEq, Int.reduceAdd, Int.reduceSub, Int.reduceMul, Int.reduceNeg, ↓reduceIte, ints_len]; simp
  · rintro i ⟨hi, hr⟩
    simp only [go_sem, Nat.reduceAdd, Nat.reduceSub, Nat.reduceMul, Nat.reducePow, Nat.reduceEqDiff, Nat.reduceLT, Nat.reduceLeDiff, Nat.reduceBEq, Nat.reduceBNe, Int.reduceToNat, Int.reduceLT, Int.reduceLE, Int.reduceEq, Int.reduceBNe, Int.reduceBEq, Int.reduceAdd, Int.reduceSub, Int.reduceMul, Int.reduceNeg, ↓reduceIte]
    refine CondE.split (fun h => ?_) (fun h => ?_)
    · have hi' : i < xs.length := by simpa using h
      simp only [go_sem, Nat.reduceAdd, Nat.reduceSub, Nat.reduceMul, Nat.reducePow, Nat.reduceEqDiff, Nat.reduceLT, Nat.reduceLeDiff, Nat.reduceBEq, Nat.reduceBNe, Int.reduceToNat, Int.reduceLT, Int.reduceLE, Int.reduceEq, Int.reduceBNe, Int.reduceBEq, Int.reduceAdd, Int.reduceSub, Int.reduceMul, Int.reduceNeg, ↓reduceIte, Int.toNat_natCast, ints_at xs hi']
      refine ⟨by simp [ints_len, hi'], ?_⟩
      have bad : inR xs[i] = false → false = right xs := fun hx => by
        symm; simp only [right, List.all_eq_false]
        exact ⟨xs[i], List.getElem_mem hi', by simp [hx]⟩
      refine .splitN (fun h => ?_) (fun h => ?_) <;> simp only [h, go_sem, Nat.reduceAdd, Nat.reduceSub, Nat.reduceMul, Nat.reducePow, Nat.reduceEqDiff, Nat.reduceLT, Nat.reduceLeDiff, Nat.reduceBEq, Nat.reduceBNe, Int.reduceToNat, Int.reduceLT, Int.reduceLE, Int.reduceEq, Int.reduceBNe, Int.reduceBEq, Int.reduceAdd, Int.reduceSub, Int.reduceMul, Int.reduceNeg, ↓reduceIte]
      · refine .split (fun h2 => ?_) (fun h2 => ?_) <;> simp only [h2, go_sem, Nat.reduceAdd, Nat.reduceSub, Nat.reduceMul, Nat.reducePow, Nat.reduceEqDiff, Nat.reduceLT, Nat.reduceLeDiff, Nat.reduceBEq, Nat.reduceBNe, Int.reduceToNat, Int.reduceLT, Int.reduceLE, Int.reduceEq, Int.reduceBNe, Int.reduceBEq, Int.reduceAdd, Int.reduceSub, Int.reduceMul, Int.reduceNeg, ↓reduceIte]
        · exact bad (by simp [inR] at h2 ⊢; omega)
        · refine ⟨i + 1, ⟨hi', ?_⟩, ?_, by simp only; omega⟩
          · rw [right, List.take_succ_eq_append_getElem hi', List.all_append]
            rw [right] at hr; rw [hr]
            simp [inR] at h h2 ⊢
            omega
          · simp only [go_sem, Nat.reduceAdd, Nat.reduceSub, Nat.reduceMul, Nat.reducePow, Nat.reduceEqDiff, Nat.reduceLT, Nat.reduceLeDiff, Nat.reduceBEq, Nat.reduceBNe, Int.reduceToNat, Int.reduceLT, Int.reduceLE, Int.reduceEq, Int.reduceBNe, Int.reduceBEq, Int.reduceAdd, Int.reduceSub, Int.reduceMul, Int.reduceNeg, ↓reduceIte, ints_len]
            rw [wrap64 (by omega) (by omega)]; simp
      · exact bad (by simp [inR] at h ⊢; omega)
    · simp only [go_sem, Nat.reduceAdd, Nat.reduceSub, Nat.reduceMul, Nat.reducePow, Nat.reduceEqDiff, Nat.reduceLT, Nat.reduceLeDiff, Nat.reduceBEq, Nat.reduceBNe, Int.reduceToNat, Int.reduceLT, Int.reduceLE, Int.reduceEq, Int.reduceBNe, Int.reduceBEq, Int.reduceAdd, Int.reduceSub, Int.reduceMul, Int.reduceNeg, ↓reduceIte]
      have : i = xs.length := by simp at h; omega
      subst this
      simpa using hr.symm
structure AssetV where
  a : Int
  b : Int
  c : Int
  d : Int
@[reducible] def AssetV.cells (x : AssetV) : List D := [.int .i64 x.a, .int .i64 x.b, .int .i64 x.c, .int .i64 x.d]
def AssetV.ok (x : AssetV) : Bool := within x.a 1 6 && within x.b 0 2 && within x.c 1 1073741824 && within x.d 0 10000
theorem rightAsset_spec (x : AssetV) : Abs.Spec Try.prog 69 [] [.agg x.cells] [] (.bool x.ok) := by
  refine Abs.Spec.go (n := 21) (np := 1) (rs := [.tmp 2]) mixed Try.func69 rfl rfl rfl rfl rfl (by simp) (by simp) ?_
  simp only [AssetV.cells]
  simp only [go_sem, Nat.reduceAdd, Nat.reduceSub, Nat.reduceMul, Nat.reducePow, Nat.reduceEqDiff, Nat.reduceLT, Nat.reduceLeDiff, Nat.reduceBEq, Nat.reduceBNe, Int.reduceToNat, Int.reduceLT, Int.reduceLE, Int.reduceEq, Int.reduceBNe, Int.reduceBEq, Int.reduceAdd, Int.reduceSub, Int.reduceMul, Int.reduceNeg, ↓reduceIte]
  repeat' (with_reducible first
    | refine And.intro ?_ ?_
    | refine CallN.pure (within_spec _ _ _) ?_
    | refine GuardK.splitN (fun h => ?_) (fun h => ?_)
    | refine GuardK.split (fun h => ?_) (fun h => ?_)
    | simp only [*, go_sem, Nat.reduceAdd, Nat.reduceSub, Nat.reduceMul, Nat.reducePow, Nat.reduceEqDiff, Nat.reduceLT, Nat.reduceLeDiff, Nat.reduceBEq, Nat.reduceBNe, Int.reduceToNat, Int.reduceLT, Int.reduceLE, Int.reduceEq, Int.reduceBNe, Int.reduceBEq, Int.reduceAdd, Int.reduceSub, Int.reduceMul, Int.reduceNeg, ↓reduceIte])
  all_goals simp [AssetV.ok, *]
theorem noAsset_spec (x : AssetV) : Abs.Spec Try.prog 68 [] [.agg x.cells] [] (.int .i64 x.a) := by
  refine Abs.Spec.go (n := 5) (np := 1) (rs := [.tmp 2]) mixed Try.func68 rfl rfl rfl rfl rfl (by simp) (by simp) ?_
  simp only [AssetV.cells]
  simp only [go_sem, Nat.reduceAdd, Nat.reduceSub, Nat.reduceMul, Nat.reducePow, Nat.reduceEqDiff, Nat.reduceLT, Nat.reduceLeDiff, Nat.reduceBEq, Nat.reduceBNe, Int.reduceToNat, Int.reduceLT, Int.reduceLE, Int.reduceEq, Int.reduceBNe, Int.reduceBEq, Int.reduceAdd, Int.reduceSub, Int.reduceMul, Int.reduceNeg, ↓reduceIte]
def risesAt {A : Type} (no : A → Int) (ok : A → Bool) (xs : List A) (i : Nat) : Bool := match xs[i]? with
  | some x => ok x && (match i with
    | 0 => true
    | j + 1 => match xs[j]? with
      | some y => decide (no y < no x)
      | none => true)
  | none => true
theorem risesAt_zero {A : Type} (no : A → Int) (ok : A → Bool) (xs : List A) {i : Nat} (hi : i < xs.length) (h : ¬ 0 < i) : risesAt no ok xs i = ok xs[i] := by
  have : i = 0 := by omega
  subst this
  simp [risesAt, hi]
theorem risesAt_pos {A : Type} (no : A → Int) (ok : A → Bool) (xs : List A) {i : Nat} (hi : i < xs.length) (h : 0 < i) : risesAt no ok xs i = (ok xs[i] && decide (no xs[i - 1] < no xs[i])) := by
  obtain ⟨j, rfl⟩ : ∃ j, i = j + 1 := ⟨i - 1, by omega⟩
  have : j < xs.length := by omega
  simp [risesAt, hi, this]
def rises {A : Type} (no : A → Int) (ok : A → Bool) (xs : List A) : Bool := (List.range xs.length).all (risesAt no ok xs)
theorem map_at {A : Type} {c : A → List D} (xs : List A) {i : Nat} (h : i < xs.length) : (xs.map c).getD i [] = c xs[i] := by simp [h]
theorem risesAsset_spec (xs : List AssetV) (hl : xs.length < 2 ^ 62) : Abs.Spec Try.prog 67 [] [.sl 4 (xs.map AssetV.cells), .fn 68 [], .fn 69 []] [] (.bool (rises AssetV.a AssetV.ok xs)) := by
  refine Abs.Spec.go (n := 38) (np := 3) (rs := [.tmp 6]) mixed Try.func67 rfl rfl rfl rfl rfl (by simp) (by simp) ?_
  simp only [go_sem, Nat.reduceAdd, Nat.reduceSub, Nat.reduceMul, Nat.reducePow, Nat.reduceEqDiff, Nat.reduceLT, Nat.reduceLeDiff, Nat.reduceBEq, Nat.reduceBNe, Int.reduceToNat, Int.reduceLT, Int.reduceLE, Int.reduceEq, Int.reduceBNe, Int.reduceBEq, Int.reduceAdd, Int.reduceSub, Int.reduceMul, Int.reduceNeg, ↓reduceIte, List.length_map]
  refine ⟨Nat, fun i => [(6, .bool false), (0, .sl 4 (xs.map AssetV.cells)), (1, .fn 68 []), (2, .fn 69 []), (9, .sl 4 (xs.map AssetV.cells)), (10, .int .i64 xs.length), (11, .int .i64 i)], fun i => [], fun i => i ≤ xs.length ∧ ∀ j, j < i → risesAt AssetV.a AssetV.ok xs j = true, fun i => xs.length - i, 0, ?_, ?_, ?_⟩
  · simp
  · simp only [go_sem, Nat.reduceAdd, Nat.reduceSub, Nat.reduceMul, Nat.reducePow, Nat.reduceEqDiff, Nat.reduceLT, Nat.reduceLeDiff, Nat.reduceBEq, Nat.reduceBNe, Int.reduceToNat, Int.reduceLT, Int.reduceLE, Int.reduceEq, Int.reduceBNe, Int.reduceBEq, Int.reduceAdd, Int.reduceSub, Int.reduceMul, Int.reduceNeg, ↓reduceIte, List.length_map]; simp
  · rintro i ⟨hi, hr⟩
    simp only [go_sem, Nat.reduceAdd, Nat.reduceSub, Nat.reduceMul, Nat.reducePow, Nat.reduceEqDiff, Nat.reduceLT, Nat.reduceLeDiff, Nat.reduceBEq, Nat.reduceBNe, Int.reduceToNat, Int.reduceLT, Int.reduceLE, Int.reduceEq, Int.reduceBNe, Int.reduceBEq, Int.reduceAdd, Int.reduceSub, Int.reduceMul, Int.reduceNeg, ↓reduceIte]
    refine CondE.split (fun h => ?_) (fun h => ?_)
    · have hi' : i < xs.length := by simpa using h
      have bad : risesAt AssetV.a AssetV.ok xs i = false → rises AssetV.a AssetV.ok xs = false := fun hx => by
        simp only [rises, List.all_eq_false]
        exact ⟨i, List.mem_range.2 hi', by simp [hx]⟩
      simp only [go_sem, Nat.reduceAdd, Nat.reduceSub, Nat.reduceMul, Nat.reducePow, Nat.reduceEqDiff, Nat.reduceLT, Nat.reduceLeDiff, Nat.reduceBEq, Nat.reduceBNe, Int.reduceToNat, Int.reduceLT, Int.reduceLE, Int.reduceEq, Int.reduceBNe, Int.reduceBEq, Int.reduceAdd, Int.reduceSub, Int.reduceMul, Int.reduceNeg, ↓reduceIte, Int.toNat_natCast, map_at xs hi', AssetV.cells]
      refine ⟨by simp [hi'], ?_⟩
      have next : risesAt AssetV.a AssetV.ok xs i = true → ∀ j, j < i + 1 → risesAt AssetV.a AssetV.ok xs j = true := fun hx j hj => by
        rcases Nat.lt_succ_iff_lt_or_eq.1 hj with h1 | rfl
        · exact hr j h1
        · exact hx
      by_cases h0 : 0 < i
      · have hw : IntKind.wrap .i64 ((i : Int) - 1) = ((i - 1 : Nat) : Int) := by rw [wrap64 (by omega) (by omega)]; omega
        have hp : i - 1 < xs.length := by omega
        have hg : decide (0 < (i : Int)) = true := by simp; omega
        have hm := map_at (c := AssetV.cells) xs hp
        have hra := risesAt_pos AssetV.a AssetV.ok xs hi' h0
        repeat' (with_reducible first
          | refine And.intro ?_ ?_
          | exact DrawN.mk (by kernel_rfl)
          | exact OkN.mk (by kernel_rfl)
          | refine CallN.pure (rightAsset_spec _) ?_
          | refine CallN.pure (noAsset_spec _) ?_
          | refine GuardK.splitN (fun h => ?_) (fun h => ?_)
          | refine GuardK.split (fun h => ?_) (fun h => ?_)
          | refine CondE.split (fun h => ?_) (fun h => ?_)
          | refine WeakK.id ?_
          | simp only [hw, hg, hm, go_sem, Nat.reduceAdd, Nat.reduceSub, Nat.reduceMul, Nat.reducePow, Nat.reduceEqDiff, Nat.reduceLT, Nat.reduceLeDiff, Nat.reduceBEq, Nat.reduceBNe, Int.reduceToNat, Int.reduceLT, Int.reduceLE, Int.reduceEq, Int.reduceBNe, Int.reduceBEq, Int.reduceAdd, Int.reduceSub, Int.reduceMul, Int.reduceNeg, ↓reduceIte, *, Int.toNat_natCast, AssetV.cells])
        · simp; omega
        · exact (bad (by rw [hra]; simp at h; simp; intro _; omega)).symm
        · refine ⟨i + 1, ⟨hi', next (by rw [hra]; simp at h; simp [*])⟩, ?_, by simp only; omega⟩
          simp only [go_sem, Nat.reduceAdd, Nat.reduceSub, Nat.reduceMul, Nat.reducePow, Nat.reduceEqDiff, Nat.reduceLT, Nat.reduceLeDiff, Nat.reduceBEq, Nat.reduceBNe, Int.reduceToNat, Int.reduceLT, Int.reduceLE, Int.reduceEq, Int.reduceBNe, Int.reduceBEq, Int.reduceAdd, Int.reduceSub, Int.reduceMul, Int.reduceNeg, ↓reduceIte, List.length_map]
          rw [wrap64 (by omega) (by omega)]; simp
      · have hg : decide (0 < (i : Int)) = false := by simp; omega
        have hra := risesAt_zero AssetV.a AssetV.ok xs hi' h0
        repeat' (with_reducible first
          | refine And.intro ?_ ?_
          | exact DrawN.mk (by kernel_rfl)
          | exact OkN.mk (by kernel_rfl)
          | refine CallN.pure (rightAsset_spec _) ?_
          | refine CallN.pure (noAsset_spec _) ?_
          | refine GuardK.splitN (fun h => ?_) (fun h => ?_)
          | refine GuardK.split (fun h => ?_) (fun h => ?_)
          | refine CondE.split (fun h => ?_) (fun h => ?_)
          | refine WeakK.id ?_
          | simp only [hg, go_sem, Nat.reduceAdd, Nat.reduceSub, Nat.reduceMul, Nat.reducePow, Nat.reduceEqDiff, Nat.reduceLT, Nat.reduceLeDiff, Nat.reduceBEq, Nat.reduceBNe, Int.reduceToNat, Int.reduceLT, Int.reduceLE, Int.reduceEq, Int.reduceBNe, Int.reduceBEq, Int.reduceAdd, Int.reduceSub, Int.reduceMul, Int.reduceNeg, ↓reduceIte, *, Int.toNat_natCast, AssetV.cells])
        · refine ⟨i + 1, ⟨hi', next (by rw [hra]; simp [*])⟩, ?_, by simp only; omega⟩
          simp only [go_sem, Nat.reduceAdd, Nat.reduceSub, Nat.reduceMul, Nat.reducePow, Nat.reduceEqDiff, Nat.reduceLT, Nat.reduceLeDiff, Nat.reduceBEq, Nat.reduceBNe, Int.reduceToNat, Int.reduceLT, Int.reduceLE, Int.reduceEq, Int.reduceBNe, Int.reduceBEq, Int.reduceAdd, Int.reduceSub, Int.reduceMul, Int.reduceNeg, ↓reduceIte, List.length_map]
          rw [wrap64 (by omega) (by omega)]; simp
    · simp only [go_sem, Nat.reduceAdd, Nat.reduceSub, Nat.reduceMul, Nat.reducePow, Nat.reduceEqDiff, Nat.reduceLT, Nat.reduceLeDiff, Nat.reduceBEq, Nat.reduceBNe, Int.reduceToNat, Int.reduceLT, Int.reduceLE, Int.reduceEq, Int.reduceBNe, Int.reduceBEq, Int.reduceAdd, Int.reduceSub, Int.reduceMul, Int.reduceNeg, ↓reduceIte]
      have : i = xs.length := by simp at h; omega
      subst this
      symm
      simpa [rises] using hr
theorem risesMemberNil : Abs.Spec Try.prog 61 [] [.nil, .fn 62 [], .fn 63 []] [] (.bool true) := by
  refine Abs.Spec.go (n := 38) (np := 3) (rs := [.tmp 6]) mixed Try.func61 rfl rfl rfl rfl rfl (by simp) (by simp) ?_
  simp only [go_sem, Nat.reduceAdd, Nat.reduceSub, Nat.reduceMul, Nat.reducePow, Nat.reduceEqDiff, Nat.reduceLT, Nat.reduceLeDiff, Nat.reduceBEq, Nat.reduceBNe, Int.reduceToNat, Int.reduceLT, Int.reduceLE, Int.reduceEq, Int.reduceBNe, Int.reduceBEq, Int.reduceAdd, Int.reduceSub, Int.reduceMul, Int.reduceNeg, ↓reduceIte]
  refine ⟨Unit, fun _ => [(6, .bool false), (10, .int .i64 0), (11, .int .i64 0)], fun _ => [], fun _ => True, fun _ => 0, (), trivial, ?_, ?_⟩
  · simp only [go_sem, Nat.reduceAdd, Nat.reduceSub, Nat.reduceMul, Nat.reducePow, Nat.reduceEqDiff, Nat.reduceLT, Nat.reduceLeDiff, Nat.reduceBEq, Nat.reduceBNe, Int.reduceToNat, Int.reduceLT, Int.reduceLE, Int.reduceEq, Int.reduceBNe, Int.reduceBEq, Int.reduceAdd, Int.reduceSub, Int.reduceMul, Int.reduceNeg, ↓reduceIte]
  · intro _ _
    simp only [go_sem, Nat.reduceAdd, Nat.reduceSub, Nat.reduceMul, Nat.reducePow, Nat.reduceEqDiff, Nat.reduceLT, Nat.reduceLeDiff, Nat.reduceBEq, Nat.reduceBNe, Int.reduceToNat, Int.reduceLT, Int.reduceLE, Int.reduceEq, Int.reduceBNe, Int.reduceBEq, Int.reduceAdd, Int.reduceSub, Int.reduceMul, Int.reduceNeg, ↓reduceIte, Int.lt_irrefl, decide_false]
theorem risesInstNil : Abs.Spec Try.prog 64 [] [.nil, .fn 65 [], .fn 66 []] [] (.bool true) := by
  refine Abs.Spec.go (n := 38) (np := 3) (rs := [.tmp 6]) mixed Try.func64 rfl rfl rfl rfl rfl (by simp) (by simp) ?_
  simp only [go_sem, Nat.reduceAdd, Nat.reduceSub, Nat.reduceMul, Nat.reducePow, Nat.reduceEqDiff, Nat.reduceLT, Nat.reduceLeDiff, Nat.reduceBEq, Nat.reduceBNe, Int.reduceToNat, Int.reduceLT, Int.reduceLE, Int.reduceEq, Int.reduceBNe, Int.reduceBEq, Int.reduceAdd, Int.reduceSub, Int.reduceMul, Int.reduceNeg, ↓reduceIte]
  refine ⟨Unit, fun _ => [(6, .bool false), (10, .int .i64 0), (11, .int .i64 0)], fun _ => [], fun _ => True, fun _ => 0, (), trivial, ?_, ?_⟩
  · simp only [go_sem, Nat.reduceAdd, Nat.reduceSub, Nat.reduceMul, Nat.reducePow, Nat.reduceEqDiff, Nat.reduceLT, Nat.reduceLeDiff, Nat.reduceBEq, Nat.reduceBNe, Int.reduceToNat, Int.reduceLT, Int.reduceLE, Int.reduceEq, Int.reduceBNe, Int.reduceBEq, Int.reduceAdd, Int.reduceSub, Int.reduceMul, Int.reduceNeg, ↓reduceIte]
  · intro _ _
    simp only [go_sem, Nat.reduceAdd, Nat.reduceSub, Nat.reduceMul, Nat.reducePow, Nat.reduceEqDiff, Nat.reduceLT, Nat.reduceLeDiff, Nat.reduceBEq, Nat.reduceBNe, Int.reduceToNat, Int.reduceLT, Int.reduceLE, Int.reduceEq, Int.reduceBNe, Int.reduceBEq, Int.reduceAdd, Int.reduceSub, Int.reduceMul, Int.reduceNeg, ↓reduceIte, Int.lt_irrefl, decide_false]

theorem check_spec (xs : List AssetV) (hl : xs.length < 2 ^ 62) : Abs.Spec Try.prog 31 [] [.agg [.nil, .nil, .sl 4 (xs.map AssetV.cells)]] [] (.int .i64 (if rises AssetV.a AssetV.ok xs then 0 else 14)) := by
  refine Abs.Spec.go (n := 19) (np := 1) (rs := [.tmp 2]) mixed Try.func31 rfl rfl rfl rfl rfl (by simp) (by simp) ?_
  simp only [go_sem, Nat.reduceAdd, Nat.reduceSub, Nat.reduceMul, Nat.reducePow, Nat.reduceEqDiff, Nat.reduceLT, Nat.reduceLeDiff, Nat.reduceBEq, Nat.reduceBNe, Int.reduceToNat, Int.reduceLT, Int.reduceLE, Int.reduceEq, Int.reduceBNe, Int.reduceBEq, Int.reduceAdd, Int.reduceSub, Int.reduceMul, Int.reduceNeg, ↓reduceIte]
  repeat' (with_reducible first
    | refine And.intro ?_ ?_
    | exact DrawN.mk (by kernel_rfl)
    | exact OkN.mk (by kernel_rfl)
    | refine CallN.pure (risesAsset_spec _ hl) ?_
    | refine CallN.pure risesMemberNil ?_
    | refine CallN.pure risesInstNil ?_
    | refine GuardK.splitN (fun h => ?_) (fun h => ?_)
    | refine GuardK.split (fun h => ?_) (fun h => ?_)
    | refine CondE.splitN (fun h => ?_) (fun h => ?_)
    | refine CondE.split (fun h => ?_) (fun h => ?_)
    | refine WeakK.id ?_
    | simp only [*, go_sem, Nat.reduceAdd, Nat.reduceSub, Nat.reduceMul, Nat.reducePow, Nat.reduceEqDiff, Nat.reduceLT, Nat.reduceLeDiff, Nat.reduceBEq, Nat.reduceBNe, Int.reduceToNat, Int.reduceLT, Int.reduceLE, Int.reduceEq, Int.reduceBNe, Int.reduceBEq, Int.reduceAdd, Int.reduceSub, Int.reduceMul, Int.reduceNeg, ↓reduceIte])
  all_goals (simp at h; simp [h])
end Go.Proofs.Ytbllopdcbkeadaa
