/- Rolls, ledgers: what is read of them; no theorem of a claim. -/
import Derived.Test.YtbllopdcbkeadaaC1
set_option linter.unusedSimpArgs false
set_option linter.unusedVariables false
namespace Go.Proofs.Ytbllopdcbkeadaa
open Go.Abs
structure RollV where
  ms : List MemberV
  ns : List InstV
  xs : List AssetV
def RollV.cells (r : RollV) : List D := [.sl 3 (r.ms.map MemberV.cells), .sl 12 (r.ns.map InstV.cells), .sl 4 (r.xs.map AssetV.cells)]
def RollV.okB (r : RollV) : Bool := rises MemberV.no MemberV.ok r.ms && rises InstV.no InstV.ok r.ns && rises AssetV.a AssetV.ok r.xs
def RollV.small (r : RollV) : Prop := r.ms.length < 2 ^ 60 ∧ r.ns.length < 2 ^ 60 ∧ r.xs.length < 2 ^ 60
theorem rollCheck_spec (r : RollV) (hl : r.small) : Abs.Spec Try.prog 31 [] [.agg r.cells] [] (.int .i64 (if r.okB then 0 else 14)) := by
  obtain ⟨l1, l2, l3⟩ := hl
  have h1 := risesMember_spec r.ms (by omega)
  have h2 := risesInst_spec r.ns (by omega)
  have h3 := risesAsset_spec r.xs (by omega)
  simp only [RollV.cells]
  refine Abs.Spec.go (n := 19) (np := 1) (rs := [.tmp 2]) mixed Try.func31 rfl rfl rfl rfl rfl (by simp) (by simp) ?_
  simp only [go_sem, Nat.reduceAdd, Nat.reduceSub, Nat.reduceMul, Nat.reducePow, Nat.reduceEqDiff, Nat.reduceLT, Nat.reduceLeDiff, Nat.reduceBEq, Nat.reduceBNe, Int.reduceToNat, Int.reduceLT, Int.reduceLE, Int.reduceEq, Int.reduceBNe, Int.reduceBEq, Int.reduceAdd, Int.reduceSub, Int.reduceMul, Int.reduceNeg, ↓reduceIte]
  refine CallN.pure h1 ?_
  cases b1 : rises MemberV.no MemberV.ok r.ms
  · have e : r.okB = false := by simp [RollV.okB, b1]
    simp only [go_sem, Nat.reduceAdd, Nat.reduceSub, Nat.reduceMul, Nat.reducePow, Nat.reduceEqDiff, Nat.reduceLT, Nat.reduceLeDiff, Nat.reduceBEq, Nat.reduceBNe, Int.reduceToNat, Int.reduceLT, Int.reduceLE, Int.reduceEq, Int.reduceBNe, Int.reduceBEq, Int.reduceAdd, Int.reduceSub, Int.reduceMul, Int.reduceNeg, ↓reduceIte, e] <;> simp
  simp only [go_sem, Nat.reduceAdd, Nat.reduceSub, Nat.reduceMul, Nat.reducePow, Nat.reduceEqDiff, Nat.reduceLT, Nat.reduceLeDiff, Nat.reduceBEq, Nat.reduceBNe, Int.reduceToNat, Int.reduceLT, Int.reduceLE, Int.reduceEq, Int.reduceBNe, Int.reduceBEq, Int.reduceAdd, Int.reduceSub, Int.reduceMul, Int.reduceNeg, ↓reduceIte]
  refine CallN.pure h2 ?_
  cases b2 : rises InstV.no InstV.ok r.ns
  · have e : r.okB = false := by simp [RollV.okB, b2]
    simp only [go_sem, Nat.reduceAdd, Nat.reduceSub, Nat.reduceMul, Nat.reducePow, Nat.reduceEqDiff, Nat.reduceLT, Nat.reduceLeDiff, Nat.reduceBEq, Nat.reduceBNe, Int.reduceToNat, Int.reduceLT, Int.reduceLE, Int.reduceEq, Int.reduceBNe, Int.reduceBEq, Int.reduceAdd, Int.reduceSub, Int.reduceMul, Int.reduceNeg, ↓reduceIte, e] <;> simp
  simp only [go_sem, Nat.reduceAdd, Nat.reduceSub, Nat.reduceMul, Nat.reducePow, Nat.reduceEqDiff, Nat.reduceLT, Nat.reduceLeDiff, Nat.reduceBEq, Nat.reduceBNe, Int.reduceToNat, Int.reduceLT, Int.reduceLE, Int.reduceEq, Int.reduceBNe, Int.reduceBEq, Int.reduceAdd, Int.reduceSub, Int.reduceMul, Int.reduceNeg, ↓reduceIte]
  refine CallN.pure h3 ?_
  cases b3 : rises AssetV.a AssetV.ok r.xs
  · have e : r.okB = false := by simp [RollV.okB, b3]
    simp only [go_sem, Nat.reduceAdd, Nat.reduceSub, Nat.reduceMul, Nat.reducePow, Nat.reduceEqDiff, Nat.reduceLT, Nat.reduceLeDiff, Nat.reduceBEq, Nat.reduceBNe, Int.reduceToNat, Int.reduceLT, Int.reduceLE, Int.reduceEq, Int.reduceBNe, Int.reduceBEq, Int.reduceAdd, Int.reduceSub, Int.reduceMul, Int.reduceNeg, ↓reduceIte, e] <;> simp
  have e : r.okB = true := by simp [RollV.okB, b1, b2, b3]
  simp only [go_sem, Nat.reduceAdd, Nat.reduceSub, Nat.reduceMul, Nat.reducePow, Nat.reduceEqDiff, Nat.reduceLT, Nat.reduceLeDiff, Nat.reduceBEq, Nat.reduceBNe, Int.reduceToNat, Int.reduceLT, Int.reduceLE, Int.reduceEq, Int.reduceBNe, Int.reduceBEq, Int.reduceAdd, Int.reduceSub, Int.reduceMul, Int.reduceNeg, ↓reduceIte, e]
/-- the first with the number, and its place -/
def getL {A : Type} (no : A → Int) (n : Int) (z : A) : List A → A
  | [] => z
  | x :: r => if no x = n then x else getL no n z r
def posL {A : Type} (no : A → Int) (n : Int) : List A → Int
  | [] => -1
  | x :: r => if no x = n then 0 else if posL no n r < 0 then -1 else posL no n r + 1
def hasL {A : Type} (no : A → Int) (n : Int) (xs : List A) : Bool := xs.any fun x => no x == n
theorem getL_hit {A : Type} {no : A → Int} {n : Int} {z : A} : ∀ {xs : List A} {i : Nat} (h : i < xs.length), (∀ j (hj : j < xs.length), j < i → no xs[j] ≠ n) → no xs[i] = n → getL no n z xs = xs[i] ∧ posL no n xs = i
  | [], i, h, _, _ => by simp at h
  | x :: r, 0, h, _, he => by
    have he : no x = n := he
    simp [getL, posL, he]
  | x :: r, i + 1, h, hn, he => by
    have h0 : no x ≠ n := hn 0 (by simp) (by omega)
    obtain ⟨h1, h2⟩ := getL_hit (z := z) (xs := r) (i := i) (by simpa using h) (fun j hj hji => hn (j + 1) (by simpa using hj) (by omega)) he
    simp only [getL, posL, if_neg h0, h2]
    refine ⟨h1, ?_⟩
    rw [if_neg (by omega)]; omega
theorem getL_miss {A : Type} {no : A → Int} {n : Int} {z : A} : ∀ {xs : List A}, (∀ j (hj : j < xs.length), no xs[j] ≠ n) → getL no n z xs = z ∧ posL no n xs = -1
  | [], _ => by simp [getL, posL]
  | x :: r, hn => by
    have h0 : no x ≠ n := hn 0 (by simp)
    obtain ⟨h1, h2⟩ := getL_miss (z := z) (xs := r) (fun j hj => hn (j + 1) (by simpa using hj))
    simp only [getL, posL, if_neg h0, h2]
    exact ⟨h1, by simp⟩
theorem findAsset_spec (xs : List AssetV) (n : Int) (hl : xs.length < 2 ^ 62) : Abs.Spec Try.prog 94 [] [.sl 4 (xs.map AssetV.cells), .fn 68 [], .int .i64 n] [] (.tup [.agg (getL AssetV.a n ⟨0, 0, 0, 0⟩ xs).cells, .int .i64 (posL AssetV.a n xs)]) := by
  refine Abs.Spec.go (n := 27) (np := 3) (rs := [.cell 6 32, .tmp 7]) mixed Try.func94 rfl rfl rfl rfl rfl (by simp) (by simp) ?_
  simp only [go_sem, Nat.reduceAdd, Nat.reduceSub, Nat.reduceMul, Nat.reducePow, Nat.reduceEqDiff, Nat.reduceLT, Nat.reduceLeDiff, Nat.reduceBEq, Nat.reduceBNe, Int.reduceToNat, Int.reduceLT, Int.reduceLE, Int.reduceEq, Int.reduceBNe, Int.reduceBEq, Int.reduceAdd, Int.reduceSub, Int.reduceMul, Int.reduceNeg, ↓reduceIte, List.length_map]
  refine LoopK.count xs.length [1, 2, 6, 11, 12] [112, 208] (fun i => [(13, .int .i64 i)]) (fun i => []) (fun i => ∀ j (hj : j < xs.length), j < i → xs[j].a ≠ n) (by simp only [go_sem, Nat.reduceAdd, Nat.reduceSub, Nat.reduceMul, Nat.reducePow, Nat.reduceEqDiff, Nat.reduceLT, Nat.reduceLeDiff, Nat.reduceBEq, Nat.reduceBNe, Int.reduceToNat, Int.reduceLT, Int.reduceLE, Int.reduceEq, Int.reduceBNe, Int.reduceBEq, Int.reduceAdd, Int.reduceSub, Int.reduceMul, Int.reduceNeg, ↓reduceIte] <;> exact rfl) (by simp only [go_sem, Nat.reduceAdd, Nat.reduceSub, Nat.reduceMul, Nat.reducePow, Nat.reduceEqDiff, Nat.reduceLT, Nat.reduceLeDiff, Nat.reduceBEq, Nat.reduceBNe, Int.reduceToNat, Int.reduceLT, Int.reduceLE, Int.reduceEq, Int.reduceBNe, Int.reduceBEq, Int.reduceAdd, Int.reduceSub, Int.reduceMul, Int.reduceNeg, ↓reduceIte] <;> exact rfl) (by simp) ?_ ?_
  · simp only [go_sem, Nat.reduceAdd, Nat.reduceSub, Nat.reduceMul, Nat.reducePow, Nat.reduceEqDiff, Nat.reduceLT, Nat.reduceLeDiff, Nat.reduceBEq, Nat.reduceBNe, Int.reduceToNat, Int.reduceLT, Int.reduceLE, Int.reduceEq, Int.reduceBNe, Int.reduceBEq, Int.reduceAdd, Int.reduceSub, Int.reduceMul, Int.reduceNeg, ↓reduceIte] <;> simp
  · intro i hi hI
    simp only [go_sem, Nat.reduceAdd, Nat.reduceSub, Nat.reduceMul, Nat.reducePow, Nat.reduceEqDiff, Nat.reduceLT, Nat.reduceLeDiff, Nat.reduceBEq, Nat.reduceBNe, Int.reduceToNat, Int.reduceLT, Int.reduceLE, Int.reduceEq, Int.reduceBNe, Int.reduceBEq, Int.reduceAdd, Int.reduceSub, Int.reduceMul, Int.reduceNeg, ↓reduceIte]
    refine CondE.splitD (fun h => ?_) (fun h => ?_)
    · have hi' : i < xs.length := by omega
      have hw : IntKind.wrap .i64 ((i : Int) + 1) = ((i + 1 : Nat) : Int) := by rw [wr64 (by omega) (by omega)]; omega
      have hm := map_at (c := AssetV.cells) xs hi'
      have hno := noAsset_spec xs[i]
      simp only [AssetV.cells] at hm hno ⊢
      simp only [go_sem, Nat.reduceAdd, Nat.reduceSub, Nat.reduceMul, Nat.reducePow, Nat.reduceEqDiff, Nat.reduceLT, Nat.reduceLeDiff, Nat.reduceBEq, Nat.reduceBNe, Int.reduceToNat, Int.reduceLT, Int.reduceLE, Int.reduceEq, Int.reduceBNe, Int.reduceBEq, Int.reduceAdd, Int.reduceSub, Int.reduceMul, Int.reduceNeg, ↓reduceIte, hm]
      refine ⟨by omega, CallN.pure hno ?_⟩
      simp only [go_sem, Nat.reduceAdd, Nat.reduceSub, Nat.reduceMul, Nat.reducePow, Nat.reduceEqDiff, Nat.reduceLT, Nat.reduceLeDiff, Nat.reduceBEq, Nat.reduceBNe, Int.reduceToNat, Int.reduceLT, Int.reduceLE, Int.reduceEq, Int.reduceBNe, Int.reduceBEq, Int.reduceAdd, Int.reduceSub, Int.reduceMul, Int.reduceNeg, ↓reduceIte]
      refine CondE.split (fun hb => ?_) (fun hb => ?_)
      · have hb : xs[i].a = n := by simpa using hb
        obtain ⟨g1, g2⟩ := getL_hit (z := (⟨0, 0, 0, 0⟩ : AssetV)) hi' hI hb
        rw [g1, g2]
        simp only [go_sem, Nat.reduceAdd, Nat.reduceSub, Nat.reduceMul, Nat.reducePow, Nat.reduceEqDiff, Nat.reduceLT, Nat.reduceLeDiff, Nat.reduceBEq, Nat.reduceBNe, Int.reduceToNat, Int.reduceLT, Int.reduceLE, Int.reduceEq, Int.reduceBNe, Int.reduceBEq, Int.reduceAdd, Int.reduceSub, Int.reduceMul, Int.reduceNeg, ↓reduceIte]
      · have hb : xs[i].a ≠ n := by simpa using hb
        simp only [go_sem, Nat.reduceAdd, Nat.reduceSub, Nat.reduceMul, Nat.reducePow, Nat.reduceEqDiff, Nat.reduceLT, Nat.reduceLeDiff, Nat.reduceBEq, Nat.reduceBNe, Int.reduceToNat, Int.reduceLT, Int.reduceLE, Int.reduceEq, Int.reduceBNe, Int.reduceBEq, Int.reduceAdd, Int.reduceSub, Int.reduceMul, Int.reduceNeg, ↓reduceIte, hw]
        refine RoundK.next hi' ?_ ?_
        · intro j hj hji
          rcases Nat.lt_or_ge j i with h | h
          · exact hI j hj h
          · obtain rfl : j = i := by omega
            exact hb
        · simp only [go_sem, Nat.reduceAdd, Nat.reduceSub, Nat.reduceMul, Nat.reducePow, Nat.reduceEqDiff, Nat.reduceLT, Nat.reduceLeDiff, Nat.reduceBEq, Nat.reduceBNe, Int.reduceToNat, Int.reduceLT, Int.reduceLE, Int.reduceEq, Int.reduceBNe, Int.reduceBEq, Int.reduceAdd, Int.reduceSub, Int.reduceMul, Int.reduceNeg, ↓reduceIte]
    · obtain rfl : i = xs.length := by omega
      obtain ⟨g1, g2⟩ := getL_miss (z := (⟨0, 0, 0, 0⟩ : AssetV)) (fun j hj => hI j hj hj)
      rw [g1, g2]
      simp only [go_sem, Nat.reduceAdd, Nat.reduceSub, Nat.reduceMul, Nat.reducePow, Nat.reduceEqDiff, Nat.reduceLT, Nat.reduceLeDiff, Nat.reduceBEq, Nat.reduceBNe, Int.reduceToNat, Int.reduceLT, Int.reduceLE, Int.reduceEq, Int.reduceBNe, Int.reduceBEq, Int.reduceAdd, Int.reduceSub, Int.reduceMul, Int.reduceNeg, ↓reduceIte, AssetV.cells]
end Go.Proofs.Ytbllopdcbkeadaa
