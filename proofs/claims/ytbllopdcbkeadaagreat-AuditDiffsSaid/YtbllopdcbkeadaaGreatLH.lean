/- Members, calls, what is named in a state. Right states. The reference's right states. Lists that are the same, by the library. No theorem of a claim. -/
import Derived.Test.YtbllopdcbkeadaaGreatLG
set_option linter.unusedSimpArgs false
set_option linter.unusedVariables false
namespace Go.Proofs.YtbllopdcbkeadaaGreat
open Go.Abs
def MemberV.zero : MemberV := ⟨0, 0, 0⟩
theorem findMember_spec (xs : List MemberV) (n : Int) (hl : xs.length < 2 ^ 62) : Abs.Spec Tryz.prog 188 [] [.sl 3 (xs.map MemberV.cells), .fn 96 [], .int .i64 n] [] (.tup [.agg (getL MemberV.no n MemberV.zero xs).cells, .int .i64 (posL MemberV.no n xs)]) := by
  refine Abs.Spec.go (n := 27) (np := 3) (rs := [.cell 6 127, .tmp 7]) mixed Tryz.func188 rfl rfl rfl rfl rfl (by simp) (by simp) ?_
  simp only [go_sem, Nat.reduceAdd, Nat.reduceSub, Nat.reduceMul, Nat.reducePow, Nat.reduceEqDiff, Nat.reduceLT, Nat.reduceLeDiff, Nat.reduceBEq, Nat.reduceBNe, Int.reduceToNat, Int.reduceLT, Int.reduceLE, Int.reduceEq, Int.reduceBNe, Int.reduceBEq, Int.reduceAdd, Int.reduceSub, Int.reduceMul, Int.reduceNeg, ↓reduceIte, List.length_map]
  refine LoopK.walk (S := Unit) xs.length [1, 2, 6, 11, 12] [112, 208] (fun i _ => [(13, .int .i64 i)]) (fun i _ => []) (fun i _ => ∀ j (hj : j < xs.length), j < i → xs[j].no ≠ n) () (by simp only [go_sem, Nat.reduceAdd, Nat.reduceSub, Nat.reduceMul, Nat.reducePow, Nat.reduceEqDiff, Nat.reduceLT, Nat.reduceLeDiff, Nat.reduceBEq, Nat.reduceBNe, Int.reduceToNat, Int.reduceLT, Int.reduceLE, Int.reduceEq, Int.reduceBNe, Int.reduceBEq, Int.reduceAdd, Int.reduceSub, Int.reduceMul, Int.reduceNeg, ↓reduceIte] <;> exact rfl) (by simp only [go_sem, Nat.reduceAdd, Nat.reduceSub, Nat.reduceMul, Nat.reducePow, Nat.reduceEqDiff, Nat.reduceLT, Nat.reduceLeDiff, Nat.reduceBEq, Nat.reduceBNe, Int.reduceToNat, Int.reduceLT, Int.reduceLE, Int.reduceEq, Int.reduceBNe, Int.reduceBEq, Int.reduceAdd, Int.reduceSub, Int.reduceMul, Int.reduceNeg, ↓reduceIte] <;> exact rfl) (by intros; omega) ?_ ?_ ?_
  · simp only [go_sem, Nat.reduceAdd, Nat.reduceSub, Nat.reduceMul, Nat.reducePow, Nat.reduceEqDiff, Nat.reduceLT, Nat.reduceLeDiff, Nat.reduceBEq, Nat.reduceBNe, Int.reduceToNat, Int.reduceLT, Int.reduceLE, Int.reduceEq, Int.reduceBNe, Int.reduceBEq, Int.reduceAdd, Int.reduceSub, Int.reduceMul, Int.reduceNeg, ↓reduceIte] <;> simp
  · intro i _ hi hdi hw hI
    have hm := map_at (c := MemberV.cells) xs hi
    have hno := noMember_spec xs[i]
    simp only [MemberV.cells] at hm hno ⊢
    simp only [go_sem, Nat.reduceAdd, Nat.reduceSub, Nat.reduceMul, Nat.reducePow, Nat.reduceEqDiff, Nat.reduceLT, Nat.reduceLeDiff, Nat.reduceBEq, Nat.reduceBNe, Int.reduceToNat, Int.reduceLT, Int.reduceLE, Int.reduceEq, Int.reduceBNe, Int.reduceBEq, Int.reduceAdd, Int.reduceSub, Int.reduceMul, Int.reduceNeg, ↓reduceIte, hdi, hm]
    (repeat' (with_reducible first | refine And.intro ?_ ?_ | exact DrawN.mk (by kernel_rfl) | exact OkN.mk (by kernel_rfl))) <;> try omega
    refine CallN.pure hno ?_
    cases hb : xs[i].no == n
    · have hb2 : xs[i].no ≠ n := by simpa using hb
      simp only [go_sem, Nat.reduceAdd, Nat.reduceSub, Nat.reduceMul, Nat.reducePow, Nat.reduceEqDiff, Nat.reduceLT, Nat.reduceLeDiff, Nat.reduceBEq, Nat.reduceBNe, Int.reduceToNat, Int.reduceLT, Int.reduceLE, Int.reduceEq, Int.reduceBNe, Int.reduceBEq, Int.reduceAdd, Int.reduceSub, Int.reduceMul, Int.reduceNeg, ↓reduceIte, hb, hw]
      refine RoundK.step () hi ?_ ?_
      · intro j hj hji
        rcases Nat.lt_or_ge j i with h | h
        · exact hI j hj h
        · obtain rfl : j = i := by omega
          exact hb2
      · simp only [go_sem, Nat.reduceAdd, Nat.reduceSub, Nat.reduceMul, Nat.reducePow, Nat.reduceEqDiff, Nat.reduceLT, Nat.reduceLeDiff, Nat.reduceBEq, Nat.reduceBNe, Int.reduceToNat, Int.reduceLT, Int.reduceLE, Int.reduceEq, Int.reduceBNe, Int.reduceBEq, Int.reduceAdd, Int.reduceSub, Int.reduceMul, Int.reduceNeg, ↓reduceIte]
    · have hb2 : xs[i].no = n := by simpa using hb
      obtain ⟨g1, g2⟩ := getL_hit (z := MemberV.zero) hi hI hb2
      rw [g1, g2]
      simp only [go_sem, Nat.reduceAdd, Nat.reduceSub, Nat.reduceMul, Nat.reducePow, Nat.reduceEqDiff, Nat.reduceLT, Nat.reduceLeDiff, Nat.reduceBEq, Nat.reduceBNe, Int.reduceToNat, Int.reduceLT, Int.reduceLE, Int.reduceEq, Int.reduceBNe, Int.reduceBEq, Int.reduceAdd, Int.reduceSub, Int.reduceMul, Int.reduceNeg, ↓reduceIte, hb]
  · intro _ hdx hI
    obtain ⟨g1, g2⟩ := getL_miss (z := MemberV.zero) (fun j hj => hI j hj hj)
    rw [g1, g2]
    simp only [go_sem, Nat.reduceAdd, Nat.reduceSub, Nat.reduceMul, Nat.reducePow, Nat.reduceEqDiff, Nat.reduceLT, Nat.reduceLeDiff, Nat.reduceBEq, Nat.reduceBNe, Int.reduceToNat, Int.reduceLT, Int.reduceLE, Int.reduceEq, Int.reduceBNe, Int.reduceBEq, Int.reduceAdd, Int.reduceSub, Int.reduceMul, Int.reduceNeg, ↓reduceIte, hdx, MemberV.cells, MemberV.zero]
def memOf (r : RollV) (n : Int) : MemberV := getL MemberV.no n MemberV.zero r.ms
def memIs (r : RollV) (n : Int) : Bool := decide (0 ≤ posL MemberV.no n r.ms)
def stOf (r : RollV) (n : Int) : Int := (memOf r n).state
theorem rollMember_spec (r : RollV) (n : Int) (hl : r.small) : Abs.Spec Tryz.prog 176 [] [.agg r.cells, .int .i64 n] [] (.tup [.agg (memOf r n).cells, .bool (memIs r n)]) := by
  have h := findMember_spec r.ms n (by have := hl.1; omega)
  obtain ⟨g, hg⟩ : ∃ g, g = getL MemberV.no n MemberV.zero r.ms := ⟨_, rfl⟩
  simp only [memOf, memIs]
  rw [← hg] at h ⊢
  simp only [MemberV.cells] at h ⊢
  simp only [RollV.cells]
  refine Abs.Spec.go (n := 18) (np := 2) (rs := [.cell 4 127, .tmp 5]) mixed Tryz.func176 rfl rfl rfl rfl rfl (by simp) (by simp) ?_
  simp only [go_sem, Nat.reduceAdd, Nat.reduceSub, Nat.reduceMul, Nat.reducePow, Nat.reduceEqDiff, Nat.reduceLT, Nat.reduceLeDiff, Nat.reduceBEq, Nat.reduceBNe, Int.reduceToNat, Int.reduceLT, Int.reduceLE, Int.reduceEq, Int.reduceBNe, Int.reduceBEq, Int.reduceAdd, Int.reduceSub, Int.reduceMul, Int.reduceNeg, ↓reduceIte]
  refine CallN.pure h ?_
  simp only [go_sem, Nat.reduceAdd, Nat.reduceSub, Nat.reduceMul, Nat.reducePow, Nat.reduceEqDiff, Nat.reduceLT, Nat.reduceLeDiff, Nat.reduceBEq, Nat.reduceBNe, Int.reduceToNat, Int.reduceLT, Int.reduceLE, Int.reduceEq, Int.reduceBNe, Int.reduceBEq, Int.reduceAdd, Int.reduceSub, Int.reduceMul, Int.reduceNeg, ↓reduceIte]
theorem known1_spec (s : StateV) (n : Int) (hl : s.roll.small) : Abs.Spec Tryz.prog 175 [] [.int .i64 n, .eaddr s.cells] [] (.int .i64 (stOf s.roll n)) := by
  have h := rollMember_spec s.roll n hl
  simp only [stOf]
  obtain ⟨g, hg⟩ : ∃ g, g = memOf s.roll n := ⟨_, rfl⟩
  rw [← hg] at h ⊢
  simp only [RollV.cells, MemberV.cells] at h
  simp only [StateV.cells]
  refine Abs.Spec.go (n := 15) (np := 2) (rs := [.tmp 3]) mixed Tryz.func175 rfl rfl rfl rfl rfl (by simp) (by simp) ?_
  simp only [go_sem, Nat.reduceAdd, Nat.reduceSub, Nat.reduceMul, Nat.reducePow, Nat.reduceEqDiff, Nat.reduceLT, Nat.reduceLeDiff, Nat.reduceBEq, Nat.reduceBNe, Int.reduceToNat, Int.reduceLT, Int.reduceLE, Int.reduceEq, Int.reduceBNe, Int.reduceBEq, Int.reduceAdd, Int.reduceSub, Int.reduceMul, Int.reduceNeg, ↓reduceIte]
  (repeat' (with_reducible first | refine And.intro ?_ ?_ | exact DrawN.mk (by kernel_rfl) | exact OkN.mk (by kernel_rfl))) <;> try omega
  refine CallN.pure h ?_
  simp only [go_sem, Nat.reduceAdd, Nat.reduceSub, Nat.reduceMul, Nat.reducePow, Nat.reduceEqDiff, Nat.reduceLT, Nat.reduceLeDiff, Nat.reduceBEq, Nat.reduceBNe, Int.reduceToNat, Int.reduceLT, Int.reduceLE, Int.reduceEq, Int.reduceBNe, Int.reduceBEq, Int.reduceAdd, Int.reduceSub, Int.reduceMul, Int.reduceNeg, ↓reduceIte]
theorem known2_spec (s : StateV) (n : Int) (hl : s.roll.small) : Abs.Spec Tryz.prog 177 [] [.int .i64 n, .eaddr s.cells] [] (.bool (instIs s.roll n)) := by
  have h := rollInst_spec s.roll n hl
  obtain ⟨g, hg⟩ : ∃ g, g = instOf s.roll n := ⟨_, rfl⟩
  rw [← hg] at h
  simp only [RollV.cells, InstV.cells] at h
  simp only [StateV.cells]
  refine Abs.Spec.go (n := 14) (np := 2) (rs := [.tmp 3]) mixed Tryz.func177 rfl rfl rfl rfl rfl (by simp) (by simp) ?_
  simp only [go_sem, Nat.reduceAdd, Nat.reduceSub, Nat.reduceMul, Nat.reducePow, Nat.reduceEqDiff, Nat.reduceLT, Nat.reduceLeDiff, Nat.reduceBEq, Nat.reduceBNe, Int.reduceToNat, Int.reduceLT, Int.reduceLE, Int.reduceEq, Int.reduceBNe, Int.reduceBEq, Int.reduceAdd, Int.reduceSub, Int.reduceMul, Int.reduceNeg, ↓reduceIte]
  (repeat' (with_reducible first | refine And.intro ?_ ?_ | exact DrawN.mk (by kernel_rfl) | exact OkN.mk (by kernel_rfl))) <;> try omega
  refine CallN.pure h ?_
  simp only [go_sem, Nat.reduceAdd, Nat.reduceSub, Nat.reduceMul, Nat.reducePow, Nat.reduceEqDiff, Nat.reduceLT, Nat.reduceLeDiff, Nat.reduceBEq, Nat.reduceBNe, Int.reduceToNat, Int.reduceLT, Int.reduceLE, Int.reduceEq, Int.reduceBNe, Int.reduceBEq, Int.reduceAdd, Int.reduceSub, Int.reduceMul, Int.reduceNeg, ↓reduceIte]
def openB (r : RollV) (n : Int) : Bool := stOf r n == 1 || stOf r n == 2
theorem known3_spec (s : StateV) (n : Int) (hl : s.roll.small) : Abs.Spec Tryz.prog 178 [] [.int .i64 n, .eaddr [.fn 175 [.eaddr s.cells]]] [] (.bool (openB s.roll n)) := by
  have h := known1_spec s n hl
  simp only [StateV.cells] at h ⊢
  refine Abs.Spec.go (n := 14) (np := 2) (rs := [.tmp 3]) mixed Tryz.func178 rfl rfl rfl rfl rfl (by simp) (by simp) ?_
  simp only [go_sem, Nat.reduceAdd, Nat.reduceSub, Nat.reduceMul, Nat.reducePow, Nat.reduceEqDiff, Nat.reduceLT, Nat.reduceLeDiff, Nat.reduceBEq, Nat.reduceBNe, Int.reduceToNat, Int.reduceLT, Int.reduceLE, Int.reduceEq, Int.reduceBNe, Int.reduceBEq, Int.reduceAdd, Int.reduceSub, Int.reduceMul, Int.reduceNeg, ↓reduceIte]
  (repeat' (with_reducible first | refine And.intro ?_ ?_ | exact DrawN.mk (by kernel_rfl) | exact OkN.mk (by kernel_rfl))) <;> try omega
  refine CallN.pure h ?_
  cases b1 : stOf s.roll n == 1
  · simp only [go_sem, Nat.reduceAdd, Nat.reduceSub, Nat.reduceMul, Nat.reducePow, Nat.reduceEqDiff, Nat.reduceLT, Nat.reduceLeDiff, Nat.reduceBEq, Nat.reduceBNe, Int.reduceToNat, Int.reduceLT, Int.reduceLE, Int.reduceEq, Int.reduceBNe, Int.reduceBEq, Int.reduceAdd, Int.reduceSub, Int.reduceMul, Int.reduceNeg, ↓reduceIte, b1]
    (repeat' (with_reducible first | refine And.intro ?_ ?_ | exact DrawN.mk (by kernel_rfl) | exact OkN.mk (by kernel_rfl))) <;> try omega
    refine CallN.pure h ?_
    simp only [go_sem, Nat.reduceAdd, Nat.reduceSub, Nat.reduceMul, Nat.reducePow, Nat.reduceEqDiff, Nat.reduceLT, Nat.reduceLeDiff, Nat.reduceBEq, Nat.reduceBNe, Int.reduceToNat, Int.reduceLT, Int.reduceLE, Int.reduceEq, Int.reduceBNe, Int.reduceBEq, Int.reduceAdd, Int.reduceSub, Int.reduceMul, Int.reduceNeg, ↓reduceIte, openB, b1, Bool.false_or]
  · simp only [go_sem, Nat.reduceAdd, Nat.reduceSub, Nat.reduceMul, Nat.reducePow, Nat.reduceEqDiff, Nat.reduceLT, Nat.reduceLeDiff, Nat.reduceBEq, Nat.reduceBNe, Int.reduceToNat, Int.reduceLT, Int.reduceLE, Int.reduceEq, Int.reduceBNe, Int.reduceBEq, Int.reduceAdd, Int.reduceSub, Int.reduceMul, Int.reduceNeg, ↓reduceIte, openB, b1, Bool.true_or]
theorem known4_spec (s : StateV) (c : CallV) (hl : s.roll.small) : Abs.Spec Tryz.prog 180 [] [.agg c.cells, .eaddr [.fn 175 [.eaddr s.cells]]] [] (.bool (!(stOf s.roll c.who == 1))) := by
  have h := known1_spec s c.who hl
  simp only [StateV.cells] at h ⊢
  simp only [CallV.cells]
  refine Abs.Spec.go (n := 10) (np := 2) (rs := [.tmp 3]) mixed Tryz.func180 rfl rfl rfl rfl rfl (by simp) (by simp) ?_
  simp only [go_sem, Nat.reduceAdd, Nat.reduceSub, Nat.reduceMul, Nat.reducePow, Nat.reduceEqDiff, Nat.reduceLT, Nat.reduceLeDiff, Nat.reduceBEq, Nat.reduceBNe, Int.reduceToNat, Int.reduceLT, Int.reduceLE, Int.reduceEq, Int.reduceBNe, Int.reduceBEq, Int.reduceAdd, Int.reduceSub, Int.reduceMul, Int.reduceNeg, ↓reduceIte]
  (repeat' (with_reducible first | refine And.intro ?_ ?_ | exact DrawN.mk (by kernel_rfl) | exact OkN.mk (by kernel_rfl))) <;> try omega
  refine CallN.pure h ?_
  simp only [go_sem, Nat.reduceAdd, Nat.reduceSub, Nat.reduceMul, Nat.reducePow, Nat.reduceEqDiff, Nat.reduceLT, Nat.reduceLeDiff, Nat.reduceBEq, Nat.reduceBNe, Int.reduceToNat, Int.reduceLT, Int.reduceLE, Int.reduceEq, Int.reduceBNe, Int.reduceBEq, Int.reduceAdd, Int.reduceSub, Int.reduceMul, Int.reduceNeg, ↓reduceIte, bne]
theorem callIndex_spec (s : StateV) (cs : List CallV) (hl : s.roll.small) (hc : cs.length < 2 ^ 60) : Abs.Spec Tryz.prog 189 [] [.sl 4 (cs.map CallV.cells), .fn 180 [.eaddr [.fn 175 [.eaddr s.cells]]]] [] (.int .i64 (posL (fun c : CallV => if stOf s.roll c.who == 1 then 0 else 1) 1 cs)) := by
  have h := fun c => known4_spec s c hl
  simp only [StateV.cells, CallV.cells] at h ⊢
  refine Abs.Spec.go (n := 19) (np := 2) (rs := [.tmp 4]) mixed Tryz.func189 rfl rfl rfl rfl rfl (by simp) (by simp) ?_
  simp only [go_sem, Nat.reduceAdd, Nat.reduceSub, Nat.reduceMul, Nat.reducePow, Nat.reduceEqDiff, Nat.reduceLT, Nat.reduceLeDiff, Nat.reduceBEq, Nat.reduceBNe, Int.reduceToNat, Int.reduceLT, Int.reduceLE, Int.reduceEq, Int.reduceBNe, Int.reduceBEq, Int.reduceAdd, Int.reduceSub, Int.reduceMul, Int.reduceNeg, ↓reduceIte, List.length_map]
  refine LoopK.walk (S := Unit) cs.length [0, 1, 7] [] (fun i _ => [(8, .int .i64 i)]) (fun i _ => []) (fun i _ => ∀ j (hj : j < cs.length), j < i → (if stOf s.roll cs[j].who == 1 then (0 : Int) else 1) ≠ 1) () (by simp only [go_sem, Nat.reduceAdd, Nat.reduceSub, Nat.reduceMul, Nat.reducePow, Nat.reduceEqDiff, Nat.reduceLT, Nat.reduceLeDiff, Nat.reduceBEq, Nat.reduceBNe, Int.reduceToNat, Int.reduceLT, Int.reduceLE, Int.reduceEq, Int.reduceBNe, Int.reduceBEq, Int.reduceAdd, Int.reduceSub, Int.reduceMul, Int.reduceNeg, ↓reduceIte] <;> exact rfl) (by simp only [go_sem, Nat.reduceAdd, Nat.reduceSub, Nat.reduceMul, Nat.reducePow, Nat.reduceEqDiff, Nat.reduceLT, Nat.reduceLeDiff, Nat.reduceBEq, Nat.reduceBNe, Int.reduceToNat, Int.reduceLT, Int.reduceLE, Int.reduceEq, Int.reduceBNe, Int.reduceBEq, Int.reduceAdd, Int.reduceSub, Int.reduceMul, Int.reduceNeg, ↓reduceIte] <;> exact rfl) (by intros; omega) ?_ ?_ ?_
  · simp only [go_sem, Nat.reduceAdd, Nat.reduceSub, Nat.reduceMul, Nat.reducePow, Nat.reduceEqDiff, Nat.reduceLT, Nat.reduceLeDiff, Nat.reduceBEq, Nat.reduceBNe, Int.reduceToNat, Int.reduceLT, Int.reduceLE, Int.reduceEq, Int.reduceBNe, Int.reduceBEq, Int.reduceAdd, Int.reduceSub, Int.reduceMul, Int.reduceNeg, ↓reduceIte] <;> simp
  · intro i _ hi hdi hw hI
    have hm := map_at (c := CallV.cells) cs hi
    have hli : (i : Int) < (cs.length : Int) := by omega
    have hc := h cs[i]
    simp only [CallV.cells] at hm
    simp only [go_sem, Nat.reduceAdd, Nat.reduceSub, Nat.reduceMul, Nat.reducePow, Nat.reduceEqDiff, Nat.reduceLT, Nat.reduceLeDiff, Nat.reduceBEq, Nat.reduceBNe, Int.reduceToNat, Int.reduceLT, Int.reduceLE, Int.reduceEq, Int.reduceBNe, Int.reduceBEq, Int.reduceAdd, Int.reduceSub, Int.reduceMul, Int.reduceNeg, ↓reduceIte, hdi, List.length_map, hm]
    (repeat' (with_reducible first | refine And.intro ?_ ?_ | exact DrawN.mk (by kernel_rfl) | exact OkN.mk (by kernel_rfl))) <;> try omega
    refine CallN.pure hc ?_
    cases hb : stOf s.roll cs[i].who == 1
    · obtain ⟨g1, g2⟩ := getL_hit (no := fun c : CallV => if stOf s.roll c.who == 1 then (0 : Int) else 1) (n := 1) (z := (⟨0, 0, 0, 0⟩ : CallV)) hi hI (by simp [hb])
      rw [g2]
      simp only [go_sem, Nat.reduceAdd, Nat.reduceSub, Nat.reduceMul, Nat.reducePow, Nat.reduceEqDiff, Nat.reduceLT, Nat.reduceLeDiff, Nat.reduceBEq, Nat.reduceBNe, Int.reduceToNat, Int.reduceLT, Int.reduceLE, Int.reduceEq, Int.reduceBNe, Int.reduceBEq, Int.reduceAdd, Int.reduceSub, Int.reduceMul, Int.reduceNeg, ↓reduceIte, hb]
    · simp only [go_sem, Nat.reduceAdd, Nat.reduceSub, Nat.reduceMul, Nat.reducePow, Nat.reduceEqDiff, Nat.reduceLT, Nat.reduceLeDiff, Nat.reduceBEq, Nat.reduceBNe, Int.reduceToNat, Int.reduceLT, Int.reduceLE, Int.reduceEq, Int.reduceBNe, Int.reduceBEq, Int.reduceAdd, Int.reduceSub, Int.reduceMul, Int.reduceNeg, ↓reduceIte, hb, hw]
      refine RoundK.step () hi ?_ ?_
      · intro j hj hji
        rcases Nat.lt_or_ge j i with h | h
        · exact hI j hj h
        · obtain rfl : j = i := by omega
          simp [hb]
      · simp only [go_sem, Nat.reduceAdd, Nat.reduceSub, Nat.reduceMul, Nat.reducePow, Nat.reduceEqDiff, Nat.reduceLT, Nat.reduceLeDiff, Nat.reduceBEq, Nat.reduceBNe, Int.reduceToNat, Int.reduceLT, Int.reduceLE, Int.reduceEq, Int.reduceBNe, Int.reduceBEq, Int.reduceAdd, Int.reduceSub, Int.reduceMul, Int.reduceNeg, ↓reduceIte]
  · intro _ hdx hI
    obtain ⟨g1, g2⟩ := getL_miss (no := fun c : CallV => if stOf s.roll c.who == 1 then (0 : Int) else 1) (n := 1) (z := (⟨0, 0, 0, 0⟩ : CallV)) (fun j hj => hI j hj hj)
    rw [g2]
    simp only [go_sem, Nat.reduceAdd, Nat.reduceSub, Nat.reduceMul, Nat.reducePow, Nat.reduceEqDiff, Nat.reduceLT, Nat.reduceLeDiff, Nat.reduceBEq, Nat.reduceBNe, Int.reduceToNat, Int.reduceLT, Int.reduceLE, Int.reduceEq, Int.reduceBNe, Int.reduceBEq, Int.reduceAdd, Int.reduceSub, Int.reduceMul, Int.reduceNeg, ↓reduceIte, hdx]
def callK (r : RollV) (c : CallV) : Bool := stOf r c.who == 1
theorem callContains_spec (s : StateV) (cs : List CallV) (hl : s.roll.small) (hc : cs.length < 2 ^ 60) : Abs.Spec Tryz.prog 179 [] [.sl 4 (cs.map CallV.cells), .fn 180 [.eaddr [.fn 175 [.eaddr s.cells]]]] [] (.bool (!cs.all (callK s.roll))) := by
  have h := callIndex_spec s cs hl hc
  have e : decide (0 ≤ posL (fun c : CallV => if stOf s.roll c.who == 1 then (0 : Int) else 1) 1 cs) = !cs.all (callK s.roll) := by
    rw [pos_any, List.not_all_eq_any_not]
    congr 1
    funext c
    cases hb : stOf s.roll c.who == 1 <;> simp [callK, hb]
  simp only [StateV.cells] at h ⊢
  refine Abs.Spec.go (n := 9) (np := 2) (rs := [.tmp 4]) mixed Tryz.func179 rfl rfl rfl rfl rfl (by simp) (by simp) ?_
  simp only [go_sem, Nat.reduceAdd, Nat.reduceSub, Nat.reduceMul, Nat.reducePow, Nat.reduceEqDiff, Nat.reduceLT, Nat.reduceLeDiff, Nat.reduceBEq, Nat.reduceBNe, Int.reduceToNat, Int.reduceLT, Int.reduceLE, Int.reduceEq, Int.reduceBNe, Int.reduceBEq, Int.reduceAdd, Int.reduceSub, Int.reduceMul, Int.reduceNeg, ↓reduceIte]
  refine CallN.pure h ?_
  simp only [go_sem, Nat.reduceAdd, Nat.reduceSub, Nat.reduceMul, Nat.reducePow, Nat.reduceEqDiff, Nat.reduceLT, Nat.reduceLeDiff, Nat.reduceBEq, Nat.reduceBNe, Int.reduceToNat, Int.reduceLT, Int.reduceLE, Int.reduceEq, Int.reduceBNe, Int.reduceBEq, Int.reduceAdd, Int.reduceSub, Int.reduceMul, Int.reduceNeg, ↓reduceIte, e]
def posK (r : RollV) (p : PosV) : Bool := openB r p.who && instIs r p.inst
def trdK (r : RollV) (t : TradeV) : Bool := !(stOf r t.buyer == 0) && (!(stOf r t.seller == 0) && instIs r t.inst)
def astIs (r : RollV) (n : Int) : Bool := decide (0 ≤ posL AssetV.a n r.xs)
def plgK (r : RollV) (p : Plg) : Bool := openB r p.who && astIs r p.asset
def knownB (s : StateV) : Bool := s.book.qs.all (posK s.roll) && (s.book.ts.all (trdK s.roll) && (s.ps.all (plgK s.roll) && s.calls.all (callK s.roll)))
theorem all_no {A : Type} {f : A → Bool} {xs : List A} {i : Nat} (h : i < xs.length) (hn : f xs[i] = false) : xs.all f = false := by
  cases hc : xs.all f
  · rfl
  · rw [List.all_eq_true.1 hc _ (List.getElem_mem h)] at hn; cases hn
theorem all_yes {A : Type} {f : A → Bool} {xs : List A} (h : ∀ j (hj : j < xs.length), j < xs.length → f xs[j] = true) : xs.all f = true := List.all_eq_true.2 fun x hx => by
  obtain ⟨j, hj, rfl⟩ := List.mem_iff_getElem.1 hx
  exact h j hj hj
theorem all_next {A : Type} {f : A → Bool} {xs : List A} {i : Nat} (hi : i < xs.length) (hI : ∀ j (hj : j < xs.length), j < i → f xs[j] = true) (h0 : f xs[i] = true) : ∀ j (hj : j < xs.length), j < i + 1 → f xs[j] = true := fun j hj hji => by
  rcases Nat.lt_or_ge j i with h | h
  · exact hI j hj h
  · obtain rfl : j = i := by omega
    exact h0
set_option maxRecDepth 8000 in
theorem known_spec (s : StateV) (hs : s.fit) (hc : s.calls.length < 2 ^ 30) : Abs.Spec Tryz.prog 149 [] [.agg s.cells] [] (.bool (knownB s)) := by
  obtain ⟨hl, hb, _, hp⟩ := hs
  obtain ⟨hb1, hb2⟩ := hb
  have k2 := fun n => known2_spec s n hl
  have k1 := fun n => known1_spec s n hl
  have k3 := fun n => known3_spec s n hl
  have kA := fun n => rollAsset_spec s.roll n hl
  have kC := callContains_spec s s.calls hl (by omega)
  simp only [RollV.cells] at kA
  simp only [StateV.cells] at k1 k2 k3 kC ⊢
  refine Abs.Spec.go (n := 98) (np := 1) (rs := [.tmp 2]) mixed Tryz.func149 rfl rfl rfl rfl rfl (by simp) (by simp) ?_
  simp only [go_sem, Nat.reduceAdd, Nat.reduceSub, Nat.reduceMul, Nat.reducePow, Nat.reduceEqDiff, Nat.reduceLT, Nat.reduceLeDiff, Nat.reduceBEq, Nat.reduceBNe, Int.reduceToNat, Int.reduceLT, Int.reduceLE, Int.reduceEq, Int.reduceBNe, Int.reduceBEq, Int.reduceAdd, Int.reduceSub, Int.reduceMul, Int.reduceNeg, ↓reduceIte, List.length_map]
  refine LoopK.walk (S := Unit) s.book.qs.length [1, 3, 4, 5, 19, 20] [32, 64, 256, 272, 336] (fun i _ => [(21, .int .i64 i)]) (fun i _ => []) (fun i _ => ∀ j (hj : j < s.book.qs.length), j < i → posK s.roll s.book.qs[j] = true) () (by simp only [go_sem, Nat.reduceAdd, Nat.reduceSub, Nat.reduceMul, Nat.reducePow, Nat.reduceEqDiff, Nat.reduceLT, Nat.reduceLeDiff, Nat.reduceBEq, Nat.reduceBNe, Int.reduceToNat, Int.reduceLT, Int.reduceLE, Int.reduceEq, Int.reduceBNe, Int.reduceBEq, Int.reduceAdd, Int.reduceSub, Int.reduceMul, Int.reduceNeg, ↓reduceIte] <;> exact rfl) (by simp only [go_sem, Nat.reduceAdd, Nat.reduceSub, Nat.reduceMul, Nat.reducePow, Nat.reduceEqDiff, Nat.reduceLT, Nat.reduceLeDiff, Nat.reduceBEq, Nat.reduceBNe, Int.reduceToNat, Int.reduceLT, Int.reduceLE, Int.reduceEq, Int.reduceBNe, Int.reduceBEq, Int.reduceAdd, Int.reduceSub, Int.reduceMul, Int.reduceNeg, ↓reduceIte] <;> exact rfl) (by intros; omega) ?_ ?_ ?_
  · simp only [go_sem, Nat.reduceAdd, Nat.reduceSub, Nat.reduceMul, Nat.reducePow, Nat.reduceEqDiff, Nat.reduceLT, Nat.reduceLeDiff, Nat.reduceBEq, Nat.reduceBNe, Int.reduceToNat, Int.reduceLT, Int.reduceLE, Int.reduceEq, Int.reduceBNe, Int.reduceBEq, Int.reduceAdd, Int.reduceSub, Int.reduceMul, Int.reduceNeg, ↓reduceIte] <;> simp
  · intro i _ hi hdi hw hI
    have hm := map_at (c := PosV.cells) s.book.qs hi
    have e0 := all_next hi hI
    have e1 : posK s.roll s.book.qs[i] = false → knownB s = false := fun h => by simp [knownB, all_no hi h]
    simp only [PosV.cells] at hm
    simp only [go_sem, Nat.reduceAdd, Nat.reduceSub, Nat.reduceMul, Nat.reducePow, Nat.reduceEqDiff, Nat.reduceLT, Nat.reduceLeDiff, Nat.reduceBEq, Nat.reduceBNe, Int.reduceToNat, Int.reduceLT, Int.reduceLE, Int.reduceEq, Int.reduceBNe, Int.reduceBEq, Int.reduceAdd, Int.reduceSub, Int.reduceMul, Int.reduceNeg, ↓reduceIte, hdi, hm]
    (repeat' (with_reducible first | refine And.intro ?_ ?_ | exact DrawN.mk (by kernel_rfl) | exact OkN.mk (by kernel_rfl))) <;> try omega
    refine CallN.gen [] [] true (by simp) ?_
    simp only [go_sem, Nat.reduceAdd, Nat.reduceSub, Nat.reduceMul, Nat.reducePow, Nat.reduceEqDiff, Nat.reduceLT, Nat.reduceLeDiff, Nat.reduceBEq, Nat.reduceBNe, Int.reduceToNat, Int.reduceLT, Int.reduceLE, Int.reduceEq, Int.reduceBNe, Int.reduceBEq, Int.reduceAdd, Int.reduceSub, Int.reduceMul, Int.reduceNeg, ↓reduceIte]
    refine CallG.intro (k3 s.book.qs[i].who) ?_
    cases b1 : openB s.roll s.book.qs[i].who
    · have := e1 (by simp [posK, b1])
      simp only [go_sem, Nat.reduceAdd, Nat.reduceSub, Nat.reduceMul, Nat.reducePow, Nat.reduceEqDiff, Nat.reduceLT, Nat.reduceLeDiff, Nat.reduceBEq, Nat.reduceBNe, Int.reduceToNat, Int.reduceLT, Int.reduceLE, Int.reduceEq, Int.reduceBNe, Int.reduceBEq, Int.reduceAdd, Int.reduceSub, Int.reduceMul, Int.reduceNeg, ↓reduceIte, b1, this]
    simp only [go_sem, Nat.reduceAdd, Nat.reduceSub, Nat.reduceMul, Nat.reducePow, Nat.reduceEqDiff, Nat.reduceLT, Nat.reduceLeDiff, Nat.reduceBEq, Nat.reduceBNe, Int.reduceToNat, Int.reduceLT, Int.reduceLE, Int.reduceEq, Int.reduceBNe, Int.reduceBEq, Int.reduceAdd, Int.reduceSub, Int.reduceMul, Int.reduceNeg, ↓reduceIte, b1]
    refine CallN.gen [] [] true (by simp) ?_
    simp only [go_sem, Nat.reduceAdd, Nat.reduceSub, Nat.reduceMul, Nat.reducePow, Nat.reduceEqDiff, Nat.reduceLT, Nat.reduceLeDiff, Nat.reduceBEq, Nat.reduceBNe, Int.reduceToNat, Int.reduceLT, Int.reduceLE, Int.reduceEq, Int.reduceBNe, Int.reduceBEq, Int.reduceAdd, Int.reduceSub, Int.reduceMul, Int.reduceNeg, ↓reduceIte]
    refine CallG.intro (k2 s.book.qs[i].inst) ?_
    cases b2 : instIs s.roll s.book.qs[i].inst
    · have := e1 (by simp [posK, b1, b2])
      simp only [go_sem, Nat.reduceAdd, Nat.reduceSub, Nat.reduceMul, Nat.reducePow, Nat.reduceEqDiff, Nat.reduceLT, Nat.reduceLeDiff, Nat.reduceBEq, Nat.reduceBNe, Int.reduceToNat, Int.reduceLT, Int.reduceLE, Int.reduceEq, Int.reduceBNe, Int.reduceBEq, Int.reduceAdd, Int.reduceSub, Int.reduceMul, Int.reduceNeg, ↓reduceIte, b2, this]
    simp only [go_sem, Nat.reduceAdd, Nat.reduceSub, Nat.reduceMul, Nat.reducePow, Nat.reduceEqDiff, Nat.reduceLT, Nat.reduceLeDiff, Nat.reduceBEq, Nat.reduceBNe, Int.reduceToNat, Int.reduceLT, Int.reduceLE, Int.reduceEq, Int.reduceBNe, Int.reduceBEq, Int.reduceAdd, Int.reduceSub, Int.reduceMul, Int.reduceNeg, ↓reduceIte, b2, hw]
    refine RoundK.step () hi (e0 (by simp [posK, b1, b2])) ?_
    simp only [go_sem, Nat.reduceAdd, Nat.reduceSub, Nat.reduceMul, Nat.reducePow, Nat.reduceEqDiff, Nat.reduceLT, Nat.reduceLeDiff, Nat.reduceBEq, Nat.reduceBNe, Int.reduceToNat, Int.reduceLT, Int.reduceLE, Int.reduceEq, Int.reduceBNe, Int.reduceBEq, Int.reduceAdd, Int.reduceSub, Int.reduceMul, Int.reduceNeg, ↓reduceIte]
  intro _ hdx hI
  have hA := all_yes hI
  have eA : knownB s = (s.book.ts.all (trdK s.roll) && (s.ps.all (plgK s.roll) && s.calls.all (callK s.roll))) := by simp [knownB, hA]
  rw [eA]
  clear eA hA hI
  simp only [go_sem, Nat.reduceAdd, Nat.reduceSub, Nat.reduceMul, Nat.reducePow, Nat.reduceEqDiff, Nat.reduceLT, Nat.reduceLeDiff, Nat.reduceBEq, Nat.reduceBNe, Int.reduceToNat, Int.reduceLT, Int.reduceLE, Int.reduceEq, Int.reduceBNe, Int.reduceBEq, Int.reduceAdd, Int.reduceSub, Int.reduceMul, Int.reduceNeg, ↓reduceIte, hdx, List.length_map]
  clear hdx
  refine LoopK.walk (S := Unit) s.book.ts.length [1, 3, 4, 5, 42, 43] [32, 64, 256, 272, 704] (fun i _ => [(44, .int .i64 i)]) (fun i _ => []) (fun i _ => ∀ j (hj : j < s.book.ts.length), j < i → trdK s.roll s.book.ts[j] = true) () (by simp only [go_sem, Nat.reduceAdd, Nat.reduceSub, Nat.reduceMul, Nat.reducePow, Nat.reduceEqDiff, Nat.reduceLT, Nat.reduceLeDiff, Nat.reduceBEq, Nat.reduceBNe, Int.reduceToNat, Int.reduceLT, Int.reduceLE, Int.reduceEq, Int.reduceBNe, Int.reduceBEq, Int.reduceAdd, Int.reduceSub, Int.reduceMul, Int.reduceNeg, ↓reduceIte] <;> exact rfl) (by simp only [go_sem, Nat.reduceAdd, Nat.reduceSub, Nat.reduceMul, Nat.reducePow, Nat.reduceEqDiff, Nat.reduceLT, Nat.reduceLeDiff, Nat.reduceBEq, Nat.reduceBNe, Int.reduceToNat, Int.reduceLT, Int.reduceLE, Int.reduceEq, Int.reduceBNe, Int.reduceBEq, Int.reduceAdd, Int.reduceSub, Int.reduceMul, Int.reduceNeg, ↓reduceIte] <;> exact rfl) (by intros; omega) ?_ ?_ ?_
  · simp only [go_sem, Nat.reduceAdd, Nat.reduceSub, Nat.reduceMul, Nat.reducePow, Nat.reduceEqDiff, Nat.reduceLT, Nat.reduceLeDiff, Nat.reduceBEq, Nat.reduceBNe, Int.reduceToNat, Int.reduceLT, Int.reduceLE, Int.reduceEq, Int.reduceBNe, Int.reduceBEq, Int.reduceAdd, Int.reduceSub, Int.reduceMul, Int.reduceNeg, ↓reduceIte] <;> simp
  · intro i _ hi hdi hw hI
    have hm := map_at (c := TradeV.cells) s.book.ts hi
    have e0 := all_next hi hI
    have e1 : trdK s.roll s.book.ts[i] = false → (s.book.ts.all (trdK s.roll) && (s.ps.all (plgK s.roll) && s.calls.all (callK s.roll))) = false := fun h => by simp [all_no hi h]
    simp only [TradeV.cells] at hm
    simp only [go_sem, Nat.reduceAdd, Nat.reduceSub, Nat.reduceMul, Nat.reducePow, Nat.reduceEqDiff, Nat.reduceLT, Nat.reduceLeDiff, Nat.reduceBEq, Nat.reduceBNe, Int.reduceToNat, Int.reduceLT, Int.reduceLE, Int.reduceEq, Int.reduceBNe, Int.reduceBEq, Int.reduceAdd, Int.reduceSub, Int.reduceMul, Int.reduceNeg, ↓reduceIte, hdi, hm]
    (repeat' (with_reducible first | refine And.intro ?_ ?_ | exact DrawN.mk (by kernel_rfl) | exact OkN.mk (by kernel_rfl))) <;> try omega
    refine CallN.gen [] [] true (by simp) ?_
    simp only [go_sem, Nat.reduceAdd, Nat.reduceSub, Nat.reduceMul, Nat.reducePow, Nat.reduceEqDiff, Nat.reduceLT, Nat.reduceLeDiff, Nat.reduceBEq, Nat.reduceBNe, Int.reduceToNat, Int.reduceLT, Int.reduceLE, Int.reduceEq, Int.reduceBNe, Int.reduceBEq, Int.reduceAdd, Int.reduceSub, Int.reduceMul, Int.reduceNeg, ↓reduceIte]
    refine CallG.intro (k1 s.book.ts[i].buyer) ?_
    cases b1 : stOf s.roll s.book.ts[i].buyer == 0
    case true =>
      have := e1 (by simp only [trdK, b1]; rfl)
      simp only [go_sem, Nat.reduceAdd, Nat.reduceSub, Nat.reduceMul, Nat.reducePow, Nat.reduceEqDiff, Nat.reduceLT, Nat.reduceLeDiff, Nat.reduceBEq, Nat.reduceBNe, Int.reduceToNat, Int.reduceLT, Int.reduceLE, Int.reduceEq, Int.reduceBNe, Int.reduceBEq, Int.reduceAdd, Int.reduceSub, Int.reduceMul, Int.reduceNeg, ↓reduceIte, b1, this]
    simp only [go_sem, Nat.reduceAdd, Nat.reduceSub, Nat.reduceMul, Nat.reducePow, Nat.reduceEqDiff, Nat.reduceLT, Nat.reduceLeDiff, Nat.reduceBEq, Nat.reduceBNe, Int.reduceToNat, Int.reduceLT, Int.reduceLE, Int.reduceEq, Int.reduceBNe, Int.reduceBEq, Int.reduceAdd, Int.reduceSub, Int.reduceMul, Int.reduceNeg, ↓reduceIte, b1]
    refine CallN.gen [] [] true (by simp) ?_
    simp only [go_sem, Nat.reduceAdd, Nat.reduceSub, Nat.reduceMul, Nat.reducePow, Nat.reduceEqDiff, Nat.reduceLT, Nat.reduceLeDiff, Nat.reduceBEq, Nat.reduceBNe, Int.reduceToNat, Int.reduceLT, Int.reduceLE, Int.reduceEq, Int.reduceBNe, Int.reduceBEq, Int.reduceAdd, Int.reduceSub, Int.reduceMul, Int.reduceNeg, ↓reduceIte]
    refine CallG.intro (k1 s.book.ts[i].seller) ?_
    cases b2 : stOf s.roll s.book.ts[i].seller == 0
    case true =>
      have := e1 (by simp only [trdK, b1, b2]; rfl)
      simp only [go_sem, Nat.reduceAdd, Nat.reduceSub, Nat.reduceMul, Nat.reducePow, Nat.reduceEqDiff, Nat.reduceLT, Nat.reduceLeDiff, Nat.reduceBEq, Nat.reduceBNe, Int.reduceToNat, Int.reduceLT, Int.reduceLE, Int.reduceEq, Int.reduceBNe, Int.reduceBEq, Int.reduceAdd, Int.reduceSub, Int.reduceMul, Int.reduceNeg, ↓reduceIte, b2, this]
    simp only [go_sem, Nat.reduceAdd, Nat.reduceSub, Nat.reduceMul, Nat.reducePow, Nat.reduceEqDiff, Nat.reduceLT, Nat.reduceLeDiff, Nat.reduceBEq, Nat.reduceBNe, Int.reduceToNat, Int.reduceLT, Int.reduceLE, Int.reduceEq, Int.reduceBNe, Int.reduceBEq, Int.reduceAdd, Int.reduceSub, Int.reduceMul, Int.reduceNeg, ↓reduceIte, b2]
    refine CallN.gen [] [] true (by simp) ?_
    simp only [go_sem, Nat.reduceAdd, Nat.reduceSub, Nat.reduceMul, Nat.reducePow, Nat.reduceEqDiff, Nat.reduceLT, Nat.reduceLeDiff, Nat.reduceBEq, Nat.reduceBNe, Int.reduceToNat, Int.reduceLT, Int.reduceLE, Int.reduceEq, Int.reduceBNe, Int.reduceBEq, Int.reduceAdd, Int.reduceSub, Int.reduceMul, Int.reduceNeg, ↓reduceIte]
    refine CallG.intro (k2 s.book.ts[i].inst) ?_
    cases b3 : instIs s.roll s.book.ts[i].inst
    · have := e1 (by simp only [trdK, b1, b2, b3]; rfl)
      simp only [go_sem, Nat.reduceAdd, Nat.reduceSub, Nat.reduceMul, Nat.reducePow, Nat.reduceEqDiff, Nat.reduceLT, Nat.reduceLeDiff, Nat.reduceBEq, Nat.reduceBNe, Int.reduceToNat, Int.reduceLT, Int.reduceLE, Int.reduceEq, Int.reduceBNe, Int.reduceBEq, Int.reduceAdd, Int.reduceSub, Int.reduceMul, Int.reduceNeg, ↓reduceIte, b3, this]
    simp only [go_sem, Nat.reduceAdd, Nat.reduceSub, Nat.reduceMul, Nat.reducePow, Nat.reduceEqDiff, Nat.reduceLT, Nat.reduceLeDiff, Nat.reduceBEq, Nat.reduceBNe, Int.reduceToNat, Int.reduceLT, Int.reduceLE, Int.reduceEq, Int.reduceBNe, Int.reduceBEq, Int.reduceAdd, Int.reduceSub, Int.reduceMul, Int.reduceNeg, ↓reduceIte, b3, hw]
    refine RoundK.step () hi (e0 (by simp only [trdK, b1, b2, b3]; rfl)) ?_
    simp only [go_sem, Nat.reduceAdd, Nat.reduceSub, Nat.reduceMul, Nat.reducePow, Nat.reduceEqDiff, Nat.reduceLT, Nat.reduceLeDiff, Nat.reduceBEq, Nat.reduceBNe, Int.reduceToNat, Int.reduceLT, Int.reduceLE, Int.reduceEq, Int.reduceBNe, Int.reduceBEq, Int.reduceAdd, Int.reduceSub, Int.reduceMul, Int.reduceNeg, ↓reduceIte]
  intro _ hdx hI
  have hA := all_yes hI
  rw [hA, Bool.true_and]
  clear hA hI
  have hpl : (pl s.ps).length = s.ps.length := pl_len s.ps
  simp only [go_sem, Nat.reduceAdd, Nat.reduceSub, Nat.reduceMul, Nat.reducePow, Nat.reduceEqDiff, Nat.reduceLT, Nat.reduceLeDiff, Nat.reduceBEq, Nat.reduceBNe, Int.reduceToNat, Int.reduceLT, Int.reduceLE, Int.reduceEq, Int.reduceBNe, Int.reduceBEq, Int.reduceAdd, Int.reduceSub, Int.reduceMul, Int.reduceNeg, ↓reduceIte, hdx]
  clear hdx
  refine LoopK.walk (S := Unit) s.ps.length [1, 3, 5, 69, 70] [32, 64, 272, 1136] (fun i _ => [(71, .int .i64 i)]) (fun i _ => []) (fun i _ => ∀ j (hj : j < s.ps.length), j < i → plgK s.roll s.ps[j] = true) () (by simp only [go_sem, Nat.reduceAdd, Nat.reduceSub, Nat.reduceMul, Nat.reducePow, Nat.reduceEqDiff, Nat.reduceLT, Nat.reduceLeDiff, Nat.reduceBEq, Nat.reduceBNe, Int.reduceToNat, Int.reduceLT, Int.reduceLE, Int.reduceEq, Int.reduceBNe, Int.reduceBEq, Int.reduceAdd, Int.reduceSub, Int.reduceMul, Int.reduceNeg, ↓reduceIte] <;> exact rfl) (by simp only [go_sem, Nat.reduceAdd, Nat.reduceSub, Nat.reduceMul, Nat.reducePow, Nat.reduceEqDiff, Nat.reduceLT, Nat.reduceLeDiff, Nat.reduceBEq, Nat.reduceBNe, Int.reduceToNat, Int.reduceLT, Int.reduceLE, Int.reduceEq, Int.reduceBNe, Int.reduceBEq, Int.reduceAdd, Int.reduceSub, Int.reduceMul, Int.reduceNeg, ↓reduceIte] <;> exact rfl) (by intros; omega) ?_ ?_ ?_
  · simp only [go_sem, Nat.reduceAdd, Nat.reduceSub, Nat.reduceMul, Nat.reducePow, Nat.reduceEqDiff, Nat.reduceLT, Nat.reduceLeDiff, Nat.reduceBEq, Nat.reduceBNe, Int.reduceToNat, Int.reduceLT, Int.reduceLE, Int.reduceEq, Int.reduceBNe, Int.reduceBEq, Int.reduceAdd, Int.reduceSub, Int.reduceMul, Int.reduceNeg, ↓reduceIte] <;> simp
  · intro i _ hi hdi hw hI
    have hm := pl_at s.ps hi
    have e0 := all_next hi hI
    have e1 : plgK s.roll s.ps[i] = false → (s.ps.all (plgK s.roll) && s.calls.all (callK s.roll)) = false := fun h => by simp [all_no hi h]
    have hA := kA s.ps[i].asset
    obtain ⟨g, hg⟩ : ∃ g, g = getL AssetV.a s.ps[i].asset ⟨0, 0, 0, 0⟩ s.roll.xs := ⟨_, rfl⟩
    have hAe : decide (0 ≤ posL AssetV.a s.ps[i].asset s.roll.xs) = astIs s.roll s.ps[i].asset := rfl
    rw [← hg, hAe] at hA
    simp only [AssetV.cells] at hA
    simp only [go_sem, Nat.reduceAdd, Nat.reduceSub, Nat.reduceMul, Nat.reducePow, Nat.reduceEqDiff, Nat.reduceLT, Nat.reduceLeDiff, Nat.reduceBEq, Nat.reduceBNe, Int.reduceToNat, Int.reduceLT, Int.reduceLE, Int.reduceEq, Int.reduceBNe, Int.reduceBEq, Int.reduceAdd, Int.reduceSub, Int.reduceMul, Int.reduceNeg, ↓reduceIte, hdi, hm]
    (repeat' (with_reducible first | refine And.intro ?_ ?_ | exact DrawN.mk (by kernel_rfl) | exact OkN.mk (by kernel_rfl))) <;> try omega
    refine CallN.pure hA ?_
    simp only [go_sem, Nat.reduceAdd, Nat.reduceSub, Nat.reduceMul, Nat.reducePow, Nat.reduceEqDiff, Nat.reduceLT, Nat.reduceLeDiff, Nat.reduceBEq, Nat.reduceBNe, Int.reduceToNat, Int.reduceLT, Int.reduceLE, Int.reduceEq, Int.reduceBNe, Int.reduceBEq, Int.reduceAdd, Int.reduceSub, Int.reduceMul, Int.reduceNeg, ↓reduceIte]
    refine CallN.gen [] [] true (by simp) ?_
    simp only [go_sem, Nat.reduceAdd, Nat.reduceSub, Nat.reduceMul, Nat.reducePow, Nat.reduceEqDiff, Nat.reduceLT, Nat.reduceLeDiff, Nat.reduceBEq, Nat.reduceBNe, Int.reduceToNat, Int.reduceLT, Int.reduceLE, Int.reduceEq, Int.reduceBNe, Int.reduceBEq, Int.reduceAdd, Int.reduceSub, Int.reduceMul, Int.reduceNeg, ↓reduceIte]
    refine CallG.intro (k3 s.ps[i].who) ?_
    cases b1 : openB s.roll s.ps[i].who
    · have := e1 (by simp only [plgK, b1]; rfl)
      simp only [go_sem, Nat.reduceAdd, Nat.reduceSub, Nat.reduceMul, Nat.reducePow, Nat.reduceEqDiff, Nat.reduceLT, Nat.reduceLeDiff, Nat.reduceBEq, Nat.reduceBNe, Int.reduceToNat, Int.reduceLT, Int.reduceLE, Int.reduceEq, Int.reduceBNe, Int.reduceBEq, Int.reduceAdd, Int.reduceSub, Int.reduceMul, Int.reduceNeg, ↓reduceIte, b1, this]
    cases b2 : astIs s.roll s.ps[i].asset
    · have := e1 (by simp only [plgK, b1, b2]; rfl)
      simp only [go_sem, Nat.reduceAdd, Nat.reduceSub, Nat.reduceMul, Nat.reducePow, Nat.reduceEqDiff, Nat.reduceLT, Nat.reduceLeDiff, Nat.reduceBEq, Nat.reduceBNe, Int.reduceToNat, Int.reduceLT, Int.reduceLE, Int.reduceEq, Int.reduceBNe, Int.reduceBEq, Int.reduceAdd, Int.reduceSub, Int.reduceMul, Int.reduceNeg, ↓reduceIte, b1, b2, this]
    simp only [go_sem, Nat.reduceAdd, Nat.reduceSub, Nat.reduceMul, Nat.reducePow, Nat.reduceEqDiff, Nat.reduceLT, Nat.reduceLeDiff, Nat.reduceBEq, Nat.reduceBNe, Int.reduceToNat, Int.reduceLT, Int.reduceLE, Int.reduceEq, Int.reduceBNe, Int.reduceBEq, Int.reduceAdd, Int.reduceSub, Int.reduceMul, Int.reduceNeg, ↓reduceIte, b1, b2, hw]
    refine RoundK.step () hi (e0 (by simp only [plgK, b1, b2]; rfl)) ?_
    simp only [go_sem, Nat.reduceAdd, Nat.reduceSub, Nat.reduceMul, Nat.reducePow, Nat.reduceEqDiff, Nat.reduceLT, Nat.reduceLeDiff, Nat.reduceBEq, Nat.reduceBNe, Int.reduceToNat, Int.reduceLT, Int.reduceLE, Int.reduceEq, Int.reduceBNe, Int.reduceBEq, Int.reduceAdd, Int.reduceSub, Int.reduceMul, Int.reduceNeg, ↓reduceIte]
  intro _ hdx hI
  have hA := all_yes hI
  rw [hA, Bool.true_and]
  clear hA hI
  simp only [go_sem, Nat.reduceAdd, Nat.reduceSub, Nat.reduceMul, Nat.reducePow, Nat.reduceEqDiff, Nat.reduceLT, Nat.reduceLeDiff, Nat.reduceBEq, Nat.reduceBNe, Int.reduceToNat, Int.reduceLT, Int.reduceLE, Int.reduceEq, Int.reduceBNe, Int.reduceBEq, Int.reduceAdd, Int.reduceSub, Int.reduceMul, Int.reduceNeg, ↓reduceIte, hdx]
  refine CallN.gen [32, 64] [] true (by simp) ?_
  simp only [go_sem, Nat.reduceAdd, Nat.reduceSub, Nat.reduceMul, Nat.reducePow, Nat.reduceEqDiff, Nat.reduceLT, Nat.reduceLeDiff, Nat.reduceBEq, Nat.reduceBNe, Int.reduceToNat, Int.reduceLT, Int.reduceLE, Int.reduceEq, Int.reduceBNe, Int.reduceBEq, Int.reduceAdd, Int.reduceSub, Int.reduceMul, Int.reduceNeg, ↓reduceIte]
  refine CallG.intro kC ?_
  simp only [go_sem, Nat.reduceAdd, Nat.reduceSub, Nat.reduceMul, Nat.reducePow, Nat.reduceEqDiff, Nat.reduceLT, Nat.reduceLeDiff, Nat.reduceBEq, Nat.reduceBNe, Int.reduceToNat, Int.reduceLT, Int.reduceLE, Int.reduceEq, Int.reduceBNe, Int.reduceBEq, Int.reduceAdd, Int.reduceSub, Int.reduceMul, Int.reduceNeg, ↓reduceIte, Bool.not_not]
end Go.Proofs.YtbllopdcbkeadaaGreat
set_option linter.unusedSimpArgs false
set_option linter.unusedVariables false
namespace Go.Proofs.YtbllopdcbkeadaaGreat
open Go.Abs
def cmpI (x y : Int) : Int := if x < y then -1 else if y < x then 1 else 0
theorem isNaN_spec (x : Int) : Abs.Spec Tryz.prog 191 [] [.int .i64 x] [] (.bool false) := by
  refine Abs.Spec.go (n := 6) (np := 1) (rs := [.tmp 2]) mixed Tryz.func191 rfl rfl rfl rfl rfl (by simp) (by simp) ?_
  simp only [go_sem, Nat.reduceAdd, Nat.reduceSub, Nat.reduceMul, Nat.reducePow, Nat.reduceEqDiff, Nat.reduceLT, Nat.reduceLeDiff, Nat.reduceBEq, Nat.reduceBNe, Int.reduceToNat, Int.reduceLT, Int.reduceLE, Int.reduceEq, Int.reduceBNe, Int.reduceBEq, Int.reduceAdd, Int.reduceSub, Int.reduceMul, Int.reduceNeg, ↓reduceIte, bne, beq_self_eq_true, Bool.not_true]
theorem cmpCompare_spec (x y : Int) : Abs.Spec Tryz.prog 187 [] [.int .i64 x, .int .i64 y] [] (.int .i64 (cmpI x y)) := by
  have h1 := isNaN_spec x
  have h2 := isNaN_spec y
  refine Abs.Spec.go (n := 20) (np := 2) (rs := [.tmp 4]) mixed Tryz.func187 rfl rfl rfl rfl rfl (by simp) (by simp) ?_
  simp only [go_sem, Nat.reduceAdd, Nat.reduceSub, Nat.reduceMul, Nat.reducePow, Nat.reduceEqDiff, Nat.reduceLT, Nat.reduceLeDiff, Nat.reduceBEq, Nat.reduceBNe, Int.reduceToNat, Int.reduceLT, Int.reduceLE, Int.reduceEq, Int.reduceBNe, Int.reduceBEq, Int.reduceAdd, Int.reduceSub, Int.reduceMul, Int.reduceNeg, ↓reduceIte]
  refine CallN.pure h1 ?_
  simp only [go_sem, Nat.reduceAdd, Nat.reduceSub, Nat.reduceMul, Nat.reducePow, Nat.reduceEqDiff, Nat.reduceLT, Nat.reduceLeDiff, Nat.reduceBEq, Nat.reduceBNe, Int.reduceToNat, Int.reduceLT, Int.reduceLE, Int.reduceEq, Int.reduceBNe, Int.reduceBEq, Int.reduceAdd, Int.reduceSub, Int.reduceMul, Int.reduceNeg, ↓reduceIte]
  refine CallN.pure h2 ?_
  simp only [cmpI]
  rcases Int.lt_or_le x y with h | h
  · have d : decide (x < y) = true := decide_eq_true h
    simp only [go_sem, Nat.reduceAdd, Nat.reduceSub, Nat.reduceMul, Nat.reducePow, Nat.reduceEqDiff, Nat.reduceLT, Nat.reduceLeDiff, Nat.reduceBEq, Nat.reduceBNe, Int.reduceToNat, Int.reduceLT, Int.reduceLE, Int.reduceEq, Int.reduceBNe, Int.reduceBEq, Int.reduceAdd, Int.reduceSub, Int.reduceMul, Int.reduceNeg, ↓reduceIte, d, if_pos h]
  · have d : decide (x < y) = false := decide_eq_false (by omega)
    rw [if_neg (by omega)]
    rcases Int.lt_or_le y x with h3 | h3
    · have d2 : decide (y < x) = true := decide_eq_true h3
      simp only [go_sem, Nat.reduceAdd, Nat.reduceSub, Nat.reduceMul, Nat.reducePow, Nat.reduceEqDiff, Nat.reduceLT, Nat.reduceLeDiff, Nat.reduceBEq, Nat.reduceBNe, Int.reduceToNat, Int.reduceLT, Int.reduceLE, Int.reduceEq, Int.reduceBNe, Int.reduceBEq, Int.reduceAdd, Int.reduceSub, Int.reduceMul, Int.reduceNeg, ↓reduceIte, d, d2, if_pos h3]
    · have d2 : decide (y < x) = false := decide_eq_false (by omega)
      simp only [go_sem, Nat.reduceAdd, Nat.reduceSub, Nat.reduceMul, Nat.reducePow, Nat.reduceEqDiff, Nat.reduceLT, Nat.reduceLeDiff, Nat.reduceBEq, Nat.reduceBNe, Int.reduceToNat, Int.reduceLT, Int.reduceLE, Int.reduceEq, Int.reduceBNe, Int.reduceBEq, Int.reduceAdd, Int.reduceSub, Int.reduceMul, Int.reduceNeg, ↓reduceIte, d, d2, if_neg (show ¬ y < x by omega)]
def orI : List Int → Int
  | [] => 0
  | x :: xs => if x = 0 then orI xs else x
theorem cmpOrL_spec (xs : List Int) (hn : xs.length < 2 ^ 60) : Abs.Spec Tryz.prog 186 [] [.sl 1 (ints xs)] [] (.int .i64 (orI xs)) := by
  refine Abs.Spec.go (n := 18) (np := 1) (rs := [.tmp 2]) mixed Tryz.func186 rfl rfl rfl rfl rfl (by simp) (by simp) ?_
  simp only [go_sem, Nat.reduceAdd, Nat.reduceSub, Nat.reduceMul, Nat.reducePow, Nat.reduceEqDiff, Nat.reduceLT, Nat.reduceLeDiff, Nat.reduceBEq, Nat.reduceBNe, Int.reduceToNat, Int.reduceLT, Int.reduceLE, Int.reduceEq, Int.reduceBNe, Int.reduceBEq, Int.reduceAdd, Int.reduceSub, Int.reduceMul, Int.reduceNeg, ↓reduceIte, ints_len]
  refine LoopK.walk (S := Unit) xs.length [3, 6, 7] [128] (fun i _ => [(8, .int .i64 i)]) (fun i _ => []) (fun i _ => orI (xs.drop i) = orI xs) () (by simp only [go_sem, Nat.reduceAdd, Nat.reduceSub, Nat.reduceMul, Nat.reducePow, Nat.reduceEqDiff, Nat.reduceLT, Nat.reduceLeDiff, Nat.reduceBEq, Nat.reduceBNe, Int.reduceToNat, Int.reduceLT, Int.reduceLE, Int.reduceEq, Int.reduceBNe, Int.reduceBEq, Int.reduceAdd, Int.reduceSub, Int.reduceMul, Int.reduceNeg, ↓reduceIte] <;> exact rfl) (by simp only [go_sem, Nat.reduceAdd, Nat.reduceSub, Nat.reduceMul, Nat.reducePow, Nat.reduceEqDiff, Nat.reduceLT, Nat.reduceLeDiff, Nat.reduceBEq, Nat.reduceBNe, Int.reduceToNat, Int.reduceLT, Int.reduceLE, Int.reduceEq, Int.reduceBNe, Int.reduceBEq, Int.reduceAdd, Int.reduceSub, Int.reduceMul, Int.reduceNeg, ↓reduceIte] <;> exact rfl) (by simp) ?_ ?_ ?_
  · simp only [go_sem, Nat.reduceAdd, Nat.reduceSub, Nat.reduceMul, Nat.reducePow, Nat.reduceEqDiff, Nat.reduceLT, Nat.reduceLeDiff, Nat.reduceBEq, Nat.reduceBNe, Int.reduceToNat, Int.reduceLT, Int.reduceLE, Int.reduceEq, Int.reduceBNe, Int.reduceBEq, Int.reduceAdd, Int.reduceSub, Int.reduceMul, Int.reduceNeg, ↓reduceIte] <;> simp
  · intro i _ hi hdi hw hI
    have hat := ints_at xs hi
    obtain ⟨x, hx⟩ : ∃ x, x = xs[i] := ⟨_, rfl⟩
    have hd : orI (xs.drop i) = if x = 0 then orI (xs.drop (i + 1)) else x := by rw [drop_at hi, orI, hx]
    rw [hd] at hI
    rw [← hx] at hat
    simp only [go_sem, Nat.reduceAdd, Nat.reduceSub, Nat.reduceMul, Nat.reducePow, Nat.reduceEqDiff, Nat.reduceLT, Nat.reduceLeDiff, Nat.reduceBEq, Nat.reduceBNe, Int.reduceToNat, Int.reduceLT, Int.reduceLE, Int.reduceEq, Int.reduceBNe, Int.reduceBEq, Int.reduceAdd, Int.reduceSub, Int.reduceMul, Int.reduceNeg, ↓reduceIte, ints_len, hdi, hat]
    (repeat' (with_reducible first | refine And.intro ?_ ?_ | exact DrawN.mk (by kernel_rfl) | exact OkN.mk (by kernel_rfl))) <;> try omega
    cases hb : x == 0
    · have h0 : x ≠ 0 := by simpa using hb
      rw [if_neg h0] at hI
      rw [hI] at hb
      simp only [go_sem, Nat.reduceAdd, Nat.reduceSub, Nat.reduceMul, Nat.reducePow, Nat.reduceEqDiff, Nat.reduceLT, Nat.reduceLeDiff, Nat.reduceBEq, Nat.reduceBNe, Int.reduceToNat, Int.reduceLT, Int.reduceLE, Int.reduceEq, Int.reduceBNe, Int.reduceBEq, Int.reduceAdd, Int.reduceSub, Int.reduceMul, Int.reduceNeg, ↓reduceIte, bne, hb, hI]
    · have h0 : x = 0 := by simpa using hb
      rw [if_pos h0] at hI
      simp only [go_sem, Nat.reduceAdd, Nat.reduceSub, Nat.reduceMul, Nat.reducePow, Nat.reduceEqDiff, Nat.reduceLT, Nat.reduceLeDiff, Nat.reduceBEq, Nat.reduceBNe, Int.reduceToNat, Int.reduceLT, Int.reduceLE, Int.reduceEq, Int.reduceBNe, Int.reduceBEq, Int.reduceAdd, Int.reduceSub, Int.reduceMul, Int.reduceNeg, ↓reduceIte, bne, hb, hw]
      refine RoundK.step () hi hI ?_
      simp only [go_sem, Nat.reduceAdd, Nat.reduceSub, Nat.reduceMul, Nat.reducePow, Nat.reduceEqDiff, Nat.reduceLT, Nat.reduceLeDiff, Nat.reduceBEq, Nat.reduceBNe, Int.reduceToNat, Int.reduceLT, Int.reduceLE, Int.reduceEq, Int.reduceBNe, Int.reduceBEq, Int.reduceAdd, Int.reduceSub, Int.reduceMul, Int.reduceNeg, ↓reduceIte]
  · intro _ hdx hI
    rw [List.drop_length, orI] at hI
    simp only [go_sem, Nat.reduceAdd, Nat.reduceSub, Nat.reduceMul, Nat.reducePow, Nat.reduceEqDiff, Nat.reduceLT, Nat.reduceLeDiff, Nat.reduceBEq, Nat.reduceBNe, Int.reduceToNat, Int.reduceLT, Int.reduceLE, Int.reduceEq, Int.reduceBNe, Int.reduceBEq, Int.reduceAdd, Int.reduceSub, Int.reduceMul, Int.reduceNeg, ↓reduceIte, ints_len, hdx, ← hI]
theorem cmpOr_spec (x y : Int) : Abs.Spec Tryz.prog 186 [] [.sl 1 [[.int .i64 x], [.int .i64 y]]] [] (.int .i64 (if x = 0 then y else x)) := by
  have h := cmpOrL_spec [x, y] (by simp)
  have e : orI [x, y] = if x = 0 then y else x := by
    simp only [orI]
    split <;> try rfl
    split <;> rename_i h <;> simp_all
  rw [e] at h
  exact h
def callLt (a b : CallV) : Bool := decide (a.who < b.who) || (a.who == b.who && decide (a.cur < b.cur))
def callC (a : CallV) (w c : Int) : Int := if cmpI a.who w = 0 then cmpI a.cur c else cmpI a.who w
theorem callC_lt (a b : CallV) : decide (0 ≤ callC a b.who b.cur) = !callLt a b := by
  rw [Bool.eq_iff_iff, decide_eq_true_iff]
  simp only [callC, cmpI, callLt, Bool.not_eq_true', Bool.or_eq_false_iff, decide_eq_false_iff_not, Bool.and_eq_false_iff, beq_eq_false_iff_ne]
  repeat' split
  all_goals omega
theorem callCompare_spec (a : CallV) (w c : Int) : Abs.Spec Tryz.prog 174 [] [.agg a.cells, .int .i64 w, .int .i64 c] [] (.int .i64 (callC a w c)) := by
  have h1 := cmpCompare_spec a.who w
  have h2 := cmpCompare_spec a.cur c
  have h3 := cmpOr_spec (cmpI a.who w) (cmpI a.cur c)
  simp only [CallV.cells]
  refine Abs.Spec.go (n := 19) (np := 3) (rs := [.tmp 6]) mixed Tryz.func174 rfl rfl rfl rfl rfl (by simp) (by simp) ?_
  simp only [go_sem, Nat.reduceAdd, Nat.reduceSub, Nat.reduceMul, Nat.reducePow, Nat.reduceEqDiff, Nat.reduceLT, Nat.reduceLeDiff, Nat.reduceBEq, Nat.reduceBNe, Int.reduceToNat, Int.reduceLT, Int.reduceLE, Int.reduceEq, Int.reduceBNe, Int.reduceBEq, Int.reduceAdd, Int.reduceSub, Int.reduceMul, Int.reduceNeg, ↓reduceIte]
  (repeat' (with_reducible first | refine And.intro ?_ ?_ | exact DrawN.mk (by kernel_rfl) | exact OkN.mk (by kernel_rfl))) <;> try omega
  refine CallN.pure h1 ?_
  simp only [go_sem, Nat.reduceAdd, Nat.reduceSub, Nat.reduceMul, Nat.reducePow, Nat.reduceEqDiff, Nat.reduceLT, Nat.reduceLeDiff, Nat.reduceBEq, Nat.reduceBNe, Int.reduceToNat, Int.reduceLT, Int.reduceLE, Int.reduceEq, Int.reduceBNe, Int.reduceBEq, Int.reduceAdd, Int.reduceSub, Int.reduceMul, Int.reduceNeg, ↓reduceIte]
  (repeat' (with_reducible first | refine And.intro ?_ ?_ | exact DrawN.mk (by kernel_rfl) | exact OkN.mk (by kernel_rfl))) <;> try omega
  refine CallN.pure h2 ?_
  simp only [go_sem, Nat.reduceAdd, Nat.reduceSub, Nat.reduceMul, Nat.reducePow, Nat.reduceEqDiff, Nat.reduceLT, Nat.reduceLeDiff, Nat.reduceBEq, Nat.reduceBNe, Int.reduceToNat, Int.reduceLT, Int.reduceLE, Int.reduceEq, Int.reduceBNe, Int.reduceBEq, Int.reduceAdd, Int.reduceSub, Int.reduceMul, Int.reduceNeg, ↓reduceIte]
  (repeat' (with_reducible first | refine And.intro ?_ ?_ | exact DrawN.mk (by kernel_rfl) | exact OkN.mk (by kernel_rfl))) <;> try omega
  refine CallN.gen [] [] true (by simp) ?_
  simp only [go_sem, Nat.reduceAdd, Nat.reduceSub, Nat.reduceMul, Nat.reducePow, Nat.reduceEqDiff, Nat.reduceLT, Nat.reduceLeDiff, Nat.reduceBEq, Nat.reduceBNe, Int.reduceToNat, Int.reduceLT, Int.reduceLE, Int.reduceEq, Int.reduceBNe, Int.reduceBEq, Int.reduceAdd, Int.reduceSub, Int.reduceMul, Int.reduceNeg, ↓reduceIte]
  refine CallG.intro h3 ?_
  simp only [go_sem, Nat.reduceAdd, Nat.reduceSub, Nat.reduceMul, Nat.reducePow, Nat.reduceEqDiff, Nat.reduceLT, Nat.reduceLeDiff, Nat.reduceBEq, Nat.reduceBNe, Int.reduceToNat, Int.reduceLT, Int.reduceLE, Int.reduceEq, Int.reduceBNe, Int.reduceBEq, Int.reduceAdd, Int.reduceSub, Int.reduceMul, Int.reduceNeg, ↓reduceIte, callC]
def callOk (c : CallV) : Bool := (within c.who 1 16 && within c.cur 0 2) && (within c.amt 1 4611686018427387904 && within c.till 0 1099511627776)
theorem callRight_spec (w c : Int) : Abs.Spec Tryz.prog 173 [] [.int .i64 w, .int .i64 c] [] (.bool (within w 1 16 && within c 0 2)) := by
  refine Abs.Spec.go (n := 19) (np := 2) (rs := [.tmp 4]) mixed Tryz.func173 rfl rfl rfl rfl rfl (by simp) (by simp) ?_
  simp only [go_sem, Nat.reduceAdd, Nat.reduceSub, Nat.reduceMul, Nat.reducePow, Nat.reduceEqDiff, Nat.reduceLT, Nat.reduceLeDiff, Nat.reduceBEq, Nat.reduceBNe, Int.reduceToNat, Int.reduceLT, Int.reduceLE, Int.reduceEq, Int.reduceBNe, Int.reduceBEq, Int.reduceAdd, Int.reduceSub, Int.reduceMul, Int.reduceNeg, ↓reduceIte]
  repeat' (with_reducible first
      | refine And.intro ?_ ?_
      | exact DrawN.mk (by kernel_rfl)
      | exact OkN.mk (by kernel_rfl)
      | refine CallN.pure (by assumption) ?_
      | refine GuardK.splitDN (fun h => ?_) (fun h => ?_)
      | refine GuardK.splitD (fun h => ?_) (fun h => ?_)
      | refine CondE.splitDN (fun h => ?_) (fun h => ?_)
      | refine CondE.splitD (fun h => ?_) (fun h => ?_)
      | refine GuardK.splitN (fun h => ?_) (fun h => ?_)
      | refine GuardK.split (fun h => ?_) (fun h => ?_)
      | refine CondE.splitN (fun h => ?_) (fun h => ?_)
      | refine CondE.split (fun h => ?_) (fun h => ?_)
      | refine WeakK.id ?_
      | refine RoundK.next (by omega) ?_ ?_
      | exact trivial
      | simp only [*, go_sem, Nat.reduceAdd, Nat.reduceSub, Nat.reduceMul, Nat.reducePow, Nat.reduceEqDiff, Nat.reduceLT, Nat.reduceLeDiff, Nat.reduceBEq, Nat.reduceBNe, Int.reduceToNat, Int.reduceLT, Int.reduceLE, Int.reduceEq, Int.reduceBNe, Int.reduceBEq, Int.reduceAdd, Int.reduceSub, Int.reduceMul, Int.reduceNeg, ↓reduceIte])
  all_goals (simp_all [within]; try omega)
set_option maxHeartbeats 1000000 in
set_option maxRecDepth 8000 in
theorem callCheck_spec (cs : List CallV) (hl : cs.length < 2 ^ 30) : Abs.Spec Tryz.prog 148 [] [.sl 4 (cs.map CallV.cells)] [] (.int .i64 (if chB callOk callLt cs then 0 else 14)) := by
  refine Abs.Spec.go (n := 64) (np := 1) (rs := [.tmp 2]) mixed Tryz.func148 rfl rfl rfl rfl rfl (by simp) (by simp) ?_
  simp only [go_sem, Nat.reduceAdd, Nat.reduceSub, Nat.reduceMul, Nat.reducePow, Nat.reduceEqDiff, Nat.reduceLT, Nat.reduceLeDiff, Nat.reduceBEq, Nat.reduceBNe, Int.reduceToNat, Int.reduceLT, Int.reduceLE, Int.reduceEq, Int.reduceBNe, Int.reduceBEq, Int.reduceAdd, Int.reduceSub, Int.reduceMul, Int.reduceNeg, ↓reduceIte, List.length_map]
  refine LoopK.count cs.length [0, 5, 6] [112] (fun i => [(7, .int .i64 i)]) (fun i => []) (fun i => ∀ j < i, chAt callOk callLt cs j = true) (by simp only [go_sem, Nat.reduceAdd, Nat.reduceSub, Nat.reduceMul, Nat.reducePow, Nat.reduceEqDiff, Nat.reduceLT, Nat.reduceLeDiff, Nat.reduceBEq, Nat.reduceBNe, Int.reduceToNat, Int.reduceLT, Int.reduceLE, Int.reduceEq, Int.reduceBNe, Int.reduceBEq, Int.reduceAdd, Int.reduceSub, Int.reduceMul, Int.reduceNeg, ↓reduceIte] <;> exact rfl) (by simp only [go_sem, Nat.reduceAdd, Nat.reduceSub, Nat.reduceMul, Nat.reducePow, Nat.reduceEqDiff, Nat.reduceLT, Nat.reduceLeDiff, Nat.reduceBEq, Nat.reduceBNe, Int.reduceToNat, Int.reduceLT, Int.reduceLE, Int.reduceEq, Int.reduceBNe, Int.reduceBEq, Int.reduceAdd, Int.reduceSub, Int.reduceMul, Int.reduceNeg, ↓reduceIte] <;> exact rfl) (by simp) ?_ ?_
  · simp only [go_sem, Nat.reduceAdd, Nat.reduceSub, Nat.reduceMul, Nat.reducePow, Nat.reduceEqDiff, Nat.reduceLT, Nat.reduceLeDiff, Nat.reduceBEq, Nat.reduceBNe, Int.reduceToNat, Int.reduceLT, Int.reduceLE, Int.reduceEq, Int.reduceBNe, Int.reduceBEq, Int.reduceAdd, Int.reduceSub, Int.reduceMul, Int.reduceNeg, ↓reduceIte] <;> simp
  intro i hi hI
  simp only [go_sem, Nat.reduceAdd, Nat.reduceSub, Nat.reduceMul, Nat.reducePow, Nat.reduceEqDiff, Nat.reduceLT, Nat.reduceLeDiff, Nat.reduceBEq, Nat.reduceBNe, Int.reduceToNat, Int.reduceLT, Int.reduceLE, Int.reduceEq, Int.reduceBNe, Int.reduceBEq, Int.reduceAdd, Int.reduceSub, Int.reduceMul, Int.reduceNeg, ↓reduceIte, List.length_map]
  refine CondE.splitD (fun h => ?_) (fun h => ?_)
  · have hi' : i < cs.length := by omega
    have hw : IntKind.wrap .i64 ((i : Int) + 1) = ((i + 1 : Nat) : Int) := by rw [wr64 (by omega) (by omega)]; omega
    have hm := map_at (c := CallV.cells) cs hi'
    have e0 := ch_next (i := i) hI
    have e1 : chAt callOk callLt cs i = false → chB callOk callLt cs = false := chB_no hi'
    have h1 := callRight_spec cs[i].who cs[i].cur
    have h2 : Abs.Spec Tryz.prog 90 [] [.sl 1 [[.int .i64 cs[i].amt]]] [] (.bool (right [cs[i].amt])) := right_spec [cs[i].amt] (by simp)
    rw [right_one] at h2
    have hamt : (inR cs[i].amt && !decide (cs[i].amt < 1)) = within cs[i].amt 1 4611686018427387904 := by rw [Bool.eq_iff_iff]; simp [inR, within]; omega
    have htl : (!decide (cs[i].till < 0) && !decide (1099511627776 < cs[i].till)) = within cs[i].till 0 1099511627776 := by rw [Bool.eq_iff_iff]; simp [within]
    simp only [CallV.cells] at hm
    rcases Nat.eq_zero_or_pos i with rfl | hpos
    · have hk := chAt_zero (ok := callOk) (lt := callLt) hi'
      simp only [callOk, ← hamt, ← htl] at hk
      simp only [go_sem, Nat.reduceAdd, Nat.reduceSub, Nat.reduceMul, Nat.reducePow, Nat.reduceEqDiff, Nat.reduceLT, Nat.reduceLeDiff, Nat.reduceBEq, Nat.reduceBNe, Int.reduceToNat, Int.reduceLT, Int.reduceLE, Int.reduceEq, Int.reduceBNe, Int.reduceBEq, Int.reduceAdd, Int.reduceSub, Int.reduceMul, Int.reduceNeg, ↓reduceIte, hm, List.length_map]
      repeat' (with_reducible first
          | refine And.intro ?_ ?_
          | exact DrawN.mk (by kernel_rfl)
          | exact OkN.mk (by kernel_rfl)
          | refine CallN.pure (by assumption) ?_
          | refine CallN.pure (h1) ?_
          | (refine CallN.gen [] [] true (by simp) ?_; simp only [go_sem, Nat.reduceAdd, Nat.reduceSub, Nat.reduceMul, Nat.reducePow, Nat.reduceEqDiff, Nat.reduceLT, Nat.reduceLeDiff, Nat.reduceBEq, Nat.reduceBNe, Int.reduceToNat, Int.reduceLT, Int.reduceLE, Int.reduceEq, Int.reduceBNe, Int.reduceBEq, Int.reduceAdd, Int.reduceSub, Int.reduceMul, Int.reduceNeg, ↓reduceIte]; refine CallG.intro h2 ?_)
          | refine GuardK.splitDN (fun h => ?_) (fun h => ?_)
          | refine GuardK.splitD (fun h => ?_) (fun h => ?_)
          | refine CondE.splitDN (fun h => ?_) (fun h => ?_)
          | refine CondE.splitD (fun h => ?_) (fun h => ?_)
          | refine GuardK.splitN (fun h => ?_) (fun h => ?_)
          | refine GuardK.split (fun h => ?_) (fun h => ?_)
          | refine CondE.splitN (fun h => ?_) (fun h => ?_)
          | refine CondE.split (fun h => ?_) (fun h => ?_)
          | refine WeakK.id ?_
          | refine RoundK.next (by omega) ?_ ?_
          | exact trivial
          | simp only [*, go_sem, Nat.reduceAdd, Nat.reduceSub, Nat.reduceMul, Nat.reducePow, Nat.reduceEqDiff, Nat.reduceLT, Nat.reduceLeDiff, Nat.reduceBEq, Nat.reduceBNe, Int.reduceToNat, Int.reduceLT, Int.reduceLE, Int.reduceEq, Int.reduceBNe, Int.reduceBEq, Int.reduceAdd, Int.reduceSub, Int.reduceMul, Int.reduceNeg, ↓reduceIte])
      all_goals first
        | omega
        | rfl
        | (refine e0 ?_; clear e0 e1; rw [hk]; clear hk; simp_all; done)
        | (refine e0 ?_; clear e0 e1; rw [hk]; clear hk; simp_all; omega)
        | (rw [e1 ?_]; clear e0 e1; rw [hk]; clear hk; simp_all; done)
        | (rw [e1 ?_]; clear e0 e1; rw [hk]; clear hk; simp_all; omega)
        | (rw [e1 ?_]
           · rfl
           · clear e0 e1; rw [hk]; clear hk; simp_all; done)
        | (rw [e1 ?_]
           · rfl
           · clear e0 e1; rw [hk]; clear hk; simp_all; omega)
    · obtain ⟨j, rfl⟩ : ∃ j, i = j + 1 := ⟨i - 1, by omega⟩
      have hj : j < cs.length := by omega
      have hw1 : IntKind.wrap .i64 (((j + 1 : Nat) : Int) - 1) = (j : Int) := by rw [wr64 (by omega) (by omega)]; omega
      have hk := chAt_succ (ok := callOk) (lt := callLt) hi'
      simp only [callOk, ← hamt, ← htl] at hk
      have hmj := map_at (c := CallV.cells) cs hj
      have h9 := callCompare_spec cs[j] cs[j + 1].who cs[j + 1].cur
      have hlt := callC_lt cs[j] cs[j + 1]
      rw [hlt.symm.trans (by rfl : decide (0 ≤ callC cs[j] cs[j + 1].who cs[j + 1].cur) = decide (0 ≤ callC cs[j] cs[j + 1].who cs[j + 1].cur))] at hlt
      simp only [CallV.cells] at h9
      have hk2 : callLt cs[j] cs[j + 1] = !decide (0 ≤ callC cs[j] cs[j + 1].who cs[j + 1].cur) := by rw [callC_lt, Bool.not_not]
      rw [hk2] at hk
      clear hlt hk2
      simp only [CallV.cells] at hmj
      simp only [go_sem, Nat.reduceAdd, Nat.reduceSub, Nat.reduceMul, Nat.reducePow, Nat.reduceEqDiff, Nat.reduceLT, Nat.reduceLeDiff, Nat.reduceBEq, Nat.reduceBNe, Int.reduceToNat, Int.reduceLT, Int.reduceLE, Int.reduceEq, Int.reduceBNe, Int.reduceBEq, Int.reduceAdd, Int.reduceSub, Int.reduceMul, Int.reduceNeg, ↓reduceIte, hm, List.length_map]
      repeat' (with_reducible first
          | refine And.intro ?_ ?_
          | exact DrawN.mk (by kernel_rfl)
          | exact OkN.mk (by kernel_rfl)
          | refine CallN.pure (by assumption) ?_
          | refine CallN.pure (h1) ?_
          | (refine CallN.gen [] [] true (by simp) ?_; simp only [go_sem, Nat.reduceAdd, Nat.reduceSub, Nat.reduceMul, Nat.reducePow, Nat.reduceEqDiff, Nat.reduceLT, Nat.reduceLeDiff, Nat.reduceBEq, Nat.reduceBNe, Int.reduceToNat, Int.reduceLT, Int.reduceLE, Int.reduceEq, Int.reduceBNe, Int.reduceBEq, Int.reduceAdd, Int.reduceSub, Int.reduceMul, Int.reduceNeg, ↓reduceIte]; refine CallG.intro h2 ?_)
          | refine CallN.pure (h9) ?_
          | refine GuardK.splitDN (fun h => ?_) (fun h => ?_)
          | refine GuardK.splitD (fun h => ?_) (fun h => ?_)
          | refine CondE.splitDN (fun h => ?_) (fun h => ?_)
          | refine CondE.splitD (fun h => ?_) (fun h => ?_)
          | refine GuardK.splitN (fun h => ?_) (fun h => ?_)
          | refine GuardK.split (fun h => ?_) (fun h => ?_)
          | refine CondE.splitN (fun h => ?_) (fun h => ?_)
          | refine CondE.split (fun h => ?_) (fun h => ?_)
          | refine WeakK.id ?_
          | refine RoundK.next (by omega) ?_ ?_
          | exact trivial
          | simp only [*, go_sem, Nat.reduceAdd, Nat.reduceSub, Nat.reduceMul, Nat.reducePow, Nat.reduceEqDiff, Nat.reduceLT, Nat.reduceLeDiff, Nat.reduceBEq, Nat.reduceBNe, Int.reduceToNat, Int.reduceLT, Int.reduceLE, Int.reduceEq, Int.reduceBNe, Int.reduceBEq, Int.reduceAdd, Int.reduceSub, Int.reduceMul, Int.reduceNeg, ↓reduceIte, hmj, List.length_map])
      all_goals first
        | omega
        | rfl
        | (refine e0 ?_; clear e0 e1; rw [hk]; clear hk; simp_all; done)
        | (refine e0 ?_; clear e0 e1; rw [hk]; clear hk; simp_all; omega)
        | (rw [e1 ?_]; clear e0 e1; rw [hk]; clear hk; simp_all; done)
        | (rw [e1 ?_]; clear e0 e1; rw [hk]; clear hk; simp_all; omega)
        | (rw [e1 ?_]
           · rfl
           · clear e0 e1; rw [hk]; clear hk; simp_all; done)
        | (rw [e1 ?_]
           · rfl
           · clear e0 e1; rw [hk]; clear hk; simp_all; omega)
  have hCH := chB_yes (fun j (hj : j < cs.length) => hI j (by omega))
  clear hI
  simp only [go_sem, Nat.reduceAdd, Nat.reduceSub, Nat.reduceMul, Nat.reducePow, Nat.reduceEqDiff, Nat.reduceLT, Nat.reduceLeDiff, Nat.reduceBEq, Nat.reduceBNe, Int.reduceToNat, Int.reduceLT, Int.reduceLE, Int.reduceEq, Int.reduceBNe, Int.reduceBEq, Int.reduceAdd, Int.reduceSub, Int.reduceMul, Int.reduceNeg, ↓reduceIte, hCH]
def clockB (s : StateV) : Bool := within s.now 0 1099511627776 && (within s.day 0 1099511627776 && within s.phase 0 2)
theorem rightClock_spec (a b c : Int) : Abs.Spec Tryz.prog 147 [] [.agg [.int .i64 a, .int .i64 b, .int .i64 c]] [] (.bool (within a 0 1099511627776 && (within b 0 1099511627776 && within c 0 2))) := by
  refine Abs.Spec.go (n := 31) (np := 1) (rs := [.tmp 2]) mixed Tryz.func147 rfl rfl rfl rfl rfl (by simp) (by simp) ?_
  simp only [go_sem, Nat.reduceAdd, Nat.reduceSub, Nat.reduceMul, Nat.reducePow, Nat.reduceEqDiff, Nat.reduceLT, Nat.reduceLeDiff, Nat.reduceBEq, Nat.reduceBNe, Int.reduceToNat, Int.reduceLT, Int.reduceLE, Int.reduceEq, Int.reduceBNe, Int.reduceBEq, Int.reduceAdd, Int.reduceSub, Int.reduceMul, Int.reduceNeg, ↓reduceIte]
  repeat' (with_reducible first
      | refine And.intro ?_ ?_
      | exact DrawN.mk (by kernel_rfl)
      | exact OkN.mk (by kernel_rfl)
      | refine CallN.pure (by assumption) ?_
      | refine GuardK.splitDN (fun h => ?_) (fun h => ?_)
      | refine GuardK.splitD (fun h => ?_) (fun h => ?_)
      | refine CondE.splitDN (fun h => ?_) (fun h => ?_)
      | refine CondE.splitD (fun h => ?_) (fun h => ?_)
      | refine GuardK.splitN (fun h => ?_) (fun h => ?_)
      | refine GuardK.split (fun h => ?_) (fun h => ?_)
      | refine CondE.splitN (fun h => ?_) (fun h => ?_)
      | refine CondE.split (fun h => ?_) (fun h => ?_)
      | refine WeakK.id ?_
      | refine RoundK.next (by omega) ?_ ?_
      | exact trivial
      | simp only [*, go_sem, Nat.reduceAdd, Nat.reduceSub, Nat.reduceMul, Nat.reducePow, Nat.reduceEqDiff, Nat.reduceLT, Nat.reduceLeDiff, Nat.reduceBEq, Nat.reduceBNe, Int.reduceToNat, Int.reduceLT, Int.reduceLE, Int.reduceEq, Int.reduceBNe, Int.reduceBEq, Int.reduceAdd, Int.reduceSub, Int.reduceMul, Int.reduceNeg, ↓reduceIte])
  all_goals (simp_all [within]; try omega)
def bidOk (b : BidV) : Bool := keyB b.who b.inst && (within b.src 1 16 && (within b.qty 1 1048576 && within b.price 1 1073741824))
set_option maxRecDepth 8000 in
theorem rightBid_spec (b : BidV) : Abs.Spec Tryz.prog 150 [] [.agg b.cells] [] (.bool (bidOk b)) := by
  simp only [BidV.cells]
  refine Abs.Spec.go (n := 55) (np := 1) (rs := [.tmp 2]) mixed Tryz.func150 rfl rfl rfl rfl rfl (by simp) (by simp) ?_
  simp only [go_sem, Nat.reduceAdd, Nat.reduceSub, Nat.reduceMul, Nat.reducePow, Nat.reduceEqDiff, Nat.reduceLT, Nat.reduceLeDiff, Nat.reduceBEq, Nat.reduceBNe, Int.reduceToNat, Int.reduceLT, Int.reduceLE, Int.reduceEq, Int.reduceBNe, Int.reduceBEq, Int.reduceAdd, Int.reduceSub, Int.reduceMul, Int.reduceNeg, ↓reduceIte]
  repeat' (with_reducible first
      | refine And.intro ?_ ?_
      | exact DrawN.mk (by kernel_rfl)
      | exact OkN.mk (by kernel_rfl)
      | refine CallN.pure (by assumption) ?_
      | refine GuardK.splitDN (fun h => ?_) (fun h => ?_)
      | refine GuardK.splitD (fun h => ?_) (fun h => ?_)
      | refine CondE.splitDN (fun h => ?_) (fun h => ?_)
      | refine CondE.splitD (fun h => ?_) (fun h => ?_)
      | refine GuardK.splitN (fun h => ?_) (fun h => ?_)
      | refine GuardK.split (fun h => ?_) (fun h => ?_)
      | refine CondE.splitN (fun h => ?_) (fun h => ?_)
      | refine CondE.split (fun h => ?_) (fun h => ?_)
      | refine WeakK.id ?_
      | refine RoundK.next (by omega) ?_ ?_
      | exact trivial
      | simp only [*, go_sem, Nat.reduceAdd, Nat.reduceSub, Nat.reduceMul, Nat.reducePow, Nat.reduceEqDiff, Nat.reduceLT, Nat.reduceLeDiff, Nat.reduceBEq, Nat.reduceBNe, Int.reduceToNat, Int.reduceLT, Int.reduceLE, Int.reduceEq, Int.reduceBNe, Int.reduceBEq, Int.reduceAdd, Int.reduceSub, Int.reduceMul, Int.reduceNeg, ↓reduceIte])
  all_goals (simp_all [bidOk, keyB, within]; try omega)
def seatOk (x : SeatV) : Bool := within x.client 1 8 && within x.seq 1 1099511627776
def seatLt (a b : SeatV) : Bool := decide (a.client < b.client)
def rightS (s : StateV) : Bool := clockB s && (s.roll.okB && (s.book.okB && (s.led.okB && (checkB s.ps && (chB callOk callLt s.calls && (knownB s && (!decide (32 < (s.bids.length : Int)) && (s.bids.all bidOk && chB seatOk seatLt s.seats))))))))
set_option maxHeartbeats 1000000 in
set_option maxRecDepth 8000 in
theorem closeCheck_spec (s : StateV) (hs : s.small) : Abs.Spec Tryz.prog 72 [] [.agg s.cells] [] (.int .i64 (if rightS s then 0 else 14)) := by
  have hfit : s.fit := ⟨hs.roll.small, hs.book, hs.led, hs.ps⟩
  have c1 := rightClock_spec s.now s.day s.phase
  have c2 := rollCheck_spec s.roll hs.roll.small
  have c3 := bookCheck_spec s.book hs.book
  have c4 := ledCheck_spec s.led hs.led
  have c5 := plg_check s.ps (by have := hs.ps; omega)
  have c6 := callCheck_spec s.calls hs.calls
  have c7 := known_spec s hfit hs.calls
  have hbl := hs.bids
  have hsl := hs.seats
  clear hfit
  simp only [RollV.cells, BookV.cells, LedV.cells] at c2 c3 c4
  simp only [StateV.cells] at c7 ⊢
  refine Abs.Spec.go (n := 106) (np := 1) (rs := [.tmp 2]) mixed Tryz.func72 rfl rfl rfl rfl rfl (by simp) (by simp) ?_
  simp only [go_sem, Nat.reduceAdd, Nat.reduceSub, Nat.reduceMul, Nat.reducePow, Nat.reduceEqDiff, Nat.reduceLT, Nat.reduceLeDiff, Nat.reduceBEq, Nat.reduceBNe, Int.reduceToNat, Int.reduceLT, Int.reduceLE, Int.reduceEq, Int.reduceBNe, Int.reduceBEq, Int.reduceAdd, Int.reduceSub, Int.reduceMul, Int.reduceNeg, ↓reduceIte]
  refine CallN.pure c1 ?_
  cases b1 : clockB s
  · have e : rightS s = false := by simp [rightS, b1]
    simp only [clockB] at b1
    simp only [go_sem, Nat.reduceAdd, Nat.reduceSub, Nat.reduceMul, Nat.reducePow, Nat.reduceEqDiff, Nat.reduceLT, Nat.reduceLeDiff, Nat.reduceBEq, Nat.reduceBNe, Int.reduceToNat, Int.reduceLT, Int.reduceLE, Int.reduceEq, Int.reduceBNe, Int.reduceBEq, Int.reduceAdd, Int.reduceSub, Int.reduceMul, Int.reduceNeg, ↓reduceIte, b1, e] <;> simp
  have b1' := b1
  simp only [clockB] at b1'
  simp only [go_sem, Nat.reduceAdd, Nat.reduceSub, Nat.reduceMul, Nat.reducePow, Nat.reduceEqDiff, Nat.reduceLT, Nat.reduceLeDiff, Nat.reduceBEq, Nat.reduceBNe, Int.reduceToNat, Int.reduceLT, Int.reduceLE, Int.reduceEq, Int.reduceBNe, Int.reduceBEq, Int.reduceAdd, Int.reduceSub, Int.reduceMul, Int.reduceNeg, ↓reduceIte, b1']
  refine CallN.pure c2 ?_
  cases b2 : s.roll.okB
  · have e : rightS s = false := by simp [rightS, b2]
    simp only [go_sem, Nat.reduceAdd, Nat.reduceSub, Nat.reduceMul, Nat.reducePow, Nat.reduceEqDiff, Nat.reduceLT, Nat.reduceLeDiff, Nat.reduceBEq, Nat.reduceBNe, Int.reduceToNat, Int.reduceLT, Int.reduceLE, Int.reduceEq, Int.reduceBNe, Int.reduceBEq, Int.reduceAdd, Int.reduceSub, Int.reduceMul, Int.reduceNeg, ↓reduceIte, e] <;> simp
  simp only [go_sem, Nat.reduceAdd, Nat.reduceSub, Nat.reduceMul, Nat.reducePow, Nat.reduceEqDiff, Nat.reduceLT, Nat.reduceLeDiff, Nat.reduceBEq, Nat.reduceBNe, Int.reduceToNat, Int.reduceLT, Int.reduceLE, Int.reduceEq, Int.reduceBNe, Int.reduceBEq, Int.reduceAdd, Int.reduceSub, Int.reduceMul, Int.reduceNeg, ↓reduceIte]
  refine CallN.pure c3 ?_
  cases b3 : s.book.okB
  · have e : rightS s = false := by simp [rightS, b3]
    simp only [go_sem, Nat.reduceAdd, Nat.reduceSub, Nat.reduceMul, Nat.reducePow, Nat.reduceEqDiff, Nat.reduceLT, Nat.reduceLeDiff, Nat.reduceBEq, Nat.reduceBNe, Int.reduceToNat, Int.reduceLT, Int.reduceLE, Int.reduceEq, Int.reduceBNe, Int.reduceBEq, Int.reduceAdd, Int.reduceSub, Int.reduceMul, Int.reduceNeg, ↓reduceIte, e] <;> simp
  simp only [go_sem, Nat.reduceAdd, Nat.reduceSub, Nat.reduceMul, Nat.reducePow, Nat.reduceEqDiff, Nat.reduceLT, Nat.reduceLeDiff, Nat.reduceBEq, Nat.reduceBNe, Int.reduceToNat, Int.reduceLT, Int.reduceLE, Int.reduceEq, Int.reduceBNe, Int.reduceBEq, Int.reduceAdd, Int.reduceSub, Int.reduceMul, Int.reduceNeg, ↓reduceIte]
  refine CallN.pure c4 ?_
  cases b4 : s.led.okB
  · have e : rightS s = false := by simp [rightS, b4]
    simp only [go_sem, Nat.reduceAdd, Nat.reduceSub, Nat.reduceMul, Nat.reducePow, Nat.reduceEqDiff, Nat.reduceLT, Nat.reduceLeDiff, Nat.reduceBEq, Nat.reduceBNe, Int.reduceToNat, Int.reduceLT, Int.reduceLE, Int.reduceEq, Int.reduceBNe, Int.reduceBEq, Int.reduceAdd, Int.reduceSub, Int.reduceMul, Int.reduceNeg, ↓reduceIte, e] <;> simp
  simp only [go_sem, Nat.reduceAdd, Nat.reduceSub, Nat.reduceMul, Nat.reducePow, Nat.reduceEqDiff, Nat.reduceLT, Nat.reduceLeDiff, Nat.reduceBEq, Nat.reduceBNe, Int.reduceToNat, Int.reduceLT, Int.reduceLE, Int.reduceEq, Int.reduceBNe, Int.reduceBEq, Int.reduceAdd, Int.reduceSub, Int.reduceMul, Int.reduceNeg, ↓reduceIte]
  refine CallN.pure c5 ?_
  cases b5 : checkB s.ps
  · have e : rightS s = false := by simp [rightS, b5]
    simp only [go_sem, Nat.reduceAdd, Nat.reduceSub, Nat.reduceMul, Nat.reducePow, Nat.reduceEqDiff, Nat.reduceLT, Nat.reduceLeDiff, Nat.reduceBEq, Nat.reduceBNe, Int.reduceToNat, Int.reduceLT, Int.reduceLE, Int.reduceEq, Int.reduceBNe, Int.reduceBEq, Int.reduceAdd, Int.reduceSub, Int.reduceMul, Int.reduceNeg, ↓reduceIte, e] <;> simp
  simp only [go_sem, Nat.reduceAdd, Nat.reduceSub, Nat.reduceMul, Nat.reducePow, Nat.reduceEqDiff, Nat.reduceLT, Nat.reduceLeDiff, Nat.reduceBEq, Nat.reduceBNe, Int.reduceToNat, Int.reduceLT, Int.reduceLE, Int.reduceEq, Int.reduceBNe, Int.reduceBEq, Int.reduceAdd, Int.reduceSub, Int.reduceMul, Int.reduceNeg, ↓reduceIte]
  refine CallN.pure c6 ?_
  cases b6 : chB callOk callLt s.calls
  · have e : rightS s = false := by simp [rightS, b6]
    simp only [go_sem, Nat.reduceAdd, Nat.reduceSub, Nat.reduceMul, Nat.reducePow, Nat.reduceEqDiff, Nat.reduceLT, Nat.reduceLeDiff, Nat.reduceBEq, Nat.reduceBNe, Int.reduceToNat, Int.reduceLT, Int.reduceLE, Int.reduceEq, Int.reduceBNe, Int.reduceBEq, Int.reduceAdd, Int.reduceSub, Int.reduceMul, Int.reduceNeg, ↓reduceIte, e] <;> simp
  simp only [go_sem, Nat.reduceAdd, Nat.reduceSub, Nat.reduceMul, Nat.reducePow, Nat.reduceEqDiff, Nat.reduceLT, Nat.reduceLeDiff, Nat.reduceBEq, Nat.reduceBNe, Int.reduceToNat, Int.reduceLT, Int.reduceLE, Int.reduceEq, Int.reduceBNe, Int.reduceBEq, Int.reduceAdd, Int.reduceSub, Int.reduceMul, Int.reduceNeg, ↓reduceIte]
  refine CallN.pure c7 ?_
  cases b7 : knownB s
  · have e : rightS s = false := by simp [rightS, b7]
    simp only [go_sem, Nat.reduceAdd, Nat.reduceSub, Nat.reduceMul, Nat.reducePow, Nat.reduceEqDiff, Nat.reduceLT, Nat.reduceLeDiff, Nat.reduceBEq, Nat.reduceBNe, Int.reduceToNat, Int.reduceLT, Int.reduceLE, Int.reduceEq, Int.reduceBNe, Int.reduceBEq, Int.reduceAdd, Int.reduceSub, Int.reduceMul, Int.reduceNeg, ↓reduceIte, e] <;> simp
  cases b8 : decide (32 < (s.bids.length : Int))
  case true =>
    have e : rightS s = false := by simp [rightS, b8]
    simp only [go_sem, Nat.reduceAdd, Nat.reduceSub, Nat.reduceMul, Nat.reducePow, Nat.reduceEqDiff, Nat.reduceLT, Nat.reduceLeDiff, Nat.reduceBEq, Nat.reduceBNe, Int.reduceToNat, Int.reduceLT, Int.reduceLE, Int.reduceEq, Int.reduceBNe, Int.reduceBEq, Int.reduceAdd, Int.reduceSub, Int.reduceMul, Int.reduceNeg, ↓reduceIte, List.length_map, b8, e] <;> simp
  have e : rightS s = (s.bids.all bidOk && chB seatOk seatLt s.seats) := by simp only [rightS, b1, b2, b3, b4, b5, b6, b7, b8, Bool.true_and, Bool.not_false]
  rw [e]
  clear e c1 c2 c3 c4 c5 c6 c7 b1 b1' b2 b3 b4 b5 b6 b7
  simp only [go_sem, Nat.reduceAdd, Nat.reduceSub, Nat.reduceMul, Nat.reducePow, Nat.reduceEqDiff, Nat.reduceLT, Nat.reduceLeDiff, Nat.reduceBEq, Nat.reduceBNe, Int.reduceToNat, Int.reduceLT, Int.reduceLE, Int.reduceEq, Int.reduceBNe, Int.reduceBEq, Int.reduceAdd, Int.reduceSub, Int.reduceMul, Int.reduceNeg, ↓reduceIte, List.length_map, b8]
  refine LoopK.walk (S := Unit) s.bids.length [1, 53, 54] [32, 880] (fun i _ => [(55, .int .i64 i)]) (fun i _ => []) (fun i _ => ∀ j (hj : j < s.bids.length), j < i → bidOk s.bids[j] = true) () (by simp only [go_sem, Nat.reduceAdd, Nat.reduceSub, Nat.reduceMul, Nat.reducePow, Nat.reduceEqDiff, Nat.reduceLT, Nat.reduceLeDiff, Nat.reduceBEq, Nat.reduceBNe, Int.reduceToNat, Int.reduceLT, Int.reduceLE, Int.reduceEq, Int.reduceBNe, Int.reduceBEq, Int.reduceAdd, Int.reduceSub, Int.reduceMul, Int.reduceNeg, ↓reduceIte] <;> exact rfl) (by simp only [go_sem, Nat.reduceAdd, Nat.reduceSub, Nat.reduceMul, Nat.reducePow, Nat.reduceEqDiff, Nat.reduceLT, Nat.reduceLeDiff, Nat.reduceBEq, Nat.reduceBNe, Int.reduceToNat, Int.reduceLT, Int.reduceLE, Int.reduceEq, Int.reduceBNe, Int.reduceBEq, Int.reduceAdd, Int.reduceSub, Int.reduceMul, Int.reduceNeg, ↓reduceIte] <;> exact rfl) (by intros; omega) ?_ ?_ ?_
  · simp only [go_sem, Nat.reduceAdd, Nat.reduceSub, Nat.reduceMul, Nat.reducePow, Nat.reduceEqDiff, Nat.reduceLT, Nat.reduceLeDiff, Nat.reduceBEq, Nat.reduceBNe, Int.reduceToNat, Int.reduceLT, Int.reduceLE, Int.reduceEq, Int.reduceBNe, Int.reduceBEq, Int.reduceAdd, Int.reduceSub, Int.reduceMul, Int.reduceNeg, ↓reduceIte] <;> simp
  · intro i _ hi hdi hw hI
    have hm := map_at (c := BidV.cells) s.bids hi
    have hb := rightBid_spec s.bids[i]
    have e0 := all_next hi hI
    have e1 : bidOk s.bids[i] = false → (s.bids.all bidOk && chB seatOk seatLt s.seats) = false := fun h => by simp [all_no hi h]
    simp only [BidV.cells] at hm hb
    simp only [go_sem, Nat.reduceAdd, Nat.reduceSub, Nat.reduceMul, Nat.reducePow, Nat.reduceEqDiff, Nat.reduceLT, Nat.reduceLeDiff, Nat.reduceBEq, Nat.reduceBNe, Int.reduceToNat, Int.reduceLT, Int.reduceLE, Int.reduceEq, Int.reduceBNe, Int.reduceBEq, Int.reduceAdd, Int.reduceSub, Int.reduceMul, Int.reduceNeg, ↓reduceIte, hdi, hm]
    (repeat' (with_reducible first | refine And.intro ?_ ?_ | exact DrawN.mk (by kernel_rfl) | exact OkN.mk (by kernel_rfl))) <;> try omega
    refine CallN.pure hb ?_
    cases b1 : bidOk s.bids[i]
    · have := e1 b1
      simp only [go_sem, Nat.reduceAdd, Nat.reduceSub, Nat.reduceMul, Nat.reducePow, Nat.reduceEqDiff, Nat.reduceLT, Nat.reduceLeDiff, Nat.reduceBEq, Nat.reduceBNe, Int.reduceToNat, Int.reduceLT, Int.reduceLE, Int.reduceEq, Int.reduceBNe, Int.reduceBEq, Int.reduceAdd, Int.reduceSub, Int.reduceMul, Int.reduceNeg, ↓reduceIte, this] <;> simp
    simp only [go_sem, Nat.reduceAdd, Nat.reduceSub, Nat.reduceMul, Nat.reducePow, Nat.reduceEqDiff, Nat.reduceLT, Nat.reduceLeDiff, Nat.reduceBEq, Nat.reduceBNe, Int.reduceToNat, Int.reduceLT, Int.reduceLE, Int.reduceEq, Int.reduceBNe, Int.reduceBEq, Int.reduceAdd, Int.reduceSub, Int.reduceMul, Int.reduceNeg, ↓reduceIte, hw]
    refine RoundK.step () hi (e0 b1) ?_
    simp only [go_sem, Nat.reduceAdd, Nat.reduceSub, Nat.reduceMul, Nat.reducePow, Nat.reduceEqDiff, Nat.reduceLT, Nat.reduceLeDiff, Nat.reduceBEq, Nat.reduceBNe, Int.reduceToNat, Int.reduceLT, Int.reduceLE, Int.reduceEq, Int.reduceBNe, Int.reduceBEq, Int.reduceAdd, Int.reduceSub, Int.reduceMul, Int.reduceNeg, ↓reduceIte]
  intro _ hdx hI
  have hA := all_yes hI
  rw [hA, Bool.true_and]
  clear hI hA
  simp only [go_sem, Nat.reduceAdd, Nat.reduceSub, Nat.reduceMul, Nat.reducePow, Nat.reduceEqDiff, Nat.reduceLT, Nat.reduceLeDiff, Nat.reduceBEq, Nat.reduceBNe, Int.reduceToNat, Int.reduceLT, Int.reduceLE, Int.reduceEq, Int.reduceBNe, Int.reduceBEq, Int.reduceAdd, Int.reduceSub, Int.reduceMul, Int.reduceNeg, ↓reduceIte, hdx, List.length_map]
  clear hdx b8
  refine LoopK.count s.seats.length [1, 64, 65] [32, 1056] (fun i => [(66, .int .i64 i)]) (fun i => []) (fun i => ∀ j < i, chAt seatOk seatLt s.seats j = true) (by simp only [go_sem, Nat.reduceAdd, Nat.reduceSub, Nat.reduceMul, Nat.reducePow, Nat.reduceEqDiff, Nat.reduceLT, Nat.reduceLeDiff, Nat.reduceBEq, Nat.reduceBNe, Int.reduceToNat, Int.reduceLT, Int.reduceLE, Int.reduceEq, Int.reduceBNe, Int.reduceBEq, Int.reduceAdd, Int.reduceSub, Int.reduceMul, Int.reduceNeg, ↓reduceIte] <;> exact rfl) (by simp only [go_sem, Nat.reduceAdd, Nat.reduceSub, Nat.reduceMul, Nat.reducePow, Nat.reduceEqDiff, Nat.reduceLT, Nat.reduceLeDiff, Nat.reduceBEq, Nat.reduceBNe, Int.reduceToNat, Int.reduceLT, Int.reduceLE, Int.reduceEq, Int.reduceBNe, Int.reduceBEq, Int.reduceAdd, Int.reduceSub, Int.reduceMul, Int.reduceNeg, ↓reduceIte] <;> exact rfl) (by simp) ?_ ?_
  · simp only [go_sem, Nat.reduceAdd, Nat.reduceSub, Nat.reduceMul, Nat.reducePow, Nat.reduceEqDiff, Nat.reduceLT, Nat.reduceLeDiff, Nat.reduceBEq, Nat.reduceBNe, Int.reduceToNat, Int.reduceLT, Int.reduceLE, Int.reduceEq, Int.reduceBNe, Int.reduceBEq, Int.reduceAdd, Int.reduceSub, Int.reduceMul, Int.reduceNeg, ↓reduceIte] <;> simp
  intro i hi hI
  simp only [go_sem, Nat.reduceAdd, Nat.reduceSub, Nat.reduceMul, Nat.reducePow, Nat.reduceEqDiff, Nat.reduceLT, Nat.reduceLeDiff, Nat.reduceBEq, Nat.reduceBNe, Int.reduceToNat, Int.reduceLT, Int.reduceLE, Int.reduceEq, Int.reduceBNe, Int.reduceBEq, Int.reduceAdd, Int.reduceSub, Int.reduceMul, Int.reduceNeg, ↓reduceIte, List.length_map]
  refine CondE.splitD (fun h => ?_) (fun h => ?_)
  · have hi' : i < s.seats.length := by omega
    have hw : IntKind.wrap .i64 ((i : Int) + 1) = ((i + 1 : Nat) : Int) := by rw [wr64 (by omega) (by omega)]; omega
    have hm := map_at (c := SeatV.cells) s.seats hi'
    have e0 := ch_next (i := i) hI
    have e1 : chAt seatOk seatLt s.seats i = false → chB seatOk seatLt s.seats = false := chB_no hi'

    simp only [SeatV.cells] at hm
    rcases Nat.eq_zero_or_pos i with rfl | hpos
    · have hk := chAt_zero (ok := seatOk) (lt := seatLt) hi'
      simp only [seatOk, seatLt, within] at hk
      simp only [go_sem, Nat.reduceAdd, Nat.reduceSub, Nat.reduceMul, Nat.reducePow, Nat.reduceEqDiff, Nat.reduceLT, Nat.reduceLeDiff, Nat.reduceBEq, Nat.reduceBNe, Int.reduceToNat, Int.reduceLT, Int.reduceLE, Int.reduceEq, Int.reduceBNe, Int.reduceBEq, Int.reduceAdd, Int.reduceSub, Int.reduceMul, Int.reduceNeg, ↓reduceIte, hm, List.length_map]
      repeat' (with_reducible first
          | refine And.intro ?_ ?_
          | exact DrawN.mk (by kernel_rfl)
          | exact OkN.mk (by kernel_rfl)
          | refine CallN.pure (by assumption) ?_
          | refine GuardK.splitDN (fun h => ?_) (fun h => ?_)
          | refine GuardK.splitD (fun h => ?_) (fun h => ?_)
          | refine CondE.splitDN (fun h => ?_) (fun h => ?_)
          | refine CondE.splitD (fun h => ?_) (fun h => ?_)
          | refine GuardK.splitN (fun h => ?_) (fun h => ?_)
          | refine GuardK.split (fun h => ?_) (fun h => ?_)
          | refine CondE.splitN (fun h => ?_) (fun h => ?_)
          | refine CondE.split (fun h => ?_) (fun h => ?_)
          | refine WeakK.id ?_
          | refine RoundK.next (by omega) ?_ ?_
          | exact trivial
          | simp only [*, go_sem, Nat.reduceAdd, Nat.reduceSub, Nat.reduceMul, Nat.reducePow, Nat.reduceEqDiff, Nat.reduceLT, Nat.reduceLeDiff, Nat.reduceBEq, Nat.reduceBNe, Int.reduceToNat, Int.reduceLT, Int.reduceLE, Int.reduceEq, Int.reduceBNe, Int.reduceBEq, Int.reduceAdd, Int.reduceSub, Int.reduceMul, Int.reduceNeg, ↓reduceIte])
      all_goals first
        | omega
        | rfl
        | (refine e0 ?_; clear e0 e1; rw [hk]; clear hk; simp_all; done)
        | (refine e0 ?_; clear e0 e1; rw [hk]; clear hk; simp_all; omega)
        | (rw [e1 ?_]; clear e0 e1; rw [hk]; clear hk; simp_all; done)
        | (rw [e1 ?_]; clear e0 e1; rw [hk]; clear hk; simp_all; omega)
        | (rw [e1 ?_]
           · rfl
           · clear e0 e1; rw [hk]; clear hk; simp_all; done)
        | (rw [e1 ?_]
           · rfl
           · clear e0 e1; rw [hk]; clear hk; simp_all; omega)
    · obtain ⟨j, rfl⟩ : ∃ j, i = j + 1 := ⟨i - 1, by omega⟩
      have hj : j < s.seats.length := by omega
      have hw1 : IntKind.wrap .i64 (((j + 1 : Nat) : Int) - 1) = (j : Int) := by rw [wr64 (by omega) (by omega)]; omega
      have hk := chAt_succ (ok := seatOk) (lt := seatLt) hi'
      simp only [seatOk, seatLt, within] at hk
      have hmj := map_at (c := SeatV.cells) s.seats hj

      simp only [SeatV.cells] at hmj
      simp only [go_sem, Nat.reduceAdd, Nat.reduceSub, Nat.reduceMul, Nat.reducePow, Nat.reduceEqDiff, Nat.reduceLT, Nat.reduceLeDiff, Nat.reduceBEq, Nat.reduceBNe, Int.reduceToNat, Int.reduceLT, Int.reduceLE, Int.reduceEq, Int.reduceBNe, Int.reduceBEq, Int.reduceAdd, Int.reduceSub, Int.reduceMul, Int.reduceNeg, ↓reduceIte, hm, List.length_map]
      repeat' (with_reducible first
          | refine And.intro ?_ ?_
          | exact DrawN.mk (by kernel_rfl)
          | exact OkN.mk (by kernel_rfl)
          | refine CallN.pure (by assumption) ?_
          | refine GuardK.splitDN (fun h => ?_) (fun h => ?_)
          | refine GuardK.splitD (fun h => ?_) (fun h => ?_)
          | refine CondE.splitDN (fun h => ?_) (fun h => ?_)
          | refine CondE.splitD (fun h => ?_) (fun h => ?_)
          | refine GuardK.splitN (fun h => ?_) (fun h => ?_)
          | refine GuardK.split (fun h => ?_) (fun h => ?_)
          | refine CondE.splitN (fun h => ?_) (fun h => ?_)
          | refine CondE.split (fun h => ?_) (fun h => ?_)
          | refine WeakK.id ?_
          | refine RoundK.next (by omega) ?_ ?_
          | exact trivial
          | simp only [*, go_sem, Nat.reduceAdd, Nat.reduceSub, Nat.reduceMul, Nat.reducePow, Nat.reduceEqDiff, Nat.reduceLT, Nat.reduceLeDiff, Nat.reduceBEq, Nat.reduceBNe, Int.reduceToNat, Int.reduceLT, Int.reduceLE, Int.reduceEq, Int.reduceBNe, Int.reduceBEq, Int.reduceAdd, Int.reduceSub, Int.reduceMul, Int.reduceNeg, ↓reduceIte, hmj, List.length_map])
      all_goals first
        | omega
        | rfl
        | (refine e0 ?_; clear e0 e1; rw [hk]; clear hk; simp_all; done)
        | (refine e0 ?_; clear e0 e1; rw [hk]; clear hk; simp_all; omega)
        | (rw [e1 ?_]; clear e0 e1; rw [hk]; clear hk; simp_all; done)
        | (rw [e1 ?_]; clear e0 e1; rw [hk]; clear hk; simp_all; omega)
        | (rw [e1 ?_]
           · rfl
           · clear e0 e1; rw [hk]; clear hk; simp_all; done)
        | (rw [e1 ?_]
           · rfl
           · clear e0 e1; rw [hk]; clear hk; simp_all; omega)
  have hCH := chB_yes (fun j (hj : j < s.seats.length) => hI j (by omega))
  clear hI
  simp only [go_sem, Nat.reduceAdd, Nat.reduceSub, Nat.reduceMul, Nat.reducePow, Nat.reduceEqDiff, Nat.reduceLT, Nat.reduceLeDiff, Nat.reduceBEq, Nat.reduceBNe, Int.reduceToNat, Int.reduceLT, Int.reduceLE, Int.reduceEq, Int.reduceBNe, Int.reduceBEq, Int.reduceAdd, Int.reduceSub, Int.reduceMul, Int.reduceNeg, ↓reduceIte, hCH]
end Go.Proofs.YtbllopdcbkeadaaGreat
set_option linter.unusedSimpArgs false
set_option linter.unusedVariables false
namespace Go.Proofs.YtbllopdcbkeadaaGreat
open Go.Abs
end Go.Proofs.YtbllopdcbkeadaaGreat
set_option linter.unusedSimpArgs false
set_option linter.unusedVariables false
namespace Go.Proofs.YtbllopdcbkeadaaGreat
open Go.Abs
/-- arguments that say more -/
theorem Spec.le_args {P : Program} {f : FuncId} {hs ds ds' hs' : List D} {d : D} (h : Abs.Spec P f hs ds hs' d) (hl : leDL (fun _ => none) (fun _ => false) ds' ds) : Abs.Spec P f hs ds' hs' d := by
  obtain ⟨h1, h2⟩ := leDL_get hl
  refine ⟨h.1, ?_⟩
  intro w l0 G0 own0 S0 vs hl0 hG hsz hr hobj
  refine h.2 w l0 G0 own0 S0 vs hl0 hG (by rw [hsz, h1]) ?_ hobj
  intro i v y hv hy
  have hi : i < ds'.length := by rw [h1]; exact (List.getElem?_eq_some_iff.1 hy).1
  have hx : ds'[i]? = some ds'[i] := List.getElem?_eq_getElem hi
  exact leD.rep (C := cx w l0 S0) (C' := cx w l0 S0) (fun _ _ h => h) (by intro s r h; cases h) (by intro s _ h; cases h) (hr i v _ hv hx) (h2 i _ _ hx hy)
set_option maxHeartbeats 1000000 in
set_option maxRecDepth 8000 in
theorem eqMemberV_spec (xs ys : List MemberV) (hl : xs.length < 4611686018427387904) : Abs.Spec Tryz.prog 74 [] [.sl 3 (xs.map MemberV.cells), .sl 3 (ys.map MemberV.cells)] [] (.bool (decide (xs = ys))) := by
  refine Abs.Spec.go (n := 26) (np := 2) (rs := [.tmp 4]) mixed Tryz.func74 rfl rfl rfl rfl rfl (by simp) (by simp) ?_
  simp only [go_sem, Nat.reduceAdd, Nat.reduceSub, Nat.reduceMul, Nat.reducePow, Nat.reduceEqDiff, Nat.reduceLT, Nat.reduceLeDiff, Nat.reduceBEq, Nat.reduceBNe, Int.reduceToNat, Int.reduceLT, Int.reduceLE, Int.reduceEq, Int.reduceBNe, Int.reduceBEq, Int.reduceAdd, Int.reduceSub, Int.reduceMul, Int.reduceNeg, ↓reduceIte, List.length_map]
  by_cases hlen : xs.length = ys.length
  case neg =>
    have b : ((xs.length : Int) == (ys.length : Int)) = false := by rw [beq_eq_false_iff_ne]; omega
    have e : decide (xs = ys) = false := decide_eq_false fun h => hlen (by rw [h])
    simp only [go_sem, Nat.reduceAdd, Nat.reduceSub, Nat.reduceMul, Nat.reducePow, Nat.reduceEqDiff, Nat.reduceLT, Nat.reduceLeDiff, Nat.reduceBEq, Nat.reduceBNe, Int.reduceToNat, Int.reduceLT, Int.reduceLE, Int.reduceEq, Int.reduceBNe, Int.reduceBEq, Int.reduceAdd, Int.reduceSub, Int.reduceMul, Int.reduceNeg, ↓reduceIte, bne, b, e]
  have b : ((xs.length : Int) == (ys.length : Int)) = true := by rw [beq_iff_eq]; omega
  simp only [go_sem, Nat.reduceAdd, Nat.reduceSub, Nat.reduceMul, Nat.reducePow, Nat.reduceEqDiff, Nat.reduceLT, Nat.reduceLeDiff, Nat.reduceBEq, Nat.reduceBNe, Int.reduceToNat, Int.reduceLT, Int.reduceLE, Int.reduceEq, Int.reduceBNe, Int.reduceBEq, Int.reduceAdd, Int.reduceSub, Int.reduceMul, Int.reduceNeg, ↓reduceIte, bne, b, List.length_map]
  refine LoopK.walk (S := Unit) xs.length [0, 1, 12] [208] (fun i _ => [(13, .int .i64 i)]) (fun i _ => []) (fun i _ => ∀ j (h1 : j < xs.length) (h2 : j < ys.length), j < i → xs[j] = ys[j]) () (by simp only [go_sem, Nat.reduceAdd, Nat.reduceSub, Nat.reduceMul, Nat.reducePow, Nat.reduceEqDiff, Nat.reduceLT, Nat.reduceLeDiff, Nat.reduceBEq, Nat.reduceBNe, Int.reduceToNat, Int.reduceLT, Int.reduceLE, Int.reduceEq, Int.reduceBNe, Int.reduceBEq, Int.reduceAdd, Int.reduceSub, Int.reduceMul, Int.reduceNeg, ↓reduceIte] <;> exact rfl) (by simp only [go_sem, Nat.reduceAdd, Nat.reduceSub, Nat.reduceMul, Nat.reducePow, Nat.reduceEqDiff, Nat.reduceLT, Nat.reduceLeDiff, Nat.reduceBEq, Nat.reduceBNe, Int.reduceToNat, Int.reduceLT, Int.reduceLE, Int.reduceEq, Int.reduceBNe, Int.reduceBEq, Int.reduceAdd, Int.reduceSub, Int.reduceMul, Int.reduceNeg, ↓reduceIte] <;> exact rfl) (by intros; omega) ?_ ?_ ?_
  · simp only [go_sem, Nat.reduceAdd, Nat.reduceSub, Nat.reduceMul, Nat.reducePow, Nat.reduceEqDiff, Nat.reduceLT, Nat.reduceLeDiff, Nat.reduceBEq, Nat.reduceBNe, Int.reduceToNat, Int.reduceLT, Int.reduceLE, Int.reduceEq, Int.reduceBNe, Int.reduceBEq, Int.reduceAdd, Int.reduceSub, Int.reduceMul, Int.reduceNeg, ↓reduceIte] <;> simp
  · intro i _ hi hdi hw hI
    have hi2 : i < ys.length := by omega
    have hm := map_at (c := MemberV.cells) xs hi
    have hm2 := map_at (c := MemberV.cells) ys hi2
    have e0 := eq_next hI hi hi2
    have e1 : xs[i] ≠ ys[i] → decide (xs = ys) = false := fun h => decide_eq_false fun e => h (by subst e; rfl)
    have hl1 : (i : Int) < (xs.length : Int) := by omega
    have hl2 : (i : Int) < (ys.length : Int) := by omega
    obtain ⟨x, hx⟩ : ∃ x, x = xs[i] := ⟨_, rfl⟩
    obtain ⟨y, hy⟩ : ∃ y, y = ys[i] := ⟨_, rfl⟩
    rw [← hx] at hm e0 e1
    rw [← hy] at hm2 e0 e1
    simp only [MemberV.cells] at *
    clear hx hy hI hlen
    simp only [go_sem, Nat.reduceAdd, Nat.reduceSub, Nat.reduceMul, Nat.reducePow, Nat.reduceEqDiff, Nat.reduceLT, Nat.reduceLeDiff, Nat.reduceBEq, Nat.reduceBNe, Int.reduceToNat, Int.reduceLT, Int.reduceLE, Int.reduceEq, Int.reduceBNe, Int.reduceBEq, Int.reduceAdd, Int.reduceSub, Int.reduceMul, Int.reduceNeg, ↓reduceIte, List.length_map, hdi, hm, hm2]
    repeat' (with_reducible first
        | refine And.intro ?_ ?_
        | exact DrawN.mk (by kernel_rfl)
        | exact OkN.mk (by kernel_rfl)
        | refine CallN.pure (by assumption) ?_
        | refine GuardK.splitDN (fun h => ?_) (fun h => ?_)
        | refine GuardK.splitD (fun h => ?_) (fun h => ?_)
        | refine CondE.splitDN (fun h => ?_) (fun h => ?_)
        | refine CondE.splitD (fun h => ?_) (fun h => ?_)
        | refine GuardK.splitN (fun h => ?_) (fun h => ?_)
        | refine GuardK.split (fun h => ?_) (fun h => ?_)
        | refine CondE.splitN (fun h => ?_) (fun h => ?_)
        | refine CondE.split (fun h => ?_) (fun h => ?_)
        | refine WeakK.id ?_
        | refine RoundK.next (by omega) ?_ ?_
        | exact trivial
        | simp only [*, go_sem, Nat.reduceAdd, Nat.reduceSub, Nat.reduceMul, Nat.reducePow, Nat.reduceEqDiff, Nat.reduceLT, Nat.reduceLeDiff, Nat.reduceBEq, Nat.reduceBNe, Int.reduceToNat, Int.reduceLT, Int.reduceLE, Int.reduceEq, Int.reduceBNe, Int.reduceBEq, Int.reduceAdd, Int.reduceSub, Int.reduceMul, Int.reduceNeg, ↓reduceIte, hm, hm2, List.length_map])
    all_goals first
      | omega
      | (refine RoundK.step () hi (e0 ?_) ?_
         · clear e0 e1; cases x; cases y; simp_all; done
         · simp only [go_sem, Nat.reduceAdd, Nat.reduceSub, Nat.reduceMul, Nat.reducePow, Nat.reduceEqDiff, Nat.reduceLT, Nat.reduceLeDiff, Nat.reduceBEq, Nat.reduceBNe, Int.reduceToNat, Int.reduceLT, Int.reduceLE, Int.reduceEq, Int.reduceBNe, Int.reduceBEq, Int.reduceAdd, Int.reduceSub, Int.reduceMul, Int.reduceNeg, ↓reduceIte])
      | (rw [e1 ?_]; clear e0 e1; cases x; cases y; simp_all; done)
  · intro _ hdx hI
    have e : decide (xs = ys) = true := decide_eq_true (ext_list hlen hI)
    simp only [go_sem, Nat.reduceAdd, Nat.reduceSub, Nat.reduceMul, Nat.reducePow, Nat.reduceEqDiff, Nat.reduceLT, Nat.reduceLeDiff, Nat.reduceBEq, Nat.reduceBNe, Int.reduceToNat, Int.reduceLT, Int.reduceLE, Int.reduceEq, Int.reduceBNe, Int.reduceBEq, Int.reduceAdd, Int.reduceSub, Int.reduceMul, Int.reduceNeg, ↓reduceIte, List.length_map, hdx, e]
set_option maxHeartbeats 1000000 in
set_option maxRecDepth 8000 in
theorem eqInstV_spec (xs ys : List InstV) (hl : xs.length < 4611686018427387904) : Abs.Spec Tryz.prog 75 [] [.sl 12 (xs.map InstV.cells), .sl 12 (ys.map InstV.cells)] [] (.bool (decide (xs = ys))) := by
  refine Abs.Spec.go (n := 26) (np := 2) (rs := [.tmp 4]) mixed Tryz.func75 rfl rfl rfl rfl rfl (by simp) (by simp) ?_
  simp only [go_sem, Nat.reduceAdd, Nat.reduceSub, Nat.reduceMul, Nat.reducePow, Nat.reduceEqDiff, Nat.reduceLT, Nat.reduceLeDiff, Nat.reduceBEq, Nat.reduceBNe, Int.reduceToNat, Int.reduceLT, Int.reduceLE, Int.reduceEq, Int.reduceBNe, Int.reduceBEq, Int.reduceAdd, Int.reduceSub, Int.reduceMul, Int.reduceNeg, ↓reduceIte, List.length_map]
  by_cases hlen : xs.length = ys.length
  case neg =>
    have b : ((xs.length : Int) == (ys.length : Int)) = false := by rw [beq_eq_false_iff_ne]; omega
    have e : decide (xs = ys) = false := decide_eq_false fun h => hlen (by rw [h])
    simp only [go_sem, Nat.reduceAdd, Nat.reduceSub, Nat.reduceMul, Nat.reducePow, Nat.reduceEqDiff, Nat.reduceLT, Nat.reduceLeDiff, Nat.reduceBEq, Nat.reduceBNe, Int.reduceToNat, Int.reduceLT, Int.reduceLE, Int.reduceEq, Int.reduceBNe, Int.reduceBEq, Int.reduceAdd, Int.reduceSub, Int.reduceMul, Int.reduceNeg, ↓reduceIte, bne, b, e]
  have b : ((xs.length : Int) == (ys.length : Int)) = true := by rw [beq_iff_eq]; omega
  simp only [go_sem, Nat.reduceAdd, Nat.reduceSub, Nat.reduceMul, Nat.reducePow, Nat.reduceEqDiff, Nat.reduceLT, Nat.reduceLeDiff, Nat.reduceBEq, Nat.reduceBNe, Int.reduceToNat, Int.reduceLT, Int.reduceLE, Int.reduceEq, Int.reduceBNe, Int.reduceBEq, Int.reduceAdd, Int.reduceSub, Int.reduceMul, Int.reduceNeg, ↓reduceIte, bne, b, List.length_map]
  refine LoopK.walk (S := Unit) xs.length [0, 1, 12] [208] (fun i _ => [(13, .int .i64 i)]) (fun i _ => []) (fun i _ => ∀ j (h1 : j < xs.length) (h2 : j < ys.length), j < i → xs[j] = ys[j]) () (by simp only [go_sem, Nat.reduceAdd, Nat.reduceSub, Nat.reduceMul, Nat.reducePow, Nat.reduceEqDiff, Nat.reduceLT, Nat.reduceLeDiff, Nat.reduceBEq, Nat.reduceBNe, Int.reduceToNat, Int.reduceLT, Int.reduceLE, Int.reduceEq, Int.reduceBNe, Int.reduceBEq, Int.reduceAdd, Int.reduceSub, Int.reduceMul, Int.reduceNeg, ↓reduceIte] <;> exact rfl) (by simp only [go_sem, Nat.reduceAdd, Nat.reduceSub, Nat.reduceMul, Nat.reducePow, Nat.reduceEqDiff, Nat.reduceLT, Nat.reduceLeDiff, Nat.reduceBEq, Nat.reduceBNe, Int.reduceToNat, Int.reduceLT, Int.reduceLE, Int.reduceEq, Int.reduceBNe, Int.reduceBEq, Int.reduceAdd, Int.reduceSub, Int.reduceMul, Int.reduceNeg, ↓reduceIte] <;> exact rfl) (by intros; omega) ?_ ?_ ?_
  · simp only [go_sem, Nat.reduceAdd, Nat.reduceSub, Nat.reduceMul, Nat.reducePow, Nat.reduceEqDiff, Nat.reduceLT, Nat.reduceLeDiff, Nat.reduceBEq, Nat.reduceBNe, Int.reduceToNat, Int.reduceLT, Int.reduceLE, Int.reduceEq, Int.reduceBNe, Int.reduceBEq, Int.reduceAdd, Int.reduceSub, Int.reduceMul, Int.reduceNeg, ↓reduceIte] <;> simp
  · intro i _ hi hdi hw hI
    have hi2 : i < ys.length := by omega
    have hm := map_at (c := InstV.cells) xs hi
    have hm2 := map_at (c := InstV.cells) ys hi2
    have e0 := eq_next hI hi hi2
    have e1 : xs[i] ≠ ys[i] → decide (xs = ys) = false := fun h => decide_eq_false fun e => h (by subst e; rfl)
    have hl1 : (i : Int) < (xs.length : Int) := by omega
    have hl2 : (i : Int) < (ys.length : Int) := by omega
    obtain ⟨x, hx⟩ : ∃ x, x = xs[i] := ⟨_, rfl⟩
    obtain ⟨y, hy⟩ : ∃ y, y = ys[i] := ⟨_, rfl⟩
    rw [← hx] at hm e0 e1
    rw [← hy] at hm2 e0 e1
    simp only [InstV.cells] at *
    clear hx hy hI hlen
    simp only [go_sem, Nat.reduceAdd, Nat.reduceSub, Nat.reduceMul, Nat.reducePow, Nat.reduceEqDiff, Nat.reduceLT, Nat.reduceLeDiff, Nat.reduceBEq, Nat.reduceBNe, Int.reduceToNat, Int.reduceLT, Int.reduceLE, Int.reduceEq, Int.reduceBNe, Int.reduceBEq, Int.reduceAdd, Int.reduceSub, Int.reduceMul, Int.reduceNeg, ↓reduceIte, List.length_map, hdi, hm, hm2]
    repeat' (with_reducible first
        | refine And.intro ?_ ?_
        | exact DrawN.mk (by kernel_rfl)
        | exact OkN.mk (by kernel_rfl)
        | refine CallN.pure (by assumption) ?_
        | refine GuardK.splitDN (fun h => ?_) (fun h => ?_)
        | refine GuardK.splitD (fun h => ?_) (fun h => ?_)
        | refine CondE.splitDN (fun h => ?_) (fun h => ?_)
        | refine CondE.splitD (fun h => ?_) (fun h => ?_)
        | refine GuardK.splitN (fun h => ?_) (fun h => ?_)
        | refine GuardK.split (fun h => ?_) (fun h => ?_)
        | refine CondE.splitN (fun h => ?_) (fun h => ?_)
        | refine CondE.split (fun h => ?_) (fun h => ?_)
        | refine WeakK.id ?_
        | refine RoundK.next (by omega) ?_ ?_
        | exact trivial
        | simp only [*, go_sem, Nat.reduceAdd, Nat.reduceSub, Nat.reduceMul, Nat.reducePow, Nat.reduceEqDiff, Nat.reduceLT, Nat.reduceLeDiff, Nat.reduceBEq, Nat.reduceBNe, Int.reduceToNat, Int.reduceLT, Int.reduceLE, Int.reduceEq, Int.reduceBNe, Int.reduceBEq, Int.reduceAdd, Int.reduceSub, Int.reduceMul, Int.reduceNeg, ↓reduceIte, hm, hm2, List.length_map])
    all_goals first
      | omega
      | (refine RoundK.step () hi (e0 ?_) ?_
         · clear e0 e1; cases x; cases y; simp_all; done
         · simp only [go_sem, Nat.reduceAdd, Nat.reduceSub, Nat.reduceMul, Nat.reducePow, Nat.reduceEqDiff, Nat.reduceLT, Nat.reduceLeDiff, Nat.reduceBEq, Nat.reduceBNe, Int.reduceToNat, Int.reduceLT, Int.reduceLE, Int.reduceEq, Int.reduceBNe, Int.reduceBEq, Int.reduceAdd, Int.reduceSub, Int.reduceMul, Int.reduceNeg, ↓reduceIte])
      | (rw [e1 ?_]; clear e0 e1; cases x; cases y; simp_all; done)
  · intro _ hdx hI
    have e : decide (xs = ys) = true := decide_eq_true (ext_list hlen hI)
    simp only [go_sem, Nat.reduceAdd, Nat.reduceSub, Nat.reduceMul, Nat.reducePow, Nat.reduceEqDiff, Nat.reduceLT, Nat.reduceLeDiff, Nat.reduceBEq, Nat.reduceBNe, Int.reduceToNat, Int.reduceLT, Int.reduceLE, Int.reduceEq, Int.reduceBNe, Int.reduceBEq, Int.reduceAdd, Int.reduceSub, Int.reduceMul, Int.reduceNeg, ↓reduceIte, List.length_map, hdx, e]
set_option maxHeartbeats 1000000 in
set_option maxRecDepth 8000 in
theorem eqAssetV_spec (xs ys : List AssetV) (hl : xs.length < 4611686018427387904) : Abs.Spec Tryz.prog 76 [] [.sl 4 (xs.map AssetV.cells), .sl 4 (ys.map AssetV.cells)] [] (.bool (decide (xs = ys))) := by
  refine Abs.Spec.go (n := 26) (np := 2) (rs := [.tmp 4]) mixed Tryz.func76 rfl rfl rfl rfl rfl (by simp) (by simp) ?_
  simp only [go_sem, Nat.reduceAdd, Nat.reduceSub, Nat.reduceMul, Nat.reducePow, Nat.reduceEqDiff, Nat.reduceLT, Nat.reduceLeDiff, Nat.reduceBEq, Nat.reduceBNe, Int.reduceToNat, Int.reduceLT, Int.reduceLE, Int.reduceEq, Int.reduceBNe, Int.reduceBEq, Int.reduceAdd, Int.reduceSub, Int.reduceMul, Int.reduceNeg, ↓reduceIte, List.length_map]
  by_cases hlen : xs.length = ys.length
  case neg =>
    have b : ((xs.length : Int) == (ys.length : Int)) = false := by rw [beq_eq_false_iff_ne]; omega
    have e : decide (xs = ys) = false := decide_eq_false fun h => hlen (by rw [h])
    simp only [go_sem, Nat.reduceAdd, Nat.reduceSub, Nat.reduceMul, Nat.reducePow, Nat.reduceEqDiff, Nat.reduceLT, Nat.reduceLeDiff, Nat.reduceBEq, Nat.reduceBNe, Int.reduceToNat, Int.reduceLT, Int.reduceLE, Int.reduceEq, Int.reduceBNe, Int.reduceBEq, Int.reduceAdd, Int.reduceSub, Int.reduceMul, Int.reduceNeg, ↓reduceIte, bne, b, e]
  have b : ((xs.length : Int) == (ys.length : Int)) = true := by rw [beq_iff_eq]; omega
  simp only [go_sem, Nat.reduceAdd, Nat.reduceSub, Nat.reduceMul, Nat.reducePow, Nat.reduceEqDiff, Nat.reduceLT, Nat.reduceLeDiff, Nat.reduceBEq, Nat.reduceBNe, Int.reduceToNat, Int.reduceLT, Int.reduceLE, Int.reduceEq, Int.reduceBNe, Int.reduceBEq, Int.reduceAdd, Int.reduceSub, Int.reduceMul, Int.reduceNeg, ↓reduceIte, bne, b, List.length_map]
  refine LoopK.walk (S := Unit) xs.length [0, 1, 12] [208] (fun i _ => [(13, .int .i64 i)]) (fun i _ => []) (fun i _ => ∀ j (h1 : j < xs.length) (h2 : j < ys.length), j < i → xs[j] = ys[j]) () (by simp only [go_sem, Nat.reduceAdd, Nat.reduceSub, Nat.reduceMul, Nat.reducePow, Nat.reduceEqDiff, Nat.reduceLT, Nat.reduceLeDiff, Nat.reduceBEq, Nat.reduceBNe, Int.reduceToNat, Int.reduceLT, Int.reduceLE, Int.reduceEq, Int.reduceBNe, Int.reduceBEq, Int.reduceAdd, Int.reduceSub, Int.reduceMul, Int.reduceNeg, ↓reduceIte] <;> exact rfl) (by simp only [go_sem, Nat.reduceAdd, Nat.reduceSub, Nat.reduceMul, Nat.reducePow, Nat.reduceEqDiff, Nat.reduceLT, Nat.reduceLeDiff, Nat.reduceBEq, Nat.reduceBNe, Int.reduceToNat, Int.reduceLT, Int.reduceLE, Int.reduceEq, Int.reduceBNe, Int.reduceBEq, Int.reduceAdd, Int.reduceSub, Int.reduceMul, Int.reduceNeg, ↓reduceIte] <;> exact rfl) (by intros; omega) ?_ ?_ ?_
  · simp only [go_sem, Nat.reduceAdd, Nat.reduceSub, Nat.reduceMul, Nat.reducePow, Nat.reduceEqDiff, Nat.reduceLT, Nat.reduceLeDiff, Nat.reduceBEq, Nat.reduceBNe, Int.reduceToNat, Int.reduceLT, Int.reduceLE, Int.reduceEq, Int.reduceBNe, Int.reduceBEq, Int.reduceAdd, Int.reduceSub, Int.reduceMul, Int.reduceNeg, ↓reduceIte] <;> simp
  · intro i _ hi hdi hw hI
    have hi2 : i < ys.length := by omega
    have hm := map_at (c := AssetV.cells) xs hi
    have hm2 := map_at (c := AssetV.cells) ys hi2
    have e0 := eq_next hI hi hi2
    have e1 : xs[i] ≠ ys[i] → decide (xs = ys) = false := fun h => decide_eq_false fun e => h (by subst e; rfl)
    have hl1 : (i : Int) < (xs.length : Int) := by omega
    have hl2 : (i : Int) < (ys.length : Int) := by omega
    obtain ⟨x, hx⟩ : ∃ x, x = xs[i] := ⟨_, rfl⟩
    obtain ⟨y, hy⟩ : ∃ y, y = ys[i] := ⟨_, rfl⟩
    rw [← hx] at hm e0 e1
    rw [← hy] at hm2 e0 e1
    simp only [AssetV.cells] at *
    clear hx hy hI hlen
    simp only [go_sem, Nat.reduceAdd, Nat.reduceSub, Nat.reduceMul, Nat.reducePow, Nat.reduceEqDiff, Nat.reduceLT, Nat.reduceLeDiff, Nat.reduceBEq, Nat.reduceBNe, Int.reduceToNat, Int.reduceLT, Int.reduceLE, Int.reduceEq, Int.reduceBNe, Int.reduceBEq, Int.reduceAdd, Int.reduceSub, Int.reduceMul, Int.reduceNeg, ↓reduceIte, List.length_map, hdi, hm, hm2]
    repeat' (with_reducible first
        | refine And.intro ?_ ?_
        | exact DrawN.mk (by kernel_rfl)
        | exact OkN.mk (by kernel_rfl)
        | refine CallN.pure (by assumption) ?_
        | refine GuardK.splitDN (fun h => ?_) (fun h => ?_)
        | refine GuardK.splitD (fun h => ?_) (fun h => ?_)
        | refine CondE.splitDN (fun h => ?_) (fun h => ?_)
        | refine CondE.splitD (fun h => ?_) (fun h => ?_)
        | refine GuardK.splitN (fun h => ?_) (fun h => ?_)
        | refine GuardK.split (fun h => ?_) (fun h => ?_)
        | refine CondE.splitN (fun h => ?_) (fun h => ?_)
        | refine CondE.split (fun h => ?_) (fun h => ?_)
        | refine WeakK.id ?_
        | refine RoundK.next (by omega) ?_ ?_
        | exact trivial
        | simp only [*, go_sem, Nat.reduceAdd, Nat.reduceSub, Nat.reduceMul, Nat.reducePow, Nat.reduceEqDiff, Nat.reduceLT, Nat.reduceLeDiff, Nat.reduceBEq, Nat.reduceBNe, Int.reduceToNat, Int.reduceLT, Int.reduceLE, Int.reduceEq, Int.reduceBNe, Int.reduceBEq, Int.reduceAdd, Int.reduceSub, Int.reduceMul, Int.reduceNeg, ↓reduceIte, hm, hm2, List.length_map])
    all_goals first
      | omega
      | (refine RoundK.step () hi (e0 ?_) ?_
         · clear e0 e1; cases x; cases y; simp_all; done
         · simp only [go_sem, Nat.reduceAdd, Nat.reduceSub, Nat.reduceMul, Nat.reducePow, Nat.reduceEqDiff, Nat.reduceLT, Nat.reduceLeDiff, Nat.reduceBEq, Nat.reduceBNe, Int.reduceToNat, Int.reduceLT, Int.reduceLE, Int.reduceEq, Int.reduceBNe, Int.reduceBEq, Int.reduceAdd, Int.reduceSub, Int.reduceMul, Int.reduceNeg, ↓reduceIte])
      | (rw [e1 ?_]; clear e0 e1; cases x; cases y; simp_all; done)
  · intro _ hdx hI
    have e : decide (xs = ys) = true := decide_eq_true (ext_list hlen hI)
    simp only [go_sem, Nat.reduceAdd, Nat.reduceSub, Nat.reduceMul, Nat.reducePow, Nat.reduceEqDiff, Nat.reduceLT, Nat.reduceLeDiff, Nat.reduceBEq, Nat.reduceBNe, Int.reduceToNat, Int.reduceLT, Int.reduceLE, Int.reduceEq, Int.reduceBNe, Int.reduceBEq, Int.reduceAdd, Int.reduceSub, Int.reduceMul, Int.reduceNeg, ↓reduceIte, List.length_map, hdx, e]
set_option maxHeartbeats 1000000 in
set_option maxRecDepth 8000 in
theorem eqTradeV_spec (xs ys : List TradeV) (hl : xs.length < 4611686018427387904) : Abs.Spec Tryz.prog 77 [] [.sl 7 (xs.map TradeV.cells), .sl 7 (ys.map TradeV.cells)] [] (.bool (decide (xs = ys))) := by
  refine Abs.Spec.go (n := 26) (np := 2) (rs := [.tmp 4]) mixed Tryz.func77 rfl rfl rfl rfl rfl (by simp) (by simp) ?_
  simp only [go_sem, Nat.reduceAdd, Nat.reduceSub, Nat.reduceMul, Nat.reducePow, Nat.reduceEqDiff, Nat.reduceLT, Nat.reduceLeDiff, Nat.reduceBEq, Nat.reduceBNe, Int.reduceToNat, Int.reduceLT, Int.reduceLE, Int.reduceEq, Int.reduceBNe, Int.reduceBEq, Int.reduceAdd, Int.reduceSub, Int.reduceMul, Int.reduceNeg, ↓reduceIte, List.length_map]
  by_cases hlen : xs.length = ys.length
  case neg =>
    have b : ((xs.length : Int) == (ys.length : Int)) = false := by rw [beq_eq_false_iff_ne]; omega
    have e : decide (xs = ys) = false := decide_eq_false fun h => hlen (by rw [h])
    simp only [go_sem, Nat.reduceAdd, Nat.reduceSub, Nat.reduceMul, Nat.reducePow, Nat.reduceEqDiff, Nat.reduceLT, Nat.reduceLeDiff, Nat.reduceBEq, Nat.reduceBNe, Int.reduceToNat, Int.reduceLT, Int.reduceLE, Int.reduceEq, Int.reduceBNe, Int.reduceBEq, Int.reduceAdd, Int.reduceSub, Int.reduceMul, Int.reduceNeg, ↓reduceIte, bne, b, e]
  have b : ((xs.length : Int) == (ys.length : Int)) = true := by rw [beq_iff_eq]; omega
  simp only [go_sem, Nat.reduceAdd, Nat.reduceSub, Nat.reduceMul, Nat.reducePow, Nat.reduceEqDiff, Nat.reduceLT, Nat.reduceLeDiff, Nat.reduceBEq, Nat.reduceBNe, Int.reduceToNat, Int.reduceLT, Int.reduceLE, Int.reduceEq, Int.reduceBNe, Int.reduceBEq, Int.reduceAdd, Int.reduceSub, Int.reduceMul, Int.reduceNeg, ↓reduceIte, bne, b, List.length_map]
  refine LoopK.walk (S := Unit) xs.length [0, 1, 12] [208] (fun i _ => [(13, .int .i64 i)]) (fun i _ => []) (fun i _ => ∀ j (h1 : j < xs.length) (h2 : j < ys.length), j < i → xs[j] = ys[j]) () (by simp only [go_sem, Nat.reduceAdd, Nat.reduceSub, Nat.reduceMul, Nat.reducePow, Nat.reduceEqDiff, Nat.reduceLT, Nat.reduceLeDiff, Nat.reduceBEq, Nat.reduceBNe, Int.reduceToNat, Int.reduceLT, Int.reduceLE, Int.reduceEq, Int.reduceBNe, Int.reduceBEq, Int.reduceAdd, Int.reduceSub, Int.reduceMul, Int.reduceNeg, ↓reduceIte] <;> exact rfl) (by simp only [go_sem, Nat.reduceAdd, Nat.reduceSub, Nat.reduceMul, Nat.reducePow, Nat.reduceEqDiff, Nat.reduceLT, Nat.reduceLeDiff, Nat.reduceBEq, Nat.reduceBNe, Int.reduceToNat, Int.reduceLT, Int.reduceLE, Int.reduceEq, Int.reduceBNe, Int.reduceBEq, Int.reduceAdd, Int.reduceSub, Int.reduceMul, Int.reduceNeg, ↓reduceIte] <;> exact rfl) (by intros; omega) ?_ ?_ ?_
  · simp only [go_sem, Nat.reduceAdd, Nat.reduceSub, Nat.reduceMul, Nat.reducePow, Nat.reduceEqDiff, Nat.reduceLT, Nat.reduceLeDiff, Nat.reduceBEq, Nat.reduceBNe, Int.reduceToNat, Int.reduceLT, Int.reduceLE, Int.reduceEq, Int.reduceBNe, Int.reduceBEq, Int.reduceAdd, Int.reduceSub, Int.reduceMul, Int.reduceNeg, ↓reduceIte] <;> simp
  · intro i _ hi hdi hw hI
    have hi2 : i < ys.length := by omega
    have hm := map_at (c := TradeV.cells) xs hi
    have hm2 := map_at (c := TradeV.cells) ys hi2
    have e0 := eq_next hI hi hi2
    have e1 : xs[i] ≠ ys[i] → decide (xs = ys) = false := fun h => decide_eq_false fun e => h (by subst e; rfl)
    have hl1 : (i : Int) < (xs.length : Int) := by omega
    have hl2 : (i : Int) < (ys.length : Int) := by omega
    obtain ⟨x, hx⟩ : ∃ x, x = xs[i] := ⟨_, rfl⟩
    obtain ⟨y, hy⟩ : ∃ y, y = ys[i] := ⟨_, rfl⟩
    rw [← hx] at hm e0 e1
    rw [← hy] at hm2 e0 e1
    simp only [TradeV.cells] at *
    clear hx hy hI hlen
    simp only [go_sem, Nat.reduceAdd, Nat.reduceSub, Nat.reduceMul, Nat.reducePow, Nat.reduceEqDiff, Nat.reduceLT, Nat.reduceLeDiff, Nat.reduceBEq, Nat.reduceBNe, Int.reduceToNat, Int.reduceLT, Int.reduceLE, Int.reduceEq, Int.reduceBNe, Int.reduceBEq, Int.reduceAdd, Int.reduceSub, Int.reduceMul, Int.reduceNeg, ↓reduceIte, List.length_map, hdi, hm, hm2]
    repeat' (with_reducible first
        | refine And.intro ?_ ?_
        | exact DrawN.mk (by kernel_rfl)
        | exact OkN.mk (by kernel_rfl)
        | refine CallN.pure (by assumption) ?_
        | refine GuardK.splitDN (fun h => ?_) (fun h => ?_)
        | refine GuardK.splitD (fun h => ?_) (fun h => ?_)
        | refine CondE.splitDN (fun h => ?_) (fun h => ?_)
        | refine CondE.splitD (fun h => ?_) (fun h => ?_)
        | refine GuardK.splitN (fun h => ?_) (fun h => ?_)
        | refine GuardK.split (fun h => ?_) (fun h => ?_)
        | refine CondE.splitN (fun h => ?_) (fun h => ?_)
        | refine CondE.split (fun h => ?_) (fun h => ?_)
        | refine WeakK.id ?_
        | refine RoundK.next (by omega) ?_ ?_
        | exact trivial
        | simp only [*, go_sem, Nat.reduceAdd, Nat.reduceSub, Nat.reduceMul, Nat.reducePow, Nat.reduceEqDiff, Nat.reduceLT, Nat.reduceLeDiff, Nat.reduceBEq, Nat.reduceBNe, Int.reduceToNat, Int.reduceLT, Int.reduceLE, Int.reduceEq, Int.reduceBNe, Int.reduceBEq, Int.reduceAdd, Int.reduceSub, Int.reduceMul, Int.reduceNeg, ↓reduceIte, hm, hm2, List.length_map])
    all_goals first
      | omega
      | (refine RoundK.step () hi (e0 ?_) ?_
         · clear e0 e1; cases x; cases y; simp_all; done
         · simp only [go_sem, Nat.reduceAdd, Nat.reduceSub, Nat.reduceMul, Nat.reducePow, Nat.reduceEqDiff, Nat.reduceLT, Nat.reduceLeDiff, Nat.reduceBEq, Nat.reduceBNe, Int.reduceToNat, Int.reduceLT, Int.reduceLE, Int.reduceEq, Int.reduceBNe, Int.reduceBEq, Int.reduceAdd, Int.reduceSub, Int.reduceMul, Int.reduceNeg, ↓reduceIte])
      | (rw [e1 ?_]; clear e0 e1; cases x; cases y; simp_all; done)
  · intro _ hdx hI
    have e : decide (xs = ys) = true := decide_eq_true (ext_list hlen hI)
    simp only [go_sem, Nat.reduceAdd, Nat.reduceSub, Nat.reduceMul, Nat.reducePow, Nat.reduceEqDiff, Nat.reduceLT, Nat.reduceLeDiff, Nat.reduceBEq, Nat.reduceBNe, Int.reduceToNat, Int.reduceLT, Int.reduceLE, Int.reduceEq, Int.reduceBNe, Int.reduceBEq, Int.reduceAdd, Int.reduceSub, Int.reduceMul, Int.reduceNeg, ↓reduceIte, List.length_map, hdx, e]
set_option maxHeartbeats 1000000 in
set_option maxRecDepth 8000 in
theorem eqPosV_spec (xs ys : List PosV) (hl : xs.length < 4611686018427387904) : Abs.Spec Tryz.prog 78 [] [.sl 4 (xs.map PosV.cells), .sl 4 (ys.map PosV.cells)] [] (.bool (decide (xs = ys))) := by
  refine Abs.Spec.go (n := 26) (np := 2) (rs := [.tmp 4]) mixed Tryz.func78 rfl rfl rfl rfl rfl (by simp) (by simp) ?_
  simp only [go_sem, Nat.reduceAdd, Nat.reduceSub, Nat.reduceMul, Nat.reducePow, Nat.reduceEqDiff, Nat.reduceLT, Nat.reduceLeDiff, Nat.reduceBEq, Nat.reduceBNe, Int.reduceToNat, Int.reduceLT, Int.reduceLE, Int.reduceEq, Int.reduceBNe, Int.reduceBEq, Int.reduceAdd, Int.reduceSub, Int.reduceMul, Int.reduceNeg, ↓reduceIte, List.length_map]
  by_cases hlen : xs.length = ys.length
  case neg =>
    have b : ((xs.length : Int) == (ys.length : Int)) = false := by rw [beq_eq_false_iff_ne]; omega
    have e : decide (xs = ys) = false := decide_eq_false fun h => hlen (by rw [h])
    simp only [go_sem, Nat.reduceAdd, Nat.reduceSub, Nat.reduceMul, Nat.reducePow, Nat.reduceEqDiff, Nat.reduceLT, Nat.reduceLeDiff, Nat.reduceBEq, Nat.reduceBNe, Int.reduceToNat, Int.reduceLT, Int.reduceLE, Int.reduceEq, Int.reduceBNe, Int.reduceBEq, Int.reduceAdd, Int.reduceSub, Int.reduceMul, Int.reduceNeg, ↓reduceIte, bne, b, e]
  have b : ((xs.length : Int) == (ys.length : Int)) = true := by rw [beq_iff_eq]; omega
  simp only [go_sem, Nat.reduceAdd, Nat.reduceSub, Nat.reduceMul, Nat.reducePow, Nat.reduceEqDiff, Nat.reduceLT, Nat.reduceLeDiff, Nat.reduceBEq, Nat.reduceBNe, Int.reduceToNat, Int.reduceLT, Int.reduceLE, Int.reduceEq, Int.reduceBNe, Int.reduceBEq, Int.reduceAdd, Int.reduceSub, Int.reduceMul, Int.reduceNeg, ↓reduceIte, bne, b, List.length_map]
  refine LoopK.walk (S := Unit) xs.length [0, 1, 12] [208] (fun i _ => [(13, .int .i64 i)]) (fun i _ => []) (fun i _ => ∀ j (h1 : j < xs.length) (h2 : j < ys.length), j < i → xs[j] = ys[j]) () (by simp only [go_sem, Nat.reduceAdd, Nat.reduceSub, Nat.reduceMul, Nat.reducePow, Nat.reduceEqDiff, Nat.reduceLT, Nat.reduceLeDiff, Nat.reduceBEq, Nat.reduceBNe, Int.reduceToNat, Int.reduceLT, Int.reduceLE, Int.reduceEq, Int.reduceBNe, Int.reduceBEq, Int.reduceAdd, Int.reduceSub, Int.reduceMul, Int.reduceNeg, ↓reduceIte] <;> exact rfl) (by simp only [go_sem, Nat.reduceAdd, Nat.reduceSub, Nat.reduceMul, Nat.reducePow, Nat.reduceEqDiff, Nat.reduceLT, Nat.reduceLeDiff, Nat.reduceBEq, Nat.reduceBNe, Int.reduceToNat, Int.reduceLT, Int.reduceLE, Int.reduceEq, Int.reduceBNe, Int.reduceBEq, Int.reduceAdd, Int.reduceSub, Int.reduceMul, Int.reduceNeg, ↓reduceIte] <;> exact rfl) (by intros; omega) ?_ ?_ ?_
  · simp only [go_sem, Nat.reduceAdd, Nat.reduceSub, Nat.reduceMul, Nat.reducePow, Nat.reduceEqDiff, Nat.reduceLT, Nat.reduceLeDiff, Nat.reduceBEq, Nat.reduceBNe, Int.reduceToNat, Int.reduceLT, Int.reduceLE, Int.reduceEq, Int.reduceBNe, Int.reduceBEq, Int.reduceAdd, Int.reduceSub, Int.reduceMul, Int.reduceNeg, ↓reduceIte] <;> simp
  · intro i _ hi hdi hw hI
    have hi2 : i < ys.length := by omega
    have hm := map_at (c := PosV.cells) xs hi
    have hm2 := map_at (c := PosV.cells) ys hi2
    have e0 := eq_next hI hi hi2
    have e1 : xs[i] ≠ ys[i] → decide (xs = ys) = false := fun h => decide_eq_false fun e => h (by subst e; rfl)
    have hl1 : (i : Int) < (xs.length : Int) := by omega
    have hl2 : (i : Int) < (ys.length : Int) := by omega
    obtain ⟨x, hx⟩ : ∃ x, x = xs[i] := ⟨_, rfl⟩
    obtain ⟨y, hy⟩ : ∃ y, y = ys[i] := ⟨_, rfl⟩
    rw [← hx] at hm e0 e1
    rw [← hy] at hm2 e0 e1
    simp only [PosV.cells] at *
    clear hx hy hI hlen
    simp only [go_sem, Nat.reduceAdd, Nat.reduceSub, Nat.reduceMul, Nat.reducePow, Nat.reduceEqDiff, Nat.reduceLT, Nat.reduceLeDiff, Nat.reduceBEq, Nat.reduceBNe, Int.reduceToNat, Int.reduceLT, Int.reduceLE, Int.reduceEq, Int.reduceBNe, Int.reduceBEq, Int.reduceAdd, Int.reduceSub, Int.reduceMul, Int.reduceNeg, ↓reduceIte, List.length_map, hdi, hm, hm2]
    repeat' (with_reducible first
        | refine And.intro ?_ ?_
        | exact DrawN.mk (by kernel_rfl)
        | exact OkN.mk (by kernel_rfl)
        | refine CallN.pure (by assumption) ?_
        | refine GuardK.splitDN (fun h => ?_) (fun h => ?_)
        | refine GuardK.splitD (fun h => ?_) (fun h => ?_)
        | refine CondE.splitDN (fun h => ?_) (fun h => ?_)
        | refine CondE.splitD (fun h => ?_) (fun h => ?_)
        | refine GuardK.splitN (fun h => ?_) (fun h => ?_)
        | refine GuardK.split (fun h => ?_) (fun h => ?_)
        | refine CondE.splitN (fun h => ?_) (fun h => ?_)
        | refine CondE.split (fun h => ?_) (fun h => ?_)
        | refine WeakK.id ?_
        | refine RoundK.next (by omega) ?_ ?_
        | exact trivial
        | simp only [*, go_sem, Nat.reduceAdd, Nat.reduceSub, Nat.reduceMul, Nat.reducePow, Nat.reduceEqDiff, Nat.reduceLT, Nat.reduceLeDiff, Nat.reduceBEq, Nat.reduceBNe, Int.reduceToNat, Int.reduceLT, Int.reduceLE, Int.reduceEq, Int.reduceBNe, Int.reduceBEq, Int.reduceAdd, Int.reduceSub, Int.reduceMul, Int.reduceNeg, ↓reduceIte, hm, hm2, List.length_map])
    all_goals first
      | omega
      | (refine RoundK.step () hi (e0 ?_) ?_
         · clear e0 e1; cases x; cases y; simp_all; done
         · simp only [go_sem, Nat.reduceAdd, Nat.reduceSub, Nat.reduceMul, Nat.reducePow, Nat.reduceEqDiff, Nat.reduceLT, Nat.reduceLeDiff, Nat.reduceBEq, Nat.reduceBNe, Int.reduceToNat, Int.reduceLT, Int.reduceLE, Int.reduceEq, Int.reduceBNe, Int.reduceBEq, Int.reduceAdd, Int.reduceSub, Int.reduceMul, Int.reduceNeg, ↓reduceIte])
      | (rw [e1 ?_]; clear e0 e1; cases x; cases y; simp_all; done)
  · intro _ hdx hI
    have e : decide (xs = ys) = true := decide_eq_true (ext_list hlen hI)
    simp only [go_sem, Nat.reduceAdd, Nat.reduceSub, Nat.reduceMul, Nat.reducePow, Nat.reduceEqDiff, Nat.reduceLT, Nat.reduceLeDiff, Nat.reduceBEq, Nat.reduceBNe, Int.reduceToNat, Int.reduceLT, Int.reduceLE, Int.reduceEq, Int.reduceBNe, Int.reduceBEq, Int.reduceAdd, Int.reduceSub, Int.reduceMul, Int.reduceNeg, ↓reduceIte, List.length_map, hdx, e]
set_option maxHeartbeats 1000000 in
set_option maxRecDepth 8000 in
theorem eqBalV_spec (xs ys : List BalV) (hl : xs.length < 4611686018427387904) : Abs.Spec Tryz.prog 79 [] [.sl 4 (xs.map BalV.cells), .sl 4 (ys.map BalV.cells)] [] (.bool (decide (xs = ys))) := by
  refine Abs.Spec.go (n := 26) (np := 2) (rs := [.tmp 4]) mixed Tryz.func79 rfl rfl rfl rfl rfl (by simp) (by simp) ?_
  simp only [go_sem, Nat.reduceAdd, Nat.reduceSub, Nat.reduceMul, Nat.reducePow, Nat.reduceEqDiff, Nat.reduceLT, Nat.reduceLeDiff, Nat.reduceBEq, Nat.reduceBNe, Int.reduceToNat, Int.reduceLT, Int.reduceLE, Int.reduceEq, Int.reduceBNe, Int.reduceBEq, Int.reduceAdd, Int.reduceSub, Int.reduceMul, Int.reduceNeg, ↓reduceIte, List.length_map]
  by_cases hlen : xs.length = ys.length
  case neg =>
    have b : ((xs.length : Int) == (ys.length : Int)) = false := by rw [beq_eq_false_iff_ne]; omega
    have e : decide (xs = ys) = false := decide_eq_false fun h => hlen (by rw [h])
    simp only [go_sem, Nat.reduceAdd, Nat.reduceSub, Nat.reduceMul, Nat.reducePow, Nat.reduceEqDiff, Nat.reduceLT, Nat.reduceLeDiff, Nat.reduceBEq, Nat.reduceBNe, Int.reduceToNat, Int.reduceLT, Int.reduceLE, Int.reduceEq, Int.reduceBNe, Int.reduceBEq, Int.reduceAdd, Int.reduceSub, Int.reduceMul, Int.reduceNeg, ↓reduceIte, bne, b, e]
  have b : ((xs.length : Int) == (ys.length : Int)) = true := by rw [beq_iff_eq]; omega
  simp only [go_sem, Nat.reduceAdd, Nat.reduceSub, Nat.reduceMul, Nat.reducePow, Nat.reduceEqDiff, Nat.reduceLT, Nat.reduceLeDiff, Nat.reduceBEq, Nat.reduceBNe, Int.reduceToNat, Int.reduceLT, Int.reduceLE, Int.reduceEq, Int.reduceBNe, Int.reduceBEq, Int.reduceAdd, Int.reduceSub, Int.reduceMul, Int.reduceNeg, ↓reduceIte, bne, b, List.length_map]
  refine LoopK.walk (S := Unit) xs.length [0, 1, 12] [208] (fun i _ => [(13, .int .i64 i)]) (fun i _ => []) (fun i _ => ∀ j (h1 : j < xs.length) (h2 : j < ys.length), j < i → xs[j] = ys[j]) () (by simp only [go_sem, Nat.reduceAdd, Nat.reduceSub, Nat.reduceMul, Nat.reducePow, Nat.reduceEqDiff, Nat.reduceLT, Nat.reduceLeDiff, Nat.reduceBEq, Nat.reduceBNe, Int.reduceToNat, Int.reduceLT, Int.reduceLE, Int.reduceEq, Int.reduceBNe, Int.reduceBEq, Int.reduceAdd, Int.reduceSub, Int.reduceMul, Int.reduceNeg, ↓reduceIte] <;> exact rfl) (by simp only [go_sem, Nat.reduceAdd, Nat.reduceSub, Nat.reduceMul, Nat.reducePow, Nat.reduceEqDiff, Nat.reduceLT, Nat.reduceLeDiff, Nat.reduceBEq, Nat.reduceBNe, Int.reduceToNat, Int.reduceLT, Int.reduceLE, Int.reduceEq, Int.reduceBNe, Int.reduceBEq, Int.reduceAdd, Int.reduceSub, Int.reduceMul, Int.reduceNeg, ↓reduceIte] <;> exact rfl) (by intros; omega) ?_ ?_ ?_
  · simp only [go_sem, Nat.reduceAdd, Nat.reduceSub, Nat.reduceMul, Nat.reducePow, Nat.reduceEqDiff, Nat.reduceLT, Nat.reduceLeDiff, Nat.reduceBEq, Nat.reduceBNe, Int.reduceToNat, Int.reduceLT, Int.reduceLE, Int.reduceEq, Int.reduceBNe, Int.reduceBEq, Int.reduceAdd, Int.reduceSub, Int.reduceMul, Int.reduceNeg, ↓reduceIte] <;> simp
  · intro i _ hi hdi hw hI
    have hi2 : i < ys.length := by omega
    have hm := map_at (c := BalV.cells) xs hi
    have hm2 := map_at (c := BalV.cells) ys hi2
    have e0 := eq_next hI hi hi2
    have e1 : xs[i] ≠ ys[i] → decide (xs = ys) = false := fun h => decide_eq_false fun e => h (by subst e; rfl)
    have hl1 : (i : Int) < (xs.length : Int) := by omega
    have hl2 : (i : Int) < (ys.length : Int) := by omega
    obtain ⟨x, hx⟩ : ∃ x, x = xs[i] := ⟨_, rfl⟩
    obtain ⟨y, hy⟩ : ∃ y, y = ys[i] := ⟨_, rfl⟩
    rw [← hx] at hm e0 e1
    rw [← hy] at hm2 e0 e1
    simp only [BalV.cells] at *
    clear hx hy hI hlen
    simp only [go_sem, Nat.reduceAdd, Nat.reduceSub, Nat.reduceMul, Nat.reducePow, Nat.reduceEqDiff, Nat.reduceLT, Nat.reduceLeDiff, Nat.reduceBEq, Nat.reduceBNe, Int.reduceToNat, Int.reduceLT, Int.reduceLE, Int.reduceEq, Int.reduceBNe, Int.reduceBEq, Int.reduceAdd, Int.reduceSub, Int.reduceMul, Int.reduceNeg, ↓reduceIte, List.length_map, hdi, hm, hm2]
    repeat' (with_reducible first
        | refine And.intro ?_ ?_
        | exact DrawN.mk (by kernel_rfl)
        | exact OkN.mk (by kernel_rfl)
        | refine CallN.pure (by assumption) ?_
        | refine GuardK.splitDN (fun h => ?_) (fun h => ?_)
        | refine GuardK.splitD (fun h => ?_) (fun h => ?_)
        | refine CondE.splitDN (fun h => ?_) (fun h => ?_)
        | refine CondE.splitD (fun h => ?_) (fun h => ?_)
        | refine GuardK.splitN (fun h => ?_) (fun h => ?_)
        | refine GuardK.split (fun h => ?_) (fun h => ?_)
        | refine CondE.splitN (fun h => ?_) (fun h => ?_)
        | refine CondE.split (fun h => ?_) (fun h => ?_)
        | refine WeakK.id ?_
        | refine RoundK.next (by omega) ?_ ?_
        | exact trivial
        | simp only [*, go_sem, Nat.reduceAdd, Nat.reduceSub, Nat.reduceMul, Nat.reducePow, Nat.reduceEqDiff, Nat.reduceLT, Nat.reduceLeDiff, Nat.reduceBEq, Nat.reduceBNe, Int.reduceToNat, Int.reduceLT, Int.reduceLE, Int.reduceEq, Int.reduceBNe, Int.reduceBEq, Int.reduceAdd, Int.reduceSub, Int.reduceMul, Int.reduceNeg, ↓reduceIte, hm, hm2, List.length_map])
    all_goals first
      | omega
      | (refine RoundK.step () hi (e0 ?_) ?_
         · clear e0 e1; cases x; cases y; simp_all; done
         · simp only [go_sem, Nat.reduceAdd, Nat.reduceSub, Nat.reduceMul, Nat.reducePow, Nat.reduceEqDiff, Nat.reduceLT, Nat.reduceLeDiff, Nat.reduceBEq, Nat.reduceBNe, Int.reduceToNat, Int.reduceLT, Int.reduceLE, Int.reduceEq, Int.reduceBNe, Int.reduceBEq, Int.reduceAdd, Int.reduceSub, Int.reduceMul, Int.reduceNeg, ↓reduceIte])
      | (rw [e1 ?_]; clear e0 e1; cases x; cases y; simp_all; done)
  · intro _ hdx hI
    have e : decide (xs = ys) = true := decide_eq_true (ext_list hlen hI)
    simp only [go_sem, Nat.reduceAdd, Nat.reduceSub, Nat.reduceMul, Nat.reducePow, Nat.reduceEqDiff, Nat.reduceLT, Nat.reduceLeDiff, Nat.reduceBEq, Nat.reduceBNe, Int.reduceToNat, Int.reduceLT, Int.reduceLE, Int.reduceEq, Int.reduceBNe, Int.reduceBEq, Int.reduceAdd, Int.reduceSub, Int.reduceMul, Int.reduceNeg, ↓reduceIte, List.length_map, hdx, e]
set_option maxHeartbeats 1000000 in
set_option maxRecDepth 8000 in
theorem eqPlg_spec (xs ys : List Plg) (hl : xs.length < 4611686018427387904) : Abs.Spec Tryz.prog 80 [] [.sl 3 (xs.map Plg.cells), .sl 3 (ys.map Plg.cells)] [] (.bool (decide (xs = ys))) := by
  refine Abs.Spec.go (n := 26) (np := 2) (rs := [.tmp 4]) mixed Tryz.func80 rfl rfl rfl rfl rfl (by simp) (by simp) ?_
  simp only [go_sem, Nat.reduceAdd, Nat.reduceSub, Nat.reduceMul, Nat.reducePow, Nat.reduceEqDiff, Nat.reduceLT, Nat.reduceLeDiff, Nat.reduceBEq, Nat.reduceBNe, Int.reduceToNat, Int.reduceLT, Int.reduceLE, Int.reduceEq, Int.reduceBNe, Int.reduceBEq, Int.reduceAdd, Int.reduceSub, Int.reduceMul, Int.reduceNeg, ↓reduceIte, List.length_map]
  by_cases hlen : xs.length = ys.length
  case neg =>
    have b : ((xs.length : Int) == (ys.length : Int)) = false := by rw [beq_eq_false_iff_ne]; omega
    have e : decide (xs = ys) = false := decide_eq_false fun h => hlen (by rw [h])
    simp only [go_sem, Nat.reduceAdd, Nat.reduceSub, Nat.reduceMul, Nat.reducePow, Nat.reduceEqDiff, Nat.reduceLT, Nat.reduceLeDiff, Nat.reduceBEq, Nat.reduceBNe, Int.reduceToNat, Int.reduceLT, Int.reduceLE, Int.reduceEq, Int.reduceBNe, Int.reduceBEq, Int.reduceAdd, Int.reduceSub, Int.reduceMul, Int.reduceNeg, ↓reduceIte, bne, b, e]
  have b : ((xs.length : Int) == (ys.length : Int)) = true := by rw [beq_iff_eq]; omega
  simp only [go_sem, Nat.reduceAdd, Nat.reduceSub, Nat.reduceMul, Nat.reducePow, Nat.reduceEqDiff, Nat.reduceLT, Nat.reduceLeDiff, Nat.reduceBEq, Nat.reduceBNe, Int.reduceToNat, Int.reduceLT, Int.reduceLE, Int.reduceEq, Int.reduceBNe, Int.reduceBEq, Int.reduceAdd, Int.reduceSub, Int.reduceMul, Int.reduceNeg, ↓reduceIte, bne, b, List.length_map]
  refine LoopK.walk (S := Unit) xs.length [0, 1, 12] [208] (fun i _ => [(13, .int .i64 i)]) (fun i _ => []) (fun i _ => ∀ j (h1 : j < xs.length) (h2 : j < ys.length), j < i → xs[j] = ys[j]) () (by simp only [go_sem, Nat.reduceAdd, Nat.reduceSub, Nat.reduceMul, Nat.reducePow, Nat.reduceEqDiff, Nat.reduceLT, Nat.reduceLeDiff, Nat.reduceBEq, Nat.reduceBNe, Int.reduceToNat, Int.reduceLT, Int.reduceLE, Int.reduceEq, Int.reduceBNe, Int.reduceBEq, Int.reduceAdd, Int.reduceSub, Int.reduceMul, Int.reduceNeg, ↓reduceIte] <;> exact rfl) (by simp only [go_sem, Nat.reduceAdd, Nat.reduceSub, Nat.reduceMul, Nat.reducePow, Nat.reduceEqDiff, Nat.reduceLT, Nat.reduceLeDiff, Nat.reduceBEq, Nat.reduceBNe, Int.reduceToNat, Int.reduceLT, Int.reduceLE, Int.reduceEq, Int.reduceBNe, Int.reduceBEq, Int.reduceAdd, Int.reduceSub, Int.reduceMul, Int.reduceNeg, ↓reduceIte] <;> exact rfl) (by intros; omega) ?_ ?_ ?_
  · simp only [go_sem, Nat.reduceAdd, Nat.reduceSub, Nat.reduceMul, Nat.reducePow, Nat.reduceEqDiff, Nat.reduceLT, Nat.reduceLeDiff, Nat.reduceBEq, Nat.reduceBNe, Int.reduceToNat, Int.reduceLT, Int.reduceLE, Int.reduceEq, Int.reduceBNe, Int.reduceBEq, Int.reduceAdd, Int.reduceSub, Int.reduceMul, Int.reduceNeg, ↓reduceIte] <;> simp
  · intro i _ hi hdi hw hI
    have hi2 : i < ys.length := by omega
    have hm := map_at (c := Plg.cells) xs hi
    have hm2 := map_at (c := Plg.cells) ys hi2
    have e0 := eq_next hI hi hi2
    have e1 : xs[i] ≠ ys[i] → decide (xs = ys) = false := fun h => decide_eq_false fun e => h (by subst e; rfl)
    have hl1 : (i : Int) < (xs.length : Int) := by omega
    have hl2 : (i : Int) < (ys.length : Int) := by omega
    obtain ⟨x, hx⟩ : ∃ x, x = xs[i] := ⟨_, rfl⟩
    obtain ⟨y, hy⟩ : ∃ y, y = ys[i] := ⟨_, rfl⟩
    rw [← hx] at hm e0 e1
    rw [← hy] at hm2 e0 e1
    simp only [Plg.cells] at *
    clear hx hy hI hlen
    simp only [go_sem, Nat.reduceAdd, Nat.reduceSub, Nat.reduceMul, Nat.reducePow, Nat.reduceEqDiff, Nat.reduceLT, Nat.reduceLeDiff, Nat.reduceBEq, Nat.reduceBNe, Int.reduceToNat, Int.reduceLT, Int.reduceLE, Int.reduceEq, Int.reduceBNe, Int.reduceBEq, Int.reduceAdd, Int.reduceSub, Int.reduceMul, Int.reduceNeg, ↓reduceIte, List.length_map, hdi, hm, hm2]
    repeat' (with_reducible first
        | refine And.intro ?_ ?_
        | exact DrawN.mk (by kernel_rfl)
        | exact OkN.mk (by kernel_rfl)
        | refine CallN.pure (by assumption) ?_
        | refine GuardK.splitDN (fun h => ?_) (fun h => ?_)
        | refine GuardK.splitD (fun h => ?_) (fun h => ?_)
        | refine CondE.splitDN (fun h => ?_) (fun h => ?_)
        | refine CondE.splitD (fun h => ?_) (fun h => ?_)
        | refine GuardK.splitN (fun h => ?_) (fun h => ?_)
        | refine GuardK.split (fun h => ?_) (fun h => ?_)
        | refine CondE.splitN (fun h => ?_) (fun h => ?_)
        | refine CondE.split (fun h => ?_) (fun h => ?_)
        | refine WeakK.id ?_
        | refine RoundK.next (by omega) ?_ ?_
        | exact trivial
        | simp only [*, go_sem, Nat.reduceAdd, Nat.reduceSub, Nat.reduceMul, Nat.reducePow, Nat.reduceEqDiff, Nat.reduceLT, Nat.reduceLeDiff, Nat.reduceBEq, Nat.reduceBNe, Int.reduceToNat, Int.reduceLT, Int.reduceLE, Int.reduceEq, Int.reduceBNe, Int.reduceBEq, Int.reduceAdd, Int.reduceSub, Int.reduceMul, Int.reduceNeg, ↓reduceIte, hm, hm2, List.length_map])
    all_goals first
      | omega
      | (refine RoundK.step () hi (e0 ?_) ?_
         · clear e0 e1; cases x; cases y; simp_all; done
         · simp only [go_sem, Nat.reduceAdd, Nat.reduceSub, Nat.reduceMul, Nat.reducePow, Nat.reduceEqDiff, Nat.reduceLT, Nat.reduceLeDiff, Nat.reduceBEq, Nat.reduceBNe, Int.reduceToNat, Int.reduceLT, Int.reduceLE, Int.reduceEq, Int.reduceBNe, Int.reduceBEq, Int.reduceAdd, Int.reduceSub, Int.reduceMul, Int.reduceNeg, ↓reduceIte])
      | (rw [e1 ?_]; clear e0 e1; cases x; cases y; simp_all; done)
  · intro _ hdx hI
    have e : decide (xs = ys) = true := decide_eq_true (ext_list hlen hI)
    simp only [go_sem, Nat.reduceAdd, Nat.reduceSub, Nat.reduceMul, Nat.reducePow, Nat.reduceEqDiff, Nat.reduceLT, Nat.reduceLeDiff, Nat.reduceBEq, Nat.reduceBNe, Int.reduceToNat, Int.reduceLT, Int.reduceLE, Int.reduceEq, Int.reduceBNe, Int.reduceBEq, Int.reduceAdd, Int.reduceSub, Int.reduceMul, Int.reduceNeg, ↓reduceIte, List.length_map, hdx, e]
set_option maxHeartbeats 1000000 in
set_option maxRecDepth 8000 in
theorem eqCallV_spec (xs ys : List CallV) (hl : xs.length < 4611686018427387904) : Abs.Spec Tryz.prog 81 [] [.sl 4 (xs.map CallV.cells), .sl 4 (ys.map CallV.cells)] [] (.bool (decide (xs = ys))) := by
  refine Abs.Spec.go (n := 26) (np := 2) (rs := [.tmp 4]) mixed Tryz.func81 rfl rfl rfl rfl rfl (by simp) (by simp) ?_
  simp only [go_sem, Nat.reduceAdd, Nat.reduceSub, Nat.reduceMul, Nat.reducePow, Nat.reduceEqDiff, Nat.reduceLT, Nat.reduceLeDiff, Nat.reduceBEq, Nat.reduceBNe, Int.reduceToNat, Int.reduceLT, Int.reduceLE, Int.reduceEq, Int.reduceBNe, Int.reduceBEq, Int.reduceAdd, Int.reduceSub, Int.reduceMul, Int.reduceNeg, ↓reduceIte, List.length_map]
  by_cases hlen : xs.length = ys.length
  case neg =>
    have b : ((xs.length : Int) == (ys.length : Int)) = false := by rw [beq_eq_false_iff_ne]; omega
    have e : decide (xs = ys) = false := decide_eq_false fun h => hlen (by rw [h])
    simp only [go_sem, Nat.reduceAdd, Nat.reduceSub, Nat.reduceMul, Nat.reducePow, Nat.reduceEqDiff, Nat.reduceLT, Nat.reduceLeDiff, Nat.reduceBEq, Nat.reduceBNe, Int.reduceToNat, Int.reduceLT, Int.reduceLE, Int.reduceEq, Int.reduceBNe, Int.reduceBEq, Int.reduceAdd, Int.reduceSub, Int.reduceMul, Int.reduceNeg, ↓reduceIte, bne, b, e]
  have b : ((xs.length : Int) == (ys.length : Int)) = true := by rw [beq_iff_eq]; omega
  simp only [go_sem, Nat.reduceAdd, Nat.reduceSub, Nat.reduceMul, Nat.reducePow, Nat.reduceEqDiff, Nat.reduceLT, Nat.reduceLeDiff, Nat.reduceBEq, Nat.reduceBNe, Int.reduceToNat, Int.reduceLT, Int.reduceLE, Int.reduceEq, Int.reduceBNe, Int.reduceBEq, Int.reduceAdd, Int.reduceSub, Int.reduceMul, Int.reduceNeg, ↓reduceIte, bne, b, List.length_map]
  refine LoopK.walk (S := Unit) xs.length [0, 1, 12] [208] (fun i _ => [(13, .int .i64 i)]) (fun i _ => []) (fun i _ => ∀ j (h1 : j < xs.length) (h2 : j < ys.length), j < i → xs[j] = ys[j]) () (by simp only [go_sem, Nat.reduceAdd, Nat.reduceSub, Nat.reduceMul, Nat.reducePow, Nat.reduceEqDiff, Nat.reduceLT, Nat.reduceLeDiff, Nat.reduceBEq, Nat.reduceBNe, Int.reduceToNat, Int.reduceLT, Int.reduceLE, Int.reduceEq, Int.reduceBNe, Int.reduceBEq, Int.reduceAdd, Int.reduceSub, Int.reduceMul, Int.reduceNeg, ↓reduceIte] <;> exact rfl) (by simp only [go_sem, Nat.reduceAdd, Nat.reduceSub, Nat.reduceMul, Nat.reducePow, Nat.reduceEqDiff, Nat.reduceLT, Nat.reduceLeDiff, Nat.reduceBEq, Nat.reduceBNe, Int.reduceToNat, Int.reduceLT, Int.reduceLE, Int.reduceEq, Int.reduceBNe, Int.reduceBEq, Int.reduceAdd, Int.reduceSub, Int.reduceMul, Int.reduceNeg, ↓reduceIte] <;> exact rfl) (by intros; omega) ?_ ?_ ?_
  · simp only [go_sem, Nat.reduceAdd, Nat.reduceSub, Nat.reduceMul, Nat.reducePow, Nat.reduceEqDiff, Nat.reduceLT, Nat.reduceLeDiff, Nat.reduceBEq, Nat.reduceBNe, Int.reduceToNat, Int.reduceLT, Int.reduceLE, Int.reduceEq, Int.reduceBNe, Int.reduceBEq, Int.reduceAdd, Int.reduceSub, Int.reduceMul, Int.reduceNeg, ↓reduceIte] <;> simp
  · intro i _ hi hdi hw hI
    have hi2 : i < ys.length := by omega
    have hm := map_at (c := CallV.cells) xs hi
    have hm2 := map_at (c := CallV.cells) ys hi2
    have e0 := eq_next hI hi hi2
    have e1 : xs[i] ≠ ys[i] → decide (xs = ys) = false := fun h => decide_eq_false fun e => h (by subst e; rfl)
    have hl1 : (i : Int) < (xs.length : Int) := by omega
    have hl2 : (i : Int) < (ys.length : Int) := by omega
    obtain ⟨x, hx⟩ : ∃ x, x = xs[i] := ⟨_, rfl⟩
    obtain ⟨y, hy⟩ : ∃ y, y = ys[i] := ⟨_, rfl⟩
    rw [← hx] at hm e0 e1
    rw [← hy] at hm2 e0 e1
    simp only [CallV.cells] at *
    clear hx hy hI hlen
    simp only [go_sem, Nat.reduceAdd, Nat.reduceSub, Nat.reduceMul, Nat.reducePow, Nat.reduceEqDiff, Nat.reduceLT, Nat.reduceLeDiff, Nat.reduceBEq, Nat.reduceBNe, Int.reduceToNat, Int.reduceLT, Int.reduceLE, Int.reduceEq, Int.reduceBNe, Int.reduceBEq, Int.reduceAdd, Int.reduceSub, Int.reduceMul, Int.reduceNeg, ↓reduceIte, List.length_map, hdi, hm, hm2]
    repeat' (with_reducible first
        | refine And.intro ?_ ?_
        | exact DrawN.mk (by kernel_rfl)
        | exact OkN.mk (by kernel_rfl)
        | refine CallN.pure (by assumption) ?_
        | refine GuardK.splitDN (fun h => ?_) (fun h => ?_)
        | refine GuardK.splitD (fun h => ?_) (fun h => ?_)
        | refine CondE.splitDN (fun h => ?_) (fun h => ?_)
        | refine CondE.splitD (fun h => ?_) (fun h => ?_)
        | refine GuardK.splitN (fun h => ?_) (fun h => ?_)
        | refine GuardK.split (fun h => ?_) (fun h => ?_)
        | refine CondE.splitN (fun h => ?_) (fun h => ?_)
        | refine CondE.split (fun h => ?_) (fun h => ?_)
        | refine WeakK.id ?_
        | refine RoundK.next (by omega) ?_ ?_
        | exact trivial
        | simp only [*, go_sem, Nat.reduceAdd, Nat.reduceSub, Nat.reduceMul, Nat.reducePow, Nat.reduceEqDiff, Nat.reduceLT, Nat.reduceLeDiff, Nat.reduceBEq, Nat.reduceBNe, Int.reduceToNat, Int.reduceLT, Int.reduceLE, Int.reduceEq, Int.reduceBNe, Int.reduceBEq, Int.reduceAdd, Int.reduceSub, Int.reduceMul, Int.reduceNeg, ↓reduceIte, hm, hm2, List.length_map])
    all_goals first
      | omega
      | (refine RoundK.step () hi (e0 ?_) ?_
         · clear e0 e1; cases x; cases y; simp_all; done
         · simp only [go_sem, Nat.reduceAdd, Nat.reduceSub, Nat.reduceMul, Nat.reducePow, Nat.reduceEqDiff, Nat.reduceLT, Nat.reduceLeDiff, Nat.reduceBEq, Nat.reduceBNe, Int.reduceToNat, Int.reduceLT, Int.reduceLE, Int.reduceEq, Int.reduceBNe, Int.reduceBEq, Int.reduceAdd, Int.reduceSub, Int.reduceMul, Int.reduceNeg, ↓reduceIte])
      | (rw [e1 ?_]; clear e0 e1; cases x; cases y; simp_all; done)
  · intro _ hdx hI
    have e : decide (xs = ys) = true := decide_eq_true (ext_list hlen hI)
    simp only [go_sem, Nat.reduceAdd, Nat.reduceSub, Nat.reduceMul, Nat.reducePow, Nat.reduceEqDiff, Nat.reduceLT, Nat.reduceLeDiff, Nat.reduceBEq, Nat.reduceBNe, Int.reduceToNat, Int.reduceLT, Int.reduceLE, Int.reduceEq, Int.reduceBNe, Int.reduceBEq, Int.reduceAdd, Int.reduceSub, Int.reduceMul, Int.reduceNeg, ↓reduceIte, List.length_map, hdx, e]
set_option maxHeartbeats 1000000 in
set_option maxRecDepth 8000 in
theorem eqBidV_spec (xs ys : List BidV) (hl : xs.length < 4611686018427387904) : Abs.Spec Tryz.prog 82 [] [.sl 5 (xs.map BidV.cells), .sl 5 (ys.map BidV.cells)] [] (.bool (decide (xs = ys))) := by
  refine Abs.Spec.go (n := 26) (np := 2) (rs := [.tmp 4]) mixed Tryz.func82 rfl rfl rfl rfl rfl (by simp) (by simp) ?_
  simp only [go_sem, Nat.reduceAdd, Nat.reduceSub, Nat.reduceMul, Nat.reducePow, Nat.reduceEqDiff, Nat.reduceLT, Nat.reduceLeDiff, Nat.reduceBEq, Nat.reduceBNe, Int.reduceToNat, Int.reduceLT, Int.reduceLE, Int.reduceEq, Int.reduceBNe, Int.reduceBEq, Int.reduceAdd, Int.reduceSub, Int.reduceMul, Int.reduceNeg, ↓reduceIte, List.length_map]
  by_cases hlen : xs.length = ys.length
  case neg =>
    have b : ((xs.length : Int) == (ys.length : Int)) = false := by rw [beq_eq_false_iff_ne]; omega
    have e : decide (xs = ys) = false := decide_eq_false fun h => hlen (by rw [h])
    simp only [go_sem, Nat.reduceAdd, Nat.reduceSub, Nat.reduceMul, Nat.reducePow, Nat.reduceEqDiff, Nat.reduceLT, Nat.reduceLeDiff, Nat.reduceBEq, Nat.reduceBNe, Int.reduceToNat, Int.reduceLT, Int.reduceLE, Int.reduceEq, Int.reduceBNe, Int.reduceBEq, Int.reduceAdd, Int.reduceSub, Int.reduceMul, Int.reduceNeg, ↓reduceIte, bne, b, e]
  have b : ((xs.length : Int) == (ys.length : Int)) = true := by rw [beq_iff_eq]; omega
  simp only [go_sem, Nat.reduceAdd, Nat.reduceSub, Nat.reduceMul, Nat.reducePow, Nat.reduceEqDiff, Nat.reduceLT, Nat.reduceLeDiff, Nat.reduceBEq, Nat.reduceBNe, Int.reduceToNat, Int.reduceLT, Int.reduceLE, Int.reduceEq, Int.reduceBNe, Int.reduceBEq, Int.reduceAdd, Int.reduceSub, Int.reduceMul, Int.reduceNeg, ↓reduceIte, bne, b, List.length_map]
  refine LoopK.walk (S := Unit) xs.length [0, 1, 12] [208] (fun i _ => [(13, .int .i64 i)]) (fun i _ => []) (fun i _ => ∀ j (h1 : j < xs.length) (h2 : j < ys.length), j < i → xs[j] = ys[j]) () (by simp only [go_sem, Nat.reduceAdd, Nat.reduceSub, Nat.reduceMul, Nat.reducePow, Nat.reduceEqDiff, Nat.reduceLT, Nat.reduceLeDiff, Nat.reduceBEq, Nat.reduceBNe, Int.reduceToNat, Int.reduceLT, Int.reduceLE, Int.reduceEq, Int.reduceBNe, Int.reduceBEq, Int.reduceAdd, Int.reduceSub, Int.reduceMul, Int.reduceNeg, ↓reduceIte] <;> exact rfl) (by simp only [go_sem, Nat.reduceAdd, Nat.reduceSub, Nat.reduceMul, Nat.reducePow, Nat.reduceEqDiff, Nat.reduceLT, Nat.reduceLeDiff, Nat.reduceBEq, Nat.reduceBNe, Int.reduceToNat, Int.reduceLT, Int.reduceLE, Int.reduceEq, Int.reduceBNe, Int.reduceBEq, Int.reduceAdd, Int.reduceSub, Int.reduceMul, Int.reduceNeg, ↓reduceIte] <;> exact rfl) (by intros; omega) ?_ ?_ ?_
  · simp only [go_sem, Nat.reduceAdd, Nat.reduceSub, Nat.reduceMul, Nat.reducePow, Nat.reduceEqDiff, Nat.reduceLT, Nat.reduceLeDiff, Nat.reduceBEq, Nat.reduceBNe, Int.reduceToNat, Int.reduceLT, Int.reduceLE, Int.reduceEq, Int.reduceBNe, Int.reduceBEq, Int.reduceAdd, Int.reduceSub, Int.reduceMul, Int.reduceNeg, ↓reduceIte] <;> simp
  · intro i _ hi hdi hw hI
    have hi2 : i < ys.length := by omega
    have hm := map_at (c := BidV.cells) xs hi
    have hm2 := map_at (c := BidV.cells) ys hi2
    have e0 := eq_next hI hi hi2
    have e1 : xs[i] ≠ ys[i] → decide (xs = ys) = false := fun h => decide_eq_false fun e => h (by subst e; rfl)
    have hl1 : (i : Int) < (xs.length : Int) := by omega
    have hl2 : (i : Int) < (ys.length : Int) := by omega
    obtain ⟨x, hx⟩ : ∃ x, x = xs[i] := ⟨_, rfl⟩
    obtain ⟨y, hy⟩ : ∃ y, y = ys[i] := ⟨_, rfl⟩
    rw [← hx] at hm e0 e1
    rw [← hy] at hm2 e0 e1
    simp only [BidV.cells] at *
    clear hx hy hI hlen
    simp only [go_sem, Nat.reduceAdd, Nat.reduceSub, Nat.reduceMul, Nat.reducePow, Nat.reduceEqDiff, Nat.reduceLT, Nat.reduceLeDiff, Nat.reduceBEq, Nat.reduceBNe, Int.reduceToNat, Int.reduceLT, Int.reduceLE, Int.reduceEq, Int.reduceBNe, Int.reduceBEq, Int.reduceAdd, Int.reduceSub, Int.reduceMul, Int.reduceNeg, ↓reduceIte, List.length_map, hdi, hm, hm2]
    repeat' (with_reducible first
        | refine And.intro ?_ ?_
        | exact DrawN.mk (by kernel_rfl)
        | exact OkN.mk (by kernel_rfl)
        | refine CallN.pure (by assumption) ?_
        | refine GuardK.splitDN (fun h => ?_) (fun h => ?_)
        | refine GuardK.splitD (fun h => ?_) (fun h => ?_)
        | refine CondE.splitDN (fun h => ?_) (fun h => ?_)
        | refine CondE.splitD (fun h => ?_) (fun h => ?_)
        | refine GuardK.splitN (fun h => ?_) (fun h => ?_)
        | refine GuardK.split (fun h => ?_) (fun h => ?_)
        | refine CondE.splitN (fun h => ?_) (fun h => ?_)
        | refine CondE.split (fun h => ?_) (fun h => ?_)
        | refine WeakK.id ?_
        | refine RoundK.next (by omega) ?_ ?_
        | exact trivial
        | simp only [*, go_sem, Nat.reduceAdd, Nat.reduceSub, Nat.reduceMul, Nat.reducePow, Nat.reduceEqDiff, Nat.reduceLT, Nat.reduceLeDiff, Nat.reduceBEq, Nat.reduceBNe, Int.reduceToNat, Int.reduceLT, Int.reduceLE, Int.reduceEq, Int.reduceBNe, Int.reduceBEq, Int.reduceAdd, Int.reduceSub, Int.reduceMul, Int.reduceNeg, ↓reduceIte, hm, hm2, List.length_map])
    all_goals first
      | omega
      | (refine RoundK.step () hi (e0 ?_) ?_
         · clear e0 e1; cases x; cases y; simp_all; done
         · simp only [go_sem, Nat.reduceAdd, Nat.reduceSub, Nat.reduceMul, Nat.reducePow, Nat.reduceEqDiff, Nat.reduceLT, Nat.reduceLeDiff, Nat.reduceBEq, Nat.reduceBNe, Int.reduceToNat, Int.reduceLT, Int.reduceLE, Int.reduceEq, Int.reduceBNe, Int.reduceBEq, Int.reduceAdd, Int.reduceSub, Int.reduceMul, Int.reduceNeg, ↓reduceIte])
      | (rw [e1 ?_]; clear e0 e1; cases x; cases y; simp_all; done)
  · intro _ hdx hI
    have e : decide (xs = ys) = true := decide_eq_true (ext_list hlen hI)
    simp only [go_sem, Nat.reduceAdd, Nat.reduceSub, Nat.reduceMul, Nat.reducePow, Nat.reduceEqDiff, Nat.reduceLT, Nat.reduceLeDiff, Nat.reduceBEq, Nat.reduceBNe, Int.reduceToNat, Int.reduceLT, Int.reduceLE, Int.reduceEq, Int.reduceBNe, Int.reduceBEq, Int.reduceAdd, Int.reduceSub, Int.reduceMul, Int.reduceNeg, ↓reduceIte, List.length_map, hdx, e]
set_option maxHeartbeats 1000000 in
set_option maxRecDepth 8000 in
theorem eqDueV_spec (xs ys : List DueV) (hl : xs.length < 4611686018427387904) : Abs.Spec Tryz.prog 159 [] [.sl 3 (xs.map DueV.cells), .sl 3 (ys.map DueV.cells)] [] (.bool (decide (xs = ys))) := by
  refine Abs.Spec.go (n := 26) (np := 2) (rs := [.tmp 4]) mixed Tryz.func159 rfl rfl rfl rfl rfl (by simp) (by simp) ?_
  simp only [go_sem, Nat.reduceAdd, Nat.reduceSub, Nat.reduceMul, Nat.reducePow, Nat.reduceEqDiff, Nat.reduceLT, Nat.reduceLeDiff, Nat.reduceBEq, Nat.reduceBNe, Int.reduceToNat, Int.reduceLT, Int.reduceLE, Int.reduceEq, Int.reduceBNe, Int.reduceBEq, Int.reduceAdd, Int.reduceSub, Int.reduceMul, Int.reduceNeg, ↓reduceIte, List.length_map]
  by_cases hlen : xs.length = ys.length
  case neg =>
    have b : ((xs.length : Int) == (ys.length : Int)) = false := by rw [beq_eq_false_iff_ne]; omega
    have e : decide (xs = ys) = false := decide_eq_false fun h => hlen (by rw [h])
    simp only [go_sem, Nat.reduceAdd, Nat.reduceSub, Nat.reduceMul, Nat.reducePow, Nat.reduceEqDiff, Nat.reduceLT, Nat.reduceLeDiff, Nat.reduceBEq, Nat.reduceBNe, Int.reduceToNat, Int.reduceLT, Int.reduceLE, Int.reduceEq, Int.reduceBNe, Int.reduceBEq, Int.reduceAdd, Int.reduceSub, Int.reduceMul, Int.reduceNeg, ↓reduceIte, bne, b, e]
  have b : ((xs.length : Int) == (ys.length : Int)) = true := by rw [beq_iff_eq]; omega
  simp only [go_sem, Nat.reduceAdd, Nat.reduceSub, Nat.reduceMul, Nat.reducePow, Nat.reduceEqDiff, Nat.reduceLT, Nat.reduceLeDiff, Nat.reduceBEq, Nat.reduceBNe, Int.reduceToNat, Int.reduceLT, Int.reduceLE, Int.reduceEq, Int.reduceBNe, Int.reduceBEq, Int.reduceAdd, Int.reduceSub, Int.reduceMul, Int.reduceNeg, ↓reduceIte, bne, b, List.length_map]
  refine LoopK.walk (S := Unit) xs.length [0, 1, 12] [208] (fun i _ => [(13, .int .i64 i)]) (fun i _ => []) (fun i _ => ∀ j (h1 : j < xs.length) (h2 : j < ys.length), j < i → xs[j] = ys[j]) () (by simp only [go_sem, Nat.reduceAdd, Nat.reduceSub, Nat.reduceMul, Nat.reducePow, Nat.reduceEqDiff, Nat.reduceLT, Nat.reduceLeDiff, Nat.reduceBEq, Nat.reduceBNe, Int.reduceToNat, Int.reduceLT, Int.reduceLE, Int.reduceEq, Int.reduceBNe, Int.reduceBEq, Int.reduceAdd, Int.reduceSub, Int.reduceMul, Int.reduceNeg, ↓reduceIte] <;> exact rfl) (by simp only [go_sem, Nat.reduceAdd, Nat.reduceSub, Nat.reduceMul, Nat.reducePow, Nat.reduceEqDiff, Nat.reduceLT, Nat.reduceLeDiff, Nat.reduceBEq, Nat.reduceBNe, Int.reduceToNat, Int.reduceLT, Int.reduceLE, Int.reduceEq, Int.reduceBNe, Int.reduceBEq, Int.reduceAdd, Int.reduceSub, Int.reduceMul, Int.reduceNeg, ↓reduceIte] <;> exact rfl) (by intros; omega) ?_ ?_ ?_
  · simp only [go_sem, Nat.reduceAdd, Nat.reduceSub, Nat.reduceMul, Nat.reducePow, Nat.reduceEqDiff, Nat.reduceLT, Nat.reduceLeDiff, Nat.reduceBEq, Nat.reduceBNe, Int.reduceToNat, Int.reduceLT, Int.reduceLE, Int.reduceEq, Int.reduceBNe, Int.reduceBEq, Int.reduceAdd, Int.reduceSub, Int.reduceMul, Int.reduceNeg, ↓reduceIte] <;> simp
  · intro i _ hi hdi hw hI
    have hi2 : i < ys.length := by omega
    have hm := map_at (c := DueV.cells) xs hi
    have hm2 := map_at (c := DueV.cells) ys hi2
    have e0 := eq_next hI hi hi2
    have e1 : xs[i] ≠ ys[i] → decide (xs = ys) = false := fun h => decide_eq_false fun e => h (by subst e; rfl)
    have hl1 : (i : Int) < (xs.length : Int) := by omega
    have hl2 : (i : Int) < (ys.length : Int) := by omega
    obtain ⟨x, hx⟩ : ∃ x, x = xs[i] := ⟨_, rfl⟩
    obtain ⟨y, hy⟩ : ∃ y, y = ys[i] := ⟨_, rfl⟩
    rw [← hx] at hm e0 e1
    rw [← hy] at hm2 e0 e1
    simp only [DueV.cells] at *
    clear hx hy hI hlen
    simp only [go_sem, Nat.reduceAdd, Nat.reduceSub, Nat.reduceMul, Nat.reducePow, Nat.reduceEqDiff, Nat.reduceLT, Nat.reduceLeDiff, Nat.reduceBEq, Nat.reduceBNe, Int.reduceToNat, Int.reduceLT, Int.reduceLE, Int.reduceEq, Int.reduceBNe, Int.reduceBEq, Int.reduceAdd, Int.reduceSub, Int.reduceMul, Int.reduceNeg, ↓reduceIte, List.length_map, hdi, hm, hm2]
    repeat' (with_reducible first
        | refine And.intro ?_ ?_
        | exact DrawN.mk (by kernel_rfl)
        | exact OkN.mk (by kernel_rfl)
        | refine CallN.pure (by assumption) ?_
        | refine GuardK.splitDN (fun h => ?_) (fun h => ?_)
        | refine GuardK.splitD (fun h => ?_) (fun h => ?_)
        | refine CondE.splitDN (fun h => ?_) (fun h => ?_)
        | refine CondE.splitD (fun h => ?_) (fun h => ?_)
        | refine GuardK.splitN (fun h => ?_) (fun h => ?_)
        | refine GuardK.split (fun h => ?_) (fun h => ?_)
        | refine CondE.splitN (fun h => ?_) (fun h => ?_)
        | refine CondE.split (fun h => ?_) (fun h => ?_)
        | refine WeakK.id ?_
        | refine RoundK.next (by omega) ?_ ?_
        | exact trivial
        | simp only [*, go_sem, Nat.reduceAdd, Nat.reduceSub, Nat.reduceMul, Nat.reducePow, Nat.reduceEqDiff, Nat.reduceLT, Nat.reduceLeDiff, Nat.reduceBEq, Nat.reduceBNe, Int.reduceToNat, Int.reduceLT, Int.reduceLE, Int.reduceEq, Int.reduceBNe, Int.reduceBEq, Int.reduceAdd, Int.reduceSub, Int.reduceMul, Int.reduceNeg, ↓reduceIte, hm, hm2, List.length_map])
    all_goals first
      | omega
      | (refine RoundK.step () hi (e0 ?_) ?_
         · clear e0 e1; cases x; cases y; simp_all; done
         · simp only [go_sem, Nat.reduceAdd, Nat.reduceSub, Nat.reduceMul, Nat.reducePow, Nat.reduceEqDiff, Nat.reduceLT, Nat.reduceLeDiff, Nat.reduceBEq, Nat.reduceBNe, Int.reduceToNat, Int.reduceLT, Int.reduceLE, Int.reduceEq, Int.reduceBNe, Int.reduceBEq, Int.reduceAdd, Int.reduceSub, Int.reduceMul, Int.reduceNeg, ↓reduceIte])
      | (rw [e1 ?_]; clear e0 e1; cases x; cases y; simp_all; done)
  · intro _ hdx hI
    have e : decide (xs = ys) = true := decide_eq_true (ext_list hlen hI)
    simp only [go_sem, Nat.reduceAdd, Nat.reduceSub, Nat.reduceMul, Nat.reducePow, Nat.reduceEqDiff, Nat.reduceLT, Nat.reduceLeDiff, Nat.reduceBEq, Nat.reduceBNe, Int.reduceToNat, Int.reduceLT, Int.reduceLE, Int.reduceEq, Int.reduceBNe, Int.reduceBEq, Int.reduceAdd, Int.reduceSub, Int.reduceMul, Int.reduceNeg, ↓reduceIte, List.length_map, hdx, e]
set_option maxHeartbeats 1000000 in
set_option maxRecDepth 8000 in
theorem eqFallV_spec (xs ys : List FallV) (hl : xs.length < 4611686018427387904) : Abs.Spec Tryz.prog 160 [] [.sl 8 (xs.map FallV.cells), .sl 8 (ys.map FallV.cells)] [] (.bool (decide (xs = ys))) := by
  refine Abs.Spec.go (n := 26) (np := 2) (rs := [.tmp 4]) mixed Tryz.func160 rfl rfl rfl rfl rfl (by simp) (by simp) ?_
  simp only [go_sem, Nat.reduceAdd, Nat.reduceSub, Nat.reduceMul, Nat.reducePow, Nat.reduceEqDiff, Nat.reduceLT, Nat.reduceLeDiff, Nat.reduceBEq, Nat.reduceBNe, Int.reduceToNat, Int.reduceLT, Int.reduceLE, Int.reduceEq, Int.reduceBNe, Int.reduceBEq, Int.reduceAdd, Int.reduceSub, Int.reduceMul, Int.reduceNeg, ↓reduceIte, List.length_map]
  by_cases hlen : xs.length = ys.length
  case neg =>
    have b : ((xs.length : Int) == (ys.length : Int)) = false := by rw [beq_eq_false_iff_ne]; omega
    have e : decide (xs = ys) = false := decide_eq_false fun h => hlen (by rw [h])
    simp only [go_sem, Nat.reduceAdd, Nat.reduceSub, Nat.reduceMul, Nat.reducePow, Nat.reduceEqDiff, Nat.reduceLT, Nat.reduceLeDiff, Nat.reduceBEq, Nat.reduceBNe, Int.reduceToNat, Int.reduceLT, Int.reduceLE, Int.reduceEq, Int.reduceBNe, Int.reduceBEq, Int.reduceAdd, Int.reduceSub, Int.reduceMul, Int.reduceNeg, ↓reduceIte, bne, b, e]
  have b : ((xs.length : Int) == (ys.length : Int)) = true := by rw [beq_iff_eq]; omega
  simp only [go_sem, Nat.reduceAdd, Nat.reduceSub, Nat.reduceMul, Nat.reducePow, Nat.reduceEqDiff, Nat.reduceLT, Nat.reduceLeDiff, Nat.reduceBEq, Nat.reduceBNe, Int.reduceToNat, Int.reduceLT, Int.reduceLE, Int.reduceEq, Int.reduceBNe, Int.reduceBEq, Int.reduceAdd, Int.reduceSub, Int.reduceMul, Int.reduceNeg, ↓reduceIte, bne, b, List.length_map]
  refine LoopK.walk (S := Unit) xs.length [0, 1, 12] [208] (fun i _ => [(13, .int .i64 i)]) (fun i _ => []) (fun i _ => ∀ j (h1 : j < xs.length) (h2 : j < ys.length), j < i → xs[j] = ys[j]) () (by simp only [go_sem, Nat.reduceAdd, Nat.reduceSub, Nat.reduceMul, Nat.reducePow, Nat.reduceEqDiff, Nat.reduceLT, Nat.reduceLeDiff, Nat.reduceBEq, Nat.reduceBNe, Int.reduceToNat, Int.reduceLT, Int.reduceLE, Int.reduceEq, Int.reduceBNe, Int.reduceBEq, Int.reduceAdd, Int.reduceSub, Int.reduceMul, Int.reduceNeg, ↓reduceIte] <;> exact rfl) (by simp only [go_sem, Nat.reduceAdd, Nat.reduceSub, Nat.reduceMul, Nat.reducePow, Nat.reduceEqDiff, Nat.reduceLT, Nat.reduceLeDiff, Nat.reduceBEq, Nat.reduceBNe, Int.reduceToNat, Int.reduceLT, Int.reduceLE, Int.reduceEq, Int.reduceBNe, Int.reduceBEq, Int.reduceAdd, Int.reduceSub, Int.reduceMul, Int.reduceNeg, ↓reduceIte] <;> exact rfl) (by intros; omega) ?_ ?_ ?_
  · simp only [go_sem, Nat.reduceAdd, Nat.reduceSub, Nat.reduceMul, Nat.reducePow, Nat.reduceEqDiff, Nat.reduceLT, Nat.reduceLeDiff, Nat.reduceBEq, Nat.reduceBNe, Int.reduceToNat, Int.reduceLT, Int.reduceLE, Int.reduceEq, Int.reduceBNe, Int.reduceBEq, Int.reduceAdd, Int.reduceSub, Int.reduceMul, Int.reduceNeg, ↓reduceIte] <;> simp
  · intro i _ hi hdi hw hI
    have hi2 : i < ys.length := by omega
    have hm := map_at (c := FallV.cells) xs hi
    have hm2 := map_at (c := FallV.cells) ys hi2
    have e0 := eq_next hI hi hi2
    have e1 : xs[i] ≠ ys[i] → decide (xs = ys) = false := fun h => decide_eq_false fun e => h (by subst e; rfl)
    have hl1 : (i : Int) < (xs.length : Int) := by omega
    have hl2 : (i : Int) < (ys.length : Int) := by omega
    obtain ⟨x, hx⟩ : ∃ x, x = xs[i] := ⟨_, rfl⟩
    obtain ⟨y, hy⟩ : ∃ y, y = ys[i] := ⟨_, rfl⟩
    rw [← hx] at hm e0 e1
    rw [← hy] at hm2 e0 e1
    simp only [FallV.cells] at *
    clear hx hy hI hlen
    simp only [go_sem, Nat.reduceAdd, Nat.reduceSub, Nat.reduceMul, Nat.reducePow, Nat.reduceEqDiff, Nat.reduceLT, Nat.reduceLeDiff, Nat.reduceBEq, Nat.reduceBNe, Int.reduceToNat, Int.reduceLT, Int.reduceLE, Int.reduceEq, Int.reduceBNe, Int.reduceBEq, Int.reduceAdd, Int.reduceSub, Int.reduceMul, Int.reduceNeg, ↓reduceIte, List.length_map, hdi, hm, hm2]
    repeat' (with_reducible first
        | refine And.intro ?_ ?_
        | exact DrawN.mk (by kernel_rfl)
        | exact OkN.mk (by kernel_rfl)
        | refine CallN.pure (by assumption) ?_
        | refine GuardK.splitDN (fun h => ?_) (fun h => ?_)
        | refine GuardK.splitD (fun h => ?_) (fun h => ?_)
        | refine CondE.splitDN (fun h => ?_) (fun h => ?_)
        | refine CondE.splitD (fun h => ?_) (fun h => ?_)
        | refine GuardK.splitN (fun h => ?_) (fun h => ?_)
        | refine GuardK.split (fun h => ?_) (fun h => ?_)
        | refine CondE.splitN (fun h => ?_) (fun h => ?_)
        | refine CondE.split (fun h => ?_) (fun h => ?_)
        | refine WeakK.id ?_
        | refine RoundK.next (by omega) ?_ ?_
        | exact trivial
        | simp only [*, go_sem, Nat.reduceAdd, Nat.reduceSub, Nat.reduceMul, Nat.reducePow, Nat.reduceEqDiff, Nat.reduceLT, Nat.reduceLeDiff, Nat.reduceBEq, Nat.reduceBNe, Int.reduceToNat, Int.reduceLT, Int.reduceLE, Int.reduceEq, Int.reduceBNe, Int.reduceBEq, Int.reduceAdd, Int.reduceSub, Int.reduceMul, Int.reduceNeg, ↓reduceIte, hm, hm2, List.length_map])
    all_goals first
      | omega
      | (refine RoundK.step () hi (e0 ?_) ?_
         · clear e0 e1; cases x; cases y; simp_all; done
         · simp only [go_sem, Nat.reduceAdd, Nat.reduceSub, Nat.reduceMul, Nat.reducePow, Nat.reduceEqDiff, Nat.reduceLT, Nat.reduceLeDiff, Nat.reduceBEq, Nat.reduceBNe, Int.reduceToNat, Int.reduceLT, Int.reduceLE, Int.reduceEq, Int.reduceBNe, Int.reduceBEq, Int.reduceAdd, Int.reduceSub, Int.reduceMul, Int.reduceNeg, ↓reduceIte])
      | (rw [e1 ?_]; clear e0 e1; cases x; cases y; simp_all; done)
  · intro _ hdx hI
    have e : decide (xs = ys) = true := decide_eq_true (ext_list hlen hI)
    simp only [go_sem, Nat.reduceAdd, Nat.reduceSub, Nat.reduceMul, Nat.reducePow, Nat.reduceEqDiff, Nat.reduceLT, Nat.reduceLeDiff, Nat.reduceBEq, Nat.reduceBNe, Int.reduceToNat, Int.reduceLT, Int.reduceLE, Int.reduceEq, Int.reduceBNe, Int.reduceBEq, Int.reduceAdd, Int.reduceSub, Int.reduceMul, Int.reduceNeg, ↓reduceIte, List.length_map, hdx, e]
set_option maxRecDepth 8000 in
set_option maxHeartbeats 1000000 in
theorem eqSeat1_spec (a b : SeatV) (h1 : a.r.dues.length < 4611686018427387904) (h2 : a.r.falls.length < 4611686018427387904) : Abs.Spec Tryz.prog 158 [] [.agg a.cells, .agg b.cells] [] (.bool (decide (a = b))) := by
  have c1 := eqDueV_spec a.r.dues b.r.dues h1
  have c2 := eqFallV_spec a.r.falls b.r.falls h2
  simp only [SeatV.cells]
  refine Abs.Spec.go (n := 62) (np := 2) (rs := [.tmp 4]) mixed Tryz.func158 rfl rfl rfl rfl rfl (by simp) (by simp) ?_
  simp only [go_sem, Nat.reduceAdd, Nat.reduceSub, Nat.reduceMul, Nat.reducePow, Nat.reduceEqDiff, Nat.reduceLT, Nat.reduceLeDiff, Nat.reduceBEq, Nat.reduceBNe, Int.reduceToNat, Int.reduceLT, Int.reduceLE, Int.reduceEq, Int.reduceBNe, Int.reduceBEq, Int.reduceAdd, Int.reduceSub, Int.reduceMul, Int.reduceNeg, ↓reduceIte]
  repeat' (with_reducible first
      | refine And.intro ?_ ?_
      | exact DrawN.mk (by kernel_rfl)
      | exact OkN.mk (by kernel_rfl)
      | refine CallN.pure (by assumption) ?_
      | refine CallN.pure (c1) ?_
      | refine CallN.pure (c2) ?_
      | refine GuardK.splitDN (fun h => ?_) (fun h => ?_)
      | refine GuardK.splitD (fun h => ?_) (fun h => ?_)
      | refine CondE.splitDN (fun h => ?_) (fun h => ?_)
      | refine CondE.splitD (fun h => ?_) (fun h => ?_)
      | refine GuardK.splitN (fun h => ?_) (fun h => ?_)
      | refine GuardK.split (fun h => ?_) (fun h => ?_)
      | refine CondE.splitN (fun h => ?_) (fun h => ?_)
      | refine CondE.split (fun h => ?_) (fun h => ?_)
      | refine WeakK.id ?_
      | refine RoundK.next (by omega) ?_ ?_
      | exact trivial
      | simp only [*, go_sem, Nat.reduceAdd, Nat.reduceSub, Nat.reduceMul, Nat.reducePow, Nat.reduceEqDiff, Nat.reduceLT, Nat.reduceLeDiff, Nat.reduceBEq, Nat.reduceBNe, Int.reduceToNat, Int.reduceLT, Int.reduceLE, Int.reduceEq, Int.reduceBNe, Int.reduceBEq, Int.reduceAdd, Int.reduceSub, Int.reduceMul, Int.reduceNeg, ↓reduceIte])
  all_goals (rw [Bool.eq_iff_iff]; obtain ⟨x1, x2, ⟨x3, x4, x5, x6, x7⟩⟩ := a; obtain ⟨y1, y2, ⟨y3, y4, y5, y6, y7⟩⟩ := b; simp_all)
set_option maxRecDepth 8000 in
theorem eqSeats_spec (xs ys : List SeatV) (hl : xs.length < 4611686018427387904) (hq : ∀ x ∈ xs, x.r.dues.length < 4611686018427387904 ∧ x.r.falls.length < 4611686018427387904) : Abs.Spec Tryz.prog 157 [] [.sl 7 (xs.map SeatV.cells), .sl 7 (ys.map SeatV.cells), .fn 158 []] [] (.bool (decide (xs = ys))) := by
  refine Abs.Spec.go (n := 32) (np := 3) (rs := [.tmp 6]) mixed Tryz.func157 rfl rfl rfl rfl rfl (by simp) (by simp) ?_
  simp only [go_sem, Nat.reduceAdd, Nat.reduceSub, Nat.reduceMul, Nat.reducePow, Nat.reduceEqDiff, Nat.reduceLT, Nat.reduceLeDiff, Nat.reduceBEq, Nat.reduceBNe, Int.reduceToNat, Int.reduceLT, Int.reduceLE, Int.reduceEq, Int.reduceBNe, Int.reduceBEq, Int.reduceAdd, Int.reduceSub, Int.reduceMul, Int.reduceNeg, ↓reduceIte, List.length_map]
  by_cases hlen : xs.length = ys.length
  case neg =>
    have b : ((xs.length : Int) == (ys.length : Int)) = false := by rw [beq_eq_false_iff_ne]; omega
    have e : decide (xs = ys) = false := decide_eq_false fun h => hlen (by rw [h])
    simp only [go_sem, Nat.reduceAdd, Nat.reduceSub, Nat.reduceMul, Nat.reducePow, Nat.reduceEqDiff, Nat.reduceLT, Nat.reduceLeDiff, Nat.reduceBEq, Nat.reduceBNe, Int.reduceToNat, Int.reduceLT, Int.reduceLE, Int.reduceEq, Int.reduceBNe, Int.reduceBEq, Int.reduceAdd, Int.reduceSub, Int.reduceMul, Int.reduceNeg, ↓reduceIte, bne, b, e]
  have b : ((xs.length : Int) == (ys.length : Int)) = true := by rw [beq_iff_eq]; omega
  simp only [go_sem, Nat.reduceAdd, Nat.reduceSub, Nat.reduceMul, Nat.reducePow, Nat.reduceEqDiff, Nat.reduceLT, Nat.reduceLeDiff, Nat.reduceBEq, Nat.reduceBNe, Int.reduceToNat, Int.reduceLT, Int.reduceLE, Int.reduceEq, Int.reduceBNe, Int.reduceBEq, Int.reduceAdd, Int.reduceSub, Int.reduceMul, Int.reduceNeg, ↓reduceIte, bne, b, List.length_map]
  refine LoopK.walk (S := Unit) xs.length [1, 2, 15, 16] [] (fun i _ => [(17, .int .i64 i)]) (fun i _ => []) (fun i _ => ∀ j (h1 : j < xs.length) (h2 : j < ys.length), j < i → xs[j] = ys[j]) () (by simp only [go_sem, Nat.reduceAdd, Nat.reduceSub, Nat.reduceMul, Nat.reducePow, Nat.reduceEqDiff, Nat.reduceLT, Nat.reduceLeDiff, Nat.reduceBEq, Nat.reduceBNe, Int.reduceToNat, Int.reduceLT, Int.reduceLE, Int.reduceEq, Int.reduceBNe, Int.reduceBEq, Int.reduceAdd, Int.reduceSub, Int.reduceMul, Int.reduceNeg, ↓reduceIte] <;> exact rfl) (by simp only [go_sem, Nat.reduceAdd, Nat.reduceSub, Nat.reduceMul, Nat.reducePow, Nat.reduceEqDiff, Nat.reduceLT, Nat.reduceLeDiff, Nat.reduceBEq, Nat.reduceBNe, Int.reduceToNat, Int.reduceLT, Int.reduceLE, Int.reduceEq, Int.reduceBNe, Int.reduceBEq, Int.reduceAdd, Int.reduceSub, Int.reduceMul, Int.reduceNeg, ↓reduceIte] <;> exact rfl) (by intros; omega) ?_ ?_ ?_
  · simp only [go_sem, Nat.reduceAdd, Nat.reduceSub, Nat.reduceMul, Nat.reducePow, Nat.reduceEqDiff, Nat.reduceLT, Nat.reduceLeDiff, Nat.reduceBEq, Nat.reduceBNe, Int.reduceToNat, Int.reduceLT, Int.reduceLE, Int.reduceEq, Int.reduceBNe, Int.reduceBEq, Int.reduceAdd, Int.reduceSub, Int.reduceMul, Int.reduceNeg, ↓reduceIte] <;> simp
  · intro i _ hi hdi hw hI
    have hi2 : i < ys.length := by omega
    have hm := map_at (c := SeatV.cells) xs hi
    have hm2 := map_at (c := SeatV.cells) ys hi2
    have e0 := eq_next hI hi hi2
    have e1 : xs[i] ≠ ys[i] → decide (xs = ys) = false := fun h => decide_eq_false fun e => h (by subst e; rfl)
    have hl2 : (i : Int) < (ys.length : Int) := by omega
    have hc := eqSeat1_spec xs[i] ys[i] (hq _ (List.getElem_mem hi)).1 (hq _ (List.getElem_mem hi)).2
    simp only [SeatV.cells] at hm hm2 hc
    simp only [go_sem, Nat.reduceAdd, Nat.reduceSub, Nat.reduceMul, Nat.reducePow, Nat.reduceEqDiff, Nat.reduceLT, Nat.reduceLeDiff, Nat.reduceBEq, Nat.reduceBNe, Int.reduceToNat, Int.reduceLT, Int.reduceLE, Int.reduceEq, Int.reduceBNe, Int.reduceBEq, Int.reduceAdd, Int.reduceSub, Int.reduceMul, Int.reduceNeg, ↓reduceIte, List.length_map, hdi, hm, hm2]
    (repeat' (with_reducible first | refine And.intro ?_ ?_ | exact DrawN.mk (by kernel_rfl) | exact OkN.mk (by kernel_rfl))) <;> try omega
    refine CallN.pure hc ?_
    by_cases he : xs[i] = ys[i]
    · have d : decide (xs[i] = ys[i]) = true := decide_eq_true he
      simp only [go_sem, Nat.reduceAdd, Nat.reduceSub, Nat.reduceMul, Nat.reducePow, Nat.reduceEqDiff, Nat.reduceLT, Nat.reduceLeDiff, Nat.reduceBEq, Nat.reduceBNe, Int.reduceToNat, Int.reduceLT, Int.reduceLE, Int.reduceEq, Int.reduceBNe, Int.reduceBEq, Int.reduceAdd, Int.reduceSub, Int.reduceMul, Int.reduceNeg, ↓reduceIte, d, hw]
      refine RoundK.step () hi (e0 he) ?_
      simp only [go_sem, Nat.reduceAdd, Nat.reduceSub, Nat.reduceMul, Nat.reducePow, Nat.reduceEqDiff, Nat.reduceLT, Nat.reduceLeDiff, Nat.reduceBEq, Nat.reduceBNe, Int.reduceToNat, Int.reduceLT, Int.reduceLE, Int.reduceEq, Int.reduceBNe, Int.reduceBEq, Int.reduceAdd, Int.reduceSub, Int.reduceMul, Int.reduceNeg, ↓reduceIte]
    · have d : decide (xs[i] = ys[i]) = false := decide_eq_false he
      simp only [go_sem, Nat.reduceAdd, Nat.reduceSub, Nat.reduceMul, Nat.reducePow, Nat.reduceEqDiff, Nat.reduceLT, Nat.reduceLeDiff, Nat.reduceBEq, Nat.reduceBNe, Int.reduceToNat, Int.reduceLT, Int.reduceLE, Int.reduceEq, Int.reduceBNe, Int.reduceBEq, Int.reduceAdd, Int.reduceSub, Int.reduceMul, Int.reduceNeg, ↓reduceIte, d, e1 he]
  · intro _ hdx hI
    have e : decide (xs = ys) = true := decide_eq_true (ext_list hlen hI)
    simp only [go_sem, Nat.reduceAdd, Nat.reduceSub, Nat.reduceMul, Nat.reducePow, Nat.reduceEqDiff, Nat.reduceLT, Nat.reduceLeDiff, Nat.reduceBEq, Nat.reduceBNe, Int.reduceToNat, Int.reduceLT, Int.reduceLE, Int.reduceEq, Int.reduceBNe, Int.reduceBEq, Int.reduceAdd, Int.reduceSub, Int.reduceMul, Int.reduceNeg, ↓reduceIte, List.length_map, hdx, e]
theorem sameSeats_spec (xs ys : List SeatV) (hl : xs.length < 4611686018427387904) (hq : ∀ x ∈ xs, x.r.dues.length < 4611686018427387904 ∧ x.r.falls.length < 4611686018427387904) : Abs.Spec Tryz.prog 83 [] [.sl 7 (xs.map SeatV.cells), .sl 7 (ys.map SeatV.cells)] [] (.bool (decide (xs = ys))) := by
  have h := eqSeats_spec xs ys hl hq
  refine Abs.Spec.go (n := 8) (np := 2) (rs := [.tmp 4]) mixed Tryz.func83 rfl rfl rfl rfl rfl (by simp) (by simp) ?_
  simp only [go_sem, Nat.reduceAdd, Nat.reduceSub, Nat.reduceMul, Nat.reducePow, Nat.reduceEqDiff, Nat.reduceLT, Nat.reduceLeDiff, Nat.reduceBEq, Nat.reduceBNe, Int.reduceToNat, Int.reduceLT, Int.reduceLE, Int.reduceEq, Int.reduceBNe, Int.reduceBEq, Int.reduceAdd, Int.reduceSub, Int.reduceMul, Int.reduceNeg, ↓reduceIte]
  refine CallN.pure h ?_
  simp only [go_sem, Nat.reduceAdd, Nat.reduceSub, Nat.reduceMul, Nat.reducePow, Nat.reduceEqDiff, Nat.reduceLT, Nat.reduceLeDiff, Nat.reduceBEq, Nat.reduceBNe, Int.reduceToNat, Int.reduceLT, Int.reduceLE, Int.reduceEq, Int.reduceBNe, Int.reduceBEq, Int.reduceAdd, Int.reduceSub, Int.reduceMul, Int.reduceNeg, ↓reduceIte]
end Go.Proofs.YtbllopdcbkeadaaGreat
