/- What always holds. What was marked and not paid, by the program; what always holds. What always holds, by the program. What differs. No theorem of a claim. -/
import Derived.Test.YtbllopdcbkeadaaGreatLH
set_option linter.unusedSimpArgs false
set_option linter.unusedVariables false
namespace Go.Proofs.YtbllopdcbkeadaaGreat
open Go.Abs
def qZ (s : StateV) (n : Int) : Bool := sumL (qtysL n s.book.qs) == 0
def mZ (s : StateV) (c : Int) : Bool := sumL (monL c [] s.led.bs) == 0
def pZ (s : StateV) (c : Int) : Bool := sumL (varL c s.led.bs ++ papL s.roll c s.book.qs) == 0
def holdsB (s : StateV) : Bool := rightS s && ((List.range 8).all (fun i => qZ s ((i : Int) + 1)) && (List.range 3).all (fun c => mZ s (c : Nat) && pZ s (c : Nat)))
theorem res_zero (S : Int) : (resE S == 0 && resN S == 0) = (S == 0) := by
  rw [Bool.eq_iff_iff]
  simp only [resE, resN, Bool.and_eq_true, beq_iff_eq]
  constructor
  · rintro ⟨h1, h2⟩
    split at h1
    · rename_i h; rw [if_pos h] at h2; exact h2
    · cases h1
  · rintro rfl
    exact ⟨rfl, rfl⟩
theorem range_no {n i : Nat} {f : Nat → Bool} (h : i < n) (hf : f i = false) : (List.range n).all f = false := by
  cases hc : (List.range n).all f
  · rfl
  · rw [List.all_eq_true.1 hc i (List.mem_range.2 h)] at hf; cases hf
theorem range_yes {n : Nat} {f : Nat → Bool} (h : ∀ i < n, f i = true) : (List.range n).all f = true := List.all_eq_true.2 fun i hi => h i (List.mem_range.1 hi)
theorem lt_next {n : Nat} {f : Nat → Bool} (hI : ∀ i < n, f i = true) (h : f n = true) : ∀ i < n + 1, f i = true := fun i hi => by
  rcases Nat.lt_or_ge i n with h1 | h1
  · exact hI i h1
  · obtain rfl : i = n := by omega
    exact h
structure StateV.mid (s : StateV) : Prop where
  small : s.small
  bs : s.led.bs.length < 2 ^ 20
  qs : s.book.qs.length < 2 ^ 20
  ns : s.roll.ns.length < 2 ^ 20
end Go.Proofs.YtbllopdcbkeadaaGreat
set_option linter.unusedSimpArgs false
set_option linter.unusedVariables false
namespace Go.Proofs.YtbllopdcbkeadaaGreat
open Go.Abs
theorem paper1_spec (a b : InstV) : Abs.Spec Tryz.prog 68 [] [.agg a.cells, .eaddr b.cells] [] (.bool (a.no == b.no)) := by
  simp only [InstV.cells]
  refine Abs.Spec.go (n := 9) (np := 2) (rs := [.tmp 3]) mixed Tryz.func68 rfl rfl rfl rfl rfl (by simp) (by simp) ?_
  simp only [go_sem, Nat.reduceAdd, Nat.reduceSub, Nat.reduceMul, Nat.reducePow, Nat.reduceEqDiff, Nat.reduceLT, Nat.reduceLeDiff, Nat.reduceBEq, Nat.reduceBNe, Int.reduceToNat, Int.reduceLT, Int.reduceLE, Int.reduceEq, Int.reduceBNe, Int.reduceBEq, Int.reduceAdd, Int.reduceSub, Int.reduceMul, Int.reduceNeg, ↓reduceIte]
theorem instIndex_spec (xs : List InstV) (x : InstV) (hl : xs.length < 2 ^ 60) : Abs.Spec Tryz.prog 143 [] [.sl 12 (xs.map InstV.cells), .fn 68 [.eaddr x.cells]] [] (.int .i64 (posL InstV.no x.no xs)) := by
  have h := fun a => paper1_spec a x
  simp only [InstV.cells] at h ⊢
  refine Abs.Spec.go (n := 19) (np := 2) (rs := [.tmp 4]) mixed Tryz.func143 rfl rfl rfl rfl rfl (by simp) (by simp) ?_
  simp only [go_sem, Nat.reduceAdd, Nat.reduceSub, Nat.reduceMul, Nat.reducePow, Nat.reduceEqDiff, Nat.reduceLT, Nat.reduceLeDiff, Nat.reduceBEq, Nat.reduceBNe, Int.reduceToNat, Int.reduceLT, Int.reduceLE, Int.reduceEq, Int.reduceBNe, Int.reduceBEq, Int.reduceAdd, Int.reduceSub, Int.reduceMul, Int.reduceNeg, ↓reduceIte, List.length_map]
  refine LoopK.walk (S := Unit) xs.length [0, 1, 7] [] (fun i _ => [(8, .int .i64 i)]) (fun i _ => []) (fun i _ => ∀ j (hj : j < xs.length), j < i → xs[j].no ≠ x.no) () (by simp only [go_sem, Nat.reduceAdd, Nat.reduceSub, Nat.reduceMul, Nat.reducePow, Nat.reduceEqDiff, Nat.reduceLT, Nat.reduceLeDiff, Nat.reduceBEq, Nat.reduceBNe, Int.reduceToNat, Int.reduceLT, Int.reduceLE, Int.reduceEq, Int.reduceBNe, Int.reduceBEq, Int.reduceAdd, Int.reduceSub, Int.reduceMul, Int.reduceNeg, ↓reduceIte] <;> exact rfl) (by simp only [go_sem, Nat.reduceAdd, Nat.reduceSub, Nat.reduceMul, Nat.reducePow, Nat.reduceEqDiff, Nat.reduceLT, Nat.reduceLeDiff, Nat.reduceBEq, Nat.reduceBNe, Int.reduceToNat, Int.reduceLT, Int.reduceLE, Int.reduceEq, Int.reduceBNe, Int.reduceBEq, Int.reduceAdd, Int.reduceSub, Int.reduceMul, Int.reduceNeg, ↓reduceIte] <;> exact rfl) (by intros; omega) ?_ ?_ ?_
  · simp only [go_sem, Nat.reduceAdd, Nat.reduceSub, Nat.reduceMul, Nat.reducePow, Nat.reduceEqDiff, Nat.reduceLT, Nat.reduceLeDiff, Nat.reduceBEq, Nat.reduceBNe, Int.reduceToNat, Int.reduceLT, Int.reduceLE, Int.reduceEq, Int.reduceBNe, Int.reduceBEq, Int.reduceAdd, Int.reduceSub, Int.reduceMul, Int.reduceNeg, ↓reduceIte] <;> simp
  · intro i _ hi hdi hw hI
    have hm := map_at (c := InstV.cells) xs hi
    have hli : (i : Int) < (xs.length : Int) := by omega
    have hc := h xs[i]
    simp only [InstV.cells] at hm
    simp only [go_sem, Nat.reduceAdd, Nat.reduceSub, Nat.reduceMul, Nat.reducePow, Nat.reduceEqDiff, Nat.reduceLT, Nat.reduceLeDiff, Nat.reduceBEq, Nat.reduceBNe, Int.reduceToNat, Int.reduceLT, Int.reduceLE, Int.reduceEq, Int.reduceBNe, Int.reduceBEq, Int.reduceAdd, Int.reduceSub, Int.reduceMul, Int.reduceNeg, ↓reduceIte, hdi, List.length_map, hm]
    (repeat' (with_reducible first | refine And.intro ?_ ?_ | exact DrawN.mk (by kernel_rfl) | exact OkN.mk (by kernel_rfl))) <;> try omega
    refine CallN.pure hc ?_
    cases hb : xs[i].no == x.no
    · have hb2 : xs[i].no ≠ x.no := by simpa using hb
      simp only [go_sem, Nat.reduceAdd, Nat.reduceSub, Nat.reduceMul, Nat.reducePow, Nat.reduceEqDiff, Nat.reduceLT, Nat.reduceLeDiff, Nat.reduceBEq, Nat.reduceBNe, Int.reduceToNat, Int.reduceLT, Int.reduceLE, Int.reduceEq, Int.reduceBNe, Int.reduceBEq, Int.reduceAdd, Int.reduceSub, Int.reduceMul, Int.reduceNeg, ↓reduceIte, hb, hw]
      refine RoundK.step () hi ?_ ?_
      · intro j hj hji
        rcases Nat.lt_or_ge j i with h | h
        · exact hI j hj h
        · obtain rfl : j = i := by omega
          exact hb2
      · simp only [go_sem, Nat.reduceAdd, Nat.reduceSub, Nat.reduceMul, Nat.reducePow, Nat.reduceEqDiff, Nat.reduceLT, Nat.reduceLeDiff, Nat.reduceBEq, Nat.reduceBNe, Int.reduceToNat, Int.reduceLT, Int.reduceLE, Int.reduceEq, Int.reduceBNe, Int.reduceBEq, Int.reduceAdd, Int.reduceSub, Int.reduceMul, Int.reduceNeg, ↓reduceIte]
    · have hb2 : xs[i].no = x.no := by simpa using hb
      obtain ⟨g1, g2⟩ := getL_hit (z := InstV.zero) hi hI hb2
      rw [g2]
      simp only [go_sem, Nat.reduceAdd, Nat.reduceSub, Nat.reduceMul, Nat.reducePow, Nat.reduceEqDiff, Nat.reduceLT, Nat.reduceLeDiff, Nat.reduceBEq, Nat.reduceBNe, Int.reduceToNat, Int.reduceLT, Int.reduceLE, Int.reduceEq, Int.reduceBNe, Int.reduceBEq, Int.reduceAdd, Int.reduceSub, Int.reduceMul, Int.reduceNeg, ↓reduceIte, hb]
  · intro _ hdx hI
    obtain ⟨g1, g2⟩ := getL_miss (z := InstV.zero) (fun j hj => hI j hj hj)
    rw [g2]
    simp only [go_sem, Nat.reduceAdd, Nat.reduceSub, Nat.reduceMul, Nat.reducePow, Nat.reduceEqDiff, Nat.reduceLT, Nat.reduceLeDiff, Nat.reduceBEq, Nat.reduceBNe, Int.reduceToNat, Int.reduceLT, Int.reduceLE, Int.reduceEq, Int.reduceBNe, Int.reduceBEq, Int.reduceAdd, Int.reduceSub, Int.reduceMul, Int.reduceNeg, ↓reduceIte, hdx]
theorem instContains_spec (xs : List InstV) (x : InstV) (hl : xs.length < 2 ^ 60) : Abs.Spec Tryz.prog 67 [] [.sl 12 (xs.map InstV.cells), .fn 68 [.eaddr x.cells]] [] (.bool (seenB xs x.no)) := by
  have h := instIndex_spec xs x hl
  have e : decide (0 ≤ posL InstV.no x.no xs) = seenB xs x.no := by rw [pos_any]; rfl
  simp only [InstV.cells] at h ⊢
  refine Abs.Spec.go (n := 9) (np := 2) (rs := [.tmp 4]) mixed Tryz.func67 rfl rfl rfl rfl rfl (by simp) (by simp) ?_
  simp only [go_sem, Nat.reduceAdd, Nat.reduceSub, Nat.reduceMul, Nat.reducePow, Nat.reduceEqDiff, Nat.reduceLT, Nat.reduceLeDiff, Nat.reduceBEq, Nat.reduceBNe, Int.reduceToNat, Int.reduceLT, Int.reduceLE, Int.reduceEq, Int.reduceBNe, Int.reduceBEq, Int.reduceAdd, Int.reduceSub, Int.reduceMul, Int.reduceNeg, ↓reduceIte]
  refine CallN.pure h ?_
  simp only [go_sem, Nat.reduceAdd, Nat.reduceSub, Nat.reduceMul, Nat.reducePow, Nat.reduceEqDiff, Nat.reduceLT, Nat.reduceLeDiff, Nat.reduceBEq, Nat.reduceBNe, Int.reduceToNat, Int.reduceLT, Int.reduceLE, Int.reduceEq, Int.reduceBNe, Int.reduceBEq, Int.reduceAdd, Int.reduceSub, Int.reduceMul, Int.reduceNeg, ↓reduceIte, e]
set_option maxHeartbeats 1000000 in
set_option maxRecDepth 8000 in
theorem auditPaper_spec (s : StateV) (c : Int) (hr : s.rng) (hl : s.led.bs.length < 2 ^ 20) (hq : s.book.qs.length < 2 ^ 11) (hn : s.roll.ns.length < 2 ^ 11) : Abs.Spec Tryz.prog 19 [] [.agg s.cells, .int .i64 c] [] (.tup [.int .i64 (resN (sumL (varL c s.led.bs ++ papL s.roll c s.book.qs))), .int .i64 (resE (sumL (varL c s.led.bs ++ papL s.roll c s.book.qs)))]) := by
  have l1 := varL_len c s.led.bs
  have l2 := papI_len (c := c) (qs := s.book.qs) s.roll.ns []
  have l3 : s.roll.ns.length * s.book.qs.length ≤ 2048 * 2048 := Nat.mul_le_mul (by omega) (by omega)
  have hS := auditSum_spec (varL c s.led.bs ++ papI c s.book.qs [] s.roll.ns) (by simp; omega) (fun q hq => by
    rcases List.mem_append.1 hq with hq | hq
    · exact in2_i64 (varL_rng hr.bs q hq)
    · exact papI_in2 hr.qs _ _ hr.ns q hq)
  have hsum : sumL (varL c s.led.bs ++ papI c s.book.qs [] s.roll.ns) = sumL (varL c s.led.bs ++ papL s.roll c s.book.qs) := by
    rw [sumL_append, sumL_append, pap_eq]
  rw [hsum] at hS
  simp only [StateV.cells]
  refine Abs.Spec.go (n := 83) (np := 2) (rs := [.tmp 4, .tmp 5]) mixed Tryz.func19 rfl rfl rfl rfl rfl (by simp) (by simp) ?_
  simp only [go_sem, Nat.reduceAdd, Nat.reduceSub, Nat.reduceMul, Nat.reducePow, Nat.reduceEqDiff, Nat.reduceLT, Nat.reduceLeDiff, Nat.reduceBEq, Nat.reduceBNe, Int.reduceToNat, Int.reduceLT, Int.reduceLE, Int.reduceEq, Int.reduceBNe, Int.reduceBEq, Int.reduceAdd, Int.reduceSub, Int.reduceMul, Int.reduceNeg, ↓reduceIte, List.length_map]
  refine LoopK.walk (S := Unit) s.led.bs.length [1, 2, 15, 16] [48, 272] (fun i _ => [(17, .int .i64 i), (6, .ref 512)]) (fun i _ => [(512, .own 2 (wds (varL c (s.led.bs.take i))))]) (fun _ _ => True) () (by simp only [go_sem, Nat.reduceAdd, Nat.reduceSub, Nat.reduceMul, Nat.reducePow, Nat.reduceEqDiff, Nat.reduceLT, Nat.reduceLeDiff, Nat.reduceBEq, Nat.reduceBNe, Int.reduceToNat, Int.reduceLT, Int.reduceLE, Int.reduceEq, Int.reduceBNe, Int.reduceBEq, Int.reduceAdd, Int.reduceSub, Int.reduceMul, Int.reduceNeg, ↓reduceIte] <;> exact rfl) (by simp only [go_sem, Nat.reduceAdd, Nat.reduceSub, Nat.reduceMul, Nat.reducePow, Nat.reduceEqDiff, Nat.reduceLT, Nat.reduceLeDiff, Nat.reduceBEq, Nat.reduceBNe, Int.reduceToNat, Int.reduceLT, Int.reduceLE, Int.reduceEq, Int.reduceBNe, Int.reduceBEq, Int.reduceAdd, Int.reduceSub, Int.reduceMul, Int.reduceNeg, ↓reduceIte] <;> exact rfl) trivial ?_ ?_ ?_
  · simp only [go_sem, Nat.reduceAdd, Nat.reduceSub, Nat.reduceMul, Nat.reducePow, Nat.reduceEqDiff, Nat.reduceLT, Nat.reduceLeDiff, Nat.reduceBEq, Nat.reduceBNe, Int.reduceToNat, Int.reduceLT, Int.reduceLE, Int.reduceEq, Int.reduceBNe, Int.reduceBEq, Int.reduceAdd, Int.reduceSub, Int.reduceMul, Int.reduceNeg, ↓reduceIte] <;> simp [varL, wds]
  · intro i _ hi hdi hwi _
    have hm := map_at (c := BalV.cells) s.led.bs hi
    have hs := varL_step c s.led.bs hi
    have hlen := varL_len c (s.led.bs.take i)
    have hlt : (s.led.bs.take i).length = i := by simp; omega
    obtain ⟨z, hz⟩ : ∃ z, z = s.led.bs[i] := ⟨_, rfl⟩
    have hO := wideOf_spec z.sum (by rw [hz]; exact (hr.bs _ (List.getElem_mem hi)).2.2.2)
    rw [← hz] at hm hs
    simp only [BalV.cells] at hm
    simp only [wd] at hO
    simp only [isVar] at hs
    simp only [go_sem, Nat.reduceAdd, Nat.reduceSub, Nat.reduceMul, Nat.reducePow, Nat.reduceEqDiff, Nat.reduceLT, Nat.reduceLeDiff, Nat.reduceBEq, Nat.reduceBNe, Int.reduceToNat, Int.reduceLT, Int.reduceLE, Int.reduceEq, Int.reduceBNe, Int.reduceBEq, Int.reduceAdd, Int.reduceSub, Int.reduceMul, Int.reduceNeg, ↓reduceIte, hdi, hm]
    (repeat' (with_reducible first | refine And.intro ?_ ?_ | exact DrawN.mk (by kernel_rfl) | exact OkN.mk (by kernel_rfl))) <;> try omega
    cases b1 : z.kind == 5
    · simp only [b1, Bool.false_and, Bool.false_eq_true, if_false] at hs
      simp only [go_sem, Nat.reduceAdd, Nat.reduceSub, Nat.reduceMul, Nat.reducePow, Nat.reduceEqDiff, Nat.reduceLT, Nat.reduceLeDiff, Nat.reduceBEq, Nat.reduceBNe, Int.reduceToNat, Int.reduceLT, Int.reduceLE, Int.reduceEq, Int.reduceBNe, Int.reduceBEq, Int.reduceAdd, Int.reduceSub, Int.reduceMul, Int.reduceNeg, ↓reduceIte, b1, hwi]
      refine RoundK.step () hi trivial ?_
      simp only [go_sem, Nat.reduceAdd, Nat.reduceSub, Nat.reduceMul, Nat.reducePow, Nat.reduceEqDiff, Nat.reduceLT, Nat.reduceLeDiff, Nat.reduceBEq, Nat.reduceBNe, Int.reduceToNat, Int.reduceLT, Int.reduceLE, Int.reduceEq, Int.reduceBNe, Int.reduceBEq, Int.reduceAdd, Int.reduceSub, Int.reduceMul, Int.reduceNeg, ↓reduceIte, hs]
    cases b2 : z.who == 0
    · simp only [b1, b2, Bool.false_and, Bool.and_false, Bool.false_eq_true, if_false] at hs
      simp only [go_sem, Nat.reduceAdd, Nat.reduceSub, Nat.reduceMul, Nat.reducePow, Nat.reduceEqDiff, Nat.reduceLT, Nat.reduceLeDiff, Nat.reduceBEq, Nat.reduceBNe, Int.reduceToNat, Int.reduceLT, Int.reduceLE, Int.reduceEq, Int.reduceBNe, Int.reduceBEq, Int.reduceAdd, Int.reduceSub, Int.reduceMul, Int.reduceNeg, ↓reduceIte, b1, b2, hwi]
      refine RoundK.step () hi trivial ?_
      simp only [go_sem, Nat.reduceAdd, Nat.reduceSub, Nat.reduceMul, Nat.reducePow, Nat.reduceEqDiff, Nat.reduceLT, Nat.reduceLeDiff, Nat.reduceBEq, Nat.reduceBNe, Int.reduceToNat, Int.reduceLT, Int.reduceLE, Int.reduceEq, Int.reduceBNe, Int.reduceBEq, Int.reduceAdd, Int.reduceSub, Int.reduceMul, Int.reduceNeg, ↓reduceIte, hs]
    cases b3 : z.cur == c
    · simp only [b1, b2, b3, Bool.and_false, Bool.false_eq_true, if_false] at hs
      simp only [go_sem, Nat.reduceAdd, Nat.reduceSub, Nat.reduceMul, Nat.reducePow, Nat.reduceEqDiff, Nat.reduceLT, Nat.reduceLeDiff, Nat.reduceBEq, Nat.reduceBNe, Int.reduceToNat, Int.reduceLT, Int.reduceLE, Int.reduceEq, Int.reduceBNe, Int.reduceBEq, Int.reduceAdd, Int.reduceSub, Int.reduceMul, Int.reduceNeg, ↓reduceIte, b1, b2, b3, hwi]
      refine RoundK.step () hi trivial ?_
      simp only [go_sem, Nat.reduceAdd, Nat.reduceSub, Nat.reduceMul, Nat.reducePow, Nat.reduceEqDiff, Nat.reduceLT, Nat.reduceLeDiff, Nat.reduceBEq, Nat.reduceBNe, Int.reduceToNat, Int.reduceLT, Int.reduceLE, Int.reduceEq, Int.reduceBNe, Int.reduceBEq, Int.reduceAdd, Int.reduceSub, Int.reduceMul, Int.reduceNeg, ↓reduceIte, hs]
    simp only [b1, b2, b3, Bool.and_self, if_true] at hs
    simp only [go_sem, Nat.reduceAdd, Nat.reduceSub, Nat.reduceMul, Nat.reducePow, Nat.reduceEqDiff, Nat.reduceLT, Nat.reduceLeDiff, Nat.reduceBEq, Nat.reduceBNe, Int.reduceToNat, Int.reduceLT, Int.reduceLE, Int.reduceEq, Int.reduceBNe, Int.reduceBEq, Int.reduceAdd, Int.reduceSub, Int.reduceMul, Int.reduceNeg, ↓reduceIte, b1, b2, b3]
    refine CallN.pure hO ?_
    simp only [go_sem, Nat.reduceAdd, Nat.reduceSub, Nat.reduceMul, Nat.reducePow, Nat.reduceEqDiff, Nat.reduceLT, Nat.reduceLeDiff, Nat.reduceBEq, Nat.reduceBNe, Int.reduceToNat, Int.reduceLT, Int.reduceLE, Int.reduceEq, Int.reduceBNe, Int.reduceBEq, Int.reduceAdd, Int.reduceSub, Int.reduceMul, Int.reduceNeg, ↓reduceIte, hwi]
    (repeat' (with_reducible first | refine And.intro ?_ ?_ | exact DrawN.mk (by kernel_rfl) | exact OkN.mk (by kernel_rfl))) <;> try omega
    refine RoundK.step () hi trivial ?_
    simp only [go_sem, Nat.reduceAdd, Nat.reduceSub, Nat.reduceMul, Nat.reducePow, Nat.reduceEqDiff, Nat.reduceLT, Nat.reduceLeDiff, Nat.reduceBEq, Nat.reduceBNe, Int.reduceToNat, Int.reduceLT, Int.reduceLE, Int.reduceEq, Int.reduceBNe, Int.reduceBEq, Int.reduceAdd, Int.reduceSub, Int.reduceMul, Int.reduceNeg, ↓reduceIte, hs] <;> simp [wds, wd]
  intro _ hdx _
  obtain ⟨Vs, hVs⟩ : ∃ Vs, Vs = varL c s.led.bs := ⟨_, rfl⟩
  rw [← hVs] at hS l1
  simp only [go_sem, Nat.reduceAdd, Nat.reduceSub, Nat.reduceMul, Nat.reducePow, Nat.reduceEqDiff, Nat.reduceLT, Nat.reduceLeDiff, Nat.reduceBEq, Nat.reduceBNe, Int.reduceToNat, Int.reduceLT, Int.reduceLE, Int.reduceEq, Int.reduceBNe, Int.reduceBEq, Int.reduceAdd, Int.reduceSub, Int.reduceMul, Int.reduceNeg, ↓reduceIte, hdx, List.take_length, List.length_map, ← hVs]
  clear hdx
  refine LoopK.walk (S := List Int) s.roll.ns.length [1, 2, 35, 36] [48, 592] (fun i _ => [(37, .int .i64 i), (6, .ref 1232)]) (fun _ L => [(1232, .own 2 (wds (Vs ++ L)))]) (fun k L => L.length ≤ k * s.book.qs.length ∧ L ++ papI c s.book.qs (s.roll.ns.take k) (s.roll.ns.drop k) = papI c s.book.qs [] s.roll.ns) [] (by simp only [go_sem, Nat.reduceAdd, Nat.reduceSub, Nat.reduceMul, Nat.reducePow, Nat.reduceEqDiff, Nat.reduceLT, Nat.reduceLeDiff, Nat.reduceBEq, Nat.reduceBNe, Int.reduceToNat, Int.reduceLT, Int.reduceLE, Int.reduceEq, Int.reduceBNe, Int.reduceBEq, Int.reduceAdd, Int.reduceSub, Int.reduceMul, Int.reduceNeg, ↓reduceIte] <;> exact rfl) (by simp only [go_sem, Nat.reduceAdd, Nat.reduceSub, Nat.reduceMul, Nat.reducePow, Nat.reduceEqDiff, Nat.reduceLT, Nat.reduceLeDiff, Nat.reduceBEq, Nat.reduceBNe, Int.reduceToNat, Int.reduceLT, Int.reduceLE, Int.reduceEq, Int.reduceBNe, Int.reduceBEq, Int.reduceAdd, Int.reduceSub, Int.reduceMul, Int.reduceNeg, ↓reduceIte] <;> exact rfl) (by simp) ?_ ?_ ?_
  · simp only [go_sem, Nat.reduceAdd, Nat.reduceSub, Nat.reduceMul, Nat.reducePow, Nat.reduceEqDiff, Nat.reduceLT, Nat.reduceLeDiff, Nat.reduceBEq, Nat.reduceBNe, Int.reduceToNat, Int.reduceLT, Int.reduceLE, Int.reduceEq, Int.reduceBNe, Int.reduceBEq, Int.reduceAdd, Int.reduceSub, Int.reduceMul, Int.reduceNeg, ↓reduceIte] <;> simp
  · rintro k L hk hdk hwk ⟨hL, hI⟩
    have hm := map_at (c := InstV.cells) s.roll.ns hk
    obtain ⟨x, hx⟩ : ∃ x, x = s.roll.ns[k] := ⟨_, rfl⟩
    have hxr : x.rng := by rw [hx]; exact hr.ns _ (List.getElem_mem hk)
    have hC := instContains_spec (s.roll.ns.take k) x (by simp; omega)
    have htk : s.roll.ns.take (k + 1) = s.roll.ns.take k ++ [x] := by rw [List.take_succ_eq_append_getElem hk, hx]
    rw [drop_at hk, ← hx] at hI
    rw [← hx] at hm
    simp only [papI] at hI
    have hkm : (k + 1) * s.book.qs.length = k * s.book.qs.length + s.book.qs.length := Nat.succ_mul _ _
    have hkk : k * s.book.qs.length ≤ 2048 * 2048 := Nat.mul_le_mul (by omega) (by omega)
    have hmt : (s.roll.ns.map InstV.cells).take k = (s.roll.ns.take k).map InstV.cells := (List.map_take ..).symm
    have hkl : (k : Int) ≤ (s.roll.ns.length : Int) := by omega
    simp only [InstV.cells] at hm hC
    simp only [go_sem, Nat.reduceAdd, Nat.reduceSub, Nat.reduceMul, Nat.reducePow, Nat.reduceEqDiff, Nat.reduceLT, Nat.reduceLeDiff, Nat.reduceBEq, Nat.reduceBNe, Int.reduceToNat, Int.reduceLT, Int.reduceLE, Int.reduceEq, Int.reduceBNe, Int.reduceBEq, Int.reduceAdd, Int.reduceSub, Int.reduceMul, Int.reduceNeg, ↓reduceIte, hdk, hm]
    (repeat' (with_reducible first | refine And.intro ?_ ?_ | exact DrawN.mk (by kernel_rfl) | exact OkN.mk (by kernel_rfl))) <;> try omega
    cases b1 : x.cur == c
    · simp only [b1, Bool.false_and, Bool.false_eq_true, if_false, List.nil_append] at hI
      simp only [go_sem, Nat.reduceAdd, Nat.reduceSub, Nat.reduceMul, Nat.reducePow, Nat.reduceEqDiff, Nat.reduceLT, Nat.reduceLeDiff, Nat.reduceBEq, Nat.reduceBNe, Int.reduceToNat, Int.reduceLT, Int.reduceLE, Int.reduceEq, Int.reduceBNe, Int.reduceBEq, Int.reduceAdd, Int.reduceSub, Int.reduceMul, Int.reduceNeg, ↓reduceIte, bne, b1, hwk]
      refine RoundK.step L hk ⟨by omega, by rw [htk]; exact hI⟩ ?_
      simp only [go_sem, Nat.reduceAdd, Nat.reduceSub, Nat.reduceMul, Nat.reducePow, Nat.reduceEqDiff, Nat.reduceLT, Nat.reduceLeDiff, Nat.reduceBEq, Nat.reduceBNe, Int.reduceToNat, Int.reduceLT, Int.reduceLE, Int.reduceEq, Int.reduceBNe, Int.reduceBEq, Int.reduceAdd, Int.reduceSub, Int.reduceMul, Int.reduceNeg, ↓reduceIte]
    simp only [go_sem, Nat.reduceAdd, Nat.reduceSub, Nat.reduceMul, Nat.reducePow, Nat.reduceEqDiff, Nat.reduceLT, Nat.reduceLeDiff, Nat.reduceBEq, Nat.reduceBNe, Int.reduceToNat, Int.reduceLT, Int.reduceLE, Int.reduceEq, Int.reduceBNe, Int.reduceBEq, Int.reduceAdd, Int.reduceSub, Int.reduceMul, Int.reduceNeg, ↓reduceIte, bne, b1, List.length_map, hmt]
    (repeat' (with_reducible first | refine And.intro ?_ ?_ | exact DrawN.mk (by kernel_rfl) | exact OkN.mk (by kernel_rfl))) <;> try omega
    refine CallN.gen [] [] true (by simp) ?_
    simp only [go_sem, Nat.reduceAdd, Nat.reduceSub, Nat.reduceMul, Nat.reducePow, Nat.reduceEqDiff, Nat.reduceLT, Nat.reduceLeDiff, Nat.reduceBEq, Nat.reduceBNe, Int.reduceToNat, Int.reduceLT, Int.reduceLE, Int.reduceEq, Int.reduceBNe, Int.reduceBEq, Int.reduceAdd, Int.reduceSub, Int.reduceMul, Int.reduceNeg, ↓reduceIte, hmt]
    refine CallG.intro hC ?_
    cases b2 : seenB (s.roll.ns.take k) x.no
    case true =>
      simp only [b1, b2, Bool.not_true, Bool.and_false, Bool.false_eq_true, if_false, List.nil_append] at hI
      simp only [go_sem, Nat.reduceAdd, Nat.reduceSub, Nat.reduceMul, Nat.reducePow, Nat.reduceEqDiff, Nat.reduceLT, Nat.reduceLeDiff, Nat.reduceBEq, Nat.reduceBNe, Int.reduceToNat, Int.reduceLT, Int.reduceLE, Int.reduceEq, Int.reduceBNe, Int.reduceBEq, Int.reduceAdd, Int.reduceSub, Int.reduceMul, Int.reduceNeg, ↓reduceIte, hwk]
      refine RoundK.step L hk ⟨by omega, by rw [htk]; exact hI⟩ ?_
      simp only [go_sem, Nat.reduceAdd, Nat.reduceSub, Nat.reduceMul, Nat.reducePow, Nat.reduceEqDiff, Nat.reduceLT, Nat.reduceLeDiff, Nat.reduceBEq, Nat.reduceBNe, Int.reduceToNat, Int.reduceLT, Int.reduceLE, Int.reduceEq, Int.reduceBNe, Int.reduceBEq, Int.reduceAdd, Int.reduceSub, Int.reduceMul, Int.reduceNeg, ↓reduceIte]
    simp only [b1, b2, Bool.not_false, Bool.and_self, if_true] at hI
    simp only [go_sem, Nat.reduceAdd, Nat.reduceSub, Nat.reduceMul, Nat.reducePow, Nat.reduceEqDiff, Nat.reduceLT, Nat.reduceLeDiff, Nat.reduceBEq, Nat.reduceBNe, Int.reduceToNat, Int.reduceLT, Int.reduceLE, Int.reduceEq, Int.reduceBNe, Int.reduceBEq, Int.reduceAdd, Int.reduceSub, Int.reduceMul, Int.reduceNeg, ↓reduceIte, List.length_map]
    refine LoopK.walk (S := Unit) s.book.qs.length [1, 2, 10, 35, 36, 37, 57, 58] [48, 176, 592, 944] (fun i _ => [(59, .int .i64 i), (6, .ref 1232)]) (fun i _ => [(1232, .own 2 (wds (Vs ++ (L ++ costL x (s.book.qs.take i)))))]) (fun _ _ => True) () (by simp only [go_sem, Nat.reduceAdd, Nat.reduceSub, Nat.reduceMul, Nat.reducePow, Nat.reduceEqDiff, Nat.reduceLT, Nat.reduceLeDiff, Nat.reduceBEq, Nat.reduceBNe, Int.reduceToNat, Int.reduceLT, Int.reduceLE, Int.reduceEq, Int.reduceBNe, Int.reduceBEq, Int.reduceAdd, Int.reduceSub, Int.reduceMul, Int.reduceNeg, ↓reduceIte] <;> exact rfl) (by simp only [go_sem, Nat.reduceAdd, Nat.reduceSub, Nat.reduceMul, Nat.reducePow, Nat.reduceEqDiff, Nat.reduceLT, Nat.reduceLeDiff, Nat.reduceBEq, Nat.reduceBNe, Int.reduceToNat, Int.reduceLT, Int.reduceLE, Int.reduceEq, Int.reduceBNe, Int.reduceBEq, Int.reduceAdd, Int.reduceSub, Int.reduceMul, Int.reduceNeg, ↓reduceIte] <;> exact rfl) trivial ?_ ?_ ?_
    · simp only [go_sem, Nat.reduceAdd, Nat.reduceSub, Nat.reduceMul, Nat.reducePow, Nat.reduceEqDiff, Nat.reduceLT, Nat.reduceLeDiff, Nat.reduceBEq, Nat.reduceBNe, Int.reduceToNat, Int.reduceLT, Int.reduceLE, Int.reduceEq, Int.reduceBNe, Int.reduceBEq, Int.reduceAdd, Int.reduceSub, Int.reduceMul, Int.reduceNeg, ↓reduceIte] <;> simp [costL]
    · intro i _ hi hdi hwi _
      have hmp := map_at (c := PosV.cells) s.book.qs hi
      have hs := costL_step x s.book.qs hi
      have hlen := costL_len x (s.book.qs.take i)
      have hlt : (s.book.qs.take i).length = i := by simp; omega
      obtain ⟨p, hp⟩ : ∃ p, p = s.book.qs[i] := ⟨_, rfl⟩
      have hpr : p.rng := by rw [hp]; exact hr.qs _ (List.getElem_mem hi)
      have hT := times_spec x.mult p.cost hxr.2.2.1 hpr.2.2.2
      have hwl : (Vs ++ (L ++ costL x (s.book.qs.take i))).length ≤ s.led.bs.length + (k * s.book.qs.length + i) := by simp; omega
      rw [← hp] at hmp hs
      simp only [PosV.cells] at hmp
      simp only [go_sem, Nat.reduceAdd, Nat.reduceSub, Nat.reduceMul, Nat.reducePow, Nat.reduceEqDiff, Nat.reduceLT, Nat.reduceLeDiff, Nat.reduceBEq, Nat.reduceBNe, Int.reduceToNat, Int.reduceLT, Int.reduceLE, Int.reduceEq, Int.reduceBNe, Int.reduceBEq, Int.reduceAdd, Int.reduceSub, Int.reduceMul, Int.reduceNeg, ↓reduceIte, hdi, hmp]
      (repeat' (with_reducible first | refine And.intro ?_ ?_ | exact DrawN.mk (by kernel_rfl) | exact OkN.mk (by kernel_rfl))) <;> try omega
      cases b3 : p.inst == x.no
      · simp only [b3, Bool.false_eq_true, if_false] at hs
        simp only [go_sem, Nat.reduceAdd, Nat.reduceSub, Nat.reduceMul, Nat.reducePow, Nat.reduceEqDiff, Nat.reduceLT, Nat.reduceLeDiff, Nat.reduceBEq, Nat.reduceBNe, Int.reduceToNat, Int.reduceLT, Int.reduceLE, Int.reduceEq, Int.reduceBNe, Int.reduceBEq, Int.reduceAdd, Int.reduceSub, Int.reduceMul, Int.reduceNeg, ↓reduceIte, hwi]
        refine RoundK.step () hi trivial ?_
        simp only [go_sem, Nat.reduceAdd, Nat.reduceSub, Nat.reduceMul, Nat.reducePow, Nat.reduceEqDiff, Nat.reduceLT, Nat.reduceLeDiff, Nat.reduceBEq, Nat.reduceBNe, Int.reduceToNat, Int.reduceLT, Int.reduceLE, Int.reduceEq, Int.reduceBNe, Int.reduceBEq, Int.reduceAdd, Int.reduceSub, Int.reduceMul, Int.reduceNeg, ↓reduceIte, hs]
      simp only [b3, if_true] at hs
      simp only [go_sem, Nat.reduceAdd, Nat.reduceSub, Nat.reduceMul, Nat.reducePow, Nat.reduceEqDiff, Nat.reduceLT, Nat.reduceLeDiff, Nat.reduceBEq, Nat.reduceBNe, Int.reduceToNat, Int.reduceLT, Int.reduceLE, Int.reduceEq, Int.reduceBNe, Int.reduceBEq, Int.reduceAdd, Int.reduceSub, Int.reduceMul, Int.reduceNeg, ↓reduceIte]
      refine CallN.pure hT ?_
      simp only [go_sem, Nat.reduceAdd, Nat.reduceSub, Nat.reduceMul, Nat.reducePow, Nat.reduceEqDiff, Nat.reduceLT, Nat.reduceLeDiff, Nat.reduceBEq, Nat.reduceBNe, Int.reduceToNat, Int.reduceLT, Int.reduceLE, Int.reduceEq, Int.reduceBNe, Int.reduceBEq, Int.reduceAdd, Int.reduceSub, Int.reduceMul, Int.reduceNeg, ↓reduceIte, hwi]
      (repeat' (with_reducible first | refine And.intro ?_ ?_ | exact DrawN.mk (by kernel_rfl) | exact OkN.mk (by kernel_rfl))) <;> try omega
      refine RoundK.step () hi trivial ?_
      simp only [go_sem, Nat.reduceAdd, Nat.reduceSub, Nat.reduceMul, Nat.reducePow, Nat.reduceEqDiff, Nat.reduceLT, Nat.reduceLeDiff, Nat.reduceBEq, Nat.reduceBNe, Int.reduceToNat, Int.reduceLT, Int.reduceLE, Int.reduceEq, Int.reduceBNe, Int.reduceBEq, Int.reduceAdd, Int.reduceSub, Int.reduceMul, Int.reduceNeg, ↓reduceIte, hs] <;> simp [wds, wd]
    · intro _ hdx _
      have hcl := costL_len x s.book.qs
      simp only [go_sem, Nat.reduceAdd, Nat.reduceSub, Nat.reduceMul, Nat.reducePow, Nat.reduceEqDiff, Nat.reduceLT, Nat.reduceLeDiff, Nat.reduceBEq, Nat.reduceBNe, Int.reduceToNat, Int.reduceLT, Int.reduceLE, Int.reduceEq, Int.reduceBNe, Int.reduceBEq, Int.reduceAdd, Int.reduceSub, Int.reduceMul, Int.reduceNeg, ↓reduceIte, hdx, List.take_length, hwk]
      refine RoundK.step (L ++ costL x s.book.qs) hk ⟨by simp only [List.length_append]; omega, by rw [htk, List.append_assoc]; exact hI⟩ ?_
      simp only [go_sem, Nat.reduceAdd, Nat.reduceSub, Nat.reduceMul, Nat.reducePow, Nat.reduceEqDiff, Nat.reduceLT, Nat.reduceLeDiff, Nat.reduceBEq, Nat.reduceBNe, Int.reduceToNat, Int.reduceLT, Int.reduceLE, Int.reduceEq, Int.reduceBNe, Int.reduceBEq, Int.reduceAdd, Int.reduceSub, Int.reduceMul, Int.reduceNeg, ↓reduceIte]
  · rintro L hdx ⟨_, hI⟩
    simp only [List.drop_length, papI, List.append_nil] at hI
    subst hI
    simp only [go_sem, Nat.reduceAdd, Nat.reduceSub, Nat.reduceMul, Nat.reducePow, Nat.reduceEqDiff, Nat.reduceLT, Nat.reduceLeDiff, Nat.reduceBEq, Nat.reduceBNe, Int.reduceToNat, Int.reduceLT, Int.reduceLE, Int.reduceEq, Int.reduceBNe, Int.reduceBEq, Int.reduceAdd, Int.reduceSub, Int.reduceMul, Int.reduceNeg, ↓reduceIte, hdx]
    refine CallN.gen [] [] true (by simp) ?_
    simp only [go_sem, Nat.reduceAdd, Nat.reduceSub, Nat.reduceMul, Nat.reducePow, Nat.reduceEqDiff, Nat.reduceLT, Nat.reduceLeDiff, Nat.reduceBEq, Nat.reduceBNe, Int.reduceToNat, Int.reduceLT, Int.reduceLE, Int.reduceEq, Int.reduceBNe, Int.reduceBEq, Int.reduceAdd, Int.reduceSub, Int.reduceMul, Int.reduceNeg, ↓reduceIte]
    refine CallG.intro hS ?_
    simp only [go_sem, Nat.reduceAdd, Nat.reduceSub, Nat.reduceMul, Nat.reducePow, Nat.reduceEqDiff, Nat.reduceLT, Nat.reduceLeDiff, Nat.reduceBEq, Nat.reduceBNe, Int.reduceToNat, Int.reduceLT, Int.reduceLE, Int.reduceEq, Int.reduceBNe, Int.reduceBEq, Int.reduceAdd, Int.reduceSub, Int.reduceMul, Int.reduceNeg, ↓reduceIte]
end Go.Proofs.YtbllopdcbkeadaaGreat
set_option linter.unusedSimpArgs false
set_option linter.unusedVariables false
namespace Go.Proofs.YtbllopdcbkeadaaGreat
open Go.Abs
set_option maxHeartbeats 1000000 in
set_option maxRecDepth 8000 in
theorem auditHolds_spec (s : StateV) (hm : s.mid) (hq : s.book.qs.length < 2 ^ 11) (hn : s.roll.ns.length < 2 ^ 11) (hr : s.rng) : Abs.Spec Tryz.prog 21 [] [.agg s.cells] [] (.bool (holdsB s)) := by
  have c1 := closeCheck_spec s hm.small
  have c2 := fun n => auditQty_spec s n hr (by have := hm.qs; omega)
  have c3 := fun c => Spec.le_args (auditMoney_spec s c [] hr (by have := hm.bs; omega) (by simp)) (ds' := [.agg s.cells, .int .i64 c, .nil]) (by simp [leDL, leD, ints])
  have c4 := fun c => auditPaper_spec s c hr hm.bs hq hn
  simp only [StateV.cells] at c1 c2 c3 c4 ⊢
  refine Abs.Spec.go (n := 60) (np := 1) (rs := [.tmp 2]) mixed Tryz.func21 rfl rfl rfl rfl rfl (by simp) (by simp) ?_
  simp only [go_sem, Nat.reduceAdd, Nat.reduceSub, Nat.reduceMul, Nat.reducePow, Nat.reduceEqDiff, Nat.reduceLT, Nat.reduceLeDiff, Nat.reduceBEq, Nat.reduceBNe, Int.reduceToNat, Int.reduceLT, Int.reduceLE, Int.reduceEq, Int.reduceBNe, Int.reduceBEq, Int.reduceAdd, Int.reduceSub, Int.reduceMul, Int.reduceNeg, ↓reduceIte]
  refine CallN.pure c1 ?_
  cases b1 : rightS s
  · have e : holdsB s = false := by simp [holdsB, b1]
    simp only [go_sem, Nat.reduceAdd, Nat.reduceSub, Nat.reduceMul, Nat.reducePow, Nat.reduceEqDiff, Nat.reduceLT, Nat.reduceLeDiff, Nat.reduceBEq, Nat.reduceBNe, Int.reduceToNat, Int.reduceLT, Int.reduceLE, Int.reduceEq, Int.reduceBNe, Int.reduceBEq, Int.reduceAdd, Int.reduceSub, Int.reduceMul, Int.reduceNeg, ↓reduceIte, e, b1] <;> simp
  have e : holdsB s = ((List.range 8).all (fun i => qZ s ((i : Int) + 1)) && (List.range 3).all (fun c => mZ s (c : Nat) && pZ s (c : Nat))) := by simp only [holdsB, b1, Bool.true_and]
  rw [e]
  simp only [b1]
  clear e b1 c1
  obtain ⟨A, hA⟩ : ∃ A, A = (List.range 8).all (fun i => qZ s ((i : Int) + 1)) := ⟨_, rfl⟩
  obtain ⟨B, hB⟩ : ∃ B, B = (List.range 3).all (fun c => mZ s (c : Nat) && pZ s (c : Nat)) := ⟨_, rfl⟩
  rw [← hA, ← hB]
  simp only [go_sem, Nat.reduceAdd, Nat.reduceSub, Nat.reduceMul, Nat.reducePow, Nat.reduceEqDiff, Nat.reduceLT, Nat.reduceLeDiff, Nat.reduceBEq, Nat.reduceBNe, Int.reduceToNat, Int.reduceLT, Int.reduceLE, Int.reduceEq, Int.reduceBNe, Int.reduceBEq, Int.reduceAdd, Int.reduceSub, Int.reduceMul, Int.reduceNeg, ↓reduceIte]
  refine LoopK.walk (S := Unit) 8 [1] [32] (fun i _ => [(3, .int .i64 ((i : Int) + 1))]) (fun i _ => []) (fun i _ => ∀ j < i, qZ s ((j : Int) + 1) = true) () (by simp only [go_sem, Nat.reduceAdd, Nat.reduceSub, Nat.reduceMul, Nat.reducePow, Nat.reduceEqDiff, Nat.reduceLT, Nat.reduceLeDiff, Nat.reduceBEq, Nat.reduceBNe, Int.reduceToNat, Int.reduceLT, Int.reduceLE, Int.reduceEq, Int.reduceBNe, Int.reduceBEq, Int.reduceAdd, Int.reduceSub, Int.reduceMul, Int.reduceNeg, ↓reduceIte] <;> exact rfl) (by simp only [go_sem, Nat.reduceAdd, Nat.reduceSub, Nat.reduceMul, Nat.reducePow, Nat.reduceEqDiff, Nat.reduceLT, Nat.reduceLeDiff, Nat.reduceBEq, Nat.reduceBNe, Int.reduceToNat, Int.reduceLT, Int.reduceLE, Int.reduceEq, Int.reduceBNe, Int.reduceBEq, Int.reduceAdd, Int.reduceSub, Int.reduceMul, Int.reduceNeg, ↓reduceIte] <;> exact rfl) (by simp) ?_ ?_ ?_
  · simp only [go_sem, Nat.reduceAdd, Nat.reduceSub, Nat.reduceMul, Nat.reducePow, Nat.reduceEqDiff, Nat.reduceLT, Nat.reduceLeDiff, Nat.reduceBEq, Nat.reduceBNe, Int.reduceToNat, Int.reduceLT, Int.reduceLE, Int.reduceEq, Int.reduceBNe, Int.reduceBEq, Int.reduceAdd, Int.reduceSub, Int.reduceMul, Int.reduceNeg, ↓reduceIte] <;> simp
  · intro i _ hi _ _ hI
    obtain ⟨n, hn⟩ : ∃ n, n = (i : Int) + 1 := ⟨_, rfl⟩
    have hd : decide (n ≤ 8) = true := decide_eq_true (by omega)
    have hw : IntKind.wrap .i64 (n + 1) = ((i + 1 : Nat) : Int) + 1 := by rw [wr64 (by omega) (by omega)]; omega
    have hz := res_zero (sumL (qtysL n s.book.qs))
    have hbad : qZ s n = false → (A && B) = false := fun h => by
      rw [hA, range_no hi (by rw [← hn]; exact h)]; rfl
    clear hA hB
    have hgood : qZ s n = true → ∀ j < i + 1, qZ s ((j : Int) + 1) = true := fun h => lt_next (f := fun j => qZ s ((j : Int) + 1)) hI (by rw [← hn]; exact h)
    simp only [qZ] at hbad hgood
    rw [← hn]
    simp only [go_sem, Nat.reduceAdd, Nat.reduceSub, Nat.reduceMul, Nat.reducePow, Nat.reduceEqDiff, Nat.reduceLT, Nat.reduceLeDiff, Nat.reduceBEq, Nat.reduceBNe, Int.reduceToNat, Int.reduceLT, Int.reduceLE, Int.reduceEq, Int.reduceBNe, Int.reduceBEq, Int.reduceAdd, Int.reduceSub, Int.reduceMul, Int.reduceNeg, ↓reduceIte, hd]
    refine CallN.pure (c2 n) ?_
    cases q2 : resE (sumL (qtysL n s.book.qs)) == 0
    · rw [q2, Bool.false_and] at hz
      have := hbad hz.symm
      simp only [go_sem, Nat.reduceAdd, Nat.reduceSub, Nat.reduceMul, Nat.reducePow, Nat.reduceEqDiff, Nat.reduceLT, Nat.reduceLeDiff, Nat.reduceBEq, Nat.reduceBNe, Int.reduceToNat, Int.reduceLT, Int.reduceLE, Int.reduceEq, Int.reduceBNe, Int.reduceBEq, Int.reduceAdd, Int.reduceSub, Int.reduceMul, Int.reduceNeg, ↓reduceIte, bne, q2]
      first | exact this.symm | simp only [qZ, this]
    cases q1 : resN (sumL (qtysL n s.book.qs)) == 0
    · rw [q1, Bool.and_false] at hz
      have := hbad hz.symm
      simp only [go_sem, Nat.reduceAdd, Nat.reduceSub, Nat.reduceMul, Nat.reducePow, Nat.reduceEqDiff, Nat.reduceLT, Nat.reduceLeDiff, Nat.reduceBEq, Nat.reduceBNe, Int.reduceToNat, Int.reduceLT, Int.reduceLE, Int.reduceEq, Int.reduceBNe, Int.reduceBEq, Int.reduceAdd, Int.reduceSub, Int.reduceMul, Int.reduceNeg, ↓reduceIte, bne, q1, q2]
      first | exact this.symm | simp only [qZ, this]
    rw [q1, q2] at hz
    simp only [go_sem, Nat.reduceAdd, Nat.reduceSub, Nat.reduceMul, Nat.reducePow, Nat.reduceEqDiff, Nat.reduceLT, Nat.reduceLeDiff, Nat.reduceBEq, Nat.reduceBNe, Int.reduceToNat, Int.reduceLT, Int.reduceLE, Int.reduceEq, Int.reduceBNe, Int.reduceBEq, Int.reduceAdd, Int.reduceSub, Int.reduceMul, Int.reduceNeg, ↓reduceIte, bne, q1, q2, hw]
    refine RoundK.step () hi (hgood (by rw [← hz]; rfl)) ?_
    simp only [go_sem, Nat.reduceAdd, Nat.reduceSub, Nat.reduceMul, Nat.reducePow, Nat.reduceEqDiff, Nat.reduceLT, Nat.reduceLeDiff, Nat.reduceBEq, Nat.reduceBNe, Int.reduceToNat, Int.reduceLT, Int.reduceLE, Int.reduceEq, Int.reduceBNe, Int.reduceBEq, Int.reduceAdd, Int.reduceSub, Int.reduceMul, Int.reduceNeg, ↓reduceIte]
  intro _ _ hI
  rw [range_yes (f := fun i => qZ s ((i : Int) + 1)) hI] at hA
  rw [hA, Bool.true_and]
  clear hI hA
  simp only [go_sem, Nat.reduceAdd, Nat.reduceSub, Nat.reduceMul, Nat.reducePow, Nat.reduceEqDiff, Nat.reduceLT, Nat.reduceLeDiff, Nat.reduceBEq, Nat.reduceBNe, Int.reduceToNat, Int.reduceLT, Int.reduceLE, Int.reduceEq, Int.reduceBNe, Int.reduceBEq, Int.reduceAdd, Int.reduceSub, Int.reduceMul, Int.reduceNeg, ↓reduceIte]
  refine LoopK.walk (S := Unit) 3 [1] [32] (fun i _ => [(30, .int .i64 i)]) (fun i _ => []) (fun i _ => ∀ j < i, (mZ s (j : Nat) && pZ s (j : Nat)) = true) () (by simp only [go_sem, Nat.reduceAdd, Nat.reduceSub, Nat.reduceMul, Nat.reducePow, Nat.reduceEqDiff, Nat.reduceLT, Nat.reduceLeDiff, Nat.reduceBEq, Nat.reduceBNe, Int.reduceToNat, Int.reduceLT, Int.reduceLE, Int.reduceEq, Int.reduceBNe, Int.reduceBEq, Int.reduceAdd, Int.reduceSub, Int.reduceMul, Int.reduceNeg, ↓reduceIte] <;> exact rfl) (by simp only [go_sem, Nat.reduceAdd, Nat.reduceSub, Nat.reduceMul, Nat.reducePow, Nat.reduceEqDiff, Nat.reduceLT, Nat.reduceLeDiff, Nat.reduceBEq, Nat.reduceBNe, Int.reduceToNat, Int.reduceLT, Int.reduceLE, Int.reduceEq, Int.reduceBNe, Int.reduceBEq, Int.reduceAdd, Int.reduceSub, Int.reduceMul, Int.reduceNeg, ↓reduceIte] <;> exact rfl) (by simp) ?_ ?_ ?_
  · simp only [go_sem, Nat.reduceAdd, Nat.reduceSub, Nat.reduceMul, Nat.reducePow, Nat.reduceEqDiff, Nat.reduceLT, Nat.reduceLeDiff, Nat.reduceBEq, Nat.reduceBNe, Int.reduceToNat, Int.reduceLT, Int.reduceLE, Int.reduceEq, Int.reduceBNe, Int.reduceBEq, Int.reduceAdd, Int.reduceSub, Int.reduceMul, Int.reduceNeg, ↓reduceIte] <;> simp
  · intro i _ hi hdi hw hI
    have hdi : decide ((i : Int) < 3) = true := hdi
    have hz := res_zero (sumL (monL i [] s.led.bs))
    have hy := res_zero (sumL (varL i s.led.bs ++ papL s.roll i s.book.qs))
    have hbad : (mZ s (i : Nat) && pZ s (i : Nat)) = false → B = false := fun h => by rw [hB]; exact range_no hi h
    clear hB
    have hgood : (mZ s (i : Nat) && pZ s (i : Nat)) = true → ∀ j < i + 1, (mZ s (j : Nat) && pZ s (j : Nat)) = true := fun h => lt_next (f := fun j => mZ s (j : Nat) && pZ s (j : Nat)) hI h
    simp only [mZ, pZ] at hbad hgood
    simp only [go_sem, Nat.reduceAdd, Nat.reduceSub, Nat.reduceMul, Nat.reducePow, Nat.reduceEqDiff, Nat.reduceLT, Nat.reduceLeDiff, Nat.reduceBEq, Nat.reduceBNe, Int.reduceToNat, Int.reduceLT, Int.reduceLE, Int.reduceEq, Int.reduceBNe, Int.reduceBEq, Int.reduceAdd, Int.reduceSub, Int.reduceMul, Int.reduceNeg, ↓reduceIte, hdi]
    refine CallN.pure (c3 i) ?_
    simp only [go_sem, Nat.reduceAdd, Nat.reduceSub, Nat.reduceMul, Nat.reducePow, Nat.reduceEqDiff, Nat.reduceLT, Nat.reduceLeDiff, Nat.reduceBEq, Nat.reduceBNe, Int.reduceToNat, Int.reduceLT, Int.reduceLE, Int.reduceEq, Int.reduceBNe, Int.reduceBEq, Int.reduceAdd, Int.reduceSub, Int.reduceMul, Int.reduceNeg, ↓reduceIte]
    refine CallN.pure (c4 i) ?_
    simp only [mZ, pZ]
    cases q3 : resE (sumL (monL i [] s.led.bs)) == 0
    · rw [q3, Bool.false_and] at hz
      have := hbad (by rw [← hz]; rfl)
      simp only [go_sem, Nat.reduceAdd, Nat.reduceSub, Nat.reduceMul, Nat.reducePow, Nat.reduceEqDiff, Nat.reduceLT, Nat.reduceLeDiff, Nat.reduceBEq, Nat.reduceBNe, Int.reduceToNat, Int.reduceLT, Int.reduceLE, Int.reduceEq, Int.reduceBNe, Int.reduceBEq, Int.reduceAdd, Int.reduceSub, Int.reduceMul, Int.reduceNeg, ↓reduceIte, bne, q3, this]
    cases q4 : resE (sumL (varL i s.led.bs ++ papL s.roll i s.book.qs)) == 0
    · rw [q4, Bool.false_and] at hy
      have := hbad (by rw [← hy]; simp)
      simp only [go_sem, Nat.reduceAdd, Nat.reduceSub, Nat.reduceMul, Nat.reducePow, Nat.reduceEqDiff, Nat.reduceLT, Nat.reduceLeDiff, Nat.reduceBEq, Nat.reduceBNe, Int.reduceToNat, Int.reduceLT, Int.reduceLE, Int.reduceEq, Int.reduceBNe, Int.reduceBEq, Int.reduceAdd, Int.reduceSub, Int.reduceMul, Int.reduceNeg, ↓reduceIte, bne, q3, q4, this]
    cases q1 : resN (sumL (monL i [] s.led.bs)) == 0
    · rw [q1, Bool.and_false] at hz
      have := hbad (by rw [← hz]; rfl)
      simp only [go_sem, Nat.reduceAdd, Nat.reduceSub, Nat.reduceMul, Nat.reducePow, Nat.reduceEqDiff, Nat.reduceLT, Nat.reduceLeDiff, Nat.reduceBEq, Nat.reduceBNe, Int.reduceToNat, Int.reduceLT, Int.reduceLE, Int.reduceEq, Int.reduceBNe, Int.reduceBEq, Int.reduceAdd, Int.reduceSub, Int.reduceMul, Int.reduceNeg, ↓reduceIte, bne, q1, q3, q4, this]
    cases q2 : resN (sumL (varL i s.led.bs ++ papL s.roll i s.book.qs)) == 0
    · rw [q2, Bool.and_false] at hy
      have := hbad (by rw [← hy]; simp)
      simp only [go_sem, Nat.reduceAdd, Nat.reduceSub, Nat.reduceMul, Nat.reducePow, Nat.reduceEqDiff, Nat.reduceLT, Nat.reduceLeDiff, Nat.reduceBEq, Nat.reduceBNe, Int.reduceToNat, Int.reduceLT, Int.reduceLE, Int.reduceEq, Int.reduceBNe, Int.reduceBEq, Int.reduceAdd, Int.reduceSub, Int.reduceMul, Int.reduceNeg, ↓reduceIte, bne, q1, q2, q3, q4, this]
    rw [q1, q3] at hz
    rw [q2, q4] at hy
    simp only [go_sem, Nat.reduceAdd, Nat.reduceSub, Nat.reduceMul, Nat.reducePow, Nat.reduceEqDiff, Nat.reduceLT, Nat.reduceLeDiff, Nat.reduceBEq, Nat.reduceBNe, Int.reduceToNat, Int.reduceLT, Int.reduceLE, Int.reduceEq, Int.reduceBNe, Int.reduceBEq, Int.reduceAdd, Int.reduceSub, Int.reduceMul, Int.reduceNeg, ↓reduceIte, bne, q1, q2, q3, q4, hw]
    refine RoundK.step () hi ?_ ?_
    · exact hgood (by rw [← hz, ← hy]; rfl)
    · simp only [go_sem, Nat.reduceAdd, Nat.reduceSub, Nat.reduceMul, Nat.reducePow, Nat.reduceEqDiff, Nat.reduceLT, Nat.reduceLeDiff, Nat.reduceBEq, Nat.reduceBNe, Int.reduceToNat, Int.reduceLT, Int.reduceLE, Int.reduceEq, Int.reduceBNe, Int.reduceBEq, Int.reduceAdd, Int.reduceSub, Int.reduceMul, Int.reduceNeg, ↓reduceIte]
  intro _ hdx hI
  have hdx : decide ((3 : Int) < 3) = false := hdx
  rw [range_yes (f := fun c => mZ s (c : Nat) && pZ s (c : Nat)) hI] at hB
  rw [hB]
  simp only [go_sem, Nat.reduceAdd, Nat.reduceSub, Nat.reduceMul, Nat.reducePow, Nat.reduceEqDiff, Nat.reduceLT, Nat.reduceLeDiff, Nat.reduceBEq, Nat.reduceBNe, Int.reduceToNat, Int.reduceLT, Int.reduceLE, Int.reduceEq, Int.reduceBNe, Int.reduceBEq, Int.reduceAdd, Int.reduceSub, Int.reduceMul, Int.reduceNeg, ↓reduceIte, hdx]
end Go.Proofs.YtbllopdcbkeadaaGreat
set_option linter.unusedSimpArgs false
set_option linter.unusedVariables false
namespace Go.Proofs.YtbllopdcbkeadaaGreat
open Go.Abs
def txts (l : List ByteArray) : List (List D) := l.map fun s => [.str s]
@[go_sem] theorem txts_len (l : List ByteArray) : (txts l).length = l.length := by simp [txts]
theorem txts_at (l : List ByteArray) {i : Nat} (hi : i < l.length) : (txts l).getD i [] = [.str l[i]] := by
  simp [txts, hi]
set_option maxRecDepth 8000 in
theorem texts_spec (xs ys : List ByteArray) (hl : xs.length < 2 ^ 60) : Abs.Spec Tryz.prog 25 [] [.sl 1 (txts xs), .sl 1 (txts ys)] [] (.bool (decide (xs = ys))) := by
  refine Abs.Spec.go (n := 26) (np := 2) (rs := [.tmp 4]) mixed Tryz.func25 rfl rfl rfl rfl rfl (by simp) (by simp) ?_
  simp only [go_sem, Nat.reduceAdd, Nat.reduceSub, Nat.reduceMul, Nat.reducePow, Nat.reduceEqDiff, Nat.reduceLT, Nat.reduceLeDiff, Nat.reduceBEq, Nat.reduceBNe, Int.reduceToNat, Int.reduceLT, Int.reduceLE, Int.reduceEq, Int.reduceBNe, Int.reduceBEq, Int.reduceAdd, Int.reduceSub, Int.reduceMul, Int.reduceNeg, ↓reduceIte]
  by_cases hlen : xs.length = ys.length
  case neg =>
    have b : ((xs.length : Int) == (ys.length : Int)) = false := by rw [beq_eq_false_iff_ne]; omega
    have e : decide (xs = ys) = false := decide_eq_false fun h => hlen (by rw [h])
    simp only [go_sem, Nat.reduceAdd, Nat.reduceSub, Nat.reduceMul, Nat.reducePow, Nat.reduceEqDiff, Nat.reduceLT, Nat.reduceLeDiff, Nat.reduceBEq, Nat.reduceBNe, Int.reduceToNat, Int.reduceLT, Int.reduceLE, Int.reduceEq, Int.reduceBNe, Int.reduceBEq, Int.reduceAdd, Int.reduceSub, Int.reduceMul, Int.reduceNeg, ↓reduceIte, bne, b, e]
  have b : ((xs.length : Int) == (ys.length : Int)) = true := by rw [beq_iff_eq]; omega
  simp only [go_sem, Nat.reduceAdd, Nat.reduceSub, Nat.reduceMul, Nat.reducePow, Nat.reduceEqDiff, Nat.reduceLT, Nat.reduceLeDiff, Nat.reduceBEq, Nat.reduceBNe, Int.reduceToNat, Int.reduceLT, Int.reduceLE, Int.reduceEq, Int.reduceBNe, Int.reduceBEq, Int.reduceAdd, Int.reduceSub, Int.reduceMul, Int.reduceNeg, ↓reduceIte, bne, b]
  refine LoopK.walk (S := Unit) xs.length [0, 1] [] (fun i _ => [(5, .int .i64 i)]) (fun i _ => []) (fun i _ => ∀ j (h1 : j < xs.length) (h2 : j < ys.length), j < i → xs[j] = ys[j]) () (by simp only [go_sem, Nat.reduceAdd, Nat.reduceSub, Nat.reduceMul, Nat.reducePow, Nat.reduceEqDiff, Nat.reduceLT, Nat.reduceLeDiff, Nat.reduceBEq, Nat.reduceBNe, Int.reduceToNat, Int.reduceLT, Int.reduceLE, Int.reduceEq, Int.reduceBNe, Int.reduceBEq, Int.reduceAdd, Int.reduceSub, Int.reduceMul, Int.reduceNeg, ↓reduceIte] <;> exact rfl) (by simp only [go_sem, Nat.reduceAdd, Nat.reduceSub, Nat.reduceMul, Nat.reducePow, Nat.reduceEqDiff, Nat.reduceLT, Nat.reduceLeDiff, Nat.reduceBEq, Nat.reduceBNe, Int.reduceToNat, Int.reduceLT, Int.reduceLE, Int.reduceEq, Int.reduceBNe, Int.reduceBEq, Int.reduceAdd, Int.reduceSub, Int.reduceMul, Int.reduceNeg, ↓reduceIte] <;> exact rfl) (by intros; omega) ?_ ?_ ?_
  · simp only [go_sem, Nat.reduceAdd, Nat.reduceSub, Nat.reduceMul, Nat.reducePow, Nat.reduceEqDiff, Nat.reduceLT, Nat.reduceLeDiff, Nat.reduceBEq, Nat.reduceBNe, Int.reduceToNat, Int.reduceLT, Int.reduceLE, Int.reduceEq, Int.reduceBNe, Int.reduceBEq, Int.reduceAdd, Int.reduceSub, Int.reduceMul, Int.reduceNeg, ↓reduceIte] <;> simp
  · intro i _ hi hdi hw hI
    have hi2 : i < ys.length := by omega
    have hm := txts_at xs hi
    have hm2 := txts_at ys hi2
    have e0 := eq_next hI hi hi2
    have e1 : xs[i] ≠ ys[i] → decide (xs = ys) = false := fun h => decide_eq_false fun e => h (by subst e; rfl)
    have hl1 : (i : Int) < (xs.length : Int) := by omega
    have hl2 : (i : Int) < (ys.length : Int) := by omega
    obtain ⟨x, hx⟩ : ∃ x, x = xs[i] := ⟨_, rfl⟩
    obtain ⟨y, hy⟩ : ∃ y, y = ys[i] := ⟨_, rfl⟩
    rw [← hx] at hm e0 e1
    rw [← hy] at hm2 e0 e1
    clear hx hy hI hlen b
    simp only [go_sem, Nat.reduceAdd, Nat.reduceSub, Nat.reduceMul, Nat.reducePow, Nat.reduceEqDiff, Nat.reduceLT, Nat.reduceLeDiff, Nat.reduceBEq, Nat.reduceBNe, Int.reduceToNat, Int.reduceLT, Int.reduceLE, Int.reduceEq, Int.reduceBNe, Int.reduceBEq, Int.reduceAdd, Int.reduceSub, Int.reduceMul, Int.reduceNeg, ↓reduceIte, hdi, hm, hm2]
    (repeat' (with_reducible first | refine And.intro ?_ ?_ | exact DrawN.mk (by kernel_rfl) | exact OkN.mk (by kernel_rfl))) <;> try omega
    by_cases he : x = y
    · have q : decide (x = y) = true := decide_eq_true he
      simp only [go_sem, Nat.reduceAdd, Nat.reduceSub, Nat.reduceMul, Nat.reducePow, Nat.reduceEqDiff, Nat.reduceLT, Nat.reduceLeDiff, Nat.reduceBEq, Nat.reduceBNe, Int.reduceToNat, Int.reduceLT, Int.reduceLE, Int.reduceEq, Int.reduceBNe, Int.reduceBEq, Int.reduceAdd, Int.reduceSub, Int.reduceMul, Int.reduceNeg, ↓reduceIte, bne, q, hw]
      refine RoundK.step () hi (e0 he) ?_
      simp only [go_sem, Nat.reduceAdd, Nat.reduceSub, Nat.reduceMul, Nat.reducePow, Nat.reduceEqDiff, Nat.reduceLT, Nat.reduceLeDiff, Nat.reduceBEq, Nat.reduceBNe, Int.reduceToNat, Int.reduceLT, Int.reduceLE, Int.reduceEq, Int.reduceBNe, Int.reduceBEq, Int.reduceAdd, Int.reduceSub, Int.reduceMul, Int.reduceNeg, ↓reduceIte]
    · have q : decide (x = y) = false := decide_eq_false he
      simp only [go_sem, Nat.reduceAdd, Nat.reduceSub, Nat.reduceMul, Nat.reducePow, Nat.reduceEqDiff, Nat.reduceLT, Nat.reduceLeDiff, Nat.reduceBEq, Nat.reduceBNe, Int.reduceToNat, Int.reduceLT, Int.reduceLE, Int.reduceEq, Int.reduceBNe, Int.reduceBEq, Int.reduceAdd, Int.reduceSub, Int.reduceMul, Int.reduceNeg, ↓reduceIte, bne, q, e1 he]
  · intro _ hdx hI
    have e : decide (xs = ys) = true := decide_eq_true (ext_list hlen hI)
    simp only [go_sem, Nat.reduceAdd, Nat.reduceSub, Nat.reduceMul, Nat.reducePow, Nat.reduceEqDiff, Nat.reduceLT, Nat.reduceLeDiff, Nat.reduceBEq, Nat.reduceBNe, Int.reduceToNat, Int.reduceLT, Int.reduceLE, Int.reduceEq, Int.reduceBNe, Int.reduceBEq, Int.reduceAdd, Int.reduceSub, Int.reduceMul, Int.reduceNeg, ↓reduceIte, hdx, e]
def prow (x : ByteArray × Bool) : List D := [.str x.1, .bool x.2]
def mk13 (s1 s2 s3 s4 s5 s6 s7 s8 s9 s10 s11 s12 s13 : ByteArray) (b1 b2 b3 b4 b5 b6 b7 b8 b9 b10 b11 b12 b13 : Bool) : List (ByteArray × Bool) := [(s1, b1), (s2, b2), (s3, b3), (s4, b4), (s5, b5), (s6, b6), (s7, b7), (s8, b8), (s9, b9), (s10, b10), (s11, b11), (s12, b12), (s13, b13)]
theorem fold13 (s1 s2 s3 s4 s5 s6 s7 s8 s9 s10 s11 s12 s13 : ByteArray) (b1 b2 b3 b4 b5 b6 b7 b8 b9 b10 b11 b12 b13 : Bool) : [[D.str s1, D.bool b1], [D.str s2, D.bool b2], [D.str s3, D.bool b3], [D.str s4, D.bool b4], [D.str s5, D.bool b5], [D.str s6, D.bool b6], [D.str s7, D.bool b7], [D.str s8, D.bool b8], [D.str s9, D.bool b9], [D.str s10, D.bool b10], [D.str s11, D.bool b11], [D.str s12, D.bool b12], [D.str s13, D.bool b13]] = (mk13 s1 s2 s3 s4 s5 s6 s7 s8 s9 s10 s11 s12 s13 b1 b2 b3 b4 b5 b6 b7 b8 b9 b10 b11 b12 b13).map prow := rfl
def mkS13 (s1 s2 s3 s4 s5 s6 s7 s8 s9 s10 s11 s12 s13 : ByteArray) : List ByteArray := [s1, s2, s3, s4, s5, s6, s7, s8, s9, s10, s11, s12, s13]
theorem foldS13 (s1 s2 s3 s4 s5 s6 s7 s8 s9 s10 s11 s12 s13 : ByteArray) : [[D.str s1], [D.str s2], [D.str s3], [D.str s4], [D.str s5], [D.str s6], [D.str s7], [D.str s8], [D.str s9], [D.str s10], [D.str s11], [D.str s12], [D.str s13]] = txts (mkS13 s1 s2 s3 s4 s5 s6 s7 s8 s9 s10 s11 s12 s13) := rfl
def bools (l : List Bool) : List (List D) := l.map fun b => [.bool b]
def mkB13 (b1 b2 b3 b4 b5 b6 b7 b8 b9 b10 b11 b12 b13 : Bool) : List Bool := [b1, b2, b3, b4, b5, b6, b7, b8, b9, b10, b11, b12, b13]
theorem foldB13 (b1 b2 b3 b4 b5 b6 b7 b8 b9 b10 b11 b12 b13 : Bool) : [[D.bool b1], [D.bool b2], [D.bool b3], [D.bool b4], [D.bool b5], [D.bool b6], [D.bool b7], [D.bool b8], [D.bool b9], [D.bool b10], [D.bool b11], [D.bool b12], [D.bool b13]] = bools (mkB13 b1 b2 b3 b4 b5 b6 b7 b8 b9 b10 b11 b12 b13) := rfl
@[go_sem] theorem bools_len (l : List Bool) : (bools l).length = l.length := by simp [bools]
theorem bools_at (l : List Bool) {i : Nat} (hi : i < l.length) : (bools l).getD i [] = [.bool l[i]] := by simp [bools, hi]
theorem prow_at (l : List (ByteArray × Bool)) {i : Nat} (hi : i < l.length) : (l.map prow).getD i [] = [.str l[i].1, .bool l[i].2] := by simp [prow, hi]
def diffL (L : List (ByteArray × Bool)) : List ByteArray := (L.filter fun x => !x.2).map (·.1)
theorem diffL_len (L : List (ByteArray × Bool)) : (diffL L).length ≤ L.length := by
  rw [diffL, List.length_map]; exact List.length_filter_le ..
theorem diffL_step (L : List (ByteArray × Bool)) {i : Nat} (hi : i < L.length) : diffL (L.take (i + 1)) = if L[i].2 then diffL (L.take i) else diffL (L.take i) ++ [L[i].1] := by
  rw [List.take_succ_eq_append_getElem hi, diffL, List.filter_append, List.map_append]
  cases h : L[i].2 <;> simp [diffL, h]
def parts (a b : StateV) : List (ByteArray × Bool) := mk13 ⟨#[67, 108, 111, 99, 107]⟩ ⟨#[77, 101, 109, 98, 101, 114, 115]⟩ ⟨#[73, 110, 115, 116, 115]⟩ ⟨#[65, 115, 115, 101, 116, 115]⟩ ⟨#[78, 101, 120, 116]⟩ ⟨#[84, 114, 97, 100, 101, 115]⟩ ⟨#[80, 111, 115, 115]⟩ ⟨#[76, 97, 115, 116]⟩ ⟨#[66, 97, 108, 97, 110, 99, 101, 115]⟩ ⟨#[80, 108, 101, 100, 103, 101, 115]⟩ ⟨#[67, 97, 108, 108, 115]⟩ ⟨#[66, 105, 100, 115]⟩ ⟨#[83, 101, 97, 116, 115]⟩ (a.now == b.now && (a.day == b.day && a.phase == b.phase)) (decide (a.roll.ms = b.roll.ms)) (decide (a.roll.ns = b.roll.ns)) (decide (a.roll.xs = b.roll.xs)) (a.book.next == b.book.next) (decide (a.book.ts = b.book.ts)) (decide (a.book.qs = b.book.qs)) (a.led.last == b.led.last) (decide (a.led.bs = b.led.bs)) (decide (a.ps = b.ps)) (decide (a.calls = b.calls)) (decide (a.bids = b.bids)) (decide (a.seats = b.seats))
set_option maxHeartbeats 4000000 in
set_option maxRecDepth 16000 in
theorem auditDiff_spec (a b : StateV) (h : a.small) : Abs.Spec Tryz.prog 24 [] [.agg a.cells, .agg b.cells] [.own 1 (txts (diffL (parts a b)))] (.ref 0) := by
  have hr := h.roll.small
  obtain ⟨hr1, hr2, hr3⟩ := h.roll
  obtain ⟨hb1, hb2⟩ := h.book
  have h1 := eqMemberV_spec a.roll.ms b.roll.ms (by omega)
  have h2 := eqInstV_spec a.roll.ns b.roll.ns (by omega)
  have h3 := eqAssetV_spec a.roll.xs b.roll.xs (by omega)
  have h4 := eqTradeV_spec a.book.ts b.book.ts (by omega)
  have h5 := eqPosV_spec a.book.qs b.book.qs (by omega)
  have h6 := eqBalV_spec a.led.bs b.led.bs (by have := h.led; omega)
  have h7 := eqPlg_spec a.ps b.ps (by have := h.ps; omega)
  have h8 := eqCallV_spec a.calls b.calls (by have := h.calls; omega)
  have h9 := eqBidV_spec a.bids b.bids (by have := h.bids; omega)
  have h10 := sameSeats_spec a.seats b.seats (by have := h.seats; omega) (fun x hx => ⟨by have := (h.rs x hx).1; omega, by have := (h.rs x hx).2; omega⟩)
  simp only [StateV.cells]
  refine Abs.Spec.go (n := 118) (np := 2) (rs := [.tmp 4]) mixed Tryz.func24 rfl rfl rfl rfl rfl (by simp) (by simp) ?_
  simp only [go_sem, Nat.reduceAdd, Nat.reduceSub, Nat.reduceMul, Nat.reducePow, Nat.reduceEqDiff, Nat.reduceLT, Nat.reduceLeDiff, Nat.reduceBEq, Nat.reduceBNe, Int.reduceToNat, Int.reduceLT, Int.reduceLE, Int.reduceEq, Int.reduceBNe, Int.reduceBEq, Int.reduceAdd, Int.reduceSub, Int.reduceMul, Int.reduceNeg, ↓reduceIte]
  (repeat' (with_reducible first | refine And.intro ?_ ?_ | exact DrawN.mk (by kernel_rfl) | exact OkN.mk (by kernel_rfl))) <;> try omega
  simp only [List.append_eq, List.cons_append, List.nil_append]
  simp only [go_sem, Nat.reduceAdd, Nat.reduceSub, Nat.reduceMul, Nat.reducePow, Nat.reduceEqDiff, Nat.reduceLT, Nat.reduceLeDiff, Nat.reduceBEq, Nat.reduceBNe, Int.reduceToNat, Int.reduceLT, Int.reduceLE, Int.reduceEq, Int.reduceBNe, Int.reduceBEq, Int.reduceAdd, Int.reduceSub, Int.reduceMul, Int.reduceNeg, ↓reduceIte]
  (repeat' (with_reducible first | refine And.intro ?_ ?_ | exact DrawN.mk (by kernel_rfl) | exact OkN.mk (by kernel_rfl))) <;> try omega
  refine CallN.pure h1 ?_
  simp only [go_sem, Nat.reduceAdd, Nat.reduceSub, Nat.reduceMul, Nat.reducePow, Nat.reduceEqDiff, Nat.reduceLT, Nat.reduceLeDiff, Nat.reduceBEq, Nat.reduceBNe, Int.reduceToNat, Int.reduceLT, Int.reduceLE, Int.reduceEq, Int.reduceBNe, Int.reduceBEq, Int.reduceAdd, Int.reduceSub, Int.reduceMul, Int.reduceNeg, ↓reduceIte]
  (repeat' (with_reducible first | refine And.intro ?_ ?_ | exact DrawN.mk (by kernel_rfl) | exact OkN.mk (by kernel_rfl))) <;> try omega
  refine CallN.pure h2 ?_
  simp only [go_sem, Nat.reduceAdd, Nat.reduceSub, Nat.reduceMul, Nat.reducePow, Nat.reduceEqDiff, Nat.reduceLT, Nat.reduceLeDiff, Nat.reduceBEq, Nat.reduceBNe, Int.reduceToNat, Int.reduceLT, Int.reduceLE, Int.reduceEq, Int.reduceBNe, Int.reduceBEq, Int.reduceAdd, Int.reduceSub, Int.reduceMul, Int.reduceNeg, ↓reduceIte]
  (repeat' (with_reducible first | refine And.intro ?_ ?_ | exact DrawN.mk (by kernel_rfl) | exact OkN.mk (by kernel_rfl))) <;> try omega
  refine CallN.pure h3 ?_
  simp only [go_sem, Nat.reduceAdd, Nat.reduceSub, Nat.reduceMul, Nat.reducePow, Nat.reduceEqDiff, Nat.reduceLT, Nat.reduceLeDiff, Nat.reduceBEq, Nat.reduceBNe, Int.reduceToNat, Int.reduceLT, Int.reduceLE, Int.reduceEq, Int.reduceBNe, Int.reduceBEq, Int.reduceAdd, Int.reduceSub, Int.reduceMul, Int.reduceNeg, ↓reduceIte]
  (repeat' (with_reducible first | refine And.intro ?_ ?_ | exact DrawN.mk (by kernel_rfl) | exact OkN.mk (by kernel_rfl))) <;> try omega
  refine CallN.pure h4 ?_
  simp only [go_sem, Nat.reduceAdd, Nat.reduceSub, Nat.reduceMul, Nat.reducePow, Nat.reduceEqDiff, Nat.reduceLT, Nat.reduceLeDiff, Nat.reduceBEq, Nat.reduceBNe, Int.reduceToNat, Int.reduceLT, Int.reduceLE, Int.reduceEq, Int.reduceBNe, Int.reduceBEq, Int.reduceAdd, Int.reduceSub, Int.reduceMul, Int.reduceNeg, ↓reduceIte]
  (repeat' (with_reducible first | refine And.intro ?_ ?_ | exact DrawN.mk (by kernel_rfl) | exact OkN.mk (by kernel_rfl))) <;> try omega
  refine CallN.pure h5 ?_
  simp only [go_sem, Nat.reduceAdd, Nat.reduceSub, Nat.reduceMul, Nat.reducePow, Nat.reduceEqDiff, Nat.reduceLT, Nat.reduceLeDiff, Nat.reduceBEq, Nat.reduceBNe, Int.reduceToNat, Int.reduceLT, Int.reduceLE, Int.reduceEq, Int.reduceBNe, Int.reduceBEq, Int.reduceAdd, Int.reduceSub, Int.reduceMul, Int.reduceNeg, ↓reduceIte]
  (repeat' (with_reducible first | refine And.intro ?_ ?_ | exact DrawN.mk (by kernel_rfl) | exact OkN.mk (by kernel_rfl))) <;> try omega
  refine CallN.pure h6 ?_
  simp only [go_sem, Nat.reduceAdd, Nat.reduceSub, Nat.reduceMul, Nat.reducePow, Nat.reduceEqDiff, Nat.reduceLT, Nat.reduceLeDiff, Nat.reduceBEq, Nat.reduceBNe, Int.reduceToNat, Int.reduceLT, Int.reduceLE, Int.reduceEq, Int.reduceBNe, Int.reduceBEq, Int.reduceAdd, Int.reduceSub, Int.reduceMul, Int.reduceNeg, ↓reduceIte]
  (repeat' (with_reducible first | refine And.intro ?_ ?_ | exact DrawN.mk (by kernel_rfl) | exact OkN.mk (by kernel_rfl))) <;> try omega
  refine CallN.pure h7 ?_
  simp only [go_sem, Nat.reduceAdd, Nat.reduceSub, Nat.reduceMul, Nat.reducePow, Nat.reduceEqDiff, Nat.reduceLT, Nat.reduceLeDiff, Nat.reduceBEq, Nat.reduceBNe, Int.reduceToNat, Int.reduceLT, Int.reduceLE, Int.reduceEq, Int.reduceBNe, Int.reduceBEq, Int.reduceAdd, Int.reduceSub, Int.reduceMul, Int.reduceNeg, ↓reduceIte]
  (repeat' (with_reducible first | refine And.intro ?_ ?_ | exact DrawN.mk (by kernel_rfl) | exact OkN.mk (by kernel_rfl))) <;> try omega
  refine CallN.pure h8 ?_
  simp only [go_sem, Nat.reduceAdd, Nat.reduceSub, Nat.reduceMul, Nat.reducePow, Nat.reduceEqDiff, Nat.reduceLT, Nat.reduceLeDiff, Nat.reduceBEq, Nat.reduceBNe, Int.reduceToNat, Int.reduceLT, Int.reduceLE, Int.reduceEq, Int.reduceBNe, Int.reduceBEq, Int.reduceAdd, Int.reduceSub, Int.reduceMul, Int.reduceNeg, ↓reduceIte]
  (repeat' (with_reducible first | refine And.intro ?_ ?_ | exact DrawN.mk (by kernel_rfl) | exact OkN.mk (by kernel_rfl))) <;> try omega
  refine CallN.pure h9 ?_
  simp only [go_sem, Nat.reduceAdd, Nat.reduceSub, Nat.reduceMul, Nat.reducePow, Nat.reduceEqDiff, Nat.reduceLT, Nat.reduceLeDiff, Nat.reduceBEq, Nat.reduceBNe, Int.reduceToNat, Int.reduceLT, Int.reduceLE, Int.reduceEq, Int.reduceBNe, Int.reduceBEq, Int.reduceAdd, Int.reduceSub, Int.reduceMul, Int.reduceNeg, ↓reduceIte]
  (repeat' (with_reducible first | refine And.intro ?_ ?_ | exact DrawN.mk (by kernel_rfl) | exact OkN.mk (by kernel_rfl))) <;> try omega
  refine CallN.pure h10 ?_
  simp only [go_sem, Nat.reduceAdd, Nat.reduceSub, Nat.reduceMul, Nat.reducePow, Nat.reduceEqDiff, Nat.reduceLT, Nat.reduceLeDiff, Nat.reduceBEq, Nat.reduceBNe, Int.reduceToNat, Int.reduceLT, Int.reduceLE, Int.reduceEq, Int.reduceBNe, Int.reduceBEq, Int.reduceAdd, Int.reduceSub, Int.reduceMul, Int.reduceNeg, ↓reduceIte]
  (repeat' (with_reducible first | refine And.intro ?_ ?_ | exact DrawN.mk (by kernel_rfl) | exact OkN.mk (by kernel_rfl))) <;> try omega
  clear h1 h2 h3 h4 h5 h6 h7 h8 h9 h10
  rw [fold13]
  generalize hL : mk13 _ _ _ _ _ _ _ _ _ _ _ _ _ _ _ _ _ _ _ _ _ _ _ _ _ _ = L
  have hlen : L.length = 13 := by rw [← hL]; rfl
  have hres : diffL (parts a b) = diffL L := by rw [← hL]; rfl
  rw [hres]
  clear hres hL
  refine LoopK.walk (S := Unit) 13 [102, 103] [1648] (fun i _ => [(104, .int .i64 i), (5, .ref 1856)]) (fun i _ => [(1856, .own 1 (txts (diffL (L.take i))))]) (fun _ _ => True) () (by simp only [go_sem, Nat.reduceAdd, Nat.reduceSub, Nat.reduceMul, Nat.reducePow, Nat.reduceEqDiff, Nat.reduceLT, Nat.reduceLeDiff, Nat.reduceBEq, Nat.reduceBNe, Int.reduceToNat, Int.reduceLT, Int.reduceLE, Int.reduceEq, Int.reduceBNe, Int.reduceBEq, Int.reduceAdd, Int.reduceSub, Int.reduceMul, Int.reduceNeg, ↓reduceIte] <;> exact rfl) (by simp only [go_sem, Nat.reduceAdd, Nat.reduceSub, Nat.reduceMul, Nat.reducePow, Nat.reduceEqDiff, Nat.reduceLT, Nat.reduceLeDiff, Nat.reduceBEq, Nat.reduceBNe, Int.reduceToNat, Int.reduceLT, Int.reduceLE, Int.reduceEq, Int.reduceBNe, Int.reduceBEq, Int.reduceAdd, Int.reduceSub, Int.reduceMul, Int.reduceNeg, ↓reduceIte] <;> exact rfl) trivial ?_ ?_ ?_
  · simp only [go_sem, Nat.reduceAdd, Nat.reduceSub, Nat.reduceMul, Nat.reducePow, Nat.reduceEqDiff, Nat.reduceLT, Nat.reduceLeDiff, Nat.reduceBEq, Nat.reduceBNe, Int.reduceToNat, Int.reduceLT, Int.reduceLE, Int.reduceEq, Int.reduceBNe, Int.reduceBEq, Int.reduceAdd, Int.reduceSub, Int.reduceMul, Int.reduceNeg, ↓reduceIte] <;> simp [diffL, txts]
  · intro i _ hi hdi hw _
    have hdi : decide ((i : Int) < 13) = true := hdi
    have hi2 : i < L.length := by omega
    have hm := prow_at L hi2
    have hs := diffL_step L hi2
    have hn := diffL_len (L.take i)
    have hn2 : (L.take i).length ≤ 13 := by simp; omega
    have hl1 : (i : Int) < 13 := by omega
    obtain ⟨x, hx⟩ : ∃ x, x = L[i] := ⟨_, rfl⟩
    rw [← hx] at hm hs
    simp only [go_sem, Nat.reduceAdd, Nat.reduceSub, Nat.reduceMul, Nat.reducePow, Nat.reduceEqDiff, Nat.reduceLT, Nat.reduceLeDiff, Nat.reduceBEq, Nat.reduceBNe, Int.reduceToNat, Int.reduceLT, Int.reduceLE, Int.reduceEq, Int.reduceBNe, Int.reduceBEq, Int.reduceAdd, Int.reduceSub, Int.reduceMul, Int.reduceNeg, ↓reduceIte, hdi, hm, List.length_map, hlen]
    (repeat' (with_reducible first | refine And.intro ?_ ?_ | exact DrawN.mk (by kernel_rfl) | exact OkN.mk (by kernel_rfl))) <;> try omega
    cases hb : x.2
    · rw [hb] at hs
      simp only [Bool.false_eq_true, if_false] at hs
      simp only [go_sem, Nat.reduceAdd, Nat.reduceSub, Nat.reduceMul, Nat.reducePow, Nat.reduceEqDiff, Nat.reduceLT, Nat.reduceLeDiff, Nat.reduceBEq, Nat.reduceBNe, Int.reduceToNat, Int.reduceLT, Int.reduceLE, Int.reduceEq, Int.reduceBNe, Int.reduceBEq, Int.reduceAdd, Int.reduceSub, Int.reduceMul, Int.reduceNeg, ↓reduceIte, hb, hw]
      (repeat' (with_reducible first | refine And.intro ?_ ?_ | exact DrawN.mk (by kernel_rfl) | exact OkN.mk (by kernel_rfl))) <;> try omega
      refine RoundK.step () hi trivial ?_
      simp only [go_sem, Nat.reduceAdd, Nat.reduceSub, Nat.reduceMul, Nat.reducePow, Nat.reduceEqDiff, Nat.reduceLT, Nat.reduceLeDiff, Nat.reduceBEq, Nat.reduceBNe, Int.reduceToNat, Int.reduceLT, Int.reduceLE, Int.reduceEq, Int.reduceBNe, Int.reduceBEq, Int.reduceAdd, Int.reduceSub, Int.reduceMul, Int.reduceNeg, ↓reduceIte, hs] <;> simp [txts]
    · rw [hb] at hs
      simp only [if_true] at hs
      simp only [go_sem, Nat.reduceAdd, Nat.reduceSub, Nat.reduceMul, Nat.reducePow, Nat.reduceEqDiff, Nat.reduceLT, Nat.reduceLeDiff, Nat.reduceBEq, Nat.reduceBNe, Int.reduceToNat, Int.reduceLT, Int.reduceLE, Int.reduceEq, Int.reduceBNe, Int.reduceBEq, Int.reduceAdd, Int.reduceSub, Int.reduceMul, Int.reduceNeg, ↓reduceIte, hb, hw]
      refine RoundK.step () hi trivial ?_
      simp only [go_sem, Nat.reduceAdd, Nat.reduceSub, Nat.reduceMul, Nat.reducePow, Nat.reduceEqDiff, Nat.reduceLT, Nat.reduceLeDiff, Nat.reduceBEq, Nat.reduceBNe, Int.reduceToNat, Int.reduceLT, Int.reduceLE, Int.reduceEq, Int.reduceBNe, Int.reduceBEq, Int.reduceAdd, Int.reduceSub, Int.reduceMul, Int.reduceNeg, ↓reduceIte, hs]
  · intro _ hdx _
    have hdx : decide ((13 : Int) < 13) = false := hdx
    have ht : L.take 13 = L := List.take_of_length_le (by omega)
    simp only [go_sem, Nat.reduceAdd, Nat.reduceSub, Nat.reduceMul, Nat.reducePow, Nat.reduceEqDiff, Nat.reduceLT, Nat.reduceLeDiff, Nat.reduceBEq, Nat.reduceBNe, Int.reduceToNat, Int.reduceLT, Int.reduceLE, Int.reduceEq, Int.reduceBNe, Int.reduceBEq, Int.reduceAdd, Int.reduceSub, Int.reduceMul, Int.reduceNeg, ↓reduceIte, hdx, ht]
end Go.Proofs.YtbllopdcbkeadaaGreat
