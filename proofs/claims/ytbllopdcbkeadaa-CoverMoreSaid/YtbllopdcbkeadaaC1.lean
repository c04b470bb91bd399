/- A roll is right: members, instruments, assets; no theorem of a claim. -/
import Derived.Test.YtbllopdcbkeadaaB6
set_option linter.unusedSimpArgs false
set_option linter.unusedVariables false
namespace Go.Proofs.Ytbllopdcbkeadaa
open Go.Abs
structure MemberV where
  no : Int
  state : Int
  need : Int
@[reducible] def MemberV.cells (x : MemberV) : List D := [.int .i64 x.no, .int .i64 x.state, .int .i64 x.need]
def MemberV.ok (x : MemberV) : Bool := within x.no 1 16 && within x.state 1 3 && inR x.need && decide (0 ≤ x.need)
theorem noMember_spec (x : MemberV) : Abs.Spec Try.prog 62 [] [.agg x.cells] [] (.int .i64 x.no) := by
  refine Abs.Spec.go (n := 5) (np := 1) (rs := [.tmp 2]) mixed Try.func62 rfl rfl rfl rfl rfl (by simp) (by simp) ?_
  simp only [MemberV.cells]
  simp only [go_sem, Nat.reduceAdd, Nat.reduceSub, Nat.reduceMul, Nat.reducePow, Nat.reduceEqDiff, Nat.reduceLT, Nat.reduceLeDiff, Nat.reduceBEq, Nat.reduceBNe, Int.reduceToNat, Int.reduceLT, Int.reduceLE, Int.reduceEq, Int.reduceBNe, Int.reduceBEq, Int.reduceAdd, Int.reduceSub, Int.reduceMul, Int.reduceNeg, ↓reduceIte]
theorem rightMember_spec (x : MemberV) : Abs.Spec Try.prog 63 [] [.agg x.cells] [] (.bool x.ok) := by
  have h1 := within_spec x.no 1 16
  have h2 := within_spec x.state 1 3
  have h3 := right_spec [x.need] (by simp)
  rw [right_one] at h3
  simp only [MemberV.cells]
  refine Abs.Spec.go (n := 22) (np := 1) (rs := [.tmp 2]) mixed Try.func63 rfl rfl rfl rfl rfl (by simp) (by simp) ?_
  simp only [go_sem, Nat.reduceAdd, Nat.reduceSub, Nat.reduceMul, Nat.reducePow, Nat.reduceEqDiff, Nat.reduceLT, Nat.reduceLeDiff, Nat.reduceBEq, Nat.reduceBNe, Int.reduceToNat, Int.reduceLT, Int.reduceLE, Int.reduceEq, Int.reduceBNe, Int.reduceBEq, Int.reduceAdd, Int.reduceSub, Int.reduceMul, Int.reduceNeg, ↓reduceIte]
  refine CallN.pure h1 ?_
  cases hb1 : within x.no 1 16
  · have e : x.ok = false := by simp [MemberV.ok, hb1]
    simp only [go_sem, Nat.reduceAdd, Nat.reduceSub, Nat.reduceMul, Nat.reducePow, Nat.reduceEqDiff, Nat.reduceLT, Nat.reduceLeDiff, Nat.reduceBEq, Nat.reduceBNe, Int.reduceToNat, Int.reduceLT, Int.reduceLE, Int.reduceEq, Int.reduceBNe, Int.reduceBEq, Int.reduceAdd, Int.reduceSub, Int.reduceMul, Int.reduceNeg, ↓reduceIte, e]
  simp only [go_sem, Nat.reduceAdd, Nat.reduceSub, Nat.reduceMul, Nat.reducePow, Nat.reduceEqDiff, Nat.reduceLT, Nat.reduceLeDiff, Nat.reduceBEq, Nat.reduceBNe, Int.reduceToNat, Int.reduceLT, Int.reduceLE, Int.reduceEq, Int.reduceBNe, Int.reduceBEq, Int.reduceAdd, Int.reduceSub, Int.reduceMul, Int.reduceNeg, ↓reduceIte]
  refine CallN.pure h2 ?_
  cases hb2 : within x.state 1 3
  · have e : x.ok = false := by simp [MemberV.ok, hb2]
    simp only [go_sem, Nat.reduceAdd, Nat.reduceSub, Nat.reduceMul, Nat.reducePow, Nat.reduceEqDiff, Nat.reduceLT, Nat.reduceLeDiff, Nat.reduceBEq, Nat.reduceBNe, Int.reduceToNat, Int.reduceLT, Int.reduceLE, Int.reduceEq, Int.reduceBNe, Int.reduceBEq, Int.reduceAdd, Int.reduceSub, Int.reduceMul, Int.reduceNeg, ↓reduceIte, e]
  simp only [go_sem, Nat.reduceAdd, Nat.reduceSub, Nat.reduceMul, Nat.reducePow, Nat.reduceEqDiff, Nat.reduceLT, Nat.reduceLeDiff, Nat.reduceBEq, Nat.reduceBNe, Int.reduceToNat, Int.reduceLT, Int.reduceLE, Int.reduceEq, Int.reduceBNe, Int.reduceBEq, Int.reduceAdd, Int.reduceSub, Int.reduceMul, Int.reduceNeg, ↓reduceIte]
  refine CallN.gen [] [] true (by simp) ?_
  simp only [go_sem, Nat.reduceAdd, Nat.reduceSub, Nat.reduceMul, Nat.reducePow, Nat.reduceEqDiff, Nat.reduceLT, Nat.reduceLeDiff, Nat.reduceBEq, Nat.reduceBNe, Int.reduceToNat, Int.reduceLT, Int.reduceLE, Int.reduceEq, Int.reduceBNe, Int.reduceBEq, Int.reduceAdd, Int.reduceSub, Int.reduceMul, Int.reduceNeg, ↓reduceIte]
  refine CallG.intro h3 ?_
  cases hb3 : inR x.need
  · have e : x.ok = false := by simp [MemberV.ok, hb3]
    simp only [go_sem, Nat.reduceAdd, Nat.reduceSub, Nat.reduceMul, Nat.reducePow, Nat.reduceEqDiff, Nat.reduceLT, Nat.reduceLeDiff, Nat.reduceBEq, Nat.reduceBNe, Int.reduceToNat, Int.reduceLT, Int.reduceLE, Int.reduceEq, Int.reduceBNe, Int.reduceBEq, Int.reduceAdd, Int.reduceSub, Int.reduceMul, Int.reduceNeg, ↓reduceIte, e]
  have e : x.ok = decide (0 ≤ x.need) := by simp [MemberV.ok, hb1, hb2, hb3]
  simp only [go_sem, Nat.reduceAdd, Nat.reduceSub, Nat.reduceMul, Nat.reducePow, Nat.reduceEqDiff, Nat.reduceLT, Nat.reduceLeDiff, Nat.reduceBEq, Nat.reduceBNe, Int.reduceToNat, Int.reduceLT, Int.reduceLE, Int.reduceEq, Int.reduceBNe, Int.reduceBEq, Int.reduceAdd, Int.reduceSub, Int.reduceMul, Int.reduceNeg, ↓reduceIte, e]
structure InstV where
  no : Int
  cur : Int
  mult : Int
  add : Int
  set : Int
  price : Int
  s0 : Int
  s1 : Int
  s2 : Int
  s3 : Int
  s4 : Int
  s5 : Int
@[reducible] def InstV.cells (x : InstV) : List D := [.int .i64 x.no, .int .i64 x.cur, .int .i64 x.mult, .int .i64 x.add, .int .i64 x.set, .int .i64 x.price, .int .i64 x.s0, .int .i64 x.s1, .int .i64 x.s2, .int .i64 x.s3, .int .i64 x.s4, .int .i64 x.s5]
def InstV.sh (x : InstV) : Nat → Int
  | 0 => x.s0 | 1 => x.s1 | 2 => x.s2 | 3 => x.s3 | 4 => x.s4 | _ => x.s5
def InstV.okS (x : InstV) : Bool := (List.range 6).all fun i => within (x.sh i) (-1073741824) 1073741824
def InstV.ok (x : InstV) : Bool := x.okS && within x.no 1 8 && within x.cur 0 2 && within x.mult 1 1024 && within x.add 0 1073741824 && within x.set 0 1073741824 && within x.price 0 1073741824
theorem noInst_spec (x : InstV) : Abs.Spec Try.prog 65 [] [.agg x.cells] [] (.int .i64 x.no) := by
  refine Abs.Spec.go (n := 5) (np := 1) (rs := [.tmp 2]) mixed Try.func65 rfl rfl rfl rfl rfl (by simp) (by simp) ?_
  simp only [InstV.cells]
  simp only [go_sem, Nat.reduceAdd, Nat.reduceSub, Nat.reduceMul, Nat.reducePow, Nat.reduceEqDiff, Nat.reduceLT, Nat.reduceLeDiff, Nat.reduceBEq, Nat.reduceBNe, Int.reduceToNat, Int.reduceLT, Int.reduceLE, Int.reduceEq, Int.reduceBNe, Int.reduceBEq, Int.reduceAdd, Int.reduceSub, Int.reduceMul, Int.reduceNeg, ↓reduceIte]
theorem rightInst_spec (x : InstV) : Abs.Spec Try.prog 66 [] [.agg x.cells] [] (.bool x.ok) := by
  have h1 := within_spec x.no 1 8
  have h2 := within_spec x.cur 0 2
  have h3 := within_spec x.mult 1 1024
  have h4 := within_spec x.add 0 1073741824
  have h5 := within_spec x.set 0 1073741824
  have h6 := within_spec x.price 0 1073741824
  simp only [InstV.cells]
  refine Abs.Spec.go (n := 42) (np := 1) (rs := [.tmp 2]) mixed Try.func66 rfl rfl rfl rfl rfl (by simp) (by simp) ?_
  simp only [go_sem, Nat.reduceAdd, Nat.reduceSub, Nat.reduceMul, Nat.reducePow, Nat.reduceEqDiff, Nat.reduceLT, Nat.reduceLeDiff, Nat.reduceBEq, Nat.reduceBNe, Int.reduceToNat, Int.reduceLT, Int.reduceLE, Int.reduceEq, Int.reduceBNe, Int.reduceBEq, Int.reduceAdd, Int.reduceSub, Int.reduceMul, Int.reduceNeg, ↓reduceIte]
  refine LoopK.count 6 [1, 6] [32] (fun i => [(7, .int .i64 i)]) (fun i => []) (fun i => ∀ j < i, within (x.sh j) (-1073741824) 1073741824 = true) (by simp only [go_sem, Nat.reduceAdd, Nat.reduceSub, Nat.reduceMul, Nat.reducePow, Nat.reduceEqDiff, Nat.reduceLT, Nat.reduceLeDiff, Nat.reduceBEq, Nat.reduceBNe, Int.reduceToNat, Int.reduceLT, Int.reduceLE, Int.reduceEq, Int.reduceBNe, Int.reduceBEq, Int.reduceAdd, Int.reduceSub, Int.reduceMul, Int.reduceNeg, ↓reduceIte] <;> exact rfl) (by simp only [go_sem, Nat.reduceAdd, Nat.reduceSub, Nat.reduceMul, Nat.reducePow, Nat.reduceEqDiff, Nat.reduceLT, Nat.reduceLeDiff, Nat.reduceBEq, Nat.reduceBNe, Int.reduceToNat, Int.reduceLT, Int.reduceLE, Int.reduceEq, Int.reduceBNe, Int.reduceBEq, Int.reduceAdd, Int.reduceSub, Int.reduceMul, Int.reduceNeg, ↓reduceIte] <;> exact rfl) (by simp) ?_ ?_
  · simp only [go_sem, Nat.reduceAdd, Nat.reduceSub, Nat.reduceMul, Nat.reducePow, Nat.reduceEqDiff, Nat.reduceLT, Nat.reduceLeDiff, Nat.reduceBEq, Nat.reduceBNe, Int.reduceToNat, Int.reduceLT, Int.reduceLE, Int.reduceEq, Int.reduceBNe, Int.reduceBEq, Int.reduceAdd, Int.reduceSub, Int.reduceMul, Int.reduceNeg, ↓reduceIte]
  · intro i hi hI
    simp only [go_sem, Nat.reduceAdd, Nat.reduceSub, Nat.reduceMul, Nat.reducePow, Nat.reduceEqDiff, Nat.reduceLT, Nat.reduceLeDiff, Nat.reduceBEq, Nat.reduceBNe, Int.reduceToNat, Int.reduceLT, Int.reduceLE, Int.reduceEq, Int.reduceBNe, Int.reduceBEq, Int.reduceAdd, Int.reduceSub, Int.reduceMul, Int.reduceNeg, ↓reduceIte]
    refine CondE.splitD (fun h => ?_) (fun h => ?_)
    · have hi' : i < 6 := by omega
      have hix : (List.drop (i * 1) [D.int .i64 x.s0, D.int .i64 x.s1, D.int .i64 x.s2, D.int .i64 x.s3, D.int .i64 x.s4, D.int .i64 x.s5]).headD .undef = .int .i64 (x.sh i) := by
        rcases i with _ | _ | _ | _ | _ | _ | i <;> first | rfl | omega
      have hw : IntKind.wrap .i64 ((i : Int) + 1) = ((i + 1 : Nat) : Int) := by rw [wr64 (by omega) (by omega)]; omega
      have hv := within_spec (x.sh i) (-1073741824) 1073741824
      simp only [go_sem, Nat.reduceAdd, Nat.reduceSub, Nat.reduceMul, Nat.reducePow, Nat.reduceEqDiff, Nat.reduceLT, Nat.reduceLeDiff, Nat.reduceBEq, Nat.reduceBNe, Int.reduceToNat, Int.reduceLT, Int.reduceLE, Int.reduceEq, Int.reduceBNe, Int.reduceBEq, Int.reduceAdd, Int.reduceSub, Int.reduceMul, Int.reduceNeg, ↓reduceIte, hix]
      refine ⟨by omega, CallN.pure hv ?_⟩
      cases hb : within (x.sh i) (-1073741824) 1073741824
      · have e1 : x.okS = false := by
          cases hc : x.okS
          · rfl
          · rw [InstV.okS, List.all_eq_true] at hc
            rw [hc i (List.mem_range.2 hi')] at hb; cases hb
        have e2 : x.ok = false := by simp [InstV.ok, e1]
        simp only [go_sem, Nat.reduceAdd, Nat.reduceSub, Nat.reduceMul, Nat.reducePow, Nat.reduceEqDiff, Nat.reduceLT, Nat.reduceLeDiff, Nat.reduceBEq, Nat.reduceBNe, Int.reduceToNat, Int.reduceLT, Int.reduceLE, Int.reduceEq, Int.reduceBNe, Int.reduceBEq, Int.reduceAdd, Int.reduceSub, Int.reduceMul, Int.reduceNeg, ↓reduceIte, e2]
      · simp only [go_sem, Nat.reduceAdd, Nat.reduceSub, Nat.reduceMul, Nat.reducePow, Nat.reduceEqDiff, Nat.reduceLT, Nat.reduceLeDiff, Nat.reduceBEq, Nat.reduceBNe, Int.reduceToNat, Int.reduceLT, Int.reduceLE, Int.reduceEq, Int.reduceBNe, Int.reduceBEq, Int.reduceAdd, Int.reduceSub, Int.reduceMul, Int.reduceNeg, ↓reduceIte, hw]
        refine RoundK.next hi' ?_ ?_
        · intro j hj
          rcases Nat.lt_or_ge j i with h | h
          · exact hI j h
          · obtain rfl : j = i := by omega
            exact hb
        · simp only [go_sem, Nat.reduceAdd, Nat.reduceSub, Nat.reduceMul, Nat.reducePow, Nat.reduceEqDiff, Nat.reduceLT, Nat.reduceLeDiff, Nat.reduceBEq, Nat.reduceBNe, Int.reduceToNat, Int.reduceLT, Int.reduceLE, Int.reduceEq, Int.reduceBNe, Int.reduceBEq, Int.reduceAdd, Int.reduceSub, Int.reduceMul, Int.reduceNeg, ↓reduceIte]
    · obtain rfl : i = 6 := by omega
      have hs : x.okS = true := List.all_eq_true.2 fun j hj => hI j (List.mem_range.1 hj)
      have e : x.ok = (within x.no 1 8 && within x.cur 0 2 && within x.mult 1 1024 && within x.add 0 1073741824 && within x.set 0 1073741824 && within x.price 0 1073741824) := by simp [InstV.ok, hs]
      rw [e]
      clear hI e hs
      repeat' (with_reducible first
          | refine And.intro ?_ ?_
          | exact DrawN.mk (by kernel_rfl)
          | exact OkN.mk (by kernel_rfl)
          | refine CallN.pure (by assumption) ?_
          | refine CallN.pure (h1) ?_
          | refine CallN.pure (h2) ?_
          | refine CallN.pure (h3) ?_
          | refine CallN.pure (h4) ?_
          | refine CallN.pure (h5) ?_
          | refine CallN.pure (h6) ?_
          | refine GuardK.splitDN (fun h => ?_) (fun h => ?_)
          | refine GuardK.splitD (fun h => ?_) (fun h => ?_)
          | refine CondE.splitDN (fun h => ?_) (fun h => ?_)
          | refine CondE.splitD (fun h => ?_) (fun h => ?_)
          | refine GuardK.splitN (fun h => ?_) (fun h => ?_)
          | refine GuardK.split (fun h => ?_) (fun h => ?_)
          | refine CondE.splitN (fun h => ?_) (fun h => ?_)
          | refine CondE.split (fun h => ?_) (fun h => ?_)
          | refine WeakK.id ?_
          | refine RoundK.next (by omega) ?_ ?_
          | exact trivial
          | simp only [*, go_sem, Nat.reduceAdd, Nat.reduceSub, Nat.reduceMul, Nat.reducePow, Nat.reduceEqDiff, Nat.reduceLT, Nat.reduceLeDiff, Nat.reduceBEq, Nat.reduceBNe, Int.reduceToNat, Int.reduceLT, Int.reduceLE, Int.reduceEq, Int.reduceBNe, Int.reduceBEq, Int.reduceAdd, Int.reduceSub, Int.reduceMul, Int.reduceNeg, ↓reduceIte])
      all_goals (simp_all; done)
theorem risesMember_spec (xs : List MemberV) (hl : xs.length < 2 ^ 62) : Abs.Spec Try.prog 61 [] [.sl 3 (xs.map MemberV.cells), .fn 62 [], .fn 63 []] [] (.bool (rises MemberV.no MemberV.ok xs)) := by
  refine Abs.Spec.go (n := 38) (np := 3) (rs := [.tmp 6]) mixed Try.func61 rfl rfl rfl rfl rfl (by simp) (by simp) ?_
  simp only [go_sem, Nat.reduceAdd, Nat.reduceSub, Nat.reduceMul, Nat.reducePow, Nat.reduceEqDiff, Nat.reduceLT, Nat.reduceLeDiff, Nat.reduceBEq, Nat.reduceBNe, Int.reduceToNat, Int.reduceLT, Int.reduceLE, Int.reduceEq, Int.reduceBNe, Int.reduceBEq, Int.reduceAdd, Int.reduceSub, Int.reduceMul, Int.reduceNeg, ↓reduceIte, List.length_map]
  refine ⟨Nat, fun i => [(6, .bool false), (0, .sl 3 (xs.map MemberV.cells)), (1, .fn 62 []), (2, .fn 63 []), (9, .sl 3 (xs.map MemberV.cells)), (10, .int .i64 xs.length), (11, .int .i64 i)], fun i => [], fun i => i ≤ xs.length ∧ ∀ j, j < i → risesAt MemberV.no MemberV.ok xs j = true, fun i => xs.length - i, 0, ?_, ?_, ?_⟩
  · simp
  · simp only [go_sem, Nat.reduceAdd, Nat.reduceSub, Nat.reduceMul, Nat.reducePow, Nat.reduceEqDiff, Nat.reduceLT, Nat.reduceLeDiff, Nat.reduceBEq, Nat.reduceBNe, Int.reduceToNat, Int.reduceLT, Int.reduceLE, Int.reduceEq, Int.reduceBNe, Int.reduceBEq, Int.reduceAdd, Int.reduceSub, Int.reduceMul, Int.reduceNeg, ↓reduceIte, List.length_map] <;> simp
  · rintro i ⟨hi, hr⟩
    simp only [go_sem, Nat.reduceAdd, Nat.reduceSub, Nat.reduceMul, Nat.reducePow, Nat.reduceEqDiff, Nat.reduceLT, Nat.reduceLeDiff, Nat.reduceBEq, Nat.reduceBNe, Int.reduceToNat, Int.reduceLT, Int.reduceLE, Int.reduceEq, Int.reduceBNe, Int.reduceBEq, Int.reduceAdd, Int.reduceSub, Int.reduceMul, Int.reduceNeg, ↓reduceIte]
    refine CondE.split (fun h => ?_) (fun h => ?_)
    · have hi' : i < xs.length := by simpa using h
      have bad : risesAt MemberV.no MemberV.ok xs i = false → rises MemberV.no MemberV.ok xs = false := fun hx => by
        simp only [rises, List.all_eq_false]
        exact ⟨i, List.mem_range.2 hi', by simp [hx]⟩
      simp only [go_sem, Nat.reduceAdd, Nat.reduceSub, Nat.reduceMul, Nat.reducePow, Nat.reduceEqDiff, Nat.reduceLT, Nat.reduceLeDiff, Nat.reduceBEq, Nat.reduceBNe, Int.reduceToNat, Int.reduceLT, Int.reduceLE, Int.reduceEq, Int.reduceBNe, Int.reduceBEq, Int.reduceAdd, Int.reduceSub, Int.reduceMul, Int.reduceNeg, ↓reduceIte, Int.toNat_natCast, map_at xs hi', MemberV.cells]
      refine ⟨by simp [hi'], ?_⟩
      have next : risesAt MemberV.no MemberV.ok xs i = true → ∀ j, j < i + 1 → risesAt MemberV.no MemberV.ok xs j = true := fun hx j hj => by
        rcases Nat.lt_succ_iff_lt_or_eq.1 hj with h1 | rfl
        · exact hr j h1
        · exact hx
      by_cases h0 : 0 < i
      · have hw : IntKind.wrap .i64 ((i : Int) - 1) = ((i - 1 : Nat) : Int) := by rw [wrap64 (by omega) (by omega)]; omega
        have hp : i - 1 < xs.length := by omega
        have hg : decide (0 < (i : Int)) = true := by simp; omega
        have hm := map_at (c := MemberV.cells) xs hp
        have hra := risesAt_pos MemberV.no MemberV.ok xs hi' h0
        repeat' (with_reducible first
          | refine And.intro ?_ ?_
          | exact DrawN.mk (by kernel_rfl)
          | exact OkN.mk (by kernel_rfl)
          | refine CallN.pure (rightMember_spec _) ?_
          | refine CallN.pure (noMember_spec _) ?_
          | refine GuardK.splitN (fun h => ?_) (fun h => ?_)
          | refine GuardK.split (fun h => ?_) (fun h => ?_)
          | refine CondE.split (fun h => ?_) (fun h => ?_)
          | refine WeakK.id ?_
          | simp only [hw, hg, hm, go_sem, Nat.reduceAdd, Nat.reduceSub, Nat.reduceMul, Nat.reducePow, Nat.reduceEqDiff, Nat.reduceLT, Nat.reduceLeDiff, Nat.reduceBEq, Nat.reduceBNe, Int.reduceToNat, Int.reduceLT, Int.reduceLE, Int.reduceEq, Int.reduceBNe, Int.reduceBEq, Int.reduceAdd, Int.reduceSub, Int.reduceMul, Int.reduceNeg, ↓reduceIte, *, Int.toNat_natCast, MemberV.cells])
        · simp; omega
        · exact (bad (by rw [hra]; simp at h; simp; intro _; omega)).symm
        · refine ⟨i + 1, ⟨hi', next (by rw [hra]; simp at h; simp [*])⟩, ?_, by simp only; omega⟩
          simp only [go_sem, Nat.reduceAdd, Nat.reduceSub, Nat.reduceMul, Nat.reducePow, Nat.reduceEqDiff, Nat.reduceLT, Nat.reduceLeDiff, Nat.reduceBEq, Nat.reduceBNe, Int.reduceToNat, Int.reduceLT, Int.reduceLE, Int.reduceEq, Int.reduceBNe, Int.reduceBEq, Int.reduceAdd, Int.reduceSub, Int.reduceMul, Int.reduceNeg, ↓reduceIte, List.length_map]
          rw [wrap64 (by omega) (by omega)]; simp
      · have hg : decide (0 < (i : Int)) = false := by simp; omega
        have hra := risesAt_zero MemberV.no MemberV.ok xs hi' h0
        repeat' (with_reducible first
          | refine And.intro ?_ ?_
          | exact DrawN.mk (by kernel_rfl)
          | exact OkN.mk (by kernel_rfl)
          | refine CallN.pure (rightMember_spec _) ?_
          | refine CallN.pure (noMember_spec _) ?_
          | refine GuardK.splitN (fun h => ?_) (fun h => ?_)
          | refine GuardK.split (fun h => ?_) (fun h => ?_)
          | refine CondE.split (fun h => ?_) (fun h => ?_)
          | refine WeakK.id ?_
          | simp only [hg, go_sem, Nat.reduceAdd, Nat.reduceSub, Nat.reduceMul, Nat.reducePow, Nat.reduceEqDiff, Nat.reduceLT, Nat.reduceLeDiff, Nat.reduceBEq, Nat.reduceBNe, Int.reduceToNat, Int.reduceLT, Int.reduceLE, Int.reduceEq, Int.reduceBNe, Int.reduceBEq, Int.reduceAdd, Int.reduceSub, Int.reduceMul, Int.reduceNeg, ↓reduceIte, *, Int.toNat_natCast, MemberV.cells])
        · refine ⟨i + 1, ⟨hi', next (by rw [hra]; simp [*])⟩, ?_, by simp only; omega⟩
          simp only [go_sem, Nat.reduceAdd, Nat.reduceSub, Nat.reduceMul, Nat.reducePow, Nat.reduceEqDiff, Nat.reduceLT, Nat.reduceLeDiff, Nat.reduceBEq, Nat.reduceBNe, Int.reduceToNat, Int.reduceLT, Int.reduceLE, Int.reduceEq, Int.reduceBNe, Int.reduceBEq, Int.reduceAdd, Int.reduceSub, Int.reduceMul, Int.reduceNeg, ↓reduceIte, List.length_map]
          rw [wrap64 (by omega) (by omega)]; simp
    · simp only [go_sem, Nat.reduceAdd, Nat.reduceSub, Nat.reduceMul, Nat.reducePow, Nat.reduceEqDiff, Nat.reduceLT, Nat.reduceLeDiff, Nat.reduceBEq, Nat.reduceBNe, Int.reduceToNat, Int.reduceLT, Int.reduceLE, Int.reduceEq, Int.reduceBNe, Int.reduceBEq, Int.reduceAdd, Int.reduceSub, Int.reduceMul, Int.reduceNeg, ↓reduceIte]
      have : i = xs.length := by simp at h; omega
      subst this
      symm
      simpa [rises] using hr
theorem risesInst_spec (xs : List InstV) (hl : xs.length < 2 ^ 62) : Abs.Spec Try.prog 64 [] [.sl 12 (xs.map InstV.cells), .fn 65 [], .fn 66 []] [] (.bool (rises InstV.no InstV.ok xs)) := by
  refine Abs.Spec.go (n := 38) (np := 3) (rs := [.tmp 6]) mixed Try.func64 rfl rfl rfl rfl rfl (by simp) (by simp) ?_
  simp only [go_sem, Nat.reduceAdd, Nat.reduceSub, Nat.reduceMul, Nat.reducePow, Nat.reduceEqDiff, Nat.reduceLT, Nat.reduceLeDiff, Nat.reduceBEq, Nat.reduceBNe, Int.reduceToNat, Int.reduceLT, Int.reduceLE, Int.reduceEq, Int.reduceBNe, Int.reduceBEq, Int.reduceAdd, Int.reduceSub, Int.reduceMul, Int.reduceNeg, ↓reduceIte, List.length_map]
  refine ⟨Nat, fun i => [(6, .bool false), (0, .sl 12 (xs.map InstV.cells)), (1, .fn 65 []), (2, .fn 66 []), (9, .sl 12 (xs.map InstV.cells)), (10, .int .i64 xs.length), (11, .int .i64 i)], fun i => [], fun i => i ≤ xs.length ∧ ∀ j, j < i → risesAt InstV.no InstV.ok xs j = true, fun i => xs.length - i, 0, ?_, ?_, ?_⟩
  · simp
  · simp only [go_sem, Nat.reduceAdd, Nat.reduceSub, Nat.reduceMul, Nat.reducePow, Nat.reduceEqDiff, Nat.reduceLT, Nat.reduceLeDiff, Nat.reduceBEq, Nat.reduceBNe, Int.reduceToNat, Int.reduceLT, Int.reduceLE, Int.reduceEq, Int.reduceBNe, Int.reduceBEq, Int.reduceAdd, Int.reduceSub, Int.reduceMul, Int.reduceNeg, ↓reduceIte, List.length_map] <;> simp
  · rintro i ⟨hi, hr⟩
    simp only [go_sem, Nat.reduceAdd, Nat.reduceSub, Nat.reduceMul, Nat.reducePow, Nat.reduceEqDiff, Nat.reduceLT, Nat.reduceLeDiff, Nat.reduceBEq, Nat.reduceBNe, Int.reduceToNat, Int.reduceLT, Int.reduceLE, Int.reduceEq, Int.reduceBNe, Int.reduceBEq, Int.reduceAdd, Int.reduceSub, Int.reduceMul, Int.reduceNeg, ↓reduceIte]
    refine CondE.split (fun h => ?_) (fun h => ?_)
    · have hi' : i < xs.length := by simpa using h
      have bad : risesAt InstV.no InstV.ok xs i = false → rises InstV.no InstV.ok xs = false := fun hx => by
        simp only [rises, List.all_eq_false]
        exact ⟨i, List.mem_range.2 hi', by simp [hx]⟩
      simp only [go_sem, Nat.reduceAdd, Nat.reduceSub, Nat.reduceMul, Nat.reducePow, Nat.reduceEqDiff, Nat.reduceLT, Nat.reduceLeDiff, Nat.reduceBEq, Nat.reduceBNe, Int.reduceToNat, Int.reduceLT, Int.reduceLE, Int.reduceEq, Int.reduceBNe, Int.reduceBEq, Int.reduceAdd, Int.reduceSub, Int.reduceMul, Int.reduceNeg, ↓reduceIte, Int.toNat_natCast, map_at xs hi', InstV.cells]
      refine ⟨by simp [hi'], ?_⟩
      have next : risesAt InstV.no InstV.ok xs i = true → ∀ j, j < i + 1 → risesAt InstV.no InstV.ok xs j = true := fun hx j hj => by
        rcases Nat.lt_succ_iff_lt_or_eq.1 hj with h1 | rfl
        · exact hr j h1
        · exact hx
      by_cases h0 : 0 < i
      · have hw : IntKind.wrap .i64 ((i : Int) - 1) = ((i - 1 : Nat) : Int) := by rw [wrap64 (by omega) (by omega)]; omega
        have hp : i - 1 < xs.length := by omega
        have hg : decide (0 < (i : Int)) = true := by simp; omega
        have hm := map_at (c := InstV.cells) xs hp
        have hra := risesAt_pos InstV.no InstV.ok xs hi' h0
        repeat' (with_reducible first
          | refine And.intro ?_ ?_
          | exact DrawN.mk (by kernel_rfl)
          | exact OkN.mk (by kernel_rfl)
          | refine CallN.pure (rightInst_spec _) ?_
          | refine CallN.pure (noInst_spec _) ?_
          | refine GuardK.splitN (fun h => ?_) (fun h => ?_)
          | refine GuardK.split (fun h => ?_) (fun h => ?_)
          | refine CondE.split (fun h => ?_) (fun h => ?_)
          | refine WeakK.id ?_
          | simp only [hw, hg, hm, go_sem, Nat.reduceAdd, Nat.reduceSub, Nat.reduceMul, Nat.reducePow, Nat.reduceEqDiff, Nat.reduceLT, Nat.reduceLeDiff, Nat.reduceBEq, Nat.reduceBNe, Int.reduceToNat, Int.reduceLT, Int.reduceLE, Int.reduceEq, Int.reduceBNe, Int.reduceBEq, Int.reduceAdd, Int.reduceSub, Int.reduceMul, Int.reduceNeg, ↓reduceIte, *, Int.toNat_natCast, InstV.cells])
        · simp; omega
        · exact (bad (by rw [hra]; simp at h; simp; intro _; omega)).symm
        · refine ⟨i + 1, ⟨hi', next (by rw [hra]; simp at h; simp [*])⟩, ?_, by simp only; omega⟩
          simp only [go_sem, Nat.reduceAdd, Nat.reduceSub, Nat.reduceMul, Nat.reducePow, Nat.reduceEqDiff, Nat.reduceLT, Nat.reduceLeDiff, Nat.reduceBEq, Nat.reduceBNe, Int.reduceToNat, Int.reduceLT, Int.reduceLE, Int.reduceEq, Int.reduceBNe, Int.reduceBEq, Int.reduceAdd, Int.reduceSub, Int.reduceMul, Int.reduceNeg, ↓reduceIte, List.length_map]
          rw [wrap64 (by omega) (by omega)]; simp
      · have hg : decide (0 < (i : Int)) = false := by simp; omega
        have hra := risesAt_zero InstV.no InstV.ok xs hi' h0
        repeat' (with_reducible first
          | refine And.intro ?_ ?_
          | exact DrawN.mk (by kernel_rfl)
          | exact OkN.mk (by kernel_rfl)
          | refine CallN.pure (rightInst_spec _) ?_
          | refine CallN.pure (noInst_spec _) ?_
          | refine GuardK.splitN (fun h => ?_) (fun h => ?_)
          | refine GuardK.split (fun h => ?_) (fun h => ?_)
          | refine CondE.split (fun h => ?_) (fun h => ?_)
          | refine WeakK.id ?_
          | simp only [hg, go_sem, Nat.reduceAdd, Nat.reduceSub, Nat.reduceMul, Nat.reducePow, Nat.reduceEqDiff, Nat.reduceLT, Nat.reduceLeDiff, Nat.reduceBEq, Nat.reduceBNe, Int.reduceToNat, Int.reduceLT, Int.reduceLE, Int.reduceEq, Int.reduceBNe, Int.reduceBEq, Int.reduceAdd, Int.reduceSub, Int.reduceMul, Int.reduceNeg, ↓reduceIte, *, Int.toNat_natCast, InstV.cells])
        · refine ⟨i + 1, ⟨hi', next (by rw [hra]; simp [*])⟩, ?_, by simp only; omega⟩
          simp only [go_sem, Nat.reduceAdd, Nat.reduceSub, Nat.reduceMul, Nat.reducePow, Nat.reduceEqDiff, Nat.reduceLT, Nat.reduceLeDiff, Nat.reduceBEq, Nat.reduceBNe, Int.reduceToNat, Int.reduceLT, Int.reduceLE, Int.reduceEq, Int.reduceBNe, Int.reduceBEq, Int.reduceAdd, Int.reduceSub, Int.reduceMul, Int.reduceNeg, ↓reduceIte, List.length_map]
          rw [wrap64 (by omega) (by omega)]; simp
    · simp only [go_sem, Nat.reduceAdd, Nat.reduceSub, Nat.reduceMul, Nat.reducePow, Nat.reduceEqDiff, Nat.reduceLT, Nat.reduceLeDiff, Nat.reduceBEq, Nat.reduceBNe, Int.reduceToNat, Int.reduceLT, Int.reduceLE, Int.reduceEq, Int.reduceBNe, Int.reduceBEq, Int.reduceAdd, Int.reduceSub, Int.reduceMul, Int.reduceNeg, ↓reduceIte]
      have : i = xs.length := by simp at h; omega
      subst this
      symm
      simpa [rises] using hr
end Go.Proofs.Ytbllopdcbkeadaa
