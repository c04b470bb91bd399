/- The law CoverChanges. The reference's worth of collateral. The reference's pledges. A roll is right: members, instruments, assets. Rolls, ledgers: what is read of them. Accounts, sums. Ledgers: what is read of them, when they are right. What covers a member's margin. More pledged, more cover: the plain law. No theorem of a claim. -/
import Derived.Test.YtbllopdcbkeadaaGreatLB
import Derived.Test.YtbllopdcbkeadaaGreatLS
import Derived.Test.YtbllopdcbkeadaaGreatAbcOpen
set_option linter.unusedSimpArgs false
set_option linter.unusedVariables false
namespace Go.Proofs.YtbllopdcbkeadaaGreat
open Go.Abs
end Go.Proofs.YtbllopdcbkeadaaGreat
set_option linter.unusedSimpArgs false
set_option linter.unusedVariables false
namespace Go.Proofs.YtbllopdcbkeadaaGreat
open Go.Abs
end Go.Proofs.YtbllopdcbkeadaaGreat
set_option linter.unusedSimpArgs false
set_option linter.unusedVariables false
namespace Go.Proofs.YtbllopdcbkeadaaGreat
open Go.Abs
end Go.Proofs.YtbllopdcbkeadaaGreat
set_option linter.unusedSimpArgs false
set_option linter.unusedVariables false
namespace Go.Proofs.YtbllopdcbkeadaaGreat
open Go.Abs
structure MemberV where
  no : Int
  state : Int
  need : Int
@[reducible] def MemberV.cells (x : MemberV) : List D := [.int .i64 x.no, .int .i64 x.state, .int .i64 x.need]
def MemberV.ok (x : MemberV) : Bool := within x.no 1 16 && within x.state 1 3 && inR x.need && decide (0 ≤ x.need)
theorem noMember_spec (x : MemberV) : Abs.Spec Tryz.prog 96 [] [.agg x.cells] [] (.int .i64 x.no) := by
  refine Abs.Spec.go (n := 5) (np := 1) (rs := [.tmp 2]) mixed Tryz.func96 rfl rfl rfl rfl rfl (by simp) (by simp) ?_
  simp only [MemberV.cells]
  simp only [go_sem, Nat.reduceAdd, Nat.reduceSub, Nat.reduceMul, Nat.reducePow, Nat.reduceEqDiff, Nat.reduceLT, Nat.reduceLeDiff, Nat.reduceBEq, Nat.reduceBNe, Int.reduceToNat, Int.reduceLT, Int.reduceLE, Int.reduceEq, Int.reduceBNe, Int.reduceBEq, Int.reduceAdd, Int.reduceSub, Int.reduceMul, Int.reduceNeg, ↓reduceIte]
theorem rightMember_spec (x : MemberV) : Abs.Spec Tryz.prog 97 [] [.agg x.cells] [] (.bool x.ok) := by
  have h1 := within_spec x.no 1 16
  have h2 := within_spec x.state 1 3
  have h3 := right_spec [x.need] (by simp)
  rw [right_one] at h3
  simp only [MemberV.cells]
  refine Abs.Spec.go (n := 22) (np := 1) (rs := [.tmp 2]) mixed Tryz.func97 rfl rfl rfl rfl rfl (by simp) (by simp) ?_
  simp only [go_sem, Nat.reduceAdd, Nat.reduceSub, Nat.reduceMul, Nat.reducePow, Nat.reduceEqDiff, Nat.reduceLT, Nat.reduceLeDiff, Nat.reduceBEq, Nat.reduceBNe, Int.reduceToNat, Int.reduceLT, Int.reduceLE, Int.reduceEq, Int.reduceBNe, Int.reduceBEq, Int.reduceAdd, Int.reduceSub, Int.reduceMul, Int.reduceNeg, ↓reduceIte]
  refine CallN.pure h1 ?_
  cases hb1 : within x.no 1 16
  · have e : x.ok = false := by simp [MemberV.ok, hb1]
    simp only [go_sem, Nat.reduceAdd, Nat.reduceSub, Nat.reduceMul, Nat.reducePow, Nat.reduceEqDiff, Nat.reduceLT, Nat.reduceLeDiff, Nat.reduceBEq, Nat.reduceBNe, Int.reduceToNat, Int.reduceLT, Int.reduceLE, Int.reduceEq, Int.reduceBNe, Int.reduceBEq, Int.reduceAdd, Int.reduceSub, Int.reduceMul, Int.reduceNeg, ↓reduceIte, e]
  simp only [go_sem, Nat.reduceAdd, Nat.reduceSub, Nat.reduceMul, Nat.reducePow, Nat.reduceEqDiff, Nat.reduceLT, Nat.reduceLeDiff, Nat.reduceBEq, Nat.reduceBNe, Int.reduceToNat, Int.reduceLT, Int.reduceLE, Int.reduceEq, Int.reduceBNe, Int.reduceBEq, Int.reduceAdd, Int.reduceSub, Int.reduceMul, Int.reduceNeg, ↓reduceIte]
  refine CallN.pure h2 ?_
  cases hb2 : within x.state 1 3
  · have e : x.ok = false := by simp [MemberV.ok, hb2]
    simp only [go_sem, Nat.reduceAdd, Nat.reduceSub, Nat.reduceMul, Nat.reducePow, Nat.reduceEqDiff, Nat.reduceLT, Nat.reduceLeDiff, Nat.reduceBEq, Nat.reduceBNe, Int.reduceToNat, Int.reduceLT, Int.reduceLE, Int.reduceEq, Int.reduceBNe, Int.reduceBEq, Int.reduceAdd, Int.reduceSub, Int.reduceMul, Int.reduceNeg, ↓reduceIte, e]
  simp only [go_sem, Nat.reduceAdd, Nat.reduceSub, Nat.reduceMul, Nat.reducePow, Nat.reduceEqDiff, Nat.reduceLT, Nat.reduceLeDiff, Nat.reduceBEq, Nat.reduceBNe, Int.reduceToNat, Int.reduceLT, Int.reduceLE, Int.reduceEq, Int.reduceBNe, Int.reduceBEq, Int.reduceAdd, Int.reduceSub, Int.reduceMul, Int.reduceNeg, ↓reduceIte]
  refine CallN.gen [] [] true (by simp) ?_
  simp only [go_sem, Nat.reduceAdd, Nat.reduceSub, Nat.reduceMul, Nat.reducePow, Nat.reduceEqDiff, Nat.reduceLT, Nat.reduceLeDiff, Nat.reduceBEq, Nat.reduceBNe, Int.reduceToNat, Int.reduceLT, Int.reduceLE, Int.reduceEq, Int.reduceBNe, Int.reduceBEq, Int.reduceAdd, Int.reduceSub, Int.reduceMul, Int.reduceNeg, ↓reduceIte]
  refine CallG.intro h3 ?_
  cases hb3 : inR x.need
  · have e : x.ok = false := by simp [MemberV.ok, hb3]
    simp only [go_sem, Nat.reduceAdd, Nat.reduceSub, Nat.reduceMul, Nat.reducePow, Nat.reduceEqDiff, Nat.reduceLT, Nat.reduceLeDiff, Nat.reduceBEq, Nat.reduceBNe, Int.reduceToNat, Int.reduceLT, Int.reduceLE, Int.reduceEq, Int.reduceBNe, Int.reduceBEq, Int.reduceAdd, Int.reduceSub, Int.reduceMul, Int.reduceNeg, ↓reduceIte, e]
  have e : x.ok = decide (0 ≤ x.need) := by simp [MemberV.ok, hb1, hb2, hb3]
  simp only [go_sem, Nat.reduceAdd, Nat.reduceSub, Nat.reduceMul, Nat.reducePow, Nat.reduceEqDiff, Nat.reduceLT, Nat.reduceLeDiff, Nat.reduceBEq, Nat.reduceBNe, Int.reduceToNat, Int.reduceLT, Int.reduceLE, Int.reduceEq, Int.reduceBNe, Int.reduceBEq, Int.reduceAdd, Int.reduceSub, Int.reduceMul, Int.reduceNeg, ↓reduceIte, e]
structure InstV where
  no : Int
  cur : Int
  mult : Int
  add : Int
  set : Int
  price : Int
  s0 : Int
  s1 : Int
  s2 : Int
  s3 : Int
  s4 : Int
  s5 : Int
@[reducible] def InstV.cells (x : InstV) : List D := [.int .i64 x.no, .int .i64 x.cur, .int .i64 x.mult, .int .i64 x.add, .int .i64 x.set, .int .i64 x.price, .int .i64 x.s0, .int .i64 x.s1, .int .i64 x.s2, .int .i64 x.s3, .int .i64 x.s4, .int .i64 x.s5]
def InstV.sh (x : InstV) : Nat → Int
  | 0 => x.s0 | 1 => x.s1 | 2 => x.s2 | 3 => x.s3 | 4 => x.s4 | _ => x.s5
def InstV.okS (x : InstV) : Bool := (List.range 6).all fun i => within (x.sh i) (-1073741824) 1073741824
def InstV.ok (x : InstV) : Bool := x.okS && within x.no 1 8 && within x.cur 0 2 && within x.mult 1 1024 && within x.add 0 1073741824 && within x.set 0 1073741824 && within x.price 0 1073741824
theorem noInst_spec (x : InstV) : Abs.Spec Tryz.prog 99 [] [.agg x.cells] [] (.int .i64 x.no) := by
  refine Abs.Spec.go (n := 5) (np := 1) (rs := [.tmp 2]) mixed Tryz.func99 rfl rfl rfl rfl rfl (by simp) (by simp) ?_
  simp only [InstV.cells]
  simp only [go_sem, Nat.reduceAdd, Nat.reduceSub, Nat.reduceMul, Nat.reducePow, Nat.reduceEqDiff, Nat.reduceLT, Nat.reduceLeDiff, Nat.reduceBEq, Nat.reduceBNe, Int.reduceToNat, Int.reduceLT, Int.reduceLE, Int.reduceEq, Int.reduceBNe, Int.reduceBEq, Int.reduceAdd, Int.reduceSub, Int.reduceMul, Int.reduceNeg, ↓reduceIte]
theorem rightInst_spec (x : InstV) : Abs.Spec Tryz.prog 100 [] [.agg x.cells] [] (.bool x.ok) := by
  have h1 := within_spec x.no 1 8
  have h2 := within_spec x.cur 0 2
  have h3 := within_spec x.mult 1 1024
  have h4 := within_spec x.add 0 1073741824
  have h5 := within_spec x.set 0 1073741824
  have h6 := within_spec x.price 0 1073741824
  simp only [InstV.cells]
  refine Abs.Spec.go (n := 42) (np := 1) (rs := [.tmp 2]) mixed Tryz.func100 rfl rfl rfl rfl rfl (by simp) (by simp) ?_
  simp only [go_sem, Nat.reduceAdd, Nat.reduceSub, Nat.reduceMul, Nat.reducePow, Nat.reduceEqDiff, Nat.reduceLT, Nat.reduceLeDiff, Nat.reduceBEq, Nat.reduceBNe, Int.reduceToNat, Int.reduceLT, Int.reduceLE, Int.reduceEq, Int.reduceBNe, Int.reduceBEq, Int.reduceAdd, Int.reduceSub, Int.reduceMul, Int.reduceNeg, ↓reduceIte]
  refine LoopK.count 6 [1, 6] [32] (fun i => [(7, .int .i64 i)]) (fun i => []) (fun i => ∀ j < i, within (x.sh j) (-1073741824) 1073741824 = true) (by simp only [go_sem, Nat.reduceAdd, Nat.reduceSub, Nat.reduceMul, Nat.reducePow, Nat.reduceEqDiff, Nat.reduceLT, Nat.reduceLeDiff, Nat.reduceBEq, Nat.reduceBNe, Int.reduceToNat, Int.reduceLT, Int.reduceLE, Int.reduceEq, Int.reduceBNe, Int.reduceBEq, Int.reduceAdd, Int.reduceSub, Int.reduceMul, Int.reduceNeg, ↓reduceIte] <;> exact rfl) (by simp only [go_sem, Nat.reduceAdd, Nat.reduceSub, Nat.reduceMul, Nat.reducePow, Nat.reduceEqDiff, Nat.reduceLT, Nat.reduceLeDiff, Nat.reduceBEq, Nat.reduceBNe, Int.reduceToNat, Int.reduceLT, Int.reduceLE, Int.reduceEq, Int.reduceBNe, Int.reduceBEq, Int.reduceAdd, Int.reduceSub, Int.reduceMul, Int.reduceNeg, ↓reduceIte] <;> exact rfl) (by simp) ?_ ?_
  · simp only [go_sem, Nat.reduceAdd, Nat.reduceSub, Nat.reduceMul, Nat.reducePow, Nat.reduceEqDiff, Nat.reduceLT, Nat.reduceLeDiff, Nat.reduceBEq, Nat.reduceBNe, Int.reduceToNat, Int.reduceLT, Int.reduceLE, Int.reduceEq, Int.reduceBNe, Int.reduceBEq, Int.reduceAdd, Int.reduceSub, Int.reduceMul, Int.reduceNeg, ↓reduceIte]
  · intro i hi hI
    simp only [go_sem, Nat.reduceAdd, Nat.reduceSub, Nat.reduceMul, Nat.reducePow, Nat.reduceEqDiff, Nat.reduceLT, Nat.reduceLeDiff, Nat.reduceBEq, Nat.reduceBNe, Int.reduceToNat, Int.reduceLT, Int.reduceLE, Int.reduceEq, Int.reduceBNe, Int.reduceBEq, Int.reduceAdd, Int.reduceSub, Int.reduceMul, Int.reduceNeg, ↓reduceIte]
    refine CondE.splitD (fun h => ?_) (fun h => ?_)
    · have hi' : i < 6 := by omega
      have hix : (List.drop (i * 1) [D.int .i64 x.s0, D.int .i64 x.s1, D.int .i64 x.s2, D.int .i64 x.s3, D.int .i64 x.s4, D.int .i64 x.s5]).headD .undef = .int .i64 (x.sh i) := by
        rcases i with _ | _ | _ | _ | _ | _ | i <;> first | rfl | omega
      have hw : IntKind.wrap .i64 ((i : Int) + 1) = ((i + 1 : Nat) : Int) := by rw [wr64 (by omega) (by omega)]; omega
      have hv := within_spec (x.sh i) (-1073741824) 1073741824
      simp only [go_sem, Nat.reduceAdd, Nat.reduceSub, Nat.reduceMul, Nat.reducePow, Nat.reduceEqDiff, Nat.reduceLT, Nat.reduceLeDiff, Nat.reduceBEq, Nat.reduceBNe, Int.reduceToNat, Int.reduceLT, Int.reduceLE, Int.reduceEq, Int.reduceBNe, Int.reduceBEq, Int.reduceAdd, Int.reduceSub, Int.reduceMul, Int.reduceNeg, ↓reduceIte, hix]
      refine ⟨by omega, CallN.pure hv ?_⟩
      cases hb : within (x.sh i) (-1073741824) 1073741824
      · have e1 : x.okS = false := by
          cases hc : x.okS
          · rfl
          · rw [InstV.okS, List.all_eq_true] at hc
            rw [hc i (List.mem_range.2 hi')] at hb; cases hb
        have e2 : x.ok = false := by simp [InstV.ok, e1]
        simp only [go_sem, Nat.reduceAdd, Nat.reduceSub, Nat.reduceMul, Nat.reducePow, Nat.reduceEqDiff, Nat.reduceLT, Nat.reduceLeDiff, Nat.reduceBEq, Nat.reduceBNe, Int.reduceToNat, Int.reduceLT, Int.reduceLE, Int.reduceEq, Int.reduceBNe, Int.reduceBEq, Int.reduceAdd, Int.reduceSub, Int.reduceMul, Int.reduceNeg, ↓reduceIte, e2]
      · simp only [go_sem, Nat.reduceAdd, Nat.reduceSub, Nat.reduceMul, Nat.reducePow, Nat.reduceEqDiff, Nat.reduceLT, Nat.reduceLeDiff, Nat.reduceBEq, Nat.reduceBNe, Int.reduceToNat, Int.reduceLT, Int.reduceLE, Int.reduceEq, Int.reduceBNe, Int.reduceBEq, Int.reduceAdd, Int.reduceSub, Int.reduceMul, Int.reduceNeg, ↓reduceIte, hw]
        refine RoundK.next hi' ?_ ?_
        · intro j hj
          rcases Nat.lt_or_ge j i with h | h
          · exact hI j h
          · obtain rfl : j = i := by omega
            exact hb
        · simp only [go_sem, Nat.reduceAdd, Nat.reduceSub, Nat.reduceMul, Nat.reducePow, Nat.reduceEqDiff, Nat.reduceLT, Nat.reduceLeDiff, Nat.reduceBEq, Nat.reduceBNe, Int.reduceToNat, Int.reduceLT, Int.reduceLE, Int.reduceEq, Int.reduceBNe, Int.reduceBEq, Int.reduceAdd, Int.reduceSub, Int.reduceMul, Int.reduceNeg, ↓reduceIte]
    · obtain rfl : i = 6 := by omega
      have hs : x.okS = true := List.all_eq_true.2 fun j hj => hI j (List.mem_range.1 hj)
      have e : x.ok = (within x.no 1 8 && within x.cur 0 2 && within x.mult 1 1024 && within x.add 0 1073741824 && within x.set 0 1073741824 && within x.price 0 1073741824) := by simp [InstV.ok, hs]
      rw [e]
      clear hI e hs
      repeat' (with_reducible first
          | refine And.intro ?_ ?_
          | exact DrawN.mk (by kernel_rfl)
          | exact OkN.mk (by kernel_rfl)
          | refine CallN.pure (by assumption) ?_
          | refine CallN.pure (h1) ?_
          | refine CallN.pure (h2) ?_
          | refine CallN.pure (h3) ?_
          | refine CallN.pure (h4) ?_
          | refine CallN.pure (h5) ?_
          | refine CallN.pure (h6) ?_
          | refine GuardK.splitDN (fun h => ?_) (fun h => ?_)
          | refine GuardK.splitD (fun h => ?_) (fun h => ?_)
          | refine CondE.splitDN (fun h => ?_) (fun h => ?_)
          | refine CondE.splitD (fun h => ?_) (fun h => ?_)
          | refine GuardK.splitN (fun h => ?_) (fun h => ?_)
          | refine GuardK.split (fun h => ?_) (fun h => ?_)
          | refine CondE.splitN (fun h => ?_) (fun h => ?_)
          | refine CondE.split (fun h => ?_) (fun h => ?_)
          | refine WeakK.id ?_
          | refine RoundK.next (by omega) ?_ ?_
          | exact trivial
          | simp only [*, go_sem, Nat.reduceAdd, Nat.reduceSub, Nat.reduceMul, Nat.reducePow, Nat.reduceEqDiff, Nat.reduceLT, Nat.reduceLeDiff, Nat.reduceBEq, Nat.reduceBNe, Int.reduceToNat, Int.reduceLT, Int.reduceLE, Int.reduceEq, Int.reduceBNe, Int.reduceBEq, Int.reduceAdd, Int.reduceSub, Int.reduceMul, Int.reduceNeg, ↓reduceIte])
      all_goals (simp_all; done)
theorem risesMember_spec (xs : List MemberV) (hl : xs.length < 2 ^ 62) : Abs.Spec Tryz.prog 95 [] [.sl 3 (xs.map MemberV.cells), .fn 96 [], .fn 97 []] [] (.bool (rises MemberV.no MemberV.ok xs)) := by
  refine Abs.Spec.go (n := 38) (np := 3) (rs := [.tmp 6]) mixed Tryz.func95 rfl rfl rfl rfl rfl (by simp) (by simp) ?_
  simp only [go_sem, Nat.reduceAdd, Nat.reduceSub, Nat.reduceMul, Nat.reducePow, Nat.reduceEqDiff, Nat.reduceLT, Nat.reduceLeDiff, Nat.reduceBEq, Nat.reduceBNe, Int.reduceToNat, Int.reduceLT, Int.reduceLE, Int.reduceEq, Int.reduceBNe, Int.reduceBEq, Int.reduceAdd, Int.reduceSub, Int.reduceMul, Int.reduceNeg, ↓reduceIte, List.length_map]
  refine ⟨Nat, fun i => [(6, .bool false), (0, .sl 3 (xs.map MemberV.cells)), (1, .fn 96 []), (2, .fn 97 []), (9, .sl 3 (xs.map MemberV.cells)), (10, .int .i64 xs.length), (11, .int .i64 i)], fun i => [], fun i => i ≤ xs.length ∧ ∀ j, j < i → risesAt MemberV.no MemberV.ok xs j = true, fun i => xs.length - i, 0, ?_, ?_, ?_⟩
  · simp
  · simp only [go_sem, Nat.reduceAdd, Nat.reduceSub, Nat.reduceMul, Nat.reducePow, Nat.reduceEqDiff, Nat.reduceLT, Nat.reduceLeDiff, Nat.reduceBEq, Nat.reduceBNe, Int.reduceToNat, Int.reduceLT, Int.reduceLE, Int.reduceEq, Int.reduceBNe, Int.reduceBEq, Int.reduceAdd, Int.reduceSub, Int.reduceMul, Int.reduceNeg, ↓reduceIte, List.length_map] <;> simp
  · rintro i ⟨hi, hr⟩
    simp only [go_sem, Nat.reduceAdd, Nat.reduceSub, Nat.reduceMul, Nat.reducePow, Nat.reduceEqDiff, Nat.reduceLT, Nat.reduceLeDiff, Nat.reduceBEq, Nat.reduceBNe, Int.reduceToNat, Int.reduceLT, Int.reduceLE, Int.reduceEq, Int.reduceBNe, Int.reduceBEq, Int.reduceAdd, Int.reduceSub, Int.reduceMul, Int.reduceNeg, ↓reduceIte]
    refine CondE.split (fun h => ?_) (fun h => ?_)
    · have hi' : i < xs.length := by simpa using h
      have bad : risesAt MemberV.no MemberV.ok xs i = false → rises MemberV.no MemberV.ok xs = false := fun hx => by
        simp only [rises, List.all_eq_false]
        exact ⟨i, List.mem_range.2 hi', by simp [hx]⟩
      simp only [go_sem, Nat.reduceAdd, Nat.reduceSub, Nat.reduceMul, Nat.reducePow, Nat.reduceEqDiff, Nat.reduceLT, Nat.reduceLeDiff, Nat.reduceBEq, Nat.reduceBNe, Int.reduceToNat, Int.reduceLT, Int.reduceLE, Int.reduceEq, Int.reduceBNe, Int.reduceBEq, Int.reduceAdd, Int.reduceSub, Int.reduceMul, Int.reduceNeg, ↓reduceIte, Int.toNat_natCast, map_at xs hi', MemberV.cells]
      refine ⟨by simp [hi'], ?_⟩
      have next : risesAt MemberV.no MemberV.ok xs i = true → ∀ j, j < i + 1 → risesAt MemberV.no MemberV.ok xs j = true := fun hx j hj => by
        rcases Nat.lt_succ_iff_lt_or_eq.1 hj with h1 | rfl
        · exact hr j h1
        · exact hx
      by_cases h0 : 0 < i
      · have hw : IntKind.wrap .i64 ((i : Int) - 1) = ((i - 1 : Nat) : Int) := by rw [wrap64 (by omega) (by omega)]; omega
        have hp : i - 1 < xs.length := by omega
        have hg : decide (0 < (i : Int)) = true := by simp; omega
        have hm := map_at (c := MemberV.cells) xs hp
        have hra := risesAt_pos MemberV.no MemberV.ok xs hi' h0
        repeat' (with_reducible first
          | refine And.intro ?_ ?_
          | exact DrawN.mk (by kernel_rfl)
          | exact OkN.mk (by kernel_rfl)
          | refine CallN.pure (rightMember_spec _) ?_
          | refine CallN.pure (noMember_spec _) ?_
          | refine GuardK.splitN (fun h => ?_) (fun h => ?_)
          | refine GuardK.split (fun h => ?_) (fun h => ?_)
          | refine CondE.split (fun h => ?_) (fun h => ?_)
          | refine WeakK.id ?_
          | simp only [hw, hg, hm, go_sem, Nat.reduceAdd, Nat.reduceSub, Nat.reduceMul, Nat.reducePow, Nat.reduceEqDiff, Nat.reduceLT, Nat.reduceLeDiff, Nat.reduceBEq, Nat.reduceBNe, Int.reduceToNat, Int.reduceLT, Int.reduceLE, Int.reduceEq, Int.reduceBNe, Int.reduceBEq, Int.reduceAdd, Int.reduceSub, Int.reduceMul, Int.reduceNeg, ↓reduceIte, *, Int.toNat_natCast, MemberV.cells])
        · simp; omega
        · exact (bad (by rw [hra]; simp at h; simp; intro _; omega)).symm
        · refine ⟨i + 1, ⟨hi', next (by rw [hra]; simp at h; simp [*])⟩, ?_, by simp only; omega⟩
          simp only [go_sem, Nat.reduceAdd, Nat.reduceSub, Nat.reduceMul, Nat.reducePow, Nat.reduceEqDiff, Nat.reduceLT, Nat.reduceLeDiff, Nat.reduceBEq, Nat.reduceBNe, Int.reduceToNat, Int.reduceLT, Int.reduceLE, Int.reduceEq, Int.reduceBNe, Int.reduceBEq, Int.reduceAdd, Int.reduceSub, Int.reduceMul, Int.reduceNeg, ↓reduceIte, List.length_map]
          rw [wrap64 (by omega) (by omega)]; simp
      · have hg : decide (0 < (i : Int)) = false := by simp; omega
        have hra := risesAt_zero MemberV.no MemberV.ok xs hi' h0
        repeat' (with_reducible first
          | refine And.intro ?_ ?_
          | exact DrawN.mk (by kernel_rfl)
          | exact OkN.mk (by kernel_rfl)
          | refine CallN.pure (rightMember_spec _) ?_
          | refine CallN.pure (noMember_spec _) ?_
          | refine GuardK.splitN (fun h => ?_) (fun h => ?_)
          | refine GuardK.split (fun h => ?_) (fun h => ?_)
          | refine CondE.split (fun h => ?_) (fun h => ?_)
          | refine WeakK.id ?_
          | simp only [hg, go_sem, Nat.reduceAdd, Nat.reduceSub, Nat.reduceMul, Nat.reducePow, Nat.reduceEqDiff, Nat.reduceLT, Nat.reduceLeDiff, Nat.reduceBEq, Nat.reduceBNe, Int.reduceToNat, Int.reduceLT, Int.reduceLE, Int.reduceEq, Int.reduceBNe, Int.reduceBEq, Int.reduceAdd, Int.reduceSub, Int.reduceMul, Int.reduceNeg, ↓reduceIte, *, Int.toNat_natCast, MemberV.cells])
        · refine ⟨i + 1, ⟨hi', next (by rw [hra]; simp [*])⟩, ?_, by simp only; omega⟩
          simp only [go_sem, Nat.reduceAdd, Nat.reduceSub, Nat.reduceMul, Nat.reducePow, Nat.reduceEqDiff, Nat.reduceLT, Nat.reduceLeDiff, Nat.reduceBEq, Nat.reduceBNe, Int.reduceToNat, Int.reduceLT, Int.reduceLE, Int.reduceEq, Int.reduceBNe, Int.reduceBEq, Int.reduceAdd, Int.reduceSub, Int.reduceMul, Int.reduceNeg, ↓reduceIte, List.length_map]
          rw [wrap64 (by omega) (by omega)]; simp
    · simp only [go_sem, Nat.reduceAdd, Nat.reduceSub, Nat.reduceMul, Nat.reducePow, Nat.reduceEqDiff, Nat.reduceLT, Nat.reduceLeDiff, Nat.reduceBEq, Nat.reduceBNe, Int.reduceToNat, Int.reduceLT, Int.reduceLE, Int.reduceEq, Int.reduceBNe, Int.reduceBEq, Int.reduceAdd, Int.reduceSub, Int.reduceMul, Int.reduceNeg, ↓reduceIte]
      have : i = xs.length := by simp at h; omega
      subst this
      symm
      simpa [rises] using hr
theorem risesInst_spec (xs : List InstV) (hl : xs.length < 2 ^ 62) : Abs.Spec Tryz.prog 98 [] [.sl 12 (xs.map InstV.cells), .fn 99 [], .fn 100 []] [] (.bool (rises InstV.no InstV.ok xs)) := by
  refine Abs.Spec.go (n := 38) (np := 3) (rs := [.tmp 6]) mixed Tryz.func98 rfl rfl rfl rfl rfl (by simp) (by simp) ?_
  simp only [go_sem, Nat.reduceAdd, Nat.reduceSub, Nat.reduceMul, Nat.reducePow, Nat.reduceEqDiff, Nat.reduceLT, Nat.reduceLeDiff, Nat.reduceBEq, Nat.reduceBNe, Int.reduceToNat, Int.reduceLT, Int.reduceLE, Int.reduceEq, Int.reduceBNe, Int.reduceBEq, Int.reduceAdd, Int.reduceSub, Int.reduceMul, Int.reduceNeg, ↓reduceIte, List.length_map]
  refine ⟨Nat, fun i => [(6, .bool false), (0, .sl 12 (xs.map InstV.cells)), (1, .fn 99 []), (2, .fn 100 []), (9, .sl 12 (xs.map InstV.cells)), (10, .int .i64 xs.length), (11, .int .i64 i)], fun i => [], fun i => i ≤ xs.length ∧ ∀ j, j < i → risesAt InstV.no InstV.ok xs j = true, fun i => xs.length - i, 0, ?_, ?_, ?_⟩
  · simp
  · simp only [go_sem, Nat.reduceAdd, Nat.reduceSub, Nat.reduceMul, Nat.reducePow, Nat.reduceEqDiff, Nat.reduceLT, Nat.reduceLeDiff, Nat.reduceBEq, Nat.reduceBNe, Int.reduceToNat, Int.reduceLT, Int.reduceLE, Int.reduceEq, Int.reduceBNe, Int.reduceBEq, Int.reduceAdd, Int.reduceSub, Int.reduceMul, Int.reduceNeg, ↓reduceIte, List.length_map] <;> simp
  · rintro i ⟨hi, hr⟩
    simp only [go_sem, Nat.reduceAdd, Nat.reduceSub, Nat.reduceMul, Nat.reducePow, Nat.reduceEqDiff, Nat.reduceLT, Nat.reduceLeDiff, Nat.reduceBEq, Nat.reduceBNe, Int.reduceToNat, Int.reduceLT, Int.reduceLE, Int.reduceEq, Int.reduceBNe, Int.reduceBEq, Int.reduceAdd, Int.reduceSub, Int.reduceMul, Int.reduceNeg, ↓reduceIte]
    refine CondE.split (fun h => ?_) (fun h => ?_)
    · have hi' : i < xs.length := by simpa using h
      have bad : risesAt InstV.no InstV.ok xs i = false → rises InstV.no InstV.ok xs = false := fun hx => by
        simp only [rises, List.all_eq_false]
        exact ⟨i, List.mem_range.2 hi', by simp [hx]⟩
      simp only [go_sem, Nat.reduceAdd, Nat.reduceSub, Nat.reduceMul, Nat.reducePow, Nat.reduceEqDiff, Nat.reduceLT, Nat.reduceLeDiff, Nat.reduceBEq, Nat.reduceBNe, Int.reduceToNat, Int.reduceLT, Int.reduceLE, Int.reduceEq, Int.reduceBNe, Int.reduceBEq, Int.reduceAdd, Int.reduceSub, Int.reduceMul, Int.reduceNeg, ↓reduceIte, Int.toNat_natCast, map_at xs hi', InstV.cells]
      refine ⟨by simp [hi'], ?_⟩
      have next : risesAt InstV.no InstV.ok xs i = true → ∀ j, j < i + 1 → risesAt InstV.no InstV.ok xs j = true := fun hx j hj => by
        rcases Nat.lt_succ_iff_lt_or_eq.1 hj with h1 | rfl
        · exact hr j h1
        · exact hx
      by_cases h0 : 0 < i
      · have hw : IntKind.wrap .i64 ((i : Int) - 1) = ((i - 1 : Nat) : Int) := by rw [wrap64 (by omega) (by omega)]; omega
        have hp : i - 1 < xs.length := by omega
        have hg : decide (0 < (i : Int)) = true := by simp; omega
        have hm := map_at (c := InstV.cells) xs hp
        have hra := risesAt_pos InstV.no InstV.ok xs hi' h0
        repeat' (with_reducible first
          | refine And.intro ?_ ?_
          | exact DrawN.mk (by kernel_rfl)
          | exact OkN.mk (by kernel_rfl)
          | refine CallN.pure (rightInst_spec _) ?_
          | refine CallN.pure (noInst_spec _) ?_
          | refine GuardK.splitN (fun h => ?_) (fun h => ?_)
          | refine GuardK.split (fun h => ?_) (fun h => ?_)
          | refine CondE.split (fun h => ?_) (fun h => ?_)
          | refine WeakK.id ?_
          | simp only [hw, hg, hm, go_sem, Nat.reduceAdd, Nat.reduceSub, Nat.reduceMul, Nat.reducePow, Nat.reduceEqDiff, Nat.reduceLT, Nat.reduceLeDiff, Nat.reduceBEq, Nat.reduceBNe, Int.reduceToNat, Int.reduceLT, Int.reduceLE, Int.reduceEq, Int.reduceBNe, Int.reduceBEq, Int.reduceAdd, Int.reduceSub, Int.reduceMul, Int.reduceNeg, ↓reduceIte, *, Int.toNat_natCast, InstV.cells])
        · simp; omega
        · exact (bad (by rw [hra]; simp at h; simp; intro _; omega)).symm
        · refine ⟨i + 1, ⟨hi', next (by rw [hra]; simp at h; simp [*])⟩, ?_, by simp only; omega⟩
          simp only [go_sem, Nat.reduceAdd, Nat.reduceSub, Nat.reduceMul, Nat.reducePow, Nat.reduceEqDiff, Nat.reduceLT, Nat.reduceLeDiff, Nat.reduceBEq, Nat.reduceBNe, Int.reduceToNat, Int.reduceLT, Int.reduceLE, Int.reduceEq, Int.reduceBNe, Int.reduceBEq, Int.reduceAdd, Int.reduceSub, Int.reduceMul, Int.reduceNeg, ↓reduceIte, List.length_map]
          rw [wrap64 (by omega) (by omega)]; simp
      · have hg : decide (0 < (i : Int)) = false := by simp; omega
        have hra := risesAt_zero InstV.no InstV.ok xs hi' h0
        repeat' (with_reducible first
          | refine And.intro ?_ ?_
          | exact DrawN.mk (by kernel_rfl)
          | exact OkN.mk (by kernel_rfl)
          | refine CallN.pure (rightInst_spec _) ?_
          | refine CallN.pure (noInst_spec _) ?_
          | refine GuardK.splitN (fun h => ?_) (fun h => ?_)
          | refine GuardK.split (fun h => ?_) (fun h => ?_)
          | refine CondE.split (fun h => ?_) (fun h => ?_)
          | refine WeakK.id ?_
          | simp only [hg, go_sem, Nat.reduceAdd, Nat.reduceSub, Nat.reduceMul, Nat.reducePow, Nat.reduceEqDiff, Nat.reduceLT, Nat.reduceLeDiff, Nat.reduceBEq, Nat.reduceBNe, Int.reduceToNat, Int.reduceLT, Int.reduceLE, Int.reduceEq, Int.reduceBNe, Int.reduceBEq, Int.reduceAdd, Int.reduceSub, Int.reduceMul, Int.reduceNeg, ↓reduceIte, *, Int.toNat_natCast, InstV.cells])
        · refine ⟨i + 1, ⟨hi', next (by rw [hra]; simp [*])⟩, ?_, by simp only; omega⟩
          simp only [go_sem, Nat.reduceAdd, Nat.reduceSub, Nat.reduceMul, Nat.reducePow, Nat.reduceEqDiff, Nat.reduceLT, Nat.reduceLeDiff, Nat.reduceBEq, Nat.reduceBNe, Int.reduceToNat, Int.reduceLT, Int.reduceLE, Int.reduceEq, Int.reduceBNe, Int.reduceBEq, Int.reduceAdd, Int.reduceSub, Int.reduceMul, Int.reduceNeg, ↓reduceIte, List.length_map]
          rw [wrap64 (by omega) (by omega)]; simp
    · simp only [go_sem, Nat.reduceAdd, Nat.reduceSub, Nat.reduceMul, Nat.reducePow, Nat.reduceEqDiff, Nat.reduceLT, Nat.reduceLeDiff, Nat.reduceBEq, Nat.reduceBNe, Int.reduceToNat, Int.reduceLT, Int.reduceLE, Int.reduceEq, Int.reduceBNe, Int.reduceBEq, Int.reduceAdd, Int.reduceSub, Int.reduceMul, Int.reduceNeg, ↓reduceIte]
      have : i = xs.length := by simp at h; omega
      subst this
      symm
      simpa [rises] using hr
end Go.Proofs.YtbllopdcbkeadaaGreat
set_option linter.unusedSimpArgs false
set_option linter.unusedVariables false
namespace Go.Proofs.YtbllopdcbkeadaaGreat
open Go.Abs
structure RollV where
  ms : List MemberV
  ns : List InstV
  xs : List AssetV
def RollV.cells (r : RollV) : List D := [.sl 3 (r.ms.map MemberV.cells), .sl 12 (r.ns.map InstV.cells), .sl 4 (r.xs.map AssetV.cells)]
def RollV.okB (r : RollV) : Bool := rises MemberV.no MemberV.ok r.ms && rises InstV.no InstV.ok r.ns && rises AssetV.a AssetV.ok r.xs
def RollV.small (r : RollV) : Prop := r.ms.length < 2 ^ 60 ∧ r.ns.length < 2 ^ 60 ∧ r.xs.length < 2 ^ 60
theorem rollCheck_spec (r : RollV) (hl : r.small) : Abs.Spec Tryz.prog 35 [] [.agg r.cells] [] (.int .i64 (if r.okB then 0 else 14)) := by
  obtain ⟨l1, l2, l3⟩ := hl
  have h1 := risesMember_spec r.ms (by omega)
  have h2 := risesInst_spec r.ns (by omega)
  have h3 := risesAsset_spec r.xs (by omega)
  simp only [RollV.cells]
  refine Abs.Spec.go (n := 19) (np := 1) (rs := [.tmp 2]) mixed Tryz.func35 rfl rfl rfl rfl rfl (by simp) (by simp) ?_
  simp only [go_sem, Nat.reduceAdd, Nat.reduceSub, Nat.reduceMul, Nat.reducePow, Nat.reduceEqDiff, Nat.reduceLT, Nat.reduceLeDiff, Nat.reduceBEq, Nat.reduceBNe, Int.reduceToNat, Int.reduceLT, Int.reduceLE, Int.reduceEq, Int.reduceBNe, Int.reduceBEq, Int.reduceAdd, Int.reduceSub, Int.reduceMul, Int.reduceNeg, ↓reduceIte]
  refine CallN.pure h1 ?_
  cases b1 : rises MemberV.no MemberV.ok r.ms
  · have e : r.okB = false := by simp [RollV.okB, b1]
    simp only [go_sem, Nat.reduceAdd, Nat.reduceSub, Nat.reduceMul, Nat.reducePow, Nat.reduceEqDiff, Nat.reduceLT, Nat.reduceLeDiff, Nat.reduceBEq, Nat.reduceBNe, Int.reduceToNat, Int.reduceLT, Int.reduceLE, Int.reduceEq, Int.reduceBNe, Int.reduceBEq, Int.reduceAdd, Int.reduceSub, Int.reduceMul, Int.reduceNeg, ↓reduceIte, e] <;> simp
  simp only [go_sem, Nat.reduceAdd, Nat.reduceSub, Nat.reduceMul, Nat.reducePow, Nat.reduceEqDiff, Nat.reduceLT, Nat.reduceLeDiff, Nat.reduceBEq, Nat.reduceBNe, Int.reduceToNat, Int.reduceLT, Int.reduceLE, Int.reduceEq, Int.reduceBNe, Int.reduceBEq, Int.reduceAdd, Int.reduceSub, Int.reduceMul, Int.reduceNeg, ↓reduceIte]
  refine CallN.pure h2 ?_
  cases b2 : rises InstV.no InstV.ok r.ns
  · have e : r.okB = false := by simp [RollV.okB, b2]
    simp only [go_sem, Nat.reduceAdd, Nat.reduceSub, Nat.reduceMul, Nat.reducePow, Nat.reduceEqDiff, Nat.reduceLT, Nat.reduceLeDiff, Nat.reduceBEq, Nat.reduceBNe, Int.reduceToNat, Int.reduceLT, Int.reduceLE, Int.reduceEq, Int.reduceBNe, Int.reduceBEq, Int.reduceAdd, Int.reduceSub, Int.reduceMul, Int.reduceNeg, ↓reduceIte, e] <;> simp
  simp only [go_sem, Nat.reduceAdd, Nat.reduceSub, Nat.reduceMul, Nat.reducePow, Nat.reduceEqDiff, Nat.reduceLT, Nat.reduceLeDiff, Nat.reduceBEq, Nat.reduceBNe, Int.reduceToNat, Int.reduceLT, Int.reduceLE, Int.reduceEq, Int.reduceBNe, Int.reduceBEq, Int.reduceAdd, Int.reduceSub, Int.reduceMul, Int.reduceNeg, ↓reduceIte]
  refine CallN.pure h3 ?_
  cases b3 : rises AssetV.a AssetV.ok r.xs
  · have e : r.okB = false := by simp [RollV.okB, b3]
    simp only [go_sem, Nat.reduceAdd, Nat.reduceSub, Nat.reduceMul, Nat.reducePow, Nat.reduceEqDiff, Nat.reduceLT, Nat.reduceLeDiff, Nat.reduceBEq, Nat.reduceBNe, Int.reduceToNat, Int.reduceLT, Int.reduceLE, Int.reduceEq, Int.reduceBNe, Int.reduceBEq, Int.reduceAdd, Int.reduceSub, Int.reduceMul, Int.reduceNeg, ↓reduceIte, e] <;> simp
  have e : r.okB = true := by simp [RollV.okB, b1, b2, b3]
  simp only [go_sem, Nat.reduceAdd, Nat.reduceSub, Nat.reduceMul, Nat.reducePow, Nat.reduceEqDiff, Nat.reduceLT, Nat.reduceLeDiff, Nat.reduceBEq, Nat.reduceBNe, Int.reduceToNat, Int.reduceLT, Int.reduceLE, Int.reduceEq, Int.reduceBNe, Int.reduceBEq, Int.reduceAdd, Int.reduceSub, Int.reduceMul, Int.reduceNeg, ↓reduceIte, e]
/-- the first with the number, and its place -/
def getL {A : Type} (no : A → Int) (n : Int) (z : A) : List A → A
  | [] => z
  | x :: r => if no x = n then x else getL no n z r
def posL {A : Type} (no : A → Int) (n : Int) : List A → Int
  | [] => -1
  | x :: r => if no x = n then 0 else if posL no n r < 0 then -1 else posL no n r + 1
theorem getL_hit {A : Type} {no : A → Int} {n : Int} {z : A} : ∀ {xs : List A} {i : Nat} (h : i < xs.length), (∀ j (hj : j < xs.length), j < i → no xs[j] ≠ n) → no xs[i] = n → getL no n z xs = xs[i] ∧ posL no n xs = i
  | [], i, h, _, _ => by simp at h
  | x :: r, 0, h, _, he => by
    have he : no x = n := he
    simp [getL, posL, he]
  | x :: r, i + 1, h, hn, he => by
    have h0 : no x ≠ n := hn 0 (by simp) (by omega)
    obtain ⟨h1, h2⟩ := getL_hit (z := z) (xs := r) (i := i) (by simpa using h) (fun j hj hji => hn (j + 1) (by simpa using hj) (by omega)) he
    simp only [getL, posL, if_neg h0, h2]
    refine ⟨h1, ?_⟩
    rw [if_neg (by omega)]; omega
theorem getL_miss {A : Type} {no : A → Int} {n : Int} {z : A} : ∀ {xs : List A}, (∀ j (hj : j < xs.length), no xs[j] ≠ n) → getL no n z xs = z ∧ posL no n xs = -1
  | [], _ => by simp [getL, posL]
  | x :: r, hn => by
    have h0 : no x ≠ n := hn 0 (by simp)
    obtain ⟨h1, h2⟩ := getL_miss (z := z) (xs := r) (fun j hj => hn (j + 1) (by simpa using hj))
    simp only [getL, posL, if_neg h0, h2]
    exact ⟨h1, by simp⟩
theorem findAsset_spec (xs : List AssetV) (n : Int) (hl : xs.length < 2 ^ 62) : Abs.Spec Tryz.prog 106 [] [.sl 4 (xs.map AssetV.cells), .fn 102 [], .int .i64 n] [] (.tup [.agg (getL AssetV.a n ⟨0, 0, 0, 0⟩ xs).cells, .int .i64 (posL AssetV.a n xs)]) := by
  refine Abs.Spec.go (n := 27) (np := 3) (rs := [.cell 6 80, .tmp 7]) mixed Tryz.func106 rfl rfl rfl rfl rfl (by simp) (by simp) ?_
  simp only [go_sem, Nat.reduceAdd, Nat.reduceSub, Nat.reduceMul, Nat.reducePow, Nat.reduceEqDiff, Nat.reduceLT, Nat.reduceLeDiff, Nat.reduceBEq, Nat.reduceBNe, Int.reduceToNat, Int.reduceLT, Int.reduceLE, Int.reduceEq, Int.reduceBNe, Int.reduceBEq, Int.reduceAdd, Int.reduceSub, Int.reduceMul, Int.reduceNeg, ↓reduceIte, List.length_map]
  refine LoopK.count xs.length [1, 2, 6, 11, 12] [112, 208] (fun i => [(13, .int .i64 i)]) (fun i => []) (fun i => ∀ j (hj : j < xs.length), j < i → xs[j].a ≠ n) (by simp only [go_sem, Nat.reduceAdd, Nat.reduceSub, Nat.reduceMul, Nat.reducePow, Nat.reduceEqDiff, Nat.reduceLT, Nat.reduceLeDiff, Nat.reduceBEq, Nat.reduceBNe, Int.reduceToNat, Int.reduceLT, Int.reduceLE, Int.reduceEq, Int.reduceBNe, Int.reduceBEq, Int.reduceAdd, Int.reduceSub, Int.reduceMul, Int.reduceNeg, ↓reduceIte] <;> exact rfl) (by simp only [go_sem, Nat.reduceAdd, Nat.reduceSub, Nat.reduceMul, Nat.reducePow, Nat.reduceEqDiff, Nat.reduceLT, Nat.reduceLeDiff, Nat.reduceBEq, Nat.reduceBNe, Int.reduceToNat, Int.reduceLT, Int.reduceLE, Int.reduceEq, Int.reduceBNe, Int.reduceBEq, Int.reduceAdd, Int.reduceSub, Int.reduceMul, Int.reduceNeg, ↓reduceIte] <;> exact rfl) (by simp) ?_ ?_
  · simp only [go_sem, Nat.reduceAdd, Nat.reduceSub, Nat.reduceMul, Nat.reducePow, Nat.reduceEqDiff, Nat.reduceLT, Nat.reduceLeDiff, Nat.reduceBEq, Nat.reduceBNe, Int.reduceToNat, Int.reduceLT, Int.reduceLE, Int.reduceEq, Int.reduceBNe, Int.reduceBEq, Int.reduceAdd, Int.reduceSub, Int.reduceMul, Int.reduceNeg, ↓reduceIte] <;> simp
  · intro i hi hI
    simp only [go_sem, Nat.reduceAdd, Nat.reduceSub, Nat.reduceMul, Nat.reducePow, Nat.reduceEqDiff, Nat.reduceLT, Nat.reduceLeDiff, Nat.reduceBEq, Nat.reduceBNe, Int.reduceToNat, Int.reduceLT, Int.reduceLE, Int.reduceEq, Int.reduceBNe, Int.reduceBEq, Int.reduceAdd, Int.reduceSub, Int.reduceMul, Int.reduceNeg, ↓reduceIte]
    refine CondE.splitD (fun h => ?_) (fun h => ?_)
    · have hi' : i < xs.length := by omega
      have hw : IntKind.wrap .i64 ((i : Int) + 1) = ((i + 1 : Nat) : Int) := by rw [wr64 (by omega) (by omega)]; omega
      have hm := map_at (c := AssetV.cells) xs hi'
      have hno := noAsset_spec xs[i]
      simp only [AssetV.cells] at hm hno ⊢
      simp only [go_sem, Nat.reduceAdd, Nat.reduceSub, Nat.reduceMul, Nat.reducePow, Nat.reduceEqDiff, Nat.reduceLT, Nat.reduceLeDiff, Nat.reduceBEq, Nat.reduceBNe, Int.reduceToNat, Int.reduceLT, Int.reduceLE, Int.reduceEq, Int.reduceBNe, Int.reduceBEq, Int.reduceAdd, Int.reduceSub, Int.reduceMul, Int.reduceNeg, ↓reduceIte, hm]
      refine ⟨by omega, CallN.pure hno ?_⟩
      simp only [go_sem, Nat.reduceAdd, Nat.reduceSub, Nat.reduceMul, Nat.reducePow, Nat.reduceEqDiff, Nat.reduceLT, Nat.reduceLeDiff, Nat.reduceBEq, Nat.reduceBNe, Int.reduceToNat, Int.reduceLT, Int.reduceLE, Int.reduceEq, Int.reduceBNe, Int.reduceBEq, Int.reduceAdd, Int.reduceSub, Int.reduceMul, Int.reduceNeg, ↓reduceIte]
      refine CondE.split (fun hb => ?_) (fun hb => ?_)
      · have hb : xs[i].a = n := by simpa using hb
        obtain ⟨g1, g2⟩ := getL_hit (z := (⟨0, 0, 0, 0⟩ : AssetV)) hi' hI hb
        rw [g1, g2]
        simp only [go_sem, Nat.reduceAdd, Nat.reduceSub, Nat.reduceMul, Nat.reducePow, Nat.reduceEqDiff, Nat.reduceLT, Nat.reduceLeDiff, Nat.reduceBEq, Nat.reduceBNe, Int.reduceToNat, Int.reduceLT, Int.reduceLE, Int.reduceEq, Int.reduceBNe, Int.reduceBEq, Int.reduceAdd, Int.reduceSub, Int.reduceMul, Int.reduceNeg, ↓reduceIte]
      · have hb : xs[i].a ≠ n := by simpa using hb
        simp only [go_sem, Nat.reduceAdd, Nat.reduceSub, Nat.reduceMul, Nat.reducePow, Nat.reduceEqDiff, Nat.reduceLT, Nat.reduceLeDiff, Nat.reduceBEq, Nat.reduceBNe, Int.reduceToNat, Int.reduceLT, Int.reduceLE, Int.reduceEq, Int.reduceBNe, Int.reduceBEq, Int.reduceAdd, Int.reduceSub, Int.reduceMul, Int.reduceNeg, ↓reduceIte, hw]
        refine RoundK.next hi' ?_ ?_
        · intro j hj hji
          rcases Nat.lt_or_ge j i with h | h
          · exact hI j hj h
          · obtain rfl : j = i := by omega
            exact hb
        · simp only [go_sem, Nat.reduceAdd, Nat.reduceSub, Nat.reduceMul, Nat.reducePow, Nat.reduceEqDiff, Nat.reduceLT, Nat.reduceLeDiff, Nat.reduceBEq, Nat.reduceBNe, Int.reduceToNat, Int.reduceLT, Int.reduceLE, Int.reduceEq, Int.reduceBNe, Int.reduceBEq, Int.reduceAdd, Int.reduceSub, Int.reduceMul, Int.reduceNeg, ↓reduceIte]
    · obtain rfl : i = xs.length := by omega
      obtain ⟨g1, g2⟩ := getL_miss (z := (⟨0, 0, 0, 0⟩ : AssetV)) (fun j hj => hI j hj hj)
      rw [g1, g2]
      simp only [go_sem, Nat.reduceAdd, Nat.reduceSub, Nat.reduceMul, Nat.reducePow, Nat.reduceEqDiff, Nat.reduceLT, Nat.reduceLeDiff, Nat.reduceBEq, Nat.reduceBNe, Int.reduceToNat, Int.reduceLT, Int.reduceLE, Int.reduceEq, Int.reduceBNe, Int.reduceBEq, Int.reduceAdd, Int.reduceSub, Int.reduceMul, Int.reduceNeg, ↓reduceIte, AssetV.cells]
end Go.Proofs.YtbllopdcbkeadaaGreat
set_option linter.unusedSimpArgs false
set_option linter.unusedVariables false
namespace Go.Proofs.YtbllopdcbkeadaaGreat
open Go.Abs
structure AcctV where
  kind : Int
  who : Int
  cur : Int
@[reducible] def AcctV.cells (x : AcctV) : List D := [.int .i64 x.kind, .int .i64 x.who, .int .i64 x.cur]
def owned (k : Int) : Bool := k == 2 || k == 3
theorem owned_spec (k : Int) : Abs.Spec Tryz.prog 164 [] [.int .i64 k] [] (.bool (owned k)) := by
  refine Abs.Spec.go (n := 9) (np := 1) (rs := [.tmp 2]) mixed Tryz.func164 rfl rfl rfl rfl rfl (by simp) (by simp) ?_
  simp only [go_sem, Nat.reduceAdd, Nat.reduceSub, Nat.reduceMul, Nat.reducePow, Nat.reduceEqDiff, Nat.reduceLT, Nat.reduceLeDiff, Nat.reduceBEq, Nat.reduceBNe, Int.reduceToNat, Int.reduceLT, Int.reduceLE, Int.reduceEq, Int.reduceBNe, Int.reduceBEq, Int.reduceAdd, Int.reduceSub, Int.reduceMul, Int.reduceNeg, ↓reduceIte]
  repeat' (with_reducible first
    | refine And.intro ?_ ?_
    | exact DrawN.mk (by kernel_rfl)
    | exact OkN.mk (by kernel_rfl)
    | refine GuardK.splitN (fun h => ?_) (fun h => ?_)
    | refine GuardK.split (fun h => ?_) (fun h => ?_)
    | refine CondE.split (fun h => ?_) (fun h => ?_)
    | refine WeakK.id ?_
    | simp only [*, go_sem, Nat.reduceAdd, Nat.reduceSub, Nat.reduceMul, Nat.reducePow, Nat.reduceEqDiff, Nat.reduceLT, Nat.reduceLeDiff, Nat.reduceBEq, Nat.reduceBNe, Int.reduceToNat, Int.reduceLT, Int.reduceLE, Int.reduceEq, Int.reduceBNe, Int.reduceBEq, Int.reduceAdd, Int.reduceSub, Int.reduceMul, Int.reduceNeg, ↓reduceIte])
  all_goals simp [owned, *]
def AcctV.right (x : AcctV) : Bool := if x.kind < 1 ∨ 6 < x.kind ∨ x.cur < 0 ∨ 3 ≤ x.cur then false else if owned x.kind then decide (1 ≤ x.who) && decide (x.who ≤ 16) else x.who == 0
theorem acctRight_spec (x : AcctV) : Abs.Spec Tryz.prog 89 [] [.agg x.cells] [] (.bool x.right) := by
  refine Abs.Spec.go (n := 37) (np := 1) (rs := [.tmp 2]) mixed Tryz.func89 rfl rfl rfl rfl rfl (by simp) (by simp) ?_
  simp only [AcctV.cells]
  simp only [go_sem, Nat.reduceAdd, Nat.reduceSub, Nat.reduceMul, Nat.reducePow, Nat.reduceEqDiff, Nat.reduceLT, Nat.reduceLeDiff, Nat.reduceBEq, Nat.reduceBNe, Int.reduceToNat, Int.reduceLT, Int.reduceLE, Int.reduceEq, Int.reduceBNe, Int.reduceBEq, Int.reduceAdd, Int.reduceSub, Int.reduceMul, Int.reduceNeg, ↓reduceIte]
  repeat' (with_reducible first
    | refine And.intro ?_ ?_
    | exact DrawN.mk (by kernel_rfl)
    | exact OkN.mk (by kernel_rfl)
    | refine CallN.pure (owned_spec _) ?_
    | refine GuardK.splitN (fun h => ?_) (fun h => ?_)
    | refine GuardK.split (fun h => ?_) (fun h => ?_)
    | refine CondE.split (fun h => ?_) (fun h => ?_)
    | refine WeakK.id ?_
    | simp only [*, go_sem, Nat.reduceAdd, Nat.reduceSub, Nat.reduceMul, Nat.reducePow, Nat.reduceEqDiff, Nat.reduceLT, Nat.reduceLeDiff, Nat.reduceBEq, Nat.reduceBNe, Int.reduceToNat, Int.reduceLT, Int.reduceLE, Int.reduceEq, Int.reduceBNe, Int.reduceBEq, Int.reduceAdd, Int.reduceSub, Int.reduceMul, Int.reduceNeg, ↓reduceIte])
  all_goals (simp only [decide_eq_true_eq, decide_eq_false_iff_not] at *)
  all_goals (unfold AcctV.right; simp [*])
def AcctV.floor (x : AcctV) : Int := if x.right && (x.kind == 3 || x.kind == 4) then 0 else -4611686018427387904
theorem acctFloor_spec (x : AcctV) : Abs.Spec Tryz.prog 91 [] [.agg x.cells] [] (.int .i64 x.floor) := by
  have hr := acctRight_spec x
  simp only [AcctV.cells] at hr
  refine Abs.Spec.go (n := 15) (np := 1) (rs := [.tmp 2]) mixed Tryz.func91 rfl rfl rfl rfl rfl (by simp) (by simp) ?_
  simp only [AcctV.cells]
  simp only [go_sem, Nat.reduceAdd, Nat.reduceSub, Nat.reduceMul, Nat.reducePow, Nat.reduceEqDiff, Nat.reduceLT, Nat.reduceLeDiff, Nat.reduceBEq, Nat.reduceBNe, Int.reduceToNat, Int.reduceLT, Int.reduceLE, Int.reduceEq, Int.reduceBNe, Int.reduceBEq, Int.reduceAdd, Int.reduceSub, Int.reduceMul, Int.reduceNeg, ↓reduceIte]
  repeat' (with_reducible first
    | refine And.intro ?_ ?_
    | exact DrawN.mk (by kernel_rfl)
    | exact OkN.mk (by kernel_rfl)
    | refine CallN.pure hr ?_
    | refine GuardK.splitN (fun h => ?_) (fun h => ?_)
    | refine GuardK.split (fun h => ?_) (fun h => ?_)
    | refine CondE.split (fun h => ?_) (fun h => ?_)
    | refine WeakK.id ?_
    | simp only [*, go_sem, Nat.reduceAdd, Nat.reduceSub, Nat.reduceMul, Nat.reducePow, Nat.reduceEqDiff, Nat.reduceLT, Nat.reduceLeDiff, Nat.reduceBEq, Nat.reduceBNe, Int.reduceToNat, Int.reduceLT, Int.reduceLE, Int.reduceEq, Int.reduceBNe, Int.reduceBEq, Int.reduceAdd, Int.reduceSub, Int.reduceMul, Int.reduceNeg, ↓reduceIte])
  all_goals (unfold AcctV.floor; simp [*])
def AcctV.less (x y : AcctV) : Bool := if x.kind ≠ y.kind then decide (x.kind < y.kind) else if x.who ≠ y.who then decide (x.who < y.who) else decide (x.cur < y.cur)
theorem acctLess_spec (x y : AcctV) : Abs.Spec Tryz.prog 92 [] [.agg x.cells, .agg y.cells] [] (.bool (x.less y)) := by
  refine Abs.Spec.go (n := 32) (np := 2) (rs := [.tmp 4]) mixed Tryz.func92 rfl rfl rfl rfl rfl (by simp) (by simp) ?_
  simp only [AcctV.cells]
  simp only [go_sem, Nat.reduceAdd, Nat.reduceSub, Nat.reduceMul, Nat.reducePow, Nat.reduceEqDiff, Nat.reduceLT, Nat.reduceLeDiff, Nat.reduceBEq, Nat.reduceBNe, Int.reduceToNat, Int.reduceLT, Int.reduceLE, Int.reduceEq, Int.reduceBNe, Int.reduceBEq, Int.reduceAdd, Int.reduceSub, Int.reduceMul, Int.reduceNeg, ↓reduceIte]
  repeat' (with_reducible first
    | refine And.intro ?_ ?_
    | exact DrawN.mk (by kernel_rfl)
    | exact OkN.mk (by kernel_rfl)
    | exact trivial
    | refine GuardK.splitN (fun h => ?_) (fun h => ?_)
    | refine GuardK.split (fun h => ?_) (fun h => ?_)
    | refine CondE.split (fun h => ?_) (fun h => ?_)
    | refine WeakK.id ?_
    | simp only [*, go_sem, Nat.reduceAdd, Nat.reduceSub, Nat.reduceMul, Nat.reducePow, Nat.reduceEqDiff, Nat.reduceLT, Nat.reduceLeDiff, Nat.reduceBEq, Nat.reduceBNe, Int.reduceToNat, Int.reduceLT, Int.reduceLE, Int.reduceEq, Int.reduceBNe, Int.reduceBEq, Int.reduceAdd, Int.reduceSub, Int.reduceMul, Int.reduceNeg, ↓reduceIte])
  all_goals (unfold AcctV.less; simp_all)
def AcctV.lt (x y : AcctV) : Prop := x.kind < y.kind ∨ x.kind = y.kind ∧ (x.who < y.who ∨ x.who = y.who ∧ x.cur < y.cur)
def sumL : List Int → Int
  | [] => 0
  | x :: r => x + sumL r
theorem sumL_app (a : List Int) (x : Int) : sumL (a ++ [x]) = sumL a + x := by
  induction a with
  | nil => simp [sumL]
  | cons y r ih => simp only [List.cons_append, sumL, ih]; omega
theorem sumL_range : ∀ {l : List Int}, right l = true → -4611686018427387904 * l.length ≤ sumL l ∧ sumL l ≤ 4611686018427387904 * l.length
  | [], _ => by simp [sumL]
  | x :: r, h => by
    simp only [right, List.all_cons, Bool.and_eq_true] at h
    have h2 := sumL_range (l := r) h.2
    have h1 : -4611686018427387904 ≤ x ∧ x ≤ 4611686018427387904 := by simpa [inR] using h.1
    simp only [sumL, List.length_cons]; push_cast; omega
theorem add_lo (S n : Int) : (S % 18446744073709551616 + n % 18446744073709551616 + 0) % 18446744073709551616 = (S + n) % 18446744073709551616 := by omega
theorem add_hi (S n : Int) (h : -4611686018427387904 ≤ n ∧ n ≤ 4611686018427387904) (s : Int) (hs : s = if 0 ≤ n then 0 else 18446744073709551615) :
    ((S / 18446744073709551616) % 18446744073709551616 + s + (S % 18446744073709551616 + n % 18446744073709551616 + 0) / 18446744073709551616) % 18446744073709551616 = ((S + n) / 18446744073709551616) % 18446744073709551616 := by
  subst hs
  split <;> omega
theorem shr63 (n : Int) (h : -9223372036854775808 ≤ n ∧ n ≤ 9223372036854775807) : IntKind.wrap .u64 (ishr .i64 n 63) = if 0 ≤ n then 0 else 18446744073709551615 := by
  have : ishr .i64 n 63 = n.fdiv (2 ^ 63) := rfl
  rw [this, Int.fdiv_eq_ediv_of_nonneg _ (by omega), IntKind.wrap_u64]
  split <;> omega
theorem add_find : Extern.find Tryz.f108 = some add64Entry := by kernel_rfl
theorem add_next : Extern.findNext Tryz.f108 = none := by kernel_rfl
def sumN (l : List Int) : Int := if right l && inR (sumL l) then sumL l else 0
def sumE (l : List Int) : Int := if right l then (if inR (sumL l) then 0 else 1) else 3
theorem numWithin_spec (S : Int) (h : -85070591730234615865843651857942052864 ≤ S ∧ S ≤ 85070591730234615865843651857942052864) : Abs.Spec Tryz.prog 109 [] [.int .u64 ((S / 18446744073709551616) % 18446744073709551616), .int .u64 (S % 18446744073709551616)] [] (.tup [.int .i64 (if inR S then S else 0), .int .i64 (if inR S then 0 else 1)]) := by
  obtain ⟨n, hn⟩ : ∃ n, n = IntKind.wrap .i64 (S % 18446744073709551616) := ⟨_, rfl⟩
  have hn1 : n = if S % 18446744073709551616 < 9223372036854775808 then S % 18446744073709551616 else S % 18446744073709551616 - 18446744073709551616 := by
    rw [hn, IntKind.wrap_i64]; split <;> omega
  have hs := shr63 n (by rw [hn1]; split <;> omega)
  have hr := right_spec [n] (by simp)
  rw [right_one] at hr
  refine Abs.Spec.go (n := 21) (np := 2) (rs := [.tmp 4, .tmp 5]) mixed Tryz.func109 rfl rfl rfl rfl rfl (by simp) (by simp) ?_
  by_cases hS : -9223372036854775808 ≤ S ∧ S < 9223372036854775808
  · have hnS : n = S := by rw [hn1]; split <;> omega
    have hb : (S / 18446744073709551616 % 18446744073709551616 != if 0 ≤ n then 0 else 18446744073709551615) = false := by
      rw [bne_eq_false_iff_eq, hnS]; split <;> omega
    simp only [go_sem, Nat.reduceAdd, Nat.reduceSub, Nat.reduceMul, Nat.reducePow, Nat.reduceEqDiff, Nat.reduceLT, Nat.reduceLeDiff, Nat.reduceBEq, Nat.reduceBNe, Int.reduceToNat, Int.reduceLT, Int.reduceLE, Int.reduceEq, Int.reduceBNe, Int.reduceBEq, Int.reduceAdd, Int.reduceSub, Int.reduceMul, Int.reduceNeg, ↓reduceIte, ← hn, hs, hb]
    refine CallN.gen [] [] true (by simp) ?_
    simp only [go_sem, Nat.reduceAdd, Nat.reduceSub, Nat.reduceMul, Nat.reducePow, Nat.reduceEqDiff, Nat.reduceLT, Nat.reduceLeDiff, Nat.reduceBEq, Nat.reduceBNe, Int.reduceToNat, Int.reduceLT, Int.reduceLE, Int.reduceEq, Int.reduceBNe, Int.reduceBEq, Int.reduceAdd, Int.reduceSub, Int.reduceMul, Int.reduceNeg, ↓reduceIte]
    refine CallG.intro hr ?_
    rw [hnS] at hr ⊢
    cases hi : inR S
    · simp only [go_sem, Nat.reduceAdd, Nat.reduceSub, Nat.reduceMul, Nat.reducePow, Nat.reduceEqDiff, Nat.reduceLT, Nat.reduceLeDiff, Nat.reduceBEq, Nat.reduceBNe, Int.reduceToNat, Int.reduceLT, Int.reduceLE, Int.reduceEq, Int.reduceBNe, Int.reduceBEq, Int.reduceAdd, Int.reduceSub, Int.reduceMul, Int.reduceNeg, ↓reduceIte, hi, Bool.false_eq_true, if_false]
    · simp only [go_sem, Nat.reduceAdd, Nat.reduceSub, Nat.reduceMul, Nat.reducePow, Nat.reduceEqDiff, Nat.reduceLT, Nat.reduceLeDiff, Nat.reduceBEq, Nat.reduceBNe, Int.reduceToNat, Int.reduceLT, Int.reduceLE, Int.reduceEq, Int.reduceBNe, Int.reduceBEq, Int.reduceAdd, Int.reduceSub, Int.reduceMul, Int.reduceNeg, ↓reduceIte, hi, if_true]
  · have hb : (S / 18446744073709551616 % 18446744073709551616 != if 0 ≤ n then 0 else 18446744073709551615) = true := by
      rw [bne_iff_ne, hn1]; split <;> split <;> omega
    have hi : inR S = false := by simp only [inR, Bool.and_eq_false_iff, decide_eq_false_iff_not]; omega
    simp only [go_sem, Nat.reduceAdd, Nat.reduceSub, Nat.reduceMul, Nat.reducePow, Nat.reduceEqDiff, Nat.reduceLT, Nat.reduceLeDiff, Nat.reduceBEq, Nat.reduceBNe, Int.reduceToNat, Int.reduceLT, Int.reduceLE, Int.reduceEq, Int.reduceBNe, Int.reduceBEq, Int.reduceAdd, Int.reduceSub, Int.reduceMul, Int.reduceNeg, ↓reduceIte, ← hn, hs, hb, hi, Bool.false_eq_true, if_false]
theorem sum_spec (l : List Int) (hl : l.length < 2 ^ 60) : Abs.Spec Tryz.prog 40 [] [.sl 1 (ints l)] [] (.tup [.int .i64 (sumN l), .int .i64 (sumE l)]) := by
  have hr := right_spec l (by omega)
  refine Abs.Spec.go (n := 40) (np := 1) (rs := [.tmp 2, .tmp 3]) mixed Tryz.func40 rfl rfl rfl rfl rfl (by simp) (by simp) ?_
  simp only [go_sem, Nat.reduceAdd, Nat.reduceSub, Nat.reduceMul, Nat.reducePow, Nat.reduceEqDiff, Nat.reduceLT, Nat.reduceLeDiff, Nat.reduceBEq, Nat.reduceBNe, Int.reduceToNat, Int.reduceLT, Int.reduceLE, Int.reduceEq, Int.reduceBNe, Int.reduceBEq, Int.reduceAdd, Int.reduceSub, Int.reduceMul, Int.reduceNeg, ↓reduceIte]
  refine CallN.pure hr ?_
  cases hb : right l
  · have e1 : sumN l = 0 := by simp [sumN, hb]
    have e2 : sumE l = 3 := by simp [sumE, hb]
    simp only [go_sem, Nat.reduceAdd, Nat.reduceSub, Nat.reduceMul, Nat.reducePow, Nat.reduceEqDiff, Nat.reduceLT, Nat.reduceLeDiff, Nat.reduceBEq, Nat.reduceBNe, Int.reduceToNat, Int.reduceLT, Int.reduceLE, Int.reduceEq, Int.reduceBNe, Int.reduceBEq, Int.reduceAdd, Int.reduceSub, Int.reduceMul, Int.reduceNeg, ↓reduceIte, e1, e2]
  simp only [go_sem, Nat.reduceAdd, Nat.reduceSub, Nat.reduceMul, Nat.reducePow, Nat.reduceEqDiff, Nat.reduceLT, Nat.reduceLeDiff, Nat.reduceBEq, Nat.reduceBNe, Int.reduceToNat, Int.reduceLT, Int.reduceLE, Int.reduceEq, Int.reduceBNe, Int.reduceBEq, Int.reduceAdd, Int.reduceSub, Int.reduceMul, Int.reduceNeg, ↓reduceIte, ints_len]
  refine LoopK.count l.length [12, 13] [224] (fun i => [(14, .int .i64 i), (4, .int .u64 ((sumL (l.take i) / 18446744073709551616) % 18446744073709551616)), (5, .int .u64 (sumL (l.take i) % 18446744073709551616))]) (fun i => []) (fun i => True) (by simp only [go_sem, Nat.reduceAdd, Nat.reduceSub, Nat.reduceMul, Nat.reducePow, Nat.reduceEqDiff, Nat.reduceLT, Nat.reduceLeDiff, Nat.reduceBEq, Nat.reduceBNe, Int.reduceToNat, Int.reduceLT, Int.reduceLE, Int.reduceEq, Int.reduceBNe, Int.reduceBEq, Int.reduceAdd, Int.reduceSub, Int.reduceMul, Int.reduceNeg, ↓reduceIte] <;> exact rfl) (by simp only [go_sem, Nat.reduceAdd, Nat.reduceSub, Nat.reduceMul, Nat.reducePow, Nat.reduceEqDiff, Nat.reduceLT, Nat.reduceLeDiff, Nat.reduceBEq, Nat.reduceBNe, Int.reduceToNat, Int.reduceLT, Int.reduceLE, Int.reduceEq, Int.reduceBNe, Int.reduceBEq, Int.reduceAdd, Int.reduceSub, Int.reduceMul, Int.reduceNeg, ↓reduceIte] <;> exact rfl) trivial ?_ ?_
  · simp only [go_sem, Nat.reduceAdd, Nat.reduceSub, Nat.reduceMul, Nat.reducePow, Nat.reduceEqDiff, Nat.reduceLT, Nat.reduceLeDiff, Nat.reduceBEq, Nat.reduceBNe, Int.reduceToNat, Int.reduceLT, Int.reduceLE, Int.reduceEq, Int.reduceBNe, Int.reduceBEq, Int.reduceAdd, Int.reduceSub, Int.reduceMul, Int.reduceNeg, ↓reduceIte] <;> simp [sumL]
  · intro i hi _
    simp only [go_sem, Nat.reduceAdd, Nat.reduceSub, Nat.reduceMul, Nat.reducePow, Nat.reduceEqDiff, Nat.reduceLT, Nat.reduceLeDiff, Nat.reduceBEq, Nat.reduceBNe, Int.reduceToNat, Int.reduceLT, Int.reduceLE, Int.reduceEq, Int.reduceBNe, Int.reduceBEq, Int.reduceAdd, Int.reduceSub, Int.reduceMul, Int.reduceNeg, ↓reduceIte]
    refine CondE.splitD (fun h => ?_) (fun h => ?_)
    · have hi' : i < l.length := by omega
      have hw : IntKind.wrap .i64 ((i : Int) + 1) = ((i + 1 : Nat) : Int) := by rw [wr64 (by omega) (by omega)]; omega
      have hx : inR l[i] = true := List.all_eq_true.1 hb _ (List.getElem_mem hi')
      have hxr : -4611686018427387904 ≤ l[i] ∧ l[i] ≤ 4611686018427387904 := by simpa [inR] using hx
      obtain ⟨S, hS⟩ : ∃ S, S = sumL (l.take i) := ⟨_, rfl⟩
      obtain ⟨n, hn⟩ : ∃ n, n = l[i] := ⟨_, rfl⟩
      have hnext : sumL (l.take (i + 1)) = S + n := by rw [List.take_succ_eq_append_getElem hi', sumL_app, hS, hn]
      have hu : IntKind.wrap .u64 n = n % 18446744073709551616 := IntKind.wrap_u64 n
      rw [← hn] at hxr
      have hsh := shr63 n (by omega)
      simp only [go_sem, Nat.reduceAdd, Nat.reduceSub, Nat.reduceMul, Nat.reducePow, Nat.reduceEqDiff, Nat.reduceLT, Nat.reduceLeDiff, Nat.reduceBEq, Nat.reduceBNe, Int.reduceToNat, Int.reduceLT, Int.reduceLE, Int.reduceEq, Int.reduceBNe, Int.reduceBEq, Int.reduceAdd, Int.reduceSub, Int.reduceMul, Int.reduceNeg, ↓reduceIte, ints_at l hi', ints_len, ← hn, ← hS, hu]
      refine ⟨by omega, ?_⟩
      refine CallN.sem rfl ?_
      with_reducible refine SemK.add64 (k := 108) (fn := Tryz.f108) (i := S % 18446744073709551616) (j := n % 18446744073709551616) (m := 0) ?_ Tryz.func108 ?_ ?_ add_next add_find ?_ ?_ ?_ ?_ ?_ ?_ ?_ ?_ ?_
      iterate 11 (first | rfl | omega)
      simp only [go_sem, Nat.reduceAdd, Nat.reduceSub, Nat.reduceMul, Nat.reducePow, Nat.reduceEqDiff, Nat.reduceLT, Nat.reduceLeDiff, Nat.reduceBEq, Nat.reduceBNe, Int.reduceToNat, Int.reduceLT, Int.reduceLE, Int.reduceEq, Int.reduceBNe, Int.reduceBEq, Int.reduceAdd, Int.reduceSub, Int.reduceMul, Int.reduceNeg, ↓reduceIte, hsh]
      refine CallN.sem rfl ?_
      with_reducible refine SemK.add64 (k := 108) (fn := Tryz.f108) (i := S / 18446744073709551616 % 18446744073709551616) (j := if 0 ≤ n then 0 else 18446744073709551615) (m := (S % 18446744073709551616 + n % 18446744073709551616 + 0) / 18446744073709551616) ?_ Tryz.func108 ?_ ?_ add_next add_find ?_ ?_ ?_ ?_ ?_ ?_ ?_ ?_ ?_
      iterate 7 (first | rfl | omega)
      · split <;> omega
      iterate 3 (first | rfl | omega)
      rw [add_hi S n hxr _ rfl, add_lo]
      simp only [go_sem, Nat.reduceAdd, Nat.reduceSub, Nat.reduceMul, Nat.reducePow, Nat.reduceEqDiff, Nat.reduceLT, Nat.reduceLeDiff, Nat.reduceBEq, Nat.reduceBNe, Int.reduceToNat, Int.reduceLT, Int.reduceLE, Int.reduceEq, Int.reduceBNe, Int.reduceBEq, Int.reduceAdd, Int.reduceSub, Int.reduceMul, Int.reduceNeg, ↓reduceIte, hw]
      refine RoundK.next hi' trivial ?_
      simp only [go_sem, Nat.reduceAdd, Nat.reduceSub, Nat.reduceMul, Nat.reducePow, Nat.reduceEqDiff, Nat.reduceLT, Nat.reduceLeDiff, Nat.reduceBEq, Nat.reduceBNe, Int.reduceToNat, Int.reduceLT, Int.reduceLE, Int.reduceEq, Int.reduceBNe, Int.reduceBEq, Int.reduceAdd, Int.reduceSub, Int.reduceMul, Int.reduceNeg, ↓reduceIte, hnext]
    · obtain rfl : i = l.length := by omega
      obtain ⟨S, hS⟩ : ∃ S, S = sumL l := ⟨_, rfl⟩
      have hSr := sumL_range hb
      have hf := numWithin_spec S (by rw [hS]; omega)
      have e1 : sumN l = if inR S then S else 0 := by simp [sumN, hb, hS]
      have e2 : sumE l = if inR S then 0 else 1 := by simp [sumE, hb, hS]
      rw [e1, e2]
      simp only [go_sem, Nat.reduceAdd, Nat.reduceSub, Nat.reduceMul, Nat.reducePow, Nat.reduceEqDiff, Nat.reduceLT, Nat.reduceLeDiff, Nat.reduceBEq, Nat.reduceBNe, Int.reduceToNat, Int.reduceLT, Int.reduceLE, Int.reduceEq, Int.reduceBNe, Int.reduceBEq, Int.reduceAdd, Int.reduceSub, Int.reduceMul, Int.reduceNeg, ↓reduceIte, List.take_length, ← hS]
      refine CallN.pure hf ?_
      simp only [go_sem, Nat.reduceAdd, Nat.reduceSub, Nat.reduceMul, Nat.reducePow, Nat.reduceEqDiff, Nat.reduceLT, Nat.reduceLeDiff, Nat.reduceBEq, Nat.reduceBNe, Int.reduceToNat, Int.reduceLT, Int.reduceLE, Int.reduceEq, Int.reduceBNe, Int.reduceBEq, Int.reduceAdd, Int.reduceSub, Int.reduceMul, Int.reduceNeg, ↓reduceIte]
end Go.Proofs.YtbllopdcbkeadaaGreat
set_option linter.unusedSimpArgs false
set_option linter.unusedVariables false
namespace Go.Proofs.YtbllopdcbkeadaaGreat
open Go.Abs
theorem rollAsset_spec (r : RollV) (n : Int) (hl : r.small) : Abs.Spec Tryz.prog 38 [] [.agg r.cells, .int .i64 n] [] (.tup [.agg (getL AssetV.a n ⟨0, 0, 0, 0⟩ r.xs).cells, .bool (decide (0 ≤ posL AssetV.a n r.xs))]) := by
  have hf := findAsset_spec r.xs n (by have := hl.2.2; omega)
  simp only [AssetV.cells] at hf ⊢
  simp only [RollV.cells, AssetV.cells]
  refine Abs.Spec.go (n := 18) (np := 2) (rs := [.cell 4 80, .tmp 5]) mixed Tryz.func38 rfl rfl rfl rfl rfl (by simp) (by simp) ?_
  simp only [go_sem, Nat.reduceAdd, Nat.reduceSub, Nat.reduceMul, Nat.reducePow, Nat.reduceEqDiff, Nat.reduceLT, Nat.reduceLeDiff, Nat.reduceBEq, Nat.reduceBNe, Int.reduceToNat, Int.reduceLT, Int.reduceLE, Int.reduceEq, Int.reduceBNe, Int.reduceBEq, Int.reduceAdd, Int.reduceSub, Int.reduceMul, Int.reduceNeg, ↓reduceIte]
  refine CallN.pure hf ?_
  simp only [go_sem, Nat.reduceAdd, Nat.reduceSub, Nat.reduceMul, Nat.reducePow, Nat.reduceEqDiff, Nat.reduceLT, Nat.reduceLeDiff, Nat.reduceBEq, Nat.reduceBNe, Int.reduceToNat, Int.reduceLT, Int.reduceLE, Int.reduceEq, Int.reduceBNe, Int.reduceBEq, Int.reduceAdd, Int.reduceSub, Int.reduceMul, Int.reduceNeg, ↓reduceIte]
structure BalV where
  kind : Int
  who : Int
  cur : Int
  sum : Int
@[reducible] def BalV.cells (x : BalV) : List D := [.int .i64 x.kind, .int .i64 x.who, .int .i64 x.cur, .int .i64 x.sum]
def BalV.acct (x : BalV) : AcctV := ⟨x.kind, x.who, x.cur⟩
structure LedV where
  last : Int
  bs : List BalV
def LedV.cells (l : LedV) : List D := [.int .i64 l.last, .sl 4 (l.bs.map BalV.cells)]
/-- what the accounts of a currency hold -/
def curL (c : Int) (bs : List BalV) : List Int := (bs.filter fun b => b.cur == c).map BalV.sum
theorem curL_step (c : Int) (bs : List BalV) {i : Nat} (h : i < bs.length) : curL c (bs.take (i + 1)) = if bs[i].cur == c then curL c (bs.take i) ++ [bs[i].sum] else curL c (bs.take i) := by
  simp only [curL]
  rw [List.take_succ_eq_append_getElem h, List.filter_append, List.map_append]
  cases hb : bs[i].cur == c <;> simp [List.filter, hb]
theorem curL_len (c : Int) (bs : List BalV) : (curL c bs).length ≤ bs.length := by
  simp only [curL, List.length_map]; exact List.length_filter_le _ _
theorem checkTrue_spec (x : Int) : Abs.Spec Tryz.prog 94 [] [.int .i64 x] [] (.bool true) := by
  refine Abs.Spec.go (n := 3) (np := 1) (rs := [.tmp 2]) mixed Tryz.func94 rfl rfl rfl rfl rfl (by simp) (by simp) ?_
  simp only [go_sem, Nat.reduceAdd, Nat.reduceSub, Nat.reduceMul, Nat.reducePow, Nat.reduceEqDiff, Nat.reduceLT, Nat.reduceLeDiff, Nat.reduceBEq, Nat.reduceBNe, Int.reduceToNat, Int.reduceLT, Int.reduceLE, Int.reduceEq, Int.reduceBNe, Int.reduceBEq, Int.reduceAdd, Int.reduceSub, Int.reduceMul, Int.reduceNeg, ↓reduceIte]
theorem sums_spec (l : LedV) (c : Int) (hl : l.bs.length < 2 ^ 30) : Abs.Spec Tryz.prog 93 [] [.agg l.cells, .int .i64 c, .fn 94 []] [.own 1 (ints (curL c l.bs))] (.ref 0) := by
  simp only [LedV.cells]
  refine Abs.Spec.go (n := 36) (np := 3) (rs := [.tmp 6]) mixed Tryz.func93 rfl rfl rfl rfl rfl (by simp) (by simp) ?_
  simp only [go_sem, Nat.reduceAdd, Nat.reduceSub, Nat.reduceMul, Nat.reducePow, Nat.reduceEqDiff, Nat.reduceLT, Nat.reduceLeDiff, Nat.reduceBEq, Nat.reduceBNe, Int.reduceToNat, Int.reduceLT, Int.reduceLE, Int.reduceEq, Int.reduceBNe, Int.reduceBEq, Int.reduceAdd, Int.reduceSub, Int.reduceMul, Int.reduceNeg, ↓reduceIte, List.length_map]
  refine LoopK.count l.bs.length [1, 2, 11, 12] [64, 208] (fun i => [(13, .int .i64 i), (7, .ref 544)]) (fun i => [(544, .own 1 (ints (curL c (l.bs.take i))))]) (fun i => True) (by simp only [go_sem, Nat.reduceAdd, Nat.reduceSub, Nat.reduceMul, Nat.reducePow, Nat.reduceEqDiff, Nat.reduceLT, Nat.reduceLeDiff, Nat.reduceBEq, Nat.reduceBNe, Int.reduceToNat, Int.reduceLT, Int.reduceLE, Int.reduceEq, Int.reduceBNe, Int.reduceBEq, Int.reduceAdd, Int.reduceSub, Int.reduceMul, Int.reduceNeg, ↓reduceIte] <;> exact rfl) (by simp only [go_sem, Nat.reduceAdd, Nat.reduceSub, Nat.reduceMul, Nat.reducePow, Nat.reduceEqDiff, Nat.reduceLT, Nat.reduceLeDiff, Nat.reduceBEq, Nat.reduceBNe, Int.reduceToNat, Int.reduceLT, Int.reduceLE, Int.reduceEq, Int.reduceBNe, Int.reduceBEq, Int.reduceAdd, Int.reduceSub, Int.reduceMul, Int.reduceNeg, ↓reduceIte] <;> exact rfl) trivial ?_ ?_
  · simp only [go_sem, Nat.reduceAdd, Nat.reduceSub, Nat.reduceMul, Nat.reducePow, Nat.reduceEqDiff, Nat.reduceLT, Nat.reduceLeDiff, Nat.reduceBEq, Nat.reduceBNe, Int.reduceToNat, Int.reduceLT, Int.reduceLE, Int.reduceEq, Int.reduceBNe, Int.reduceBEq, Int.reduceAdd, Int.reduceSub, Int.reduceMul, Int.reduceNeg, ↓reduceIte] <;> simp [curL, ints]
  · intro i hi _
    simp only [go_sem, Nat.reduceAdd, Nat.reduceSub, Nat.reduceMul, Nat.reducePow, Nat.reduceEqDiff, Nat.reduceLT, Nat.reduceLeDiff, Nat.reduceBEq, Nat.reduceBNe, Int.reduceToNat, Int.reduceLT, Int.reduceLE, Int.reduceEq, Int.reduceBNe, Int.reduceBEq, Int.reduceAdd, Int.reduceSub, Int.reduceMul, Int.reduceNeg, ↓reduceIte]
    refine CondE.splitD (fun h => ?_) (fun h => ?_)
    · have hi' : i < l.bs.length := by omega
      have hw : IntKind.wrap .i64 ((i : Int) + 1) = ((i + 1 : Nat) : Int) := by rw [wr64 (by omega) (by omega)]; omega
      have hm := map_at (c := BalV.cells) l.bs hi'
      have hs := curL_step c l.bs hi'
      have hlen := curL_len c (l.bs.take i)
      have hlt : (l.bs.take i).length ≤ l.bs.length := by simp; omega
      simp only [BalV.cells] at hm
      simp only [go_sem, Nat.reduceAdd, Nat.reduceSub, Nat.reduceMul, Nat.reducePow, Nat.reduceEqDiff, Nat.reduceLT, Nat.reduceLeDiff, Nat.reduceBEq, Nat.reduceBNe, Int.reduceToNat, Int.reduceLT, Int.reduceLE, Int.reduceEq, Int.reduceBNe, Int.reduceBEq, Int.reduceAdd, Int.reduceSub, Int.reduceMul, Int.reduceNeg, ↓reduceIte, hm]
      refine ⟨by omega, ?_⟩
      cases hb : l.bs[i].cur == c
      · rw [hb] at hs
        simp only [Bool.false_eq_true, if_false] at hs
        simp only [go_sem, Nat.reduceAdd, Nat.reduceSub, Nat.reduceMul, Nat.reducePow, Nat.reduceEqDiff, Nat.reduceLT, Nat.reduceLeDiff, Nat.reduceBEq, Nat.reduceBNe, Int.reduceToNat, Int.reduceLT, Int.reduceLE, Int.reduceEq, Int.reduceBNe, Int.reduceBEq, Int.reduceAdd, Int.reduceSub, Int.reduceMul, Int.reduceNeg, ↓reduceIte, hw]
        refine RoundK.next hi' trivial ?_
        simp only [go_sem, Nat.reduceAdd, Nat.reduceSub, Nat.reduceMul, Nat.reducePow, Nat.reduceEqDiff, Nat.reduceLT, Nat.reduceLeDiff, Nat.reduceBEq, Nat.reduceBNe, Int.reduceToNat, Int.reduceLT, Int.reduceLE, Int.reduceEq, Int.reduceBNe, Int.reduceBEq, Int.reduceAdd, Int.reduceSub, Int.reduceMul, Int.reduceNeg, ↓reduceIte, hs]
      · rw [hb, if_pos rfl] at hs
        have hk := checkTrue_spec l.bs[i].kind
        simp only [go_sem, Nat.reduceAdd, Nat.reduceSub, Nat.reduceMul, Nat.reducePow, Nat.reduceEqDiff, Nat.reduceLT, Nat.reduceLeDiff, Nat.reduceBEq, Nat.reduceBNe, Int.reduceToNat, Int.reduceLT, Int.reduceLE, Int.reduceEq, Int.reduceBNe, Int.reduceBEq, Int.reduceAdd, Int.reduceSub, Int.reduceMul, Int.reduceNeg, ↓reduceIte]
        refine CallN.pure hk ?_
        simp only [go_sem, Nat.reduceAdd, Nat.reduceSub, Nat.reduceMul, Nat.reducePow, Nat.reduceEqDiff, Nat.reduceLT, Nat.reduceLeDiff, Nat.reduceBEq, Nat.reduceBNe, Int.reduceToNat, Int.reduceLT, Int.reduceLE, Int.reduceEq, Int.reduceBNe, Int.reduceBEq, Int.reduceAdd, Int.reduceSub, Int.reduceMul, Int.reduceNeg, ↓reduceIte, hw, ints_len]
        refine ⟨by omega, RoundK.next hi' trivial ?_⟩
        simp only [go_sem, Nat.reduceAdd, Nat.reduceSub, Nat.reduceMul, Nat.reducePow, Nat.reduceEqDiff, Nat.reduceLT, Nat.reduceLeDiff, Nat.reduceBEq, Nat.reduceBNe, Int.reduceToNat, Int.reduceLT, Int.reduceLE, Int.reduceEq, Int.reduceBNe, Int.reduceBEq, Int.reduceAdd, Int.reduceSub, Int.reduceMul, Int.reduceNeg, ↓reduceIte, hs] <;> simp [ints]
    · obtain rfl : i = l.bs.length := by omega
      simp only [go_sem, Nat.reduceAdd, Nat.reduceSub, Nat.reduceMul, Nat.reducePow, Nat.reduceEqDiff, Nat.reduceLT, Nat.reduceLeDiff, Nat.reduceBEq, Nat.reduceBNe, Int.reduceToNat, Int.reduceLT, Int.reduceLE, Int.reduceEq, Int.reduceBNe, Int.reduceBEq, Int.reduceAdd, Int.reduceSub, Int.reduceMul, Int.reduceNeg, ↓reduceIte, List.take_length]
def balOk (b : BalV) : Bool := b.acct.right && (inR b.sum && (b.sum != 0 && !decide (b.sum < b.acct.floor)))
def ledAt (bs : List BalV) (i : Nat) : Bool :=
  match bs[i]? with
  | none => true
  | some b => balOk b && (match i with
    | 0 => true
    | j + 1 => match bs[j]? with
      | some q => q.acct.less b.acct
      | none => true)
theorem ledAt_zero {bs : List BalV} (h : 0 < bs.length) : ledAt bs 0 = balOk bs[0] := by simp [ledAt, h]
theorem ledAt_succ {bs : List BalV} {j : Nat} (h : j + 1 < bs.length) : ledAt bs (j + 1) = (balOk bs[j + 1] && (bs[j]'(by omega)).acct.less bs[j + 1].acct) := by
  have h' : j < bs.length := by omega
  simp [ledAt, h, h']
def ledSorted (bs : List BalV) : Bool := (List.range bs.length).all (ledAt bs)
theorem ledSorted_no {bs : List BalV} {i : Nat} (h : i < bs.length) (hn : ledAt bs i = false) : ledSorted bs = false := by
  cases hc : ledSorted bs
  · rfl
  · rw [List.all_eq_true.1 hc i (List.mem_range.2 h)] at hn; cases hn
theorem ledSorted_yes {bs : List BalV} (h : ∀ i < bs.length, ledAt bs i = true) : ledSorted bs = true := List.all_eq_true.2 fun i hi => h i (List.mem_range.1 hi)
def balL (bs : List BalV) (c : Int) : Bool := sumE (curL c bs) == 0 && sumN (curL c bs) == 0
def LedV.okB (l : LedV) : Bool := decide (0 ≤ l.last) && ledSorted l.bs && (balL l.bs 0 && balL l.bs 1 && balL l.bs 2)
set_option maxRecDepth 8000 in
theorem ledCheck_spec (l : LedV) (hl : l.bs.length < 2 ^ 30) : Abs.Spec Tryz.prog 34 [] [.agg l.cells] [] (.int .i64 (if l.okB then 0 else 14)) := by
  have hsums := fun c => sums_spec l c hl
  simp only [LedV.cells] at hsums ⊢
  refine Abs.Spec.go (n := 78) (np := 1) (rs := [.tmp 2]) mixed Tryz.func34 rfl rfl rfl rfl rfl (by simp) (by simp) ?_
  simp only [go_sem, Nat.reduceAdd, Nat.reduceSub, Nat.reduceMul, Nat.reducePow, Nat.reduceEqDiff, Nat.reduceLT, Nat.reduceLeDiff, Nat.reduceBEq, Nat.reduceBNe, Int.reduceToNat, Int.reduceLT, Int.reduceLE, Int.reduceEq, Int.reduceBNe, Int.reduceBEq, Int.reduceAdd, Int.reduceSub, Int.reduceMul, Int.reduceNeg, ↓reduceIte, List.length_map]
  rcases Int.lt_or_le l.last 0 with h0 | h0
  · have d0 : decide (l.last < 0) = true := by simpa using h0
    have e : l.okB = false := by simp [LedV.okB]; omega
    simp only [go_sem, Nat.reduceAdd, Nat.reduceSub, Nat.reduceMul, Nat.reducePow, Nat.reduceEqDiff, Nat.reduceLT, Nat.reduceLeDiff, Nat.reduceBEq, Nat.reduceBNe, Int.reduceToNat, Int.reduceLT, Int.reduceLE, Int.reduceEq, Int.reduceBNe, Int.reduceBEq, Int.reduceAdd, Int.reduceSub, Int.reduceMul, Int.reduceNeg, ↓reduceIte, d0, e] <;> simp
  have d0 : decide (l.last < 0) = false := by simpa using h0
  simp only [go_sem, Nat.reduceAdd, Nat.reduceSub, Nat.reduceMul, Nat.reducePow, Nat.reduceEqDiff, Nat.reduceLT, Nat.reduceLeDiff, Nat.reduceBEq, Nat.reduceBNe, Int.reduceToNat, Int.reduceLT, Int.reduceLE, Int.reduceEq, Int.reduceBNe, Int.reduceBEq, Int.reduceAdd, Int.reduceSub, Int.reduceMul, Int.reduceNeg, ↓reduceIte, d0, List.length_map]
  refine LoopK.count l.bs.length [1, 12, 13] [32, 224] (fun i => [(14, .int .i64 i)]) (fun i => []) (fun i => ∀ j < i, ledAt l.bs j = true) (by simp only [go_sem, Nat.reduceAdd, Nat.reduceSub, Nat.reduceMul, Nat.reducePow, Nat.reduceEqDiff, Nat.reduceLT, Nat.reduceLeDiff, Nat.reduceBEq, Nat.reduceBNe, Int.reduceToNat, Int.reduceLT, Int.reduceLE, Int.reduceEq, Int.reduceBNe, Int.reduceBEq, Int.reduceAdd, Int.reduceSub, Int.reduceMul, Int.reduceNeg, ↓reduceIte] <;> exact rfl) (by simp only [go_sem, Nat.reduceAdd, Nat.reduceSub, Nat.reduceMul, Nat.reducePow, Nat.reduceEqDiff, Nat.reduceLT, Nat.reduceLeDiff, Nat.reduceBEq, Nat.reduceBNe, Int.reduceToNat, Int.reduceLT, Int.reduceLE, Int.reduceEq, Int.reduceBNe, Int.reduceBEq, Int.reduceAdd, Int.reduceSub, Int.reduceMul, Int.reduceNeg, ↓reduceIte] <;> exact rfl) (by simp) ?_ ?_
  · simp only [go_sem, Nat.reduceAdd, Nat.reduceSub, Nat.reduceMul, Nat.reducePow, Nat.reduceEqDiff, Nat.reduceLT, Nat.reduceLeDiff, Nat.reduceBEq, Nat.reduceBNe, Int.reduceToNat, Int.reduceLT, Int.reduceLE, Int.reduceEq, Int.reduceBNe, Int.reduceBEq, Int.reduceAdd, Int.reduceSub, Int.reduceMul, Int.reduceNeg, ↓reduceIte] <;> simp
  · intro i hi hI
    simp only [go_sem, Nat.reduceAdd, Nat.reduceSub, Nat.reduceMul, Nat.reducePow, Nat.reduceEqDiff, Nat.reduceLT, Nat.reduceLeDiff, Nat.reduceBEq, Nat.reduceBNe, Int.reduceToNat, Int.reduceLT, Int.reduceLE, Int.reduceEq, Int.reduceBNe, Int.reduceBEq, Int.reduceAdd, Int.reduceSub, Int.reduceMul, Int.reduceNeg, ↓reduceIte]
    refine CondE.splitD (fun h => ?_) (fun h => ?_)
    · have hi' : i < l.bs.length := by omega
      have hw : IntKind.wrap .i64 ((i : Int) + 1) = ((i + 1 : Nat) : Int) := by rw [wr64 (by omega) (by omega)]; omega
      have hm := map_at (c := BalV.cells) l.bs hi'
      have h1 := acctRight_spec l.bs[i].acct
      have h2 : Abs.Spec Tryz.prog 90 [] [.sl 1 [[.int .i64 l.bs[i].sum]]] [] (.bool (right [l.bs[i].sum])) := right_spec [l.bs[i].sum] (by simp)
      have h3 := acctFloor_spec l.bs[i].acct
      rw [right_one] at h2
      have e0 : ledAt l.bs i = true → ∀ k < i + 1, ledAt l.bs k = true := fun h0 k hk => by
        rcases Nat.lt_or_ge k i with h | h
        · exact hI k h
        · obtain rfl : k = i := by omega
          exact h0
      have e1 : ledAt l.bs i = false → l.okB = false := fun hx => by simp [LedV.okB, ledSorted_no hi' hx]
      simp only [BalV.cells, AcctV.cells, BalV.acct] at hm h1 h3
      rcases Nat.eq_zero_or_pos i with rfl | hpos
      · have hk := ledAt_zero hi'
        simp only [balOk, BalV.acct] at hk
        clear hsums
        simp only [go_sem, Nat.reduceAdd, Nat.reduceSub, Nat.reduceMul, Nat.reducePow, Nat.reduceEqDiff, Nat.reduceLT, Nat.reduceLeDiff, Nat.reduceBEq, Nat.reduceBNe, Int.reduceToNat, Int.reduceLT, Int.reduceLE, Int.reduceEq, Int.reduceBNe, Int.reduceBEq, Int.reduceAdd, Int.reduceSub, Int.reduceMul, Int.reduceNeg, ↓reduceIte, hm]
        repeat' (with_reducible first
            | refine And.intro ?_ ?_
            | exact DrawN.mk (by kernel_rfl)
            | exact OkN.mk (by kernel_rfl)
            | refine CallN.pure (by assumption) ?_
            | (refine CallN.gen [] [] true (by simp) ?_; simp only [go_sem, Nat.reduceAdd, Nat.reduceSub, Nat.reduceMul, Nat.reducePow, Nat.reduceEqDiff, Nat.reduceLT, Nat.reduceLeDiff, Nat.reduceBEq, Nat.reduceBNe, Int.reduceToNat, Int.reduceLT, Int.reduceLE, Int.reduceEq, Int.reduceBNe, Int.reduceBEq, Int.reduceAdd, Int.reduceSub, Int.reduceMul, Int.reduceNeg, ↓reduceIte]; refine CallG.intro h2 ?_)
            | refine GuardK.splitDN (fun h => ?_) (fun h => ?_)
            | refine GuardK.splitD (fun h => ?_) (fun h => ?_)
            | refine CondE.splitDN (fun h => ?_) (fun h => ?_)
            | refine CondE.splitD (fun h => ?_) (fun h => ?_)
            | refine GuardK.splitN (fun h => ?_) (fun h => ?_)
            | refine GuardK.split (fun h => ?_) (fun h => ?_)
            | refine CondE.splitN (fun h => ?_) (fun h => ?_)
            | refine CondE.split (fun h => ?_) (fun h => ?_)
            | refine WeakK.id ?_
            | refine RoundK.next (by omega) ?_ ?_
            | exact trivial
            | simp only [*, go_sem, Nat.reduceAdd, Nat.reduceSub, Nat.reduceMul, Nat.reducePow, Nat.reduceEqDiff, Nat.reduceLT, Nat.reduceLeDiff, Nat.reduceBEq, Nat.reduceBNe, Int.reduceToNat, Int.reduceLT, Int.reduceLE, Int.reduceEq, Int.reduceBNe, Int.reduceBEq, Int.reduceAdd, Int.reduceSub, Int.reduceMul, Int.reduceNeg, ↓reduceIte])
        all_goals first
          | omega
          | rfl
          | (refine e0 ?_; clear e0 e1; rw [hk]; clear hk; simp [bne, *]; done)
          | (rw [e1 ?_]
             · rfl
             · clear e0 e1; rw [hk]; clear hk; simp [bne, *]; done)
      · obtain ⟨j, rfl⟩ : ∃ j, i = j + 1 := ⟨i - 1, by omega⟩
        have hj : j < l.bs.length := by omega
        have hw1 : IntKind.wrap .i64 (((j + 1 : Nat) : Int) - 1) = (j : Int) := by rw [wr64 (by omega) (by omega)]; omega
        have hk := ledAt_succ hi'
        simp only [balOk, BalV.acct] at hk
        have hmj := map_at (c := BalV.cells) l.bs hj
        have h4 := acctLess_spec l.bs[j].acct l.bs[j + 1].acct
        simp only [BalV.cells, AcctV.cells, BalV.acct] at hmj h4
        clear hsums
        simp only [go_sem, Nat.reduceAdd, Nat.reduceSub, Nat.reduceMul, Nat.reducePow, Nat.reduceEqDiff, Nat.reduceLT, Nat.reduceLeDiff, Nat.reduceBEq, Nat.reduceBNe, Int.reduceToNat, Int.reduceLT, Int.reduceLE, Int.reduceEq, Int.reduceBNe, Int.reduceBEq, Int.reduceAdd, Int.reduceSub, Int.reduceMul, Int.reduceNeg, ↓reduceIte, hm]
        repeat' (with_reducible first
            | refine And.intro ?_ ?_
            | exact DrawN.mk (by kernel_rfl)
            | exact OkN.mk (by kernel_rfl)
            | refine CallN.pure (by assumption) ?_
            | (refine CallN.gen [] [] true (by simp) ?_; simp only [go_sem, Nat.reduceAdd, Nat.reduceSub, Nat.reduceMul, Nat.reducePow, Nat.reduceEqDiff, Nat.reduceLT, Nat.reduceLeDiff, Nat.reduceBEq, Nat.reduceBNe, Int.reduceToNat, Int.reduceLT, Int.reduceLE, Int.reduceEq, Int.reduceBNe, Int.reduceBEq, Int.reduceAdd, Int.reduceSub, Int.reduceMul, Int.reduceNeg, ↓reduceIte]; refine CallG.intro h2 ?_)
            | refine GuardK.splitDN (fun h => ?_) (fun h => ?_)
            | refine GuardK.splitD (fun h => ?_) (fun h => ?_)
            | refine CondE.splitDN (fun h => ?_) (fun h => ?_)
            | refine CondE.splitD (fun h => ?_) (fun h => ?_)
            | refine GuardK.splitN (fun h => ?_) (fun h => ?_)
            | refine GuardK.split (fun h => ?_) (fun h => ?_)
            | refine CondE.splitN (fun h => ?_) (fun h => ?_)
            | refine CondE.split (fun h => ?_) (fun h => ?_)
            | refine WeakK.id ?_
            | refine RoundK.next (by omega) ?_ ?_
            | exact trivial
            | simp only [*, go_sem, Nat.reduceAdd, Nat.reduceSub, Nat.reduceMul, Nat.reducePow, Nat.reduceEqDiff, Nat.reduceLT, Nat.reduceLeDiff, Nat.reduceBEq, Nat.reduceBNe, Int.reduceToNat, Int.reduceLT, Int.reduceLE, Int.reduceEq, Int.reduceBNe, Int.reduceBEq, Int.reduceAdd, Int.reduceSub, Int.reduceMul, Int.reduceNeg, ↓reduceIte, hmj])
        all_goals first
          | omega
          | rfl
          | (refine e0 ?_; clear e0 e1; rw [hk]; clear hk; simp [bne, *]; done)
          | (rw [e1 ?_]
             · rfl
             · clear e0 e1; rw [hk]; clear hk; simp [bne, *]; done)
    · obtain rfl : i = l.bs.length := by omega
      have hs := ledSorted_yes hI
      simp only [go_sem, Nat.reduceAdd, Nat.reduceSub, Nat.reduceMul, Nat.reducePow, Nat.reduceEqDiff, Nat.reduceLT, Nat.reduceLeDiff, Nat.reduceBEq, Nat.reduceBNe, Int.reduceToNat, Int.reduceLT, Int.reduceLE, Int.reduceEq, Int.reduceBNe, Int.reduceBEq, Int.reduceAdd, Int.reduceSub, Int.reduceMul, Int.reduceNeg, ↓reduceIte]
      refine LoopK.count 3 [1] [32] (fun i => [(61, .int .i64 i)]) (fun i => []) (fun i => ∀ c < i, balL l.bs (c : Nat) = true) (by simp only [go_sem, Nat.reduceAdd, Nat.reduceSub, Nat.reduceMul, Nat.reducePow, Nat.reduceEqDiff, Nat.reduceLT, Nat.reduceLeDiff, Nat.reduceBEq, Nat.reduceBNe, Int.reduceToNat, Int.reduceLT, Int.reduceLE, Int.reduceEq, Int.reduceBNe, Int.reduceBEq, Int.reduceAdd, Int.reduceSub, Int.reduceMul, Int.reduceNeg, ↓reduceIte] <;> exact rfl) (by simp only [go_sem, Nat.reduceAdd, Nat.reduceSub, Nat.reduceMul, Nat.reducePow, Nat.reduceEqDiff, Nat.reduceLT, Nat.reduceLeDiff, Nat.reduceBEq, Nat.reduceBNe, Int.reduceToNat, Int.reduceLT, Int.reduceLE, Int.reduceEq, Int.reduceBNe, Int.reduceBEq, Int.reduceAdd, Int.reduceSub, Int.reduceMul, Int.reduceNeg, ↓reduceIte] <;> exact rfl) (by simp) ?_ ?_
      · simp only [go_sem, Nat.reduceAdd, Nat.reduceSub, Nat.reduceMul, Nat.reducePow, Nat.reduceEqDiff, Nat.reduceLT, Nat.reduceLeDiff, Nat.reduceBEq, Nat.reduceBNe, Int.reduceToNat, Int.reduceLT, Int.reduceLE, Int.reduceEq, Int.reduceBNe, Int.reduceBEq, Int.reduceAdd, Int.reduceSub, Int.reduceMul, Int.reduceNeg, ↓reduceIte] <;> simp
      · intro c hc hC
        simp only [go_sem, Nat.reduceAdd, Nat.reduceSub, Nat.reduceMul, Nat.reducePow, Nat.reduceEqDiff, Nat.reduceLT, Nat.reduceLeDiff, Nat.reduceBEq, Nat.reduceBNe, Int.reduceToNat, Int.reduceLT, Int.reduceLE, Int.reduceEq, Int.reduceBNe, Int.reduceBEq, Int.reduceAdd, Int.reduceSub, Int.reduceMul, Int.reduceNeg, ↓reduceIte]
        refine CondE.splitD (fun h => ?_) (fun h => ?_)
        · have hc' : c < 3 := by omega
          have hw : IntKind.wrap .i64 ((c : Int) + 1) = ((c + 1 : Nat) : Int) := by rw [wr64 (by omega) (by omega)]; omega
          have hlen := curL_len c l.bs
          have hsum := sum_spec (curL c l.bs) (by omega)
          have hbad : balL l.bs c = false → l.okB = false := fun hx => by
            obtain rfl | rfl | rfl : c = 0 ∨ c = 1 ∨ c = 2 := by omega
            · have : balL l.bs 0 = false := hx
              simp [LedV.okB, this]
            · have : balL l.bs 1 = false := hx
              simp [LedV.okB, this]
            · have : balL l.bs 2 = false := hx
              simp [LedV.okB, this]
          simp only [go_sem, Nat.reduceAdd, Nat.reduceSub, Nat.reduceMul, Nat.reducePow, Nat.reduceEqDiff, Nat.reduceLT, Nat.reduceLeDiff, Nat.reduceBEq, Nat.reduceBNe, Int.reduceToNat, Int.reduceLT, Int.reduceLE, Int.reduceEq, Int.reduceBNe, Int.reduceBEq, Int.reduceAdd, Int.reduceSub, Int.reduceMul, Int.reduceNeg, ↓reduceIte]
          refine CallN.gen [] [] false (by simp) ?_
          simp only [go_sem, Nat.reduceAdd, Nat.reduceSub, Nat.reduceMul, Nat.reducePow, Nat.reduceEqDiff, Nat.reduceLT, Nat.reduceLeDiff, Nat.reduceBEq, Nat.reduceBNe, Int.reduceToNat, Int.reduceLT, Int.reduceLE, Int.reduceEq, Int.reduceBNe, Int.reduceBEq, Int.reduceAdd, Int.reduceSub, Int.reduceMul, Int.reduceNeg, ↓reduceIte]
          refine CallG.intro (hsums c) ?_
          simp only [go_sem, Nat.reduceAdd, Nat.reduceSub, Nat.reduceMul, Nat.reducePow, Nat.reduceEqDiff, Nat.reduceLT, Nat.reduceLeDiff, Nat.reduceBEq, Nat.reduceBNe, Int.reduceToNat, Int.reduceLT, Int.reduceLE, Int.reduceEq, Int.reduceBNe, Int.reduceBEq, Int.reduceAdd, Int.reduceSub, Int.reduceMul, Int.reduceNeg, ↓reduceIte]
          refine CallN.gen [] [] true (by simp) ?_
          simp only [go_sem, Nat.reduceAdd, Nat.reduceSub, Nat.reduceMul, Nat.reducePow, Nat.reduceEqDiff, Nat.reduceLT, Nat.reduceLeDiff, Nat.reduceBEq, Nat.reduceBNe, Int.reduceToNat, Int.reduceLT, Int.reduceLE, Int.reduceEq, Int.reduceBNe, Int.reduceBEq, Int.reduceAdd, Int.reduceSub, Int.reduceMul, Int.reduceNeg, ↓reduceIte]
          refine CallG.intro hsum ?_
          cases hE : sumE (curL c l.bs) == 0
          · have e : l.okB = false := hbad (by simp [balL, hE])
            have hE' : (sumE (curL c l.bs) != 0) = true := by simp [bne, hE]
            simp only [go_sem, Nat.reduceAdd, Nat.reduceSub, Nat.reduceMul, Nat.reducePow, Nat.reduceEqDiff, Nat.reduceLT, Nat.reduceLeDiff, Nat.reduceBEq, Nat.reduceBNe, Int.reduceToNat, Int.reduceLT, Int.reduceLE, Int.reduceEq, Int.reduceBNe, Int.reduceBEq, Int.reduceAdd, Int.reduceSub, Int.reduceMul, Int.reduceNeg, ↓reduceIte, hE', e] <;> simp
          have hE' : (sumE (curL c l.bs) != 0) = false := by simp [bne, hE]
          cases hN : sumN (curL c l.bs) == 0
          · have e : l.okB = false := hbad (by simp [balL, hE, hN])
            have hN' : (sumN (curL c l.bs) != 0) = true := by simp [bne, hN]
            simp only [go_sem, Nat.reduceAdd, Nat.reduceSub, Nat.reduceMul, Nat.reducePow, Nat.reduceEqDiff, Nat.reduceLT, Nat.reduceLeDiff, Nat.reduceBEq, Nat.reduceBNe, Int.reduceToNat, Int.reduceLT, Int.reduceLE, Int.reduceEq, Int.reduceBNe, Int.reduceBEq, Int.reduceAdd, Int.reduceSub, Int.reduceMul, Int.reduceNeg, ↓reduceIte, hE', hN', e] <;> simp
          have hN' : (sumN (curL c l.bs) != 0) = false := by simp [bne, hN]
          simp only [go_sem, Nat.reduceAdd, Nat.reduceSub, Nat.reduceMul, Nat.reducePow, Nat.reduceEqDiff, Nat.reduceLT, Nat.reduceLeDiff, Nat.reduceBEq, Nat.reduceBNe, Int.reduceToNat, Int.reduceLT, Int.reduceLE, Int.reduceEq, Int.reduceBNe, Int.reduceBEq, Int.reduceAdd, Int.reduceSub, Int.reduceMul, Int.reduceNeg, ↓reduceIte, hE', hN', hw]
          refine RoundK.next hc' ?_ ?_
          · intro k hk
            rcases Nat.lt_or_ge k c with h | h
            · exact hC k h
            · obtain rfl : k = c := by omega
              simp [balL, hE, hN]
          · simp only [go_sem, Nat.reduceAdd, Nat.reduceSub, Nat.reduceMul, Nat.reducePow, Nat.reduceEqDiff, Nat.reduceLT, Nat.reduceLeDiff, Nat.reduceBEq, Nat.reduceBNe, Int.reduceToNat, Int.reduceLT, Int.reduceLE, Int.reduceEq, Int.reduceBNe, Int.reduceBEq, Int.reduceAdd, Int.reduceSub, Int.reduceMul, Int.reduceNeg, ↓reduceIte]
        · obtain rfl : c = 3 := by omega
          have b0 : balL l.bs 0 = true := hC 0 (by omega)
          have b1 : balL l.bs 1 = true := hC 1 (by omega)
          have b2 : balL l.bs 2 = true := hC 2 (by omega)
          have e : l.okB = true := by simp [LedV.okB, hs, b0, b1, b2, h0]
          simp only [go_sem, Nat.reduceAdd, Nat.reduceSub, Nat.reduceMul, Nat.reducePow, Nat.reduceEqDiff, Nat.reduceLT, Nat.reduceLeDiff, Nat.reduceBEq, Nat.reduceBNe, Int.reduceToNat, Int.reduceLT, Int.reduceLE, Int.reduceEq, Int.reduceBNe, Int.reduceBEq, Int.reduceAdd, Int.reduceSub, Int.reduceMul, Int.reduceNeg, ↓reduceIte, e] <;> simp
end Go.Proofs.YtbllopdcbkeadaaGreat
set_option linter.unusedSimpArgs false
set_option linter.unusedVariables false
namespace Go.Proofs.YtbllopdcbkeadaaGreat
open Go.Abs
end Go.Proofs.YtbllopdcbkeadaaGreat
set_option linter.unusedSimpArgs false
set_option linter.unusedVariables false
namespace Go.Proofs.YtbllopdcbkeadaaGreat
open Go.Abs
end Go.Proofs.YtbllopdcbkeadaaGreat
