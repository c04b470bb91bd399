/- The reference's books. The reference's cover and what it lacks. Whether two states are the same. The law CoverStands. Sums of quantities, of money. What was marked and not paid, and what stands in the books. No theorem of a claim. -/
import Derived.Test.YtbllopdcbkeadaaGreatLF
import Derived.Test.YtbllopdcbkeadaaGreatLC
set_option linter.unusedSimpArgs false
set_option linter.unusedVariables false
namespace Go.Proofs.YtbllopdcbkeadaaGreat
open Go.Abs
theorem qtysL_rng {n : Int} {l : List PosV} (h : ∀ p ∈ l, p.rng) : ∀ q ∈ qtysL n l, I64 q := by
  intro q hq
  simp only [qtysL, List.mem_map, List.mem_filter] at hq
  obtain ⟨p, ⟨hp, _⟩, rfl⟩ := hq
  exact (h p hp).2.2.1
end Go.Proofs.YtbllopdcbkeadaaGreat
set_option linter.unusedSimpArgs false
set_option linter.unusedVariables false
namespace Go.Proofs.YtbllopdcbkeadaaGreat
open Go.Abs
end Go.Proofs.YtbllopdcbkeadaaGreat
set_option linter.unusedSimpArgs false
set_option linter.unusedVariables false
namespace Go.Proofs.YtbllopdcbkeadaaGreat
open Go.Abs
deriving instance DecidableEq for MemberV, InstV, AssetV, BalV, AcctV
theorem ext_list {A : Type} {xs ys : List A} (hl : xs.length = ys.length) (h : ∀ j (h1 : j < xs.length) (h2 : j < ys.length), j < xs.length → xs[j] = ys[j]) : xs = ys := List.ext_getElem hl fun j h1 h2 => h j h1 h2 h1
theorem eq_next {A : Type} {xs ys : List A} {i : Nat} (hI : ∀ j (h1 : j < xs.length) (h2 : j < ys.length), j < i → xs[j] = ys[j]) (h1 : i < xs.length) (h2 : i < ys.length) (he : xs[i] = ys[i]) : ∀ j (h1 : j < xs.length) (h2 : j < ys.length), j < i + 1 → xs[j] = ys[j] := by
  intro j a b hj
  rcases Nat.lt_or_ge j i with h | h
  · exact hI j a b h
  · obtain rfl : j = i := by omega
    exact he
theorem keepAcctD_spec (a b : AcctV) : Abs.Spec Tryz.prog 138 [] [.agg a.cells, .agg b.cells] [] (.bool (decide (a = b))) := by
  have h := keepAcct_spec a b
  have e : a.same b = decide (a = b) := by rw [Bool.eq_iff_iff, same_iff]; cases a; cases b; simp
  rwa [e] at h
theorem keepDue_spec (a b : DueV) : Abs.Spec Tryz.prog 139 [] [.agg a.cells, .agg b.cells] [] (.bool (decide (a = b))) := by
  simp only [DueV.cells]
  refine Abs.Spec.go (n := 24) (np := 2) (rs := [.tmp 4]) mixed Tryz.func139 rfl rfl rfl rfl rfl (by simp) (by simp) ?_
  simp only [go_sem, Nat.reduceAdd, Nat.reduceSub, Nat.reduceMul, Nat.reducePow, Nat.reduceEqDiff, Nat.reduceLT, Nat.reduceLeDiff, Nat.reduceBEq, Nat.reduceBNe, Int.reduceToNat, Int.reduceLT, Int.reduceLE, Int.reduceEq, Int.reduceBNe, Int.reduceBEq, Int.reduceAdd, Int.reduceSub, Int.reduceMul, Int.reduceNeg, ↓reduceIte]
  repeat' (with_reducible first
      | refine And.intro ?_ ?_
      | exact DrawN.mk (by kernel_rfl)
      | exact OkN.mk (by kernel_rfl)
      | refine CallN.pure (by assumption) ?_
      | refine GuardK.splitDN (fun h => ?_) (fun h => ?_)
      | refine GuardK.splitD (fun h => ?_) (fun h => ?_)
      | refine CondE.splitDN (fun h => ?_) (fun h => ?_)
      | refine CondE.splitD (fun h => ?_) (fun h => ?_)
      | refine GuardK.splitN (fun h => ?_) (fun h => ?_)
      | refine GuardK.split (fun h => ?_) (fun h => ?_)
      | refine CondE.splitN (fun h => ?_) (fun h => ?_)
      | refine CondE.split (fun h => ?_) (fun h => ?_)
      | refine WeakK.id ?_
      | refine RoundK.next (by omega) ?_ ?_
      | exact trivial
      | simp only [*, go_sem, Nat.reduceAdd, Nat.reduceSub, Nat.reduceMul, Nat.reducePow, Nat.reduceEqDiff, Nat.reduceLT, Nat.reduceLeDiff, Nat.reduceBEq, Nat.reduceBNe, Int.reduceToNat, Int.reduceLT, Int.reduceLE, Int.reduceEq, Int.reduceBNe, Int.reduceBEq, Int.reduceAdd, Int.reduceSub, Int.reduceMul, Int.reduceNeg, ↓reduceIte])
  all_goals (rw [Bool.eq_iff_iff]; cases a; cases b; simp_all)
theorem keepAsset_spec (a b : AssetV) : Abs.Spec Tryz.prog 162 [] [.agg a.cells, .agg b.cells] [] (.bool (decide (a = b))) := by
  simp only [AssetV.cells]
  refine Abs.Spec.go (n := 31) (np := 2) (rs := [.tmp 4]) mixed Tryz.func162 rfl rfl rfl rfl rfl (by simp) (by simp) ?_
  simp only [go_sem, Nat.reduceAdd, Nat.reduceSub, Nat.reduceMul, Nat.reducePow, Nat.reduceEqDiff, Nat.reduceLT, Nat.reduceLeDiff, Nat.reduceBEq, Nat.reduceBNe, Int.reduceToNat, Int.reduceLT, Int.reduceLE, Int.reduceEq, Int.reduceBNe, Int.reduceBEq, Int.reduceAdd, Int.reduceSub, Int.reduceMul, Int.reduceNeg, ↓reduceIte]
  repeat' (with_reducible first
      | refine And.intro ?_ ?_
      | exact DrawN.mk (by kernel_rfl)
      | exact OkN.mk (by kernel_rfl)
      | refine CallN.pure (by assumption) ?_
      | refine GuardK.splitDN (fun h => ?_) (fun h => ?_)
      | refine GuardK.splitD (fun h => ?_) (fun h => ?_)
      | refine CondE.splitDN (fun h => ?_) (fun h => ?_)
      | refine CondE.splitD (fun h => ?_) (fun h => ?_)
      | refine GuardK.splitN (fun h => ?_) (fun h => ?_)
      | refine GuardK.split (fun h => ?_) (fun h => ?_)
      | refine CondE.splitN (fun h => ?_) (fun h => ?_)
      | refine CondE.split (fun h => ?_) (fun h => ?_)
      | refine WeakK.id ?_
      | refine RoundK.next (by omega) ?_ ?_
      | exact trivial
      | simp only [*, go_sem, Nat.reduceAdd, Nat.reduceSub, Nat.reduceMul, Nat.reducePow, Nat.reduceEqDiff, Nat.reduceLT, Nat.reduceLeDiff, Nat.reduceBEq, Nat.reduceBNe, Int.reduceToNat, Int.reduceLT, Int.reduceLE, Int.reduceEq, Int.reduceBNe, Int.reduceBEq, Int.reduceAdd, Int.reduceSub, Int.reduceMul, Int.reduceNeg, ↓reduceIte])
  all_goals (rw [Bool.eq_iff_iff]; cases a; cases b; simp_all)
theorem keepKey_spec (a b c d : Int) : Abs.Spec Tryz.prog 140 [] [.agg [.int .i64 a, .int .i64 b], .agg [.int .i64 c, .int .i64 d]] [] (.bool (decide (a = c ∧ b = d))) := by
  refine Abs.Spec.go (n := 17) (np := 2) (rs := [.tmp 4]) mixed Tryz.func140 rfl rfl rfl rfl rfl (by simp) (by simp) ?_
  simp only [go_sem, Nat.reduceAdd, Nat.reduceSub, Nat.reduceMul, Nat.reducePow, Nat.reduceEqDiff, Nat.reduceLT, Nat.reduceLeDiff, Nat.reduceBEq, Nat.reduceBNe, Int.reduceToNat, Int.reduceLT, Int.reduceLE, Int.reduceEq, Int.reduceBNe, Int.reduceBEq, Int.reduceAdd, Int.reduceSub, Int.reduceMul, Int.reduceNeg, ↓reduceIte]
  repeat' (with_reducible first
      | refine And.intro ?_ ?_
      | exact DrawN.mk (by kernel_rfl)
      | exact OkN.mk (by kernel_rfl)
      | refine CallN.pure (by assumption) ?_
      | refine GuardK.splitDN (fun h => ?_) (fun h => ?_)
      | refine GuardK.splitD (fun h => ?_) (fun h => ?_)
      | refine CondE.splitDN (fun h => ?_) (fun h => ?_)
      | refine CondE.splitD (fun h => ?_) (fun h => ?_)
      | refine GuardK.splitN (fun h => ?_) (fun h => ?_)
      | refine GuardK.split (fun h => ?_) (fun h => ?_)
      | refine CondE.splitN (fun h => ?_) (fun h => ?_)
      | refine CondE.split (fun h => ?_) (fun h => ?_)
      | refine WeakK.id ?_
      | refine RoundK.next (by omega) ?_ ?_
      | exact trivial
      | simp only [*, go_sem, Nat.reduceAdd, Nat.reduceSub, Nat.reduceMul, Nat.reducePow, Nat.reduceEqDiff, Nat.reduceLT, Nat.reduceLeDiff, Nat.reduceBEq, Nat.reduceBNe, Int.reduceToNat, Int.reduceLT, Int.reduceLE, Int.reduceEq, Int.reduceBNe, Int.reduceBEq, Int.reduceAdd, Int.reduceSub, Int.reduceMul, Int.reduceNeg, ↓reduceIte])
  all_goals (rw [Bool.eq_iff_iff]; simp_all)
theorem keepPos_spec (a b : PosV) : Abs.Spec Tryz.prog 163 [] [.agg a.cells, .agg b.cells] [] (.bool (decide (a = b))) := by
  have h := keepKey_spec a.who a.inst b.who b.inst
  simp only [PosV.cells]
  refine Abs.Spec.go (n := 24) (np := 2) (rs := [.tmp 4]) mixed Tryz.func163 rfl rfl rfl rfl rfl (by simp) (by simp) ?_
  simp only [go_sem, Nat.reduceAdd, Nat.reduceSub, Nat.reduceMul, Nat.reducePow, Nat.reduceEqDiff, Nat.reduceLT, Nat.reduceLeDiff, Nat.reduceBEq, Nat.reduceBNe, Int.reduceToNat, Int.reduceLT, Int.reduceLE, Int.reduceEq, Int.reduceBNe, Int.reduceBEq, Int.reduceAdd, Int.reduceSub, Int.reduceMul, Int.reduceNeg, ↓reduceIte]
  repeat' (with_reducible first
      | refine And.intro ?_ ?_
      | exact DrawN.mk (by kernel_rfl)
      | exact OkN.mk (by kernel_rfl)
      | refine CallN.pure (by assumption) ?_
      | refine CallN.pure (h) ?_
      | refine GuardK.splitDN (fun h => ?_) (fun h => ?_)
      | refine GuardK.splitD (fun h => ?_) (fun h => ?_)
      | refine CondE.splitDN (fun h => ?_) (fun h => ?_)
      | refine CondE.splitD (fun h => ?_) (fun h => ?_)
      | refine GuardK.splitN (fun h => ?_) (fun h => ?_)
      | refine GuardK.split (fun h => ?_) (fun h => ?_)
      | refine CondE.splitN (fun h => ?_) (fun h => ?_)
      | refine CondE.split (fun h => ?_) (fun h => ?_)
      | refine WeakK.id ?_
      | refine RoundK.next (by omega) ?_ ?_
      | exact trivial
      | simp only [*, go_sem, Nat.reduceAdd, Nat.reduceSub, Nat.reduceMul, Nat.reducePow, Nat.reduceEqDiff, Nat.reduceLT, Nat.reduceLeDiff, Nat.reduceBEq, Nat.reduceBNe, Int.reduceToNat, Int.reduceLT, Int.reduceLE, Int.reduceEq, Int.reduceBNe, Int.reduceBEq, Int.reduceAdd, Int.reduceSub, Int.reduceMul, Int.reduceNeg, ↓reduceIte])
  all_goals (rw [Bool.eq_iff_iff]; cases a; cases b; simp_all)
theorem keepClock_spec (a b c d e f : Int) : Abs.Spec Tryz.prog 53 [] [.agg [.int .i64 a, .int .i64 b, .int .i64 c], .agg [.int .i64 d, .int .i64 e, .int .i64 f]] [] (.bool (decide (a = d ∧ b = e ∧ c = f))) := by
  refine Abs.Spec.go (n := 24) (np := 2) (rs := [.tmp 4]) mixed Tryz.func53 rfl rfl rfl rfl rfl (by simp) (by simp) ?_
  simp only [go_sem, Nat.reduceAdd, Nat.reduceSub, Nat.reduceMul, Nat.reducePow, Nat.reduceEqDiff, Nat.reduceLT, Nat.reduceLeDiff, Nat.reduceBEq, Nat.reduceBNe, Int.reduceToNat, Int.reduceLT, Int.reduceLE, Int.reduceEq, Int.reduceBNe, Int.reduceBEq, Int.reduceAdd, Int.reduceSub, Int.reduceMul, Int.reduceNeg, ↓reduceIte]
  repeat' (with_reducible first
      | refine And.intro ?_ ?_
      | exact DrawN.mk (by kernel_rfl)
      | exact OkN.mk (by kernel_rfl)
      | refine CallN.pure (by assumption) ?_
      | refine GuardK.splitDN (fun h => ?_) (fun h => ?_)
      | refine GuardK.splitD (fun h => ?_) (fun h => ?_)
      | refine CondE.splitDN (fun h => ?_) (fun h => ?_)
      | refine CondE.splitD (fun h => ?_) (fun h => ?_)
      | refine GuardK.splitN (fun h => ?_) (fun h => ?_)
      | refine GuardK.split (fun h => ?_) (fun h => ?_)
      | refine CondE.splitN (fun h => ?_) (fun h => ?_)
      | refine CondE.split (fun h => ?_) (fun h => ?_)
      | refine WeakK.id ?_
      | refine RoundK.next (by omega) ?_ ?_
      | exact trivial
      | simp only [*, go_sem, Nat.reduceAdd, Nat.reduceSub, Nat.reduceMul, Nat.reducePow, Nat.reduceEqDiff, Nat.reduceLT, Nat.reduceLeDiff, Nat.reduceBEq, Nat.reduceBNe, Int.reduceToNat, Int.reduceLT, Int.reduceLE, Int.reduceEq, Int.reduceBNe, Int.reduceBEq, Int.reduceAdd, Int.reduceSub, Int.reduceMul, Int.reduceNeg, ↓reduceIte])
  all_goals (rw [Bool.eq_iff_iff]; simp_all)
theorem inst_ext {a b : InstV} : a = b ↔ (∀ j < 6, a.sh j = b.sh j) ∧ a.no = b.no ∧ a.cur = b.cur ∧ a.mult = b.mult ∧ a.add = b.add ∧ a.set = b.set ∧ a.price = b.price := by
  constructor
  · rintro rfl; simp
  · rintro ⟨h, h1, h2, h3, h4, h5, h6⟩
    have s0 := h 0 (by omega)
    have s1 := h 1 (by omega)
    have s2 := h 2 (by omega)
    have s3 := h 3 (by omega)
    have s4 := h 4 (by omega)
    have s5 := h 5 (by omega)
    cases a; cases b
    simp only [InstV.sh] at s0 s1 s2 s3 s4 s5
    simp_all
theorem inst_sh (x : InstV) {i : Nat} (h : i < 6) : (List.drop (6 + i * 1) x.cells).headD .undef = .int .i64 (x.sh i) := by
  rcases i with _ | _ | _ | _ | _ | _ | i <;> first | rfl | omega
theorem keepInst_spec (a b : InstV) : Abs.Spec Tryz.prog 161 [] [.agg a.cells, .agg b.cells] [] (.bool (decide (a = b))) := by
  simp only [InstV.cells]
  refine Abs.Spec.go (n := 59) (np := 2) (rs := [.tmp 4]) mixed Tryz.func161 rfl rfl rfl rfl rfl (by simp) (by simp) ?_
  simp only [go_sem, Nat.reduceAdd, Nat.reduceSub, Nat.reduceMul, Nat.reducePow, Nat.reduceEqDiff, Nat.reduceLT, Nat.reduceLeDiff, Nat.reduceBEq, Nat.reduceBNe, Int.reduceToNat, Int.reduceLT, Int.reduceLE, Int.reduceEq, Int.reduceBNe, Int.reduceBEq, Int.reduceAdd, Int.reduceSub, Int.reduceMul, Int.reduceNeg, ↓reduceIte]
  refine LoopK.walk (S := Unit) 6 [2, 3] [48, 64] (fun i _ => [(5, .int .i64 i)]) (fun i _ => []) (fun i _ => ∀ j < i, a.sh j = b.sh j) () (by simp only [go_sem, Nat.reduceAdd, Nat.reduceSub, Nat.reduceMul, Nat.reducePow, Nat.reduceEqDiff, Nat.reduceLT, Nat.reduceLeDiff, Nat.reduceBEq, Nat.reduceBNe, Int.reduceToNat, Int.reduceLT, Int.reduceLE, Int.reduceEq, Int.reduceBNe, Int.reduceBEq, Int.reduceAdd, Int.reduceSub, Int.reduceMul, Int.reduceNeg, ↓reduceIte] <;> exact rfl) (by simp only [go_sem, Nat.reduceAdd, Nat.reduceSub, Nat.reduceMul, Nat.reducePow, Nat.reduceEqDiff, Nat.reduceLT, Nat.reduceLeDiff, Nat.reduceBEq, Nat.reduceBNe, Int.reduceToNat, Int.reduceLT, Int.reduceLE, Int.reduceEq, Int.reduceBNe, Int.reduceBEq, Int.reduceAdd, Int.reduceSub, Int.reduceMul, Int.reduceNeg, ↓reduceIte] <;> exact rfl) (by intros; omega) ?_ ?_ ?_
  · simp only [go_sem, Nat.reduceAdd, Nat.reduceSub, Nat.reduceMul, Nat.reducePow, Nat.reduceEqDiff, Nat.reduceLT, Nat.reduceLeDiff, Nat.reduceBEq, Nat.reduceBNe, Int.reduceToNat, Int.reduceLT, Int.reduceLE, Int.reduceEq, Int.reduceBNe, Int.reduceBEq, Int.reduceAdd, Int.reduceSub, Int.reduceMul, Int.reduceNeg, ↓reduceIte] <;> simp
  · intro i _ hi hdi hw hI
    have hdi : decide ((i : Int) < 6) = true := hdi
    have ha := inst_sh a hi
    have hb := inst_sh b hi
    simp only [InstV.cells] at ha hb
    simp only [go_sem, Nat.reduceAdd, Nat.reduceSub, Nat.reduceMul, Nat.reducePow, Nat.reduceEqDiff, Nat.reduceLT, Nat.reduceLeDiff, Nat.reduceBEq, Nat.reduceBNe, Int.reduceToNat, Int.reduceLT, Int.reduceLE, Int.reduceEq, Int.reduceBNe, Int.reduceBEq, Int.reduceAdd, Int.reduceSub, Int.reduceMul, Int.reduceNeg, ↓reduceIte, hdi, ha, hb]
    (repeat' (with_reducible first | refine And.intro ?_ ?_ | exact DrawN.mk (by kernel_rfl) | exact OkN.mk (by kernel_rfl))) <;> try omega
    cases he : a.sh i == b.sh i
    · have hn : decide (a = b) = false := decide_eq_false fun h => by rw [h] at he; simp at he
      simp only [go_sem, Nat.reduceAdd, Nat.reduceSub, Nat.reduceMul, Nat.reducePow, Nat.reduceEqDiff, Nat.reduceLT, Nat.reduceLeDiff, Nat.reduceBEq, Nat.reduceBNe, Int.reduceToNat, Int.reduceLT, Int.reduceLE, Int.reduceEq, Int.reduceBNe, Int.reduceBEq, Int.reduceAdd, Int.reduceSub, Int.reduceMul, Int.reduceNeg, ↓reduceIte, bne, he, hn]
    · simp only [go_sem, Nat.reduceAdd, Nat.reduceSub, Nat.reduceMul, Nat.reducePow, Nat.reduceEqDiff, Nat.reduceLT, Nat.reduceLeDiff, Nat.reduceBEq, Nat.reduceBNe, Int.reduceToNat, Int.reduceLT, Int.reduceLE, Int.reduceEq, Int.reduceBNe, Int.reduceBEq, Int.reduceAdd, Int.reduceSub, Int.reduceMul, Int.reduceNeg, ↓reduceIte, bne, he, hw]
      refine RoundK.step () hi ?_ ?_
      · intro j hj
        rcases Nat.lt_or_ge j i with h | h
        · exact hI j h
        · obtain rfl : j = i := by omega
          simpa using he
      · simp only [go_sem, Nat.reduceAdd, Nat.reduceSub, Nat.reduceMul, Nat.reducePow, Nat.reduceEqDiff, Nat.reduceLT, Nat.reduceLeDiff, Nat.reduceBEq, Nat.reduceBNe, Int.reduceToNat, Int.reduceLT, Int.reduceLE, Int.reduceEq, Int.reduceBNe, Int.reduceBEq, Int.reduceAdd, Int.reduceSub, Int.reduceMul, Int.reduceNeg, ↓reduceIte]
  · intro _ hdx hI
    have hdx : decide ((6 : Int) < 6) = false := hdx
    have e : decide (a = b) = decide (a.no = b.no ∧ a.cur = b.cur ∧ a.mult = b.mult ∧ a.add = b.add ∧ a.set = b.set ∧ a.price = b.price) := by
      rw [Bool.eq_iff_iff, decide_eq_true_iff, decide_eq_true_iff, inst_ext]
      exact ⟨fun h => h.2, fun h => ⟨hI, h⟩⟩
    rw [e]
    clear e hI
    simp only [go_sem, Nat.reduceAdd, Nat.reduceSub, Nat.reduceMul, Nat.reducePow, Nat.reduceEqDiff, Nat.reduceLT, Nat.reduceLeDiff, Nat.reduceBEq, Nat.reduceBNe, Int.reduceToNat, Int.reduceLT, Int.reduceLE, Int.reduceEq, Int.reduceBNe, Int.reduceBEq, Int.reduceAdd, Int.reduceSub, Int.reduceMul, Int.reduceNeg, ↓reduceIte, hdx]
    repeat' (with_reducible first
        | refine And.intro ?_ ?_
        | exact DrawN.mk (by kernel_rfl)
        | exact OkN.mk (by kernel_rfl)
        | refine CallN.pure (by assumption) ?_
        | refine GuardK.splitDN (fun h => ?_) (fun h => ?_)
        | refine GuardK.splitD (fun h => ?_) (fun h => ?_)
        | refine CondE.splitDN (fun h => ?_) (fun h => ?_)
        | refine CondE.splitD (fun h => ?_) (fun h => ?_)
        | refine GuardK.splitN (fun h => ?_) (fun h => ?_)
        | refine GuardK.split (fun h => ?_) (fun h => ?_)
        | refine CondE.splitN (fun h => ?_) (fun h => ?_)
        | refine CondE.split (fun h => ?_) (fun h => ?_)
        | refine WeakK.id ?_
        | refine RoundK.next (by omega) ?_ ?_
        | exact trivial
        | simp only [*, go_sem, Nat.reduceAdd, Nat.reduceSub, Nat.reduceMul, Nat.reducePow, Nat.reduceEqDiff, Nat.reduceLT, Nat.reduceLeDiff, Nat.reduceBEq, Nat.reduceBNe, Int.reduceToNat, Int.reduceLT, Int.reduceLE, Int.reduceEq, Int.reduceBNe, Int.reduceBEq, Int.reduceAdd, Int.reduceSub, Int.reduceMul, Int.reduceNeg, ↓reduceIte])
    all_goals (rw [Bool.eq_iff_iff]; simp_all)
def FallV.ch (x : FallV) : Nat → Int
  | 0 => x.c0 | 1 => x.c1 | 2 => x.c2 | 3 => x.c3 | _ => x.c4
theorem fall_ext {a b : FallV} : a = b ↔ (∀ j < 5, a.ch j = b.ch j) ∧ a.cur = b.cur ∧ a.loss = b.loss ∧ a.rest = b.rest := by
  constructor
  · rintro rfl; simp
  · rintro ⟨h, h1, h2, h3⟩
    have s0 := h 0 (by omega)
    have s1 := h 1 (by omega)
    have s2 := h 2 (by omega)
    have s3 := h 3 (by omega)
    have s4 := h 4 (by omega)
    cases a; cases b
    simp only [FallV.ch] at s0 s1 s2 s3 s4
    simp_all
theorem fall_ch (x : FallV) {i : Nat} (h : i < 5) : (List.drop (2 + i * 1) x.cells).headD .undef = .int .i64 (x.ch i) := by
  rcases i with _ | _ | _ | _ | _ | i <;> first | rfl | omega
theorem keepFall_spec (a b : FallV) : Abs.Spec Tryz.prog 185 [] [.agg a.cells, .agg b.cells] [] (.bool (decide (a = b))) := by
  simp only [FallV.cells]
  refine Abs.Spec.go (n := 38) (np := 2) (rs := [.tmp 4]) mixed Tryz.func185 rfl rfl rfl rfl rfl (by simp) (by simp) ?_
  simp only [go_sem, Nat.reduceAdd, Nat.reduceSub, Nat.reduceMul, Nat.reducePow, Nat.reduceEqDiff, Nat.reduceLT, Nat.reduceLeDiff, Nat.reduceBEq, Nat.reduceBNe, Int.reduceToNat, Int.reduceLT, Int.reduceLE, Int.reduceEq, Int.reduceBNe, Int.reduceBEq, Int.reduceAdd, Int.reduceSub, Int.reduceMul, Int.reduceNeg, ↓reduceIte]
  refine LoopK.walk (S := Unit) 5 [2, 3] [48, 64] (fun i _ => [(5, .int .i64 i)]) (fun i _ => []) (fun i _ => ∀ j < i, a.ch j = b.ch j) () (by simp only [go_sem, Nat.reduceAdd, Nat.reduceSub, Nat.reduceMul, Nat.reducePow, Nat.reduceEqDiff, Nat.reduceLT, Nat.reduceLeDiff, Nat.reduceBEq, Nat.reduceBNe, Int.reduceToNat, Int.reduceLT, Int.reduceLE, Int.reduceEq, Int.reduceBNe, Int.reduceBEq, Int.reduceAdd, Int.reduceSub, Int.reduceMul, Int.reduceNeg, ↓reduceIte] <;> exact rfl) (by simp only [go_sem, Nat.reduceAdd, Nat.reduceSub, Nat.reduceMul, Nat.reducePow, Nat.reduceEqDiff, Nat.reduceLT, Nat.reduceLeDiff, Nat.reduceBEq, Nat.reduceBNe, Int.reduceToNat, Int.reduceLT, Int.reduceLE, Int.reduceEq, Int.reduceBNe, Int.reduceBEq, Int.reduceAdd, Int.reduceSub, Int.reduceMul, Int.reduceNeg, ↓reduceIte] <;> exact rfl) (by intros; omega) ?_ ?_ ?_
  · simp only [go_sem, Nat.reduceAdd, Nat.reduceSub, Nat.reduceMul, Nat.reducePow, Nat.reduceEqDiff, Nat.reduceLT, Nat.reduceLeDiff, Nat.reduceBEq, Nat.reduceBNe, Int.reduceToNat, Int.reduceLT, Int.reduceLE, Int.reduceEq, Int.reduceBNe, Int.reduceBEq, Int.reduceAdd, Int.reduceSub, Int.reduceMul, Int.reduceNeg, ↓reduceIte] <;> simp
  · intro i _ hi hdi hw hI
    have hdi : decide ((i : Int) < 5) = true := hdi
    have ha := fall_ch a hi
    have hb := fall_ch b hi
    simp only [FallV.cells] at ha hb
    simp only [go_sem, Nat.reduceAdd, Nat.reduceSub, Nat.reduceMul, Nat.reducePow, Nat.reduceEqDiff, Nat.reduceLT, Nat.reduceLeDiff, Nat.reduceBEq, Nat.reduceBNe, Int.reduceToNat, Int.reduceLT, Int.reduceLE, Int.reduceEq, Int.reduceBNe, Int.reduceBEq, Int.reduceAdd, Int.reduceSub, Int.reduceMul, Int.reduceNeg, ↓reduceIte, hdi, ha, hb]
    (repeat' (with_reducible first | refine And.intro ?_ ?_ | exact DrawN.mk (by kernel_rfl) | exact OkN.mk (by kernel_rfl))) <;> try omega
    cases he : a.ch i == b.ch i
    · have hn : decide (a = b) = false := decide_eq_false fun h => by rw [h] at he; simp at he
      simp only [go_sem, Nat.reduceAdd, Nat.reduceSub, Nat.reduceMul, Nat.reducePow, Nat.reduceEqDiff, Nat.reduceLT, Nat.reduceLeDiff, Nat.reduceBEq, Nat.reduceBNe, Int.reduceToNat, Int.reduceLT, Int.reduceLE, Int.reduceEq, Int.reduceBNe, Int.reduceBEq, Int.reduceAdd, Int.reduceSub, Int.reduceMul, Int.reduceNeg, ↓reduceIte, bne, he, hn]
    · simp only [go_sem, Nat.reduceAdd, Nat.reduceSub, Nat.reduceMul, Nat.reducePow, Nat.reduceEqDiff, Nat.reduceLT, Nat.reduceLeDiff, Nat.reduceBEq, Nat.reduceBNe, Int.reduceToNat, Int.reduceLT, Int.reduceLE, Int.reduceEq, Int.reduceBNe, Int.reduceBEq, Int.reduceAdd, Int.reduceSub, Int.reduceMul, Int.reduceNeg, ↓reduceIte, bne, he, hw]
      refine RoundK.step () hi ?_ ?_
      · intro j hj
        rcases Nat.lt_or_ge j i with h | h
        · exact hI j h
        · obtain rfl : j = i := by omega
          simpa using he
      · simp only [go_sem, Nat.reduceAdd, Nat.reduceSub, Nat.reduceMul, Nat.reducePow, Nat.reduceEqDiff, Nat.reduceLT, Nat.reduceLeDiff, Nat.reduceBEq, Nat.reduceBNe, Int.reduceToNat, Int.reduceLT, Int.reduceLE, Int.reduceEq, Int.reduceBNe, Int.reduceBEq, Int.reduceAdd, Int.reduceSub, Int.reduceMul, Int.reduceNeg, ↓reduceIte]
  · intro _ hdx hI
    have hdx : decide ((5 : Int) < 5) = false := hdx
    have e : decide (a = b) = decide (a.cur = b.cur ∧ a.loss = b.loss ∧ a.rest = b.rest) := by
      rw [Bool.eq_iff_iff, decide_eq_true_iff, decide_eq_true_iff, fall_ext]
      exact ⟨fun h => h.2, fun h => ⟨hI, h⟩⟩
    rw [e]
    clear e hI
    simp only [go_sem, Nat.reduceAdd, Nat.reduceSub, Nat.reduceMul, Nat.reducePow, Nat.reduceEqDiff, Nat.reduceLT, Nat.reduceLeDiff, Nat.reduceBEq, Nat.reduceBNe, Int.reduceToNat, Int.reduceLT, Int.reduceLE, Int.reduceEq, Int.reduceBNe, Int.reduceBEq, Int.reduceAdd, Int.reduceSub, Int.reduceMul, Int.reduceNeg, ↓reduceIte, hdx]
    repeat' (with_reducible first
        | refine And.intro ?_ ?_
        | exact DrawN.mk (by kernel_rfl)
        | exact OkN.mk (by kernel_rfl)
        | refine CallN.pure (by assumption) ?_
        | refine GuardK.splitDN (fun h => ?_) (fun h => ?_)
        | refine GuardK.splitD (fun h => ?_) (fun h => ?_)
        | refine CondE.splitDN (fun h => ?_) (fun h => ?_)
        | refine CondE.splitD (fun h => ?_) (fun h => ?_)
        | refine GuardK.splitN (fun h => ?_) (fun h => ?_)
        | refine GuardK.split (fun h => ?_) (fun h => ?_)
        | refine CondE.splitN (fun h => ?_) (fun h => ?_)
        | refine CondE.split (fun h => ?_) (fun h => ?_)
        | refine WeakK.id ?_
        | refine RoundK.next (by omega) ?_ ?_
        | exact trivial
        | simp only [*, go_sem, Nat.reduceAdd, Nat.reduceSub, Nat.reduceMul, Nat.reducePow, Nat.reduceEqDiff, Nat.reduceLT, Nat.reduceLeDiff, Nat.reduceBEq, Nat.reduceBNe, Int.reduceToNat, Int.reduceLT, Int.reduceLE, Int.reduceEq, Int.reduceBNe, Int.reduceBEq, Int.reduceAdd, Int.reduceSub, Int.reduceMul, Int.reduceNeg, ↓reduceIte])
    all_goals (rw [Bool.eq_iff_iff]; simp_all)
set_option maxRecDepth 8000 in
theorem keepMembers_spec (xs ys : List MemberV) (hl : xs.length < 4611686018427387904) : Abs.Spec Tryz.prog 84 [] [.sl 3 (xs.map MemberV.cells), .sl 3 (ys.map MemberV.cells)] [] (.bool (decide (xs = ys))) := by
  refine Abs.Spec.go (n := 54) (np := 2) (rs := [.tmp 4]) mixed Tryz.func84 rfl rfl rfl rfl rfl (by simp) (by simp) ?_
  simp only [go_sem, Nat.reduceAdd, Nat.reduceSub, Nat.reduceMul, Nat.reducePow, Nat.reduceEqDiff, Nat.reduceLT, Nat.reduceLeDiff, Nat.reduceBEq, Nat.reduceBNe, Int.reduceToNat, Int.reduceLT, Int.reduceLE, Int.reduceEq, Int.reduceBNe, Int.reduceBEq, Int.reduceAdd, Int.reduceSub, Int.reduceMul, Int.reduceNeg, ↓reduceIte, List.length_map]
  by_cases hlen : xs.length = ys.length
  case neg =>
    have b : ((xs.length : Int) == (ys.length : Int)) = false := by rw [beq_eq_false_iff_ne]; omega
    have e : decide (xs = ys) = false := decide_eq_false fun h => hlen (by rw [h])
    simp only [go_sem, Nat.reduceAdd, Nat.reduceSub, Nat.reduceMul, Nat.reducePow, Nat.reduceEqDiff, Nat.reduceLT, Nat.reduceLeDiff, Nat.reduceBEq, Nat.reduceBNe, Int.reduceToNat, Int.reduceLT, Int.reduceLE, Int.reduceEq, Int.reduceBNe, Int.reduceBEq, Int.reduceAdd, Int.reduceSub, Int.reduceMul, Int.reduceNeg, ↓reduceIte, bne, b, e]
  have b : ((xs.length : Int) == (ys.length : Int)) = true := by rw [beq_iff_eq]; omega
  simp only [go_sem, Nat.reduceAdd, Nat.reduceSub, Nat.reduceMul, Nat.reducePow, Nat.reduceEqDiff, Nat.reduceLT, Nat.reduceLeDiff, Nat.reduceBEq, Nat.reduceBNe, Int.reduceToNat, Int.reduceLT, Int.reduceLE, Int.reduceEq, Int.reduceBNe, Int.reduceBEq, Int.reduceAdd, Int.reduceSub, Int.reduceMul, Int.reduceNeg, ↓reduceIte, bne, b, List.length_map]
  refine LoopK.walk (S := Unit) xs.length [0, 1] [] (fun i _ => [(5, .int .i64 i)]) (fun i _ => []) (fun i _ => ∀ j (h1 : j < xs.length) (h2 : j < ys.length), j < i → xs[j] = ys[j]) () (by simp only [go_sem, Nat.reduceAdd, Nat.reduceSub, Nat.reduceMul, Nat.reducePow, Nat.reduceEqDiff, Nat.reduceLT, Nat.reduceLeDiff, Nat.reduceBEq, Nat.reduceBNe, Int.reduceToNat, Int.reduceLT, Int.reduceLE, Int.reduceEq, Int.reduceBNe, Int.reduceBEq, Int.reduceAdd, Int.reduceSub, Int.reduceMul, Int.reduceNeg, ↓reduceIte] <;> exact rfl) (by simp only [go_sem, Nat.reduceAdd, Nat.reduceSub, Nat.reduceMul, Nat.reducePow, Nat.reduceEqDiff, Nat.reduceLT, Nat.reduceLeDiff, Nat.reduceBEq, Nat.reduceBNe, Int.reduceToNat, Int.reduceLT, Int.reduceLE, Int.reduceEq, Int.reduceBNe, Int.reduceBEq, Int.reduceAdd, Int.reduceSub, Int.reduceMul, Int.reduceNeg, ↓reduceIte] <;> exact rfl) (by intros; omega) ?_ ?_ ?_
  · simp only [go_sem, Nat.reduceAdd, Nat.reduceSub, Nat.reduceMul, Nat.reducePow, Nat.reduceEqDiff, Nat.reduceLT, Nat.reduceLeDiff, Nat.reduceBEq, Nat.reduceBNe, Int.reduceToNat, Int.reduceLT, Int.reduceLE, Int.reduceEq, Int.reduceBNe, Int.reduceBEq, Int.reduceAdd, Int.reduceSub, Int.reduceMul, Int.reduceNeg, ↓reduceIte] <;> simp
  · intro i _ hi hdi hw hI
    have hi2 : i < ys.length := by omega
    have hm := map_at (c := MemberV.cells) xs hi
    have hm2 := map_at (c := MemberV.cells) ys hi2
    have e0 := eq_next hI hi hi2
    have e1 : xs[i] ≠ ys[i] → decide (xs = ys) = false := fun h => decide_eq_false fun e => h (by subst e; rfl)
    have hl1 : (i : Int) < (xs.length : Int) := by omega
    have hl2 : (i : Int) < (ys.length : Int) := by omega
    obtain ⟨x, hx⟩ : ∃ x, x = xs[i] := ⟨_, rfl⟩
    obtain ⟨y, hy⟩ : ∃ y, y = ys[i] := ⟨_, rfl⟩
    rw [← hx] at hm e0 e1
    rw [← hy] at hm2 e0 e1
    simp only [MemberV.cells] at *
    clear hx hy hI hlen
    simp only [go_sem, Nat.reduceAdd, Nat.reduceSub, Nat.reduceMul, Nat.reducePow, Nat.reduceEqDiff, Nat.reduceLT, Nat.reduceLeDiff, Nat.reduceBEq, Nat.reduceBNe, Int.reduceToNat, Int.reduceLT, Int.reduceLE, Int.reduceEq, Int.reduceBNe, Int.reduceBEq, Int.reduceAdd, Int.reduceSub, Int.reduceMul, Int.reduceNeg, ↓reduceIte, List.length_map, hdi, hm, hm2]
    repeat' (with_reducible first
        | refine And.intro ?_ ?_
        | exact DrawN.mk (by kernel_rfl)
        | exact OkN.mk (by kernel_rfl)
        | refine CallN.pure (by assumption) ?_
        | refine GuardK.splitDN (fun h => ?_) (fun h => ?_)
        | refine GuardK.splitD (fun h => ?_) (fun h => ?_)
        | refine CondE.splitDN (fun h => ?_) (fun h => ?_)
        | refine CondE.splitD (fun h => ?_) (fun h => ?_)
        | refine GuardK.splitN (fun h => ?_) (fun h => ?_)
        | refine GuardK.split (fun h => ?_) (fun h => ?_)
        | refine CondE.splitN (fun h => ?_) (fun h => ?_)
        | refine CondE.split (fun h => ?_) (fun h => ?_)
        | refine WeakK.id ?_
        | refine RoundK.next (by omega) ?_ ?_
        | exact trivial
        | simp only [*, go_sem, Nat.reduceAdd, Nat.reduceSub, Nat.reduceMul, Nat.reducePow, Nat.reduceEqDiff, Nat.reduceLT, Nat.reduceLeDiff, Nat.reduceBEq, Nat.reduceBNe, Int.reduceToNat, Int.reduceLT, Int.reduceLE, Int.reduceEq, Int.reduceBNe, Int.reduceBEq, Int.reduceAdd, Int.reduceSub, Int.reduceMul, Int.reduceNeg, ↓reduceIte, hm, hm2, List.length_map])
    all_goals first
      | omega
      | (refine RoundK.step () hi (e0 ?_) ?_
         · clear e0 e1; cases x; cases y; simp_all; done
         · simp only [go_sem, Nat.reduceAdd, Nat.reduceSub, Nat.reduceMul, Nat.reducePow, Nat.reduceEqDiff, Nat.reduceLT, Nat.reduceLeDiff, Nat.reduceBEq, Nat.reduceBNe, Int.reduceToNat, Int.reduceLT, Int.reduceLE, Int.reduceEq, Int.reduceBNe, Int.reduceBEq, Int.reduceAdd, Int.reduceSub, Int.reduceMul, Int.reduceNeg, ↓reduceIte])
      | (rw [e1 ?_]; clear e0 e1; cases x; cases y; simp_all; done)
  · intro _ hdx hI
    have e : decide (xs = ys) = true := decide_eq_true (ext_list hlen hI)
    simp only [go_sem, Nat.reduceAdd, Nat.reduceSub, Nat.reduceMul, Nat.reducePow, Nat.reduceEqDiff, Nat.reduceLT, Nat.reduceLeDiff, Nat.reduceBEq, Nat.reduceBNe, Int.reduceToNat, Int.reduceLT, Int.reduceLE, Int.reduceEq, Int.reduceBNe, Int.reduceBEq, Int.reduceAdd, Int.reduceSub, Int.reduceMul, Int.reduceNeg, ↓reduceIte, List.length_map, hdx, e]
set_option maxRecDepth 8000 in
theorem keepInsts_spec (xs ys : List InstV) (hl : xs.length < 4611686018427387904) : Abs.Spec Tryz.prog 85 [] [.sl 12 (xs.map InstV.cells), .sl 12 (ys.map InstV.cells)] [] (.bool (decide (xs = ys))) := by
  refine Abs.Spec.go (n := 27) (np := 2) (rs := [.tmp 4]) mixed Tryz.func85 rfl rfl rfl rfl rfl (by simp) (by simp) ?_
  simp only [go_sem, Nat.reduceAdd, Nat.reduceSub, Nat.reduceMul, Nat.reducePow, Nat.reduceEqDiff, Nat.reduceLT, Nat.reduceLeDiff, Nat.reduceBEq, Nat.reduceBNe, Int.reduceToNat, Int.reduceLT, Int.reduceLE, Int.reduceEq, Int.reduceBNe, Int.reduceBEq, Int.reduceAdd, Int.reduceSub, Int.reduceMul, Int.reduceNeg, ↓reduceIte, List.length_map]
  by_cases hlen : xs.length = ys.length
  case neg =>
    have b : ((xs.length : Int) == (ys.length : Int)) = false := by rw [beq_eq_false_iff_ne]; omega
    have e : decide (xs = ys) = false := decide_eq_false fun h => hlen (by rw [h])
    simp only [go_sem, Nat.reduceAdd, Nat.reduceSub, Nat.reduceMul, Nat.reducePow, Nat.reduceEqDiff, Nat.reduceLT, Nat.reduceLeDiff, Nat.reduceBEq, Nat.reduceBNe, Int.reduceToNat, Int.reduceLT, Int.reduceLE, Int.reduceEq, Int.reduceBNe, Int.reduceBEq, Int.reduceAdd, Int.reduceSub, Int.reduceMul, Int.reduceNeg, ↓reduceIte, bne, b, e]
  have b : ((xs.length : Int) == (ys.length : Int)) = true := by rw [beq_iff_eq]; omega
  simp only [go_sem, Nat.reduceAdd, Nat.reduceSub, Nat.reduceMul, Nat.reducePow, Nat.reduceEqDiff, Nat.reduceLT, Nat.reduceLeDiff, Nat.reduceBEq, Nat.reduceBNe, Int.reduceToNat, Int.reduceLT, Int.reduceLE, Int.reduceEq, Int.reduceBNe, Int.reduceBEq, Int.reduceAdd, Int.reduceSub, Int.reduceMul, Int.reduceNeg, ↓reduceIte, bne, b, List.length_map]
  refine LoopK.walk (S := Unit) xs.length [0, 1] [] (fun i _ => [(5, .int .i64 i)]) (fun i _ => []) (fun i _ => ∀ j (h1 : j < xs.length) (h2 : j < ys.length), j < i → xs[j] = ys[j]) () (by simp only [go_sem, Nat.reduceAdd, Nat.reduceSub, Nat.reduceMul, Nat.reducePow, Nat.reduceEqDiff, Nat.reduceLT, Nat.reduceLeDiff, Nat.reduceBEq, Nat.reduceBNe, Int.reduceToNat, Int.reduceLT, Int.reduceLE, Int.reduceEq, Int.reduceBNe, Int.reduceBEq, Int.reduceAdd, Int.reduceSub, Int.reduceMul, Int.reduceNeg, ↓reduceIte] <;> exact rfl) (by simp only [go_sem, Nat.reduceAdd, Nat.reduceSub, Nat.reduceMul, Nat.reducePow, Nat.reduceEqDiff, Nat.reduceLT, Nat.reduceLeDiff, Nat.reduceBEq, Nat.reduceBNe, Int.reduceToNat, Int.reduceLT, Int.reduceLE, Int.reduceEq, Int.reduceBNe, Int.reduceBEq, Int.reduceAdd, Int.reduceSub, Int.reduceMul, Int.reduceNeg, ↓reduceIte] <;> exact rfl) (by intros; omega) ?_ ?_ ?_
  · simp only [go_sem, Nat.reduceAdd, Nat.reduceSub, Nat.reduceMul, Nat.reducePow, Nat.reduceEqDiff, Nat.reduceLT, Nat.reduceLeDiff, Nat.reduceBEq, Nat.reduceBNe, Int.reduceToNat, Int.reduceLT, Int.reduceLE, Int.reduceEq, Int.reduceBNe, Int.reduceBEq, Int.reduceAdd, Int.reduceSub, Int.reduceMul, Int.reduceNeg, ↓reduceIte] <;> simp
  · intro i _ hi hdi hw hI
    have hi2 : i < ys.length := by omega
    have hm := map_at (c := InstV.cells) xs hi
    have hm2 := map_at (c := InstV.cells) ys hi2
    have e0 := eq_next hI hi hi2
    have e1 : xs[i] ≠ ys[i] → decide (xs = ys) = false := fun h => decide_eq_false fun e => h (by subst e; rfl)
    have hl1 : (i : Int) < (xs.length : Int) := by omega
    have hl2 : (i : Int) < (ys.length : Int) := by omega
    obtain ⟨x, hx⟩ : ∃ x, x = xs[i] := ⟨_, rfl⟩
    obtain ⟨y, hy⟩ : ∃ y, y = ys[i] := ⟨_, rfl⟩
    rw [← hx] at hm e0 e1
    rw [← hy] at hm2 e0 e1
    have hc := keepInst_spec x y
    simp only [InstV.cells] at *
    clear hx hy hI hlen
    simp only [go_sem, Nat.reduceAdd, Nat.reduceSub, Nat.reduceMul, Nat.reducePow, Nat.reduceEqDiff, Nat.reduceLT, Nat.reduceLeDiff, Nat.reduceBEq, Nat.reduceBNe, Int.reduceToNat, Int.reduceLT, Int.reduceLE, Int.reduceEq, Int.reduceBNe, Int.reduceBEq, Int.reduceAdd, Int.reduceSub, Int.reduceMul, Int.reduceNeg, ↓reduceIte, List.length_map, hdi, hm, hm2]
    repeat' (with_reducible first
        | refine And.intro ?_ ?_
        | exact DrawN.mk (by kernel_rfl)
        | exact OkN.mk (by kernel_rfl)
        | refine CallN.pure (by assumption) ?_
        | refine CallN.pure (hc) ?_
        | refine GuardK.splitDN (fun h => ?_) (fun h => ?_)
        | refine GuardK.splitD (fun h => ?_) (fun h => ?_)
        | refine CondE.splitDN (fun h => ?_) (fun h => ?_)
        | refine CondE.splitD (fun h => ?_) (fun h => ?_)
        | refine GuardK.splitN (fun h => ?_) (fun h => ?_)
        | refine GuardK.split (fun h => ?_) (fun h => ?_)
        | refine CondE.splitN (fun h => ?_) (fun h => ?_)
        | refine CondE.split (fun h => ?_) (fun h => ?_)
        | refine WeakK.id ?_
        | refine RoundK.next (by omega) ?_ ?_
        | exact trivial
        | simp only [*, go_sem, Nat.reduceAdd, Nat.reduceSub, Nat.reduceMul, Nat.reducePow, Nat.reduceEqDiff, Nat.reduceLT, Nat.reduceLeDiff, Nat.reduceBEq, Nat.reduceBNe, Int.reduceToNat, Int.reduceLT, Int.reduceLE, Int.reduceEq, Int.reduceBNe, Int.reduceBEq, Int.reduceAdd, Int.reduceSub, Int.reduceMul, Int.reduceNeg, ↓reduceIte, hm, hm2, List.length_map])
    all_goals first
      | omega
      | (refine RoundK.step () hi (e0 ?_) ?_
         · clear e0 e1; cases x; cases y; simp_all; done
         · simp only [go_sem, Nat.reduceAdd, Nat.reduceSub, Nat.reduceMul, Nat.reducePow, Nat.reduceEqDiff, Nat.reduceLT, Nat.reduceLeDiff, Nat.reduceBEq, Nat.reduceBNe, Int.reduceToNat, Int.reduceLT, Int.reduceLE, Int.reduceEq, Int.reduceBNe, Int.reduceBEq, Int.reduceAdd, Int.reduceSub, Int.reduceMul, Int.reduceNeg, ↓reduceIte])
      | (rw [e1 ?_]; clear e0 e1; cases x; cases y; simp_all; done)
  · intro _ hdx hI
    have e : decide (xs = ys) = true := decide_eq_true (ext_list hlen hI)
    simp only [go_sem, Nat.reduceAdd, Nat.reduceSub, Nat.reduceMul, Nat.reducePow, Nat.reduceEqDiff, Nat.reduceLT, Nat.reduceLeDiff, Nat.reduceBEq, Nat.reduceBNe, Int.reduceToNat, Int.reduceLT, Int.reduceLE, Int.reduceEq, Int.reduceBNe, Int.reduceBEq, Int.reduceAdd, Int.reduceSub, Int.reduceMul, Int.reduceNeg, ↓reduceIte, List.length_map, hdx, e]
set_option maxRecDepth 8000 in
theorem keepAssets_spec (xs ys : List AssetV) (hl : xs.length < 4611686018427387904) : Abs.Spec Tryz.prog 86 [] [.sl 4 (xs.map AssetV.cells), .sl 4 (ys.map AssetV.cells)] [] (.bool (decide (xs = ys))) := by
  refine Abs.Spec.go (n := 27) (np := 2) (rs := [.tmp 4]) mixed Tryz.func86 rfl rfl rfl rfl rfl (by simp) (by simp) ?_
  simp only [go_sem, Nat.reduceAdd, Nat.reduceSub, Nat.reduceMul, Nat.reducePow, Nat.reduceEqDiff, Nat.reduceLT, Nat.reduceLeDiff, Nat.reduceBEq, Nat.reduceBNe, Int.reduceToNat, Int.reduceLT, Int.reduceLE, Int.reduceEq, Int.reduceBNe, Int.reduceBEq, Int.reduceAdd, Int.reduceSub, Int.reduceMul, Int.reduceNeg, ↓reduceIte, List.length_map]
  by_cases hlen : xs.length = ys.length
  case neg =>
    have b : ((xs.length : Int) == (ys.length : Int)) = false := by rw [beq_eq_false_iff_ne]; omega
    have e : decide (xs = ys) = false := decide_eq_false fun h => hlen (by rw [h])
    simp only [go_sem, Nat.reduceAdd, Nat.reduceSub, Nat.reduceMul, Nat.reducePow, Nat.reduceEqDiff, Nat.reduceLT, Nat.reduceLeDiff, Nat.reduceBEq, Nat.reduceBNe, Int.reduceToNat, Int.reduceLT, Int.reduceLE, Int.reduceEq, Int.reduceBNe, Int.reduceBEq, Int.reduceAdd, Int.reduceSub, Int.reduceMul, Int.reduceNeg, ↓reduceIte, bne, b, e]
  have b : ((xs.length : Int) == (ys.length : Int)) = true := by rw [beq_iff_eq]; omega
  simp only [go_sem, Nat.reduceAdd, Nat.reduceSub, Nat.reduceMul, Nat.reducePow, Nat.reduceEqDiff, Nat.reduceLT, Nat.reduceLeDiff, Nat.reduceBEq, Nat.reduceBNe, Int.reduceToNat, Int.reduceLT, Int.reduceLE, Int.reduceEq, Int.reduceBNe, Int.reduceBEq, Int.reduceAdd, Int.reduceSub, Int.reduceMul, Int.reduceNeg, ↓reduceIte, bne, b, List.length_map]
  refine LoopK.walk (S := Unit) xs.length [0, 1] [] (fun i _ => [(5, .int .i64 i)]) (fun i _ => []) (fun i _ => ∀ j (h1 : j < xs.length) (h2 : j < ys.length), j < i → xs[j] = ys[j]) () (by simp only [go_sem, Nat.reduceAdd, Nat.reduceSub, Nat.reduceMul, Nat.reducePow, Nat.reduceEqDiff, Nat.reduceLT, Nat.reduceLeDiff, Nat.reduceBEq, Nat.reduceBNe, Int.reduceToNat, Int.reduceLT, Int.reduceLE, Int.reduceEq, Int.reduceBNe, Int.reduceBEq, Int.reduceAdd, Int.reduceSub, Int.reduceMul, Int.reduceNeg, ↓reduceIte] <;> exact rfl) (by simp only [go_sem, Nat.reduceAdd, Nat.reduceSub, Nat.reduceMul, Nat.reducePow, Nat.reduceEqDiff, Nat.reduceLT, Nat.reduceLeDiff, Nat.reduceBEq, Nat.reduceBNe, Int.reduceToNat, Int.reduceLT, Int.reduceLE, Int.reduceEq, Int.reduceBNe, Int.reduceBEq, Int.reduceAdd, Int.reduceSub, Int.reduceMul, Int.reduceNeg, ↓reduceIte] <;> exact rfl) (by intros; omega) ?_ ?_ ?_
  · simp only [go_sem, Nat.reduceAdd, Nat.reduceSub, Nat.reduceMul, Nat.reducePow, Nat.reduceEqDiff, Nat.reduceLT, Nat.reduceLeDiff, Nat.reduceBEq, Nat.reduceBNe, Int.reduceToNat, Int.reduceLT, Int.reduceLE, Int.reduceEq, Int.reduceBNe, Int.reduceBEq, Int.reduceAdd, Int.reduceSub, Int.reduceMul, Int.reduceNeg, ↓reduceIte] <;> simp
  · intro i _ hi hdi hw hI
    have hi2 : i < ys.length := by omega
    have hm := map_at (c := AssetV.cells) xs hi
    have hm2 := map_at (c := AssetV.cells) ys hi2
    have e0 := eq_next hI hi hi2
    have e1 : xs[i] ≠ ys[i] → decide (xs = ys) = false := fun h => decide_eq_false fun e => h (by subst e; rfl)
    have hl1 : (i : Int) < (xs.length : Int) := by omega
    have hl2 : (i : Int) < (ys.length : Int) := by omega
    obtain ⟨x, hx⟩ : ∃ x, x = xs[i] := ⟨_, rfl⟩
    obtain ⟨y, hy⟩ : ∃ y, y = ys[i] := ⟨_, rfl⟩
    rw [← hx] at hm e0 e1
    rw [← hy] at hm2 e0 e1
    have hc := keepAsset_spec x y
    simp only [AssetV.cells] at *
    clear hx hy hI hlen
    simp only [go_sem, Nat.reduceAdd, Nat.reduceSub, Nat.reduceMul, Nat.reducePow, Nat.reduceEqDiff, Nat.reduceLT, Nat.reduceLeDiff, Nat.reduceBEq, Nat.reduceBNe, Int.reduceToNat, Int.reduceLT, Int.reduceLE, Int.reduceEq, Int.reduceBNe, Int.reduceBEq, Int.reduceAdd, Int.reduceSub, Int.reduceMul, Int.reduceNeg, ↓reduceIte, List.length_map, hdi, hm, hm2]
    repeat' (with_reducible first
        | refine And.intro ?_ ?_
        | exact DrawN.mk (by kernel_rfl)
        | exact OkN.mk (by kernel_rfl)
        | refine CallN.pure (by assumption) ?_
        | refine CallN.pure (hc) ?_
        | refine GuardK.splitDN (fun h => ?_) (fun h => ?_)
        | refine GuardK.splitD (fun h => ?_) (fun h => ?_)
        | refine CondE.splitDN (fun h => ?_) (fun h => ?_)
        | refine CondE.splitD (fun h => ?_) (fun h => ?_)
        | refine GuardK.splitN (fun h => ?_) (fun h => ?_)
        | refine GuardK.split (fun h => ?_) (fun h => ?_)
        | refine CondE.splitN (fun h => ?_) (fun h => ?_)
        | refine CondE.split (fun h => ?_) (fun h => ?_)
        | refine WeakK.id ?_
        | refine RoundK.next (by omega) ?_ ?_
        | exact trivial
        | simp only [*, go_sem, Nat.reduceAdd, Nat.reduceSub, Nat.reduceMul, Nat.reducePow, Nat.reduceEqDiff, Nat.reduceLT, Nat.reduceLeDiff, Nat.reduceBEq, Nat.reduceBNe, Int.reduceToNat, Int.reduceLT, Int.reduceLE, Int.reduceEq, Int.reduceBNe, Int.reduceBEq, Int.reduceAdd, Int.reduceSub, Int.reduceMul, Int.reduceNeg, ↓reduceIte, hm, hm2, List.length_map])
    all_goals first
      | omega
      | (refine RoundK.step () hi (e0 ?_) ?_
         · clear e0 e1; cases x; cases y; simp_all; done
         · simp only [go_sem, Nat.reduceAdd, Nat.reduceSub, Nat.reduceMul, Nat.reducePow, Nat.reduceEqDiff, Nat.reduceLT, Nat.reduceLeDiff, Nat.reduceBEq, Nat.reduceBNe, Int.reduceToNat, Int.reduceLT, Int.reduceLE, Int.reduceEq, Int.reduceBNe, Int.reduceBEq, Int.reduceAdd, Int.reduceSub, Int.reduceMul, Int.reduceNeg, ↓reduceIte])
      | (rw [e1 ?_]; clear e0 e1; cases x; cases y; simp_all; done)
  · intro _ hdx hI
    have e : decide (xs = ys) = true := decide_eq_true (ext_list hlen hI)
    simp only [go_sem, Nat.reduceAdd, Nat.reduceSub, Nat.reduceMul, Nat.reducePow, Nat.reduceEqDiff, Nat.reduceLT, Nat.reduceLeDiff, Nat.reduceBEq, Nat.reduceBNe, Int.reduceToNat, Int.reduceLT, Int.reduceLE, Int.reduceEq, Int.reduceBNe, Int.reduceBEq, Int.reduceAdd, Int.reduceSub, Int.reduceMul, Int.reduceNeg, ↓reduceIte, List.length_map, hdx, e]
set_option maxRecDepth 8000 in
theorem keepTrades_spec (xs ys : List TradeV) (hl : xs.length < 4611686018427387904) : Abs.Spec Tryz.prog 87 [] [.sl 7 (xs.map TradeV.cells), .sl 7 (ys.map TradeV.cells)] [] (.bool (decide (xs = ys))) := by
  refine Abs.Spec.go (n := 74) (np := 2) (rs := [.tmp 4]) mixed Tryz.func87 rfl rfl rfl rfl rfl (by simp) (by simp) ?_
  simp only [go_sem, Nat.reduceAdd, Nat.reduceSub, Nat.reduceMul, Nat.reducePow, Nat.reduceEqDiff, Nat.reduceLT, Nat.reduceLeDiff, Nat.reduceBEq, Nat.reduceBNe, Int.reduceToNat, Int.reduceLT, Int.reduceLE, Int.reduceEq, Int.reduceBNe, Int.reduceBEq, Int.reduceAdd, Int.reduceSub, Int.reduceMul, Int.reduceNeg, ↓reduceIte, List.length_map]
  by_cases hlen : xs.length = ys.length
  case neg =>
    have b : ((xs.length : Int) == (ys.length : Int)) = false := by rw [beq_eq_false_iff_ne]; omega
    have e : decide (xs = ys) = false := decide_eq_false fun h => hlen (by rw [h])
    simp only [go_sem, Nat.reduceAdd, Nat.reduceSub, Nat.reduceMul, Nat.reducePow, Nat.reduceEqDiff, Nat.reduceLT, Nat.reduceLeDiff, Nat.reduceBEq, Nat.reduceBNe, Int.reduceToNat, Int.reduceLT, Int.reduceLE, Int.reduceEq, Int.reduceBNe, Int.reduceBEq, Int.reduceAdd, Int.reduceSub, Int.reduceMul, Int.reduceNeg, ↓reduceIte, bne, b, e]
  have b : ((xs.length : Int) == (ys.length : Int)) = true := by rw [beq_iff_eq]; omega
  simp only [go_sem, Nat.reduceAdd, Nat.reduceSub, Nat.reduceMul, Nat.reducePow, Nat.reduceEqDiff, Nat.reduceLT, Nat.reduceLeDiff, Nat.reduceBEq, Nat.reduceBNe, Int.reduceToNat, Int.reduceLT, Int.reduceLE, Int.reduceEq, Int.reduceBNe, Int.reduceBEq, Int.reduceAdd, Int.reduceSub, Int.reduceMul, Int.reduceNeg, ↓reduceIte, bne, b, List.length_map]
  refine LoopK.walk (S := Unit) xs.length [0, 1] [] (fun i _ => [(5, .int .i64 i)]) (fun i _ => []) (fun i _ => ∀ j (h1 : j < xs.length) (h2 : j < ys.length), j < i → xs[j] = ys[j]) () (by simp only [go_sem, Nat.reduceAdd, Nat.reduceSub, Nat.reduceMul, Nat.reducePow, Nat.reduceEqDiff, Nat.reduceLT, Nat.reduceLeDiff, Nat.reduceBEq, Nat.reduceBNe, Int.reduceToNat, Int.reduceLT, Int.reduceLE, Int.reduceEq, Int.reduceBNe, Int.reduceBEq, Int.reduceAdd, Int.reduceSub, Int.reduceMul, Int.reduceNeg, ↓reduceIte] <;> exact rfl) (by simp only [go_sem, Nat.reduceAdd, Nat.reduceSub, Nat.reduceMul, Nat.reducePow, Nat.reduceEqDiff, Nat.reduceLT, Nat.reduceLeDiff, Nat.reduceBEq, Nat.reduceBNe, Int.reduceToNat, Int.reduceLT, Int.reduceLE, Int.reduceEq, Int.reduceBNe, Int.reduceBEq, Int.reduceAdd, Int.reduceSub, Int.reduceMul, Int.reduceNeg, ↓reduceIte] <;> exact rfl) (by intros; omega) ?_ ?_ ?_
  · simp only [go_sem, Nat.reduceAdd, Nat.reduceSub, Nat.reduceMul, Nat.reducePow, Nat.reduceEqDiff, Nat.reduceLT, Nat.reduceLeDiff, Nat.reduceBEq, Nat.reduceBNe, Int.reduceToNat, Int.reduceLT, Int.reduceLE, Int.reduceEq, Int.reduceBNe, Int.reduceBEq, Int.reduceAdd, Int.reduceSub, Int.reduceMul, Int.reduceNeg, ↓reduceIte] <;> simp
  · intro i _ hi hdi hw hI
    have hi2 : i < ys.length := by omega
    have hm := map_at (c := TradeV.cells) xs hi
    have hm2 := map_at (c := TradeV.cells) ys hi2
    have e0 := eq_next hI hi hi2
    have e1 : xs[i] ≠ ys[i] → decide (xs = ys) = false := fun h => decide_eq_false fun e => h (by subst e; rfl)
    have hl1 : (i : Int) < (xs.length : Int) := by omega
    have hl2 : (i : Int) < (ys.length : Int) := by omega
    obtain ⟨x, hx⟩ : ∃ x, x = xs[i] := ⟨_, rfl⟩
    obtain ⟨y, hy⟩ : ∃ y, y = ys[i] := ⟨_, rfl⟩
    rw [← hx] at hm e0 e1
    rw [← hy] at hm2 e0 e1
    simp only [TradeV.cells] at *
    clear hx hy hI hlen
    simp only [go_sem, Nat.reduceAdd, Nat.reduceSub, Nat.reduceMul, Nat.reducePow, Nat.reduceEqDiff, Nat.reduceLT, Nat.reduceLeDiff, Nat.reduceBEq, Nat.reduceBNe, Int.reduceToNat, Int.reduceLT, Int.reduceLE, Int.reduceEq, Int.reduceBNe, Int.reduceBEq, Int.reduceAdd, Int.reduceSub, Int.reduceMul, Int.reduceNeg, ↓reduceIte, List.length_map, hdi, hm, hm2]
    repeat' (with_reducible first
        | refine And.intro ?_ ?_
        | exact DrawN.mk (by kernel_rfl)
        | exact OkN.mk (by kernel_rfl)
        | refine CallN.pure (by assumption) ?_
        | refine GuardK.splitDN (fun h => ?_) (fun h => ?_)
        | refine GuardK.splitD (fun h => ?_) (fun h => ?_)
        | refine CondE.splitDN (fun h => ?_) (fun h => ?_)
        | refine CondE.splitD (fun h => ?_) (fun h => ?_)
        | refine GuardK.splitN (fun h => ?_) (fun h => ?_)
        | refine GuardK.split (fun h => ?_) (fun h => ?_)
        | refine CondE.splitN (fun h => ?_) (fun h => ?_)
        | refine CondE.split (fun h => ?_) (fun h => ?_)
        | refine WeakK.id ?_
        | refine RoundK.next (by omega) ?_ ?_
        | exact trivial
        | simp only [*, go_sem, Nat.reduceAdd, Nat.reduceSub, Nat.reduceMul, Nat.reducePow, Nat.reduceEqDiff, Nat.reduceLT, Nat.reduceLeDiff, Nat.reduceBEq, Nat.reduceBNe, Int.reduceToNat, Int.reduceLT, Int.reduceLE, Int.reduceEq, Int.reduceBNe, Int.reduceBEq, Int.reduceAdd, Int.reduceSub, Int.reduceMul, Int.reduceNeg, ↓reduceIte, hm, hm2, List.length_map])
    all_goals first
      | omega
      | (refine RoundK.step () hi (e0 ?_) ?_
         · clear e0 e1; cases x; cases y; simp_all; done
         · simp only [go_sem, Nat.reduceAdd, Nat.reduceSub, Nat.reduceMul, Nat.reducePow, Nat.reduceEqDiff, Nat.reduceLT, Nat.reduceLeDiff, Nat.reduceBEq, Nat.reduceBNe, Int.reduceToNat, Int.reduceLT, Int.reduceLE, Int.reduceEq, Int.reduceBNe, Int.reduceBEq, Int.reduceAdd, Int.reduceSub, Int.reduceMul, Int.reduceNeg, ↓reduceIte])
      | (rw [e1 ?_]; clear e0 e1; cases x; cases y; simp_all; done)
  · intro _ hdx hI
    have e : decide (xs = ys) = true := decide_eq_true (ext_list hlen hI)
    simp only [go_sem, Nat.reduceAdd, Nat.reduceSub, Nat.reduceMul, Nat.reducePow, Nat.reduceEqDiff, Nat.reduceLT, Nat.reduceLeDiff, Nat.reduceBEq, Nat.reduceBNe, Int.reduceToNat, Int.reduceLT, Int.reduceLE, Int.reduceEq, Int.reduceBNe, Int.reduceBEq, Int.reduceAdd, Int.reduceSub, Int.reduceMul, Int.reduceNeg, ↓reduceIte, List.length_map, hdx, e]
set_option maxRecDepth 8000 in
theorem keepPoss_spec (xs ys : List PosV) (hl : xs.length < 4611686018427387904) : Abs.Spec Tryz.prog 88 [] [.sl 4 (xs.map PosV.cells), .sl 4 (ys.map PosV.cells)] [] (.bool (decide (xs = ys))) := by
  refine Abs.Spec.go (n := 27) (np := 2) (rs := [.tmp 4]) mixed Tryz.func88 rfl rfl rfl rfl rfl (by simp) (by simp) ?_
  simp only [go_sem, Nat.reduceAdd, Nat.reduceSub, Nat.reduceMul, Nat.reducePow, Nat.reduceEqDiff, Nat.reduceLT, Nat.reduceLeDiff, Nat.reduceBEq, Nat.reduceBNe, Int.reduceToNat, Int.reduceLT, Int.reduceLE, Int.reduceEq, Int.reduceBNe, Int.reduceBEq, Int.reduceAdd, Int.reduceSub, Int.reduceMul, Int.reduceNeg, ↓reduceIte, List.length_map]
  by_cases hlen : xs.length = ys.length
  case neg =>
    have b : ((xs.length : Int) == (ys.length : Int)) = false := by rw [beq_eq_false_iff_ne]; omega
    have e : decide (xs = ys) = false := decide_eq_false fun h => hlen (by rw [h])
    simp only [go_sem, Nat.reduceAdd, Nat.reduceSub, Nat.reduceMul, Nat.reducePow, Nat.reduceEqDiff, Nat.reduceLT, Nat.reduceLeDiff, Nat.reduceBEq, Nat.reduceBNe, Int.reduceToNat, Int.reduceLT, Int.reduceLE, Int.reduceEq, Int.reduceBNe, Int.reduceBEq, Int.reduceAdd, Int.reduceSub, Int.reduceMul, Int.reduceNeg, ↓reduceIte, bne, b, e]
  have b : ((xs.length : Int) == (ys.length : Int)) = true := by rw [beq_iff_eq]; omega
  simp only [go_sem, Nat.reduceAdd, Nat.reduceSub, Nat.reduceMul, Nat.reducePow, Nat.reduceEqDiff, Nat.reduceLT, Nat.reduceLeDiff, Nat.reduceBEq, Nat.reduceBNe, Int.reduceToNat, Int.reduceLT, Int.reduceLE, Int.reduceEq, Int.reduceBNe, Int.reduceBEq, Int.reduceAdd, Int.reduceSub, Int.reduceMul, Int.reduceNeg, ↓reduceIte, bne, b, List.length_map]
  refine LoopK.walk (S := Unit) xs.length [0, 1] [] (fun i _ => [(5, .int .i64 i)]) (fun i _ => []) (fun i _ => ∀ j (h1 : j < xs.length) (h2 : j < ys.length), j < i → xs[j] = ys[j]) () (by simp only [go_sem, Nat.reduceAdd, Nat.reduceSub, Nat.reduceMul, Nat.reducePow, Nat.reduceEqDiff, Nat.reduceLT, Nat.reduceLeDiff, Nat.reduceBEq, Nat.reduceBNe, Int.reduceToNat, Int.reduceLT, Int.reduceLE, Int.reduceEq, Int.reduceBNe, Int.reduceBEq, Int.reduceAdd, Int.reduceSub, Int.reduceMul, Int.reduceNeg, ↓reduceIte] <;> exact rfl) (by simp only [go_sem, Nat.reduceAdd, Nat.reduceSub, Nat.reduceMul, Nat.reducePow, Nat.reduceEqDiff, Nat.reduceLT, Nat.reduceLeDiff, Nat.reduceBEq, Nat.reduceBNe, Int.reduceToNat, Int.reduceLT, Int.reduceLE, Int.reduceEq, Int.reduceBNe, Int.reduceBEq, Int.reduceAdd, Int.reduceSub, Int.reduceMul, Int.reduceNeg, ↓reduceIte] <;> exact rfl) (by intros; omega) ?_ ?_ ?_
  · simp only [go_sem, Nat.reduceAdd, Nat.reduceSub, Nat.reduceMul, Nat.reducePow, Nat.reduceEqDiff, Nat.reduceLT, Nat.reduceLeDiff, Nat.reduceBEq, Nat.reduceBNe, Int.reduceToNat, Int.reduceLT, Int.reduceLE, Int.reduceEq, Int.reduceBNe, Int.reduceBEq, Int.reduceAdd, Int.reduceSub, Int.reduceMul, Int.reduceNeg, ↓reduceIte] <;> simp
  · intro i _ hi hdi hw hI
    have hi2 : i < ys.length := by omega
    have hm := map_at (c := PosV.cells) xs hi
    have hm2 := map_at (c := PosV.cells) ys hi2
    have e0 := eq_next hI hi hi2
    have e1 : xs[i] ≠ ys[i] → decide (xs = ys) = false := fun h => decide_eq_false fun e => h (by subst e; rfl)
    have hl1 : (i : Int) < (xs.length : Int) := by omega
    have hl2 : (i : Int) < (ys.length : Int) := by omega
    obtain ⟨x, hx⟩ : ∃ x, x = xs[i] := ⟨_, rfl⟩
    obtain ⟨y, hy⟩ : ∃ y, y = ys[i] := ⟨_, rfl⟩
    rw [← hx] at hm e0 e1
    rw [← hy] at hm2 e0 e1
    have hc := keepPos_spec x y
    simp only [PosV.cells] at *
    clear hx hy hI hlen
    simp only [go_sem, Nat.reduceAdd, Nat.reduceSub, Nat.reduceMul, Nat.reducePow, Nat.reduceEqDiff, Nat.reduceLT, Nat.reduceLeDiff, Nat.reduceBEq, Nat.reduceBNe, Int.reduceToNat, Int.reduceLT, Int.reduceLE, Int.reduceEq, Int.reduceBNe, Int.reduceBEq, Int.reduceAdd, Int.reduceSub, Int.reduceMul, Int.reduceNeg, ↓reduceIte, List.length_map, hdi, hm, hm2]
    repeat' (with_reducible first
        | refine And.intro ?_ ?_
        | exact DrawN.mk (by kernel_rfl)
        | exact OkN.mk (by kernel_rfl)
        | refine CallN.pure (by assumption) ?_
        | refine CallN.pure (hc) ?_
        | refine GuardK.splitDN (fun h => ?_) (fun h => ?_)
        | refine GuardK.splitD (fun h => ?_) (fun h => ?_)
        | refine CondE.splitDN (fun h => ?_) (fun h => ?_)
        | refine CondE.splitD (fun h => ?_) (fun h => ?_)
        | refine GuardK.splitN (fun h => ?_) (fun h => ?_)
        | refine GuardK.split (fun h => ?_) (fun h => ?_)
        | refine CondE.splitN (fun h => ?_) (fun h => ?_)
        | refine CondE.split (fun h => ?_) (fun h => ?_)
        | refine WeakK.id ?_
        | refine RoundK.next (by omega) ?_ ?_
        | exact trivial
        | simp only [*, go_sem, Nat.reduceAdd, Nat.reduceSub, Nat.reduceMul, Nat.reducePow, Nat.reduceEqDiff, Nat.reduceLT, Nat.reduceLeDiff, Nat.reduceBEq, Nat.reduceBNe, Int.reduceToNat, Int.reduceLT, Int.reduceLE, Int.reduceEq, Int.reduceBNe, Int.reduceBEq, Int.reduceAdd, Int.reduceSub, Int.reduceMul, Int.reduceNeg, ↓reduceIte, hm, hm2, List.length_map])
    all_goals first
      | omega
      | (refine RoundK.step () hi (e0 ?_) ?_
         · clear e0 e1; cases x; cases y; simp_all; done
         · simp only [go_sem, Nat.reduceAdd, Nat.reduceSub, Nat.reduceMul, Nat.reducePow, Nat.reduceEqDiff, Nat.reduceLT, Nat.reduceLeDiff, Nat.reduceBEq, Nat.reduceBNe, Int.reduceToNat, Int.reduceLT, Int.reduceLE, Int.reduceEq, Int.reduceBNe, Int.reduceBEq, Int.reduceAdd, Int.reduceSub, Int.reduceMul, Int.reduceNeg, ↓reduceIte])
      | (rw [e1 ?_]; clear e0 e1; cases x; cases y; simp_all; done)
  · intro _ hdx hI
    have e : decide (xs = ys) = true := decide_eq_true (ext_list hlen hI)
    simp only [go_sem, Nat.reduceAdd, Nat.reduceSub, Nat.reduceMul, Nat.reducePow, Nat.reduceEqDiff, Nat.reduceLT, Nat.reduceLeDiff, Nat.reduceBEq, Nat.reduceBNe, Int.reduceToNat, Int.reduceLT, Int.reduceLE, Int.reduceEq, Int.reduceBNe, Int.reduceBEq, Int.reduceAdd, Int.reduceSub, Int.reduceMul, Int.reduceNeg, ↓reduceIte, List.length_map, hdx, e]
set_option maxRecDepth 8000 in
theorem keepCalls_spec (xs ys : List CallV) (hl : xs.length < 4611686018427387904) : Abs.Spec Tryz.prog 58 [] [.sl 4 (xs.map CallV.cells), .sl 4 (ys.map CallV.cells)] [] (.bool (decide (xs = ys))) := by
  refine Abs.Spec.go (n := 42) (np := 2) (rs := [.tmp 4]) mixed Tryz.func58 rfl rfl rfl rfl rfl (by simp) (by simp) ?_
  simp only [go_sem, Nat.reduceAdd, Nat.reduceSub, Nat.reduceMul, Nat.reducePow, Nat.reduceEqDiff, Nat.reduceLT, Nat.reduceLeDiff, Nat.reduceBEq, Nat.reduceBNe, Int.reduceToNat, Int.reduceLT, Int.reduceLE, Int.reduceEq, Int.reduceBNe, Int.reduceBEq, Int.reduceAdd, Int.reduceSub, Int.reduceMul, Int.reduceNeg, ↓reduceIte, List.length_map]
  by_cases hlen : xs.length = ys.length
  case neg =>
    have b : ((xs.length : Int) == (ys.length : Int)) = false := by rw [beq_eq_false_iff_ne]; omega
    have e : decide (xs = ys) = false := decide_eq_false fun h => hlen (by rw [h])
    simp only [go_sem, Nat.reduceAdd, Nat.reduceSub, Nat.reduceMul, Nat.reducePow, Nat.reduceEqDiff, Nat.reduceLT, Nat.reduceLeDiff, Nat.reduceBEq, Nat.reduceBNe, Int.reduceToNat, Int.reduceLT, Int.reduceLE, Int.reduceEq, Int.reduceBNe, Int.reduceBEq, Int.reduceAdd, Int.reduceSub, Int.reduceMul, Int.reduceNeg, ↓reduceIte, bne, b, e]
  have b : ((xs.length : Int) == (ys.length : Int)) = true := by rw [beq_iff_eq]; omega
  simp only [go_sem, Nat.reduceAdd, Nat.reduceSub, Nat.reduceMul, Nat.reducePow, Nat.reduceEqDiff, Nat.reduceLT, Nat.reduceLeDiff, Nat.reduceBEq, Nat.reduceBNe, Int.reduceToNat, Int.reduceLT, Int.reduceLE, Int.reduceEq, Int.reduceBNe, Int.reduceBEq, Int.reduceAdd, Int.reduceSub, Int.reduceMul, Int.reduceNeg, ↓reduceIte, bne, b, List.length_map]
  refine LoopK.walk (S := Unit) xs.length [0, 1] [] (fun i _ => [(5, .int .i64 i)]) (fun i _ => []) (fun i _ => ∀ j (h1 : j < xs.length) (h2 : j < ys.length), j < i → xs[j] = ys[j]) () (by simp only [go_sem, Nat.reduceAdd, Nat.reduceSub, Nat.reduceMul, Nat.reducePow, Nat.reduceEqDiff, Nat.reduceLT, Nat.reduceLeDiff, Nat.reduceBEq, Nat.reduceBNe, Int.reduceToNat, Int.reduceLT, Int.reduceLE, Int.reduceEq, Int.reduceBNe, Int.reduceBEq, Int.reduceAdd, Int.reduceSub, Int.reduceMul, Int.reduceNeg, ↓reduceIte] <;> exact rfl) (by simp only [go_sem, Nat.reduceAdd, Nat.reduceSub, Nat.reduceMul, Nat.reducePow, Nat.reduceEqDiff, Nat.reduceLT, Nat.reduceLeDiff, Nat.reduceBEq, Nat.reduceBNe, Int.reduceToNat, Int.reduceLT, Int.reduceLE, Int.reduceEq, Int.reduceBNe, Int.reduceBEq, Int.reduceAdd, Int.reduceSub, Int.reduceMul, Int.reduceNeg, ↓reduceIte] <;> exact rfl) (by intros; omega) ?_ ?_ ?_
  · simp only [go_sem, Nat.reduceAdd, Nat.reduceSub, Nat.reduceMul, Nat.reducePow, Nat.reduceEqDiff, Nat.reduceLT, Nat.reduceLeDiff, Nat.reduceBEq, Nat.reduceBNe, Int.reduceToNat, Int.reduceLT, Int.reduceLE, Int.reduceEq, Int.reduceBNe, Int.reduceBEq, Int.reduceAdd, Int.reduceSub, Int.reduceMul, Int.reduceNeg, ↓reduceIte] <;> simp
  · intro i _ hi hdi hw hI
    have hi2 : i < ys.length := by omega
    have hm := map_at (c := CallV.cells) xs hi
    have hm2 := map_at (c := CallV.cells) ys hi2
    have e0 := eq_next hI hi hi2
    have e1 : xs[i] ≠ ys[i] → decide (xs = ys) = false := fun h => decide_eq_false fun e => h (by subst e; rfl)
    have hl1 : (i : Int) < (xs.length : Int) := by omega
    have hl2 : (i : Int) < (ys.length : Int) := by omega
    obtain ⟨x, hx⟩ : ∃ x, x = xs[i] := ⟨_, rfl⟩
    obtain ⟨y, hy⟩ : ∃ y, y = ys[i] := ⟨_, rfl⟩
    rw [← hx] at hm e0 e1
    rw [← hy] at hm2 e0 e1
    have hc := keepDue_spec ⟨x.who, x.cur, x.amt⟩ ⟨y.who, y.cur, y.amt⟩
    simp only [DueV.cells] at hc
    simp only [CallV.cells] at *
    clear hx hy hI hlen
    simp only [go_sem, Nat.reduceAdd, Nat.reduceSub, Nat.reduceMul, Nat.reducePow, Nat.reduceEqDiff, Nat.reduceLT, Nat.reduceLeDiff, Nat.reduceBEq, Nat.reduceBNe, Int.reduceToNat, Int.reduceLT, Int.reduceLE, Int.reduceEq, Int.reduceBNe, Int.reduceBEq, Int.reduceAdd, Int.reduceSub, Int.reduceMul, Int.reduceNeg, ↓reduceIte, List.length_map, hdi, hm, hm2]
    repeat' (with_reducible first
        | refine And.intro ?_ ?_
        | exact DrawN.mk (by kernel_rfl)
        | exact OkN.mk (by kernel_rfl)
        | refine CallN.pure (by assumption) ?_
        | refine CallN.pure (hc) ?_
        | refine GuardK.splitDN (fun h => ?_) (fun h => ?_)
        | refine GuardK.splitD (fun h => ?_) (fun h => ?_)
        | refine CondE.splitDN (fun h => ?_) (fun h => ?_)
        | refine CondE.splitD (fun h => ?_) (fun h => ?_)
        | refine GuardK.splitN (fun h => ?_) (fun h => ?_)
        | refine GuardK.split (fun h => ?_) (fun h => ?_)
        | refine CondE.splitN (fun h => ?_) (fun h => ?_)
        | refine CondE.split (fun h => ?_) (fun h => ?_)
        | refine WeakK.id ?_
        | refine RoundK.next (by omega) ?_ ?_
        | exact trivial
        | simp only [*, go_sem, Nat.reduceAdd, Nat.reduceSub, Nat.reduceMul, Nat.reducePow, Nat.reduceEqDiff, Nat.reduceLT, Nat.reduceLeDiff, Nat.reduceBEq, Nat.reduceBNe, Int.reduceToNat, Int.reduceLT, Int.reduceLE, Int.reduceEq, Int.reduceBNe, Int.reduceBEq, Int.reduceAdd, Int.reduceSub, Int.reduceMul, Int.reduceNeg, ↓reduceIte, hm, hm2, List.length_map])
    all_goals first
      | omega
      | (refine RoundK.step () hi (e0 ?_) ?_
         · clear e0 e1; cases x; cases y; simp_all; done
         · simp only [go_sem, Nat.reduceAdd, Nat.reduceSub, Nat.reduceMul, Nat.reducePow, Nat.reduceEqDiff, Nat.reduceLT, Nat.reduceLeDiff, Nat.reduceBEq, Nat.reduceBNe, Int.reduceToNat, Int.reduceLT, Int.reduceLE, Int.reduceEq, Int.reduceBNe, Int.reduceBEq, Int.reduceAdd, Int.reduceSub, Int.reduceMul, Int.reduceNeg, ↓reduceIte])
      | (rw [e1 ?_]; clear e0 e1; cases x; cases y; simp_all; done)
  · intro _ hdx hI
    have e : decide (xs = ys) = true := decide_eq_true (ext_list hlen hI)
    simp only [go_sem, Nat.reduceAdd, Nat.reduceSub, Nat.reduceMul, Nat.reducePow, Nat.reduceEqDiff, Nat.reduceLT, Nat.reduceLeDiff, Nat.reduceBEq, Nat.reduceBNe, Int.reduceToNat, Int.reduceLT, Int.reduceLE, Int.reduceEq, Int.reduceBNe, Int.reduceBEq, Int.reduceAdd, Int.reduceSub, Int.reduceMul, Int.reduceNeg, ↓reduceIte, List.length_map, hdx, e]
set_option maxRecDepth 8000 in
theorem keepBids_spec (xs ys : List BidV) (hl : xs.length < 4611686018427387904) : Abs.Spec Tryz.prog 59 [] [.sl 5 (xs.map BidV.cells), .sl 5 (ys.map BidV.cells)] [] (.bool (decide (xs = ys))) := by
  refine Abs.Spec.go (n := 68) (np := 2) (rs := [.tmp 4]) mixed Tryz.func59 rfl rfl rfl rfl rfl (by simp) (by simp) ?_
  simp only [go_sem, Nat.reduceAdd, Nat.reduceSub, Nat.reduceMul, Nat.reducePow, Nat.reduceEqDiff, Nat.reduceLT, Nat.reduceLeDiff, Nat.reduceBEq, Nat.reduceBNe, Int.reduceToNat, Int.reduceLT, Int.reduceLE, Int.reduceEq, Int.reduceBNe, Int.reduceBEq, Int.reduceAdd, Int.reduceSub, Int.reduceMul, Int.reduceNeg, ↓reduceIte, List.length_map]
  by_cases hlen : xs.length = ys.length
  case neg =>
    have b : ((xs.length : Int) == (ys.length : Int)) = false := by rw [beq_eq_false_iff_ne]; omega
    have e : decide (xs = ys) = false := decide_eq_false fun h => hlen (by rw [h])
    simp only [go_sem, Nat.reduceAdd, Nat.reduceSub, Nat.reduceMul, Nat.reducePow, Nat.reduceEqDiff, Nat.reduceLT, Nat.reduceLeDiff, Nat.reduceBEq, Nat.reduceBNe, Int.reduceToNat, Int.reduceLT, Int.reduceLE, Int.reduceEq, Int.reduceBNe, Int.reduceBEq, Int.reduceAdd, Int.reduceSub, Int.reduceMul, Int.reduceNeg, ↓reduceIte, bne, b, e]
  have b : ((xs.length : Int) == (ys.length : Int)) = true := by rw [beq_iff_eq]; omega
  simp only [go_sem, Nat.reduceAdd, Nat.reduceSub, Nat.reduceMul, Nat.reducePow, Nat.reduceEqDiff, Nat.reduceLT, Nat.reduceLeDiff, Nat.reduceBEq, Nat.reduceBNe, Int.reduceToNat, Int.reduceLT, Int.reduceLE, Int.reduceEq, Int.reduceBNe, Int.reduceBEq, Int.reduceAdd, Int.reduceSub, Int.reduceMul, Int.reduceNeg, ↓reduceIte, bne, b, List.length_map]
  refine LoopK.walk (S := Unit) xs.length [0, 1] [] (fun i _ => [(5, .int .i64 i)]) (fun i _ => []) (fun i _ => ∀ j (h1 : j < xs.length) (h2 : j < ys.length), j < i → xs[j] = ys[j]) () (by simp only [go_sem, Nat.reduceAdd, Nat.reduceSub, Nat.reduceMul, Nat.reducePow, Nat.reduceEqDiff, Nat.reduceLT, Nat.reduceLeDiff, Nat.reduceBEq, Nat.reduceBNe, Int.reduceToNat, Int.reduceLT, Int.reduceLE, Int.reduceEq, Int.reduceBNe, Int.reduceBEq, Int.reduceAdd, Int.reduceSub, Int.reduceMul, Int.reduceNeg, ↓reduceIte] <;> exact rfl) (by simp only [go_sem, Nat.reduceAdd, Nat.reduceSub, Nat.reduceMul, Nat.reducePow, Nat.reduceEqDiff, Nat.reduceLT, Nat.reduceLeDiff, Nat.reduceBEq, Nat.reduceBNe, Int.reduceToNat, Int.reduceLT, Int.reduceLE, Int.reduceEq, Int.reduceBNe, Int.reduceBEq, Int.reduceAdd, Int.reduceSub, Int.reduceMul, Int.reduceNeg, ↓reduceIte] <;> exact rfl) (by intros; omega) ?_ ?_ ?_
  · simp only [go_sem, Nat.reduceAdd, Nat.reduceSub, Nat.reduceMul, Nat.reducePow, Nat.reduceEqDiff, Nat.reduceLT, Nat.reduceLeDiff, Nat.reduceBEq, Nat.reduceBNe, Int.reduceToNat, Int.reduceLT, Int.reduceLE, Int.reduceEq, Int.reduceBNe, Int.reduceBEq, Int.reduceAdd, Int.reduceSub, Int.reduceMul, Int.reduceNeg, ↓reduceIte] <;> simp
  · intro i _ hi hdi hw hI
    have hi2 : i < ys.length := by omega
    have hm := map_at (c := BidV.cells) xs hi
    have hm2 := map_at (c := BidV.cells) ys hi2
    have e0 := eq_next hI hi hi2
    have e1 : xs[i] ≠ ys[i] → decide (xs = ys) = false := fun h => decide_eq_false fun e => h (by subst e; rfl)
    have hl1 : (i : Int) < (xs.length : Int) := by omega
    have hl2 : (i : Int) < (ys.length : Int) := by omega
    obtain ⟨x, hx⟩ : ∃ x, x = xs[i] := ⟨_, rfl⟩
    obtain ⟨y, hy⟩ : ∃ y, y = ys[i] := ⟨_, rfl⟩
    rw [← hx] at hm e0 e1
    rw [← hy] at hm2 e0 e1
    have hc := keepKey_spec x.who x.inst y.who y.inst
    simp only [BidV.cells] at *
    clear hx hy hI hlen
    simp only [go_sem, Nat.reduceAdd, Nat.reduceSub, Nat.reduceMul, Nat.reducePow, Nat.reduceEqDiff, Nat.reduceLT, Nat.reduceLeDiff, Nat.reduceBEq, Nat.reduceBNe, Int.reduceToNat, Int.reduceLT, Int.reduceLE, Int.reduceEq, Int.reduceBNe, Int.reduceBEq, Int.reduceAdd, Int.reduceSub, Int.reduceMul, Int.reduceNeg, ↓reduceIte, List.length_map, hdi, hm, hm2]
    repeat' (with_reducible first
        | refine And.intro ?_ ?_
        | exact DrawN.mk (by kernel_rfl)
        | exact OkN.mk (by kernel_rfl)
        | refine CallN.pure (by assumption) ?_
        | refine CallN.pure (hc) ?_
        | refine GuardK.splitDN (fun h => ?_) (fun h => ?_)
        | refine GuardK.splitD (fun h => ?_) (fun h => ?_)
        | refine CondE.splitDN (fun h => ?_) (fun h => ?_)
        | refine CondE.splitD (fun h => ?_) (fun h => ?_)
        | refine GuardK.splitN (fun h => ?_) (fun h => ?_)
        | refine GuardK.split (fun h => ?_) (fun h => ?_)
        | refine CondE.splitN (fun h => ?_) (fun h => ?_)
        | refine CondE.split (fun h => ?_) (fun h => ?_)
        | refine WeakK.id ?_
        | refine RoundK.next (by omega) ?_ ?_
        | exact trivial
        | simp only [*, go_sem, Nat.reduceAdd, Nat.reduceSub, Nat.reduceMul, Nat.reducePow, Nat.reduceEqDiff, Nat.reduceLT, Nat.reduceLeDiff, Nat.reduceBEq, Nat.reduceBNe, Int.reduceToNat, Int.reduceLT, Int.reduceLE, Int.reduceEq, Int.reduceBNe, Int.reduceBEq, Int.reduceAdd, Int.reduceSub, Int.reduceMul, Int.reduceNeg, ↓reduceIte, hm, hm2, List.length_map])
    all_goals first
      | omega
      | (refine RoundK.step () hi (e0 ?_) ?_
         · clear e0 e1; cases x; cases y; simp_all; done
         · simp only [go_sem, Nat.reduceAdd, Nat.reduceSub, Nat.reduceMul, Nat.reducePow, Nat.reduceEqDiff, Nat.reduceLT, Nat.reduceLeDiff, Nat.reduceBEq, Nat.reduceBNe, Int.reduceToNat, Int.reduceLT, Int.reduceLE, Int.reduceEq, Int.reduceBNe, Int.reduceBEq, Int.reduceAdd, Int.reduceSub, Int.reduceMul, Int.reduceNeg, ↓reduceIte])
      | (rw [e1 ?_]; clear e0 e1; cases x; cases y; simp_all; done)
  · intro _ hdx hI
    have e : decide (xs = ys) = true := decide_eq_true (ext_list hlen hI)
    simp only [go_sem, Nat.reduceAdd, Nat.reduceSub, Nat.reduceMul, Nat.reducePow, Nat.reduceEqDiff, Nat.reduceLT, Nat.reduceLeDiff, Nat.reduceBEq, Nat.reduceBNe, Int.reduceToNat, Int.reduceLT, Int.reduceLE, Int.reduceEq, Int.reduceBNe, Int.reduceBEq, Int.reduceAdd, Int.reduceSub, Int.reduceMul, Int.reduceNeg, ↓reduceIte, List.length_map, hdx, e]
set_option maxRecDepth 8000 in
theorem keepDues_spec (xs ys : List DueV) (hl : xs.length < 4611686018427387904) : Abs.Spec Tryz.prog 171 [] [.sl 3 (xs.map DueV.cells), .sl 3 (ys.map DueV.cells)] [] (.bool (decide (xs = ys))) := by
  refine Abs.Spec.go (n := 27) (np := 2) (rs := [.tmp 4]) mixed Tryz.func171 rfl rfl rfl rfl rfl (by simp) (by simp) ?_
  simp only [go_sem, Nat.reduceAdd, Nat.reduceSub, Nat.reduceMul, Nat.reducePow, Nat.reduceEqDiff, Nat.reduceLT, Nat.reduceLeDiff, Nat.reduceBEq, Nat.reduceBNe, Int.reduceToNat, Int.reduceLT, Int.reduceLE, Int.reduceEq, Int.reduceBNe, Int.reduceBEq, Int.reduceAdd, Int.reduceSub, Int.reduceMul, Int.reduceNeg, ↓reduceIte, List.length_map]
  by_cases hlen : xs.length = ys.length
  case neg =>
    have b : ((xs.length : Int) == (ys.length : Int)) = false := by rw [beq_eq_false_iff_ne]; omega
    have e : decide (xs = ys) = false := decide_eq_false fun h => hlen (by rw [h])
    simp only [go_sem, Nat.reduceAdd, Nat.reduceSub, Nat.reduceMul, Nat.reducePow, Nat.reduceEqDiff, Nat.reduceLT, Nat.reduceLeDiff, Nat.reduceBEq, Nat.reduceBNe, Int.reduceToNat, Int.reduceLT, Int.reduceLE, Int.reduceEq, Int.reduceBNe, Int.reduceBEq, Int.reduceAdd, Int.reduceSub, Int.reduceMul, Int.reduceNeg, ↓reduceIte, bne, b, e]
  have b : ((xs.length : Int) == (ys.length : Int)) = true := by rw [beq_iff_eq]; omega
  simp only [go_sem, Nat.reduceAdd, Nat.reduceSub, Nat.reduceMul, Nat.reducePow, Nat.reduceEqDiff, Nat.reduceLT, Nat.reduceLeDiff, Nat.reduceBEq, Nat.reduceBNe, Int.reduceToNat, Int.reduceLT, Int.reduceLE, Int.reduceEq, Int.reduceBNe, Int.reduceBEq, Int.reduceAdd, Int.reduceSub, Int.reduceMul, Int.reduceNeg, ↓reduceIte, bne, b, List.length_map]
  refine LoopK.walk (S := Unit) xs.length [0, 1] [] (fun i _ => [(5, .int .i64 i)]) (fun i _ => []) (fun i _ => ∀ j (h1 : j < xs.length) (h2 : j < ys.length), j < i → xs[j] = ys[j]) () (by simp only [go_sem, Nat.reduceAdd, Nat.reduceSub, Nat.reduceMul, Nat.reducePow, Nat.reduceEqDiff, Nat.reduceLT, Nat.reduceLeDiff, Nat.reduceBEq, Nat.reduceBNe, Int.reduceToNat, Int.reduceLT, Int.reduceLE, Int.reduceEq, Int.reduceBNe, Int.reduceBEq, Int.reduceAdd, Int.reduceSub, Int.reduceMul, Int.reduceNeg, ↓reduceIte] <;> exact rfl) (by simp only [go_sem, Nat.reduceAdd, Nat.reduceSub, Nat.reduceMul, Nat.reducePow, Nat.reduceEqDiff, Nat.reduceLT, Nat.reduceLeDiff, Nat.reduceBEq, Nat.reduceBNe, Int.reduceToNat, Int.reduceLT, Int.reduceLE, Int.reduceEq, Int.reduceBNe, Int.reduceBEq, Int.reduceAdd, Int.reduceSub, Int.reduceMul, Int.reduceNeg, ↓reduceIte] <;> exact rfl) (by intros; omega) ?_ ?_ ?_
  · simp only [go_sem, Nat.reduceAdd, Nat.reduceSub, Nat.reduceMul, Nat.reducePow, Nat.reduceEqDiff, Nat.reduceLT, Nat.reduceLeDiff, Nat.reduceBEq, Nat.reduceBNe, Int.reduceToNat, Int.reduceLT, Int.reduceLE, Int.reduceEq, Int.reduceBNe, Int.reduceBEq, Int.reduceAdd, Int.reduceSub, Int.reduceMul, Int.reduceNeg, ↓reduceIte] <;> simp
  · intro i _ hi hdi hw hI
    have hi2 : i < ys.length := by omega
    have hm := map_at (c := DueV.cells) xs hi
    have hm2 := map_at (c := DueV.cells) ys hi2
    have e0 := eq_next hI hi hi2
    have e1 : xs[i] ≠ ys[i] → decide (xs = ys) = false := fun h => decide_eq_false fun e => h (by subst e; rfl)
    have hl1 : (i : Int) < (xs.length : Int) := by omega
    have hl2 : (i : Int) < (ys.length : Int) := by omega
    obtain ⟨x, hx⟩ : ∃ x, x = xs[i] := ⟨_, rfl⟩
    obtain ⟨y, hy⟩ : ∃ y, y = ys[i] := ⟨_, rfl⟩
    rw [← hx] at hm e0 e1
    rw [← hy] at hm2 e0 e1
    have hc := keepDue_spec x y
    simp only [DueV.cells] at *
    clear hx hy hI hlen
    simp only [go_sem, Nat.reduceAdd, Nat.reduceSub, Nat.reduceMul, Nat.reducePow, Nat.reduceEqDiff, Nat.reduceLT, Nat.reduceLeDiff, Nat.reduceBEq, Nat.reduceBNe, Int.reduceToNat, Int.reduceLT, Int.reduceLE, Int.reduceEq, Int.reduceBNe, Int.reduceBEq, Int.reduceAdd, Int.reduceSub, Int.reduceMul, Int.reduceNeg, ↓reduceIte, List.length_map, hdi, hm, hm2]
    repeat' (with_reducible first
        | refine And.intro ?_ ?_
        | exact DrawN.mk (by kernel_rfl)
        | exact OkN.mk (by kernel_rfl)
        | refine CallN.pure (by assumption) ?_
        | refine CallN.pure (hc) ?_
        | refine GuardK.splitDN (fun h => ?_) (fun h => ?_)
        | refine GuardK.splitD (fun h => ?_) (fun h => ?_)
        | refine CondE.splitDN (fun h => ?_) (fun h => ?_)
        | refine CondE.splitD (fun h => ?_) (fun h => ?_)
        | refine GuardK.splitN (fun h => ?_) (fun h => ?_)
        | refine GuardK.split (fun h => ?_) (fun h => ?_)
        | refine CondE.splitN (fun h => ?_) (fun h => ?_)
        | refine CondE.split (fun h => ?_) (fun h => ?_)
        | refine WeakK.id ?_
        | refine RoundK.next (by omega) ?_ ?_
        | exact trivial
        | simp only [*, go_sem, Nat.reduceAdd, Nat.reduceSub, Nat.reduceMul, Nat.reducePow, Nat.reduceEqDiff, Nat.reduceLT, Nat.reduceLeDiff, Nat.reduceBEq, Nat.reduceBNe, Int.reduceToNat, Int.reduceLT, Int.reduceLE, Int.reduceEq, Int.reduceBNe, Int.reduceBEq, Int.reduceAdd, Int.reduceSub, Int.reduceMul, Int.reduceNeg, ↓reduceIte, hm, hm2, List.length_map])
    all_goals first
      | omega
      | (refine RoundK.step () hi (e0 ?_) ?_
         · clear e0 e1; cases x; cases y; simp_all; done
         · simp only [go_sem, Nat.reduceAdd, Nat.reduceSub, Nat.reduceMul, Nat.reducePow, Nat.reduceEqDiff, Nat.reduceLT, Nat.reduceLeDiff, Nat.reduceBEq, Nat.reduceBNe, Int.reduceToNat, Int.reduceLT, Int.reduceLE, Int.reduceEq, Int.reduceBNe, Int.reduceBEq, Int.reduceAdd, Int.reduceSub, Int.reduceMul, Int.reduceNeg, ↓reduceIte])
      | (rw [e1 ?_]; clear e0 e1; cases x; cases y; simp_all; done)
  · intro _ hdx hI
    have e : decide (xs = ys) = true := decide_eq_true (ext_list hlen hI)
    simp only [go_sem, Nat.reduceAdd, Nat.reduceSub, Nat.reduceMul, Nat.reducePow, Nat.reduceEqDiff, Nat.reduceLT, Nat.reduceLeDiff, Nat.reduceBEq, Nat.reduceBNe, Int.reduceToNat, Int.reduceLT, Int.reduceLE, Int.reduceEq, Int.reduceBNe, Int.reduceBEq, Int.reduceAdd, Int.reduceSub, Int.reduceMul, Int.reduceNeg, ↓reduceIte, List.length_map, hdx, e]
set_option maxRecDepth 8000 in
theorem keepFalls_spec (xs ys : List FallV) (hl : xs.length < 4611686018427387904) : Abs.Spec Tryz.prog 172 [] [.sl 8 (xs.map FallV.cells), .sl 8 (ys.map FallV.cells)] [] (.bool (decide (xs = ys))) := by
  refine Abs.Spec.go (n := 27) (np := 2) (rs := [.tmp 4]) mixed Tryz.func172 rfl rfl rfl rfl rfl (by simp) (by simp) ?_
  simp only [go_sem, Nat.reduceAdd, Nat.reduceSub, Nat.reduceMul, Nat.reducePow, Nat.reduceEqDiff, Nat.reduceLT, Nat.reduceLeDiff, Nat.reduceBEq, Nat.reduceBNe, Int.reduceToNat, Int.reduceLT, Int.reduceLE, Int.reduceEq, Int.reduceBNe, Int.reduceBEq, Int.reduceAdd, Int.reduceSub, Int.reduceMul, Int.reduceNeg, ↓reduceIte, List.length_map]
  by_cases hlen : xs.length = ys.length
  case neg =>
    have b : ((xs.length : Int) == (ys.length : Int)) = false := by rw [beq_eq_false_iff_ne]; omega
    have e : decide (xs = ys) = false := decide_eq_false fun h => hlen (by rw [h])
    simp only [go_sem, Nat.reduceAdd, Nat.reduceSub, Nat.reduceMul, Nat.reducePow, Nat.reduceEqDiff, Nat.reduceLT, Nat.reduceLeDiff, Nat.reduceBEq, Nat.reduceBNe, Int.reduceToNat, Int.reduceLT, Int.reduceLE, Int.reduceEq, Int.reduceBNe, Int.reduceBEq, Int.reduceAdd, Int.reduceSub, Int.reduceMul, Int.reduceNeg, ↓reduceIte, bne, b, e]
  have b : ((xs.length : Int) == (ys.length : Int)) = true := by rw [beq_iff_eq]; omega
  simp only [go_sem, Nat.reduceAdd, Nat.reduceSub, Nat.reduceMul, Nat.reducePow, Nat.reduceEqDiff, Nat.reduceLT, Nat.reduceLeDiff, Nat.reduceBEq, Nat.reduceBNe, Int.reduceToNat, Int.reduceLT, Int.reduceLE, Int.reduceEq, Int.reduceBNe, Int.reduceBEq, Int.reduceAdd, Int.reduceSub, Int.reduceMul, Int.reduceNeg, ↓reduceIte, bne, b, List.length_map]
  refine LoopK.walk (S := Unit) xs.length [0, 1] [] (fun i _ => [(5, .int .i64 i)]) (fun i _ => []) (fun i _ => ∀ j (h1 : j < xs.length) (h2 : j < ys.length), j < i → xs[j] = ys[j]) () (by simp only [go_sem, Nat.reduceAdd, Nat.reduceSub, Nat.reduceMul, Nat.reducePow, Nat.reduceEqDiff, Nat.reduceLT, Nat.reduceLeDiff, Nat.reduceBEq, Nat.reduceBNe, Int.reduceToNat, Int.reduceLT, Int.reduceLE, Int.reduceEq, Int.reduceBNe, Int.reduceBEq, Int.reduceAdd, Int.reduceSub, Int.reduceMul, Int.reduceNeg, ↓reduceIte] <;> exact rfl) (by simp only [go_sem, Nat.reduceAdd, Nat.reduceSub, Nat.reduceMul, Nat.reducePow, Nat.reduceEqDiff, Nat.reduceLT, Nat.reduceLeDiff, Nat.reduceBEq, Nat.reduceBNe, Int.reduceToNat, Int.reduceLT, Int.reduceLE, Int.reduceEq, Int.reduceBNe, Int.reduceBEq, Int.reduceAdd, Int.reduceSub, Int.reduceMul, Int.reduceNeg, ↓reduceIte] <;> exact rfl) (by intros; omega) ?_ ?_ ?_
  · simp only [go_sem, Nat.reduceAdd, Nat.reduceSub, Nat.reduceMul, Nat.reducePow, Nat.reduceEqDiff, Nat.reduceLT, Nat.reduceLeDiff, Nat.reduceBEq, Nat.reduceBNe, Int.reduceToNat, Int.reduceLT, Int.reduceLE, Int.reduceEq, Int.reduceBNe, Int.reduceBEq, Int.reduceAdd, Int.reduceSub, Int.reduceMul, Int.reduceNeg, ↓reduceIte] <;> simp
  · intro i _ hi hdi hw hI
    have hi2 : i < ys.length := by omega
    have hm := map_at (c := FallV.cells) xs hi
    have hm2 := map_at (c := FallV.cells) ys hi2
    have e0 := eq_next hI hi hi2
    have e1 : xs[i] ≠ ys[i] → decide (xs = ys) = false := fun h => decide_eq_false fun e => h (by subst e; rfl)
    have hl1 : (i : Int) < (xs.length : Int) := by omega
    have hl2 : (i : Int) < (ys.length : Int) := by omega
    obtain ⟨x, hx⟩ : ∃ x, x = xs[i] := ⟨_, rfl⟩
    obtain ⟨y, hy⟩ : ∃ y, y = ys[i] := ⟨_, rfl⟩
    rw [← hx] at hm e0 e1
    rw [← hy] at hm2 e0 e1
    have hc := keepFall_spec x y
    simp only [FallV.cells] at *
    clear hx hy hI hlen
    simp only [go_sem, Nat.reduceAdd, Nat.reduceSub, Nat.reduceMul, Nat.reducePow, Nat.reduceEqDiff, Nat.reduceLT, Nat.reduceLeDiff, Nat.reduceBEq, Nat.reduceBNe, Int.reduceToNat, Int.reduceLT, Int.reduceLE, Int.reduceEq, Int.reduceBNe, Int.reduceBEq, Int.reduceAdd, Int.reduceSub, Int.reduceMul, Int.reduceNeg, ↓reduceIte, List.length_map, hdi, hm, hm2]
    repeat' (with_reducible first
        | refine And.intro ?_ ?_
        | exact DrawN.mk (by kernel_rfl)
        | exact OkN.mk (by kernel_rfl)
        | refine CallN.pure (by assumption) ?_
        | refine CallN.pure (hc) ?_
        | refine GuardK.splitDN (fun h => ?_) (fun h => ?_)
        | refine GuardK.splitD (fun h => ?_) (fun h => ?_)
        | refine CondE.splitDN (fun h => ?_) (fun h => ?_)
        | refine CondE.splitD (fun h => ?_) (fun h => ?_)
        | refine GuardK.splitN (fun h => ?_) (fun h => ?_)
        | refine GuardK.split (fun h => ?_) (fun h => ?_)
        | refine CondE.splitN (fun h => ?_) (fun h => ?_)
        | refine CondE.split (fun h => ?_) (fun h => ?_)
        | refine WeakK.id ?_
        | refine RoundK.next (by omega) ?_ ?_
        | exact trivial
        | simp only [*, go_sem, Nat.reduceAdd, Nat.reduceSub, Nat.reduceMul, Nat.reducePow, Nat.reduceEqDiff, Nat.reduceLT, Nat.reduceLeDiff, Nat.reduceBEq, Nat.reduceBNe, Int.reduceToNat, Int.reduceLT, Int.reduceLE, Int.reduceEq, Int.reduceBNe, Int.reduceBEq, Int.reduceAdd, Int.reduceSub, Int.reduceMul, Int.reduceNeg, ↓reduceIte, hm, hm2, List.length_map])
    all_goals first
      | omega
      | (refine RoundK.step () hi (e0 ?_) ?_
         · clear e0 e1; cases x; cases y; simp_all; done
         · simp only [go_sem, Nat.reduceAdd, Nat.reduceSub, Nat.reduceMul, Nat.reducePow, Nat.reduceEqDiff, Nat.reduceLT, Nat.reduceLeDiff, Nat.reduceBEq, Nat.reduceBNe, Int.reduceToNat, Int.reduceLT, Int.reduceLE, Int.reduceEq, Int.reduceBNe, Int.reduceBEq, Int.reduceAdd, Int.reduceSub, Int.reduceMul, Int.reduceNeg, ↓reduceIte])
      | (rw [e1 ?_]; clear e0 e1; cases x; cases y; simp_all; done)
  · intro _ hdx hI
    have e : decide (xs = ys) = true := decide_eq_true (ext_list hlen hI)
    simp only [go_sem, Nat.reduceAdd, Nat.reduceSub, Nat.reduceMul, Nat.reducePow, Nat.reduceEqDiff, Nat.reduceLT, Nat.reduceLeDiff, Nat.reduceBEq, Nat.reduceBNe, Int.reduceToNat, Int.reduceLT, Int.reduceLE, Int.reduceEq, Int.reduceBNe, Int.reduceBEq, Int.reduceAdd, Int.reduceSub, Int.reduceMul, Int.reduceNeg, ↓reduceIte, List.length_map, hdx, e]
theorem keepReply_spec (a b : ReplyV) (h1 : a.dues.length < 4611686018427387904) (h2 : a.falls.length < 4611686018427387904) : Abs.Spec Tryz.prog 141 [] [.agg a.cells, .agg b.cells] [] (.bool (decide (a = b))) := by
  have c1 := keepDues_spec a.dues b.dues h1
  have c2 := keepFalls_spec a.falls b.falls h2
  simp only [ReplyV.cells]
  refine Abs.Spec.go (n := 38) (np := 2) (rs := [.tmp 4]) mixed Tryz.func141 rfl rfl rfl rfl rfl (by simp) (by simp) ?_
  simp only [go_sem, Nat.reduceAdd, Nat.reduceSub, Nat.reduceMul, Nat.reducePow, Nat.reduceEqDiff, Nat.reduceLT, Nat.reduceLeDiff, Nat.reduceBEq, Nat.reduceBNe, Int.reduceToNat, Int.reduceLT, Int.reduceLE, Int.reduceEq, Int.reduceBNe, Int.reduceBEq, Int.reduceAdd, Int.reduceSub, Int.reduceMul, Int.reduceNeg, ↓reduceIte]
  repeat' (with_reducible first
      | refine And.intro ?_ ?_
      | exact DrawN.mk (by kernel_rfl)
      | exact OkN.mk (by kernel_rfl)
      | refine CallN.pure (by assumption) ?_
      | refine CallN.pure (c1) ?_
      | refine CallN.pure (c2) ?_
      | refine GuardK.splitDN (fun h => ?_) (fun h => ?_)
      | refine GuardK.splitD (fun h => ?_) (fun h => ?_)
      | refine CondE.splitDN (fun h => ?_) (fun h => ?_)
      | refine CondE.splitD (fun h => ?_) (fun h => ?_)
      | refine GuardK.splitN (fun h => ?_) (fun h => ?_)
      | refine GuardK.split (fun h => ?_) (fun h => ?_)
      | refine CondE.splitN (fun h => ?_) (fun h => ?_)
      | refine CondE.split (fun h => ?_) (fun h => ?_)
      | refine WeakK.id ?_
      | refine RoundK.next (by omega) ?_ ?_
      | exact trivial
      | simp only [*, go_sem, Nat.reduceAdd, Nat.reduceSub, Nat.reduceMul, Nat.reducePow, Nat.reduceEqDiff, Nat.reduceLT, Nat.reduceLeDiff, Nat.reduceBEq, Nat.reduceBNe, Int.reduceToNat, Int.reduceLT, Int.reduceLE, Int.reduceEq, Int.reduceBNe, Int.reduceBEq, Int.reduceAdd, Int.reduceSub, Int.reduceMul, Int.reduceNeg, ↓reduceIte])
  all_goals (rw [Bool.eq_iff_iff]; cases a; cases b; simp_all)
set_option maxRecDepth 8000 in
theorem keepSeats_spec (xs ys : List SeatV) (hl : xs.length < 4611686018427387904) (hq : ∀ x ∈ xs, x.r.dues.length < 4611686018427387904 ∧ x.r.falls.length < 4611686018427387904) : Abs.Spec Tryz.prog 60 [] [.sl 7 (xs.map SeatV.cells), .sl 7 (ys.map SeatV.cells)] [] (.bool (decide (xs = ys))) := by
  refine Abs.Spec.go (n := 55) (np := 2) (rs := [.tmp 4]) mixed Tryz.func60 rfl rfl rfl rfl rfl (by simp) (by simp) ?_
  simp only [go_sem, Nat.reduceAdd, Nat.reduceSub, Nat.reduceMul, Nat.reducePow, Nat.reduceEqDiff, Nat.reduceLT, Nat.reduceLeDiff, Nat.reduceBEq, Nat.reduceBNe, Int.reduceToNat, Int.reduceLT, Int.reduceLE, Int.reduceEq, Int.reduceBNe, Int.reduceBEq, Int.reduceAdd, Int.reduceSub, Int.reduceMul, Int.reduceNeg, ↓reduceIte, List.length_map]
  by_cases hlen : xs.length = ys.length
  case neg =>
    have b : ((xs.length : Int) == (ys.length : Int)) = false := by rw [beq_eq_false_iff_ne]; omega
    have e : decide (xs = ys) = false := decide_eq_false fun h => hlen (by rw [h])
    simp only [go_sem, Nat.reduceAdd, Nat.reduceSub, Nat.reduceMul, Nat.reducePow, Nat.reduceEqDiff, Nat.reduceLT, Nat.reduceLeDiff, Nat.reduceBEq, Nat.reduceBNe, Int.reduceToNat, Int.reduceLT, Int.reduceLE, Int.reduceEq, Int.reduceBNe, Int.reduceBEq, Int.reduceAdd, Int.reduceSub, Int.reduceMul, Int.reduceNeg, ↓reduceIte, bne, b, e]
  have b : ((xs.length : Int) == (ys.length : Int)) = true := by rw [beq_iff_eq]; omega
  simp only [go_sem, Nat.reduceAdd, Nat.reduceSub, Nat.reduceMul, Nat.reducePow, Nat.reduceEqDiff, Nat.reduceLT, Nat.reduceLeDiff, Nat.reduceBEq, Nat.reduceBNe, Int.reduceToNat, Int.reduceLT, Int.reduceLE, Int.reduceEq, Int.reduceBNe, Int.reduceBEq, Int.reduceAdd, Int.reduceSub, Int.reduceMul, Int.reduceNeg, ↓reduceIte, bne, b, List.length_map]
  refine LoopK.walk (S := Unit) xs.length [0, 1] [] (fun i _ => [(5, .int .i64 i)]) (fun i _ => []) (fun i _ => ∀ j (h1 : j < xs.length) (h2 : j < ys.length), j < i → xs[j] = ys[j]) () (by simp only [go_sem, Nat.reduceAdd, Nat.reduceSub, Nat.reduceMul, Nat.reducePow, Nat.reduceEqDiff, Nat.reduceLT, Nat.reduceLeDiff, Nat.reduceBEq, Nat.reduceBNe, Int.reduceToNat, Int.reduceLT, Int.reduceLE, Int.reduceEq, Int.reduceBNe, Int.reduceBEq, Int.reduceAdd, Int.reduceSub, Int.reduceMul, Int.reduceNeg, ↓reduceIte] <;> exact rfl) (by simp only [go_sem, Nat.reduceAdd, Nat.reduceSub, Nat.reduceMul, Nat.reducePow, Nat.reduceEqDiff, Nat.reduceLT, Nat.reduceLeDiff, Nat.reduceBEq, Nat.reduceBNe, Int.reduceToNat, Int.reduceLT, Int.reduceLE, Int.reduceEq, Int.reduceBNe, Int.reduceBEq, Int.reduceAdd, Int.reduceSub, Int.reduceMul, Int.reduceNeg, ↓reduceIte] <;> exact rfl) (by intros; omega) ?_ ?_ ?_
  · simp only [go_sem, Nat.reduceAdd, Nat.reduceSub, Nat.reduceMul, Nat.reducePow, Nat.reduceEqDiff, Nat.reduceLT, Nat.reduceLeDiff, Nat.reduceBEq, Nat.reduceBNe, Int.reduceToNat, Int.reduceLT, Int.reduceLE, Int.reduceEq, Int.reduceBNe, Int.reduceBEq, Int.reduceAdd, Int.reduceSub, Int.reduceMul, Int.reduceNeg, ↓reduceIte] <;> simp
  · intro i _ hi hdi hw hI
    have hi2 : i < ys.length := by omega
    have hm := map_at (c := SeatV.cells) xs hi
    have hm2 := map_at (c := SeatV.cells) ys hi2
    have e0 := eq_next hI hi hi2
    have e1 : xs[i] ≠ ys[i] → decide (xs = ys) = false := fun h => decide_eq_false fun e => h (by subst e; rfl)
    have hl1 : (i : Int) < (xs.length : Int) := by omega
    have hl2 : (i : Int) < (ys.length : Int) := by omega
    obtain ⟨x, hx⟩ : ∃ x, x = xs[i] := ⟨_, rfl⟩
    obtain ⟨y, hy⟩ : ∃ y, y = ys[i] := ⟨_, rfl⟩
    rw [← hx] at hm e0 e1
    rw [← hy] at hm2 e0 e1
    have hc := keepReply_spec x.r y.r (hq x (by rw [hx]; exact List.getElem_mem hi)).1 (hq x (by rw [hx]; exact List.getElem_mem hi)).2
    simp only [ReplyV.cells] at hc
    simp only [SeatV.cells] at *
    clear hx hy hI hlen hq
    simp only [go_sem, Nat.reduceAdd, Nat.reduceSub, Nat.reduceMul, Nat.reducePow, Nat.reduceEqDiff, Nat.reduceLT, Nat.reduceLeDiff, Nat.reduceBEq, Nat.reduceBNe, Int.reduceToNat, Int.reduceLT, Int.reduceLE, Int.reduceEq, Int.reduceBNe, Int.reduceBEq, Int.reduceAdd, Int.reduceSub, Int.reduceMul, Int.reduceNeg, ↓reduceIte, List.length_map, hdi, hm, hm2]
    repeat' (with_reducible first
        | refine And.intro ?_ ?_
        | exact DrawN.mk (by kernel_rfl)
        | exact OkN.mk (by kernel_rfl)
        | refine CallN.pure (by assumption) ?_
        | refine CallN.pure (hc) ?_
        | refine GuardK.splitDN (fun h => ?_) (fun h => ?_)
        | refine GuardK.splitD (fun h => ?_) (fun h => ?_)
        | refine CondE.splitDN (fun h => ?_) (fun h => ?_)
        | refine CondE.splitD (fun h => ?_) (fun h => ?_)
        | refine GuardK.splitN (fun h => ?_) (fun h => ?_)
        | refine GuardK.split (fun h => ?_) (fun h => ?_)
        | refine CondE.splitN (fun h => ?_) (fun h => ?_)
        | refine CondE.split (fun h => ?_) (fun h => ?_)
        | refine WeakK.id ?_
        | refine RoundK.next (by omega) ?_ ?_
        | exact trivial
        | simp only [*, go_sem, Nat.reduceAdd, Nat.reduceSub, Nat.reduceMul, Nat.reducePow, Nat.reduceEqDiff, Nat.reduceLT, Nat.reduceLeDiff, Nat.reduceBEq, Nat.reduceBNe, Int.reduceToNat, Int.reduceLT, Int.reduceLE, Int.reduceEq, Int.reduceBNe, Int.reduceBEq, Int.reduceAdd, Int.reduceSub, Int.reduceMul, Int.reduceNeg, ↓reduceIte, hm, hm2, List.length_map])
    all_goals first
      | omega
      | (refine RoundK.step () hi (e0 ?_) ?_
         · clear e0 e1; obtain ⟨x1, x2, ⟨x3, x4, x5, x6, x7⟩⟩ := x; obtain ⟨y1, y2, ⟨y3, y4, y5, y6, y7⟩⟩ := y; simp_all; done
         · simp only [go_sem, Nat.reduceAdd, Nat.reduceSub, Nat.reduceMul, Nat.reducePow, Nat.reduceEqDiff, Nat.reduceLT, Nat.reduceLeDiff, Nat.reduceBEq, Nat.reduceBNe, Int.reduceToNat, Int.reduceLT, Int.reduceLE, Int.reduceEq, Int.reduceBNe, Int.reduceBEq, Int.reduceAdd, Int.reduceSub, Int.reduceMul, Int.reduceNeg, ↓reduceIte])
      | (rw [e1 ?_]; clear e0 e1; obtain ⟨x1, x2, ⟨x3, x4, x5, x6, x7⟩⟩ := x; obtain ⟨y1, y2, ⟨y3, y4, y5, y6, y7⟩⟩ := y; simp_all; done)
  · intro _ hdx hI
    have e : decide (xs = ys) = true := decide_eq_true (ext_list hlen hI)
    simp only [go_sem, Nat.reduceAdd, Nat.reduceSub, Nat.reduceMul, Nat.reducePow, Nat.reduceEqDiff, Nat.reduceLT, Nat.reduceLeDiff, Nat.reduceBEq, Nat.reduceBNe, Int.reduceToNat, Int.reduceLT, Int.reduceLE, Int.reduceEq, Int.reduceBNe, Int.reduceBEq, Int.reduceAdd, Int.reduceSub, Int.reduceMul, Int.reduceNeg, ↓reduceIte, List.length_map, hdx, e]
set_option maxRecDepth 8000 in
theorem keepLedger_spec (a b : LedV) (hl : a.bs.length < 4611686018427387904) : Abs.Spec Tryz.prog 56 [] [.agg a.cells, .agg b.cells] [] (.bool (decide (a.last = b.last) && decide (a.bs = b.bs))) := by
  simp only [LedV.cells]
  refine Abs.Spec.go (n := 56) (np := 2) (rs := [.tmp 4]) mixed Tryz.func56 rfl rfl rfl rfl rfl (by simp) (by simp) ?_
  simp only [go_sem, Nat.reduceAdd, Nat.reduceSub, Nat.reduceMul, Nat.reducePow, Nat.reduceEqDiff, Nat.reduceLT, Nat.reduceLeDiff, Nat.reduceBEq, Nat.reduceBNe, Int.reduceToNat, Int.reduceLT, Int.reduceLE, Int.reduceEq, Int.reduceBNe, Int.reduceBEq, Int.reduceAdd, Int.reduceSub, Int.reduceMul, Int.reduceNeg, ↓reduceIte, List.length_map]
  by_cases h0 : a.last = b.last
  case neg =>
    have b0 : (a.last == b.last) = false := by simpa using h0
    have e : decide (a.last = b.last) = false := decide_eq_false h0
    simp only [go_sem, Nat.reduceAdd, Nat.reduceSub, Nat.reduceMul, Nat.reducePow, Nat.reduceEqDiff, Nat.reduceLT, Nat.reduceLeDiff, Nat.reduceBEq, Nat.reduceBNe, Int.reduceToNat, Int.reduceLT, Int.reduceLE, Int.reduceEq, Int.reduceBNe, Int.reduceBEq, Int.reduceAdd, Int.reduceSub, Int.reduceMul, Int.reduceNeg, ↓reduceIte, bne, b0, e, Bool.false_and]
  have b0 : (a.last == b.last) = true := by simpa using h0
  have e0 : decide (a.last = b.last) = true := decide_eq_true h0
  rw [e0, Bool.true_and]
  by_cases hlen : a.bs.length = b.bs.length
  case neg =>
    have b1 : ((a.bs.length : Int) == (b.bs.length : Int)) = false := by rw [beq_eq_false_iff_ne]; omega
    have e : decide (a.bs = b.bs) = false := decide_eq_false fun h => hlen (by rw [h])
    simp only [go_sem, Nat.reduceAdd, Nat.reduceSub, Nat.reduceMul, Nat.reducePow, Nat.reduceEqDiff, Nat.reduceLT, Nat.reduceLeDiff, Nat.reduceBEq, Nat.reduceBNe, Int.reduceToNat, Int.reduceLT, Int.reduceLE, Int.reduceEq, Int.reduceBNe, Int.reduceBEq, Int.reduceAdd, Int.reduceSub, Int.reduceMul, Int.reduceNeg, ↓reduceIte, bne, b0, b1, e, List.length_map]
  have b1 : ((a.bs.length : Int) == (b.bs.length : Int)) = true := by rw [beq_iff_eq]; omega
  simp only [go_sem, Nat.reduceAdd, Nat.reduceSub, Nat.reduceMul, Nat.reducePow, Nat.reduceEqDiff, Nat.reduceLT, Nat.reduceLeDiff, Nat.reduceBEq, Nat.reduceBNe, Int.reduceToNat, Int.reduceLT, Int.reduceLE, Int.reduceEq, Int.reduceBNe, Int.reduceBEq, Int.reduceAdd, Int.reduceSub, Int.reduceMul, Int.reduceNeg, ↓reduceIte, bne, b0, b1, List.length_map]
  refine LoopK.walk (S := Unit) a.bs.length [2, 3] [48, 64] (fun i _ => [(5, .int .i64 i)]) (fun i _ => []) (fun i _ => ∀ j (h1 : j < a.bs.length) (h2 : j < b.bs.length), j < i → a.bs[j] = b.bs[j]) () (by simp only [go_sem, Nat.reduceAdd, Nat.reduceSub, Nat.reduceMul, Nat.reducePow, Nat.reduceEqDiff, Nat.reduceLT, Nat.reduceLeDiff, Nat.reduceBEq, Nat.reduceBNe, Int.reduceToNat, Int.reduceLT, Int.reduceLE, Int.reduceEq, Int.reduceBNe, Int.reduceBEq, Int.reduceAdd, Int.reduceSub, Int.reduceMul, Int.reduceNeg, ↓reduceIte] <;> exact rfl) (by simp only [go_sem, Nat.reduceAdd, Nat.reduceSub, Nat.reduceMul, Nat.reducePow, Nat.reduceEqDiff, Nat.reduceLT, Nat.reduceLeDiff, Nat.reduceBEq, Nat.reduceBNe, Int.reduceToNat, Int.reduceLT, Int.reduceLE, Int.reduceEq, Int.reduceBNe, Int.reduceBEq, Int.reduceAdd, Int.reduceSub, Int.reduceMul, Int.reduceNeg, ↓reduceIte] <;> exact rfl) (by intros; omega) ?_ ?_ ?_
  · simp only [go_sem, Nat.reduceAdd, Nat.reduceSub, Nat.reduceMul, Nat.reducePow, Nat.reduceEqDiff, Nat.reduceLT, Nat.reduceLeDiff, Nat.reduceBEq, Nat.reduceBNe, Int.reduceToNat, Int.reduceLT, Int.reduceLE, Int.reduceEq, Int.reduceBNe, Int.reduceBEq, Int.reduceAdd, Int.reduceSub, Int.reduceMul, Int.reduceNeg, ↓reduceIte] <;> simp
  · intro i _ hi hdi hw hI
    have hi2 : i < b.bs.length := by omega
    have hm := map_at (c := BalV.cells) a.bs hi
    have hm2 := map_at (c := BalV.cells) b.bs hi2
    have e0 := eq_next hI hi hi2
    have e1 : a.bs[i] ≠ b.bs[i] → decide (a.bs = b.bs) = false := fun h => decide_eq_false fun e => h (by simp only [e])
    have hl1 : (i : Int) < (a.bs.length : Int) := by omega
    have hl2 : (i : Int) < (b.bs.length : Int) := by omega
    obtain ⟨x, hx⟩ : ∃ x, x = a.bs[i] := ⟨_, rfl⟩
    obtain ⟨y, hy⟩ : ∃ y, y = b.bs[i] := ⟨_, rfl⟩
    rw [← hx] at hm e0 e1
    rw [← hy] at hm2 e0 e1
    have hc := keepAcctD_spec x.acct y.acct
    simp only [BalV.cells, AcctV.cells, BalV.acct] at *
    clear hx hy hI hlen
    simp only [go_sem, Nat.reduceAdd, Nat.reduceSub, Nat.reduceMul, Nat.reducePow, Nat.reduceEqDiff, Nat.reduceLT, Nat.reduceLeDiff, Nat.reduceBEq, Nat.reduceBNe, Int.reduceToNat, Int.reduceLT, Int.reduceLE, Int.reduceEq, Int.reduceBNe, Int.reduceBEq, Int.reduceAdd, Int.reduceSub, Int.reduceMul, Int.reduceNeg, ↓reduceIte, List.length_map, hdi, hm, hm2]
    repeat' (with_reducible first
        | refine And.intro ?_ ?_
        | exact DrawN.mk (by kernel_rfl)
        | exact OkN.mk (by kernel_rfl)
        | refine CallN.pure (by assumption) ?_
        | refine CallN.pure (hc) ?_
        | refine GuardK.splitDN (fun h => ?_) (fun h => ?_)
        | refine GuardK.splitD (fun h => ?_) (fun h => ?_)
        | refine CondE.splitDN (fun h => ?_) (fun h => ?_)
        | refine CondE.splitD (fun h => ?_) (fun h => ?_)
        | refine GuardK.splitN (fun h => ?_) (fun h => ?_)
        | refine GuardK.split (fun h => ?_) (fun h => ?_)
        | refine CondE.splitN (fun h => ?_) (fun h => ?_)
        | refine CondE.split (fun h => ?_) (fun h => ?_)
        | refine WeakK.id ?_
        | refine RoundK.next (by omega) ?_ ?_
        | exact trivial
        | simp only [*, go_sem, Nat.reduceAdd, Nat.reduceSub, Nat.reduceMul, Nat.reducePow, Nat.reduceEqDiff, Nat.reduceLT, Nat.reduceLeDiff, Nat.reduceBEq, Nat.reduceBNe, Int.reduceToNat, Int.reduceLT, Int.reduceLE, Int.reduceEq, Int.reduceBNe, Int.reduceBEq, Int.reduceAdd, Int.reduceSub, Int.reduceMul, Int.reduceNeg, ↓reduceIte, hm, hm2, List.length_map])
    all_goals first
      | omega
      | (refine RoundK.step () hi (e0 ?_) ?_
         · clear e0 e1; cases x; cases y; simp_all; done
         · simp only [go_sem, Nat.reduceAdd, Nat.reduceSub, Nat.reduceMul, Nat.reducePow, Nat.reduceEqDiff, Nat.reduceLT, Nat.reduceLeDiff, Nat.reduceBEq, Nat.reduceBNe, Int.reduceToNat, Int.reduceLT, Int.reduceLE, Int.reduceEq, Int.reduceBNe, Int.reduceBEq, Int.reduceAdd, Int.reduceSub, Int.reduceMul, Int.reduceNeg, ↓reduceIte])
      | (rw [e1 ?_]; clear e0 e1; cases x; cases y; simp_all; done)
  · intro _ hdx hI
    have e : decide (a.bs = b.bs) = true := decide_eq_true (ext_list hlen hI)
    simp only [go_sem, Nat.reduceAdd, Nat.reduceSub, Nat.reduceMul, Nat.reducePow, Nat.reduceEqDiff, Nat.reduceLT, Nat.reduceLeDiff, Nat.reduceBEq, Nat.reduceBNe, Int.reduceToNat, Int.reduceLT, Int.reduceLE, Int.reduceEq, Int.reduceBNe, Int.reduceBEq, Int.reduceAdd, Int.reduceSub, Int.reduceMul, Int.reduceNeg, ↓reduceIte, List.length_map, hdx, e]
set_option maxRecDepth 8000 in
theorem keepRoll_spec (a b : RollV) (h : a.small) : Abs.Spec Tryz.prog 54 [] [.agg a.cells, .agg b.cells] [] (.bool (decide (a.ms = b.ms) && (decide (a.ns = b.ns) && decide (a.xs = b.xs)))) := by
  obtain ⟨l1, l2, l3⟩ := h
  have c1 := keepMembers_spec a.ms b.ms (by omega)
  have c2 := keepInsts_spec a.ns b.ns (by omega)
  have c3 := keepAssets_spec a.xs b.xs (by omega)
  simp only [RollV.cells]
  refine Abs.Spec.go (n := 24) (np := 2) (rs := [.tmp 4]) mixed Tryz.func54 rfl rfl rfl rfl rfl (by simp) (by simp) ?_
  simp only [go_sem, Nat.reduceAdd, Nat.reduceSub, Nat.reduceMul, Nat.reducePow, Nat.reduceEqDiff, Nat.reduceLT, Nat.reduceLeDiff, Nat.reduceBEq, Nat.reduceBNe, Int.reduceToNat, Int.reduceLT, Int.reduceLE, Int.reduceEq, Int.reduceBNe, Int.reduceBEq, Int.reduceAdd, Int.reduceSub, Int.reduceMul, Int.reduceNeg, ↓reduceIte]
  repeat' (with_reducible first
      | refine And.intro ?_ ?_
      | exact DrawN.mk (by kernel_rfl)
      | exact OkN.mk (by kernel_rfl)
      | refine CallN.pure (by assumption) ?_
      | refine CallN.pure (c1) ?_
      | refine CallN.pure (c2) ?_
      | refine CallN.pure (c3) ?_
      | refine GuardK.splitDN (fun h => ?_) (fun h => ?_)
      | refine GuardK.splitD (fun h => ?_) (fun h => ?_)
      | refine CondE.splitDN (fun h => ?_) (fun h => ?_)
      | refine CondE.splitD (fun h => ?_) (fun h => ?_)
      | refine GuardK.splitN (fun h => ?_) (fun h => ?_)
      | refine GuardK.split (fun h => ?_) (fun h => ?_)
      | refine CondE.splitN (fun h => ?_) (fun h => ?_)
      | refine CondE.split (fun h => ?_) (fun h => ?_)
      | refine WeakK.id ?_
      | refine RoundK.next (by omega) ?_ ?_
      | exact trivial
      | simp only [*, go_sem, Nat.reduceAdd, Nat.reduceSub, Nat.reduceMul, Nat.reducePow, Nat.reduceEqDiff, Nat.reduceLT, Nat.reduceLeDiff, Nat.reduceBEq, Nat.reduceBNe, Int.reduceToNat, Int.reduceLT, Int.reduceLE, Int.reduceEq, Int.reduceBNe, Int.reduceBEq, Int.reduceAdd, Int.reduceSub, Int.reduceMul, Int.reduceNeg, ↓reduceIte])
  all_goals (simp_all)
set_option maxRecDepth 8000 in
theorem keepBook_spec (a b : BookV) (h : a.small) : Abs.Spec Tryz.prog 55 [] [.agg a.cells, .agg b.cells] [] (.bool (decide (a.next = b.next) && (decide (a.ts = b.ts) && decide (a.qs = b.qs)))) := by
  obtain ⟨l1, l2⟩ := h
  have c1 := keepTrades_spec a.ts b.ts (by omega)
  have c2 := keepPoss_spec a.qs b.qs (by omega)
  simp only [BookV.cells]
  refine Abs.Spec.go (n := 24) (np := 2) (rs := [.tmp 4]) mixed Tryz.func55 rfl rfl rfl rfl rfl (by simp) (by simp) ?_
  simp only [go_sem, Nat.reduceAdd, Nat.reduceSub, Nat.reduceMul, Nat.reducePow, Nat.reduceEqDiff, Nat.reduceLT, Nat.reduceLeDiff, Nat.reduceBEq, Nat.reduceBNe, Int.reduceToNat, Int.reduceLT, Int.reduceLE, Int.reduceEq, Int.reduceBNe, Int.reduceBEq, Int.reduceAdd, Int.reduceSub, Int.reduceMul, Int.reduceNeg, ↓reduceIte]
  repeat' (with_reducible first
      | refine And.intro ?_ ?_
      | exact DrawN.mk (by kernel_rfl)
      | exact OkN.mk (by kernel_rfl)
      | refine CallN.pure (by assumption) ?_
      | refine CallN.pure (c1) ?_
      | refine CallN.pure (c2) ?_
      | refine GuardK.splitDN (fun h => ?_) (fun h => ?_)
      | refine GuardK.splitD (fun h => ?_) (fun h => ?_)
      | refine CondE.splitDN (fun h => ?_) (fun h => ?_)
      | refine CondE.splitD (fun h => ?_) (fun h => ?_)
      | refine GuardK.splitN (fun h => ?_) (fun h => ?_)
      | refine GuardK.split (fun h => ?_) (fun h => ?_)
      | refine CondE.splitN (fun h => ?_) (fun h => ?_)
      | refine CondE.split (fun h => ?_) (fun h => ?_)
      | refine WeakK.id ?_
      | refine RoundK.next (by omega) ?_ ?_
      | exact trivial
      | simp only [*, go_sem, Nat.reduceAdd, Nat.reduceSub, Nat.reduceMul, Nat.reducePow, Nat.reduceEqDiff, Nat.reduceLT, Nat.reduceLeDiff, Nat.reduceBEq, Nat.reduceBNe, Int.reduceToNat, Int.reduceLT, Int.reduceLE, Int.reduceEq, Int.reduceBNe, Int.reduceBEq, Int.reduceAdd, Int.reduceSub, Int.reduceMul, Int.reduceNeg, ↓reduceIte])
  all_goals (rw [Bool.eq_iff_iff]; simp_all)
def sameS (a b : StateV) : Bool := decide (a.now = b.now ∧ a.day = b.day ∧ a.phase = b.phase) && ((decide (a.roll.ms = b.roll.ms) && (decide (a.roll.ns = b.roll.ns) && decide (a.roll.xs = b.roll.xs))) && ((decide (a.book.next = b.book.next) && (decide (a.book.ts = b.book.ts) && decide (a.book.qs = b.book.qs))) &&
  ((decide (a.led.last = b.led.last) && decide (a.led.bs = b.led.bs)) && (decide (a.ps = b.ps) && (decide (a.calls = b.calls) && (decide (a.bids = b.bids) && decide (a.seats = b.seats)))))))
set_option maxRecDepth 8000 in
theorem keepState_spec (a b : StateV) (h : a.small) : Abs.Spec Tryz.prog 12 [] [.agg a.cells, .agg b.cells] [] (.bool (sameS a b)) := by
  have c1 := keepClock_spec a.now a.day a.phase b.now b.day b.phase
  have c2 := keepRoll_spec a.roll b.roll h.roll.small
  have c3 := keepBook_spec a.book b.book h.book
  have c4 := keepLedger_spec a.led b.led (by have := h.led; omega)
  have c5 := same_spec a.ps b.ps (by have := h.ps; omega)
  have c6 := keepCalls_spec a.calls b.calls (by have := h.calls; omega)
  have c7 := keepBids_spec a.bids b.bids (by have := h.bids; omega)
  have c8 := keepSeats_spec a.seats b.seats (by have := h.seats; omega) (fun x hx => by have := h.rs x hx; unfold ReplyV.fits at this; omega)
  simp only [RollV.cells, BookV.cells, LedV.cells] at c2 c3 c4
  obtain ⟨q1, e1⟩ : ∃ q, q = decide (a.now = b.now ∧ a.day = b.day ∧ a.phase = b.phase) := ⟨_, rfl⟩
  obtain ⟨q2, e2⟩ : ∃ q, q = (decide (a.roll.ms = b.roll.ms) && (decide (a.roll.ns = b.roll.ns) && decide (a.roll.xs = b.roll.xs))) := ⟨_, rfl⟩
  obtain ⟨q3, e3⟩ : ∃ q, q = (decide (a.book.next = b.book.next) && (decide (a.book.ts = b.book.ts) && decide (a.book.qs = b.book.qs))) := ⟨_, rfl⟩
  obtain ⟨q4, e4⟩ : ∃ q, q = (decide (a.led.last = b.led.last) && decide (a.led.bs = b.led.bs)) := ⟨_, rfl⟩
  simp only [StateV.cells, sameS]
  rw [← e1] at c1 ⊢
  rw [← e2] at c2 ⊢
  rw [← e3] at c3 ⊢
  rw [← e4] at c4 ⊢
  clear e1 e2 e3 e4 h
  refine Abs.Spec.go (n := 59) (np := 2) (rs := [.tmp 4]) mixed Tryz.func12 rfl rfl rfl rfl rfl (by simp) (by simp) ?_
  simp only [go_sem, Nat.reduceAdd, Nat.reduceSub, Nat.reduceMul, Nat.reducePow, Nat.reduceEqDiff, Nat.reduceLT, Nat.reduceLeDiff, Nat.reduceBEq, Nat.reduceBNe, Int.reduceToNat, Int.reduceLT, Int.reduceLE, Int.reduceEq, Int.reduceBNe, Int.reduceBEq, Int.reduceAdd, Int.reduceSub, Int.reduceMul, Int.reduceNeg, ↓reduceIte]
  refine CallN.pure c1 ?_
  cases q1
  · simp only [go_sem, Nat.reduceAdd, Nat.reduceSub, Nat.reduceMul, Nat.reducePow, Nat.reduceEqDiff, Nat.reduceLT, Nat.reduceLeDiff, Nat.reduceBEq, Nat.reduceBNe, Int.reduceToNat, Int.reduceLT, Int.reduceLE, Int.reduceEq, Int.reduceBNe, Int.reduceBEq, Int.reduceAdd, Int.reduceSub, Int.reduceMul, Int.reduceNeg, ↓reduceIte, Bool.false_and]
  simp only [go_sem, Nat.reduceAdd, Nat.reduceSub, Nat.reduceMul, Nat.reducePow, Nat.reduceEqDiff, Nat.reduceLT, Nat.reduceLeDiff, Nat.reduceBEq, Nat.reduceBNe, Int.reduceToNat, Int.reduceLT, Int.reduceLE, Int.reduceEq, Int.reduceBNe, Int.reduceBEq, Int.reduceAdd, Int.reduceSub, Int.reduceMul, Int.reduceNeg, ↓reduceIte]
  refine CallN.pure c2 ?_
  cases q2
  · simp only [go_sem, Nat.reduceAdd, Nat.reduceSub, Nat.reduceMul, Nat.reducePow, Nat.reduceEqDiff, Nat.reduceLT, Nat.reduceLeDiff, Nat.reduceBEq, Nat.reduceBNe, Int.reduceToNat, Int.reduceLT, Int.reduceLE, Int.reduceEq, Int.reduceBNe, Int.reduceBEq, Int.reduceAdd, Int.reduceSub, Int.reduceMul, Int.reduceNeg, ↓reduceIte, Bool.false_and, Bool.true_and]
  simp only [go_sem, Nat.reduceAdd, Nat.reduceSub, Nat.reduceMul, Nat.reducePow, Nat.reduceEqDiff, Nat.reduceLT, Nat.reduceLeDiff, Nat.reduceBEq, Nat.reduceBNe, Int.reduceToNat, Int.reduceLT, Int.reduceLE, Int.reduceEq, Int.reduceBNe, Int.reduceBEq, Int.reduceAdd, Int.reduceSub, Int.reduceMul, Int.reduceNeg, ↓reduceIte]
  refine CallN.pure c3 ?_
  cases q3
  · simp only [go_sem, Nat.reduceAdd, Nat.reduceSub, Nat.reduceMul, Nat.reducePow, Nat.reduceEqDiff, Nat.reduceLT, Nat.reduceLeDiff, Nat.reduceBEq, Nat.reduceBNe, Int.reduceToNat, Int.reduceLT, Int.reduceLE, Int.reduceEq, Int.reduceBNe, Int.reduceBEq, Int.reduceAdd, Int.reduceSub, Int.reduceMul, Int.reduceNeg, ↓reduceIte, Bool.false_and, Bool.true_and]
  simp only [go_sem, Nat.reduceAdd, Nat.reduceSub, Nat.reduceMul, Nat.reducePow, Nat.reduceEqDiff, Nat.reduceLT, Nat.reduceLeDiff, Nat.reduceBEq, Nat.reduceBNe, Int.reduceToNat, Int.reduceLT, Int.reduceLE, Int.reduceEq, Int.reduceBNe, Int.reduceBEq, Int.reduceAdd, Int.reduceSub, Int.reduceMul, Int.reduceNeg, ↓reduceIte]
  refine CallN.pure c4 ?_
  cases q4
  · simp only [go_sem, Nat.reduceAdd, Nat.reduceSub, Nat.reduceMul, Nat.reducePow, Nat.reduceEqDiff, Nat.reduceLT, Nat.reduceLeDiff, Nat.reduceBEq, Nat.reduceBNe, Int.reduceToNat, Int.reduceLT, Int.reduceLE, Int.reduceEq, Int.reduceBNe, Int.reduceBEq, Int.reduceAdd, Int.reduceSub, Int.reduceMul, Int.reduceNeg, ↓reduceIte, Bool.false_and, Bool.true_and]
  simp only [go_sem, Nat.reduceAdd, Nat.reduceSub, Nat.reduceMul, Nat.reducePow, Nat.reduceEqDiff, Nat.reduceLT, Nat.reduceLeDiff, Nat.reduceBEq, Nat.reduceBNe, Int.reduceToNat, Int.reduceLT, Int.reduceLE, Int.reduceEq, Int.reduceBNe, Int.reduceBEq, Int.reduceAdd, Int.reduceSub, Int.reduceMul, Int.reduceNeg, ↓reduceIte]
  refine CallN.pure c5 ?_
  cases q5 : decide (a.ps = b.ps)
  · simp only [go_sem, Nat.reduceAdd, Nat.reduceSub, Nat.reduceMul, Nat.reducePow, Nat.reduceEqDiff, Nat.reduceLT, Nat.reduceLeDiff, Nat.reduceBEq, Nat.reduceBNe, Int.reduceToNat, Int.reduceLT, Int.reduceLE, Int.reduceEq, Int.reduceBNe, Int.reduceBEq, Int.reduceAdd, Int.reduceSub, Int.reduceMul, Int.reduceNeg, ↓reduceIte, Bool.false_and, Bool.true_and]
  simp only [go_sem, Nat.reduceAdd, Nat.reduceSub, Nat.reduceMul, Nat.reducePow, Nat.reduceEqDiff, Nat.reduceLT, Nat.reduceLeDiff, Nat.reduceBEq, Nat.reduceBNe, Int.reduceToNat, Int.reduceLT, Int.reduceLE, Int.reduceEq, Int.reduceBNe, Int.reduceBEq, Int.reduceAdd, Int.reduceSub, Int.reduceMul, Int.reduceNeg, ↓reduceIte]
  refine CallN.pure c6 ?_
  cases q6 : decide (a.calls = b.calls)
  · simp only [go_sem, Nat.reduceAdd, Nat.reduceSub, Nat.reduceMul, Nat.reducePow, Nat.reduceEqDiff, Nat.reduceLT, Nat.reduceLeDiff, Nat.reduceBEq, Nat.reduceBNe, Int.reduceToNat, Int.reduceLT, Int.reduceLE, Int.reduceEq, Int.reduceBNe, Int.reduceBEq, Int.reduceAdd, Int.reduceSub, Int.reduceMul, Int.reduceNeg, ↓reduceIte, Bool.false_and, Bool.true_and]
  simp only [go_sem, Nat.reduceAdd, Nat.reduceSub, Nat.reduceMul, Nat.reducePow, Nat.reduceEqDiff, Nat.reduceLT, Nat.reduceLeDiff, Nat.reduceBEq, Nat.reduceBNe, Int.reduceToNat, Int.reduceLT, Int.reduceLE, Int.reduceEq, Int.reduceBNe, Int.reduceBEq, Int.reduceAdd, Int.reduceSub, Int.reduceMul, Int.reduceNeg, ↓reduceIte]
  refine CallN.pure c7 ?_
  cases q7 : decide (a.bids = b.bids)
  · simp only [go_sem, Nat.reduceAdd, Nat.reduceSub, Nat.reduceMul, Nat.reducePow, Nat.reduceEqDiff, Nat.reduceLT, Nat.reduceLeDiff, Nat.reduceBEq, Nat.reduceBNe, Int.reduceToNat, Int.reduceLT, Int.reduceLE, Int.reduceEq, Int.reduceBNe, Int.reduceBEq, Int.reduceAdd, Int.reduceSub, Int.reduceMul, Int.reduceNeg, ↓reduceIte, Bool.false_and, Bool.true_and]
  simp only [go_sem, Nat.reduceAdd, Nat.reduceSub, Nat.reduceMul, Nat.reducePow, Nat.reduceEqDiff, Nat.reduceLT, Nat.reduceLeDiff, Nat.reduceBEq, Nat.reduceBNe, Int.reduceToNat, Int.reduceLT, Int.reduceLE, Int.reduceEq, Int.reduceBNe, Int.reduceBEq, Int.reduceAdd, Int.reduceSub, Int.reduceMul, Int.reduceNeg, ↓reduceIte]
  refine CallN.pure c8 ?_
  simp only [go_sem, Nat.reduceAdd, Nat.reduceSub, Nat.reduceMul, Nat.reducePow, Nat.reduceEqDiff, Nat.reduceLT, Nat.reduceLeDiff, Nat.reduceBEq, Nat.reduceBNe, Int.reduceToNat, Int.reduceLT, Int.reduceLE, Int.reduceEq, Int.reduceBNe, Int.reduceBEq, Int.reduceAdd, Int.reduceSub, Int.reduceMul, Int.reduceNeg, ↓reduceIte, Bool.true_and]
theorem sameS_self (a : StateV) : sameS a a = true := by simp [sameS]
end Go.Proofs.YtbllopdcbkeadaaGreat
set_option linter.unusedSimpArgs false
set_option linter.unusedVariables false
namespace Go.Proofs.YtbllopdcbkeadaaGreat
open Go.Abs
end Go.Proofs.YtbllopdcbkeadaaGreat
set_option linter.unusedSimpArgs false
set_option linter.unusedVariables false
namespace Go.Proofs.YtbllopdcbkeadaaGreat
open Go.Abs
def resN (S : Int) : Int := if inR S then S else 0
def resE (S : Int) : Int := if inR S then 0 else 1
theorem inR_in2 {S : Int} (h : in2 S = false) : inR S = false := by
  cases hb : inR S
  · rfl
  · have := inR_iff.1 hb
    have h2 : in2 S = true := by simp only [in2, Bool.and_eq_true, decide_eq_true_eq]; omega
    rw [h] at h2; cases h2
theorem auditSum_spec (l : List Int) (hl : l.length < 2 ^ 58) (hr : ∀ n ∈ l, in2 n = true) : Abs.Spec Tryz.prog 63 [] [.sl 2 (wds l)] [] (.tup [.int .i64 (resN (sumL l)), .int .i64 (resE (sumL l))]) := by
  have hs := wideSum_spec l (by omega) hr
  have hI := wideInt_spec (sumL l)
  refine Abs.Spec.go (n := 18) (np := 1) (rs := [.tmp 2, .tmp 3]) mixed Tryz.func63 rfl rfl rfl rfl rfl (by simp) (by simp) ?_
  cases h2 : in2 (sumL l)
  · have hR := inR_in2 h2
    have hz : wd 0 = [.int .i64 0, .int .u64 0] := rfl
    rw [h2] at hs
    simp only [Bool.false_eq_true, if_false, hz] at hs
    have e1 : resN (sumL l) = 0 := by simp [resN, hR]
    have e2 : resE (sumL l) = 1 := by simp [resE, hR]
    rw [e1, e2]
    simp only [go_sem, Nat.reduceAdd, Nat.reduceSub, Nat.reduceMul, Nat.reducePow, Nat.reduceEqDiff, Nat.reduceLT, Nat.reduceLeDiff, Nat.reduceBEq, Nat.reduceBNe, Int.reduceToNat, Int.reduceLT, Int.reduceLE, Int.reduceEq, Int.reduceBNe, Int.reduceBEq, Int.reduceAdd, Int.reduceSub, Int.reduceMul, Int.reduceNeg, ↓reduceIte]
    refine CallN.gen [] [] true (by simp) ?_
    simp only [go_sem, Nat.reduceAdd, Nat.reduceSub, Nat.reduceMul, Nat.reducePow, Nat.reduceEqDiff, Nat.reduceLT, Nat.reduceLeDiff, Nat.reduceBEq, Nat.reduceBNe, Int.reduceToNat, Int.reduceLT, Int.reduceLE, Int.reduceEq, Int.reduceBNe, Int.reduceBEq, Int.reduceAdd, Int.reduceSub, Int.reduceMul, Int.reduceNeg, ↓reduceIte]
    refine CallG.intro hs ?_
    simp only [go_sem, Nat.reduceAdd, Nat.reduceSub, Nat.reduceMul, Nat.reducePow, Nat.reduceEqDiff, Nat.reduceLT, Nat.reduceLeDiff, Nat.reduceBEq, Nat.reduceBNe, Int.reduceToNat, Int.reduceLT, Int.reduceLE, Int.reduceEq, Int.reduceBNe, Int.reduceBEq, Int.reduceAdd, Int.reduceSub, Int.reduceMul, Int.reduceNeg, ↓reduceIte]
  · rw [h2] at hs
    simp only [if_true] at hs
    simp only [wd] at hs hI
    simp only [go_sem, Nat.reduceAdd, Nat.reduceSub, Nat.reduceMul, Nat.reducePow, Nat.reduceEqDiff, Nat.reduceLT, Nat.reduceLeDiff, Nat.reduceBEq, Nat.reduceBNe, Int.reduceToNat, Int.reduceLT, Int.reduceLE, Int.reduceEq, Int.reduceBNe, Int.reduceBEq, Int.reduceAdd, Int.reduceSub, Int.reduceMul, Int.reduceNeg, ↓reduceIte]
    refine CallN.gen [] [] true (by simp) ?_
    simp only [go_sem, Nat.reduceAdd, Nat.reduceSub, Nat.reduceMul, Nat.reducePow, Nat.reduceEqDiff, Nat.reduceLT, Nat.reduceLeDiff, Nat.reduceBEq, Nat.reduceBNe, Int.reduceToNat, Int.reduceLT, Int.reduceLE, Int.reduceEq, Int.reduceBNe, Int.reduceBEq, Int.reduceAdd, Int.reduceSub, Int.reduceMul, Int.reduceNeg, ↓reduceIte]
    refine CallG.intro hs ?_
    simp only [go_sem, Nat.reduceAdd, Nat.reduceSub, Nat.reduceMul, Nat.reducePow, Nat.reduceEqDiff, Nat.reduceLT, Nat.reduceLeDiff, Nat.reduceBEq, Nat.reduceBNe, Int.reduceToNat, Int.reduceLT, Int.reduceLE, Int.reduceEq, Int.reduceBNe, Int.reduceBEq, Int.reduceAdd, Int.reduceSub, Int.reduceMul, Int.reduceNeg, ↓reduceIte]
    refine CallN.pure hI ?_
    simp only [go_sem, Nat.reduceAdd, Nat.reduceSub, Nat.reduceMul, Nat.reducePow, Nat.reduceEqDiff, Nat.reduceLT, Nat.reduceLeDiff, Nat.reduceBEq, Nat.reduceBNe, Int.reduceToNat, Int.reduceLT, Int.reduceLE, Int.reduceEq, Int.reduceBNe, Int.reduceBEq, Int.reduceAdd, Int.reduceSub, Int.reduceMul, Int.reduceNeg, ↓reduceIte, resN, resE]
theorem in2_i64 {n : Int} (h : I64 n) : in2 n = true := in2_of (B := 9223372036854775808) ⟨h.1, by have := h.2; omega⟩ (by omega)
theorem auditQty_spec (s : StateV) (n : Int) (hr : s.rng) (hl : s.book.qs.length < 2 ^ 30) : Abs.Spec Tryz.prog 15 [] [.agg s.cells, .int .i64 n] [] (.tup [.int .i64 (resN (sumL (qtysL n s.book.qs))), .int .i64 (resE (sumL (qtysL n s.book.qs)))]) := by
  have hq := qtysL_len n s.book.qs
  have hS := auditSum_spec (qtysL n s.book.qs) (by omega) (fun q hq => in2_i64 (qtysL_rng hr.qs q hq))
  simp only [StateV.cells]
  refine Abs.Spec.go (n := 33) (np := 2) (rs := [.tmp 4, .tmp 5]) mixed Tryz.func15 rfl rfl rfl rfl rfl (by simp) (by simp) ?_
  simp only [go_sem, Nat.reduceAdd, Nat.reduceSub, Nat.reduceMul, Nat.reducePow, Nat.reduceEqDiff, Nat.reduceLT, Nat.reduceLeDiff, Nat.reduceBEq, Nat.reduceBNe, Int.reduceToNat, Int.reduceLT, Int.reduceLE, Int.reduceEq, Int.reduceBNe, Int.reduceBEq, Int.reduceAdd, Int.reduceSub, Int.reduceMul, Int.reduceNeg, ↓reduceIte, List.length_map]
  refine LoopK.walk (S := Unit) s.book.qs.length [1, 11, 12] [48, 208] (fun i _ => [(13, .int .i64 i), (6, .ref 448)]) (fun i _ => [(448, .own 2 (wds (qtysL n (s.book.qs.take i))))]) (fun _ _ => True) () (by simp only [go_sem, Nat.reduceAdd, Nat.reduceSub, Nat.reduceMul, Nat.reducePow, Nat.reduceEqDiff, Nat.reduceLT, Nat.reduceLeDiff, Nat.reduceBEq, Nat.reduceBNe, Int.reduceToNat, Int.reduceLT, Int.reduceLE, Int.reduceEq, Int.reduceBNe, Int.reduceBEq, Int.reduceAdd, Int.reduceSub, Int.reduceMul, Int.reduceNeg, ↓reduceIte] <;> exact rfl) (by simp only [go_sem, Nat.reduceAdd, Nat.reduceSub, Nat.reduceMul, Nat.reducePow, Nat.reduceEqDiff, Nat.reduceLT, Nat.reduceLeDiff, Nat.reduceBEq, Nat.reduceBNe, Int.reduceToNat, Int.reduceLT, Int.reduceLE, Int.reduceEq, Int.reduceBNe, Int.reduceBEq, Int.reduceAdd, Int.reduceSub, Int.reduceMul, Int.reduceNeg, ↓reduceIte] <;> exact rfl) trivial ?_ ?_ ?_
  · simp only [go_sem, Nat.reduceAdd, Nat.reduceSub, Nat.reduceMul, Nat.reducePow, Nat.reduceEqDiff, Nat.reduceLT, Nat.reduceLeDiff, Nat.reduceBEq, Nat.reduceBNe, Int.reduceToNat, Int.reduceLT, Int.reduceLE, Int.reduceEq, Int.reduceBNe, Int.reduceBEq, Int.reduceAdd, Int.reduceSub, Int.reduceMul, Int.reduceNeg, ↓reduceIte] <;> simp [qtysL, wds]
  · intro i _ hi hdi hwi _
    have hm := map_at (c := PosV.cells) s.book.qs hi
    have hs := qtysL_step n s.book.qs hi
    have hlen := qtysL_len n (s.book.qs.take i)
    have hlt : (s.book.qs.take i).length = i := by simp; omega
    have hO := wideOf_spec s.book.qs[i].qty (hr.qs _ (List.getElem_mem hi)).2.2.1
    simp only [PosV.cells] at hm
    simp only [wd] at hO
    simp only [go_sem, Nat.reduceAdd, Nat.reduceSub, Nat.reduceMul, Nat.reducePow, Nat.reduceEqDiff, Nat.reduceLT, Nat.reduceLeDiff, Nat.reduceBEq, Nat.reduceBNe, Int.reduceToNat, Int.reduceLT, Int.reduceLE, Int.reduceEq, Int.reduceBNe, Int.reduceBEq, Int.reduceAdd, Int.reduceSub, Int.reduceMul, Int.reduceNeg, ↓reduceIte, hdi, hm]
    (repeat' (with_reducible first | refine And.intro ?_ ?_ | exact DrawN.mk (by kernel_rfl) | exact OkN.mk (by kernel_rfl))) <;> try omega
    cases hb : s.book.qs[i].inst == n
    · simp only [hb, Bool.false_eq_true, if_false] at hs
      simp only [go_sem, Nat.reduceAdd, Nat.reduceSub, Nat.reduceMul, Nat.reducePow, Nat.reduceEqDiff, Nat.reduceLT, Nat.reduceLeDiff, Nat.reduceBEq, Nat.reduceBNe, Int.reduceToNat, Int.reduceLT, Int.reduceLE, Int.reduceEq, Int.reduceBNe, Int.reduceBEq, Int.reduceAdd, Int.reduceSub, Int.reduceMul, Int.reduceNeg, ↓reduceIte, hwi]
      refine RoundK.step () hi trivial ?_
      simp only [go_sem, Nat.reduceAdd, Nat.reduceSub, Nat.reduceMul, Nat.reducePow, Nat.reduceEqDiff, Nat.reduceLT, Nat.reduceLeDiff, Nat.reduceBEq, Nat.reduceBNe, Int.reduceToNat, Int.reduceLT, Int.reduceLE, Int.reduceEq, Int.reduceBNe, Int.reduceBEq, Int.reduceAdd, Int.reduceSub, Int.reduceMul, Int.reduceNeg, ↓reduceIte, hs]
    · simp only [hb, if_true] at hs
      simp only [go_sem, Nat.reduceAdd, Nat.reduceSub, Nat.reduceMul, Nat.reducePow, Nat.reduceEqDiff, Nat.reduceLT, Nat.reduceLeDiff, Nat.reduceBEq, Nat.reduceBNe, Int.reduceToNat, Int.reduceLT, Int.reduceLE, Int.reduceEq, Int.reduceBNe, Int.reduceBEq, Int.reduceAdd, Int.reduceSub, Int.reduceMul, Int.reduceNeg, ↓reduceIte]
      refine CallN.pure hO ?_
      have hwl : (wds (qtysL n (s.book.qs.take i))).length ≤ i := by simp [wds]; omega
      simp only [go_sem, Nat.reduceAdd, Nat.reduceSub, Nat.reduceMul, Nat.reducePow, Nat.reduceEqDiff, Nat.reduceLT, Nat.reduceLeDiff, Nat.reduceBEq, Nat.reduceBNe, Int.reduceToNat, Int.reduceLT, Int.reduceLE, Int.reduceEq, Int.reduceBNe, Int.reduceBEq, Int.reduceAdd, Int.reduceSub, Int.reduceMul, Int.reduceNeg, ↓reduceIte, hwi]
      (repeat' (with_reducible first | refine And.intro ?_ ?_ | exact DrawN.mk (by kernel_rfl) | exact OkN.mk (by kernel_rfl))) <;> try omega
      refine RoundK.step () hi trivial ?_
      simp only [go_sem, Nat.reduceAdd, Nat.reduceSub, Nat.reduceMul, Nat.reducePow, Nat.reduceEqDiff, Nat.reduceLT, Nat.reduceLeDiff, Nat.reduceBEq, Nat.reduceBNe, Int.reduceToNat, Int.reduceLT, Int.reduceLE, Int.reduceEq, Int.reduceBNe, Int.reduceBEq, Int.reduceAdd, Int.reduceSub, Int.reduceMul, Int.reduceNeg, ↓reduceIte, hs] <;> simp [wds, wd]
  · intro _ hdx _
    simp only [go_sem, Nat.reduceAdd, Nat.reduceSub, Nat.reduceMul, Nat.reducePow, Nat.reduceEqDiff, Nat.reduceLT, Nat.reduceLeDiff, Nat.reduceBEq, Nat.reduceBNe, Int.reduceToNat, Int.reduceLT, Int.reduceLE, Int.reduceEq, Int.reduceBNe, Int.reduceBEq, Int.reduceAdd, Int.reduceSub, Int.reduceMul, Int.reduceNeg, ↓reduceIte, hdx, List.take_length]
    refine CallN.gen [] [] true (by simp) ?_
    simp only [go_sem, Nat.reduceAdd, Nat.reduceSub, Nat.reduceMul, Nat.reducePow, Nat.reduceEqDiff, Nat.reduceLT, Nat.reduceLeDiff, Nat.reduceBEq, Nat.reduceBNe, Int.reduceToNat, Int.reduceLT, Int.reduceLE, Int.reduceEq, Int.reduceBNe, Int.reduceBEq, Int.reduceAdd, Int.reduceSub, Int.reduceMul, Int.reduceNeg, ↓reduceIte]
    refine CallG.intro hS ?_
    simp only [go_sem, Nat.reduceAdd, Nat.reduceSub, Nat.reduceMul, Nat.reducePow, Nat.reduceEqDiff, Nat.reduceLT, Nat.reduceLeDiff, Nat.reduceBEq, Nat.reduceBNe, Int.reduceToNat, Int.reduceLT, Int.reduceLE, Int.reduceEq, Int.reduceBNe, Int.reduceBEq, Int.reduceAdd, Int.reduceSub, Int.reduceMul, Int.reduceNeg, ↓reduceIte]
theorem index_spec (ks : List Int) (k : Int) (hl : ks.length < 2 ^ 62) : Abs.Spec Tryz.prog 142 [] [.sl 1 (ints ks), .int .i64 k] [] (.int .i64 (posL id k ks)) := by
  refine Abs.Spec.go (n := 19) (np := 2) (rs := [.tmp 4]) mixed Tryz.func142 rfl rfl rfl rfl rfl (by simp) (by simp) ?_
  simp only [go_sem, Nat.reduceAdd, Nat.reduceSub, Nat.reduceMul, Nat.reducePow, Nat.reduceEqDiff, Nat.reduceLT, Nat.reduceLeDiff, Nat.reduceBEq, Nat.reduceBNe, Int.reduceToNat, Int.reduceLT, Int.reduceLE, Int.reduceEq, Int.reduceBNe, Int.reduceBEq, Int.reduceAdd, Int.reduceSub, Int.reduceMul, Int.reduceNeg, ↓reduceIte, ints_len]
  refine LoopK.walk (S := Unit) ks.length [0, 1, 7] [] (fun i _ => [(8, .int .i64 i)]) (fun i _ => []) (fun i _ => ∀ j (hj : j < ks.length), j < i → id ks[j] ≠ k) () (by simp only [go_sem, Nat.reduceAdd, Nat.reduceSub, Nat.reduceMul, Nat.reducePow, Nat.reduceEqDiff, Nat.reduceLT, Nat.reduceLeDiff, Nat.reduceBEq, Nat.reduceBNe, Int.reduceToNat, Int.reduceLT, Int.reduceLE, Int.reduceEq, Int.reduceBNe, Int.reduceBEq, Int.reduceAdd, Int.reduceSub, Int.reduceMul, Int.reduceNeg, ↓reduceIte] <;> exact rfl) (by simp only [go_sem, Nat.reduceAdd, Nat.reduceSub, Nat.reduceMul, Nat.reducePow, Nat.reduceEqDiff, Nat.reduceLT, Nat.reduceLeDiff, Nat.reduceBEq, Nat.reduceBNe, Int.reduceToNat, Int.reduceLT, Int.reduceLE, Int.reduceEq, Int.reduceBNe, Int.reduceBEq, Int.reduceAdd, Int.reduceSub, Int.reduceMul, Int.reduceNeg, ↓reduceIte] <;> exact rfl) (by intros; omega) ?_ ?_ ?_
  · simp only [go_sem, Nat.reduceAdd, Nat.reduceSub, Nat.reduceMul, Nat.reducePow, Nat.reduceEqDiff, Nat.reduceLT, Nat.reduceLeDiff, Nat.reduceBEq, Nat.reduceBNe, Int.reduceToNat, Int.reduceLT, Int.reduceLE, Int.reduceEq, Int.reduceBNe, Int.reduceBEq, Int.reduceAdd, Int.reduceSub, Int.reduceMul, Int.reduceNeg, ↓reduceIte] <;> simp
  · intro i _ hi hdi hw hI
    have hli : (i : Int) < (ks.length : Int) := by omega
    simp only [go_sem, Nat.reduceAdd, Nat.reduceSub, Nat.reduceMul, Nat.reducePow, Nat.reduceEqDiff, Nat.reduceLT, Nat.reduceLeDiff, Nat.reduceBEq, Nat.reduceBNe, Int.reduceToNat, Int.reduceLT, Int.reduceLE, Int.reduceEq, Int.reduceBNe, Int.reduceBEq, Int.reduceAdd, Int.reduceSub, Int.reduceMul, Int.reduceNeg, ↓reduceIte, hdi, ints_len, ints_at ks hi]
    (repeat' (with_reducible first | refine And.intro ?_ ?_ | exact DrawN.mk (by kernel_rfl) | exact OkN.mk (by kernel_rfl))) <;> try omega
    cases hb : k == ks[i]
    · have hb2 : id ks[i] ≠ k := fun h => by simp only [id] at h; rw [h] at hb; simp at hb
      simp only [go_sem, Nat.reduceAdd, Nat.reduceSub, Nat.reduceMul, Nat.reducePow, Nat.reduceEqDiff, Nat.reduceLT, Nat.reduceLeDiff, Nat.reduceBEq, Nat.reduceBNe, Int.reduceToNat, Int.reduceLT, Int.reduceLE, Int.reduceEq, Int.reduceBNe, Int.reduceBEq, Int.reduceAdd, Int.reduceSub, Int.reduceMul, Int.reduceNeg, ↓reduceIte, hw]
      refine RoundK.step () hi ?_ ?_
      · intro j hj hji
        rcases Nat.lt_or_ge j i with h | h
        · exact hI j hj h
        · obtain rfl : j = i := by omega
          exact hb2
      · simp only [go_sem, Nat.reduceAdd, Nat.reduceSub, Nat.reduceMul, Nat.reducePow, Nat.reduceEqDiff, Nat.reduceLT, Nat.reduceLeDiff, Nat.reduceBEq, Nat.reduceBNe, Int.reduceToNat, Int.reduceLT, Int.reduceLE, Int.reduceEq, Int.reduceBNe, Int.reduceBEq, Int.reduceAdd, Int.reduceSub, Int.reduceMul, Int.reduceNeg, ↓reduceIte]
    · have hb2 : id ks[i] = k := by simp only [id]; have := of_beq_int hb; omega
      obtain ⟨g1, g2⟩ := getL_hit (z := (0 : Int)) hi hI hb2
      rw [g2]
      simp only [go_sem, Nat.reduceAdd, Nat.reduceSub, Nat.reduceMul, Nat.reducePow, Nat.reduceEqDiff, Nat.reduceLT, Nat.reduceLeDiff, Nat.reduceBEq, Nat.reduceBNe, Int.reduceToNat, Int.reduceLT, Int.reduceLE, Int.reduceEq, Int.reduceBNe, Int.reduceBEq, Int.reduceAdd, Int.reduceSub, Int.reduceMul, Int.reduceNeg, ↓reduceIte]
  · intro _ hdx hI
    obtain ⟨g1, g2⟩ := getL_miss (z := (0 : Int)) (fun j hj => hI j hj hj)
    rw [g2]
    simp only [go_sem, Nat.reduceAdd, Nat.reduceSub, Nat.reduceMul, Nat.reducePow, Nat.reduceEqDiff, Nat.reduceLT, Nat.reduceLeDiff, Nat.reduceBEq, Nat.reduceBNe, Int.reduceToNat, Int.reduceLT, Int.reduceLE, Int.reduceEq, Int.reduceBNe, Int.reduceBEq, Int.reduceAdd, Int.reduceSub, Int.reduceMul, Int.reduceNeg, ↓reduceIte, hdx]
theorem pos_any {A : Type} {no : A → Int} {n : Int} : ∀ {xs : List A}, decide (0 ≤ posL no n xs) = xs.any (fun x => no x == n)
  | [] => by simp [posL]
  | x :: r => by
    have ih := pos_any (no := no) (n := n) (xs := r)
    rw [Bool.eq_iff_iff, decide_eq_true_iff] at ih ⊢
    rw [List.any_cons, Bool.or_eq_true, ← ih, beq_iff_eq]
    simp only [posL]
    split
    · simp [*]
    · rename_i h1
      split
      · exact ⟨fun h => by omega, fun h => by rcases h with h | h; exact (h1 h).elim; omega⟩
      · exact ⟨fun _ => .inr (by omega), fun h => by omega⟩
theorem contains_spec (ks : List Int) (k : Int) (hl : ks.length < 2 ^ 62) : Abs.Spec Tryz.prog 66 [] [.sl 1 (ints ks), .int .i64 k] [] (.bool (inK ks k)) := by
  have h := index_spec ks k hl
  have e : decide (0 ≤ posL id k ks) = inK ks k := by rw [pos_any]; rfl
  refine Abs.Spec.go (n := 9) (np := 2) (rs := [.tmp 4]) mixed Tryz.func66 rfl rfl rfl rfl rfl (by simp) (by simp) ?_
  simp only [go_sem, Nat.reduceAdd, Nat.reduceSub, Nat.reduceMul, Nat.reducePow, Nat.reduceEqDiff, Nat.reduceLT, Nat.reduceLeDiff, Nat.reduceBEq, Nat.reduceBNe, Int.reduceToNat, Int.reduceLT, Int.reduceLE, Int.reduceEq, Int.reduceBNe, Int.reduceBEq, Int.reduceAdd, Int.reduceSub, Int.reduceMul, Int.reduceNeg, ↓reduceIte]
  refine CallN.pure h ?_
  simp only [go_sem, Nat.reduceAdd, Nat.reduceSub, Nat.reduceMul, Nat.reducePow, Nat.reduceEqDiff, Nat.reduceLT, Nat.reduceLeDiff, Nat.reduceBEq, Nat.reduceBNe, Int.reduceToNat, Int.reduceLT, Int.reduceLE, Int.reduceEq, Int.reduceBNe, Int.reduceBEq, Int.reduceAdd, Int.reduceSub, Int.reduceMul, Int.reduceNeg, ↓reduceIte, e]
def monB (ks : List Int) (k : Int) : Bool := decide (ks.length = 0) || inK ks k
def monL (c : Int) (ks : List Int) (bs : List BalV) : List Int := (bs.filter fun b => b.cur == c && monB ks b.kind).map BalV.sum
theorem monL_step (c : Int) (ks : List Int) (bs : List BalV) {i : Nat} (h : i < bs.length) : monL c ks (bs.take (i + 1)) = if bs[i].cur == c && monB ks bs[i].kind then monL c ks (bs.take i) ++ [bs[i].sum] else monL c ks (bs.take i) := by
  simp only [monL]
  rw [List.take_succ_eq_append_getElem h, List.filter_append, List.map_append]
  cases hb : (bs[i].cur == c && monB ks bs[i].kind) <;> simp [List.filter, hb]
theorem monL_len (c : Int) (ks : List Int) (bs : List BalV) : (monL c ks bs).length ≤ bs.length := by
  simp only [monL, List.length_map]; exact List.length_filter_le _ _
theorem monL_rng {c : Int} {ks : List Int} {bs : List BalV} (h : ∀ b ∈ bs, b.rng) : ∀ n ∈ monL c ks bs, I64 n := by
  intro n hn
  simp only [monL, List.mem_map, List.mem_filter] at hn
  obtain ⟨b, ⟨hb, _⟩, rfl⟩ := hn
  exact (h b hb).2.2.2
set_option maxRecDepth 8000 in
theorem auditMoney_spec (s : StateV) (c : Int) (ks : List Int) (hr : s.rng) (hl : s.led.bs.length < 2 ^ 30) (hk : ks.length < 2 ^ 30) : Abs.Spec Tryz.prog 17 [] [.agg s.cells, .int .i64 c, .sl 1 (ints ks)] [] (.tup [.int .i64 (resN (sumL (monL c ks s.led.bs))), .int .i64 (resE (sumL (monL c ks s.led.bs)))]) := by
  have hq := monL_len c ks s.led.bs
  have hS := auditSum_spec (monL c ks s.led.bs) (by omega) (fun q hq => in2_i64 (monL_rng hr.bs q hq))
  simp only [StateV.cells]
  refine Abs.Spec.go (n := 47) (np := 3) (rs := [.tmp 6, .tmp 7]) mixed Tryz.func17 rfl rfl rfl rfl rfl (by simp) (by simp) ?_
  simp only [go_sem, Nat.reduceAdd, Nat.reduceSub, Nat.reduceMul, Nat.reducePow, Nat.reduceEqDiff, Nat.reduceLT, Nat.reduceLeDiff, Nat.reduceBEq, Nat.reduceBNe, Int.reduceToNat, Int.reduceLT, Int.reduceLE, Int.reduceEq, Int.reduceBNe, Int.reduceBEq, Int.reduceAdd, Int.reduceSub, Int.reduceMul, Int.reduceNeg, ↓reduceIte, List.length_map]
  refine LoopK.walk (S := Unit) s.led.bs.length [1, 2, 13, 14] [64, 240] (fun i _ => [(15, .int .i64 i), (8, .ref 672)]) (fun i _ => [(672, .own 2 (wds (monL c ks (s.led.bs.take i))))]) (fun _ _ => True) () (by simp only [go_sem, Nat.reduceAdd, Nat.reduceSub, Nat.reduceMul, Nat.reducePow, Nat.reduceEqDiff, Nat.reduceLT, Nat.reduceLeDiff, Nat.reduceBEq, Nat.reduceBNe, Int.reduceToNat, Int.reduceLT, Int.reduceLE, Int.reduceEq, Int.reduceBNe, Int.reduceBEq, Int.reduceAdd, Int.reduceSub, Int.reduceMul, Int.reduceNeg, ↓reduceIte] <;> exact rfl) (by simp only [go_sem, Nat.reduceAdd, Nat.reduceSub, Nat.reduceMul, Nat.reducePow, Nat.reduceEqDiff, Nat.reduceLT, Nat.reduceLeDiff, Nat.reduceBEq, Nat.reduceBNe, Int.reduceToNat, Int.reduceLT, Int.reduceLE, Int.reduceEq, Int.reduceBNe, Int.reduceBEq, Int.reduceAdd, Int.reduceSub, Int.reduceMul, Int.reduceNeg, ↓reduceIte] <;> exact rfl) trivial ?_ ?_ ?_
  · simp only [go_sem, Nat.reduceAdd, Nat.reduceSub, Nat.reduceMul, Nat.reducePow, Nat.reduceEqDiff, Nat.reduceLT, Nat.reduceLeDiff, Nat.reduceBEq, Nat.reduceBNe, Int.reduceToNat, Int.reduceLT, Int.reduceLE, Int.reduceEq, Int.reduceBNe, Int.reduceBEq, Int.reduceAdd, Int.reduceSub, Int.reduceMul, Int.reduceNeg, ↓reduceIte] <;> simp [monL, wds]
  · intro i _ hi hdi hwi _
    have hm := map_at (c := BalV.cells) s.led.bs hi
    have hs := monL_step c ks s.led.bs hi
    have hlen := monL_len c ks (s.led.bs.take i)
    have hlt : (s.led.bs.take i).length = i := by simp; omega
    obtain ⟨z, hz⟩ : ∃ z, z = s.led.bs[i] := ⟨_, rfl⟩
    have hO := wideOf_spec z.sum (by rw [hz]; exact (hr.bs _ (List.getElem_mem hi)).2.2.2)
    have hC := contains_spec ks z.kind (by omega)
    have hwl : (wds (monL c ks (s.led.bs.take i))).length ≤ i := by simp [wds]; omega
    rw [← hz] at hm hs
    simp only [BalV.cells] at hm
    simp only [wd] at hO
    simp only [go_sem, Nat.reduceAdd, Nat.reduceSub, Nat.reduceMul, Nat.reducePow, Nat.reduceEqDiff, Nat.reduceLT, Nat.reduceLeDiff, Nat.reduceBEq, Nat.reduceBNe, Int.reduceToNat, Int.reduceLT, Int.reduceLE, Int.reduceEq, Int.reduceBNe, Int.reduceBEq, Int.reduceAdd, Int.reduceSub, Int.reduceMul, Int.reduceNeg, ↓reduceIte, hdi, hm]
    (repeat' (with_reducible first | refine And.intro ?_ ?_ | exact DrawN.mk (by kernel_rfl) | exact OkN.mk (by kernel_rfl))) <;> try omega
    cases b1 : z.cur == c
    · simp only [b1, Bool.false_and, Bool.false_eq_true, if_false] at hs
      simp only [go_sem, Nat.reduceAdd, Nat.reduceSub, Nat.reduceMul, Nat.reducePow, Nat.reduceEqDiff, Nat.reduceLT, Nat.reduceLeDiff, Nat.reduceBEq, Nat.reduceBNe, Int.reduceToNat, Int.reduceLT, Int.reduceLE, Int.reduceEq, Int.reduceBNe, Int.reduceBEq, Int.reduceAdd, Int.reduceSub, Int.reduceMul, Int.reduceNeg, ↓reduceIte, hwi]
      refine RoundK.step () hi trivial ?_
      simp only [go_sem, Nat.reduceAdd, Nat.reduceSub, Nat.reduceMul, Nat.reducePow, Nat.reduceEqDiff, Nat.reduceLT, Nat.reduceLeDiff, Nat.reduceBEq, Nat.reduceBNe, Int.reduceToNat, Int.reduceLT, Int.reduceLE, Int.reduceEq, Int.reduceBNe, Int.reduceBEq, Int.reduceAdd, Int.reduceSub, Int.reduceMul, Int.reduceNeg, ↓reduceIte, hs]
    cases b2 : decide (ks.length = 0)
    case true =>
      have b2' : ((ks.length : Int) == 0) = true := by rw [beq_iff_eq]; have := of_decide_eq_true b2; omega
      simp only [b1, monB, b2, Bool.true_or, Bool.and_self, if_true] at hs
      simp only [go_sem, Nat.reduceAdd, Nat.reduceSub, Nat.reduceMul, Nat.reducePow, Nat.reduceEqDiff, Nat.reduceLT, Nat.reduceLeDiff, Nat.reduceBEq, Nat.reduceBNe, Int.reduceToNat, Int.reduceLT, Int.reduceLE, Int.reduceEq, Int.reduceBNe, Int.reduceBEq, Int.reduceAdd, Int.reduceSub, Int.reduceMul, Int.reduceNeg, ↓reduceIte, ints_len, b2']
      refine CallN.pure hO ?_
      simp only [go_sem, Nat.reduceAdd, Nat.reduceSub, Nat.reduceMul, Nat.reducePow, Nat.reduceEqDiff, Nat.reduceLT, Nat.reduceLeDiff, Nat.reduceBEq, Nat.reduceBNe, Int.reduceToNat, Int.reduceLT, Int.reduceLE, Int.reduceEq, Int.reduceBNe, Int.reduceBEq, Int.reduceAdd, Int.reduceSub, Int.reduceMul, Int.reduceNeg, ↓reduceIte, hwi]
      (repeat' (with_reducible first | refine And.intro ?_ ?_ | exact DrawN.mk (by kernel_rfl) | exact OkN.mk (by kernel_rfl))) <;> try omega
      refine RoundK.step () hi trivial ?_
      simp only [go_sem, Nat.reduceAdd, Nat.reduceSub, Nat.reduceMul, Nat.reducePow, Nat.reduceEqDiff, Nat.reduceLT, Nat.reduceLeDiff, Nat.reduceBEq, Nat.reduceBNe, Int.reduceToNat, Int.reduceLT, Int.reduceLE, Int.reduceEq, Int.reduceBNe, Int.reduceBEq, Int.reduceAdd, Int.reduceSub, Int.reduceMul, Int.reduceNeg, ↓reduceIte, hs] <;> simp [wds, wd]
    have b2' : ((ks.length : Int) == 0) = false := by rw [beq_eq_false_iff_ne]; have := of_decide_eq_false b2; omega
    simp only [go_sem, Nat.reduceAdd, Nat.reduceSub, Nat.reduceMul, Nat.reducePow, Nat.reduceEqDiff, Nat.reduceLT, Nat.reduceLeDiff, Nat.reduceBEq, Nat.reduceBNe, Int.reduceToNat, Int.reduceLT, Int.reduceLE, Int.reduceEq, Int.reduceBNe, Int.reduceBEq, Int.reduceAdd, Int.reduceSub, Int.reduceMul, Int.reduceNeg, ↓reduceIte, ints_len, b2']
    refine CallN.pure hC ?_
    cases b3 : inK ks z.kind
    · simp only [b1, monB, b2, b3, Bool.or_self, Bool.and_false, Bool.false_eq_true, if_false] at hs
      simp only [go_sem, Nat.reduceAdd, Nat.reduceSub, Nat.reduceMul, Nat.reducePow, Nat.reduceEqDiff, Nat.reduceLT, Nat.reduceLeDiff, Nat.reduceBEq, Nat.reduceBNe, Int.reduceToNat, Int.reduceLT, Int.reduceLE, Int.reduceEq, Int.reduceBNe, Int.reduceBEq, Int.reduceAdd, Int.reduceSub, Int.reduceMul, Int.reduceNeg, ↓reduceIte, hwi]
      refine RoundK.step () hi trivial ?_
      simp only [go_sem, Nat.reduceAdd, Nat.reduceSub, Nat.reduceMul, Nat.reducePow, Nat.reduceEqDiff, Nat.reduceLT, Nat.reduceLeDiff, Nat.reduceBEq, Nat.reduceBNe, Int.reduceToNat, Int.reduceLT, Int.reduceLE, Int.reduceEq, Int.reduceBNe, Int.reduceBEq, Int.reduceAdd, Int.reduceSub, Int.reduceMul, Int.reduceNeg, ↓reduceIte, hs]
    · simp only [b1, monB, b2, b3, Bool.false_or, Bool.and_self, if_true] at hs
      simp only [go_sem, Nat.reduceAdd, Nat.reduceSub, Nat.reduceMul, Nat.reducePow, Nat.reduceEqDiff, Nat.reduceLT, Nat.reduceLeDiff, Nat.reduceBEq, Nat.reduceBNe, Int.reduceToNat, Int.reduceLT, Int.reduceLE, Int.reduceEq, Int.reduceBNe, Int.reduceBEq, Int.reduceAdd, Int.reduceSub, Int.reduceMul, Int.reduceNeg, ↓reduceIte]
      refine CallN.pure hO ?_
      simp only [go_sem, Nat.reduceAdd, Nat.reduceSub, Nat.reduceMul, Nat.reducePow, Nat.reduceEqDiff, Nat.reduceLT, Nat.reduceLeDiff, Nat.reduceBEq, Nat.reduceBNe, Int.reduceToNat, Int.reduceLT, Int.reduceLE, Int.reduceEq, Int.reduceBNe, Int.reduceBEq, Int.reduceAdd, Int.reduceSub, Int.reduceMul, Int.reduceNeg, ↓reduceIte, hwi]
      (repeat' (with_reducible first | refine And.intro ?_ ?_ | exact DrawN.mk (by kernel_rfl) | exact OkN.mk (by kernel_rfl))) <;> try omega
      refine RoundK.step () hi trivial ?_
      simp only [go_sem, Nat.reduceAdd, Nat.reduceSub, Nat.reduceMul, Nat.reducePow, Nat.reduceEqDiff, Nat.reduceLT, Nat.reduceLeDiff, Nat.reduceBEq, Nat.reduceBNe, Int.reduceToNat, Int.reduceLT, Int.reduceLE, Int.reduceEq, Int.reduceBNe, Int.reduceBEq, Int.reduceAdd, Int.reduceSub, Int.reduceMul, Int.reduceNeg, ↓reduceIte, hs] <;> simp [wds, wd]
  · intro _ hdx _
    simp only [go_sem, Nat.reduceAdd, Nat.reduceSub, Nat.reduceMul, Nat.reducePow, Nat.reduceEqDiff, Nat.reduceLT, Nat.reduceLeDiff, Nat.reduceBEq, Nat.reduceBNe, Int.reduceToNat, Int.reduceLT, Int.reduceLE, Int.reduceEq, Int.reduceBNe, Int.reduceBEq, Int.reduceAdd, Int.reduceSub, Int.reduceMul, Int.reduceNeg, ↓reduceIte, hdx, List.take_length]
    refine CallN.gen [] [] true (by simp) ?_
    simp only [go_sem, Nat.reduceAdd, Nat.reduceSub, Nat.reduceMul, Nat.reducePow, Nat.reduceEqDiff, Nat.reduceLT, Nat.reduceLeDiff, Nat.reduceBEq, Nat.reduceBNe, Int.reduceToNat, Int.reduceLT, Int.reduceLE, Int.reduceEq, Int.reduceBNe, Int.reduceBEq, Int.reduceAdd, Int.reduceSub, Int.reduceMul, Int.reduceNeg, ↓reduceIte]
    refine CallG.intro hS ?_
    simp only [go_sem, Nat.reduceAdd, Nat.reduceSub, Nat.reduceMul, Nat.reducePow, Nat.reduceEqDiff, Nat.reduceLT, Nat.reduceLeDiff, Nat.reduceBEq, Nat.reduceBNe, Int.reduceToNat, Int.reduceLT, Int.reduceLE, Int.reduceEq, Int.reduceBNe, Int.reduceBEq, Int.reduceAdd, Int.reduceSub, Int.reduceMul, Int.reduceNeg, ↓reduceIte]
end Go.Proofs.YtbllopdcbkeadaaGreat
set_option linter.unusedSimpArgs false
set_option linter.unusedVariables false
namespace Go.Proofs.YtbllopdcbkeadaaGreat
open Go.Abs
def isVar (c : Int) (b : BalV) : Bool := b.kind == 5 && (b.who == 0 && b.cur == c)
def varL (c : Int) (bs : List BalV) : List Int := (bs.filter (isVar c)).map BalV.sum
theorem varL_step (c : Int) (bs : List BalV) {i : Nat} (h : i < bs.length) : varL c (bs.take (i + 1)) = if isVar c bs[i] then varL c (bs.take i) ++ [bs[i].sum] else varL c (bs.take i) := by
  simp only [varL]
  rw [List.take_succ_eq_append_getElem h, List.filter_append, List.map_append]
  cases hb : isVar c bs[i] <;> simp [List.filter, hb]
theorem varL_len (c : Int) (bs : List BalV) : (varL c bs).length ≤ bs.length := by
  simp only [varL, List.length_map]; exact List.length_filter_le _ _
theorem varL_rng {c : Int} {bs : List BalV} (h : ∀ b ∈ bs, b.rng) : ∀ n ∈ varL c bs, I64 n := by
  intro n hn
  simp only [varL, List.mem_map, List.mem_filter] at hn
  obtain ⟨b, ⟨hb, _⟩, rfl⟩ := hn
  exact (h b hb).2.2.2
def costL (x : InstV) (qs : List PosV) : List Int := (qs.filter fun p => p.inst == x.no).map fun p => x.mult * p.cost
theorem costL_step (x : InstV) (qs : List PosV) {i : Nat} (h : i < qs.length) : costL x (qs.take (i + 1)) = if qs[i].inst == x.no then costL x (qs.take i) ++ [x.mult * qs[i].cost] else costL x (qs.take i) := by
  simp only [costL]
  rw [List.take_succ_eq_append_getElem h, List.filter_append, List.map_append]
  cases hb : (qs[i].inst == x.no) <;> simp [List.filter, hb]
theorem costL_len (x : InstV) (qs : List PosV) : (costL x qs).length ≤ qs.length := by
  simp only [costL, List.length_map]; exact List.length_filter_le _ _
def seenB (l : List InstV) (n : Int) : Bool := l.any fun x => x.no == n
def papI (c : Int) (qs : List PosV) : List InstV → List InstV → List Int
  | _, [] => []
  | seen, x :: r => (if x.cur == c && !seenB seen x.no then costL x qs else []) ++ papI c qs (seen ++ [x]) r
def papL (r : RollV) (c : Int) (qs : List PosV) : List Int := (qs.filter fun p => instIs r p.inst && (instOf r p.inst).cur == c).map fun p => (instOf r p.inst).mult * p.cost
theorem sum_filter {A : Type} (h : A → Bool) (v : A → Int) : ∀ l : List A, sumL ((l.filter h).map v) = sumL (l.map fun a => if h a then v a else 0)
  | [] => rfl
  | a :: l => by
    have ih := sum_filter h v l
    cases hb : h a <;> simp only [List.filter, hb, List.map_cons, sumL, ih, if_true, Bool.false_eq_true, if_false] <;> omega
theorem sum_add {A : Type} (f g k : A → Int) (h : ∀ a, k a = f a + g a) : ∀ l : List A, sumL (l.map k) = sumL (l.map f) + sumL (l.map g)
  | [] => rfl
  | a :: l => by
    have ih := sum_add f g k h l
    simp only [List.map_cons, sumL, ih, h a]; omega
theorem sum_zero {A : Type} (f : A → Int) (h : ∀ a, f a = 0) : ∀ l : List A, sumL (l.map f) = 0
  | [] => rfl
  | a :: l => by simp only [List.map_cons, sumL, sum_zero f h l, h a]; omega
def papG (c : Int) (seen ns : List InstV) (p : PosV) : Int :=
  if seenB seen p.inst then 0 else if decide (0 ≤ posL InstV.no p.inst ns) && (getL InstV.no p.inst InstV.zero ns).cur == c then (getL InstV.no p.inst InstV.zero ns).mult * p.cost else 0
theorem sumL_append : ∀ l m : List Int, sumL (l ++ m) = sumL l + sumL m
  | [], m => by simp [sumL]
  | x :: l, m => by simp only [List.cons_append, sumL, sumL_append l m]; omega
theorem papI_sum (c : Int) (qs : List PosV) : ∀ (ns seen : List InstV), sumL (papI c qs seen ns) = sumL (qs.map (papG c seen ns))
  | [], seen => by
    rw [sum_zero]
    · rfl
    · intro p; simp [papG, posL]
  | x :: r, seen => by
    have ih := papI_sum c qs r (seen ++ [x])
    simp only [papI]
    rw [sumL_append, ih]
    have hA : sumL (if (x.cur == c && !seenB seen x.no) = true then costL x qs else []) = sumL (qs.map fun p => if x.cur == c && !seenB seen x.no && p.inst == x.no then x.mult * p.cost else 0) := by
      cases hb : (x.cur == c && !seenB seen x.no)
      · rw [sum_zero]
        · rfl
        · intro p; simp
      · simp only [if_true, costL, Bool.true_and]
        rw [sum_filter]
    rw [hA, ← sum_add (k := papG c seen (x :: r))]
    intro p
    have hs : seenB (seen ++ [x]) p.inst = (seenB seen p.inst || x.no == p.inst) := by simp [seenB]
    by_cases he : x.no = p.inst
    · have e1 : (x.no == p.inst) = true := by simpa using he
      have e2 : (p.inst == x.no) = true := by simp [he]
      have e3 : posL InstV.no p.inst (x :: r) = 0 := by simp [posL, he]
      have e4 : getL InstV.no p.inst InstV.zero (x :: r) = x := by simp [getL, he]
      simp only [papG, hs, e1, e2, e3, e4, Bool.or_true, if_true, he]
      cases seenB seen p.inst <;> cases (x.cur == c) <;> simp
    · have e1 : (x.no == p.inst) = false := by simpa using he
      have e2 : (p.inst == x.no) = false := by simp; omega
      have e4 : getL InstV.no p.inst InstV.zero (x :: r) = getL InstV.no p.inst InstV.zero r := by simp [getL, he]
      have e3 : decide (0 ≤ posL InstV.no p.inst (x :: r)) = decide (0 ≤ posL InstV.no p.inst r) := by
        rw [pos_any, pos_any, List.any_cons, e1, Bool.false_or]
      simp only [papG, hs, e1, e2, e3, e4, Bool.or_false, Bool.and_false, Bool.false_eq_true, if_false, Int.zero_add]
theorem pap_eq (r : RollV) (c : Int) (qs : List PosV) : sumL (papI c qs [] r.ns) = sumL (papL r c qs) := by
  rw [papI_sum, papL, sum_filter]
  congr 1
theorem mul_in2 {a b : Int} (ha : I64 a) (hb : I64 b) : in2 (a * b) = true := by
  have h := mul_range (a := a) (b := b) (A := 9223372036854775808) (B := 9223372036854775808) ⟨ha.1, by have := ha.2; omega⟩ ⟨hb.1, by have := hb.2; omega⟩
  exact in2_of h (by omega)
theorem papI_in2 {c : Int} {qs : List PosV} (hq : ∀ p ∈ qs, p.rng) : ∀ (ns seen : List InstV), (∀ x ∈ ns, x.rng) → ∀ n ∈ papI c qs seen ns, in2 n = true
  | [], _, _, n, hn => by cases hn
  | x :: r, seen, h, n, hn => by
    simp only [papI, List.mem_append] at hn
    rcases hn with hn | hn
    · split at hn
      · simp only [costL, List.mem_map, List.mem_filter] at hn
        obtain ⟨p, ⟨hp, _⟩, rfl⟩ := hn
        exact mul_in2 (h x (by simp)).2.2.1 (hq p hp).2.2.2
      · cases hn
    · exact papI_in2 hq r _ (fun y hy => h y (by simp [hy])) n hn
theorem papI_len {c : Int} {qs : List PosV} : ∀ (ns seen : List InstV), (papI c qs seen ns).length ≤ ns.length * qs.length
  | [], _ => by simp [papI]
  | x :: r, seen => by
    have ih := papI_len (c := c) (qs := qs) r (seen ++ [x])
    simp only [papI, List.length_append, List.length_cons, Nat.succ_mul]
    have := costL_len x qs
    split <;> simp <;> omega
end Go.Proofs.YtbllopdcbkeadaaGreat
