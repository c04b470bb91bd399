/- The library's functions on slices of pledges; no theorem of a claim. -/
import Derived.Test.YtbllopdcbkeadaaB1
set_option linter.unusedSimpArgs false
set_option linter.unusedVariables false
namespace Go.Proofs.Ytbllopdcbkeadaa
open Go.Abs
theorem clone_spec (ps : List Plg) (hl : ps.length < 2 ^ 30) : Abs.Spec Try.prog 28 [] [.sl 3 (pl ps)] [.own 3 (pl ps)] (.ref 0) := by
  refine Abs.Spec.go (n := 8) (np := 1) (rs := [.tmp 2]) mixed Try.func28 rfl rfl rfl rfl rfl (by simp) (by simp) ?_
  simp only [go_sem, Nat.reduceAdd, Nat.reduceSub, Nat.reduceMul, Nat.reducePow, Nat.reduceEqDiff, Nat.reduceLT, Nat.reduceLeDiff, Nat.reduceBEq, Nat.reduceBNe, Int.reduceToNat, Int.reduceLT, Int.reduceLE, Int.reduceEq, Int.reduceBNe, Int.reduceBEq, Int.reduceAdd, Int.reduceSub, Int.reduceMul, Int.reduceNeg, ↓reduceIte]
  refine SemK.nilEq ty22 rfl (by omega) ?_
  intro b hb
  repeat' (with_reducible first
      | refine And.intro ?_ ?_
      | exact DrawN.mk (by kernel_rfl)
      | exact OkN.mk (by kernel_rfl)
      | refine CallN.pure (by assumption) ?_
      | refine GuardK.splitDN (fun h => ?_) (fun h => ?_)
      | refine GuardK.splitD (fun h => ?_) (fun h => ?_)
      | refine CondE.splitDN (fun h => ?_) (fun h => ?_)
      | refine CondE.splitD (fun h => ?_) (fun h => ?_)
      | refine GuardK.splitN (fun h => ?_) (fun h => ?_)
      | refine GuardK.split (fun h => ?_) (fun h => ?_)
      | refine CondE.splitN (fun h => ?_) (fun h => ?_)
      | refine CondE.split (fun h => ?_) (fun h => ?_)
      | refine WeakK.id ?_
      | refine RoundK.next (by omega) ?_ ?_
      | exact trivial
      | simp only [*, go_sem, Nat.reduceAdd, Nat.reduceSub, Nat.reduceMul, Nat.reducePow, Nat.reduceEqDiff, Nat.reduceLT, Nat.reduceLeDiff, Nat.reduceBEq, Nat.reduceBNe, Int.reduceToNat, Int.reduceLT, Int.reduceLE, Int.reduceEq, Int.reduceBNe, Int.reduceBEq, Int.reduceAdd, Int.reduceSub, Int.reduceMul, Int.reduceNeg, ↓reduceIte])
  all_goals first
    | omega
    | (rw [hb (by assumption)])
    | skip
theorem drop_pl (ps : List Plg) (i : Nat) : (pl ps).drop i = pl (ps.drop i) := by simp [pl]
theorem take_pl (ps : List Plg) (i : Nat) : (pl ps).take i = pl (ps.take i) := by simp [pl]
theorem pl_z {ps : List Plg} : ∀ r ∈ pl ps, r.length = 3 := by
  intro r h
  obtain ⟨p, _, rfl⟩ := List.mem_map.1 h
  rfl
theorem pl_perm {ps : List Plg} : ∀ r ∈ pl ps, ∀ d ∈ r, permOk d := by
  intro r h d hd
  obtain ⟨p, _, rfl⟩ := List.mem_map.1 h
  simp only [Plg.cells, List.mem_cons, List.not_mem_nil, or_false] at hd
  rcases hd with rfl | rfl | rfl <;> simp [go_sem]
theorem pl_leaf {ps : List Plg} : ∀ r ∈ pl ps, ∀ d ∈ r, leafB d = true := by
  intro r h d hd
  obtain ⟨p, _, rfl⟩ := List.mem_map.1 h
  simp only [Plg.cells, List.mem_cons, List.not_mem_nil, or_false] at hd
  rcases hd with rfl | rfl | rfl <;> rfl
theorem pl_flat (ps : List Plg) : (pl ps).flatten.length = ps.length * 3 := by rw [flatR_len pl_z, pl_len]
theorem delete_box (ps : List Plg) (i j cap : Nat) (hl : ps.length < 2 ^ 30) (hij : i < j) (hj : j ≤ ps.length) (hc : ps.length ≤ cap) :
    ∃ cs, (pl (ps.take i ++ ps.drop j)).length ≤ cap ∧ cs.length = cap * 3 ∧ cs.take ((pl (ps.take i ++ ps.drop j)).length * 3) = (pl (ps.take i ++ ps.drop j)).flatten ∧
      Abs.Spec Try.prog 29 [.box (boxOf (pl ps) cap 3)] [.bsub 0 0 3 (pl ps).length cap, .int .i64 i, .int .i64 j] [.box cs] (.bsub 0 0 3 (pl (ps.take i ++ ps.drop j)).length cap) := by
  obtain ⟨R, hR⟩ : ∃ R, R = ps.take i ++ ps.drop j := ⟨_, rfl⟩
  have hRl : R.length = ps.length - (j - i) := by subst hR; simp; omega
  rw [← hR]
  obtain ⟨X1, hX1⟩ : ∃ X, X = wput (boxOf (pl ps) cap 3) (0 + i * 3) (pl (ps.drop j)).flatten := ⟨_, rfl⟩
  obtain ⟨X2, hX2⟩ : ∃ X, X = wput X1 (R.length * 3) (List.replicate (ps.length - R.length) [D.int .i64 0, .int .i64 0, .int .i64 0]).flatten := ⟨_, rfl⟩
  have hbl : (boxOf (pl ps) cap 3).length = cap * 3 := boxOf_len pl_z (by rw [pl_len]; exact hc)
  have hdf : (pl (ps.drop j)).flatten.length = (ps.length - j) * 3 := by rw [pl_flat, List.length_drop]
  have hzf : (List.replicate (ps.length - R.length) [D.int .i64 0, D.int .i64 0, D.int .i64 0]).flatten.length = (ps.length - R.length) * 3 := flat_length rfl _
  have hX1l : X1.length = cap * 3 := by rw [hX1, wput_length (by rw [hbl, hdf]; omega), hbl]
  have hX2l : X2.length = cap * 3 := by rw [hX2, wput_length (by rw [hX1l, hzf]; omega), hX1l]
  have hleaf : ∀ d ∈ X2, leafB d = true := by
    rw [hX2, hX1]
    refine wput_leaf (wput_leaf (boxOf_leaf pl_leaf) (flat_leaf pl_leaf)) (flat_leaf ?_)
    intro r hr d hd
    rw [(List.mem_replicate.1 hr).2] at hd
    simp only [List.mem_cons, List.not_mem_nil, or_false] at hd
    rcases hd with rfl | rfl | rfl <;> rfl
  refine ⟨X2, ?_, ?_, ?_, ?_⟩
  · simp only [pl_len]; omega
  · exact hX2l
  · rw [pl_len, hX2, take_wput_le (Nat.le_refl _) (by rw [hX1l]; omega), hX1]
    have e : R.length * 3 = (0 + i * 3) + (pl (ps.drop j)).flatten.length := by rw [hdf, hRl]; omega
    rw [e, take_wput_full (by rw [hbl]; omega), Nat.zero_add, boxOf_take pl_z (by rw [pl_len]; omega), take_pl, hR]
    simp [pl]
  · refine Abs.Spec.go (n := 33) (np := 3) (rs := [.tmp 6]) mixed Try.func29 rfl rfl rfl rfl rfl (by simp) (by simp) ?_
    simp only [go_sem, Nat.reduceAdd, Nat.reduceSub, Nat.reduceMul, Nat.reducePow, Nat.reduceEqDiff, Nat.reduceLT, Nat.reduceLeDiff, Nat.reduceBEq, Nat.reduceBNe, Int.reduceToNat, Int.reduceLT, Int.reduceLE, Int.reduceEq, Int.reduceBNe, Int.reduceBEq, Int.reduceAdd, Int.reduceSub, Int.reduceMul, Int.reduceNeg, ↓reduceIte]
    with_reducible refine SemK.slice4 (r := 0) (off := 0) (l := ps.length) (c := cap) (k1 := .i64) (k2 := .i64) (k3 := .i64) (i := i) (j := j) (m := ps.length) ty22 ?_ ?_ ?_ ?_ ?_ ?_ ?_ ?_ ?_ ?_
    iterate 9 (first | rfl | omega)
    simp only [go_sem, Nat.reduceAdd, Nat.reduceSub, Nat.reduceMul, Nat.reducePow, Nat.reduceEqDiff, Nat.reduceLT, Nat.reduceLeDiff, Nat.reduceBEq, Nat.reduceBNe, Int.reduceToNat, Int.reduceLT, Int.reduceLE, Int.reduceEq, Int.reduceBNe, Int.reduceBEq, Int.reduceAdd, Int.reduceSub, Int.reduceMul, Int.reduceNeg, ↓reduceIte]
    have hne : ((i : Int) == (j : Int)) = false := by simp; omega
    simp only [hne, go_sem, Nat.reduceAdd, Nat.reduceSub, Nat.reduceMul, Nat.reducePow, Nat.reduceEqDiff, Nat.reduceLT, Nat.reduceLeDiff, Nat.reduceBEq, Nat.reduceBNe, Int.reduceToNat, Int.reduceLT, Int.reduceLE, Int.reduceEq, Int.reduceBNe, Int.reduceBEq, Int.reduceAdd, Int.reduceSub, Int.reduceMul, Int.reduceNeg, ↓reduceIte]
    refine ⟨DrawN.mk (by kernel_rfl), OkN.mk (by kernel_rfl), by omega, OkN.mk (by kernel_rfl), ⟨by omega, hc⟩, ?_⟩
    have hdl : (pl (ps.drop j)).length = ps.length - j := by simp only [pl_len, List.length_drop]
    have hb : borBs (j * 3) 3 (ps.length - j) (.box (boxOf (pl ps) cap 3)) = .sl 3 (pl (ps.drop j)) := by
      have := bor_boxOf (rows := pl ps) (cap := cap) (i := j) pl_z pl_perm (by rw [pl_len]; exact hj) (by rw [pl_len]; exact hc)
      rw [pl_len, drop_pl] at this; exact this
    with_reducible refine SemK.appBox (r := 0) (off := 0) (l := i) (c := cap) (cs := boxOf (pl ps) cap 3) (rows2 := pl (ps.drop j)) ty22 ty22 ?_ ?_ ?_ ?_ ?_ ?_ ?_
    · rfl
    · rfl
    · show rowsD 3 (hideIf _ (borBs (j * 3) 3 (ps.length - j) (.box (boxOf (pl ps) cap 3)))) = _
      rw [hb]; rfl
    · omega
    · omega
    · intro _
      have hil : i + (pl (ps.drop j)).length = R.length := by rw [hdl, hRl]; omega
      have hil2 : i + (ps.drop j).length = R.length := by rw [← hil, pl_len]
      refine ⟨?_, ?_⟩
      · rw [boxOf_len pl_z (by rw [pl_len]; exact hc), hil, Nat.zero_add]; exact Nat.mul_le_mul_right 3 (by omega)
      · rw [← hX1]
        simp only [go_sem, Nat.reduceAdd, Nat.reduceSub, Nat.reduceMul, Nat.reducePow, Nat.reduceEqDiff, Nat.reduceLT, Nat.reduceLeDiff, Nat.reduceBEq, Nat.reduceBNe, Int.reduceToNat, Int.reduceLT, Int.reduceLE, Int.reduceEq, Int.reduceBNe, Int.reduceBEq, Int.reduceAdd, Int.reduceSub, Int.reduceMul, Int.reduceNeg, ↓reduceIte, hil2]
        refine ⟨⟨by omega, by omega⟩, ?_⟩
        with_reducible refine SemK.clear (r := 0) (off := R.length * 3) (l := ps.length - R.length) (c := cap - R.length) (cs := X1) (zc := [.int .i64 0, .int .i64 0, .int .i64 0]) ty22 ?_ ?_ ?_ ?_ ?_ ?_ ?_
        · rfl
        · rfl
        · exact zel22
        · rfl
        · simp [go_sem]
        · rw [hX1l]; omega
        · rw [← hX2]
          simp only [go_sem, Nat.reduceAdd, Nat.reduceSub, Nat.reduceMul, Nat.reducePow, Nat.reduceEqDiff, Nat.reduceLT, Nat.reduceLeDiff, Nat.reduceBEq, Nat.reduceBNe, Int.reduceToNat, Int.reduceLT, Int.reduceLE, Int.reduceEq, Int.reduceBNe, Int.reduceBEq, Int.reduceAdd, Int.reduceSub, Int.reduceMul, Int.reduceNeg, ↓reduceIte]
          exact leDL_leaf hleaf
    · intro h; exfalso; rw [hdl] at h; omega
theorem delete_spec (ps : List Plg) (i j : Nat) (hl : ps.length < 2 ^ 30) (hij : i < j) (hj : j ≤ ps.length) :
    Abs.Spec Try.prog 29 [.own 3 (pl ps)] [.ref 0, .int .i64 i, .int .i64 j] [.undef, .own 3 (pl (ps.take i ++ ps.drop j))] (.ref 1) := by
  refine Spec.of_box (hr := []) (ds := [.int .i64 i, .int .i64 j]) ?_ pl_z pl_perm ?_ (by simp) ?_
  · intro h
    have := congrArg List.length h
    rw [pl_len] at this
    have h0 : ps.length = 0 := this
    omega
  · intro d hd
    simp only [List.mem_cons, List.not_mem_nil, or_false] at hd
    rcases hd with rfl | rfl <;> simp [D.names]
  · intro cap hcap
    obtain ⟨cs, h1, h2, h3, h4⟩ := delete_box ps i j cap hl hij hj (by rw [pl_len] at hcap; exact hcap)
    exact .inl ⟨cs, h1, h2, h3, h4⟩
end Go.Proofs.Ytbllopdcbkeadaa
