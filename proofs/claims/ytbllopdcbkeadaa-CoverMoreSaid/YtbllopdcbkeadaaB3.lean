/- slices.Insert of one pledge; no theorem of a claim. -/
import Derived.Test.YtbllopdcbkeadaaB2
set_option linter.unusedSimpArgs false
set_option linter.unusedVariables false
namespace Go.Proofs.Ytbllopdcbkeadaa
open Go.Abs
/-- at the end: by append alone -/
theorem insert_end (ps : List Plg) (q : Plg) (hl : ps.length < 2 ^ 30) :
    Abs.Spec Try.prog 30 [.own 3 (pl ps), .own 3 (pl [q])] [.ref 0, .int .i64 ps.length, .ref 1] [.undef, .undef, .own 3 (pl (ps ++ [q]))] (.ref 2) := by
  refine Abs.Spec.go (n := 95) (np := 3) (rs := [.tmp 6]) mixed Try.func30 rfl rfl rfl rfl rfl (by simp) (by simp) ?_
  simp only [go_sem, Nat.reduceAdd, Nat.reduceSub, Nat.reduceMul, Nat.reducePow, Nat.reduceEqDiff, Nat.reduceLT, Nat.reduceLeDiff, Nat.reduceBEq, Nat.reduceBNe, Int.reduceToNat, Int.reduceLT, Int.reduceLE, Int.reduceEq, Int.reduceBNe, Int.reduceBEq, Int.reduceAdd, Int.reduceSub, Int.reduceMul, Int.reduceNeg, ↓reduceIte]
  refine ⟨by omega, by omega, by simp [pl]⟩
theorem splice_end {A Z B : List (List D)} {k : Nat} (hk : k = A.length) (hz : B.length = Z.length) : splice (A ++ Z) k B = A ++ B := by
  subst hk
  unfold splice
  rw [List.take_left, hz, ← List.length_append, List.drop_length, List.append_nil]
theorem splice_one {A Z : List (List D)} {q : List D} {k : Nat} (hk : k = A.length) : splice (A ++ Z) k [q] = (A ++ [q]) ++ Z.drop 1 := by
  subst hk
  unfold splice
  rw [List.take_left, List.drop_append, List.drop_eq_nil_of_le (by simp)]
  simp
theorem ov_find : Extern.find Try.f59 = some (Extern.SlicesOverlaps.overlaps Try.f59.params Try.f59.resultTypes) := by kernel_rfl
theorem ov_next : Extern.findNext Try.f59 = none := by kernel_rfl
theorem ov_p : Try.f59.params[0]? = some 22 := by rfl
/-- before others -/
theorem insert_mid (ps : List Plg) (q : Plg) (i : Nat) (hl : ps.length < 2 ^ 30) (hi : i < ps.length) :
    Abs.Spec Try.prog 30 [.own 3 (pl ps), .own 3 (pl [q])] [.ref 0, .int .i64 i, .ref 1] [.undef, .undef, .own 3 (pl (ps.take i ++ [q] ++ ps.drop i))] (.ref 2) := by
  refine Spec.of_box (hr := [.own 3 (pl [q])]) (ds := [.int .i64 i, .ref 1]) ?_ pl_z pl_perm ?_ ?_ ?_
  · intro h
    have := congrArg List.length h
    rw [pl_len] at this
    have h0 : ps.length = 0 := this
    omega
  · intro d hd
    simp only [List.mem_cons, List.not_mem_nil, or_false] at hd
    rcases hd with rfl | rfl <;> simp [D.names]
  · intro h hh
    simp only [List.mem_cons, List.not_mem_nil, or_false] at hh
    exact ⟨_, _, hh⟩
  intro cap hcap
  rw [pl_len] at hcap
  have hbl : (boxOf (pl ps) cap 3).length = cap * 3 := boxOf_len pl_z (by rw [pl_len]; exact hcap)
  have hne : ((i : Int) == (ps.length : Int)) = false := by simp; omega
  have hw : IntKind.wrap .i64 ((ps.length : Int) + 1) = ((ps.length + 1 : Nat) : Int) := by rw [wr64 (by omega) (by omega)]; omega
  have hw2 : IntKind.wrap .i64 ((i : Int) + 1) = ((i + 1 : Nat) : Int) := by rw [wr64 (by omega) (by omega)]; omega
  have hw3 : IntKind.wrap .i64 (((ps.length + 1 : Nat) : Int) - i) = ((ps.length + 1 - i : Nat) : Int) := by rw [wr64 (by omega) (by omega)]; omega
  have hbi : borBs (i * 3) 3 (ps.length - i) (.box (boxOf (pl ps) cap 3)) = .sl 3 (pl (ps.drop i)) := by
    have := bor_boxOf (rows := pl ps) (cap := cap) (i := i) pl_z pl_perm (by rw [pl_len]; omega) (by rw [pl_len]; exact hcap)
    rw [pl_len, drop_pl] at this; exact this
  have hb0 : borBs 0 3 i (.box (boxOf (pl ps) cap 3)) = .sl 3 (pl (ps.take i)) := by
    have hl0 : (pl (ps.take i)).length = i := by rw [pl_len, List.length_take]; omega
    have := bor_box (z := 3) (off := 0) (cs := boxOf (pl ps) cap 3) (R := pl (ps.take i)) (by rw [List.drop_zero, hl0, boxOf_take pl_z (by rw [pl_len]; omega), take_pl]) pl_z pl_perm (by rw [hl0, hbl]; omega)
    rw [hl0] at this; exact this
  have hdf : (pl (ps.drop i)).flatten.length = (ps.length - i) * 3 := by rw [pl_flat, List.length_drop]
  by_cases hfit : ps.length + 1 ≤ cap
  · left
    obtain ⟨Y1, hY1⟩ : ∃ X, X = wput (boxOf (pl ps) cap 3) ((i + 1) * 3) (pl (ps.drop i)).flatten := ⟨_, rfl⟩
    obtain ⟨Y2, hY2⟩ : ∃ X, X = wput Y1 (i * 3) (pl [q]).flatten := ⟨_, rfl⟩
    have hY1l : Y1.length = cap * 3 := by rw [hY1, wput_length (by rw [hbl, hdf]; omega), hbl]
    have hqf : (pl [q]).flatten.length = 3 := by rw [pl_flat]; rfl
    have hY2l : Y2.length = cap * 3 := by rw [hY2, wput_length (by rw [hY1l, hqf]; omega), hY1l]
    have hleaf : ∀ d ∈ Y2, leafB d = true := by
      rw [hY2, hY1]
      exact wput_leaf (wput_leaf (boxOf_leaf pl_leaf) (flat_leaf pl_leaf)) (flat_leaf pl_leaf)
    refine ⟨Y2, ?_, ?_, ?_, ?_⟩
    · simp only [pl_len]; simp; omega
    · exact hY2l
    · have e0 : (pl (ps.take i ++ [q] ++ ps.drop i)).length * 3 = (i + 1) * 3 + (pl (ps.drop i)).flatten.length := by
        rw [hdf, pl_len]; simp; omega
      have e1 : (pl (ps.take i ++ [q] ++ ps.drop i)).flatten = (pl (ps.take i)).flatten ++ (pl [q]).flatten ++ (pl (ps.drop i)).flatten := by simp [pl]
      have e2 : Y1.take (i * 3) = (pl (ps.take i)).flatten := by
        rw [hY1, take_wput_le (by omega) (by rw [hbl]; omega), boxOf_take pl_z (by rw [pl_len]; omega), take_pl]
      have e3 : Y1.take ((i + 1) * 3 + (pl (ps.drop i)).flatten.length) = (boxOf (pl ps) cap 3).take ((i + 1) * 3) ++ (pl (ps.drop i)).flatten := by
        rw [hY1, take_wput_full (by rw [hbl]; omega)]
      rw [e0, e1, hY2]
      unfold wput
      have hl0 : (Y1.take (i * 3) ++ (pl [q]).flatten).length = (i + 1) * 3 := by rw [List.length_append, hqf, List.length_take, hY1l]; omega
      rw [List.take_append, List.take_of_length_le (by rw [hl0]; omega), hl0, hqf, e2]
      congr 1
      have e4 : i * 3 + 3 = (i + 1) * 3 := by omega
      rw [e4, Nat.add_sub_cancel_left]
      have := congrArg (List.drop ((i + 1) * 3)) e3
      have hX : ((boxOf (pl ps) cap 3).take ((i + 1) * 3)).length = (i + 1) * 3 := by rw [List.length_take, hbl]; omega
      rw [List.drop_take, Nat.add_sub_cancel_left, List.drop_append_of_le_length (by omega)] at this
      have hnil : ((boxOf (pl ps) cap 3).take ((i + 1) * 3)).drop ((i + 1) * 3) = [] := List.drop_eq_nil_of_le (by omega)
      rw [hnil, List.nil_append] at this
      exact this
    · show Abs.Spec Try.prog 30 [.box (boxOf (pl ps) cap 3), .own 3 (pl [q])] [.bsub 0 0 3 (pl ps).length cap, .int .i64 i, .ref 1] [.box Y2, .undef] (.bsub 0 0 3 (pl (ps.take i ++ [q] ++ ps.drop i)).length cap)
      refine Abs.Spec.go (n := 95) (np := 3) (rs := [.tmp 6]) mixed Try.func30 rfl rfl rfl rfl rfl (by simp) (by simp) ?_
      simp only [go_sem, Nat.reduceAdd, Nat.reduceSub, Nat.reduceMul, Nat.reducePow, Nat.reduceEqDiff, Nat.reduceLT, Nat.reduceLeDiff, Nat.reduceBEq, Nat.reduceBNe, Int.reduceToNat, Int.reduceLT, Int.reduceLE, Int.reduceEq, Int.reduceBNe, Int.reduceBEq, Int.reduceAdd, Int.reduceSub, Int.reduceMul, Int.reduceNeg, ↓reduceIte, hne, hw]
      refine ⟨⟨by omega, hcap⟩, ?_⟩
      with_reducible refine SemK.cap (r := 0) (off := 0) (l := ps.length) (c := cap) ty22 ?_ ?_ ?_
      · rfl
      · omega
      simp only [go_sem, Nat.reduceAdd, Nat.reduceSub, Nat.reduceMul, Nat.reducePow, Nat.reduceEqDiff, Nat.reduceLT, Nat.reduceLeDiff, Nat.reduceBEq, Nat.reduceBNe, Int.reduceToNat, Int.reduceLT, Int.reduceLE, Int.reduceEq, Int.reduceBNe, Int.reduceBEq, Int.reduceAdd, Int.reduceSub, Int.reduceMul, Int.reduceNeg, ↓reduceIte]
      refine CondE.splitD (fun h => ?_) (fun h => ?_)
      · exfalso; omega
      simp only [go_sem, Nat.reduceAdd, Nat.reduceSub, Nat.reduceMul, Nat.reducePow, Nat.reduceEqDiff, Nat.reduceLT, Nat.reduceLeDiff, Nat.reduceBEq, Nat.reduceBNe, Int.reduceToNat, Int.reduceLT, Int.reduceLE, Int.reduceEq, Int.reduceBNe, Int.reduceBEq, Int.reduceAdd, Int.reduceSub, Int.reduceMul, Int.reduceNeg, ↓reduceIte, hw, hw2]
      refine ⟨by omega, by omega, ?_⟩
      refine CallN.sem rfl ?_
      with_reducible refine SemK.overlaps (k := 59) (fn := Try.f59) (t0 := 22) (z := 3) (r2 := 1) (z2 := 3) (rows := pl [q]) (r := 0) (off := (i + 1) * 3) (l := ps.length + 1 - 0 - (i + 1)) (c := cap - 0 - (i + 1)) (cs := boxOf (pl ps) cap 3) ?_ Try.func59 ?_ ?_ ov_next ov_find ov_p ty22 ?_ ?_ ?_ ?_ ?_ ?_
      iterate 8 (first | rfl | omega)
      simp only [go_sem, Nat.reduceAdd, Nat.reduceSub, Nat.reduceMul, Nat.reducePow, Nat.reduceEqDiff, Nat.reduceLT, Nat.reduceLeDiff, Nat.reduceBEq, Nat.reduceBNe, Int.reduceToNat, Int.reduceLT, Int.reduceLE, Int.reduceEq, Int.reduceBNe, Int.reduceBEq, Int.reduceAdd, Int.reduceSub, Int.reduceMul, Int.reduceNeg, ↓reduceIte, hw2]
      refine ⟨DrawN.mk (by kernel_rfl), OkN.mk (by kernel_rfl), ⟨by omega, by omega⟩, OkN.mk (by kernel_rfl), ⟨by omega, by omega⟩, ?_⟩
      have hmin : min (ps.length + 1 - 0 - i) (ps.length + 1 - 0 - (i + 1)) = ps.length - i := by omega
      with_reducible refine SemK.copyBox (z := 3) (r := 0) (off := (i + 1) * 3) (l := ps.length + 1 - 0 - (i + 1)) (c := cap - 0 - (i + 1)) (ly := ps.length + 1 - 0 - i) (cs := boxOf (pl ps) cap 3) (rows := pl (ps.drop i)) ty22 ?_ ?_ ?_ ?_ ?_ ?_
      · rfl
      · rfl
      · show _ = 3 ∧ _ = _ ∧ _ ≤ _ ∧ rowsD 3 (hideIf _ (borBs (i * 3) 3 (min (ps.length + 1 - 0 - i) (ps.length + 1 - 0 - (i + 1))) (.box (boxOf (pl ps) cap 3)))) = some _
        rw [hmin, hbi]
        exact ⟨rfl, rfl, by omega, rfl⟩
      · omega
      · rw [hmin, hbl]; omega
      rw [← hY1, hmin]
      simp only [go_sem, Nat.reduceAdd, Nat.reduceSub, Nat.reduceMul, Nat.reducePow, Nat.reduceEqDiff, Nat.reduceLT, Nat.reduceLeDiff, Nat.reduceBEq, Nat.reduceBNe, Int.reduceToNat, Int.reduceLT, Int.reduceLE, Int.reduceEq, Int.reduceBNe, Int.reduceBEq, Int.reduceAdd, Int.reduceSub, Int.reduceMul, Int.reduceNeg, ↓reduceIte]
      refine ⟨⟨by omega, by omega⟩, ?_⟩
      have hmin2 : min 1 (ps.length + 1 - 0 - i) = 1 := by omega
      with_reducible refine SemK.copyBox (z := 3) (r := 0) (off := i * 3) (l := ps.length + 1 - 0 - i) (c := cap - 0 - i) (ly := 1) (cs := Y1) (rows := pl [q]) ty22 ?_ ?_ ?_ ?_ ?_ ?_
      · rfl
      · rfl
      · refine ⟨pl [q], rfl, rfl, by omega, ?_⟩
        rw [hmin2]; rfl
      · omega
      · rw [hmin2, hY1l]; omega
      rw [← hY2, hmin2]
      simp only [go_sem, Nat.reduceAdd, Nat.reduceSub, Nat.reduceMul, Nat.reducePow, Nat.reduceEqDiff, Nat.reduceLT, Nat.reduceLeDiff, Nat.reduceBEq, Nat.reduceBNe, Int.reduceToNat, Int.reduceLT, Int.reduceLE, Int.reduceEq, Int.reduceBNe, Int.reduceBEq, Int.reduceAdd, Int.reduceSub, Int.reduceMul, Int.reduceNeg, ↓reduceIte]
      exact ⟨⟨by simp; omega, rfl⟩, leDL_leaf hleaf⟩
  · right
    show Abs.Spec Try.prog 30 [.box (boxOf (pl ps) cap 3), .own 3 (pl [q])] [.bsub 0 0 3 (pl ps).length cap, .int .i64 i, .ref 1] [.undef, .undef, .own 3 (pl (ps.take i ++ [q] ++ ps.drop i))] (.ref 2)
    refine Abs.Spec.go (n := 95) (np := 3) (rs := [.tmp 6]) mixed Try.func30 rfl rfl rfl rfl rfl (by simp) (by simp) ?_
    simp only [go_sem, Nat.reduceAdd, Nat.reduceSub, Nat.reduceMul, Nat.reducePow, Nat.reduceEqDiff, Nat.reduceLT, Nat.reduceLeDiff, Nat.reduceBEq, Nat.reduceBNe, Int.reduceToNat, Int.reduceLT, Int.reduceLE, Int.reduceEq, Int.reduceBNe, Int.reduceBEq, Int.reduceAdd, Int.reduceSub, Int.reduceMul, Int.reduceNeg, ↓reduceIte, hne, hw]
    refine ⟨⟨by omega, hcap⟩, ?_⟩
    with_reducible refine SemK.cap (r := 0) (off := 0) (l := ps.length) (c := cap) ty22 ?_ ?_ ?_
    · rfl
    · omega
    simp only [go_sem, Nat.reduceAdd, Nat.reduceSub, Nat.reduceMul, Nat.reducePow, Nat.reduceEqDiff, Nat.reduceLT, Nat.reduceLeDiff, Nat.reduceBEq, Nat.reduceBNe, Int.reduceToNat, Int.reduceLT, Int.reduceLE, Int.reduceEq, Int.reduceBNe, Int.reduceBEq, Int.reduceAdd, Int.reduceSub, Int.reduceMul, Int.reduceNeg, ↓reduceIte]
    refine CondE.splitD (fun h => ?_) (fun h => ?_)
    · simp only [go_sem, Nat.reduceAdd, Nat.reduceSub, Nat.reduceMul, Nat.reducePow, Nat.reduceEqDiff, Nat.reduceLT, Nat.reduceLeDiff, Nat.reduceBEq, Nat.reduceBNe, Int.reduceToNat, Int.reduceLT, Int.reduceLE, Int.reduceEq, Int.reduceBNe, Int.reduceBEq, Int.reduceAdd, Int.reduceSub, Int.reduceMul, Int.reduceNeg, ↓reduceIte, hw, hw2, hw3]
      refine ⟨by omega, ?_⟩
      with_reducible refine SemK.appZeros (k := .i64) (k2 := .i64) (m := ps.length + 1 - i) (r := 0) (off := 0) (l := i) (c := cap) (rows := pl (ps.take i)) (zc := [.int .i64 0, .int .i64 0, .int .i64 0]) ty22 ty3 ?_ ?_ zel22 ?_ ?_ ?_ ?_ ?_ ?_ ?_ ?_ ?_ ?_ ?_
      · rfl
      · rfl
      · rfl
      · intro d hd
        simp only [List.mem_cons, List.not_mem_nil, or_false] at hd
        rcases hd with rfl | rfl | rfl <;> simp [go_sem]
      · omega
      · omega
      · omega
      · omega
      · show hideIf _ (borBs 0 3 i (.box (boxOf (pl ps) cap 3))) = _
        rw [hb0]; rfl
      · rw [pl_len, List.length_take]; omega
      · omega
      · rfl
      obtain ⟨Z, hZ⟩ : ∃ X, X = List.replicate (ps.length + 1 - i) [D.int .i64 0, D.int .i64 0, D.int .i64 0] := ⟨_, rfl⟩
      have hZl : Z.length = ps.length + 1 - i := by rw [hZ]; simp
      obtain ⟨O1, hO1⟩ : ∃ X, X = pl (ps.take i) ++ Z := ⟨_, rfl⟩
      have hal : i = (pl (ps.take i)).length := by rw [pl_len, List.length_take]; omega
      have hO1l : O1.length = ps.length + 1 := by rw [hO1, List.length_append, ← hal, hZl]; omega
      obtain ⟨O2, hO2⟩ : ∃ X, X = splice O1 i (pl [q]) := ⟨_, rfl⟩
      have hO2l : O2.length = ps.length + 1 := by rw [hO2, splice_len (by rw [hO1l]; show i + 1 ≤ _; omega), hO1l]
      obtain ⟨O3, hO3⟩ : ∃ X, X = splice O2 (i + 1) (pl (ps.drop i)) := ⟨_, rfl⟩
      have hfin : O3 = pl (ps.take i ++ [q] ++ ps.drop i) := by
        have h2 : O2 = (pl (ps.take i) ++ pl [q]) ++ Z.drop 1 := by rw [hO2, hO1]; exact splice_one hal
        rw [hO3, h2, splice_end (by rw [List.length_append, ← hal]; rfl) (by rw [pl_len, List.length_drop, List.length_drop, hZl]; omega)]
        simp [pl]
      rw [← hZ, ← hO1]
      simp only [go_sem, Nat.reduceAdd, Nat.reduceSub, Nat.reduceMul, Nat.reducePow, Nat.reduceEqDiff, Nat.reduceLT, Nat.reduceLeDiff, Nat.reduceBEq, Nat.reduceBNe, Int.reduceToNat, Int.reduceLT, Int.reduceLE, Int.reduceEq, Int.reduceBNe, Int.reduceBEq, Int.reduceAdd, Int.reduceSub, Int.reduceMul, Int.reduceNeg, ↓reduceIte, hO1l]
      refine ⟨⟨by omega, by omega⟩, ?_⟩
      have hmin3 : min 1 (ps.length + 1 - i) = 1 := by omega
      with_reducible refine SemK.copyOwn (z := 3) (r := 656) (lo := i) (len := ps.length + 1 - i) (ly := 1) (R := O1) (rows := pl [q]) ty22 ?_ ?_ ?_ ?_ ?_ ?_ ?_
      · rfl
      · rfl
      · refine ⟨pl [q], rfl, rfl, by omega, ?_⟩
        rw [hmin3]; rfl
      · omega
      · rw [hmin3, hO1l]; omega
      · rw [hmin3]; omega
      rw [← hO2, hmin3]
      simp only [go_sem, Nat.reduceAdd, Nat.reduceSub, Nat.reduceMul, Nat.reducePow, Nat.reduceEqDiff, Nat.reduceLT, Nat.reduceLeDiff, Nat.reduceBEq, Nat.reduceBNe, Int.reduceToNat, Int.reduceLT, Int.reduceLE, Int.reduceEq, Int.reduceBNe, Int.reduceBEq, Int.reduceAdd, Int.reduceSub, Int.reduceMul, Int.reduceNeg, ↓reduceIte, hO2l, hw2]
      refine ⟨DrawN.mk (by kernel_rfl), OkN.mk (by kernel_rfl), ⟨by omega, by omega⟩, OkN.mk (by kernel_rfl), ⟨by omega, hcap⟩, ?_⟩
      have hmin4 : min (ps.length - i) (ps.length + 1 - (i + 1)) = ps.length - i := by omega
      with_reducible refine SemK.copyOwn (z := 3) (r := 656) (lo := i + 1) (len := ps.length + 1 - (i + 1)) (ly := ps.length - i) (R := O2) (rows := pl (ps.drop i)) ty22 ?_ ?_ ?_ ?_ ?_ ?_ ?_
      · rfl
      · rfl
      · show _ = 3 ∧ _ = _ ∧ _ ≤ _ ∧ rowsD 3 (hideIf _ (borBs (i * 3) 3 (min (ps.length - i) (ps.length + 1 - (i + 1))) (.box (boxOf (pl ps) cap 3)))) = some _
        rw [hmin4, hbi]
        exact ⟨rfl, rfl, by omega, rfl⟩
      · omega
      · rw [hmin4, hO2l]; omega
      · rw [hmin4]; omega
      rw [← hO3, hmin4, hfin]
      simp only [go_sem, Nat.reduceAdd, Nat.reduceSub, Nat.reduceMul, Nat.reducePow, Nat.reduceEqDiff, Nat.reduceLT, Nat.reduceLeDiff, Nat.reduceBEq, Nat.reduceBNe, Int.reduceToNat, Int.reduceLT, Int.reduceLE, Int.reduceEq, Int.reduceBNe, Int.reduceBEq, Int.reduceAdd, Int.reduceSub, Int.reduceMul, Int.reduceNeg, ↓reduceIte]
    · exfalso; omega
end Go.Proofs.Ytbllopdcbkeadaa
