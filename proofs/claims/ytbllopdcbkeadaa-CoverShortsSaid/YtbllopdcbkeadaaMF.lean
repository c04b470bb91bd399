/- The reference's margin. The reference's margin: the whole. Twins of states. A ledger in which something was paid. What a member lacks. The law CoverShorts. No theorem of a claim. -/
import Derived.Test.YtbllopdcbkeadaaME
set_option linter.unusedSimpArgs false
set_option linter.unusedVariables false
namespace Go.Proofs.Ytbllopdcbkeadaa
open Go.Abs
theorem qtyB_eq (p : PosV) : within p.qty (-1099511627776) 1099511627776 = qtyB p := by
  rw [Bool.eq_iff_iff]; simp [within, qtyB]
theorem lossF_eq (j : Nat) (p : PieceV) : -p.q * (p.i.mult * p.i.sh j) = lossF j p := by rw [lossF, Int.mul_assoc]
set_option maxRecDepth 8000 in
theorem refLosses_spec (r : RollV) (w c : Int) (qs : List PosV) (hr : r.small) (hq : qs.length < 2 ^ 30) : Abs.Spec Try.prog 48 [] [.agg r.cells, .int .i64 w, .int .i64 c, .sl 4 (qs.map PosV.cells)] [] (.tup [.agg (losB r w c qs), .int .i64 (losE r w c qs)]) := by
  have h2 := refRoll_spec r hr
  have h5 := fun n => refFindInst_spec r n hr
  have hz0 := lossBox_zero []
  simp only [RollV.cells] at h2 h5 ⊢
  refine Abs.Spec.go (n := 115) (np := 4) (rs := [.cell 8 99, .tmp 9]) mixed Try.func48 rfl rfl rfl rfl rfl (by simp) (by simp) ?_
  simp only [go_sem, Nat.reduceAdd, Nat.reduceSub, Nat.reduceMul, Nat.reducePow, Nat.reduceEqDiff, Nat.reduceLT, Nat.reduceLeDiff, Nat.reduceBEq, Nat.reduceBNe, Int.reduceToNat, Int.reduceLT, Int.reduceLE, Int.reduceEq, Int.reduceBNe, Int.reduceBEq, Int.reduceAdd, Int.reduceSub, Int.reduceMul, Int.reduceNeg, ↓reduceIte]
  refine CallN.pure h2 ?_
  cases b2 : r.okB
  · have e : pcE r qs = 14 := by simp [pcE, b2]
    have e1 : losE r w c qs = 14 := by simp [losE, e]
    have e2 : losB r w c qs = lossBox [] 0 := by simp [losB, e1]
    rw [e1, e2, hz0]
    simp only [go_sem, Nat.reduceAdd, Nat.reduceSub, Nat.reduceMul, Nat.reducePow, Nat.reduceEqDiff, Nat.reduceLT, Nat.reduceLeDiff, Nat.reduceBEq, Nat.reduceBNe, Int.reduceToNat, Int.reduceLT, Int.reduceLE, Int.reduceEq, Int.reduceBNe, Int.reduceBEq, Int.reduceAdd, Int.reduceSub, Int.reduceMul, Int.reduceNeg, ↓reduceIte]
  simp only [go_sem, Nat.reduceAdd, Nat.reduceSub, Nat.reduceMul, Nat.reducePow, Nat.reduceEqDiff, Nat.reduceLT, Nat.reduceLeDiff, Nat.reduceBEq, Nat.reduceBNe, Int.reduceToNat, Int.reduceLT, Int.reduceLE, Int.reduceEq, Int.reduceBNe, Int.reduceBEq, Int.reduceAdd, Int.reduceSub, Int.reduceMul, Int.reduceNeg, ↓reduceIte, List.length_map]
  refine LoopK.walk (S := Unit) qs.length [1, 2, 3, 4, 8, 10] [80, 144, 176] (fun i _ => [(11, .int .i64 i)]) (fun i _ => []) (fun i _ => ∀ j (hj : j < qs.length), j < i → qtyB qs[j] = true) () (by simp only [go_sem, Nat.reduceAdd, Nat.reduceSub, Nat.reduceMul, Nat.reducePow, Nat.reduceEqDiff, Nat.reduceLT, Nat.reduceLeDiff, Nat.reduceBEq, Nat.reduceBNe, Int.reduceToNat, Int.reduceLT, Int.reduceLE, Int.reduceEq, Int.reduceBNe, Int.reduceBEq, Int.reduceAdd, Int.reduceSub, Int.reduceMul, Int.reduceNeg, ↓reduceIte] <;> exact rfl) (by simp only [go_sem, Nat.reduceAdd, Nat.reduceSub, Nat.reduceMul, Nat.reducePow, Nat.reduceEqDiff, Nat.reduceLT, Nat.reduceLeDiff, Nat.reduceBEq, Nat.reduceBNe, Int.reduceToNat, Int.reduceLT, Int.reduceLE, Int.reduceEq, Int.reduceBNe, Int.reduceBEq, Int.reduceAdd, Int.reduceSub, Int.reduceMul, Int.reduceNeg, ↓reduceIte] <;> exact rfl) (by intros; omega) ?_ ?_ ?_
  · simp only [go_sem, Nat.reduceAdd, Nat.reduceSub, Nat.reduceMul, Nat.reducePow, Nat.reduceEqDiff, Nat.reduceLT, Nat.reduceLeDiff, Nat.reduceBEq, Nat.reduceBNe, Int.reduceToNat, Int.reduceLT, Int.reduceLE, Int.reduceEq, Int.reduceBNe, Int.reduceBEq, Int.reduceAdd, Int.reduceSub, Int.reduceMul, Int.reduceNeg, ↓reduceIte] <;> simp
  · intro i _ hi hdi hwi hI
    have hm := map_at (c := PosV.cells) qs hi
    have hv := within15_spec qs[i].qty (-1099511627776) 1099511627776
    rw [qtyB_eq] at hv
    simp only [PosV.cells] at hm
    simp only [go_sem, Nat.reduceAdd, Nat.reduceSub, Nat.reduceMul, Nat.reducePow, Nat.reduceEqDiff, Nat.reduceLT, Nat.reduceLeDiff, Nat.reduceBEq, Nat.reduceBNe, Int.reduceToNat, Int.reduceLT, Int.reduceLE, Int.reduceEq, Int.reduceBNe, Int.reduceBEq, Int.reduceAdd, Int.reduceSub, Int.reduceMul, Int.reduceNeg, ↓reduceIte, List.length_map, hdi, hm]
    (repeat' (with_reducible first | refine And.intro ?_ ?_ | exact DrawN.mk (by kernel_rfl) | exact OkN.mk (by kernel_rfl))) <;> try omega
    refine CallN.pure hv ?_
    cases hb : qtyB qs[i]
    · have : qs.all qtyB = false := by
        cases hc : qs.all qtyB
        · rfl
        · rw [List.all_eq_true.1 hc _ (List.getElem_mem hi)] at hb; cases hb
      have e : pcE r qs = 3 := by simp [pcE, b2, this]
      have e1 : losE r w c qs = 3 := by simp [losE, e]
      have e2 : losB r w c qs = lossBox [] 0 := by simp [losB, e1]
      rw [e1, e2, hz0]
      simp only [go_sem, Nat.reduceAdd, Nat.reduceSub, Nat.reduceMul, Nat.reducePow, Nat.reduceEqDiff, Nat.reduceLT, Nat.reduceLeDiff, Nat.reduceBEq, Nat.reduceBNe, Int.reduceToNat, Int.reduceLT, Int.reduceLE, Int.reduceEq, Int.reduceBNe, Int.reduceBEq, Int.reduceAdd, Int.reduceSub, Int.reduceMul, Int.reduceNeg, ↓reduceIte]
    · simp only [go_sem, Nat.reduceAdd, Nat.reduceSub, Nat.reduceMul, Nat.reducePow, Nat.reduceEqDiff, Nat.reduceLT, Nat.reduceLeDiff, Nat.reduceBEq, Nat.reduceBNe, Int.reduceToNat, Int.reduceLT, Int.reduceLE, Int.reduceEq, Int.reduceBNe, Int.reduceBEq, Int.reduceAdd, Int.reduceSub, Int.reduceMul, Int.reduceNeg, ↓reduceIte, hwi]
      refine RoundK.step () hi ?_ ?_
      · intro j hj hji
        rcases Nat.lt_or_ge j i with h | h
        · exact hI j hj h
        · obtain rfl : j = i := by omega
          exact hb
      · simp only [go_sem, Nat.reduceAdd, Nat.reduceSub, Nat.reduceMul, Nat.reducePow, Nat.reduceEqDiff, Nat.reduceLT, Nat.reduceLeDiff, Nat.reduceBEq, Nat.reduceBNe, Int.reduceToNat, Int.reduceLT, Int.reduceLE, Int.reduceEq, Int.reduceBNe, Int.reduceBEq, Int.reduceAdd, Int.reduceSub, Int.reduceMul, Int.reduceNeg, ↓reduceIte]
  intro _ hdx hI
  have hall : qs.all qtyB = true := List.all_eq_true.2 fun p hp => by
    obtain ⟨j, hj, rfl⟩ := List.mem_iff_getElem.1 hp
    exact hI j hj hj
  have hE : pcE r qs = 0 := by simp [pcE, b2, hall]
  have hpo := piece_ok (w := w) (c := c) hE
  have hpl := pcL_len r w c qs
  have e2 : losE r w c qs = if lossBad (pcL r w c qs) then 1 else 0 := by simp [losE, hE]
  simp only [losB, e2]
  clear e2 hI
  have hz := lossBox_zero (pcL r w c qs)
  simp only [go_sem, Nat.reduceAdd, Nat.reduceSub, Nat.reduceMul, Nat.reducePow, Nat.reduceEqDiff, Nat.reduceLT, Nat.reduceLeDiff, Nat.reduceBEq, Nat.reduceBNe, Int.reduceToNat, Int.reduceLT, Int.reduceLE, Int.reduceEq, Int.reduceBNe, Int.reduceBEq, Int.reduceAdd, Int.reduceSub, Int.reduceMul, Int.reduceNeg, ↓reduceIte, List.length_map, hdx]
  clear hdx
  refine LoopK.walk (S := Unit) 6 [1, 2, 3, 4, 8, 10] [80, 144] (fun i _ => [(12, .int .i64 i)]) (fun i _ => [(176, .box (lossBox (pcL r w c qs) i))]) (fun i _ => ∀ j < i, inR (lossP (pcL r w c qs) j) = true) () (by simp only [go_sem, Nat.reduceAdd, Nat.reduceSub, Nat.reduceMul, Nat.reducePow, Nat.reduceEqDiff, Nat.reduceLT, Nat.reduceLeDiff, Nat.reduceBEq, Nat.reduceBNe, Int.reduceToNat, Int.reduceLT, Int.reduceLE, Int.reduceEq, Int.reduceBNe, Int.reduceBEq, Int.reduceAdd, Int.reduceSub, Int.reduceMul, Int.reduceNeg, ↓reduceIte] <;> exact rfl) (by simp only [go_sem, Nat.reduceAdd, Nat.reduceSub, Nat.reduceMul, Nat.reducePow, Nat.reduceEqDiff, Nat.reduceLT, Nat.reduceLeDiff, Nat.reduceBEq, Nat.reduceBNe, Int.reduceToNat, Int.reduceLT, Int.reduceLE, Int.reduceEq, Int.reduceBNe, Int.reduceBEq, Int.reduceAdd, Int.reduceSub, Int.reduceMul, Int.reduceNeg, ↓reduceIte] <;> exact rfl) (by intros; omega) ?_ ?_ ?_
  · simp only [go_sem, Nat.reduceAdd, Nat.reduceSub, Nat.reduceMul, Nat.reducePow, Nat.reduceEqDiff, Nat.reduceLT, Nat.reduceLeDiff, Nat.reduceBEq, Nat.reduceBNe, Int.reduceToNat, Int.reduceLT, Int.reduceLE, Int.reduceEq, Int.reduceBNe, Int.reduceBEq, Int.reduceAdd, Int.reduceSub, Int.reduceMul, Int.reduceNeg, ↓reduceIte, hz] <;> simp
  · intro j _ hj hdj hwj hI
    have hdj : decide ((j : Int) < 6) = true := hdj
    have hall2 := lossAll hpo j (by omega)
    have hset := lossBox_set (pcL r w c qs) hj
    obtain ⟨B, hB⟩ : ∃ B, B = lossBox (pcL r w c qs) j := ⟨_, rfl⟩
    have hBl : B.length = 6 := by rw [hB]; rfl
    have hleaf1 : ∀ d ∈ lossBox (pcL r w c qs) (j + 1), leafB d = true := by simp [lossBox, lossOut, leafB]
    have hleaf : ∀ d ∈ B, leafB d = true := by rw [hB]; simp [lossBox, lossOut, leafB]
    rw [← hB] at hset ⊢
    simp only [go_sem, Nat.reduceAdd, Nat.reduceSub, Nat.reduceMul, Nat.reducePow, Nat.reduceEqDiff, Nat.reduceLT, Nat.reduceLeDiff, Nat.reduceBEq, Nat.reduceBNe, Int.reduceToNat, Int.reduceLT, Int.reduceLE, Int.reduceEq, Int.reduceBNe, Int.reduceBEq, Int.reduceAdd, Int.reduceSub, Int.reduceMul, Int.reduceNeg, ↓reduceIte, hdj]
    refine LoopK.walk (S := Unit) qs.length [1, 2, 3, 4, 8, 10, 12] [80, 144, 176] (fun i _ => [(14, .int .i64 i), (13, .ref 1504)]) (fun i _ => [(1504, .own 2 (wds ((pcL r w c (qs.take i)).map (lossF j))))]) (fun i _ => True) () (by simp only [go_sem, Nat.reduceAdd, Nat.reduceSub, Nat.reduceMul, Nat.reducePow, Nat.reduceEqDiff, Nat.reduceLT, Nat.reduceLeDiff, Nat.reduceBEq, Nat.reduceBNe, Int.reduceToNat, Int.reduceLT, Int.reduceLE, Int.reduceEq, Int.reduceBNe, Int.reduceBEq, Int.reduceAdd, Int.reduceSub, Int.reduceMul, Int.reduceNeg, ↓reduceIte] <;> exact rfl) (by simp only [go_sem, Nat.reduceAdd, Nat.reduceSub, Nat.reduceMul, Nat.reducePow, Nat.reduceEqDiff, Nat.reduceLT, Nat.reduceLeDiff, Nat.reduceBEq, Nat.reduceBNe, Int.reduceToNat, Int.reduceLT, Int.reduceLE, Int.reduceEq, Int.reduceBNe, Int.reduceBEq, Int.reduceAdd, Int.reduceSub, Int.reduceMul, Int.reduceNeg, ↓reduceIte] <;> exact rfl) trivial ?_ ?_ ?_
    · simp only [go_sem, Nat.reduceAdd, Nat.reduceSub, Nat.reduceMul, Nat.reducePow, Nat.reduceEqDiff, Nat.reduceLT, Nat.reduceLeDiff, Nat.reduceBEq, Nat.reduceBNe, Int.reduceToNat, Int.reduceLT, Int.reduceLE, Int.reduceEq, Int.reduceBNe, Int.reduceBEq, Int.reduceAdd, Int.reduceSub, Int.reduceMul, Int.reduceNeg, ↓reduceIte] <;> simp [wds, pcL, leDL_leaf hleaf, killL_leaf hleaf]
    · intro i _ hi hdi hwi _
      have hm := map_at (c := PosV.cells) qs hi
      have hs := pcL_step r w c qs hi
      have hlen := pcL_len r w c (qs.take i)
      have hlt : (qs.take i).length = i := by simp; omega
      have hA := h5 qs[i].inst
      obtain ⟨x, hx⟩ : ∃ x, x = instOf r qs[i].inst := ⟨_, rfl⟩
      have hxok : instIs r qs[i].inst = true → x.ok = true := fun h => by rw [hx]; exact instOf_ok b2 h
      have hqty := List.all_eq_true.1 hall qs[i] (List.getElem_mem hi)
      have hwl : (wds ((pcL r w c (qs.take i)).map (lossF j))).length ≤ i := by simp [wds]; omega
      have hlI : (i : Int) < (qs.length : Int) := by omega
      simp only [pcHit, ← hx] at hs
      rw [← hx] at hA
      simp only [PosV.cells] at hm
      simp only [InstV.cells] at hA
      simp only [go_sem, Nat.reduceAdd, Nat.reduceSub, Nat.reduceMul, Nat.reducePow, Nat.reduceEqDiff, Nat.reduceLT, Nat.reduceLeDiff, Nat.reduceBEq, Nat.reduceBNe, Int.reduceToNat, Int.reduceLT, Int.reduceLE, Int.reduceEq, Int.reduceBNe, Int.reduceBEq, Int.reduceAdd, Int.reduceSub, Int.reduceMul, Int.reduceNeg, ↓reduceIte, List.length_map, hdi, hm]
      (repeat' (with_reducible first | refine And.intro ?_ ?_ | exact DrawN.mk (by kernel_rfl) | exact OkN.mk (by kernel_rfl))) <;> try omega
      refine CallN.pure hA ?_
      cases p1 : instIs r qs[i].inst
      · simp only [p1, Bool.false_and, Bool.false_eq_true, if_false] at hs
        simp only [go_sem, Nat.reduceAdd, Nat.reduceSub, Nat.reduceMul, Nat.reducePow, Nat.reduceEqDiff, Nat.reduceLT, Nat.reduceLeDiff, Nat.reduceBEq, Nat.reduceBNe, Int.reduceToNat, Int.reduceLT, Int.reduceLE, Int.reduceEq, Int.reduceBNe, Int.reduceBEq, Int.reduceAdd, Int.reduceSub, Int.reduceMul, Int.reduceNeg, ↓reduceIte, List.length_map, p1, hwi]
        (repeat' (with_reducible first | refine And.intro ?_ ?_ | exact DrawN.mk (by kernel_rfl) | exact OkN.mk (by kernel_rfl))) <;> try omega
        refine RoundK.step () hi trivial ?_
        simp only [go_sem, Nat.reduceAdd, Nat.reduceSub, Nat.reduceMul, Nat.reducePow, Nat.reduceEqDiff, Nat.reduceLT, Nat.reduceLeDiff, Nat.reduceBEq, Nat.reduceBNe, Int.reduceToNat, Int.reduceLT, Int.reduceLE, Int.reduceEq, Int.reduceBNe, Int.reduceBEq, Int.reduceAdd, Int.reduceSub, Int.reduceMul, Int.reduceNeg, ↓reduceIte, hs] <;> simp [leDL_leaf hleaf, killL_leaf hleaf]
      cases p2 : qs[i].who == w
      · simp only [p1, p2, Bool.false_and, Bool.true_and, Bool.false_eq_true, if_false] at hs
        simp only [go_sem, Nat.reduceAdd, Nat.reduceSub, Nat.reduceMul, Nat.reducePow, Nat.reduceEqDiff, Nat.reduceLT, Nat.reduceLeDiff, Nat.reduceBEq, Nat.reduceBNe, Int.reduceToNat, Int.reduceLT, Int.reduceLE, Int.reduceEq, Int.reduceBNe, Int.reduceBEq, Int.reduceAdd, Int.reduceSub, Int.reduceMul, Int.reduceNeg, ↓reduceIte, List.length_map, hm, p1, p2, hwi]
        (repeat' (with_reducible first | refine And.intro ?_ ?_ | exact DrawN.mk (by kernel_rfl) | exact OkN.mk (by kernel_rfl))) <;> try omega
        refine RoundK.step () hi trivial ?_
        simp only [go_sem, Nat.reduceAdd, Nat.reduceSub, Nat.reduceMul, Nat.reducePow, Nat.reduceEqDiff, Nat.reduceLT, Nat.reduceLeDiff, Nat.reduceBEq, Nat.reduceBNe, Int.reduceToNat, Int.reduceLT, Int.reduceLE, Int.reduceEq, Int.reduceBNe, Int.reduceBEq, Int.reduceAdd, Int.reduceSub, Int.reduceMul, Int.reduceNeg, ↓reduceIte, hs] <;> simp [leDL_leaf hleaf, killL_leaf hleaf]
      cases p3 : x.cur == c
      · simp only [p1, p2, p3, Bool.and_false, Bool.true_and, Bool.false_eq_true, if_false] at hs
        simp only [go_sem, Nat.reduceAdd, Nat.reduceSub, Nat.reduceMul, Nat.reducePow, Nat.reduceEqDiff, Nat.reduceLT, Nat.reduceLeDiff, Nat.reduceBEq, Nat.reduceBNe, Int.reduceToNat, Int.reduceLT, Int.reduceLE, Int.reduceEq, Int.reduceBNe, Int.reduceBEq, Int.reduceAdd, Int.reduceSub, Int.reduceMul, Int.reduceNeg, ↓reduceIte, List.length_map, hm, p1, p2, p3, hwi]
        (repeat' (with_reducible first | refine And.intro ?_ ?_ | exact DrawN.mk (by kernel_rfl) | exact OkN.mk (by kernel_rfl))) <;> try omega
        refine RoundK.step () hi trivial ?_
        simp only [go_sem, Nat.reduceAdd, Nat.reduceSub, Nat.reduceMul, Nat.reducePow, Nat.reduceEqDiff, Nat.reduceLT, Nat.reduceLeDiff, Nat.reduceBEq, Nat.reduceBNe, Int.reduceToNat, Int.reduceLT, Int.reduceLE, Int.reduceEq, Int.reduceBNe, Int.reduceBEq, Int.reduceAdd, Int.reduceSub, Int.reduceMul, Int.reduceNeg, ↓reduceIte, hs] <;> simp [leDL_leaf hleaf, killL_leaf hleaf]
      simp only [p1, p2, p3, Bool.and_self, if_true] at hs
      have hk := hxok p1
      obtain ⟨⟨m1, m2⟩, -⟩ := inst_range hk
      have hsr := sh_range hk j
      simp only [qtyB, Bool.and_eq_true, Bool.not_eq_true', decide_eq_false_iff_not] at hqty
      have hsa := sh_at ⟨x, qs[i].qty⟩ hj
      have r1 := mul_range (a := x.mult) (b := x.sh j) (A := 1024) (B := 1073741824) (by omega) hsr
      have r1 : -1099511627776 ≤ x.mult * x.sh j ∧ x.mult * x.sh j ≤ 1099511627776 := r1
      have w1 : IntKind.wrap .i64 (0 - qs[i].qty) = -qs[i].qty := by rw [wr64 (by omega) (by omega)]; omega
      have w2 : IntKind.wrap .i64 (x.mult * x.sh j) = x.mult * x.sh j := wr64 (by omega) (by omega)
      have ht := refTimesI (-qs[i].qty) (x.mult * x.sh j) ⟨by omega, by omega⟩ ⟨by omega, by omega⟩
      have hF : -qs[i].qty * (x.mult * x.sh j) = lossF j ⟨x, qs[i].qty⟩ := lossF_eq j ⟨x, qs[i].qty⟩
      rw [hF] at ht
      simp only [wd] at ht
      have hix2 : (List.drop (6 + j * 1) x.cells).headD .undef = .int .i64 (x.sh j) := by
        rcases j with _ | _ | _ | _ | _ | _ | j <;> first | rfl | omega
      simp only [InstV.cells] at hix2
      simp only [go_sem, Nat.reduceAdd, Nat.reduceSub, Nat.reduceMul, Nat.reducePow, Nat.reduceEqDiff, Nat.reduceLT, Nat.reduceLeDiff, Nat.reduceBEq, Nat.reduceBNe, Int.reduceToNat, Int.reduceLT, Int.reduceLE, Int.reduceEq, Int.reduceBNe, Int.reduceBEq, Int.reduceAdd, Int.reduceSub, Int.reduceMul, Int.reduceNeg, ↓reduceIte, List.length_map, hm, p1, p2, p3, hwi, w1, hix2, w2]
      (repeat' (with_reducible first | refine And.intro ?_ ?_ | exact DrawN.mk (by kernel_rfl) | exact OkN.mk (by kernel_rfl))) <;> try omega
      refine CallN.pure ht ?_
      simp only [go_sem, Nat.reduceAdd, Nat.reduceSub, Nat.reduceMul, Nat.reducePow, Nat.reduceEqDiff, Nat.reduceLT, Nat.reduceLeDiff, Nat.reduceBEq, Nat.reduceBNe, Int.reduceToNat, Int.reduceLT, Int.reduceLE, Int.reduceEq, Int.reduceBNe, Int.reduceBEq, Int.reduceAdd, Int.reduceSub, Int.reduceMul, Int.reduceNeg, ↓reduceIte, hwi]
      (repeat' (with_reducible first | refine And.intro ?_ ?_ | exact DrawN.mk (by kernel_rfl) | exact OkN.mk (by kernel_rfl))) <;> try omega
      refine RoundK.step () hi trivial ?_
      simp only [go_sem, Nat.reduceAdd, Nat.reduceSub, Nat.reduceMul, Nat.reducePow, Nat.reduceEqDiff, Nat.reduceLT, Nat.reduceLeDiff, Nat.reduceBEq, Nat.reduceBNe, Int.reduceToNat, Int.reduceLT, Int.reduceLE, Int.reduceEq, Int.reduceBNe, Int.reduceBEq, Int.reduceAdd, Int.reduceSub, Int.reduceMul, Int.reduceNeg, ↓reduceIte, hs] <;> simp [wd, wds, leDL_leaf hleaf, killL_leaf hleaf]
    · intro _ hdx _
      have hs := refSum_spec ((pcL r w c qs).map (lossF j)) (by simp; omega) hall2.1
      have hI2 := refInt_spec (lossP (pcL r w c qs) j)
      have e : sumL ((pcL r w c qs).map (lossF j)) = lossP (pcL r w c qs) j := rfl
      rw [e, hall2.2, if_pos rfl] at hs
      obtain ⟨S, hS⟩ : ∃ S, S = lossP (pcL r w c qs) j := ⟨_, rfl⟩
      rw [← hS] at hs hI2 hset
      have hgood : inR S = true → ∀ k < j + 1, inR (lossP (pcL r w c qs) k) = true := fun hx k hk => by
        rcases Nat.lt_or_ge k j with h | h
        · exact hI k h
        · obtain rfl : k = j := by omega
          rw [← hS]; exact hx
      have hbad : inR S = false → lossBad (pcL r w c qs) = true := fun hx => by
        simp only [lossBad, List.any_eq_true, List.mem_range]
        exact ⟨j, hj, by rw [← hS, hx]; rfl⟩
      simp only [wd] at hs hI2
      simp only [go_sem, Nat.reduceAdd, Nat.reduceSub, Nat.reduceMul, Nat.reducePow, Nat.reduceEqDiff, Nat.reduceLT, Nat.reduceLeDiff, Nat.reduceBEq, Nat.reduceBNe, Int.reduceToNat, Int.reduceLT, Int.reduceLE, Int.reduceEq, Int.reduceBNe, Int.reduceBEq, Int.reduceAdd, Int.reduceSub, Int.reduceMul, Int.reduceNeg, ↓reduceIte, List.length_map, hdx, List.take_length]
      refine CallN.gen [] [] true (by simp) ?_
      simp only [go_sem, Nat.reduceAdd, Nat.reduceSub, Nat.reduceMul, Nat.reducePow, Nat.reduceEqDiff, Nat.reduceLT, Nat.reduceLeDiff, Nat.reduceBEq, Nat.reduceBNe, Int.reduceToNat, Int.reduceLT, Int.reduceLE, Int.reduceEq, Int.reduceBNe, Int.reduceBEq, Int.reduceAdd, Int.reduceSub, Int.reduceMul, Int.reduceNeg, ↓reduceIte]
      refine CallG.intro hs ?_
      simp only [go_sem, Nat.reduceAdd, Nat.reduceSub, Nat.reduceMul, Nat.reducePow, Nat.reduceEqDiff, Nat.reduceLT, Nat.reduceLeDiff, Nat.reduceBEq, Nat.reduceBNe, Int.reduceToNat, Int.reduceLT, Int.reduceLE, Int.reduceEq, Int.reduceBNe, Int.reduceBEq, Int.reduceAdd, Int.reduceSub, Int.reduceMul, Int.reduceNeg, ↓reduceIte]
      refine CallN.pure hI2 ?_
      cases hi : inR S
      · have hb := hbad hi
        simp only [go_sem, Nat.reduceAdd, Nat.reduceSub, Nat.reduceMul, Nat.reducePow, Nat.reduceEqDiff, Nat.reduceLT, Nat.reduceLeDiff, Nat.reduceBEq, Nat.reduceBNe, Int.reduceToNat, Int.reduceLT, Int.reduceLE, Int.reduceEq, Int.reduceBNe, Int.reduceBEq, Int.reduceAdd, Int.reduceSub, Int.reduceMul, Int.reduceNeg, ↓reduceIte, hi, hb, lossBox, lossOut]
      · simp only [go_sem, Nat.reduceAdd, Nat.reduceSub, Nat.reduceMul, Nat.reducePow, Nat.reduceEqDiff, Nat.reduceLT, Nat.reduceLeDiff, Nat.reduceBEq, Nat.reduceBNe, Int.reduceToNat, Int.reduceLT, Int.reduceLE, Int.reduceEq, Int.reduceBNe, Int.reduceBEq, Int.reduceAdd, Int.reduceSub, Int.reduceMul, Int.reduceNeg, ↓reduceIte] at hset
        simp only [go_sem, Nat.reduceAdd, Nat.reduceSub, Nat.reduceMul, Nat.reducePow, Nat.reduceEqDiff, Nat.reduceLT, Nat.reduceLeDiff, Nat.reduceBEq, Nat.reduceBNe, Int.reduceToNat, Int.reduceLT, Int.reduceLE, Int.reduceEq, Int.reduceBNe, Int.reduceBEq, Int.reduceAdd, Int.reduceSub, Int.reduceMul, Int.reduceNeg, ↓reduceIte, hi, hset, hwj]
        (repeat' (with_reducible first | refine And.intro ?_ ?_ | exact DrawN.mk (by kernel_rfl) | exact OkN.mk (by kernel_rfl))) <;> try omega
        refine RoundK.step () hj (hgood hi) ?_
        simp only [go_sem, Nat.reduceAdd, Nat.reduceSub, Nat.reduceMul, Nat.reducePow, Nat.reduceEqDiff, Nat.reduceLT, Nat.reduceLeDiff, Nat.reduceBEq, Nat.reduceBNe, Int.reduceToNat, Int.reduceLT, Int.reduceLE, Int.reduceEq, Int.reduceBNe, Int.reduceBEq, Int.reduceAdd, Int.reduceSub, Int.reduceMul, Int.reduceNeg, ↓reduceIte]
        exact leDL_leaf hleaf1
  · intro _ hdx hI
    have hdx : decide ((6 : Int) < 6) = false := hdx
    have hb : lossBad (pcL r w c qs) = false := by
      simp only [lossBad, List.any_eq_false, List.mem_range]
      intro k hk; simp [hI k hk]
    simp only [go_sem, Nat.reduceAdd, Nat.reduceSub, Nat.reduceMul, Nat.reducePow, Nat.reduceEqDiff, Nat.reduceLT, Nat.reduceLeDiff, Nat.reduceBEq, Nat.reduceBNe, Int.reduceToNat, Int.reduceLT, Int.reduceLE, Int.reduceEq, Int.reduceBNe, Int.reduceBEq, Int.reduceAdd, Int.reduceSub, Int.reduceMul, Int.reduceNeg, ↓reduceIte, hdx, hb, lossBox, lossOut]
end Go.Proofs.Ytbllopdcbkeadaa
set_option linter.unusedSimpArgs false
set_option linter.unusedVariables false
namespace Go.Proofs.Ytbllopdcbkeadaa
open Go.Abs
set_option maxRecDepth 8000 in
theorem refMargin_spec (r : RollV) (w c : Int) (qs : List PosV) (hr : r.small) (hq : qs.length < 2 ^ 30) : Abs.Spec Try.prog 21 [] [.agg r.cells, .int .i64 w, .int .i64 c, .sl 4 (qs.map PosV.cells)] [] (.tup [.int .i64 (marN r w c qs), .int .i64 (marE r w c qs)]) := by
  have hL := refLosses_spec r w c qs hr hq
  have h5 := fun n => refFindInst_spec r n hr
  simp only [RollV.cells] at hL h5 ⊢
  refine Abs.Spec.go (n := 114) (np := 4) (rs := [.tmp 8, .tmp 9]) mixed Try.func21 rfl rfl rfl rfl rfl (by simp) (by simp) ?_
  simp only [go_sem, Nat.reduceAdd, Nat.reduceSub, Nat.reduceMul, Nat.reducePow, Nat.reduceEqDiff, Nat.reduceLT, Nat.reduceLeDiff, Nat.reduceBEq, Nat.reduceBNe, Int.reduceToNat, Int.reduceLT, Int.reduceLE, Int.reduceEq, Int.reduceBNe, Int.reduceBEq, Int.reduceAdd, Int.reduceSub, Int.reduceMul, Int.reduceNeg, ↓reduceIte]
  refine CallN.pure hL ?_
  by_cases hE : losE r w c qs = 0
  case neg =>
    have b1 : (losE r w c qs != 0) = true := by simpa using hE
    have e1 : marE r w c qs = losE r w c qs := by simp [marE, hE]
    have e2 : marN r w c qs = 0 := by simp [marN, hE]
    have e3 : losB r w c qs = lossBox [] 0 := by simp [losB, hE]
    rw [e1, e2, e3, lossBox_zero]
    simp only [go_sem, Nat.reduceAdd, Nat.reduceSub, Nat.reduceMul, Nat.reducePow, Nat.reduceEqDiff, Nat.reduceLT, Nat.reduceLeDiff, Nat.reduceBEq, Nat.reduceBNe, Int.reduceToNat, Int.reduceLT, Int.reduceLE, Int.reduceEq, Int.reduceBNe, Int.reduceBEq, Int.reduceAdd, Int.reduceSub, Int.reduceMul, Int.reduceNeg, ↓reduceIte, b1]
  obtain ⟨hpc, hbad⟩ := losE_zero hE
  have hpo := piece_ok (w := w) (c := c) hpc
  have hpl := pcL_len r w c qs
  have hko : r.okB = true ∧ qs.all qtyB = true := by
    unfold pcE at hpc
    split at hpc
    · rename_i h1
      split at hpc
      · rename_i h2; exact ⟨h1, h2⟩
      · cases hpc
    · cases hpc
  have e2 : marE r w c qs = if inR (marT (pcL r w c qs)) then 0 else 1 := by simp [marE, hE]
  have e3 : marN r w c qs = if inR (marT (pcL r w c qs)) then marT (pcL r w c qs) else 0 := by simp [marN, hE]
  have e4 : losB r w c qs = [.int .i64 (lossP (pcL r w c qs) 0), .int .i64 (lossP (pcL r w c qs) 1), .int .i64 (lossP (pcL r w c qs) 2), .int .i64 (lossP (pcL r w c qs) 3), .int .i64 (lossP (pcL r w c qs) 4), .int .i64 (lossP (pcL r w c qs) 5)] := by simp [losB, hE, lossBox, lossOut]
  rw [e2, e3, e4]
  clear e2 e3 e4 hL
  have hin := lossBad_no hbad
  obtain ⟨T, hT⟩ : ∃ T, T = marT (pcL r w c qs) := ⟨_, rfl⟩
  rw [← hT]
  simp only [marT] at hT
  obtain ⟨L, hLd⟩ : ∃ L, L = lossP (pcL r w c qs) := ⟨_, rfl⟩
  rw [← hLd] at hin hT ⊢
  simp only [go_sem, Nat.reduceAdd, Nat.reduceSub, Nat.reduceMul, Nat.reducePow, Nat.reduceEqDiff, Nat.reduceLT, Nat.reduceLeDiff, Nat.reduceBEq, Nat.reduceBNe, Int.reduceToNat, Int.reduceLT, Int.reduceLE, Int.reduceEq, Int.reduceBNe, Int.reduceBEq, Int.reduceAdd, Int.reduceSub, Int.reduceMul, Int.reduceNeg, ↓reduceIte, hE]
  refine LoopK.walk (S := Unit) 6 [1, 2, 3, 4, 10] [80, 176] (fun i _ => [(13, .int .i64 i), (12, .int .i64 (mostU L i))]) (fun i _ => []) (fun i _ => True) () (by simp only [go_sem, Nat.reduceAdd, Nat.reduceSub, Nat.reduceMul, Nat.reducePow, Nat.reduceEqDiff, Nat.reduceLT, Nat.reduceLeDiff, Nat.reduceBEq, Nat.reduceBNe, Int.reduceToNat, Int.reduceLT, Int.reduceLE, Int.reduceEq, Int.reduceBNe, Int.reduceBEq, Int.reduceAdd, Int.reduceSub, Int.reduceMul, Int.reduceNeg, ↓reduceIte] <;> exact rfl) (by simp only [go_sem, Nat.reduceAdd, Nat.reduceSub, Nat.reduceMul, Nat.reducePow, Nat.reduceEqDiff, Nat.reduceLT, Nat.reduceLeDiff, Nat.reduceBEq, Nat.reduceBNe, Int.reduceToNat, Int.reduceLT, Int.reduceLE, Int.reduceEq, Int.reduceBNe, Int.reduceBEq, Int.reduceAdd, Int.reduceSub, Int.reduceMul, Int.reduceNeg, ↓reduceIte] <;> exact rfl) trivial ?_ ?_ ?_
  · simp only [go_sem, Nat.reduceAdd, Nat.reduceSub, Nat.reduceMul, Nat.reducePow, Nat.reduceEqDiff, Nat.reduceLT, Nat.reduceLeDiff, Nat.reduceBEq, Nat.reduceBNe, Int.reduceToNat, Int.reduceLT, Int.reduceLE, Int.reduceEq, Int.reduceBNe, Int.reduceBEq, Int.reduceAdd, Int.reduceSub, Int.reduceMul, Int.reduceNeg, ↓reduceIte] <;> simp [mostU]
  · intro i _ hi hdi hwi _
    have hdi : decide ((i : Int) < 6) = true := hdi
    have hsx := six_at L hi
    simp only [go_sem, Nat.reduceAdd, Nat.reduceSub, Nat.reduceMul, Nat.reducePow, Nat.reduceEqDiff, Nat.reduceLT, Nat.reduceLeDiff, Nat.reduceBEq, Nat.reduceBNe, Int.reduceToNat, Int.reduceLT, Int.reduceLE, Int.reduceEq, Int.reduceBNe, Int.reduceBEq, Int.reduceAdd, Int.reduceSub, Int.reduceMul, Int.reduceNeg, ↓reduceIte, hdi, hsx, hwi]
    (repeat' (with_reducible first | refine And.intro ?_ ?_ | exact DrawN.mk (by kernel_rfl) | exact OkN.mk (by kernel_rfl))) <;> try omega
    refine RoundK.step () hi trivial ?_
    simp only [go_sem, Nat.reduceAdd, Nat.reduceSub, Nat.reduceMul, Nat.reducePow, Nat.reduceEqDiff, Nat.reduceLT, Nat.reduceLeDiff, Nat.reduceBEq, Nat.reduceBNe, Int.reduceToNat, Int.reduceLT, Int.reduceLE, Int.reduceEq, Int.reduceBNe, Int.reduceBEq, Int.reduceAdd, Int.reduceSub, Int.reduceMul, Int.reduceNeg, ↓reduceIte, mostU]
  intro _ hdx _
  have hdx : decide ((6 : Int) < 6) = false := hdx
  have hmr := mostU_range (f := L) 6 hin
  obtain ⟨M, hM⟩ : ∃ M, M = mostU L 6 := ⟨_, rfl⟩
  rw [← hM] at hmr hT ⊢
  have hO := refOf_spec M (by omega)
  simp only [wd] at hO
  simp only [go_sem, Nat.reduceAdd, Nat.reduceSub, Nat.reduceMul, Nat.reducePow, Nat.reduceEqDiff, Nat.reduceLT, Nat.reduceLeDiff, Nat.reduceBEq, Nat.reduceBNe, Int.reduceToNat, Int.reduceLT, Int.reduceLE, Int.reduceEq, Int.reduceBNe, Int.reduceBEq, Int.reduceAdd, Int.reduceSub, Int.reduceMul, Int.reduceNeg, ↓reduceIte, hdx]
  refine CallN.pure hO ?_
  simp only [go_sem, Nat.reduceAdd, Nat.reduceSub, Nat.reduceMul, Nat.reducePow, Nat.reduceEqDiff, Nat.reduceLT, Nat.reduceLeDiff, Nat.reduceBEq, Nat.reduceBNe, Int.reduceToNat, Int.reduceLT, Int.reduceLE, Int.reduceEq, Int.reduceBNe, Int.reduceBEq, Int.reduceAdd, Int.reduceSub, Int.reduceMul, Int.reduceNeg, ↓reduceIte, List.length_map]
  refine LoopK.walk (S := Unit) qs.length [1, 2, 3, 4] [80] (fun i _ => [(15, .int .i64 i), (14, .ref 1552)]) (fun i _ => [(1552, .own 2 (wds (M :: (pcL r w c (qs.take i)).map addF)))]) (fun i _ => True) () (by simp only [go_sem, Nat.reduceAdd, Nat.reduceSub, Nat.reduceMul, Nat.reducePow, Nat.reduceEqDiff, Nat.reduceLT, Nat.reduceLeDiff, Nat.reduceBEq, Nat.reduceBNe, Int.reduceToNat, Int.reduceLT, Int.reduceLE, Int.reduceEq, Int.reduceBNe, Int.reduceBEq, Int.reduceAdd, Int.reduceSub, Int.reduceMul, Int.reduceNeg, ↓reduceIte] <;> exact rfl) (by simp only [go_sem, Nat.reduceAdd, Nat.reduceSub, Nat.reduceMul, Nat.reducePow, Nat.reduceEqDiff, Nat.reduceLT, Nat.reduceLeDiff, Nat.reduceBEq, Nat.reduceBNe, Int.reduceToNat, Int.reduceLT, Int.reduceLE, Int.reduceEq, Int.reduceBNe, Int.reduceBEq, Int.reduceAdd, Int.reduceSub, Int.reduceMul, Int.reduceNeg, ↓reduceIte] <;> exact rfl) trivial ?_ ?_ ?_
  · simp only [go_sem, Nat.reduceAdd, Nat.reduceSub, Nat.reduceMul, Nat.reducePow, Nat.reduceEqDiff, Nat.reduceLT, Nat.reduceLeDiff, Nat.reduceBEq, Nat.reduceBNe, Int.reduceToNat, Int.reduceLT, Int.reduceLE, Int.reduceEq, Int.reduceBNe, Int.reduceBEq, Int.reduceAdd, Int.reduceSub, Int.reduceMul, Int.reduceNeg, ↓reduceIte] <;> simp [wds, wd, pcL]
  · intro i _ hi hdi hwi _
    have hm := map_at (c := PosV.cells) qs hi
    have hs := pcL_step r w c qs hi
    have hlen := pcL_len r w c (qs.take i)
    have hlt : (qs.take i).length = i := by simp; omega
    have hA := h5 qs[i].inst
    obtain ⟨x, hx⟩ : ∃ x, x = instOf r qs[i].inst := ⟨_, rfl⟩
    have hxok : instIs r qs[i].inst = true → x.ok = true := fun h => by rw [hx]; exact instOf_ok hko.1 h
    have hqty := List.all_eq_true.1 hko.2 qs[i] (List.getElem_mem hi)
    have hwl : (wds (M :: (pcL r w c (qs.take i)).map addF)).length ≤ i + 1 := by simp [wds]; omega
    have hlI : (i : Int) < (qs.length : Int) := by omega
    simp only [pcHit, ← hx] at hs
    rw [← hx] at hA
    simp only [PosV.cells] at hm
    simp only [InstV.cells] at hA
    simp only [go_sem, Nat.reduceAdd, Nat.reduceSub, Nat.reduceMul, Nat.reducePow, Nat.reduceEqDiff, Nat.reduceLT, Nat.reduceLeDiff, Nat.reduceBEq, Nat.reduceBNe, Int.reduceToNat, Int.reduceLT, Int.reduceLE, Int.reduceEq, Int.reduceBNe, Int.reduceBEq, Int.reduceAdd, Int.reduceSub, Int.reduceMul, Int.reduceNeg, ↓reduceIte, List.length_map, hdi, hm]
    (repeat' (with_reducible first | refine And.intro ?_ ?_ | exact DrawN.mk (by kernel_rfl) | exact OkN.mk (by kernel_rfl))) <;> try omega
    refine CallN.pure hA ?_
    cases p1 : instIs r qs[i].inst
    · simp only [p1, Bool.false_and, Bool.false_eq_true, if_false] at hs
      simp only [go_sem, Nat.reduceAdd, Nat.reduceSub, Nat.reduceMul, Nat.reducePow, Nat.reduceEqDiff, Nat.reduceLT, Nat.reduceLeDiff, Nat.reduceBEq, Nat.reduceBNe, Int.reduceToNat, Int.reduceLT, Int.reduceLE, Int.reduceEq, Int.reduceBNe, Int.reduceBEq, Int.reduceAdd, Int.reduceSub, Int.reduceMul, Int.reduceNeg, ↓reduceIte, List.length_map, p1, hwi]
      (repeat' (with_reducible first | refine And.intro ?_ ?_ | exact DrawN.mk (by kernel_rfl) | exact OkN.mk (by kernel_rfl))) <;> try omega
      refine RoundK.step () hi trivial ?_
      simp only [go_sem, Nat.reduceAdd, Nat.reduceSub, Nat.reduceMul, Nat.reducePow, Nat.reduceEqDiff, Nat.reduceLT, Nat.reduceLeDiff, Nat.reduceBEq, Nat.reduceBNe, Int.reduceToNat, Int.reduceLT, Int.reduceLE, Int.reduceEq, Int.reduceBNe, Int.reduceBEq, Int.reduceAdd, Int.reduceSub, Int.reduceMul, Int.reduceNeg, ↓reduceIte, hs]
    cases p2 : qs[i].who == w
    · simp only [p1, p2, Bool.false_and, Bool.true_and, Bool.false_eq_true, if_false] at hs
      simp only [go_sem, Nat.reduceAdd, Nat.reduceSub, Nat.reduceMul, Nat.reducePow, Nat.reduceEqDiff, Nat.reduceLT, Nat.reduceLeDiff, Nat.reduceBEq, Nat.reduceBNe, Int.reduceToNat, Int.reduceLT, Int.reduceLE, Int.reduceEq, Int.reduceBNe, Int.reduceBEq, Int.reduceAdd, Int.reduceSub, Int.reduceMul, Int.reduceNeg, ↓reduceIte, List.length_map, hm, p1, p2, hwi]
      (repeat' (with_reducible first | refine And.intro ?_ ?_ | exact DrawN.mk (by kernel_rfl) | exact OkN.mk (by kernel_rfl))) <;> try omega
      refine RoundK.step () hi trivial ?_
      simp only [go_sem, Nat.reduceAdd, Nat.reduceSub, Nat.reduceMul, Nat.reducePow, Nat.reduceEqDiff, Nat.reduceLT, Nat.reduceLeDiff, Nat.reduceBEq, Nat.reduceBNe, Int.reduceToNat, Int.reduceLT, Int.reduceLE, Int.reduceEq, Int.reduceBNe, Int.reduceBEq, Int.reduceAdd, Int.reduceSub, Int.reduceMul, Int.reduceNeg, ↓reduceIte, hs]
    cases p3 : x.cur == c
    · simp only [p1, p2, p3, Bool.and_false, Bool.true_and, Bool.false_eq_true, if_false] at hs
      simp only [go_sem, Nat.reduceAdd, Nat.reduceSub, Nat.reduceMul, Nat.reducePow, Nat.reduceEqDiff, Nat.reduceLT, Nat.reduceLeDiff, Nat.reduceBEq, Nat.reduceBNe, Int.reduceToNat, Int.reduceLT, Int.reduceLE, Int.reduceEq, Int.reduceBNe, Int.reduceBEq, Int.reduceAdd, Int.reduceSub, Int.reduceMul, Int.reduceNeg, ↓reduceIte, List.length_map, hm, p1, p2, p3, hwi]
      (repeat' (with_reducible first | refine And.intro ?_ ?_ | exact DrawN.mk (by kernel_rfl) | exact OkN.mk (by kernel_rfl))) <;> try omega
      refine RoundK.step () hi trivial ?_
      simp only [go_sem, Nat.reduceAdd, Nat.reduceSub, Nat.reduceMul, Nat.reducePow, Nat.reduceEqDiff, Nat.reduceLT, Nat.reduceLeDiff, Nat.reduceBEq, Nat.reduceBNe, Int.reduceToNat, Int.reduceLT, Int.reduceLE, Int.reduceEq, Int.reduceBNe, Int.reduceBEq, Int.reduceAdd, Int.reduceSub, Int.reduceMul, Int.reduceNeg, ↓reduceIte, hs]
    simp only [p1, p2, p3, Bool.and_self, if_true] at hs
    have hk := hxok p1
    obtain ⟨-, g1, g2⟩ := inst_range hk
    simp only [qtyB, Bool.and_eq_true, Bool.not_eq_true', decide_eq_false_iff_not] at hqty
    have w1 : IntKind.wrap .i64 (0 - qs[i].qty) = -qs[i].qty := by rw [wr64 (by omega) (by omega)]; omega
    have ht := refTimesI (max qs[i].qty (-qs[i].qty)) x.add ⟨by omega, by omega⟩ ⟨by omega, by omega⟩
    have hF : max qs[i].qty (-qs[i].qty) * x.add = addF ⟨x, qs[i].qty⟩ := rfl
    rw [hF] at ht
    simp only [wd] at ht
    simp only [go_sem, Nat.reduceAdd, Nat.reduceSub, Nat.reduceMul, Nat.reducePow, Nat.reduceEqDiff, Nat.reduceLT, Nat.reduceLeDiff, Nat.reduceBEq, Nat.reduceBNe, Int.reduceToNat, Int.reduceLT, Int.reduceLE, Int.reduceEq, Int.reduceBNe, Int.reduceBEq, Int.reduceAdd, Int.reduceSub, Int.reduceMul, Int.reduceNeg, ↓reduceIte, List.length_map, hm, p1, p2, p3, hwi, w1]
    (repeat' (with_reducible first | refine And.intro ?_ ?_ | exact DrawN.mk (by kernel_rfl) | exact OkN.mk (by kernel_rfl))) <;> try omega
    refine CallN.pure ht ?_
    simp only [go_sem, Nat.reduceAdd, Nat.reduceSub, Nat.reduceMul, Nat.reducePow, Nat.reduceEqDiff, Nat.reduceLT, Nat.reduceLeDiff, Nat.reduceBEq, Nat.reduceBNe, Int.reduceToNat, Int.reduceLT, Int.reduceLE, Int.reduceEq, Int.reduceBNe, Int.reduceBEq, Int.reduceAdd, Int.reduceSub, Int.reduceMul, Int.reduceNeg, ↓reduceIte, hwi]
    (repeat' (with_reducible first | refine And.intro ?_ ?_ | exact DrawN.mk (by kernel_rfl) | exact OkN.mk (by kernel_rfl))) <;> try omega
    refine RoundK.step () hi trivial ?_
    simp only [go_sem, Nat.reduceAdd, Nat.reduceSub, Nat.reduceMul, Nat.reducePow, Nat.reduceEqDiff, Nat.reduceLT, Nat.reduceLeDiff, Nat.reduceBEq, Nat.reduceBNe, Int.reduceToNat, Int.reduceLT, Int.reduceLE, Int.reduceEq, Int.reduceBNe, Int.reduceBEq, Int.reduceAdd, Int.reduceSub, Int.reduceMul, Int.reduceNeg, ↓reduceIte, hs] <;> simp [wd, wds]
  · intro _ hdx _
    have hb : ∀ n ∈ M :: (pcL r w c qs).map addF, -1208925819614629174706176 ≤ n ∧ n ≤ 1208925819614629174706176 := by
      intro n hn
      rcases List.mem_cons.1 hn with rfl | hn
      · omega
      · obtain ⟨p, hp, rfl⟩ := List.mem_map.1 hn
        exact addF_range (hpo p hp)
    have hs := refSum_spec (M :: (pcL r w c qs).map addF) (by simp; omega) (fun n hn => in2_of (hb n hn) (by omega))
    have h2 := sumL_bound (B := 1208925819614629174706176) hb
    rw [← hT] at hs h2
    simp only [List.length_cons, List.length_map] at h2
    have hin2 : in2 T = true := in2_of (B := 1208925819614629174706176 * (((pcL r w c qs).length + 1 : Nat) : Int)) h2 (by omega)
    have hI2 := refInt_spec T
    rw [hin2, if_pos rfl] at hs
    simp only [wd] at hs hI2
    simp only [go_sem, Nat.reduceAdd, Nat.reduceSub, Nat.reduceMul, Nat.reducePow, Nat.reduceEqDiff, Nat.reduceLT, Nat.reduceLeDiff, Nat.reduceBEq, Nat.reduceBNe, Int.reduceToNat, Int.reduceLT, Int.reduceLE, Int.reduceEq, Int.reduceBNe, Int.reduceBEq, Int.reduceAdd, Int.reduceSub, Int.reduceMul, Int.reduceNeg, ↓reduceIte, List.length_map, hdx, List.take_length]
    refine CallN.gen [] [] true (by simp) ?_
    simp only [go_sem, Nat.reduceAdd, Nat.reduceSub, Nat.reduceMul, Nat.reducePow, Nat.reduceEqDiff, Nat.reduceLT, Nat.reduceLeDiff, Nat.reduceBEq, Nat.reduceBNe, Int.reduceToNat, Int.reduceLT, Int.reduceLE, Int.reduceEq, Int.reduceBNe, Int.reduceBEq, Int.reduceAdd, Int.reduceSub, Int.reduceMul, Int.reduceNeg, ↓reduceIte]
    refine CallG.intro hs ?_
    simp only [go_sem, Nat.reduceAdd, Nat.reduceSub, Nat.reduceMul, Nat.reducePow, Nat.reduceEqDiff, Nat.reduceLT, Nat.reduceLeDiff, Nat.reduceBEq, Nat.reduceBNe, Int.reduceToNat, Int.reduceLT, Int.reduceLE, Int.reduceEq, Int.reduceBNe, Int.reduceBEq, Int.reduceAdd, Int.reduceSub, Int.reduceMul, Int.reduceNeg, ↓reduceIte]
    refine CallN.pure hI2 ?_
    cases hi : inR T <;> simp only [go_sem, Nat.reduceAdd, Nat.reduceSub, Nat.reduceMul, Nat.reducePow, Nat.reduceEqDiff, Nat.reduceLT, Nat.reduceLeDiff, Nat.reduceBEq, Nat.reduceBNe, Int.reduceToNat, Int.reduceLT, Int.reduceLE, Int.reduceEq, Int.reduceBNe, Int.reduceBEq, Int.reduceAdd, Int.reduceSub, Int.reduceMul, Int.reduceNeg, ↓reduceIte, hi] <;> simp
end Go.Proofs.Ytbllopdcbkeadaa
set_option linter.unusedSimpArgs false
set_option linter.unusedVariables false
namespace Go.Proofs.Ytbllopdcbkeadaa
open Go.Abs
theorem Spec.frozen {P : Program} {f : FuncId} {ds hs' : List D} {d : D} (h : Abs.Spec P f [] ds hs' d) (fz : List Nat) {hs2 : List D} {d2 : D} (hd : (frzEL fz (mkE [(0, d)] (osL 0 hs'))).t 0 = d2) (ho : ∀ r, (frzEL fz (mkE [(0, d)] (osL 0 hs'))).o r = hs2.getD r .undef) : Abs.Spec P f [] ds hs2 d2 := by
  refine ⟨h.1, ?_⟩
  intro w l0 G0 own0 S0 vs hl0 hG hsz hr hobj
  refine (h.2 w l0 G0 own0 S0 vs hl0 hG hsz hr hobj).mono ?_
  rintro e w' ⟨v, rfl, o⟩
  refine ⟨v, rfl, o.os, o.tape, o.output, o.size, o.old, o.part, ?_⟩
  obtain ⟨lev, own, S, h1, h2, h3, h4, _⟩ := o.rep
  have hi : Inv w l0 G0 S w' lev own S (mkE [(0, d)] (osL 0 hs')) (fun j => if j = 0 then v else Go.undef) := by
    refine ⟨o.os, o.tape, o.output, o.size, o.old, o.part, h1, h2, fun _ _ _ => rfl, ?_, ?_⟩
    · intro s
      show RepV _ _ (Abs.look [(0, d)] s)
      by_cases hs : s = 0
      · subst hs; simpa [Abs.look] using h3
      · simp only [Abs.look, if_neg hs]; exact .undef _
    · intro r
      show ObjAt _ _ _ _ _ _ r (Abs.look (osL 0 hs') r)
      rw [osL_look]
      simpa using h4 r
  obtain ⟨lev', S', hi'⟩ := Inv.frzL fz hi (fun _ _ => trivial)
  refine ⟨lev', own, S', hi'.priv, hi'.levOld, ?_, ?_, fun i h => by cases h⟩
  · have := hi'.temps 0
    rw [hd] at this
    simpa using this
  · intro r
    have := hi'.objs r
    rwa [ho] at this
def RollV.tiny (r : RollV) : Prop := r.ms.length < 2 ^ 30 ∧ r.ns.length < 2 ^ 30 ∧ r.xs.length < 2 ^ 30
theorem RollV.tiny.small {r : RollV} (h : r.tiny) : r.small := ⟨by have := h.1; omega, by have := h.2.1; omega, by have := h.2.2; omega⟩
theorem twinRoll_spec (r : RollV) (hr : r.tiny) : Abs.Spec Try.prog 53 [] [.agg r.cells] [.own 3 (r.ms.map MemberV.cells), .own 12 (r.ns.map InstV.cells), .own 4 (r.xs.map AssetV.cells)] (.agg [.ref 0, .ref 1, .ref 2]) := by
  obtain ⟨l1, l2, l3⟩ := hr
  simp only [RollV.cells]
  refine Abs.Spec.go (n := 23) (np := 1) (rs := [.cell 2 47]) mixed Try.func53 rfl rfl rfl rfl rfl (by simp) (by simp) ?_
  simp only [go_sem, Nat.reduceAdd, Nat.reduceSub, Nat.reduceMul, Nat.reducePow, Nat.reduceEqDiff, Nat.reduceLT, Nat.reduceLeDiff, Nat.reduceBEq, Nat.reduceBNe, Int.reduceToNat, Int.reduceLT, Int.reduceLE, Int.reduceEq, Int.reduceBNe, Int.reduceBEq, Int.reduceAdd, Int.reduceSub, Int.reduceMul, Int.reduceNeg, ↓reduceIte, List.length_map]
  omega
theorem twinBook_spec (b : BookV) (hb : b.small) : Abs.Spec Try.prog 54 [] [.agg b.cells] [.own 7 (b.ts.map TradeV.cells), .own 4 (b.qs.map PosV.cells)] (.agg [.int .i64 b.next, .ref 0, .ref 1]) := by
  obtain ⟨l1, l2⟩ := hb
  simp only [BookV.cells]
  refine Abs.Spec.go (n := 20) (np := 1) (rs := [.cell 2 51]) mixed Try.func54 rfl rfl rfl rfl rfl (by simp) (by simp) ?_
  simp only [go_sem, Nat.reduceAdd, Nat.reduceSub, Nat.reduceMul, Nat.reducePow, Nat.reduceEqDiff, Nat.reduceLT, Nat.reduceLeDiff, Nat.reduceBEq, Nat.reduceBNe, Int.reduceToNat, Int.reduceLT, Int.reduceLE, Int.reduceEq, Int.reduceBNe, Int.reduceBEq, Int.reduceAdd, Int.reduceSub, Int.reduceMul, Int.reduceNeg, ↓reduceIte, List.length_map]
  omega
theorem twinLed_spec (l : LedV) (hl : l.bs.length < 2 ^ 30) : Abs.Spec Try.prog 55 [] [.agg l.cells] [.own 4 (l.bs.map BalV.cells)] (.agg [.int .i64 l.last, .ref 0]) := by
  simp only [LedV.cells]
  refine Abs.Spec.go (n := 14) (np := 1) (rs := [.cell 2 54]) mixed Try.func55 rfl rfl rfl rfl rfl (by simp) (by simp) ?_
  simp only [go_sem, Nat.reduceAdd, Nat.reduceSub, Nat.reduceMul, Nat.reducePow, Nat.reduceEqDiff, Nat.reduceLT, Nat.reduceLeDiff, Nat.reduceBEq, Nat.reduceBNe, Int.reduceToNat, Int.reduceLT, Int.reduceLE, Int.reduceEq, Int.reduceBNe, Int.reduceBEq, Int.reduceAdd, Int.reduceSub, Int.reduceMul, Int.reduceNeg, ↓reduceIte, List.length_map]
  omega
theorem twinReply_spec (x : ReplyV) (h : x.fits) : Abs.Spec Try.prog 56 [] [.agg x.cells] [.own 3 (x.dues.map DueV.cells), .own 8 (x.falls.map FallV.cells)] (.agg [.int .i64 x.code, .int .i64 x.no, .int .i64 x.amt, .ref 0, .ref 1]) := by
  obtain ⟨h1, h2⟩ := h
  simp only [ReplyV.cells]
  refine Abs.Spec.go (n := 24) (np := 1) (rs := [.cell 2 121]) mixed Try.func56 rfl rfl rfl rfl rfl (by simp) (by simp) ?_
  simp only [go_sem, Nat.reduceAdd, Nat.reduceSub, Nat.reduceMul, Nat.reducePow, Nat.reduceEqDiff, Nat.reduceLT, Nat.reduceLeDiff, Nat.reduceBEq, Nat.reduceBNe, Int.reduceToNat, Int.reduceLT, Int.reduceLE, Int.reduceEq, Int.reduceBNe, Int.reduceBEq, Int.reduceAdd, Int.reduceSub, Int.reduceMul, Int.reduceNeg, ↓reduceIte, List.length_map]
  omega
theorem twinReply_frozen (x : ReplyV) (h : x.fits) : Abs.Spec Try.prog 56 [] [.agg x.cells] [] (.agg x.cells) := by
  refine Spec.frozen (twinReply_spec x h) [0, 1] ?_ ?_
  · simp only [ReplyV.cells]
    rfl
  · intro r
    rcases r with _ | _ | r
    · rfl
    · rfl
    · rfl
structure StateV.small (s : StateV) : Prop where
  roll : s.roll.tiny
  book : s.book.small
  led : s.led.bs.length < 2 ^ 30
  ps : s.ps.length < 2 ^ 30
  calls : s.calls.length < 2 ^ 30
  bids : s.bids.length < 2 ^ 30
  seats : s.seats.length < 2 ^ 30
  rs : ∀ x ∈ s.seats, x.r.fits
def stRefs (s : StateV) : List D := [.int .i64 s.now, .int .i64 s.day, .int .i64 s.phase, .ref 0, .ref 1, .ref 2, .int .i64 s.book.next, .ref 3, .ref 4, .int .i64 s.led.last, .ref 5, .ref 6, .ref 7, .ref 8, .ref 9]
def stOwn (s : StateV) : List D := [.own 3 (s.roll.ms.map MemberV.cells), .own 12 (s.roll.ns.map InstV.cells), .own 4 (s.roll.xs.map AssetV.cells), .own 7 (s.book.ts.map TradeV.cells), .own 4 (s.book.qs.map PosV.cells), .own 4 (s.led.bs.map BalV.cells), .own 3 (pl s.ps), .own 4 (s.calls.map CallV.cells), .own 5 (s.bids.map BidV.cells), .own 7 (s.seats.map SeatV.cells)]
set_option maxRecDepth 8000 in
theorem twinState_spec (s : StateV) (hs : s.small) : Abs.Spec Try.prog 22 [] [.agg s.cells] (stOwn s) (.agg (stRefs s)) := by
  have h1 := twinRoll_spec s.roll hs.roll
  have h2 := twinBook_spec s.book hs.book
  have h3 := twinLed_spec s.led hs.led
  have e1 := hs.ps
  have e2 := hs.calls
  have e3 := hs.bids
  have e4 := hs.seats
  simp only [RollV.cells] at h1
  simp only [BookV.cells] at h2
  simp only [LedV.cells] at h3
  simp only [StateV.cells, stOwn, stRefs]
  refine Abs.Spec.go (n := 68) (np := 1) (rs := [.cell 2 59]) mixed Try.func22 rfl rfl rfl rfl rfl (by simp) (by simp) ?_
  simp only [go_sem, Nat.reduceAdd, Nat.reduceSub, Nat.reduceMul, Nat.reducePow, Nat.reduceEqDiff, Nat.reduceLT, Nat.reduceLeDiff, Nat.reduceBEq, Nat.reduceBNe, Int.reduceToNat, Int.reduceLT, Int.reduceLE, Int.reduceEq, Int.reduceBNe, Int.reduceBEq, Int.reduceAdd, Int.reduceSub, Int.reduceMul, Int.reduceNeg, ↓reduceIte]
  (repeat' (with_reducible first | refine And.intro ?_ ?_ | exact DrawN.mk (by kernel_rfl) | exact OkN.mk (by kernel_rfl))) <;> try omega
  refine CallN.gen [] [] false (by simp) ?_
  simp only [go_sem, Nat.reduceAdd, Nat.reduceSub, Nat.reduceMul, Nat.reducePow, Nat.reduceEqDiff, Nat.reduceLT, Nat.reduceLeDiff, Nat.reduceBEq, Nat.reduceBNe, Int.reduceToNat, Int.reduceLT, Int.reduceLE, Int.reduceEq, Int.reduceBNe, Int.reduceBEq, Int.reduceAdd, Int.reduceSub, Int.reduceMul, Int.reduceNeg, ↓reduceIte]
  refine CallG.intro h1 ?_
  simp only [go_sem, Nat.reduceAdd, Nat.reduceSub, Nat.reduceMul, Nat.reducePow, Nat.reduceEqDiff, Nat.reduceLT, Nat.reduceLeDiff, Nat.reduceBEq, Nat.reduceBNe, Int.reduceToNat, Int.reduceLT, Int.reduceLE, Int.reduceEq, Int.reduceBNe, Int.reduceBEq, Int.reduceAdd, Int.reduceSub, Int.reduceMul, Int.reduceNeg, ↓reduceIte]
  (repeat' (with_reducible first | refine And.intro ?_ ?_ | exact DrawN.mk (by kernel_rfl) | exact OkN.mk (by kernel_rfl))) <;> try omega
  refine CallN.gen [] [] false (by simp) ?_
  simp only [go_sem, Nat.reduceAdd, Nat.reduceSub, Nat.reduceMul, Nat.reducePow, Nat.reduceEqDiff, Nat.reduceLT, Nat.reduceLeDiff, Nat.reduceBEq, Nat.reduceBNe, Int.reduceToNat, Int.reduceLT, Int.reduceLE, Int.reduceEq, Int.reduceBNe, Int.reduceBEq, Int.reduceAdd, Int.reduceSub, Int.reduceMul, Int.reduceNeg, ↓reduceIte]
  refine CallG.intro h2 ?_
  simp only [go_sem, Nat.reduceAdd, Nat.reduceSub, Nat.reduceMul, Nat.reducePow, Nat.reduceEqDiff, Nat.reduceLT, Nat.reduceLeDiff, Nat.reduceBEq, Nat.reduceBNe, Int.reduceToNat, Int.reduceLT, Int.reduceLE, Int.reduceEq, Int.reduceBNe, Int.reduceBEq, Int.reduceAdd, Int.reduceSub, Int.reduceMul, Int.reduceNeg, ↓reduceIte]
  (repeat' (with_reducible first | refine And.intro ?_ ?_ | exact DrawN.mk (by kernel_rfl) | exact OkN.mk (by kernel_rfl))) <;> try omega
  refine CallN.gen [] [] false (by simp) ?_
  simp only [go_sem, Nat.reduceAdd, Nat.reduceSub, Nat.reduceMul, Nat.reducePow, Nat.reduceEqDiff, Nat.reduceLT, Nat.reduceLeDiff, Nat.reduceBEq, Nat.reduceBNe, Int.reduceToNat, Int.reduceLT, Int.reduceLE, Int.reduceEq, Int.reduceBNe, Int.reduceBEq, Int.reduceAdd, Int.reduceSub, Int.reduceMul, Int.reduceNeg, ↓reduceIte]
  refine CallG.intro h3 ?_
  simp only [go_sem, Nat.reduceAdd, Nat.reduceSub, Nat.reduceMul, Nat.reducePow, Nat.reduceEqDiff, Nat.reduceLT, Nat.reduceLeDiff, Nat.reduceBEq, Nat.reduceBNe, Int.reduceToNat, Int.reduceLT, Int.reduceLE, Int.reduceEq, Int.reduceBNe, Int.reduceBEq, Int.reduceAdd, Int.reduceSub, Int.reduceMul, Int.reduceNeg, ↓reduceIte, List.length_map]
  (repeat' (with_reducible first | refine And.intro ?_ ?_ | exact DrawN.mk (by kernel_rfl) | exact OkN.mk (by kernel_rfl))) <;> try omega
  refine LoopK.walk (S := Unit) s.seats.length [1, 2, 3] [32, 48, 160, 161, 162, 208, 209, 256, 352, 448, 544] (fun i _ => [(4, .int .i64 i)])
    (fun i _ => [(64, .box [.int .i64 s.now, .int .i64 s.day, .int .i64 s.phase, .ref 160, .ref 161, .ref 162, .int .i64 s.book.next, .ref 208, .ref 209, .int .i64 s.led.last, .ref 256, .ref 352, .ref 448, .ref 544, .ref 1056]), (1056, .own 7 ((s.seats.take i).map SeatV.cells))]) (fun _ _ => True) () (by simp only [go_sem, Nat.reduceAdd, Nat.reduceSub, Nat.reduceMul, Nat.reducePow, Nat.reduceEqDiff, Nat.reduceLT, Nat.reduceLeDiff, Nat.reduceBEq, Nat.reduceBNe, Int.reduceToNat, Int.reduceLT, Int.reduceLE, Int.reduceEq, Int.reduceBNe, Int.reduceBEq, Int.reduceAdd, Int.reduceSub, Int.reduceMul, Int.reduceNeg, ↓reduceIte] <;> exact rfl) (by simp only [go_sem, Nat.reduceAdd, Nat.reduceSub, Nat.reduceMul, Nat.reducePow, Nat.reduceEqDiff, Nat.reduceLT, Nat.reduceLeDiff, Nat.reduceBEq, Nat.reduceBNe, Int.reduceToNat, Int.reduceLT, Int.reduceLE, Int.reduceEq, Int.reduceBNe, Int.reduceBEq, Int.reduceAdd, Int.reduceSub, Int.reduceMul, Int.reduceNeg, ↓reduceIte] <;> exact rfl) trivial ?_ ?_ ?_
  · simp only [go_sem, Nat.reduceAdd, Nat.reduceSub, Nat.reduceMul, Nat.reducePow, Nat.reduceEqDiff, Nat.reduceLT, Nat.reduceLeDiff, Nat.reduceBEq, Nat.reduceBNe, Int.reduceToNat, Int.reduceLT, Int.reduceLE, Int.reduceEq, Int.reduceBNe, Int.reduceBEq, Int.reduceAdd, Int.reduceSub, Int.reduceMul, Int.reduceNeg, ↓reduceIte] <;> simp
  · intro i _ hi hdi hwi _
    have hm := map_at (c := SeatV.cells) s.seats hi
    have hr := twinReply_frozen s.seats[i].r (hs.rs _ (List.getElem_mem hi))
    have hnext : (s.seats.take (i + 1)).map SeatV.cells = (s.seats.take i).map SeatV.cells ++ [s.seats[i].cells] := by
      rw [List.take_succ_eq_append_getElem hi, List.map_append, List.map_cons, List.map_nil]
    have hlt : ((s.seats.take i).map SeatV.cells).length = i := by simp; omega
    simp only [SeatV.cells] at hm
    simp only [ReplyV.cells] at hr
    simp only [go_sem, Nat.reduceAdd, Nat.reduceSub, Nat.reduceMul, Nat.reducePow, Nat.reduceEqDiff, Nat.reduceLT, Nat.reduceLeDiff, Nat.reduceBEq, Nat.reduceBNe, Int.reduceToNat, Int.reduceLT, Int.reduceLE, Int.reduceEq, Int.reduceBNe, Int.reduceBEq, Int.reduceAdd, Int.reduceSub, Int.reduceMul, Int.reduceNeg, ↓reduceIte, hdi, hm, List.length_map]
    (repeat' (with_reducible first | refine And.intro ?_ ?_ | exact DrawN.mk (by kernel_rfl) | exact OkN.mk (by kernel_rfl))) <;> try omega
    refine CallN.pure hr ?_
    simp only [go_sem, Nat.reduceAdd, Nat.reduceSub, Nat.reduceMul, Nat.reducePow, Nat.reduceEqDiff, Nat.reduceLT, Nat.reduceLeDiff, Nat.reduceBEq, Nat.reduceBNe, Int.reduceToNat, Int.reduceLT, Int.reduceLE, Int.reduceEq, Int.reduceBNe, Int.reduceBEq, Int.reduceAdd, Int.reduceSub, Int.reduceMul, Int.reduceNeg, ↓reduceIte, hwi, hlt]
    (repeat' (with_reducible first | refine And.intro ?_ ?_ | exact DrawN.mk (by kernel_rfl) | exact OkN.mk (by kernel_rfl))) <;> try omega
    refine RoundK.step () hi trivial ?_
    simp only [go_sem, Nat.reduceAdd, Nat.reduceSub, Nat.reduceMul, Nat.reducePow, Nat.reduceEqDiff, Nat.reduceLT, Nat.reduceLeDiff, Nat.reduceBEq, Nat.reduceBNe, Int.reduceToNat, Int.reduceLT, Int.reduceLE, Int.reduceEq, Int.reduceBNe, Int.reduceBEq, Int.reduceAdd, Int.reduceSub, Int.reduceMul, Int.reduceNeg, ↓reduceIte, hnext, SeatV.cells]
  · intro _ hdx _
    have ht : (s.seats.take s.seats.length).map SeatV.cells = s.seats.map SeatV.cells := by rw [List.take_length]
    simp only [go_sem, Nat.reduceAdd, Nat.reduceSub, Nat.reduceMul, Nat.reducePow, Nat.reduceEqDiff, Nat.reduceLT, Nat.reduceLeDiff, Nat.reduceBEq, Nat.reduceBNe, Int.reduceToNat, Int.reduceLT, Int.reduceLE, Int.reduceEq, Int.reduceBNe, Int.reduceBEq, Int.reduceAdd, Int.reduceSub, Int.reduceMul, Int.reduceNeg, ↓reduceIte, hdx, List.length_map, ht]
end Go.Proofs.Ytbllopdcbkeadaa
set_option linter.unusedSimpArgs false
set_option linter.unusedVariables false
namespace Go.Proofs.Ytbllopdcbkeadaa
open Go.Abs
theorem lawLess_spec (x y : AcctV) : Abs.Spec Try.prog 57 [] [.agg x.cells, .agg y.cells] [] (.bool (x.less y)) := by
  simp only [AcctV.cells]
  refine Abs.Spec.go (n := 30) (np := 2) (rs := [.tmp 4]) mixed Try.func57 rfl rfl rfl rfl rfl (by simp) (by simp) ?_
  simp only [go_sem, Nat.reduceAdd, Nat.reduceSub, Nat.reduceMul, Nat.reducePow, Nat.reduceEqDiff, Nat.reduceLT, Nat.reduceLeDiff, Nat.reduceBEq, Nat.reduceBNe, Int.reduceToNat, Int.reduceLT, Int.reduceLE, Int.reduceEq, Int.reduceBNe, Int.reduceBEq, Int.reduceAdd, Int.reduceSub, Int.reduceMul, Int.reduceNeg, ↓reduceIte]
  repeat' (with_reducible first
      | refine And.intro ?_ ?_
      | exact DrawN.mk (by kernel_rfl)
      | exact OkN.mk (by kernel_rfl)
      | refine CallN.pure (by assumption) ?_
      | refine GuardK.splitDN (fun h => ?_) (fun h => ?_)
      | refine GuardK.splitD (fun h => ?_) (fun h => ?_)
      | refine CondE.splitDN (fun h => ?_) (fun h => ?_)
      | refine CondE.splitD (fun h => ?_) (fun h => ?_)
      | refine GuardK.splitN (fun h => ?_) (fun h => ?_)
      | refine GuardK.split (fun h => ?_) (fun h => ?_)
      | refine CondE.splitN (fun h => ?_) (fun h => ?_)
      | refine CondE.split (fun h => ?_) (fun h => ?_)
      | refine WeakK.id ?_
      | refine RoundK.next (by omega) ?_ ?_
      | exact trivial
      | simp only [*, go_sem, Nat.reduceAdd, Nat.reduceSub, Nat.reduceMul, Nat.reducePow, Nat.reduceEqDiff, Nat.reduceLT, Nat.reduceLeDiff, Nat.reduceBEq, Nat.reduceBNe, Int.reduceToNat, Int.reduceLT, Int.reduceLE, Int.reduceEq, Int.reduceBNe, Int.reduceBEq, Int.reduceAdd, Int.reduceSub, Int.reduceMul, Int.reduceNeg, ↓reduceIte])
  all_goals (unfold AcctV.less; simp_all)
def AcctV.same (x y : AcctV) : Bool := x.kind == y.kind && (x.who == y.who && x.cur == y.cur)
theorem keepAcct_spec (x y : AcctV) : Abs.Spec Try.prog 58 [] [.agg x.cells, .agg y.cells] [] (.bool (x.same y)) := by
  simp only [AcctV.cells]
  refine Abs.Spec.go (n := 24) (np := 2) (rs := [.tmp 4]) mixed Try.func58 rfl rfl rfl rfl rfl (by simp) (by simp) ?_
  simp only [go_sem, Nat.reduceAdd, Nat.reduceSub, Nat.reduceMul, Nat.reducePow, Nat.reduceEqDiff, Nat.reduceLT, Nat.reduceLeDiff, Nat.reduceBEq, Nat.reduceBNe, Int.reduceToNat, Int.reduceLT, Int.reduceLE, Int.reduceEq, Int.reduceBNe, Int.reduceBEq, Int.reduceAdd, Int.reduceSub, Int.reduceMul, Int.reduceNeg, ↓reduceIte]
  repeat' (with_reducible first
      | refine And.intro ?_ ?_
      | exact DrawN.mk (by kernel_rfl)
      | exact OkN.mk (by kernel_rfl)
      | refine CallN.pure (by assumption) ?_
      | refine GuardK.splitDN (fun h => ?_) (fun h => ?_)
      | refine GuardK.splitD (fun h => ?_) (fun h => ?_)
      | refine CondE.splitDN (fun h => ?_) (fun h => ?_)
      | refine CondE.splitD (fun h => ?_) (fun h => ?_)
      | refine GuardK.splitN (fun h => ?_) (fun h => ?_)
      | refine GuardK.split (fun h => ?_) (fun h => ?_)
      | refine CondE.splitN (fun h => ?_) (fun h => ?_)
      | refine CondE.split (fun h => ?_) (fun h => ?_)
      | refine WeakK.id ?_
      | refine RoundK.next (by omega) ?_ ?_
      | exact trivial
      | simp only [*, go_sem, Nat.reduceAdd, Nat.reduceSub, Nat.reduceMul, Nat.reducePow, Nat.reduceEqDiff, Nat.reduceLT, Nat.reduceLeDiff, Nat.reduceBEq, Nat.reduceBNe, Int.reduceToNat, Int.reduceLT, Int.reduceLE, Int.reduceEq, Int.reduceBNe, Int.reduceBEq, Int.reduceAdd, Int.reduceSub, Int.reduceMul, Int.reduceNeg, ↓reduceIte])
  all_goals (simp_all [AcctV.same])
theorem less_iff {x y : AcctV} : x.less y = true ↔ x.kind < y.kind ∨ (x.kind = y.kind ∧ (x.who < y.who ∨ (x.who = y.who ∧ x.cur < y.cur))) := by
  unfold AcctV.less
  split
  · simp; omega
  · split <;> simp <;> omega
theorem same_iff {x y : AcctV} : x.same y = true ↔ x.kind = y.kind ∧ x.who = y.who ∧ x.cur = y.cur := by simp [AcctV.same]
def balOf (a : AcctV) (n : Int) : BalV := ⟨a.kind, a.who, a.cur, n⟩
def pFl (a : AcctV) (z : BalV) (p : Bool) : Bool := (p || a.less z.acct) || (!(p || a.less z.acct) && z.acct.same a)
def pAdd (a : AcctV) (n : Int) (z : BalV) (p : Bool) : Int := if !(p || a.less z.acct) && z.acct.same a then n else 0
def pIns (a : AcctV) (n : Int) (p c : Bool) : List BalV := if !p && c then [balOf a n] else []
def pMid (z : BalV) (s : Int) : List BalV := if s != 0 then [balOf z.acct s] else []
def paidR (a b : AcctV) (n : Int) : List BalV → Bool → Bool → List BalV
  | [], p0, p1 => pIns a (-n) p0 true ++ pIns b n p1 true
  | z :: r, p0, p1 => pIns a (-n) p0 (a.less z.acct) ++ (pIns b n p1 (b.less z.acct) ++ (pMid z (z.sum + pAdd a (-n) z p0 + pAdd b n z p1) ++ paidR a b n r (pFl a z p0) (pFl b z p1)))
theorem ofL_app (c : AcctV) : ∀ (l m : List BalV), (∀ z ∈ l, isB c z = false) → ofL c (l ++ m) = ofL c m
  | [], m, _ => rfl
  | z :: l, m, h => by
    have h0 := h z (by simp)
    simp only [List.cons_append, ofL, h0]
    exact ofL_app c l m fun z hz => h z (by simp [hz])
theorem isB_same {c : AcctV} {z : BalV} : isB c z = z.acct.same c := by simp [isB, AcctV.same, BalV.acct]
theorem isB_balOf {c a : AcctV} {n : Int} : isB c (balOf a n) = a.same c := by simp [isB, AcctV.same, balOf]
theorem balOf_sum {a : AcctV} {n : Int} : (balOf a n).sum = n := rfl
theorem pIns_not {a c : AcctV} {n : Int} {p k : Bool} (h : a.same c = false) : ∀ z ∈ pIns a n p k, isB c z = false := by
  intro z hz
  unfold pIns at hz
  split at hz
  · rw [List.mem_singleton.1 hz, isB_balOf]; exact h
  · cases hz
theorem pMid_not {z : BalV} {c : AcctV} {s : Int} (h : isB c z = false) : ∀ x ∈ pMid z s, isB c x = false := by
  intro x hx
  unfold pMid at hx
  split at hx
  · rw [List.mem_singleton.1 hx, isB_balOf, ← isB_same]; exact h
  · cases hx
theorem pIns_len (a : AcctV) (n : Int) (p c : Bool) : (pIns a n p c).length ≤ 1 := by
  unfold pIns; split <;> simp
theorem pIns_no {a : AcctV} {n : Int} {p k : Bool} (h : (!p && k) = false) : pIns a n p k = [] := by simp [pIns, h]
theorem paid_gone {a b : AcctV} {n : Int} (hab : a.same b = false) : ∀ (l : List BalV) (p0 : Bool), (∀ z ∈ l, isB b z = false) → ofL b (paidR a b n l p0 true) = 0
  | [], p0, _ => by
    simp only [paidR]
    rw [ofL_app b _ _ (pIns_not hab), pIns_no (by simp)]; rfl
  | z :: r, p0, h => by
    simp only [paidR]
    rw [ofL_app b _ _ (pIns_not hab), pIns_no (a := b) (by simp), List.nil_append, ofL_app b _ _ (pMid_not (h z (by simp)))]
    have e : pFl b z true = true := by simp [pFl]
    rw [e]
    exact paid_gone hab r _ fun x hx => h x (by simp [hx])
theorem paid_of {a b : AcctV} {n : Int} (hab : a.same b = false) : ∀ (l : List BalV) (p0 : Bool), l.Pairwise (fun x y => x.acct.less y.acct = true) → ofL b (paidR a b n l p0 false) = ofL b l + n
  | [], p0, _ => by
    simp only [paidR]
    rw [ofL_app b _ _ (pIns_not hab)]
    have e : b.same b = true := by simp [AcctV.same]
    simp [pIns, ofL, isB_balOf, e, balOf_sum]
  | z :: r, p0, h => by
    have hbb : b.same b = true := by simp [AcctV.same]
    obtain ⟨hz, hr⟩ := List.pairwise_cons.1 h
    simp only [paidR]
    rw [ofL_app b _ _ (pIns_not hab)]
    cases hl : b.less z.acct
    · have e1 : pIns b n false false = [] := by simp [pIns]
      rw [e1, List.nil_append]
      cases hs : isB b z
      · rw [ofL_app b _ _ (pMid_not hs)]
        have e2 : pFl b z false = false := by rw [isB_same] at hs; simp [pFl, hl, hs]
        rw [e2, paid_of hab r _ hr]
        simp only [ofL, hs]; rfl
      · have hs' := hs
        rw [isB_same] at hs'
        have hza : z.acct.same a = false := by
          cases hc : z.acct.same a
          · rfl
          · have h1 := same_iff.1 hc
            have h2 := same_iff.1 hs'
            have : a.same b = true := same_iff.2 ⟨by omega, by omega, by omega⟩
            rw [hab] at this; cases this
        have e3 : z.sum + pAdd a (-n) z p0 + pAdd b n z false = z.sum + n := by simp [pAdd, hza, hl, hs']
        have e4 : ofL b (z :: r) = z.sum := by simp [ofL, hs]
        have e5 : pFl b z false = true := by simp [pFl, hl, hs']
        rw [e3, e4, e5]
        have hno : ∀ x ∈ r, isB b x = false := fun x hx => by
          cases hc : isB b x
          · rfl
          · have h1 := less_iff.1 (hz x hx)
            rw [isB_same] at hc
            have h2 := same_iff.1 hc
            have h3 := same_iff.1 hs'
            omega
        by_cases h0 : z.sum + n = 0
        · have e6 : pMid z (z.sum + n) = [] := by simp [pMid, h0]
          rw [e6, List.nil_append, paid_gone hab r _ hno, h0]
        · have e6 : pMid z (z.sum + n) = [balOf z.acct (z.sum + n)] := by simp [pMid, h0]
          rw [e6]
          simp [ofL, isB_balOf, hs', balOf_sum]
    · have e1 : pIns b n false true = [balOf b n] := by simp [pIns]
      have hno : ∀ x ∈ z :: r, isB b x = false := fun x hx => by
        cases hc : isB b x
        · rfl
        · rw [isB_same] at hc
          have h2 := same_iff.1 hc
          have h3 := less_iff.1 hl
          rcases List.mem_cons.1 hx with rfl | hx
          · omega
          · have h1 := less_iff.1 (hz x hx)
            omega
      have e2 : ofL b (z :: r) = 0 := by
        have := ofL_app b (z :: r) [] hno
        simpa [ofL] using this
      rw [e1, e2]
      simp [ofL, isB_balOf, hbb, balOf_sum]
theorem pairwise_of {bs : List BalV} (h : ledSorted bs = true) : bs.Pairwise (fun x y => x.acct.less y.acct = true) := by
  rw [List.pairwise_iff_getElem]
  have step : ∀ k (hk : k + 1 < bs.length), bs[k].acct.less bs[k + 1].acct = true := fun k hk => by
    have := List.all_eq_true.1 h (k + 1) (List.mem_range.2 hk)
    rw [ledAt_succ hk, Bool.and_eq_true] at this
    exact this.2
  have key : ∀ d k (hk : k + d + 1 < bs.length), bs[k].acct.less bs[k + d + 1].acct = true := by
    intro d
    induction d with
    | zero => intro k hk; exact step k hk
    | succ d ih =>
      intro k hk
      have h1 := less_iff.1 (ih k (by omega))
      have h2 := less_iff.1 (step (k + d + 1) hk)
      have h3 : bs[k].acct.less bs[k + d + 1 + 1].acct = true := less_iff.2 (by omega)
      exact h3
  intro i j hi hj hij
  have := key (j - i - 1) i (by omega)
  have e : i + (j - i - 1) + 1 = j := by omega
  simpa only [e] using this
set_option maxHeartbeats 1000000 in
set_option maxRecDepth 8000 in
theorem paid_spec (l : LedV) (a b : AcctV) (n : Int) (hn : 0 ≤ n ∧ n ≤ 1152921504606846976) (hz : ∀ z ∈ l.bs, inR z.sum = true) (hl : l.bs.length < 2 ^ 30) :
    Abs.Spec Try.prog 23 [] [.agg l.cells, .agg a.cells, .agg b.cells, .int .i64 n] [.own 4 ((paidR a b n l.bs false false).map BalV.cells)] (.agg [.int .i64 l.last, .ref 0]) := by
  have hneg : IntKind.wrap .i64 (0 - n) = -n := by rw [wr64 (by omega) (by omega)]; omega
  simp only [LedV.cells, AcctV.cells]
  refine Abs.Spec.go (n := 123) (np := 4) (rs := [.cell 8 54]) mixed Try.func23 rfl rfl rfl rfl rfl (by simp) (by simp) ?_
  simp only [go_sem, Nat.reduceAdd, Nat.reduceSub, Nat.reduceMul, Nat.reducePow, Nat.reduceEqDiff, Nat.reduceLT, Nat.reduceLeDiff, Nat.reduceBEq, Nat.reduceBNe, Int.reduceToNat, Int.reduceLT, Int.reduceLE, Int.reduceEq, Int.reduceBNe, Int.reduceBEq, Int.reduceAdd, Int.reduceSub, Int.reduceMul, Int.reduceNeg, ↓reduceIte, hneg]
  refine LoopK.walk (S := List BalV × Bool × Bool) (l.bs.length + 1) [4, 5, 6, 8, 9, 10, 11, 12] [80, 96, 112, 144] (fun i _ => [(13, .int .i64 i)]) (fun _ s => [(160, .box [.int .i64 l.last, .ref 1936]), (1936, .own 4 (s.1.map BalV.cells)), (208, .box [.bool s.2.1, .bool s.2.2])])
    (fun i s => i ≤ l.bs.length ∧ s.1.length ≤ 3 * i ∧ s.1 ++ paidR a b n (l.bs.drop i) s.2.1 s.2.2 = paidR a b n l.bs false false) ([], false, false) (by simp only [go_sem, Nat.reduceAdd, Nat.reduceSub, Nat.reduceMul, Nat.reducePow, Nat.reduceEqDiff, Nat.reduceLT, Nat.reduceLeDiff, Nat.reduceBEq, Nat.reduceBNe, Int.reduceToNat, Int.reduceLT, Int.reduceLE, Int.reduceEq, Int.reduceBNe, Int.reduceBEq, Int.reduceAdd, Int.reduceSub, Int.reduceMul, Int.reduceNeg, ↓reduceIte] <;> exact rfl) (by simp only [go_sem, Nat.reduceAdd, Nat.reduceSub, Nat.reduceMul, Nat.reducePow, Nat.reduceEqDiff, Nat.reduceLT, Nat.reduceLeDiff, Nat.reduceBEq, Nat.reduceBNe, Int.reduceToNat, Int.reduceLT, Int.reduceLE, Int.reduceEq, Int.reduceBNe, Int.reduceBEq, Int.reduceAdd, Int.reduceSub, Int.reduceMul, Int.reduceNeg, ↓reduceIte] <;> exact rfl) (by simp) ?_ ?_ ?_
  · simp only [go_sem, Nat.reduceAdd, Nat.reduceSub, Nat.reduceMul, Nat.reducePow, Nat.reduceEqDiff, Nat.reduceLT, Nat.reduceLeDiff, Nat.reduceBEq, Nat.reduceBNe, Int.reduceToNat, Int.reduceLT, Int.reduceLE, Int.reduceEq, Int.reduceBNe, Int.reduceBEq, Int.reduceAdd, Int.reduceSub, Int.reduceMul, Int.reduceNeg, ↓reduceIte] <;> simp
  case refine_3 =>
    rintro _ _ ⟨h, _⟩
    omega
  rintro i ⟨L, p0, p1⟩ hi _ hwi ⟨hil, hL, hI⟩
  have hL : L.length ≤ 3 * i := hL
  have hI : L ++ paidR a b n (l.bs.drop i) p0 p1 = paidR a b n l.bs false false := hI
  have hdi : decide ((i : Int) ≤ (l.bs.length : Int)) = true := decide_eq_true (by omega)
  have hrows : (l.bs.map BalV.cells).length = l.bs.length := List.length_map ..
  simp only [go_sem, Nat.reduceAdd, Nat.reduceSub, Nat.reduceMul, Nat.reducePow, Nat.reduceEqDiff, Nat.reduceLT, Nat.reduceLeDiff, Nat.reduceBEq, Nat.reduceBNe, Int.reduceToNat, Int.reduceLT, Int.reduceLE, Int.reduceEq, Int.reduceBNe, Int.reduceBEq, Int.reduceAdd, Int.reduceSub, Int.reduceMul, Int.reduceNeg, ↓reduceIte, hdi, hrows]
  rcases Nat.lt_or_ge i l.bs.length with hlt | hge
  case inr =>
    obtain rfl : i = l.bs.length := by omega
    have hlen : ((l.bs.length : Int) == (l.bs.length : Int)) = true := beq_self_eq_true _
    rw [List.drop_length] at hI
    simp only [paidR] at hI
    refine LoopK.walk (S := List BalV × Bool × Bool) 2 [4, 5, 6, 8, 9, 10, 11, 12, 13] [80, 96, 112, 144] (fun k _ => [(14, .int .i64 k)]) (fun _ s => [(160, .box [.int .i64 l.last, .ref 1152]), (1152, .own 4 (s.1.map BalV.cells)), (208, .box [.bool s.2.1, .bool s.2.2])])
      (fun k s => s.1.length ≤ L.length + k ∧ (k = 0 → s = (L, p0, p1)) ∧ (k = 1 → s = (L ++ pIns a (-n) p0 true, p0 || true, p1)) ∧ (k = 2 → s = (L ++ pIns a (-n) p0 true ++ pIns b n p1 true, p0 || true, p1 || true))) (L, p0, p1) (by simp only [go_sem, Nat.reduceAdd, Nat.reduceSub, Nat.reduceMul, Nat.reducePow, Nat.reduceEqDiff, Nat.reduceLT, Nat.reduceLeDiff, Nat.reduceBEq, Nat.reduceBNe, Int.reduceToNat, Int.reduceLT, Int.reduceLE, Int.reduceEq, Int.reduceBNe, Int.reduceBEq, Int.reduceAdd, Int.reduceSub, Int.reduceMul, Int.reduceNeg, ↓reduceIte] <;> exact rfl) (by simp only [go_sem, Nat.reduceAdd, Nat.reduceSub, Nat.reduceMul, Nat.reducePow, Nat.reduceEqDiff, Nat.reduceLT, Nat.reduceLeDiff, Nat.reduceBEq, Nat.reduceBNe, Int.reduceToNat, Int.reduceLT, Int.reduceLE, Int.reduceEq, Int.reduceBNe, Int.reduceBEq, Int.reduceAdd, Int.reduceSub, Int.reduceMul, Int.reduceNeg, ↓reduceIte] <;> exact rfl) (by simp) ?_ ?_ ?_
    · simp only [go_sem, Nat.reduceAdd, Nat.reduceSub, Nat.reduceMul, Nat.reducePow, Nat.reduceEqDiff, Nat.reduceLT, Nat.reduceLeDiff, Nat.reduceBEq, Nat.reduceBNe, Int.reduceToNat, Int.reduceLT, Int.reduceLE, Int.reduceEq, Int.reduceBNe, Int.reduceBEq, Int.reduceAdd, Int.reduceSub, Int.reduceMul, Int.reduceNeg, ↓reduceIte] <;> simp
    · rintro k ⟨M, r0, r1⟩ hk hdk hwk ⟨hM, g0, g1, g2⟩
      obtain rfl | rfl : k = 0 ∨ k = 1 := by omega
      · obtain ⟨rfl, rfl, rfl⟩ : L = M ∧ p0 = r0 ∧ p1 = r1 := by simpa [eq_comm] using g0 rfl
        have hw2 : IntKind.wrap .i64 1 = 1 := by decide
        simp only [go_sem, Nat.reduceAdd, Nat.reduceSub, Nat.reduceMul, Nat.reducePow, Nat.reduceEqDiff, Nat.reduceLT, Nat.reduceLeDiff, Nat.reduceBEq, Nat.reduceBNe, Int.reduceToNat, Int.reduceLT, Int.reduceLE, Int.reduceEq, Int.reduceBNe, Int.reduceBEq, Int.reduceAdd, Int.reduceSub, Int.reduceMul, Int.reduceNeg, ↓reduceIte, hneg, hrows, hw2]
        (repeat' (with_reducible first | refine And.intro ?_ ?_ | exact DrawN.mk (by kernel_rfl) | exact OkN.mk (by kernel_rfl))) <;> try omega
        cases p0
        · simp only [go_sem, Nat.reduceAdd, Nat.reduceSub, Nat.reduceMul, Nat.reducePow, Nat.reduceEqDiff, Nat.reduceLT, Nat.reduceLeDiff, Nat.reduceBEq, Nat.reduceBNe, Int.reduceToNat, Int.reduceLT, Int.reduceLE, Int.reduceEq, Int.reduceBNe, Int.reduceBEq, Int.reduceAdd, Int.reduceSub, Int.reduceMul, Int.reduceNeg, ↓reduceIte, hlen, hrows, List.length_map, hw2]
          (repeat' (with_reducible first | refine And.intro ?_ ?_ | exact DrawN.mk (by kernel_rfl) | exact OkN.mk (by kernel_rfl))) <;> try omega
          refine RoundK.step (L ++ pIns a (-n) false true, false || true, p1) (by omega) ?_ ?_
          · simp [pIns] <;> omega
          · simp only [go_sem, Nat.reduceAdd, Nat.reduceSub, Nat.reduceMul, Nat.reducePow, Nat.reduceEqDiff, Nat.reduceLT, Nat.reduceLeDiff, Nat.reduceBEq, Nat.reduceBNe, Int.reduceToNat, Int.reduceLT, Int.reduceLE, Int.reduceEq, Int.reduceBNe, Int.reduceBEq, Int.reduceAdd, Int.reduceSub, Int.reduceMul, Int.reduceNeg, ↓reduceIte] <;> simp [pIns, balOf]
        · simp only [go_sem, Nat.reduceAdd, Nat.reduceSub, Nat.reduceMul, Nat.reducePow, Nat.reduceEqDiff, Nat.reduceLT, Nat.reduceLeDiff, Nat.reduceBEq, Nat.reduceBNe, Int.reduceToNat, Int.reduceLT, Int.reduceLE, Int.reduceEq, Int.reduceBNe, Int.reduceBEq, Int.reduceAdd, Int.reduceSub, Int.reduceMul, Int.reduceNeg, ↓reduceIte, hw2]
          (repeat' (with_reducible first | refine And.intro ?_ ?_ | exact DrawN.mk (by kernel_rfl) | exact OkN.mk (by kernel_rfl))) <;> try omega
          refine RoundK.step (L ++ pIns a (-n) true true, true || true, p1) (by omega) ?_ ?_
          · simp [pIns] <;> omega
          · simp only [go_sem, Nat.reduceAdd, Nat.reduceSub, Nat.reduceMul, Nat.reducePow, Nat.reduceEqDiff, Nat.reduceLT, Nat.reduceLeDiff, Nat.reduceBEq, Nat.reduceBNe, Int.reduceToNat, Int.reduceLT, Int.reduceLE, Int.reduceEq, Int.reduceBNe, Int.reduceBEq, Int.reduceAdd, Int.reduceSub, Int.reduceMul, Int.reduceNeg, ↓reduceIte] <;> simp [pIns, balOf]
      · obtain ⟨rfl, rfl, rfl⟩ : M = L ++ pIns a (-n) p0 true ∧ r0 = (p0 || true) ∧ p1 = r1 := by have := g1 rfl; simp only [Prod.mk.injEq] at this; exact ⟨this.1, this.2.1, this.2.2.symm⟩
        have hw2 : IntKind.wrap .i64 2 = 2 := by decide
        have hlA := pIns_len a (-n) p0 true
        have hlA2 : (L ++ pIns a (-n) p0 true).length ≤ L.length + 1 := by simp only [List.length_append]; omega
        simp only [go_sem, Nat.reduceAdd, Nat.reduceSub, Nat.reduceMul, Nat.reducePow, Nat.reduceEqDiff, Nat.reduceLT, Nat.reduceLeDiff, Nat.reduceBEq, Nat.reduceBNe, Int.reduceToNat, Int.reduceLT, Int.reduceLE, Int.reduceEq, Int.reduceBNe, Int.reduceBEq, Int.reduceAdd, Int.reduceSub, Int.reduceMul, Int.reduceNeg, ↓reduceIte, hneg, hrows, hw2]
        (repeat' (with_reducible first | refine And.intro ?_ ?_ | exact DrawN.mk (by kernel_rfl) | exact OkN.mk (by kernel_rfl))) <;> try omega
        cases p1
        · simp only [go_sem, Nat.reduceAdd, Nat.reduceSub, Nat.reduceMul, Nat.reducePow, Nat.reduceEqDiff, Nat.reduceLT, Nat.reduceLeDiff, Nat.reduceBEq, Nat.reduceBNe, Int.reduceToNat, Int.reduceLT, Int.reduceLE, Int.reduceEq, Int.reduceBNe, Int.reduceBEq, Int.reduceAdd, Int.reduceSub, Int.reduceMul, Int.reduceNeg, ↓reduceIte, hlen, hrows, List.length_map, hw2]
          (repeat' (with_reducible first | refine And.intro ?_ ?_ | exact DrawN.mk (by kernel_rfl) | exact OkN.mk (by kernel_rfl))) <;> try omega
          refine RoundK.step (L ++ pIns a (-n) p0 true ++ pIns b n false true, p0 || true, false || true) (by omega) ?_ ?_
          · exact ⟨by simp only [List.length_append]; have hlB := pIns_len b n false true; omega, by simp, by simp, by simp⟩
          · simp only [go_sem, Nat.reduceAdd, Nat.reduceSub, Nat.reduceMul, Nat.reducePow, Nat.reduceEqDiff, Nat.reduceLT, Nat.reduceLeDiff, Nat.reduceBEq, Nat.reduceBNe, Int.reduceToNat, Int.reduceLT, Int.reduceLE, Int.reduceEq, Int.reduceBNe, Int.reduceBEq, Int.reduceAdd, Int.reduceSub, Int.reduceMul, Int.reduceNeg, ↓reduceIte] <;> simp [pIns, balOf]
        · simp only [go_sem, Nat.reduceAdd, Nat.reduceSub, Nat.reduceMul, Nat.reducePow, Nat.reduceEqDiff, Nat.reduceLT, Nat.reduceLeDiff, Nat.reduceBEq, Nat.reduceBNe, Int.reduceToNat, Int.reduceLT, Int.reduceLE, Int.reduceEq, Int.reduceBNe, Int.reduceBEq, Int.reduceAdd, Int.reduceSub, Int.reduceMul, Int.reduceNeg, ↓reduceIte, hw2]
          (repeat' (with_reducible first | refine And.intro ?_ ?_ | exact DrawN.mk (by kernel_rfl) | exact OkN.mk (by kernel_rfl))) <;> try omega
          refine RoundK.step (L ++ pIns a (-n) p0 true ++ pIns b n true true, p0 || true, true || true) (by omega) ?_ ?_
          · exact ⟨by simp only [List.length_append]; have hlB := pIns_len b n true true; omega, by simp, by simp, by simp⟩
          · simp only [go_sem, Nat.reduceAdd, Nat.reduceSub, Nat.reduceMul, Nat.reducePow, Nat.reduceEqDiff, Nat.reduceLT, Nat.reduceLeDiff, Nat.reduceBEq, Nat.reduceBNe, Int.reduceToNat, Int.reduceLT, Int.reduceLE, Int.reduceEq, Int.reduceBNe, Int.reduceBEq, Int.reduceAdd, Int.reduceSub, Int.reduceMul, Int.reduceNeg, ↓reduceIte] <;> simp [pIns, balOf]
    · rintro ⟨M, r0, r1⟩ hdk ⟨hM, g0, g1, g2⟩
      obtain ⟨rfl, rfl, rfl⟩ : M = L ++ pIns a (-n) p0 true ++ pIns b n p1 true ∧ r0 = (p0 || true) ∧ r1 = (p1 || true) := by have := g2 rfl; simp only [Prod.mk.injEq] at this; exact this
      have hdk : decide ((2 : Int) < 2) = false := hdk
      rw [← hI]
      simp only [go_sem, Nat.reduceAdd, Nat.reduceSub, Nat.reduceMul, Nat.reducePow, Nat.reduceEqDiff, Nat.reduceLT, Nat.reduceLeDiff, Nat.reduceBEq, Nat.reduceBNe, Int.reduceToNat, Int.reduceLT, Int.reduceLE, Int.reduceEq, Int.reduceBNe, Int.reduceBEq, Int.reduceAdd, Int.reduceSub, Int.reduceMul, Int.reduceNeg, ↓reduceIte, hdk, hrows, hlen, List.append_assoc]
  case inl =>
    have hlen : ((i : Int) == (l.bs.length : Int)) = false := by rw [beq_eq_false_iff_ne]; omega
    have hm := map_at (c := BalV.cells) l.bs hlt
    obtain ⟨z, hze⟩ : ∃ z, z = l.bs[i] := ⟨_, rfl⟩
    have hzr := inR_iff.1 (hz l.bs[i] (List.getElem_mem hlt))
    rw [drop_at hlt] at hI
    rw [← hze] at hm hI hzr
    simp only [paidR] at hI
    have hla := lawLess_spec a z.acct
    have hlb := lawLess_spec b z.acct
    have hka := keepAcct_spec z.acct a
    have hkb := keepAcct_spec z.acct b
    simp only [AcctV.cells, BalV.cells] at hla hlb hka hkb hm
    refine LoopK.walk (S := List BalV × Bool × Bool) 2 [4, 5, 6, 8, 9, 10, 11, 12, 13] [80, 96, 112, 144] (fun k _ => [(14, .int .i64 k)]) (fun _ s => [(160, .box [.int .i64 l.last, .ref 1152]), (1152, .own 4 (s.1.map BalV.cells)), (208, .box [.bool s.2.1, .bool s.2.2])])
      (fun k s => s.1.length ≤ L.length + k ∧ (k = 0 → s = (L, p0, p1)) ∧ (k = 1 → s = (L ++ pIns a (-n) p0 (a.less z.acct), p0 || (a.less z.acct), p1)) ∧ (k = 2 → s = (L ++ pIns a (-n) p0 (a.less z.acct) ++ pIns b n p1 (b.less z.acct), p0 || (a.less z.acct), p1 || (b.less z.acct)))) (L, p0, p1) (by simp only [go_sem, Nat.reduceAdd, Nat.reduceSub, Nat.reduceMul, Nat.reducePow, Nat.reduceEqDiff, Nat.reduceLT, Nat.reduceLeDiff, Nat.reduceBEq, Nat.reduceBNe, Int.reduceToNat, Int.reduceLT, Int.reduceLE, Int.reduceEq, Int.reduceBNe, Int.reduceBEq, Int.reduceAdd, Int.reduceSub, Int.reduceMul, Int.reduceNeg, ↓reduceIte] <;> exact rfl) (by simp only [go_sem, Nat.reduceAdd, Nat.reduceSub, Nat.reduceMul, Nat.reducePow, Nat.reduceEqDiff, Nat.reduceLT, Nat.reduceLeDiff, Nat.reduceBEq, Nat.reduceBNe, Int.reduceToNat, Int.reduceLT, Int.reduceLE, Int.reduceEq, Int.reduceBNe, Int.reduceBEq, Int.reduceAdd, Int.reduceSub, Int.reduceMul, Int.reduceNeg, ↓reduceIte] <;> exact rfl) (by simp) ?_ ?_ ?_
    · simp only [go_sem, Nat.reduceAdd, Nat.reduceSub, Nat.reduceMul, Nat.reducePow, Nat.reduceEqDiff, Nat.reduceLT, Nat.reduceLeDiff, Nat.reduceBEq, Nat.reduceBNe, Int.reduceToNat, Int.reduceLT, Int.reduceLE, Int.reduceEq, Int.reduceBNe, Int.reduceBEq, Int.reduceAdd, Int.reduceSub, Int.reduceMul, Int.reduceNeg, ↓reduceIte] <;> simp
    · rintro k ⟨M, r0, r1⟩ hk hdk hwk ⟨hM, g0, g1, g2⟩
      obtain rfl | rfl : k = 0 ∨ k = 1 := by omega
      · obtain ⟨rfl, rfl, rfl⟩ : L = M ∧ p0 = r0 ∧ p1 = r1 := by simpa [eq_comm] using g0 rfl
        have hw2 : IntKind.wrap .i64 1 = 1 := by decide
        simp only [go_sem, Nat.reduceAdd, Nat.reduceSub, Nat.reduceMul, Nat.reducePow, Nat.reduceEqDiff, Nat.reduceLT, Nat.reduceLeDiff, Nat.reduceBEq, Nat.reduceBNe, Int.reduceToNat, Int.reduceLT, Int.reduceLE, Int.reduceEq, Int.reduceBNe, Int.reduceBEq, Int.reduceAdd, Int.reduceSub, Int.reduceMul, Int.reduceNeg, ↓reduceIte, hneg, hrows, hw2]
        (repeat' (with_reducible first | refine And.intro ?_ ?_ | exact DrawN.mk (by kernel_rfl) | exact OkN.mk (by kernel_rfl))) <;> try omega
        cases p0
        · simp only [go_sem, Nat.reduceAdd, Nat.reduceSub, Nat.reduceMul, Nat.reducePow, Nat.reduceEqDiff, Nat.reduceLT, Nat.reduceLeDiff, Nat.reduceBEq, Nat.reduceBNe, Int.reduceToNat, Int.reduceLT, Int.reduceLE, Int.reduceEq, Int.reduceBNe, Int.reduceBEq, Int.reduceAdd, Int.reduceSub, Int.reduceMul, Int.reduceNeg, ↓reduceIte, hlen, hrows, hm, List.length_map, hw2]
          (repeat' (with_reducible first | refine And.intro ?_ ?_ | exact DrawN.mk (by kernel_rfl) | exact OkN.mk (by kernel_rfl))) <;> try omega
          refine CallN.pure hla ?_
          cases hc : a.less z.acct
          · simp only [go_sem, Nat.reduceAdd, Nat.reduceSub, Nat.reduceMul, Nat.reducePow, Nat.reduceEqDiff, Nat.reduceLT, Nat.reduceLeDiff, Nat.reduceBEq, Nat.reduceBNe, Int.reduceToNat, Int.reduceLT, Int.reduceLE, Int.reduceEq, Int.reduceBNe, Int.reduceBEq, Int.reduceAdd, Int.reduceSub, Int.reduceMul, Int.reduceNeg, ↓reduceIte, hw2]
            (repeat' (with_reducible first | refine And.intro ?_ ?_ | exact DrawN.mk (by kernel_rfl) | exact OkN.mk (by kernel_rfl))) <;> try omega
            refine RoundK.step (L ++ pIns a (-n) false (a.less z.acct), false || (a.less z.acct), p1) (by omega) ?_ ?_
            · simp [pIns, hc] <;> omega
            · simp only [go_sem, Nat.reduceAdd, Nat.reduceSub, Nat.reduceMul, Nat.reducePow, Nat.reduceEqDiff, Nat.reduceLT, Nat.reduceLeDiff, Nat.reduceBEq, Nat.reduceBNe, Int.reduceToNat, Int.reduceLT, Int.reduceLE, Int.reduceEq, Int.reduceBNe, Int.reduceBEq, Int.reduceAdd, Int.reduceSub, Int.reduceMul, Int.reduceNeg, ↓reduceIte] <;> simp [pIns, balOf, hc]
          · simp only [go_sem, Nat.reduceAdd, Nat.reduceSub, Nat.reduceMul, Nat.reducePow, Nat.reduceEqDiff, Nat.reduceLT, Nat.reduceLeDiff, Nat.reduceBEq, Nat.reduceBNe, Int.reduceToNat, Int.reduceLT, Int.reduceLE, Int.reduceEq, Int.reduceBNe, Int.reduceBEq, Int.reduceAdd, Int.reduceSub, Int.reduceMul, Int.reduceNeg, ↓reduceIte, List.length_map, hw2]
            (repeat' (with_reducible first | refine And.intro ?_ ?_ | exact DrawN.mk (by kernel_rfl) | exact OkN.mk (by kernel_rfl))) <;> try omega
            refine RoundK.step (L ++ pIns a (-n) false (a.less z.acct), false || (a.less z.acct), p1) (by omega) ?_ ?_
            · simp [pIns, hc] <;> omega
            · simp only [go_sem, Nat.reduceAdd, Nat.reduceSub, Nat.reduceMul, Nat.reducePow, Nat.reduceEqDiff, Nat.reduceLT, Nat.reduceLeDiff, Nat.reduceBEq, Nat.reduceBNe, Int.reduceToNat, Int.reduceLT, Int.reduceLE, Int.reduceEq, Int.reduceBNe, Int.reduceBEq, Int.reduceAdd, Int.reduceSub, Int.reduceMul, Int.reduceNeg, ↓reduceIte] <;> simp [pIns, balOf, hc]
        · simp only [go_sem, Nat.reduceAdd, Nat.reduceSub, Nat.reduceMul, Nat.reducePow, Nat.reduceEqDiff, Nat.reduceLT, Nat.reduceLeDiff, Nat.reduceBEq, Nat.reduceBNe, Int.reduceToNat, Int.reduceLT, Int.reduceLE, Int.reduceEq, Int.reduceBNe, Int.reduceBEq, Int.reduceAdd, Int.reduceSub, Int.reduceMul, Int.reduceNeg, ↓reduceIte, hw2]
          (repeat' (with_reducible first | refine And.intro ?_ ?_ | exact DrawN.mk (by kernel_rfl) | exact OkN.mk (by kernel_rfl))) <;> try omega
          refine RoundK.step (L ++ pIns a (-n) true (a.less z.acct), true || (a.less z.acct), p1) (by omega) ?_ ?_
          · simp [pIns] <;> omega
          · simp only [go_sem, Nat.reduceAdd, Nat.reduceSub, Nat.reduceMul, Nat.reducePow, Nat.reduceEqDiff, Nat.reduceLT, Nat.reduceLeDiff, Nat.reduceBEq, Nat.reduceBNe, Int.reduceToNat, Int.reduceLT, Int.reduceLE, Int.reduceEq, Int.reduceBNe, Int.reduceBEq, Int.reduceAdd, Int.reduceSub, Int.reduceMul, Int.reduceNeg, ↓reduceIte] <;> simp [pIns, balOf]
      · obtain ⟨rfl, rfl, rfl⟩ : M = L ++ pIns a (-n) p0 (a.less z.acct) ∧ r0 = (p0 || (a.less z.acct)) ∧ p1 = r1 := by have := g1 rfl; simp only [Prod.mk.injEq] at this; exact ⟨this.1, this.2.1, this.2.2.symm⟩
        have hw2 : IntKind.wrap .i64 2 = 2 := by decide
        have hlA := pIns_len a (-n) p0 (a.less z.acct)
        have hlA2 : (L ++ pIns a (-n) p0 (a.less z.acct)).length ≤ L.length + 1 := by simp only [List.length_append]; omega
        simp only [go_sem, Nat.reduceAdd, Nat.reduceSub, Nat.reduceMul, Nat.reducePow, Nat.reduceEqDiff, Nat.reduceLT, Nat.reduceLeDiff, Nat.reduceBEq, Nat.reduceBNe, Int.reduceToNat, Int.reduceLT, Int.reduceLE, Int.reduceEq, Int.reduceBNe, Int.reduceBEq, Int.reduceAdd, Int.reduceSub, Int.reduceMul, Int.reduceNeg, ↓reduceIte, hneg, hrows, hw2]
        (repeat' (with_reducible first | refine And.intro ?_ ?_ | exact DrawN.mk (by kernel_rfl) | exact OkN.mk (by kernel_rfl))) <;> try omega
        cases p1
        · simp only [go_sem, Nat.reduceAdd, Nat.reduceSub, Nat.reduceMul, Nat.reducePow, Nat.reduceEqDiff, Nat.reduceLT, Nat.reduceLeDiff, Nat.reduceBEq, Nat.reduceBNe, Int.reduceToNat, Int.reduceLT, Int.reduceLE, Int.reduceEq, Int.reduceBNe, Int.reduceBEq, Int.reduceAdd, Int.reduceSub, Int.reduceMul, Int.reduceNeg, ↓reduceIte, hlen, hrows, hm, List.length_map, hw2]
          (repeat' (with_reducible first | refine And.intro ?_ ?_ | exact DrawN.mk (by kernel_rfl) | exact OkN.mk (by kernel_rfl))) <;> try omega
          refine CallN.pure hlb ?_
          cases hc : b.less z.acct
          · simp only [go_sem, Nat.reduceAdd, Nat.reduceSub, Nat.reduceMul, Nat.reducePow, Nat.reduceEqDiff, Nat.reduceLT, Nat.reduceLeDiff, Nat.reduceBEq, Nat.reduceBNe, Int.reduceToNat, Int.reduceLT, Int.reduceLE, Int.reduceEq, Int.reduceBNe, Int.reduceBEq, Int.reduceAdd, Int.reduceSub, Int.reduceMul, Int.reduceNeg, ↓reduceIte, hw2]
            (repeat' (with_reducible first | refine And.intro ?_ ?_ | exact DrawN.mk (by kernel_rfl) | exact OkN.mk (by kernel_rfl))) <;> try omega
            refine RoundK.step (L ++ pIns a (-n) p0 (a.less z.acct) ++ pIns b n false (b.less z.acct), p0 || (a.less z.acct), false || (b.less z.acct)) (by omega) ?_ ?_
            · exact ⟨by simp only [List.length_append]; have hlB := pIns_len b n false (b.less z.acct); omega, by simp, by simp, by simp [hc]⟩
            · simp only [go_sem, Nat.reduceAdd, Nat.reduceSub, Nat.reduceMul, Nat.reducePow, Nat.reduceEqDiff, Nat.reduceLT, Nat.reduceLeDiff, Nat.reduceBEq, Nat.reduceBNe, Int.reduceToNat, Int.reduceLT, Int.reduceLE, Int.reduceEq, Int.reduceBNe, Int.reduceBEq, Int.reduceAdd, Int.reduceSub, Int.reduceMul, Int.reduceNeg, ↓reduceIte] <;> simp [pIns, balOf, hc]
          · simp only [go_sem, Nat.reduceAdd, Nat.reduceSub, Nat.reduceMul, Nat.reducePow, Nat.reduceEqDiff, Nat.reduceLT, Nat.reduceLeDiff, Nat.reduceBEq, Nat.reduceBNe, Int.reduceToNat, Int.reduceLT, Int.reduceLE, Int.reduceEq, Int.reduceBNe, Int.reduceBEq, Int.reduceAdd, Int.reduceSub, Int.reduceMul, Int.reduceNeg, ↓reduceIte, List.length_map, hw2]
            (repeat' (with_reducible first | refine And.intro ?_ ?_ | exact DrawN.mk (by kernel_rfl) | exact OkN.mk (by kernel_rfl))) <;> try omega
            refine RoundK.step (L ++ pIns a (-n) p0 (a.less z.acct) ++ pIns b n false (b.less z.acct), p0 || (a.less z.acct), false || (b.less z.acct)) (by omega) ?_ ?_
            · exact ⟨by simp only [List.length_append]; have hlB := pIns_len b n false (b.less z.acct); omega, by simp, by simp, by simp [hc]⟩
            · simp only [go_sem, Nat.reduceAdd, Nat.reduceSub, Nat.reduceMul, Nat.reducePow, Nat.reduceEqDiff, Nat.reduceLT, Nat.reduceLeDiff, Nat.reduceBEq, Nat.reduceBNe, Int.reduceToNat, Int.reduceLT, Int.reduceLE, Int.reduceEq, Int.reduceBNe, Int.reduceBEq, Int.reduceAdd, Int.reduceSub, Int.reduceMul, Int.reduceNeg, ↓reduceIte] <;> simp [pIns, balOf, hc]
        · simp only [go_sem, Nat.reduceAdd, Nat.reduceSub, Nat.reduceMul, Nat.reducePow, Nat.reduceEqDiff, Nat.reduceLT, Nat.reduceLeDiff, Nat.reduceBEq, Nat.reduceBNe, Int.reduceToNat, Int.reduceLT, Int.reduceLE, Int.reduceEq, Int.reduceBNe, Int.reduceBEq, Int.reduceAdd, Int.reduceSub, Int.reduceMul, Int.reduceNeg, ↓reduceIte, hw2]
          (repeat' (with_reducible first | refine And.intro ?_ ?_ | exact DrawN.mk (by kernel_rfl) | exact OkN.mk (by kernel_rfl))) <;> try omega
          refine RoundK.step (L ++ pIns a (-n) p0 (a.less z.acct) ++ pIns b n true (b.less z.acct), p0 || (a.less z.acct), true || (b.less z.acct)) (by omega) ?_ ?_
          · exact ⟨by simp only [List.length_append]; have hlB := pIns_len b n true (b.less z.acct); omega, by simp, by simp, by simp⟩
          · simp only [go_sem, Nat.reduceAdd, Nat.reduceSub, Nat.reduceMul, Nat.reducePow, Nat.reduceEqDiff, Nat.reduceLT, Nat.reduceLeDiff, Nat.reduceBEq, Nat.reduceBNe, Int.reduceToNat, Int.reduceLT, Int.reduceLE, Int.reduceEq, Int.reduceBNe, Int.reduceBEq, Int.reduceAdd, Int.reduceSub, Int.reduceMul, Int.reduceNeg, ↓reduceIte] <;> simp [pIns, balOf]
    · rintro ⟨M, r0, r1⟩ hdk ⟨hM, g0, g1, g2⟩
      obtain ⟨rfl, rfl, rfl⟩ : M = L ++ pIns a (-n) p0 (a.less z.acct) ++ pIns b n p1 (b.less z.acct) ∧ r0 = (p0 || a.less z.acct) ∧ r1 = (p1 || b.less z.acct) := by have := g2 rfl; simp only [Prod.mk.injEq] at this; exact this
      have hdk : decide ((2 : Int) < 2) = false := hdk
      have hL2 : (L ++ pIns a (-n) p0 (a.less z.acct) ++ pIns b n p1 (b.less z.acct)).length ≤ L.length + 2 := by
        have h1 := pIns_len a (-n) p0 (a.less z.acct)
        have h2 := pIns_len b n p1 (b.less z.acct)
        simp only [List.length_append]; omega
      obtain ⟨M, hMe⟩ : ∃ M, M = L ++ pIns a (-n) p0 (a.less z.acct) ++ pIns b n p1 (b.less z.acct) := ⟨_, rfl⟩
      rw [← hMe] at hL2 ⊢
      have hI2 : M ++ (pMid z (z.sum + pAdd a (-n) z p0 + pAdd b n z p1) ++ paidR a b n (l.bs.drop (i + 1)) (pFl a z p0) (pFl b z p1)) = paidR a b n l.bs false false := by rw [hMe, ← hI]; simp only [List.append_assoc]
      clear hI hMe hM g0 g1 g2
      simp only [pFl, pAdd] at hI2
      obtain ⟨q0, hq0⟩ : ∃ q0, q0 = (p0 || a.less z.acct) := ⟨_, rfl⟩
      obtain ⟨q1, hq1⟩ : ∃ q1, q1 = (p1 || b.less z.acct) := ⟨_, rfl⟩
      simp only [← hq0, ← hq1] at hI2 ⊢
      clear hq0 hq1 hla hlb
      have w1 : IntKind.wrap .i64 (z.sum + -n) = z.sum + -n := wr64 (by omega) (by omega)
      have w2 : IntKind.wrap .i64 (z.sum + n) = z.sum + n := wr64 (by omega) (by omega)
      have w3 : IntKind.wrap .i64 (z.sum + -n + n) = z.sum + -n + n := wr64 (by omega) (by omega)
      have e00 : z.sum + 0 + 0 = z.sum := by omega
      have e01 : z.sum + 0 + n = z.sum + n := by omega
      have e10 : z.sum + -n + 0 = z.sum + -n := by omega
      have hz4 : pMid z (z.sum) = if z.sum == 0 then [] else [balOf z.acct z.sum] := by simp only [pMid, bne]; split <;> simp_all
      simp only [go_sem, Nat.reduceAdd, Nat.reduceSub, Nat.reduceMul, Nat.reducePow, Nat.reduceEqDiff, Nat.reduceLT, Nat.reduceLeDiff, Nat.reduceBEq, Nat.reduceBNe, Int.reduceToNat, Int.reduceLT, Int.reduceLE, Int.reduceEq, Int.reduceBNe, Int.reduceBEq, Int.reduceAdd, Int.reduceSub, Int.reduceMul, Int.reduceNeg, ↓reduceIte, hdk, hrows, hlen, hm]
      (repeat' (with_reducible first | refine And.intro ?_ ?_ | exact DrawN.mk (by kernel_rfl) | exact OkN.mk (by kernel_rfl))) <;> try omega
      cases q0
      · simp only [go_sem, Nat.reduceAdd, Nat.reduceSub, Nat.reduceMul, Nat.reducePow, Nat.reduceEqDiff, Nat.reduceLT, Nat.reduceLeDiff, Nat.reduceBEq, Nat.reduceBNe, Int.reduceToNat, Int.reduceLT, Int.reduceLE, Int.reduceEq, Int.reduceBNe, Int.reduceBEq, Int.reduceAdd, Int.reduceSub, Int.reduceMul, Int.reduceNeg, ↓reduceIte]
        (repeat' (with_reducible first | refine And.intro ?_ ?_ | exact DrawN.mk (by kernel_rfl) | exact OkN.mk (by kernel_rfl))) <;> try omega
        refine CallN.pure hka ?_
        cases sa : z.acct.same a
        · simp only [sa, Bool.not_false, Bool.not_true, Bool.false_and, Bool.and_false, Bool.true_and, Bool.or_false, Bool.false_or, Bool.false_eq_true, if_true, if_false] at hI2
          simp only [go_sem, Nat.reduceAdd, Nat.reduceSub, Nat.reduceMul, Nat.reducePow, Nat.reduceEqDiff, Nat.reduceLT, Nat.reduceLeDiff, Nat.reduceBEq, Nat.reduceBNe, Int.reduceToNat, Int.reduceLT, Int.reduceLE, Int.reduceEq, Int.reduceBNe, Int.reduceBEq, Int.reduceAdd, Int.reduceSub, Int.reduceMul, Int.reduceNeg, ↓reduceIte, hm]
          cases q1
          · simp only [go_sem, Nat.reduceAdd, Nat.reduceSub, Nat.reduceMul, Nat.reducePow, Nat.reduceEqDiff, Nat.reduceLT, Nat.reduceLeDiff, Nat.reduceBEq, Nat.reduceBNe, Int.reduceToNat, Int.reduceLT, Int.reduceLE, Int.reduceEq, Int.reduceBNe, Int.reduceBEq, Int.reduceAdd, Int.reduceSub, Int.reduceMul, Int.reduceNeg, ↓reduceIte, w1]
            (repeat' (with_reducible first | refine And.intro ?_ ?_ | exact DrawN.mk (by kernel_rfl) | exact OkN.mk (by kernel_rfl))) <;> try omega
            refine CallN.pure hkb ?_
            cases sb : z.acct.same b
            · simp only [sb, Bool.not_false, Bool.not_true, Bool.false_and, Bool.and_false, Bool.true_and, Bool.or_false, Bool.false_or, Bool.or_true, Bool.true_or, Bool.false_eq_true, if_true, if_false, e00, e01, e10] at hI2
              simp only [go_sem, Nat.reduceAdd, Nat.reduceSub, Nat.reduceMul, Nat.reducePow, Nat.reduceEqDiff, Nat.reduceLT, Nat.reduceLeDiff, Nat.reduceBEq, Nat.reduceBNe, Int.reduceToNat, Int.reduceLT, Int.reduceLE, Int.reduceEq, Int.reduceBNe, Int.reduceBEq, Int.reduceAdd, Int.reduceSub, Int.reduceMul, Int.reduceNeg, ↓reduceIte, w1]
              cases hs : (z.sum) == 0
              · have e : pMid z (z.sum) = [balOf z.acct (z.sum)] := by simp only [pMid, bne, hs]; rfl
                rw [e] at hI2
                simp only [go_sem, Nat.reduceAdd, Nat.reduceSub, Nat.reduceMul, Nat.reducePow, Nat.reduceEqDiff, Nat.reduceLT, Nat.reduceLeDiff, Nat.reduceBEq, Nat.reduceBNe, Int.reduceToNat, Int.reduceLT, Int.reduceLE, Int.reduceEq, Int.reduceBNe, Int.reduceBEq, Int.reduceAdd, Int.reduceSub, Int.reduceMul, Int.reduceNeg, ↓reduceIte, bne, hs, w1, w2, w3, hwi]
                (repeat' (with_reducible first | refine And.intro ?_ ?_ | exact DrawN.mk (by kernel_rfl) | exact OkN.mk (by kernel_rfl))) <;> try omega
                refine RoundK.step (M ++ [balOf z.acct (z.sum)], false, false) hi ⟨by omega, by simp only [List.length_append, List.length_singleton]; omega, by rw [List.append_assoc]; exact hI2⟩ ?_
                simp only [go_sem, Nat.reduceAdd, Nat.reduceSub, Nat.reduceMul, Nat.reducePow, Nat.reduceEqDiff, Nat.reduceLT, Nat.reduceLeDiff, Nat.reduceBEq, Nat.reduceBNe, Int.reduceToNat, Int.reduceLT, Int.reduceLE, Int.reduceEq, Int.reduceBNe, Int.reduceBEq, Int.reduceAdd, Int.reduceSub, Int.reduceMul, Int.reduceNeg, ↓reduceIte] <;> simp [balOf, BalV.acct]
              · have e : pMid z (z.sum) = [] := by simp only [pMid, bne, hs]; rfl
                rw [e] at hI2
                simp only [go_sem, Nat.reduceAdd, Nat.reduceSub, Nat.reduceMul, Nat.reducePow, Nat.reduceEqDiff, Nat.reduceLT, Nat.reduceLeDiff, Nat.reduceBEq, Nat.reduceBNe, Int.reduceToNat, Int.reduceLT, Int.reduceLE, Int.reduceEq, Int.reduceBNe, Int.reduceBEq, Int.reduceAdd, Int.reduceSub, Int.reduceMul, Int.reduceNeg, ↓reduceIte, bne, hs, w1, w2, w3, hwi]
                refine RoundK.step (M, false, false) hi ⟨by omega, by simp only; omega, by simpa using hI2⟩ ?_
                simp only [go_sem, Nat.reduceAdd, Nat.reduceSub, Nat.reduceMul, Nat.reducePow, Nat.reduceEqDiff, Nat.reduceLT, Nat.reduceLeDiff, Nat.reduceBEq, Nat.reduceBNe, Int.reduceToNat, Int.reduceLT, Int.reduceLE, Int.reduceEq, Int.reduceBNe, Int.reduceBEq, Int.reduceAdd, Int.reduceSub, Int.reduceMul, Int.reduceNeg, ↓reduceIte]
            · simp only [sb, Bool.not_false, Bool.not_true, Bool.false_and, Bool.and_false, Bool.true_and, Bool.or_false, Bool.false_or, Bool.or_true, Bool.true_or, Bool.false_eq_true, if_true, if_false, Bool.and_self, e00, e01, e10] at hI2
              simp only [go_sem, Nat.reduceAdd, Nat.reduceSub, Nat.reduceMul, Nat.reducePow, Nat.reduceEqDiff, Nat.reduceLT, Nat.reduceLeDiff, Nat.reduceBEq, Nat.reduceBNe, Int.reduceToNat, Int.reduceLT, Int.reduceLE, Int.reduceEq, Int.reduceBNe, Int.reduceBEq, Int.reduceAdd, Int.reduceSub, Int.reduceMul, Int.reduceNeg, ↓reduceIte, w1, w2, w3]
              cases hs : (z.sum + n) == 0
              · have e : pMid z (z.sum + n) = [balOf z.acct (z.sum + n)] := by simp only [pMid, bne, hs]; rfl
                rw [e] at hI2
                simp only [go_sem, Nat.reduceAdd, Nat.reduceSub, Nat.reduceMul, Nat.reducePow, Nat.reduceEqDiff, Nat.reduceLT, Nat.reduceLeDiff, Nat.reduceBEq, Nat.reduceBNe, Int.reduceToNat, Int.reduceLT, Int.reduceLE, Int.reduceEq, Int.reduceBNe, Int.reduceBEq, Int.reduceAdd, Int.reduceSub, Int.reduceMul, Int.reduceNeg, ↓reduceIte, bne, hs, w1, w2, w3, hwi]
                (repeat' (with_reducible first | refine And.intro ?_ ?_ | exact DrawN.mk (by kernel_rfl) | exact OkN.mk (by kernel_rfl))) <;> try omega
                refine RoundK.step (M ++ [balOf z.acct (z.sum + n)], false, true) hi ⟨by omega, by simp only [List.length_append, List.length_singleton]; omega, by rw [List.append_assoc]; exact hI2⟩ ?_
                simp only [go_sem, Nat.reduceAdd, Nat.reduceSub, Nat.reduceMul, Nat.reducePow, Nat.reduceEqDiff, Nat.reduceLT, Nat.reduceLeDiff, Nat.reduceBEq, Nat.reduceBNe, Int.reduceToNat, Int.reduceLT, Int.reduceLE, Int.reduceEq, Int.reduceBNe, Int.reduceBEq, Int.reduceAdd, Int.reduceSub, Int.reduceMul, Int.reduceNeg, ↓reduceIte] <;> simp [balOf, BalV.acct]
              · have e : pMid z (z.sum + n) = [] := by simp only [pMid, bne, hs]; rfl
                rw [e] at hI2
                simp only [go_sem, Nat.reduceAdd, Nat.reduceSub, Nat.reduceMul, Nat.reducePow, Nat.reduceEqDiff, Nat.reduceLT, Nat.reduceLeDiff, Nat.reduceBEq, Nat.reduceBNe, Int.reduceToNat, Int.reduceLT, Int.reduceLE, Int.reduceEq, Int.reduceBNe, Int.reduceBEq, Int.reduceAdd, Int.reduceSub, Int.reduceMul, Int.reduceNeg, ↓reduceIte, bne, hs, w1, w2, w3, hwi]
                refine RoundK.step (M, false, true) hi ⟨by omega, by simp only; omega, by simpa using hI2⟩ ?_
                simp only [go_sem, Nat.reduceAdd, Nat.reduceSub, Nat.reduceMul, Nat.reducePow, Nat.reduceEqDiff, Nat.reduceLT, Nat.reduceLeDiff, Nat.reduceBEq, Nat.reduceBNe, Int.reduceToNat, Int.reduceLT, Int.reduceLE, Int.reduceEq, Int.reduceBNe, Int.reduceBEq, Int.reduceAdd, Int.reduceSub, Int.reduceMul, Int.reduceNeg, ↓reduceIte]
          · simp only [Bool.not_false, Bool.not_true, Bool.false_and, Bool.and_false, Bool.true_and, Bool.or_false, Bool.false_or, Bool.or_true, Bool.true_or, Bool.false_eq_true, if_true, if_false, e00, e01, e10] at hI2
            simp only [go_sem, Nat.reduceAdd, Nat.reduceSub, Nat.reduceMul, Nat.reducePow, Nat.reduceEqDiff, Nat.reduceLT, Nat.reduceLeDiff, Nat.reduceBEq, Nat.reduceBNe, Int.reduceToNat, Int.reduceLT, Int.reduceLE, Int.reduceEq, Int.reduceBNe, Int.reduceBEq, Int.reduceAdd, Int.reduceSub, Int.reduceMul, Int.reduceNeg, ↓reduceIte, w1]
            cases hs : (z.sum) == 0
            · have e : pMid z (z.sum) = [balOf z.acct (z.sum)] := by simp only [pMid, bne, hs]; rfl
              rw [e] at hI2
              simp only [go_sem, Nat.reduceAdd, Nat.reduceSub, Nat.reduceMul, Nat.reducePow, Nat.reduceEqDiff, Nat.reduceLT, Nat.reduceLeDiff, Nat.reduceBEq, Nat.reduceBNe, Int.reduceToNat, Int.reduceLT, Int.reduceLE, Int.reduceEq, Int.reduceBNe, Int.reduceBEq, Int.reduceAdd, Int.reduceSub, Int.reduceMul, Int.reduceNeg, ↓reduceIte, bne, hs, w1, w2, w3, hwi]
              (repeat' (with_reducible first | refine And.intro ?_ ?_ | exact DrawN.mk (by kernel_rfl) | exact OkN.mk (by kernel_rfl))) <;> try omega
              refine RoundK.step (M ++ [balOf z.acct (z.sum)], false, true) hi ⟨by omega, by simp only [List.length_append, List.length_singleton]; omega, by rw [List.append_assoc]; exact hI2⟩ ?_
              simp only [go_sem, Nat.reduceAdd, Nat.reduceSub, Nat.reduceMul, Nat.reducePow, Nat.reduceEqDiff, Nat.reduceLT, Nat.reduceLeDiff, Nat.reduceBEq, Nat.reduceBNe, Int.reduceToNat, Int.reduceLT, Int.reduceLE, Int.reduceEq, Int.reduceBNe, Int.reduceBEq, Int.reduceAdd, Int.reduceSub, Int.reduceMul, Int.reduceNeg, ↓reduceIte] <;> simp [balOf, BalV.acct]
            · have e : pMid z (z.sum) = [] := by simp only [pMid, bne, hs]; rfl
              rw [e] at hI2
              simp only [go_sem, Nat.reduceAdd, Nat.reduceSub, Nat.reduceMul, Nat.reducePow, Nat.reduceEqDiff, Nat.reduceLT, Nat.reduceLeDiff, Nat.reduceBEq, Nat.reduceBNe, Int.reduceToNat, Int.reduceLT, Int.reduceLE, Int.reduceEq, Int.reduceBNe, Int.reduceBEq, Int.reduceAdd, Int.reduceSub, Int.reduceMul, Int.reduceNeg, ↓reduceIte, bne, hs, w1, w2, w3, hwi]
              refine RoundK.step (M, false, true) hi ⟨by omega, by simp only; omega, by simpa using hI2⟩ ?_
              simp only [go_sem, Nat.reduceAdd, Nat.reduceSub, Nat.reduceMul, Nat.reducePow, Nat.reduceEqDiff, Nat.reduceLT, Nat.reduceLeDiff, Nat.reduceBEq, Nat.reduceBNe, Int.reduceToNat, Int.reduceLT, Int.reduceLE, Int.reduceEq, Int.reduceBNe, Int.reduceBEq, Int.reduceAdd, Int.reduceSub, Int.reduceMul, Int.reduceNeg, ↓reduceIte]
        · simp only [sa, Bool.not_false, Bool.not_true, Bool.false_and, Bool.and_false, Bool.true_and, Bool.or_false, Bool.false_or, Bool.or_true, Bool.and_self, Bool.false_eq_true, if_true, if_false] at hI2
          simp only [go_sem, Nat.reduceAdd, Nat.reduceSub, Nat.reduceMul, Nat.reducePow, Nat.reduceEqDiff, Nat.reduceLT, Nat.reduceLeDiff, Nat.reduceBEq, Nat.reduceBNe, Int.reduceToNat, Int.reduceLT, Int.reduceLE, Int.reduceEq, Int.reduceBNe, Int.reduceBEq, Int.reduceAdd, Int.reduceSub, Int.reduceMul, Int.reduceNeg, ↓reduceIte, hm, w1]
          cases q1
          · simp only [go_sem, Nat.reduceAdd, Nat.reduceSub, Nat.reduceMul, Nat.reducePow, Nat.reduceEqDiff, Nat.reduceLT, Nat.reduceLeDiff, Nat.reduceBEq, Nat.reduceBNe, Int.reduceToNat, Int.reduceLT, Int.reduceLE, Int.reduceEq, Int.reduceBNe, Int.reduceBEq, Int.reduceAdd, Int.reduceSub, Int.reduceMul, Int.reduceNeg, ↓reduceIte, w1]
            (repeat' (with_reducible first | refine And.intro ?_ ?_ | exact DrawN.mk (by kernel_rfl) | exact OkN.mk (by kernel_rfl))) <;> try omega
            refine CallN.pure hkb ?_
            cases sb : z.acct.same b
            · simp only [sb, Bool.not_false, Bool.not_true, Bool.false_and, Bool.and_false, Bool.true_and, Bool.or_false, Bool.false_or, Bool.or_true, Bool.true_or, Bool.false_eq_true, if_true, if_false, e00, e01, e10] at hI2
              simp only [go_sem, Nat.reduceAdd, Nat.reduceSub, Nat.reduceMul, Nat.reducePow, Nat.reduceEqDiff, Nat.reduceLT, Nat.reduceLeDiff, Nat.reduceBEq, Nat.reduceBNe, Int.reduceToNat, Int.reduceLT, Int.reduceLE, Int.reduceEq, Int.reduceBNe, Int.reduceBEq, Int.reduceAdd, Int.reduceSub, Int.reduceMul, Int.reduceNeg, ↓reduceIte, w1]
              cases hs : (z.sum + -n) == 0
              · have e : pMid z (z.sum + -n) = [balOf z.acct (z.sum + -n)] := by simp only [pMid, bne, hs]; rfl
                rw [e] at hI2
                simp only [go_sem, Nat.reduceAdd, Nat.reduceSub, Nat.reduceMul, Nat.reducePow, Nat.reduceEqDiff, Nat.reduceLT, Nat.reduceLeDiff, Nat.reduceBEq, Nat.reduceBNe, Int.reduceToNat, Int.reduceLT, Int.reduceLE, Int.reduceEq, Int.reduceBNe, Int.reduceBEq, Int.reduceAdd, Int.reduceSub, Int.reduceMul, Int.reduceNeg, ↓reduceIte, bne, hs, w1, w2, w3, hwi]
                (repeat' (with_reducible first | refine And.intro ?_ ?_ | exact DrawN.mk (by kernel_rfl) | exact OkN.mk (by kernel_rfl))) <;> try omega
                refine RoundK.step (M ++ [balOf z.acct (z.sum + -n)], true, false) hi ⟨by omega, by simp only [List.length_append, List.length_singleton]; omega, by rw [List.append_assoc]; exact hI2⟩ ?_
                simp only [go_sem, Nat.reduceAdd, Nat.reduceSub, Nat.reduceMul, Nat.reducePow, Nat.reduceEqDiff, Nat.reduceLT, Nat.reduceLeDiff, Nat.reduceBEq, Nat.reduceBNe, Int.reduceToNat, Int.reduceLT, Int.reduceLE, Int.reduceEq, Int.reduceBNe, Int.reduceBEq, Int.reduceAdd, Int.reduceSub, Int.reduceMul, Int.reduceNeg, ↓reduceIte] <;> simp [balOf, BalV.acct]
              · have e : pMid z (z.sum + -n) = [] := by simp only [pMid, bne, hs]; rfl
                rw [e] at hI2
                simp only [go_sem, Nat.reduceAdd, Nat.reduceSub, Nat.reduceMul, Nat.reducePow, Nat.reduceEqDiff, Nat.reduceLT, Nat.reduceLeDiff, Nat.reduceBEq, Nat.reduceBNe, Int.reduceToNat, Int.reduceLT, Int.reduceLE, Int.reduceEq, Int.reduceBNe, Int.reduceBEq, Int.reduceAdd, Int.reduceSub, Int.reduceMul, Int.reduceNeg, ↓reduceIte, bne, hs, w1, w2, w3, hwi]
                refine RoundK.step (M, true, false) hi ⟨by omega, by simp only; omega, by simpa using hI2⟩ ?_
                simp only [go_sem, Nat.reduceAdd, Nat.reduceSub, Nat.reduceMul, Nat.reducePow, Nat.reduceEqDiff, Nat.reduceLT, Nat.reduceLeDiff, Nat.reduceBEq, Nat.reduceBNe, Int.reduceToNat, Int.reduceLT, Int.reduceLE, Int.reduceEq, Int.reduceBNe, Int.reduceBEq, Int.reduceAdd, Int.reduceSub, Int.reduceMul, Int.reduceNeg, ↓reduceIte]
            · simp only [sb, Bool.not_false, Bool.not_true, Bool.false_and, Bool.and_false, Bool.true_and, Bool.or_false, Bool.false_or, Bool.or_true, Bool.true_or, Bool.false_eq_true, if_true, if_false, Bool.and_self, e00, e01, e10] at hI2
              simp only [go_sem, Nat.reduceAdd, Nat.reduceSub, Nat.reduceMul, Nat.reducePow, Nat.reduceEqDiff, Nat.reduceLT, Nat.reduceLeDiff, Nat.reduceBEq, Nat.reduceBNe, Int.reduceToNat, Int.reduceLT, Int.reduceLE, Int.reduceEq, Int.reduceBNe, Int.reduceBEq, Int.reduceAdd, Int.reduceSub, Int.reduceMul, Int.reduceNeg, ↓reduceIte, w1, w2, w3]
              cases hs : (z.sum + -n + n) == 0
              · have e : pMid z (z.sum + -n + n) = [balOf z.acct (z.sum + -n + n)] := by simp only [pMid, bne, hs]; rfl
                rw [e] at hI2
                simp only [go_sem, Nat.reduceAdd, Nat.reduceSub, Nat.reduceMul, Nat.reducePow, Nat.reduceEqDiff, Nat.reduceLT, Nat.reduceLeDiff, Nat.reduceBEq, Nat.reduceBNe, Int.reduceToNat, Int.reduceLT, Int.reduceLE, Int.reduceEq, Int.reduceBNe, Int.reduceBEq, Int.reduceAdd, Int.reduceSub, Int.reduceMul, Int.reduceNeg, ↓reduceIte, bne, hs, w1, w2, w3, hwi]
                (repeat' (with_reducible first | refine And.intro ?_ ?_ | exact DrawN.mk (by kernel_rfl) | exact OkN.mk (by kernel_rfl))) <;> try omega
                refine RoundK.step (M ++ [balOf z.acct (z.sum + -n + n)], true, true) hi ⟨by omega, by simp only [List.length_append, List.length_singleton]; omega, by rw [List.append_assoc]; exact hI2⟩ ?_
                simp only [go_sem, Nat.reduceAdd, Nat.reduceSub, Nat.reduceMul, Nat.reducePow, Nat.reduceEqDiff, Nat.reduceLT, Nat.reduceLeDiff, Nat.reduceBEq, Nat.reduceBNe, Int.reduceToNat, Int.reduceLT, Int.reduceLE, Int.reduceEq, Int.reduceBNe, Int.reduceBEq, Int.reduceAdd, Int.reduceSub, Int.reduceMul, Int.reduceNeg, ↓reduceIte] <;> simp [balOf, BalV.acct]
              · have e : pMid z (z.sum + -n + n) = [] := by simp only [pMid, bne, hs]; rfl
                rw [e] at hI2
                simp only [go_sem, Nat.reduceAdd, Nat.reduceSub, Nat.reduceMul, Nat.reducePow, Nat.reduceEqDiff, Nat.reduceLT, Nat.reduceLeDiff, Nat.reduceBEq, Nat.reduceBNe, Int.reduceToNat, Int.reduceLT, Int.reduceLE, Int.reduceEq, Int.reduceBNe, Int.reduceBEq, Int.reduceAdd, Int.reduceSub, Int.reduceMul, Int.reduceNeg, ↓reduceIte, bne, hs, w1, w2, w3, hwi]
                refine RoundK.step (M, true, true) hi ⟨by omega, by simp only; omega, by simpa using hI2⟩ ?_
                simp only [go_sem, Nat.reduceAdd, Nat.reduceSub, Nat.reduceMul, Nat.reducePow, Nat.reduceEqDiff, Nat.reduceLT, Nat.reduceLeDiff, Nat.reduceBEq, Nat.reduceBNe, Int.reduceToNat, Int.reduceLT, Int.reduceLE, Int.reduceEq, Int.reduceBNe, Int.reduceBEq, Int.reduceAdd, Int.reduceSub, Int.reduceMul, Int.reduceNeg, ↓reduceIte]
          · simp only [Bool.not_false, Bool.not_true, Bool.false_and, Bool.and_false, Bool.true_and, Bool.or_false, Bool.false_or, Bool.or_true, Bool.true_or, Bool.false_eq_true, if_true, if_false, e00, e01, e10] at hI2
            simp only [go_sem, Nat.reduceAdd, Nat.reduceSub, Nat.reduceMul, Nat.reducePow, Nat.reduceEqDiff, Nat.reduceLT, Nat.reduceLeDiff, Nat.reduceBEq, Nat.reduceBNe, Int.reduceToNat, Int.reduceLT, Int.reduceLE, Int.reduceEq, Int.reduceBNe, Int.reduceBEq, Int.reduceAdd, Int.reduceSub, Int.reduceMul, Int.reduceNeg, ↓reduceIte, w1]
            cases hs : (z.sum + -n) == 0
            · have e : pMid z (z.sum + -n) = [balOf z.acct (z.sum + -n)] := by simp only [pMid, bne, hs]; rfl
              rw [e] at hI2
              simp only [go_sem, Nat.reduceAdd, Nat.reduceSub, Nat.reduceMul, Nat.reducePow, Nat.reduceEqDiff, Nat.reduceLT, Nat.reduceLeDiff, Nat.reduceBEq, Nat.reduceBNe, Int.reduceToNat, Int.reduceLT, Int.reduceLE, Int.reduceEq, Int.reduceBNe, Int.reduceBEq, Int.reduceAdd, Int.reduceSub, Int.reduceMul, Int.reduceNeg, ↓reduceIte, bne, hs, w1, w2, w3, hwi]
              (repeat' (with_reducible first | refine And.intro ?_ ?_ | exact DrawN.mk (by kernel_rfl) | exact OkN.mk (by kernel_rfl))) <;> try omega
              refine RoundK.step (M ++ [balOf z.acct (z.sum + -n)], true, true) hi ⟨by omega, by simp only [List.length_append, List.length_singleton]; omega, by rw [List.append_assoc]; exact hI2⟩ ?_
              simp only [go_sem, Nat.reduceAdd, Nat.reduceSub, Nat.reduceMul, Nat.reducePow, Nat.reduceEqDiff, Nat.reduceLT, Nat.reduceLeDiff, Nat.reduceBEq, Nat.reduceBNe, Int.reduceToNat, Int.reduceLT, Int.reduceLE, Int.reduceEq, Int.reduceBNe, Int.reduceBEq, Int.reduceAdd, Int.reduceSub, Int.reduceMul, Int.reduceNeg, ↓reduceIte] <;> simp [balOf, BalV.acct]
            · have e : pMid z (z.sum + -n) = [] := by simp only [pMid, bne, hs]; rfl
              rw [e] at hI2
              simp only [go_sem, Nat.reduceAdd, Nat.reduceSub, Nat.reduceMul, Nat.reducePow, Nat.reduceEqDiff, Nat.reduceLT, Nat.reduceLeDiff, Nat.reduceBEq, Nat.reduceBNe, Int.reduceToNat, Int.reduceLT, Int.reduceLE, Int.reduceEq, Int.reduceBNe, Int.reduceBEq, Int.reduceAdd, Int.reduceSub, Int.reduceMul, Int.reduceNeg, ↓reduceIte, bne, hs, w1, w2, w3, hwi]
              refine RoundK.step (M, true, true) hi ⟨by omega, by simp only; omega, by simpa using hI2⟩ ?_
              simp only [go_sem, Nat.reduceAdd, Nat.reduceSub, Nat.reduceMul, Nat.reducePow, Nat.reduceEqDiff, Nat.reduceLT, Nat.reduceLeDiff, Nat.reduceBEq, Nat.reduceBNe, Int.reduceToNat, Int.reduceLT, Int.reduceLE, Int.reduceEq, Int.reduceBNe, Int.reduceBEq, Int.reduceAdd, Int.reduceSub, Int.reduceMul, Int.reduceNeg, ↓reduceIte]
      · simp only [Bool.not_false, Bool.not_true, Bool.false_and, Bool.and_false, Bool.true_and, Bool.or_false, Bool.false_or, Bool.true_or, Bool.false_eq_true, if_true, if_false] at hI2
        simp only [go_sem, Nat.reduceAdd, Nat.reduceSub, Nat.reduceMul, Nat.reducePow, Nat.reduceEqDiff, Nat.reduceLT, Nat.reduceLeDiff, Nat.reduceBEq, Nat.reduceBNe, Int.reduceToNat, Int.reduceLT, Int.reduceLE, Int.reduceEq, Int.reduceBNe, Int.reduceBEq, Int.reduceAdd, Int.reduceSub, Int.reduceMul, Int.reduceNeg, ↓reduceIte, hm]
        cases q1
        · simp only [go_sem, Nat.reduceAdd, Nat.reduceSub, Nat.reduceMul, Nat.reducePow, Nat.reduceEqDiff, Nat.reduceLT, Nat.reduceLeDiff, Nat.reduceBEq, Nat.reduceBNe, Int.reduceToNat, Int.reduceLT, Int.reduceLE, Int.reduceEq, Int.reduceBNe, Int.reduceBEq, Int.reduceAdd, Int.reduceSub, Int.reduceMul, Int.reduceNeg, ↓reduceIte, w1]
          (repeat' (with_reducible first | refine And.intro ?_ ?_ | exact DrawN.mk (by kernel_rfl) | exact OkN.mk (by kernel_rfl))) <;> try omega
          refine CallN.pure hkb ?_
          cases sb : z.acct.same b
          · simp only [sb, Bool.not_false, Bool.not_true, Bool.false_and, Bool.and_false, Bool.true_and, Bool.or_false, Bool.false_or, Bool.or_true, Bool.true_or, Bool.false_eq_true, if_true, if_false, e00, e01, e10] at hI2
            simp only [go_sem, Nat.reduceAdd, Nat.reduceSub, Nat.reduceMul, Nat.reducePow, Nat.reduceEqDiff, Nat.reduceLT, Nat.reduceLeDiff, Nat.reduceBEq, Nat.reduceBNe, Int.reduceToNat, Int.reduceLT, Int.reduceLE, Int.reduceEq, Int.reduceBNe, Int.reduceBEq, Int.reduceAdd, Int.reduceSub, Int.reduceMul, Int.reduceNeg, ↓reduceIte, w1]
            cases hs : (z.sum) == 0
            · have e : pMid z (z.sum) = [balOf z.acct (z.sum)] := by simp only [pMid, bne, hs]; rfl
              rw [e] at hI2
              simp only [go_sem, Nat.reduceAdd, Nat.reduceSub, Nat.reduceMul, Nat.reducePow, Nat.reduceEqDiff, Nat.reduceLT, Nat.reduceLeDiff, Nat.reduceBEq, Nat.reduceBNe, Int.reduceToNat, Int.reduceLT, Int.reduceLE, Int.reduceEq, Int.reduceBNe, Int.reduceBEq, Int.reduceAdd, Int.reduceSub, Int.reduceMul, Int.reduceNeg, ↓reduceIte, bne, hs, w1, w2, w3, hwi]
              (repeat' (with_reducible first | refine And.intro ?_ ?_ | exact DrawN.mk (by kernel_rfl) | exact OkN.mk (by kernel_rfl))) <;> try omega
              refine RoundK.step (M ++ [balOf z.acct (z.sum)], true, false) hi ⟨by omega, by simp only [List.length_append, List.length_singleton]; omega, by rw [List.append_assoc]; exact hI2⟩ ?_
              simp only [go_sem, Nat.reduceAdd, Nat.reduceSub, Nat.reduceMul, Nat.reducePow, Nat.reduceEqDiff, Nat.reduceLT, Nat.reduceLeDiff, Nat.reduceBEq, Nat.reduceBNe, Int.reduceToNat, Int.reduceLT, Int.reduceLE, Int.reduceEq, Int.reduceBNe, Int.reduceBEq, Int.reduceAdd, Int.reduceSub, Int.reduceMul, Int.reduceNeg, ↓reduceIte] <;> simp [balOf, BalV.acct]
            · have e : pMid z (z.sum) = [] := by simp only [pMid, bne, hs]; rfl
              rw [e] at hI2
              simp only [go_sem, Nat.reduceAdd, Nat.reduceSub, Nat.reduceMul, Nat.reducePow, Nat.reduceEqDiff, Nat.reduceLT, Nat.reduceLeDiff, Nat.reduceBEq, Nat.reduceBNe, Int.reduceToNat, Int.reduceLT, Int.reduceLE, Int.reduceEq, Int.reduceBNe, Int.reduceBEq, Int.reduceAdd, Int.reduceSub, Int.reduceMul, Int.reduceNeg, ↓reduceIte, bne, hs, w1, w2, w3, hwi]
              refine RoundK.step (M, true, false) hi ⟨by omega, by simp only; omega, by simpa using hI2⟩ ?_
              simp only [go_sem, Nat.reduceAdd, Nat.reduceSub, Nat.reduceMul, Nat.reducePow, Nat.reduceEqDiff, Nat.reduceLT, Nat.reduceLeDiff, Nat.reduceBEq, Nat.reduceBNe, Int.reduceToNat, Int.reduceLT, Int.reduceLE, Int.reduceEq, Int.reduceBNe, Int.reduceBEq, Int.reduceAdd, Int.reduceSub, Int.reduceMul, Int.reduceNeg, ↓reduceIte]
          · simp only [sb, Bool.not_false, Bool.not_true, Bool.false_and, Bool.and_false, Bool.true_and, Bool.or_false, Bool.false_or, Bool.or_true, Bool.true_or, Bool.false_eq_true, if_true, if_false, Bool.and_self, e00, e01, e10] at hI2
            simp only [go_sem, Nat.reduceAdd, Nat.reduceSub, Nat.reduceMul, Nat.reducePow, Nat.reduceEqDiff, Nat.reduceLT, Nat.reduceLeDiff, Nat.reduceBEq, Nat.reduceBNe, Int.reduceToNat, Int.reduceLT, Int.reduceLE, Int.reduceEq, Int.reduceBNe, Int.reduceBEq, Int.reduceAdd, Int.reduceSub, Int.reduceMul, Int.reduceNeg, ↓reduceIte, w1, w2, w3]
            cases hs : (z.sum + n) == 0
            · have e : pMid z (z.sum + n) = [balOf z.acct (z.sum + n)] := by simp only [pMid, bne, hs]; rfl
              rw [e] at hI2
              simp only [go_sem, Nat.reduceAdd, Nat.reduceSub, Nat.reduceMul, Nat.reducePow, Nat.reduceEqDiff, Nat.reduceLT, Nat.reduceLeDiff, Nat.reduceBEq, Nat.reduceBNe, Int.reduceToNat, Int.reduceLT, Int.reduceLE, Int.reduceEq, Int.reduceBNe, Int.reduceBEq, Int.reduceAdd, Int.reduceSub, Int.reduceMul, Int.reduceNeg, ↓reduceIte, bne, hs, w1, w2, w3, hwi]
              (repeat' (with_reducible first | refine And.intro ?_ ?_ | exact DrawN.mk (by kernel_rfl) | exact OkN.mk (by kernel_rfl))) <;> try omega
              refine RoundK.step (M ++ [balOf z.acct (z.sum + n)], true, true) hi ⟨by omega, by simp only [List.length_append, List.length_singleton]; omega, by rw [List.append_assoc]; exact hI2⟩ ?_
              simp only [go_sem, Nat.reduceAdd, Nat.reduceSub, Nat.reduceMul, Nat.reducePow, Nat.reduceEqDiff, Nat.reduceLT, Nat.reduceLeDiff, Nat.reduceBEq, Nat.reduceBNe, Int.reduceToNat, Int.reduceLT, Int.reduceLE, Int.reduceEq, Int.reduceBNe, Int.reduceBEq, Int.reduceAdd, Int.reduceSub, Int.reduceMul, Int.reduceNeg, ↓reduceIte] <;> simp [balOf, BalV.acct]
            · have e : pMid z (z.sum + n) = [] := by simp only [pMid, bne, hs]; rfl
              rw [e] at hI2
              simp only [go_sem, Nat.reduceAdd, Nat.reduceSub, Nat.reduceMul, Nat.reducePow, Nat.reduceEqDiff, Nat.reduceLT, Nat.reduceLeDiff, Nat.reduceBEq, Nat.reduceBNe, Int.reduceToNat, Int.reduceLT, Int.reduceLE, Int.reduceEq, Int.reduceBNe, Int.reduceBEq, Int.reduceAdd, Int.reduceSub, Int.reduceMul, Int.reduceNeg, ↓reduceIte, bne, hs, w1, w2, w3, hwi]
              refine RoundK.step (M, true, true) hi ⟨by omega, by simp only; omega, by simpa using hI2⟩ ?_
              simp only [go_sem, Nat.reduceAdd, Nat.reduceSub, Nat.reduceMul, Nat.reducePow, Nat.reduceEqDiff, Nat.reduceLT, Nat.reduceLeDiff, Nat.reduceBEq, Nat.reduceBNe, Int.reduceToNat, Int.reduceLT, Int.reduceLE, Int.reduceEq, Int.reduceBNe, Int.reduceBEq, Int.reduceAdd, Int.reduceSub, Int.reduceMul, Int.reduceNeg, ↓reduceIte]
        · simp only [Bool.not_false, Bool.not_true, Bool.false_and, Bool.and_false, Bool.true_and, Bool.or_false, Bool.false_or, Bool.or_true, Bool.true_or, Bool.false_eq_true, if_true, if_false, e00, e01, e10] at hI2
          simp only [go_sem, Nat.reduceAdd, Nat.reduceSub, Nat.reduceMul, Nat.reducePow, Nat.reduceEqDiff, Nat.reduceLT, Nat.reduceLeDiff, Nat.reduceBEq, Nat.reduceBNe, Int.reduceToNat, Int.reduceLT, Int.reduceLE, Int.reduceEq, Int.reduceBNe, Int.reduceBEq, Int.reduceAdd, Int.reduceSub, Int.reduceMul, Int.reduceNeg, ↓reduceIte, w1]
          cases hs : (z.sum) == 0
          · have e : pMid z (z.sum) = [balOf z.acct (z.sum)] := by simp only [pMid, bne, hs]; rfl
            rw [e] at hI2
            simp only [go_sem, Nat.reduceAdd, Nat.reduceSub, Nat.reduceMul, Nat.reducePow, Nat.reduceEqDiff, Nat.reduceLT, Nat.reduceLeDiff, Nat.reduceBEq, Nat.reduceBNe, Int.reduceToNat, Int.reduceLT, Int.reduceLE, Int.reduceEq, Int.reduceBNe, Int.reduceBEq, Int.reduceAdd, Int.reduceSub, Int.reduceMul, Int.reduceNeg, ↓reduceIte, bne, hs, w1, w2, w3, hwi]
            (repeat' (with_reducible first | refine And.intro ?_ ?_ | exact DrawN.mk (by kernel_rfl) | exact OkN.mk (by kernel_rfl))) <;> try omega
            refine RoundK.step (M ++ [balOf z.acct (z.sum)], true, true) hi ⟨by omega, by simp only [List.length_append, List.length_singleton]; omega, by rw [List.append_assoc]; exact hI2⟩ ?_
            simp only [go_sem, Nat.reduceAdd, Nat.reduceSub, Nat.reduceMul, Nat.reducePow, Nat.reduceEqDiff, Nat.reduceLT, Nat.reduceLeDiff, Nat.reduceBEq, Nat.reduceBNe, Int.reduceToNat, Int.reduceLT, Int.reduceLE, Int.reduceEq, Int.reduceBNe, Int.reduceBEq, Int.reduceAdd, Int.reduceSub, Int.reduceMul, Int.reduceNeg, ↓reduceIte] <;> simp [balOf, BalV.acct]
          · have e : pMid z (z.sum) = [] := by simp only [pMid, bne, hs]; rfl
            rw [e] at hI2
            simp only [go_sem, Nat.reduceAdd, Nat.reduceSub, Nat.reduceMul, Nat.reducePow, Nat.reduceEqDiff, Nat.reduceLT, Nat.reduceLeDiff, Nat.reduceBEq, Nat.reduceBNe, Int.reduceToNat, Int.reduceLT, Int.reduceLE, Int.reduceEq, Int.reduceBNe, Int.reduceBEq, Int.reduceAdd, Int.reduceSub, Int.reduceMul, Int.reduceNeg, ↓reduceIte, bne, hs, w1, w2, w3, hwi]
            refine RoundK.step (M, true, true) hi ⟨by omega, by simp only; omega, by simpa using hI2⟩ ?_
            simp only [go_sem, Nat.reduceAdd, Nat.reduceSub, Nat.reduceMul, Nat.reducePow, Nat.reduceEqDiff, Nat.reduceLT, Nat.reduceLeDiff, Nat.reduceBEq, Nat.reduceBNe, Int.reduceToNat, Int.reduceLT, Int.reduceLE, Int.reduceEq, Int.reduceBNe, Int.reduceBEq, Int.reduceAdd, Int.reduceSub, Int.reduceMul, Int.reduceNeg, ↓reduceIte]
end Go.Proofs.Ytbllopdcbkeadaa
set_option linter.unusedSimpArgs false
set_option linter.unusedVariables false
namespace Go.Proofs.Ytbllopdcbkeadaa
open Go.Abs
theorem of_ok {l : LedV} {r : RollV} {ps : List Plg} {w c : Int} (h : ofE l r ps w c = 0) : r.okB = true ∧ firstE r w c ps = 0 ∧ ofN l r ps w c = ofL ⟨2, w, c⟩ l.bs + sumV r w c ps ∧ inR (ofN l r ps w c) = true := by
  have h0 : chk3 l r ps = 0 := by
    by_cases hb : (chk3 l r ps != 0) = true
    · simp only [ofE, hb, if_true] at h
      exact h
    · simpa using hb
  have hb0 : (chk3 l r ps != 0) = false := by simp [h0]
  have hr : r.okB = true := by
    unfold chk3 at h0
    split at h0
    · rename_i hh; simp only [Bool.and_eq_true] at hh; exact hh.1.2
    · cases h0
  have h1 : firstE r w c ps = 0 := by
    by_cases hb : (firstE r w c ps != 0) = true
    · simp only [ofE, hb0, hb, if_true, Bool.false_eq_true, if_false] at h
      exact h
    · simpa using hb
  have hb1 : (firstE r w c ps != 0) = false := by simp [h1]
  simp only [ofE, hb0, hb1, Bool.false_eq_true, if_false] at h
  have hs : right (ofL ⟨2, w, c⟩ l.bs :: valsL r w c ps) = true ∧ inR (sumL (ofL ⟨2, w, c⟩ l.bs :: valsL r w c ps)) = true := by
    unfold sumE at h
    split at h
    · rename_i hh
      split at h
      · rename_i hi; exact ⟨hh, hi⟩
      · cases h
    · cases h
  have hN : ofN l r ps w c = sumL (ofL ⟨2, w, c⟩ l.bs :: valsL r w c ps) := by
    simp [ofN, hb0, hb1, sumN, hs.1, hs.2]
  refine ⟨hr, h1, ?_, by rw [hN]; exact hs.2⟩
  rw [hN]
  simp only [sumL, sumV_eq]
def heavyR (r : RollV) : Bool := decide (100 < (r.ms.length : Int)) || (decide (100 < (r.ns.length : Int)) || decide (100 < (r.xs.length : Int)))
theorem heavyR_spec (r : RollV) : Abs.Spec Try.prog 39 [] [.agg r.cells] [] (.bool (heavyR r)) := by
  simp only [RollV.cells]
  refine Abs.Spec.go (n := 19) (np := 1) (rs := [.tmp 2]) mixed Try.func39 rfl rfl rfl rfl rfl (by simp) (by simp) ?_
  simp only [go_sem, Nat.reduceAdd, Nat.reduceSub, Nat.reduceMul, Nat.reducePow, Nat.reduceEqDiff, Nat.reduceLT, Nat.reduceLeDiff, Nat.reduceBEq, Nat.reduceBNe, Int.reduceToNat, Int.reduceLT, Int.reduceLE, Int.reduceEq, Int.reduceBNe, Int.reduceBEq, Int.reduceAdd, Int.reduceSub, Int.reduceMul, Int.reduceNeg, ↓reduceIte, List.length_map]
  repeat' (with_reducible first
      | refine And.intro ?_ ?_
      | exact DrawN.mk (by kernel_rfl)
      | exact OkN.mk (by kernel_rfl)
      | refine CallN.pure (by assumption) ?_
      | refine GuardK.splitDN (fun h => ?_) (fun h => ?_)
      | refine GuardK.splitD (fun h => ?_) (fun h => ?_)
      | refine CondE.splitDN (fun h => ?_) (fun h => ?_)
      | refine CondE.splitD (fun h => ?_) (fun h => ?_)
      | refine GuardK.splitN (fun h => ?_) (fun h => ?_)
      | refine GuardK.split (fun h => ?_) (fun h => ?_)
      | refine CondE.splitN (fun h => ?_) (fun h => ?_)
      | refine CondE.split (fun h => ?_) (fun h => ?_)
      | refine WeakK.id ?_
      | refine RoundK.next (by omega) ?_ ?_
      | exact trivial
      | simp only [*, go_sem, Nat.reduceAdd, Nat.reduceSub, Nat.reduceMul, Nat.reducePow, Nat.reduceEqDiff, Nat.reduceLT, Nat.reduceLeDiff, Nat.reduceBEq, Nat.reduceBNe, Int.reduceToNat, Int.reduceLT, Int.reduceLE, Int.reduceEq, Int.reduceBNe, Int.reduceBEq, Int.reduceAdd, Int.reduceSub, Int.reduceMul, Int.reduceNeg, ↓reduceIte])
  all_goals first
    | (simp_all [heavyR]; done)
    | (rw [Bool.eq_iff_iff]; simp only [heavyR, Bool.or_eq_true, decide_eq_true_eq]; omega)
def heavyK (t p : List (List D)) : Bool := decide (300 < (t.length : Int)) || decide (300 < (p.length : Int))
theorem heavyK_spec (n : Int) (t p : List (List D)) : Abs.Spec Try.prog 40 [] [.agg [.int .i64 n, .sl 7 t, .sl 4 p]] [] (.bool (heavyK t p)) := by
  refine Abs.Spec.go (n := 13) (np := 1) (rs := [.tmp 2]) mixed Try.func40 rfl rfl rfl rfl rfl (by simp) (by simp) ?_
  simp only [go_sem, Nat.reduceAdd, Nat.reduceSub, Nat.reduceMul, Nat.reducePow, Nat.reduceEqDiff, Nat.reduceLT, Nat.reduceLeDiff, Nat.reduceBEq, Nat.reduceBNe, Int.reduceToNat, Int.reduceLT, Int.reduceLE, Int.reduceEq, Int.reduceBNe, Int.reduceBEq, Int.reduceAdd, Int.reduceSub, Int.reduceMul, Int.reduceNeg, ↓reduceIte, List.length_map]
  repeat' (with_reducible first
      | refine And.intro ?_ ?_
      | exact DrawN.mk (by kernel_rfl)
      | exact OkN.mk (by kernel_rfl)
      | refine CallN.pure (by assumption) ?_
      | refine GuardK.splitDN (fun h => ?_) (fun h => ?_)
      | refine GuardK.splitD (fun h => ?_) (fun h => ?_)
      | refine CondE.splitDN (fun h => ?_) (fun h => ?_)
      | refine CondE.splitD (fun h => ?_) (fun h => ?_)
      | refine GuardK.splitN (fun h => ?_) (fun h => ?_)
      | refine GuardK.split (fun h => ?_) (fun h => ?_)
      | refine CondE.splitN (fun h => ?_) (fun h => ?_)
      | refine CondE.split (fun h => ?_) (fun h => ?_)
      | refine WeakK.id ?_
      | refine RoundK.next (by omega) ?_ ?_
      | exact trivial
      | simp only [*, go_sem, Nat.reduceAdd, Nat.reduceSub, Nat.reduceMul, Nat.reducePow, Nat.reduceEqDiff, Nat.reduceLT, Nat.reduceLeDiff, Nat.reduceBEq, Nat.reduceBNe, Int.reduceToNat, Int.reduceLT, Int.reduceLE, Int.reduceEq, Int.reduceBNe, Int.reduceBEq, Int.reduceAdd, Int.reduceSub, Int.reduceMul, Int.reduceNeg, ↓reduceIte])
  all_goals first
    | (rw [Bool.eq_iff_iff]; simp only [heavyK, Bool.or_eq_true, decide_eq_true_eq]; omega)
    | (simp_all [heavyK]; done)
def heavyB (s : StateV) : Bool := heavyR s.roll || (heavyK (s.book.ts.map TradeV.cells) (s.book.qs.map PosV.cells) || (decide (300 < (s.led.bs.length : Int)) || (decide (300 < (s.ps.length : Int)) || (decide (300 < (s.calls.length : Int)) || (decide (300 < (s.bids.length : Int)) || decide (300 < (s.seats.length : Int)))))))
theorem heavy_spec (s : StateV) : Abs.Spec Try.prog 18 [] [.agg s.cells] [] (.bool (heavyB s)) := by
  have h1 := heavyR_spec s.roll
  have h2 := heavyK_spec s.book.next (s.book.ts.map TradeV.cells) (s.book.qs.map PosV.cells)
  simp only [RollV.cells] at h1
  simp only [StateV.cells]
  refine Abs.Spec.go (n := 42) (np := 1) (rs := [.tmp 2]) mixed Try.func18 rfl rfl rfl rfl rfl (by simp) (by simp) ?_
  simp only [go_sem, Nat.reduceAdd, Nat.reduceSub, Nat.reduceMul, Nat.reducePow, Nat.reduceEqDiff, Nat.reduceLT, Nat.reduceLeDiff, Nat.reduceBEq, Nat.reduceBNe, Int.reduceToNat, Int.reduceLT, Int.reduceLE, Int.reduceEq, Int.reduceBNe, Int.reduceBEq, Int.reduceAdd, Int.reduceSub, Int.reduceMul, Int.reduceNeg, ↓reduceIte]
  refine CallN.pure h1 ?_
  cases b1 : heavyR s.roll
  case true =>
    have e : heavyB s = true := by simp [heavyB, b1]
    simp only [go_sem, Nat.reduceAdd, Nat.reduceSub, Nat.reduceMul, Nat.reducePow, Nat.reduceEqDiff, Nat.reduceLT, Nat.reduceLeDiff, Nat.reduceBEq, Nat.reduceBNe, Int.reduceToNat, Int.reduceLT, Int.reduceLE, Int.reduceEq, Int.reduceBNe, Int.reduceBEq, Int.reduceAdd, Int.reduceSub, Int.reduceMul, Int.reduceNeg, ↓reduceIte, e]
  simp only [go_sem, Nat.reduceAdd, Nat.reduceSub, Nat.reduceMul, Nat.reducePow, Nat.reduceEqDiff, Nat.reduceLT, Nat.reduceLeDiff, Nat.reduceBEq, Nat.reduceBNe, Int.reduceToNat, Int.reduceLT, Int.reduceLE, Int.reduceEq, Int.reduceBNe, Int.reduceBEq, Int.reduceAdd, Int.reduceSub, Int.reduceMul, Int.reduceNeg, ↓reduceIte]
  refine CallN.pure h2 ?_
  cases b2 : heavyK (s.book.ts.map TradeV.cells) (s.book.qs.map PosV.cells)
  case true =>
    have e : heavyB s = true := by simp [heavyB, b2]
    simp only [go_sem, Nat.reduceAdd, Nat.reduceSub, Nat.reduceMul, Nat.reducePow, Nat.reduceEqDiff, Nat.reduceLT, Nat.reduceLeDiff, Nat.reduceBEq, Nat.reduceBNe, Int.reduceToNat, Int.reduceLT, Int.reduceLE, Int.reduceEq, Int.reduceBNe, Int.reduceBEq, Int.reduceAdd, Int.reduceSub, Int.reduceMul, Int.reduceNeg, ↓reduceIte, e]
  have e : heavyB s = (decide (300 < (s.led.bs.length : Int)) || (decide (300 < (s.ps.length : Int)) || (decide (300 < (s.calls.length : Int)) || (decide (300 < (s.bids.length : Int)) || decide (300 < (s.seats.length : Int)))))) := by simp [heavyB, b1, b2]
  rw [e]
  clear e
  simp only [go_sem, Nat.reduceAdd, Nat.reduceSub, Nat.reduceMul, Nat.reducePow, Nat.reduceEqDiff, Nat.reduceLT, Nat.reduceLeDiff, Nat.reduceBEq, Nat.reduceBNe, Int.reduceToNat, Int.reduceLT, Int.reduceLE, Int.reduceEq, Int.reduceBNe, Int.reduceBEq, Int.reduceAdd, Int.reduceSub, Int.reduceMul, Int.reduceNeg, ↓reduceIte, List.length_map]
  cases d1 : decide (300 < (s.led.bs.length : Int))
  case true => simp only [go_sem, Nat.reduceAdd, Nat.reduceSub, Nat.reduceMul, Nat.reducePow, Nat.reduceEqDiff, Nat.reduceLT, Nat.reduceLeDiff, Nat.reduceBEq, Nat.reduceBNe, Int.reduceToNat, Int.reduceLT, Int.reduceLE, Int.reduceEq, Int.reduceBNe, Int.reduceBEq, Int.reduceAdd, Int.reduceSub, Int.reduceMul, Int.reduceNeg, ↓reduceIte, d1, List.length_map, Bool.true_or]
  cases d2 : decide (300 < (s.ps.length : Int))
  case true => simp only [go_sem, Nat.reduceAdd, Nat.reduceSub, Nat.reduceMul, Nat.reducePow, Nat.reduceEqDiff, Nat.reduceLT, Nat.reduceLeDiff, Nat.reduceBEq, Nat.reduceBNe, Int.reduceToNat, Int.reduceLT, Int.reduceLE, Int.reduceEq, Int.reduceBNe, Int.reduceBEq, Int.reduceAdd, Int.reduceSub, Int.reduceMul, Int.reduceNeg, ↓reduceIte, d1, d2, List.length_map, Bool.true_or, Bool.false_or]
  cases d3 : decide (300 < (s.calls.length : Int))
  case true => simp only [go_sem, Nat.reduceAdd, Nat.reduceSub, Nat.reduceMul, Nat.reducePow, Nat.reduceEqDiff, Nat.reduceLT, Nat.reduceLeDiff, Nat.reduceBEq, Nat.reduceBNe, Int.reduceToNat, Int.reduceLT, Int.reduceLE, Int.reduceEq, Int.reduceBNe, Int.reduceBEq, Int.reduceAdd, Int.reduceSub, Int.reduceMul, Int.reduceNeg, ↓reduceIte, d1, d2, d3, List.length_map, Bool.true_or, Bool.false_or]
  cases d4 : decide (300 < (s.bids.length : Int))
  case true => simp only [go_sem, Nat.reduceAdd, Nat.reduceSub, Nat.reduceMul, Nat.reducePow, Nat.reduceEqDiff, Nat.reduceLT, Nat.reduceLeDiff, Nat.reduceBEq, Nat.reduceBNe, Int.reduceToNat, Int.reduceLT, Int.reduceLE, Int.reduceEq, Int.reduceBNe, Int.reduceBEq, Int.reduceAdd, Int.reduceSub, Int.reduceMul, Int.reduceNeg, ↓reduceIte, d1, d2, d3, d4, List.length_map, Bool.true_or, Bool.false_or]
  simp only [go_sem, Nat.reduceAdd, Nat.reduceSub, Nat.reduceMul, Nat.reducePow, Nat.reduceEqDiff, Nat.reduceLT, Nat.reduceLeDiff, Nat.reduceBEq, Nat.reduceBNe, Int.reduceToNat, Int.reduceLT, Int.reduceLE, Int.reduceEq, Int.reduceBNe, Int.reduceBEq, Int.reduceAdd, Int.reduceSub, Int.reduceMul, Int.reduceNeg, ↓reduceIte, d1, d2, d3, d4, List.length_map, Bool.true_or, Bool.false_or]
theorem heavy_small {s : StateV} (h : heavyB s = false) (hr : s.rng) : s.small := by
  simp only [heavyB, heavyR, heavyK, Bool.or_eq_false_iff, decide_eq_false_iff_not, List.length_map] at h
  exact ⟨⟨by omega, by omega, by omega⟩, ⟨by omega, by omega⟩, by omega, by omega, by omega, by omega, by omega, fun x hx => (hr.seats x hx).2.2.2.2.2.2.2⟩
def shE (s : StateV) (w c : Int) : Int :=
  if ofE s.led s.roll s.ps w c = 0 then (if s.book.okB then (if marE s.roll w c s.book.qs = 0 then (if marN s.roll w c s.book.qs ≤ ofN s.led s.roll s.ps w c then 0 else lessE (marN s.roll w c s.book.qs) (ofN s.led s.roll s.ps w c)) else marE s.roll w c s.book.qs) else 14) else ofE s.led s.roll s.ps w c
def shN (s : StateV) (w c : Int) : Int :=
  if ofE s.led s.roll s.ps w c = 0 then (if s.book.okB then (if marE s.roll w c s.book.qs = 0 then (if marN s.roll w c s.book.qs ≤ ofN s.led s.roll s.ps w c then 0 else lessN (marN s.roll w c s.book.qs) (ofN s.led s.roll s.ps w c)) else 0) else 0) else 0
structure StateV.fit (s : StateV) : Prop where
  roll : s.roll.small
  book : s.book.small
  led : s.led.bs.length < 2 ^ 30
  ps : s.ps.length < 2 ^ 30
theorem short_spec (s : StateV) (w c : Int) (hs : s.fit) : Abs.Spec Try.prog 19 [] [.agg s.cells, .int .i64 w, .int .i64 c] [] (.tup [.int .i64 (shN s w c), .int .i64 (shE s w c)]) := by
  obtain ⟨hr, hb, hl, hp⟩ := hs
  have h1 := of_spec s.led s.roll s.ps w c hl hr hp
  have h2 := bookCheck_spec s.book hb
  have h3 := margin_spec s.roll w c s.book.qs hr hb.2
  have h4 := numLess_spec (marN s.roll w c s.book.qs) (ofN s.led s.roll s.ps w c)
  simp only [LedV.cells, RollV.cells, BookV.cells] at h1 h2 h3
  simp only [StateV.cells, shN, shE]
  obtain ⟨N1, hN1⟩ : ∃ x, x = ofN s.led s.roll s.ps w c := ⟨_, rfl⟩
  obtain ⟨E1, hE1⟩ : ∃ x, x = ofE s.led s.roll s.ps w c := ⟨_, rfl⟩
  obtain ⟨N3, hN3⟩ : ∃ x, x = marN s.roll w c s.book.qs := ⟨_, rfl⟩
  obtain ⟨E3, hE3⟩ : ∃ x, x = marE s.roll w c s.book.qs := ⟨_, rfl⟩
  rw [← hN1, ← hE1] at h1
  rw [← hN3, ← hE3] at h3
  rw [← hN3, ← hN1] at h4
  rw [← hN1, ← hE1, ← hN3, ← hE3]
  refine Abs.Spec.go (n := 53) (np := 3) (rs := [.tmp 6, .tmp 7]) mixed Try.func19 rfl rfl rfl rfl rfl (by simp) (by simp) ?_
  simp only [go_sem, Nat.reduceAdd, Nat.reduceSub, Nat.reduceMul, Nat.reducePow, Nat.reduceEqDiff, Nat.reduceLT, Nat.reduceLeDiff, Nat.reduceBEq, Nat.reduceBNe, Int.reduceToNat, Int.reduceLT, Int.reduceLE, Int.reduceEq, Int.reduceBNe, Int.reduceBEq, Int.reduceAdd, Int.reduceSub, Int.reduceMul, Int.reduceNeg, ↓reduceIte]
  refine CallN.pure h1 ?_
  by_cases e1 : E1 = 0
  case neg =>
    have b1 : (E1 == 0) = false := by simpa using e1
    simp only [go_sem, Nat.reduceAdd, Nat.reduceSub, Nat.reduceMul, Nat.reducePow, Nat.reduceEqDiff, Nat.reduceLT, Nat.reduceLeDiff, Nat.reduceBEq, Nat.reduceBNe, Int.reduceToNat, Int.reduceLT, Int.reduceLE, Int.reduceEq, Int.reduceBNe, Int.reduceBEq, Int.reduceAdd, Int.reduceSub, Int.reduceMul, Int.reduceNeg, ↓reduceIte, bne, b1, if_neg e1]
  have b1 : (E1 == 0) = true := by simpa using e1
  simp only [go_sem, Nat.reduceAdd, Nat.reduceSub, Nat.reduceMul, Nat.reducePow, Nat.reduceEqDiff, Nat.reduceLT, Nat.reduceLeDiff, Nat.reduceBEq, Nat.reduceBNe, Int.reduceToNat, Int.reduceLT, Int.reduceLE, Int.reduceEq, Int.reduceBNe, Int.reduceBEq, Int.reduceAdd, Int.reduceSub, Int.reduceMul, Int.reduceNeg, ↓reduceIte, b1, if_pos e1]
  refine CallN.pure h2 ?_
  cases b2 : s.book.okB
  · simp only [go_sem, Nat.reduceAdd, Nat.reduceSub, Nat.reduceMul, Nat.reducePow, Nat.reduceEqDiff, Nat.reduceLT, Nat.reduceLeDiff, Nat.reduceBEq, Nat.reduceBNe, Int.reduceToNat, Int.reduceLT, Int.reduceLE, Int.reduceEq, Int.reduceBNe, Int.reduceBEq, Int.reduceAdd, Int.reduceSub, Int.reduceMul, Int.reduceNeg, ↓reduceIte]
  simp only [go_sem, Nat.reduceAdd, Nat.reduceSub, Nat.reduceMul, Nat.reducePow, Nat.reduceEqDiff, Nat.reduceLT, Nat.reduceLeDiff, Nat.reduceBEq, Nat.reduceBNe, Int.reduceToNat, Int.reduceLT, Int.reduceLE, Int.reduceEq, Int.reduceBNe, Int.reduceBEq, Int.reduceAdd, Int.reduceSub, Int.reduceMul, Int.reduceNeg, ↓reduceIte]
  refine CallN.pure h3 ?_
  by_cases e3 : E3 = 0
  case neg =>
    have b3 : (E3 == 0) = false := by simpa using e3
    simp only [go_sem, Nat.reduceAdd, Nat.reduceSub, Nat.reduceMul, Nat.reducePow, Nat.reduceEqDiff, Nat.reduceLT, Nat.reduceLeDiff, Nat.reduceBEq, Nat.reduceBNe, Int.reduceToNat, Int.reduceLT, Int.reduceLE, Int.reduceEq, Int.reduceBNe, Int.reduceBEq, Int.reduceAdd, Int.reduceSub, Int.reduceMul, Int.reduceNeg, ↓reduceIte, bne, b3, if_neg e3]
  have b3 : (E3 == 0) = true := by simpa using e3
  by_cases e4 : N3 ≤ N1
  · have d4 : decide (N3 ≤ N1) = true := decide_eq_true e4
    simp only [go_sem, Nat.reduceAdd, Nat.reduceSub, Nat.reduceMul, Nat.reducePow, Nat.reduceEqDiff, Nat.reduceLT, Nat.reduceLeDiff, Nat.reduceBEq, Nat.reduceBNe, Int.reduceToNat, Int.reduceLT, Int.reduceLE, Int.reduceEq, Int.reduceBNe, Int.reduceBEq, Int.reduceAdd, Int.reduceSub, Int.reduceMul, Int.reduceNeg, ↓reduceIte, bne, b3, d4, if_pos e3, if_pos e4]
  · have d4 : decide (N3 ≤ N1) = false := decide_eq_false e4
    simp only [go_sem, Nat.reduceAdd, Nat.reduceSub, Nat.reduceMul, Nat.reducePow, Nat.reduceEqDiff, Nat.reduceLT, Nat.reduceLeDiff, Nat.reduceBEq, Nat.reduceBNe, Int.reduceToNat, Int.reduceLT, Int.reduceLE, Int.reduceEq, Int.reduceBNe, Int.reduceBEq, Int.reduceAdd, Int.reduceSub, Int.reduceMul, Int.reduceNeg, ↓reduceIte, bne, b3, d4, if_pos e3, if_neg e4]
    refine CallN.pure h4 ?_
    simp only [go_sem, Nat.reduceAdd, Nat.reduceSub, Nat.reduceMul, Nat.reducePow, Nat.reduceEqDiff, Nat.reduceLT, Nat.reduceLeDiff, Nat.reduceBEq, Nat.reduceBNe, Int.reduceToNat, Int.reduceLT, Int.reduceLE, Int.reduceEq, Int.reduceBNe, Int.reduceBEq, Int.reduceAdd, Int.reduceSub, Int.reduceMul, Int.reduceNeg, ↓reduceIte]
theorem marN_range (r : RollV) (w c : Int) (qs : List PosV) : inR (marN r w c qs) = true := by
  unfold marN
  split
  · split
    · assumption
    · decide
  · decide
theorem sh_ok {s : StateV} {w c : Int} (h : shE s w c = 0) : ofE s.led s.roll s.ps w c = 0 ∧ s.book.okB = true ∧ marE s.roll w c s.book.qs = 0 ∧
    shN s w c = max (marN s.roll w c s.book.qs - ofN s.led s.roll s.ps w c) 0 ∧ IntKind.wrap .i64 (marN s.roll w c s.book.qs - ofN s.led s.roll s.ps w c) = marN s.roll w c s.book.qs - ofN s.led s.roll s.ps w c := by
  by_cases e1 : ofE s.led s.roll s.ps w c = 0
  case neg => simp only [shE, if_neg e1] at h; exact (e1 h).elim
  cases b2 : s.book.okB
  case false => simp only [shE, if_pos e1, b2] at h; cases h
  by_cases e3 : marE s.roll w c s.book.qs = 0
  case neg => simp only [shE, if_pos e1, b2, if_true, if_neg e3] at h; exact (e3 h).elim
  obtain ⟨-, -, -, r1⟩ := of_ok e1
  have i1 := inR_iff.1 r1
  have i2 := inR_iff.1 (marN_range s.roll w c s.book.qs)
  simp only [shE, shN, if_pos e1, b2, if_true, if_pos e3] at h ⊢
  refine ⟨e1, trivial, e3, ?_⟩
  by_cases e4 : marN s.roll w c s.book.qs ≤ ofN s.led s.roll s.ps w c
  · simp only [if_pos e4]
    exact ⟨by omega, wr64 (by omega) (by omega)⟩
  · simp only [if_neg e4, lessE, r1, marN_range] at h
    cases hi : inR (marN s.roll w c s.book.qs - ofN s.led s.roll s.ps w c)
    · rw [hi] at h; simp at h
    · have i3 := inR_iff.1 hi
      simp only [if_neg e4, lessN, r1, marN_range, hi]
      exact ⟨by simp; omega, wr64 (by omega) (by omega)⟩
end Go.Proofs.Ytbllopdcbkeadaa
set_option linter.unusedSimpArgs false
set_option linter.unusedVariables false
namespace Go.Proofs.Ytbllopdcbkeadaa
open Go.Abs
theorem of_led {l : LedV} {r : RollV} {ps : List Plg} {w c : Int} (h : ofE l r ps w c = 0) : l.okB = true := by
  have h0 : chk3 l r ps = 0 := by
    by_cases hb : (chk3 l r ps != 0) = true
    · simp only [ofE, hb, if_true] at h; exact h
    · simpa using hb
  unfold chk3 at h0
  split at h0
  · rename_i hh; simp only [Bool.and_eq_true] at hh; exact hh.1.1
  · cases h0
theorem led_bs {l : LedV} (h : l.okB = true) : ledSorted l.bs = true ∧ ∀ z ∈ l.bs, inR z.sum = true := by
  simp only [LedV.okB, Bool.and_eq_true] at h
  refine ⟨h.1.2, fun z hz => ?_⟩
  obtain ⟨i, hi, rfl⟩ := List.mem_iff_getElem.1 hz
  have := List.all_eq_true.1 h.1.2 i (List.mem_range.2 hi)
  have hk : balOk l.bs[i] = true := by
    rcases Nat.eq_zero_or_pos i with rfl | hp
    · rwa [ledAt_zero hi] at this
    · obtain ⟨j, rfl⟩ : ∃ j, i = j + 1 := ⟨i - 1, by omega⟩
      rw [ledAt_succ hi, Bool.and_eq_true] at this; exact this.1
  simp only [balOk, Bool.and_eq_true] at hk
  exact hk.2.1
def paidS (s : StateV) (w c n : Int) : StateV := { s with led := ⟨s.led.last, paidR ⟨1, 0, c⟩ ⟨2, w, c⟩ n s.led.bs false false⟩ }
theorem paid_len (a b : AcctV) (n : Int) : ∀ (l : List BalV) (p q : Bool), (paidR a b n l p q).length ≤ 3 * l.length + 2
  | [], p, q => by
    simp only [paidR, List.length_append]
    have := pIns_len a (-n) p true
    have := pIns_len b n q true
    simp; omega
  | z :: r, p, q => by
    simp only [paidR, List.length_append, List.length_cons]
    have h1 := pIns_len a (-n) p (a.less z.acct)
    have h2 := pIns_len b n q (b.less z.acct)
    have h3 : (pMid z (z.sum + pAdd a (-n) z p + pAdd b n z q)).length ≤ 1 := by unfold pMid; split <;> simp
    have h4 := paid_len a b n r (pFl a z p) (pFl b z q)
    omega
theorem paid_short {s : StateV} {w c : Int} (h : shE s w c = 0) (hn : shN s w c ≠ 0) (h2 : shE (paidS s w c (shN s w c)) w c = 0) : shN (paidS s w c (shN s w c)) w c = 0 := by
  obtain ⟨e1, b1, m1, n1, -⟩ := sh_ok h
  obtain ⟨e2, b2, m2, n2, -⟩ := sh_ok h2
  rw [n2]
  have hm : marN (paidS s w c (shN s w c)).roll w c (paidS s w c (shN s w c)).book.qs = marN s.roll w c s.book.qs := rfl
  obtain ⟨-, -, o1, -⟩ := of_ok e1
  obtain ⟨-, -, o2, -⟩ := of_ok e2
  have hps : sumV (paidS s w c (shN s w c)).roll w c (paidS s w c (shN s w c)).ps = sumV s.roll w c s.ps := rfl
  have hof : ofL ⟨2, w, c⟩ (paidS s w c (shN s w c)).led.bs = ofL ⟨2, w, c⟩ s.led.bs + shN s w c := paid_of (by simp [AcctV.same]) _ _ (pairwise_of (led_bs (of_led e1)).1)
  rw [hps, hof] at o2
  rw [hm]
  omega
set_option maxRecDepth 8000 in
theorem law_shorts (s : StateV) (w c : Int) (hr : s.rng) : Abs.Spec Try.prog 5 [] [.agg s.cells, .int .i64 w, .int .i64 c] [] (.bool true) := by
  have hwk := wakes_spec
  have hH := heavy_spec s
  cases hb : heavyB s
  case true =>
    rw [hb] at hH
    simp only [StateV.cells] at hH ⊢
    refine Abs.Spec.go (n := 126) (np := 3) (rs := [.tmp 6]) mixed Try.func5 rfl rfl rfl rfl rfl (by simp) (by simp) ?_
    simp only [go_sem, Nat.reduceAdd, Nat.reduceSub, Nat.reduceMul, Nat.reducePow, Nat.reduceEqDiff, Nat.reduceLT, Nat.reduceLeDiff, Nat.reduceBEq, Nat.reduceBNe, Int.reduceToNat, Int.reduceLT, Int.reduceLE, Int.reduceEq, Int.reduceBNe, Int.reduceBEq, Int.reduceAdd, Int.reduceSub, Int.reduceMul, Int.reduceNeg, ↓reduceIte]
    refine CallN.pure hH ?_
    simp only [go_sem, Nat.reduceAdd, Nat.reduceSub, Nat.reduceMul, Nat.reducePow, Nat.reduceEqDiff, Nat.reduceLT, Nat.reduceLeDiff, Nat.reduceBEq, Nat.reduceBNe, Int.reduceToNat, Int.reduceLT, Int.reduceLE, Int.reduceEq, Int.reduceBNe, Int.reduceBEq, Int.reduceAdd, Int.reduceSub, Int.reduceMul, Int.reduceNeg, ↓reduceIte]
  have hsm := heavy_small hb hr
  have hfit : s.fit := ⟨hsm.roll.small, hsm.book, hsm.led, hsm.ps⟩
  have hS := short_spec s w c hfit
  have hO := of_spec s.led s.roll s.ps w c hsm.led hsm.roll.small hsm.ps
  have hM := refMargin_spec s.roll w c s.book.qs hsm.roll.small hsm.book.2
  have hT := twinState_spec s hsm
  rw [hb] at hH
  simp only [LedV.cells, RollV.cells] at hO hM
  simp only [stOwn, stRefs] at hT
  simp only [StateV.cells] at hH hS hT ⊢
  refine Abs.Spec.go (n := 126) (np := 3) (rs := [.tmp 6]) mixed Try.func5 rfl rfl rfl rfl rfl (by simp) (by simp) ?_
  simp only [go_sem, Nat.reduceAdd, Nat.reduceSub, Nat.reduceMul, Nat.reducePow, Nat.reduceEqDiff, Nat.reduceLT, Nat.reduceLeDiff, Nat.reduceBEq, Nat.reduceBNe, Int.reduceToNat, Int.reduceLT, Int.reduceLE, Int.reduceEq, Int.reduceBNe, Int.reduceBEq, Int.reduceAdd, Int.reduceSub, Int.reduceMul, Int.reduceNeg, ↓reduceIte]
  refine CallN.pure hH ?_
  simp only [go_sem, Nat.reduceAdd, Nat.reduceSub, Nat.reduceMul, Nat.reducePow, Nat.reduceEqDiff, Nat.reduceLT, Nat.reduceLeDiff, Nat.reduceBEq, Nat.reduceBNe, Int.reduceToNat, Int.reduceLT, Int.reduceLE, Int.reduceEq, Int.reduceBNe, Int.reduceBEq, Int.reduceAdd, Int.reduceSub, Int.reduceMul, Int.reduceNeg, ↓reduceIte]
  refine CallN.pure hS ?_
  simp only [go_sem, Nat.reduceAdd, Nat.reduceSub, Nat.reduceMul, Nat.reducePow, Nat.reduceEqDiff, Nat.reduceLT, Nat.reduceLeDiff, Nat.reduceBEq, Nat.reduceBNe, Int.reduceToNat, Int.reduceLT, Int.reduceLE, Int.reduceEq, Int.reduceBNe, Int.reduceBEq, Int.reduceAdd, Int.reduceSub, Int.reduceMul, Int.reduceNeg, ↓reduceIte]
  refine CallN.pure hO ?_
  by_cases e : shE s w c = 0
  case neg =>
    have b1 : (shE s w c != 0) = true := by simpa using e
    have n0 : shN s w c = 0 := by
      simp only [shE] at e
      simp only [shN]
      split at e
      · split at e
        · split at e
          · split at e
            · exact (e rfl).elim
            · rename_i h1 h2 h3 h4
              rw [if_pos h1, if_pos h2, if_pos h3, if_neg h4]
              simp only [lessE] at e
              simp only [lessN]
              split
              · rename_i hh
                simp only [Bool.and_eq_true] at hh
                rw [if_pos (by simp only [Bool.and_eq_true]; exact ⟨hh.1, hh.2.1⟩), if_pos hh.2.2] at e
                exact (e rfl).elim
              · rfl
          · rename_i h1 h2 h3
            rw [if_pos h1, if_pos h2, if_neg h3]
        · rename_i h1 h2
          rw [if_pos h1, if_neg h2]
      · rename_i h1
        rw [if_neg h1]
    simp only [go_sem, Nat.reduceAdd, Nat.reduceSub, Nat.reduceMul, Nat.reducePow, Nat.reduceEqDiff, Nat.reduceLT, Nat.reduceLeDiff, Nat.reduceBEq, Nat.reduceBNe, Int.reduceToNat, Int.reduceLT, Int.reduceLE, Int.reduceEq, Int.reduceBNe, Int.reduceBEq, Int.reduceAdd, Int.reduceSub, Int.reduceMul, Int.reduceNeg, ↓reduceIte, b1, n0]
    refine CallN.pure hwk ?_
    simp only [go_sem, Nat.reduceAdd, Nat.reduceSub, Nat.reduceMul, Nat.reducePow, Nat.reduceEqDiff, Nat.reduceLT, Nat.reduceLeDiff, Nat.reduceBEq, Nat.reduceBNe, Int.reduceToNat, Int.reduceLT, Int.reduceLE, Int.reduceEq, Int.reduceBNe, Int.reduceBEq, Int.reduceAdd, Int.reduceSub, Int.reduceMul, Int.reduceNeg, ↓reduceIte]
  obtain ⟨e1, bk, m1, n1, hwr⟩ := sh_ok e
  have hps := fun t => paid_short (s := s) (w := w) (c := c) e t
  obtain ⟨n, hn⟩ : ∃ n, n = shN s w c := ⟨_, rfl⟩
  rw [← hn] at n1 hps ⊢
  have hn0 : decide (n < 0) = false := decide_eq_false (by omega)
  have hnm : (n == max (marN s.roll w c s.book.qs - ofN s.led s.roll s.ps w c) 0) = true := by rw [n1]; exact beq_self_eq_true _
  rw [e1, e]
  simp only [go_sem, Nat.reduceAdd, Nat.reduceSub, Nat.reduceMul, Nat.reducePow, Nat.reduceEqDiff, Nat.reduceLT, Nat.reduceLeDiff, Nat.reduceBEq, Nat.reduceBNe, Int.reduceToNat, Int.reduceLT, Int.reduceLE, Int.reduceEq, Int.reduceBNe, Int.reduceBEq, Int.reduceAdd, Int.reduceSub, Int.reduceMul, Int.reduceNeg, ↓reduceIte, hn0]
  refine CallN.pure hM ?_
  rw [m1]
  simp only [go_sem, Nat.reduceAdd, Nat.reduceSub, Nat.reduceMul, Nat.reducePow, Nat.reduceEqDiff, Nat.reduceLT, Nat.reduceLeDiff, Nat.reduceBEq, Nat.reduceBNe, Int.reduceToNat, Int.reduceLT, Int.reduceLE, Int.reduceEq, Int.reduceBNe, Int.reduceBEq, Int.reduceAdd, Int.reduceSub, Int.reduceMul, Int.reduceNeg, ↓reduceIte, bne, hwr, hnm]
  by_cases hz : n = 0
  · have bz : (n == 0) = true := by simpa using hz
    simp only [go_sem, Nat.reduceAdd, Nat.reduceSub, Nat.reduceMul, Nat.reducePow, Nat.reduceEqDiff, Nat.reduceLT, Nat.reduceLeDiff, Nat.reduceBEq, Nat.reduceBNe, Int.reduceToNat, Int.reduceLT, Int.reduceLE, Int.reduceEq, Int.reduceBNe, Int.reduceBEq, Int.reduceAdd, Int.reduceSub, Int.reduceMul, Int.reduceNeg, ↓reduceIte, bz]
    refine CallN.pure hwk ?_
    simp only [go_sem, Nat.reduceAdd, Nat.reduceSub, Nat.reduceMul, Nat.reducePow, Nat.reduceEqDiff, Nat.reduceLT, Nat.reduceLeDiff, Nat.reduceBEq, Nat.reduceBNe, Int.reduceToNat, Int.reduceLT, Int.reduceLE, Int.reduceEq, Int.reduceBNe, Int.reduceBEq, Int.reduceAdd, Int.reduceSub, Int.reduceMul, Int.reduceNeg, ↓reduceIte]
  have bz : (n == 0) = false := by simpa using hz
  rcases Int.lt_or_le 1152921504606846976 n with hbig | hbig
  · have d : decide (1152921504606846976 < n) = true := decide_eq_true hbig
    simp only [go_sem, Nat.reduceAdd, Nat.reduceSub, Nat.reduceMul, Nat.reducePow, Nat.reduceEqDiff, Nat.reduceLT, Nat.reduceLeDiff, Nat.reduceBEq, Nat.reduceBNe, Int.reduceToNat, Int.reduceLT, Int.reduceLE, Int.reduceEq, Int.reduceBNe, Int.reduceBEq, Int.reduceAdd, Int.reduceSub, Int.reduceMul, Int.reduceNeg, ↓reduceIte, bz, d]
    refine CallN.pure hwk ?_
    simp only [go_sem, Nat.reduceAdd, Nat.reduceSub, Nat.reduceMul, Nat.reducePow, Nat.reduceEqDiff, Nat.reduceLT, Nat.reduceLeDiff, Nat.reduceBEq, Nat.reduceBNe, Int.reduceToNat, Int.reduceLT, Int.reduceLE, Int.reduceEq, Int.reduceBNe, Int.reduceBEq, Int.reduceAdd, Int.reduceSub, Int.reduceMul, Int.reduceNeg, ↓reduceIte]
  have d1 : decide (1152921504606846976 < n) = false := decide_eq_false (by omega)
  rcases Int.lt_or_le w 1 with hw1 | hw1
  · have d : decide (w < 1) = true := decide_eq_true hw1
    simp only [go_sem, Nat.reduceAdd, Nat.reduceSub, Nat.reduceMul, Nat.reducePow, Nat.reduceEqDiff, Nat.reduceLT, Nat.reduceLeDiff, Nat.reduceBEq, Nat.reduceBNe, Int.reduceToNat, Int.reduceLT, Int.reduceLE, Int.reduceEq, Int.reduceBNe, Int.reduceBEq, Int.reduceAdd, Int.reduceSub, Int.reduceMul, Int.reduceNeg, ↓reduceIte, bz, d1, d]
    refine CallN.pure hwk ?_
    simp only [go_sem, Nat.reduceAdd, Nat.reduceSub, Nat.reduceMul, Nat.reducePow, Nat.reduceEqDiff, Nat.reduceLT, Nat.reduceLeDiff, Nat.reduceBEq, Nat.reduceBNe, Int.reduceToNat, Int.reduceLT, Int.reduceLE, Int.reduceEq, Int.reduceBNe, Int.reduceBEq, Int.reduceAdd, Int.reduceSub, Int.reduceMul, Int.reduceNeg, ↓reduceIte]
  have d2 : decide (w < 1) = false := decide_eq_false (by omega)
  rcases Int.lt_or_le 16 w with hw2 | hw2
  · have d : decide (16 < w) = true := decide_eq_true hw2
    simp only [go_sem, Nat.reduceAdd, Nat.reduceSub, Nat.reduceMul, Nat.reducePow, Nat.reduceEqDiff, Nat.reduceLT, Nat.reduceLeDiff, Nat.reduceBEq, Nat.reduceBNe, Int.reduceToNat, Int.reduceLT, Int.reduceLE, Int.reduceEq, Int.reduceBNe, Int.reduceBEq, Int.reduceAdd, Int.reduceSub, Int.reduceMul, Int.reduceNeg, ↓reduceIte, bz, d1, d2, d]
    refine CallN.pure hwk ?_
    simp only [go_sem, Nat.reduceAdd, Nat.reduceSub, Nat.reduceMul, Nat.reducePow, Nat.reduceEqDiff, Nat.reduceLT, Nat.reduceLeDiff, Nat.reduceBEq, Nat.reduceBNe, Int.reduceToNat, Int.reduceLT, Int.reduceLE, Int.reduceEq, Int.reduceBNe, Int.reduceBEq, Int.reduceAdd, Int.reduceSub, Int.reduceMul, Int.reduceNeg, ↓reduceIte]
  have d3 : decide (16 < w) = false := decide_eq_false (by omega)
  rcases Int.lt_or_le c 0 with hc1 | hc1
  · have d : decide (c < 0) = true := decide_eq_true hc1
    simp only [go_sem, Nat.reduceAdd, Nat.reduceSub, Nat.reduceMul, Nat.reducePow, Nat.reduceEqDiff, Nat.reduceLT, Nat.reduceLeDiff, Nat.reduceBEq, Nat.reduceBNe, Int.reduceToNat, Int.reduceLT, Int.reduceLE, Int.reduceEq, Int.reduceBNe, Int.reduceBEq, Int.reduceAdd, Int.reduceSub, Int.reduceMul, Int.reduceNeg, ↓reduceIte, bz, d1, d2, d3, d]
    refine CallN.pure hwk ?_
    simp only [go_sem, Nat.reduceAdd, Nat.reduceSub, Nat.reduceMul, Nat.reducePow, Nat.reduceEqDiff, Nat.reduceLT, Nat.reduceLeDiff, Nat.reduceBEq, Nat.reduceBNe, Int.reduceToNat, Int.reduceLT, Int.reduceLE, Int.reduceEq, Int.reduceBNe, Int.reduceBEq, Int.reduceAdd, Int.reduceSub, Int.reduceMul, Int.reduceNeg, ↓reduceIte]
  have d4 : decide (c < 0) = false := decide_eq_false (by omega)
  rcases Int.lt_or_le c 3 with hc2 | hc2
  case inr =>
    have d : decide (3 ≤ c) = true := decide_eq_true hc2
    simp only [go_sem, Nat.reduceAdd, Nat.reduceSub, Nat.reduceMul, Nat.reducePow, Nat.reduceEqDiff, Nat.reduceLT, Nat.reduceLeDiff, Nat.reduceBEq, Nat.reduceBNe, Int.reduceToNat, Int.reduceLT, Int.reduceLE, Int.reduceEq, Int.reduceBNe, Int.reduceBEq, Int.reduceAdd, Int.reduceSub, Int.reduceMul, Int.reduceNeg, ↓reduceIte, bz, d1, d2, d3, d4, d]
    refine CallN.pure hwk ?_
    simp only [go_sem, Nat.reduceAdd, Nat.reduceSub, Nat.reduceMul, Nat.reducePow, Nat.reduceEqDiff, Nat.reduceLT, Nat.reduceLeDiff, Nat.reduceBEq, Nat.reduceBNe, Int.reduceToNat, Int.reduceLT, Int.reduceLE, Int.reduceEq, Int.reduceBNe, Int.reduceBEq, Int.reduceAdd, Int.reduceSub, Int.reduceMul, Int.reduceNeg, ↓reduceIte]
  have d5 : decide (3 ≤ c) = false := decide_eq_false (by omega)
  have hP := paid_spec s.led ⟨1, 0, c⟩ ⟨2, w, c⟩ n (by omega) (led_bs (of_led e1)).2 hsm.led
  have hpl := paid_len ⟨1, 0, c⟩ ⟨2, w, c⟩ n s.led.bs false false
  have hsm2 := hsm.led
  have hlb : s.led.bs.length ≤ 300 := by
    simp only [heavyB, heavyR, heavyK, Bool.or_eq_false_iff, decide_eq_false_iff_not, List.length_map] at hb; omega
  have hS2 := short_spec (paidS s w c n) w c ⟨hsm.roll.small, hsm.book, by simp only [paidS]; omega, hsm.ps⟩
  simp only [LedV.cells, AcctV.cells] at hP
  simp only [StateV.cells, paidS] at hS2
  simp only [go_sem, Nat.reduceAdd, Nat.reduceSub, Nat.reduceMul, Nat.reducePow, Nat.reduceEqDiff, Nat.reduceLT, Nat.reduceLeDiff, Nat.reduceBEq, Nat.reduceBNe, Int.reduceToNat, Int.reduceLT, Int.reduceLE, Int.reduceEq, Int.reduceBNe, Int.reduceBEq, Int.reduceAdd, Int.reduceSub, Int.reduceMul, Int.reduceNeg, ↓reduceIte, bz, d1, d2, d3, d4, d5]
  refine CallN.gen [] [] false (by simp) ?_
  simp only [go_sem, Nat.reduceAdd, Nat.reduceSub, Nat.reduceMul, Nat.reducePow, Nat.reduceEqDiff, Nat.reduceLT, Nat.reduceLeDiff, Nat.reduceBEq, Nat.reduceBNe, Int.reduceToNat, Int.reduceLT, Int.reduceLE, Int.reduceEq, Int.reduceBNe, Int.reduceBEq, Int.reduceAdd, Int.reduceSub, Int.reduceMul, Int.reduceNeg, ↓reduceIte]
  refine CallG.intro hT ?_
  simp only [go_sem, Nat.reduceAdd, Nat.reduceSub, Nat.reduceMul, Nat.reducePow, Nat.reduceEqDiff, Nat.reduceLT, Nat.reduceLeDiff, Nat.reduceBEq, Nat.reduceBNe, Int.reduceToNat, Int.reduceLT, Int.reduceLE, Int.reduceEq, Int.reduceBNe, Int.reduceBEq, Int.reduceAdd, Int.reduceSub, Int.reduceMul, Int.reduceNeg, ↓reduceIte]
  refine CallN.gen [] [] false (by simp) ?_
  simp only [go_sem, Nat.reduceAdd, Nat.reduceSub, Nat.reduceMul, Nat.reducePow, Nat.reduceEqDiff, Nat.reduceLT, Nat.reduceLeDiff, Nat.reduceBEq, Nat.reduceBNe, Int.reduceToNat, Int.reduceLT, Int.reduceLE, Int.reduceEq, Int.reduceBNe, Int.reduceBEq, Int.reduceAdd, Int.reduceSub, Int.reduceMul, Int.reduceNeg, ↓reduceIte]
  refine CallG.intro hP ?_
  simp only [go_sem, Nat.reduceAdd, Nat.reduceSub, Nat.reduceMul, Nat.reducePow, Nat.reduceEqDiff, Nat.reduceLT, Nat.reduceLeDiff, Nat.reduceBEq, Nat.reduceBNe, Int.reduceToNat, Int.reduceLT, Int.reduceLE, Int.reduceEq, Int.reduceBNe, Int.reduceBEq, Int.reduceAdd, Int.reduceSub, Int.reduceMul, Int.reduceNeg, ↓reduceIte]
  refine CallN.gen [] [] true (by simp) ?_
  simp only [go_sem, Nat.reduceAdd, Nat.reduceSub, Nat.reduceMul, Nat.reducePow, Nat.reduceEqDiff, Nat.reduceLT, Nat.reduceLeDiff, Nat.reduceBEq, Nat.reduceBNe, Int.reduceToNat, Int.reduceLT, Int.reduceLE, Int.reduceEq, Int.reduceBNe, Int.reduceBEq, Int.reduceAdd, Int.reduceSub, Int.reduceMul, Int.reduceNeg, ↓reduceIte]
  refine CallG.intro hS2 ?_
  have hps2 := hps hz
  simp only [paidS] at hps2
  by_cases e9 : shE (paidS s w c n) w c = 0
  · have h9 := hps2 e9
    simp only [paidS] at e9
    simp only [go_sem, Nat.reduceAdd, Nat.reduceSub, Nat.reduceMul, Nat.reducePow, Nat.reduceEqDiff, Nat.reduceLT, Nat.reduceLeDiff, Nat.reduceBEq, Nat.reduceBNe, Int.reduceToNat, Int.reduceLT, Int.reduceLE, Int.reduceEq, Int.reduceBNe, Int.reduceBEq, Int.reduceAdd, Int.reduceSub, Int.reduceMul, Int.reduceNeg, ↓reduceIte, e9, h9]
    refine CallN.pure hwk ?_
    simp only [go_sem, Nat.reduceAdd, Nat.reduceSub, Nat.reduceMul, Nat.reducePow, Nat.reduceEqDiff, Nat.reduceLT, Nat.reduceLeDiff, Nat.reduceBEq, Nat.reduceBNe, Int.reduceToNat, Int.reduceLT, Int.reduceLE, Int.reduceEq, Int.reduceBNe, Int.reduceBEq, Int.reduceAdd, Int.reduceSub, Int.reduceMul, Int.reduceNeg, ↓reduceIte]
  · simp only [paidS] at e9
    have b9 := bne_iff_ne.2 e9
    simp only [go_sem, Nat.reduceAdd, Nat.reduceSub, Nat.reduceMul, Nat.reducePow, Nat.reduceEqDiff, Nat.reduceLT, Nat.reduceLeDiff, Nat.reduceBEq, Nat.reduceBNe, Int.reduceToNat, Int.reduceLT, Int.reduceLE, Int.reduceEq, Int.reduceBNe, Int.reduceBEq, Int.reduceAdd, Int.reduceSub, Int.reduceMul, Int.reduceNeg, ↓reduceIte, b9]
    refine CallN.pure hwk ?_
    simp only [go_sem, Nat.reduceAdd, Nat.reduceSub, Nat.reduceMul, Nat.reducePow, Nat.reduceEqDiff, Nat.reduceLT, Nat.reduceLeDiff, Nat.reduceBEq, Nat.reduceBNe, Int.reduceToNat, Int.reduceLT, Int.reduceLE, Int.reduceEq, Int.reduceBNe, Int.reduceBEq, Int.reduceAdd, Int.reduceSub, Int.reduceMul, Int.reduceNeg, ↓reduceIte]
end Go.Proofs.Ytbllopdcbkeadaa
