/- What covers a member's margin; no theorem of a claim. -/
import Derived.Test.YtbllopdcbkeadaaC4
set_option linter.unusedSimpArgs false
set_option linter.unusedVariables false
namespace Go.Proofs.Ytbllopdcbkeadaa
open Go.Abs
def astOf (r : RollV) (x : Plg) : AssetV := getL AssetV.a x.asset ⟨0, 0, 0, 0⟩ r.xs
def hitB (r : RollV) (w c : Int) (x : Plg) : Bool := decide (0 ≤ posL AssetV.a x.asset r.xs) && (x.who == w && (astOf r x).b == c)
def valsL (r : RollV) (w c : Int) (ps : List Plg) : List Int := (ps.filter (hitB r w c)).map fun x => (astOf r x).V x.units
def firstE (r : RollV) (w c : Int) : List Plg → Int
  | [] => 0
  | x :: l => if hitB r w c x && (astOf r x).E x.units != 0 then (astOf r x).E x.units else firstE r w c l
theorem valsL_step (r : RollV) (w c : Int) (ps : List Plg) {i : Nat} (h : i < ps.length) : valsL r w c (ps.take (i + 1)) = if hitB r w c ps[i] then valsL r w c (ps.take i) ++ [(astOf r ps[i]).V ps[i].units] else valsL r w c (ps.take i) := by
  simp only [valsL]
  rw [List.take_succ_eq_append_getElem h, List.filter_append, List.map_append]
  cases hb : hitB r w c ps[i] <;> simp [List.filter, hb]
theorem valsL_len (r : RollV) (w c : Int) (ps : List Plg) : (valsL r w c ps).length ≤ ps.length := by
  simp only [valsL, List.length_map]; exact List.length_filter_le _ _
def chk3 (l : LedV) (r : RollV) (ps : List Plg) : Int := if l.okB && r.okB && checkB ps then 0 else 14
def ofE (l : LedV) (r : RollV) (ps : List Plg) (w c : Int) : Int :=
  if chk3 l r ps != 0 then chk3 l r ps else if firstE r w c ps != 0 then firstE r w c ps else sumE (ofL ⟨2, w, c⟩ l.bs :: valsL r w c ps)
def ofN (l : LedV) (r : RollV) (ps : List Plg) (w c : Int) : Int :=
  if chk3 l r ps != 0 then 0 else if firstE r w c ps != 0 then 0 else sumN (ofL ⟨2, w, c⟩ l.bs :: valsL r w c ps)
theorem of_spec (l : LedV) (r : RollV) (ps : List Plg) (w c : Int) (hl : l.bs.length < 2 ^ 30) (hr : r.small) (hp : ps.length < 2 ^ 30) :
    Abs.Spec Try.prog 20 [] [.agg l.cells, .agg r.cells, .sl 3 (pl ps), .int .i64 w, .int .i64 c] [] (.tup [.int .i64 (ofN l r ps w c), .int .i64 (ofE l r ps w c)]) := by
  have h1 := ledCheck_spec l hl
  have h2 := rollCheck_spec r hr
  have h3 := plg_check ps (by omega)
  have h4 := ledOf_spec l ⟨2, w, c⟩ (by omega)
  have h5 := fun n => rollAsset_spec r n hr
  simp only [LedV.cells, AcctV.cells] at h1 h4 ⊢
  simp only [RollV.cells] at h2 h5 ⊢
  refine Abs.Spec.go (n := 85) (np := 5) (rs := [.tmp 10, .tmp 11]) mixed Try.func20 rfl rfl rfl rfl rfl (by simp) (by simp) ?_
  simp only [go_sem, Nat.reduceAdd, Nat.reduceSub, Nat.reduceMul, Nat.reducePow, Nat.reduceEqDiff, Nat.reduceLT, Nat.reduceLeDiff, Nat.reduceBEq, Nat.reduceBNe, Int.reduceToNat, Int.reduceLT, Int.reduceLE, Int.reduceEq, Int.reduceBNe, Int.reduceBEq, Int.reduceAdd, Int.reduceSub, Int.reduceMul, Int.reduceNeg, ↓reduceIte]
  refine CallN.pure h1 ?_
  cases b1 : l.okB
  · have e : chk3 l r ps = 14 := by simp [chk3, b1]
    have e1 : ofE l r ps w c = 14 := by simp [ofE, e]
    have e2 : ofN l r ps w c = 0 := by simp [ofN, e]
    simp only [go_sem, Nat.reduceAdd, Nat.reduceSub, Nat.reduceMul, Nat.reducePow, Nat.reduceEqDiff, Nat.reduceLT, Nat.reduceLeDiff, Nat.reduceBEq, Nat.reduceBNe, Int.reduceToNat, Int.reduceLT, Int.reduceLE, Int.reduceEq, Int.reduceBNe, Int.reduceBEq, Int.reduceAdd, Int.reduceSub, Int.reduceMul, Int.reduceNeg, ↓reduceIte, e1, e2]
  simp only [go_sem, Nat.reduceAdd, Nat.reduceSub, Nat.reduceMul, Nat.reducePow, Nat.reduceEqDiff, Nat.reduceLT, Nat.reduceLeDiff, Nat.reduceBEq, Nat.reduceBNe, Int.reduceToNat, Int.reduceLT, Int.reduceLE, Int.reduceEq, Int.reduceBNe, Int.reduceBEq, Int.reduceAdd, Int.reduceSub, Int.reduceMul, Int.reduceNeg, ↓reduceIte]
  refine CallN.pure h2 ?_
  cases b2 : r.okB
  · have e : chk3 l r ps = 14 := by simp [chk3, b2]
    have e1 : ofE l r ps w c = 14 := by simp [ofE, e]
    have e2 : ofN l r ps w c = 0 := by simp [ofN, e]
    simp only [go_sem, Nat.reduceAdd, Nat.reduceSub, Nat.reduceMul, Nat.reducePow, Nat.reduceEqDiff, Nat.reduceLT, Nat.reduceLeDiff, Nat.reduceBEq, Nat.reduceBNe, Int.reduceToNat, Int.reduceLT, Int.reduceLE, Int.reduceEq, Int.reduceBNe, Int.reduceBEq, Int.reduceAdd, Int.reduceSub, Int.reduceMul, Int.reduceNeg, ↓reduceIte, e1, e2]
  simp only [go_sem, Nat.reduceAdd, Nat.reduceSub, Nat.reduceMul, Nat.reducePow, Nat.reduceEqDiff, Nat.reduceLT, Nat.reduceLeDiff, Nat.reduceBEq, Nat.reduceBNe, Int.reduceToNat, Int.reduceLT, Int.reduceLE, Int.reduceEq, Int.reduceBNe, Int.reduceBEq, Int.reduceAdd, Int.reduceSub, Int.reduceMul, Int.reduceNeg, ↓reduceIte]
  refine CallN.pure h3 ?_
  cases b3 : checkB ps
  · have e : chk3 l r ps = 14 := by simp [chk3, b3]
    have e1 : ofE l r ps w c = 14 := by simp [ofE, e]
    have e2 : ofN l r ps w c = 0 := by simp [ofN, e]
    simp only [go_sem, Nat.reduceAdd, Nat.reduceSub, Nat.reduceMul, Nat.reducePow, Nat.reduceEqDiff, Nat.reduceLT, Nat.reduceLeDiff, Nat.reduceBEq, Nat.reduceBNe, Int.reduceToNat, Int.reduceLT, Int.reduceLE, Int.reduceEq, Int.reduceBNe, Int.reduceBEq, Int.reduceAdd, Int.reduceSub, Int.reduceMul, Int.reduceNeg, ↓reduceIte, e1, e2]
  have e : chk3 l r ps = 0 := by simp [chk3, b1, b2, b3]
  have e1 : ofE l r ps w c = if firstE r w c ps != 0 then firstE r w c ps else sumE (ofL ⟨2, w, c⟩ l.bs :: valsL r w c ps) := by simp [ofE, e]
  have e2 : ofN l r ps w c = if firstE r w c ps != 0 then 0 else sumN (ofL ⟨2, w, c⟩ l.bs :: valsL r w c ps) := by simp [ofN, e]
  rw [e1, e2]
  clear e1 e2 e
  simp only [go_sem, Nat.reduceAdd, Nat.reduceSub, Nat.reduceMul, Nat.reducePow, Nat.reduceEqDiff, Nat.reduceLT, Nat.reduceLeDiff, Nat.reduceBEq, Nat.reduceBNe, Int.reduceToNat, Int.reduceLT, Int.reduceLE, Int.reduceEq, Int.reduceBNe, Int.reduceBEq, Int.reduceAdd, Int.reduceSub, Int.reduceMul, Int.reduceNeg, ↓reduceIte]
  refine CallN.pure h4 ?_
  obtain ⟨o, ho⟩ : ∃ o, o = ofL ⟨2, w, c⟩ l.bs := ⟨_, rfl⟩
  rw [← ho]
  simp only [go_sem, Nat.reduceAdd, Nat.reduceSub, Nat.reduceMul, Nat.reducePow, Nat.reduceEqDiff, Nat.reduceLT, Nat.reduceLeDiff, Nat.reduceBEq, Nat.reduceBNe, Int.reduceToNat, Int.reduceLT, Int.reduceLE, Int.reduceEq, Int.reduceBNe, Int.reduceBEq, Int.reduceAdd, Int.reduceSub, Int.reduceMul, Int.reduceNeg, ↓reduceIte]
  refine LoopK.count ps.length [3, 4, 6, 39, 40] [112] (fun i => [(41, .int .i64 i), (13, .ref 1280)]) (fun i => [(1280, .own 1 (ints (o :: valsL r w c (ps.take i))))]) (fun i => firstE r w c (ps.drop i) = firstE r w c ps) (by simp only [go_sem, Nat.reduceAdd, Nat.reduceSub, Nat.reduceMul, Nat.reducePow, Nat.reduceEqDiff, Nat.reduceLT, Nat.reduceLeDiff, Nat.reduceBEq, Nat.reduceBNe, Int.reduceToNat, Int.reduceLT, Int.reduceLE, Int.reduceEq, Int.reduceBNe, Int.reduceBEq, Int.reduceAdd, Int.reduceSub, Int.reduceMul, Int.reduceNeg, ↓reduceIte] <;> exact rfl) (by simp only [go_sem, Nat.reduceAdd, Nat.reduceSub, Nat.reduceMul, Nat.reducePow, Nat.reduceEqDiff, Nat.reduceLT, Nat.reduceLeDiff, Nat.reduceBEq, Nat.reduceBNe, Int.reduceToNat, Int.reduceLT, Int.reduceLE, Int.reduceEq, Int.reduceBNe, Int.reduceBEq, Int.reduceAdd, Int.reduceSub, Int.reduceMul, Int.reduceNeg, ↓reduceIte] <;> exact rfl) (by simp) ?_ ?_
  · simp only [go_sem, Nat.reduceAdd, Nat.reduceSub, Nat.reduceMul, Nat.reducePow, Nat.reduceEqDiff, Nat.reduceLT, Nat.reduceLeDiff, Nat.reduceBEq, Nat.reduceBNe, Int.reduceToNat, Int.reduceLT, Int.reduceLE, Int.reduceEq, Int.reduceBNe, Int.reduceBEq, Int.reduceAdd, Int.reduceSub, Int.reduceMul, Int.reduceNeg, ↓reduceIte] <;> simp [valsL, ints]
  · intro i hi hI
    simp only [go_sem, Nat.reduceAdd, Nat.reduceSub, Nat.reduceMul, Nat.reducePow, Nat.reduceEqDiff, Nat.reduceLT, Nat.reduceLeDiff, Nat.reduceBEq, Nat.reduceBNe, Int.reduceToNat, Int.reduceLT, Int.reduceLE, Int.reduceEq, Int.reduceBNe, Int.reduceBEq, Int.reduceAdd, Int.reduceSub, Int.reduceMul, Int.reduceNeg, ↓reduceIte]
    refine CondE.splitD (fun h => ?_) (fun h => ?_)
    · have hi' : i < ps.length := by omega
      have hw : IntKind.wrap .i64 ((i : Int) + 1) = ((i + 1 : Nat) : Int) := by rw [wr64 (by omega) (by omega)]; omega
      have hstep := valsL_step r w c ps hi'
      have hA := h5 ps[i].asset
      have hvl := valsL_len r w c (ps.take i)
      have htl : (ps.take i).length ≤ ps.length := by simp; omega
      rw [getD_pl hi'] at hI
      simp only [firstE] at hI
      obtain ⟨a, ha⟩ : ∃ a, a = astOf r ps[i] := ⟨_, rfl⟩
      have ha' : getL AssetV.a ps[i].asset ⟨0, 0, 0, 0⟩ r.xs = a := ha.symm
      rw [ha'] at hA
      rw [← ha] at hI hstep
      have hh : hitB r w c ps[i] = (decide (0 ≤ posL AssetV.a ps[i].asset r.xs) && (ps[i].who == w && a.b == c)) := by rw [ha]; rfl
      have hv := value_spec a ps[i].units
      simp only [AssetV.cells] at hA hv
      clear h1 h2 h3 h4 h5
      simp only [go_sem, Nat.reduceAdd, Nat.reduceSub, Nat.reduceMul, Nat.reducePow, Nat.reduceEqDiff, Nat.reduceLT, Nat.reduceLeDiff, Nat.reduceBEq, Nat.reduceBNe, Int.reduceToNat, Int.reduceLT, Int.reduceLE, Int.reduceEq, Int.reduceBNe, Int.reduceBEq, Int.reduceAdd, Int.reduceSub, Int.reduceMul, Int.reduceNeg, ↓reduceIte, pl_at ps hi']
      refine ⟨by omega, CallN.pure hA ?_⟩
      cases p1 : decide (0 ≤ posL AssetV.a ps[i].asset r.xs)
      · rw [hh, p1] at hI hstep
        simp only [Bool.false_and, Bool.false_eq_true, if_false] at hI hstep
        simp only [go_sem, Nat.reduceAdd, Nat.reduceSub, Nat.reduceMul, Nat.reducePow, Nat.reduceEqDiff, Nat.reduceLT, Nat.reduceLeDiff, Nat.reduceBEq, Nat.reduceBNe, Int.reduceToNat, Int.reduceLT, Int.reduceLE, Int.reduceEq, Int.reduceBNe, Int.reduceBEq, Int.reduceAdd, Int.reduceSub, Int.reduceMul, Int.reduceNeg, ↓reduceIte, p1, hw]
        refine RoundK.next hi' hI ?_
        simp only [go_sem, Nat.reduceAdd, Nat.reduceSub, Nat.reduceMul, Nat.reducePow, Nat.reduceEqDiff, Nat.reduceLT, Nat.reduceLeDiff, Nat.reduceBEq, Nat.reduceBNe, Int.reduceToNat, Int.reduceLT, Int.reduceLE, Int.reduceEq, Int.reduceBNe, Int.reduceBEq, Int.reduceAdd, Int.reduceSub, Int.reduceMul, Int.reduceNeg, ↓reduceIte, hstep]
      cases p2 : ps[i].who == w
      · rw [hh, p1, p2] at hI hstep
        simp only [Bool.false_and, Bool.true_and, Bool.false_eq_true, if_false] at hI hstep
        simp only [go_sem, Nat.reduceAdd, Nat.reduceSub, Nat.reduceMul, Nat.reducePow, Nat.reduceEqDiff, Nat.reduceLT, Nat.reduceLeDiff, Nat.reduceBEq, Nat.reduceBNe, Int.reduceToNat, Int.reduceLT, Int.reduceLE, Int.reduceEq, Int.reduceBNe, Int.reduceBEq, Int.reduceAdd, Int.reduceSub, Int.reduceMul, Int.reduceNeg, ↓reduceIte, p1, bne, p2, hw]
        refine RoundK.next hi' hI ?_
        simp only [go_sem, Nat.reduceAdd, Nat.reduceSub, Nat.reduceMul, Nat.reducePow, Nat.reduceEqDiff, Nat.reduceLT, Nat.reduceLeDiff, Nat.reduceBEq, Nat.reduceBNe, Int.reduceToNat, Int.reduceLT, Int.reduceLE, Int.reduceEq, Int.reduceBNe, Int.reduceBEq, Int.reduceAdd, Int.reduceSub, Int.reduceMul, Int.reduceNeg, ↓reduceIte, hstep]
      cases p3 : a.b == c
      · rw [hh, p1, p2, p3] at hI hstep
        simp only [Bool.false_and, Bool.true_and, Bool.false_eq_true, if_false] at hI hstep
        simp only [go_sem, Nat.reduceAdd, Nat.reduceSub, Nat.reduceMul, Nat.reducePow, Nat.reduceEqDiff, Nat.reduceLT, Nat.reduceLeDiff, Nat.reduceBEq, Nat.reduceBNe, Int.reduceToNat, Int.reduceLT, Int.reduceLE, Int.reduceEq, Int.reduceBNe, Int.reduceBEq, Int.reduceAdd, Int.reduceSub, Int.reduceMul, Int.reduceNeg, ↓reduceIte, p1, bne, p2, p3, hw]
        refine RoundK.next hi' hI ?_
        simp only [go_sem, Nat.reduceAdd, Nat.reduceSub, Nat.reduceMul, Nat.reducePow, Nat.reduceEqDiff, Nat.reduceLT, Nat.reduceLeDiff, Nat.reduceBEq, Nat.reduceBNe, Int.reduceToNat, Int.reduceLT, Int.reduceLE, Int.reduceEq, Int.reduceBNe, Int.reduceBEq, Int.reduceAdd, Int.reduceSub, Int.reduceMul, Int.reduceNeg, ↓reduceIte, hstep]
      rw [hh, p1, p2, p3] at hI hstep
      simp only [Bool.true_and, Bool.and_self, if_true] at hI hstep
      simp only [go_sem, Nat.reduceAdd, Nat.reduceSub, Nat.reduceMul, Nat.reducePow, Nat.reduceEqDiff, Nat.reduceLT, Nat.reduceLeDiff, Nat.reduceBEq, Nat.reduceBNe, Int.reduceToNat, Int.reduceLT, Int.reduceLE, Int.reduceEq, Int.reduceBNe, Int.reduceBEq, Int.reduceAdd, Int.reduceSub, Int.reduceMul, Int.reduceNeg, ↓reduceIte, p1, bne, p2, p3]
      refine CallN.pure hv ?_
      cases p4 : a.E ps[i].units == 0
      · have p4' : (a.E ps[i].units != 0) = true := by simp [bne, p4]
        rw [p4', if_pos rfl] at hI
        have hF : firstE r w c ps = a.E ps[i].units := hI.symm
        simp only [go_sem, Nat.reduceAdd, Nat.reduceSub, Nat.reduceMul, Nat.reducePow, Nat.reduceEqDiff, Nat.reduceLT, Nat.reduceLeDiff, Nat.reduceBEq, Nat.reduceBNe, Int.reduceToNat, Int.reduceLT, Int.reduceLE, Int.reduceEq, Int.reduceBNe, Int.reduceBEq, Int.reduceAdd, Int.reduceSub, Int.reduceMul, Int.reduceNeg, ↓reduceIte, bne, p4, hF, Bool.not_false, if_true]
      · have p4' : (a.E ps[i].units != 0) = false := by simp [bne, p4]
        rw [p4'] at hI
        simp only [Bool.false_eq_true, if_false] at hI
        simp only [go_sem, Nat.reduceAdd, Nat.reduceSub, Nat.reduceMul, Nat.reducePow, Nat.reduceEqDiff, Nat.reduceLT, Nat.reduceLeDiff, Nat.reduceBEq, Nat.reduceBNe, Int.reduceToNat, Int.reduceLT, Int.reduceLE, Int.reduceEq, Int.reduceBNe, Int.reduceBEq, Int.reduceAdd, Int.reduceSub, Int.reduceMul, Int.reduceNeg, ↓reduceIte, bne, p4, hw, ints_len]
        refine ⟨by omega, RoundK.next hi' hI ?_⟩
        simp only [go_sem, Nat.reduceAdd, Nat.reduceSub, Nat.reduceMul, Nat.reducePow, Nat.reduceEqDiff, Nat.reduceLT, Nat.reduceLeDiff, Nat.reduceBEq, Nat.reduceBNe, Int.reduceToNat, Int.reduceLT, Int.reduceLE, Int.reduceEq, Int.reduceBNe, Int.reduceBEq, Int.reduceAdd, Int.reduceSub, Int.reduceMul, Int.reduceNeg, ↓reduceIte, hstep] <;> simp [ints]
    · obtain rfl : i = ps.length := by omega
      simp only [List.drop_length, firstE] at hI
      have hlen := valsL_len r w c ps
      have hs := sum_spec (o :: valsL r w c ps) (by simp; omega)
      rw [← hI]
      simp only [go_sem, Nat.reduceAdd, Nat.reduceSub, Nat.reduceMul, Nat.reducePow, Nat.reduceEqDiff, Nat.reduceLT, Nat.reduceLeDiff, Nat.reduceBEq, Nat.reduceBNe, Int.reduceToNat, Int.reduceLT, Int.reduceLE, Int.reduceEq, Int.reduceBNe, Int.reduceBEq, Int.reduceAdd, Int.reduceSub, Int.reduceMul, Int.reduceNeg, ↓reduceIte, List.take_length]
      refine CallN.gen [] [] true (by simp) ?_
      simp only [go_sem, Nat.reduceAdd, Nat.reduceSub, Nat.reduceMul, Nat.reducePow, Nat.reduceEqDiff, Nat.reduceLT, Nat.reduceLeDiff, Nat.reduceBEq, Nat.reduceBNe, Int.reduceToNat, Int.reduceLT, Int.reduceLE, Int.reduceEq, Int.reduceBNe, Int.reduceBEq, Int.reduceAdd, Int.reduceSub, Int.reduceMul, Int.reduceNeg, ↓reduceIte]
      refine CallG.intro hs ?_
      simp only [go_sem, Nat.reduceAdd, Nat.reduceSub, Nat.reduceMul, Nat.reducePow, Nat.reduceEqDiff, Nat.reduceLT, Nat.reduceLeDiff, Nat.reduceBEq, Nat.reduceBNe, Int.reduceToNat, Int.reduceLT, Int.reduceLE, Int.reduceEq, Int.reduceBNe, Int.reduceBEq, Int.reduceAdd, Int.reduceSub, Int.reduceMul, Int.reduceNeg, ↓reduceIte] <;> simp
end Go.Proofs.Ytbllopdcbkeadaa
