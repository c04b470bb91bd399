/- Ledgers: what is read of them, when they are right; no theorem of a claim. -/
import Derived.Test.YtbllopdcbkeadaaC3
set_option linter.unusedSimpArgs false
set_option linter.unusedVariables false
namespace Go.Proofs.Ytbllopdcbkeadaa
open Go.Abs
theorem rollAsset_spec (r : RollV) (n : Int) (hl : r.small) : Abs.Spec Try.prog 46 [] [.agg r.cells, .int .i64 n] [] (.tup [.agg (getL AssetV.a n ⟨0, 0, 0, 0⟩ r.xs).cells, .bool (decide (0 ≤ posL AssetV.a n r.xs))]) := by
  have hf := findAsset_spec r.xs n (by have := hl.2.2; omega)
  simp only [AssetV.cells] at hf ⊢
  simp only [RollV.cells, AssetV.cells]
  refine Abs.Spec.go (n := 18) (np := 2) (rs := [.cell 4 32, .tmp 5]) mixed Try.func46 rfl rfl rfl rfl rfl (by simp) (by simp) ?_
  simp only [go_sem, Nat.reduceAdd, Nat.reduceSub, Nat.reduceMul, Nat.reducePow, Nat.reduceEqDiff, Nat.reduceLT, Nat.reduceLeDiff, Nat.reduceBEq, Nat.reduceBNe, Int.reduceToNat, Int.reduceLT, Int.reduceLE, Int.reduceEq, Int.reduceBNe, Int.reduceBEq, Int.reduceAdd, Int.reduceSub, Int.reduceMul, Int.reduceNeg, ↓reduceIte]
  refine CallN.pure hf ?_
  simp only [go_sem, Nat.reduceAdd, Nat.reduceSub, Nat.reduceMul, Nat.reducePow, Nat.reduceEqDiff, Nat.reduceLT, Nat.reduceLeDiff, Nat.reduceBEq, Nat.reduceBNe, Int.reduceToNat, Int.reduceLT, Int.reduceLE, Int.reduceEq, Int.reduceBNe, Int.reduceBEq, Int.reduceAdd, Int.reduceSub, Int.reduceMul, Int.reduceNeg, ↓reduceIte]
structure BalV where
  kind : Int
  who : Int
  cur : Int
  sum : Int
@[reducible] def BalV.cells (x : BalV) : List D := [.int .i64 x.kind, .int .i64 x.who, .int .i64 x.cur, .int .i64 x.sum]
def BalV.acct (x : BalV) : AcctV := ⟨x.kind, x.who, x.cur⟩
structure LedV where
  last : Int
  bs : List BalV
def LedV.cells (l : LedV) : List D := [.int .i64 l.last, .sl 4 (l.bs.map BalV.cells)]
def isB (a : AcctV) (b : BalV) : Bool := b.kind == a.kind && (b.who == a.who && b.cur == a.cur)
def ofL (a : AcctV) : List BalV → Int
  | [] => 0
  | b :: r => if isB a b then b.sum else ofL a r
theorem ledOf_spec (l : LedV) (a : AcctV) (hl : l.bs.length < 2 ^ 60) : Abs.Spec Try.prog 45 [] [.agg l.cells, .agg a.cells] [] (.int .i64 (ofL a l.bs)) := by
  simp only [LedV.cells, AcctV.cells]
  refine Abs.Spec.go (n := 21) (np := 2) (rs := [.tmp 4]) mixed Try.func45 rfl rfl rfl rfl rfl (by simp) (by simp) ?_
  simp only [go_sem, Nat.reduceAdd, Nat.reduceSub, Nat.reduceMul, Nat.reducePow, Nat.reduceEqDiff, Nat.reduceLT, Nat.reduceLeDiff, Nat.reduceBEq, Nat.reduceBNe, Int.reduceToNat, Int.reduceLT, Int.reduceLE, Int.reduceEq, Int.reduceBNe, Int.reduceBEq, Int.reduceAdd, Int.reduceSub, Int.reduceMul, Int.reduceNeg, ↓reduceIte, List.length_map]
  refine LoopK.count l.bs.length [3, 8, 9] [48, 64, 160] (fun i => [(10, .int .i64 i)]) (fun i => []) (fun i => ofL a (l.bs.drop i) = ofL a l.bs) (by simp only [go_sem, Nat.reduceAdd, Nat.reduceSub, Nat.reduceMul, Nat.reducePow, Nat.reduceEqDiff, Nat.reduceLT, Nat.reduceLeDiff, Nat.reduceBEq, Nat.reduceBNe, Int.reduceToNat, Int.reduceLT, Int.reduceLE, Int.reduceEq, Int.reduceBNe, Int.reduceBEq, Int.reduceAdd, Int.reduceSub, Int.reduceMul, Int.reduceNeg, ↓reduceIte] <;> exact rfl) (by simp only [go_sem, Nat.reduceAdd, Nat.reduceSub, Nat.reduceMul, Nat.reducePow, Nat.reduceEqDiff, Nat.reduceLT, Nat.reduceLeDiff, Nat.reduceBEq, Nat.reduceBNe, Int.reduceToNat, Int.reduceLT, Int.reduceLE, Int.reduceEq, Int.reduceBNe, Int.reduceBEq, Int.reduceAdd, Int.reduceSub, Int.reduceMul, Int.reduceNeg, ↓reduceIte] <;> exact rfl) (by simp) ?_ ?_
  · simp only [go_sem, Nat.reduceAdd, Nat.reduceSub, Nat.reduceMul, Nat.reducePow, Nat.reduceEqDiff, Nat.reduceLT, Nat.reduceLeDiff, Nat.reduceBEq, Nat.reduceBNe, Int.reduceToNat, Int.reduceLT, Int.reduceLE, Int.reduceEq, Int.reduceBNe, Int.reduceBEq, Int.reduceAdd, Int.reduceSub, Int.reduceMul, Int.reduceNeg, ↓reduceIte] <;> simp
  · intro i hi hI
    simp only [go_sem, Nat.reduceAdd, Nat.reduceSub, Nat.reduceMul, Nat.reducePow, Nat.reduceEqDiff, Nat.reduceLT, Nat.reduceLeDiff, Nat.reduceBEq, Nat.reduceBNe, Int.reduceToNat, Int.reduceLT, Int.reduceLE, Int.reduceEq, Int.reduceBNe, Int.reduceBEq, Int.reduceAdd, Int.reduceSub, Int.reduceMul, Int.reduceNeg, ↓reduceIte]
    refine CondE.splitD (fun h => ?_) (fun h => ?_)
    · have hi' : i < l.bs.length := by omega
      have hw : IntKind.wrap .i64 ((i : Int) + 1) = ((i + 1 : Nat) : Int) := by rw [wr64 (by omega) (by omega)]; omega
      have hm := map_at (c := BalV.cells) l.bs hi'
      rw [List.drop_eq_getElem_cons hi'] at hI
      simp only [ofL] at hI
      simp only [BalV.cells] at hm
      simp only [go_sem, Nat.reduceAdd, Nat.reduceSub, Nat.reduceMul, Nat.reducePow, Nat.reduceEqDiff, Nat.reduceLT, Nat.reduceLeDiff, Nat.reduceBEq, Nat.reduceBNe, Int.reduceToNat, Int.reduceLT, Int.reduceLE, Int.reduceEq, Int.reduceBNe, Int.reduceBEq, Int.reduceAdd, Int.reduceSub, Int.reduceMul, Int.reduceNeg, ↓reduceIte, hm]
      refine ⟨by omega, ?_⟩
      refine CondE.split (fun hb => ?_) (fun hb => ?_)
      · rw [if_pos (show isB a l.bs[i] = true from hb)] at hI
        simp only [go_sem, Nat.reduceAdd, Nat.reduceSub, Nat.reduceMul, Nat.reducePow, Nat.reduceEqDiff, Nat.reduceLT, Nat.reduceLeDiff, Nat.reduceBEq, Nat.reduceBNe, Int.reduceToNat, Int.reduceLT, Int.reduceLE, Int.reduceEq, Int.reduceBNe, Int.reduceBEq, Int.reduceAdd, Int.reduceSub, Int.reduceMul, Int.reduceNeg, ↓reduceIte, hI]
      · rw [show isB a l.bs[i] = false from hb] at hI
        simp only [Bool.false_eq_true, if_false] at hI
        simp only [go_sem, Nat.reduceAdd, Nat.reduceSub, Nat.reduceMul, Nat.reducePow, Nat.reduceEqDiff, Nat.reduceLT, Nat.reduceLeDiff, Nat.reduceBEq, Nat.reduceBNe, Int.reduceToNat, Int.reduceLT, Int.reduceLE, Int.reduceEq, Int.reduceBNe, Int.reduceBEq, Int.reduceAdd, Int.reduceSub, Int.reduceMul, Int.reduceNeg, ↓reduceIte, hw]
        refine RoundK.next hi' hI ?_
        simp only [go_sem, Nat.reduceAdd, Nat.reduceSub, Nat.reduceMul, Nat.reducePow, Nat.reduceEqDiff, Nat.reduceLT, Nat.reduceLeDiff, Nat.reduceBEq, Nat.reduceBNe, Int.reduceToNat, Int.reduceLT, Int.reduceLE, Int.reduceEq, Int.reduceBNe, Int.reduceBEq, Int.reduceAdd, Int.reduceSub, Int.reduceMul, Int.reduceNeg, ↓reduceIte]
    · obtain rfl : i = l.bs.length := by omega
      simp only [List.drop_length, ofL] at hI
      simp only [go_sem, Nat.reduceAdd, Nat.reduceSub, Nat.reduceMul, Nat.reducePow, Nat.reduceEqDiff, Nat.reduceLT, Nat.reduceLeDiff, Nat.reduceBEq, Nat.reduceBNe, Int.reduceToNat, Int.reduceLT, Int.reduceLE, Int.reduceEq, Int.reduceBNe, Int.reduceBEq, Int.reduceAdd, Int.reduceSub, Int.reduceMul, Int.reduceNeg, ↓reduceIte, hI]
/-- what the accounts of a currency hold -/
def curL (c : Int) (bs : List BalV) : List Int := (bs.filter fun b => b.cur == c).map BalV.sum
theorem curL_step (c : Int) (bs : List BalV) {i : Nat} (h : i < bs.length) : curL c (bs.take (i + 1)) = if bs[i].cur == c then curL c (bs.take i) ++ [bs[i].sum] else curL c (bs.take i) := by
  simp only [curL]
  rw [List.take_succ_eq_append_getElem h, List.filter_append, List.map_append]
  cases hb : bs[i].cur == c <;> simp [List.filter, hb]
theorem curL_len (c : Int) (bs : List BalV) : (curL c bs).length ≤ bs.length := by
  simp only [curL, List.length_map]; exact List.length_filter_le _ _
theorem checkTrue_spec (x : Int) : Abs.Spec Try.prog 93 [] [.int .i64 x] [] (.bool true) := by
  refine Abs.Spec.go (n := 3) (np := 1) (rs := [.tmp 2]) mixed Try.func93 rfl rfl rfl rfl rfl (by simp) (by simp) ?_
  simp only [go_sem, Nat.reduceAdd, Nat.reduceSub, Nat.reduceMul, Nat.reducePow, Nat.reduceEqDiff, Nat.reduceLT, Nat.reduceLeDiff, Nat.reduceBEq, Nat.reduceBNe, Int.reduceToNat, Int.reduceLT, Int.reduceLE, Int.reduceEq, Int.reduceBNe, Int.reduceBEq, Int.reduceAdd, Int.reduceSub, Int.reduceMul, Int.reduceNeg, ↓reduceIte]
theorem sums_spec (l : LedV) (c : Int) (hl : l.bs.length < 2 ^ 30) : Abs.Spec Try.prog 92 [] [.agg l.cells, .int .i64 c, .fn 93 []] [.own 1 (ints (curL c l.bs))] (.ref 0) := by
  simp only [LedV.cells]
  refine Abs.Spec.go (n := 36) (np := 3) (rs := [.tmp 6]) mixed Try.func92 rfl rfl rfl rfl rfl (by simp) (by simp) ?_
  simp only [go_sem, Nat.reduceAdd, Nat.reduceSub, Nat.reduceMul, Nat.reducePow, Nat.reduceEqDiff, Nat.reduceLT, Nat.reduceLeDiff, Nat.reduceBEq, Nat.reduceBNe, Int.reduceToNat, Int.reduceLT, Int.reduceLE, Int.reduceEq, Int.reduceBNe, Int.reduceBEq, Int.reduceAdd, Int.reduceSub, Int.reduceMul, Int.reduceNeg, ↓reduceIte, List.length_map]
  refine LoopK.count l.bs.length [1, 2, 11, 12] [64, 208] (fun i => [(13, .int .i64 i), (7, .ref 544)]) (fun i => [(544, .own 1 (ints (curL c (l.bs.take i))))]) (fun i => True) (by simp only [go_sem, Nat.reduceAdd, Nat.reduceSub, Nat.reduceMul, Nat.reducePow, Nat.reduceEqDiff, Nat.reduceLT, Nat.reduceLeDiff, Nat.reduceBEq, Nat.reduceBNe, Int.reduceToNat, Int.reduceLT, Int.reduceLE, Int.reduceEq, Int.reduceBNe, Int.reduceBEq, Int.reduceAdd, Int.reduceSub, Int.reduceMul, Int.reduceNeg, ↓reduceIte] <;> exact rfl) (by simp only [go_sem, Nat.reduceAdd, Nat.reduceSub, Nat.reduceMul, Nat.reducePow, Nat.reduceEqDiff, Nat.reduceLT, Nat.reduceLeDiff, Nat.reduceBEq, Nat.reduceBNe, Int.reduceToNat, Int.reduceLT, Int.reduceLE, Int.reduceEq, Int.reduceBNe, Int.reduceBEq, Int.reduceAdd, Int.reduceSub, Int.reduceMul, Int.reduceNeg, ↓reduceIte] <;> exact rfl) trivial ?_ ?_
  · simp only [go_sem, Nat.reduceAdd, Nat.reduceSub, Nat.reduceMul, Nat.reducePow, Nat.reduceEqDiff, Nat.reduceLT, Nat.reduceLeDiff, Nat.reduceBEq, Nat.reduceBNe, Int.reduceToNat, Int.reduceLT, Int.reduceLE, Int.reduceEq, Int.reduceBNe, Int.reduceBEq, Int.reduceAdd, Int.reduceSub, Int.reduceMul, Int.reduceNeg, ↓reduceIte] <;> simp [curL, ints]
  · intro i hi _
    simp only [go_sem, Nat.reduceAdd, Nat.reduceSub, Nat.reduceMul, Nat.reducePow, Nat.reduceEqDiff, Nat.reduceLT, Nat.reduceLeDiff, Nat.reduceBEq, Nat.reduceBNe, Int.reduceToNat, Int.reduceLT, Int.reduceLE, Int.reduceEq, Int.reduceBNe, Int.reduceBEq, Int.reduceAdd, Int.reduceSub, Int.reduceMul, Int.reduceNeg, ↓reduceIte]
    refine CondE.splitD (fun h => ?_) (fun h => ?_)
    · have hi' : i < l.bs.length := by omega
      have hw : IntKind.wrap .i64 ((i : Int) + 1) = ((i + 1 : Nat) : Int) := by rw [wr64 (by omega) (by omega)]; omega
      have hm := map_at (c := BalV.cells) l.bs hi'
      have hs := curL_step c l.bs hi'
      have hlen := curL_len c (l.bs.take i)
      have hlt : (l.bs.take i).length ≤ l.bs.length := by simp; omega
      simp only [BalV.cells] at hm
      simp only [go_sem, Nat.reduceAdd, Nat.reduceSub, Nat.reduceMul, Nat.reducePow, Nat.reduceEqDiff, Nat.reduceLT, Nat.reduceLeDiff, Nat.reduceBEq, Nat.reduceBNe, Int.reduceToNat, Int.reduceLT, Int.reduceLE, Int.reduceEq, Int.reduceBNe, Int.reduceBEq, Int.reduceAdd, Int.reduceSub, Int.reduceMul, Int.reduceNeg, ↓reduceIte, hm]
      refine ⟨by omega, ?_⟩
      cases hb : l.bs[i].cur == c
      · rw [hb] at hs
        simp only [Bool.false_eq_true, if_false] at hs
        simp only [go_sem, Nat.reduceAdd, Nat.reduceSub, Nat.reduceMul, Nat.reducePow, Nat.reduceEqDiff, Nat.reduceLT, Nat.reduceLeDiff, Nat.reduceBEq, Nat.reduceBNe, Int.reduceToNat, Int.reduceLT, Int.reduceLE, Int.reduceEq, Int.reduceBNe, Int.reduceBEq, Int.reduceAdd, Int.reduceSub, Int.reduceMul, Int.reduceNeg, ↓reduceIte, hw]
        refine RoundK.next hi' trivial ?_
        simp only [go_sem, Nat.reduceAdd, Nat.reduceSub, Nat.reduceMul, Nat.reducePow, Nat.reduceEqDiff, Nat.reduceLT, Nat.reduceLeDiff, Nat.reduceBEq, Nat.reduceBNe, Int.reduceToNat, Int.reduceLT, Int.reduceLE, Int.reduceEq, Int.reduceBNe, Int.reduceBEq, Int.reduceAdd, Int.reduceSub, Int.reduceMul, Int.reduceNeg, ↓reduceIte, hs]
      · rw [hb, if_pos rfl] at hs
        have hk := checkTrue_spec l.bs[i].kind
        simp only [go_sem, Nat.reduceAdd, Nat.reduceSub, Nat.reduceMul, Nat.reducePow, Nat.reduceEqDiff, Nat.reduceLT, Nat.reduceLeDiff, Nat.reduceBEq, Nat.reduceBNe, Int.reduceToNat, Int.reduceLT, Int.reduceLE, Int.reduceEq, Int.reduceBNe, Int.reduceBEq, Int.reduceAdd, Int.reduceSub, Int.reduceMul, Int.reduceNeg, ↓reduceIte]
        refine CallN.pure hk ?_
        simp only [go_sem, Nat.reduceAdd, Nat.reduceSub, Nat.reduceMul, Nat.reducePow, Nat.reduceEqDiff, Nat.reduceLT, Nat.reduceLeDiff, Nat.reduceBEq, Nat.reduceBNe, Int.reduceToNat, Int.reduceLT, Int.reduceLE, Int.reduceEq, Int.reduceBNe, Int.reduceBEq, Int.reduceAdd, Int.reduceSub, Int.reduceMul, Int.reduceNeg, ↓reduceIte, hw, ints_len]
        refine ⟨by omega, RoundK.next hi' trivial ?_⟩
        simp only [go_sem, Nat.reduceAdd, Nat.reduceSub, Nat.reduceMul, Nat.reducePow, Nat.reduceEqDiff, Nat.reduceLT, Nat.reduceLeDiff, Nat.reduceBEq, Nat.reduceBNe, Int.reduceToNat, Int.reduceLT, Int.reduceLE, Int.reduceEq, Int.reduceBNe, Int.reduceBEq, Int.reduceAdd, Int.reduceSub, Int.reduceMul, Int.reduceNeg, ↓reduceIte, hs] <;> simp [ints]
    · obtain rfl : i = l.bs.length := by omega
      simp only [go_sem, Nat.reduceAdd, Nat.reduceSub, Nat.reduceMul, Nat.reducePow, Nat.reduceEqDiff, Nat.reduceLT, Nat.reduceLeDiff, Nat.reduceBEq, Nat.reduceBNe, Int.reduceToNat, Int.reduceLT, Int.reduceLE, Int.reduceEq, Int.reduceBNe, Int.reduceBEq, Int.reduceAdd, Int.reduceSub, Int.reduceMul, Int.reduceNeg, ↓reduceIte, List.take_length]
def balOk (b : BalV) : Bool := b.acct.right && (inR b.sum && (b.sum != 0 && !decide (b.sum < b.acct.floor)))
def ledAt (bs : List BalV) (i : Nat) : Bool :=
  match bs[i]? with
  | none => true
  | some b => balOk b && (match i with
    | 0 => true
    | j + 1 => match bs[j]? with
      | some q => q.acct.less b.acct
      | none => true)
theorem ledAt_zero {bs : List BalV} (h : 0 < bs.length) : ledAt bs 0 = balOk bs[0] := by simp [ledAt, h]
theorem ledAt_succ {bs : List BalV} {j : Nat} (h : j + 1 < bs.length) : ledAt bs (j + 1) = (balOk bs[j + 1] && (bs[j]'(by omega)).acct.less bs[j + 1].acct) := by
  have h' : j < bs.length := by omega
  simp [ledAt, h, h']
def ledSorted (bs : List BalV) : Bool := (List.range bs.length).all (ledAt bs)
theorem ledSorted_no {bs : List BalV} {i : Nat} (h : i < bs.length) (hn : ledAt bs i = false) : ledSorted bs = false := by
  cases hc : ledSorted bs
  · rfl
  · rw [List.all_eq_true.1 hc i (List.mem_range.2 h)] at hn; cases hn
theorem ledSorted_yes {bs : List BalV} (h : ∀ i < bs.length, ledAt bs i = true) : ledSorted bs = true := List.all_eq_true.2 fun i hi => h i (List.mem_range.1 hi)
def balL (bs : List BalV) (c : Int) : Bool := sumE (curL c bs) == 0 && sumN (curL c bs) == 0
def LedV.okB (l : LedV) : Bool := decide (0 ≤ l.last) && ledSorted l.bs && (balL l.bs 0 && balL l.bs 1 && balL l.bs 2)
set_option maxRecDepth 8000 in
theorem ledCheck_spec (l : LedV) (hl : l.bs.length < 2 ^ 30) : Abs.Spec Try.prog 44 [] [.agg l.cells] [] (.int .i64 (if l.okB then 0 else 14)) := by
  have hsums := fun c => sums_spec l c hl
  simp only [LedV.cells] at hsums ⊢
  refine Abs.Spec.go (n := 78) (np := 1) (rs := [.tmp 2]) mixed Try.func44 rfl rfl rfl rfl rfl (by simp) (by simp) ?_
  simp only [go_sem, Nat.reduceAdd, Nat.reduceSub, Nat.reduceMul, Nat.reducePow, Nat.reduceEqDiff, Nat.reduceLT, Nat.reduceLeDiff, Nat.reduceBEq, Nat.reduceBNe, Int.reduceToNat, Int.reduceLT, Int.reduceLE, Int.reduceEq, Int.reduceBNe, Int.reduceBEq, Int.reduceAdd, Int.reduceSub, Int.reduceMul, Int.reduceNeg, ↓reduceIte, List.length_map]
  rcases Int.lt_or_le l.last 0 with h0 | h0
  · have d0 : decide (l.last < 0) = true := by simpa using h0
    have e : l.okB = false := by simp [LedV.okB]; omega
    simp only [go_sem, Nat.reduceAdd, Nat.reduceSub, Nat.reduceMul, Nat.reducePow, Nat.reduceEqDiff, Nat.reduceLT, Nat.reduceLeDiff, Nat.reduceBEq, Nat.reduceBNe, Int.reduceToNat, Int.reduceLT, Int.reduceLE, Int.reduceEq, Int.reduceBNe, Int.reduceBEq, Int.reduceAdd, Int.reduceSub, Int.reduceMul, Int.reduceNeg, ↓reduceIte, d0, e] <;> simp
  have d0 : decide (l.last < 0) = false := by simpa using h0
  simp only [go_sem, Nat.reduceAdd, Nat.reduceSub, Nat.reduceMul, Nat.reducePow, Nat.reduceEqDiff, Nat.reduceLT, Nat.reduceLeDiff, Nat.reduceBEq, Nat.reduceBNe, Int.reduceToNat, Int.reduceLT, Int.reduceLE, Int.reduceEq, Int.reduceBNe, Int.reduceBEq, Int.reduceAdd, Int.reduceSub, Int.reduceMul, Int.reduceNeg, ↓reduceIte, d0, List.length_map]
  refine LoopK.count l.bs.length [1, 12, 13] [32, 224] (fun i => [(14, .int .i64 i)]) (fun i => []) (fun i => ∀ j < i, ledAt l.bs j = true) (by simp only [go_sem, Nat.reduceAdd, Nat.reduceSub, Nat.reduceMul, Nat.reducePow, Nat.reduceEqDiff, Nat.reduceLT, Nat.reduceLeDiff, Nat.reduceBEq, Nat.reduceBNe, Int.reduceToNat, Int.reduceLT, Int.reduceLE, Int.reduceEq, Int.reduceBNe, Int.reduceBEq, Int.reduceAdd, Int.reduceSub, Int.reduceMul, Int.reduceNeg, ↓reduceIte] <;> exact rfl) (by simp only [go_sem, Nat.reduceAdd, Nat.reduceSub, Nat.reduceMul, Nat.reducePow, Nat.reduceEqDiff, Nat.reduceLT, Nat.reduceLeDiff, Nat.reduceBEq, Nat.reduceBNe, Int.reduceToNat, Int.reduceLT, Int.reduceLE, Int.reduceEq, Int.reduceBNe, Int.reduceBEq, Int.reduceAdd, Int.reduceSub, Int.reduceMul, Int.reduceNeg, ↓reduceIte] <;> exact rfl) (by simp) ?_ ?_
  · simp only [go_sem, Nat.reduceAdd, Nat.reduceSub, Nat.reduceMul, Nat.reducePow, Nat.reduceEqDiff, Nat.reduceLT, Nat.reduceLeDiff, Nat.reduceBEq, Nat.reduceBNe, Int.reduceToNat, Int.reduceLT, Int.reduceLE, Int.reduceEq, Int.reduceBNe, Int.reduceBEq, Int.reduceAdd, Int.reduceSub, Int.reduceMul, Int.reduceNeg, ↓reduceIte] <;> simp
  · intro i hi hI
    simp only [go_sem, Nat.reduceAdd, Nat.reduceSub, Nat.reduceMul, Nat.reducePow, Nat.reduceEqDiff, Nat.reduceLT, Nat.reduceLeDiff, Nat.reduceBEq, Nat.reduceBNe, Int.reduceToNat, Int.reduceLT, Int.reduceLE, Int.reduceEq, Int.reduceBNe, Int.reduceBEq, Int.reduceAdd, Int.reduceSub, Int.reduceMul, Int.reduceNeg, ↓reduceIte]
    refine CondE.splitD (fun h => ?_) (fun h => ?_)
    · have hi' : i < l.bs.length := by omega
      have hw : IntKind.wrap .i64 ((i : Int) + 1) = ((i + 1 : Nat) : Int) := by rw [wr64 (by omega) (by omega)]; omega
      have hm := map_at (c := BalV.cells) l.bs hi'
      have h1 := acctRight_spec l.bs[i].acct
      have h2 : Abs.Spec Try.prog 80 [] [.sl 1 [[.int .i64 l.bs[i].sum]]] [] (.bool (right [l.bs[i].sum])) := right_spec [l.bs[i].sum] (by simp)
      have h3 := acctFloor_spec l.bs[i].acct
      rw [right_one] at h2
      have e0 : ledAt l.bs i = true → ∀ k < i + 1, ledAt l.bs k = true := fun h0 k hk => by
        rcases Nat.lt_or_ge k i with h | h
        · exact hI k h
        · obtain rfl : k = i := by omega
          exact h0
      have e1 : ledAt l.bs i = false → l.okB = false := fun hx => by simp [LedV.okB, ledSorted_no hi' hx]
      simp only [BalV.cells, AcctV.cells, BalV.acct] at hm h1 h3
      rcases Nat.eq_zero_or_pos i with rfl | hpos
      · have hk := ledAt_zero hi'
        simp only [balOk, BalV.acct] at hk
        clear hsums
        simp only [go_sem, Nat.reduceAdd, Nat.reduceSub, Nat.reduceMul, Nat.reducePow, Nat.reduceEqDiff, Nat.reduceLT, Nat.reduceLeDiff, Nat.reduceBEq, Nat.reduceBNe, Int.reduceToNat, Int.reduceLT, Int.reduceLE, Int.reduceEq, Int.reduceBNe, Int.reduceBEq, Int.reduceAdd, Int.reduceSub, Int.reduceMul, Int.reduceNeg, ↓reduceIte, hm]
        repeat' (with_reducible first
            | refine And.intro ?_ ?_
            | exact DrawN.mk (by kernel_rfl)
            | exact OkN.mk (by kernel_rfl)
            | refine CallN.pure (by assumption) ?_
            | (refine CallN.gen [] [] true (by simp) ?_; simp only [go_sem, Nat.reduceAdd, Nat.reduceSub, Nat.reduceMul, Nat.reducePow, Nat.reduceEqDiff, Nat.reduceLT, Nat.reduceLeDiff, Nat.reduceBEq, Nat.reduceBNe, Int.reduceToNat, Int.reduceLT, Int.reduceLE, Int.reduceEq, Int.reduceBNe, Int.reduceBEq, Int.reduceAdd, Int.reduceSub, Int.reduceMul, Int.reduceNeg, ↓reduceIte]; refine CallG.intro h2 ?_)
            | refine GuardK.splitDN (fun h => ?_) (fun h => ?_)
            | refine GuardK.splitD (fun h => ?_) (fun h => ?_)
            | refine CondE.splitDN (fun h => ?_) (fun h => ?_)
            | refine CondE.splitD (fun h => ?_) (fun h => ?_)
            | refine GuardK.splitN (fun h => ?_) (fun h => ?_)
            | refine GuardK.split (fun h => ?_) (fun h => ?_)
            | refine CondE.splitN (fun h => ?_) (fun h => ?_)
            | refine CondE.split (fun h => ?_) (fun h => ?_)
            | refine WeakK.id ?_
            | refine RoundK.next (by omega) ?_ ?_
            | exact trivial
            | simp only [*, go_sem, Nat.reduceAdd, Nat.reduceSub, Nat.reduceMul, Nat.reducePow, Nat.reduceEqDiff, Nat.reduceLT, Nat.reduceLeDiff, Nat.reduceBEq, Nat.reduceBNe, Int.reduceToNat, Int.reduceLT, Int.reduceLE, Int.reduceEq, Int.reduceBNe, Int.reduceBEq, Int.reduceAdd, Int.reduceSub, Int.reduceMul, Int.reduceNeg, ↓reduceIte])
        all_goals first
          | omega
          | rfl
          | (refine e0 ?_; clear e0 e1; rw [hk]; clear hk; simp [bne, *]; done)
          | (rw [e1 ?_]
             · rfl
             · clear e0 e1; rw [hk]; clear hk; simp [bne, *]; done)
      · obtain ⟨j, rfl⟩ : ∃ j, i = j + 1 := ⟨i - 1, by omega⟩
        have hj : j < l.bs.length := by omega
        have hw1 : IntKind.wrap .i64 (((j + 1 : Nat) : Int) - 1) = (j : Int) := by rw [wr64 (by omega) (by omega)]; omega
        have hk := ledAt_succ hi'
        simp only [balOk, BalV.acct] at hk
        have hmj := map_at (c := BalV.cells) l.bs hj
        have h4 := acctLess_spec l.bs[j].acct l.bs[j + 1].acct
        simp only [BalV.cells, AcctV.cells, BalV.acct] at hmj h4
        clear hsums
        simp only [go_sem, Nat.reduceAdd, Nat.reduceSub, Nat.reduceMul, Nat.reducePow, Nat.reduceEqDiff, Nat.reduceLT, Nat.reduceLeDiff, Nat.reduceBEq, Nat.reduceBNe, Int.reduceToNat, Int.reduceLT, Int.reduceLE, Int.reduceEq, Int.reduceBNe, Int.reduceBEq, Int.reduceAdd, Int.reduceSub, Int.reduceMul, Int.reduceNeg, ↓reduceIte, hm]
        repeat' (with_reducible first
            | refine And.intro ?_ ?_
            | exact DrawN.mk (by kernel_rfl)
            | exact OkN.mk (by kernel_rfl)
            | refine CallN.pure (by assumption) ?_
            | (refine CallN.gen [] [] true (by simp) ?_; simp only [go_sem, Nat.reduceAdd, Nat.reduceSub, Nat.reduceMul, Nat.reducePow, Nat.reduceEqDiff, Nat.reduceLT, Nat.reduceLeDiff, Nat.reduceBEq, Nat.reduceBNe, Int.reduceToNat, Int.reduceLT, Int.reduceLE, Int.reduceEq, Int.reduceBNe, Int.reduceBEq, Int.reduceAdd, Int.reduceSub, Int.reduceMul, Int.reduceNeg, ↓reduceIte]; refine CallG.intro h2 ?_)
            | refine GuardK.splitDN (fun h => ?_) (fun h => ?_)
            | refine GuardK.splitD (fun h => ?_) (fun h => ?_)
            | refine CondE.splitDN (fun h => ?_) (fun h => ?_)
            | refine CondE.splitD (fun h => ?_) (fun h => ?_)
            | refine GuardK.splitN (fun h => ?_) (fun h => ?_)
            | refine GuardK.split (fun h => ?_) (fun h => ?_)
            | refine CondE.splitN (fun h => ?_) (fun h => ?_)
            | refine CondE.split (fun h => ?_) (fun h => ?_)
            | refine WeakK.id ?_
            | refine RoundK.next (by omega) ?_ ?_
            | exact trivial
            | simp only [*, go_sem, Nat.reduceAdd, Nat.reduceSub, Nat.reduceMul, Nat.reducePow, Nat.reduceEqDiff, Nat.reduceLT, Nat.reduceLeDiff, Nat.reduceBEq, Nat.reduceBNe, Int.reduceToNat, Int.reduceLT, Int.reduceLE, Int.reduceEq, Int.reduceBNe, Int.reduceBEq, Int.reduceAdd, Int.reduceSub, Int.reduceMul, Int.reduceNeg, ↓reduceIte, hmj])
        all_goals first
          | omega
          | rfl
          | (refine e0 ?_; clear e0 e1; rw [hk]; clear hk; simp [bne, *]; done)
          | (rw [e1 ?_]
             · rfl
             · clear e0 e1; rw [hk]; clear hk; simp [bne, *]; done)
    · obtain rfl : i = l.bs.length := by omega
      have hs := ledSorted_yes hI
      simp only [go_sem, Nat.reduceAdd, Nat.reduceSub, Nat.reduceMul, Nat.reducePow, Nat.reduceEqDiff, Nat.reduceLT, Nat.reduceLeDiff, Nat.reduceBEq, Nat.reduceBNe, Int.reduceToNat, Int.reduceLT, Int.reduceLE, Int.reduceEq, Int.reduceBNe, Int.reduceBEq, Int.reduceAdd, Int.reduceSub, Int.reduceMul, Int.reduceNeg, ↓reduceIte]
      refine LoopK.count 3 [1] [32] (fun i => [(61, .int .i64 i)]) (fun i => []) (fun i => ∀ c < i, balL l.bs (c : Nat) = true) (by simp only [go_sem, Nat.reduceAdd, Nat.reduceSub, Nat.reduceMul, Nat.reducePow, Nat.reduceEqDiff, Nat.reduceLT, Nat.reduceLeDiff, Nat.reduceBEq, Nat.reduceBNe, Int.reduceToNat, Int.reduceLT, Int.reduceLE, Int.reduceEq, Int.reduceBNe, Int.reduceBEq, Int.reduceAdd, Int.reduceSub, Int.reduceMul, Int.reduceNeg, ↓reduceIte] <;> exact rfl) (by simp only [go_sem, Nat.reduceAdd, Nat.reduceSub, Nat.reduceMul, Nat.reducePow, Nat.reduceEqDiff, Nat.reduceLT, Nat.reduceLeDiff, Nat.reduceBEq, Nat.reduceBNe, Int.reduceToNat, Int.reduceLT, Int.reduceLE, Int.reduceEq, Int.reduceBNe, Int.reduceBEq, Int.reduceAdd, Int.reduceSub, Int.reduceMul, Int.reduceNeg, ↓reduceIte] <;> exact rfl) (by simp) ?_ ?_
      · simp only [go_sem, Nat.reduceAdd, Nat.reduceSub, Nat.reduceMul, Nat.reducePow, Nat.reduceEqDiff, Nat.reduceLT, Nat.reduceLeDiff, Nat.reduceBEq, Nat.reduceBNe, Int.reduceToNat, Int.reduceLT, Int.reduceLE, Int.reduceEq, Int.reduceBNe, Int.reduceBEq, Int.reduceAdd, Int.reduceSub, Int.reduceMul, Int.reduceNeg, ↓reduceIte] <;> simp
      · intro c hc hC
        simp only [go_sem, Nat.reduceAdd, Nat.reduceSub, Nat.reduceMul, Nat.reducePow, Nat.reduceEqDiff, Nat.reduceLT, Nat.reduceLeDiff, Nat.reduceBEq, Nat.reduceBNe, Int.reduceToNat, Int.reduceLT, Int.reduceLE, Int.reduceEq, Int.reduceBNe, Int.reduceBEq, Int.reduceAdd, Int.reduceSub, Int.reduceMul, Int.reduceNeg, ↓reduceIte]
        refine CondE.splitD (fun h => ?_) (fun h => ?_)
        · have hc' : c < 3 := by omega
          have hw : IntKind.wrap .i64 ((c : Int) + 1) = ((c + 1 : Nat) : Int) := by rw [wr64 (by omega) (by omega)]; omega
          have hlen := curL_len c l.bs
          have hsum := sum_spec (curL c l.bs) (by omega)
          have hbad : balL l.bs c = false → l.okB = false := fun hx => by
            obtain rfl | rfl | rfl : c = 0 ∨ c = 1 ∨ c = 2 := by omega
            · have : balL l.bs 0 = false := hx
              simp [LedV.okB, this]
            · have : balL l.bs 1 = false := hx
              simp [LedV.okB, this]
            · have : balL l.bs 2 = false := hx
              simp [LedV.okB, this]
          simp only [go_sem, Nat.reduceAdd, Nat.reduceSub, Nat.reduceMul, Nat.reducePow, Nat.reduceEqDiff, Nat.reduceLT, Nat.reduceLeDiff, Nat.reduceBEq, Nat.reduceBNe, Int.reduceToNat, Int.reduceLT, Int.reduceLE, Int.reduceEq, Int.reduceBNe, Int.reduceBEq, Int.reduceAdd, Int.reduceSub, Int.reduceMul, Int.reduceNeg, ↓reduceIte]
          refine CallN.gen [] [] false (by simp) ?_
          simp only [go_sem, Nat.reduceAdd, Nat.reduceSub, Nat.reduceMul, Nat.reducePow, Nat.reduceEqDiff, Nat.reduceLT, Nat.reduceLeDiff, Nat.reduceBEq, Nat.reduceBNe, Int.reduceToNat, Int.reduceLT, Int.reduceLE, Int.reduceEq, Int.reduceBNe, Int.reduceBEq, Int.reduceAdd, Int.reduceSub, Int.reduceMul, Int.reduceNeg, ↓reduceIte]
          refine CallG.intro (hsums c) ?_
          simp only [go_sem, Nat.reduceAdd, Nat.reduceSub, Nat.reduceMul, Nat.reducePow, Nat.reduceEqDiff, Nat.reduceLT, Nat.reduceLeDiff, Nat.reduceBEq, Nat.reduceBNe, Int.reduceToNat, Int.reduceLT, Int.reduceLE, Int.reduceEq, Int.reduceBNe, Int.reduceBEq, Int.reduceAdd, Int.reduceSub, Int.reduceMul, Int.reduceNeg, ↓reduceIte]
          refine CallN.gen [] [] true (by simp) ?_
          simp only [go_sem, Nat.reduceAdd, Nat.reduceSub, Nat.reduceMul, Nat.reducePow, Nat.reduceEqDiff, Nat.reduceLT, Nat.reduceLeDiff, Nat.reduceBEq, Nat.reduceBNe, Int.reduceToNat, Int.reduceLT, Int.reduceLE, Int.reduceEq, Int.reduceBNe, Int.reduceBEq, Int.reduceAdd, Int.reduceSub, Int.reduceMul, Int.reduceNeg, ↓reduceIte]
          refine CallG.intro hsum ?_
          cases hE : sumE (curL c l.bs) == 0
          · have e : l.okB = false := hbad (by simp [balL, hE])
            have hE' : (sumE (curL c l.bs) != 0) = true := by simp [bne, hE]
            simp only [go_sem, Nat.reduceAdd, Nat.reduceSub, Nat.reduceMul, Nat.reducePow, Nat.reduceEqDiff, Nat.reduceLT, Nat.reduceLeDiff, Nat.reduceBEq, Nat.reduceBNe, Int.reduceToNat, Int.reduceLT, Int.reduceLE, Int.reduceEq, Int.reduceBNe, Int.reduceBEq, Int.reduceAdd, Int.reduceSub, Int.reduceMul, Int.reduceNeg, ↓reduceIte, hE', e] <;> simp
          have hE' : (sumE (curL c l.bs) != 0) = false := by simp [bne, hE]
          cases hN : sumN (curL c l.bs) == 0
          · have e : l.okB = false := hbad (by simp [balL, hE, hN])
            have hN' : (sumN (curL c l.bs) != 0) = true := by simp [bne, hN]
            simp only [go_sem, Nat.reduceAdd, Nat.reduceSub, Nat.reduceMul, Nat.reducePow, Nat.reduceEqDiff, Nat.reduceLT, Nat.reduceLeDiff, Nat.reduceBEq, Nat.reduceBNe, Int.reduceToNat, Int.reduceLT, Int.reduceLE, Int.reduceEq, Int.reduceBNe, Int.reduceBEq, Int.reduceAdd, Int.reduceSub, Int.reduceMul, Int.reduceNeg, ↓reduceIte, hE', hN', e] <;> simp
          have hN' : (sumN (curL c l.bs) != 0) = false := by simp [bne, hN]
          simp only [go_sem, Nat.reduceAdd, Nat.reduceSub, Nat.reduceMul, Nat.reducePow, Nat.reduceEqDiff, Nat.reduceLT, Nat.reduceLeDiff, Nat.reduceBEq, Nat.reduceBNe, Int.reduceToNat, Int.reduceLT, Int.reduceLE, Int.reduceEq, Int.reduceBNe, Int.reduceBEq, Int.reduceAdd, Int.reduceSub, Int.reduceMul, Int.reduceNeg, ↓reduceIte, hE', hN', hw]
          refine RoundK.next hc' ?_ ?_
          · intro k hk
            rcases Nat.lt_or_ge k c with h | h
            · exact hC k h
            · obtain rfl : k = c := by omega
              simp [balL, hE, hN]
          · simp only [go_sem, Nat.reduceAdd, Nat.reduceSub, Nat.reduceMul, Nat.reducePow, Nat.reduceEqDiff, Nat.reduceLT, Nat.reduceLeDiff, Nat.reduceBEq, Nat.reduceBNe, Int.reduceToNat, Int.reduceLT, Int.reduceLE, Int.reduceEq, Int.reduceBNe, Int.reduceBEq, Int.reduceAdd, Int.reduceSub, Int.reduceMul, Int.reduceNeg, ↓reduceIte]
        · obtain rfl : c = 3 := by omega
          have b0 : balL l.bs 0 = true := hC 0 (by omega)
          have b1 : balL l.bs 1 = true := hC 1 (by omega)
          have b2 : balL l.bs 2 = true := hC 2 (by omega)
          have e : l.okB = true := by simp [LedV.okB, hs, b0, b1, b2, h0]
          simp only [go_sem, Nat.reduceAdd, Nat.reduceSub, Nat.reduceMul, Nat.reducePow, Nat.reduceEqDiff, Nat.reduceLT, Nat.reduceLeDiff, Nat.reduceBEq, Nat.reduceBNe, Int.reduceToNat, Int.reduceLT, Int.reduceLE, Int.reduceEq, Int.reduceBNe, Int.reduceBEq, Int.reduceAdd, Int.reduceSub, Int.reduceMul, Int.reduceNeg, ↓reduceIte, e] <;> simp
end Go.Proofs.Ytbllopdcbkeadaa
