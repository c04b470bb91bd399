/- A command's line, by the program; no theorem of a claim. -/
import Derived.Test.YtdklpddmplflgaaDoorV8
set_option linter.unusedSimpArgs false
set_option linter.unusedVariables false
namespace Go.Proofs.YtdklpddmplflgaaDoor
open Go.Abs
open Go.Lib (itoa)
/-- a command's own words -/
def wordsC (k : Nat) (c : List Int) (m : Nat) : List (List UInt8) := kindW.getD k [] :: ((placeL k).take (2 + m)).map fun o => itoa (c.getD o 0)
def okK (c : List Int) : Bool := decide (1 ≤ c.getD 2 0 ∧ c.getD 2 0 ≤ 22)
/-- the line of a command, or none -/
def lineR (c : List Int) : Option (List UInt8) := if okK c then (if bare ((c.getD 2 0).toNat - 1) c then some (lineC ((c.getD 2 0).toNat - 1) c) else none) else none
def zerosL (os : List Nat) : List Int := os.map fun _ => 0
theorem killL_adrs (q r : Nat) (os : List Nat) (h : r ≠ q) : D.killL q (adrs r os) = adrs r os := by
  rw [killL_map, adrs, List.map_map]
  refine List.map_congr_left fun o _ => ?_
  simp [D.kill, h]
theorem leDL_adrs {rh : Nat → Option Nat} {lv : Nat → Bool} {r s : Nat} (h1 : rh s = some r) (h2 : lv s = true) : ∀ os : List Nat, leDL rh lv (adrs r os) (adrs s os)
  | [] => by simp [adrs, leDL]
  | o :: os => by
    show leDL rh lv (.addr r o :: adrs r os) (.addr s o :: adrs s os)
    simp only [leDL, leD]
    exact ⟨⟨h1, h2, trivial⟩, leDL_adrs h1 h2 os⟩
theorem kindW_short : ∀ k < 22, (kindW.getD k []).length ≤ 8 := by decide
theorem offL_ok : ((List.range 22).all fun k => (List.range (offL k).length).all fun j => decide ((offL k).getD j 0 < 17) && !((offL k).take j).contains ((offL k).getD j 0)) = true := by decide +kernel
theorem offL_both {k j : Nat} (hk : k < 22) (hj : j < (offL k).length) : (offL k).getD j 0 < 17 ∧ (offL k).getD j 0 ∉ (offL k).take j := by
  have h := offL_ok
  rw [List.all_eq_true] at h
  have h := h k (List.mem_range.2 hk)
  rw [List.all_eq_true] at h
  have h := h j (List.mem_range.2 hj)
  simp only [Bool.and_eq_true, decide_eq_true_eq, Bool.not_eq_true', List.contains_eq_mem, decide_eq_false_iff_not] at h
  exact h
theorem offL_lt {k j : Nat} (hk : k < 22) (hj : j < (offL k).length) : (offL k).getD j 0 < 17 := (offL_both hk hj).1
theorem offL_new {k j : Nat} (hk : k < 22) (hj : j < (offL k).length) : (offL k).getD j 0 ∉ (offL k).take j := (offL_both hk hj).2
theorem putL_get : ∀ (os : List Nat) (cs ns : List Int) (o : Nat), o ∉ os → (putL cs os ns).getD o 0 = cs.getD o 0
  | [], cs, ns, o, _ => by simp [putL]
  | p :: os, cs, [], o, _ => by simp [putL]
  | p :: os, cs, n :: ns, o, h => by
    simp only [List.mem_cons, not_or] at h
    simp only [putL]
    rw [putL_get os _ ns o h.2]
    simp only [List.getD, List.getElem?_set]
    rw [if_neg (fun e => h.1 e.symm)]
theorem zerosL_step {os : List Nat} {j : Nat} (h : j < os.length) : zerosL (os.take (j + 1)) = zerosL (os.take j) ++ [0] := by
  unfold zerosL
  rw [List.take_succ_eq_append_getElem h, List.map_append]
  rfl
theorem wordsC_step (k : Nat) (c : List Int) {j : Nat} (h : j < (offL k).length) : wordsC k c (j + 1) = wordsC k c j ++ [itoa (c.getD ((offL k).getD j 0) 0)] := by
  have e : (placeL k).take (2 + (j + 1)) = (placeL k).take (2 + j) ++ [(offL k).getD j 0] := by
    have hl : 2 + j < (placeL k).length := by simp [placeL]; omega
    rw [show 2 + (j + 1) = 2 + j + 1 by omega, List.take_succ_eq_append_getElem hl]
    congr 2
    simp only [placeL, show 2 + j = j + 1 + 1 by omega, List.getElem_cons_succ]
    rw [List.getD, List.getElem?_eq_getElem h]; rfl
  simp only [wordsC, e, List.map_append, List.map_cons, List.map_nil, List.cons_append]
theorem joinC_spec (k : Nat) (hk : k < 22) (c : List Int) (hr : ∀ o, I64 (c.getD o 0)) (n : Nat) (hn : n = (offL k).length) : Abs.Spec Tryd.prog 28 [] [.sl 1 (txtsB (wordsC k c n)), .str ⟨#[32]⟩] [] (.str (B (lineC k c))) := by
  have e : wordsC k c n = kindW.getD k [] :: ((placeL k).map fun o => c.getD o 0).map itoa := by
    rw [hn, wordsC, List.take_of_length_le (by simp [placeL]; omega), List.map_map]; rfl
  have hl : (placeL k).length ≤ 12 := placeL_len k hk
  have e2 : lineC k c = Go.Lib.join (wordsC k c n) [32] := by
    rw [join_joinW, e, lineC, List.map_map]; rfl
  have hb : (lineC k c).length ≤ 1000 := by
    rw [e2, join_joinW, e, ← tailN_joinW, List.length_append]
    have h1 := tailN_len ((placeL k).map fun o => c.getD o 0) (by
      intro x hx
      obtain ⟨o, _, rfl⟩ := List.mem_map.1 hx
      exact hr o)
    have h2 : (kindW.getD k []).length ≤ 8 := kindW_short k hk
    simp only [List.length_map] at h1
    omega
  rw [e2] at hb ⊢
  exact join_spec (wordsC k c n) [32] (by rw [e]; simp) (by rw [e]; simp; omega) (by omega)
theorem cellsEq_ci : ∀ (a b : List Int), a.length = b.length → cellsEq (ci a) (ci b) = (a == b)
  | [], [], _ => rfl
  | x :: a, y :: b, h => by
    show (cellEq (.int .i64 x) (.int .i64 y) && cellsEq (ci a) (ci b)) = _
    rw [cellsEq_ci a b (by simpa using h)]
    rfl
set_option maxRecDepth 8000 in
theorem line_spec (c : List Int) (hc : c.length = 17) (hr : ∀ o, I64 (c.getD o 0)) : Abs.Spec Tryd.prog 13 [] [.agg (ci c)] [] (.tup [.str (B ((lineR c).getD [])), .int .i64 (if (lineR c).isSome then 0 else 22)]) := by
  obtain ⟨a0, a1, a2, a3, a4, a5, a6, a7, a8, a9, a10, a11, a12, a13, a14, a15, a16, rfl⟩ := len17 hc
  have hK := kinds_spec
  obtain ⟨c, hcd⟩ : ∃ c, c = [a0, a1, a2, a3, a4, a5, a6, a7, a8, a9, a10, a11, a12, a13, a14, a15, a16] := ⟨_, rfl⟩
  obtain ⟨L, hL⟩ : ∃ L, L = lineR c := ⟨_, rfl⟩
  rw [← hcd, ← hL]
  rw [← hcd] at hr hc
  have h20 : c.getD 2 0 = a2 := by rw [hcd]; rfl
  have hce : ci c = [.int .i64 a0, .int .i64 a1, .int .i64 a2, .int .i64 a3, .int .i64 a4, .int .i64 a5, .int .i64 a6, .int .i64 a7, .int .i64 a8, .int .i64 a9, .int .i64 a10, .int .i64 a11, .int .i64 a12, .int .i64 a13, .int .i64 a14, .int .i64 a15, .int .i64 a16] := by rw [hcd]; rfl
  have i0 := itoa_spec a0 (by have := hr 0; rwa [hcd] at this)
  have i1 := itoa_spec a1 (by have := hr 1; rwa [hcd] at this)
  rw [hce]
  by_cases hlo : a2 < 1
  · have d1 : decide (a2 < 1) = true := decide_eq_true hlo
    have e : L = none := by
      rw [hL]; unfold lineR okK
      rw [h20, decide_eq_false (by omega)]; rfl
    subst e
    refine sgo 57 1 [.tmp 2, .tmp 3] mixed Tryd.func13 ?_
    simp -implicitDefEqProofs only [go_sem, seval, d1]
    rfl
  have d1 : decide (a2 < 1) = false := decide_eq_false hlo
  by_cases hhi : 22 < a2
  · have d2 : decide (22 < a2) = true := decide_eq_true hhi
    have e : L = none := by
      rw [hL]; unfold lineR okK
      rw [h20, decide_eq_false (by omega)]; rfl
    subst e
    refine sgo 57 1 [.tmp 2, .tmp 3] mixed Tryd.func13 ?_
    simp -implicitDefEqProofs only [go_sem, seval, d1, d2]
    rfl
  have d2 : decide (22 < a2) = false := decide_eq_false hhi
  obtain ⟨k, hk⟩ : ∃ k : Nat, a2 = (k : Int) + 1 := ⟨(a2 - 1).toNat, by omega⟩
  have hk22 : k < 22 := by omega
  have hLk : L = if bare k c then some (lineC k c) else none := by
    rw [hL]; unfold lineR okK
    rw [h20, decide_eq_true (by omega), if_pos rfl, show a2.toNat - 1 = k by omega]
  have hw1 : IntKind.wrap .i64 (a2 - 1) = (k : Int) := by rw [wr64 (by omega) (by omega)]; omega
  have hmw := txtsB_at kindW (i := k) (by rw [kindW_len]; exact hk22)
  have hfE := fieldsE k hk22 c hc (by rw [h20]; exact hk)
  rw [hce] at hfE
  refine sgo 57 1 [.tmp 2, .tmp 3] mixed Tryd.func13 ?_
  simp -implicitDefEqProofs only [go_sem, seval, d1, d2]
  (with_reducible and_intros)<;>first|exact .dq|omega|exact ci_ok _|skip
  refine CallN.pure hK ?_
  simp -implicitDefEqProofs only [go_sem, seval, hw1, txtsB_len, kindW_len, Int.toNat_natCast, hmw]
  (with_reducible and_intros)<;>first|exact .dq|omega|exact ci_ok _|skip
  refine CallN.pure i0 ?_
  simp -implicitDefEqProofs only [go_sem, seval]
  (with_reducible and_intros)<;>first|exact .dq|omega|exact ci_ok _|skip
  refine CallN.pure i1 ?_
  simp -implicitDefEqProofs only [go_sem, seval]
  (with_reducible and_intros)<;>first|exact .dq|omega|exact ci_ok _|skip
  refine CallN.genX [] [96] false rfl (by decide) ?_
  simp -implicitDefEqProofs only [go_sem, seval]
  refine CallX.intro hfE (by simp -implicitDefEqProofs only [go_sem, seval]) (by simp -implicitDefEqProofs only [go_sem, seval]) ?_
  have hw0 : txtsB (wordsC k c 0) = [[.str (B (kindW[k]'(by rw [kindW_len]; exact hk22)))], [.str (B (itoa a0))], [.str (B (itoa a1))]] := by
    rw [hcd]; simp only [wordsC, placeL, txtsB, List.take, List.map]
    rw [List.getD, List.getElem?_eq_getElem (by rw [kindW_len]; exact hk22)]
    rfl
  have hol : (offL k).length ≤ 10 := by have := placeL_len k hk22; simp only [placeL, List.length_cons] at this; omega
  have hlv : ∀ c' : List Int, c'.length = 17 → leavesOk [.int, .int, .int, .int, .int, .int, .int, .int, .int, .int, .int, .int, .int, .int, .int, .int, .int] (ci c') [.int .i64 a0, .int .i64 a1, .int .i64 a2, .int .i64 0, .int .i64 0, .int .i64 0, .int .i64 0, .int .i64 0, .int .i64 0, .int .i64 0, .int .i64 0, .int .i64 0, .int .i64 0, .int .i64 0, .int .i64 0, .int .i64 0, .int .i64 0] := by
    intro c' h
    obtain ⟨b0, b1, b2, b3, b4, b5, b6, b7, b8, b9, b10, b11, b12, b13, b14, b15, b16, rfl⟩ := len17 h
    simp only [ci, List.map_cons, List.map_nil, leavesOk, leafOk, and_self]
  rintro hs' d (⟨h0, rfl, rfl⟩ | ⟨h0, N, hN, rfl, rfl⟩)
  · simp -implicitDefEqProofs only [go_sem, seval]
    (with_reducible and_intros)<;>first|exact .dq|omega|exact ci_ok _|skip
    refine LoopK.walk (S := List Int) 0 [1, 5, 30, 31] [32] (fun j _ => [(4, .ref 688), (32, .int .i64 j)]) (fun j c' => [(688, .own 1 (txtsB (wordsC k c j))), (96, .box (ci c'))]) (fun j c' => c'.length = 17 ∧ c' = putL c ((offL k).take j) (zerosL ((offL k).take j))) c ⟨hc, rfl⟩ ?_ ?_ ?_
    · rw [hw0]
      simp -implicitDefEqProofs only [go_sem, seval]
    · intro j c' hj hdj hwj ⟨hc', hcp⟩
      omega
    · intro c' hdx ⟨hc', hcp⟩
      have hdx : decide ((0 : Int) < 0) = false := hdx
      rw [List.take_of_length_le (by rw [h0]; simp)] at hcp
      have htk : List.take 17 (ci c') = ci c' := List.take_of_length_le (by rw [ci_len]; omega)
      have hlo := hlv c' hc'
      have hce2 : cellsEq (ci c') [.int .i64 a0, .int .i64 a1, .int .i64 a2, .int .i64 0, .int .i64 0, .int .i64 0, .int .i64 0, .int .i64 0, .int .i64 0, .int .i64 0, .int .i64 0, .int .i64 0, .int .i64 0, .int .i64 0, .int .i64 0, .int .i64 0, .int .i64 0] = bare k c := by
        have := cellsEq_ci c' (bareC a0 a1 k) (by rw [hc']; rfl)
        rw [hk]
        refine this.trans ?_
        rw [hcp, bare, hcd]
        rfl
      have hJ := joinC_spec k hk22 c hr 0 (by rw [h0]; rfl)
      cases hb : bare k c
      · have e : L = none := by rw [hLk, hb]; rfl
        subst e
        rw [hb] at hce2
        simp -implicitDefEqProofs only [go_sem, seval, hdx, htk, hc', hce2, hlo]
        rfl
      · have e : L = some (lineC k c) := by rw [hLk, hb]; rfl
        subst e
        rw [hb] at hce2
        simp -implicitDefEqProofs only [go_sem, seval, hdx, htk, hc', hce2, hlo]
        (with_reducible and_intros)<;>first|exact .dq|omega|exact ci_ok _|skip
        refine CallN.gen [688] [] false (by simp) ?_
        simp -implicitDefEqProofs only [go_sem, seval]
        refine CallG.intro hJ ?_
        simp -implicitDefEqProofs only [go_sem, seval]
  · simp -implicitDefEqProofs only [go_sem, seval]
    (with_reducible and_intros)<;>first|exact .dq|omega|exact ci_ok _|skip
    refine LoopK.walk (S := List Int) (offL k).length [1, 5, 30, 31] [32, 496] (fun j _ => [(4, .ref 688), (32, .int .i64 j)]) (fun j c' => [(688, .own 1 (txtsB (wordsC k c j))), (96, .box (ci c'))]) (fun j c' => c'.length = 17 ∧ c' = putL c ((offL k).take j) (zerosL ((offL k).take j))) c ⟨hc, rfl⟩ ?_ ?_ ?_
    · rw [hw0]
      simp -implicitDefEqProofs only [go_sem, seval]
      exact leDL_adrs (by exact rfl) (by exact rfl) _
    · intro j c' hj hdj hwj ⟨hc', hcp⟩
      obtain ⟨o, ho⟩ : ∃ o, o = (offL k).getD j 0 := ⟨_, rfl⟩
      have hat := adrs_at 96 (offL k) j hj
      rw [← ho] at hat
      have hat1 : (List.drop (0 + j * 1) (adrs 96 (offL k))).headD .undef = .addr 96 o := by
        rw [Nat.zero_add, Nat.mul_one, List.headD_eq_head?_getD, List.head?_drop, ← hat]; rfl
      have hat2 : (List.drop (j * 1) (adrs 96 (offL k))).headD .undef = .addr 96 o := by rw [← hat1, Nat.zero_add]
      have ho17 : o < 17 := by rw [ho]; exact offL_lt hk22 hj
      have hco : (List.drop o (ci c')).headD .undef = .int .i64 (c.getD o 0) := by
        rw [List.headD_eq_head?_getD, List.head?_drop]
        have h := ci_at c' o (by omega)
        rw [hcp, putL_get _ _ _ _ (by rw [ho]; exact offL_new hk22 hj), ← hcp] at h
        rw [← h]; rfl
      have hio := itoa_spec (c.getD o 0) (hr o)
      have hpu := ci_put c' o 0 (by omega)
      have hpv : List.take o (ci c') ++ [D.int IntKind.i64 0] ++ List.drop (o + 1) (ci c') = ci (c'.set o 0) := hpu
      have hz := putL_step (offL k) c (zerosL ((offL k).take j)) j 0 hj (by simp [zerosL]; omega)
      have hst : txtsB (wordsC k c j) ++ [[.str (B (itoa (c.getD o 0)))]] = txtsB (wordsC k c (j + 1)) := by
        rw [← txtsB_app, wordsC_step k c hj, ho]
      have hwl : (wordsC k c j).length = 3 + j := by
        simp only [wordsC, List.length_cons, List.length_map, List.length_take, placeL]; omega
      simp -implicitDefEqProofs only [go_sem, seval, hdj, hat1, hat2, hco]
      (with_reducible and_intros)<;>first|exact .dq|omega|exact ci_ok _|skip
      refine CallN.pure hio ?_
      simp -implicitDefEqProofs only [go_sem, seval, txtsB_len, hwl, hst, hwj]
      (with_reducible and_intros)<;>first|exact .dq|omega|exact ci_ok _|skip
      rw [hpv]
      refine RoundK.step (c'.set o 0) hj ⟨by simp [hc'], ?_⟩ ?_
      · rw [zerosL_step hj, hz, ← hcp, ho]
      · simp -implicitDefEqProofs only [go_sem, seval]
        rw [killL_adrs _ _ _ (by decide)]
        exact leDL_adrs (by exact rfl) (by exact rfl) _
    · intro c' hdx ⟨hc', hcp⟩
      have hdx := hdx
      rw [List.take_of_length_le (Nat.le_refl _)] at hcp
      have htk : List.take 17 (ci c') = ci c' := List.take_of_length_le (by rw [ci_len]; omega)
      have hlo := hlv c' hc'
      have hce2 : cellsEq (ci c') [.int .i64 a0, .int .i64 a1, .int .i64 a2, .int .i64 0, .int .i64 0, .int .i64 0, .int .i64 0, .int .i64 0, .int .i64 0, .int .i64 0, .int .i64 0, .int .i64 0, .int .i64 0, .int .i64 0, .int .i64 0, .int .i64 0, .int .i64 0] = bare k c := by
        have := cellsEq_ci c' (bareC a0 a1 k) (by rw [hc']; rfl)
        rw [hk]
        refine this.trans ?_
        rw [hcp, bare, hcd]
        rfl
      have hJ := joinC_spec k hk22 c hr _ (rfl)
      cases hb : bare k c
      · have e : L = none := by rw [hLk, hb]; rfl
        subst e
        rw [hb] at hce2
        simp -implicitDefEqProofs only [go_sem, seval, hdx, htk, hc', hce2, hlo]
        rfl
      · have e : L = some (lineC k c) := by rw [hLk, hb]; rfl
        subst e
        rw [hb] at hce2
        simp -implicitDefEqProofs only [go_sem, seval, hdx, htk, hc', hce2, hlo]
        (with_reducible and_intros)<;>first|exact .dq|omega|exact ci_ok _|skip
        refine CallN.gen [688] [] false (by simp) ?_
        simp -implicitDefEqProofs only [go_sem, seval]
        refine CallG.intro hJ ?_
        simp -implicitDefEqProofs only [go_sem, seval]
end Go.Proofs.YtdklpddmplflgaaDoor
