/- The reference's reading of a line; no theorem of a claim. -/
import Derived.Test.YtdklpddmplflgaaDoorV6
set_option linter.unusedSimpArgs false
set_option linter.unusedVariables false
namespace Go.Proofs.YtdklpddmplflgaaDoor
open Go.Abs
theorem names_own : Abs.Spec Tryd.prog 23 [] [] [.own 1 (txtsB ([] :: kindW))] (.ref 0) := by
  refine sgo 2 0 [.tmp 0] mixed Tryd.func23 ?_
  simp -implicitDefEqProofs only [go_sem, seval] <;> rfl
theorem names_spec : Abs.Spec Tryd.prog 23 [] [] [] (.sl 1 (txtsB ([] :: kindW))) := by
  refine Spec.frozen names_own [0] rfl ?_
  intro r
  rcases r with _ | r <;> rfl
/-- the bytes that name the fields of the k-th kind -/
def fbL : Nat → List UInt8
  | 0 => [119, 97] | 1 => [105, 99, 113, 97, 115] | 2 => [110, 99, 112, 97] | 3 => [119, 99, 97] | 4 => [119, 99, 97] | 5 => [119, 110, 113] | 6 => [119, 110, 113] | 7 => [119, 99, 97]
  | 8 => [99, 97] | 9 => [119, 111, 105, 113, 112] | 10 => [110] | 11 => [110, 113, 112] | 12 => [105, 112] | 16 => [97] | 17 => [119, 105, 111, 113, 112] | 18 => [119] | 20 => [110, 119, 99] | 21 => [119, 105] | _ => []
theorem fbL_eq {k : Nat} (h : k < 22) : namesB ((k : Int) + 1) = B (fbL k) := by
  rcases lt22 h with rfl | rfl | rfl | rfl | rfl | rfl | rfl | rfl | rfl | rfl | rfl | rfl | rfl | rfl | rfl | rfl | rfl | rfl | rfl | rfl | rfl | rfl <;> rfl
/-- where the field of a byte is -/
def offB (b : UInt8) : Nat := if b = 119 then 3 else if b = 111 then 4 else if b = 110 then 5 else if b = 105 then 6 else if b = 99 then 7 else if b = 113 then 8 else if b = 112 then 9 else 10
theorem fbL_len : ∀ k < 22, (fbL k).length + 2 + (if k = 1 then 5 else 0) = (placeL k).length := by decide
def okF (k j : Nat) (b : UInt8) : Bool := (b == 115 && (k == 1 && j == 4)) || (b != 115 && (offB b == (offL k).getD j 0 && (decide (j < (offL k).length) && ((k != 1 || decide (j < 4)) && (b == 119 || b == 111 || b == 110 || b == 105 || b == 99 || b == 113 || b == 112 || b == 97)))))
theorem fbL_ok : ((List.range 22).all fun k => (List.range (fbL k).length).all fun j => okF k j ((fbL k).getD j 0)) = true := by decide +kernel
theorem fbL_at {k j : Nat} (hk : k < 22) (hj : j < (fbL k).length) : (fbL k).getD j 0 = 115 ∧ k = 1 ∧ j = 4 ∨ (fbL k).getD j 0 ≠ 115 ∧ offB ((fbL k).getD j 0) = (offL k).getD j 0 ∧ j < (offL k).length ∧ (k ≠ 1 ∨ j < 4) ∧ ((fbL k).getD j 0 = 119 ∨ (fbL k).getD j 0 = 111 ∨ (fbL k).getD j 0 = 110 ∨ (fbL k).getD j 0 = 105 ∨ (fbL k).getD j 0 = 99 ∨ (fbL k).getD j 0 = 113 ∨ (fbL k).getD j 0 = 112 ∨ (fbL k).getD j 0 = 97) := by
  have h := fbL_ok
  rw [List.all_eq_true] at h
  have h := h k (List.mem_range.2 hk)
  rw [List.all_eq_true] at h
  have h := h j (List.mem_range.2 hj)
  generalize (fbL k).getD j 0 = b at h ⊢
  simp only [okF, Bool.or_eq_true, Bool.and_eq_true, beq_iff_eq, bne_iff_ne, ne_eq, decide_eq_true_eq] at h
  rcases h with h | ⟨h1, h2, h3, h4, h5⟩
  · exact .inl h
  · exact .inr ⟨h1, h2, h3, h4, by simpa only [or_assoc] using h5⟩
set_option maxRecDepth 8000 in
theorem put_spec (c : List Int) (hc : c.length = 17) (b : UInt8) (n : Int) (hb : b = 119 ∨ b = 111 ∨ b = 110 ∨ b = 105 ∨ b = 99 ∨ b = 113 ∨ b = 112 ∨ b = 97) : Abs.Spec Tryd.prog 26 [.box (ci c)] [.addr 0 0, .int .u8 (b.toNat : Int), .int .i64 n] [.box (ci (c.set (offB b) n))] (.tup []) := by
  obtain ⟨a0, a1, a2, a3, a4, a5, a6, a7, a8, a9, a10, a11, a12, a13, a14, a15, a16, rfl⟩ := len17 hc
  rcases hb with rfl | rfl | rfl | rfl | rfl | rfl | rfl | rfl
  · simp only [show ((119 : UInt8).toNat : Int) = 119 from rfl, show offB 119 = 3 from rfl, List.set, ci, List.map_cons, List.map_nil]
    refine sgo 55 3 [] mixed Tryd.func26 ?_
    simp -implicitDefEqProofs only [go_sem, seval]
  · simp only [show ((111 : UInt8).toNat : Int) = 111 from rfl, show offB 111 = 4 from rfl, List.set, ci, List.map_cons, List.map_nil]
    refine sgo 55 3 [] mixed Tryd.func26 ?_
    simp -implicitDefEqProofs only [go_sem, seval]
  · simp only [show ((110 : UInt8).toNat : Int) = 110 from rfl, show offB 110 = 5 from rfl, List.set, ci, List.map_cons, List.map_nil]
    refine sgo 55 3 [] mixed Tryd.func26 ?_
    simp -implicitDefEqProofs only [go_sem, seval]
  · simp only [show ((105 : UInt8).toNat : Int) = 105 from rfl, show offB 105 = 6 from rfl, List.set, ci, List.map_cons, List.map_nil]
    refine sgo 55 3 [] mixed Tryd.func26 ?_
    simp -implicitDefEqProofs only [go_sem, seval]
  · simp only [show ((99 : UInt8).toNat : Int) = 99 from rfl, show offB 99 = 7 from rfl, List.set, ci, List.map_cons, List.map_nil]
    refine sgo 55 3 [] mixed Tryd.func26 ?_
    simp -implicitDefEqProofs only [go_sem, seval]
  · simp only [show ((113 : UInt8).toNat : Int) = 113 from rfl, show offB 113 = 8 from rfl, List.set, ci, List.map_cons, List.map_nil]
    refine sgo 55 3 [] mixed Tryd.func26 ?_
    simp -implicitDefEqProofs only [go_sem, seval]
  · simp only [show ((112 : UInt8).toNat : Int) = 112 from rfl, show offB 112 = 9 from rfl, List.set, ci, List.map_cons, List.map_nil]
    refine sgo 55 3 [] mixed Tryd.func26 ?_
    simp -implicitDefEqProofs only [go_sem, seval]
  · simp only [show ((97 : UInt8).toNat : Int) = 97 from rfl, show offB 97 = 10 from rfl, List.set, ci, List.map_cons, List.map_nil]
    refine sgo 55 3 [] mixed Tryd.func26 ?_
    simp -implicitDefEqProofs only [go_sem, seval]
@[go_sem] theorem map_cv_ci (e : Env) (bw : Bool) (gs : List Nat) (n : Nat) (l : List Int) : List.map (cv e bw gs n) (ci l) = ci l := by
  rw [ci, List.map_map]
  refine List.map_congr_left fun x _ => ?_
  cases n <;> rfl
theorem ints_app (a : List Int) (n : Int) : ints a ++ [[.int .i64 n]] = ints (a ++ [n]) := by simp [ints]
set_option maxRecDepth 8000 in
set_option maxHeartbeats 4000000 in
theorem refRead_spec (l : List UInt8) (hl : l.length ≤ 1000000) : Abs.Spec Tryd.prog 9 [] [.str (B l)] [] (.tup [.agg (ci ((readC l).getD zeroC)), .bool (readC l).isSome]) := by
  obtain ⟨w, ws, hs⟩ : ∃ w ws, spl l [] = w :: ws := by
    cases h : spl l [] with
    | nil => exact absurd h (spl_ne _ _)
    | cons w ws => exact ⟨w, ws, rfl⟩
  have hS := words_spec l (by omega)
  have hwl : ∀ x ∈ ws, x.length ≤ 1000000000 := fun x hx => by
    have := spl_wlen l [] x (by rw [hs]; exact List.mem_cons_of_mem _ hx)
    simp at this; omega
  have hwn : ws.length ≤ 1000000 := by
    have := spl_count l []
    rw [hs] at this
    simp at this; omega
  rw [hs] at hS
  have hR0 : readC l = match kindOf w, numsOf ws with
    | some k, some ns => if ns.length = (placeL k).length then some (putL (bareC 0 0 k) (placeL k) ns) else none
    | _, _ => none := by unfold readC; rw [hs]; rfl
  obtain ⟨R, hR⟩ : ∃ R, R = readC l := ⟨_, rfl⟩
  rw [← hR] at hR0 ⊢
  clear hR hs
  have hK := names_spec
  have hw0 : (txtsB (w :: ws)).getD 0 [] = [.str (B w)] := rfl
  refine sgo 113 1 [.cell 2 24, .tmp 3] mixed Tryd.func9 ?_
  simp -implicitDefEqProofs only [go_sem, seval]
  (with_reducible and_intros)<;>first|exact .dq|omega|skip
  refine CallN.pure hS ?_
  simp -implicitDefEqProofs only [go_sem, seval]
  (with_reducible and_intros)<;>first|exact .dq|omega|skip
  refine LoopK.walk (S := Unit) 22 [2, 4] [48] (fun i _ => [(5, .int .i64 ((i : Int) + 1))]) (fun _ _ => []) (fun i _ => ∀ j < i, kindW.getD j [] ≠ w) () (by intro j hj; omega) ?_ ?_ ?_
  · simp -implicitDefEqProofs only [go_sem, seval] <;> simp
  · intro i _ hi _ _ hI
    have hdi : decide ((i : Int) + 1 ≤ 22) = true := decide_eq_true (by omega)
    have hm : (txtsB ([] :: kindW)).getD (i + 1) [] = [.str (B (kindW[i]'hi))] := by
      rw [txtsB_at _ (by simp [kindW_len]; omega)]; rfl
    have hg : kindW.getD i [] = kindW[i]'hi := by rw [List.getD, List.getElem?_eq_getElem hi]; rfl
    have hti : ((i : Int) + 1).toNat = i + 1 := by omega
    have hw2 : IntKind.wrap .i64 ((i : Int) + 1 + 1) = ((i + 1 : Nat) : Int) + 1 := by rw [wr64 (by omega) (by omega)]; omega
    by_cases hx : kindW[i]'hi = w
    case neg =>
      have hb : ((B w).toList == (B (kindW[i]'hi)).toList) = false := by rw [B_lst, B_lst, beq_eq_false_iff_ne]; exact fun h => hx h.symm
      simp -implicitDefEqProofs only [go_sem, seval, hdi, hw0, txtsB_len, List.length_cons]
      (with_reducible and_intros)<;>first|exact .dq|omega|skip
      refine CallN.pure hK ?_
      simp -implicitDefEqProofs only [go_sem, seval, hti, hm, hw0, bne, hb, txtsB_len, List.length_cons, kindW_len]
      (with_reducible and_intros)<;>first|exact .dq|omega|skip
      refine RoundK.step () hi (by
        intro j hj
        rcases Nat.lt_or_ge j i with h | h
        · exact hI j h
        · rw [show j = i by omega, hg]; exact hx) ?_
      simp -implicitDefEqProofs only [go_sem, seval, hw2]
    case pos =>
      have hb : ((B w).toList == (B (kindW[i]'hi)).toList) = true := by rw [B_lst, B_lst, beq_iff_eq]; exact hx.symm
      have hkk : kindOf w = some i := kindOf_first hi hI (by rw [hg]; exact hx)
      simp -implicitDefEqProofs only [go_sem, seval, hdi, hw0, txtsB_len, List.length_cons]
      (with_reducible and_intros)<;>first|exact .dq|omega|skip
      refine CallN.pure hK ?_
      simp -implicitDefEqProofs only [go_sem, seval, hti, hm, hw0, bne, hb, txtsB_len, List.length_cons, kindW_len]
      (with_reducible and_intros)<;>first|exact .dq|omega|skip
      refine LoopK.walk (S := List Int) ws.length [2, 4, 5] [48] (fun j _ => [(6, .ref 800), (7, .int .i64 ((j : Int) + 1))]) (fun _ ns => [(800, .own 1 (ints ns))]) (fun j ns => numsOf (ws.take j) = some ns) [] rfl ?_ ?_ ?_
      · simp -implicitDefEqProofs only [go_sem, seval] <;> simp [ints]
      · intro j ns hj _ _ hns
        have hdj : decide ((j : Int) + 1 < ((ws.length + 1 : Nat) : Int)) = true := decide_eq_true (by omega)
        have htj : ((j : Int) + 1).toNat = j + 1 := by omega
        have hwj : IntKind.wrap .i64 ((j : Int) + 1 + 1) = ((j + 1 : Nat) : Int) + 1 := by rw [wr64 (by omega) (by omega)]; omega
        have hmw : (txtsB (w :: ws)).getD (j + 1) [] = [.str (B (ws[j]'(by omega)))] := by
          rw [txtsB_at _ (by simp; omega)]; rfl
        have hN := num27_any (ws[j]'(by omega)) (hwl _ (List.getElem_mem _))
        have hln : ns.length = j := by rw [numsOf_len hns]; simp; omega
        cases hnum : numOf (ws[j]'(by omega)) with
        | none =>
          have e : R = none := by rw [hR0, hkk, numsOf_at hj hnum]
          have hN2 : numD (ws[j]'(by omega)) = .tup [.int .i64 0, .bool false] := by unfold numD; rw [hnum]; rfl
          rw [hN2] at hN
          subst e
          rw [show (none : Option (List Int)).getD zeroC = zeroC from rfl, ciz]
          simp -implicitDefEqProofs only [go_sem, seval, hdj, htj, hmw, txtsB_len, List.length_cons]
          (with_reducible and_intros)<;>first|exact .dq|omega|skip
          refine CallN.pure hN ?_
          simp -implicitDefEqProofs only [go_sem, seval]
        | some n =>
          have hN2 : numD (ws[j]'(by omega)) = .tup [.int .i64 n, .bool true] := by unfold numD; rw [hnum]; rfl
          rw [hN2] at hN
          have hst := numsOf_app hns hnum
          rw [← List.take_succ_eq_append_getElem hj] at hst
          simp -implicitDefEqProofs only [go_sem, seval, hdj, htj, hmw, txtsB_len, List.length_cons]
          (with_reducible and_intros)<;>first|exact .dq|omega|skip
          refine CallN.pure hN ?_
          simp -implicitDefEqProofs only [go_sem, seval, ints_len, hln, ints_app]
          (with_reducible and_intros)<;>first|exact .dq|omega|skip
          refine RoundK.step (ns ++ [n]) hj hst ?_
          simp -implicitDefEqProofs only [go_sem, seval, hwj]
      intro ns hdx hns
      rw [List.take_length] at hns
      have hdx : decide ((ws.length : Int) + 1 < ((ws.length + 1 : Nat) : Int)) = false := decide_eq_false (by omega)
      simp -implicitDefEqProofs only [go_sem, seval, hdx, txtsB_len, List.length_cons]
      (with_reducible and_intros)<;>first|exact .dq|omega|skip
      have hNm := ref25Names_spec ((i : Int) + 1) ⟨by omega, by omega⟩
      rw [fbL_eq hi] at hNm
      have hfl := fbL_len i hi
      have hp12 := placeL_len i hi
      have hpo : (placeL i).length = (offL i).length + 2 := by simp [placeL]
      have hlw := numsOf_len hns
      refine CallN.pure hNm ?_
      by_cases hne1 : i = 1
      · have hq : ((i : Int) + 1 == 2) = true := by rw [beq_iff_eq]; omega
        rw [if_pos hne1] at hfl
        have hfl5 : (fbL i).length = 5 := by rw [hne1]; rfl
        have hw4 : IntKind.wrap .i64 ((((fbL i).length + 2 : Nat) : Int) - 1) = 6 := by rw [hfl5]; decide
        have hw5 : IntKind.wrap .i64 12 = 12 := by decide
        have hw3 : IntKind.wrap .i64 (((fbL i).length : Int) + 2) = (((fbL i).length + 2 : Nat) : Int) := by rw [wr64 (by omega) (by omega)]; omega
        simp -implicitDefEqProofs only [go_sem, seval, B_size, hw3, hq, ints_len, hw4, hw5]
        (with_reducible and_intros)<;>first|exact .dq|omega|skip
        by_cases hlen : ns.length = (placeL i).length
        case neg =>
          have q : ((ns.length : Int) == 12) = false := by rw [beq_eq_false_iff_ne]; omega
          have e : R = none := by rw [hR0, hkk, hns]; simp only; rw [if_neg hlen]
          subst e
          rw [show (none : Option (List Int)).getD zeroC = zeroC from rfl, ciz]
          simp -implicitDefEqProofs only [go_sem, seval, bne, q, ints_len]
        have q : ((ns.length : Int) == 12) = true := by rw [beq_iff_eq]; omega
        obtain ⟨n0, n1, rest, h3⟩ : ∃ n0 n1 rest, ns = n0 :: n1 :: rest := by
          match ns, (show 2 ≤ ns.length by omega) with
          | a :: b :: r, _ => exact ⟨a, b, r, rfl⟩
        have hrl : rest.length = (offL i).length := by
          rw [h3] at hlen
          simp only [List.length_cons, placeL] at hlen; omega
        have hRs : R = some (putL (bareC n0 n1 i) (offL i) rest) := by
          rw [hR0, hkk, hns]; simp only; rw [if_pos hlen, h3]; rfl
        have i0 : (ints ns).getD 0 [] = [.int .i64 n0] := by rw [h3]; rfl
        have i1 : (ints ns).getD 1 [] = [.int .i64 n1] := by rw [h3]; rfl
        simp -implicitDefEqProofs only [go_sem, seval, bne, q, ints_len, i0, i1]
        (with_reducible and_intros)<;>first|exact .dq|omega|skip
        refine LoopK.walk (S := List Int) (fbL i).length [2, 5, 6, 10, 12] [48, 800] (fun j _ => [(13, .int .i64 j)]) (fun j c => [(208, .box (ci c))]) (fun j c => c.length = 17 ∧ c = putL (bareC n0 n1 i) ((offL i).take (min j 4)) (rest.take (min j 4))) (bareC n0 n1 i) ⟨rfl, rfl⟩ ?_ ?_ ?_
        · simp -implicitDefEqProofs only [go_sem, seval, ci, bareC, List.map_cons, List.map_nil]
        · intro j c hj hdj hwj ⟨hc, hcp⟩
          have hat := B_at (fbL i) j hj
          have hgd : (fbL i)[j] = (fbL i).getD j 0 := by rw [List.getD, List.getElem?_eq_getElem hj]; rfl
          rw [hgd] at hat
          have hF := fbL_at hi hj
          obtain ⟨b, hb⟩ : ∃ b, b = (fbL i).getD j 0 := ⟨_, rfl⟩
          rw [← hb] at hF hat
          have hjlt : (j : Int) < ((fbL i).length : Int) := by omega
          have h0j : (0 : Int) ≤ (j : Int) := by omega
          rcases hF with ⟨hb1, hi1, hj4⟩ | ⟨hb1, hb2, hb3, hb4, hb5⟩
          · have hq5 : (((b.toNat : Nat) : Int) == 115) = true := by rw [hb1]; rfl
            simp -implicitDefEqProofs only [go_sem, seval, B_size, hdj, Int.toNat_natCast, hat, bne, hq5]
            (with_reducible and_intros)<;>first|exact .dq|omega|skip
            refine RoundK.step c hj ⟨hc, by rw [show min (j + 1) 4 = min j 4 by omega]; exact hcp⟩ ?_
            simp -implicitDefEqProofs only [go_sem, seval, hwj]
          · have hq5 : (((b.toNat : Nat) : Int) == 115) = false := by
              rw [beq_eq_false_iff_ne]; intro h; apply hb1
              exact UInt8.toNat_inj.1 (show b.toNat = 115 by omega)
            have hw2 : IntKind.wrap .i64 (2 + (j : Int)) = ((j + 2 : Nat) : Int) := by rw [wr64 (by omega) (by omega)]; omega
            have hjr : j < rest.length := by omega
            have hir : (ints ns).getD (j + 2) [] = [.int .i64 (rest[j]'hjr)] := by rw [h3]; exact ints_at rest hjr
            have hP := put_spec c hc b (rest[j]'hjr) hb5
            have hpt := putL_step (offL i) (bareC n0 n1 i) (rest.take j) j (rest[j]'hjr) hb3 (by simp; omega)
            rw [← List.take_succ_eq_append_getElem hjr] at hpt
            simp -implicitDefEqProofs only [go_sem, seval, B_size, hdj, Int.toNat_natCast, hat, bne, hq5, hw2, ints_len, hir]
            (with_reducible and_intros)<;>first|exact .dq|omega|skip
            refine CallN.gen [] [208] false (by simp) ?_
            simp -implicitDefEqProofs only [go_sem, seval]
            refine CallG.intro hP ?_
            simp -implicitDefEqProofs only [go_sem, seval, hwj]
            refine RoundK.step (c.set (offB b) (rest[j]'hjr)) hj ⟨by simp [hc], by rw [show min (j + 1) 4 = j + 1 by omega, hpt, hb2, hcp, show min j 4 = j by omega]⟩ ?_
            simp -implicitDefEqProofs only [go_sem, seval]
        · intro c hdx ⟨hc, hcp⟩
          simp -implicitDefEqProofs only [go_sem, seval, B_size, hdx]
          have h5 : min (fbL i).length 4 = 4 + 0 := by omega
          refine LoopK.walk (S := List Int) 6 [2, 5, 6, 12] [48, 800] (fun j _ => [(14, .int .i64 j)]) (fun j c => [(208, .box (ci c))]) (fun j c => c.length = 17 ∧ c = putL (bareC n0 n1 i) ((offL i).take (4 + j)) (rest.take (4 + j))) c ⟨hc, by rw [hcp, h5]⟩ ?_ ?_ ?_
          · simp -implicitDefEqProofs only [go_sem, seval] <;> simp
          · intro j c hj _ hwj ⟨hc, hcp⟩
            have hdj : decide ((j : Int) < 6) = true := decide_eq_true (by omega)
            have hjr : 4 + j < rest.length := by omega
            have hnl : ns.length = 12 := by omega
            have hw6 : IntKind.wrap .i64 6 = 6 := by decide
            have hw7 : IntKind.wrap .i64 (6 + (j : Int)) = ((4 + j + 2 : Nat) : Int) := by rw [wr64 (by omega) (by omega)]; omega
            have hir : (ints ns).getD (4 + j + 2) [] = [.int .i64 (rest[4 + j]'hjr)] := by rw [h3]; exact ints_at rest hjr
            have hpt := putL_step (offL i) (bareC n0 n1 i) (rest.take (4 + j)) (4 + j) (rest[4 + j]'hjr) (by omega) (by simp; omega)
            rw [← List.take_succ_eq_append_getElem hjr] at hpt
            have ho : (offL i).getD (4 + j) 0 = 11 + j * 1 := by
              rw [hne1]
              rcases (by omega : j = 0 ∨ j = 1 ∨ j = 2 ∨ j = 3 ∨ j = 4 ∨ j = 5) with rfl | rfl | rfl | rfl | rfl | rfl <;> rfl
            have hpu := ci_put c (11 + j * 1) (rest[4 + j]'hjr) (by omega)
            have hpv : List.take (11 + j * 1) (ci c) ++ [D.int IntKind.i64 (rest[4 + j]'hjr)] ++ List.drop (11 + j * 1 + 1) (ci c) = ci (c.set (11 + j * 1) (rest[4 + j]'hjr)) := hpu
            simp -implicitDefEqProofs only [go_sem, seval, hdj, hq, ints_len, hnl, hw6, hw7, Int.toNat_natCast, hir]
            (with_reducible and_intros)<;>first|exact .dq|omega|skip
            rw [hpv]
            refine RoundK.step (c.set (11 + j * 1) (rest[4 + j]'hjr)) hj ⟨by simp [hc], by rw [← Nat.add_assoc, hpt, ← hcp, ho]⟩ ?_
            simp -implicitDefEqProofs only [go_sem, seval, hwj]
          · intro c _ ⟨hc, hcp⟩
            have hdx : decide ((6 : Int) < 6) = false := by decide
            have hcR : R = some c := by
              rw [hRs, hcp, List.take_of_length_le (by omega), List.take_of_length_le (by omega)]
            have htk : List.take 17 (ci c) = ci c := List.take_of_length_le (by rw [ci_len]; omega)
            subst hcR
            rw [show (some c : Option (List Int)).getD zeroC = c from rfl]
            simp -implicitDefEqProofs only [go_sem, seval, hdx, htk, hc, List.append_nil]
            exact ci_ok c
      · have hq : ((i : Int) + 1 == 2) = false := by rw [beq_eq_false_iff_ne]; omega
        rw [if_neg hne1] at hfl
        have hw3 : IntKind.wrap .i64 (((fbL i).length : Int) + 2) = (((fbL i).length + 2 : Nat) : Int) := by rw [wr64 (by omega) (by omega)]; omega
        simp -implicitDefEqProofs only [go_sem, seval, B_size, hw3, hq, ints_len]
        (with_reducible and_intros)<;>first|exact .dq|omega|skip
        by_cases hlen : ns.length = (placeL i).length
        case neg =>
          have q : ((ns.length : Int) == (((fbL i).length + 2 : Nat) : Int)) = false := by rw [beq_eq_false_iff_ne]; omega
          have e : R = none := by rw [hR0, hkk, hns]; simp only; rw [if_neg hlen]
          subst e
          rw [show (none : Option (List Int)).getD zeroC = zeroC from rfl, ciz]
          simp -implicitDefEqProofs only [go_sem, seval, bne, q, ints_len]
        have q : ((ns.length : Int) == (((fbL i).length + 2 : Nat) : Int)) = true := by rw [beq_iff_eq]; omega
        obtain ⟨n0, n1, rest, h3⟩ : ∃ n0 n1 rest, ns = n0 :: n1 :: rest := by
          match ns, (show 2 ≤ ns.length by omega) with
          | a :: b :: r, _ => exact ⟨a, b, r, rfl⟩
        have hrl : rest.length = (offL i).length := by
          rw [h3] at hlen
          simp only [List.length_cons, placeL] at hlen; omega
        have hRs : R = some (putL (bareC n0 n1 i) (offL i) rest) := by
          rw [hR0, hkk, hns]; simp only; rw [if_pos hlen, h3]; rfl
        have i0 : (ints ns).getD 0 [] = [.int .i64 n0] := by rw [h3]; rfl
        have i1 : (ints ns).getD 1 [] = [.int .i64 n1] := by rw [h3]; rfl
        simp -implicitDefEqProofs only [go_sem, seval, bne, q, ints_len, i0, i1]
        (with_reducible and_intros)<;>first|exact .dq|omega|skip
        refine LoopK.walk (S := List Int) (fbL i).length [2, 5, 6, 10, 12] [48, 800] (fun j _ => [(13, .int .i64 j)]) (fun j c => [(208, .box (ci c))]) (fun j c => c.length = 17 ∧ c = putL (bareC n0 n1 i) ((offL i).take (j)) (rest.take (j))) (bareC n0 n1 i) ⟨rfl, rfl⟩ ?_ ?_ ?_
        · simp -implicitDefEqProofs only [go_sem, seval, ci, bareC, List.map_cons, List.map_nil]
        · intro j c hj hdj hwj ⟨hc, hcp⟩
          have hat := B_at (fbL i) j hj
          have hgd : (fbL i)[j] = (fbL i).getD j 0 := by rw [List.getD, List.getElem?_eq_getElem hj]; rfl
          rw [hgd] at hat
          have hF := fbL_at hi hj
          obtain ⟨b, hb⟩ : ∃ b, b = (fbL i).getD j 0 := ⟨_, rfl⟩
          rw [← hb] at hF hat
          have hjlt : (j : Int) < ((fbL i).length : Int) := by omega
          have h0j : (0 : Int) ≤ (j : Int) := by omega
          rcases hF with ⟨hb1, hi1, hj4⟩ | ⟨hb1, hb2, hb3, hb4, hb5⟩
          · exact absurd hi1 hne1
          · have hq5 : (((b.toNat : Nat) : Int) == 115) = false := by
              rw [beq_eq_false_iff_ne]; intro h; apply hb1
              exact UInt8.toNat_inj.1 (show b.toNat = 115 by omega)
            have hw2 : IntKind.wrap .i64 (2 + (j : Int)) = ((j + 2 : Nat) : Int) := by rw [wr64 (by omega) (by omega)]; omega
            have hjr : j < rest.length := by omega
            have hir : (ints ns).getD (j + 2) [] = [.int .i64 (rest[j]'hjr)] := by rw [h3]; exact ints_at rest hjr
            have hP := put_spec c hc b (rest[j]'hjr) hb5
            have hpt := putL_step (offL i) (bareC n0 n1 i) (rest.take j) j (rest[j]'hjr) hb3 (by simp; omega)
            rw [← List.take_succ_eq_append_getElem hjr] at hpt
            simp -implicitDefEqProofs only [go_sem, seval, B_size, hdj, Int.toNat_natCast, hat, bne, hq5, hw2, ints_len, hir]
            (with_reducible and_intros)<;>first|exact .dq|omega|skip
            refine CallN.gen [] [208] false (by simp) ?_
            simp -implicitDefEqProofs only [go_sem, seval]
            refine CallG.intro hP ?_
            simp -implicitDefEqProofs only [go_sem, seval, hwj]
            refine RoundK.step (c.set (offB b) (rest[j]'hjr)) hj ⟨by simp [hc], by rw [hpt, ← hcp, hb2]⟩ ?_
            simp -implicitDefEqProofs only [go_sem, seval]
        · intro c hdx ⟨hc, hcp⟩
          simp -implicitDefEqProofs only [go_sem, seval, B_size, hdx]
          refine LoopK.walk (S := Unit) 0 [2, 5, 6, 12] [48, 208, 800] (fun _ _ => [(14, .int .i64 0)]) (fun _ _ => []) (fun _ _ => True) () trivial ?_ ?_ ?_
          · simp -implicitDefEqProofs only [go_sem, seval]
          · intro j _ hj; omega
          · intro _ _ _
            have hcR : R = some c := by
              rw [hRs, hcp, List.take_of_length_le (by omega), List.take_of_length_le (by omega)]
            have htk : List.take 17 (ci c) = ci c := List.take_of_length_le (by rw [ci_len]; omega)
            subst hcR
            rw [show (some c : Option (List Int)).getD zeroC = c from rfl]
            simp -implicitDefEqProofs only [go_sem, seval, hq, htk, hc, List.append_nil]
            exact ci_ok c
  · intro _ _ hI
    have hdx : decide (((22 : Nat) : Int) + 1 ≤ 22) = false := by decide
    have e : R = none := by rw [hR0, kindOf_none hI]
    subst e
    rw [show (none : Option (List Int)).getD zeroC = zeroC from rfl, ciz]
    simp -implicitDefEqProofs only [go_sem, seval, hdx]
end Go.Proofs.YtdklpddmplflgaaDoor
