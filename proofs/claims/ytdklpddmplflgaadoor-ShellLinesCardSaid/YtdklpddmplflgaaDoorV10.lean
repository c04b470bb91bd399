/- A command's line, by the reference; no theorem of a claim. -/
import Derived.Test.YtdklpddmplflgaaDoorV9
set_option linter.unusedSimpArgs false
set_option linter.unusedVariables false
namespace Go.Proofs.YtdklpddmplflgaaDoor
open Go.Abs
open Go.Lib (itoa)
set_option maxRecDepth 8000 in
theorem say27_spec (w : List UInt8) (ns : List Int) (hw : w.length ≤ 100000) (hn : ns.length ≤ 100) (h : ∀ n ∈ ns, I64 n) : Abs.Spec Tryd.prog 32 [] [.str (B w), .sl 1 (ints ns)] [] (.str (B (w ++ tailN ns))) := by
  refine sgo 21 2 [.tmp 4] mixed Tryd.func32 ?_
  simp -implicitDefEqProofs only [go_sem, seval, ints_len]
  refine LoopK.walk (S := Unit) ns.length [1] [] (fun i _ => [(0, .str (B (w ++ tailN (ns.take i)))), (5, .int .i64 i)]) (fun _ _ => []) (fun _ _ => True) () trivial ?_ ?_ ?_
  · simp -implicitDefEqProofs only [go_sem, seval] <;> simp [tailN]
  · intro i _ hi hdi hwi _
    have hm := ints_at ns hi
    have hN := h _ (List.getElem_mem hi)
    have hI := number27_spec ns[i] hN
    have h1 := itoa_len _ hN
    have h2 := tailN_len (ns.take i) fun x hx => h x (List.mem_of_mem_take hx)
    have h3 : (ns.take i).length ≤ 100 := by simp; omega
    have hli : (i : Int) < (ns.length : Int) := by omega
    have hs : w ++ tailN (ns.take i) ++ [32] ++ itoa ns[i] = w ++ tailN (ns.take (i + 1)) := by rw [tailN_step ns hi]; simp
    have hz2 : (w ++ tailN (ns.take i)).length ≤ 104000 := by rw [List.length_append]; omega
    obtain ⟨T, hT⟩ : ∃ T, T = w ++ tailN (ns.take i) := ⟨_, rfl⟩
    rw [← hT] at hs hz2 ⊢
    clear hT h2 h3
    simp -implicitDefEqProofs only [go_sem, seval, ints_len, hdi, hm, B_mk, B_app, B_size, List.length_append, List.length_cons, List.length_nil]
    (with_reducible and_intros)<;>first|exact .dq|omega|skip
    refine CallN.pure hI ?_
    simp -implicitDefEqProofs only [go_sem, seval, B_mk, B_app, B_size, hwi, hs, List.length_append, List.length_cons, List.length_nil]
    (with_reducible and_intros)<;>first|exact .dq|omega|skip
    refine RoundK.step () hi trivial ?_
    simp -implicitDefEqProofs only [go_sem, seval]
  · intro _ hdx _
    simp -implicitDefEqProofs only [go_sem, seval, ints_len, hdx, List.take_length]
/-- the line as far as so many fields -/
def TT (k : Nat) (c : List Int) (m : Nat) : List UInt8 := kindW.getD k [] ++ tailN (((placeL k).take (2 + m)).map fun o => c.getD o 0)
theorem TT_step (k : Nat) (c : List Int) {j : Nat} (h : j < (offL k).length) : TT k c j ++ 32 :: itoa (c.getD ((offL k).getD j 0) 0) = TT k c (j + 1) := by
  have e : (placeL k).take (2 + (j + 1)) = (placeL k).take (2 + j) ++ [(offL k).getD j 0] := by
    have hl : 2 + j < (placeL k).length := by simp [placeL]; omega
    rw [show 2 + (j + 1) = 2 + j + 1 by omega, List.take_succ_eq_append_getElem hl]
    congr 2
    simp only [placeL, show 2 + j = j + 1 + 1 by omega, List.getElem_cons_succ]
    rw [List.getD, List.getElem?_eq_getElem h]; rfl
  simp only [TT, e, List.map_append, List.map_cons, List.map_nil, tailN, List.flatMap_append, List.flatMap_cons, List.flatMap_nil, List.append_assoc, List.append_nil]
theorem TT_full (k : Nat) (c : List Int) (n : Nat) (h : (offL k).length ≤ n) : TT k c n = lineC k c := by
  rw [TT, List.take_of_length_le (by simp [placeL]; omega), tailN_joinW, lineC, List.map_map]
  rfl
theorem TT_len (k : Nat) (hk : k < 22) (c : List Int) (hr : ∀ o, I64 (c.getD o 0)) (m : Nat) : (TT k c m).length ≤ 400 := by
  have h1 := tailN_len (((placeL k).take (2 + m)).map fun o => c.getD o 0) (by
    intro x hx
    obtain ⟨o, _, rfl⟩ := List.mem_map.1 hx
    exact hr o)
  have h2 := kindW_short k hk
  have h3 := placeL_len k hk
  simp only [List.length_map, List.length_take] at h1
  rw [TT, List.length_append]; omega
theorem field_off (x : CmdV) (b : UInt8) (hb : b = 119 ∨ b = 111 ∨ b = 110 ∨ b = 105 ∨ b = 99 ∨ b = 113 ∨ b = 112 ∨ b = 97) : fieldV x (b.toNat : Int) = x.ns.getD (offB b) 0 := by
  rcases hb with rfl | rfl | rfl | rfl | rfl | rfl | rfl | rfl <;> rfl
set_option maxRecDepth 8000 in
set_option maxHeartbeats 4000000 in
theorem refLine_spec (x : CmdV) (hr : ∀ o, I64 (x.ns.getD o 0)) : Abs.Spec Tryd.prog 16 [] [.agg x.cells] [] (.tup [.str (B ((lineR x.ns).getD [])), .bool (lineR x.ns).isSome]) := by
  have hK := names_spec
  obtain ⟨L, hL⟩ : ∃ L, L = lineR x.ns := ⟨_, rfl⟩
  rw [← hL]
  have hc : x.ns.length = 17 := rfl
  have h20 : x.ns.getD 2 0 = x.kind := rfl
  by_cases hlo : x.kind < 1
  · have d1 : decide (x.kind < 1) = true := decide_eq_true hlo
    have e : L = none := by
      rw [hL]; unfold lineR okK
      rw [h20, decide_eq_false (by omega)]; rfl
    subst e
    simp only [CmdV.cells]
    refine sgo 82 1 [.tmp 2, .tmp 3] mixed Tryd.func16 ?_
    simp -implicitDefEqProofs only [go_sem, seval, d1]
    rfl
  have d1 : decide (x.kind < 1) = false := decide_eq_false hlo
  by_cases hhi : 22 < x.kind
  · have d2 : decide (22 < x.kind) = true := decide_eq_true hhi
    have e : L = none := by
      rw [hL]; unfold lineR okK
      rw [h20, decide_eq_false (by omega)]; rfl
    subst e
    simp only [CmdV.cells]
    refine sgo 82 1 [.tmp 2, .tmp 3] mixed Tryd.func16 ?_
    simp -implicitDefEqProofs only [go_sem, seval, d1, d2]
    rfl
  have d2 : decide (22 < x.kind) = false := decide_eq_false hhi
  obtain ⟨k, hk⟩ : ∃ k : Nat, x.kind = (k : Int) + 1 := ⟨(x.kind - 1).toNat, by omega⟩
  have hk22 : k < 22 := by omega
  have hLk : L = if bare k x.ns then some (lineC k x.ns) else none := by
    rw [hL]; unfold lineR okK
    rw [h20, decide_eq_true (by omega), if_pos rfl, show x.kind.toNat - 1 = k by omega]
  have hti : x.kind.toNat = k + 1 := by omega
  have hmw : (txtsB ([] :: kindW)).getD (k + 1) [] = [.str (B (kindW.getD k []))] := by
    rw [txtsB_at _ (by simp [kindW_len]; omega), List.getD, List.getElem?_eq_getElem (by rw [kindW_len]; exact hk22)]; rfl
  have hsay := say27_spec (kindW.getD k []) [x.client, x.seq] (by have := kindW_short k hk22; omega) (by simp) (by
    intro n hn
    rcases List.mem_cons.1 hn with rfl | hn
    · exact hr 0
    · rw [List.mem_singleton.1 hn]; exact hr 1)
  have hT0 : kindW.getD k [] ++ tailN [x.client, x.seq] = TT k x.ns 0 := rfl
  rw [hT0] at hsay
  simp only [ints, List.map_cons, List.map_nil] at hsay
  have hNm := ref25Names_spec ((k : Int) + 1) ⟨by omega, by omega⟩
  rw [fbL_eq hk22, ← hk] at hNm
  have hfl := fbL_len k hk22
  have hp12 := placeL_len k hk22
  have hpo : (placeL k).length = (offL k).length + 2 := by simp [placeL]
  have hTl := TT_len k hk22 x.ns hr
  have hfd := ref25Field_spec x
  have hsh := fun {i : Nat} (h : i < 6) => cmd_sh x h
  have hshn : ∀ i, i < 6 → x.sh i = x.ns.getD (11 + i) 0 := fun i hi => by
    rcases (by omega : i = 0 ∨ i = 1 ∨ i = 2 ∨ i = 3 ∨ i = 4 ∨ i = 5) with rfl | rfl | rfl | rfl | rfl | rfl <;> rfl
  have hrd := read_line k hk22 x.ns hr
  obtain ⟨d, hd⟩ : ∃ d, d = putL (bareC 0 0 k) (placeL k) ((placeL k).map fun o => x.ns.getD o 0) := ⟨_, rfl⟩
  rw [← hd] at hrd
  have hdl : d.length = 17 := by rw [hd, putL_len]; rfl
  have hRd := refRead_spec (lineC k x.ns) (by have := hTl (offL k).length; rw [TT_full _ _ _ (Nat.le_refl _)] at this; omega)
  rw [hrd] at hRd
  have hkeep := keepC_spec hc hdl
  have hbi := bare_iff k hk22 x.ns hc (by rw [h20]; exact hk)
  rw [← hd] at hbi
  rw [show (some d : Option (List Int)).getD zeroC = d from rfl, show (some d : Option (List Int)).isSome = true from rfl] at hRd
  rw [show ci x.ns = x.cells from rfl] at hkeep
  simp only [CmdV.cells] at hfd hsh hkeep ⊢
  refine sgo 82 1 [.tmp 2, .tmp 3] mixed Tryd.func16 ?_
  simp -implicitDefEqProofs only [go_sem, seval, d1, d2]
  (with_reducible and_intros)<;>first|exact .dq|omega|exact ci_ok _|skip
  refine CallN.pure hK ?_
  simp -implicitDefEqProofs only [go_sem, seval, hti, txtsB_len, kindW_len, hmw, List.length_cons]
  (with_reducible and_intros)<;>first|exact .dq|omega|exact ci_ok _|skip
  refine CallN.gen [] [] true (by simp) ?_
  simp -implicitDefEqProofs only [go_sem, seval]
  refine CallG.intro hsay ?_
  simp -implicitDefEqProofs only [go_sem, seval]
  (with_reducible and_intros)<;>first|exact .dq|omega|exact ci_ok _|skip
  refine CallN.pure hNm ?_
  simp -implicitDefEqProofs only [go_sem, seval]
  (with_reducible and_intros)<;>first|exact .dq|omega|exact ci_ok _|skip
  have hTs := fun {j : Nat} (h : j < (offL k).length) => TT_step k x.ns h
  refine LoopK.walk (S := Unit) (fbL k).length [1, 5] [32] (fun j _ => [(4, .str (B (TT k x.ns (if k = 1 then min j 4 else j)))), (6, .int .i64 j)]) (fun _ _ => []) (fun _ _ => True) () trivial ?_ ?_ ?_
  · rw [show (if k = 1 then min 0 4 else 0) = 0 by split <;> rfl]
    simp -implicitDefEqProofs only [go_sem, seval] <;> simp
  · intro j _ hj hdj hwj _
    have hat := B_at (fbL k) j hj
    have hgd : (fbL k)[j] = (fbL k).getD j 0 := by rw [List.getD, List.getElem?_eq_getElem hj]; rfl
    rw [hgd] at hat
    have hF := fbL_at hk22 hj
    obtain ⟨b, hb⟩ : ∃ b, b = (fbL k).getD j 0 := ⟨_, rfl⟩
    rw [← hb] at hF hat
    have hjlt : (j : Int) < ((fbL k).length : Int) := by omega
    have h0j : (0 : Int) ≤ (j : Int) := by omega
    rcases hF with ⟨hb1, hk1, hj4⟩ | ⟨hb1, hb2, hb3, hb4, hb5⟩
    · have hq5 : (((b.toNat : Nat) : Int) == 115) = true := by rw [hb1]; rfl
      have hMM : (if k = 1 then min (j + 1) 4 else j + 1) = (if k = 1 then min j 4 else j) := by rw [if_pos hk1, if_pos hk1]; omega
      simp -implicitDefEqProofs only [go_sem, seval, B_size, hdj, Int.toNat_natCast, hat, bne, hq5]
      (with_reducible and_intros)<;>first|exact .dq|omega|exact ci_ok _|skip
      refine RoundK.step () hj trivial ?_
      rw [hMM]
      simp -implicitDefEqProofs only [go_sem, seval, hwj]
    · have hq5 : (((b.toNat : Nat) : Int) == 115) = false := by
        rw [beq_eq_false_iff_ne]; intro h; apply hb1
        exact UInt8.toNat_inj.1 (show b.toNat = 115 by omega)
      have hM1 : (if k = 1 then min j 4 else j) = j := by split <;> omega
      have hM2 : (if k = 1 then min (j + 1) 4 else j + 1) = j + 1 := by split <;> omega
      have hf := hfd (b.toNat : Int)
      rw [field_off x b hb5, hb2] at hf
      have hv := hr ((offL k).getD j 0)
      have hnum := number27_spec _ hv
      have hil := itoa_len _ hv
      have hst := hTs hb3
      have hl := hTl j
      obtain ⟨v, hvd⟩ : ∃ v, v = x.ns.getD ((offL k).getD j 0) 0 := ⟨_, rfl⟩
      rw [← hvd] at hf hnum hil hst
      obtain ⟨T, hT⟩ : ∃ T, T = TT k x.ns j := ⟨_, rfl⟩
      rw [hM1, ← hT]
      rw [← hT] at hst hl
      have hs2 : T ++ [32] ++ itoa v = TT k x.ns (j + 1) := by rw [← hst]; simp
      simp -implicitDefEqProofs only [go_sem, seval, B_mk, B_app, B_size, hdj, Int.toNat_natCast, hat, bne, hq5, List.length_append, List.length_cons, List.length_nil]
      (with_reducible and_intros)<;>first|exact .dq|omega|exact ci_ok _|skip
      refine CallN.pure hf ?_
      simp -implicitDefEqProofs only [go_sem, seval]
      (with_reducible and_intros)<;>first|exact .dq|omega|exact ci_ok _|skip
      refine CallN.pure hnum ?_
      simp -implicitDefEqProofs only [go_sem, seval, B_mk, B_app, B_size, hs2, List.length_append, List.length_cons, List.length_nil]
      (with_reducible and_intros)<;>first|exact .dq|omega|exact ci_ok _|skip
      refine RoundK.step () hj trivial ?_
      rw [hM2]
      simp -implicitDefEqProofs only [go_sem, seval, hwj]
  intro _ hdx _
  simp -implicitDefEqProofs only [go_sem, seval, B_size, hdx]
  (with_reducible and_intros)<;>first|exact .dq|omega|exact ci_ok _|skip
  have htk : List.take 17 (ci d) = ci d := List.take_of_length_le (by rw [ci_len]; omega)
  by_cases hk1 : k = 1
  · have hq : (x.kind == 2) = true := by rw [beq_iff_eq]; omega
    have hfl5 : (fbL k).length = 5 := by rw [hk1]; rfl
    have hol : (offL k).length = 10 := by rw [hk1]; rfl
    rw [if_pos hk1, hfl5]
    refine LoopK.walk (S := Unit) 6 [1] [32] (fun j _ => [(4, .str (B (TT k x.ns (4 + j)))), (7, .int .i64 j)]) (fun _ _ => []) (fun _ _ => True) () trivial ?_ ?_ ?_
    · simp -implicitDefEqProofs only [go_sem, seval] <;> simp
    · intro j _ hj _ hwj _
      have hdj : decide ((j : Int) < 6) = true := decide_eq_true (by omega)
      have hs0 := hsh hj
      have ho : (offL k).getD (4 + j) 0 = 11 + j := by
        rw [hk1]
        rcases (by omega : j = 0 ∨ j = 1 ∨ j = 2 ∨ j = 3 ∨ j = 4 ∨ j = 5) with rfl | rfl | rfl | rfl | rfl | rfl <;> rfl
      have hv := hr (11 + j)
      have hst := hTs (j := 4 + j) (by omega)
      rw [ho, ← hshn j hj] at hst
      rw [← hshn j hj] at hv
      have hnum := number27_spec _ hv
      have hil := itoa_len _ hv
      have hl := hTl (4 + j)
      obtain ⟨T, hT⟩ : ∃ T, T = TT k x.ns (4 + j) := ⟨_, rfl⟩
      rw [← hT]
      rw [← hT] at hst hl
      have hs2 : T ++ [32] ++ itoa (x.sh j) = TT k x.ns (4 + (j + 1)) := by rw [show 4 + (j + 1) = 4 + j + 1 by omega, ← hst]; simp
      simp -implicitDefEqProofs only [go_sem, seval, B_mk, B_app, B_size, hdj, hq, hs0, List.length_append, List.length_cons, List.length_nil]
      (with_reducible and_intros)<;>first|exact .dq|omega|exact ci_ok _|skip
      refine CallN.pure hnum ?_
      simp -implicitDefEqProofs only [go_sem, seval, B_mk, B_app, B_size, hs2, List.length_append, List.length_cons, List.length_nil]
      (with_reducible and_intros)<;>first|exact .dq|omega|exact ci_ok _|skip
      refine RoundK.step () hj trivial ?_
      simp -implicitDefEqProofs only [go_sem, seval, hwj]
    · intro _ _ _
      have hdx : decide ((6 : Int) < 6) = false := by decide
      rw [TT_full _ _ _ (by omega)]
      have hl := hTl (offL k).length
      rw [TT_full _ _ _ (Nat.le_refl _)] at hl
      simp -implicitDefEqProofs only [go_sem, seval, hdx, hq]
      (with_reducible and_intros)<;>first|exact .dq|omega|exact ci_ok _|skip
      refine CallN.pure hRd ?_
      simp -implicitDefEqProofs only [go_sem, seval, htk, hdl, List.append_nil]
      (with_reducible and_intros)<;>first|exact .dq|omega|exact ci_ok _|skip
      refine CallN.pure hkeep ?_
      cases hbb : bare k x.ns
      · have hne : decide (x.ns = d) = false := decide_eq_false fun h => by
          have := hbi.2 h.symm
          rw [hbb] at this; cases this
        have e : L = none := by rw [hLk, hbb]; rfl
        subst e
        simp -implicitDefEqProofs only [go_sem, seval, hne]
        rfl
      · have hye : decide (x.ns = d) = true := decide_eq_true (hbi.1 hbb).symm
        have e : L = some (lineC k x.ns) := by rw [hLk, hbb]; rfl
        subst e
        simp -implicitDefEqProofs only [go_sem, seval, hye]
  · have hq : (x.kind == 2) = false := by rw [beq_eq_false_iff_ne]; omega
    rw [if_neg hk1] at hfl
    rw [if_neg hk1, TT_full _ _ _ (by omega)]
    refine LoopK.walk (S := Unit) 0 [1] [32] (fun _ _ => [(4, .str (B (lineC k x.ns))), (7, .int .i64 0)]) (fun _ _ => []) (fun _ _ => True) () trivial ?_ ?_ ?_
    · simp -implicitDefEqProofs only [go_sem, seval]
    · intro j _ hj; omega
    intro _ _ _
    have hl := hTl (offL k).length
    rw [TT_full _ _ _ (Nat.le_refl _)] at hl
    simp -implicitDefEqProofs only [go_sem, seval, hq]
    (with_reducible and_intros)<;>first|exact .dq|omega|exact ci_ok _|skip
    refine CallN.pure hRd ?_
    simp -implicitDefEqProofs only [go_sem, seval, htk, hdl, List.append_nil]
    (with_reducible and_intros)<;>first|exact .dq|omega|exact ci_ok _|skip
    refine CallN.pure hkeep ?_
    cases hbb : bare k x.ns
    · have hne : decide (x.ns = d) = false := decide_eq_false fun h => by
        have := hbi.2 h.symm
        rw [hbb] at this; cases this
      have e : L = none := by rw [hLk, hbb]; rfl
      subst e
      simp -implicitDefEqProofs only [go_sem, seval, hne]
      rfl
    · have hye : decide (x.ns = d) = true := decide_eq_true (hbi.1 hbb).symm
      have e : L = some (lineC k x.ns) := by rw [hLk, hbb]; rfl
      subst e
      simp -implicitDefEqProofs only [go_sem, seval, hye]
end Go.Proofs.YtdklpddmplflgaaDoor
