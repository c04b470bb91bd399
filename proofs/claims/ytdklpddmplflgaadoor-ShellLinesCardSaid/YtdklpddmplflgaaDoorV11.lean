/- Laws of numbers, and of lines back and forth; no theorem of a claim. -/
import Derived.Test.YtdklpddmplflgaaDoorV10
set_option linter.unusedSimpArgs false
set_option linter.unusedVariables false
namespace Go.Proofs.YtdklpddmplflgaaDoor
open Go.Abs
open Go.Lib (itoa)
theorem lineR_back {c : List Int} (hc : c.length = 17) (hr : ∀ o, I64 (c.getD o 0)) {t : List UInt8} (h : lineR c = some t) : readC t = some c ∧ t.length ≤ 400 := by
  unfold lineR at h
  split at h
  · rename_i h1
    unfold okK at h1
    rw [decide_eq_true_iff] at h1
    split at h
    · rename_i h2
      obtain ⟨k, hk⟩ : ∃ k : Nat, c.getD 2 0 = (k : Int) + 1 := ⟨(c.getD 2 0 - 1).toNat, by omega⟩
      have hk2 : (c.getD 2 0).toNat - 1 = k := by omega
      rw [hk2] at h h2
      have hk22 : k < 22 := by omega
      obtain rfl := Option.some.inj h
      refine ⟨?_, ?_⟩
      · rw [read_line k hk22 c hr, (bare_iff k hk22 c hc hk).1 h2]
      · have := TT_len k hk22 c hr (offL k).length
        rwa [TT_full _ _ _ (Nat.le_refl _)] at this
    · cases h
  · cases h
theorem readC_forth {l : List UInt8} {d : List Int} (h : readC l = some d) : lineR d = some l ∧ d.length = 17 ∧ ∀ o, I64 (d.getD o 0) := by
  obtain ⟨k, hk, h2, h3, h4, h5, h6⟩ := line_read h
  refine ⟨?_, h3, h6⟩
  unfold lineR okK
  rw [h2, decide_eq_true (by omega), if_pos rfl, show ((k : Int) + 1).toNat - 1 = k by omega, if_pos h5, h4]
abbrev tTick : List UInt8 := [116, 105, 99, 107, 32, 49, 32, 50, 32]
theorem spl_tick (M : List UInt8) : spl (tTick ++ M) [] = [116, 105, 99, 107] :: [49] :: [50] :: spl M [] := by
  rw [show tTick ++ M = [116, 105, 99, 107] ++ 32 :: ([49] ++ 32 :: ([50] ++ 32 :: M)) by simp]
  rw [spl_word _ _ _ (by decide), spl_word _ _ _ (by decide), spl_word _ _ _ (by decide)]
  rfl
theorem num1 : numOf [49] = some 1 := by
  have := numOf_itoa ((1 : Nat) : Int) ⟨by decide, by decide⟩
  rwa [itoa_dig 1 (by decide)] at this
theorem num2 : numOf [50] = some 2 := by
  have := numOf_itoa ((2 : Nat) : Int) ⟨by decide, by decide⟩
  rwa [itoa_dig 2 (by decide)] at this
theorem read_tick (M : List UInt8) (d : List Int) (h : readC (tTick ++ M) = some d) : itoa (d.getD 10 0) = M := by
  unfold readC at h
  rw [spl_tick] at h
  simp only at h
  rw [show kindOf [116, 105, 99, 107] = some 16 from kindOf_at 16 (by decide)] at h
  cases q : numsOf ([49] :: [50] :: spl M []) with
  | none => rw [q] at h; cases h
  | some ns =>
    rw [q] at h
    simp only at h
    split at h
    · rename_i hl
      have hl : ns.length = 3 := hl
      obtain ⟨b0, b1, b2, rfl⟩ := len3 hl
      have hn := numsOf_len q
      have h1 : (spl M []).length = 1 := by simpa using hn.symm
      obtain ⟨m, hm⟩ := List.length_eq_one_iff.1 h1
      have hj := spl_join M []
      rw [hm] at hj
      have hmM : m = M := by simpa [joinW] using hj
      have hq := (numsOf_some q).1
      rw [hm, hmM] at hq
      simp only [List.map_cons, List.map_nil, List.cons.injEq] at hq
      obtain rfl := Option.some.inj h
      exact hq.2.2.1.symm
    · cases h
theorem read_own (n : Int) (hn : I64 n) : readC (tTick ++ itoa n) = some [1, 2, 17, 0, 0, 0, 0, 0, 0, 0, n, 0, 0, 0, 0, 0, 0] := by
  unfold readC
  rw [spl_tick, spl_last _ _ (itoa_no n)]
  simp only
  rw [show kindOf [116, 105, 99, 107] = some 16 from kindOf_at 16 (by decide)]
  simp only [numsOf, num1, num2, List.nil_append, numOf_itoa n hn]
  rfl
set_option maxRecDepth 8000 in
theorem law_shellNumbers (n : Int) (hn : I64 n) (f b : ByteArray) : Abs.Spec Tryd.prog 4 [] [.int .i64 n, .str f, .str b] [] (.bool true) := by
  obtain ⟨f, rfl⟩ : ∃ t, f = B t := ⟨f.data.toList, by cases f; simp [B]⟩
  obtain ⟨b, rfl⟩ : ∃ t, b = B t := ⟨b.data.toList, by cases b; simp [B]⟩
  by_cases h1 : 30 < f.length
  · have d : decide ((30 : Int) < (f.length : Int)) = true := decide_eq_true (by omega)
    refine sgo 70 3 [.tmp 6] mixed Tryd.func4 ?_
    simp only [go_sem, seval, B_size, d]
  have d1 : decide ((30 : Int) < (f.length : Int)) = false := decide_eq_false (by omega)
  by_cases h2 : 30 < b.length
  · have d : decide ((30 : Int) < (b.length : Int)) = true := decide_eq_true (by omega)
    refine sgo 70 3 [.tmp 6] mixed Tryd.func4 ?_
    simp only [go_sem, seval, B_size, d1, d]
  have d2 : decide ((30 : Int) < (b.length : Int)) = false := decide_eq_false (by omega)
  have hw := wakes28_spec
  have hI := itoa_spec n hn
  have hil := itoa_len n hn
  have hR1 := read_spec (tTick ++ itoa n) (by simp; omega)
  rw [read_own n hn] at hR1
  rw [show (some [1, 2, 17, 0, 0, 0, 0, 0, 0, 0, n, 0, 0, 0, 0, 0, 0] : Option (List Int)).getD zeroC = [1, 2, 17, 0, 0, 0, 0, 0, 0, 0, n, 0, 0, 0, 0, 0, 0] from rfl] at hR1
  simp only [Option.isSome_some, if_true, ci, List.map_cons, List.map_nil] at hR1
  have hK1 := keepC_spec (a := [1, 2, 17, 0, 0, 0, 0, 0, 0, 0, n, 0, 0, 0, 0, 0, 0]) (b := [1, 2, 17, 0, 0, 0, 0, 0, 0, 0, n, 0, 0, 0, 0, 0, 0]) rfl rfl
  rw [decide_eq_true rfl] at hK1
  simp only [ci, List.map_cons, List.map_nil] at hK1
  have hR2 := read_spec (tTick ++ f ++ itoa n ++ b) (by simp; omega)
  obtain ⟨S, hS⟩ : ∃ S, S = itoa n := ⟨_, rfl⟩
  have hrt := read_tick (f ++ S ++ b)
  rw [show tTick ++ (f ++ S ++ b) = tTick ++ f ++ S ++ b by simp] at hrt
  rw [← hS] at hI hil hR1 hR2
  have e1 : (⟨#[116, 105, 99, 107, 32, 49, 32, 50, 32]⟩ : ByteArray) = B tTick := rfl
  have hl9 : tTick.length = 9 := rfl
  obtain ⟨K, hKd⟩ : ∃ K, K = tTick := ⟨_, rfl⟩
  rw [← hKd] at hR1 hR2 hrt e1 hl9
  clear hKd
  cases q : readC (K ++ f ++ S ++ b) with
  | none =>
    rw [q] at hR2
    rw [show (none : Option (List Int)).getD zeroC = zeroC from rfl, ciz] at hR2
    simp only [Option.isSome_none, Bool.false_eq_true, if_false] at hR2
    have hK2 := keepC_spec (a := zeroC) (b := zeroC) rfl rfl
    rw [decide_eq_true rfl, ciz] at hK2
    refine sgo 70 3 [.tmp 6] mixed Tryd.func4 ?_
    simp only [go_sem, seval, B_size, d1, d2]
    (with_reducible and_intros)<;>first|exact .dq|omega|exact ci_ok _|skip
    refine CallN.pure hI ?_
    simp only [go_sem, seval, e1, B_app, B_size, List.length_append]
    (with_reducible and_intros)<;>first|exact .dq|omega|exact ci_ok _|skip
    refine CallN.pure hR1 ?_
    simp only [go_sem, seval]
    (with_reducible and_intros)<;>first|exact .dq|omega|exact ci_ok _|skip
    refine CallN.pure hK1 ?_
    simp only [go_sem, seval, e1, B_app, B_size, List.length_append]
    (with_reducible and_intros)<;>first|exact .dq|omega|exact ci_ok _|skip
    refine CallN.pure hR2 ?_
    simp only [go_sem, seval]
    (with_reducible and_intros)<;>first|exact .dq|omega|exact ci_ok _|skip
    refine CallN.pure hK2 ?_
    simp only [go_sem, seval]
    (with_reducible and_intros)<;>first|exact .dq|omega|exact ci_ok _|skip
    refine CallN.pure hw ?_
    simp only [go_sem, seval]
  | some d =>
    rw [q] at hR2
    rw [show (some d : Option (List Int)).getD zeroC = d from rfl] at hR2
    simp only [Option.isSome_some, if_true] at hR2
    obtain ⟨_, hdl, hdr⟩ := readC_forth q
    have htk : List.take 17 (ci d) = ci d := List.take_of_length_le (by rw [ci_len]; omega)
    have hd10 : (List.drop 10 (ci d)).headD .undef = .int .i64 (d.getD 10 0) := by
      rw [List.headD_eq_head?_getD, List.head?_drop]
      exact ci_at d 10 (by omega)
    have hI2 := itoa_spec _ (hdr 10)
    rw [hrt d q] at hI2
    refine sgo 70 3 [.tmp 6] mixed Tryd.func4 ?_
    simp only [go_sem, seval, B_size, d1, d2]
    (with_reducible and_intros)<;>first|exact .dq|omega|exact ci_ok _|skip
    refine CallN.pure hI ?_
    simp only [go_sem, seval, e1, B_app, B_size, List.length_append]
    (with_reducible and_intros)<;>first|exact .dq|omega|exact ci_ok _|skip
    refine CallN.pure hR1 ?_
    simp only [go_sem, seval]
    (with_reducible and_intros)<;>first|exact .dq|omega|exact ci_ok _|skip
    refine CallN.pure hK1 ?_
    simp only [go_sem, seval, e1, B_app, B_size, List.length_append]
    (with_reducible and_intros)<;>first|exact .dq|omega|exact ci_ok _|skip
    refine CallN.pure hR2 ?_
    simp only [go_sem, seval, htk, hdl, List.append_nil, hd10]
    (with_reducible and_intros)<;>first|exact .dq|omega|exact ci_ok _|skip
    refine CallN.pure hI2 ?_
    simp only [go_sem, seval, B_app, B_size, List.length_append, beq_self_eq_true]
    (with_reducible and_intros)<;>first|exact .dq|omega|exact ci_ok _|skip
    refine CallN.pure hw ?_
    simp only [go_sem, seval]
theorem cmd_rng {x : CmdV} (h : x.rng) : ∀ o, I64 (x.ns.getD o 0) := by
  obtain ⟨h0, h1, h2, h3, h4, h5, h6, h7, h8, h9, h10, h11, h12, h13, h14, h15, h16⟩ := h
  intro o
  rcases Nat.lt_or_ge o 17 with ho | ho
  · have : o = 0 ∨ o = 1 ∨ o = 2 ∨ o = 3 ∨ o = 4 ∨ o = 5 ∨ o = 6 ∨ o = 7 ∨ o = 8 ∨ o = 9 ∨ o = 10 ∨ o = 11 ∨ o = 12 ∨ o = 13 ∨ o = 14 ∨ o = 15 ∨ o = 16 := by omega
    rcases this with rfl | rfl | rfl | rfl | rfl | rfl | rfl | rfl | rfl | rfl | rfl | rfl | rfl | rfl | rfl | rfl | rfl <;> assumption
  · rw [List.getD, List.getElem?_eq_none (by simpa [CmdV.ns] using ho)]
    exact ⟨by decide, by decide⟩
set_option maxRecDepth 8000 in
theorem law_shellBack (x : CmdV) (hx : x.rng) (l : ByteArray) : Abs.Spec Tryd.prog 5 [] [.agg x.cells, .str l] [] (.bool true) := by
  obtain ⟨l, rfl⟩ : ∃ t, l = B t := ⟨l.data.toList, by cases l; simp [B]⟩
  have hrx : ∀ o, I64 (x.ns.getD o 0) := cmd_rng hx
  have hw := wakes28_spec
  by_cases hl : 6000 < l.length
  · have d : decide ((6000 : Int) < (l.length : Int)) = true := decide_eq_true (by omega)
    simp only [CmdV.cells]
    refine sgo 60 2 [.tmp 4] mixed Tryd.func5 ?_
    simp only [go_sem, seval, B_size, d]
  have d0 : decide ((6000 : Int) < (l.length : Int)) = false := decide_eq_false (by omega)
  have hL := line_spec x.ns rfl hrx
  have hR := read_spec l (by omega)
  rw [show ci x.ns = x.cells from rfl] at hL
  have hem : ((B []).toList == (⟨#[]⟩ : ByteArray).toList) = true := by rw [show (⟨#[]⟩ : ByteArray) = B [] from rfl, B_lst]; rfl
  cases qa : lineR x.ns with
  | none =>
    rw [qa] at hL
    rw [show (none : Option (List UInt8)).getD [] = [] from rfl] at hL
    simp only [Option.isSome_none, Bool.false_eq_true, if_false] at hL
    cases qb : readC l with
    | none =>
      rw [qb] at hR
      rw [show (none : Option (List Int)).getD zeroC = zeroC from rfl, ciz] at hR
      simp only [Option.isSome_none, Bool.false_eq_true, if_false] at hR
      simp only [CmdV.cells] at hL ⊢
      refine sgo 60 2 [.tmp 4] mixed Tryd.func5 ?_
      simp only [go_sem, seval, B_size, d0]
      (with_reducible and_intros)<;>first|exact .dq|omega|exact ci_ok _|skip
      refine CallN.pure hL ?_
      simp only [go_sem, seval, bne, hem]
      (with_reducible and_intros)<;>first|exact .dq|omega|exact ci_ok _|skip
      refine CallN.pure hR ?_
      simp only [go_sem, seval]
      (with_reducible and_intros)<;>first|exact .dq|omega|exact ci_ok _|skip
      refine CallN.pure hw ?_
      simp only [go_sem, seval]
    | some d =>
      rw [qb] at hR
      rw [show (some d : Option (List Int)).getD zeroC = d from rfl] at hR
      simp only [Option.isSome_some, if_true] at hR
      obtain ⟨hf1, hf2, hf3⟩ := readC_forth qb
      have hLd := line_spec d hf2 hf3
      rw [hf1, show (some l : Option (List UInt8)).getD [] = l from rfl] at hLd
      simp only [Option.isSome_some, if_true] at hLd
      have htk : List.take 17 (ci d) = ci d := List.take_of_length_le (by rw [ci_len]; omega)
      simp only [CmdV.cells] at hL ⊢
      refine sgo 60 2 [.tmp 4] mixed Tryd.func5 ?_
      simp only [go_sem, seval, B_size, d0]
      (with_reducible and_intros)<;>first|exact .dq|omega|exact ci_ok _|skip
      refine CallN.pure hL ?_
      simp only [go_sem, seval, bne, hem]
      (with_reducible and_intros)<;>first|exact .dq|omega|exact ci_ok _|skip
      refine CallN.pure hR ?_
      simp only [go_sem, seval, htk, hf2, List.append_nil]
      (with_reducible and_intros)<;>first|exact .dq|omega|exact ci_ok _|skip
      refine CallN.pure hLd ?_
      simp only [go_sem, seval, beq_self_eq_true]
      (with_reducible and_intros)<;>first|exact .dq|omega|exact ci_ok _|skip
      refine CallN.pure hw ?_
      simp only [go_sem, seval]
  | some t =>
    rw [qa] at hL
    rw [show (some t : Option (List UInt8)).getD [] = t from rfl] at hL
    simp only [Option.isSome_some, if_true] at hL
    obtain ⟨hb1, hb2⟩ := lineR_back rfl hrx qa
    have hRt := read_spec t (by omega)
    rw [hb1, show (some x.ns : Option (List Int)).getD zeroC = x.ns from rfl] at hRt
    simp only [Option.isSome_some, if_true] at hRt
    have hKt := keepC_spec (a := x.ns) (b := x.ns) rfl rfl
    rw [decide_eq_true rfl] at hKt
    rw [show ci x.ns = x.cells from rfl] at hRt hKt
    cases qb : readC l with
    | none =>
      rw [qb] at hR
      rw [show (none : Option (List Int)).getD zeroC = zeroC from rfl, ciz] at hR
      simp only [Option.isSome_none, Bool.false_eq_true, if_false] at hR
      simp only [CmdV.cells] at hL hRt hKt ⊢
      refine sgo 60 2 [.tmp 4] mixed Tryd.func5 ?_
      simp only [go_sem, seval, B_size, d0]
      (with_reducible and_intros)<;>first|exact .dq|omega|exact ci_ok _|skip
      refine CallN.pure hL ?_
      simp only [go_sem, seval]
      (with_reducible and_intros)<;>first|exact .dq|omega|exact ci_ok _|skip
      refine CallN.pure hRt ?_
      simp only [go_sem, seval]
      (with_reducible and_intros)<;>first|exact .dq|omega|exact ci_ok _|skip
      refine CallN.pure hKt ?_
      simp only [go_sem, seval]
      (with_reducible and_intros)<;>first|exact .dq|omega|exact ci_ok _|skip
      refine CallN.pure hR ?_
      simp only [go_sem, seval]
      (with_reducible and_intros)<;>first|exact .dq|omega|exact ci_ok _|skip
      refine CallN.pure hw ?_
      simp only [go_sem, seval]
    | some d =>
      rw [qb] at hR
      rw [show (some d : Option (List Int)).getD zeroC = d from rfl] at hR
      simp only [Option.isSome_some, if_true] at hR
      obtain ⟨hf1, hf2, hf3⟩ := readC_forth qb
      have hLd := line_spec d hf2 hf3
      rw [hf1, show (some l : Option (List UInt8)).getD [] = l from rfl] at hLd
      simp only [Option.isSome_some, if_true] at hLd
      have htk : List.take 17 (ci d) = ci d := List.take_of_length_le (by rw [ci_len]; omega)
      simp only [CmdV.cells] at hL hRt hKt ⊢
      refine sgo 60 2 [.tmp 4] mixed Tryd.func5 ?_
      simp only [go_sem, seval, B_size, d0]
      (with_reducible and_intros)<;>first|exact .dq|omega|exact ci_ok _|skip
      refine CallN.pure hL ?_
      simp only [go_sem, seval]
      (with_reducible and_intros)<;>first|exact .dq|omega|exact ci_ok _|skip
      refine CallN.pure hRt ?_
      simp only [go_sem, seval]
      (with_reducible and_intros)<;>first|exact .dq|omega|exact ci_ok _|skip
      refine CallN.pure hKt ?_
      simp only [go_sem, seval]
      (with_reducible and_intros)<;>first|exact .dq|omega|exact ci_ok _|skip
      refine CallN.pure hR ?_
      simp only [go_sem, seval, htk, hf2, List.append_nil]
      (with_reducible and_intros)<;>first|exact .dq|omega|exact ci_ok _|skip
      refine CallN.pure hLd ?_
      simp only [go_sem, seval, beq_self_eq_true]
      (with_reducible and_intros)<;>first|exact .dq|omega|exact ci_ok _|skip
      refine CallN.pure hw ?_
      simp only [go_sem, seval]
end Go.Proofs.YtdklpddmplflgaaDoor
