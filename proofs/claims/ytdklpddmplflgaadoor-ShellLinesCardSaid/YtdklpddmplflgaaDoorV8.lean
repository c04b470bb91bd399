/- Laws of lines that are read; no theorem of a claim. -/
import Derived.Test.YtdklpddmplflgaaDoorV7
set_option linter.unusedSimpArgs false
set_option linter.unusedVariables false
namespace Go.Proofs.YtdklpddmplflgaaDoor
open Go.Abs
open Go.Lib (itoa)
def CmdV.sh (x : CmdV) : Nat → Int
  | 0 => x.s0 | 1 => x.s1 | 2 => x.s2 | 3 => x.s3 | 4 => x.s4 | _ => x.s5
theorem cmd_ext {a b : CmdV} : a = b ↔ (∀ j < 6, a.sh j = b.sh j) ∧ a.client = b.client ∧ a.seq = b.seq ∧ a.kind = b.kind ∧ a.who = b.who ∧ a.other = b.other ∧ a.no = b.no ∧ a.inst = b.inst ∧ a.cur = b.cur ∧ a.qty = b.qty ∧ a.price = b.price ∧ a.amt = b.amt := by
  constructor
  · rintro rfl; simp
  · rintro ⟨h, h1, h2, h3, h4, h5, h6, h7, h8, h9, h10, h11⟩
    have s0 := h 0 (by omega)
    have s1 := h 1 (by omega)
    have s2 := h 2 (by omega)
    have s3 := h 3 (by omega)
    have s4 := h 4 (by omega)
    have s5 := h 5 (by omega)
    cases a; cases b
    simp only [CmdV.sh] at s0 s1 s2 s3 s4 s5
    simp_all
theorem cmd_sh (x : CmdV) {i : Nat} (h : i < 6) : (List.drop (11 + i * 1) x.cells).headD .undef = .int .i64 (x.sh i) := by
  rcases i with _ | _ | _ | _ | _ | _ | i <;> first | rfl | omega
set_option maxRecDepth 8000 in
theorem keepCmd_spec (a b : CmdV) : Abs.Spec Tryd.prog 10 [] [.agg a.cells, .agg b.cells] [] (.bool (decide (a = b))) := by
  simp only [CmdV.cells]
  refine sgo 94 2 [.tmp 4] mixed Tryd.func10 ?_
  simp only [go_sem, seval]
  refine LoopK.walk (S := Unit) 6 [2, 3] [48, 64] (fun i _ => [(5, .int .i64 i)]) (fun i _ => []) (fun i _ => ∀ j < i, a.sh j = b.sh j) () (by intros; omega) ?_ ?_ ?_
  · simp only [go_sem, seval] <;> simp
  · intro i _ hi hdi hw hI
    have hdi : decide ((i : Int) < 6) = true := hdi
    have ha := cmd_sh a hi
    have hb := cmd_sh b hi
    simp only [CmdV.cells] at ha hb
    simp only [go_sem, seval, hdi, ha, hb]
    (with_reducible and_intros)<;>first|exact .dq|omega|skip
    cases he : a.sh i == b.sh i
    · have hn : decide (a = b) = false := decide_eq_false fun h => by rw [h] at he; simp at he
      simp only [go_sem, seval, bne, he, hn]
    · simp only [go_sem, seval, bne, he, hw]
      refine RoundK.step () hi ?_ ?_
      · intro j hj
        rcases Nat.lt_or_ge j i with h | h
        · exact hI j h
        · obtain rfl : j = i := by omega
          simpa using he
      · simp only [go_sem, seval]
  · intro _ hdx hI
    have hdx : decide ((6 : Int) < 6) = false := hdx
    have e : decide (a = b) = decide (a.client = b.client ∧ a.seq = b.seq ∧ a.kind = b.kind ∧ a.who = b.who ∧ a.other = b.other ∧ a.no = b.no ∧ a.inst = b.inst ∧ a.cur = b.cur ∧ a.qty = b.qty ∧ a.price = b.price ∧ a.amt = b.amt) := by
      rw [Bool.eq_iff_iff, decide_eq_true_iff, decide_eq_true_iff, cmd_ext]
      exact ⟨fun h => h.2, fun h => ⟨hI, h⟩⟩
    rw [e]
    clear e hI
    simp only [go_sem, seval, hdx]
    simp only [List.append_eq, List.cons_append, List.nil_append]
    simp only [go_sem, seval]
    repeat' with_reducible first|apply And.intro|exact .dq|refine CallN.pure (by assumption) ?_|refine .splitDN (fun h=>?_) fun h=>?_|refine .splitD (fun h=>?_) fun h=>?_|refine .splitN (fun h=>?_) fun h=>?_|refine .split (fun h=>?_) fun h=>?_|refine .id ?_|refine RoundK.next (by omega) ?_ ?_|exact trivial|simp only [*, go_sem, seval]
    all_goals (rw [Bool.eq_iff_iff]; simp_all)
@[go_sem] theorem PlL_ci (l : List Int) : PlL (ci l) = True := by
  refine eq_true ?_
  induction l with
  | nil => trivial
  | cons n r ih => exact ⟨trivial, ih⟩
theorem of_ci {c : List Int} (h : c.length = 17) : ∃ x : CmdV, ci c = x.cells ∧ x.ns = c := by
  obtain ⟨a0, a1, a2, a3, a4, a5, a6, a7, a8, a9, a10, a11, a12, a13, a14, a15, a16, rfl⟩ := len17 h
  exact ⟨⟨a0, a1, a2, a3, a4, a5, a6, a7, a8, a9, a10, a11, a12, a13, a14, a15, a16⟩, rfl, rfl⟩
theorem ns_inj {a b : CmdV} : a = b ↔ a.ns = b.ns := by
  constructor
  · rintro rfl; rfl
  · intro h
    cases a; cases b
    simp only [CmdV.ns, List.cons.injEq] at h
    simp_all
theorem keepC_spec {a b : List Int} (ha : a.length = 17) (hb : b.length = 17) : Abs.Spec Tryd.prog 10 [] [.agg (ci a), .agg (ci b)] [] (.bool (decide (a = b))) := by
  obtain ⟨x, hx, rfl⟩ := of_ci ha
  obtain ⟨y, hy, rfl⟩ := of_ci hb
  rw [hx, hy]
  have h := keepCmd_spec x y
  rwa [show decide (x = y) = decide (x.ns = y.ns) from by rw [Bool.eq_iff_iff, decide_eq_true_iff, decide_eq_true_iff, ns_inj]] at h
theorem read_len {l : List UInt8} : ((readC l).getD zeroC).length = 17 := by
  cases h : readC l with
  | none => rfl
  | some d =>
    obtain ⟨k, _, _, h2, _⟩ := line_read h
    exact h2
theorem itoa_dig (n : Nat) (h : n < 10) : itoa (n : Int) = [UInt8.ofNat (48 + n)] := by
  rw [Go.Lib.itoa_nonneg, Go.Lib.decDigits, dif_pos h]
theorem wakes_read : readC [97, 100, 109, 105, 116, 32, 49, 32, 50, 32, 51, 32, 53] = some [1, 2, 1, 3, 0, 0, 0, 0, 0, 0, 5, 0, 0, 0, 0, 0, 0] := by
  have h := read_line 0 (by decide) [1, 2, 1, 3, 0, 0, 0, 0, 0, 0, 5, 0, 0, 0, 0, 0, 0] (by
    intro o
    rcases Nat.lt_or_ge o 17 with ho | ho
    · have : o = 0 ∨ o = 1 ∨ o = 2 ∨ o = 3 ∨ o = 4 ∨ o = 5 ∨ o = 6 ∨ o = 7 ∨ o = 8 ∨ o = 9 ∨ o = 10 ∨ o = 11 ∨ o = 12 ∨ o = 13 ∨ o = 14 ∨ o = 15 ∨ o = 16 := by omega
      rcases this with rfl | rfl | rfl | rfl | rfl | rfl | rfl | rfl | rfl | rfl | rfl | rfl | rfl | rfl | rfl | rfl | rfl <;> decide
    · rw [List.getD, List.getElem?_eq_none (by simpa using ho)]; decide)
  have e : lineC 0 [1, 2, 1, 3, 0, 0, 0, 0, 0, 0, 5, 0, 0, 0, 0, 0, 0] = [97, 100, 109, 105, 116, 32, 49, 32, 50, 32, 51, 32, 53] := by
    show joinW [[97, 100, 109, 105, 116], itoa ((1 : Nat) : Int), itoa ((2 : Nat) : Int), itoa ((3 : Nat) : Int), itoa ((5 : Nat) : Int)] = _
    rw [itoa_dig 1 (by decide), itoa_dig 2 (by decide), itoa_dig 3 (by decide), itoa_dig 5 (by decide)]
    rfl
  rw [e] at h
  rw [h]
  rfl
theorem wakes28_spec : Abs.Spec Tryd.prog 11 [] [] [] (.bool true) := by
  have h := read_spec [97, 100, 109, 105, 116, 32, 49, 32, 50, 32, 51, 32, 53] (by decide)
  rw [wakes_read, show (some [1, 2, 1, 3, 0, 0, 0, 0, 0, 0, 5, 0, 0, 0, 0, 0, 0] : Option (List Int)).getD zeroC = [1, 2, 1, 3, 0, 0, 0, 0, 0, 0, 5, 0, 0, 0, 0, 0, 0] from rfl] at h
  simp only [Option.isSome_some, if_true, ci, List.map_cons, List.map_nil] at h
  refine sgo 29 0 [.tmp 0] mixed Tryd.func11 ?_
  simp only [go_sem, seval, B_mk]
  (with_reducible and_intros)<;>first|exact .dq|omega|skip
  refine CallN.pure h ?_
  simp only [go_sem, seval]
theorem law_shellReads (l : ByteArray) : Abs.Spec Tryd.prog 3 [] [.str l] [] (.bool true) := by
  obtain ⟨l, rfl⟩ : ∃ t, l = B t := ⟨l.data.toList, by cases l; simp [B]⟩
  by_cases hl : 6000 < l.length
  · have d : decide ((6000 : Int) < (l.length : Int)) = true := decide_eq_true (by omega)
    refine sgo 39 1 [.tmp 2] mixed Tryd.func3 ?_
    simp only [go_sem, seval, B_size, d]
  have d : decide ((6000 : Int) < (l.length : Int)) = false := decide_eq_false (by omega)
  have h1 := read_spec l (by omega)
  have h2 := refRead_spec l (by omega)
  have h3 := keepC_spec (read_len (l := l)) (read_len (l := l))
  rw [decide_eq_true rfl] at h3
  have hw := wakes28_spec
  have hcl : ((readC l).getD zeroC).length = 17 := read_len
  obtain ⟨c, hc⟩ : ∃ c, c = (readC l).getD zeroC := ⟨_, rfl⟩
  rw [← hc] at h1 h2 h3 hcl
  have htk : List.take 17 (ci c) = ci c := List.take_of_length_le (by rw [ci_len]; omega)
  cases q : (readC l).isSome
  all_goals
    rw [q] at h1 h2
    simp only [if_true, Bool.false_eq_true, if_false] at h1
    refine sgo 39 1 [.tmp 2] mixed Tryd.func3 ?_
    simp only [go_sem, seval, B_size, d]
    (with_reducible and_intros)<;>first|exact .dq|omega|skip
    refine CallN.pure h1 ?_
    simp only [go_sem, seval, htk, hcl, List.append_nil]
    (with_reducible and_intros)<;>first|exact .dq|omega|exact ci_ok _|skip
    refine CallN.pure h2 ?_
    simp only [go_sem, seval, htk, hcl, List.append_nil]
    (with_reducible and_intros)<;>first|exact .dq|omega|exact ci_ok _|skip
    refine CallN.pure h3 ?_
    simp only [go_sem, seval]
    (with_reducible and_intros)<;>first|exact .dq|omega|exact ci_ok _|skip
    refine CallN.pure hw ?_
    simp only [go_sem, seval]
end Go.Proofs.YtdklpddmplflgaaDoor
