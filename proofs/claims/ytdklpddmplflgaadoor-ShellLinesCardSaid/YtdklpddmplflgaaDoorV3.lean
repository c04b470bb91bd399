/- Numbers of words, as the reference reads them; no theorem of a claim. -/
import Derived.Test.YtdklpddmplflgaaDoorV2
set_option linter.unusedSimpArgs false
set_option linter.unusedVariables false
namespace Go.Proofs.YtdklpddmplflgaaDoor
open Go.Abs
open Go.Lib (itoa decDigits atoiAll)
theorem number27_spec (n : Int) (h : I64 n) : Abs.Spec Tryd.prog 33 [] [.int .i64 n] [] (.str (B (itoa n))) := by
  have i := itoa_spec n h
  refine sgo 5 1 [.tmp 2] mixed Tryd.func33 ?_
  simp only [go_sem, seval]
  refine CallN.pure i ?_
  simp only [go_sem, seval]
/-- one digit more -/
theorem dig_facts {D : List UInt8} {u : Nat} (hD : D = decDigits u) (hu : u ≤ 9223372036854775808) {i : Nat} (hi : i < D.length) :
    IntKind.wrap .i64 (D[i].toNat : Int) = (D[i].toNat : Int) ∧ IntKind.wrap .i64 ((D[i].toNat : Int) - 48) = ((D[i].toNat - 48 : Nat) : Int) ∧ decide (((D[i].toNat - 48 : Nat) : Int) < 0) = false ∧ decide ((9 : Int) < ((D[i].toNat - 48 : Nat) : Int)) = false ∧
    IntKind.wrap .i64 (-9223372036854775808 + ((D[i].toNat - 48 : Nat) : Int)) = -9223372036854775808 + ((D[i].toNat - 48 : Nat) : Int) ∧
    decide (-((valL (D.take i) : Nat) : Int) < (-9223372036854775808 + ((D[i].toNat - 48 : Nat) : Int)).tdiv 10) = false ∧
    IntKind.wrap .i64 ((-9223372036854775808 + ((D[i].toNat - 48 : Nat) : Int)).tdiv 10) = (-9223372036854775808 + ((D[i].toNat - 48 : Nat) : Int)).tdiv 10 ∧
    IntKind.wrap .i64 (10 * -((valL (D.take i) : Nat) : Int)) = -((10 * valL (D.take i) : Nat) : Int) ∧
    IntKind.wrap .i64 (-((10 * valL (D.take i) : Nat) : Int) - ((D[i].toNat - 48 : Nat) : Int)) = -((valL (D.take (i + 1)) : Nat) : Int) := by
  have h1 := dec_rng u D[i] (by rw [← hD]; exact List.getElem_mem hi)
  have h2 := valL_step D hi
  have h3 := valL_take D (i + 1)
  rw [show valL D = u by rw [hD]; exact valL_dec u] at h3
  obtain ⟨d, hd⟩ : ∃ d, d = D[i].toNat - 48 := ⟨_, rfl⟩
  rw [← hd] at h2 ⊢
  have h4 : D[i].toNat = 48 + d := by omega
  have h5 : d ≤ 9 := by omega
  obtain ⟨a, ha⟩ : ∃ a, a = valL (D.take i) := ⟨_, rfl⟩
  rw [← ha] at h2 ⊢
  rw [h2] at h3 ⊢
  rw [h4]
  have h6 := no_over (a := a) (d := d) (by omega) h5
  have h7 : (-9223372036854775808 + (d : Int)).tdiv 10 = -(((9223372036854775808 - d) / 10 : Nat) : Int) := by
    rw [show (-9223372036854775808 + (d : Int)) = -((9223372036854775808 - d : Nat) : Int) by omega, Int.neg_tdiv, Int.ofNat_tdiv]
    rfl
  refine ⟨wr64 (by omega) (by omega), ?_, decide_eq_false (by omega), decide_eq_false (by omega), wr64 (by omega) (by omega), decide_eq_false h6, ?_, ?_, ?_⟩
  · rw [wr64 (by omega) (by omega)]; omega
  · rw [h7]; exact wr64 (by omega) (by omega)
  · rw [wr64 (by omega) (by omega)]; omega
  · rw [wr64 (by omega) (by omega)]; omega
theorem whole_neg (u : Nat) (hu : u ≤ 9223372036854775808) : Abs.Spec Tryd.prog 37 [] [.str (B (45 :: decDigits u))] [] (.tup [.int .i64 (-(u : Int)), .bool true]) := by
  have hp := dec_pos u
  have hl := dec_len 19 u (by omega) (by omega)
  have hv := valL_dec u
  have hf := fun {i : Nat} hi => dig_facts (D := decDigits u) rfl hu (i := i) hi
  obtain ⟨D, hD⟩ : ∃ D, D = decDigits u := ⟨_, rfl⟩
  rw [← hD] at hp hl hv ⊢
  rw [← hD] at hf
  have ha0 := B_at (45 :: D) 0 (by simp)
  have h45 : ((45 : UInt8).toNat : Int) = 45 := rfl
  simp only [List.getElem_cons_zero] at ha0
  have d0 : decide ((0 : Int) < ((D.length + 1 : Nat) : Int)) = true := decide_eq_true (by omega)
  have d1 : ((1 : Int) == ((D.length + 1 : Nat) : Int)) = false := by rw [beq_eq_false_iff_ne]; omega
  refine sgo 55 1 [.tmp 2, .tmp 3] mixed Tryd.func37 ?_
  simp only [go_sem, seval, B_size, List.length_cons, d0, ha0, h45, d1]
  (with_reducible and_intros)<;>first|exact .dq|omega|skip
  refine LoopK.walk (S := Unit) D.length [0, 4] [160] (fun i _ => [(5, .int .i64 ((1 + i : Nat) : Int)), (6, .int .i64 (-((valL (D.take i) : Nat) : Int)))]) (fun _ _ => []) (fun _ _ => True) () trivial ?_ ?_ ?_
  · simp only [go_sem, seval] <;> simp [valL]
  · intro i _ hi _ _ _
    obtain ⟨f1, f2, f3, f4, f5, f6, f7, f8, f9⟩ := hf hi
    have hat := B_at (45 :: D) (1 + i) (by simp; omega)
    rw [show (45 :: D)[1 + i]'(by simp; omega) = D[i] by simp [Nat.add_comm 1 i]] at hat
    have hdi : decide (((1 + i : Nat) : Int) < ((D.length + 1 : Nat) : Int)) = true := decide_eq_true (by omega)
    have hw : IntKind.wrap .i64 (((1 + i : Nat) : Int) + 1) = ((1 + (i + 1) : Nat) : Int) := by rw [wr64 (by omega) (by omega)]; omega
    have hlt : ((1 + i : Nat) : Int) < ((D.length + 1 : Nat) : Int) := by omega
    have h00 : (0 : Int) ≤ ((1 + i : Nat) : Int) := by omega
    simp only [go_sem, seval, B_size, List.length_cons, hdi, Int.toNat_natCast, hat, f1, f2, f3, f4, f5, f6, f7, f8, f9, hw]
    (with_reducible and_intros)<;>first|exact .dq|omega|skip
    refine RoundK.step () hi trivial ?_
    simp only [go_sem, seval]
  · intro _ _ _
    have hdx : decide (((1 + D.length : Nat) : Int) < ((D.length + 1 : Nat) : Int)) = false := decide_eq_false (by omega)
    simp only [go_sem, seval, B_size, List.length_cons, hdx, List.take_length, hv]
    refine WeakK.id ?_
    simp only [go_sem, seval]
theorem whole_pos (u : Nat) (hu : u ≤ 9223372036854775807) : Abs.Spec Tryd.prog 37 [] [.str (B (decDigits u))] [] (.tup [.int .i64 (u : Int), .bool true]) := by
  have hp := dec_pos u
  have hl := dec_len 19 u (by omega) (by omega)
  have hv := valL_dec u
  have hf := fun {i : Nat} hi => dig_facts (D := decDigits u) rfl (by omega) (i := i) hi
  have hr0 := dec_rng u (decDigits u)[0] (List.getElem_mem hp)
  obtain ⟨D, hD⟩ : ∃ D, D = decDigits u := ⟨_, rfl⟩
  have ha0 := B_at (decDigits u) 0 hp
  simp only [← hD] at hp hl hv hf hr0 ha0 ⊢
  have h45 : ((D[0].toNat : Int) == 45) = false := by rw [beq_eq_false_iff_ne]; omega
  have d0 : decide ((0 : Int) < (D.length : Int)) = true := decide_eq_true (by omega)
  have d1 : ((0 : Int) == (D.length : Int)) = false := by rw [beq_eq_false_iff_ne]; omega
  refine sgo 55 1 [.tmp 2, .tmp 3] mixed Tryd.func37 ?_
  simp only [go_sem, seval, B_size, d0, ha0, h45, d1]
  (with_reducible and_intros)<;>first|exact .dq|omega|skip
  refine LoopK.walk (S := Unit) D.length [0, 4] [160] (fun i _ => [(5, .int .i64 (i : Int)), (6, .int .i64 (-((valL (D.take i) : Nat) : Int)))]) (fun _ _ => []) (fun _ _ => True) () trivial ?_ ?_ ?_
  · simp only [go_sem, seval] <;> simp [valL]
  · intro i _ hi hdi hwi _
    obtain ⟨f1, f2, f3, f4, f5, f6, f7, f8, f9⟩ := hf hi
    have hat := B_at D i hi
    have hlt : (i : Int) < (D.length : Int) := by omega
    simp only [go_sem, seval, B_size, hdi, Int.toNat_natCast, hat, f1, f2, f3, f4, f5, f6, f7, f8, f9, hwi]
    (with_reducible and_intros)<;>first|exact .dq|omega|skip
    refine RoundK.step () hi trivial ?_
    simp only [go_sem, seval]
  · intro _ hdx _
    have hq : (-(u : Int) == -9223372036854775808) = false := by rw [beq_eq_false_iff_ne]; omega
    have hw : IntKind.wrap .i64 (0 - -(u : Int)) = (u : Int) := by rw [wr64 (by omega) (by omega)]; omega
    simp only [go_sem, seval, B_size, hdx, List.take_length, hv]
    refine WeakK.id ?_
    simp only [go_sem, seval, hq, hw]
theorem whole_spec (n : Int) (h : I64 n) : Abs.Spec Tryd.prog 37 [] [.str (B (itoa n))] [] (.tup [.int .i64 n, .bool true]) := by
  obtain ⟨h1, h2⟩ := h
  by_cases hn : n < 0
  · obtain ⟨u, rfl⟩ : ∃ u : Nat, n = -(u : Int) := ⟨n.natAbs, by omega⟩
    rw [Go.Lib.itoa_neg u (by omega)]
    exact whole_neg u (by omega)
  · obtain ⟨u, rfl⟩ : ∃ u : Nat, n = (u : Int) := ⟨n.toNat, by omega⟩
    rw [Go.Lib.itoa_nonneg]
    exact whole_pos u (by omega)
/-- what the reference makes of the bytes behind a sign -/
def wholeF : Int → List UInt8 → Option Int
  | n, [] => some n
  | n, b :: r => if (b.toNat : Int) - 48 < 0 ∨ 9 < (b.toNat : Int) - 48 ∨ n < (-9223372036854775808 + ((b.toNat : Int) - 48)).tdiv 10 then none else wholeF (10 * n - ((b.toNat : Int) - 48)) r
def wholeR (neg : Bool) (r : List UInt8) : Int × Bool :=
  match wholeF 0 r with
  | none => (0, false)
  | some n => if neg then (n, true) else if n = -9223372036854775808 then (0, false) else (-n, true)
def wholeV (w : List UInt8) : Int × Bool :=
  match w with
  | [] => (0, false)
  | b :: r => if b = 45 then (if r = [] then (0, false) else wholeR true r) else wholeR false (b :: r)
theorem tdiv_up {n d : Int} (h0 : 0 ≤ d) (h9 : d ≤ 9) (h : ¬ n < (-9223372036854775808 + d).tdiv 10) : -9223372036854775808 ≤ 10 * n - d := by
  obtain ⟨k, hk⟩ : ∃ k : Nat, d = k := ⟨d.toNat, by omega⟩
  subst hk
  have e : (-9223372036854775808 + (k : Int)).tdiv 10 = -(((9223372036854775808 - k) / 10 : Nat) : Int) := by
    rw [show (-9223372036854775808 + (k : Int)) = -((9223372036854775808 - k : Nat) : Int) by omega, Int.neg_tdiv, Int.ofNat_tdiv]
    rfl
  rw [e] at h
  omega
theorem wholeF_rng : ∀ (r : List UInt8) (n m : Int), -9223372036854775808 ≤ n ∧ n ≤ 0 → wholeF n r = some m → -9223372036854775808 ≤ m ∧ m ≤ 0
  | [], n, m, h, e => by obtain rfl := Option.some.inj e; exact h
  | b :: r, n, m, h, e => by
    simp only [wholeF] at e
    split at e
    · cases e
    · rename_i hb
      simp only [not_or] at hb
      refine wholeF_rng r _ m ⟨tdiv_up (by omega) (by omega) hb.2.2, by omega⟩ e
theorem wholeR_rng (b : Bool) (r : List UInt8) : I64 (wholeR b r).1 := by
  unfold wholeR
  split
  · exact ⟨by decide, by decide⟩
  · rename_i n h
    have := wholeF_rng r 0 n ⟨by decide, by decide⟩ h
    split
    · exact ⟨this.1, by show n ≤ _; omega⟩
    · split
      · exact ⟨by decide, by decide⟩
      · exact ⟨by show _ ≤ -n; omega, by show -n ≤ _; omega⟩
theorem wholeV_rng (w : List UInt8) : I64 (wholeV w).1 := by
  unfold wholeV
  split
  · exact ⟨by decide, by decide⟩
  · split
    · split
      · exact ⟨by decide, by decide⟩
      · exact wholeR_rng _ _
    · exact wholeR_rng _ _
/-- one byte more -/
theorem byte_facts (b : UInt8) : IntKind.wrap .i64 (b.toNat : Int) = (b.toNat : Int) ∧ IntKind.wrap .i64 ((b.toNat : Int) - 48) = (b.toNat : Int) - 48 := by
  have hb : b.toNat < 256 := b.toNat_lt
  exact ⟨wr64 (by omega) (by omega), wr64 (by omega) (by omega)⟩
theorem digit_facts {d n : Int} (h0 : 0 ≤ d) (h9 : d ≤ 9) (hn : -9223372036854775808 ≤ n ∧ n ≤ 0) :
    IntKind.wrap .i64 (-9223372036854775808 + d) = -9223372036854775808 + d ∧ IntKind.wrap .i64 ((-9223372036854775808 + d).tdiv 10) = (-9223372036854775808 + d).tdiv 10 ∧
    (¬ n < (-9223372036854775808 + d).tdiv 10 → IntKind.wrap .i64 (10 * n) = 10 * n ∧ IntKind.wrap .i64 (10 * n - d) = 10 * n - d) := by
  refine ⟨wr64 (by omega) (by omega), ?_, ?_⟩
  · obtain ⟨k, hk⟩ : ∃ k : Nat, d = k := ⟨d.toNat, by omega⟩
    subst hk
    have e : (-9223372036854775808 + (k : Int)).tdiv 10 = -(((9223372036854775808 - k) / 10 : Nat) : Int) := by
      rw [show (-9223372036854775808 + (k : Int)) = -((9223372036854775808 - k : Nat) : Int) by omega, Int.neg_tdiv, Int.ofNat_tdiv]
      rfl
    rw [e]
    exact wr64 (by omega) (by omega)
  · intro h
    have := tdiv_up h0 h9 h
    exact ⟨wr64 (by omega) (by omega), wr64 (by omega) (by omega)⟩
theorem wholeF_step {n : Int} {D : List UInt8} {i : Nat} (hi : i < D.length) : wholeF n (D.drop i) = if (D[i].toNat : Int) - 48 < 0 ∨ 9 < (D[i].toNat : Int) - 48 ∨ n < (-9223372036854775808 + ((D[i].toNat : Int) - 48)).tdiv 10 then none else wholeF (10 * n - ((D[i].toNat : Int) - 48)) (D.drop (i + 1)) := by
  rw [List.drop_eq_getElem_cons hi]
  rfl
theorem wholeR_none {b : Bool} {D : List UInt8} (h : wholeF 0 D = none) : wholeR b D = (0, false) := by
  unfold wholeR; rw [h]
theorem whole_neg_any (D : List UInt8) (hp : D ≠ []) (hl : D.length ≤ 1000000000) : Abs.Spec Tryd.prog 37 [] [.str (B (45 :: D))] [] (.tup [.int .i64 (wholeR true D).1, .bool (wholeR true D).2]) := by
  have hp : 0 < D.length := List.length_pos_iff.2 hp
  have ha0 := B_at (45 :: D) 0 (by simp)
  have h45 : ((45 : UInt8).toNat : Int) = 45 := rfl
  simp only [List.getElem_cons_zero] at ha0
  have d0 : decide ((0 : Int) < ((D.length + 1 : Nat) : Int)) = true := decide_eq_true (by omega)
  have d1 : ((1 : Int) == ((D.length + 1 : Nat) : Int)) = false := by rw [beq_eq_false_iff_ne]; omega
  obtain ⟨R, hR⟩ : ∃ R, R = wholeR true D := ⟨_, rfl⟩
  rw [← hR]
  refine sgo 55 1 [.tmp 2, .tmp 3] mixed Tryd.func37 ?_
  simp only [go_sem, seval, B_size, List.length_cons, d0, ha0, h45, d1]
  (with_reducible and_intros)<;>first|exact .dq|omega|skip
  refine LoopK.walk (S := Int) D.length [0, 4] [160] (fun i n => [(5, .int .i64 ((1 + i : Nat) : Int)), (6, .int .i64 n)]) (fun _ _ => []) (fun i n => (-9223372036854775808 ≤ n ∧ n ≤ 0) ∧ wholeF n (D.drop i) = wholeF 0 D) 0 ⟨⟨by decide, by decide⟩, by simp⟩ ?_ ?_ ?_
  · simp only [go_sem, seval] <;> simp
  · intro i n hi hdi hwi ⟨hn, hI⟩
    have hat := B_at (45 :: D) (1 + i) (by simp; omega)
    rw [show (45 :: D)[1 + i]'(by simp; omega) = D[i] by simp [Nat.add_comm 1 i]] at hat
    have hdi : decide (((1 + i : Nat) : Int) < ((D.length + 1 : Nat) : Int)) = true := decide_eq_true (by omega)
    have hw : IntKind.wrap .i64 (((1 + i : Nat) : Int) + 1) = ((1 + (i + 1) : Nat) : Int) := by rw [wr64 (by omega) (by omega)]; omega
    have hlt : ((1 + i : Nat) : Int) < ((D.length + 1 : Nat) : Int) := by omega
    have h00 : (0 : Int) ≤ ((1 + i : Nat) : Int) := by omega
    rw [wholeF_step hi] at hI
    obtain ⟨f1, f2⟩ := byte_facts D[i]
    have hb : D[i].toNat < 256 := D[i].toNat_lt
    obtain ⟨d, hd⟩ : ∃ d : Int, d = (D[i].toNat : Int) - 48 := ⟨_, rfl⟩
    rw [← hd] at hI f2
    by_cases g1 : d < 0
    · rw [if_pos (.inl g1)] at hI
      rw [wholeR_none hI.symm] at hR
      subst hR
      have q1 : decide (d < 0) = true := decide_eq_true g1
      simp only [go_sem, seval, B_size, List.length_cons, hdi, Int.toNat_natCast, hat, f1, f2, ← hd, q1]
      (with_reducible and_intros)<;>first|exact .dq|omega|skip
    have q1 : decide (d < 0) = false := decide_eq_false g1
    by_cases g2 : 9 < d
    · rw [if_pos (.inr (.inl g2))] at hI
      rw [wholeR_none hI.symm] at hR
      subst hR
      have q2 : decide (9 < d) = true := decide_eq_true g2
      simp only [go_sem, seval, B_size, List.length_cons, hdi, Int.toNat_natCast, hat, f1, f2, ← hd, q1, q2]
      (with_reducible and_intros)<;>first|exact .dq|omega|skip
    have q2 : decide (9 < d) = false := decide_eq_false g2
    obtain ⟨f5, f6, f7⟩ := digit_facts (d := d) (n := n) (by omega) (by omega) hn
    by_cases g3 : n < (-9223372036854775808 + d).tdiv 10
    · rw [if_pos (.inr (.inr g3))] at hI
      rw [wholeR_none hI.symm] at hR
      subst hR
      have q3 : decide (n < (-9223372036854775808 + d).tdiv 10) = true := decide_eq_true g3
      simp only [go_sem, seval, B_size, List.length_cons, hdi, Int.toNat_natCast, hat, f1, f2, ← hd, q1, q2, f5, f6, q3]
      (with_reducible and_intros)<;>first|exact .dq|omega|skip
    have q3 : decide (n < (-9223372036854775808 + d).tdiv 10) = false := decide_eq_false g3
    obtain ⟨f8, f9⟩ := f7 g3
    rw [if_neg (by simp only [not_or]; exact ⟨g1, g2, g3⟩)] at hI
    have hu := tdiv_up (by omega) (by omega) g3
    simp only [go_sem, seval, B_size, List.length_cons, hdi, Int.toNat_natCast, hat, f1, f2, ← hd, q1, q2, f5, f6, q3, f8, f9, hw]
    (with_reducible and_intros)<;>first|exact .dq|omega|skip
    refine RoundK.step (10 * n - d) hi ⟨⟨hu, by omega⟩, hI⟩ ?_
    simp only [go_sem, seval]
  · intro n _ ⟨hn, hI⟩
    rw [List.drop_length] at hI
    have hI : wholeF 0 D = some n := hI.symm
    have hdx : decide (((1 + D.length : Nat) : Int) < ((D.length + 1 : Nat) : Int)) = false := decide_eq_false (by omega)
    have e : R = (n, true) := by rw [hR]; unfold wholeR; rw [hI]; rfl
    subst e
    simp only [go_sem, seval, B_size, List.length_cons, hdx]
    refine WeakK.id ?_
    simp only [go_sem, seval]
theorem whole_pos_any (D : List UInt8) (hp : D ≠ []) (hl : D.length ≤ 1000000000) (h45 : D.head? ≠ some 45) : Abs.Spec Tryd.prog 37 [] [.str (B D)] [] (.tup [.int .i64 (wholeR false D).1, .bool (wholeR false D).2]) := by
  have hp : 0 < D.length := List.length_pos_iff.2 hp
  have ha0 := B_at D 0 hp
  have h45 : ((D[0].toNat : Int) == 45) = false := by
    rw [beq_eq_false_iff_ne]; intro e
    apply h45
    rw [List.head?_eq_getElem?, List.getElem?_eq_getElem hp]
    congr 1
    exact UInt8.toNat_inj.1 (show _ = 45 by omega)
  have d0 : decide ((0 : Int) < (D.length : Int)) = true := decide_eq_true (by omega)
  have d1 : ((0 : Int) == (D.length : Int)) = false := by rw [beq_eq_false_iff_ne]; omega
  obtain ⟨R, hR⟩ : ∃ R, R = wholeR false D := ⟨_, rfl⟩
  rw [← hR]
  refine sgo 55 1 [.tmp 2, .tmp 3] mixed Tryd.func37 ?_
  simp only [go_sem, seval, B_size, d0, ha0, h45, d1]
  (with_reducible and_intros)<;>first|exact .dq|omega|skip
  refine LoopK.walk (S := Int) D.length [0, 4] [160] (fun i n => [(5, .int .i64 (i : Int)), (6, .int .i64 n)]) (fun _ _ => []) (fun i n => (-9223372036854775808 ≤ n ∧ n ≤ 0) ∧ wholeF n (D.drop i) = wholeF 0 D) 0 ⟨⟨by decide, by decide⟩, by simp⟩ ?_ ?_ ?_
  · simp only [go_sem, seval] <;> simp
  · intro i n hi hdi hwi ⟨hn, hI⟩
    have hat := B_at D i hi
    have hw := hwi
    have hlt : (i : Int) < (D.length : Int) := by omega
    have h00 : (0 : Int) ≤ (i : Int) := by omega
    rw [wholeF_step hi] at hI
    obtain ⟨f1, f2⟩ := byte_facts D[i]
    have hb : D[i].toNat < 256 := D[i].toNat_lt
    obtain ⟨d, hd⟩ : ∃ d : Int, d = (D[i].toNat : Int) - 48 := ⟨_, rfl⟩
    rw [← hd] at hI f2
    by_cases g1 : d < 0
    · rw [if_pos (.inl g1)] at hI
      rw [wholeR_none hI.symm] at hR
      subst hR
      have q1 : decide (d < 0) = true := decide_eq_true g1
      simp only [go_sem, seval, B_size, List.length_cons, hdi, Int.toNat_natCast, hat, f1, f2, ← hd, q1]
      (with_reducible and_intros)<;>first|exact .dq|omega|skip
    have q1 : decide (d < 0) = false := decide_eq_false g1
    by_cases g2 : 9 < d
    · rw [if_pos (.inr (.inl g2))] at hI
      rw [wholeR_none hI.symm] at hR
      subst hR
      have q2 : decide (9 < d) = true := decide_eq_true g2
      simp only [go_sem, seval, B_size, List.length_cons, hdi, Int.toNat_natCast, hat, f1, f2, ← hd, q1, q2]
      (with_reducible and_intros)<;>first|exact .dq|omega|skip
    have q2 : decide (9 < d) = false := decide_eq_false g2
    obtain ⟨f5, f6, f7⟩ := digit_facts (d := d) (n := n) (by omega) (by omega) hn
    by_cases g3 : n < (-9223372036854775808 + d).tdiv 10
    · rw [if_pos (.inr (.inr g3))] at hI
      rw [wholeR_none hI.symm] at hR
      subst hR
      have q3 : decide (n < (-9223372036854775808 + d).tdiv 10) = true := decide_eq_true g3
      simp only [go_sem, seval, B_size, List.length_cons, hdi, Int.toNat_natCast, hat, f1, f2, ← hd, q1, q2, f5, f6, q3]
      (with_reducible and_intros)<;>first|exact .dq|omega|skip
    have q3 : decide (n < (-9223372036854775808 + d).tdiv 10) = false := decide_eq_false g3
    obtain ⟨f8, f9⟩ := f7 g3
    rw [if_neg (by simp only [not_or]; exact ⟨g1, g2, g3⟩)] at hI
    have hu := tdiv_up (by omega) (by omega) g3
    simp only [go_sem, seval, B_size, List.length_cons, hdi, Int.toNat_natCast, hat, f1, f2, ← hd, q1, q2, f5, f6, q3, f8, f9, hw]
    (with_reducible and_intros)<;>first|exact .dq|omega|skip
    refine RoundK.step (10 * n - d) hi ⟨⟨hu, by omega⟩, hI⟩ ?_
    simp only [go_sem, seval]
  · intro n _ ⟨hn, hI⟩
    rw [List.drop_length] at hI
    have hI : wholeF 0 D = some n := hI.symm
    have hdx : decide ((D.length : Int) < (D.length : Int)) = false := decide_eq_false (by omega)
    by_cases g : n = -9223372036854775808
    · have e : R = (0, false) := by rw [hR]; unfold wholeR; rw [hI]; simp [g]
      have q : (n == -9223372036854775808) = true := by simpa using g
      subst e
      simp only [go_sem, seval, B_size, hdx]
      refine WeakK.id ?_
      simp only [go_sem, seval, q]
    · have e : R = (-n, true) := by rw [hR]; unfold wholeR; rw [hI]; simp [g]
      have q : (n == -9223372036854775808) = false := by simpa using g
      have hw : IntKind.wrap .i64 (0 - n) = -n := by rw [wr64 (by omega) (by omega)]; omega
      subst e
      simp only [go_sem, seval, B_size, hdx]
      refine WeakK.id ?_
      simp only [go_sem, seval, q, hw]
theorem whole_any (w : List UInt8) (hl : w.length ≤ 1000000000) : Abs.Spec Tryd.prog 37 [] [.str (B w)] [] (.tup [.int .i64 (wholeV w).1, .bool (wholeV w).2]) := by
  match w, hl with
  | [], _ =>
    refine sgo 55 1 [.tmp 2, .tmp 3] mixed Tryd.func37 ?_
    simp only [go_sem, seval, B_size, List.length_nil]
    exact ⟨rfl, rfl⟩
  | b :: r, hl =>
    by_cases hb : b = 45
    · subst hb
      by_cases hr : r = []
      · subst hr
        have ha0 := B_at [45] 0 (by simp)
        have h45 : ((45 : UInt8).toNat : Int) = 45 := rfl
        simp only [List.getElem_cons_zero] at ha0
        refine sgo 55 1 [.tmp 2, .tmp 3] mixed Tryd.func37 ?_
        simp only [go_sem, seval, B_size, List.length_cons, List.length_nil, ha0, h45]
        exact ⟨rfl, rfl⟩
      · have := whole_neg_any r hr (by simp at hl; omega)
        simpa only [wholeV, if_true, if_neg hr] using this
    · have := whole_pos_any (b :: r) (by simp) hl (by simpa using hb)
      simpa only [wholeV, if_neg hb] using this
theorem num27_any (w : List UInt8) (hl : w.length ≤ 1000000000) : Abs.Spec Tryd.prog 24 [] [.str (B w)] [] (numD w) := by
  unfold numD
  by_cases h20 : 20 < w.length
  · have e : numOf w = none := by
      cases q : numOf w with
      | none => rfl
      | some n => have := numOf_len q; omega
    have hd : decide ((20 : Int) < (w.length : Int)) = true := decide_eq_true (by omega)
    rw [e]
    refine sgo 23 1 [.tmp 2, .tmp 3] mixed Tryd.func24 ?_
    simp only [go_sem, seval, B_size, hd]
  have hd : decide ((20 : Int) < (w.length : Int)) = false := decide_eq_false (by omega)
  cases q : numOf w with
  | some n =>
    obtain ⟨e, hr⟩ := numOf_some q
    have h1 := whole_spec n hr
    have h2 := number27_spec n hr
    subst e
    obtain ⟨T, hT⟩ : ∃ T, T = itoa n := ⟨_, rfl⟩
    rw [← hT] at h1 h2 hd ⊢
    refine sgo 23 1 [.tmp 2, .tmp 3] mixed Tryd.func24 ?_
    simp only [go_sem, seval, B_size, hd]
    (with_reducible and_intros)<;>first|exact .dq|omega|skip
    refine CallN.pure h1 ?_
    simp only [go_sem, seval]
    (with_reducible and_intros)<;>first|exact .dq|omega|skip
    refine CallN.pure h2 ?_
    simp only [go_sem, seval, beq_self_eq_true]
  | none =>
    have h1 := whole_any w hl
    have hr := wholeV_rng w
    have hne := numOf_none q _ hr
    have h2 := number27_spec _ hr
    obtain ⟨V, hV⟩ : ∃ V, V = wholeV w := ⟨_, rfl⟩
    rw [← hV] at h1 h2 hne
    obtain ⟨n, ok⟩ := V
    have hb : ((B (itoa n)).toList == (B w).toList) = false := by rw [B_lst, B_lst, beq_eq_false_iff_ne]; exact hne
    simp only at h1 h2
    refine sgo 23 1 [.tmp 2, .tmp 3] mixed Tryd.func24 ?_
    simp only [go_sem, seval, B_size, hd]
    (with_reducible and_intros)<;>first|exact .dq|omega|skip
    refine CallN.pure h1 ?_
    cases ok
    · simp only [go_sem, seval]
    · simp only [go_sem, seval]
      (with_reducible and_intros)<;>first|exact .dq|omega|skip
      refine CallN.pure h2 ?_
      simp only [go_sem, seval, bne, hb]
end Go.Proofs.YtdklpddmplflgaaDoor
