/- The places of a command's fields, for all kinds; no theorem of a claim. -/
import Derived.Test.YtdklpddmplflgaaDoorV4
set_option linter.unusedSimpArgs false
set_option linter.unusedVariables false
namespace Go.Proofs.YtdklpddmplflgaaDoor
open Go.Abs
def adrs (r : Nat) (os : List Nat) : List D := os.map fun o => .addr r o
@[go_sem] theorem ci_len (l : List Int) : (ci l).length = l.length := by simp [ci]
@[go_sem] theorem renL_ci (f : Nat → Option Nat) (l : List Int) : D.renL f (ci l) = ci l := by
  rw [renL_map, ci, List.map_map]; rfl
@[go_sem] theorem killL_ci (r : Nat) (l : List Int) : D.killL r (ci l) = ci l := by
  rw [killL_map, ci, List.map_map]; rfl
@[go_sem] theorem leDL_ci (rh : Nat → Option Nat) (lv : Nat → Bool) (l : List Int) : leDL rh lv (ci l) (ci l) = True := eq_true (leDL_leaf (by
  intro d hd
  obtain ⟨n, _, rfl⟩ := List.mem_map.1 hd
  rfl))
@[go_sem] theorem namesL_ci (l : List Int) : D.namesL (ci l) = [] := by
  induction l with
  | nil => rfl
  | cons n r ih => show D.namesL (.int .i64 n :: ci r) = []; rw [D.namesL, ih]; rfl
theorem ci_put (l : List Int) (o : Nat) (n : Int) (h : o < l.length) : wput (ci l) o [.int .i64 n] = ci (l.set o n) := by
  unfold wput ci
  rw [List.map_set, List.set_eq_take_append_cons_drop, if_pos (by simpa using h)]
  simp
theorem ci_at (l : List Int) (o : Nat) (h : o < l.length) : (ci l).getD o .undef = .int .i64 (l.getD o 0) := by
  simp [ci, List.getD, h]
@[go_sem] theorem adrs_len (r : Nat) (os : List Nat) : (adrs r os).length = os.length := by simp [adrs]
theorem adrs_at (r : Nat) (os : List Nat) (i : Nat) (h : i < os.length) : (adrs r os).getD i .undef = .addr r (os.getD i 0) := by
  simp [adrs, List.getD, h]
theorem adrs_ok (r : Nat) (os : List Nat) : ∀ x ∈ adrs r os, cellOk x := by
  intro x hx
  obtain ⟨o, _, rfl⟩ := List.mem_map.1 hx
  trivial
theorem adrs_app (r : Nat) (a b : List Nat) : adrs r (a ++ b) = adrs r a ++ adrs r b := by simp [adrs]
theorem renL_adrs (f : Nat → Option Nat) (r s : Nat) (os : List Nat) (h : f r = some s) : D.renL f (adrs r os) = adrs s os := by
  rw [renL_map, adrs, List.map_map]
  refine List.map_congr_left fun o _ => ?_
  simp [D.ren, h]
@[go_sem] theorem leDL_rep (rh : Nat → Option Nat) (lv : Nat → Bool) (m : Nat) : leDL rh lv (List.replicate m .undef) (List.replicate m .undef) = True := by
  refine eq_true ?_
  induction m with
  | zero => simp [leDL]
  | succ m ih => rw [List.replicate_succ]; simp [leDL, leD, ih]
theorem leDL_buf {rh : Nat → Option Nat} {lv : Nat → Bool} {r s : Nat} (os : List Nat) (N : Nat) (h1 : rh s = some r) (h2 : lv s = true) : leDL rh lv (bufP (adrs r os) N) (bufP (adrs s os) N) := by
  have key : ∀ (m : Nat), leDL rh lv (List.replicate m .undef) (List.replicate m .undef) := by
    intro m
    induction m with
    | zero => simp [leDL]
    | succ m ih => rw [List.replicate_succ]; simp [leDL, leD, ih]
  unfold bufP
  rw [adrs_len, adrs_len]
  generalize N - os.length = m
  induction os with
  | nil => exact key m
  | cons o os ih =>
    show leDL rh lv (.addr r o :: (adrs r os ++ _)) (.addr s o :: (adrs s os ++ _))
    simp only [leDL, leD]
    exact ⟨⟨h1, h2, trivial⟩, ih⟩
/-- fewer cells of a box are told -/
theorem SpecE.shrink {P : Program} {f : FuncId} {hs ds : List D} {Φ Ψ : List D → D → Prop} (h : SpecE P f hs ds Φ) (hΦ : ∀ hs' d, Φ hs' d → ∃ h2, Ψ h2 d ∧ ∀ r, hs'.getD r .undef = h2.getD r .undef ∨ ∃ cs t, hs'.getD r .undef = .box (cs ++ t) ∧ h2.getD r .undef = .box cs) : SpecE P f hs ds Ψ := by
  refine ⟨h.1, ?_⟩
  intro w l0 G0 own0 S0 vs h1 h2 h3 h4 h5 h6
  refine (h.2 w l0 G0 own0 S0 vs h1 h2 h3 h4 h5 h6).mono ?_
  rintro e w' ⟨v, hs', d, hp, he, ho⟩
  obtain ⟨h2, hq, hr⟩ := hΦ hs' d hp
  refine ⟨v, h2, d, hq, he, ho.os, ho.tape, ho.output, ho.size, ho.old, ho.part, ?_⟩
  obtain ⟨lev, own, S, k1, k2, k3, k4, k5⟩ := ho.rep
  refine ⟨lev, own, S, k1, k2, k3, ?_, ?_⟩
  · intro r
    have k := k4 r
    rcases hr r with e | ⟨cs, t, e1, e2⟩
    · rw [e] at k; exact k
    · rw [e1] at k
      rw [e2]
      obtain ⟨b, o, c, E, q1, q2, q3, q4, q5, q6, q7⟩ := k
      refine ⟨b, o, c, E, q1, q2, by simp at q3; omega, q4, q5, ?_, ?_⟩
      · rcases q6 with q6 | ⟨l, u, g1, g2, g3⟩
        · exact .inl q6
        · exact .inr ⟨l, u, g1, g2, by simp at g3; omega⟩
      · intro j u x hu hx
        refine q7 j u x hu ?_
        rw [List.getElem?_append_left (List.getElem?_eq_some_iff.1 hx).1]
        exact hx
  · intro i hi hne
    refine k5 i hi ?_
    rcases hr i with e | ⟨cs, t, e1, e2⟩
    · rw [e]; exact hne
    · rw [e1]; intro h; cases h
/-- what the call of fields gives: the places, or none -/
def FieldsIs (k : Nat) (c : List Int) (hs' : List D) (d : D) : Prop :=
  (offL k = [] ∧ hs' = [.box (ci c)] ∧ d = .nil) ∨ (offL k ≠ [] ∧ ∃ N, (offL k).length ≤ N ∧ hs' = [.box (ci c), .box (adrs 0 (offL k))] ∧ d = .bsub 1 0 1 (offL k).length N)
set_option maxRecDepth 8000 in
theorem fields1 (a0 a1 a3 a4 a5 a6 a7 a8 a9 a10 a11 a12 a13 a14 a15 a16 : Int) : SpecE Tryd.prog 20 [.box (ci [a0, a1, 2, a3, a4, a5, a6, a7, a8, a9, a10, a11, a12, a13, a14, a15, a16])] [.addr 0 0] (FieldsIs 1 [a0, a1, 2, a3, a4, a5, a6, a7, a8, a9, a10, a11, a12, a13, a14, a15, a16]) := by
  refine SpecE.shrink (Φ := fun hs' d => ∃ N, 10 ≤ N ∧ hs' = [.box (ci [a0, a1, 2, a3, a4, a5, a6, a7, a8, a9, a10, a11, a12, a13, a14, a15, a16]), .box (bufP (adrs 0 (offL 1)) N)] ∧ d = .bsub 1 0 1 10 N) ?_ ?_
  rotate_left
  · rintro _ _ ⟨N, hN, rfl, rfl⟩
    refine ⟨[.box (ci [a0, a1, 2, a3, a4, a5, a6, a7, a8, a9, a10, a11, a12, a13, a14, a15, a16]), .box (adrs 0 (offL 1))], .inr ⟨by decide, N, hN, rfl, rfl⟩, ?_⟩
    intro r
    match r with
    | 0 => exact .inl rfl
    | 1 => exact .inr ⟨adrs 0 (offL 1), _, rfl, rfl⟩
    | r + 2 => exact .inl rfl
  refine sgoX (hs := [_]) (ds := [_]) 193 1 [.tmp 2] mixed Tryd.func20 ?_
  simp only [ci, List.map_cons, List.map_nil]
  simp -implicitDefEqProofs only [go_sem, seval]
  (with_reducible and_intros)<;>first|exact .dq|omega|skip
  with_reducible refine SemK.buildPtr (zc := [.nilp]) (cs := [.addr 0 6, .addr 0 7, .addr 0 8, .addr 0 10]) ty50 (by simp -implicitDefEqProofs only [go_sem, seval]) ?_ ?_ (by decide) ?_ (by decide) ?_ ?_
  · rfl
  · rfl
  · exact fillA _ _ _ rfl
  · rfl
  simp -implicitDefEqProofs only [go_sem, seval]
  (with_reducible and_intros)<;>first|exact .dq|omega|skip
  have eA : ∀ i, i < 6 → adrs 0 ((offL 1).take (4 + i)) ++ [.addr 0 (11 + i * 1)] = adrs 0 ((offL 1).take (4 + (i + 1))) := by
    intro i hi
    have : i = 0 ∨ i = 1 ∨ i = 2 ∨ i = 3 ∨ i = 4 ∨ i = 5 := by omega
    rcases this with rfl | rfl | rfl | rfl | rfl | rfl <;> rfl
  have lA : ∀ i, i ≤ 6 → (adrs 0 ((offL 1).take (4 + i))).length = 4 + i := fun i hi => by
    rw [adrs_len, List.length_take]; simp only [offL, List.length_cons, List.length_nil]; omega
  refine LoopK.walk (S := Nat) 6 [0] [0] (fun i N => [(3, .bsub 528 0 1 (4 + i) N), (33, .int .i64 i)]) (fun i N => [(528, .box (bufP (adrs 0 ((offL 1).take (4 + i))) N))]) (fun i N => 4 + i ≤ N) 4 (by decide) ?_ ?_ ?_
  · have e0 : bufP (adrs 0 ((offL 1).take (4 + 0))) 4 = [.addr 0 6, .addr 0 7, .addr 0 8, .addr 0 10] := rfl
    simp only [e0]
    simp -implicitDefEqProofs only [go_sem, seval] <;> simp
  · intro i N hi _ hwi hN
    have hdi : decide ((i : Int) < 6) = true := decide_eq_true (by omega)
    have eAi := eA i hi
    have lAi := lA i (by omega)
    obtain ⟨A, hA⟩ : ∃ A, A = adrs 0 ((offL 1).take (4 + i)) := ⟨_, rfl⟩
    have okA : ∀ x ∈ A, cellOk x := by rw [hA]; exact adrs_ok _ _
    rw [← hA] at eAi lAi ⊢
    have b1 : ∀ x, 4 + i + 1 ≤ N → wput (bufP A N) (0 + (4 + i)) (bsD [x] 0 1) = bufP (A ++ [x]) N := fun x h => by
      have := @bufP_put A N [x] (by rw [lAi]; simpa using h)
      rw [lAi] at this
      exact this
    have b2 : bsD (bufP A N) 0 (4 + i) = A := by rw [← lAi]; exact bufP_sub A N
    have b3 : ∀ (x : D) M, A ++ [x] ++ List.replicate (M - (4 + i + 1)) .undef = bufP (A ++ [x]) M := fun x M => by
      rw [← bufP_new, lAi]; rfl
    have b4 : (bufP A N).length = N := bufP_len (by omega)
    simp -implicitDefEqProofs only [go_sem, seval, hdi]
    (with_reducible and_intros)<;>first|exact .dq|omega|skip
    with_reducible refine SemK.buildPtr (zc := [.nilp]) (cs := [.addr 0 (11 + i * 1)]) ty50 (by simp -implicitDefEqProofs only [go_sem, seval]) ?_ ?_ (by decide) ?_ (by decide) ?_ ?_
    · rfl
    · rfl
    · exact fillA _ _ _ rfl
    · rfl
    simp -implicitDefEqProofs only [go_sem, seval]
    with_reducible refine SemK.appPtr (r := 528) (off := 0) (l := 4 + i) (c := N) (r2 := 688) (off2 := 0) (l2 := 1) (c2 := 1) (cs := bufP A N) (cs2 := [.addr 0 (11 + i * 1)]) ty50 ty50 ?_ ?_ ?_ ?_ ?_ ?_ ?_ ?_ (by decide) (by decide) (by omega) ?_ ?_
    · rfl
    · rfl
    · rfl
    · rfl
    · omega
    · exact Nat.le_refl _
    · rw [b2]; exact okA
    · intro x hx
      rw [List.mem_singleton.1 (show x ∈ [D.addr 0 (11 + i * 1)] from hx)]; trivial
    · intro h
      refine ⟨by omega, ?_⟩
      rw [b1 _ h, eAi]
      simp -implicitDefEqProofs only [go_sem, seval, hwi]
      refine RoundK.step N hi (by omega) ?_
      simp -implicitDefEqProofs only [go_sem, seval]
      exact ⟨by omega, leDL_buf _ _ rfl rfl⟩
    · intro h
      refine ⟨rfl, fun M hM => ?_⟩
      rw [b2, show bsD [D.addr 0 (11 + i * 1)] 0 1 = [D.addr 0 (11 + i * 1)] from rfl, b3, eAi]
      simp -implicitDefEqProofs only [go_sem, seval, hwi]
      refine RoundK.step M hi (by omega) ?_
      simp -implicitDefEqProofs only [go_sem, seval]
      exact ⟨by omega, leDL_buf _ _ rfl rfl⟩
  · intro N _ hN
    have hdx : decide (((6 : Nat) : Int) < 6) = false := by decide
    have eB : bufP (adrs 0 ((offL 1).take (4 + 6))) N = .addr 0 6 :: .addr 0 7 :: .addr 0 8 :: .addr 0 10 :: .addr 0 11 :: .addr 0 12 :: .addr 0 13 :: .addr 0 14 :: .addr 0 15 :: .addr 0 16 :: List.replicate (N - 10) .undef := rfl
    rw [eB]
    simp -implicitDefEqProofs only [go_sem, seval, hdx]
    refine RetX.mk [.box [.int .i64 a0, .int .i64 a1, .int .i64 2, .int .i64 a3, .int .i64 a4, .int .i64 a5, .int .i64 a6, .int .i64 a7, .int .i64 a8, .int .i64 a9, .int .i64 a10, .int .i64 a11, .int .i64 a12, .int .i64 a13, .int .i64 a14, .int .i64 a15, .int .i64 a16], .box (.addr 0 6 :: .addr 0 7 :: .addr 0 8 :: .addr 0 10 :: .addr 0 11 :: .addr 0 12 :: .addr 0 13 :: .addr 0 14 :: .addr 0 15 :: .addr 0 16 :: List.replicate (N - 10) .undef)] (.bsub 1 0 1 10 N) ⟨N, hN, rfl, rfl⟩ ?_
    simp -implicitDefEqProofs only [go_sem, seval]
/-- of any kind -/
theorem fieldsE (k : Nat) (hk : k < 22) (c : List Int) (hc : c.length = 17) (h2 : c.getD 2 0 = (k : Int) + 1) : SpecE Tryd.prog 20 [.box (ci c)] [.addr 0 0] (FieldsIs k c) := by
  obtain ⟨a0, a1, a2, a3, a4, a5, a6, a7, a8, a9, a10, a11, a12, a13, a14, a15, a16, rfl⟩ := len17 hc
  have h2 : a2 = (k : Int) + 1 := h2
  subst h2
  rcases lt22 hk with rfl | rfl | rfl | rfl | rfl | rfl | rfl | rfl | rfl | rfl | rfl | rfl | rfl | rfl | rfl | rfl | rfl | rfl | rfl | rfl | rfl | rfl
  · exact (fields0 a0 a1 a3 a4 a5 a6 a7 a8 a9 a10 a11 a12 a13 a14 a15 a16).toE (.inr ⟨by decide, 2, Nat.le_refl _, rfl, rfl⟩)
  · exact fields1 a0 a1 a3 a4 a5 a6 a7 a8 a9 a10 a11 a12 a13 a14 a15 a16
  · exact (fields2 a0 a1 a3 a4 a5 a6 a7 a8 a9 a10 a11 a12 a13 a14 a15 a16).toE (.inr ⟨by decide, 4, Nat.le_refl _, rfl, rfl⟩)
  · exact (fields3 a0 a1 a3 a4 a5 a6 a7 a8 a9 a10 a11 a12 a13 a14 a15 a16).toE (.inr ⟨by decide, 3, Nat.le_refl _, rfl, rfl⟩)
  · exact (fields4 a0 a1 a3 a4 a5 a6 a7 a8 a9 a10 a11 a12 a13 a14 a15 a16).toE (.inr ⟨by decide, 3, Nat.le_refl _, rfl, rfl⟩)
  · exact (fields5 a0 a1 a3 a4 a5 a6 a7 a8 a9 a10 a11 a12 a13 a14 a15 a16).toE (.inr ⟨by decide, 3, Nat.le_refl _, rfl, rfl⟩)
  · exact (fields6 a0 a1 a3 a4 a5 a6 a7 a8 a9 a10 a11 a12 a13 a14 a15 a16).toE (.inr ⟨by decide, 3, Nat.le_refl _, rfl, rfl⟩)
  · exact (fields7 a0 a1 a3 a4 a5 a6 a7 a8 a9 a10 a11 a12 a13 a14 a15 a16).toE (.inr ⟨by decide, 3, Nat.le_refl _, rfl, rfl⟩)
  · exact (fields8 a0 a1 a3 a4 a5 a6 a7 a8 a9 a10 a11 a12 a13 a14 a15 a16).toE (.inr ⟨by decide, 2, Nat.le_refl _, rfl, rfl⟩)
  · exact (fields9 a0 a1 a3 a4 a5 a6 a7 a8 a9 a10 a11 a12 a13 a14 a15 a16).toE (.inr ⟨by decide, 5, Nat.le_refl _, rfl, rfl⟩)
  · exact (fields10 a0 a1 a3 a4 a5 a6 a7 a8 a9 a10 a11 a12 a13 a14 a15 a16).toE (.inr ⟨by decide, 1, Nat.le_refl _, rfl, rfl⟩)
  · exact (fields11 a0 a1 a3 a4 a5 a6 a7 a8 a9 a10 a11 a12 a13 a14 a15 a16).toE (.inr ⟨by decide, 3, Nat.le_refl _, rfl, rfl⟩)
  · exact (fields12 a0 a1 a3 a4 a5 a6 a7 a8 a9 a10 a11 a12 a13 a14 a15 a16).toE (.inr ⟨by decide, 2, Nat.le_refl _, rfl, rfl⟩)
  · exact (fields13 a0 a1 a3 a4 a5 a6 a7 a8 a9 a10 a11 a12 a13 a14 a15 a16).toE (.inl ⟨rfl, rfl, rfl⟩)
  · exact (fields14 a0 a1 a3 a4 a5 a6 a7 a8 a9 a10 a11 a12 a13 a14 a15 a16).toE (.inl ⟨rfl, rfl, rfl⟩)
  · exact (fields15 a0 a1 a3 a4 a5 a6 a7 a8 a9 a10 a11 a12 a13 a14 a15 a16).toE (.inl ⟨rfl, rfl, rfl⟩)
  · exact (fields16 a0 a1 a3 a4 a5 a6 a7 a8 a9 a10 a11 a12 a13 a14 a15 a16).toE (.inr ⟨by decide, 1, Nat.le_refl _, rfl, rfl⟩)
  · exact (fields17 a0 a1 a3 a4 a5 a6 a7 a8 a9 a10 a11 a12 a13 a14 a15 a16).toE (.inr ⟨by decide, 5, Nat.le_refl _, rfl, rfl⟩)
  · exact (fields18 a0 a1 a3 a4 a5 a6 a7 a8 a9 a10 a11 a12 a13 a14 a15 a16).toE (.inr ⟨by decide, 1, Nat.le_refl _, rfl, rfl⟩)
  · exact (fields19 a0 a1 a3 a4 a5 a6 a7 a8 a9 a10 a11 a12 a13 a14 a15 a16).toE (.inl ⟨rfl, rfl, rfl⟩)
  · exact (fields20 a0 a1 a3 a4 a5 a6 a7 a8 a9 a10 a11 a12 a13 a14 a15 a16).toE (.inr ⟨by decide, 3, Nat.le_refl _, rfl, rfl⟩)
  · exact (fields21 a0 a1 a3 a4 a5 a6 a7 a8 a9 a10 a11 a12 a13 a14 a15 a16).toE (.inr ⟨by decide, 2, Nat.le_refl _, rfl, rfl⟩)
end Go.Proofs.YtdklpddmplflgaaDoor
