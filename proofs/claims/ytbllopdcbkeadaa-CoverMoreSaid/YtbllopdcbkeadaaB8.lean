/- The reference's pledges; no theorem of a claim. -/
import Derived.Test.YtbllopdcbkeadaaB7
set_option linter.unusedSimpArgs false
set_option linter.unusedVariables false
namespace Go.Proofs.Ytbllopdcbkeadaa
open Go.Abs
def enumW (f : Int → Int → Int) (w : Int) : Nat → List Plg
  | 0 => []
  | n + 1 => enumW f w n ++ if 0 < f w (n + 1) then [⟨w, n + 1, f w (n + 1)⟩] else []
def enum (f : Int → Int → Int) : Nat → List Plg
  | 0 => []
  | n + 1 => enum f n ++ enumW f (n + 1) 6
theorem mem_enumW {f : Int → Int → Int} {w : Int} {p : Plg} : ∀ {n : Nat}, p ∈ enumW f w n ↔ p.who = w ∧ 1 ≤ p.asset ∧ p.asset ≤ n ∧ p.units = f w p.asset ∧ 0 < p.units
  | 0 => by simp [enumW]; omega
  | n + 1 => by
    simp only [enumW, List.mem_append, mem_enumW (n := n)]
    constructor
    · rintro (⟨h1, h2, h3, h4, h5⟩ | h)
      · exact ⟨h1, h2, by omega, h4, h5⟩
      · split at h
        · rename_i hf
          simp only [List.mem_cons, List.not_mem_nil, or_false] at h
          subst h
          exact ⟨rfl, by show (1 : Int) ≤ n + 1; omega, by show (n : Int) + 1 ≤ _; omega, rfl, hf⟩
        · cases h
    · rintro ⟨h1, h2, h3, h4, h5⟩
      by_cases h : p.asset = n + 1
      · right
        rw [h] at h4
        rw [if_pos (by omega)]
        cases p
        simp_all
      · left; exact ⟨h1, h2, by omega, h4, h5⟩
theorem mem_enum {f : Int → Int → Int} {p : Plg} : ∀ {n : Nat}, p ∈ enum f n ↔ 1 ≤ p.who ∧ p.who ≤ n ∧ 1 ≤ p.asset ∧ p.asset ≤ 6 ∧ p.units = f p.who p.asset ∧ 0 < p.units
  | 0 => by simp [enum]; omega
  | n + 1 => by
    simp only [enum, List.mem_append, mem_enum (n := n), mem_enumW]
    constructor
    · rintro (⟨h1, h2, h3⟩ | ⟨h1, h2, h3, h4, h5⟩)
      · exact ⟨h1, by omega, h3⟩
      · rw [← h1] at h4; exact ⟨by omega, by omega, h2, h3, h4, h5⟩
    · rintro ⟨h1, h2, h3, h4, h5, h6⟩
      by_cases h : p.who = n + 1
      · right; rw [h] at h5; exact ⟨h, h3, h4, h5, h6⟩
      · left; exact ⟨h1, by omega, h3, h4, h5, h6⟩
theorem enumW_sorted (f : Int → Int → Int) (w : Int) : ∀ n : Nat, (enumW f w n).Pairwise (fun p q => p.key < q.key)
  | 0 => by simp [enumW]
  | n + 1 => by
    simp only [enumW, List.pairwise_append]
    refine ⟨enumW_sorted f w n, by split <;> simp, ?_⟩
    intro p hp q hq
    have h := mem_enumW.1 hp
    split at hq
    · simp only [List.mem_cons, List.not_mem_nil, or_false] at hq
      subst hq
      simp only [Plg.key]; omega
    · cases hq
theorem enum_sorted (f : Int → Int → Int) : ∀ n : Nat, (enum f n).Pairwise (fun p q => p.key < q.key)
  | 0 => by simp [enum]
  | n + 1 => by
    simp only [enum, List.pairwise_append]
    refine ⟨enum_sorted f n, enumW_sorted f _ 6, ?_⟩
    intro p hp q hq
    have h := mem_enum.1 hp
    have h2 := mem_enumW.1 hq
    simp only [Plg.key]; omega
theorem sorted_ext : ∀ {l m : List Plg}, l.Pairwise (fun p q => p.key < q.key) → m.Pairwise (fun p q => p.key < q.key) → (∀ p, p ∈ l ↔ p ∈ m) → l = m
  | [], [], _, _, _ => rfl
  | [], q :: m, _, _, h => by have := (h q).2 (by simp); cases this
  | p :: l, [], _, _, h => by have := (h p).1 (by simp); cases this
  | p :: l, q :: m, hl, hm, h => by
    rw [List.pairwise_cons] at hl hm
    have hpq : p = q := by
      rcases List.mem_cons.1 ((h p).1 (by simp)) with e | e
      · exact e
      · rcases List.mem_cons.1 ((h q).2 (by simp)) with e2 | e2
        · exact e2.symm
        · have a := hm.1 p e; have b := hl.1 q e2; omega
    subst hpq
    rw [sorted_ext hl.2 hm.2]
    intro r
    constructor
    · intro hr
      rcases List.mem_cons.1 ((h r).1 (by simp [hr])) with e | e
      · subst e; have := hl.1 r hr; omega
      · exact e
    · intro hr
      rcases List.mem_cons.1 ((h r).2 (by simp [hr])) with e | e
      · subst e; have := hm.1 r hr; omega
      · exact e
theorem units_mem {ps : List Plg} (hg : Good ps) {p : Plg} (hp : p ∈ ps) : unitsL p.who p.asset ps = p.units := by
  induction ps with
  | nil => cases hp
  | cons q r ih =>
    have hgr : Good r := ⟨fun x hx => hg.1 x (by simp [hx]), (List.pairwise_cons.1 hg.2).2⟩
    simp only [unitsL]
    rcases List.mem_cons.1 hp with e | e
    · subst e; simp
    · have hlt := (List.pairwise_cons.1 hg.2).1 p e
      have hne : ¬ (q.who = p.who ∧ q.asset = p.asset) := fun hh => by
        simp only [Plg.key] at hlt; omega
      rw [if_neg hne, ih hgr e]
theorem units_some {w a : Int} : ∀ {ps : List Plg}, 0 < unitsL w a ps → (⟨w, a, unitsL w a ps⟩ : Plg) ∈ ps
  | [], h => by simp [unitsL] at h
  | q :: r, h => by
    simp only [unitsL] at h ⊢
    split
    · rename_i hh
      have : (⟨w, a, q.units⟩ : Plg) = q := by cases q; simp_all
      rw [this]; simp
    · rename_i hh
      rw [if_neg hh] at h
      exact List.mem_cons_of_mem _ (units_some h)
theorem enum_units {ps : List Plg} (hg : Good ps) : enum (fun w a => unitsL w a ps) 16 = ps := by
  refine sorted_ext (enum_sorted _ 16) hg.2 ?_
  intro p
  rw [mem_enum]
  constructor
  · rintro ⟨h1, h2, h3, h4, h5, h6⟩
    have := units_some (w := p.who) (a := p.asset) (ps := ps) (by rw [← h5]; exact h6)
    rw [← h5] at this
    exact this
  · intro hp
    have hr := (hg.1 p hp)
    have hr1 := rightB_iff.1 hr.1
    exact ⟨hr1.1, hr1.2.1, hr1.2.2.1, hr1.2.2.2, (units_mem hg hp).symm, by have := hr.2; omega⟩
/-- what the reference reads of each name -/
def refF (ps : List Plg) (w a n : Int) (w' a' : Int) : Int := if w' = w ∧ a' = a then n else unitsL w' a' ps
theorem enum_refF {ps : List Plg} {w a n : Int} (hg : Good ps) (hr : rightB w a = true) (h0 : 0 ≤ n) (hn : n ≤ 1099511627776) : enum (refF ps w a n) 16 = chg w a n ps := by
  have : refF ps w a n = fun w' a' => unitsL w' a' (chg w a n ps) := by
    funext w' a'
    unfold refF
    split
    · rename_i h; rw [h.1, h.2, units_chg hr h0 hg]
    · rename_i h; rw [units_other h hr hg]
  rw [this, enum_units (chg_good hr hn hg)]
theorem refUnits_spec (w a : Int) (ps : List Plg) (hl : ps.length < 2 ^ 62) : Abs.Spec Try.prog 16 [] [.int .i64 w, .int .i64 a, .sl 3 (pl ps)] [] (.int .i64 (unitsL w a ps)) := by
  refine Abs.Spec.go (n := 35) (np := 3) (rs := [.tmp 6]) mixed Try.func16 rfl rfl rfl rfl rfl (by simp) (by simp) ?_
  simp only [go_sem, Nat.reduceAdd, Nat.reduceSub, Nat.reduceMul, Nat.reducePow, Nat.reduceEqDiff, Nat.reduceLT, Nat.reduceLeDiff, Nat.reduceBEq, Nat.reduceBNe, Int.reduceToNat, Int.reduceLT, Int.reduceLE, Int.reduceEq, Int.reduceBNe, Int.reduceBEq, Int.reduceAdd, Int.reduceSub, Int.reduceMul, Int.reduceNeg, ↓reduceIte]
  refine LoopK.count ps.length [0, 1, 2] [] (fun i => [(7, .int .i64 i)]) (fun i => []) (fun i => unitsL w a (ps.drop i) = unitsL w a ps) (by simp only [go_sem, Nat.reduceAdd, Nat.reduceSub, Nat.reduceMul, Nat.reducePow, Nat.reduceEqDiff, Nat.reduceLT, Nat.reduceLeDiff, Nat.reduceBEq, Nat.reduceBNe, Int.reduceToNat, Int.reduceLT, Int.reduceLE, Int.reduceEq, Int.reduceBNe, Int.reduceBEq, Int.reduceAdd, Int.reduceSub, Int.reduceMul, Int.reduceNeg, ↓reduceIte] <;> exact rfl) (by simp only [go_sem, Nat.reduceAdd, Nat.reduceSub, Nat.reduceMul, Nat.reducePow, Nat.reduceEqDiff, Nat.reduceLT, Nat.reduceLeDiff, Nat.reduceBEq, Nat.reduceBNe, Int.reduceToNat, Int.reduceLT, Int.reduceLE, Int.reduceEq, Int.reduceBNe, Int.reduceBEq, Int.reduceAdd, Int.reduceSub, Int.reduceMul, Int.reduceNeg, ↓reduceIte] <;> exact rfl) (by simp) ?_ ?_
  · simp only [go_sem, Nat.reduceAdd, Nat.reduceSub, Nat.reduceMul, Nat.reducePow, Nat.reduceEqDiff, Nat.reduceLT, Nat.reduceLeDiff, Nat.reduceBEq, Nat.reduceBNe, Int.reduceToNat, Int.reduceLT, Int.reduceLE, Int.reduceEq, Int.reduceBNe, Int.reduceBEq, Int.reduceAdd, Int.reduceSub, Int.reduceMul, Int.reduceNeg, ↓reduceIte] <;> simp
  · intro i hi hI
    simp only [go_sem, Nat.reduceAdd, Nat.reduceSub, Nat.reduceMul, Nat.reducePow, Nat.reduceEqDiff, Nat.reduceLT, Nat.reduceLeDiff, Nat.reduceBEq, Nat.reduceBNe, Int.reduceToNat, Int.reduceLT, Int.reduceLE, Int.reduceEq, Int.reduceBNe, Int.reduceBEq, Int.reduceAdd, Int.reduceSub, Int.reduceMul, Int.reduceNeg, ↓reduceIte]
    refine CondE.splitD (fun h => ?_) (fun h => ?_)
    · have hi' : i < ps.length := by omega
      have hw : IntKind.wrap .i64 ((i : Int) + 1) = ((i + 1 : Nat) : Int) := by rw [wr64 (by omega) (by omega)]; omega
      rw [getD_pl hi'] at hI
      simp only [unitsL] at hI
      simp only [go_sem, Nat.reduceAdd, Nat.reduceSub, Nat.reduceMul, Nat.reducePow, Nat.reduceEqDiff, Nat.reduceLT, Nat.reduceLeDiff, Nat.reduceBEq, Nat.reduceBNe, Int.reduceToNat, Int.reduceLT, Int.reduceLE, Int.reduceEq, Int.reduceBNe, Int.reduceBEq, Int.reduceAdd, Int.reduceSub, Int.reduceMul, Int.reduceNeg, ↓reduceIte, pl_at ps hi']
      repeat' (with_reducible first
          | refine And.intro ?_ ?_
          | exact DrawN.mk (by kernel_rfl)
          | exact OkN.mk (by kernel_rfl)
          | refine CallN.pure (by assumption) ?_
          | refine GuardK.splitDN (fun h => ?_) (fun h => ?_)
          | refine GuardK.splitD (fun h => ?_) (fun h => ?_)
          | refine CondE.splitDN (fun h => ?_) (fun h => ?_)
          | refine CondE.splitD (fun h => ?_) (fun h => ?_)
          | refine GuardK.splitN (fun h => ?_) (fun h => ?_)
          | refine GuardK.split (fun h => ?_) (fun h => ?_)
          | refine CondE.splitN (fun h => ?_) (fun h => ?_)
          | refine CondE.split (fun h => ?_) (fun h => ?_)
          | refine WeakK.id ?_
          | refine RoundK.next (by omega) ?_ ?_
          | exact trivial
          | simp only [*, go_sem, Nat.reduceAdd, Nat.reduceSub, Nat.reduceMul, Nat.reducePow, Nat.reduceEqDiff, Nat.reduceLT, Nat.reduceLeDiff, Nat.reduceBEq, Nat.reduceBNe, Int.reduceToNat, Int.reduceLT, Int.reduceLE, Int.reduceEq, Int.reduceBNe, Int.reduceBEq, Int.reduceAdd, Int.reduceSub, Int.reduceMul, Int.reduceNeg, ↓reduceIte, pl_at ps hi'])
      all_goals (simp_all; done)
    · obtain rfl : i = ps.length := by omega
      simp only [List.drop_length, unitsL] at hI
      repeat' (with_reducible first
          | refine And.intro ?_ ?_
          | exact DrawN.mk (by kernel_rfl)
          | exact OkN.mk (by kernel_rfl)
          | refine CallN.pure (by assumption) ?_
          | refine GuardK.splitDN (fun h => ?_) (fun h => ?_)
          | refine GuardK.splitD (fun h => ?_) (fun h => ?_)
          | refine CondE.splitDN (fun h => ?_) (fun h => ?_)
          | refine CondE.splitD (fun h => ?_) (fun h => ?_)
          | refine GuardK.splitN (fun h => ?_) (fun h => ?_)
          | refine GuardK.split (fun h => ?_) (fun h => ?_)
          | refine CondE.splitN (fun h => ?_) (fun h => ?_)
          | refine CondE.split (fun h => ?_) (fun h => ?_)
          | refine WeakK.id ?_
          | refine RoundK.next (by omega) ?_ ?_
          | exact trivial
          | simp only [*, go_sem, Nat.reduceAdd, Nat.reduceSub, Nat.reduceMul, Nat.reducePow, Nat.reduceEqDiff, Nat.reduceLT, Nat.reduceLeDiff, Nat.reduceBEq, Nat.reduceBNe, Int.reduceToNat, Int.reduceLT, Int.reduceLE, Int.reduceEq, Int.reduceBNe, Int.reduceBEq, Int.reduceAdd, Int.reduceSub, Int.reduceMul, Int.reduceNeg, ↓reduceIte])
theorem right_within (w a : Int) : rightB w a = (within w 1 16 && within a 1 6) := by simp [rightB, within, Bool.and_assoc]
def ordB (q p : Plg) : Bool := decide (q.who > p.who) || (q.who == p.who && decide (q.asset ≥ p.asset))
theorem ord_cmp {q p : Plg} (hq : rightB q.who q.asset = true) (hp : rightB p.who p.asset = true) : ordB q p = !decide (cmpW q p.who p.asset < 0) := by
  rw [cmpW_small hq hp, Bool.eq_iff_iff]
  simp only [ordB, Bool.or_eq_true, Bool.and_eq_true, decide_eq_true_eq, beq_iff_eq, Bool.not_eq_true', decide_eq_false_iff_not]
  split <;> omega
set_option maxRecDepth 8000 in
theorem refPledges_spec (ps : List Plg) (hl : ps.length < 2 ^ 62) : Abs.Spec Try.prog 15 [] [.sl 3 (pl ps)] [] (.bool (checkB ps)) := by
  refine Abs.Spec.go (n := 66) (np := 1) (rs := [.tmp 2]) mixed Try.func15 rfl rfl rfl rfl rfl (by simp) (by simp) ?_
  simp only [go_sem, Nat.reduceAdd, Nat.reduceSub, Nat.reduceMul, Nat.reducePow, Nat.reduceEqDiff, Nat.reduceLT, Nat.reduceLeDiff, Nat.reduceBEq, Nat.reduceBNe, Int.reduceToNat, Int.reduceLT, Int.reduceLE, Int.reduceEq, Int.reduceBNe, Int.reduceBEq, Int.reduceAdd, Int.reduceSub, Int.reduceMul, Int.reduceNeg, ↓reduceIte]
  refine LoopK.count ps.length [0] [] (fun i => [(3, .int .i64 i)]) (fun i => []) (fun i => ∀ j < i, okAt ps j = true) (by simp only [go_sem, Nat.reduceAdd, Nat.reduceSub, Nat.reduceMul, Nat.reducePow, Nat.reduceEqDiff, Nat.reduceLT, Nat.reduceLeDiff, Nat.reduceBEq, Nat.reduceBNe, Int.reduceToNat, Int.reduceLT, Int.reduceLE, Int.reduceEq, Int.reduceBNe, Int.reduceBEq, Int.reduceAdd, Int.reduceSub, Int.reduceMul, Int.reduceNeg, ↓reduceIte] <;> exact rfl) (by simp only [go_sem, Nat.reduceAdd, Nat.reduceSub, Nat.reduceMul, Nat.reducePow, Nat.reduceEqDiff, Nat.reduceLT, Nat.reduceLeDiff, Nat.reduceBEq, Nat.reduceBNe, Int.reduceToNat, Int.reduceLT, Int.reduceLE, Int.reduceEq, Int.reduceBNe, Int.reduceBEq, Int.reduceAdd, Int.reduceSub, Int.reduceMul, Int.reduceNeg, ↓reduceIte] <;> exact rfl) (by simp) ?_ ?_
  · simp only [go_sem, Nat.reduceAdd, Nat.reduceSub, Nat.reduceMul, Nat.reducePow, Nat.reduceEqDiff, Nat.reduceLT, Nat.reduceLeDiff, Nat.reduceBEq, Nat.reduceBNe, Int.reduceToNat, Int.reduceLT, Int.reduceLE, Int.reduceEq, Int.reduceBNe, Int.reduceBEq, Int.reduceAdd, Int.reduceSub, Int.reduceMul, Int.reduceNeg, ↓reduceIte] <;> simp
  · intro i hi hI
    simp only [go_sem, Nat.reduceAdd, Nat.reduceSub, Nat.reduceMul, Nat.reducePow, Nat.reduceEqDiff, Nat.reduceLT, Nat.reduceLeDiff, Nat.reduceBEq, Nat.reduceBNe, Int.reduceToNat, Int.reduceLT, Int.reduceLE, Int.reduceEq, Int.reduceBNe, Int.reduceBEq, Int.reduceAdd, Int.reduceSub, Int.reduceMul, Int.reduceNeg, ↓reduceIte]
    refine CondE.splitD (fun h => ?_) (fun h => ?_)
    · have hi' : i < ps.length := by omega
      have hw : IntKind.wrap .i64 ((i : Int) + 1) = ((i + 1 : Nat) : Int) := by rw [wr64 (by omega) (by omega)]; omega
      have h1 := refWho_spec ps[i].who
      have h2 := ref15asset_spec ps[i].asset
      have h3 := within15_spec ps[i].units 1 1099511627776
      have hk := okAt_eq hi'
      have hwu : within ps[i].units 1 1099511627776 = (decide (1 ≤ ps[i].units) && decide (ps[i].units ≤ 1099511627776)) := rfl
      rw [right_within, Bool.and_assoc _ (decide (1 ≤ ps[i].units)), ← hwu] at hk
      clear hwu
      have e0 : okAt ps i = true → ∀ k < i + 1, okAt ps k = true := fun h0 k hk => by
        rcases Nat.lt_or_ge k i with h | h
        · exact hI k h
        · obtain rfl : k = i := by omega
          exact h0
      have e1 : okAt ps i = false → checkB ps = false := checkB_no hi'
      rcases Nat.eq_zero_or_pos i with rfl | hpos
      · simp only [go_sem, Nat.reduceAdd, Nat.reduceSub, Nat.reduceMul, Nat.reducePow, Nat.reduceEqDiff, Nat.reduceLT, Nat.reduceLeDiff, Nat.reduceBEq, Nat.reduceBNe, Int.reduceToNat, Int.reduceLT, Int.reduceLE, Int.reduceEq, Int.reduceBNe, Int.reduceBEq, Int.reduceAdd, Int.reduceSub, Int.reduceMul, Int.reduceNeg, ↓reduceIte, pl_at ps hi']
        repeat' (with_reducible first
            | refine And.intro ?_ ?_
            | exact DrawN.mk (by kernel_rfl)
            | exact OkN.mk (by kernel_rfl)
            | refine CallN.pure (by assumption) ?_
            | refine CallN.pure (h1) ?_
            | refine CallN.pure (h2) ?_
            | refine CallN.pure (h3) ?_
            | refine GuardK.splitDN (fun h => ?_) (fun h => ?_)
            | refine GuardK.splitD (fun h => ?_) (fun h => ?_)
            | refine CondE.splitDN (fun h => ?_) (fun h => ?_)
            | refine CondE.splitD (fun h => ?_) (fun h => ?_)
            | refine GuardK.splitN (fun h => ?_) (fun h => ?_)
            | refine GuardK.split (fun h => ?_) (fun h => ?_)
            | refine CondE.splitN (fun h => ?_) (fun h => ?_)
            | refine CondE.split (fun h => ?_) (fun h => ?_)
            | refine WeakK.id ?_
            | refine RoundK.next (by omega) ?_ ?_
            | exact trivial
            | simp only [*, go_sem, Nat.reduceAdd, Nat.reduceSub, Nat.reduceMul, Nat.reducePow, Nat.reduceEqDiff, Nat.reduceLT, Nat.reduceLeDiff, Nat.reduceBEq, Nat.reduceBNe, Int.reduceToNat, Int.reduceLT, Int.reduceLE, Int.reduceEq, Int.reduceBNe, Int.reduceBEq, Int.reduceAdd, Int.reduceSub, Int.reduceMul, Int.reduceNeg, ↓reduceIte])
        all_goals first
          | omega
          | rfl
          | (refine e0 ?_; rw [hk]; simp_all; done)
          | (refine e0 ?_; rw [hk]; simp_all [ordB]; omega)
          | (rw [e1 ?_]
             cases hh : okAt ps 0
             · rfl
             · exfalso; rw [hk] at hh; simp_all [ordB])
          | (rw [e1 ?_]
             cases hh : okAt ps 0
             · rfl
             · exfalso; rw [hk] at hh; simp_all [ordB]; omega)
      · obtain ⟨j, rfl⟩ : ∃ j, i = j + 1 := ⟨i - 1, by omega⟩
        have hj : j < ps.length := by omega
        have hw1 : IntKind.wrap .i64 (((j + 1 : Nat) : Int) - 1) = (j : Int) := by rw [wr64 (by omega) (by omega)]; omega
        have ej : ps.getD (j + 1 - 1) ⟨0, 0, 0⟩ = ps[j] := by simp [hj]
        rw [ej] at hk
        have hjo := hI j (by omega)
        have hjr : rightB ps[j].who ps[j].asset = true := by
          rw [okAt_eq hj] at hjo
          simp only [Bool.and_eq_true] at hjo
          exact hjo.1.1.1
        replace hk : okAt ps (j + 1) = (within ps[j + 1].who 1 16 && within ps[j + 1].asset 1 6 && within ps[j + 1].units 1 1099511627776 && !ordB ps[j] ps[j + 1]) := by
          rw [hk]
          cases hwa : within ps[j + 1].who 1 16 && within ps[j + 1].asset 1 6
          · simp
          · rw [← right_within] at hwa
            rw [ord_cmp hjr hwa]
            simp
        simp only [go_sem, Nat.reduceAdd, Nat.reduceSub, Nat.reduceMul, Nat.reducePow, Nat.reduceEqDiff, Nat.reduceLT, Nat.reduceLeDiff, Nat.reduceBEq, Nat.reduceBNe, Int.reduceToNat, Int.reduceLT, Int.reduceLE, Int.reduceEq, Int.reduceBNe, Int.reduceBEq, Int.reduceAdd, Int.reduceSub, Int.reduceMul, Int.reduceNeg, ↓reduceIte, pl_at ps hi']
        repeat' (with_reducible first
            | refine And.intro ?_ ?_
            | exact DrawN.mk (by kernel_rfl)
            | exact OkN.mk (by kernel_rfl)
            | refine CallN.pure (by assumption) ?_
            | refine CallN.pure (h1) ?_
            | refine CallN.pure (h2) ?_
            | refine CallN.pure (h3) ?_
            | refine GuardK.splitDN (fun h => ?_) (fun h => ?_)
            | refine GuardK.splitD (fun h => ?_) (fun h => ?_)
            | refine CondE.splitDN (fun h => ?_) (fun h => ?_)
            | refine CondE.splitD (fun h => ?_) (fun h => ?_)
            | refine GuardK.splitN (fun h => ?_) (fun h => ?_)
            | refine GuardK.split (fun h => ?_) (fun h => ?_)
            | refine CondE.splitN (fun h => ?_) (fun h => ?_)
            | refine CondE.split (fun h => ?_) (fun h => ?_)
            | refine WeakK.id ?_
            | refine RoundK.next (by omega) ?_ ?_
            | exact trivial
            | simp only [*, go_sem, Nat.reduceAdd, Nat.reduceSub, Nat.reduceMul, Nat.reducePow, Nat.reduceEqDiff, Nat.reduceLT, Nat.reduceLeDiff, Nat.reduceBEq, Nat.reduceBNe, Int.reduceToNat, Int.reduceLT, Int.reduceLE, Int.reduceEq, Int.reduceBNe, Int.reduceBEq, Int.reduceAdd, Int.reduceSub, Int.reduceMul, Int.reduceNeg, ↓reduceIte, pl_at ps hj])
        all_goals first
          | omega
          | rfl
          | (refine e0 ?_
             have ho : ordB ps[j] ps[j + 1] = false := by
               simp only [beq_iff_eq, beq_eq_false_iff_ne] at *
               simp only [ordB, Bool.or_eq_false_iff, Bool.and_eq_false_iff, decide_eq_false_iff_not, beq_eq_false_iff_ne]
               omega
             rw [hk, ho]
             simp only [*, Bool.and_self, Bool.not_false])
          | (refine e0 ?_; rw [hk]; simp_all; done)
          | (refine e0 ?_; rw [hk]; simp_all [ordB]; omega)
          | (rw [e1 ?_]
             cases hh : okAt ps (j + 1)
             · rfl
             · exfalso; rw [hk] at hh; simp_all [ordB])
          | (rw [e1 ?_]
             cases hh : okAt ps (j + 1)
             · rfl
             · exfalso; rw [hk] at hh; simp_all [ordB]; omega)
    · obtain rfl : i = ps.length := by omega
      have hc := checkB_yes hI
      repeat' (with_reducible first
          | refine And.intro ?_ ?_
          | exact DrawN.mk (by kernel_rfl)
          | exact OkN.mk (by kernel_rfl)
          | refine CallN.pure (by assumption) ?_
          | refine GuardK.splitDN (fun h => ?_) (fun h => ?_)
          | refine GuardK.splitD (fun h => ?_) (fun h => ?_)
          | refine CondE.splitDN (fun h => ?_) (fun h => ?_)
          | refine CondE.splitD (fun h => ?_) (fun h => ?_)
          | refine GuardK.splitN (fun h => ?_) (fun h => ?_)
          | refine GuardK.split (fun h => ?_) (fun h => ?_)
          | refine CondE.splitN (fun h => ?_) (fun h => ?_)
          | refine CondE.split (fun h => ?_) (fun h => ?_)
          | refine WeakK.id ?_
          | refine RoundK.next (by omega) ?_ ?_
          | exact trivial
          | simp only [*, go_sem, Nat.reduceAdd, Nat.reduceSub, Nat.reduceMul, Nat.reducePow, Nat.reduceEqDiff, Nat.reduceLT, Nat.reduceLeDiff, Nat.reduceBEq, Nat.reduceBNe, Int.reduceToNat, Int.reduceLT, Int.reduceLE, Int.reduceEq, Int.reduceBNe, Int.reduceBEq, Int.reduceAdd, Int.reduceSub, Int.reduceMul, Int.reduceNeg, ↓reduceIte])
theorem enumW_len (f : Int → Int → Int) (w : Int) : ∀ n : Nat, (enumW f w n).length ≤ n
  | 0 => by simp [enumW]
  | n + 1 => by have := enumW_len f w n; simp only [enumW, List.length_append]; split <;> simp <;> omega
theorem enum_len (f : Int → Int → Int) : ∀ n : Nat, (enum f n).length ≤ 6 * n
  | 0 => by simp [enum]
  | n + 1 => by have := enum_len f n; have := enumW_len f (n + 1) 6; simp only [enum, List.length_append]; omega
theorem refChange_spec (ps : List Plg) (w a u : Int) (hl : ps.length < 2 ^ 29) :
    Abs.Spec Try.prog 17 [] [.sl 3 (pl ps), .int .i64 w, .int .i64 a, .int .i64 u] [.own 3 (pl (changeL ps w a u))] (.tup [.ref 0, .int .i64 (changeE ps w a u)]) := by
  have hc := refPledges_spec ps (by omega)
  have hr1 := refWho_spec w
  have hr2 := ref15asset_spec a
  have hr3 := within15_spec u (-1099511627776) 1099511627776
  have hu := refUnits_spec w a ps (by omega)
  have hrw := right_within w a
  refine Abs.Spec.go (n := 72) (np := 4) (rs := [.tmp 8, .tmp 9]) mixed Try.func17 rfl rfl rfl rfl rfl (by simp) (by simp) ?_
  simp only [go_sem, Nat.reduceAdd, Nat.reduceSub, Nat.reduceMul, Nat.reducePow, Nat.reduceEqDiff, Nat.reduceLT, Nat.reduceLeDiff, Nat.reduceBEq, Nat.reduceBNe, Int.reduceToNat, Int.reduceLT, Int.reduceLE, Int.reduceEq, Int.reduceBNe, Int.reduceBEq, Int.reduceAdd, Int.reduceSub, Int.reduceMul, Int.reduceNeg, ↓reduceIte]
  refine CallN.pure hc ?_
  cases hk : checkB ps
  · have e1 : changeE ps w a u = 14 := by simp [changeE, hk]
    have e2 : changeL ps w a u = [] := by simp [changeL, e1]
    simp only [hk, go_sem, Nat.reduceAdd, Nat.reduceSub, Nat.reduceMul, Nat.reducePow, Nat.reduceEqDiff, Nat.reduceLT, Nat.reduceLeDiff, Nat.reduceBEq, Nat.reduceBNe, Int.reduceToNat, Int.reduceLT, Int.reduceLE, Int.reduceEq, Int.reduceBNe, Int.reduceBEq, Int.reduceAdd, Int.reduceSub, Int.reduceMul, Int.reduceNeg, ↓reduceIte, e1, e2]
    rfl
  have hg := check_good.1 hk
  have hur := unitsL_range (w := w) (a := a) hg.1
  simp only [hk, go_sem, Nat.reduceAdd, Nat.reduceSub, Nat.reduceMul, Nat.reducePow, Nat.reduceEqDiff, Nat.reduceLT, Nat.reduceLeDiff, Nat.reduceBEq, Nat.reduceBNe, Int.reduceToNat, Int.reduceLT, Int.reduceLE, Int.reduceEq, Int.reduceBNe, Int.reduceBEq, Int.reduceAdd, Int.reduceSub, Int.reduceMul, Int.reduceNeg, ↓reduceIte]
  refine CallN.pure hr1 ?_
  cases hb1 : within w 1 16
  · have e1 : changeE ps w a u = 3 := by simp [changeE, hk, hrw, hb1]
    have e2 : changeL ps w a u = [] := by simp [changeL, e1]
    simp only [go_sem, Nat.reduceAdd, Nat.reduceSub, Nat.reduceMul, Nat.reducePow, Nat.reduceEqDiff, Nat.reduceLT, Nat.reduceLeDiff, Nat.reduceBEq, Nat.reduceBNe, Int.reduceToNat, Int.reduceLT, Int.reduceLE, Int.reduceEq, Int.reduceBNe, Int.reduceBEq, Int.reduceAdd, Int.reduceSub, Int.reduceMul, Int.reduceNeg, ↓reduceIte, e1, e2]
    rfl
  simp only [go_sem, Nat.reduceAdd, Nat.reduceSub, Nat.reduceMul, Nat.reducePow, Nat.reduceEqDiff, Nat.reduceLT, Nat.reduceLeDiff, Nat.reduceBEq, Nat.reduceBNe, Int.reduceToNat, Int.reduceLT, Int.reduceLE, Int.reduceEq, Int.reduceBNe, Int.reduceBEq, Int.reduceAdd, Int.reduceSub, Int.reduceMul, Int.reduceNeg, ↓reduceIte]
  refine CallN.pure hr2 ?_
  cases hb2 : within a 1 6
  · have e1 : changeE ps w a u = 3 := by simp [changeE, hk, hrw, hb2]
    have e2 : changeL ps w a u = [] := by simp [changeL, e1]
    simp only [go_sem, Nat.reduceAdd, Nat.reduceSub, Nat.reduceMul, Nat.reducePow, Nat.reduceEqDiff, Nat.reduceLT, Nat.reduceLeDiff, Nat.reduceBEq, Nat.reduceBNe, Int.reduceToNat, Int.reduceLT, Int.reduceLE, Int.reduceEq, Int.reduceBNe, Int.reduceBEq, Int.reduceAdd, Int.reduceSub, Int.reduceMul, Int.reduceNeg, ↓reduceIte, e1, e2]
    rfl
  have hrb : rightB w a = true := by rw [hrw, hb1, hb2]; rfl
  simp only [go_sem, Nat.reduceAdd, Nat.reduceSub, Nat.reduceMul, Nat.reducePow, Nat.reduceEqDiff, Nat.reduceLT, Nat.reduceLeDiff, Nat.reduceBEq, Nat.reduceBNe, Int.reduceToNat, Int.reduceLT, Int.reduceLE, Int.reduceEq, Int.reduceBNe, Int.reduceBEq, Int.reduceAdd, Int.reduceSub, Int.reduceMul, Int.reduceNeg, ↓reduceIte]
  refine CallN.pure hr3 ?_
  cases hb3 : within u (-1099511627776) 1099511627776
  · have e1 : changeE ps w a u = 3 := by
      have : (decide (-1099511627776 ≤ u) && decide (u ≤ 1099511627776)) = false := hb3
      simp only [changeE, hk, hrb, Bool.true_and, this]; rfl
    have e2 : changeL ps w a u = [] := by simp [changeL, e1]
    simp only [go_sem, Nat.reduceAdd, Nat.reduceSub, Nat.reduceMul, Nat.reducePow, Nat.reduceEqDiff, Nat.reduceLT, Nat.reduceLeDiff, Nat.reduceBEq, Nat.reduceBNe, Int.reduceToNat, Int.reduceLT, Int.reduceLE, Int.reduceEq, Int.reduceBNe, Int.reduceBEq, Int.reduceAdd, Int.reduceSub, Int.reduceMul, Int.reduceNeg, ↓reduceIte, e1, e2]
    rfl
  have hub : -1099511627776 ≤ u ∧ u ≤ 1099511627776 := by simpa [within] using hb3
  simp only [go_sem, Nat.reduceAdd, Nat.reduceSub, Nat.reduceMul, Nat.reducePow, Nat.reduceEqDiff, Nat.reduceLT, Nat.reduceLeDiff, Nat.reduceBEq, Nat.reduceBNe, Int.reduceToNat, Int.reduceLT, Int.reduceLE, Int.reduceEq, Int.reduceBNe, Int.reduceBEq, Int.reduceAdd, Int.reduceSub, Int.reduceMul, Int.reduceNeg, ↓reduceIte]
  refine CallN.pure hu ?_
  obtain ⟨n, hn⟩ : ∃ n, n = unitsL w a ps + u := ⟨_, rfl⟩
  have hw : IntKind.wrap .i64 (unitsL w a ps + u) = n := by rw [wr64 (by omega) (by omega), hn]
  rcases Int.lt_or_le n 0 with h3 | h3
  · have e1 : changeE ps w a u = 13 := by simp [changeE, hk, hrb]; omega
    have e2 : changeL ps w a u = [] := by simp [changeL, e1]
    have d3 : decide (n < 0) = true := by simpa using h3
    simp only [go_sem, Nat.reduceAdd, Nat.reduceSub, Nat.reduceMul, Nat.reducePow, Nat.reduceEqDiff, Nat.reduceLT, Nat.reduceLeDiff, Nat.reduceBEq, Nat.reduceBNe, Int.reduceToNat, Int.reduceLT, Int.reduceLE, Int.reduceEq, Int.reduceBNe, Int.reduceBEq, Int.reduceAdd, Int.reduceSub, Int.reduceMul, Int.reduceNeg, ↓reduceIte, hw, e1, e2, d3]
    rfl
  have d3 : decide (n < 0) = false := by simpa using h3
  rcases Int.lt_or_le 1099511627776 n with h4 | h4
  · have e1 : changeE ps w a u = 1 := by simp [changeE, hk, hrb]; omega
    have e2 : changeL ps w a u = [] := by simp [changeL, e1]
    have d4 : decide (1099511627776 < n) = true := by simpa using h4
    simp only [go_sem, Nat.reduceAdd, Nat.reduceSub, Nat.reduceMul, Nat.reducePow, Nat.reduceEqDiff, Nat.reduceLT, Nat.reduceLeDiff, Nat.reduceBEq, Nat.reduceBNe, Int.reduceToNat, Int.reduceLT, Int.reduceLE, Int.reduceEq, Int.reduceBNe, Int.reduceBEq, Int.reduceAdd, Int.reduceSub, Int.reduceMul, Int.reduceNeg, ↓reduceIte, hw, e1, e2, d3, d4]
    rfl
  have d4 : decide (1099511627776 < n) = false := by simpa using h4
  have e1 : changeE ps w a u = 0 := by simp [changeE, hk, hrb]; omega
  have e2 : changeL ps w a u = chg w a n ps := by simp [changeL, e1, hn]
  simp only [go_sem, Nat.reduceAdd, Nat.reduceSub, Nat.reduceMul, Nat.reducePow, Nat.reduceEqDiff, Nat.reduceLT, Nat.reduceLeDiff, Nat.reduceBEq, Nat.reduceBNe, Int.reduceToNat, Int.reduceLT, Int.reduceLE, Int.reduceEq, Int.reduceBNe, Int.reduceBEq, Int.reduceAdd, Int.reduceSub, Int.reduceMul, Int.reduceNeg, ↓reduceIte, hw, d3, d4, e1, e2]
  rw [← enum_refF hg hrb h3 h4]
  clear hn hw e1 e2 hu
  refine LoopK.count 16 [0, 1, 2, 10] [560] (fun j => [(12, .int .i64 ((j : Int) + 1)), (11, .ref 1136)]) (fun j => [(1136, .own 3 (pl (enum (refF ps w a n) j)))]) (fun _ => True) (by simp only [go_sem, Nat.reduceAdd, Nat.reduceSub, Nat.reduceMul, Nat.reducePow, Nat.reduceEqDiff, Nat.reduceLT, Nat.reduceLeDiff, Nat.reduceBEq, Nat.reduceBNe, Int.reduceToNat, Int.reduceLT, Int.reduceLE, Int.reduceEq, Int.reduceBNe, Int.reduceBEq, Int.reduceAdd, Int.reduceSub, Int.reduceMul, Int.reduceNeg, ↓reduceIte] <;> exact rfl) (by simp only [go_sem, Nat.reduceAdd, Nat.reduceSub, Nat.reduceMul, Nat.reducePow, Nat.reduceEqDiff, Nat.reduceLT, Nat.reduceLeDiff, Nat.reduceBEq, Nat.reduceBNe, Int.reduceToNat, Int.reduceLT, Int.reduceLE, Int.reduceEq, Int.reduceBNe, Int.reduceBEq, Int.reduceAdd, Int.reduceSub, Int.reduceMul, Int.reduceNeg, ↓reduceIte] <;> exact rfl) trivial ?_ ?_
  · simp only [go_sem, Nat.reduceAdd, Nat.reduceSub, Nat.reduceMul, Nat.reducePow, Nat.reduceEqDiff, Nat.reduceLT, Nat.reduceLeDiff, Nat.reduceBEq, Nat.reduceBNe, Int.reduceToNat, Int.reduceLT, Int.reduceLE, Int.reduceEq, Int.reduceBNe, Int.reduceBEq, Int.reduceAdd, Int.reduceSub, Int.reduceMul, Int.reduceNeg, ↓reduceIte] <;> simp [enum, pl]
  · intro j hj _
    simp only [go_sem, Nat.reduceAdd, Nat.reduceSub, Nat.reduceMul, Nat.reducePow, Nat.reduceEqDiff, Nat.reduceLT, Nat.reduceLeDiff, Nat.reduceBEq, Nat.reduceBNe, Int.reduceToNat, Int.reduceLT, Int.reduceLE, Int.reduceEq, Int.reduceBNe, Int.reduceBEq, Int.reduceAdd, Int.reduceSub, Int.reduceMul, Int.reduceNeg, ↓reduceIte]
    refine CondE.splitD (fun h => ?_) (fun h => ?_)
    · have hj' : j < 16 := by omega
      have hwj : IntKind.wrap .i64 ((j : Int) + 1 + 1) = ((j + 1 : Nat) : Int) + 1 := by rw [wr64 (by omega) (by omega)]; omega
      simp only [go_sem, Nat.reduceAdd, Nat.reduceSub, Nat.reduceMul, Nat.reducePow, Nat.reduceEqDiff, Nat.reduceLT, Nat.reduceLeDiff, Nat.reduceBEq, Nat.reduceBNe, Int.reduceToNat, Int.reduceLT, Int.reduceLE, Int.reduceEq, Int.reduceBNe, Int.reduceBEq, Int.reduceAdd, Int.reduceSub, Int.reduceMul, Int.reduceNeg, ↓reduceIte]
      refine LoopK.count 6 [0, 1, 2, 10, 12] [560] (fun i => [(13, .int .i64 ((i : Int) + 1)), (11, .ref 1136)]) (fun i => [(1136, .own 3 (pl (enum (refF ps w a n) j ++ enumW (refF ps w a n) (j + 1) i)))]) (fun _ => True) (by simp only [go_sem, Nat.reduceAdd, Nat.reduceSub, Nat.reduceMul, Nat.reducePow, Nat.reduceEqDiff, Nat.reduceLT, Nat.reduceLeDiff, Nat.reduceBEq, Nat.reduceBNe, Int.reduceToNat, Int.reduceLT, Int.reduceLE, Int.reduceEq, Int.reduceBNe, Int.reduceBEq, Int.reduceAdd, Int.reduceSub, Int.reduceMul, Int.reduceNeg, ↓reduceIte] <;> exact rfl) (by simp only [go_sem, Nat.reduceAdd, Nat.reduceSub, Nat.reduceMul, Nat.reducePow, Nat.reduceEqDiff, Nat.reduceLT, Nat.reduceLeDiff, Nat.reduceBEq, Nat.reduceBNe, Int.reduceToNat, Int.reduceLT, Int.reduceLE, Int.reduceEq, Int.reduceBNe, Int.reduceBEq, Int.reduceAdd, Int.reduceSub, Int.reduceMul, Int.reduceNeg, ↓reduceIte] <;> exact rfl) trivial ?_ ?_
      · simp only [go_sem, Nat.reduceAdd, Nat.reduceSub, Nat.reduceMul, Nat.reducePow, Nat.reduceEqDiff, Nat.reduceLT, Nat.reduceLeDiff, Nat.reduceBEq, Nat.reduceBNe, Int.reduceToNat, Int.reduceLT, Int.reduceLE, Int.reduceEq, Int.reduceBNe, Int.reduceBEq, Int.reduceAdd, Int.reduceSub, Int.reduceMul, Int.reduceNeg, ↓reduceIte] <;> simp [enumW]
      · intro i hi _
        have hwi : IntKind.wrap .i64 ((i : Int) + 1 + 1) = ((i + 1 : Nat) : Int) + 1 := by rw [wr64 (by omega) (by omega)]; omega
        have hu := refUnits_spec (j + 1) (i + 1) ps (by omega)
        simp only [go_sem, Nat.reduceAdd, Nat.reduceSub, Nat.reduceMul, Nat.reducePow, Nat.reduceEqDiff, Nat.reduceLT, Nat.reduceLeDiff, Nat.reduceBEq, Nat.reduceBNe, Int.reduceToNat, Int.reduceLT, Int.reduceLE, Int.reduceEq, Int.reduceBNe, Int.reduceBEq, Int.reduceAdd, Int.reduceSub, Int.reduceMul, Int.reduceNeg, ↓reduceIte]
        refine CondE.splitD (fun h => ?_) (fun h => ?_)
        · have hi' : i < 6 := by omega
          have hstep : pl (enum (refF ps w a n) j ++ enumW (refF ps w a n) (j + 1) (i + 1)) = pl (enum (refF ps w a n) j ++ enumW (refF ps w a n) (j + 1) i) ++ if 0 < refF ps w a n (j + 1) (i + 1) then [[.int .i64 (j + 1), .int .i64 (i + 1), .int .i64 (refF ps w a n (j + 1) (i + 1))]] else [] := by
            simp only [enumW]
            split <;> simp [pl, Plg.cells]
          have hlen : (enum (refF ps w a n) j ++ enumW (refF ps w a n) (j + 1) i).length ≤ 102 := by
            have := enum_len (refF ps w a n) j; have := enumW_len (refF ps w a n) (j + 1) i
            simp only [List.length_append]; omega
          simp only [go_sem, Nat.reduceAdd, Nat.reduceSub, Nat.reduceMul, Nat.reducePow, Nat.reduceEqDiff, Nat.reduceLT, Nat.reduceLeDiff, Nat.reduceBEq, Nat.reduceBNe, Int.reduceToNat, Int.reduceLT, Int.reduceLE, Int.reduceEq, Int.reduceBNe, Int.reduceBEq, Int.reduceAdd, Int.reduceSub, Int.reduceMul, Int.reduceNeg, ↓reduceIte]
          refine CallN.pure hu ?_
          repeat' (with_reducible first
              | refine And.intro ?_ ?_
              | exact DrawN.mk (by kernel_rfl)
              | exact OkN.mk (by kernel_rfl)
              | refine CallN.pure (by assumption) ?_
              | refine GuardK.splitDN (fun h => ?_) (fun h => ?_)
              | refine GuardK.splitD (fun h => ?_) (fun h => ?_)
              | refine CondE.splitDN (fun h => ?_) (fun h => ?_)
              | refine CondE.splitD (fun h => ?_) (fun h => ?_)
              | refine GuardK.splitN (fun h => ?_) (fun h => ?_)
              | refine GuardK.split (fun h => ?_) (fun h => ?_)
              | refine CondE.splitN (fun h => ?_) (fun h => ?_)
              | refine CondE.split (fun h => ?_) (fun h => ?_)
              | refine WeakK.id ?_
              | refine RoundK.next (by omega) ?_ ?_
              | exact trivial
              | simp only [*, go_sem, Nat.reduceAdd, Nat.reduceSub, Nat.reduceMul, Nat.reducePow, Nat.reduceEqDiff, Nat.reduceLT, Nat.reduceLeDiff, Nat.reduceBEq, Nat.reduceBNe, Int.reduceToNat, Int.reduceLT, Int.reduceLE, Int.reduceEq, Int.reduceBNe, Int.reduceBEq, Int.reduceAdd, Int.reduceSub, Int.reduceMul, Int.reduceNeg, ↓reduceIte])
          all_goals first
            | omega
            | (clear hstep hlen
               simp only [beq_iff_eq, beq_eq_false_iff_ne] at *
               simp only [refF]
               (repeat' split) <;> first
                 | rfl
                 | omega
                 | (simp; done)
                 | (exfalso; omega))
        · obtain rfl : i = 6 := by omega
          have e3 : enum (refF ps w a n) (j + 1) = enum (refF ps w a n) j ++ enumW (refF ps w a n) (j + 1) 6 := rfl
          repeat' (with_reducible first
              | refine And.intro ?_ ?_
              | exact DrawN.mk (by kernel_rfl)
              | exact OkN.mk (by kernel_rfl)
              | refine CallN.pure (by assumption) ?_
              | refine GuardK.splitDN (fun h => ?_) (fun h => ?_)
              | refine GuardK.splitD (fun h => ?_) (fun h => ?_)
              | refine CondE.splitDN (fun h => ?_) (fun h => ?_)
              | refine CondE.splitD (fun h => ?_) (fun h => ?_)
              | refine GuardK.splitN (fun h => ?_) (fun h => ?_)
              | refine GuardK.split (fun h => ?_) (fun h => ?_)
              | refine CondE.splitN (fun h => ?_) (fun h => ?_)
              | refine CondE.split (fun h => ?_) (fun h => ?_)
              | refine WeakK.id ?_
              | refine RoundK.next (by omega) ?_ ?_
              | exact trivial
              | simp only [*, go_sem, Nat.reduceAdd, Nat.reduceSub, Nat.reduceMul, Nat.reducePow, Nat.reduceEqDiff, Nat.reduceLT, Nat.reduceLeDiff, Nat.reduceBEq, Nat.reduceBNe, Int.reduceToNat, Int.reduceLT, Int.reduceLE, Int.reduceEq, Int.reduceBNe, Int.reduceBEq, Int.reduceAdd, Int.reduceSub, Int.reduceMul, Int.reduceNeg, ↓reduceIte])
    · obtain rfl : j = 16 := by omega
      simp only [go_sem, Nat.reduceAdd, Nat.reduceSub, Nat.reduceMul, Nat.reducePow, Nat.reduceEqDiff, Nat.reduceLT, Nat.reduceLeDiff, Nat.reduceBEq, Nat.reduceBNe, Int.reduceToNat, Int.reduceLT, Int.reduceLE, Int.reduceEq, Int.reduceBNe, Int.reduceBEq, Int.reduceAdd, Int.reduceSub, Int.reduceMul, Int.reduceNeg, ↓reduceIte]
end Go.Proofs.Ytbllopdcbkeadaa
