/- The predicate follows its end; ends of loops in common; no theorem of a claim. -/
import Derived.Test.YtdklpddmplflgaaDoorAbcFn
set_option linter.unusedSimpArgs false
set_option linter.unusedVariables false
namespace Go.Abs
section
variable {P : Program} {n np : Nat} {e : Env} {K K' : Env → Prop}
theorem wpList_mono (ops : List Oper) : ∀ (l : List Oper) {e : Env} {K K' : Env → Prop}, (∀ e, K e → K' e) → wpList P n ops l e K → wpList P n ops l e K'
  | [], e, K, K', h, hk => h _ hk
  | o :: r, e, K, K', h, hk => by
    simp only [wpList, wpOp] at hk ⊢
    cases hg : gval ops e o.guard with
    | none => rw [hg] at hk; exact hk.elim
    | some g => rw [hg] at hk; exact opK_mono (fun e he => wpList_mono ops r h he) hk
theorem wpListD_mono (ops : List Oper) : ∀ (l : List Oper) {e : Env} {K K' : Env → Prop}, (∀ e, K e → K' e) → wpListD P n np ops l e K → wpListD P n np ops l e K'
  | [], e, K, K', h, hk => h _ hk
  | o :: r, e, K, K', h, hk => by
    simp only [wpListD, wpOpD] at hk ⊢
    cases hg : gval ops e o.guard with
    | none => rw [hg] at hk; exact hk.elim
    | some g =>
      rw [hg] at hk
      simp only at hk ⊢
      split at hk
      · rename_i hs; rw [if_pos hs]; exact softK_mono (fun e he => wpListD_mono ops r h he) hk
      rename_i hs
      rw [if_neg hs]
      split at hk
      · rename_i hh
        rw [if_pos hh]
        split at hk
        · rename_i ha; rw [if_pos ha]; exact appA_mono (fun e he => wpListD_mono ops r h he) hk
        · rename_i ha; rw [if_neg ha]; exact opK_mono (fun e he => wpListD_mono ops r h he) hk
      · rename_i hh; rw [if_neg hh]; exact ⟨hk.1, opK_mono (fun e he => wpListD_mono ops r h he) hk.2⟩
theorem WeakK_mono (h : ∀ e, K e → K' e) (hk : WeakK K e) : WeakK K' e := by
  rcases hk with hk | ⟨ts, os, hl, hk⟩
  · exact .inl (h _ hk)
  · exact .inr ⟨ts, os, hl, h _ hk⟩
theorem wpC_mono : ∀ (c : Code) {e : Env} {Q Q' : Exit → Env → Prop}, (∀ x e, Q x e → Q' x e) → wpC P n np c Q e → wpC P n np c Q' e := by
  intro c
  induction c with
  | skip => intro e Q Q' h hk; exact h _ _ hk
  | region id ops draw =>
    intro e Q Q' h hk
    unfold wpC at hk ⊢
    cases draw with
    | false => simp only [Bool.false_eq_true, if_false] at hk ⊢; exact wpList_mono _ _ (h _) hk
    | true => simp only [if_true] at hk ⊢; exact ⟨hk.1, wpListD_mono _ _ (h _) hk.2⟩
  | seq a b iha ihb =>
    intro e Q Q' h hk
    refine iha ?_ hk
    intro x e hx
    cases x <;> try exact h _ _ hx
    simp only [thenE] at hx ⊢
    by_cases hj : isJoin a = true
    · rw [if_pos hj] at hx ⊢; exact WeakK_mono (fun e he => ihb h he) hx
    · rw [if_neg hj] at hx ⊢; exact ihb h hx
  | cond c a b iha ihb =>
    intro e Q Q' h hk
    unfold wpC at hk ⊢
    split at hk
    · exact ⟨fun t => iha h (hk.1 t), fun t => ihb h (hk.2 t)⟩
    · exact hk.elim
  | block id a ih =>
    intro e Q Q' h hk
    refine ih ?_ hk
    intro x e hx
    cases x <;> try exact h _ _ hx
    simp only [blockE] at hx ⊢
    split
    · rename_i hid; rw [if_pos hid] at hx; exact h _ _ hx
    · rename_i hid; rw [if_neg hid] at hx; exact h _ _ hx
  | loop a ih =>
    intro e Q Q' h hk
    obtain ⟨T, ts, os, I, m, s0, h1, h2, h3⟩ := hk
    refine ⟨T, ts, os, I, m, s0, h1, h2, fun s hs => ih ?_ (h3 s hs)⟩
    intro x e hx
    cases x <;> first | exact hx | exact h _ _ hx
  | exit id => intro e Q Q' h hk; exact h _ _ hk
  | ret => intro e Q Q' h hk; exact h _ _ hk
  | rangeFunc f ps x y ih1 ih2 => intro e Q Q' h hk; exact hk.elim
  | scope x ih => intro e Q Q' h hk; exact hk.elim
  | label l => intro e Q Q' h hk; exact hk.elim
  | goto l => intro e Q Q' h hk; exact hk.elim
  | refuse s => intro e Q Q' h hk; exact hk.elim

/-- The way out of a loop is walked once: whoever leaves it is at least at one of these environments. -/
def CutK {T : Type} (ts os : T → EL) (I : T → Prop) (e : Env) : Prop := ∃ s, I s ∧ LeL e (ts s) (os s)
theorem CutK.weak {T : Type} {ts os : T → EL} {I : T → Prop} {K : Env → Prop} (h : ∀ s, I s → K (mkE (ts s) (os s))) (e : Env) (hk : CutK ts os I e) : WeakK K e := by
  obtain ⟨s, hs, hl⟩ := hk
  exact .inr ⟨ts s, os s, hl, h s hs⟩
theorem LoopK.mono {b : Code} {Q Q' : Exit → Env → Prop} (h : ∀ x e, Q x e → Q' x e) (hk : LoopK (wpC P n np b) Q e) : LoopK (wpC P n np b) Q' e := by
  obtain ⟨T, ts, os, I, m, s0, h1, h2, h3⟩ := hk
  refine ⟨T, ts, os, I, m, s0, h1, h2, fun s hs => wpC_mono b ?_ (h3 s hs)⟩
  intro x e hx
  cases x <;> first | exact hx | exact h _ _ hx
/-- The code behind a loop (or an if) is proved at environments of a kind; then the loop may end at any of these. -/
theorem cut_blk {c : Code} {id : Nat} {K : Env → Prop} {Q : Exit → Env → Prop} {T : Type} (ts os : T → EL) (I : T → Prop) (rest : ∀ s, I s → K (mkE (ts s) (os s))) (hk : LoopK (wpC P n np c) (blockE id (thenE (CutK ts os I) Q)) e) : LoopK (wpC P n np c) (blockE id (thenE (WeakK K) Q)) e := by
  refine LoopK.mono ?_ hk
  intro x e hx
  have hn : thenE (CutK ts os I) Q .normal e → thenE (WeakK K) Q .normal e := fun h => CutK.weak rest e h
  cases x <;> try exact hx
  · exact hn hx
  · simp only [blockE] at hx ⊢
    split
    · rename_i hid; rw [if_pos hid] at hx; exact hn hx
    · rename_i hid; rw [if_neg hid] at hx; exact hx
end
end Go.Abs
