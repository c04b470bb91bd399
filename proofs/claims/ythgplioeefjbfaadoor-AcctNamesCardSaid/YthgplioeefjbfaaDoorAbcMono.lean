/- The predicate follows its end; ends of loops in common; no theorem of a claim. -/
import Derived.Test.YthgplioeefjbfaaDoorAbcFn
set_option linter.unusedSimpArgs false
set_option linter.unusedVariables false
namespace Go.Abs
section
variable {P : Program} {n np : Nat} {e : Env} {K K' : Env → Prop}
theorem StK_mono (h : ∀ e, K e → K' e) {t : TypeId} {a v : D} (hk : StK P e t a K v) : StK P e t a K' v := by
  unfold StK at hk ⊢
  split at hk
  · unfold StB at hk ⊢
    split at hk
    · cases hl : layT P t with
      | none => simp only [hl] at hk
      | some l => simp only [hl] at hk ⊢; exact ⟨hk.1, hk.2.1, hk.2.2.1, h _ hk.2.2.2⟩
    · exact hk.elim
  · unfold StO at hk ⊢
    split at hk
    · cases hl : layT P t with
      | none => simp only [hl] at hk
      | some l => simp only [hl] at hk ⊢; exact ⟨hk.1, hk.2.1, hk.2.2.1, hk.2.2.2.1, hk.2.2.2.2.1, h _ hk.2.2.2.2.2⟩
    · exact hk.elim
  · exact hk.elim
theorem BsK_mono (h : ∀ e, K e → K' e) {len : Nat} {ps : List (Nat × Operand)} {d : Nat} {t : Ty} {z : Option (List D)} (hk : BsK e len ps d K t z) : BsK e len ps d K' t z := by
  unfold BsK at hk ⊢
  split at hk
  · exact ⟨hk.1, hk.2.1, hk.2.2.1, hk.2.2.2.1, hk.2.2.2.2.1, h _ hk.2.2.2.2.2⟩
  · exact hk.elim
theorem MkK_mono (h : ∀ e, K e → K' e) {l c : D} {d : Nat} {t : Ty} {z : Option (List D)} (hk : MkK e d K l c t z) : MkK e d K' l c t z := by
  unfold MkK at hk ⊢
  split at hk
  · exact ⟨hk.1, hk.2.1, hk.2.2.1, hk.2.2.2.1, hk.2.2.2.2.1, hk.2.2.2.2.2.1, hk.2.2.2.2.2.2.1, h _ hk.2.2.2.2.2.2.2⟩
  · exact hk.elim
theorem AppK_mono (h : ∀ e, K e → K' e) {x y : D} {d : Nat} {t t2 : Ty} (hk : AppK e d K x y t t2) : AppK e d K' x y t t2 := by
  unfold AppK at hk ⊢
  split at hk
  · refine ⟨hk.1, ?_⟩
    have hk := hk.2
    unfold AppY at hk ⊢
    split at hk
    · exact ⟨hk.1, hk.2.1, h _ hk.2.2⟩
    · exact ⟨hk.1, hk.2.1, h _ hk.2.2⟩
    · unfold AppA at hk ⊢
      split at hk
      · exact ⟨hk.1, hk.2.1, hk.2.2.1, h _ hk.2.2.2⟩
      · exact hk.elim
    · exact hk.elim
  · exact hk.elim
theorem CallT_mono (h : ∀ e, K e → K' e) {dr : Bool} {d : Nat} {f : Operand} {args : List Operand} (hk : CallT P dr e d f args K) : CallT P dr e d f args K' := by
  obtain ⟨fz, gs, bw, hs', dv, h1, hk⟩ := hk
  refine ⟨fz, gs, bw, hs', dv, h1, ?_⟩
  unfold CallA at hk ⊢
  split at hk
  · exact ⟨hk.1, hk.2.1, hk.2.2.1, hk.2.2.2.1, hk.2.2.2.2.1, hk.2.2.2.2.2.1, h _ hk.2.2.2.2.2.2⟩
  · exact hk.elim
theorem opK_mono (h : ∀ e, K e → K' e) {dr : Bool} {o : Oper} {g : Bool} (hk : opK P n dr o e g K) : opK P n dr o e g K' := by
  have gk : ∀ {g : Bool} {a a' : Prop} {e : Env}, (a → a') → GK g a (K e) → GK g a' (K' e) := fun ha hg => ⟨fun x => ha (hg.1 x), fun x => h _ (hg.2 x)⟩
  have st : ∀ {g : Bool} {ok : Prop} {v : D} {d : Nat}, StepK g ok v (fun u => K (updT e d u)) → StepK g ok v (fun u => K' (updT e d u)) := fun hs => ⟨hs.1, h _ hs.2⟩
  cases hd : o.dst with
  | none =>
    cases hop : o.op <;> simp only [opK, hop, hd] at hk ⊢
    exact ⟨hk.1, StK_mono h hk.2⟩
  | some d =>
    cases hop : o.op <;> simp only [opK, hop, hd] at hk ⊢ <;> (try exact ⟨hk.1, st hk.2⟩)
    case box t x => exact ⟨hk.1, hk.2.1, hk.2.2.1, hk.2.2.2.1, h _ hk.2.2.2.2⟩
    case alloc t =>
      refine ⟨hk.1, hk.2.1, ?_⟩
      have hk := hk.2.2
      unfold AlcK at hk ⊢
      split at hk
      · exact ⟨hk.1, h _ hk.2⟩
      · exact hk.elim
    case buildSlice t len parts => exact ⟨hk.1, gk (fun x => ⟨x.1, BsK_mono h x.2⟩) hk.2⟩
    case makeSlice t l c => exact ⟨hk.1, gk (MkK_mono h) hk.2⟩
    case call c =>
      refine ⟨hk.1, ?_⟩
      have hk := hk.2
      cases hc : c.callee with
      | invoke r m => rw [hc] at hk; exact hk.elim
      | value f => rw [hc] at hk; exact gk (CallT_mono h) hk
      | builtin b =>
        rw [hc] at hk
        cases b <;> simp only at hk ⊢ <;> (try exact st hk)
        refine ⟨hk.1, hk.2.1, ?_⟩
        have hk := hk.2.2
        split at hk
        · exact AppK_mono h hk
        · exact hk.elim
theorem wpList_mono (ops : List Oper) : ∀ (l : List Oper) {e : Env} {K K' : Env → Prop}, (∀ e, K e → K' e) → wpList P n ops l e K → wpList P n ops l e K'
  | [], e, K, K', h, hk => h _ hk
  | o :: r, e, K, K', h, hk => by
    simp only [wpList, wpOp] at hk ⊢
    cases hg : gval ops e o.guard with
    | none => rw [hg] at hk; exact hk.elim
    | some g => rw [hg] at hk; exact opK_mono (fun e he => wpList_mono ops r h he) hk
theorem wpListD_mono (ops : List Oper) : ∀ (l : List Oper) {e : Env} {K K' : Env → Prop}, (∀ e, K e → K' e) → wpListD P n np ops l e K → wpListD P n np ops l e K'
  | [], e, K, K', h, hk => h _ hk
  | o :: r, e, K, K', h, hk => by
    simp only [wpListD, wpOpD] at hk ⊢
    cases hg : gval ops e o.guard with
    | none => rw [hg] at hk; exact hk.elim
    | some g => rw [hg] at hk; exact ⟨hk.1, opK_mono (fun e he => wpListD_mono ops r h he) hk.2⟩
theorem WeakK_mono (h : ∀ e, K e → K' e) (hk : WeakK K e) : WeakK K' e := by
  rcases hk with hk | ⟨ts, os, hl, hk⟩
  · exact .inl (h _ hk)
  · exact .inr ⟨ts, os, hl, h _ hk⟩
theorem wpC_mono : ∀ (c : Code) {e : Env} {Q Q' : Exit → Env → Prop}, (∀ x e, Q x e → Q' x e) → wpC P n np c Q e → wpC P n np c Q' e := by
  intro c
  induction c with
  | skip => intro e Q Q' h hk; exact h _ _ hk
  | region id ops draw =>
    intro e Q Q' h hk
    unfold wpC at hk ⊢
    cases draw with
    | false => simp only [Bool.false_eq_true, if_false] at hk ⊢; exact wpList_mono _ _ (h _) hk
    | true => simp only [if_true] at hk ⊢; exact ⟨hk.1, wpListD_mono _ _ (h _) hk.2⟩
  | seq a b iha ihb =>
    intro e Q Q' h hk
    refine iha ?_ hk
    intro x e hx
    cases x <;> try exact h _ _ hx
    simp only [thenE] at hx ⊢
    by_cases hj : isJoin a = true
    · rw [if_pos hj] at hx ⊢; exact WeakK_mono (fun e he => ihb h he) hx
    · rw [if_neg hj] at hx ⊢; exact ihb h hx
  | cond c a b iha ihb =>
    intro e Q Q' h hk
    unfold wpC at hk ⊢
    split at hk
    · exact ⟨fun t => iha h (hk.1 t), fun t => ihb h (hk.2 t)⟩
    · exact hk.elim
  | block id a ih =>
    intro e Q Q' h hk
    refine ih ?_ hk
    intro x e hx
    cases x <;> try exact h _ _ hx
    simp only [blockE] at hx ⊢
    split
    · rename_i hid; rw [if_pos hid] at hx; exact h _ _ hx
    · rename_i hid; rw [if_neg hid] at hx; exact h _ _ hx
  | loop a ih =>
    intro e Q Q' h hk
    obtain ⟨T, ts, os, I, m, s0, h1, h2, h3⟩ := hk
    refine ⟨T, ts, os, I, m, s0, h1, h2, fun s hs => ih ?_ (h3 s hs)⟩
    intro x e hx
    cases x <;> first | exact hx | exact h _ _ hx
  | exit id => intro e Q Q' h hk; exact h _ _ hk
  | ret => intro e Q Q' h hk; exact h _ _ hk
  | rangeFunc f ps x y ih1 ih2 => intro e Q Q' h hk; exact hk.elim
  | scope x ih => intro e Q Q' h hk; exact hk.elim
  | label l => intro e Q Q' h hk; exact hk.elim
  | goto l => intro e Q Q' h hk; exact hk.elim
  | refuse s => intro e Q Q' h hk; exact hk.elim

/-- The way out of a loop is walked once: whoever leaves it is at least at one of these environments. -/
def CutK {T : Type} (ts os : T → EL) (I : T → Prop) (e : Env) : Prop := ∃ s, I s ∧ LeL e (ts s) (os s)
theorem CutK.weak {T : Type} {ts os : T → EL} {I : T → Prop} {K : Env → Prop} (h : ∀ s, I s → K (mkE (ts s) (os s))) (e : Env) (hk : CutK ts os I e) : WeakK K e := by
  obtain ⟨s, hs, hl⟩ := hk
  exact .inr ⟨ts s, os s, hl, h s hs⟩
theorem LoopK.mono {b : Code} {Q Q' : Exit → Env → Prop} (h : ∀ x e, Q x e → Q' x e) (hk : LoopK (wpC P n np b) Q e) : LoopK (wpC P n np b) Q' e := by
  obtain ⟨T, ts, os, I, m, s0, h1, h2, h3⟩ := hk
  refine ⟨T, ts, os, I, m, s0, h1, h2, fun s hs => wpC_mono b ?_ (h3 s hs)⟩
  intro x e hx
  cases x <;> first | exact hx | exact h _ _ hx
/-- The code behind a loop (or an if) is proved at environments of a kind; then the loop may end at any of these. -/
theorem cut_blk {c : Code} {id : Nat} {K : Env → Prop} {Q : Exit → Env → Prop} {T : Type} (ts os : T → EL) (I : T → Prop) (rest : ∀ s, I s → K (mkE (ts s) (os s))) (hk : LoopK (wpC P n np c) (blockE id (thenE (CutK ts os I) Q)) e) : LoopK (wpC P n np c) (blockE id (thenE (WeakK K) Q)) e := by
  refine LoopK.mono ?_ hk
  intro x e hx
  have hn : thenE (CutK ts os I) Q .normal e → thenE (WeakK K) Q .normal e := fun h => CutK.weak rest e h
  cases x <;> try exact hx
  · exact hn hx
  · simp only [blockE] at hx ⊢
    split
    · rename_i hid; rw [if_pos hid] at hx; exact hn hx
    · rename_i hid; rw [if_neg hid] at hx; exact hx
end
end Go.Abs
