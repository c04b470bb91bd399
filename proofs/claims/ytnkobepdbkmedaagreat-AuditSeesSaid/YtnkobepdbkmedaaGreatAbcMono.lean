/- The predicate follows its end; ends of loops in common. No theorem of a claim. -/
import Derived.Test.YtnkobepdbkmedaaGreatAbcFn
set_option linter.unusedSimpArgs false
set_option linter.unusedVariables false
namespace Go.Abs
section
variable {P:Program} {n np:Nat} {e:Env} {K K':Env->Prop}
theorem yJ (ops:List Oper):∀ (l:List Oper) {e:Env} {K K':Env->Prop},(∀ e,K e->K' e)->wpList P n ops l e K->wpList P n ops l e K'
 | [],e,K,K',h,hk=>h _ hk
 | o :: r,e,K,K',h,hk=>by
  simp only [wpList,wpOp] at hk |-;cases hg:rY ops e o.guard with
  | none=>rw [hg] at hk;exact hk.elim
  | some g=>rw [hg] at hk;exact sS (fun e he=>yJ ops r h he) hk
theorem ng (ops:List Oper):∀ (l:List Oper) {e:Env} {K K':Env->Prop},(∀ e,K e->K' e)->kQ P n np ops l e K->kQ P n np ops l e K'
 | [],e,K,K',h,hk=>h _ hk
 | o :: r,e,K,K',h,hk=>by
  simp only [kQ,gh] at hk |-;cases hg:rY ops e o.guard with
  | none=>rw [hg] at hk;exact hk.elim
  | some g =>
   rw [hg] at hk;simp only at hk |-;split at hk
   ·rename_i hh;rw [if_pos hh];split at hk
    ·rename_i ha;rw [if_pos ha];exact yd (fun e he=>ng ops r h he) hk
    ·rename_i ha;rw [if_neg ha];exact sS (fun e he=>ng ops r h he) hk
   ·rename_i hh;rw [if_neg hh];exact ⟨hk.1,sS (fun e he=>ng ops r h he) hk.2⟩
theorem K3 (h:∀ e,K e->K' e) (hk:fH K e):fH K' e:=by
 rcases hk with hk | ⟨ts,os,hl,hk⟩
 ·exact .inl (h _ hk)
 ·exact .inr ⟨ts,os,hl,h _ hk⟩
theorem Qx:∀ (c:Code) {e:Env} {Q Q':Exit->Env->Prop},(∀ x e,Q x e->Q' x e)->lO P n np c Q e->lO P n np c Q' e:=by
 intro c
 induction c with
 | skip=>intro e Q Q' h hk;exact h _ _ hk
 | region id ops draw =>
  intro e Q Q' h hk;unfold lO at hk |-;cases draw with
  | false=>simp only [Bool.false_eq_true,if_false] at hk |-;exact yJ _ _ (h _) hk
  | true=>simp only [if_true] at hk |-;exact ⟨hk.1,ng _ _ (h _) hk.2⟩
 | seq a b iha ihb =>
  intro e Q Q' h hk;refine iha ?_ hk;intro x e hx;cases x<;>try exact h _ _ hx
  simp only [qo] at hx |-
  by_cases hj:GD a=true
  ·rw [if_pos hj] at hx |-;exact K3 (fun e he=>ihb h he) hx
  ·rw [if_neg hj] at hx |-;exact ihb h hx
 | cond c a b iha ihb =>
  intro e Q Q' h hk;unfold lO at hk |-;split at hk
  ·exact ⟨fun t=>iha h (hk.1 t),fun t=>ihb h (hk.2 t)⟩
  ·exact hk.elim
 | block id a ih =>
  intro e Q Q' h hk;refine ih ?_ hk;intro x e hx;cases x<;>try exact h _ _ hx
  simp only [mL] at hx |-;split
  ·rename_i hid;rw [if_pos hid] at hx;exact h _ _ hx
  ·rename_i hid;rw [if_neg hid] at hx;exact h _ _ hx
 | loop a ih =>
  intro e Q Q' h hk;obtain ⟨T,ts,os,I,m,s0,h1,h2,h3⟩:=hk;refine ⟨T,ts,os,I,m,s0,h1,h2,fun s hs=>ih ?_ (h3 s hs)⟩;intro x e hx;cases x<;>first | exact hx | exact h _ _ hx
 | exit id=>intro e Q Q' h hk;exact h _ _ hk
 | ret=>intro e Q Q' h hk;exact h _ _ hk
 | rangeFunc f ps x y ih1 ih2=>intro e Q Q' h hk;exact hk.elim
 | scope x ih=>intro e Q Q' h hk;exact hk.elim
 | label l=>intro e Q Q' h hk;exact hk.elim
 | goto l=>intro e Q Q' h hk;exact hk.elim
 | refuse s=>intro e Q Q' h hk;exact hk.elim
def It {T:Type} (ts os:T->EL) (I:T->Prop) (e:Env):Prop:=∃ s,I s/\LM e (ts s) (os s)
theorem It.weak {T:Type} {ts os:T->EL} {I:T->Prop} {K:Env->Prop} (h:∀ s,I s->K (sq (ts s) (os s))) (e:Env) (hk:It ts os I e):fH K e:=by
 obtain ⟨s,hs,hl⟩:=hk;exact .inr ⟨ts s,os s,hl,h s hs⟩
theorem aC.mono {b:Code} {Q Q':Exit->Env->Prop} (h:∀ x e,Q x e->Q' x e) (hk:aC (lO P n np b) Q e):aC (lO P n np b) Q' e:=by
 obtain ⟨T,ts,os,I,m,s0,h1,h2,h3⟩:=hk;refine ⟨T,ts,os,I,m,s0,h1,h2,fun s hs=>Qx b ?_ (h3 s hs)⟩;intro x e hx;cases x<;>first | exact hx | exact h _ _ hx
theorem Tm {c:Code} {id:Nat} {K:Env->Prop} {Q:Exit->Env->Prop} {T:Type} (ts os:T->EL) (I:T->Prop) (rest:∀ s,I s->K (sq (ts s) (os s))) (hk:aC (lO P n np c) (mL id (qo (It ts os I) Q)) e):aC (lO P n np c) (mL id (qo (fH K) Q)) e:=by
 refine aC.mono ?_ hk;intro x e hx;have hn:qo (It ts os I) Q .normal e->qo (fH K) Q .normal e:=fun h=>It.weak rest e h
 cases x<;>try exact hx
 ·exact hn hx
 ·simp only [mL] at hx |-;split
  ·rename_i hid;rw [if_pos hid] at hx;exact hn hx
  ·rename_i hid;rw [if_neg hid] at hx;exact hx
end
end Go.Abs
