/- The predicate follows its end; ends of loops in common. No theorem of a claim. -/
import Derived.Test.YtnkobepdbkmedaaGreatDoorAbcFn
set_option linter.unusedSimpArgs false
set_option linter.unusedVariables false
namespace Go.Abs
section
variable {P:Program} {n np:Nat} {e:Env} {K K':Env->Prop}
theorem Dg (ops:List Oper):∀ (l:List Oper) {e:Env} {K K':Env->Prop},(∀ e,K e->K' e)->wpList P n ops l e K->wpList P n ops l e K'
 | [],e,K,K',h,hk=>h _ hk
 | o :: r,e,K,K',h,hk=>by
  simp only [wpList,wpOp] at hk |-;cases hg:tD ops e o.guard with
  | none=>rw [hg] at hk;exact hk.elim
  | some g=>rw [hg] at hk;exact uU (fun e he=>Dg ops r h he) hk
theorem nZ (ops:List Oper):∀ (l:List Oper) {e:Env} {K K':Env->Prop},(∀ e,K e->K' e)->lG P n np ops l e K->lG P n np ops l e K'
 | [],e,K,K',h,hk=>h _ hk
 | o :: r,e,K,K',h,hk=>by
  simp only [lG,gE] at hk |-;cases hg:tD ops e o.guard with
  | none=>rw [hg] at hk;exact hk.elim
  | some g =>
   rw [hg] at hk;simp only at hk |-;split at hk
   ·rename_i hh;rw [if_pos hh];split at hk
    ·rename_i ha;rw [if_pos ha];exact BV (fun e he=>nZ ops r h he) hk
    ·rename_i ha;rw [if_neg ha];exact uU (fun e he=>nZ ops r h he) hk
   ·rename_i hh;rw [if_neg hh];exact ⟨hk.1,uU (fun e he=>nZ ops r h he) hk.2⟩
theorem N5 (h:∀ e,K e->K' e) (hk:fu K e):fu K' e:=by
 rcases hk with hk | ⟨ts,os,hl,hk⟩
 ·exact .inl (h _ hk)
 ·exact .inr ⟨ts,os,hl,h _ hk⟩
theorem Tm:∀ (c:Code) {e:Env} {Q Q':Exit->Env->Prop},(∀ x e,Q x e->Q' x e)->mo P n np c Q e->mo P n np c Q' e:=by
 intro c
 induction c with
 | skip=>intro e Q Q' h hk;exact h _ _ hk
 | region id ops draw =>
  intro e Q Q' h hk;unfold mo at hk |-;cases draw with
  | false=>simp only [Bool.false_eq_true,if_false] at hk |-;exact Dg _ _ (h _) hk
  | true=>simp only [if_true] at hk |-;exact ⟨hk.1,nZ _ _ (h _) hk.2⟩
 | seq a b iha ihb =>
  intro e Q Q' h hk;refine iha ?_ hk;intro x e hx;cases x<;>try exact h _ _ hx
  simp only [qP] at hx |-
  by_cases hj:JE a=true
  ·rw [if_pos hj] at hx |-;exact N5 (fun e he=>ihb h he) hx
  ·rw [if_neg hj] at hx |-;exact ihb h hx
 | cond c a b iha ihb =>
  intro e Q Q' h hk;unfold mo at hk |-;split at hk
  ·exact ⟨fun t=>iha h (hk.1 t),fun t=>ihb h (hk.2 t)⟩
  ·exact hk.elim
 | block id a ih =>
  intro e Q Q' h hk;refine ih ?_ hk;intro x e hx;cases x<;>try exact h _ _ hx
  simp only [nx] at hx |-;split
  ·rename_i hid;rw [if_pos hid] at hx;exact h _ _ hx
  ·rename_i hid;rw [if_neg hid] at hx;exact h _ _ hx
 | loop a ih =>
  intro e Q Q' h hk;obtain ⟨T,ts,os,I,m,s0,h1,h2,h3⟩:=hk;refine ⟨T,ts,os,I,m,s0,h1,h2,fun s hs=>ih ?_ (h3 s hs)⟩;intro x e hx;cases x<;>first | exact hx | exact h _ _ hx
 | exit id=>intro e Q Q' h hk;exact h _ _ hk
 | ret=>intro e Q Q' h hk;exact h _ _ hk
 | rangeFunc f ps x y ih1 ih2=>intro e Q Q' h hk;exact hk.elim
 | scope x ih=>intro e Q Q' h hk;exact hk.elim
 | label l=>intro e Q Q' h hk;exact hk.elim
 | goto l=>intro e Q Q' h hk;exact hk.elim
 | refuse s=>intro e Q Q' h hk;exact hk.elim
def M6 {T:Type} (ts os:T->EL) (I:T->Prop) (e:Env):Prop:=∃ s,I s/\PG e (ts s) (os s)
theorem M6.weak {T:Type} {ts os:T->EL} {I:T->Prop} {K:Env->Prop} (h:∀ s,I s->K (vl (ts s) (os s))) (e:Env) (hk:M6 ts os I e):fu K e:=by
 obtain ⟨s,hs,hl⟩:=hk;exact .inr ⟨ts s,os s,hl,h s hs⟩
theorem aC.mono {b:Code} {Q Q':Exit->Env->Prop} (h:∀ x e,Q x e->Q' x e) (hk:aC (mo P n np b) Q e):aC (mo P n np b) Q' e:=by
 obtain ⟨T,ts,os,I,m,s0,h1,h2,h3⟩:=hk;refine ⟨T,ts,os,I,m,s0,h1,h2,fun s hs=>Tm b ?_ (h3 s hs)⟩;intro x e hx;cases x<;>first | exact hx | exact h _ _ hx
theorem VI {c:Code} {id:Nat} {K:Env->Prop} {Q:Exit->Env->Prop} {T:Type} (ts os:T->EL) (I:T->Prop) (rest:∀ s,I s->K (vl (ts s) (os s))) (hk:aC (mo P n np c) (nx id (qP (M6 ts os I) Q)) e):aC (mo P n np c) (nx id (qP (fu K) Q)) e:=by
 refine aC.mono ?_ hk;intro x e hx;have hn:qP (M6 ts os I) Q .normal e->qP (fu K) Q .normal e:=fun h=>M6.weak rest e h
 cases x<;>try exact hx
 ·exact hn hx
 ·simp only [nx] at hx |-;split
  ·rename_i hid;rw [if_pos hid] at hx;exact hn hx
  ·rename_i hid;rw [if_neg hid] at hx;exact hx
end
end Go.Abs
