/- The predicate follows its end; ends of loops in common. No theorem of a claim. -/
import Derived.Test.YtnkobepdbkmedaaGreatAbcFn
set_option linter.unusedSimpArgs false
set_option linter.unusedVariables false
namespace Go.Abs
section
variable {P:Program} {n np:Nat} {e:Env} {K K':Env->Prop}
theorem zh (ops:List Oper):∀ (l:List Oper) {e:Env} {K K':Env->Prop},(∀ e,K e->K' e)->wpList P n ops l e K->wpList P n ops l e K'
 | [],e,K,K',h,hk=>h _ hk
 | o :: r,e,K,K',h,hk=>by
  simp only [wpList,wpOp] at hk |-;cases hg:sj ops e o.guard with
  | none=>rw [hg] at hk;exact hk.elim
  | some g=>rw [hg] at hk;exact sV (fun e he=>zh ops r h he) hk
theorem mY (ops:List Oper):∀ (l:List Oper) {e:Env} {K K':Env->Prop},(∀ e,K e->K' e)->kr P n np ops l e K->kr P n np ops l e K'
 | [],e,K,K',h,hk=>h _ hk
 | o :: r,e,K,K',h,hk=>by
  simp only [kr,gj] at hk |-;cases hg:sj ops e o.guard with
  | none=>rw [hg] at hk;exact hk.elim
  | some g =>
   rw [hg] at hk;simp only at hk |-;split at hk
   ·rename_i hh;rw [if_pos hh];split at hk
    ·rename_i ha;rw [if_pos ha];exact xP (fun e he=>mY ops r h he) hk
    ·rename_i ha;rw [if_neg ha];exact sV (fun e he=>mY ops r h he) hk
   ·rename_i hh;rw [if_neg hh];exact ⟨hk.1,sV (fun e he=>mY ops r h he) hk.2⟩
theorem Lb (h:∀ e,K e->K' e) (hk:fH K e):fH K' e:=by
 rcases hk with hk | ⟨ts,os,hl,hk⟩
 ·exact .inl (h _ hk)
 ·exact .inr ⟨ts,os,hl,h _ hk⟩
theorem PX:∀ (c:Code) {e:Env} {Q Q':Exit->Env->Prop},(∀ x e,Q x e->Q' x e)->lP P n np c Q e->lP P n np c Q' e:=by
 intro c
 induction c with
 | skip=>intro e Q Q' h hk;exact h _ _ hk
 | region id ops draw =>
  intro e Q Q' h hk;unfold lP at hk |-;cases draw with
  | false=>simp only [Bool.false_eq_true,if_false] at hk |-;exact zh _ _ (h _) hk
  | true=>simp only [if_true] at hk |-;exact ⟨hk.1,mY _ _ (h _) hk.2⟩
 | seq a b iha ihb =>
  intro e Q Q' h hk;refine iha ?_ hk;intro x e hx;cases x<;>try exact h _ _ hx
  simp only [qx] at hx |-
  by_cases hj:Gu a=true
  ·rw [if_pos hj] at hx |-;exact Lb (fun e he=>ihb h he) hx
  ·rw [if_neg hj] at hx |-;exact ihb h hx
 | cond c a b iha ihb =>
  intro e Q Q' h hk;unfold lP at hk |-;split at hk
  ·exact ⟨fun t=>iha h (hk.1 t),fun t=>ihb h (hk.2 t)⟩
  ·exact hk.elim
 | block id a ih =>
  intro e Q Q' h hk;refine ih ?_ hk;intro x e hx;cases x<;>try exact h _ _ hx
  simp only [mH] at hx |-;split
  ·rename_i hid;rw [if_pos hid] at hx;exact h _ _ hx
  ·rename_i hid;rw [if_neg hid] at hx;exact h _ _ hx
 | loop a ih =>
  intro e Q Q' h hk;obtain ⟨T,ts,os,I,m,s0,h1,h2,h3⟩:=hk;refine ⟨T,ts,os,I,m,s0,h1,h2,fun s hs=>ih ?_ (h3 s hs)⟩;intro x e hx;cases x<;>first | exact hx | exact h _ _ hx
 | exit id=>intro e Q Q' h hk;exact h _ _ hk
 | ret=>intro e Q Q' h hk;exact h _ _ hk
 | rangeFunc f ps x y ih1 ih2=>intro e Q Q' h hk;exact hk.elim
 | scope x ih=>intro e Q Q' h hk;exact hk.elim
 | label l=>intro e Q Q' h hk;exact hk.elim
 | goto l=>intro e Q Q' h hk;exact hk.elim
 | refuse s=>intro e Q Q' h hk;exact hk.elim
def Iy {T:Type} (ts os:T->EL) (I:T->Prop) (e:Env):Prop:=∃ s,I s/\KC e (ts s) (os s)
theorem Iy.weak {T:Type} {ts os:T->EL} {I:T->Prop} {K:Env->Prop} (h:∀ s,I s->K (sq (ts s) (os s))) (e:Env) (hk:Iy ts os I e):fH K e:=by
 obtain ⟨s,hs,hl⟩:=hk;exact .inr ⟨ts s,os s,hl,h s hs⟩
theorem aC.mono {b:Code} {Q Q':Exit->Env->Prop} (h:∀ x e,Q x e->Q' x e) (hk:aC (lP P n np b) Q e):aC (lP P n np b) Q' e:=by
 obtain ⟨T,ts,os,I,m,s0,h1,h2,h3⟩:=hk;refine ⟨T,ts,os,I,m,s0,h1,h2,fun s hs=>PX b ?_ (h3 s hs)⟩;intro x e hx;cases x<;>first | exact hx | exact h _ _ hx
theorem Tb {c:Code} {id:Nat} {K:Env->Prop} {Q:Exit->Env->Prop} {T:Type} (ts os:T->EL) (I:T->Prop) (rest:∀ s,I s->K (sq (ts s) (os s))) (hk:aC (lP P n np c) (mH id (qx (Iy ts os I) Q)) e):aC (lP P n np c) (mH id (qx (fH K) Q)) e:=by
 refine aC.mono ?_ hk;intro x e hx;have hn:qx (Iy ts os I) Q .normal e->qx (fH K) Q .normal e:=fun h=>Iy.weak rest e h
 cases x<;>try exact hx
 ·exact hn hx
 ·simp only [mH] at hx |-;split
  ·rename_i hid;rw [if_pos hid] at hx;exact hn hx
  ·rename_i hid;rw [if_neg hid] at hx;exact hx
end
end Go.Abs
