/- A loop in which most slots stay as they are. No theorem of a claim. -/
import Derived.Test.YtnkobepdbkmedaaGreatAbcEval2
set_option linter.unusedSimpArgs false
set_option linter.unusedVariables false
namespace Go.Abs
attribute [go_sem] or_self or_true true_or List.length_map Int.cast_ofNat_Int
attribute [go_sem] eq_self bne_self_eq_false List.getD_cons_zero List.getD_cons_succ
def C1 (f:Nat->D):List Nat->EL
 | []=>[]
 | i :: l=>(i,f i) :: C1 f l
@[go_sem] theorem Zl (f:Nat->D):C1 f []=[]:=rfl
@[go_sem] theorem WH (f:Nat->D) (i:Nat) (l:List Nat):C1 f (i :: l)=(i,f i) :: C1 f l:=rfl
def Di (f:Nat->D):List Nat->EL
 | []=>[]
 | i :: l=>osI (cU (f i)) i (f i) []++Di f l
@[go_sem] theorem ZG (f:Nat->D):Di f []=[]:=rfl
@[go_sem] theorem Wd (f:Nat->D) (i:Nat) (l:List Nat):Di f (i :: l)=osI (cU (f i)) i (f i) []++Di f l:=rfl
theorem aC.PX {body:(Exit->Env->Prop)->Env->Prop} {Q:Exit->Env->Prop} {e:Env} {T:Type} (kt ko:List Nat) (ts os:T->EL) (I:T->Prop) (m:T->Nat) (s0:T) {kT kO:EL}
  (h0:I s0) (hle:LM e (ts s0++kT) (os s0++kO))
  (hr:∀ s,I s->body (sE (fun s=>ts s++kT) (fun s=>os s++kO) I m s Q) (sq (ts s++kT) (os s++kO)))
  (hT:C1 e.t kt=kT:=by simp only [go_sem,seval]<;>exact rfl) (hO:Di e.o ko=kO:=by simp only [go_sem,seval]<;>exact rfl):aC body Q e:=
 ⟨T,fun s=>ts s++kT,fun s=>os s++kO,I,m,s0,h0,hle,hr⟩
def Vf (n:Nat) (I:Nat->Prop) (i:Nat):Prop:=i<=n/\I i
def VM (n:Nat) (i:Nat):Nat:=n-i
theorem aC.count {body:(Exit->Env->Prop)->Env->Prop} {Q:Exit->Env->Prop} {e:Env} (n:Nat) (kt ko:List Nat) (ts os:Nat->EL) (I:Nat->Prop) {kT kO:EL}
  (h0:I 0) (hle:LM e (ts 0++kT) (os 0++kO))
  (hr:∀ i,i<=n->I i->body (sE (fun s=>ts s++kT) (fun s=>os s++kO) (Vf n I) (VM n) i Q) (sq (ts i++kT) (os i++kO)))
  (hT:C1 e.t kt=kT:=by simp only [go_sem,seval]<;>exact rfl) (hO:Di e.o ko=kO:=by simp only [go_sem,seval]<;>exact rfl):aC body Q e:=
 ⟨Nat,fun s=>ts s++kT,fun s=>os s++kO,Vf n I,VM n,0,⟨Nat.zero_le _,h0⟩,hle,fun i hi=>hr i hi.1 hi.2⟩
theorem ah.next {n i:Nat} {ts os:Nat->EL} {I:Nat->Prop} {e:Env} (hi:i < n) (h:I (i+1)) (hl:LM e (ts (i+1)) (os (i+1))):ah ts os (Vf n I) (VM n) i e:=
 ⟨i+1,⟨hi,h⟩,hl,by show n-(i+1) < n-i;omega⟩
section
variable {P:Program} {n np:Nat} {e:Env} {a b:Code} {Q:Exit->Env->Prop} {p:Prop} [Decidable p] {k:Bool->Prop}
theorem bJ.aK (h1:p->lO P n np a Q e) (h2:¬ p->lO P n np b Q e):bJ P n np a b Q e (.bool (decide p)):=⟨fun h=>h1 (of_decide_eq_true h),fun h=>h2 (of_decide_eq_false h)⟩
theorem bJ.aM (h1:¬ p->lO P n np a Q e) (h2:p->lO P n np b Q e):bJ P n np a b Q e (.bool (!decide p)):=bJ.aO (fun h=>h1 (of_decide_eq_false h)) (fun h=>h2 (of_decide_eq_true h))
theorem bX.aK (h1:p->k true) (h2:¬ p->k false):bX (some (decide p)) k:=bX.split (fun h=>h1 (of_decide_eq_true h)) (fun h=>h2 (of_decide_eq_false h))
theorem bX.aM (h1:¬ p->k true) (h2:p->k false):bX (some (!decide p)) k:=bX.aO (fun h=>h1 (of_decide_eq_false h)) (fun h=>h2 (of_decide_eq_true h))
end
end Go.Abs
