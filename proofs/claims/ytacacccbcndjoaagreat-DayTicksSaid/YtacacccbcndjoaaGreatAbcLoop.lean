/- A loop in which most slots stay as they are. No theorem of a claim. -/
import Derived.Test.YtacacccbcndjoaaGreatAbcEval2
set_option linter.unusedSimpArgs false
set_option linter.unusedVariables false
namespace Go.Abs
attribute [go_sem] or_self or_true true_or List.length_map Int.cast_ofNat_Int
attribute [go_sem] eq_self bne_self_eq_false List.getD_cons_zero List.getD_cons_succ
def Cd (f:Nat->D):List Nat->EL
 | []=>[]
 | i :: l=>(i,f i) :: Cd f l
@[go_sem] theorem YH (f:Nat->D):Cd f []=[]:=rfl
@[go_sem] theorem Ww (f:Nat->D) (i:Nat) (l:List Nat):Cd f (i :: l)=(i,f i) :: Cd f l:=rfl
def AH (f:Nat->D):List Nat->EL
 | []=>[]
 | i :: l=>osI (cU (f i)) i (f i) []++AH f l
@[go_sem] theorem aae (f:Nat->D):AH f []=[]:=rfl
@[go_sem] theorem VH (f:Nat->D) (i:Nat) (l:List Nat):AH f (i :: l)=osI (cU (f i)) i (f i) []++AH f l:=rfl
theorem aB.Rw {body:(Exit->Env->Prop)->Env->Prop} {Q:Exit->Env->Prop} {e:Env} {T:Type} (kt ko:List Nat) (ts os:T->EL) (I:T->Prop) (m:T->Nat) (s0:T) {kT kO:EL}
  (h0:I s0) (hle:MW e (ts s0++kT) (os s0++kO))
  (hr:∀ s,I s->body (rZ (fun s=>ts s++kT) (fun s=>os s++kO) I m s Q) (td (ts s++kT) (os s++kO)))
  (hT:Cd e.t kt=kT:=by simp only [go_sem,seval]<;>exact rfl) (hO:AH e.o ko=kO:=by simp only [go_sem,seval]<;>exact rfl):aB body Q e:=
 ⟨T,fun s=>ts s++kT,fun s=>os s++kO,I,m,s0,h0,hle,hr⟩
def We (n:Nat) (I:Nat->Prop) (i:Nat):Prop:=i<=n/\I i
def W9 (n:Nat) (i:Nat):Nat:=n-i
theorem aB.count {body:(Exit->Env->Prop)->Env->Prop} {Q:Exit->Env->Prop} {e:Env} (n:Nat) (kt ko:List Nat) (ts os:Nat->EL) (I:Nat->Prop) {kT kO:EL}
  (h0:I 0) (hle:MW e (ts 0++kT) (os 0++kO))
  (hr:∀ i,i<=n->I i->body (rZ (fun s=>ts s++kT) (fun s=>os s++kO) (We n I) (W9 n) i Q) (td (ts i++kT) (os i++kO)))
  (hT:Cd e.t kt=kT:=by simp only [go_sem,seval]<;>exact rfl) (hO:AH e.o ko=kO:=by simp only [go_sem,seval]<;>exact rfl):aB body Q e:=
 ⟨Nat,fun s=>ts s++kT,fun s=>os s++kO,We n I,W9 n,0,⟨Nat.zero_le _,h0⟩,hle,fun i hi=>hr i hi.1 hi.2⟩
theorem ah.next {n i:Nat} {ts os:Nat->EL} {I:Nat->Prop} {e:Env} (hi:i < n) (h:I (i+1)) (hl:MW e (ts (i+1)) (os (i+1))):ah ts os (We n I) (W9 n) i e:=
 ⟨i+1,⟨hi,h⟩,hl,by show n-(i+1) < n-i;omega⟩
section
variable {P:Program} {n np:Nat} {e:Env} {a b:Code} {Q:Exit->Env->Prop} {p:Prop} [Decidable p] {k:Bool->Prop}
theorem bH.aF (h1:p->lB P n np a Q e) (h2:¬ p->lB P n np b Q e):bH P n np a b Q e (.bool (decide p)):=⟨fun h=>h1 (of_decide_eq_true h),fun h=>h2 (of_decide_eq_false h)⟩
theorem bH.aH (h1:¬ p->lB P n np a Q e) (h2:p->lB P n np b Q e):bH P n np a b Q e (.bool (!decide p)):=bH.aK (fun h=>h1 (of_decide_eq_false h)) (fun h=>h2 (of_decide_eq_true h))
theorem bZ.aF (h1:p->k true) (h2:¬ p->k false):bZ (some (decide p)) k:=bZ.split (fun h=>h1 (of_decide_eq_true h)) (fun h=>h2 (of_decide_eq_false h))
theorem bZ.aH (h1:¬ p->k true) (h2:p->k false):bZ (some (!decide p)) k:=bZ.aK (fun h=>h1 (of_decide_eq_false h)) (fun h=>h2 (of_decide_eq_true h))
end
end Go.Abs
