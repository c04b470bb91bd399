/- A loop in which most slots stay as they are. No theorem of a claim. -/
import Derived.Test.YtnkobepdbkmedaaGreatDoorAbcEval2
set_option linter.unusedSimpArgs false
set_option linter.unusedVariables false
namespace Go.Abs
attribute [go_sem] or_self or_true true_or List.length_map Int.cast_ofNat_Int
attribute [go_sem] eq_self bne_self_eq_false List.getD_cons_zero List.getD_cons_succ
def E7 (f:Nat->D):List Nat->EL
 | []=>[]
 | i :: l=>(i,f i) :: E7 f l
@[go_sem] theorem abx (f:Nat->D):E7 f []=[]:=rfl
@[go_sem] theorem Zz (f:Nat->D) (i:Nat) (l:List Nat):E7 f (i :: l)=(i,f i) :: E7 f l:=rfl
def Gu (f:Nat->D):List Nat->EL
 | []=>[]
 | i :: l=>osI (cZ (f i)) i (f i) []++Gu f l
@[go_sem] theorem ab7 (f:Nat->D):Gu f []=[]:=rfl
@[go_sem] theorem aa0 (f:Nat->D) (i:Nat) (l:List Nat):Gu f (i :: l)=osI (cZ (f i)) i (f i) []++Gu f l:=rfl
theorem aC.over {body:(Exit->Env->Prop)->Env->Prop} {Q:Exit->Env->Prop} {e:Env} {T:Type} (kt ko:List Nat) (ts os:T->EL) (I:T->Prop) (m:T->Nat) (s0:T) {kT kO:EL}
  (h0:I s0) (hle:PG e (ts s0++kT) (os s0++kO))
  (hr:∀ s,I s->body (tT (fun s=>ts s++kT) (fun s=>os s++kO) I m s Q) (vl (ts s++kT) (os s++kO)))
  (hT:E7 e.t kt=kT:=by simp only [go_sem,seval]<;>exact rfl) (hO:Gu e.o ko=kO:=by simp only [go_sem,seval]<;>exact rfl):aC body Q e:=
 ⟨T,fun s=>ts s++kT,fun s=>os s++kO,I,m,s0,h0,hle,hr⟩
def Z1 (n:Nat) (I:Nat->Prop) (i:Nat):Prop:=i<=n/\I i
def ZM (n:Nat) (i:Nat):Nat:=n-i
theorem aC.count {body:(Exit->Env->Prop)->Env->Prop} {Q:Exit->Env->Prop} {e:Env} (n:Nat) (kt ko:List Nat) (ts os:Nat->EL) (I:Nat->Prop) {kT kO:EL}
  (h0:I 0) (hle:PG e (ts 0++kT) (os 0++kO))
  (hr:∀ i,i<=n->I i->body (tT (fun s=>ts s++kT) (fun s=>os s++kO) (Z1 n I) (ZM n) i Q) (vl (ts i++kT) (os i++kO)))
  (hT:E7 e.t kt=kT:=by simp only [go_sem,seval]<;>exact rfl) (hO:Gu e.o ko=kO:=by simp only [go_sem,seval]<;>exact rfl):aC body Q e:=
 ⟨Nat,fun s=>ts s++kT,fun s=>os s++kO,Z1 n I,ZM n,0,⟨Nat.zero_le _,h0⟩,hle,fun i hi=>hr i hi.1 hi.2⟩
theorem ah.next {n i:Nat} {ts os:Nat->EL} {I:Nat->Prop} {e:Env} (hi:i < n) (h:I (i+1)) (hl:PG e (ts (i+1)) (os (i+1))):ah ts os (Z1 n I) (ZM n) i e:=
 ⟨i+1,⟨hi,h⟩,hl,by show n-(i+1) < n-i;omega⟩
section
variable {P:Program} {n np:Nat} {e:Env} {a b:Code} {Q:Exit->Env->Prop} {p:Prop} [Decidable p] {k:Bool->Prop}
theorem bH.aO (h1:p->mo P n np a Q e) (h2:¬ p->mo P n np b Q e):bH P n np a b Q e (.bool (decide p)):=⟨fun h=>h1 (of_decide_eq_true h),fun h=>h2 (of_decide_eq_false h)⟩
theorem bH.aT (h1:¬ p->mo P n np a Q e) (h2:p->mo P n np b Q e):bH P n np a b Q e (.bool (!decide p)):=bH.aS (fun h=>h1 (of_decide_eq_false h)) (fun h=>h2 (of_decide_eq_true h))
theorem bY.aO (h1:p->k true) (h2:¬ p->k false):bY (some (decide p)) k:=bY.split (fun h=>h1 (of_decide_eq_true h)) (fun h=>h2 (of_decide_eq_false h))
theorem bY.aT (h1:¬ p->k true) (h2:p->k false):bY (some (!decide p)) k:=bY.aS (fun h=>h1 (of_decide_eq_false h)) (fun h=>h2 (of_decide_eq_true h))
end
end Go.Abs
