/- A loop in which most slots stay as they are. No theorem of a claim. -/
import Derived.Test.YtnkobepdbkmedaaGreatAbcEval2
set_option linter.unusedSimpArgs false
set_option linter.unusedVariables false
namespace Go.Abs
attribute [go_sem] or_self or_true true_or List.length_map Int.cast_ofNat_Int
attribute [go_sem] eq_self bne_self_eq_false List.getD_cons_zero List.getD_cons_succ
def CU (f:Nat->D):List Nat->EL
 | []=>[]
 | i :: l=>(i,f i) :: CU f l
@[go_sem] theorem ZI (f:Nat->D):CU f []=[]:=rfl
@[go_sem] theorem Vn (f:Nat->D) (i:Nat) (l:List Nat):CU f (i :: l)=(i,f i) :: CU f l:=rfl
def Di (f:Nat->D):List Nat->EL
 | []=>[]
 | i :: l=>osI (cK (f i)) i (f i) []++Di f l
@[go_sem] theorem Zz (f:Nat->D):Di f []=[]:=rfl
@[go_sem] theorem Wn (f:Nat->D) (i:Nat) (l:List Nat):Di f (i :: l)=osI (cK (f i)) i (f i) []++Di f l:=rfl
theorem aC.QI {body:(Exit->Env->Prop)->Env->Prop} {Q:Exit->Env->Prop} {e:Env} {T:Type} (kt ko:List Nat) (ts os:T->EL) (I:T->Prop) (m:T->Nat) (s0:T) {kT kO:EL}
  (h0:I s0) (hle:KC e (ts s0++kT) (os s0++kO))
  (hr:∀ s,I s->body (tc (fun s=>ts s++kT) (fun s=>os s++kO) I m s Q) (sq (ts s++kT) (os s++kO)))
  (hT:CU e.t kt=kT:=by simp only [go_sem,seval]<;>exact rfl) (hO:Di e.o ko=kO:=by simp only [go_sem,seval]<;>exact rfl):aC body Q e:=
 ⟨T,fun s=>ts s++kT,fun s=>os s++kO,I,m,s0,h0,hle,hr⟩
def WH (n:Nat) (I:Nat->Prop) (i:Nat):Prop:=i<=n/\I i
def Vh (n:Nat) (i:Nat):Nat:=n-i
theorem aC.count {body:(Exit->Env->Prop)->Env->Prop} {Q:Exit->Env->Prop} {e:Env} (n:Nat) (kt ko:List Nat) (ts os:Nat->EL) (I:Nat->Prop) {kT kO:EL}
  (h0:I 0) (hle:KC e (ts 0++kT) (os 0++kO))
  (hr:∀ i,i<=n->I i->body (tc (fun s=>ts s++kT) (fun s=>os s++kO) (WH n I) (Vh n) i Q) (sq (ts i++kT) (os i++kO)))
  (hT:CU e.t kt=kT:=by simp only [go_sem,seval]<;>exact rfl) (hO:Di e.o ko=kO:=by simp only [go_sem,seval]<;>exact rfl):aC body Q e:=
 ⟨Nat,fun s=>ts s++kT,fun s=>os s++kO,WH n I,Vh n,0,⟨Nat.zero_le _,h0⟩,hle,fun i hi=>hr i hi.1 hi.2⟩
theorem ah.next {n i:Nat} {ts os:Nat->EL} {I:Nat->Prop} {e:Env} (hi:i < n) (h:I (i+1)) (hl:KC e (ts (i+1)) (os (i+1))):ah ts os (WH n I) (Vh n) i e:=
 ⟨i+1,⟨hi,h⟩,hl,by show n-(i+1) < n-i;omega⟩
section
variable {P:Program} {n np:Nat} {e:Env} {a b:Code} {Q:Exit->Env->Prop} {p:Prop} [Decidable p] {k:Bool->Prop}
theorem bI.aK (h1:p->lP P n np a Q e) (h2:¬ p->lP P n np b Q e):bI P n np a b Q e (.bool (decide p)):=⟨fun h=>h1 (of_decide_eq_true h),fun h=>h2 (of_decide_eq_false h)⟩
theorem bI.aM (h1:¬ p->lP P n np a Q e) (h2:p->lP P n np b Q e):bI P n np a b Q e (.bool (!decide p)):=bI.aO (fun h=>h1 (of_decide_eq_false h)) (fun h=>h2 (of_decide_eq_true h))
theorem bX.aK (h1:p->k true) (h2:¬ p->k false):bX (some (decide p)) k:=bX.split (fun h=>h1 (of_decide_eq_true h)) (fun h=>h2 (of_decide_eq_false h))
theorem bX.aM (h1:¬ p->k true) (h2:p->k false):bX (some (!decide p)) k:=bX.aO (fun h=>h1 (of_decide_eq_false h)) (fun h=>h2 (of_decide_eq_true h))
end
end Go.Abs
