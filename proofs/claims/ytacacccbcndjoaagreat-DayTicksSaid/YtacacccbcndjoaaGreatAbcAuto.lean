/- Steps that need no thought, found by instances; lists that a loop puts together. No theorem of a claim. -/
import Derived.Test.YtacacccbcndjoaaGreatAbcWalk
set_option linter.unusedSimpArgs false
set_option linter.unusedVariables false
namespace Go.Abs
theorem ji.dq {np:Nat} {os:Array Oper} (h:xO np os=true:=by kernel_rfl):ji np os:=ji.mk h
theorem DH.dq {np:Nat} {ops:List Oper} {o:Oper} {r:Nat} (h:sZ np ops o r=true:=by kernel_rfl):DH np ops o r:=DH.mk h
theorem aO {A:Type _} (a:A):∃ x,x=a:=⟨_,rfl⟩
theorem aI {A B:Type _} {f:A->B} {l:List A}:(l.map f).length=l.length:=List.length_map f
theorem cg (a b:Bool):((a&&b)=true)=(a=true/\b=true):=Bool.and_eq_true a b
theorem ir:(false=true)=False:=Bool.false_eq_true
theorem fA {A B:Type} (f:A->List B) {xs:List A} {i:Nat} (h:i < xs.length):(xs.take (i+1)).flatMap f=(xs.take i).flatMap f++f xs[i]:=by
 rw [List.take_succ_eq_append_getElem h,List.flatMap_append];simp
theorem tK {B:Type} (f:Nat->List B) (i:Nat):(List.range (i+1)).flatMap f=(List.range i).flatMap f++f i:=by
 rw [List.range_succ,List.flatMap_append];simp
theorem dZ {A B:Type} {f:A->List B} {m:Nat} (h:∀ a,(f a).length<=m):∀ xs:List A,(xs.flatMap f).length<=m*xs.length
 | []=>by simp
 | x :: r=>by
  have h1:=h x;have h2:=dZ h r;simp only [List.flatMap_cons,List.length_append,List.length_cons,Nat.mul_succ];omega
theorem xM {B:Type} {f:Nat->List B} {m:Nat} (h:∀ a,(f a).length<=m) (i:Nat):((List.range i).flatMap f).length<=m*i:=by
 have:=dZ h (List.range i);simpa using this
end Go.Abs
