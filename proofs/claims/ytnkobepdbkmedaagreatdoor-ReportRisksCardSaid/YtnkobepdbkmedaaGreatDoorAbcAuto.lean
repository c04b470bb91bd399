/- Steps that need no thought, found by instances; lists that a loop puts together. No theorem of a claim. -/
import Derived.Test.YtnkobepdbkmedaaGreatDoorAbcWalk
set_option linter.unusedSimpArgs false
set_option linter.unusedVariables false
namespace Go.Abs
theorem gX.dq {np:Nat} {os:Array Oper} (h:BI np os=true:=by kernel_rfl):gX np os:=gX.mk h
theorem B1.dq {np:Nat} {ops:List Oper} {o:Oper} {r:Nat} (h:yX np ops o r=true:=by kernel_rfl):B1 np ops o r:=B1.mk h
theorem aH {A:Type _} (a:A):∃ x,x=a:=⟨_,rfl⟩
theorem aJ {A B:Type _} {f:A->B} {l:List A}:(l.map f).length=l.length:=List.length_map f
theorem cr (a b:Bool):((a&&b)=true)=(a=true/\b=true):=Bool.and_eq_true a b
theorem fZ:(false=true)=False:=Bool.false_eq_true
theorem gG {A B:Type} (f:A->List B) {xs:List A} {i:Nat} (h:i < xs.length):(xs.take (i+1)).flatMap f=(xs.take i).flatMap f++f xs[i]:=by
 rw [List.take_succ_eq_append_getElem h,List.flatMap_append];simp
theorem nW {B:Type} (f:Nat->List B) (i:Nat):(List.range (i+1)).flatMap f=(List.range i).flatMap f++f i:=by
 rw [List.range_succ,List.flatMap_append];simp
theorem fF {A B:Type} {f:A->List B} {m:Nat} (h:∀ a,(f a).length<=m):∀ xs:List A,(xs.flatMap f).length<=m*xs.length
 | []=>by simp
 | x :: r=>by
  have h1:=h x;have h2:=fF h r;simp only [List.flatMap_cons,List.length_append,List.length_cons,Nat.mul_succ];omega
theorem Cp {B:Type} {f:Nat->List B} {m:Nat} (h:∀ a,(f a).length<=m) (i:Nat):((List.range i).flatMap f).length<=m*i:=by
 have:=fF h (List.range i);simpa using this
end Go.Abs
