/- Steps that need no thought, found by instances; lists that a loop puts together. No theorem of a claim. -/
import Derived.Test.YtnkobepdbkmedaaGreatAbcWalk
set_option linter.unusedSimpArgs false
set_option linter.unusedVariables false
namespace Go.Abs
theorem iw.dq {np:Nat} {os:Array Oper} (h:yz np os=true:=by kernel_rfl):iw np os:=iw.mk h
theorem Ad.dq {np:Nat} {ops:List Oper} {o:Oper} {r:Nat} (h:vI np ops o r=true:=by kernel_rfl):Ad np ops o r:=Ad.mk h
theorem aL {A:Type _} (a:A):∃ x,x=a:=⟨_,rfl⟩
theorem aG {A B:Type _} {f:A->B} {l:List A}:(l.map f).length=l.length:=List.length_map f
theorem bZ (a b:Bool):((a&&b)=true)=(a=true/\b=true):=Bool.and_eq_true a b
theorem fY:(false=true)=False:=Bool.false_eq_true
theorem gl {A B:Type} (f:A->List B) {xs:List A} {i:Nat} (h:i < xs.length):(xs.take (i+1)).flatMap f=(xs.take i).flatMap f++f xs[i]:=by
 rw [List.take_succ_eq_append_getElem h,List.flatMap_append];simp
theorem ud {B:Type} (f:Nat->List B) (i:Nat):(List.range (i+1)).flatMap f=(List.range i).flatMap f++f i:=by
 rw [List.range_succ,List.flatMap_append];simp
theorem fm {A B:Type} {f:A->List B} {m:Nat} (h:∀ a,(f a).length<=m):∀ xs:List A,(xs.flatMap f).length<=m*xs.length
 | []=>by simp
 | x :: r=>by
  have h1:=h x;have h2:=fm h r;simp only [List.flatMap_cons,List.length_append,List.length_cons,Nat.mul_succ];omega
theorem xN {B:Type} {f:Nat->List B} {m:Nat} (h:∀ a,(f a).length<=m) (i:Nat):((List.range i).flatMap f).length<=m*i:=by
 have:=fm h (List.range i);simpa using this
end Go.Abs
