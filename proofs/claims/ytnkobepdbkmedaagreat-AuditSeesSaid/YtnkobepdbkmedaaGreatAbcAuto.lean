/- Steps that need no thought, found by instances; lists that a loop puts together. No theorem of a claim. -/
import Derived.Test.YtnkobepdbkmedaaGreatAbcWalk
set_option linter.unusedSimpArgs false
set_option linter.unusedVariables false
namespace Go.Abs
theorem iB.dq {np:Nat} {os:Array Oper} (h:yx np os=true:=by kernel_rfl):iB np os:=iB.mk h
theorem Ah.dq {np:Nat} {ops:List Oper} {o:Oper} {r:Nat} (h:vi np ops o r=true:=by kernel_rfl):Ah np ops o r:=Ah.mk h
theorem aL {A:Type _} (a:A):∃ x,x=a:=⟨_,rfl⟩
theorem aG {A B:Type _} {f:A->B} {l:List A}:(l.map f).length=l.length:=List.length_map f
theorem bW (a b:Bool):((a&&b)=true)=(a=true/\b=true):=Bool.and_eq_true a b
theorem fZ:(false=true)=False:=Bool.false_eq_true
theorem gm {A B:Type} (f:A->List B) {xs:List A} {i:Nat} (h:i < xs.length):(xs.take (i+1)).flatMap f=(xs.take i).flatMap f++f xs[i]:=by
 rw [List.take_succ_eq_append_getElem h,List.flatMap_append];simp
theorem tT {B:Type} (f:Nat->List B) (i:Nat):(List.range (i+1)).flatMap f=(List.range i).flatMap f++f i:=by
 rw [List.range_succ,List.flatMap_append];simp
theorem fu {A B:Type} {f:A->List B} {m:Nat} (h:∀ a,(f a).length<=m):∀ xs:List A,(xs.flatMap f).length<=m*xs.length
 | []=>by simp
 | x :: r=>by
  have h1:=h x;have h2:=fu h r;simp only [List.flatMap_cons,List.length_append,List.length_cons,Nat.mul_succ];omega
theorem yp {B:Type} {f:Nat->List B} {m:Nat} (h:∀ a,(f a).length<=m) (i:Nat):((List.range i).flatMap f).length<=m*i:=by
 have:=fu h (List.range i);simpa using this
end Go.Abs
