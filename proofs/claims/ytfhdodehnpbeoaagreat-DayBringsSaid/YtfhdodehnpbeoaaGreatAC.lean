/- The evaluator, part 3; no theorem of a claim. -/
import Derived.Test.YtfhdodehnpbeoaaGreatAB
set_option linter.all false
namespace Go.Abs
def wS{S:Type}(n:Nat)(I:Nat->S->Prop)(x:Nat×S):Prop:=x.1<=n/\I x.1 x.2
def wT{S:Type}(n:Nat)(x:Nat×S):Nat:=n-x.1
variable{kO kT:EL}{body:(Exit->Env->Prop)->Env->Prop}{S:Type}{e:Env}{Q:Exit->Env->Prop}
def aG.rT(n:Nat)(l k:List Nat)(ts os:Nat->S->EL)(I:Nat->S->Prop)(s0:S)
  (g:I 0 s0) (d:Mv e (ts 0 s0++kT) (os 0 s0++kO))
  (hr:∀i s,i<n->decide ((i:Int)<(n:Int))=true->IntKind.wrap .i64 ((i:Int)+1)=((i+1:Nat):Int)->I i s->body (oC (λx:Nat×S=>ts x.1 x.2++kT) (λx:Nat×S=>os x.1 x.2++kO) (wS n I) (wT n) (i,s) Q) (uT (ts i s++kT) (os i s++kO)))
  (j:∀s,decide ((n:Int)<(n:Int))=false->I n s->body (oC (λx:Nat×S=>ts x.1 x.2++kT) (λx:Nat×S=>os x.1 x.2++kO) (wS n I) (wT n) (n,s) Q) (uT (ts n s++kT) (os n s++kO))) (hn:n<9223372036854775807:=by omega)
  (hT:Ag e.t l=kT:=by simp only[go_sem,seval]<;>exact rfl) (hO:Ah e.o k=kO:=by simp only[go_sem,seval]<;>exact rfl):aG body Q e:=by
 refine⟨Nat×S,λx=>ts x.1 x.2++kT,λx=>os x.1 x.2++kO,wS n I,wT n,(0,s0),⟨Nat.zero_le _,g⟩,d,?_⟩;rintro⟨i,s⟩ ⟨f,hI⟩;rcases dN i n with h|h
 ·exact hr i s h (dw (by omega)) (by rw[IntKind.wrap_i64];omega) hI
 ·have f:i<=n:=f;obtain rfl:i=n:=by omega
  exact j s (gB (by omega)) hI
structure Tg(t o:List Nat)(k:Nat):Prop where
def aG.w1(n k:Nat)(g f:List Nat)(I:Nat->Unit->Prop)(h:I 0 ())
  (hr:∀i (s:Unit),i<n->decide ((i:Int)<(n:Int))=true->IntKind.wrap .i64 ((i:Int)+1)=((i+1:Nat):Int)->I i s->body (oC (λx:Nat×Unit=>[(k,.int .i64 x.1)]++kT) (λ_=>[]++kO) (wS n I) (wT n) (i,s) Q) (uT ([(k,.int .i64 i)]++kT) ([]++kO)))
  (p:∀s:Unit,decide ((n:Int)<(n:Int))=false->I n s->body (oC (λx:Nat×Unit=>[(k,.int .i64 x.1)]++kT) (λ_=>[]++kO) (wS n I) (wT n) (n,s) Q) (uT ([(k,.int .i64 n)]++kT) ([]++kO))) (m:n<9223372036854775807:=by omega)
  (l:Ag e.t g=kT:=by simp only[go_sem,seval]<;>exact rfl) (j:Ah e.o f=kO:=by simp only[go_sem,seval]<;>exact rfl)
  (d:Mv e ([(k,.int .i64 ((0:Nat):Int))]++kT) ([]++kO):=by simp only[go_sem,seval]<;>simp):aG body Q e:=
 aG.rT n g f (λi _=>[(k,.int .i64 i)]) (λ_ _=>[]) I () h d hr p m l j
def aG.wu(n:Nat)(g f:List Nat)(ts os:Nat->EL)(I:Nat->Prop)
  (h:I 0) (d:Mv e (ts 0++kT) (os 0++kO))
  (hr:∀i (s:Unit),i<n->decide ((i:Int)<(n:Int))=true->IntKind.wrap .i64 ((i:Int)+1)=((i+1:Nat):Int)->I i->body (oC (λx:Nat×Unit=>ts x.1++kT) (λx:Nat×Unit=>os x.1++kO) (wS n λi _=>I i) (wT n) (i,s) Q) (uT (ts i++kT) (os i++kO)))
  (m:∀s:Unit,decide ((n:Int)<(n:Int))=false->I n->body (oC (λx:Nat×Unit=>ts x.1++kT) (λx:Nat×Unit=>os x.1++kO) (wS n λi _=>I i) (wT n) (n,s) Q) (uT (ts n++kT) (os n++kO))) (l:n<9223372036854775807:=by omega)
  (k:Ag e.t g=kT:=by simp only[go_sem,seval]<;>exact rfl) (j:Ah e.o f=kO:=by simp only[go_sem,seval]<;>exact rfl):aG body Q e:=
 aG.rT n g f (λi _=>ts i) (λi _=>os i) (λi _=>I i) () h d hr m l k j
def aG.wv(n:Nat)(g f:List Nat)(ts os:Nat->EL)
  (d:Mv e (ts 0++kT) (os 0++kO))
  (hr:∀i (s:Unit),i<n->decide ((i:Int)<(n:Int))=true->IntKind.wrap .i64 ((i:Int)+1)=((i+1:Nat):Int)->True->body (oC (λx:Nat×Unit=>ts x.1++kT) (λx:Nat×Unit=>os x.1++kO) (wS n λ_ _=>True) (wT n) (i,s) Q) (uT (ts i++kT) (os i++kO)))
  (l:∀s:Unit,decide ((n:Int)<(n:Int))=false->True->body (oC (λx:Nat×Unit=>ts x.1++kT) (λx:Nat×Unit=>os x.1++kO) (wS n λ_ _=>True) (wT n) (n,s) Q) (uT (ts n++kT) (os n++kO))) (k:n<9223372036854775807:=by omega)
  (j:Ag e.t g=kT:=by simp only[go_sem,seval]<;>exact rfl) (h:Ah e.o f=kO:=by simp only[go_sem,seval]<;>exact rfl):aG body Q e:=
 aG.rT n g f (λi _=>ts i) (λi _=>os i) (λ_ _=>True) () trivial d hr l k j h
variable{a b:List Nat}
def aG.wt{k:Nat}(g:Tg a b k)(n:Nat)(I:Nat->Unit->Prop)(f:I 0 ())
  (hr:∀i (s:Unit),i<n->decide ((i:Int)<(n:Int))=true->IntKind.wrap .i64 ((i:Int)+1)=((i+1:Nat):Int)->I i s->body (oC (λx:Nat×Unit=>[(k,.int .i64 x.1)]++kT) (λ_=>[]++kO) (wS n I) (wT n) (i,s) Q) (uT ([(k,.int .i64 i)]++kT) ([]++kO)))
  (m:∀s:Unit,decide ((n:Int)<(n:Int))=false->I n s->body (oC (λx:Nat×Unit=>[(k,.int .i64 x.1)]++kT) (λ_=>[]++kO) (wS n I) (wT n) (n,s) Q) (uT ([(k,.int .i64 n)]++kT) ([]++kO))) (l:n<9223372036854775807:=by omega)
  (j:Ag e.t a=kT:=by simp only[go_sem,seval]<;>exact rfl) (h:Ah e.o b=kO:=by simp only[go_sem,seval]<;>exact rfl)
  (d:Mv e ([(k,.int .i64 ((0:Nat):Int))]++kT) ([]++kO):=by simp only[go_sem,seval]<;>simp):aG body Q e:=
 aG.w1 n k a b I f hr m l j h d
variable{i n:Nat}
def ah.jP{s:S}{ts os:Nat×S->EL}{I:Nat->S->Prop}(d:S)(f:i<n)(h:I (i+1) d)(g:Mv e (ts (i+1,d)) (os (i+1,d))):ah ts os (wS n I) (wT n) (i,s) e:=
 ⟨(i+1,d),⟨f,h⟩,g,by show n-(i+1)<n-i;omega⟩
variable{ts os:Nat×Unit->EL}{s:Unit}{c:Nat->Unit->Prop}
def ah.u(d:i<n)(h:c (i+1) ())(f:Mv e (ts (i+1,())) (os (i+1,()))):ah ts os (wS n c) (wT n) (i,s) e:=ah.jP () d h f
def ah.v(d:i<n)(f:Mv e (ts (i+1,())) (os (i+1,()))):ah ts os (wS n λ_ _=>True) (wT n) (i,s) e:=ah.jP () d trivial f
def dI{A:Type}{xs:List A}(h:i<xs.length):xs.drop i=xs[i]::xs.drop (i+1):=List.drop_eq_getElem_cons h
variable{r:Nat}
def Zb{d:D}(h:mh d=true):d.kill r=d:=by
 cases d<;>first| (cases h;done)|rfl
def qt{X:List D}(h:∀d∈X,mh d=true):D.nu r X=X:=by
 rw[nH];exact(List.map_congr_left λd f=>Zb (h d f)).trans (List.map_id' _)
end Go.Abs
namespace Go.Abs
variable{np:Nat}
def gY.dq{os:Array Oper}(h:Dp np os=true:=by kernel_rfl):gY np os:=gY.mk h
def B6.dq{ops:List Oper}{o:Oper}{r:Nat}(h:vE np ops o r=true:=by kernel_rfl):B6 np ops o r:=B6.mk h
structure Hd(q:Prop):Prop where
 out:q
variable{p:Prop}
def aV{q:Prop}(k:q) (h:Hd q->p:=by
 intro k
 (with_reducible and_intros)<;>first|exact .dq|omega|exact k.out):p:=h ⟨k⟩
variable{a:Int}
def fU{x:Int}(h1:-9223372036854775808<=x:=by omega)(h2:x<9223372036854775808:=by omega)(h:x=a:=by omega):IntKind.wrap .i64 x=a:=by rw[IntKind.wrap_i64];omega
def jw[Decidable p](h:p:=by omega):decide p=true:=dw h
def lJ[Decidable p](h:¬p:=by omega):decide p=false:=gB h
def Mr (h:p:=by
 first
  |omega
  |rfl
  | (refine e0 ?_;clear e0 e1;rw[hk];clear hk;simp_all;done)
  | (refine e0 ?_;clear e0 e1;rw[hk];clear hk;simp_all;omega)
  | (rw[e1 ?_];clear e0 e1;rw[hk];clear hk;simp_all;done)
  | (rw[e1 ?_];clear e0 e1;rw[hk];clear hk;simp_all;omega)
  | (rw [e1 ?_]
     ·rfl
     ·clear e0 e1;rw[hk];clear hk;simp_all;done)
  | (rw [e1 ?_]
     ·rfl
     ·clear e0 e1;rw[hk];clear hk;simp_all;omega)):p:=h
variable{A:Type _}
def aL(a:A):∃x,x=a:=⟨_,rfl⟩
def qO{B:Type _}{f:A->B}{l:List A}:(l.map f).length=l.length:=List.length_map f
def cU(a b:Bool):((a&&b)=true)=(a=true/\b=true):=Bool.and_eq_true a b
def iI:(false=true)=False:=Bool.false_eq_true
variable{B:Type}
def gU{A:Type}(f:A->List B){xs:List A}{i:Nat}(h:i<xs.length):(xs.take (i+1)).flatMap f=(xs.take i).flatMap f++f xs[i]:=by
 rw[j7 h,List.flatMap_append];simp
def wA(f:Nat->List B)(i:Nat):(List.range (i+1)).flatMap f=(List.range i).flatMap f++f i:=by
 rw[List.range_succ,List.flatMap_append];simp
theorem gJ{A B:Type}{f:A->List B}{m:Nat}(h:∀a,(f a).length<=m):∀xs:List A,(xs.flatMap f).length<=m*xs.length
 | []=>by simp
 |x::r=>by
  have h1:=h x;have h2:=gJ h r;simp only[List.flatMap_cons,ct,List.length_cons,Nat.mul_succ];omega
def Gi{f:Nat->List B}{m:Nat}(h:∀a,(f a).length<=m)(i:Nat):((List.range i).flatMap f).length<=m*i:=by
 have:=gJ h (List.range i);simpa using this
end Go.Abs
namespace Go.Abs
section
variable(τ:TypeId->TypeId)(ρ:FuncId->FuncId)
def IZ:Operand->Operand
 | .func f=>.func (ρ f)
 |o=>o
def ZW:Callee->Callee
 | .value f=>.value (IZ ρ f)
 |c=>c
def GV:Op->Op
 | .load t a=>.load (τ t) (IZ ρ a)
 | .store t a v=>.store (τ t) (IZ ρ a) (IZ ρ v)
 | .binOp o t x y u=>.binOp o (τ t) (IZ ρ x) (IZ ρ y) (τ u)
 | .unOp o t x=>.unOp o (τ t) (IZ ρ x)
 | .convert a b x=>.convert (τ a) (τ b) (IZ ρ x)
 | .slice t x l h m=>.slice (τ t) (IZ ρ x) l h m
 | .indexAddr t x i=>.indexAddr (τ t) (IZ ρ x) (IZ ρ i)
 | .makeSlice t l c=>.makeSlice (τ t) l c
 | .call c=>.call ⟨ZW ρ c.callee,c.args,⟨c.argTypes.toList.map τ⟩⟩
 |o=>o
def ZX(o:Oper):Oper:=⟨o.dst,GV τ ρ o.op,τ o.type,o.pos,o.after,o.guard⟩
def IY:Code->Code
 | .region i ops d=>.region i ⟨ops.toList.map (ZX τ ρ)⟩ d
 | .seq a b=>.seq (IY a) (IY b)
 | .cond c a b=>.cond (IZ ρ c) (IY a) (IY b)
 | .block i b=>.block i (IY b)
 | .loop b=>.loop (IY b)
 |c=>c
end
def je(np:Nat):Code->Bool
 | .region _ ops d=>!d||Dp np ops
 | .seq a b=>je np a&&je np b
 | .cond _ a b=>je np a&&je np b
 | .block _ b=>je np b
 | .loop b=>je np b
 | _=>true
structure Mx(P:Program)(τ:TypeId->TypeId)(ρ:FuncId->FuncId)(k:FuncId)(np:Nat):Prop where
 ok : ∃ f0 f c0, P.funcs[k]? = some f0 /\ P.funcs[ρ k]? = some f /\ f0.body = some c0 /\ f.body = some (IY τ ρ c0) /\ je np (IY τ ρ c0) = true /\ f.ntmps = f0.ntmps /\ f.results = f0.results /\ (f.name == "runtime.NumGoroutine") = false
variable{ρ:FuncId->FuncId}{τ:TypeId->TypeId}{b:Code}{a:Func}
def tZ {P : Program} {k np : Nat} {f : Func} (h0 : P.funcs[k]? = some a) (h1 : P.funcs[ρ k]? = some f) (hb : a.body = some b := by exact rfl) (hc : f.body = some (IY τ ρ b) := by kernel_rfl) (hd : je np (IY τ ρ b) = true := by kernel_rfl) (hn : f.ntmps = a.ntmps := by kernel_rfl) (hr : f.results = a.results := by kernel_rfl) (hx : (f.name == "runtime.NumGoroutine") = false := by kernel_rfl) : Mx P τ ρ k np :=
 ⟨a,f,b,h0,h1,hb,hc,hd,hn,hr,hx⟩
variable{e g:List D}
def Iv(n np:Nat)(rs:List ResultVar){P:Program}{k:FuncId}(R:Mx P τ ρ k np)(v:P.follows .mixedOrders=true){fn:Func}{c:Code}(u:P.funcs[k]?=some fn){ds:List D}{d:D}(x:je np (IY τ ρ c)=true->qc P n np (IY τ ρ c) (Wt P rs e.length g d) (uT (Yf 0 ds) (vT 0 e)))
  (r:fn.body=some c:=by exact rfl) (hr:fn.results.toList=rs:=by exact rfl) (w:fn.ntmps=n:=by exact rfl) (m:ds.length=np:=by exact rfl) (i:np<=n:=by simp) (j:e.length<=16:=by simp):Abs.Spec P (ρ k) e ds g d:=by
 obtain⟨f0,f,c0,p,q,h,s,t,l,o,y⟩:=R.ok;rw[u]at p;obtain rfl:=Option.some.inj p;rw[r]at h;obtain rfl:=Option.some.inj h;exact Spec.yN v q s (by rw[o,hr]) (by rw[l,w]) y m i j (x t)
end Go.Abs
namespace Go.Abs
def a2{a b:Prop}(x:a)(y:b):a/\b:=⟨x,y⟩
def a3{a b c:Prop}(x:a)(y:b)(z:c):a/\b/\c:=⟨x,y,z⟩
def a4{a b c d:Prop}(x:a)(y:b)(z:c)(w:d):a/\b/\c/\d:=⟨x,y,z,w⟩
def a5{a b c d e:Prop}(x:a)(y:b)(z:c)(w:d)(v:e):a/\b/\c/\d/\e:=⟨x,y,z,w,v⟩
section
variable{E C p q:Prop}
def sm(e:E)(k:q)(h:E->p=q:=by intro e;simp only[go_sem,seval,e]<;>exact rfl):p:=(h e).mpr k
def s0(k:q)(h:p=q:=by simp only[go_sem,seval]<;>exact rfl):p:=h.mpr k
def eo(e:E)(h:E->p:=by intro e;simp only[go_sem,seval,e]):p:=h e
def iB(h:p:=by simp only[go_sem,seval]):p:=h
def RS(h:p:=by(with_reducible and_intros)<;>first|exact .dq|omega):p:=h
def sc(e:E)(c:C)(k:q) (h:E->C->Hd q->p:=by
 intro e c k;try simp only[go_sem,seval,e]
 (with_reducible and_intros)<;>first
  | (refine az.aP c ?_;try simp only [go_sem,seval,e]
     exact k.out)
  |exact .dq
  |omega):p:=h e c ⟨k⟩
def sl(e:E)(c:C)(k:q) (h:E->C->Hd q->p:=by
 intro e c k;try simp only[go_sem,seval,e]
 (with_reducible and_intros)<;>first
  | (refine az.iw [] [] true (by simp) ?_;simp only [go_sem,seval,e];refine dL.ij c ?_;try simp only [go_sem,seval,e]
     exact k.out)
  |exact .dq
  |omega):p:=h e c ⟨k⟩
def so(e:E)(c:C)(k:q) (h:E->C->Hd q->p:=by
 intro e c k;try simp only[go_sem,seval,e]
 (with_reducible and_intros)<;>first
  | (refine az.iw [] [] false (by simp) ?_;simp only [go_sem,seval,e];refine dL.ij c ?_;try simp only [go_sem,seval,e]
     exact k.out)
  |exact .dq
  |omega):p:=h e c ⟨k⟩
def sg(g:List Nat)(e:E)(c:C)(k:q) (h:∀r,r=g->E->C->Hd q->p:=by
 intro r hr e c k;try simp only[go_sem,seval,e]
 (with_reducible and_intros)<;>first
  | (refine az.iw [] r false (by simp) ?_;subst hr;simp only [go_sem,seval,e];refine dL.ij c ?_;try simp only [go_sem,seval,e]
     exact k.out)
  |exact .dq
  |omega):p:=h g rfl e c ⟨k⟩
def sp(g:List Nat)(e:E)(c:C)(k:q) (h:∀r,r=g->E->C->Hd q->p:=by
 intro r hr e c k;try simp only[go_sem,seval,e]
 (with_reducible and_intros)<;>first
  | (refine RW.aun r (by subst hr;kernel_rfl) ?_;subst hr;simp only [go_sem,seval,e]
     (with_reducible and_intros)<;>first
      | (refine ND.intro c ?_;try simp only [go_sem,seval,e]
         exact k.out)
      |exact .dq
      |omega)
  |exact .dq
  |omega):p:=h g rfl e c ⟨k⟩
def lX(e:E)(c:C) (h:E->C->p:=by
 intro e c;try simp only[go_sem,seval,e]
 (with_reducible and_intros)<;>first
  | (refine az.aP c ?_;simp only[go_sem,seval,e];try((with_reducible and_intros)<;>first|exact .dq|omega))
  |exact .dq
  |omega):p:=h e c
def X6(e:E)(c:C) (h:E->C->p:=by
 intro e c;try simp only[go_sem,seval,e]
 (with_reducible and_intros)<;>first
  | (refine az.iw [] [] true (by simp) ?_;simp only[go_sem,seval,e];refine dL.ij c ?_;simp only[go_sem,seval,e];try((with_reducible and_intros)<;>first|exact .dq|omega))
  |exact .dq
  |omega):p:=h e c
def sgx(g:List Nat)(e:E)(c:C) (h:∀r,r=g->E->C->p:=by
 intro r hr e c;try simp only[go_sem,seval,e]
 (with_reducible and_intros)<;>first
  | (refine az.iw [] r false (by simp) ?_;subst hr;simp only[go_sem,seval,e];refine dL.ij c ?_;simp only[go_sem,seval,e];try((with_reducible and_intros)<;>first|exact .dq|omega))
  |exact .dq
  |omega):p:=h g rfl e c

def rL(e:E)(c:C)(k:q) (h:E->C->Hd q->p:=by
 intro e c k;try simp -implicitDefEqProofs only[go_sem,seval,e]
 (with_reducible and_intros)<;>first
  | (refine az.aP c ?_;try simp -implicitDefEqProofs only [go_sem,seval,e]
     exact k.out)
  |exact .dq
  |omega):p:=h e c ⟨k⟩
def soE(e:E)(c:C)(k:q) (h:E->C->Hd q->p:=by
 intro e c k;try simp -implicitDefEqProofs only[go_sem,seval,e]
 (with_reducible and_intros)<;>first
  | (refine az.iw [] [] false (by simp) ?_;simp -implicitDefEqProofs only [go_sem,seval,e];refine dL.ij c ?_;try simp -implicitDefEqProofs only [go_sem,seval,e]
     exact k.out)
  |exact .dq
  |omega):p:=h e c ⟨k⟩
def sgE(g:List Nat)(e:E)(c:C)(k:q) (h:∀r,r=g->E->C->Hd q->p:=by
 intro r hr e c k;try simp -implicitDefEqProofs only[go_sem,seval,e]
 (with_reducible and_intros)<;>first
  | (refine az.iw [] r false (by simp) ?_;subst hr;simp -implicitDefEqProofs only [go_sem,seval,e];refine dL.ij c ?_;try simp -implicitDefEqProofs only [go_sem,seval,e]
     exact k.out)
  |exact .dq
  |omega):p:=h g rfl e c ⟨k⟩
def su{a b:Prop}(x:a)(h:a->b:=by intro x;simpa using x):b:=h x
def sT(h:p:=by simp):p:=h
def gH(e:E)(h:E->p:=by intro e;simp only[go_sem,seval,e]<;>simp):p:=h e
def jh(h:p:=by simp only[go_sem,seval]<;>simp):p:=h
def ato(h:p:=by repeat' with_reducible first|apply And.intro|exact .dq|refine az.aP (by assumption) ?_|refine mW (λh=>?_) λh=>?_|refine .id ?_|refine ah.eI (by omega) ?_ ?_|exact aK|simp only[*,go_sem,seval]):p:=h
theorem dV(a b:Int):(a != b) = !(a==b):=rfl

end
end Go.Abs
