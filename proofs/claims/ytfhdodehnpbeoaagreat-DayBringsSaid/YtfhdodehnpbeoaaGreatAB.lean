/- The evaluator, part 2; no theorem of a claim. -/
import Derived.Test.YtfhdodehnpbeoaaGreatAA
import Derived.Orders
import Derived.Carry
import Derived.ProofKit
import Derived.OpenShut
import Derived.Lib.SmallJoins
import Derived.LaidLaws
import Derived.Handed
import Derived.Deep.Slices
import Derived.SizedLaws
import Derived.Laws.Externs
set_option linter.all false
namespace Go.Abs
open List
variable{v a x y:D}{d:Nat}{t t2:Ty}{z:Option (List D)}{dr g:Bool}{o:Oper}
section
variable{P:Program}{n np:Nat}{e:Env}{K K':Env->Prop}
def aaV(h:∀e,K e->K' e){t:TypeId}(q:Yq P e t a K v):Yq P e t a K' v:=by
 unfold Yq at q |-;split at q
 ·unfold StB at q |-;split at q
  ·cases s:jx P t with
   |none=>simp only[s]at q
   |some l=>simp only[s]at q |-;exact⟨q.1,q.2.1,q.2.2.1,h _ q.2.2.2⟩
  ·exact q.elim
 ·unfold StO at q |-;split at q
  ·cases s:jx P t with
   |none=>simp only[s]at q
   |some l=>simp only[s]at q |-;exact⟨q.1,q.2.1,q.2.2.1,q.2.2.2.1,q.2.2.2.2.1,h _ q.2.2.2.2.2⟩
  ·exact q.elim
 ·exact q.elim
def aaL(h:∀e,K e->K' e){len:Nat}{ps:List (Nat×Operand)}(q:Vo e len ps d K t z):Vo e len ps d K' t z:=by
 unfold Vo at q |-;split at q
 ·exact⟨q.1,q.2.1,q.2.2.1,q.2.2.2.1,q.2.2.2.2.1,h _ q.2.2.2.2.2⟩
 ·exact q.elim
def aaR(h:∀e,K e->K' e){l c:D}(q:MkK e d K l c t z):MkK e d K' l c t z:=by
 unfold MkK at q |-;split at q
 ·exact⟨q.1,q.2.1,q.2.2.1,q.2.2.2.1,q.2.2.2.2.1,q.2.2.2.2.2.1,q.2.2.2.2.2.2.1,h _ q.2.2.2.2.2.2.2⟩
 ·exact q.elim
def NC(h:∀e,K e->K' e)(q:uE e d K x y t t2):uE e d K' x y t t2:=by
 unfold uE at q |-;split at q
 ·refine⟨q.1,?_⟩;have q:=q.2;unfold AD at q |-;split at q
  ·exact⟨q.1,q.2.1,h _ q.2.2⟩
  ·exact⟨q.1,q.2.1,h _ q.2.2⟩
  ·unfold Yl at q |-;split at q
   ·exact⟨q.1,q.2.1,q.2.2.1,h _ q.2.2.2⟩
   ·exact q.elim
  ·exact q.elim
 ·exact q.elim
def Vp(h:∀e,K e->K' e){f:Operand}{args:List Operand}(q:Ee P dr e d f args K):Ee P dr e d f args K':=by
 obtain⟨fz,gs,bw,s,w,A,q⟩:=q;exact⟨fz,gs,bw,s,w,A,vc (KW.mono h) q⟩
theorem Zx(h:∀e,K e->K' e)(q:kW P n dr o e g K):kW P n dr o e g K':=by
 have w:∀{g:Bool} {a B:Prop} {e:Env},(a->B)->GK g a (K e)->GK g B (K' e):=λG E=>⟨λx=>G (E.1 x),λx=>h _ (E.2 x)⟩
 have st:∀{g:Bool} {ok:Prop} {v:D} {d:Nat},jl g ok v (λu=>K (cQ e d u))->jl g ok v (λu=>K' (cQ e d u)):=λF=>⟨F.1,h _ F.2⟩
 cases C:o.dst with
 |none =>
  cases s:o.op<;>simp only[kW,s,C]at q |-;exact⟨q.1,aaV h q.2⟩
 |some d =>
  cases s:o.op<;>simp only[kW,s,C]at q |-<;>(try exact⟨q.1,st q.2⟩)
  case box t x=>exact⟨q.1,q.2.1,q.2.2.1,q.2.2.2.1,h _ q.2.2.2.2⟩
  case alloc t =>
   refine⟨q.1,q.2.1,?_⟩;have q:=q.2.2;unfold Yk at q |-;split at q
   ·exact⟨q.1,h _ q.2⟩
   ·exact q.elim
  case buildSlice t len parts=>exact⟨q.1,w (λx=>⟨x.1,aaL h x.2⟩) q.2⟩
  case makeSlice t l c=>exact⟨q.1,w (aaR h) q.2⟩
  case call c =>
   refine⟨q.1,?_⟩;have q:=q.2;cases A:c.callee with
   |invoke r m=>rw[A]at q;exact q.elim
   |value f=>rw[A]at q;exact w (λq=>q.elim (λq=>.inl (Vp h q)) (λq=>.inr ⟨q.1,q.2.mono h⟩)) q
   |builtin b =>
    rw[A]at q;cases b<;>simp only at q |-<;>(try exact st q);refine⟨q.1,q.2.1,?_⟩;have q:=q.2.2;split at q
    ·unfold Ed at q |-;split at q
     ·exact q.mono h
     ·exact q.mono h
     ·exact NC h q
    ·exact q.elim
def vF(h:∀e,K e->K' e)(q:nW P n dr o e g K):nW P n dr o e g K':=by
 unfold nW at q |-;split at q
 ·rename_i s;rw[au s];exact⟨q.1,q.2.1,q.2.2.mono h⟩
 ·rename_i s;rw[aq s];exact Zx h q
end

def zz(l:List Operand):List Nat:=l.filterMap λ| .tmp t=>some t| _=>none
def keyOf(ops:List Oper):Nat->Nat->List Nat
 | 0,t=>[t]
 |k+1,t=>match ops.find? (λo=>o.dst==some t)with
  |some o=>(match o.op with
   | .fieldAddr _ (.tmp u) f=>f::keyOf ops k u
   | _=>[t])
  |none=>[t]
def ae7(ops:List Oper)(q:List Nat)(o:Oper):Bool:=
 match o.op with
 | .load _ (.tmp u)=>keyOf ops 4 u==q
 | _=>false
def rootOf(ops:List Oper):Nat->Nat->Nat
 | 0,t=>t
 |k+1,t=>match ops.find? (λo=>o.dst==some t)with
  |some o=>(match o.op with
   | .fieldAddr _ (.tmp u) _=>rootOf ops k u
   | .indexAddr _ (.tmp u) _=>rootOf ops k u
   | .nilCheck (.tmp u)=>rootOf ops k u
   | .move (.tmp u)=>rootOf ops k u
   | .load _ (.tmp u)=>(match ops.find? (ae7 ops (keyOf ops 4 u))with
    |some x=>x.dst.getD t
    |none=>t)
   | _=>t)
  |none=>t
def CJ(s:Nat):List Nat:=(range 16).map (nm s)
def nmS(np s:Nat):List Nat:=CJ s++if s<np then range 16 else[]
def rdT(ops:List Oper)(o:Oper):List Nat:=
 zz o.op.operands.toList++(match o.guard with
  |some (j,_)=>(Ab ops j).toList
  |none=>[])
def looks(o:Op):Bool:=
 match o with
 | .load _ _| .store _ _ _| .indexAddr _ _ _| .slice _ _ _ _ _| .call _=>true
 | _=>false
def rdO(np:Nat)(ops:List Oper)(o:Oper):List Nat:=if looks o.op then(zz o.op.operands.toList).flatMap λt=>nmS np (rootOf ops 8 t)else[]
def makes(o:Op):Bool:=
 match o with
 | .alloc _| .box _ _| .buildSlice _ _ _| .makeSlice _ _ _=>true
 | .call c=>(match c.callee with
  | .value _=>true
  | .builtin .append=>true
  | _=>false)
 | _=>false
def LG(np:Nat)(ops:List Oper):Operand->List Nat
 | .tmp t=>nmS np (rootOf ops 8 t)
 | _=>[]
def E7:Nat:=300
def E9:Nat:=999998
def Ki(o:Oper):Bool:=
 match o.op with
 | .call c=>(match c.callee with
  | .value _=>(match c.argTypes.toList with
   |t::_=>t==E7||t==E9
   | []=>false)
  | _=>false)
 | _=>false
def K3:Nat:=999997
def uo(o:Oper):Bool:=
 match o.op with
 | .call c=>(match c.callee with
  | .value _=>(match c.argTypes.toList with
   |t::_=>t==K3
   | []=>false)
  | _=>false)
 | _=>false
def Ml(np:Nat)(ops:List Oper)(o:Oper):List Nat:=
 (match o.dst with
  |some d=>if makes o.op then CJ d else[]
  |none=>[])++(match o.op with
  | .store _ a _=>LG np ops a
  | .call c=>if uo o then(match c.args.toList with
   |a::_=>LG np ops a
   | []=>[])else[]
  | _=>[])
def wrT(o:Oper):List Nat:=o.dst.toList
def agd(np:Nat)(ops:List Oper):List Nat:=ops.flatMap (Ml np ops)
def Ji(np:Nat)(ops:List Oper)(x y:Oper):Bool:=
 (wrT x).all (λs=>!(rdT ops y).contains s&&!(wrT y).contains s)&&(wrT y).all (λs=>!(rdT ops x).contains s) &&
 (Ml np ops x).all (λs=>!(rdO np ops y).contains s&&!(Ml np ops y).contains s)&&(Ml np ops y).all (λs=>!(rdO np ops x).contains s)
def isApp(o:Oper):Bool:=
 match o.op with
 | .call c=>(match c.callee with
  | .builtin .append=>true
  | _=>false)
 | _=>false
def rq(o:Oper):Bool:=hard o||isApp o||Ki o||uo o
def isT(t:Nat)(a:Operand):Bool:=
 match a with
 | .tmp u=>u==t
 | _=>false
def ajK(o:Op):Bool:=
 match o with
 | .buildSlice _ len ps=>len==0&&ps.toList.isEmpty
 | _=>false
def aip(t:Nat)(o:Op):Bool:=
 match o with
 | .call c=>(match c.callee with
  | .builtin .append=>(match c.args.toList with
   |x::_=>isT t x
   | []=>false)
  | _=>false)
 | _=>false
def Tw(t:Nat):List Oper->Bool
 | []=>false
 |o::r=>(ajK o.op&&(o.guard.isNone&&o.dst==some t))||Tw t r
def R6(t:Nat):List Oper->Bool
 | []=>false
 |o::r=>aip t o.op||R6 t r
def ahc(ops:List Oper)(a:Operand):Bool:=
 match a with
 | .tmp t=>Tw t ops
 | _=>false
def ac9(ops:List Oper)(s:Op)(q:Option Tmp):Bool:=
 match s with
 | .buildSlice _ len ps=>len==0&&(ps.toList.isEmpty&&(match q with
  |some d=>R6 d ops
  |none=>false))
 | .call c=>(match c.callee with
  | .builtin .append=>(match c.args.toList with
   |x::_=>ahc ops x
   | []=>false)
  | _=>false)
 | _=>false
def nC(ops:List Oper)(o:Oper):Bool:=ac9 ops o.op o.dst&&o.guard.isNone
def CV(ops:List Oper)(o:Oper):Bool:=(hard o||isApp o||Ki o)&&!nC ops o
def sl1(o:Op):Bool:=
 match o with
 | .slice _ _ _ _ _=>true
 | _=>false
def ac6(t:Nat):List Oper->Bool
 | []=>false
 |o::r=>(sl1 o.op&&o.dst==some t)||ac6 t r
def ap8(ops:List Oper)(a:Operand):Bool:=
 match a with
 | .tmp t=>ac6 t ops
 | _=>false
def HK(ops:List Oper)(o:Op):Bool:=
 match o with
 | .call c=>(match c.args.toList with
  |x::_=>ap8 ops x
  | []=>false)
 | _=>false
def Gq(ops:List Oper)(o:Oper):Bool:=isApp o&&!HK ops o.op
variable{ops:List Oper}
def Ke(h:Gq ops o=true):HK ops o.op=false:=by
 simp only[Gq,Bool.and_eq_true,iN]at h;exact h.2
def vu(h:Gq ops o=true):isApp o=true:=by
 simp only[Gq,Bool.and_eq_true]at h;exact h.1
def frE:List Oper->Bool
 | []=>false
 |o::r=>o.after.toList.isEmpty||frE r
def adz(ops:List Oper):List Oper->Bool
 | []=>false
 |o::r=>(isApp o&&(!nC ops o&&frE r))||adz ops r
def Ix(ops:List Oper):Bool:=adz ops ops
def Tm(o:Op):Bool:=
 match o with
 | .move _| .fieldAddr _ _ _| .load _ _| .unOp _ _ _| .binOp _ _ _ _ _| .buildSlice _ _ _=>true
 | _=>false
def FV:D->Bool
 | .undef| .fn _ _| .agg _| .bD _| .box _=>false
 | _=>true
def RK:D->Bool
 | .box cs=>cs.all FV
 | _=>false
def aah(e:Env):D->Bool
 | .addr r _=>RK (e.o r)
 | _=>false
def Iw(e:Env):List (Nat×Operand)->Bool
 | []=>true
 |p::r=>FV (rd e p.2)&&Iw e r
def oh(e:Env)(o:Op):Prop:=
 match o with
 | .move x=>FV (rd e x)=true
 | .fieldAddr _ x _=>FV (rd e x)=true
 | .load _ a=>aah e (rd e a)=true
 | .unOp _ _ x=>FV (rd e x)=true
 | .binOp _ _ x y _=>FV (rd e x)=true/\FV (rd e y)=true
 | .buildSlice _ _ ps=>Iw e ps.toList=true
 | _=>True
def H6(e:Env)(o:Op):D:=
 match o with
 | .call c=>(match c.args.toList with
  |x::_=>rd e x
  | []=>.undef)
 | _=>.undef
def ae1(o:Op):Bool:=
 match o with
 | .buildSlice _ _ _=>true
 | _=>false
def KJ:D->Bool
 | .undef| .own _ _| .box _=>true
 | _=>false
def KG(N:Nat):D->Bool
 | .ref r=>!(r==N)
 | _=>true
def Vv(e:Env)(v:D):List Oper->Prop
 | []=>True
 |y::r=>(match ae1 y.op,y.dst with
  |true,some d=>KJ (e.o (nm d 0))=true/\KG (nm d 0) v=true
  | _,_=>True)/\Vv e v r
def apU(ops:List Oper)(o:Oper)(e:Env):Prop:=Ix ops=true->Vv e (H6 e o.op) ops
def He(ops:List Oper)(o:Oper)(e:Env):Prop:=Ix ops=true->o.guard=none->oh e o.op
def apY(np:Nat)(ops:List Oper)(x y:Oper):Bool:=
 Ix ops&&(Gq ops x&&(x.guard.isNone&&(y.guard.isNone&&(Tm y.op&&(!nC ops x&&(!nC ops y&&(!rq y&&(!(zz x.op.operands.toList).any (λs=>y.dst==some s)&&(!(zz y.op.operands.toList).any (λs=>x.dst==some s)&&(x.dst != y.dst&&(match x.dst with
  |some d=>(CJ d).all (λs=>!(rdO np ops y).contains s)
  |none=>false)))))))))))
def TN(ops:List Oper)(x y:Oper):Bool:=
 match x.op,x.dst,x.guard with
 | .move (.tmp u),some dx,none=>Gq ops y&&y.guard.isNone&&!(zz y.op.operands.toList).contains dx&&y.dst != some dx&&y.dst != some u&&!Ix ops
 | _,_,_=>false
def sF(P:Program)(n:Nat)(o:Oper)(e:Env)(g:Bool)(K:Env->Prop):Prop:=
 match o.op,o.dst with
 | .call c,some d=>d<n/\g=true/\(match c.args.toList,c.argTypes.toList with
  | [x,y],[T,T2]=>uE e d K (rd e x) (rd e y) (fD P T) (fD P T2)
  | _,_=>False)
 | _,_=>False
variable{l:List Operand}{dx:Nat}
section
variable{P:Program}{n:Nat}{e:Env}{K K':Env->Prop}
def ahU{S:Prop}(h:uE e d K x y t t2):Ed e d K S x y t t2:=by
 unfold Ed;split
 ·unfold uE at h;split at h
  ·have:=h.2;unfold AD at this;split at this<;>simp_all
  ·exact h.elim
 ·unfold uE at h;split at h
  ·have:=h.2;simp only[qS,mM]at this;unfold AD at this;split at this<;>simp_all
  ·exact h.elim
 ·exact h
def VT(h:isApp o=true):hard o=false:=by
 unfold isApp at h;unfold hard;split at h
 ·rename_i c q;rw[q];split at h
  ·rename_i s;simp[s]
  ·cases h
 ·cases h
def R5(q:isApp o=true)(h:sF P n o e g K):nW P n false o e g K:=by
 unfold nW;rw[VT q];unfold isApp at q;unfold sF at h;split at q
 ·rename_i c s;split at q
  ·rename_i D;rw[s]at h;cases A:o.dst with
   |none=>rw[A]at h;exact h.elim
   |some d =>
    rw[A]at h;obtain⟨B,C,w⟩:=h;simp only[Bool.false_eq_true,if_false,kW,s,A,D];refine⟨B,C,aK,?_⟩;split at w
    ·rename_i x y T T2 q E;rw[q,E];exact ahU w
    ·exact w.elim
  ·cases q
 ·cases q
def F7(h:∀e,K e->K' e)(q:sF P n o e g K):sF P n o e g K':=by
 unfold sF at q |-;split at q
 ·refine⟨q.1,q.2.1,?_⟩;have s:=q.2.2;split at s
  ·exact NC h s
  ·exact s.elim
 ·exact q.elim
theorem afG{x:Operand}(q:x∈l)(h:(zz l).contains dx=false):rd (cQ e dx v) x=rd e x:=by
 cases x with
 |tmp t =>
  have:t≠dx:=by
   rintro rfl;have:t∈zz l:=mem_filterMap.2 ⟨_,q,rfl⟩;rw[contains_eq_mem]at h;simp[this]at h
  exact wQ this
 | _=>rfl
theorem Yr{u:Nat}(Q:(zz o.op.operands.toList).contains dx=false)(J:o.dst≠some dx)(L:o.dst≠some u)(h:sF P n o (cQ e dx (e.t u)) g K) :
  sF P n o e g λe2=>K (cQ e2 dx (e2.t u)):=by
 unfold sF at h |-;cases A:o.op<;>rw[A]at h<;>try exact h.elim
 rename_i c;cases B:o.dst with
 |none=>rw[B]at h;exact h.elim
 |some d =>
  rw[B]at h;obtain⟨k1,k2,k3⟩:=h;refine⟨k1,k2,?_⟩;have F:d≠dx:=λh=>J (by rw[B,h]);have E:d≠u:=λh=>L (by rw[B,h]);have q:∀(e:Env)(v:D)(k:Nat)(y r:D),v=e.t u->cQ (eV (cQ e dx v) k y) d r=cQ (cQ (eV e k y) d r) dx ((cQ (eV e k y) d r).t u):=by
   intro e v k y r O;have I:(cQ (eV e k y) d r).t u=v:=by rw[wQ (Ne.symm E)];exact O.symm
   rw[I];simp only[cQ,eV,Env.mk.injEq,and_true];funext j;by_cases G:j=d
   ·subst G;simp[F]
   ·simp[G]
  split at k3<;>try exact k3.elim
  rename_i x y T T2 s htys;have w:∀z∈c.args.toList,rd (cQ e dx (e.t u)) z=rd e z:=λz R=>afG (l:=o.op.operands.toList) (by rw[A];simp only[Op.operands,Call.operands,Array.toList_append,mem_append];exact .inr R) Q;rw[w x (by rw[s];simp),w y (by rw[s];simp)]at k3;unfold uE at k3 |-;split at k3<;>try exact k3.elim
  refine⟨k3.1,?_⟩;have k3:=k3.2;have C:qS (cQ e dx (e.t u)).o [] 2 (rd e y)=qS e.o [] 2 (rd e y):=rfl;rw[C]at k3;unfold AD at k3 |-;split at k3<;>try exact k3.elim
  ·refine⟨k3.1,k3.2.1,?_⟩;dsimp only;rw[<-q e _ _ _ _ rfl];exact k3.2.2
  ·refine⟨k3.1,k3.2.1,?_⟩;dsimp only;rw[<-q e _ _ _ _ rfl];exact k3.2.2
  ·rename_i r rows2 _ _;have N:(cQ e dx (e.t u)).o r=e.o r:=rfl;rw[N]at k3;unfold Yl at k3 |-;split at k3<;>try exact k3.elim
   refine⟨k3.1,k3.2.1,k3.2.2.1,?_⟩;have M:nr r (cQ e dx (e.t u))=cQ (nr r e) dx ((nr r e).t u):=by
    simp only[nr,cQ,Env.mk.injEq,and_true];funext j;split<;>rfl
   have H:=k3.2.2.2;rw[M]at H;dsimp only;rw[<-q (nr r e) _ _ _ _ rfl];exact H
end
def GM(ops:Array Oper):Nat->Nat->Nat->Bool
 | 0,_,_=>false
 |k+1,i,j=>match ops[i]? with
  |none=>false
  |some y=>y.after.any (λe=>Region.binds .any e&&(e.on==j||GM ops k e.on j))
def Dp(np:Nat)(ops:Array Oper):Bool:=
 (range ops.size).all λi=>match ops[i]? with
  |none=>true
  |some y=>y.after.all (λe=>!Region.binds .any e||e.on<i) &&
    (range i).all λj=>y.after.any (λe=>Region.binds .any e&&e.on==j)||(match ops[j]? with
     |none=>true
     |some x=>(!CV ops.toList x&&!CV ops.toList y&&Ji np ops.toList x y)||(TN ops.toList x y&&!nC ops.toList y&&!nC ops.toList x)||apY np ops.toList x y||GM ops 12 i j)

def reach(o:Nat->D):Nat->List Nat->List Nat
 | 0,ns=>ns
 |k+1,ns=>ns++reach o k (D.cq (ns.map o))
def dP(e:Env)(o:Oper):List Nat:=
 match o.op with
 | .load _ a=>(rd e a).names
 | .store _ a _=>(rd e a).names
 | .indexAddr _ x _=>(rd e x).names
 | .slice _ x _ _ _=>(rd e x).names
 | .call c=>(match c.callee with
  | .value f=>reach e.o 4 (D.cq (rd e f::c.args.toList.map (rd e)))
  | _=>D.cq (c.args.toList.map (rd e)))
 | _=>[]
def vE(np:Nat)(ops:List Oper)(o:Oper)(r:Nat):Bool:=
 (match o.op with
  | .store _ _ _=>(Ml np ops o).contains r
  | _=>(rdO np ops o).contains r||!(agd np ops).contains r)
def rY(np:Nat)(ops:List Oper)(o:Oper):List Nat->Prop
 | []=>True
 |r::rs=>vE np ops o r=true/\rY np ops o rs
theorem uY{np:Nat}{ops:List Oper}{o:Oper}:∀{l:List Nat},rY np ops o l->∀r∈l,vE np ops o r=true
 | [],_,r,hr=>by cases hr
 |x::l,h,r,hr=>by
  rcases mem_cons.1 hr with rfl|hr
  ·exact h.1
  ·exact uY h.2 r hr
def RT(P:Program)(n np:Nat)(ops:List Oper)(o:Oper)(e:Env)(g:Bool)(K:Env->Prop):Prop:=
 (g=true->rY np ops o (dP e o))/\nW P n true o e g K
def PK(e:Env)(z q d:Nat)(K:Env->Prop)(y:Option (List (List D))):Prop:=
 match y with
 |some rows2=>(q+(1-q))*rows2.length<=2^47/\e.o (nm d 0)=.undef/\K (cQ (eV e (nm d 0) (.own z rows2)) d (.ref (nm d 0)))
 |none=>False
def I9(e:Env)(d:Nat)(K:Env->Prop)(x y:D)(t t2:Ty):Prop:=
 match x,t,t2 with
 | .emp,.slice z by_ _,.slice _ _ _=>by_<=2^32/\PK e z by_ d K (mM z (qS e.o [] 2 y))
 | _,_,_=>False
def Mu(e:Env)(d:Nat)(K:Env->Prop)(t:Ty):Prop:=
 match t with
 | .slice _ _ _=>e.o (nm d 0)=.undef/\K (cQ e d .emp)
 | _=>False
def sw(P:Program)(n np:Nat)(ops:List Oper)(o:Oper)(e:Env)(K:Env->Prop):Prop:=
 match o.op,o.dst with
 | .buildSlice t _ _,some d=>d<n/\Mu e d K (fD P t)
 | .call c,some d=>d<n/\(match c.args.toList,c.argTypes.toList with
  | [x,y],[T,T2]=>rY np ops o (reach e.o 2 (rd e y).names)/\I9 e d K (rd e x) (rd e y) (fD P T) (fD P T2)
  | _,_=>False)
 | _,_=>False
variable{K' K:Env->Prop}{e:Env}{P:Program}
def Ym(h:∀e,K e->K' e)(q:I9 e d K x y t t2):I9 e d K' x y t t2:=by
 unfold I9 at q |-;split at q
 ·refine⟨q.1,?_⟩;have q:=q.2;unfold PK at q |-;split at q
  ·exact⟨q.1,q.2.1,h _ q.2.2⟩
  ·exact q.elim
 ·exact q.elim
variable{np n:Nat}
def LY(h:∀e,K e->K' e)(q:sw P n np ops o e K):sw P n np ops o e K':=by
 unfold sw at q |-;split at q
 ·refine⟨q.1,?_⟩;have q:=q.2;unfold Mu at q |-;split at q
  ·exact⟨q.1,h _ q.2⟩
  ·exact q.elim
 ·refine⟨q.1,?_⟩;have q:=q.2;split at q
  ·exact⟨q.1,Ym h q.2⟩
  ·exact q.elim
 ·exact q.elim
def ahW(q:I9 e d K x y t t2):uE e d K x y t t2:=by
 unfold I9 at q;split at q
 ·unfold uE;refine⟨q.1,?_⟩;have q:=q.2;unfold PK at q;split at q
  ·rename_i hr;rw[hr];exact q
  ·exact q.elim
 ·exact q.elim
def X7(h:nC ops o=true):o.guard=none/\((∃t len ps d,o.op=.buildSlice t len ps/\o.dst=some d/\len=0/\ps = #[])\/isApp o=true):=by
 unfold nC at h;simp only[Bool.and_eq_true,Option.isNone_iff_eq_none]at h;refine⟨h.2,?_⟩;have h:=h.1;unfold ac9 at h;split at h
 ·rename_i t len ps q;simp only[Bool.and_eq_true,fE]at h;obtain⟨w,A,s⟩:=h;split at s
  ·rename_i d C;refine .inl ⟨t,len,ps,d,q,C,w,?_⟩;have:ps.toList=[]:=isEmpty_iff.1 A;exact Array.ext' (by simpa using this)
  ·cases s
 ·rename_i c q;split at h
  ·rename_i B;right;simp[isApp,q,B]
  ·cases h
 ·cases h
def ad9(P:Program)(np:Nat)(ops:List Oper)(o:Oper)(e:Env)(d:Nat)(f:Operand)(args:List Operand)(K:Env->Prop):Prop:=
 ∃(gs:List Nat)(q:List D)(s:D),(∀r∈gs,r∈LG np ops (args.headD (.global 0)))/\rY np ops o (reach e.o 5 (gs++D.cq (rd e f::args.map (rd e))))/\nR gs q=[]/\qT P e d args gs false q s K (rd e f)
def CL(P:Program)(n np:Nat)(ops:List Oper)(o:Oper)(e:Env)(g:Bool)(K:Env->Prop):Prop:=
 match o.op,o.dst with
 | .call c,some d=>(match c.callee with
  | .value f=>d<n/\GK g (ad9 P np ops o e d f c.args.toList K) (K (cQ e d (.bD [])))
  | _=>False)
 | _,_=>False
def Pa(h:∀e,K e->K' e)(q:CL P n np ops o e g K):CL P n np ops o e g K':=by
 unfold CL at q |-;split at q
 ·split at q
  ·refine⟨q.1,λs=>?_,λs=>h _ (q.2.2 s)⟩;obtain⟨gs,w,A,k1,k2,k3,B⟩:=q.2.1 s;exact⟨gs,w,A,k1,k2,k3,vc h B⟩
  ·exact q.elim
 ·exact q.elim
def acQ(s:CL P n np ops o e g K):nW P n false o e g K:=by
 unfold CL at s;split at s
 ·rename_i c d w C;split at s
  ·rename_i f q;have E:hard o=false:=by simp[hard,w,q]
   unfold nW;rw[E];simp only[Bool.false_eq_true,if_false,kW,w,C,q];refine⟨s.1,λD=>?_,s.2.2⟩;obtain⟨gs,A,B,k1,k2,k3,F⟩:=s.2.1 D;exact .inl ⟨[],gs,false,A,B,(λh=>by cases h),vc (λ_ h=>.inl h) F⟩
  ·exact s.elim
 ·exact s.elim
def gZ(P:Program)(n np:Nat)(ops:List Oper)(o:Oper)(e:Env)(K:Env->Prop):Prop:=
 match vn ops e o.guard with
 |some g=>if nC ops o then sw P n np ops o e K else if rq o then(if isApp o then(if HK ops o.op then nW P n false o e g K else sF P n o e g K/\apU ops o e)else if uo o then CL P n np ops o e g K else nW P n false o e g K)else RT P n np ops o e g K/\He ops o e
 |none=>False
def rS(P:Program)(n np:Nat)(ops:List Oper):List Oper->Env->(Env->Prop)->Prop
 | [],e,K=>K e
 |o::r,e,K=>gZ P n np ops o e λq=>rS P n np ops r q K

def HY(s q:Nat->Option D)(e:Env):Env:=⟨λj=>(s j).getD (e.t j),λj=>(q j).getD (e.o j)⟩
def one(i:Nat)(d:D):Nat->Option D:=λj=>if j=i then some d else none
def tW:Nat->Option D:=λ_=>none
def Ex(i:Nat)(d:D)(e:Env):cQ e i d=HY (one i d) tW e:=by
 simp only[cQ,HY,one,tW,Option.getD_none,Env.mk.injEq,and_true];funext j;by_cases h:j=i<;>simp[h]
def Xl(i:Nat)(d:D)(e:Env):eV e i d=HY tW (one i d) e:=by
 simp only[eV,HY,one,tW,Option.getD_none,Env.mk.injEq,true_and];funext j;by_cases h:j=i<;>simp[h]
def Qm(i k:Nat)(d x:D)(e:Env):cQ (eV e k x) i d=HY (one i d) (one k x) e:=by
 rw[Ex,Xl];simp[HY,tW]
def G4(f:Nat->Option Nat):List Nat->List D->Nat->Option D
 |n::ns,h::hs=>λj=>match G4 f ns hs j with
  |some x=>some x
  |none=>if j=n then some (h.oU f)else none
 | _,_=>tW
theorem K7(f:Nat->Option Nat):∀(ns:List Nat)(q:List D)(e:Env),K6 f ns q e=HY tW (G4 f ns q) e
 | [],_,e=>rfl
 | _::_,[],e=>rfl
 |n::ns,h::q,e=>by
  rw[K6,K7 f ns q,Xl];simp only[HY,tW,G4,Option.getD_none,Env.mk.injEq,true_and];funext j;cases G4 f ns q j with
  |some x=>rfl
  |none=>simp[one]
theorem Mo{f:Nat->Option Nat}:∀{ns:List Nat} {q:List D} {j:Nat} {x:D},G4 f ns q j=some x->j∈ns
 | [],_,j,x,h=>by simp[G4,tW]at h
 | _::_,[],j,x,h=>by simp[G4,tW]at h
 |n::ns,y::q,j,x,h=>by
  simp only[G4]at h;cases e:G4 f ns q j with
  |some z=>exact mem_cons_of_mem _ (Mo e)
  |none =>
   rw[e]at h;simp only at h;split at h
   ·rename_i s;subst s;simp
   ·cases h
def O5(d:Nat)(q:List D)(s:D)(e:Env):fM e d [] q s=HY (one d (s.oU (NJ (ig d [] q)))) (G4 (NJ (ig d [] q)) (ig d [] q) q) e:=by
 have w:nR [] q=[]:=by cases q<;>rfl
 unfold fM;rw[w,Bn,K7,Ex];simp[HY,tW]

def rX(np:Nat)(ops:List Oper)(o:Oper)(e e2:Env):Prop:=
 (∀s∈rdT ops o,e.t s=e2.t s)/\∀r,(r∈rdO np ops o\/r∈Ml np ops o\/r∉agd np ops)->e.o r=e2.o r
def zm{t:Nat}(h:.tmp t∈l):t∈zz l:=mem_filterMap.2 ⟨_,h,rfl⟩

variable{r:Nat}{b:List D}{e2:Env}{c f:Nat->D}{p h i m:Nat->Option D}{j u:Oper}{k:Option Nat}
section
variable{P:Program}{n np:Nat}{ops:List Oper}{o:Oper}{e e2:Env}

def rX.rd(h:rX np ops o e e2){x:Operand}(q:x∈o.op.operands.toList):rd e x=rd e2 x:=by
 cases x<;>try rfl
 rename_i t;exact h.1 t (mem_append_left _ (zm q))
def rX.obj(h:rX np ops o e e2)(q:rY np ops o (dP e o))(hr:r∈dP e o):e.o r=e2.o r:=by
 have:=uY q r hr;unfold vE at this;refine h.2 r ?_;split at this
 ·exact .inr (.inl (contains_iff_mem.1 this))
 ·simp only[Bool.or_eq_true,iN,contains_eq_mem,bO,gP]at this;rcases this with h|h
  ·exact .inl h
  ·exact .inr (.inr h)

theorem u6(o1:Nat->D):∀(k:Nat)(a b:List Nat),(∀r∈a,r∈b)->∀r∈reach o1 k a,r∈reach o1 k b:=by
 intro k;induction k with
 |zero=>intro a b q r hr;exact q r hr
 |succ k ih =>
  intro a b q r hr;simp only[reach,mem_append]at hr |-;rcases hr with hr|hr
  ·exact .inl (q r hr)
  ·refine .inr (ih _ _ ?_ r hr);intro s w;obtain⟨y,A,w⟩:=fZ.1 w;obtain⟨z,B,rfl⟩:=mem_map.1 A;exact fZ.2 ⟨_,mem_map.2 ⟨z,q z B,rfl⟩,w⟩
theorem zJ(o1:Nat->D):∀(k:Nat)(a:List Nat),∀r∈reach o1 k a,r∈reach o1 (k+1) a:=by
 intro k;induction k with
 |zero=>intro a r hr;simp only[reach];exact mem_append_left _ hr
 |succ k ih =>
  intro a r hr;simp only[reach,mem_append]at hr;rcases hr with hr|hr
  ·simp only[reach];exact mem_append_left _ hr
  ·show r∈a++reach o1 (k+1) _;exact mem_append_right _ (ih _ r hr)
theorem B7{o1 o2:Nat->D}(x:List Nat):∀(k:Nat)(d:D),(∀r∈reach o1 k d.names,o1 r=o2 r)->qS o1 x k d=qS o2 x k d
 | 0,d,_=>rfl
 |k+1,d,h=>by
  have q:∀r∈d.names,o1 r=o2 r:=λr hr=>h r (by simp only[reach];exact mem_append_left _ hr);have w:∀cs:List D,(∀c∈cs,∀r∈reach o1 k c.names,o1 r=o2 r)->cs.map (qS o1 x k)=cs.map (qS o2 x k):=λcs A=>map_congr_left λc F=>B7 x k c (A c F);have sub:∀cs:List D,D.cq cs=d.names->∀c∈cs,∀r∈reach o1 k c.names,o1 r=o2 r:=by
   intro cs e c A r hr;refine h r (zJ o1 k _ r (u6 o1 k _ _ ?_ r hr));intro s C;rw[<-e];exact fZ.2 ⟨c,A,C⟩
  cases d<;>simp only[qS]
  ·rw[w _ (sub _ rfl)]
  ·rw[w _ (sub _ rfl)]
  ·rw[w _ (sub _ rfl)]
  ·rw[q _ (by simp[D.names])]
  ·rename_i r off;have E:=q r (by simp[D.names]);rw[<-E];congr 1;unfold qn;split
   ·rename_i cs B;congr 1;refine map_congr_left ?_;intro c A;refine B7 x k c ?_;intro s C;refine h s ?_;simp only[reach];refine mem_append_right _ (u6 o1 k _ _ ?_ s C);intro t G;refine fZ.2 ⟨o1 r,mem_map.2 ⟨r,by simp[D.names],rfl⟩,?_⟩;rw[B];simp only[D.names];exact fZ.2 ⟨c,mem_of_mem_drop A,G⟩
   ·rfl
  ·rw[q _ (by simp[D.names])]
  ·rw[q _ (by simp[D.names])]
  ·rw[q _ (by simp[D.names])]

theorem yZ{o1 o2:Nat->D}(bw:Bool)(gs:List Nat):∀(k:Nat)(d:D),(∀r∈reach o1 k d.names,o1 r=o2 r)->conv bw gs o1 k d=conv bw gs o2 k d
 | 0,d,_=>rfl
 |k+1,d,h=>by
  have q:∀cs:List D,(∀c∈cs,∀r∈reach o1 k c.names,o1 r=o2 r)->cs.map (conv bw gs o1 k)=cs.map (conv bw gs o2 k):=λcs w=>map_congr_left λc B=>yZ bw gs k c (w c B);have sub:∀cs:List D,D.cq cs=d.names->∀c∈cs,∀r∈reach o1 k c.names,o1 r=o2 r:=by
   intro cs e c w r hr;refine h r (zJ o1 k _ r (u6 o1 k _ _ ?_ r hr));intro s C;rw[<-e];exact fZ.2 ⟨c,w,C⟩
  have A:qS o1 gs k d=qS o2 gs k d:=B7 gs k d λr hr=>h r (zJ o1 k _ r hr);cases d<;>simp only[conv]
  ·rw[q _ (sub _ rfl)]
  ·rw[q _ (sub _ rfl)]
  ·rw[q _ (sub _ rfl)]
  all_goals rw[A]

def Zd{l:HR}{d:D}(h:∀r∈d.names,e.o r=e2.o r):ldV e l d=ldV e2 l d/\(QB e l d↔QB e2 l d):=by
 cases d<;>simp only[ldV,QB]<;>(try exact⟨trivial,aK⟩)<;>(try exact⟨trivial,Iff.rfl⟩)
 all_goals(rw[h _ (by simp[D.names])];exact⟨rfl,Iff.rfl⟩)
def V0{d:D}(h:∀r∈d.names,e.o r=e2.o r):QF e t d=QF e2 t d/\(EP e t d↔EP e2 t d):=by
 have q:ab2 e d=ab2 e2 d:=by
  cases d<;>simp only[ab2];rw[h _ (by simp[D.names])]
 have s:Kw e d↔Kw e2 d:=by
  cases d<;>simp only[Kw];rw[h _ (by simp[D.names])]
 unfold QF EP;rw[q,s];exact⟨rfl,Iff.rfl⟩
def Y5{d i:D}(h:∀r∈d.names,e.o r=e2.o r):Y4 e t d i=Y4 e2 t d i/\(S6 e t d i↔S6 e2 t d i):=by
 cases d<;>cases i<;>simp only[Y4,S6]<;>(try exact⟨trivial,aK⟩)<;>(try exact⟨trivial,Iff.rfl⟩);rw[h _ (by simp[D.names])];exact⟨trivial,Iff.rfl⟩
def aab{d:D}(h:I1 e t d=I1 e2 t d):slC e t d=slC e2 t d:=by
 cases d<;>first|exact h| (cases t<;>rfl)
def aad{d:D}(h:∀r∈d.names,e.o r=e2.o r):I1 e t d=I1 e2 t d/\∀l m,WB e t d l m=WB e2 t d l m:=by
 by_cases q:∃r,d=.ref r
 ·obtain⟨r,rfl⟩:=q;have hr:=h r (by simp[D.names]);exact⟨by cases t<;>simp[I1,hr],λl m=>by simp[WB,hr]⟩
 ·refine⟨?_,λl m=>?_⟩
  ·cases d<;>first|exact(q ⟨_,rfl⟩).elim| (cases t<;>rfl)
  ·cases d<;>first|exact(q ⟨_,rfl⟩).elim| (cases t<;>rfl)
def HA(hr:∀x,x∈o.op.operands.toList->rd e x=rd e2 x)(q:∀r∈dP e o,e.o r=e2.o r)(O:∀c f,o.op=.call c->c.callee≠.value f):iA P e o.op=iA P e2 o.op/\(fq P e o.op↔fq P e2 o.op):=by
 cases B:o.op<;>simp only[iA,fq]<;>(try exact⟨rfl,Iff.rfl⟩)<;>(try exact⟨trivial,aK⟩)<;>rw[B]at hr<;>simp only[dP,B]at q<;>simp only[Op.operands]at hr
 case move x=>rw[hr x (by simp)];exact⟨rfl,aK⟩
 case assign x=>rw[hr x (by simp)];exact⟨rfl,aK⟩
 case pick c a b=>rw[hr c (by simp),hr a (by simp),hr b (by simp)];exact⟨rfl,Iff.rfl⟩
 case binOp op t x y yt=>rw[hr x (by simp),hr y (by simp)];exact⟨rfl,Iff.rfl⟩
 case unOp op t x=>rw[hr x (by simp)];exact⟨rfl,Iff.rfl⟩
 case convert s d x=>rw[hr x (by simp)];exact⟨rfl,Iff.rfl⟩
 case fieldAddr t x f=>rw[hr x (by simp)];exact⟨rfl,Iff.rfl⟩
 case field t x f=>rw[hr x (by simp)];exact⟨rfl,Iff.rfl⟩
 case indexAddr t x i =>
  have:=Y5 (t:=fD P t) (i:=rd e i) q;rw[<-hr x (by simp),<-hr i (by simp),this.1,this.2];exact⟨rfl,Iff.rfl⟩
 case index t x i=>rw[hr x (by simp),hr i (by simp)];exact⟨rfl,Iff.rfl⟩
 case load t a =>
  rw[<-hr a (by simp)];cases jx P t with
  |none=>exact⟨rfl,Iff.rfl⟩
  |some l=>simp only;exact Zd q
 case nilCheck x=>rw[hr x (by simp)];exact⟨rfl,Iff.rfl⟩
 case extract x i=>rw[hr x (by simp)];exact⟨rfl,Iff.rfl⟩
 case build t parts =>
  have M:gL P e t parts.toList=gL P e2 t parts.toList:=by
   unfold gL;have I:∀x∈parts.toList,rd e x.2=rd e2 x.2:=by
    intro x A;refine hr x.2 ?_;simp only[mem_map];exact⟨x,A,rfl⟩
   split
   ·refine map_congr_left ?_;intro x A;rw[I x A]
   ·refine map_congr_left ?_;intro x A;rw[I x A]
   ·rfl
  unfold IV;rw[M];exact⟨rfl,Iff.rfl⟩
 case slice t x lo G Q =>
  have C:=hr x (by simp);have F:∀d,Rz e d lo=Rz e2 d lo:=by
   intro d;cases lo with
   |none=>rfl
   |some o=>exact hr o (by simp)
  have J:∀d,Rz e d G=Rz e2 d G:=by
   intro d;cases G with
   |none=>rfl
   |some o=>exact hr o (by simp)
  have H:=aad (t:=fD P t) q;cases Q with
  |none =>
   simp only[iA,fq,slV,ac7];rw[<-C,F,J,H.1,aab H.1];refine⟨?_,Iff.rfl⟩;split
   ·exact H.2 _ _
   ·rfl
  |some m =>
   have L:=hr m (by simp);cases lo<;>cases G<;>simp only[iA,fq]<;>(try exact⟨trivial,aK⟩)<;>(try exact⟨trivial,Iff.rfl⟩);rename_i N;rw[C,L,hr N (by simp)];exact⟨trivial,Iff.rfl⟩
 case makeFunc fn first caps =>
  cases fn<;>simp only[iA,fq]<;>(try exact⟨trivial,aK⟩)<;>(try exact⟨trivial,Iff.rfl⟩);refine⟨?_,aK⟩;congr 1;refine map_congr_left ?_;intro x A;exact hr x (by simp[A])
 case call c =>
  have C:∀x∈c.args.toList,rd e x=rd e2 x:=λx A=>hr x (by simp only[Call.operands,Array.toList_append,mem_append];exact .inr A);have F:c.args.toList.map (rd e)=c.args.toList.map (rd e2):=map_congr_left C;have hcv:∀f,c.callee≠.value f:=λf=>O c f B;split
  ·rename_i E w _;rw[E]at q;simp only[w,map_cons,map_nil,D.cq,append_nil]at q;have:=C _ (by rw[w];exact iD.2 rfl);rw[<-this];exact V0 q
  ·rw[F];exact⟨rfl,Iff.rfl⟩
  ·rw[F];exact⟨rfl,Iff.rfl⟩
  ·exact⟨rfl,Iff.rfl⟩

theorem D0:∀(l:List (Nat×Operand)),(∀p∈l,rd e p.2=rd e2 p.2)->Iw e l=Iw e2 l
 | [],_=>rfl
 |p::r,h=>by rw[Iw,Iw,h p (by simp),D0 r λq s=>h q (by simp[s])]
def Sn(hr:∀x,x∈o.op.operands.toList->rd e x=rd e2 x)(q:∀r∈dP e o,e.o r=e2.o r)(h:oh e o.op):oh e2 o.op:=by
 cases s:o.op<;>rw[s]at h hr<;>simp only[dP,s]at q<;>simp only[Op.operands]at hr<;>simp only[oh]at h |-
 case move x=>rw[<-hr x (by simp)];exact h
 case binOp op t x y yt=>rw[<-hr x (by simp),<-hr y (by simp)];exact h
 case unOp op t x=>rw[<-hr x (by simp)];exact h
 case fieldAddr t x f=>rw[<-hr x (by simp)];exact h
 case load t a =>
  rw[<-hr a (by simp)];cases w:rd e a<;>rw[w]at h q<;>try exact h
  simp only[aah]at h |-;rw[<-q _ (by simp[D.names])];exact h
 case buildSlice t len ps =>
  rw[<-D0 _ λp A=>hr p.2 (by simp only[Array.toList_map,mem_map];exact⟨p,A,rfl⟩)];exact h
def K4(h:rX np ops o e e2)(q:rY np ops o (dP e o))(s:∀c f,o.op=.call c->c.callee≠.value f):iA P e o.op=iA P e2 o.op/\(fq P e o.op↔fq P e2 o.op):=HA (λ_ w=>h.rd w) (λ_ hr=>h.obj q hr) s
theorem Dw(h:rX np ops o e e2):vn ops e o.guard=vn ops e2 o.guard:=by
 unfold vn;cases s:o.guard with
 |none=>rfl
 |some p =>
  obtain⟨j,w⟩:=p;simp only;cases q:Ab ops j with
  |none=>rfl
  |some t =>
   simp only[rd];rw[h.1 t (by simp[rdT,s,q])]

def TI(h16:b.length<=16)(h:r∈nU d 0 (b.length-([]:List Nat).length)):r∈CJ d:=by
 obtain⟨j,_,q,rfl⟩:=yq h;simp only[CJ,mem_map,mem_range];exact⟨j,by simp at q;omega,rfl⟩

def Splits(P:Program)(n np:Nat)(ops:List Oper)(o:Oper)(e:Env)(g:Bool)(K:Env->Prop):Prop:=
 ∃w q:Nat->Option D,(∀s d,w s=some d->s∈wrT o)/\(∀s d,q s=some d->s∈Ml np ops o)/\K (HY w q e) /\
  ∀e2,rX np ops o e e2->∀A:Env->Prop,A (HY w q e2)->nW P n true o e2 g A

theorem Zw(hh:hard o=false)(hk:g=true->rY np ops o (dP e o))(h:nW P n true o e g K):Splits P n np ops o e g K:=by
 have C:∀e K,nW P n true o e g K=kW P n true o e g K:=λe K=>by simp[nW,hh]
 rw[C]at h;have I:∀(d:Nat)(x:D),o.dst=some d->∀s y,one d x s=some y->s∈wrT o:=by
  intro d x B s y hy;unfold one at hy;split at hy
  ·rename_i e;subst e;simp[wrT,B]
  ·cases hy
 have aa:∀s (y:D),tW s=some y->s∈Ml np ops o:=λs y h=>by cases h
 -- a step that only sets its slot
 have H:∀(d:Nat)(x:D),o.dst=some d->K (cQ e d x)->(∀e2,rX np ops o e e2->∀G:Env->Prop,G (cQ e2 d x)->nW P n true o e2 g G)->Splits P n np ops o e g K:=by
  intro d x B L hh;refine⟨one d x,tW,I d x B,aa,by rw[<-Ex];exact L,?_⟩;intro e2 q G A;exact hh e2 q G (by rw[Ex];exact A)
 -- a step that makes one object
 have M:∀(d:Nat)(x y:D),o.dst=some d->makes o.op=true->K (cQ (eV e (nm d 0) y) d x)->(∀e2,rX np ops o e e2->∀G:Env->Prop,G (cQ (eV e2 (nm d 0) y) d x)->nW P n true o e2 g G)->Splits P n np ops o e g K:=by
  intro d x y B V L hh;refine⟨one d x,one (nm d 0) y,I d x B,?_,by rw[<-Qm];exact L,?_⟩
  ·intro s z W;unfold one at W;split at W
   ·rename_i e;subst e;simp only[Ml,B,V,if_true];exact mem_append_left _ (by simp only[CJ,mem_map,mem_range];exact⟨0,by omega,rfl⟩)
   ·cases W
  ·intro e2 q G A;exact hh e2 q G (by rw[Qm];exact A)
 have U:∀(d:Nat),o.dst=some d->makes o.op=true->∀e2,rX np ops o e e2->∀r∈CJ d,e.o r=e2.o r:=by
  intro d B V e2 q r hr;refine q.2 r (.inr (.inl ?_));simp only[Ml,B,V,if_true];exact mem_append_left _ hr
 have h0:∀d,nm d 0∈CJ d:=λd=>by simp only[CJ,mem_map,mem_range];exact⟨0,by omega,rfl⟩
 cases B:o.dst with
 |none =>
  cases w:o.op<;>simp only[kW,w,B]at h<;>try exact h.elim
  rename_i t a x;obtain⟨Y,h⟩:=h;have an:=hk Y;simp only[Norm]at h;have ah:∀e2,rX np ops o e e2->rd e a=rd e2 a/\rd e x=rd e2 x:=λe2 q=>⟨q.rd (by simp[w,Op.operands]),q.rd (by simp[w,Op.operands])⟩
  have ac:∀r∈(rd e a).names,r∈Ml np ops o:=by
   intro r hr;have:=uY an r (by simp only[dP,w];exact hr);unfold vE at this;rw[w]at this;exact contains_iff_mem.1 this
  have lP:∀(r:Nat)(y:D),r∈(rd e a).names->K (eV e r y)->(∀e2,rX np ops o e e2->∀G:Env->Prop,G (eV e2 r y)->nW P n true o e2 g G)->Splits P n np ops o e g K:=by
   intro r y hr L hh;refine⟨tW,one r y,(λs d h=>by cases h),?_,(by rw[<-Xl];exact L),?_⟩
   ·intro s z W;unfold one at W;split at W
    ·rename_i e;subst e;exact ac _ hr
    ·cases W
   ·intro e2 q G A;exact hh e2 q G (by rw[Xl];exact A)
  unfold Yq at h;cases ha:rd e a<;>rw[ha]at h<;>try exact h.elim
  ·rename_i r off;simp only at h;unfold StB at h;cases ho:e.o r<;>rw[ho]at h<;>try exact h.elim
   rename_i cs;simp only at h;cases hl:jx P t with
   |none=>rw[hl]at h;exact h.elim
   |some l =>
    rw[hl]at h;obtain⟨X,S,Z,L⟩:=h;refine lP r _ (by rw[ha];simp[D.names]) L ?_;intro e2 q G A;obtain⟨ea,ex⟩:=ah e2 q;have er:e.o r=e2.o r:=q.2 r (.inr (.inl (ac r (by rw[ha];simp[D.names]))));simp only[C,kW,w,B,Norm];refine⟨Y,?_⟩;rw[<-ea,<-ex,ha];simp only[Yq];rw[<-er,ho];simp only[StB,hl];exact⟨X,S,Z,A⟩
  ·rename_i r z i k;simp only at h;unfold StO at h;cases ho:e.o r<;>rw[ho]at h<;>try exact h.elim
   rename_i z' rows;simp only at h;cases hl:jx P t with
   |none=>rw[hl]at h;exact h.elim
   |some l =>
    rw[hl]at h;obtain⟨X,S,Z,q4,q5,L⟩:=h;refine lP r _ (by rw[ha];simp[D.names]) L ?_;intro e2 q G A;obtain⟨ea,ex⟩:=ah e2 q;have er:e.o r=e2.o r:=q.2 r (.inr (.inl (ac r (by rw[ha];simp[D.names]))));simp only[C,kW,w,B,Norm];refine⟨Y,?_⟩;rw[<-ea,<-ex,ha];simp only[Yq];rw[<-er,ho];simp only[StO,hl];exact⟨X,S,Z,q4,q5,A⟩
 |some d =>
  have J:(∀c f,o.op=.call c->c.callee≠.value f)->(∀R K',nW P n true o R g K'↔(d<n/\jl g (fq P R o.op) (iA P R o.op) λu=>K' (cQ R d u)))->Splits P n np ops o e g K:=by
   intro hn af;obtain⟨F,aq,L⟩:=(af e K).1 (by rw[C];exact h);refine H d _ B L ?_;intro e2 q G A;refine(af e2 G).2 ⟨F,?_,?_⟩
   ·intro Y;exact(K4 (P:=P) q (hk Y) hn).2.1 (aq Y)
   ·cases g with
    |false=>exact A
    |true =>
     have:=(K4 (P:=P) q (hk rfl) hn).1;simp only[gd,if_true]at A |-;rw[<-this];exact A
  cases w:o.op
  case box T x =>
   simp only[kW,w,B]at h;obtain⟨Y,F,X,S,L⟩:=h;refine M d _ _ B (by rw[w];rfl) L ?_;intro e2 q G A;simp only[C,kW,w,B,Norm];refine⟨Y,F,?_⟩;rw[<-q.rd (by simp[w,Op.operands]:x∈o.op.operands.toList)];exact⟨X,by rw[<-U d B (by rw[w];rfl) e2 q _ (h0 d)];exact S,A⟩
  case alloc T =>
   simp only[kW,w,B]at h;obtain⟨Y,F,h⟩:=h;cases W:oI P T with
   |none=>rw[W]at h;exact h.elim
   |some z =>
    rw[W]at h;obtain⟨S,L⟩:=h;refine M d _ _ B (by rw[w];rfl) L ?_;intro e2 q G A;simp only[C,kW,w,B,W];exact⟨Y,F,by rw[<-U d B (by rw[w];rfl) e2 q _ (h0 d)];exact S,A⟩
  case buildSlice t len parts =>
   simp only[kW,w,B]at h;obtain⟨F,h⟩:=h;have hp:∀e2,rX np ops o e e2->∀x∈parts.toList,rd e x.2=rd e2 x.2:=λe2 q x O=>q.rd (by simp only[w,Op.operands,Array.toList_map,mem_map];exact⟨x,O,rfl⟩);have ae:∀e2,rX np ops o e e2->uJ e parts.toList=uJ e2 parts.toList:=by
    intro e2 q;unfold uJ;congr 1;exact map_congr_left λx O=>hp e2 q x O
   cases g with
   |false =>
    refine H d _ B (h.2 rfl) ?_;intro e2 q G A;simp only[C,kW,w,B];exact⟨F,λh=>(sD h).elim,λ_=>A⟩
   |true =>
    obtain⟨N,hb⟩:=h.1 rfl;have N:=N trivial;rw[N]at hb;simp only[iY]at hb;unfold Vo at hb;split at hb<;>try exact hb.elim
    rename_i z ai ea zc hT ad;obtain⟨X,S,Z,q4,q5,L⟩:=hb;refine M d _ _ B (by rw[w];rfl) L ?_;intro e2 q G A;have ak:∀z,nO e z parts.toList=nO e2 z parts.toList:=λz=>map_congr_left λx O=>by rw[hp e2 q x O]
    simp only[C,kW,w,B];refine⟨F,λ_=>⟨λ_=>by rw[<-ae e2 q];exact N,?_⟩,λh=>by cases h⟩;rw[<-ae e2 q,N];simp only[iY,Vo,hT,ad];simp only[El,<-ak]at Z q4 |-;exact⟨X,S,Z,q4,by rw[<-U d B (by rw[w];rfl) e2 q _ (h0 d)];exact q5,A⟩
  case makeSlice t l c =>
   simp only[kW,w,B]at h;obtain⟨F,h⟩:=h;cases g with
   |false =>
    refine H d _ B (h.2 rfl) ?_;intro e2 q G A;simp only[C,kW,w,B];exact⟨F,λh=>(sD h).elim,λ_=>A⟩
   |true =>
    have V:=h.1 rfl;unfold MkK at V;split at V<;>try exact V.elim
    rename_i z ai ea k1 n1 k2 m1 zc hT hl hc ad;obtain⟨X,S,Z,q4,q5,q6,q7,L⟩:=V;refine M d _ _ B (by rw[w];rfl) L ?_;intro e2 q G A;simp only[C,kW,w,B];refine⟨F,λ_=>?_,λh=>by cases h⟩;rw[<-q.rd (by simp[w,Op.operands]:l∈o.op.operands.toList),<-q.rd (by simp[w,Op.operands]:c∈o.op.operands.toList),hl,hc];simp only[MkK,hT,ad];exact⟨X,S,Z,q4,q5,q6,by rw[<-U d B (by rw[w];rfl) e2 q _ (h0 d)];exact q7,A⟩
  case call c =>
   cases E:c.callee with
   |invoke r m=>simp only[kW,w,B,E]at h;exact h.2.elim
   |builtin b =>
    by_cases hb:b=.append
    ·subst hb;simp only[kW,w,B,E]at h;exact(sD h.2.2.1.symm).elim
    ·refine J (λc' f' R hf=>by rw[w]at R;cases R;rw[E]at hf;cases hf) ?_;intro R K';simp only[C,kW,w,B,E]
   |value f =>
    simp only[kW,w,B,E]at h;obtain⟨F,h⟩:=h;cases g with
    |false =>
     refine H d _ B (h.2 rfl) ?_;intro e2 q G A;simp only[C,kW,w,B,E];exact⟨F,λh=>(sD h).elim,λ_=>A⟩
    |true =>
     obtain⟨fz,gs,bw,Q,dv,al,hc⟩:=(h.1 rfl).elim id (λh=>(sD h.1.symm).elim);obtain⟨rfl,rfl⟩:=al rfl;simp only[iY]at hc;unfold qT at hc;split at hc<;>try exact hc.elim
     rename_i k ab hf;obtain⟨X,S,Z,q4,q5,q6,q7⟩:=hc;have q7:=q7.drawn;have V:makes o.op=true:=by rw[w];simp[makes,E]
     have ao:∀r∈ig d [] Q,r∈CJ d:=λr hr=>TI (by simpa using q4.2) (by simpa[ig]using hr);have ap:=hk rfl;simp only[dP,w,E]at ap;refine⟨one d (dv.oU (NJ (ig d [] Q))),G4 (NJ (ig d [] Q)) (ig d [] Q) Q,I d _ B,?_,by rw[<-O5];exact q7,?_⟩
     ·intro s x O;simp only[Ml,B,V,if_true];exact mem_append_left _ (ao s (Mo O))
     ·intro e2 q G A;have ag:∀r∈reach e.o 4 (D.cq (rd e f::c.args.toList.map (rd e))),e.o r=e2.o r:=by
       intro r hr;have:=q.obj (hk rfl) (r:=r) (by simp only[dP,w,E];exact hr);exact this
      have am:rd e f=rd e2 f:=q.rd (by simp[w,Op.operands,Call.operands,E]);have aj:c.args.toList.map (rd e)=c.args.toList.map (rd e2):=map_congr_left λx O=>q.rd (by simp only[w,Op.operands,Call.operands,Array.toList_append,mem_append];exact .inr O);simp only[C,kW,w,B,E];refine⟨F,λ_=>.inl ⟨[],[],bw,Q,dv,λ_=>⟨rfl,rfl⟩,?_⟩,λh=>by cases h⟩;simp only[iY];rw[<-am,hf];simp only[qT];refine⟨X,(λr hr=>by cases hr),?_,q4,q5,?_,(.inl (by rw[O5];exact A))⟩
      ·intro r hr;rw[<-U d B V e2 q r (TI (by simpa using q4.2) hr)];exact Z r hr
      ·rw[<-aj];have:((c.args.toList.map (rd e)++ab).map (conv bw [] e2.o 4))=(c.args.toList.map (rd e)++ab).map (conv bw [] e.o 4):=by
        refine map_congr_left ?_;intro x O;refine(yZ bw [] 4 x ?_).symm;intro r hr;refine ag r (u6 e.o 4 _ _ ?_ r hr);intro s hs;rw[hf];simp only[D.cq,D.names,mem_append];rcases mem_append.1 O with O|O
        ·exact .inr (fZ.2 ⟨x,O,hs⟩)
        ·exact .inl (fZ.2 ⟨x,O,hs⟩)
       rw[this];exact q6
  all_goals
   refine J (λc' f' R hf=>by rw[w]at R;cases R) ?_;intro R K';simp only[C,kW,w,B]

theorem Xu(q:rq o=false):hard o=false:=by
 unfold rq at q;cases h:hard o with
 |false=>rfl
 |true=>rw[h]at q;simp at q
theorem Ub:∀(k:Nat)(ns:List Nat),(∀r∈reach e.o k ns,e.o r=e2.o r)->reach e2.o k ns=reach e.o k ns:=by
 intro k;induction k with
 |zero=>intro ns _;rfl
 |succ k ih =>
  intro ns q;simp only[reach]at q |-;have s:ns.map e2.o=ns.map e.o:=map_congr_left λr hr=>(q r (mem_append_left _ hr)).symm;rw[s,ih _ λr hr=>q r (mem_append_right _ hr)]
def UO(E:nC ops o=true)(h:sw P n np ops o e K) :
  ∃V U:Nat->Option D,(∀s d,V s=some d->s∈wrT o)/\(∀s d,U s=some d->s∈Ml np ops o)/\K (HY V U e) /\
   ∀e2,rX np ops o e e2->∀S:Env->Prop,S (HY V U e2)->sw P n np ops o e2 S:=by
 have w:∀(d:Nat)(x:D),o.dst=some d->∀s y,one d x s=some y->s∈wrT o:=by
  intro d x A s y hy;unfold one at hy;split at hy
  ·rename_i e;subst e;simp[wrT,A]
  ·cases hy
 have h0:∀d,nm d 0∈CJ d:=λd=>by simp only[CJ,mem_map,mem_range];exact⟨0,by omega,rfl⟩
 have H:∀(d:Nat),o.dst=some d->makes o.op=true->nm d 0∈Ml np ops o:=by
  intro d A I;simp only[Ml,A,I,if_true];exact mem_append_left _ (h0 d)
 obtain⟨hg,E|E⟩:=X7 E
 ·obtain⟨t,len,ps,d,q,A,hl,hp⟩:=E;have I:makes o.op=true:=by rw[q];rfl
  unfold sw at h;rw[q,A]at h;obtain⟨G,h⟩:=h;unfold Mu at h;split at h
  ·rename_i z b a W;refine⟨one d .emp,tW,w d _ A,(λs y h=>by cases h),by rw[<-Ex];exact h.2,?_⟩;intro e2 B S F;unfold sw;rw[q,A];refine⟨G,?_⟩;unfold Mu;rw[W];exact⟨by rw[<-B.2 _ (.inr (.inl (H d A I)))];exact h.1,by rw[Ex];exact F⟩
  ·exact h.elim
 ·have J:∃c,o.op=.call c/\c.callee=.builtin .append:=by
   unfold isApp at E;split at E
   ·rename_i c q;split at E
    ·rename_i J;exact⟨c,q,J⟩
    ·cases E
   ·cases E
  obtain⟨c,q,J⟩:=J;have I:makes o.op=true:=by rw[q];simp[makes,J]
  unfold sw at h;rw[q]at h;cases A:o.dst with
  |none=>rw[A]at h;exact h.elim
  |some d =>
   rw[A]at h;obtain⟨G,h⟩:=h;split at h<;>try exact h.elim
   rename_i x y T T2 C O;obtain⟨N,h⟩:=h;unfold I9 at h;split at h<;>try exact h.elim
   rename_i z by_ ea z2 by2 ea2 hx W X;obtain⟨Y,h⟩:=h;unfold PK at h;split at h<;>try exact h.elim
   rename_i rows2 hr;obtain⟨q1,q2,q3⟩:=h;refine⟨one d (.ref (nm d 0)),one (nm d 0) (.own z rows2),w d _ A,?_,by rw[<-Qm];exact q3,?_⟩
   ·intro s u Q;unfold one at Q;split at Q
    ·rename_i e;subst e;exact H d A I
    ·cases Q
   ·intro e2 B S F;have L:∀u∈[x,y],rd e u=rd e2 u:=λu Q=>B.rd (by simp only[q,Op.operands,Call.operands,Array.toList_append,mem_append];exact .inr (by rw[C];exact Q));have M:∀r∈reach e.o 2 (rd e y).names,e.o r=e2.o r:=by
     intro r hr;have:=uY N r hr;unfold vE at this;rw[q]at this;simp only[Bool.or_eq_true,iN,contains_eq_mem,bO,gP]at this;refine B.2 r ?_;rcases this with h|h
     ·exact .inl h
     ·exact .inr (.inr h)
    have R:=L y (by simp);have Z:=L x (by simp);unfold sw;rw[q,A];refine⟨G,?_⟩;simp only[C,O];refine⟨by rw[<-R,Ub 2 _ M];exact N,?_⟩;rw[<-Z,<-R,hx,W,X];refine⟨Y,?_⟩;rw[<-B7 [] 2 _ M,hr];exact⟨q1,by rw[<-B.2 _ (.inr (.inl (H d A I)))];exact q2,by rw[Qm];exact F⟩
def K1(d:Nat)(gs:List Nat)(q:List D)(s:D)(e:Env)(w:nR gs q=[]):fM e d gs q s=HY (one d (s.oU (NJ (ig d gs q)))) (G4 (NJ (ig d gs q)) (ig d gs q) q) e:=by
 unfold fM;rw[w,Bn,K7,Ex];simp[HY,tW]
theorem Wn:∀(k:Nat)(ns:List Nat),(∀r∈reach c k ns,c r=f r)->reach f k ns=reach c k ns:=by
 intro k;induction k with
 |zero=>intro ns _;rfl
 |succ k ih =>
  intro ns q;simp only[reach]at q |-;have s:ns.map f=ns.map c:=map_congr_left λr hr=>(q r (mem_append_left _ hr)).symm;rw[s,ih _ λr hr=>q r (mem_append_right _ hr)]
theorem Wj(hv:uo o=true)(h:CL P n np ops o e g K) :
  ∃Z Y:Nat->Option D,(∀s d,Z s=some d->s∈wrT o)/\(∀s d,Y s=some d->s∈Ml np ops o)/\K (HY Z Y e) /\
   ∀e2,rX np ops o e e2->∀R:Env->Prop,R (HY Z Y e2)->CL P n np ops o e2 g R:=by
 unfold CL at h;split at h<;>try exact h.elim
 rename_i c d B U;split at h<;>try exact h.elim
 rename_i f C;have A:∀(x:D),∀s y,one d x s=some y->s∈wrT o:=by
  intro x s y hy;unfold one at hy;split at hy
  ·rename_i e;subst e;simp[wrT,U]
  ·cases hy
 obtain⟨L,h⟩:=h;cases g with
 |false =>
  refine⟨one d (.bD []),tW,A _,(λs y h=>by cases h),(by rw[<-Ex];exact h.2 rfl),λe2 q R I=>?_⟩;unfold CL;rw[B,U];simp only[C];exact⟨L,λh=>(sD h).elim,λ_=>by rw[Ex];exact I⟩
 |true =>
  obtain⟨gs,w,S,k1,k2,k3,T⟩:=h.1 rfl;unfold qT at T;split at T<;>try exact T.elim
  rename_i k H hf;obtain⟨q1,q2,q3,q4,q5,q6,q7⟩:=T;have hm:makes o.op=true:=by rw[B];simp[makes,C]
  have O:∀r∈gs,r∈Ml np ops o:=λr hr=>by
   have:=k1 r hr;unfold Ml;rw[B];simp only[hv,if_true];refine mem_append_right _ ?_;cases V:c.args.toList with
   |nil=>rw[V]at this;simp[LG]at this
   |cons a as=>rw[V]at this;exact this
  have Q:∀r∈nU d 0 (w.length-gs.length),r∈Ml np ops o:=λr hr=>by
   obtain⟨j,_,h2,rfl⟩:=yq hr;simp only[Ml,U,hm,if_true];refine mem_append_left _ ?_;simp only[CJ,mem_map,mem_range];exact⟨j,by omega,rfl⟩
  have G:∀e2,rX np ops o e e2->∀r∈reach e.o 5 (gs++D.cq (rd e f::c.args.toList.map (rd e))),e.o r=e2.o r:=λe2 q r hr=>by
   have:=uY k2 r hr;unfold vE at this;rw[B]at this;simp only[Bool.or_eq_true,iN,contains_eq_mem,bO,gP]at this;exact q.2 r (this.elim .inl λh=>.inr (.inr h))
  refine⟨one d (S.oU (NJ (ig d gs w))),G4 (NJ (ig d gs w)) (ig d gs w) w,A _,?_,by rw[<-K1 d gs w S e k3];exact q7,?_⟩
  ·intro s x F;rcases mem_append.1 (Mo F)with h|h
   ·exact O s h
   ·exact Q s h
  ·intro e2 q R I;have E:=G e2 q;have M:rd e f=rd e2 f:=q.rd (by simp[B,Op.operands,Call.operands,C]);have J:c.args.toList.map (rd e)=c.args.toList.map (rd e2):=map_congr_left λx F=>q.rd (by simp only[B,Op.operands,Call.operands,Array.toList_append,mem_append];exact .inr F);have N:∀r∈gs,e.o r=e2.o r:=λr hr=>q.2 r (.inr (.inl (O r hr)));unfold CL;rw[B,U];simp only[C];refine⟨L,λ_=>⟨gs,w,S,k1,?_,k3,?_⟩,λh=>by cases h⟩
   ·rw[<-M,<-J,Wn 5 _ E];exact k2
   ·rw[<-M,hf];simp only[qT];refine⟨q1,(λr hr=>by rw[<-N r hr];exact q2 r hr),?_,q4,q5,?_,by rw[K1 d gs w S e2 k3];exact I⟩
    ·intro r hr;rw[<-q.2 r (.inr (.inl (Q r hr)))];exact q3 r hr
    ·have s5:∀(l:List Nat),(∀r∈l,r∈gs++D.cq (rd e f::c.args.toList.map (rd e)))->∀r∈reach e.o 4 l,e.o r=e2.o r:=λl V r hr=>E r (zJ e.o 4 _ r (u6 e.o 4 _ _ V r hr));have e1:gs.map (λr=>AV false gs e2.o 4 (e2.o r))=gs.map λr=>AV false gs e.o 4 (e.o r):=by
      refine map_congr_left λr hr=>?_;rw[<-N r hr];cases F:e.o r<;>try rfl
      rename_i cs;simp only[AV];congr 1;refine map_congr_left λx aa=>(yZ false gs 4 x λs W=>?_).symm;refine E s ?_;show s∈(gs++D.cq (rd e f::c.args.toList.map (rd e)))++reach e.o 4 _;refine mem_append_right _ (u6 e.o 4 _ _ (λt ht=>?_) s W);refine fZ.2 ⟨e.o r,mem_map.2 ⟨r,mem_append_left _ hr,rfl⟩,?_⟩;rw[F];simp only[D.names];exact fZ.2 ⟨x,aa,ht⟩
     rw[e1,<-J];have X:(c.args.toList.map (rd e)++H).map (conv false gs e2.o 4)=(c.args.toList.map (rd e)++H).map (conv false gs e.o 4):=by
      refine map_congr_left λx F=>(yZ false gs 4 x ?_).symm;refine s5 _ λs W=>mem_append_right _ ?_;rw[hf];simp only[D.cq,D.names,mem_append];rcases mem_append.1 F with F|F
      ·exact .inr (fZ.2 ⟨x,F,W⟩)
      ·exact .inl (fZ.2 ⟨x,F,W⟩)
     rw[X];exact q6
theorem HQ(A:CV ops o=false)(h:gZ P n np ops o e K) :
  ∃G F:Nat->Option D,(∀s d,G s=some d->s∈wrT o)/\(∀s d,F s=some d->s∈Ml np ops o)/\K (HY G F e) /\
   ∀e2,rX np ops o e e2->∀H:Env->Prop,H (HY G F e2)->gZ P n np ops o e2 H:=by
 unfold gZ at h;cases I:vn ops e o.guard with
 |none=>rw[I]at h;exact h.elim
 |some g =>
  rw[I]at h;by_cases U:nC ops o=true
  ·simp only[U,if_true]at h;obtain⟨G,F,L,E,M,N⟩:=UO U h;refine⟨G,F,L,E,M,λe2 q H B=>?_⟩;unfold gZ;rw[<-Dw q,I];simp only[U,if_true];exact N e2 q H B
  have C:nC ops o=false:=by simpa using U
  have A:(hard o||isApp o||Ki o)=false:=by simpa[CV,C]using A
  have Z:isApp o=false:=by cases hq:isApp o<;>simp[hq]at A |-
  by_cases S:uo o=true
  ·have hd:rq o=true:=by simp[rq,S]
   simp only[C,hd,Z,S,Bool.false_eq_true,if_false,if_true]at h;obtain⟨G,F,L,E,M,N⟩:=Wj S h;refine⟨G,F,L,E,M,λe2 q H B=>?_⟩;unfold gZ;rw[<-Dw q,I];simp only[C,hd,Z,S,Bool.false_eq_true,if_false,if_true];exact N e2 q H B
  have Y:uo o=false:=by simpa using S
  have A:rq o=false:=by simp[rq,Y,A]
  simp only[C,A,Bool.false_eq_true,if_false]at h;obtain⟨⟨V,h⟩,hcalm⟩:=h;obtain⟨G,F,L,E,M,N⟩:=Zw (Xu A) V h;refine⟨G,F,L,E,M,λe2 q H B=>?_⟩;unfold gZ;rw[<-Dw q,I];simp only[C,A,Bool.false_eq_true,if_false];refine⟨⟨λJ=>?_,N e2 q H B⟩,λX O=>?_⟩
  case refine_2 =>
   have J:g=true:=by rw[O]at I;simpa[vn]using I.symm
   exact Sn (λ_ T=>q.rd T) (λ_ hr=>q.obj (V J) hr) (hcalm X O)
  -- what is reached is the same
  have Q:=V J;have:dP e2 o=dP e o:=by
   have hr:∀x,x∈o.op.operands.toList->rd e x=rd e2 x:=λx T=>q.rd T;unfold dP;cases R:o.op<;>rw[R]at hr<;>simp only[Op.operands]at hr<;>try rfl
   case load t a=>simp only;rw[hr a (by simp)]
   case store t a x=>simp only;rw[hr a (by simp)]
   case indexAddr t x i=>simp only;rw[hr x (by simp)]
   case slice t x lo hi mx=>simp only;rw[hr x (by simp)]
   case call c =>
    have E:c.args.toList.map (rd e)=c.args.toList.map (rd e2):=map_congr_left λx T=>hr x (by simp only[Call.operands,Array.toList_append,mem_append];exact .inr T);cases w:c.callee with
    |builtin b=>simp only[w];rw[E]
    |invoke r m=>simp only[w];rw[E]
    |value f =>
     simp only[w];rw[hr f (by simp[Call.operands,w]),E]
     -- reached objects hold the same
     have key:∀(k:Nat)(ns:List Nat),(∀r∈reach e.o k ns,e.o r=e2.o r)->reach e2.o k ns=reach e.o k ns:=by
      intro k;induction k with
      |zero=>intro ns _;rfl
      |succ k ih =>
       intro ns A;simp only[reach]at A |-;have e1:ns.map e2.o=ns.map e.o:=map_congr_left λr hr=>(A r (mem_append_left _ hr)).symm;rw[e1,ih _ λr hr=>A r (mem_append_right _ hr)]
     refine key 4 _ ?_;intro r W;refine q.obj Q (r:=r) ?_;simp only[dP,R,w];rw[hr f (by simp[Call.operands,w]),E];exact W
  rw[this];exact Q

def Vi{x:Oper}(q:x∈ops)(hr:r∈Ml np ops x):r∈agd np ops:=mem_flatMap.2 ⟨x,q,hr⟩
def abj(B:∀s d q,h s=some d->m s=some q->False)(C:∀s d q,i s=some d->p s=some q->False)(e:Env):HY h i (HY m p e)=HY m p (HY h i e):=by
 simp only[HY,Env.mk.injEq];refine⟨?_,?_⟩<;>funext j
 ·cases w:h j<;>cases A:m j<;>simp;exact(B j _ _ w A).elim
 ·cases w:i j<;>cases A:p j<;>simp;exact(C j _ _ w A).elim

def WW{x:Oper}(D:CV ops x=false)(E:CV ops j=false)(G:x∈ops)(H:j∈ops)(R:Ji np ops x j=true)(h:gZ P n np ops x e λB=>gZ P n np ops j B K) :
  gZ P n np ops j e λe2=>gZ P n np ops x e2 K:=by
 obtain⟨L,J,O,Q,S,T⟩:=HQ D h;obtain⟨N,M,k1,k2,k3,U⟩:=HQ E S;simp only[Ji,Bool.and_eq_true,cg,iN,contains_eq_mem,gP]at R;obtain⟨⟨⟨I,a2⟩,a3⟩,a4⟩:=R;refine U e ⟨?_,?_⟩ _ ?_
 ·intro s F;show(L s).getD (e.t s)=e.t s;cases w:L s with
  |none=>rfl
  |some d=>exact((I s (O s d w)).1 F).elim
 ·intro r hr;show(J r).getD (e.o r)=e.o r;cases w:J r with
  |none=>rfl
  |some d =>
   have A:=Q r d w;rcases hr with hr|hr|hr
   ·exact((a3 r A).1 hr).elim
   ·exact((a3 r A).2 hr).elim
   ·exact(hr (Vi G A)).elim
 ·refine T _ ⟨?_,?_⟩ _ ?_
  ·intro s F;show e.t s=(N s).getD (e.t s);cases w:N s with
   |none=>rfl
   |some d=>exact(a2 s (k1 s d w) F).elim
  ·intro r hr;show e.o r=(M r).getD (e.o r);cases w:M r with
   |none=>rfl
   |some d =>
    have A:=k2 r d w;rcases hr with hr|hr|hr
    ·exact(a4 r A hr).elim
    ·exact((a3 r hr).2 A).elim
    ·exact(hr (Vi H A)).elim
  ·rw[abj]
   ·exact k3
   ·intro s d C B q;exact(I s (O s d B)).2 (k1 s C q)
   ·intro s d C B q;exact(a3 s (Q s d B)).2 (k2 s C q)

theorem Mk(h:gZ P n np ops o e K)(q:∀e,K e->K' e):gZ P n np ops o e K':=by
 unfold gZ at h |-;cases D:vn ops e o.guard with
 |none=>rw[D]at h;exact h.elim
 |some g =>
  rw[D]at h;simp only at h |-;split at h
  ·rename_i B;rw[au B];exact LY q h
  rename_i B;rw[aq B];split at h
  ·rename_i A;rw[au A];split at h
   ·rename_i s;rw[au s];split at h
    ·rename_i w;rw[au w];exact vF q h
    ·rename_i w;rw[aq w];exact⟨F7 q h.1,h.2⟩
   ·rename_i s;rw[aq s];split at h
    ·rename_i C;rw[au C];exact Pa q h
    ·rename_i C;rw[aq C];exact vF q h
  ·rename_i A;rw[aq A];exact⟨⟨h.1.1,vF q h.1.2⟩,h.2⟩

def aay{x:Oper}(w:TN ops x o=true)(E:nC ops o=false)(D:nC ops x=false)(h:gZ P n np ops x e λJ=>gZ P n np ops o J K):gZ P n np ops o e λe2=>gZ P n np ops x e2 K:=by
 unfold TN at w;split at w<;>try cases w
 rename_i u dx q s B;simp only[Bool.and_eq_true,iN,Option.isNone_iff_eq_none,bne_iff_ne]at w;obtain⟨⟨⟨⟨⟨A,N⟩,hc⟩,hd1⟩,hd2⟩,htw⟩:=w;have F:rq x=false:=by simp[rq,hard,isApp,Ki,uo,q]
 have H:rq o=true:=by simp[rq,vu A]
 have G:hard x=false:=by simp[hard,q]
 have I:∀(e:Env)(K:Env->Prop),gZ P n np ops x e K↔(dx<n/\K (cQ e dx (e.t u))):=by
  intro e K;have C:dP e x=[]:=by simp[dP,q]
  simp only[gZ,D,B,vn,F,Bool.false_eq_true,if_false,RT,C,rY,nW,G,kW,q,s,jl,fq,iA,gd,if_true,rd,He,htw];simp
 have L:∀(e:Env)(K:Env->Prop),gZ P n np ops o e K↔sF P n o e true K:=by
  intro e K;simp only[gZ,E,N,vn,H,vu A,Ke A,Bool.false_eq_true,if_false,if_true,apU,htw,false_implies,and_true]
 rw[I]at h;rw[L]at h |-;refine F7 ?_ (Yr hc hd1 hd2 h.2);intro e2 M;rw[I];exact⟨h.1,M⟩
def kD(k:Option Nat)(d:D):D:=
 match k with
 |some r=>d.kill r
 |none=>d
def kE(k:Option Nat)(e:Env):Env:=
 match k with
 |some r=>nr r e
 |none=>e
def aoS(k:Option Nat)(e:Env)(j:Nat):(kE k e).t j=kD k (e.t j):=by cases k<;>rfl
theorem aoR{j:Nat}(h:k≠some j):(kE k e).o j=kD k (e.o j):=by
 cases k with
 |none=>rfl
 |some r =>
  have:j≠r:=λe=>h (by rw[e]);simp[kE,nr,kD,this]
theorem Xy(k:Option Nat)(e:Env)(d:Nat)(v:D):kE k (cQ e d v)=cQ (kE k e) d (kD k v):=by
 cases k with
 |none=>rfl
 |some r =>
  simp only[kE,nr,cQ,kD,Env.mk.injEq,and_true];funext j;split<;>rfl
theorem ae2{N:Nat}(h:k≠some N):kE k (eV e N v)=eV (kE k e) N (kD k v):=by
 cases k with
 |none=>rfl
 |some r =>
  have:N≠r:=λe=>h (by rw[e]);simp only[kE,nr,eV,kD,Env.mk.injEq,true_and];funext j;by_cases q:j=N
  ·subst q;simp[this]
  ·simp[q]
theorem abU(h:FV (kD k v)=true):kD k v=v:=by
 cases k with
 |none=>rfl
 |some r =>
  simp only[kD]at h |-;cases v<;>simp only[D.kill]at h |-<;>(try(split at h<;>rename_i hs<;>simp_all[FV]))<;>simp_all[FV]
theorem ajr(h:RK (kD k v)=true):kD k v=v:=by
 cases k with
 |none=>rfl
 |some r =>
  cases v
  case box cs =>
   simp only[kD,D.kill,RK,nH,all_map,cg,Function.comp_apply]at h |-;congr 1;have:cs.map (D.kill r)=cs.map id:=map_congr_left λc q=>abU (k:=some r) (h c q);rw[this,map_id]
  all_goals simp only[kD,D.kill]at h |-
  all_goals first| (split at h<;>rename_i hs<;>simp_all[RK])| (simp[RK]at h)
theorem ajs(h:KJ v=true)(q:kD k v=.undef):v=.undef:=by
 cases k with
 |none=>exact q
 |some r=>cases v<;>simp_all[KJ,kD,D.kill]
theorem J1{o:Op}(h:∀z∈o.operands.toList,rd e2 z=rd e z):H6 e2 o=H6 e o:=by
 unfold H6;cases o<;>try rfl
 rename_i c;simp only;cases q:c.args.toList with
 |nil=>rfl
 |cons x r=>exact h x (by simp only[Op.operands,Call.operands,Array.toList_append,mem_append];exact .inr (by rw[q];simp))
def DP(q:∀j,e.o j≠.undef->e2.o j=e.o j){z:Nat}{rows:List (List D)}(h:mM z (qS e.o [] 2 v)=some rows):mM z (qS e2.o [] 2 v)=some rows:=by
 have no:∀{r:Nat} {f:D->D},f .undef=.undef->mM z (f (e.o r))=some rows->e2.o r=e.o r:=λ{r f} hf h=>q r λe=>by rw[e,hf]at h;cases h
 cases v
 case ref r=>rw[show qS e2.o [] 2 (.ref r)=vZ (e2.o r)from rfl,no (f:=vZ) rfl h];exact h
 case gl r z' lo len=>rw[show qS e2.o [] 2 (.gl r z' lo len)=qo z' lo len (e2.o r)from rfl,no (f:=qo z' lo len) rfl h];exact h
 case dZ r off z' len cap=>rw[show qS e2.o [] 2 (.dZ r off z' len cap)=ni off z' len (e2.o r)from rfl,no (f:=ni off z' len) rfl h];exact h
 case addr r off =>
  have h:mM z (qn (qS e.o [] 1) off (e.o r))=some rows:=h;unfold qn at h;split at h<;>cases h
 case dO r z' i k =>
  have h:mM z (xR z' i k (e.o r))=some rows:=h;unfold xR at h;split at h
  ·split at h<;>cases h
  ·cases h
 all_goals first|exact h|cases h
theorem Vw(h:sF P n o e true K):∃(d:Nat)(k:Option Nat)(Q:D),o.dst=some d/\(∀r,k=some r->H6 e o.op=.ref r)/\K (cQ (eV (kE k e) (nm d 0) Q) d (.ref (nm d 0))) /\
  ∀e2 (w:Env->Prop),(∀z∈o.op.operands.toList,rd e2 z=rd e z)->(∀j,e.o j≠.undef->e2.o j=e.o j)->e2.o (nm d 0)=e.o (nm d 0)->w (cQ (eV (kE k e2) (nm d 0) Q) d (.ref (nm d 0)))->sF P n o e2 true w:=by
 unfold sF at h;cases H:o.op<;>rw[H]at h<;>try exact h.elim
 rename_i c;cases O:o.dst with
 |none=>rw[O]at h;exact h.elim
 |some d =>
  rw[O]at h;obtain⟨k1,k2,k3⟩:=h;split at k3<;>try exact k3.elim
  rename_i x y T T2 q I;have F:∀z∈c.args.toList,z∈(Op.call c).operands.toList:=λz S=>by simp only[Op.operands,Call.operands,Array.toList_append,mem_append];exact .inr S
  unfold uE at k3;split at k3<;>try exact k3.elim
  rename_i z L a z2 b2 a2 R N;obtain⟨k3,s⟩:=k3;have M:H6 e (Op.call c)=rd e x:=by simp[H6,q]
  have out:∀e2 (w:Env->Prop),(∀z∈(Op.call c).operands.toList,rd e2 z=rd e z)->AD e2 z L d w (rd e x) (mM z (qS e2.o [] 2 (rd e y)))->sF P n o e2 true w:=by
   intro e2 w hr A;unfold sF;rw[H,O];refine⟨k1,rfl,?_⟩;simp only[q,I];rw[hr x (F x (by rw[q];simp)),hr y (F y (by rw[q];simp)),R,N];exact⟨k3,A⟩
  unfold AD at s;split at s<;>try exact s.elim
  ·rename_i rows2 C J;refine⟨d,none,_,rfl,(λr hr=>by cases hr),s.2.2,λe2 w hr B E A=>out e2 w hr ?_⟩;rw[C,DP B J];exact⟨s.1,by rw[E];exact s.2.1,A⟩
  ·rename_i rows2 C J;refine⟨d,none,_,rfl,(λr hr=>by cases hr),s.2.2,λe2 w hr B E A=>out e2 w hr ?_⟩;rw[C,DP B J];exact⟨s.1,by rw[E];exact s.2.1,A⟩
  ·rename_i r rows2 C J;unfold Yl at s;split at s<;>try exact s.elim
   rename_i z' rows G;refine⟨d,some r,_,rfl,(λr' hr=>by cases hr;rw[M];exact C),s.2.2.2,λe2 w hr B E A=>out e2 w hr ?_⟩;rw[C,DP B J];simp only[AD];rw[B r (by rw[G];simp),G];refine⟨s.1,s.2.1,?_,A⟩;have:=s.2.2.1;simp only[nr]at this |-;rw[E];exact this
theorem Xc{v:D}{y:Oper}{q:Nat}(s:ae1 y.op=true)(w:y.dst=some q):∀{l:List Oper},y∈l->Vv e v l->KJ (e.o (nm q 0))=true/\KG (nm q 0) v=true
 |x::l,hy,h=>by
  rcases mem_cons.1 hy with rfl|hy
  ·have:=h.1;simp only[s,w]at this;exact this
  ·exact Xc s w hy h.2
theorem PY{v:D}{e2:Env}(q:∀j,KJ (e.o j)=true->KJ (e2.o j)=true):∀{l:List Oper},Vv e v l->Vv e2 v l
 | [],_=>trivial
 |x::l,h=>by
  refine⟨?_,PY q h.2⟩;have:=h.1;split at this<;>rename_i q1 q2<;>simp_all
def ajY{a b:Nat}(h:a≠b):nm a 0≠nm b 0:=by unfold nm;omega
theorem Yy(s:BinOp)(a b:D):kD k (CC s a b)=CC s a b:=by
 cases k with
 |none=>rfl
 |some r =>
  have w:∀x:Bool,(N8 s x).kill r=N8 s x:=λx=>by unfold N8;split<;>rfl
  have A:∀(q:IntKind)(x y:Int),(MQ s q x y).kill r=MQ s q x y:=λq x y=>by unfold MQ;split<;>rfl
  have B:∀(x y:ByteArray),(sop s x y).kill r=sop s x y:=λx y=>by unfold sop;split<;>rfl
  unfold CC;simp only[kD];split<;>first|exact w _|exact A _ _ _|exact B _ _|rfl
theorem WU(q:UnOp)(a:D):kD k (BY q a)=BY q a:=by
 cases k with
 |none=>rfl
 |some r =>
  unfold BY;simp only[kD];split
  ·split<;>rfl
  ·split<;>rfl
  ·rfl
theorem abl(s:List FT)(f:Nat)(h:kD k a=a):kD k (faV s f a)=faV s f a:=by
 cases k with
 |none=>rfl
 |some r =>
  cases a<;>simp only[kD,faV,D.kill]at h |-
  ·split at h<;>rename_i q
   ·cases h
   ·rw[aq q]
  ·split at h<;>rename_i q
   ·cases h
   ·rw[aq q]
theorem ZC(agg:Bool)(off n:Nat){cs:List D}(h:∀c∈cs,kD k c=c):kD k (part agg off n cs)=part agg off n cs:=by
 cases k with
 |none=>rfl
 |some r =>
  unfold part;split
  ·simp only[kD,D.kill,nH];congr 1;have:((cs.drop off).take n).map (D.kill r)=((cs.drop off).take n).map id:=map_congr_left λc q=>h c (mem_of_mem_drop (mem_of_mem_take q));rw[this,map_id]
  ·cases q:cs.drop off with
   |nil=>rfl
   |cons c r'=>exact h c (mem_of_mem_drop (by rw[q];simp))
theorem Su(v:Value):kD k (uk v)=uk v:=by
 cases k with
 |none=>rfl
 |some r =>
  have q:∀v:Value,(wZ v).kill r=wZ v:=λv=>by unfold wZ;split<;>(try rfl)<;>(split<;>rfl)
  have s:∀l:List Value,D.nu r (l.map wZ)=l.map wZ:=λl=>by
   rw[nH,map_map];exact map_congr_left λv _=>q v
  unfold uk;simp only[kD];split<;>first|exact q _| (split<;>rfl)| (simp only[D.kill];rw[s])
def aax{x:Oper}(aJ:x∈ops)(aN:u∈ops)(ha:apY np ops x u=true)(h:gZ P n np ops x e λe1=>gZ P n np ops u e1 K):gZ P n np ops u e λe2=>gZ P n np ops x e2 K:=by
 simp only[apY,Bool.and_eq_true,iN,Option.isNone_iff_eq_none,any_eq_false,fE,bne_iff_ne]at ha;obtain⟨av,ab,aI,aM,ap,aF,aG,aw,aL,al,ai,aa⟩:=ha;have aH:rq x=true:=by simp[rq,vu ab]
 have ex:∀(e:Env)(K:Env->Prop),gZ P n np ops x e K↔sF P n x e true K/\Vv e (H6 e x.op) ops:=by
  intro e K;simp only[gZ,aF,aI,vn,aH,vu ab,Ke ab,Bool.false_eq_true,if_false,if_true,apU,av,true_implies]
 have ey:∀(e:Env)(K:Env->Prop),gZ P n np ops u e K↔(rY np ops u (dP e u)/\kW P n true u e true K)/\oh e u.op:=by
  intro e K;simp only[gZ,aG,aM,vn,aw,Bool.false_eq_true,if_false,He,av,true_implies,RT,nW,Xu aw]
 rw[ex]at h;obtain⟨h,hV⟩:=h;obtain⟨d,k,ob,hd,hk,J,au⟩:=Vw h;rw[ey]at J;obtain⟨⟨ac,J⟩,w⟩:=J;rw[ey];rw[hd]at aa al ai;have aa:∀s∈CJ d,s∉rdO np ops u:=λs hs=>by simpa using cg.1 aa s hs
 obtain⟨F,hF⟩:∃F,F=cQ (eV (kE k e) (nm d 0) ob) d (.ref (nm d 0)):=⟨_,rfl⟩
 rw[<-hF]at ac J w;have hFt:∀z∈u.op.operands.toList,rd F z=kD k (rd e z)\/rd F z=rd e z:=by
  intro z U;cases z with
  |tmp t =>
   left;have:t≠d:=by
    rintro rfl;exact al t (zm U) rfl
   rw[hF];show(cQ _ _ _).t t=kD k (e.t t);rw[wQ this];exact aoS k e t
  | _=>right;rfl
 have I:∀z∈u.op.operands.toList,FV (rd F z)=true->rd F z=rd e z/\kD k (rd e z)=rd e z:=by
  intro z U hs;cases z with
  |tmp t =>
   have e1:rd F (.tmp t)=kD k (rd e (.tmp t)):=by
    have:t≠d:=by
     rintro rfl;exact al t (zm U) rfl
    rw[hF];show(cQ _ _ _).t t=kD k (e.t t);rw[wQ this];exact aoS k e t
   rw[e1]at hs |-;have:=abU hs;exact⟨this,this⟩
  |const v=>exact⟨rfl,Su v⟩
  |global g=>exact⟨rfl,by cases k<;>rfl⟩
  |func f=>exact⟨rfl,by cases k<;>rfl⟩
 have ad:∀(A:Nat)(v:D),u.dst=some A->∀(e2:Env),(∀j,j≠A->e2.t j=e.t j)->∀z∈x.op.operands.toList,rd e2 z=rd e z:=by
  intro A v C e2 he z U;cases z with
  |tmp t=>exact he t λe=>aL t (zm U) (by rw[C,e])
  | _=>rfl
 -- a step that only sets its slot
 have ax:∀(A:Nat)(v:D),u.dst=some A->kD k v=v->K (cQ F A v)->gZ P n np ops x (cQ e A v) K:=by
  intro A v C hv J;have Z:d≠A:=λh=>ai (by rw[C,h]);have hr:=ad A v C (cQ e A v) λj M=>wQ M;rw[ex];refine⟨au _ K hr (λ_ _=>rfl) rfl ?_,?_⟩
  ·have:cQ (eV (kE k (cQ e A v)) (nm d 0) ob) d (.ref (nm d 0))=cQ F A v:=by
    rw[hF,Xy,hv];simp only[cQ,eV,Env.mk.injEq,and_true];funext j;by_cases M:j=d
    ·subst M;simp[Z]
    ·simp[M]
   rw[this];exact J
  ·rw[J1 hr];exact PY (e:=e) (e2:=cQ e A v) (λ_ M=>M) hV
 cases B:u.op<;>rw[B]at ap<;>(try cases ap)
 case buildSlice T len ps =>
  cases C:u.dst with
  |none=>simp only[kW,B,C]at J
  |some A =>
   simp only[kW,B,C]at J;obtain⟨aj,J⟩:=J;have Z:d≠A:=λh=>ai (by rw[C,h]);have hp:∀q∈ps.toList,rd F q.2=rd e q.2:=by
    rw[B]at w I;intro q R;refine(I q.2 (by simp only[Op.operands,Array.toList_map,mem_map];exact⟨q,R,rfl⟩) ?_).1;have:∀{l:List (Nat×Operand)},Iw F l=true->∀q∈l,FV (rd F q.2)=true:=by
     intro l;induction l with
     |nil=>intro _ q R;cases R
     |cons a l ih =>
      intro h q R;simp only[Iw,Bool.and_eq_true]at h;rcases mem_cons.1 R with rfl|R
      ·exact h.1
      ·exact ih h.2 q R
    exact this w q R
   have am:uJ F ps.toList=uJ e ps.toList:=by
    unfold uJ;congr 1;exact map_congr_left λq R=>hp q R
   have ay:∀z,nO F z ps.toList=nO e z ps.toList:=λz=>map_congr_left λq R=>by rw[hp q R]
   obtain⟨O,Y⟩:=J.1 rfl;have O:=O trivial;rw[O]at Y;simp only[iY]at Y;unfold Vo at Y;split at Y<;>try exact Y.elim
   rename_i z by_ ea zc hT aO;obtain⟨q1,q2,q3,q4,q5,J⟩:=Y;obtain⟨v1,v2⟩:=Xc (by rw[B];rfl) C aN hV;have ak:k≠some (nm A 0):=by
    intro aA;rw[hk _ aA]at v2;simp[KG]at v2
   have af:nm A 0≠nm d 0:=ajY (Ne.symm Z);have hN:e.o (nm A 0)=.undef:=by
    refine ajs (k:=k) v1 ?_;rw[<-aoR ak,<-q5,hF];show _=(eV (kE k e) (nm d 0) ob).o (nm A 0);simp[eV,af]
   refine⟨⟨by simp[dP,B,rY],?_⟩,?_⟩
   ·simp only[kW,B,C];refine⟨aj,λ_=>⟨λ_=>by rw[<-am];exact O,?_⟩,λh=>by cases h⟩;rw[<-am,O];simp only[iY,Vo,hT,aO];simp only[El,<-ay]at q3 q4 J |-;refine⟨q1,q2,q3,q4,hN,?_⟩;obtain⟨V,ag⟩:∃V:D,V=.own z (rowsOf z len (pR (replicate len zc).flatten (nO F z ps.toList))):=⟨_,rfl⟩
    rw[<-ag]at J |-;have an:kD k V=V:=by rw[ag];cases k<;>rfl
    have aB:kD k (.ref (nm A 0))=.ref (nm A 0):=by
     cases k with
     |none=>rfl
     |some r =>
      have:nm A 0≠r:=λh=>ak (by rw[h]);simp[kD,D.kill,this]
    have hr:=ad A (.ref (nm A 0)) C (cQ (eV e (nm A 0) V) A (.ref (nm A 0))) λj M=>wQ M;rw[ex];refine⟨au _ K hr ?_ ?_ ?_,?_⟩
    ·intro j M;show(if j=nm A 0 then V else e.o j)=e.o j;rw[aq];rintro rfl;exact M hN
    ·show(if nm d 0=nm A 0 then V else e.o (nm d 0))=e.o (nm d 0);rw[aq (Ne.symm af)]
    ·have:cQ (eV (kE k (cQ (eV e (nm A 0) V) A (.ref (nm A 0)))) (nm d 0) ob) d (.ref (nm d 0))=cQ (eV F (nm A 0) V) A (.ref (nm A 0)):=by
      rw[hF,Xy,ae2 ak,an,aB];simp only[cQ,eV,Env.mk.injEq];refine⟨?_,?_⟩<;>funext j
      ·by_cases M:j=d
       ·subst M;simp[Z]
       ·simp[M]
      ·by_cases M:j=nm d 0
       ·subst M;simp[Ne.symm af]
       ·simp[M]
     rw[this];exact J
    ·rw[J1 hr];refine PY (λj M=>?_) hV;show KJ (if j=nm A 0 then V else e.o j)=true;split
     ·rw[ag];rfl
     ·exact M
   ·simp only[B,oh]at w |-;rw[<-D0 _ hp];exact w
 all_goals
  have Q:(∀W K',kW P n true u W true K'↔∃A,u.dst=some A/\A<n/\fq P W u.op/\K' (cQ W A (iA P W u.op)))->(fq P F u.op->fq P e u.op/\iA P F u.op=iA P e u.op/\kD k (iA P e u.op)=iA P e u.op)->rY np ops u (dP e u)->oh e u.op->(rY np ops u (dP e u)/\kW P n true u e true λe2=>gZ P n np ops x e2 K)/\oh e u.op:=by
   intro L H X h3;obtain⟨A,C,aj,E,J⟩:=(L _ _).1 J;obtain⟨k1,k2,k3⟩:=H E;rw[k2]at J;exact⟨⟨X,(L _ _).2 ⟨A,C,aj,k1,ax A _ C k3 J⟩⟩,h3⟩
  rw[B]at Q w I;simp only[Op.operands]at I;have L:∀W K',kW P n true u W true K'↔∃A,u.dst=some A/\A<n/\fq P W u.op/\K' (cQ W A (iA P W u.op)):=by
   intro W K';cases C:u.dst<;>simp[kW,B,C,jl,gd]
  rw[B]at L
 case move a =>
  obtain⟨H,X⟩:=I a (by simp) w;exact Q L (λ_=>⟨trivial,H,X⟩) (by simp[dP,B,rY]) (by simp only[oh];rw[<-H];exact w)
 case fieldAddr t a f =>
  obtain⟨H,X⟩:=I a (by simp) w;refine Q L (λE=>⟨?_,?_,?_⟩) (by simp[dP,B,rY]) (by simp only[oh];rw[<-H];exact w)
  ·simp only[fq]at E |-;rw[<-H];exact E
  ·simp only[iA];rw[H]
  ·simp only[iA];cases fD P t<;>first|exact abl _ _ X| (cases k<;>rfl)
 case unOp op t a =>
  obtain⟨H,X⟩:=I a (by simp) w;refine Q L (λE=>⟨?_,?_,WU _ _⟩) (by simp[dP,B,rY]) (by simp only[oh];rw[<-H];exact w)
  ·simp only[fq]at E |-;rw[<-H];exact E
  ·simp only[iA];rw[H]
 case binOp op t a b t2 =>
  obtain⟨H,X⟩:=I a (by simp) w.1;obtain⟨h3,h4⟩:=I b (by simp) w.2;refine Q L (λE=>⟨?_,?_,Yy _ _ _⟩) (by simp[dP,B,rY]) (by simp only[oh];rw[<-H,<-h3];exact w)
  ·simp only[fq]at E |-;rw[<-H,<-h3];exact E
  ·simp only[iA];rw[H,h3]
 case load t a =>
  simp only[oh]at w;cases N:rd F a<;>rw[N]at w<;>(try cases w);rename_i q off;simp only[aah]at w;obtain⟨H,X⟩:=I a (by simp) (by rw[N];rfl);have G:vE np ops u q=true:=by
   refine uY ac q ?_;simp only[dP,B,N,D.names,iD]
  have aD:q≠nm d 0:=by
   rintro rfl;have hm:nm d 0∈CJ d:=by simp only[CJ,mem_map,mem_range];exact⟨0,by omega,rfl⟩
   have hw:nm d 0∈agd np ops:=by
    refine mem_flatMap.2 ⟨x,aJ,?_⟩;have aC:makes x.op=true:=by
     have:=vu ab;unfold isApp at this;unfold makes;split at this
     ·rename_i c hc;rw[hc];split at this
      ·rename_i az;simp[az]
      ·cases this
     ·cases this
    simp only[Ml,hd,aC,if_true];exact mem_append_left _ hm
   unfold vE at G;rw[B]at G;simp only[Bool.or_eq_true,iN,contains_eq_mem,bO,gP]at G;rcases G with h|h
   ·exact aa _ hm h
   ·exact h hw
  have aE:k≠some q:=by
   rintro rfl;rw[<-H,N]at X;simp[kD,D.kill]at X
  have ae:F.o q=kD k (e.o q):=by
   rw[hF,<-aoR aE];show(if q=nm d 0 then ob else(kE k e).o q)=_;rw[aq aD]
  have S:F.o q=e.o q:=by rw[ae];exact ajr (by rw[<-ae];exact w)
  have ar:∀r∈dP F u,F.o r=e.o r:=by
   intro r hr;simp only[dP,B,N,D.names,iD]at hr;rw[hr];exact S
  have ah:=HA (P:=P) (o:=u) (e:=F) (e2:=e) (λz U=>by
   rw[B]at U;simp only[Op.operands,iD]at U;have U:z=a:=by simpa using U
   subst U;exact H) ar (λc f hc=>by rw[B]at hc;cases hc)
  rw[B]at ah;refine Q L (λE=>⟨ah.2.1 E,ah.1,?_⟩) ?_ ?_
  ·simp only[iA,<-H,N];cases jx P t with
   |none=>cases k<;>rfl
   |some l =>
    simp only[ldV];rw[<-S];cases Y:F.o q<;>rw[Y]at w<;>(try cases w);rename_i cs;simp only[ldB];have ao:kD k (D.box cs)=D.box cs:=by rw[<-Y,S,<-ae,S]
    refine ZC _ _ _ λc hc=>?_;cases k with
    |none=>rfl
    |some r =>
     simp only[kD,D.kill,nH,D.box.injEq]at ao |-;have:=map_eq_map_iff.1 (show cs.map (D.kill r)=cs.map id by rw[ao,map_id]) c hc;exact this
  ·simp only[dP,B,<-H,N,D.names];exact⟨G,aK⟩
  ·simp only[oh];rw[<-H,N];simp only[aah];rw[<-S];exact w
def uA(P:Program)(n np:Nat)(ops:Array Oper):List Nat->Env->(Env->Prop)->Prop
 | [],e,K=>K e
 |i::r,e,K=>match ops[i]? with
  |some o=>gZ P n np ops.toList o e λq=>uA P n np ops r q K
  |none=>uA P n np ops r e K
theorem FP{ops:Array Oper}{i:Nat}{y:Oper}(B:ops[i]?=some y):∀(s q:List Nat)(e:Env)(K:Env->Prop),(∀j∈s,∀x,ops[j]?=some x->(CV ops.toList x=false/\CV ops.toList y=false/\Ji np ops.toList x y=true)\/(TN ops.toList x y=true/\nC ops.toList y=false/\nC ops.toList x=false)\/apY np ops.toList x y=true) ->
  uA P n np ops (s++i::q) e K->uA P n np ops (i::(s++q)) e K
 | [],_,_,_,_,h=>h
 |j::s,q,e,K,ha,h=>by
  simp only[cons_append,uA]at h |-;have E:=λC=>FP B s q C K (λk I=>ha k (mem_cons_of_mem _ I));simp only[B];cases A:ops[j]? with
  |none =>
   rw[A]at h;have:=E e h;simp only[uA,B]at this;simpa[A]using this
  |some x =>
   rw[A]at h;simp only at h |-
   have D:gZ P n np ops.toList x e λG=>gZ P n np ops.toList y G λC=>uA P n np ops (s++q) C K:=by
    refine Mk h ?_;intro C H;have:=E C H;simpa only[uA,B]using this
   have w:∀{k:Nat} {z:Oper},ops[k]?=some z->z∈ops.toList:=by
    intro k z J;exact fC (i:=k) (by simpa using J)
   rcases ha j (by simp) x A with⟨F,a2,a3⟩| ⟨ha,hb,hc⟩|ha
   ·exact WW F a2 (w A) (w B) a3 D
   ·exact aay ha hb hc D
   ·exact aax (w A) (w B) ha D
theorem FQ{ops:Array Oper}:∀(l:List Oper)(k:Nat)(e:Env)(K:Env->Prop),ops.toList.drop k=l->rS P n np ops.toList l e K->uA P n np ops (range' k l.length) e K
 | [],_,_,_,_,h=>h
 |o::l,k,e,K,hd,h=>by
  have A:ops[k]?=some o:=by
   have:(ops.toList.drop k)[0]?=some o:=by rw[hd];rfl
   rw[getElem?_drop]at this;simpa using this
  have q:ops.toList.drop (k+1)=l:=by
   rw[<-drop_drop,hd];rfl
  simp only[length_cons,range'_succ,uA,A];refine Mk h ?_;intro s w;exact FQ l (k+1) s K q w
end
end Go.Abs
namespace Go.Abs
open List

variable{d i:Nat}{K:Env->Prop}{e:Env}{g:Bool}{o:Oper}{ops:Array Oper}{a:Act}{next:Act->World->Prop}{Q:Exit->Act->World->Prop}{b:Array Bool}
section
variable{P:Program}{n np:Nat}{w0 w w':World}{l0:Nat->Option Nat}{G:Nat->Option (Nat×Nat)}{S0:Nat->Option Value}{lev lev' own own':Nat->Option Nat}{S S':Nat->Option Value}{env env':Env}{tm tm':Nat->Value}

def VA{dr:Bool}{f:Operand}{args:List Operand}(h:Ee P true e d f args K):Ee P dr e d f args K:=by
 obtain⟨fz,gs,bw,j,k,c,h⟩:=h;exact⟨fz,gs,bw,j,k,λ_=>c rfl,vc (λ_ l=>.inl l.drawn) h⟩
theorem afj{ops:List Oper}(h:RT P n np ops o e g K):nW P n false o e g K:=by
 obtain⟨_,h⟩:=h;unfold nW at h |-;split at h
 ·rename_i q;rw[au q];exact⟨h.1,rfl,h.2.2⟩
 rename_i q;rw[aq q];cases u:o.dst with
 |none=>cases l:o.op<;>simp only[kW,l,u]at h |-<;>exact h
 |some d =>
  cases l:o.op<;>simp only[kW,l,u]at h |-<;>(try exact h)
  case buildSlice t len parts=>exact⟨h.1,λp=>⟨(λh=>by cases h),(h.2.1 p).2⟩,h.2.2⟩
  case call c =>
   refine⟨h.1,?_⟩;have k:=h.2;cases j:c.callee with
   |invoke r m=>rw[j]at k;exact k
   |value f=>rw[j]at k;exact⟨λp=>(k.1 p).elim (λs=>.inl (VA s)) (λs=>(sD s.1.symm).elim),k.2⟩
   |builtin b =>
    rw[j]at k;cases b<;>simp only at k |-<;>first|exact k|exact⟨k.1,aK,k.2.2⟩

theorem N5:∀(l:List Oper)(j:Nat),Ab l j=(l[j]?).bind (·.dst)
 | [],j=>by simp[Ab]
 |o::r,0=>by simp[Ab]
 |o::r,j+1=>by simp[Ab,N5 r j]

theorem PF(h:Inv w0 l0 G S0 w lev own S env (oY a.tmps))(c:vn ops.toList env o.guard=some g):Region.wanted o (yielded ops a.tmps)=g:=by
 unfold vn at c;unfold Region.wanted;cases m:o.guard with
 |none=>rw[m]at c;simpa using c.symm
 |some p =>
  obtain⟨j,r⟩:=p;rw[m]at c;simp only at c |-;rw[N5]at c;have x:ops.toList[j]?=ops[j]?:=by simp
  rw[x]at c;unfold yielded;cases u:(ops[j]?).bind (·.dst)with
  |none =>
   rw[u]at c;simp only[qN]at c;subst c;simp
  |some t =>
   rw[u]at c;simp only at c;simp only[Option.bind_some];have l:=h.yR a rfl (.tmp t);unfold PD at c;split at c
   ·rename_i b s;rw[s]at l;have q:=l.og;have k:t<a.tmps.size:=by
     rcases dN t a.tmps.size with k|hge
     ·exact k
     ·simp[Act.eval,Array.getElem?_eq_none hge,Go.undef]at q
    have f:a.tmps[t]?=some (.bool b):=by
     simp[Act.eval,k]at q;simp[k,q]
    simp only[f];simp only[qN]at c;subst c;cases b<;>cases r<;>rfl
   ·rename_i s;rw[s]at l;obtain⟨vs,q,hs,_⟩:=l.FG;simp only[qN]at c;subst c;cases f:a.tmps[t]? with
    |none=>simp
    |some v =>
     have:v=.tuple vs:=by simpa[Act.eval,f]using q
     subst this;simp
   ·cases c

def YS(h:Inv w0 l0 G S0 w lev own S env (oY a.tmps))(N:a.tmps.size=n)(m:a.defers=[]){t:TypeId}(y:o.op=.buildSlice t 0 #[])(J:o.dst=some d)(p:d<n)
  (c:Cont n w0 l0 G S0 K next) (l:Mu env d K (fD P t)):o.wp P a w next Q:=by
 unfold Mu at l;split at l<;>try exact l.elim
 rename_i z by_ ea I;obtain⟨C,F⟩:=l;obtain⟨e,inf,O,M,hin,B,hz,zv0,hzv0,hzz0⟩:=fy I;have H:=h.fresh C;have D:=h.setObj (w':=w.alloc (.cells #[] e)) (r:=nm d 0) (d:=.undef) (own':=own) (S':=S) (Mi h _ none) (B1 _ _ _ none) (λ_ _=>rfl) (λ_ h=>h) (.inl (C0 d 0))
  (by
   intro b s _ _ _ B;have q:=h.priv b 0 B;have x:b≠w.heap.size:=by omega
   exact⟨heap_alloc_old w _ q,gX _ _ x,rfl⟩)
  (show S (nm d 0)=none from H)
 have L:eV env (nm d 0) .undef=env:=by
  cases env with
  |mk t o =>
   simp only[eV,Env.mk.injEq,true_and];funext j;by_cases E:j=nm d 0
   ·subst E;simp only[if_true];exact C.symm
   ·simp[E]
 rw[L]at D;have f:=D.put (s:=d) (v:=.slice (some ⟨w.heap.size,0,none⟩) 0 0) (d:=.emp) (.emp _);refine upon_value J (u:=.slice (some ⟨w.heap.size,0,none⟩) 0 0) ?_ (gV N m c p f F);simp only[execOp,y];refine mN ?_;have k:(newRow e #[]).run P w=.ok ⟨w.heap.size,0,none⟩ (w.alloc (.cells #[] e)):=by simp[newRow,newObj,Sem.run,Sem.bind,pure,bind]
 have A:(Array.range 0:Array Nat) = #[]:=rfl;simp[Instr.buildSlice,Sem.run_bind,bQ O,dJ M,Instr.fill,A,k,Sem.run,pure]
theorem Ea(m:ops[i]?=some o)(h:Inv w0 l0 G S0 w lev own S env (oY a.tmps))(l:a.tmps.size=n)(j:a.defers=[])
  (c:Cont n w0 l0 G S0 K next) (f:wpOp P n ops.toList o env K):Go.wpOp P ops Q i next a w:=by
 unfold wpOp at f;cases k:vn ops.toList env o.guard with
 |none=>rw[k]at f;exact f.elim
 |some g =>
  rw[k]at f;unfold Go.wpOp;simp only[m,PF h k];cases g with
  |true=>exact .inl (Zz h l j c f)
  |false =>
   simp only[Bool.false_eq_true,if_false];exact acu h l j c f

theorem Vh(v:ops[i]?=some o)(h:Inv w0 l0 G S0 w lev own S env (oY a.tmps))(u:a.tmps.size=n)(m:a.defers=[])
  (j:Cont n w0 l0 G S0 K next) (f:gZ P n np ops.toList o env K):Go.wpOp P ops Q i next a w:=by
 unfold gZ at f;cases r:vn ops.toList env o.guard with
 |none=>rw[r]at f;exact f.elim
 |some g =>
  rw[r]at f;simp only at f;by_cases l:nC ops.toList o=true
  ·rw[au l]at f;obtain⟨s,l|l⟩:=X7 l
   ·obtain⟨t,len,ps,d,k,q,rfl,rfl⟩:=l;have p:=r;rw[s]at p;simp only[vn,qN]at p;subst p;unfold Go.wpOp;simp only[v,PF h r];unfold sw at f;rw[k,q]at f;exact .inl (YS h u m k q f.1 j f.2)
   ·refine Ea v h u m j (K:=K) ?_;unfold wpOp;rw[s];simp only[vn];refine R5 l ?_;unfold sw at f;unfold sF;have y:∃c,o.op=.call c:=by
     unfold isApp at l;split at l
     ·rename_i c k;exact⟨c,k⟩
     ·cases l
    obtain⟨c,k⟩:=y;rw[k]at f |-;cases q:o.dst with
    |none=>rw[q]at f;exact f.elim
    |some d =>
     rw[q]at f;refine⟨f.1,rfl,?_⟩;have f:=f.2;split at f
     ·rename_i hx hy;exact ahW f.2
     ·exact f.elim
  ·rw[aq l]at f;refine Ea v h u m j (K:=K) ?_;unfold wpOp;rw[r];simp only;split at f
   ·split at f
    ·rename_i x;split at f
     ·exact f
     ·exact R5 x f.1
    ·split at f
     ·exact acQ f
     ·exact f
   ·exact afj f.1
theorem FR{ops:Array Oper}{Q:Exit->Act->World->Prop}{K:Env->Prop}(c:Cont n w0 l0 G S0 K (Q .normal)):∀(l:List Oper)(k:Nat),ops.toList.drop k=l->∀(env:Env) lev own S w (a:Act),Inv w0 l0 G S0 w lev own S env (oY a.tmps)->a.tmps.size=n->a.defers=[] ->
  wpList P n ops.toList l env K->wpOps P ops Q (range' k l.length) a w
 | [],k,_,env,lev,own,S,w,a,h,hn,hdf,hk=>c _ _ _ _ _ a hn hdf h hk
 |o::l,k,hd,env,lev,own,S,w,a,h,hn,hdf,hk=>by
  have t:ops[k]?=some o:=by
   have:(ops.toList.drop k)[0]?=some o:=by rw[hd];rfl
   rw[getElem?_drop]at this;simpa using this
  have j:ops.toList.drop (k+1)=l:=by rw[<-drop_drop,hd];rfl
  simp only[length_cons,range'_succ];rw[wpOps_cons];refine Ea t h hn hdf ?_ hk;intro q lev' own' S' w' p m f s r;exact FR c l (k+1) j q lev' own' S' w' p s m f r

def Lg(h:i∈Region.ready .any ops b):i<ops.size/\b.getD i true=false/\∀y,ops[i]?=some y->∀e∈y.after.toList,Region.binds .any e=true->b.getD e.on false=true:=by
 unfold Region.ready at h;simp only[mem_filter,mem_range,Bool.and_eq_true,iN]at h;refine⟨h.1,h.2.1,?_⟩;intro y k e j f;have:=h.2.2;rw[k]at this;simp only[Option.map_some,Option.getD_some,Array.all_eq_true_iff_forall_mem,Bool.or_eq_true,iN]at this;rcases this e (by simpa using j)with c|c
 ·rw[f]at c;cases c
 ·exact c

theorem adE(M:Dp np ops=true)(C:Cont n w0 l0 G S0 K (Q .normal)):∀(q:Nat)(c:Array Bool)(env:Env) lev own S w (a:Act),
  c.size=ops.size->(∀k y,ops[k]?=some y->c.getD k false=true->∀e∈y.after.toList,Region.binds .any e=true->c.getD e.on false=true)->((range ops.size).filter (λi=>!c.getD i true)).length<=q->Inv w0 l0 G S0 w lev own S env (oY a.tmps)->a.tmps.size=n->a.defers=[] ->
  uA P n np ops ((range ops.size).filter (λi=>!c.getD i true)) env K->wpAny P .any ops Q q c a w:=by
 have T:∀(i:Nat) y,ops[i]?=some y->∀e∈y.after.toList,Region.binds .any e=true->e.on<i:=by
  intro i y p e u t;have A:=(Array.getElem?_eq_some_iff.1 p).1;simp only[Dp,cg,mem_range]at M;have:=M i A;rw[p]at this;simp only[Bool.and_eq_true,Array.all_eq_true_iff_forall_mem,Bool.or_eq_true,iN,bO]at this;rcases this.1 e (by simpa using u)with l|l
  ·rw[t]at l;cases l
  ·exact l
 have J:∀(i:Nat) y,ops[i]?=some y->∀j,j<i->∀x,ops[j]?=some x->((∃e∈y.after.toList,Region.binds .any e=true/\e.on=j)\/GM ops 12 i j=true)\/((CV ops.toList x=false/\CV ops.toList y=false/\Ji np ops.toList x y=true)\/(TN ops.toList x y=true/\nC ops.toList y=false/\nC ops.toList x=false)\/apY np ops.toList x y=true):=by
  intro i y p j r x hx;have A:=(Array.getElem?_eq_some_iff.1 p).1;simp only[Dp,cg,mem_range]at M;have:=M i A;rw[p]at this;simp only[Bool.and_eq_true,cg,mem_range]at this;have:=this.2 j r;rw[hx]at this;simp only[Bool.or_eq_true,Array.any_eq_true',Bool.and_eq_true,fE,iN]at this;rcases this with⟨e,u,t,D⟩| (((⟨⟨l,I⟩,R⟩| ⟨⟨l,I⟩,R⟩)|l)|l)
  ·exact .inl (.inl ⟨e,by simpa using u,t,D⟩)
  ·exact .inr (.inl ⟨l,I,R⟩)
  ·exact .inr (.inr (.inl ⟨l,I,R⟩))
  ·exact .inr (.inr (.inr l))
  ·exact .inl (.inr l)
 -- what is behind what is c is c
 have N:∀(c:Array Bool),(∀k y,ops[k]?=some y->c.getD k false=true->∀e∈y.after.toList,Region.binds .any e=true->c.getD e.on false=true)->∀(k i j:Nat),GM ops k i j=true ->
   (∀y,ops[i]?=some y->∀e∈y.after.toList,Region.binds .any e=true->c.getD e.on false=true)->c.getD j false=true:=by
  intro c v k;induction k with
  |zero=>intro i j h;simp[GM]at h
  |succ k ih =>
   intro i j h O;unfold GM at h;cases p:ops[i]? with
   |none=>rw[p]at h;cases h
   |some y =>
    rw[p]at h;simp only[Array.any_eq_true',Bool.and_eq_true,Bool.or_eq_true,fE]at h;obtain⟨e,u,t,h⟩:=h;have W:=O y p e (by simpa using u) t;rcases h with rfl|h
    ·exact W
    ·exact ih e.on j h (λy' am=>v e.on y' am W)
 -- nothing is ready only if nothing is left
 have af:∀c:Array Bool,c.size=ops.size->Region.ready .any ops c=[]->(range ops.size).filter (λi=>!c.getD i true)=[]:=by
  intro c s hr;rw[filter_eq_nil_iff];intro i;induction i using Nat.strongRecOn with
  | _ i ih =>
   intro O hu;have A:=mem_range.1 O;have:i∈Region.ready .any ops c:=by
    unfold Region.ready;rw[mem_filter];refine⟨O,?_⟩;simp only[Bool.and_eq_true];refine⟨hu,?_⟩;have p:ops[i]?=some ops[i]:=by simp[A]
    rw[p];simp only[Option.map_some,Option.getD_some,Array.all_eq_true_iff_forall_mem,Bool.or_eq_true,iN];intro e u;cases t:Region.binds .any e with
    |false=>exact .inl rfl
    |true =>
     right;have D:=T i _ p e (by simpa using u) t;have l:=ih e.on D (mem_range.2 (by omega));have I:c.getD e.on true=true:=by
      cases hx:c.getD e.on true with
      |true=>rfl
      |false=>exact(l (by rw[hx];rfl)).elim
     have ag:e.on<c.size:=by omega
     simpa[Array.getD_eq_getD_getElem?,ag]using I
   rw[hr]at this;cases this
 intro q;induction q with
 |zero =>
  intro c env lev own S w a s v z h hn L H;have hR:(range ops.size).filter (λi=>!c.getD i true)=[]:=length_eq_zero_iff.1 (by omega);rw[hR]at H;refine⟨?_,C _ _ _ _ _ a hn L h H⟩;rw[eq_nil_iff_forall_not_mem];intro i O;obtain⟨l,I,_⟩:=Lg O;have:i∈(range ops.size).filter (λi=>!c.getD i true):=mem_filter.2 ⟨mem_range.2 l,by rw[I];rfl⟩;rw[hR]at this;cases this
 |succ q ih =>
  intro c env lev own S w a s v z h hn L H;refine⟨?_,?_⟩
  ·intro hr;rw[af c s hr]at H;exact C _ _ _ _ _ a hn L h H
  ·intro i O;obtain⟨l,I,R⟩:=Lg O;have ai:i∈(range ops.size).filter (λi=>!c.getD i true):=mem_filter.2 ⟨mem_range.2 l,by rw[I];rfl⟩;obtain⟨Z,F,Y⟩:=append_of_mem ai;have p:ops[i]?=some ops[i]:=by simp[l]
   have f:((range ops.size).filter (λi=>!c.getD i true)).Pairwise (· < ·):=Pairwise.filter _ pairwise_lt_range;rw[Y]at f H z;have E:∀j∈Z,j<i:=by
    intro j r;have:=pairwise_append.1 f;exact this.2.2 j r i (by simp)
   have X:∀j∈F,i<j:=by
    intro j r;have:=(pairwise_append.1 f).2.1;exact(jR.1 this).1 j r
   have ac:=FP (P:=P) (n:=n) (np:=np) p Z F env K (by
    intro j r x hx;rcases J i _ p j (E j r) x hx with h5|h4
    ·have W:c.getD j false=true:=by
      rcases h5 with⟨e,u,t,D⟩|h5
      ·rw[<-D];exact R _ p e u t
      ·exact N c v 12 i j h5 R
     have aj:j∈(range ops.size).filter (λi=>!c.getD i true):=by rw[Y];exact mem_append_left _ r
     have U:=(mem_filter.1 aj).2;have ak:j<c.size:=by have:=E j r;omega
     simp[Array.getD_eq_getD_getElem?,ak]at W U;rw[W]at U;cases U
    ·exact h4) H
   simp only[uA,p]at ac;have aa:(range ops.size).filter (λk=>!(c.setIfInBounds i true).getD k true)=Z++F:=by
    have hf:∀k,(!(c.setIfInBounds i true).getD k true)=((!c.getD k true)&&decide (k≠i)):=by
     intro k;simp only[Array.getD_eq_getD_getElem?,Array.getElem?_setIfInBounds];by_cases V:i=k
     ·subst V;simp[s,l]
     ·simp[V,Ne.symm V]
    have:(range ops.size).filter (λk=>!(c.setIfInBounds i true).getD k true)=((range ops.size).filter (λk=>!c.getD k true)).filter (λk=>decide (k≠i)):=by
     rw[filter_filter];refine filter_congr ?_;intro k _;rw[hf k,Bool.and_comm]
    rw[this,Y,pL,filter_cons];simp only[ne_eq,not_true_eq_false,decide_false,Bool.false_eq_true,if_false];rw[filter_eq_self.2 (λj r=>by have:=E j r;simp;omega),filter_eq_self.2 (λj r=>by have:=X j r;simp;omega)]
   refine Vh p h hn L ?_ ac;intro e' lev' own' S' w' a' al ab ah hK;refine ih _ e' lev' own' S' w' a' (by simpa using s) ?_ ?_ ah al ab (by rw[aa];exact hK)
   ·intro k y H W e u t;have B:∀m,c.getD m false=true->(c.setIfInBounds i true).getD m false=true:=by
     intro m hm;simp only[Array.getD_eq_getD_getElem?,Array.getElem?_setIfInBounds]at hm |-
     by_cases ae:i=m
     ·subst ae;simp[s,l]
     ·simpa[ae]using hm
    by_cases ad:i=k
    ·subst ad;exact B _ (R y H e u t)
    ·refine B _ (v k y H ?_ e u t);simpa[Array.getD_eq_getD_getElem?,Array.getElem?_setIfInBounds,ad]using W
   rw[aa];simp at z |-;omega
end
end Go.Abs
namespace Go.Abs
open List

def WZ(t:Bool)(a b:Prop):Prop:=(t=true->a)/\(t=false->b)
def yQ(K:Env->Prop)(Q:Exit->Env->Prop):Exit->Env->Prop
 | .normal,e=>K e
 |x,e=>Q x e
def uf(id:Nat)(Q:Exit->Env->Prop):Exit->Env->Prop
 | .exit id',e=>if id'=id then Q .normal e else Q (.exit id') e
 |x,e=>Q x e
abbrev EL:=List (Nat×D)
def ah{T:Type}(ts os:T->EL)(I:T->Prop)(m:T->Nat)(s:T)(e:Env):Prop:=∃a,I a/\Mv e (ts a) (os a)/\m a<m s
def oC{T:Type}(ts os:T->EL)(I:T->Prop)(m:T->Nat)(s:T)(Q:Exit->Env->Prop):Exit->Env->Prop
 | .normal,e=>ah ts os I m s e
 |x,e=>Q x e
def aG(a:(Exit->Env->Prop)->Env->Prop)(Q:Exit->Env->Prop)(e:Env):Prop:=
 ∃(T:Type)(ts os:T->EL)(I:T->Prop)(m:T->Nat)(s0:T),I s0/\Mv e (ts s0) (os s0)/\∀s,I s->a (oC ts os I m s Q) (uT (ts s) (os s))
def gK(K:Env->Prop)(e:Env):Prop:=K e\/∃ts os,Mv e ts os/\K (uT ts os)
def agr(np:Nat)(ops:Array Oper):Prop:=Dp np ops=true
def falls:Code->Bool
 | .seq a b=>falls a&&falls b
 | .cond _ a b=>falls a||falls b
 | .exit _=>false
 | .ret=>false
 | _=>true
def Qu:Code->Bool
 | .cond _ a b=>falls a&&falls b
 | .block _ (.cond _ a b)=>falls a&&falls b
 | .block _ (.loop _)=>true
 | _=>false

def qc(P:Program)(n np:Nat):Code->(Exit->Env->Prop)->Env->Prop
 | .skip,Q,e=>Q .normal e
 | .region _ ops draw,Q,e=>if draw then agr np ops/\rS P n np ops.toList ops.toList e (Q .normal)else wpList P n ops.toList ops.toList e (Q .normal)
 | .seq a b,Q,e=>qc P n np a (yQ (if Qu a then gK (qc P n np b Q)else qc P n np b Q) Q) e
 | .cond c a b,Q,e=>match rd e c with
  | .bool t=>WZ t (qc P n np a Q e) (qc P n np b Q e)
  | _=>False
 | .block id a,Q,e=>qc P n np a (uf id Q) e
 | .loop a,Q,e=>aG (qc P n np a) Q e
 | .exit id,Q,e=>Q (.exit id) e
 | .ret,Q,e=>Q .ret e
 | .rangeFunc _ _ _ _,_,_=>False
 | .scope _,_,_=>False
 | .label _,_,_=>False
 | .goto _,_,_=>False
 | .refuse _,_,_=>False

variable{c:Code}{d:D}{rs:List ResultVar}{hs' hs ds:List D}{Φ:List D->D->Prop}{fn:Func}{f:FuncId}{g:Exit->Env->Prop}
section
variable{P:Program}{n np:Nat}{w0 w w':World}{l0:Nat->Option Nat}{G:Nat->Option (Nat×Nat)}{S0:Nat->Option Value}{lev lev' own own':Nat->Option Nat}{S S':Nat->Option Value}{env env':Env}{tm tm':Nat->Value}

def aaz{Q:Exit->Act->World->Prop}{a:Act}{w:World}{S:Type}(I:S->Act->World->Prop)(m:S->Nat)(s0:S)(D:I s0 a w)
  (o:∀s a w,I s a w->c.wp P (Exit.then (λp w'=>∃t,I t p w'/\m t<m s) Q) a w):(Code.loop c).wp P Q a w:=by
 intro b k cs;have key:∀n s a w,m s=n->I s a w ->
   ∃e p w',Q e p w'/\Arrives P (lone (b.at a (.code c::.inLoop c::k)) cs w) b k cs e p w':=by
  intro n;induction n using Nat.strongRecOn with
  | _ n ih =>
   intro s a w C B;obtain⟨e,q,r,i,h⟩:=o s a w B b (.inLoop c::k) cs;cases e with
   |normal =>
    obtain⟨t,u,v⟩:=i;obtain⟨A,z,E,y,j⟩:=ih (m t) (C ▸ v) t q r rfl u;exact⟨A,z,E,y,.of_steps (Steps.trans h (.one step_inLoop)) j⟩
   |exit id=>exact⟨_,q,r,i,.pass (x:=.inLoop c) rfl (λ_ _=>.inl (by simp)) h⟩
   |goto l=>exact⟨_,q,r,i,.pass (x:=.inLoop c) rfl (λ_ _=>.inl (by simp)) h⟩
   |ret=>exact⟨_,q,r,i,.pass (x:=.inLoop c) rfl (λ_ _=>.inl (by simp)) h⟩
   |panic ch=>exact⟨_,q,r,i,.pass (x:=.inLoop c) rfl (λ_ _=>.inl (by simp)) h⟩
   |outgrown=>exact⟨_,q,r,i,.pass (x:=.inLoop c) rfl (λ_ _=>.inl (by simp)) h⟩
 obtain⟨e,p,w',i,h⟩:=key _ s0 a w rfl D;exact⟨e,p,w',i,.of_steps (.one step_loop) h⟩

theorem aaw(hm:P.follows .mixedOrders=true):∀(c:Code)(u:Exit->Env->Prop)(Q:Exit->Act->World->Prop)(env:Env) lev own S w (a:Act),Inv w0 l0 G S0 w lev own S env (oY a.tmps)->a.tmps.size=n->a.defers=[] ->
  (∀x,Cont n w0 l0 G S0 (u x) (Q x))->qc P n np c u env->c.wp P Q a w:=by
 intro c;induction c with
 |skip=>intro u Q env lev own S w a h p o j b;exact wp_skip (j .normal _ _ _ _ _ a p o h b)
 |region id ops J =>
  intro u Q env lev own S w a h p o j b;unfold qc at b;cases J with
  |false =>
   simp only[Bool.false_eq_true,if_false]at b;refine wp_region ?_;have:=FR (P:=P) (ops:=ops) (Q:=Q) (j .normal) ops.toList 0 rfl env lev own S w a h p o b;rw[<-range_eq_range']at this;simpa using this
  |true =>
   simp only[if_true]at b;refine wp_region_any hm ?_;have W:(range ops.size).filter (λi=>!(Array.replicate ops.size false).getD i true)=range ops.size:=by
    rw[filter_eq_self];intro i C;have:=mem_range.1 C;simp[Array.getD_eq_getD_getElem?,Array.getElem?_replicate,this]
   refine adE (np:=np) b.1 (j .normal) ops.size _ env lev own S _ a (by simp) (by intro k y _ O;simp[Array.getD_eq_getD_getElem?,Array.getElem?_replicate]at O;split at O<;>simp at O) (by rw[W];simp) h.drew p o ?_;rw[W];have:=FQ ops.toList 0 env (u .normal) rfl b.2;rw[<-range_eq_range']at this;simpa using this
 |seq x y ihx ihy =>
  intro u Q env lev own S w a h p o j b;refine wp_seq (ihx _ _ env lev own S w a h p o ?_ b);intro e;cases e<;>try exact j _
  intro H lev' own' S' w' E r q C v;simp only[yQ]at v;split at v
  ·rcases v with v| ⟨ts,os,z,v⟩
   ·exact ihy _ _ H lev' own' S' w' E C r q j v
   ·obtain⟨rh,z⟩:=z.le;obtain⟨B,M,hi2⟩:=C.le z;exact ihy _ _ _ lev' B M w' E hi2 r q j v
  ·exact ihy _ _ H lev' own' S' w' E C r q j v
 |cond c x y ihx ihy =>
  intro u Q env lev own S w a h p o j b;unfold qc at b;have K:=h.yR a rfl c;cases hx:rd env c<;>rw[hx]at b K<;>try exact b.elim
  rename_i t;refine wp_cond_split K.og ?_ ?_
  ·intro U;exact ihx _ _ env lev own S w a h p o j (b.1 U)
  ·intro U;exact ihy _ _ env lev own S w a h p o j (b.2 U)
 |block id x ih =>
  intro u Q env lev own S w a h p o j b;refine wp_block (ih _ _ env lev own S w a h p o ?_ b);intro e;cases e<;>try exact j _
  rename_i V;intro H lev' own' S' w' E r q C v;simp only[Exit.inBlock,uf]at v |-;split
  ·rename_i F;rw[au F]at v;exact j .normal H lev' own' S' w' E r q C v
  ·rename_i F;rw[aq F]at v;exact j (.exit V) H lev' own' S' w' E r q C v
 |loop x ih =>
  intro u Q env lev own S w a h p o j b;obtain⟨T,ts,os,I,m,s0,hI,z,D⟩:=b;obtain⟨rh,z⟩:=z.le;obtain⟨L,X,Y⟩:=h.le z;refine aaz (λs a w=>I s/\a.tmps.size=n/\a.defers=[]/\∃lev own S,Inv w0 l0 G S0 w lev own S (uT (ts s) (os s)) (oY a.tmps)) m s0 ⟨hI,p,o,lev,L,X,Y⟩ ?_;rintro s a w ⟨hs,p,o,lev,own,S,C⟩;refine ih _ _ _ lev own S w a C p o ?_ (D s hs);intro e;cases e<;>try exact j _
  intro H lev' own' S' w' E r q N v;obtain⟨s',hs',A,R⟩:=v;obtain⟨rh',A⟩:=A.le;obtain⟨B,M,Z⟩:=N.le A;exact⟨s',⟨hs',r,q,lev',B,M,Z⟩,R⟩
 |exit id=>intro u Q env lev own S w a h p o j b;exact wp_exit (j (.exit id) _ _ _ _ _ a p o h b)
 |ret=>intro u Q env lev own S w a h p o j b;exact wp_ret (j .ret _ _ _ _ _ a p o h b)
 |rangeFunc f ps x y ih1 ih2=>intro u Q env lev own S w a h p o j b;exact b.elim
 |scope x ih=>intro u Q env lev own S w a h p o j b;exact b.elim
 |label l=>intro u Q env lev own S w a h p o j b;exact b.elim
 |goto l=>intro u Q env lev own S w a h p o j b;exact b.elim
 |refuse s=>intro u Q env lev own S w a h p o j b;exact b.elim

def Yf:Nat->List D->EL
 | _,[]=>[]
 |k,d::ds=>(k,d)::Yf (k+1) ds
def vT:Nat->List D->EL
 | _,[]=>[]
 |k,d::ds=>if gz d then vT (k+1) ds else(k,d)::vT (k+1) ds
theorem U5:∀(ds:List D)(k i:Nat),look (Yf k ds) i=if k<=i then ds.getD (i-k) .undef else .undef
 | [],k,i=>by simp[Yf,look]
 |d::ds,k,i=>by
  simp only[Yf,look];rw[U5 ds (k+1) i];by_cases h:i=k
  ·subst h;simp
  ·by_cases a:k<=i
   ·have b:i-k=(i-(k+1))+1:=by omega
    rw[aq h,au (by omega),au a,b];simp
   ·rw[aq h,aq (by omega),aq a]
theorem rC:∀(ds:List D)(k i:Nat),look (vT k ds) i=if k<=i then ds.getD (i-k) .undef else .undef
 | [],k,i=>by simp[vT,look]
 |d::ds,k,i=>by
  simp only[vT];have j:=rC ds (k+1) i;by_cases e:gz d=true
  ·rw[au e,j];have:=Bk.1 e;subst this;by_cases h:i=k
   ·subst h;rw[aq (by omega)];simp
   ·by_cases a:k<=i
    ·have b:i-k=(i-(k+1))+1:=by omega
     rw[au (by omega),au a,b];simp
    ·rw[aq (by omega),aq a]
  ·rw[aq e];simp only[look];rw[j];by_cases h:i=k
   ·subst h;simp
   ·by_cases a:k<=i
    ·have b:i-k=(i-(k+1))+1:=by omega
     rw[aq h,au (by omega),au a,b];simp
    ·rw[aq h,aq (by omega),aq a]

def LA(P:Program)(e:Env):ResultVar->D
 | .tmp t=>e.t t
 | .cell a t=>match jx P t with
  |some l=>ldV e l (e.t a)
  |none=>.undef
def Lz(P:Program)(e:Env):ResultVar->Prop
 | .tmp _=>True
 | .cell a t=>match jx P t with
  |some l=>QB e l (e.t a)
  |none=>False
def Nq(P:Program)(e:Env)(rs:List ResultVar):D:=
 match rs with
 | [r]=>LA P e r
 |rs=>.bD (rs.map (LA P e))
def DL(P:Program)(e:Env):List ResultVar->Prop
 | []=>True
 |r::rs=>Lz P e r/\DL P e rs
def DM(v:D)(e:Env):Env:=⟨λj=>if j=0 then v else .undef,e.o⟩
def Vr(P:Program)(rs:List ResultVar)(m:Nat)(hs':List D)(d:D)(e:Env):Prop:=DL P e rs/\Norm (Nq P e rs) λv=>LeM m (DM v e) [(0,d)] (vT 0 hs')
def Wt(P:Program)(rs:List ResultVar)(m:Nat)(hs':List D)(d:D):Exit->Env->Prop
 | .normal,e=>Vr P rs m hs' d e
 | .ret,e=>Vr P rs m hs' d e
 | _,_=>False

theorem afH{tmps:Array Value}(h:Inv w0 l0 G S0 w lev own S env (oY tmps))(r:ResultVar)(hr:Lz P env r) :
  ∃v,(match r with| .tmp t=>pure (tmps.getD t Go.undef)| .cell a t=>do loadVar t (<-asAddr (tmps.getD a Go.undef)):Sem Value).run P w=.ok v w/\aO (cx w lev S) v (LA P env r):=by
 cases r with
 |tmp t=>exact⟨tmps.getD t Go.undef,rfl,h.rP t⟩
 |cell a t =>
  simp only[Lz]at hr;cases m:jx P t with
  |none=>rw[m]at hr;exact hr.elim
  |some l =>
   rw[m]at hr;simp only at hr;obtain⟨u,b,p⟩:=abX (P:=P) h m (h.rP a) hr;have j:∃i,oY tmps a=.pointer (some i):=by
    have k:=h.rP a;generalize oY tmps a=v at k;cases q:env.t a<;>rw[q]at hr k<;>simp only[QB]at hr
    ·obtain⟨i,e,_⟩:=k.sJ;exact⟨i,e⟩
    ·obtain⟨i,_,e⟩:=k.ng;exact⟨_,e⟩
    ·obtain⟨i,_,_,_,e⟩:=k.oQ;exact⟨_,e⟩
   obtain⟨i,e⟩:=j;refine⟨u,?_,by simp only[LA,m];exact p⟩;have o:tmps.getD a Go.undef=.pointer (some i):=e;rw[e]at b;simp only[o];simpa[Instr.loadAt,Sem.run_bind,asAddr,Instr.sureAddr,Sem.run,pure]using b

def Vs(P:Program)(rs:List ResultVar)(m:Nat)(Φ:List D->D->Prop)(e:Env):Prop:=∃hs' d,Φ hs' d/\Vr P rs m hs' d e
def apZ(P:Program)(rs:List ResultVar)(m:Nat)(Φ:List D->D->Prop):Exit->Env->Prop
 | .normal,e=>Vs P rs m Φ e
 | .ret,e=>Vs P rs m Φ e
 | _,_=>False
theorem ZT{m:Nat}:∀(x:Exit)(e:Env),Wt P rs m hs' d x e->apZ P rs m (λa b=>a=hs'/\b=d) x e
 | .normal,_,h=>⟨hs',d,⟨rfl,rfl⟩,h⟩
 | .ret,_,h=>⟨hs',d,⟨rfl,rfl⟩,h⟩
 | .exit _,_,h=>h
 | .goto _,_,h=>h
 | .panic _,_,h=>h
 | .outgrown,_,h=>h
theorem Eg.of_wp (hm : P.follows .mixedOrders = true) (hf : P.funcs[f]? = some fn) (hb : fn.body = some c) (hname : (fn.name == "runtime.NumGoroutine") = false) (hQ : ∀ x e, g x e -> apZ P fn.results.toList hs.length Φ x e)
  (hlen:ds.length<=fn.ntmps) (h16:hs.length<=16) (hw:qc P fn.ntmps ds.length c g (uT (Yf 0 ds) (vT 0 hs))):Eg P f hs ds Φ:=by
 refine⟨⟨fn,hf,by rw[hb];rfl,hname⟩,?_⟩;intro w l0 G0 own0 S0 vs hT hl0 hG hsz hr hobj
 let tmps:=vs++Array.replicate (fn.ntmps-vs.size) Go.undef
 have htm:∀i,oY tmps i=vs.getD i Go.undef:=by
  intro i;simp only[oY,tmps,Array.getD_eq_getD_getElem?,Array.getElem?_append];by_cases h:i<vs.size
  ·simp[h]
  ·simp[h,Array.getElem?_replicate];split<;>rfl
 have hinv:Inv w l0 G0 S0 w l0 own0 S0 (uT (Yf 0 ds) (vT 0 hs)) (oY tmps):=by
  refine⟨⟨rfl,hT⟩,rfl,rfl,fO _,λ_ _ _=>rfl,hG,hl0,λ_ _ _=>rfl,λ_ _ _=>rfl,?_,?_⟩
  ·intro s;show aO _ _ (look (Yf 0 ds) s);rw[U5,htm];simp only[Nat.zero_le,if_true,Nat.sub_zero];by_cases h:s<ds.length
   ·have e:ds.getD s .undef=ds[s]:=by simp[getD,h]
    have e2:vs.getD s Go.undef=vs[s]:=by simp[Array.getD,show s<vs.size by omega]
    rw[e,e2];exact hr s _ _ (by simp[show s<vs.size by omega]) (gF h)
   ·have e:ds.getD s .undef=.undef:=by simp[getD,h]
    rw[e];exact .undef _
  ·intro r;show n8 _ _ _ _ _ _ r (look (vT 0 hs) r);rw[rC];simp only[Nat.zero_le,if_true,Nat.sub_zero];exact hobj r
 have htmn:tmps.size=fn.ntmps:=by simp[tmps];omega
 refine calls_of_wp hf hb ?_;refine aaw hm c g _ _ l0 own0 S0 w ⟨tmps,[]⟩ hinv htmn rfl ?_ hw;have fin:∀(e':Env) lev' own' S' w' (a':Act),a'.tmps.size=fn.ntmps->a'.defers=[]->Inv w l0 G0 S0 w' lev' own' S' e' (oY a'.tmps)->Vs P fn.results.toList hs.length Φ e' ->
   a'.defers=[]/\∃v,(results fn a'.tmps).run P w'=.ok v w'/\∃v' hs' d,Φ hs' d/\Ending.returned v=.returned v'/\Out hs.length hs' w l0 G0 S0 w' v' d:=by
  intro e' lev' own' S' w' a' hn' hd' hi ⟨hs',d,hΦ,hok,hle⟩;refine⟨hd',?_⟩;have hres:∀(rs:List ResultVar),DL P e' rs->∀acc:Array Value,∃us:List Value,
    (rs.foldlM (λ(acc:Array Value) r=>do pure (acc.push (<-(match r with| .tmp t=>pure (a'.tmps.getD t Go.undef)| .cell a t=>do loadVar t (<-asAddr (a'.tmps.getD a Go.undef)):Sem Value)))) acc:Sem (Array Value)).run P w'=.ok (acc++us.toArray) w' /\
    us.length=rs.length/\∀(i:Nat) u r,us[i]?=some u->rs[i]?=some r->aO (cx w' lev' S') u (LA P e' r):=by
   intro rs;induction rs with
   |nil=>intro _ acc;exact⟨[],by simp[Sem.run,pure],rfl,by intro i u r h;simp at h⟩
   |cons r rs ih =>
    intro hok acc;obtain⟨v,hv,hrep⟩:=afH hi r hok.1;obtain⟨us,h1,h2,h3⟩:=ih hok.2 (acc.push v);refine⟨v::us,?_,by simp[h2],?_⟩
    ·rw[foldlM_cons];simp only[Sem.run_bind,hv,Result.andThen_ok];have:(pure (acc.push v):Sem (Array Value)).run P w'=.ok (acc.push v) w':=rfl;rw[this];simp only[Result.andThen_ok];rw[h1];simp
    ·intro i u r' hu hr';cases i with
     |zero=>simp at hu hr';subst hu;subst hr';exact hrep
     |succ i=>simp at hu hr';exact h3 i u r' hu hr'
  obtain⟨us,hrun,hul,hrep⟩:=hres fn.results.toList hok #[];have hrun':(results fn a'.tmps).run P w'=.ok (if h:us.toArray.size=1 then us.toArray[0]else .tuple us.toArray) w':=by
   unfold results;rw[Array.mapM_eq_foldlM];rw[<-Array.foldlM_toList];simp only[Sem.run_bind];have:(fn.results.toList.foldlM (λ(acc:Array Value) r=>do pure (acc.push (<-(match r with| .tmp t=>pure (a'.tmps.getD t Go.undef)| .cell a t=>do loadVar t (<-asAddr (a'.tmps.getD a Go.undef)):Sem Value)))) #[]:Sem (Array Value)).run P w'=.ok (#[]++us.toArray) w':=hrun;simp only[Array.empty_append]at this;have h2:=this;simp only[bind_pure_comp]at h2 |-;exact congrArg (λr=>Result.andThen r λ(a:Array Value) w'=>Sem.run P (pure (if h:a.size=1 then a[0]else Value.tuple a)) w') h2
  refine⟨_,hrun',_,hs',d,hΦ,rfl,?_⟩;have hrd:aO (cx w' lev' S') (if h:us.toArray.size=1 then us.toArray[0]else .tuple us.toArray) (Nq P e' fn.results.toList):=by
   rcases Classical.em (∃r,fn.results.toList=[r])with⟨r,hrs⟩|hne
   ·rw[hrs]at hul hrep |-;obtain⟨u,rfl⟩:=length_eq_one_iff.1 hul;simpa[Nq]using hrep 0 u r rfl rfl
   ·have hrd:Nq P e' fn.results.toList=.bD (fn.results.toList.map (LA P e')):=by
     unfold Nq;split
     ·rename_i r hrs;exact(hne ⟨r,hrs⟩).elim
     ·rfl
    rw[hrd];have hsz:us.toArray.size≠1:=by
     intro h;have h1:fn.results.toList.length=1:=by rw[<-hul];simpa using h
     match hx:fn.results.toList,h1 with
     | [r],_=>exact hne ⟨r,hx⟩
    rw[dif_neg hsz];refine .bD _ _ (by simp[hul]) ?_;intro i v x hv hx;simp only[getElem?_map]at hx;cases hri:fn.results.toList[i]? with
    |none=>rw[hri]at hx;cases hx
    |some r =>
     rw[hri]at hx;cases hx;exact hrep i v r (by simpa using hv) hri
  generalize (if h:us.toArray.size=1 then us.toArray[0]else .tuple us.toArray)=rv at hrd;have hret:Inv w l0 G0 S0 w' lev' own' S' (DM (Nq P e' fn.results.toList) e') (λj=>if j=0 then rv else Go.undef):=by
   refine⟨hi.os,hi.tape,hi.output,hi.size,hi.old,hi.part,hi.priv,hi.mT,hi.VH,?_,hi.objs⟩;intro s;simp only[DM];split
   ·exact hrd
   ·exact .undef _
  obtain⟨rh,hle'⟩:=LeM.le hle;obtain⟨own2,S2,h2ent,h2temps,h2objs⟩:=hret.ao8 h16 hle';refine⟨hi.os.1,hi.tape,hi.output,hi.size,λb hb hg=>hi.old b hb hg,hi.part,lev',own2,S2,hi.priv,λb hb hg=>hi.mT b hb hg,?_,?_,?_⟩
  ·have:=h2temps 0;simpa[uT,look]using this
  ·intro r;have:=h2objs r;have e:(uT [(0,d)] (vT 0 hs')).o r=hs'.getD r .undef:=by
    show look (vT 0 hs') r=_;rw[rC];simp
   rw[e]at this;exact this
  ·intro i hi' hne;refine h2ent i (by omega) ?_;show look (vT 0 hs') i≠.undef;rw[rC];simpa using hne
 intro x;cases x with
 |normal=>intro e' lev' own' S' w' a' hn' hd' hi hK;exact fin e' lev' own' S' w' a' hn' hd' hi (hQ _ _ hK)
 |ret=>intro e' lev' own' S' w' a' hn' hd' hi hK;exact fin e' lev' own' S' w' a' hn' hd' hi (hQ _ _ hK)
 | _=>intro e' lev' own' S' w' a' hn' hd' hi hK;exact(hQ _ _ hK).elim
def Eg.spec(h:Eg P f hs ds λa b=>a=hs'/\b=d):Spec P f hs ds hs' d:=by
 refine⟨h.1,?_⟩;intro w l0 j i S0 vs k l m o p q;refine(h.2 w l0 j i S0 vs k l m o p q).mono ?_;rintro e w' ⟨v,_,_,⟨rfl,rfl⟩,he,ho⟩;exact⟨v,he,ho⟩
def Spec.toE(h:Spec P f hs ds hs' d)(p:Φ hs' d):Eg P f hs ds Φ:=by
 refine⟨h.1,?_⟩;intro w l0 b a S0 vs i j k l m o;refine(h.2 w l0 b a S0 vs i j k l m o).mono ?_;rintro e w' ⟨v,he,ho⟩;exact⟨v,hs',d,p,he,ho⟩
def Spec.of_wp (hm : P.follows .mixedOrders = true) {f : FuncId} {fn : Func} {c : Code} (hf : P.funcs[f]? = some fn) (hb : fn.body = some c) (hname : (fn.name == "runtime.NumGoroutine") = false) {hs ds hs' : List D} {d : D}
  (hlen:ds.length<=fn.ntmps) (h16:hs.length<=16) (hw:qc P fn.ntmps ds.length c (Wt P fn.results.toList hs.length hs' d) (uT (Yf 0 ds) (vT 0 hs))):Spec P f hs ds hs' d:=
 Eg.spec (Eg.of_wp hm hf hb hname ZT hlen h16 hw)
def Spec.yN (hm : P.follows .mixedOrders = true) {n np : Nat} (hf : P.funcs[f]? = some fn) (hb : fn.body = some c) (hr : fn.results.toList = rs) (hn : fn.ntmps = n) (hname : (fn.name == "runtime.NumGoroutine") = false)
  (hnp:ds.length=np) (hlen:np<=n) (h16:hs.length<=16) (hw:qc P n np c (Wt P rs hs.length hs' d) (uT (Yf 0 ds) (vT 0 hs))):Abs.Spec P f hs ds hs' d:=by
 subst hr;subst hn;subst hnp;exact Spec.of_wp hm hf hb hname hlen h16 hw
def aX(n np:Nat)(rs:List ResultVar)(hm:P.follows .mixedOrders=true)(hf:P.funcs[f]?=some fn)(hw:qc P n np c (Wt P rs hs.length hs' d) (uT (Yf 0 ds) (vT 0 hs)))
  (hb : fn.body = some c := by exact rfl) (hr : fn.results.toList = rs := by exact rfl) (hn : fn.ntmps = n := by exact rfl) (hname : (fn.name == "runtime.NumGoroutine") = false := by exact rfl) (hnp : ds.length = np := by exact rfl) (hlen : np <= n := by simp) (h16 : hs.length <= 16 := by simp) : Abs.Spec P f hs ds hs' d :=
 Spec.yN hm hf hb hr hn hname hnp hlen h16 hw
end
end Go.Abs
namespace Go.Abs
variable{K:Env->Prop}{T:Type}{Q a:Exit->Env->Prop}{b:Nat}
section
variable{P:Program}{n np:Nat}{e:Env}{K K':Env->Prop}
theorem HP(ops:List Oper):∀(l:List Oper) {e:Env} {K K':Env->Prop},(∀e,K e->K' e)->wpList P n ops l e K->wpList P n ops l e K'
 | [],e,K,K',h,hk=>h _ hk
 |o::r,e,K,K',h,hk=>by
  simp only[wpList,wpOp]at hk |-;cases c:vn ops e o.guard with
  |none=>rw[c]at hk;exact hk.elim
  |some g=>rw[c]at hk;exact vF (λe d=>HP ops r h d) hk
theorem mZ(ops:List Oper):∀(l:List Oper) {e:Env} {K K':Env->Prop},(∀e,K e->K' e)->rS P n np ops l e K->rS P n np ops l e K'
 | [],e,K,K',h,hk=>h _ hk
 |o::r,e,K,K',h,hk=>by
  simp only[rS,gZ]at hk |-;cases k:vn ops e o.guard with
  |none=>rw[k]at hk;exact hk.elim
  |some g =>
   rw[k]at hk;simp only at hk |-;split at hk
   ·rename_i j;rw[au j];exact LY (λe c=>mZ ops r h c) hk
   rename_i j;rw[aq j];split at hk
   ·rename_i i;rw[au i];split at hk
    ·rename_i f;rw[au f];split at hk
     ·rename_i d;rw[au d];exact vF (λe c=>mZ ops r h c) hk
     ·rename_i d;rw[aq d];exact⟨F7 (λe c=>mZ ops r h c) hk.1,hk.2⟩
    ·rename_i f;rw[aq f];split at hk
     ·rename_i d;rw[au d];exact Pa (λe c=>mZ ops r h c) hk
     ·rename_i d;rw[aq d];exact vF (λe c=>mZ ops r h c) hk
   ·rename_i i;rw[aq i];exact⟨⟨hk.1.1,vF (λe c=>mZ ops r h c) hk.1.2⟩,hk.2⟩
def Vt(h:∀e,K e->K' e)(c:gK K e):gK K' e:=by
 rcases c with c| ⟨ts,os,hl,c⟩
 ·exact .inl (h _ c)
 ·exact .inr ⟨ts,os,hl,h _ c⟩
theorem adF:∀(c:Code) {e:Env} {Q i:Exit->Env->Prop},(∀x e,Q x e->i x e)->qc P n np c Q e->qc P n np c i e:=by
 intro c;induction c with
 |skip=>intro e Q i h d;exact h _ _ d
 |region id ops k =>
  intro e Q i h d;unfold qc at d |-;cases k with
  |false=>simp only[Bool.false_eq_true,if_false]at d |-;exact HP _ _ (h _) d
  |true=>simp only[if_true]at d |-;exact⟨d.1,mZ _ _ (h _) d.2⟩
 |seq a b iha ihb =>
  intro e Q i h d;refine iha ?_ d;intro x e g;cases x<;>try exact h _ _ g
  simp only[yQ]at g |-
  by_cases o:Qu a=true
  ·rw[au o]at g |-;exact Vt (λe u=>ihb h u) g
  ·rw[aq o]at g |-;exact ihb h g
 |cond c a b iha ihb =>
  intro e Q i h d;unfold qc at d |-;split at d
  ·exact⟨λt=>iha h (d.1 t),λt=>ihb h (d.2 t)⟩
  ·exact d.elim
 |block id a ih =>
  intro e Q i h d;refine ih ?_ d;intro x e g;cases x<;>try exact h _ _ g
  simp only[uf]at g |-;split
  ·rename_i j;rw[au j]at g;exact h _ _ g
  ·rename_i j;rw[aq j]at g;exact h _ _ g
 |loop a ih =>
  intro e Q i h d;obtain⟨T,ts,os,I,m,s0,p,q,r⟩:=d;refine⟨T,ts,os,I,m,s0,p,q,λs v=>ih ?_ (r s v)⟩;intro x e g;cases x<;>first|exact g|exact h _ _ g
 |exit id=>intro e Q i h d;exact h _ _ d
 |ret=>intro e Q i h d;exact h _ _ d
 |rangeFunc f ps x y ih1 ih2=>intro e Q i h d;exact d.elim
 |scope x ih=>intro e Q i h d;exact d.elim
 |label l=>intro e Q i h d;exact d.elim
 |goto l=>intro e Q i h d;exact d.elim
 |refuse s=>intro e Q i h d;exact d.elim

def RU{T:Type}(ts os:T->EL)(I:T->Prop)(e:Env):Prop:=∃s,I s/\Mv e (ts s) (os s)
def RU.weak{ts os:T->EL}{I:T->Prop}(h:∀s,I s->K (uT (ts s) (os s)))(e:Env)(c:RU ts os I e):gK K e:=by
 obtain⟨s,f,d⟩:=c;exact .inr ⟨ts s,os s,d,h s f⟩
def aG.mono{b:Code}(h:∀x e,Q x e->a x e)(i:aG (qc P n np b) Q e):aG (qc P n np b) a e:=by
 obtain⟨T,ts,os,I,m,s0,d,f,g⟩:=i;refine⟨T,ts,os,I,m,s0,d,f,λs j=>adF b ?_ (g s j)⟩;intro x e c;cases x<;>first|exact c|exact h _ _ c
def aet{c:Code}(ts os:T->EL)(I:T->Prop)(rest:∀s,I s->K (uT (ts s) (os s)))(i:aG (qc P n np c) (uf b (yQ (RU ts os I) Q)) e):aG (qc P n np c) (uf b (yQ (gK K) Q)) e:=by
 refine aG.mono ?_ i;intro x e f;have g:yQ (RU ts os I) Q .normal e->yQ (gK K) Q .normal e:=λh=>RU.weak rest e h;cases x<;>try exact f
 ·exact g f
 ·simp only[uf]at f |-;split
  ·rename_i d;rw[au d]at f;exact g f
  ·rename_i d;rw[aq d]at f;exact f
end
end Go.Abs
namespace Go.Abs

variable(b w p a:Bool){α:Type}(n r z i k f N d m z' sz off by_ z2 b2 r' q:Nat){v' x' y' a' lo' ob' fv' fv:D}{np G:Nat}{b' g j:Bool}{A:Prop}(S:Prop)(o:Oper)(ops:List Oper)(op:Op)(dst:Option Tmp)(gu:Option (Nat×Bool))(s:ByteArray)(cs hs' ds zc:List D)(rows rows2:List (List D))(x y c:Operand)(t T2:TypeId)(h:UnOp)(C:BinOp){F:Option Nat}(T:Array TypeId)(Q:Exit->Env->Prop)(os:Array Oper){e e':Env}{H:Code}(K:Env->Prop)(rs:List ResultVar)(Φ:List D->D->Prop){I:Option Bool}{J:Option Tmp}{L U:List Nat}(args:Array Operand)(ob:D)(fs:List FT){t' Z t2':Ty}{l':Option HR}(l:HR){hi' hi:Option D}(M:Array (Nat×Operand))(ps:List (Nat×D)){O:Option (List D)}{as as':List D}{R:List (Nat×Nat×D)}(W:IntKind){X Y:Option (List (List D))}(g9:Ty)(i7:Option Operand)
section
variable{P:Program}{n np:Nat}{ops:List Oper}{e:Env}{g dr:Bool}{K:Env->Prop}{ty:TypeId}{pos:String}{after:Array Edge}{gu:Option (Nat×Bool)}{d:Nat}

def bm(b:Bool):Bool:=b
def em(e:Env):Env:=e
def dm(d:D):D:=d
def lm{α:Type}(l:List α):List α:=l
def nk(n:Nat):Nat:=n
theorem avd:bm b=b:=Eq.trans rfl rfl
theorem avj(e:Env):em e=e:=Eq.trans rfl rfl
theorem avi(d:D):dm d=d:=Eq.trans rfl rfl
theorem avS(l:List α):lm l=l:=Eq.trans rfl rfl
theorem avX:nk n=n:=Eq.trans rfl rfl
@[congr] theorem ah9{v:D}{k:D->Prop}(h:True->v=v'):Norm v k=Norm v' k:=by rw[h trivial]
theorem aqR(v:D)(k:D->Prop):Norm v k=k v:=rfl
def xM(r:Nat)(k:Nat->Prop):Prop:=k r
@[congr] theorem agx{v:Nat}{k:Nat->Prop}(h:True->v=np):xM v k=xM np k:=by rw[h trivial]
theorem anY(v:Nat)(k:Nat->Prop):xM v k=k v:=rfl

def uK(e:Env)(d:Nat)(K:Env->Prop)(u:D):Prop:=K (cQ e d u)
def lK(P:Program)(n:Nat)(ops r:List Oper)(K:Env->Prop)(e:Env):Prop:=wpList P n ops r e K
def lKD(P:Program)(n np:Nat)(ops r:List Oper)(K:Env->Prop)(e:Env):Prop:=rS P n np ops r e K
def oK(P:Program)(n:Nat)(o:Oper)(e:Env)(K:Env->Prop)(g:Bool):Prop:=nW P n false o e g K
def HD(b:Bool)(x y:Prop):Prop:=if b then x else y
@[congr] theorem anT{b:Bool}{x:Prop}(h:True->b=b'):HD b x A=HD b' x A:=by rw[h trivial]
theorem aqP(x:Prop):HD true x S=x:=by simp[HD]
def anU(x:Prop):HD false x S=S:=by simp[HD]
attribute [go_sem] avd avj avi avS avX aqR anY
attribute [go_sem ↓] aqP anU
attribute [go_sem] abD hard isApp sl1 ap8 HK Ki uo K3 E7 E9 ake rq isT ajK aip ahc ac9 nC Option.isSome_some Option.isSome_none Option.isNone_some Option.isNone_none
theorem ap7(t:Nat):ac6 t []=false:=rfl
theorem ang(t:Nat)(r:List Oper):ac6 t (o::r)=((sl1 o.op&&o.dst==some t)||ac6 t r):=rfl
theorem amz(t:Nat):Tw t []=false:=rfl
theorem ajL(t:Nat)(r:List Oper):Tw t (o::r)=((ajK o.op&&(o.guard.isNone&&o.dst==some t))||Tw t r):=rfl
theorem alh(t:Nat):R6 t []=false:=rfl
theorem aiq(t:Nat)(r:List Oper):R6 t (o::r)=(aip t o.op||R6 t r):=rfl
theorem aqe(a b:Nat):(some a==some b)=(a==b):=rfl
theorem api(b:Nat):((none:Option Nat)==some b)=false:=rfl
attribute [go_sem] ap7 ang amz ajL alh aiq aqe api
attribute [go_sem] Tm ae1 Ix
theorem aqn:adz ops []=false:=rfl
theorem anA(r:List Oper):adz ops (o::r)=((isApp o&&(!nC ops o&&frE r))||adz ops r):=rfl
theorem ard:frE []=false:=rfl
theorem aow(r:List Oper):frE (⟨dst,op,ty,pos,#[],gu⟩::r)=true:=rfl
theorem alP(r:List Oper)(x)(l):frE (⟨dst,op,ty,pos,List.toArray (x::l),gu⟩::r)=frE r:=rfl
theorem asC(k:IntKind)(m:Int):FV (.int k m)=true:=rfl
theorem aqj:FV (.bool b)=true:=rfl
theorem asF:FV (.str s)=true:=rfl
theorem asD:FV .nil=true:=rfl
theorem asE:FV (.ref r)=true:=rfl
theorem aqi(o:Nat):FV (.addr r o)=true:=rfl
theorem anw:FV (.dO r z i k)=true:=rfl
theorem anv:FV (.bG cs)=true:=rfl
theorem auB:FV (.sl z rows)=true:=rfl
theorem aqg:RK (.box [])=true:=rfl
theorem ans(c:D):RK (.box (c::cs))=(FV c&&RK (.box cs)):=rfl
theorem ant(o:Nat):aah e (.addr r o)=RK (e.o r):=rfl
theorem aqh:Iw e []=true:=rfl
theorem anu(p:Nat×Operand)(r:List (Nat×Operand)):Iw e (p::r)=(FV (rd e p.2)&&Iw e r):=rfl
theorem aiC:oh e (.move x)=(FV (rd e x)=true):=rfl
theorem aaD:oh e (.fieldAddr t x f)=(FV (rd e x)=true):=rfl
theorem aiB:oh e (.load t x)=(aah e (rd e x)=true):=rfl
theorem aiD:oh e (.unOp h t x)=(FV (rd e x)=true):=rfl
theorem agH:oh e (.binOp C t x y T2)=(FV (rd e x)=true/\FV (rd e y)=true):=rfl
theorem YC(len:Nat)(ps:Array (Nat×Operand)):oh e (.buildSlice t len ps)=(Iw e ps.toList=true):=rfl
def avK(e:Env)(v:D)(N:Nat):Prop:=KJ (e.o N)=true/\KG N v=true
theorem atn(v:D):avK e v N=(KJ (e.o N)=true/\KG N v=true):=rfl
def aa4(e:Env)(v:D)(b:Bool)(d:Option Nat):Prop:=
 match b,d with
 |true,some d=>xM (nm d 0) (avK e v)
 | _,_=>True
theorem alf(v:D):aa4 e v true (some d)=xM (nm d 0) (avK e v):=rfl
def aio(v:D)(d:Option Nat):aa4 e v false d=True:=by cases d<;>rfl
@[congr] theorem ain{v:D}{b:Bool}{d:Option Nat}(u:True->v=v')(B:True->b=b')(E:True->d=F):aa4 e v b d=aa4 e v' b' F:=by rw[u trivial,B trivial,E trivial]
@[congr] theorem alg{v:D}{l:List Oper}(h:True->v=v'):Vv e v l=Vv e v' l:=by rw[h trivial]
theorem aqY(v:D):Vv e v []=True:=rfl
def aoa(v:D)(l:List Oper):Vv e v (o::l)=(aa4 e v (ae1 o.op) o.dst/\Vv e v l):=by
 rw[Vv];congr 1
theorem aj2:KJ .undef=true:=rfl
theorem apm:KJ (.own z rows)=true:=rfl
theorem amN:KG N (.ref r) = !(r==N):=rfl
theorem amM:KG N .emp=true:=rfl
theorem agR:H6 e (.call ⟨.builtin .append,#[x,y],T⟩)=rd e x:=rfl
def oKD(P:Program)(n np:Nat)(ops:List Oper)(o:Oper)(e:Env)(K:Env->Prop)(g:Bool):Prop:=HD (nC ops o) (sw P n np ops o e K) (HD (rq o) (HD (isApp o) (HD (HK ops o.op) (nW P n false o e g K) (sF P n o e g K/\apU ops o e)) (HD (uo o) (CL P n np ops o e g K) (nW P n false o e g K))) (RT P n np ops o e g K/\He ops o e))
theorem awD(u:D):uK e d K u=K (cQ e d u):=rfl
theorem avq(r:List Oper):lK P n ops r K e=wpList P n ops r e K:=rfl
theorem atS(r:List Oper):lKD P n np ops r K e=rS P n np ops r e K:=rfl
theorem av0:oK P n o e K g=nW P n false o e g K:=rfl
def aa3(o:Oper):(sF P n o e g K/\apU ops o e)=HD (Ix ops) (Vv e (H6 e o.op) ops/\sF P n o e g K) (sF P n o e g K):=by
 unfold apU HD;cases Ix ops<;>simp[and_comm]
def aul(p:Nat×Bool):oKD P n np ops ⟨dst,op,ty,pos,after,some p⟩ e K g=HD (nC ops ⟨dst,op,ty,pos,after,some p⟩) (sw P n np ops ⟨dst,op,ty,pos,after,some p⟩ e K) (HD (rq ⟨dst,op,ty,pos,after,some p⟩) (HD (isApp ⟨dst,op,ty,pos,after,some p⟩) (HD (HK ops op) (nW P n false ⟨dst,op,ty,pos,after,some p⟩ e g K) (HD (Ix ops) (Vv e (H6 e op) ops/\sF P n ⟨dst,op,ty,pos,after,some p⟩ e g K) (sF P n ⟨dst,op,ty,pos,after,some p⟩ e g K))) (HD (uo ⟨dst,op,ty,pos,after,some p⟩) (CL P n np ops ⟨dst,op,ty,pos,after,some p⟩ e g K) (nW P n false ⟨dst,op,ty,pos,after,some p⟩ e g K))) (RT P n np ops ⟨dst,op,ty,pos,after,some p⟩ e g K)):=by
 unfold oKD;rw[aa3];have:He ops ⟨dst,op,ty,pos,after,some p⟩ e=True:=eq_true λ_ h=>by cases h
 rw[this,and_true]

def bK(P:Program)(n np:Nat)(a b:Code)(Q:Exit->Env->Prop)(e:Env)(v:D):Prop:=match v with
 | .bool t=>WZ t (qc P n np a Q e) (qc P n np b Q e)
 | _=>False
@[congr] theorem agp{a b:Code}{Q:Exit->Env->Prop}{v:D}(h:True->v=v'):bK P n np a b Q e v=bK P n np a b Q e v':=by rw[h trivial]
theorem ah0(a b:Code):bK P n np a b Q e (.bool true)=qc P n np a Q e:=by simp[bK,WZ]
def agq(a b:Code):bK P n np a b Q e (.bool false)=qc P n np b Q e:=by simp[bK,WZ]
def bK.split{t:Bool}{a b:Code}{Q:Exit->Env->Prop}(u:t=true->qc P n np a Q e)(v:t=false->qc P n np b Q e):bK P n np a b Q e (.bool t):=⟨u,v⟩
def bK.kB{t:Bool}{a b:Code}{Q:Exit->Env->Prop}(u:t=false->qc P n np a Q e)(v:t=true->qc P n np b Q e):bK P n np a b Q e (.bool (!t)):=⟨λh=>u (by simpa using h),λh=>v (by simpa using h)⟩
theorem aqx:qc P n np .skip Q e=Q .normal e:=rfl
def ahM:qc P n np (.region r os false) Q e=wpList P n os.toList os.toList e (Q .normal):=by simp[qc]
def gY(np:Nat)(os:Array Oper):Prop:=agr np os
@[congr] theorem ags{m:Nat}{os:Array Oper}(h:True->m=np):gY m os=gY np os:=by rw[h trivial]
theorem gY.mk{os:Array Oper}(h:Dp np os=true):gY np os:=h
def ahN:qc P n np (.region r os true) Q e=(gY (nk np) os/\rS P n np os.toList os.toList e (Q .normal)):=by simp[qc,gY,nk]
def UF(P:Program)(n np:Nat)(b:Code)(Q:Exit->Env->Prop)(j:Bool):Env->Prop:=if j then gK (qc P n np b Q)else qc P n np b Q
theorem asK(a b:Code):qc P n np (.seq a b) Q e=qc P n np a (yQ (UF P n np b Q (Qu a)) Q) e:=rfl
def Wx(P:Program)(n np:Nat)(b:Code)(Q:Exit->Env->Prop)(e:Env)(j:Bool):Prop:=UF P n np b Q j e
@[congr] theorem akp{b:Code}{Q:Exit->Env->Prop}(h:True->j=g):Wx P n np b Q e j=Wx P n np b Q e g:=by rw[h trivial]
theorem asq(b:Code)(j:Bool):UF P n np b Q j e=Wx P n np b Q e j:=rfl
def aih(b:Code):Wx P n np b Q e true=gK (qc P n np b Q) (em e):=by simp[Wx,UF,em]
def agC(b:Code):Wx P n np b Q e false=qc P n np b Q e:=by simp[Wx,UF]
@[congr] theorem agB{K:Env->Prop}(h:True->e=e'):gK K e=gK K e':=by rw[h trivial]
theorem gK.id(h:K e):gK K e:=.inl h
def gK.le(ts os:EL)(h:Mv e ts os)(u:K (uT ts os)):gK K e:=.inr ⟨ts,os,h,u⟩
attribute [go_sem] aqn anA ard aow alP asC aqj asF asD asE aqi anw anv auB aqg ans ant aqh anu aqY aoa aj2 apm amN amM ah0 agq
attribute [go_sem ↓] aiC aaD aiB aiD agH YC atn alf aio agR awD avq atS av0 aul aqx ahM ahN asK asq aih agC
attribute [go_sem] falls Qu
@[congr] theorem ah1{T:Type}{ts os:T->EL}{I:T->Prop}(h:True->e=e'):RU ts os I e=RU ts os I e':=by rw[h trivial]
theorem Sy{b c:Code}{Q:Exit->Env->Prop}{T:Type}(ts os:T->EL)(I:T->Prop)(u:j=true)(rest:∀s,I s->qc P n np b Q (uT (ts s) (os s)))(v:aG (qc P n np c) (uf G (yQ (RU ts os I) Q)) e) :
  aG (qc P n np c) (uf G (yQ (UF P n np b Q j) Q)) e:=by
 have:UF P n np b Q j=gK (qc P n np b Q):=by simp[UF,u]
 rw[this];exact aet ts os I rest v
theorem aqu(a b:Code):qc P n np (.cond c a b) Q e=bK P n np a b Q e (dm (rd e c)):=rfl
theorem anF(a:Code):qc P n np (.block r a) Q e=qc P n np a (uf r Q) e:=rfl
theorem aqw(a:Code):qc P n np (.loop a) Q e=aG (qc P n np a) Q (em e):=rfl
@[congr] theorem agw{b:(Exit->Env->Prop)->Env->Prop}{Q:Exit->Env->Prop}(h:True->e=e'):aG b Q e=aG b Q e':=by rw[h trivial]
theorem aqv:qc P n np (.exit r) Q e=Q (.exit r) e:=rfl
theorem asJ:qc P n np .ret Q e=Q .ret e:=rfl
theorem af5:yQ K Q .normal e=K e:=rfl
theorem akD:yQ K Q (.exit r) e=Q (.exit r) e:=rfl
theorem anx:yQ K Q .ret e=Q .ret e:=rfl
theorem adG:uf r Q .normal e=Q .normal e:=rfl
theorem agG:uf r Q (.exit z) e=if z=r then Q .normal e else Q (.exit z) e:=rfl
theorem aiy:uf r Q .ret e=Q .ret e:=rfl
theorem ahA(v:D):Wt P rs m hs' v .normal e=Vr P rs m hs' v e:=rfl
theorem apT(v:D):Wt P rs m hs' v .ret e=Vr P rs m hs' v e:=rfl
theorem ahB{T:Type}(ts os:T->EL)(I:T->Prop)(m:T->Nat)(s:T):oC ts os I m s Q (.exit r) e=Q (.exit r) e:=rfl
theorem ako{T:Type}(ts os:T->EL)(I:T->Prop)(m:T->Nat)(s:T):oC ts os I m s Q .ret e=Q .ret e:=rfl
theorem adZ{T:Type}(ts os:T->EL)(I:T->Prop)(m:T->Nat)(s:T):oC ts os I m s Q .normal e=ah ts os I m s (em e):=rfl
@[congr] theorem aia{rs:List ResultVar}{m:Nat}{Φ:List D->D->Prop}(h:True->e=e'):Vs P rs m Φ e=Vs P rs m Φ e':=by rw[h trivial]
theorem Vs.mk{rs:List ResultVar}{m:Nat}{Φ:List D->D->Prop}(hs':List D)(d:D)(u:Φ hs' d)(h:Vr P rs m hs' d e):Vs P rs m Φ e:=⟨hs',d,u,h⟩
@[congr] theorem ad'{T:Type}{ts os:T->EL}{I:T->Prop}{m:T->Nat}{s:T}(h:True->e=e'):ah ts os I m s e=ah ts os I m s e':=by rw[h trivial]

theorem wpList_nil:wpList P n ops [] e K=K e:=rfl
theorem ahP(r:List Oper):wpList P n ops (o::r) e K=wpOp P n ops o e (lK P n ops r K):=rfl
theorem ahO:rS P n np ops [] e K=K e:=rfl
theorem agh(r:List Oper):rS P n np ops (o::r) e K=gZ P n np ops o e (lKD P n np ops r K):=rfl
theorem akE(l:List α):l.toArray.toList=l:=rfl
def dh(o:Option Bool)(k:Bool->Prop):Prop:=match o with
 |some g=>k g
 |none=>False
@[congr] theorem ad5{o:Option Bool}{k:Bool->Prop}(h:True->o=I):dh o k=dh I k:=by rw[h trivial]
theorem agu(k:Bool->Prop):dh (some true) k=k true:=rfl
theorem ad6(k:Bool->Prop):dh (some false) k=k false:=rfl
theorem dh.split{k:Bool->Prop}(u:g=true->k true)(v:g=false->k false):dh (some g) k:=by
 cases g with
 |true=>exact u rfl
 |false=>exact v rfl
theorem dh.kB{b:Bool}{k:Bool->Prop}(u:b=false->k true)(v:b=true->k false):dh (some (!b)) k:=by
 cases b with
 |true=>exact v rfl
 |false=>exact u rfl
theorem anG:wpOp P n ops ⟨dst,op,ty,pos,after,none⟩ e K=nW P n false ⟨dst,op,ty,pos,after,none⟩ e true K:=rfl
theorem anH(p:Nat×Bool):wpOp P n ops ⟨dst,op,ty,pos,after,some p⟩ e K=dh (vn ops e (some p)) (oK P n ⟨dst,op,ty,pos,after,some p⟩ e K):=rfl
def akO:gZ P n np ops ⟨dst,op,ty,pos,after,none⟩ e K=HD (nC ops ⟨dst,op,ty,pos,after,none⟩) (sw P n np ops ⟨dst,op,ty,pos,after,none⟩ e K) (HD (rq ⟨dst,op,ty,pos,after,none⟩) (HD (isApp ⟨dst,op,ty,pos,after,none⟩) (HD (HK ops op) (nW P n false ⟨dst,op,ty,pos,after,none⟩ e true K) (HD (Ix ops) (Vv e (H6 e op) ops/\sF P n ⟨dst,op,ty,pos,after,none⟩ e true K) (sF P n ⟨dst,op,ty,pos,after,none⟩ e true K))) (HD (uo ⟨dst,op,ty,pos,after,none⟩) (CL P n np ops ⟨dst,op,ty,pos,after,none⟩ e true K) (nW P n false ⟨dst,op,ty,pos,after,none⟩ e true K))) (HD (Tm op) (HD (Ix ops) (oh e op/\RT P n np ops ⟨dst,op,ty,pos,after,none⟩ e true K) (RT P n np ops ⟨dst,op,ty,pos,after,none⟩ e true K)) (RT P n np ops ⟨dst,op,ty,pos,after,none⟩ e true K))):=by
 have u:gZ P n np ops ⟨dst,op,ty,pos,after,none⟩ e K=HD (nC ops ⟨dst,op,ty,pos,after,none⟩) (sw P n np ops ⟨dst,op,ty,pos,after,none⟩ e K) (HD (rq ⟨dst,op,ty,pos,after,none⟩) (HD (isApp ⟨dst,op,ty,pos,after,none⟩) (HD (HK ops op) (nW P n false ⟨dst,op,ty,pos,after,none⟩ e true K) (sF P n ⟨dst,op,ty,pos,after,none⟩ e true K/\apU ops ⟨dst,op,ty,pos,after,none⟩ e)) (HD (uo ⟨dst,op,ty,pos,after,none⟩) (CL P n np ops ⟨dst,op,ty,pos,after,none⟩ e true K) (nW P n false ⟨dst,op,ty,pos,after,none⟩ e true K))) (RT P n np ops ⟨dst,op,ty,pos,after,none⟩ e true K/\He ops ⟨dst,op,ty,pos,after,none⟩ e)):=rfl;have v:(RT P n np ops ⟨dst,op,ty,pos,after,none⟩ e true K/\He ops ⟨dst,op,ty,pos,after,none⟩ e)=HD (Tm op) (HD (Ix ops) (oh e op/\RT P n np ops ⟨dst,op,ty,pos,after,none⟩ e true K) (RT P n np ops ⟨dst,op,ty,pos,after,none⟩ e true K)) (RT P n np ops ⟨dst,op,ty,pos,after,none⟩ e true K):=by
  unfold He HD;cases B:Tm op
  ·have:oh e op=True:=by cases op<;>first|rfl|cases B
   simp[this]
  ·cases Ix ops<;>simp[and_comm]
 rw[u,aa3,v]
theorem akP(p:Nat×Bool):gZ P n np ops ⟨dst,op,ty,pos,after,some p⟩ e K=dh (vn ops e (some p)) (oKD P n np ops ⟨dst,op,ty,pos,after,some p⟩ e K):=rfl
def Xt(o:Option Tmp)(e:Env)(w:Bool):Option Bool:=match o with
 |some t=>PD w (rd e (.tmp t))
 |none=>some false
@[congr] theorem agS{o:Option Tmp}{w:Bool}(h:True->o=J):Xt o e w=Xt J e w:=by rw[h trivial]
theorem alX(j:Nat):vn ops e (some (j,w))=Xt (Ab ops j) e w:=rfl
theorem ai5(r:List Oper):Ab (o::r) 0=o.dst:=rfl
theorem ai4(r:List Oper)(j:Nat):Ab (o::r) (j+1)=Ab r j:=rfl
theorem aji(t:Nat):Xt (some t) e w=PD w (rd e (.tmp t)):=Eq.trans rfl rfl
theorem akN:PD w (.bool b)=some (b==w):=rfl
theorem anE:PD w (.bD [])=some false:=rfl
def atq:(b==true)=b:=by cases b<;>rfl
def atp:(b==false) = !b:=by cases b<;>rfl

@[congr] theorem agz{ok:Prop}{v:D}{k:D->Prop}(u:True->g=j)(B:j=true->ok=A)(E:j=true->v=v'):jl g ok v k=jl j A v' k:=by
 obtain rfl:=u trivial;cases g with
 |true=>rw[B rfl,E rfl]
 |false=>simp[jl,gd]
def aif(ok:Prop)(v:D)(k:D->Prop):jl true ok v k=(ok/\Norm (dm v) k):=by simp[jl,gd,Norm,dm]
def agA(ok:Prop)(v:D)(k:D->Prop):jl false ok v k=k (.bD []):=by simp[jl,gd]
def aqO(a b:Prop):GK true a b=a:=by simp[GK]
def anS(a b:Prop):GK false a b=b:=by simp[GK]

def AoK(np:Nat)(ops:List Oper)(o:Oper)(l:List Nat):Prop:=rY np ops o l
@[congr] theorem akT{o:Oper}{l:List Nat}(h:True->l=L):AoK np ops o l=AoK np ops o L:=by rw[h trivial]
theorem aqF:AoK np ops o []=True:=rfl
def B6(np:Nat)(ops:List Oper)(o:Oper)(r:Nat):Prop:=vE np ops o r=true
@[congr] theorem ak'{o:Oper}{r:Nat}(h:True->r=G):B6 np ops o r=B6 np ops o G:=by rw[h trivial]
theorem B6.mk{o:Oper}{r:Nat}(h:vE np ops o r=true):B6 np ops o r:=h
theorem anL(l:List Nat):AoK np ops o (r::l)=(B6 np ops o (nk r)/\AoK np ops o l):=rfl
def apo:RT P n np ops o e true K=(AoK np ops o (lm (dP e o))/\nW P n true o e true K):=by simp[RT,AoK,lm]
def amQ:RT P n np ops o e false K=nW P n true o e false K:=by simp[RT]
attribute [go_sem ↓] aqu anF aqw aqv asJ af5 akD anx adG agG aiy ahA apT ahB ako adZ wpList_nil ahP ahO agh akE anG anH akO akP alX ai5 ai4 aji aif agA aqO anS apo amQ
attribute [go_sem] agu ad6 akN anE atq atp aqF anL
section
variable{dst:Option Tmp}
theorem ahj(a:Operand):dP e ⟨dst,.load t a,ty,pos,after,gu⟩=(rd e a).names:=rfl
theorem afh(a:Operand):dP e ⟨dst,.store t a x,ty,pos,after,gu⟩=(rd e a).names:=rfl
theorem Zu(i:Operand):dP e ⟨dst,.indexAddr t x i,ty,pos,after,gu⟩=(rd e x).names:=rfl
theorem afg(a b c:Option Operand):dP e ⟨dst,.slice t x a b c,ty,pos,after,gu⟩=(rd e x).names:=rfl
theorem ahk:dP e ⟨dst,.move x,ty,pos,after,gu⟩=[]:=rfl
theorem adR:dP e ⟨dst,.assign x,ty,pos,after,gu⟩=[]:=rfl
theorem ahl(z:Operand):dP e ⟨dst,.pick x y z,ty,pos,after,gu⟩=[]:=rfl
theorem afb:dP e ⟨dst,.binOp C t x y T2,ty,pos,after,gu⟩=[]:=rfl
theorem ahm:dP e ⟨dst,.unOp h t x,ty,pos,after,gu⟩=[]:=rfl
theorem acm(s:TypeId):dP e ⟨dst,.convert s t x,ty,pos,after,gu⟩=[]:=rfl
theorem Zt:dP e ⟨dst,.fieldAddr t x f,ty,pos,after,gu⟩=[]:=rfl
theorem aff(i:Operand):dP e ⟨dst,.index t x i,ty,pos,after,gu⟩=[]:=rfl
theorem aaF:dP e ⟨dst,.nilCheck x,ty,pos,after,gu⟩=[]:=rfl
theorem acn:dP e ⟨dst,.extract x i,ty,pos,after,gu⟩=[]:=rfl
theorem afc(ps:Array (Nat×Operand)):dP e ⟨dst,.build t ps,ty,pos,after,gu⟩=[]:=rfl
theorem XK(l:Nat)(ps:Array (Nat×Operand)):dP e ⟨dst,.buildSlice t l ps,ty,pos,after,gu⟩=[]:=rfl
theorem afa:dP e ⟨dst,.alloc t,ty,pos,after,gu⟩=[]:=rfl
def Lf(e:Env)(k:Nat)(l:List Nat):List Nat:=reach e.o k l
@[congr] theorem aki{k:Nat}{l:List Nat}(h:True->l=L):Lf e k l=Lf e k L:=by rw[h trivial]
theorem apK:Lf e k []=[]:=by
 unfold Lf;induction k with
 |zero=>rfl
 |succ k ih=>simp only[reach,List.map_nil,D.cq,List.nil_append];exact ih
theorem akk(l:List Nat):Lf e 4 (r::l)=r::l++Lf e 3 (lm (D.cq ((r::l).map e.o))):=rfl
theorem akj(l:List Nat):Lf e 2 (r::l)=r::l++Lf e 1 (lm (D.cq ((r::l).map e.o))):=rfl
theorem afe(f:Operand):dP e ⟨dst,.call ⟨.value f,args,T⟩,ty,pos,after,gu⟩=Lf e 4 (lm (D.cq (rd e f::args.toList.map (rd e)))):=rfl
theorem afd(b:Builtin):dP e ⟨dst,.call ⟨.builtin b,args,T⟩,ty,pos,after,gu⟩=D.cq (args.toList.map (rd e)):=rfl
attribute [go_sem ↓] ahj afh Zu afg ahk adR ahl afb ahm acm Zt aff aaF acn afc XK afa afe afd
attribute [go_sem] apK akk akj
end

section
theorem apt:nW P n dr ⟨some d,.move x,ty,pos,after,gu⟩ e g K=(d<n/\jl g True (rd e x) (uK e d K)):=rfl
theorem aj5:nW P n dr ⟨some d,.assign x,ty,pos,after,gu⟩ e g K=(d<n/\jl g True (rd e x) (uK e d K)):=rfl
theorem amT:nW P n dr ⟨some d,.binOp C t x y T2,ty,pos,after,gu⟩ e g K=HD (abD y) (g=true/\dr=false/\fG P n ⟨some d,.binOp C t x y T2,ty,pos,after,gu⟩ e K) (d<n/\jl g (AJ P (isConst x||isConst y) C t (rd e x) (rd e y)) (CC C (rd e x) (rd e y)) (uK e d K)):=rfl
theorem apv:nW P n dr ⟨some d,.unOp h t x,ty,pos,after,gu⟩ e g K=(d<n/\jl g (xJ h (rd e x)) (BY h (rd e x)) (uK e d K)):=rfl
theorem aho(s:TypeId):nW P n dr ⟨some d,.convert s t x,ty,pos,after,gu⟩ e g K=(d<n/\jl g (JJ (fD P s) (fD P t) (rd e x)) (NY (fD P s) (fD P t) (rd e x)) (uK e d K)):=rfl
def pk(p:Bool)(x y:D):D:=if p then x else y
def ahs(c x y:D):D:=match c with
 | .bool p=>pk p x y
 | _=>.undef
def acH(c:D):Prop:=match c with
 | .bool _=>True
 | _=>False
theorem akc(x:D):ahs (.bool p) x ob=pk p x ob:=rfl
theorem aht:acH (.bool p)=True:=rfl
@[congr] theorem apA{p:Bool}{x:D}(u:True->p=j)(v:j=true->x=x')(B:j=false->v'=y'):pk p x v'=pk j x' y':=by
 obtain rfl:=u trivial;cases p with
 |true=>simp only[pk,if_true];exact v rfl
 |false=>simp only[pk];exact B rfl
theorem ar6(x:D):pk true x ob=x:=rfl
theorem apB(x:D):pk false x ob=ob:=rfl
theorem apu(a b:Operand):nW P n dr ⟨some d,.pick c a b,ty,pos,after,gu⟩ e g K=(d<n/\jl g (acH (rd e c)) (ahs (rd e c) (rd e a) (rd e b)) (uK e d K)):=rfl
def faT(t:Ty)(f:Nat)(v:D):D:=match t with
 | .struct fs=>faV fs f v
 | _=>.undef
def agN(t:Ty)(f:Nat)(v:D):Prop:=match t with
 | .struct fs=>YV fs f v
 | _=>False
theorem avl(v:D):faT (.struct fs) f v=faV fs f v:=rfl
theorem arc(v:D):agN (.struct fs) f v=YV fs f v:=rfl
def aot(t:Ty)(f:Nat)(v:D):D:=match t with
 | .struct fs=>YX fs f v
 | _=>.undef
def abu(t:Ty)(f:Nat)(v:D):Prop:=match t with
 | .struct fs=>Oj fs f v
 | _=>False
theorem atC(v:D):aot (.struct fs) f v=YX fs f v:=rfl
theorem aou(v:D):abu (.struct fs) f v=Oj fs f v:=rfl
theorem adS:nW P n dr ⟨some d,.fieldAddr t x f,ty,pos,after,gu⟩ e g K=(d<n/\jl g (agN (fD P t) f (rd e x)) (faT (fD P t) f (rd e x)) (uK e d K)):=rfl
theorem amW:nW P n dr ⟨some d,.field t x f,ty,pos,after,gu⟩ e g K=(d<n/\jl g (abu (fD P t) f (rd e x)) (aot (fD P t) f (rd e x)) (uK e d K)):=rfl
def Ho(e:Env)(t:Ty)(x i:D):Prop:=S6 e t x i
@[congr] theorem agV{t:Ty}{x i:D}(u:True->t=t')(v:True->x=x')(B:True->i=v'):Ho e t x i=Ho e t' x' v':=by rw[u trivial,v trivial,B trivial]
def iaT(t:Ty)(x i:D):D:=Y4 e0 t x i
def ajl(e:Env)(t:Ty)(x i:D):Y4 e t x i=iaT t x i:=by unfold iaT Y4;rfl
def adT(i:Operand):nW P n dr ⟨some d,.indexAddr t x i,ty,pos,after,gu⟩ e g K=(d<n/\jl g (Ho e (fD P t) (rd e x) (rd e i)) (iaT (fD P t) (rd e x) (rd e i)) (uK e d K)):=by rw[<-ajl e];rfl
theorem amX(i:Operand):nW P n dr ⟨some d,.index t x i,ty,pos,after,gu⟩ e g K=(d<n/\jl g (Tk (fD P t) (rd e x) (rd e i)) (ixV (fD P t) (rd e x) (rd e i)) (uK e d K)):=rfl
def ldT(e:Env)(l:Option HR)(a:D):D:=match l with
 |some l=>ldV e l a
 |none=>.undef
def Hr(e:Env)(l:Option HR)(a:D):Prop:=match l with
 |some l=>QB e l a
 |none=>False
@[congr] theorem amm{l:Option HR}{a:D}(u:True->l=l')(v:True->a=a'):ldT e l a=ldT e l' a':=by rw[u trivial,v trivial]
@[congr] theorem ag5{l:Option HR}{a:D}(u:True->l=l')(v:True->a=a'):Hr e l a=Hr e l' a':=by rw[u trivial,v trivial]
theorem ao2(o:Nat):ldT e (some l) (.addr r o)=ldB l o (e.o r):=rfl
theorem amo:ldT e (some l) (.dO r z i k)=ldW l i k (e.o r):=rfl
theorem amn:ldT e (some l) (.bG cs)=part l.agg 0 l.sz cs:=rfl
theorem ajB(o:Nat):Hr e (some l) (.addr r o)=XC l o (e.o r):=rfl
theorem ag7:Hr e (some l) (.dO r z i k)=XD l z i k (e.o r):=rfl
theorem ag6:Hr e (some l) (.bG cs)=(l.sz<=cs.length/\CX l):=rfl
theorem arM(o:Nat):ldB l o (.box cs)=part l.agg o l.sz cs:=rfl
theorem aml(o:Nat):XC l o (.box cs)=(o+l.sz<=cs.length/\CX l):=rfl
theorem arO:ldW l i k (.own z rows)=part l.agg k l.sz (rows.getD i []):=rfl
theorem amp:XD l z i k (.own z' rows)=(z'=z/\i<rows.length/\k+l.sz<=z/\CX l):=rfl
def arK:CX ⟨false,1⟩=True:=by simp[CX]
def arL:CX ⟨true,m⟩=(1<=m):=by simp[CX]
theorem aps(a:Operand):nW P n dr ⟨some d,.load t a,ty,pos,after,gu⟩ e g K=(d<n/\jl g (Hr e (jx P t) (rd e a)) (ldT e (jx P t) (rd e a)) (uK e d K)):=rfl
theorem afl:nW P n dr ⟨some d,.nilCheck x,ty,pos,after,gu⟩ e g K=(d<n/\jl g (ach (rd e x)) (rd e x) (uK e d K)):=rfl
def aop(v:D)(i:Nat):D:=match v with
 | .bD ds=>ds.getD i .undef
 | _=>.undef
def agM(v:D)(i:Nat):Prop:=match v with
 | .bD ds=>i<ds.length
 | _=>False
theorem aoq:aop (.bD ds) i=ds.getD i .undef:=rfl
theorem alF:agM (.bD ds) i=(i<ds.length):=rfl
theorem ahp:nW P n dr ⟨some d,.extract x i,ty,pos,after,gu⟩ e g K=(d<n/\jl g (agM (rd e x) i) (aop (rd e x) i) (uK e d K)):=rfl
theorem afk(f:FuncId)(first:Array Operand):nW P n dr ⟨some d,.makeFunc (.func f) first args,ty,pos,after,gu⟩ e g K=(d<n/\jl g (first = #[]) (.fn f (args.toList.map (rd e))) (uK e d K)):=rfl
def QE(e:Env)(t:Ty)(x:D):D:=QF e t x
def zk(e:Env)(t:Ty)(x:D):Prop:=EP e t x
@[congr] theorem ajJ{t:Ty}{x:D}(u:True->t=t')(v:True->x=x'):QE e t x=QE e t' x':=by rw[u trivial,v trivial]
@[congr] theorem ae4{t:Ty}{x:D}(u:True->t=t')(v:True->x=x'):zk e t x=zk e t' x':=by rw[u trivial,v trivial]
theorem ar0(T:TypeId):nW P n dr ⟨some d,.call ⟨.builtin .len,#[x],#[T]⟩,ty,pos,after,gu⟩ e g K=(d<n/\jl g (zk e (fD P T) (rd e x)) (QE e (fD P T) (rd e x)) (uK e d K)):=rfl
def ar1(l:List Operand):nW P n dr ⟨some d,.call ⟨.builtin .max,l.toArray,T⟩,ty,pos,after,gu⟩ e g K=(d<n/\jl g (l≠[]/\xh (l.map (rd e))) (SL TF (l.map (rd e))) (uK e d K)):=by simp only[nW,fq,iA];rfl
def ar2(l:List Operand):nW P n dr ⟨some d,.call ⟨.builtin .min,l.toArray,T⟩,ty,pos,after,gu⟩ e g K=(d<n/\jl g (l≠[]/\xh (l.map (rd e))) (SL TJ (l.map (rd e))) (uK e d K)):=by simp only[nW,fq,iA];rfl
def aac(e:Env)(t:Ty)(x lo hi:D):D:=match lo,hi with
 | .int _ l,.int _ h=>WB e t x l.toNat h.toNat
 | _,_=>.undef
def UL(e:Env)(t:Ty)(x lo:D)(hi:Option D):D:=aac e t x lo (hi.getD (.int .i64 (DV (I1 e t x))))
def sv(e:Env)(t:Ty)(x lo:D)(hi:Option D):Prop:=SlK (slC e t x) lo (hi.getD (.int .i64 (DV (I1 e t x)))) λ_ _ _=>True
@[congr] theorem anm{t:Ty}{x lo:D}(u:True->t=t')(v:True->x=x')(B:True->lo=lo')(E:True->hi=hi'):UL e t x lo hi=UL e t' x' lo' hi':=by rw[u trivial,v trivial,B trivial,E trivial]
@[congr] theorem ahI{t:Ty}{x lo:D}(u:True->t=t')(v:True->x=x')(B:True->lo=lo')(E:True->hi=hi'):sv e t x lo hi=sv e t' x' lo' hi':=by rw[u trivial,v trivial,B trivial,E trivial]
def loT(e:Env)(lo:Option Operand):D:=Rz e 0 lo
theorem apb:loT e none=.int .i64 0:=rfl
theorem apc:loT e (some x)=rd e x:=rfl
theorem amY(lo:Option Operand):nW P n dr ⟨some d,.slice t x lo none none,ty,pos,after,gu⟩ e g K=(d<n/\jl g (sv e (fD P t) (rd e x) (loT e lo) none) (UL e (fD P t) (rd e x) (loT e lo) none) (uK e d K)):=rfl
theorem aj7(lo:Option Operand):nW P n dr ⟨some d,.slice t x lo (some y) none,ty,pos,after,gu⟩ e g K=(d<n/\jl g (sv e (fD P t) (rd e x) (loT e lo) (some (rd e y))) (UL e (fD P t) (rd e x) (loT e lo) (some (rd e y))) (uK e d K)):=rfl
def P2(t:Ty)(ps:List (Nat×D)):List (Nat×Nat×D):=match t with
 | .struct fs=>ps.map λx=>match fs[x.1]? with
  |some f=>(f.off,f.sz,x.2)
  |none=>(0,0,.undef)
 | .arr _ z _=>ps.map λx=>(x.1*z,z,x.2)
 | _=>[]
def CQ(t:TypeId)(parts:List (Nat×Operand)):gL P e t parts=P2 (fD P t) (parts.map λx=>(x.1,rd e x.2)):=by
 unfold gL P2;cases fD P t<;>simp only[List.map_map,Function.comp_def]<;>rfl
def ael(t:Ty)(z:Option (List D))(ps:List (Nat×D)):D:=match z with
 |some z=>.agg (pR z (P2 t ps))
 |none=>.undef
def NL(t:Ty)(z:Option (List D))(ps:List (Nat×D)):Prop:=match z with
 |some z=>(match t with
  | .struct fs=>∀x∈ps,x.1<fs.length
  | .arr _ _ _=>True
  | _=>False)/\sK z.length (P2 t ps)
 |none=>False
theorem We(t:TypeId)(parts:List (Nat×Operand)):IV P e t parts=NL (fD P t) (oI P t) (parts.map λx=>(x.1,rd e x.2)):=by
 unfold IV NL;rw[CQ];cases hz:oI P t with
 |none=>simp
 |some z =>
  simp only[qN,exists_eq_left',eq_iff_iff];refine and_congr ?_ Iff.rfl;cases fD P t<;>simp only;simp only[List.forall_mem_map]
def amU:nW P n dr ⟨some d,.build t M,ty,pos,after,gu⟩ e g K =
  (d<n/\jl g (NL (fD P t) (oI P t) (M.toList.map λx=>(x.1,rd e x.2))) (ael (fD P t) (oI P t) (M.toList.map λx=>(x.1,rd e x.2))) (uK e d K)):=by
 rw[<-We];have:ael (fD P t) (oI P t) (M.toList.map λx=>(x.1,rd e x.2))=iA P e (.build t M):=by
  unfold iA ael;simp only[CQ];rfl
 rw[this];rfl
theorem alp(t:Ty)(z:List D):ael t (some z) ps=.agg (pR z (P2 t ps)):=rfl
theorem aix(z:List D):NL (.struct fs) (some z) ps=((∀x∈ps,x.1<fs.length)/\sK z.length (P2 (.struct fs) ps)):=rfl
def alo(s:Nat)(z:List D):NL (.arr n s a) (some z) ps=sK z.length (P2 (.arr n s a) ps):=by simp[NL]
def aog(f:Option FT)(v:D):Nat×Nat×D:=match f with
 |some f=>(f.off,f.sz,v)
 |none=>(0,0,.undef)
theorem agF:P2 (.struct fs) ps=ps.map λx=>aog fs[x.1]? x.2:=rfl
theorem aoh:P2 (.arr n z a) ps=ps.map λx=>(x.1*z,z,x.2):=rfl
theorem aln(o s:Nat)(v:D):aog (some ⟨o,s,a⟩) v=(o,s,v):=rfl
def an'(f:Nat×D->Prop):(∀c∈([]:List (Nat×D)),f c)=True:=by simp
def ale(f:Nat×D->Prop)(a:Nat×D)(l:List (Nat×D)):(∀c∈a::l,f c)=(f a/\∀c∈l,f c):=by simp
def an9(f:D->Prop):(∀c∈([]:List D),f c)=True:=by simp
def ald(f:D->Prop)(a:D)(l:List D):(∀c∈a::l,f c)=(f a/\∀c∈l,f c):=by simp
attribute [go_sem ↓] apt aj5 amT apv aho ar6 apB apu adS amW adT amX aps afl ahp afk ar0 ar1 ar2 apb apc amY aj7 amU
attribute [go_sem] akc aht avl arc atC aou ao2 amo amn ajB ag7 ag6 arM aml arO amp arK arL aoq alF alp aix alo agF aoh aln an' ale an9 ald
end

def Yo(d:D):Prop:=d=.undef
def ak1:Yo .undef=True:=by simp[Yo]
def moK(e:Env)(d:Nat)(K:Env->Prop)(ob:D)(r:Nat):Prop:=Yo (e.o r)/\K (cQ (eV e r ob) d (.ref r))
def maK(e:Env)(d:Nat)(K:Env->Prop)(ob:D)(r:Nat):Prop:=Yo (e.o r)/\K (cQ (eV e r ob) d (.addr r 0))
theorem auh:moK e d K ob r=(Yo (e.o r)/\K (cQ (eV e r ob) d (.ref r))):=rfl
theorem aud:maK e d K ob r=(Yo (e.o r)/\K (cQ (eV e r ob) d (.addr r 0))):=rfl
def moN(e:Env)(d:Nat)(K:Env->Prop)(ob:D):Prop:=xM (nm d 0) (moK e d K ob)
def maN(e:Env)(d:Nat)(K:Env->Prop)(ob:D):Prop:=xM (nm d 0) (maK e d K ob)
theorem aui:moN e d K ob=xM (nm d 0) (moK e d K ob):=rfl
theorem auf:maN e d K ob=xM (nm d 0) (maK e d K ob):=rfl
theorem avZ:nm d k=16*(d+1)+k:=rfl
def uoK(e:Env)(r:Nat)(K:Env->Prop)(ob:D):Prop:=K (eV e r ob)
theorem auL:uoK e r K ob=K (eV e r ob):=rfl
def aaU(e:Env)(r off:Nat)(v:D)(K:Env->Prop)(l:Option HR)(ob:D):Prop:=
 match l,ob with
 |some l,.box cs=>off+l.sz<=cs.length/\v.cells.length=l.sz/\(∀c∈v.cells,gM c)/\K (eV e r (.box (kI cs off v.cells)))
 | _,_=>False
def aaW(e:Env)(r z i k:Nat)(v:D)(K:Env->Prop)(l:Option HR)(ob:D):Prop:=
 match l,ob with
 |some l,.own z' rows=>z'=z/\i<rows.length/\k+l.sz<=z/\v.cells.length=l.sz/\(∀c∈v.cells,cE c)/\K (eV e r (.own z (rows.set i (kI (rows.getD i []) k v.cells))))
 | _,_=>False
@[congr] theorem aic{r off:Nat}{v:D}{l:Option HR}(u:True->l=l')(B:True->x'=ob'):aaU e r off v K l x'=aaU e r off v K l' ob':=by rw[u trivial,B trivial]
@[congr] theorem aie{r z i k:Nat}{v:D}{l:Option HR}(u:True->l=l')(B:True->x'=ob'):aaW e r z i k v K l x'=aaW e r z i k v K l' ob':=by rw[u trivial,B trivial]
theorem an4(v:D):aaU e r off v K (some ⟨a,sz⟩) (.box cs)=(off+sz<=cs.length/\v.cells.length=sz/\(∀c∈v.cells,gM c)/\Norm (dm (.box (kI cs off v.cells))) (uoK e r K)):=rfl
theorem an6(v:D):aaW e r z i k v K (some ⟨a,sz⟩) (.own z' rows) =
  (z'=z/\i<rows.length/\k+sz<=z/\v.cells.length=sz/\(∀c∈v.cells,cE c)/\Norm (dm (.own z (rows.set i (kI (rows.getD i []) k v.cells)))) (uoK e r K)):=rfl
def an5(v:D):Yq P e t (.addr r off) K v=aaU e r off v K (jx P t) (e.o r):=by
 show StB P e t r off v K (e.o r)=_;unfold StB aaU;cases e.o r<;>cases jx P t<;>rfl
def alc(v:D):Yq P e t (.dO r z i k) K v=aaW e r z i k v K (jx P t) (e.o r):=by
 show StO P e t r z i k v K (e.o r)=_;unfold StO aaW;cases e.o r<;>cases jx P t<;>rfl
def stK(P:Program)(e:Env)(t:TypeId)(x:Operand)(K:Env->Prop)(a:D):Prop:=Norm (dm (rd e x)) (Yq P e t a K)
theorem auA(a:D):stK P e t x K a=Norm (dm (rd e x)) (Yq P e t a K):=rfl
theorem amZ(a:Operand):nW P n dr ⟨none,.store t a x,ty,pos,after,gu⟩ e g K=(g=true/\Norm (dm (rd e a)) (stK P e t x K)):=rfl
theorem aqK(v:D):ad4 e d K v=((∀c∈v.cells,gM c)/\Norm (dm (.box v.cells)) (maN e d K)):=rfl
theorem arY:nW P n dr ⟨some d,.box t x,ty,pos,after,gu⟩ e g K=(g=true/\d<n/\Norm (dm (rd e x)) (ad4 e d K)):=rfl
@[congr] theorem ahR{z:Option (List D)}(h:True->z=O):Yk e d K z=Yk e d K O:=by rw[h trivial]
theorem akQ(z:List D):Yk e d K (some z)=maN e d K (.box z):=rfl
theorem amS:nW P n dr ⟨some d,.alloc t,ty,pos,after,gu⟩ e g K=(g=true/\d<n/\Yk e d K (oI P t)):=rfl
def BsC(e:Env)(d:Nat)(K:Env->Prop)(z len:Nat)(cs:List D):Prop:=(∀c∈cs,cE c)/\Norm (dm (.own z (rowsOf z len cs))) (moN e d K)
@[congr] theorem akX{z len:Nat}{cs:List D}(h:True->cs=as):BsC e d K z len cs=BsC e d K z len as:=by rw[h trivial]
theorem as4(len:Nat):BsC e d K z len cs=((∀c∈cs,cE c)/\Norm (dm (.own z (rowsOf z len cs))) (moN e d K)):=rfl
def BsV(e:Env)(len d:Nat)(K:Env->Prop)(z:Nat)(zc:List D)(ps:List (Nat×Nat×D)):Prop:=
 len*z<=2^24/\zc.length=z/\sK (len*z) ps/\BsC e d K z len (lm (pR (List.replicate len zc).flatten ps))
@[congr] theorem ak0{len z:Nat}{zc:List D}{ps:List (Nat×Nat×D)}(h:True->ps=R):BsV e len d K z zc ps=BsV e len d K z zc R:=by rw[h trivial]
theorem as6(len:Nat)(ps:List (Nat×Nat×D)):BsV e len d K z zc ps=(len*z<=2^24/\zc.length=z/\sK (len*z) ps/\BsC e d K z len (lm (pR (List.replicate len zc).flatten ps))):=rfl
@[congr] theorem akY{len:Nat}{ps:List (Nat×Operand)}{t:Ty}{z:Option (List D)}(u:True->t=t')(v:True->z=O):Vo e len ps d K t z=Vo e len ps d K t' O:=by rw[u trivial,v trivial]
theorem as5(len:Nat)(ps:List (Nat×Operand)):Vo e len ps d K (.slice z by_ a) (some zc)=BsV e len d K z zc (lm (ps.map λx=>(x.1*z,z,rd e x.2))):=rfl
def BsP(e:Env)(len:Nat)(ps:List (Nat×Operand))(dr:Bool)(d:Nat)(K:Env->Prop)(t:Ty)(z:Option (List D))(ns:List Nat):Prop:=(dr=true->ns=[])/\Vo (iY ns e) len ps d K t z
@[congr] theorem akZ{len:Nat}{ps:List (Nat×Operand)}{t:Ty}{z:Option (List D)}(h:True->L=U):BsP e len ps dr d K t z L=BsP e len ps dr d K t z U:=by rw[h trivial]
theorem aqL(len:Nat)(ps:List (Nat×Operand))(t:Ty)(z:Option (List D)):BsP e len ps dr d K t z []=Vo e len ps d K t z:=by simp[BsP,iY]
def acs(len:Nat):nW P n dr ⟨some d,.buildSlice t len M,ty,pos,after,gu⟩ e g K =
  HD (t==ake) (g=true/\dr=false/\fG P n ⟨some d,.buildSlice t len M,ty,pos,after,gu⟩ e K) (d<n/\GK g (BsP e len M.toList dr d K (fD P t) (gr P t) (lm (D.cq (M.toList.map λx=>rd e x.2)))) (K (cQ e d (.bD [])))):=by
 unfold nW HD;rfl
@[congr] theorem ak9{l c:D}{t:Ty}{z:Option (List D)}(u:True->l=x')(v:True->c=v')(B:True->t=t')(E:True->z=O):MkK e d K l c t z=MkK e d K x' v' t' O:=by rw[u trivial,v trivial,B trivial,E trivial]
theorem atc(k:IntKind)(l c:Int):MkK e d K (.int k l) (.int W c) (.slice z by_ a) (some zc) =
  (0<=l/\l<=c/\c<=2^40/\by_*c<=2^47/\zc.length=z/\(∀d∈zc,cE d)/\Norm (dm (.own z (List.replicate l.toNat zc))) (moN e d K)):=rfl
theorem adU(l:Operand):nW P n dr ⟨some d,.makeSlice t l c,ty,pos,after,gu⟩ e g K=(d<n/\GK g (MkK e d K (dm (rd e l)) (rd e c) (fD P t) (gr P t)) (K (cQ e d (.bD [])))):=rfl
def apN(z by_:Nat)(rows rows2:List (List D))(e:Env)(d:Nat)(K:Env->Prop):Prop:=(by_+1)*(rows.length+rows2.length)<=2^45/\Norm (dm (.own z (rows++rows2))) (moN e d K)
theorem atk:apN z by_ rows rows2 e d K=((by_+1)*(rows.length+rows2.length)<=2^45/\Norm (dm (.own z (rows++rows2))) (moN e d K)):=rfl
def Vu(z by_:Nat)(rows2:List (List D))(e:Env)(d:Nat)(K:Env->Prop):Prop:=(by_+(1-by_))*rows2.length<=2^47/\Norm (dm (.own z rows2)) (moN e d K)
theorem aqX:Vu z by_ rows2 e d K=((by_+(1-by_))*rows2.length<=2^47/\Norm (dm (.own z rows2)) (moN e d K)):=rfl
def ApO(e:Env)(z by_ d:Nat)(rows2:List (List D))(K:Env->Prop)(r:Nat)(ob:D):Prop:=Yl e z by_ d rows2 K r ob
@[congr] theorem akU{z r:Nat}{rows2:List (List D)}(h:True->x'=ob'):ApO e z np d rows2 K r x'=ApO e z np d rows2 K r ob':=by rw[h trivial]
theorem aqH:ApO e z by_ d rows2 K r (.own z' rows)=(z'=z/\apN z by_ rows rows2 (nr r e) d K):=rfl
@[congr] theorem ahZ{z:Nat}{x:D}(u:True->x=x')(v:True->X=Y):AD e z np d K x X=AD e z np d K x' Y:=by rw[u trivial,v trivial]
theorem anN:AD e z by_ d K .nil (some rows2)=Vu z by_ rows2 e d K:=by simp[AD,Vu,Norm,dm,moN,moK,xM,Yo]
def anM:AD e z by_ d K .emp (some rows2)=Vu z by_ rows2 e d K:=by simp[AD,Vu,Norm,dm,moN,moK,xM,Yo]
theorem anO:AD e z by_ d K (.ref r) (some rows2)=ApO e z by_ d rows2 K r (dm (e.o r)):=rfl
def bo(e:Env)(x:List Nat)(k:Nat)(d:D):D:=qS e.o x k d
@[congr] theorem aoi{x:List Nat}{k:Nat}{d:D}(h:True->d=x'):bo e x k d=bo e x k x':=by rw[h trivial]
@[congr] theorem ahV{x:D}{t:Ty}(u:True->x=x')(v:True->v'=y')(B:True->t=t')(E:True->Z=t2'):uE e d K x v' t Z=uE e d K x' y' t' t2':=by rw[u trivial,v trivial,B trivial,E trivial]
theorem aqI(x:D):uE e d K x ob (.slice z by_ a) (.slice z2 b2 b)=(by_<=2^32/\AD e z by_ d K x (mM z (bo e [] 2 (dm ob)))):=rfl
@[congr] theorem ahY{S:Prop}{x:D}{t:Ty}(u:True->x=x')(v:True->v'=y')(B:True->t=t')(E:True->Z=t2'):Ed e d K S x v' t Z=Ed e d K S x' y' t' t2':=by rw[u trivial,v trivial,B trivial,E trivial]
theorem akW(o l c:Nat)(t:Ty):Ed e d K S (.dZ r o z l c) ob t g9=S:=rfl
theorem agj  (t:Ty):Ed e d K S .nil (.sl z rows) t g9=uE e d K .nil (.sl z rows) t g9:=rfl
theorem agi  (t:Ty):Ed e d K S .emp (.sl z rows) t g9=uE e d K .emp (.sl z rows) t g9:=rfl
theorem ad2  (t:Ty):Ed e d K S (.ref r) .emp t g9=uE e d K (.ref r) .emp t g9:=rfl
theorem ad3(t:Ty):Ed e d K S (.ref r) (.ref r') t g9=uE e d K (.ref r) (.ref r') t g9:=rfl
theorem agk(t:Ty):Ed e d K S (.ref r) (.sl z rows) t g9=uE e d K (.ref r) (.sl z rows) t g9:=rfl
theorem aj4(T:TypeId):nW P n dr ⟨some d,.call ⟨.builtin .append,#[x,y],#[T,T2]⟩,ty,pos,after,gu⟩ e g K=(d<n/\g=true/\dr=false/\Ed e d K (fG P n ⟨some d,.call ⟨.builtin .append,#[x,y],#[T,T2]⟩,ty,pos,after,gu⟩ e K) (dm (rd e x)) (rd e y) (fD P T) (fD P T2)):=rfl
@[congr] theorem ah2{t:Ty}(h:True->t=t'):Mu e d K t=Mu e d K t':=by rw[h trivial]
def aoo(e:Env)(d:Nat)(K:Env->Prop)(r:Nat):Prop:=Yo (e.o r)/\K (cQ e d .emp)
theorem aq':aoo e d K r=(Yo (e.o r)/\K (cQ e d .emp)):=rfl
theorem aqN(b:Nat):Mu e d K (.slice z b a)=xM (nm d 0) (aoo e d K):=rfl
@[congr] theorem ahT{z:Nat}(h:True->X=Y):PK e z np d K X=PK e z np d K Y:=by rw[h trivial]
theorem akV:PK e z by_ d K (some rows2)=Vu z by_ rows2 e d K:=by simp[PK,Vu,Norm,dm,moN,moK,xM,Yo]
@[congr] theorem ahX{x:D}{t:Ty}(u:True->x=x')(v:True->v'=y')(B:True->t=t')(E:True->Z=t2'):I9 e d K x v' t Z=I9 e d K x' y' t' t2':=by rw[u trivial,v trivial,B trivial,E trivial]
theorem aqJ:I9 e d K .emp ob (.slice z by_ a) (.slice z2 b2 b)=(by_<=2^32/\PK e z by_ d K (mM z (bo e [] 2 (dm ob)))):=rfl
theorem ano(len:Nat)(ps:Array (Nat×Operand)):sw P n np ops ⟨some d,.buildSlice t len ps,ty,pos,after,gu⟩ e K=(d<n/\Mu e d K (fD P t)):=rfl
theorem ann(T:TypeId):sw P n np ops ⟨some d,.call ⟨.builtin .append,#[x,y],#[T,T2]⟩,ty,pos,after,gu⟩ e K=(d<n/\AoK np ops ⟨some d,.call ⟨.builtin .append,#[x,y],#[T,T2]⟩,ty,pos,after,gu⟩ (Lf e 2 (lm (rd e y).names))/\I9 e d K (dm (rd e x)) (dm (rd e y)) (fD P T) (fD P T2)):=rfl
theorem agD(T:TypeId):sF P n ⟨some d,.call ⟨.builtin .append,#[x,y],#[T,T2]⟩,ty,pos,after,gu⟩ e g K=(d<n/\g=true/\uE e d K (dm (rd e x)) (dm (rd e y)) (fD P T) (fD P T2)):=rfl
theorem apr:nW P n dr ⟨dst,.call ⟨.builtin .copy,args,T⟩,ty,pos,after,gu⟩ e g K=(g=true/\dr=false/\fG P n ⟨dst,.call ⟨.builtin .copy,args,T⟩,ty,pos,after,gu⟩ e K):=rfl
theorem arZ:nW P n dr ⟨dst,.call ⟨.builtin .cap,args,T⟩,ty,pos,after,gu⟩ e g K=(g=true/\dr=false/\fG P n ⟨dst,.call ⟨.builtin .cap,args,T⟩,ty,pos,after,gu⟩ e K):=rfl
theorem aj6(l m:Operand):nW P n dr ⟨dst,.slice t x (some l) i7 (some m),ty,pos,after,gu⟩ e g K=(g=true/\dr=false/\fG P n ⟨dst,.slice t x (some l) i7 (some m),ty,pos,after,gu⟩ e K):=rfl
theorem amV:nW P n dr ⟨dst,.call ⟨.builtin .clear,args,T⟩,ty,pos,after,gu⟩ e g K=(g=true/\dr=false/\fG P n ⟨dst,.call ⟨.builtin .clear,args,T⟩,ty,pos,after,gu⟩ e K):=rfl
def sH:D->List D
 | .fn _ caps=>caps
 | _=>[]
theorem alu(f:FuncId):sH (.fn f cs)=cs:=rfl
def az(P:Program)(dr:Bool)(e:Env)(d:Nat)(f:Operand)(args:List Operand)(K:Env->Prop)(S:Prop)(fv:D)(as:List D):Prop:=fv=rd e f/\as=args.map (rd e)++sH (rd e f)->Ee P dr e d f args K\/(dr=false/\S)
def az.mk{f:Operand}{args:List Operand}{S:Prop}:(Ee P dr e d f args K\/(dr=false/\S))=az P dr e d f args K S (rd e f) (args.map (rd e)++sH (rd e f)):=by simp[az]
@[congr] theorem agn{f:Operand}{args:List Operand}{S:Prop}(u:True->fv=fv')(v:True->as=as'):az P dr e d f args K S fv as=az P dr e d f args K S fv' as':=by rw[u trivial,v trivial]
theorem az.sem{f:Operand}{args:List Operand}{S:Prop}(u:dr=false)(h:S):az P dr e d f args K S fv as:=λ_=>.inr ⟨u,h⟩
def apq(f:Operand):nW P n dr ⟨some d,.call ⟨.value f,args,T⟩,ty,pos,after,gu⟩ e g K =
  (d<n/\GK g (az P dr e d f args.toList K (fG P n ⟨some d,.call ⟨.value f,args,T⟩,ty,pos,after,gu⟩ e K) (dm (rd e f)) (args.toList.map (rd e)++sH (rd e f))) (K (cQ e d (.bD [])))):=by
 show(d<n/\GK g (Ee P dr e d f args.toList K\/(dr=false/\fG P n ⟨some d,.call ⟨.value f,args,T⟩,ty,pos,after,gu⟩ e K)) (K (cQ e d (.bD []))))=_;rw[az.mk];rfl
def RW(P:Program)(np:Nat)(ops:List Oper)(o:Oper)(e:Env)(d:Nat)(f:Operand)(args:List Operand)(K:Env->Prop)(fv:D)(as:List D):Prop:=fv=rd e f/\as=args.map (rd e)++sH (rd e f)->ad9 P np ops o e d f args K
@[congr] theorem ah'{ops:List Oper}{o:Oper}{f:Operand}{args:List Operand}(u:True->fv=fv')(v:True->as=as'):RW P np ops o e d f args K fv as=RW P np ops o e d f args K fv' as':=by rw[u trivial,v trivial]
theorem am7{ops:List Oper}(f:Operand):CL P n np ops ⟨some d,.call ⟨.value f,args,T⟩,ty,pos,after,gu⟩ e g K =
  (d<n/\GK g (RW P np ops ⟨some d,.call ⟨.value f,args,T⟩,ty,pos,after,gu⟩ e d f args.toList K (dm (rd e f)) (args.toList.map (rd e)++sH (rd e f))) (K (cQ e d (.bD [])))):=by
 show(d<n/\GK g (ad9 P np ops _ e d f args.toList K) (K (cQ e d (.bD []))))=_;have:ad9 P np ops ⟨some d,.call ⟨.value f,args,T⟩,ty,pos,after,gu⟩ e d f args.toList K=RW P np ops ⟨some d,.call ⟨.value f,args,T⟩,ty,pos,after,gu⟩ e d f args.toList K (rd e f) (args.toList.map (rd e)++sH (rd e f)):=by simp[RW]
 rw[this];rfl
attribute [go_sem] ak1 avZ an4 an6 akQ as4 as6 as5 aqL atc aqH anN anM anO aqI akW agj agi ad2 ad3 agk aqN akV aqJ alu
attribute [go_sem ↓] auh aud aui auf auL an5 alc auA amZ aqK arY amS acs adU atk aqX aj4 aq' ano ann agD apr arZ aj6 amV apq am7
end
end Go.Abs
namespace Go.Abs
open List hiding max min
attribute [go_sem] Bool.not_true Bool.not_false cz Bool.and_true dU Bool.and_false Bool.true_or Bool.or_true Bool.false_or Bool.or_false Bool.not_not true_and and_true if_true if_false ite_true ite_false not_true_eq_false not_false_eq_true
attribute [go_sem] map_cons map_nil length_cons length_nil append_nil nil_append cons_append take_succ_cons take_zero drop_succ_cons drop_zero headD_cons take_nil drop_nil Nat.add_zero Nat.zero_add replicate_succ replicate_zero flatten_cons flatten_nil set_cons_zero set_cons_succ getElem?_cons_zero getElem?_cons_succ getElem?_nil Option.map_some Option.map_none Option.getD_some Option.getD_none
attribute [go_sem] contains_nil contains_cons Bool.or_self beq_self_eq_true
attribute [go_sem] decide_true decide_false Int.natCast_nonneg Int.toNat_natCast forall_eq implies_true true_implies false_implies reduceCtorEq and_self


variable(e:Env)
theorem aur(t:Nat):rd e (.tmp t)=e.t t:=Eq.trans rfl rfl
theorem apL(v:Value):rd e (.const v)=uk v:=Eq.trans rfl rfl
theorem asf(f:FuncId):rd e (.func f)=.fn f []:=Eq.trans rfl rfl
variable(i j:Nat)
theorem auP(d:D):(cQ e i d).t j=if j=i then d else e.t j:=Eq.trans rfl rfl
theorem auO(d:D):(cQ e i d).o j=e.o j:=Eq.trans rfl rfl
theorem auM(d:D):(eV e i d).o j=if j=i then d else e.o j:=Eq.trans rfl rfl
theorem auN(d:D):(eV e i d).t j=e.t j:=Eq.trans rfl rfl
variable(r:Nat)
theorem arG:(nr r e).t j=(e.t j).kill r:=Eq.trans rfl rfl
theorem arF:(nr r e).o j=if j=r then .undef else(e.o j).kill r:=Eq.trans rfl rfl
variable(os ts:EL)
theorem avW:(uT ts os).t j=look ts j:=Eq.trans rfl rfl
theorem avV:(uT ts os).o j=look os j:=Eq.trans rfl rfl
theorem look_nil:look [] j=.undef:=Eq.trans rfl rfl
theorem amB(d:D)(r:EL):look ((i,d)::r) j=if j=i then d else look r j:=Eq.trans rfl rfl
theorem asH(k:Nat):Yf k []=[]:=rfl
variable(ds:List D)
theorem aqm(k:Nat)(d:D):Yf k (d::ds)=(k,d)::Yf (k+1) ds:=rfl
theorem ar4(k:Nat):vT k []=[]:=rfl
variable{hs':List D}
@[congr] theorem awV(k:Nat){l:List D}(h:True->l=hs'):vT k l=vT k hs':=by rw[h trivial]
def osI(b:Bool)(k:Nat)(d:D)(ds:List D):EL:=if b then vT (k+1) ds else(k,d)::vT (k+1) ds
theorem apx(k:Nat)(d:D):vT k (d::ds)=osI (gz d) k d ds:=rfl
theorem av2(k:Nat)(d:D):osI true k d ds=vT (k+1) ds:=rfl
theorem av1(k:Nat)(d:D):osI false k d ds=(k,d)::vT (k+1) ds:=rfl

theorem agL(b:Bool):uk (.bool b)=.bool b:=rfl
variable(k:IntKind)
theorem aiN(n:Int):uk (.int k n)=.int k n:=rfl
variable(s:ByteArray)
theorem aiP:uk (.string s)=.str s:=rfl
theorem aiO:uk (.slice none 0 0)=.nil:=rfl
theorem aes:uk .nilIface=.iZ:=rfl
def ajO(b:Bool):D.names (.bool b)=[]:=by rw[D.names.eq_def]
variable(m:Int)
def amI:D.names (.int k m)=[]:=by rw[D.names.eq_def]
def amL:D.names (.str s)=[]:=by rw[D.names.eq_def]
def amH:D.names (.emp)=[]:=by rw[D.names.eq_def]
variable(z:Nat)(rows:List (List D))
def apg:D.names (.sl z rows)=[]:=by rw[D.names.eq_def]
variable(cs:List D)
def ahf:D.names (.bG cs)=[]:=by rw[D.names.eq_def]
def amJ(z:Nat)(rows:List (List D)):D.names (.own z rows)=[]:=by rw[D.names.eq_def]
def amK:D.names (.ref r)=[r]:=by rw[D.names]
variable(o:Nat)
def ajN:D.names (.addr r o)=[r]:=by rw[D.names]
def ahg(k:Nat):D.names (.dO r z i k)=[r]:=by rw[D.names]
variable(l:Nat)
def ajQ(lo:Nat):D.names (.gl r z lo l)=[r]:=by rw[D.names]
variable(c:Nat)
def ajP:D.names (.dZ r o z l c)=[r]:=by rw[D.names]
def apf(f:FuncId):D.names (.fn f cs)=D.cq cs:=by rw[D.names]
def amF:D.names (.agg cs)=D.cq cs:=by rw[D.names]
def amG:D.names (.box cs)=D.cq cs:=by rw[D.names]
def ajM:D.cq []=[]:=by rw[D.cq]
def ahe(d:D)(l:List D):D.cq (d::l)=d.names++D.cq l:=by rw[D.cq]
variable(q:Nat)
def ajx  : D.kill q (.undef)=.undef:=by rw[D.kill.eq_def]
def amj(b:Bool):D.kill q (.bool b)=.bool b:=by rw[D.kill.eq_def]
def aoV:D.kill q (.int k m)=.int k m:=by rw[D.kill.eq_def]
def aoZ:D.kill q (.str s)=.str s:=by rw[D.kill.eq_def]
def aoW  : D.kill q (.nil)=.nil:=by rw[D.kill.eq_def]
def arI:D.kill q (.sl z rows)=.sl z rows:=by rw[D.kill.eq_def]
def ajw:D.kill q (.bG cs)=.bG cs:=by rw[D.kill.eq_def]
def aoX:D.kill q (.own z rows)=.own z rows:=by rw[D.kill.eq_def]
def aoY:D.kill q (.ref r)=if r=q then .undef else .ref r:=by rw[D.kill]
def ami:D.kill q (.addr r o)=if r=q then .undef else .addr r o:=by rw[D.kill]
def amk(lo:Nat):D.kill q (.gl r z lo l)=if r=q then .undef else .gl r z lo l:=by rw[D.kill]
def arH(f:FuncId):D.kill q (.fn f cs)=.fn f  (D.nu q cs):=by rw[D.kill]
def aoT:D.kill q (.agg cs)=.agg  (D.nu q cs):=by rw[D.kill]
def aoU:D.kill q (.box cs)=.box  (D.nu q cs):=by rw[D.kill]
def amh:D.nu q []=[]:=by rw[D.nu]
def ajv(d:D)(l:List D):D.nu q (d::l)=d.kill q::D.nu q l:=by rw[D.nu]
def fz(e:Env)(q:Nat)(d:D):D:=pJ (e.o q) q d
def fzL(e:Env)(q:Nat)(l:List D):List D:=Ac (e.o q) q l
variable{d':D}
@[congr] theorem aoC{e:Env}{q:Nat}{d:D}(h:True->d=d'):fz e q d=fz e q d':=by rw[h trivial]
@[congr] theorem alU{e:Env}{q:Nat}{d:List D}(h:True->d=hs'):fzL e q d=fzL e q hs':=by rw[h trivial]
def fzI(b:Bool)(x d:D):D:=if b then x else d
variable{b':Bool}
@[congr] theorem alS{b:Bool}{x d:D}(h:True->b=b'):fzI b x d=fzI b' x d:=by rw[h trivial]
theorem aoA(x d:D):fzI true x d=x:=rfl
theorem alT(x d:D):fzI false x d=d:=rfl
def aoE  : fz e q (.undef)=.undef:=by rw[fz,pJ.eq_def]
def ari(b:Bool):fz e q (.bool b)=.bool b:=by rw[fz,pJ.eq_def]
def atJ:fz e q (.int k m)=.int k m:=by rw[fz,pJ.eq_def]
def atN:fz e q (.str s)=.str s:=by rw[fz,pJ.eq_def]
def atK  : fz e q (.nil)=.nil:=by rw[fz,pJ.eq_def]
def avn:fz e q (.sl z rows)=.sl z rows:=by rw[fz,pJ.eq_def]
def aoD:fz e q (.bG cs)=.bG cs:=by rw[fz,pJ.eq_def]
def atL:fz e q (.own z rows)=.own z rows:=by rw[fz,pJ.eq_def]
def atM:fz e q (.ref r)=fzI (bm (r==q)) (vZ (e.o q)) (.ref r):=by rw[fz,pJ];rfl
def arh:fz e q (.addr r o)=fzI (bm (r==q)) (qn sR o (e.o q)) (.addr r o):=by rw[fz,pJ];rfl
def avm(f:FuncId):fz e q (.fn f cs)=.fn f  (fzL e q cs):=by rw[fz,pJ];rfl
def atH:fz e q (.agg cs)=.agg  (fzL e q cs):=by rw[fz,pJ];rfl
def atI:fz e q (.box cs)=.box  (fzL e q cs):=by rw[fz,pJ];rfl
def arf:fzL e q []=[]:=by rw[fzL,Ac]
def aoB(d:D)(l:List D):fzL e q (d::l)=fz e q d::fzL e q l:=by rw[fzL,Ac];rfl
def ana(q:Nat->Option Nat)  : D.oU q (.undef)=.undef:=by rw[D.oU.eq_def]
def apO(q:Nat->Option Nat)(b:Bool):D.oU q (.bool b)=.bool b:=by rw[D.oU.eq_def]
def asi(q:Nat->Option Nat):D.oU q (.int k m)=.int k m:=by rw[D.oU.eq_def]
def asn(q:Nat->Option Nat):D.oU q (.str s)=.str s:=by rw[D.oU.eq_def]
def aus(q:Nat->Option Nat):D.oU q (.sl z rows)=.sl z rows:=by rw[D.oU.eq_def]
def asj(q:Nat->Option Nat):D.oU q (.own z rows)=.own z rows:=by rw[D.oU.eq_def]
def asl(q:Nat->Option Nat):D.oU q (.ref r)=xe (q r) (.ref) .undef:=by rw[D.oU];cases q r<;>rfl
def apP(q:Nat->Option Nat)(lo:Nat):D.oU q (.gl r z lo l)=xe (q r) (λx=>.gl x z lo l) .undef:=by rw[D.oU];cases q r<;>rfl
def asg(q:Nat->Option Nat):D.oU q (.agg cs)=.agg  (D.yG q cs):=by rw[D.oU]
def aso(q:Nat->Option Nat):D.oU q (.bD cs)=.bD  (D.yG q cs):=by rw[D.oU]
def ash(q:Nat->Option Nat):D.oU q (.box cs)=.box  (D.yG q cs):=by rw[D.oU]
def apM(q:Nat->Option Nat):D.yG q []=[]:=by rw[D.yG]
def am9(q:Nat->Option Nat)(d:D)(l:List D):D.yG q (d::l)=d.oU q::D.yG q l:=by rw[D.yG]
theorem alW(f:Nat->D)(d:D):xe (some i) f d=f i:=rfl
theorem alV(f:Nat->D)(d:D):xe none f d=d:=rfl
variable{o':Option Nat}
@[congr] theorem ajh{i:Option Nat}{f:Nat->D}{d:D}(h:True->i=o'):xe i f d=xe o' f d:=by rw[h trivial]
@[congr] theorem aeO{b:Bool}{d:D}(h:True->b=b'):eg b d=eg b' d:=by rw[h trivial]
theorem agT(d:D):eg true d=.undef:=rfl
theorem aeP(d:D):eg false d=d:=rfl
variable(x:List Nat)
theorem aq2(b:Bool):bo e x (j+1) (.bool b)=.bool b:=rfl
theorem att:bo e x (j+1) (.int k m)=.int k m:=rfl
theorem atr  : bo e x (j+1) (.emp)=.emp:=rfl
theorem avf:bo e x (j+1) (.sl z rows)=.sl z rows:=rfl
theorem atu:bo e x (j+1) (.ref r)=eg (bm (x.contains r)) (vZ (e.o r)):=rfl
theorem aq1:bo e x (j+1) (.addr r o)=eg (bm (x.contains r)) (qn (bo e x j) o (e.o r)):=rfl
theorem aq3:bo e x (j+1) (.dZ r o z l c)=eg (bm (x.contains r)) (ni o z l (e.o r)):=rfl
theorem ave(f:FuncId):bo e x (j+1) (.fn f cs)=.fn f  (cs.map (bo e x j)):=rfl
theorem aq4(d:D):bo e x 0 d=sR d:=rfl
def cv(e:Env)(bw:Bool)(gs:List Nat)(k:Nat)(d:D):D:=conv bw gs e.o k d
variable{gs:List Nat}
@[congr] theorem aol{e:Env}{bw:Bool}{k:Nat}{d:D}(h:True->d=d'):cv e bw gs k d=cv e bw gs k d':=by rw[h trivial]
variable(bw:Bool)
theorem aq9(b:Bool):cv e bw x (j+1) (.bool b)=.bool b:=rfl
theorem atw:cv e bw x (j+1) (.int k m)=.int k m:=rfl
theorem atz:cv e bw x (j+1) (.str s)=.str s:=rfl
theorem atx  : cv e bw x (j+1) (.nil)=.nil:=rfl
theorem avh:cv e bw x (j+1) (.sl z rows)=.sl z rows:=rfl
theorem aom:cv e bw x (j+1) (.bG cs)=.bG cs:=rfl
theorem aty:cv e bw x (j+1) (.ref r)=xe (idx x r) (.ref) (eg (bm (!bw)) (bo e x j (dm (.ref r)))):=rfl
theorem aq8:cv e bw x (j+1) (.addr r o)=xe (idx x r) (λx=>.addr x o) (eg (bm (!bw)) (bo e x j (dm (.addr r o)))):=rfl
theorem avg(f:FuncId):cv e bw x (j+1) (.fn f cs)=.fn f  (cs.map (cv e bw x j)):=rfl
theorem atv:cv e bw x (j+1) (.agg cs)=.agg  (cs.map (cv e bw x j)):=rfl
def cvO(e:Env)(bw:Bool)(gs:List Nat)(k:Nat)(d:D):D:=AV bw gs e.o k d
@[congr] theorem alD{e:Env}{bw:Bool}{k:Nat}{d:D}(h:True->d=d'):cvO e bw gs k d=cvO e bw gs k d':=by rw[h trivial]
theorem aq6:cvO e bw x j (.box cs)=.box (cs.map (cv e bw x j)):=rfl
theorem aq7:cvO e bw x j (.own z rows)=.own z rows:=rfl
attribute [go_sem ↓] aur apL asf auP auO auM auN arG arF avW avV look_nil amB asH ar4 aoA alT alW alV agT aeP
attribute [go_sem] aqm apx av2 av1 agL aiN aiP aiO aes ajO amI amL amH apg ahf amJ amK ajN ahg ajQ ajP apf amF amG ajM ahe ajx amj aoV aoZ aoW arI ajw aoX aoY ami amk arH aoT aoU amh ajv aoE ari atJ atN atK avn aoD atL atM arh avm atH atI arf aoB ana apO asi asn aus asj asl apP asg aso ash apM am9 aq2 att atr avf atu aq1 aq3 ave aq4 aq9 atw atz atx avh aom aty aq8 avg atv aq6 aq7
mutual
/-- data that names no object -/
def Pl:D->Prop
 | .fn _ cs=>xN cs
 | .agg cs=>xN cs
 | .bD cs=>xN cs
 | .box _| .own _ _| .ref _| .addr _ _| .dO _ _ _ _| .gl _ _ _ _| .dZ _ _ _ _ _=>False
 | _=>True
def xN:List D->Prop
 | []=>True
 |d::l=>Pl d/\xN l
end
def aqT(b:Bool):Pl (.bool b)=True:=by rw[Pl.eq_def]
def ate:Pl (.int k m)=True:=by rw[Pl.eq_def]
def atg:Pl (.str s)=True:=by rw[Pl.eq_def]
def atf:Pl (.nil)=True:=by rw[Pl.eq_def]
def an2:Pl (.iZ)=True:=by rw[Pl.eq_def]
def avb:Pl (.sl z rows)=True:=by rw[Pl.eq_def]
def an1:Pl (.bG cs)=True:=by rw[Pl.eq_def]
def ava(f:FuncId):Pl (.fn f cs)=xN cs:=by rw[Pl]
def atd:Pl (.agg cs)=xN cs:=by rw[Pl]
def ath:Pl (.bD cs)=xN cs:=by rw[Pl]
def aqS:xN []=True:=by rw[xN]
def an0(d:D)(l:List D):xN (d::l)=(Pl d/\xN l):=by rw[xN]
theorem IB:∀{l:List D},xN l->∀d∈l,Pl d
 | [],_,d,h=>by cases h
 |x::l,h,d,hd=>by
  rw[xN]at h;rcases mem_cons.1 hd with rfl|hd
  ·exact h.1
  ·exact IB h.2 d hd
attribute [go_sem] aqT ate atg atf an2 avb an1 ava atd ath aqS an0
mutual
theorem Pl.names:∀(d:D),Pl d->d.names=[]
 | .fn _ cs,h=>by rw[Pl]at h;rw[D.names];exact xN.names cs h
 | .agg cs,h=>by rw[Pl]at h;rw[D.names];exact xN.names cs h
 | .bD cs,h=>by rw[Pl]at h;rw[D.names];exact xN.names cs h
 | .box _,h| .own _ _,h| .ref _,h| .addr _ _,h| .dO _ _ _ _,h| .gl _ _ _ _,h| .dZ _ _ _ _ _,h=>by rw[Pl]at h;exact h.elim
 | .undef,_| .bool _,_| .int _ _,_| .str _,_| .nil,_| .emp,_| .ot,_| .iZ,_| .jW,_| .qP,_| .sl _ _,_| .bG _,_=>by rw[D.names.eq_def]
theorem xN.names:∀(l:List D),xN l->D.cq l=[]
 | [],_=>by rw[D.cq]
 |d::l,h=>by rw[xN]at h;rw[D.cq,Pl.names d h.1,xN.names l h.2];rfl
end
mutual
theorem Pl.oU(f:Nat->Option Nat):∀(d:D),Pl d->d.oU f=d
 | .fn _ cs,h=>by rw[Pl]at h;rw[D.oU,xN.oU f cs h]
 | .agg cs,h=>by rw[Pl]at h;rw[D.oU,xN.oU f cs h]
 | .bD cs,h=>by rw[Pl]at h;rw[D.oU,xN.oU f cs h]
 | .box _,h| .own _ _,h| .ref _,h| .addr _ _,h| .dO _ _ _ _,h| .gl _ _ _ _,h| .dZ _ _ _ _ _,h=>by rw[Pl]at h;exact h.elim
 | .undef,_| .bool _,_| .int _ _,_| .str _,_| .nil,_| .emp,_| .ot,_| .iZ,_| .jW,_| .qP,_| .sl _ _,_| .bG _,_=>by rw[D.oU.eq_def]
theorem xN.oU(f:Nat->Option Nat):∀(l:List D),xN l->D.yG f l=l
 | [],_=>by rw[D.yG]
 |d::l,h=>by rw[xN]at h;rw[D.yG,Pl.oU f d h.1,xN.oU f l h.2]
end
theorem Pl.conv(bw:Bool)(gs:List Nat)(o:Nat->D):∀(k:Nat)(d:D),Pl d->conv bw gs o k d=d
 | 0,d,h=>by simp[Go.Abs.conv,sR,Pl.names d h]
 |k+1,d,h=>by
  have B:∀cs:List D,xN cs->cs.map (Go.Abs.conv bw gs o k)=cs:=by
   intro cs u
   conv=>rhs;rw[<-map_id cs]
   exact map_congr_left λd v=>Pl.conv bw gs o k d (IB u d v)
  cases d<;>try rfl
  all_goals rw[Pl]at h
  all_goals first|exact h.elim|skip
  all_goals simp only[Go.Abs.conv];rw[B _ h]

variable{fv fv':D}{S:Prop}{as ds':List D}{w:Array Edge}{p:String}{A:Option (Nat×Bool)}(rs:List Nat){l' G:List Nat}{C F:List (Nat×D)}(obs:List (Nat×D))(dv:D)
section
variable{P:Program}{e:Env}{dr:Bool}{K:Env->Prop}{d:Nat}{f:Operand}{args:List Operand}
def az.aP{k:FuncId}{ds:List D}(h:Spec P k [] ds [] fv)(Q:xN ds/\Pl fv/\K (cQ e d fv)):az P dr e d f args K S (.fn k hs') ds:=by
 rintro⟨v,u⟩;refine .inl ?_;have u:ds=args.map (rd e)++hs':=by rw[u,<-v];rfl
 obtain⟨B,E,N⟩:=Q;refine⟨[],[],false,[],fv,λ_=>⟨rfl,rfl⟩,?_⟩;show qT P e d args [] false [] fv (KW dr K) (rd e f);rw[<-v];refine⟨nodup_nil,by simp,by simp[nU],⟨fO _,by simp⟩,by simp,?_,?_⟩
 ·rw[<-u];have:ds.map (conv false [] e.o 4)=ds:=by
   conv=>rhs;rw[<-map_id ds]
   exact map_congr_left λd O=>Pl.conv false [] e.o 4 d (IB B d O)
  rw[this];exact h
 ·have:fM e d [] [] fv=cQ e d fv:=by
   unfold fM;rw[Pl.oU _ fv E];rfl
  rw[this];exact .inl N
def dL(P:Program)(e:Env)(d:Nat)(f:Operand)(args:List Operand)(K:Env->Prop)(gs:List Nat)(bw:Bool)(fv:D)(ds hs:List D):Prop:=
 fv=cv e bw gs 5 (rd e f)->ds=args.map (λx=>cv e bw gs 4 (rd e x))++sH (cv e bw gs 5 (rd e f))->hs=gs.map (λr=>cvO e bw gs 4 (e.o r))->∃hs' dv,qT P e d args gs bw hs' dv K (rd e f)
@[congr] theorem agm{bw:Bool}{ds:List D}(u:True->fv=fv')(v:True->ds=ds')(B:True->as=hs'):dL P e d f args K gs bw fv ds as=dL P e d f args K gs bw fv' ds' hs':=by rw[u trivial,v trivial,B trivial]
theorem az.iw(fz gs:List Nat)(bw:Bool)(u:dr=true->fz=[]/\gs=[])(h:dL P (iY fz e) d f args K gs bw (cv (iY fz e) bw gs 5 (rd (iY fz e) f)) (args.map (λx=>cv (iY fz e) bw gs 4 (rd (iY fz e) x))++sH (cv (iY fz e) bw gs 5 (rd (iY fz e) f))) (gs.map (λr=>cvO (iY fz e) bw gs 4 ((iY fz e).o r)))) :
  az P dr e d f args K S fv as:=by
 intro _;obtain⟨hs',dv,h⟩:=h rfl rfl rfl;exact .inl ⟨fz,gs,bw,hs',dv,u,vc (λ_=>.inl) h⟩
def WY(P:Program)(e:Env)(d:Nat)(f:Operand)(args:List Operand)(K:Env->Prop)(gs:List Nat)(bw:Bool)(fv:D)(ds hs:List D):Prop:=
 fv=cv e bw gs 5 (rd e f)->ds=args.map (λx=>cv e bw gs 4 (rd e x))++sH (cv e bw gs 5 (rd e f))->hs=gs.map (λr=>cvO e bw gs 4 (e.o r))->∃Φ,Ja P e d args gs bw Φ K (rd e f)
@[congr] theorem ago{bw:Bool}{ds:List D}(u:True->fv=fv')(v:True->ds=ds')(B:True->as=hs'):WY P e d f args K gs bw fv ds as=WY P e d f args K gs bw fv' ds' hs':=by rw[u trivial,v trivial,B trivial]
def DE(r:Nat):List Nat->Prop
 | []=>True
 |x::l=>r≠x/\DE r l
def zy:List Nat->Prop
 | []=>True
 |x::l=>DE x l/\zy l
theorem aj1:DE r []=True:=rfl
theorem ahi(x:Nat)(l:List Nat):DE r (x::l)=(r≠x/\DE r l):=rfl
theorem aj0:zy []=True:=rfl
theorem ahh(x:Nat)(l:List Nat):zy (x::l)=(DE x l/\zy l):=rfl
theorem KH{r:Nat}:∀{l:List Nat},DE r l->r∉l
 | [],_,h=>by cases h
 |x::l,⟨h1,h2⟩,h=>by
  rcases mem_cons.1 h with rfl|h
  ·exact h1 rfl
  ·exact KH h2 h
theorem DD:∀{l:List Nat},zy l->l.Nodup
 | [],_=>nodup_nil
 |x::l,⟨h1,h2⟩=>nodup_cons.2 ⟨KH h1,DD h2⟩
def W4(d:D):Prop:=gz d=false
def PJ(e:Env):List Nat->Prop
 | []=>True
 |r::rs=>W4 (e.o r)/\PJ e rs
def I7(e:Env):List Nat->Prop
 | []=>True
 |r::rs=>Yo (e.o r)/\I7 e rs
theorem anJ:PJ e []=True:=rfl
theorem akR:PJ e (r::rs)=(W4 (e.o r)/\PJ e rs):=rfl
theorem anK:I7 e []=True:=rfl
theorem akS:I7 e (r::rs)=(Yo (e.o r)/\I7 e rs):=rfl
@[congr] theorem ahS{l:List Nat}(h:True->l=l'):I7 e l=I7 e l':=by rw[h trivial]
theorem as7(d:D):W4 d=(gz d=false):=rfl
theorem I6:∀{rs:List Nat},PJ e rs->∀r∈rs,e.o r≠.undef
 | [],_,r,h=>by cases h
 |x::rs,⟨h1,h2⟩,r,h=>by
  rcases mem_cons.1 h with rfl|h
  ·intro u;unfold W4 at h1;rw[u]at h1;exact Bool.noConfusion h1
  ·exact I6 h2 r h
theorem I8:∀{rs:List Nat},I7 e rs->∀r∈rs,e.o r=.undef
 | [],_,r,h=>by cases h
 |x::rs,⟨h1,h2⟩,r,h=>by
  rcases mem_cons.1 h with rfl|h
  ·exact h1
  ·exact I8 h2 r h
def akf:List (Nat×D)->Env->Env
 | [],e=>e
 |x::l,e=>akf l (eV e x.1 x.2)
def WX(f:Nat->Option Nat):List Nat->List D->List (Nat×D)
 |r::rs,h::hs=>(r,h.oU f)::WX f rs hs
 | _,_=>[]
theorem GL(f:Nat->Option Nat):∀(ns:List Nat)(hs:List D)(e:Env),K6 f ns hs e=akf (WX f ns hs) e
 | [],_,_=>rfl
 | _::_,[],_=>rfl
 |r::rs,h::hs,e=>GL f rs hs (eV e r (h.oU f))
def PsE(e:Env)(d:Nat)(K:Env->Prop)(u:List Nat)(obs:List (Nat×D))(dv:D):Prop:=K (cQ (akf obs (Bn u e)) d dv)
@[congr] theorem ala(u:True->gs=l')(v:True->C=F)(B:True->fv=d'):PsE e d K gs C fv=PsE e d K l' F d':=by rw[u trivial,v trivial,B trivial]
theorem an3:PsE e d K (r::x) obs dv=PsE (nr r e) d K x obs dv:=rfl
theorem aqV(x:Nat×D):PsE e d K [] (x::obs) dv=PsE (eV e x.1 x.2) d K [] obs dv:=rfl
theorem aqU:PsE e d K [] [] dv=K (cQ e d dv):=rfl
def PsN(e:Env)(d:Nat)(K:Env->Prop)(gs:List Nat)(hs':List D)(dv:D)(ns:List Nat):Prop:=PsE e d K (nR gs hs') (WX (NJ ns) ns hs') (dv.oU (NJ ns))
@[congr] theorem alb(u:True->l'=G):PsN e d K gs hs' fv l'=PsN e d K gs hs' fv G:=by rw[u trivial]
theorem ati(gs:List Nat):PsN e d K gs cs dv x=PsE e d K (lm (nR gs cs)) (WX (NJ x) x cs) (dv.oU (NJ x)):=rfl
def qT.intro{gs:List Nat}{bw:Bool}{k:FuncId}{v ds hs hs':List D}{dv:D}(h:Spec P k hs ds hs' dv)
  (Q:zy gs/\PJ e gs/\I7 e (lm (nU d 0 (hs'.length-gs.length)))/\gs.length<=hs'.length/\hs'.length<=gs.length+16/\(bw=true->uV dv/\∀h∈hs',zw h)/\PsN e d K gs hs' dv (lm (ig d gs hs'))) :
  D.fn k v=cv e bw gs 5 (rd e f)->ds=args.map (λx=>cv e bw gs 4 (rd e x))++sH (cv e bw gs 5 (rd e f))->hs=gs.map (λr=>cvO e bw gs 4 (e.o r))->qT P e d args gs bw hs' dv K (rd e f):=by
 intro u E O;obtain⟨k1,k2,k3,R,T,U,N⟩:=Q;rw[<-u]at E;cases B:rd e f
 case fn k0 caps0 =>
  rw[B]at u;simp only[cv,conv,D.fn.injEq]at u;obtain⟨rfl,rfl⟩:=u;refine⟨DD k1,I6 k2,I8 k3,⟨R,T⟩,U,?_,?_⟩
  ·subst E;subst O;rw[jv,map_map];exact h
  ·unfold PsN PsE at N;unfold fM;rw[GL];exact N
 all_goals rw[B]at u;simp only[cv,conv]at u
 all_goals exfalso
 all_goals first
  |cases u
  | (rename_i r;cases hi:idx gs r<;>rw[hi]at u<;>cases bw<;>simp only[xe,eg,qS,Bool.not_false,Bool.not_true,if_true,Bool.false_eq_true,if_false]at u<;>first|cases u| (split at u<;>first|cases u| (unfold vZ at u;split at u<;>cases u)))
  | (rename_i r _;cases hi:idx gs r<;>rw[hi]at u<;>cases bw<;>simp only[xe,eg,qS,Bool.not_false,Bool.not_true,if_true,Bool.false_eq_true,if_false]at u<;>first|cases u| (split at u<;>first|cases u| (unfold qn at u;split at u<;>cases u)))
  | (rename_i r _ _ _;cases hi:idx gs r<;>rw[hi]at u<;>cases bw<;>simp only[xe,eg,qS,Bool.not_false,Bool.not_true,if_true,Bool.false_eq_true,if_false]at u<;>first|cases u| (split at u<;>first|cases u| (unfold xR at u;split at u<;>(try split at u)<;>cases u)| (unfold qo at u;split at u<;>(try split at u)<;>cases u)| (unfold ni at u;split at u<;>(try split at u)<;>cases u)))
  | (rename_i r _ _ _ _;cases hi:idx gs r<;>rw[hi]at u<;>cases bw<;>simp only[xe,eg,qS,Bool.not_false,Bool.not_true,if_true,Bool.false_eq_true,if_false]at u<;>first|cases u| (split at u<;>first|cases u| (unfold xR at u;split at u<;>(try split at u)<;>cases u)| (unfold qo at u;split at u<;>(try split at u)<;>cases u)| (unfold ni at u;split at u<;>(try split at u)<;>cases u)))
def dL.ij{gs:List Nat}{bw:Bool}{k:FuncId}{u ds hs hs':List D}{dv:D}(h:Spec P k hs ds hs' dv)
  (N:zy gs/\PJ e gs/\I7 e (lm (nU d 0 (hs'.length-gs.length)))/\gs.length<=hs'.length/\hs'.length<=gs.length+16/\(bw=true->uV dv/\∀h∈hs',zw h)/\PsN e d K gs hs' dv (lm (ig d gs hs'))) :
  dL P e d f args K gs bw (.fn k u) ds hs:=λv B E=>⟨hs',dv,qT.intro h N v B E⟩
def Vq(l:List Nat):Prop:=l=[]
@[congr] theorem ad7{l:List Nat}(h:True->l=l'):Vq l=Vq l':=by rw[h trivial]
def ND(P:Program)(e:Env)(d:Nat)(f:Operand)(args:List Operand)(K:Env->Prop)(gs:List Nat)(fv:D)(ds hs:List D):Prop:=
 fv=cv e false gs 5 (rd e f)->ds=args.map (λx=>cv e false gs 4 (rd e x))++sH (cv e false gs 5 (rd e f))->hs=gs.map (λr=>cvO e false gs 4 (e.o r))->∃hs' dv,nR gs hs'=[]/\qT P e d args gs false hs' dv K (rd e f)
@[congr] theorem agl{ds:List D}(u:True->fv=fv')(v:True->ds=ds')(B:True->as=hs'):ND P e d f args K gs fv ds as=ND P e d f args K gs fv' ds' hs':=by rw[u trivial,v trivial,B trivial]
theorem ND.intro{gs:List Nat}{k:FuncId}{v ds hs hs':List D}{dv:D}(h:Spec P k hs ds hs' dv)
  (u:Vq (lm (nR gs hs'))/\zy gs/\PJ e gs/\I7 e (lm (nU d 0 (hs'.length-gs.length)))/\gs.length<=hs'.length/\hs'.length<=gs.length+16/\PsN e d K gs hs' dv (lm (ig d gs hs'))) :
  ND P e d f args K gs (.fn k v) ds hs:=λB E N=>⟨hs',dv,u.1,qT.intro h ⟨u.2.1,u.2.2.1,u.2.2.2.1,u.2.2.2.2.1,u.2.2.2.2.2.1,(λh=>by cases h),u.2.2.2.2.2.2⟩ B E N⟩
def RW.aun{np:Nat}{ops:List Oper}{o:Oper}(gs:List Nat)(hr:gs.all (λr=>(LG np ops (args.headD (.global 0))).contains r)=true)
  (h:AoK np ops o (Lf e 5 (lm (gs++D.cq (rd e f::args.map (rd e)))))/\ND P e d f args K gs (cv e false gs 5 (rd e f)) (args.map (λx=>cv e false gs 4 (rd e x))++sH (cv e false gs 5 (rd e f))) (gs.map (λr=>cvO e false gs 4 (e.o r)))):RW P np ops o e d f args K fv as:=by
 intro _;obtain⟨hs',dv,u,v⟩:=h.2 rfl rfl rfl;exact⟨gs,hs',dv,(λr B=>contains_iff_mem.1 (cg.1 hr r B)),h.1,u,v⟩
def WY.intro{gs:List Nat}{bw:Bool}{k:FuncId}{v ds hs:List D}{Φ:List D->D->Prop}(h:Eg P k hs ds Φ)
  (k1:zy gs) (k2:PJ e gs) (Q:∀hs' dv,Φ hs' dv->I7 e (lm (nU d 0 (hs'.length-gs.length)))/\gs.length<=hs'.length/\hs'.length<=gs.length+16/\(bw=true->uV dv/\∀h∈hs',zw h)/\PsN e d K gs hs' dv (lm (ig d gs hs'))) :
  WY P e d f args K gs bw (.fn k v) ds hs:=by
 intro u E O;refine⟨Φ,?_⟩;rw[<-u]at E;cases B:rd e f
 case fn k0 caps0 =>
  rw[B]at u;simp only[cv,conv,D.fn.injEq]at u;obtain⟨rfl,rfl⟩:=u;refine⟨DD k1,I6 k2,?_,λhs' dv R=>?_⟩
  ·subst E;subst O;rw[jv,map_map];exact h
  ·obtain⟨k3,T,U,V,N⟩:=Q hs' dv R;refine⟨I8 k3,⟨T,U⟩,V,?_⟩;unfold PsN PsE at N;unfold fM;rw[GL];exact N
 all_goals rw[B]at u;simp only[cv,conv]at u
 all_goals exfalso
 all_goals first
  |cases u
  | (rename_i r;cases hi:idx gs r<;>rw[hi]at u<;>cases bw<;>simp only[xe,eg,qS,Bool.not_false,Bool.not_true,if_true,Bool.false_eq_true,if_false]at u<;>first|cases u| (split at u<;>first|cases u| (unfold vZ at u;split at u<;>cases u)))
  | (rename_i r _;cases hi:idx gs r<;>rw[hi]at u<;>cases bw<;>simp only[xe,eg,qS,Bool.not_false,Bool.not_true,if_true,Bool.false_eq_true,if_false]at u<;>first|cases u| (split at u<;>first|cases u| (unfold qn at u;split at u<;>cases u)))
  | (rename_i r _ _ _;cases hi:idx gs r<;>rw[hi]at u<;>cases bw<;>simp only[xe,eg,qS,Bool.not_false,Bool.not_true,if_true,Bool.false_eq_true,if_false]at u<;>first|cases u| (split at u<;>first|cases u| (unfold xR at u;split at u<;>(try split at u)<;>cases u)| (unfold qo at u;split at u<;>(try split at u)<;>cases u)| (unfold ni at u;split at u<;>(try split at u)<;>cases u)))
  | (rename_i r _ _ _ _;cases hi:idx gs r<;>rw[hi]at u<;>cases bw<;>simp only[xe,eg,qS,Bool.not_false,Bool.not_true,if_true,Bool.false_eq_true,if_false]at u<;>first|cases u| (split at u<;>first|cases u| (unfold xR at u;split at u<;>(try split at u)<;>cases u)| (unfold qo at u;split at u<;>(try split at u)<;>cases u)| (unfold ni at u;split at u<;>(try split at u)<;>cases u)))
attribute [go_sem] aj1 ahi aj0 ahh as7 an3 aqV aqU ati
attribute [go_sem ↓] anJ akR anK akS
end
variable(hs:List D)
theorem aqE(f:Nat->Option Nat):WX f [] hs=[]:=rfl
variable(h:D)
theorem anI(f:Nat->Option Nat):WX f (r::rs) (h::hs)=(r,h.oU f)::WX f rs hs:=rfl
theorem atl:NJ x i=x[i]?:=rfl
theorem alE:nR [] hs=[]:=rfl
variable(g:Nat)
theorem aiR(gs:List Nat):nR (g::gs) (h::hs)=if gz h then g::nR gs hs else nR gs hs:=rfl
variable(d:Nat)
theorem als(gs:List Nat):ig d gs cs=gs++nU d 0 (cs.length-gs.length):=rfl
theorem ajW(k:Nat):nU d k 0=[]:=rfl
theorem ajV(k m:Nat):nU d k (m+1)=nm d k::nU d (k+1) m:=rfl
theorem ark:idx [] r=none:=rfl
theorem aoJ(gs:List Nat):idx (g::gs) r=if g=r then some 0 else(idx gs r).map (· + 1):=rfl
theorem alQ:iY [] e=e:=rfl
theorem aje:iY (r::rs) e=iY rs (CH r e):=rfl
theorem atG:(CH r e).t j=fz e r (e.t j):=Eq.trans rfl rfl
theorem atF:(CH r e).o j=if j=r then .undef else fz e r (e.o j):=Eq.trans rfl rfl
attribute [go_sem] aqE anI atl alE aiR als ajW ajV ark aoJ
attribute [go_sem ↓] alQ aje atG atF
attribute [go_sem] or_false false_or
theorem alr:vZ (.own z rows)=.sl z rows:=rfl
theorem aiz(f:D->D):qn f o (.box cs)=.bG ((cs.drop o).map f):=rfl
variable(z':Nat)
theorem alq(len:Nat):ni o z len (.box cs)=if((cs.drop o).take (len*z)).all KV&&decide (o+len*z<=cs.length)then .sl z (rowsOf z len (cs.drop o))else .undef:=rfl
attribute [go_sem] alr aiz alq
attribute [go_sem] uV zx uU zw mM
attribute [go_sem] sR isEmpty_nil isEmpty_cons
theorem adJ:gz (.undef)=true:=rfl
theorem ag1:gz (.own z rows)=false:=rfl
theorem ag0:gz (.box cs)=false:=rfl
variable{I:Nat->Bool}{H:Nat->Option Nat}{u':D}
@[congr] theorem amr{d u:D}(h:True->d=d')(v:True->u=u'):nT H I d u=nT H I d' u':=by rw[h trivial,v trivial]
variable(lv:Nat->Bool)(rh:Nat->Option Nat)
variable(a:Bool)
def ao5(b:Bool):nT rh lv (.bool a) (.bool b)=(a=b):=by simp[nT]
variable(k':IntKind)
def arQ(a b:Int):nT rh lv (.int k a) (.int k' b)=(k=k'/\a=b):=by simp[nT]
def arT(a b:ByteArray):nT rh lv (.str a) (.str b)=(a=b):=by simp[nT]
def at9(a b:List (List D)):nT rh lv (.sl z a) (.sl z' b)=(z=z'/\a=b):=by simp[nT]
def ams(a b:List D):nT rh lv (.bG a) (.bG b)=(a=b):=by simp[nT]
def arR  : nT rh lv (.nil) (.nil)=True:=by simp[nT]
def amu(a:List (List D)):nT rh lv (.nil) (.sl z a)=(a=[]):=by simp[nT]
def ajD(s:Nat):nT rh lv (.nil) (.ref s)=(rh s=none/\lv s=true):=by simp[nT]
def arS(s:Nat):nT rh lv (.ref r) (.ref s)=(rh s=some r/\lv s=true):=by simp[nT]
variable(b:Nat)
def ao4(s a:Nat):nT rh lv (.addr r a) (.addr s b)=(rh s=some r/\lv s=true/\a=b):=by simp[nT]
variable(b1 a1 b2:Nat)
def ao7(s a:Nat):nT rh lv (.gl r a a1 z) (.gl s b b1 b2)=(rh s=some r/\lv s=true/\a=b/\a1=b1/\z=b2):=by simp[nT]
variable(b3:Nat)
def ao6(s a:Nat):nT rh lv (.dZ r a a1 z j) (.dZ s b b1 b2 b3)=(rh s=some r/\lv s=true/\a=b/\a1=b1/\z=b2/\j=b3):=by simp[nT]
def arP(a b:List D):nT rh lv (.agg a) (.agg b)=nM rh lv a b:=by simp[nT]
def arU(a b:List D):nT rh lv (.bD a) (.bD b)=nM rh lv a b:=by simp[nT]
variable(f':FuncId)
def at8(f:FuncId)(a b:List D):nT rh lv (.fn f a) (.fn f' b)=(f=f'/\nM rh lv a b):=by simp[nT]
def ao3  : nM rh lv [] []=True:=by simp[nM]
def amq(a b:D)(x:List D):nM rh lv (a::x) (b::cs)=(nT rh lv a b/\nM rh lv x cs):=by simp[nM]
@[congr] theorem ajC{d u:List D}(h:True->d=hs')(v:True->u=as):nM H I d u=nM H I hs' as:=by rw[h trivial,v trivial]
@[congr] theorem amv{d u:D}(h:True->d=d')(v:True->u=u'):Ze H I d u=Ze H I d' u':=by rw[h trivial,v trivial]
theorem arV(a b:List D):Ze rh lv (.box a) (.box b)=nM rh lv a b:=by simp[Ze]
def arW(a b:List (List D)):Ze rh lv (.own z a) (.own z' b)=(z=z'/\a=b):=by simp[Ze]
def apG(b:Bool)(x:D):Al (.bool b) x=[]:=by cases x<;>simp[Al]
def ar9(x:D):Al (.int k m) x=[]:=by cases x<;>simp[Al]
def asc(x:D):Al (.str s) x=[]:=by cases x<;>simp[Al]
def ar'  (x:D):Al (.nil) x=[]:=by cases x<;>simp[Al]
def auq(x:D):Al (.sl z rows) x=[]:=by cases x<;>simp[Al]
def am6(x:D):Al (.bG cs) x=[]:=by cases x<;>simp[Al]
def asa(x:D):Al (.own z rows) x=[]:=by cases x<;>simp[Al]
def asb(s:Nat):Al (.ref s) (.ref r)=[(s,some r)]:=by simp[Al]
def akd(s:Nat):Al (.ref s) .nil=[(s,none)]:=by simp[Al]
def apF(s a:Nat):Al (.addr s a) (.addr r b)=[(s,some r)]:=by simp[Al]
def apI(s a:Nat):Al (.gl s a a1 z) (.gl r b b1 b2)=[(s,some r)]:=by simp[Al]
def apH(s a:Nat):Al (.dZ s a a1 z j) (.dZ r b b1 b2 b3)=[(s,some r)]:=by simp[Al]
def ar7(a b:List D):Al (.agg a) (.agg b)=E2 a b:=by simp[Al]
def asd(a b:List D):Al (.bD a) (.bD b)=E2 a b:=by simp[Al]
def ar8(a b:List D):Al (.box a) (.box b)=E2 a b:=by simp[Al]
def aup(f:FuncId)(a b:List D):Al (.fn f a) (.fn f' b)=E2 a b:=by simp[Al]
def apC(x:List D):E2 [] x=[]:=by simp[E2]
def am3(a b:D)(x:List D):E2 (a::x) (b::cs)=Al a b++E2 x cs:=by simp[E2]
variable{J:List (Nat×Option Nat)}{M:EL}{L:Nat}(t:TypeId)
attribute [go_sem] adJ ag1 ag0 ao5 arQ arT at9 ams arR amu ajD arS ao4 ao7 ao6 arP arU at8 ao3 amq arV arW asb akd apF apI apH ar7 asd ar8 aup apC am3
attribute [go_sem ↓] apG ar9 asc ar' auq am6 asa
section
variable{P:Program}{e:Env}
theorem apE:Wi e []=[]:=rfl
theorem am5(d:D)(r:EL):Wi e ((i,d)::r)=Al (dm d) (e.t i)++Wi e r:=rfl
theorem apD(l:List (Nat×Option Nat)):ZM e l []=[]:=rfl
theorem am4(l:List (Nat×Option Nat))(d:D)(r:EL):ZM e l ((i,d)::r)=Al (dm d) (oAt e (oV l i))++ZM e l r:=rfl
@[congr] theorem amP{o:Option Nat}(h:True->o=o'):oAt e o=oAt e o':=by rw[h trivial]
theorem apl:oAt e (some r)=e.o r:=rfl
theorem apk:oAt e none=.undef:=rfl
theorem asp(s:Nat):oV [] s=some s:=rfl
theorem ap0(o:Option Nat)(r:List (Nat×Option Nat))(s:Nat):oV ((i,o)::r) s=if s=i then o else oV r s:=rfl
theorem arl(s:Nat):Vm [] s=false:=rfl
theorem aoK(d:D)(r:EL)(s:Nat):Vm ((i,d)::r) s=if s=i then true else Vm r s:=rfl
@[congr] theorem ak5{m:Nat}{ts os:EL}{l:List (Nat×Option Nat)}(h:True->l=J):LeP m e ts os l=LeP m e ts os J:=by rw[h trivial]
@[congr] theorem ak7{m:Nat}{ts os:EL}{l:List (Nat×Option Nat)}(h:True->l=J):LeR m e ts os l=LeR m e ts os J:=by rw[h trivial]
theorem as8:Mv e ts os=LeP 16 e ts os (lm (Wi e ts)):=rfl
theorem as9(m:Nat):LeM m e ts os=LeP m e ts os (lm (Wi e ts)):=rfl
theorem ata(m:Nat)(l:List (Nat×Option Nat)):LeP m e ts os l=LeR m e ts os (lm (l++ZM e l os)):=rfl
theorem atb(m:Nat)(l:List (Nat×Option Nat)):LeR m e ts os l=(Yp e (oV l) os ts/\Mw m e (oV l) os os):=rfl
theorem anX:Yp e rh os []=True:=rfl
theorem ak8(d:D)(r:EL):Yp e rh os ((i,d)::r)=(nT rh (Vm os) (dm (e.t i)) d/\Yp e rh os r):=rfl
@[congr] theorem ah7{os:EL}{d:D}{o:Option Nat}(h:True->o=o'):PM e H os d o=PM e H os d o':=by rw[h trivial]
theorem ak3(d:D):PM e rh os d (some r)=Ze rh (Vm os) (dm (e.o r)) d:=rfl
theorem ak2(d:D):PM e rh os d none=Kh d:=rfl
theorem ajp:Kh (.own z rows)=(rows=[]):=rfl
theorem ae'(o:Option Nat):nx o rh []=True:=rfl
def adM(x:Nat×D)(r:EL):nx none rh (x::r)=nx none rh r:=by simp[nx]
theorem adO(a:Nat)(d:D)(r:EL):nx (some a) rh ((i,d)::r)=(rh i≠some a/\nx (some a) rh r):=rfl
@[congr] theorem ack{o:Option Nat}{os:EL}(h:True->o=o'):nx o H os=nx o' H os:=by rw[h trivial]
theorem ai7(m s:Nat):N6 m s (some r)=(m<=s\/r=s):=by simp[N6]
def ai6(m s:Nat):N6 m s none=(m<=s):=by simp[N6]
theorem anW(m:Nat):Mw m e rh os []=True:=rfl
theorem ak4(m:Nat)(d:D)(r:EL):Mw m e rh os ((i,d)::r)=(Vm r i=false/\PM e rh os d (rh i)/\nx (rh i) rh r/\N6 m i (rh i)/\Mw m e rh os r):=rfl
attribute [go_sem ↓] apE am5 apD am4 as8 as9 anX ak8 anW ak4
attribute [go_sem] apl apk asp ap0 arl aoK ata atb ak3 ak2 ajp ae' adM adO ai7 ai6
attribute [go_sem] Nat.zero_le qN Bool.true_eq_false Bool.false_eq_true ne_eq not_false_eq_true

def rtK(m:Nat)(hs':List D)(d:D)(e:Env)(v:D):Prop:=LeM m (DM v e) (lm [(0,d)]) (vT 0 hs')
def W5(m:Nat)(e:Env)(ts os:EL):Prop:=LeM m e ts os
theorem aut(m:Nat)(d v:D):rtK m cs d e v=W5 (nk m) (DM v e) [(0,d)] (lm (vT 0 cs)):=rfl
@[congr] theorem agy{m:Nat}{ts os:EL}(u:True->m=L)(h:True->os=M):W5 m e ts os=W5 L e ts M:=by rw[u trivial,h trivial]
theorem anZ(m:Nat):W5 m e ts os=LeM m e ts os:=rfl
theorem aqW(rs:List ResultVar)(m:Nat)(d:D):Vr P rs m cs d e=(DL P e rs/\Norm (dm (Nq P e rs)) (rtK m cs d e)):=rfl
theorem apX(v:D):(DM v e).t j=if j=0 then v else .undef:=Eq.trans rfl rfl
theorem apW(v:D):(DM v e).o j=e.o j:=Eq.trans rfl rfl
theorem akl:DL P e []=True:=rfl
theorem ahz(r:ResultVar)(rs:List ResultVar):DL P e (r::rs)=(Lz P e r/\DL P e rs):=rfl
theorem anc(t:Nat):Lz P e (.tmp t)=True:=rfl
def akm(a:Nat):Lz P e (.cell a t)=Hr e (jx P t) (e.t a):=by simp only[Lz,Hr]<;>rfl
theorem apS(t:Nat):LA P e (.tmp t)=e.t t:=rfl
def ane(a:Nat):LA P e (.cell a t)=ldT e (jx P t) (e.t a):=by simp only[LA,ldT]<;>rfl
theorem apQ(r:ResultVar):Nq P e [r]=LA P e r:=rfl
theorem apR(a b:ResultVar)(l:List ResultVar):Nq P e (a::b::l)=.bD ((a::b::l).map (LA P e)):=rfl
theorem anb:Nq P e []=.bD []:=rfl
attribute [go_sem ↓] aut aqW apX apW akl ahz anc akm apS ane apQ apR anb
attribute [go_sem] anZ
end

variable(op:BinOp)
theorem aoe(a b:Int):CC op (.int k a) (.int k' b)=MQ op k a b:=rfl
theorem aof(a b:ByteArray):CC op (.str a) (.str b)=sop op a b:=rfl
theorem alm(b:Bool):CC op (.bool a) (.bool b)=N8 op (a==b):=rfl
theorem aod(a b:List D):CC op (.agg a) (.agg b)=N8 op (eZ a b):=rfl
theorem aq0:CC op .iZ .iZ=N8 op true:=rfl
theorem ara(b:Bool):N8 .eql b=.bool b:=rfl
theorem arb(b:Bool):N8 .neq b=.bool (!b):=rfl
theorem aep(a b:D)(x:List D):eZ (a::x) (b::cs)=(AQ a b&&eZ x cs):=rfl
def agK:eZ [] cs=true:=by simp[eZ]
theorem aiE(a b:Int):AQ (.int k a) (.int k' b)=(a==b):=rfl
theorem agI(b:Bool):AQ (.bool a) (.bool b)=(a==b):=rfl
attribute [go_sem] aoe aof alm aod aq0 ara arb aep agK aiE agI
section
variable{P:Program}
theorem alj(c:Bool)(a b:Int):AJ P c op t (.int k a) (.int k' b)=sj op k k' b:=rfl
theorem alk(c:Bool)(a b:ByteArray):AJ P c op t (.str a) (.str b)=Pp op a b:=rfl
theorem aiw(c:Bool)(b:Bool):AJ P c op t (.bool a) (.bool b)=(isEq op/\fD P t=.bool):=rfl
theorem ali(c:Bool)(a b:List D):AJ P c op t (.agg a) (.agg b)=(isEq op/\Gp P t=true/\yf (lW P 9 t) a b):=rfl
theorem aoc(c:Bool):AJ P c op t .iZ .iZ=(isEq op/\isIface P t=true/\c=true):=rfl
attribute [go_sem] alj alk aiw ali aoc
end
def aoM:isEq .eql=True:=by simp[isEq]
def aoN:isEq .neq=True:=by simp[isEq]
attribute [go_sem] aoM aoN
attribute [go_sem] isConst
variable(ls:List xL)
theorem abZ(a b:List D):yf (some ls) a b=gS ls a b:=rfl
theorem ae3:gS [] [] []=True:=rfl
theorem adL(l:xL)(a b:D)(x:List D):gS (l::ls) (a::x) (b::cs)=(Ks l a b/\gS ls x cs):=rfl
theorem ajE(a b:Int):Ks .int (.int k a) (.int k' b)=(k=k'):=rfl
theorem ag8(b:Bool):Ks .bool (.bool a) (.bool b)=True:=rfl
theorem arn(a b:Int):MQ .add k a b=.int k (k.wrap (a+b)):=rfl
theorem arB(a b:Int):MQ .sub k a b=.int k (k.wrap (a-b)):=rfl
theorem arv(a b:Int):MQ .mul k a b=.int k (k.wrap (a*b)):=rfl
theorem arx(a b:Int):MQ .quo k a b=.int k (k.wrap (a.tdiv b)):=rfl
theorem ary(a b:Int):MQ .rem k a b=.int k (a.tmod b):=rfl
theorem arp(a b:Int):MQ .eql k a b=.bool (a==b):=rfl
theorem arw(a b:Int):MQ .neq k a b=.bool (a != b):=rfl
theorem aru(a b:Int):MQ .lss k a b=.bool (decide (a<b)):=rfl
theorem art(a b:Int):MQ .leq k a b=.bool (decide (a<=b)):=rfl
theorem ars(a b:Int):MQ .gtr k a b=.bool (decide (b<a)):=rfl
theorem arq(a b:Int):MQ .geq k a b=.bool (decide (b<=a)):=rfl
def Dz(k:IntKind)(a b:Int):Int:=k.wrap (a*2^(min b.toNat k.bits))
def Bl(k:IntKind)(a b:Int):Int:=a.fdiv (2^(min b.toNat k.bits))
def aeT(k:IntKind)(a b:Int):Int:=k.wrap (BitVec.ofInt k.bits a &&& BitVec.ofInt k.bits b).toNat
def ior(k:IntKind)(a b:Int):Int:=k.wrap (BitVec.ofInt k.bits a |||BitVec.ofInt k.bits b).toNat
def aeY(k:IntKind)(n:Int):Int:=k.wrap (BitVec.ofInt k.bits (if k.signed then -1 else k.max) ^^^ BitVec.ofInt k.bits n).toNat
theorem arz(a b:Int):MQ .shl k a b=.int k (Dz k a b):=rfl
theorem arA(a b:Int):MQ .shr k a b=.int k (Bl k a b):=rfl
theorem aro(a b:Int):MQ .and k a b=.int k (aeT k a b):=rfl
theorem atQ(a b:Int):MQ .or k a b=.int k (ior k a b):=rfl
theorem al1(b:Int):sj .add k k' b=(k=k'):=rfl
theorem amd(b:Int):sj .sub k k' b=(k=k'):=rfl
theorem al8(b:Int):sj .mul k k' b=(k=k'):=rfl
theorem al'(b:Int):sj .quo k k' b=(k=k'/\b≠0):=rfl
theorem ama(b:Int):sj .rem k k' b=(k=k'/\b≠0):=rfl
theorem al3(b:Int):sj .eql k k' b=(k=k'):=rfl
theorem al9(b:Int):sj .neq k k' b=(k=k'):=rfl
theorem al7(b:Int):sj .lss k k' b=(k=k'):=rfl
theorem al6(b:Int):sj .leq k k' b=(k=k'):=rfl
theorem al5(b:Int):sj .gtr k k' b=(k=k'):=rfl
theorem al4(b:Int):sj .geq k k' b=(k=k'):=rfl
theorem al2(b:Int):sj .and k k' b=(k=k'):=rfl
theorem aoL(b:Int):sj .or k k' b=(k=k'):=rfl
theorem amb(b:Int):sj .shl k k' b=(0<=b):=rfl
theorem amc(b:Int):sj .shr k k' b=(0<=b):=rfl
theorem asw(a b:ByteArray):sop .add a b=.str (a++b):=rfl
theorem asx(a b:ByteArray):sop .eql a b=.bool (a.toList==b.toList):=rfl
theorem asz(a b:ByteArray):sop .neq a b=.bool (!(a.toList==b.toList)):=rfl
theorem anp(a b:ByteArray):Pp .add a b=(a.size+b.size<=2^62):=rfl
theorem anq(a b:ByteArray):Pp .eql a b=True:=rfl
theorem anr(a b:ByteArray):Pp .neq a b=True:=rfl
theorem anC(b:Bool):BY .not (.bool b)=.bool (!b):=rfl
theorem anB(n:Int):BY .neg (.int k n)=.int k (k.wrap (0-n)):=rfl
theorem anD(n:Int):BY .xor (.int k n)=.int k (aeY k n):=rfl
def akL(b:Bool):xJ .not (.bool b)=True:=by simp[xJ]
def akK(n:Int):xJ .neg (.int k n)=True:=by simp[xJ]
def akM(n:Int):xJ .xor (.int k n)=True:=by simp[xJ]
theorem alC(s:Ty)(n:Int):NY s (.int k) (.int k' n)=.int k (k.wrap n):=rfl
def aiQ(k1 k2:IntKind)(n:Int):JJ (.int k1) (.int k2) (.int k n)=True:=by simp[JJ]
theorem ajX:ach (.addr r o)=True:=rfl
def JT:List FT->Nat->Nat
 | [],_=>0
 |x::_,0=>x.off
 | _::r,n+1=>JT r n
theorem II:∀(fs:List FT)(f:Nat),((fs[f]?).map (·.off)).getD 0=JT fs f
 | [],f=>by simp[JT]
 |x::r,0=>by simp[JT]
 |x::r,n+1=>by simp[JT,II r n]
theorem alH(x:FT)(r:List FT):JT (x::r) 0=x.off:=rfl
variable(n:Nat)
theorem alG(x:FT)(r:List FT):JT (x::r) (n+1)=JT r n:=rfl
variable(fs:List FT)
def aor(f:Nat):faV fs f (.addr r o)=.addr r (o+JT fs f):=by simp only[faV,II]
def alK(f k:Nat):faV fs f (.dO r z i k)=.dO r z i (k+JT fs f):=by simp only[faV,II]
def alJ(f:Nat):faV fs f (.bG cs)=.bG (cs.drop (JT fs f)):=by simp only[faV,II]
theorem alI(f:Nat):YV fs f (.addr r o)=(f<fs.length):=rfl
theorem ai9(f k:Nat):YV fs f (.dO r z i k)=(f<fs.length):=rfl
theorem ai8(f:Nat):YV fs f (.bG cs)=(f<fs.length):=rfl
theorem atO(t:Ty)(i:Int):iaT t (.sl z rows) (.int k i)=.bG (rows.getD i.toNat []):=rfl
theorem arj(i:Int):iaT (.slice z b a) (.ref r) (.int k i)=.dO r z i.toNat 0:=rfl
theorem aoI(t:Ty)(lo len:Nat)(i:Int):iaT t (.gl r z lo len) (.int k i)=.dO r z (lo+i.toNat) 0:=rfl
variable(off:Nat)
theorem aoH(i:Int):iaT (.arr n z a) (.addr r o) (.int k i)=.addr r (o+i.toNat*z):=rfl
theorem al0(i:Int):iaT (.arr n z a) (.bG cs) (.int k i)=.bG (cs.drop (i.toNat*z)):=rfl
theorem aoG(i:Int):Ho e (.slice z' b a) (.sl z rows) (.int k i)=(z=z'/\0<=i/\i<rows.length):=rfl
theorem alZ(i:Int):Ho e (.slice z b a) (.ref r) (.int k i)=(0<=i/\XS z i (e.o r)):=rfl
theorem am1(i:Int):XS z i (.own z' rows)=(z'=z/\i<rows.length):=rfl
theorem ajk(lo len:Nat)(i:Int):Ho e (.slice z' b a) (.gl r z lo len) (.int k i)=(z=z'/\0<=i/\i<len):=rfl
theorem ajj(i:Int):Ho e (.arr n z a) (.addr r o) (.int k i)=(0<=i/\i<n):=rfl
theorem agW(i:Int):Ho e (.arr n z a) (.bG cs) (.int k i)=(0<=i/\i<n):=rfl
variable(ea:Bool)
theorem arC(i:Int):ixV (.arr n z ea) (.agg cs) (.int k i)=part ea (i.toNat*z) z cs:=rfl
theorem aoO(i:Int):Tk (.arr n z ea) (.agg cs) (.int k i)=(0<=i/\i<n/\cs.length=n*z):=rfl
theorem arD(t:Ty)(i:Int):ixV t (.str s) (.int k i)=.int .u8 ((s[i.toNat]?).map (·.toNat)|>.getD 0):=rfl
def aoP(i:Int):Tk .str (.str s) (.int k i)=(0<=i/\i<s.size):=by simp[Tk]
theorem apy:part true o n cs=.agg ((cs.drop o).take n):=rfl
theorem apz:part false o n cs=(cs.drop o).headD .undef:=rfl
def aos(f:Option FT)(cs:List D):D:=match f with
 |some x=>part x.agg x.off x.sz cs
 |none=>.undef
def abt(f:Option FT)(cs:List D):Prop:=match f with
 |some x=>x.off+x.sz<=cs.length
 |none=>False
theorem aov(f:Nat):YX fs f (.agg cs)=aos fs[f]? cs:=rfl
theorem alM(f:Nat):Oj fs f (.agg cs)=abt fs[f]? cs:=rfl
theorem alN(s:Nat):aos (some ⟨o,s,a⟩) cs=part a o s cs:=rfl
theorem agP(s:Nat):abt (some ⟨o,s,a⟩) cs=(o+s<=cs.length):=rfl

variable(y:Nat)(hi:Int)
attribute [go_sem] abZ ae3 adL ajE ag8 arn arB arv arx ary arp arw aru art ars arq arz arA aro atQ al1 amd al8 al' ama al3 al9 al7 al6 al5 al4 al2 aoL amb amc asw asx asz anp anq anr anC anB anD akL akK akM alC aiQ ajX alH alG aor alK alJ alI ai9 ai8 atO arj aoI aoH al0 aoG alZ am1 ajk ajj agW arC aoO arD aoP apy apz aov alM alN agP
section
variable{e:Env}
theorem arX(r:List (List D)):QE e (.slice z b a) (.sl y r)=.int .i64 r.length:=rfl
theorem ao9:QE e (.slice z b a) .nil=.int .i64 0:=rfl
theorem ao':QE e (.slice z b a) (.ref r)=IU (e.o r):=rfl
theorem ahq(r:List (List D)):IU (.own z r)=.int .i64 r.length:=rfl
theorem amy(lo:Nat):QE e (.slice z b a) (.gl r y lo l)=.int .i64 l:=rfl
theorem amx(lo:Nat):QE e (.slice z b a) (.dZ r y lo l c)=.int .i64 l:=rfl
theorem apa:QE e .str (.str s)=.int .i64 s.size:=rfl
theorem amw(r:List (List D)):zk e (.slice z b a) (.sl y r)=True:=rfl
theorem ajG:zk e (.slice z b a) .nil=True:=rfl
theorem ajH:zk e (.slice z b a) (.ref r)=EV (e.o r):=rfl
theorem aft(r:List (List D)):EV (.own z r)=True:=rfl
theorem aha(lo:Nat):zk e (.slice z b a) (.gl r y lo l)=True:=rfl
theorem ag'(lo:Nat):zk e (.slice z b a) (.dZ r y lo l c)=True:=rfl
theorem ajI:zk e .str (.str s)=True:=rfl
def slX(z z' N:Nat)(lo hi:Int):Prop:=z=z'/\0<=lo/\lo<=hi/\hi<=N
theorem auw(N:Nat)(lo:Int):slX z z' N lo hi=(z=z'/\0<=lo/\lo<=hi/\hi<=N):=rfl
def PN(z z' N:Nat)(k:IntKind)(lo:Int)(k':IntKind)(hi:Int):SlK (if z=z' then some N else none) (.int k lo) (.int k' hi) (λ_ _ _=>True)=slX z z' N lo hi:=by
 unfold slX;by_cases h:z=z'
 ·simp[h,SlK]
 ·simp[h,SlK]
theorem auv(lo:Int):UL e (.slice z' b a) (.sl z rows) (.int k lo) (some (.int k' hi))=.sl z ((rows.take hi.toNat).drop lo.toNat):=rfl
def ap'(lo:Int):sv e (.slice z' b a) (.sl z rows) (.int k lo) (some (.int k' hi))=slX z z' rows.length lo hi:=PN _ _ _ _ _ _ _
theorem asv(lo:Int):UL e .str (.str s) (.int k lo) (some (.int k' hi))=.str (s.extract lo.toNat hi.toNat):=rfl
def ank(lo:Int):sv e .str (.str s) (.int k lo) (some (.int k' hi))=(0<=lo/\lo<=hi/\hi<=s.size):=by simp[sv,slC,I1,SlK]
def aqc(lo:Int):UL e .str (.str s) (.int k lo) none=.str (s.extract lo.toNat s.size):=by simp[UL,I1,DV,aac,WB]
def aky(lo:Int):sv e .str (.str s) (.int k lo) none=(0<=lo/\lo<=s.size):=by simp[sv,slC,I1,DV,SlK]
def WC(z r:Nat)(lo:Int)(hi:Option Int)(u:D):D:=match u with
 | .own z' rows=>.gl r z' lo.toNat ((hi.getD (DV (if z'=z then some rows.length else none))).toNat-lo.toNat)
 | _=>.undef
def GZ(z:Nat)(lo:Int)(hi:Option Int)(u:D):Prop:=match u with
 | .own z' rows=>slX z' z rows.length lo (hi.getD rows.length)
 | _=>False
theorem ap9(lo:Int):WC z r lo (some hi) (.own z' rows)=.gl r z' lo.toNat (hi.toNat-lo.toNat):=rfl
def anh(lo:Int):WC z r lo none (.own z rows)=.gl r z lo.toNat (rows.length-lo.toNat):=by simp[WC,DV]
theorem akv(lo:Int):GZ z lo (some hi) (.own z' rows)=slX z' z rows.length lo hi:=rfl
theorem ahG(lo:Int):GZ z lo none (.own z' rows)=slX z' z rows.length lo rows.length:=rfl
theorem aqa(lo:Int):UL e (.slice z' b a) (.dZ r o z l c) (.int k lo) (some (.int k' hi))=.dZ r (o+lo.toNat*z) z (hi.toNat-lo.toNat) (c-lo.toNat):=rfl
def anl(lo:Int):UL e (.slice z b a) (.dZ r o z l c) (.int k lo) none=.dZ r (o+lo.toNat*z) z (l-lo.toNat) (c-lo.toNat):=by
 simp[UL,I1,DV,aac,WB]
def akw(lo:Int):sv e (.slice z' b a) (.dZ r o z l c) (.int k lo) (some (.int k' hi))=slX z z' c lo hi:=PN _ _ _ _ _ _ _
def ahH(lo:Int):sv e (.slice z b a) (.dZ r o z l c) (.int k lo) none=(0<=lo/\lo<=l/\l<=c):=by
 simp[sv,slC,I1,DV,SlK]
def asu(lo:Int):UL e (.slice z b a) (.ref r) (.int k lo) (some (.int k' hi))=WC z r lo (some hi) (e.o r):=by
 simp only[UL,Option.getD_some,aac,WB,WC];cases e.o r<;>rfl
def aqb(lo:Int):UL e (.slice z b a) (.ref r) (.int k lo) none=WC z r lo none (e.o r):=by
 simp only[UL,I1,Option.getD_none,aac,WB,WC];cases e.o r<;>rfl
def anj(lo:Int):sv e (.slice z b a) (.ref r) (.int k lo) (some (.int k' hi))=GZ z lo (some hi) (e.o r):=by
 simp only[sv,slC,I1,Option.getD_some,GZ];cases e.o r<;>try rfl
 exact PN _ _ _ _ _ _ _
def akx(lo:Int):sv e (.slice z b a) (.ref r) (.int k lo) none=GZ z lo none (e.o r):=by
 simp only[sv,slC,I1,Option.getD_none,GZ];cases e.o r<;>try rfl
 simp only[PN,slX];rename_i z' rows;by_cases h:z'=z
 ·simp[h,DV]
 ·simp[h]
attribute [go_sem] arX ao9 ao' ahq amy amx apa amw ajG ajH aft aha ag' ajI auw auv ap' asv ank aqc aky ap9 anh akv ahG aqa anl akw ahH asu aqb anj akx
end

theorem alL:pR cs []=cs:=rfl
theorem ai'(s:Nat)(v:D)(r:List (Nat×Nat×D)):pR cs ((o,s,v)::r)=pR (kI cs o v.cells) r:=rfl
theorem aja:sK n []=True:=rfl
theorem agO(s:Nat)(v:D)(r:List (Nat×Nat×D)):sK n ((o,s,v)::r)=(v.cells.length=s/\o+s<=n/\(∀c∈v.cells,gM c)/\sK n r):=rfl
theorem ahD:rowsOf z 0 cs=[]:=rfl
theorem ahC:rowsOf z (n+1) cs=cs.take z::rowsOf z n (cs.drop z):=rfl
theorem asL(xs:List D):kI cs o xs=cs.take o++xs++cs.drop (o+xs.length):=rfl
theorem ajf(a d:D)(l:List D):(a::l).getD 0 d=a:=rfl
theorem ajg(a d:D)(l:List D):(a::l).getD (n+1) d=l.getD n d:=rfl
theorem ajo:xh []=True:=rfl
theorem agX(n:Int)(r:List D):xh (.int k n::r)=xh r:=rfl
theorem alO(f:D->D->D)(a b:D):SL f [a,b]=f a b:=rfl
def amC(x:Int):TF (.int k x) (.int k' hi)=.int k (max x hi):=by
 show D.int k (if hi>x then hi else x)=_;congr 1;rw[Int.max_def];split<;>split<;>omega
def amD(x:Int):TJ (.int k x) (.int k' hi)=.int k (min x hi):=by
 show D.int k (if hi<x then hi else x)=_;congr 1;rw[Int.min_def];split<;>split<;>omega
theorem aiJ(b:Bool):D.cells (.bool b)=[.bool b]:=rfl
theorem aly:D.cells (.int k m)=[.int k m]:=rfl
theorem alB:D.cells (.str s)=[.str s]:=rfl
theorem alz:D.cells (.nil)=[.nil]:=rfl
theorem aok:D.cells (.sl z rows)=[.sl z rows]:=rfl
theorem alA:D.cells (.ref r)=[.ref r]:=rfl
theorem aoj(f:FuncId):D.cells (.fn f cs)=[.fn f cs]:=rfl
theorem alx:D.cells (.agg cs)=cs:=rfl
theorem agJ(b:Bool):gM (.bool b)=True:=rfl
theorem aiF:gM (.int k m)=True:=rfl
theorem aiI:gM (.str s)=True:=rfl
theorem aiG:gM (.nil)=True:=rfl
theorem alw:gM (.sl z rows)=True:=rfl
theorem aiH:gM (.ref r)=True:=rfl
theorem alv(f:FuncId):gM (.fn f cs)=True:=rfl
def ahr(b:Bool):cE (.bool b)=True:=by simp[cE,gM,D.names]
def aka:cE (.int k m)=True:=by simp[cE,gM,D.names]
def akb:cE (.str s)=True:=by simp[cE,gM,D.names]
def am2:cE (.sl z rows)=True:=by simp[cE,gM,D.names]
attribute [go_sem] alL ai' aja agO ahD ahC asL ajf ajg ajo agX alO amC amD aiJ aly alB alz aok alA aoj alx agJ aiF aiI aiG alw aiH alv ahr aka akb am2
end Go.Abs
namespace Go.Abs
open Go.ChangeShapes Go.WideShapes Go.ChangeAt Go.RowKit
variable{f:FuncId}{W e:World}{g:Nat}{a:String}{apart handsOn d c:Bool}{s:ChangeSpec}{b:List PathCond}{i:TypeId}{h:List MemPlace}
section
variable{H:Type}{enc:TypeId×Value->H}{P:Program}

def XZ(P:Program)(ts:List TypeId):Bool:=ts.all λt=>P.readableRec t&&decide (t<P.types.size)
theorem Di(m:laidOutB P=true){W k:World}(l:Below W.heap.size W k){sp:Nat->Bool}:∀{ts:List TypeId} {vs:List Value} {ds:List (DataW H)} {p:List MemPlace},XZ P ts=true ->
  DataW.TrodAll enc P W 0 (λ_=>true) true ts vs ds p->(∀x∈p,x.block<W.heap.size)->(∀x∈p,sp x.block=true)->DataW.TrodAll enc P k 0 sp true ts vs ds p
 | [],_,_,_,_,h,_,_=>by
  obtain⟨rfl,rfl,rfl⟩:=trodAll_nil h;exact trodAll_mk0
 |t::ts,_,_,_,hr,h,hlt,hsp=>by
  obtain⟨v,vs',d,ds',p,q,rfl,rfl,rfl,n,o⟩:=trodAll_cons h;simp only[XZ,List.all_cons,Bool.and_eq_true,bO]at hr;refine⟨p,q,?_,Di m l (by simpa[XZ]using hr.2) o (λx j=>hlt x (List.mem_append_right _ j)) (λx j=>hsp x (List.mem_append_right _ j)),rfl⟩;exact WideElems.Trod_stays m hr.1.1 hr.1.2 n (λx j=>l.same (hlt x (List.mem_append_left _ j))) (λx j=>hsp x (List.mem_append_left _ j))

def Spec.law{ds:List D}(h:Spec P f [] ds [] (.bool true)){vs:Array Value}(l:aaX W λ_=>none)(o:vs.size=ds.length)(hr:∀(i:Nat) v x,vs[i]?=some v->ds[i]?=some x->aO (cx W (λ_=>none) (λ_=>none)) v x) :
  Calls P f vs W λe j=>e=.returned (.bool true)/\Below W.heap.size W j:=by
 refine Calls.mono (h.2 W (λ_=>none) (λ_=>none) (λ_=>none) (λ_=>none) vs l (by intro b m h;cases h) (by intro b lo hi h;cases h) o hr ?_) ?_
 ·intro r;have:([]:List D).getD r .undef=.undef:=by simp
  rw[this];rfl
 ·rintro e j ⟨v,rfl,ho⟩;obtain⟨lev,own,S,_,_,p,_,_⟩:=ho.rep;have:=p.og;subst this;exact⟨rfl,ho.os,ho.tape,ho.output,ho.size,λk n=>ho.old k n rfl⟩

def an7(W:World)(t:Nat×Jb):Prop:=∃E x c,W.heap[t.1]?=some (.cells c E x)/\t.2.holds c
def zW(h:∀t∈tabs,an7 W t):aaX W λ_=>none:=λt j=>⟨rfl,h t j⟩
def vw{f:Func}{args:Array Value}{ds gs:List (DataW H)}
  (z:DataW.Whole enc P f.params.toList s.vars apart W args.toList ds gs h) (D:s.vars=[]) (u:Below W.heap.size W e) (G:laidOutB P=true) (hr:XZ P f.params.toList=true)
  (t:f.resultTypes = #[i]) (C:P.underlying i=some .bool) (v:s.fn H (ds++gs)={ results:=[.lit (.bool true)],args:=ds }) :
  s.post enc P f apart c handsOn d W args (.bool true) e:=by
 have o:=z;obtain⟨p,q,E,y,rfl,J,I⟩:=z;rw[D]at y;obtain⟨rfl,rfl⟩:=trodVars_none y;have n:∀x∈p,x.block<W.heap.size:=λx m=>by simpa using o.lt x (by simp[m])
 have j:∀sp:Nat->Bool,(∀x∈p,sp x.block=true)->DataW.TrodAll enc P e 0 sp true f.params.toList args.toList (s.fn H (ds++[])).args p:=λsp w=>by
  rw[v];exact Di G u hr E n w
 have k:∀sp:Nat->Bool,DataW.TrodVars enc P e sp s.vars (s.fn H (ds++[])).vars []:=λsp=>by
  rw[v,D];rfl
 have l:∀(b:Nat)(sp:Nat->Bool)(A:Bool),DataW.TrodAll enc P e b sp A f.resultTypes.toList ((Value.bool true).resultList f.resultTypes.size) (s.fn H (ds++[])).results []:=λb sp A=>by
  rw[v,t];exact trodAll_cons_mk (shut_bool C _) trodAll_mk0
 have r:∀x∈p,(λb=>decide (b<W.heap.size)) x.block=true:=λx m=>by simpa using n x m
 refine⟨ds,[],p++[],[],p,[],o,l _ _ _,j _ r,k _,World.keptBut_mono (λx m=>⟨m,?_⟩) (u.frame (· ∈ p++[])),λ_=>?_⟩
 ·simpa using m
 ·refine⟨ok_one t rfl (okWide_bool_mk C _),_,_,([]++p)++[],⟨[]++p,[],trodAll_append (j _ (λ_ _=>rfl)) (l _ _ _),k _,rfl,?_,?_⟩,?_⟩
  ·intro b off B;rw[u.frozen (n (.cell b off) (by simpa using B))];exact J b off (by simpa using B)
  ·intro F;simpa using I F
  ·intro x m _;simpa using m
end
end Go.Abs
namespace Go.Abs
open Go.RowKit
variable{f:FuncId}{d:D}{ds:List D}{e:Nat->Option Value}{b:Nat->Option Nat}
section
variable{P:Program}
def Spec.acp(H:Enters P f)
  (h:∀(w:World)(a:Nat->Option Nat)(j:Nat->Option Value)(vs:Array Value),(∀t∈tabs,∃E x c,w.heap[t.1]?=some (.cells c E x)/\t.2.holds c)->(∀b m,a b=some m->b<w.heap.size)->vs.size=ds.length->(∀(i:Nat) v x,vs[i]?=some v->ds[i]?=some x->aO (cx w a j) v x) ->
   Calls P f vs w λe w'=>∃v,e=.returned v/\Below w.heap.size w w'/\aO (cx w' a j) v d) (G:d.names=[]):Spec P f [] ds [] d:=by
 refine⟨H,?_⟩;intro w a u own0 j vs F q B k hr ho;refine(h w a j vs (λt K=>(F t K).2) q k hr).mono ?_;rintro e w' ⟨v,rfl,hb,hv⟩;have l:∀b lo g,u b=some (lo,g)->pG w w' b lo g:=by
  intro b lo g I;obtain⟨c0,c,E,p,y,z,A⟩:=B b lo g I;have o:b<w.heap.size:=(Array.getElem?_eq_some_iff.1 p).1;exact⟨c0,c,E,p,(hb.block b o).trans y,z,A⟩
 refine⟨v,rfl,hb.os,hb.tape,hb.output,hb.size,λb n _=>hb.block b n,l,a,λ_=>none,λ_=>none,?_,λ_ _ _=>rfl,?_,?_,?_⟩
 ·intro b m J;exact Nat.lt_of_lt_of_le (q b m J) hb.size
 ·exact aO.keep (C:=cx w' a j) (C':=cx w' a λ_=>none) (λ_ _ h=>h) hv (λs k=>by rw[G]at k;cases k)
 ·intro r;have:([]:List D).getD r .undef=.undef:=by simp
  rw[this];rfl
 ·intro i g;simp at g
def Spec.of_same(k:Enters P f)
  (h:∀(w:World)(c:Nat->Option Nat)(a:Nat->Option Value)(vs:Array Value),vs.size=ds.length->(∀(i:Nat) v x,vs[i]?=some v->ds[i]?=some x->aO (cx w c a) v x) ->
   ∃v,Calls P f vs w (λe w'=>e=.returned v/\w'=w)/\aO (cx w c a) v d) (j:d.names=[]):Spec P f [] ds [] d:=by
 refine Spec.acp k ?_ j;intro w c a vs _ hl l hr;obtain⟨v,g,m⟩:=h w c a vs l hr;refine g.mono ?_;rintro e w' ⟨rfl,rfl⟩;exact⟨v,rfl,Below.refl _ _,m⟩
end
end Go.Abs
namespace Go.Abs
attribute [go_sem] or_self or_true true_or List.length_map Int.cast_ofNat_Int
attribute [go_sem] eq_self bne_self_eq_false List.getD_cons_zero List.getD_cons_succ
def Ag(f:Nat->D):List Nat->EL
 | []=>[]
 |i::l=>(i,f i)::Ag f l
variable(f:Nat->D)
theorem amf:Ag f []=[]:=rfl
variable(i:Nat)(l:List Nat)
theorem ajt:Ag f (i::l)=(i,f i)::Ag f l:=rfl
def Ah(f:Nat->D):List Nat->EL
 | []=>[]
 |i::l=>osI (gz (f i)) i (f i) []++Ah f l
theorem amg:Ah f []=[]:=rfl
theorem aju:Ah f (i::l)=osI (gz (f i)) i (f i) []++Ah f l:=rfl
variable{kO kT:EL}{body:(Exit->Env->Prop)->Env->Prop}{e:Env}{Q:Exit->Env->Prop}
attribute [go_sem] amf ajt amg aju
def aG.yh{T:Type}(q j:List Nat)(ts os:T->EL)(I:T->Prop)(m:T->Nat)(s0:T)
  (h:I s0) (g:Mv e (ts s0++kT) (os s0++kO))
  (hr:∀s,I s->body (oC (λs=>ts s++kT) (λs=>os s++kO) I m s Q) (uT (ts s++kT) (os s++kO)))
  (hT:Ag e.t q=kT:=by simp only[go_sem,seval]<;>exact rfl) (hO:Ah e.o j=kO:=by simp only[go_sem,seval]<;>exact rfl):aG body Q e:=
 ⟨T,λs=>ts s++kT,λs=>os s++kO,I,m,s0,h,g,hr⟩
def aiL(n:Nat)(I:Nat->Prop)(i:Nat):Prop:=i<=n/\I i
def aiM(n:Nat)(i:Nat):Nat:=n-i
def aG.count(n:Nat)(q m:List Nat)(ts os:Nat->EL)(I:Nat->Prop)
  (j:I 0) (g:Mv e (ts 0++kT) (os 0++kO))
  (hr:∀i,i<=n->I i->body (oC (λs=>ts s++kT) (λs=>os s++kO) (aiL n I) (aiM n) i Q) (uT (ts i++kT) (os i++kO)))
  (hT:Ag e.t q=kT:=by simp only[go_sem,seval]<;>exact rfl) (hO:Ah e.o m=kO:=by simp only[go_sem,seval]<;>exact rfl):aG body Q e:=
 ⟨Nat,λs=>ts s++kT,λs=>os s++kO,aiL n I,aiM n,0,⟨Nat.zero_le _,j⟩,g,λi h=>hr i h.1 h.2⟩
variable{c:Nat->Prop}
def ah.eI{n i:Nat}{ts os:Nat->EL}(g:i<n)(h:c (i+1))(j:Mv e (ts (i+1)) (os (i+1))):ah ts os (aiL n c) (aiM n) i e:=
 ⟨i+1,⟨g,h⟩,j,by show n-(i+1)<n-i;omega⟩
variable{d:Prop}
section
variable{P:Program}{n np:Nat}{e:Env}{a b:Code}{Q:Exit->Env->Prop}{p:Prop}[Decidable p]{k:Bool->Prop}
def bK.fP(g:p->qc P n np a Q e)(j:¬p->qc P n np b Q e):bK P n np a b Q e (.bool (decide p)):=⟨λh=>g (of_decide_eq_true h),λh=>j (of_decide_eq_false h)⟩
def bK.RH(g:¬p->qc P n np a Q e)(j:p->qc P n np b Q e):bK P n np a b Q e (.bool (!decide p)):=bK.kB (λh=>g (of_decide_eq_false h)) (λh=>j (of_decide_eq_true h))
def dh.fP(g:p->k true)(j:¬p->k false):dh (some (decide p)) k:=dh.split (λh=>g (of_decide_eq_true h)) (λh=>j (of_decide_eq_false h))
def dh.RH(g:¬p->k true)(j:p->k false):dh (some (!decide p)) k:=dh.kB (λh=>g (of_decide_eq_false h)) (λh=>j (of_decide_eq_true h))
class Spl(q:Prop)(x y:outParam Prop):Prop where
 out:x->y->q
instance awY{t:Bool}:Spl (bK P n np a b Q e (.bool t)) (t=true->qc P n np a Q e) (t=false->qc P n np b Q e):=⟨bK.split⟩
instance av5{t:Bool}:Spl (bK P n np a b Q e (.bool (!t))) (t=false->qc P n np a Q e) (t=true->qc P n np b Q e):=⟨bK.kB⟩
instance av4:Spl (bK P n np a b Q e (.bool (decide p))) (p->qc P n np a Q e) (¬p->qc P n np b Q e):=⟨bK.fP⟩
instance auy:Spl (bK P n np a b Q e (.bool (!decide p))) (¬p->qc P n np a Q e) (p->qc P n np b Q e):=⟨bK.RH⟩
instance awZ{g:Bool}:Spl (dh (some g) k) (g=true->k true) (g=false->k false):=⟨dh.split⟩
instance av7{g:Bool}:Spl (dh (some (!g)) k) (g=false->k true) (g=true->k false):=⟨dh.kB⟩
instance av6:Spl (dh (some (decide p)) k) (p->k true) (¬p->k false):=⟨dh.fP⟩
instance auz:Spl (dh (some (!decide p)) k) (¬p->k true) (p->k false):=⟨dh.RH⟩
def mW{q x:Prop}[i:Spl q x d](g:x)(h:d):q:=i.out g h
end
end Go.Abs
namespace Go.Abs
open List
open Go.ChangeShapes Go.WideShapes Go.ChangeAt Go.RowKit
inductive Sh where
 |int (k:IntKind)
 |bool
 |str
 |sl (z:Nat) (e:List Sh)
def Sh.bytes:Sh->Nat
 | .int k=>k.bits/8
 | .bool=>1
 | .str=>16
 | .sl _ _=>24
def P8:List Sh->Nat
 | []=>0
 |s::ss=>s.bytes+P8 ss
mutual
/-- the datum fits the shape of one cell -/
def Fit:Sh->D->Prop
 | .int k,d=>∃n:Int,d=.int k n/\k.min<=n/\n<=k.max
 | .bool,d=>∃b,d=.bool b
 | .str,d=>∃s:ByteArray,d=.str s/\s.size<=reachBytes
 | .sl z e,d=>∃rows:List (List D),d=.sl z rows/\rows.length*P8 e<=reachBytes/\∀r∈rows,qi e r
def qi:List Sh->List D->Prop
 | [],ds=>ds=[]
 |s::ss,ds=>∃d r,ds=d::r/\Fit s d/\qi ss r
end
def Fit.perm{s:Sh}{d:D}(h:Fit s d):cE d:=by
 cases s<;>simp only[Fit]at h
 ·obtain⟨n,rfl,_⟩:=h;simp[cE,gM,D.names]
 ·obtain⟨b,rfl⟩:=h;simp[cE,gM,D.names]
 ·obtain⟨b,rfl,_⟩:=h;simp[cE,gM,D.names]
 ·obtain⟨b,rfl,_⟩:=h;simp[cE,gM,D.names]
theorem qi.perm:∀{b:List Sh} {ds:List D},qi b ds->∀d∈ds,cE d
 | [],ds,h,d,hd=>by simp only[qi]at h;subst h;cases hd
 |s::b,ds,h,d,hd=>by
  simp only[qi]at h;obtain⟨x,r,rfl,c,e⟩:=h;rcases mem_cons.1 hd with rfl|hd
  ·exact c.perm
  ·exact e.perm d hd
theorem qi.len:∀{b:List Sh} {ds:List D},qi b ds->ds.length=b.length
 | [],ds,h=>by simp only[qi]at h;subst h;rfl
 |s::b,ds,h=>by
  simp only[qi]at h;obtain⟨x,r,rfl,h1,c⟩:=h;simp[c.len]
theorem qi.append:∀{d c:List Sh} {ds b:List D},qi d ds->qi c b->qi (d++c) (ds++b)
 | [],c,ds,b,h,h'=>by simp only[qi]at h;subst h;exact h'
 |s::d,c,ds,b,h,h'=>by
  simp only[qi]at h;obtain⟨x,r,rfl,e,f⟩:=h;simp only[cons_append,qi];exact⟨x,r++b,rfl,e,f.append h'⟩
def wU(C:Cx):List Value->List D->Prop
 | [],ds=>ds=[]
 |v::vs,ds=>∃d r,ds=d::r/\aO C v d/\wU C vs r
theorem wU.append{C:Cx}:∀{vs ws:List Value} {ds b:List D},wU C vs ds->wU C ws b->wU C (vs++ws) (ds++b)
 | [],ws,ds,b,h,h'=>by simp only[wU]at h;subst h;exact h'
 |v::vs,ws,ds,b,h,h'=>by
  simp only[wU]at h;obtain⟨x,r,rfl,c,d⟩:=h;simp only[cons_append,wU];exact⟨x,r++b,rfl,c,d.append h'⟩
theorem wU.get{C:Cx}:∀{vs:List Value} {ds:List D},wU C vs ds->vs.length=ds.length/\∀(j:Nat) v d,vs[j]?=some v->ds[j]?=some d->aO C v d
 | [],ds,h=>by simp only[wU]at h;subst h;exact⟨rfl,λj v d h=>by simp at h⟩
 |v::vs,ds,h=>by
  simp only[wU]at h;obtain⟨x,r,rfl,f,g⟩:=h;obtain⟨i,k⟩:=g.get;refine⟨by simp[i],?_⟩;intro j u e c b;cases j with
  |zero=>simp at c b;subst c;subst b;exact f
  |succ j=>simp at c b;exact k j u e c b
def shF(g:TypeId->Option (List Sh))(P:Program):List Field->Nat->Option (List Sh)
 | [],_=>some []
 |f::fs,off=>match g f.type,shF g P fs (off+P.cellsOf f.type)with
  |some s,some r=>if f.offset=off/\s.length=P.cellsOf f.type then some (s++r)else none
  | _,_=>none
def shT(P:Program):Nat->TypeId->Option (List Sh)
 | 0,_=>none
 |f+1,t=>match P.underlying t with
  |some (.int k)=>some [.int k]
  |some .bool=>some [.bool]
  |some .string=>some [.str]
  |some (.slice e)=>match shT P f e with
   |some s=>if s.length=P.cellsOf e/\P8 s<=P.bytesOf e then some [.sl (P.cellsOf e) s]else none
   |none=>none
  |some (.struct fs)=>match shF (shT P f) P fs.toList 0 with
   |some s=>if s.length=P.cellsOf t then some s else none
   |none=>none
  |some (.array n e)=>match shT P f e with
   |some s=>if s.length=P.cellsOf e/\n*P.cellsOf e=P.cellsOf t then some (replicate n s).flatten else none
   |none=>none
  | _=>none
variable{t:TypeId}{a:Array Field}{p:List MemPlace}{b0:Nat}
section
variable{H:Type}{enc:TypeId×Value->H}{P:Program}{W:World}{sp:Nat->Bool}{hd:Bool}
abbrev c0(W:World):Cx:=cx W (λ_=>none) (λ_=>none)
theorem vC{e:TypeId}{d:DataW H}{q:Nat}:∀{l:List (DataW H)},d∈l->q∈d.weights P e->q∈DataW.weightsAll P e l
 |x::l,h,hq=>by
  simp only[DataW.weightsAll,mem_append];rcases mem_cons.1 h with rfl|h
  ·exact .inl hq
  ·exact .inr (vC h hq)
theorem Hx{g:TypeId->Option (List Sh)}{n:Nat}(l:∀t b cs x,g t=some b->DataW.trod enc P W 0 sp hd n t cs=some x->(∀m∈x.1.weights P t,m<=reachBytes)->∃ds,qi b ds/\wU (c0 W) cs ds) :
  ∀(c:List Field)(off:Nat)(cs:List Value)(b:List Sh),shF g P c off=some b->(∀f∈c,∃y,DataW.trod enc P W 0 sp hd n f.type ((cs.drop f.offset).take (P.cellsOf f.type))=some y/\∀m∈y.1.weights P f.type,m<=reachBytes) ->
   ∃ds,qi b ds/\wU (c0 W) ((cs.drop off).take b.length) ds
 | [],off,cs,b,h,_=>by simp only[shF,qN]at h;subst h;exact⟨[],rfl,by simp[wU]⟩
 |f::c,off,cs,b,h,hf=>by
  simp only[shF]at h;split at h
  ·rename_i s r w hr;split at h
   ·rename_i v;obtain⟨rfl,k⟩:=v;simp only[qN]at h;subst h;obtain⟨y,A,d⟩:=hf f (by simp);obtain⟨ds,i,j⟩:=l _ _ _ _ w A d;obtain⟨o,q,u⟩:=Hx l c _ cs r hr (λx z=>hf x (by simp[z]));refine⟨ds++o,i.append q,?_⟩;have hlen:=j.get.1.trans (i.len.trans k);have e:(cs.drop f.offset).take (s++r).length=(cs.drop f.offset).take (P.cellsOf f.type)++(cs.drop (f.offset+P.cellsOf f.type)).take r.length:=by
     rw[ct,k,take_add,drop_drop]
    rw[e];exact j.append u
   ·cases h
  ·cases h
theorem KN{e:TypeId}{n:Nat}{s:List Sh}{cs:List Value}:∀(k off:Nat),s.length=P.cellsOf e ->
  (∀i,i<k->∃ds,qi s ds/\wU (c0 W) ((cs.drop ((off+i)*P.cellsOf e)).take (P.cellsOf e)) ds) ->
   ∃ds,qi (replicate k s).flatten ds/\wU (c0 W) ((cs.drop (off*P.cellsOf e)).take (k*P.cellsOf e)) ds
 | 0,off,_,_=>⟨[],by simp[qi],by simp[wU]⟩
 |k+1,off,hl,h=>by
  obtain⟨ds,d,f⟩:=h 0 (by omega)
  obtain⟨c,g,j⟩:=KN (n:=n) k (off+1) hl (λi hi=>by
   have:=h (i+1) (by omega)
   rwa[show off+(i+1)=off+1+i by omega]at this)
  refine⟨ds++c,by rw[replicate_succ,flatten_cons];exact d.append g,?_⟩;have b:(cs.drop (off*P.cellsOf e)).take ((k+1)*P.cellsOf e)=(cs.drop (off*P.cellsOf e)).take (P.cellsOf e)++(cs.drop ((off+1)*P.cellsOf e)).take (k*P.cellsOf e):=by
   rw[Nat.succ_mul k,Nat.add_comm (k*P.cellsOf e),take_add,drop_drop,Nat.succ_mul off]
  rw[b];simpa using f.append j
theorem afo:∀(f:Nat)(t:TypeId)(M:List Sh)(w:Nat)(cs:List Value) x,shT P f t=some M->DataW.trod enc P W 0 sp hd w t cs=some x->(∀m∈x.1.weights P t,m<=reachBytes)->∃ds,qi M ds/\wU (c0 W) cs ds:=by
 intro f;induction f with
 |zero=>intro t M w cs x h;simp[shT]at h
 |succ f ih =>
  intro t M w cs x h L l;simp only[shT]at h;split at h
  ·rename_i k v;simp only[qN]at h;subst h;obtain⟨n,rfl,_,hw⟩:=DataW.trod_int v L;simp only[Lit.wf,Bool.and_eq_true,bO]at hw;exact⟨[.int k n],⟨_,_,rfl,⟨n,rfl,hw.1,hw.2⟩,rfl⟩,⟨_,_,rfl,.int _ _,rfl⟩⟩
  ·rename_i v;simp only[qN]at h;subst h;obtain⟨b,rfl,_⟩:=DataW.trod_bool v L;exact⟨[.bool b],⟨_,_,rfl,⟨b,rfl⟩,rfl⟩,⟨_,_,rfl,.bool _,rfl⟩⟩
  ·rename_i v;simp only[qN]at h;subst h;obtain⟨b,rfl,u,K⟩:=DataW.trod_string v L;have aa:b.size<=reachBytes:=by
    rw[u]at l;exact l _ (by simp[DataW.weights])
   exact⟨[.str b],⟨_,_,rfl,⟨b,rfl,aa⟩,rfl⟩,⟨_,_,rfl,.str _,rfl⟩⟩
  ·rename_i e v;split at h
   ·rename_i s K;split at h
    ·rename_i B;simp only[qN]at h;subst h;obtain⟨B,Y⟩:=B;rcases Go.Deep.open_slice v L with⟨rfl,_⟩| ⟨a,len,cap,m,n,Dx,Pl,rfl,hb,hlc,hm,hmm,u,hel⟩
     ·exact⟨[.sl _ []],⟨_,_,rfl,⟨[],rfl,by simp,by simp⟩,rfl⟩,⟨_,_,rfl,.slnil _,rfl⟩⟩
     ·have hlm:len<=m:=by rw[hmm];split<;>omega
      rw[u]at l;simp only[DataW.weights,v]at l;have A:len*P.bytesOf e<=reachBytes:=by
       have:=l _ (mem_cons_self ..);simp only[length_map,length_range]at this;exact Nat.le_trans (pH _ (Nat.le_add_right _ _)) this
      have ab:∀i,i<len->∀q∈(Dx i).weights P e,q<=reachBytes:=λi c q Z=>by
       refine l q (mem_cons_of_mem _ (mem_append_left _ ?_));exact vC (mem_map.2 ⟨i,mem_range.2 c,rfl⟩) Z
      have hr:∀i,∃E:List D×List Value,i<len->qi s E.1/\wU (c0 W) E.2 E.1/\W.cells? 0 (a.add (i*P.cellsOf e)) (P.cellsOf e)=some E.2:=by
       intro i;by_cases c:i<len
       ·obtain⟨Q,G,y⟩:=hel i (by omega);obtain⟨ds,S,h4⟩:=ih _ _ _ _ _ K y (ab i c);exact⟨(ds,Q),λ_=>⟨S,h4,G⟩⟩
       ·exact⟨([],[]),λh=>(c h).elim⟩
      let R:=λi=>(Classical.choose (hr i)).1
      let V:=λi=>(Classical.choose (hr i)).2
      have N:∀i,i<len->qi s (R i)/\wU (c0 W) (V i) (R i)/\W.cells? 0 (a.add (i*P.cellsOf e)) (P.cellsOf e)=some (V i):=λi c=>Classical.choose_spec (hr i) c;have z:∀r∈(range len).map R,∃i,i<len/\r=R i:=by
       intro r hr;obtain⟨i,c,rfl⟩:=mem_map.1 hr;exact⟨i,mem_range.1 c,rfl⟩
      refine⟨[.sl _ ((range len).map R)],⟨_,_,rfl,⟨_,rfl,?_,?_⟩,rfl⟩,⟨_,_,rfl,?_,rfl⟩⟩
      ·simp only[length_map,length_range];exact Nat.le_trans (Nat.mul_le_mul_left _ Y) A
      ·intro r hr;obtain⟨i,c,rfl⟩:=z r hr;exact(N i c).1
      ·have F:((range len).map R).length=len:=by simp
       have:=aO.sl (C:=c0 W) (P.cellsOf e) a cap ((range len).map R) (λi j=>(V i).getD j Go.undef) (by rw[F];exact hlc) ?_ ?_ ?_ ?_
       ·rw[F]at this;exact this
       ·intro r hr;obtain⟨i,c,rfl⟩:=z r hr;exact(N i c).1.len.trans B
       ·intro r hr d hd;obtain⟨i,c,rfl⟩:=z r hr;exact(N i c).1.perm d hd
       ·intro i j r d c O;simp only[getElem?_map]at c;by_cases o:i<len
        ·simp[o]at c;subst c;obtain⟨g1,g2,g3⟩:=N i o;obtain⟨_,g4,g5⟩:=World.cells?_some g3;have J:j<P.cellsOf e:=by have:=(ia.1 O).1;rw[g1.len,B]at this;exact this
         have:=g5 j J;rw[Addr.add_add]at this;show vis W (λ_=>none) _=_;unfold vis;simp only;rw[this];simp[getD,gF (show j<(V i).length by omega)]
        ·simp[o]at c
       ·intro i j r d c O;simp only[getElem?_map]at c;by_cases o:i<len
        ·simp[o]at c;subst c;obtain⟨g1,g2,g3⟩:=N i o;obtain⟨k1,k2⟩:=g2.get;have J:j<(V i).length:=by rw[k1];exact(ia.1 O).1
         refine k2 j _ d ?_ O;simp[getD,gF J]
        ·simp[o]at c
    ·cases h
   ·cases h
  ·rename_i fs v;split at h
   ·rename_i s K;split at h
    ·rename_i B;simp only[qN]at h;subst h;obtain⟨xs,n,rfl,u,I,ac,T⟩:=DataW.trod_struct v L;rw[u]at l;simp only[DataW.weights,v]at l
     obtain⟨ds,G,y⟩:=Hx (n:=n) (g:=shT P f) (λt M cs x G y S=>ih t M n cs x G y S) fs.toList 0 cs s K (by
      intro fl U;obtain⟨i,c,he⟩:=getElem_of_mem U;have X:i<fs.size:=by simpa using c
      have:=T i fl (by rw[Array.getElem?_eq_getElem X];simpa using he);rw[gF (by omega)]at this;refine⟨_,this,λm hm=>l m ?_⟩;have hi2:i<xs.length:=by omega
      exact DataW.weights_mem_each (j:=i) (by rw[getElem?_map,gF c,he];rfl) (by rw[getElem?_map,gF hi2];rfl) m hm)
     refine⟨ds,G,?_⟩;rw[B,<-I]at y;simpa using y
    ·cases h
   ·cases h
  ·rename_i n e v;split at h
   ·rename_i s K;split at h
    ·rename_i B;simp only[qN]at h;subst h;obtain⟨xs,m,rfl,u,I,ac,T⟩:=DataW.trod_array v L;rw[u]at l;simp only[DataW.weights,v]at l
     obtain⟨ds,G,y⟩:=KN (W:=W) (P:=P) (e:=e) (n:=m) (s:=s) (cs:=cs) n 0 B.1 (by
      intro i c;have:=T i c;rw[gF (by omega)]at this;have y:=ih _ _ _ _ _ K this (λq Z=>l q (vC (mem_map.2 ⟨_,dH (by omega),rfl⟩) Z))
      simpa using y)
     refine⟨ds,G,?_⟩;rw[B.2,<-I]at y;simpa using y
    ·cases h
   ·cases h
  ·cases h
def zA{e:TypeId}{v:Value}{d:DataW H}{z:Nat}{s:List Sh}(k:P.underlying t=some (.slice e))(j:shT P 9 t=some [.sl z s])(l:Value.okWide P W .any b0 t v)(h:DataW.Trod enc P W 0 sp hd t v d p)(n:∀m∈d.weights P t,m<=reachBytes) :
  ∃rows:List (List D),(rows.length*P8 s<=reachBytes/\∀r∈rows,qi s r)/\aO (c0 W) v (.sl z rows):=by
 obtain⟨a,len,cap,rfl⟩:=okWide_slice k l;obtain⟨b,i⟩:=h;obtain⟨ds,f,g⟩:=afo 9 t _ b _ _ j i n;simp only[qi,Fit]at f;obtain⟨x,r,rfl,⟨rows,rfl,c,hr⟩,rfl⟩:=f;exact⟨rows,⟨c,hr⟩,g.get.2 0 _ _ rfl rfl⟩
def qB{ts:List TypeId}{ds:List (DataW H)}(h:(DataW.weightsEach P ts ds).all (· <= reachBytes)=true)(j:Nat){d:DataW H}(c:ts[j]?=some t)(hd:ds[j]?=some d):∀m∈d.weights P t,m<=reachBytes:=λm b=>by
 have:=cg.1 h m (DataW.weights_mem_each c hd m b);simpa using this
def KO{v:Value}{d:DataW H}(c:P.underlying t=some (.int .i64))(e:Value.okWide P W .any b0 t v)(h:DataW.Trod enc P W 0 sp hd t v d p) :
  ∃n:Int,v=.int .i64 n /\ -9223372036854775808<=n/\n<=9223372036854775807:=by
 obtain⟨n,rfl,_,_,b⟩:=open_int c e h;simp only[Lit.wf,Bool.and_eq_true,bO]at b;exact⟨n,rfl,b.1,b.2⟩
theorem wM{A:Type}{s:List Sh}{c:A->List D}{ok:A->Prop}(h:∀r,qi s r->∃x,ok x/\r=c x):∀{rows:List (List D)},(∀r∈rows,qi s r)->∃xs:List A,rows=xs.map c/\∀x∈xs,ok x
 | [],_=>⟨[],rfl,by simp⟩
 |r::rows,hr=>by
  obtain⟨x,e,rfl⟩:=h r (hr r (by simp));obtain⟨xs,rfl,b⟩:=wM (rows:=rows) h (λr d=>hr r (mem_cons_of_mem _ d));exact⟨x::xs,rfl,by simpa using⟨e,b⟩⟩
end
end Go.Abs
namespace Go.Abs
open List hiding min
theorem IJ{z:Nat}(q:z≠0):∀{rows:List (List D)},(∀r∈rows,r.length=z)->∀m,rows.flatten[m]?=(rows[m/z]?).bind (·[m%z]?)
 | [],_,m=>by simp
 |r::rows,h,m=>by
  have hr:=h r (by simp);rw[flatten_cons];by_cases o:m<z
  ·rw[getElem?_append_left (by omega),Nat.div_eq_of_lt o,Nat.mod_eq_of_lt o];rfl
  ·rw[getElem?_append_right (by omega),hr,IJ q (λr o=>h r (by simp[o])) (m-z)];have p:m/z=(m-z)/z+1:=by
    have:m=(m-z)+z:=by omega
    rw[this,Nat.add_div_right _ (by omega)];simp
   have e2:(m-z)%z=m%z:=(Nat.mod_eq_sub_mod (by omega)).symm;rw[p,e2];simp
theorem oO{z:Nat}:∀{rows:List (List D)},(∀r∈rows,r.length=z)->rows.flatten.length=rows.length*z
 | [],_=>by simp
 |r::rows,h=>by
  rw[flatten_cons,ct,oO (λr o=>h r (by simp[o])),h r (by simp),length_cons,Nat.succ_mul];omega
theorem Oi{z:Nat}:∀{rows:List (List D)} (i:Nat),(∀r∈rows,r.length=z)->rows.flatten.take (i*z)=(rows.take i).flatten
 | [],i,_=>by simp
 |r::rows,0,_=>by simp
 |r::rows,i+1,h=>by
  have hr:=h r (by simp);rw[take_succ_cons,flatten_cons,flatten_cons,Nat.succ_mul,Nat.add_comm,<-hr,take_length_add_append,hr,Oi i (λr o=>h r (by simp[o]))]
theorem Oh{z:Nat}:∀{rows:List (List D)} (i:Nat),(∀r∈rows,r.length=z)->rows.flatten.drop (i*z)=(rows.drop i).flatten
 | [],i,_=>by simp
 |r::rows,0,_=>by simp
 |r::rows,i+1,h=>by
  have hr:=h r (by simp);rw[drop_succ_cons,flatten_cons,Nat.succ_mul,Nat.add_comm,<-hr,drop_length_add_append,hr,Oh i (λr o=>h r (by simp[o]))]
def splice(T:List (List D))(i:Nat)(N:List (List D)):List (List D):=T.take i++N++T.drop (i+N.length)
variable{i:Nat}{N:List (List D)}
def DX{T:List (List D)}(h:i+N.length<=T.length):(splice T i N).length=T.length:=by simp[splice];omega
def L1{T:List (List D)}{r:List D}(h:r∈splice T i N):r∈T\/r∈N:=by
 simp only[splice,mem_append]at h;rcases h with(h|h)|h
 ·exact .inl (mem_of_mem_take h)
 ·exact .inr h
 ·exact .inl (mem_of_mem_drop h)
def aag{T:List (List D)}{k:Nat}(h:i+N.length<=T.length):(splice T i N)[k]?=if i<=k/\k<i+N.length then N[k-i]? else T[k]?:=by
 unfold splice;have p:(T.take i).length=i:=by simp;omega
 by_cases o:k<i
 ·rw[dS,getElem?_append_left (by omega),getElem?_take_of_lt o,aq (by omega)]
 ·by_cases h2:k<i+N.length
  ·rw[getElem?_append_left (by simp;omega),getElem?_append_right (by omega),p,au (by omega)]
  ·rw[getElem?_append_right (by simp;omega),getElem?_drop,aq (by omega)];congr 1;simp;omega
variable{z:Nat}
variable{cs:List D}{a:Addr}{news:List Value}{off r m ly l by_ c:Nat}{f:Option Addr}{rows:List (List D)}{g:D}{b:Value}{y x:Operand}{ea k:Bool}{h j:TypeId}
section
variable{P:Program}{n:Nat}{w0 w w':World}{l0:Nat->Option Nat}{G:Nat->Option (Nat×Nat)}{S0:Nat->Option Value}{lev lev' own own':Nat->Option Nat}{S S':Nat->Option Value}{env env':Env}{tm tm':Nat->Value}
def Inv.Mn(h:Inv w0 l0 G S0 w lev own S env tm){ds:List D}(X:env.o r=.box cs)(H:news.length=ds.length)(I:∀v∈news,v.oneCell'=true)
  (J:∀(j:Nat) v d,news[j]?=some v->ds[j]?=some d->aO (cx w lev S) v d) (hoff:off+ds.length<=cs.length) (W:S r=some (.pointer (some a))) :
  ∃w',(storeCells (a.add off) news).run P w=.ok () w'/\Inv w0 l0 G S0 w' lev own S (eV env r (.box (kI cs off ds))) tm:=by
 have t:=h.objs r;rw[X]at t;obtain⟨b,o,c,E,Q,M,h3,R,U,V,h7⟩:=t;have:a=⟨b,o,none⟩:=by rw[Q]at W;cases W;rfl
 subst this;have F:(o+off)+news.length<=c.size:=by omega
 have q:∀j,(fT c (o+off) news)[j]?=if o+off<=j/\j<o+off+ds.length then news[j-(o+off)]? else c[j]?:=by
  intro j;rw[oH _ _ _ _ F,H]
 refine⟨iz w b (fT c (o+off) news) E,?_,?_⟩
 ·have:=mA (P:=P) b (o+off) E news 0 c w M (by simpa using F) I;simp only[Nat.add_zero]at this;rw[iQ];exact this
 have A:rW w lev (iz w b (fT c (o+off) news) E) lev:=rR R;refine h.setObj (ud h M (fL _ _ _) V ?_) A (λ_ _=>rfl) (λ_ h=>h) (.inr (by rw[X];simp)) ?_ ?_
 ·intro j O;rw[q,aq (by omega)]
 ·intro Y s hs _ C _;have:Y≠b:=by
   rintro rfl;rw[U]at C;cases C;exact hs rfl
  exact⟨qJ this _ _,rfl,rfl⟩
 ·have L:(kI cs off ds).length=cs.length:=lI (by omega);refine⟨b,o,_,E,Q,oD (lt_of_block M) _ _,by rw[fL,L];exact h3,R,U,by rw[L];exact V,?_⟩;intro j u e B p;rw[q]at B;rw[FU (by omega)]at p;by_cases O:off<=j/\j<off+ds.length
  ·rw[au (by omega)]at B;rw[au O]at p;have Z:o+j-(o+off)=j-off:=by omega
   rw[Z]at B;exact(J _ u e B p).Ax A λ_ _ h=>h
  ·rw[aq (by omega)]at B;rw[aq O]at p;exact(h7 j u e B p).Ax A λ_ _ h=>h
def Inv.Vj(h:Inv w0 l0 G S0 w lev own S env tm)(he:env.o r=.own z rows)(M:news.length=N.length*z)(Q:∀v∈news,v.oneCell'=true)
  (Z:∀r∈N,r.length=z) (hp:∀r∈N,∀d∈r,cE d)
  (R:∀(i j:Nat) p d,N[i]?=some p->p[j]?=some d->∃u,news[i*z+j]?=some u/\aO (cx w lev S) u d) (V:i+N.length<=rows.length) {len cap:Nat} (ha:S r=some (.slice f len cap)) (X:rows≠[]) :
  ∃b w',f=some b/\(storeCells (b.add (i*z)) news).run P w=.ok () w'/\Inv w0 l0 G S0 w' lev own S (eV env r (.own z (splice rows i N))) tm:=by
 have D:=h.objs r;rw[he]at D;rcases D with⟨_,_,O⟩| ⟨b,c,E,cap',h1,h2,h3,h4,h5,h6,h7,h8,h9,h10⟩
 ·exact(X O).elim
 have:f=some ⟨b,0,none⟩:=by rw[h1]at ha;cases ha;rfl
 subst this;have W:(i+N.length)*z<=cap'*z:=pH z (by omega);rw[Nat.add_mul]at W;have L:i*z+news.length<=c.size:=by omega
 have t:∀j,(fT c (i*z) news)[j]?=if i*z<=j/\j<i*z+N.length*z then news[j-i*z]? else c[j]?:=by
  intro j;rw[oH _ _ _ _ L,M]
 refine⟨_,iz w b (fT c (i*z) news) E,rfl,?_,?_⟩
 ·have:=mA (P:=P) b (i*z) E news 0 c w h2 (by simpa using L) Q;simp only[Nat.add_zero]at this;rw[iQ,Nat.zero_add];exact this
 have I:rW w lev (iz w b (fT c (i*z) news) E) lev:=rR h7;refine h.setObj (ud h h2 (fL _ _ _) h9 ?_) I (λ_ _=>rfl) (λ_ h=>h) (.inr (by rw[he];simp)) ?_ ?_
 ·intro j hj;rw[t,aq (by omega)]
 ·intro b' s hs _ J _;have:b'≠b:=by
   rintro rfl;rw[h8]at J;cases J;exact hs rfl
  exact⟨qJ this _ _,rfl,rfl⟩
 ·refine .inr ⟨b,_,E,cap',by rw[DX V];exact h1,oD (lt_of_block h2) _ _,by rw[fL];exact h3,by rw[DX V];exact h4,?_,?_,h7,h8,by rw[fL];exact h9,?_⟩
  ·intro p A;rcases L1 A with A|A
   ·exact h5 p A
   ·exact Z p A
  ·intro p A;rcases L1 A with A|A
   ·exact h6 p A
   ·exact hp p A
  ·intro C j p x q U;rw[aag V]at q;by_cases B:i<=C/\C<i+N.length
   ·rw[au B]at q;have F:j<z:=by rw[<-Z p (fC q)];exact(ia.1 U).1
    obtain⟨u,Y,H⟩:=R _ j p x q U;refine⟨u,?_,H.Ax I λ_ _ h=>h⟩;have e1:(C-i)*z=C*z-i*z:=Nat.sub_mul _ _ _;have e2:i*z<=C*z:=pH z B.1;have e3:=um (z:=z) F (show C-i<N.length by omega);rw[t,au (by omega),<-Y];congr 1;omega
   ·rw[aq B]at q;have F:j<z:=by rw[<-h5 p (fC q)];exact(ia.1 U).1
    obtain⟨u,Y,H⟩:=h10 C j p x q U;refine⟨u,?_,H.Ax I λ_ _ h=>h⟩;rw[t,aq ?_]
    ·exact Y
    ·rintro⟨g1,g2⟩;rw[<-Nat.add_mul]at g2;refine B ⟨?_,?_⟩
     ·rcases dN C i with hlt|hge
      ·have:=um F hlt;omega
      ·exact hge
     ·rcases dN C (i+N.length)with hlt|hge
      ·exact hlt
      ·have:=pH z hge;omega
def qM.take{V:Cx}{a:Option Addr}{len cap z m:Nat}{R:List (List D)}(h:qM w V (.slice a len cap) z R)(hm:m<=R.length):qM w V (.slice a m cap) z (R.take m):=by
 obtain⟨a',cap',e,h1,v,A,B,C⟩:=h;cases e;have t:(R.take m).length=m:=by simp;omega
 have:=show qM w V (.slice a (R.take m).length cap) z (R.take m)from
  ⟨a,cap,rfl,by omega,λr hr=>v r (mem_of_mem_take hr),λr hr=>A r (mem_of_mem_take hr),λo=>by rw[B o];simp,λu o i j s d p E=>by
   have q:i<m:=by have:=(ia.1 p).1;rw[t]at this;exact this
   rw[getElem?_take_of_lt q]at p
   exact C u o i j s d p E⟩
 rwa[t]at this
def Src(e:Env)(z m ly:Nat)(rows:List (List D)):D->Prop
 | .dZ r off z' l c=>z'=z/\l=ly/\m<=l/\mM z (qS e.o [] 2 (.dZ r off z' m c))=some rows
 |y=>∃R,mM z (qS e.o [] 2 y)=some R/\R.length=ly/\m<=ly/\rows=R.take m
def Pt(h:Inv w0 l0 G S0 w lev own S env tm)(D:aO (cx w lev S) b g)(M:z≠0)(C:Src env z m ly rows g) :
  (Builtin.lenOf b).run P w=.ok ly w/\rows.length=m/\(∀r∈rows,r.length=z)/\(∀r∈rows,∀d∈r,cE d)/\∃news:List Value,(Builtin.firstCells z m b).run P w=.ok news.toArray w/\news.length=rows.length*z/\(∀u∈news,u.oneCell'=true) /\
   ∀(i j:Nat) row d,rows[i]?=some row->row[j]?=some d->∃u,news[i*z+j]?=some u/\aO (cx w lev S) u d:=by
 have key:∃a cap,b=.slice a ly cap/\qM w (cx w lev S) (.slice a m cap) z rows:=by
  by_cases B:∃r off v l c,g=.dZ r off v l c
  ·obtain⟨r,off,v,l,c,rfl⟩:=B;obtain⟨rfl,rfl,L,hr⟩:=C;obtain⟨a,A,s,I,rfl,h3,h4,h5,rfl,F⟩:=D.jm;exact⟨A,_,rfl,mP h (aO.dZ r off v m s a A I F (by omega)) hr S⟩
  ·have t:∃R,mM z (qS env.o [] 2 g)=some R/\R.length=ly/\m<=ly/\rows=R.take m:=by
    cases g<;>first|exact C|exact(B ⟨_,_,_,_,_,rfl⟩).elim
   obtain⟨R,H,J,L,rfl⟩:=t;have p:=mP h D H S;have q:=p;obtain⟨a,cap,rfl,_⟩:=q;rw[<-J];exact⟨a,cap,rfl,p.take (by omega)⟩
 obtain⟨a,cap,rfl,p⟩:=key;have q:=p;obtain⟨a2,cap2,e,g1,E,g3,g4,g5⟩:=q;cases e;obtain⟨news,n1,O,Q,U⟩:=AS (P:=P) (w:=w) M p.toC;refine⟨by simp[Builtin.lenOf,Sem.run,pure],rfl,E,g3,news,?_,O,U,Q⟩;cases a<;>exact n1
theorem SK{C:Cx}(A:z≠0)(hr:∀r∈rows,r.length=z)(h:∀(i j:Nat) row d,rows[i]?=some row->row[j]?=some d->∃u,news[i*z+j]?=some u/\aO C u d)
  (m:Nat) (v:Value) (d:D) (t:news[m]?=some v) (o:rows.flatten[m]?=some d):aO C v d:=by
 rw[IJ A hr]at o;cases p:rows[m/z]? with
 |none=>rw[p]at o;cases o
 |some row =>
  rw[p]at o;obtain⟨u,s,q⟩:=h _ _ row d p o;have e:m/z*z+m%z=m:=by rw[Nat.mul_comm];exact Nat.div_add_mod m z
  rw[e,t]at s;cases s;exact q
section
variable{e:Env}{K:Env->Prop}{d:Nat}{ty T T2:TypeId}{pos:String}{after:Array Edge}{gu:Option (Nat×Bool)}
def fG.Qi(hT:fD P T=.slice z by_ ea)(hx:rd e x=.dZ r off z l c)(Z:e.o r=.box cs)(D:Src e z (min ly l) ly rows (rd e y))(Y:d<n)
  (B:off+(min ly l)*z<=cs.length) (I:K (cQ (eV e r (.box (kI cs off rows.flatten))) d (.int .i64 (min ly l:Nat)))) :
  fG P n ⟨some d,.call ⟨.builtin .copy,#[x,y],#[T,T2]⟩,ty,pos,after,gu⟩ e K:=by
 intro w0 l0 G S0 w lev own S a next Q h hn v q
 have C:=h.yR a rfl x;have U:=h.yR a rfl y;rw[hx]at C;obtain⟨el,inf,hu,hl,hin,hb,hz,zv0,hzv0,hzz0⟩:=fy hT;obtain⟨s,h1,W,h3,news,H,X,h6,h7⟩:=Pt (P:=P) h U hz D;obtain⟨ad,a',cap',hS,hv,g3,g4,g5,rfl,g6⟩:=C.jm;have A:=oO W;have L:news.length=rows.flatten.length:=by rw[X,A]
 by_cases F:min ly l=0
 ·have V:rows=[]:=length_eq_zero_iff.1 (by omega);subst V;have R:news=[]:=length_eq_zero_iff.1 (by simpa using X);subst R;have E:kI cs off []=cs:=by simp[kI]
  have M:eV e r (.box cs)=e:=by
   simp only[eV];cases e with
   |mk t o =>
    simp only[Env.mk.injEq,true_and];funext j;by_cases hj:j=r
    ·subst hj;simp only[if_true];exact Z.symm
    ·simp[hj]
  simp only[flatten_nil,E,M,F]at I;refine upon_value rfl (u:=.int .i64 0) ?_ (gV hn v q Y (h.put (.int _ _)) I);have O:(#[x,y].map a.eval:Array Value) = #[a.eval x,a.eval y]:=by simp
  rw[F]at H;have p:ly.min l=0:=F;cases a'<;>simp[execOp,resolve,Sem.run_bind,pure,Sem.run,invoke,builtin,O,Builtin.copy_,bQ hu,hv,s,dJ hl,p,H,goInt,storeCells]
 ·have J:=g6 (by omega);subst J;obtain⟨w',hr,hi⟩:=h.Mn (P:=P) Z L h6 (SK hz W h7) (by rw[A,h1];exact B) hS;refine upon_value rfl (u:=.int .i64 (min ly l:Nat)) ?_ (gV hn v q Y (hi.put (.int _ _)) I);have O:(#[x,y].map a.eval:Array Value) = #[a.eval x,a.eval y]:=by simp
  have p:ly.min l=min ly l:=rfl;simp[execOp,resolve,Sem.run_bind,pure,Sem.run,invoke,builtin,O,Builtin.copy_,bQ hu,hv,s,dJ hl,p,H,hr,goInt]
def fG.Xj{lo len:Nat}{R:List (List D)}(Y:fD P T=.slice z by_ ea)(hx:rd e x=.gl r z lo len)(he:e.o r=.own z R)(B:Src e z (min ly len) ly rows (rd e y))(Z:d<n)
  (v:lo+(min ly len)<=R.length) (h0:min ly len≠0) (W:K (cQ (eV e r (.own z (splice R lo rows))) d (.int .i64 (min ly len:Nat)))) :
  fG P n ⟨some d,.call ⟨.builtin .copy,#[x,y],#[T,T2]⟩,ty,pos,after,gu⟩ e K:=by
 intro w0 l0 G S0 w lev own S a next Q h hn F p
 have A:=h.yR a rfl x;have H:=h.yR a rfl y;rw[hx]at A;obtain⟨el,inf,hu,hl,hin,hb,hz,zv0,hzv0,hzz0⟩:=fy Y;obtain⟨s,h1,I,J,news,M,O,U,V⟩:=Pt (P:=P) h H hz B;obtain⟨ad,a',L,cap,cap',X,hv,g3,g4,g5⟩:=A.pS;obtain⟨b,E,C⟩:=g3 (by omega);obtain⟨b',w',q,hr,hi⟩:=h.Vj (P:=P) he (i:=lo) O U I J V (by omega) X (by intro e0;subst e0;simp at v;omega);rw[E]at q;cases q;subst C;refine upon_value rfl (u:=.int .i64 (min ly len:Nat)) ?_ (gV hn F p Z (hi.put (.int _ _)) W);have hm:(#[x,y].map a.eval:Array Value) = #[a.eval x,a.eval y]:=by simp
 have t:ly.min len=min ly len:=rfl;simp[execOp,resolve,Sem.run_bind,pure,Sem.run,invoke,builtin,hm,Builtin.copy_,bQ hu,hv,s,dJ hl,t,M,hr,goInt]
def fG.cap{x:Operand}{z by_:Nat}{ea:Bool}{r off l c:Nat}(v:fD P T=.slice z by_ ea)(F:rd e x=.dZ r off z l c)(A:d<n)(t:K (cQ e d (.int .i64 c))):fG P n ⟨some d,.call ⟨.builtin .cap,#[x],#[T]⟩,ty,pos,after,gu⟩ e K:=by
 intro w0 l0 G S0 w lev own S a next Q h C s o
 have q:=h.yR a rfl x;rw[F]at q;obtain⟨el,inf,D,_⟩:=fy v;obtain⟨ad,a',p,hS,E,g3,g4,g5,rfl,g6⟩:=q.jm;refine upon_value rfl (u:=.int .i64 p) ?_ (gV C s o A (h.put (.int _ _)) t);have B:(#[x].map a.eval:Array Value) = #[a.eval x]:=by simp
 simp[execOp,resolve,Sem.run_bind,pure,Sem.run,invoke,builtin,B,Builtin.cap_,bQ D,E,goInt]
def Z3{t:TypeId}(o:P.underlying t=some (.slice h))(a:Option Addr)(l c:Nat):(Op.equal t (.slice a l c) (.slice none 0 0)).run P w=.ok a.isNone w:=by
 show(Op.equalIn (9999+1) t _ _).run P w=_;cases a<;>(unfold Op.equalIn;simp only[Sem.run_bind,bQ o,Result.andThen_ok];rfl)
theorem fG.By(D:fD P T=.slice z by_ ea)(M:rd e x=.sl r rows)(A:d<n)(v:∀b:Bool,(b=true->rows=[])->K (cQ e d (.bool b))) :
  fG P n ⟨some d,.binOp .eql T x (.const (.slice none 0 0)) j,ty,pos,after,gu⟩ e K:=by
 intro w0 l0 G S0 w lev own S a next Q h B q o
 have t:=h.yR a rfl x;rw[M]at t;obtain⟨el,inf,J,_⟩:=fy D;obtain⟨p,cap,L,h1,h2,h3,C,h5⟩:=t.DW;have F:a.eval (.const (.slice none 0 0))=.slice none 0 0:=rfl;have H:=Z3 (P:=P) (w:=w) J p rows.length cap;have s:∀b:Bool,p.isNone=b->(execOp a.eval ⟨some d,.binOp .eql T x (.const (.slice none 0 0)) j,ty,pos,after,gu⟩).run P w=.ok (.value (.bool b)) w:=by
  rintro b rfl;have I:(eqGuard .eql T x (.const (.slice none 0 0)) (.slice p rows.length cap) (.slice none 0 0)).run P w=.ok () w:=by simp[eqGuard,Sem.run,pure]
  have E:(binOp .eql T (.slice p rows.length cap) (.slice none 0 0)).run P w=.ok (.bool p.isNone) w:=by simp[binOp,Sem.run_bind,H,Sem.run,pure]
  simp only[execOp,L,F,Sem.run_bind,I,E,Result.andThen_ok];rfl
 cases p with
 |none=>exact upon_value rfl (u:=.bool true) (s true rfl) (gV B q o A (h.put (.bool _)) (v true (λ_=>(C rfl).1)))
 |some p=>exact upon_value rfl (u:=.bool false) (s false rfl) (gV B q o A (h.put (.bool _)) (v false (λh=>by cases h)))
def fG.air{z2:Nat}{rows2:List (List D)}(hT:fD P T=.slice z by_ ea)(ae:fD P T2=.slice z2 ly k)(hx:rd e x=.dZ r off z l c)(he:e.o r=.box cs)(hy:mM z (qS e.o [] 2 (rd e y))=some rows2)(hd:d<n)(ah:by_<=2^32)
  (h1:l+rows2.length<=c->off+(l+rows2.length)*z<=cs.length/\K (cQ (eV e r (.box (kI cs (off+l*z) rows2.flatten))) d (.dZ r off z (l+rows2.length) c)))
  (h2:c<l+rows2.length->∃rows,qS e.o [] 2 (.dZ r off z l c)=.sl z rows/\rows.length=l/\(by_+1)*(l+rows2.length)<=2^45/\e.o (nm d 0)=.undef/\K (cQ (eV e (nm d 0) (.own z (rows++rows2))) d (.ref (nm d 0)))) :
  fG P n ⟨some d,.call ⟨.builtin .append,#[x,y],#[T,T2]⟩,ty,pos,after,gu⟩ e K:=by
 intro w0 l0 G S0 w lev own S a next Q h hn I q
 have C:=h.yR a rfl x;have aq:=h.yR a rfl y;rw[hx]at C;have ac:∃e,P.underlying T2=some (.slice e):=by
  obtain⟨e,_,hu,_⟩:=fy ae;exact⟨e,hu⟩
 obtain⟨el,inf,hu,hl,hin,hb,hz,zv0,hzv0,hzz0⟩:=fy hT;have F:=mP h aq hy S;have hm:(#[x,y].map a.eval:Array Value) = #[a.eval x,a.eval y]:=by simp
 have go:∀u w',(Builtin.append_ #[T,T2] ty #[a.eval x,a.eval y]).run P w=.ok u w'->(execOp a.eval ⟨some d,.call ⟨.builtin .append,#[x,y],#[T,T2]⟩,ty,pos,after,gu⟩).run P w=.ok (.value u) w':=by
  intro u w' hr;simp only[execOp,resolve,Sem.run_bind,pure,Sem.run,Result.andThen_ok,invoke,builtin,hm,hr]
 have Z:=C;obtain⟨ad,a',s,hS,hv,g3,g4,g5,rfl,g6⟩:=C.jm;by_cases v:l+rows2.length<=s
 ·obtain⟨ho,O⟩:=h1 v;obtain⟨news,Y,ao,an,H⟩:=PZ (P:=P) (w:=w) (V:=cx w lev S) hT ac (a:=a') (len:=l) (cap:=s) F.toC v ty;have E:∀r∈rows2,r.length=z:=by obtain⟨_,_,_,_,h3,_⟩:=F;exact h3
  have W:=oO E;by_cases U:s=0
  ·subst U;have ar:rows2=[]:=length_eq_zero_iff.1 (by omega);have ak:l=0:=by omega
   subst ar;subst ak;have am:news=[]:=length_eq_zero_iff.1 (by simpa using Y);subst am;have hw:kI cs (off+0*z) []=cs:=by simp[kI]
   have ai:eV e r (.box cs)=e:=by
    simp only[eV];cases e with
    |mk t o =>
     simp only[Env.mk.injEq,true_and];funext j;by_cases X:j=r
     ·subst X;simp only[if_true];exact he.symm
     ·simp[X]
   simp only[flatten_nil,hw,ai,length_nil,Nat.add_zero]at O;have hr:=H w (by cases a'<;>simp[storeCells,Sem.run,pure]);rw[<-hv]at hr;refine upon_value rfl (go _ _ hr) (gV hn I q hd (h.put ?_) O);simpa[hv]using Z
  ·have af:=g6 U;subst af;obtain⟨w',hr,L⟩:=h.Mn (P:=P) he (news:=news) (ds:=rows2.flatten) (off:=off+l*z) (by rw[Y,W]) an (SK hz E ao) (by rw[W];rw[Nat.add_mul]at ho;omega) hS;have ab:=H w' (by show(storeCells ((ad.add off).add (l*z)) news).run P w=_;rw[add_add];exact hr);rw[<-hv]at ab;refine upon_value rfl (go _ _ ab) (gV hn I q hd (L.put (.dZ r off z _ _ ad _ hS (λ_=>rfl) v)) O)
 ·obtain⟨rows,ag,al,R,aj,O⟩:=h2 (by omega);have B:=mP h C (z:=z) (rows:=rows) (by rw[ag];simp[mM]) S;rw[hv]at B;subst al;have J:qM w (cx w lev S) (.slice a' rows.length s) z rows:=B;obtain⟨_,_,_,_,q2,q3,_⟩:=B;obtain⟨_,_,_,_,p2,p3,_⟩:=id F;obtain⟨M,e',cells,k1,k2,k3,k4⟩:=R7 (P:=P) (w:=w) (V:=cx w lev S) hT ac J.toC F.toC v R ah ty;have E:∀p∈rows++rows2,p.length=z:=λp A=>(mem_append.1 A).elim (q2 p) (p2 p);have aa:∀p∈rows++rows2,∀d∈p,cE d:=λp A=>(mem_append.1 A).elim (q3 p) (p3 p)
  have L:=h.drew.GC (C0 d 0) aj (vs:=cells) (z:=z) (cap:=M) (rows:=rows++rows2) e' k2 (by rw[ct];exact k1) E aa (by
   intro i j p d L X;obtain⟨u,hu,au⟩:=k4 i j p d L X;have ap:d.names=[]:=(aa p (fC L) d (fC X)).2
   exact⟨u,hu,aO.iL (w:=w) (w':=w.drew) (lev':=lev) au (λ_ _ h=>h) (by rw[ap];simp)⟩)
  rw[<-hv]at k3;refine upon_value rfl (go _ _ k3) (gV hn I q hd (owned L ?_ ⟨_,_,_,rfl⟩) O);rw[fc,ct];rfl
def fG.aa5{k k2:IntKind}{zc:List D}(hT:fD P T=.slice z by_ ea)(au:fD P T2=.int k2)(hx:rd e x=.dZ r off z l c)(hy:rd e y=.int k m)(aK:gr P T=some zc)(aM:zc.length=z)(aN:∀d∈zc,cE d)(hd:d<n)(hby:by_<=2^32)
  (aB:0<m) (R:c<l+m) (hb:qS e.o [] 2 (.dZ r off z l c)=.sl z rows) (aA:rows.length=l) (L:(by_+1)*(l+m)<=2^45) (ay:e.o (nm d 0)=.undef) (hK:K (cQ (eV e (nm d 0) (.own z (rows++replicate m zc))) d (.ref (nm d 0)))) :
  fG P n ⟨some d,.call ⟨.builtin .append,#[x,y],#[T,T2]⟩,ty,pos,after,gu⟩ e K:=by
 intro w0 l0 G S0 w lev own S a next Q h hn av X
 have Y:=h.yR a rfl x;have am:=h.yR a rfl y;rw[hx]at Y;rw[hy]at am;have aJ:=am.fk;have aH:=RQ au;obtain⟨el,J,hu,hl,U,ae,hz,zv,aP,I⟩:=fy hT;have aL:oI P el=some zc:=by rw[<-aK];simp[gr,hu]
 obtain⟨s,M,hzs,aa⟩:=tq aL w.drew;have ap:(zeroValue el).run P w.drew=.ok zv w.drew:=by simp[zeroValue,Sem.run_bind,nA U,aP,Sem.run,pure]
 have aq:s=zv:=by rw[ap]at M;cases M;rfl
 subst aq;have hm:(#[x,y].map a.eval:Array Value) = #[a.eval x,a.eval y]:=by simp
 obtain⟨ad,a',t,hS,hv,g3,g4,g5,rfl,g6⟩:=Y.jm;have B:=mP h Y (z:=z) (rows:=rows) (by rw[hb];simp[mM]) S;rw[hv]at B;subst aA;obtain⟨_,_,_,_,q2,q3,_⟩:=id B;have aw:(w.drew).heap=w.heap:=rfl;obtain⟨C,al,v,ak,-⟩:=AS (P:=P) (w:=w.drew) hz (B.at aw).toC;obtain⟨N,ab⟩:∃N,N=(Question.appendCap (rows.length+m) t el).cut (w.tape w.drawn (.appendCap (rows.length+m) t el)):=⟨_,rfl⟩
 have hN:rows.length+m<=N:=by rw[ab];simp only[Question.cut];omega
 have H:=nextslicecap_le R;have ar:by_*(rows.length+m)<=2^45:=Nat.le_trans (by rw[Nat.succ_mul];omega) L;have E:¬ 281474976710656<Builtin.nextslicecap (rows.length+m) t*J.bytes:=by
  rw[ae];have h1:Builtin.nextslicecap (rows.length+m) t*by_<=(2*(rows.length+m)+192)*by_:=pH _ H;have h3:(2*(rows.length+m)+192)*by_=2*(by_*(rows.length+m))+192*by_:=by
   rw[Nat.add_mul,Nat.mul_assoc,Nat.mul_comm (rows.length+m) by_]
  omega
 have hneed:rows.length+m<=2^45:=Nat.le_trans (by rw[Nat.succ_mul];omega) L
 let cells:Array Value:=C.toArray++Builtin.zeroCells s.cells m++Builtin.zeroCells s.cells (N-(rows.length+m))
 have O:∀q,(Builtin.zeroCells s.cells q).size=q*z:=by intro q;simp[Builtin.zeroCells,I]
 have Z:cells.size=N*z:=by
  simp only[cells,Array.size_append,size_toArray,O,v];rw[<-Nat.add_mul,<-Nat.add_mul];congr 1;omega
 have ac:∀n,(askRoom n).run P w.drew=.ok () w.drew:=by
  intro n;unfold askRoom;split<;>simp[mark,Sem.run,pure]
 have ax:(Question.appendCap (rows.length+m) t el).forced=false:=rfl;have ag:(typeInfo el).run P w=.ok J w:=nA U w;have V:(typeInfo el).run P w.drew=.ok J w.drew:=nA U _;have A:(newRow el (C.toArray++(Builtin.zeroCells s.cells m++Builtin.zeroCells s.cells (N-(rows.length+m))))).run P w.drew=.ok ⟨w.heap.size,0,none⟩ (w.drew.alloc (.cells cells el)):=by
  rw[<-Array.append_assoc];simp[cells,newRow,newObj,Sem.run,Sem.bind,pure,bind,World.alloc]
 have aI:IntKind.i64.wrap (m:Int)=m:=CA (by omega) (by omega);have aC:¬((m:Int)*(J.bytes:Int)>281474976710656):=by
  rw[ae];have h4:m*by_<=by_*(rows.length+m):=by rw[Nat.mul_comm];exact Nat.mul_le_mul_left _ (by omega)
  have h5:((m*by_:Nat):Int)<=2^45:=by exact_mod_cast Nat.le_trans h4 ar
  have h6:((m:Int)*(by_:Int))=((m*by_:Nat):Int):=by simp
  omega
 have aD:¬m*z=0:=by
  have:=Nat.mul_pos aB (Nat.pos_of_ne_zero hz);omega
 have hi3:¬((9223372036854775807:Int)<(rows.length:Int)+(m:Int)):=by omega
 have aj:¬((m:Int)<0):=by omega
 have af:¬rows.length+m<=t:=by omega
 have ao:∀p∈rows++replicate m zc,p.length=z:=λp A=>(mem_append.1 A).elim (q2 p) (λh=>by rw[(mem_replicate.1 h).2];exact aM);have an:∀p∈rows++replicate m zc,∀d∈p,cE d:=λp A=>(mem_append.1 A).elim (q3 p) (λh=>by rw[(mem_replicate.1 h).2];exact aN)
 have hi:=h.drew.GC (C0 d 0) ay (vs:=cells) (z:=z) (cap:=N) (rows:=rows++replicate m zc) el Z (by simpa using hN) ao an (by
  intro i j p x hi hj;have aE:x.names=[]:=(an p (fC hi) x (fC hj)).2;have F:j<z:=by rw[<-ao p (fC hi)];exact(ia.1 hj).1
  rcases LH hi with hi'| ⟨hge,hi'⟩
  ·have W:=um F (ia.1 hi').1;obtain⟨u,aG,aF⟩:=ak i j p x hi' hj;refine⟨u,?_,aO.iL (w:=w) (w':=w.drew) (lev':=lev) aF (λ_ _ h=>h) (by rw[aE];simp)⟩;simp only[cells];rw[Array.append_assoc,Array.getElem?_append_left (by simp[v];exact W)];simpa using aG
  ·have hr:p=zc:=(mem_replicate.1 (fC hi')).2;subst hr;have az:i-rows.length<m:=by have:=(ia.1 hi').1;simpa using this
   have W:=um (z:=z) F az;have hge':rows.length*z<=i*z:=pH z hge;have e1:i*z+j-rows.length*z=(i-rows.length)*z+j:=by rw[Nat.sub_mul];omega
   have ah:j<s.cells.size:=by rw[I];exact F
   refine⟨s.cells[j],?_,aa _ j _ x (by simp[ah]) hj⟩;simp only[cells];rw[Array.append_assoc,Array.getElem?_append_right (by simp[v];omega),Array.getElem?_append_left (by rw[O];simp only[size_toArray,v];omega)];simp only[size_toArray,v,e1,Builtin.zeroCells,Array.getElem?_map];rw[Array.getElem?_eq_getElem (by simp[I];exact W)];have ai:((i-rows.length)*z+j)%s.cells.size=j:=by rw[I,Nat.add_comm,Nat.add_mul_mod_self_right,Nat.mod_eq_of_lt F]
   simp only[Option.map_some,Array.getElem_range,ai]
   rw[getElem!_pos s.cells j ah])
 refine upon_value rfl (u:=.slice (some ⟨w.heap.size,0,none⟩) (rows.length+m) N) ?_ (gV hn av X hd (owned hi (by rw[fc];simp) ⟨_,_,_,rfl⟩) hK);simp[execOp,resolve,invoke,builtin,hm,aJ,hv,Builtin.append_,Sem.run_bind,bQ hu,bQ aH,dJ hl,asInt,asIntOf,aI,aj,aC,aD,af,ag,hi3,E,ax,<-ab,ac,V,al,ap,A,Sem.run,pure]
end
end
end Go.Abs
namespace Go.Abs
open List
variable{r l by_ z:Nat}{b:Act->World->Prop}{a:Act}{ea:Bool}{x g f:Operand}{i m j:Int}{ts:Array TypeId}{fn:Func}{k:FuncId}{c:Array Value->Sem Value}
section
variable{P:Program}{n:Nat}{w0 w w':World}{l0:Nat->Option Nat}{G:Nat->Option (Nat×Nat)}{S0:Nat->Option Value}{lev lev' own own':Nat->Option Nat}{S S':Nat->Option Value}{env env':Env}{tm tm':Nat->Value}
variable{e:Env}{K:Env->Prop}{d:Nat}{ty T T2:TypeId}{pos:String}{after:Array Edge}{gu:Option (Nat×Bool)}
theorem aga{e:Env}{x:D}(p:e.o r=x):eV e r x=e:=by
 simp only[eV];cases e with
 |mk t o =>
  simp only[Env.mk.injEq,true_and];funext j;by_cases h:j=r
  ·subst h;simp only[if_true];exact p.symm
  ·simp[h]
def G3{o:Oper}{Q:Exit->Act->World->Prop}{u:Value}(p:o.dst=none)(hr:(execOp a.eval o).run P w=.ok (.value u) w')
  (h:b a w'):o.wp P a w b Q:=by
 unfold Oper.wp;rw[hr];simp only[Oper.upon,p,Act.put];exact h
def fG.clear{x:Operand}{z by_:Nat}{ea:Bool}{r off l c:Nat}{cs zc:List D}(hT:fD P T=.slice z by_ ea)(hx:rd e x=.dZ r off z l c)(he:e.o r=.box cs)(ab:gr P T=some zc)(C:zc.length=z)(ae:∀d∈zc,cE d)
  (O:off+l*z<=cs.length) (X:K (eV e r (.box (kI cs off (replicate l zc).flatten)))) :
  fG P n ⟨none,.call ⟨.builtin .clear,#[x],#[T]⟩,ty,pos,after,gu⟩ e K:=by
 intro w0 l0 G S0 w lev own S a next Q h hn J q
 have R:=h.yR a rfl x;rw[hx]at R;obtain⟨el,inf,hu,hl,Z,hb,hz,zv,af,t⟩:=fy hT;have ac:oI P el=some zc:=by rw[<-ab];simp[gr,hu]
 obtain⟨p,A,hzs,E⟩:=tq ac w;have U:(zeroValue el).run P w=.ok zv w:=by simp[zeroValue,Sem.run_bind,nA Z,af,Sem.run,pure]
 have V:p=zv:=by rw[U]at A;cases A;rfl
 subst V;obtain⟨ad,a',cap',hS,W,g3,g4,g5,rfl,g6⟩:=R.jm;have hm:(#[x].map a.eval:Array Value) = #[a.eval x]:=by simp
 by_cases h0:l=0
 ·subst h0;have hw:kI cs off []=cs:=by simp[kI]
  simp only[replicate_zero,flatten_nil,hw,aga he]at X;refine G3 rfl (u:=.tuple #[]) ?_ (q _ _ _ _ _ a hn J h X);cases a'<;>simp[execOp,resolve,Sem.run_bind,pure,Sem.run,invoke,builtin,hm,Builtin.clear_,bQ hu,W]
 ·have Y:=g6 (by omega);subst Y;have L:(replicate l zc).flatten.length=l*z:=Bd C l;have aa:(Builtin.zeroCells p.cells l).toList.length=(replicate l zc).flatten.length:=by rw[L];simp[Builtin.zeroCells,t]
  have F:∀(j:Nat) v,(Builtin.zeroCells p.cells l).toList[j]?=some v->∃d,zc[j%z]?=some d/\aO (cx w lev S) v d:=by
   intro j v s;have B:j<l*z:=by have:=(ia.1 s).1;omega
   have N:j%z<z:=Nat.mod_lt _ (by omega);have y:j%z<p.cells.size:=by rw[t];exact N
   have M:j%z<zc.length:=by rw[C];exact N
   have:v=p.cells[j%z]:=by
    simp only[Builtin.zeroCells,Array.getElem?_toList,Array.getElem?_map]at s;rw[Array.getElem?_eq_getElem (by simp[t];exact B)]at s;simp only[Option.map_some,Array.getElem_range,qN,t]at s;rw[<-s,getElem!_pos p.cells _ y]
   subst this;exact⟨zc[j%z],by simp[M],E _ (j%z) _ _ (by simp[y]) (by simp[M])⟩
  obtain⟨w',hr,hi⟩:=h.Mn (P:=P) he aa (by
   intro v W;obtain⟨j,s⟩:=mem_iff_getElem?.1 W;obtain⟨d,H,hr⟩:=F j v s
   exact(Fm hr (ae d (fC H)).1).1) (by
   intro j v d s H;have B:j<l*z:=by have:=(ia.1 H).1;omega
   rw[J0 C hz l j B]at H;obtain⟨d',I,hr⟩:=F j v s;rw[H]at I;cases I
   exact hr) (by rw[L];exact O) hS
  refine G3 rfl (u:=.tuple #[]) ?_ (q _ _ _ _ _ a hn J hi X);cases l with
  |zero=>exact(h0 rfl).elim
  |succ l=>simp[execOp,resolve,Sem.run_bind,pure,Sem.run,invoke,builtin,hm,Builtin.clear_,bQ hu,W,U,hr]
theorem fG.Ss{lo:Nat}{R:List (List D)}{zc:List D}(hT:fD P T=.slice z by_ ea)(hx:rd e x=.gl r z lo l)(he:e.o r=.own z R)(ai:gr P T=some zc)(E:zc.length=z)(X:∀d∈zc,cE d)
  (A:lo+l<=R.length) (h0:l≠0) (hK:K (eV e r (.own z (splice R lo (replicate l zc))))) :
  fG P n ⟨none,.call ⟨.builtin .clear,#[x],#[T]⟩,ty,pos,after,gu⟩ e K:=by
 intro w0 l0 G S0 w lev own S a next Q h hn ac C
 have W:=h.yR a rfl x;rw[hx]at W;obtain⟨el,inf,hu,hl,af,hb,hz,zv,ak,q⟩:=fy hT;have aj:oI P el=some zc:=by rw[<-ai];simp[gr,hu]
 obtain⟨p,B,hzs,F⟩:=tq aj w;have Y:(zeroValue el).run P w=.ok zv w:=by simp[zeroValue,Sem.run_bind,nA af,ak,Sem.run,pure]
 have Z:p=zv:=by rw[Y]at B;cases B;rfl
 subst Z;obtain⟨ad,a',L,cap,cap',hS,hv,g3,g4,g5⟩:=W.pS;obtain⟨b,ab,aa⟩:=g3 h0;have hm:(#[x].map a.eval:Array Value) = #[a.eval x]:=by simp
 have H:∀(j:Nat) v,(Builtin.zeroCells p.cells l).toList[j]?=some v->∃d,zc[j%z]?=some d/\aO (cx w lev S) v d:=by
  intro j v s;have ag:j<l*z:=by have:=(ia.1 s).1;simp[Builtin.zeroCells,q]at this;omega
  have V:j%z<z:=Nat.mod_lt _ (by omega);have y:j%z<p.cells.size:=by rw[q];exact V
  have O:j%z<zc.length:=by rw[E];exact V
  have:v=p.cells[j%z]:=by
   simp only[Builtin.zeroCells,Array.getElem?_toList,Array.getElem?_map]at s;rw[Array.getElem?_eq_getElem (by simp[q];exact ag)]at s;simp only[Option.map_some,Array.getElem_range,qN,q]at s;rw[<-s,getElem!_pos p.cells _ y]
  subst this;exact⟨zc[j%z],by simp[O],F _ (j%z) _ _ (by simp[y]) (by simp[O])⟩
 have t:(Builtin.zeroCells p.cells l).toList.length=l*z:=by simp[Builtin.zeroCells,q]
 obtain⟨b',w',I,hr,hi⟩:=h.Vj (P:=P) (N:=replicate l zc) (news:=(Builtin.zeroCells p.cells l).toList) he (i:=lo) (by rw[length_replicate];exact t) (by
   intro v hv;obtain⟨j,s⟩:=mem_iff_getElem?.1 hv;obtain⟨d,hd,hr⟩:=H j v s
   exact(Fm hr (X d (fC hd)).1).1)
  (by intro r hr;rw[(mem_replicate.1 hr).2];exact E) (by intro r hr;rw[(mem_replicate.1 hr).2];exact X) (by
   intro i j al d hi s;have ae:i<l:=by
    have:=(ia.1 hi).1;simpa using this
   have hr:al=zc:=(mem_replicate.1 (fC hi)).2;subst hr;have M:j<z:=by rw[<-E];exact(ia.1 s).1
   have ah:i*z+j<l*z:=um M ae;have U:(i*z+j)%z=j:=by rw[Nat.add_comm,Nat.add_mul_mod_self_right,Nat.mod_eq_of_lt M]
   have hk:i*z+j<(Builtin.zeroCells p.cells l).toList.length:=by rw[t];exact ah
   obtain⟨d',J,hr⟩:=H (i*z+j) _ (gF hk);rw[U,s]at J;cases J
   exact⟨_,gF hk,hr⟩) (by rw[length_replicate];exact A) hS (by intro e0;subst e0;simp at A;omega)
 rw[ab]at I;cases I;subst aa;refine G3 rfl (u:=.tuple #[]) ?_ (C _ _ _ _ _ a hn ac hi hK);cases l with
 |zero=>exact(h0 rfl).elim
 |succ l=>simp[execOp,resolve,Sem.run_bind,pure,Sem.run,invoke,builtin,hm,Builtin.clear_,bQ hu,hv,Y,hr]
def fG.akz{lo:Operand}{off c:Nat}{k1 k2 k3:IntKind}(R:fD P T=.slice z by_ ea)(Z:rd e x=.dZ r off z l c)(C:rd e lo=.int k1 i)(B:rd e f=.int k2 j)(D:rd e g=.int k3 m)
  (U:d<n) (M:0<=i) (h2:i<=j) (h3:j<=m) (N:m<=c) (O:K (cQ e d .undef)) :
  fG P n ⟨some d,.slice T x (some lo) (some f) (some g),ty,pos,after,gu⟩ e K:=by
 intro w0 l0 G S0 w lev own S a next Q h W A p
 have v:=h.yR a rfl x;have q:=h.yR a rfl lo;have s:=h.yR a rfl f;have t:=h.yR a rfl g;rw[Z]at v;rw[C]at q;rw[B]at s;rw[D]at t;have J:=q.fk;have e2:=s.fk;have L:=t.fk;obtain⟨el,inf,X,V,hin,hb,hz,zv,hzv,hzz⟩:=fy R;obtain⟨ad,E,o,hS,Y,g3,g4,g5,rfl,g6⟩:=v.jm;have F:0<=m/\m<=(o:Int):=⟨by omega,N⟩
 have H:0<=j/\j<=((m.toNat:Nat):Int):=⟨by omega,by omega⟩
 have I:0<=i/\i<=((j.toNat:Nat):Int):=⟨M,by omega⟩
 refine upon_value rfl (u:=.slice (if m.toNat=i.toNat then E else E.map (·.add (i.toNat*z))) (j.toNat-i.toNat) (m.toNat-i.toNat)) ?_ (gV W A p U (h.put (.undef _)) O);have y:(Instr.sliceBounds true l o (some (a.eval lo)) (some (a.eval f)) (some (a.eval g))).run P w=.ok (i.toNat,j.toNat,m.toNat) w:=by
  simp only[Instr.sliceBounds,Sem.run_bind,Instr.sliceBound,asIntOf,J,e2,L,au F,au H,au I,Sem.run,pure,Result.andThen]
 simp[execOp,Instr.sliceAt,Sem.run_bind,bQ X,Instr.slice,Y,y,dJ V,Sem.run,pure]
def Dq {as : Array Operand} {u : Value} (hf : a.eval f = .func (.func k) #[] #[]) (hk : P.funcs[k]? = some fn) (hname : (fn.name == "runtime.NumGoroutine") = false)
  (hb:fn.body.isNone=true) (hn:Extern.findNext fn=none) (he:Extern.find fn=some c) (hr:(c (as.map a.eval)).run P w=.ok u w) :
  (execOp a.eval ⟨some d,.call ⟨.value f,as,ts⟩,ty,pos,after,gu⟩).run P w=.ok (.value u) w:=by
 have h1 : fn.name ≠ "runtime.NumGoroutine" := by simpa using hname
 have h2:fn.body=none:=by simpa using hb
 simp[execOp,resolve,hf,Deferred.ofValue,Sem.run_bind,invoke,callFunc,hk,h1,h2,hn,he,program,mark,Sem.run,pure,hr]
def fG.zY {c : Operand} (hf : rd e f = .fn k []) (hk : P.funcs[k]? = some fn) (hname : (fn.name == "runtime.NumGoroutine") = false) (hb : fn.body.isNone = true) (hn : Extern.findNext fn = none) (he : Extern.find fn = some add64Entry)
  (hx:rd e x=.int .u64 i) (hy:rd e g=.int .u64 j) (hc:rd e c=.int .u64 m) (h1:0<=i) (h2:0<=j) (h3:0<=m) (h4:m<=1) (hd:d<n) (hK:K (cQ e d (.bD [.int .u64 ((i+j+m)%18446744073709551616),.int .u64 ((i+j+m)/18446744073709551616)]))) :
  fG P n ⟨some d,.call ⟨.value f,#[x,g,c],ts⟩,ty,pos,after,gu⟩ e K:=by
 intro w0 l0 G S0 w lev own S a next Q h hnn hdf hnext
 have hof:=h.yR a rfl f;have ho1:=h.yR a rfl x;have ho2:=h.yR a rfl g;have ho3:=h.yR a rfl c;rw[hf]at hof;rw[hx]at ho1;rw[hy]at ho2;rw[hc]at ho3;obtain⟨cv,hv,hcs,hcc⟩:=hof.Du;have hcv:cv = #[]:=Array.eq_empty_of_size_eq_zero (by simpa using hcs);subst hcv;have hm:(#[x,g,c].map a.eval:Array Value) = #[.int .u64 i,.int .u64 j,.int .u64 m]:=by simp[ho1.fk,ho2.fk,ho3.fk]
 refine upon_value rfl (Dq hv hk hname hb hn he (by rw[hm];exact run_add64 i j m h1 h2 h3 h4 w)) (gV hnn hdf hnext hd (h.put (.bD _ _ rfl ?_)) hK);intro i' v dd hi' hd';rcases i' with _| _|i'
 ·simp at hi' hd';subst hi';subst hd';exact .int _ _
 ·simp at hi' hd';subst hi';subst hd';exact .int _ _
 ·simp at hi'
theorem QU(ps rs:Array TypeId)(a b:Option Addr)(la ca lb cb:Nat):Extern.SlicesOverlaps.overlaps ps rs #[.slice a la ca,.slice b lb cb]=(do
  let some t := ps[0]? | stuck "slices.overlaps: no parameter types"
  let .slice elem <- underlying t | stuck "slices.overlaps: slice type expected"
  let size <-sizeOf elem
  match a,b with
  |some a,some b =>
   if la=0\/lb=0\/size=0 then pure (.bool false)
   else if a.block != b.block&&(<-frozen a)&&(<-frozen b)then unsupported .addressObserved
   else do
    if a.block != b.block then do
     noView a;noView b
     if <- mayBeOne a b then return .bool ((<- choose (.extern "sameAddr.stringBytes" 2)) == 1)
    pure (.bool (a.block==b.block&&a.off<b.off+lb*size&&b.off<a.off+la*size))
  | _,_=>pure (.bool false)):=rfl
def fG.overlaps {f x y : Operand} {k : FuncId} {fn : Func} {ts : Array TypeId} {t0 : TypeId} {z by_ : Nat} {ea : Bool} {r2 z2 r off l c : Nat} {rows : List (List D)} {cs : List D} (hf : rd e f = .fn k []) (hk : P.funcs[k]? = some fn) (hname : (fn.name == "runtime.NumGoroutine") = false) (hb : fn.body.isNone = true)
  (hn:Extern.findNext fn=none) (he:Extern.find fn=some (Extern.SlicesOverlaps.overlaps fn.params fn.resultTypes)) (hp:fn.params[0]?=some t0) (hT:fD P t0=.slice z by_ ea) (hx:rd e x=.ref r2) (hxo:e.o r2=.own z2 rows) (hy:rd e y=.dZ r off z l c) (hyo:e.o r=.box cs)
  (hd:d<n) (hK:K (cQ e d (.bool false))) :
  fG P n ⟨some d,.call ⟨.value f,#[x,y],ts⟩,ty,pos,after,gu⟩ e K:=by
 intro w0 l0 G S0 w lev own S a next Q h hnn hdf hnext
 have hof:=h.yR a rfl f;have ho1:=h.yR a rfl x;have ho2:=h.yR a rfl y;rw[hf]at hof;rw[hx]at ho1;rw[hy]at ho2;obtain⟨cv,hv,hcs,hcc⟩:=hof.Du;have hcv:cv = #[]:=Array.eq_empty_of_size_eq_zero (by simpa using hcs);subst hcv;obtain⟨el,inf,hu,hl,hin,hbi,hz,zv,hzv,hzz⟩:=fy hT;obtain⟨ad,a',cap',hS,hvy,g3,g4,g5,rfl,g6⟩:=ho2.jm;obtain⟨hS2,b2,len2,cap2,hvx⟩:=ho1.rI;rw[hvx]at hS2;have hS2:S r2=_:=hS2;have hS:S r=_:=hS;have hobj:=h.objs r;rw[hyo]at hobj;obtain⟨b,o,cc,E,q1,q2,q3,q4,q5,q6,q7⟩:=hobj;have had:ad=⟨b,o,none⟩:=by rw[q1]at hS;cases hS;rfl
 have hobj2:=h.objs r2;rw[hxo]at hobj2;have hrr:r2≠r:=by rintro rfl;rw[hxo]at hyo;cases hyo
 have hm:(#[x,y].map a.eval:Array Value) = #[.slice b2 len2 cap2,.slice a' l cap']:=by simp[hvx,hvy]
 refine upon_value rfl (Dq (u:=.bool false) hv hk hname hb hn he ?_) (gV hnn hdf hnext hd (h.put (.bool _)) hK);rw[hm,QU];by_cases hz0:len2=0\/l=0\/z=0
 ·cases b2<;>cases a'<;>simp[hp,Sem.run_bind,bQ hu,dJ hl,hz0,Sem.run,pure]
 ·have hc0:cap'≠0:=by omega
  have ha':=g6 hc0;subst ha';subst had;rcases hobj2 with⟨aa,p1,p2⟩| ⟨b',c',E',cap3,p1,p2,p3,p4,p5,p6,p7,p8,p9,p10⟩
  ·rw[p1]at hS2;cases hS2;exact(hz0 (.inl rfl)).elim
  ·have:b2=some ⟨b',0,none⟩:=by rw[p1]at hS2;cases hS2;rfl
   subst this;have hbb:b'≠b:=by rintro rfl;rw[p8]at q5;cases q5;exact hrr rfl
   have f1:w.frozen? ⟨b',0,none⟩=false:=by simp[World.frozen?,p2]
   have f2:∀i,w.frozen? ⟨b,i,none⟩=false:=by intro i;simp[World.frozen?,q2]
   have f3:∀i,w.frozen? ⟨b',i,none⟩=false:=by intro i;simp[World.frozen?,p2]
   have s1:w.shape? b'=some (E',c'.size):=by simp[World.shape?,p2]
   have s2:w.shape? b=some (E,cc.size):=by simp[World.shape?,q2]
   have hao:(⟨b,o,none⟩:Addr).add off=⟨b,o+off,none⟩:=iQ _ _ _;rw[hao];simp[hp,Sem.run_bind,bQ hu,dJ hl,hz0,hbb,f1,f2,f3,s1,s2,noView,viewAt,mayBeOne,stringish,Sem.run,pure]
end
end Go.Abs
namespace Go.Abs
open List
variable{z:Nat}{rows R:List (List D)}{ds:List D}
section
variable{P:Program}
def jK(rows:List (List D))(cap z:Nat):List D:=rows.flatten++replicate ((cap-rows.length)*z) .undef
def uZ{cap:Nat}(h:∀r∈rows,r.length=z)(hl:rows.length<=cap):(jK rows cap z).length=cap*z:=by
 simp only[jK,ct,oO h,length_replicate];rw[<-Nat.add_mul];congr 1;omega
def dyn(k:Nat)(X:D):List D:=.undef::(replicate k .undef++[X])
theorem Ql(k:Nat)(X:D)(r:Nat):(dyn k X).getD r .undef=if r=k+1 then X else .undef:=by
 unfold dyn;cases r with
 |zero=>simp
 |succ r =>
  simp only[getD_eq_getElem?_getD,getElem?_cons_succ];by_cases h:r<k
  ·rw[getElem?_append_left (by simpa using h),aq (by omega)];simp[h]
  ·rw[getElem?_append_right (by simpa using h)];simp only[length_replicate];by_cases c:r=k
   ·subst c;simp
   ·rw[aq (by omega)];have:r-k=(r-k-1)+1:=by omega
    rw[this];simp
theorem QO(k:Nat)(X:D)(r:Nat):(X::replicate k .undef).getD r .undef=if r=0 then X else .undef:=by
 cases r with
 |zero=>simp
 |succ r =>
  simp only[getD_eq_getElem?_getD,getElem?_cons_succ,getElem?_replicate];split<;>simp
def Spec.aco{f:FuncId}{hr:List D}(ag:rows≠[])(M:∀r∈R,r.length=z)(aa:∀r∈R,∀d∈r,cE d)(ao:∀d∈ds,0∉d.names)(ar:∀h∈hr,∃z' C,h=.own z' C)
  (h:∀cap,rows.length<=cap->(∃cs,R.length<=cap/\cs.length=cap*z/\cs.take (R.length*z)=R.flatten/\Spec P f (.box (jK rows cap z)::hr) (.dZ 0 0 z rows.length cap::ds) (.box cs::replicate hr.length .undef) (.dZ 0 0 z R.length cap)) \/
   Spec P f (.box (jK rows cap z)::hr) (.dZ 0 0 z rows.length cap::ds) (dyn hr.length (.own z R)) (.ref (hr.length+1))) :
  Spec P f (.own z rows::hr) (.ref 0::ds) (dyn hr.length (.own z R)) (.ref (hr.length+1)):=by
 have af:Enters P f:=by
  rcases h rows.length (fO _)with⟨_,_,_,_,X⟩|X
  ·exact X.1
  ·exact X.1
 refine⟨af,?_⟩;intro w l0 G0 B S0 vs hT hl hG X L ai;have K:=ai 0;simp only[getD_cons_zero]at K;rcases K with⟨_,_,ah⟩| ⟨b,c,E,cap,h1,h2,h3,h4,h5,h6,h7,h8,h9,h10⟩
 ·exact(ag ah).elim
 obtain⟨F,ab⟩:∃F,F=lP S0 0 (some (.pointer (some ⟨b,0,none⟩))):=⟨_,rfl⟩
 have o:F 0=some (.pointer (some ⟨b,0,none⟩)):=by rw[ab];exact fc _ _ _
 have p:∀r,r≠0->F r=S0 r:=λr hr=>by rw[ab];exact gX _ _ hr
 have hblt:=lt_of_block h2;have ap:∃lo g,G0 b=some (lo,g)/\lo<=0/\c.size<=g:=by
  rcases h9 with h9| ⟨lo,g,G,g2,g3⟩
  ·omega
  ·exact⟨lo,g,G,g2,g3⟩
 have A:∀(i:Nat) v x,vs[i]?=some v->(D.dZ 0 0 z rows.length cap::ds)[i]?=some x->aO (cx w l0 F) v x:=by
  intro i v x hv hx;cases i with
  |zero =>
   have V:D.dZ 0 0 z rows.length cap=x:=by simpa using hx
   subst V;obtain⟨G,a,len,cp,rfl⟩:=(L 0 v (.ref 0) hv rfl).rI;have G:S0 0=_:=G;rw[h1]at G;cases G;exact .dZ 0 0 z _ _ ⟨b,0,none⟩ _ o (λ_=>by simp[Addr.add]) h4
  |succ i =>
   have V:ds[i]?=some x:=by simpa using hx
   refine(L (i+1) v x hv (by simpa using hx)).iL (.refl _ _) ?_;intro s aw u Y;rw[p s ?_];exact Y;rintro rfl;exact ao x (fC V) aw
 have J:∀r,n8 w.heap.size G0 w l0 B F r ((D.box (jK rows cap z)::hr).getD r .undef):=by
  intro r;cases r with
  |zero =>
   simp only[getD_cons_zero];refine⟨b,0,c,E,o,h2,by rw[uZ h5 h4];omega,h7,h8,by rw[uZ h5 h4,<-h3,Nat.zero_add];exact h9,?_⟩;intro j u e Y q;rw[Nat.zero_add]at Y;unfold jK at q;by_cases H:j<rows.flatten.length
   ·rw[getElem?_append_left H]at q;by_cases hz:z=0
    ·rw[oO h5,hz]at H;omega
    rw[IJ hz h5]at q;cases g:rows[j/z]? with
    |none=>rw[g]at q;cases q
    |some l =>
     rw[g]at q;obtain⟨u',ak,T⟩:=h10 _ _ l e g q;have em:j/z*z+j%z=j:=by rw[Nat.mul_comm];exact Nat.div_add_mod j z
     rw[em,Y]at ak;cases ak;have y:e.names=[]:=(h6 l (fC g) e (fC q)).2;exact T.iL (.refl _ _) (by rw[y];simp)
   ·rw[getElem?_append_right (by omega),getElem?_replicate]at q;split at q
    ·cases q;exact .undef _
    ·cases q
  |succ r =>
   have W:=ai (r+1);simp only[getD_cons_succ]at W |-
   by_cases t:r<hr.length
   ·have hg:hr.getD r .undef=hr[r]:=by simp[getD,t]
    rw[hg]at W |-;obtain⟨z',C,e⟩:=ar _ (dH t);rw[e]at W |-;rcases W with⟨a,p1,p2⟩| ⟨b',Z,E',n,p1,p2,p3,p4,p5,p6,p7,p8,p9,p10⟩
    ·exact .inl ⟨a,by rw[p _ (by omega)];exact p1,p2⟩
    ·refine .inr ⟨b',Z,E',n,by rw[p _ (by omega)];exact p1,p2,p3,p4,p5,p6,p7,p8,p9,?_⟩;intro i j l x g H;obtain⟨u,Y,T⟩:=p10 i j l x g H;have y:x.names=[]:=(p6 l (fC g) x (fC H)).2;exact⟨u,Y,T.iL (.refl _ _) (by rw[y];simp)⟩
   ·have hg:hr.getD r .undef=.undef:=by simp[getD,t]
    rw[hg]at W |-
    show F (r+1)=none;rw[p _ (by omega)];exact W
 rcases h cap h4 with⟨cs,al,hcl,an,U⟩|U
 ·refine(U.2 w l0 G0 B F vs hT hl hG (by simpa using X) A J).mono ?_;rintro e w' ⟨v,rfl,ho⟩;refine⟨v,rfl,ho.os,ho.tape,ho.output,ho.size,ho.old,ho.part,?_⟩;obtain⟨lev,own,S,G,g2,g3,g4,g5⟩:=ho.rep;have ac:=g4 0;rw[QO,au rfl]at ac;obtain⟨b',o',Z,E',q1,q2,q3,q4,q5,q6,q7⟩:=ac;have aj:S 0=F 0:=g5 0 (by simp) (by rw[QO,au rfl];simp);rw[aj,o]at q1;cases q1;obtain⟨lo,g,k1,k2,k3⟩:=ap;obtain⟨c0,c1,E1,m1,m2,m3,-⟩:=ho.part b lo g k1;rw[h2]at m1;cases m1;rw[q2]at m2;cases m2;obtain⟨ad,a',n,hS,rfl,y3,y4,y5,e6,y6⟩:=g3.jm;have hS:S 0=_:=hS;rw[aj,o]at hS;cases hS;subst e6;have hlen:0<rows.length:=length_pos_iff.2 ag;have am:=y6 (by omega);subst am;refine⟨lev,lP own b (some (hr.length+1)),lP (lP S 0 none) (hr.length+1) (some (.slice (some ⟨b,0,none⟩) R.length n)),G,g2,?_,?_,?_⟩
  ·exact .ref _ _ _ _ (by show lP _ _ _ _=_;rw[fc];simp[Addr.add])
  ·intro r;rw[Ql];by_cases Q:r=hr.length+1
   ·subst Q;rw[au rfl];refine .inr ⟨b,Z,_,n,fc _ _ _,q2,by rw[m3,h3],al,M,aa,q4,fc _ _ _,by rw[m3];exact h9,?_⟩;intro i j l x g H;have N:j<z:=by rw[<-M l (fC g)];exact(ia.1 H).1
    have av:i<R.length:=(ia.1 g).1;have t:=um N av;have hz:z≠0:=by omega
    have ae:cs[i*z+j]?=some x:=by
     rw[<-getElem?_take_of_lt t,an,IJ hz M];have e1:(i*z+j)/z=i:=by rw[Nat.mul_comm,Nat.mul_add_div (by omega),Nat.div_eq_of_lt N];rfl
     have e2:(i*z+j)%z=j:=by rw[Nat.mul_comm,Nat.mul_add_mod,Nat.mod_eq_of_lt N]
     rw[e1,e2,g];exact H
    have hcl':i*z+j<cs.length:=(ia.1 ae).1;have I:i*z+j<Z.size:=by omega
    refine⟨Z[i*z+j],by simp[I],?_⟩;have y:x.names=[]:=(aa l (fC g) x (fC H)).2;exact(q7 (i*z+j) _ x (by rw[Nat.zero_add];simp[I]) ae).iL (.refl _ _) (by rw[y];simp)
   ·rw[aq Q];show lP _ _ _ r=none;rw[gX _ _ Q];by_cases O:r=0
    ·subst O;exact fc _ _ _
    ·rw[gX _ _ O];have:=g4 r;rw[QO,aq O]at this;exact this
  ·intro i g k;rw[Ql,aq (by simp at g;omega)]at k;exact(k rfl).elim
 ·refine(U.2 w l0 G0 B F vs hT hl hG (by simpa using X) A J).mono ?_;rintro e w' ⟨v,rfl,ho⟩;refine⟨v,rfl,ho.os,ho.tape,ho.output,ho.size,ho.old,ho.part,?_⟩;obtain⟨lev,own,S,G,g2,g3,g4,g5⟩:=ho.rep;refine⟨lev,own,S,G,g2,g3,g4,?_⟩;intro i g k;rw[Ql,aq (by simp at g;omega)]at k;exact(k rfl).elim
end
theorem HH{z:Nat}:∀{R:List (List D)} {cs:List D},(∀r∈R,r.length=z)->cs.take (R.length*z)=R.flatten->rowsOf z R.length cs=R
 | [],_,_,_=>rfl
 |r::R,cs,h,ht=>by
  have hr:=h r (by simp);have f:∀r∈R,r.length=z:=λx g=>h x (by simp[g]);simp only[length_cons,rowsOf];rw[flatten_cons,length_cons,Nat.succ_mul]at ht;have c:cs.take z=r:=by
   have:=congrArg (List.take z) ht;rw[take_take,Nat.min_eq_left (by omega)]at this;rw[this,<-hr,take_left]
  have e:(cs.drop z).take (R.length*z)=R.flatten:=by
   have:=congrArg (drop z) ht;rw[drop_take,Nat.add_sub_cancel,<-hr,drop_left]at this;rw[<-hr];exact this
  rw[c,HH f e]
variable{d:D}
def acG(h:cE d):KV d=true:=by
 obtain⟨e,c⟩:=h;cases d<;>simp only[KV]<;>first|exact e.elim| (simp[D.names]at c;done)|simpa using c
variable{off:Nat}{cs:List D}
def Xf(h:(cs.drop off).take (R.length*z)=R.flatten)(j:∀r∈R,r.length=z)(g:∀r∈R,∀d∈r,cE d)(f:off+R.length*z<=cs.length):ni off z R.length (.box cs)=.sl z R:=by
 have c:((cs.drop off).take (R.length*z)).all KV=true:=by
  rw[h,cg];intro d e;obtain⟨r,hr,e⟩:=mem_flatten.1 e;exact acG (g r hr d e)
 unfold ni;simp only[c,f,decide_true,Bool.and_self,if_true];rw[HH j h]
variable{i m:Nat}
def Jq{cap:Nat}(c:∀r∈rows,r.length=z)(h:i+m<=rows.length):((jK rows cap z).drop (i*z)).take (m*z)=((rows.drop i).take m).flatten:=by
 have e:∀r∈rows.drop i,r.length=z:=λr hr=>c r (mem_of_mem_drop hr);have hl:=oO c;have f:(i+m)*z<=rows.length*z:=pH z h;rw[Nat.add_mul]at f;unfold jK;rw[drop_append_of_le_length (by omega),Oh i c,take_append_of_le_length (by rw[oO e,iC,Nat.sub_mul];omega),Oi m e]
def NN{cap:Nat}(c:∀r∈rows,r.length=z)(h:∀r∈rows,∀d∈r,cE d)(hi:i<=rows.length)(f:rows.length<=cap):ni (i*z) z (rows.length-i) (.box (jK rows cap z))=.sl z (rows.drop i):=by
 have g:∀r∈rows.drop i,r.length=z:=λr hr=>c r (mem_of_mem_drop hr);have e:(rows.drop i).length=rows.length-i:=by simp
 rw[<-e];refine Xf ?_ g (λr hr=>h r (mem_of_mem_drop hr)) ?_
 ·rw[Jq c (by omega),take_of_length_le (fO _)]
 ·rw[uZ c f,e,<-Nat.add_mul];exact pH z (by omega)
def FE(h:m<=off)(ho:off<=cs.length):(kI cs off ds).take m=cs.take m:=by
 unfold kI;rw[dS,take_append_of_le_length (by simp;omega),take_take,Nat.min_eq_left h]
def BX(ho:off<=cs.length):(kI cs off ds).take (off+ds.length)=cs.take off++ds:=by
 unfold kI;have:(cs.take off++ds).length=off+ds.length:=by simp;omega
 rw[<-this,take_left]
def Dk{cap:Nat}(c:∀r∈rows,r.length=z)(h:i<=rows.length):(jK rows cap z).take (i*z)=(rows.take i).flatten:=by
 have:=Jq (cap:=cap) (i:=0) (m:=i) c (by omega);simpa using this
def ab9(h:d∈kI cs off ds):d∈cs\/d∈ds:=by
 unfold kI at h;simp only[mem_append]at h;rcases h with(h|h)|h
 ·exact .inl (mem_of_mem_take h)
 ·exact .inr h
 ·exact .inl (mem_of_mem_drop h)
def mh:D->Bool
 | .undef| .bool _| .int _ _| .str _| .nil| .emp| .ot| .iZ| .jW| .qP| .sl _ _| .bG _=>true
 | _=>false
variable{b:Nat->Bool}{a:Nat->Option Nat}
def abY(h:mh d=true):nT a b d d:=by
 cases d<;>first| (cases h;done)|simp[nT]
theorem iJ{f:Nat->Option Nat}{e:Nat->Bool}:∀{X:List D},(∀d∈X,mh d=true)->nM f e X X
 | [],_=>by simp[nM]
 |d::X,h=>by
  simp only[nM];exact⟨abY (h d (by simp)),iJ λx c=>h x (by simp[c])⟩
def Jp{cap:Nat}(h:∀r∈rows,∀d∈r,mh d=true):∀d∈jK rows cap z,mh d=true:=by
 intro d c;unfold jK at c;rcases mem_append.1 c with c|c
 ·obtain⟨r,hr,c⟩:=mem_flatten.1 c;exact h r hr d c
 ·rw[(mem_replicate.1 c).2];rfl
def B8(h:∀r∈rows,∀d∈r,mh d=true):∀d∈rows.flatten,mh d=true:=by
 intro d c;obtain⟨r,hr,c⟩:=mem_flatten.1 c;exact h r hr d c
def Cz(c:∀d∈cs,mh d=true)(e:∀d∈ds,mh d=true):∀d∈kI cs off ds,mh d=true:=by
 intro d f;rcases ab9 f with h|h
 ·exact c d h
 ·exact e d h
end Go.Abs
namespace Go.Abs
open Go.RowKit
variable{l off j r c by_ c2 off2 r2 l2 b2 N:Nat}{cs cs2 as:List D}{ea f:Bool}{b:Array (Nat×Operand)}{y x:Operand}
section
variable{P:Program}{n:Nat}{e:Env}{K:Env->Prop}{T T2 ty:TypeId}{d:Nat}{pos:String}{after:Array Edge}{gu:Option (Nat×Bool)}
variable{w0 w w':World}{l0:Nat->Option Nat}{G:Nat->Option (Nat×Nat)}{S0:Nat->Option Value}{lev own:Nat->Option Nat}{S:Nat->Option Value}{tm:Nat->Value}
def awT(cs:List D):List (List D):=cs.map λd=>[d]
end
end Go.Abs
