/- The evaluator, part 2; no theorem of a claim. -/
import Derived.Test.YtbfilfeggodcjaaGreatAA
import Derived.Orders
import Derived.Carry
import Derived.ProofKit
import Derived.OpenShut
import Derived.Lib.SmallJoins
import Derived.LaidLaws
import Derived.Handed
import Derived.Deep.Slices
import Derived.SizedLaws
import Derived.Laws.Externs
set_option linter.all false
namespace Go.Abs
open List
variable{v a x y:D}{d:Nat}{t t2:Ty}{z:Option (List D)}{dr g:Bool}{o:Oper}
section
variable{P:Program}{n np:Nat}{e:Env}{K K':Env->Prop}
def MM(h:∀e,K e->K' e){t:TypeId}(q:KV P e t a K v):KV P e t a K' v:=by
 unfold KV at q |-;split at q
 ·unfold Tn at q |-;split at q
  ·cases s:dS P t with
   |none=>simp only[s]at q
   |some l=>simp only[s]at q |-;exact⟨q.1,q.2.1,q.2.2.1,h _ q.2.2.2⟩
  ·exact q.elim
 ·unfold Tp at q |-;split at q
  ·cases s:dS P t with
   |none=>simp only[s]at q
   |some l=>simp only[s]at q |-;exact⟨q.1,q.2.1,q.2.2.1,q.2.2.2.1,q.2.2.2.2.1,h _ q.2.2.2.2.2⟩
  ·cases s:dS P t with
   |none=>simp only[s]at q
   |some l=>simp only[s]at q |-;exact⟨q.1,q.2.1,q.2.2.1,q.2.2.2.1,q.2.2.2.2.1,h _ q.2.2.2.2.2⟩
  ·exact q.elim
 ·exact q.elim
def MB(h:∀e,K e->K' e){len:Nat}{ps:List (Nat×Operand)}(q:Is e len ps d K t z):Is e len ps d K' t z:=by
 unfold Is at q |-;split at q
 ·exact⟨q.1,q.2.1,q.2.2.1,q.2.2.2.1,q.2.2.2.2.1,h _ q.2.2.2.2.2⟩
 ·exact q.elim
def MJ(h:∀e,K e->K' e){l c:D}(q:Mu e d K l c t z):Mu e d K' l c t z:=by
 unfold Mu at q |-;split at q
 ·exact⟨q.1,q.2.1,q.2.2.1,q.2.2.2.1,q.2.2.2.2.1,q.2.2.2.2.2.1,q.2.2.2.2.2.2.1,h _ q.2.2.2.2.2.2.2⟩
 ·exact q.elim
def xm(h:∀e,K e->K' e)(q:lW e d K x y t t2):lW e d K' x y t t2:=by
 unfold lW at q |-;split at q
 ·refine⟨q.1,?_⟩;have q:=q.2;unfold rO at q |-;split at q
  ·exact⟨q.1,q.2.1,h _ q.2.2⟩
  ·exact⟨q.1,q.2.1,h _ q.2.2⟩
  ·unfold Iw at q |-;split at q
   ·exact⟨q.1,q.2.1,q.2.2.1,h _ q.2.2.2⟩
   ·exact q.elim
  ·exact q.elim
 ·exact q.elim
def Ix(h:∀e,K e->K' e){f:Operand}{args:List Operand}(q:vo P dr e d f args K):vo P dr e d f args K':=by
 obtain⟨fz,gs,bw,s,w,A,q⟩:=q;exact⟨fz,gs,bw,s,w,A,nN (KW.mono h) q⟩
theorem LP(h:∀e,K e->K' e)(q:fR P n dr o e g K):fR P n dr o e g K':=by
 have w:∀{g:Bool} {a C:Prop} {e:Env},(a->C)->GK g a (K e)->GK g C (K' e):=λH F=>⟨λx=>H (F.1 x),λx=>h _ (F.2 x)⟩
 have st:∀{g:Bool} {ok:Prop} {v:D} {d:Nat},eo g ok v (λu=>K (bk e d u))->eo g ok v (λu=>K' (bk e d u)):=λG=>⟨G.1,h _ G.2⟩
 cases E:o.dst with
 |none =>
  cases s:o.op<;>simp only[fR,s,E]at q |-;exact⟨q.1,MM h q.2⟩
 |some d =>
  cases s:o.op<;>simp only[fR,s,E]at q |-<;>(try exact⟨q.1,st q.2⟩)
  case box t x=>exact⟨q.1,q.2.1,q.2.2.1,q.2.2.2.1,h _ q.2.2.2.2⟩
  case alloc t =>
   refine⟨q.1,q.2.1,?_⟩;have q:=q.2.2;unfold KR at q |-;split at q
   ·exact⟨q.1,h _ q.2⟩
   ·exact q.elim
  case buildSlice t len parts=>exact⟨q.1,w (λx=>⟨x.1,MB h x.2⟩) q.2⟩
  case makeSlice t l c=>exact⟨q.1,w (MJ h) q.2⟩
  case call c =>
   refine⟨q.1,?_⟩;have q:=q.2;cases B:c.callee with
   |invoke r m=>rw[B]at q;exact q.elim
   |value f=>rw[B]at q;exact w (λq=>q.elim (λq=>.inl (Ix h q)) (λq=>.inr ⟨q.1,q.2.mono h⟩)) q
   |builtin b =>
    rw[B]at q;cases b<;>simp only at q |-<;>(try exact st q);refine⟨q.1,q.2.1,?_⟩;have q:=q.2.2;split at q
    ·unfold ux at q |-;split at q
     ·exact q.mono h
     ·exact q.mono h
     ·unfold Fy at q |-;split at q
      ·rename_i A;rw[aE A];exact q.mono h
      ·rename_i A;rw[az A];exact xm h q
     ·exact xm h q
    ·exact q.elim
def oo(h:∀e,K e->K' e)(q:iO P n dr o e g K):iO P n dr o e g K':=by
 unfold iO at q |-;split at q
 ·rename_i s;rw[aE s];exact⟨q.1,q.2.1,q.2.2.mono h⟩
 ·rename_i s;rw[az s];exact LP h q
end

def qV(l:List Operand):List Nat:=l.filterMap λ| .tmp t=>some t| _=>none
def keyOf(ops:List Oper):Nat->Nat->List Nat
 | 0,t=>[t]
 |k+1,t=>match ops.find? (λo=>o.dst==some t)with
  |some o=>(match o.op with
   | .fieldAddr _ (.tmp u) f=>f::keyOf ops k u
   | _=>[t])
  |none=>[t]
def Qg(ops:List Oper)(q:List Nat)(o:Oper):Bool:=
 match o.op with
 | .load _ (.tmp u)=>keyOf ops 4 u==q
 | _=>false
def rootOf(ops:List Oper):Nat->Nat->Nat
 | 0,t=>t
 |k+1,t=>match ops.find? (λo=>o.dst==some t)with
  |some o=>(match o.op with
   | .fieldAddr _ (.tmp u) _=>rootOf ops k u
   | .indexAddr _ (.tmp u) _=>rootOf ops k u
   | .nilCheck (.tmp u)=>rootOf ops k u
   | .move (.tmp u)=>rootOf ops k u
   | .load _ (.tmp u)=>(match ops.find? (Qg ops (keyOf ops 4 u))with
    |some x=>x.dst.getD t
    |none=>t)
   | _=>t)
  |none=>t
def tT(s:Nat):List Nat:=(range 16).map (nm s)
def nmS(np s:Nat):List Nat:=tT s++if s<np then range 16 else[]
def rdT(ops:List Oper)(o:Oper):List Nat:=
 qV o.op.operands.toList++(match o.guard with
  |some (j,_)=>(rG ops j).toList
  |none=>[])
def looks(o:Op):Bool:=
 match o with
 | .load _ _| .store _ _ _| .indexAddr _ _ _| .slice _ _ _ _ _| .call _=>true
 | _=>false
def X7(np:Nat)(ops:List Oper)(o:Oper):List Nat:=if looks o.op then(qV o.op.operands.toList).flatMap λt=>nmS np (rootOf ops 8 t)else[]
def makes(o:Op):Bool:=
 match o with
 | .alloc _| .box _ _| .buildSlice _ _ _| .makeSlice _ _ _=>true
 | .call c=>(match c.callee with
  | .value _=>true
  | .builtin .append=>true
  | _=>false)
 | _=>false
def Cp(np:Nat)(ops:List Oper):Operand->List Nat
 | .tmp t=>nmS np (rootOf ops 8 t)
 | _=>[]
def wA:Nat:=999999
def wC:Nat:=999998
def Bi(o:Oper):Bool:=
 match o.op with
 | .call c=>(match c.callee with
  | .value _=>(match c.argTypes.toList with
   |t::_=>t==wA||t==wC
   | []=>false)
  | _=>false)
 | _=>false
def BV:Nat:=999997
def mX(o:Oper):Bool:=
 match o.op with
 | .call c=>(match c.callee with
  | .value _=>(match c.argTypes.toList with
   |t::_=>t==BV
   | []=>false)
  | _=>false)
 | _=>false
def CL(np:Nat)(ops:List Oper)(o:Oper):List Nat:=
 (match o.dst with
  |some d=>if makes o.op then tT d else[]
  |none=>[])++(match o.op with
  | .store _ a _=>Cp np ops a
  | .call c=>if mX o then(match c.args.toList with
   |a::_=>Cp np ops a
   | []=>[])else[]
  | _=>[])
def Mt(o:Oper):List Nat:=o.dst.toList
def Re(np:Nat)(ops:List Oper):List Nat:=ops.flatMap (CL np ops)
def As(np:Nat)(ops:List Oper)(x y:Oper):Bool:=
 (Mt x).all (λs=>!(rdT ops y).contains s&&!(Mt y).contains s)&&(Mt y).all (λs=>!(rdT ops x).contains s) &&
 (CL np ops x).all (λs=>!(X7 np ops y).contains s&&!(CL np ops y).contains s)&&(CL np ops y).all (λs=>!(X7 np ops x).contains s)
def isApp(o:Oper):Bool:=
 match o.op with
 | .call c=>(match c.callee with
  | .builtin .append=>true
  | _=>false)
 | _=>false
def k9(o:Oper):Bool:=hard o||isApp o||Bi o||mX o
def isT(t:Nat)(a:Operand):Bool:=
 match a with
 | .tmp u=>u==t
 | _=>false
def UG(o:Op):Bool:=
 match o with
 | .buildSlice _ len ps=>len==0&&ps.toList.isEmpty
 | _=>false
def Tz(t:Nat)(o:Op):Bool:=
 match o with
 | .call c=>(match c.callee with
  | .builtin .append=>(match c.args.toList with
   |x::_=>isT t x
   | []=>false)
  | _=>false)
 | _=>false
def He(t:Nat):List Oper->Bool
 | []=>false
 |o::r=>(UG o.op&&(o.guard.isNone&&o.dst==some t))||He t r
def Gf(t:Nat):List Oper->Bool
 | []=>false
 |o::r=>Tz t o.op||Gf t r
def Sf(ops:List Oper)(a:Operand):Bool:=
 match a with
 | .tmp t=>He t ops
 | _=>false
def OE(ops:List Oper)(s:Op)(q:Option Tmp):Bool:=
 match s with
 | .buildSlice _ len ps=>len==0&&(ps.toList.isEmpty&&(match q with
  |some d=>Gf d ops
  |none=>false))
 | .call c=>(match c.callee with
  | .builtin .append=>(match c.args.toList with
   |x::_=>Sf ops x
   | []=>false)
  | _=>false)
 | _=>false
def iF(ops:List Oper)(o:Oper):Bool:=OE ops o.op o.dst&&o.guard.isNone
def ud(ops:List Oper)(o:Oper):Bool:=(hard o||isApp o||Bi o)&&!iF ops o
def sl1(o:Op):Bool:=
 match o with
 | .slice _ _ _ _ _=>true
 | _=>false
def Oy(t:Nat):List Oper->Bool
 | []=>false
 |o::r=>(sl1 o.op&&o.dst==some t)||Oy t r
def abc(ops:List Oper)(a:Operand):Bool:=
 match a with
 | .tmp t=>Oy t ops
 | _=>false
def yT(ops:List Oper)(o:Op):Bool:=
 match o with
 | .call c=>(match c.args.toList with
  |x::_=>abc ops x
  | []=>false)
 | _=>false
def xJ(ops:List Oper)(o:Oper):Bool:=isApp o&&!yT ops o.op
variable{ops:List Oper}
def Bf(h:xJ ops o=true):yT ops o.op=false:=by
 simp only[xJ,Bool.and_eq_true,jY]at h;exact h.2
def n7(h:xJ ops o=true):isApp o=true:=by
 simp only[xJ,Bool.and_eq_true]at h;exact h.1
def T':List Oper->Bool
 | []=>false
 |o::r=>o.after.toList.isEmpty||T' r
def O4(ops:List Oper):List Oper->Bool
 | []=>false
 |o::r=>(isApp o&&(!iF ops o&&T' r))||O4 ops r
def zL(ops:List Oper):Bool:=O4 ops ops
def GZ(o:Op):Bool:=
 match o with
 | .move _| .fieldAddr _ _ _| .load _ _| .unOp _ _ _| .binOp _ _ _ _ _| .buildSlice _ _ _=>true
 | _=>false
def yU:D->Bool
 | .undef| .fn _ _| .agg _| .bH _| .box _=>false
 | _=>true
def F1:D->Bool
 | .box cs=>cs.all yU
 | _=>false
def Mh(e:Env):D->Bool
 | .addr r _=>F1 (e.o r)
 | _=>false
def zJ(e:Env):List (Nat×Operand)->Bool
 | []=>true
 |p::r=>yU (rd e p.2)&&zJ e r
def iZ(e:Env)(o:Op):Prop:=
 match o with
 | .move x=>yU (rd e x)=true
 | .fieldAddr _ x _=>yU (rd e x)=true
 | .load _ a=>Mh e (rd e a)=true
 | .unOp _ _ x=>yU (rd e x)=true
 | .binOp _ _ x y _=>yU (rd e x)=true/\yU (rd e y)=true
 | .buildSlice _ _ ps=>zJ e ps.toList=true
 | _=>True
def zj(e:Env)(o:Op):D:=
 match o with
 | .call c=>(match c.args.toList with
  |x::_=>rd e x
  | []=>.undef)
 | _=>.undef
def P9(o:Op):Bool:=
 match o with
 | .buildSlice _ _ _=>true
 | _=>false
def BJ:D->Bool
 | .undef| .own _ _| .iI _ _| .box _=>true
 | _=>false
def BG(N:Nat):D->Bool
 | .ref r=>!(r==N)
 | _=>true
def IF(e:Env)(v:D):List Oper->Prop
 | []=>True
 |y::r=>(match P9 y.op,y.dst with
  |true,some d=>BJ (e.o (nm d 0))=true/\BG (nm d 0) v=true
  | _,_=>True)/\IF e v r
def Tv(ops:List Oper)(o:Oper)(e:Env):Prop:=zL ops=true->IF e (zj e o.op) ops
def yE(ops:List Oper)(o:Oper)(e:Env):Prop:=zL ops=true->o.guard=none->iZ e o.op
def Zg(np:Nat)(ops:List Oper)(x y:Oper):Bool:=
 zL ops&&(xJ ops x&&(x.guard.isNone&&(y.guard.isNone&&(GZ y.op&&(!iF ops x&&(!iF ops y&&(!k9 y&&(!(qV x.op.operands.toList).any (λs=>y.dst==some s)&&(!(qV y.op.operands.toList).any (λs=>x.dst==some s)&&(x.dst != y.dst&&(match x.dst with
  |some d=>(tT d).all (λs=>!(X7 np ops y).contains s)
  |none=>false)))))))))))
def Hp(ops:List Oper)(x y:Oper):Bool:=
 match x.op,x.dst,x.guard with
 | .move (.tmp u),some dx,none=>xJ ops y&&y.guard.isNone&&!(qV y.op.operands.toList).contains dx&&y.dst != some dx&&y.dst != some u&&!zL ops
 | _,_,_=>false
def lX(P:Program)(n:Nat)(o:Oper)(e:Env)(g:Bool)(K:Env->Prop):Prop:=
 match o.op,o.dst with
 | .call c,some d=>d<n/\g=true/\(match c.args.toList,c.argTypes.toList with
  | [x,y],[T,T2]=>lW e d K (rd e x) (rd e y) (bY P T) (bY P T2)
  | _,_=>False)
 | _,_=>False
variable{l:List Operand}{dx:Nat}
section
variable{P:Program}{n:Nat}{e:Env}{K K':Env->Prop}
def S5{S:Prop}(h:lW e d K x y t t2):ux e d K S x y t t2:=by
 unfold ux;split
 ·unfold lW at h;split at h
  ·have:=h.2;unfold rO at this;split at this<;>simp_all
  ·exact h.elim
 ·unfold lW at h;split at h
  ·have:=h.2;simp only[kQ,gR]at this;unfold rO at this;split at this<;>simp_all
  ·exact h.elim
 ·unfold Fy;split
  ·rename_i r _ _ _ _ _ s;exfalso;unfold lW at h;split at h
   ·have h:=h.2;unfold rO at h;split at h<;>try(rename_i q _;cases q;done)
    all_goals
     first
     |exact h.elim
     | (rename_i q _;cases q;unfold Iw at h;cases w:e.o r<;>rw[w]at h s<;>first|exact h.elim|cases s)
     |skip
   ·exact h.elim
  ·exact h
 ·exact h
def I1(h:isApp o=true):hard o=false:=by
 unfold isApp at h;unfold hard;split at h
 ·rename_i c q;rw[q];split at h
  ·rename_i s;simp[s]
  ·cases h
 ·cases h
def Ge(q:isApp o=true)(h:lX P n o e g K):iO P n false o e g K:=by
 unfold iO;rw[I1 q];unfold isApp at q;unfold lX at h;split at q
 ·rename_i c s;split at q
  ·rename_i D;rw[s]at h;cases A:o.dst with
   |none=>rw[A]at h;exact h.elim
   |some d =>
    rw[A]at h;obtain⟨B,C,w⟩:=h;simp only[Bool.false_eq_true,if_false,fR,s,A,D];refine⟨B,C,aI,?_⟩;split at w
    ·rename_i x y T T2 q E;rw[q,E];exact S5 w
    ·exact w.elim
  ·cases q
 ·cases q
def xu(h:∀e,K e->K' e)(q:lX P n o e g K):lX P n o e g K':=by
 unfold lX at q |-;split at q
 ·refine⟨q.1,q.2.1,?_⟩;have s:=q.2.2;split at s
  ·exact xm h s
  ·exact s.elim
 ·exact q.elim
theorem QM{x:Operand}(q:x∈l)(h:(qV l).contains dx=false):rd (bk e dx v) x=rd e x:=by
 cases x with
 |tmp t =>
  have:t≠dx:=by
   rintro rfl;have:t∈qV l:=mem_filterMap.2 ⟨_,q,rfl⟩;rw[contains_eq_mem]at h;simp[this]at h
  exact oT this
 | _=>rfl
theorem KY{u:Nat}(Q:(qV o.op.operands.toList).contains dx=false)(J:o.dst≠some dx)(L:o.dst≠some u)(h:lX P n o (bk e dx (e.t u)) g K) :
  lX P n o e g λe2=>K (bk e2 dx (e2.t u)):=by
 unfold lX at h |-;cases A:o.op<;>rw[A]at h<;>try exact h.elim
 rename_i c;cases B:o.dst with
 |none=>rw[B]at h;exact h.elim
 |some d =>
  rw[B]at h;obtain⟨k1,k2,k3⟩:=h;refine⟨k1,k2,?_⟩;have F:d≠dx:=λh=>J (by rw[B,h]);have E:d≠u:=λh=>L (by rw[B,h]);have q:∀(e:Env)(v:D)(k:Nat)(y r:D),v=e.t u->bk (bu (bk e dx v) k y) d r=bk (bk (bu e k y) d r) dx ((bk (bu e k y) d r).t u):=by
   intro e v k y r O;have I:(bk (bu e k y) d r).t u=v:=by rw[oT (Ne.symm E)];exact O.symm
   rw[I];simp only[bk,bu,Env.mk.injEq,and_true];funext j;by_cases G:j=d
   ·subst G;simp[F]
   ·simp[G]
  split at k3<;>try exact k3.elim
  rename_i x y T T2 s htys;have w:∀z∈c.args.toList,rd (bk e dx (e.t u)) z=rd e z:=λz R=>QM (l:=o.op.operands.toList) (by rw[A];simp only[Op.operands,Call.operands,Array.toList_append,mem_append];exact .inr R) Q;rw[w x (by rw[s];simp),w y (by rw[s];simp)]at k3;unfold lW at k3 |-;split at k3<;>try exact k3.elim
  refine⟨k3.1,?_⟩;have k3:=k3.2;have C:kQ (bk e dx (e.t u)).o [] 2 (rd e y)=kQ e.o [] 2 (rd e y):=rfl;rw[C]at k3;unfold rO at k3 |-;split at k3<;>try exact k3.elim
  ·refine⟨k3.1,k3.2.1,?_⟩;dsimp only;rw[<-q e _ _ _ _ rfl];exact k3.2.2
  ·refine⟨k3.1,k3.2.1,?_⟩;dsimp only;rw[<-q e _ _ _ _ rfl];exact k3.2.2
  ·rename_i r rows2 _ _;have N:(bk e dx (e.t u)).o r=e.o r:=rfl;rw[N]at k3;unfold Iw at k3 |-;split at k3<;>try exact k3.elim
   refine⟨k3.1,k3.2.1,k3.2.2.1,?_⟩;have M:gn r (bk e dx (e.t u))=bk (gn r e) dx ((gn r e).t u):=by
    simp only[gn,bk,Env.mk.injEq,and_true];funext j;split<;>rfl
   have H:=k3.2.2.2;rw[M]at H;dsimp only;rw[<-q (gn r e) _ _ _ _ rfl];exact H
end
def xX(ops:Array Oper):Nat->Nat->Nat->Bool
 | 0,_,_=>false
 |k+1,i,j=>match ops[i]? with
  |none=>false
  |some y=>y.after.any (λe=>Region.binds .any e&&(e.on==j||xX ops k e.on j))
def uC(np:Nat)(ops:Array Oper):Bool:=
 (range ops.size).all λi=>match ops[i]? with
  |none=>true
  |some y=>y.after.all (λe=>!Region.binds .any e||e.on<i) &&
    (range i).all λj=>y.after.any (λe=>Region.binds .any e&&e.on==j)||(match ops[j]? with
     |none=>true
     |some x=>(!ud ops.toList x&&!ud ops.toList y&&As np ops.toList x y)||(Hp ops.toList x y&&!iF ops.toList y&&!iF ops.toList x)||Zg np ops.toList x y||xX ops 12 i j)

def reach(o:Nat->D):Nat->List Nat->List Nat
 | 0,ns=>ns
 |k+1,ns=>ns++reach o k (D.aQ (ns.map o))
def bE(e:Env)(o:Oper):List Nat:=
 match o.op with
 | .load _ a=>(rd e a).names
 | .store _ a _=>(rd e a).names
 | .indexAddr _ x _=>(rd e x).names
 | .slice _ x _ _ _=>(rd e x).names
 | .call c=>(match c.callee with
  | .value f=>reach e.o 4 (D.aQ (rd e f::c.args.toList.map (rd e)))
  | _=>D.aQ (c.args.toList.map (rd e)))
 | _=>[]
def om(np:Nat)(ops:List Oper)(o:Oper)(r:Nat):Bool:=
 (match o.op with
  | .store _ _ _=>(CL np ops o).contains r
  | _=>(X7 np ops o).contains r||!(Re np ops).contains r)
def lP(np:Nat)(ops:List Oper)(o:Oper):List Nat->Prop
 | []=>True
 |r::rs=>om np ops o r=true/\lP np ops o rs
theorem nJ{np:Nat}{ops:List Oper}{o:Oper}:∀{l:List Nat},lP np ops o l->∀r∈l,om np ops o r=true
 | [],_,r,hr=>by cases hr
 |x::l,h,r,hr=>by
  rcases mem_cons.1 hr with rfl|hr
  ·exact h.1
  ·exact nJ h.2 r hr
def F7(P:Program)(n np:Nat)(ops:List Oper)(o:Oper)(e:Env)(g:Bool)(K:Env->Prop):Prop:=
 (g=true->lP np ops o (bE e o))/\iO P n true o e g K
def EH(e:Env)(z q d:Nat)(K:Env->Prop)(y:Option (List (List D))):Prop:=
 match y with
 |some rows2=>(q+(1-q))*rows2.length<=2^47/\e.o (nm d 0)=.undef/\K (bk (bu e (nm d 0) (.own z rows2)) d (.ref (nm d 0)))
 |none=>False
def Ak(e:Env)(d:Nat)(K:Env->Prop)(x y:D)(t t2:Ty):Prop:=
 match x,t,t2 with
 | .emp,.slice z by_ _,.slice _ _ _=>by_<=2^32/\EH e z by_ d K (gR z (kQ e.o [] 2 y))
 | _,_,_=>False
def CS(e:Env)(d:Nat)(K:Env->Prop)(t:Ty):Prop:=
 match t with
 | .slice _ _ _=>e.o (nm d 0)=.undef/\K (bk e d .emp)
 | _=>False
def lU(P:Program)(n np:Nat)(ops:List Oper)(o:Oper)(e:Env)(K:Env->Prop):Prop:=
 match o.op,o.dst with
 | .buildSlice t _ _,some d=>d<n/\CS e d K (bY P t)
 | .call c,some d=>d<n/\(match c.args.toList,c.argTypes.toList with
  | [x,y],[T,T2]=>lP np ops o (reach e.o 2 (rd e y).names)/\Ak e d K (rd e x) (rd e y) (bY P T) (bY P T2)
  | _,_=>False)
 | _,_=>False
variable{K' K:Env->Prop}{e:Env}{P:Program}
def KS(h:∀e,K e->K' e)(q:Ak e d K x y t t2):Ak e d K' x y t t2:=by
 unfold Ak at q |-;split at q
 ·refine⟨q.1,?_⟩;have q:=q.2;unfold EH at q |-;split at q
  ·exact⟨q.1,q.2.1,h _ q.2.2⟩
  ·exact q.elim
 ·exact q.elim
variable{np n:Nat}
def Cw(h:∀e,K e->K' e)(q:lU P n np ops o e K):lU P n np ops o e K':=by
 unfold lU at q |-;split at q
 ·refine⟨q.1,?_⟩;have q:=q.2;unfold CS at q |-;split at q
  ·exact⟨q.1,h _ q.2⟩
  ·exact q.elim
 ·refine⟨q.1,?_⟩;have q:=q.2;split at q
  ·exact⟨q.1,KS h q.2⟩
  ·exact q.elim
 ·exact q.elim
def S7(q:Ak e d K x y t t2):lW e d K x y t t2:=by
 unfold Ak at q;split at q
 ·unfold lW;refine⟨q.1,?_⟩;have q:=q.2;unfold EH at q;split at q
  ·rename_i hr;rw[hr];exact q
  ·exact q.elim
 ·exact q.elim
def KH(h:iF ops o=true):o.guard=none/\((∃t len ps d,o.op=.buildSlice t len ps/\o.dst=some d/\len=0/\ps = #[])\/isApp o=true):=by
 unfold iF at h;simp only[Bool.and_eq_true,Option.isNone_iff_eq_none]at h;refine⟨h.2,?_⟩;have h:=h.1;unfold OE at h;split at h
 ·rename_i t len ps q;simp only[Bool.and_eq_true,gm]at h;obtain⟨w,A,s⟩:=h;split at s
  ·rename_i d C;refine .inl ⟨t,len,ps,d,q,C,w,?_⟩;have:ps.toList=[]:=isEmpty_iff.1 A;exact Array.ext' (by simpa using this)
  ·cases s
 ·rename_i c q;split at h
  ·rename_i B;right;simp[isApp,q,B]
  ·cases h
 ·cases h
def PJ(P:Program)(np:Nat)(ops:List Oper)(o:Oper)(e:Env)(d:Nat)(f:Operand)(args:List Operand)(K:Env->Prop):Prop:=
 ∃(gs:List Nat)(q:List D)(s:D),(∀r∈gs,r∈Cp np ops (args.headD (.global 0)))/\lP np ops o (reach e.o 5 (gs++D.aQ (rd e f::args.map (rd e))))/\iQ gs q=[]/\kU P e d args gs false q s K (rd e f)
def tU(P:Program)(n np:Nat)(ops:List Oper)(o:Oper)(e:Env)(g:Bool)(K:Env->Prop):Prop:=
 match o.op,o.dst with
 | .call c,some d=>(match c.callee with
  | .value f=>d<n/\GK g (PJ P np ops o e d f c.args.toList K) (K (bk e d (.bH [])))
  | _=>False)
 | _,_=>False
def Eo(h:∀e,K e->K' e)(q:tU P n np ops o e g K):tU P n np ops o e g K':=by
 unfold tU at q |-;split at q
 ·split at q
  ·refine⟨q.1,λs=>?_,λs=>h _ (q.2.2 s)⟩;obtain⟨gs,w,A,k1,k2,k3,B⟩:=q.2.1 s;exact⟨gs,w,A,k1,k2,k3,nN h B⟩
  ·exact q.elim
 ·exact q.elim
def Ok(s:tU P n np ops o e g K):iO P n false o e g K:=by
 unfold tU at s;split at s
 ·rename_i c d w C;split at s
  ·rename_i f q;have E:hard o=false:=by simp[hard,w,q]
   unfold iO;rw[E];simp only[Bool.false_eq_true,if_false,fR,w,C,q];refine⟨s.1,λD=>?_,s.2.2⟩;obtain⟨gs,A,B,k1,k2,k3,F⟩:=s.2.1 D;exact .inl ⟨[],gs,false,A,B,(λh=>by cases h),nN (λ_ h=>.inl h) F⟩
  ·exact s.elim
 ·exact s.elim
def dK(P:Program)(n np:Nat)(ops:List Oper)(o:Oper)(e:Env)(K:Env->Prop):Prop:=
 match nZ ops e o.guard with
 |some g=>if iF ops o then lU P n np ops o e K else if k9 o then(if isApp o then(if yT ops o.op then iO P n false o e g K else lX P n o e g K/\Tv ops o e)else if mX o then tU P n np ops o e g K else iO P n false o e g K)else F7 P n np ops o e g K/\yE ops o e
 |none=>False
def lE(P:Program)(n np:Nat)(ops:List Oper):List Oper->Env->(Env->Prop)->Prop
 | [],e,K=>K e
 |o::r,e,K=>dK P n np ops o e λq=>lE P n np ops r q K

def zg(s q:Nat->Option D)(e:Env):Env:=⟨λj=>(s j).getD (e.t j),λj=>(q j).getD (e.o j)⟩
def one(i:Nat)(d:D):Nat->Option D:=λj=>if j=i then some d else none
def mO:Nat->Option D:=λ_=>none
def vJ(i:Nat)(d:D)(e:Env):bk e i d=zg (one i d) mO e:=by
 simp only[bk,zg,one,mO,Option.getD_none,Env.mk.injEq,and_true];funext j;by_cases h:j=i<;>simp[h]
def J5(i:Nat)(d:D)(e:Env):bu e i d=zg mO (one i d) e:=by
 simp only[bu,zg,one,mO,Option.getD_none,Env.mk.injEq,true_and];funext j;by_cases h:j=i<;>simp[h]
def E4(i k:Nat)(d x:D)(e:Env):bk (bu e k x) i d=zg (one i d) (one k x) e:=by
 rw[vJ,J5];simp[zg,mO]
def yz(f:Nat->Option Nat):List Nat->List D->Nat->Option D
 |n::ns,h::hs=>λj=>match yz f ns hs j with
  |some x=>some x
  |none=>if j=n then some (h.iV f)else none
 | _,_=>mO
theorem BZ(f:Nat->Option Nat):∀(ns:List Nat)(q:List D)(e:Env),BY f ns q e=zg mO (yz f ns q) e
 | [],_,e=>rfl
 | _::_,[],e=>rfl
 |n::ns,h::q,e=>by
  rw[BY,BZ f ns q,J5];simp only[zg,mO,yz,Option.getD_none,Env.mk.injEq,true_and];funext j;cases yz f ns q j with
  |some x=>rfl
  |none=>simp[one]
theorem CN{f:Nat->Option Nat}:∀{ns:List Nat} {q:List D} {j:Nat} {x:D},yz f ns q j=some x->j∈ns
 | [],_,j,x,h=>by simp[yz,mO]at h
 | _::_,[],j,x,h=>by simp[yz,mO]at h
 |n::ns,y::q,j,x,h=>by
  simp only[yz]at h;cases e:yz f ns q j with
  |some z=>exact mem_cons_of_mem _ (CN e)
  |none =>
   rw[e]at h;simp only at h;split at h
   ·rename_i s;subst s;simp
   ·cases h
def En(d:Nat)(q:List D)(s:D)(e:Env):dU e d [] q s=zg (one d (s.iV (DI (dj d [] q)))) (yz (DI (dj d [] q)) (dj d [] q) q) e:=by
 have w:iQ [] q=[]:=by cases q<;>rfl
 unfold dU;rw[w,fQ,BZ,vJ];simp[zg,mO]

def lO(np:Nat)(ops:List Oper)(o:Oper)(e e2:Env):Prop:=
 (∀s∈rdT ops o,e.t s=e2.t s)/\∀r,(r∈X7 np ops o\/r∈CL np ops o\/r∉Re np ops)->e.o r=e2.o r
def qR{t:Nat}(h:.tmp t∈l):t∈qV l:=mem_filterMap.2 ⟨_,h,rfl⟩

variable{r:Nat}{b:List D}{e2:Env}{c f:Nat->D}{p h i m:Nat->Option D}{j u:Oper}{k:Option Nat}
section
variable{P:Program}{n np:Nat}{ops:List Oper}{o:Oper}{e e2:Env}

def lO.rd(h:lO np ops o e e2){x:Operand}(q:x∈o.op.operands.toList):rd e x=rd e2 x:=by
 cases x<;>try rfl
 rename_i t;exact h.1 t (mem_append_left _ (qR q))
def lO.obj(h:lO np ops o e e2)(q:lP np ops o (bE e o))(hr:r∈bE e o):e.o r=e2.o r:=by
 have:=nJ q r hr;unfold om at this;refine h.2 r ?_;split at this
 ·exact .inr (.inl (contains_iff_mem.1 this))
 ·simp only[Bool.or_eq_true,jY,contains_eq_mem,bP,iX]at this;rcases this with h|h
  ·exact .inl h
  ·exact .inr (.inr h)

theorem nL(o1:Nat->D):∀(k:Nat)(a b:List Nat),(∀r∈a,r∈b)->∀r∈reach o1 k a,r∈reach o1 k b:=by
 intro k;induction k with
 |zero=>intro a b q r hr;exact q r hr
 |succ k ih =>
  intro a b q r hr;simp only[reach,mem_append]at hr |-;rcases hr with hr|hr
  ·exact .inl (q r hr)
  ·refine .inr (ih _ _ ?_ r hr);intro s w;obtain⟨y,A,w⟩:=cj.1 w;obtain⟨z,B,rfl⟩:=mem_map.1 A;exact cj.2 ⟨_,mem_map.2 ⟨z,q z B,rfl⟩,w⟩
theorem qY(o1:Nat->D):∀(k:Nat)(a:List Nat),∀r∈reach o1 k a,r∈reach o1 (k+1) a:=by
 intro k;induction k with
 |zero=>intro a r hr;simp only[reach];exact mem_append_left _ hr
 |succ k ih =>
  intro a r hr;simp only[reach,mem_append]at hr;rcases hr with hr|hr
  ·simp only[reach];exact mem_append_left _ hr
  ·show r∈a++reach o1 (k+1) _;exact mem_append_right _ (ih _ r hr)
theorem sY{o1 o2:Nat->D}(x:List Nat):∀(k:Nat)(d:D),(∀r∈reach o1 k d.names,o1 r=o2 r)->kQ o1 x k d=kQ o2 x k d
 | 0,d,_=>rfl
 |k+1,d,h=>by
  have q:∀r∈d.names,o1 r=o2 r:=λr hr=>h r (by simp only[reach];exact mem_append_left _ hr);have w:∀cs:List D,(∀c∈cs,∀r∈reach o1 k c.names,o1 r=o2 r)->cs.map (kQ o1 x k)=cs.map (kQ o2 x k):=λcs A=>map_congr_left λc F=>sY x k c (A c F);have sub:∀cs:List D,D.aQ cs=d.names->∀c∈cs,∀r∈reach o1 k c.names,o1 r=o2 r:=by
   intro cs e c A r hr;refine h r (qY o1 k _ r (nL o1 k _ _ ?_ r hr));intro s C;rw[<-e];exact cj.2 ⟨c,A,C⟩
  cases d<;>simp only[kQ]
  ·rw[w _ (sub _ rfl)]
  ·rw[w _ (sub _ rfl)]
  ·rw[w _ (sub _ rfl)]
  ·rw[q _ (by simp[D.names])]
  ·rename_i r off;have E:=q r (by simp[D.names]);rw[<-E];congr 1;unfold j0;split
   ·rename_i cs B;congr 1;refine map_congr_left ?_;intro c A;refine sY x k c ?_;intro s C;refine h s ?_;simp only[reach];refine mem_append_right _ (nL o1 k _ _ ?_ s C);intro t G;refine cj.2 ⟨o1 r,mem_map.2 ⟨r,by simp[D.names],rfl⟩,?_⟩;rw[B];simp only[D.names];exact cj.2 ⟨c,mem_of_mem_drop A,G⟩
   ·rfl
  ·rw[q _ (by simp[D.names])]
  ·rw[q _ (by simp[D.names])]
  ·rw[q _ (by simp[D.names])]

theorem qF{o1 o2:Nat->D}(bw:Bool)(gs:List Nat):∀(k:Nat)(d:D),(∀r∈reach o1 k d.names,o1 r=o2 r)->conv bw gs o1 k d=conv bw gs o2 k d
 | 0,d,_=>rfl
 |k+1,d,h=>by
  have q:∀cs:List D,(∀c∈cs,∀r∈reach o1 k c.names,o1 r=o2 r)->cs.map (conv bw gs o1 k)=cs.map (conv bw gs o2 k):=λcs w=>map_congr_left λc B=>qF bw gs k c (w c B);have sub:∀cs:List D,D.aQ cs=d.names->∀c∈cs,∀r∈reach o1 k c.names,o1 r=o2 r:=by
   intro cs e c w r hr;refine h r (qY o1 k _ r (nL o1 k _ _ ?_ r hr));intro s C;rw[<-e];exact cj.2 ⟨c,w,C⟩
  have A:kQ o1 gs k d=kQ o2 gs k d:=sY gs k d λr hr=>h r (qY o1 k _ r hr);cases d<;>simp only[conv]
  ·rw[q _ (sub _ rfl)]
  ·rw[q _ (sub _ rfl)]
  ·rw[q _ (sub _ rfl)]
  all_goals first
   |rw[A]
   | (rename_i r;rw[h r (mem_append_left _ (by simp[D.names]))])

def LB{l:yA}{d:D}(h:∀r∈d.names,e.o r=e2.o r):Pn e l d=Pn e2 l d/\(Fj e l d↔Fj e2 l d):=by
 cases d<;>simp only[Pn,Fj]<;>(try exact⟨trivial,aI⟩)<;>(try exact⟨trivial,Iff.rfl⟩)
 all_goals(rw[h _ (by simp[D.names])];exact⟨rfl,Iff.rfl⟩)
def I6{d:D}(h:∀r∈d.names,e.o r=e2.o r):Dg e t d=Dg e2 t d/\(vY e t d↔vY e2 t d):=by
 have q:LI e d=LI e2 d:=by
  cases d<;>simp only[LI];rw[h _ (by simp[D.names])]
 have s:Bw e d↔Bw e2 d:=by
  cases d<;>simp only[Bw];rw[h _ (by simp[D.names])]
 unfold Dg vY;rw[q,s];exact⟨rfl,Iff.rfl⟩
def Lr{d i:D}(h:∀r∈d.names,e.o r=e2.o r):Lq e t d i=Lq e2 t d i/\(GP e t d i↔GP e2 t d i):=by
 cases d<;>cases i<;>simp only[Lq,GP]<;>(try exact⟨trivial,aI⟩)<;>(try exact⟨trivial,Iff.rfl⟩);rw[h _ (by simp[D.names])];exact⟨trivial,Iff.rfl⟩
def Md{d:D}(h:CP e t d=CP e2 t d):Oz e t d=Oz e2 t d:=by
 cases d<;>first|exact h| (cases t<;>rfl)
def Me{d:D}(h:∀r∈d.names,e.o r=e2.o r):CP e t d=CP e2 t d/\∀l m,KF e t d l m=KF e2 t d l m:=by
 by_cases q:∃r,d=.ref r
 ·obtain⟨r,rfl⟩:=q;have hr:=h r (by simp[D.names]);exact⟨by cases t<;>simp[CP,hr],λl m=>by simp[KF,hr]⟩
 ·refine⟨?_,λl m=>?_⟩
  ·cases d<;>first|exact(q ⟨_,rfl⟩).elim| (cases t<;>rfl)
  ·cases d<;>first|exact(q ⟨_,rfl⟩).elim| (cases t<;>rfl)
def yM(hr:∀x,x∈o.op.operands.toList->rd e x=rd e2 x)(q:∀r∈bE e o,e.o r=e2.o r)(O:∀c f,o.op=.call c->c.callee≠.value f):dP P e o.op=dP P e2 o.op/\(ck P e o.op↔ck P e2 o.op):=by
 cases B:o.op<;>simp only[dP,ck]<;>(try exact⟨rfl,Iff.rfl⟩)<;>(try exact⟨trivial,aI⟩)<;>rw[B]at hr<;>simp only[bE,B]at q<;>simp only[Op.operands]at hr
 case move x=>rw[hr x (by simp)];exact⟨rfl,aI⟩
 case assign x=>rw[hr x (by simp)];exact⟨rfl,aI⟩
 case pick c a b=>rw[hr c (by simp),hr a (by simp),hr b (by simp)];exact⟨rfl,Iff.rfl⟩
 case binOp op t x y yt=>rw[hr x (by simp),hr y (by simp)];exact⟨rfl,Iff.rfl⟩
 case unOp op t x=>rw[hr x (by simp)];exact⟨rfl,Iff.rfl⟩
 case convert s d x=>rw[hr x (by simp)];exact⟨rfl,Iff.rfl⟩
 case fieldAddr t x f=>rw[hr x (by simp)];exact⟨rfl,Iff.rfl⟩
 case field t x f=>rw[hr x (by simp)];exact⟨rfl,Iff.rfl⟩
 case indexAddr t x i =>
  have:=Lr (t:=bY P t) (i:=rd e i) q;rw[<-hr x (by simp),<-hr i (by simp),this.1,this.2];exact⟨rfl,Iff.rfl⟩
 case index t x i=>rw[hr x (by simp),hr i (by simp)];exact⟨rfl,Iff.rfl⟩
 case load t a =>
  rw[<-hr a (by simp)];cases dS P t with
  |none=>exact⟨rfl,Iff.rfl⟩
  |some l=>simp only;exact LB q
 case nilCheck x=>rw[hr x (by simp)];exact⟨rfl,Iff.rfl⟩
 case extract x i=>rw[hr x (by simp)];exact⟨rfl,Iff.rfl⟩
 case build t parts =>
  have M:cY P e t parts.toList=cY P e2 t parts.toList:=by
   unfold cY;have I:∀x∈parts.toList,rd e x.2=rd e2 x.2:=by
    intro x A;refine hr x.2 ?_;simp only[mem_map];exact⟨x,A,rfl⟩
   split
   ·refine map_congr_left ?_;intro x A;rw[I x A]
   ·refine map_congr_left ?_;intro x A;rw[I x A]
   ·rfl
  unfold Aa;rw[M];exact⟨rfl,Iff.rfl⟩
 case slice t x lo G Q =>
  have C:=hr x (by simp);have F:∀d,FV e d lo=FV e2 d lo:=by
   intro d;cases lo with
   |none=>rfl
   |some o=>exact hr o (by simp)
  have J:∀d,FV e d G=FV e2 d G:=by
   intro d;cases G with
   |none=>rfl
   |some o=>exact hr o (by simp)
  have H:=Me (t:=bY P t) q;cases Q with
  |none =>
   simp only[dP,ck,slV,OC];rw[<-C,F,J,H.1,Md H.1];refine⟨?_,Iff.rfl⟩;split
   ·exact H.2 _ _
   ·rfl
  |some m =>
   have L:=hr m (by simp);cases lo<;>cases G<;>simp only[dP,ck]<;>(try exact⟨trivial,aI⟩)<;>(try exact⟨trivial,Iff.rfl⟩);rename_i N;rw[C,L,hr N (by simp)];exact⟨trivial,Iff.rfl⟩
 case makeFunc fn first caps =>
  cases fn<;>simp only[dP,ck]<;>(try exact⟨trivial,aI⟩)<;>(try exact⟨trivial,Iff.rfl⟩);refine⟨?_,aI⟩;congr 1;refine map_congr_left ?_;intro x A;exact hr x (by simp[A])
 case call c =>
  have C:∀x∈c.args.toList,rd e x=rd e2 x:=λx A=>hr x (by simp only[Call.operands,Array.toList_append,mem_append];exact .inr A);have F:c.args.toList.map (rd e)=c.args.toList.map (rd e2):=map_congr_left C;have hcv:∀f,c.callee≠.value f:=λf=>O c f B;split
  ·rename_i E w _;rw[E]at q;simp only[w,map_cons,map_nil,D.aQ,append_nil]at q;have:=C _ (by rw[w];exact kK.2 rfl);rw[<-this];exact I6 q
  ·rw[F];exact⟨rfl,Iff.rfl⟩
  ·rw[F];exact⟨rfl,Iff.rfl⟩
  ·exact⟨rfl,Iff.rfl⟩

theorem vc:∀(l:List (Nat×Operand)),(∀p∈l,rd e p.2=rd e2 p.2)->zJ e l=zJ e2 l
 | [],_=>rfl
 |p::r,h=>by rw[zJ,zJ,h p (by simp),vc r λq s=>h q (by simp[s])]
def Gr(hr:∀x,x∈o.op.operands.toList->rd e x=rd e2 x)(q:∀r∈bE e o,e.o r=e2.o r)(h:iZ e o.op):iZ e2 o.op:=by
 cases s:o.op<;>rw[s]at h hr<;>simp only[bE,s]at q<;>simp only[Op.operands]at hr<;>simp only[iZ]at h |-
 case move x=>rw[<-hr x (by simp)];exact h
 case binOp op t x y yt=>rw[<-hr x (by simp),<-hr y (by simp)];exact h
 case unOp op t x=>rw[<-hr x (by simp)];exact h
 case fieldAddr t x f=>rw[<-hr x (by simp)];exact h
 case load t a =>
  rw[<-hr a (by simp)];cases w:rd e a<;>rw[w]at h q<;>try exact h
  simp only[Mh]at h |-;rw[<-q _ (by simp[D.names])];exact h
 case buildSlice t len ps =>
  rw[<-vc _ λp A=>hr p.2 (by simp only[Array.toList_map,mem_map];exact⟨p,A,rfl⟩)];exact h
def BW(h:lO np ops o e e2)(q:lP np ops o (bE e o))(s:∀c f,o.op=.call c->c.callee≠.value f):dP P e o.op=dP P e2 o.op/\(ck P e o.op↔ck P e2 o.op):=yM (λ_ w=>h.rd w) (λ_ hr=>h.obj q hr) s
theorem uF(h:lO np ops o e e2):nZ ops e o.guard=nZ ops e2 o.guard:=by
 unfold nZ;cases s:o.guard with
 |none=>rfl
 |some p =>
  obtain⟨j,w⟩:=p;simp only;cases q:rG ops j with
  |none=>rfl
  |some t =>
   simp only[rd];rw[h.1 t (by simp[rdT,s,q])]

def Hl(h16:b.length<=16)(h:r∈iA d 0 (b.length-([]:List Nat).length)):r∈tT d:=by
 obtain⟨j,_,q,rfl⟩:=qe h;simp only[tT,mem_map,mem_range];exact⟨j,by simp at q;omega,rfl⟩

def Splits(P:Program)(n np:Nat)(ops:List Oper)(o:Oper)(e:Env)(g:Bool)(K:Env->Prop):Prop:=
 ∃w q:Nat->Option D,(∀s d,w s=some d->s∈Mt o)/\(∀s d,q s=some d->s∈CL np ops o)/\K (zg w q e) /\
  ∀e2,lO np ops o e e2->∀A:Env->Prop,A (zg w q e2)->iO P n true o e2 g A

theorem LO(hh:hard o=false)(hk:g=true->lP np ops o (bE e o))(h:iO P n true o e g K):Splits P n np ops o e g K:=by
 have C:∀e K,iO P n true o e g K=fR P n true o e g K:=λe K=>by simp[iO,hh]
 rw[C]at h;have I:∀(d:Nat)(x:D),o.dst=some d->∀s y,one d x s=some y->s∈Mt o:=by
  intro d x B s y hy;unfold one at hy;split at hy
  ·rename_i e;subst e;simp[Mt,B]
  ·cases hy
 have aa:∀s (y:D),mO s=some y->s∈CL np ops o:=λs y h=>by cases h
 -- a step that only sets its slot
 have H:∀(d:Nat)(x:D),o.dst=some d->K (bk e d x)->(∀e2,lO np ops o e e2->∀G:Env->Prop,G (bk e2 d x)->iO P n true o e2 g G)->Splits P n np ops o e g K:=by
  intro d x B L hh;refine⟨one d x,mO,I d x B,aa,by rw[<-vJ];exact L,?_⟩;intro e2 q G A;exact hh e2 q G (by rw[vJ];exact A)
 -- a step that makes one object
 have M:∀(d:Nat)(x y:D),o.dst=some d->makes o.op=true->K (bk (bu e (nm d 0) y) d x)->(∀e2,lO np ops o e e2->∀G:Env->Prop,G (bk (bu e2 (nm d 0) y) d x)->iO P n true o e2 g G)->Splits P n np ops o e g K:=by
  intro d x y B V L hh;refine⟨one d x,one (nm d 0) y,I d x B,?_,by rw[<-E4];exact L,?_⟩
  ·intro s z W;unfold one at W;split at W
   ·rename_i e;subst e;simp only[CL,B,V,if_true];exact mem_append_left _ (by simp only[tT,mem_map,mem_range];exact⟨0,by omega,rfl⟩)
   ·cases W
  ·intro e2 q G A;exact hh e2 q G (by rw[E4];exact A)
 have U:∀(d:Nat),o.dst=some d->makes o.op=true->∀e2,lO np ops o e e2->∀r∈tT d,e.o r=e2.o r:=by
  intro d B V e2 q r hr;refine q.2 r (.inr (.inl ?_));simp only[CL,B,V,if_true];exact mem_append_left _ hr
 have h0:∀d,nm d 0∈tT d:=λd=>by simp only[tT,mem_map,mem_range];exact⟨0,by omega,rfl⟩
 cases B:o.dst with
 |none =>
  cases w:o.op<;>simp only[fR,w,B]at h<;>try exact h.elim
  rename_i t a x;obtain⟨Y,h⟩:=h;have an:=hk Y;simp only[Norm]at h;have ah:∀e2,lO np ops o e e2->rd e a=rd e2 a/\rd e x=rd e2 x:=λe2 q=>⟨q.rd (by simp[w,Op.operands]),q.rd (by simp[w,Op.operands])⟩
  have ac:∀r∈(rd e a).names,r∈CL np ops o:=by
   intro r hr;have:=nJ an r (by simp only[bE,w];exact hr);unfold om at this;rw[w]at this;exact contains_iff_mem.1 this
  have fD:∀(r:Nat)(y:D),r∈(rd e a).names->K (bu e r y)->(∀e2,lO np ops o e e2->∀G:Env->Prop,G (bu e2 r y)->iO P n true o e2 g G)->Splits P n np ops o e g K:=by
   intro r y hr L hh;refine⟨mO,one r y,(λs d h=>by cases h),?_,(by rw[<-J5];exact L),?_⟩
   ·intro s z W;unfold one at W;split at W
    ·rename_i e;subst e;exact ac _ hr
    ·cases W
   ·intro e2 q G A;exact hh e2 q G (by rw[J5];exact A)
  unfold KV at h;cases ha:rd e a<;>rw[ha]at h<;>try exact h.elim
  ·rename_i r off;simp only at h;unfold Tn at h;cases ho:e.o r<;>rw[ho]at h<;>try exact h.elim
   rename_i cs;simp only at h;cases hl:dS P t with
   |none=>rw[hl]at h;exact h.elim
   |some l =>
    rw[hl]at h;obtain⟨X,S,Z,L⟩:=h;refine fD r _ (by rw[ha];simp[D.names]) L ?_;intro e2 q G A;obtain⟨ea,ex⟩:=ah e2 q;have er:e.o r=e2.o r:=q.2 r (.inr (.inl (ac r (by rw[ha];simp[D.names]))));simp only[C,fR,w,B,Norm];refine⟨Y,?_⟩;rw[<-ea,<-ex,ha];simp only[KV];rw[<-er,ho];simp only[Tn,hl];exact⟨X,S,Z,A⟩
  ·rename_i r z i k;simp only at h;unfold Tp at h;cases ho:e.o r<;>rw[ho]at h<;>try exact h.elim
   all_goals
    rename_i z' rows;simp only at h;cases hl:dS P t with
    |none=>rw[hl]at h;exact h.elim
    |some l =>
     rw[hl]at h;obtain⟨X,S,Z,q4,q5,L⟩:=h;refine fD r _ (by rw[ha];simp[D.names]) L ?_;intro e2 q G A;obtain⟨ea,ex⟩:=ah e2 q;have er:e.o r=e2.o r:=q.2 r (.inr (.inl (ac r (by rw[ha];simp[D.names]))));simp only[C,fR,w,B,Norm];refine⟨Y,?_⟩;rw[<-ea,<-ex,ha];simp only[KV];rw[<-er,ho];simp only[Tp,hl];exact⟨X,S,Z,q4,q5,A⟩
 |some d =>
  have J:(∀c f,o.op=.call c->c.callee≠.value f)->(∀R K',iO P n true o R g K'↔(d<n/\eo g (ck P R o.op) (dP P R o.op) λu=>K' (bk R d u)))->Splits P n np ops o e g K:=by
   intro hn af;obtain⟨F,aq,L⟩:=(af e K).1 (by rw[C];exact h);refine H d _ B L ?_;intro e2 q G A;refine(af e2 G).2 ⟨F,?_,?_⟩
   ·intro Y;exact(BW (P:=P) q (hk Y) hn).2.1 (aq Y)
   ·cases g with
    |false=>exact A
    |true =>
     have:=(BW (P:=P) q (hk rfl) hn).1;simp only[gd,if_true]at A |-;rw[<-this];exact A
  cases w:o.op
  case box T x =>
   simp only[fR,w,B]at h;obtain⟨Y,F,X,S,L⟩:=h;refine M d _ _ B (by rw[w];rfl) L ?_;intro e2 q G A;simp only[C,fR,w,B,Norm];refine⟨Y,F,?_⟩;rw[<-q.rd (by simp[w,Op.operands]:x∈o.op.operands.toList)];exact⟨X,by rw[<-U d B (by rw[w];rfl) e2 q _ (h0 d)];exact S,A⟩
  case alloc T =>
   simp only[fR,w,B]at h;obtain⟨Y,F,h⟩:=h;cases W:iG P T with
   |none=>rw[W]at h;exact h.elim
   |some z =>
    rw[W]at h;obtain⟨S,L⟩:=h;refine M d _ _ B (by rw[w];rfl) L ?_;intro e2 q G A;simp only[C,fR,w,B,W];exact⟨Y,F,by rw[<-U d B (by rw[w];rfl) e2 q _ (h0 d)];exact S,A⟩
  case buildSlice t len parts =>
   simp only[fR,w,B]at h;obtain⟨F,h⟩:=h;have hp:∀e2,lO np ops o e e2->∀x∈parts.toList,rd e x.2=rd e2 x.2:=λe2 q x O=>q.rd (by simp only[w,Op.operands,Array.toList_map,mem_map];exact⟨x,O,rfl⟩);have ae:∀e2,lO np ops o e e2->ny e parts.toList=ny e2 parts.toList:=by
    intro e2 q;unfold ny;congr 1;exact map_congr_left λx O=>hp e2 q x O
   cases g with
   |false =>
    refine H d _ B (h.2 rfl) ?_;intro e2 q G A;simp only[C,fR,w,B];exact⟨F,λh=>(mE h).elim,λ_=>A⟩
   |true =>
    obtain⟨N,hb⟩:=h.1 rfl;have N:=N trivial;rw[N]at hb;simp only[eu]at hb;unfold Is at hb;split at hb<;>try exact hb.elim
    rename_i z ai ea zc hT ad;obtain⟨X,S,Z,q4,q5,L⟩:=hb;refine M d _ _ B (by rw[w];rfl) L ?_;intro e2 q G A;have ak:∀z,fG e z parts.toList=fG e2 z parts.toList:=λz=>map_congr_left λx O=>by rw[hp e2 q x O]
    simp only[C,fR,w,B];refine⟨F,λ_=>⟨λ_=>by rw[<-ae e2 q];exact N,?_⟩,λh=>by cases h⟩;rw[<-ae e2 q,N];simp only[eu,Is,hT,ad];simp only[qC,<-ak]at Z q4 |-;exact⟨X,S,Z,q4,by rw[<-U d B (by rw[w];rfl) e2 q _ (h0 d)];exact q5,A⟩
  case makeSlice t l c =>
   simp only[fR,w,B]at h;obtain⟨F,h⟩:=h;cases g with
   |false =>
    refine H d _ B (h.2 rfl) ?_;intro e2 q G A;simp only[C,fR,w,B];exact⟨F,λh=>(mE h).elim,λ_=>A⟩
   |true =>
    have V:=h.1 rfl;unfold Mu at V;split at V<;>try exact V.elim
    rename_i z ai ea k1 n1 k2 m1 zc hT hl hc ad;obtain⟨X,S,Z,q4,q5,q6,q7,L⟩:=V;refine M d _ _ B (by rw[w];rfl) L ?_;intro e2 q G A;simp only[C,fR,w,B];refine⟨F,λ_=>?_,λh=>by cases h⟩;rw[<-q.rd (by simp[w,Op.operands]:l∈o.op.operands.toList),<-q.rd (by simp[w,Op.operands]:c∈o.op.operands.toList),hl,hc];simp only[Mu,hT,ad];exact⟨X,S,Z,q4,q5,q6,by rw[<-U d B (by rw[w];rfl) e2 q _ (h0 d)];exact q7,A⟩
  case call c =>
   cases E:c.callee with
   |invoke r m=>simp only[fR,w,B,E]at h;exact h.2.elim
   |builtin b =>
    by_cases hb:b=.append
    ·subst hb;simp only[fR,w,B,E]at h;exact(mE h.2.2.1.symm).elim
    ·refine J (λc' f' R hf=>by rw[w]at R;cases R;rw[E]at hf;cases hf) ?_;intro R K';simp only[C,fR,w,B,E]
   |value f =>
    simp only[fR,w,B,E]at h;obtain⟨F,h⟩:=h;cases g with
    |false =>
     refine H d _ B (h.2 rfl) ?_;intro e2 q G A;simp only[C,fR,w,B,E];exact⟨F,λh=>(mE h).elim,λ_=>A⟩
    |true =>
     obtain⟨fz,gs,bw,Q,dv,al,hc⟩:=(h.1 rfl).elim id (λh=>(mE h.1.symm).elim);obtain⟨rfl,rfl⟩:=al rfl;simp only[eu]at hc;unfold kU at hc;split at hc<;>try exact hc.elim
     rename_i k ab hf;obtain⟨X,S,Z,q4,q5,q6,q7⟩:=hc;have q7:=q7.drawn;have V:makes o.op=true:=by rw[w];simp[makes,E]
     have ao:∀r∈dj d [] Q,r∈tT d:=λr hr=>Hl (by simpa using q4.2) (by simpa[dj]using hr);have ap:=hk rfl;simp only[bE,w,E]at ap;refine⟨one d (dv.iV (DI (dj d [] Q))),yz (DI (dj d [] Q)) (dj d [] Q) Q,I d _ B,?_,by rw[<-En];exact q7,?_⟩
     ·intro s x O;simp only[CL,B,V,if_true];exact mem_append_left _ (ao s (CN O))
     ·intro e2 q G A;have ag:∀r∈reach e.o 4 (D.aQ (rd e f::c.args.toList.map (rd e))),e.o r=e2.o r:=by
       intro r hr;have:=q.obj (hk rfl) (r:=r) (by simp only[bE,w,E];exact hr);exact this
      have am:rd e f=rd e2 f:=q.rd (by simp[w,Op.operands,Call.operands,E]);have aj:c.args.toList.map (rd e)=c.args.toList.map (rd e2):=map_congr_left λx O=>q.rd (by simp only[w,Op.operands,Call.operands,Array.toList_append,mem_append];exact .inr O);simp only[C,fR,w,B,E];refine⟨F,λ_=>.inl ⟨[],[],bw,Q,dv,λ_=>⟨rfl,rfl⟩,?_⟩,λh=>by cases h⟩;simp only[eu];rw[<-am,hf];simp only[kU];refine⟨X,(λr hr=>by cases hr),?_,q4,q5,?_,(.inl (by rw[En];exact A))⟩
      ·intro r hr;rw[<-U d B V e2 q r (Hl (by simpa using q4.2) hr)];exact Z r hr
      ·rw[<-aj];have:((c.args.toList.map (rd e)++ab).map (conv bw [] e2.o 4))=(c.args.toList.map (rd e)++ab).map (conv bw [] e.o 4):=by
        refine map_congr_left ?_;intro x O;refine(qF bw [] 4 x ?_).symm;intro r hr;refine ag r (nL e.o 4 _ _ ?_ r hr);intro s hs;rw[hf];simp only[D.aQ,D.names,mem_append];rcases mem_append.1 O with O|O
        ·exact .inr (cj.2 ⟨x,O,hs⟩)
        ·exact .inl (cj.2 ⟨x,O,hs⟩)
       rw[this];exact q6
  all_goals
   refine J (λc' f' R hf=>by rw[w]at R;cases R) ?_;intro R K';simp only[C,fR,w,B]

theorem Ka(q:k9 o=false):hard o=false:=by
 unfold k9 at q;cases h:hard o with
 |false=>rfl
 |true=>rw[h]at q;simp at q
theorem HC:∀(k:Nat)(ns:List Nat),(∀r∈reach e.o k ns,e.o r=e2.o r)->reach e2.o k ns=reach e.o k ns:=by
 intro k;induction k with
 |zero=>intro ns _;rfl
 |succ k ih =>
  intro ns q;simp only[reach]at q |-;have s:ns.map e2.o=ns.map e.o:=map_congr_left λr hr=>(q r (mem_append_left _ hr)).symm;rw[s,ih _ λr hr=>q r (mem_append_right _ hr)]
def Ib(E:iF ops o=true)(h:lU P n np ops o e K) :
  ∃V U:Nat->Option D,(∀s d,V s=some d->s∈Mt o)/\(∀s d,U s=some d->s∈CL np ops o)/\K (zg V U e) /\
   ∀e2,lO np ops o e e2->∀S:Env->Prop,S (zg V U e2)->lU P n np ops o e2 S:=by
 have w:∀(d:Nat)(x:D),o.dst=some d->∀s y,one d x s=some y->s∈Mt o:=by
  intro d x A s y hy;unfold one at hy;split at hy
  ·rename_i e;subst e;simp[Mt,A]
  ·cases hy
 have h0:∀d,nm d 0∈tT d:=λd=>by simp only[tT,mem_map,mem_range];exact⟨0,by omega,rfl⟩
 have H:∀(d:Nat),o.dst=some d->makes o.op=true->nm d 0∈CL np ops o:=by
  intro d A I;simp only[CL,A,I,if_true];exact mem_append_left _ (h0 d)
 obtain⟨hg,E|E⟩:=KH E
 ·obtain⟨t,len,ps,d,q,A,hl,hp⟩:=E;have I:makes o.op=true:=by rw[q];rfl
  unfold lU at h;rw[q,A]at h;obtain⟨G,h⟩:=h;unfold CS at h;split at h
  ·rename_i z b a W;refine⟨one d .emp,mO,w d _ A,(λs y h=>by cases h),by rw[<-vJ];exact h.2,?_⟩;intro e2 B S F;unfold lU;rw[q,A];refine⟨G,?_⟩;unfold CS;rw[W];exact⟨by rw[<-B.2 _ (.inr (.inl (H d A I)))];exact h.1,by rw[vJ];exact F⟩
  ·exact h.elim
 ·have J:∃c,o.op=.call c/\c.callee=.builtin .append:=by
   unfold isApp at E;split at E
   ·rename_i c q;split at E
    ·rename_i J;exact⟨c,q,J⟩
    ·cases E
   ·cases E
  obtain⟨c,q,J⟩:=J;have I:makes o.op=true:=by rw[q];simp[makes,J]
  unfold lU at h;rw[q]at h;cases A:o.dst with
  |none=>rw[A]at h;exact h.elim
  |some d =>
   rw[A]at h;obtain⟨G,h⟩:=h;split at h<;>try exact h.elim
   rename_i x y T T2 C O;obtain⟨N,h⟩:=h;unfold Ak at h;split at h<;>try exact h.elim
   rename_i z by_ ea z2 by2 ea2 hx W X;obtain⟨Y,h⟩:=h;unfold EH at h;split at h<;>try exact h.elim
   rename_i rows2 hr;obtain⟨q1,q2,q3⟩:=h;refine⟨one d (.ref (nm d 0)),one (nm d 0) (.own z rows2),w d _ A,?_,by rw[<-E4];exact q3,?_⟩
   ·intro s u Q;unfold one at Q;split at Q
    ·rename_i e;subst e;exact H d A I
    ·cases Q
   ·intro e2 B S F;have L:∀u∈[x,y],rd e u=rd e2 u:=λu Q=>B.rd (by simp only[q,Op.operands,Call.operands,Array.toList_append,mem_append];exact .inr (by rw[C];exact Q));have M:∀r∈reach e.o 2 (rd e y).names,e.o r=e2.o r:=by
     intro r hr;have:=nJ N r hr;unfold om at this;rw[q]at this;simp only[Bool.or_eq_true,jY,contains_eq_mem,bP,iX]at this;refine B.2 r ?_;rcases this with h|h
     ·exact .inl h
     ·exact .inr (.inr h)
    have R:=L y (by simp);have Z:=L x (by simp);unfold lU;rw[q,A];refine⟨G,?_⟩;simp only[C,O];refine⟨by rw[<-R,HC 2 _ M];exact N,?_⟩;rw[<-Z,<-R,hx,W,X];refine⟨Y,?_⟩;rw[<-sY [] 2 _ M,hr];exact⟨q1,by rw[<-B.2 _ (.inr (.inl (H d A I)))];exact q2,by rw[E4];exact F⟩
def BU(d:Nat)(gs:List Nat)(q:List D)(s:D)(e:Env)(w:iQ gs q=[]):dU e d gs q s=zg (one d (s.iV (DI (dj d gs q)))) (yz (DI (dj d gs q)) (dj d gs q) q) e:=by
 unfold dU;rw[w,fQ,BZ,vJ];simp[zg,mO]
theorem Jn:∀(k:Nat)(ns:List Nat),(∀r∈reach c k ns,c r=f r)->reach f k ns=reach c k ns:=by
 intro k;induction k with
 |zero=>intro ns _;rfl
 |succ k ih =>
  intro ns q;simp only[reach]at q |-;have s:ns.map f=ns.map c:=map_congr_left λr hr=>(q r (mem_append_left _ hr)).symm;rw[s,ih _ λr hr=>q r (mem_append_right _ hr)]
theorem Jj(hv:mX o=true)(h:tU P n np ops o e g K) :
  ∃Z Y:Nat->Option D,(∀s d,Z s=some d->s∈Mt o)/\(∀s d,Y s=some d->s∈CL np ops o)/\K (zg Z Y e) /\
   ∀e2,lO np ops o e e2->∀R:Env->Prop,R (zg Z Y e2)->tU P n np ops o e2 g R:=by
 unfold tU at h;split at h<;>try exact h.elim
 rename_i c d B U;split at h<;>try exact h.elim
 rename_i f C;have A:∀(x:D),∀s y,one d x s=some y->s∈Mt o:=by
  intro x s y hy;unfold one at hy;split at hy
  ·rename_i e;subst e;simp[Mt,U]
  ·cases hy
 obtain⟨L,h⟩:=h;cases g with
 |false =>
  refine⟨one d (.bH []),mO,A _,(λs y h=>by cases h),(by rw[<-vJ];exact h.2 rfl),λe2 q R I=>?_⟩;unfold tU;rw[B,U];simp only[C];exact⟨L,λh=>(mE h).elim,λ_=>by rw[vJ];exact I⟩
 |true =>
  obtain⟨gs,w,S,k1,k2,k3,T⟩:=h.1 rfl;unfold kU at T;split at T<;>try exact T.elim
  rename_i k H hf;obtain⟨q1,q2,q3,q4,q5,q6,q7⟩:=T;have hm:makes o.op=true:=by rw[B];simp[makes,C]
  have O:∀r∈gs,r∈CL np ops o:=λr hr=>by
   have:=k1 r hr;unfold CL;rw[B];simp only[hv,if_true];refine mem_append_right _ ?_;cases V:c.args.toList with
   |nil=>rw[V]at this;simp[Cp]at this
   |cons a as=>rw[V]at this;exact this
  have Q:∀r∈iA d 0 (w.length-gs.length),r∈CL np ops o:=λr hr=>by
   obtain⟨j,_,h2,rfl⟩:=qe hr;simp only[CL,U,hm,if_true];refine mem_append_left _ ?_;simp only[tT,mem_map,mem_range];exact⟨j,by omega,rfl⟩
  have G:∀e2,lO np ops o e e2->∀r∈reach e.o 5 (gs++D.aQ (rd e f::c.args.toList.map (rd e))),e.o r=e2.o r:=λe2 q r hr=>by
   have:=nJ k2 r hr;unfold om at this;rw[B]at this;simp only[Bool.or_eq_true,jY,contains_eq_mem,bP,iX]at this;exact q.2 r (this.elim .inl λh=>.inr (.inr h))
  refine⟨one d (S.iV (DI (dj d gs w))),yz (DI (dj d gs w)) (dj d gs w) w,A _,?_,by rw[<-BU d gs w S e k3];exact q7,?_⟩
  ·intro s x F;rcases mem_append.1 (CN F)with h|h
   ·exact O s h
   ·exact Q s h
  ·intro e2 q R I;have E:=G e2 q;have M:rd e f=rd e2 f:=q.rd (by simp[B,Op.operands,Call.operands,C]);have J:c.args.toList.map (rd e)=c.args.toList.map (rd e2):=map_congr_left λx F=>q.rd (by simp only[B,Op.operands,Call.operands,Array.toList_append,mem_append];exact .inr F);have N:∀r∈gs,e.o r=e2.o r:=λr hr=>q.2 r (.inr (.inl (O r hr)));unfold tU;rw[B,U];simp only[C];refine⟨L,λ_=>⟨gs,w,S,k1,?_,k3,?_⟩,λh=>by cases h⟩
   ·rw[<-M,<-J,Jn 5 _ E];exact k2
   ·rw[<-M,hf];simp only[kU];refine⟨q1,(λr hr=>by rw[<-N r hr];exact q2 r hr),?_,q4,q5,?_,by rw[BU d gs w S e2 k3];exact I⟩
    ·intro r hr;rw[<-q.2 r (.inr (.inl (Q r hr)))];exact q3 r hr
    ·have s5:∀(l:List Nat),(∀r∈l,r∈gs++D.aQ (rd e f::c.args.toList.map (rd e)))->∀r∈reach e.o 4 l,e.o r=e2.o r:=λl V r hr=>E r (qY e.o 4 _ r (nL e.o 4 _ _ V r hr));have e1:gs.map (λr=>sq false gs e2.o 4 (e2.o r))=gs.map λr=>sq false gs e.o 4 (e.o r):=by
      refine map_congr_left λr hr=>?_;rw[<-N r hr];cases F:e.o r<;>try rfl
      rename_i cs;simp only[sq];congr 1;refine map_congr_left λx aa=>(qF false gs 4 x λs W=>?_).symm;refine E s ?_;show s∈(gs++D.aQ (rd e f::c.args.toList.map (rd e)))++reach e.o 4 _;refine mem_append_right _ (nL e.o 4 _ _ (λt ht=>?_) s W);refine cj.2 ⟨e.o r,mem_map.2 ⟨r,mem_append_left _ hr,rfl⟩,?_⟩;rw[F];simp only[D.names];exact cj.2 ⟨x,aa,ht⟩
     rw[e1,<-J];have X:(c.args.toList.map (rd e)++H).map (conv false gs e2.o 4)=(c.args.toList.map (rd e)++H).map (conv false gs e.o 4):=by
      refine map_congr_left λx F=>(qF false gs 4 x ?_).symm;refine s5 _ λs W=>mem_append_right _ ?_;rw[hf];simp only[D.aQ,D.names,mem_append];rcases mem_append.1 F with F|F
      ·exact .inr (cj.2 ⟨x,F,W⟩)
      ·exact .inl (cj.2 ⟨x,F,W⟩)
     rw[X];exact q6
theorem yY(A:ud ops o=false)(h:dK P n np ops o e K) :
  ∃G F:Nat->Option D,(∀s d,G s=some d->s∈Mt o)/\(∀s d,F s=some d->s∈CL np ops o)/\K (zg G F e) /\
   ∀e2,lO np ops o e e2->∀H:Env->Prop,H (zg G F e2)->dK P n np ops o e2 H:=by
 unfold dK at h;cases I:nZ ops e o.guard with
 |none=>rw[I]at h;exact h.elim
 |some g =>
  rw[I]at h;by_cases U:iF ops o=true
  ·simp only[U,if_true]at h;obtain⟨G,F,L,E,M,N⟩:=Ib U h;refine⟨G,F,L,E,M,λe2 q H B=>?_⟩;unfold dK;rw[<-uF q,I];simp only[U,if_true];exact N e2 q H B
  have C:iF ops o=false:=by simpa using U
  have A:(hard o||isApp o||Bi o)=false:=by simpa[ud,C]using A
  have Z:isApp o=false:=by cases hq:isApp o<;>simp[hq]at A |-
  by_cases S:mX o=true
  ·have hd:k9 o=true:=by simp[k9,S]
   simp only[C,hd,Z,S,Bool.false_eq_true,if_false,if_true]at h;obtain⟨G,F,L,E,M,N⟩:=Jj S h;refine⟨G,F,L,E,M,λe2 q H B=>?_⟩;unfold dK;rw[<-uF q,I];simp only[C,hd,Z,S,Bool.false_eq_true,if_false,if_true];exact N e2 q H B
  have Y:mX o=false:=by simpa using S
  have A:k9 o=false:=by simp[k9,Y,A]
  simp only[C,A,Bool.false_eq_true,if_false]at h;obtain⟨⟨V,h⟩,hcalm⟩:=h;obtain⟨G,F,L,E,M,N⟩:=LO (Ka A) V h;refine⟨G,F,L,E,M,λe2 q H B=>?_⟩;unfold dK;rw[<-uF q,I];simp only[C,A,Bool.false_eq_true,if_false];refine⟨⟨λJ=>?_,N e2 q H B⟩,λX O=>?_⟩
  case refine_2 =>
   have J:g=true:=by rw[O]at I;simpa[nZ]using I.symm
   exact Gr (λ_ T=>q.rd T) (λ_ hr=>q.obj (V J) hr) (hcalm X O)
  -- what is reached is the same
  have Q:=V J;have:bE e2 o=bE e o:=by
   have hr:∀x,x∈o.op.operands.toList->rd e x=rd e2 x:=λx T=>q.rd T;unfold bE;cases R:o.op<;>rw[R]at hr<;>simp only[Op.operands]at hr<;>try rfl
   case load t a=>simp only;rw[hr a (by simp)]
   case store t a x=>simp only;rw[hr a (by simp)]
   case indexAddr t x i=>simp only;rw[hr x (by simp)]
   case slice t x lo hi mx=>simp only;rw[hr x (by simp)]
   case call c =>
    have E:c.args.toList.map (rd e)=c.args.toList.map (rd e2):=map_congr_left λx T=>hr x (by simp only[Call.operands,Array.toList_append,mem_append];exact .inr T);cases w:c.callee with
    |builtin b=>simp only[w];rw[E]
    |invoke r m=>simp only[w];rw[E]
    |value f =>
     simp only[w];rw[hr f (by simp[Call.operands,w]),E]
     -- reached objects hold the same
     have key:∀(k:Nat)(ns:List Nat),(∀r∈reach e.o k ns,e.o r=e2.o r)->reach e2.o k ns=reach e.o k ns:=by
      intro k;induction k with
      |zero=>intro ns _;rfl
      |succ k ih =>
       intro ns A;simp only[reach]at A |-;have e1:ns.map e2.o=ns.map e.o:=map_congr_left λr hr=>(A r (mem_append_left _ hr)).symm;rw[e1,ih _ λr hr=>A r (mem_append_right _ hr)]
     refine key 4 _ ?_;intro r W;refine q.obj Q (r:=r) ?_;simp only[bE,R,w];rw[hr f (by simp[Call.operands,w]),E];exact W
  rw[this];exact Q

def Iq{x:Oper}(q:x∈ops)(hr:r∈CL np ops x):r∈Re np ops:=mem_flatMap.2 ⟨x,q,hr⟩
def M9(B:∀s d q,h s=some d->m s=some q->False)(C:∀s d q,i s=some d->p s=some q->False)(e:Env):zg h i (zg m p e)=zg m p (zg h i e):=by
 simp only[zg,Env.mk.injEq];refine⟨?_,?_⟩<;>funext j
 ·cases w:h j<;>cases A:m j<;>simp;exact(B j _ _ w A).elim
 ·cases w:i j<;>cases A:p j<;>simp;exact(C j _ _ w A).elim

def JT{x:Oper}(D:ud ops x=false)(E:ud ops j=false)(G:x∈ops)(H:j∈ops)(R:As np ops x j=true)(h:dK P n np ops x e λB=>dK P n np ops j B K) :
  dK P n np ops j e λe2=>dK P n np ops x e2 K:=by
 obtain⟨L,J,O,Q,S,T⟩:=yY D h;obtain⟨N,M,k1,k2,k3,U⟩:=yY E S;simp only[As,Bool.and_eq_true,cR,jY,contains_eq_mem,iX]at R;obtain⟨⟨⟨I,a2⟩,a3⟩,a4⟩:=R;refine U e ⟨?_,?_⟩ _ ?_
 ·intro s F;show(L s).getD (e.t s)=e.t s;cases w:L s with
  |none=>rfl
  |some d=>exact((I s (O s d w)).1 F).elim
 ·intro r hr;show(J r).getD (e.o r)=e.o r;cases w:J r with
  |none=>rfl
  |some d =>
   have A:=Q r d w;rcases hr with hr|hr|hr
   ·exact((a3 r A).1 hr).elim
   ·exact((a3 r A).2 hr).elim
   ·exact(hr (Iq G A)).elim
 ·refine T _ ⟨?_,?_⟩ _ ?_
  ·intro s F;show e.t s=(N s).getD (e.t s);cases w:N s with
   |none=>rfl
   |some d=>exact(a2 s (k1 s d w) F).elim
  ·intro r hr;show e.o r=(M r).getD (e.o r);cases w:M r with
   |none=>rfl
   |some d =>
    have A:=k2 r d w;rcases hr with hr|hr|hr
    ·exact(a4 r A hr).elim
    ·exact((a3 r hr).2 A).elim
    ·exact(hr (Iq H A)).elim
  ·rw[M9]
   ·exact k3
   ·intro s d C B q;exact(I s (O s d B)).2 (k1 s C q)
   ·intro s d C B q;exact(a3 s (Q s d B)).2 (k2 s C q)

theorem CK(h:dK P n np ops o e K)(q:∀e,K e->K' e):dK P n np ops o e K':=by
 unfold dK at h |-;cases D:nZ ops e o.guard with
 |none=>rw[D]at h;exact h.elim
 |some g =>
  rw[D]at h;simp only at h |-;split at h
  ·rename_i B;rw[aE B];exact Cw q h
  rename_i B;rw[az B];split at h
  ·rename_i A;rw[aE A];split at h
   ·rename_i s;rw[aE s];split at h
    ·rename_i w;rw[aE w];exact oo q h
    ·rename_i w;rw[az w];exact⟨xu q h.1,h.2⟩
   ·rename_i s;rw[az s];split at h
    ·rename_i C;rw[aE C];exact Eo q h
    ·rename_i C;rw[az C];exact oo q h
  ·rename_i A;rw[az A];exact⟨⟨h.1.1,oo q h.1.2⟩,h.2⟩

def Mr{x:Oper}(w:Hp ops x o=true)(E:iF ops o=false)(D:iF ops x=false)(h:dK P n np ops x e λJ=>dK P n np ops o J K):dK P n np ops o e λe2=>dK P n np ops x e2 K:=by
 unfold Hp at w;split at w<;>try cases w
 rename_i u dx q s B;simp only[Bool.and_eq_true,jY,Option.isNone_iff_eq_none,bne_iff_ne]at w;obtain⟨⟨⟨⟨⟨A,N⟩,hc⟩,hd1⟩,hd2⟩,htw⟩:=w;have F:k9 x=false:=by simp[k9,hard,isApp,Bi,mX,q]
 have H:k9 o=true:=by simp[k9,n7 A]
 have G:hard x=false:=by simp[hard,q]
 have I:∀(e:Env)(K:Env->Prop),dK P n np ops x e K↔(dx<n/\K (bk e dx (e.t u))):=by
  intro e K;have C:bE e x=[]:=by simp[bE,q]
  simp only[dK,D,B,nZ,F,Bool.false_eq_true,if_false,F7,C,lP,iO,G,fR,q,s,eo,ck,dP,gd,if_true,rd,yE,htw];simp
 have L:∀(e:Env)(K:Env->Prop),dK P n np ops o e K↔lX P n o e true K:=by
  intro e K;simp only[dK,E,N,nZ,H,n7 A,Bf A,Bool.false_eq_true,if_false,if_true,Tv,htw,false_implies,and_true]
 rw[I]at h;rw[L]at h |-;refine xu ?_ (KY hc hd1 hd2 h.2);intro e2 M;rw[I];exact⟨h.1,M⟩
def kD(k:Option Nat)(d:D):D:=
 match k with
 |some r=>d.kill r
 |none=>d
def kE(k:Option Nat)(e:Env):Env:=
 match k with
 |some r=>gn r e
 |none=>e
def Z0(k:Option Nat)(e:Env)(j:Nat):(kE k e).t j=kD k (e.t j):=by cases k<;>rfl
theorem ZZ{j:Nat}(h:k≠some j):(kE k e).o j=kD k (e.o j):=by
 cases k with
 |none=>rfl
 |some r =>
  have:j≠r:=λe=>h (by rw[e]);simp[kE,gn,kD,this]
theorem Kh(k:Option Nat)(e:Env)(d:Nat)(v:D):kE k (bk e d v)=bk (kE k e) d (kD k v):=by
 cases k with
 |none=>rfl
 |some r =>
  simp only[kE,gn,bk,kD,Env.mk.injEq,and_true];funext j;split<;>rfl
theorem Qc{N:Nat}(h:k≠some N):kE k (bu e N v)=bu (kE k e) N (kD k v):=by
 cases k with
 |none=>rfl
 |some r =>
  have:N≠r:=λe=>h (by rw[e]);simp only[kE,gn,bu,kD,Env.mk.injEq,true_and];funext j;by_cases q:j=N
  ·subst q;simp[this]
  ·simp[q]
theorem NB(h:yU (kD k v)=true):kD k v=v:=by
 cases k with
 |none=>rfl
 |some r =>
  simp only[kD]at h |-;cases v<;>simp only[D.kill]at h |-<;>(try(split at h<;>rename_i hs<;>simp_all[yU]))<;>simp_all[yU]
theorem Up(h:F1 (kD k v)=true):kD k v=v:=by
 cases k with
 |none=>rfl
 |some r =>
  cases v
  case box cs =>
   simp only[kD,D.kill,F1,iJ,all_map,cR,Function.comp_apply]at h |-;congr 1;have:cs.map (D.kill r)=cs.map id:=map_congr_left λc q=>NB (k:=some r) (h c q);rw[this,map_id]
  all_goals simp only[kD,D.kill]at h |-
  all_goals first| (split at h<;>rename_i hs<;>simp_all[F1])| (simp[F1]at h)
theorem Uq(h:BJ v=true)(q:kD k v=.undef):v=.undef:=by
 cases k with
 |none=>exact q
 |some r=>cases v<;>simp_all[BJ,kD,D.kill]
theorem Bb{o:Op}(h:∀z∈o.operands.toList,rd e2 z=rd e z):zj e2 o=zj e o:=by
 unfold zj;cases o<;>try rfl
 rename_i c;simp only;cases q:c.args.toList with
 |nil=>rfl
 |cons x r=>exact h x (by simp only[Op.operands,Call.operands,Array.toList_append,mem_append];exact .inr (by rw[q];simp))
def u0(q:∀j,e.o j≠.undef->e2.o j=e.o j){z:Nat}{rows:List (List D)}(h:gR z (kQ e.o [] 2 v)=some rows):gR z (kQ e2.o [] 2 v)=some rows:=by
 have no:∀{r:Nat} {f:D->D},f .undef=.undef->gR z (f (e.o r))=some rows->e2.o r=e.o r:=λ{r f} hf h=>q r λe=>by rw[e,hf]at h;cases h
 cases v
 case ref r=>rw[show kQ e2.o [] 2 (.ref r)=mG (e2.o r)from rfl,no (f:=mG) rfl h];exact h
 case cN r z' lo len=>rw[show kQ e2.o [] 2 (.cN r z' lo len)=lY z' lo len (e2.o r)from rfl,no (f:=lY z' lo len) rfl h];exact h
 case bz r off z' len cap=>rw[show kQ e2.o [] 2 (.bz r off z' len cap)=iy off z' len (e2.o r)from rfl,no (f:=iy off z' len) rfl h];exact h
 case addr r off =>
  have h:gR z (j0 (kQ e.o [] 1) off (e.o r))=some rows:=h;unfold j0 at h;split at h<;>cases h
 case bB r z' i k =>
  have h:gR z (pR z' i k (e.o r))=some rows:=h;unfold pR at h;split at h
  ·split at h<;>cases h
  ·cases h
 all_goals first|exact h|cases h
theorem IG(h:lX P n o e true K):∃(d:Nat)(k:Option Nat)(Q:D),o.dst=some d/\(∀r,k=some r->zj e o.op=.ref r)/\K (bk (bu (kE k e) (nm d 0) Q) d (.ref (nm d 0))) /\
  ∀e2 (w:Env->Prop),(∀z∈o.op.operands.toList,rd e2 z=rd e z)->(∀j,e.o j≠.undef->e2.o j=e.o j)->e2.o (nm d 0)=e.o (nm d 0)->w (bk (bu (kE k e2) (nm d 0) Q) d (.ref (nm d 0)))->lX P n o e2 true w:=by
 unfold lX at h;cases H:o.op<;>rw[H]at h<;>try exact h.elim
 rename_i c;cases O:o.dst with
 |none=>rw[O]at h;exact h.elim
 |some d =>
  rw[O]at h;obtain⟨k1,k2,k3⟩:=h;split at k3<;>try exact k3.elim
  rename_i x y T T2 q I;have F:∀z∈c.args.toList,z∈(Op.call c).operands.toList:=λz S=>by simp only[Op.operands,Call.operands,Array.toList_append,mem_append];exact .inr S
  unfold lW at k3;split at k3<;>try exact k3.elim
  rename_i z L a z2 b2 a2 R N;obtain⟨k3,s⟩:=k3;have M:zj e (Op.call c)=rd e x:=by simp[zj,q]
  have out:∀e2 (w:Env->Prop),(∀z∈(Op.call c).operands.toList,rd e2 z=rd e z)->rO e2 z L d w (rd e x) (gR z (kQ e2.o [] 2 (rd e y)))->lX P n o e2 true w:=by
   intro e2 w hr A;unfold lX;rw[H,O];refine⟨k1,rfl,?_⟩;simp only[q,I];rw[hr x (F x (by rw[q];simp)),hr y (F y (by rw[q];simp)),R,N];exact⟨k3,A⟩
  unfold rO at s;split at s<;>try exact s.elim
  ·rename_i rows2 C J;refine⟨d,none,_,rfl,(λr hr=>by cases hr),s.2.2,λe2 w hr B E A=>out e2 w hr ?_⟩;rw[C,u0 B J];exact⟨s.1,by rw[E];exact s.2.1,A⟩
  ·rename_i rows2 C J;refine⟨d,none,_,rfl,(λr hr=>by cases hr),s.2.2,λe2 w hr B E A=>out e2 w hr ?_⟩;rw[C,u0 B J];exact⟨s.1,by rw[E];exact s.2.1,A⟩
  ·rename_i r rows2 C J;unfold Iw at s;split at s<;>try exact s.elim
   rename_i z' rows G;refine⟨d,some r,_,rfl,(λr' hr=>by cases hr;rw[M];exact C),s.2.2.2,λe2 w hr B E A=>out e2 w hr ?_⟩;rw[C,u0 B J];simp only[rO];rw[B r (by rw[G];simp),G];refine⟨s.1,s.2.1,?_,A⟩;have:=s.2.2.1;simp only[gn]at this |-;rw[E];exact this
theorem JY{v:D}{y:Oper}{q:Nat}(s:P9 y.op=true)(w:y.dst=some q):∀{l:List Oper},y∈l->IF e v l->BJ (e.o (nm q 0))=true/\BG (nm q 0) v=true
 |x::l,hy,h=>by
  rcases mem_cons.1 hy with rfl|hy
  ·have:=h.1;simp only[s,w]at this;exact this
  ·exact JY s w hy h.2
theorem EO{v:D}{e2:Env}(q:∀j,BJ (e.o j)=true->BJ (e2.o j)=true):∀{l:List Oper},IF e v l->IF e2 v l
 | [],_=>trivial
 |x::l,h=>by
  refine⟨?_,EO q h.2⟩;have:=h.1;split at this<;>rename_i q1 q2<;>simp_all
def UU{a b:Nat}(h:a≠b):nm a 0≠nm b 0:=by unfold nm;omega
theorem K3(s:BinOp)(a b:D):kD k (tQ s a b)=tQ s a b:=by
 cases k with
 |none=>rfl
 |some r =>
  have w:∀x:Bool,(DV s x).kill r=DV s x:=λx=>by unfold DV;split<;>rfl
  have A:∀(q:IntKind)(x y:Int),(C6 s q x y).kill r=C6 s q x y:=λq x y=>by unfold C6;split<;>rfl
  have B:∀(x y:ByteArray),(Q1 s x y).kill r=Q1 s x y:=λx y=>by unfold Q1;split<;>rfl
  unfold tQ;simp only[kD];split<;>first|exact w _|exact A _ _ _|exact B _ _|rfl
theorem JP(q:UnOp)(a:D):kD k (sV q a)=sV q a:=by
 cases k with
 |none=>rfl
 |some r =>
  unfold sV;simp only[kD];split
  ·split<;>rfl
  ·split<;>rfl
  ·rfl
theorem Nb(s:List FT)(f:Nat)(h:kD k a=a):kD k (Mx s f a)=Mx s f a:=by
 cases k with
 |none=>rfl
 |some r =>
  cases a<;>simp only[kD,Mx,D.kill]at h |-
  ·split at h<;>rename_i q
   ·cases h
   ·rw[az q]
  ·split at h<;>rename_i q
   ·cases h
   ·rw[az q]
theorem LU(agg:Bool)(off n:Nat){cs:List D}(h:∀c∈cs,kD k c=c):kD k (part agg off n cs)=part agg off n cs:=by
 cases k with
 |none=>rfl
 |some r =>
  unfold part;split
  ·simp only[kD,D.kill,iJ];congr 1;have:((cs.drop off).take n).map (D.kill r)=((cs.drop off).take n).map id:=map_congr_left λc q=>h c (mem_of_mem_drop (mem_of_mem_take q));rw[this,map_id]
  ·cases q:cs.drop off with
   |nil=>rfl
   |cons c r'=>exact h c (mem_of_mem_drop (by rw[q];simp))
theorem Gu(v:Value):kD k (mW v)=mW v:=by
 cases k with
 |none=>rfl
 |some r =>
  have q:∀v:Value,(o9 v).kill r=o9 v:=λv=>by unfold o9;split<;>(try rfl)<;>(split<;>rfl)
  have s:∀l:List Value,D.gN r (l.map o9)=l.map o9:=λl=>by
   rw[iJ,map_map];exact map_congr_left λv _=>q v
  unfold mW;simp only[kD];split<;>first|exact q _| (split<;>rfl)| (simp only[D.kill];rw[s])
def Mq{x:Oper}(aK:x∈ops)(aN:u∈ops)(ha:Zg np ops x u=true)(h:dK P n np ops x e λe1=>dK P n np ops u e1 K):dK P n np ops u e λe2=>dK P n np ops x e2 K:=by
 simp only[Zg,Bool.and_eq_true,jY,Option.isNone_iff_eq_none,any_eq_false,gm,bne_iff_ne]at ha;obtain⟨au,ab,aJ,aM,ap,aF,aG,av,aL,al,ai,aa⟩:=ha;have aH:k9 x=true:=by simp[k9,n7 ab]
 have ex:∀(e:Env)(K:Env->Prop),dK P n np ops x e K↔lX P n x e true K/\IF e (zj e x.op) ops:=by
  intro e K;simp only[dK,aF,aJ,nZ,aH,n7 ab,Bf ab,Bool.false_eq_true,if_false,if_true,Tv,au,true_implies]
 have ey:∀(e:Env)(K:Env->Prop),dK P n np ops u e K↔(lP np ops u (bE e u)/\fR P n true u e true K)/\iZ e u.op:=by
  intro e K;simp only[dK,aG,aM,nZ,av,Bool.false_eq_true,if_false,yE,au,true_implies,F7,iO,Ka av]
 rw[ex]at h;obtain⟨h,hV⟩:=h;obtain⟨d,k,ob,hd,hk,J,ar⟩:=IG h;rw[ey]at J;obtain⟨⟨ac,J⟩,w⟩:=J;rw[ey];rw[hd]at aa al ai;have aa:∀s∈tT d,s∉X7 np ops u:=λs hs=>by simpa using cR.1 aa s hs
 obtain⟨F,hF⟩:∃F,F=bk (bu (kE k e) (nm d 0) ob) d (.ref (nm d 0)):=⟨_,rfl⟩
 rw[<-hF]at ac J w;have hFt:∀z∈u.op.operands.toList,rd F z=kD k (rd e z)\/rd F z=rd e z:=by
  intro z U;cases z with
  |tmp t =>
   left;have:t≠d:=by
    rintro rfl;exact al t (qR U) rfl
   rw[hF];show(bk _ _ _).t t=kD k (e.t t);rw[oT this];exact Z0 k e t
  | _=>right;rfl
 have I:∀z∈u.op.operands.toList,yU (rd F z)=true->rd F z=rd e z/\kD k (rd e z)=rd e z:=by
  intro z U hs;cases z with
  |tmp t =>
   have e1:rd F (.tmp t)=kD k (rd e (.tmp t)):=by
    have:t≠d:=by
     rintro rfl;exact al t (qR U) rfl
    rw[hF];show(bk _ _ _).t t=kD k (e.t t);rw[oT this];exact Z0 k e t
   rw[e1]at hs |-;have:=NB hs;exact⟨this,this⟩
  |const v=>exact⟨rfl,Gu v⟩
  |global g=>exact⟨rfl,by cases k<;>rfl⟩
  |func f=>exact⟨rfl,by cases k<;>rfl⟩
 have ad:∀(A:Nat)(v:D),u.dst=some A->∀(e2:Env),(∀j,j≠A->e2.t j=e.t j)->∀z∈x.op.operands.toList,rd e2 z=rd e z:=by
  intro A v C e2 he z U;cases z with
  |tmp t=>exact he t λe=>aL t (qR U) (by rw[C,e])
  | _=>rfl
 -- a step that only sets its slot
 have aw:∀(A:Nat)(v:D),u.dst=some A->kD k v=v->K (bk F A v)->dK P n np ops x (bk e A v) K:=by
  intro A v C hv J;have Z:d≠A:=λh=>ai (by rw[C,h]);have hr:=ad A v C (bk e A v) λj M=>oT M;rw[ex];refine⟨ar _ K hr (λ_ _=>rfl) rfl ?_,?_⟩
  ·have:bk (bu (kE k (bk e A v)) (nm d 0) ob) d (.ref (nm d 0))=bk F A v:=by
    rw[hF,Kh,hv];simp only[bk,bu,Env.mk.injEq,and_true];funext j;by_cases M:j=d
    ·subst M;simp[Z]
    ·simp[M]
   rw[this];exact J
  ·rw[Bb hr];exact EO (e:=e) (e2:=bk e A v) (λ_ M=>M) hV
 cases B:u.op<;>rw[B]at ap<;>(try cases ap)
 case buildSlice T len ps =>
  cases C:u.dst with
  |none=>simp only[fR,B,C]at J
  |some A =>
   simp only[fR,B,C]at J;obtain⟨aj,J⟩:=J;have Z:d≠A:=λh=>ai (by rw[C,h]);have hp:∀q∈ps.toList,rd F q.2=rd e q.2:=by
    rw[B]at w I;intro q R;refine(I q.2 (by simp only[Op.operands,Array.toList_map,mem_map];exact⟨q,R,rfl⟩) ?_).1;have:∀{l:List (Nat×Operand)},zJ F l=true->∀q∈l,yU (rd F q.2)=true:=by
     intro l;induction l with
     |nil=>intro _ q R;cases R
     |cons a l ih =>
      intro h q R;simp only[zJ,Bool.and_eq_true]at h;rcases mem_cons.1 R with rfl|R
      ·exact h.1
      ·exact ih h.2 q R
    exact this w q R
   have am:ny F ps.toList=ny e ps.toList:=by
    unfold ny;congr 1;exact map_congr_left λq R=>hp q R
   have ax:∀z,fG F z ps.toList=fG e z ps.toList:=λz=>map_congr_left λq R=>by rw[hp q R]
   obtain⟨O,Y⟩:=J.1 rfl;have O:=O trivial;rw[O]at Y;simp only[eu]at Y;unfold Is at Y;split at Y<;>try exact Y.elim
   rename_i z by_ ea zc hT aO;obtain⟨q1,q2,q3,q4,q5,J⟩:=Y;obtain⟨v1,v2⟩:=JY (by rw[B];rfl) C aN hV;have ak:k≠some (nm A 0):=by
    intro aA;rw[hk _ aA]at v2;simp[BG]at v2
   have af:nm A 0≠nm d 0:=UU (Ne.symm Z);have hN:e.o (nm A 0)=.undef:=by
    refine Uq (k:=k) v1 ?_;rw[<-ZZ ak,<-q5,hF];show _=(bu (kE k e) (nm d 0) ob).o (nm A 0);simp[bu,af]
   refine⟨⟨by simp[bE,B,lP],?_⟩,?_⟩
   ·simp only[fR,B,C];refine⟨aj,λ_=>⟨λ_=>by rw[<-am];exact O,?_⟩,λh=>by cases h⟩;rw[<-am,O];simp only[eu,Is,hT,aO];simp only[qC,<-ax]at q3 q4 J |-;refine⟨q1,q2,q3,q4,hN,?_⟩;obtain⟨V,ag⟩:∃V:D,V=.own z (rowsOf z len (jd (replicate len zc).flatten (fG F z ps.toList))):=⟨_,rfl⟩
    rw[<-ag]at J |-;have an:kD k V=V:=by rw[ag];cases k<;>rfl
    have aB:kD k (.ref (nm A 0))=.ref (nm A 0):=by
     cases k with
     |none=>rfl
     |some r =>
      have:nm A 0≠r:=λh=>ak (by rw[h]);simp[kD,D.kill,this]
    have hr:=ad A (.ref (nm A 0)) C (bk (bu e (nm A 0) V) A (.ref (nm A 0))) λj M=>oT M;rw[ex];refine⟨ar _ K hr ?_ ?_ ?_,?_⟩
    ·intro j M;show(if j=nm A 0 then V else e.o j)=e.o j;rw[az];rintro rfl;exact M hN
    ·show(if nm d 0=nm A 0 then V else e.o (nm d 0))=e.o (nm d 0);rw[az (Ne.symm af)]
    ·have:bk (bu (kE k (bk (bu e (nm A 0) V) A (.ref (nm A 0)))) (nm d 0) ob) d (.ref (nm d 0))=bk (bu F (nm A 0) V) A (.ref (nm A 0)):=by
      rw[hF,Kh,Qc ak,an,aB];simp only[bk,bu,Env.mk.injEq];refine⟨?_,?_⟩<;>funext j
      ·by_cases M:j=d
       ·subst M;simp[Z]
       ·simp[M]
      ·by_cases M:j=nm d 0
       ·subst M;simp[Ne.symm af]
       ·simp[M]
     rw[this];exact J
    ·rw[Bb hr];refine EO (λj M=>?_) hV;show BJ (if j=nm A 0 then V else e.o j)=true;split
     ·rw[ag];rfl
     ·exact M
   ·simp only[B,iZ]at w |-;rw[<-vc _ hp];exact w
 all_goals
  have Q:(∀W K',fR P n true u W true K'↔∃A,u.dst=some A/\A<n/\ck P W u.op/\K' (bk W A (dP P W u.op)))->(ck P F u.op->ck P e u.op/\dP P F u.op=dP P e u.op/\kD k (dP P e u.op)=dP P e u.op)->lP np ops u (bE e u)->iZ e u.op->(lP np ops u (bE e u)/\fR P n true u e true λe2=>dK P n np ops x e2 K)/\iZ e u.op:=by
   intro L H X h3;obtain⟨A,C,aj,E,J⟩:=(L _ _).1 J;obtain⟨k1,k2,k3⟩:=H E;rw[k2]at J;exact⟨⟨X,(L _ _).2 ⟨A,C,aj,k1,aw A _ C k3 J⟩⟩,h3⟩
  rw[B]at Q w I;simp only[Op.operands]at I;have L:∀W K',fR P n true u W true K'↔∃A,u.dst=some A/\A<n/\ck P W u.op/\K' (bk W A (dP P W u.op)):=by
   intro W K';cases C:u.dst<;>simp[fR,B,C,eo,gd]
  rw[B]at L
 case move a =>
  obtain⟨H,X⟩:=I a (by simp) w;exact Q L (λ_=>⟨trivial,H,X⟩) (by simp[bE,B,lP]) (by simp only[iZ];rw[<-H];exact w)
 case fieldAddr t a f =>
  obtain⟨H,X⟩:=I a (by simp) w;refine Q L (λE=>⟨?_,?_,?_⟩) (by simp[bE,B,lP]) (by simp only[iZ];rw[<-H];exact w)
  ·simp only[ck]at E |-;rw[<-H];exact E
  ·simp only[dP];rw[H]
  ·simp only[dP];cases bY P t<;>first|exact Nb _ _ X| (cases k<;>rfl)
 case unOp op t a =>
  obtain⟨H,X⟩:=I a (by simp) w;refine Q L (λE=>⟨?_,?_,JP _ _⟩) (by simp[bE,B,lP]) (by simp only[iZ];rw[<-H];exact w)
  ·simp only[ck]at E |-;rw[<-H];exact E
  ·simp only[dP];rw[H]
 case binOp op t a b t2 =>
  obtain⟨H,X⟩:=I a (by simp) w.1;obtain⟨h3,h4⟩:=I b (by simp) w.2;refine Q L (λE=>⟨?_,?_,K3 _ _ _⟩) (by simp[bE,B,lP]) (by simp only[iZ];rw[<-H,<-h3];exact w)
  ·simp only[ck]at E |-;rw[<-H,<-h3];exact E
  ·simp only[dP];rw[H,h3]
 case load t a =>
  simp only[iZ]at w;cases N:rd F a<;>rw[N]at w<;>(try cases w);rename_i q off;simp only[Mh]at w;obtain⟨H,X⟩:=I a (by simp) (by rw[N];rfl);have G:om np ops u q=true:=by
   refine nJ ac q ?_;simp only[bE,B,N,D.names,kK]
  have aD:q≠nm d 0:=by
   rintro rfl;have hm:nm d 0∈tT d:=by simp only[tT,mem_map,mem_range];exact⟨0,by omega,rfl⟩
   have hw:nm d 0∈Re np ops:=by
    refine mem_flatMap.2 ⟨x,aK,?_⟩;have aC:makes x.op=true:=by
     have:=n7 ab;unfold isApp at this;unfold makes;split at this
     ·rename_i c hc;rw[hc];split at this
      ·rename_i ay;simp[ay]
      ·cases this
     ·cases this
    simp only[CL,hd,aC,if_true];exact mem_append_left _ hm
   unfold om at G;rw[B]at G;simp only[Bool.or_eq_true,jY,contains_eq_mem,bP,iX]at G;rcases G with h|h
   ·exact aa _ hm h
   ·exact h hw
  have aE:k≠some q:=by
   rintro rfl;rw[<-H,N]at X;simp[kD,D.kill]at X
  have ae:F.o q=kD k (e.o q):=by
   rw[hF,<-ZZ aE];show(if q=nm d 0 then ob else(kE k e).o q)=_;rw[az aD]
  have S:F.o q=e.o q:=by rw[ae];exact Up (by rw[<-ae];exact w)
  have aq:∀r∈bE F u,F.o r=e.o r:=by
   intro r hr;simp only[bE,B,N,D.names,kK]at hr;rw[hr];exact S
  have ah:=yM (P:=P) (o:=u) (e:=F) (e2:=e) (λz U=>by
   rw[B]at U;simp only[Op.operands,kK]at U;have U:z=a:=by simpa using U
   subst U;exact H) aq (λc f hc=>by rw[B]at hc;cases hc)
  rw[B]at ah;refine Q L (λE=>⟨ah.2.1 E,ah.1,?_⟩) ?_ ?_
  ·simp only[dP,<-H,N];cases dS P t with
   |none=>cases k<;>rfl
   |some l =>
    simp only[Pn];rw[<-S];cases Y:F.o q<;>rw[Y]at w<;>(try cases w);rename_i cs;simp only[ldB];have ao:kD k (D.box cs)=D.box cs:=by rw[<-Y,S,<-ae,S]
    refine LU _ _ _ λc hc=>?_;cases k with
    |none=>rfl
    |some r =>
     simp only[kD,D.kill,iJ,D.box.injEq]at ao |-;have:=map_eq_map_iff.1 (show cs.map (D.kill r)=cs.map id by rw[ao,map_id]) c hc;exact this
  ·simp only[bE,B,<-H,N,D.names];exact⟨G,aI⟩
  ·simp only[iZ];rw[<-H,N];simp only[Mh];rw[<-S];exact w
def ng(P:Program)(n np:Nat)(ops:Array Oper):List Nat->Env->(Env->Prop)->Prop
 | [],e,K=>K e
 |i::r,e,K=>match ops[i]? with
  |some o=>dK P n np ops.toList o e λq=>ng P n np ops r q K
  |none=>ng P n np ops r e K
theorem xg{ops:Array Oper}{i:Nat}{y:Oper}(B:ops[i]?=some y):∀(s q:List Nat)(e:Env)(K:Env->Prop),(∀j∈s,∀x,ops[j]?=some x->(ud ops.toList x=false/\ud ops.toList y=false/\As np ops.toList x y=true)\/(Hp ops.toList x y=true/\iF ops.toList y=false/\iF ops.toList x=false)\/Zg np ops.toList x y=true) ->
  ng P n np ops (s++i::q) e K->ng P n np ops (i::(s++q)) e K
 | [],_,_,_,_,h=>h
 |j::s,q,e,K,ha,h=>by
  simp only[cons_append,ng]at h |-;have E:=λC=>xg B s q C K (λk I=>ha k (mem_cons_of_mem _ I));simp only[B];cases A:ops[j]? with
  |none =>
   rw[A]at h;have:=E e h;simp only[ng,B]at this;simpa[A]using this
  |some x =>
   rw[A]at h;simp only at h |-
   have D:dK P n np ops.toList x e λG=>dK P n np ops.toList y G λC=>ng P n np ops (s++q) C K:=by
    refine CK h ?_;intro C H;have:=E C H;simpa only[ng,B]using this
   have w:∀{k:Nat} {z:Oper},ops[k]?=some z->z∈ops.toList:=by
    intro k z J;exact bM (i:=k) (by simpa using J)
   rcases ha j (by simp) x A with⟨F,a2,a3⟩| ⟨ha,hb,hc⟩|ha
   ·exact JT F a2 (w A) (w B) a3 D
   ·exact Mr ha hb hc D
   ·exact Mq (w A) (w B) ha D
theorem xh{ops:Array Oper}:∀(l:List Oper)(k:Nat)(e:Env)(K:Env->Prop),ops.toList.drop k=l->lE P n np ops.toList l e K->ng P n np ops (range' k l.length) e K
 | [],_,_,_,_,h=>h
 |o::l,k,e,K,hd,h=>by
  have A:ops[k]?=some o:=by
   have:(ops.toList.drop k)[0]?=some o:=by rw[hd];rfl
   rw[getElem?_drop]at this;simpa using this
  have q:ops.toList.drop (k+1)=l:=by
   rw[<-drop_drop,hd];rfl
  simp only[length_cons,range'_succ,ng,A];refine CK h ?_;intro s w;exact xh l (k+1) s K q w
end
end Go.Abs
namespace Go.Abs
open List

variable{d i:Nat}{K:Env->Prop}{e:Env}{g:Bool}{o:Oper}{ops:Array Oper}{a:Act}{next:Act->World->Prop}{Q:Exit->Act->World->Prop}{b:Array Bool}
section
variable{P:Program}{n np:Nat}{w0 w w':World}{l0:Nat->Option Nat}{G:Nat->Option (Nat×Nat)}{S0:Nat->Option Value}{lev lev' own own':Nat->Option Nat}{S S':Nat->Option Value}{env env':Env}{tm tm':Nat->Value}

def IM{dr:Bool}{f:Operand}{args:List Operand}(h:vo P true e d f args K):vo P dr e d f args K:=by
 obtain⟨fz,gs,bw,j,k,c,h⟩:=h;exact⟨fz,gs,bw,j,k,λ_=>c rfl,nN (λ_ l=>.inl l.drawn) h⟩
theorem Qt{ops:List Oper}(h:F7 P n np ops o e g K):iO P n false o e g K:=by
 obtain⟨_,h⟩:=h;unfold iO at h |-;split at h
 ·rename_i q;rw[aE q];exact⟨h.1,rfl,h.2.2⟩
 rename_i q;rw[az q];cases u:o.dst with
 |none=>cases l:o.op<;>simp only[fR,l,u]at h |-<;>exact h
 |some d =>
  cases l:o.op<;>simp only[fR,l,u]at h |-<;>(try exact h)
  case buildSlice t len parts=>exact⟨h.1,λp=>⟨(λh=>by cases h),(h.2.1 p).2⟩,h.2.2⟩
  case call c =>
   refine⟨h.1,?_⟩;have k:=h.2;cases j:c.callee with
   |invoke r m=>rw[j]at k;exact k
   |value f=>rw[j]at k;exact⟨λp=>(k.1 p).elim (λs=>.inl (IM s)) (λs=>(mE s.1.symm).elim),k.2⟩
   |builtin b =>
    rw[j]at k;cases b<;>simp only at k |-<;>first|exact k|exact⟨k.1,aI,k.2.2⟩

theorem DT:∀(l:List Oper)(j:Nat),rG l j=(l[j]?).bind (·.dst)
 | [],j=>by simp[rG]
 |o::r,0=>by simp[rG]
 |o::r,j+1=>by simp[rG,DT r j]

theorem EG(h:Inv w0 l0 G S0 w lev own S env (jk a.tmps))(c:nZ ops.toList env o.guard=some g):Region.wanted o (yielded ops a.tmps)=g:=by
 unfold nZ at c;unfold Region.wanted;cases m:o.guard with
 |none=>rw[m]at c;simpa using c.symm
 |some p =>
  obtain⟨j,r⟩:=p;rw[m]at c;simp only at c |-;rw[DT]at c;have x:ops.toList[j]?=ops[j]?:=by simp
  rw[x]at c;unfold yielded;cases u:(ops[j]?).bind (·.dst)with
  |none =>
   rw[u]at c;simp only[gy]at c;subst c;simp
  |some t =>
   rw[u]at c;simp only at c;simp only[Option.bind_some];have l:=h.pL a rfl (.tmp t);unfold EF at c;split at c
   ·rename_i b s;rw[s]at l;have q:=l.iY;have k:t<a.tmps.size:=by
     rcases cq t a.tmps.size with k|hge
     ·exact k
     ·simp[Act.eval,Array.getElem?_eq_none hge,Go.undef]at q
    have f:a.tmps[t]?=some (.bool b):=by
     simp[Act.eval,k]at q;simp[k,q]
    simp only[f];simp only[gy]at c;subst c;cases b<;>cases r<;>rfl
   ·rename_i s;rw[s]at l;obtain⟨vs,q,hs,_⟩:=l.wY;simp only[gy]at c;subst c;cases f:a.tmps[t]? with
    |none=>simp
    |some v =>
     have:v=.tuple vs:=by simpa[Act.eval,f]using q
     subst this;simp
   ·cases c

def Lh(h:Inv w0 l0 G S0 w lev own S env (jk a.tmps))(N:a.tmps.size=n)(m:a.defers=[]){t:TypeId}(y:o.op=.buildSlice t 0 #[])(J:o.dst=some d)(p:d<n)
  (c:Cont n w0 l0 G S0 K next) (l:CS env d K (bY P t)):o.wp P a w next Q:=by
 unfold CS at l;split at l<;>try exact l.elim
 rename_i z by_ ea I;obtain⟨C,F⟩:=l;obtain⟨e,inf,O,M,hin,B,hz,zv0,hzv0,hzz0⟩:=bK I;have H:=h.fresh C;have D:=h.setObj (w':=w.alloc (.cells #[] e)) (r:=nm d 0) (d:=.undef) (own':=own) (S':=S) (vm h _ none) (oU _ _ _ none) (λ_ _=>rfl) (λ_ h=>h) (.inl (oM d 0))
  (by
   intro b s _ _ _ B;have q:=h.priv b 0 B;have x:b≠w.heap.size:=by omega
   exact⟨heap_alloc_old w _ q,bN _ _ x,rfl⟩)
  (show S (nm d 0)=none from H)
 have L:bu env (nm d 0) .undef=env:=by
  cases env with
  |mk t o =>
   simp only[bu,Env.mk.injEq,true_and];funext j;by_cases E:j=nm d 0
   ·subst E;simp only[if_true];exact C.symm
   ·simp[E]
 rw[L]at D;have f:=D.put (s:=d) (v:=.slice (some ⟨w.heap.size,0,none⟩) 0 0) (d:=.emp) (.emp _);refine upon_value J (u:=.slice (some ⟨w.heap.size,0,none⟩) 0 0) ?_ (cK N m c p f F);simp only[execOp,y];refine gp ?_;have k:(newRow e #[]).run P w=.ok ⟨w.heap.size,0,none⟩ (w.alloc (.cells #[] e)):=by simp[newRow,newObj,Sem.run,Sem.bind,pure,bind]
 have A:(Array.range 0:Array Nat) = #[]:=rfl;simp[Instr.buildSlice,Sem.run_bind,aT O,aZ M,Instr.fill,A,k,Sem.run,pure]
theorem vn(m:ops[i]?=some o)(h:Inv w0 l0 G S0 w lev own S env (jk a.tmps))(l:a.tmps.size=n)(j:a.defers=[])
  (c:Cont n w0 l0 G S0 K next) (f:wpOp P n ops.toList o env K):Go.wpOp P ops Q i next a w:=by
 unfold wpOp at f;cases k:nZ ops.toList env o.guard with
 |none=>rw[k]at f;exact f.elim
 |some g =>
  rw[k]at f;unfold Go.wpOp;simp only[m,EG h k];cases g with
  |true=>exact .inl (LR h l j c f)
  |false =>
   simp only[Bool.false_eq_true,if_false];exact N5 h l j c f

theorem Ip(v:ops[i]?=some o)(h:Inv w0 l0 G S0 w lev own S env (jk a.tmps))(u:a.tmps.size=n)(m:a.defers=[])
  (j:Cont n w0 l0 G S0 K next) (f:dK P n np ops.toList o env K):Go.wpOp P ops Q i next a w:=by
 unfold dK at f;cases r:nZ ops.toList env o.guard with
 |none=>rw[r]at f;exact f.elim
 |some g =>
  rw[r]at f;simp only at f;by_cases l:iF ops.toList o=true
  ·rw[aE l]at f;obtain⟨s,l|l⟩:=KH l
   ·obtain⟨t,len,ps,d,k,q,rfl,rfl⟩:=l;have p:=r;rw[s]at p;simp only[nZ,gy]at p;subst p;unfold Go.wpOp;simp only[v,EG h r];unfold lU at f;rw[k,q]at f;exact .inl (Lh h u m k q f.1 j f.2)
   ·refine vn v h u m j (K:=K) ?_;unfold wpOp;rw[s];simp only[nZ];refine Ge l ?_;unfold lU at f;unfold lX;have y:∃c,o.op=.call c:=by
     unfold isApp at l;split at l
     ·rename_i c k;exact⟨c,k⟩
     ·cases l
    obtain⟨c,k⟩:=y;rw[k]at f |-;cases q:o.dst with
    |none=>rw[q]at f;exact f.elim
    |some d =>
     rw[q]at f;refine⟨f.1,rfl,?_⟩;have f:=f.2;split at f
     ·rename_i hx hy;exact S7 f.2
     ·exact f.elim
  ·rw[az l]at f;refine vn v h u m j (K:=K) ?_;unfold wpOp;rw[r];simp only;split at f
   ·split at f
    ·rename_i x;split at f
     ·exact f
     ·exact Ge x f.1
    ·split at f
     ·exact Ok f
     ·exact f
   ·exact Qt f.1
theorem xj{ops:Array Oper}{Q:Exit->Act->World->Prop}{K:Env->Prop}(c:Cont n w0 l0 G S0 K (Q .normal)):∀(l:List Oper)(k:Nat),ops.toList.drop k=l->∀(env:Env) lev own S w (a:Act),Inv w0 l0 G S0 w lev own S env (jk a.tmps)->a.tmps.size=n->a.defers=[] ->
  wpList P n ops.toList l env K->wpOps P ops Q (range' k l.length) a w
 | [],k,_,env,lev,own,S,w,a,h,hn,hdf,hk=>c _ _ _ _ _ a hn hdf h hk
 |o::l,k,hd,env,lev,own,S,w,a,h,hn,hdf,hk=>by
  have t:ops[k]?=some o:=by
   have:(ops.toList.drop k)[0]?=some o:=by rw[hd];rfl
   rw[getElem?_drop]at this;simpa using this
  have j:ops.toList.drop (k+1)=l:=by rw[<-drop_drop,hd];rfl
  simp only[length_cons,range'_succ];rw[wpOps_cons];refine vn t h hn hdf ?_ hk;intro q lev' own' S' w' p m f s r;exact xj c l (k+1) j q lev' own' S' w' p s m f r

def B7(h:i∈Region.ready .any ops b):i<ops.size/\b.getD i true=false/\∀y,ops[i]?=some y->∀e∈y.after.toList,Region.binds .any e=true->b.getD e.on false=true:=by
 unfold Region.ready at h;simp only[mem_filter,mem_range,Bool.and_eq_true,jY]at h;refine⟨h.1,h.2.1,?_⟩;intro y k e j f;have:=h.2.2;rw[k]at this;simp only[Option.map_some,Option.getD_some,Array.all_eq_true_iff_forall_mem,Bool.or_eq_true,jY]at this;rcases this e (by simpa using j)with c|c
 ·rw[f]at c;cases c
 ·exact c

theorem Pb(M:uC np ops=true)(C:Cont n w0 l0 G S0 K (Q .normal)):∀(q:Nat)(c:Array Bool)(env:Env) lev own S w (a:Act),
  c.size=ops.size->(∀k y,ops[k]?=some y->c.getD k false=true->∀e∈y.after.toList,Region.binds .any e=true->c.getD e.on false=true)->((range ops.size).filter (λi=>!c.getD i true)).length<=q->Inv w0 l0 G S0 w lev own S env (jk a.tmps)->a.tmps.size=n->a.defers=[] ->
  ng P n np ops ((range ops.size).filter (λi=>!c.getD i true)) env K->wpAny P .any ops Q q c a w:=by
 have T:∀(i:Nat) y,ops[i]?=some y->∀e∈y.after.toList,Region.binds .any e=true->e.on<i:=by
  intro i y p e u t;have A:=(Array.getElem?_eq_some_iff.1 p).1;simp only[uC,cR,mem_range]at M;have:=M i A;rw[p]at this;simp only[Bool.and_eq_true,Array.all_eq_true_iff_forall_mem,Bool.or_eq_true,jY,bP]at this;rcases this.1 e (by simpa using u)with l|l
  ·rw[t]at l;cases l
  ·exact l
 have J:∀(i:Nat) y,ops[i]?=some y->∀j,j<i->∀x,ops[j]?=some x->((∃e∈y.after.toList,Region.binds .any e=true/\e.on=j)\/xX ops 12 i j=true)\/((ud ops.toList x=false/\ud ops.toList y=false/\As np ops.toList x y=true)\/(Hp ops.toList x y=true/\iF ops.toList y=false/\iF ops.toList x=false)\/Zg np ops.toList x y=true):=by
  intro i y p j r x hx;have A:=(Array.getElem?_eq_some_iff.1 p).1;simp only[uC,cR,mem_range]at M;have:=M i A;rw[p]at this;simp only[Bool.and_eq_true,cR,mem_range]at this;have:=this.2 j r;rw[hx]at this;simp only[Bool.or_eq_true,Array.any_eq_true',Bool.and_eq_true,gm,jY]at this;rcases this with⟨e,u,t,D⟩| (((⟨⟨l,I⟩,R⟩| ⟨⟨l,I⟩,R⟩)|l)|l)
  ·exact .inl (.inl ⟨e,by simpa using u,t,D⟩)
  ·exact .inr (.inl ⟨l,I,R⟩)
  ·exact .inr (.inr (.inl ⟨l,I,R⟩))
  ·exact .inr (.inr (.inr l))
  ·exact .inl (.inr l)
 -- what is behind what is c is c
 have N:∀(c:Array Bool),(∀k y,ops[k]?=some y->c.getD k false=true->∀e∈y.after.toList,Region.binds .any e=true->c.getD e.on false=true)->∀(k i j:Nat),xX ops k i j=true ->
   (∀y,ops[i]?=some y->∀e∈y.after.toList,Region.binds .any e=true->c.getD e.on false=true)->c.getD j false=true:=by
  intro c v k;induction k with
  |zero=>intro i j h;simp[xX]at h
  |succ k ih =>
   intro i j h O;unfold xX at h;cases p:ops[i]? with
   |none=>rw[p]at h;cases h
   |some y =>
    rw[p]at h;simp only[Array.any_eq_true',Bool.and_eq_true,Bool.or_eq_true,gm]at h;obtain⟨e,u,t,h⟩:=h;have W:=O y p e (by simpa using u) t;rcases h with rfl|h
    ·exact W
    ·exact ih e.on j h (λy' am=>v e.on y' am W)
 -- nothing is ready only if nothing is left
 have af:∀c:Array Bool,c.size=ops.size->Region.ready .any ops c=[]->(range ops.size).filter (λi=>!c.getD i true)=[]:=by
  intro c s hr;rw[filter_eq_nil_iff];intro i;induction i using Nat.strongRecOn with
  | _ i ih =>
   intro O hu;have A:=mem_range.1 O;have:i∈Region.ready .any ops c:=by
    unfold Region.ready;rw[mem_filter];refine⟨O,?_⟩;simp only[Bool.and_eq_true];refine⟨hu,?_⟩;have p:ops[i]?=some ops[i]:=by simp[A]
    rw[p];simp only[Option.map_some,Option.getD_some,Array.all_eq_true_iff_forall_mem,Bool.or_eq_true,jY];intro e u;cases t:Region.binds .any e with
    |false=>exact .inl rfl
    |true =>
     right;have D:=T i _ p e (by simpa using u) t;have l:=ih e.on D (mem_range.2 (by omega));have I:c.getD e.on true=true:=by
      cases hx:c.getD e.on true with
      |true=>rfl
      |false=>exact(l (by rw[hx];rfl)).elim
     have ag:e.on<c.size:=by omega
     simpa[Array.getD_eq_getD_getElem?,ag]using I
   rw[hr]at this;cases this
 intro q;induction q with
 |zero =>
  intro c env lev own S w a s v z h hn L H;have hR:(range ops.size).filter (λi=>!c.getD i true)=[]:=length_eq_zero_iff.1 (by omega);rw[hR]at H;refine⟨?_,C _ _ _ _ _ a hn L h H⟩;rw[eq_nil_iff_forall_not_mem];intro i O;obtain⟨l,I,_⟩:=B7 O;have:i∈(range ops.size).filter (λi=>!c.getD i true):=mem_filter.2 ⟨mem_range.2 l,by rw[I];rfl⟩;rw[hR]at this;cases this
 |succ q ih =>
  intro c env lev own S w a s v z h hn L H;refine⟨?_,?_⟩
  ·intro hr;rw[af c s hr]at H;exact C _ _ _ _ _ a hn L h H
  ·intro i O;obtain⟨l,I,R⟩:=B7 O;have ai:i∈(range ops.size).filter (λi=>!c.getD i true):=mem_filter.2 ⟨mem_range.2 l,by rw[I];rfl⟩;obtain⟨Z,F,Y⟩:=append_of_mem ai;have p:ops[i]?=some ops[i]:=by simp[l]
   have f:((range ops.size).filter (λi=>!c.getD i true)).Pairwise (· < ·):=Pairwise.filter _ pairwise_lt_range;rw[Y]at f H z;have E:∀j∈Z,j<i:=by
    intro j r;have:=pairwise_append.1 f;exact this.2.2 j r i (by simp)
   have X:∀j∈F,i<j:=by
    intro j r;have:=(pairwise_append.1 f).2.1;exact(oC.1 this).1 j r
   have ac:=xg (P:=P) (n:=n) (np:=np) p Z F env K (by
    intro j r x hx;rcases J i _ p j (E j r) x hx with h5|h4
    ·have W:c.getD j false=true:=by
      rcases h5 with⟨e,u,t,D⟩|h5
      ·rw[<-D];exact R _ p e u t
      ·exact N c v 12 i j h5 R
     have aj:j∈(range ops.size).filter (λi=>!c.getD i true):=by rw[Y];exact mem_append_left _ r
     have U:=(mem_filter.1 aj).2;have ak:j<c.size:=by have:=E j r;omega
     simp[Array.getD_eq_getD_getElem?,ak]at W U;rw[W]at U;cases U
    ·exact h4) H
   simp only[ng,p]at ac;have aa:(range ops.size).filter (λk=>!(c.setIfInBounds i true).getD k true)=Z++F:=by
    have hf:∀k,(!(c.setIfInBounds i true).getD k true)=((!c.getD k true)&&decide (k≠i)):=by
     intro k;simp only[Array.getD_eq_getD_getElem?,Array.getElem?_setIfInBounds];by_cases V:i=k
     ·subst V;simp[s,l]
     ·simp[V,Ne.symm V]
    have:(range ops.size).filter (λk=>!(c.setIfInBounds i true).getD k true)=((range ops.size).filter (λk=>!c.getD k true)).filter (λk=>decide (k≠i)):=by
     rw[filter_filter];refine filter_congr ?_;intro k _;rw[hf k,Bool.and_comm]
    rw[this,Y,rR,filter_cons];simp only[ne_eq,not_true_eq_false,decide_false,Bool.false_eq_true,if_false];rw[filter_eq_self.2 (λj r=>by have:=E j r;simp;omega),filter_eq_self.2 (λj r=>by have:=X j r;simp;omega)]
   refine Ip p h hn L ?_ ac;intro e' lev' own' S' w' a' al ab ah hK;refine ih _ e' lev' own' S' w' a' (by simpa using s) ?_ ?_ ah al ab (by rw[aa];exact hK)
   ·intro k y H W e u t;have B:∀m,c.getD m false=true->(c.setIfInBounds i true).getD m false=true:=by
     intro m hm;simp only[Array.getD_eq_getD_getElem?,Array.getElem?_setIfInBounds]at hm |-
     by_cases ae:i=m
     ·subst ae;simp[s,l]
     ·simpa[ae]using hm
    by_cases ad:i=k
    ·subst ad;exact B _ (R y H e u t)
    ·refine B _ (v k y H ?_ e u t);simpa[Array.getD_eq_getD_getElem?,Array.getElem?_setIfInBounds,ad]using W
   rw[aa];simp at z |-;omega
end
end Go.Abs
namespace Go.Abs
open List

def JW(t:Bool)(a b:Prop):Prop:=(t=true->a)/\(t=false->b)
def qw(K:Env->Prop)(Q:Exit->Env->Prop):Exit->Env->Prop
 | .normal,e=>K e
 |x,e=>Q x e
def mU(id:Nat)(Q:Exit->Env->Prop):Exit->Env->Prop
 | .exit id',e=>if id'=id then Q .normal e else Q (.exit id') e
 |x,e=>Q x e
abbrev EL:=List (Nat×D)
def af{T:Type}(ts os:T->EL)(I:T->Prop)(m:T->Nat)(s:T)(e:Env):Prop:=∃a,I a/\DG e (ts a) (os a)/\m a<m s
def jL{T:Type}(ts os:T->EL)(I:T->Prop)(m:T->Nat)(s:T)(Q:Exit->Env->Prop):Exit->Env->Prop
 | .normal,e=>af ts os I m s e
 |x,e=>Q x e
def aF(a:(Exit->Env->Prop)->Env->Prop)(Q:Exit->Env->Prop)(e:Env):Prop:=
 ∃(T:Type)(ts os:T->EL)(I:T->Prop)(m:T->Nat)(s0:T),I s0/\DG e (ts s0) (os s0)/\∀s,I s->a (jL ts os I m s Q) (qz (ts s) (os s))
def dM(K:Env->Prop)(e:Env):Prop:=K e\/∃ts os,DG e ts os/\K (qz ts os)
def Rp(np:Nat)(ops:Array Oper):Prop:=uC np ops=true
def falls:Code->Bool
 | .seq a b=>falls a&&falls b
 | .cond _ a b=>falls a||falls b
 | .exit _=>false
 | .ret=>false
 | _=>true
def Ff:Code->Bool
 | .cond _ a b=>falls a&&falls b
 | .block _ (.cond _ a b)=>falls a&&falls b
 | .block _ (.loop _)=>true
 | _=>false

def jU(P:Program)(n np:Nat):Code->(Exit->Env->Prop)->Env->Prop
 | .skip,Q,e=>Q .normal e
 | .region _ ops draw,Q,e=>if draw then Rp np ops/\lE P n np ops.toList ops.toList e (Q .normal)else wpList P n ops.toList ops.toList e (Q .normal)
 | .seq a b,Q,e=>jU P n np a (qw (if Ff a then dM (jU P n np b Q)else jU P n np b Q) Q) e
 | .cond c a b,Q,e=>match rd e c with
  | .bool t=>JW t (jU P n np a Q e) (jU P n np b Q e)
  | _=>False
 | .block id a,Q,e=>jU P n np a (mU id Q) e
 | .loop a,Q,e=>aF (jU P n np a) Q e
 | .exit id,Q,e=>Q (.exit id) e
 | .ret,Q,e=>Q .ret e
 | .rangeFunc _ _ _ _,_,_=>False
 | .scope _,_,_=>False
 | .label _,_,_=>False
 | .goto _,_,_=>False
 | .refuse _,_,_=>False

variable{c:Code}{d:D}{rs:List ResultVar}{hs' hs ds:List D}{Φ:List D->D->Prop}{fn:Func}{f:FuncId}{g:Exit->Env->Prop}
section
variable{P:Program}{n np:Nat}{w0 w w':World}{l0:Nat->Option Nat}{G:Nat->Option (Nat×Nat)}{S0:Nat->Option Value}{lev lev' own own':Nat->Option Nat}{S S':Nat->Option Value}{env env':Env}{tm tm':Nat->Value}

def Ms{Q:Exit->Act->World->Prop}{a:Act}{w:World}{S:Type}(I:S->Act->World->Prop)(m:S->Nat)(s0:S)(D:I s0 a w)
  (o:∀s a w,I s a w->c.wp P (Exit.then (λp w'=>∃t,I t p w'/\m t<m s) Q) a w):(Code.loop c).wp P Q a w:=by
 intro b k cs;have key:∀n s a w,m s=n->I s a w ->
   ∃e p w',Q e p w'/\Arrives P (lone (b.at a (.code c::.inLoop c::k)) cs w) b k cs e p w':=by
  intro n;induction n using Nat.strongRecOn with
  | _ n ih =>
   intro s a w C B;obtain⟨e,q,r,i,h⟩:=o s a w B b (.inLoop c::k) cs;cases e with
   |normal =>
    obtain⟨t,u,v⟩:=i;obtain⟨A,z,E,y,j⟩:=ih (m t) (C ▸ v) t q r rfl u;exact⟨A,z,E,y,.of_steps (Steps.trans h (.one step_inLoop)) j⟩
   |exit id=>exact⟨_,q,r,i,.pass (x:=.inLoop c) rfl (λ_ _=>.inl (by simp)) h⟩
   |goto l=>exact⟨_,q,r,i,.pass (x:=.inLoop c) rfl (λ_ _=>.inl (by simp)) h⟩
   |ret=>exact⟨_,q,r,i,.pass (x:=.inLoop c) rfl (λ_ _=>.inl (by simp)) h⟩
   |panic ch=>exact⟨_,q,r,i,.pass (x:=.inLoop c) rfl (λ_ _=>.inl (by simp)) h⟩
   |outgrown=>exact⟨_,q,r,i,.pass (x:=.inLoop c) rfl (λ_ _=>.inl (by simp)) h⟩
 obtain⟨e,p,w',i,h⟩:=key _ s0 a w rfl D;exact⟨e,p,w',i,.of_steps (.one step_loop) h⟩

theorem Mp(hm:P.follows .mixedOrders=true):∀(c:Code)(u:Exit->Env->Prop)(Q:Exit->Act->World->Prop)(env:Env) lev own S w (a:Act),Inv w0 l0 G S0 w lev own S env (jk a.tmps)->a.tmps.size=n->a.defers=[] ->
  (∀x,Cont n w0 l0 G S0 (u x) (Q x))->jU P n np c u env->c.wp P Q a w:=by
 intro c;induction c with
 |skip=>intro u Q env lev own S w a h p o j b;exact wp_skip (j .normal _ _ _ _ _ a p o h b)
 |region id ops J =>
  intro u Q env lev own S w a h p o j b;unfold jU at b;cases J with
  |false =>
   simp only[Bool.false_eq_true,if_false]at b;refine wp_region ?_;have:=xj (P:=P) (ops:=ops) (Q:=Q) (j .normal) ops.toList 0 rfl env lev own S w a h p o b;rw[<-range_eq_range']at this;simpa using this
  |true =>
   simp only[if_true]at b;refine wp_region_any hm ?_;have W:(range ops.size).filter (λi=>!(Array.replicate ops.size false).getD i true)=range ops.size:=by
    rw[filter_eq_self];intro i C;have:=mem_range.1 C;simp[Array.getD_eq_getD_getElem?,Array.getElem?_replicate,this]
   refine Pb (np:=np) b.1 (j .normal) ops.size _ env lev own S _ a (by simp) (by intro k y _ O;simp[Array.getD_eq_getD_getElem?,Array.getElem?_replicate]at O;split at O<;>simp at O) (by rw[W];simp) h.drew p o ?_;rw[W];have:=xh ops.toList 0 env (u .normal) rfl b.2;rw[<-range_eq_range']at this;simpa using this
 |seq x y ihx ihy =>
  intro u Q env lev own S w a h p o j b;refine wp_seq (ihx _ _ env lev own S w a h p o ?_ b);intro e;cases e<;>try exact j _
  intro H lev' own' S' w' E r q C v;simp only[qw]at v;split at v
  ·rcases v with v| ⟨ts,os,z,v⟩
   ·exact ihy _ _ H lev' own' S' w' E C r q j v
   ·obtain⟨rh,z⟩:=z.le;obtain⟨B,M,hi2⟩:=C.le z;exact ihy _ _ _ lev' B M w' E hi2 r q j v
  ·exact ihy _ _ H lev' own' S' w' E C r q j v
 |cond c x y ihx ihy =>
  intro u Q env lev own S w a h p o j b;unfold jU at b;have K:=h.pL a rfl c;cases hx:rd env c<;>rw[hx]at b K<;>try exact b.elim
  rename_i t;refine wp_cond_split K.iY ?_ ?_
  ·intro U;exact ihx _ _ env lev own S w a h p o j (b.1 U)
  ·intro U;exact ihy _ _ env lev own S w a h p o j (b.2 U)
 |block id x ih =>
  intro u Q env lev own S w a h p o j b;refine wp_block (ih _ _ env lev own S w a h p o ?_ b);intro e;cases e<;>try exact j _
  rename_i V;intro H lev' own' S' w' E r q C v;simp only[Exit.inBlock,mU]at v |-;split
  ·rename_i F;rw[aE F]at v;exact j .normal H lev' own' S' w' E r q C v
  ·rename_i F;rw[az F]at v;exact j (.exit V) H lev' own' S' w' E r q C v
 |loop x ih =>
  intro u Q env lev own S w a h p o j b;obtain⟨T,ts,os,I,m,s0,hI,z,D⟩:=b;obtain⟨rh,z⟩:=z.le;obtain⟨L,X,Y⟩:=h.le z;refine Ms (λs a w=>I s/\a.tmps.size=n/\a.defers=[]/\∃lev own S,Inv w0 l0 G S0 w lev own S (qz (ts s) (os s)) (jk a.tmps)) m s0 ⟨hI,p,o,lev,L,X,Y⟩ ?_;rintro s a w ⟨hs,p,o,lev,own,S,C⟩;refine ih _ _ _ lev own S w a C p o ?_ (D s hs);intro e;cases e<;>try exact j _
  intro H lev' own' S' w' E r q N v;obtain⟨s',hs',A,R⟩:=v;obtain⟨rh',A⟩:=A.le;obtain⟨B,M,Z⟩:=N.le A;exact⟨s',⟨hs',r,q,lev',B,M,Z⟩,R⟩
 |exit id=>intro u Q env lev own S w a h p o j b;exact wp_exit (j (.exit id) _ _ _ _ _ a p o h b)
 |ret=>intro u Q env lev own S w a h p o j b;exact wp_ret (j .ret _ _ _ _ _ a p o h b)
 |rangeFunc f ps x y ih1 ih2=>intro u Q env lev own S w a h p o j b;exact b.elim
 |scope x ih=>intro u Q env lev own S w a h p o j b;exact b.elim
 |label l=>intro u Q env lev own S w a h p o j b;exact b.elim
 |goto l=>intro u Q env lev own S w a h p o j b;exact b.elim
 |refuse s=>intro u Q env lev own S w a h p o j b;exact b.elim

def KP:Nat->List D->EL
 | _,[]=>[]
 |k,d::ds=>(k,d)::KP (k+1) ds
def tj:Nat->List D->EL
 | _,[]=>[]
 |k,d::ds=>if cV d then tj (k+1) ds else(k,d)::tj (k+1) ds
theorem Ij:∀(ds:List D)(k i:Nat),look (KP k ds) i=if k<=i then ds.getD (i-k) .undef else .undef
 | [],k,i=>by simp[KP,look]
 |d::ds,k,i=>by
  simp only[KP,look];rw[Ij ds (k+1) i];by_cases h:i=k
  ·subst h;simp
  ·by_cases a:k<=i
   ·have b:i-k=(i-(k+1))+1:=by omega
    rw[az h,aE (by omega),aE a,b];simp
   ·rw[az h,az (by omega),az a]
theorem sH:∀(ds:List D)(k i:Nat),look (tj k ds) i=if k<=i then ds.getD (i-k) .undef else .undef
 | [],k,i=>by simp[tj,look]
 |d::ds,k,i=>by
  simp only[tj];have j:=sH ds (k+1) i;by_cases e:cV d=true
  ·rw[aE e,j];have:=sx.1 e;subst this;by_cases h:i=k
   ·subst h;rw[az (by omega)];simp
   ·by_cases a:k<=i
    ·have b:i-k=(i-(k+1))+1:=by omega
     rw[aE (by omega),aE a,b];simp
    ·rw[az (by omega),az a]
  ·rw[az e];simp only[look];rw[j];by_cases h:i=k
   ·subst h;simp
   ·by_cases a:k<=i
    ·have b:i-k=(i-(k+1))+1:=by omega
     rw[az h,aE (by omega),aE a,b];simp
    ·rw[az h,az (by omega),az a]

def Cj(P:Program)(e:Env):ResultVar->D
 | .tmp t=>e.t t
 | .cell a t=>match dS P t with
  |some l=>Pn e l (e.t a)
  |none=>.undef
def Ci(P:Program)(e:Env):ResultVar->Prop
 | .tmp _=>True
 | .cell a t=>match dS P t with
  |some l=>Fj e l (e.t a)
  |none=>False
def Dy(P:Program)(e:Env)(rs:List ResultVar):D:=
 match rs with
 | [r]=>Cj P e r
 |rs=>.bH (rs.map (Cj P e))
def uX(P:Program)(e:Env):List ResultVar->Prop
 | []=>True
 |r::rs=>Ci P e r/\uX P e rs
def uY(v:D)(e:Env):Env:=⟨λj=>if j=0 then v else .undef,e.o⟩
def IA(P:Program)(rs:List ResultVar)(m:Nat)(hs':List D)(d:D)(e:Env):Prop:=uX P e rs/\Norm (Dy P e rs) λv=>MI m (uY v e) [(0,d)] (tj 0 hs')
def Js(P:Program)(rs:List ResultVar)(m:Nat)(hs':List D)(d:D):Exit->Env->Prop
 | .normal,e=>IA P rs m hs' d e
 | .ret,e=>IA P rs m hs' d e
 | _,_=>False

theorem QN{tmps:Array Value}(h:Inv w0 l0 G S0 w lev own S env (jk tmps))(r:ResultVar)(hr:Ci P env r) :
  ∃v,(match r with| .tmp t=>pure (tmps.getD t Go.undef)| .cell a t=>do loadVar t (<-asAddr (tmps.getD a Go.undef)):Sem Value).run P w=.ok v w/\aD (cx w lev S) v (Cj P env r):=by
 cases r with
 |tmp t=>exact⟨tmps.getD t Go.undef,rfl,h.lV t⟩
 |cell a t =>
  simp only[Ci]at hr;cases m:dS P t with
  |none=>rw[m]at hr;exact hr.elim
  |some l =>
   rw[m]at hr;simp only at hr;obtain⟨u,b,p⟩:=NF (P:=P) h m (h.lV a) hr;have j:∃i,jk tmps a=.pointer (some i):=by
    have k:=h.lV a;generalize jk tmps a=v at k;cases q:env.t a<;>rw[q]at hr k<;>simp only[Fj]at hr
    ·obtain⟨i,e,_⟩:=k.l8;exact⟨i,e⟩
    ·obtain⟨i,_,e⟩:=k.iu;exact⟨_,e⟩
    ·obtain⟨i,_,_,_,e⟩:=k.gD;exact⟨_,e⟩
   obtain⟨i,e⟩:=j;refine⟨u,?_,by simp only[Cj,m];exact p⟩;have o:tmps.getD a Go.undef=.pointer (some i):=e;rw[e]at b;simp only[o];simpa[Instr.loadAt,Sem.run_bind,asAddr,Instr.sureAddr,Sem.run,pure]using b

def IB(P:Program)(rs:List ResultVar)(m:Nat)(Φ:List D->D->Prop)(e:Env):Prop:=∃hs' d,Φ hs' d/\IA P rs m hs' d e
def aa6(P:Program)(rs:List ResultVar)(m:Nat)(Φ:List D->D->Prop):Exit->Env->Prop
 | .normal,e=>IB P rs m Φ e
 | .ret,e=>IB P rs m Φ e
 | _,_=>False
theorem L1{m:Nat}:∀(x:Exit)(e:Env),Js P rs m hs' d x e->aa6 P rs m (λa b=>a=hs'/\b=d) x e
 | .normal,_,h=>⟨hs',d,⟨rfl,rfl⟩,h⟩
 | .ret,_,h=>⟨hs',d,⟨rfl,rfl⟩,h⟩
 | .exit _,_,h=>h
 | .goto _,_,h=>h
 | .panic _,_,h=>h
 | .outgrown,_,h=>h
theorem vq.of_wp (hm : P.follows .mixedOrders = true) (hf : P.funcs[f]? = some fn) (hb : fn.body = some c) (hname : (fn.name == "runtime.NumGoroutine") = false) (hQ : ∀ x e, g x e -> aa6 P fn.results.toList hs.length Φ x e)
  (hlen:ds.length<=fn.ntmps) (h16:hs.length<=16) (hw:jU P fn.ntmps ds.length c g (qz (KP 0 ds) (tj 0 hs))):vq P f hs ds Φ:=by
 refine⟨⟨fn,hf,by rw[hb];rfl,hname⟩,?_⟩;intro w l0 G0 own0 S0 vs hT hl0 hG hsz hr hobj
 let tmps:=vs++Array.replicate (fn.ntmps-vs.size) Go.undef
 have htm:∀i,jk tmps i=vs.getD i Go.undef:=by
  intro i;simp only[jk,tmps,Array.getD_eq_getD_getElem?,Array.getElem?_append];by_cases h:i<vs.size
  ·simp[h]
  ·simp[h,Array.getElem?_replicate];split<;>rfl
 have hinv:Inv w l0 G0 S0 w l0 own0 S0 (qz (KP 0 ds) (tj 0 hs)) (jk tmps):=by
  refine⟨⟨rfl,hT⟩,rfl,rfl,cX _,λ_ _ _=>rfl,hG,hl0,λ_ _ _=>rfl,λ_ _ _=>rfl,?_,?_⟩
  ·intro s;show aD _ _ (look (KP 0 ds) s);rw[Ij,htm];simp only[Nat.zero_le,if_true,Nat.sub_zero];by_cases h:s<ds.length
   ·have e:ds.getD s .undef=ds[s]:=by simp[getD,h]
    have e2:vs.getD s Go.undef=vs[s]:=by simp[Array.getD,show s<vs.size by omega]
    rw[e,e2];exact hr s _ _ (by simp[show s<vs.size by omega]) (ec h)
   ·have e:ds.getD s .undef=.undef:=by simp[getD,h]
    rw[e];exact .undef _
  ·intro r;show gM _ _ _ _ _ _ r (look (tj 0 hs) r);rw[sH];simp only[Nat.zero_le,if_true,Nat.sub_zero];exact hobj r
 have htmn:tmps.size=fn.ntmps:=by simp[tmps];omega
 refine calls_of_wp hf hb ?_;refine Mp hm c g _ _ l0 own0 S0 w ⟨tmps,[]⟩ hinv htmn rfl ?_ hw;have fin:∀(e':Env) lev' own' S' w' (a':Act),a'.tmps.size=fn.ntmps->a'.defers=[]->Inv w l0 G0 S0 w' lev' own' S' e' (jk a'.tmps)->IB P fn.results.toList hs.length Φ e' ->
   a'.defers=[]/\∃v,(results fn a'.tmps).run P w'=.ok v w'/\∃v' hs' d,Φ hs' d/\Ending.returned v=.returned v'/\Out hs.length hs' w l0 G0 S0 w' v' d:=by
  intro e' lev' own' S' w' a' hn' hd' hi ⟨hs',d,hΦ,hok,hle⟩;refine⟨hd',?_⟩;have hres:∀(rs:List ResultVar),uX P e' rs->∀acc:Array Value,∃us:List Value,
    (rs.foldlM (λ(acc:Array Value) r=>do pure (acc.push (<-(match r with| .tmp t=>pure (a'.tmps.getD t Go.undef)| .cell a t=>do loadVar t (<-asAddr (a'.tmps.getD a Go.undef)):Sem Value)))) acc:Sem (Array Value)).run P w'=.ok (acc++us.toArray) w' /\
    us.length=rs.length/\∀(i:Nat) u r,us[i]?=some u->rs[i]?=some r->aD (cx w' lev' S') u (Cj P e' r):=by
   intro rs;induction rs with
   |nil=>intro _ acc;exact⟨[],by simp[Sem.run,pure],rfl,by intro i u r h;simp at h⟩
   |cons r rs ih =>
    intro hok acc;obtain⟨v,hv,hrep⟩:=QN hi r hok.1;obtain⟨us,h1,h2,h3⟩:=ih hok.2 (acc.push v);refine⟨v::us,?_,by simp[h2],?_⟩
    ·rw[foldlM_cons];simp only[Sem.run_bind,hv,Result.andThen_ok];have:(pure (acc.push v):Sem (Array Value)).run P w'=.ok (acc.push v) w':=rfl;rw[this];simp only[Result.andThen_ok];rw[h1];simp
    ·intro i u r' hu hr';cases i with
     |zero=>simp at hu hr';subst hu;subst hr';exact hrep
     |succ i=>simp at hu hr';exact h3 i u r' hu hr'
  obtain⟨us,hrun,hul,hrep⟩:=hres fn.results.toList hok #[];have hrun':(results fn a'.tmps).run P w'=.ok (if h:us.toArray.size=1 then us.toArray[0]else .tuple us.toArray) w':=by
   unfold results;rw[Array.mapM_eq_foldlM];rw[<-Array.foldlM_toList];simp only[Sem.run_bind];have:(fn.results.toList.foldlM (λ(acc:Array Value) r=>do pure (acc.push (<-(match r with| .tmp t=>pure (a'.tmps.getD t Go.undef)| .cell a t=>do loadVar t (<-asAddr (a'.tmps.getD a Go.undef)):Sem Value)))) #[]:Sem (Array Value)).run P w'=.ok (#[]++us.toArray) w':=hrun;simp only[Array.empty_append]at this;have h2:=this;simp only[bind_pure_comp]at h2 |-;exact congrArg (λr=>Result.andThen r λ(a:Array Value) w'=>Sem.run P (pure (if h:a.size=1 then a[0]else Value.tuple a)) w') h2
  refine⟨_,hrun',_,hs',d,hΦ,rfl,?_⟩;have hrd:aD (cx w' lev' S') (if h:us.toArray.size=1 then us.toArray[0]else .tuple us.toArray) (Dy P e' fn.results.toList):=by
   rcases Classical.em (∃r,fn.results.toList=[r])with⟨r,hrs⟩|hne
   ·rw[hrs]at hul hrep |-;obtain⟨u,rfl⟩:=length_eq_one_iff.1 hul;simpa[Dy]using hrep 0 u r rfl rfl
   ·have hrd:Dy P e' fn.results.toList=.bH (fn.results.toList.map (Cj P e')):=by
     unfold Dy;split
     ·rename_i r hrs;exact(hne ⟨r,hrs⟩).elim
     ·rfl
    rw[hrd];have hsz:us.toArray.size≠1:=by
     intro h;have h1:fn.results.toList.length=1:=by rw[<-hul];simpa using h
     match hx:fn.results.toList,h1 with
     | [r],_=>exact hne ⟨r,hx⟩
    rw[dif_neg hsz];refine .bH _ _ (by simp[hul]) ?_;intro i v x hv hx;simp only[getElem?_map]at hx;cases hri:fn.results.toList[i]? with
    |none=>rw[hri]at hx;cases hx
    |some r =>
     rw[hri]at hx;cases hx;exact hrep i v r (by simpa using hv) hri
  generalize (if h:us.toArray.size=1 then us.toArray[0]else .tuple us.toArray)=rv at hrd;have hret:Inv w l0 G0 S0 w' lev' own' S' (uY (Dy P e' fn.results.toList) e') (λj=>if j=0 then rv else Go.undef):=by
   refine⟨hi.os,hi.tape,hi.output,hi.size,hi.old,hi.part,hi.priv,hi.gV,hi.It,?_,hi.objs⟩;intro s;simp only[uY];split
   ·exact hrd
   ·exact .undef _
  obtain⟨rh,hle'⟩:=MI.le hle;obtain⟨own2,S2,h2ent,h2temps,h2objs⟩:=hret.aai h16 hle';refine⟨hi.os.1,hi.tape,hi.output,hi.size,λb hb hg=>hi.old b hb hg,hi.part,lev',own2,S2,hi.priv,λb hb hg=>hi.gV b hb hg,?_,?_,?_⟩
  ·have:=h2temps 0;simpa[qz,look]using this
  ·intro r;have:=h2objs r;have e:(qz [(0,d)] (tj 0 hs')).o r=hs'.getD r .undef:=by
    show look (tj 0 hs') r=_;rw[sH];simp
   rw[e]at this;exact this
  ·intro i hi' hne;refine h2ent i (by omega) ?_;show look (tj 0 hs') i≠.undef;rw[sH];simpa using hne
 intro x;cases x with
 |normal=>intro e' lev' own' S' w' a' hn' hd' hi hK;exact fin e' lev' own' S' w' a' hn' hd' hi (hQ _ _ hK)
 |ret=>intro e' lev' own' S' w' a' hn' hd' hi hK;exact fin e' lev' own' S' w' a' hn' hd' hi (hQ _ _ hK)
 | _=>intro e' lev' own' S' w' a' hn' hd' hi hK;exact(hQ _ _ hK).elim
def vq.spec(h:vq P f hs ds λa b=>a=hs'/\b=d):Spec P f hs ds hs' d:=by
 refine⟨h.1,?_⟩;intro w l0 j i S0 vs k l m o p q;refine(h.2 w l0 j i S0 vs k l m o p q).mono ?_;rintro e w' ⟨v,_,_,⟨rfl,rfl⟩,he,ho⟩;exact⟨v,he,ho⟩
def Spec.toE(h:Spec P f hs ds hs' d)(p:Φ hs' d):vq P f hs ds Φ:=by
 refine⟨h.1,?_⟩;intro w l0 b a S0 vs i j k l m o;refine(h.2 w l0 b a S0 vs i j k l m o).mono ?_;rintro e w' ⟨v,he,ho⟩;exact⟨v,hs',d,p,he,ho⟩
def Spec.of_wp (hm : P.follows .mixedOrders = true) {f : FuncId} {fn : Func} {c : Code} (hf : P.funcs[f]? = some fn) (hb : fn.body = some c) (hname : (fn.name == "runtime.NumGoroutine") = false) {hs ds hs' : List D} {d : D}
  (hlen:ds.length<=fn.ntmps) (h16:hs.length<=16) (hw:jU P fn.ntmps ds.length c (Js P fn.results.toList hs.length hs' d) (qz (KP 0 ds) (tj 0 hs))):Spec P f hs ds hs' d:=
 vq.spec (vq.of_wp hm hf hb hname L1 hlen h16 hw)
def Spec.qu (hm : P.follows .mixedOrders = true) {n np : Nat} (hf : P.funcs[f]? = some fn) (hb : fn.body = some c) (hr : fn.results.toList = rs) (hn : fn.ntmps = n) (hname : (fn.name == "runtime.NumGoroutine") = false)
  (hnp:ds.length=np) (hlen:np<=n) (h16:hs.length<=16) (hw:jU P n np c (Js P rs hs.length hs' d) (qz (KP 0 ds) (tj 0 hs))):Abs.Spec P f hs ds hs' d:=by
 subst hr;subst hn;subst hnp;exact Spec.of_wp hm hf hb hname hlen h16 hw
def aX(n np:Nat)(rs:List ResultVar)(hm:P.follows .mixedOrders=true)(hf:P.funcs[f]?=some fn)(hw:jU P n np c (Js P rs hs.length hs' d) (qz (KP 0 ds) (tj 0 hs)))
  (hb : fn.body = some c := by exact rfl) (hr : fn.results.toList = rs := by exact rfl) (hn : fn.ntmps = n := by exact rfl) (hname : (fn.name == "runtime.NumGoroutine") = false := by exact rfl) (hnp : ds.length = np := by exact rfl) (hlen : np <= n := by simp) (h16 : hs.length <= 16 := by simp) : Abs.Spec P f hs ds hs' d :=
 Spec.qu hm hf hb hr hn hname hnp hlen h16 hw
end
end Go.Abs
namespace Go.Abs
variable{K:Env->Prop}{T:Type}{Q a:Exit->Env->Prop}{b:Nat}
section
variable{P:Program}{n np:Nat}{e:Env}{K K':Env->Prop}
theorem yX(ops:List Oper):∀(l:List Oper) {e:Env} {K K':Env->Prop},(∀e,K e->K' e)->wpList P n ops l e K->wpList P n ops l e K'
 | [],e,K,K',h,hk=>h _ hk
 |o::r,e,K,K',h,hk=>by
  simp only[wpList,wpOp]at hk |-;cases c:nZ ops e o.guard with
  |none=>rw[c]at hk;exact hk.elim
  |some g=>rw[c]at hk;exact oo (λe d=>yX ops r h d) hk
theorem ij(ops:List Oper):∀(l:List Oper) {e:Env} {K K':Env->Prop},(∀e,K e->K' e)->lE P n np ops l e K->lE P n np ops l e K'
 | [],e,K,K',h,hk=>h _ hk
 |o::r,e,K,K',h,hk=>by
  simp only[lE,dK]at hk |-;cases k:nZ ops e o.guard with
  |none=>rw[k]at hk;exact hk.elim
  |some g =>
   rw[k]at hk;simp only at hk |-;split at hk
   ·rename_i j;rw[aE j];exact Cw (λe c=>ij ops r h c) hk
   rename_i j;rw[az j];split at hk
   ·rename_i i;rw[aE i];split at hk
    ·rename_i f;rw[aE f];split at hk
     ·rename_i d;rw[aE d];exact oo (λe c=>ij ops r h c) hk
     ·rename_i d;rw[az d];exact⟨xu (λe c=>ij ops r h c) hk.1,hk.2⟩
    ·rename_i f;rw[az f];split at hk
     ·rename_i d;rw[aE d];exact Eo (λe c=>ij ops r h c) hk
     ·rename_i d;rw[az d];exact oo (λe c=>ij ops r h c) hk
   ·rename_i i;rw[az i];exact⟨⟨hk.1.1,oo (λe c=>ij ops r h c) hk.1.2⟩,hk.2⟩
def IC(h:∀e,K e->K' e)(c:dM K e):dM K' e:=by
 rcases c with c| ⟨ts,os,hl,c⟩
 ·exact .inl (h _ c)
 ·exact .inr ⟨ts,os,hl,h _ c⟩
theorem Pc:∀(c:Code) {e:Env} {Q i:Exit->Env->Prop},(∀x e,Q x e->i x e)->jU P n np c Q e->jU P n np c i e:=by
 intro c;induction c with
 |skip=>intro e Q i h d;exact h _ _ d
 |region id ops k =>
  intro e Q i h d;unfold jU at d |-;cases k with
  |false=>simp only[Bool.false_eq_true,if_false]at d |-;exact yX _ _ (h _) d
  |true=>simp only[if_true]at d |-;exact⟨d.1,ij _ _ (h _) d.2⟩
 |seq a b iha ihb =>
  intro e Q i h d;refine iha ?_ d;intro x e g;cases x<;>try exact h _ _ g
  simp only[qw]at g |-
  by_cases o:Ff a=true
  ·rw[aE o]at g |-;exact IC (λe u=>ihb h u) g
  ·rw[az o]at g |-;exact ihb h g
 |cond c a b iha ihb =>
  intro e Q i h d;unfold jU at d |-;split at d
  ·exact⟨λt=>iha h (d.1 t),λt=>ihb h (d.2 t)⟩
  ·exact d.elim
 |block id a ih =>
  intro e Q i h d;refine ih ?_ d;intro x e g;cases x<;>try exact h _ _ g
  simp only[mU]at g |-;split
  ·rename_i j;rw[aE j]at g;exact h _ _ g
  ·rename_i j;rw[az j]at g;exact h _ _ g
 |loop a ih =>
  intro e Q i h d;obtain⟨T,ts,os,I,m,s0,p,q,r⟩:=d;refine⟨T,ts,os,I,m,s0,p,q,λs v=>ih ?_ (r s v)⟩;intro x e g;cases x<;>first|exact g|exact h _ _ g
 |exit id=>intro e Q i h d;exact h _ _ d
 |ret=>intro e Q i h d;exact h _ _ d
 |rangeFunc f ps x y ih1 ih2=>intro e Q i h d;exact d.elim
 |scope x ih=>intro e Q i h d;exact d.elim
 |label l=>intro e Q i h d;exact d.elim
 |goto l=>intro e Q i h d;exact d.elim
 |refuse s=>intro e Q i h d;exact d.elim

def F9{T:Type}(ts os:T->EL)(I:T->Prop)(e:Env):Prop:=∃s,I s/\DG e (ts s) (os s)
def F9.weak{ts os:T->EL}{I:T->Prop}(h:∀s,I s->K (qz (ts s) (os s)))(e:Env)(c:F9 ts os I e):dM K e:=by
 obtain⟨s,f,d⟩:=c;exact .inr ⟨ts s,os s,d,h s f⟩
def aF.mono{b:Code}(h:∀x e,Q x e->a x e)(i:aF (jU P n np b) Q e):aF (jU P n np b) a e:=by
 obtain⟨T,ts,os,I,m,s0,d,f,g⟩:=i;refine⟨T,ts,os,I,m,s0,d,f,λs j=>Pc b ?_ (g s j)⟩;intro x e c;cases x<;>first|exact c|exact h _ _ c
def PX{c:Code}(ts os:T->EL)(I:T->Prop)(rest:∀s,I s->K (qz (ts s) (os s)))(i:aF (jU P n np c) (mU b (qw (F9 ts os I) Q)) e):aF (jU P n np c) (mU b (qw (dM K) Q)) e:=by
 refine aF.mono ?_ i;intro x e f;have g:qw (F9 ts os I) Q .normal e->qw (dM K) Q .normal e:=λh=>F9.weak rest e h;cases x<;>try exact f
 ·exact g f
 ·simp only[mU]at f |-;split
  ·rename_i d;rw[aE d]at f;exact g f
  ·rename_i d;rw[az d]at f;exact f
end
end Go.Abs
namespace Go.Abs

variable(b w p a:Bool){α:Type}(n r z i k f N d m z' sz off by_ z2 b2 r' q:Nat){v' x' y' a' lo' ob' fv' fv:D}{np G:Nat}{b' g j:Bool}{A:Prop}(S:Prop)(o:Oper)(ops:List Oper)(op:Op)(dst:Option Tmp)(gu:Option (Nat×Bool))(s:ByteArray)(cs hs' ds zc:List D)(rows rows2:List (List D))(x y c:Operand)(t T2:TypeId)(h:UnOp)(C:BinOp){F:Option Nat}(T:Array TypeId)(Q:Exit->Env->Prop)(os:Array Oper){e e':Env}{H:Code}(K:Env->Prop)(rs:List ResultVar)(Φ:List D->D->Prop){I:Option Bool}{J:Option Tmp}{L U:List Nat}(args:Array Operand)(ob:D)(fs:List FT){t' Z t2':Ty}{l':Option yA}(l:yA){hi' hi:Option D}(M:Array (Nat×Operand))(ps:List (Nat×D)){O:Option (List D)}{as as':List D}{R:List (Nat×Nat×D)}(W:IntKind){X Y:Option (List (List D))}(g9:Ty)(i7:Option Operand)
section
variable{P:Program}{n np:Nat}{ops:List Oper}{e:Env}{g dr:Bool}{K:Env->Prop}{ty:TypeId}{pos:String}{after:Array Edge}{gu:Option (Nat×Bool)}{d:Nat}

def bm(b:Bool):Bool:=b
def em(e:Env):Env:=e
def dm(d:D):D:=d
def lm{α:Type}(l:List α):List α:=l
def nk(n:Nat):Nat:=n
theorem af0:bm b=b:=Eq.trans rfl rfl
theorem af7(e:Env):em e=e:=Eq.trans rfl rfl
theorem af6(d:D):dm d=d:=Eq.trans rfl rfl
theorem agz(l:List α):lm l=l:=Eq.trans rfl rfl
theorem agC:nk n=n:=Eq.trans rfl rfl
@[congr] theorem Tk{v:D}{k:D->Prop}(h:True->v=v'):Norm v k=Norm v' k:=by rw[h trivial]
theorem abR(v:D)(k:D->Prop):Norm v k=k v:=rfl
def pO(r:Nat)(k:Nat->Prop):Prop:=k r
@[congr] theorem Rw{v:Nat}{k:Nat->Prop}(h:True->v=np):pO v k=pO np k:=by rw[h trivial]
theorem YY(v:Nat)(k:Nat->Prop):pO v k=k v:=rfl

def uK(e:Env)(d:Nat)(K:Env->Prop)(u:D):Prop:=K (bk e d u)
def lK(P:Program)(n:Nat)(ops r:List Oper)(K:Env->Prop)(e:Env):Prop:=wpList P n ops r e K
def lKD(P:Program)(n np:Nat)(ops r:List Oper)(K:Env->Prop)(e:Env):Prop:=lE P n np ops r e K
def oK(P:Program)(n:Nat)(o:Oper)(e:Env)(K:Env->Prop)(g:Bool):Prop:=iO P n false o e g K
def HD(b:Bool)(x y:Prop):Prop:=if b then x else y
@[congr] theorem YS{b:Bool}{x:Prop}(h:True->b=b'):HD b x A=HD b' x A:=by rw[h trivial]
theorem abP(x:Prop):HD true x S=x:=by simp[HD]
def YT(x:Prop):HD false x S=S:=by simp[HD]
attribute [go_sem] af0 af7 af6 agz agC abR YY
attribute [go_sem ↓] abP YT
attribute [go_sem] Np hard isApp sl1 abc yT Bi mX BV wA wC QF xS QE U9 KG cF eO Bool.true_or Bool.false_or k9 isT UG Tz Sf OE iF Option.isSome_some Option.isSome_none Option.isNone_some Option.isNone_none
theorem abb(t:Nat):Oy t []=false:=rfl
theorem Yg(t:Nat)(r:List Oper):Oy t (o::r)=((sl1 o.op&&o.dst==some t)||Oy t r):=rfl
theorem Xu(t:Nat):He t []=false:=rfl
theorem UH(t:Nat)(r:List Oper):He t (o::r)=((UG o.op&&(o.guard.isNone&&o.dst==some t))||He t r):=rfl
theorem V7(t:Nat):Gf t []=false:=rfl
theorem TA(t:Nat)(r:List Oper):Gf t (o::r)=(Tz t o.op||Gf t r):=rfl
theorem abj(a b:Nat):(some a==some b)=(a==b):=rfl
theorem aau(b:Nat):((none:Option Nat)==some b)=false:=rfl
attribute [go_sem] abb Yg Xu UH V7 TA abj aau
attribute [go_sem] GZ P9 zL
theorem abr:O4 ops []=false:=rfl
theorem Yy(r:List Oper):O4 ops (o::r)=((isApp o&&(!iF ops o&&T' r))||O4 ops r):=rfl
theorem acf:T' []=false:=rfl
theorem ZG(r:List Oper):T' (⟨dst,op,ty,pos,#[],gu⟩::r)=true:=rfl
theorem WE(r:List Oper)(x)(l):T' (⟨dst,op,ty,pos,List.toArray (x::l),gu⟩::r)=T' r:=rfl
theorem adB(k:IntKind)(m:Int):yU (.int k m)=true:=rfl
theorem abo:yU (.bool b)=true:=rfl
theorem adC:yU (.ref r)=true:=rfl
theorem abn(o:Nat):yU (.addr r o)=true:=rfl
theorem Yw:yU (.bB r z i k)=true:=rfl
theorem Yv:yU (.bq cs)=true:=rfl
theorem afy:yU (.sl z rows)=true:=rfl
theorem abl:F1 (.box [])=true:=rfl
theorem Yr(c:D):F1 (.box (c::cs))=(yU c&&F1 (.box cs)):=rfl
theorem Yt(o:Nat):Mh e (.addr r o)=F1 (e.o r):=rfl
theorem abm:zJ e []=true:=rfl
theorem Yu(p:Nat×Operand)(r:List (Nat×Operand)):zJ e (p::r)=(yU (rd e p.2)&&zJ e r):=rfl
theorem TI:iZ e (.move x)=(yU (rd e x)=true):=rfl
theorem Mw:iZ e (.fieldAddr t x f)=(yU (rd e x)=true):=rfl
theorem TH:iZ e (.load t x)=(Mh e (rd e x)=true):=rfl
theorem TJ:iZ e (.unOp h t x)=(yU (rd e x)=true):=rfl
theorem RH:iZ e (.binOp C t x y T2)=(yU (rd e x)=true/\yU (rd e y)=true):=rfl
theorem K6(len:Nat)(ps:Array (Nat×Operand)):iZ e (.buildSlice t len ps)=(zJ e ps.toList=true):=rfl
def avK(e:Env)(v:D)(N:Nat):Prop:=BJ (e.o N)=true/\BG N v=true
theorem aeh(v:D):avK e v N=(BJ (e.o N)=true/\BG N v=true):=rfl
def MR(e:Env)(v:D)(b:Bool)(d:Option Nat):Prop:=
 match b,d with
 |true,some d=>pO (nm d 0) (avK e v)
 | _,_=>True
theorem V5(v:D):MR e v true (some d)=pO (nm d 0) (avK e v):=rfl
def Tx(v:D)(d:Option Nat):MR e v false d=True:=by cases d<;>rfl
@[congr] theorem Tw{v:D}{b:Bool}{d:Option Nat}(u:True->v=v')(B:True->b=b')(E:True->d=F):MR e v b d=MR e v' b' F:=by rw[u trivial,B trivial,E trivial]
@[congr] theorem V6{v:D}{l:List Oper}(h:True->v=v'):IF e v l=IF e v' l:=by rw[h trivial]
theorem abY(v:D):IF e v []=True:=rfl
def Zf(v:D)(l:List Oper):IF e v (o::l)=(MR e v (P9 o.op) o.dst/\IF e v l):=by
 rw[IF];congr 1
theorem UY:BJ .undef=true:=rfl
theorem aay:BJ (.own z rows)=true:=rfl
theorem XJ:BG N (.ref r) = !(r==N):=rfl
theorem XI:BG N .emp=true:=rfl
theorem RQ:zj e (.call ⟨.builtin .append,#[x,y],T⟩)=rd e x:=rfl
def oKD(P:Program)(n np:Nat)(ops:List Oper)(o:Oper)(e:Env)(K:Env->Prop)(g:Bool):Prop:=HD (iF ops o) (lU P n np ops o e K) (HD (k9 o) (HD (isApp o) (HD (yT ops o.op) (iO P n false o e g K) (lX P n o e g K/\Tv ops o e)) (HD (mX o) (tU P n np ops o e g K) (iO P n false o e g K))) (F7 P n np ops o e g K/\yE ops o e))
theorem ahe(u:D):uK e d K u=K (bk e d u):=rfl
theorem agd(r:List Oper):lK P n ops r K e=wpList P n ops r e K:=rfl
theorem aeN(r:List Oper):lKD P n np ops r K e=lE P n np ops r e K:=rfl
theorem agF:oK P n o e K g=iO P n false o e g K:=rfl
def MQ(o:Oper):(lX P n o e g K/\Tv ops o e)=HD (zL ops) (IF e (zj e o.op) ops/\lX P n o e g K) (lX P n o e g K):=by
 unfold Tv HD;cases zL ops<;>simp[and_comm]
def afi(p:Nat×Bool):oKD P n np ops ⟨dst,op,ty,pos,after,some p⟩ e K g=HD (iF ops ⟨dst,op,ty,pos,after,some p⟩) (lU P n np ops ⟨dst,op,ty,pos,after,some p⟩ e K) (HD (k9 ⟨dst,op,ty,pos,after,some p⟩) (HD (isApp ⟨dst,op,ty,pos,after,some p⟩) (HD (yT ops op) (iO P n false ⟨dst,op,ty,pos,after,some p⟩ e g K) (HD (zL ops) (IF e (zj e op) ops/\lX P n ⟨dst,op,ty,pos,after,some p⟩ e g K) (lX P n ⟨dst,op,ty,pos,after,some p⟩ e g K))) (HD (mX ⟨dst,op,ty,pos,after,some p⟩) (tU P n np ops ⟨dst,op,ty,pos,after,some p⟩ e g K) (iO P n false ⟨dst,op,ty,pos,after,some p⟩ e g K))) (F7 P n np ops ⟨dst,op,ty,pos,after,some p⟩ e g K)):=by
 unfold oKD;rw[MQ];have:yE ops ⟨dst,op,ty,pos,after,some p⟩ e=True:=eq_true λ_ h=>by cases h
 rw[this,and_true]

def aU(P:Program)(n np:Nat)(a b:Code)(Q:Exit->Env->Prop)(e:Env)(v:D):Prop:=match v with
 | .bool t=>JW t (jU P n np a Q e) (jU P n np b Q e)
 | _=>False
@[congr] theorem Rn{a b:Code}{Q:Exit->Env->Prop}{v:D}(h:True->v=v'):aU P n np a b Q e v=aU P n np a b Q e v':=by rw[h trivial]
theorem Tb(a b:Code):aU P n np a b Q e (.bool true)=jU P n np a Q e:=by simp[aU,JW]
def Ro(a b:Code):aU P n np a b Q e (.bool false)=jU P n np b Q e:=by simp[aU,JW]
def aU.split{t:Bool}{a b:Code}{Q:Exit->Env->Prop}(u:t=true->jU P n np a Q e)(v:t=false->jU P n np b Q e):aU P n np a b Q e (.bool t):=⟨u,v⟩
def aU.fS{t:Bool}{a b:Code}{Q:Exit->Env->Prop}(u:t=false->jU P n np a Q e)(v:t=true->jU P n np b Q e):aU P n np a b Q e (.bool (!t)):=⟨λh=>u (by simpa using h),λh=>v (by simpa using h)⟩
theorem abA:jU P n np .skip Q e=Q .normal e:=rfl
def SR:jU P n np (.region r os false) Q e=wpList P n os.toList os.toList e (Q .normal):=by simp[jU]
def dH(np:Nat)(os:Array Oper):Prop:=Rp np os
@[congr] theorem Rq{m:Nat}{os:Array Oper}(h:True->m=np):dH m os=dH np os:=by rw[h trivial]
theorem dH.mk{os:Array Oper}(h:uC np os=true):dH np os:=h
def SS:jU P n np (.region r os true) Q e=(dH (nk np) os/\lE P n np os.toList os.toList e (Q .normal)):=by simp[jU,dH,nk]
def HW(P:Program)(n np:Nat)(b:Code)(Q:Exit->Env->Prop)(j:Bool):Env->Prop:=if j then dM (jU P n np b Q)else jU P n np b Q
theorem adH(a b:Code):jU P n np (.seq a b) Q e=jU P n np a (qw (HW P n np b Q (Ff a)) Q) e:=rfl
def Ju(P:Program)(n np:Nat)(b:Code)(Q:Exit->Env->Prop)(e:Env)(j:Bool):Prop:=HW P n np b Q j e
@[congr] theorem Vi{b:Code}{Q:Exit->Env->Prop}(h:True->j=g):Ju P n np b Q e j=Ju P n np b Q e g:=by rw[h trivial]
theorem adv(b:Code)(j:Bool):HW P n np b Q j e=Ju P n np b Q e j:=rfl
def Tt(b:Code):Ju P n np b Q e true=dM (jU P n np b Q) (em e):=by simp[Ju,HW,em]
def RC(b:Code):Ju P n np b Q e false=jU P n np b Q e:=by simp[Ju,HW]
@[congr] theorem RA{K:Env->Prop}(h:True->e=e'):dM K e=dM K e':=by rw[h trivial]
theorem dM.id(h:K e):dM K e:=.inl h
def dM.le(ts os:EL)(h:DG e ts os)(u:K (qz ts os)):dM K e:=.inr ⟨ts,os,h,u⟩
attribute [go_sem] abr Yy acf ZG WE adB abo adC abn Yw Yv afy abl Yr Yt abm Yu abY Zf UY aay XJ XI Tb Ro
attribute [go_sem ↓] TI Mw TH TJ RH K6 aeh V5 Tx RQ ahe agd aeN agF afi abA SR SS adH adv Tt RC
attribute [go_sem] falls Ff
@[congr] theorem Tc{T:Type}{ts os:T->EL}{I:T->Prop}(h:True->e=e'):F9 ts os I e=F9 ts os I e':=by rw[h trivial]
theorem Gw{b c:Code}{Q:Exit->Env->Prop}{T:Type}(ts os:T->EL)(I:T->Prop)(u:j=true)(rest:∀s,I s->jU P n np b Q (qz (ts s) (os s)))(v:aF (jU P n np c) (mU G (qw (F9 ts os I) Q)) e) :
  aF (jU P n np c) (mU G (qw (HW P n np b Q j) Q)) e:=by
 have:HW P n np b Q j=dM (jU P n np b Q):=by simp[HW,u]
 rw[this];exact PX ts os I rest v
theorem abx(a b:Code):jU P n np (.cond c a b) Q e=aU P n np a b Q e (dm (rd e c)):=rfl
theorem YD(a:Code):jU P n np (.block r a) Q e=jU P n np a (mU r Q) e:=rfl
theorem abz(a:Code):jU P n np (.loop a) Q e=aF (jU P n np a) Q (em e):=rfl
@[congr] theorem Rv{b:(Exit->Env->Prop)->Env->Prop}{Q:Exit->Env->Prop}(h:True->e=e'):aF b Q e=aF b Q e':=by rw[h trivial]
theorem aby:jU P n np (.exit r) Q e=Q (.exit r) e:=rfl
theorem adG:jU P n np .ret Q e=Q .ret e:=rfl
theorem Q6:qw K Q .normal e=K e:=rfl
theorem Vu:qw K Q (.exit r) e=Q (.exit r) e:=rfl
theorem Yx:qw K Q .ret e=Q .ret e:=rfl
theorem Pg:mU r Q .normal e=Q .normal e:=rfl
theorem RG:mU r Q (.exit z) e=if z=r then Q .normal e else Q (.exit z) e:=rfl
theorem TF:mU r Q .ret e=Q .ret e:=rfl
theorem SG(v:D):Js P rs m hs' v .normal e=IA P rs m hs' v e:=rfl
theorem aa3(v:D):Js P rs m hs' v .ret e=IA P rs m hs' v e:=rfl
theorem SH{T:Type}(ts os:T->EL)(I:T->Prop)(m:T->Nat)(s:T):jL ts os I m s Q (.exit r) e=Q (.exit r) e:=rfl
theorem Vh{T:Type}(ts os:T->EL)(I:T->Prop)(m:T->Nat)(s:T):jL ts os I m s Q .ret e=Q .ret e:=rfl
theorem Px{T:Type}(ts os:T->EL)(I:T->Prop)(m:T->Nat)(s:T):jL ts os I m s Q .normal e=af ts os I m s (em e):=rfl
@[congr] theorem Tm{rs:List ResultVar}{m:Nat}{Φ:List D->D->Prop}(h:True->e=e'):IB P rs m Φ e=IB P rs m Φ e':=by rw[h trivial]
theorem IB.mk{rs:List ResultVar}{m:Nat}{Φ:List D->D->Prop}(hs':List D)(d:D)(u:Φ hs' d)(h:IA P rs m hs' d e):IB P rs m Φ e:=⟨hs',d,u,h⟩
@[congr] theorem PK{T:Type}{ts os:T->EL}{I:T->Prop}{m:T->Nat}{s:T}(h:True->e=e'):af ts os I m s e=af ts os I m s e':=by rw[h trivial]

theorem wpList_nil:wpList P n ops [] e K=K e:=rfl
theorem SV(r:List Oper):wpList P n ops (o::r) e K=wpOp P n ops o e (lK P n ops r K):=rfl
theorem SU:lE P n np ops [] e K=K e:=rfl
theorem Rf(r:List Oper):lE P n np ops (o::r) e K=dK P n np ops o e (lKD P n np ops r K):=rfl
theorem Vv(l:List α):l.toArray.toList=l:=rfl
def bC(o:Option Bool)(k:Bool->Prop):Prop:=match o with
 |some g=>k g
 |none=>False
@[congr] theorem PF{o:Option Bool}{k:Bool->Prop}(h:True->o=I):bC o k=bC I k:=by rw[h trivial]
theorem Rt(k:Bool->Prop):bC (some true) k=k true:=rfl
theorem PG(k:Bool->Prop):bC (some false) k=k false:=rfl
theorem bC.split{k:Bool->Prop}(u:g=true->k true)(v:g=false->k false):bC (some g) k:=by
 cases g with
 |true=>exact u rfl
 |false=>exact v rfl
theorem bC.fS{b:Bool}{k:Bool->Prop}(u:b=false->k true)(v:b=true->k false):bC (some (!b)) k:=by
 cases b with
 |true=>exact v rfl
 |false=>exact u rfl
theorem YE:wpOp P n ops ⟨dst,op,ty,pos,after,none⟩ e K=iO P n false ⟨dst,op,ty,pos,after,none⟩ e true K:=rfl
theorem YF(p:Nat×Bool):wpOp P n ops ⟨dst,op,ty,pos,after,some p⟩ e K=bC (nZ ops e (some p)) (oK P n ⟨dst,op,ty,pos,after,some p⟩ e K):=rfl
def VC:dK P n np ops ⟨dst,op,ty,pos,after,none⟩ e K=HD (iF ops ⟨dst,op,ty,pos,after,none⟩) (lU P n np ops ⟨dst,op,ty,pos,after,none⟩ e K) (HD (k9 ⟨dst,op,ty,pos,after,none⟩) (HD (isApp ⟨dst,op,ty,pos,after,none⟩) (HD (yT ops op) (iO P n false ⟨dst,op,ty,pos,after,none⟩ e true K) (HD (zL ops) (IF e (zj e op) ops/\lX P n ⟨dst,op,ty,pos,after,none⟩ e true K) (lX P n ⟨dst,op,ty,pos,after,none⟩ e true K))) (HD (mX ⟨dst,op,ty,pos,after,none⟩) (tU P n np ops ⟨dst,op,ty,pos,after,none⟩ e true K) (iO P n false ⟨dst,op,ty,pos,after,none⟩ e true K))) (HD (GZ op) (HD (zL ops) (iZ e op/\F7 P n np ops ⟨dst,op,ty,pos,after,none⟩ e true K) (F7 P n np ops ⟨dst,op,ty,pos,after,none⟩ e true K)) (F7 P n np ops ⟨dst,op,ty,pos,after,none⟩ e true K))):=by
 have u:dK P n np ops ⟨dst,op,ty,pos,after,none⟩ e K=HD (iF ops ⟨dst,op,ty,pos,after,none⟩) (lU P n np ops ⟨dst,op,ty,pos,after,none⟩ e K) (HD (k9 ⟨dst,op,ty,pos,after,none⟩) (HD (isApp ⟨dst,op,ty,pos,after,none⟩) (HD (yT ops op) (iO P n false ⟨dst,op,ty,pos,after,none⟩ e true K) (lX P n ⟨dst,op,ty,pos,after,none⟩ e true K/\Tv ops ⟨dst,op,ty,pos,after,none⟩ e)) (HD (mX ⟨dst,op,ty,pos,after,none⟩) (tU P n np ops ⟨dst,op,ty,pos,after,none⟩ e true K) (iO P n false ⟨dst,op,ty,pos,after,none⟩ e true K))) (F7 P n np ops ⟨dst,op,ty,pos,after,none⟩ e true K/\yE ops ⟨dst,op,ty,pos,after,none⟩ e)):=rfl;have v:(F7 P n np ops ⟨dst,op,ty,pos,after,none⟩ e true K/\yE ops ⟨dst,op,ty,pos,after,none⟩ e)=HD (GZ op) (HD (zL ops) (iZ e op/\F7 P n np ops ⟨dst,op,ty,pos,after,none⟩ e true K) (F7 P n np ops ⟨dst,op,ty,pos,after,none⟩ e true K)) (F7 P n np ops ⟨dst,op,ty,pos,after,none⟩ e true K):=by
  unfold yE HD;cases B:GZ op
  ·have:iZ e op=True:=by cases op<;>first|rfl|cases B
   simp[this]
  ·cases zL ops<;>simp[and_comm]
 rw[u,MQ,v]
theorem VD(p:Nat×Bool):dK P n np ops ⟨dst,op,ty,pos,after,some p⟩ e K=bC (nZ ops e (some p)) (oKD P n np ops ⟨dst,op,ty,pos,after,some p⟩ e K):=rfl
def J'(o:Option Tmp)(e:Env)(w:Bool):Option Bool:=match o with
 |some t=>EF w (rd e (.tmp t))
 |none=>some false
@[congr] theorem RR{o:Option Tmp}{w:Bool}(h:True->o=J):J' o e w=J' J e w:=by rw[h trivial]
theorem WN(j:Nat):nZ ops e (some (j,w))=J' (rG ops j) e w:=rfl
theorem TZ(r:List Oper):rG (o::r) 0=o.dst:=rfl
theorem TY(r:List Oper)(j:Nat):rG (o::r) (j+1)=rG r j:=rfl
theorem Uf(t:Nat):J' (some t) e w=EF w (rd e (.tmp t)):=Eq.trans rfl rfl
theorem VB:EF w (.bool b)=some (b==w):=rfl
theorem YC:EF w (.bH [])=some false:=rfl
def aej:(b==true)=b:=by cases b<;>rfl
def aei:(b==false) = !b:=by cases b<;>rfl

@[congr] theorem Ry{ok:Prop}{v:D}{k:D->Prop}(u:True->g=j)(B:j=true->ok=A)(E:j=true->v=v'):eo g ok v k=eo j A v' k:=by
 obtain rfl:=u trivial;cases g with
 |true=>rw[B rfl,E rfl]
 |false=>simp[eo,gd]
def Tr(ok:Prop)(v:D)(k:D->Prop):eo true ok v k=(ok/\Norm (dm v) k):=by simp[eo,gd,Norm,dm]
def Rz(ok:Prop)(v:D)(k:D->Prop):eo false ok v k=k (.bH []):=by simp[eo,gd]
def abO(a b:Prop):GK true a b=a:=by simp[GK]
def YR(a b:Prop):GK false a b=b:=by simp[GK]

def Py(np:Nat)(ops:List Oper)(o:Oper)(l:List Nat):Prop:=lP np ops o l
@[congr] theorem VI{o:Oper}{l:List Nat}(h:True->l=L):Py np ops o l=Py np ops o L:=by rw[h trivial]
theorem abF:Py np ops o []=True:=rfl
def tL(np:Nat)(ops:List Oper)(o:Oper)(r:Nat):Prop:=om np ops o r=true
@[congr] theorem VZ{o:Oper}{r:Nat}(h:True->r=G):tL np ops o r=tL np ops o G:=by rw[h trivial]
theorem tL.mk{o:Oper}{r:Nat}(h:om np ops o r=true):tL np ops o r:=h
theorem YJ(l:List Nat):Py np ops o (r::l)=(tL np ops o (nk r)/\Py np ops o l):=rfl
def aaA:F7 P n np ops o e true K=(Py np ops o (lm (bE e o))/\iO P n true o e true K):=by simp[F7,Py,lm]
def XM:F7 P n np ops o e false K=iO P n true o e false K:=by simp[F7]
attribute [go_sem ↓] abx YD abz aby adG Q6 Vu Yx Pg RG TF SG aa3 SH Vh Px wpList_nil SV SU Rf Vv YE YF VC VD WN TZ TY Uf Tr Rz abO YR aaA XM
attribute [go_sem] Rt PG VB YC aej aei abF YJ
section
variable{dst:Option Tmp}
theorem Sn(a:Operand):bE e ⟨dst,.load t a,ty,pos,after,gu⟩=(rd e a).names:=rfl
theorem Qq(a:Operand):bE e ⟨dst,.store t a x,ty,pos,after,gu⟩=(rd e a).names:=rfl
theorem LN(i:Operand):bE e ⟨dst,.indexAddr t x i,ty,pos,after,gu⟩=(rd e x).names:=rfl
theorem Qp(a b c:Option Operand):bE e ⟨dst,.slice t x a b c,ty,pos,after,gu⟩=(rd e x).names:=rfl
theorem So:bE e ⟨dst,.move x,ty,pos,after,gu⟩=[]:=rfl
theorem Pr:bE e ⟨dst,.assign x,ty,pos,after,gu⟩=[]:=rfl
theorem Sp(z:Operand):bE e ⟨dst,.pick x y z,ty,pos,after,gu⟩=[]:=rfl
theorem Qk:bE e ⟨dst,.binOp C t x y T2,ty,pos,after,gu⟩=[]:=rfl
theorem Sr:bE e ⟨dst,.unOp h t x,ty,pos,after,gu⟩=[]:=rfl
theorem NX(s:TypeId):bE e ⟨dst,.convert s t x,ty,pos,after,gu⟩=[]:=rfl
theorem LM:bE e ⟨dst,.fieldAddr t x f,ty,pos,after,gu⟩=[]:=rfl
theorem Qo(i:Operand):bE e ⟨dst,.index t x i,ty,pos,after,gu⟩=[]:=rfl
theorem My:bE e ⟨dst,.nilCheck x,ty,pos,after,gu⟩=[]:=rfl
theorem NY:bE e ⟨dst,.extract x i,ty,pos,after,gu⟩=[]:=rfl
theorem Ql(ps:Array (Nat×Operand)):bE e ⟨dst,.build t ps,ty,pos,after,gu⟩=[]:=rfl
theorem Kr(l:Nat)(ps:Array (Nat×Operand)):bE e ⟨dst,.buildSlice t l ps,ty,pos,after,gu⟩=[]:=rfl
theorem Qj:bE e ⟨dst,.alloc t,ty,pos,after,gu⟩=[]:=rfl
def B6(e:Env)(k:Nat)(l:List Nat):List Nat:=reach e.o k l
@[congr] theorem Vc{k:Nat}{l:List Nat}(h:True->l=L):B6 e k l=B6 e k L:=by rw[h trivial]
theorem aaV:B6 e k []=[]:=by
 unfold B6;induction k with
 |zero=>rfl
 |succ k ih=>simp only[reach,List.map_nil,D.aQ,List.nil_append];exact ih
theorem Ve(l:List Nat):B6 e 4 (r::l)=r::l++B6 e 3 (lm (D.aQ ((r::l).map e.o))):=rfl
theorem Vd(l:List Nat):B6 e 2 (r::l)=r::l++B6 e 1 (lm (D.aQ ((r::l).map e.o))):=rfl
theorem Qn(f:Operand):bE e ⟨dst,.call ⟨.value f,args,T⟩,ty,pos,after,gu⟩=B6 e 4 (lm (D.aQ (rd e f::args.toList.map (rd e)))):=rfl
theorem Qm(b:Builtin):bE e ⟨dst,.call ⟨.builtin b,args,T⟩,ty,pos,after,gu⟩=D.aQ (args.toList.map (rd e)):=rfl
attribute [go_sem ↓] Sn Qq LN Qp So Pr Sp Qk Sr NX LM Qo My NY Ql Kr Qj Qn Qm
attribute [go_sem] aaV Ve Vd
end

section
theorem aaE:iO P n dr ⟨some d,.move x,ty,pos,after,gu⟩ e g K=(d<n/\eo g True (rd e x) (uK e d K)):=rfl
theorem U2:iO P n dr ⟨some d,.assign x,ty,pos,after,gu⟩ e g K=(d<n/\eo g True (rd e x) (uK e d K)):=rfl
theorem XO:iO P n dr ⟨some d,.binOp C t x y T2,ty,pos,after,gu⟩ e g K=HD (Np y) (g=true/\dr=false/\bO P n ⟨some d,.binOp C t x y T2,ty,pos,after,gu⟩ e K) (d<n/\eo g (rU P (isConst x||isConst y) C t (rd e x) (rd e y)) (tQ C (rd e x) (rd e y)) (uK e d K)):=rfl
theorem aaG:iO P n dr ⟨some d,.unOp h t x,ty,pos,after,gu⟩ e g K=(d<n/\eo g (pK h (rd e x)) (sV h (rd e x)) (uK e d K)):=rfl
theorem St(s:TypeId):iO P n dr ⟨some d,.convert s t x,ty,pos,after,gu⟩ e g K=(d<n/\eo g (AS (bY P s) (bY P t) (rd e x)) (DP (bY P s) (bY P t) (rd e x)) (uK e d K)):=rfl
def pk(p:Bool)(x y:D):D:=if p then x else y
def Sz(c x y:D):D:=match c with
 | .bool p=>pk p x y
 | _=>.undef
def Ob(c:D):Prop:=match c with
 | .bool _=>True
 | _=>False
theorem U7(x:D):Sz (.bool p) x ob=pk p x ob:=rfl
theorem SA:Ob (.bool p)=True:=rfl
@[congr] theorem aaM{p:Bool}{x:D}(u:True->p=j)(v:j=true->x=x')(B:j=false->v'=y'):pk p x v'=pk j x' y':=by
 obtain rfl:=u trivial;cases p with
 |true=>simp only[pk,if_true];exact v rfl
 |false=>simp only[pk];exact B rfl
theorem ac8(x:D):pk true x ob=x:=rfl
theorem aaN(x:D):pk false x ob=ob:=rfl
theorem aaF(a b:Operand):iO P n dr ⟨some d,.pick c a b,ty,pos,after,gu⟩ e g K=(d<n/\eo g (Ob (rd e c)) (Sz (rd e c) (rd e a) (rd e b)) (uK e d K)):=rfl
def faT(t:Ty)(f:Nat)(v:D):D:=match t with
 | .struct fs=>Mx fs f v
 | _=>.undef
def RN(t:Ty)(f:Nat)(v:D):Prop:=match t with
 | .struct fs=>Li fs f v
 | _=>False
theorem af9(v:D):faT (.struct fs) f v=Mx fs f v:=rfl
theorem ace(v:D):RN (.struct fs) f v=Li fs f v:=rfl
def ZD(t:Ty)(f:Nat)(v:D):D:=match t with
 | .struct fs=>Lp fs f v
 | _=>.undef
def Nj(t:Ty)(f:Nat)(v:D):Prop:=match t with
 | .struct fs=>DY fs f v
 | _=>False
theorem aew(v:D):ZD (.struct fs) f v=Lp fs f v:=rfl
theorem ZE(v:D):Nj (.struct fs) f v=DY fs f v:=rfl
theorem Pu:iO P n dr ⟨some d,.fieldAddr t x f,ty,pos,after,gu⟩ e g K=(d<n/\eo g (RN (bY P t) f (rd e x)) (faT (bY P t) f (rd e x)) (uK e d K)):=rfl
theorem XR:iO P n dr ⟨some d,.field t x f,ty,pos,after,gu⟩ e g K=(d<n/\eo g (Nj (bY P t) f (rd e x)) (ZD (bY P t) f (rd e x)) (uK e d K)):=rfl
def Bd(e:Env)(t:Ty)(x i:D):Prop:=GP e t x i
@[congr] theorem RU{t:Ty}{x i:D}(u:True->t=t')(v:True->x=x')(B:True->i=v'):Bd e t x i=Bd e t' x' v':=by rw[u trivial,v trivial,B trivial]
def Ug(t:Ty)(x i:D):D:=Lq e0 t x i
def Uj(e:Env)(t:Ty)(x i:D):Lq e t x i=Ug t x i:=by unfold Ug Lq;rfl
def Pv(i:Operand):iO P n dr ⟨some d,.indexAddr t x i,ty,pos,after,gu⟩ e g K=(d<n/\eo g (Bd e (bY P t) (rd e x) (rd e i)) (Ug (bY P t) (rd e x) (rd e i)) (uK e d K)):=by rw[<-Uj e];rfl
theorem XS(i:Operand):iO P n dr ⟨some d,.index t x i,ty,pos,after,gu⟩ e g K=(d<n/\eo g (GW (bY P t) (rd e x) (rd e i)) (ZY (bY P t) (rd e x) (rd e i)) (uK e d K)):=rfl
def Qd(e:Env)(l:Option yA)(a:D):D:=match l with
 |some l=>Pn e l a
 |none=>.undef
def vV(e:Env)(l:Option yA)(a:D):Prop:=match l with
 |some l=>Fj e l a
 |none=>False
@[congr] theorem Xh{l:Option yA}{a:D}(u:True->l=l')(v:True->a=a'):Qd e l a=Qd e l' a':=by rw[u trivial,v trivial]
@[congr] theorem R7{l:Option yA}{a:D}(u:True->l=l')(v:True->a=a'):vV e l a=vV e l' a':=by rw[u trivial,v trivial]
theorem aac(o:Nat):Qd e (some l) (.addr r o)=ldB l o (e.o r):=rfl
theorem Xj:Qd e (some l) (.bB r z i k)=ldW l i k (e.o r):=rfl
theorem Xi:Qd e (some l) (.bq cs)=part l.agg 0 l.sz cs:=rfl
theorem Ux(o:Nat):vV e (some l) (.addr r o)=Kk l o (e.o r):=rfl
theorem R9:vV e (some l) (.bB r z i k)=Kl l z i k (e.o r):=rfl
theorem R8:vV e (some l) (.bq cs)=(l.sz<=cs.length/\ue l):=rfl
theorem acN(o:Nat):ldB l o (.box cs)=part l.agg o l.sz cs:=rfl
theorem Xg(o:Nat):Kk l o (.box cs)=(o+l.sz<=cs.length/\ue l):=rfl
theorem acP:ldW l i k (.own z rows)=part l.agg k l.sz (rows.getD i []):=rfl
theorem Xk:Kl l z i k (.own z' rows)=(z'=z/\i<rows.length/\k+l.sz<=z/\ue l):=rfl
def acL:ue ⟨false,1⟩=True:=by simp[ue]
def acM:ue ⟨true,m⟩=(1<=m):=by simp[ue]
def aaD(a:Operand):iO P n dr ⟨some d,.load t a,ty,pos,after,gu⟩ e g K=HD (d==QE) (HD (t==xS) (g=true/\dr=false/\bO P n ⟨some d,.load t a,ty,pos,after,gu⟩ e K) (d<n/\eo g (vV e (dS P t) (rd e a)) (Qd e (dS P t) (rd e a)) (uK e d K))) (d<n/\eo g (vV e (dS P t) (rd e a)) (Qd e (dS P t) (rd e a)) (uK e d K)):=by
 cases u:t==xS<;>cases v:d==QE<;>simp only[HD,iO,hard,u,v,Bool.and_true,Bool.and_false,cF,eO,Bool.false_eq_true,if_true,if_false]<;>rfl
theorem Qv:iO P n dr ⟨some d,.nilCheck x,ty,pos,after,gu⟩ e g K=(d<n/\eo g (NT (rd e x)) (rd e x) (uK e d K)):=rfl
def Zz(v:D)(i:Nat):D:=match v with
 | .bH ds=>ds.getD i .undef
 | _=>.undef
def RM(v:D)(i:Nat):Prop:=match v with
 | .bH ds=>i<ds.length
 | _=>False
theorem ZA:Zz (.bH ds) i=ds.getD i .undef:=rfl
theorem Wu:RM (.bH ds) i=(i<ds.length):=rfl
theorem Su:iO P n dr ⟨some d,.extract x i,ty,pos,after,gu⟩ e g K=(d<n/\eo g (RM (rd e x) i) (Zz (rd e x) i) (uK e d K)):=rfl
theorem Qu(f:FuncId)(first:Array Operand):iO P n dr ⟨some d,.makeFunc (.func f) first args,ty,pos,after,gu⟩ e g K=(d<n/\eo g (first = #[]) (.fn f (args.toList.map (rd e))) (uK e d K)):=rfl
def Fm(e:Env)(t:Ty)(x:D):D:=Dg e t x
def qO(e:Env)(t:Ty)(x:D):Prop:=vY e t x
@[congr] theorem UF{t:Ty}{x:D}(u:True->t=t')(v:True->x=x'):Fm e t x=Fm e t' x':=by rw[u trivial,v trivial]
@[congr] theorem Qf{t:Ty}{x:D}(u:True->t=t')(v:True->x=x'):qO e t x=qO e t' x':=by rw[u trivial,v trivial]
theorem ac4(T:TypeId):iO P n dr ⟨some d,.call ⟨.builtin .len,#[x],#[T]⟩,ty,pos,after,gu⟩ e g K=(d<n/\eo g (qO e (bY P T) (rd e x)) (Fm e (bY P T) (rd e x)) (uK e d K)):=rfl
def ac5(l:List Operand):iO P n dr ⟨some d,.call ⟨.builtin .max,l.toArray,T⟩,ty,pos,after,gu⟩ e g K=(d<n/\eo g (l≠[]/\pe (l.map (rd e))) (GD Hj (l.map (rd e))) (uK e d K)):=by simp only[iO,ck,dP];rfl
def ac6(l:List Operand):iO P n dr ⟨some d,.call ⟨.builtin .min,l.toArray,T⟩,ty,pos,after,gu⟩ e g K=(d<n/\eo g (l≠[]/\pe (l.map (rd e))) (GD Ho (l.map (rd e))) (uK e d K)):=by simp only[iO,ck,dP];rfl
def OA(e:Env)(t:Ty)(x lo hi:D):D:=match lo,hi with
 | .int _ l,.int _ h=>KF e t x l.toNat h.toNat
 | _,_=>.undef
def JA(e:Env)(t:Ty)(x lo:D)(hi:Option D):D:=OA e t x lo (hi.getD (.int .i64 (yh (CP e t x))))
def nu(e:Env)(t:Ty)(x lo:D)(hi:Option D):Prop:=Pf (Oz e t x) lo (hi.getD (.int .i64 (yh (CP e t x)))) λ_ _ _=>True
@[congr] theorem Yl{t:Ty}{x lo:D}(u:True->t=t')(v:True->x=x')(B:True->lo=lo')(E:True->hi=hi'):JA e t x lo hi=JA e t' x' lo' hi':=by rw[u trivial,v trivial,B trivial,E trivial]
@[congr] theorem SP{t:Ty}{x lo:D}(u:True->t=t')(v:True->x=x')(B:True->lo=lo')(E:True->hi=hi'):nu e t x lo hi=nu e t' x' lo' hi':=by rw[u trivial,v trivial,B trivial,E trivial]
def Xv(e:Env)(lo:Option Operand):D:=FV e 0 lo
theorem aam:Xv e none=.int .i64 0:=rfl
theorem aan:Xv e (some x)=rd e x:=rfl
theorem XT(lo:Option Operand):iO P n dr ⟨some d,.slice t x lo none none,ty,pos,after,gu⟩ e g K=(d<n/\eo g (nu e (bY P t) (rd e x) (Xv e lo) none) (JA e (bY P t) (rd e x) (Xv e lo) none) (uK e d K)):=rfl
theorem U4(lo:Option Operand):iO P n dr ⟨some d,.slice t x lo (some y) none,ty,pos,after,gu⟩ e g K=(d<n/\eo g (nu e (bY P t) (rd e x) (Xv e lo) (some (rd e y))) (JA e (bY P t) (rd e x) (Xv e lo) (some (rd e y))) (uK e d K)):=rfl
def EP(t:Ty)(ps:List (Nat×D)):List (Nat×Nat×D):=match t with
 | .struct fs=>ps.map λx=>match fs[x.1]? with
  |some f=>(f.off,f.sz,x.2)
  |none=>(0,0,.undef)
 | .arr _ z _=>ps.map λx=>(x.1*z,z,x.2)
 | _=>[]
def tX(t:TypeId)(parts:List (Nat×Operand)):cY P e t parts=EP (bY P t) (parts.map λx=>(x.1,rd e x.2)):=by
 unfold cY EP;cases bY P t<;>simp only[List.map_map,Function.comp_def]<;>rfl
def PS(t:Ty)(z:Option (List D))(ps:List (Nat×D)):D:=match z with
 |some z=>.agg (jd z (EP t ps))
 |none=>.undef
def DJ(t:Ty)(z:Option (List D))(ps:List (Nat×D)):Prop:=match z with
 |some z=>(match t with
  | .struct fs=>∀x∈ps,x.1<fs.length
  | .arr _ _ _=>True
  | _=>False)/\j6 z.length (EP t ps)
 |none=>False
theorem Jg(t:TypeId)(parts:List (Nat×Operand)):Aa P e t parts=DJ (bY P t) (iG P t) (parts.map λx=>(x.1,rd e x.2)):=by
 unfold Aa DJ;rw[tX];cases hz:iG P t with
 |none=>simp
 |some z =>
  simp only[gy,exists_eq_left',eq_iff_iff];refine and_congr ?_ Iff.rfl;cases bY P t<;>simp only;simp only[List.forall_mem_map]
def XP:iO P n dr ⟨some d,.build t M,ty,pos,after,gu⟩ e g K =
  (d<n/\eo g (DJ (bY P t) (iG P t) (M.toList.map λx=>(x.1,rd e x.2))) (PS (bY P t) (iG P t) (M.toList.map λx=>(x.1,rd e x.2))) (uK e d K)):=by
 rw[<-Jg];have:PS (bY P t) (iG P t) (M.toList.map λx=>(x.1,rd e x.2))=dP P e (.build t M):=by
  unfold dP PS;simp only[tX];rfl
 rw[this];rfl
theorem We(t:Ty)(z:List D):PS t (some z) ps=.agg (jd z (EP t ps)):=rfl
theorem TE(z:List D):DJ (.struct fs) (some z) ps=((∀x∈ps,x.1<fs.length)/\j6 z.length (EP (.struct fs) ps)):=rfl
def Wd(s:Nat)(z:List D):DJ (.arr n s a) (some z) ps=j6 z.length (EP (.arr n s a) ps):=by simp[DJ]
def Zn(f:Option FT)(v:D):Nat×Nat×D:=match f with
 |some f=>(f.off,f.sz,v)
 |none=>(0,0,.undef)
theorem RF:EP (.struct fs) ps=ps.map λx=>Zn fs[x.1]? x.2:=rfl
theorem Zo:EP (.arr n z a) ps=ps.map λx=>(x.1*z,z,x.2):=rfl
theorem Wc(o s:Nat)(v:D):Zn (some ⟨o,s,a⟩) v=(o,s,v):=rfl
def Ze(f:Nat×D->Prop):(∀c∈([]:List (Nat×D)),f c)=True:=by simp
def V4(f:Nat×D->Prop)(a:Nat×D)(l:List (Nat×D)):(∀c∈a::l,f c)=(f a/\∀c∈l,f c):=by simp
def Zd(f:D->Prop):(∀c∈([]:List D),f c)=True:=by simp
def V3(f:D->Prop)(a:D)(l:List D):(∀c∈a::l,f c)=(f a/\∀c∈l,f c):=by simp
attribute [go_sem ↓] aaE U2 XO aaG St ac8 aaN aaF Pu XR Pv XS aaD Qv Su Qu ac4 ac5 ac6 aam aan XT U4 XP
attribute [go_sem] U7 SA af9 ace aew ZE aac Xj Xi Ux R9 R8 acN Xg acP Xk acL acM ZA Wu We TE Wd RF Zo Wc Ze V4 Zd V3
end

def KT(d:D):Prop:=d=.undef
def VQ:KT .undef=True:=by simp[KT]
def Xz(e:Env)(d:Nat)(K:Env->Prop)(ob:D)(r:Nat):Prop:=KT (e.o r)/\K (bk (bu e r ob) d (.ref r))
def maK(e:Env)(d:Nat)(K:Env->Prop)(ob:D)(r:Nat):Prop:=KT (e.o r)/\K (bk (bu e r ob) d (.addr r 0))
theorem afd:Xz e d K ob r=(KT (e.o r)/\K (bk (bu e r ob) d (.ref r))):=rfl
theorem ae':maK e d K ob r=(KT (e.o r)/\K (bk (bu e r ob) d (.addr r 0))):=rfl
def NP(e:Env)(d:Nat)(K:Env->Prop)(ob:D):Prop:=pO (nm d 0) (Xz e d K ob)
def maN(e:Env)(d:Nat)(K:Env->Prop)(ob:D):Prop:=pO (nm d 0) (maK e d K ob)
theorem afe:NP e d K ob=pO (nm d 0) (Xz e d K ob):=rfl
theorem afb:maN e d K ob=pO (nm d 0) (maK e d K ob):=rfl
theorem agE:nm d k=16*(d+1)+k:=rfl
def uoK(e:Env)(r:Nat)(K:Env->Prop)(ob:D):Prop:=K (bu e r ob)
theorem afI:uoK e r K ob=K (bu e r ob):=rfl
def ML(e:Env)(r off:Nat)(v:D)(K:Env->Prop)(l:Option yA)(ob:D):Prop:=
 match l,ob with
 |some l,.box cs=>off+l.sz<=cs.length/\v.cells.length=l.sz/\(∀c∈v.cells,cG c)/\K (bu e r (.box (dc cs off v.cells)))
 | _,_=>False
def KX(e:Env)(r z i k:Nat)(v:D)(K:Env->Prop)(l:Option yA)(ob:D):Prop:=
 match l,ob with
 |some l,.own z' rows=>z'=z/\i<rows.length/\k+l.sz<=z/\v.cells.length=l.sz/\(∀c∈v.cells,br c)/\K (bu e r (.own z (rows.set i (dc (rows.getD i []) k v.cells))))
 |some l,.iI z' rows=>z'=z/\i<rows.length/\k+l.sz<=z/\v.cells.length=l.sz/\(∀c∈v.cells,At c)/\K (bu e r (.iI z (rows.set i (dc (rows.getD i []) k v.cells))))
 | _,_=>False
@[congr] theorem To{r off:Nat}{v:D}{l:Option yA}(u:True->l=l')(B:True->x'=ob'):ML e r off v K l x'=ML e r off v K l' ob':=by rw[u trivial,B trivial]
@[congr] theorem Tq{r z i k:Nat}{v:D}{l:Option yA}(u:True->l=l')(B:True->x'=ob'):KX e r z i k v K l x'=KX e r z i k v K l' ob':=by rw[u trivial,B trivial]
theorem Y6(v:D):ML e r off v K (some ⟨a,sz⟩) (.box cs)=(off+sz<=cs.length/\v.cells.length=sz/\(∀c∈v.cells,cG c)/\Norm (dm (.box (dc cs off v.cells))) (uoK e r K)):=rfl
theorem Y9(v:D):KX e r z i k v K (some ⟨a,sz⟩) (.own z' rows) =
  (z'=z/\i<rows.length/\k+sz<=z/\v.cells.length=sz/\(∀c∈v.cells,br c)/\Norm (dm (.own z (rows.set i (dc (rows.getD i []) k v.cells)))) (uoK e r K)):=rfl
def Y7(v:D):KV P e t (.addr r off) K v=ML e r off v K (dS P t) (e.o r):=by
 show Tn P e t r off v K (e.o r)=_;unfold Tn ML;cases e.o r<;>cases dS P t<;>rfl
def V2(v:D):KV P e t (.bB r z i k) K v=KX e r z i k v K (dS P t) (e.o r):=by
 show Tp P e t r z i k v K (e.o r)=_;unfold Tp KX;cases e.o r<;>cases dS P t<;>rfl
def stK(P:Program)(e:Env)(t:TypeId)(x:Operand)(K:Env->Prop)(a:D):Prop:=Norm (dm (rd e x)) (KV P e t a K)
theorem afx(a:D):stK P e t x K a=Norm (dm (rd e x)) (KV P e t a K):=rfl
theorem XU(a:Operand):iO P n dr ⟨none,.store t a x,ty,pos,after,gu⟩ e g K=(g=true/\Norm (dm (rd e a)) (stK P e t x K)):=rfl
theorem abK(v:D):PC e d K v=((∀c∈v.cells,cG c)/\Norm (dm (.box v.cells)) (maN e d K)):=rfl
theorem ac2:iO P n dr ⟨some d,.box t x,ty,pos,after,gu⟩ e g K=(g=true/\d<n/\Norm (dm (rd e x)) (PC e d K)):=rfl
@[congr] theorem SX{z:Option (List D)}(h:True->z=O):KR e d K z=KR e d K O:=by rw[h trivial]
theorem VE(z:List D):KR e d K (some z)=maN e d K (.box z):=rfl
theorem XN:iO P n dr ⟨some d,.alloc t,ty,pos,after,gu⟩ e g K=(g=true/\d<n/\KR e d K (iG P t)):=rfl
def YN(e:Env)(d:Nat)(K:Env->Prop)(z len:Nat)(cs:List D):Prop:=(∀c∈cs,br c)/\Norm (dm (.own z (rowsOf z len cs))) (NP e d K)
@[congr] theorem VM{z len:Nat}{cs:List D}(h:True->cs=as):YN e d K z len cs=YN e d K z len as:=by rw[h trivial]
theorem adY(len:Nat):YN e d K z len cs=((∀c∈cs,br c)/\Norm (dm (.own z (rowsOf z len cs))) (NP e d K)):=rfl
def BsV(e:Env)(len d:Nat)(K:Env->Prop)(z:Nat)(zc:List D)(ps:List (Nat×Nat×D)):Prop:=
 len*z<=2^24/\zc.length=z/\j6 (len*z) ps/\YN e d K z len (lm (jd (List.replicate len zc).flatten ps))
@[congr] theorem VP{len z:Nat}{zc:List D}{ps:List (Nat×Nat×D)}(h:True->ps=R):BsV e len d K z zc ps=BsV e len d K z zc R:=by rw[h trivial]
theorem ad0(len:Nat)(ps:List (Nat×Nat×D)):BsV e len d K z zc ps=(len*z<=2^24/\zc.length=z/\j6 (len*z) ps/\YN e d K z len (lm (jd (List.replicate len zc).flatten ps))):=rfl
@[congr] theorem VN{len:Nat}{ps:List (Nat×Operand)}{t:Ty}{z:Option (List D)}(u:True->t=t')(v:True->z=O):Is e len ps d K t z=Is e len ps d K t' O:=by rw[u trivial,v trivial]
theorem adZ(len:Nat)(ps:List (Nat×Operand)):Is e len ps d K (.slice z by_ a) (some zc)=BsV e len d K z zc (lm (ps.map λx=>(x.1*z,z,rd e x.2))):=rfl
def PD(e:Env)(len:Nat)(ps:List (Nat×Operand))(dr:Bool)(d:Nat)(K:Env->Prop)(t:Ty)(z:Option (List D))(ns:List Nat):Prop:=(dr=true->ns=[])/\Is (eu ns e) len ps d K t z
@[congr] theorem VO{len:Nat}{ps:List (Nat×Operand)}{t:Ty}{z:Option (List D)}(h:True->L=U):PD e len ps dr d K t z L=PD e len ps dr d K t z U:=by rw[h trivial]
theorem abL(len:Nat)(ps:List (Nat×Operand))(t:Ty)(z:Option (List D)):PD e len ps dr d K t z []=Is e len ps d K t z:=by simp[PD,eu]
def YO(len:Nat)(ps:List (Nat×Operand))(t:Ty)(z:Option (List D))(rs:List Nat):PD e len ps false d K t z (r::rs)=Is (eu rs (zi r e)) len ps d K t z:=by simp[PD,eu]
def N4(len:Nat):iO P n dr ⟨some d,.buildSlice t len M,ty,pos,after,gu⟩ e g K =
  HD (KG d) (HD (t==QF) (g=true/\dr=false/\bO P n ⟨some d,.buildSlice t len M,ty,pos,after,gu⟩ e K) (d<n/\GK g (PD e len M.toList dr d K (bY P t) (bW P t) (lm (D.aQ (M.toList.map λx=>rd e x.2)))) (K (bk e d (.bH []))))) (d<n/\GK g (PD e len M.toList dr d K (bY P t) (bW P t) (lm (D.aQ (M.toList.map λx=>rd e x.2)))) (K (bk e d (.bH [])))):=by
 cases u:t==QF<;>cases v:KG d<;>simp only[HD,iO,hard,u,v,Bool.and_true,Bool.and_false,cF,eO,Bool.false_eq_true,if_true,if_false]<;>rfl
@[congr] theorem VY{l c:D}{t:Ty}{z:Option (List D)}(u:True->l=x')(v:True->c=v')(B:True->t=t')(E:True->z=O):Mu e d K l c t z=Mu e d K x' v' t' O:=by rw[u trivial,v trivial,B trivial,E trivial]
theorem ad6(k:IntKind)(l c:Int):Mu e d K (.int k l) (.int W c) (.slice z by_ a) (some zc) =
  (0<=l/\l<=c/\c<=2^40/\by_*c<=2^47/\zc.length=z/\(∀d∈zc,br d)/\Norm (dm (.own z (List.replicate l.toNat zc))) (NP e d K)):=rfl
theorem Pw(l:Operand):iO P n dr ⟨some d,.makeSlice t l c,ty,pos,after,gu⟩ e g K=(d<n/\GK g (Mu e d K (dm (rd e l)) (rd e c) (bY P t) (bW P t)) (K (bk e d (.bH [])))):=rfl
def apN(z by_:Nat)(rows rows2:List (List D))(e:Env)(d:Nat)(K:Env->Prop):Prop:=(by_+(1-by_))*(rows.length+rows2.length)<=2^47/\Norm (dm (.own z (rows++rows2))) (NP e d K)
theorem aee:apN z by_ rows rows2 e d K=((by_+(1-by_))*(rows.length+rows2.length)<=2^47/\Norm (dm (.own z (rows++rows2))) (NP e d K)):=rfl
def IE(z by_:Nat)(rows2:List (List D))(e:Env)(d:Nat)(K:Env->Prop):Prop:=(by_+(1-by_))*rows2.length<=2^47/\Norm (dm (.own z rows2)) (NP e d K)
theorem abX:IE z by_ rows2 e d K=((by_+(1-by_))*rows2.length<=2^47/\Norm (dm (.own z rows2)) (NP e d K)):=rfl
def ApO(e:Env)(z by_ d:Nat)(rows2:List (List D))(K:Env->Prop)(r:Nat)(ob:D):Prop:=Iw e z by_ d rows2 K r ob
@[congr] theorem VJ{z r:Nat}{rows2:List (List D)}(h:True->x'=ob'):ApO e z np d rows2 K r x'=ApO e z np d rows2 K r ob':=by rw[h trivial]
theorem abH:ApO e z by_ d rows2 K r (.own z' rows)=(z'=z/\apN z by_ rows rows2 (gn r e) d K):=rfl
@[congr] theorem Ta{z:Nat}{x:D}(u:True->x=x')(v:True->X=Y):rO e z np d K x X=rO e z np d K x' Y:=by rw[u trivial,v trivial]
theorem YL:rO e z by_ d K .nil (some rows2)=IE z by_ rows2 e d K:=by simp[rO,IE,Norm,dm,NP,Xz,pO,KT]
def YK:rO e z by_ d K .emp (some rows2)=IE z by_ rows2 e d K:=by simp[rO,IE,Norm,dm,NP,Xz,pO,KT]
theorem YM:rO e z by_ d K (.ref r) (some rows2)=ApO e z by_ d rows2 K r (dm (e.o r)):=rfl
def bo(e:Env)(x:List Nat)(k:Nat)(d:D):D:=kQ e.o x k d
@[congr] theorem Zp{x:List Nat}{k:Nat}{d:D}(h:True->d=x'):bo e x k d=bo e x k x':=by rw[h trivial]
@[congr] theorem S6{x:D}{t:Ty}(u:True->x=x')(v:True->v'=y')(B:True->t=t')(E:True->Z=t2'):lW e d K x v' t Z=lW e d K x' y' t' t2':=by rw[u trivial,v trivial,B trivial,E trivial]
theorem abI(x:D):lW e d K x ob (.slice z by_ a) (.slice z2 b2 b)=(by_<=2^32/\rO e z by_ d K x (gR z (bo e [] 2 (dm ob)))):=rfl
@[congr] theorem S9{S:Prop}{x:D}{t:Ty}(u:True->x=x')(v:True->v'=y')(B:True->t=t')(E:True->Z=t2'):ux e d K S x v' t Z=ux e d K S x' y' t' t2':=by rw[u trivial,v trivial,B trivial,E trivial]
theorem VL(o l c:Nat)(t:Ty):ux e d K S (.bz r o z l c) ob t g9=S:=rfl
theorem Rh  (t:Ty):ux e d K S .nil (.sl z rows) t g9=lW e d K .nil (.sl z rows) t g9:=rfl
theorem Rg  (t:Ty):ux e d K S .emp (.sl z rows) t g9=lW e d K .emp (.sl z rows) t g9:=rfl
theorem Pz  (t:Ty):ux e d K S (.ref r) .emp t g9=lW e d K (.ref r) .emp t g9:=rfl
theorem PA(t:Ty):ux e d K S (.ref r) (.ref r') t g9=lW e d K (.ref r) (.ref r') t g9:=rfl
theorem Ri(t:Ty):ux e d K S (.ref r) (.sl z rows) t g9=lW e d K (.ref r) (.sl z rows) t g9:=rfl
theorem Pd(o l c:Nat)(t:Ty):ux e d K S (.ref r) (.bz q o z l c) t g9=Fy (isI (e.o r)) S (lW e d K (.ref r) (.bz q o z l c) t g9):=rfl
@[congr] theorem XV{b b':Bool}{A:Prop}(h:True->b=b'):Fy b S A=Fy b' S A:=by rw[h trivial]
theorem aaH{A:Prop}:Fy true S A=S:=rfl
theorem acE:isI (.iI z rows)=true:=rfl
theorem U1(T:TypeId):iO P n dr ⟨some d,.call ⟨.builtin .append,#[x,y],#[T,T2]⟩,ty,pos,after,gu⟩ e g K=(d<n/\g=true/\dr=false/\ux e d K (bO P n ⟨some d,.call ⟨.builtin .append,#[x,y],#[T,T2]⟩,ty,pos,after,gu⟩ e K) (dm (rd e x)) (rd e y) (bY P T) (bY P T2)):=rfl
@[congr] theorem Td{t:Ty}(h:True->t=t'):CS e d K t=CS e d K t':=by rw[h trivial]
def Zy(e:Env)(d:Nat)(K:Env->Prop)(r:Nat):Prop:=KT (e.o r)/\K (bk e d .emp)
theorem ab9:Zy e d K r=(KT (e.o r)/\K (bk e d .emp)):=rfl
theorem abN(b:Nat):CS e d K (.slice z b a)=pO (nm d 0) (Zy e d K):=rfl
@[congr] theorem S4{z:Nat}(h:True->X=Y):EH e z np d K X=EH e z np d K Y:=by rw[h trivial]
theorem VK:EH e z by_ d K (some rows2)=IE z by_ rows2 e d K:=by simp[EH,IE,Norm,dm,NP,Xz,pO,KT]
@[congr] theorem S8{x:D}{t:Ty}(u:True->x=x')(v:True->v'=y')(B:True->t=t')(E:True->Z=t2'):Ak e d K x v' t Z=Ak e d K x' y' t' t2':=by rw[u trivial,v trivial,B trivial,E trivial]
theorem abJ:Ak e d K .emp ob (.slice z by_ a) (.slice z2 b2 b)=(by_<=2^32/\EH e z by_ d K (gR z (bo e [] 2 (dm ob)))):=rfl
theorem Yn(len:Nat)(ps:Array (Nat×Operand)):lU P n np ops ⟨some d,.buildSlice t len ps,ty,pos,after,gu⟩ e K=(d<n/\CS e d K (bY P t)):=rfl
theorem Ym(T:TypeId):lU P n np ops ⟨some d,.call ⟨.builtin .append,#[x,y],#[T,T2]⟩,ty,pos,after,gu⟩ e K=(d<n/\Py np ops ⟨some d,.call ⟨.builtin .append,#[x,y],#[T,T2]⟩,ty,pos,after,gu⟩ (B6 e 2 (lm (rd e y).names))/\Ak e d K (dm (rd e x)) (dm (rd e y)) (bY P T) (bY P T2)):=rfl
theorem RE(T:TypeId):lX P n ⟨some d,.call ⟨.builtin .append,#[x,y],#[T,T2]⟩,ty,pos,after,gu⟩ e g K=(d<n/\g=true/\lW e d K (dm (rd e x)) (dm (rd e y)) (bY P T) (bY P T2)):=rfl
theorem aaC:iO P n dr ⟨dst,.call ⟨.builtin .copy,args,T⟩,ty,pos,after,gu⟩ e g K=(g=true/\dr=false/\bO P n ⟨dst,.call ⟨.builtin .copy,args,T⟩,ty,pos,after,gu⟩ e K):=rfl
theorem ac3:iO P n dr ⟨dst,.call ⟨.builtin .cap,args,T⟩,ty,pos,after,gu⟩ e g K=(g=true/\dr=false/\bO P n ⟨dst,.call ⟨.builtin .cap,args,T⟩,ty,pos,after,gu⟩ e K):=rfl
theorem U3(l m:Operand):iO P n dr ⟨dst,.slice t x (some l) i7 (some m),ty,pos,after,gu⟩ e g K=(g=true/\dr=false/\bO P n ⟨dst,.slice t x (some l) i7 (some m),ty,pos,after,gu⟩ e K):=rfl
theorem XQ:iO P n dr ⟨dst,.call ⟨.builtin .clear,args,T⟩,ty,pos,after,gu⟩ e g K=(g=true/\dr=false/\bO P n ⟨dst,.call ⟨.builtin .clear,args,T⟩,ty,pos,after,gu⟩ e K):=rfl
def lZ:D->List D
 | .fn _ caps=>caps
 | _=>[]
theorem Wj(f:FuncId):lZ (.fn f cs)=cs:=rfl
def ak(P:Program)(dr:Bool)(e:Env)(d:Nat)(f:Operand)(args:List Operand)(K:Env->Prop)(S:Prop)(fv:D)(as:List D):Prop:=fv=rd e f/\as=args.map (rd e)++lZ (rd e f)->vo P dr e d f args K\/(dr=false/\S)
def ak.mk{f:Operand}{args:List Operand}{S:Prop}:(vo P dr e d f args K\/(dr=false/\S))=ak P dr e d f args K S (rd e f) (args.map (rd e)++lZ (rd e f)):=by simp[ak]
@[congr] theorem Rl{f:Operand}{args:List Operand}{S:Prop}(u:True->fv=fv')(v:True->as=as'):ak P dr e d f args K S fv as=ak P dr e d f args K S fv' as':=by rw[u trivial,v trivial]
theorem ak.sem{f:Operand}{args:List Operand}{S:Prop}(u:dr=false)(h:S):ak P dr e d f args K S fv as:=λ_=>.inr ⟨u,h⟩
def aaB(f:Operand):iO P n dr ⟨some d,.call ⟨.value f,args,T⟩,ty,pos,after,gu⟩ e g K =
  (d<n/\GK g (ak P dr e d f args.toList K (bO P n ⟨some d,.call ⟨.value f,args,T⟩,ty,pos,after,gu⟩ e K) (dm (rd e f)) (args.toList.map (rd e)++lZ (rd e f))) (K (bk e d (.bH [])))):=by
 show(d<n/\GK g (vo P dr e d f args.toList K\/(dr=false/\bO P n ⟨some d,.call ⟨.value f,args,T⟩,ty,pos,after,gu⟩ e K)) (K (bk e d (.bH []))))=_;rw[ak.mk];rfl
def Ga(P:Program)(np:Nat)(ops:List Oper)(o:Oper)(e:Env)(d:Nat)(f:Operand)(args:List Operand)(K:Env->Prop)(fv:D)(as:List D):Prop:=fv=rd e f/\as=args.map (rd e)++lZ (rd e f)->PJ P np ops o e d f args K
@[congr] theorem Tl{ops:List Oper}{o:Oper}{f:Operand}{args:List Operand}(u:True->fv=fv')(v:True->as=as'):Ga P np ops o e d f args K fv as=Ga P np ops o e d f args K fv' as':=by rw[u trivial,v trivial]
theorem X6{ops:List Oper}(f:Operand):tU P n np ops ⟨some d,.call ⟨.value f,args,T⟩,ty,pos,after,gu⟩ e g K =
  (d<n/\GK g (Ga P np ops ⟨some d,.call ⟨.value f,args,T⟩,ty,pos,after,gu⟩ e d f args.toList K (dm (rd e f)) (args.toList.map (rd e)++lZ (rd e f))) (K (bk e d (.bH [])))):=by
 show(d<n/\GK g (PJ P np ops _ e d f args.toList K) (K (bk e d (.bH []))))=_;have:PJ P np ops ⟨some d,.call ⟨.value f,args,T⟩,ty,pos,after,gu⟩ e d f args.toList K=Ga P np ops ⟨some d,.call ⟨.value f,args,T⟩,ty,pos,after,gu⟩ e d f args.toList K (rd e f) (args.toList.map (rd e)++lZ (rd e f)):=by simp[Ga]
 rw[this];rfl
attribute [go_sem] VQ agE Y6 Y9 VE adY ad0 adZ abL YO ad6 abH YL YK YM abI VL Rh Rg Pz PA Ri Pd acE abN VK abJ Wj
attribute [go_sem ↓] afd ae' afe afb afI Y7 V2 afx XU abK ac2 XN N4 Pw aee abX aaH U1 ab9 Yn Ym RE aaC ac3 U3 XQ aaB X6
end
end Go.Abs
namespace Go.Abs
open List hiding max min
attribute [go_sem] Bool.not_true Bool.not_false cF Bool.and_true eO Bool.and_false Bool.true_or Bool.or_true Bool.false_or Bool.or_false Bool.not_not true_and and_true if_true if_false ite_true ite_false not_true_eq_false not_false_eq_true
attribute [go_sem] map_cons map_nil length_cons length_nil append_nil nil_append cons_append take_succ_cons take_zero drop_succ_cons drop_zero headD_cons take_nil drop_nil Nat.add_zero Nat.zero_add replicate_succ replicate_zero flatten_cons flatten_nil set_cons_zero set_cons_succ getElem?_cons_zero getElem?_cons_succ getElem?_nil Option.map_some Option.map_none Option.getD_some Option.getD_none
attribute [go_sem] contains_nil contains_cons Bool.or_self beq_self_eq_true
attribute [go_sem] decide_true decide_false Int.natCast_nonneg Int.toNat_natCast forall_eq implies_true true_implies false_implies reduceCtorEq and_self


variable(e:Env)
theorem afo(t:Nat):rd e (.tmp t)=e.t t:=Eq.trans rfl rfl
theorem aaW(v:Value):rd e (.const v)=mW v:=Eq.trans rfl rfl
theorem adl(f:FuncId):rd e (.func f)=.fn f []:=Eq.trans rfl rfl
variable(i j:Nat)
theorem afM(d:D):(bk e i d).t j=if j=i then d else e.t j:=Eq.trans rfl rfl
theorem afL(d:D):(bk e i d).o j=e.o j:=Eq.trans rfl rfl
theorem afJ(d:D):(bu e i d).o j=if j=i then d else e.o j:=Eq.trans rfl rfl
theorem afK(d:D):(bu e i d).t j=e.t j:=Eq.trans rfl rfl
variable(r:Nat)
theorem acI:(gn r e).t j=(e.t j).kill r:=Eq.trans rfl rfl
theorem acH:(gn r e).o j=if j=r then .undef else(e.o j).kill r:=Eq.trans rfl rfl
variable(os ts:EL)
theorem agB:(qz ts os).t j=look ts j:=Eq.trans rfl rfl
theorem agA:(qz ts os).o j=look os j:=Eq.trans rfl rfl
theorem look_nil:look [] j=.undef:=Eq.trans rfl rfl
theorem Xw(d:D)(r:EL):look ((i,d)::r) j=if j=i then d else look r j:=Eq.trans rfl rfl
theorem adD(k:Nat):KP k []=[]:=rfl
variable(ds:List D)
theorem abq(k:Nat)(d:D):KP k (d::ds)=(k,d)::KP (k+1) ds:=rfl
theorem ac7(k:Nat):tj k []=[]:=rfl
variable{hs':List D}
@[congr] theorem ahA(k:Nat){l:List D}(h:True->l=hs'):tj k l=tj k hs':=by rw[h trivial]
def osI(b:Bool)(k:Nat)(d:D)(ds:List D):EL:=if b then tj (k+1) ds else(k,d)::tj (k+1) ds
theorem aaJ(k:Nat)(d:D):tj k (d::ds)=osI (cV d) k d ds:=rfl
theorem agH(k:Nat)(d:D):osI true k d ds=tj (k+1) ds:=rfl
theorem agG(k:Nat)(d:D):osI false k d ds=(k,d)::tj (k+1) ds:=rfl

theorem RL(b:Bool):mW (.bool b)=.bool b:=rfl
variable(k:IntKind)
theorem TT(n:Int):mW (.int k n)=.int k n:=rfl
variable(s:ByteArray)
theorem TV:mW (.string s)=.str s:=rfl
theorem TU:mW (.slice none 0 0)=.nil:=rfl
theorem PW:mW .nilIface=.eB:=rfl
def UL(b:Bool):D.names (.bool b)=[]:=by rw[D.names.eq_def]
variable(m:Int)
def XE:D.names (.int k m)=[]:=by rw[D.names.eq_def]
def XH:D.names (.str s)=[]:=by rw[D.names.eq_def]
def XD:D.names (.emp)=[]:=by rw[D.names.eq_def]
variable(z:Nat)(rows:List (List D))
def aat:D.names (.sl z rows)=[]:=by rw[D.names.eq_def]
variable(cs:List D)
def Si:D.names (.bq cs)=[]:=by rw[D.names.eq_def]
def XF(z:Nat)(rows:List (List D)):D.names (.own z rows)=[]:=by rw[D.names.eq_def]
def XG:D.names (.ref r)=[r]:=by rw[D.names]
variable(o:Nat)
def UK:D.names (.addr r o)=[r]:=by rw[D.names]
def Sj(k:Nat):D.names (.bB r z i k)=[r]:=by rw[D.names]
variable(l:Nat)
def UN(lo:Nat):D.names (.cN r z lo l)=[r]:=by rw[D.names]
variable(c:Nat)
def UM:D.names (.bz r o z l c)=[r]:=by rw[D.names]
def aas(f:FuncId):D.names (.fn f cs)=D.aQ cs:=by rw[D.names]
def XB:D.names (.agg cs)=D.aQ cs:=by rw[D.names]
def XC:D.names (.box cs)=D.aQ cs:=by rw[D.names]
def UJ:D.aQ []=[]:=by rw[D.aQ]
def Sg(d:D)(l:List D):D.aQ (d::l)=d.names++D.aQ l:=by rw[D.aQ]
variable(q:Nat)
def Uv  : D.kill q (.undef)=.undef:=by rw[D.kill.eq_def]
def Xe(b:Bool):D.kill q (.bool b)=.bool b:=by rw[D.kill.eq_def]
def Z2:D.kill q (.int k m)=.int k m:=by rw[D.kill.eq_def]
def Z7:D.kill q (.str s)=.str s:=by rw[D.kill.eq_def]
def Z4  : D.kill q (.nil)=.nil:=by rw[D.kill.eq_def]
def acK:D.kill q (.sl z rows)=.sl z rows:=by rw[D.kill.eq_def]
def Z5:D.kill q (.own z rows)=.own z rows:=by rw[D.kill.eq_def]
def Z6:D.kill q (.ref r)=if r=q then .undef else .ref r:=by rw[D.kill]
def Xd:D.kill q (.addr r o)=if r=q then .undef else .addr r o:=by rw[D.kill]
def Xf(lo:Nat):D.kill q (.cN r z lo l)=if r=q then .undef else .cN r z lo l:=by rw[D.kill]
def acJ(f:FuncId):D.kill q (.fn f cs)=.fn f  (D.gN q cs):=by rw[D.kill]
def Z1:D.kill q (.box cs)=.box  (D.gN q cs):=by rw[D.kill]
def Xc:D.gN q []=[]:=by rw[D.gN]
def Uu(d:D)(l:List D):D.gN q (d::l)=d.kill q::D.gN q l:=by rw[D.gN]
def fz(e:Env)(q:Nat)(d:D):D:=jt (e.o q) q d
def Pk(e:Env)(q:Nat)(l:List D):List D:=rH (e.o q) q l
variable{d':D}
@[congr] theorem ZL{e:Env}{q:Nat}{d:D}(h:True->d=d'):fz e q d=fz e q d':=by rw[h trivial]
@[congr] theorem WK{e:Env}{q:Nat}{d:List D}(h:True->d=hs'):Pk e q d=Pk e q hs':=by rw[h trivial]
def WH(b:Bool)(x d:D):D:=if b then x else d
variable{b':Bool}
@[congr] theorem WI{b:Bool}{x d:D}(h:True->b=b'):WH b x d=WH b' x d:=by rw[h trivial]
theorem ZJ(x d:D):WH true x d=x:=rfl
theorem WJ(x d:D):WH false x d=d:=rfl
def ZM  : fz e q (.undef)=.undef:=by rw[fz,jt.eq_def]
def aci(b:Bool):fz e q (.bool b)=.bool b:=by rw[fz,jt.eq_def]
def aeC:fz e q (.int k m)=.int k m:=by rw[fz,jt.eq_def]
def aeH:fz e q (.str s)=.str s:=by rw[fz,jt.eq_def]
def aeE  : fz e q (.nil)=.nil:=by rw[fz,jt.eq_def]
def aga:fz e q (.sl z rows)=.sl z rows:=by rw[fz,jt.eq_def]
def aeF:fz e q (.own z rows)=.own z rows:=by rw[fz,jt.eq_def]
def aeG:fz e q (.ref r)=WH (bm (r==q)) (mG (e.o q)) (.ref r):=by rw[fz,jt];rfl
def ach:fz e q (.addr r o)=WH (bm (r==q)) (j0 mh o (e.o q)) (.addr r o):=by rw[fz,jt];rfl
def af'(f:FuncId):fz e q (.fn f cs)=.fn f  (Pk e q cs):=by rw[fz,jt];rfl
def aeA:fz e q (.agg cs)=.agg  (Pk e q cs):=by rw[fz,jt];rfl
def aeB:fz e q (.box cs)=.box  (Pk e q cs):=by rw[fz,jt];rfl
def acg:Pk e q []=[]:=by rw[Pk,rH]
def ZK(d:D)(l:List D):Pk e q (d::l)=fz e q d::Pk e q l:=by rw[Pk,rH];rfl
def X9(q:Nat->Option Nat)  : D.iV q (.undef)=.undef:=by rw[D.iV.eq_def]
def aaY(q:Nat->Option Nat)(b:Bool):D.iV q (.bool b)=.bool b:=by rw[D.iV.eq_def]
def ado(q:Nat->Option Nat):D.iV q (.int k m)=.int k m:=by rw[D.iV.eq_def]
def ads(q:Nat->Option Nat):D.iV q (.str s)=.str s:=by rw[D.iV.eq_def]
def afp(q:Nat->Option Nat):D.iV q (.sl z rows)=.sl z rows:=by rw[D.iV.eq_def]
def adq(q:Nat->Option Nat):D.iV q (.own z rows)=.own z rows:=by rw[D.iV.eq_def]
def adr(q:Nat->Option Nat):D.iV q (.ref r)=oD (q r) (.ref) .undef:=by rw[D.iV];cases q r<;>rfl
def aaZ(q:Nat->Option Nat)(lo:Nat):D.iV q (.cN r z lo l)=oD (q r) (λx=>.cN x z lo l) .undef:=by rw[D.iV];cases q r<;>rfl
def adm(q:Nat->Option Nat):D.iV q (.agg cs)=.agg  (D.qn q cs):=by rw[D.iV]
def adt(q:Nat->Option Nat):D.iV q (.bH cs)=.bH  (D.qn q cs):=by rw[D.iV]
def adn(q:Nat->Option Nat):D.iV q (.box cs)=.box  (D.qn q cs):=by rw[D.iV]
def aaX(q:Nat->Option Nat):D.qn q []=[]:=by rw[D.qn]
def X8(q:Nat->Option Nat)(d:D)(l:List D):D.qn q (d::l)=d.iV q::D.qn q l:=by rw[D.qn]
theorem WM(f:Nat->D)(d:D):oD (some i) f d=f i:=rfl
theorem WL(f:Nat->D)(d:D):oD none f d=d:=rfl
variable{o':Option Nat}
@[congr] theorem Ue{i:Option Nat}{f:Nat->D}{d:D}(h:True->i=o'):oD i f d=oD o' f d:=by rw[h trivial]
@[congr] theorem P1{b:Bool}{d:D}(h:True->b=b'):bA b d=bA b' d:=by rw[h trivial]
theorem RT(d:D):bA true d=.undef:=rfl
theorem P2(d:D):bA false d=d:=rfl
variable(x:List Nat)
theorem ael:bo e x (j+1) (.int k m)=.int k m:=rfl
theorem aek  : bo e x (j+1) (.emp)=.emp:=rfl
theorem af2:bo e x (j+1) (.sl z rows)=.sl z rows:=rfl
theorem aem:bo e x (j+1) (.ref r)=bA (bm (x.contains r)) (mG (e.o r)):=rfl
theorem ab1:bo e x (j+1) (.addr r o)=bA (bm (x.contains r)) (j0 (bo e x j) o (e.o r)):=rfl
theorem ab2:bo e x (j+1) (.bz r o z l c)=bA (bm (x.contains r)) (iy o z l (e.o r)):=rfl
theorem af1(f:FuncId):bo e x (j+1) (.fn f cs)=.fn f  (cs.map (bo e x j)):=rfl
theorem ab3(d:D):bo e x 0 d=mh d:=rfl
def cv(e:Env)(bw:Bool)(gs:List Nat)(k:Nat)(d:D):D:=conv bw gs e.o k d
variable{gs:List Nat}
@[congr] theorem Zt{e:Env}{bw:Bool}{k:Nat}{d:D}(h:True->d=d'):cv e bw gs k d=cv e bw gs k d':=by rw[h trivial]
variable(bw:Bool)
theorem ab7(b:Bool):cv e bw x (j+1) (.bool b)=.bool b:=rfl
theorem aer:cv e bw x (j+1) (.int k m)=.int k m:=rfl
theorem aeu:cv e bw x (j+1) (.str s)=.str s:=rfl
theorem aes  : cv e bw x (j+1) (.nil)=.nil:=rfl
theorem af5:cv e bw x (j+1) (.sl z rows)=.sl z rows:=rfl
theorem Zu:cv e bw x (j+1) (.bq cs)=.bq cs:=rfl
theorem aet:cv e bw x (j+1) (.ref r)=oD (idx x r) (.ref) (bA (bm (!bw)) (bA (bm (x.contains r)) (yC (e.o r)))):=rfl
theorem ab6:cv e bw x (j+1) (.addr r o)=oD (idx x r) (λx=>.addr x o) (bA (bm (!bw)) (bo e x j (dm (.addr r o)))):=rfl
theorem af4(f:FuncId):cv e bw x (j+1) (.fn f cs)=.fn f  (cs.map (cv e bw x j)):=rfl
theorem aep:cv e bw x (j+1) (.agg cs)=.agg  (cs.map (cv e bw x j)):=rfl
def Ph(e:Env)(bw:Bool)(gs:List Nat)(k:Nat)(d:D):D:=sq bw gs e.o k d
@[congr] theorem Ws{e:Env}{bw:Bool}{k:Nat}{d:D}(h:True->d=d'):Ph e bw gs k d=Ph e bw gs k d':=by rw[h trivial]
theorem ab4:Ph e bw x j (.box cs)=.box (cs.map (cv e bw x j)):=rfl
theorem ab5:Ph e bw x j (.own z rows)=.own z rows:=rfl
attribute [go_sem ↓] afo aaW adl afM afL afJ afK acI acH agB agA look_nil Xw adD ac7 ZJ WJ WM WL RT P2
attribute [go_sem] abq aaJ agH agG RL TT TV TU PW UL XE XH XD aat Si XF XG UK Sj UN UM aas XB XC UJ Sg Uv Xe Z2 Z7 Z4 acK Z5 Z6 Xd Xf acJ Z1 Xc Uu ZM aci aeC aeH aeE aga aeF aeG ach af' aeA aeB acg ZK X9 aaY ado ads afp adq adr aaZ adm adt adn aaX X8 ael aek af2 aem ab1 ab2 af1 ab3 ab7 aer aeu aes af5 Zu aet ab6 af4 aep ab4 ab5
mutual
/-- data that names no object -/
def Pl:D->Prop
 | .fn _ cs=>qy cs
 | .agg cs=>qy cs
 | .bH cs=>qy cs
 | .box _| .own _ _| .iI _ _| .ref _| .addr _ _| .bB _ _ _ _| .cN _ _ _ _| .bz _ _ _ _ _=>False
 | _=>True
def qy:List D->Prop
 | []=>True
 |d::l=>Pl d/\qy l
end
def abT(b:Bool):Pl (.bool b)=True:=by rw[Pl.eq_def]
def ad9:Pl (.int k m)=True:=by rw[Pl.eq_def]
def aea:Pl (.str s)=True:=by rw[Pl.eq_def]
def ad':Pl (.nil)=True:=by rw[Pl.eq_def]
def Y4:Pl (.eB)=True:=by rw[Pl.eq_def]
def afY:Pl (.sl z rows)=True:=by rw[Pl.eq_def]
def Y3:Pl (.bq cs)=True:=by rw[Pl.eq_def]
def afX(f:FuncId):Pl (.fn f cs)=qy cs:=by rw[Pl]
def ad8:Pl (.agg cs)=qy cs:=by rw[Pl]
def aeb:Pl (.bH cs)=qy cs:=by rw[Pl]
def abS:qy []=True:=by rw[qy]
def Y0(d:D)(l:List D):qy (d::l)=(Pl d/\qy l):=by rw[qy]
theorem zP:∀{l:List D},qy l->∀d∈l,Pl d
 | [],_,d,h=>by cases h
 |x::l,h,d,hd=>by
  rw[qy]at h;rcases mem_cons.1 hd with rfl|hd
  ·exact h.1
  ·exact zP h.2 d hd
attribute [go_sem] abT ad9 aea ad' Y4 afY Y3 afX ad8 aeb abS Y0
mutual
theorem Pl.names:∀(d:D),Pl d->d.names=[]
 | .fn _ cs,h=>by rw[Pl]at h;rw[D.names];exact qy.names cs h
 | .agg cs,h=>by rw[Pl]at h;rw[D.names];exact qy.names cs h
 | .bH cs,h=>by rw[Pl]at h;rw[D.names];exact qy.names cs h
 | .box _,h| .own _ _,h| .iI _ _,h| .ref _,h| .addr _ _,h| .bB _ _ _ _,h| .cN _ _ _ _,h| .bz _ _ _ _ _,h=>by rw[Pl]at h;exact h.elim
 | .undef,_| .bool _,_| .int _ _,_| .str _,_| .nil,_| .emp,_| .jh,_| .eB,_| .eW,_| .kP,_| .sl _ _,_| .bq _,_=>by rw[D.names.eq_def]
theorem qy.names:∀(l:List D),qy l->D.aQ l=[]
 | [],_=>by rw[D.aQ]
 |d::l,h=>by rw[qy]at h;rw[D.aQ,Pl.names d h.1,qy.names l h.2];rfl
end
mutual
theorem Pl.iV(f:Nat->Option Nat):∀(d:D),Pl d->d.iV f=d
 | .fn _ cs,h=>by rw[Pl]at h;rw[D.iV,qy.iV f cs h]
 | .agg cs,h=>by rw[Pl]at h;rw[D.iV,qy.iV f cs h]
 | .bH cs,h=>by rw[Pl]at h;rw[D.iV,qy.iV f cs h]
 | .box _,h| .own _ _,h| .iI _ _,h| .ref _,h| .addr _ _,h| .bB _ _ _ _,h| .cN _ _ _ _,h| .bz _ _ _ _ _,h=>by rw[Pl]at h;exact h.elim
 | .undef,_| .bool _,_| .int _ _,_| .str _,_| .nil,_| .emp,_| .jh,_| .eB,_| .eW,_| .kP,_| .sl _ _,_| .bq _,_=>by rw[D.iV.eq_def]
theorem qy.iV(f:Nat->Option Nat):∀(l:List D),qy l->D.qn f l=l
 | [],_=>by rw[D.qn]
 |d::l,h=>by rw[qy]at h;rw[D.qn,Pl.iV f d h.1,qy.iV f l h.2]
end
theorem Pl.conv(bw:Bool)(gs:List Nat)(o:Nat->D):∀(k:Nat)(d:D),Pl d->conv bw gs o k d=d
 | 0,d,h=>by simp[Go.Abs.conv,mh,Pl.names d h]
 |k+1,d,h=>by
  have B:∀cs:List D,qy cs->cs.map (Go.Abs.conv bw gs o k)=cs:=by
   intro cs u
   conv=>rhs;rw[<-map_id cs]
   exact map_congr_left λd v=>Pl.conv bw gs o k d (zP u d v)
  cases d<;>try rfl
  all_goals rw[Pl]at h
  all_goals first|exact h.elim|skip
  all_goals simp only[Go.Abs.conv];rw[B _ h]

variable{fv fv':D}{S:Prop}{as ds':List D}{w:Array Edge}{p:String}{A:Option (Nat×Bool)}(rs:List Nat){l' G:List Nat}{C F:List (Nat×D)}(obs:List (Nat×D))(dv:D)
section
variable{P:Program}{e:Env}{dr:Bool}{K:Env->Prop}{d:Nat}{f:Operand}{args:List Operand}
def ak.aH{k:FuncId}{ds:List D}(h:Spec P k [] ds [] fv)(Q:qy ds/\Pl fv/\K (bk e d fv)):ak P dr e d f args K S (.fn k hs') ds:=by
 rintro⟨v,u⟩;refine .inl ?_;have u:ds=args.map (rd e)++hs':=by rw[u,<-v];rfl
 obtain⟨B,E,N⟩:=Q;refine⟨[],[],false,[],fv,λ_=>⟨rfl,rfl⟩,?_⟩;show kU P e d args [] false [] fv (KW dr K) (rd e f);rw[<-v];refine⟨nodup_nil,by simp,by simp[iA],⟨cX _,by simp⟩,by simp,?_,?_⟩
 ·rw[<-u];have:ds.map (conv false [] e.o 4)=ds:=by
   conv=>rhs;rw[<-map_id ds]
   exact map_congr_left λd O=>Pl.conv false [] e.o 4 d (zP B d O)
  rw[this];exact h
 ·have:dU e d [] [] fv=bk e d fv:=by
   unfold dU;rw[Pl.iV _ fv E];rfl
  rw[this];exact .inl N
def bX(P:Program)(e:Env)(d:Nat)(f:Operand)(args:List Operand)(K:Env->Prop)(gs:List Nat)(bw:Bool)(fv:D)(ds hs:List D):Prop:=
 fv=cv e bw gs 5 (rd e f)->ds=args.map (λx=>cv e bw gs 4 (rd e x))++lZ (cv e bw gs 5 (rd e f))->hs=gs.map (λr=>Ph e bw gs 4 (e.o r))->∃hs' dv,kU P e d args gs bw hs' dv K (rd e f)
@[congr] theorem Rk{bw:Bool}{ds:List D}(u:True->fv=fv')(v:True->ds=ds')(B:True->as=hs'):bX P e d f args K gs bw fv ds as=bX P e d f args K gs bw fv' ds' hs':=by rw[u trivial,v trivial,B trivial]
theorem ak.fk(fz gs:List Nat)(bw:Bool)(u:dr=true->fz=[]/\gs=[])(h:bX P (eu fz e) d f args K gs bw (cv (eu fz e) bw gs 5 (rd (eu fz e) f)) (args.map (λx=>cv (eu fz e) bw gs 4 (rd (eu fz e) x))++lZ (cv (eu fz e) bw gs 5 (rd (eu fz e) f))) (gs.map (λr=>Ph (eu fz e) bw gs 4 ((eu fz e).o r)))) :
  ak P dr e d f args K S fv as:=by
 intro _;obtain⟨hs',dv,h⟩:=h rfl rfl rfl;exact .inl ⟨fz,gs,bw,hs',dv,u,nN (λ_=>.inl) h⟩
def JV(P:Program)(e:Env)(d:Nat)(f:Operand)(args:List Operand)(K:Env->Prop)(gs:List Nat)(bw:Bool)(fv:D)(ds hs:List D):Prop:=
 fv=cv e bw gs 5 (rd e f)->ds=args.map (λx=>cv e bw gs 4 (rd e x))++lZ (cv e bw gs 5 (rd e f))->hs=gs.map (λr=>Ph e bw gs 4 (e.o r))->∃Φ,Al P e d args gs bw Φ K (rd e f)
@[congr] theorem Rm{bw:Bool}{ds:List D}(u:True->fv=fv')(v:True->ds=ds')(B:True->as=hs'):JV P e d f args K gs bw fv ds as=JV P e d f args K gs bw fv' ds' hs':=by rw[u trivial,v trivial,B trivial]
def uO(r:Nat):List Nat->Prop
 | []=>True
 |x::l=>r≠x/\uO r l
def pE:List Nat->Prop
 | []=>True
 |x::l=>uO x l/\pE l
theorem UX:uO r []=True:=rfl
theorem Sm(x:Nat)(l:List Nat):uO r (x::l)=(r≠x/\uO r l):=rfl
theorem UW:pE []=True:=rfl
theorem Sl(x:Nat)(l:List Nat):pE (x::l)=(uO x l/\pE l):=rfl
theorem BH{r:Nat}:∀{l:List Nat},uO r l->r∉l
 | [],_,h=>by cases h
 |x::l,⟨h1,h2⟩,h=>by
  rcases mem_cons.1 h with rfl|h
  ·exact h1 rfl
  ·exact BH h2 h
theorem uN:∀{l:List Nat},pE l->l.Nodup
 | [],_=>nodup_nil
 |x::l,⟨h1,h2⟩=>nodup_cons.2 ⟨BH h1,uN h2⟩
def MC(d:D):Prop:=Gs d=true
def CR(e:Env):List Nat->Prop
 | []=>True
 |r::rs=>MC (e.o r)/\CR e rs
def yZ(e:Env):List Nat->Prop
 | []=>True
 |r::rs=>KT (e.o r)/\yZ e rs
theorem YH:CR e []=True:=rfl
theorem VF:CR e (r::rs)=(MC (e.o r)/\CR e rs):=rfl
theorem YI:yZ e []=True:=rfl
theorem VH:yZ e (r::rs)=(KT (e.o r)/\yZ e rs):=rfl
@[congr] theorem SZ{l:List Nat}(h:True->l=l'):yZ e l=yZ e l':=by rw[h trivial]
theorem ad1(d:D):MC d=(Gs d=true):=rfl
theorem Zq:Gs (.own z rows)=true:=rfl
theorem Ai:∀{rs:List Nat},CR e rs->∀r∈rs,Gs (e.o r)=true
 | [],_,r,h=>by cases h
 |x::rs,⟨h1,h2⟩,r,h=>by
  rcases mem_cons.1 h with rfl|h
  ·exact h1
  ·exact Ai h2 r h
theorem Aj:∀{rs:List Nat},yZ e rs->∀r∈rs,e.o r=.undef
 | [],_,r,h=>by cases h
 |x::rs,⟨h1,h2⟩,r,h=>by
  rcases mem_cons.1 h with rfl|h
  ·exact h1
  ·exact Aj h2 r h
def Va:List (Nat×D)->Env->Env
 | [],e=>e
 |x::l,e=>Va l (bu e x.1 x.2)
def JU(f:Nat->Option Nat):List Nat->List D->List (Nat×D)
 |r::rs,h::hs=>(r,h.iV f)::JU f rs hs
 | _,_=>[]
theorem xU(f:Nat->Option Nat):∀(ns:List Nat)(hs:List D)(e:Env),BY f ns hs e=Va (JU f ns hs) e
 | [],_,_=>rfl
 | _::_,[],_=>rfl
 |r::rs,h::hs,e=>xU f rs hs (bu e r (h.iV f))
def MK(e:Env)(d:Nat)(K:Env->Prop)(u:List Nat)(obs:List (Nat×D))(dv:D):Prop:=K (bk (Va obs (fQ u e)) d dv)
@[congr] theorem V0(u:True->gs=l')(v:True->C=F)(B:True->fv=d'):MK e d K gs C fv=MK e d K l' F d':=by rw[u trivial,v trivial,B trivial]
theorem Y5:MK e d K (r::x) obs dv=MK (gn r e) d K x obs dv:=rfl
theorem abV(x:Nat×D):MK e d K [] (x::obs) dv=MK (bu e x.1 x.2) d K [] obs dv:=rfl
theorem abU:MK e d K [] [] dv=K (bk e d dv):=rfl
def Pe(e:Env)(d:Nat)(K:Env->Prop)(gs:List Nat)(hs':List D)(dv:D)(ns:List Nat):Prop:=MK e d K (iQ gs hs') (JU (DI ns) ns hs') (dv.iV (DI ns))
@[congr] theorem V1(u:True->l'=G):Pe e d K gs hs' fv l'=Pe e d K gs hs' fv G:=by rw[u trivial]
theorem aec(gs:List Nat):Pe e d K gs cs dv x=MK e d K (lm (iQ gs cs)) (JU (DI x) x cs) (dv.iV (DI x)):=rfl
def kU.intro{gs:List Nat}{bw:Bool}{k:FuncId}{v ds hs hs':List D}{dv:D}(h:Spec P k hs ds hs' dv)
  (Q:pE gs/\CR e gs/\yZ e (lm (iA d 0 (hs'.length-gs.length)))/\gs.length<=hs'.length/\hs'.length<=gs.length+16/\(bw=true->mC dv/\∀h∈hs',gY h)/\Pe e d K gs hs' dv (lm (dj d gs hs'))) :
  D.fn k v=cv e bw gs 5 (rd e f)->ds=args.map (λx=>cv e bw gs 4 (rd e x))++lZ (cv e bw gs 5 (rd e f))->hs=gs.map (λr=>Ph e bw gs 4 (e.o r))->kU P e d args gs bw hs' dv K (rd e f):=by
 intro u E O;obtain⟨k1,k2,k3,R,T,U,N⟩:=Q;rw[<-u]at E;cases B:rd e f
 case fn k0 caps0 =>
  rw[B]at u;simp only[cv,conv,D.fn.injEq]at u;obtain⟨rfl,rfl⟩:=u;refine⟨uN k1,Ai k2,Aj k3,⟨R,T⟩,U,?_,?_⟩
  ·subst E;subst O;rw[jH,map_map];exact h
  ·unfold Pe MK at N;unfold dU;rw[xU];exact N
 all_goals rw[B]at u;simp only[cv,conv]at u
 all_goals exfalso
 all_goals first
  |cases u
  | (rename_i r;cases hi:idx gs r<;>rw[hi]at u<;>cases bw<;>simp only[oD,bA,kQ,Bool.not_false,Bool.not_true,if_true,Bool.false_eq_true,if_false]at u<;>first|cases u| (split at u<;>first|cases u| (unfold mG at u;split at u<;>cases u)| (unfold yC at u;split at u<;>(try split at u)<;>cases u)))
  | (rename_i r _;cases hi:idx gs r<;>rw[hi]at u<;>cases bw<;>simp only[oD,bA,kQ,Bool.not_false,Bool.not_true,if_true,Bool.false_eq_true,if_false]at u<;>first|cases u| (split at u<;>first|cases u| (unfold j0 at u;split at u<;>cases u)))
  | (rename_i r _ _ _;cases hi:idx gs r<;>rw[hi]at u<;>cases bw<;>simp only[oD,bA,kQ,Bool.not_false,Bool.not_true,if_true,Bool.false_eq_true,if_false]at u<;>first|cases u| (split at u<;>first|cases u| (unfold pR at u;split at u<;>(try split at u)<;>cases u)| (unfold lY at u;split at u<;>(try split at u)<;>cases u)| (unfold iy at u;split at u<;>(try split at u)<;>cases u)))
  | (rename_i r _ _ _ _;cases hi:idx gs r<;>rw[hi]at u<;>cases bw<;>simp only[oD,bA,kQ,Bool.not_false,Bool.not_true,if_true,Bool.false_eq_true,if_false]at u<;>first|cases u| (split at u<;>first|cases u| (unfold pR at u;split at u<;>(try split at u)<;>cases u)| (unfold lY at u;split at u<;>(try split at u)<;>cases u)| (unfold iy at u;split at u<;>(try split at u)<;>cases u)))
def bX.fV{gs:List Nat}{bw:Bool}{k:FuncId}{u ds hs hs':List D}{dv:D}(h:Spec P k hs ds hs' dv)
  (N:pE gs/\CR e gs/\yZ e (lm (iA d 0 (hs'.length-gs.length)))/\gs.length<=hs'.length/\hs'.length<=gs.length+16/\(bw=true->mC dv/\∀h∈hs',gY h)/\Pe e d K gs hs' dv (lm (dj d gs hs'))) :
  bX P e d f args K gs bw (.fn k u) ds hs:=λv B E=>⟨hs',dv,kU.intro h N v B E⟩
def Iz(l:List Nat):Prop:=l=[]
@[congr] theorem PI{l:List Nat}(h:True->l=l'):Iz l=Iz l':=by rw[h trivial]
def DF(P:Program)(e:Env)(d:Nat)(f:Operand)(args:List Operand)(K:Env->Prop)(gs:List Nat)(fv:D)(ds hs:List D):Prop:=
 fv=cv e false gs 5 (rd e f)->ds=args.map (λx=>cv e false gs 4 (rd e x))++lZ (cv e false gs 5 (rd e f))->hs=gs.map (λr=>Ph e false gs 4 (e.o r))->∃hs' dv,iQ gs hs'=[]/\kU P e d args gs false hs' dv K (rd e f)
@[congr] theorem Rj{ds:List D}(u:True->fv=fv')(v:True->ds=ds')(B:True->as=hs'):DF P e d f args K gs fv ds as=DF P e d f args K gs fv' ds' hs':=by rw[u trivial,v trivial,B trivial]
theorem DF.intro{gs:List Nat}{k:FuncId}{v ds hs hs':List D}{dv:D}(h:Spec P k hs ds hs' dv)
  (u:Iz (lm (iQ gs hs'))/\pE gs/\CR e gs/\yZ e (lm (iA d 0 (hs'.length-gs.length)))/\gs.length<=hs'.length/\hs'.length<=gs.length+16/\Pe e d K gs hs' dv (lm (dj d gs hs'))) :
  DF P e d f args K gs (.fn k v) ds hs:=λB E N=>⟨hs',dv,u.1,kU.intro h ⟨u.2.1,u.2.2.1,u.2.2.2.1,u.2.2.2.2.1,u.2.2.2.2.2.1,(λh=>by cases h),u.2.2.2.2.2.2⟩ B E N⟩
def Ga.afk{np:Nat}{ops:List Oper}{o:Oper}(gs:List Nat)(hr:gs.all (λr=>(Cp np ops (args.headD (.global 0))).contains r)=true)
  (h:Py np ops o (B6 e 5 (lm (gs++D.aQ (rd e f::args.map (rd e)))))/\DF P e d f args K gs (cv e false gs 5 (rd e f)) (args.map (λx=>cv e false gs 4 (rd e x))++lZ (cv e false gs 5 (rd e f))) (gs.map (λr=>Ph e false gs 4 (e.o r)))):Ga P np ops o e d f args K fv as:=by
 intro _;obtain⟨hs',dv,u,v⟩:=h.2 rfl rfl rfl;exact⟨gs,hs',dv,(λr B=>contains_iff_mem.1 (cR.1 hr r B)),h.1,u,v⟩
def JV.intro{gs:List Nat}{bw:Bool}{k:FuncId}{v ds hs:List D}{Φ:List D->D->Prop}(h:vq P k hs ds Φ)
  (k1:pE gs) (k2:CR e gs) (Q:∀hs' dv,Φ hs' dv->yZ e (lm (iA d 0 (hs'.length-gs.length)))/\gs.length<=hs'.length/\hs'.length<=gs.length+16/\(bw=true->mC dv/\∀h∈hs',gY h)/\Pe e d K gs hs' dv (lm (dj d gs hs'))) :
  JV P e d f args K gs bw (.fn k v) ds hs:=by
 intro u E O;refine⟨Φ,?_⟩;rw[<-u]at E;cases B:rd e f
 case fn k0 caps0 =>
  rw[B]at u;simp only[cv,conv,D.fn.injEq]at u;obtain⟨rfl,rfl⟩:=u;refine⟨uN k1,Ai k2,?_,λhs' dv R=>?_⟩
  ·subst E;subst O;rw[jH,map_map];exact h
  ·obtain⟨k3,T,U,V,N⟩:=Q hs' dv R;refine⟨Aj k3,⟨T,U⟩,V,?_⟩;unfold Pe MK at N;unfold dU;rw[xU];exact N
 all_goals rw[B]at u;simp only[cv,conv]at u
 all_goals exfalso
 all_goals first
  |cases u
  | (rename_i r;cases hi:idx gs r<;>rw[hi]at u<;>cases bw<;>simp only[oD,bA,kQ,Bool.not_false,Bool.not_true,if_true,Bool.false_eq_true,if_false]at u<;>first|cases u| (split at u<;>first|cases u| (unfold mG at u;split at u<;>cases u)| (unfold yC at u;split at u<;>(try split at u)<;>cases u)))
  | (rename_i r _;cases hi:idx gs r<;>rw[hi]at u<;>cases bw<;>simp only[oD,bA,kQ,Bool.not_false,Bool.not_true,if_true,Bool.false_eq_true,if_false]at u<;>first|cases u| (split at u<;>first|cases u| (unfold j0 at u;split at u<;>cases u)))
  | (rename_i r _ _ _;cases hi:idx gs r<;>rw[hi]at u<;>cases bw<;>simp only[oD,bA,kQ,Bool.not_false,Bool.not_true,if_true,Bool.false_eq_true,if_false]at u<;>first|cases u| (split at u<;>first|cases u| (unfold pR at u;split at u<;>(try split at u)<;>cases u)| (unfold lY at u;split at u<;>(try split at u)<;>cases u)| (unfold iy at u;split at u<;>(try split at u)<;>cases u)))
  | (rename_i r _ _ _ _;cases hi:idx gs r<;>rw[hi]at u<;>cases bw<;>simp only[oD,bA,kQ,Bool.not_false,Bool.not_true,if_true,Bool.false_eq_true,if_false]at u<;>first|cases u| (split at u<;>first|cases u| (unfold pR at u;split at u<;>(try split at u)<;>cases u)| (unfold lY at u;split at u<;>(try split at u)<;>cases u)| (unfold iy at u;split at u<;>(try split at u)<;>cases u)))
attribute [go_sem] UX Sm UW Sl ad1 Zq Y5 abV abU aec
attribute [go_sem ↓] YH VF YI VH
end
variable(hs:List D)
theorem abE(f:Nat->Option Nat):JU f [] hs=[]:=rfl
variable(h:D)
theorem YG(f:Nat->Option Nat):JU f (r::rs) (h::hs)=(r,h.iV f)::JU f rs hs:=rfl
theorem aef:DI x i=x[i]?:=rfl
theorem Wt:iQ [] hs=[]:=rfl
variable(g:Nat)
theorem TX(gs:List Nat):iQ (g::gs) (h::hs)=if cV h then g::iQ gs hs else iQ gs hs:=rfl
variable(d:Nat)
theorem Wi(gs:List Nat):dj d gs cs=gs++iA d 0 (cs.length-gs.length):=rfl
theorem US(k:Nat):iA d k 0=[]:=rfl
theorem UR(k m:Nat):iA d k (m+1)=nm d k::iA d (k+1) m:=rfl
theorem ack:idx [] r=none:=rfl
theorem ZR(gs:List Nat):idx (g::gs) r=if g=r then some 0 else(idx gs r).map (· + 1):=rfl
theorem WG:eu [] e=e:=rfl
theorem Ub:eu (r::rs) e=eu rs (zi r e):=rfl
theorem aez:(zi r e).t j=fz e r (e.t j):=Eq.trans rfl rfl
theorem aey:(zi r e).o j=if j=r then .undef else fz e r (e.o j):=Eq.trans rfl rfl
attribute [go_sem] abE YG aef Wt TX Wi US UR ack ZR
attribute [go_sem ↓] WG Ub aez aey
attribute [go_sem] or_false false_or
theorem Wh:mG (.own z rows)=.sl z rows:=rfl
theorem Wg:yC (.own z rows)=.sl z rows:=rfl
theorem TG(f:D->D):j0 f o (.box cs)=.bq ((cs.drop o).map f):=rfl
variable(z':Nat)
theorem Wf(len:Nat):iy o z len (.box cs)=if((cs.drop o).take (len*z)).all v8&&decide (o+len*z<=cs.length)then .sl z (rowsOf z len (cs.drop o))else .undef:=rfl
attribute [go_sem] Wh Wg TG Wf
attribute [go_sem] mC qU nF gY gR
attribute [go_sem] mh isEmpty_nil isEmpty_cons
theorem Pm:cV (.undef)=true:=rfl
theorem R4:cV (.own z rows)=false:=rfl
theorem RY:cV (.box cs)=false:=rfl
variable{I:Nat->Bool}{H:Nat->Option Nat}{u':D}
@[congr] theorem Xm{d u:D}(h:True->d=d')(v:True->u=u'):iR H I d u=iR H I d' u':=by rw[h trivial,v trivial]
variable(lv:Nat->Bool)(rh:Nat->Option Nat)
def ae6(d:D):iR rh lv (d) (.undef)=True:=by cases d<;>simp[iR]
variable(a:Bool)
def aaf(b:Bool):iR rh lv (.bool a) (.bool b)=(a=b):=by simp[iR]
variable(k':IntKind)
def acR(a b:Int):iR rh lv (.int k a) (.int k' b)=(k=k'/\a=b):=by simp[iR]
def acU(a b:ByteArray):iR rh lv (.str a) (.str b)=(a=b):=by simp[iR]
def ae5(a b:List (List D)):iR rh lv (.sl z a) (.sl z' b)=(z=z'/\a=b):=by simp[iR]
def Xn(a b:List D):iR rh lv (.bq a) (.bq b)=(a=b):=by simp[iR]
def acS  : iR rh lv (.nil) (.nil)=True:=by simp[iR]
def Xo(a:List (List D)):iR rh lv (.nil) (.sl z a)=(a=[]):=by simp[iR]
def Uz(s:Nat):iR rh lv (.nil) (.ref s)=(rh s=none/\lv s=true):=by simp[iR]
def acT(s:Nat):iR rh lv (.ref r) (.ref s)=(rh s=some r/\lv s=true):=by simp[iR]
variable(b:Nat)
def aae(s a:Nat):iR rh lv (.addr r a) (.addr s b)=(rh s=some r/\lv s=true/\a=b):=by simp[iR]
variable(b1 a1 b2:Nat)
def aah(s a:Nat):iR rh lv (.cN r a a1 z) (.cN s b b1 b2)=(rh s=some r/\lv s=true/\a=b/\a1=b1/\z=b2):=by simp[iR]
variable(b3:Nat)
def aag(s a:Nat):iR rh lv (.bz r a a1 z j) (.bz s b b1 b2 b3)=(rh s=some r/\lv s=true/\a=b/\a1=b1/\z=b2/\j=b3):=by simp[iR]
def acQ(a b:List D):iR rh lv (.agg a) (.agg b)=ju rh lv a b:=by simp[iR]
def acV(a b:List D):iR rh lv (.bH a) (.bH b)=ju rh lv a b:=by simp[iR]
variable(f':FuncId)
def ae4(f:FuncId)(a b:List D):iR rh lv (.fn f a) (.fn f' b)=(f=f'/\ju rh lv a b):=by simp[iR]
def aad  : ju rh lv [] []=True:=by simp[ju]
def Xl(a b:D)(x:List D):ju rh lv (a::x) (b::cs)=(iR rh lv a b/\ju rh lv x cs):=by simp[ju]
@[congr] theorem Uy{d u:List D}(h:True->d=hs')(v:True->u=as):ju H I d u=ju H I hs' as:=by rw[h trivial,v trivial]
@[congr] theorem Xp{d u:D}(h:True->d=d')(v:True->u=u'):I4 H I d u=I4 H I d' u':=by rw[h trivial,v trivial]
theorem acW(a b:List D):I4 rh lv (.box a) (.box b)=ju rh lv a b:=by simp[I4]
def acY(a b:List (List D)):I4 rh lv (.own z a) (.own z' b)=(z=z'/\a=b):=by simp[I4]
def X5  (x:D):pM (.undef) x=[]:=by cases x<;>simp[pM]
def aaS(b:Bool)(x:D):pM (.bool b) x=[]:=by cases x<;>simp[pM]
def adb(x:D):pM (.int k m) x=[]:=by cases x<;>simp[pM]
def adi(x:D):pM (.str s) x=[]:=by cases x<;>simp[pM]
def adf  (x:D):pM (.nil) x=[]:=by cases x<;>simp[pM]
def afn(x:D):pM (.sl z rows) x=[]:=by cases x<;>simp[pM]
def X4(x:D):pM (.bq cs) x=[]:=by cases x<;>simp[pM]
def adg(x:D):pM (.own z rows) x=[]:=by cases x<;>simp[pM]
def adh(s:Nat):pM (.ref s) (.ref r)=[(s,some r)]:=by simp[pM]
def U8(s:Nat):pM (.ref s) .nil=[(s,none)]:=by simp[pM]
def aaR(s a:Nat):pM (.addr s a) (.addr r b)=[(s,some r)]:=by simp[pM]
def aaU(s a:Nat):pM (.cN s a a1 z) (.cN r b b1 b2)=[(s,some r)]:=by simp[pM]
def aaT(s a:Nat):pM (.bz s a a1 z j) (.bz r b b1 b2 b3)=[(s,some r)]:=by simp[pM]
def ac9(a b:List D):pM (.agg a) (.agg b)=wo a b:=by simp[pM]
def adj(a b:List D):pM (.bH a) (.bH b)=wo a b:=by simp[pM]
def ada(a b:List D):pM (.box a) (.box b)=wo a b:=by simp[pM]
def afm(f:FuncId)(a b:List D):pM (.fn f a) (.fn f' b)=wo a b:=by simp[pM]
def aaO(x:List D):wo [] x=[]:=by simp[wo]
def XZ(a b:D)(x:List D):wo (a::x) (b::cs)=pM a b++wo x cs:=by simp[wo]
variable{J:List (Nat×Option Nat)}{M:EL}{L:Nat}(t:TypeId)
attribute [go_sem] Pm R4 RY aaf acR acU ae5 Xn acS Xo Uz acT aae aah aag acQ acV ae4 aad Xl acW acY adh U8 aaR aaU aaT ac9 adj ada afm aaO XZ
attribute [go_sem ↓] ae6 X5 aaS adb adi adf afn X4 adg
section
variable{P:Program}{e:Env}
theorem aaQ:Ji e []=[]:=rfl
theorem X3(d:D)(r:EL):Ji e ((i,d)::r)=pM (dm d) (e.t i)++Ji e r:=rfl
theorem aaP(l:List (Nat×Option Nat)):LY e l []=[]:=rfl
theorem X0(l:List (Nat×Option Nat))(d:D)(r:EL):LY e l ((i,d)::r)=pM (dm d) (XK e (jx l i))++LY e l r:=rfl
@[congr] theorem XL{o:Option Nat}(h:True->o=o'):XK e o=XK e o':=by rw[h trivial]
theorem aax:XK e (some r)=e.o r:=rfl
theorem aaw:XK e none=.undef:=rfl
theorem adu(s:Nat):jx [] s=some s:=rfl
theorem aa7(o:Option Nat)(r:List (Nat×Option Nat))(s:Nat):jx ((i,o)::r) s=if s=i then o else jx r s:=rfl
theorem acm(s:Nat):Iv [] s=false:=rfl
theorem ZS(d:D)(r:EL)(s:Nat):Iv ((i,d)::r) s=if s=i then true else Iv r s:=rfl
@[congr] theorem VU{m:Nat}{ts os:EL}{l:List (Nat×Option Nat)}(h:True->l=J):Tj m e ts os l=Tj m e ts os J:=by rw[h trivial]
@[congr] theorem VW{m:Nat}{ts os:EL}{l:List (Nat×Option Nat)}(h:True->l=J):VV m e ts os l=VV m e ts os J:=by rw[h trivial]
theorem ad2:DG e ts os=Tj 16 e ts os (lm (Ji e ts)):=rfl
theorem ad3(m:Nat):MI m e ts os=Tj m e ts os (lm (Ji e ts)):=rfl
theorem ad4(m:Nat)(l:List (Nat×Option Nat)):Tj m e ts os l=VV m e ts os (lm (l++LY e l os)):=rfl
theorem ad5(m:Nat)(l:List (Nat×Option Nat)):VV m e ts os l=(KU e (jx l) os ts/\CT m e (jx l) os os):=rfl
theorem YX:KU e rh os []=True:=rfl
theorem VX(d:D)(r:EL):KU e rh os ((i,d)::r)=(iR rh (Iv os) (dm (e.t i)) d/\KU e rh os r):=rfl
@[congr] theorem Ti{os:EL}{d:D}{o:Option Nat}(h:True->o=o'):EJ e H os d o=EJ e H os d o':=by rw[h trivial]
theorem VS(d:D):EJ e rh os d (some r)=I4 rh (Iv os) (dm (e.o r)) d:=rfl
theorem VR(d:D):EJ e rh os d none=xK d:=rfl
theorem Uo:xK (.own z rows)=(rows=[]):=rfl
theorem Qi(o:Option Nat):iC o rh []=True:=rfl
def Pp(x:Nat×D)(r:EL):iC none rh (x::r)=iC none rh r:=by simp[iC]
theorem Pq(a:Nat)(d:D)(r:EL):iC (some a) rh ((i,d)::r)=(rh i≠some a/\iC (some a) rh r):=rfl
@[congr] theorem NW{o:Option Nat}{os:EL}(h:True->o=o'):iC o H os=iC o' H os:=by rw[h trivial]
theorem T4(m s:Nat):DU m s (some r)=(m<=s\/r=s):=by simp[DU]
def T1(m s:Nat):DU m s none=(m<=s):=by simp[DU]
theorem YW(m:Nat):CT m e rh os []=True:=rfl
theorem VT(m:Nat)(d:D)(r:EL):CT m e rh os ((i,d)::r)=(Iv r i=false/\EJ e rh os d (rh i)/\iC (rh i) rh r/\DU m i (rh i)/\CT m e rh os r):=rfl
attribute [go_sem ↓] aaQ X3 aaP X0 ad2 ad3 YX VX YW VT
attribute [go_sem] aax aaw adu aa7 acm ZS ad4 ad5 VS VR Uo Qi Pp Pq T4 T1
attribute [go_sem] Nat.zero_le gy Bool.true_eq_false Bool.false_eq_true ne_eq not_false_eq_true

def rtK(m:Nat)(hs':List D)(d:D)(e:Env)(v:D):Prop:=MI m (uY v e) (lm [(0,d)]) (tj 0 hs')
def JX(m:Nat)(e:Env)(ts os:EL):Prop:=MI m e ts os
theorem afq(m:Nat)(d v:D):rtK m cs d e v=JX (nk m) (uY v e) [(0,d)] (lm (tj 0 cs)):=rfl
@[congr] theorem Rx{m:Nat}{ts os:EL}(u:True->m=L)(h:True->os=M):JX m e ts os=JX L e ts M:=by rw[u trivial,h trivial]
theorem YZ(m:Nat):JX m e ts os=MI m e ts os:=rfl
theorem abW(rs:List ResultVar)(m:Nat)(d:D):IA P rs m cs d e=(uX P e rs/\Norm (dm (Dy P e rs)) (rtK m cs d e)):=rfl
theorem aa5(v:D):(uY v e).t j=if j=0 then v else .undef:=Eq.trans rfl rfl
theorem aa4(v:D):(uY v e).o j=e.o j:=Eq.trans rfl rfl
theorem Vf:uX P e []=True:=rfl
theorem SF(r:ResultVar)(rs:List ResultVar):uX P e (r::rs)=(Ci P e r/\uX P e rs):=rfl
theorem Yd(t:Nat):Ci P e (.tmp t)=True:=rfl
def Vg(a:Nat):Ci P e (.cell a t)=vV e (dS P t) (e.t a):=by simp only[Ci,vV]<;>rfl
theorem aa2(t:Nat):Cj P e (.tmp t)=e.t t:=rfl
def Ye(a:Nat):Cj P e (.cell a t)=Qd e (dS P t) (e.t a):=by simp only[Cj,Qd]<;>rfl
theorem aa0(r:ResultVar):Dy P e [r]=Cj P e r:=rfl
theorem aa1(a b:ResultVar)(l:List ResultVar):Dy P e (a::b::l)=.bH ((a::b::l).map (Cj P e)):=rfl
theorem Yc:Dy P e []=.bH []:=rfl
attribute [go_sem ↓] afq abW aa5 aa4 Vf SF Yd Vg aa2 Ye aa0 aa1 Yc
attribute [go_sem] YZ
end

variable(op:BinOp)
theorem Zl(a b:Int):tQ op (.int k a) (.int k' b)=C6 op k a b:=rfl
theorem Zm(a b:ByteArray):tQ op (.str a) (.str b)=Q1 op a b:=rfl
theorem Wb(b:Bool):tQ op (.bool a) (.bool b)=DV op (a==b):=rfl
theorem Zk(a b:List D):tQ op (.agg a) (.agg b)=DV op (bV a b):=rfl
theorem ab0:tQ op .eB .eB=DV op true:=rfl
theorem ab'(b:Bool):DV .eql b=.bool b:=rfl
theorem acd(b:Bool):DV .neq b=.bool (!b):=rfl
theorem PV(a b:D)(x:List D):bV (a::x) (b::cs)=(rZ a b&&bV x cs):=rfl
def RK:bV [] cs=true:=by simp[bV]
theorem TK(a b:Int):rZ (.int k a) (.int k' b)=(a==b):=rfl
theorem RI(b:Bool):rZ (.bool a) (.bool b)=(a==b):=rfl
attribute [go_sem] Zl Zm Wb Zk ab0 ab' acd PV RK TK RI
section
variable{P:Program}
theorem V9(c:Bool)(a b:Int):rU P c op t (.int k a) (.int k' b)=lR op k k' b:=rfl
theorem Wa(c:Bool)(a b:ByteArray):rU P c op t (.str a) (.str b)=Ey op a b:=rfl
theorem TD(c:Bool)(b:Bool):rU P c op t (.bool a) (.bool b)=(isEq op/\bY P t=.bool):=rfl
theorem V8(c:Bool)(a b:List D):rU P c op t (.agg a) (.agg b)=(isEq op/\xI P t=true/\qb (gv P 9 t) a b):=rfl
theorem Zj(c:Bool):rU P c op t .eB .eB=(isEq op/\isIface P t=true/\c=true):=rfl
attribute [go_sem] V9 Wa TD V8 Zj
end
def ZU:isEq .eql=True:=by simp[isEq]
def ZV:isEq .neq=True:=by simp[isEq]
attribute [go_sem] ZU ZV
attribute [go_sem] isConst
variable(ls:List pN)
theorem NH(a b:List D):qb (some ls) a b=dn ls a b:=rfl
theorem Qe:dn [] [] []=True:=rfl
theorem Po(l:pN)(a b:D)(x:List D):dn (l::ls) (a::x) (b::cs)=(Bs l a b/\dn ls x cs):=rfl
theorem UA(a b:Int):Bs .int (.int k a) (.int k' b)=(k=k'):=rfl
theorem Sa(b:Bool):Bs .bool (.bool a) (.bool b)=True:=rfl
theorem acn(a b:Int):C6 .add k a b=.int k (k.wrap (a+b)):=rfl
theorem acC(a b:Int):C6 .sub k a b=.int k (k.wrap (a-b)):=rfl
theorem acv(a b:Int):C6 .mul k a b=.int k (k.wrap (a*b)):=rfl
theorem acy(a b:Int):C6 .quo k a b=.int k (k.wrap (a.tdiv b)):=rfl
theorem acz(a b:Int):C6 .rem k a b=.int k (a.tmod b):=rfl
theorem acp(a b:Int):C6 .eql k a b=.bool (a==b):=rfl
theorem acw(a b:Int):C6 .neq k a b=.bool (a != b):=rfl
theorem acu(a b:Int):C6 .lss k a b=.bool (decide (a<b)):=rfl
theorem acs(a b:Int):C6 .leq k a b=.bool (decide (a<=b)):=rfl
theorem acr(a b:Int):C6 .gtr k a b=.bool (decide (b<a)):=rfl
theorem acq(a b:Int):C6 .geq k a b=.bool (decide (b<=a)):=rfl
def Lx(k:IntKind)(a b:Int):Int:=k.wrap (a*2^(min b.toNat k.bits))
def vQ(k:IntKind)(a b:Int):Int:=a.fdiv (2^(min b.toNat k.bits))
def Uk(k:IntKind)(a b:Int):Int:=k.wrap (BitVec.ofInt k.bits a &&& BitVec.ofInt k.bits b).toNat
def ior(k:IntKind)(a b:Int):Int:=k.wrap (BitVec.ofInt k.bits a |||BitVec.ofInt k.bits b).toNat
def P7(k:IntKind)(n:Int):Int:=k.wrap (BitVec.ofInt k.bits (if k.signed then -1 else k.max) ^^^ BitVec.ofInt k.bits n).toNat
theorem acA(a b:Int):C6 .shl k a b=.int k (Lx k a b):=rfl
theorem acB(a b:Int):C6 .shr k a b=.int k (vQ k a b):=rfl
theorem aco(a b:Int):C6 .and k a b=.int k (Uk k a b):=rfl
theorem aeL(a b:Int):C6 .or k a b=.int k (ior k a b):=rfl
theorem WQ(b:Int):lR .add k k' b=(k=k'):=rfl
theorem W7(b:Int):lR .sub k k' b=(k=k'):=rfl
theorem WX(b:Int):lR .mul k k' b=(k=k'):=rfl
theorem WZ(b:Int):lR .quo k k' b=(k=k'/\b≠0):=rfl
theorem W4(b:Int):lR .rem k k' b=(k=k'/\b≠0):=rfl
theorem WS(b:Int):lR .eql k k' b=(k=k'):=rfl
theorem WY(b:Int):lR .neq k k' b=(k=k'):=rfl
theorem WW(b:Int):lR .lss k k' b=(k=k'):=rfl
theorem WV(b:Int):lR .leq k k' b=(k=k'):=rfl
theorem WU(b:Int):lR .gtr k k' b=(k=k'):=rfl
theorem WT(b:Int):lR .geq k k' b=(k=k'):=rfl
theorem WR(b:Int):lR .and k k' b=(k=k'):=rfl
theorem ZT(b:Int):lR .or k k' b=(k=k'):=rfl
theorem W5(b:Int):lR .shl k k' b=(0<=b):=rfl
theorem W6(b:Int):lR .shr k k' b=(0<=b):=rfl
theorem ady(a b:ByteArray):Q1 .add a b=.str (a++b):=rfl
theorem adz(a b:ByteArray):Q1 .eql a b=.bool (a.toList==b.toList):=rfl
theorem adA(a b:ByteArray):Q1 .neq a b=.bool (!(a.toList==b.toList)):=rfl
theorem Yo(a b:ByteArray):Ey .add a b=(a.size+b.size<=2^62):=rfl
theorem Yp(a b:ByteArray):Ey .eql a b=True:=rfl
theorem Yq(a b:ByteArray):Ey .neq a b=True:=rfl
theorem YA(b:Bool):sV .not (.bool b)=.bool (!b):=rfl
theorem Yz(n:Int):sV .neg (.int k n)=.int k (k.wrap (0-n)):=rfl
theorem YB(n:Int):sV .xor (.int k n)=.int k (P7 k n):=rfl
def Vz(b:Bool):pK .not (.bool b)=True:=by simp[pK]
def Vy(n:Int):pK .neg (.int k n)=True:=by simp[pK]
def VA(n:Int):pK .xor (.int k n)=True:=by simp[pK]
theorem Wr(s:Ty)(n:Int):DP s (.int k) (.int k' n)=.int k (k.wrap n):=rfl
def TW(k1 k2:IntKind)(n:Int):AS (.int k1) (.int k2) (.int k n)=True:=by simp[AS]
theorem UT:NT (.addr r o)=True:=rfl
def AY:List FT->Nat->Nat
 | [],_=>0
 |x::_,0=>x.off
 | _::r,n+1=>AY r n
theorem zU:∀(fs:List FT)(f:Nat),((fs[f]?).map (·.off)).getD 0=AY fs f
 | [],f=>by simp[AY]
 |x::r,0=>by simp[AY]
 |x::r,n+1=>by simp[AY,zU r n]
theorem Ww(x:FT)(r:List FT):AY (x::r) 0=x.off:=rfl
variable(n:Nat)
theorem Wv(x:FT)(r:List FT):AY (x::r) (n+1)=AY r n:=rfl
variable(fs:List FT)
def ZB(f:Nat):Mx fs f (.addr r o)=.addr r (o+AY fs f):=by simp only[Mx,zU]
def Wz(f k:Nat):Mx fs f (.bB r z i k)=.bB r z i (k+AY fs f):=by simp only[Mx,zU]
def Wy(f:Nat):Mx fs f (.bq cs)=.bq (cs.drop (AY fs f)):=by simp only[Mx,zU]
theorem Wx(f:Nat):Li fs f (.addr r o)=(f<fs.length):=rfl
theorem T6(f k:Nat):Li fs f (.bB r z i k)=(f<fs.length):=rfl
theorem T5(f:Nat):Li fs f (.bq cs)=(f<fs.length):=rfl
theorem aeJ(t:Ty)(i:Int):Ug t (.sl z rows) (.int k i)=.bq (rows.getD i.toNat []):=rfl
theorem acj(i:Int):Ug (.slice z b a) (.ref r) (.int k i)=.bB r z i.toNat 0:=rfl
theorem ZQ(t:Ty)(lo len:Nat)(i:Int):Ug t (.cN r z lo len) (.int k i)=.bB r z (lo+i.toNat) 0:=rfl
variable(off:Nat)
theorem ZP(i:Int):Ug (.arr n z a) (.addr r o) (.int k i)=.addr r (o+i.toNat*z):=rfl
theorem ZO(i:Int):Bd e (.slice z' b a) (.sl z rows) (.int k i)=(z=z'/\0<=i/\i<rows.length):=rfl
theorem WO(i:Int):Bd e (.slice z b a) (.ref r) (.int k i)=(0<=i/\Hv z i (e.o r)):=rfl
theorem XX(i:Int):Hv z i (.own z' rows)=(z'=z/\i<rows.length):=rfl
theorem Ui(lo len:Nat)(i:Int):Bd e (.slice z' b a) (.cN r z lo len) (.int k i)=(z=z'/\0<=i/\i<len):=rfl
theorem Uh(i:Int):Bd e (.arr n z a) (.addr r o) (.int k i)=(0<=i/\i<n):=rfl
variable(ea:Bool)
theorem acF(i:Int):ZY (.arr n z ea) (.agg cs) (.int k i)=part ea (i.toNat*z) z cs:=rfl
theorem ZW(i:Int):GW (.arr n z ea) (.agg cs) (.int k i)=(0<=i/\i<n/\cs.length=n*z):=rfl
theorem acG(t:Ty)(i:Int):ZY t (.str s) (.int k i)=.int .u8 ((s[i.toNat]?).map (·.toNat)|>.getD 0):=rfl
def ZX(i:Int):GW .str (.str s) (.int k i)=(0<=i/\i<s.size):=by simp[GW]
theorem aaK:part true o n cs=.agg ((cs.drop o).take n):=rfl
theorem aaL:part false o n cs=(cs.drop o).headD .undef:=rfl
def ZC(f:Option FT)(cs:List D):D:=match f with
 |some x=>part x.agg x.off x.sz cs
 |none=>.undef
def Ni(f:Option FT)(cs:List D):Prop:=match f with
 |some x=>x.off+x.sz<=cs.length
 |none=>False
theorem ZF(f:Nat):Lp fs f (.agg cs)=ZC fs[f]? cs:=rfl
theorem WB(f:Nat):DY fs f (.agg cs)=Ni fs[f]? cs:=rfl
theorem WC(s:Nat):ZC (some ⟨o,s,a⟩) cs=part a o s cs:=rfl
theorem RP(s:Nat):Ni (some ⟨o,s,a⟩) cs=(o+s<=cs.length):=rfl

variable(y:Nat)(hi:Int)
attribute [go_sem] NH Qe Po UA Sa acn acC acv acy acz acp acw acu acs acr acq acA acB aco aeL WQ W7 WX WZ W4 WS WY WW WV WU WT WR ZT W5 W6 ady adz adA Yo Yp Yq YA Yz YB Vz Vy VA Wr TW UT Ww Wv ZB Wz Wy Wx T6 T5 aeJ acj ZQ ZP ZO WO XX Ui Uh acF ZW acG ZX aaK aaL ZF WB WC RP
section
variable{e:Env}
theorem acZ(r:List (List D)):Fm e (.slice z b a) (.sl y r)=.int .i64 r.length:=rfl
theorem aaj:Fm e (.slice z b a) .nil=.int .i64 0:=rfl
theorem aak:Fm e (.slice z b a) (.ref r)=tq (e.o r):=rfl
theorem Sw(r:List (List D)):tq (.own z r)=.int .i64 r.length:=rfl
theorem Xt(lo:Nat):Fm e (.slice z b a) (.cN r y lo l)=.int .i64 l:=rfl
theorem Xr(lo:Nat):Fm e (.slice z b a) (.bz r y lo l c)=.int .i64 l:=rfl
theorem aal:Fm e .str (.str s)=.int .i64 s.size:=rfl
theorem Xq(r:List (List D)):qO e (.slice z b a) (.sl y r)=True:=rfl
theorem UC:qO e (.slice z b a) .nil=True:=rfl
theorem UD:qO e (.slice z b a) (.ref r)=sI (e.o r):=rfl
theorem QB(r:List (List D)):sI (.own z r)=True:=rfl
theorem Sd(lo:Nat):qO e (.slice z b a) (.cN r y lo l)=True:=rfl
theorem Sc(lo:Nat):qO e (.slice z b a) (.bz r y lo l c)=True:=rfl
theorem UE:qO e .str (.str s)=True:=rfl
def QX(z z' N:Nat)(lo hi:Int):Prop:=z=z'/\0<=lo/\lo<=hi/\hi<=N
theorem aft(N:Nat)(lo:Int):QX z z' N lo hi=(z=z'/\0<=lo/\lo<=hi/\hi<=N):=rfl
def EK(z z' N:Nat)(k:IntKind)(lo:Int)(k':IntKind)(hi:Int):Pf (if z=z' then some N else none) (.int k lo) (.int k' hi) (λ_ _ _=>True)=QX z z' N lo hi:=by
 unfold QX;by_cases h:z=z'
 ·simp[h,Pf]
 ·simp[h,Pf]
theorem afs(lo:Int):JA e (.slice z' b a) (.sl z rows) (.int k lo) (some (.int k' hi))=.sl z ((rows.take hi.toNat).drop lo.toNat):=rfl
def abe(lo:Int):nu e (.slice z' b a) (.sl z rows) (.int k lo) (some (.int k' hi))=QX z z' rows.length lo hi:=EK _ _ _ _ _ _ _
theorem adx(lo:Int):JA e .str (.str s) (.int k lo) (some (.int k' hi))=.str (s.extract lo.toNat hi.toNat):=rfl
def Yj(lo:Int):nu e .str (.str s) (.int k lo) (some (.int k' hi))=(0<=lo/\lo<=hi/\hi<=s.size):=by simp[nu,Oz,CP,Pf]
def abh(lo:Int):JA e .str (.str s) (.int k lo) none=.str (s.extract lo.toNat s.size):=by simp[JA,CP,yh,OA,KF]
def Vq(lo:Int):nu e .str (.str s) (.int k lo) none=(0<=lo/\lo<=s.size):=by simp[nu,Oz,CP,yh,Pf]
def Jz(z r:Nat)(lo:Int)(hi:Option Int)(u:D):D:=match u with
 | .own z' rows=>.cN r z' lo.toNat ((hi.getD (yh (if z'=z then some rows.length else none))).toNat-lo.toNat)
 | _=>.undef
def yj(z:Nat)(lo:Int)(hi:Option Int)(u:D):Prop:=match u with
 | .own z' rows=>QX z' z rows.length lo (hi.getD rows.length)
 | _=>False
theorem abd(lo:Int):Jz z r lo (some hi) (.own z' rows)=.cN r z' lo.toNat (hi.toNat-lo.toNat):=rfl
def Yh(lo:Int):Jz z r lo none (.own z rows)=.cN r z lo.toNat (rows.length-lo.toNat):=by simp[Jz,yh]
theorem Vn(lo:Int):yj z lo (some hi) (.own z' rows)=QX z' z rows.length lo hi:=rfl
theorem SN(lo:Int):yj z lo none (.own z' rows)=QX z' z rows.length lo rows.length:=rfl
theorem abf(lo:Int):JA e (.slice z' b a) (.bz r o z l c) (.int k lo) (some (.int k' hi))=.bz r (o+lo.toNat*z) z (hi.toNat-lo.toNat) (c-lo.toNat):=rfl
def Yk(lo:Int):JA e (.slice z b a) (.bz r o z l c) (.int k lo) none=.bz r (o+lo.toNat*z) z (l-lo.toNat) (c-lo.toNat):=by
 simp[JA,CP,yh,OA,KF]
def Vo(lo:Int):nu e (.slice z' b a) (.bz r o z l c) (.int k lo) (some (.int k' hi))=QX z z' c lo hi:=EK _ _ _ _ _ _ _
def SO(lo:Int):nu e (.slice z b a) (.bz r o z l c) (.int k lo) none=(0<=lo/\lo<=l/\l<=c):=by
 simp[nu,Oz,CP,yh,Pf]
def adw(lo:Int):JA e (.slice z b a) (.ref r) (.int k lo) (some (.int k' hi))=Jz z r lo (some hi) (e.o r):=by
 simp only[JA,Option.getD_some,OA,KF,Jz];cases e.o r<;>rfl
def abg(lo:Int):JA e (.slice z b a) (.ref r) (.int k lo) none=Jz z r lo none (e.o r):=by
 simp only[JA,CP,Option.getD_none,OA,KF,Jz];cases e.o r<;>rfl
def Yi(lo:Int):nu e (.slice z b a) (.ref r) (.int k lo) (some (.int k' hi))=yj z lo (some hi) (e.o r):=by
 simp only[nu,Oz,CP,Option.getD_some,yj];cases e.o r<;>try rfl
 exact EK _ _ _ _ _ _ _
def Vp(lo:Int):nu e (.slice z b a) (.ref r) (.int k lo) none=yj z lo none (e.o r):=by
 simp only[nu,Oz,CP,Option.getD_none,yj];cases e.o r<;>try rfl
 simp only[EK,QX];rename_i z' rows;by_cases h:z'=z
 ·simp[h,yh]
 ·simp[h]
attribute [go_sem] acZ aaj aak Sw Xt Xr aal Xq UC UD QB Sd Sc UE aft afs abe adx Yj abh Vq abd Yh Vn SN abf Yk Vo SO adw abg Yi Vp
end

theorem WA:jd cs []=cs:=rfl
theorem T8(s:Nat)(v:D)(r:List (Nat×Nat×D)):jd cs ((o,s,v)::r)=jd (dc cs o v.cells) r:=rfl
theorem T9:j6 n []=True:=rfl
theorem RO(s:Nat)(v:D)(r:List (Nat×Nat×D)):j6 n ((o,s,v)::r)=(v.cells.length=s/\o+s<=n/\(∀c∈v.cells,cG c)/\j6 n r):=rfl
theorem SJ:rowsOf z 0 cs=[]:=rfl
theorem SI:rowsOf z (n+1) cs=cs.take z::rowsOf z n (cs.drop z):=rfl
theorem adI(xs:List D):dc cs o xs=cs.take o++xs++cs.drop (o+xs.length):=rfl
theorem Uc(a d:D)(l:List D):(a::l).getD 0 d=a:=rfl
theorem Ud(a d:D)(l:List D):(a::l).getD (n+1) d=l.getD n d:=rfl
theorem Um:pe []=True:=rfl
theorem RV(n:Int)(r:List D):pe (.int k n::r)=pe r:=rfl
theorem WD(f:D->D->D)(a b:D):GD f [a,b]=f a b:=rfl
def Xx(x:Int):Hj (.int k x) (.int k' hi)=.int k (max x hi):=by
 show D.int k (if hi>x then hi else x)=_;congr 1;rw[Int.max_def];split<;>split<;>omega
def Xy(x:Int):Ho (.int k x) (.int k' hi)=.int k (min x hi):=by
 show D.int k (if hi<x then hi else x)=_;congr 1;rw[Int.min_def];split<;>split<;>omega
theorem TP(b:Bool):D.cells (.bool b)=[.bool b]:=rfl
theorem Wn:D.cells (.int k m)=[.int k m]:=rfl
theorem Wq:D.cells (.str s)=[.str s]:=rfl
theorem Wo:D.cells (.nil)=[.nil]:=rfl
theorem Zs:D.cells (.sl z rows)=[.sl z rows]:=rfl
theorem Wp:D.cells (.ref r)=[.ref r]:=rfl
theorem Zr(f:FuncId):D.cells (.fn f cs)=[.fn f cs]:=rfl
theorem Wm:D.cells (.agg cs)=cs:=rfl
theorem RJ(b:Bool):cG (.bool b)=True:=rfl
theorem TL:cG (.int k m)=True:=rfl
theorem TO:cG (.str s)=True:=rfl
theorem TM:cG (.nil)=True:=rfl
theorem Wl:cG (.sl z rows)=True:=rfl
theorem TN:cG (.ref r)=True:=rfl
theorem Wk(f:FuncId):cG (.fn f cs)=True:=rfl
def Sy(b:Bool):br (.bool b)=True:=by simp[br,cG,D.names]
def U5:br (.int k m)=True:=by simp[br,cG,D.names]
def U6:br (.str s)=True:=by simp[br,cG,D.names]
def XY:br (.sl z rows)=True:=by simp[br,cG,D.names]
attribute [go_sem] WA T8 T9 RO SJ SI adI Uc Ud Um RV WD Xx Xy TP Wn Wq Wo Zs Wp Zr Wm RJ TL TO TM Wl TN Wk Sy U5 U6 XY
end Go.Abs
namespace Go.Abs
open Go.ChangeShapes Go.WideShapes Go.ChangeAt Go.RowKit
variable{f:FuncId}{W e:World}{g:Nat}{a:String}{apart handsOn d c:Bool}{s:ChangeSpec}{b:List PathCond}{i:TypeId}{h:List MemPlace}
section
variable{H:Type}{enc:TypeId×Value->H}{P:Program}

def Kw(P:Program)(ts:List TypeId):Bool:=ts.all λt=>P.readableRec t&&decide (t<P.types.size)
theorem uv(m:laidOutB P=true){W k:World}(l:Below W.heap.size W k){sp:Nat->Bool}:∀{ts:List TypeId} {vs:List Value} {ds:List (DataW H)} {p:List MemPlace},Kw P ts=true ->
  DataW.TrodAll enc P W 0 (λ_=>true) true ts vs ds p->(∀x∈p,x.block<W.heap.size)->(∀x∈p,sp x.block=true)->DataW.TrodAll enc P k 0 sp true ts vs ds p
 | [],_,_,_,_,h,_,_=>by
  obtain⟨rfl,rfl,rfl⟩:=trodAll_nil h;exact trodAll_mk0
 |t::ts,_,_,_,hr,h,hlt,hsp=>by
  obtain⟨v,vs',d,ds',p,q,rfl,rfl,rfl,n,o⟩:=trodAll_cons h;simp only[Kw,List.all_cons,Bool.and_eq_true,bP]at hr;refine⟨p,q,?_,uv m l (by simpa[Kw]using hr.2) o (λx j=>hlt x (List.mem_append_right _ j)) (λx j=>hsp x (List.mem_append_right _ j)),rfl⟩;exact WideElems.Trod_stays m hr.1.1 hr.1.2 n (λx j=>l.same (hlt x (List.mem_append_left _ j))) (λx j=>hsp x (List.mem_append_left _ j))

def Spec.law{ds:List D}(h:Spec P f [] ds [] (.bool true)){vs:Array Value}(l:MO W λ_=>none)(o:vs.size=ds.length)(hr:∀(i:Nat) v x,vs[i]?=some v->ds[i]?=some x->aD (cx W (λ_=>none) (λ_=>none)) v x) :
  Calls P f vs W λe j=>e=.returned (.bool true)/\Below W.heap.size W j:=by
 refine Calls.mono (h.2 W (λ_=>none) (λ_=>none) (λ_=>none) (λ_=>none) vs l (by intro b m h;cases h) (by intro b lo hi h;cases h) o hr ?_) ?_
 ·intro r;have:([]:List D).getD r .undef=.undef:=by simp
  rw[this];rfl
 ·rintro e j ⟨v,rfl,ho⟩;obtain⟨lev,own,S,_,_,p,_,_⟩:=ho.rep;have:=p.iY;subst this;exact⟨rfl,ho.os,ho.tape,ho.output,ho.size,λk n=>ho.old k n rfl⟩

def Za(W:World)(t:Nat×MN):Prop:=∃E x c,W.heap[t.1]?=some (.cells c E x)/\t.2.holds c
def Q5(h:∀t∈tabs,Za W t):MO W λ_=>none:=λt j=>⟨rfl,h t j⟩
def ND{f:Func}{args:Array Value}{ds gs:List (DataW H)}
  (z:DataW.Whole enc P f.params.toList s.vars apart W args.toList ds gs h) (D:s.vars=[]) (u:Below W.heap.size W e) (G:laidOutB P=true) (hr:Kw P f.params.toList=true)
  (t:f.resultTypes = #[i]) (C:P.underlying i=some .bool) (v:s.fn H (ds++gs)={ results:=[.lit (.bool true)],args:=ds }) :
  s.post enc P f apart c handsOn d W args (.bool true) e:=by
 have o:=z;obtain⟨p,q,E,y,rfl,J,I⟩:=z;rw[D]at y;obtain⟨rfl,rfl⟩:=trodVars_none y;have n:∀x∈p,x.block<W.heap.size:=λx m=>by simpa using o.lt x (by simp[m])
 have j:∀sp:Nat->Bool,(∀x∈p,sp x.block=true)->DataW.TrodAll enc P e 0 sp true f.params.toList args.toList (s.fn H (ds++[])).args p:=λsp w=>by
  rw[v];exact uv G u hr E n w
 have k:∀sp:Nat->Bool,DataW.TrodVars enc P e sp s.vars (s.fn H (ds++[])).vars []:=λsp=>by
  rw[v,D];rfl
 have l:∀(b:Nat)(sp:Nat->Bool)(A:Bool),DataW.TrodAll enc P e b sp A f.resultTypes.toList ((Value.bool true).resultList f.resultTypes.size) (s.fn H (ds++[])).results []:=λb sp A=>by
  rw[v,t];exact trodAll_cons_mk (shut_bool C _) trodAll_mk0
 have r:∀x∈p,(λb=>decide (b<W.heap.size)) x.block=true:=λx m=>by simpa using n x m
 refine⟨ds,[],p++[],[],p,[],o,l _ _ _,j _ r,k _,World.keptBut_mono (λx m=>⟨m,?_⟩) (u.frame (· ∈ p++[])),λ_=>?_⟩
 ·simpa using m
 ·refine⟨ok_one t rfl (okWide_bool_mk C _),_,_,([]++p)++[],⟨[]++p,[],trodAll_append (j _ (λ_ _=>rfl)) (l _ _ _),k _,rfl,?_,?_⟩,?_⟩
  ·intro b off B;rw[u.frozen (n (.cell b off) (by simpa using B))];exact J b off (by simpa using B)
  ·intro F;simpa using I F
  ·intro x m _;simpa using m
end
end Go.Abs
namespace Go.Abs
open Go.RowKit
variable{f:FuncId}{d:D}{ds:List D}{e:Nat->Option Value}{b:Nat->Option Nat}
section
variable{P:Program}
def Spec.N0(H:Enters P f)
  (h:∀(w:World)(a:Nat->Option Nat)(j:Nat->Option Value)(vs:Array Value),(∀t∈tabs,∃E x c,w.heap[t.1]?=some (.cells c E x)/\t.2.holds c)->(∀b m,a b=some m->b<w.heap.size)->vs.size=ds.length->(∀(i:Nat) v x,vs[i]?=some v->ds[i]?=some x->aD (cx w a j) v x) ->
   Calls P f vs w λe w'=>∃v,e=.returned v/\Below w.heap.size w w'/\aD (cx w' a j) v d) (G:d.names=[]):Spec P f [] ds [] d:=by
 refine⟨H,?_⟩;intro w a u own0 j vs F q B k hr ho;refine(h w a j vs (λt K=>(F t K).2) q k hr).mono ?_;rintro e w' ⟨v,rfl,hb,hv⟩;have l:∀b lo g,u b=some (lo,g)->jG w w' b lo g:=by
  intro b lo g I;obtain⟨c0,c,E,p,y,z,A⟩:=B b lo g I;have o:b<w.heap.size:=(Array.getElem?_eq_some_iff.1 p).1;exact⟨c0,c,E,p,(hb.block b o).trans y,z,A⟩
 refine⟨v,rfl,hb.os,hb.tape,hb.output,hb.size,λb n _=>hb.block b n,l,a,λ_=>none,λ_=>none,?_,λ_ _ _=>rfl,?_,?_,?_⟩
 ·intro b m J;exact Nat.lt_of_lt_of_le (q b m J) hb.size
 ·exact aD.keep (C:=cx w' a j) (C':=cx w' a λ_=>none) (λ_ _ h=>h) hv (λs k=>by rw[G]at k;cases k)
 ·intro r;have:([]:List D).getD r .undef=.undef:=by simp
  rw[this];rfl
 ·intro i g;simp at g
def Spec.of_same(k:Enters P f)
  (h:∀(w:World)(c:Nat->Option Nat)(a:Nat->Option Value)(vs:Array Value),vs.size=ds.length->(∀(i:Nat) v x,vs[i]?=some v->ds[i]?=some x->aD (cx w c a) v x) ->
   ∃v,Calls P f vs w (λe w'=>e=.returned v/\w'=w)/\aD (cx w c a) v d) (j:d.names=[]):Spec P f [] ds [] d:=by
 refine Spec.N0 k ?_ j;intro w c a vs _ hl l hr;obtain⟨v,g,m⟩:=h w c a vs l hr;refine g.mono ?_;rintro e w' ⟨rfl,rfl⟩;exact⟨v,rfl,Below.refl _ _,m⟩
end
end Go.Abs
namespace Go.Abs
attribute [go_sem] or_self or_true true_or List.length_map Int.cast_ofNat_Int
attribute [go_sem] eq_self bne_self_eq_false List.getD_cons_zero List.getD_cons_succ
def sA(f:Nat->D):List Nat->EL
 | []=>[]
 |i::l=>(i,f i)::sA f l
variable(f:Nat->D)
theorem W8:sA f []=[]:=rfl
variable(i:Nat)(l:List Nat)
theorem Ur:sA f (i::l)=(i,f i)::sA f l:=rfl
def sB(f:Nat->D):List Nat->EL
 | []=>[]
 |i::l=>osI (cV (f i)) i (f i) []++sB f l
theorem W9:sB f []=[]:=rfl
theorem Us:sB f (i::l)=osI (cV (f i)) i (f i) []++sB f l:=rfl
variable{kO kT:EL}{body:(Exit->Env->Prop)->Env->Prop}{e:Env}{Q:Exit->Env->Prop}
attribute [go_sem] W8 Ur W9 Us
def aF.sE{T:Type}(q j:List Nat)(ts os:T->EL)(I:T->Prop)(m:T->Nat)(s0:T)
  (h:I s0) (g:DG e (ts s0++kT) (os s0++kO))
  (hr:∀s,I s->body (jL (λs=>ts s++kT) (λs=>os s++kO) I m s Q) (qz (ts s++kT) (os s++kO)))
  (hT:sA e.t q=kT:=by simp only[go_sem,seval]<;>exact rfl) (hO:sB e.o j=kO:=by simp only[go_sem,seval]<;>exact rfl):aF body Q e:=
 ⟨T,λs=>ts s++kT,λs=>os s++kO,I,m,s0,h,g,hr⟩
def TQ(n:Nat)(I:Nat->Prop)(i:Nat):Prop:=i<=n/\I i
def TS(n:Nat)(i:Nat):Nat:=n-i
def aF.count(n:Nat)(q m:List Nat)(ts os:Nat->EL)(I:Nat->Prop)
  (j:I 0) (g:DG e (ts 0++kT) (os 0++kO))
  (hr:∀i,i<=n->I i->body (jL (λs=>ts s++kT) (λs=>os s++kO) (TQ n I) (TS n) i Q) (qz (ts i++kT) (os i++kO)))
  (hT:sA e.t q=kT:=by simp only[go_sem,seval]<;>exact rfl) (hO:sB e.o m=kO:=by simp only[go_sem,seval]<;>exact rfl):aF body Q e:=
 ⟨Nat,λs=>ts s++kT,λs=>os s++kO,TQ n I,TS n,0,⟨Nat.zero_le _,j⟩,g,λi h=>hr i h.1 h.2⟩
variable{c:Nat->Prop}
def af.bF{n i:Nat}{ts os:Nat->EL}(g:i<n)(h:c (i+1))(j:DG e (ts (i+1)) (os (i+1))):af ts os (TQ n c) (TS n) i e:=
 ⟨i+1,⟨g,h⟩,j,by show n-(i+1)<n-i;omega⟩
variable{d:Prop}
section
variable{P:Program}{n np:Nat}{e:Env}{a b:Code}{Q:Exit->Env->Prop}{p:Prop}[Decidable p]{k:Bool->Prop}
def aU.cQ(g:p->jU P n np a Q e)(j:¬p->jU P n np b Q e):aU P n np a b Q e (.bool (decide p)):=⟨λh=>g (of_decide_eq_true h),λh=>j (of_decide_eq_false h)⟩
def aU.FZ(g:¬p->jU P n np a Q e)(j:p->jU P n np b Q e):aU P n np a b Q e (.bool (!decide p)):=aU.fS (λh=>g (of_decide_eq_false h)) (λh=>j (of_decide_eq_true h))
def bC.cQ(g:p->k true)(j:¬p->k false):bC (some (decide p)) k:=bC.split (λh=>g (of_decide_eq_true h)) (λh=>j (of_decide_eq_false h))
def bC.FZ(g:¬p->k true)(j:p->k false):bC (some (!decide p)) k:=bC.fS (λh=>g (of_decide_eq_false h)) (λh=>j (of_decide_eq_true h))
class PM(q:Prop)(x y:outParam Prop):Prop where
 out:x->y->q
instance ahB{t:Bool}:PM (aU P n np a b Q e (.bool t)) (t=true->jU P n np a Q e) (t=false->jU P n np b Q e):=⟨aU.split⟩
instance agK{t:Bool}:PM (aU P n np a b Q e (.bool (!t))) (t=false->jU P n np a Q e) (t=true->jU P n np b Q e):=⟨aU.fS⟩
instance agJ:PM (aU P n np a b Q e (.bool (decide p))) (p->jU P n np a Q e) (¬p->jU P n np b Q e):=⟨aU.cQ⟩
instance afv:PM (aU P n np a b Q e (.bool (!decide p))) (¬p->jU P n np a Q e) (p->jU P n np b Q e):=⟨aU.FZ⟩
instance ahC{g:Bool}:PM (bC (some g) k) (g=true->k true) (g=false->k false):=⟨bC.split⟩
instance agM{g:Bool}:PM (bC (some (!g)) k) (g=false->k true) (g=true->k false):=⟨bC.fS⟩
instance agL:PM (bC (some (decide p)) k) (p->k true) (¬p->k false):=⟨bC.cQ⟩
instance afw:PM (bC (some (!decide p)) k) (¬p->k true) (p->k false):=⟨bC.FZ⟩
def gr{q x:Prop}[i:PM q x d](g:x)(h:d):q:=i.out g h
end
end Go.Abs
namespace Go.Abs
open List
open Go.ChangeShapes Go.WideShapes Go.ChangeAt Go.RowKit
inductive Sh where
 |int (k:IntKind)
 |bool
 |str
 |sl (z:Nat) (e:List Sh)
def Sh.bytes:Sh->Nat
 | .int k=>k.bits/8
 | .bool=>1
 | .str=>16
 | .sl _ _=>24
def AA:List Sh->Nat
 | []=>0
 |s::ss=>s.bytes+AA ss
mutual
/-- the datum fits the shape of one cell -/
def Fit:Sh->D->Prop
 | .int k,d=>∃n:Int,d=.int k n/\k.min<=n/\n<=k.max
 | .bool,d=>∃b,d=.bool b
 | .str,d=>∃s:ByteArray,d=.str s/\s.size<=reachBytes
 | .sl z e,d=>∃rows:List (List D),d=.sl z rows/\rows.length*AA e<=reachBytes/\∀r∈rows,eG e r
def eG:List Sh->List D->Prop
 | [],ds=>ds=[]
 |s::ss,ds=>∃d r,ds=d::r/\Fit s d/\eG ss r
end
def Fit.perm{s:Sh}{d:D}(h:Fit s d):br d:=by
 cases s<;>simp only[Fit]at h
 ·obtain⟨n,rfl,_⟩:=h;simp[br,cG,D.names]
 ·obtain⟨b,rfl⟩:=h;simp[br,cG,D.names]
 ·obtain⟨b,rfl,_⟩:=h;simp[br,cG,D.names]
 ·obtain⟨b,rfl,_⟩:=h;simp[br,cG,D.names]
theorem eG.perm:∀{ss:List Sh} {ds:List D},eG ss ds->∀d∈ds,br d
 | [],ds,h,d,hd=>by simp only[eG]at h;subst h;cases hd
 |s::ss,ds,h,d,hd=>by
  simp only[eG]at h;obtain⟨x,r,rfl,b,c⟩:=h;rcases mem_cons.1 hd with rfl|hd
  ·exact b.perm
  ·exact c.perm d hd
theorem eG.len:∀{ss:List Sh} {ds:List D},eG ss ds->ds.length=ss.length
 | [],ds,h=>by simp only[eG]at h;subst h;rfl
 |s::ss,ds,h=>by
  simp only[eG]at h;obtain⟨x,r,rfl,h1,b⟩:=h;simp[b.len]
theorem eG.append:∀{ss c:List Sh} {ds b:List D},eG ss ds->eG c b->eG (ss++c) (ds++b)
 | [],c,ds,b,h,h'=>by simp only[eG]at h;subst h;exact h'
 |s::ss,c,ds,b,h,h'=>by
  simp only[eG]at h;obtain⟨x,r,rfl,d,e⟩:=h;simp only[cons_append,eG];exact⟨x,r++b,rfl,d,e.append h'⟩
def oX(C:Cx):List Value->List D->Prop
 | [],ds=>ds=[]
 |v::vs,ds=>∃d r,ds=d::r/\aD C v d/\oX C vs r
theorem oX.append{C:Cx}:∀{vs c:List Value} {ds b:List D},oX C vs ds->oX C c b->oX C (vs++c) (ds++b)
 | [],c,ds,b,h,h'=>by simp only[oX]at h;subst h;exact h'
 |v::vs,c,ds,b,h,h'=>by
  simp only[oX]at h;obtain⟨x,r,rfl,d,e⟩:=h;simp only[cons_append,oX];exact⟨x,r++b,rfl,d,e.append h'⟩
theorem oX.get{C:Cx}:∀{vs:List Value} {ds:List D},oX C vs ds->vs.length=ds.length/\∀(j:Nat) v d,vs[j]?=some v->ds[j]?=some d->aD C v d
 | [],ds,h=>by simp only[oX]at h;subst h;exact⟨rfl,λj v d h=>by simp at h⟩
 |v::vs,ds,h=>by
  simp only[oX]at h;obtain⟨x,r,rfl,f,g⟩:=h;obtain⟨i,k⟩:=g.get;refine⟨by simp[i],?_⟩;intro j u e c b;cases j with
  |zero=>simp at c b;subst c;subst b;exact f
  |succ j=>simp at c b;exact k j u e c b
def shF(g:TypeId->Option (List Sh))(P:Program):List Field->Nat->Option (List Sh)
 | [],_=>some []
 |f::fs,off=>match g f.type,shF g P fs (off+P.cellsOf f.type)with
  |some s,some r=>if f.offset=off/\s.length=P.cellsOf f.type then some (s++r)else none
  | _,_=>none
def SL(P:Program):Nat->TypeId->Option (List Sh)
 | 0,_=>none
 |f+1,t=>match P.underlying t with
  |some (.int k)=>some [.int k]
  |some .bool=>some [.bool]
  |some .string=>some [.str]
  |some (.slice e)=>match SL P f e with
   |some s=>if s.length=P.cellsOf e/\AA s<=P.bytesOf e then some [.sl (P.cellsOf e) s]else none
   |none=>none
  |some (.struct fs)=>match shF (SL P f) P fs.toList 0 with
   |some s=>if s.length=P.cellsOf t then some s else none
   |none=>none
  |some (.array n e)=>match SL P f e with
   |some s=>if s.length=P.cellsOf e/\n*P.cellsOf e=P.cellsOf t then some (replicate n s).flatten else none
   |none=>none
  | _=>none
variable{t:TypeId}{a:Array Field}{p:List MemPlace}{b0:Nat}
section
variable{H:Type}{enc:TypeId×Value->H}{P:Program}{W:World}{sp:Nat->Bool}{hd:Bool}
abbrev c0(W:World):Cx:=cx W (λ_=>none) (λ_=>none)
theorem oc{e:TypeId}{d:DataW H}{q:Nat}:∀{l:List (DataW H)},d∈l->q∈d.weights P e->q∈DataW.weightsAll P e l
 |x::l,h,hq=>by
  simp only[DataW.weightsAll,mem_append];rcases mem_cons.1 h with rfl|h
  ·exact .inl hq
  ·exact .inr (oc h hq)
theorem yK{g:TypeId->Option (List Sh)}{n:Nat}(k:∀t ss cs x,g t=some ss->DataW.trod enc P W 0 sp hd n t cs=some x->(∀m∈x.1.weights P t,m<=reachBytes)->∃ds,eG ss ds/\oX (c0 W) cs ds) :
  ∀(b:List Field)(off:Nat)(cs:List Value)(ss:List Sh),shF g P b off=some ss->(∀f∈b,∃y,DataW.trod enc P W 0 sp hd n f.type ((cs.drop f.offset).take (P.cellsOf f.type))=some y/\∀m∈y.1.weights P f.type,m<=reachBytes) ->
   ∃ds,eG ss ds/\oX (c0 W) ((cs.drop off).take ss.length) ds
 | [],off,cs,ss,h,_=>by simp only[shF,gy]at h;subst h;exact⟨[],rfl,by simp[oX]⟩
 |f::b,off,cs,ss,h,hf=>by
  simp only[shF]at h;split at h
  ·rename_i s r v hr;split at h
   ·rename_i u;obtain⟨rfl,j⟩:=u;simp only[gy]at h;subst h;obtain⟨y,z,c⟩:=hf f (by simp);obtain⟨ds,d,i⟩:=k _ _ _ _ v z c;obtain⟨l,o,q⟩:=yK k b _ cs r hr (λx w=>hf x (by simp[w]));refine⟨ds++l,d.append o,?_⟩;have hlen:=i.get.1.trans (d.len.trans j);have e:(cs.drop f.offset).take (s++r).length=(cs.drop f.offset).take (P.cellsOf f.type)++(cs.drop (f.offset+P.cellsOf f.type)).take r.length:=by
     rw[cT,j,take_add,drop_drop]
    rw[e];exact i.append q
   ·cases h
  ·cases h
theorem BM{e:TypeId}{n:Nat}{s:List Sh}{cs:List Value}:∀(k off:Nat),s.length=P.cellsOf e ->
  (∀i,i<k->∃ds,eG s ds/\oX (c0 W) ((cs.drop ((off+i)*P.cellsOf e)).take (P.cellsOf e)) ds) ->
   ∃ds,eG (replicate k s).flatten ds/\oX (c0 W) ((cs.drop (off*P.cellsOf e)).take (k*P.cellsOf e)) ds
 | 0,off,_,_=>⟨[],by simp[eG],by simp[oX]⟩
 |k+1,off,hl,h=>by
  obtain⟨ds,d,f⟩:=h 0 (by omega)
  obtain⟨c,g,j⟩:=BM (n:=n) k (off+1) hl (λi hi=>by
   have:=h (i+1) (by omega)
   rwa[show off+(i+1)=off+1+i by omega]at this)
  refine⟨ds++c,by rw[replicate_succ,flatten_cons];exact d.append g,?_⟩;have b:(cs.drop (off*P.cellsOf e)).take ((k+1)*P.cellsOf e)=(cs.drop (off*P.cellsOf e)).take (P.cellsOf e)++(cs.drop ((off+1)*P.cellsOf e)).take (k*P.cellsOf e):=by
   rw[Nat.succ_mul k,Nat.add_comm (k*P.cellsOf e),take_add,drop_drop,Nat.succ_mul off]
  rw[b];simpa using f.append j
theorem Qy:∀(f:Nat)(t:TypeId)(ss:List Sh)(w:Nat)(cs:List Value) x,SL P f t=some ss->DataW.trod enc P W 0 sp hd w t cs=some x->(∀m∈x.1.weights P t,m<=reachBytes)->∃ds,eG ss ds/\oX (c0 W) cs ds:=by
 intro f;induction f with
 |zero=>intro t ss w cs x h;simp[SL]at h
 |succ f ih =>
  intro t ss w cs x h K l;simp only[SL]at h;split at h
  ·rename_i k v;simp only[gy]at h;subst h;obtain⟨n,rfl,_,Z⟩:=DataW.trod_int v K;simp only[Lit.wf,Bool.and_eq_true,bP]at Z;exact⟨[.int k n],⟨_,_,rfl,⟨n,rfl,Z.1,Z.2⟩,rfl⟩,⟨_,_,rfl,.int _ _,rfl⟩⟩
  ·rename_i v;simp only[gy]at h;subst h;obtain⟨b,rfl,_⟩:=DataW.trod_bool v K;exact⟨[.bool b],⟨_,_,rfl,⟨b,rfl⟩,rfl⟩,⟨_,_,rfl,.bool _,rfl⟩⟩
  ·rename_i v;simp only[gy]at h;subst h;obtain⟨b,rfl,u,J⟩:=DataW.trod_string v K;have Y:b.size<=reachBytes:=by
    rw[u]at l;exact l _ (by simp[DataW.weights])
   exact⟨[.str b],⟨_,_,rfl,⟨b,rfl,Y⟩,rfl⟩,⟨_,_,rfl,.str _,rfl⟩⟩
  ·rename_i e v;split at h
   ·rename_i s J;split at h
    ·rename_i B;simp only[gy]at h;subst h;obtain⟨B,U⟩:=B;rcases Go.Deep.open_slice v K with⟨rfl,_⟩| ⟨a,len,cap,m,n,Dx,Pl,rfl,hb,hlc,hm,hmm,u,hel⟩
     ·exact⟨[.sl _ []],⟨_,_,rfl,⟨[],rfl,by simp,by simp⟩,rfl⟩,⟨_,_,rfl,.slnil _,rfl⟩⟩
     ·have hlm:len<=m:=by rw[hmm];split<;>omega
      rw[u]at l;simp only[DataW.weights,v]at l;have A:len*P.bytesOf e<=reachBytes:=by
       have:=l _ (mem_cons_self ..);simp only[length_map,length_range]at this;exact Nat.le_trans (gK _ (Nat.le_add_right _ _)) this
      have aa:∀i,i<len->∀q∈(Dx i).weights P e,q<=reachBytes:=λi c q X=>by
       refine l q (mem_cons_of_mem _ (mem_append_left _ ?_));exact oc (mem_map.2 ⟨i,mem_range.2 c,rfl⟩) X
      have hr:∀i,∃row:List D×List Value,i<len->eG s row.1/\oX (c0 W) row.2 row.1/\W.cells? 0 (a.add (i*P.cellsOf e)) (P.cellsOf e)=some row.2:=by
       intro i;by_cases c:i<len
       ·obtain⟨N,F,y⟩:=hel i (by omega);obtain⟨ds,O,h4⟩:=ih _ _ _ _ _ J y (aa i c);exact⟨(ds,N),λ_=>⟨O,h4,F⟩⟩
       ·exact⟨([],[]),λh=>(c h).elim⟩
      let R:=λi=>(Classical.choose (hr i)).1
      let V:=λi=>(Classical.choose (hr i)).2
      have L:∀i,i<len->eG s (R i)/\oX (c0 W) (V i) (R i)/\W.cells? 0 (a.add (i*P.cellsOf e)) (P.cellsOf e)=some (V i):=λi c=>Classical.choose_spec (hr i) c;have z:∀r∈(range len).map R,∃i,i<len/\r=R i:=by
       intro r hr;obtain⟨i,c,rfl⟩:=mem_map.1 hr;exact⟨i,mem_range.1 c,rfl⟩
      refine⟨[.sl _ ((range len).map R)],⟨_,_,rfl,⟨_,rfl,?_,?_⟩,rfl⟩,⟨_,_,rfl,?_,rfl⟩⟩
      ·simp only[length_map,length_range];exact Nat.le_trans (Nat.mul_le_mul_left _ U) A
      ·intro r hr;obtain⟨i,c,rfl⟩:=z r hr;exact(L i c).1
      ·have E:((range len).map R).length=len:=by simp
       have:=aD.sl (C:=c0 W) (P.cellsOf e) a cap ((range len).map R) (λi j=>(V i).getD j Go.undef) (by rw[E];exact hlc) ?_ ?_ ?_ ?_
       ·rw[E]at this;exact this
       ·intro r hr;obtain⟨i,c,rfl⟩:=z r hr;exact(L i c).1.len.trans B
       ·intro r hr d hd;obtain⟨i,c,rfl⟩:=z r hr;exact(L i c).1.perm d hd
       ·intro i j r d c M;simp only[getElem?_map]at c;by_cases o:i<len
        ·simp[o]at c;subst c;obtain⟨g1,g2,g3⟩:=L i o;obtain⟨_,g4,g5⟩:=World.cells?_some g3;have I:j<P.cellsOf e:=by have:=(cJ.1 M).1;rw[g1.len,B]at this;exact this
         have:=g5 j I;rw[Addr.add_add]at this;show vis W (λ_=>none) _=_;unfold vis;simp only;rw[this];simp[getD,ec (show j<(V i).length by omega)]
        ·simp[o]at c
       ·intro i j r d c M;simp only[getElem?_map]at c;by_cases o:i<len
        ·simp[o]at c;subst c;obtain⟨g1,g2,g3⟩:=L i o;obtain⟨k1,k2⟩:=g2.get;have I:j<(V i).length:=by rw[k1];exact(cJ.1 M).1
         refine k2 j _ d ?_ M;simp[getD,ec I]
        ·simp[o]at c
    ·cases h
   ·cases h
  ·rename_i fs v;split at h
   ·rename_i s J;split at h
    ·rename_i B;simp only[gy]at h;subst h;obtain⟨xs,n,rfl,u,G,ab,Q⟩:=DataW.trod_struct v K;rw[u]at l;simp only[DataW.weights,v]at l
     obtain⟨ds,F,y⟩:=yK (n:=n) (g:=SL P f) (λt ss cs x F y O=>ih t ss n cs x F y O) fs.toList 0 cs s J (by
      intro fl S;obtain⟨i,c,he⟩:=getElem_of_mem S;have T:i<fs.size:=by simpa using c
      have:=Q i fl (by rw[Array.getElem?_eq_getElem T];simpa using he);rw[ec (by omega)]at this;refine⟨_,this,λm hm=>l m ?_⟩;have hi2:i<xs.length:=by omega
      exact DataW.weights_mem_each (j:=i) (by rw[getElem?_map,ec c,he];rfl) (by rw[getElem?_map,ec hi2];rfl) m hm)
     refine⟨ds,F,?_⟩;rw[B,<-G]at y;simpa using y
    ·cases h
   ·cases h
  ·rename_i n e v;split at h
   ·rename_i s J;split at h
    ·rename_i B;simp only[gy]at h;subst h;obtain⟨xs,m,rfl,u,G,ab,Q⟩:=DataW.trod_array v K;rw[u]at l;simp only[DataW.weights,v]at l
     obtain⟨ds,F,y⟩:=BM (W:=W) (P:=P) (e:=e) (n:=m) (s:=s) (cs:=cs) n 0 B.1 (by
      intro i c;have:=Q i c;rw[ec (by omega)]at this;have y:=ih _ _ _ _ _ J this (λq X=>l q (oc (mem_map.2 ⟨_,cZ (by omega),rfl⟩) X))
      simpa using y)
     refine⟨ds,F,?_⟩;rw[B.2,<-G]at y;simpa using y
    ·cases h
   ·cases h
  ·cases h
def N6{v:Value}{d:DataW H}{ss:List Sh}(n:P.underlying t=some (.struct a))(l:SL P 9 t=some ss)(c:Value.okWide P W .any b0 t v)(h:DataW.Trod enc P W 0 sp hd t v d p)(o:∀m∈d.weights P t,m<=reachBytes) :
  ∃ds,eG ss ds/\aD (c0 W) v (.agg ds):=by
 obtain⟨cs,rfl,_⟩:=okWide_struct n c;obtain⟨b,k⟩:=h;obtain⟨ds,e,f⟩:=Qy 9 t ss b _ _ l k o;refine⟨ds,e,?_⟩;obtain⟨g,j⟩:=f.get;refine .agg cs ds (by simpa[Value.cells]using g) ?_;intro i v d c hd;exact j i v d (by simpa[Value.cells]using c) hd
def JR{ts:List TypeId}{ds:List (DataW H)}(h:(DataW.weightsEach P ts ds).all (· <= reachBytes)=true)(j:Nat){d:DataW H}(c:ts[j]?=some t)(hd:ds[j]?=some d):∀m∈d.weights P t,m<=reachBytes:=λm b=>by
 have:=cR.1 h m (DataW.weights_mem_each c hd m b);simpa using this
def N8{v:Value}{d:DataW H}(c:P.underlying t=some (.int .i64))(e:Value.okWide P W .any b0 t v)(h:DataW.Trod enc P W 0 sp hd t v d p) :
  ∃n:Int,v=.int .i64 n /\ -9223372036854775808<=n/\n<=9223372036854775807:=by
 obtain⟨n,rfl,_,_,b⟩:=open_int c e h;simp only[Lit.wf,Bool.and_eq_true,bP]at b;exact⟨n,rfl,b.1,b.2⟩
theorem jy{A:Type}{s:List Sh}{c:A->List D}{ok:A->Prop}(h:∀r,eG s r->∃x,ok x/\r=c x):∀{rows:List (List D)},(∀r∈rows,eG s r)->∃xs:List A,rows=xs.map c/\∀x∈xs,ok x
 | [],_=>⟨[],rfl,by simp⟩
 |r::rows,hr=>by
  obtain⟨x,e,rfl⟩:=h r (hr r (by simp));obtain⟨xs,rfl,b⟩:=jy (rows:=rows) h (λr d=>hr r (mem_cons_of_mem _ d));exact⟨x::xs,rfl,by simpa using⟨e,b⟩⟩
end
end Go.Abs
namespace Go.Abs
open List hiding min
theorem zV{z:Nat}(q:z≠0):∀{rows:List (List D)},(∀r∈rows,r.length=z)->∀m,rows.flatten[m]?=(rows[m/z]?).bind (·[m%z]?)
 | [],_,m=>by simp
 |r::rows,h,m=>by
  have hr:=h r (by simp);rw[flatten_cons];by_cases o:m<z
  ·rw[getElem?_append_left (by omega),Nat.div_eq_of_lt o,Nat.mod_eq_of_lt o];rfl
  ·rw[getElem?_append_right (by omega),hr,zV q (λr o=>h r (by simp[o])) (m-z)];have p:m/z=(m-z)/z+1:=by
    have:m=(m-z)+z:=by omega
    rw[this,Nat.add_div_right _ (by omega)];simp
   have e2:(m-z)%z=m%z:=(Nat.mod_eq_sub_mod (by omega)).symm;rw[p,e2];simp
theorem jq{z:Nat}:∀{rows:List (List D)},(∀r∈rows,r.length=z)->rows.flatten.length=rows.length*z
 | [],_=>by simp
 |r::rows,h=>by
  rw[flatten_cons,cT,jq (λr o=>h r (by simp[o])),h r (by simp),length_cons,Nat.succ_mul];omega
theorem DX{z:Nat}:∀{rows:List (List D)} (i:Nat),(∀r∈rows,r.length=z)->rows.flatten.take (i*z)=(rows.take i).flatten
 | [],i,_=>by simp
 |r::rows,0,_=>by simp
 |r::rows,i+1,h=>by
  have hr:=h r (by simp);rw[take_succ_cons,flatten_cons,flatten_cons,Nat.succ_mul,Nat.add_comm,<-hr,take_length_add_append,hr,DX i (λr o=>h r (by simp[o]))]
theorem DW{z:Nat}:∀{rows:List (List D)} (i:Nat),(∀r∈rows,r.length=z)->rows.flatten.drop (i*z)=(rows.drop i).flatten
 | [],i,_=>by simp
 |r::rows,0,_=>by simp
 |r::rows,i+1,h=>by
  have hr:=h r (by simp);rw[drop_succ_cons,flatten_cons,Nat.succ_mul,Nat.add_comm,<-hr,drop_length_add_append,hr,DW i (λr o=>h r (by simp[o]))]
def splice(T:List (List D))(i:Nat)(N:List (List D)):List (List D):=T.take i++N++T.drop (i+N.length)
variable{i:Nat}{N:List (List D)}
def va{T:List (List D)}(h:i+N.length<=T.length):(splice T i N).length=T.length:=by simp[splice];omega
def Cz{T:List (List D)}{r:List D}(h:r∈splice T i N):r∈T\/r∈N:=by
 simp only[splice,mem_append]at h;rcases h with(h|h)|h
 ·exact .inl (mem_of_mem_take h)
 ·exact .inr h
 ·exact .inl (mem_of_mem_drop h)
def Mf{T:List (List D)}{k:Nat}(h:i+N.length<=T.length):(splice T i N)[k]?=if i<=k/\k<i+N.length then N[k-i]? else T[k]?:=by
 unfold splice;have p:(T.take i).length=i:=by simp;omega
 by_cases o:k<i
 ·rw[cu,getElem?_append_left (by omega),getElem?_take_of_lt o,az (by omega)]
 ·by_cases h2:k<i+N.length
  ·rw[getElem?_append_left (by simp;omega),getElem?_append_right (by omega),p,aE (by omega)]
  ·rw[getElem?_append_right (by simp;omega),getElem?_drop,az (by omega)];congr 1;simp;omega
variable{z:Nat}
variable{cs:List D}{a:Addr}{news:List Value}{off r m ly l by_ c:Nat}{f:Option Addr}{rows:List (List D)}{g:D}{b:Value}{y x:Operand}{ea k:Bool}{h j:TypeId}
section
variable{P:Program}{n:Nat}{w0 w w':World}{l0:Nat->Option Nat}{G:Nat->Option (Nat×Nat)}{S0:Nat->Option Value}{lev lev' own own':Nat->Option Nat}{S S':Nat->Option Value}{env env':Env}{tm tm':Nat->Value}
def Inv.CM(h:Inv w0 l0 G S0 w lev own S env tm){ds:List D}(X:env.o r=.box cs)(H:news.length=ds.length)(I:∀v∈news,v.oneCell'=true)
  (J:∀(j:Nat) v d,news[j]?=some v->ds[j]?=some d->aD (cx w lev S) v d) (hoff:off+ds.length<=cs.length) (W:S r=some (.pointer (some a))) :
  ∃w',(storeCells (a.add off) news).run P w=.ok () w'/\Inv w0 l0 G S0 w' lev own S (bu env r (.box (dc cs off ds))) tm:=by
 have t:=h.objs r;rw[X]at t;obtain⟨b,o,c,E,Q,M,h3,R,U,V,h7⟩:=t;have:a=⟨b,o,none⟩:=by rw[Q]at W;cases W;rfl
 subst this;have F:(o+off)+news.length<=c.size:=by omega
 have q:∀j,(bL c (o+off) news)[j]?=if o+off<=j/\j<o+off+ds.length then news[j-(o+off)]? else c[j]?:=by
  intro j;rw[gl _ _ _ _ F,H]
 refine⟨cO w b (bL c (o+off) news) E,?_,?_⟩
 ·have:=eE (P:=P) b (o+off) E news 0 c w M (by simpa using F) I;simp only[Nat.add_zero]at this;rw[cm];exact this
 have A:jB w lev (cO w b (bL c (o+off) news) E) lev:=ig R;refine h.setObj (jl h M (bp _ _ _) V ?_) A (λ_ _=>rfl) (λ_ h=>h) (.inr (by rw[X];simp)) ?_ ?_
 ·intro j O;rw[q,az (by omega)]
 ·intro Y s hs _ C _;have:Y≠b:=by
   rintro rfl;rw[U]at C;cases C;exact hs rfl
  exact⟨fU this _ _,rfl,rfl⟩
 ·have L:(dc cs off ds).length=cs.length:=eF (by omega);refine⟨b,o,_,E,Q,gh (lt_of_block M) _ _,by rw[bp,L];exact h3,R,U,by rw[L];exact V,?_⟩;intro j u e B p;rw[q]at B;rw[sX (by omega)]at p;by_cases O:off<=j/\j<off+ds.length
  ·rw[aE (by omega)]at B;rw[aE O]at p;have Z:o+j-(o+off)=j-off:=by omega
   rw[Z]at B;exact(J _ u e B p).rN A λ_ _ h=>h
  ·rw[az (by omega)]at B;rw[az O]at p;exact(h7 j u e B p).rN A λ_ _ h=>h
def Inv.Ir(h:Inv w0 l0 G S0 w lev own S env tm)(he:env.o r=.own z rows)(L:news.length=N.length*z)(O:∀v∈news,v.oneCell'=true)
  (Y:∀r∈N,r.length=z) (hp:∀r∈N,∀d∈r,br d)
  (Q:∀(i j:Nat) row d,N[i]?=some row->row[j]?=some d->∃u,news[i*z+j]?=some u/\aD (cx w lev S) u d) (U:i+N.length<=rows.length) {len cap:Nat} (Z:S r=some (.slice f len cap)) (W:rows≠[]) :
  ∃b w',f=some b/\(storeCells (b.add (i*z)) news).run P w=.ok () w'/\Inv w0 l0 G S0 w' lev own S (bu env r (.own z (splice rows i N))) tm:=by
 have C:=h.objs r;rw[he]at C;rcases C with⟨_,_,M⟩| ⟨b,c,E,cap',h1,h2,h3,h4,h5,h6,h7,h8,h9,h10⟩
 ·exact(W M).elim
 have:f=some ⟨b,0,none⟩:=by rw[h1]at Z;cases Z;rfl
 subst this;have V:(i+N.length)*z<=cap'*z:=gK z (by omega);rw[Nat.add_mul]at V;have J:i*z+news.length<=c.size:=by omega
 have q:∀j,(bL c (i*z) news)[j]?=if i*z<=j/\j<i*z+N.length*z then news[j-i*z]? else c[j]?:=by
  intro j;rw[gl _ _ _ _ J,L]
 refine⟨_,cO w b (bL c (i*z) news) E,rfl,?_,?_⟩
 ·have:=eE (P:=P) b (i*z) E news 0 c w h2 (by simpa using J) O;simp only[Nat.add_zero]at this;rw[cm,Nat.zero_add];exact this
 have H:jB w lev (cO w b (bL c (i*z) news) E) lev:=ig h7;refine h.setObj (jl h h2 (bp _ _ _) h9 ?_) H (λ_ _=>rfl) (λ_ h=>h) (.inr (by rw[he];simp)) ?_ ?_
 ·intro j hj;rw[q,az (by omega)]
 ·intro b' s hs _ I _;have:b'≠b:=by
   rintro rfl;rw[h8]at I;cases I;exact hs rfl
  exact⟨fU this _ _,rfl,rfl⟩
 ·refine .inr ⟨b,_,E,cap',by rw[va U];exact h1,gh (lt_of_block h2) _ _,by rw[bp];exact h3,by rw[va U];exact h4,?_,?_,h7,h8,by rw[bp];exact h9,?_⟩
  ·intro row t;rcases Cz t with t|t
   ·exact h5 row t
   ·exact Y row t
  ·intro row t;rcases Cz t with t|t
   ·exact h6 row t
   ·exact hp row t
  ·intro B j row x p R;rw[Mf U]at p;by_cases A:i<=B/\B<i+N.length
   ·rw[aE A]at p;have D:j<z:=by rw[<-Y row (bM p)];exact(cJ.1 R).1
    obtain⟨u,X,F⟩:=Q _ j row x p R;refine⟨u,?_,F.rN H λ_ _ h=>h⟩;have e1:(B-i)*z=B*z-i*z:=Nat.sub_mul _ _ _;have e2:i*z<=B*z:=gK z A.1;have e3:=j7 (z:=z) D (show B-i<N.length by omega);rw[q,aE (by omega),<-X];congr 1;omega
   ·rw[az A]at p;have D:j<z:=by rw[<-h5 row (bM p)];exact(cJ.1 R).1
    obtain⟨u,X,F⟩:=h10 B j row x p R;refine⟨u,?_,F.rN H λ_ _ h=>h⟩;rw[q,az ?_]
    ·exact X
    ·rintro⟨g1,g2⟩;rw[<-Nat.add_mul]at g2;refine A ⟨?_,?_⟩
     ·rcases cq B i with hlt|hge
      ·have:=j7 D hlt;omega
      ·exact hge
     ·rcases cq B (i+N.length)with hlt|hge
      ·exact hlt
      ·have:=gK z hge;omega
def kJ.take{V:Cx}{a:Option Addr}{len cap z m:Nat}{R:List (List D)}(h:kJ w V (.slice a len cap) z R)(hm:m<=R.length):kJ w V (.slice a m cap) z (R.take m):=by
 obtain⟨a',cap',e,h1,u,v,A,B⟩:=h;cases e;have s:(R.take m).length=m:=by simp;omega
 have:=show kJ w V (.slice a (R.take m).length cap) z (R.take m)from
  ⟨a,cap,rfl,by omega,λr hr=>u r (mem_of_mem_take hr),λr hr=>v r (mem_of_mem_take hr),λo=>by rw[A o];simp,λt o i j row d p C=>by
   have q:i<m:=by have:=(cJ.1 p).1;rw[s]at this;exact this
   rw[getElem?_take_of_lt q]at p
   exact B t o i j row d p C⟩
 rwa[s]at this
def Src(e:Env)(z m ly:Nat)(rows:List (List D)):D->Prop
 | .bz r off z' l c=>z'=z/\l=ly/\m<=l/\gR z (kQ e.o [] 2 (.bz r off z' m c))=some rows
 |y=>∃R,gR z (kQ e.o [] 2 y)=some R/\R.length=ly/\m<=ly/\rows=R.take m
def Ez(h:Inv w0 l0 G S0 w lev own S env tm)(D:aD (cx w lev S) b g)(O:z≠0)(C:Src env z m ly rows g) :
  (Builtin.lenOf b).run P w=.ok ly w/\rows.length=m/\(∀r∈rows,r.length=z)/\(∀r∈rows,∀d∈r,br d)/\∃news:List Value,(Builtin.firstCells z m b).run P w=.ok news.toArray w/\news.length=rows.length*z/\(∀u∈news,u.oneCell'=true) /\
   ∀(i j:Nat) row d,rows[i]?=some row->row[j]?=some d->∃u,news[i*z+j]?=some u/\aD (cx w lev S) u d:=by
 have key:∃a cap,b=.slice a ly cap/\kJ w (cx w lev S) (.slice a m cap) z rows:=by
  by_cases B:∃r off v l c,g=.bz r off v l c
  ·obtain⟨r,off,v,l,c,rfl⟩:=B;obtain⟨rfl,rfl,M,hr⟩:=C;obtain⟨a,A,s,J,rfl,h3,h4,h5,rfl,H⟩:=D.eg;exact⟨A,_,rfl,gS h (aD.bz r off v m s a A J H (by omega)) hr S⟩
  ·have t:∃R,gR z (kQ env.o [] 2 g)=some R/\R.length=ly/\m<=ly/\rows=R.take m:=by
    cases g<;>first|exact C|exact(B ⟨_,_,_,_,_,rfl⟩).elim
   obtain⟨R,I,L,M,rfl⟩:=t;have p:=gS h D I S;have q:=p;obtain⟨a,cap,rfl,_⟩:=q;rw[<-L];exact⟨a,cap,rfl,p.take (by omega)⟩
 obtain⟨a,cap,rfl,p⟩:=key;have q:=p;obtain⟨a2,cap2,e,g1,E,F,g4,g5⟩:=q;cases e;obtain⟨news,n1,Q,U,V⟩:=nU (P:=P) (w:=w) O p.OU;refine⟨by simp[Builtin.lenOf,Sem.run,pure],rfl,E,F,news,?_,Q,V,U⟩;cases a<;>exact n1
theorem GC{C:Cx}(A:z≠0)(hr:∀r∈rows,r.length=z)(h:∀(i j:Nat) row d,rows[i]?=some row->row[j]?=some d->∃u,news[i*z+j]?=some u/\aD C u d)
  (m:Nat) (v:Value) (d:D) (t:news[m]?=some v) (o:rows.flatten[m]?=some d):aD C v d:=by
 rw[zV A hr]at o;cases p:rows[m/z]? with
 |none=>rw[p]at o;cases o
 |some row =>
  rw[p]at o;obtain⟨u,s,q⟩:=h _ _ row d p o;have e:m/z*z+m%z=m:=by rw[Nat.mul_comm];exact Nat.div_add_mod m z
  rw[e,t]at s;cases s;exact q
section
variable{e:Env}{K:Env->Prop}{d:Nat}{ty T T2:TypeId}{pos:String}{after:Array Edge}{gu:Option (Nat×Bool)}
def bO.J2(hT:bY P T=.slice z by_ ea)(hx:rd e x=.bz r off z l c)(Z:e.o r=.box cs)(D:Src e z (min ly l) ly rows (rd e y))(Y:d<n)
  (B:off+(min ly l)*z<=cs.length) (I:K (bk (bu e r (.box (dc cs off rows.flatten))) d (.int .i64 (min ly l:Nat)))) :
  bO P n ⟨some d,.call ⟨.builtin .copy,#[x,y],#[T,T2]⟩,ty,pos,after,gu⟩ e K:=by
 intro w0 l0 G S0 w lev own S a next Q h hn v q
 have C:=h.pL a rfl x;have U:=h.pL a rfl y;rw[hx]at C;obtain⟨el,inf,hu,hl,hin,hb,hz,zv0,hzv0,hzz0⟩:=bK hT;obtain⟨s,h1,W,h3,news,H,X,h6,h7⟩:=Ez (P:=P) h U hz D;obtain⟨ad,a',cap',hS,hv,g3,g4,g5,rfl,g6⟩:=C.eg;have A:=jq W;have L:news.length=rows.flatten.length:=by rw[X,A]
 by_cases F:min ly l=0
 ·have V:rows=[]:=length_eq_zero_iff.1 (by omega);subst V;have R:news=[]:=length_eq_zero_iff.1 (by simpa using X);subst R;have E:dc cs off []=cs:=by simp[dc]
  have M:bu e r (.box cs)=e:=by
   simp only[bu];cases e with
   |mk t o =>
    simp only[Env.mk.injEq,true_and];funext j;by_cases hj:j=r
    ·subst hj;simp only[if_true];exact Z.symm
    ·simp[hj]
  simp only[flatten_nil,E,M,F]at I;refine upon_value rfl (u:=.int .i64 0) ?_ (cK hn v q Y (h.put (.int _ _)) I);have O:(#[x,y].map a.eval:Array Value) = #[a.eval x,a.eval y]:=by simp
  rw[F]at H;have p:ly.min l=0:=F;cases a'<;>simp[execOp,resolve,Sem.run_bind,pure,Sem.run,invoke,builtin,O,Builtin.copy_,aT hu,hv,s,aZ hl,p,H,goInt,storeCells]
 ·have J:=g6 (by omega);subst J;obtain⟨w',hr,hi⟩:=h.CM (P:=P) Z L h6 (GC hz W h7) (by rw[A,h1];exact B) hS;refine upon_value rfl (u:=.int .i64 (min ly l:Nat)) ?_ (cK hn v q Y (hi.put (.int _ _)) I);have O:(#[x,y].map a.eval:Array Value) = #[a.eval x,a.eval y]:=by simp
  have p:ly.min l=min ly l:=rfl;simp[execOp,resolve,Sem.run_bind,pure,Sem.run,invoke,builtin,O,Builtin.copy_,aT hu,hv,s,aZ hl,p,H,hr,goInt]
def bO.J3{lo len:Nat}{R:List (List D)}(Z:bY P T=.slice z by_ ea)(hx:rd e x=.cN r z lo len)(he:e.o r=.own z R)(B:Src e z (min ly len) ly rows (rd e y))(hd:d<n)
  (v:lo+(min ly len)<=R.length) (h0:min ly len≠0) (X:K (bk (bu e r (.own z (splice R lo rows))) d (.int .i64 (min ly len:Nat)))) :
  bO P n ⟨some d,.call ⟨.builtin .copy,#[x,y],#[T,T2]⟩,ty,pos,after,gu⟩ e K:=by
 intro w0 l0 G S0 w lev own S a next Q h hn F p
 have A:=h.pL a rfl x;have H:=h.pL a rfl y;rw[hx]at A;obtain⟨el,inf,hu,hl,hin,hb,hz,zv0,hzv0,hzz0⟩:=bK Z;obtain⟨s,h1,J,M,news,O,U,V,W⟩:=Ez (P:=P) h H hz B;obtain⟨ad,a',L,cap,cap',Y,hv,I,g4,g5⟩:=A.jP;obtain⟨b,E,C⟩:=I (by omega);obtain⟨b',w',q,hr,hi⟩:=h.Ir (P:=P) he (i:=lo) U V J M W (by omega) Y (by intro e0;subst e0;simp at v;omega);rw[E]at q;cases q;subst C;refine upon_value rfl (u:=.int .i64 (min ly len:Nat)) ?_ (cK hn F p hd (hi.put (.int _ _)) X);have hm:(#[x,y].map a.eval:Array Value) = #[a.eval x,a.eval y]:=by simp
 have t:ly.min len=min ly len:=rfl;simp[execOp,resolve,Sem.run_bind,pure,Sem.run,invoke,builtin,hm,Builtin.copy_,aT hu,hv,s,aZ hl,t,O,hr,goInt]
def bO.cap{x:Operand}{z by_:Nat}{ea:Bool}{r off l c:Nat}(v:bY P T=.slice z by_ ea)(F:rd e x=.bz r off z l c)(A:d<n)(t:K (bk e d (.int .i64 c))):bO P n ⟨some d,.call ⟨.builtin .cap,#[x],#[T]⟩,ty,pos,after,gu⟩ e K:=by
 intro w0 l0 G S0 w lev own S a next Q h C s o
 have q:=h.pL a rfl x;rw[F]at q;obtain⟨el,inf,D,_⟩:=bK v;obtain⟨ad,a',p,hS,E,g3,g4,g5,rfl,g6⟩:=q.eg;refine upon_value rfl (u:=.int .i64 p) ?_ (cK C s o A (h.put (.int _ _)) t);have B:(#[x].map a.eval:Array Value) = #[a.eval x]:=by simp
 simp[execOp,resolve,Sem.run_bind,pure,Sem.run,invoke,builtin,B,Builtin.cap_,aT D,E,goInt]
def L7{t:TypeId}(o:P.underlying t=some (.slice h))(a:Option Addr)(l c:Nat):(Op.equal t (.slice a l c) (.slice none 0 0)).run P w=.ok a.isNone w:=by
 show(Op.equalIn (9999+1) t _ _).run P w=_;cases a<;>(unfold Op.equalIn;simp only[Sem.run_bind,aT o,Result.andThen_ok];rfl)
theorem bO.qg(D:bY P T=.slice z by_ ea)(M:rd e x=.sl r rows)(A:d<n)(v:∀b:Bool,(b=true->rows=[])->K (bk e d (.bool b))) :
  bO P n ⟨some d,.binOp .eql T x (.const (.slice none 0 0)) j,ty,pos,after,gu⟩ e K:=by
 intro w0 l0 G S0 w lev own S a next Q h B q o
 have t:=h.pL a rfl x;rw[M]at t;obtain⟨el,inf,J,_⟩:=bK D;obtain⟨p,cap,L,h1,h2,h3,C,h5⟩:=t.u9;have F:a.eval (.const (.slice none 0 0))=.slice none 0 0:=rfl;have H:=L7 (P:=P) (w:=w) J p rows.length cap;have s:∀b:Bool,p.isNone=b->(execOp a.eval ⟨some d,.binOp .eql T x (.const (.slice none 0 0)) j,ty,pos,after,gu⟩).run P w=.ok (.value (.bool b)) w:=by
  rintro b rfl;have I:(eqGuard .eql T x (.const (.slice none 0 0)) (.slice p rows.length cap) (.slice none 0 0)).run P w=.ok () w:=by simp[eqGuard,Sem.run,pure]
  have E:(binOp .eql T (.slice p rows.length cap) (.slice none 0 0)).run P w=.ok (.bool p.isNone) w:=by simp[binOp,Sem.run_bind,H,Sem.run,pure]
  simp only[execOp,L,F,Sem.run_bind,I,E,Result.andThen_ok];rfl
 cases p with
 |none=>exact upon_value rfl (u:=.bool true) (s true rfl) (cK B q o A (h.put (.bool _)) (v true (λ_=>(C rfl).1)))
 |some p=>exact upon_value rfl (u:=.bool false) (s false rfl) (cK B q o A (h.put (.bool _)) (v false (λh=>by cases h)))
def bO.TB{z2:Nat}{rows2:List (List D)}(hT:bY P T=.slice z by_ ea)(ac:bY P T2=.slice z2 ly k)(hx:rd e x=.bz r off z l c)(he:e.o r=.box cs)(hy:gR z (kQ e.o [] 2 (rd e y))=some rows2)(hd:d<n)(ag:by_<=2^32)
  (h1:l+rows2.length<=c->off+(l+rows2.length)*z<=cs.length/\K (bk (bu e r (.box (dc cs (off+l*z) rows2.flatten))) d (.bz r off z (l+rows2.length) c)))
  (h2:c<l+rows2.length->∃rows,kQ e.o [] 2 (.bz r off z l c)=.sl z rows/\rows.length=l/\(by_+1)*(l+rows2.length)<=2^45/\e.o (nm d 0)=.undef/\K (bk (bu e (nm d 0) (.own z (rows++rows2))) d (.ref (nm d 0)))) :
  bO P n ⟨some d,.call ⟨.builtin .append,#[x,y],#[T,T2]⟩,ty,pos,after,gu⟩ e K:=by
 intro w0 l0 G S0 w lev own S a next Q h hn H p
 have B:=h.pL a rfl x;have ap:=h.pL a rfl y;rw[hx]at B;have ab:∃e,P.underlying T2=some (.slice e):=by
  obtain⟨e,_,hu,_⟩:=bK ac;exact⟨e,hu⟩
 obtain⟨el,inf,hu,hl,hin,hb,hz,zv0,hzv0,hzz0⟩:=bK hT;have E:=gS h ap hy S;have hm:(#[x,y].map a.eval:Array Value) = #[a.eval x,a.eval y]:=by simp
 have go:∀u w',(Builtin.append_ #[T,T2] ty #[a.eval x,a.eval y]).run P w=.ok u w'->(execOp a.eval ⟨some d,.call ⟨.builtin .append,#[x,y],#[T,T2]⟩,ty,pos,after,gu⟩).run P w=.ok (.value u) w':=by
  intro u w' hr;simp only[execOp,resolve,Sem.run_bind,pure,Sem.run,Result.andThen_ok,invoke,builtin,hm,hr]
 have Y:=B;obtain⟨ad,a',q,hS,hv,g3,g4,g5,rfl,g6⟩:=B.eg;by_cases s:l+rows2.length<=q
 ·obtain⟨ho,L⟩:=h1 s;obtain⟨news,X,an,am,F⟩:=zQ (P:=P) (w:=w) (V:=cx w lev S) hT ab (a:=a') (len:=l) (cap:=q) E.OU s ty;have C:∀r∈rows2,r.length=z:=by obtain⟨_,_,_,_,h3,_⟩:=E;exact h3
  have U:=jq C;by_cases R:q=0
  ·subst R;have aq:rows2=[]:=length_eq_zero_iff.1 (by omega);have aj:l=0:=by omega
   subst aq;subst aj;have al:news=[]:=length_eq_zero_iff.1 (by simpa using X);subst al;have hw:dc cs (off+0*z) []=cs:=by simp[dc]
   have ah:bu e r (.box cs)=e:=by
    simp only[bu];cases e with
    |mk t o =>
     simp only[Env.mk.injEq,true_and];funext j;by_cases W:j=r
     ·subst W;simp only[if_true];exact he.symm
     ·simp[W]
   simp only[flatten_nil,hw,ah,length_nil,Nat.add_zero]at L;have hr:=F w (by cases a'<;>simp[storeCells,Sem.run,pure]);rw[<-hv]at hr;refine upon_value rfl (go _ _ hr) (cK hn H p hd (h.put ?_) L);simpa[hv]using Y
  ·have ae:=g6 R;subst ae;obtain⟨w',hr,J⟩:=h.CM (P:=P) he (news:=news) (ds:=rows2.flatten) (off:=off+l*z) (by rw[X,U]) am (GC hz C an) (by rw[U];rw[Nat.add_mul]at ho;omega) hS;have aa:=F w' (by show(storeCells ((ad.add off).add (l*z)) news).run P w=_;rw[add_add];exact hr);rw[<-hv]at aa;refine upon_value rfl (go _ _ aa) (cK hn H p hd (J.put (.bz r off z _ _ ad _ hS (λ_=>rfl) s)) L)
 ·obtain⟨rows,af,ak,O,ai,L⟩:=h2 (by omega);have A:=gS h B (z:=z) (rows:=rows) (by rw[af];simp[gR]) S;rw[hv]at A;subst ak;have I:kJ w (cx w lev S) (.slice a' rows.length q) z rows:=A;obtain⟨_,_,_,_,q2,q3,_⟩:=A;obtain⟨_,_,_,_,p2,p3,_⟩:=id E;obtain⟨M,e',cells,k1,k2,k3,k4⟩:=MT (P:=P) (w:=w) (V:=cx w lev S) hT ab I.OU E.OU s O ag ty;have C:∀row∈rows++rows2,row.length=z:=λrow v=>(mem_append.1 v).elim (q2 row) (p2 row);have Z:∀row∈rows++rows2,∀d∈row,br d:=λrow v=>(mem_append.1 v).elim (q3 row) (p3 row)
  have J:=h.drew.xQ (oM d 0) ai (vs:=cells) (z:=z) (cap:=M) (rows:=rows++rows2) e' k2 (by rw[cT];exact k1) C Z (by
   intro i j row d J W;obtain⟨u,hu,ar⟩:=k4 i j row d J W;have ao:d.names=[]:=(Z row (bM J) d (bM W)).2
   exact⟨u,hu,aD.dQ (w:=w) (w':=w.drew) (lev':=lev) ar (λ_ _ h=>h) (by rw[ao];simp)⟩)
  rw[<-hv]at k3;refine upon_value rfl (go _ _ k3) (cK hn H p hd (owned J ?_ ⟨_,_,_,rfl⟩) L);rw[aW,cT];rfl
def bO.MS{k k2:IntKind}{zc:List D}(hT:bY P T=.slice z by_ ea)(ar:bY P T2=.int k2)(hx:rd e x=.bz r off z l c)(hy:rd e y=.int k m)(aK:bW P T=some zc)(aM:zc.length=z)(aN:∀d∈zc,br d)(hd:d<n)(hby:by_<=2^32)
  (aA:0<m) (O:c<l+m) (hb:kQ e.o [] 2 (.bz r off z l c)=.sl z rows) (az:rows.length=l) (J:(by_+1)*(l+m)<=2^45) (ax:e.o (nm d 0)=.undef) (hK:K (bk (bu e (nm d 0) (.own z (rows++replicate m zc))) d (.ref (nm d 0)))) :
  bO P n ⟨some d,.call ⟨.builtin .append,#[x,y],#[T,T2]⟩,ty,pos,after,gu⟩ e K:=by
 intro w0 l0 G S0 w lev own S a next Q h hn au W
 have X:=h.pL a rfl x;have al:=h.pL a rfl y;rw[hx]at X;rw[hy]at al;have aJ:=al.cB;have aH:=F5 ar;obtain⟨el,I,hu,hl,R,ac,hz,zv,aO,H⟩:=bK hT;have aL:iG P el=some zc:=by rw[<-aK];simp[bW,hu]
 obtain⟨p,L,hzs,Z⟩:=kn aL w.drew;have ao:(zeroValue el).run P w.drew=.ok zv w.drew:=by simp[zeroValue,Sem.run_bind,fB R,aO,Sem.run,pure]
 have ap:p=zv:=by rw[ao]at L;cases L;rfl
 subst ap;have hm:(#[x,y].map a.eval:Array Value) = #[a.eval x,a.eval y]:=by simp
 obtain⟨ad,a',s,hS,hv,g3,g4,g5,rfl,g6⟩:=X.eg;have A:=gS h X (z:=z) (rows:=rows) (by rw[hb];simp[gR]) S;rw[hv]at A;subst az;obtain⟨_,_,_,_,q2,q3,_⟩:=id A;have av:(w.drew).heap=w.heap:=rfl;obtain⟨B,ak,t,aj,-⟩:=nU (P:=P) (w:=w.drew) hz (A.at av).OU;obtain⟨N,aa⟩:∃N,N=(Question.appendCap (rows.length+m) s el).cut (w.tape w.drawn (.appendCap (rows.length+m) s el)):=⟨_,rfl⟩
 have hN:rows.length+m<=N:=by rw[aa];simp only[Question.cut];omega
 have F:=nextslicecap_le O;have aq:by_*(rows.length+m)<=2^45:=Nat.le_trans (by rw[Nat.succ_mul];omega) J;have C:¬ 281474976710656<Builtin.nextslicecap (rows.length+m) s*I.bytes:=by
  rw[ac];have h1:Builtin.nextslicecap (rows.length+m) s*by_<=(2*(rows.length+m)+192)*by_:=gK _ F;have h3:(2*(rows.length+m)+192)*by_=2*(by_*(rows.length+m))+192*by_:=by
   rw[Nat.add_mul,Nat.mul_assoc,Nat.mul_comm (rows.length+m) by_]
  omega
 have hneed:rows.length+m<=2^45:=Nat.le_trans (by rw[Nat.succ_mul];omega) J
 let cells:Array Value:=B.toArray++Builtin.zeroCells p.cells m++Builtin.zeroCells p.cells (N-(rows.length+m))
 have M:∀q,(Builtin.zeroCells p.cells q).size=q*z:=by intro q;simp[Builtin.zeroCells,H]
 have Y:cells.size=N*z:=by
  simp only[cells,Array.size_append,size_toArray,M,t];rw[<-Nat.add_mul,<-Nat.add_mul];congr 1;omega
 have ab:∀n,(askRoom n).run P w.drew=.ok () w.drew:=by
  intro n;unfold askRoom;split<;>simp[mark,Sem.run,pure]
 have aw:(Question.appendCap (rows.length+m) s el).forced=false:=rfl;have af:(typeInfo el).run P w=.ok I w:=fB R w;have U:(typeInfo el).run P w.drew=.ok I w.drew:=fB R _;have v:(newRow el (B.toArray++(Builtin.zeroCells p.cells m++Builtin.zeroCells p.cells (N-(rows.length+m))))).run P w.drew=.ok ⟨w.heap.size,0,none⟩ (w.drew.alloc (.cells cells el)):=by
  rw[<-Array.append_assoc];simp[cells,newRow,newObj,Sem.run,Sem.bind,pure,bind,World.alloc]
 have aI:IntKind.i64.wrap (m:Int)=m:=tK (by omega) (by omega);have aB:¬((m:Int)*(I.bytes:Int)>281474976710656):=by
  rw[ac];have h4:m*by_<=by_*(rows.length+m):=by rw[Nat.mul_comm];exact Nat.mul_le_mul_left _ (by omega)
  have h5:((m*by_:Nat):Int)<=2^45:=by exact_mod_cast Nat.le_trans h4 aq
  have h6:((m:Int)*(by_:Int))=((m*by_:Nat):Int):=by simp
  omega
 have aC:¬m*z=0:=by
  have:=Nat.mul_pos aA (Nat.pos_of_ne_zero hz);omega
 have RS:¬((9223372036854775807:Int)<(rows.length:Int)+(m:Int)):=by omega
 have ai:¬((m:Int)<0):=by omega
 have ae:¬rows.length+m<=s:=by omega
 have an:∀row∈rows++replicate m zc,row.length=z:=λrow v=>(mem_append.1 v).elim (q2 row) (λh=>by rw[(mem_replicate.1 h).2];exact aM);have am:∀row∈rows++replicate m zc,∀d∈row,br d:=λrow v=>(mem_append.1 v).elim (q3 row) (λh=>by rw[(mem_replicate.1 h).2];exact aN)
 have hi:=h.drew.xQ (oM d 0) ax (vs:=cells) (z:=z) (cap:=N) (rows:=rows++replicate m zc) el Y (by simpa using hN) an am (by
  intro i j row x hi hj;have aE:x.names=[]:=(am row (bM hi) x (bM hj)).2;have E:j<z:=by rw[<-an row (bM hi)];exact(cJ.1 hj).1
  rcases Cq hi with hi'| ⟨hge,hi'⟩
  ·have V:=j7 E (cJ.1 hi').1;obtain⟨u,aG,aF⟩:=aj i j row x hi' hj;refine⟨u,?_,aD.dQ (w:=w) (w':=w.drew) (lev':=lev) aF (λ_ _ h=>h) (by rw[aE];simp)⟩;simp only[cells];rw[Array.append_assoc,Array.getElem?_append_left (by simp[t];exact V)];simpa using aG
  ·have hr:row=zc:=(mem_replicate.1 (bM hi')).2;subst hr;have ay:i-rows.length<m:=by have:=(cJ.1 hi').1;simpa using this
   have V:=j7 (z:=z) E ay;have hge':rows.length*z<=i*z:=gK z hge;have e1:i*z+j-rows.length*z=(i-rows.length)*z+j:=by rw[Nat.sub_mul];omega
   have ag:j<p.cells.size:=by rw[H];exact E
   refine⟨p.cells[j],?_,Z _ j _ x (by simp[ag]) hj⟩;simp only[cells];rw[Array.append_assoc,Array.getElem?_append_right (by simp[t];omega),Array.getElem?_append_left (by rw[M];simp only[size_toArray,t];omega)];simp only[size_toArray,t,e1,Builtin.zeroCells,Array.getElem?_map];rw[Array.getElem?_eq_getElem (by simp[H];exact V)];have ah:((i-rows.length)*z+j)%p.cells.size=j:=by rw[H,Nat.add_comm,Nat.add_mul_mod_self_right,Nat.mod_eq_of_lt E]
   simp only[Option.map_some,Array.getElem_range,ah]
   rw[getElem!_pos p.cells j ag])
 refine upon_value rfl (u:=.slice (some ⟨w.heap.size,0,none⟩) (rows.length+m) N) ?_ (cK hn au W hd (owned hi (by rw[aW];simp) ⟨_,_,_,rfl⟩) hK);simp[execOp,resolve,invoke,builtin,hm,aJ,hv,Builtin.append_,Sem.run_bind,aT hu,aT aH,aZ hl,asInt,asIntOf,aI,ai,aB,aC,ae,af,RS,C,aw,<-aa,ab,U,ak,ao,v,Sem.run,pure]
end
end
end Go.Abs
namespace Go.Abs
open List
variable{r l by_ z:Nat}{b:Act->World->Prop}{a:Act}{ea:Bool}{x g f:Operand}{i m j:Int}{ts:Array TypeId}{fn:Func}{k:FuncId}{c:Array Value->Sem Value}
section
variable{P:Program}{n:Nat}{w0 w w':World}{l0:Nat->Option Nat}{G:Nat->Option (Nat×Nat)}{S0:Nat->Option Value}{lev lev' own own':Nat->Option Nat}{S S':Nat->Option Value}{env env':Env}{tm tm':Nat->Value}
variable{e:Env}{K:Env->Prop}{d:Nat}{ty T T2:TypeId}{pos:String}{after:Array Edge}{gu:Option (Nat×Bool)}
theorem Rb{e:Env}{x:D}(p:e.o r=x):bu e r x=e:=by
 simp only[bu];cases e with
 |mk t o =>
  simp only[Env.mk.injEq,true_and];funext j;by_cases h:j=r
  ·subst h;simp only[if_true];exact p.symm
  ·simp[h]
def yy{o:Oper}{Q:Exit->Act->World->Prop}{u:Value}(p:o.dst=none)(hr:(execOp a.eval o).run P w=.ok (.value u) w')
  (h:b a w'):o.wp P a w b Q:=by
 unfold Oper.wp;rw[hr];simp only[Oper.upon,p,Act.put];exact h
def bO.clear{x:Operand}{z by_:Nat}{ea:Bool}{r off l c:Nat}{cs zc:List D}(hT:bY P T=.slice z by_ ea)(hx:rd e x=.bz r off z l c)(he:e.o r=.box cs)(ab:bW P T=some zc)(C:zc.length=z)(ae:∀d∈zc,br d)
  (O:off+l*z<=cs.length) (X:K (bu e r (.box (dc cs off (replicate l zc).flatten)))) :
  bO P n ⟨none,.call ⟨.builtin .clear,#[x],#[T]⟩,ty,pos,after,gu⟩ e K:=by
 intro w0 l0 G S0 w lev own S a next Q h hn J q
 have R:=h.pL a rfl x;rw[hx]at R;obtain⟨el,inf,hu,hl,Z,hb,hz,zv,af,t⟩:=bK hT;have ac:iG P el=some zc:=by rw[<-ab];simp[bW,hu]
 obtain⟨p,A,hzs,E⟩:=kn ac w;have U:(zeroValue el).run P w=.ok zv w:=by simp[zeroValue,Sem.run_bind,fB Z,af,Sem.run,pure]
 have V:p=zv:=by rw[U]at A;cases A;rfl
 subst V;obtain⟨ad,a',cap',hS,W,g3,g4,g5,rfl,g6⟩:=R.eg;have hm:(#[x].map a.eval:Array Value) = #[a.eval x]:=by simp
 by_cases h0:l=0
 ·subst h0;have hw:dc cs off []=cs:=by simp[dc]
  simp only[replicate_zero,flatten_nil,hw,Rb he]at X;refine yy rfl (u:=.tuple #[]) ?_ (q _ _ _ _ _ a hn J h X);cases a'<;>simp[execOp,resolve,Sem.run_bind,pure,Sem.run,invoke,builtin,hm,Builtin.clear_,aT hu,W]
 ·have Y:=g6 (by omega);subst Y;have L:(replicate l zc).flatten.length=l*z:=oJ C l;have aa:(Builtin.zeroCells p.cells l).toList.length=(replicate l zc).flatten.length:=by rw[L];simp[Builtin.zeroCells,t]
  have F:∀(j:Nat) v,(Builtin.zeroCells p.cells l).toList[j]?=some v->∃d,zc[j%z]?=some d/\aD (cx w lev S) v d:=by
   intro j v s;have B:j<l*z:=by have:=(cJ.1 s).1;omega
   have N:j%z<z:=Nat.mod_lt _ (by omega);have y:j%z<p.cells.size:=by rw[t];exact N
   have M:j%z<zc.length:=by rw[C];exact N
   have:v=p.cells[j%z]:=by
    simp only[Builtin.zeroCells,Array.getElem?_toList,Array.getElem?_map]at s;rw[Array.getElem?_eq_getElem (by simp[t];exact B)]at s;simp only[Option.map_some,Array.getElem_range,gy,t]at s;rw[<-s,getElem!_pos p.cells _ y]
   subst this;exact⟨zc[j%z],by simp[M],E _ (j%z) _ _ (by simp[y]) (by simp[M])⟩
  obtain⟨w',hr,hi⟩:=h.CM (P:=P) he aa (by
   intro v W;obtain⟨j,s⟩:=mem_iff_getElem?.1 W;obtain⟨d,H,hr⟩:=F j v s
   exact(wH hr (ae d (bM H)).1).1) (by
   intro j v d s H;have B:j<l*z:=by have:=(cJ.1 H).1;omega
   rw[vK C hz l j B]at H;obtain⟨d',I,hr⟩:=F j v s;rw[H]at I;cases I
   exact hr) (by rw[L];exact O) hS
  refine yy rfl (u:=.tuple #[]) ?_ (q _ _ _ _ _ a hn J hi X);cases l with
  |zero=>exact(h0 rfl).elim
  |succ l=>simp[execOp,resolve,Sem.run_bind,pure,Sem.run,invoke,builtin,hm,Builtin.clear_,aT hu,W,U,hr]
theorem bO.M1{lo:Nat}{R:List (List D)}{zc:List D}(hT:bY P T=.slice z by_ ea)(hx:rd e x=.cN r z lo l)(he:e.o r=.own z R)(ai:bW P T=some zc)(E:zc.length=z)(X:∀d∈zc,br d)
  (A:lo+l<=R.length) (h0:l≠0) (hK:K (bu e r (.own z (splice R lo (replicate l zc))))) :
  bO P n ⟨none,.call ⟨.builtin .clear,#[x],#[T]⟩,ty,pos,after,gu⟩ e K:=by
 intro w0 l0 G S0 w lev own S a next Q h hn ac C
 have W:=h.pL a rfl x;rw[hx]at W;obtain⟨el,inf,hu,hl,af,hb,hz,zv,ak,q⟩:=bK hT;have aj:iG P el=some zc:=by rw[<-ai];simp[bW,hu]
 obtain⟨p,B,hzs,F⟩:=kn aj w;have Y:(zeroValue el).run P w=.ok zv w:=by simp[zeroValue,Sem.run_bind,fB af,ak,Sem.run,pure]
 have Z:p=zv:=by rw[Y]at B;cases B;rfl
 subst Z;obtain⟨ad,a',L,cap,cap',hS,hv,g3,g4,g5⟩:=W.jP;obtain⟨b,ab,aa⟩:=g3 h0;have hm:(#[x].map a.eval:Array Value) = #[a.eval x]:=by simp
 have H:∀(j:Nat) v,(Builtin.zeroCells p.cells l).toList[j]?=some v->∃d,zc[j%z]?=some d/\aD (cx w lev S) v d:=by
  intro j v s;have ag:j<l*z:=by have:=(cJ.1 s).1;simp[Builtin.zeroCells,q]at this;omega
  have V:j%z<z:=Nat.mod_lt _ (by omega);have y:j%z<p.cells.size:=by rw[q];exact V
  have O:j%z<zc.length:=by rw[E];exact V
  have:v=p.cells[j%z]:=by
   simp only[Builtin.zeroCells,Array.getElem?_toList,Array.getElem?_map]at s;rw[Array.getElem?_eq_getElem (by simp[q];exact ag)]at s;simp only[Option.map_some,Array.getElem_range,gy,q]at s;rw[<-s,getElem!_pos p.cells _ y]
  subst this;exact⟨zc[j%z],by simp[O],F _ (j%z) _ _ (by simp[y]) (by simp[O])⟩
 have t:(Builtin.zeroCells p.cells l).toList.length=l*z:=by simp[Builtin.zeroCells,q]
 obtain⟨b',w',I,hr,hi⟩:=h.Ir (P:=P) (N:=replicate l zc) (news:=(Builtin.zeroCells p.cells l).toList) he (i:=lo) (by rw[length_replicate];exact t) (by
   intro v hv;obtain⟨j,s⟩:=mem_iff_getElem?.1 hv;obtain⟨d,hd,hr⟩:=H j v s
   exact(wH hr (X d (bM hd)).1).1)
  (by intro r hr;rw[(mem_replicate.1 hr).2];exact E) (by intro r hr;rw[(mem_replicate.1 hr).2];exact X) (by
   intro i j row d hi s;have ae:i<l:=by
    have:=(cJ.1 hi).1;simpa using this
   have hr:row=zc:=(mem_replicate.1 (bM hi)).2;subst hr;have M:j<z:=by rw[<-E];exact(cJ.1 s).1
   have ah:i*z+j<l*z:=j7 M ae;have U:(i*z+j)%z=j:=by rw[Nat.add_comm,Nat.add_mul_mod_self_right,Nat.mod_eq_of_lt M]
   have hk:i*z+j<(Builtin.zeroCells p.cells l).toList.length:=by rw[t];exact ah
   obtain⟨d',J,hr⟩:=H (i*z+j) _ (ec hk);rw[U,s]at J;cases J
   exact⟨_,ec hk,hr⟩) (by rw[length_replicate];exact A) hS (by intro e0;subst e0;simp at A;omega)
 rw[ab]at I;cases I;subst aa;refine yy rfl (u:=.tuple #[]) ?_ (C _ _ _ _ _ a hn ac hi hK);cases l with
 |zero=>exact(h0 rfl).elim
 |succ l=>simp[execOp,resolve,Sem.run_bind,pure,Sem.run,invoke,builtin,hm,Builtin.clear_,aT hu,hv,Y,hr]
def bO.Vr{lo:Operand}{off c:Nat}{k1 k2 k3:IntKind}(R:bY P T=.slice z by_ ea)(Z:rd e x=.bz r off z l c)(C:rd e lo=.int k1 i)(B:rd e f=.int k2 j)(D:rd e g=.int k3 m)
  (U:d<n) (M:0<=i) (h2:i<=j) (h3:j<=m) (N:m<=c) (O:K (bk e d .undef)) :
  bO P n ⟨some d,.slice T x (some lo) (some f) (some g),ty,pos,after,gu⟩ e K:=by
 intro w0 l0 G S0 w lev own S a next Q h W A p
 have v:=h.pL a rfl x;have q:=h.pL a rfl lo;have s:=h.pL a rfl f;have t:=h.pL a rfl g;rw[Z]at v;rw[C]at q;rw[B]at s;rw[D]at t;have J:=q.cB;have e2:=s.cB;have L:=t.cB;obtain⟨el,inf,X,V,hin,hb,hz,zv,hzv,hzz⟩:=bK R;obtain⟨ad,E,o,hS,Y,g3,g4,g5,rfl,g6⟩:=v.eg;have F:0<=m/\m<=(o:Int):=⟨by omega,N⟩
 have H:0<=j/\j<=((m.toNat:Nat):Int):=⟨by omega,by omega⟩
 have I:0<=i/\i<=((j.toNat:Nat):Int):=⟨M,by omega⟩
 refine upon_value rfl (u:=.slice (if m.toNat=i.toNat then E else E.map (·.add (i.toNat*z))) (j.toNat-i.toNat) (m.toNat-i.toNat)) ?_ (cK W A p U (h.put (.undef _)) O);have y:(Instr.sliceBounds true l o (some (a.eval lo)) (some (a.eval f)) (some (a.eval g))).run P w=.ok (i.toNat,j.toNat,m.toNat) w:=by
  simp only[Instr.sliceBounds,Sem.run_bind,Instr.sliceBound,asIntOf,J,e2,L,aE F,aE H,aE I,Sem.run,pure,Result.andThen]
 simp[execOp,Instr.sliceAt,Sem.run_bind,aT X,Instr.slice,Y,y,aZ V,Sem.run,pure]
def AX {as : Array Operand} {u : Value} (hf : a.eval f = .func (.func k) #[] #[]) (hk : P.funcs[k]? = some fn) (hname : (fn.name == "runtime.NumGoroutine") = false)
  (hb:fn.body.isNone=true) (hn:Extern.findNext fn=none) (he:Extern.find fn=some c) (hr:(c (as.map a.eval)).run P w=.ok u w) :
  (execOp a.eval ⟨some d,.call ⟨.value f,as,ts⟩,ty,pos,after,gu⟩).run P w=.ok (.value u) w:=by
 have h1 : fn.name ≠ "runtime.NumGoroutine" := by simpa using hname
 have h2:fn.body=none:=by simpa using hb
 simp[execOp,resolve,hf,Deferred.ofValue,Sem.run_bind,invoke,callFunc,hk,h1,h2,hn,he,program,mark,Sem.run,pure,hr]
def bO.vr {c : Operand} (hf : rd e f = .fn k []) (hk : P.funcs[k]? = some fn) (hname : (fn.name == "runtime.NumGoroutine") = false) (hb : fn.body.isNone = true) (hn : Extern.findNext fn = none) (he : Extern.find fn = some add64Entry)
  (hx:rd e x=.int .u64 i) (hy:rd e g=.int .u64 j) (hc:rd e c=.int .u64 m) (h1:0<=i) (h2:0<=j) (h3:0<=m) (h4:m<=1) (hd:d<n) (hK:K (bk e d (.bH [.int .u64 ((i+j+m)%18446744073709551616),.int .u64 ((i+j+m)/18446744073709551616)]))) :
  bO P n ⟨some d,.call ⟨.value f,#[x,g,c],ts⟩,ty,pos,after,gu⟩ e K:=by
 intro w0 l0 G S0 w lev own S a next Q h hnn hdf hnext
 have hof:=h.pL a rfl f;have ho1:=h.pL a rfl x;have ho2:=h.pL a rfl g;have ho3:=h.pL a rfl c;rw[hf]at hof;rw[hx]at ho1;rw[hy]at ho2;rw[hc]at ho3;obtain⟨cv,hv,hcs,hcc⟩:=hof.uE;have hcv:cv = #[]:=Array.eq_empty_of_size_eq_zero (by simpa using hcs);subst hcv;have hm:(#[x,g,c].map a.eval:Array Value) = #[.int .u64 i,.int .u64 j,.int .u64 m]:=by simp[ho1.cB,ho2.cB,ho3.cB]
 refine upon_value rfl (AX hv hk hname hb hn he (by rw[hm];exact run_add64 i j m h1 h2 h3 h4 w)) (cK hnn hdf hnext hd (h.put (.bH _ _ rfl ?_)) hK);intro i' v dd hi' hd';rcases i' with _| _|i'
 ·simp at hi' hd';subst hi';subst hd';exact .int _ _
 ·simp at hi' hd';subst hi';subst hd';exact .int _ _
 ·simp at hi'
theorem Fz(ps rs:Array TypeId)(a b:Option Addr)(la ca lb cb:Nat):Extern.SlicesOverlaps.overlaps ps rs #[.slice a la ca,.slice b lb cb]=(do
  let some t := ps[0]? | stuck "slices.overlaps: no parameter types"
  let .slice elem <- underlying t | stuck "slices.overlaps: slice type expected"
  let size <-sizeOf elem
  match a,b with
  |some a,some b =>
   if la=0\/lb=0\/size=0 then pure (.bool false)
   else if a.block != b.block&&(<-frozen a)&&(<-frozen b)then unsupported .addressObserved
   else do
    if a.block != b.block then do
     noView a;noView b
     if <- mayBeOne a b then return .bool ((<- choose (.extern "sameAddr.stringBytes" 2)) == 1)
    pure (.bool (a.block==b.block&&a.off<b.off+lb*size&&b.off<a.off+la*size))
  | _,_=>pure (.bool false)):=rfl
def bO.overlaps {f x y : Operand} {k : FuncId} {fn : Func} {ts : Array TypeId} {t0 : TypeId} {z by_ : Nat} {ea : Bool} {r2 z2 r off l c : Nat} {rows : List (List D)} {cs : List D} (hf : rd e f = .fn k []) (hk : P.funcs[k]? = some fn) (hname : (fn.name == "runtime.NumGoroutine") = false) (hb : fn.body.isNone = true)
  (hn:Extern.findNext fn=none) (he:Extern.find fn=some (Extern.SlicesOverlaps.overlaps fn.params fn.resultTypes)) (hp:fn.params[0]?=some t0) (hT:bY P t0=.slice z by_ ea) (hx:rd e x=.ref r2) (hxo:e.o r2=.own z2 rows) (hy:rd e y=.bz r off z l c) (hyo:e.o r=.box cs)
  (hd:d<n) (hK:K (bk e d (.bool false))) :
  bO P n ⟨some d,.call ⟨.value f,#[x,y],ts⟩,ty,pos,after,gu⟩ e K:=by
 intro w0 l0 G S0 w lev own S a next Q h hnn hdf hnext
 have hof:=h.pL a rfl f;have ho1:=h.pL a rfl x;have ho2:=h.pL a rfl y;rw[hf]at hof;rw[hx]at ho1;rw[hy]at ho2;obtain⟨cv,hv,hcs,hcc⟩:=hof.uE;have hcv:cv = #[]:=Array.eq_empty_of_size_eq_zero (by simpa using hcs);subst hcv;obtain⟨el,inf,hu,hl,hin,hbi,hz,zv,hzv,hzz⟩:=bK hT;obtain⟨ad,a',cap',hS,hvy,g3,g4,g5,rfl,g6⟩:=ho2.eg;obtain⟨hS2,b2,len2,cap2,hvx⟩:=ho1.gx;rw[hvx]at hS2;have hS2:S r2=_:=hS2;have hS:S r=_:=hS;have hobj:=h.objs r;rw[hyo]at hobj;obtain⟨b,o,cc,E,q1,q2,q3,q4,q5,q6,q7⟩:=hobj;have had:ad=⟨b,o,none⟩:=by rw[q1]at hS;cases hS;rfl
 have hobj2:=h.objs r2;rw[hxo]at hobj2;have hrr:r2≠r:=by rintro rfl;rw[hxo]at hyo;cases hyo
 have hm:(#[x,y].map a.eval:Array Value) = #[.slice b2 len2 cap2,.slice a' l cap']:=by simp[hvx,hvy]
 refine upon_value rfl (AX (u:=.bool false) hv hk hname hb hn he ?_) (cK hnn hdf hnext hd (h.put (.bool _)) hK);rw[hm,Fz];by_cases hz0:len2=0\/l=0\/z=0
 ·cases b2<;>cases a'<;>simp[hp,Sem.run_bind,aT hu,aZ hl,hz0,Sem.run,pure]
 ·have hc0:cap'≠0:=by omega
  have ha':=g6 hc0;subst ha';subst had;rcases hobj2 with⟨aa,p1,p2⟩| ⟨b',c',E',cap3,p1,p2,p3,p4,p5,p6,p7,p8,p9,p10⟩
  ·rw[p1]at hS2;cases hS2;exact(hz0 (.inl rfl)).elim
  ·have:b2=some ⟨b',0,none⟩:=by rw[p1]at hS2;cases hS2;rfl
   subst this;have hbb:b'≠b:=by rintro rfl;rw[p8]at q5;cases q5;exact hrr rfl
   have f1:w.frozen? ⟨b',0,none⟩=false:=by simp[World.frozen?,p2]
   have f2:∀i,w.frozen? ⟨b,i,none⟩=false:=by intro i;simp[World.frozen?,q2]
   have f3:∀i,w.frozen? ⟨b',i,none⟩=false:=by intro i;simp[World.frozen?,p2]
   have s1:w.shape? b'=some (E',c'.size):=by simp[World.shape?,p2]
   have s2:w.shape? b=some (E,cc.size):=by simp[World.shape?,q2]
   have hao:(⟨b,o,none⟩:Addr).add off=⟨b,o+off,none⟩:=cm _ _ _;rw[hao];simp[hp,Sem.run_bind,aT hu,aZ hl,hz0,hbb,f1,f2,f3,s1,s2,noView,viewAt,mayBeOne,stringish,Sem.run,pure]
end
end Go.Abs
namespace Go.Abs
open List
variable{z:Nat}{rows R:List (List D)}{ds:List D}
section
variable{P:Program}
def eL(rows:List (List D))(cap z:Nat):List D:=rows.flatten++replicate ((cap-rows.length)*z) .undef
def nK{cap:Nat}(h:∀r∈rows,r.length=z)(hl:rows.length<=cap):(eL rows cap z).length=cap*z:=by
 simp only[eL,cT,jq h,length_replicate];rw[<-Nat.add_mul];congr 1;omega
def dyn(k:Nat)(X:D):List D:=.undef::(replicate k .undef++[X])
theorem EZ(k:Nat)(X:D)(r:Nat):(dyn k X).getD r .undef=if r=k+1 then X else .undef:=by
 unfold dyn;cases r with
 |zero=>simp
 |succ r =>
  simp only[getD_eq_getElem?_getD,getElem?_cons_succ];by_cases h:r<k
  ·rw[getElem?_append_left (by simpa using h),az (by omega)];simp[h]
  ·rw[getElem?_append_right (by simpa using h)];simp only[length_replicate];by_cases c:r=k
   ·subst c;simp
   ·rw[az (by omega)];have:r-k=(r-k-1)+1:=by omega
    rw[this];simp
theorem Fx(k:Nat)(X:D)(r:Nat):(X::replicate k .undef).getD r .undef=if r=0 then X else .undef:=by
 cases r with
 |zero=>simp
 |succ r =>
  simp only[getD_eq_getElem?_getD,getElem?_cons_succ,getElem?_replicate];split<;>simp
def Spec.NZ{f:FuncId}{hr:List D}(ag:rows≠[])(L:∀r∈R,r.length=z)(aa:∀r∈R,∀d∈r,br d)(ao:∀d∈ds,0∉d.names)(aq:∀h∈hr,∃z' B,h=.own z' B)
  (h:∀cap,rows.length<=cap->(∃cs,R.length<=cap/\cs.length=cap*z/\cs.take (R.length*z)=R.flatten/\Spec P f (.box (eL rows cap z)::hr) (.bz 0 0 z rows.length cap::ds) (.box cs::replicate hr.length .undef) (.bz 0 0 z R.length cap)) \/
   Spec P f (.box (eL rows cap z)::hr) (.bz 0 0 z rows.length cap::ds) (dyn hr.length (.own z R)) (.ref (hr.length+1))) :
  Spec P f (.own z rows::hr) (.ref 0::ds) (dyn hr.length (.own z R)) (.ref (hr.length+1)):=by
 have af:Enters P f:=by
  rcases h rows.length (cX _)with⟨_,_,_,_,W⟩|W
  ·exact W.1
  ·exact W.1
 refine⟨af,?_⟩;intro w l0 G0 A S0 vs hT hl hG W K ai;have J:=ai 0;simp only[getD_cons_zero]at J;rcases J with⟨_,_,ah⟩| ⟨b,c,E,cap,h1,h2,h3,h4,h5,h6,h7,h8,h9,h10⟩
 ·exact(ag ah).elim
 obtain⟨C,ab⟩:∃C,C=fD S0 0 (some (.pointer (some ⟨b,0,none⟩))):=⟨_,rfl⟩
 have n:C 0=some (.pointer (some ⟨b,0,none⟩)):=by rw[ab];exact aW _ _ _
 have o:∀r,r≠0->C r=S0 r:=λr hr=>by rw[ab];exact bN _ _ hr
 have hblt:=lt_of_block h2;have ap:∃lo g,G0 b=some (lo,g)/\lo<=0/\c.size<=g:=by
  rcases h9 with h9| ⟨lo,g,F,Z,g3⟩
  ·omega
  ·exact⟨lo,g,F,Z,g3⟩
 have y:∀(i:Nat) v x,vs[i]?=some v->(D.bz 0 0 z rows.length cap::ds)[i]?=some x->aD (cx w l0 C) v x:=by
  intro i v x hv hx;cases i with
  |zero =>
   have U:D.bz 0 0 z rows.length cap=x:=by simpa using hx
   subst U;obtain⟨F,a,len,cp,rfl⟩:=(K 0 v (.ref 0) hv rfl).gx;have F:S0 0=_:=F;rw[h1]at F;cases F;exact .bz 0 0 z _ _ ⟨b,0,none⟩ _ n (λ_=>by simp[Addr.add]) h4
  |succ i =>
   have U:ds[i]?=some x:=by simpa using hx
   refine(K (i+1) v x hv (by simpa using hx)).dQ (.refl _ _) ?_;intro s au u X;rw[o s ?_];exact X;rintro rfl;exact ao x (bM U) au
 have I:∀r,gM w.heap.size G0 w l0 A C r ((D.box (eL rows cap z)::hr).getD r .undef):=by
  intro r;cases r with
  |zero =>
   simp only[getD_cons_zero];refine⟨b,0,c,E,n,h2,by rw[nK h5 h4];omega,h7,h8,by rw[nK h5 h4,<-h3,Nat.zero_add];exact h9,?_⟩;intro j u e X p;rw[Nat.zero_add]at X;unfold eL at p;by_cases G:j<rows.flatten.length
   ·rw[getElem?_append_left G]at p;by_cases hz:z=0
    ·rw[jq h5,hz]at G;omega
    rw[zV hz h5]at p;cases g:rows[j/z]? with
    |none=>rw[g]at p;cases p
    |some row =>
     rw[g]at p;obtain⟨u',ak,Q⟩:=h10 _ _ row e g p;have em:j/z*z+j%z=j:=by rw[Nat.mul_comm];exact Nat.div_add_mod j z
     rw[em,X]at ak;cases ak;have t:e.names=[]:=(h6 row (bM g) e (bM p)).2;exact Q.dQ (.refl _ _) (by rw[t];simp)
   ·rw[getElem?_append_right (by omega),getElem?_replicate]at p;split at p
    ·cases p;exact .undef _
    ·cases p
  |succ r =>
   have V:=ai (r+1);simp only[getD_cons_succ]at V |-
   by_cases q:r<hr.length
   ·have hg:hr.getD r .undef=hr[r]:=by simp[getD,q]
    rw[hg]at V |-;obtain⟨z',B,e⟩:=aq _ (cZ q);rw[e]at V |-;rcases V with⟨a,p1,p2⟩| ⟨b',Y,E',l,p1,p2,p3,p4,p5,p6,p7,p8,p9,p10⟩
    ·exact .inl ⟨a,by rw[o _ (by omega)];exact p1,p2⟩
    ·refine .inr ⟨b',Y,E',l,by rw[o _ (by omega)];exact p1,p2,p3,p4,p5,p6,p7,p8,p9,?_⟩;intro i j row x g G;obtain⟨u,X,Q⟩:=p10 i j row x g G;have t:x.names=[]:=(p6 row (bM g) x (bM G)).2;exact⟨u,X,Q.dQ (.refl _ _) (by rw[t];simp)⟩
   ·have hg:hr.getD r .undef=.undef:=by simp[getD,q]
    rw[hg]at V |-
    show C (r+1)=none;rw[o _ (by omega)];exact V
 rcases h cap h4 with⟨cs,al,hcl,an,T⟩|T
 ·refine(T.2 w l0 G0 A C vs hT hl hG (by simpa using W) y I).mono ?_;rintro e w' ⟨v,rfl,ho⟩;refine⟨v,rfl,ho.os,ho.tape,ho.output,ho.size,ho.old,ho.part,?_⟩;obtain⟨lev,own,S,F,Z,g3,g4,g5⟩:=ho.rep;have ac:=g4 0;rw[Fx,aE rfl]at ac;obtain⟨b',o',Y,E',q1,q2,q3,q4,q5,q6,q7⟩:=ac;have aj:S 0=C 0:=g5 0 (by simp) (by rw[Fx,aE rfl];simp);rw[aj,n]at q1;cases q1;obtain⟨lo,g,k1,k2,k3⟩:=ap;obtain⟨c0,c1,E1,m1,m2,m3,-⟩:=ho.part b lo g k1;rw[h2]at m1;cases m1;rw[q2]at m2;cases m2;obtain⟨ad,a',l,hS,rfl,y3,y4,y5,e6,y6⟩:=g3.eg;have hS:S 0=_:=hS;rw[aj,n]at hS;cases hS;subst e6;have hlen:0<rows.length:=length_pos_iff.2 ag;have am:=y6 (by omega);subst am;refine⟨lev,fD own b (some (hr.length+1)),fD (fD S 0 none) (hr.length+1) (some (.slice (some ⟨b,0,none⟩) R.length l)),F,Z,?_,?_,?_⟩
  ·exact .ref _ _ _ _ (by show fD _ _ _ _=_;rw[aW];simp[Addr.add])
  ·intro r;rw[EZ];by_cases O:r=hr.length+1
   ·subst O;rw[aE rfl];refine .inr ⟨b,Y,_,l,aW _ _ _,q2,by rw[m3,h3],al,L,aa,q4,aW _ _ _,by rw[m3];exact h9,?_⟩;intro i j row x g G;have M:j<z:=by rw[<-L row (bM g)];exact(cJ.1 G).1
    have ar:i<R.length:=(cJ.1 g).1;have q:=j7 M ar;have hz:z≠0:=by omega
    have ae:cs[i*z+j]?=some x:=by
     rw[<-getElem?_take_of_lt q,an,zV hz L];have e1:(i*z+j)/z=i:=by rw[Nat.mul_comm,Nat.mul_add_div (by omega),Nat.div_eq_of_lt M];rfl
     have e2:(i*z+j)%z=j:=by rw[Nat.mul_comm,Nat.mul_add_mod,Nat.mod_eq_of_lt M]
     rw[e1,e2,g];exact G
    have hcl':i*z+j<cs.length:=(cJ.1 ae).1;have H:i*z+j<Y.size:=by omega
    refine⟨Y[i*z+j],by simp[H],?_⟩;have t:x.names=[]:=(aa row (bM g) x (bM G)).2;exact(q7 (i*z+j) _ x (by rw[Nat.zero_add];simp[H]) ae).dQ (.refl _ _) (by rw[t];simp)
   ·rw[az O];show fD _ _ _ r=none;rw[bN _ _ O];by_cases N:r=0
    ·subst N;exact aW _ _ _
    ·rw[bN _ _ N];have:=g4 r;rw[Fx,az N]at this;exact this
  ·intro i g k;rw[EZ,az (by simp at g;omega)]at k;exact(k rfl).elim
 ·refine(T.2 w l0 G0 A C vs hT hl hG (by simpa using W) y I).mono ?_;rintro e w' ⟨v,rfl,ho⟩;refine⟨v,rfl,ho.os,ho.tape,ho.output,ho.size,ho.old,ho.part,?_⟩;obtain⟨lev,own,S,F,Z,g3,g4,g5⟩:=ho.rep;refine⟨lev,own,S,F,Z,g3,g4,?_⟩;intro i g k;rw[EZ,az (by simp at g;omega)]at k;exact(k rfl).elim
end
theorem yQ{z:Nat}:∀{R:List (List D)} {cs:List D},(∀r∈R,r.length=z)->cs.take (R.length*z)=R.flatten->rowsOf z R.length cs=R
 | [],_,_,_=>rfl
 |r::R,cs,h,ht=>by
  have hr:=h r (by simp);have f:∀r∈R,r.length=z:=λx g=>h x (by simp[g]);simp only[length_cons,rowsOf];rw[flatten_cons,length_cons,Nat.succ_mul]at ht;have c:cs.take z=r:=by
   have:=congrArg (List.take z) ht;rw[take_take,Nat.min_eq_left (by omega)]at this;rw[this,<-hr,take_left]
  have e:(cs.drop z).take (R.length*z)=R.flatten:=by
   have:=congrArg (drop z) ht;rw[drop_take,Nat.add_sub_cancel,<-hr,drop_left]at this;rw[<-hr];exact this
  rw[c,yQ f e]
variable{d:D}
def Oa(h:br d):v8 d=true:=by
 obtain⟨e,c⟩:=h;cases d<;>simp only[v8]<;>first|exact e.elim| (simp[D.names]at c;done)|simpa using c
variable{off:Nat}{cs:List D}
def J1(h:(cs.drop off).take (R.length*z)=R.flatten)(j:∀r∈R,r.length=z)(g:∀r∈R,∀d∈r,br d)(f:off+R.length*z<=cs.length):iy off z R.length (.box cs)=.sl z R:=by
 have c:((cs.drop off).take (R.length*z)).all v8=true:=by
  rw[h,cR];intro d e;obtain⟨r,hr,e⟩:=mem_flatten.1 e;exact Oa (g r hr d e)
 unfold iy;simp only[c,f,decide_true,Bool.and_self,if_true];rw[yQ j h]
variable{i m:Nat}
def Ay{cap:Nat}(c:∀r∈rows,r.length=z)(h:i+m<=rows.length):((eL rows cap z).drop (i*z)).take (m*z)=((rows.drop i).take m).flatten:=by
 have e:∀r∈rows.drop i,r.length=z:=λr hr=>c r (mem_of_mem_drop hr);have hl:=jq c;have f:(i+m)*z<=rows.length*z:=gK z h;rw[Nat.add_mul]at f;unfold eL;rw[drop_append_of_le_length (by omega),DW i c,take_append_of_le_length (by rw[jq e,dW,Nat.sub_mul];omega),DX m e]
def DK{cap:Nat}(c:∀r∈rows,r.length=z)(h:∀r∈rows,∀d∈r,br d)(hi:i<=rows.length)(f:rows.length<=cap):iy (i*z) z (rows.length-i) (.box (eL rows cap z))=.sl z (rows.drop i):=by
 have g:∀r∈rows.drop i,r.length=z:=λr hr=>c r (mem_of_mem_drop hr);have e:(rows.drop i).length=rows.length-i:=by simp
 rw[<-e];refine J1 ?_ g (λr hr=>h r (mem_of_mem_drop hr)) ?_
 ·rw[Ay c (by omega),take_of_length_le (cX _)]
 ·rw[nK c f,e,<-Nat.add_mul];exact gK z (by omega)
def wX(h:m<=off)(ho:off<=cs.length):(dc cs off ds).take m=cs.take m:=by
 unfold dc;rw[cu,take_append_of_le_length (by simp;omega),take_take,Nat.min_eq_left h]
def sS(ho:off<=cs.length):(dc cs off ds).take (off+ds.length)=cs.take off++ds:=by
 unfold dc;have:(cs.take off++ds).length=off+ds.length:=by simp;omega
 rw[<-this,take_left]
def uz{cap:Nat}(c:∀r∈rows,r.length=z)(h:i<=rows.length):(eL rows cap z).take (i*z)=(rows.take i).flatten:=by
 have:=Ay (cap:=cap) (i:=0) (m:=i) c (by omega);simpa using this
def NN(h:d∈dc cs off ds):d∈cs\/d∈ds:=by
 unfold dc at h;simp only[mem_append]at h;rcases h with(h|h)|h
 ·exact .inl (mem_of_mem_take h)
 ·exact .inr h
 ·exact .inl (mem_of_mem_drop h)
def iS:D->Bool
 | .undef| .bool _| .int _ _| .str _| .nil| .emp| .jh| .eB| .eW| .kP| .sl _ _| .bq _=>true
 | _=>false
variable{b:Nat->Bool}{a:Nat->Option Nat}
def NG(h:iS d=true):iR a b d d:=by
 cases d<;>first| (cases h;done)|simp[iR]
theorem fT{f:Nat->Option Nat}{e:Nat->Bool}:∀{X:List D},(∀d∈X,iS d=true)->ju f e X X
 | [],_=>by simp[ju]
 |d::X,h=>by
  simp only[ju];exact⟨NG (h d (by simp)),fT λx c=>h x (by simp[c])⟩
def Ax{cap:Nat}(h:∀r∈rows,∀d∈r,iS d=true):∀d∈eL rows cap z,iS d=true:=by
 intro d c;unfold eL at c;rcases mem_append.1 c with c|c
 ·obtain⟨r,hr,c⟩:=mem_flatten.1 c;exact h r hr d c
 ·rw[(mem_replicate.1 c).2];rfl
def sZ(h:∀r∈rows,∀d∈r,iS d=true):∀d∈rows.flatten,iS d=true:=by
 intro d c;obtain⟨r,hr,c⟩:=mem_flatten.1 c;exact h r hr d c
def tJ(c:∀d∈cs,iS d=true)(e:∀d∈ds,iS d=true):∀d∈dc cs off ds,iS d=true:=by
 intro d f;rcases NN f with h|h
 ·exact c d h
 ·exact e d h
end Go.Abs
