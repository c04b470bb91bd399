/- The evaluator, part 2; no theorem of a claim. -/
import Derived.Test.YtpepnkihgjjpmaaGreatAA
import Derived.Orders
import Derived.Carry
import Derived.ProofKit
import Derived.OpenShut
import Derived.Lib.SmallJoins
import Derived.LaidLaws
import Derived.Handed
import Derived.Deep.Slices
import Derived.SizedLaws
import Derived.Laws.Externs
set_option linter.all false
namespace Go.Abs
open List
variable{v a x y:D}{d:Nat}{t t2:Ty}{z:Option (List D)}{dr g:Bool}{o:Oper}
section
variable{P:Program}{n np:Nat}{e:Env}{K K':Env->Prop}
def W8(h:∀e,K e->K' e){t:TypeId}(q:Uv P e t a K v):Uv P e t a K' v:=by
 unfold Uv at q |-;split at q
 ·unfold StB at q |-;split at q
  ·cases s:iF P t with
   |none=>simp only[s]at q
   |some l=>simp only[s]at q |-;exact⟨q.1,q.2.1,q.2.2.1,h _ q.2.2.2⟩
  ·exact q.elim
 ·unfold StO at q |-;split at q
  ·cases s:iF P t with
   |none=>simp only[s]at q
   |some l=>simp only[s]at q |-;exact⟨q.1,q.2.1,q.2.2.1,q.2.2.2.1,q.2.2.2.2.1,h _ q.2.2.2.2.2⟩
  ·exact q.elim
 ·exact q.elim
def WT(h:∀e,K e->K' e){len:Nat}{ps:List (Nat×Operand)}(q:Rj e len ps d K t z):Rj e len ps d K' t z:=by
 unfold Rj at q |-;split at q
 ·exact⟨q.1,q.2.1,q.2.2.1,q.2.2.2.1,q.2.2.2.2.1,h _ q.2.2.2.2.2⟩
 ·exact q.elim
def W4(h:∀e,K e->K' e){l c:D}(q:WE e d K l c t z):WE e d K' l c t z:=by
 unfold WE at q |-;split at q
 ·exact⟨q.1,q.2.1,q.2.2.1,q.2.2.2.1,q.2.2.2.2.1,q.2.2.2.2.2.1,q.2.2.2.2.2.2.1,h _ q.2.2.2.2.2.2.2⟩
 ·exact q.elim
def Kh(h:∀e,K e->K' e)(q:tc e d K x y t t2):tc e d K' x y t t2:=by
 unfold tc at q |-;split at q
 ·refine⟨q.1,?_⟩;have q:=q.2;unfold AP at q |-;split at q
  ·exact⟨q.1,q.2.1,h _ q.2.2⟩
  ·exact⟨q.1,q.2.1,h _ q.2.2⟩
  ·unfold Uq at q |-;split at q
   ·exact⟨q.1,q.2.1,q.2.2.1,h _ q.2.2.2⟩
   ·exact q.elim
  ·exact q.elim
 ·exact q.elim
def Rk(h:∀e,K e->K' e){f:Operand}{args:List Operand}(q:BL P dr e d f args K):BL P dr e d f args K':=by
 obtain⟨fz,gs,bw,s,w,A,q⟩:=q;exact⟨fz,gs,bw,s,w,A,td (KW.mono h) q⟩
theorem VD(h:∀e,K e->K' e)(q:jD P n dr o e g K):jD P n dr o e g K':=by
 have w:∀{g:Bool} {a B:Prop} {e:Env},(a->B)->GK g a (K e)->GK g B (K' e):=λG E=>⟨λx=>G (E.1 x),λx=>h _ (E.2 x)⟩
 have st:∀{g:Bool} {ok:Prop} {v:D} {d:Nat},iz g ok v (λu=>K (ck e d u))->iz g ok v (λu=>K' (ck e d u)):=λF=>⟨F.1,h _ F.2⟩
 cases C:o.dst with
 |none =>
  cases s:o.op<;>simp only[jD,s,C]at q |-;exact⟨q.1,W8 h q.2⟩
 |some d =>
  cases s:o.op<;>simp only[jD,s,C]at q |-<;>(try exact⟨q.1,st q.2⟩)
  case box t x=>exact⟨q.1,q.2.1,q.2.2.1,q.2.2.2.1,h _ q.2.2.2.2⟩
  case alloc t =>
   refine⟨q.1,q.2.1,?_⟩;have q:=q.2.2;unfold Up at q |-;split at q
   ·exact⟨q.1,h _ q.2⟩
   ·exact q.elim
  case buildSlice t len parts=>exact⟨q.1,w (λx=>⟨x.1,WT h x.2⟩) q.2⟩
  case makeSlice t l c=>exact⟨q.1,w (W4 h) q.2⟩
  case call c =>
   refine⟨q.1,?_⟩;have q:=q.2;cases A:c.callee with
   |invoke r m=>rw[A]at q;exact q.elim
   |value f=>rw[A]at q;exact w (λq=>q.elim (λq=>.inl (Rk h q)) (λq=>.inr ⟨q.1,q.2.mono h⟩)) q
   |builtin b =>
    rw[A]at q;cases b<;>simp only at q |-<;>(try exact st q);refine⟨q.1,q.2.1,?_⟩;have q:=q.2.2;split at q
    ·unfold Dj at q |-;split at q
     ·exact q.mono h
     ·exact q.mono h
     ·exact Kh h q
    ·exact q.elim
def tV(h:∀e,K e->K' e)(q:l9 P n dr o e g K):l9 P n dr o e g K':=by
 unfold l9 at q |-;split at q
 ·rename_i s;rw[aq s];exact⟨q.1,q.2.1,q.2.2.mono h⟩
 ·rename_i s;rw[au s];exact VD h q
end

def xk(l:List Operand):List Nat:=l.filterMap λ| .tmp t=>some t| _=>none
def keyOf(ops:List Oper):Nat->Nat->List Nat
 | 0,t=>[t]
 |k+1,t=>match ops.find? (λo=>o.dst==some t)with
  |some o=>(match o.op with
   | .fieldAddr _ (.tmp u) f=>f::keyOf ops k u
   | _=>[t])
  |none=>[t]
def aaW(ops:List Oper)(q:List Nat)(o:Oper):Bool:=
 match o.op with
 | .load _ (.tmp u)=>keyOf ops 4 u==q
 | _=>false
def rootOf(ops:List Oper):Nat->Nat->Nat
 | 0,t=>t
 |k+1,t=>match ops.find? (λo=>o.dst==some t)with
  |some o=>(match o.op with
   | .fieldAddr _ (.tmp u) _=>rootOf ops k u
   | .indexAddr _ (.tmp u) _=>rootOf ops k u
   | .nilCheck (.tmp u)=>rootOf ops k u
   | .move (.tmp u)=>rootOf ops k u
   | .load _ (.tmp u)=>(match ops.find? (aaW ops (keyOf ops 4 u))with
    |some x=>x.dst.getD t
    |none=>t)
   | _=>t)
  |none=>t
def Ae(s:Nat):List Nat:=(range 16).map (nm s)
def nmS(np s:Nat):List Nat:=Ae s++if s<np then range 16 else[]
def rdT(ops:List Oper)(o:Oper):List Nat:=
 xk o.op.operands.toList++(match o.guard with
  |some (j,_)=>(xJ ops j).toList
  |none=>[])
def looks(o:Op):Bool:=
 match o with
 | .load _ _| .store _ _ _| .indexAddr _ _ _| .slice _ _ _ _ _| .call _=>true
 | _=>false
def rdO(np:Nat)(ops:List Oper)(o:Oper):List Nat:=if looks o.op then(xk o.op.operands.toList).flatMap λt=>nmS np (rootOf ops 8 t)else[]
def makes(o:Op):Bool:=
 match o with
 | .alloc _| .box _ _| .buildSlice _ _ _| .makeSlice _ _ _=>true
 | .call c=>(match c.callee with
  | .value _=>true
  | .builtin .append=>true
  | _=>false)
 | _=>false
def IG(np:Nat)(ops:List Oper):Operand->List Nat
 | .tmp t=>nmS np (rootOf ops 8 t)
 | _=>[]
def Fi:Nat:=161
def Fj:Nat:=999998
def Hp(o:Oper):Bool:=
 match o.op with
 | .call c=>(match c.callee with
  | .value _=>(match c.argTypes.toList with
   |t::_=>t==Fi||t==Fj
   | []=>false)
  | _=>false)
 | _=>false
def H6:Nat:=999997
def rU(o:Oper):Bool:=
 match o.op with
 | .call c=>(match c.callee with
  | .value _=>(match c.argTypes.toList with
   |t::_=>t==H6
   | []=>false)
  | _=>false)
 | _=>false
def Jh(np:Nat)(ops:List Oper)(o:Oper):List Nat:=
 (match o.dst with
  |some d=>if makes o.op then Ae d else[]
  |none=>[])++(match o.op with
  | .store _ a _=>IG np ops a
  | .call c=>if rU o then(match c.args.toList with
   |a::_=>IG np ops a
   | []=>[])else[]
  | _=>[])
def WC(o:Oper):List Nat:=o.dst.toList
def ab1(np:Nat)(ops:List Oper):List Nat:=ops.flatMap (Jh np ops)
def Gh(np:Nat)(ops:List Oper)(x y:Oper):Bool:=
 (WC x).all (λs=>!(rdT ops y).contains s&&!(WC y).contains s)&&(WC y).all (λs=>!(rdT ops x).contains s) &&
 (Jh np ops x).all (λs=>!(rdO np ops y).contains s&&!(Jh np ops y).contains s)&&(Jh np ops y).all (λs=>!(rdO np ops x).contains s)
def isApp(o:Oper):Bool:=
 match o.op with
 | .call c=>(match c.callee with
  | .builtin .append=>true
  | _=>false)
 | _=>false
def oT(o:Oper):Bool:=hard o||isApp o||Hp o||rU o
def isT(t:Nat)(a:Operand):Bool:=
 match a with
 | .tmp u=>u==t
 | _=>false
def afB(o:Op):Bool:=
 match o with
 | .buildSlice _ len ps=>len==0&&ps.toList.isEmpty
 | _=>false
def aej(t:Nat)(o:Op):Bool:=
 match o with
 | .call c=>(match c.callee with
  | .builtin .append=>(match c.args.toList with
   |x::_=>isT t x
   | []=>false)
  | _=>false)
 | _=>false
def Pu(t:Nat):List Oper->Bool
 | []=>false
 |o::r=>(afB o.op&&(o.guard.isNone&&o.dst==some t))||Pu t r
def Ob(t:Nat):List Oper->Bool
 | []=>false
 |o::r=>aej t o.op||Ob t r
def ac3(ops:List Oper)(a:Operand):Bool:=
 match a with
 | .tmp t=>Pu t ops
 | _=>false
def Zc(ops:List Oper)(s:Op)(q:Option Tmp):Bool:=
 match s with
 | .buildSlice _ len ps=>len==0&&(ps.toList.isEmpty&&(match q with
  |some d=>Ob d ops
  |none=>false))
 | .call c=>(match c.callee with
  | .builtin .append=>(match c.args.toList with
   |x::_=>ac3 ops x
   | []=>false)
  | _=>false)
 | _=>false
def lC(ops:List Oper)(o:Oper):Bool:=Zc ops o.op o.dst&&o.guard.isNone
def Am(ops:List Oper)(o:Oper):Bool:=(hard o||isApp o||Hp o)&&!lC ops o
def sl1(o:Op):Bool:=
 match o with
 | .slice _ _ _ _ _=>true
 | _=>false
def Y7(t:Nat):List Oper->Bool
 | []=>false
 |o::r=>(sl1 o.op&&o.dst==some t)||Y7 t r
def alF(ops:List Oper)(a:Operand):Bool:=
 match a with
 | .tmp t=>Y7 t ops
 | _=>false
def EP(ops:List Oper)(o:Op):Bool:=
 match o with
 | .call c=>(match c.args.toList with
  |x::_=>alF ops x
  | []=>false)
 | _=>false
def DK(ops:List Oper)(o:Oper):Bool:=isApp o&&!EP ops o.op
variable{ops:List Oper}
def Hi(h:DK ops o=true):EP ops o.op=false:=by
 simp only[DK,Bool.and_eq_true,gD]at h;exact h.2
def tJ(h:DK ops o=true):isApp o=true:=by
 simp only[DK,Bool.and_eq_true]at h;exact h.1
def frE:List Oper->Bool
 | []=>false
 |o::r=>o.after.toList.isEmpty||frE r
def Zv(ops:List Oper):List Oper->Bool
 | []=>false
 |o::r=>(isApp o&&(!lC ops o&&frE r))||Zv ops r
def FC(ops:List Oper):Bool:=Zv ops ops
def Pk(o:Op):Bool:=
 match o with
 | .move _| .fieldAddr _ _ _| .load _ _| .unOp _ _ _| .binOp _ _ _ _ _| .buildSlice _ _ _=>true
 | _=>false
def Di:D->Bool
 | .undef| .fn _ _| .agg _| .bI _| .box _=>false
 | _=>true
def NP:D->Bool
 | .box cs=>cs.all Di
 | _=>false
def Wl(e:Env):D->Bool
 | .addr r _=>NP (e.o r)
 | _=>false
def FB(e:Env):List (Nat×Operand)->Bool
 | []=>true
 |p::r=>Di (rd e p.2)&&FB e r
def mq(e:Env)(o:Op):Prop:=
 match o with
 | .move x=>Di (rd e x)=true
 | .fieldAddr _ x _=>Di (rd e x)=true
 | .load _ a=>Wl e (rd e a)=true
 | .unOp _ _ x=>Di (rd e x)=true
 | .binOp _ _ x y _=>Di (rd e x)=true/\Di (rd e y)=true
 | .buildSlice _ _ ps=>FB e ps.toList=true
 | _=>True
def E9(e:Env)(o:Op):D:=
 match o with
 | .call c=>(match c.args.toList with
  |x::_=>rd e x
  | []=>.undef)
 | _=>.undef
def aaP(o:Op):Bool:=
 match o with
 | .buildSlice _ _ _=>true
 | _=>false
def HP:D->Bool
 | .undef| .own _ _| .box _=>true
 | _=>false
def Li(N:Nat):D->Bool
 | .ref r=>!(r==N)
 | _=>true
def Rs(e:Env)(v:D):List Oper->Prop
 | []=>True
 |y::r=>(match aaP y.op,y.dst with
  |true,some d=>HP (e.o (nm d 0))=true/\Li (nm d 0) v=true
  | _,_=>True)/\Rs e v r
def apU(ops:List Oper)(o:Oper)(e:Env):Prop:=FC ops=true->Rs e (E9 e o.op) ops
def Eo(ops:List Oper)(o:Oper)(e:Env):Prop:=FC ops=true->o.guard=none->mq e o.op
def apY(np:Nat)(ops:List Oper)(x y:Oper):Bool:=
 FC ops&&(DK ops x&&(x.guard.isNone&&(y.guard.isNone&&(Pk y.op&&(!lC ops x&&(!lC ops y&&(!oT y&&(!(xk x.op.operands.toList).any (λs=>y.dst==some s)&&(!(xk y.op.operands.toList).any (λs=>x.dst==some s)&&(x.dst != y.dst&&(match x.dst with
  |some d=>(Ae d).all (λs=>!(rdO np ops y).contains s)
  |none=>false)))))))))))
def PR(ops:List Oper)(x y:Oper):Bool:=
 match x.op,x.dst,x.guard with
 | .move (.tmp u),some dx,none=>DK ops y&&y.guard.isNone&&!(xk y.op.operands.toList).contains dx&&y.dst != some dx&&y.dst != some u&&!FC ops
 | _,_,_=>false
def qo(P:Program)(n:Nat)(o:Oper)(e:Env)(g:Bool)(K:Env->Prop):Prop:=
 match o.op,o.dst with
 | .call c,some d=>d<n/\g=true/\(match c.args.toList,c.argTypes.toList with
  | [x,y],[T,T2]=>tc e d K (rd e x) (rd e y) (eH P T) (eH P T2)
  | _,_=>False)
 | _,_=>False
variable{l:List Operand}{dx:Nat}
section
variable{P:Program}{n:Nat}{e:Env}{K K':Env->Prop}
def adL{S:Prop}(h:tc e d K x y t t2):Dj e d K S x y t t2:=by
 unfold Dj;split
 ·unfold tc at h;split at h
  ·have:=h.2;unfold AP at this;split at this<;>simp_all
  ·exact h.elim
 ·unfold tc at h;split at h
  ·have:=h.2;simp only[pP,sC]at this;unfold AP at this;split at this<;>simp_all
  ·exact h.elim
 ·exact h
def RW(h:isApp o=true):hard o=false:=by
 unfold isApp at h;unfold hard;split at h
 ·rename_i c q;rw[q];split at h
  ·rename_i s;simp[s]
  ·cases h
 ·cases h
def Oa(q:isApp o=true)(h:qo P n o e g K):l9 P n false o e g K:=by
 unfold l9;rw[RW q];unfold isApp at q;unfold qo at h;split at q
 ·rename_i c s;split at q
  ·rename_i D;rw[s]at h;cases A:o.dst with
   |none=>rw[A]at h;exact h.elim
   |some d =>
    rw[A]at h;obtain⟨B,C,w⟩:=h;simp only[Bool.false_eq_true,if_false,jD,s,A,D];refine⟨B,C,aS,?_⟩;split at w
    ·rename_i x y T T2 q E;rw[q,E];exact adL w
    ·exact w.elim
  ·cases q
 ·cases q
def Dt(h:∀e,K e->K' e)(q:qo P n o e g K):qo P n o e g K':=by
 unfold qo at q |-;split at q
 ·refine⟨q.1,q.2.1,?_⟩;have s:=q.2.2;split at s
  ·exact Kh h s
  ·exact s.elim
 ·exact q.elim
theorem abv{x:Operand}(q:x∈l)(h:(xk l).contains dx=false):rd (ck e dx v) x=rd e x:=by
 cases x with
 |tmp t =>
  have:t≠dx:=by
   rintro rfl;have:t∈xk l:=mem_filterMap.2 ⟨_,q,rfl⟩;rw[contains_eq_mem]at h;simp[this]at h
  exact uO this
 | _=>rfl
theorem Ux{u:Nat}(R:(xk o.op.operands.toList).contains dx=false)(L:o.dst≠some dx)(M:o.dst≠some u)(h:qo P n o (ck e dx (e.t u)) g K) :
  qo P n o e g λe2=>K (ck e2 dx (e2.t u)):=by
 unfold qo at h |-;cases B:o.op<;>rw[B]at h<;>try exact h.elim
 rename_i c;cases C:o.dst with
 |none=>rw[C]at h;exact h.elim
 |some d =>
  rw[C]at h;obtain⟨U,V,q⟩:=h;refine⟨U,V,?_⟩;have G:d≠dx:=λh=>L (by rw[C,h]);have F:d≠u:=λh=>M (by rw[C,h]);have s:∀(e:Env)(v:D)(k:Nat)(y r:D),v=e.t u->ck (dU (ck e dx v) k y) d r=ck (ck (dU e k y) d r) dx ((ck (dU e k y) d r).t u):=by
   intro e v k y r Q;have J:(ck (dU e k y) d r).t u=v:=by rw[uO (Ne.symm F)];exact Q.symm
   rw[J];simp only[ck,dU,Env.mk.injEq,and_true];funext j;by_cases H:j=d
   ·subst H;simp[G]
   ·simp[H]
  split at q<;>try exact q.elim
  rename_i x y T T2 w htys;have A:∀z∈c.args.toList,rd (ck e dx (e.t u)) z=rd e z:=λz S=>abv (l:=o.op.operands.toList) (by rw[B];simp only[Op.operands,Call.operands,Array.toList_append,mem_append];exact .inr S) R;rw[A x (by rw[w];simp),A y (by rw[w];simp)]at q;unfold tc at q |-;split at q<;>try exact q.elim
  refine⟨q.1,?_⟩;have q:=q.2;have E:pP (ck e dx (e.t u)).o [] 2 (rd e y)=pP e.o [] 2 (rd e y):=rfl;rw[E]at q;unfold AP at q |-;split at q<;>try exact q.elim
  ·refine⟨q.1,q.2.1,?_⟩;dsimp only;rw[<-s e _ _ _ _ rfl];exact q.2.2
  ·refine⟨q.1,q.2.1,?_⟩;dsimp only;rw[<-s e _ _ _ _ rfl];exact q.2.2
  ·rename_i r rows2 _ _;have O:(ck e dx (e.t u)).o r=e.o r:=rfl;rw[O]at q;unfold Uq at q |-;split at q<;>try exact q.elim
   refine⟨q.1,q.2.1,q.2.2.1,?_⟩;have N:lp r (ck e dx (e.t u))=ck (lp r e) dx ((lp r e).t u):=by
    simp only[lp,ck,Env.mk.injEq,and_true];funext j;split<;>rfl
   have I:=q.2.2.2;rw[N]at I;dsimp only;rw[<-s (lp r e) _ _ _ _ rfl];exact I
end
def D3(ops:Array Oper):Nat->Nat->Nat->Bool
 | 0,_,_=>false
 |k+1,i,j=>match ops[i]? with
  |none=>false
  |some y=>y.after.any (λe=>Region.binds .any e&&(e.on==j||D3 ops k e.on j))
def AU(np:Nat)(ops:Array Oper):Bool:=
 (range ops.size).all λi=>match ops[i]? with
  |none=>true
  |some y=>y.after.all (λe=>!Region.binds .any e||e.on<i) &&
    (range i).all λj=>y.after.any (λe=>Region.binds .any e&&e.on==j)||(match ops[j]? with
     |none=>true
     |some x=>(!Am ops.toList x&&!Am ops.toList y&&Gh np ops.toList x y)||(PR ops.toList x y&&!lC ops.toList y&&!lC ops.toList x)||apY np ops.toList x y||D3 ops 12 i j)

def reach(o:Nat->D):Nat->List Nat->List Nat
 | 0,ns=>ns
 |k+1,ns=>ns++reach o k (D.bW (ns.map o))
def ct(e:Env)(o:Oper):List Nat:=
 match o.op with
 | .load _ a=>(rd e a).names
 | .store _ a _=>(rd e a).names
 | .indexAddr _ x _=>(rd e x).names
 | .slice _ x _ _ _=>(rd e x).names
 | .call c=>(match c.callee with
  | .value f=>reach e.o 4 (D.bW (rd e f::c.args.toList.map (rd e)))
  | _=>D.bW (c.args.toList.map (rd e)))
 | _=>[]
def tU(np:Nat)(ops:List Oper)(o:Oper)(r:Nat):Bool:=
 (match o.op with
  | .store _ _ _=>(Jh np ops o).contains r
  | _=>(rdO np ops o).contains r||!(ab1 np ops).contains r)
def pX(np:Nat)(ops:List Oper)(o:Oper):List Nat->Prop
 | []=>True
 |r::rs=>tU np ops o r=true/\pX np ops o rs
theorem sS{np:Nat}{ops:List Oper}{o:Oper}:∀{l:List Nat},pX np ops o l->∀r∈l,tU np ops o r=true
 | [],_,r,q=>by cases q
 |x::l,h,r,q=>by
  rcases mem_cons.1 q with rfl|q
  ·exact h.1
  ·exact sS h.2 r q
def N3(P:Program)(n np:Nat)(ops:List Oper)(o:Oper)(e:Env)(g:Bool)(K:Env->Prop):Prop:=
 (g=true->pX np ops o (ct e o))/\l9 P n true o e g K
def Ur(e:Env)(z q d:Nat)(K:Env->Prop)(y:Option (List (List D))):Prop:=
 match y with
 |some rows2=>(q+(1-q))*rows2.length<=2^47/\e.o (nm d 0)=.undef/\K (ck (dU e (nm d 0) (.own z rows2)) d (.ref (nm d 0)))
 |none=>False
def Jp(e:Env)(d:Nat)(K:Env->Prop)(x y:D)(t t2:Ty):Prop:=
 match x,t,t2 with
 | .emp,.slice z by_ _,.slice _ _ _=>by_<=2^32/\Ur e z by_ d K (sC z (pP e.o [] 2 y))
 | _,_,_=>False
def Jq(e:Env)(d:Nat)(K:Env->Prop)(t:Ty):Prop:=
 match t with
 | .slice _ _ _=>e.o (nm d 0)=.undef/\K (ck e d .emp)
 | _=>False
def qn(P:Program)(n np:Nat)(ops:List Oper)(o:Oper)(e:Env)(K:Env->Prop):Prop:=
 match o.op,o.dst with
 | .buildSlice t _ _,some d=>d<n/\Jq e d K (eH P t)
 | .call c,some d=>d<n/\(match c.args.toList,c.argTypes.toList with
  | [x,y],[T,T2]=>pX np ops o (reach e.o 2 (rd e y).names)/\Jp e d K (rd e x) (rd e y) (eH P T) (eH P T2)
  | _,_=>False)
 | _,_=>False
variable{K' K:Env->Prop}{e:Env}{P:Program}
def Us(h:∀e,K e->K' e)(q:Jp e d K x y t t2):Jp e d K' x y t t2:=by
 unfold Jp at q |-;split at q
 ·refine⟨q.1,?_⟩;have q:=q.2;unfold Ur at q |-;split at q
  ·exact⟨q.1,q.2.1,h _ q.2.2⟩
  ·exact q.elim
 ·exact q.elim
variable{np n:Nat}
def IY(h:∀e,K e->K' e)(q:qn P n np ops o e K):qn P n np ops o e K':=by
 unfold qn at q |-;split at q
 ·refine⟨q.1,?_⟩;have q:=q.2;unfold Jq at q |-;split at q
  ·exact⟨q.1,h _ q.2⟩
  ·exact q.elim
 ·refine⟨q.1,?_⟩;have q:=q.2;split at q
  ·exact⟨q.1,Us h q.2⟩
  ·exact q.elim
 ·exact q.elim
def adO(q:Jp e d K x y t t2):tc e d K x y t t2:=by
 unfold Jp at q;split at q
 ·unfold tc;refine⟨q.1,?_⟩;have q:=q.2;unfold Ur at q;split at q
  ·rename_i s;rw[s];exact q
  ·exact q.elim
 ·exact q.elim
def Ud(h:lC ops o=true):o.guard=none/\((∃t len ps d,o.op=.buildSlice t len ps/\o.dst=some d/\len=0/\ps = #[])\/isApp o=true):=by
 unfold lC at h;simp only[Bool.and_eq_true,Option.isNone_iff_eq_none]at h;refine⟨h.2,?_⟩;have h:=h.1;unfold Zc at h;split at h
 ·rename_i t len ps q;simp only[Bool.and_eq_true,ff]at h;obtain⟨w,A,s⟩:=h;split at s
  ·rename_i d C;refine .inl ⟨t,len,ps,d,q,C,w,?_⟩;have:ps.toList=[]:=isEmpty_iff.1 A;exact Array.ext' (by simpa using this)
  ·cases s
 ·rename_i c q;split at h
  ·rename_i B;right;simp[isApp,q,B]
  ·cases h
 ·cases h
def Z2(P:Program)(np:Nat)(ops:List Oper)(o:Oper)(e:Env)(d:Nat)(f:Operand)(args:List Operand)(K:Env->Prop):Prop:=
 ∃(gs:List Nat)(q:List D)(s:D),(∀r∈gs,r∈IG np ops (args.headD (.global 0)))/\pX np ops o (reach e.o 5 (gs++D.bW (rd e f::args.map (rd e))))/\lW gs q=[]/\oJ P e d args gs false q s K (rd e f)
def Af(P:Program)(n np:Nat)(ops:List Oper)(o:Oper)(e:Env)(g:Bool)(K:Env->Prop):Prop:=
 match o.op,o.dst with
 | .call c,some d=>(match c.callee with
  | .value f=>d<n/\GK g (Z2 P np ops o e d f c.args.toList K) (K (ck e d (.bI [])))
  | _=>False)
 | _,_=>False
def Lz(h:∀e,K e->K' e)(q:Af P n np ops o e g K):Af P n np ops o e g K':=by
 unfold Af at q |-;split at q
 ·split at q
  ·refine⟨q.1,λs=>?_,λs=>h _ (q.2.2 s)⟩;obtain⟨gs,w,A,B,C,D,E⟩:=q.2.1 s;exact⟨gs,w,A,B,C,D,td h E⟩
  ·exact q.elim
 ·exact q.elim
def YR(s:Af P n np ops o e g K):l9 P n false o e g K:=by
 unfold Af at s;split at s
 ·rename_i c d w C;split at s
  ·rename_i f q;have E:hard o=false:=by simp[hard,w,q]
   unfold l9;rw[E];simp only[Bool.false_eq_true,if_false,jD,w,C,q];refine⟨s.1,λD=>?_,s.2.2⟩;obtain⟨gs,A,B,k1,k2,k3,F⟩:=s.2.1 D;exact .inl ⟨[],gs,false,A,B,(λh=>by cases h),td (λ_ h=>.inl h) F⟩
  ·exact s.elim
 ·exact s.elim
def gh(P:Program)(n np:Nat)(ops:List Oper)(o:Oper)(e:Env)(K:Env->Prop):Prop:=
 match tE ops e o.guard with
 |some g=>if lC ops o then qn P n np ops o e K else if oT o then(if isApp o then(if EP ops o.op then l9 P n false o e g K else qo P n o e g K/\apU ops o e)else if rU o then Af P n np ops o e g K else l9 P n false o e g K)else N3 P n np ops o e g K/\Eo ops o e
 |none=>False
def pO(P:Program)(n np:Nat)(ops:List Oper):List Oper->Env->(Env->Prop)->Prop
 | [],e,K=>K e
 |o::r,e,K=>gh P n np ops o e λq=>pO P n np ops r q K

def E6(s q:Nat->Option D)(e:Env):Env:=⟨λj=>(s j).getD (e.t j),λj=>(q j).getD (e.o j)⟩
def one(i:Nat)(d:D):Nat->Option D:=λj=>if j=i then some d else none
def rK:Nat->Option D:=λ_=>none
def Ca(i:Nat)(d:D)(e:Env):ck e i d=E6 (one i d) rK e:=by
 simp only[ck,E6,one,rK,Option.getD_none,Env.mk.injEq,and_true];funext j;by_cases h:j=i<;>simp[h]
def Ts(i:Nat)(d:D)(e:Env):dU e i d=E6 rK (one i d) e:=by
 simp only[dU,E6,one,rK,Option.getD_none,Env.mk.injEq,true_and];funext j;by_cases h:j=i<;>simp[h]
def Mw(i k:Nat)(d x:D)(e:Env):ck (dU e k x) i d=E6 (one i d) (one k x) e:=by
 rw[Ca,Ts];simp[E6,rK]
def Ej(f:Nat->Option Nat):List Nat->List D->Nat->Option D
 |n::ns,h::hs=>λj=>match Ej f ns hs j with
  |some x=>some x
  |none=>if j=n then some (h.nI f)else none
 | _,_=>rK
theorem Ia(f:Nat->Option Nat):∀(ns:List Nat)(q:List D)(e:Env),H9 f ns q e=E6 rK (Ej f ns q) e
 | [],_,e=>rfl
 | _::_,[],e=>rfl
 |n::ns,h::q,e=>by
  rw[H9,Ia f ns q,Ts];simp only[E6,rK,Ej,Option.getD_none,Env.mk.injEq,true_and];funext j;cases Ej f ns q j with
  |some x=>rfl
  |none=>simp[one]
theorem Ji{f:Nat->Option Nat}:∀{ns:List Nat} {q:List D} {j:Nat} {x:D},Ej f ns q j=some x->j∈ns
 | [],_,j,x,h=>by simp[Ej,rK]at h
 | _::_,[],j,x,h=>by simp[Ej,rK]at h
 |n::ns,y::q,j,x,h=>by
  simp only[Ej]at h;cases e:Ej f ns q j with
  |some z=>exact mem_cons_of_mem _ (Ji e)
  |none =>
   rw[e]at h;simp only at h;split at h
   ·rename_i s;subst s;simp
   ·cases h
def Lw(d:Nat)(q:List D)(s:D)(e:Env):eK e d [] q s=E6 (one d (s.nI (Km (gj d [] q)))) (Ej (Km (gj d [] q)) (gj d [] q) q) e:=by
 have w:lW [] q=[]:=by cases q<;>rfl
 unfold eK;rw[w,yI,Ia,Ca];simp[E6,rK]

def pW(np:Nat)(ops:List Oper)(o:Oper)(e e2:Env):Prop:=
 (∀s∈rdT ops o,e.t s=e2.t s)/\∀r,(r∈rdO np ops o\/r∈Jh np ops o\/r∉ab1 np ops)->e.o r=e2.o r
def w7{t:Nat}(h:.tmp t∈l):t∈xk l:=mem_filterMap.2 ⟨_,h,rfl⟩

variable{r:Nat}{b:List D}{e2:Env}{c f:Nat->D}{p h i m:Nat->Option D}{j u:Oper}{k:Option Nat}
section
variable{P:Program}{n np:Nat}{ops:List Oper}{o:Oper}{e e2:Env}

def pW.rd(h:pW np ops o e e2){x:Operand}(q:x∈o.op.operands.toList):rd e x=rd e2 x:=by
 cases x<;>try rfl
 rename_i t;exact h.1 t (mem_append_left _ (w7 q))
def pW.obj(h:pW np ops o e e2)(q:pX np ops o (ct e o))(s:r∈ct e o):e.o r=e2.o r:=by
 have:=sS q r s;unfold tU at this;refine h.2 r ?_;split at this
 ·exact .inr (.inl (contains_iff_mem.1 this))
 ·simp only[Bool.or_eq_true,gD,contains_eq_mem,bz,gv]at this;rcases this with h|h
  ·exact .inl h
  ·exact .inr (.inr h)

theorem sW(o1:Nat->D):∀(k:Nat)(a b:List Nat),(∀r∈a,r∈b)->∀r∈reach o1 k a,r∈reach o1 k b:=by
 intro k;induction k with
 |zero=>intro a b q r w;exact q r w
 |succ k ih =>
  intro a b q r w;simp only[reach,mem_append]at w |-;rcases w with w|w
  ·exact .inl (q r w)
  ·refine .inr (ih _ _ ?_ r w);intro s A;obtain⟨y,B,A⟩:=eO.1 A;obtain⟨z,C,rfl⟩:=mem_map.1 B;exact eO.2 ⟨_,mem_map.2 ⟨z,q z C,rfl⟩,A⟩
theorem xu(o1:Nat->D):∀(k:Nat)(a:List Nat),∀r∈reach o1 k a,r∈reach o1 (k+1) a:=by
 intro k;induction k with
 |zero=>intro a r q;simp only[reach];exact mem_append_left _ q
 |succ k ih =>
  intro a r q;simp only[reach,mem_append]at q;rcases q with q|q
  ·simp only[reach];exact mem_append_left _ q
  ·show r∈a++reach o1 (k+1) _;exact mem_append_right _ (ih _ r q)
theorem zC{o1 o2:Nat->D}(x:List Nat):∀(k:Nat)(d:D),(∀r∈reach o1 k d.names,o1 r=o2 r)->pP o1 x k d=pP o2 x k d
 | 0,d,_=>rfl
 |k+1,d,h=>by
  have q:∀r∈d.names,o1 r=o2 r:=λr C=>h r (by simp only[reach];exact mem_append_left _ C);have w:∀cs:List D,(∀c∈cs,∀r∈reach o1 k c.names,o1 r=o2 r)->cs.map (pP o1 x k)=cs.map (pP o2 x k):=λcs A=>map_congr_left λc G=>zC x k c (A c G);have sub:∀cs:List D,D.bW cs=d.names->∀c∈cs,∀r∈reach o1 k c.names,o1 r=o2 r:=by
   intro cs e c A r C;refine h r (xu o1 k _ r (sW o1 k _ _ ?_ r C));intro s E;rw[<-e];exact eO.2 ⟨c,A,E⟩
  cases d<;>simp only[pP]
  ·rw[w _ (sub _ rfl)]
  ·rw[w _ (sub _ rfl)]
  ·rw[w _ (sub _ rfl)]
  ·rw[q _ (by simp[D.names])]
  ·rename_i r off;have F:=q r (by simp[D.names]);rw[<-F];congr 1;unfold nY;split
   ·rename_i cs B;congr 1;refine map_congr_left ?_;intro c A;refine zC x k c ?_;intro s E;refine h s ?_;simp only[reach];refine mem_append_right _ (sW o1 k _ _ ?_ s E);intro t H;refine eO.2 ⟨o1 r,mem_map.2 ⟨r,by simp[D.names],rfl⟩,?_⟩;rw[B];simp only[D.names];exact eO.2 ⟨c,mem_of_mem_drop A,H⟩
   ·rfl
  ·rw[q _ (by simp[D.names])]
  ·rw[q _ (by simp[D.names])]
  ·rw[q _ (by simp[D.names])]

theorem wP{o1 o2:Nat->D}(bw:Bool)(gs:List Nat):∀(k:Nat)(d:D),(∀r∈reach o1 k d.names,o1 r=o2 r)->conv bw gs o1 k d=conv bw gs o2 k d
 | 0,d,_=>rfl
 |k+1,d,h=>by
  have q:∀cs:List D,(∀c∈cs,∀r∈reach o1 k c.names,o1 r=o2 r)->cs.map (conv bw gs o1 k)=cs.map (conv bw gs o2 k):=λcs w=>map_congr_left λc C=>wP bw gs k c (w c C);have sub:∀cs:List D,D.bW cs=d.names->∀c∈cs,∀r∈reach o1 k c.names,o1 r=o2 r:=by
   intro cs e c w r A;refine h r (xu o1 k _ r (sW o1 k _ _ ?_ r A));intro s E;rw[<-e];exact eO.2 ⟨c,w,E⟩
  have B:pP o1 gs k d=pP o2 gs k d:=zC gs k d λr A=>h r (xu o1 k _ r A);cases d<;>simp only[conv]
  ·rw[q _ (sub _ rfl)]
  ·rw[q _ (sub _ rfl)]
  ·rw[q _ (sub _ rfl)]
  all_goals rw[B]

def Vf{l:EX}{d:D}(h:∀r∈d.names,e.o r=e2.o r):ZG e l d=ZG e2 l d/\(MG e l d↔MG e2 l d):=by
 cases d<;>simp only[ZG,MG]<;>(try exact⟨trivial,aS⟩)<;>(try exact⟨trivial,Iff.rfl⟩)
 all_goals(rw[h _ (by simp[D.names])];exact⟨rfl,Iff.rfl⟩)
def R6{d:D}(h:∀r∈d.names,e.o r=e2.o r):MJ e t d=MJ e2 t d/\(Cq e t d↔Cq e2 t d):=by
 have q:Yf e d=Yf e2 d:=by
  cases d<;>simp only[Yf];rw[h _ (by simp[D.names])]
 have s:HA e d↔HA e2 d:=by
  cases d<;>simp only[HA];rw[h _ (by simp[D.names])]
 unfold MJ Cq;rw[q,s];exact⟨rfl,Iff.rfl⟩
def U7{d i:D}(h:∀r∈d.names,e.o r=e2.o r):U6 e t d i=U6 e2 t d i/\(O2 e t d i↔O2 e2 t d i):=by
 cases d<;>cases i<;>simp only[U6,O2]<;>(try exact⟨trivial,aS⟩)<;>(try exact⟨trivial,Iff.rfl⟩);rw[h _ (by simp[D.names])];exact⟨trivial,Iff.rfl⟩
def Wc{d:D}(h:FZ e t d=FZ e2 t d):WO e t d=WO e2 t d:=by
 cases d<;>first|exact h| (cases t<;>rfl)
def We{d:D}(h:∀r∈d.names,e.o r=e2.o r):FZ e t d=FZ e2 t d/\∀l m,SK e t d l m=SK e2 t d l m:=by
 by_cases q:∃r,d=.ref r
 ·obtain⟨r,rfl⟩:=q;have s:=h r (by simp[D.names]);exact⟨by cases t<;>simp[FZ,s],λl m=>by simp[SK,s]⟩
 ·refine⟨?_,λl m=>?_⟩
  ·cases d<;>first|exact(q ⟨_,rfl⟩).elim| (cases t<;>rfl)
  ·cases d<;>first|exact(q ⟨_,rfl⟩).elim| (cases t<;>rfl)
def EG(q:∀x,x∈o.op.operands.toList->rd e x=rd e2 x)(w:∀r∈ct e o,e.o r=e2.o r)(Q:∀c f,o.op=.call c->c.callee≠.value f):gB P e o.op=gB P e2 o.op/\(dO P e o.op↔dO P e2 o.op):=by
 cases C:o.op<;>simp only[gB,dO]<;>(try exact⟨rfl,Iff.rfl⟩)<;>(try exact⟨trivial,aS⟩)<;>rw[C]at q<;>simp only[ct,C]at w<;>simp only[Op.operands]at q
 case move x=>rw[q x (by simp)];exact⟨rfl,aS⟩
 case assign x=>rw[q x (by simp)];exact⟨rfl,aS⟩
 case pick c a b=>rw[q c (by simp),q a (by simp),q b (by simp)];exact⟨rfl,Iff.rfl⟩
 case binOp op t x y yt=>rw[q x (by simp),q y (by simp)];exact⟨rfl,Iff.rfl⟩
 case unOp op t x=>rw[q x (by simp)];exact⟨rfl,Iff.rfl⟩
 case convert s d x=>rw[q x (by simp)];exact⟨rfl,Iff.rfl⟩
 case fieldAddr t x f=>rw[q x (by simp)];exact⟨rfl,Iff.rfl⟩
 case field t x f=>rw[q x (by simp)];exact⟨rfl,Iff.rfl⟩
 case indexAddr t x i =>
  have:=U7 (t:=eH P t) (i:=rd e i) w;rw[<-q x (by simp),<-q i (by simp),this.1,this.2];exact⟨rfl,Iff.rfl⟩
 case index t x i=>rw[q x (by simp),q i (by simp)];exact⟨rfl,Iff.rfl⟩
 case load t a =>
  rw[<-q a (by simp)];cases iF P t with
  |none=>exact⟨rfl,Iff.rfl⟩
  |some l=>simp only;exact Vf w
 case nilCheck x=>rw[q x (by simp)];exact⟨rfl,Iff.rfl⟩
 case extract x i=>rw[q x (by simp)];exact⟨rfl,Iff.rfl⟩
 case build t parts =>
  have N:fH P e t parts.toList=fH P e2 t parts.toList:=by
   unfold fH;have J:∀x∈parts.toList,rd e x.2=rd e2 x.2:=by
    intro x B;refine q x.2 ?_;simp only[mem_map];exact⟨x,B,rfl⟩
   split
   ·refine map_congr_left ?_;intro x B;rw[J x B]
   ·refine map_congr_left ?_;intro x B;rw[J x B]
   ·rfl
  unfold FR;rw[N];exact⟨rfl,Iff.rfl⟩
 case slice t x lo H R =>
  have E:=q x (by simp);have G:∀d,NH e d lo=NH e2 d lo:=by
   intro d;cases lo with
   |none=>rfl
   |some o=>exact q o (by simp)
  have L:∀d,NH e d H=NH e2 d H:=by
   intro d;cases H with
   |none=>rfl
   |some o=>exact q o (by simp)
  have I:=We (t:=eH P t) w;cases R with
  |none =>
   simp only[gB,dO,slV,Y8];rw[<-E,G,L,I.1,Wc I.1];refine⟨?_,Iff.rfl⟩;split
   ·exact I.2 _ _
   ·rfl
  |some m =>
   have M:=q m (by simp);cases lo<;>cases H<;>simp only[gB,dO]<;>(try exact⟨trivial,aS⟩)<;>(try exact⟨trivial,Iff.rfl⟩);rename_i O;rw[E,M,q O (by simp)];exact⟨trivial,Iff.rfl⟩
 case makeFunc fn first caps =>
  cases fn<;>simp only[gB,dO]<;>(try exact⟨trivial,aS⟩)<;>(try exact⟨trivial,Iff.rfl⟩);refine⟨?_,aS⟩;congr 1;refine map_congr_left ?_;intro x B;exact q x (by simp[B])
 case call c =>
  have E:∀x∈c.args.toList,rd e x=rd e2 x:=λx B=>q x (by simp only[Call.operands,Array.toList_append,mem_append];exact .inr B);have G:c.args.toList.map (rd e)=c.args.toList.map (rd e2):=map_congr_left E;have hcv:∀f,c.callee≠.value f:=λf=>Q c f C;split
  ·rename_i F A _;rw[F]at w;simp only[A,map_cons,map_nil,D.bW,append_nil]at w;have:=E _ (by rw[A];exact gV.2 rfl);rw[<-this];exact R6 w
  ·rw[G];exact⟨rfl,Iff.rfl⟩
  ·rw[G];exact⟨rfl,Iff.rfl⟩
  ·exact⟨rfl,Iff.rfl⟩

theorem Bz:∀(l:List (Nat×Operand)),(∀p∈l,rd e p.2=rd e2 p.2)->FB e l=FB e2 l
 | [],_=>rfl
 |p::r,h=>by rw[FB,FB,h p (by simp),Bz r λq s=>h q (by simp[s])]
def On(q:∀x,x∈o.op.operands.toList->rd e x=rd e2 x)(s:∀r∈ct e o,e.o r=e2.o r)(h:mq e o.op):mq e2 o.op:=by
 cases w:o.op<;>rw[w]at h q<;>simp only[ct,w]at s<;>simp only[Op.operands]at q<;>simp only[mq]at h |-
 case move x=>rw[<-q x (by simp)];exact h
 case binOp op t x y yt=>rw[<-q x (by simp),<-q y (by simp)];exact h
 case unOp op t x=>rw[<-q x (by simp)];exact h
 case fieldAddr t x f=>rw[<-q x (by simp)];exact h
 case load t a =>
  rw[<-q a (by simp)];cases A:rd e a<;>rw[A]at h s<;>try exact h
  simp only[Wl]at h |-;rw[<-s _ (by simp[D.names])];exact h
 case buildSlice t len ps =>
  rw[<-Bz _ λp B=>q p.2 (by simp only[Array.toList_map,mem_map];exact⟨p,B,rfl⟩)];exact h
def H7(h:pW np ops o e e2)(q:pX np ops o (ct e o))(s:∀c f,o.op=.call c->c.callee≠.value f):gB P e o.op=gB P e2 o.op/\(dO P e o.op↔dO P e2 o.op):=EG (λ_ A=>h.rd A) (λ_ w=>h.obj q w) s
theorem A9(h:pW np ops o e e2):tE ops e o.guard=tE ops e2 o.guard:=by
 unfold tE;cases s:o.guard with
 |none=>rfl
 |some p =>
  obtain⟨j,w⟩:=p;simp only;cases q:xJ ops j with
  |none=>rfl
  |some t =>
   simp only[rd];rw[h.1 t (by simp[rdT,s,q])]

def PJ(h16:b.length<=16)(h:r∈l6 d 0 (b.length-([]:List Nat).length)):r∈Ae d:=by
 obtain⟨j,_,q,rfl⟩:=vT h;simp only[Ae,mem_map,mem_range];exact⟨j,by simp at q;omega,rfl⟩

def Splits(P:Program)(n np:Nat)(ops:List Oper)(o:Oper)(e:Env)(g:Bool)(K:Env->Prop):Prop:=
 ∃w q:Nat->Option D,(∀s d,w s=some d->s∈WC o)/\(∀s d,q s=some d->s∈Jh np ops o)/\K (E6 w q e) /\
  ∀e2,pW np ops o e e2->∀A:Env->Prop,A (E6 w q e2)->l9 P n true o e2 g A

theorem VC(hh:hard o=false)(hk:g=true->pX np ops o (ct e o))(h:l9 P n true o e g K):Splits P n np ops o e g K:=by
 have C:∀e K,l9 P n true o e g K=jD P n true o e g K:=λe K=>by simp[l9,hh]
 rw[C]at h;have I:∀(d:Nat)(x:D),o.dst=some d->∀s y,one d x s=some y->s∈WC o:=by
  intro d x B s y hy;unfold one at hy;split at hy
  ·rename_i e;subst e;simp[WC,B]
  ·cases hy
 have aa:∀s (y:D),rK s=some y->s∈Jh np ops o:=λs y h=>by cases h
 -- a step that only sets its slot
 have H:∀(d:Nat)(x:D),o.dst=some d->K (ck e d x)->(∀e2,pW np ops o e e2->∀G:Env->Prop,G (ck e2 d x)->l9 P n true o e2 g G)->Splits P n np ops o e g K:=by
  intro d x B L hh;refine⟨one d x,rK,I d x B,aa,by rw[<-Ca];exact L,?_⟩;intro e2 q G A;exact hh e2 q G (by rw[Ca];exact A)
 -- a step that makes one object
 have M:∀(d:Nat)(x y:D),o.dst=some d->makes o.op=true->K (ck (dU e (nm d 0) y) d x)->(∀e2,pW np ops o e e2->∀G:Env->Prop,G (ck (dU e2 (nm d 0) y) d x)->l9 P n true o e2 g G)->Splits P n np ops o e g K:=by
  intro d x y B W L hh;refine⟨one d x,one (nm d 0) y,I d x B,?_,by rw[<-Mw];exact L,?_⟩
  ·intro s z X;unfold one at X;split at X
   ·rename_i e;subst e;simp only[Jh,B,W,if_true];exact mem_append_left _ (by simp only[Ae,mem_map,mem_range];exact⟨0,by omega,rfl⟩)
   ·cases X
  ·intro e2 q G A;exact hh e2 q G (by rw[Mw];exact A)
 have V:∀(d:Nat),o.dst=some d->makes o.op=true->∀e2,pW np ops o e e2->∀r∈Ae d,e.o r=e2.o r:=by
  intro d B W e2 q r O;refine q.2 r (.inr (.inl ?_));simp only[Jh,B,W,if_true];exact mem_append_left _ O
 have h0:∀d,nm d 0∈Ae d:=λd=>by simp only[Ae,mem_map,mem_range];exact⟨0,by omega,rfl⟩
 cases B:o.dst with
 |none =>
  cases w:o.op<;>simp only[jD,w,B]at h<;>try exact h.elim
  rename_i t a x;obtain⟨Z,h⟩:=h;have an:=hk Z;simp only[Norm]at h;have ah:∀e2,pW np ops o e e2->rd e a=rd e2 a/\rd e x=rd e2 x:=λe2 q=>⟨q.rd (by simp[w,Op.operands]),q.rd (by simp[w,Op.operands])⟩
  have ac:∀r∈(rd e a).names,r∈Jh np ops o:=by
   intro r O;have:=sS an r (by simp only[ct,w];exact O);unfold tU at this;rw[w]at this;exact contains_iff_mem.1 this
  have lP:∀(r:Nat)(y:D),r∈(rd e a).names->K (dU e r y)->(∀e2,pW np ops o e e2->∀G:Env->Prop,G (dU e2 r y)->l9 P n true o e2 g G)->Splits P n np ops o e g K:=by
   intro r y O L hh;refine⟨rK,one r y,(λs d h=>by cases h),?_,(by rw[<-Ts];exact L),?_⟩
   ·intro s z X;unfold one at X;split at X
    ·rename_i e;subst e;exact ac _ O
    ·cases X
   ·intro e2 q G A;exact hh e2 q G (by rw[Ts];exact A)
  unfold Uv at h;cases ha:rd e a<;>rw[ha]at h<;>try exact h.elim
  ·rename_i r off;simp only at h;unfold StB at h;cases ho:e.o r<;>rw[ho]at h<;>try exact h.elim
   rename_i cs;simp only at h;cases hl:iF P t with
   |none=>rw[hl]at h;exact h.elim
   |some l =>
    rw[hl]at h;obtain⟨Y,U,q3,L⟩:=h;refine lP r _ (by rw[ha];simp[D.names]) L ?_;intro e2 q G A;obtain⟨ea,ex⟩:=ah e2 q;have er:e.o r=e2.o r:=q.2 r (.inr (.inl (ac r (by rw[ha];simp[D.names]))));simp only[C,jD,w,B,Norm];refine⟨Z,?_⟩;rw[<-ea,<-ex,ha];simp only[Uv];rw[<-er,ho];simp only[StB,hl];exact⟨Y,U,q3,A⟩
  ·rename_i r z i k;simp only at h;unfold StO at h;cases ho:e.o r<;>rw[ho]at h<;>try exact h.elim
   rename_i z' rows;simp only at h;cases hl:iF P t with
   |none=>rw[hl]at h;exact h.elim
   |some l =>
    rw[hl]at h;obtain⟨Y,U,q3,q4,q5,L⟩:=h;refine lP r _ (by rw[ha];simp[D.names]) L ?_;intro e2 q G A;obtain⟨ea,ex⟩:=ah e2 q;have er:e.o r=e2.o r:=q.2 r (.inr (.inl (ac r (by rw[ha];simp[D.names]))));simp only[C,jD,w,B,Norm];refine⟨Z,?_⟩;rw[<-ea,<-ex,ha];simp only[Uv];rw[<-er,ho];simp only[StO,hl];exact⟨Y,U,q3,q4,q5,A⟩
 |some d =>
  have J:(∀c f,o.op=.call c->c.callee≠.value f)->(∀S K',l9 P n true o S g K'↔(d<n/\iz g (dO P S o.op) (gB P S o.op) λu=>K' (ck S d u)))->Splits P n np ops o e g K:=by
   intro hn af;obtain⟨F,aq,L⟩:=(af e K).1 (by rw[C];exact h);refine H d _ B L ?_;intro e2 q G A;refine(af e2 G).2 ⟨F,?_,?_⟩
   ·intro Z;exact(H7 (P:=P) q (hk Z) hn).2.1 (aq Z)
   ·cases g with
    |false=>exact A
    |true =>
     have:=(H7 (P:=P) q (hk rfl) hn).1;simp only[gd,if_true]at A |-;rw[<-this];exact A
  cases w:o.op
  case box T x =>
   simp only[jD,w,B]at h;obtain⟨Z,F,Y,U,L⟩:=h;refine M d _ _ B (by rw[w];rfl) L ?_;intro e2 q G A;simp only[C,jD,w,B,Norm];refine⟨Z,F,?_⟩;rw[<-q.rd (by simp[w,Op.operands]:x∈o.op.operands.toList)];exact⟨Y,by rw[<-V d B (by rw[w];rfl) e2 q _ (h0 d)];exact U,A⟩
  case alloc T =>
   simp only[jD,w,B]at h;obtain⟨Z,F,h⟩:=h;cases X:nw P T with
   |none=>rw[X]at h;exact h.elim
   |some z =>
    rw[X]at h;obtain⟨U,L⟩:=h;refine M d _ _ B (by rw[w];rfl) L ?_;intro e2 q G A;simp only[C,jD,w,B,X];exact⟨Z,F,by rw[<-V d B (by rw[w];rfl) e2 q _ (h0 d)];exact U,A⟩
  case buildSlice t len parts =>
   simp only[jD,w,B]at h;obtain⟨F,h⟩:=h;have hp:∀e2,pW np ops o e e2->∀x∈parts.toList,rd e x.2=rd e2 x.2:=λe2 q x Q=>q.rd (by simp only[w,Op.operands,Array.toList_map,mem_map];exact⟨x,Q,rfl⟩);have ae:∀e2,pW np ops o e e2->sH e parts.toList=sH e2 parts.toList:=by
    intro e2 q;unfold sH;congr 1;exact map_congr_left λx Q=>hp e2 q x Q
   cases g with
   |false =>
    refine H d _ B (h.2 rfl) ?_;intro e2 q G A;simp only[C,jD,w,B];exact⟨F,λh=>(wG h).elim,λ_=>A⟩
   |true =>
    obtain⟨N,hb⟩:=h.1 rfl;have N:=N trivial;rw[N]at hb;simp only[ia]at hb;unfold Rj at hb;split at hb<;>try exact hb.elim
    rename_i z ai ea zc hT ad;obtain⟨Y,U,q3,q4,q5,L⟩:=hb;refine M d _ _ B (by rw[w];rfl) L ?_;intro e2 q G A;have ak:∀z,lU e z parts.toList=lU e2 z parts.toList:=λz=>map_congr_left λx Q=>by rw[hp e2 q x Q]
    simp only[C,jD,w,B];refine⟨F,λ_=>⟨λ_=>by rw[<-ae e2 q];exact N,?_⟩,λh=>by cases h⟩;rw[<-ae e2 q,N];simp only[ia,Rj,hT,ad];simp only[BV,<-ak]at q3 q4 |-;exact⟨Y,U,q3,q4,by rw[<-V d B (by rw[w];rfl) e2 q _ (h0 d)];exact q5,A⟩
  case makeSlice t l c =>
   simp only[jD,w,B]at h;obtain⟨F,h⟩:=h;cases g with
   |false =>
    refine H d _ B (h.2 rfl) ?_;intro e2 q G A;simp only[C,jD,w,B];exact⟨F,λh=>(wG h).elim,λ_=>A⟩
   |true =>
    have W:=h.1 rfl;unfold WE at W;split at W<;>try exact W.elim
    rename_i z ai ea k1 n1 k2 m1 zc hT hl hc ad;obtain⟨Y,U,q3,q4,q5,q6,q7,L⟩:=W;refine M d _ _ B (by rw[w];rfl) L ?_;intro e2 q G A;simp only[C,jD,w,B];refine⟨F,λ_=>?_,λh=>by cases h⟩;rw[<-q.rd (by simp[w,Op.operands]:l∈o.op.operands.toList),<-q.rd (by simp[w,Op.operands]:c∈o.op.operands.toList),hl,hc];simp only[WE,hT,ad];exact⟨Y,U,q3,q4,q5,q6,by rw[<-V d B (by rw[w];rfl) e2 q _ (h0 d)];exact q7,A⟩
  case call c =>
   cases E:c.callee with
   |invoke r m=>simp only[jD,w,B,E]at h;exact h.2.elim
   |builtin b =>
    by_cases hb:b=.append
    ·subst hb;simp only[jD,w,B,E]at h;exact(wG h.2.2.1.symm).elim
    ·refine J (λc' f' S hf=>by rw[w]at S;cases S;rw[E]at hf;cases hf) ?_;intro S K';simp only[C,jD,w,B,E]
   |value f =>
    simp only[jD,w,B,E]at h;obtain⟨F,h⟩:=h;cases g with
    |false =>
     refine H d _ B (h.2 rfl) ?_;intro e2 q G A;simp only[C,jD,w,B,E];exact⟨F,λh=>(wG h).elim,λ_=>A⟩
    |true =>
     obtain⟨fz,gs,bw,R,dv,al,hc⟩:=(h.1 rfl).elim id (λh=>(wG h.1.symm).elim);obtain⟨rfl,rfl⟩:=al rfl;simp only[ia]at hc;unfold oJ at hc;split at hc<;>try exact hc.elim
     rename_i k ab hf;obtain⟨Y,U,q3,q4,q5,q6,q7⟩:=hc;have q7:=q7.drawn;have W:makes o.op=true:=by rw[w];simp[makes,E]
     have ao:∀r∈gj d [] R,r∈Ae d:=λr O=>PJ (by simpa using q4.2) (by simpa[gj]using O);have ap:=hk rfl;simp only[ct,w,E]at ap;refine⟨one d (dv.nI (Km (gj d [] R))),Ej (Km (gj d [] R)) (gj d [] R) R,I d _ B,?_,by rw[<-Lw];exact q7,?_⟩
     ·intro s x Q;simp only[Jh,B,W,if_true];exact mem_append_left _ (ao s (Ji Q))
     ·intro e2 q G A;have ag:∀r∈reach e.o 4 (D.bW (rd e f::c.args.toList.map (rd e))),e.o r=e2.o r:=by
       intro r O;have:=q.obj (hk rfl) (r:=r) (by simp only[ct,w,E];exact O);exact this
      have am:rd e f=rd e2 f:=q.rd (by simp[w,Op.operands,Call.operands,E]);have aj:c.args.toList.map (rd e)=c.args.toList.map (rd e2):=map_congr_left λx Q=>q.rd (by simp only[w,Op.operands,Call.operands,Array.toList_append,mem_append];exact .inr Q);simp only[C,jD,w,B,E];refine⟨F,λ_=>.inl ⟨[],[],bw,R,dv,λ_=>⟨rfl,rfl⟩,?_⟩,λh=>by cases h⟩;simp only[ia];rw[<-am,hf];simp only[oJ];refine⟨Y,(λr O=>by cases O),?_,q4,q5,?_,(.inl (by rw[Lw];exact A))⟩
      ·intro r O;rw[<-V d B W e2 q r (PJ (by simpa using q4.2) O)];exact q3 r O
      ·rw[<-aj];have:((c.args.toList.map (rd e)++ab).map (conv bw [] e2.o 4))=(c.args.toList.map (rd e)++ab).map (conv bw [] e.o 4):=by
        refine map_congr_left ?_;intro x Q;refine(wP bw [] 4 x ?_).symm;intro r O;refine ag r (sW e.o 4 _ _ ?_ r O);intro s hs;rw[hf];simp only[D.bW,D.names,mem_append];rcases mem_append.1 Q with Q|Q
        ·exact .inr (eO.2 ⟨x,Q,hs⟩)
        ·exact .inl (eO.2 ⟨x,Q,hs⟩)
       rw[this];exact q6
  all_goals
   refine J (λc' f' S hf=>by rw[w]at S;cases S) ?_;intro S K';simp only[C,jD,w,B]

theorem TA(q:oT o=false):hard o=false:=by
 unfold oT at q;cases h:hard o with
 |false=>rfl
 |true=>rw[h]at q;simp at q
theorem Qb:∀(k:Nat)(ns:List Nat),(∀r∈reach e.o k ns,e.o r=e2.o r)->reach e2.o k ns=reach e.o k ns:=by
 intro k;induction k with
 |zero=>intro ns _;rfl
 |succ k ih =>
  intro ns q;simp only[reach]at q |-;have w:ns.map e2.o=ns.map e.o:=map_congr_left λr s=>(q r (mem_append_left _ s)).symm;rw[w,ih _ λr s=>q r (mem_append_right _ s)]
def QM(E:lC ops o=true)(h:qn P n np ops o e K) :
  ∃W V:Nat->Option D,(∀s d,W s=some d->s∈WC o)/\(∀s d,V s=some d->s∈Jh np ops o)/\K (E6 W V e) /\
   ∀e2,pW np ops o e e2->∀U:Env->Prop,U (E6 W V e2)->qn P n np ops o e2 U:=by
 have w:∀(d:Nat)(x:D),o.dst=some d->∀s y,one d x s=some y->s∈WC o:=by
  intro d x A s y hy;unfold one at hy;split at hy
  ·rename_i e;subst e;simp[WC,A]
  ·cases hy
 have h0:∀d,nm d 0∈Ae d:=λd=>by simp only[Ae,mem_map,mem_range];exact⟨0,by omega,rfl⟩
 have H:∀(d:Nat),o.dst=some d->makes o.op=true->nm d 0∈Jh np ops o:=by
  intro d A J;simp only[Jh,A,J,if_true];exact mem_append_left _ (h0 d)
 obtain⟨hg,E|E⟩:=Ud E
 ·obtain⟨t,len,ps,d,q,A,hl,hp⟩:=E;have J:makes o.op=true:=by rw[q];rfl
  unfold qn at h;rw[q,A]at h;obtain⟨G,h⟩:=h;unfold Jq at h;split at h
  ·rename_i z b a X;refine⟨one d .emp,rK,w d _ A,(λs y h=>by cases h),by rw[<-Ca];exact h.2,?_⟩;intro e2 B U F;unfold qn;rw[q,A];refine⟨G,?_⟩;unfold Jq;rw[X];exact⟨by rw[<-B.2 _ (.inr (.inl (H d A J)))];exact h.1,by rw[Ca];exact F⟩
  ·exact h.elim
 ·have L:∃c,o.op=.call c/\c.callee=.builtin .append:=by
   unfold isApp at E;split at E
   ·rename_i c q;split at E
    ·rename_i L;exact⟨c,q,L⟩
    ·cases E
   ·cases E
  obtain⟨c,q,L⟩:=L;have J:makes o.op=true:=by rw[q];simp[makes,L]
  unfold qn at h;rw[q]at h;cases A:o.dst with
  |none=>rw[A]at h;exact h.elim
  |some d =>
   rw[A]at h;obtain⟨G,h⟩:=h;split at h<;>try exact h.elim
   rename_i x y T T2 C Q;obtain⟨O,h⟩:=h;unfold Jp at h;split at h<;>try exact h.elim
   rename_i z by_ ea z2 by2 ea2 hx X Y;obtain⟨Z,h⟩:=h;unfold Ur at h;split at h<;>try exact h.elim
   rename_i I hr;obtain⟨q1,q2,q3⟩:=h;refine⟨one d (.ref (nm d 0)),one (nm d 0) (.own z I),w d _ A,?_,by rw[<-Mw];exact q3,?_⟩
   ·intro s u R;unfold one at R;split at R
    ·rename_i e;subst e;exact H d A J
    ·cases R
   ·intro e2 B U F;have M:∀u∈[x,y],rd e u=rd e2 u:=λu R=>B.rd (by simp only[q,Op.operands,Call.operands,Array.toList_append,mem_append];exact .inr (by rw[C];exact R));have N:∀r∈reach e.o 2 (rd e y).names,e.o r=e2.o r:=by
     intro r hr;have:=sS O r hr;unfold tU at this;rw[q]at this;simp only[Bool.or_eq_true,gD,contains_eq_mem,bz,gv]at this;refine B.2 r ?_;rcases this with h|h
     ·exact .inl h
     ·exact .inr (.inr h)
    have S:=M y (by simp);have aa:=M x (by simp);unfold qn;rw[q,A];refine⟨G,?_⟩;simp only[C,Q];refine⟨by rw[<-S,Qb 2 _ N];exact O,?_⟩;rw[<-aa,<-S,hx,X,Y];refine⟨Z,?_⟩;rw[<-zC [] 2 _ N,hr];exact⟨q1,by rw[<-B.2 _ (.inr (.inl (H d A J)))];exact q2,by rw[Mw];exact F⟩
def HZ(d:Nat)(gs:List Nat)(q:List D)(s:D)(e:Env)(w:lW gs q=[]):eK e d gs q s=E6 (one d (s.nI (Km (gj d gs q)))) (Ej (Km (gj d gs q)) (gj d gs q) q) e:=by
 unfold eK;rw[w,yI,Ia,Ca];simp[E6,rK]
theorem Sy:∀(k:Nat)(ns:List Nat),(∀r∈reach c k ns,c r=f r)->reach f k ns=reach c k ns:=by
 intro k;induction k with
 |zero=>intro ns _;rfl
 |succ k ih =>
  intro ns q;simp only[reach]at q |-;have w:ns.map f=ns.map c:=map_congr_left λr s=>(q r (mem_append_left _ s)).symm;rw[w,ih _ λr s=>q r (mem_append_right _ s)]
theorem St(hv:rU o=true)(h:Af P n np ops o e g K) :
  ∃ft Z:Nat->Option D,(∀s d,ft s=some d->s∈WC o)/\(∀s d,Z s=some d->s∈Jh np ops o)/\K (E6 ft Z e) /\
   ∀e2,pW np ops o e e2->∀S:Env->Prop,S (E6 ft Z e2)->Af P n np ops o e2 g S:=by
 unfold Af at h;split at h<;>try exact h.elim
 rename_i c d C V;split at h<;>try exact h.elim
 rename_i f E;have B:∀(x:D),∀s y,one d x s=some y->s∈WC o:=by
  intro x s y hy;unfold one at hy;split at hy
  ·rename_i e;subst e;simp[WC,V]
  ·cases hy
 obtain⟨M,h⟩:=h;cases g with
 |false =>
  refine⟨one d (.bI []),rK,B _,(λs y h=>by cases h),(by rw[<-Ca];exact h.2 rfl),λe2 w S J=>?_⟩;unfold Af;rw[C,V];simp only[E];exact⟨M,λh=>(wG h).elim,λ_=>by rw[Ca];exact J⟩
 |true =>
  obtain⟨gs,A,T,k1,k2,k3,U⟩:=h.1 rfl;unfold oJ at U;split at U<;>try exact U.elim
  rename_i k I hf;obtain⟨q1,q2,q3,q4,q5,q6,q7⟩:=U;have hm:makes o.op=true:=by rw[C];simp[makes,E]
  have Q:∀r∈gs,r∈Jh np ops o:=λr q=>by
   have:=k1 r q;unfold Jh;rw[C];simp only[hv,if_true];refine mem_append_right _ ?_;cases W:c.args.toList with
   |nil=>rw[W]at this;simp[IG]at this
   |cons a as=>rw[W]at this;exact this
  have R:∀r∈l6 d 0 (A.length-gs.length),r∈Jh np ops o:=λr q=>by
   obtain⟨j,_,h2,rfl⟩:=vT q;simp only[Jh,V,hm,if_true];refine mem_append_left _ ?_;simp only[Ae,mem_map,mem_range];exact⟨j,by omega,rfl⟩
  have H:∀e2,pW np ops o e e2->∀r∈reach e.o 5 (gs++D.bW (rd e f::c.args.toList.map (rd e))),e.o r=e2.o r:=λe2 w r q=>by
   have:=sS k2 r q;unfold tU at this;rw[C]at this;simp only[Bool.or_eq_true,gD,contains_eq_mem,bz,gv]at this;exact w.2 r (this.elim .inl λh=>.inr (.inr h))
  refine⟨one d (T.nI (Km (gj d gs A))),Ej (Km (gj d gs A)) (gj d gs A) A,B _,?_,by rw[<-HZ d gs A T e k3];exact q7,?_⟩
  ·intro s x G;rcases mem_append.1 (Ji G)with h|h
   ·exact Q s h
   ·exact R s h
  ·intro e2 w S J;have F:=H e2 w;have N:rd e f=rd e2 f:=w.rd (by simp[C,Op.operands,Call.operands,E]);have L:c.args.toList.map (rd e)=c.args.toList.map (rd e2):=map_congr_left λx G=>w.rd (by simp only[C,Op.operands,Call.operands,Array.toList_append,mem_append];exact .inr G);have O:∀r∈gs,e.o r=e2.o r:=λr q=>w.2 r (.inr (.inl (Q r q)));unfold Af;rw[C,V];simp only[E];refine⟨M,λ_=>⟨gs,A,T,k1,?_,k3,?_⟩,λh=>by cases h⟩
   ·rw[<-N,<-L,Sy 5 _ F];exact k2
   ·rw[<-N,hf];simp only[oJ];refine⟨q1,(λr q=>by rw[<-O r q];exact q2 r q),?_,q4,q5,?_,by rw[HZ d gs A T e2 k3];exact J⟩
    ·intro r q;rw[<-w.2 r (.inr (.inl (R r q)))];exact q3 r q
    ·have s5:∀(l:List Nat),(∀r∈l,r∈gs++D.bW (rd e f::c.args.toList.map (rd e)))->∀r∈reach e.o 4 l,e.o r=e2.o r:=λl W r q=>F r (xu e.o 4 _ r (sW e.o 4 _ _ W r q));have e1:gs.map (λr=>yu false gs e2.o 4 (e2.o r))=gs.map λr=>yu false gs e.o 4 (e.o r):=by
      refine map_congr_left λr q=>?_;rw[<-O r q];cases G:e.o r<;>try rfl
      rename_i cs;simp only[yu];congr 1;refine map_congr_left λx aa=>(wP false gs 4 x λs X=>?_).symm;refine F s ?_;show s∈(gs++D.bW (rd e f::c.args.toList.map (rd e)))++reach e.o 4 _;refine mem_append_right _ (sW e.o 4 _ _ (λt ht=>?_) s X);refine eO.2 ⟨e.o r,mem_map.2 ⟨r,mem_append_left _ q,rfl⟩,?_⟩;rw[G];simp only[D.names];exact eO.2 ⟨x,aa,ht⟩
     rw[e1,<-L];have Y:(c.args.toList.map (rd e)++I).map (conv false gs e2.o 4)=(c.args.toList.map (rd e)++I).map (conv false gs e.o 4):=by
      refine map_congr_left λx G=>(wP false gs 4 x ?_).symm;refine s5 _ λs X=>mem_append_right _ ?_;rw[hf];simp only[D.bW,D.names,mem_append];rcases mem_append.1 G with G|G
      ·exact .inr (eO.2 ⟨x,G,X⟩)
      ·exact .inl (eO.2 ⟨x,G,X⟩)
     rw[Y];exact q6
theorem EW(B:Am ops o=false)(h:gh P n np ops o e K) :
  ∃H G:Nat->Option D,(∀s d,H s=some d->s∈WC o)/\(∀s d,G s=some d->s∈Jh np ops o)/\K (E6 H G e) /\
   ∀e2,pW np ops o e e2->∀I:Env->Prop,I (E6 H G e2)->gh P n np ops o e2 I:=by
 unfold gh at h;cases J:tE ops e o.guard with
 |none=>rw[J]at h;exact h.elim
 |some g =>
  rw[J]at h;by_cases V:lC ops o=true
  ·simp only[V,if_true]at h;obtain⟨H,G,M,F,N,O⟩:=QM V h;refine⟨H,G,M,F,N,λe2 q I C=>?_⟩;unfold gh;rw[<-A9 q,J];simp only[V,if_true];exact O e2 q I C
  have E:lC ops o=false:=by simpa using V
  have B:(hard o||isApp o||Hp o)=false:=by simpa[Am,E]using B
  have ha:isApp o=false:=by cases hq:isApp o<;>simp[hq]at B |-
  by_cases T:rU o=true
  ·have hd:oT o=true:=by simp[oT,T]
   simp only[E,hd,ha,T,Bool.false_eq_true,if_false,if_true]at h;obtain⟨H,G,M,F,N,O⟩:=St T h;refine⟨H,G,M,F,N,λe2 q I C=>?_⟩;unfold gh;rw[<-A9 q,J];simp only[E,hd,ha,T,Bool.false_eq_true,if_false,if_true];exact O e2 q I C
  have Z:rU o=false:=by simpa using T
  have B:oT o=false:=by simp[oT,Z,B]
  simp only[E,B,Bool.false_eq_true,if_false]at h;obtain⟨⟨W,h⟩,hcalm⟩:=h;obtain⟨H,G,M,F,N,O⟩:=VC (TA B) W h;refine⟨H,G,M,F,N,λe2 q I C=>?_⟩;unfold gh;rw[<-A9 q,J];simp only[E,B,Bool.false_eq_true,if_false];refine⟨⟨λL=>?_,O e2 q I C⟩,λY Q=>?_⟩
  case refine_2 =>
   have L:g=true:=by rw[Q]at J;simpa[tE]using J.symm
   exact On (λ_ U=>q.rd U) (λ_ A=>q.obj (W L) A) (hcalm Y Q)
  -- what is reached is the same
  have R:=W L;have:ct e2 o=ct e o:=by
   have A:∀x,x∈o.op.operands.toList->rd e x=rd e2 x:=λx U=>q.rd U;unfold ct;cases S:o.op<;>rw[S]at A<;>simp only[Op.operands]at A<;>try rfl
   case load t a=>simp only;rw[A a (by simp)]
   case store t a x=>simp only;rw[A a (by simp)]
   case indexAddr t x i=>simp only;rw[A x (by simp)]
   case slice t x lo hi mx=>simp only;rw[A x (by simp)]
   case call c =>
    have F:c.args.toList.map (rd e)=c.args.toList.map (rd e2):=map_congr_left λx U=>A x (by simp only[Call.operands,Array.toList_append,mem_append];exact .inr U);cases w:c.callee with
    |builtin b=>simp only[w];rw[F]
    |invoke r m=>simp only[w];rw[F]
    |value f =>
     simp only[w];rw[A f (by simp[Call.operands,w]),F]
     -- reached objects hold the same
     have key:∀(k:Nat)(ns:List Nat),(∀r∈reach e.o k ns,e.o r=e2.o r)->reach e2.o k ns=reach e.o k ns:=by
      intro k;induction k with
      |zero=>intro ns _;rfl
      |succ k ih =>
       intro ns B;simp only[reach]at B |-;have e1:ns.map e2.o=ns.map e.o:=map_congr_left λr A=>(B r (mem_append_left _ A)).symm;rw[e1,ih _ λr A=>B r (mem_append_right _ A)]
     refine key 4 _ ?_;intro r X;refine q.obj R (r:=r) ?_;simp only[ct,S,w];rw[A f (by simp[Call.operands,w]),F];exact X
  rw[this];exact R

def Re{x:Oper}(s:x∈ops)(q:r∈Jh np ops x):r∈ab1 np ops:=mem_flatMap.2 ⟨x,s,q⟩
def XF(B:∀s d q,h s=some d->m s=some q->False)(C:∀s d q,i s=some d->p s=some q->False)(e:Env):E6 h i (E6 m p e)=E6 m p (E6 h i e):=by
 simp only[E6,Env.mk.injEq];refine⟨?_,?_⟩<;>funext j
 ·cases w:h j<;>cases A:m j<;>simp;exact(B j _ _ w A).elim
 ·cases w:i j<;>cases A:p j<;>simp;exact(C j _ _ w A).elim

def S9{x:Oper}(E:Am ops x=false)(F:Am ops j=false)(H:x∈ops)(I:j∈ops)(S:Gh np ops x j=true)(h:gh P n np ops x e λC=>gh P n np ops j C K) :
  gh P n np ops j e λe2=>gh P n np ops x e2 K:=by
 obtain⟨M,L,Q,R,V,W⟩:=EW E h;obtain⟨O,N,T,U,Y,X⟩:=EW F V;simp only[Gh,Bool.and_eq_true,bL,gD,contains_eq_mem,gv]at S;obtain⟨⟨⟨J,a2⟩,a3⟩,a4⟩:=S;refine X e ⟨?_,?_⟩ _ ?_
 ·intro s G;show(M s).getD (e.t s)=e.t s;cases A:M s with
  |none=>rfl
  |some d=>exact((J s (Q s d A)).1 G).elim
 ·intro r q;show(L r).getD (e.o r)=e.o r;cases A:L r with
  |none=>rfl
  |some d =>
   have B:=R r d A;rcases q with q|q|q
   ·exact((a3 r B).1 q).elim
   ·exact((a3 r B).2 q).elim
   ·exact(q (Re H B)).elim
 ·refine W _ ⟨?_,?_⟩ _ ?_
  ·intro s G;show e.t s=(O s).getD (e.t s);cases A:O s with
   |none=>rfl
   |some d=>exact(a2 s (T s d A) G).elim
  ·intro r q;show e.o r=(N r).getD (e.o r);cases A:N r with
   |none=>rfl
   |some d =>
    have B:=U r d A;rcases q with q|q|q
    ·exact(a4 r B q).elim
    ·exact((a3 r q).2 B).elim
    ·exact(q (Re I B)).elim
  ·rw[XF]
   ·exact Y
   ·intro s d D C w;exact(J s (Q s d C)).2 (T s D w)
   ·intro s d D C w;exact(a3 s (R s d C)).2 (U s D w)

theorem Jg(h:gh P n np ops o e K)(q:∀e,K e->K' e):gh P n np ops o e K':=by
 unfold gh at h |-;cases D:tE ops e o.guard with
 |none=>rw[D]at h;exact h.elim
 |some g =>
  rw[D]at h;simp only at h |-;split at h
  ·rename_i B;rw[aq B];exact IY q h
  rename_i B;rw[au B];split at h
  ·rename_i A;rw[aq A];split at h
   ·rename_i s;rw[aq s];split at h
    ·rename_i w;rw[aq w];exact tV q h
    ·rename_i w;rw[au w];exact⟨Dt q h.1,h.2⟩
   ·rename_i s;rw[au s];split at h
    ·rename_i C;rw[aq C];exact Lz q h
    ·rename_i C;rw[au C];exact tV q h
  ·rename_i A;rw[au A];exact⟨⟨h.1.1,tV q h.1.2⟩,h.2⟩

def WA{x:Oper}(w:PR ops x o=true)(E:lC ops o=false)(D:lC ops x=false)(h:gh P n np ops x e λJ=>gh P n np ops o J K):gh P n np ops o e λe2=>gh P n np ops x e2 K:=by
 unfold PR at w;split at w<;>try cases w
 rename_i u dx q s B;simp only[Bool.and_eq_true,gD,Option.isNone_iff_eq_none,bne_iff_ne]at w;obtain⟨⟨⟨⟨⟨A,N⟩,hc⟩,hd1⟩,hd2⟩,htw⟩:=w;have F:oT x=false:=by simp[oT,hard,isApp,Hp,rU,q]
 have H:oT o=true:=by simp[oT,tJ A]
 have G:hard x=false:=by simp[hard,q]
 have I:∀(e:Env)(K:Env->Prop),gh P n np ops x e K↔(dx<n/\K (ck e dx (e.t u))):=by
  intro e K;have C:ct e x=[]:=by simp[ct,q]
  simp only[gh,D,B,tE,F,Bool.false_eq_true,if_false,N3,C,pX,l9,G,jD,q,s,iz,dO,gB,gd,if_true,rd,Eo,htw];simp
 have L:∀(e:Env)(K:Env->Prop),gh P n np ops o e K↔qo P n o e true K:=by
  intro e K;simp only[gh,E,N,tE,H,tJ A,Hi A,Bool.false_eq_true,if_false,if_true,apU,htw,false_implies,and_true]
 rw[I]at h;rw[L]at h |-;refine Dt ?_ (Ux hc hd1 hd2 h.2);intro e2 M;rw[I];exact⟨h.1,M⟩
def kD(k:Option Nat)(d:D):D:=
 match k with
 |some r=>d.kill r
 |none=>d
def kE(k:Option Nat)(e:Env):Env:=
 match k with
 |some r=>lp r e
 |none=>e
def akr(k:Option Nat)(e:Env)(j:Nat):(kE k e).t j=kD k (e.t j):=by cases k<;>rfl
theorem akq{j:Nat}(h:k≠some j):(kE k e).o j=kD k (e.o j):=by
 cases k with
 |none=>rfl
 |some r =>
  have:j≠r:=λe=>h (by rw[e]);simp[kE,lp,kD,this]
theorem TF(k:Option Nat)(e:Env)(d:Nat)(v:D):kE k (ck e d v)=ck (kE k e) d (kD k v):=by
 cases k with
 |none=>rfl
 |some r =>
  simp only[kE,lp,ck,kD,Env.mk.injEq,and_true];funext j;split<;>rfl
theorem aaQ{N:Nat}(h:k≠some N):kE k (dU e N v)=dU (kE k e) N (kD k v):=by
 cases k with
 |none=>rfl
 |some r =>
  have:N≠r:=λe=>h (by rw[e]);simp only[kE,lp,dU,kD,Env.mk.injEq,true_and];funext j;by_cases q:j=N
  ·subst q;simp[this]
  ·simp[q]
theorem X7(h:Di (kD k v)=true):kD k v=v:=by
 cases k with
 |none=>rfl
 |some r =>
  simp only[kD]at h |-;cases v<;>simp only[D.kill]at h |-<;>(try(split at h<;>rename_i hs<;>simp_all[Di]))<;>simp_all[Di]
theorem afj(h:NP (kD k v)=true):kD k v=v:=by
 cases k with
 |none=>rfl
 |some r =>
  cases v
  case box cs =>
   simp only[kD,D.kill,NP,lF,all_map,bL,Function.comp_apply]at h |-;congr 1;have:cs.map (D.kill r)=cs.map id:=map_congr_left λc q=>X7 (k:=some r) (h c q);rw[this,map_id]
  all_goals simp only[kD,D.kill]at h |-
  all_goals first| (split at h<;>rename_i hs<;>simp_all[NP])| (simp[NP]at h)
theorem afk(h:HP v=true)(q:kD k v=.undef):v=.undef:=by
 cases k with
 |none=>exact q
 |some r=>cases v<;>simp_all[HP,kD,D.kill]
theorem GY{o:Op}(h:∀z∈o.operands.toList,rd e2 z=rd e z):E9 e2 o=E9 e o:=by
 unfold E9;cases o<;>try rfl
 rename_i c;simp only;cases q:c.args.toList with
 |nil=>rfl
 |cons x r=>exact h x (by simp only[Op.operands,Call.operands,Array.toList_append,mem_append];exact .inr (by rw[q];simp))
def Bq(q:∀j,e.o j≠.undef->e2.o j=e.o j){z:Nat}{rows:List (List D)}(h:sC z (pP e.o [] 2 v)=some rows):sC z (pP e2.o [] 2 v)=some rows:=by
 have no:∀{r:Nat} {f:D->D},f .undef=.undef->sC z (f (e.o r))=some rows->e2.o r=e.o r:=λ{r f} hf h=>q r λe=>by rw[e,hf]at h;cases h
 cases v
 case ref r=>rw[show pP e2.o [] 2 (.ref r)=uz (e2.o r)from rfl,no (f:=uz) rfl h];exact h
 case gq r z' lo len=>rw[show pP e2.o [] 2 (.gq r z' lo len)=nZ z' lo len (e2.o r)from rfl,no (f:=nZ z' lo len) rfl h];exact h
 case eC r off z' len cap=>rw[show pP e2.o [] 2 (.eC r off z' len cap)=vA off z' len (e2.o r)from rfl,no (f:=vA off z' len) rfl h];exact h
 case addr r off =>
  have h:sC z (nY (pP e.o [] 1) off (e.o r))=some rows:=h;unfold nY at h;split at h<;>cases h
 case cw r z' i k =>
  have h:sC z (vB z' i k (e.o r))=some rows:=h;unfold vB at h;split at h
  ·split at h<;>cases h
  ·cases h
 all_goals first|exact h|cases h
theorem Ru(h:qo P n o e true K):∃(d:Nat)(k:Option Nat)(U:D),o.dst=some d/\(∀r,k=some r->E9 e o.op=.ref r)/\K (ck (dU (kE k e) (nm d 0) U) d (.ref (nm d 0))) /\
  ∀e2 (A:Env->Prop),(∀z∈o.op.operands.toList,rd e2 z=rd e z)->(∀j,e.o j≠.undef->e2.o j=e.o j)->e2.o (nm d 0)=e.o (nm d 0)->A (ck (dU (kE k e2) (nm d 0) U) d (.ref (nm d 0)))->qo P n o e2 true A:=by
 unfold qo at h;cases L:o.op<;>rw[L]at h<;>try exact h.elim
 rename_i c;cases S:o.dst with
 |none=>rw[S]at h;exact h.elim
 |some d =>
  rw[S]at h;obtain⟨X,k2,C⟩:=h;split at C<;>try exact C.elim
  rename_i x y T T2 q M;have I:∀z∈c.args.toList,z∈(Op.call c).operands.toList:=λz W=>by simp only[Op.operands,Call.operands,Array.toList_append,mem_append];exact .inr W
  unfold tc at C;split at C<;>try exact C.elim
  rename_i z O a z2 b2 a2 V R;obtain⟨C,s⟩:=C;have Q:E9 e (Op.call c)=rd e x:=by simp[E9,q]
  have out:∀e2 (A:Env->Prop),(∀z∈(Op.call c).operands.toList,rd e2 z=rd e z)->AP e2 z O d A (rd e x) (sC z (pP e2.o [] 2 (rd e y)))->qo P n o e2 true A:=by
   intro e2 A w E;unfold qo;rw[L,S];refine⟨X,rfl,?_⟩;simp only[q,M];rw[w x (I x (by rw[q];simp)),w y (I y (by rw[q];simp)),V,R];exact⟨C,E⟩
  unfold AP at s;split at s<;>try exact s.elim
  ·rename_i B G N;refine⟨d,none,_,rfl,(λr w=>by cases w),s.2.2,λe2 A w F H E=>out e2 A w ?_⟩;rw[G,Bq F N];exact⟨s.1,by rw[H];exact s.2.1,E⟩
  ·rename_i B G N;refine⟨d,none,_,rfl,(λr w=>by cases w),s.2.2,λe2 A w F H E=>out e2 A w ?_⟩;rw[G,Bq F N];exact⟨s.1,by rw[H];exact s.2.1,E⟩
  ·rename_i r B G N;unfold Uq at s;split at s<;>try exact s.elim
   rename_i z' rows J;refine⟨d,some r,_,rfl,(λr' w=>by cases w;rw[Q];exact G),s.2.2.2,λe2 A w F H E=>out e2 A w ?_⟩;rw[G,Bq F N];simp only[AP];rw[F r (by rw[J];simp),J];refine⟨s.1,s.2.1,?_,E⟩;have:=s.2.2.1;simp only[lp]at this |-;rw[H];exact this
theorem Tk{v:D}{y:Oper}{q:Nat}(s:aaP y.op=true)(w:y.dst=some q):∀{l:List Oper},y∈l->Rs e v l->HP (e.o (nm q 0))=true/\Li (nm q 0) v=true
 |x::l,hy,h=>by
  rcases mem_cons.1 hy with rfl|hy
  ·have:=h.1;simp only[s,w]at this;exact this
  ·exact Tk s w hy h.2
theorem Mh{v:D}{e2:Env}(q:∀j,HP (e.o j)=true->HP (e2.o j)=true):∀{l:List Oper},Rs e v l->Rs e2 v l
 | [],_=>trivial
 |x::l,h=>by
  refine⟨?_,Mh q h.2⟩;have:=h.1;split at this<;>rename_i q1 q2<;>simp_all
def afP{a b:Nat}(h:a≠b):nm a 0≠nm b 0:=by unfold nm;omega
theorem UC(s:BinOp)(a b:D):kD k (zX s a b)=zX s a b:=by
 cases k with
 |none=>rfl
 |some r =>
  have w:∀x:Bool,(KJ s x).kill r=KJ s x:=λx=>by unfold KJ;split<;>rfl
  have A:∀(q:IntKind)(x y:Int),(JF s q x y).kill r=JF s q x y:=λq x y=>by unfold JF;split<;>rfl
  have B:∀(x y:ByteArray),(sop s x y).kill r=sop s x y:=λx y=>by unfold sop;split<;>rfl
  unfold zX;simp only[kD];split<;>first|exact w _|exact A _ _ _|exact B _ _|rfl
theorem S3(q:UnOp)(a:D):kD k (zq q a)=zq q a:=by
 cases k with
 |none=>rfl
 |some r =>
  unfold zq;simp only[kD];split
  ·split<;>rfl
  ·split<;>rfl
  ·rfl
theorem XG(s:List FT)(f:Nat)(h:kD k a=a):kD k (WH s f a)=WH s f a:=by
 cases k with
 |none=>rfl
 |some r =>
  cases a<;>simp only[kD,WH,D.kill]at h |-
  ·split at h<;>rename_i q
   ·cases h
   ·rw[au q]
  ·split at h<;>rename_i q
   ·cases h
   ·rw[au q]
theorem VH(agg:Bool)(off n:Nat){cs:List D}(h:∀c∈cs,kD k c=c):kD k (part agg off n cs)=part agg off n cs:=by
 cases k with
 |none=>rfl
 |some r =>
  unfold part;split
  ·simp only[kD,D.kill,lF];congr 1;have:((cs.drop off).take n).map (D.kill r)=((cs.drop off).take n).map id:=map_congr_left λc q=>h c (mem_of_mem_drop (mem_of_mem_take q));rw[this,map_id]
  ·cases q:cs.drop off with
   |nil=>rfl
   |cons c r'=>exact h c (mem_of_mem_drop (by rw[q];simp))
theorem Ow(v:Value):kD k (rT v)=rT v:=by
 cases k with
 |none=>rfl
 |some r =>
  have q:∀v:Value,(uX v).kill r=uX v:=λv=>by unfold uX;split<;>(try rfl)<;>(split<;>rfl)
  have s:∀l:List Value,D.lq r (l.map uX)=l.map uX:=λl=>by
   rw[lF,map_map];exact map_congr_left λv _=>q v
  unfold rT;simp only[kD];split<;>first|exact q _| (split<;>rfl)| (simp only[D.kill];rw[s])
def Wz{x:Oper}(aJ:x∈ops)(aM:u∈ops)(ha:apY np ops x u=true)(h:gh P n np ops x e λe1=>gh P n np ops u e1 K):gh P n np ops u e λe2=>gh P n np ops x e2 K:=by
 simp only[apY,Bool.and_eq_true,gD,Option.isNone_iff_eq_none,any_eq_false,ff,bne_iff_ne]at ha;obtain⟨av,ab,aI,aL,ap,aF,aG,aw,aK,al,ai,aa⟩:=ha;have aH:oT x=true:=by simp[oT,tJ ab]
 have ex:∀(e:Env)(K:Env->Prop),gh P n np ops x e K↔qo P n x e true K/\Rs e (E9 e x.op) ops:=by
  intro e K;simp only[gh,aF,aI,tE,aH,tJ ab,Hi ab,Bool.false_eq_true,if_false,if_true,apU,av,true_implies]
 have ey:∀(e:Env)(K:Env->Prop),gh P n np ops u e K↔(pX np ops u (ct e u)/\jD P n true u e true K)/\mq e u.op:=by
  intro e K;simp only[gh,aG,aL,tE,aw,Bool.false_eq_true,if_false,Eo,av,true_implies,N3,l9,TA aw]
 rw[ex]at h;obtain⟨h,hV⟩:=h;obtain⟨d,k,ob,hd,hk,J,ar⟩:=Ru h;rw[ey]at J;obtain⟨⟨ac,J⟩,w⟩:=J;rw[ey];rw[hd]at aa al ai;have aa:∀s∈Ae d,s∉rdO np ops u:=λs hs=>by simpa using bL.1 aa s hs
 obtain⟨F,hF⟩:∃F,F=ck (dU (kE k e) (nm d 0) ob) d (.ref (nm d 0)):=⟨_,rfl⟩
 rw[<-hF]at ac J w;have hFt:∀z∈u.op.operands.toList,rd F z=kD k (rd e z)\/rd F z=rd e z:=by
  intro z U;cases z with
  |tmp t =>
   left;have:t≠d:=by
    rintro rfl;exact al t (w7 U) rfl
   rw[hF];show(ck _ _ _).t t=kD k (e.t t);rw[uO this];exact akr k e t
  | _=>right;rfl
 have I:∀z∈u.op.operands.toList,Di (rd F z)=true->rd F z=rd e z/\kD k (rd e z)=rd e z:=by
  intro z U hs;cases z with
  |tmp t =>
   have e1:rd F (.tmp t)=kD k (rd e (.tmp t)):=by
    have:t≠d:=by
     rintro rfl;exact al t (w7 U) rfl
    rw[hF];show(ck _ _ _).t t=kD k (e.t t);rw[uO this];exact akr k e t
   rw[e1]at hs |-;have:=X7 hs;exact⟨this,this⟩
  |const v=>exact⟨rfl,Ow v⟩
  |global g=>exact⟨rfl,by cases k<;>rfl⟩
  |func f=>exact⟨rfl,by cases k<;>rfl⟩
 have ad:∀(A:Nat)(v:D),u.dst=some A->∀(e2:Env),(∀j,j≠A->e2.t j=e.t j)->∀z∈x.op.operands.toList,rd e2 z=rd e z:=by
  intro A v C e2 he z U;cases z with
  |tmp t=>exact he t λe=>aK t (w7 U) (by rw[C,e])
  | _=>rfl
 -- a step that only sets its slot
 have ax:∀(A:Nat)(v:D),u.dst=some A->kD k v=v->K (ck F A v)->gh P n np ops x (ck e A v) K:=by
  intro A v C hv J;have Z:d≠A:=λh=>ai (by rw[C,h]);have hr:=ad A v C (ck e A v) λj M=>uO M;rw[ex];refine⟨ar _ K hr (λ_ _=>rfl) rfl ?_,?_⟩
  ·have:ck (dU (kE k (ck e A v)) (nm d 0) ob) d (.ref (nm d 0))=ck F A v:=by
    rw[hF,TF,hv];simp only[ck,dU,Env.mk.injEq,and_true];funext j;by_cases M:j=d
    ·subst M;simp[Z]
    ·simp[M]
   rw[this];exact J
  ·rw[GY hr];exact Mh (e:=e) (e2:=ck e A v) (λ_ M=>M) hV
 cases B:u.op<;>rw[B]at ap<;>(try cases ap)
 case buildSlice T len ps =>
  cases C:u.dst with
  |none=>simp only[jD,B,C]at J
  |some A =>
   simp only[jD,B,C]at J;obtain⟨aj,J⟩:=J;have Z:d≠A:=λh=>ai (by rw[C,h]);have hp:∀q∈ps.toList,rd F q.2=rd e q.2:=by
    rw[B]at w I;intro q R;refine(I q.2 (by simp only[Op.operands,Array.toList_map,mem_map];exact⟨q,R,rfl⟩) ?_).1;have:∀{l:List (Nat×Operand)},FB F l=true->∀q∈l,Di (rd F q.2)=true:=by
     intro l;induction l with
     |nil=>intro _ q R;cases R
     |cons a l ih =>
      intro h q R;simp only[FB,Bool.and_eq_true]at h;rcases mem_cons.1 R with rfl|R
      ·exact h.1
      ·exact ih h.2 q R
    exact this w q R
   have am:sH F ps.toList=sH e ps.toList:=by
    unfold sH;congr 1;exact map_congr_left λq R=>hp q R
   have ay:∀z,lU F z ps.toList=lU e z ps.toList:=λz=>map_congr_left λq R=>by rw[hp q R]
   obtain⟨O,Y⟩:=J.1 rfl;have O:=O trivial;rw[O]at Y;simp only[ia]at Y;unfold Rj at Y;split at Y<;>try exact Y.elim
   rename_i z by_ ea zc hT aN;obtain⟨q1,q2,q3,q4,q5,J⟩:=Y;obtain⟨v1,v2⟩:=Tk (by rw[B];rfl) C aM hV;have ak:k≠some (nm A 0):=by
    intro aA;rw[hk _ aA]at v2;simp[Li]at v2
   have af:nm A 0≠nm d 0:=afP (Ne.symm Z);have hN:e.o (nm A 0)=.undef:=by
    refine afk (k:=k) v1 ?_;rw[<-akq ak,<-q5,hF];show _=(dU (kE k e) (nm d 0) ob).o (nm A 0);simp[dU,af]
   refine⟨⟨by simp[ct,B,pX],?_⟩,?_⟩
   ·simp only[jD,B,C];refine⟨aj,λ_=>⟨λ_=>by rw[<-am];exact O,?_⟩,λh=>by cases h⟩;rw[<-am,O];simp only[ia,Rj,hT,aN];simp only[BV,<-ay]at q3 q4 J |-;refine⟨q1,q2,q3,q4,hN,?_⟩;obtain⟨V,ag⟩:∃V:D,V=.own z (rowsOf z len (nN (replicate len zc).flatten (lU F z ps.toList))):=⟨_,rfl⟩
    rw[<-ag]at J |-;have an:kD k V=V:=by rw[ag];cases k<;>rfl
    have aB:kD k (.ref (nm A 0))=.ref (nm A 0):=by
     cases k with
     |none=>rfl
     |some r =>
      have:nm A 0≠r:=λh=>ak (by rw[h]);simp[kD,D.kill,this]
    have hr:=ad A (.ref (nm A 0)) C (ck (dU e (nm A 0) V) A (.ref (nm A 0))) λj M=>uO M;rw[ex];refine⟨ar _ K hr ?_ ?_ ?_,?_⟩
    ·intro j M;show(if j=nm A 0 then V else e.o j)=e.o j;rw[au];rintro rfl;exact M hN
    ·show(if nm d 0=nm A 0 then V else e.o (nm d 0))=e.o (nm d 0);rw[au (Ne.symm af)]
    ·have:ck (dU (kE k (ck (dU e (nm A 0) V) A (.ref (nm A 0)))) (nm d 0) ob) d (.ref (nm d 0))=ck (dU F (nm A 0) V) A (.ref (nm A 0)):=by
      rw[hF,TF,aaQ ak,an,aB];simp only[ck,dU,Env.mk.injEq];refine⟨?_,?_⟩<;>funext j
      ·by_cases M:j=d
       ·subst M;simp[Z]
       ·simp[M]
      ·by_cases M:j=nm d 0
       ·subst M;simp[Ne.symm af]
       ·simp[M]
     rw[this];exact J
    ·rw[GY hr];refine Mh (λj M=>?_) hV;show HP (if j=nm A 0 then V else e.o j)=true;split
     ·rw[ag];rfl
     ·exact M
   ·simp only[B,mq]at w |-;rw[<-Bz _ hp];exact w
 all_goals
  have Q:(∀W K',jD P n true u W true K'↔∃A,u.dst=some A/\A<n/\dO P W u.op/\K' (ck W A (gB P W u.op)))->(dO P F u.op->dO P e u.op/\gB P F u.op=gB P e u.op/\kD k (gB P e u.op)=gB P e u.op)->pX np ops u (ct e u)->mq e u.op->(pX np ops u (ct e u)/\jD P n true u e true λe2=>gh P n np ops x e2 K)/\mq e u.op:=by
   intro L H X h3;obtain⟨A,C,aj,E,J⟩:=(L _ _).1 J;obtain⟨k1,k2,k3⟩:=H E;rw[k2]at J;exact⟨⟨X,(L _ _).2 ⟨A,C,aj,k1,ax A _ C k3 J⟩⟩,h3⟩
  rw[B]at Q w I;simp only[Op.operands]at I;have L:∀W K',jD P n true u W true K'↔∃A,u.dst=some A/\A<n/\dO P W u.op/\K' (ck W A (gB P W u.op)):=by
   intro W K';cases C:u.dst<;>simp[jD,B,C,iz,gd]
  rw[B]at L
 case move a =>
  obtain⟨H,X⟩:=I a (by simp) w;exact Q L (λ_=>⟨trivial,H,X⟩) (by simp[ct,B,pX]) (by simp only[mq];rw[<-H];exact w)
 case fieldAddr t a f =>
  obtain⟨H,X⟩:=I a (by simp) w;refine Q L (λE=>⟨?_,?_,?_⟩) (by simp[ct,B,pX]) (by simp only[mq];rw[<-H];exact w)
  ·simp only[dO]at E |-;rw[<-H];exact E
  ·simp only[gB];rw[H]
  ·simp only[gB];cases eH P t<;>first|exact XG _ _ X| (cases k<;>rfl)
 case unOp op t a =>
  obtain⟨H,X⟩:=I a (by simp) w;refine Q L (λE=>⟨?_,?_,S3 _ _⟩) (by simp[ct,B,pX]) (by simp only[mq];rw[<-H];exact w)
  ·simp only[dO]at E |-;rw[<-H];exact E
  ·simp only[gB];rw[H]
 case binOp op t a b t2 =>
  obtain⟨H,X⟩:=I a (by simp) w.1;obtain⟨h3,h4⟩:=I b (by simp) w.2;refine Q L (λE=>⟨?_,?_,UC _ _ _⟩) (by simp[ct,B,pX]) (by simp only[mq];rw[<-H,<-h3];exact w)
  ·simp only[dO]at E |-;rw[<-H,<-h3];exact E
  ·simp only[gB];rw[H,h3]
 case load t a =>
  simp only[mq]at w;cases N:rd F a<;>rw[N]at w<;>(try cases w);rename_i q off;simp only[Wl]at w;obtain⟨H,X⟩:=I a (by simp) (by rw[N];rfl);have G:tU np ops u q=true:=by
   refine sS ac q ?_;simp only[ct,B,N,D.names,gV]
  have aD:q≠nm d 0:=by
   rintro rfl;have hm:nm d 0∈Ae d:=by simp only[Ae,mem_map,mem_range];exact⟨0,by omega,rfl⟩
   have hw:nm d 0∈ab1 np ops:=by
    refine mem_flatMap.2 ⟨x,aJ,?_⟩;have aC:makes x.op=true:=by
     have:=tJ ab;unfold isApp at this;unfold makes;split at this
     ·rename_i c hc;rw[hc];split at this
      ·rename_i az;simp[az]
      ·cases this
     ·cases this
    simp only[Jh,hd,aC,if_true];exact mem_append_left _ hm
   unfold tU at G;rw[B]at G;simp only[Bool.or_eq_true,gD,contains_eq_mem,bz,gv]at G;rcases G with h|h
   ·exact aa _ hm h
   ·exact h hw
  have aE:k≠some q:=by
   rintro rfl;rw[<-H,N]at X;simp[kD,D.kill]at X
  have ae:F.o q=kD k (e.o q):=by
   rw[hF,<-akq aE];show(if q=nm d 0 then ob else(kE k e).o q)=_;rw[au aD]
  have S:F.o q=e.o q:=by rw[ae];exact afj (by rw[<-ae];exact w)
  have aq:∀r∈ct F u,F.o r=e.o r:=by
   intro r hr;simp only[ct,B,N,D.names,gV]at hr;rw[hr];exact S
  have ah:=EG (P:=P) (o:=u) (e:=F) (e2:=e) (λz U=>by
   rw[B]at U;simp only[Op.operands,gV]at U;have U:z=a:=by simpa using U
   subst U;exact H) aq (λc f hc=>by rw[B]at hc;cases hc)
  rw[B]at ah;refine Q L (λE=>⟨ah.2.1 E,ah.1,?_⟩) ?_ ?_
  ·simp only[gB,<-H,N];cases iF P t with
   |none=>cases k<;>rfl
   |some l =>
    simp only[ZG];rw[<-S];cases Y:F.o q<;>rw[Y]at w<;>(try cases w);rename_i cs;simp only[ldB];have ao:kD k (D.box cs)=D.box cs:=by rw[<-Y,S,<-ae,S]
    refine VH _ _ _ λc hc=>?_;cases k with
    |none=>rfl
    |some r =>
     simp only[kD,D.kill,lF,D.box.injEq]at ao |-;have:=map_eq_map_iff.1 (show cs.map (D.kill r)=cs.map id by rw[ao,map_id]) c hc;exact this
  ·simp only[ct,B,<-H,N,D.names];exact⟨G,aS⟩
  ·simp only[mq];rw[<-H,N];simp only[Wl];rw[<-S];exact w
def sw(P:Program)(n np:Nat)(ops:Array Oper):List Nat->Env->(Env->Prop)->Prop
 | [],e,K=>K e
 |i::r,e,K=>match ops[i]? with
  |some o=>gh P n np ops.toList o e λq=>sw P n np ops r q K
  |none=>sw P n np ops r e K
theorem De{ops:Array Oper}{i:Nat}{y:Oper}(B:ops[i]?=some y):∀(s q:List Nat)(e:Env)(K:Env->Prop),(∀j∈s,∀x,ops[j]?=some x->(Am ops.toList x=false/\Am ops.toList y=false/\Gh np ops.toList x y=true)\/(PR ops.toList x y=true/\lC ops.toList y=false/\lC ops.toList x=false)\/apY np ops.toList x y=true) ->
  sw P n np ops (s++i::q) e K->sw P n np ops (i::(s++q)) e K
 | [],_,_,_,_,h=>h
 |j::s,q,e,K,ha,h=>by
  simp only[cons_append,sw]at h |-;have E:=λC=>De B s q C K (λk I=>ha k (mem_cons_of_mem _ I));simp only[B];cases A:ops[j]? with
  |none =>
   rw[A]at h;have:=E e h;simp only[sw,B]at this;simpa[A]using this
  |some x =>
   rw[A]at h;simp only at h |-
   have D:gh P n np ops.toList x e λG=>gh P n np ops.toList y G λC=>sw P n np ops (s++q) C K:=by
    refine Jg h ?_;intro C H;have:=E C H;simpa only[sw,B]using this
   have w:∀{k:Nat} {z:Oper},ops[k]?=some z->z∈ops.toList:=by
    intro k z J;exact fO (i:=k) (by simpa using J)
   rcases ha j (by simp) x A with⟨F,a2,a3⟩| ⟨ha,hb,hc⟩|ha
   ·exact S9 F a2 (w A) (w B) a3 D
   ·exact WA ha hb hc D
   ·exact Wz (w A) (w B) ha D
theorem Df{ops:Array Oper}:∀(l:List Oper)(k:Nat)(e:Env)(K:Env->Prop),ops.toList.drop k=l->pO P n np ops.toList l e K->sw P n np ops (range' k l.length) e K
 | [],_,_,_,_,h=>h
 |o::l,k,e,K,hd,h=>by
  have A:ops[k]?=some o:=by
   have:(ops.toList.drop k)[0]?=some o:=by rw[hd];rfl
   rw[getElem?_drop]at this;simpa using this
  have q:ops.toList.drop (k+1)=l:=by
   rw[<-drop_drop,hd];rfl
  simp only[length_cons,range'_succ,sw,A];refine Jg h ?_;intro s w;exact Df l (k+1) s K q w
end
end Go.Abs
namespace Go.Abs
open List

variable{d i:Nat}{K:Env->Prop}{e:Env}{g:Bool}{o:Oper}{ops:Array Oper}{a:Act}{next:Act->World->Prop}{Q:Exit->Act->World->Prop}{b:Array Bool}
section
variable{P:Program}{n np:Nat}{w0 w w':World}{l0:Nat->Option Nat}{G:Nat->Option (Nat×Nat)}{S0:Nat->Option Value}{lev lev' own own':Nat->Option Nat}{S S':Nat->Option Value}{env env':Env}{tm tm':Nat->Value}

def Rz{dr:Bool}{f:Operand}{args:List Operand}(h:BL P true e d f args K):BL P dr e d f args K:=by
 obtain⟨fz,gs,bw,j,k,c,h⟩:=h;exact⟨fz,gs,bw,j,k,λ_=>c rfl,td (λ_ l=>.inl l.drawn) h⟩
theorem aa9{ops:List Oper}(h:N3 P n np ops o e g K):l9 P n false o e g K:=by
 obtain⟨_,h⟩:=h;unfold l9 at h |-;split at h
 ·rename_i q;rw[aq q];exact⟨h.1,rfl,h.2.2⟩
 rename_i q;rw[au q];cases u:o.dst with
 |none=>cases l:o.op<;>simp only[jD,l,u]at h |-<;>exact h
 |some d =>
  cases l:o.op<;>simp only[jD,l,u]at h |-<;>(try exact h)
  case buildSlice t len parts=>exact⟨h.1,λp=>⟨(λh=>by cases h),(h.2.1 p).2⟩,h.2.2⟩
  case call c =>
   refine⟨h.1,?_⟩;have k:=h.2;cases j:c.callee with
   |invoke r m=>rw[j]at k;exact k
   |value f=>rw[j]at k;exact⟨λp=>(k.1 p).elim (λs=>.inl (Rz s)) (λs=>(wG s.1.symm).elim),k.2⟩
   |builtin b =>
    rw[j]at k;cases b<;>simp only at k |-<;>first|exact k|exact⟨k.1,aS,k.2.2⟩

theorem KF:∀(l:List Oper)(j:Nat),xJ l j=(l[j]?).bind (·.dst)
 | [],j=>by simp[xJ]
 |o::r,0=>by simp[xJ]
 |o::r,j+1=>by simp[xJ,KF r j]

theorem L1(h:Inv w0 l0 G S0 w lev own S env (ni a.tmps))(c:tE ops.toList env o.guard=some g):Region.wanted o (yielded ops a.tmps)=g:=by
 unfold tE at c;unfold Region.wanted;cases m:o.guard with
 |none=>rw[m]at c;simpa using c.symm
 |some p =>
  obtain⟨j,r⟩:=p;rw[m]at c;simp only at c |-;rw[KF]at c;have x:ops.toList[j]?=ops[j]?:=by simp
  rw[x]at c;unfold yielded;cases u:(ops[j]?).bind (·.dst)with
  |none =>
   rw[u]at c;simp only[oF]at c;subst c;simp
  |some t =>
   rw[u]at c;simp only at c;simp only[Option.bind_some];have l:=h.BJ a rfl (.tmp t);unfold L0 at c;split at c
   ·rename_i b s;rw[s]at l;have q:=l.mo;have k:t<a.tmps.size:=by
     rcases dN t a.tmps.size with k|hge
     ·exact k
     ·simp[Act.eval,Array.getElem?_eq_none hge,Go.undef]at q
    have f:a.tmps[t]?=some (.bool b):=by
     simp[Act.eval,k]at q;simp[k,q]
    simp only[f];simp only[oF]at c;subst c;cases b<;>cases r<;>rfl
   ·rename_i s;rw[s]at l;obtain⟨vs,q,hs,_⟩:=l.C6;simp only[oF]at c;subst c;cases f:a.tmps[t]? with
    |none=>simp
    |some v =>
     have:v=.tuple vs:=by simpa[Act.eval,f]using q
     subst this;simp
   ·cases c

def UX(h:Inv w0 l0 G S0 w lev own S env (ni a.tmps))(N:a.tmps.size=n)(m:a.defers=[]){t:TypeId}(y:o.op=.buildSlice t 0 #[])(J:o.dst=some d)(p:d<n)
  (c:Cont n w0 l0 G S0 K next) (l:Jq env d K (eH P t)):o.wp P a w next Q:=by
 unfold Jq at l;split at l<;>try exact l.elim
 rename_i z by_ ea I;obtain⟨C,F⟩:=l;obtain⟨e,inf,O,M,hin,B,hz,zv0,hzv0,hzz0⟩:=fR I;have H:=h.fresh C;have D:=h.setObj (w':=w.alloc (.cells #[] e)) (r:=nm d 0) (d:=.undef) (own':=own) (S':=S) (Jf h _ none) (zw _ _ _ none) (λ_ _=>rfl) (λ_ h=>h) (.inl (EC d 0))
  (by
   intro b s _ _ _ B;have q:=h.priv b 0 B;have x:b≠w.heap.size:=by omega
   exact⟨heap_alloc_old w _ q,gR _ _ x,rfl⟩)
  (show S (nm d 0)=none from H)
 have L:dU env (nm d 0) .undef=env:=by
  cases env with
  |mk t o =>
   simp only[dU,Env.mk.injEq,true_and];funext j;by_cases E:j=nm d 0
   ·subst E;simp only[if_true];exact C.symm
   ·simp[E]
 rw[L]at D;have f:=D.put (s:=d) (v:=.slice (some ⟨w.heap.size,0,none⟩) 0 0) (d:=.emp) (.emp _);refine upon_value J (u:=.slice (some ⟨w.heap.size,0,none⟩) 0 0) ?_ (iT N m c p f F);simp only[execOp,y];refine kK ?_;have k:(newRow e #[]).run P w=.ok ⟨w.heap.size,0,none⟩ (w.alloc (.cells #[] e)):=by simp[newRow,newObj,Sem.run,Sem.bind,pure,bind]
 have A:(Array.range 0:Array Nat) = #[]:=rfl;simp[Instr.buildSlice,Sem.run_bind,bO O,cY M,Instr.fill,A,k,Sem.run,pure]
theorem BI(m:ops[i]?=some o)(h:Inv w0 l0 G S0 w lev own S env (ni a.tmps))(l:a.tmps.size=n)(j:a.defers=[])
  (c:Cont n w0 l0 G S0 K next) (f:wpOp P n ops.toList o env K):Go.wpOp P ops Q i next a w:=by
 unfold wpOp at f;cases k:tE ops.toList env o.guard with
 |none=>rw[k]at f;exact f.elim
 |some g =>
  rw[k]at f;unfold Go.wpOp;simp only[m,L1 h k];cases g with
  |true=>exact .inl (VF h l j c f)
  |false =>
   simp only[Bool.false_eq_true,if_false];exact Yz h l j c f

theorem Rd(v:ops[i]?=some o)(h:Inv w0 l0 G S0 w lev own S env (ni a.tmps))(u:a.tmps.size=n)(m:a.defers=[])
  (j:Cont n w0 l0 G S0 K next) (f:gh P n np ops.toList o env K):Go.wpOp P ops Q i next a w:=by
 unfold gh at f;cases r:tE ops.toList env o.guard with
 |none=>rw[r]at f;exact f.elim
 |some g =>
  rw[r]at f;simp only at f;by_cases l:lC ops.toList o=true
  ·rw[aq l]at f;obtain⟨s,l|l⟩:=Ud l
   ·obtain⟨t,len,ps,d,k,q,rfl,rfl⟩:=l;have p:=r;rw[s]at p;simp only[tE,oF]at p;subst p;unfold Go.wpOp;simp only[v,L1 h r];unfold qn at f;rw[k,q]at f;exact .inl (UX h u m k q f.1 j f.2)
   ·refine BI v h u m j (K:=K) ?_;unfold wpOp;rw[s];simp only[tE];refine Oa l ?_;unfold qn at f;unfold qo;have y:∃c,o.op=.call c:=by
     unfold isApp at l;split at l
     ·rename_i c k;exact⟨c,k⟩
     ·cases l
    obtain⟨c,k⟩:=y;rw[k]at f |-;cases q:o.dst with
    |none=>rw[q]at f;exact f.elim
    |some d =>
     rw[q]at f;refine⟨f.1,rfl,?_⟩;have f:=f.2;split at f
     ·rename_i hx hy;exact adO f.2
     ·exact f.elim
  ·rw[au l]at f;refine BI v h u m j (K:=K) ?_;unfold wpOp;rw[r];simp only;split at f
   ·split at f
    ·rename_i x;split at f
     ·exact f
     ·exact Oa x f.1
    ·split at f
     ·exact YR f
     ·exact f
   ·exact aa9 f.1
theorem Dg{ops:Array Oper}{Q:Exit->Act->World->Prop}{K:Env->Prop}(c:Cont n w0 l0 G S0 K (Q .normal)):∀(l:List Oper)(k:Nat),ops.toList.drop k=l->∀(env:Env) lev own S w (a:Act),Inv w0 l0 G S0 w lev own S env (ni a.tmps)->a.tmps.size=n->a.defers=[] ->
  wpList P n ops.toList l env K->wpOps P ops Q (range' k l.length) a w
 | [],k,_,env,lev,own,S,w,a,h,hn,hdf,hk=>c _ _ _ _ _ a hn hdf h hk
 |o::l,k,hd,env,lev,own,S,w,a,h,hn,hdf,hk=>by
  have t:ops[k]?=some o:=by
   have:(ops.toList.drop k)[0]?=some o:=by rw[hd];rfl
   rw[getElem?_drop]at this;simpa using this
  have j:ops.toList.drop (k+1)=l:=by rw[<-drop_drop,hd];rfl
  simp only[length_cons,range'_succ];rw[wpOps_cons];refine BI t h hn hdf ?_ hk;intro q lev' own' S' w' p m f s r;exact Dg c l (k+1) j q lev' own' S' w' p s m f r

def Ih(h:i∈Region.ready .any ops b):i<ops.size/\b.getD i true=false/\∀y,ops[i]?=some y->∀e∈y.after.toList,Region.binds .any e=true->b.getD e.on false=true:=by
 unfold Region.ready at h;simp only[mem_filter,mem_range,Bool.and_eq_true,gD]at h;refine⟨h.1,h.2.1,?_⟩;intro y k e j f;have:=h.2.2;rw[k]at this;simp only[Option.map_some,Option.getD_some,Array.all_eq_true_iff_forall_mem,Bool.or_eq_true,gD]at this;rcases this e (by simpa using j)with c|c
 ·rw[f]at c;cases c
 ·exact c

theorem Zz(M:AU np ops=true)(C:Cont n w0 l0 G S0 K (Q .normal)):∀(q:Nat)(c:Array Bool)(env:Env) lev own S w (a:Act),
  c.size=ops.size->(∀k y,ops[k]?=some y->c.getD k false=true->∀e∈y.after.toList,Region.binds .any e=true->c.getD e.on false=true)->((range ops.size).filter (λi=>!c.getD i true)).length<=q->Inv w0 l0 G S0 w lev own S env (ni a.tmps)->a.tmps.size=n->a.defers=[] ->
  sw P n np ops ((range ops.size).filter (λi=>!c.getD i true)) env K->wpAny P .any ops Q q c a w:=by
 have T:∀(i:Nat) y,ops[i]?=some y->∀e∈y.after.toList,Region.binds .any e=true->e.on<i:=by
  intro i y p e u t;have A:=(Array.getElem?_eq_some_iff.1 p).1;simp only[AU,bL,mem_range]at M;have:=M i A;rw[p]at this;simp only[Bool.and_eq_true,Array.all_eq_true_iff_forall_mem,Bool.or_eq_true,gD,bz]at this;rcases this.1 e (by simpa using u)with l|l
  ·rw[t]at l;cases l
  ·exact l
 have J:∀(i:Nat) y,ops[i]?=some y->∀j,j<i->∀x,ops[j]?=some x->((∃e∈y.after.toList,Region.binds .any e=true/\e.on=j)\/D3 ops 12 i j=true)\/((Am ops.toList x=false/\Am ops.toList y=false/\Gh np ops.toList x y=true)\/(PR ops.toList x y=true/\lC ops.toList y=false/\lC ops.toList x=false)\/apY np ops.toList x y=true):=by
  intro i y p j r x hx;have A:=(Array.getElem?_eq_some_iff.1 p).1;simp only[AU,bL,mem_range]at M;have:=M i A;rw[p]at this;simp only[Bool.and_eq_true,bL,mem_range]at this;have:=this.2 j r;rw[hx]at this;simp only[Bool.or_eq_true,Array.any_eq_true',Bool.and_eq_true,ff,gD]at this;rcases this with⟨e,u,t,D⟩| (((⟨⟨l,I⟩,R⟩| ⟨⟨l,I⟩,R⟩)|l)|l)
  ·exact .inl (.inl ⟨e,by simpa using u,t,D⟩)
  ·exact .inr (.inl ⟨l,I,R⟩)
  ·exact .inr (.inr (.inl ⟨l,I,R⟩))
  ·exact .inr (.inr (.inr l))
  ·exact .inl (.inr l)
 -- what is behind what is c is c
 have N:∀(c:Array Bool),(∀k y,ops[k]?=some y->c.getD k false=true->∀e∈y.after.toList,Region.binds .any e=true->c.getD e.on false=true)->∀(k i j:Nat),D3 ops k i j=true ->
   (∀y,ops[i]?=some y->∀e∈y.after.toList,Region.binds .any e=true->c.getD e.on false=true)->c.getD j false=true:=by
  intro c v k;induction k with
  |zero=>intro i j h;simp[D3]at h
  |succ k ih =>
   intro i j h O;unfold D3 at h;cases p:ops[i]? with
   |none=>rw[p]at h;cases h
   |some y =>
    rw[p]at h;simp only[Array.any_eq_true',Bool.and_eq_true,Bool.or_eq_true,ff]at h;obtain⟨e,u,t,h⟩:=h;have W:=O y p e (by simpa using u) t;rcases h with rfl|h
    ·exact W
    ·exact ih e.on j h (λy' am=>v e.on y' am W)
 -- nothing is ready only if nothing is left
 have af:∀c:Array Bool,c.size=ops.size->Region.ready .any ops c=[]->(range ops.size).filter (λi=>!c.getD i true)=[]:=by
  intro c s hr;rw[filter_eq_nil_iff];intro i;induction i using Nat.strongRecOn with
  | _ i ih =>
   intro O hu;have A:=mem_range.1 O;have:i∈Region.ready .any ops c:=by
    unfold Region.ready;rw[mem_filter];refine⟨O,?_⟩;simp only[Bool.and_eq_true];refine⟨hu,?_⟩;have p:ops[i]?=some ops[i]:=by simp[A]
    rw[p];simp only[Option.map_some,Option.getD_some,Array.all_eq_true_iff_forall_mem,Bool.or_eq_true,gD];intro e u;cases t:Region.binds .any e with
    |false=>exact .inl rfl
    |true =>
     right;have D:=T i _ p e (by simpa using u) t;have l:=ih e.on D (mem_range.2 (by omega));have I:c.getD e.on true=true:=by
      cases hx:c.getD e.on true with
      |true=>rfl
      |false=>exact(l (by rw[hx];rfl)).elim
     have ag:e.on<c.size:=by omega
     simpa[Array.getD_eq_getD_getElem?,ag]using I
   rw[hr]at this;cases this
 intro q;induction q with
 |zero =>
  intro c env lev own S w a s v z h hn L H;have hR:(range ops.size).filter (λi=>!c.getD i true)=[]:=length_eq_zero_iff.1 (by omega);rw[hR]at H;refine⟨?_,C _ _ _ _ _ a hn L h H⟩;rw[eq_nil_iff_forall_not_mem];intro i O;obtain⟨l,I,_⟩:=Ih O;have:i∈(range ops.size).filter (λi=>!c.getD i true):=mem_filter.2 ⟨mem_range.2 l,by rw[I];rfl⟩;rw[hR]at this;cases this
 |succ q ih =>
  intro c env lev own S w a s v z h hn L H;refine⟨?_,?_⟩
  ·intro hr;rw[af c s hr]at H;exact C _ _ _ _ _ a hn L h H
  ·intro i O;obtain⟨l,I,R⟩:=Ih O;have ai:i∈(range ops.size).filter (λi=>!c.getD i true):=mem_filter.2 ⟨mem_range.2 l,by rw[I];rfl⟩;obtain⟨Z,F,Y⟩:=append_of_mem ai;have p:ops[i]?=some ops[i]:=by simp[l]
   have f:((range ops.size).filter (λi=>!c.getD i true)).Pairwise (· < ·):=Pairwise.filter _ pairwise_lt_range;rw[Y]at f H z;have E:∀j∈Z,j<i:=by
    intro j r;have:=pairwise_append.1 f;exact this.2.2 j r i (by simp)
   have X:∀j∈F,i<j:=by
    intro j r;have:=(pairwise_append.1 f).2.1;exact(kB.1 this).1 j r
   have ac:=De (P:=P) (n:=n) (np:=np) p Z F env K (by
    intro j r x hx;rcases J i _ p j (E j r) x hx with h5|h4
    ·have W:c.getD j false=true:=by
      rcases h5 with⟨e,u,t,D⟩|h5
      ·rw[<-D];exact R _ p e u t
      ·exact N c v 12 i j h5 R
     have aj:j∈(range ops.size).filter (λi=>!c.getD i true):=by rw[Y];exact mem_append_left _ r
     have U:=(mem_filter.1 aj).2;have ak:j<c.size:=by have:=E j r;omega
     simp[Array.getD_eq_getD_getElem?,ak]at W U;rw[W]at U;cases U
    ·exact h4) H
   simp only[sw,p]at ac;have aa:(range ops.size).filter (λk=>!(c.setIfInBounds i true).getD k true)=Z++F:=by
    have hf:∀k,(!(c.setIfInBounds i true).getD k true)=((!c.getD k true)&&decide (k≠i)):=by
     intro k;simp only[Array.getD_eq_getD_getElem?,Array.getElem?_setIfInBounds];by_cases V:i=k
     ·subst V;simp[s,l]
     ·simp[V,Ne.symm V]
    have:(range ops.size).filter (λk=>!(c.setIfInBounds i true).getD k true)=((range ops.size).filter (λk=>!c.getD k true)).filter (λk=>decide (k≠i)):=by
     rw[filter_filter];refine filter_congr ?_;intro k _;rw[hf k,Bool.and_comm]
    rw[this,Y,nK,filter_cons];simp only[ne_eq,not_true_eq_false,decide_false,Bool.false_eq_true,if_false];rw[filter_eq_self.2 (λj r=>by have:=E j r;simp;omega),filter_eq_self.2 (λj r=>by have:=X j r;simp;omega)]
   refine Rd p h hn L ?_ ac;intro e' lev' own' S' w' a' al ab ah hK;refine ih _ e' lev' own' S' w' a' (by simpa using s) ?_ ?_ ah al ab (by rw[aa];exact hK)
   ·intro k y H W e u t;have B:∀m,c.getD m false=true->(c.setIfInBounds i true).getD m false=true:=by
     intro m hm;simp only[Array.getD_eq_getD_getElem?,Array.getElem?_setIfInBounds]at hm |-
     by_cases ae:i=m
     ·subst ae;simp[s,l]
     ·simpa[ae]using hm
    by_cases ad:i=k
    ·subst ad;exact B _ (R y H e u t)
    ·refine B _ (v k y H ?_ e u t);simpa[Array.getD_eq_getD_getElem?,Array.getElem?_setIfInBounds,ad]using W
   rw[aa];simp at z |-;omega
end
end Go.Abs
namespace Go.Abs
open List

def Tc(t:Bool)(a b:Prop):Prop:=(t=true->a)/\(t=false->b)
def wE(K:Env->Prop)(Q:Exit->Env->Prop):Exit->Env->Prop
 | .normal,e=>K e
 |x,e=>Q x e
def rP(id:Nat)(Q:Exit->Env->Prop):Exit->Env->Prop
 | .exit id',e=>if id'=id then Q .normal e else Q (.exit id') e
 |x,e=>Q x e
abbrev EL:=List (Nat×D)
def ah{T:Type}(ts os:T->EL)(I:T->Prop)(m:T->Nat)(s:T)(e:Env):Prop:=∃a,I a/\Jr e (ts a) (os a)/\m a<m s
def mJ{T:Type}(ts os:T->EL)(I:T->Prop)(m:T->Nat)(s:T)(Q:Exit->Env->Prop):Exit->Env->Prop
 | .normal,e=>ah ts os I m s e
 |x,e=>Q x e
def aF(a:(Exit->Env->Prop)->Env->Prop)(Q:Exit->Env->Prop)(e:Env):Prop:=
 ∃(T:Type)(ts os:T->EL)(I:T->Prop)(m:T->Nat)(s0:T),I s0/\Jr e (ts s0) (os s0)/\∀s,I s->a (mJ ts os I m s Q) (sM (ts s) (os s))
def gf(K:Env->Prop)(e:Env):Prop:=K e\/∃ts os,Jr e ts os/\K (sM ts os)
def acf(np:Nat)(ops:Array Oper):Prop:=AU np ops=true
def falls:Code->Bool
 | .seq a b=>falls a&&falls b
 | .cond _ a b=>falls a||falls b
 | .exit _=>false
 | .ret=>false
 | _=>true
def MD:Code->Bool
 | .cond _ a b=>falls a&&falls b
 | .block _ (.cond _ a b)=>falls a&&falls b
 | .block _ (.loop _)=>true
 | _=>false

def nQ(P:Program)(n np:Nat):Code->(Exit->Env->Prop)->Env->Prop
 | .skip,Q,e=>Q .normal e
 | .region _ ops draw,Q,e=>if draw then acf np ops/\pO P n np ops.toList ops.toList e (Q .normal)else wpList P n ops.toList ops.toList e (Q .normal)
 | .seq a b,Q,e=>nQ P n np a (wE (if MD a then gf (nQ P n np b Q)else nQ P n np b Q) Q) e
 | .cond c a b,Q,e=>match rd e c with
  | .bool t=>Tc t (nQ P n np a Q e) (nQ P n np b Q e)
  | _=>False
 | .block id a,Q,e=>nQ P n np a (rP id Q) e
 | .loop a,Q,e=>aF (nQ P n np a) Q e
 | .exit id,Q,e=>Q (.exit id) e
 | .ret,Q,e=>Q .ret e
 | .rangeFunc _ _ _ _,_,_=>False
 | .scope _,_,_=>False
 | .label _,_,_=>False
 | .goto _,_,_=>False
 | .refuse _,_,_=>False

variable{c:Code}{d:D}{rs:List ResultVar}{hs' hs ds:List D}{Φ:List D->D->Prop}{fn:Func}{f:FuncId}{g:Exit->Env->Prop}
section
variable{P:Program}{n np:Nat}{w0 w w':World}{l0:Nat->Option Nat}{G:Nat->Option (Nat×Nat)}{S0:Nat->Option Value}{lev lev' own own':Nat->Option Nat}{S S':Nat->Option Value}{env env':Env}{tm tm':Nat->Value}

def WB{Q:Exit->Act->World->Prop}{a:Act}{w:World}{S:Type}(I:S->Act->World->Prop)(m:S->Nat)(s0:S)(D:I s0 a w)
  (o:∀s a w,I s a w->c.wp P (Exit.then (λp w'=>∃t,I t p w'/\m t<m s) Q) a w):(Code.loop c).wp P Q a w:=by
 intro b k cs;have key:∀n s a w,m s=n->I s a w ->
   ∃e p w',Q e p w'/\Arrives P (lone (b.at a (.code c::.inLoop c::k)) cs w) b k cs e p w':=by
  intro n;induction n using Nat.strongRecOn with
  | _ n ih =>
   intro s a w C B;obtain⟨e,q,r,i,h⟩:=o s a w B b (.inLoop c::k) cs;cases e with
   |normal =>
    obtain⟨t,u,v⟩:=i;obtain⟨A,z,E,y,j⟩:=ih (m t) (C ▸ v) t q r rfl u;exact⟨A,z,E,y,.of_steps (Steps.trans h (.one step_inLoop)) j⟩
   |exit id=>exact⟨_,q,r,i,.pass (x:=.inLoop c) rfl (λ_ _=>.inl (by simp)) h⟩
   |goto l=>exact⟨_,q,r,i,.pass (x:=.inLoop c) rfl (λ_ _=>.inl (by simp)) h⟩
   |ret=>exact⟨_,q,r,i,.pass (x:=.inLoop c) rfl (λ_ _=>.inl (by simp)) h⟩
   |panic ch=>exact⟨_,q,r,i,.pass (x:=.inLoop c) rfl (λ_ _=>.inl (by simp)) h⟩
   |outgrown=>exact⟨_,q,r,i,.pass (x:=.inLoop c) rfl (λ_ _=>.inl (by simp)) h⟩
 obtain⟨e,p,w',i,h⟩:=key _ s0 a w rfl D;exact⟨e,p,w',i,.of_steps (.one step_loop) h⟩

theorem Wy(hm:P.follows .mixedOrders=true):∀(c:Code)(u:Exit->Env->Prop)(Q:Exit->Act->World->Prop)(env:Env) lev own S w (a:Act),Inv w0 l0 G S0 w lev own S env (ni a.tmps)->a.tmps.size=n->a.defers=[] ->
  (∀x,Cont n w0 l0 G S0 (u x) (Q x))->nQ P n np c u env->c.wp P Q a w:=by
 intro c;induction c with
 |skip=>intro u Q env lev own S w a h p o j b;exact wp_skip (j .normal _ _ _ _ _ a p o h b)
 |region id ops J =>
  intro u Q env lev own S w a h p o j b;unfold nQ at b;cases J with
  |false =>
   simp only[Bool.false_eq_true,if_false]at b;refine wp_region ?_;have:=Dg (P:=P) (ops:=ops) (Q:=Q) (j .normal) ops.toList 0 rfl env lev own S w a h p o b;rw[<-range_eq_range']at this;simpa using this
  |true =>
   simp only[if_true]at b;refine wp_region_any hm ?_;have W:(range ops.size).filter (λi=>!(Array.replicate ops.size false).getD i true)=range ops.size:=by
    rw[filter_eq_self];intro i C;have:=mem_range.1 C;simp[Array.getD_eq_getD_getElem?,Array.getElem?_replicate,this]
   refine Zz (np:=np) b.1 (j .normal) ops.size _ env lev own S _ a (by simp) (by intro k y _ O;simp[Array.getD_eq_getD_getElem?,Array.getElem?_replicate]at O;split at O<;>simp at O) (by rw[W];simp) h.drew p o ?_;rw[W];have:=Df ops.toList 0 env (u .normal) rfl b.2;rw[<-range_eq_range']at this;simpa using this
 |seq x y ihx ihy =>
  intro u Q env lev own S w a h p o j b;refine wp_seq (ihx _ _ env lev own S w a h p o ?_ b);intro e;cases e<;>try exact j _
  intro H lev' own' S' w' E r q C v;simp only[wE]at v;split at v
  ·rcases v with v| ⟨ts,os,z,v⟩
   ·exact ihy _ _ H lev' own' S' w' E C r q j v
   ·obtain⟨rh,z⟩:=z.le;obtain⟨B,M,hi2⟩:=C.le z;exact ihy _ _ _ lev' B M w' E hi2 r q j v
  ·exact ihy _ _ H lev' own' S' w' E C r q j v
 |cond c x y ihx ihy =>
  intro u Q env lev own S w a h p o j b;unfold nQ at b;have K:=h.BJ a rfl c;cases hx:rd env c<;>rw[hx]at b K<;>try exact b.elim
  rename_i t;refine wp_cond_split K.mo ?_ ?_
  ·intro U;exact ihx _ _ env lev own S w a h p o j (b.1 U)
  ·intro U;exact ihy _ _ env lev own S w a h p o j (b.2 U)
 |block id x ih =>
  intro u Q env lev own S w a h p o j b;refine wp_block (ih _ _ env lev own S w a h p o ?_ b);intro e;cases e<;>try exact j _
  rename_i V;intro H lev' own' S' w' E r q C v;simp only[Exit.inBlock,rP]at v |-;split
  ·rename_i F;rw[aq F]at v;exact j .normal H lev' own' S' w' E r q C v
  ·rename_i F;rw[au F]at v;exact j (.exit V) H lev' own' S' w' E r q C v
 |loop x ih =>
  intro u Q env lev own S w a h p o j b;obtain⟨T,ts,os,I,m,s0,hI,z,D⟩:=b;obtain⟨rh,z⟩:=z.le;obtain⟨L,X,Y⟩:=h.le z;refine WB (λs a w=>I s/\a.tmps.size=n/\a.defers=[]/\∃lev own S,Inv w0 l0 G S0 w lev own S (sM (ts s) (os s)) (ni a.tmps)) m s0 ⟨hI,p,o,lev,L,X,Y⟩ ?_;rintro s a w ⟨hs,p,o,lev,own,S,C⟩;refine ih _ _ _ lev own S w a C p o ?_ (D s hs);intro e;cases e<;>try exact j _
  intro H lev' own' S' w' E r q N v;obtain⟨s',hs',A,R⟩:=v;obtain⟨rh',A⟩:=A.le;obtain⟨B,M,Z⟩:=N.le A;exact⟨s',⟨hs',r,q,lev',B,M,Z⟩,R⟩
 |exit id=>intro u Q env lev own S w a h p o j b;exact wp_exit (j (.exit id) _ _ _ _ _ a p o h b)
 |ret=>intro u Q env lev own S w a h p o j b;exact wp_ret (j .ret _ _ _ _ _ a p o h b)
 |rangeFunc f ps x y ih1 ih2=>intro u Q env lev own S w a h p o j b;exact b.elim
 |scope x ih=>intro u Q env lev own S w a h p o j b;exact b.elim
 |label l=>intro u Q env lev own S w a h p o j b;exact b.elim
 |goto l=>intro u Q env lev own S w a h p o j b;exact b.elim
 |refuse s=>intro u Q env lev own S w a h p o j b;exact b.elim

def Uk:Nat->List D->EL
 | _,[]=>[]
 |k,d::ds=>(k,d)::Uk (k+1) ds
def uw:Nat->List D->EL
 | _,[]=>[]
 |k,d::ds=>if fc d then uw (k+1) ds else(k,d)::uw (k+1) ds
theorem Q2:∀(ds:List D)(k i:Nat),look (Uk k ds) i=if k<=i then ds.getD (i-k) .undef else .undef
 | [],k,i=>by simp[Uk,look]
 |d::ds,k,i=>by
  simp only[Uk,look];rw[Q2 ds (k+1) i];by_cases h:i=k
  ·subst h;simp
  ·by_cases a:k<=i
   ·have b:i-k=(i-(k+1))+1:=by omega
    rw[au h,aq (by omega),aq a,b];simp
   ·rw[au h,au (by omega),au a]
theorem o7:∀(ds:List D)(k i:Nat),look (uw k ds) i=if k<=i then ds.getD (i-k) .undef else .undef
 | [],k,i=>by simp[uw,look]
 |d::ds,k,i=>by
  simp only[uw];have j:=o7 ds (k+1) i;by_cases e:fc d=true
  ·rw[aq e,j];have:=yF.1 e;subst this;by_cases h:i=k
   ·subst h;rw[au (by omega)];simp
   ·by_cases a:k<=i
    ·have b:i-k=(i-(k+1))+1:=by omega
     rw[aq (by omega),aq a,b];simp
    ·rw[au (by omega),au a]
  ·rw[au e];simp only[look];rw[j];by_cases h:i=k
   ·subst h;simp
   ·by_cases a:k<=i
    ·have b:i-k=(i-(k+1))+1:=by omega
     rw[au h,aq (by omega),aq a,b];simp
    ·rw[au h,au (by omega),au a]

def IC(P:Program)(e:Env):ResultVar->D
 | .tmp t=>e.t t
 | .cell a t=>match iF P t with
  |some l=>ZG e l (e.t a)
  |none=>.undef
def IB(P:Program)(e:Env):ResultVar->Prop
 | .tmp _=>True
 | .cell a t=>match iF P t with
  |some l=>MG e l (e.t a)
  |none=>False
def J6(P:Program)(e:Env)(rs:List ResultVar):D:=
 match rs with
 | [r]=>IC P e r
 |rs=>.bI (rs.map (IC P e))
def Bm(P:Program)(e:Env):List ResultVar->Prop
 | []=>True
 |r::rs=>IB P e r/\Bm P e rs
def Bn(v:D)(e:Env):Env:=⟨λj=>if j=0 then v else .undef,e.o⟩
def Rn(P:Program)(rs:List ResultVar)(m:Nat)(hs':List D)(d:D)(e:Env):Prop:=Bm P e rs/\Norm (J6 P e rs) λv=>WZ m (Bn v e) [(0,d)] (uw 0 hs')
def SE(P:Program)(rs:List ResultVar)(m:Nat)(hs':List D)(d:D):Exit->Env->Prop
 | .normal,e=>Rn P rs m hs' d e
 | .ret,e=>Rn P rs m hs' d e
 | _,_=>False

theorem abw{tmps:Array Value}(h:Inv w0 l0 G S0 w lev own S env (ni tmps))(r:ResultVar)(b:IB P env r) :
  ∃v,(match r with| .tmp t=>pure (tmps.getD t Go.undef)| .cell a t=>do loadVar t (<-asAddr (tmps.getD a Go.undef)):Sem Value).run P w=.ok v w/\aM (cx w lev S) v (IC P env r):=by
 cases r with
 |tmp t=>exact⟨tmps.getD t Go.undef,rfl,h.pK t⟩
 |cell a t =>
  simp only[IB]at b;cases o:iF P t with
  |none=>rw[o]at b;exact b.elim
  |some l =>
   rw[o]at b;simp only at b;obtain⟨u,e,q⟩:=X9 (P:=P) h o (h.pK a) b;have k:∃j,ni tmps a=.pointer (some j):=by
    have m:=h.pK a;generalize ni tmps a=v at m;cases s:env.t a<;>rw[s]at b m<;>simp only[MG]at b
    ·obtain⟨j,i,_⟩:=m.qw;exact⟨j,i⟩
    ·obtain⟨j,_,i⟩:=m.ld;exact⟨_,i⟩
    ·obtain⟨j,_,_,_,i⟩:=m.mV;exact⟨_,i⟩
   obtain⟨j,i⟩:=k;refine⟨u,?_,by simp only[IC,o];exact q⟩;have p:tmps.getD a Go.undef=.pointer (some j):=i;rw[i]at e;simp only[p];simpa[Instr.loadAt,Sem.run_bind,asAddr,Instr.sureAddr,Sem.run,pure]using e

def Rp(P:Program)(rs:List ResultVar)(m:Nat)(Φ:List D->D->Prop)(e:Env):Prop:=∃hs' d,Φ hs' d/\Rn P rs m hs' d e
def alw(P:Program)(rs:List ResultVar)(m:Nat)(Φ:List D->D->Prop):Exit->Env->Prop
 | .normal,e=>Rp P rs m Φ e
 | .ret,e=>Rp P rs m Φ e
 | _,_=>False
theorem V1{m:Nat}:∀(x:Exit)(e:Env),SE P rs m hs' d x e->alw P rs m (λa b=>a=hs'/\b=d) x e
 | .normal,_,h=>⟨hs',d,⟨rfl,rfl⟩,h⟩
 | .ret,_,h=>⟨hs',d,⟨rfl,rfl⟩,h⟩
 | .exit _,_,h=>h
 | .goto _,_,h=>h
 | .panic _,_,h=>h
 | .outgrown,_,h=>h
theorem BN.of_wp (hm : P.follows .mixedOrders = true) (hf : P.funcs[f]? = some fn) (hb : fn.body = some c) (hname : (fn.name == "runtime.NumGoroutine") = false) (hQ : ∀ x e, g x e -> alw P fn.results.toList hs.length Φ x e)
  (hlen:ds.length<=fn.ntmps) (h16:hs.length<=16) (hw:nQ P fn.ntmps ds.length c g (sM (Uk 0 ds) (uw 0 hs))):BN P f hs ds Φ:=by
 refine⟨⟨fn,hf,by rw[hb];rfl,hname⟩,?_⟩;intro w l0 G0 own0 S0 vs hT hl0 hG hsz hr hobj
 let tmps:=vs++Array.replicate (fn.ntmps-vs.size) Go.undef
 have htm:∀i,ni tmps i=vs.getD i Go.undef:=by
  intro i;simp only[ni,tmps,Array.getD_eq_getD_getElem?,Array.getElem?_append];by_cases h:i<vs.size
  ·simp[h]
  ·simp[h,Array.getElem?_replicate];split<;>rfl
 have hinv:Inv w l0 G0 S0 w l0 own0 S0 (sM (Uk 0 ds) (uw 0 hs)) (ni tmps):=by
  refine⟨⟨rfl,hT⟩,rfl,rfl,fS _,λ_ _ _=>rfl,hG,hl0,λ_ _ _=>rfl,λ_ _ _=>rfl,?_,?_⟩
  ·intro s;show aM _ _ (look (Uk 0 ds) s);rw[Q2,htm];simp only[Nat.zero_le,if_true,Nat.sub_zero];by_cases h:s<ds.length
   ·have e:ds.getD s .undef=ds[s]:=by simp[getD,h]
    have e2:vs.getD s Go.undef=vs[s]:=by simp[Array.getD,show s<vs.size by omega]
    rw[e,e2];exact hr s _ _ (by simp[show s<vs.size by omega]) (fj h)
   ·have e:ds.getD s .undef=.undef:=by simp[getD,h]
    rw[e];exact .undef _
  ·intro r;show nj _ _ _ _ _ _ r (look (uw 0 hs) r);rw[o7];simp only[Nat.zero_le,if_true,Nat.sub_zero];exact hobj r
 have htmn:tmps.size=fn.ntmps:=by simp[tmps];omega
 refine calls_of_wp hf hb ?_;refine Wy hm c g _ _ l0 own0 S0 w ⟨tmps,[]⟩ hinv htmn rfl ?_ hw;have fin:∀(e':Env) lev' own' S' w' (a':Act),a'.tmps.size=fn.ntmps->a'.defers=[]->Inv w l0 G0 S0 w' lev' own' S' e' (ni a'.tmps)->Rp P fn.results.toList hs.length Φ e' ->
   a'.defers=[]/\∃v,(results fn a'.tmps).run P w'=.ok v w'/\∃v' hs' d,Φ hs' d/\Ending.returned v=.returned v'/\Out hs.length hs' w l0 G0 S0 w' v' d:=by
  intro e' lev' own' S' w' a' hn' hd' hi ⟨hs',d,hΦ,hok,hle⟩;refine⟨hd',?_⟩;have hres:∀(rs:List ResultVar),Bm P e' rs->∀acc:Array Value,∃us:List Value,
    (rs.foldlM (λ(acc:Array Value) r=>do pure (acc.push (<-(match r with| .tmp t=>pure (a'.tmps.getD t Go.undef)| .cell a t=>do loadVar t (<-asAddr (a'.tmps.getD a Go.undef)):Sem Value)))) acc:Sem (Array Value)).run P w'=.ok (acc++us.toArray) w' /\
    us.length=rs.length/\∀(i:Nat) u r,us[i]?=some u->rs[i]?=some r->aM (cx w' lev' S') u (IC P e' r):=by
   intro rs;induction rs with
   |nil=>intro _ acc;exact⟨[],by simp[Sem.run,pure],rfl,by intro i u r h;simp at h⟩
   |cons r rs ih =>
    intro hok acc;obtain⟨v,hv,hrep⟩:=abw hi r hok.1;obtain⟨us,h1,h2,h3⟩:=ih hok.2 (acc.push v);refine⟨v::us,?_,by simp[h2],?_⟩
    ·rw[foldlM_cons];simp only[Sem.run_bind,hv,Result.andThen_ok];have:(pure (acc.push v):Sem (Array Value)).run P w'=.ok (acc.push v) w':=rfl;rw[this];simp only[Result.andThen_ok];rw[h1];simp
    ·intro i u r' hu hr';cases i with
     |zero=>simp at hu hr';subst hu;subst hr';exact hrep
     |succ i=>simp at hu hr';exact h3 i u r' hu hr'
  obtain⟨us,hrun,hul,hrep⟩:=hres fn.results.toList hok #[];have hrun':(results fn a'.tmps).run P w'=.ok (if h:us.toArray.size=1 then us.toArray[0]else .tuple us.toArray) w':=by
   unfold results;rw[Array.mapM_eq_foldlM];rw[<-Array.foldlM_toList];simp only[Sem.run_bind];have:(fn.results.toList.foldlM (λ(acc:Array Value) r=>do pure (acc.push (<-(match r with| .tmp t=>pure (a'.tmps.getD t Go.undef)| .cell a t=>do loadVar t (<-asAddr (a'.tmps.getD a Go.undef)):Sem Value)))) #[]:Sem (Array Value)).run P w'=.ok (#[]++us.toArray) w':=hrun;simp only[Array.empty_append]at this;have h2:=this;simp only[bind_pure_comp]at h2 |-;exact congrArg (λr=>Result.andThen r λ(a:Array Value) w'=>Sem.run P (pure (if h:a.size=1 then a[0]else Value.tuple a)) w') h2
  refine⟨_,hrun',_,hs',d,hΦ,rfl,?_⟩;have hrd:aM (cx w' lev' S') (if h:us.toArray.size=1 then us.toArray[0]else .tuple us.toArray) (J6 P e' fn.results.toList):=by
   rcases Classical.em (∃r,fn.results.toList=[r])with⟨r,hrs⟩|hne
   ·rw[hrs]at hul hrep |-;obtain⟨u,rfl⟩:=length_eq_one_iff.1 hul;simpa[J6]using hrep 0 u r rfl rfl
   ·have hrd:J6 P e' fn.results.toList=.bI (fn.results.toList.map (IC P e')):=by
     unfold J6;split
     ·rename_i r hrs;exact(hne ⟨r,hrs⟩).elim
     ·rfl
    rw[hrd];have hsz:us.toArray.size≠1:=by
     intro h;have h1:fn.results.toList.length=1:=by rw[<-hul];simpa using h
     match hx:fn.results.toList,h1 with
     | [r],_=>exact hne ⟨r,hx⟩
    rw[dif_neg hsz];refine .bI _ _ (by simp[hul]) ?_;intro i v x hv hx;simp only[getElem?_map]at hx;cases hri:fn.results.toList[i]? with
    |none=>rw[hri]at hx;cases hx
    |some r =>
     rw[hri]at hx;cases hx;exact hrep i v r (by simpa using hv) hri
  generalize (if h:us.toArray.size=1 then us.toArray[0]else .tuple us.toArray)=rv at hrd;have hret:Inv w l0 G0 S0 w' lev' own' S' (Bn (J6 P e' fn.results.toList) e') (λj=>if j=0 then rv else Go.undef):=by
   refine⟨hi.os,hi.tape,hi.output,hi.size,hi.old,hi.part,hi.priv,hi.kR,hi.RI,?_,hi.objs⟩;intro s;simp only[Bn];split
   ·exact hrd
   ·exact .undef _
  obtain⟨rh,hle'⟩:=WZ.le hle;obtain⟨own2,S2,h2ent,h2temps,h2objs⟩:=hret.akH h16 hle';refine⟨hi.os.1,hi.tape,hi.output,hi.size,λb hb hg=>hi.old b hb hg,hi.part,lev',own2,S2,hi.priv,λb hb hg=>hi.kR b hb hg,?_,?_,?_⟩
  ·have:=h2temps 0;simpa[sM,look]using this
  ·intro r;have:=h2objs r;have e:(sM [(0,d)] (uw 0 hs')).o r=hs'.getD r .undef:=by
    show look (uw 0 hs') r=_;rw[o7];simp
   rw[e]at this;exact this
  ·intro i hi' hne;refine h2ent i (by omega) ?_;show look (uw 0 hs') i≠.undef;rw[o7];simpa using hne
 intro x;cases x with
 |normal=>intro e' lev' own' S' w' a' hn' hd' hi hK;exact fin e' lev' own' S' w' a' hn' hd' hi (hQ _ _ hK)
 |ret=>intro e' lev' own' S' w' a' hn' hd' hi hK;exact fin e' lev' own' S' w' a' hn' hd' hi (hQ _ _ hK)
 | _=>intro e' lev' own' S' w' a' hn' hd' hi hK;exact(hQ _ _ hK).elim
def BN.spec(h:BN P f hs ds λa b=>a=hs'/\b=d):Spec P f hs ds hs' d:=by
 refine⟨h.1,?_⟩;intro w l0 j i S0 vs k l m o p q;refine(h.2 w l0 j i S0 vs k l m o p q).mono ?_;rintro e w' ⟨v,_,_,⟨rfl,rfl⟩,he,ho⟩;exact⟨v,he,ho⟩
def Spec.toE(h:Spec P f hs ds hs' d)(p:Φ hs' d):BN P f hs ds Φ:=by
 refine⟨h.1,?_⟩;intro w l0 b a S0 vs i j k l m o;refine(h.2 w l0 b a S0 vs i j k l m o).mono ?_;rintro e w' ⟨v,he,ho⟩;exact⟨v,hs',d,p,he,ho⟩
def Spec.of_wp (hm : P.follows .mixedOrders = true) {f : FuncId} {fn : Func} {c : Code} (hf : P.funcs[f]? = some fn) (hb : fn.body = some c) (hname : (fn.name == "runtime.NumGoroutine") = false) {hs ds hs' : List D} {d : D}
  (hlen:ds.length<=fn.ntmps) (h16:hs.length<=16) (hw:nQ P fn.ntmps ds.length c (SE P fn.results.toList hs.length hs' d) (sM (Uk 0 ds) (uw 0 hs))):Spec P f hs ds hs' d:=
 BN.spec (BN.of_wp hm hf hb hname V1 hlen h16 hw)
def Spec.CW (hm : P.follows .mixedOrders = true) {n np : Nat} (hf : P.funcs[f]? = some fn) (hb : fn.body = some c) (hr : fn.results.toList = rs) (hn : fn.ntmps = n) (hname : (fn.name == "runtime.NumGoroutine") = false)
  (hnp:ds.length=np) (hlen:np<=n) (h16:hs.length<=16) (hw:nQ P n np c (SE P rs hs.length hs' d) (sM (Uk 0 ds) (uw 0 hs))):Abs.Spec P f hs ds hs' d:=by
 subst hr;subst hn;subst hnp;exact Spec.of_wp hm hf hb hname hlen h16 hw
def bp(n np:Nat)(rs:List ResultVar)(hm:P.follows .mixedOrders=true)(hf:P.funcs[f]?=some fn)(hw:nQ P n np c (SE P rs hs.length hs' d) (sM (Uk 0 ds) (uw 0 hs)))
  (hb : fn.body = some c := by exact rfl) (hr : fn.results.toList = rs := by exact rfl) (hn : fn.ntmps = n := by exact rfl) (hname : (fn.name == "runtime.NumGoroutine") = false := by exact rfl) (hnp : ds.length = np := by exact rfl) (hlen : np <= n := by simp) (h16 : hs.length <= 16 := by simp) : Abs.Spec P f hs ds hs' d :=
 Spec.CW hm hf hb hr hn hname hnp hlen h16 hw
end
end Go.Abs
namespace Go.Abs
variable{K:Env->Prop}{T:Type}{Q a:Exit->Env->Prop}{b:Nat}
section
variable{P:Program}{n np:Nat}{e:Env}{K K':Env->Prop}
theorem EV(ops:List Oper):∀(l:List Oper) {e:Env} {K K':Env->Prop},(∀e,K e->K' e)->wpList P n ops l e K->wpList P n ops l e K'
 | [],e,K,K',h,hk=>h _ hk
 |o::r,e,K,K',h,hk=>by
  simp only[wpList,wpOp]at hk |-;cases c:tE ops e o.guard with
  |none=>rw[c]at hk;exact hk.elim
  |some g=>rw[c]at hk;exact tV (λe d=>EV ops r h d) hk
theorem kX(ops:List Oper):∀(l:List Oper) {e:Env} {K K':Env->Prop},(∀e,K e->K' e)->pO P n np ops l e K->pO P n np ops l e K'
 | [],e,K,K',h,hk=>h _ hk
 |o::r,e,K,K',h,hk=>by
  simp only[pO,gh]at hk |-;cases k:tE ops e o.guard with
  |none=>rw[k]at hk;exact hk.elim
  |some g =>
   rw[k]at hk;simp only at hk |-;split at hk
   ·rename_i j;rw[aq j];exact IY (λe c=>kX ops r h c) hk
   rename_i j;rw[au j];split at hk
   ·rename_i i;rw[aq i];split at hk
    ·rename_i f;rw[aq f];split at hk
     ·rename_i d;rw[aq d];exact tV (λe c=>kX ops r h c) hk
     ·rename_i d;rw[au d];exact⟨Dt (λe c=>kX ops r h c) hk.1,hk.2⟩
    ·rename_i f;rw[au f];split at hk
     ·rename_i d;rw[aq d];exact Lz (λe c=>kX ops r h c) hk
     ·rename_i d;rw[au d];exact tV (λe c=>kX ops r h c) hk
   ·rename_i i;rw[au i];exact⟨⟨hk.1.1,tV (λe c=>kX ops r h c) hk.1.2⟩,hk.2⟩
def Rq(h:∀e,K e->K' e)(c:gf K e):gf K' e:=by
 rcases c with c| ⟨ts,os,hl,c⟩
 ·exact .inl (h _ c)
 ·exact .inr ⟨ts,os,hl,h _ c⟩
theorem ZA:∀(c:Code) {e:Env} {Q i:Exit->Env->Prop},(∀x e,Q x e->i x e)->nQ P n np c Q e->nQ P n np c i e:=by
 intro c;induction c with
 |skip=>intro e Q i h d;exact h _ _ d
 |region id ops k =>
  intro e Q i h d;unfold nQ at d |-;cases k with
  |false=>simp only[Bool.false_eq_true,if_false]at d |-;exact EV _ _ (h _) d
  |true=>simp only[if_true]at d |-;exact⟨d.1,kX _ _ (h _) d.2⟩
 |seq a b iha ihb =>
  intro e Q i h d;refine iha ?_ d;intro x e g;cases x<;>try exact h _ _ g
  simp only[wE]at g |-
  by_cases o:MD a=true
  ·rw[aq o]at g |-;exact Rq (λe u=>ihb h u) g
  ·rw[au o]at g |-;exact ihb h g
 |cond c a b iha ihb =>
  intro e Q i h d;unfold nQ at d |-;split at d
  ·exact⟨λt=>iha h (d.1 t),λt=>ihb h (d.2 t)⟩
  ·exact d.elim
 |block id a ih =>
  intro e Q i h d;refine ih ?_ d;intro x e g;cases x<;>try exact h _ _ g
  simp only[rP]at g |-;split
  ·rename_i j;rw[aq j]at g;exact h _ _ g
  ·rename_i j;rw[au j]at g;exact h _ _ g
 |loop a ih =>
  intro e Q i h d;obtain⟨T,ts,os,I,m,s0,p,q,r⟩:=d;refine⟨T,ts,os,I,m,s0,p,q,λs v=>ih ?_ (r s v)⟩;intro x e g;cases x<;>first|exact g|exact h _ _ g
 |exit id=>intro e Q i h d;exact h _ _ d
 |ret=>intro e Q i h d;exact h _ _ d
 |rangeFunc f ps x y ih1 ih2=>intro e Q i h d;exact d.elim
 |scope x ih=>intro e Q i h d;exact d.elim
 |label l=>intro e Q i h d;exact d.elim
 |goto l=>intro e Q i h d;exact d.elim
 |refuse s=>intro e Q i h d;exact d.elim

def N4{T:Type}(ts os:T->EL)(I:T->Prop)(e:Env):Prop:=∃s,I s/\Jr e (ts s) (os s)
def N4.weak{ts os:T->EL}{I:T->Prop}(h:∀s,I s->K (sM (ts s) (os s)))(e:Env)(c:N4 ts os I e):gf K e:=by
 obtain⟨s,f,d⟩:=c;exact .inr ⟨ts s,os s,d,h s f⟩
def aF.mono{b:Code}(h:∀x e,Q x e->a x e)(i:aF (nQ P n np b) Q e):aF (nQ P n np b) a e:=by
 obtain⟨T,ts,os,I,m,s0,d,f,g⟩:=i;refine⟨T,ts,os,I,m,s0,d,f,λs j=>ZA b ?_ (g s j)⟩;intro x e c;cases x<;>first|exact c|exact h _ _ c
def aal{c:Code}(ts os:T->EL)(I:T->Prop)(rest:∀s,I s->K (sM (ts s) (os s)))(i:aF (nQ P n np c) (rP b (wE (N4 ts os I) Q)) e):aF (nQ P n np c) (rP b (wE (gf K) Q)) e:=by
 refine aF.mono ?_ i;intro x e f;have g:wE (N4 ts os I) Q .normal e->wE (gf K) Q .normal e:=λh=>N4.weak rest e h;cases x<;>try exact f
 ·exact g f
 ·simp only[rP]at f |-;split
  ·rename_i d;rw[aq d]at f;exact g f
  ·rename_i d;rw[au d]at f;exact f
end
end Go.Abs
namespace Go.Abs

variable(b w p a:Bool){α:Type}(n r z i k f N d m z' sz off by_ z2 b2 r' q:Nat){v' x' y' a' lo' ob' fv' fv:D}{np G:Nat}{b' g j:Bool}{A:Prop}(S:Prop)(o:Oper)(ops:List Oper)(op:Op)(dst:Option Tmp)(gu:Option (Nat×Bool))(s:ByteArray)(cs hs' ds zc:List D)(rows rows2:List (List D))(x y c:Operand)(t T2:TypeId)(h:UnOp)(C:BinOp){F:Option Nat}(T:Array TypeId)(Q:Exit->Env->Prop)(os:Array Oper){e e':Env}{H:Code}(K:Env->Prop)(rs:List ResultVar)(Φ:List D->D->Prop){I:Option Bool}{J:Option Tmp}{L U:List Nat}(args:Array Operand)(ob:D)(fs:List FT){t' Z t2':Ty}{l':Option EX}(l:EX){hi' hi:Option D}(M:Array (Nat×Operand))(ps:List (Nat×D)){O:Option (List D)}{as as':List D}{R:List (Nat×Nat×D)}(W:IntKind){X Y:Option (List (List D))}(g9:Ty)(i7:Option Operand)
section
variable{P:Program}{n np:Nat}{ops:List Oper}{e:Env}{g dr:Bool}{K:Env->Prop}{ty:TypeId}{pos:String}{after:Array Edge}{gu:Option (Nat×Bool)}{d:Nat}

def bm(b:Bool):Bool:=b
def em(e:Env):Env:=e
def dm(d:D):D:=d
def lm{α:Type}(l:List α):List α:=l
def nk(n:Nat):Nat:=n
theorem aqt:bm b=b:=Eq.trans rfl rfl
theorem aqA(e:Env):em e=e:=Eq.trans rfl rfl
theorem aqz(d:D):dm d=d:=Eq.trans rfl rfl
theorem ard(l:List α):lm l=l:=Eq.trans rfl rfl
theorem ark:nk n=n:=Eq.trans rfl rfl
@[congr] theorem ad3{v:D}{k:D->Prop}(h:True->v=v'):Norm v k=Norm v' k:=by rw[h trivial]
theorem aml(v:D)(k:D->Prop):Norm v k=k v:=rfl
def yd(r:Nat)(k:Nat->Prop):Prop:=k r
@[congr] theorem acm{v:Nat}{k:Nat->Prop}(h:True->v=np):yd v k=yd np k:=by rw[h trivial]
theorem ajw(v:Nat)(k:Nat->Prop):yd v k=k v:=rfl

def uK(e:Env)(d:Nat)(K:Env->Prop)(u:D):Prop:=K (ck e d u)
def lK(P:Program)(n:Nat)(ops r:List Oper)(K:Env->Prop)(e:Env):Prop:=wpList P n ops r e K
def lKD(P:Program)(n np:Nat)(ops r:List Oper)(K:Env->Prop)(e:Env):Prop:=pO P n np ops r e K
def oK(P:Program)(n:Nat)(o:Oper)(e:Env)(K:Env->Prop)(g:Bool):Prop:=l9 P n false o e g K
def HD(b:Bool)(x y:Prop):Prop:=if b then x else y
@[congr] theorem ajr{b:Bool}{x:Prop}(h:True->b=b'):HD b x A=HD b' x A:=by rw[h trivial]
theorem amj(x:Prop):HD true x S=x:=by simp[HD]
def ajs(x:Prop):HD false x S=S:=by simp[HD]
attribute [go_sem] aqt aqA aqz ard ark aml ajw
attribute [go_sem ↓] amj ajs
attribute [go_sem] XV hard isApp sl1 alF EP Hp rU H6 Fi Fj af4 oT isT afB aej ac3 Zc lC Option.isSome_some Option.isSome_none Option.isNone_some Option.isNone_none
theorem alE(t:Nat):Y7 t []=false:=rfl
theorem aiS(t:Nat)(r:List Oper):Y7 t (o::r)=((sl1 o.op&&o.dst==some t)||Y7 t r):=rfl
theorem aif(t:Nat):Pu t []=false:=rfl
theorem afC(t:Nat)(r:List Oper):Pu t (o::r)=((afB o.op&&(o.guard.isNone&&o.dst==some t))||Pu t r):=rfl
theorem ag5(t:Nat):Ob t []=false:=rfl
theorem aek(t:Nat)(r:List Oper):Ob t (o::r)=(aej t o.op||Ob t r):=rfl
theorem alM(a b:Nat):(some a==some b)=(a==b):=rfl
theorem akS(b:Nat):((none:Option Nat)==some b)=false:=rfl
attribute [go_sem] alE aiS aif afC ag5 aek alM akS
attribute [go_sem] Pk aaP FC
theorem alV:Zv ops []=false:=rfl
theorem aja(r:List Oper):Zv ops (o::r)=((isApp o&&(!lC ops o&&frE r))||Zv ops r):=rfl
theorem amH:frE []=false:=rfl
theorem aj7(r:List Oper):frE (⟨dst,op,ty,pos,#[],gu⟩::r)=true:=rfl
theorem ahz(r:List Oper)(x)(l):frE (⟨dst,op,ty,pos,List.toArray (x::l),gu⟩::r)=frE r:=rfl
theorem anY(k:IntKind)(m:Int):Di (.int k m)=true:=rfl
theorem alR:Di (.bool b)=true:=rfl
theorem an1:Di (.str s)=true:=rfl
theorem anZ:Di .nil=true:=rfl
theorem an0:Di (.ref r)=true:=rfl
theorem alQ(o:Nat):Di (.addr r o)=true:=rfl
theorem ai8:Di (.cw r z i k)=true:=rfl
theorem ai7:Di (.bE cs)=true:=rfl
theorem apH:Di (.sl z rows)=true:=rfl
theorem alO:NP (.box [])=true:=rfl
theorem ai4(c:D):NP (.box (c::cs))=(Di c&&NP (.box cs)):=rfl
theorem ai5(o:Nat):Wl e (.addr r o)=NP (e.o r):=rfl
theorem alP:FB e []=true:=rfl
theorem ai6(p:Nat×Operand)(r:List (Nat×Operand)):FB e (p::r)=(Di (rd e p.2)&&FB e r):=rfl
theorem aeu:mq e (.move x)=(Di (rd e x)=true):=rfl
theorem WG:mq e (.fieldAddr t x f)=(Di (rd e x)=true):=rfl
theorem aet:mq e (.load t x)=(Wl e (rd e x)=true):=rfl
theorem aev:mq e (.unOp h t x)=(Di (rd e x)=true):=rfl
theorem acz:mq e (.binOp C t x y T2)=(Di (rd e x)=true/\Di (rd e y)=true):=rfl
theorem UH(len:Nat)(ps:Array (Nat×Operand)):mq e (.buildSlice t len ps)=(FB e ps.toList=true):=rfl
def avK(e:Env)(v:D)(N:Nat):Prop:=HP (e.o N)=true/\Li N v=true
theorem aoB(v:D):avK e v N=(HP (e.o N)=true/\Li N v=true):=rfl
def Xl(e:Env)(v:D)(b:Bool)(d:Option Nat):Prop:=
 match b,d with
 |true,some d=>yd (nm d 0) (avK e v)
 | _,_=>True
theorem ag3(v:D):Xl e v true (some d)=yd (nm d 0) (avK e v):=rfl
def aei(v:D)(d:Option Nat):Xl e v false d=True:=by cases d<;>rfl
@[congr] theorem aeh{v:D}{b:Bool}{d:Option Nat}(u:True->v=v')(B:True->b=b')(E:True->d=F):Xl e v b d=Xl e v' b' F:=by rw[u trivial,B trivial,E trivial]
@[congr] theorem ag4{v:D}{l:List Oper}(h:True->v=v'):Rs e v l=Rs e v' l:=by rw[h trivial]
theorem ams(v:D):Rs e v []=True:=rfl
def ajJ(v:D)(l:List Oper):Rs e v (o::l)=(Xl e v (aaP o.op) o.dst/\Rs e v l):=by
 rw[Rs];congr 1
theorem afT:HP .undef=true:=rfl
theorem akW:HP (.own z rows)=true:=rfl
theorem ais:Li N (.ref r) = !(r==N):=rfl
theorem acI:E9 e (.call ⟨.builtin .append,#[x,y],T⟩)=rd e x:=rfl
def oKD(P:Program)(n np:Nat)(ops:List Oper)(o:Oper)(e:Env)(K:Env->Prop)(g:Bool):Prop:=HD (lC ops o) (qn P n np ops o e K) (HD (oT o) (HD (isApp o) (HD (EP ops o.op) (l9 P n false o e g K) (qo P n o e g K/\apU ops o e)) (HD (rU o) (Af P n np ops o e g K) (l9 P n false o e g K))) (N3 P n np ops o e g K/\Eo ops o e))
theorem arS(u:D):uK e d K u=K (ck e d u):=rfl
theorem aqH(r:List Oper):lK P n ops r K e=wpList P n ops r e K:=rfl
theorem ao3(r:List Oper):lKD P n np ops r K e=pO P n np ops r e K:=rfl
theorem aro:oK P n o e K g=l9 P n false o e g K:=rfl
def Xk(o:Oper):(qo P n o e g K/\apU ops o e)=HD (FC ops) (Rs e (E9 e o.op) ops/\qo P n o e g K) (qo P n o e g K):=by
 unfold apU HD;cases FC ops<;>simp[and_comm]
def apq(p:Nat×Bool):oKD P n np ops ⟨dst,op,ty,pos,after,some p⟩ e K g=HD (lC ops ⟨dst,op,ty,pos,after,some p⟩) (qn P n np ops ⟨dst,op,ty,pos,after,some p⟩ e K) (HD (oT ⟨dst,op,ty,pos,after,some p⟩) (HD (isApp ⟨dst,op,ty,pos,after,some p⟩) (HD (EP ops op) (l9 P n false ⟨dst,op,ty,pos,after,some p⟩ e g K) (HD (FC ops) (Rs e (E9 e op) ops/\qo P n ⟨dst,op,ty,pos,after,some p⟩ e g K) (qo P n ⟨dst,op,ty,pos,after,some p⟩ e g K))) (HD (rU ⟨dst,op,ty,pos,after,some p⟩) (Af P n np ops ⟨dst,op,ty,pos,after,some p⟩ e g K) (l9 P n false ⟨dst,op,ty,pos,after,some p⟩ e g K))) (N3 P n np ops ⟨dst,op,ty,pos,after,some p⟩ e g K)):=by
 unfold oKD;rw[Xk];have:Eo ops ⟨dst,op,ty,pos,after,some p⟩ e=True:=eq_true λ_ h=>by cases h
 rw[this,and_true]

def bS(P:Program)(n np:Nat)(a b:Code)(Q:Exit->Env->Prop)(e:Env)(v:D):Prop:=match v with
 | .bool t=>Tc t (nQ P n np a Q e) (nQ P n np b Q e)
 | _=>False
@[congr] theorem acd{a b:Code}{Q:Exit->Env->Prop}{v:D}(h:True->v=v'):bS P n np a b Q e v=bS P n np a b Q e v':=by rw[h trivial]
theorem adU(a b:Code):bS P n np a b Q e (.bool true)=nQ P n np a Q e:=by simp[bS,Tc]
def ace(a b:Code):bS P n np a b Q e (.bool false)=nQ P n np b Q e:=by simp[bS,Tc]
def bS.split{t:Bool}{a b:Code}{Q:Exit->Env->Prop}(u:t=true->nQ P n np a Q e)(v:t=false->nQ P n np b Q e):bS P n np a b Q e (.bool t):=⟨u,v⟩
def bS.lQ{t:Bool}{a b:Code}{Q:Exit->Env->Prop}(u:t=false->nQ P n np a Q e)(v:t=true->nQ P n np b Q e):bS P n np a b Q e (.bool (!t)):=⟨λh=>u (by simpa using h),λh=>v (by simpa using h)⟩
theorem al5:nQ P n np .skip Q e=Q .normal e:=rfl
def adE:nQ P n np (.region r os false) Q e=wpList P n os.toList os.toList e (Q .normal):=by simp[nQ]
def gT(np:Nat)(os:Array Oper):Prop:=acf np os
@[congr] theorem acg{m:Nat}{os:Array Oper}(h:True->m=np):gT m os=gT np os:=by rw[h trivial]
theorem gT.mk{os:Array Oper}(h:AU np os=true):gT np os:=h
def adF:nQ P n np (.region r os true) Q e=(gT (nk np) os/\pO P n np os.toList os.toList e (Q .normal)):=by simp[nQ,gT,nk]
def QD(P:Program)(n np:Nat)(b:Code)(Q:Exit->Env->Prop)(j:Bool):Env->Prop:=if j then gf (nQ P n np b Q)else nQ P n np b Q
theorem an6(a b:Code):nQ P n np (.seq a b) Q e=nQ P n np a (wE (QD P n np b Q (MD a)) Q) e:=rfl
def SI(P:Program)(n np:Nat)(b:Code)(Q:Exit->Env->Prop)(e:Env)(j:Bool):Prop:=QD P n np b Q j e
@[congr] theorem age{b:Code}{Q:Exit->Env->Prop}(h:True->j=g):SI P n np b Q e j=SI P n np b Q e g:=by rw[h trivial]
theorem anR(b:Code)(j:Bool):QD P n np b Q j e=SI P n np b Q e j:=rfl
def aea(b:Code):SI P n np b Q e true=gf (nQ P n np b Q) (em e):=by simp[SI,QD,em]
def acr(b:Code):SI P n np b Q e false=nQ P n np b Q e:=by simp[SI,QD]
@[congr] theorem acq{K:Env->Prop}(h:True->e=e'):gf K e=gf K e':=by rw[h trivial]
theorem gf.id(h:K e):gf K e:=.inl h
def gf.le(ts os:EL)(h:Jr e ts os)(u:K (sM ts os)):gf K e:=.inr ⟨ts,os,h,u⟩
attribute [go_sem] alV aja amH aj7 ahz anY alR an1 anZ an0 alQ ai8 ai7 apH alO ai4 ai5 alP ai6 ams ajJ afT akW ais adU ace
attribute [go_sem ↓] aeu WG aet aev acz UH aoB ag3 aei acI arS aqH ao3 aro apq al5 adE adF an6 anR aea acr
attribute [go_sem] falls MD
@[congr] theorem adV{T:Type}{ts os:T->EL}{I:T->Prop}(h:True->e=e'):N4 ts os I e=N4 ts os I e':=by rw[h trivial]
theorem OC{b c:Code}{Q:Exit->Env->Prop}{T:Type}(ts os:T->EL)(I:T->Prop)(u:j=true)(rest:∀s,I s->nQ P n np b Q (sM (ts s) (os s)))(v:aF (nQ P n np c) (rP G (wE (N4 ts os I) Q)) e) :
  aF (nQ P n np c) (rP G (wE (QD P n np b Q j) Q)) e:=by
 have:QD P n np b Q j=gf (nQ P n np b Q):=by simp[QD,u]
 rw[this];exact aal ts os I rest v
theorem al2(a b:Code):nQ P n np (.cond c a b) Q e=bS P n np a b Q e (dm (rd e c)):=rfl
theorem ajf(a:Code):nQ P n np (.block r a) Q e=nQ P n np a (rP r Q) e:=rfl
theorem al4(a:Code):nQ P n np (.loop a) Q e=aF (nQ P n np a) Q (em e):=rfl
@[congr] theorem ack{b:(Exit->Env->Prop)->Env->Prop}{Q:Exit->Env->Prop}(h:True->e=e'):aF b Q e=aF b Q e':=by rw[h trivial]
theorem al3:nQ P n np (.exit r) Q e=Q (.exit r) e:=rfl
theorem an5:nQ P n np .ret Q e=Q .ret e:=rfl
theorem abT:wE K Q .normal e=K e:=rfl
theorem ags:wE K Q (.exit r) e=Q (.exit r) e:=rfl
theorem ai9:wE K Q .ret e=Q .ret e:=rfl
theorem ZC:rP r Q .normal e=Q .normal e:=rfl
theorem acy:rP r Q (.exit z) e=if z=r then Q .normal e else Q (.exit z) e:=rfl
theorem aer:rP r Q .ret e=Q .ret e:=rfl
theorem ads(v:D):SE P rs m hs' v .normal e=Rn P rs m hs' v e:=rfl
theorem als(v:D):SE P rs m hs' v .ret e=Rn P rs m hs' v e:=rfl
theorem adt{T:Type}(ts os:T->EL)(I:T->Prop)(m:T->Nat)(s:T):mJ ts os I m s Q (.exit r) e=Q (.exit r) e:=rfl
theorem agd{T:Type}(ts os:T->EL)(I:T->Prop)(m:T->Nat)(s:T):mJ ts os I m s Q .ret e=Q .ret e:=rfl
theorem ZR{T:Type}(ts os:T->EL)(I:T->Prop)(m:T->Nat)(s:T):mJ ts os I m s Q .normal e=ah ts os I m s (em e):=rfl
@[congr] theorem ad5{rs:List ResultVar}{m:Nat}{Φ:List D->D->Prop}(h:True->e=e'):Rp P rs m Φ e=Rp P rs m Φ e':=by rw[h trivial]
theorem Rp.mk{rs:List ResultVar}{m:Nat}{Φ:List D->D->Prop}(hs':List D)(d:D)(u:Φ hs' d)(h:Rn P rs m hs' d e):Rp P rs m Φ e:=⟨hs',d,u,h⟩
@[congr] theorem Z3{T:Type}{ts os:T->EL}{I:T->Prop}{m:T->Nat}{s:T}(h:True->e=e'):ah ts os I m s e=ah ts os I m s e':=by rw[h trivial]

theorem wpList_nil:wpList P n ops [] e K=K e:=rfl
theorem adH(r:List Oper):wpList P n ops (o::r) e K=wpOp P n ops o e (lK P n ops r K):=rfl
theorem adG:pO P n np ops [] e K=K e:=rfl
theorem ab4(r:List Oper):pO P n np ops (o::r) e K=gh P n np ops o e (lKD P n np ops r K):=rfl
theorem agu(l:List α):l.toArray.toList=l:=rfl
def cE(o:Option Bool)(k:Bool->Prop):Prop:=match o with
 |some g=>k g
 |none=>False
@[congr] theorem ZX{o:Option Bool}{k:Bool->Prop}(h:True->o=I):cE o k=cE I k:=by rw[h trivial]
theorem aci(k:Bool->Prop):cE (some true) k=k true:=rfl
theorem ZY(k:Bool->Prop):cE (some false) k=k false:=rfl
theorem cE.split{k:Bool->Prop}(u:g=true->k true)(v:g=false->k false):cE (some g) k:=by
 cases g with
 |true=>exact u rfl
 |false=>exact v rfl
theorem cE.lQ{b:Bool}{k:Bool->Prop}(u:b=false->k true)(v:b=true->k false):cE (some (!b)) k:=by
 cases b with
 |true=>exact v rfl
 |false=>exact u rfl
theorem ajg:wpOp P n ops ⟨dst,op,ty,pos,after,none⟩ e K=l9 P n false ⟨dst,op,ty,pos,after,none⟩ e true K:=rfl
theorem ajh(p:Nat×Bool):wpOp P n ops ⟨dst,op,ty,pos,after,some p⟩ e K=cE (tE ops e (some p)) (oK P n ⟨dst,op,ty,pos,after,some p⟩ e K):=rfl
def agC:gh P n np ops ⟨dst,op,ty,pos,after,none⟩ e K=HD (lC ops ⟨dst,op,ty,pos,after,none⟩) (qn P n np ops ⟨dst,op,ty,pos,after,none⟩ e K) (HD (oT ⟨dst,op,ty,pos,after,none⟩) (HD (isApp ⟨dst,op,ty,pos,after,none⟩) (HD (EP ops op) (l9 P n false ⟨dst,op,ty,pos,after,none⟩ e true K) (HD (FC ops) (Rs e (E9 e op) ops/\qo P n ⟨dst,op,ty,pos,after,none⟩ e true K) (qo P n ⟨dst,op,ty,pos,after,none⟩ e true K))) (HD (rU ⟨dst,op,ty,pos,after,none⟩) (Af P n np ops ⟨dst,op,ty,pos,after,none⟩ e true K) (l9 P n false ⟨dst,op,ty,pos,after,none⟩ e true K))) (HD (Pk op) (HD (FC ops) (mq e op/\N3 P n np ops ⟨dst,op,ty,pos,after,none⟩ e true K) (N3 P n np ops ⟨dst,op,ty,pos,after,none⟩ e true K)) (N3 P n np ops ⟨dst,op,ty,pos,after,none⟩ e true K))):=by
 have u:gh P n np ops ⟨dst,op,ty,pos,after,none⟩ e K=HD (lC ops ⟨dst,op,ty,pos,after,none⟩) (qn P n np ops ⟨dst,op,ty,pos,after,none⟩ e K) (HD (oT ⟨dst,op,ty,pos,after,none⟩) (HD (isApp ⟨dst,op,ty,pos,after,none⟩) (HD (EP ops op) (l9 P n false ⟨dst,op,ty,pos,after,none⟩ e true K) (qo P n ⟨dst,op,ty,pos,after,none⟩ e true K/\apU ops ⟨dst,op,ty,pos,after,none⟩ e)) (HD (rU ⟨dst,op,ty,pos,after,none⟩) (Af P n np ops ⟨dst,op,ty,pos,after,none⟩ e true K) (l9 P n false ⟨dst,op,ty,pos,after,none⟩ e true K))) (N3 P n np ops ⟨dst,op,ty,pos,after,none⟩ e true K/\Eo ops ⟨dst,op,ty,pos,after,none⟩ e)):=rfl;have v:(N3 P n np ops ⟨dst,op,ty,pos,after,none⟩ e true K/\Eo ops ⟨dst,op,ty,pos,after,none⟩ e)=HD (Pk op) (HD (FC ops) (mq e op/\N3 P n np ops ⟨dst,op,ty,pos,after,none⟩ e true K) (N3 P n np ops ⟨dst,op,ty,pos,after,none⟩ e true K)) (N3 P n np ops ⟨dst,op,ty,pos,after,none⟩ e true K):=by
  unfold Eo HD;cases B:Pk op
  ·have:mq e op=True:=by cases op<;>first|rfl|cases B
   simp[this]
  ·cases FC ops<;>simp[and_comm]
 rw[u,Xk,v]
theorem agD(p:Nat×Bool):gh P n np ops ⟨dst,op,ty,pos,after,some p⟩ e K=cE (tE ops e (some p)) (oKD P n np ops ⟨dst,op,ty,pos,after,some p⟩ e K):=rfl
def Tz(o:Option Tmp)(e:Env)(w:Bool):Option Bool:=match o with
 |some t=>L0 w (rd e (.tmp t))
 |none=>some false
@[congr] theorem acJ{o:Option Tmp}{w:Bool}(h:True->o=J):Tz o e w=Tz J e w:=by rw[h trivial]
theorem ahH(j:Nat):tE ops e (some (j,w))=Tz (xJ ops j) e w:=rfl
theorem aeX(r:List Oper):xJ (o::r) 0=o.dst:=rfl
theorem aeW(r:List Oper)(j:Nat):xJ (o::r) (j+1)=xJ r j:=rfl
theorem afa(t:Nat):Tz (some t) e w=L0 w (rd e (.tmp t)):=Eq.trans rfl rfl
theorem agA:L0 w (.bool b)=some (b==w):=rfl
theorem aje:L0 w (.bI [])=some false:=rfl
def aoD:(b==true)=b:=by cases b<;>rfl
def aoC:(b==false) = !b:=by cases b<;>rfl

@[congr] theorem aco{ok:Prop}{v:D}{k:D->Prop}(u:True->g=j)(B:j=true->ok=A)(E:j=true->v=v'):iz g ok v k=iz j A v' k:=by
 obtain rfl:=u trivial;cases g with
 |true=>rw[B rfl,E rfl]
 |false=>simp[iz,gd]
def ad'(ok:Prop)(v:D)(k:D->Prop):iz true ok v k=(ok/\Norm (dm v) k):=by simp[iz,gd,Norm,dm]
def acp(ok:Prop)(v:D)(k:D->Prop):iz false ok v k=k (.bI []):=by simp[iz,gd]
def ami(a b:Prop):GK true a b=a:=by simp[GK]
def ajq(a b:Prop):GK false a b=b:=by simp[GK]

def ZT(np:Nat)(ops:List Oper)(o:Oper)(l:List Nat):Prop:=pX np ops o l
@[congr] theorem agH{o:Oper}{l:List Nat}(h:True->l=L):ZT np ops o l=ZT np ops o L:=by rw[h trivial]
theorem ama:ZT np ops o []=True:=rfl
def Ek(np:Nat)(ops:List Oper)(o:Oper)(r:Nat):Prop:=tU np ops o r=true
@[congr] theorem agX{o:Oper}{r:Nat}(h:True->r=G):Ek np ops o r=Ek np ops o G:=by rw[h trivial]
theorem Ek.mk{o:Oper}{r:Nat}(h:tU np ops o r=true):Ek np ops o r:=h
theorem ajl(l:List Nat):ZT np ops o (r::l)=(Ek np ops o (nk r)/\ZT np ops o l):=rfl
def akZ:N3 P n np ops o e true K=(ZT np ops o (lm (ct e o))/\l9 P n true o e true K):=by simp[N3,ZT,lm]
def aiv:N3 P n np ops o e false K=l9 P n true o e false K:=by simp[N3]
attribute [go_sem ↓] al2 ajf al4 al3 an5 abT ags ai9 ZC acy aer ads als adt agd ZR wpList_nil adH adG ab4 agu ajg ajh agC agD ahH aeX aeW afa ad' acp ami ajq akZ aiv
attribute [go_sem] aci ZY agA aje aoD aoC ama ajl
section
variable{dst:Option Tmp}
theorem ada(a:Operand):ct e ⟨dst,.load t a,ty,pos,after,gu⟩=(rd e a).names:=rfl
theorem aa8(a:Operand):ct e ⟨dst,.store t a x,ty,pos,after,gu⟩=(rd e a).names:=rfl
theorem VA(i:Operand):ct e ⟨dst,.indexAddr t x i,ty,pos,after,gu⟩=(rd e x).names:=rfl
theorem aa7(a b c:Option Operand):ct e ⟨dst,.slice t x a b c,ty,pos,after,gu⟩=(rd e x).names:=rfl
theorem adb:ct e ⟨dst,.move x,ty,pos,after,gu⟩=[]:=rfl
theorem ZK:ct e ⟨dst,.assign x,ty,pos,after,gu⟩=[]:=rfl
theorem ade(z:Operand):ct e ⟨dst,.pick x y z,ty,pos,after,gu⟩=[]:=rfl
theorem aa2:ct e ⟨dst,.binOp C t x y T2,ty,pos,after,gu⟩=[]:=rfl
theorem adf:ct e ⟨dst,.unOp h t x,ty,pos,after,gu⟩=[]:=rfl
theorem Yu(s:TypeId):ct e ⟨dst,.convert s t x,ty,pos,after,gu⟩=[]:=rfl
theorem Vz:ct e ⟨dst,.fieldAddr t x f,ty,pos,after,gu⟩=[]:=rfl
theorem aa6(i:Operand):ct e ⟨dst,.index t x i,ty,pos,after,gu⟩=[]:=rfl
theorem WI:ct e ⟨dst,.nilCheck x,ty,pos,after,gu⟩=[]:=rfl
theorem Yv:ct e ⟨dst,.extract x i,ty,pos,after,gu⟩=[]:=rfl
theorem aa3(ps:Array (Nat×Operand)):ct e ⟨dst,.build t ps,ty,pos,after,gu⟩=[]:=rfl
theorem TP(l:Nat)(ps:Array (Nat×Operand)):ct e ⟨dst,.buildSlice t l ps,ty,pos,after,gu⟩=[]:=rfl
theorem aa1:ct e ⟨dst,.alloc t,ty,pos,after,gu⟩=[]:=rfl
def Ig(e:Env)(k:Nat)(l:List Nat):List Nat:=reach e.o k l
@[congr] theorem af8{k:Nat}{l:List Nat}(h:True->l=L):Ig e k l=Ig e k L:=by rw[h trivial]
theorem alk:Ig e k []=[]:=by
 unfold Ig;induction k with
 |zero=>rfl
 |succ k ih=>simp only[reach,List.map_nil,D.bW,List.nil_append];exact ih
theorem af'(l:List Nat):Ig e 4 (r::l)=r::l++Ig e 3 (lm (D.bW ((r::l).map e.o))):=rfl
theorem af9(l:List Nat):Ig e 2 (r::l)=r::l++Ig e 1 (lm (D.bW ((r::l).map e.o))):=rfl
theorem aa5(f:Operand):ct e ⟨dst,.call ⟨.value f,args,T⟩,ty,pos,after,gu⟩=Ig e 4 (lm (D.bW (rd e f::args.toList.map (rd e)))):=rfl
theorem aa4(b:Builtin):ct e ⟨dst,.call ⟨.builtin b,args,T⟩,ty,pos,after,gu⟩=D.bW (args.toList.map (rd e)):=rfl
attribute [go_sem ↓] ada aa8 VA aa7 adb ZK ade aa2 adf Yu Vz aa6 WI Yv aa3 TP aa1 aa5 aa4
attribute [go_sem] alk af' af9
end

section
theorem ak3:l9 P n dr ⟨some d,.move x,ty,pos,after,gu⟩ e g K=(d<n/\iz g True (rd e x) (uK e d K)):=rfl
theorem afW:l9 P n dr ⟨some d,.assign x,ty,pos,after,gu⟩ e g K=(d<n/\iz g True (rd e x) (uK e d K)):=rfl
theorem aix:l9 P n dr ⟨some d,.binOp C t x y T2,ty,pos,after,gu⟩ e g K=HD (XV y) (g=true/\dr=false/\gM P n ⟨some d,.binOp C t x y T2,ty,pos,after,gu⟩ e K) (d<n/\iz g (yl P (isConst x||isConst y) C t (rd e x) (rd e y)) (zX C (rd e x) (rd e y)) (uK e d K)):=rfl
theorem ak5:l9 P n dr ⟨some d,.unOp h t x,ty,pos,after,gu⟩ e g K=(d<n/\iz g (vq h (rd e x)) (zq h (rd e x)) (uK e d K)):=rfl
theorem adg(s:TypeId):l9 P n dr ⟨some d,.convert s t x,ty,pos,after,gu⟩ e g K=(d<n/\iz g (GF (eH P s) (eH P t) (rd e x)) (Ky (eH P s) (eH P t) (rd e x)) (uK e d K)):=rfl
def pk(p:Bool)(x y:D):D:=if p then x else y
def adk(c x y:D):D:=match c with
 | .bool p=>pk p x y
 | _=>.undef
def YJ(c:D):Prop:=match c with
 | .bool _=>True
 | _=>False
theorem af2(x:D):adk (.bool p) x ob=pk p x ob:=rfl
theorem adl:YJ (.bool p)=True:=rfl
@[congr] theorem ak'{p:Bool}{x:D}(u:True->p=j)(v:j=true->x=x')(B:j=false->v'=y'):pk p x v'=pk j x' y':=by
 obtain rfl:=u trivial;cases p with
 |true=>simp only[pk,if_true];exact v rfl
 |false=>simp only[pk];exact B rfl
theorem anx(x:D):pk true x ob=x:=rfl
theorem ala(x:D):pk false x ob=ob:=rfl
theorem ak4(a b:Operand):l9 P n dr ⟨some d,.pick c a b,ty,pos,after,gu⟩ e g K=(d<n/\iz g (YJ (rd e c)) (adk (rd e c) (rd e a) (rd e b)) (uK e d K)):=rfl
def faT(t:Ty)(f:Nat)(v:D):D:=match t with
 | .struct fs=>WH fs f v
 | _=>.undef
def acF(t:Ty)(f:Nat)(v:D):Prop:=match t with
 | .struct fs=>U0 fs f v
 | _=>False
theorem aqC(v:D):faT (.struct fs) f v=WH fs f v:=rfl
theorem amG(v:D):acF (.struct fs) f v=U0 fs f v:=rfl
def aj4(t:Ty)(f:Nat)(v:D):D:=match t with
 | .struct fs=>U3 fs f v
 | _=>.undef
def XO(t:Ty)(f:Nat)(v:D):Prop:=match t with
 | .struct fs=>KR fs f v
 | _=>False
theorem aoO(v:D):aj4 (.struct fs) f v=U3 fs f v:=rfl
theorem aj5(v:D):XO (.struct fs) f v=KR fs f v:=rfl
theorem ZL:l9 P n dr ⟨some d,.fieldAddr t x f,ty,pos,after,gu⟩ e g K=(d<n/\iz g (acF (eH P t) f (rd e x)) (faT (eH P t) f (rd e x)) (uK e d K)):=rfl
theorem aiA:l9 P n dr ⟨some d,.field t x f,ty,pos,after,gu⟩ e g K=(d<n/\iz g (XO (eH P t) f (rd e x)) (aj4 (eH P t) f (rd e x)) (uK e d K)):=rfl
def G8(e:Env)(t:Ty)(x i:D):Prop:=O2 e t x i
@[congr] theorem acL{t:Ty}{x i:D}(u:True->t=t')(v:True->x=x')(B:True->i=v'):G8 e t x i=G8 e t' x' v':=by rw[u trivial,v trivial,B trivial]
def iaT(t:Ty)(x i:D):D:=U6 e0 t x i
def afd(e:Env)(t:Ty)(x i:D):U6 e t x i=iaT t x i:=by unfold iaT U6;rfl
def ZM(i:Operand):l9 P n dr ⟨some d,.indexAddr t x i,ty,pos,after,gu⟩ e g K=(d<n/\iz g (G8 e (eH P t) (rd e x) (rd e i)) (iaT (eH P t) (rd e x) (rd e i)) (uK e d K)):=by rw[<-afd e];rfl
theorem aiB(i:Operand):l9 P n dr ⟨some d,.index t x i,ty,pos,after,gu⟩ e g K=(d<n/\iz g (Pe (eH P t) (rd e x) (rd e i)) (ixV (eH P t) (rd e x) (rd e i)) (uK e d K)):=rfl
def ldT(e:Env)(l:Option EX)(a:D):D:=match l with
 |some l=>ZG e l a
 |none=>.undef
def EA(e:Env)(l:Option EX)(a:D):Prop:=match l with
 |some l=>MG e l a
 |none=>False
@[congr] theorem ah5{l:Option EX}{a:D}(u:True->l=l')(v:True->a=a'):ldT e l a=ldT e l' a':=by rw[u trivial,v trivial]
@[congr] theorem acU{l:Option EX}{a:D}(u:True->l=l')(v:True->a=a'):EA e l a=EA e l' a':=by rw[u trivial,v trivial]
theorem akB(o:Nat):ldT e (some l) (.addr r o)=ldB l o (e.o r):=rfl
theorem ah7:ldT e (some l) (.cw r z i k)=ldW l i k (e.o r):=rfl
theorem ah6:ldT e (some l) (.bE cs)=part l.agg 0 l.sz cs:=rfl
theorem afs(o:Nat):EA e (some l) (.addr r o)=TJ l o (e.o r):=rfl
theorem acW:EA e (some l) (.cw r z i k)=TK l z i k (e.o r):=rfl
theorem acV:EA e (some l) (.bE cs)=(l.sz<=cs.length/\Ap l):=rfl
theorem anc(o:Nat):ldB l o (.box cs)=part l.agg o l.sz cs:=rfl
theorem ah4(o:Nat):TJ l o (.box cs)=(o+l.sz<=cs.length/\Ap l):=rfl
theorem anf:ldW l i k (.own z rows)=part l.agg k l.sz (rows.getD i []):=rfl
theorem ah8:TK l z i k (.own z' rows)=(z'=z/\i<rows.length/\k+l.sz<=z/\Ap l):=rfl
def ana:Ap ⟨false,1⟩=True:=by simp[Ap]
def anb:Ap ⟨true,m⟩=(1<=m):=by simp[Ap]
theorem ak2(a:Operand):l9 P n dr ⟨some d,.load t a,ty,pos,after,gu⟩ e g K=(d<n/\iz g (EA e (iF P t) (rd e a)) (ldT e (iF P t) (rd e a)) (uK e d K)):=rfl
theorem aba:l9 P n dr ⟨some d,.nilCheck x,ty,pos,after,gu⟩ e g K=(d<n/\iz g (Yr (rd e x)) (rd e x) (uK e d K)):=rfl
def aj0(v:D)(i:Nat):D:=match v with
 | .bI ds=>ds.getD i .undef
 | _=>.undef
def acE(v:D)(i:Nat):Prop:=match v with
 | .bI ds=>i<ds.length
 | _=>False
theorem aj1:aj0 (.bI ds) i=ds.getD i .undef:=rfl
theorem ahp:acE (.bI ds) i=(i<ds.length):=rfl
theorem adh:l9 P n dr ⟨some d,.extract x i,ty,pos,after,gu⟩ e g K=(d<n/\iz g (acE (rd e x) i) (aj0 (rd e x) i) (uK e d K)):=rfl
theorem aa'(f:FuncId)(first:Array Operand):l9 P n dr ⟨some d,.makeFunc (.func f) first args,ty,pos,after,gu⟩ e g K=(d<n/\iz g (first = #[]) (.fn f (args.toList.map (rd e))) (uK e d K)):=rfl
def Pt(e:Env)(t:Ty)(x:D):D:=MJ e t x
def yK(e:Env)(t:Ty)(x:D):Prop:=Cq e t x
@[congr] theorem afA{t:Ty}{x:D}(u:True->t=t')(v:True->x=x'):Pt e t x=Pt e t' x':=by rw[u trivial,v trivial]
@[congr] theorem aaS{t:Ty}{x:D}(u:True->t=t')(v:True->x=x'):yK e t x=yK e t' x':=by rw[u trivial,v trivial]
theorem ans(T:TypeId):l9 P n dr ⟨some d,.call ⟨.builtin .len,#[x],#[T]⟩,ty,pos,after,gu⟩ e g K=(d<n/\iz g (yK e (eH P T) (rd e x)) (Pt e (eH P T) (rd e x)) (uK e d K)):=rfl
def ant(l:List Operand):l9 P n dr ⟨some d,.call ⟨.builtin .max,l.toArray,T⟩,ty,pos,after,gu⟩ e g K=(d<n/\iz g (l≠[]/\u5 (l.map (rd e))) (OO PD (l.map (rd e))) (uK e d K)):=by simp only[l9,dO,gB];rfl
def anu(l:List Operand):l9 P n dr ⟨some d,.call ⟨.builtin .min,l.toArray,T⟩,ty,pos,after,gu⟩ e g K=(d<n/\iz g (l≠[]/\u5 (l.map (rd e))) (OO PK (l.map (rd e))) (uK e d K)):=by simp only[l9,dO,gB];rfl
def Wd(e:Env)(t:Ty)(x lo hi:D):D:=match lo,hi with
 | .int _ l,.int _ h=>SK e t x l.toNat h.toNat
 | _,_=>.undef
def QJ(e:Env)(t:Ty)(x lo:D)(hi:Option D):D:=Wd e t x lo (hi.getD (.int .i64 (Bw (FZ e t x))))
def qm(e:Env)(t:Ty)(x lo:D)(hi:Option D):Prop:=W6 (WO e t x) lo (hi.getD (.int .i64 (Bw (FZ e t x)))) λ_ _ _=>True
@[congr] theorem aiY{t:Ty}{x lo:D}(u:True->t=t')(v:True->x=x')(B:True->lo=lo')(E:True->hi=hi'):QJ e t x lo hi=QJ e t' x' lo' hi':=by rw[u trivial,v trivial,B trivial,E trivial]
@[congr] theorem adA{t:Ty}{x lo:D}(u:True->t=t')(v:True->x=x')(B:True->lo=lo')(E:True->hi=hi'):qm e t x lo hi=qm e t' x' lo' hi':=by rw[u trivial,v trivial,B trivial,E trivial]
def loT(e:Env)(lo:Option Operand):D:=NH e 0 lo
theorem akL:loT e none=.int .i64 0:=rfl
theorem akM:loT e (some x)=rd e x:=rfl
theorem aiC(lo:Option Operand):l9 P n dr ⟨some d,.slice t x lo none none,ty,pos,after,gu⟩ e g K=(d<n/\iz g (qm e (eH P t) (rd e x) (loT e lo) none) (QJ e (eH P t) (rd e x) (loT e lo) none) (uK e d K)):=rfl
theorem afX(lo:Option Operand):l9 P n dr ⟨some d,.slice t x lo (some y) none,ty,pos,after,gu⟩ e g K=(d<n/\iz g (qm e (eH P t) (rd e x) (loT e lo) (some (rd e y))) (QJ e (eH P t) (rd e x) (loT e lo) (some (rd e y))) (uK e d K)):=rfl
def Mi(t:Ty)(ps:List (Nat×D)):List (Nat×Nat×D):=match t with
 | .struct fs=>ps.map λx=>match fs[x.1]? with
  |some f=>(f.off,f.sz,x.2)
  |none=>(0,0,.undef)
 | .arr _ z _=>ps.map λx=>(x.1*z,z,x.2)
 | _=>[]
def Ak(t:TypeId)(parts:List (Nat×Operand)):fH P e t parts=Mi (eH P t) (parts.map λx=>(x.1,rd e x.2)):=by
 unfold fH Mi;cases eH P t<;>simp only[List.map_map,Function.comp_def]<;>rfl
def aae(t:Ty)(z:Option (List D))(ps:List (Nat×D)):D:=match z with
 |some z=>.agg (nN z (Mi t ps))
 |none=>.undef
def Ko(t:Ty)(z:Option (List D))(ps:List (Nat×D)):Prop:=match z with
 |some z=>(match t with
  | .struct fs=>∀x∈ps,x.1<fs.length
  | .arr _ _ _=>True
  | _=>False)/\qx z.length (Mi t ps)
 |none=>False
theorem Sp(t:TypeId)(parts:List (Nat×Operand)):FR P e t parts=Ko (eH P t) (nw P t) (parts.map λx=>(x.1,rd e x.2)):=by
 unfold FR Ko;rw[Ak];cases hz:nw P t with
 |none=>simp
 |some z =>
  simp only[oF,exists_eq_left',eq_iff_iff];refine and_congr ?_ Iff.rfl;cases eH P t<;>simp only;simp only[List.forall_mem_map]
def aiy:l9 P n dr ⟨some d,.build t M,ty,pos,after,gu⟩ e g K =
  (d<n/\iz g (Ko (eH P t) (nw P t) (M.toList.map λx=>(x.1,rd e x.2))) (aae (eH P t) (nw P t) (M.toList.map λx=>(x.1,rd e x.2))) (uK e d K)):=by
 rw[<-Sp];have:aae (eH P t) (nw P t) (M.toList.map λx=>(x.1,rd e x.2))=gB P e (.build t M):=by
  unfold gB aae;simp only[Ak];rfl
 rw[this];rfl
theorem ahb(t:Ty)(z:List D):aae t (some z) ps=.agg (nN z (Mi t ps)):=rfl
theorem aep(z:List D):Ko (.struct fs) (some z) ps=((∀x∈ps,x.1<fs.length)/\qx z.length (Mi (.struct fs) ps)):=rfl
def aha(s:Nat)(z:List D):Ko (.arr n s a) (some z) ps=qx z.length (Mi (.arr n s a) ps):=by simp[Ko]
def ajP(f:Option FT)(v:D):Nat×Nat×D:=match f with
 |some f=>(f.off,f.sz,v)
 |none=>(0,0,.undef)
theorem acw:Mi (.struct fs) ps=ps.map λx=>ajP fs[x.1]? x.2:=rfl
theorem ajQ:Mi (.arr n z a) ps=ps.map λx=>(x.1*z,z,x.2):=rfl
theorem ag'(o s:Nat)(v:D):ajP (some ⟨o,s,a⟩) v=(o,s,v):=rfl
def ajI(f:Nat×D->Prop):(∀c∈([]:List (Nat×D)),f c)=True:=by simp
def ag2(f:Nat×D->Prop)(a:Nat×D)(l:List (Nat×D)):(∀c∈a::l,f c)=(f a/\∀c∈l,f c):=by simp
def ajH(f:D->Prop):(∀c∈([]:List D),f c)=True:=by simp
def ag1(f:D->Prop)(a:D)(l:List D):(∀c∈a::l,f c)=(f a/\∀c∈l,f c):=by simp
attribute [go_sem ↓] ak3 afW aix ak5 adg anx ala ak4 ZL aiA ZM aiB ak2 aba adh aa' ans ant anu akL akM aiC afX aiy
attribute [go_sem] af2 adl aqC amG aoO aj5 akB ah7 ah6 afs acW acV anc ah4 anf ah8 ana anb aj1 ahp ahb aep aha acw ajQ ag' ajI ag2 ajH ag1
end

def WU(d:D):Prop:=d=.undef
def agO:WU .undef=True:=by simp[WU]
def moK(e:Env)(d:Nat)(K:Env->Prop)(ob:D)(r:Nat):Prop:=WU (e.o r)/\K (ck (dU e r ob) d (.ref r))
def maK(e:Env)(d:Nat)(K:Env->Prop)(ob:D)(r:Nat):Prop:=WU (e.o r)/\K (ck (dU e r ob) d (.addr r 0))
theorem apl:moK e d K ob r=(WU (e.o r)/\K (ck (dU e r ob) d (.ref r))):=rfl
theorem aph:maK e d K ob r=(WU (e.o r)/\K (ck (dU e r ob) d (.addr r 0))):=rfl
def moN(e:Env)(d:Nat)(K:Env->Prop)(ob:D):Prop:=yd (nm d 0) (moK e d K ob)
def maN(e:Env)(d:Nat)(K:Env->Prop)(ob:D):Prop:=yd (nm d 0) (maK e d K ob)
theorem apm:moN e d K ob=yd (nm d 0) (moK e d K ob):=rfl
theorem apj:maN e d K ob=yd (nm d 0) (maK e d K ob):=rfl
theorem arn:nm d k=16*(d+1)+k:=rfl
def uoK(e:Env)(r:Nat)(K:Env->Prop)(ob:D):Prop:=K (dU e r ob)
theorem apT:uoK e r K ob=K (dU e r ob):=rfl
def W7(e:Env)(r off:Nat)(v:D)(K:Env->Prop)(l:Option EX)(ob:D):Prop:=
 match l,ob with
 |some l,.box cs=>off+l.sz<=cs.length/\v.cells.length=l.sz/\(∀c∈v.cells,gl c)/\K (dU e r (.box (nR cs off v.cells)))
 | _,_=>False
def W9(e:Env)(r z i k:Nat)(v:D)(K:Env->Prop)(l:Option EX)(ob:D):Prop:=
 match l,ob with
 |some l,.own z' rows=>z'=z/\i<rows.length/\k+l.sz<=z/\v.cells.length=l.sz/\(∀c∈v.cells,dK c)/\K (dU e r (.own z (rows.set i (nR (rows.getD i []) k v.cells))))
 | _,_=>False
@[congr] theorem ad7{r off:Nat}{v:D}{l:Option EX}(u:True->l=l')(B:True->x'=ob'):W7 e r off v K l x'=W7 e r off v K l' ob':=by rw[u trivial,B trivial]
@[congr] theorem ad9{r z i k:Nat}{v:D}{l:Option EX}(u:True->l=l')(B:True->x'=ob'):W9 e r z i k v K l x'=W9 e r z i k v K l' ob':=by rw[u trivial,B trivial]
theorem ajC(v:D):W7 e r off v K (some ⟨a,sz⟩) (.box cs)=(off+sz<=cs.length/\v.cells.length=sz/\(∀c∈v.cells,gl c)/\Norm (dm (.box (nR cs off v.cells))) (uoK e r K)):=rfl
theorem ajE(v:D):W9 e r z i k v K (some ⟨a,sz⟩) (.own z' rows) =
  (z'=z/\i<rows.length/\k+sz<=z/\v.cells.length=sz/\(∀c∈v.cells,dK c)/\Norm (dm (.own z (rows.set i (nR (rows.getD i []) k v.cells)))) (uoK e r K)):=rfl
def ajD(v:D):Uv P e t (.addr r off) K v=W7 e r off v K (iF P t) (e.o r):=by
 show StB P e t r off v K (e.o r)=_;unfold StB W7;cases e.o r<;>cases iF P t<;>rfl
def ag0(v:D):Uv P e t (.cw r z i k) K v=W9 e r z i k v K (iF P t) (e.o r):=by
 show StO P e t r z i k v K (e.o r)=_;unfold StO W9;cases e.o r<;>cases iF P t<;>rfl
def stK(P:Program)(e:Env)(t:TypeId)(x:Operand)(K:Env->Prop)(a:D):Prop:=Norm (dm (rd e x)) (Uv P e t a K)
theorem apG(a:D):stK P e t x K a=Norm (dm (rd e x)) (Uv P e t a K):=rfl
theorem aiD(a:Operand):l9 P n dr ⟨none,.store t a x,ty,pos,after,gu⟩ e g K=(g=true/\Norm (dm (rd e a)) (stK P e t x K)):=rfl
theorem ame(v:D):ZW e d K v=((∀c∈v.cells,gl c)/\Norm (dm (.box v.cells)) (maN e d K)):=rfl
theorem anq:l9 P n dr ⟨some d,.box t x,ty,pos,after,gu⟩ e g K=(g=true/\d<n/\Norm (dm (rd e x)) (ZW e d K)):=rfl
@[congr] theorem adI{z:Option (List D)}(h:True->z=O):Up e d K z=Up e d K O:=by rw[h trivial]
theorem agE(z:List D):Up e d K (some z)=maN e d K (.box z):=rfl
theorem aiw:l9 P n dr ⟨some d,.alloc t,ty,pos,after,gu⟩ e g K=(g=true/\d<n/\Up e d K (nw P t)):=rfl
def BsC(e:Env)(d:Nat)(K:Env->Prop)(z len:Nat)(cs:List D):Prop:=(∀c∈cs,dK c)/\Norm (dm (.own z (rowsOf z len cs))) (moN e d K)
@[congr] theorem agK{z len:Nat}{cs:List D}(h:True->cs=as):BsC e d K z len cs=BsC e d K z len as:=by rw[h trivial]
theorem aoh(len:Nat):BsC e d K z len cs=((∀c∈cs,dK c)/\Norm (dm (.own z (rowsOf z len cs))) (moN e d K)):=rfl
def BsV(e:Env)(len d:Nat)(K:Env->Prop)(z:Nat)(zc:List D)(ps:List (Nat×Nat×D)):Prop:=
 len*z<=2^24/\zc.length=z/\qx (len*z) ps/\BsC e d K z len (lm (nN (List.replicate len zc).flatten ps))
@[congr] theorem agN{len z:Nat}{zc:List D}{ps:List (Nat×Nat×D)}(h:True->ps=R):BsV e len d K z zc ps=BsV e len d K z zc R:=by rw[h trivial]
theorem aoj(len:Nat)(ps:List (Nat×Nat×D)):BsV e len d K z zc ps=(len*z<=2^24/\zc.length=z/\qx (len*z) ps/\BsC e d K z len (lm (nN (List.replicate len zc).flatten ps))):=rfl
@[congr] theorem agL{len:Nat}{ps:List (Nat×Operand)}{t:Ty}{z:Option (List D)}(u:True->t=t')(v:True->z=O):Rj e len ps d K t z=Rj e len ps d K t' O:=by rw[u trivial,v trivial]
theorem aoi(len:Nat)(ps:List (Nat×Operand)):Rj e len ps d K (.slice z by_ a) (some zc)=BsV e len d K z zc (lm (ps.map λx=>(x.1*z,z,rd e x.2))):=rfl
def BsP(e:Env)(len:Nat)(ps:List (Nat×Operand))(dr:Bool)(d:Nat)(K:Env->Prop)(t:Ty)(z:Option (List D))(ns:List Nat):Prop:=(dr=true->ns=[])/\Rj (ia ns e) len ps d K t z
@[congr] theorem agM{len:Nat}{ps:List (Nat×Operand)}{t:Ty}{z:Option (List D)}(h:True->L=U):BsP e len ps dr d K t z L=BsP e len ps dr d K t z U:=by rw[h trivial]
theorem amf(len:Nat)(ps:List (Nat×Operand))(t:Ty)(z:Option (List D)):BsP e len ps dr d K t z []=Rj e len ps d K t z:=by simp[BsP,ia]
def Yy(len:Nat):l9 P n dr ⟨some d,.buildSlice t len M,ty,pos,after,gu⟩ e g K =
  HD (t==af4) (g=true/\dr=false/\gM P n ⟨some d,.buildSlice t len M,ty,pos,after,gu⟩ e K) (d<n/\GK g (BsP e len M.toList dr d K (eH P t) (gy P t) (lm (D.bW (M.toList.map λx=>rd e x.2)))) (K (ck e d (.bI [])))):=by
 unfold l9 HD;rfl
@[congr] theorem agW{l c:D}{t:Ty}{z:Option (List D)}(u:True->l=x')(v:True->c=v')(B:True->t=t')(E:True->z=O):WE e d K l c t z=WE e d K x' v' t' O:=by rw[u trivial,v trivial,B trivial,E trivial]
theorem aoq(k:IntKind)(l c:Int):WE e d K (.int k l) (.int W c) (.slice z by_ a) (some zc) =
  (0<=l/\l<=c/\c<=2^40/\by_*c<=2^47/\zc.length=z/\(∀d∈zc,dK d)/\Norm (dm (.own z (List.replicate l.toNat zc))) (moN e d K)):=rfl
theorem ZN(l:Operand):l9 P n dr ⟨some d,.makeSlice t l c,ty,pos,after,gu⟩ e g K=(d<n/\GK g (WE e d K (dm (rd e l)) (rd e c) (eH P t) (gy P t)) (K (ck e d (.bI [])))):=rfl
def apN(z by_:Nat)(rows rows2:List (List D))(e:Env)(d:Nat)(K:Env->Prop):Prop:=(by_+1)*(rows.length+rows2.length)<=2^45/\Norm (dm (.own z (rows++rows2))) (moN e d K)
theorem aoy:apN z by_ rows rows2 e d K=((by_+1)*(rows.length+rows2.length)<=2^45/\Norm (dm (.own z (rows++rows2))) (moN e d K)):=rfl
def aef(z by_:Nat)(rows2:List (List D))(e:Env)(d:Nat)(K:Env->Prop):Prop:=(by_+(1-by_))*rows2.length<=2^47/\Norm (dm (.own z rows2)) (moN e d K)
theorem amr:aef z by_ rows2 e d K=((by_+(1-by_))*rows2.length<=2^47/\Norm (dm (.own z rows2)) (moN e d K)):=rfl
def ApO(e:Env)(z by_ d:Nat)(rows2:List (List D))(K:Env->Prop)(r:Nat)(ob:D):Prop:=Uq e z by_ d rows2 K r ob
@[congr] theorem agI{z r:Nat}{rows2:List (List D)}(h:True->x'=ob'):ApO e z np d rows2 K r x'=ApO e z np d rows2 K r ob':=by rw[h trivial]
theorem amc:ApO e z by_ d rows2 K r (.own z' rows)=(z'=z/\apN z by_ rows rows2 (lp r e) d K):=rfl
@[congr] theorem adT{z:Nat}{x:D}(u:True->x=x')(v:True->X=Y):AP e z np d K x X=AP e z np d K x' Y:=by rw[u trivial,v trivial]
theorem ajm:AP e z by_ d K .nil (some rows2)=aef z by_ rows2 e d K:=by simp[AP,aef,Norm,dm,moN,moK,yd,WU]
theorem ajn:AP e z by_ d K (.ref r) (some rows2)=ApO e z by_ d rows2 K r (dm (e.o r)):=rfl
def bo(e:Env)(x:List Nat)(k:Nat)(d:D):D:=pP e.o x k d
@[congr] theorem ajR{x:List Nat}{k:Nat}{d:D}(h:True->d=x'):bo e x k d=bo e x k x':=by rw[h trivial]
@[congr] theorem adM{x:D}{t:Ty}(u:True->x=x')(v:True->v'=y')(B:True->t=t')(E:True->Z=t2'):tc e d K x v' t Z=tc e d K x' y' t' t2':=by rw[u trivial,v trivial,B trivial,E trivial]
theorem amd(x:D):tc e d K x ob (.slice z by_ a) (.slice z2 b2 b)=(by_<=2^32/\AP e z by_ d K x (sC z (bo e [] 2 (dm ob)))):=rfl
@[congr] theorem adS{S:Prop}{x:D}{t:Ty}(u:True->x=x')(v:True->v'=y')(B:True->t=t')(E:True->Z=t2'):Dj e d K S x v' t Z=Dj e d K S x' y' t' t2':=by rw[u trivial,v trivial,B trivial,E trivial]
theorem agJ(o l c:Nat)(t:Ty):Dj e d K S (.eC r o z l c) ob t g9=S:=rfl
theorem ab5  (t:Ty):Dj e d K S .nil (.sl z rows) t g9=tc e d K .nil (.sl z rows) t g9:=rfl
theorem ZU  (t:Ty):Dj e d K S (.ref r) .emp t g9=tc e d K (.ref r) .emp t g9:=rfl
theorem ZV(t:Ty):Dj e d K S (.ref r) (.ref r') t g9=tc e d K (.ref r) (.ref r') t g9:=rfl
theorem ab6(t:Ty):Dj e d K S (.ref r) (.sl z rows) t g9=tc e d K (.ref r) (.sl z rows) t g9:=rfl
theorem afV(T:TypeId):l9 P n dr ⟨some d,.call ⟨.builtin .append,#[x,y],#[T,T2]⟩,ty,pos,after,gu⟩ e g K=(d<n/\g=true/\dr=false/\Dj e d K (gM P n ⟨some d,.call ⟨.builtin .append,#[x,y],#[T,T2]⟩,ty,pos,after,gu⟩ e K) (dm (rd e x)) (rd e y) (eH P T) (eH P T2)):=rfl
@[congr] theorem adX{t:Ty}(h:True->t=t'):Jq e d K t=Jq e d K t':=by rw[h trivial]
def ajZ(e:Env)(d:Nat)(K:Env->Prop)(r:Nat):Prop:=WU (e.o r)/\K (ck e d .emp)
theorem amD:ajZ e d K r=(WU (e.o r)/\K (ck e d .emp)):=rfl
theorem amh(b:Nat):Jq e d K (.slice z b a)=yd (nm d 0) (ajZ e d K):=rfl
@[congr] theorem adK{z:Nat}(h:True->X=Y):Ur e z np d K X=Ur e z np d K Y:=by rw[h trivial]
@[congr] theorem adR{x:D}{t:Ty}(u:True->x=x')(v:True->v'=y')(B:True->t=t')(E:True->Z=t2'):Jp e d K x v' t Z=Jp e d K x' y' t' t2':=by rw[u trivial,v trivial,B trivial,E trivial]
theorem ai0(len:Nat)(ps:Array (Nat×Operand)):qn P n np ops ⟨some d,.buildSlice t len ps,ty,pos,after,gu⟩ e K=(d<n/\Jq e d K (eH P t)):=rfl
theorem aiZ(T:TypeId):qn P n np ops ⟨some d,.call ⟨.builtin .append,#[x,y],#[T,T2]⟩,ty,pos,after,gu⟩ e K=(d<n/\ZT np ops ⟨some d,.call ⟨.builtin .append,#[x,y],#[T,T2]⟩,ty,pos,after,gu⟩ (Ig e 2 (lm (rd e y).names))/\Jp e d K (dm (rd e x)) (dm (rd e y)) (eH P T) (eH P T2)):=rfl
theorem acs(T:TypeId):qo P n ⟨some d,.call ⟨.builtin .append,#[x,y],#[T,T2]⟩,ty,pos,after,gu⟩ e g K=(d<n/\g=true/\tc e d K (dm (rd e x)) (dm (rd e y)) (eH P T) (eH P T2)):=rfl
theorem ak1:l9 P n dr ⟨dst,.call ⟨.builtin .copy,args,T⟩,ty,pos,after,gu⟩ e g K=(g=true/\dr=false/\gM P n ⟨dst,.call ⟨.builtin .copy,args,T⟩,ty,pos,after,gu⟩ e K):=rfl
theorem anr:l9 P n dr ⟨dst,.call ⟨.builtin .cap,args,T⟩,ty,pos,after,gu⟩ e g K=(g=true/\dr=false/\gM P n ⟨dst,.call ⟨.builtin .cap,args,T⟩,ty,pos,after,gu⟩ e K):=rfl
theorem aiz:l9 P n dr ⟨dst,.call ⟨.builtin .clear,args,T⟩,ty,pos,after,gu⟩ e g K=(g=true/\dr=false/\gM P n ⟨dst,.call ⟨.builtin .clear,args,T⟩,ty,pos,after,gu⟩ e K):=rfl
def qu:D->List D
 | .fn _ caps=>caps
 | _=>[]
theorem ahe(f:FuncId):qu (.fn f cs)=cs:=rfl
def aG(P:Program)(dr:Bool)(e:Env)(d:Nat)(f:Operand)(args:List Operand)(K:Env->Prop)(S:Prop)(fv:D)(as:List D):Prop:=fv=rd e f/\as=args.map (rd e)++qu (rd e f)->BL P dr e d f args K\/(dr=false/\S)
def aG.mk{f:Operand}{args:List Operand}{S:Prop}:(BL P dr e d f args K\/(dr=false/\S))=aG P dr e d f args K S (rd e f) (args.map (rd e)++qu (rd e f)):=by simp[aG]
@[congr] theorem ab9{f:Operand}{args:List Operand}{S:Prop}(u:True->fv=fv')(v:True->as=as'):aG P dr e d f args K S fv as=aG P dr e d f args K S fv' as':=by rw[u trivial,v trivial]
theorem aG.sem{f:Operand}{args:List Operand}{S:Prop}(u:dr=false)(h:S):aG P dr e d f args K S fv as:=λ_=>.inr ⟨u,h⟩
def ak0(f:Operand):l9 P n dr ⟨some d,.call ⟨.value f,args,T⟩,ty,pos,after,gu⟩ e g K =
  (d<n/\GK g (aG P dr e d f args.toList K (gM P n ⟨some d,.call ⟨.value f,args,T⟩,ty,pos,after,gu⟩ e K) (dm (rd e f)) (args.toList.map (rd e)++qu (rd e f))) (K (ck e d (.bI [])))):=by
 show(d<n/\GK g (BL P dr e d f args.toList K\/(dr=false/\gM P n ⟨some d,.call ⟨.value f,args,T⟩,ty,pos,after,gu⟩ e K)) (K (ck e d (.bI []))))=_;rw[aG.mk];rfl
def N5(P:Program)(np:Nat)(ops:List Oper)(o:Oper)(e:Env)(d:Nat)(f:Operand)(args:List Operand)(K:Env->Prop)(fv:D)(as:List D):Prop:=fv=rd e f/\as=args.map (rd e)++qu (rd e f)->Z2 P np ops o e d f args K
@[congr] theorem ad4{ops:List Oper}{o:Oper}{f:Operand}{args:List Operand}(u:True->fv=fv')(v:True->as=as'):N5 P np ops o e d f args K fv as=N5 P np ops o e d f args K fv' as':=by rw[u trivial,v trivial]
theorem aiL{ops:List Oper}(f:Operand):Af P n np ops ⟨some d,.call ⟨.value f,args,T⟩,ty,pos,after,gu⟩ e g K =
  (d<n/\GK g (N5 P np ops ⟨some d,.call ⟨.value f,args,T⟩,ty,pos,after,gu⟩ e d f args.toList K (dm (rd e f)) (args.toList.map (rd e)++qu (rd e f))) (K (ck e d (.bI [])))):=by
 show(d<n/\GK g (Z2 P np ops _ e d f args.toList K) (K (ck e d (.bI []))))=_;have:Z2 P np ops ⟨some d,.call ⟨.value f,args,T⟩,ty,pos,after,gu⟩ e d f args.toList K=N5 P np ops ⟨some d,.call ⟨.value f,args,T⟩,ty,pos,after,gu⟩ e d f args.toList K (rd e f) (args.toList.map (rd e)++qu (rd e f)):=by simp[N5]
 rw[this];rfl
attribute [go_sem] agO arn ajC ajE agE aoh aoj aoi amf aoq amc ajm ajn amd agJ ab5 ZU ZV ab6 amh ahe
attribute [go_sem ↓] apl aph apm apj apT ajD ag0 apG aiD ame anq aiw Yy ZN aoy amr afV amD ai0 aiZ acs ak1 anr aiz ak0 aiL
end
end Go.Abs
namespace Go.Abs
open List hiding max min
attribute [go_sem] Bool.not_true Bool.not_false cm Bool.and_true cZ Bool.and_false Bool.true_or Bool.or_true Bool.false_or Bool.or_false Bool.not_not true_and and_true if_true if_false ite_true ite_false not_true_eq_false not_false_eq_true
attribute [go_sem] map_cons map_nil length_cons length_nil append_nil nil_append cons_append take_succ_cons take_zero drop_succ_cons drop_zero headD_cons take_nil drop_nil Nat.add_zero Nat.zero_add replicate_succ replicate_zero flatten_cons flatten_nil set_cons_zero set_cons_succ getElem?_cons_zero getElem?_cons_succ getElem?_nil Option.map_some Option.map_none Option.getD_some Option.getD_none
attribute [go_sem] contains_nil contains_cons Bool.or_self beq_self_eq_true
attribute [go_sem] decide_true decide_false Int.natCast_nonneg Int.toNat_natCast forall_eq implies_true true_implies false_implies reduceCtorEq and_self


variable(e:Env)
theorem apx(t:Nat):rd e (.tmp t)=e.t t:=Eq.trans rfl rfl
theorem alm(v:Value):rd e (.const v)=rT v:=Eq.trans rfl rfl
theorem anI(f:FuncId):rd e (.func f)=.fn f []:=Eq.trans rfl rfl
variable(i j:Nat)
theorem ap0(d:D):(ck e i d).t j=if j=i then d else e.t j:=Eq.trans rfl rfl
theorem apZ(d:D):(ck e i d).o j=e.o j:=Eq.trans rfl rfl
theorem apW(d:D):(dU e i d).o j=if j=i then d else e.o j:=Eq.trans rfl rfl
theorem apX(d:D):(dU e i d).t j=e.t j:=Eq.trans rfl rfl
variable(r:Nat)
theorem am7:(lp r e).t j=(e.t j).kill r:=Eq.trans rfl rfl
theorem am6:(lp r e).o j=if j=r then .undef else(e.o j).kill r:=Eq.trans rfl rfl
variable(os ts:EL)
theorem arj:(sM ts os).t j=look ts j:=Eq.trans rfl rfl
theorem ari:(sM ts os).o j=look os j:=Eq.trans rfl rfl
theorem look_nil:look [] j=.undef:=Eq.trans rfl rfl
theorem aii(d:D)(r:EL):look ((i,d)::r) j=if j=i then d else look r j:=Eq.trans rfl rfl
theorem an3(k:Nat):Uk k []=[]:=rfl
variable(ds:List D)
theorem alU(k:Nat)(d:D):Uk k (d::ds)=(k,d)::Uk (k+1) ds:=rfl
theorem anv(k:Nat):uw k []=[]:=rfl
variable{hs':List D}
@[congr] theorem asb(k:Nat){l:List D}(h:True->l=hs'):uw k l=uw k hs':=by rw[h trivial]
def osI(b:Bool)(k:Nat)(d:D)(ds:List D):EL:=if b then uw (k+1) ds else(k,d)::uw (k+1) ds
theorem ak7(k:Nat)(d:D):uw k (d::ds)=osI (fc d) k d ds:=rfl
theorem arq(k:Nat)(d:D):osI true k d ds=uw (k+1) ds:=rfl
theorem arp(k:Nat)(d:D):osI false k d ds=(k,d)::uw (k+1) ds:=rfl

theorem acD(b:Bool):rT (.bool b)=.bool b:=rfl
variable(k:IntKind)
theorem aeF(n:Int):rT (.int k n)=.int k n:=rfl
variable(s:ByteArray)
theorem aeH:rT (.string s)=.str s:=rfl
theorem aeG:rT (.slice none 0 0)=.nil:=rfl
theorem aai:rT .nilIface=.ig:=rfl
def afF(b:Bool):D.names (.bool b)=[]:=by rw[D.names.eq_def]
variable(m:Int)
def aio:D.names (.int k m)=[]:=by rw[D.names.eq_def]
def air:D.names (.str s)=[]:=by rw[D.names.eq_def]
def ain:D.names (.emp)=[]:=by rw[D.names.eq_def]
variable(z:Nat)(rows:List (List D))
def akQ:D.names (.sl z rows)=[]:=by rw[D.names.eq_def]
variable(cs:List D)
def ac6:D.names (.bE cs)=[]:=by rw[D.names.eq_def]
def aip(z:Nat)(rows:List (List D)):D.names (.own z rows)=[]:=by rw[D.names.eq_def]
def aiq:D.names (.ref r)=[r]:=by rw[D.names]
variable(o:Nat)
def afE:D.names (.addr r o)=[r]:=by rw[D.names]
def ac7(k:Nat):D.names (.cw r z i k)=[r]:=by rw[D.names]
variable(l:Nat)
def afH(lo:Nat):D.names (.gq r z lo l)=[r]:=by rw[D.names]
variable(c:Nat)
def afG:D.names (.eC r o z l c)=[r]:=by rw[D.names]
def akP(f:FuncId):D.names (.fn f cs)=D.bW cs:=by rw[D.names]
def ail:D.names (.agg cs)=D.bW cs:=by rw[D.names]
def aim:D.names (.box cs)=D.bW cs:=by rw[D.names]
def afD:D.bW []=[]:=by rw[D.bW]
def ac5(d:D)(l:List D):D.bW (d::l)=d.names++D.bW l:=by rw[D.bW]
variable(q:Nat)
def afp  : D.kill q (.undef)=.undef:=by rw[D.kill.eq_def]
def ah3(b:Bool):D.kill q (.bool b)=.bool b:=by rw[D.kill.eq_def]
def aku:D.kill q (.int k m)=.int k m:=by rw[D.kill.eq_def]
def aky:D.kill q (.str s)=.str s:=by rw[D.kill.eq_def]
def akv  : D.kill q (.nil)=.nil:=by rw[D.kill.eq_def]
def am9:D.kill q (.sl z rows)=.sl z rows:=by rw[D.kill.eq_def]
def afo:D.kill q (.bE cs)=.bE cs:=by rw[D.kill.eq_def]
def akw:D.kill q (.own z rows)=.own z rows:=by rw[D.kill.eq_def]
def akx:D.kill q (.ref r)=if r=q then .undef else .ref r:=by rw[D.kill]
def ah2:D.kill q (.addr r o)=if r=q then .undef else .addr r o:=by rw[D.kill]
def am8(f:FuncId):D.kill q (.fn f cs)=.fn f  (D.lq q cs):=by rw[D.kill]
def aks:D.kill q (.agg cs)=.agg  (D.lq q cs):=by rw[D.kill]
def akt:D.kill q (.box cs)=.box  (D.lq q cs):=by rw[D.kill]
def ah1:D.lq q []=[]:=by rw[D.lq]
def afn(d:D)(l:List D):D.lq q (d::l)=d.kill q::D.lq q l:=by rw[D.lq]
def fz(e:Env)(q:Nat)(d:D):D:=nC (e.o q) q d
def ZE(e:Env)(q:Nat)(l:List D):List D:=xL (e.o q) q l
variable{d':D}
@[congr] theorem akc{e:Env}{q:Nat}{d:D}(h:True->d=d'):fz e q d=fz e q d':=by rw[h trivial]
@[congr] theorem ahE{e:Env}{q:Nat}{d:List D}(h:True->d=hs'):ZE e q d=ZE e q hs':=by rw[h trivial]
def fzI(b:Bool)(x d:D):D:=if b then x else d
variable{b':Bool}
@[congr] theorem ahC{b:Bool}{x d:D}(h:True->b=b'):fzI b x d=fzI b' x d:=by rw[h trivial]
theorem aka(x d:D):fzI true x d=x:=rfl
theorem ahD(x d:D):fzI false x d=d:=rfl
def ake  : fz e q (.undef)=.undef:=by rw[fz,nC.eq_def]
def amK(b:Bool):fz e q (.bool b)=.bool b:=by rw[fz,nC.eq_def]
def aoV:fz e q (.int k m)=.int k m:=by rw[fz,nC.eq_def]
def aoZ:fz e q (.str s)=.str s:=by rw[fz,nC.eq_def]
def aoW  : fz e q (.nil)=.nil:=by rw[fz,nC.eq_def]
def aqE:fz e q (.sl z rows)=.sl z rows:=by rw[fz,nC.eq_def]
def akd:fz e q (.bE cs)=.bE cs:=by rw[fz,nC.eq_def]
def aoX:fz e q (.own z rows)=.own z rows:=by rw[fz,nC.eq_def]
def aoY:fz e q (.ref r)=fzI (bm (r==q)) (uz (e.o q)) (.ref r):=by rw[fz,nC];rfl
def amJ:fz e q (.addr r o)=fzI (bm (r==q)) (nY qH o (e.o q)) (.addr r o):=by rw[fz,nC];rfl
def aqD(f:FuncId):fz e q (.fn f cs)=.fn f  (ZE e q cs):=by rw[fz,nC];rfl
def aoT:fz e q (.agg cs)=.agg  (ZE e q cs):=by rw[fz,nC];rfl
def aoU:fz e q (.box cs)=.box  (ZE e q cs):=by rw[fz,nC];rfl
def amI:ZE e q []=[]:=by rw[ZE,xL]
def akb(d:D)(l:List D):ZE e q (d::l)=fz e q d::ZE e q l:=by rw[ZE,xL];rfl
def aiO(q:Nat->Option Nat)  : D.nI q (.undef)=.undef:=by rw[D.nI.eq_def]
def alo(q:Nat->Option Nat)(b:Bool):D.nI q (.bool b)=.bool b:=by rw[D.nI.eq_def]
def anL(q:Nat->Option Nat):D.nI q (.int k m)=.int k m:=by rw[D.nI.eq_def]
def anO(q:Nat->Option Nat):D.nI q (.str s)=.str s:=by rw[D.nI.eq_def]
def apy(q:Nat->Option Nat):D.nI q (.sl z rows)=.sl z rows:=by rw[D.nI.eq_def]
def anM(q:Nat->Option Nat):D.nI q (.own z rows)=.own z rows:=by rw[D.nI.eq_def]
def anN(q:Nat->Option Nat):D.nI q (.ref r)=vJ (q r) (.ref) .undef:=by rw[D.nI];cases q r<;>rfl
def anJ(q:Nat->Option Nat):D.nI q (.agg cs)=.agg  (D.wz q cs):=by rw[D.nI]
def anP(q:Nat->Option Nat):D.nI q (.bI cs)=.bI  (D.wz q cs):=by rw[D.nI]
def anK(q:Nat->Option Nat):D.nI q (.box cs)=.box  (D.wz q cs):=by rw[D.nI]
def aln(q:Nat->Option Nat):D.wz q []=[]:=by rw[D.wz]
def aiN(q:Nat->Option Nat)(d:D)(l:List D):D.wz q (d::l)=d.nI q::D.wz q l:=by rw[D.wz]
theorem ahG(f:Nat->D)(d:D):vJ (some i) f d=f i:=rfl
theorem ahF(f:Nat->D)(d:D):vJ none f d=d:=rfl
variable{o':Option Nat}
@[congr] theorem ae'{i:Option Nat}{f:Nat->D}{d:D}(h:True->i=o'):vJ i f d=vJ o' f d:=by rw[h trivial]
@[congr] theorem aaC{b:Bool}{d:D}(h:True->b=b'):dX b d=dX b' d:=by rw[h trivial]
theorem acK(d:D):dX true d=.undef:=rfl
theorem aaD(d:D):dX false d=d:=rfl
variable(x:List Nat)
theorem amx(b:Bool):bo e x (j+1) (.bool b)=.bool b:=rfl
theorem aoF:bo e x (j+1) (.int k m)=.int k m:=rfl
theorem aoE  : bo e x (j+1) (.emp)=.emp:=rfl
theorem aqv:bo e x (j+1) (.sl z rows)=.sl z rows:=rfl
theorem aoG:bo e x (j+1) (.ref r)=dX (bm (x.contains r)) (uz (e.o r)):=rfl
theorem amw:bo e x (j+1) (.addr r o)=dX (bm (x.contains r)) (nY (bo e x j) o (e.o r)):=rfl
theorem aqu(f:FuncId):bo e x (j+1) (.fn f cs)=.fn f  (cs.map (bo e x j)):=rfl
theorem amy(d:D):bo e x 0 d=qH d:=rfl
def cv(e:Env)(bw:Bool)(gs:List Nat)(k:Nat)(d:D):D:=conv bw gs e.o k d
variable{gs:List Nat}
@[congr] theorem ajV{e:Env}{bw:Bool}{k:Nat}{d:D}(h:True->d=d'):cv e bw gs k d=cv e bw gs k d':=by rw[h trivial]
variable(bw:Bool)
theorem amC(b:Bool):cv e bw x (j+1) (.bool b)=.bool b:=rfl
theorem aoI:cv e bw x (j+1) (.int k m)=.int k m:=rfl
theorem aoL:cv e bw x (j+1) (.str s)=.str s:=rfl
theorem aoJ  : cv e bw x (j+1) (.nil)=.nil:=rfl
theorem aqy:cv e bw x (j+1) (.sl z rows)=.sl z rows:=rfl
theorem ajW:cv e bw x (j+1) (.bE cs)=.bE cs:=rfl
theorem aoK:cv e bw x (j+1) (.ref r)=vJ (idx x r) (.ref) (dX (bm (!bw)) (bo e x j (dm (.ref r)))):=rfl
theorem amB:cv e bw x (j+1) (.addr r o)=vJ (idx x r) (λx=>.addr x o) (dX (bm (!bw)) (bo e x j (dm (.addr r o)))):=rfl
theorem aqx(f:FuncId):cv e bw x (j+1) (.fn f cs)=.fn f  (cs.map (cv e bw x j)):=rfl
theorem aoH:cv e bw x (j+1) (.agg cs)=.agg  (cs.map (cv e bw x j)):=rfl
def ZD(e:Env)(bw:Bool)(gs:List Nat)(k:Nat)(d:D):D:=yu bw gs e.o k d
@[congr] theorem ahn{e:Env}{bw:Bool}{k:Nat}{d:D}(h:True->d=d'):ZD e bw gs k d=ZD e bw gs k d':=by rw[h trivial]
theorem amz:ZD e bw x j (.box cs)=.box (cs.map (cv e bw x j)):=rfl
theorem amA:ZD e bw x j (.own z rows)=.own z rows:=rfl
attribute [go_sem ↓] apx alm anI ap0 apZ apW apX am7 am6 arj ari look_nil aii an3 anv aka ahD ahG ahF acK aaD
attribute [go_sem] alU ak7 arq arp acD aeF aeH aeG aai afF aio air ain akQ ac6 aip aiq afE ac7 afH afG akP ail aim afD ac5 afp ah3 aku aky akv am9 afo akw akx ah2 am8 aks akt ah1 afn ake amK aoV aoZ aoW aqE akd aoX aoY amJ aqD aoT aoU amI akb aiO alo anL anO apy anM anN anJ anP anK aln aiN amx aoF aoE aqv aoG amw aqu amy amC aoI aoL aoJ aqy ajW aoK amB aqx aoH amz amA
mutual
/-- data that names no object -/
def Pl:D->Prop
 | .fn _ cs=>vv cs
 | .agg cs=>vv cs
 | .bI cs=>vv cs
 | .box _| .own _ _| .ref _| .addr _ _| .cw _ _ _ _| .gq _ _ _ _| .eC _ _ _ _ _=>False
 | _=>True
def vv:List D->Prop
 | []=>True
 |d::l=>Pl d/\vv l
end
def amn(b:Bool):Pl (.bool b)=True:=by rw[Pl.eq_def]
def aos:Pl (.int k m)=True:=by rw[Pl.eq_def]
def aou:Pl (.str s)=True:=by rw[Pl.eq_def]
def aot:Pl (.nil)=True:=by rw[Pl.eq_def]
def ajA:Pl (.ig)=True:=by rw[Pl.eq_def]
def aqr:Pl (.sl z rows)=True:=by rw[Pl.eq_def]
def ajz:Pl (.bE cs)=True:=by rw[Pl.eq_def]
def aqq(f:FuncId):Pl (.fn f cs)=vv cs:=by rw[Pl]
def aor:Pl (.agg cs)=vv cs:=by rw[Pl]
def aov:Pl (.bI cs)=vv cs:=by rw[Pl]
def amm:vv []=True:=by rw[vv]
def ajy(d:D)(l:List D):vv (d::l)=(Pl d/\vv l):=by rw[vv]
theorem FF:∀{l:List D},vv l->∀d∈l,Pl d
 | [],_,d,h=>by cases h
 |x::l,h,d,hd=>by
  rw[vv]at h;rcases mem_cons.1 hd with rfl|hd
  ·exact h.1
  ·exact FF h.2 d hd
attribute [go_sem] amn aos aou aot ajA aqr ajz aqq aor aov amm ajy
mutual
theorem Pl.names:∀(d:D),Pl d->d.names=[]
 | .fn _ cs,h=>by rw[Pl]at h;rw[D.names];exact vv.names cs h
 | .agg cs,h=>by rw[Pl]at h;rw[D.names];exact vv.names cs h
 | .bI cs,h=>by rw[Pl]at h;rw[D.names];exact vv.names cs h
 | .box _,h| .own _ _,h| .ref _,h| .addr _ _,h| .cw _ _ _ _,h| .gq _ _ _ _,h| .eC _ _ _ _ _,h=>by rw[Pl]at h;exact h.elim
 | .undef,_| .bool _,_| .int _ _,_| .str _,_| .nil,_| .emp,_| .mD,_| .ig,_| .iV,_| .oG,_| .sl _ _,_| .bE _,_=>by rw[D.names.eq_def]
theorem vv.names:∀(l:List D),vv l->D.bW l=[]
 | [],_=>by rw[D.bW]
 |d::l,h=>by rw[vv]at h;rw[D.bW,Pl.names d h.1,vv.names l h.2];rfl
end
mutual
theorem Pl.nI(f:Nat->Option Nat):∀(d:D),Pl d->d.nI f=d
 | .fn _ cs,h=>by rw[Pl]at h;rw[D.nI,vv.nI f cs h]
 | .agg cs,h=>by rw[Pl]at h;rw[D.nI,vv.nI f cs h]
 | .bI cs,h=>by rw[Pl]at h;rw[D.nI,vv.nI f cs h]
 | .box _,h| .own _ _,h| .ref _,h| .addr _ _,h| .cw _ _ _ _,h| .gq _ _ _ _,h| .eC _ _ _ _ _,h=>by rw[Pl]at h;exact h.elim
 | .undef,_| .bool _,_| .int _ _,_| .str _,_| .nil,_| .emp,_| .mD,_| .ig,_| .iV,_| .oG,_| .sl _ _,_| .bE _,_=>by rw[D.nI.eq_def]
theorem vv.nI(f:Nat->Option Nat):∀(l:List D),vv l->D.wz f l=l
 | [],_=>by rw[D.wz]
 |d::l,h=>by rw[vv]at h;rw[D.wz,Pl.nI f d h.1,vv.nI f l h.2]
end
theorem Pl.conv(bw:Bool)(gs:List Nat)(o:Nat->D):∀(k:Nat)(d:D),Pl d->conv bw gs o k d=d
 | 0,d,h=>by simp[Go.Abs.conv,qH,Pl.names d h]
 |k+1,d,h=>by
  have B:∀cs:List D,vv cs->cs.map (Go.Abs.conv bw gs o k)=cs:=by
   intro cs u
   conv=>rhs;rw[<-map_id cs]
   exact map_congr_left λd v=>Pl.conv bw gs o k d (FF u d v)
  cases d<;>try rfl
  all_goals rw[Pl]at h
  all_goals first|exact h.elim|skip
  all_goals simp only[Go.Abs.conv];rw[B _ h]

variable{fv fv':D}{S:Prop}{as ds':List D}{w:Array Edge}{p:String}{A:Option (Nat×Bool)}(rs:List Nat){l' G:List Nat}{C F:List (Nat×D)}(obs:List (Nat×D))(dv:D)
section
variable{P:Program}{e:Env}{dr:Bool}{K:Env->Prop}{d:Nat}{f:Operand}{args:List Operand}
def aG.bC{k:FuncId}{ds:List D}(h:Spec P k [] ds [] fv)(Q:vv ds/\Pl fv/\K (ck e d fv)):aG P dr e d f args K S (.fn k hs') ds:=by
 rintro⟨v,u⟩;refine .inl ?_;have u:ds=args.map (rd e)++hs':=by rw[u,<-v];rfl
 obtain⟨B,E,N⟩:=Q;refine⟨[],[],false,[],fv,λ_=>⟨rfl,rfl⟩,?_⟩;show oJ P e d args [] false [] fv (KW dr K) (rd e f);rw[<-v];refine⟨nodup_nil,by simp,by simp[l6],⟨fS _,by simp⟩,by simp,?_,?_⟩
 ·rw[<-u];have:ds.map (conv false [] e.o 4)=ds:=by
   conv=>rhs;rw[<-map_id ds]
   exact map_congr_left λd O=>Pl.conv false [] e.o 4 d (FF B d O)
  rw[this];exact h
 ·have:eK e d [] [] fv=ck e d fv:=by
   unfold eK;rw[Pl.nI _ fv E];rfl
  rw[this];exact .inl N
def cz(P:Program)(e:Env)(d:Nat)(f:Operand)(args:List Operand)(K:Env->Prop)(gs:List Nat)(bw:Bool)(fv:D)(ds hs:List D):Prop:=
 fv=cv e bw gs 5 (rd e f)->ds=args.map (λx=>cv e bw gs 4 (rd e x))++qu (cv e bw gs 5 (rd e f))->hs=gs.map (λr=>ZD e bw gs 4 (e.o r))->∃hs' dv,oJ P e d args gs bw hs' dv K (rd e f)
@[congr] theorem ab8{bw:Bool}{ds:List D}(u:True->fv=fv')(v:True->ds=ds')(B:True->as=hs'):cz P e d f args K gs bw fv ds as=cz P e d f args K gs bw fv' ds' hs':=by rw[u trivial,v trivial,B trivial]
theorem aG.gE(fz gs:List Nat)(bw:Bool)(u:dr=true->fz=[]/\gs=[])(h:cz P (ia fz e) d f args K gs bw (cv (ia fz e) bw gs 5 (rd (ia fz e) f)) (args.map (λx=>cv (ia fz e) bw gs 4 (rd (ia fz e) x))++qu (cv (ia fz e) bw gs 5 (rd (ia fz e) f))) (gs.map (λr=>ZD (ia fz e) bw gs 4 ((ia fz e).o r)))) :
  aG P dr e d f args K S fv as:=by
 intro _;obtain⟨hs',dv,h⟩:=h rfl rfl rfl;exact .inl ⟨fz,gs,bw,hs',dv,u,td (λ_=>.inl) h⟩
def Tb(P:Program)(e:Env)(d:Nat)(f:Operand)(args:List Operand)(K:Env->Prop)(gs:List Nat)(bw:Bool)(fv:D)(ds hs:List D):Prop:=
 fv=cv e bw gs 5 (rd e f)->ds=args.map (λx=>cv e bw gs 4 (rd e x))++qu (cv e bw gs 5 (rd e f))->hs=gs.map (λr=>ZD e bw gs 4 (e.o r))->∃Φ,F9 P e d args gs bw Φ K (rd e f)
@[congr] theorem ab'{bw:Bool}{ds:List D}(u:True->fv=fv')(v:True->ds=ds')(B:True->as=hs'):Tb P e d f args K gs bw fv ds as=Tb P e d f args K gs bw fv' ds' hs':=by rw[u trivial,v trivial,B trivial]
def Bg(r:Nat):List Nat->Prop
 | []=>True
 |x::l=>r≠x/\Bg r l
def xj:List Nat->Prop
 | []=>True
 |x::l=>Bg x l/\xj l
theorem afS:Bg r []=True:=rfl
theorem ac9(x:Nat)(l:List Nat):Bg r (x::l)=(r≠x/\Bg r l):=rfl
theorem afR:xj []=True:=rfl
theorem ac8(x:Nat)(l:List Nat):xj (x::l)=(Bg x l/\xj l):=rfl
theorem HN{r:Nat}:∀{l:List Nat},Bg r l->r∉l
 | [],_,h=>by cases h
 |x::l,⟨h1,h2⟩,h=>by
  rcases mem_cons.1 h with rfl|h
  ·exact h1 rfl
  ·exact HN h2 h
theorem Bf:∀{l:List Nat},xj l->l.Nodup
 | [],_=>nodup_nil
 |x::l,⟨h1,h2⟩=>nodup_cons.2 ⟨HN h1,Bf h2⟩
def Td(d:D):Prop:=fc d=false
def L6(e:Env):List Nat->Prop
 | []=>True
 |r::rs=>Td (e.o r)/\L6 e rs
def F7(e:Env):List Nat->Prop
 | []=>True
 |r::rs=>WU (e.o r)/\F7 e rs
theorem ajj:L6 e []=True:=rfl
theorem agF:L6 e (r::rs)=(Td (e.o r)/\L6 e rs):=rfl
theorem ajk:F7 e []=True:=rfl
theorem agG:F7 e (r::rs)=(WU (e.o r)/\F7 e rs):=rfl
@[congr] theorem adJ{l:List Nat}(h:True->l=l'):F7 e l=F7 e l':=by rw[h trivial]
theorem aol(d:D):Td d=(fc d=false):=rfl
theorem F6:∀{rs:List Nat},L6 e rs->∀r∈rs,e.o r≠.undef
 | [],_,r,h=>by cases h
 |x::rs,⟨h1,h2⟩,r,h=>by
  rcases mem_cons.1 h with rfl|h
  ·intro u;unfold Td at h1;rw[u]at h1;exact Bool.noConfusion h1
  ·exact F6 h2 r h
theorem F8:∀{rs:List Nat},F7 e rs->∀r∈rs,e.o r=.undef
 | [],_,r,h=>by cases h
 |x::rs,⟨h1,h2⟩,r,h=>by
  rcases mem_cons.1 h with rfl|h
  ·exact h1
  ·exact F8 h2 r h
def af5:List (Nat×D)->Env->Env
 | [],e=>e
 |x::l,e=>af5 l (dU e x.1 x.2)
def Ta(f:Nat->Option Nat):List Nat->List D->List (Nat×D)
 |r::rs,h::hs=>(r,h.nI f)::Ta f rs hs
 | _,_=>[]
theorem D0(f:Nat->Option Nat):∀(ns:List Nat)(hs:List D)(e:Env),H9 f ns hs e=af5 (Ta f ns hs) e
 | [],_,_=>rfl
 | _::_,[],_=>rfl
 |r::rs,h::hs,e=>D0 f rs hs (dU e r (h.nI f))
def W5(e:Env)(d:Nat)(K:Env->Prop)(u:List Nat)(obs:List (Nat×D))(dv:D):Prop:=K (ck (af5 obs (yI u e)) d dv)
@[congr] theorem agY(u:True->gs=l')(v:True->C=F)(B:True->fv=d'):W5 e d K gs C fv=W5 e d K l' F d':=by rw[u trivial,v trivial,B trivial]
theorem ajB:W5 e d K (r::x) obs dv=W5 (lp r e) d K x obs dv:=rfl
theorem amp(x:Nat×D):W5 e d K [] (x::obs) dv=W5 (dU e x.1 x.2) d K [] obs dv:=rfl
theorem amo:W5 e d K [] [] dv=K (ck e d dv):=rfl
def Z0(e:Env)(d:Nat)(K:Env->Prop)(gs:List Nat)(hs':List D)(dv:D)(ns:List Nat):Prop:=W5 e d K (lW gs hs') (Ta (Km ns) ns hs') (dv.nI (Km ns))
@[congr] theorem agZ(u:True->l'=G):Z0 e d K gs hs' fv l'=Z0 e d K gs hs' fv G:=by rw[u trivial]
theorem aow(gs:List Nat):Z0 e d K gs cs dv x=W5 e d K (lm (lW gs cs)) (Ta (Km x) x cs) (dv.nI (Km x)):=rfl
def oJ.intro{gs:List Nat}{bw:Bool}{k:FuncId}{v ds hs hs':List D}{dv:D}(h:Spec P k hs ds hs' dv)
  (Q:xj gs/\L6 e gs/\F7 e (lm (l6 d 0 (hs'.length-gs.length)))/\gs.length<=hs'.length/\hs'.length<=gs.length+16/\(bw=true->sO dv/\∀h∈hs',xg h)/\Z0 e d K gs hs' dv (lm (gj d gs hs'))) :
  D.fn k v=cv e bw gs 5 (rd e f)->ds=args.map (λx=>cv e bw gs 4 (rd e x))++qu (cv e bw gs 5 (rd e f))->hs=gs.map (λr=>ZD e bw gs 4 (e.o r))->oJ P e d args gs bw hs' dv K (rd e f):=by
 intro u E O;obtain⟨R,T,U,V,W,X,N⟩:=Q;rw[<-u]at E;cases B:rd e f
 case fn k0 caps0 =>
  rw[B]at u;simp only[cv,conv,D.fn.injEq]at u;obtain⟨rfl,rfl⟩:=u;refine⟨Bf R,F6 T,F8 U,⟨V,W⟩,X,?_,?_⟩
  ·subst E;subst O;rw[jF,map_map];exact h
  ·unfold Z0 W5 at N;unfold eK;rw[D0];exact N
 all_goals rw[B]at u;simp only[cv,conv]at u
 all_goals exfalso
 all_goals first
  |cases u
  | (rename_i r;cases hi:idx gs r<;>rw[hi]at u<;>cases bw<;>simp only[vJ,dX,pP,Bool.not_false,Bool.not_true,if_true,Bool.false_eq_true,if_false]at u<;>first|cases u| (split at u<;>first|cases u| (unfold uz at u;split at u<;>cases u)))
  | (rename_i r _;cases hi:idx gs r<;>rw[hi]at u<;>cases bw<;>simp only[vJ,dX,pP,Bool.not_false,Bool.not_true,if_true,Bool.false_eq_true,if_false]at u<;>first|cases u| (split at u<;>first|cases u| (unfold nY at u;split at u<;>cases u)))
  | (rename_i r _ _ _;cases hi:idx gs r<;>rw[hi]at u<;>cases bw<;>simp only[vJ,dX,pP,Bool.not_false,Bool.not_true,if_true,Bool.false_eq_true,if_false]at u<;>first|cases u| (split at u<;>first|cases u| (unfold vB at u;split at u<;>(try split at u)<;>cases u)| (unfold nZ at u;split at u<;>(try split at u)<;>cases u)| (unfold vA at u;split at u<;>(try split at u)<;>cases u)))
  | (rename_i r _ _ _ _;cases hi:idx gs r<;>rw[hi]at u<;>cases bw<;>simp only[vJ,dX,pP,Bool.not_false,Bool.not_true,if_true,Bool.false_eq_true,if_false]at u<;>first|cases u| (split at u<;>first|cases u| (unfold vB at u;split at u<;>(try split at u)<;>cases u)| (unfold nZ at u;split at u<;>(try split at u)<;>cases u)| (unfold vA at u;split at u<;>(try split at u)<;>cases u)))
def cz.gF{gs:List Nat}{bw:Bool}{k:FuncId}{u ds hs hs':List D}{dv:D}(h:Spec P k hs ds hs' dv)
  (N:xj gs/\L6 e gs/\F7 e (lm (l6 d 0 (hs'.length-gs.length)))/\gs.length<=hs'.length/\hs'.length<=gs.length+16/\(bw=true->sO dv/\∀h∈hs',xg h)/\Z0 e d K gs hs' dv (lm (gj d gs hs'))) :
  cz P e d f args K gs bw (.fn k u) ds hs:=λv B E=>⟨hs',dv,oJ.intro h N v B E⟩
def Rm(l:List Nat):Prop:=l=[]
@[congr] theorem ZZ{l:List Nat}(h:True->l=l'):Rm l=Rm l':=by rw[h trivial]
def Ki(P:Program)(e:Env)(d:Nat)(f:Operand)(args:List Operand)(K:Env->Prop)(gs:List Nat)(fv:D)(ds hs:List D):Prop:=
 fv=cv e false gs 5 (rd e f)->ds=args.map (λx=>cv e false gs 4 (rd e x))++qu (cv e false gs 5 (rd e f))->hs=gs.map (λr=>ZD e false gs 4 (e.o r))->∃hs' dv,lW gs hs'=[]/\oJ P e d args gs false hs' dv K (rd e f)
@[congr] theorem ab7{ds:List D}(u:True->fv=fv')(v:True->ds=ds')(B:True->as=hs'):Ki P e d f args K gs fv ds as=Ki P e d f args K gs fv' ds' hs':=by rw[u trivial,v trivial,B trivial]
theorem Ki.intro{gs:List Nat}{k:FuncId}{v ds hs hs':List D}{dv:D}(h:Spec P k hs ds hs' dv)
  (u:Rm (lm (lW gs hs'))/\xj gs/\L6 e gs/\F7 e (lm (l6 d 0 (hs'.length-gs.length)))/\gs.length<=hs'.length/\hs'.length<=gs.length+16/\Z0 e d K gs hs' dv (lm (gj d gs hs'))) :
  Ki P e d f args K gs (.fn k v) ds hs:=λB E N=>⟨hs',dv,u.1,oJ.intro h ⟨u.2.1,u.2.2.1,u.2.2.2.1,u.2.2.2.2.1,u.2.2.2.2.2.1,(λh=>by cases h),u.2.2.2.2.2.2⟩ B E N⟩
def N5.apt{np:Nat}{ops:List Oper}{o:Oper}(gs:List Nat)(E:gs.all (λr=>(IG np ops (args.headD (.global 0))).contains r)=true)
  (h:ZT np ops o (Ig e 5 (lm (gs++D.bW (rd e f::args.map (rd e)))))/\Ki P e d f args K gs (cv e false gs 5 (rd e f)) (args.map (λx=>cv e false gs 4 (rd e x))++qu (cv e false gs 5 (rd e f))) (gs.map (λr=>ZD e false gs 4 (e.o r)))):N5 P np ops o e d f args K fv as:=by
 intro _;obtain⟨hs',dv,u,v⟩:=h.2 rfl rfl rfl;exact⟨gs,hs',dv,(λr B=>contains_iff_mem.1 (bL.1 E r B)),h.1,u,v⟩
def Tb.intro{gs:List Nat}{bw:Bool}{k:FuncId}{v ds hs:List D}{Φ:List D->D->Prop}(h:BN P k hs ds Φ)
  (T:xj gs) (U:L6 e gs) (Q:∀hs' dv,Φ hs' dv->F7 e (lm (l6 d 0 (hs'.length-gs.length)))/\gs.length<=hs'.length/\hs'.length<=gs.length+16/\(bw=true->sO dv/\∀h∈hs',xg h)/\Z0 e d K gs hs' dv (lm (gj d gs hs'))) :
  Tb P e d f args K gs bw (.fn k v) ds hs:=by
 intro u E O;refine⟨Φ,?_⟩;rw[<-u]at E;cases B:rd e f
 case fn k0 caps0 =>
  rw[B]at u;simp only[cv,conv,D.fn.injEq]at u;obtain⟨rfl,rfl⟩:=u;refine⟨Bf T,F6 U,?_,λhs' dv R=>?_⟩
  ·subst E;subst O;rw[jF,map_map];exact h
  ·obtain⟨V,W,X,Y,N⟩:=Q hs' dv R;refine⟨F8 V,⟨W,X⟩,Y,?_⟩;unfold Z0 W5 at N;unfold eK;rw[D0];exact N
 all_goals rw[B]at u;simp only[cv,conv]at u
 all_goals exfalso
 all_goals first
  |cases u
  | (rename_i r;cases hi:idx gs r<;>rw[hi]at u<;>cases bw<;>simp only[vJ,dX,pP,Bool.not_false,Bool.not_true,if_true,Bool.false_eq_true,if_false]at u<;>first|cases u| (split at u<;>first|cases u| (unfold uz at u;split at u<;>cases u)))
  | (rename_i r _;cases hi:idx gs r<;>rw[hi]at u<;>cases bw<;>simp only[vJ,dX,pP,Bool.not_false,Bool.not_true,if_true,Bool.false_eq_true,if_false]at u<;>first|cases u| (split at u<;>first|cases u| (unfold nY at u;split at u<;>cases u)))
  | (rename_i r _ _ _;cases hi:idx gs r<;>rw[hi]at u<;>cases bw<;>simp only[vJ,dX,pP,Bool.not_false,Bool.not_true,if_true,Bool.false_eq_true,if_false]at u<;>first|cases u| (split at u<;>first|cases u| (unfold vB at u;split at u<;>(try split at u)<;>cases u)| (unfold nZ at u;split at u<;>(try split at u)<;>cases u)| (unfold vA at u;split at u<;>(try split at u)<;>cases u)))
  | (rename_i r _ _ _ _;cases hi:idx gs r<;>rw[hi]at u<;>cases bw<;>simp only[vJ,dX,pP,Bool.not_false,Bool.not_true,if_true,Bool.false_eq_true,if_false]at u<;>first|cases u| (split at u<;>first|cases u| (unfold vB at u;split at u<;>(try split at u)<;>cases u)| (unfold nZ at u;split at u<;>(try split at u)<;>cases u)| (unfold vA at u;split at u<;>(try split at u)<;>cases u)))
attribute [go_sem] afS ac9 afR ac8 aol ajB amp amo aow
attribute [go_sem ↓] ajj agF ajk agG
end
variable(hs:List D)
theorem al'(f:Nat->Option Nat):Ta f [] hs=[]:=rfl
variable(h:D)
theorem aji(f:Nat->Option Nat):Ta f (r::rs) (h::hs)=(r,h.nI f)::Ta f rs hs:=rfl
theorem aoz:Km x i=x[i]?:=rfl
theorem aho:lW [] hs=[]:=rfl
variable(g:Nat)
theorem aeJ(gs:List Nat):lW (g::gs) (h::hs)=if fc h then g::lW gs hs else lW gs hs:=rfl
variable(d:Nat)
theorem ahd(gs:List Nat):gj d gs cs=gs++l6 d 0 (cs.length-gs.length):=rfl
theorem afN(k:Nat):l6 d k 0=[]:=rfl
theorem afM(k m:Nat):l6 d k (m+1)=nm d k::l6 d (k+1) m:=rfl
theorem amN:idx [] r=none:=rfl
theorem aki(gs:List Nat):idx (g::gs) r=if g=r then some 0 else(idx gs r).map (· + 1):=rfl
theorem ahA:ia [] e=e:=rfl
theorem ae7:ia (r::rs) e=ia rs (Ab r e):=rfl
theorem aoS:(Ab r e).t j=fz e r (e.t j):=Eq.trans rfl rfl
theorem aoR:(Ab r e).o j=if j=r then .undef else fz e r (e.o j):=Eq.trans rfl rfl
attribute [go_sem] al' aji aoz aho aeJ ahd afN afM amN aki
attribute [go_sem ↓] ahA ae7 aoS aoR
attribute [go_sem] or_false false_or
theorem ahc:uz (.own z rows)=.sl z rows:=rfl
theorem aes(f:D->D):nY f o (.box cs)=.bE ((cs.drop o).map f):=rfl
variable(z':Nat)
attribute [go_sem] ahc aes
attribute [go_sem] sO xh sN xg sC
attribute [go_sem] qH isEmpty_nil isEmpty_cons
theorem ZF:fc (.undef)=true:=rfl
theorem acQ:fc (.own z rows)=false:=rfl
theorem acP:fc (.box cs)=false:=rfl
variable{I:Nat->Bool}{H:Nat->Option Nat}{u':D}
@[congr] theorem ah'{d u:D}(h:True->d=d')(v:True->u=u'):mg H I d u=mg H I d' u':=by rw[h trivial,v trivial]
variable(lv:Nat->Bool)(rh:Nat->Option Nat)
variable(a:Bool)
def akE(b:Bool):mg rh lv (.bool a) (.bool b)=(a=b):=by simp[mg]
variable(k':IntKind)
def anh(a b:Int):mg rh lv (.int k a) (.int k' b)=(k=k'/\a=b):=by simp[mg]
def ank(a b:ByteArray):mg rh lv (.str a) (.str b)=(a=b):=by simp[mg]
def apd(a b:List (List D)):mg rh lv (.sl z a) (.sl z' b)=(z=z'/\a=b):=by simp[mg]
def aia(a b:List D):mg rh lv (.bE a) (.bE b)=(a=b):=by simp[mg]
def ani  : mg rh lv (.nil) (.nil)=True:=by simp[mg]
def aib(a:List (List D)):mg rh lv (.nil) (.sl z a)=(a=[]):=by simp[mg]
def afu(s:Nat):mg rh lv (.nil) (.ref s)=(rh s=none/\lv s=true):=by simp[mg]
def anj(s:Nat):mg rh lv (.ref r) (.ref s)=(rh s=some r/\lv s=true):=by simp[mg]
variable(b:Nat)
def akD(s a:Nat):mg rh lv (.addr r a) (.addr s b)=(rh s=some r/\lv s=true/\a=b):=by simp[mg]
variable(b1 a1 b2:Nat)
def akG(s a:Nat):mg rh lv (.gq r a a1 z) (.gq s b b1 b2)=(rh s=some r/\lv s=true/\a=b/\a1=b1/\z=b2):=by simp[mg]
variable(b3:Nat)
def akF(s a:Nat):mg rh lv (.eC r a a1 z j) (.eC s b b1 b2 b3)=(rh s=some r/\lv s=true/\a=b/\a1=b1/\z=b2/\j=b3):=by simp[mg]
def ang(a b:List D):mg rh lv (.agg a) (.agg b)=mB rh lv a b:=by simp[mg]
def anl(a b:List D):mg rh lv (.bI a) (.bI b)=mB rh lv a b:=by simp[mg]
variable(f':FuncId)
def apc(f:FuncId)(a b:List D):mg rh lv (.fn f a) (.fn f' b)=(f=f'/\mB rh lv a b):=by simp[mg]
def akC  : mB rh lv [] []=True:=by simp[mB]
def ah9(a b:D)(x:List D):mB rh lv (a::x) (b::cs)=(mg rh lv a b/\mB rh lv x cs):=by simp[mB]
@[congr] theorem aft{d u:List D}(h:True->d=hs')(v:True->u=as):mB H I d u=mB H I hs' as:=by rw[h trivial,v trivial]
@[congr] theorem aic{d u:D}(h:True->d=d')(v:True->u=u'):Vg H I d u=Vg H I d' u':=by rw[h trivial,v trivial]
theorem anm(a b:List D):Vg rh lv (.box a) (.box b)=mB rh lv a b:=by simp[Vg]
def ann(a b:List (List D)):Vg rh lv (.own z a) (.own z' b)=(z=z'/\a=b):=by simp[Vg]
def alg(b:Bool)(x:D):xV (.bool b) x=[]:=by cases x<;>simp[xV]
def anB(x:D):xV (.int k m) x=[]:=by cases x<;>simp[xV]
def anF(x:D):xV (.str s) x=[]:=by cases x<;>simp[xV]
def anC  (x:D):xV (.nil) x=[]:=by cases x<;>simp[xV]
def apw(x:D):xV (.sl z rows) x=[]:=by cases x<;>simp[xV]
def aiK(x:D):xV (.bE cs) x=[]:=by cases x<;>simp[xV]
def anD(x:D):xV (.own z rows) x=[]:=by cases x<;>simp[xV]
def anE(s:Nat):xV (.ref s) (.ref r)=[(s,some r)]:=by simp[xV]
def af3(s:Nat):xV (.ref s) .nil=[(s,none)]:=by simp[xV]
def alf(s a:Nat):xV (.addr s a) (.addr r b)=[(s,some r)]:=by simp[xV]
def ali(s a:Nat):xV (.gq s a a1 z) (.gq r b b1 b2)=[(s,some r)]:=by simp[xV]
def alh(s a:Nat):xV (.eC s a a1 z j) (.eC r b b1 b2 b3)=[(s,some r)]:=by simp[xV]
def anz(a b:List D):xV (.agg a) (.agg b)=CG a b:=by simp[xV]
def anG(a b:List D):xV (.bI a) (.bI b)=CG a b:=by simp[xV]
def anA(a b:List D):xV (.box a) (.box b)=CG a b:=by simp[xV]
def apv(f:FuncId)(a b:List D):xV (.fn f a) (.fn f' b)=CG a b:=by simp[xV]
def alc(x:List D):CG [] x=[]:=by simp[CG]
def aiH(a b:D)(x:List D):CG (a::x) (b::cs)=xV a b++CG x cs:=by simp[CG]
variable{J:List (Nat×Option Nat)}{M:EL}{L:Nat}(t:TypeId)
attribute [go_sem] ZF acQ acP akE anh ank apd aia ani aib afu anj akD akG akF ang anl apc akC ah9 anm ann anE af3 alf ali alh anz anG anA apv alc aiH
attribute [go_sem ↓] alg anB anF anC apw aiK anD
section
variable{P:Program}{e:Env}
theorem ale:Ss e []=[]:=rfl
theorem aiJ(d:D)(r:EL):Ss e ((i,d)::r)=xV (dm d) (e.t i)++Ss e r:=rfl
theorem ald(l:List (Nat×Option Nat)):VT e l []=[]:=rfl
theorem aiI(l:List (Nat×Option Nat))(d:D)(r:EL):VT e l ((i,d)::r)=xV (dm d) (oAt e (m9 l i))++VT e l r:=rfl
@[congr] theorem aiu{o:Option Nat}(h:True->o=o'):oAt e o=oAt e o':=by rw[h trivial]
theorem akV:oAt e (some r)=e.o r:=rfl
theorem akU:oAt e none=.undef:=rfl
theorem anQ(s:Nat):m9 [] s=some s:=rfl
theorem alx(o:Option Nat)(r:List (Nat×Option Nat))(s:Nat):m9 ((i,o)::r) s=if s=i then o else m9 r s:=rfl
theorem amO(s:Nat):Ri [] s=false:=rfl
theorem akj(d:D)(r:EL)(s:Nat):Ri ((i,d)::r) s=if s=i then true else Ri r s:=rfl
@[congr] theorem agS{m:Nat}{ts os:EL}{l:List (Nat×Option Nat)}(h:True->l=J):LeP m e ts os l=LeP m e ts os J:=by rw[h trivial]
@[congr] theorem agU{m:Nat}{ts os:EL}{l:List (Nat×Option Nat)}(h:True->l=J):LeR m e ts os l=LeR m e ts os J:=by rw[h trivial]
theorem aom:Jr e ts os=LeP 16 e ts os (lm (Ss e ts)):=rfl
theorem aon(m:Nat):WZ m e ts os=LeP m e ts os (lm (Ss e ts)):=rfl
theorem aoo(m:Nat)(l:List (Nat×Option Nat)):LeP m e ts os l=LeR m e ts os (lm (l++VT e l os)):=rfl
theorem aop(m:Nat)(l:List (Nat×Option Nat)):LeR m e ts os l=(Uu e (m9 l) os ts/\Js m e (m9 l) os os):=rfl
theorem ajv:Uu e rh os []=True:=rfl
theorem agV(d:D)(r:EL):Uu e rh os ((i,d)::r)=(mg rh (Ri os) (dm (e.t i)) d/\Uu e rh os r):=rfl
@[congr] theorem ad1{os:EL}{d:D}{o:Option Nat}(h:True->o=o'):L7 e H os d o=L7 e H os d o':=by rw[h trivial]
theorem agQ(d:D):L7 e rh os d (some r)=Vg rh (Ri os) (dm (e.o r)) d:=rfl
theorem agP(d:D):L7 e rh os d none=Ho d:=rfl
theorem afh:Ho (.own z rows)=(rows=[]):=rfl
theorem aa0(o:Option Nat):lu o rh []=True:=rfl
def ZI(x:Nat×D)(r:EL):lu none rh (x::r)=lu none rh r:=by simp[lu]
theorem ZJ(a:Nat)(d:D)(r:EL):lu (some a) rh ((i,d)::r)=(rh i≠some a/\lu (some a) rh r):=rfl
@[congr] theorem Yt{o:Option Nat}{os:EL}(h:True->o=o'):lu o H os=lu o' H os:=by rw[h trivial]
theorem aeZ(m s:Nat):KH m s (some r)=(m<=s\/r=s):=by simp[KH]
def aeY(m s:Nat):KH m s none=(m<=s):=by simp[KH]
theorem aju(m:Nat):Js m e rh os []=True:=rfl
theorem agR(m:Nat)(d:D)(r:EL):Js m e rh os ((i,d)::r)=(Ri r i=false/\L7 e rh os d (rh i)/\lu (rh i) rh r/\KH m i (rh i)/\Js m e rh os r):=rfl
attribute [go_sem ↓] ale aiJ ald aiI aom aon ajv agV aju agR
attribute [go_sem] akV akU anQ alx amO akj aoo aop agQ agP afh aa0 ZI ZJ aeZ aeY
attribute [go_sem] Nat.zero_le oF Bool.true_eq_false Bool.false_eq_true ne_eq not_false_eq_true

def rtK(m:Nat)(hs':List D)(d:D)(e:Env)(v:D):Prop:=WZ m (Bn v e) (lm [(0,d)]) (uw 0 hs')
def Te(m:Nat)(e:Env)(ts os:EL):Prop:=WZ m e ts os
theorem apz(m:Nat)(d v:D):rtK m cs d e v=Te (nk m) (Bn v e) [(0,d)] (lm (uw 0 cs)):=rfl
@[congr] theorem acn{m:Nat}{ts os:EL}(u:True->m=L)(h:True->os=M):Te m e ts os=Te L e ts M:=by rw[u trivial,h trivial]
theorem ajx(m:Nat):Te m e ts os=WZ m e ts os:=rfl
theorem amq(rs:List ResultVar)(m:Nat)(d:D):Rn P rs m cs d e=(Bm P e rs/\Norm (dm (J6 P e rs)) (rtK m cs d e)):=rfl
theorem alv(v:D):(Bn v e).t j=if j=0 then v else .undef:=Eq.trans rfl rfl
theorem alu(v:D):(Bn v e).o j=e.o j:=Eq.trans rfl rfl
theorem aga:Bm P e []=True:=rfl
theorem adr(r:ResultVar)(rs:List ResultVar):Bm P e (r::rs)=(IB P e r/\Bm P e rs):=rfl
theorem aiQ(t:Nat):IB P e (.tmp t)=True:=rfl
def agb(a:Nat):IB P e (.cell a t)=EA e (iF P t) (e.t a):=by simp only[IB,EA]<;>rfl
theorem alr(t:Nat):IC P e (.tmp t)=e.t t:=rfl
def aiR(a:Nat):IC P e (.cell a t)=ldT e (iF P t) (e.t a):=by simp only[IC,ldT]<;>rfl
theorem alp(r:ResultVar):J6 P e [r]=IC P e r:=rfl
theorem alq(a b:ResultVar)(l:List ResultVar):J6 P e (a::b::l)=.bI ((a::b::l).map (IC P e)):=rfl
theorem aiP:J6 P e []=.bI []:=rfl
attribute [go_sem ↓] apz amq alv alu aga adr aiQ agb alr aiR alp alq aiP
attribute [go_sem] ajx
end

variable(op:BinOp)
theorem ajN(a b:Int):zX op (.int k a) (.int k' b)=JF op k a b:=rfl
theorem ajO(a b:ByteArray):zX op (.str a) (.str b)=sop op a b:=rfl
theorem ag9(b:Bool):zX op (.bool a) (.bool b)=KJ op (a==b):=rfl
theorem ajM(a b:List D):zX op (.agg a) (.agg b)=KJ op (dI a b):=rfl
theorem amv:zX op .ig .ig=KJ op true:=rfl
theorem amE(b:Bool):KJ .eql b=.bool b:=rfl
theorem amF(b:Bool):KJ .neq b=.bool (!b):=rfl
theorem aah(a b:D)(x:List D):dI (a::x) (b::cs)=(ym a b&&dI x cs):=rfl
def acC:dI [] cs=true:=by simp[dI]
theorem aew(a b:Int):ym (.int k a) (.int k' b)=(a==b):=rfl
theorem acA(b:Bool):ym (.bool a) (.bool b)=(a==b):=rfl
attribute [go_sem] ajN ajO ag9 ajM amv amE amF aah acC aew acA
section
variable{P:Program}
theorem ag7(c:Bool)(a b:Int):yl P c op t (.int k a) (.int k' b)=qc op k k' b:=rfl
theorem ag8(c:Bool)(a b:ByteArray):yl P c op t (.str a) (.str b)=LN op a b:=rfl
theorem aeo(c:Bool)(b:Bool):yl P c op t (.bool a) (.bool b)=(isEq op/\eH P t=.bool):=rfl
theorem ag6(c:Bool)(a b:List D):yl P c op t (.agg a) (.agg b)=(isEq op/\DJ P t=true/\vP (jZ P 9 t) a b):=rfl
theorem ajL(c:Bool):yl P c op t .ig .ig=(isEq op/\isIface P t=true/\c=true):=rfl
attribute [go_sem] ag7 ag8 aeo ag6 ajL
end
def akl:isEq .eql=True:=by simp[isEq]
def akm:isEq .neq=True:=by simp[isEq]
attribute [go_sem] akl akm
attribute [go_sem] isConst
variable(ls:List vu)
theorem Yd(a b:List D):vP (some ls) a b=fT ls a b:=rfl
theorem aaR:fT [] [] []=True:=rfl
theorem ZH(l:vu)(a b:D)(x:List D):fT (l::ls) (a::x) (b::cs)=(Hu l a b/\fT ls x cs):=rfl
theorem afv(a b:Int):Hu .int (.int k a) (.int k' b)=(k=k'):=rfl
theorem acX(b:Bool):Hu .bool (.bool a) (.bool b)=True:=rfl
theorem amP(a b:Int):JF .add k a b=.int k (k.wrap (a+b)):=rfl
theorem am2(a b:Int):JF .sub k a b=.int k (k.wrap (a-b)):=rfl
theorem amW(a b:Int):JF .mul k a b=.int k (k.wrap (a*b)):=rfl
theorem amY(a b:Int):JF .quo k a b=.int k (k.wrap (a.tdiv b)):=rfl
theorem amZ(a b:Int):JF .rem k a b=.int k (a.tmod b):=rfl
theorem amR(a b:Int):JF .eql k a b=.bool (a==b):=rfl
theorem amX(a b:Int):JF .neq k a b=.bool (a != b):=rfl
theorem amV(a b:Int):JF .lss k a b=.bool (decide (a<b)):=rfl
theorem amU(a b:Int):JF .leq k a b=.bool (decide (a<=b)):=rfl
theorem amT(a b:Int):JF .gtr k a b=.bool (decide (b<a)):=rfl
theorem amS(a b:Int):JF .geq k a b=.bool (decide (b<=a)):=rfl
def Bc(k:IntKind)(a b:Int):Int:=k.wrap (a*2^(min b.toNat k.bits))
def yG(k:IntKind)(a b:Int):Int:=a.fdiv (2^(min b.toNat k.bits))
def aaH(k:IntKind)(a b:Int):Int:=k.wrap (BitVec.ofInt k.bits a &&& BitVec.ofInt k.bits b).toNat
def ior(k:IntKind)(a b:Int):Int:=k.wrap (BitVec.ofInt k.bits a |||BitVec.ofInt k.bits b).toNat
def aaM(k:IntKind)(n:Int):Int:=k.wrap (BitVec.ofInt k.bits (if k.signed then -1 else k.max) ^^^ BitVec.ofInt k.bits n).toNat
theorem am0(a b:Int):JF .shl k a b=.int k (Bc k a b):=rfl
theorem am1(a b:Int):JF .shr k a b=.int k (yG k a b):=rfl
theorem amQ(a b:Int):JF .and k a b=.int k (aaH k a b):=rfl
theorem ao2(a b:Int):JF .or k a b=.int k (ior k a b):=rfl
theorem ahK(b:Int):qc .add k k' b=(k=k'):=rfl
theorem ahX(b:Int):qc .sub k k' b=(k=k'):=rfl
theorem ahR(b:Int):qc .mul k k' b=(k=k'):=rfl
theorem ahT(b:Int):qc .quo k k' b=(k=k'/\b≠0):=rfl
theorem ahU(b:Int):qc .rem k k' b=(k=k'/\b≠0):=rfl
theorem ahM(b:Int):qc .eql k k' b=(k=k'):=rfl
theorem ahS(b:Int):qc .neq k k' b=(k=k'):=rfl
theorem ahQ(b:Int):qc .lss k k' b=(k=k'):=rfl
theorem ahP(b:Int):qc .leq k k' b=(k=k'):=rfl
theorem ahO(b:Int):qc .gtr k k' b=(k=k'):=rfl
theorem ahN(b:Int):qc .geq k k' b=(k=k'):=rfl
theorem ahL(b:Int):qc .and k k' b=(k=k'):=rfl
theorem akk(b:Int):qc .or k k' b=(k=k'):=rfl
theorem ahV(b:Int):qc .shl k k' b=(0<=b):=rfl
theorem ahW(b:Int):qc .shr k k' b=(0<=b):=rfl
theorem anV(a b:ByteArray):sop .add a b=.str (a++b):=rfl
theorem anW(a b:ByteArray):sop .eql a b=.bool (a.toList==b.toList):=rfl
theorem anX(a b:ByteArray):sop .neq a b=.bool (!(a.toList==b.toList)):=rfl
theorem ai1(a b:ByteArray):LN .add a b=(a.size+b.size<=2^62):=rfl
theorem ai2(a b:ByteArray):LN .eql a b=True:=rfl
theorem ai3(a b:ByteArray):LN .neq a b=True:=rfl
theorem ajc(b:Bool):zq .not (.bool b)=.bool (!b):=rfl
theorem ajb(n:Int):zq .neg (.int k n)=.int k (k.wrap (0-n)):=rfl
theorem ajd(n:Int):zq .xor (.int k n)=.int k (aaM k n):=rfl
def agy(b:Bool):vq .not (.bool b)=True:=by simp[vq]
def agx(n:Int):vq .neg (.int k n)=True:=by simp[vq]
def agz(n:Int):vq .xor (.int k n)=True:=by simp[vq]
theorem ahm(s:Ty)(n:Int):Ky s (.int k) (.int k' n)=.int k (k.wrap n):=rfl
def aeI(u v:IntKind)(n:Int):GF (.int u) (.int v) (.int k n)=True:=by simp[GF]
theorem afO:Yr (.addr r o)=True:=rfl
def GN:List FT->Nat->Nat
 | [],_=>0
 |x::_,0=>x.off
 | _::r,n+1=>GN r n
theorem FM:∀(fs:List FT)(f:Nat),((fs[f]?).map (·.off)).getD 0=GN fs f
 | [],f=>by simp[GN]
 |x::r,0=>by simp[GN]
 |x::r,n+1=>by simp[GN,FM r n]
theorem ahr(x:FT)(r:List FT):GN (x::r) 0=x.off:=rfl
variable(n:Nat)
theorem ahq(x:FT)(r:List FT):GN (x::r) (n+1)=GN r n:=rfl
variable(fs:List FT)
def aj2(f:Nat):WH fs f (.addr r o)=.addr r (o+GN fs f):=by simp only[WH,FM]
def ahu(f k:Nat):WH fs f (.cw r z i k)=.cw r z i (k+GN fs f):=by simp only[WH,FM]
def aht(f:Nat):WH fs f (.bE cs)=.bE (cs.drop (GN fs f)):=by simp only[WH,FM]
theorem ahs(f:Nat):U0 fs f (.addr r o)=(f<fs.length):=rfl
theorem ae1(f k:Nat):U0 fs f (.cw r z i k)=(f<fs.length):=rfl
theorem ae0(f:Nat):U0 fs f (.bE cs)=(f<fs.length):=rfl
theorem ao0(t:Ty)(i:Int):iaT t (.sl z rows) (.int k i)=.bE (rows.getD i.toNat []):=rfl
theorem amM(i:Int):iaT (.slice z b a) (.ref r) (.int k i)=.cw r z i.toNat 0:=rfl
variable(off:Nat)
theorem akh(i:Int):iaT (.arr n z a) (.addr r o) (.int k i)=.addr r (o+i.toNat*z):=rfl
theorem ahJ(i:Int):iaT (.arr n z a) (.bE cs) (.int k i)=.bE (cs.drop (i.toNat*z)):=rfl
theorem akg(i:Int):G8 e (.slice z' b a) (.sl z rows) (.int k i)=(z=z'/\0<=i/\i<rows.length):=rfl
theorem ahI(i:Int):G8 e (.slice z b a) (.ref r) (.int k i)=(0<=i/\TY z i (e.o r)):=rfl
theorem aiF(i:Int):TY z i (.own z' rows)=(z'=z/\i<rows.length):=rfl
theorem afc(i:Int):G8 e (.arr n z a) (.addr r o) (.int k i)=(0<=i/\i<n):=rfl
theorem acM(i:Int):G8 e (.arr n z a) (.bE cs) (.int k i)=(0<=i/\i<n):=rfl
variable(ea:Bool)
theorem am3(i:Int):ixV (.arr n z ea) (.agg cs) (.int k i)=part ea (i.toNat*z) z cs:=rfl
theorem akn(i:Int):Pe (.arr n z ea) (.agg cs) (.int k i)=(0<=i/\i<n/\cs.length=n*z):=rfl
theorem am4(t:Ty)(i:Int):ixV t (.str s) (.int k i)=.int .u8 ((s[i.toNat]?).map (·.toNat)|>.getD 0):=rfl
def ako(i:Int):Pe .str (.str s) (.int k i)=(0<=i/\i<s.size):=by simp[Pe]
theorem ak8:part true o n cs=.agg ((cs.drop o).take n):=rfl
theorem ak9:part false o n cs=(cs.drop o).headD .undef:=rfl
def aj3(f:Option FT)(cs:List D):D:=match f with
 |some x=>part x.agg x.off x.sz cs
 |none=>.undef
def XN(f:Option FT)(cs:List D):Prop:=match f with
 |some x=>x.off+x.sz<=cs.length
 |none=>False
theorem aj6(f:Nat):U3 fs f (.agg cs)=aj3 fs[f]? cs:=rfl
theorem ahw(f:Nat):KR fs f (.agg cs)=XN fs[f]? cs:=rfl
theorem ahx(s:Nat):aj3 (some ⟨o,s,a⟩) cs=part a o s cs:=rfl
theorem acH(s:Nat):XN (some ⟨o,s,a⟩) cs=(o+s<=cs.length):=rfl

variable(y:Nat)(hi:Int)
attribute [go_sem] Yd aaR ZH afv acX amP am2 amW amY amZ amR amX amV amU amT amS am0 am1 amQ ao2 ahK ahX ahR ahT ahU ahM ahS ahQ ahP ahO ahN ahL akk ahV ahW anV anW anX ai1 ai2 ai3 ajc ajb ajd agy agx agz ahm aeI afO ahr ahq aj2 ahu aht ahs ae1 ae0 ao0 amM akh ahJ akg ahI aiF afc acM am3 akn am4 ako ak8 ak9 aj6 ahw ahx acH
section
variable{e:Env}
theorem ano(r:List (List D)):Pt e (.slice z b a) (.sl y r)=.int .i64 r.length:=rfl
theorem akI:Pt e (.slice z b a) .nil=.int .i64 0:=rfl
theorem akJ:Pt e (.slice z b a) (.ref r)=FQ (e.o r):=rfl
theorem adi(r:List (List D)):FQ (.own z r)=.int .i64 r.length:=rfl
theorem aie(lo:Nat):Pt e (.slice z b a) (.eC r y lo l c)=.int .i64 l:=rfl
theorem akK:Pt e .str (.str s)=.int .i64 s.size:=rfl
theorem aid(r:List (List D)):yK e (.slice z b a) (.sl y r)=True:=rfl
theorem afx:yK e (.slice z b a) .nil=True:=rfl
theorem afy:yK e (.slice z b a) (.ref r)=CC (e.o r):=rfl
theorem abk(r:List (List D)):CC (.own z r)=True:=rfl
theorem acZ(lo:Nat):yK e (.slice z b a) (.eC r y lo l c)=True:=rfl
theorem afz:yK e .str (.str s)=True:=rfl
def slX(z z' N:Nat)(lo hi:Int):Prop:=z=z'/\0<=lo/\lo<=hi/\hi<=N
theorem apD(N:Nat)(lo:Int):slX z z' N lo hi=(z=z'/\0<=lo/\lo<=hi/\hi<=N):=rfl
def Ma(z z' N:Nat)(k:IntKind)(lo:Int)(k':IntKind)(hi:Int):W6 (if z=z' then some N else none) (.int k lo) (.int k' hi) (λ_ _ _=>True)=slX z z' N lo hi:=by
 unfold slX;by_cases h:z=z'
 ·simp[h,W6]
 ·simp[h,W6]
theorem apC(lo:Int):QJ e (.slice z' b a) (.sl z rows) (.int k lo) (some (.int k' hi))=.sl z ((rows.take hi.toNat).drop lo.toNat):=rfl
def alH(lo:Int):qm e (.slice z' b a) (.sl z rows) (.int k lo) (some (.int k' hi))=slX z z' rows.length lo hi:=Ma _ _ _ _ _ _ _
theorem anU(lo:Int):QJ e .str (.str s) (.int k lo) (some (.int k' hi))=.str (s.extract lo.toNat hi.toNat):=rfl
def aiW(lo:Int):qm e .str (.str s) (.int k lo) (some (.int k' hi))=(0<=lo/\lo<=hi/\hi<=s.size):=by simp[qm,WO,FZ,W6]
def alK(lo:Int):QJ e .str (.str s) (.int k lo) none=.str (s.extract lo.toNat s.size):=by simp[QJ,FZ,Bw,Wd,SK]
def agn(lo:Int):qm e .str (.str s) (.int k lo) none=(0<=lo/\lo<=s.size):=by simp[qm,WO,FZ,Bw,W6]
def SL(z r:Nat)(lo:Int)(hi:Option Int)(u:D):D:=match u with
 | .own z' rows=>.gq r z' lo.toNat ((hi.getD (Bw (if z'=z then some rows.length else none))).toNat-lo.toNat)
 | _=>.undef
def Ef(z:Nat)(lo:Int)(hi:Option Int)(u:D):Prop:=match u with
 | .own z' rows=>slX z' z rows.length lo (hi.getD rows.length)
 | _=>False
theorem alG(lo:Int):SL z r lo (some hi) (.own z' rows)=.gq r z' lo.toNat (hi.toNat-lo.toNat):=rfl
def aiT(lo:Int):SL z r lo none (.own z rows)=.gq r z lo.toNat (rows.length-lo.toNat):=by simp[SL,Bw]
theorem agk(lo:Int):Ef z lo (some hi) (.own z' rows)=slX z' z rows.length lo hi:=rfl
theorem ady(lo:Int):Ef z lo none (.own z' rows)=slX z' z rows.length lo rows.length:=rfl
theorem alI(lo:Int):QJ e (.slice z' b a) (.eC r o z l c) (.int k lo) (some (.int k' hi))=.eC r (o+lo.toNat*z) z (hi.toNat-lo.toNat) (c-lo.toNat):=rfl
def aiX(lo:Int):QJ e (.slice z b a) (.eC r o z l c) (.int k lo) none=.eC r (o+lo.toNat*z) z (l-lo.toNat) (c-lo.toNat):=by
 simp[QJ,FZ,Bw,Wd,SK]
def agl(lo:Int):qm e (.slice z' b a) (.eC r o z l c) (.int k lo) (some (.int k' hi))=slX z z' c lo hi:=Ma _ _ _ _ _ _ _
def adz(lo:Int):qm e (.slice z b a) (.eC r o z l c) (.int k lo) none=(0<=lo/\lo<=l/\l<=c):=by
 simp[qm,WO,FZ,Bw,W6]
def anT(lo:Int):QJ e (.slice z b a) (.ref r) (.int k lo) (some (.int k' hi))=SL z r lo (some hi) (e.o r):=by
 simp only[QJ,Option.getD_some,Wd,SK,SL];cases e.o r<;>rfl
def alJ(lo:Int):QJ e (.slice z b a) (.ref r) (.int k lo) none=SL z r lo none (e.o r):=by
 simp only[QJ,FZ,Option.getD_none,Wd,SK,SL];cases e.o r<;>rfl
def aiV(lo:Int):qm e (.slice z b a) (.ref r) (.int k lo) (some (.int k' hi))=Ef z lo (some hi) (e.o r):=by
 simp only[qm,WO,FZ,Option.getD_some,Ef];cases e.o r<;>try rfl
 exact Ma _ _ _ _ _ _ _
def agm(lo:Int):qm e (.slice z b a) (.ref r) (.int k lo) none=Ef z lo none (e.o r):=by
 simp only[qm,WO,FZ,Option.getD_none,Ef];cases e.o r<;>try rfl
 simp only[Ma,slX];rename_i z' rows;by_cases h:z'=z
 ·simp[h,Bw]
 ·simp[h]
attribute [go_sem] ano akI akJ adi aie akK aid afx afy abk acZ afz apD apC alH anU aiW alK agn alG aiT agk ady alI aiX agl adz anT alJ aiV agm
end

theorem ahv:nN cs []=cs:=rfl
theorem ae2(s:Nat)(v:D)(r:List (Nat×Nat×D)):nN cs ((o,s,v)::r)=nN (nR cs o v.cells) r:=rfl
theorem ae3:qx n []=True:=rfl
theorem acG(s:Nat)(v:D)(r:List (Nat×Nat×D)):qx n ((o,s,v)::r)=(v.cells.length=s/\o+s<=n/\(∀c∈v.cells,gl c)/\qx n r):=rfl
theorem adv:rowsOf z 0 cs=[]:=rfl
theorem adu:rowsOf z (n+1) cs=cs.take z::rowsOf z n (cs.drop z):=rfl
theorem an7(xs:List D):nR cs o xs=cs.take o++xs++cs.drop (o+xs.length):=rfl
theorem ae8(a d:D)(l:List D):(a::l).getD 0 d=a:=rfl
theorem ae9(a d:D)(l:List D):(a::l).getD (n+1) d=l.getD n d:=rfl
theorem afg:u5 []=True:=rfl
theorem acN(n:Int)(r:List D):u5 (.int k n::r)=u5 r:=rfl
theorem ahy(f:D->D->D)(a b:D):OO f [a,b]=f a b:=rfl
def aij(x:Int):PD (.int k x) (.int k' hi)=.int k (max x hi):=by
 show D.int k (if hi>x then hi else x)=_;congr 1;rw[Int.max_def];split<;>split<;>omega
def aik(x:Int):PK (.int k x) (.int k' hi)=.int k (min x hi):=by
 show D.int k (if hi<x then hi else x)=_;congr 1;rw[Int.min_def];split<;>split<;>omega
theorem aeB(b:Bool):D.cells (.bool b)=[.bool b]:=rfl
theorem ahi:D.cells (.int k m)=[.int k m]:=rfl
theorem ahl:D.cells (.str s)=[.str s]:=rfl
theorem ahj:D.cells (.nil)=[.nil]:=rfl
theorem ajU:D.cells (.sl z rows)=[.sl z rows]:=rfl
theorem ahk:D.cells (.ref r)=[.ref r]:=rfl
theorem ajT(f:FuncId):D.cells (.fn f cs)=[.fn f cs]:=rfl
theorem ahh:D.cells (.agg cs)=cs:=rfl
theorem acB(b:Bool):gl (.bool b)=True:=rfl
theorem aex:gl (.int k m)=True:=rfl
theorem aeA:gl (.str s)=True:=rfl
theorem aey:gl (.nil)=True:=rfl
theorem ahg:gl (.sl z rows)=True:=rfl
theorem aez:gl (.ref r)=True:=rfl
theorem ahf(f:FuncId):gl (.fn f cs)=True:=rfl
def adj(b:Bool):dK (.bool b)=True:=by simp[dK,gl,D.names]
def af0:dK (.int k m)=True:=by simp[dK,gl,D.names]
def af1:dK (.str s)=True:=by simp[dK,gl,D.names]
def aiG:dK (.sl z rows)=True:=by simp[dK,gl,D.names]
attribute [go_sem] ahv ae2 ae3 acG adv adu an7 ae8 ae9 afg acN ahy aij aik aeB ahi ahl ahj ajU ahk ajT ahh acB aex aeA aey ahg aez ahf adj af0 af1 aiG
end Go.Abs
namespace Go.Abs
open Go.ChangeShapes Go.WideShapes Go.ChangeAt Go.RowKit
variable{f:FuncId}{W e:World}{g:Nat}{a:String}{apart handsOn d c:Bool}{s:ChangeSpec}{b:List PathCond}{i:TypeId}{h:List MemPlace}
section
variable{H:Type}{enc:TypeId×Value->H}{P:Program}

def T8(P:Program)(ts:List TypeId):Bool:=ts.all λt=>P.readableRec t&&decide (t<P.types.size)
theorem AO(m:laidOutB P=true){W k:World}(l:Below W.heap.size W k){sp:Nat->Bool}:∀{ts:List TypeId} {vs:List Value} {ds:List (DataW H)} {p:List MemPlace},T8 P ts=true ->
  DataW.TrodAll enc P W 0 (λ_=>true) true ts vs ds p->(∀x∈p,x.block<W.heap.size)->(∀x∈p,sp x.block=true)->DataW.TrodAll enc P k 0 sp true ts vs ds p
 | [],_,_,_,_,h,_,_=>by
  obtain⟨rfl,rfl,rfl⟩:=trodAll_nil h;exact trodAll_mk0
 |t::ts,_,_,_,hr,h,hlt,hsp=>by
  obtain⟨v,vs',d,ds',p,q,rfl,rfl,rfl,n,o⟩:=trodAll_cons h;simp only[T8,List.all_cons,Bool.and_eq_true,bz]at hr;refine⟨p,q,?_,AO m l (by simpa[T8]using hr.2) o (λx j=>hlt x (List.mem_append_right _ j)) (λx j=>hsp x (List.mem_append_right _ j)),rfl⟩;exact WideElems.Trod_stays m hr.1.1 hr.1.2 n (λx j=>l.same (hlt x (List.mem_append_left _ j))) (λx j=>hsp x (List.mem_append_left _ j))

def Spec.law{ds:List D}(h:Spec P f [] ds [] (.bool true)){vs:Array Value}(l:Xd W λ_=>none)(p:vs.size=ds.length)(o:∀(i:Nat) v x,vs[i]?=some v->ds[i]?=some x->aM (cx W (λ_=>none) (λ_=>none)) v x) :
  Calls P f vs W λe j=>e=.returned (.bool true)/\Below W.heap.size W j:=by
 refine Calls.mono (h.2 W (λ_=>none) (λ_=>none) (λ_=>none) (λ_=>none) vs l (by intro b m h;cases h) (by intro b lo hi h;cases h) p o ?_) ?_
 ·intro r;have:([]:List D).getD r .undef=.undef:=by simp
  rw[this];rfl
 ·rintro e j ⟨v,rfl,ho⟩;obtain⟨lev,own,S,_,_,q,_,_⟩:=ho.rep;have:=q.mo;subst this;exact⟨rfl,ho.os,ho.tape,ho.output,ho.size,λk n=>ho.old k n rfl⟩

def ajF(W:World)(t:Nat×Xc):Prop:=∃E x c,W.heap[t.1]?=some (.cells c E x)/\t.2.holds c
def abQ(h:∀t∈tabs,ajF W t):Xd W λ_=>none:=λt j=>⟨rfl,h t j⟩
def X8{f:Func}{args:Array Value}{ds gs:List (DataW H)}
  (z:DataW.Whole enc P f.params.toList s.vars apart W args.toList ds gs h) (D:s.vars=[]) (u:Below W.heap.size W e) (G:laidOutB P=true) (J:T8 P f.params.toList=true)
  (t:f.resultTypes = #[i]) (C:P.underlying i=some .bool) (v:s.fn H (ds++gs)={ results:=[.lit (.bool true)],args:=ds }) :
  s.post enc P f apart c handsOn d W args (.bool true) e:=by
 have o:=z;obtain⟨p,q,E,y,rfl,K,I⟩:=z;rw[D]at y;obtain⟨rfl,rfl⟩:=trodVars_none y;have n:∀x∈p,x.block<W.heap.size:=λx m=>by simpa using o.lt x (by simp[m])
 have j:∀sp:Nat->Bool,(∀x∈p,sp x.block=true)->DataW.TrodAll enc P e 0 sp true f.params.toList args.toList (s.fn H (ds++[])).args p:=λsp w=>by
  rw[v];exact AO G u J E n w
 have k:∀sp:Nat->Bool,DataW.TrodVars enc P e sp s.vars (s.fn H (ds++[])).vars []:=λsp=>by
  rw[v,D];rfl
 have l:∀(b:Nat)(sp:Nat->Bool)(A:Bool),DataW.TrodAll enc P e b sp A f.resultTypes.toList ((Value.bool true).resultList f.resultTypes.size) (s.fn H (ds++[])).results []:=λb sp A=>by
  rw[v,t];exact trodAll_cons_mk (shut_bool C _) trodAll_mk0
 have r:∀x∈p,(λb=>decide (b<W.heap.size)) x.block=true:=λx m=>by simpa using n x m
 refine⟨ds,[],p++[],[],p,[],o,l _ _ _,j _ r,k _,World.keptBut_mono (λx m=>⟨m,?_⟩) (u.frame (· ∈ p++[])),λ_=>?_⟩
 ·simpa using m
 ·refine⟨ok_one t rfl (okWide_bool_mk C _),_,_,([]++p)++[],⟨[]++p,[],trodAll_append (j _ (λ_ _=>rfl)) (l _ _ _),k _,rfl,?_,?_⟩,?_⟩
  ·intro b off B;rw[u.frozen (n (.cell b off) (by simpa using B))];exact K b off (by simpa using B)
  ·intro F;simpa using I F
  ·intro x m _;simpa using m
end
end Go.Abs
namespace Go.Abs
open Go.RowKit
variable{f:FuncId}{d:D}{ds:List D}{e:Nat->Option Value}{b:Nat->Option Nat}
section
variable{P:Program}
def Spec.Yw(H:Enters P f)
  (h:∀(w:World)(a:Nat->Option Nat)(j:Nat->Option Value)(vs:Array Value),(∀t∈tabs,∃E x c,w.heap[t.1]?=some (.cells c E x)/\t.2.holds c)->(∀b m,a b=some m->b<w.heap.size)->vs.size=ds.length->(∀(i:Nat) v x,vs[i]?=some v->ds[i]?=some x->aM (cx w a j) v x) ->
   Calls P f vs w λe w'=>∃v,e=.returned v/\Below w.heap.size w w'/\aM (cx w' a j) v d) (G:d.names=[]):Spec P f [] ds [] d:=by
 refine⟨H,?_⟩;intro w a u own0 j vs F q B k K ho;refine(h w a j vs (λt L=>(F t L).2) q k K).mono ?_;rintro e w' ⟨v,rfl,hb,hv⟩;have l:∀b lo g,u b=some (lo,g)->ny w w' b lo g:=by
  intro b lo g I;obtain⟨c0,c,E,p,y,z,A⟩:=B b lo g I;have o:b<w.heap.size:=(Array.getElem?_eq_some_iff.1 p).1;exact⟨c0,c,E,p,(hb.block b o).trans y,z,A⟩
 refine⟨v,rfl,hb.os,hb.tape,hb.output,hb.size,λb n _=>hb.block b n,l,a,λ_=>none,λ_=>none,?_,λ_ _ _=>rfl,?_,?_,?_⟩
 ·intro b m J;exact Nat.lt_of_lt_of_le (q b m J) hb.size
 ·exact aM.keep (C:=cx w' a j) (C':=cx w' a λ_=>none) (λ_ _ h=>h) hv (λs k=>by rw[G]at k;cases k)
 ·intro r;have:([]:List D).getD r .undef=.undef:=by simp
  rw[this];rfl
 ·intro i g;simp at g
def Spec.of_same(k:Enters P f)
  (h:∀(w:World)(c:Nat->Option Nat)(a:Nat->Option Value)(vs:Array Value),vs.size=ds.length->(∀(i:Nat) v x,vs[i]?=some v->ds[i]?=some x->aM (cx w c a) v x) ->
   ∃v,Calls P f vs w (λe w'=>e=.returned v/\w'=w)/\aM (cx w c a) v d) (j:d.names=[]):Spec P f [] ds [] d:=by
 refine Spec.Yw k ?_ j;intro w c a vs _ hl m l;obtain⟨v,g,n⟩:=h w c a vs m l;refine g.mono ?_;rintro e w' ⟨rfl,rfl⟩;exact⟨v,rfl,Below.refl _ _,n⟩
end
end Go.Abs
namespace Go.Abs
attribute [go_sem] or_self or_true true_or List.length_map Int.cast_ofNat_Int
attribute [go_sem] eq_self bne_self_eq_false List.getD_cons_zero List.getD_cons_succ
def xP(f:Nat->D):List Nat->EL
 | []=>[]
 |i::l=>(i,f i)::xP f l
variable(f:Nat->D)
theorem ahZ:xP f []=[]:=rfl
variable(i:Nat)(l:List Nat)
theorem afl:xP f (i::l)=(i,f i)::xP f l:=rfl
def xQ(f:Nat->D):List Nat->EL
 | []=>[]
 |i::l=>osI (fc (f i)) i (f i) []++xQ f l
theorem ah0:xQ f []=[]:=rfl
theorem afm:xQ f (i::l)=osI (fc (f i)) i (f i) []++xQ f l:=rfl
variable{kO kT:EL}{body:(Exit->Env->Prop)->Env->Prop}{e:Env}{Q:Exit->Env->Prop}
attribute [go_sem] ahZ afl ah0 afm
def aF.yN{T:Type}(r q:List Nat)(ts os:T->EL)(I:T->Prop)(m:T->Nat)(s0:T)
  (h:I s0) (g:Jr e (ts s0++kT) (os s0++kO))
  (j:∀s,I s->body (mJ (λs=>ts s++kT) (λs=>os s++kO) I m s Q) (sM (ts s++kT) (os s++kO)))
  (hT:xP e.t r=kT:=by simp only[go_sem,seval]<;>exact rfl) (hO:xQ e.o q=kO:=by simp only[go_sem,seval]<;>exact rfl):aF body Q e:=
 ⟨T,λs=>ts s++kT,λs=>os s++kO,I,m,s0,h,g,j⟩
def aeD(n:Nat)(I:Nat->Prop)(i:Nat):Prop:=i<=n/\I i
def aeE(n:Nat)(i:Nat):Nat:=n-i
def aF.count(n:Nat)(r q:List Nat)(ts os:Nat->EL)(I:Nat->Prop)
  (j:I 0) (g:Jr e (ts 0++kT) (os 0++kO))
  (m:∀i,i<=n->I i->body (mJ (λs=>ts s++kT) (λs=>os s++kO) (aeD n I) (aeE n) i Q) (sM (ts i++kT) (os i++kO)))
  (hT:xP e.t r=kT:=by simp only[go_sem,seval]<;>exact rfl) (hO:xQ e.o q=kO:=by simp only[go_sem,seval]<;>exact rfl):aF body Q e:=
 ⟨Nat,λs=>ts s++kT,λs=>os s++kO,aeD n I,aeE n,0,⟨Nat.zero_le _,j⟩,g,λi h=>m i h.1 h.2⟩
variable{c:Nat->Prop}
def ah.jE{n i:Nat}{ts os:Nat->EL}(g:i<n)(h:c (i+1))(j:Jr e (ts (i+1)) (os (i+1))):ah ts os (aeD n c) (aeE n) i e:=
 ⟨i+1,⟨g,h⟩,j,by show n-(i+1)<n-i;omega⟩
variable{d:Prop}
section
variable{P:Program}{n np:Nat}{e:Env}{a b:Code}{Q:Exit->Env->Prop}{p:Prop}[Decidable p]{k:Bool->Prop}
def bS.fX(g:p->nQ P n np a Q e)(j:¬p->nQ P n np b Q e):bS P n np a b Q e (.bool (decide p)):=⟨λh=>g (of_decide_eq_true h),λh=>j (of_decide_eq_false h)⟩
def bS.NM(g:¬p->nQ P n np a Q e)(j:p->nQ P n np b Q e):bS P n np a b Q e (.bool (!decide p)):=bS.lQ (λh=>g (of_decide_eq_false h)) (λh=>j (of_decide_eq_true h))
def cE.fX(g:p->k true)(j:¬p->k false):cE (some (decide p)) k:=cE.split (λh=>g (of_decide_eq_true h)) (λh=>j (of_decide_eq_false h))
def cE.NM(g:¬p->k true)(j:p->k false):cE (some (!decide p)) k:=cE.lQ (λh=>g (of_decide_eq_false h)) (λh=>j (of_decide_eq_true h))
class Z4(q:Prop)(x y:outParam Prop):Prop where
 out:x->y->q
instance ase{t:Bool}:Z4 (bS P n np a b Q e (.bool t)) (t=true->nQ P n np a Q e) (t=false->nQ P n np b Q e):=⟨bS.split⟩
instance aru{t:Bool}:Z4 (bS P n np a b Q e (.bool (!t))) (t=false->nQ P n np a Q e) (t=true->nQ P n np b Q e):=⟨bS.lQ⟩
instance art:Z4 (bS P n np a b Q e (.bool (decide p))) (p->nQ P n np a Q e) (¬p->nQ P n np b Q e):=⟨bS.fX⟩
instance apE:Z4 (bS P n np a b Q e (.bool (!decide p))) (¬p->nQ P n np a Q e) (p->nQ P n np b Q e):=⟨bS.NM⟩
instance asf{g:Bool}:Z4 (cE (some g) k) (g=true->k true) (g=false->k false):=⟨cE.split⟩
instance arw{g:Bool}:Z4 (cE (some (!g)) k) (g=false->k true) (g=true->k false):=⟨cE.lQ⟩
instance arv:Z4 (cE (some (decide p)) k) (p->k true) (¬p->k false):=⟨cE.fX⟩
instance apF:Z4 (cE (some (!decide p)) k) (¬p->k true) (p->k false):=⟨cE.NM⟩
def mO{q x:Prop}[i:Z4 q x d](g:x)(h:d):q:=i.out g h
end
end Go.Abs
namespace Go.Abs
open List
open Go.ChangeShapes Go.WideShapes Go.ChangeAt Go.RowKit
inductive Sh where
 |int (k:IntKind)
 |bool
 |str
 |sl (z:Nat) (e:List Sh)
def Sh.bytes:Sh->Nat
 | .int k=>k.bits/8
 | .bool=>1
 | .str=>16
 | .sl _ _=>24
def Mo:List Sh->Nat
 | []=>0
 |s::ss=>s.bytes+Mo ss
mutual
/-- the datum fits the shape of one cell -/
def Fit:Sh->D->Prop
 | .int k,d=>∃n:Int,d=.int k n/\k.min<=n/\n<=k.max
 | .bool,d=>∃b,d=.bool b
 | .str,d=>∃s:ByteArray,d=.str s/\s.size<=reachBytes
 | .sl z e,d=>∃rows:List (List D),d=.sl z rows/\rows.length*Mo e<=reachBytes/\∀r∈rows,nx e r
def nx:List Sh->List D->Prop
 | [],ds=>ds=[]
 |s::ss,ds=>∃d r,ds=d::r/\Fit s d/\nx ss r
end
def Fit.perm{s:Sh}{d:D}(h:Fit s d):dK d:=by
 cases s<;>simp only[Fit]at h
 ·obtain⟨n,rfl,_⟩:=h;simp[dK,gl,D.names]
 ·obtain⟨b,rfl⟩:=h;simp[dK,gl,D.names]
 ·obtain⟨b,rfl,_⟩:=h;simp[dK,gl,D.names]
 ·obtain⟨b,rfl,_⟩:=h;simp[dK,gl,D.names]
theorem nx.perm:∀{b:List Sh} {ds:List D},nx b ds->∀d∈ds,dK d
 | [],ds,h,d,hd=>by simp only[nx]at h;subst h;cases hd
 |s::b,ds,h,d,hd=>by
  simp only[nx]at h;obtain⟨x,r,rfl,c,e⟩:=h;rcases mem_cons.1 hd with rfl|hd
  ·exact c.perm
  ·exact e.perm d hd
theorem nx.len:∀{b:List Sh} {ds:List D},nx b ds->ds.length=b.length
 | [],ds,h=>by simp only[nx]at h;subst h;rfl
 |s::b,ds,h=>by
  simp only[nx]at h;obtain⟨x,r,rfl,h1,c⟩:=h;simp[c.len]
theorem nx.append:∀{d c:List Sh} {ds b:List D},nx d ds->nx c b->nx (d++c) (ds++b)
 | [],c,ds,b,h,h'=>by simp only[nx]at h;subst h;exact h'
 |s::d,c,ds,b,h,h'=>by
  simp only[nx]at h;obtain⟨x,r,rfl,e,f⟩:=h;simp only[cons_append,nx];exact⟨x,r++b,rfl,e,f.append h'⟩
def uR(C:Cx):List Value->List D->Prop
 | [],ds=>ds=[]
 |v::vs,ds=>∃d r,ds=d::r/\aM C v d/\uR C vs r
theorem uR.append{C:Cx}:∀{vs ws:List Value} {ds b:List D},uR C vs ds->uR C ws b->uR C (vs++ws) (ds++b)
 | [],ws,ds,b,h,h'=>by simp only[uR]at h;subst h;exact h'
 |v::vs,ws,ds,b,h,h'=>by
  simp only[uR]at h;obtain⟨x,r,rfl,c,d⟩:=h;simp only[cons_append,uR];exact⟨x,r++b,rfl,c,d.append h'⟩
theorem uR.get{C:Cx}:∀{vs:List Value} {ds:List D},uR C vs ds->vs.length=ds.length/\∀(j:Nat) v d,vs[j]?=some v->ds[j]?=some d->aM C v d
 | [],ds,h=>by simp only[uR]at h;subst h;exact⟨rfl,λj v d h=>by simp at h⟩
 |v::vs,ds,h=>by
  simp only[uR]at h;obtain⟨x,r,rfl,f,g⟩:=h;obtain⟨i,k⟩:=g.get;refine⟨by simp[i],?_⟩;intro j u e c b;cases j with
  |zero=>simp at c b;subst c;subst b;exact f
  |succ j=>simp at c b;exact k j u e c b
def shF(g:TypeId->Option (List Sh))(P:Program):List Field->Nat->Option (List Sh)
 | [],_=>some []
 |f::fs,off=>match g f.type,shF g P fs (off+P.cellsOf f.type)with
  |some s,some r=>if f.offset=off/\s.length=P.cellsOf f.type then some (s++r)else none
  | _,_=>none
def shT(P:Program):Nat->TypeId->Option (List Sh)
 | 0,_=>none
 |f+1,t=>match P.underlying t with
  |some (.int k)=>some [.int k]
  |some .bool=>some [.bool]
  |some .string=>some [.str]
  |some (.slice e)=>match shT P f e with
   |some s=>if s.length=P.cellsOf e/\Mo s<=P.bytesOf e then some [.sl (P.cellsOf e) s]else none
   |none=>none
  |some (.struct fs)=>match shF (shT P f) P fs.toList 0 with
   |some s=>if s.length=P.cellsOf t then some s else none
   |none=>none
  |some (.array n e)=>match shT P f e with
   |some s=>if s.length=P.cellsOf e/\n*P.cellsOf e=P.cellsOf t then some (replicate n s).flatten else none
   |none=>none
  | _=>none
variable{t:TypeId}{a:Array Field}{p:List MemPlace}{b0:Nat}
section
variable{H:Type}{enc:TypeId×Value->H}{P:Program}{W:World}{sp:Nat->Bool}{hd:Bool}
abbrev c0(W:World):Cx:=cx W (λ_=>none) (λ_=>none)
theorem tR{e:TypeId}{d:DataW H}{q:Nat}:∀{l:List (DataW H)},d∈l->q∈d.weights P e->q∈DataW.weightsAll P e l
 |x::l,h,hq=>by
  simp only[DataW.weightsAll,mem_append];rcases mem_cons.1 h with rfl|h
  ·exact .inl hq
  ·exact .inr (tR h hq)
theorem ED{g:TypeId->Option (List Sh)}{n:Nat}(l:∀t b cs x,g t=some b->DataW.trod enc P W 0 sp hd n t cs=some x->(∀m∈x.1.weights P t,m<=reachBytes)->∃ds,nx b ds/\uR (c0 W) cs ds) :
  ∀(c:List Field)(off:Nat)(cs:List Value)(b:List Sh),shF g P c off=some b->(∀f∈c,∃y,DataW.trod enc P W 0 sp hd n f.type ((cs.drop f.offset).take (P.cellsOf f.type))=some y/\∀m∈y.1.weights P f.type,m<=reachBytes) ->
   ∃ds,nx b ds/\uR (c0 W) ((cs.drop off).take b.length) ds
 | [],off,cs,b,h,_=>by simp only[shF,oF]at h;subst h;exact⟨[],rfl,by simp[uR]⟩
 |f::c,off,cs,b,h,hf=>by
  simp only[shF]at h;split at h
  ·rename_i s r z w;split at h
   ·rename_i v;obtain⟨rfl,k⟩:=v;simp only[oF]at h;subst h;obtain⟨y,B,d⟩:=hf f (by simp);obtain⟨ds,i,j⟩:=l _ _ _ _ z B d;obtain⟨o,q,u⟩:=ED l c _ cs r w (λx A=>hf x (by simp[A]));refine⟨ds++o,i.append q,?_⟩;have hlen:=j.get.1.trans (i.len.trans k);have e:(cs.drop f.offset).take (s++r).length=(cs.drop f.offset).take (P.cellsOf f.type)++(cs.drop (f.offset+P.cellsOf f.type)).take r.length:=by
     rw[cR,k,take_add,drop_drop]
    rw[e];exact j.append u
   ·cases h
  ·cases h
theorem HS{e:TypeId}{n:Nat}{s:List Sh}{cs:List Value}:∀(k off:Nat),s.length=P.cellsOf e ->
  (∀i,i<k->∃ds,nx s ds/\uR (c0 W) ((cs.drop ((off+i)*P.cellsOf e)).take (P.cellsOf e)) ds) ->
   ∃ds,nx (replicate k s).flatten ds/\uR (c0 W) ((cs.drop (off*P.cellsOf e)).take (k*P.cellsOf e)) ds
 | 0,off,_,_=>⟨[],by simp[nx],by simp[uR]⟩
 |k+1,off,hl,h=>by
  obtain⟨ds,d,f⟩:=h 0 (by omega)
  obtain⟨c,g,j⟩:=HS (n:=n) k (off+1) hl (λi hi=>by
   have:=h (i+1) (by omega)
   rwa[show off+(i+1)=off+1+i by omega]at this)
  refine⟨ds++c,by rw[replicate_succ,flatten_cons];exact d.append g,?_⟩;have b:(cs.drop (off*P.cellsOf e)).take ((k+1)*P.cellsOf e)=(cs.drop (off*P.cellsOf e)).take (P.cellsOf e)++(cs.drop ((off+1)*P.cellsOf e)).take (k*P.cellsOf e):=by
   rw[Nat.succ_mul k,Nat.add_comm (k*P.cellsOf e),take_add,drop_drop,Nat.succ_mul off]
  rw[b];simpa using f.append j
theorem abd:∀(f:Nat)(t:TypeId)(N:List Sh)(w:Nat)(cs:List Value) x,shT P f t=some N->DataW.trod enc P W 0 sp hd w t cs=some x->(∀m∈x.1.weights P t,m<=reachBytes)->∃ds,nx N ds/\uR (c0 W) cs ds:=by
 intro f;induction f with
 |zero=>intro t N w cs x h;simp[shT]at h
 |succ f ih =>
  intro t N w cs x h M l;simp only[shT]at h;split at h
  ·rename_i k v;simp only[oF]at h;subst h;obtain⟨n,rfl,_,hw⟩:=DataW.trod_int v M;simp only[Lit.wf,Bool.and_eq_true,bz]at hw;exact⟨[.int k n],⟨_,_,rfl,⟨n,rfl,hw.1,hw.2⟩,rfl⟩,⟨_,_,rfl,.int _ _,rfl⟩⟩
  ·rename_i v;simp only[oF]at h;subst h;obtain⟨b,rfl,_⟩:=DataW.trod_bool v M;exact⟨[.bool b],⟨_,_,rfl,⟨b,rfl⟩,rfl⟩,⟨_,_,rfl,.bool _,rfl⟩⟩
  ·rename_i v;simp only[oF]at h;subst h;obtain⟨b,rfl,u,L⟩:=DataW.trod_string v M;have aa:b.size<=reachBytes:=by
    rw[u]at l;exact l _ (by simp[DataW.weights])
   exact⟨[.str b],⟨_,_,rfl,⟨b,rfl,aa⟩,rfl⟩,⟨_,_,rfl,.str _,rfl⟩⟩
  ·rename_i e v;split at h
   ·rename_i s L;split at h
    ·rename_i E;simp only[oF]at h;subst h;obtain⟨E,Z⟩:=E;rcases Go.Deep.open_slice v M with⟨rfl,_⟩| ⟨a,len,cap,m,n,Dx,Pl,rfl,hb,hlc,hm,hmm,u,hel⟩
     ·exact⟨[.sl _ []],⟨_,_,rfl,⟨[],rfl,by simp,by simp⟩,rfl⟩,⟨_,_,rfl,.slnil _,rfl⟩⟩
     ·have hlm:len<=m:=by rw[hmm];split<;>omega
      rw[u]at l;simp only[DataW.weights,v]at l;have B:len*P.bytesOf e<=reachBytes:=by
       have:=l _ (mem_cons_self ..);simp only[length_map,length_range]at this;exact Nat.le_trans (tj _ (Nat.le_add_right _ _)) this
      have ab:∀i,i<len->∀q∈(Dx i).weights P e,q<=reachBytes:=λi c q hq=>by
       refine l q (mem_cons_of_mem _ (mem_append_left _ ?_));exact tR (mem_map.2 ⟨i,mem_range.2 c,rfl⟩) hq
      have z:∀i,∃F:List D×List Value,i<len->nx s F.1/\uR (c0 W) F.2 F.1/\W.cells? 0 (a.add (i*P.cellsOf e)) (P.cellsOf e)=some F.2:=by
       intro i;by_cases c:i<len
       ·obtain⟨S,I,y⟩:=hel i (by omega);obtain⟨ds,T,h4⟩:=ih _ _ _ _ _ L y (ab i c);exact⟨(ds,S),λ_=>⟨T,h4,I⟩⟩
       ·exact⟨([],[]),λh=>(c h).elim⟩
      let R:=λi=>(Classical.choose (z i)).1
      let V:=λi=>(Classical.choose (z i)).2
      have O:∀i,i<len->nx s (R i)/\uR (c0 W) (V i) (R i)/\W.cells? 0 (a.add (i*P.cellsOf e)) (P.cellsOf e)=some (V i):=λi c=>Classical.choose_spec (z i) c;have A:∀r∈(range len).map R,∃i,i<len/\r=R i:=by
       intro r z;obtain⟨i,c,rfl⟩:=mem_map.1 z;exact⟨i,mem_range.1 c,rfl⟩
      refine⟨[.sl _ ((range len).map R)],⟨_,_,rfl,⟨_,rfl,?_,?_⟩,rfl⟩,⟨_,_,rfl,?_,rfl⟩⟩
      ·simp only[length_map,length_range];exact Nat.le_trans (Nat.mul_le_mul_left _ Z) B
      ·intro r z;obtain⟨i,c,rfl⟩:=A r z;exact(O i c).1
      ·have G:((range len).map R).length=len:=by simp
       have:=aM.sl (C:=c0 W) (P.cellsOf e) a cap ((range len).map R) (λi j=>(V i).getD j Go.undef) (by rw[G];exact hlc) ?_ ?_ ?_ ?_
       ·rw[G]at this;exact this
       ·intro r z;obtain⟨i,c,rfl⟩:=A r z;exact(O i c).1.len.trans E
       ·intro r z d hd;obtain⟨i,c,rfl⟩:=A r z;exact(O i c).1.perm d hd
       ·intro i j r d c Q;simp only[getElem?_map]at c;by_cases o:i<len
        ·simp[o]at c;subst c;obtain⟨g1,g2,g3⟩:=O i o;obtain⟨_,g4,g5⟩:=World.cells?_some g3;have K:j<P.cellsOf e:=by have:=(gU.1 Q).1;rw[g1.len,E]at this;exact this
         have:=g5 j K;rw[Addr.add_add]at this;show vis W (λ_=>none) _=_;unfold vis;simp only;rw[this];simp[getD,fj (show j<(V i).length by omega)]
        ·simp[o]at c
       ·intro i j r d c Q;simp only[getElem?_map]at c;by_cases o:i<len
        ·simp[o]at c;subst c;obtain⟨g1,g2,g3⟩:=O i o;obtain⟨k1,k2⟩:=g2.get;have K:j<(V i).length:=by rw[k1];exact(gU.1 Q).1
         refine k2 j _ d ?_ Q;simp[getD,fj K]
        ·simp[o]at c
    ·cases h
   ·cases h
  ·rename_i fs v;split at h
   ·rename_i s L;split at h
    ·rename_i E;simp only[oF]at h;subst h;obtain⟨xs,n,rfl,u,J,ac,U⟩:=DataW.trod_struct v M;rw[u]at l;simp only[DataW.weights,v]at l
     obtain⟨ds,I,y⟩:=ED (n:=n) (g:=shT P f) (λt N cs x I y T=>ih t N n cs x I y T) fs.toList 0 cs s L (by
      intro fl X;obtain⟨i,c,he⟩:=getElem_of_mem X;have Y:i<fs.size:=by simpa using c
      have:=U i fl (by rw[Array.getElem?_eq_getElem Y];simpa using he);rw[fj (by omega)]at this;refine⟨_,this,λm hm=>l m ?_⟩;have hi2:i<xs.length:=by omega
      exact DataW.weights_mem_each (j:=i) (by rw[getElem?_map,fj c,he];rfl) (by rw[getElem?_map,fj hi2];rfl) m hm)
     refine⟨ds,I,?_⟩;rw[E,<-J]at y;simpa using y
    ·cases h
   ·cases h
  ·rename_i n e v;split at h
   ·rename_i s L;split at h
    ·rename_i E;simp only[oF]at h;subst h;obtain⟨xs,m,rfl,u,J,ac,U⟩:=DataW.trod_array v M;rw[u]at l;simp only[DataW.weights,v]at l
     obtain⟨ds,I,y⟩:=HS (W:=W) (P:=P) (e:=e) (n:=m) (s:=s) (cs:=cs) n 0 E.1 (by
      intro i c;have:=U i c;rw[fj (by omega)]at this;have y:=ih _ _ _ _ _ L this (λq hq=>l q (tR (mem_map.2 ⟨_,dS (by omega),rfl⟩) hq))
      simpa using y)
     refine⟨ds,I,?_⟩;rw[E.2,<-J]at y;simpa using y
    ·cases h
   ·cases h
  ·cases h
def TS{e:TypeId}{v:Value}{d:DataW H}{z:Nat}{s:List Sh}(l:P.underlying t=some (.slice e))(k:shT P 9 t=some [.sl z s])(n:Value.okWide P W .any b0 t v)(h:DataW.Trod enc P W 0 sp hd t v d p)(o:∀m∈d.weights P t,m<=reachBytes) :
  ∃rows:List (List D),(rows.length*Mo s<=reachBytes/\∀r∈rows,nx s r)/\aM (c0 W) v (.sl z rows):=by
 obtain⟨a,len,cap,rfl⟩:=okWide_slice l n;obtain⟨b,i⟩:=h;obtain⟨ds,f,g⟩:=abd 9 t _ b _ _ k i o;simp only[nx,Fit]at f;obtain⟨x,r,rfl,⟨rows,rfl,c,j⟩,rfl⟩:=f;exact⟨rows,⟨c,j⟩,g.get.2 0 _ _ rfl rfl⟩
def Je{ts:List TypeId}{ds:List (DataW H)}(h:(DataW.weightsEach P ts ds).all (· <= reachBytes)=true)(j:Nat){d:DataW H}(c:ts[j]?=some t)(hd:ds[j]?=some d):∀m∈d.weights P t,m<=reachBytes:=λm b=>by
 have:=bL.1 h m (DataW.weights_mem_each c hd m b);simpa using this
theorem Nz{A:Type}{s:List Sh}{c:A->List D}{ok:A->Prop}(h:∀r,nx s r->∃x,ok x/\r=c x):∀{rows:List (List D)},(∀r∈rows,nx s r)->∃xs:List A,rows=xs.map c/\∀x∈xs,ok x
 | [],_=>⟨[],rfl,by simp⟩
 |r::rows,hr=>by
  obtain⟨x,e,rfl⟩:=h r (hr r (by simp));obtain⟨xs,rfl,b⟩:=Nz (rows:=rows) h (λr d=>hr r (mem_cons_of_mem _ d));exact⟨x::xs,rfl,by simpa using⟨e,b⟩⟩
end
end Go.Abs
namespace Go.Abs
open List hiding min
theorem Tt{z:Nat}(s:z≠0):∀{rows:List (List D)},(∀r∈rows,r.length=z)->∀m,rows.flatten[m]?=(rows[m/z]?).bind (·[m%z]?)
 | [],_,m=>by simp
 |r::rows,h,m=>by
  have q:=h r (by simp);rw[flatten_cons];by_cases o:m<z
  ·rw[getElem?_append_left (by omega),Nat.div_eq_of_lt o,Nat.mod_eq_of_lt o];rfl
  ·rw[getElem?_append_right (by omega),q,Tt s (λr o=>h r (by simp[o])) (m-z)];have p:m/z=(m-z)/z+1:=by
    have:m=(m-z)+z:=by omega
    rw[this,Nat.add_div_right _ (by omega)];simp
   have e2:(m-z)%z=m%z:=(Nat.mod_eq_sub_mod (by omega)).symm;rw[p,e2];simp
theorem KQ{z:Nat}:∀{rows:List (List D)},(∀r∈rows,r.length=z)->rows.flatten.length=rows.length*z
 | [],_=>by simp
 |r::rows,h=>by
  rw[flatten_cons,cR,KQ (λr o=>h r (by simp[o])),h r (by simp),length_cons,Nat.succ_mul];omega
def splice(T:List (List D))(i:Nat)(N:List (List D)):List (List D):=T.take i++N++T.drop (i+N.length)
variable{i:Nat}{N:List (List D)}
def I1{T:List (List D)}(h:i+N.length<=T.length):(splice T i N).length=T.length:=by simp[splice];omega
def I2{T:List (List D)}{r:List D}(h:r∈splice T i N):r∈T\/r∈N:=by
 simp only[splice,mem_append]at h;rcases h with(h|h)|h
 ·exact .inl (mem_of_mem_take h)
 ·exact .inr h
 ·exact .inl (mem_of_mem_drop h)
def Wh{T:List (List D)}{k:Nat}(h:i+N.length<=T.length):(splice T i N)[k]?=if i<=k/\k<i+N.length then N[k-i]? else T[k]?:=by
 unfold splice;have p:(T.take i).length=i:=by simp;omega
 by_cases o:k<i
 ·rw[dz,getElem?_append_left (by omega),getElem?_take_of_lt o,au (by omega)]
 ·by_cases h2:k<i+N.length
  ·rw[getElem?_append_left (by simp;omega),getElem?_append_right (by omega),p,aq (by omega)]
  ·rw[getElem?_append_right (by simp;omega),getElem?_drop,au (by omega)];congr 1;simp;omega
variable{z:Nat}
variable{cs:List D}{a:Addr}{news:List Value}{off r m ly l by_ c:Nat}{f:Option Addr}{rows:List (List D)}{g:D}{b:Value}{y x:Operand}{ea k:Bool}{h j:TypeId}
section
variable{P:Program}{n:Nat}{w0 w w':World}{l0:Nat->Option Nat}{G:Nat->Option (Nat×Nat)}{S0:Nat->Option Value}{lev lev' own own':Nat->Option Nat}{S S':Nat->Option Value}{env env':Env}{tm tm':Nat->Value}
def Inv.Rf(h:Inv w0 l0 G S0 w lev own S env tm){ds:List D}(X:env.o r=.box cs)(H:news.length=ds.length)(I:∀v∈news,v.oneCell'=true)
  (J:∀(j:Nat) v d,news[j]?=some v->ds[j]?=some d->aM (cx w lev S) v d) (hoff:off+ds.length<=cs.length) (W:S r=some (.pointer (some a))) :
  ∃w',(storeCells (a.add off) news).run P w=.ok () w'/\Inv w0 l0 G S0 w' lev own S (dU env r (.box (nR cs off ds))) tm:=by
 have t:=h.objs r;rw[X]at t;obtain⟨b,o,c,E,Q,M,h3,R,U,V,h7⟩:=t;have:a=⟨b,o,none⟩:=by rw[Q]at W;cases W;rfl
 subst this;have F:(o+off)+news.length<=c.size:=by omega
 have q:∀j,(eJ c (o+off) news)[j]?=if o+off<=j/\j<o+off+ds.length then news[j-(o+off)]? else c[j]?:=by
  intro j;rw[mN _ _ _ _ F,H]
 refine⟨gA w b (eJ c (o+off) news) E,?_,?_⟩
 ·have:=kq (P:=P) b (o+off) E news 0 c w M (by simpa using F) I;simp only[Nat.add_zero]at this;rw[gP];exact this
 have A:pV w lev (gA w b (eJ c (o+off) news) E) lev:=pN R;refine h.setObj (rN h M (eo _ _ _) V ?_) A (λ_ _=>rfl) (λ_ h=>h) (.inr (by rw[X];simp)) ?_ ?_
 ·intro j O;rw[q,au (by omega)]
 ·intro Y s hs _ C _;have:Y≠b:=by
   rintro rfl;rw[U]at C;cases C;exact hs rfl
  exact⟨oB this _ _,rfl,rfl⟩
 ·have L:(nR cs off ds).length=cs.length:=rO (by omega);refine⟨b,o,_,E,Q,mK (lt_of_block M) _ _,by rw[eo,L];exact h3,R,U,by rw[L];exact V,?_⟩;intro j u e B p;rw[q]at B;rw[Dh (by omega)]at p;by_cases O:off<=j/\j<off+ds.length
  ·rw[aq (by omega)]at B;rw[aq O]at p;have Z:o+j-(o+off)=j-off:=by omega
   rw[Z]at B;exact(J _ u e B p).x7 A λ_ _ h=>h
  ·rw[au (by omega)]at B;rw[au O]at p;exact(h7 j u e B p).x7 A λ_ _ h=>h
def Inv.ZB(h:Inv w0 l0 G S0 w lev own S env tm)(he:env.o r=.own z rows)(M:news.length=N.length*z)(Q:∀v∈news,v.oneCell'=true)
  (Z:∀r∈N,r.length=z) (hp:∀r∈N,∀d∈r,dK d)
  (R:∀(i j:Nat) p d,N[i]?=some p->p[j]?=some d->∃u,news[i*z+j]?=some u/\aM (cx w lev S) u d) (V:i+N.length<=rows.length) {len cap:Nat} (ha:S r=some (.slice f len cap)) (X:rows≠[]) :
  ∃b w',f=some b/\(storeCells (b.add (i*z)) news).run P w=.ok () w'/\Inv w0 l0 G S0 w' lev own S (dU env r (.own z (splice rows i N))) tm:=by
 have D:=h.objs r;rw[he]at D;rcases D with⟨_,_,O⟩| ⟨b,c,E,cap',h1,h2,h3,h4,h5,h6,h7,h8,h9,h10⟩
 ·exact(X O).elim
 have:f=some ⟨b,0,none⟩:=by rw[h1]at ha;cases ha;rfl
 subst this;have W:(i+N.length)*z<=cap'*z:=tj z (by omega);rw[Nat.add_mul]at W;have L:i*z+news.length<=c.size:=by omega
 have t:∀j,(eJ c (i*z) news)[j]?=if i*z<=j/\j<i*z+N.length*z then news[j-i*z]? else c[j]?:=by
  intro j;rw[mN _ _ _ _ L,M]
 refine⟨_,gA w b (eJ c (i*z) news) E,rfl,?_,?_⟩
 ·have:=kq (P:=P) b (i*z) E news 0 c w h2 (by simpa using L) Q;simp only[Nat.add_zero]at this;rw[gP,Nat.zero_add];exact this
 have I:pV w lev (gA w b (eJ c (i*z) news) E) lev:=pN h7;refine h.setObj (rN h h2 (eo _ _ _) h9 ?_) I (λ_ _=>rfl) (λ_ h=>h) (.inr (by rw[he];simp)) ?_ ?_
 ·intro j hj;rw[t,au (by omega)]
 ·intro b' s hs _ J _;have:b'≠b:=by
   rintro rfl;rw[h8]at J;cases J;exact hs rfl
  exact⟨oB this _ _,rfl,rfl⟩
 ·refine .inr ⟨b,_,E,cap',by rw[I1 V];exact h1,mK (lt_of_block h2) _ _,by rw[eo];exact h3,by rw[I1 V];exact h4,?_,?_,h7,h8,by rw[eo];exact h9,?_⟩
  ·intro p A;rcases I2 A with A|A
   ·exact h5 p A
   ·exact Z p A
  ·intro p A;rcases I2 A with A|A
   ·exact h6 p A
   ·exact hp p A
  ·intro C j p x q U;rw[Wh V]at q;by_cases B:i<=C/\C<i+N.length
   ·rw[aq B]at q;have F:j<z:=by rw[<-Z p (fO q)];exact(gU.1 U).1
    obtain⟨u,Y,H⟩:=R _ j p x q U;refine⟨u,?_,H.x7 I λ_ _ h=>h⟩;have e1:(C-i)*z=C*z-i*z:=Nat.sub_mul _ _ _;have e2:i*z<=C*z:=tj z B.1;have e3:=wS (z:=z) F (show C-i<N.length by omega);rw[t,aq (by omega),<-Y];congr 1;omega
   ·rw[au B]at q;have F:j<z:=by rw[<-h5 p (fO q)];exact(gU.1 U).1
    obtain⟨u,Y,H⟩:=h10 C j p x q U;refine⟨u,?_,H.x7 I λ_ _ h=>h⟩;rw[t,au ?_]
    ·exact Y
    ·rintro⟨g1,g2⟩;rw[<-Nat.add_mul]at g2;refine B ⟨?_,?_⟩
     ·rcases dN C i with hlt|hge
      ·have:=wS F hlt;omega
      ·exact hge
     ·rcases dN C (i+N.length)with hlt|hge
      ·exact hlt
      ·have:=tj z hge;omega
def oL.take{V:Cx}{a:Option Addr}{len cap z m:Nat}{R:List (List D)}(h:oL w V (.slice a len cap) z R)(hm:m<=R.length):oL w V (.slice a m cap) z (R.take m):=by
 obtain⟨a',cap',e,h1,A,B,C,E⟩:=h;cases e;have u:(R.take m).length=m:=by simp;omega
 have:=show oL w V (.slice a (R.take m).length cap) z (R.take m)from
  ⟨a,cap,rfl,by omega,λr s=>A r (mem_of_mem_take s),λr s=>B r (mem_of_mem_take s),λo=>by rw[C o];simp,λv o i j t d p F=>by
   have q:i<m:=by have:=(gU.1 p).1;rw[u]at this;exact this
   rw[getElem?_take_of_lt q]at p
   exact E v o i j t d p F⟩
 rwa[u]at this
def Src(e:Env)(z m ly:Nat)(rows:List (List D)):D->Prop
 | .eC r off z' l c=>z'=z/\l=ly/\m<=l/\sC z (pP e.o [] 2 (.eC r off z' m c))=some rows
 |y=>∃R,sC z (pP e.o [] 2 y)=some R/\R.length=ly/\m<=ly/\rows=R.take m
def Wj(h:Inv w0 l0 G S0 w lev own S env tm)(D:aM (cx w lev S) b g)(O:z≠0)(C:Src env z m ly rows g) :
  (Builtin.lenOf b).run P w=.ok ly w/\rows.length=m/\(∀r∈rows,r.length=z)/\(∀r∈rows,∀d∈r,dK d)/\∃news:List Value,(Builtin.firstCells z m b).run P w=.ok news.toArray w/\news.length=rows.length*z/\(∀u∈news,u.oneCell'=true) /\
   ∀(i j:Nat) row d,rows[i]?=some row->row[j]?=some d->∃u,news[i*z+j]?=some u/\aM (cx w lev S) u d:=by
 have key:∃a cap,b=.slice a ly cap/\oL w (cx w lev S) (.slice a m cap) z rows:=by
  by_cases B:∃r off v l c,g=.eC r off v l c
  ·obtain⟨r,off,v,l,c,rfl⟩:=B;obtain⟨rfl,rfl,L,M⟩:=C;obtain⟨a,A,s,I,rfl,h3,h4,h5,rfl,F⟩:=D.j0;exact⟨A,_,rfl,rL h (aM.eC r off v m s a A I F (by omega)) M S⟩
  ·have t:∃R,sC z (pP env.o [] 2 g)=some R/\R.length=ly/\m<=ly/\rows=R.take m:=by
    cases g<;>first|exact C|exact(B ⟨_,_,_,_,_,rfl⟩).elim
   obtain⟨R,H,J,L,rfl⟩:=t;have p:=rL h D H S;have q:=p;obtain⟨a,cap,rfl,_⟩:=q;rw[<-J];exact⟨a,cap,rfl,p.take (by omega)⟩
 obtain⟨a,cap,rfl,p⟩:=key;have q:=p;obtain⟨a2,cap2,e,g1,E,g3,g4,g5⟩:=q;cases e;obtain⟨news,n1,Q,U,V⟩:=BZ (P:=P) (w:=w) O p.toC;refine⟨by simp[Builtin.lenOf,Sem.run,pure],rfl,E,g3,news,?_,Q,V,U⟩;cases a<;>exact n1
theorem XM{C:Cx}(B:z≠0)(t:∀r∈rows,r.length=z)(h:∀(i j:Nat) row d,rows[i]?=some row->row[j]?=some d->∃u,news[i*z+j]?=some u/\aM C u d)
  (m:Nat) (v:Value) (d:D) (A:news[m]?=some v) (o:rows.flatten[m]?=some d):aM C v d:=by
 rw[Tt B t]at o;cases p:rows[m/z]? with
 |none=>rw[p]at o;cases o
 |some row =>
  rw[p]at o;obtain⟨u,s,q⟩:=h _ _ row d p o;have e:m/z*z+m%z=m:=by rw[Nat.mul_comm];exact Nat.div_add_mod m z
  rw[e,A]at s;cases s;exact q
section
variable{e:Env}{K:Env->Prop}{d:Nat}{ty T T2:TypeId}{pos:String}{after:Array Edge}{gu:Option (Nat×Bool)}
def gM.aaj(hT:eH P T=.slice z by_ ea)(hx:rd e x=.eC r off z l c)(Z:e.o r=.box cs)(D:Src e z (min ly l) ly rows (rd e y))(Y:d<n)
  (B:off+(min ly l)*z<=cs.length) (I:K (ck (dU e r (.box (nR cs off rows.flatten))) d (.int .i64 (min ly l:Nat)))) :
  gM P n ⟨some d,.call ⟨.builtin .copy,#[x,y],#[T,T2]⟩,ty,pos,after,gu⟩ e K:=by
 intro w0 l0 G S0 w lev own S a next Q h hn v q
 have C:=h.BJ a rfl x;have U:=h.BJ a rfl y;rw[hx]at C;obtain⟨el,inf,hu,hl,hin,hb,hz,zv0,hzv0,hzz0⟩:=fR hT;obtain⟨s,h1,W,h3,news,H,X,h6,h7⟩:=Wj (P:=P) h U hz D;obtain⟨ad,a',cap',hS,hv,g3,g4,g5,rfl,g6⟩:=C.j0;have A:=KQ W;have L:news.length=rows.flatten.length:=by rw[X,A]
 by_cases F:min ly l=0
 ·have V:rows=[]:=length_eq_zero_iff.1 (by omega);subst V;have R:news=[]:=length_eq_zero_iff.1 (by simpa using X);subst R;have E:nR cs off []=cs:=by simp[nR]
  have M:dU e r (.box cs)=e:=by
   simp only[dU];cases e with
   |mk t o =>
    simp only[Env.mk.injEq,true_and];funext j;by_cases hj:j=r
    ·subst hj;simp only[if_true];exact Z.symm
    ·simp[hj]
  simp only[flatten_nil,E,M,F]at I;refine upon_value rfl (u:=.int .i64 0) ?_ (iT hn v q Y (h.put (.int _ _)) I);have O:(#[x,y].map a.eval:Array Value) = #[a.eval x,a.eval y]:=by simp
  rw[F]at H;have p:ly.min l=0:=F;cases a'<;>simp[execOp,resolve,Sem.run_bind,pure,Sem.run,invoke,builtin,O,Builtin.copy_,bO hu,hv,s,cY hl,p,H,goInt,storeCells]
 ·have J:=g6 (by omega);subst J;obtain⟨w',hr,hi⟩:=h.Rf (P:=P) Z L h6 (XM hz W h7) (by rw[A,h1];exact B) hS;refine upon_value rfl (u:=.int .i64 (min ly l:Nat)) ?_ (iT hn v q Y (hi.put (.int _ _)) I);have O:(#[x,y].map a.eval:Array Value) = #[a.eval x,a.eval y]:=by simp
  have p:ly.min l=min ly l:=rfl;simp[execOp,resolve,Sem.run_bind,pure,Sem.run,invoke,builtin,O,Builtin.copy_,bO hu,hv,s,cY hl,p,H,hr,goInt]
def gM.cap{x:Operand}{z by_:Nat}{ea:Bool}{r off l c:Nat}(v:eH P T=.slice z by_ ea)(F:rd e x=.eC r off z l c)(A:d<n)(t:K (ck e d (.int .i64 c))):gM P n ⟨some d,.call ⟨.builtin .cap,#[x],#[T]⟩,ty,pos,after,gu⟩ e K:=by
 intro w0 l0 G S0 w lev own S a next Q h C s o
 have q:=h.BJ a rfl x;rw[F]at q;obtain⟨el,inf,D,_⟩:=fR v;obtain⟨ad,a',p,hS,E,g3,g4,g5,rfl,g6⟩:=q.j0;refine upon_value rfl (u:=.int .i64 p) ?_ (iT C s o A (h.put (.int _ _)) t);have B:(#[x].map a.eval:Array Value) = #[a.eval x]:=by simp
 simp[execOp,resolve,Sem.run_bind,pure,Sem.run,invoke,builtin,B,Builtin.cap_,bO D,E,goInt]
def V6{t:TypeId}(o:P.underlying t=some (.slice h))(a:Option Addr)(l c:Nat):(Op.equal t (.slice a l c) (.slice none 0 0)).run P w=.ok a.isNone w:=by
 show(Op.equalIn (9999+1) t _ _).run P w=_;cases a<;>(unfold Op.equalIn;simp only[Sem.run_bind,bO o,Result.andThen_ok];rfl)
theorem gM.As(D:eH P T=.slice z by_ ea)(M:rd e x=.sl r rows)(A:d<n)(v:∀b:Bool,(b=true->rows=[])->K (ck e d (.bool b))) :
  gM P n ⟨some d,.binOp .eql T x (.const (.slice none 0 0)) j,ty,pos,after,gu⟩ e K:=by
 intro w0 l0 G S0 w lev own S a next Q h B q o
 have t:=h.BJ a rfl x;rw[M]at t;obtain⟨el,inf,J,_⟩:=fR D;obtain⟨p,cap,L,h1,h2,h3,C,h5⟩:=t.Bx;have F:a.eval (.const (.slice none 0 0))=.slice none 0 0:=rfl;have H:=V6 (P:=P) (w:=w) J p rows.length cap;have s:∀b:Bool,p.isNone=b->(execOp a.eval ⟨some d,.binOp .eql T x (.const (.slice none 0 0)) j,ty,pos,after,gu⟩).run P w=.ok (.value (.bool b)) w:=by
  rintro b rfl;have I:(eqGuard .eql T x (.const (.slice none 0 0)) (.slice p rows.length cap) (.slice none 0 0)).run P w=.ok () w:=by simp[eqGuard,Sem.run,pure]
  have E:(binOp .eql T (.slice p rows.length cap) (.slice none 0 0)).run P w=.ok (.bool p.isNone) w:=by simp[binOp,Sem.run_bind,H,Sem.run,pure]
  simp only[execOp,L,F,Sem.run_bind,I,E,Result.andThen_ok];rfl
 cases p with
 |none=>exact upon_value rfl (u:=.bool true) (s true rfl) (iT B q o A (h.put (.bool _)) (v true (λ_=>(C rfl).1)))
 |some p=>exact upon_value rfl (u:=.bool false) (s false rfl) (iT B q o A (h.put (.bool _)) (v false (λh=>by cases h)))
end
end
end Go.Abs
namespace Go.Abs
open List
variable{r l by_ z:Nat}{b:Act->World->Prop}{a:Act}{ea:Bool}{x g f:Operand}{i m j:Int}{ts:Array TypeId}{fn:Func}{k:FuncId}{c:Array Value->Sem Value}
section
variable{P:Program}{n:Nat}{w0 w w':World}{l0:Nat->Option Nat}{G:Nat->Option (Nat×Nat)}{S0:Nat->Option Value}{lev lev' own own':Nat->Option Nat}{S S':Nat->Option Value}{env env':Env}{tm tm':Nat->Value}
variable{e:Env}{K:Env->Prop}{d:Nat}{ty T T2:TypeId}{pos:String}{after:Array Edge}{gu:Option (Nat×Bool)}
theorem abY{e:Env}{x:D}(p:e.o r=x):dU e r x=e:=by
 simp only[dU];cases e with
 |mk t o =>
  simp only[Env.mk.injEq,true_and];funext j;by_cases h:j=r
  ·subst h;simp only[if_true];exact p.symm
  ·simp[h]
def Eh{o:Oper}{Q:Exit->Act->World->Prop}{u:Value}(p:o.dst=none)(q:(execOp a.eval o).run P w=.ok (.value u) w')
  (h:b a w'):o.wp P a w b Q:=by
 unfold Oper.wp;rw[q];simp only[Oper.upon,p,Act.put];exact h
def gM.clear{x:Operand}{z by_:Nat}{ea:Bool}{r off l c:Nat}{cs zc:List D}(hT:eH P T=.slice z by_ ea)(hx:rd e x=.eC r off z l c)(he:e.o r=.box cs)(ac:gy P T=some zc)(C:zc.length=z)(af:∀d∈zc,dK d)
  (O:off+l*z<=cs.length) (Y:K (dU e r (.box (nR cs off (replicate l zc).flatten)))) :
  gM P n ⟨none,.call ⟨.builtin .clear,#[x],#[T]⟩,ty,pos,after,gu⟩ e K:=by
 intro w0 l0 G S0 w lev own S a next Q h hn J q
 have R:=h.BJ a rfl x;rw[hx]at R;obtain⟨el,inf,hu,hl,aa,hb,hz,zv,ag,t⟩:=fR hT;have ae:nw P el=some zc:=by rw[<-ac];simp[gy,hu]
 obtain⟨p,A,hzs,E⟩:=uv ae w;have V:(zeroValue el).run P w=.ok zv w:=by simp[zeroValue,Sem.run_bind,pF aa,ag,Sem.run,pure]
 have W:p=zv:=by rw[V]at A;cases A;rfl
 subst W;obtain⟨ad,a',cap',hS,X,g3,g4,g5,rfl,g6⟩:=R.j0;have hm:(#[x].map a.eval:Array Value) = #[a.eval x]:=by simp
 by_cases h0:l=0
 ·subst h0;have hw:nR cs off []=cs:=by simp[nR]
  simp only[replicate_zero,flatten_nil,hw,abY he]at Y;refine Eh rfl (u:=.tuple #[]) ?_ (q _ _ _ _ _ a hn J h Y);cases a'<;>simp[execOp,resolve,Sem.run_bind,pure,Sem.run,invoke,builtin,hm,Builtin.clear_,bO hu,X]
 ·have Z:=g6 (by omega);subst Z;have L:(replicate l zc).flatten.length=l*z:=Ew C l;have ab:(Builtin.zeroCells p.cells l).toList.length=(replicate l zc).flatten.length:=by rw[L];simp[Builtin.zeroCells,t]
  have F:∀(j:Nat) v,(Builtin.zeroCells p.cells l).toList[j]?=some v->∃d,zc[j%z]?=some d/\aM (cx w lev S) v d:=by
   intro j v s;have B:j<l*z:=by have:=(gU.1 s).1;omega
   have N:j%z<z:=Nat.mod_lt _ (by omega);have y:j%z<p.cells.size:=by rw[t];exact N
   have M:j%z<zc.length:=by rw[C];exact N
   have:v=p.cells[j%z]:=by
    simp only[Builtin.zeroCells,Array.getElem?_toList,Array.getElem?_map]at s;rw[Array.getElem?_eq_getElem (by simp[t];exact B)]at s;simp only[Option.map_some,Array.getElem_range,oF,t]at s;rw[<-s,getElem!_pos p.cells _ y]
   subst this;exact⟨zc[j%z],by simp[M],E _ (j%z) _ _ (by simp[y]) (by simp[M])⟩
  obtain⟨w',U,hi⟩:=h.Rf (P:=P) he ab (by
   intro v X;obtain⟨j,s⟩:=mem_iff_getElem?.1 X;obtain⟨d,H,U⟩:=F j v s
   exact(CT U (af d (fO H)).1).1) (by
   intro j v d s H;have B:j<l*z:=by have:=(gU.1 H).1;omega
   rw[GX C hz l j B]at H;obtain⟨d',I,U⟩:=F j v s;rw[H]at I;cases I
   exact U) (by rw[L];exact O) hS
  refine Eh rfl (u:=.tuple #[]) ?_ (q _ _ _ _ _ a hn J hi Y);cases l with
  |zero=>exact(h0 rfl).elim
  |succ l=>simp[execOp,resolve,Sem.run_bind,pure,Sem.run,invoke,builtin,hm,Builtin.clear_,bO hu,X,V,U]
theorem gM.Xw{lo:Nat}{R:List (List D)}{zc:List D}(hT:eH P T=.slice z by_ ea)(hx:rd e x=.gq r z lo l)(he:e.o r=.own z R)(aj:gy P T=some zc)(F:zc.length=z)(Y:∀d∈zc,dK d)
  (B:lo+l<=R.length) (h0:l≠0) (hK:K (dU e r (.own z (splice R lo (replicate l zc))))) :
  gM P n ⟨none,.call ⟨.builtin .clear,#[x],#[T]⟩,ty,pos,after,gu⟩ e K:=by
 intro w0 l0 G S0 w lev own S a next Q h hn ae E
 have X:=h.BJ a rfl x;rw[hx]at X;obtain⟨el,inf,hu,hl,ag,hb,hz,zv,al,s⟩:=fR hT;have ak:nw P el=some zc:=by rw[<-aj];simp[gy,hu]
 obtain⟨p,C,hzs,H⟩:=uv ak w;have Z:(zeroValue el).run P w=.ok zv w:=by simp[zeroValue,Sem.run_bind,pF ag,al,Sem.run,pure]
 have aa:p=zv:=by rw[Z]at C;cases C;rfl
 subst aa;obtain⟨ad,a',L,cap,cap',hS,hv,g3,g4,g5⟩:=X.o8;obtain⟨b,ac,ab⟩:=g3 h0;have hm:(#[x].map a.eval:Array Value) = #[a.eval x]:=by simp
 have I:∀(j:Nat) v,(Builtin.zeroCells p.cells l).toList[j]?=some v->∃d,zc[j%z]?=some d/\aM (cx w lev S) v d:=by
  intro j v t;have ah:j<l*z:=by have:=(gU.1 t).1;simp[Builtin.zeroCells,s]at this;omega
  have W:j%z<z:=Nat.mod_lt _ (by omega);have A:j%z<p.cells.size:=by rw[s];exact W
  have U:j%z<zc.length:=by rw[F];exact W
  have:v=p.cells[j%z]:=by
   simp only[Builtin.zeroCells,Array.getElem?_toList,Array.getElem?_map]at t;rw[Array.getElem?_eq_getElem (by simp[s];exact ah)]at t;simp only[Option.map_some,Array.getElem_range,oF,s]at t;rw[<-t,getElem!_pos p.cells _ A]
  subst this;exact⟨zc[j%z],by simp[U],H _ (j%z) _ _ (by simp[A]) (by simp[U])⟩
 have y:(Builtin.zeroCells p.cells l).toList.length=l*z:=by simp[Builtin.zeroCells,s]
 obtain⟨b',w',J,q,hi⟩:=h.ZB (P:=P) (N:=replicate l zc) (news:=(Builtin.zeroCells p.cells l).toList) he (i:=lo) (by rw[length_replicate];exact y) (by
   intro v hv;obtain⟨j,t⟩:=mem_iff_getElem?.1 hv;obtain⟨d,hd,q⟩:=I j v t
   exact(CT q (Y d (fO hd)).1).1)
  (by intro r q;rw[(mem_replicate.1 q).2];exact F) (by intro r q;rw[(mem_replicate.1 q).2];exact Y) (by
   intro i j am d hi t;have af:i<l:=by
    have:=(gU.1 hi).1;simpa using this
   have q:am=zc:=(mem_replicate.1 (fO hi)).2;subst q;have O:j<z:=by rw[<-F];exact(gU.1 t).1
   have ai:i*z+j<l*z:=wS O af;have V:(i*z+j)%z=j:=by rw[Nat.add_comm,Nat.add_mul_mod_self_right,Nat.mod_eq_of_lt O]
   have hk:i*z+j<(Builtin.zeroCells p.cells l).toList.length:=by rw[y];exact ai
   obtain⟨d',M,q⟩:=I (i*z+j) _ (fj hk);rw[V,t]at M;cases M
   exact⟨_,fj hk,q⟩) (by rw[length_replicate];exact B) hS (by intro e0;subst e0;simp at B;omega)
 rw[ac]at J;cases J;subst ab;refine Eh rfl (u:=.tuple #[]) ?_ (E _ _ _ _ _ a hn ae hi hK);cases l with
 |zero=>exact(h0 rfl).elim
 |succ l=>simp[execOp,resolve,Sem.run_bind,pure,Sem.run,invoke,builtin,hm,Builtin.clear_,bO hu,hv,Z,q]
def AV {as : Array Operand} {u : Value} (hf : a.eval f = .func (.func k) #[] #[]) (hk : P.funcs[k]? = some fn) (hname : (fn.name == "runtime.NumGoroutine") = false)
  (hb:fn.body.isNone=true) (hn:Extern.findNext fn=none) (he:Extern.find fn=some c) (hr:(c (as.map a.eval)).run P w=.ok u w) :
  (execOp a.eval ⟨some d,.call ⟨.value f,as,ts⟩,ty,pos,after,gu⟩).run P w=.ok (.value u) w:=by
 have h1 : fn.name ≠ "runtime.NumGoroutine" := by simpa using hname
 have h2:fn.body=none:=by simpa using hb
 simp[execOp,resolve,hf,Deferred.ofValue,Sem.run_bind,invoke,callFunc,hk,h1,h2,hn,he,program,mark,Sem.run,pure,hr]
def gM.xI {c : Operand} (hf : rd e f = .fn k []) (hk : P.funcs[k]? = some fn) (hname : (fn.name == "runtime.NumGoroutine") = false) (hb : fn.body.isNone = true) (hn : Extern.findNext fn = none) (he : Extern.find fn = some add64Entry)
  (hx:rd e x=.int .u64 i) (hy:rd e g=.int .u64 j) (hc:rd e c=.int .u64 m) (h1:0<=i) (h2:0<=j) (h3:0<=m) (h4:m<=1) (hd:d<n) (hK:K (ck e d (.bI [.int .u64 ((i+j+m)%18446744073709551616),.int .u64 ((i+j+m)/18446744073709551616)]))) :
  gM P n ⟨some d,.call ⟨.value f,#[x,g,c],ts⟩,ty,pos,after,gu⟩ e K:=by
 intro w0 l0 G S0 w lev own S a next Q h hnn hdf hnext
 have hof:=h.BJ a rfl f;have ho1:=h.BJ a rfl x;have ho2:=h.BJ a rfl g;have ho3:=h.BJ a rfl c;rw[hf]at hof;rw[hx]at ho1;rw[hy]at ho2;rw[hc]at ho3;obtain⟨cv,hv,hcs,hcc⟩:=hof.AZ;have hcv:cv = #[]:=Array.eq_empty_of_size_eq_zero (by simpa using hcs);subst hcv;have hm:(#[x,g,c].map a.eval:Array Value) = #[.int .u64 i,.int .u64 j,.int .u64 m]:=by simp[ho1.eU,ho2.eU,ho3.eU]
 refine upon_value rfl (AV hv hk hname hb hn he (by rw[hm];exact run_add64 i j m h1 h2 h3 h4 w)) (iT hnn hdf hnext hd (h.put (.bI _ _ rfl ?_)) hK);intro i' v dd hi' hd';rcases i' with _| _|i'
 ·simp at hi' hd';subst hi';subst hd';exact .int _ _
 ·simp at hi' hd';subst hi';subst hd';exact .int _ _
 ·simp at hi'
theorem MW(ps rs:Array TypeId)(a b:Option Addr)(la ca lb cb:Nat):Extern.SlicesOverlaps.overlaps ps rs #[.slice a la ca,.slice b lb cb]=(do
  let some t := ps[0]? | stuck "slices.overlaps: no parameter types"
  let .slice elem <- underlying t | stuck "slices.overlaps: slice type expected"
  let size <-sizeOf elem
  match a,b with
  |some a,some b =>
   if la=0\/lb=0\/size=0 then pure (.bool false)
   else if a.block != b.block&&(<-frozen a)&&(<-frozen b)then unsupported .addressObserved
   else do
    if a.block != b.block then do
     noView a;noView b
     if <- mayBeOne a b then return .bool ((<- choose (.extern "sameAddr.stringBytes" 2)) == 1)
    pure (.bool (a.block==b.block&&a.off<b.off+lb*size&&b.off<a.off+la*size))
  | _,_=>pure (.bool false)):=rfl
def gM.overlaps {f x y : Operand} {k : FuncId} {fn : Func} {ts : Array TypeId} {t0 : TypeId} {z by_ : Nat} {ea : Bool} {r2 z2 r off l c : Nat} {rows : List (List D)} {cs : List D} (hf : rd e f = .fn k []) (hk : P.funcs[k]? = some fn) (hname : (fn.name == "runtime.NumGoroutine") = false) (hb : fn.body.isNone = true)
  (hn:Extern.findNext fn=none) (he:Extern.find fn=some (Extern.SlicesOverlaps.overlaps fn.params fn.resultTypes)) (hp:fn.params[0]?=some t0) (hT:eH P t0=.slice z by_ ea) (hx:rd e x=.ref r2) (hxo:e.o r2=.own z2 rows) (hy:rd e y=.eC r off z l c) (hyo:e.o r=.box cs)
  (hd:d<n) (hK:K (ck e d (.bool false))) :
  gM P n ⟨some d,.call ⟨.value f,#[x,y],ts⟩,ty,pos,after,gu⟩ e K:=by
 intro w0 l0 G S0 w lev own S a next Q h hnn hdf hnext
 have hof:=h.BJ a rfl f;have ho1:=h.BJ a rfl x;have ho2:=h.BJ a rfl y;rw[hf]at hof;rw[hx]at ho1;rw[hy]at ho2;obtain⟨cv,hv,hcs,hcc⟩:=hof.AZ;have hcv:cv = #[]:=Array.eq_empty_of_size_eq_zero (by simpa using hcs);subst hcv;obtain⟨el,inf,hu,hl,hin,hbi,hz,zv,hzv,hzz⟩:=fR hT;obtain⟨ad,a',cap',hS,hvy,g3,g4,g5,rfl,g6⟩:=ho2.j0;obtain⟨hS2,b2,len2,cap2,hvx⟩:=ho1.qY;rw[hvx]at hS2;have hS2:S r2=_:=hS2;have hS:S r=_:=hS;have hobj:=h.objs r;rw[hyo]at hobj;obtain⟨b,o,cc,E,q1,q2,q3,q4,q5,q6,q7⟩:=hobj;have had:ad=⟨b,o,none⟩:=by rw[q1]at hS;cases hS;rfl
 have hobj2:=h.objs r2;rw[hxo]at hobj2;have hrr:r2≠r:=by rintro rfl;rw[hxo]at hyo;cases hyo
 have hm:(#[x,y].map a.eval:Array Value) = #[.slice b2 len2 cap2,.slice a' l cap']:=by simp[hvx,hvy]
 refine upon_value rfl (AV (u:=.bool false) hv hk hname hb hn he ?_) (iT hnn hdf hnext hd (h.put (.bool _)) hK);rw[hm,MW];by_cases hz0:len2=0\/l=0\/z=0
 ·cases b2<;>cases a'<;>simp[hp,Sem.run_bind,bO hu,cY hl,hz0,Sem.run,pure]
 ·have hc0:cap'≠0:=by omega
  have ha':=g6 hc0;subst ha';subst had;rcases hobj2 with⟨aa,p1,p2⟩| ⟨b',c',E',cap3,p1,p2,p3,p4,p5,p6,p7,p8,p9,p10⟩
  ·rw[p1]at hS2;cases hS2;exact(hz0 (.inl rfl)).elim
  ·have:b2=some ⟨b',0,none⟩:=by rw[p1]at hS2;cases hS2;rfl
   subst this;have hbb:b'≠b:=by rintro rfl;rw[p8]at q5;cases q5;exact hrr rfl
   have f1:w.frozen? ⟨b',0,none⟩=false:=by simp[World.frozen?,p2]
   have f2:∀i,w.frozen? ⟨b,i,none⟩=false:=by intro i;simp[World.frozen?,q2]
   have f3:∀i,w.frozen? ⟨b',i,none⟩=false:=by intro i;simp[World.frozen?,p2]
   have s1:w.shape? b'=some (E',c'.size):=by simp[World.shape?,p2]
   have s2:w.shape? b=some (E,cc.size):=by simp[World.shape?,q2]
   have hao:(⟨b,o,none⟩:Addr).add off=⟨b,o+off,none⟩:=gP _ _ _;rw[hao];simp[hp,Sem.run_bind,bO hu,cY hl,hz0,hbb,f1,f2,f3,s1,s2,noView,viewAt,mayBeOne,stringish,Sem.run,pure]
end
end Go.Abs
namespace Go.Abs
variable{z:Nat}{rows R:List (List D)}{ds:List D}
section
variable{P:Program}
end
variable{d:D}
variable{off:Nat}{cs:List D}
variable{i m:Nat}
def xR:D->Bool
 | .undef| .bool _| .int _ _| .str _| .nil| .emp| .mD| .ig| .iV| .oG| .sl _ _| .bE _=>true
 | _=>false
variable{b:Nat->Bool}{a:Nat->Option Nat}
def Yc(h:xR d=true):mg a b d d:=by
 cases d<;>first| (cases h;done)|simp[mg]
theorem j8{f:Nat->Option Nat}{e:Nat->Bool}:∀{X:List D},(∀d∈X,xR d=true)->mB f e X X
 | [],_=>by simp[mB]
 |d::X,h=>by
  simp only[mB];exact⟨Yc (h d (by simp)),j8 λx c=>h x (by simp[c])⟩
end Go.Abs
namespace Go.Abs
open Go.RowKit
variable{l off j r c by_ c2 off2 r2 l2 b2 N:Nat}{cs cs2 as:List D}{ea f:Bool}{b:Array (Nat×Operand)}{y x:Operand}
section
variable{P:Program}{n:Nat}{e:Env}{K:Env->Prop}{T T2 ty:TypeId}{d:Nat}{pos:String}{after:Array Edge}{gu:Option (Nat×Bool)}
variable{w0 w w':World}{l0:Nat->Option Nat}{G:Nat->Option (Nat×Nat)}{S0:Nat->Option Value}{lev own:Nat->Option Nat}{S:Nat->Option Value}{tm:Nat->Value}
def ar'(cs:List D):List (List D):=cs.map λd=>[d]
end
end Go.Abs
namespace Go.Abs
def uP{S:Type}(n:Nat)(I:Nat->S->Prop)(x:Nat×S):Prop:=x.1<=n/\I x.1 x.2
def uQ{S:Type}(n:Nat)(x:Nat×S):Nat:=n-x.1
variable{kO kT:EL}{body:(Exit->Env->Prop)->Env->Prop}{S:Type}{e:Env}{Q:Exit->Env->Prop}
def aF.sK(n:Nat)(m l:List Nat)(ts os:Nat->S->EL)(I:Nat->S->Prop)(s0:S)
  (g:I 0 s0) (d:Jr e (ts 0 s0++kT) (os 0 s0++kO))
  (j:∀i s,i<n->decide ((i:Int)<(n:Int))=true->IntKind.wrap .i64 ((i:Int)+1)=((i+1:Nat):Int)->I i s->body (mJ (λx:Nat×S=>ts x.1 x.2++kT) (λx:Nat×S=>os x.1 x.2++kO) (uP n I) (uQ n) (i,s) Q) (sM (ts i s++kT) (os i s++kO)))
  (k:∀s,decide ((n:Int)<(n:Int))=false->I n s->body (mJ (λx:Nat×S=>ts x.1 x.2++kT) (λx:Nat×S=>os x.1 x.2++kO) (uP n I) (uQ n) (n,s) Q) (sM (ts n s++kT) (os n s++kO))) (hn:n<9223372036854775807:=by omega)
  (hT:xP e.t m=kT:=by simp only[go_sem,seval]<;>exact rfl) (hO:xQ e.o l=kO:=by simp only[go_sem,seval]<;>exact rfl):aF body Q e:=by
 refine⟨Nat×S,λx=>ts x.1 x.2++kT,λx=>os x.1 x.2++kO,uP n I,uQ n,(0,s0),⟨Nat.zero_le _,g⟩,d,?_⟩;rintro⟨i,s⟩ ⟨f,hI⟩;rcases dN i n with h|h
 ·exact j i s h (dY (by omega)) (by rw[IntKind.wrap_i64];omega) hI
 ·have f:i<=n:=f;obtain rfl:i=n:=by omega
  exact k s (iA (by omega)) hI
structure Tg(t o:List Nat)(k:Nat):Prop where
def aF.w1(n k:Nat)(g f:List Nat)(I:Nat->Unit->Prop)(h:I 0 ())
  (p:∀i (s:Unit),i<n->decide ((i:Int)<(n:Int))=true->IntKind.wrap .i64 ((i:Int)+1)=((i+1:Nat):Int)->I i s->body (mJ (λx:Nat×Unit=>[(k,.int .i64 x.1)]++kT) (λ_=>[]++kO) (uP n I) (uQ n) (i,s) Q) (sM ([(k,.int .i64 i)]++kT) ([]++kO)))
  (q:∀s:Unit,decide ((n:Int)<(n:Int))=false->I n s->body (mJ (λx:Nat×Unit=>[(k,.int .i64 x.1)]++kT) (λ_=>[]++kO) (uP n I) (uQ n) (n,s) Q) (sM ([(k,.int .i64 n)]++kT) ([]++kO))) (m:n<9223372036854775807:=by omega)
  (l:xP e.t g=kT:=by simp only[go_sem,seval]<;>exact rfl) (j:xQ e.o f=kO:=by simp only[go_sem,seval]<;>exact rfl)
  (d:Jr e ([(k,.int .i64 ((0:Nat):Int))]++kT) ([]++kO):=by simp only[go_sem,seval]<;>simp):aF body Q e:=
 aF.sK n g f (λi _=>[(k,.int .i64 i)]) (λ_ _=>[]) I () h d p q m l j
def aF.wu(n:Nat)(g f:List Nat)(ts os:Nat->EL)(I:Nat->Prop)
  (h:I 0) (d:Jr e (ts 0++kT) (os 0++kO))
  (m:∀i (s:Unit),i<n->decide ((i:Int)<(n:Int))=true->IntKind.wrap .i64 ((i:Int)+1)=((i+1:Nat):Int)->I i->body (mJ (λx:Nat×Unit=>ts x.1++kT) (λx:Nat×Unit=>os x.1++kO) (uP n λi _=>I i) (uQ n) (i,s) Q) (sM (ts i++kT) (os i++kO)))
  (p:∀s:Unit,decide ((n:Int)<(n:Int))=false->I n->body (mJ (λx:Nat×Unit=>ts x.1++kT) (λx:Nat×Unit=>os x.1++kO) (uP n λi _=>I i) (uQ n) (n,s) Q) (sM (ts n++kT) (os n++kO))) (l:n<9223372036854775807:=by omega)
  (k:xP e.t g=kT:=by simp only[go_sem,seval]<;>exact rfl) (j:xQ e.o f=kO:=by simp only[go_sem,seval]<;>exact rfl):aF body Q e:=
 aF.sK n g f (λi _=>ts i) (λi _=>os i) (λi _=>I i) () h d m p l k j
def aF.wv(n:Nat)(g f:List Nat)(ts os:Nat->EL)
  (d:Jr e (ts 0++kT) (os 0++kO))
  (l:∀i (s:Unit),i<n->decide ((i:Int)<(n:Int))=true->IntKind.wrap .i64 ((i:Int)+1)=((i+1:Nat):Int)->True->body (mJ (λx:Nat×Unit=>ts x.1++kT) (λx:Nat×Unit=>os x.1++kO) (uP n λ_ _=>True) (uQ n) (i,s) Q) (sM (ts i++kT) (os i++kO)))
  (m:∀s:Unit,decide ((n:Int)<(n:Int))=false->True->body (mJ (λx:Nat×Unit=>ts x.1++kT) (λx:Nat×Unit=>os x.1++kO) (uP n λ_ _=>True) (uQ n) (n,s) Q) (sM (ts n++kT) (os n++kO))) (k:n<9223372036854775807:=by omega)
  (j:xP e.t g=kT:=by simp only[go_sem,seval]<;>exact rfl) (h:xQ e.o f=kO:=by simp only[go_sem,seval]<;>exact rfl):aF body Q e:=
 aF.sK n g f (λi _=>ts i) (λi _=>os i) (λ_ _=>True) () trivial d l m k j h
variable{a b:List Nat}
def aF.wt{k:Nat}(g:Tg a b k)(n:Nat)(I:Nat->Unit->Prop)(f:I 0 ())
  (m:∀i (s:Unit),i<n->decide ((i:Int)<(n:Int))=true->IntKind.wrap .i64 ((i:Int)+1)=((i+1:Nat):Int)->I i s->body (mJ (λx:Nat×Unit=>[(k,.int .i64 x.1)]++kT) (λ_=>[]++kO) (uP n I) (uQ n) (i,s) Q) (sM ([(k,.int .i64 i)]++kT) ([]++kO)))
  (p:∀s:Unit,decide ((n:Int)<(n:Int))=false->I n s->body (mJ (λx:Nat×Unit=>[(k,.int .i64 x.1)]++kT) (λ_=>[]++kO) (uP n I) (uQ n) (n,s) Q) (sM ([(k,.int .i64 n)]++kT) ([]++kO))) (l:n<9223372036854775807:=by omega)
  (j:xP e.t a=kT:=by simp only[go_sem,seval]<;>exact rfl) (h:xQ e.o b=kO:=by simp only[go_sem,seval]<;>exact rfl)
  (d:Jr e ([(k,.int .i64 ((0:Nat):Int))]++kT) ([]++kO):=by simp only[go_sem,seval]<;>simp):aF body Q e:=
 aF.w1 n k a b I f m p l j h d
variable{i n:Nat}
def ah.jT{s:S}{ts os:Nat×S->EL}{I:Nat->S->Prop}(d:S)(f:i<n)(h:I (i+1) d)(g:Jr e (ts (i+1,d)) (os (i+1,d))):ah ts os (uP n I) (uQ n) (i,s) e:=
 ⟨(i+1,d),⟨f,h⟩,g,by show n-(i+1)<n-i;omega⟩
variable{ts os:Nat×Unit->EL}{s:Unit}{c:Nat->Unit->Prop}
def ah.u(d:i<n)(h:c (i+1) ())(f:Jr e (ts (i+1,())) (os (i+1,()))):ah ts os (uP n c) (uQ n) (i,s) e:=ah.jT () d h f
def ah.v(d:i<n)(f:Jr e (ts (i+1,())) (os (i+1,()))):ah ts os (uP n λ_ _=>True) (uQ n) (i,s) e:=ah.jT () d trivial f
def cg{A:Type}{xs:List A}(h:i<xs.length):xs.drop i=xs[i]::xs.drop (i+1):=List.drop_eq_getElem_cons h
variable{r:Nat}
def Ve{d:D}(h:xR d=true):d.kill r=d:=by
 cases d<;>first| (cases h;done)|rfl
def tK{X:List D}(h:∀d∈X,xR d=true):D.lq r X=X:=by
 rw[lF];exact(List.map_congr_left λd f=>Ve (h d f)).trans (List.map_id' _)
end Go.Abs
namespace Go.Abs
variable{np:Nat}
def gT.dq{os:Array Oper}(h:AU np os=true:=by kernel_rfl):gT np os:=gT.mk h
def Ek.dq{ops:List Oper}{o:Oper}{r:Nat}(h:tU np ops o r=true:=by kernel_rfl):Ek np ops o r:=Ek.mk h
structure Hd(q:Prop):Prop where
 out:q
variable{p:Prop}
def bg{q:Prop}(k:q) (h:Hd q->p:=by
 intro k
 (with_reducible and_intros)<;>first|exact .dq|omega|exact k.out):p:=h ⟨k⟩
variable{a:Int}
def fQ{x:Int}(h1:-9223372036854775808<=x:=by omega)(h2:x<9223372036854775808:=by omega)(h:x=a:=by omega):IntKind.wrap .i64 x=a:=by rw[IntKind.wrap_i64];omega
def iy[Decidable p](h:p:=by omega):decide p=true:=dY h
def iE[Decidable p](h:¬p:=by omega):decide p=false:=iA h
def Jl (h:p:=by
 first
  |omega
  |rfl
  | (refine e0 ?_;clear e0 e1;rw[hk];clear hk;simp_all;done)
  | (refine e0 ?_;clear e0 e1;rw[hk];clear hk;simp_all;omega)
  | (rw[e1 ?_];clear e0 e1;rw[hk];clear hk;simp_all;done)
  | (rw[e1 ?_];clear e0 e1;rw[hk];clear hk;simp_all;omega)
  | (rw [e1 ?_]
     ·rfl
     ·clear e0 e1;rw[hk];clear hk;simp_all;done)
  | (rw [e1 ?_]
     ·rfl
     ·clear e0 e1;rw[hk];clear hk;simp_all;omega)):p:=h
variable{A:Type _}
def aN(a:A):∃x,x=a:=⟨_,rfl⟩
def qE{B:Type _}{f:A->B}{l:List A}:(l.map f).length=l.length:=List.length_map f
def bQ(a b:Bool):((a&&b)=true)=(a=true/\b=true):=Bool.and_eq_true a b
def iM:(false=true)=False:=Bool.false_eq_true
variable{B:Type}
def iq{A:Type}(f:A->List B){xs:List A}{i:Nat}(h:i<xs.length):(xs.take (i+1)).flatMap f=(xs.take i).flatMap f++f xs[i]:=by
 rw[jU h,List.flatMap_append];simp
def uC(f:Nat->List B)(i:Nat):(List.range (i+1)).flatMap f=(List.range i).flatMap f++f i:=by
 rw[List.range_succ,List.flatMap_append];simp
theorem gH{A B:Type}{f:A->List B}{m:Nat}(h:∀a,(f a).length<=m):∀xs:List A,(xs.flatMap f).length<=m*xs.length
 | []=>by simp
 |x::r=>by
  have h1:=h x;have h2:=gH h r;simp only[List.flatMap_cons,cR,List.length_cons,Nat.mul_succ];omega
def DD{f:Nat->List B}{m:Nat}(h:∀a,(f a).length<=m)(i:Nat):((List.range i).flatMap f).length<=m*i:=by
 have:=gH h (List.range i);simpa using this
end Go.Abs
namespace Go.Abs
section
variable(τ:TypeId->TypeId)(ρ:FuncId->FuncId)
def LF:Operand->Operand
 | .func f=>.func (ρ f)
 |o=>o
def rnK:Callee->Callee
 | .value f=>.value (LF ρ f)
 |c=>c
def Nv:Op->Op
 | .load t a=>.load (τ t) (LF ρ a)
 | .store t a v=>.store (τ t) (LF ρ a) (LF ρ v)
 | .binOp o t x y u=>.binOp o (τ t) (LF ρ x) (LF ρ y) (τ u)
 | .unOp o t x=>.unOp o (τ t) (LF ρ x)
 | .convert a b x=>.convert (τ a) (τ b) (LF ρ x)
 | .slice t x l h m=>.slice (τ t) (LF ρ x) l h m
 | .indexAddr t x i=>.indexAddr (τ t) (LF ρ x) (LF ρ i)
 | .makeSlice t l c=>.makeSlice (τ t) l c
 | .call c=>.call ⟨rnK ρ c.callee,c.args,⟨c.argTypes.toList.map τ⟩⟩
 |o=>o
def rnR(o:Oper):Oper:=⟨o.dst,Nv τ ρ o.op,τ o.type,o.pos,o.after,o.guard⟩
def LD:Code->Code
 | .region i ops d=>.region i ⟨ops.toList.map (rnR τ ρ)⟩ d
 | .seq a b=>.seq (LD a) (LD b)
 | .cond c a b=>.cond (LF ρ c) (LD a) (LD b)
 | .block i b=>.block i (LD b)
 | .loop b=>.loop (LD b)
 |c=>c
end
def jK(np:Nat):Code->Bool
 | .region _ ops d=>!d||AU np ops
 | .seq a b=>jK np a&&jK np b
 | .cond _ a b=>jK np a&&jK np b
 | .block _ b=>jK np b
 | .loop b=>jK np b
 | _=>true
structure L9(P:Program)(τ:TypeId->TypeId)(ρ:FuncId->FuncId)(k:FuncId)(np:Nat):Prop where
 ok : ∃ f0 f c0, P.funcs[k]? = some f0 /\ P.funcs[ρ k]? = some f /\ f0.body = some c0 /\ f.body = some (LD τ ρ c0) /\ jK np (LD τ ρ c0) = true /\ f.ntmps = f0.ntmps /\ f.results = f0.results /\ (f.name == "runtime.NumGoroutine") = false
variable{ρ:FuncId->FuncId}{τ:TypeId->TypeId}{b:Code}{a:Func}
def ya {P : Program} {k np : Nat} {f : Func} (h0 : P.funcs[k]? = some a) (h1 : P.funcs[ρ k]? = some f) (hb : a.body = some b := by exact rfl) (hc : f.body = some (LD τ ρ b) := by kernel_rfl) (hd : jK np (LD τ ρ b) = true := by kernel_rfl) (hn : f.ntmps = a.ntmps := by kernel_rfl) (hr : f.results = a.results := by kernel_rfl) (hx : (f.name == "runtime.NumGoroutine") = false := by kernel_rfl) : L9 P τ ρ k np :=
 ⟨a,f,b,h0,h1,hb,hc,hd,hn,hr,hx⟩
variable{e g:List D}
def QI(n np:Nat)(rs:List ResultVar){P:Program}{k:FuncId}(R:L9 P τ ρ k np)(v:P.follows .mixedOrders=true){fn:Func}{c:Code}(u:P.funcs[k]?=some fn){ds:List D}{d:D}(y:jK np (LD τ ρ c)=true->nQ P n np (LD τ ρ c) (SE P rs e.length g d) (sM (Uk 0 ds) (uw 0 e)))
  (r:fn.body=some c:=by exact rfl) (x:fn.results.toList=rs:=by exact rfl) (w:fn.ntmps=n:=by exact rfl) (m:ds.length=np:=by exact rfl) (i:np<=n:=by simp) (j:e.length<=16:=by simp):Abs.Spec P (ρ k) e ds g d:=by
 obtain⟨f0,f,c0,p,q,h,s,t,l,o,z⟩:=R.ok;rw[u]at p;obtain rfl:=Option.some.inj p;rw[r]at h;obtain rfl:=Option.some.inj h;exact Spec.CW v q s (by rw[o,x]) (by rw[l,w]) z m i j (y t)
end Go.Abs
namespace Go.Abs
def a2{a b:Prop}(x:a)(y:b):a/\b:=⟨x,y⟩
def a3{a b c:Prop}(x:a)(y:b)(z:c):a/\b/\c:=⟨x,y,z⟩
def a4{a b c d:Prop}(x:a)(y:b)(z:c)(w:d):a/\b/\c/\d:=⟨x,y,z,w⟩
def a5{a b c d e:Prop}(x:a)(y:b)(z:c)(w:d)(v:e):a/\b/\c/\d/\e:=⟨x,y,z,w,v⟩
section
variable{E C p q:Prop}
def sm(e:E)(k:q)(h:E->p=q:=by intro e;simp only[go_sem,seval,e]<;>exact rfl):p:=(h e).mpr k
def s0(k:q)(h:p=q:=by simp only[go_sem,seval]<;>exact rfl):p:=h.mpr k
def dL(e:E)(h:E->p:=by intro e;simp only[go_sem,seval,e]):p:=h e
def jq(h:p:=by simp only[go_sem,seval]):p:=h
def Si(h:p:=by(with_reducible and_intros)<;>first|exact .dq|omega):p:=h
def sc(e:E)(c:C)(k:q) (h:E->C->Hd q->p:=by
 intro e c k;try simp only[go_sem,seval,e]
 (with_reducible and_intros)<;>first
  | (refine aG.bC c ?_;try simp only [go_sem,seval,e]
     exact k.out)
  |exact .dq
  |omega):p:=h e c ⟨k⟩
def sl(e:E)(c:C)(k:q) (h:E->C->Hd q->p:=by
 intro e c k;try simp only[go_sem,seval,e]
 (with_reducible and_intros)<;>first
  | (refine aG.gE [] [] true (by simp) ?_;simp only [go_sem,seval,e];refine cz.gF c ?_;try simp only [go_sem,seval,e]
     exact k.out)
  |exact .dq
  |omega):p:=h e c ⟨k⟩
def so(e:E)(c:C)(k:q) (h:E->C->Hd q->p:=by
 intro e c k;try simp only[go_sem,seval,e]
 (with_reducible and_intros)<;>first
  | (refine aG.gE [] [] false (by simp) ?_;simp only [go_sem,seval,e];refine cz.gF c ?_;try simp only [go_sem,seval,e]
     exact k.out)
  |exact .dq
  |omega):p:=h e c ⟨k⟩
def sg(g:List Nat)(e:E)(c:C)(k:q) (h:∀r,r=g->E->C->Hd q->p:=by
 intro r a e c k;try simp only[go_sem,seval,e]
 (with_reducible and_intros)<;>first
  | (refine aG.gE [] r false (by simp) ?_;subst a;simp only [go_sem,seval,e];refine cz.gF c ?_;try simp only [go_sem,seval,e]
     exact k.out)
  |exact .dq
  |omega):p:=h g rfl e c ⟨k⟩
def sp(g:List Nat)(e:E)(c:C)(k:q) (h:∀r,r=g->E->C->Hd q->p:=by
 intro r a e c k;try simp only[go_sem,seval,e]
 (with_reducible and_intros)<;>first
  | (refine N5.apt r (by subst a;kernel_rfl) ?_;subst a;simp only [go_sem,seval,e]
     (with_reducible and_intros)<;>first
      | (refine Ki.intro c ?_;try simp only [go_sem,seval,e]
         exact k.out)
      |exact .dq
      |omega)
  |exact .dq
  |omega):p:=h g rfl e c ⟨k⟩
def sZ(e:E)(c:C) (h:E->C->p:=by
 intro e c;try simp only[go_sem,seval,e]
 (with_reducible and_intros)<;>first
  | (refine aG.bC c ?_;simp only[go_sem,seval,e];try((with_reducible and_intros)<;>first|exact .dq|omega))
  |exact .dq
  |omega):p:=h e c
def WQ(e:E)(c:C) (h:E->C->p:=by
 intro e c;try simp only[go_sem,seval,e]
 (with_reducible and_intros)<;>first
  | (refine aG.gE [] [] true (by simp) ?_;simp only[go_sem,seval,e];refine cz.gF c ?_;simp only[go_sem,seval,e];try((with_reducible and_intros)<;>first|exact .dq|omega))
  |exact .dq
  |omega):p:=h e c
def sgx(g:List Nat)(e:E)(c:C) (h:∀r,r=g->E->C->p:=by
 intro r a e c;try simp only[go_sem,seval,e]
 (with_reducible and_intros)<;>first
  | (refine aG.gE [] r false (by simp) ?_;subst a;simp only[go_sem,seval,e];refine cz.gF c ?_;simp only[go_sem,seval,e];try((with_reducible and_intros)<;>first|exact .dq|omega))
  |exact .dq
  |omega):p:=h g rfl e c

def pG(e:E)(c:C)(k:q) (h:E->C->Hd q->p:=by
 intro e c k;try simp -implicitDefEqProofs only[go_sem,seval,e]
 (with_reducible and_intros)<;>first
  | (refine aG.bC c ?_;try simp -implicitDefEqProofs only [go_sem,seval,e]
     exact k.out)
  |exact .dq
  |omega):p:=h e c ⟨k⟩
def soE(e:E)(c:C)(k:q) (h:E->C->Hd q->p:=by
 intro e c k;try simp -implicitDefEqProofs only[go_sem,seval,e]
 (with_reducible and_intros)<;>first
  | (refine aG.gE [] [] false (by simp) ?_;simp -implicitDefEqProofs only [go_sem,seval,e];refine cz.gF c ?_;try simp -implicitDefEqProofs only [go_sem,seval,e]
     exact k.out)
  |exact .dq
  |omega):p:=h e c ⟨k⟩
def WN(g:List Nat)(e:E)(c:C)(k:q) (h:∀r,r=g->E->C->Hd q->p:=by
 intro r a e c k;try simp -implicitDefEqProofs only[go_sem,seval,e]
 (with_reducible and_intros)<;>first
  | (refine aG.gE [] r false (by simp) ?_;subst a;simp -implicitDefEqProofs only [go_sem,seval,e];refine cz.gF c ?_;try simp -implicitDefEqProofs only [go_sem,seval,e]
     exact k.out)
  |exact .dq
  |omega):p:=h g rfl e c ⟨k⟩
def su{a b:Prop}(x:a)(h:a->b:=by intro x;simpa using x):b:=h x
def sT(h:p:=by simp):p:=h
def gY(e:E)(h:E->p:=by intro e;simp only[go_sem,seval,e]<;>simp):p:=h e
def kG(h:p:=by simp only[go_sem,seval]<;>simp):p:=h
def ato(h:p:=by repeat' with_reducible first|apply And.intro|exact .dq|refine aG.bC (by assumption) ?_|refine mO (λh=>?_) λh=>?_|refine .id ?_|refine ah.jE (by omega) ?_ ?_|exact aS|simp only[*,go_sem,seval]):p:=h
theorem gr(a b:Int):(a != b) = !(a==b):=rfl

end
end Go.Abs
