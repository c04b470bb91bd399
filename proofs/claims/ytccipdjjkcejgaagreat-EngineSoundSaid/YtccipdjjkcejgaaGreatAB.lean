/- The evaluator, part 2; no theorem of a claim. -/
import Derived.Test.YtccipdjjkcejgaaGreatAA
import Derived.Orders
import Derived.Carry
import Derived.ProofKit
import Derived.OpenShut
import Derived.Lib.SmallJoins
import Derived.LaidLaws
import Derived.Handed
import Derived.Deep.Slices
import Derived.SizedLaws
import Derived.Laws.Externs
set_option linter.unusedSimpArgs false
set_option linter.unusedVariables false
namespace Go.Abs
open List
variable {v a x y:D} {d:Nat} {t t2:Ty} {z:Option (List D)} {dr g:Bool} {o:Oper}
section
variable {P:Program} {n np:Nat} {e:Env} {K K':Env->Prop}
theorem aaC (h:∀ e,K e->K' e) {t:TypeId} (q:Xz P e t a K v):Xz P e t a K' v:=by
 unfold Xz at q |-;split at q
 ·unfold StB at q |-;split at q
  ·cases s:gC P t with
   | none=>simp only [s] at q
   | some l=>simp only [s] at q |-;exact ⟨q.1,q.2.1,q.2.2.1,h _ q.2.2.2⟩
  ·exact q.elim
 ·unfold StO at q |-;split at q
  ·cases s:gC P t with
   | none=>simp only [s] at q
   | some l=>simp only [s] at q |-;exact ⟨q.1,q.2.1,q.2.2.1,q.2.2.2.1,q.2.2.2.2.1,h _ q.2.2.2.2.2⟩
  ·exact q.elim
 ·exact q.elim
theorem aas (h:∀ e,K e->K' e) {len:Nat} {ps:List (Nat × Operand)} (q:Ui e len ps d K t z):Ui e len ps d K' t z:=by
 unfold Ui at q |-;split at q
 ·exact ⟨q.1,q.2.1,q.2.2.1,q.2.2.2.1,q.2.2.2.2.1,h _ q.2.2.2.2.2⟩
 ·exact q.elim
theorem aay (h:∀ e,K e->K' e) {l c:D} (q:MkK e d K l c t z):MkK e d K' l c t z:=by
 unfold MkK at q |-;split at q
 ·exact ⟨q.1,q.2.1,q.2.2.1,q.2.2.2.1,q.2.2.2.2.1,q.2.2.2.2.2.1,q.2.2.2.2.2.2.1,h _ q.2.2.2.2.2.2.2⟩
 ·exact q.elim
theorem Np (h:∀ e,K e->K' e) (q:qO e d K x y t t2):qO e d K' x y t t2:=by
 unfold qO at q |-;split at q
 ·refine ⟨q.1,?_⟩;have q:=q.2;unfold wP at q |-;split at q
  ·exact ⟨q.1,q.2.1,h _ q.2.2⟩
  ·exact ⟨q.1,q.2.1,h _ q.2.2⟩
  ·unfold Xt at q |-;split at q
   ·exact ⟨q.1,q.2.1,q.2.2.1,h _ q.2.2.2⟩
   ·exact q.elim
  ·exact q.elim
 ·exact q.elim
theorem Uj (h:∀ e,K e->K' e) {f:Operand} {args:List Operand} (q:Ca P dr e d f args K):Ca P dr e d f args K':=by
 obtain ⟨fz,gs,bw,s,w,A,q⟩:=q;exact ⟨fz,gs,bw,s,w,A,oD (KW.mono h) q⟩
theorem YR (h:∀ e,K e->K' e) (q:iF P n dr o e g K):iF P n dr o e g K':=by
 have w:∀ {g:Bool} {a B:Prop} {e:Env},(a->B)->GK g a (K e)->GK g B (K' e):=fun G E=>⟨fun x=>G (E.1 x),fun x=>h _ (E.2 x)⟩
 have st:∀ {g:Bool} {ok:Prop} {v:D} {d:Nat},gr g ok v (fun u=>K (bP e d u))->gr g ok v (fun u=>K' (bP e d u)):=fun F=>⟨F.1,h _ F.2⟩
 cases C:o.dst with
 | none =>
  cases s:o.op<;>simp only [iF,s,C] at q |-;exact ⟨q.1,aaC h q.2⟩
 | some d =>
  cases s:o.op<;>simp only [iF,s,C] at q |-<;>(try exact ⟨q.1,st q.2⟩)
  case box t x=>exact ⟨q.1,q.2.1,q.2.2.1,q.2.2.2.1,h _ q.2.2.2.2⟩
  case alloc t =>
   refine ⟨q.1,q.2.1,?_⟩;have q:=q.2.2;unfold Xr at q |-;split at q
   ·exact ⟨q.1,h _ q.2⟩
   ·exact q.elim
  case buildSlice t len parts=>exact ⟨q.1,w (fun x=>⟨x.1,aas h x.2⟩) q.2⟩
  case makeSlice t l c=>exact ⟨q.1,w (aay h) q.2⟩
  case call c =>
   refine ⟨q.1,?_⟩;have q:=q.2;cases A:c.callee with
   | invoke r m=>rw [A] at q;exact q.elim
   | value f=>rw [A] at q;exact w (fun q=>q.elim (fun q=>.inl (Uj h q)) (fun q=>.inr ⟨q.1,q.2.mono h⟩)) q
   | builtin b =>
    rw [A] at q;cases b<;>simp only at q |-<;>(try exact st q);refine ⟨q.1,q.2.1,?_⟩;have q:=q.2.2;split at q
    ·unfold B9 at q |-;split at q
     ·exact q.mono h
     ·exact q.mono h
     ·exact Np h q
    ·exact q.elim
theorem rU (h:∀ e,K e->K' e) (q:kn P n dr o e g K):kn P n dr o e g K':=by
 unfold kn at q |-;split at q
 ·rename_i s;rw [aq s];exact ⟨q.1,q.2.1,q.2.2.mono h⟩
 ·rename_i s;rw [ak s];exact YR h q
end
def vq (l:List Operand):List Nat:=l.filterMap fun | .tmp t=>some t | _=>none
def keyOf (ops:List Oper):Nat->Nat->List Nat
 | 0,t=>[t]
 | k+1,t=>match ops.find? (fun o=>o.dst==some t) with
  | some o=>(match o.op with
   | .fieldAddr _ (.tmp u) f=>f :: keyOf ops k u
   | _=>[t])
  | none=>[t]
def aeV (ops:List Oper) (q:List Nat) (o:Oper):Bool:=
 match o.op with
 | .load _ (.tmp u)=>keyOf ops 4 u==q
 | _=>false
def rootOf (ops:List Oper):Nat->Nat->Nat
 | 0,t=>t
 | k+1,t=>match ops.find? (fun o=>o.dst==some t) with
  | some o=>(match o.op with
   | .fieldAddr _ (.tmp u) _=>rootOf ops k u
   | .indexAddr _ (.tmp u) _=>rootOf ops k u
   | .nilCheck (.tmp u)=>rootOf ops k u
   | .move (.tmp u)=>rootOf ops k u
   | .load _ (.tmp u)=>(match ops.find? (aeV ops (keyOf ops 4 u)) with
    | some x=>x.dst.getD t
    | none=>t)
   | _=>t)
  | none=>t
def Ah (s:Nat):List Nat:=(range 16).map (nm s)
def nmS (np s:Nat):List Nat:=Ah s++if s < np then range 16 else []
def rdT (ops:List Oper) (o:Oper):List Nat:=
 vq o.op.operands.toList++(match o.guard with
  | some (j,_)=>(vU ops j).toList
  | none=>[])
def looks (o:Op):Bool:=
 match o with
 | .load _ _ | .store _ _ _ | .indexAddr _ _ _ | .slice _ _ _ _ _ | .call _=>true
 | _=>false
def rdO (np:Nat) (ops:List Oper) (o:Oper):List Nat:=if looks o.op then (vq o.op.operands.toList).flatMap fun t=>nmS np (rootOf ops 8 t) else []
def makes (o:Op):Bool:=
 match o with
 | .alloc _ | .box _ _ | .buildSlice _ _ _ | .makeSlice _ _ _=>true
 | .call c=>(match c.callee with
  | .value _=>true
  | .builtin .append=>true
  | _=>false)
 | _=>false
def Lx (np:Nat) (ops:List Oper):Operand->List Nat
 | .tmp t=>nmS np (rootOf ops 8 t)
 | _=>[]
def D1:Nat:=255
def D2:Nat:=999998
def Ko (o:Oper):Bool:=
 match o.op with
 | .call c=>(match c.callee with
  | .value _=>(match c.argTypes.toList with
   | t :: _=>t==D1||t==D2
   | []=>false)
  | _=>false)
 | _=>false
def Lf:Nat:=58
def qy (o:Oper):Bool:=
 match o.op with
 | .call c=>(match c.callee with
  | .value _=>(match c.argTypes.toList with
   | t :: _=>t==Lf
   | []=>false)
  | _=>false)
 | _=>false
def Mb (np:Nat) (ops:List Oper) (o:Oper):List Nat:=
 (match o.dst with
  | some d=>if makes o.op then Ah d else []
  | none=>[])++(match o.op with
  | .store _ a _=>Lx np ops a
  | .call c=>if qy o then (match c.args.toList with
   | a :: _=>Lx np ops a
   | []=>[]) else []
  | _=>[])
def Jm (o:Oper):List Nat:=o.dst.toList
def af0 (np:Nat) (ops:List Oper):List Nat:=ops.flatMap (Mb np ops)
def Js (np:Nat) (ops:List Oper) (x y:Oper):Bool:=
 (Jm x).all (fun s=>!(rdT ops y).contains s&&!(Jm y).contains s)&&(Jm y).all (fun s=>!(rdT ops x).contains s) &&
 (Mb np ops x).all (fun s=>!(rdO np ops y).contains s&&!(Mb np ops y).contains s)&&(Mb np ops y).all (fun s=>!(rdO np ops x).contains s)
def isApp (o:Oper):Bool:=
 match o.op with
 | .call c=>(match c.callee with
  | .builtin .append=>true
  | _=>false)
 | _=>false
def nM (o:Oper):Bool:=hard o||isApp o||Ko o||qy o
def isT (t:Nat) (a:Operand):Bool:=
 match a with
 | .tmp u=>u==t
 | _=>false
def ajm (o:Op):Bool:=
 match o with
 | .buildSlice _ len ps=>len==0&&ps.toList.isEmpty
 | _=>false
def ah8 (t:Nat) (o:Op):Bool:=
 match o with
 | .call c=>(match c.callee with
  | .builtin .append=>(match c.args.toList with
   | x :: _=>isT t x
   | []=>false)
  | _=>false)
 | _=>false
def Sy (t:Nat):List Oper->Bool
 | []=>false
 | o :: r=>(ajm o.op&&(o.guard.isNone&&o.dst==some t))||Sy t r
def Rj (t:Nat):List Oper->Bool
 | []=>false
 | o :: r=>ah8 t o.op||Rj t r
def ag1 (ops:List Oper) (a:Operand):Bool:=
 match a with
 | .tmp t=>Sy t ops
 | _=>false
def ac3 (ops:List Oper) (s:Op) (q:Option Tmp):Bool:=
 match s with
 | .buildSlice _ len ps=>len==0&&(ps.toList.isEmpty&&(match q with
  | some d=>Rj d ops
  | none=>false))
 | .call c=>(match c.callee with
  | .builtin .append=>(match c.args.toList with
   | x :: _=>ag1 ops x
   | []=>false)
  | _=>false)
 | _=>false
def jR (ops:List Oper) (o:Oper):Bool:=ac3 ops o.op o.dst&&o.guard.isNone
def Ax (ops:List Oper) (o:Oper):Bool:=(hard o||isApp o||Ko o)&&!jR ops o
def sl1 (o:Op):Bool:=
 match o with
 | .slice _ _ _ _ _=>true
 | _=>false
def acZ (t:Nat):List Oper->Bool
 | []=>false
 | o :: r=>(sl1 o.op&&o.dst==some t)||acZ t r
def apI (ops:List Oper) (a:Operand):Bool:=
 match a with
 | .tmp t=>acZ t ops
 | _=>false
def Hw (ops:List Oper) (o:Op):Bool:=
 match o with
 | .call c=>(match c.args.toList with
  | x :: _=>apI ops x
  | []=>false)
 | _=>false
def Gc (ops:List Oper) (o:Oper):Bool:=isApp o&&!Hw ops o.op
variable {ops:List Oper}
theorem Ki (h:Gc ops o=true):Hw ops o.op=false:=by
 simp only [Gc,Bool.and_eq_true,iK] at h;exact h.2
theorem rK (h:Gc ops o=true):isApp o=true:=by
 simp only [Gc,Bool.and_eq_true] at h;exact h.1
def frE:List Oper->Bool
 | []=>false
 | o :: r=>o.after.toList.isEmpty||frE r
def adB (ops:List Oper):List Oper->Bool
 | []=>false
 | o :: r=>(isApp o&&(!jR ops o&&frE r))||adB ops r
def IG (ops:List Oper):Bool:=adB ops ops
def Sn (o:Op):Bool:=
 match o with
 | .move _ | .fieldAddr _ _ _ | .load _ _ | .unOp _ _ _ | .binOp _ _ _ _ _ | .buildSlice _ _ _=>true
 | _=>false
def Ev:D->Bool
 | .undef | .fn _ _ | .agg _ | .bT _ | .box _=>false
 | _=>true
def Q1:D->Bool
 | .box cs=>cs.all Ev
 | _=>false
def ZM (e:Env):D->Bool
 | .addr r _=>Q1 (e.o r)
 | _=>false
def IB (e:Env):List (Nat × Operand)->Bool
 | []=>true
 | p :: r=>Ev (rd e p.2)&&IB e r
def kG (e:Env) (o:Op):Prop:=
 match o with
 | .move x=>Ev (rd e x)=true
 | .fieldAddr _ x _=>Ev (rd e x)=true
 | .load _ a=>ZM e (rd e a)=true
 | .unOp _ _ x=>Ev (rd e x)=true
 | .binOp _ _ x y _=>Ev (rd e x)=true/\Ev (rd e y)=true
 | .buildSlice _ _ ps=>IB e ps.toList=true
 | _=>True
def Ih (e:Env) (o:Op):D:=
 match o with
 | .call c=>(match c.args.toList with
  | x :: _=>rd e x
  | []=>.undef)
 | _=>.undef
def aeP (o:Op):Bool:=
 match o with
 | .buildSlice _ _ _=>true
 | _=>false
def K1:D->Bool
 | .undef | .own _ _ | .box _=>true
 | _=>false
def KY (N:Nat):D->Bool
 | .ref r=>!(r==N)
 | _=>true
def Ut (e:Env) (v:D):List Oper->Prop
 | []=>True
 | y :: r=>(match aeP y.op,y.dst with
  | true,some d=>K1 (e.o (nm d 0))=true/\KY (nm d 0) v=true
  | _,_=>True)/\Ut e v r
def apU (ops:List Oper) (o:Oper) (e:Env):Prop:=IG ops=true->Ut e (Ih e o.op) ops
def GX (ops:List Oper) (o:Oper) (e:Env):Prop:=IG ops=true->o.guard=none->kG e o.op
def apY (np:Nat) (ops:List Oper) (x y:Oper):Bool:=
 IG ops&&(Gc ops x&&(x.guard.isNone&&(y.guard.isNone&&(Sn y.op&&(!jR ops x&&(!jR ops y&&(!nM y&&(!(vq x.op.operands.toList).any (fun s=>y.dst==some s)&&(!(vq y.op.operands.toList).any (fun s=>x.dst==some s)&&(x.dst != y.dst&&(match x.dst with
  | some d=>(Ah d).all (fun s=>!(rdO np ops y).contains s)
  | none=>false)))))))))))
def SM (ops:List Oper) (x y:Oper):Bool:=
 match x.op,x.dst,x.guard with
 | .move (.tmp u),some dx,none=>Gc ops y&&y.guard.isNone&&!(vq y.op.operands.toList).contains dx&&y.dst != some dx&&y.dst != some u&&!IG ops
 | _,_,_=>false
def oE (P:Program) (n:Nat) (o:Oper) (e:Env) (g:Bool) (K:Env->Prop):Prop:=
 match o.op,o.dst with
 | .call c,some d=>d < n/\g=true/\(match c.args.toList,c.argTypes.toList with
  | [x,y],[T,T2]=>qO e d K (rd e x) (rd e y) (dV P T) (dV P T2)
  | _,_=>False)
 | _,_=>False
variable {l:List Operand} {dx:Nat}
section
variable {P:Program} {n:Nat} {e:Env} {K K':Env->Prop}
theorem ahE {S:Prop} (h:qO e d K x y t t2):B9 e d K S x y t t2:=by
 unfold B9;split
 ·unfold qO at h;split at h
  ·have:=h.2;unfold wP at this;split at this<;>simp_all
  ·exact h.elim
 ·unfold qO at h;split at h
  ·have:=h.2;simp only [nG,iR] at this;unfold wP at this;split at this<;>simp_all
  ·exact h.elim
 ·exact h
theorem U4 (h:isApp o=true):hard o=false:=by
 unfold isApp at h;unfold hard;split at h
 ·rename_i c q;rw [q];split at h
  ·rename_i s;simp [s]
  ·cases h
 ·cases h
theorem Ri (q:isApp o=true) (h:oE P n o e g K):kn P n false o e g K:=by
 unfold kn;rw [U4 q];unfold isApp at q;unfold oE at h;split at q
 ·rename_i c s;split at q
  ·rename_i D;rw [s] at h;cases A:o.dst with
   | none=>rw [A] at h;exact h.elim
   | some d =>
    rw [A] at h;obtain ⟨B,C,w⟩:=h;simp only [Bool.false_eq_true,if_false,iF,s,A,D];refine ⟨B,C,aJ,?_⟩;split at w
    ·rename_i x y T T2 q E;rw [q,E];exact ahE w
    ·exact w.elim
  ·cases q
 ·cases q
theorem EA (h:∀ e,K e->K' e) (q:oE P n o e g K):oE P n o e g K':=by
 unfold oE at q |-;split at q
 ·refine ⟨q.1,q.2.1,?_⟩;have s:=q.2.2;split at s
  ·exact Np h s
  ·exact s.elim
 ·exact q.elim
theorem afu {x:Operand} (q:x∈l) (h:(vq l).contains dx=false):rd (bP e dx v) x=rd e x:=by
 cases x with
 | tmp t =>
  have:t≠dx:=by
   rintro rfl;have:t∈vq l:=mem_filterMap.2 ⟨_,q,rfl⟩;rw [contains_eq_mem] at h;simp [this] at h
  exact tc this
 | _=>rfl
theorem XB {u:Nat} (Q:(vq o.op.operands.toList).contains dx=false) (J:o.dst≠some dx) (L:o.dst≠some u) (h:oE P n o (bP e dx (e.t u)) g K) :
  oE P n o e g fun e2=>K (bP e2 dx (e2.t u)):=by
 unfold oE at h |-;cases A:o.op<;>rw [A] at h<;>try exact h.elim
 rename_i c;cases B:o.dst with
 | none=>rw [B] at h;exact h.elim
 | some d =>
  rw [B] at h;obtain ⟨k1,k2,k3⟩:=h;refine ⟨k1,k2,?_⟩;have F:d≠dx:=fun h=>J (by rw [B,h]);have E:d≠u:=fun h=>L (by rw [B,h]);have q:∀ (e:Env) (v:D) (k:Nat) (y r:D),v=e.t u->bP (cV (bP e dx v) k y) d r=bP (bP (cV e k y) d r) dx ((bP (cV e k y) d r).t u):=by
   intro e v k y r O;have I:(bP (cV e k y) d r).t u=v:=by rw [tc (Ne.symm E)];exact O.symm
   rw [I];simp only [bP,cV,Env.mk.injEq,and_true];funext j;by_cases G:j=d
   ·subst G;simp [F]
   ·simp [G]
  split at k3<;>try exact k3.elim
  rename_i x y T T2 s htys;have w:∀ z∈c.args.toList,rd (bP e dx (e.t u)) z=rd e z:=fun z R=>afu (l:=o.op.operands.toList) (by rw [A];simp only [Op.operands,Call.operands,Array.toList_append,mem_append];exact .inr R) Q;rw [w x (by rw [s];simp),w y (by rw [s];simp)] at k3;unfold qO at k3 |-;split at k3<;>try exact k3.elim
  refine ⟨k3.1,?_⟩;have k3:=k3.2;have C:nG (bP e dx (e.t u)).o [] 2 (rd e y)=nG e.o [] 2 (rd e y):=rfl;rw [C] at k3;unfold wP at k3 |-;split at k3<;>try exact k3.elim
  ·refine ⟨k3.1,k3.2.1,?_⟩;dsimp only;rw [<- q e _ _ _ _ rfl];exact k3.2.2
  ·refine ⟨k3.1,k3.2.1,?_⟩;dsimp only;rw [<- q e _ _ _ _ rfl];exact k3.2.2
  ·rename_i r rows2 _ _;have N:(bP e dx (e.t u)).o r=e.o r:=rfl;rw [N] at k3;unfold Xt at k3 |-;split at k3<;>try exact k3.elim
   refine ⟨k3.1,k3.2.1,k3.2.2.1,?_⟩;have M:jM r (bP e dx (e.t u))=bP (jM r e) dx ((jM r e).t u):=by
    simp only [jM,bP,Env.mk.injEq,and_true];funext j;split<;>rfl
   have H:=k3.2.2.2;rw [M] at H;dsimp only;rw [<- q (jM r e) _ _ _ _ rfl];exact H
end
def GB (ops:Array Oper):Nat->Nat->Nat->Bool
 | 0,_,_=>false
 | k+1,i,j=>match ops[i]? with
  | none=>false
  | some y=>y.after.any (fun e=>Region.binds .any e&&(e.on==j||GB ops k e.on j))
def AY (np:Nat) (ops:Array Oper):Bool:=
 (range ops.size).all fun i=>match ops[i]? with
  | none=>true
  | some y=>y.after.all (fun e=>!Region.binds .any e||e.on < i) &&
    (range i).all fun j=>y.after.any (fun e=>Region.binds .any e&&e.on==j)||(match ops[j]? with
     | none=>true
     | some x=>(!Ax ops.toList x&&!Ax ops.toList y&&Js np ops.toList x y)||(SM ops.toList x y&&!jR ops.toList y&&!jR ops.toList x)||apY np ops.toList x y||GB ops 12 i j)
def reach (o:Nat->D):Nat->List Nat->List Nat
 | 0,ns=>ns
 | k+1,ns=>ns++reach o k (D.bK (ns.map o))
def bV (e:Env) (o:Oper):List Nat:=
 match o.op with
 | .load _ a=>(rd e a).names
 | .store _ a _=>(rd e a).names
 | .indexAddr _ x _=>(rd e x).names
 | .slice _ x _ _ _=>(rd e x).names
 | .call c=>(match c.callee with
  | .value f=>reach e.o 4 (D.bK (rd e f :: c.args.toList.map (rd e)))
  | _=>D.bK (c.args.toList.map (rd e)))
 | _=>[]
def rT (np:Nat) (ops:List Oper) (o:Oper) (r:Nat):Bool:=
 (match o.op with
  | .store _ _ _=>(Mb np ops o).contains r
  | _=>(rdO np ops o).contains r||!(af0 np ops).contains r)
def og (np:Nat) (ops:List Oper) (o:Oper):List Nat->Prop
 | []=>True
 | r :: rs=>rT np ops o r=true/\og np ops o rs
theorem qY {np:Nat} {ops:List Oper} {o:Oper}:∀ {l:List Nat},og np ops o l->∀ r∈l,rT np ops o r=true
 | [],_,r,hr=>by cases hr
 | x :: l,h,r,hr=>by
  rcases mem_cons.1 hr with rfl | hr
  ·exact h.1
  ·exact qY h.2 r hr
def Rc (P:Program) (n np:Nat) (ops:List Oper) (o:Oper) (e:Env) (g:Bool) (K:Env->Prop):Prop:=
 (g=true->og np ops o (bV e o))/\kn P n true o e g K
def Pe (e:Env) (z q d:Nat) (K:Env->Prop) (y:Option (List (List D))):Prop:=
 match y with
 | some rows2=>(q+(1-q))*rows2.length<=2 ^ 47/\e.o (nm d 0)=.undef/\K (bP (cV e (nm d 0) (.own z rows2)) d (.ref (nm d 0)))
 | none=>False
def Jk (e:Env) (d:Nat) (K:Env->Prop) (x y:D) (t t2:Ty):Prop:=
 match x,t,t2 with
 | .emp,.slice z by_ _,.slice _ _ _=>by_<=2 ^ 32/\Pe e z by_ d K (iR z (nG e.o [] 2 y))
 | _,_,_=>False
def Mg (e:Env) (d:Nat) (K:Env->Prop) (t:Ty):Prop:=
 match t with
 | .slice _ _ _=>e.o (nm d 0)=.undef/\K (bP e d .emp)
 | _=>False
def oz (P:Program) (n np:Nat) (ops:List Oper) (o:Oper) (e:Env) (K:Env->Prop):Prop:=
 match o.op,o.dst with
 | .buildSlice t _ _,some d=>d < n/\Mg e d K (dV P t)
 | .call c,some d=>d < n/\(match c.args.toList,c.argTypes.toList with
  | [x,y],[T,T2]=>og np ops o (reach e.o 2 (rd e y).names)/\Jk e d K (rd e x) (rd e y) (dV P T) (dV P T2)
  | _,_=>False)
 | _,_=>False
variable {K' K:Env->Prop} {e:Env} {P:Program}
theorem Xu (h:∀ e,K e->K' e) (q:Jk e d K x y t t2):Jk e d K' x y t t2:=by
 unfold Jk at q |-;split at q
 ·refine ⟨q.1,?_⟩;have q:=q.2;unfold Pe at q |-;split at q
  ·exact ⟨q.1,q.2.1,h _ q.2.2⟩
  ·exact q.elim
 ·exact q.elim
variable {np n:Nat}
theorem LN (h:∀ e,K e->K' e) (q:oz P n np ops o e K):oz P n np ops o e K':=by
 unfold oz at q |-;split at q
 ·refine ⟨q.1,?_⟩;have q:=q.2;unfold Mg at q |-;split at q
  ·exact ⟨q.1,h _ q.2⟩
  ·exact q.elim
 ·refine ⟨q.1,?_⟩;have q:=q.2;split at q
  ·exact ⟨q.1,Xu h q.2⟩
  ·exact q.elim
 ·exact q.elim
theorem ahG (q:Jk e d K x y t t2):qO e d K x y t t2:=by
 unfold Jk at q;split at q
 ·unfold qO;refine ⟨q.1,?_⟩;have q:=q.2;unfold Pe at q;split at q
  ·rename_i hr;rw [hr];exact q
  ·exact q.elim
 ·exact q.elim
theorem Xi (h:jR ops o=true):o.guard=none/\((∃ t len ps d,o.op=.buildSlice t len ps/\o.dst=some d/\len=0/\ps = #[])\/isApp o=true):=by
 unfold jR at h;simp only [Bool.and_eq_true,Option.isNone_iff_eq_none] at h;refine ⟨h.2,?_⟩;have h:=h.1;unfold ac3 at h;split at h
 ·rename_i t len ps q;simp only [Bool.and_eq_true,eH] at h;obtain ⟨w,A,s⟩:=h;split at s
  ·rename_i d C;refine .inl ⟨t,len,ps,d,q,C,w,?_⟩;have:ps.toList=[]:=isEmpty_iff.1 A;exact Array.ext' (by simpa using this)
  ·cases s
 ·rename_i c q;split at h
  ·rename_i B;right;simp [isApp,q,B]
  ·cases h
 ·cases h
def aea (P:Program) (np:Nat) (ops:List Oper) (o:Oper) (e:Env) (d:Nat) (f:Operand) (args:List Operand) (K:Env->Prop):Prop:=
 ∃ (gs:List Nat) (q:List D) (s:D),(∀ r∈gs,r∈Lx np ops (args.headD (.global 0)))/\og np ops o (reach e.o 5 (gs++D.bK (rd e f :: args.map (rd e))))/\j9 gs q=[]/\nH P e d args gs false q s K (rd e f)
def Ak (P:Program) (n np:Nat) (ops:List Oper) (o:Oper) (e:Env) (g:Bool) (K:Env->Prop):Prop:=
 match o.op,o.dst with
 | .call c,some d=>(match c.callee with
  | .value f=>d < n/\GK g (aea P np ops o e d f c.args.toList K) (K (bP e d (.bT [])))
  | _=>False)
 | _,_=>False
theorem OJ (h:∀ e,K e->K' e) (q:Ak P n np ops o e g K):Ak P n np ops o e g K':=by
 unfold Ak at q |-;split at q
 ·split at q
  ·refine ⟨q.1,fun s=>?_,fun s=>h _ (q.2.2 s)⟩;obtain ⟨gs,w,A,k1,k2,k3,B⟩:=q.2.1 s;exact ⟨gs,w,A,k1,k2,k3,oD h B⟩
  ·exact q.elim
 ·exact q.elim
theorem acI (s:Ak P n np ops o e g K):kn P n false o e g K:=by
 unfold Ak at s;split at s
 ·rename_i c d w C;split at s
  ·rename_i f q;have E:hard o=false:=by simp [hard,w,q]
   unfold kn;rw [E];simp only [Bool.false_eq_true,if_false,iF,w,C,q];refine ⟨s.1,fun D=>?_,s.2.2⟩;obtain ⟨gs,A,B,k1,k2,k3,F⟩:=s.2.1 D;exact .inl ⟨[],gs,false,A,B,(fun h=>by cases h),oD (fun _ h=>.inl h) F⟩
  ·exact s.elim
 ·exact s.elim
def fy (P:Program) (n np:Nat) (ops:List Oper) (o:Oper) (e:Env) (K:Env->Prop):Prop:=
 match rI ops e o.guard with
 | some g=>if jR ops o then oz P n np ops o e K else if nM o then (if isApp o then (if Hw ops o.op then kn P n false o e g K else oE P n o e g K/\apU ops o e) else if qy o then Ak P n np ops o e g K else kn P n false o e g K) else Rc P n np ops o e g K/\GX ops o e
 | none=>False
def n6 (P:Program) (n np:Nat) (ops:List Oper):List Oper->Env->(Env->Prop)->Prop
 | [],e,K=>K e
 | o :: r,e,K=>fy P n np ops o e fun q=>n6 P n np ops r q K
def HH (s q:Nat->Option D) (e:Env):Env:=⟨fun j=>(s j).getD (e.t j),fun j=>(q j).getD (e.o j)⟩
def one (i:Nat) (d:D):Nat->Option D:=fun j=>if j=i then some d else none
def pZ:Nat->Option D:=fun _=>none
theorem Cw (i:Nat) (d:D) (e:Env):bP e i d=HH (one i d) pZ e:=by
 simp only [bP,HH,one,pZ,Option.getD_none,Env.mk.injEq,and_true];funext j;by_cases h:j=i<;>simp [h]
theorem Wq (i:Nat) (d:D) (e:Env):cV e i d=HH pZ (one i d) e:=by
 simp only [cV,HH,one,pZ,Option.getD_none,Env.mk.injEq,true_and];funext j;by_cases h:j=i<;>simp [h]
theorem PM (i k:Nat) (d x:D) (e:Env):bP (cV e k x) i d=HH (one i d) (one k x) e:=by
 rw [Cw,Wq];simp [HH,pZ]
def GR (f:Nat->Option Nat):List Nat->List D->Nat->Option D
 | n :: ns,h :: hs=>fun j=>match GR f ns hs j with
  | some x=>some x
  | none=>if j=n then some (h.kB f) else none
 | _,_=>pZ
theorem Li (f:Nat->Option Nat):∀ (ns:List Nat) (q:List D) (e:Env),Lh f ns q e=HH pZ (GR f ns q) e
 | [],_,e=>rfl
 | _ :: _,[],e=>rfl
 | n :: ns,h :: q,e=>by
  rw [Lh,Li f ns q,Wq];simp only [HH,pZ,GR,Option.getD_none,Env.mk.injEq,true_and];funext j;cases GR f ns q j with
  | some x=>rfl
  | none=>simp [one]
theorem Md {f:Nat->Option Nat}:∀ {ns:List Nat} {q:List D} {j:Nat} {x:D},GR f ns q j=some x->j∈ns
 | [],_,j,x,h=>by simp [GR,pZ] at h
 | _ :: _,[],j,x,h=>by simp [GR,pZ] at h
 | n :: ns,y :: q,j,x,h=>by
  simp only [GR] at h;cases e:GR f ns q j with
  | some z=>exact mem_cons_of_mem _ (Md e)
  | none =>
   rw [e] at h;simp only at h;split at h
   ·rename_i s;subst s;simp
   ·cases h
theorem OG (d:Nat) (q:List D) (s:D) (e:Env):gf e d [] q s=HH (one d (s.kB (Nw (fB d [] q)))) (GR (Nw (fB d [] q)) (fB d [] q) q) e:=by
 have w:j9 [] q=[]:=by cases q<;>rfl
 unfold gf;rw [w,xL,Li,Cw];simp [HH,pZ]
def oc (np:Nat) (ops:List Oper) (o:Oper) (e e2:Env):Prop:=
 (∀ s∈rdT ops o,e.t s=e2.t s)/\∀ r,(r∈rdO np ops o\/r∈Mb np ops o\/r ∉ af0 np ops)->e.o r=e2.o r
theorem vk {t:Nat} (h:.tmp t∈l):t∈vq l:=mem_filterMap.2 ⟨_,h,rfl⟩
variable {r:Nat} {b:List D} {e2:Env} {c f:Nat->D} {p h i m:Nat->Option D} {j u:Oper} {k:Option Nat}
section
variable {P:Program} {n np:Nat} {ops:List Oper} {o:Oper} {e e2:Env}
theorem oc.rd (h:oc np ops o e e2) {x:Operand} (q:x∈o.op.operands.toList):rd e x=rd e2 x:=by
 cases x<;>try rfl
 rename_i t;exact h.1 t (mem_append_left _ (vk q))
theorem oc.obj (h:oc np ops o e e2) (q:og np ops o (bV e o)) (hr:r∈bV e o):e.o r=e2.o r:=by
 have:=qY q r hr;unfold rT at this;refine h.2 r ?_;split at this
 ·exact .inr (.inl (contains_iff_mem.1 this))
 ·simp only [Bool.or_eq_true,iK,contains_eq_mem,bL,gM] at this;rcases this with h | h
  ·exact .inl h
  ·exact .inr (.inr h)
theorem rj (o1:Nat->D):∀ (k:Nat) (a b:List Nat),(∀ r∈a,r∈b)->∀ r∈reach o1 k a,r∈reach o1 k b:=by
 intro k;induction k with
 | zero=>intro a b q r hr;exact q r hr
 | succ k ih =>
  intro a b q r hr;simp only [reach,mem_append] at hr |-;rcases hr with hr | hr
  ·exact .inl (q r hr)
  ·refine .inr (ih _ _ ?_ r hr);intro s w;obtain ⟨y,A,w⟩:=eu.1 w;obtain ⟨z,B,rfl⟩:=mem_map.1 A;exact eu.2 ⟨_,mem_map.2 ⟨z,q z B,rfl⟩,w⟩
theorem vw (o1:Nat->D):∀ (k:Nat) (a:List Nat),∀ r∈reach o1 k a,r∈reach o1 (k+1) a:=by
 intro k;induction k with
 | zero=>intro a r hr;simp only [reach];exact mem_append_left _ hr
 | succ k ih =>
  intro a r hr;simp only [reach,mem_append] at hr;rcases hr with hr | hr
  ·simp only [reach];exact mem_append_left _ hr
  ·show r∈a++reach o1 (k+1) _;exact mem_append_right _ (ih _ r hr)
theorem yB {o1 o2:Nat->D} (x:List Nat):∀ (k:Nat) (d:D),(∀ r∈reach o1 k d.names,o1 r=o2 r)->nG o1 x k d=nG o2 x k d
 | 0,d,_=>rfl
 | k+1,d,h=>by
  have q:∀ r∈d.names,o1 r=o2 r:=fun r hr=>h r (by simp only [reach];exact mem_append_left _ hr);have w:∀ cs:List D,(∀ c∈cs,∀ r∈reach o1 k c.names,o1 r=o2 r)->cs.map (nG o1 x k)=cs.map (nG o2 x k):=fun cs A=>map_congr_left fun c F=>yB x k c (A c F);have sub:∀ cs:List D,D.bK cs=d.names->∀ c∈cs,∀ r∈reach o1 k c.names,o1 r=o2 r:=by
   intro cs e c A r hr;refine h r (vw o1 k _ r (rj o1 k _ _ ?_ r hr));intro s C;rw [<- e];exact eu.2 ⟨c,A,C⟩
  cases d<;>simp only [nG]
  ·rw [w _ (sub _ rfl)]
  ·rw [w _ (sub _ rfl)]
  ·rw [w _ (sub _ rfl)]
  ·rw [q _ (by simp [D.names])]
  ·rename_i r off;have E:=q r (by simp [D.names]);rw [<- E];congr 1;unfold mL;split
   ·rename_i cs B;congr 1;refine map_congr_left ?_;intro c A;refine yB x k c ?_;intro s C;refine h s ?_;simp only [reach];refine mem_append_right _ (rj o1 k _ _ ?_ s C);intro t G;refine eu.2 ⟨o1 r,mem_map.2 ⟨r,by simp [D.names],rfl⟩,?_⟩;rw [B];simp only [D.names];exact eu.2 ⟨c,mem_of_mem_drop A,G⟩
   ·rfl
  ·rw [q _ (by simp [D.names])]
  ·rw [q _ (by simp [D.names])]
  ·rw [q _ (by simp [D.names])]
theorem uZ {o1 o2:Nat->D} (bw:Bool) (gs:List Nat):∀ (k:Nat) (d:D),(∀ r∈reach o1 k d.names,o1 r=o2 r)->conv bw gs o1 k d=conv bw gs o2 k d
 | 0,d,_=>rfl
 | k+1,d,h=>by
  have q:∀ cs:List D,(∀ c∈cs,∀ r∈reach o1 k c.names,o1 r=o2 r)->cs.map (conv bw gs o1 k)=cs.map (conv bw gs o2 k):=fun cs w=>map_congr_left fun c B=>uZ bw gs k c (w c B);have sub:∀ cs:List D,D.bK cs=d.names->∀ c∈cs,∀ r∈reach o1 k c.names,o1 r=o2 r:=by
   intro cs e c w r hr;refine h r (vw o1 k _ r (rj o1 k _ _ ?_ r hr));intro s C;rw [<- e];exact eu.2 ⟨c,w,C⟩
  have A:nG o1 gs k d=nG o2 gs k d:=yB gs k d fun r hr=>h r (vw o1 k _ r hr);cases d<;>simp only [conv]
  ·rw [q _ (sub _ rfl)]
  ·rw [q _ (sub _ rfl)]
  ·rw [q _ (sub _ rfl)]
  all_goals rw [A]
theorem Yt {l:HC} {d:D} (h:∀ r∈d.names,e.o r=e2.o r):ldV e l d=ldV e2 l d/\(P7 e l d ↔ P7 e2 l d):=by
 cases d<;>simp only [ldV,P7]<;>(try exact ⟨trivial,aJ⟩)<;>(try exact ⟨trivial,Iff.rfl⟩)
 all_goals (rw [h _ (by simp [D.names])];exact ⟨rfl,Iff.rfl⟩)
theorem Vb {d:D} (h:∀ r∈d.names,e.o r=e2.o r):Qd e t d=Qd e2 t d/\(DJ e t d ↔ DJ e2 t d):=by
 have q:abX e d=abX e2 d:=by
  cases d<;>simp only [abX];rw [h _ (by simp [D.names])]
 have s:KK e d ↔ KK e2 d:=by
  cases d<;>simp only [KK];rw [h _ (by simp [D.names])]
 unfold Qd DJ;rw [q,s];exact ⟨rfl,Iff.rfl⟩
theorem Yh {d i:D} (h:∀ r∈d.names,e.o r=e2.o r):Yg e t d i=Yg e2 t d i/\(R6 e t d i ↔ R6 e2 t d i):=by
 cases d<;>cases i<;>simp only [Yg,R6]<;>(try exact ⟨trivial,aJ⟩)<;>(try exact ⟨trivial,Iff.rfl⟩);rw [h _ (by simp [D.names])];exact ⟨trivial,Iff.rfl⟩
theorem ZF {d:D} (h:Ja e t d=Ja e2 t d):slC e t d=slC e2 t d:=by
 cases d<;>first | exact h | (cases t<;>rfl)
theorem ZH {d:D} (h:∀ r∈d.names,e.o r=e2.o r):Ja e t d=Ja e2 t d/\∀ l m,VM e t d l m=VM e2 t d l m:=by
 by_cases q:∃ r,d=.ref r
 ·obtain ⟨r,rfl⟩:=q;have hr:=h r (by simp [D.names]);exact ⟨by cases t<;>simp [Ja,hr],fun l m=>by simp [VM,hr]⟩
 ·refine ⟨?_,fun l m=>?_⟩
  ·cases d<;>first | exact (q ⟨_,rfl⟩).elim | (cases t<;>rfl)
  ·cases d<;>first | exact (q ⟨_,rfl⟩).elim | (cases t<;>rfl)
theorem Hp (hr:∀ x,x∈o.op.operands.toList->rd e x=rd e2 x) (q:∀ r∈bV e o,e.o r=e2.o r) (O:∀ c f,o.op=.call c->c.callee≠.value f):fN P e o.op=fN P e2 o.op/\(dM P e o.op ↔ dM P e2 o.op):=by
 cases B:o.op<;>simp only [fN,dM]<;>(try exact ⟨rfl,Iff.rfl⟩)<;>(try exact ⟨trivial,aJ⟩)<;>rw [B] at hr<;>simp only [bV,B] at q<;>simp only [Op.operands] at hr
 case move x=>rw [hr x (by simp)];exact ⟨rfl,aJ⟩
 case assign x=>rw [hr x (by simp)];exact ⟨rfl,aJ⟩
 case pick c a b=>rw [hr c (by simp),hr a (by simp),hr b (by simp)];exact ⟨rfl,Iff.rfl⟩
 case binOp op t x y yt=>rw [hr x (by simp),hr y (by simp)];exact ⟨rfl,Iff.rfl⟩
 case unOp op t x=>rw [hr x (by simp)];exact ⟨rfl,Iff.rfl⟩
 case convert s d x=>rw [hr x (by simp)];exact ⟨rfl,Iff.rfl⟩
 case fieldAddr t x f=>rw [hr x (by simp)];exact ⟨rfl,Iff.rfl⟩
 case field t x f=>rw [hr x (by simp)];exact ⟨rfl,Iff.rfl⟩
 case indexAddr t x i =>
  have:=Yh (t:=dV P t) (i:=rd e i) q;rw [<- hr x (by simp),<- hr i (by simp),this.1,this.2];exact ⟨rfl,Iff.rfl⟩
 case index t x i=>rw [hr x (by simp),hr i (by simp)];exact ⟨rfl,Iff.rfl⟩
 case load t a =>
  rw [<- hr a (by simp)];cases gC P t with
  | none=>exact ⟨rfl,Iff.rfl⟩
  | some l=>simp only;exact Yt q
 case nilCheck x=>rw [hr x (by simp)];exact ⟨rfl,Iff.rfl⟩
 case extract x i=>rw [hr x (by simp)];exact ⟨rfl,Iff.rfl⟩
 case build t parts =>
  have M:eT P e t parts.toList=eT P e2 t parts.toList:=by
   unfold eT;have I:∀ x∈parts.toList,rd e x.2=rd e2 x.2:=by
    intro x A;refine hr x.2 ?_;simp only [mem_map];exact ⟨x,A,rfl⟩
   split
   ·refine map_congr_left ?_;intro x A;rw [I x A]
   ·refine map_congr_left ?_;intro x A;rw [I x A]
   ·rfl
  unfold I5;rw [M];exact ⟨rfl,Iff.rfl⟩
 case slice t x lo G Q =>
  have C:=hr x (by simp);have F:∀ d,QO e d lo=QO e2 d lo:=by
   intro d;cases lo with
   | none=>rfl
   | some o=>exact hr o (by simp)
  have J:∀ d,QO e d G=QO e2 d G:=by
   intro d;cases G with
   | none=>rfl
   | some o=>exact hr o (by simp)
  have H:=ZH (t:=dV P t) q;cases Q with
  | none =>
   simp only [fN,dM,slV,ac0];rw [<- C,F,J,H.1,ZF H.1];refine ⟨?_,Iff.rfl⟩;split
   ·exact H.2 _ _
   ·rfl
  | some m =>
   have L:=hr m (by simp);cases lo<;>cases G<;>simp only [fN,dM]<;>(try exact ⟨trivial,aJ⟩)<;>(try exact ⟨trivial,Iff.rfl⟩);rename_i N;rw [C,L,hr N (by simp)];exact ⟨trivial,Iff.rfl⟩
 case makeFunc fn first caps =>
  cases fn<;>simp only [fN,dM]<;>(try exact ⟨trivial,aJ⟩)<;>(try exact ⟨trivial,Iff.rfl⟩);refine ⟨?_,aJ⟩;congr 1;refine map_congr_left ?_;intro x A;exact hr x (by simp [A])
 case call c =>
  have C:∀ x∈c.args.toList,rd e x=rd e2 x:=fun x A=>hr x (by simp only [Call.operands,Array.toList_append,mem_append];exact .inr A);have F:c.args.toList.map (rd e)=c.args.toList.map (rd e2):=map_congr_left C;have hcv:∀ f,c.callee≠.value f:=fun f=>O c f B;split
  ·rename_i E w _;rw [E] at q;simp only [w,map_cons,map_nil,D.bK,append_nil] at q;have:=C _ (by rw [w];exact ga.2 rfl);rw [<- this];exact Vb q
  ·rw [F];exact ⟨rfl,Iff.rfl⟩
  ·rw [F];exact ⟨rfl,Iff.rfl⟩
  ·exact ⟨rfl,Iff.rfl⟩
theorem B1:∀ (l:List (Nat × Operand)),(∀ p∈l,rd e p.2=rd e2 p.2)->IB e l=IB e2 l
 | [],_=>rfl
 | p :: r,h=>by rw [IB,IB,h p (by simp),B1 r fun q s=>h q (by simp [s])]
theorem Rw (hr:∀ x,x∈o.op.operands.toList->rd e x=rd e2 x) (q:∀ r∈bV e o,e.o r=e2.o r) (h:kG e o.op):kG e2 o.op:=by
 cases s:o.op<;>rw [s] at h hr<;>simp only [bV,s] at q<;>simp only [Op.operands] at hr<;>simp only [kG] at h |-
 case move x=>rw [<- hr x (by simp)];exact h
 case binOp op t x y yt=>rw [<- hr x (by simp),<- hr y (by simp)];exact h
 case unOp op t x=>rw [<- hr x (by simp)];exact h
 case fieldAddr t x f=>rw [<- hr x (by simp)];exact h
 case load t a =>
  rw [<- hr a (by simp)];cases w:rd e a<;>rw [w] at h q<;>try exact h
  simp only [ZM] at h |-;rw [<- q _ (by simp [D.names])];exact h
 case buildSlice t len ps =>
  rw [<- B1 _ fun p A=>hr p.2 (by simp only [Array.toList_map,mem_map];exact ⟨p,A,rfl⟩)];exact h
theorem Lg (h:oc np ops o e e2) (q:og np ops o (bV e o)) (s:∀ c f,o.op=.call c->c.callee≠.value f):fN P e o.op=fN P e2 o.op/\(dM P e o.op ↔ dM P e2 o.op):=Hp (fun _ w=>h.rd w) (fun _ hr=>h.obj q hr) s
theorem Bz (h:oc np ops o e e2):rI ops e o.guard=rI ops e2 o.guard:=by
 unfold rI;cases s:o.guard with
 | none=>rfl
 | some p =>
  obtain ⟨j,w⟩:=p;simp only;cases q:vU ops j with
  | none=>rfl
  | some t =>
   simp only [rd];rw [h.1 t (by simp [rdT,s,q])]
theorem SJ (h16:b.length<=16) (h:r∈kk d 0 (b.length-([]:List Nat).length)):r∈Ah d:=by
 obtain ⟨j,_,q,rfl⟩:=uD h;simp only [Ah,mem_map,mem_range];exact ⟨j,by simp at q;omega,rfl⟩
def Splits (P:Program) (n np:Nat) (ops:List Oper) (o:Oper) (e:Env) (g:Bool) (K:Env->Prop):Prop:=
 ∃ w q:Nat->Option D,(∀ s d,w s=some d->s∈Jm o)/\(∀ s d,q s=some d->s∈Mb np ops o)/\K (HH w q e) /\
  ∀ e2,oc np ops o e e2->∀ A:Env->Prop,A (HH w q e2)->kn P n true o e2 g A
theorem YQ (hh:hard o=false) (hk:g=true->og np ops o (bV e o)) (h:kn P n true o e g K):Splits P n np ops o e g K:=by
 have C:∀ e K,kn P n true o e g K=iF P n true o e g K:=fun e K=>by simp [kn,hh]
 rw [C] at h;have I:∀ (d:Nat) (x:D),o.dst=some d->∀ s y,one d x s=some y->s∈Jm o:=by
  intro d x B s y hy;unfold one at hy;split at hy
  ·rename_i e;subst e;simp [Jm,B]
  ·cases hy
 have aa:∀ s (y:D),pZ s=some y->s∈Mb np ops o:=fun s y h=>by cases h
 -- a step that only sets its slot
 have H:∀ (d:Nat) (x:D),o.dst=some d->K (bP e d x)->(∀ e2,oc np ops o e e2->∀ G:Env->Prop,G (bP e2 d x)->kn P n true o e2 g G)->Splits P n np ops o e g K:=by
  intro d x B L hh;refine ⟨one d x,pZ,I d x B,aa,by rw [<- Cw];exact L,?_⟩;intro e2 q G A;exact hh e2 q G (by rw [Cw];exact A)
 -- a step that makes one object
 have M:∀ (d:Nat) (x y:D),o.dst=some d->makes o.op=true->K (bP (cV e (nm d 0) y) d x)->(∀ e2,oc np ops o e e2->∀ G:Env->Prop,G (bP (cV e2 (nm d 0) y) d x)->kn P n true o e2 g G)->Splits P n np ops o e g K:=by
  intro d x y B V L hh;refine ⟨one d x,one (nm d 0) y,I d x B,?_,by rw [<- PM];exact L,?_⟩
  ·intro s z W;unfold one at W;split at W
   ·rename_i e;subst e;simp only [Mb,B,V,if_true];exact mem_append_left _ (by simp only [Ah,mem_map,mem_range];exact ⟨0,by omega,rfl⟩)
   ·cases W
  ·intro e2 q G A;exact hh e2 q G (by rw [PM];exact A)
 have U:∀ (d:Nat),o.dst=some d->makes o.op=true->∀ e2,oc np ops o e e2->∀ r∈Ah d,e.o r=e2.o r:=by
  intro d B V e2 q r hr;refine q.2 r (.inr (.inl ?_));simp only [Mb,B,V,if_true];exact mem_append_left _ hr
 have h0:∀ d,nm d 0∈Ah d:=fun d=>by simp only [Ah,mem_map,mem_range];exact ⟨0,by omega,rfl⟩
 cases B:o.dst with
 | none =>
  cases w:o.op<;>simp only [iF,w,B] at h<;>try exact h.elim
  rename_i t a x;obtain ⟨Y,h⟩:=h;have an:=hk Y;simp only [Norm] at h;have ah:∀ e2,oc np ops o e e2->rd e a=rd e2 a/\rd e x=rd e2 x:=fun e2 q=>⟨q.rd (by simp [w,Op.operands]),q.rd (by simp [w,Op.operands])⟩
  have ac:∀ r∈(rd e a).names,r∈Mb np ops o:=by
   intro r hr;have:=qY an r (by simp only [bV,w];exact hr);unfold rT at this;rw [w] at this;exact contains_iff_mem.1 this
  have jm:∀ (r:Nat) (y:D),r∈(rd e a).names->K (cV e r y)->(∀ e2,oc np ops o e e2->∀ G:Env->Prop,G (cV e2 r y)->kn P n true o e2 g G)->Splits P n np ops o e g K:=by
   intro r y hr L hh;refine ⟨pZ,one r y,(fun s d h=>by cases h),?_,(by rw [<- Wq];exact L),?_⟩
   ·intro s z W;unfold one at W;split at W
    ·rename_i e;subst e;exact ac _ hr
    ·cases W
   ·intro e2 q G A;exact hh e2 q G (by rw [Wq];exact A)
  unfold Xz at h;cases ha:rd e a<;>rw [ha] at h<;>try exact h.elim
  ·rename_i r off;simp only at h;unfold StB at h;cases ho:e.o r<;>rw [ho] at h<;>try exact h.elim
   rename_i cs;simp only at h;cases hl:gC P t with
   | none=>rw [hl] at h;exact h.elim
   | some l =>
    rw [hl] at h;obtain ⟨X,S,Z,L⟩:=h;refine jm r _ (by rw [ha];simp [D.names]) L ?_;intro e2 q G A;obtain ⟨ea,ex⟩:=ah e2 q;have er:e.o r=e2.o r:=q.2 r (.inr (.inl (ac r (by rw [ha];simp [D.names]))));simp only [C,iF,w,B,Norm];refine ⟨Y,?_⟩;rw [<- ea,<- ex,ha];simp only [Xz];rw [<- er,ho];simp only [StB,hl];exact ⟨X,S,Z,A⟩
  ·rename_i r z i k;simp only at h;unfold StO at h;cases ho:e.o r<;>rw [ho] at h<;>try exact h.elim
   rename_i z' rows;simp only at h;cases hl:gC P t with
   | none=>rw [hl] at h;exact h.elim
   | some l =>
    rw [hl] at h;obtain ⟨X,S,Z,q4,q5,L⟩:=h;refine jm r _ (by rw [ha];simp [D.names]) L ?_;intro e2 q G A;obtain ⟨ea,ex⟩:=ah e2 q;have er:e.o r=e2.o r:=q.2 r (.inr (.inl (ac r (by rw [ha];simp [D.names]))));simp only [C,iF,w,B,Norm];refine ⟨Y,?_⟩;rw [<- ea,<- ex,ha];simp only [Xz];rw [<- er,ho];simp only [StO,hl];exact ⟨X,S,Z,q4,q5,A⟩
 | some d =>
  have J:(∀ c f,o.op=.call c->c.callee≠.value f)->(∀ R K',kn P n true o R g K' ↔ (d < n/\gr g (dM P R o.op) (fN P R o.op) fun u=>K' (bP R d u)))->Splits P n np ops o e g K:=by
   intro hn af;obtain ⟨F,aq,L⟩:=(af e K).1 (by rw [C];exact h);refine H d _ B L ?_;intro e2 q G A;refine (af e2 G).2 ⟨F,?_,?_⟩
   ·intro Y;exact (Lg (P:=P) q (hk Y) hn).2.1 (aq Y)
   ·cases g with
    | false=>exact A
    | true =>
     have:=(Lg (P:=P) q (hk rfl) hn).1;simp only [gd,if_true] at A |-;rw [<- this];exact A
  cases w:o.op
  case box T x =>
   simp only [iF,w,B] at h;obtain ⟨Y,F,X,S,L⟩:=h;refine M d _ _ B (by rw [w];rfl) L ?_;intro e2 q G A;simp only [C,iF,w,B,Norm];refine ⟨Y,F,?_⟩;rw [<- q.rd (by simp [w,Op.operands]:x∈o.op.operands.toList)];exact ⟨X,by rw [<- U d B (by rw [w];rfl) e2 q _ (h0 d)];exact S,A⟩
  case alloc T =>
   simp only [iF,w,B] at h;obtain ⟨Y,F,h⟩:=h;cases W:lz P T with
   | none=>rw [W] at h;exact h.elim
   | some z =>
    rw [W] at h;obtain ⟨S,L⟩:=h;refine M d _ _ B (by rw [w];rfl) L ?_;intro e2 q G A;simp only [C,iF,w,B,W];exact ⟨Y,F,by rw [<- U d B (by rw [w];rfl) e2 q _ (h0 d)];exact S,A⟩
  case buildSlice t len parts =>
   simp only [iF,w,B] at h;obtain ⟨F,h⟩:=h;have hp:∀ e2,oc np ops o e e2->∀ x∈parts.toList,rd e x.2=rd e2 x.2:=fun e2 q x O=>q.rd (by simp only [w,Op.operands,Array.toList_map,mem_map];exact ⟨x,O,rfl⟩);have ae:∀ e2,oc np ops o e e2->qR e parts.toList=qR e2 parts.toList:=by
    intro e2 q;unfold qR;congr 1;exact map_congr_left fun x O=>hp e2 q x O
   cases g with
   | false =>
    refine H d _ B (h.2 rfl) ?_;intro e2 q G A;simp only [C,iF,w,B];exact ⟨F,fun h=>(lZ h).elim,fun _=>A⟩
   | true =>
    obtain ⟨N,hb⟩:=h.1 rfl;have N:=N trivial;rw [N] at hb;simp only [fD] at hb;unfold Ui at hb;split at hb<;>try exact hb.elim
    rename_i z ai ea zc hT ad;obtain ⟨X,S,Z,q4,q5,L⟩:=hb;refine M d _ _ B (by rw [w];rfl) L ?_;intro e2 q G A;have ak:∀ z,j7 e z parts.toList=j7 e2 z parts.toList:=fun z=>map_congr_left fun x O=>by rw [hp e2 q x O]
    simp only [C,iF,w,B];refine ⟨F,fun _=>⟨fun _=>by rw [<- ae e2 q];exact N,?_⟩,fun h=>by cases h⟩;rw [<- ae e2 q,N];simp only [fD,Ui,hT,ad];simp only [Ci,<- ak] at Z q4 |-;exact ⟨X,S,Z,q4,by rw [<- U d B (by rw [w];rfl) e2 q _ (h0 d)];exact q5,A⟩
  case makeSlice t l c =>
   simp only [iF,w,B] at h;obtain ⟨F,h⟩:=h;cases g with
   | false =>
    refine H d _ B (h.2 rfl) ?_;intro e2 q G A;simp only [C,iF,w,B];exact ⟨F,fun h=>(lZ h).elim,fun _=>A⟩
   | true =>
    have V:=h.1 rfl;unfold MkK at V;split at V<;>try exact V.elim
    rename_i z ai ea k1 n1 k2 m1 zc hT hl hc ad;obtain ⟨X,S,Z,q4,q5,q6,q7,L⟩:=V;refine M d _ _ B (by rw [w];rfl) L ?_;intro e2 q G A;simp only [C,iF,w,B];refine ⟨F,fun _=>?_,fun h=>by cases h⟩;rw [<- q.rd (by simp [w,Op.operands]:l∈o.op.operands.toList),<- q.rd (by simp [w,Op.operands]:c∈o.op.operands.toList),hl,hc];simp only [MkK,hT,ad];exact ⟨X,S,Z,q4,q5,q6,by rw [<- U d B (by rw [w];rfl) e2 q _ (h0 d)];exact q7,A⟩
  case call c =>
   cases E:c.callee with
   | invoke r m=>simp only [iF,w,B,E] at h;exact h.2.elim
   | builtin b =>
    by_cases hb:b=.append
    ·subst hb;simp only [iF,w,B,E] at h;exact (lZ h.2.2.1.symm).elim
    ·refine J (fun c' f' R hf=>by rw [w] at R;cases R;rw [E] at hf;cases hf) ?_;intro R K';simp only [C,iF,w,B,E]
   | value f =>
    simp only [iF,w,B,E] at h;obtain ⟨F,h⟩:=h;cases g with
    | false =>
     refine H d _ B (h.2 rfl) ?_;intro e2 q G A;simp only [C,iF,w,B,E];exact ⟨F,fun h=>(lZ h).elim,fun _=>A⟩
    | true =>
     obtain ⟨fz,gs,bw,Q,dv,al,hc⟩:=(h.1 rfl).elim id (fun h=>(lZ h.1.symm).elim);obtain ⟨rfl,rfl⟩:=al rfl;simp only [fD] at hc;unfold nH at hc;split at hc<;>try exact hc.elim
     rename_i k ab hf;obtain ⟨X,S,Z,q4,q5,q6,q7⟩:=hc;have q7:=q7.drawn;have V:makes o.op=true:=by rw [w];simp [makes,E]
     have ao:∀ r∈fB d [] Q,r∈Ah d:=fun r hr=>SJ (by simpa using q4.2) (by simpa [fB] using hr);have ap:=hk rfl;simp only [bV,w,E] at ap;refine ⟨one d (dv.kB (Nw (fB d [] Q))),GR (Nw (fB d [] Q)) (fB d [] Q) Q,I d _ B,?_,by rw [<- OG];exact q7,?_⟩
     ·intro s x O;simp only [Mb,B,V,if_true];exact mem_append_left _ (ao s (Md O))
     ·intro e2 q G A;have ag:∀ r∈reach e.o 4 (D.bK (rd e f :: c.args.toList.map (rd e))),e.o r=e2.o r:=by
       intro r hr;have:=q.obj (hk rfl) (r:=r) (by simp only [bV,w,E];exact hr);exact this
      have am:rd e f=rd e2 f:=q.rd (by simp [w,Op.operands,Call.operands,E]);have aj:c.args.toList.map (rd e)=c.args.toList.map (rd e2):=map_congr_left fun x O=>q.rd (by simp only [w,Op.operands,Call.operands,Array.toList_append,mem_append];exact .inr O);simp only [C,iF,w,B,E];refine ⟨F,fun _=>.inl ⟨[],[],bw,Q,dv,fun _=>⟨rfl,rfl⟩,?_⟩,fun h=>by cases h⟩;simp only [fD];rw [<- am,hf];simp only [nH];refine ⟨X,(fun r hr=>by cases hr),?_,q4,q5,?_,(.inl (by rw [OG];exact A))⟩
      ·intro r hr;rw [<- U d B V e2 q r (SJ (by simpa using q4.2) hr)];exact Z r hr
      ·rw [<- aj];have:((c.args.toList.map (rd e)++ab).map (conv bw [] e2.o 4))=(c.args.toList.map (rd e)++ab).map (conv bw [] e.o 4):=by
        refine map_congr_left ?_;intro x O;refine (uZ bw [] 4 x ?_).symm;intro r hr;refine ag r (rj e.o 4 _ _ ?_ r hr);intro s hs;rw [hf];simp only [D.bK,D.names,mem_append];rcases mem_append.1 O with O | O
        ·exact .inr (eu.2 ⟨x,O,hs⟩)
        ·exact .inl (eu.2 ⟨x,O,hs⟩)
       rw [this];exact q6
  all_goals
   refine J (fun c' f' R hf=>by rw [w] at R;cases R) ?_;intro R K';simp only [C,iF,w,B]
theorem Ww (q:nM o=false):hard o=false:=by
 unfold nM at q;cases h:hard o with
 | false=>rfl
 | true=>rw [h] at q;simp at q
theorem Tm:∀ (k:Nat) (ns:List Nat),(∀ r∈reach e.o k ns,e.o r=e2.o r)->reach e2.o k ns=reach e.o k ns:=by
 intro k;induction k with
 | zero=>intro ns _;rfl
 | succ k ih =>
  intro ns q;simp only [reach] at q |-;have s:ns.map e2.o=ns.map e.o:=map_congr_left fun r hr=>(q r (mem_append_left _ hr)).symm;rw [s,ih _ fun r hr=>q r (mem_append_right _ hr)]
theorem TM (E:jR ops o=true) (h:oz P n np ops o e K) :
  ∃ V U:Nat->Option D,(∀ s d,V s=some d->s∈Jm o)/\(∀ s d,U s=some d->s∈Mb np ops o)/\K (HH V U e) /\
   ∀ e2,oc np ops o e e2->∀ S:Env->Prop,S (HH V U e2)->oz P n np ops o e2 S:=by
 have w:∀ (d:Nat) (x:D),o.dst=some d->∀ s y,one d x s=some y->s∈Jm o:=by
  intro d x A s y hy;unfold one at hy;split at hy
  ·rename_i e;subst e;simp [Jm,A]
  ·cases hy
 have h0:∀ d,nm d 0∈Ah d:=fun d=>by simp only [Ah,mem_map,mem_range];exact ⟨0,by omega,rfl⟩
 have H:∀ (d:Nat),o.dst=some d->makes o.op=true->nm d 0∈Mb np ops o:=by
  intro d A I;simp only [Mb,A,I,if_true];exact mem_append_left _ (h0 d)
 obtain ⟨hg,E | E⟩:=Xi E
 ·obtain ⟨t,len,ps,d,q,A,hl,hp⟩:=E;have I:makes o.op=true:=by rw [q];rfl
  unfold oz at h;rw [q,A] at h;obtain ⟨G,h⟩:=h;unfold Mg at h;split at h
  ·rename_i z b a W;refine ⟨one d .emp,pZ,w d _ A,(fun s y h=>by cases h),by rw [<- Cw];exact h.2,?_⟩;intro e2 B S F;unfold oz;rw [q,A];refine ⟨G,?_⟩;unfold Mg;rw [W];exact ⟨by rw [<- B.2 _ (.inr (.inl (H d A I)))];exact h.1,by rw [Cw];exact F⟩
  ·exact h.elim
 ·have J:∃ c,o.op=.call c/\c.callee=.builtin .append:=by
   unfold isApp at E;split at E
   ·rename_i c q;split at E
    ·rename_i J;exact ⟨c,q,J⟩
    ·cases E
   ·cases E
  obtain ⟨c,q,J⟩:=J;have I:makes o.op=true:=by rw [q];simp [makes,J]
  unfold oz at h;rw [q] at h;cases A:o.dst with
  | none=>rw [A] at h;exact h.elim
  | some d =>
   rw [A] at h;obtain ⟨G,h⟩:=h;split at h<;>try exact h.elim
   rename_i x y T T2 C O;obtain ⟨N,h⟩:=h;unfold Jk at h;split at h<;>try exact h.elim
   rename_i z by_ ea z2 by2 ea2 hx W X;obtain ⟨Y,h⟩:=h;unfold Pe at h;split at h<;>try exact h.elim
   rename_i rows2 hr;obtain ⟨q1,q2,q3⟩:=h;refine ⟨one d (.ref (nm d 0)),one (nm d 0) (.own z rows2),w d _ A,?_,by rw [<- PM];exact q3,?_⟩
   ·intro s u Q;unfold one at Q;split at Q
    ·rename_i e;subst e;exact H d A I
    ·cases Q
   ·intro e2 B S F;have L:∀ u∈[x,y],rd e u=rd e2 u:=fun u Q=>B.rd (by simp only [q,Op.operands,Call.operands,Array.toList_append,mem_append];exact .inr (by rw [C];exact Q));have M:∀ r∈reach e.o 2 (rd e y).names,e.o r=e2.o r:=by
     intro r hr;have:=qY N r hr;unfold rT at this;rw [q] at this;simp only [Bool.or_eq_true,iK,contains_eq_mem,bL,gM] at this;refine B.2 r ?_;rcases this with h | h
     ·exact .inl h
     ·exact .inr (.inr h)
    have R:=L y (by simp);have Z:=L x (by simp);unfold oz;rw [q,A];refine ⟨G,?_⟩;simp only [C,O];refine ⟨by rw [<- R,Tm 2 _ M];exact N,?_⟩;rw [<- Z,<- R,hx,W,X];refine ⟨Y,?_⟩;rw [<- yB [] 2 _ M,hr];exact ⟨q1,by rw [<- B.2 _ (.inr (.inl (H d A I)))];exact q2,by rw [PM];exact F⟩
theorem Le (d:Nat) (gs:List Nat) (q:List D) (s:D) (e:Env) (w:j9 gs q=[]):gf e d gs q s=HH (one d (s.kB (Nw (fB d gs q)))) (GR (Nw (fB d gs q)) (fB d gs q) q) e:=by
 unfold gf;rw [w,xL,Li,Cw];simp [HH,pZ]
theorem VC:∀ (k:Nat) (ns:List Nat),(∀ r∈reach c k ns,c r=f r)->reach f k ns=reach c k ns:=by
 intro k;induction k with
 | zero=>intro ns _;rfl
 | succ k ih =>
  intro ns q;simp only [reach] at q |-;have s:ns.map f=ns.map c:=map_congr_left fun r hr=>(q r (mem_append_left _ hr)).symm;rw [s,ih _ fun r hr=>q r (mem_append_right _ hr)]
theorem Vy (hv:qy o=true) (h:Ak P n np ops o e g K) :
  ∃ Z Y:Nat->Option D,(∀ s d,Z s=some d->s∈Jm o)/\(∀ s d,Y s=some d->s∈Mb np ops o)/\K (HH Z Y e) /\
   ∀ e2,oc np ops o e e2->∀ R:Env->Prop,R (HH Z Y e2)->Ak P n np ops o e2 g R:=by
 unfold Ak at h;split at h<;>try exact h.elim
 rename_i c d B U;split at h<;>try exact h.elim
 rename_i f C;have A:∀ (x:D),∀ s y,one d x s=some y->s∈Jm o:=by
  intro x s y hy;unfold one at hy;split at hy
  ·rename_i e;subst e;simp [Jm,U]
  ·cases hy
 obtain ⟨L,h⟩:=h;cases g with
 | false =>
  refine ⟨one d (.bT []),pZ,A _,(fun s y h=>by cases h),(by rw [<- Cw];exact h.2 rfl),fun e2 q R I=>?_⟩;unfold Ak;rw [B,U];simp only [C];exact ⟨L,fun h=>(lZ h).elim,fun _=>by rw [Cw];exact I⟩
 | true =>
  obtain ⟨gs,w,S,k1,k2,k3,T⟩:=h.1 rfl;unfold nH at T;split at T<;>try exact T.elim
  rename_i k H hf;obtain ⟨q1,q2,q3,q4,q5,q6,q7⟩:=T;have hm:makes o.op=true:=by rw [B];simp [makes,C]
  have O:∀ r∈gs,r∈Mb np ops o:=fun r hr=>by
   have:=k1 r hr;unfold Mb;rw [B];simp only [hv,if_true];refine mem_append_right _ ?_;cases V:c.args.toList with
   | nil=>rw [V] at this;simp [Lx] at this
   | cons a as=>rw [V] at this;exact this
  have Q:∀ r∈kk d 0 (w.length-gs.length),r∈Mb np ops o:=fun r hr=>by
   obtain ⟨j,_,h2,rfl⟩:=uD hr;simp only [Mb,U,hm,if_true];refine mem_append_left _ ?_;simp only [Ah,mem_map,mem_range];exact ⟨j,by omega,rfl⟩
  have G:∀ e2,oc np ops o e e2->∀ r∈reach e.o 5 (gs++D.bK (rd e f :: c.args.toList.map (rd e))),e.o r=e2.o r:=fun e2 q r hr=>by
   have:=qY k2 r hr;unfold rT at this;rw [B] at this;simp only [Bool.or_eq_true,iK,contains_eq_mem,bL,gM] at this;exact q.2 r (this.elim .inl fun h=>.inr (.inr h))
  refine ⟨one d (S.kB (Nw (fB d gs w))),GR (Nw (fB d gs w)) (fB d gs w) w,A _,?_,by rw [<- Le d gs w S e k3];exact q7,?_⟩
  ·intro s x F;rcases mem_append.1 (Md F) with h | h
   ·exact O s h
   ·exact Q s h
  ·intro e2 q R I;have E:=G e2 q;have M:rd e f=rd e2 f:=q.rd (by simp [B,Op.operands,Call.operands,C]);have J:c.args.toList.map (rd e)=c.args.toList.map (rd e2):=map_congr_left fun x F=>q.rd (by simp only [B,Op.operands,Call.operands,Array.toList_append,mem_append];exact .inr F);have N:∀ r∈gs,e.o r=e2.o r:=fun r hr=>q.2 r (.inr (.inl (O r hr)));unfold Ak;rw [B,U];simp only [C];refine ⟨L,fun _=>⟨gs,w,S,k1,?_,k3,?_⟩,fun h=>by cases h⟩
   ·rw [<- M,<- J,VC 5 _ E];exact k2
   ·rw [<- M,hf];simp only [nH];refine ⟨q1,(fun r hr=>by rw [<- N r hr];exact q2 r hr),?_,q4,q5,?_,by rw [Le d gs w S e2 k3];exact I⟩
    ·intro r hr;rw [<- q.2 r (.inr (.inl (Q r hr)))];exact q3 r hr
    ·have s5:∀ (l:List Nat),(∀ r∈l,r∈gs++D.bK (rd e f :: c.args.toList.map (rd e)))->∀ r∈reach e.o 4 l,e.o r=e2.o r:=fun l V r hr=>E r (vw e.o 4 _ r (rj e.o 4 _ _ V r hr));have e1:gs.map (fun r=>xq false gs e2.o 4 (e2.o r))=gs.map fun r=>xq false gs e.o 4 (e.o r):=by
      refine map_congr_left fun r hr=>?_;rw [<- N r hr];cases F:e.o r<;>try rfl
      rename_i cs;simp only [xq];congr 1;refine map_congr_left fun x aa=>(uZ false gs 4 x fun s W=>?_).symm;refine E s ?_;show s∈(gs++D.bK (rd e f :: c.args.toList.map (rd e)))++reach e.o 4 _;refine mem_append_right _ (rj e.o 4 _ _ (fun t ht=>?_) s W);refine eu.2 ⟨e.o r,mem_map.2 ⟨r,mem_append_left _ hr,rfl⟩,?_⟩;rw [F];simp only [D.names];exact eu.2 ⟨x,aa,ht⟩
     rw [e1,<- J];have X:(c.args.toList.map (rd e)++H).map (conv false gs e2.o 4)=(c.args.toList.map (rd e)++H).map (conv false gs e.o 4):=by
      refine map_congr_left fun x F=>(uZ false gs 4 x ?_).symm;refine s5 _ fun s W=>mem_append_right _ ?_;rw [hf];simp only [D.bK,D.names,mem_append];rcases mem_append.1 F with F | F
      ·exact .inr (eu.2 ⟨x,F,W⟩)
      ·exact .inl (eu.2 ⟨x,F,W⟩)
     rw [X];exact q6
theorem HB (A:Ax ops o=false) (h:fy P n np ops o e K) :
  ∃ G F:Nat->Option D,(∀ s d,G s=some d->s∈Jm o)/\(∀ s d,F s=some d->s∈Mb np ops o)/\K (HH G F e) /\
   ∀ e2,oc np ops o e e2->∀ H:Env->Prop,H (HH G F e2)->fy P n np ops o e2 H:=by
 unfold fy at h;cases I:rI ops e o.guard with
 | none=>rw [I] at h;exact h.elim
 | some g =>
  rw [I] at h;by_cases U:jR ops o=true
  ·simp only [U,if_true] at h;obtain ⟨G,F,L,E,M,N⟩:=TM U h;refine ⟨G,F,L,E,M,fun e2 q H B=>?_⟩;unfold fy;rw [<- Bz q,I];simp only [U,if_true];exact N e2 q H B
  have C:jR ops o=false:=by simpa using U
  have A:(hard o||isApp o||Ko o)=false:=by simpa [Ax,C] using A
  have Z:isApp o=false:=by cases hq:isApp o<;>simp [hq] at A |-
  by_cases S:qy o=true
  ·have hd:nM o=true:=by simp [nM,S]
   simp only [C,hd,Z,S,Bool.false_eq_true,if_false,if_true] at h;obtain ⟨G,F,L,E,M,N⟩:=Vy S h;refine ⟨G,F,L,E,M,fun e2 q H B=>?_⟩;unfold fy;rw [<- Bz q,I];simp only [C,hd,Z,S,Bool.false_eq_true,if_false,if_true];exact N e2 q H B
  have Y:qy o=false:=by simpa using S
  have A:nM o=false:=by simp [nM,Y,A]
  simp only [C,A,Bool.false_eq_true,if_false] at h;obtain ⟨⟨V,h⟩,hcalm⟩:=h;obtain ⟨G,F,L,E,M,N⟩:=YQ (Ww A) V h;refine ⟨G,F,L,E,M,fun e2 q H B=>?_⟩;unfold fy;rw [<- Bz q,I];simp only [C,A,Bool.false_eq_true,if_false];refine ⟨⟨fun J=>?_,N e2 q H B⟩,fun X O=>?_⟩
  case refine_2 =>
   have J:g=true:=by rw [O] at I;simpa [rI] using I.symm
   exact Rw (fun _ T=>q.rd T) (fun _ hr=>q.obj (V J) hr) (hcalm X O)
  -- what is reached is the same
  have Q:=V J;have:bV e2 o=bV e o:=by
   have hr:∀ x,x∈o.op.operands.toList->rd e x=rd e2 x:=fun x T=>q.rd T;unfold bV;cases R:o.op<;>rw [R] at hr<;>simp only [Op.operands] at hr<;>try rfl
   case load t a=>simp only;rw [hr a (by simp)]
   case store t a x=>simp only;rw [hr a (by simp)]
   case indexAddr t x i=>simp only;rw [hr x (by simp)]
   case slice t x lo hi mx=>simp only;rw [hr x (by simp)]
   case call c =>
    have E:c.args.toList.map (rd e)=c.args.toList.map (rd e2):=map_congr_left fun x T=>hr x (by simp only [Call.operands,Array.toList_append,mem_append];exact .inr T);cases w:c.callee with
    | builtin b=>simp only [w];rw [E]
    | invoke r m=>simp only [w];rw [E]
    | value f =>
     simp only [w];rw [hr f (by simp [Call.operands,w]),E]
     -- reached objects hold the same
     have key:∀ (k:Nat) (ns:List Nat),(∀ r∈reach e.o k ns,e.o r=e2.o r)->reach e2.o k ns=reach e.o k ns:=by
      intro k;induction k with
      | zero=>intro ns _;rfl
      | succ k ih =>
       intro ns A;simp only [reach] at A |-;have e1:ns.map e2.o=ns.map e.o:=map_congr_left fun r hr=>(A r (mem_append_left _ hr)).symm;rw [e1,ih _ fun r hr=>A r (mem_append_right _ hr)]
     refine key 4 _ ?_;intro r W;refine q.obj Q (r:=r) ?_;simp only [bV,R,w];rw [hr f (by simp [Call.operands,w]),E];exact W
  rw [this];exact Q
theorem Ub {x:Oper} (q:x∈ops) (hr:r∈Mb np ops x):r∈af0 np ops:=mem_flatMap.2 ⟨x,q,hr⟩
theorem abd (B:∀ s d q,h s=some d->m s=some q->False) (C:∀ s d q,i s=some d->p s=some q->False) (e:Env):HH h i (HH m p e)=HH m p (HH h i e):=by
 simp only [HH,Env.mk.injEq];refine ⟨?_,?_⟩<;>funext j
 ·cases w:h j<;>cases A:m j<;>simp;exact (B j _ _ w A).elim
 ·cases w:i j<;>cases A:p j<;>simp;exact (C j _ _ w A).elim
theorem V5 {x:Oper} (D:Ax ops x=false) (E:Ax ops j=false) (G:x∈ops) (H:j∈ops) (R:Js np ops x j=true) (h:fy P n np ops x e fun B=>fy P n np ops j B K) :
  fy P n np ops j e fun e2=>fy P n np ops x e2 K:=by
 obtain ⟨L,J,O,Q,S,T⟩:=HB D h;obtain ⟨N,M,k1,k2,k3,U⟩:=HB E S;simp only [Js,Bool.and_eq_true,dn,iK,contains_eq_mem,gM] at R;obtain ⟨⟨⟨I,a2⟩,a3⟩,a4⟩:=R;refine U e ⟨?_,?_⟩ _ ?_
 ·intro s F;show (L s).getD (e.t s)=e.t s;cases w:L s with
  | none=>rfl
  | some d=>exact ((I s (O s d w)).1 F).elim
 ·intro r hr;show (J r).getD (e.o r)=e.o r;cases w:J r with
  | none=>rfl
  | some d =>
   have A:=Q r d w;rcases hr with hr | hr | hr
   ·exact ((a3 r A).1 hr).elim
   ·exact ((a3 r A).2 hr).elim
   ·exact (hr (Ub G A)).elim
 ·refine T _ ⟨?_,?_⟩ _ ?_
  ·intro s F;show e.t s=(N s).getD (e.t s);cases w:N s with
   | none=>rfl
   | some d=>exact (a2 s (k1 s d w) F).elim
  ·intro r hr;show e.o r=(M r).getD (e.o r);cases w:M r with
   | none=>rfl
   | some d =>
    have A:=k2 r d w;rcases hr with hr | hr | hr
    ·exact (a4 r A hr).elim
    ·exact ((a3 r hr).2 A).elim
    ·exact (hr (Ub H A)).elim
  ·rw [abd]
   ·exact k3
   ·intro s d C B q;exact (I s (O s d B)).2 (k1 s C q)
   ·intro s d C B q;exact (a3 s (Q s d B)).2 (k2 s C q)
theorem Ma (h:fy P n np ops o e K) (q:∀ e,K e->K' e):fy P n np ops o e K':=by
 unfold fy at h |-;cases D:rI ops e o.guard with
 | none=>rw [D] at h;exact h.elim
 | some g =>
  rw [D] at h;simp only at h |-;split at h
  ·rename_i B;rw [aq B];exact LN q h
  rename_i B;rw [ak B];split at h
  ·rename_i A;rw [aq A];split at h
   ·rename_i s;rw [aq s];split at h
    ·rename_i w;rw [aq w];exact rU q h
    ·rename_i w;rw [ak w];exact ⟨EA q h.1,h.2⟩
   ·rename_i s;rw [ak s];split at h
    ·rename_i C;rw [aq C];exact OJ q h
    ·rename_i C;rw [ak C];exact rU q h
  ·rename_i A;rw [ak A];exact ⟨⟨h.1.1,rU q h.1.2⟩,h.2⟩
theorem aag {x:Oper} (w:SM ops x o=true) (E:jR ops o=false) (D:jR ops x=false) (h:fy P n np ops x e fun J=>fy P n np ops o J K):fy P n np ops o e fun e2=>fy P n np ops x e2 K:=by
 unfold SM at w;split at w<;>try cases w
 rename_i u dx q s B;simp only [Bool.and_eq_true,iK,Option.isNone_iff_eq_none,bne_iff_ne] at w;obtain ⟨⟨⟨⟨⟨A,N⟩,hc⟩,hd1⟩,hd2⟩,htw⟩:=w;have F:nM x=false:=by simp [nM,hard,isApp,Ko,qy,q]
 have H:nM o=true:=by simp [nM,rK A]
 have G:hard x=false:=by simp [hard,q]
 have I:∀ (e:Env) (K:Env->Prop),fy P n np ops x e K ↔ (dx < n/\K (bP e dx (e.t u))):=by
  intro e K;have C:bV e x=[]:=by simp [bV,q]
  simp only [fy,D,B,rI,F,Bool.false_eq_true,if_false,Rc,C,og,kn,G,iF,q,s,gr,dM,fN,gd,if_true,rd,GX,htw];simp
 have L:∀ (e:Env) (K:Env->Prop),fy P n np ops o e K ↔ oE P n o e true K:=by
  intro e K;simp only [fy,E,N,rI,H,rK A,Ki A,Bool.false_eq_true,if_false,if_true,apU,htw,false_implies,and_true]
 rw [I] at h;rw [L] at h |-;refine EA ?_ (XB hc hd1 hd2 h.2);intro e2 M;rw [I];exact ⟨h.1,M⟩
def kD (k:Option Nat) (d:D):D:=
 match k with
 | some r=>d.kill r
 | none=>d
def kE (k:Option Nat) (e:Env):Env:=
 match k with
 | some r=>jM r e
 | none=>e
theorem aow (k:Option Nat) (e:Env) (j:Nat):(kE k e).t j=kD k (e.t j):=by cases k<;>rfl
theorem aov {j:Nat} (h:k≠some j):(kE k e).o j=kD k (e.o j):=by
 cases k with
 | none=>rfl
 | some r =>
  have:j≠r:=fun e=>h (by rw [e]);simp [kE,jM,kD,this]
theorem WC (k:Option Nat) (e:Env) (d:Nat) (v:D):kE k (bP e d v)=bP (kE k e) d (kD k v):=by
 cases k with
 | none=>rfl
 | some r =>
  simp only [kE,jM,bP,kD,Env.mk.injEq,and_true];funext j;split<;>rfl
theorem aeQ {N:Nat} (h:k≠some N):kE k (cV e N v)=cV (kE k e) N (kD k v):=by
 cases k with
 | none=>rfl
 | some r =>
  have:N≠r:=fun e=>h (by rw [e]);simp only [kE,jM,cV,kD,Env.mk.injEq,true_and];funext j;by_cases q:j=N
  ·subst q;simp [this]
  ·simp [q]
theorem abN (h:Ev (kD k v)=true):kD k v=v:=by
 cases k with
 | none=>rfl
 | some r =>
  simp only [kD] at h |-;cases v<;>simp only [D.kill] at h |-<;>(try (split at h<;>rename_i hs<;>simp_all [Ev]))<;>simp_all [Ev]
theorem ai3 (h:Q1 (kD k v)=true):kD k v=v:=by
 cases k with
 | none=>rfl
 | some r =>
  cases v
  case box cs =>
   simp only [kD,D.kill,Q1,jT,all_map,dn,Function.comp_apply] at h |-;congr 1;have:cs.map (D.kill r)=cs.map id:=map_congr_left fun c q=>abN (k:=some r) (h c q);rw [this,map_id]
  all_goals simp only [kD,D.kill] at h |-
  all_goals first | (split at h<;>rename_i hs<;>simp_all [Q1]) | (simp [Q1] at h)
theorem ai4 (h:K1 v=true) (q:kD k v=.undef):v=.undef:=by
 cases k with
 | none=>exact q
 | some r=>cases v<;>simp_all [K1,kD,D.kill]
theorem J9 {o:Op} (h:∀ z∈o.operands.toList,rd e2 z=rd e z):Ih e2 o=Ih e o:=by
 unfold Ih;cases o<;>try rfl
 rename_i c;simp only;cases q:c.args.toList with
 | nil=>rfl
 | cons x r=>exact h x (by simp only [Op.operands,Call.operands,Array.toList_append,mem_append];exact .inr (by rw [q];simp))
theorem BU (q:∀ j,e.o j≠.undef->e2.o j=e.o j) {z:Nat} {rows:List (List D)} (h:iR z (nG e.o [] 2 v)=some rows):iR z (nG e2.o [] 2 v)=some rows:=by
 have no:∀ {r:Nat} {f:D->D},f .undef=.undef->iR z (f (e.o r))=some rows->e2.o r=e.o r:=fun {r f} hf h=>q r fun e=>by rw [e,hf] at h;cases h
 cases v
 case ref r=>rw [show nG e2.o [] 2 (.ref r)=sI (e2.o r) from rfl,no (f:=sI) rfl h];exact h
 case eC r z' lo len=>rw [show nG e2.o [] 2 (.eC r z' lo len)=mM z' lo len (e2.o r) from rfl,no (f:=mM z' lo len) rfl h];exact h
 case bW r off z' len cap=>rw [show nG e2.o [] 2 (.bW r off z' len cap)=gS off z' len (e2.o r) from rfl,no (f:=gS off z' len) rfl h];exact h
 case addr r off =>
  have h:iR z (mL (nG e.o [] 1) off (e.o r))=some rows:=h;unfold mL at h;split at h<;>cases h
 case bX r z' i k =>
  have h:iR z (ug z' i k (e.o r))=some rows:=h;unfold ug at h;split at h
  ·split at h<;>cases h
  ·cases h
 all_goals first | exact h | cases h
theorem Uu (h:oE P n o e true K):∃ (d:Nat) (k:Option Nat) (Q:D),o.dst=some d/\(∀ r,k=some r->Ih e o.op=.ref r)/\K (bP (cV (kE k e) (nm d 0) Q) d (.ref (nm d 0))) /\
  ∀ e2 (w:Env->Prop),(∀ z∈o.op.operands.toList,rd e2 z=rd e z)->(∀ j,e.o j≠.undef->e2.o j=e.o j)->e2.o (nm d 0)=e.o (nm d 0)->w (bP (cV (kE k e2) (nm d 0) Q) d (.ref (nm d 0)))->oE P n o e2 true w:=by
 unfold oE at h;cases H:o.op<;>rw [H] at h<;>try exact h.elim
 rename_i c;cases O:o.dst with
 | none=>rw [O] at h;exact h.elim
 | some d =>
  rw [O] at h;obtain ⟨k1,k2,k3⟩:=h;split at k3<;>try exact k3.elim
  rename_i x y T T2 q I;have F:∀ z∈c.args.toList,z∈(Op.call c).operands.toList:=fun z S=>by simp only [Op.operands,Call.operands,Array.toList_append,mem_append];exact .inr S
  unfold qO at k3;split at k3<;>try exact k3.elim
  rename_i z L a z2 b2 a2 R N;obtain ⟨k3,s⟩:=k3;have M:Ih e (Op.call c)=rd e x:=by simp [Ih,q]
  have out:∀ e2 (w:Env->Prop),(∀ z∈(Op.call c).operands.toList,rd e2 z=rd e z)->wP e2 z L d w (rd e x) (iR z (nG e2.o [] 2 (rd e y)))->oE P n o e2 true w:=by
   intro e2 w hr A;unfold oE;rw [H,O];refine ⟨k1,rfl,?_⟩;simp only [q,I];rw [hr x (F x (by rw [q];simp)),hr y (F y (by rw [q];simp)),R,N];exact ⟨k3,A⟩
  unfold wP at s;split at s<;>try exact s.elim
  ·rename_i rows2 C J;refine ⟨d,none,_,rfl,(fun r hr=>by cases hr),s.2.2,fun e2 w hr B E A=>out e2 w hr ?_⟩;rw [C,BU B J];exact ⟨s.1,by rw [E];exact s.2.1,A⟩
  ·rename_i rows2 C J;refine ⟨d,none,_,rfl,(fun r hr=>by cases hr),s.2.2,fun e2 w hr B E A=>out e2 w hr ?_⟩;rw [C,BU B J];exact ⟨s.1,by rw [E];exact s.2.1,A⟩
  ·rename_i r rows2 C J;unfold Xt at s;split at s<;>try exact s.elim
   rename_i z' rows G;refine ⟨d,some r,_,rfl,(fun r' hr=>by cases hr;rw [M];exact C),s.2.2.2,fun e2 w hr B E A=>out e2 w hr ?_⟩;rw [C,BU B J];simp only [wP];rw [B r (by rw [G];simp),G];refine ⟨s.1,s.2.1,?_,A⟩;have:=s.2.2.1;simp only [jM] at this |-;rw [E];exact this
theorem We {v:D} {y:Oper} {q:Nat} (s:aeP y.op=true) (w:y.dst=some q):∀ {l:List Oper},y∈l->Ut e v l->K1 (e.o (nm q 0))=true/\KY (nm q 0) v=true
 | x :: l,hy,h=>by
  rcases mem_cons.1 hy with rfl | hy
  ·have:=h.1;simp only [s,w] at this;exact this
  ·exact We s w hy h.2
theorem Pn {v:D} {e2:Env} (q:∀ j,K1 (e.o j)=true->K1 (e2.o j)=true):∀ {l:List Oper},Ut e v l->Ut e2 v l
 | [],_=>trivial
 | x :: l,h=>by
  refine ⟨?_,Pn q h.2⟩;have:=h.1;split at this<;>rename_i q1 q2<;>simp_all
theorem ajy {a b:Nat} (h:a≠b):nm a 0≠nm b 0:=by unfold nm;omega
theorem XL (s:BinOp) (a b:D):kD k (wX s a b)=wX s a b:=by
 cases k with
 | none=>rfl
 | some r =>
  have w:∀ x:Bool,(Mw s x).kill r=Mw s x:=fun x=>by unfold Mw;split<;>rfl
  have A:∀ (q:IntKind) (x y:Int),(MD s q x y).kill r=MD s q x y:=fun q x y=>by unfold MD;split<;>rfl
  have B:∀ (x y:ByteArray),(sop s x y).kill r=sop s x y:=fun x y=>by unfold sop;split<;>rfl
  unfold wX;simp only [kD];split<;>first | exact w _ | exact A _ _ _ | exact B _ _ | rfl
theorem V3 (q:UnOp) (a:D):kD k (yu q a)=yu q a:=by
 cases k with
 | none=>rfl
 | some r =>
  unfold yu;simp only [kD];split
  ·split<;>rfl
  ·split<;>rfl
  ·rfl
theorem abf (s:List FT) (f:Nat) (h:kD k a=a):kD k (faV s f a)=faV s f a:=by
 cases k with
 | none=>rfl
 | some r =>
  cases a<;>simp only [kD,faV,D.kill] at h |-
  ·split at h<;>rename_i q
   ·cases h
   ·rw [ak q]
  ·split at h<;>rename_i q
   ·cases h
   ·rw [ak q]
theorem Y0 (agg:Bool) (off n:Nat) {cs:List D} (h:∀ c∈cs,kD k c=c):kD k (part agg off n cs)=part agg off n cs:=by
 cases k with
 | none=>rfl
 | some r =>
  unfold part;split
  ·simp only [kD,D.kill,jT];congr 1;have:((cs.drop off).take n).map (D.kill r)=((cs.drop off).take n).map id:=map_congr_left fun c q=>h c (mem_of_mem_drop (mem_of_mem_take q));rw [this,map_id]
  ·cases q:cs.drop off with
   | nil=>rfl
   | cons c r'=>exact h c (mem_of_mem_drop (by rw [q];simp))
theorem RF (v:Value):kD k (oI v)=oI v:=by
 cases k with
 | none=>rfl
 | some r =>
  have q:∀ v:Value,(tA v).kill r=tA v:=fun v=>by unfold tA;split<;>(try rfl)<;>(split<;>rfl)
  have s:∀ l:List Value,D.jN r (l.map tA)=l.map tA:=fun l=>by
   rw [jT,map_map];exact map_congr_left fun v _=>q v
  unfold oI;simp only [kD];split<;>first | exact q _ | (split<;>rfl) | (simp only [D.kill];rw [s])
theorem aaf {x:Oper} (aI:x∈ops) (aM:u∈ops) (ha:apY np ops x u=true) (h:fy P n np ops x e fun e1=>fy P n np ops u e1 K):fy P n np ops u e fun e2=>fy P n np ops x e2 K:=by
 simp only [apY,Bool.and_eq_true,iK,Option.isNone_iff_eq_none,any_eq_false,eH,bne_iff_ne] at ha;obtain ⟨au,ab,aH,aL,aq,aE,aF,av,aK,am,ai,aa⟩:=ha;have aG:nM x=true:=by simp [nM,rK ab]
 have ex:∀ (e:Env) (K:Env->Prop),fy P n np ops x e K ↔ oE P n x e true K/\Ut e (Ih e x.op) ops:=by
  intro e K;simp only [fy,aE,aH,rI,aG,rK ab,Ki ab,Bool.false_eq_true,if_false,if_true,apU,au,true_implies]
 have ey:∀ (e:Env) (K:Env->Prop),fy P n np ops u e K ↔ (og np ops u (bV e u)/\iF P n true u e true K)/\kG e u.op:=by
  intro e K;simp only [fy,aF,aL,rI,av,Bool.false_eq_true,if_false,GX,au,true_implies,Rc,kn,Ww av]
 rw [ex] at h;obtain ⟨h,hV⟩:=h;obtain ⟨d,k,ob,hd,hk,J,as⟩:=Uu h;rw [ey] at J;obtain ⟨⟨ac,J⟩,w⟩:=J;rw [ey];rw [hd] at aa am ai;have aa:∀ s∈Ah d,s ∉ rdO np ops u:=fun s hs=>by simpa using dn.1 aa s hs
 obtain ⟨F,hF⟩:∃ F,F=bP (cV (kE k e) (nm d 0) ob) d (.ref (nm d 0)):=⟨_,rfl⟩
 rw [<- hF] at ac J w;have hFt:∀ z∈u.op.operands.toList,rd F z=kD k (rd e z)\/rd F z=rd e z:=by
  intro z U;cases z with
  | tmp t =>
   left;have:t≠d:=by
    rintro rfl;exact am t (vk U) rfl
   rw [hF];show (bP _ _ _).t t=kD k (e.t t);rw [tc this];exact aow k e t
  | _=>right;rfl
 have I:∀ z∈u.op.operands.toList,Ev (rd F z)=true->rd F z=rd e z/\kD k (rd e z)=rd e z:=by
  intro z U hs;cases z with
  | tmp t =>
   have e1:rd F (.tmp t)=kD k (rd e (.tmp t)):=by
    have:t≠d:=by
     rintro rfl;exact am t (vk U) rfl
    rw [hF];show (bP _ _ _).t t=kD k (e.t t);rw [tc this];exact aow k e t
   rw [e1] at hs |-;have:=abN hs;exact ⟨this,this⟩
  | const v=>exact ⟨rfl,RF v⟩
  | global g=>exact ⟨rfl,by cases k<;>rfl⟩
  | func f=>exact ⟨rfl,by cases k<;>rfl⟩
 have ad:∀ (A:Nat) (v:D),u.dst=some A->∀ (e2:Env),(∀ j,j≠A->e2.t j=e.t j)->∀ z∈x.op.operands.toList,rd e2 z=rd e z:=by
  intro A v C e2 he z U;cases z with
  | tmp t=>exact he t fun e=>aK t (vk U) (by rw [C,e])
  | _=>rfl
 -- a step that only sets its slot
 have aw:∀ (A:Nat) (v:D),u.dst=some A->kD k v=v->K (bP F A v)->fy P n np ops x (bP e A v) K:=by
  intro A v C hv J;have Z:d≠A:=fun h=>ai (by rw [C,h]);have hr:=ad A v C (bP e A v) fun j M=>tc M;rw [ex];refine ⟨as _ K hr (fun _ _=>rfl) rfl ?_,?_⟩
  ·have:bP (cV (kE k (bP e A v)) (nm d 0) ob) d (.ref (nm d 0))=bP F A v:=by
    rw [hF,WC,hv];simp only [bP,cV,Env.mk.injEq,and_true];funext j;by_cases M:j=d
    ·subst M;simp [Z]
    ·simp [M]
   rw [this];exact J
  ·rw [J9 hr];exact Pn (e:=e) (e2:=bP e A v) (fun _ M=>M) hV
 cases B:u.op<;>rw [B] at aq<;>(try cases aq)
 case buildSlice T len ps =>
  cases C:u.dst with
  | none=>simp only [iF,B,C] at J
  | some A =>
   simp only [iF,B,C] at J;obtain ⟨aj,J⟩:=J;have Z:d≠A:=fun h=>ai (by rw [C,h]);have hp:∀ q∈ps.toList,rd F q.2=rd e q.2:=by
    rw [B] at w I;intro q R;refine (I q.2 (by simp only [Op.operands,Array.toList_map,mem_map];exact ⟨q,R,rfl⟩) ?_).1;have:∀ {l:List (Nat × Operand)},IB F l=true->∀ q∈l,Ev (rd F q.2)=true:=by
     intro l;induction l with
     | nil=>intro _ q R;cases R
     | cons a l ih =>
      intro h q R;simp only [IB,Bool.and_eq_true] at h;rcases mem_cons.1 R with rfl | R
      ·exact h.1
      ·exact ih h.2 q R
    exact this w q R
   have an:qR F ps.toList=qR e ps.toList:=by
    unfold qR;congr 1;exact map_congr_left fun q R=>hp q R
   have ax:∀ z,j7 F z ps.toList=j7 e z ps.toList:=fun z=>map_congr_left fun q R=>by rw [hp q R]
   obtain ⟨O,Y⟩:=J.1 rfl;have O:=O trivial;rw [O] at Y;simp only [fD] at Y;unfold Ui at Y;split at Y<;>try exact Y.elim
   rename_i z by_ ea zc hT aN;obtain ⟨q1,q2,q3,q4,q5,J⟩:=Y;obtain ⟨v1,v2⟩:=We (by rw [B];rfl) C aM hV;have al:k≠some (nm A 0):=by
    intro az;rw [hk _ az] at v2;simp [KY] at v2
   have af:nm A 0≠nm d 0:=ajy (Ne.symm Z);have hN:e.o (nm A 0)=.undef:=by
    refine ai4 (k:=k) v1 ?_;rw [<- aov al,<- q5,hF];show _=(cV (kE k e) (nm d 0) ob).o (nm A 0);simp [cV,af]
   refine ⟨⟨by simp [bV,B,og],?_⟩,?_⟩
   ·simp only [iF,B,C];refine ⟨aj,fun _=>⟨fun _=>by rw [<- an];exact O,?_⟩,fun h=>by cases h⟩;rw [<- an,O];simp only [fD,Ui,hT,aN];simp only [Ci,<- ax] at q3 q4 J |-;refine ⟨q1,q2,q3,q4,hN,?_⟩;obtain ⟨V,ag⟩:∃ V:D,V=.own z (rowsOf z len (mo (replicate len zc).flatten (j7 F z ps.toList))):=⟨_,rfl⟩
    rw [<- ag] at J |-;have ao:kD k V=V:=by rw [ag];cases k<;>rfl
    have aA:kD k (.ref (nm A 0))=.ref (nm A 0):=by
     cases k with
     | none=>rfl
     | some r =>
      have:nm A 0≠r:=fun h=>al (by rw [h]);simp [kD,D.kill,this]
    have hr:=ad A (.ref (nm A 0)) C (bP (cV e (nm A 0) V) A (.ref (nm A 0))) fun j M=>tc M;rw [ex];refine ⟨as _ K hr ?_ ?_ ?_,?_⟩
    ·intro j M;show (if j=nm A 0 then V else e.o j)=e.o j;rw [ak];rintro rfl;exact M hN
    ·show (if nm d 0=nm A 0 then V else e.o (nm d 0))=e.o (nm d 0);rw [ak (Ne.symm af)]
    ·have:bP (cV (kE k (bP (cV e (nm A 0) V) A (.ref (nm A 0)))) (nm d 0) ob) d (.ref (nm d 0))=bP (cV F (nm A 0) V) A (.ref (nm A 0)):=by
      rw [hF,WC,aeQ al,ao,aA];simp only [bP,cV,Env.mk.injEq];refine ⟨?_,?_⟩<;>funext j
      ·by_cases M:j=d
       ·subst M;simp [Z]
       ·simp [M]
      ·by_cases M:j=nm d 0
       ·subst M;simp [Ne.symm af]
       ·simp [M]
     rw [this];exact J
    ·rw [J9 hr];refine Pn (fun j M=>?_) hV;show K1 (if j=nm A 0 then V else e.o j)=true;split
     ·rw [ag];rfl
     ·exact M
   ·simp only [B,kG] at w |-;rw [<- B1 _ hp];exact w
 all_goals
  have Q:(∀ W K',iF P n true u W true K' ↔ ∃ A,u.dst=some A/\A < n/\dM P W u.op/\K' (bP W A (fN P W u.op)))->(dM P F u.op->dM P e u.op/\fN P F u.op=fN P e u.op/\kD k (fN P e u.op)=fN P e u.op)->og np ops u (bV e u)->kG e u.op->(og np ops u (bV e u)/\iF P n true u e true fun e2=>fy P n np ops x e2 K)/\kG e u.op:=by
   intro L H X h3;obtain ⟨A,C,aj,E,J⟩:=(L _ _).1 J;obtain ⟨k1,k2,k3⟩:=H E;rw [k2] at J;exact ⟨⟨X,(L _ _).2 ⟨A,C,aj,k1,aw A _ C k3 J⟩⟩,h3⟩
  rw [B] at Q w I;simp only [Op.operands] at I;have L:∀ W K',iF P n true u W true K' ↔ ∃ A,u.dst=some A/\A < n/\dM P W u.op/\K' (bP W A (fN P W u.op)):=by
   intro W K';cases C:u.dst<;>simp [iF,B,C,gr,gd]
  rw [B] at L
 case move a =>
  obtain ⟨H,X⟩:=I a (by simp) w;exact Q L (fun _=>⟨trivial,H,X⟩) (by simp [bV,B,og]) (by simp only [kG];rw [<- H];exact w)
 case fieldAddr t a f =>
  obtain ⟨H,X⟩:=I a (by simp) w;refine Q L (fun E=>⟨?_,?_,?_⟩) (by simp [bV,B,og]) (by simp only [kG];rw [<- H];exact w)
  ·simp only [dM] at E |-;rw [<- H];exact E
  ·simp only [fN];rw [H]
  ·simp only [fN];cases dV P t<;>first | exact abf _ _ X | (cases k<;>rfl)
 case unOp op t a =>
  obtain ⟨H,X⟩:=I a (by simp) w;refine Q L (fun E=>⟨?_,?_,V3 _ _⟩) (by simp [bV,B,og]) (by simp only [kG];rw [<- H];exact w)
  ·simp only [dM] at E |-;rw [<- H];exact E
  ·simp only [fN];rw [H]
 case binOp op t a b t2 =>
  obtain ⟨H,X⟩:=I a (by simp) w.1;obtain ⟨h3,h4⟩:=I b (by simp) w.2;refine Q L (fun E=>⟨?_,?_,XL _ _ _⟩) (by simp [bV,B,og]) (by simp only [kG];rw [<- H,<- h3];exact w)
  ·simp only [dM] at E |-;rw [<- H,<- h3];exact E
  ·simp only [fN];rw [H,h3]
 case load t a =>
  simp only [kG] at w;cases N:rd F a<;>rw [N] at w<;>(try cases w);rename_i q off;simp only [ZM] at w;obtain ⟨H,X⟩:=I a (by simp) (by rw [N];rfl);have G:rT np ops u q=true:=by
   refine qY ac q ?_;simp only [bV,B,N,D.names,ga]
  have aC:q≠nm d 0:=by
   rintro rfl;have hm:nm d 0∈Ah d:=by simp only [Ah,mem_map,mem_range];exact ⟨0,by omega,rfl⟩
   have hw:nm d 0∈af0 np ops:=by
    refine mem_flatMap.2 ⟨x,aI,?_⟩;have aB:makes x.op=true:=by
     have:=rK ab;unfold isApp at this;unfold makes;split at this
     ·rename_i c hc;rw [hc];split at this
      ·rename_i ay;simp [ay]
      ·cases this
     ·cases this
    simp only [Mb,hd,aB,if_true];exact mem_append_left _ hm
   unfold rT at G;rw [B] at G;simp only [Bool.or_eq_true,iK,contains_eq_mem,bL,gM] at G;rcases G with h | h
   ·exact aa _ hm h
   ·exact h hw
  have aD:k≠some q:=by
   rintro rfl;rw [<- H,N] at X;simp [kD,D.kill] at X
  have ae:F.o q=kD k (e.o q):=by
   rw [hF,<- aov aD];show (if q=nm d 0 then ob else (kE k e).o q)=_;rw [ak aC]
  have S:F.o q=e.o q:=by rw [ae];exact ai3 (by rw [<- ae];exact w)
  have ar:∀ r∈bV F u,F.o r=e.o r:=by
   intro r hr;simp only [bV,B,N,D.names,ga] at hr;rw [hr];exact S
  have ah:=Hp (P:=P) (o:=u) (e:=F) (e2:=e) (fun z U=>by
   rw [B] at U;simp only [Op.operands,ga] at U;have U:z=a:=by simpa using U
   subst U;exact H) ar (fun c f hc=>by rw [B] at hc;cases hc)
  rw [B] at ah;refine Q L (fun E=>⟨ah.2.1 E,ah.1,?_⟩) ?_ ?_
  ·simp only [fN,<- H,N];cases gC P t with
   | none=>cases k<;>rfl
   | some l =>
    simp only [ldV];rw [<- S];cases Y:F.o q<;>rw [Y] at w<;>(try cases w);rename_i cs;simp only [ldB];have ap:kD k (D.box cs)=D.box cs:=by rw [<- Y,S,<- ae,S]
    refine Y0 _ _ _ fun c hc=>?_;cases k with
    | none=>rfl
    | some r =>
     simp only [kD,D.kill,jT,D.box.injEq] at ap |-;have:=map_eq_map_iff.1 (show cs.map (D.kill r)=cs.map id by rw [ap,map_id]) c hc;exact this
  ·simp only [bV,B,<- H,N,D.names];exact ⟨G,aJ⟩
  ·simp only [kG];rw [<- H,N];simp only [ZM];rw [<- S];exact w
def qE (P:Program) (n np:Nat) (ops:Array Oper):List Nat->Env->(Env->Prop)->Prop
 | [],e,K=>K e
 | i :: r,e,K=>match ops[i]? with
  | some o=>fy P n np ops.toList o e fun q=>qE P n np ops r q K
  | none=>qE P n np ops r e K
theorem Er {ops:Array Oper} {i:Nat} {y:Oper} (B:ops[i]?=some y):∀ (s q:List Nat) (e:Env) (K:Env->Prop),(∀ j∈s,∀ x,ops[j]?=some x->(Ax ops.toList x=false/\Ax ops.toList y=false/\Js np ops.toList x y=true)\/(SM ops.toList x y=true/\jR ops.toList y=false/\jR ops.toList x=false)\/apY np ops.toList x y=true) ->
  qE P n np ops (s++i :: q) e K->qE P n np ops (i :: (s++q)) e K
 | [],_,_,_,_,h=>h
 | j :: s,q,e,K,ha,h=>by
  simp only [cons_append,qE] at h |-;have E:=fun C=>Er B s q C K (fun k I=>ha k (mem_cons_of_mem _ I));simp only [B];cases A:ops[j]? with
  | none =>
   rw [A] at h;have:=E e h;simp only [qE,B] at this;simpa [A] using this
  | some x =>
   rw [A] at h;simp only at h |-
   have D:fy P n np ops.toList x e fun G=>fy P n np ops.toList y G fun C=>qE P n np ops (s++q) C K:=by
    refine Ma h ?_;intro C H;have:=E C H;simpa only [qE,B] using this
   have w:∀ {k:Nat} {z:Oper},ops[k]?=some z->z∈ops.toList:=by
    intro k z J;exact dX (i:=k) (by simpa using J)
   rcases ha j (by simp) x A with ⟨F,a2,a3⟩ | ⟨ha,hb,hc⟩ | ha
   ·exact V5 F a2 (w A) (w B) a3 D
   ·exact aag ha hb hc D
   ·exact aaf (w A) (w B) ha D
theorem Es {ops:Array Oper}:∀ (l:List Oper) (k:Nat) (e:Env) (K:Env->Prop),ops.toList.drop k=l->n6 P n np ops.toList l e K->qE P n np ops (range' k l.length) e K
 | [],_,_,_,_,h=>h
 | o :: l,k,e,K,hd,h=>by
  have A:ops[k]?=some o:=by
   have:(ops.toList.drop k)[0]?=some o:=by rw [hd];rfl
   rw [getElem?_drop] at this;simpa using this
  have q:ops.toList.drop (k+1)=l:=by
   rw [<- drop_drop,hd];rfl
  simp only [length_cons,range'_succ,qE,A];refine Ma h ?_;intro s w;exact Es l (k+1) s K q w
end
end Go.Abs
namespace Go.Abs
open List
variable {d i:Nat} {K:Env->Prop} {e:Env} {g:Bool} {o:Oper} {ops:Array Oper} {a:Act} {next:Act->World->Prop} {Q:Exit->Act->World->Prop} {b:Array Bool}
section
variable {P:Program} {n np:Nat} {w0 w w':World} {l0:Nat->Option Nat} {G:Nat->Option (Nat × Nat)} {S0:Nat->Option Value} {lev lev' own own':Nat->Option Nat} {S S':Nat->Option Value} {env env':Env} {tm tm':Nat->Value}
theorem Uz {dr:Bool} {f:Operand} {args:List Operand} (h:Ca P true e d f args K):Ca P dr e d f args K:=by
 obtain ⟨fz,gs,bw,j,k,c,h⟩:=h;exact ⟨fz,gs,bw,j,k,fun _=>c rfl,oD (fun _ l=>.inl l.drawn) h⟩
theorem afa {ops:List Oper} (h:Rc P n np ops o e g K):kn P n false o e g K:=by
 obtain ⟨_,h⟩:=h;unfold kn at h |-;split at h
 ·rename_i q;rw [aq q];exact ⟨h.1,rfl,h.2.2⟩
 rename_i q;rw [ak q];cases u:o.dst with
 | none=>cases l:o.op<;>simp only [iF,l,u] at h |-<;>exact h
 | some d =>
  cases l:o.op<;>simp only [iF,l,u] at h |-<;>(try exact h)
  case buildSlice t len parts=>exact ⟨h.1,fun p=>⟨(fun h=>by cases h),(h.2.1 p).2⟩,h.2.2⟩
  case call c =>
   refine ⟨h.1,?_⟩;have k:=h.2;cases j:c.callee with
   | invoke r m=>rw [j] at k;exact k
   | value f=>rw [j] at k;exact ⟨fun p=>(k.1 p).elim (fun s=>.inl (Uz s)) (fun s=>(lZ s.1.symm).elim),k.2⟩
   | builtin b =>
    rw [j] at k;cases b<;>simp only at k |-<;>first | exact k | exact ⟨k.1,aJ,k.2.2⟩
theorem NQ:∀ (l:List Oper) (j:Nat),vU l j=(l[j]?).bind (·.dst)
 | [],j=>by simp [vU]
 | o :: r,0=>by simp [vU]
 | o :: r,j+1=>by simp [vU,NQ r j]
theorem O9 (h:Inv w0 l0 G S0 w lev own S env (lM a.tmps)) (c:rI ops.toList env o.guard=some g):Region.wanted o (yielded ops a.tmps)=g:=by
 unfold rI at c;unfold Region.wanted;cases m:o.guard with
 | none=>rw [m] at c;simpa using c.symm
 | some p =>
  obtain ⟨j,r⟩:=p;rw [m] at c;simp only at c |-;rw [NQ] at c;have x:ops.toList[j]?=ops[j]?:=by simp
  rw [x] at c;unfold yielded;cases u:(ops[j]?).bind (·.dst) with
  | none =>
   rw [u] at c;simp only [ny] at c;subst c;simp
  | some t =>
   rw [u] at c;simp only at c;simp only [Option.bind_some];have l:=h.uS a rfl (.tmp t);unfold O8 at c;split at c
   ·rename_i b s;rw [s] at l;have q:=l.kF;have k:t < a.tmps.size:=by
     rcases bZ t a.tmps.size with k | hge
     ·exact k
     ·simp [Act.eval,Array.getElem?_eq_none hge,Go.undef] at q
    have f:a.tmps[t]?=some (.bool b):=by
     simp [Act.eval,k] at q;simp [k,q]
    simp only [f];simp only [ny] at c;subst c;cases b<;>cases r<;>rfl
   ·rename_i s;rw [s] at l;obtain ⟨vs,q,hs,_⟩:=l.Ei;simp only [ny] at c;subst c;cases f:a.tmps[t]? with
    | none=>simp
    | some v =>
     have:v=.tuple vs:=by simpa [Act.eval,f] using q
     subst this;simp
   ·cases c
theorem X3 (h:Inv w0 l0 G S0 w lev own S env (lM a.tmps)) (N:a.tmps.size=n) (m:a.defers=[]) {t:TypeId} (y:o.op=.buildSlice t 0 #[]) (J:o.dst=some d) (p:d < n)
  (c:Cont n w0 l0 G S0 K next) (l:Mg env d K (dV P t)):o.wp P a w next Q:=by
 unfold Mg at l;split at l<;>try exact l.elim
 rename_i z by_ ea I;obtain ⟨C,F⟩:=l;obtain ⟨e,inf,O,M,hin,B,hz,zv0,hzv0,hzz0⟩:=dO I;have H:=h.fresh C;have D:=h.setObj (w':=w.alloc (.cells #[] e)) (r:=nm d 0) (d:=.undef) (own':=own) (S':=S) (L7 h _ none) (yx _ _ _ none) (fun _ _=>rfl) (fun _ h=>h) (.inl (AG d 0))
  (by
   intro b s _ _ _ B;have q:=h.priv b 0 B;have x:b≠w.heap.size:=by omega
   exact ⟨heap_alloc_old w _ q,fm _ _ x,rfl⟩)
  (show S (nm d 0)=none from H)
 have L:cV env (nm d 0) .undef=env:=by
  cases env with
  | mk t o =>
   simp only [cV,Env.mk.injEq,true_and];funext j;by_cases E:j=nm d 0
   ·subst E;simp only [if_true];exact C.symm
   ·simp [E]
 rw [L] at D;have f:=D.put (s:=d) (v:=.slice (some ⟨w.heap.size,0,none⟩) 0 0) (d:=.emp) (.emp _);refine upon_value J (u:=.slice (some ⟨w.heap.size,0,none⟩) 0 0) ?_ (fk N m c p f F);simp only [execOp,y];refine jx ?_;have k:(newRow e #[]).run P w=.ok ⟨w.heap.size,0,none⟩ (w.alloc (.cells #[] e)):=by simp [newRow,newObj,Sem.run,Sem.bind,pure,bind]
 have A:(Array.range 0:Array Nat) = #[]:=rfl;simp [Instr.buildSlice,Sem.run_bind,bC O,bU M,Instr.fill,A,k,Sem.run,pure]
theorem B7 (m:ops[i]?=some o) (h:Inv w0 l0 G S0 w lev own S env (lM a.tmps)) (l:a.tmps.size=n) (j:a.defers=[])
  (c:Cont n w0 l0 G S0 K next) (f:wpOp P n ops.toList o env K):Go.wpOp P ops Q i next a w:=by
 unfold wpOp at f;cases k:rI ops.toList env o.guard with
 | none=>rw [k] at f;exact f.elim
 | some g =>
  rw [k] at f;unfold Go.wpOp;simp only [m,O9 h k];cases g with
  | true=>exact .inl (YT h l j c f)
  | false =>
   simp only [Bool.false_eq_true,if_false];exact acj h l j c f
theorem Ua (v:ops[i]?=some o) (h:Inv w0 l0 G S0 w lev own S env (lM a.tmps)) (u:a.tmps.size=n) (m:a.defers=[])
  (j:Cont n w0 l0 G S0 K next) (f:fy P n np ops.toList o env K):Go.wpOp P ops Q i next a w:=by
 unfold fy at f;cases r:rI ops.toList env o.guard with
 | none=>rw [r] at f;exact f.elim
 | some g =>
  rw [r] at f;simp only at f;by_cases l:jR ops.toList o=true
  ·rw [aq l] at f;obtain ⟨s,l | l⟩:=Xi l
   ·obtain ⟨t,len,ps,d,k,q,rfl,rfl⟩:=l;have p:=r;rw [s] at p;simp only [rI,ny] at p;subst p;unfold Go.wpOp;simp only [v,O9 h r];unfold oz at f;rw [k,q] at f;exact .inl (X3 h u m k q f.1 j f.2)
   ·refine B7 v h u m j (K:=K) ?_;unfold wpOp;rw [s];simp only [rI];refine Ri l ?_;unfold oz at f;unfold oE;have y:∃ c,o.op=.call c:=by
     unfold isApp at l;split at l
     ·rename_i c k;exact ⟨c,k⟩
     ·cases l
    obtain ⟨c,k⟩:=y;rw [k] at f |-;cases q:o.dst with
    | none=>rw [q] at f;exact f.elim
    | some d =>
     rw [q] at f;refine ⟨f.1,rfl,?_⟩;have f:=f.2;split at f
     ·rename_i hx hy;exact ahG f.2
     ·exact f.elim
  ·rw [ak l] at f;refine B7 v h u m j (K:=K) ?_;unfold wpOp;rw [r];simp only;split at f
   ·split at f
    ·rename_i x;split at f
     ·exact f
     ·exact Ri x f.1
    ·split at f
     ·exact acI f
     ·exact f
   ·exact afa f.1
theorem Et {ops:Array Oper} {Q:Exit->Act->World->Prop} {K:Env->Prop} (c:Cont n w0 l0 G S0 K (Q .normal)):∀ (l:List Oper) (k:Nat),ops.toList.drop k=l->∀ (env:Env) lev own S w (a:Act),Inv w0 l0 G S0 w lev own S env (lM a.tmps)->a.tmps.size=n->a.defers=[] ->
  wpList P n ops.toList l env K->wpOps P ops Q (range' k l.length) a w
 | [],k,_,env,lev,own,S,w,a,h,hn,hdf,hk=>c _ _ _ _ _ a hn hdf h hk
 | o :: l,k,hd,env,lev,own,S,w,a,h,hn,hdf,hk=>by
  have t:ops[k]?=some o:=by
   have:(ops.toList.drop k)[0]?=some o:=by rw [hd];rfl
   rw [getElem?_drop] at this;simpa using this
  have j:ops.toList.drop (k+1)=l:=by rw [<- drop_drop,hd];rfl
  simp only [length_cons,range'_succ];rw [wpOps_cons];refine B7 t h hn hdf ?_ hk;intro q lev' own' S' w' p m f s r;exact Et c l (k+1) j q lev' own' S' w' p s m f r
theorem Lk (h:i∈Region.ready .any ops b):i < ops.size/\b.getD i true=false/\∀ y,ops[i]?=some y->∀ e∈y.after.toList,Region.binds .any e=true->b.getD e.on false=true:=by
 unfold Region.ready at h;simp only [mem_filter,mem_range,Bool.and_eq_true,iK] at h;refine ⟨h.1,h.2.1,?_⟩;intro y k e j f;have:=h.2.2;rw [k] at this;simp only [Option.map_some,Option.getD_some,Array.all_eq_true_iff_forall_mem,Bool.or_eq_true,iK] at this;rcases this e (by simpa using j) with c | c
 ·rw [f] at c;cases c
 ·exact c
theorem adG (M:AY np ops=true) (C:Cont n w0 l0 G S0 K (Q .normal)):∀ (q:Nat) (c:Array Bool) (env:Env) lev own S w (a:Act),
  c.size=ops.size->(∀ k y,ops[k]?=some y->c.getD k false=true->∀ e∈y.after.toList,Region.binds .any e=true->c.getD e.on false=true)->((range ops.size).filter (fun i=>!c.getD i true)).length<=q->Inv w0 l0 G S0 w lev own S env (lM a.tmps)->a.tmps.size=n->a.defers=[] ->
  qE P n np ops ((range ops.size).filter (fun i=>!c.getD i true)) env K->wpAny P .any ops Q q c a w:=by
 have T:∀ (i:Nat) y,ops[i]?=some y->∀ e∈y.after.toList,Region.binds .any e=true->e.on < i:=by
  intro i y p e u t;have A:=(Array.getElem?_eq_some_iff.1 p).1;simp only [AY,dn,mem_range] at M;have:=M i A;rw [p] at this;simp only [Bool.and_eq_true,Array.all_eq_true_iff_forall_mem,Bool.or_eq_true,iK,bL] at this;rcases this.1 e (by simpa using u) with l | l
  ·rw [t] at l;cases l
  ·exact l
 have J:∀ (i:Nat) y,ops[i]?=some y->∀ j,j < i->∀ x,ops[j]?=some x->((∃ e∈y.after.toList,Region.binds .any e=true/\e.on=j)\/GB ops 12 i j=true)\/((Ax ops.toList x=false/\Ax ops.toList y=false/\Js np ops.toList x y=true)\/(SM ops.toList x y=true/\jR ops.toList y=false/\jR ops.toList x=false)\/apY np ops.toList x y=true):=by
  intro i y p j r x hx;have A:=(Array.getElem?_eq_some_iff.1 p).1;simp only [AY,dn,mem_range] at M;have:=M i A;rw [p] at this;simp only [Bool.and_eq_true,dn,mem_range] at this;have:=this.2 j r;rw [hx] at this;simp only [Bool.or_eq_true,Array.any_eq_true',Bool.and_eq_true,eH,iK] at this;rcases this with ⟨e,u,t,D⟩ | (((⟨⟨l,I⟩,R⟩ | ⟨⟨l,I⟩,R⟩) | l) | l)
  ·exact .inl (.inl ⟨e,by simpa using u,t,D⟩)
  ·exact .inr (.inl ⟨l,I,R⟩)
  ·exact .inr (.inr (.inl ⟨l,I,R⟩))
  ·exact .inr (.inr (.inr l))
  ·exact .inl (.inr l)
 -- what is behind what is c is c
 have N:∀ (c:Array Bool),(∀ k y,ops[k]?=some y->c.getD k false=true->∀ e∈y.after.toList,Region.binds .any e=true->c.getD e.on false=true)->∀ (k i j:Nat),GB ops k i j=true ->
   (∀ y,ops[i]?=some y->∀ e∈y.after.toList,Region.binds .any e=true->c.getD e.on false=true)->c.getD j false=true:=by
  intro c v k;induction k with
  | zero=>intro i j h;simp [GB] at h
  | succ k ih =>
   intro i j h O;unfold GB at h;cases p:ops[i]? with
   | none=>rw [p] at h;cases h
   | some y =>
    rw [p] at h;simp only [Array.any_eq_true',Bool.and_eq_true,Bool.or_eq_true,eH] at h;obtain ⟨e,u,t,h⟩:=h;have W:=O y p e (by simpa using u) t;rcases h with rfl | h
    ·exact W
    ·exact ih e.on j h (fun y' am=>v e.on y' am W)
 -- nothing is ready only if nothing is left
 have af:∀ c:Array Bool,c.size=ops.size->Region.ready .any ops c=[]->(range ops.size).filter (fun i=>!c.getD i true)=[]:=by
  intro c s hr;rw [filter_eq_nil_iff];intro i;induction i using Nat.strongRecOn with
  | _ i ih =>
   intro O hu;have A:=mem_range.1 O;have:i∈Region.ready .any ops c:=by
    unfold Region.ready;rw [mem_filter];refine ⟨O,?_⟩;simp only [Bool.and_eq_true];refine ⟨hu,?_⟩;have p:ops[i]?=some ops[i]:=by simp [A]
    rw [p];simp only [Option.map_some,Option.getD_some,Array.all_eq_true_iff_forall_mem,Bool.or_eq_true,iK];intro e u;cases t:Region.binds .any e with
    | false=>exact .inl rfl
    | true =>
     right;have D:=T i _ p e (by simpa using u) t;have l:=ih e.on D (mem_range.2 (by omega));have I:c.getD e.on true=true:=by
      cases hx:c.getD e.on true with
      | true=>rfl
      | false=>exact (l (by rw [hx];rfl)).elim
     have ag:e.on < c.size:=by omega
     simpa [Array.getD_eq_getD_getElem?,ag] using I
   rw [hr] at this;cases this
 intro q;induction q with
 | zero =>
  intro c env lev own S w a s v z h hn L H;have hR:(range ops.size).filter (fun i=>!c.getD i true)=[]:=length_eq_zero_iff.1 (by omega);rw [hR] at H;refine ⟨?_,C _ _ _ _ _ a hn L h H⟩;rw [eq_nil_iff_forall_not_mem];intro i O;obtain ⟨l,I,_⟩:=Lk O;have:i∈(range ops.size).filter (fun i=>!c.getD i true):=mem_filter.2 ⟨mem_range.2 l,by rw [I];rfl⟩;rw [hR] at this;cases this
 | succ q ih =>
  intro c env lev own S w a s v z h hn L H;refine ⟨?_,?_⟩
  ·intro hr;rw [af c s hr] at H;exact C _ _ _ _ _ a hn L h H
  ·intro i O;obtain ⟨l,I,R⟩:=Lk O;have ai:i∈(range ops.size).filter (fun i=>!c.getD i true):=mem_filter.2 ⟨mem_range.2 l,by rw [I];rfl⟩;obtain ⟨Z,F,Y⟩:=append_of_mem ai;have p:ops[i]?=some ops[i]:=by simp [l]
   have f:((range ops.size).filter (fun i=>!c.getD i true)).Pairwise (· < ·):=Pairwise.filter _ pairwise_lt_range;rw [Y] at f H z;have E:∀ j∈Z,j < i:=by
    intro j r;have:=pairwise_append.1 f;exact this.2.2 j r i (by simp)
   have X:∀ j∈F,i < j:=by
    intro j r;have:=(pairwise_append.1 f).2.1;exact (iL.1 this).1 j r
   have ac:=Er (P:=P) (n:=n) (np:=np) p Z F env K (by
    intro j r x hx;rcases J i _ p j (E j r) x hx with h5 | h4
    ·have W:c.getD j false=true:=by
      rcases h5 with ⟨e,u,t,D⟩ | h5
      ·rw [<- D];exact R _ p e u t
      ·exact N c v 12 i j h5 R
     have aj:j∈(range ops.size).filter (fun i=>!c.getD i true):=by rw [Y];exact mem_append_left _ r
     have U:=(mem_filter.1 aj).2;have ak:j < c.size:=by have:=E j r;omega
     simp [Array.getD_eq_getD_getElem?,ak] at W U;rw [W] at U;cases U
    ·exact h4) H
   simp only [qE,p] at ac;have aa:(range ops.size).filter (fun k=>!(c.setIfInBounds i true).getD k true)=Z++F:=by
    have hf:∀ k,(!(c.setIfInBounds i true).getD k true)=((!c.getD k true)&&decide (k≠i)):=by
     intro k;simp only [Array.getD_eq_getD_getElem?,Array.getElem?_setIfInBounds];by_cases V:i=k
     ·subst V;simp [s,l]
     ·simp [V,Ne.symm V]
    have:(range ops.size).filter (fun k=>!(c.setIfInBounds i true).getD k true)=((range ops.size).filter (fun k=>!c.getD k true)).filter (fun k=>decide (k≠i)):=by
     rw [filter_filter];refine filter_congr ?_;intro k _;rw [hf k,Bool.and_comm]
    rw [this,Y,mK,filter_cons];simp only [ne_eq,not_true_eq_false,decide_false,Bool.false_eq_true,if_false];rw [filter_eq_self.2 (fun j r=>by have:=E j r;simp;omega),filter_eq_self.2 (fun j r=>by have:=X j r;simp;omega)]
   refine Ua p h hn L ?_ ac;intro e' lev' own' S' w' a' al ab ah hK;refine ih _ e' lev' own' S' w' a' (by simpa using s) ?_ ?_ ah al ab (by rw [aa];exact hK)
   ·intro k y H W e u t;have B:∀ m,c.getD m false=true->(c.setIfInBounds i true).getD m false=true:=by
     intro m hm;simp only [Array.getD_eq_getD_getElem?,Array.getElem?_setIfInBounds] at hm |-
     by_cases ae:i=m
     ·subst ae;simp [s,l]
     ·simpa [ae] using hm
    by_cases ad:i=k
    ·subst ad;exact B _ (R y H e u t)
    ·refine B _ (v k y H ?_ e u t);simpa [Array.getD_eq_getD_getElem?,Array.getElem?_setIfInBounds,ad] using W
   rw [aa];simp at z |-;omega
end
end Go.Abs
namespace Go.Abs
open List
def V8 (t:Bool) (a b:Prop):Prop:=(t=true->a)/\(t=false->b)
def uQ (K:Env->Prop) (Q:Exit->Env->Prop):Exit->Env->Prop
 | .normal,e=>K e
 | x,e=>Q x e
def qp (id:Nat) (Q:Exit->Env->Prop):Exit->Env->Prop
 | .exit id',e=>if id'=id then Q .normal e else Q (.exit id') e
 | x,e=>Q x e
abbrev EL:=List (Nat × D)
def av {T:Type} (ts os:T->EL) (I:T->Prop) (m:T->Nat) (s:T) (e:Env):Prop:=∃ a,I a/\Me e (ts a) (os a)/\m a < m s
def kV {T:Type} (ts os:T->EL) (I:T->Prop) (m:T->Nat) (s:T) (Q:Exit->Env->Prop):Exit->Env->Prop
 | .normal,e=>av ts os I m s e
 | x,e=>Q x e
def aM (a:(Exit->Env->Prop)->Env->Prop) (Q:Exit->Env->Prop) (e:Env):Prop:=
 ∃ (T:Type) (ts os:T->EL) (I:T->Prop) (m:T->Nat) (s0:T),I s0/\Me e (ts s0) (os s0)/\∀ s,I s->a (kV ts os I m s Q) (tL (ts s) (os s))
def dW (K:Env->Prop) (e:Env):Prop:=K e\/∃ ts os,Me e ts os/\K (tL ts os)
def agc (np:Nat) (ops:Array Oper):Prop:=AY np ops=true
def falls:Code->Bool
 | .seq a b=>falls a&&falls b
 | .cond _ a b=>falls a||falls b
 | .exit _=>false
 | .ret=>false
 | _=>true
def P2:Code->Bool
 | .cond _ a b=>falls a&&falls b
 | .block _ (.cond _ a b)=>falls a&&falls b
 | .block _ (.loop _)=>true
 | _=>false
def mF (P:Program) (n np:Nat):Code->(Exit->Env->Prop)->Env->Prop
 | .skip,Q,e=>Q .normal e
 | .region _ ops draw,Q,e=>if draw then agc np ops/\n6 P n np ops.toList ops.toList e (Q .normal) else wpList P n ops.toList ops.toList e (Q .normal)
 | .seq a b,Q,e=>mF P n np a (uQ (if P2 a then dW (mF P n np b Q) else mF P n np b Q) Q) e
 | .cond c a b,Q,e=>match rd e c with
  | .bool t=>V8 t (mF P n np a Q e) (mF P n np b Q e)
  | _=>False
 | .block id a,Q,e=>mF P n np a (qp id Q) e
 | .loop a,Q,e=>aM (mF P n np a) Q e
 | .exit id,Q,e=>Q (.exit id) e
 | .ret,Q,e=>Q .ret e
 | .rangeFunc _ _ _ _,_,_=>False
 | .scope _,_,_=>False
 | .label _,_,_=>False
 | .goto _,_,_=>False
 | .refuse _,_,_=>False
variable {c:Code} {d:D} {rs:List ResultVar} {hs' hs ds:List D} {Φ:List D->D->Prop} {fn:Func} {f:FuncId} {g:Exit->Env->Prop}
section
variable {P:Program} {n np:Nat} {w0 w w':World} {l0:Nat->Option Nat} {G:Nat->Option (Nat × Nat)} {S0:Nat->Option Value} {lev lev' own own':Nat->Option Nat} {S S':Nat->Option Value} {env env':Env} {tm tm':Nat->Value}
theorem aah {Q:Exit->Act->World->Prop} {a:Act} {w:World} {S:Type} (I:S->Act->World->Prop) (m:S->Nat) (s0:S) (D:I s0 a w)
  (o:∀ s a w,I s a w->c.wp P (Exit.then (fun p w'=>∃ t,I t p w'/\m t < m s) Q) a w):(Code.loop c).wp P Q a w:=by
 intro b k cs;have key:∀ n s a w,m s=n->I s a w ->
   ∃ e p w',Q e p w'/\Arrives P (lone (b.at a (.code c :: .inLoop c :: k)) cs w) b k cs e p w':=by
  intro n;induction n using Nat.strongRecOn with
  | _ n ih =>
   intro s a w C B;obtain ⟨e,q,r,i,h⟩:=o s a w B b (.inLoop c :: k) cs;cases e with
   | normal =>
    obtain ⟨t,u,v⟩:=i;obtain ⟨A,z,E,y,j⟩:=ih (m t) (C ▸ v) t q r rfl u;exact ⟨A,z,E,y,.of_steps (Steps.trans h (.one step_inLoop)) j⟩
   | exit id=>exact ⟨_,q,r,i,.pass (x:=.inLoop c) rfl (fun _ _=>.inl (by simp)) h⟩
   | goto l=>exact ⟨_,q,r,i,.pass (x:=.inLoop c) rfl (fun _ _=>.inl (by simp)) h⟩
   | ret=>exact ⟨_,q,r,i,.pass (x:=.inLoop c) rfl (fun _ _=>.inl (by simp)) h⟩
   | panic ch=>exact ⟨_,q,r,i,.pass (x:=.inLoop c) rfl (fun _ _=>.inl (by simp)) h⟩
   | outgrown=>exact ⟨_,q,r,i,.pass (x:=.inLoop c) rfl (fun _ _=>.inl (by simp)) h⟩
 obtain ⟨e,p,w',i,h⟩:=key _ s0 a w rfl D;exact ⟨e,p,w',i,.of_steps (.one step_loop) h⟩
theorem aae (hm:P.follows .mixedOrders=true):∀ (c:Code) (u:Exit->Env->Prop) (Q:Exit->Act->World->Prop) (env:Env) lev own S w (a:Act),Inv w0 l0 G S0 w lev own S env (lM a.tmps)->a.tmps.size=n->a.defers=[] ->
  (∀ x,Cont n w0 l0 G S0 (u x) (Q x))->mF P n np c u env->c.wp P Q a w:=by
 intro c;induction c with
 | skip=>intro u Q env lev own S w a h p o j b;exact wp_skip (j .normal _ _ _ _ _ a p o h b)
 | region id ops J =>
  intro u Q env lev own S w a h p o j b;unfold mF at b;cases J with
  | false =>
   simp only [Bool.false_eq_true,if_false] at b;refine wp_region ?_;have:=Et (P:=P) (ops:=ops) (Q:=Q) (j .normal) ops.toList 0 rfl env lev own S w a h p o b;rw [<- range_eq_range'] at this;simpa using this
  | true =>
   simp only [if_true] at b;refine wp_region_any hm ?_;have W:(range ops.size).filter (fun i=>!(Array.replicate ops.size false).getD i true)=range ops.size:=by
    rw [filter_eq_self];intro i C;have:=mem_range.1 C;simp [Array.getD_eq_getD_getElem?,Array.getElem?_replicate,this]
   refine adG (np:=np) b.1 (j .normal) ops.size _ env lev own S _ a (by simp) (by intro k y _ O;simp [Array.getD_eq_getD_getElem?,Array.getElem?_replicate] at O;split at O<;>simp at O) (by rw [W];simp) h.drew p o ?_;rw [W];have:=Es ops.toList 0 env (u .normal) rfl b.2;rw [<- range_eq_range'] at this;simpa using this
 | seq x y ihx ihy =>
  intro u Q env lev own S w a h p o j b;refine wp_seq (ihx _ _ env lev own S w a h p o ?_ b);intro e;cases e<;>try exact j _
  intro H lev' own' S' w' E r q C v;simp only [uQ] at v;split at v
  ·rcases v with v | ⟨ts,os,z,v⟩
   ·exact ihy _ _ H lev' own' S' w' E C r q j v
   ·obtain ⟨rh,z⟩:=z.le;obtain ⟨B,M,hi2⟩:=C.le z;exact ihy _ _ _ lev' B M w' E hi2 r q j v
  ·exact ihy _ _ H lev' own' S' w' E C r q j v
 | cond c x y ihx ihy =>
  intro u Q env lev own S w a h p o j b;unfold mF at b;have K:=h.uS a rfl c;cases hx:rd env c<;>rw [hx] at b K<;>try exact b.elim
  rename_i t;refine wp_cond_split K.kF ?_ ?_
  ·intro U;exact ihx _ _ env lev own S w a h p o j (b.1 U)
  ·intro U;exact ihy _ _ env lev own S w a h p o j (b.2 U)
 | block id x ih =>
  intro u Q env lev own S w a h p o j b;refine wp_block (ih _ _ env lev own S w a h p o ?_ b);intro e;cases e<;>try exact j _
  rename_i V;intro H lev' own' S' w' E r q C v;simp only [Exit.inBlock,qp] at v |-;split
  ·rename_i F;rw [aq F] at v;exact j .normal H lev' own' S' w' E r q C v
  ·rename_i F;rw [ak F] at v;exact j (.exit V) H lev' own' S' w' E r q C v
 | loop x ih =>
  intro u Q env lev own S w a h p o j b;obtain ⟨T,ts,os,I,m,s0,hI,z,D⟩:=b;obtain ⟨rh,z⟩:=z.le;obtain ⟨L,X,Y⟩:=h.le z;refine aah (fun s a w=>I s/\a.tmps.size=n/\a.defers=[]/\∃ lev own S,Inv w0 l0 G S0 w lev own S (tL (ts s) (os s)) (lM a.tmps)) m s0 ⟨hI,p,o,lev,L,X,Y⟩ ?_;rintro s a w ⟨hs,p,o,lev,own,S,C⟩;refine ih _ _ _ lev own S w a C p o ?_ (D s hs);intro e;cases e<;>try exact j _
  intro H lev' own' S' w' E r q N v;obtain ⟨s',hs',A,R⟩:=v;obtain ⟨rh',A⟩:=A.le;obtain ⟨B,M,Z⟩:=N.le A;exact ⟨s',⟨hs',r,q,lev',B,M,Z⟩,R⟩
 | exit id=>intro u Q env lev own S w a h p o j b;exact wp_exit (j (.exit id) _ _ _ _ _ a p o h b)
 | ret=>intro u Q env lev own S w a h p o j b;exact wp_ret (j .ret _ _ _ _ _ a p o h b)
 | rangeFunc f ps x y ih1 ih2=>intro u Q env lev own S w a h p o j b;exact b.elim
 | scope x ih=>intro u Q env lev own S w a h p o j b;exact b.elim
 | label l=>intro u Q env lev own S w a h p o j b;exact b.elim
 | goto l=>intro u Q env lev own S w a h p o j b;exact b.elim
 | refuse s=>intro u Q env lev own S w a h p o j b;exact b.elim
def Xn:Nat->List D->EL
 | _,[]=>[]
 | k,d :: ds=>(k,d) :: Xn (k+1) ds
def wK:Nat->List D->EL
 | _,[]=>[]
 | k,d :: ds=>if eG d then wK (k+1) ds else (k,d) :: wK (k+1) ds
theorem T0:∀ (ds:List D) (k i:Nat),look (Xn k ds) i=if k<=i then ds.getD (i-k) .undef else .undef
 | [],k,i=>by simp [Xn,look]
 | d :: ds,k,i=>by
  simp only [Xn,look];rw [T0 ds (k+1) i];by_cases h:i=k
  ·subst h;simp
  ·by_cases a:k<=i
   ·have b:i-k=(i-(k+1))+1:=by omega
    rw [ak h,aq (by omega),aq a,b];simp
   ·rw [ak h,ak (by omega),ak a]
theorem rW:∀ (ds:List D) (k i:Nat),look (wK k ds) i=if k<=i then ds.getD (i-k) .undef else .undef
 | [],k,i=>by simp [wK,look]
 | d :: ds,k,i=>by
  simp only [wK];have j:=rW ds (k+1) i;by_cases e:eG d=true
  ·rw [aq e,j];have:=xJ.1 e;subst this;by_cases h:i=k
   ·subst h;rw [ak (by omega)];simp
   ·by_cases a:k<=i
    ·have b:i-k=(i-(k+1))+1:=by omega
     rw [aq (by omega),aq a,b];simp
    ·rw [ak (by omega),ak a]
  ·rw [ak e];simp only [look];rw [j];by_cases h:i=k
   ·subst h;simp
   ·by_cases a:k<=i
    ·have b:i-k=(i-(k+1))+1:=by omega
     rw [ak h,aq (by omega),aq a,b];simp
    ·rw [ak h,ak (by omega),ak a]
def Ls (P:Program) (e:Env):ResultVar->D
 | .tmp t=>e.t t
 | .cell a t=>match gC P t with
  | some l=>ldV e l (e.t a)
  | none=>.undef
def Lr (P:Program) (e:Env):ResultVar->Prop
 | .tmp _=>True
 | .cell a t=>match gC P t with
  | some l=>P7 e l (e.t a)
  | none=>False
def MZ (P:Program) (e:Env) (rs:List ResultVar):D:=
 match rs with
 | [r]=>Ls P e r
 | rs=>.bT (rs.map (Ls P e))
def BP (P:Program) (e:Env):List ResultVar->Prop
 | []=>True
 | r :: rs=>Lr P e r/\BP P e rs
def BQ (v:D) (e:Env):Env:=⟨fun j=>if j=0 then v else .undef,e.o⟩
def Uk (P:Program) (rs:List ResultVar) (m:Nat) (hs':List D) (d:D) (e:Env):Prop:=BP P e rs/\Norm (MZ P e rs) fun v=>LeM m (BQ v e) [(0,d)] (wK 0 hs')
def VD (P:Program) (rs:List ResultVar) (m:Nat) (hs':List D) (d:D):Exit->Env->Prop
 | .normal,e=>Uk P rs m hs' d e
 | .ret,e=>Uk P rs m hs' d e
 | _,_=>False
theorem afv {tmps:Array Value} (h:Inv w0 l0 G S0 w lev own S env (lM tmps)) (r:ResultVar) (hr:Lr P env r) :
  ∃ v,(match r with | .tmp t=>pure (tmps.getD t Go.undef) | .cell a t=>do loadVar t (<- asAddr (tmps.getD a Go.undef)):Sem Value).run P w=.ok v w/\aK (cx w lev S) v (Ls P env r):=by
 cases r with
 | tmp t=>exact ⟨tmps.getD t Go.undef,rfl,h.oC t⟩
 | cell a t =>
  simp only [Lr] at hr;cases m:gC P t with
  | none=>rw [m] at hr;exact hr.elim
  | some l =>
   rw [m] at hr;simp only at hr;obtain ⟨u,b,p⟩:=abT (P:=P) h m (h.oC a) hr;have j:∃ i,lM tmps a=.pointer (some i):=by
    have k:=h.oC a;generalize lM tmps a=v at k;cases q:env.t a<;>rw [q] at hr k<;>simp only [P7] at hr
    ·obtain ⟨i,e,_⟩:=k.oJ;exact ⟨i,e⟩
    ·obtain ⟨i,_,e⟩:=k.jJ;exact ⟨_,e⟩
    ·obtain ⟨i,_,_,_,e⟩:=k.lH;exact ⟨_,e⟩
   obtain ⟨i,e⟩:=j;refine ⟨u,?_,by simp only [Ls,m];exact p⟩;have o:tmps.getD a Go.undef=.pointer (some i):=e;rw [e] at b;simp only [o];simpa [Instr.loadAt,Sem.run_bind,asAddr,Instr.sureAddr,Sem.run,pure] using b
def Ul (P:Program) (rs:List ResultVar) (m:Nat) (Φ:List D->D->Prop) (e:Env):Prop:=∃ hs' d,Φ hs' d/\Uk P rs m hs' d e
def apz (P:Program) (rs:List ResultVar) (m:Nat) (Φ:List D->D->Prop):Exit->Env->Prop
 | .normal,e=>Ul P rs m Φ e
 | .ret,e=>Ul P rs m Φ e
 | _,_=>False
theorem Zk {m:Nat}:∀ (x:Exit) (e:Env),VD P rs m hs' d x e->apz P rs m (fun a b=>a=hs'/\b=d) x e
 | .normal,_,h=>⟨hs',d,⟨rfl,rfl⟩,h⟩
 | .ret,_,h=>⟨hs',d,⟨rfl,rfl⟩,h⟩
 | .exit _,_,h=>h
 | .goto _,_,h=>h
 | .panic _,_,h=>h
 | .outgrown,_,h=>h
theorem Cc.of_wp (hm : P.follows .mixedOrders = true) (hf : P.funcs[f]? = some fn) (hb : fn.body = some c) (hname : (fn.name == "runtime.NumGoroutine") = false) (hQ : ∀ x e, g x e -> apz P fn.results.toList hs.length Φ x e)
  (hlen:ds.length<=fn.ntmps) (h16:hs.length<=16) (hw:mF P fn.ntmps ds.length c g (tL (Xn 0 ds) (wK 0 hs))):Cc P f hs ds Φ:=by
 refine ⟨⟨fn,hf,by rw [hb];rfl,hname⟩,?_⟩;intro w l0 G0 own0 S0 vs hT hl0 hG hsz hr hobj
 let tmps:=vs++Array.replicate (fn.ntmps-vs.size) Go.undef
 have htm:∀ i,lM tmps i=vs.getD i Go.undef:=by
  intro i;simp only [lM,tmps,Array.getD_eq_getD_getElem?,Array.getElem?_append];by_cases h:i < vs.size
  ·simp [h]
  ·simp [h,Array.getElem?_replicate];split<;>rfl
 have hinv:Inv w l0 G0 S0 w l0 own0 S0 (tL (Xn 0 ds) (wK 0 hs)) (lM tmps):=by
  refine ⟨⟨rfl,hT⟩,rfl,rfl,dU _,fun _ _ _=>rfl,hG,hl0,fun _ _ _=>rfl,fun _ _ _=>rfl,?_,?_⟩
  ·intro s;show aK _ _ (look (Xn 0 ds) s);rw [T0,htm];simp only [Nat.zero_le,if_true,Nat.sub_zero];by_cases h:s < ds.length
   ·have e:ds.getD s .undef=ds[s]:=by simp [getD,h]
    have e2:vs.getD s Go.undef=vs[s]:=by simp [Array.getD,show s < vs.size by omega]
    rw [e,e2];exact hr s _ _ (by simp [show s < vs.size by omega]) (fO h)
   ·have e:ds.getD s .undef=.undef:=by simp [getD,h]
    rw [e];exact .undef _
  ·intro r;show lQ _ _ _ _ _ _ r (look (wK 0 hs) r);rw [rW];simp only [Nat.zero_le,if_true,Nat.sub_zero];exact hobj r
 have htmn:tmps.size=fn.ntmps:=by simp [tmps];omega
 refine calls_of_wp hf hb ?_;refine aae hm c g _ _ l0 own0 S0 w ⟨tmps,[]⟩ hinv htmn rfl ?_ hw;have fin:∀ (e':Env) lev' own' S' w' (a':Act),a'.tmps.size=fn.ntmps->a'.defers=[]->Inv w l0 G0 S0 w' lev' own' S' e' (lM a'.tmps)->Ul P fn.results.toList hs.length Φ e' ->
   a'.defers=[]/\∃ v,(results fn a'.tmps).run P w'=.ok v w'/\∃ v' hs' d,Φ hs' d/\Ending.returned v=.returned v'/\Out hs.length hs' w l0 G0 S0 w' v' d:=by
  intro e' lev' own' S' w' a' hn' hd' hi ⟨hs',d,hΦ,hok,hle⟩;refine ⟨hd',?_⟩;have hres:∀ (rs:List ResultVar),BP P e' rs->∀ acc:Array Value,∃ us:List Value,
    (rs.foldlM (fun (acc:Array Value) r=>do pure (acc.push (<- (match r with | .tmp t=>pure (a'.tmps.getD t Go.undef) | .cell a t=>do loadVar t (<- asAddr (a'.tmps.getD a Go.undef)):Sem Value)))) acc:Sem (Array Value)).run P w'=.ok (acc++us.toArray) w' /\
    us.length=rs.length/\∀ (i:Nat) u r,us[i]?=some u->rs[i]?=some r->aK (cx w' lev' S') u (Ls P e' r):=by
   intro rs;induction rs with
   | nil=>intro _ acc;exact ⟨[],by simp [Sem.run,pure],rfl,by intro i u r h;simp at h⟩
   | cons r rs ih =>
    intro hok acc;obtain ⟨v,hv,hrep⟩:=afv hi r hok.1;obtain ⟨us,h1,h2,h3⟩:=ih hok.2 (acc.push v);refine ⟨v :: us,?_,by simp [h2],?_⟩
    ·rw [foldlM_cons];simp only [Sem.run_bind,hv,Result.andThen_ok];have:(pure (acc.push v):Sem (Array Value)).run P w'=.ok (acc.push v) w':=rfl;rw [this];simp only [Result.andThen_ok];rw [h1];simp
    ·intro i u r' hu hr';cases i with
     | zero=>simp at hu hr';subst hu;subst hr';exact hrep
     | succ i=>simp at hu hr';exact h3 i u r' hu hr'
  obtain ⟨us,hrun,hul,hrep⟩:=hres fn.results.toList hok #[];have hrun':(results fn a'.tmps).run P w'=.ok (if h:us.toArray.size=1 then us.toArray[0] else .tuple us.toArray) w':=by
   unfold results;rw [Array.mapM_eq_foldlM];rw [<- Array.foldlM_toList];simp only [Sem.run_bind];have:(fn.results.toList.foldlM (fun (acc:Array Value) r=>do pure (acc.push (<- (match r with | .tmp t=>pure (a'.tmps.getD t Go.undef) | .cell a t=>do loadVar t (<- asAddr (a'.tmps.getD a Go.undef)):Sem Value)))) #[]:Sem (Array Value)).run P w'=.ok (#[]++us.toArray) w':=hrun;simp only [Array.empty_append] at this;have h2:=this;simp only [bind_pure_comp] at h2 |-;exact congrArg (fun r=>Result.andThen r fun (a:Array Value) w'=>Sem.run P (pure (if h:a.size=1 then a[0] else Value.tuple a)) w') h2
  refine ⟨_,hrun',_,hs',d,hΦ,rfl,?_⟩;have hrd:aK (cx w' lev' S') (if h:us.toArray.size=1 then us.toArray[0] else .tuple us.toArray) (MZ P e' fn.results.toList):=by
   rcases Classical.em (∃ r,fn.results.toList=[r]) with ⟨r,hrs⟩ | hne
   ·rw [hrs] at hul hrep |-;obtain ⟨u,rfl⟩:=length_eq_one_iff.1 hul;simpa [MZ] using hrep 0 u r rfl rfl
   ·have hrd:MZ P e' fn.results.toList=.bT (fn.results.toList.map (Ls P e')):=by
     unfold MZ;split
     ·rename_i r hrs;exact (hne ⟨r,hrs⟩).elim
     ·rfl
    rw [hrd];have hsz:us.toArray.size≠1:=by
     intro h;have h1:fn.results.toList.length=1:=by rw [<- hul];simpa using h
     match hx:fn.results.toList,h1 with
     | [r],_=>exact hne ⟨r,hx⟩
    rw [dif_neg hsz];refine .bT _ _ (by simp [hul]) ?_;intro i v x hv hx;simp only [getElem?_map] at hx;cases hri:fn.results.toList[i]? with
    | none=>rw [hri] at hx;cases hx
    | some r =>
     rw [hri] at hx;cases hx;exact hrep i v r (by simpa using hv) hri
  generalize (if h:us.toArray.size=1 then us.toArray[0] else .tuple us.toArray)=rv at hrd;have hret:Inv w l0 G0 S0 w' lev' own' S' (BQ (MZ P e' fn.results.toList) e') (fun j=>if j=0 then rv else Go.undef):=by
   refine ⟨hi.os,hi.tape,hi.output,hi.size,hi.old,hi.part,hi.priv,hi.jZ,hi.UL,?_,hi.objs⟩;intro s;simp only [BQ];split
   ·exact hrd
   ·exact .undef _
  obtain ⟨rh,hle'⟩:=LeM.le hle;obtain ⟨own2,S2,h2ent,h2temps,h2objs⟩:=hret.aoM h16 hle';refine ⟨hi.os.1,hi.tape,hi.output,hi.size,fun b hb hg=>hi.old b hb hg,hi.part,lev',own2,S2,hi.priv,fun b hb hg=>hi.jZ b hb hg,?_,?_,?_⟩
  ·have:=h2temps 0;simpa [tL,look] using this
  ·intro r;have:=h2objs r;have e:(tL [(0,d)] (wK 0 hs')).o r=hs'.getD r .undef:=by
    show look (wK 0 hs') r=_;rw [rW];simp
   rw [e] at this;exact this
  ·intro i hi' hne;refine h2ent i (by omega) ?_;show look (wK 0 hs') i≠.undef;rw [rW];simpa using hne
 intro x;cases x with
 | normal=>intro e' lev' own' S' w' a' hn' hd' hi hK;exact fin e' lev' own' S' w' a' hn' hd' hi (hQ _ _ hK)
 | ret=>intro e' lev' own' S' w' a' hn' hd' hi hK;exact fin e' lev' own' S' w' a' hn' hd' hi (hQ _ _ hK)
 | _=>intro e' lev' own' S' w' a' hn' hd' hi hK;exact (hQ _ _ hK).elim
theorem Cc.spec (h:Cc P f hs ds fun a b=>a=hs'/\b=d):Spec P f hs ds hs' d:=by
 refine ⟨h.1,?_⟩;intro w l0 j i S0 vs k l m o p q;refine (h.2 w l0 j i S0 vs k l m o p q).mono ?_;rintro e w' ⟨v,_,_,⟨rfl,rfl⟩,he,ho⟩;exact ⟨v,he,ho⟩
theorem Spec.toE (h:Spec P f hs ds hs' d) (p:Φ hs' d):Cc P f hs ds Φ:=by
 refine ⟨h.1,?_⟩;intro w l0 b a S0 vs i j k l m o;refine (h.2 w l0 b a S0 vs i j k l m o).mono ?_;rintro e w' ⟨v,he,ho⟩;exact ⟨v,hs',d,p,he,ho⟩
theorem Spec.of_wp (hm : P.follows .mixedOrders = true) {f : FuncId} {fn : Func} {c : Code} (hf : P.funcs[f]? = some fn) (hb : fn.body = some c) (hname : (fn.name == "runtime.NumGoroutine") = false) {hs ds hs' : List D} {d : D}
  (hlen:ds.length<=fn.ntmps) (h16:hs.length<=16) (hw:mF P fn.ntmps ds.length c (VD P fn.results.toList hs.length hs' d) (tL (Xn 0 ds) (wK 0 hs))):Spec P f hs ds hs' d:=
 Cc.spec (Cc.of_wp hm hf hb hname Zk hlen h16 hw)
theorem Spec.apC (hm : P.follows .mixedOrders = true) {n np : Nat} (hf : P.funcs[f]? = some fn) (hb : fn.body = some c) (hr : fn.results.toList = rs) (hn : fn.ntmps = n) (hname : (fn.name == "runtime.NumGoroutine") = false)
  (hnp:ds.length=np) (hlen:np<=n) (h16:hs.length<=16) (hw:mF P n np c (VD P rs hs.length hs' d) (tL (Xn 0 ds) (wK 0 hs))):Abs.Spec P f hs ds hs' d:=by
 subst hr;subst hn;subst hnp;exact Spec.of_wp hm hf hb hname hlen h16 hw
theorem bf (n np:Nat) (rs:List ResultVar) (hm:P.follows .mixedOrders=true) (hf:P.funcs[f]?=some fn) (hw:mF P n np c (VD P rs hs.length hs' d) (tL (Xn 0 ds) (wK 0 hs)))
  (hb : fn.body = some c := by exact rfl) (hr : fn.results.toList = rs := by exact rfl) (hn : fn.ntmps = n := by exact rfl) (hname : (fn.name == "runtime.NumGoroutine") = false := by exact rfl) (hnp : ds.length = np := by exact rfl) (hlen : np <= n := by simp) (h16 : hs.length <= 16 := by simp) : Abs.Spec P f hs ds hs' d :=
 Spec.apC hm hf hb hr hn hname hnp hlen h16 hw
end
end Go.Abs
namespace Go.Abs
variable {K:Env->Prop} {T:Type} {Q a:Exit->Env->Prop} {b:Nat}
section
variable {P:Program} {n np:Nat} {e:Env} {K K':Env->Prop}
theorem HA (ops:List Oper):∀ (l:List Oper) {e:Env} {K K':Env->Prop},(∀ e,K e->K' e)->wpList P n ops l e K->wpList P n ops l e K'
 | [],e,K,K',h,hk=>h _ hk
 | o :: r,e,K,K',h,hk=>by
  simp only [wpList,wpOp] at hk |-;cases c:rI ops e o.guard with
  | none=>rw [c] at hk;exact hk.elim
  | some g=>rw [c] at hk;exact rU (fun e d=>HA ops r h d) hk
theorem jI (ops:List Oper):∀ (l:List Oper) {e:Env} {K K':Env->Prop},(∀ e,K e->K' e)->n6 P n np ops l e K->n6 P n np ops l e K'
 | [],e,K,K',h,hk=>h _ hk
 | o :: r,e,K,K',h,hk=>by
  simp only [n6,fy] at hk |-;cases k:rI ops e o.guard with
  | none=>rw [k] at hk;exact hk.elim
  | some g =>
   rw [k] at hk;simp only at hk |-;split at hk
   ·rename_i j;rw [aq j];exact LN (fun e c=>jI ops r h c) hk
   rename_i j;rw [ak j];split at hk
   ·rename_i i;rw [aq i];split at hk
    ·rename_i f;rw [aq f];split at hk
     ·rename_i d;rw [aq d];exact rU (fun e c=>jI ops r h c) hk
     ·rename_i d;rw [ak d];exact ⟨EA (fun e c=>jI ops r h c) hk.1,hk.2⟩
    ·rename_i f;rw [ak f];split at hk
     ·rename_i d;rw [aq d];exact OJ (fun e c=>jI ops r h c) hk
     ·rename_i d;rw [ak d];exact rU (fun e c=>jI ops r h c) hk
   ·rename_i i;rw [ak i];exact ⟨⟨hk.1.1,rU (fun e c=>jI ops r h c) hk.1.2⟩,hk.2⟩
theorem Um (h:∀ e,K e->K' e) (c:dW K e):dW K' e:=by
 rcases c with c | ⟨ts,os,hl,c⟩
 ·exact .inl (h _ c)
 ·exact .inr ⟨ts,os,hl,h _ c⟩
theorem adH:∀ (c:Code) {e:Env} {Q i:Exit->Env->Prop},(∀ x e,Q x e->i x e)->mF P n np c Q e->mF P n np c i e:=by
 intro c;induction c with
 | skip=>intro e Q i h d;exact h _ _ d
 | region id ops k =>
  intro e Q i h d;unfold mF at d |-;cases k with
  | false=>simp only [Bool.false_eq_true,if_false] at d |-;exact HA _ _ (h _) d
  | true=>simp only [if_true] at d |-;exact ⟨d.1,jI _ _ (h _) d.2⟩
 | seq a b iha ihb =>
  intro e Q i h d;refine iha ?_ d;intro x e g;cases x<;>try exact h _ _ g
  simp only [uQ] at g |-
  by_cases o:P2 a=true
  ·rw [aq o] at g |-;exact Um (fun e u=>ihb h u) g
  ·rw [ak o] at g |-;exact ihb h g
 | cond c a b iha ihb =>
  intro e Q i h d;unfold mF at d |-;split at d
  ·exact ⟨fun t=>iha h (d.1 t),fun t=>ihb h (d.2 t)⟩
  ·exact d.elim
 | block id a ih =>
  intro e Q i h d;refine ih ?_ d;intro x e g;cases x<;>try exact h _ _ g
  simp only [qp] at g |-;split
  ·rename_i j;rw [aq j] at g;exact h _ _ g
  ·rename_i j;rw [ak j] at g;exact h _ _ g
 | loop a ih =>
  intro e Q i h d;obtain ⟨T,ts,os,I,m,s0,p,q,r⟩:=d;refine ⟨T,ts,os,I,m,s0,p,q,fun s v=>ih ?_ (r s v)⟩;intro x e g;cases x<;>first | exact g | exact h _ _ g
 | exit id=>intro e Q i h d;exact h _ _ d
 | ret=>intro e Q i h d;exact h _ _ d
 | rangeFunc f ps x y ih1 ih2=>intro e Q i h d;exact d.elim
 | scope x ih=>intro e Q i h d;exact d.elim
 | label l=>intro e Q i h d;exact d.elim
 | goto l=>intro e Q i h d;exact d.elim
 | refuse s=>intro e Q i h d;exact d.elim
def Rd {T:Type} (ts os:T->EL) (I:T->Prop) (e:Env):Prop:=∃ s,I s/\Me e (ts s) (os s)
theorem Rd.weak {ts os:T->EL} {I:T->Prop} (h:∀ s,I s->K (tL (ts s) (os s))) (e:Env) (c:Rd ts os I e):dW K e:=by
 obtain ⟨s,f,d⟩:=c;exact .inr ⟨ts s,os s,d,h s f⟩
theorem aM.mono {b:Code} (h:∀ x e,Q x e->a x e) (i:aM (mF P n np b) Q e):aM (mF P n np b) a e:=by
 obtain ⟨T,ts,os,I,m,s0,d,f,g⟩:=i;refine ⟨T,ts,os,I,m,s0,d,f,fun s j=>adH b ?_ (g s j)⟩;intro x e c;cases x<;>first | exact c | exact h _ _ c
theorem aeu {c:Code} (ts os:T->EL) (I:T->Prop) (rest:∀ s,I s->K (tL (ts s) (os s))) (i:aM (mF P n np c) (qp b (uQ (Rd ts os I) Q)) e):aM (mF P n np c) (qp b (uQ (dW K) Q)) e:=by
 refine aM.mono ?_ i;intro x e f;have g:uQ (Rd ts os I) Q .normal e->uQ (dW K) Q .normal e:=fun h=>Rd.weak rest e h;cases x<;>try exact f
 ·exact g f
 ·simp only [qp] at f |-;split
  ·rename_i d;rw [aq d] at f;exact g f
  ·rename_i d;rw [ak d] at f;exact f
end
end Go.Abs
namespace Go.Abs
variable (b w p a:Bool) {α:Type} (n r z i k f N d m z' sz off by_ z2 b2 r' q:Nat) {v' x' y' a' lo' ob' fv' fv:D} {np G:Nat} {b' g j:Bool} {A:Prop} (S:Prop) (o:Oper) (ops:List Oper) (op:Op) (dst:Option Tmp) (gu:Option (Nat × Bool)) (s:ByteArray) (cs hs' ds zc:List D) (rows rows2:List (List D)) (x y c:Operand) (t T2:TypeId) (h:UnOp) (C:BinOp) {F:Option Nat} (T:Array TypeId) (Q:Exit->Env->Prop) (os:Array Oper) {e e':Env} {H:Code} (K:Env->Prop) (rs:List ResultVar) (Φ:List D->D->Prop) {I:Option Bool} {J:Option Tmp} {L U:List Nat} (args:Array Operand) (ob:D) (fs:List FT) {t' Z t2':Ty} {l':Option HC} (l:HC) {hi' hi:Option D} (M:Array (Nat × Operand)) (ps:List (Nat × D)) {O:Option (List D)} {as as':List D} {R:List (Nat × Nat × D)} (W:IntKind) {X Y:Option (List (List D))} (g9:Ty) (i7:Option Operand)
section
variable {P:Program} {n np:Nat} {ops:List Oper} {e:Env} {g dr:Bool} {K:Env->Prop} {ty:TypeId} {pos:String} {after:Array Edge} {gu:Option (Nat × Bool)} {d:Nat}
def bm (b:Bool):Bool:=b
def em (e:Env):Env:=e
def dm (d:D):D:=d
def lm {α:Type} (l:List α):List α:=l
def nk (n:Nat):Nat:=n
@[go_sem] theorem auX:bm b=b:=Eq.trans rfl rfl
@[go_sem] theorem au3 (e:Env):em e=e:=Eq.trans rfl rfl
@[go_sem] theorem au2 (d:D):dm d=d:=Eq.trans rfl rfl
@[go_sem] theorem avz (l:List α):lm l=l:=Eq.trans rfl rfl
@[go_sem] theorem avF:nk n=n:=Eq.trans rfl rfl
@[congr] theorem ahT {v:D} {k:D->Prop} (h:True->v=v'):Norm v k=Norm v' k:=by rw [h trivial]
@[go_sem] theorem aqE (v:D) (k:D->Prop):Norm v k=k v:=rfl
def tY (r:Nat) (k:Nat->Prop):Prop:=k r
@[congr] theorem agj {v:Nat} {k:Nat->Prop} (h:True->v=np):tY v k=tY np k:=by rw [h trivial]
@[go_sem] theorem anB (v:Nat) (k:Nat->Prop):tY v k=k v:=rfl
def uK (e:Env) (d:Nat) (K:Env->Prop) (u:D):Prop:=K (bP e d u)
def lK (P:Program) (n:Nat) (ops r:List Oper) (K:Env->Prop) (e:Env):Prop:=wpList P n ops r e K
def lKD (P:Program) (n np:Nat) (ops r:List Oper) (K:Env->Prop) (e:Env):Prop:=n6 P n np ops r e K
def oK (P:Program) (n:Nat) (o:Oper) (e:Env) (K:Env->Prop) (g:Bool):Prop:=kn P n false o e g K
def HD (b:Bool) (x y:Prop):Prop:=if b then x else y
@[congr] theorem anv {b:Bool} {x:Prop} (h:True->b=b'):HD b x A=HD b' x A:=by rw [h trivial]
@[go_sem ↓] theorem aqC (x:Prop):HD true x S=x:=by simp [HD]
@[go_sem ↓] theorem anw (x:Prop):HD false x S=S:=by simp [HD]
attribute [go_sem] abv hard isApp sl1 apI Hw Ko qy Lf D1 D2 ajS nM isT ajm ah8 ag1 ac3 jR Option.isSome_some Option.isSome_none Option.isNone_some Option.isNone_none
@[go_sem] theorem apH (t:Nat):acZ t []=false:=rfl
@[go_sem] theorem amS (t:Nat) (r:List Oper):acZ t (o :: r)=((sl1 o.op&&o.dst==some t)||acZ t r):=rfl
@[go_sem] theorem ama (t:Nat):Sy t []=false:=rfl
@[go_sem] theorem ajn (t:Nat) (r:List Oper):Sy t (o :: r)=((ajm o.op&&(o.guard.isNone&&o.dst==some t))||Sy t r):=rfl
@[go_sem] theorem akU (t:Nat):Rj t []=false:=rfl
@[go_sem] theorem ah9 (t:Nat) (r:List Oper):Rj t (o :: r)=(ah8 t o.op||Rj t r):=rfl
@[go_sem] theorem apQ (a b:Nat):(some a==some b)=(a==b):=rfl
@[go_sem] theorem aoV (b:Nat):((none:Option Nat)==some b)=false:=rfl
attribute [go_sem] Sn aeP IG
@[go_sem] theorem ap4:adB ops []=false:=rfl
@[go_sem] theorem ana (r:List Oper):adB ops (o :: r)=((isApp o&&(!jR ops o&&frE r))||adB ops r):=rfl
@[go_sem] theorem aq2:frE []=false:=rfl
@[go_sem] theorem aob (r:List Oper):frE (⟨dst,op,ty,pos,#[],gu⟩ :: r)=true:=rfl
@[go_sem] theorem alq (r:List Oper) (x) (l):frE (⟨dst,op,ty,pos,List.toArray (x :: l),gu⟩ :: r)=frE r:=rfl
@[go_sem] theorem asn (k:IntKind) (m:Int):Ev (.int k m)=true:=rfl
@[go_sem] theorem apX:Ev (.bool b)=true:=rfl
@[go_sem] theorem asq:Ev (.str s)=true:=rfl
@[go_sem] theorem aso:Ev .nil=true:=rfl
@[go_sem] theorem asp:Ev (.ref r)=true:=rfl
@[go_sem] theorem apW (o:Nat):Ev (.addr r o)=true:=rfl
@[go_sem] theorem am8:Ev (.bX r z i k)=true:=rfl
@[go_sem] theorem am7:Ev (.bq cs)=true:=rfl
@[go_sem] theorem auq:Ev (.sl z rows)=true:=rfl
@[go_sem] theorem apS:Q1 (.box [])=true:=rfl
@[go_sem] theorem am4 (c:D):Q1 (.box (c :: cs))=(Ev c&&Q1 (.box cs)):=rfl
@[go_sem] theorem am5 (o:Nat):ZM e (.addr r o)=Q1 (e.o r):=rfl
@[go_sem] theorem apT:IB e []=true:=rfl
@[go_sem] theorem am6 (p:Nat × Operand) (r:List (Nat × Operand)):IB e (p :: r)=(Ev (rd e p.2)&&IB e r):=rfl
@[go_sem ↓] theorem aih:kG e (.move x)=(Ev (rd e x)=true):=rfl
@[go_sem ↓] theorem aak:kG e (.fieldAddr t x f)=(Ev (rd e x)=true):=rfl
@[go_sem ↓] theorem aif:kG e (.load t x)=(ZM e (rd e x)=true):=rfl
@[go_sem ↓] theorem aii:kG e (.unOp h t x)=(Ev (rd e x)=true):=rfl
@[go_sem ↓] theorem agt:kG e (.binOp C t x y T2)=(Ev (rd e x)=true/\Ev (rd e y)=true):=rfl
@[go_sem ↓] theorem XP (len:Nat) (ps:Array (Nat × Operand)):kG e (.buildSlice t len ps)=(IB e ps.toList=true):=rfl
def avK (e:Env) (v:D) (N:Nat):Prop:=K1 (e.o N)=true/\KY N v=true
@[go_sem ↓] theorem ate (v:D):avK e v N=(K1 (e.o N)=true/\KY N v=true):=rfl
def aaQ (e:Env) (v:D) (b:Bool) (d:Option Nat):Prop:=
 match b,d with
 | true,some d=>tY (nm d 0) (avK e v)
 | _,_=>True
@[go_sem ↓] theorem akS (v:D):aaQ e v true (some d)=tY (nm d 0) (avK e v):=rfl
@[go_sem ↓] theorem ah7 (v:D) (d:Option Nat):aaQ e v false d=True:=by cases d<;>rfl
@[congr] theorem ah6 {v:D} {b:Bool} {d:Option Nat} (u:True->v=v') (B:True->b=b') (E:True->d=F):aaQ e v b d=aaQ e v' b' F:=by rw [u trivial,B trivial,E trivial]
@[congr] theorem akT {v:D} {l:List Oper} (h:True->v=v'):Ut e v l=Ut e v' l:=by rw [h trivial]
@[go_sem] theorem aqL (v:D):Ut e v []=True:=rfl
@[go_sem] theorem anN (v:D) (l:List Oper):Ut e v (o :: l)=(aaQ e v (aeP o.op) o.dst/\Ut e v l):=by
 rw [Ut];congr 1
@[go_sem] theorem ajC:K1 .undef=true:=rfl
@[go_sem] theorem aoY:K1 (.own z rows)=true:=rfl
@[go_sem] theorem amp:KY N (.ref r) = !(r==N):=rfl
@[go_sem] theorem amo:KY N .emp=true:=rfl
@[go_sem ↓] theorem agF:Ih e (.call ⟨.builtin .append,#[x,y],T⟩)=rd e x:=rfl
def oKD (P:Program) (n np:Nat) (ops:List Oper) (o:Oper) (e:Env) (K:Env->Prop) (g:Bool):Prop:=HD (jR ops o) (oz P n np ops o e K) (HD (nM o) (HD (isApp o) (HD (Hw ops o.op) (kn P n false o e g K) (oE P n o e g K/\apU ops o e)) (HD (qy o) (Ak P n np ops o e g K) (kn P n false o e g K))) (Rc P n np ops o e g K/\GX ops o e))
@[go_sem ↓] theorem awm (u:D):uK e d K u=K (bP e d u):=rfl
@[go_sem ↓] theorem ava (r:List Oper):lK P n ops r K e=wpList P n ops r e K:=rfl
@[go_sem ↓] theorem atG (r:List Oper):lKD P n np ops r K e=n6 P n np ops r e K:=rfl
@[go_sem ↓] theorem avI:oK P n o e K g=kn P n false o e g K:=rfl
theorem aaP (o:Oper):(oE P n o e g K/\apU ops o e)=HD (IG ops) (Ut e (Ih e o.op) ops/\oE P n o e g K) (oE P n o e g K):=by
 unfold apU HD;cases IG ops<;>simp [and_comm]
@[go_sem ↓] theorem auc (p:Nat × Bool):oKD P n np ops ⟨dst,op,ty,pos,after,some p⟩ e K g=HD (jR ops ⟨dst,op,ty,pos,after,some p⟩) (oz P n np ops ⟨dst,op,ty,pos,after,some p⟩ e K) (HD (nM ⟨dst,op,ty,pos,after,some p⟩) (HD (isApp ⟨dst,op,ty,pos,after,some p⟩) (HD (Hw ops op) (kn P n false ⟨dst,op,ty,pos,after,some p⟩ e g K) (HD (IG ops) (Ut e (Ih e op) ops/\oE P n ⟨dst,op,ty,pos,after,some p⟩ e g K) (oE P n ⟨dst,op,ty,pos,after,some p⟩ e g K))) (HD (qy ⟨dst,op,ty,pos,after,some p⟩) (Ak P n np ops ⟨dst,op,ty,pos,after,some p⟩ e g K) (kn P n false ⟨dst,op,ty,pos,after,some p⟩ e g K))) (Rc P n np ops ⟨dst,op,ty,pos,after,some p⟩ e g K)):=by
 unfold oKD;rw [aaP];have:GX ops ⟨dst,op,ty,pos,after,some p⟩ e=True:=eq_true fun _ h=>by cases h
 rw [this,and_true]
def bF (P:Program) (n np:Nat) (a b:Code) (Q:Exit->Env->Prop) (e:Env) (v:D):Prop:=match v with
 | .bool t=>V8 t (mF P n np a Q e) (mF P n np b Q e)
 | _=>False
@[congr] theorem aga {a b:Code} {Q:Exit->Env->Prop} {v:D} (h:True->v=v'):bF P n np a b Q e v=bF P n np a b Q e v':=by rw [h trivial]
@[go_sem] theorem ahK (a b:Code):bF P n np a b Q e (.bool true)=mF P n np a Q e:=by simp [bF,V8]
@[go_sem] theorem agb (a b:Code):bF P n np a b Q e (.bool false)=mF P n np b Q e:=by simp [bF,V8]
theorem bF.split {t:Bool} {a b:Code} {Q:Exit->Env->Prop} (u:t=true->mF P n np a Q e) (v:t=false->mF P n np b Q e):bF P n np a b Q e (.bool t):=⟨u,v⟩
theorem bF.ig {t:Bool} {a b:Code} {Q:Exit->Env->Prop} (u:t=false->mF P n np a Q e) (v:t=true->mF P n np b Q e):bF P n np a b Q e (.bool (!t)):=⟨fun h=>u (by simpa using h),fun h=>v (by simpa using h)⟩
@[go_sem ↓] theorem aqi:mF P n np .skip Q e=Q .normal e:=rfl
@[go_sem ↓] theorem ahw:mF P n np (.region r os false) Q e=wpList P n os.toList os.toList e (Q .normal):=by simp [mF]
def eZ (np:Nat) (os:Array Oper):Prop:=agc np os
@[congr] theorem agd {m:Nat} {os:Array Oper} (h:True->m=np):eZ m os=eZ np os:=by rw [h trivial]
theorem eZ.mk {os:Array Oper} (h:AY np os=true):eZ np os:=h
@[go_sem ↓] theorem ahx:mF P n np (.region r os true) Q e=(eZ (nk np) os/\n6 P n np os.toList os.toList e (Q .normal)):=by simp [mF,eZ,nk]
def TE (P:Program) (n np:Nat) (b:Code) (Q:Exit->Env->Prop) (j:Bool):Env->Prop:=if j then dW (mF P n np b Q) else mF P n np b Q
@[go_sem ↓] theorem asw (a b:Code):mF P n np (.seq a b) Q e=mF P n np a (uQ (TE P n np b Q (P2 a)) Q) e:=rfl
def VI (P:Program) (n np:Nat) (b:Code) (Q:Exit->Env->Prop) (e:Env) (j:Bool):Prop:=TE P n np b Q j e
@[congr] theorem aj4 {b:Code} {Q:Exit->Env->Prop} (h:True->j=g):VI P n np b Q e j=VI P n np b Q e g:=by rw [h trivial]
@[go_sem ↓] theorem asc (b:Code) (j:Bool):TE P n np b Q j e=VI P n np b Q e j:=rfl
@[go_sem ↓] theorem ah1 (b:Code):VI P n np b Q e true=dW (mF P n np b Q) (em e):=by simp [VI,TE,em]
@[go_sem ↓] theorem ago (b:Code):VI P n np b Q e false=mF P n np b Q e:=by simp [VI,TE]
@[congr] theorem agn {K:Env->Prop} (h:True->e=e'):dW K e=dW K e':=by rw [h trivial]
theorem dW.id (h:K e):dW K e:=.inl h
theorem dW.le (ts os:EL) (h:Me e ts os) (u:K (tL ts os)):dW K e:=.inr ⟨ts,os,h,u⟩
attribute [go_sem] falls P2
@[congr] theorem ahL {T:Type} {ts os:T->EL} {I:T->Prop} (h:True->e=e'):Rd ts os I e=Rd ts os I e':=by rw [h trivial]
theorem RI {b c:Code} {Q:Exit->Env->Prop} {T:Type} (ts os:T->EL) (I:T->Prop) (u:j=true) (rest:∀ s,I s->mF P n np b Q (tL (ts s) (os s))) (v:aM (mF P n np c) (qp G (uQ (Rd ts os I) Q)) e) :
  aM (mF P n np c) (qp G (uQ (TE P n np b Q j) Q)) e:=by
 have:TE P n np b Q j=dW (mF P n np b Q):=by simp [TE,u]
 rw [this];exact aeu ts os I rest v
@[go_sem ↓] theorem aqf (a b:Code):mF P n np (.cond c a b) Q e=bF P n np a b Q e (dm (rd e c)):=rfl
@[go_sem ↓] theorem ang (a:Code):mF P n np (.block r a) Q e=mF P n np a (qp r Q) e:=rfl
@[go_sem ↓] theorem aqh (a:Code):mF P n np (.loop a) Q e=aM (mF P n np a) Q (em e):=rfl
@[congr] theorem agi {b:(Exit->Env->Prop)->Env->Prop} {Q:Exit->Env->Prop} (h:True->e=e'):aM b Q e=aM b Q e':=by rw [h trivial]
@[go_sem ↓] theorem aqg:mF P n np (.exit r) Q e=Q (.exit r) e:=rfl
@[go_sem ↓] theorem asv:mF P n np .ret Q e=Q .ret e:=rfl
@[go_sem ↓] theorem afR:uQ K Q .normal e=K e:=rfl
@[go_sem ↓] theorem akf:uQ K Q (.exit r) e=Q (.exit r) e:=rfl
@[go_sem ↓] theorem am9:uQ K Q .ret e=Q .ret e:=rfl
@[go_sem ↓] theorem adJ:qp r Q .normal e=Q .normal e:=rfl
@[go_sem ↓] theorem ags:qp r Q (.exit z) e=if z=r then Q .normal e else Q (.exit z) e:=rfl
@[go_sem ↓] theorem aid:qp r Q .ret e=Q .ret e:=rfl
@[go_sem ↓] theorem ahl (v:D):VD P rs m hs' v .normal e=Uk P rs m hs' v e:=rfl
@[go_sem ↓] theorem apw (v:D):VD P rs m hs' v .ret e=Uk P rs m hs' v e:=rfl
@[go_sem ↓] theorem ahm {T:Type} (ts os:T->EL) (I:T->Prop) (m:T->Nat) (s:T):kV ts os I m s Q (.exit r) e=Q (.exit r) e:=rfl
@[go_sem ↓] theorem aj3 {T:Type} (ts os:T->EL) (I:T->Prop) (m:T->Nat) (s:T):kV ts os I m s Q .ret e=Q .ret e:=rfl
@[go_sem ↓] theorem ad1 {T:Type} (ts os:T->EL) (I:T->Prop) (m:T->Nat) (s:T):kV ts os I m s Q .normal e=av ts os I m s (em e):=rfl
@[congr] theorem ahV {rs:List ResultVar} {m:Nat} {Φ:List D->D->Prop} (h:True->e=e'):Ul P rs m Φ e=Ul P rs m Φ e':=by rw [h trivial]
theorem Ul.mk {rs:List ResultVar} {m:Nat} {Φ:List D->D->Prop} (hs':List D) (d:D) (u:Φ hs' d) (h:Uk P rs m hs' d e):Ul P rs m Φ e:=⟨hs',d,u,h⟩
@[congr] theorem aeb {T:Type} {ts os:T->EL} {I:T->Prop} {m:T->Nat} {s:T} (h:True->e=e'):av ts os I m s e=av ts os I m s e':=by rw [h trivial]
@[go_sem ↓] theorem wpList_nil:wpList P n ops [] e K=K e:=rfl
@[go_sem ↓] theorem ahz (r:List Oper):wpList P n ops (o :: r) e K=wpOp P n ops o e (lK P n ops r K):=rfl
@[go_sem ↓] theorem ahy:n6 P n np ops [] e K=K e:=rfl
@[go_sem ↓] theorem af2 (r:List Oper):n6 P n np ops (o :: r) e K=fy P n np ops o e (lKD P n np ops r K):=rfl
@[go_sem ↓] theorem akg (l:List α):l.toArray.toList=l:=rfl
def bR (o:Option Bool) (k:Bool->Prop):Prop:=match o with
 | some g=>k g
 | none=>False
@[congr] theorem ad7 {o:Option Bool} {k:Bool->Prop} (h:True->o=I):bR o k=bR I k:=by rw [h trivial]
@[go_sem] theorem agf (k:Bool->Prop):bR (some true) k=k true:=rfl
@[go_sem] theorem ad8 (k:Bool->Prop):bR (some false) k=k false:=rfl
theorem bR.split {k:Bool->Prop} (u:g=true->k true) (v:g=false->k false):bR (some g) k:=by
 cases g with
 | true=>exact u rfl
 | false=>exact v rfl
theorem bR.ig {b:Bool} {k:Bool->Prop} (u:b=false->k true) (v:b=true->k false):bR (some (!b)) k:=by
 cases b with
 | true=>exact v rfl
 | false=>exact u rfl
@[go_sem ↓] theorem anh:wpOp P n ops ⟨dst,op,ty,pos,after,none⟩ e K=kn P n false ⟨dst,op,ty,pos,after,none⟩ e true K:=rfl
@[go_sem ↓] theorem ani (p:Nat × Bool):wpOp P n ops ⟨dst,op,ty,pos,after,some p⟩ e K=bR (rI ops e (some p)) (oK P n ⟨dst,op,ty,pos,after,some p⟩ e K):=rfl
@[go_sem ↓] theorem akq:fy P n np ops ⟨dst,op,ty,pos,after,none⟩ e K=HD (jR ops ⟨dst,op,ty,pos,after,none⟩) (oz P n np ops ⟨dst,op,ty,pos,after,none⟩ e K) (HD (nM ⟨dst,op,ty,pos,after,none⟩) (HD (isApp ⟨dst,op,ty,pos,after,none⟩) (HD (Hw ops op) (kn P n false ⟨dst,op,ty,pos,after,none⟩ e true K) (HD (IG ops) (Ut e (Ih e op) ops/\oE P n ⟨dst,op,ty,pos,after,none⟩ e true K) (oE P n ⟨dst,op,ty,pos,after,none⟩ e true K))) (HD (qy ⟨dst,op,ty,pos,after,none⟩) (Ak P n np ops ⟨dst,op,ty,pos,after,none⟩ e true K) (kn P n false ⟨dst,op,ty,pos,after,none⟩ e true K))) (HD (Sn op) (HD (IG ops) (kG e op/\Rc P n np ops ⟨dst,op,ty,pos,after,none⟩ e true K) (Rc P n np ops ⟨dst,op,ty,pos,after,none⟩ e true K)) (Rc P n np ops ⟨dst,op,ty,pos,after,none⟩ e true K))):=by
 have u:fy P n np ops ⟨dst,op,ty,pos,after,none⟩ e K=HD (jR ops ⟨dst,op,ty,pos,after,none⟩) (oz P n np ops ⟨dst,op,ty,pos,after,none⟩ e K) (HD (nM ⟨dst,op,ty,pos,after,none⟩) (HD (isApp ⟨dst,op,ty,pos,after,none⟩) (HD (Hw ops op) (kn P n false ⟨dst,op,ty,pos,after,none⟩ e true K) (oE P n ⟨dst,op,ty,pos,after,none⟩ e true K/\apU ops ⟨dst,op,ty,pos,after,none⟩ e)) (HD (qy ⟨dst,op,ty,pos,after,none⟩) (Ak P n np ops ⟨dst,op,ty,pos,after,none⟩ e true K) (kn P n false ⟨dst,op,ty,pos,after,none⟩ e true K))) (Rc P n np ops ⟨dst,op,ty,pos,after,none⟩ e true K/\GX ops ⟨dst,op,ty,pos,after,none⟩ e)):=rfl;have v:(Rc P n np ops ⟨dst,op,ty,pos,after,none⟩ e true K/\GX ops ⟨dst,op,ty,pos,after,none⟩ e)=HD (Sn op) (HD (IG ops) (kG e op/\Rc P n np ops ⟨dst,op,ty,pos,after,none⟩ e true K) (Rc P n np ops ⟨dst,op,ty,pos,after,none⟩ e true K)) (Rc P n np ops ⟨dst,op,ty,pos,after,none⟩ e true K):=by
  unfold GX HD;cases B:Sn op
  ·have:kG e op=True:=by cases op<;>first | rfl | cases B
   simp [this]
  ·cases IG ops<;>simp [and_comm]
 rw [u,aaP,v]
@[go_sem ↓] theorem akr (p:Nat × Bool):fy P n np ops ⟨dst,op,ty,pos,after,some p⟩ e K=bR (rI ops e (some p)) (oKD P n np ops ⟨dst,op,ty,pos,after,some p⟩ e K):=rfl
def Wv (o:Option Tmp) (e:Env) (w:Bool):Option Bool:=match o with
 | some t=>O8 w (rd e (.tmp t))
 | none=>some false
@[congr] theorem agG {o:Option Tmp} {w:Bool} (h:True->o=J):Wv o e w=Wv J e w:=by rw [h trivial]
@[go_sem ↓] theorem alz (j:Nat):rI ops e (some (j,w))=Wv (vU ops j) e w:=rfl
@[go_sem ↓] theorem aiF (r:List Oper):vU (o :: r) 0=o.dst:=rfl
@[go_sem ↓] theorem aiE (r:List Oper) (j:Nat):vU (o :: r) (j+1)=vU r j:=rfl
@[go_sem ↓] theorem aiT (t:Nat):Wv (some t) e w=O8 w (rd e (.tmp t)):=Eq.trans rfl rfl
@[go_sem] theorem ako:O8 w (.bool b)=some (b==w):=rfl
@[go_sem] theorem anf:O8 w (.bT [])=some false:=rfl
@[go_sem] theorem atg:(b==true)=b:=by cases b<;>rfl
@[go_sem] theorem atf:(b==false) = !b:=by cases b<;>rfl
@[congr] theorem agl {ok:Prop} {v:D} {k:D->Prop} (u:True->g=j) (B:j=true->ok=A) (E:j=true->v=v'):gr g ok v k=gr j A v' k:=by
 obtain rfl:=u trivial;cases g with
 | true=>rw [B rfl,E rfl]
 | false=>simp [gr,gd]
@[go_sem ↓] theorem ah0 (ok:Prop) (v:D) (k:D->Prop):gr true ok v k=(ok/\Norm (dm v) k):=by simp [gr,gd,Norm,dm]
@[go_sem ↓] theorem agm (ok:Prop) (v:D) (k:D->Prop):gr false ok v k=k (.bT []):=by simp [gr,gd]
@[go_sem ↓] theorem aqB (a b:Prop):GK true a b=a:=by simp [GK]
@[go_sem ↓] theorem anu (a b:Prop):GK false a b=b:=by simp [GK]
def AoK (np:Nat) (ops:List Oper) (o:Oper) (l:List Nat):Prop:=og np ops o l
@[congr] theorem akv {o:Oper} {l:List Nat} (h:True->l=L):AoK np ops o l=AoK np ops o L:=by rw [h trivial]
@[go_sem] theorem aqs:AoK np ops o []=True:=rfl
def vO (np:Nat) (ops:List Oper) (o:Oper) (r:Nat):Prop:=rT np ops o r=true
@[congr] theorem akM {o:Oper} {r:Nat} (h:True->r=G):vO np ops o r=vO np ops o G:=by rw [h trivial]
theorem vO.mk {o:Oper} {r:Nat} (h:rT np ops o r=true):vO np ops o r:=h
@[go_sem] theorem ann (l:List Nat):AoK np ops o (r :: l)=(vO np ops o (nk r)/\AoK np ops o l):=rfl
@[go_sem ↓] theorem ao1:Rc P n np ops o e true K=(AoK np ops o (lm (bV e o))/\kn P n true o e true K):=by simp [Rc,AoK,lm]
@[go_sem ↓] theorem ams:Rc P n np ops o e false K=kn P n true o e false K:=by simp [Rc]
section
variable {dst:Option Tmp}
@[go_sem ↓] theorem ag7 (a:Operand):bV e ⟨dst,.load t a,ty,pos,after,gu⟩=(rd e a).names:=rfl
@[go_sem ↓] theorem ae8 (a:Operand):bV e ⟨dst,.store t a x,ty,pos,after,gu⟩=(rd e a).names:=rfl
@[go_sem ↓] theorem YP (i:Operand):bV e ⟨dst,.indexAddr t x i,ty,pos,after,gu⟩=(rd e x).names:=rfl
@[go_sem ↓] theorem ae7 (a b c:Option Operand):bV e ⟨dst,.slice t x a b c,ty,pos,after,gu⟩=(rd e x).names:=rfl
@[go_sem ↓] theorem ag8:bV e ⟨dst,.move x,ty,pos,after,gu⟩=[]:=rfl
@[go_sem ↓] theorem adT:bV e ⟨dst,.assign x,ty,pos,after,gu⟩=[]:=rfl
@[go_sem ↓] theorem ag9 (z:Operand):bV e ⟨dst,.pick x y z,ty,pos,after,gu⟩=[]:=rfl
@[go_sem ↓] theorem ae1:bV e ⟨dst,.binOp C t x y T2,ty,pos,after,gu⟩=[]:=rfl
@[go_sem ↓] theorem ag':bV e ⟨dst,.unOp h t x,ty,pos,after,gu⟩=[]:=rfl
@[go_sem ↓] theorem ace (s:TypeId):bV e ⟨dst,.convert s t x,ty,pos,after,gu⟩=[]:=rfl
@[go_sem ↓] theorem YO:bV e ⟨dst,.fieldAddr t x f,ty,pos,after,gu⟩=[]:=rfl
@[go_sem ↓] theorem ae5:bV e ⟨dst,.field t x f,ty,pos,after,gu⟩=[]:=rfl
@[go_sem ↓] theorem ae6 (i:Operand):bV e ⟨dst,.index t x i,ty,pos,after,gu⟩=[]:=rfl
@[go_sem ↓] theorem aam:bV e ⟨dst,.nilCheck x,ty,pos,after,gu⟩=[]:=rfl
@[go_sem ↓] theorem acf:bV e ⟨dst,.extract x i,ty,pos,after,gu⟩=[]:=rfl
@[go_sem ↓] theorem ae2 (ps:Array (Nat × Operand)):bV e ⟨dst,.build t ps,ty,pos,after,gu⟩=[]:=rfl
@[go_sem ↓] theorem WQ (l:Nat) (ps:Array (Nat × Operand)):bV e ⟨dst,.buildSlice t l ps,ty,pos,after,gu⟩=[]:=rfl
@[go_sem ↓] theorem ae0:bV e ⟨dst,.alloc t,ty,pos,after,gu⟩=[]:=rfl
def GA (e:Env) (k:Nat) (l:List Nat):List Nat:=reach e.o k l
@[congr] theorem ajV {k:Nat} {l:List Nat} (h:True->l=L):GA e k l=GA e k L:=by rw [h trivial]
@[go_sem] theorem apm:GA e k []=[]:=by
 unfold GA;induction k with
 | zero=>rfl
 | succ k ih=>simp only [reach,List.map_nil,D.bK,List.nil_append];exact ih
@[go_sem] theorem ajY (l:List Nat):GA e 5 (r :: l)=r :: l++GA e 4 (lm (D.bK ((r :: l).map e.o))):=rfl
@[go_sem] theorem ajX (l:List Nat):GA e 4 (r :: l)=r :: l++GA e 3 (lm (D.bK ((r :: l).map e.o))):=rfl
@[go_sem] theorem ajW (l:List Nat):GA e 2 (r :: l)=r :: l++GA e 1 (lm (D.bK ((r :: l).map e.o))):=rfl
@[go_sem ↓] theorem ae4 (f:Operand):bV e ⟨dst,.call ⟨.value f,args,T⟩,ty,pos,after,gu⟩=GA e 4 (lm (D.bK (rd e f :: args.toList.map (rd e)))):=rfl
@[go_sem ↓] theorem ae3 (b:Builtin):bV e ⟨dst,.call ⟨.builtin b,args,T⟩,ty,pos,after,gu⟩=D.bK (args.toList.map (rd e)):=rfl
end
section
@[go_sem ↓] theorem ao5:kn P n dr ⟨some d,.move x,ty,pos,after,gu⟩ e g K=(d < n/\gr g True (rd e x) (uK e d K)):=rfl
@[go_sem ↓] theorem ajG:kn P n dr ⟨some d,.assign x,ty,pos,after,gu⟩ e g K=(d < n/\gr g True (rd e x) (uK e d K)):=rfl
@[go_sem ↓] theorem amw:kn P n dr ⟨some d,.binOp C t x y T2,ty,pos,after,gu⟩ e g K=HD (abv y) (g=true/\dr=false/\dH P n ⟨some d,.binOp C t x y T2,ty,pos,after,gu⟩ e K) (d < n/\gr g (vQ P (isConst x||isConst y) C t (rd e x) (rd e y)) (wX C (rd e x) (rd e y)) (uK e d K)):=rfl
@[go_sem ↓] theorem ao7:kn P n dr ⟨some d,.unOp h t x,ty,pos,after,gu⟩ e g K=(d < n/\gr g (tV h (rd e x)) (yu h (rd e x)) (uK e d K)):=rfl
@[go_sem ↓] theorem aha (s:TypeId):kn P n dr ⟨some d,.convert s t x,ty,pos,after,gu⟩ e g K=(d < n/\gr g (JP (dV P s) (dV P t) (rd e x)) (NJ (dV P s) (dV P t) (rd e x)) (uK e d K)):=rfl
def pk (p:Bool) (x y:D):D:=if p then x else y
def ahe (c x y:D):D:=match c with
 | .bool p=>pk p x y
 | _=>.undef
def acv (c:D):Prop:=match c with
 | .bool _=>True
 | _=>False
@[go_sem] theorem ajQ (x:D):ahe (.bool p) x ob=pk p x ob:=rfl
@[go_sem] theorem ahf:acv (.bool p)=True:=rfl
@[congr] theorem apb {p:Bool} {x:D} (u:True->p=j) (v:j=true->x=x') (B:j=false->v'=y'):pk p x v'=pk j x' y':=by
 obtain rfl:=u trivial;cases p with
 | true=>simp only [pk,if_true];exact v rfl
 | false=>simp only [pk];exact B rfl
@[go_sem ↓] theorem arT (x:D):pk true x ob=x:=rfl
@[go_sem ↓] theorem apc (x:D):pk false x ob=ob:=rfl
@[go_sem ↓] theorem ao6 (a b:Operand):kn P n dr ⟨some d,.pick c a b,ty,pos,after,gu⟩ e g K=(d < n/\gr g (acv (rd e c)) (ahe (rd e c) (rd e a) (rd e b)) (uK e d K)):=rfl
def faT (t:Ty) (f:Nat) (v:D):D:=match t with
 | .struct fs=>faV fs f v
 | _=>.undef
def agC (t:Ty) (f:Nat) (v:D):Prop:=match t with
 | .struct fs=>X5 fs f v
 | _=>False
@[go_sem] theorem au5 (v:D):faT (.struct fs) f v=faV fs f v:=rfl
@[go_sem] theorem aq1 (v:D):agC (.struct fs) f v=X5 fs f v:=rfl
def an9 (t:Ty) (f:Nat) (v:D):D:=match t with
 | .struct fs=>X9 fs f v
 | _=>.undef
def abm (t:Ty) (f:Nat) (v:D):Prop:=match t with
 | .struct fs=>NZ fs f v
 | _=>False
@[go_sem] theorem atr (v:D):an9 (.struct fs) f v=X9 fs f v:=rfl
@[go_sem] theorem an' (v:D):abm (.struct fs) f v=NZ fs f v:=rfl
@[go_sem ↓] theorem adV:kn P n dr ⟨some d,.fieldAddr t x f,ty,pos,after,gu⟩ e g K=(d < n/\gr g (agC (dV P t) f (rd e x)) (faT (dV P t) f (rd e x)) (uK e d K)):=rfl
@[go_sem ↓] theorem amz:kn P n dr ⟨some d,.field t x f,ty,pos,after,gu⟩ e g K=(d < n/\gr g (abm (dV P t) f (rd e x)) (an9 (dV P t) f (rd e x)) (uK e d K)):=rfl
def G3 (e:Env) (t:Ty) (x i:D):Prop:=R6 e t x i
@[congr] theorem agJ {t:Ty} {x i:D} (u:True->t=t') (v:True->x=x') (B:True->i=v'):G3 e t x i=G3 e t' x' v':=by rw [u trivial,v trivial,B trivial]
def iaT (t:Ty) (x i:D):D:=Yg e0 t x i
theorem aiW (e:Env) (t:Ty) (x i:D):Yg e t x i=iaT t x i:=by unfold iaT Yg;rfl
@[go_sem ↓] theorem adX (i:Operand):kn P n dr ⟨some d,.indexAddr t x i,ty,pos,after,gu⟩ e g K=(d < n/\gr g (G3 e (dV P t) (rd e x) (rd e i)) (iaT (dV P t) (rd e x) (rd e i)) (uK e d K)):=by rw [<- aiW e];rfl
@[go_sem ↓] theorem amA (i:Operand):kn P n dr ⟨some d,.index t x i,ty,pos,after,gu⟩ e g K=(d < n/\gr g (Sj (dV P t) (rd e x) (rd e i)) (ixV (dV P t) (rd e x) (rd e i)) (uK e d K)):=rfl
def ldT (e:Env) (l:Option HC) (a:D):D:=match l with
 | some l=>ldV e l a
 | none=>.undef
def G6 (e:Env) (l:Option HC) (a:D):Prop:=match l with
 | some l=>P7 e l a
 | none=>False
@[congr] theorem alZ {l:Option HC} {a:D} (u:True->l=l') (v:True->a=a'):ldT e l a=ldT e l' a':=by rw [u trivial,v trivial]
@[congr] theorem agT {l:Option HC} {a:D} (u:True->l=l') (v:True->a=a'):G6 e l a=G6 e l' a':=by rw [u trivial,v trivial]
@[go_sem] theorem aoF (o:Nat):ldT e (some l) (.addr r o)=ldB l o (e.o r):=rfl
@[go_sem] theorem al1:ldT e (some l) (.bX r z i k)=ldW l i k (e.o r):=rfl
@[go_sem] theorem al0:ldT e (some l) (.bq cs)=part l.agg 0 l.sz cs:=rfl
@[go_sem] theorem ajd (o:Nat):G6 e (some l) (.addr r o)=WH l o (e.o r):=rfl
@[go_sem] theorem agV:G6 e (some l) (.bX r z i k)=WI l z i k (e.o r):=rfl
@[go_sem] theorem agU:G6 e (some l) (.bq cs)=(l.sz<=cs.length/\Ay l):=rfl
@[go_sem] theorem arz (o:Nat):ldB l o (.box cs)=part l.agg o l.sz cs:=rfl
@[go_sem] theorem alY (o:Nat):WH l o (.box cs)=(o+l.sz<=cs.length/\Ay l):=rfl
@[go_sem] theorem arB:ldW l i k (.own z rows)=part l.agg k l.sz (rows.getD i []):=rfl
@[go_sem] theorem al2:WI l z i k (.own z' rows)=(z'=z/\i < rows.length/\k+l.sz<=z/\Ay l):=rfl
@[go_sem] theorem arx:Ay ⟨false,1⟩=True:=by simp [Ay]
@[go_sem] theorem ary:Ay ⟨true,m⟩=(1<=m):=by simp [Ay]
@[go_sem ↓] theorem ao4 (a:Operand):kn P n dr ⟨some d,.load t a,ty,pos,after,gu⟩ e g K=(d < n/\gr g (G6 e (gC P t) (rd e a)) (ldT e (gC P t) (rd e a)) (uK e d K)):=rfl
@[go_sem ↓] theorem afc:kn P n dr ⟨some d,.nilCheck x,ty,pos,after,gu⟩ e g K=(d < n/\gr g (ab9 (rd e x)) (rd e x) (uK e d K)):=rfl
def an5 (v:D) (i:Nat):D:=match v with
 | .bT ds=>ds.getD i .undef
 | _=>.undef
def agB (v:D) (i:Nat):Prop:=match v with
 | .bT ds=>i < ds.length
 | _=>False
@[go_sem] theorem an6:an5 (.bT ds) i=ds.getD i .undef:=rfl
@[go_sem] theorem alf:agB (.bT ds) i=(i < ds.length):=rfl
@[go_sem ↓] theorem ahb:kn P n dr ⟨some d,.extract x i,ty,pos,after,gu⟩ e g K=(d < n/\gr g (agB (rd e x) i) (an5 (rd e x) i) (uK e d K)):=rfl
@[go_sem ↓] theorem afb (f:FuncId) (first:Array Operand):kn P n dr ⟨some d,.makeFunc (.func f) first args,ty,pos,after,gu⟩ e g K=(d < n/\gr g (first = #[]) (.fn f (args.toList.map (rd e))) (uK e d K)):=rfl
def Qc (e:Env) (t:Ty) (x:D):D:=Qd e t x
def vf (e:Env) (t:Ty) (x:D):Prop:=DJ e t x
@[congr] theorem ajl {t:Ty} {x:D} (u:True->t=t') (v:True->x=x'):Qc e t x=Qc e t' x':=by rw [u trivial,v trivial]
@[congr] theorem aeS {t:Ty} {x:D} (u:True->t=t') (v:True->x=x'):vf e t x=vf e t' x':=by rw [u trivial,v trivial]
@[go_sem ↓] theorem arN (T:TypeId):kn P n dr ⟨some d,.call ⟨.builtin .len,#[x],#[T]⟩,ty,pos,after,gu⟩ e g K=(d < n/\gr g (vf e (dV P T) (rd e x)) (Qc e (dV P T) (rd e x)) (uK e d K)):=rfl
@[go_sem ↓] theorem arO (l:List Operand):kn P n dr ⟨some d,.call ⟨.builtin .max,l.toArray,T⟩,ty,pos,after,gu⟩ e g K=(d < n/\gr g (l≠[]/\tG (l.map (rd e))) (RV SG (l.map (rd e))) (uK e d K)):=by simp only [kn,dM,fN];rfl
@[go_sem ↓] theorem arP (l:List Operand):kn P n dr ⟨some d,.call ⟨.builtin .min,l.toArray,T⟩,ty,pos,after,gu⟩ e g K=(d < n/\gr g (l≠[]/\tG (l.map (rd e))) (RV SK (l.map (rd e))) (uK e d K)):=by simp only [kn,dM,fN];rfl
def ZG (e:Env) (t:Ty) (x lo hi:D):D:=match lo,hi with
 | .int _ l,.int _ h=>VM e t x l.toNat h.toNat
 | _,_=>.undef
def TJ (e:Env) (t:Ty) (x lo:D) (hi:Option D):D:=ZG e t x lo (hi.getD (.int .i64 (BY (Ja e t x))))
def ou (e:Env) (t:Ty) (x lo:D) (hi:Option D):Prop:=SlK (slC e t x) lo (hi.getD (.int .i64 (BY (Ja e t x)))) fun _ _ _=>True
@[congr] theorem amY {t:Ty} {x lo:D} (u:True->t=t') (v:True->x=x') (B:True->lo=lo') (E:True->hi=hi'):TJ e t x lo hi=TJ e t' x' lo' hi':=by rw [u trivial,v trivial,B trivial,E trivial]
@[congr] theorem ahs {t:Ty} {x lo:D} (u:True->t=t') (v:True->x=x') (B:True->lo=lo') (E:True->hi=hi'):ou e t x lo hi=ou e t' x' lo' hi':=by rw [u trivial,v trivial,B trivial,E trivial]
def loT (e:Env) (lo:Option Operand):D:=QO e 0 lo
@[go_sem ↓] theorem aoQ:loT e none=.int .i64 0:=rfl
@[go_sem ↓] theorem aoR:loT e (some x)=rd e x:=rfl
@[go_sem ↓] theorem amB (lo:Option Operand):kn P n dr ⟨some d,.slice t x lo none none,ty,pos,after,gu⟩ e g K=(d < n/\gr g (ou e (dV P t) (rd e x) (loT e lo) none) (TJ e (dV P t) (rd e x) (loT e lo) none) (uK e d K)):=rfl
@[go_sem ↓] theorem ajI (lo:Option Operand):kn P n dr ⟨some d,.slice t x lo (some y) none,ty,pos,after,gu⟩ e g K=(d < n/\gr g (ou e (dV P t) (rd e x) (loT e lo) (some (rd e y))) (TJ e (dV P t) (rd e x) (loT e lo) (some (rd e y))) (uK e d K)):=rfl
def Pq (t:Ty) (ps:List (Nat × D)):List (Nat × Nat × D):=match t with
 | .struct fs=>ps.map fun x=>match fs[x.1]? with
  | some f=>(f.off,f.sz,x.2)
  | none=>(0,0,.undef)
 | .arr _ z _=>ps.map fun x=>(x.1*z,z,x.2)
 | _=>[]
theorem Aq (t:TypeId) (parts:List (Nat × Operand)):eT P e t parts=Pq (dV P t) (parts.map fun x=>(x.1,rd e x.2)):=by
 unfold eT Pq;cases dV P t<;>simp only [List.map_map,Function.comp_def]<;>rfl
def ael (t:Ty) (z:Option (List D)) (ps:List (Nat × D)):D:=match z with
 | some z=>.agg (mo z (Pq t ps))
 | none=>.undef
def Ny (t:Ty) (z:Option (List D)) (ps:List (Nat × D)):Prop:=match z with
 | some z=>(match t with
  | .struct fs=>∀ x∈ps,x.1 < fs.length
  | .arr _ _ _=>True
  | _=>False)/\oN z.length (Pq t ps)
 | none=>False
theorem Vo (t:TypeId) (parts:List (Nat × Operand)):I5 P e t parts=Ny (dV P t) (lz P t) (parts.map fun x=>(x.1,rd e x.2)):=by
 unfold I5 Ny;rw [Aq];cases hz:lz P t with
 | none=>simp
 | some z =>
  simp only [ny,exists_eq_left',eq_iff_iff];refine and_congr ?_ Iff.rfl;cases dV P t<;>simp only;simp only [List.forall_mem_map]
@[go_sem ↓] theorem amx:kn P n dr ⟨some d,.build t M,ty,pos,after,gu⟩ e g K =
  (d < n/\gr g (Ny (dV P t) (lz P t) (M.toList.map fun x=>(x.1,rd e x.2))) (ael (dV P t) (lz P t) (M.toList.map fun x=>(x.1,rd e x.2))) (uK e d K)):=by
 rw [<- Vo];have:ael (dV P t) (lz P t) (M.toList.map fun x=>(x.1,rd e x.2))=fN P e (.build t M):=by
  unfold fN ael;simp only [Aq];rfl
 rw [this];rfl
@[go_sem] theorem ak1 (t:Ty) (z:List D):ael t (some z) ps=.agg (mo z (Pq t ps)):=rfl
@[go_sem] theorem aic (z:List D):Ny (.struct fs) (some z) ps=((∀ x∈ps,x.1 < fs.length)/\oN z.length (Pq (.struct fs) ps)):=rfl
@[go_sem] theorem ak0 (s:Nat) (z:List D):Ny (.arr n s a) (some z) ps=oN z.length (Pq (.arr n s a) ps):=by simp [Ny]
def anV (f:Option FT) (v:D):Nat × Nat × D:=match f with
 | some f=>(f.off,f.sz,v)
 | none=>(0,0,.undef)
@[go_sem] theorem agr:Pq (.struct fs) ps=ps.map fun x=>anV fs[x.1]? x.2:=rfl
@[go_sem] theorem anW:Pq (.arr n z a) ps=ps.map fun x=>(x.1*z,z,x.2):=rfl
@[go_sem] theorem akZ (o s:Nat) (v:D):anV (some ⟨o,s,a⟩) v=(o,s,v):=rfl
@[go_sem] theorem anM (f:Nat × D->Prop):(∀ c∈([]:List (Nat × D)),f c)=True:=by simp
@[go_sem] theorem akR (f:Nat × D->Prop) (a:Nat × D) (l:List (Nat × D)):(∀ c∈a :: l,f c)=(f a/\∀ c∈l,f c):=by simp
@[go_sem] theorem anL (f:D->Prop):(∀ c∈([]:List D),f c)=True:=by simp
@[go_sem] theorem akQ (f:D->Prop) (a:D) (l:List D):(∀ c∈a :: l,f c)=(f a/\∀ c∈l,f c):=by simp
end
def Xx (d:D):Prop:=d=.undef
@[go_sem] theorem akD:Xx .undef=True:=by simp [Xx]
def moK (e:Env) (d:Nat) (K:Env->Prop) (ob:D) (r:Nat):Prop:=Xx (e.o r)/\K (bP (cV e r ob) d (.ref r))
def maK (e:Env) (d:Nat) (K:Env->Prop) (ob:D) (r:Nat):Prop:=Xx (e.o r)/\K (bP (cV e r ob) d (.addr r 0))
@[go_sem ↓] theorem at9:moK e d K ob r=(Xx (e.o r)/\K (bP (cV e r ob) d (.ref r))):=rfl
@[go_sem ↓] theorem at5:maK e d K ob r=(Xx (e.o r)/\K (bP (cV e r ob) d (.addr r 0))):=rfl
def moN (e:Env) (d:Nat) (K:Env->Prop) (ob:D):Prop:=tY (nm d 0) (moK e d K ob)
def maN (e:Env) (d:Nat) (K:Env->Prop) (ob:D):Prop:=tY (nm d 0) (maK e d K ob)
@[go_sem ↓] theorem aua:moN e d K ob=tY (nm d 0) (moK e d K ob):=rfl
@[go_sem ↓] theorem at7:maN e d K ob=tY (nm d 0) (maK e d K ob):=rfl
@[go_sem] theorem avH:nm d k=16*(d+1)+k:=rfl
def uoK (e:Env) (r:Nat) (K:Env->Prop) (ob:D):Prop:=K (cV e r ob)
@[go_sem ↓] theorem auw:uoK e r K ob=K (cV e r ob):=rfl
def aaB (e:Env) (r off:Nat) (v:D) (K:Env->Prop) (l:Option HC) (ob:D):Prop:=
 match l,ob with
 | some l,.box cs=>off+l.sz<=cs.length/\v.cells.length=l.sz/\(∀ c∈v.cells,dZ c)/\K (cV e r (.box (gD cs off v.cells)))
 | _,_=>False
def aaD (e:Env) (r z i k:Nat) (v:D) (K:Env->Prop) (l:Option HC) (ob:D):Prop:=
 match l,ob with
 | some l,.own z' rows=>z'=z/\i < rows.length/\k+l.sz<=z/\v.cells.length=l.sz/\(∀ c∈v.cells,bG c)/\K (cV e r (.own z (rows.set i (gD (rows.getD i []) k v.cells))))
 | _,_=>False
@[congr] theorem ahX {r off:Nat} {v:D} {l:Option HC} (u:True->l=l') (B:True->x'=ob'):aaB e r off v K l x'=aaB e r off v K l' ob':=by rw [u trivial,B trivial]
@[congr] theorem ahZ {r z i k:Nat} {v:D} {l:Option HC} (u:True->l=l') (B:True->x'=ob'):aaD e r z i k v K l x'=aaD e r z i k v K l' ob':=by rw [u trivial,B trivial]
@[go_sem] theorem anH (v:D):aaB e r off v K (some ⟨a,sz⟩) (.box cs)=(off+sz<=cs.length/\v.cells.length=sz/\(∀ c∈v.cells,dZ c)/\Norm (dm (.box (gD cs off v.cells))) (uoK e r K)):=rfl
@[go_sem] theorem anJ (v:D):aaD e r z i k v K (some ⟨a,sz⟩) (.own z' rows) =
  (z'=z/\i < rows.length/\k+sz<=z/\v.cells.length=sz/\(∀ c∈v.cells,bG c)/\Norm (dm (.own z (rows.set i (gD (rows.getD i []) k v.cells)))) (uoK e r K)):=rfl
@[go_sem ↓] theorem anI (v:D):Xz P e t (.addr r off) K v=aaB e r off v K (gC P t) (e.o r):=by
 show StB P e t r off v K (e.o r)=_;unfold StB aaB;cases e.o r<;>cases gC P t<;>rfl
@[go_sem ↓] theorem akP (v:D):Xz P e t (.bX r z i k) K v=aaD e r z i k v K (gC P t) (e.o r):=by
 show StO P e t r z i k v K (e.o r)=_;unfold StO aaD;cases e.o r<;>cases gC P t<;>rfl
def stK (P:Program) (e:Env) (t:TypeId) (x:Operand) (K:Env->Prop) (a:D):Prop:=Norm (dm (rd e x)) (Xz P e t a K)
@[go_sem ↓] theorem aup (a:D):stK P e t x K a=Norm (dm (rd e x)) (Xz P e t a K):=rfl
@[go_sem ↓] theorem amC (a:Operand):kn P n dr ⟨none,.store t a x,ty,pos,after,gu⟩ e g K=(g=true/\Norm (dm (rd e a)) (stK P e t x K)):=rfl
@[go_sem ↓] theorem aqx (v:D):ad6 e d K v=((∀ c∈v.cells,dZ c)/\Norm (dm (.box v.cells)) (maN e d K)):=rfl
@[go_sem ↓] theorem arL:kn P n dr ⟨some d,.box t x,ty,pos,after,gu⟩ e g K=(g=true/\d < n/\Norm (dm (rd e x)) (ad6 e d K)):=rfl
@[congr] theorem ahB {z:Option (List D)} (h:True->z=O):Xr e d K z=Xr e d K O:=by rw [h trivial]
@[go_sem] theorem aks (z:List D):Xr e d K (some z)=maN e d K (.box z):=rfl
@[go_sem ↓] theorem amv:kn P n dr ⟨some d,.alloc t,ty,pos,after,gu⟩ e g K=(g=true/\d < n/\Xr e d K (lz P t)):=rfl
def BsC (e:Env) (d:Nat) (K:Env->Prop) (z len:Nat) (cs:List D):Prop:=(∀ c∈cs,bG c)/\Norm (dm (.own z (rowsOf z len cs))) (moN e d K)
@[congr] theorem akz {z len:Nat} {cs:List D} (h:True->cs=as):BsC e d K z len cs=BsC e d K z len as:=by rw [h trivial]
@[go_sem] theorem asU (len:Nat):BsC e d K z len cs=((∀ c∈cs,bG c)/\Norm (dm (.own z (rowsOf z len cs))) (moN e d K)):=rfl
def BsV (e:Env) (len d:Nat) (K:Env->Prop) (z:Nat) (zc:List D) (ps:List (Nat × Nat × D)):Prop:=
 len*z<=2 ^ 24/\zc.length=z/\oN (len*z) ps/\BsC e d K z len (lm (mo (List.replicate len zc).flatten ps))
@[congr] theorem akC {len z:Nat} {zc:List D} {ps:List (Nat × Nat × D)} (h:True->ps=R):BsV e len d K z zc ps=BsV e len d K z zc R:=by rw [h trivial]
@[go_sem] theorem asW (len:Nat) (ps:List (Nat × Nat × D)):BsV e len d K z zc ps=(len*z<=2 ^ 24/\zc.length=z/\oN (len*z) ps/\BsC e d K z len (lm (mo (List.replicate len zc).flatten ps))):=rfl
@[congr] theorem akA {len:Nat} {ps:List (Nat × Operand)} {t:Ty} {z:Option (List D)} (u:True->t=t') (v:True->z=O):Ui e len ps d K t z=Ui e len ps d K t' O:=by rw [u trivial,v trivial]
@[go_sem] theorem asV (len:Nat) (ps:List (Nat × Operand)):Ui e len ps d K (.slice z by_ a) (some zc)=BsV e len d K z zc (lm (ps.map fun x=>(x.1*z,z,rd e x.2))):=rfl
def BsP (e:Env) (len:Nat) (ps:List (Nat × Operand)) (dr:Bool) (d:Nat) (K:Env->Prop) (t:Ty) (z:Option (List D)) (ns:List Nat):Prop:=(dr=true->ns=[])/\Ui (fD ns e) len ps d K t z
@[congr] theorem akB {len:Nat} {ps:List (Nat × Operand)} {t:Ty} {z:Option (List D)} (h:True->L=U):BsP e len ps dr d K t z L=BsP e len ps dr d K t z U:=by rw [h trivial]
@[go_sem] theorem aqy (len:Nat) (ps:List (Nat × Operand)) (t:Ty) (z:Option (List D)):BsP e len ps dr d K t z []=Ui e len ps d K t z:=by simp [BsP,fD]
@[go_sem ↓] theorem aci (len:Nat):kn P n dr ⟨some d,.buildSlice t len M,ty,pos,after,gu⟩ e g K =
  HD (t==ajS) (g=true/\dr=false/\dH P n ⟨some d,.buildSlice t len M,ty,pos,after,gu⟩ e K) (d < n/\GK g (BsP e len M.toList dr d K (dV P t) (eE P t) (lm (D.bK (M.toList.map fun x=>rd e x.2)))) (K (bP e d (.bT [])))):=by
 unfold kn HD;rfl
@[congr] theorem akL {l c:D} {t:Ty} {z:Option (List D)} (u:True->l=x') (v:True->c=v') (B:True->t=t') (E:True->z=O):MkK e d K l c t z=MkK e d K x' v' t' O:=by rw [u trivial,v trivial,B trivial,E trivial]
@[go_sem] theorem as2 (k:IntKind) (l c:Int):MkK e d K (.int k l) (.int W c) (.slice z by_ a) (some zc) =
  (0<=l/\l<=c/\c<=2 ^ 40/\by_*c<=2 ^ 47/\zc.length=z/\(∀ d∈zc,bG d)/\Norm (dm (.own z (List.replicate l.toNat zc))) (moN e d K)):=rfl
@[go_sem ↓] theorem adY (l:Operand):kn P n dr ⟨some d,.makeSlice t l c,ty,pos,after,gu⟩ e g K=(d < n/\GK g (MkK e d K (dm (rd e l)) (rd e c) (dV P t) (eE P t)) (K (bP e d (.bT [])))):=rfl
def apN (z by_:Nat) (rows rows2:List (List D)) (e:Env) (d:Nat) (K:Env->Prop):Prop:=(by_+1)*(rows.length+rows2.length)<=2 ^ 45/\Norm (dm (.own z (rows++rows2))) (moN e d K)
@[go_sem ↓] theorem atb:apN z by_ rows rows2 e d K=((by_+1)*(rows.length+rows2.length)<=2 ^ 45/\Norm (dm (.own z (rows++rows2))) (moN e d K)):=rfl
def Us (z by_:Nat) (rows2:List (List D)) (e:Env) (d:Nat) (K:Env->Prop):Prop:=(by_+(1-by_))*rows2.length<=2 ^ 47/\Norm (dm (.own z rows2)) (moN e d K)
@[go_sem ↓] theorem aqK:Us z by_ rows2 e d K=((by_+(1-by_))*rows2.length<=2 ^ 47/\Norm (dm (.own z rows2)) (moN e d K)):=rfl
def ApO (e:Env) (z by_ d:Nat) (rows2:List (List D)) (K:Env->Prop) (r:Nat) (ob:D):Prop:=Xt e z by_ d rows2 K r ob
@[congr] theorem akw {z r:Nat} {rows2:List (List D)} (h:True->x'=ob'):ApO e z np d rows2 K r x'=ApO e z np d rows2 K r ob':=by rw [h trivial]
@[go_sem] theorem aqu:ApO e z by_ d rows2 K r (.own z' rows)=(z'=z/\apN z by_ rows rows2 (jM r e) d K):=rfl
@[congr] theorem ahJ {z:Nat} {x:D} (u:True->x=x') (v:True->X=Y):wP e z np d K x X=wP e z np d K x' Y:=by rw [u trivial,v trivial]
@[go_sem] theorem anp:wP e z by_ d K .nil (some rows2)=Us z by_ rows2 e d K:=by simp [wP,Us,Norm,dm,moN,moK,tY,Xx]
@[go_sem] theorem ano:wP e z by_ d K .emp (some rows2)=Us z by_ rows2 e d K:=by simp [wP,Us,Norm,dm,moN,moK,tY,Xx]
@[go_sem] theorem anq:wP e z by_ d K (.ref r) (some rows2)=ApO e z by_ d rows2 K r (dm (e.o r)):=rfl
def bo (e:Env) (x:List Nat) (k:Nat) (d:D):D:=nG e.o x k d
@[congr] theorem anX {x:List Nat} {k:Nat} {d:D} (h:True->d=x'):bo e x k d=bo e x k x':=by rw [h trivial]
@[congr] theorem ahF {x:D} {t:Ty} (u:True->x=x') (v:True->v'=y') (B:True->t=t') (E:True->Z=t2'):qO e d K x v' t Z=qO e d K x' y' t' t2':=by rw [u trivial,v trivial,B trivial,E trivial]
@[go_sem] theorem aqv (x:D):qO e d K x ob (.slice z by_ a) (.slice z2 b2 b)=(by_<=2 ^ 32/\wP e z by_ d K x (iR z (bo e [] 2 (dm ob)))):=rfl
@[congr] theorem ahI {S:Prop} {x:D} {t:Ty} (u:True->x=x') (v:True->v'=y') (B:True->t=t') (E:True->Z=t2'):B9 e d K S x v' t Z=B9 e d K S x' y' t' t2':=by rw [u trivial,v trivial,B trivial,E trivial]
@[go_sem] theorem aky (o l c:Nat) (t:Ty):B9 e d K S (.bW r o z l c) ob t g9=S:=rfl
@[go_sem] theorem af5  (t:Ty):B9 e d K S .nil (.sl z rows) t g9=qO e d K .nil (.sl z rows) t g9:=rfl
@[go_sem] theorem af4  (t:Ty):B9 e d K S .emp (.sl z rows) t g9=qO e d K .emp (.sl z rows) t g9:=rfl
@[go_sem] theorem ad4  (t:Ty):B9 e d K S (.ref r) .emp t g9=qO e d K (.ref r) .emp t g9:=rfl
@[go_sem] theorem ad5 (t:Ty):B9 e d K S (.ref r) (.ref r') t g9=qO e d K (.ref r) (.ref r') t g9:=rfl
@[go_sem] theorem af6 (t:Ty):B9 e d K S (.ref r) (.sl z rows) t g9=qO e d K (.ref r) (.sl z rows) t g9:=rfl
@[go_sem ↓] theorem ajF (T:TypeId):kn P n dr ⟨some d,.call ⟨.builtin .append,#[x,y],#[T,T2]⟩,ty,pos,after,gu⟩ e g K=(d < n/\g=true/\dr=false/\B9 e d K (dH P n ⟨some d,.call ⟨.builtin .append,#[x,y],#[T,T2]⟩,ty,pos,after,gu⟩ e K) (dm (rd e x)) (rd e y) (dV P T) (dV P T2)):=rfl
@[congr] theorem ahM {t:Ty} (h:True->t=t'):Mg e d K t=Mg e d K t':=by rw [h trivial]
def an4 (e:Env) (d:Nat) (K:Env->Prop) (r:Nat):Prop:=Xx (e.o r)/\K (bP e d .emp)
@[go_sem ↓] theorem aqY:an4 e d K r=(Xx (e.o r)/\K (bP e d .emp)):=rfl
@[go_sem] theorem aqA (b:Nat):Mg e d K (.slice z b a)=tY (nm d 0) (an4 e d K):=rfl
@[congr] theorem ahD {z:Nat} (h:True->X=Y):Pe e z np d K X=Pe e z np d K Y:=by rw [h trivial]
@[go_sem] theorem akx:Pe e z by_ d K (some rows2)=Us z by_ rows2 e d K:=by simp [Pe,Us,Norm,dm,moN,moK,tY,Xx]
@[congr] theorem ahH {x:D} {t:Ty} (u:True->x=x') (v:True->v'=y') (B:True->t=t') (E:True->Z=t2'):Jk e d K x v' t Z=Jk e d K x' y' t' t2':=by rw [u trivial,v trivial,B trivial,E trivial]
@[go_sem] theorem aqw:Jk e d K .emp ob (.slice z by_ a) (.slice z2 b2 b)=(by_<=2 ^ 32/\Pe e z by_ d K (iR z (bo e [] 2 (dm ob)))):=rfl
@[go_sem ↓] theorem am0 (len:Nat) (ps:Array (Nat × Operand)):oz P n np ops ⟨some d,.buildSlice t len ps,ty,pos,after,gu⟩ e K=(d < n/\Mg e d K (dV P t)):=rfl
@[go_sem ↓] theorem amZ (T:TypeId):oz P n np ops ⟨some d,.call ⟨.builtin .append,#[x,y],#[T,T2]⟩,ty,pos,after,gu⟩ e K=(d < n/\AoK np ops ⟨some d,.call ⟨.builtin .append,#[x,y],#[T,T2]⟩,ty,pos,after,gu⟩ (GA e 2 (lm (rd e y).names))/\Jk e d K (dm (rd e x)) (dm (rd e y)) (dV P T) (dV P T2)):=rfl
@[go_sem ↓] theorem agp (T:TypeId):oE P n ⟨some d,.call ⟨.builtin .append,#[x,y],#[T,T2]⟩,ty,pos,after,gu⟩ e g K=(d < n/\g=true/\qO e d K (dm (rd e x)) (dm (rd e y)) (dV P T) (dV P T2)):=rfl
@[go_sem ↓] theorem ao3:kn P n dr ⟨dst,.call ⟨.builtin .copy,args,T⟩,ty,pos,after,gu⟩ e g K=(g=true/\dr=false/\dH P n ⟨dst,.call ⟨.builtin .copy,args,T⟩,ty,pos,after,gu⟩ e K):=rfl
@[go_sem ↓] theorem arM:kn P n dr ⟨dst,.call ⟨.builtin .cap,args,T⟩,ty,pos,after,gu⟩ e g K=(g=true/\dr=false/\dH P n ⟨dst,.call ⟨.builtin .cap,args,T⟩,ty,pos,after,gu⟩ e K):=rfl
@[go_sem ↓] theorem ajH (l m:Operand):kn P n dr ⟨dst,.slice t x (some l) i7 (some m),ty,pos,after,gu⟩ e g K=(g=true/\dr=false/\dH P n ⟨dst,.slice t x (some l) i7 (some m),ty,pos,after,gu⟩ e K):=rfl
@[go_sem ↓] theorem amy:kn P n dr ⟨dst,.call ⟨.builtin .clear,args,T⟩,ty,pos,after,gu⟩ e g K=(g=true/\dr=false/\dH P n ⟨dst,.call ⟨.builtin .clear,args,T⟩,ty,pos,after,gu⟩ e K):=rfl
def nK:D->List D
 | .fn _ caps=>caps
 | _=>[]
@[go_sem] theorem ak5 (f:FuncId):nK (.fn f cs)=cs:=rfl
def aD (P:Program) (dr:Bool) (e:Env) (d:Nat) (f:Operand) (args:List Operand) (K:Env->Prop) (S:Prop) (fv:D) (as:List D):Prop:=fv=rd e f/\as=args.map (rd e)++nK (rd e f)->Ca P dr e d f args K\/(dr=false/\S)
theorem aD.mk {f:Operand} {args:List Operand} {S:Prop}:(Ca P dr e d f args K\/(dr=false/\S))=aD P dr e d f args K S (rd e f) (args.map (rd e)++nK (rd e f)):=by simp [aD]
@[congr] theorem af9 {f:Operand} {args:List Operand} {S:Prop} (u:True->fv=fv') (v:True->as=as'):aD P dr e d f args K S fv as=aD P dr e d f args K S fv' as':=by rw [u trivial,v trivial]
theorem aD.sem {f:Operand} {args:List Operand} {S:Prop} (u:dr=false) (h:S):aD P dr e d f args K S fv as:=fun _=>.inr ⟨u,h⟩
@[go_sem ↓] theorem ao2 (f:Operand):kn P n dr ⟨some d,.call ⟨.value f,args,T⟩,ty,pos,after,gu⟩ e g K =
  (d < n/\GK g (aD P dr e d f args.toList K (dH P n ⟨some d,.call ⟨.value f,args,T⟩,ty,pos,after,gu⟩ e K) (dm (rd e f)) (args.toList.map (rd e)++nK (rd e f))) (K (bP e d (.bT [])))):=by
 show (d < n/\GK g (Ca P dr e d f args.toList K\/(dr=false/\dH P n ⟨some d,.call ⟨.value f,args,T⟩,ty,pos,after,gu⟩ e K)) (K (bP e d (.bT []))))=_;rw [aD.mk];rfl
def n8 (P:Program) (np:Nat) (ops:List Oper) (o:Oper) (e:Env) (d:Nat) (f:Operand) (args:List Operand) (K:Env->Prop) (fv:D) (as:List D):Prop:=fv=rd e f/\as=args.map (rd e)++nK (rd e f)->aea P np ops o e d f args K
@[congr] theorem ahU {ops:List Oper} {o:Oper} {f:Operand} {args:List Operand} (u:True->fv=fv') (v:True->as=as'):n8 P np ops o e d f args K fv as=n8 P np ops o e d f args K fv' as':=by rw [u trivial,v trivial]
@[go_sem ↓] theorem amL {ops:List Oper} (f:Operand):Ak P n np ops ⟨some d,.call ⟨.value f,args,T⟩,ty,pos,after,gu⟩ e g K =
  (d < n/\GK g (n8 P np ops ⟨some d,.call ⟨.value f,args,T⟩,ty,pos,after,gu⟩ e d f args.toList K (dm (rd e f)) (args.toList.map (rd e)++nK (rd e f))) (K (bP e d (.bT [])))):=by
 show (d < n/\GK g (aea P np ops _ e d f args.toList K) (K (bP e d (.bT []))))=_;have:aea P np ops ⟨some d,.call ⟨.value f,args,T⟩,ty,pos,after,gu⟩ e d f args.toList K=n8 P np ops ⟨some d,.call ⟨.value f,args,T⟩,ty,pos,after,gu⟩ e d f args.toList K (rd e f) (args.toList.map (rd e)++nK (rd e f)):=by simp [n8]
 rw [this];rfl
end
end Go.Abs
namespace Go.Abs
open List hiding max min
attribute [go_sem] Bool.not_true Bool.not_false fc Bool.and_true gV Bool.and_false Bool.true_or Bool.or_true Bool.false_or Bool.or_false Bool.not_not true_and and_true if_true if_false ite_true ite_false not_true_eq_false not_false_eq_true
attribute [go_sem] map_cons map_nil length_cons length_nil append_nil nil_append cons_append take_succ_cons take_zero drop_succ_cons drop_zero headD_cons take_nil drop_nil Nat.add_zero Nat.zero_add replicate_succ replicate_zero flatten_cons flatten_nil set_cons_zero set_cons_succ getElem?_cons_zero getElem?_cons_succ getElem?_nil Option.map_some Option.map_none Option.getD_some Option.getD_none
attribute [go_sem] contains_nil contains_cons Bool.or_self beq_self_eq_true
attribute [go_sem] decide_true decide_false Int.natCast_nonneg Int.toNat_natCast forall_eq implies_true true_implies false_implies reduceCtorEq and_self
variable (e:Env)
@[go_sem ↓] theorem auh (t:Nat):rd e (.tmp t)=e.t t:=Eq.trans rfl rfl
@[go_sem ↓] theorem apn (v:Value):rd e (.const v)=oI v:=Eq.trans rfl rfl
@[go_sem ↓] theorem ar3 (f:FuncId):rd e (.func f)=.fn f []:=Eq.trans rfl rfl
variable (i j:Nat)
@[go_sem ↓] theorem auB (d:D):(bP e i d).t j=if j=i then d else e.t j:=Eq.trans rfl rfl
@[go_sem ↓] theorem auA (d:D):(bP e i d).o j=e.o j:=Eq.trans rfl rfl
@[go_sem ↓] theorem auy (d:D):(cV e i d).o j=if j=i then d else e.o j:=Eq.trans rfl rfl
@[go_sem ↓] theorem auz (d:D):(cV e i d).t j=e.t j:=Eq.trans rfl rfl
variable (r:Nat)
@[go_sem ↓] theorem aru:(jM r e).t j=(e.t j).kill r:=Eq.trans rfl rfl
@[go_sem ↓] theorem art:(jM r e).o j=if j=r then .undef else (e.o j).kill r:=Eq.trans rfl rfl
variable (os ts:EL)
@[go_sem ↓] theorem avE:(tL ts os).t j=look ts j:=Eq.trans rfl rfl
@[go_sem ↓] theorem avD:(tL ts os).o j=look os j:=Eq.trans rfl rfl
@[go_sem ↓] theorem look_nil:look [] j=.undef:=Eq.trans rfl rfl
@[go_sem ↓] theorem amc (d:D) (r:EL):look ((i,d) :: r) j=if j=i then d else look r j:=Eq.trans rfl rfl
@[go_sem ↓] theorem asr (k:Nat):Xn k []=[]:=rfl
variable (ds:List D)
@[go_sem] theorem ap2 (k:Nat) (d:D):Xn k (d :: ds)=(k,d) :: Xn (k+1) ds:=rfl
@[go_sem ↓] theorem arR (k:Nat):wK k []=[]:=rfl
variable {hs':List D}
@[congr] theorem awA (k:Nat) {l:List D} (h:True->l=hs'):wK k l=wK k hs':=by rw [h trivial]
def osI (b:Bool) (k:Nat) (d:D) (ds:List D):EL:=if b then wK (k+1) ds else (k,d) :: wK (k+1) ds
@[go_sem] theorem ao9 (k:Nat) (d:D):wK k (d :: ds)=osI (eG d) k d ds:=rfl
@[go_sem] theorem avL (k:Nat) (d:D):osI true k d ds=wK (k+1) ds:=rfl
@[go_sem] theorem avJ (k:Nat) (d:D):osI false k d ds=(k,d) :: wK (k+1) ds:=rfl
@[go_sem] theorem agy (b:Bool):oI (.bool b)=.bool b:=rfl
variable (k:IntKind)
@[go_sem] theorem aiu (n:Int):oI (.int k n)=.int k n:=rfl
variable (s:ByteArray)
@[go_sem] theorem aiw:oI (.string s)=.str s:=rfl
@[go_sem] theorem aiv:oI (.slice none 0 0)=.nil:=rfl
@[go_sem] theorem aes:oI .nilIface=.gl:=rfl
@[go_sem] theorem agz:oI (.pointer none)=.j4:=rfl
@[go_sem] theorem ajq (b:Bool):D.names (.bool b)=[]:=by rw [D.names.eq_def]
variable (m:Int)
@[go_sem] theorem amj:D.names (.int k m)=[]:=by rw [D.names.eq_def]
@[go_sem] theorem amn:D.names (.str s)=[]:=by rw [D.names.eq_def]
@[go_sem] theorem amk:D.names (.nil)=[]:=by rw [D.names.eq_def]
@[go_sem] theorem ami:D.names (.emp)=[]:=by rw [D.names.eq_def]
variable (z:Nat) (rows:List (List D))
@[go_sem] theorem aoU:D.names (.sl z rows)=[]:=by rw [D.names.eq_def]
variable (cs:List D)
@[go_sem] theorem ag3:D.names (.bq cs)=[]:=by rw [D.names.eq_def]
@[go_sem] theorem aml (z:Nat) (rows:List (List D)):D.names (.own z rows)=[]:=by rw [D.names.eq_def]
@[go_sem] theorem amm:D.names (.ref r)=[r]:=by rw [D.names]
variable (o:Nat)
@[go_sem] theorem ajp:D.names (.addr r o)=[r]:=by rw [D.names]
@[go_sem] theorem ag4 (k:Nat):D.names (.bX r z i k)=[r]:=by rw [D.names]
variable (l:Nat)
@[go_sem] theorem ajs (lo:Nat):D.names (.eC r z lo l)=[r]:=by rw [D.names]
variable (c:Nat)
@[go_sem] theorem ajr:D.names (.bW r o z l c)=[r]:=by rw [D.names]
@[go_sem] theorem aoT (f:FuncId):D.names (.fn f cs)=D.bK cs:=by rw [D.names]
@[go_sem] theorem amg:D.names (.agg cs)=D.bK cs:=by rw [D.names]
@[go_sem] theorem amh:D.names (.box cs)=D.bK cs:=by rw [D.names]
@[go_sem] theorem ajo:D.bK []=[]:=by rw [D.bK]
@[go_sem] theorem ag2 (d:D) (l:List D):D.bK (d :: l)=d.names++D.bK l:=by rw [D.bK]
variable (q:Nat)
@[go_sem] theorem ai9  : D.kill q (.undef)=.undef:=by rw [D.kill.eq_def]
@[go_sem] theorem alW (b:Bool):D.kill q (.bool b)=.bool b:=by rw [D.kill.eq_def]
@[go_sem] theorem aoz:D.kill q (.int k m)=.int k m:=by rw [D.kill.eq_def]
@[go_sem] theorem aoD:D.kill q (.str s)=.str s:=by rw [D.kill.eq_def]
@[go_sem] theorem aoA  : D.kill q (.nil)=.nil:=by rw [D.kill.eq_def]
@[go_sem] theorem arw:D.kill q (.sl z rows)=.sl z rows:=by rw [D.kill.eq_def]
@[go_sem] theorem ai8:D.kill q (.bq cs)=.bq cs:=by rw [D.kill.eq_def]
@[go_sem] theorem aoB:D.kill q (.own z rows)=.own z rows:=by rw [D.kill.eq_def]
@[go_sem] theorem aoC:D.kill q (.ref r)=if r=q then .undef else .ref r:=by rw [D.kill]
@[go_sem] theorem alV:D.kill q (.addr r o)=if r=q then .undef else .addr r o:=by rw [D.kill]
@[go_sem] theorem alX (lo:Nat):D.kill q (.eC r z lo l)=if r=q then .undef else .eC r z lo l:=by rw [D.kill]
@[go_sem] theorem arv (f:FuncId):D.kill q (.fn f cs)=.fn f  (D.jN q cs):=by rw [D.kill]
@[go_sem] theorem aox:D.kill q (.agg cs)=.agg  (D.jN q cs):=by rw [D.kill]
@[go_sem] theorem aoy:D.kill q (.box cs)=.box  (D.jN q cs):=by rw [D.kill]
@[go_sem] theorem alU:D.jN q []=[]:=by rw [D.jN]
@[go_sem] theorem ai7 (d:D) (l:List D):D.jN q (d :: l)=d.kill q :: D.jN q l:=by rw [D.jN]
def fz (e:Env) (q:Nat) (d:D):D:=me (e.o q) q d
def fzL (e:Env) (q:Nat) (l:List D):List D:=vV (e.o q) q l
variable {d':D}
@[congr] theorem aof {e:Env} {q:Nat} {d:D} (h:True->d=d'):fz e q d=fz e q d':=by rw [h trivial]
@[congr] theorem alw {e:Env} {q:Nat} {d:List D} (h:True->d=hs'):fzL e q d=fzL e q hs':=by rw [h trivial]
def fzI (b:Bool) (x d:D):D:=if b then x else d
variable {b':Bool}
@[congr] theorem alu {b:Bool} {x d:D} (h:True->b=b'):fzI b x d=fzI b' x d:=by rw [h trivial]
@[go_sem ↓] theorem aod (x d:D):fzI true x d=x:=rfl
@[go_sem ↓] theorem alv (x d:D):fzI false x d=d:=rfl
@[go_sem] theorem aoh  : fz e q (.undef)=.undef:=by rw [fz,me.eq_def]
@[go_sem] theorem aq5 (b:Bool):fz e q (.bool b)=.bool b:=by rw [fz,me.eq_def]
@[go_sem] theorem atx:fz e q (.int k m)=.int k m:=by rw [fz,me.eq_def]
@[go_sem] theorem atB:fz e q (.str s)=.str s:=by rw [fz,me.eq_def]
@[go_sem] theorem aty  : fz e q (.nil)=.nil:=by rw [fz,me.eq_def]
@[go_sem] theorem au8:fz e q (.sl z rows)=.sl z rows:=by rw [fz,me.eq_def]
@[go_sem] theorem aog:fz e q (.bq cs)=.bq cs:=by rw [fz,me.eq_def]
@[go_sem] theorem atz:fz e q (.own z rows)=.own z rows:=by rw [fz,me.eq_def]
@[go_sem] theorem atA:fz e q (.ref r)=fzI (bm (r==q)) (sI (e.o q)) (.ref r):=by rw [fz,me];rfl
@[go_sem] theorem aq4:fz e q (.addr r o)=fzI (bm (r==q)) (mL oX o (e.o q)) (.addr r o):=by rw [fz,me];rfl
@[go_sem] theorem au7 (f:FuncId):fz e q (.fn f cs)=.fn f  (fzL e q cs):=by rw [fz,me];rfl
@[go_sem] theorem atv:fz e q (.agg cs)=.agg  (fzL e q cs):=by rw [fz,me];rfl
@[go_sem] theorem atw:fz e q (.box cs)=.box  (fzL e q cs):=by rw [fz,me];rfl
@[go_sem] theorem aq3:fzL e q []=[]:=by rw [fzL,vV]
@[go_sem] theorem aoe (d:D) (l:List D):fzL e q (d :: l)=fz e q d :: fzL e q l:=by rw [fzL,vV];rfl
@[go_sem] theorem amO (q:Nat->Option Nat)  : D.kB q (.undef)=.undef:=by rw [D.kB.eq_def]
@[go_sem] theorem apr (q:Nat->Option Nat) (b:Bool):D.kB q (.bool b)=.bool b:=by rw [D.kB.eq_def]
@[go_sem] theorem ar6 (q:Nat->Option Nat):D.kB q (.int k m)=.int k m:=by rw [D.kB.eq_def]
@[go_sem] theorem ar' (q:Nat->Option Nat):D.kB q (.str s)=.str s:=by rw [D.kB.eq_def]
@[go_sem] theorem ar7 (q:Nat->Option Nat)  : D.kB q (.nil)=.nil:=by rw [D.kB.eq_def]
@[go_sem] theorem aui (q:Nat->Option Nat):D.kB q (.sl z rows)=.sl z rows:=by rw [D.kB.eq_def]
@[go_sem] theorem ar8 (q:Nat->Option Nat):D.kB q (.own z rows)=.own z rows:=by rw [D.kB.eq_def]
@[go_sem] theorem ar9 (q:Nat->Option Nat):D.kB q (.ref r)=sC (q r) (.ref) .undef:=by rw [D.kB];cases q r<;>rfl
@[go_sem] theorem apq (q:Nat->Option Nat):D.kB q (.addr r o)=sC (q r) (fun x=>.addr x o) .undef:=by rw [D.kB];cases q r<;>rfl
@[go_sem] theorem aps (q:Nat->Option Nat) (lo:Nat):D.kB q (.eC r z lo l)=sC (q r) (fun x=>.eC x z lo l) .undef:=by rw [D.kB];cases q r<;>rfl
@[go_sem] theorem ar4 (q:Nat->Option Nat):D.kB q (.agg cs)=.agg  (D.uI q cs):=by rw [D.kB]
@[go_sem] theorem asa (q:Nat->Option Nat):D.kB q (.bT cs)=.bT  (D.uI q cs):=by rw [D.kB]
@[go_sem] theorem ar5 (q:Nat->Option Nat):D.kB q (.box cs)=.box  (D.uI q cs):=by rw [D.kB]
@[go_sem] theorem apo (q:Nat->Option Nat):D.uI q []=[]:=by rw [D.uI]
@[go_sem] theorem amN (q:Nat->Option Nat) (d:D) (l:List D):D.uI q (d :: l)=d.kB q :: D.uI q l:=by rw [D.uI]
@[go_sem ↓] theorem aly (f:Nat->D) (d:D):sC (some i) f d=f i:=rfl
@[go_sem ↓] theorem alx (f:Nat->D) (d:D):sC none f d=d:=rfl
variable {o':Option Nat}
@[congr] theorem aiS {i:Option Nat} {f:Nat->D} {d:D} (h:True->i=o'):sC i f d=sC o' f d:=by rw [h trivial]
@[congr] theorem aeE {b:Bool} {d:D} (h:True->b=b'):bS b d=bS b' d:=by rw [h trivial]
@[go_sem ↓] theorem agH (d:D):bS true d=.undef:=rfl
@[go_sem ↓] theorem aeF (d:D):bS false d=d:=rfl
variable (x:List Nat)
@[go_sem] theorem aqQ (b:Bool):bo e x (j+1) (.bool b)=.bool b:=rfl
@[go_sem] theorem ati:bo e x (j+1) (.int k m)=.int k m:=rfl
@[go_sem] theorem ath  : bo e x (j+1) (.emp)=.emp:=rfl
@[go_sem] theorem auZ:bo e x (j+1) (.sl z rows)=.sl z rows:=rfl
@[go_sem] theorem atj:bo e x (j+1) (.ref r)=bS (bm (x.contains r)) (sI (e.o r)):=rfl
@[go_sem] theorem aqP:bo e x (j+1) (.addr r o)=bS (bm (x.contains r)) (mL (bo e x j) o (e.o r)):=rfl
@[go_sem] theorem aqR:bo e x (j+1) (.bW r o z l c)=bS (bm (x.contains r)) (gS o z l (e.o r)):=rfl
@[go_sem] theorem auY (f:FuncId):bo e x (j+1) (.fn f cs)=.fn f  (cs.map (bo e x j)):=rfl
@[go_sem] theorem aqS (d:D):bo e x 0 d=oX d:=rfl
def cv (e:Env) (bw:Bool) (gs:List Nat) (k:Nat) (d:D):D:=conv bw gs e.o k d
variable {gs:List Nat}
@[congr] theorem an0 {e:Env} {bw:Bool} {k:Nat} {d:D} (h:True->d=d'):cv e bw gs k d=cv e bw gs k d':=by rw [h trivial]
variable (bw:Bool)
@[go_sem] theorem aqX (b:Bool):cv e bw x (j+1) (.bool b)=.bool b:=rfl
@[go_sem] theorem atl:cv e bw x (j+1) (.int k m)=.int k m:=rfl
@[go_sem] theorem ato:cv e bw x (j+1) (.str s)=.str s:=rfl
@[go_sem] theorem atm  : cv e bw x (j+1) (.nil)=.nil:=rfl
@[go_sem] theorem au1:cv e bw x (j+1) (.sl z rows)=.sl z rows:=rfl
@[go_sem] theorem an1:cv e bw x (j+1) (.bq cs)=.bq cs:=rfl
@[go_sem] theorem atn:cv e bw x (j+1) (.ref r)=sC (idx x r) (.ref) (bS (bm (!bw)) (bo e x j (dm (.ref r)))):=rfl
@[go_sem] theorem aqW:cv e bw x (j+1) (.addr r o)=sC (idx x r) (fun x=>.addr x o) (bS (bm (!bw)) (bo e x j (dm (.addr r o)))):=rfl
@[go_sem] theorem au0 (f:FuncId):cv e bw x (j+1) (.fn f cs)=.fn f  (cs.map (cv e bw x j)):=rfl
@[go_sem] theorem atk:cv e bw x (j+1) (.agg cs)=.agg  (cs.map (cv e bw x j)):=rfl
def cvO (e:Env) (bw:Bool) (gs:List Nat) (k:Nat) (d:D):D:=xq bw gs e.o k d
@[congr] theorem ald {e:Env} {bw:Bool} {k:Nat} {d:D} (h:True->d=d'):cvO e bw gs k d=cvO e bw gs k d':=by rw [h trivial]
@[go_sem] theorem aqU:cvO e bw x j (.box cs)=.box (cs.map (cv e bw x j)):=rfl
@[go_sem] theorem aqV:cvO e bw x j (.own z rows)=.own z rows:=rfl
mutual
/-- data that names no object -/
def Pl:D->Prop
 | .fn _ cs=>tZ cs
 | .agg cs=>tZ cs
 | .bT cs=>tZ cs
 | .box _ | .own _ _ | .ref _ | .addr _ _ | .bX _ _ _ _ | .eC _ _ _ _ | .bW _ _ _ _ _=>False
 | _=>True
def tZ:List D->Prop
 | []=>True
 | d :: l=>Pl d/\tZ l
end
@[go_sem] theorem aqG (b:Bool):Pl (.bool b)=True:=by rw [Pl.eq_def]
@[go_sem] theorem as4:Pl (.int k m)=True:=by rw [Pl.eq_def]
@[go_sem] theorem as6:Pl (.str s)=True:=by rw [Pl.eq_def]
@[go_sem] theorem as5:Pl (.nil)=True:=by rw [Pl.eq_def]
@[go_sem] theorem anF:Pl (.gl)=True:=by rw [Pl.eq_def]
@[go_sem] theorem auV:Pl (.sl z rows)=True:=by rw [Pl.eq_def]
@[go_sem] theorem anE:Pl (.bq cs)=True:=by rw [Pl.eq_def]
@[go_sem] theorem auU (f:FuncId):Pl (.fn f cs)=tZ cs:=by rw [Pl]
@[go_sem] theorem as3:Pl (.agg cs)=tZ cs:=by rw [Pl]
@[go_sem] theorem as7:Pl (.bT cs)=tZ cs:=by rw [Pl]
@[go_sem] theorem aqF:tZ []=True:=by rw [tZ]
@[go_sem] theorem anD (d:D) (l:List D):tZ (d :: l)=(Pl d/\tZ l):=by rw [tZ]
theorem IL:∀ {l:List D},tZ l->∀ d∈l,Pl d
 | [],_,d,h=>by cases h
 | x :: l,h,d,hd=>by
  rw [tZ] at h;rcases mem_cons.1 hd with rfl | hd
  ·exact h.1
  ·exact IL h.2 d hd
mutual
theorem Pl.names:∀ (d:D),Pl d->d.names=[]
 | .fn _ cs,h=>by rw [Pl] at h;rw [D.names];exact tZ.names cs h
 | .agg cs,h=>by rw [Pl] at h;rw [D.names];exact tZ.names cs h
 | .bT cs,h=>by rw [Pl] at h;rw [D.names];exact tZ.names cs h
 | .box _,h | .own _ _,h | .ref _,h | .addr _ _,h | .bX _ _ _ _,h | .eC _ _ _ _,h | .bW _ _ _ _ _,h=>by rw [Pl] at h;exact h.elim
 | .undef,_ | .bool _,_ | .int _ _,_ | .str _,_ | .nil,_ | .emp,_ | .kP,_ | .gl,_ | .gR,_ | .j4,_ | .sl _ _,_ | .bq _,_=>by rw [D.names.eq_def]
theorem tZ.names:∀ (l:List D),tZ l->D.bK l=[]
 | [],_=>by rw [D.bK]
 | d :: l,h=>by rw [tZ] at h;rw [D.bK,Pl.names d h.1,tZ.names l h.2];rfl
end
mutual
theorem Pl.kB (f:Nat->Option Nat):∀ (d:D),Pl d->d.kB f=d
 | .fn _ cs,h=>by rw [Pl] at h;rw [D.kB,tZ.kB f cs h]
 | .agg cs,h=>by rw [Pl] at h;rw [D.kB,tZ.kB f cs h]
 | .bT cs,h=>by rw [Pl] at h;rw [D.kB,tZ.kB f cs h]
 | .box _,h | .own _ _,h | .ref _,h | .addr _ _,h | .bX _ _ _ _,h | .eC _ _ _ _,h | .bW _ _ _ _ _,h=>by rw [Pl] at h;exact h.elim
 | .undef,_ | .bool _,_ | .int _ _,_ | .str _,_ | .nil,_ | .emp,_ | .kP,_ | .gl,_ | .gR,_ | .j4,_ | .sl _ _,_ | .bq _,_=>by rw [D.kB.eq_def]
theorem tZ.kB (f:Nat->Option Nat):∀ (l:List D),tZ l->D.uI f l=l
 | [],_=>by rw [D.uI]
 | d :: l,h=>by rw [tZ] at h;rw [D.uI,Pl.kB f d h.1,tZ.kB f l h.2]
end
theorem Pl.conv (bw:Bool) (gs:List Nat) (o:Nat->D):∀ (k:Nat) (d:D),Pl d->conv bw gs o k d=d
 | 0,d,h=>by simp [Go.Abs.conv,oX,Pl.names d h]
 | k+1,d,h=>by
  have B:∀ cs:List D,tZ cs->cs.map (Go.Abs.conv bw gs o k)=cs:=by
   intro cs u
   conv=>rhs;rw [<- map_id cs]
   exact map_congr_left fun d v=>Pl.conv bw gs o k d (IL u d v)
  cases d<;>try rfl
  all_goals rw [Pl] at h
  all_goals first | exact h.elim | skip
  all_goals simp only [Go.Abs.conv];rw [B _ h]
variable {fv fv':D} {S:Prop} {as ds':List D} {w:Array Edge} {p:String} {A:Option (Nat × Bool)} (rs:List Nat) {l' G:List Nat} {C F:List (Nat × D)} (obs:List (Nat × D)) (dv:D)
section
variable {P:Program} {e:Env} {dr:Bool} {K:Env->Prop} {d:Nat} {f:Operand} {args:List Operand}
theorem aD.bp {k:FuncId} {ds:List D} (h:Spec P k [] ds [] fv) (Q:tZ ds/\Pl fv/\K (bP e d fv)):aD P dr e d f args K S (.fn k hs') ds:=by
 rintro ⟨v,u⟩;refine .inl ?_;have u:ds=args.map (rd e)++hs':=by rw [u,<- v];rfl
 obtain ⟨B,E,N⟩:=Q;refine ⟨[],[],false,[],fv,fun _=>⟨rfl,rfl⟩,?_⟩;show nH P e d args [] false [] fv (KW dr K) (rd e f);rw [<- v];refine ⟨nodup_nil,by simp,by simp [kk],⟨dU _,by simp⟩,by simp,?_,?_⟩
 ·rw [<- u];have:ds.map (conv false [] e.o 4)=ds:=by
   conv=>rhs;rw [<- map_id ds]
   exact map_congr_left fun d O=>Pl.conv false [] e.o 4 d (IL B d O)
  rw [this];exact h
 ·have:gf e d [] [] fv=bP e d fv:=by
   unfold gf;rw [Pl.kB _ fv E];rfl
  rw [this];exact .inl N
def cY (P:Program) (e:Env) (d:Nat) (f:Operand) (args:List Operand) (K:Env->Prop) (gs:List Nat) (bw:Bool) (fv:D) (ds hs:List D):Prop:=
 fv=cv e bw gs 5 (rd e f)->ds=args.map (fun x=>cv e bw gs 4 (rd e x))++nK (cv e bw gs 5 (rd e f))->hs=gs.map (fun r=>cvO e bw gs 4 (e.o r))->∃ hs' dv,nH P e d args gs bw hs' dv K (rd e f)
@[congr] theorem af8 {bw:Bool} {ds:List D} (u:True->fv=fv') (v:True->ds=ds') (B:True->as=hs'):cY P e d f args K gs bw fv ds as=cY P e d f args K gs bw fv' ds' hs':=by rw [u trivial,v trivial,B trivial]
theorem aD.iT (fz gs:List Nat) (bw:Bool) (u:dr=true->fz=[]/\gs=[]) (h:cY P (fD fz e) d f args K gs bw (cv (fD fz e) bw gs 5 (rd (fD fz e) f)) (args.map (fun x=>cv (fD fz e) bw gs 4 (rd (fD fz e) x))++nK (cv (fD fz e) bw gs 5 (rd (fD fz e) f))) (gs.map (fun r=>cvO (fD fz e) bw gs 4 ((fD fz e).o r)))) :
  aD P dr e d f args K S fv as:=by
 intro _;obtain ⟨hs',dv,h⟩:=h rfl rfl rfl;exact .inl ⟨fz,gs,bw,hs',dv,u,oD (fun _=>.inl) h⟩
theorem aD.RY (ts os:EL) (fz gs:List Nat) (bw:Bool) (u:dr=false) (h:cY P (fD fz e) d f args (fun B=>Me B ts os/\K (tL ts os)) gs bw (cv (fD fz e) bw gs 5 (rd (fD fz e) f)) (args.map (fun x=>cv (fD fz e) bw gs 4 (rd (fD fz e) x))++nK (cv (fD fz e) bw gs 5 (rd (fD fz e) f))) (gs.map (fun r=>cvO (fD fz e) bw gs 4 ((fD fz e).o r)))) :
  aD P dr e d f args K S fv as:=by
 intro _;obtain ⟨hs',dv,h⟩:=h rfl rfl rfl;exact .inl ⟨fz,gs,bw,hs',dv,(fun v=>by rw [u] at v;cases v),oD (fun _ D=>.inr ⟨u,ts,os,D⟩) h⟩
def V7 (P:Program) (e:Env) (d:Nat) (f:Operand) (args:List Operand) (K:Env->Prop) (gs:List Nat) (bw:Bool) (fv:D) (ds hs:List D):Prop:=
 fv=cv e bw gs 5 (rd e f)->ds=args.map (fun x=>cv e bw gs 4 (rd e x))++nK (cv e bw gs 5 (rd e f))->hs=gs.map (fun r=>cvO e bw gs 4 (e.o r))->∃ Φ,Jl P e d args gs bw Φ K (rd e f)
@[congr] theorem af' {bw:Bool} {ds:List D} (u:True->fv=fv') (v:True->ds=ds') (B:True->as=hs'):V7 P e d f args K gs bw fv ds as=V7 P e d f args K gs bw fv' ds' hs':=by rw [u trivial,v trivial,B trivial]
def BJ (r:Nat):List Nat->Prop
 | []=>True
 | x :: l=>r≠x/\BJ r l
def vp:List Nat->Prop
 | []=>True
 | x :: l=>BJ x l/\vp l
@[go_sem] theorem ajB:BJ r []=True:=rfl
@[go_sem] theorem ag6 (x:Nat) (l:List Nat):BJ r (x :: l)=(r≠x/\BJ r l):=rfl
@[go_sem] theorem ajA:vp []=True:=rfl
@[go_sem] theorem ag5 (x:Nat) (l:List Nat):vp (x :: l)=(BJ x l/\vp l):=rfl
theorem KZ {r:Nat}:∀ {l:List Nat},BJ r l->r ∉ l
 | [],_,h=>by cases h
 | x :: l,⟨h1,h2⟩,h=>by
  rcases mem_cons.1 h with rfl | h
  ·exact h1 rfl
  ·exact KZ h2 h
theorem BI:∀ {l:List Nat},vp l->l.Nodup
 | [],_=>nodup_nil
 | x :: l,⟨h1,h2⟩=>nodup_cons.2 ⟨KZ h1,BI h2⟩
def V9 (d:D):Prop:=eG d=false
def Pd (e:Env):List Nat->Prop
 | []=>True
 | r :: rs=>V9 (e.o r)/\Pd e rs
def Ji (e:Env):List Nat->Prop
 | []=>True
 | r :: rs=>Xx (e.o r)/\Ji e rs
@[go_sem ↓] theorem anl:Pd e []=True:=rfl
@[go_sem ↓] theorem akt:Pd e (r :: rs)=(V9 (e.o r)/\Pd e rs):=rfl
@[go_sem ↓] theorem anm:Ji e []=True:=rfl
@[go_sem ↓] theorem aku:Ji e (r :: rs)=(Xx (e.o r)/\Ji e rs):=rfl
@[congr] theorem ahC {l:List Nat} (h:True->l=l'):Ji e l=Ji e l':=by rw [h trivial]
@[go_sem] theorem asX (d:D):V9 d=(eG d=false):=rfl
theorem Jh:∀ {rs:List Nat},Pd e rs->∀ r∈rs,e.o r≠.undef
 | [],_,r,h=>by cases h
 | x :: rs,⟨h1,h2⟩,r,h=>by
  rcases mem_cons.1 h with rfl | h
  ·intro u;unfold V9 at h1;rw [u] at h1;exact Bool.noConfusion h1
  ·exact Jh h2 r h
theorem Jj:∀ {rs:List Nat},Ji e rs->∀ r∈rs,e.o r=.undef
 | [],_,r,h=>by cases h
 | x :: rs,⟨h1,h2⟩,r,h=>by
  rcases mem_cons.1 h with rfl | h
  ·exact h1
  ·exact Jj h2 r h
def ajT:List (Nat × D)->Env->Env
 | [],e=>e
 | x :: l,e=>ajT l (cV e x.1 x.2)
def V6 (f:Nat->Option Nat):List Nat->List D->List (Nat × D)
 | r :: rs,h :: hs=>(r,h.kB f) :: V6 f rs hs
 | _,_=>[]
theorem Gy (f:Nat->Option Nat):∀ (ns:List Nat) (hs:List D) (e:Env),Lh f ns hs e=ajT (V6 f ns hs) e
 | [],_,_=>rfl
 | _ :: _,[],_=>rfl
 | r :: rs,h :: hs,e=>Gy f rs hs (cV e r (h.kB f))
def PsE (e:Env) (d:Nat) (K:Env->Prop) (u:List Nat) (obs:List (Nat × D)) (dv:D):Prop:=K (bP (ajT obs (xL u e)) d dv)
@[congr] theorem akN (u:True->gs=l') (v:True->C=F) (B:True->fv=d'):PsE e d K gs C fv=PsE e d K l' F d':=by rw [u trivial,v trivial,B trivial]
@[go_sem] theorem anG:PsE e d K (r :: x) obs dv=PsE (jM r e) d K x obs dv:=rfl
@[go_sem] theorem aqI (x:Nat × D):PsE e d K [] (x :: obs) dv=PsE (cV e x.1 x.2) d K [] obs dv:=rfl
@[go_sem] theorem aqH:PsE e d K [] [] dv=K (bP e d dv):=rfl
def PsN (e:Env) (d:Nat) (K:Env->Prop) (gs:List Nat) (hs':List D) (dv:D) (ns:List Nat):Prop:=PsE e d K (j9 gs hs') (V6 (Nw ns) ns hs') (dv.kB (Nw ns))
@[congr] theorem akO (u:True->l'=G):PsN e d K gs hs' fv l'=PsN e d K gs hs' fv G:=by rw [u trivial]
@[go_sem] theorem as8 (gs:List Nat):PsN e d K gs cs dv x=PsE e d K (lm (j9 gs cs)) (V6 (Nw x) x cs) (dv.kB (Nw x)):=rfl
theorem nH.intro {gs:List Nat} {bw:Bool} {k:FuncId} {v ds hs hs':List D} {dv:D} (h:Spec P k hs ds hs' dv)
  (Q:vp gs/\Pd e gs/\Ji e (lm (kk d 0 (hs'.length-gs.length)))/\gs.length<=hs'.length/\hs'.length<=gs.length+16/\(bw=true->qV dv/\∀ h∈hs',vn h)/\PsN e d K gs hs' dv (lm (fB d gs hs'))) :
  D.fn k v=cv e bw gs 5 (rd e f)->ds=args.map (fun x=>cv e bw gs 4 (rd e x))++nK (cv e bw gs 5 (rd e f))->hs=gs.map (fun r=>cvO e bw gs 4 (e.o r))->nH P e d args gs bw hs' dv K (rd e f):=by
 intro u E O;obtain ⟨k1,k2,k3,R,T,U,N⟩:=Q;rw [<- u] at E;cases B:rd e f
 case fn k0 caps0 =>
  rw [B] at u;simp only [cv,conv,D.fn.injEq] at u;obtain ⟨rfl,rfl⟩:=u;refine ⟨BI k1,Jh k2,Jj k3,⟨R,T⟩,U,?_,?_⟩
  ·subst E;subst O;rw [jq,map_map];exact h
  ·unfold PsN PsE at N;unfold gf;rw [Gy];exact N
 all_goals rw [B] at u;simp only [cv,conv] at u
 all_goals exfalso
 all_goals first
  | cases u
  | (rename_i r;cases hi:idx gs r<;>rw [hi] at u<;>cases bw<;>simp only [sC,bS,nG,Bool.not_false,Bool.not_true,if_true,Bool.false_eq_true,if_false] at u<;>first | cases u | (split at u<;>first | cases u | (unfold sI at u;split at u<;>cases u)))
  | (rename_i r _;cases hi:idx gs r<;>rw [hi] at u<;>cases bw<;>simp only [sC,bS,nG,Bool.not_false,Bool.not_true,if_true,Bool.false_eq_true,if_false] at u<;>first | cases u | (split at u<;>first | cases u | (unfold mL at u;split at u<;>cases u)))
  | (rename_i r _ _ _;cases hi:idx gs r<;>rw [hi] at u<;>cases bw<;>simp only [sC,bS,nG,Bool.not_false,Bool.not_true,if_true,Bool.false_eq_true,if_false] at u<;>first | cases u | (split at u<;>first | cases u | (unfold ug at u;split at u<;>(try split at u)<;>cases u) | (unfold mM at u;split at u<;>(try split at u)<;>cases u) | (unfold gS at u;split at u<;>(try split at u)<;>cases u)))
  | (rename_i r _ _ _ _;cases hi:idx gs r<;>rw [hi] at u<;>cases bw<;>simp only [sC,bS,nG,Bool.not_false,Bool.not_true,if_true,Bool.false_eq_true,if_false] at u<;>first | cases u | (split at u<;>first | cases u | (unfold ug at u;split at u<;>(try split at u)<;>cases u) | (unfold mM at u;split at u<;>(try split at u)<;>cases u) | (unfold gS at u;split at u<;>(try split at u)<;>cases u)))
theorem cY.gB {gs:List Nat} {bw:Bool} {k:FuncId} {u ds hs hs':List D} {dv:D} (h:Spec P k hs ds hs' dv)
  (N:vp gs/\Pd e gs/\Ji e (lm (kk d 0 (hs'.length-gs.length)))/\gs.length<=hs'.length/\hs'.length<=gs.length+16/\(bw=true->qV dv/\∀ h∈hs',vn h)/\PsN e d K gs hs' dv (lm (fB d gs hs'))) :
  cY P e d f args K gs bw (.fn k u) ds hs:=fun v B E=>⟨hs',dv,nH.intro h N v B E⟩
def Pg (l:List Nat):Prop:=l=[]
@[congr] theorem ad9 {l:List Nat} (h:True->l=l'):Pg l=Pg l':=by rw [h trivial]
@[go_sem] theorem ahS:Pg []=True:=eq_true rfl
def jv (P:Program) (e:Env) (d:Nat) (f:Operand) (args:List Operand) (K:Env->Prop) (gs:List Nat) (fv:D) (ds hs:List D):Prop:=
 fv=cv e false gs 5 (rd e f)->ds=args.map (fun x=>cv e false gs 4 (rd e x))++nK (cv e false gs 5 (rd e f))->hs=gs.map (fun r=>cvO e false gs 4 (e.o r))->∃ hs' dv,j9 gs hs'=[]/\nH P e d args gs false hs' dv K (rd e f)
@[congr] theorem af7 {ds:List D} (u:True->fv=fv') (v:True->ds=ds') (B:True->as=hs'):jv P e d f args K gs fv ds as=jv P e d f args K gs fv' ds' hs':=by rw [u trivial,v trivial,B trivial]
theorem jv.intro {gs:List Nat} {k:FuncId} {v ds hs hs':List D} {dv:D} (h:Spec P k hs ds hs' dv)
  (u:Pg (lm (j9 gs hs'))/\vp gs/\Pd e gs/\Ji e (lm (kk d 0 (hs'.length-gs.length)))/\gs.length<=hs'.length/\hs'.length<=gs.length+16/\PsN e d K gs hs' dv (lm (fB d gs hs'))) :
  jv P e d f args K gs (.fn k v) ds hs:=fun B E N=>⟨hs',dv,u.1,nH.intro h ⟨u.2.1,u.2.2.1,u.2.2.2.1,u.2.2.2.2.1,u.2.2.2.2.2.1,(fun h=>by cases h),u.2.2.2.2.2.2⟩ B E N⟩
theorem n8.tO {np:Nat} {ops:List Oper} {o:Oper} (gs:List Nat) (hr:gs.all (fun r=>(Lx np ops (args.headD (.global 0))).contains r)=true)
  (h:AoK np ops o (GA e 5 (lm (gs++D.bK (rd e f :: args.map (rd e)))))/\jv P e d f args K gs (cv e false gs 5 (rd e f)) (args.map (fun x=>cv e false gs 4 (rd e x))++nK (cv e false gs 5 (rd e f))) (gs.map (fun r=>cvO e false gs 4 (e.o r)))):n8 P np ops o e d f args K fv as:=by
 intro _;obtain ⟨hs',dv,u,v⟩:=h.2 rfl rfl rfl;exact ⟨gs,hs',dv,(fun r B=>contains_iff_mem.1 (dn.1 hr r B)),h.1,u,v⟩
theorem V7.intro {gs:List Nat} {bw:Bool} {k:FuncId} {v ds hs:List D} {Φ:List D->D->Prop} (h:Cc P k hs ds Φ)
  (k1:vp gs) (k2:Pd e gs) (Q:∀ hs' dv,Φ hs' dv->Ji e (lm (kk d 0 (hs'.length-gs.length)))/\gs.length<=hs'.length/\hs'.length<=gs.length+16/\(bw=true->qV dv/\∀ h∈hs',vn h)/\PsN e d K gs hs' dv (lm (fB d gs hs'))) :
  V7 P e d f args K gs bw (.fn k v) ds hs:=by
 intro u E O;refine ⟨Φ,?_⟩;rw [<- u] at E;cases B:rd e f
 case fn k0 caps0 =>
  rw [B] at u;simp only [cv,conv,D.fn.injEq] at u;obtain ⟨rfl,rfl⟩:=u;refine ⟨BI k1,Jh k2,?_,fun hs' dv R=>?_⟩
  ·subst E;subst O;rw [jq,map_map];exact h
  ·obtain ⟨k3,T,U,V,N⟩:=Q hs' dv R;refine ⟨Jj k3,⟨T,U⟩,V,?_⟩;unfold PsN PsE at N;unfold gf;rw [Gy];exact N
 all_goals rw [B] at u;simp only [cv,conv] at u
 all_goals exfalso
 all_goals first
  | cases u
  | (rename_i r;cases hi:idx gs r<;>rw [hi] at u<;>cases bw<;>simp only [sC,bS,nG,Bool.not_false,Bool.not_true,if_true,Bool.false_eq_true,if_false] at u<;>first | cases u | (split at u<;>first | cases u | (unfold sI at u;split at u<;>cases u)))
  | (rename_i r _;cases hi:idx gs r<;>rw [hi] at u<;>cases bw<;>simp only [sC,bS,nG,Bool.not_false,Bool.not_true,if_true,Bool.false_eq_true,if_false] at u<;>first | cases u | (split at u<;>first | cases u | (unfold mL at u;split at u<;>cases u)))
  | (rename_i r _ _ _;cases hi:idx gs r<;>rw [hi] at u<;>cases bw<;>simp only [sC,bS,nG,Bool.not_false,Bool.not_true,if_true,Bool.false_eq_true,if_false] at u<;>first | cases u | (split at u<;>first | cases u | (unfold ug at u;split at u<;>(try split at u)<;>cases u) | (unfold mM at u;split at u<;>(try split at u)<;>cases u) | (unfold gS at u;split at u<;>(try split at u)<;>cases u)))
  | (rename_i r _ _ _ _;cases hi:idx gs r<;>rw [hi] at u<;>cases bw<;>simp only [sC,bS,nG,Bool.not_false,Bool.not_true,if_true,Bool.false_eq_true,if_false] at u<;>first | cases u | (split at u<;>first | cases u | (unfold ug at u;split at u<;>(try split at u)<;>cases u) | (unfold mM at u;split at u<;>(try split at u)<;>cases u) | (unfold gS at u;split at u<;>(try split at u)<;>cases u)))
end
variable (hs:List D)
@[go_sem] theorem aqr (f:Nat->Option Nat):V6 f [] hs=[]:=rfl
variable (h:D)
@[go_sem] theorem ank (f:Nat->Option Nat):V6 f (r :: rs) (h :: hs)=(r,h.kB f) :: V6 f rs hs:=rfl
@[go_sem] theorem atc:Nw x i=x[i]?:=rfl
@[go_sem] theorem ale:j9 [] hs=[]:=rfl
variable (g:Nat)
@[go_sem] theorem aiy (gs:List Nat):j9 (g :: gs) (h :: hs)=if eG h then g :: j9 gs hs else j9 gs hs:=rfl
variable (d:Nat)
@[go_sem] theorem ak4 (gs:List Nat):fB d gs cs=gs++kk d 0 (cs.length-gs.length):=rfl
@[go_sem] theorem ajw (k:Nat):kk d k 0=[]:=rfl
@[go_sem] theorem ajv (k m:Nat):kk d k (m+1)=nm d k :: kk d (k+1) m:=rfl
@[go_sem] theorem aq7:idx [] r=none:=rfl
@[go_sem] theorem aon (gs:List Nat):idx (g :: gs) r=if g=r then some 0 else (idx gs r).map (· + 1):=rfl
@[go_sem ↓] theorem alr:fD [] e=e:=rfl
@[go_sem ↓] theorem aiP:fD (r :: rs) e=fD rs (Du r e):=rfl
@[go_sem ↓] theorem atu:(Du r e).t j=fz e r (e.t j):=Eq.trans rfl rfl
@[go_sem ↓] theorem att:(Du r e).o j=if j=r then .undef else fz e r (e.o j):=Eq.trans rfl rfl
attribute [go_sem] or_false false_or
@[go_sem] theorem ak3:sI (.own z rows)=.sl z rows:=rfl
@[go_sem] theorem aie (f:D->D):mL f o (.box cs)=.bq ((cs.drop o).map f):=rfl
variable (z':Nat)
@[go_sem] theorem ak2 (len:Nat):gS o z len (.box cs)=if ((cs.drop o).take (len*z)).all La&&decide (o+len*z<=cs.length) then .sl z (rowsOf z len (cs.drop o)) else .undef:=rfl
attribute [go_sem] qV vo qU vn iR
attribute [go_sem] oX isEmpty_nil isEmpty_cons
@[go_sem] theorem adL:eG (.undef)=true:=rfl
@[go_sem] theorem agP:eG (.own z rows)=false:=rfl
@[go_sem] theorem agO:eG (.box cs)=false:=rfl
variable {I:Nat->Bool} {H:Nat->Option Nat} {u':D}
@[congr] theorem al4 {d u:D} (h:True->d=d') (v:True->u=u'):jU H I d u=jU H I d' u':=by rw [h trivial,v trivial]
variable (lv:Nat->Bool) (rh:Nat->Option Nat)
@[go_sem ↓] theorem at1 (d:D):jU rh lv (d) (.undef)=True:=by cases d<;>simp [jU]
variable (a:Bool)
@[go_sem] theorem aoI (b:Bool):jU rh lv (.bool a) (.bool b)=(a=b):=by simp [jU]
variable (k':IntKind)
@[go_sem] theorem arD (a b:Int):jU rh lv (.int k a) (.int k' b)=(k=k'/\a=b):=by simp [jU]
@[go_sem] theorem arG (a b:ByteArray):jU rh lv (.str a) (.str b)=(a=b):=by simp [jU]
@[go_sem] theorem at0 (a b:List (List D)):jU rh lv (.sl z a) (.sl z' b)=(z=z'/\a=b):=by simp [jU]
@[go_sem] theorem al5 (a b:List D):jU rh lv (.bq a) (.bq b)=(a=b):=by simp [jU]
@[go_sem] theorem arE  : jU rh lv (.nil) (.nil)=True:=by simp [jU]
@[go_sem] theorem aoK  : jU rh lv (.j4) (.j4)=True:=by simp [jU]
@[go_sem] theorem al6 (a:List (List D)):jU rh lv (.nil) (.sl z a)=(a=[]):=by simp [jU]
@[go_sem] theorem ajf (s:Nat):jU rh lv (.nil) (.ref s)=(rh s=none/\lv s=true):=by simp [jU]
@[go_sem] theorem arF (s:Nat):jU rh lv (.ref r) (.ref s)=(rh s=some r/\lv s=true):=by simp [jU]
variable (b:Nat)
@[go_sem] theorem aoH (s a:Nat):jU rh lv (.addr r a) (.addr s b)=(rh s=some r/\lv s=true/\a=b):=by simp [jU]
variable (b1 a1 b2:Nat)
@[go_sem] theorem aoL (s a:Nat):jU rh lv (.eC r a a1 z) (.eC s b b1 b2)=(rh s=some r/\lv s=true/\a=b/\a1=b1/\z=b2):=by simp [jU]
variable (b3:Nat)
@[go_sem] theorem aoJ (s a:Nat):jU rh lv (.bW r a a1 z j) (.bW s b b1 b2 b3)=(rh s=some r/\lv s=true/\a=b/\a1=b1/\z=b2/\j=b3):=by simp [jU]
@[go_sem] theorem arC (a b:List D):jU rh lv (.agg a) (.agg b)=kM rh lv a b:=by simp [jU]
@[go_sem] theorem arH (a b:List D):jU rh lv (.bT a) (.bT b)=kM rh lv a b:=by simp [jU]
variable (f':FuncId)
@[go_sem] theorem atZ (f:FuncId) (a b:List D):jU rh lv (.fn f a) (.fn f' b)=(f=f'/\kM rh lv a b):=by simp [jU]
@[go_sem] theorem aoG  : kM rh lv [] []=True:=by simp [kM]
@[go_sem] theorem al3 (a b:D) (x:List D):kM rh lv (a :: x) (b :: cs)=(jU rh lv a b/\kM rh lv x cs):=by simp [kM]
@[congr] theorem aje {d u:List D} (h:True->d=hs') (v:True->u=as):kM H I d u=kM H I hs' as:=by rw [h trivial,v trivial]
@[congr] theorem al7 {d u:D} (h:True->d=d') (v:True->u=u'):Yu H I d u=Yu H I d' u':=by rw [h trivial,v trivial]
@[go_sem] theorem arI (a b:List D):Yu rh lv (.box a) (.box b)=kM rh lv a b:=by simp [Yu]
@[go_sem] theorem arJ (a b:List (List D)):Yu rh lv (.own z a) (.own z' b)=(z=z'/\a=b):=by simp [Yu]
@[go_sem ↓] theorem amK  (x:D):tW (.undef) x=[]:=by cases x<;>simp [tW]
@[go_sem ↓] theorem api (b:Bool) (x:D):tW (.bool b) x=[]:=by cases x<;>simp [tW]
@[go_sem ↓] theorem arW (x:D):tW (.int k m) x=[]:=by cases x<;>simp [tW]
@[go_sem ↓] theorem ar0 (x:D):tW (.str s) x=[]:=by cases x<;>simp [tW]
@[go_sem ↓] theorem arX  (x:D):tW (.nil) x=[]:=by cases x<;>simp [tW]
@[go_sem ↓] theorem apk  (x:D):tW (.j4) x=[]:=by cases x<;>simp [tW]
@[go_sem ↓] theorem aug (x:D):tW (.sl z rows) x=[]:=by cases x<;>simp [tW]
@[go_sem ↓] theorem amJ (x:D):tW (.bq cs) x=[]:=by cases x<;>simp [tW]
@[go_sem ↓] theorem arY (x:D):tW (.own z rows) x=[]:=by cases x<;>simp [tW]
@[go_sem] theorem arZ (s:Nat):tW (.ref s) (.ref r)=[(s,some r)]:=by simp [tW]
@[go_sem] theorem ajR (s:Nat):tW (.ref s) .nil=[(s,none)]:=by simp [tW]
@[go_sem] theorem aph (s a:Nat):tW (.addr s a) (.addr r b)=[(s,some r)]:=by simp [tW]
@[go_sem] theorem apl (s a:Nat):tW (.eC s a a1 z) (.eC r b b1 b2)=[(s,some r)]:=by simp [tW]
@[go_sem] theorem apj (s a:Nat):tW (.bW s a a1 z j) (.bW r b b1 b2 b3)=[(s,some r)]:=by simp [tW]
@[go_sem] theorem arU (a b:List D):tW (.agg a) (.agg b)=DZ a b:=by simp [tW]
@[go_sem] theorem ar1 (a b:List D):tW (.bT a) (.bT b)=DZ a b:=by simp [tW]
@[go_sem] theorem arV (a b:List D):tW (.box a) (.box b)=DZ a b:=by simp [tW]
@[go_sem] theorem auf (f:FuncId) (a b:List D):tW (.fn f a) (.fn f' b)=DZ a b:=by simp [tW]
@[go_sem] theorem ape (x:List D):DZ [] x=[]:=by simp [DZ]
@[go_sem] theorem amG (a b:D) (x:List D):DZ (a :: x) (b :: cs)=tW a b++DZ x cs:=by simp [DZ]
variable {J:List (Nat × Option Nat)} {M:EL} {L:Nat} (t:TypeId)
section
variable {P:Program} {e:Env}
@[go_sem ↓] theorem apg:Vx e []=[]:=rfl
@[go_sem ↓] theorem amI (d:D) (r:EL):Vx e ((i,d) :: r)=tW (dm d) (e.t i)++Vx e r:=rfl
@[go_sem ↓] theorem apf (l:List (Nat × Option Nat)):Ze e l []=[]:=rfl
@[go_sem ↓] theorem amH (l:List (Nat × Option Nat)) (d:D) (r:EL):Ze e l ((i,d) :: r)=tW (dm d) (oAt e (lI l i))++Ze e l r:=rfl
@[congr] theorem amr {o:Option Nat} (h:True->o=o'):oAt e o=oAt e o':=by rw [h trivial]
@[go_sem] theorem aoX:oAt e (some r)=e.o r:=rfl
@[go_sem] theorem aoW:oAt e none=.undef:=rfl
@[go_sem] theorem asb (s:Nat):lI [] s=some s:=rfl
@[go_sem] theorem apA (o:Option Nat) (r:List (Nat × Option Nat)) (s:Nat):lI ((i,o) :: r) s=if s=i then o else lI r s:=rfl
@[go_sem] theorem aq8 (s:Nat):Ug [] s=false:=rfl
@[go_sem] theorem aoo (d:D) (r:EL) (s:Nat):Ug ((i,d) :: r) s=if s=i then true else Ug r s:=rfl
@[congr] theorem akH {m:Nat} {ts os:EL} {l:List (Nat × Option Nat)} (h:True->l=J):LeP m e ts os l=LeP m e ts os J:=by rw [h trivial]
@[congr] theorem akJ {m:Nat} {ts os:EL} {l:List (Nat × Option Nat)} (h:True->l=J):LeR m e ts os l=LeR m e ts os J:=by rw [h trivial]
@[go_sem ↓] theorem asY:Me e ts os=LeP 16 e ts os (lm (Vx e ts)):=rfl
@[go_sem ↓] theorem asZ (m:Nat):LeM m e ts os=LeP m e ts os (lm (Vx e ts)):=rfl
@[go_sem] theorem as0 (m:Nat) (l:List (Nat × Option Nat)):LeP m e ts os l=LeR m e ts os (lm (l++Ze e l os)):=rfl
@[go_sem] theorem as1 (m:Nat) (l:List (Nat × Option Nat)):LeR m e ts os l=(Xy e (lI l) os ts/\Mh m e (lI l) os os):=rfl
@[go_sem ↓] theorem anA:Xy e rh os []=True:=rfl
@[go_sem ↓] theorem akK (d:D) (r:EL):Xy e rh os ((i,d) :: r)=(jU rh (Ug os) (dm (e.t i)) d/\Xy e rh os r):=rfl
@[congr] theorem ahQ {os:EL} {d:D} {o:Option Nat} (h:True->o=o'):Pf e H os d o=Pf e H os d o':=by rw [h trivial]
@[go_sem] theorem akF (d:D):Pf e rh os d (some r)=Yu rh (Ug os) (dm (e.o r)) d:=rfl
@[go_sem] theorem akE (d:D):Pf e rh os d none=Km d:=rfl
@[go_sem] theorem ai1:Km (.own z rows)=(rows=[]):=rfl
@[go_sem] theorem aeZ (o:Option Nat):jO o rh []=True:=rfl
@[go_sem] theorem adR (x:Nat × D) (r:EL):jO none rh (x :: r)=jO none rh r:=by simp [jO]
@[go_sem] theorem adS (a:Nat) (d:D) (r:EL):jO (some a) rh ((i,d) :: r)=(rh i≠some a/\jO (some a) rh r):=rfl
@[congr] theorem acd {o:Option Nat} {os:EL} (h:True->o=o'):jO o H os=jO o' H os:=by rw [h trivial]
@[go_sem] theorem aiH (m s:Nat):NS m s (some r)=(m<=s\/r=s):=by simp [NS]
@[go_sem] theorem aiG (m s:Nat):NS m s none=(m<=s):=by simp [NS]
@[go_sem ↓] theorem anz (m:Nat):Mh m e rh os []=True:=rfl
@[go_sem ↓] theorem akG (m:Nat) (d:D) (r:EL):Mh m e rh os ((i,d) :: r)=(Ug r i=false/\Pf e rh os d (rh i)/\jO (rh i) rh r/\NS m i (rh i)/\Mh m e rh os r):=rfl
attribute [go_sem] Nat.zero_le ny Bool.true_eq_false Bool.false_eq_true ne_eq not_false_eq_true
def rtK (m:Nat) (hs':List D) (d:D) (e:Env) (v:D):Prop:=LeM m (BQ v e) (lm [(0,d)]) (wK 0 hs')
def Wa (m:Nat) (e:Env) (ts os:EL):Prop:=LeM m e ts os
@[go_sem ↓] theorem auj (m:Nat) (d v:D):rtK m cs d e v=Wa (nk m) (BQ v e) [(0,d)] (lm (wK 0 cs)):=rfl
@[congr] theorem agk {m:Nat} {ts os:EL} (u:True->m=L) (h:True->os=M):Wa m e ts os=Wa L e ts M:=by rw [u trivial,h trivial]
@[go_sem] theorem anC (m:Nat):Wa m e ts os=LeM m e ts os:=rfl
@[go_sem ↓] theorem aqJ (rs:List ResultVar) (m:Nat) (d:D):Uk P rs m cs d e=(BP P e rs/\Norm (dm (MZ P e rs)) (rtK m cs d e)):=rfl
@[go_sem ↓] theorem apy (v:D):(BQ v e).t j=if j=0 then v else .undef:=Eq.trans rfl rfl
@[go_sem ↓] theorem apx (v:D):(BQ v e).o j=e.o j:=Eq.trans rfl rfl
@[go_sem ↓] theorem ajZ:BP P e []=True:=rfl
@[go_sem ↓] theorem ahk (r:ResultVar) (rs:List ResultVar):BP P e (r :: rs)=(Lr P e r/\BP P e rs):=rfl
@[go_sem ↓] theorem amQ (t:Nat):Lr P e (.tmp t)=True:=rfl
@[go_sem ↓] theorem aj0 (a:Nat):Lr P e (.cell a t)=G6 e (gC P t) (e.t a):=by simp only [Lr,G6]<;>rfl
@[go_sem ↓] theorem apv (t:Nat):Ls P e (.tmp t)=e.t t:=rfl
@[go_sem ↓] theorem amR (a:Nat):Ls P e (.cell a t)=ldT e (gC P t) (e.t a):=by simp only [Ls,ldT]<;>rfl
@[go_sem ↓] theorem apt (r:ResultVar):MZ P e [r]=Ls P e r:=rfl
@[go_sem ↓] theorem apu (a b:ResultVar) (l:List ResultVar):MZ P e (a :: b :: l)=.bT ((a :: b :: l).map (Ls P e)):=rfl
@[go_sem ↓] theorem amP:MZ P e []=.bT []:=rfl
end
variable (op:BinOp)
@[go_sem] theorem anT (a b:Int):wX op (.int k a) (.int k' b)=MD op k a b:=rfl
@[go_sem] theorem anU (a b:ByteArray):wX op (.str a) (.str b)=sop op a b:=rfl
@[go_sem] theorem akY (b:Bool):wX op (.bool a) (.bool b)=Mw op (a==b):=rfl
@[go_sem] theorem anS (a b:List D):wX op (.agg a) (.agg b)=Mw op (cZ a b):=rfl
@[go_sem] theorem aqO:wX op .gl .gl=Mw op true:=rfl
@[go_sem] theorem aqN:wX op (.addr r o) .j4=Mw op false:=rfl
@[go_sem] theorem aqZ (b:Bool):Mw .eql b=.bool b:=rfl
@[go_sem] theorem aq0 (b:Bool):Mw .neq b=.bool (!b):=rfl
@[go_sem] theorem aeo (a b:D) (x:List D):cZ (a :: x) (b :: cs)=(xg a b&&cZ x cs):=rfl
@[go_sem] theorem agw:cZ [] cs=true:=by simp [cZ]
@[go_sem] theorem aij (a b:Int):xg (.int k a) (.int k' b)=(a==b):=rfl
@[go_sem] theorem agu (b:Bool):xg (.bool a) (.bool b)=(a==b):=rfl
section
variable {P:Program}
@[go_sem] theorem akW (c:Bool) (a b:Int):vQ P c op t (.int k a) (.int k' b)=oh op k k' b:=rfl
@[go_sem] theorem akX (c:Bool) (a b:ByteArray):vQ P c op t (.str a) (.str b)=OT op a b:=rfl
@[go_sem] theorem aib (c:Bool) (b:Bool):vQ P c op t (.bool a) (.bool b)=(isEq op/\dV P t=.bool):=rfl
@[go_sem] theorem akV (c:Bool) (a b:List D):vQ P c op t (.agg a) (.agg b)=(isEq op/\Gb P t=true/\uy (iZ P 9 t) a b):=rfl
@[go_sem] theorem anR (c:Bool):vQ P c op t .gl .gl=(isEq op/\isIface P t=true/\c=true):=rfl
@[go_sem] theorem anQ (c:Bool):vQ P c op t (.addr r o) .j4=(isEq op/\Kn (dV P t)):=rfl
end
@[go_sem] theorem aoq:isEq .eql=True:=by simp [isEq]
@[go_sem] theorem aor:isEq .neq=True:=by simp [isEq]
@[go_sem] theorem alQ:Kn .ptr=True:=rfl
attribute [go_sem] isConst
variable (ls:List tX)
@[go_sem] theorem abV (a b:List D):uy (some ls) a b=ff ls a b:=rfl
@[go_sem] theorem aeR:ff [] [] []=True:=rfl
@[go_sem] theorem adO (l:tX) (a b:D) (x:List D):ff (l :: ls) (a :: x) (b :: cs)=(KG l a b/\ff ls x cs):=rfl
@[go_sem] theorem ajg (a b:Int):KG .int (.int k a) (.int k' b)=(k=k'):=rfl
@[go_sem] theorem agW (b:Bool):KG .bool (.bool a) (.bool b)=True:=rfl
@[go_sem] theorem aq9 (a b:Int):MD .add k a b=.int k (k.wrap (a+b)):=rfl
@[go_sem] theorem aro (a b:Int):MD .sub k a b=.int k (k.wrap (a-b)):=rfl
@[go_sem] theorem arh (a b:Int):MD .mul k a b=.int k (k.wrap (a*b)):=rfl
@[go_sem] theorem arj (a b:Int):MD .quo k a b=.int k (k.wrap (a.tdiv b)):=rfl
@[go_sem] theorem ark (a b:Int):MD .rem k a b=.int k (a.tmod b):=rfl
@[go_sem] theorem ara (a b:Int):MD .eql k a b=.bool (a==b):=rfl
@[go_sem] theorem ari (a b:Int):MD .neq k a b=.bool (a != b):=rfl
@[go_sem] theorem arf (a b:Int):MD .lss k a b=.bool (decide (a < b)):=rfl
@[go_sem] theorem ard (a b:Int):MD .leq k a b=.bool (decide (a<=b)):=rfl
@[go_sem] theorem arc (a b:Int):MD .gtr k a b=.bool (decide (b < a)):=rfl
@[go_sem] theorem arb (a b:Int):MD .geq k a b=.bool (decide (b<=a)):=rfl
def P3 (k:IntKind) (a b:Int):Int:=k.wrap (a*2 ^ (min b.toNat k.bits))
def Af (k:IntKind) (a b:Int):Int:=a.fdiv (2 ^ (min b.toNat k.bits))
def aeI (k:IntKind) (a b:Int):Int:=k.wrap (BitVec.ofInt k.bits a &&& BitVec.ofInt k.bits b).toNat
def ior (k:IntKind) (a b:Int):Int:=k.wrap (BitVec.ofInt k.bits a ||| BitVec.ofInt k.bits b).toNat
def atD (k:IntKind) (n:Int):Int:=k.wrap (BitVec.ofInt k.bits (if k.signed then -1 else k.max) ^^^ BitVec.ofInt k.bits n).toNat
@[go_sem] theorem arl (a b:Int):MD .shl k a b=.int k (P3 k a b):=rfl
@[go_sem] theorem arn (a b:Int):MD .shr k a b=.int k (Af k a b):=rfl
@[go_sem] theorem aq' (a b:Int):MD .and k a b=.int k (aeI k a b):=rfl
@[go_sem] theorem atF (a b:Int):MD .or k a b=.int k (ior k a b):=rfl
@[go_sem] theorem alC (b:Int):oh .add k k' b=(k=k'):=rfl
@[go_sem] theorem alP (b:Int):oh .sub k k' b=(k=k'):=rfl
@[go_sem] theorem alJ (b:Int):oh .mul k k' b=(k=k'):=rfl
@[go_sem] theorem alL (b:Int):oh .quo k k' b=(k=k'/\b≠0):=rfl
@[go_sem] theorem alM (b:Int):oh .rem k k' b=(k=k'/\b≠0):=rfl
@[go_sem] theorem alE (b:Int):oh .eql k k' b=(k=k'):=rfl
@[go_sem] theorem alK (b:Int):oh .neq k k' b=(k=k'):=rfl
@[go_sem] theorem alI (b:Int):oh .lss k k' b=(k=k'):=rfl
@[go_sem] theorem alH (b:Int):oh .leq k k' b=(k=k'):=rfl
@[go_sem] theorem alG (b:Int):oh .gtr k k' b=(k=k'):=rfl
@[go_sem] theorem alF (b:Int):oh .geq k k' b=(k=k'):=rfl
@[go_sem] theorem alD (b:Int):oh .and k k' b=(k=k'):=rfl
@[go_sem] theorem aop (b:Int):oh .or k k' b=(k=k'):=rfl
@[go_sem] theorem alN (b:Int):oh .shl k k' b=(0<=b):=rfl
@[go_sem] theorem alO (b:Int):oh .shr k k' b=(0<=b):=rfl
@[go_sem] theorem asg (a b:ByteArray):sop .add a b=.str (a++b):=rfl
@[go_sem] theorem ash (a b:ByteArray):sop .eql a b=.bool (a.toList==b.toList):=rfl
@[go_sem] theorem asi (a b:ByteArray):sop .neq a b=.bool (!(a.toList==b.toList)):=rfl
@[go_sem] theorem am1 (a b:ByteArray):OT .add a b=(a.size+b.size<=2 ^ 62):=rfl
@[go_sem] theorem am2 (a b:ByteArray):OT .eql a b=True:=rfl
@[go_sem] theorem am3 (a b:ByteArray):OT .neq a b=True:=rfl
@[go_sem] theorem anc (b:Bool):yu .not (.bool b)=.bool (!b):=rfl
@[go_sem] theorem anb (n:Int):yu .neg (.int k n)=.int k (k.wrap (0-n)):=rfl
@[go_sem] theorem ane (n:Int):yu .xor (.int k n)=.int k (atD k n):=rfl
@[go_sem] theorem akm (b:Bool):tV .not (.bool b)=True:=by simp [tV]
@[go_sem] theorem akl (n:Int):tV .neg (.int k n)=True:=by simp [tV]
@[go_sem] theorem akn (n:Int):tV .xor (.int k n)=True:=by simp [tV]
@[go_sem] theorem alc (s:Ty) (n:Int):NJ s (.int k) (.int k' n)=.int k (k.wrap n):=rfl
@[go_sem] theorem aix (k1 k2:IntKind) (n:Int):JP (.int k1) (.int k2) (.int k n)=True:=by simp [JP]
@[go_sem] theorem ajx:ab9 (.addr r o)=True:=rfl
def JY:List FT->Nat->Nat
 | [],_=>0
 | x :: _,0=>x.off
 | _ :: r,n+1=>JY r n
theorem IV:∀ (fs:List FT) (f:Nat),((fs[f]?).map (·.off)).getD 0=JY fs f
 | [],f=>by simp [JY]
 | x :: r,0=>by simp [JY]
 | x :: r,n+1=>by simp [JY,IV r n]
@[go_sem] theorem alh (x:FT) (r:List FT):JY (x :: r) 0=x.off:=rfl
variable (n:Nat)
@[go_sem] theorem alg (x:FT) (r:List FT):JY (x :: r) (n+1)=JY r n:=rfl
variable (fs:List FT)
@[go_sem] theorem an7 (f:Nat):faV fs f (.addr r o)=.addr r (o+JY fs f):=by simp only [faV,IV]
@[go_sem] theorem alk (f k:Nat):faV fs f (.bX r z i k)=.bX r z i (k+JY fs f):=by simp only [faV,IV]
@[go_sem] theorem alj (f:Nat):faV fs f (.bq cs)=.bq (cs.drop (JY fs f)):=by simp only [faV,IV]
@[go_sem] theorem ali (f:Nat):X5 fs f (.addr r o)=(f < fs.length):=rfl
@[go_sem] theorem aiJ (f k:Nat):X5 fs f (.bX r z i k)=(f < fs.length):=rfl
@[go_sem] theorem aiI (f:Nat):X5 fs f (.bq cs)=(f < fs.length):=rfl
@[go_sem] theorem atC (t:Ty) (i:Int):iaT t (.sl z rows) (.int k i)=.bq (rows.getD i.toNat []):=rfl
@[go_sem] theorem aq6 (i:Int):iaT (.slice z b a) (.ref r) (.int k i)=.bX r z i.toNat 0:=rfl
@[go_sem] theorem aom (t:Ty) (lo len:Nat) (i:Int):iaT t (.eC r z lo len) (.int k i)=.bX r z (lo+i.toNat) 0:=rfl
variable (off:Nat)
@[go_sem] theorem aol (i:Int):iaT (.arr n z a) (.addr r o) (.int k i)=.addr r (o+i.toNat*z):=rfl
@[go_sem] theorem alB (i:Int):iaT (.arr n z a) (.bq cs) (.int k i)=.bq (cs.drop (i.toNat*z)):=rfl
@[go_sem] theorem aok (i:Int):G3 e (.slice z' b a) (.sl z rows) (.int k i)=(z=z'/\0<=i/\i < rows.length):=rfl
@[go_sem] theorem alA (i:Int):G3 e (.slice z b a) (.ref r) (.int k i)=(0<=i/\WX z i (e.o r)):=rfl
@[go_sem] theorem amE (i:Int):WX z i (.own z' rows)=(z'=z/\i < rows.length):=rfl
@[go_sem] theorem aiV (lo len:Nat) (i:Int):G3 e (.slice z' b a) (.eC r z lo len) (.int k i)=(z=z'/\0<=i/\i < len):=rfl
@[go_sem] theorem aiU (i:Int):G3 e (.arr n z a) (.addr r o) (.int k i)=(0<=i/\i < n):=rfl
@[go_sem] theorem agK (i:Int):G3 e (.arr n z a) (.bq cs) (.int k i)=(0<=i/\i < n):=rfl
variable (ea:Bool)
@[go_sem] theorem arp (i:Int):ixV (.arr n z ea) (.agg cs) (.int k i)=part ea (i.toNat*z) z cs:=rfl
@[go_sem] theorem aos (i:Int):Sj (.arr n z ea) (.agg cs) (.int k i)=(0<=i/\i < n/\cs.length=n*z):=rfl
@[go_sem] theorem arq (t:Ty) (i:Int):ixV t (.str s) (.int k i)=.int .u8 ((s[i.toNat]?).map (·.toNat)|>.getD 0):=rfl
@[go_sem] theorem aot (i:Int):Sj .str (.str s) (.int k i)=(0<=i/\i < s.size):=by simp [Sj]
@[go_sem] theorem ao':part true o n cs=.agg ((cs.drop o).take n):=rfl
@[go_sem] theorem apa:part false o n cs=(cs.drop o).headD .undef:=rfl
def an8 (f:Option FT) (cs:List D):D:=match f with
 | some x=>part x.agg x.off x.sz cs
 | none=>.undef
def abl (f:Option FT) (cs:List D):Prop:=match f with
 | some x=>x.off+x.sz<=cs.length
 | none=>False
@[go_sem] theorem aoa (f:Nat):X9 fs f (.agg cs)=an8 fs[f]? cs:=rfl
@[go_sem] theorem aln (f:Nat):NZ fs f (.agg cs)=abl fs[f]? cs:=rfl
@[go_sem] theorem alo (s:Nat):an8 (some ⟨o,s,a⟩) cs=part a o s cs:=rfl
@[go_sem] theorem agE (s:Nat):abl (some ⟨o,s,a⟩) cs=(o+s<=cs.length):=rfl
variable (y:Nat) (hi:Int)
section
variable {e:Env}
@[go_sem] theorem arK (r:List (List D)):Qc e (.slice z b a) (.sl y r)=.int .i64 r.length:=rfl
@[go_sem] theorem aoN:Qc e (.slice z b a) .nil=.int .i64 0:=rfl
@[go_sem] theorem aoO:Qc e (.slice z b a) (.ref r)=I4 (e.o r):=rfl
@[go_sem] theorem ahc (r:List (List D)):I4 (.own z r)=.int .i64 r.length:=rfl
@[go_sem] theorem al' (lo:Nat):Qc e (.slice z b a) (.eC r y lo l)=.int .i64 l:=rfl
@[go_sem] theorem al9 (lo:Nat):Qc e (.slice z b a) (.bW r y lo l c)=.int .i64 l:=rfl
@[go_sem] theorem aoP:Qc e .str (.str s)=.int .i64 s.size:=rfl
@[go_sem] theorem al8 (r:List (List D)):vf e (.slice z b a) (.sl y r)=True:=rfl
@[go_sem] theorem aji:vf e (.slice z b a) .nil=True:=rfl
@[go_sem] theorem ajj:vf e (.slice z b a) (.ref r)=DR (e.o r):=rfl
@[go_sem] theorem afj (r:List (List D)):DR (.own z r)=True:=rfl
@[go_sem] theorem agZ (lo:Nat):vf e (.slice z b a) (.eC r y lo l)=True:=rfl
@[go_sem] theorem agY (lo:Nat):vf e (.slice z b a) (.bW r y lo l c)=True:=rfl
@[go_sem] theorem ajk:vf e .str (.str s)=True:=rfl
def slX (z z' N:Nat) (lo hi:Int):Prop:=z=z'/\0<=lo/\lo<=hi/\hi<=N
@[go_sem] theorem aum (N:Nat) (lo:Int):slX z z' N lo hi=(z=z'/\0<=lo/\lo<=hi/\hi<=N):=rfl
theorem Ph (z z' N:Nat) (k:IntKind) (lo:Int) (k':IntKind) (hi:Int):SlK (if z=z' then some N else none) (.int k lo) (.int k' hi) (fun _ _ _=>True)=slX z z' N lo hi:=by
 unfold slX;by_cases h:z=z'
 ·simp [h,SlK]
 ·simp [h,SlK]
@[go_sem] theorem aul (lo:Int):TJ e (.slice z' b a) (.sl z rows) (.int k lo) (some (.int k' hi))=.sl z ((rows.take hi.toNat).drop lo.toNat):=rfl
@[go_sem] theorem apK (lo:Int):ou e (.slice z' b a) (.sl z rows) (.int k lo) (some (.int k' hi))=slX z z' rows.length lo hi:=Ph _ _ _ _ _ _ _
@[go_sem] theorem asf (lo:Int):TJ e .str (.str s) (.int k lo) (some (.int k' hi))=.str (s.extract lo.toNat hi.toNat):=rfl
@[go_sem] theorem amW (lo:Int):ou e .str (.str s) (.int k lo) (some (.int k' hi))=(0<=lo/\lo<=hi/\hi<=s.size):=by simp [ou,slC,Ja,SlK]
@[go_sem] theorem apO (lo:Int):TJ e .str (.str s) (.int k lo) none=.str (s.extract lo.toNat s.size):=by simp [TJ,Ja,BY,ZG,VM]
@[go_sem] theorem akc (lo:Int):ou e .str (.str s) (.int k lo) none=(0<=lo/\lo<=s.size):=by simp [ou,slC,Ja,BY,SlK]
def VN (z r:Nat) (lo:Int) (hi:Option Int) (u:D):D:=match u with
 | .own z' rows=>.eC r z' lo.toNat ((hi.getD (BY (if z'=z then some rows.length else none))).toNat-lo.toNat)
 | _=>.undef
def GJ (z:Nat) (lo:Int) (hi:Option Int) (u:D):Prop:=match u with
 | .own z' rows=>slX z' z rows.length lo (hi.getD rows.length)
 | _=>False
@[go_sem] theorem apJ (lo:Int):VN z r lo (some hi) (.own z' rows)=.eC r z' lo.toNat (hi.toNat-lo.toNat):=rfl
@[go_sem] theorem amT (lo:Int):VN z r lo none (.own z rows)=.eC r z lo.toNat (rows.length-lo.toNat):=by simp [VN,BY]
@[go_sem] theorem aj' (lo:Int):GJ z lo (some hi) (.own z' rows)=slX z' z rows.length lo hi:=rfl
@[go_sem] theorem ahq (lo:Int):GJ z lo none (.own z' rows)=slX z' z rows.length lo rows.length:=rfl
@[go_sem] theorem apL (lo:Int):TJ e (.slice z' b a) (.bW r o z l c) (.int k lo) (some (.int k' hi))=.bW r (o+lo.toNat*z) z (hi.toNat-lo.toNat) (c-lo.toNat):=rfl
@[go_sem] theorem amX (lo:Int):TJ e (.slice z b a) (.bW r o z l c) (.int k lo) none=.bW r (o+lo.toNat*z) z (l-lo.toNat) (c-lo.toNat):=by
 simp [TJ,Ja,BY,ZG,VM]
@[go_sem] theorem aka (lo:Int):ou e (.slice z' b a) (.bW r o z l c) (.int k lo) (some (.int k' hi))=slX z z' c lo hi:=Ph _ _ _ _ _ _ _
@[go_sem] theorem ahr (lo:Int):ou e (.slice z b a) (.bW r o z l c) (.int k lo) none=(0<=lo/\lo<=l/\l<=c):=by
 simp [ou,slC,Ja,BY,SlK]
@[go_sem] theorem ase (lo:Int):TJ e (.slice z b a) (.ref r) (.int k lo) (some (.int k' hi))=VN z r lo (some hi) (e.o r):=by
 simp only [TJ,Option.getD_some,ZG,VM,VN];cases e.o r<;>rfl
@[go_sem] theorem apM (lo:Int):TJ e (.slice z b a) (.ref r) (.int k lo) none=VN z r lo none (e.o r):=by
 simp only [TJ,Ja,Option.getD_none,ZG,VM,VN];cases e.o r<;>rfl
@[go_sem] theorem amV (lo:Int):ou e (.slice z b a) (.ref r) (.int k lo) (some (.int k' hi))=GJ z lo (some hi) (e.o r):=by
 simp only [ou,slC,Ja,Option.getD_some,GJ];cases e.o r<;>try rfl
 exact Ph _ _ _ _ _ _ _
@[go_sem] theorem akb (lo:Int):ou e (.slice z b a) (.ref r) (.int k lo) none=GJ z lo none (e.o r):=by
 simp only [ou,slC,Ja,Option.getD_none,GJ];cases e.o r<;>try rfl
 simp only [Ph,slX];rename_i z' rows;by_cases h:z'=z
 ·simp [h,BY]
 ·simp [h]
end
@[go_sem] theorem alm:mo cs []=cs:=rfl
@[go_sem] theorem aiK (s:Nat) (v:D) (r:List (Nat × Nat × D)):mo cs ((o,s,v) :: r)=mo (gD cs o v.cells) r:=rfl
@[go_sem] theorem aiL:oN n []=True:=rfl
@[go_sem] theorem agD (s:Nat) (v:D) (r:List (Nat × Nat × D)):oN n ((o,s,v) :: r)=(v.cells.length=s/\o+s<=n/\(∀ c∈v.cells,dZ c)/\oN n r):=rfl
@[go_sem] theorem aho:rowsOf z 0 cs=[]:=rfl
@[go_sem] theorem ahn:rowsOf z (n+1) cs=cs.take z :: rowsOf z n (cs.drop z):=rfl
@[go_sem] theorem asx (xs:List D):gD cs o xs=cs.take o++xs++cs.drop (o+xs.length):=rfl
@[go_sem] theorem aiQ (a d:D) (l:List D):(a :: l).getD 0 d=a:=rfl
@[go_sem] theorem aiR (a d:D) (l:List D):(a :: l).getD (n+1) d=l.getD n d:=rfl
@[go_sem] theorem aiZ:tG []=True:=rfl
@[go_sem] theorem agL (n:Int) (r:List D):tG (.int k n :: r)=tG r:=rfl
@[go_sem] theorem alp (f:D->D->D) (a b:D):RV f [a,b]=f a b:=rfl
@[go_sem] theorem amd (x:Int):SG (.int k x) (.int k' hi)=.int k (max x hi):=by
 show D.int k (if hi > x then hi else x)=_;congr 1;rw [Int.max_def];split<;>split<;>omega
@[go_sem] theorem ame (x:Int):SK (.int k x) (.int k' hi)=.int k (min x hi):=by
 show D.int k (if hi < x then hi else x)=_;congr 1;rw [Int.min_def];split<;>split<;>omega
@[go_sem] theorem aip (b:Bool):D.cells (.bool b)=[.bool b]:=rfl
@[go_sem] theorem ak9:D.cells (.int k m)=[.int k m]:=rfl
@[go_sem] theorem alb:D.cells (.str s)=[.str s]:=rfl
@[go_sem] theorem ak':D.cells (.nil)=[.nil]:=rfl
@[go_sem] theorem anZ:D.cells (.sl z rows)=[.sl z rows]:=rfl
@[go_sem] theorem ala:D.cells (.ref r)=[.ref r]:=rfl
@[go_sem] theorem anY (f:FuncId):D.cells (.fn f cs)=[.fn f cs]:=rfl
@[go_sem] theorem ak8:D.cells (.agg cs)=cs:=rfl
@[go_sem] theorem agv (b:Bool):dZ (.bool b)=True:=rfl
@[go_sem] theorem aik:dZ (.int k m)=True:=rfl
@[go_sem] theorem ain:dZ (.str s)=True:=rfl
@[go_sem] theorem ail:dZ (.nil)=True:=rfl
@[go_sem] theorem ak7:dZ (.sl z rows)=True:=rfl
@[go_sem] theorem aim:dZ (.ref r)=True:=rfl
@[go_sem] theorem ak6 (f:FuncId):dZ (.fn f cs)=True:=rfl
@[go_sem] theorem ahd (b:Bool):bG (.bool b)=True:=by simp [bG,dZ,D.names]
@[go_sem] theorem ajN:bG (.int k m)=True:=by simp [bG,dZ,D.names]
@[go_sem] theorem ajP:bG (.str s)=True:=by simp [bG,dZ,D.names]
@[go_sem] theorem ajO:bG (.nil)=True:=by simp [bG,dZ,D.names]
@[go_sem] theorem amF:bG (.sl z rows)=True:=by simp [bG,dZ,D.names]
end Go.Abs
namespace Go.Abs
open Go.ChangeShapes Go.WideShapes Go.ChangeAt Go.RowKit
variable {f:FuncId} {W e:World} {g:Nat} {a:String} {apart handsOn d c:Bool} {s:ChangeSpec} {b:List PathCond} {i:TypeId} {h:List MemPlace}
section
variable {H:Type} {enc:TypeId × Value->H} {P:Program}
def W9 (P:Program) (ts:List TypeId):Bool:=ts.all fun t=>P.readableRec t&&decide (t < P.types.size)
theorem AN (m:laidOutB P=true) {W k:World} (l:Below W.heap.size W k) {sp:Nat->Bool}:∀ {ts:List TypeId} {vs:List Value} {ds:List (DataW H)} {p:List MemPlace},W9 P ts=true ->
  DataW.TrodAll enc P W 0 (fun _=>true) true ts vs ds p->(∀ x∈p,x.block < W.heap.size)->(∀ x∈p,sp x.block=true)->DataW.TrodAll enc P k 0 sp true ts vs ds p
 | [],_,_,_,_,h,_,_=>by
  obtain ⟨rfl,rfl,rfl⟩:=trodAll_nil h;exact trodAll_mk0
 | t :: ts,_,_,_,hr,h,hlt,hsp=>by
  obtain ⟨v,vs',d,ds',p,q,rfl,rfl,rfl,n,o⟩:=trodAll_cons h;simp only [W9,List.all_cons,Bool.and_eq_true,bL] at hr;refine ⟨p,q,?_,AN m l (by simpa [W9] using hr.2) o (fun x j=>hlt x (List.mem_append_right _ j)) (fun x j=>hsp x (List.mem_append_right _ j)),rfl⟩;exact WideElems.Trod_stays m hr.1.1 hr.1.2 n (fun x j=>l.same (hlt x (List.mem_append_left _ j))) (fun x j=>hsp x (List.mem_append_left _ j))
theorem Spec.law {ds:List D} (h:Spec P f [] ds [] (.bool true)) {vs:Array Value} (l:aaE W fun _=>none) (o:vs.size=ds.length) (hr:∀ (i:Nat) v x,vs[i]?=some v->ds[i]?=some x->aK (cx W (fun _=>none) (fun _=>none)) v x) :
  Calls P f vs W fun e j=>e=.returned (.bool true)/\Below W.heap.size W j:=by
 refine Calls.mono (h.2 W (fun _=>none) (fun _=>none) (fun _=>none) (fun _=>none) vs l (by intro b m h;cases h) (by intro b lo hi h;cases h) o hr ?_) ?_
 ·intro r;have:([]:List D).getD r .undef=.undef:=by simp
  rw [this];rfl
 ·rintro e j ⟨v,rfl,ho⟩;obtain ⟨lev,own,S,_,_,p,_,_⟩:=ho.rep;have:=p.kF;subst this;exact ⟨rfl,ho.os,ho.tape,ho.output,ho.size,fun k n=>ho.old k n rfl⟩
def anK (W:World) (t:Nat × Mj):Prop:=∃ E x c,W.heap[t.1]?=some (.cells c E x)/\t.2.holds c
theorem yU (h:∀ t∈tabs,anK W t):aaE W fun _=>none:=fun t j=>⟨rfl,h t j⟩
theorem uw {f:Func} {args:Array Value} {ds gs:List (DataW H)}
  (z:DataW.Whole enc P f.params.toList s.vars apart W args.toList ds gs h) (D:s.vars=[]) (u:Below W.heap.size W e) (G:laidOutB P=true) (hr:W9 P f.params.toList=true)
  (t:f.resultTypes = #[i]) (C:P.underlying i=some .bool) (v:s.fn H (ds++gs)={ results:=[.lit (.bool true)],args:=ds }) :
  s.post enc P f apart c handsOn d W args (.bool true) e:=by
 have o:=z;obtain ⟨p,q,E,y,rfl,J,I⟩:=z;rw [D] at y;obtain ⟨rfl,rfl⟩:=trodVars_none y;have n:∀ x∈p,x.block < W.heap.size:=fun x m=>by simpa using o.lt x (by simp [m])
 have j:∀ sp:Nat->Bool,(∀ x∈p,sp x.block=true)->DataW.TrodAll enc P e 0 sp true f.params.toList args.toList (s.fn H (ds++[])).args p:=fun sp w=>by
  rw [v];exact AN G u hr E n w
 have k:∀ sp:Nat->Bool,DataW.TrodVars enc P e sp s.vars (s.fn H (ds++[])).vars []:=fun sp=>by
  rw [v,D];rfl
 have l:∀ (b:Nat) (sp:Nat->Bool) (A:Bool),DataW.TrodAll enc P e b sp A f.resultTypes.toList ((Value.bool true).resultList f.resultTypes.size) (s.fn H (ds++[])).results []:=fun b sp A=>by
  rw [v,t];exact trodAll_cons_mk (shut_bool C _) trodAll_mk0
 have r:∀ x∈p,(fun b=>decide (b < W.heap.size)) x.block=true:=fun x m=>by simpa using n x m
 refine ⟨ds,[],p++[],[],p,[],o,l _ _ _,j _ r,k _,World.keptBut_mono (fun x m=>⟨m,?_⟩) (u.frame (· ∈ p++[])),fun _=>?_⟩
 ·simpa using m
 ·refine ⟨ok_one t rfl (okWide_bool_mk C _),_,_,([]++p)++[],⟨[]++p,[],trodAll_append (j _ (fun _ _=>rfl)) (l _ _ _),k _,rfl,?_,?_⟩,?_⟩
  ·intro b off B;rw [u.frozen (n (.cell b off) (by simpa using B))];exact J b off (by simpa using B)
  ·intro F;simpa using I F
  ·intro x m _;simpa using m
end
end Go.Abs
namespace Go.Abs
open Go.RowKit
variable {f:FuncId} {d:D} {ds:List D} {e:Nat->Option Value} {b:Nat->Option Nat}
section
variable {P:Program}
theorem Spec.acg (H:Enters P f)
  (h:∀ (w:World) (a:Nat->Option Nat) (j:Nat->Option Value) (vs:Array Value),(∀ t∈tabs,∃ E x c,w.heap[t.1]?=some (.cells c E x)/\t.2.holds c)->(∀ b m,a b=some m->b < w.heap.size)->vs.size=ds.length->(∀ (i:Nat) v x,vs[i]?=some v->ds[i]?=some x->aK (cx w a j) v x) ->
   Calls P f vs w fun e w'=>∃ v,e=.returned v/\Below w.heap.size w w'/\aK (cx w' a j) v d) (G:d.names=[]):Spec P f [] ds [] d:=by
 refine ⟨H,?_⟩;intro w a u own0 j vs F q B k hr ho;refine (h w a j vs (fun t K=>(F t K).2) q k hr).mono ?_;rintro e w' ⟨v,rfl,hb,hv⟩;have l:∀ b lo g,u b=some (lo,g)->lX w w' b lo g:=by
  intro b lo g I;obtain ⟨c0,c,E,p,y,z,A⟩:=B b lo g I;have o:b < w.heap.size:=(Array.getElem?_eq_some_iff.1 p).1;exact ⟨c0,c,E,p,(hb.block b o).trans y,z,A⟩
 refine ⟨v,rfl,hb.os,hb.tape,hb.output,hb.size,fun b n _=>hb.block b n,l,a,fun _=>none,fun _=>none,?_,fun _ _ _=>rfl,?_,?_,?_⟩
 ·intro b m J;exact Nat.lt_of_lt_of_le (q b m J) hb.size
 ·exact aK.keep (C:=cx w' a j) (C':=cx w' a fun _=>none) (fun _ _ h=>h) hv (fun s k=>by rw [G] at k;cases k)
 ·intro r;have:([]:List D).getD r .undef=.undef:=by simp
  rw [this];rfl
 ·intro i g;simp at g
theorem Spec.of_same (k:Enters P f)
  (h:∀ (w:World) (c:Nat->Option Nat) (a:Nat->Option Value) (vs:Array Value),vs.size=ds.length->(∀ (i:Nat) v x,vs[i]?=some v->ds[i]?=some x->aK (cx w c a) v x) ->
   ∃ v,Calls P f vs w (fun e w'=>e=.returned v/\w'=w)/\aK (cx w c a) v d) (j:d.names=[]):Spec P f [] ds [] d:=by
 refine Spec.acg k ?_ j;intro w c a vs _ hl l hr;obtain ⟨v,g,m⟩:=h w c a vs l hr;refine g.mono ?_;rintro e w' ⟨rfl,rfl⟩;exact ⟨v,rfl,Below.refl _ _,m⟩
end
end Go.Abs
namespace Go.Abs
attribute [go_sem] or_self or_true true_or List.length_map Int.cast_ofNat_Int
attribute [go_sem] eq_self bne_self_eq_false List.getD_cons_zero List.getD_cons_succ
def vZ (f:Nat->D):List Nat->EL
 | []=>[]
 | i :: l=>(i,f i) :: vZ f l
variable (f:Nat->D)
@[go_sem] theorem alS:vZ f []=[]:=rfl
variable (i:Nat) (l:List Nat)
@[go_sem] theorem ai5:vZ f (i :: l)=(i,f i) :: vZ f l:=rfl
def v7 (f:Nat->D):List Nat->EL
 | []=>[]
 | i :: l=>osI (eG (f i)) i (f i) []++v7 f l
@[go_sem] theorem alT:v7 f []=[]:=rfl
@[go_sem] theorem ai6:v7 f (i :: l)=osI (eG (f i)) i (f i) []++v7 f l:=rfl
variable {kO kT:EL} {body:(Exit->Env->Prop)->Env->Prop} {e:Env} {Q:Exit->Env->Prop}
theorem aM.vh {T:Type} (q j:List Nat) (ts os:T->EL) (I:T->Prop) (m:T->Nat) (s0:T)
  (h:I s0) (g:Me e (ts s0++kT) (os s0++kO))
  (hr:∀ s,I s->body (kV (fun s=>ts s++kT) (fun s=>os s++kO) I m s Q) (tL (ts s++kT) (os s++kO)))
  (hT:vZ e.t q=kT:=by simp only [go_sem,seval]<;>exact rfl) (hO:v7 e.o j=kO:=by simp only [go_sem,seval]<;>exact rfl):aM body Q e:=
 ⟨T,fun s=>ts s++kT,fun s=>os s++kO,I,m,s0,h,g,hr⟩
def ais (n:Nat) (I:Nat->Prop) (i:Nat):Prop:=i<=n/\I i
def ait (n:Nat) (i:Nat):Nat:=n-i
theorem aM.count (n:Nat) (q m:List Nat) (ts os:Nat->EL) (I:Nat->Prop)
  (j:I 0) (g:Me e (ts 0++kT) (os 0++kO))
  (hr:∀ i,i<=n->I i->body (kV (fun s=>ts s++kT) (fun s=>os s++kO) (ais n I) (ait n) i Q) (tL (ts i++kT) (os i++kO)))
  (hT:vZ e.t q=kT:=by simp only [go_sem,seval]<;>exact rfl) (hO:v7 e.o m=kO:=by simp only [go_sem,seval]<;>exact rfl):aM body Q e:=
 ⟨Nat,fun s=>ts s++kT,fun s=>os s++kO,ais n I,ait n,0,⟨Nat.zero_le _,j⟩,g,fun i h=>hr i h.1 h.2⟩
variable {c:Nat->Prop}
theorem av.eS {n i:Nat} {ts os:Nat->EL} (g:i < n) (h:c (i+1)) (j:Me e (ts (i+1)) (os (i+1))):av ts os (ais n c) (ait n) i e:=
 ⟨i+1,⟨g,h⟩,j,by show n-(i+1) < n-i;omega⟩
variable {d:Prop}
section
variable {P:Program} {n np:Nat} {e:Env} {a b:Code} {Q:Exit->Env->Prop} {p:Prop} [Decidable p] {k:Bool->Prop}
theorem bF.fM (g:p->mF P n np a Q e) (j:¬ p->mF P n np b Q e):bF P n np a b Q e (.bool (decide p)):=⟨fun h=>g (of_decide_eq_true h),fun h=>j (of_decide_eq_false h)⟩
theorem bF.QX (g:¬ p->mF P n np a Q e) (j:p->mF P n np b Q e):bF P n np a b Q e (.bool (!decide p)):=bF.ig (fun h=>g (of_decide_eq_false h)) (fun h=>j (of_decide_eq_true h))
theorem bR.fM (g:p->k true) (j:¬ p->k false):bR (some (decide p)) k:=bR.split (fun h=>g (of_decide_eq_true h)) (fun h=>j (of_decide_eq_false h))
theorem bR.QX (g:¬ p->k true) (j:p->k false):bR (some (!decide p)) k:=bR.ig (fun h=>g (of_decide_eq_false h)) (fun h=>j (of_decide_eq_true h))
class Spl (q:Prop) (x y:outParam Prop):Prop where
 out:x->y->q
instance awD {t:Bool}:Spl (bF P n np a b Q e (.bool t)) (t=true->mF P n np a Q e) (t=false->mF P n np b Q e):=⟨bF.split⟩
instance avO {t:Bool}:Spl (bF P n np a b Q e (.bool (!t))) (t=false->mF P n np a Q e) (t=true->mF P n np b Q e):=⟨bF.ig⟩
instance avN:Spl (bF P n np a b Q e (.bool (decide p))) (p->mF P n np a Q e) (¬ p->mF P n np b Q e):=⟨bF.fM⟩
instance aun:Spl (bF P n np a b Q e (.bool (!decide p))) (¬ p->mF P n np a Q e) (p->mF P n np b Q e):=⟨bF.QX⟩
instance awE {g:Bool}:Spl (bR (some g) k) (g=true->k true) (g=false->k false):=⟨bR.split⟩
instance avQ {g:Bool}:Spl (bR (some (!g)) k) (g=false->k true) (g=true->k false):=⟨bR.ig⟩
instance avP:Spl (bR (some (decide p)) k) (p->k true) (¬ p->k false):=⟨bR.fM⟩
instance auo:Spl (bR (some (!decide p)) k) (¬ p->k true) (p->k false):=⟨bR.QX⟩
theorem pq {q x:Prop} [i:Spl q x d] (g:x) (h:d):q:=i.out g h
end
end Go.Abs
namespace Go.Abs
open List
open Go.ChangeShapes Go.WideShapes Go.ChangeAt Go.RowKit
inductive Sh where
 | int (k:IntKind)
 | bool
 | str
 | sl (z:Nat) (e:List Sh)
def Sh.bytes:Sh->Nat
 | .int k=>k.bits / 8
 | .bool=>1
 | .str=>16
 | .sl _ _=>24
def Py:List Sh->Nat
 | []=>0
 | s :: ss=>s.bytes+Py ss
mutual
/-- the datum fits the shape of one cell -/
def Fit:Sh->D->Prop
 | .int k,d=>∃ n:Int,d=.int k n/\k.min<=n/\n<=k.max
 | .bool,d=>∃ b,d=.bool b
 | .str,d=>∃ s:ByteArray,d=.str s/\s.size<=reachBytes
 | .sl z e,d=>∃ rows:List (List D),d=.sl z rows/\rows.length*Py e<=reachBytes/\∀ r∈rows,lW e r
def lW:List Sh->List D->Prop
 | [],ds=>ds=[]
 | s :: ss,ds=>∃ d r,ds=d :: r/\Fit s d/\lW ss r
end
theorem Fit.perm {s:Sh} {d:D} (h:Fit s d):bG d:=by
 cases s<;>simp only [Fit] at h
 ·obtain ⟨n,rfl,_⟩:=h;simp [bG,dZ,D.names]
 ·obtain ⟨b,rfl⟩:=h;simp [bG,dZ,D.names]
 ·obtain ⟨b,rfl,_⟩:=h;simp [bG,dZ,D.names]
 ·obtain ⟨b,rfl,_⟩:=h;simp [bG,dZ,D.names]
theorem lW.perm:∀ {ss:List Sh} {ds:List D},lW ss ds->∀ d∈ds,bG d
 | [],ds,h,d,hd=>by simp only [lW] at h;subst h;cases hd
 | s :: ss,ds,h,d,hd=>by
  simp only [lW] at h;obtain ⟨x,r,rfl,b,c⟩:=h;rcases mem_cons.1 hd with rfl | hd
  ·exact b.perm
  ·exact c.perm d hd
theorem lW.len:∀ {ss:List Sh} {ds:List D},lW ss ds->ds.length=ss.length
 | [],ds,h=>by simp only [lW] at h;subst h;rfl
 | s :: ss,ds,h=>by
  simp only [lW] at h;obtain ⟨x,r,rfl,h1,b⟩:=h;simp [b.len]
theorem lW.append:∀ {ss c:List Sh} {ds b:List D},lW ss ds->lW c b->lW (ss++c) (ds++b)
 | [],c,ds,b,h,h'=>by simp only [lW] at h;subst h;exact h'
 | s :: ss,c,ds,b,h,h'=>by
  simp only [lW] at h;obtain ⟨x,r,rfl,d,e⟩:=h;simp only [cons_append,lW];exact ⟨x,r++b,rfl,d,e.append h'⟩
def tj (C:Cx):List Value->List D->Prop
 | [],ds=>ds=[]
 | v :: vs,ds=>∃ d r,ds=d :: r/\aK C v d/\tj C vs r
theorem tj.append {C:Cx}:∀ {vs ws:List Value} {ds b:List D},tj C vs ds->tj C ws b->tj C (vs++ws) (ds++b)
 | [],ws,ds,b,h,h'=>by simp only [tj] at h;subst h;exact h'
 | v :: vs,ws,ds,b,h,h'=>by
  simp only [tj] at h;obtain ⟨x,r,rfl,c,d⟩:=h;simp only [cons_append,tj];exact ⟨x,r++b,rfl,c,d.append h'⟩
theorem tj.get {C:Cx}:∀ {vs:List Value} {ds:List D},tj C vs ds->vs.length=ds.length/\∀ (j:Nat) v d,vs[j]?=some v->ds[j]?=some d->aK C v d
 | [],ds,h=>by simp only [tj] at h;subst h;exact ⟨rfl,fun j v d h=>by simp at h⟩
 | v :: vs,ds,h=>by
  simp only [tj] at h;obtain ⟨x,r,rfl,f,g⟩:=h;obtain ⟨i,k⟩:=g.get;refine ⟨by simp [i],?_⟩;intro j u e c b;cases j with
  | zero=>simp at c b;subst c;subst b;exact f
  | succ j=>simp at c b;exact k j u e c b
def shF (g:TypeId->Option (List Sh)) (P:Program):List Field->Nat->Option (List Sh)
 | [],_=>some []
 | f :: fs,off=>match g f.type,shF g P fs (off+P.cellsOf f.type) with
  | some s,some r=>if f.offset=off/\s.length=P.cellsOf f.type then some (s++r) else none
  | _,_=>none
def shT (P:Program):Nat->TypeId->Option (List Sh)
 | 0,_=>none
 | f+1,t=>match P.underlying t with
  | some (.int k)=>some [.int k]
  | some .bool=>some [.bool]
  | some .string=>some [.str]
  | some (.slice e)=>match shT P f e with
   | some s=>if s.length=P.cellsOf e/\Py s<=P.bytesOf e then some [.sl (P.cellsOf e) s] else none
   | none=>none
  | some (.struct fs)=>match shF (shT P f) P fs.toList 0 with
   | some s=>if s.length=P.cellsOf t then some s else none
   | none=>none
  | some (.array n e)=>match shT P f e with
   | some s=>if s.length=P.cellsOf e/\n*P.cellsOf e=P.cellsOf t then some (replicate n s).flatten else none
   | none=>none
  | _=>none
variable {t:TypeId} {a:Array Field} {p:List MemPlace} {b0:Nat}
section
variable {H:Type} {enc:TypeId × Value->H} {P:Program} {W:World} {sp:Nat->Bool} {hd:Bool}
abbrev c0 (W:World):Cx:=cx W (fun _=>none) (fun _=>none)
theorem rR {e:TypeId} {d:DataW H} {q:Nat}:∀ {l:List (DataW H)},d∈l->q∈d.weights P e->q∈DataW.weightsAll P e l
 | x :: l,h,hq=>by
  simp only [DataW.weightsAll,mem_append];rcases mem_cons.1 h with rfl | h
  ·exact .inl hq
  ·exact .inr (rR h hq)
theorem Hf {g:TypeId->Option (List Sh)} {n:Nat} (k:∀ t ss cs x,g t=some ss->DataW.trod enc P W 0 sp hd n t cs=some x->(∀ m∈x.1.weights P t,m<=reachBytes)->∃ ds,lW ss ds/\tj (c0 W) cs ds) :
  ∀ (b:List Field) (off:Nat) (cs:List Value) (ss:List Sh),shF g P b off=some ss->(∀ f∈b,∃ y,DataW.trod enc P W 0 sp hd n f.type ((cs.drop f.offset).take (P.cellsOf f.type))=some y/\∀ m∈y.1.weights P f.type,m<=reachBytes) ->
   ∃ ds,lW ss ds/\tj (c0 W) ((cs.drop off).take ss.length) ds
 | [],off,cs,ss,h,_=>by simp only [shF,ny] at h;subst h;exact ⟨[],rfl,by simp [tj]⟩
 | f :: b,off,cs,ss,h,hf=>by
  simp only [shF] at h;split at h
  ·rename_i s r v hr;split at h
   ·rename_i u;obtain ⟨rfl,j⟩:=u;simp only [ny] at h;subst h;obtain ⟨y,z,c⟩:=hf f (by simp);obtain ⟨ds,d,i⟩:=k _ _ _ _ v z c;obtain ⟨l,o,q⟩:=Hf k b _ cs r hr (fun x w=>hf x (by simp [w]));refine ⟨ds++l,d.append o,?_⟩;have hlen:=i.get.1.trans (d.len.trans j);have e:(cs.drop f.offset).take (s++r).length=(cs.drop f.offset).take (P.cellsOf f.type)++(cs.drop (f.offset+P.cellsOf f.type)).take r.length:=by
     rw [cm,j,take_add,drop_drop]
    rw [e];exact i.append q
   ·cases h
  ·cases h
theorem K5 {e:TypeId} {n:Nat} {s:List Sh} {cs:List Value}:∀ (k off:Nat),s.length=P.cellsOf e ->
  (∀ i,i < k->∃ ds,lW s ds/\tj (c0 W) ((cs.drop ((off+i)*P.cellsOf e)).take (P.cellsOf e)) ds) ->
   ∃ ds,lW (replicate k s).flatten ds/\tj (c0 W) ((cs.drop (off*P.cellsOf e)).take (k*P.cellsOf e)) ds
 | 0,off,_,_=>⟨[],by simp [lW],by simp [tj]⟩
 | k+1,off,hl,h=>by
  obtain ⟨ds,d,f⟩:=h 0 (by omega)
  obtain ⟨c,g,j⟩:=K5 (n:=n) k (off+1) hl (fun i hi=>by
   have:=h (i+1) (by omega)
   rwa [show off+(i+1)=off+1+i by omega] at this)
  refine ⟨ds++c,by rw [replicate_succ,flatten_cons];exact d.append g,?_⟩;have b:(cs.drop (off*P.cellsOf e)).take ((k+1)*P.cellsOf e)=(cs.drop (off*P.cellsOf e)).take (P.cellsOf e)++(cs.drop ((off+1)*P.cellsOf e)).take (k*P.cellsOf e):=by
   rw [Nat.succ_mul k,Nat.add_comm (k*P.cellsOf e),take_add,drop_drop,Nat.succ_mul off]
  rw [b];simpa using f.append j
theorem WS:∀ (f:Nat) (t:TypeId) (ss:List Sh) (w:Nat) (cs:List Value) x,shT P f t=some ss->DataW.trod enc P W 0 sp hd w t cs=some x->(∀ m∈x.1.weights P t,m<=reachBytes)->∃ ds,lW ss ds/\tj (c0 W) cs ds:=by
 intro f;induction f with
 | zero=>intro t ss w cs x h;simp [shT] at h
 | succ f ih =>
  intro t ss w cs x h L l;simp only [shT] at h;split at h
  ·rename_i k v;simp only [ny] at h;subst h;obtain ⟨n,rfl,_,hw⟩:=DataW.trod_int v L;simp only [Lit.wf,Bool.and_eq_true,bL] at hw;exact ⟨[.int k n],⟨_,_,rfl,⟨n,rfl,hw.1,hw.2⟩,rfl⟩,⟨_,_,rfl,.int _ _,rfl⟩⟩
  ·rename_i v;simp only [ny] at h;subst h;obtain ⟨b,rfl,_⟩:=DataW.trod_bool v L;exact ⟨[.bool b],⟨_,_,rfl,⟨b,rfl⟩,rfl⟩,⟨_,_,rfl,.bool _,rfl⟩⟩
  ·rename_i v;simp only [ny] at h;subst h;obtain ⟨b,rfl,u,K⟩:=DataW.trod_string v L;have Z:b.size<=reachBytes:=by
    rw [u] at l;exact l _ (by simp [DataW.weights])
   exact ⟨[.str b],⟨_,_,rfl,⟨b,rfl,Z⟩,rfl⟩,⟨_,_,rfl,.str _,rfl⟩⟩
  ·rename_i e v;split at h
   ·rename_i s K;split at h
    ·rename_i B;simp only [ny] at h;subst h;obtain ⟨B,X⟩:=B;rcases Go.Deep.open_slice v L with ⟨rfl,_⟩ | ⟨a,len,cap,m,n,Dx,Pl,rfl,hb,hlc,hm,hmm,u,hel⟩
     ·exact ⟨[.sl _ []],⟨_,_,rfl,⟨[],rfl,by simp,by simp⟩,rfl⟩,⟨_,_,rfl,.slnil _,rfl⟩⟩
     ·have hlm:len<=m:=by rw [hmm];split<;>omega
      rw [u] at l;simp only [DataW.weights,v] at l;have A:len*P.bytesOf e<=reachBytes:=by
       have:=l _ (mem_cons_self ..);simp only [length_map,length_range] at this;exact Nat.le_trans (l6 _ (Nat.le_add_right _ _)) this
      have aa:∀ i,i < len->∀ q∈(Dx i).weights P e,q<=reachBytes:=fun i c q Y=>by
       refine l q (mem_cons_of_mem _ (mem_append_left _ ?_));exact rR (mem_map.2 ⟨i,mem_range.2 c,rfl⟩) Y
      have hr:∀ i,∃ E:List D × List Value,i < len->lW s E.1/\tj (c0 W) E.2 E.1/\W.cells? 0 (a.add (i*P.cellsOf e)) (P.cellsOf e)=some E.2:=by
       intro i;by_cases c:i < len
       ·obtain ⟨O,G,y⟩:=hel i (by omega);obtain ⟨ds,Q,h4⟩:=ih _ _ _ _ _ K y (aa i c);exact ⟨(ds,O),fun _=>⟨Q,h4,G⟩⟩
       ·exact ⟨([],[]),fun h=>(c h).elim⟩
      let R:=fun i=>(Classical.choose (hr i)).1
      let V:=fun i=>(Classical.choose (hr i)).2
      have M:∀ i,i < len->lW s (R i)/\tj (c0 W) (V i) (R i)/\W.cells? 0 (a.add (i*P.cellsOf e)) (P.cellsOf e)=some (V i):=fun i c=>Classical.choose_spec (hr i) c;have z:∀ r∈(range len).map R,∃ i,i < len/\r=R i:=by
       intro r hr;obtain ⟨i,c,rfl⟩:=mem_map.1 hr;exact ⟨i,mem_range.1 c,rfl⟩
      refine ⟨[.sl _ ((range len).map R)],⟨_,_,rfl,⟨_,rfl,?_,?_⟩,rfl⟩,⟨_,_,rfl,?_,rfl⟩⟩
      ·simp only [length_map,length_range];exact Nat.le_trans (Nat.mul_le_mul_left _ X) A
      ·intro r hr;obtain ⟨i,c,rfl⟩:=z r hr;exact (M i c).1
      ·have F:((range len).map R).length=len:=by simp
       have:=aK.sl (C:=c0 W) (P.cellsOf e) a cap ((range len).map R) (fun i j=>(V i).getD j Go.undef) (by rw [F];exact hlc) ?_ ?_ ?_ ?_
       ·rw [F] at this;exact this
       ·intro r hr;obtain ⟨i,c,rfl⟩:=z r hr;exact (M i c).1.len.trans B
       ·intro r hr d hd;obtain ⟨i,c,rfl⟩:=z r hr;exact (M i c).1.perm d hd
       ·intro i j r d c N;simp only [getElem?_map] at c;by_cases o:i < len
        ·simp [o] at c;subst c;obtain ⟨g1,g2,g3⟩:=M i o;obtain ⟨_,g4,g5⟩:=World.cells?_some g3;have J:j < P.cellsOf e:=by have:=(fA.1 N).1;rw [g1.len,B] at this;exact this
         have:=g5 j J;rw [Addr.add_add] at this;show vis W (fun _=>none) _=_;unfold vis;simp only;rw [this];simp [getD,fO (show j < (V i).length by omega)]
        ·simp [o] at c
       ·intro i j r d c N;simp only [getElem?_map] at c;by_cases o:i < len
        ·simp [o] at c;subst c;obtain ⟨g1,g2,g3⟩:=M i o;obtain ⟨k1,k2⟩:=g2.get;have J:j < (V i).length:=by rw [k1];exact (fA.1 N).1
         refine k2 j _ d ?_ N;simp [getD,fO J]
        ·simp [o] at c
    ·cases h
   ·cases h
  ·rename_i fs v;split at h
   ·rename_i s K;split at h
    ·rename_i B;simp only [ny] at h;subst h;obtain ⟨xs,n,rfl,u,I,ab,S⟩:=DataW.trod_struct v L;rw [u] at l;simp only [DataW.weights,v] at l
     obtain ⟨ds,G,y⟩:=Hf (n:=n) (g:=shT P f) (fun t ss cs x G y Q=>ih t ss n cs x G y Q) fs.toList 0 cs s K (by
      intro fl T;obtain ⟨i,c,he⟩:=getElem_of_mem T;have U:i < fs.size:=by simpa using c
      have:=S i fl (by rw [Array.getElem?_eq_getElem U];simpa using he);rw [fO (by omega)] at this;refine ⟨_,this,fun m hm=>l m ?_⟩;have hi2:i < xs.length:=by omega
      exact DataW.weights_mem_each (j:=i) (by rw [getElem?_map,fO c,he];rfl) (by rw [getElem?_map,fO hi2];rfl) m hm)
     refine ⟨ds,G,?_⟩;rw [B,<- I] at y;simpa using y
    ·cases h
   ·cases h
  ·rename_i n e v;split at h
   ·rename_i s K;split at h
    ·rename_i B;simp only [ny] at h;subst h;obtain ⟨xs,m,rfl,u,I,ab,S⟩:=DataW.trod_array v L;rw [u] at l;simp only [DataW.weights,v] at l
     obtain ⟨ds,G,y⟩:=K5 (W:=W) (P:=P) (e:=e) (n:=m) (s:=s) (cs:=cs) n 0 B.1 (by
      intro i c;have:=S i c;rw [fO (by omega)] at this;have y:=ih _ _ _ _ _ K this (fun q Y=>l q (rR (mem_map.2 ⟨_,ck (by omega),rfl⟩) Y))
      simpa using y)
     refine ⟨ds,G,?_⟩;rw [B.2,<- I] at y;simpa using y
    ·cases h
   ·cases h
  ·cases h
theorem xW {v:Value} {d:DataW H} {ss:List Sh} (n:P.underlying t=some (.struct a)) (l:shT P 9 t=some ss) (c:Value.okWide P W .any b0 t v) (h:DataW.Trod enc P W 0 sp hd t v d p) (o:∀ m∈d.weights P t,m<=reachBytes) :
  ∃ ds,lW ss ds/\aK (c0 W) v (.agg ds):=by
 obtain ⟨cs,rfl,_⟩:=okWide_struct n c;obtain ⟨b,k⟩:=h;obtain ⟨ds,e,f⟩:=WS 9 t ss b _ _ l k o;refine ⟨ds,e,?_⟩;obtain ⟨g,j⟩:=f.get;refine .agg cs ds (by simpa [Value.cells] using g) ?_;intro i v d c hd;exact j i v d (by simpa [Value.cells] using c) hd
theorem vr {e:TypeId} {v:Value} {d:DataW H} {z:Nat} {s:List Sh} (k:P.underlying t=some (.slice e)) (j:shT P 9 t=some [.sl z s]) (l:Value.okWide P W .any b0 t v) (h:DataW.Trod enc P W 0 sp hd t v d p) (n:∀ m∈d.weights P t,m<=reachBytes) :
  ∃ rows:List (List D),(rows.length*Py s<=reachBytes/\∀ r∈rows,lW s r)/\aK (c0 W) v (.sl z rows):=by
 obtain ⟨a,len,cap,rfl⟩:=okWide_slice k l;obtain ⟨b,i⟩:=h;obtain ⟨ds,f,g⟩:=WS 9 t _ b _ _ j i n;simp only [lW,Fit] at f;obtain ⟨x,r,rfl,⟨rows,rfl,c,hr⟩,rfl⟩:=f;exact ⟨rows,⟨c,hr⟩,g.get.2 0 _ _ rfl rfl⟩
theorem gL {ts:List TypeId} {ds:List (DataW H)} (h:(DataW.weightsEach P ts ds).all (· <= reachBytes)=true) (j:Nat) {d:DataW H} (c:ts[j]?=some t) (hd:ds[j]?=some d):∀ m∈d.weights P t,m<=reachBytes:=fun m b=>by
 have:=dn.1 h m (DataW.weights_mem_each c hd m b);simpa using this
theorem rV {v:Value} {d:DataW H} (c:P.underlying t=some (.int .i64)) (e:Value.okWide P W .any b0 t v) (h:DataW.Trod enc P W 0 sp hd t v d p) :
  ∃ n:Int,v=.int .i64 n /\ -9223372036854775808<=n/\n<=9223372036854775807:=by
 obtain ⟨n,rfl,_,_,b⟩:=open_int c e h;simp only [Lit.wf,Bool.and_eq_true,bL] at b;exact ⟨n,rfl,b.1,b.2⟩
theorem sY {A:Type} {s:List Sh} {c:A->List D} {ok:A->Prop} (h:∀ r,lW s r->∃ x,ok x/\r=c x):∀ {rows:List (List D)},(∀ r∈rows,lW s r)->∃ xs:List A,rows=xs.map c/\∀ x∈xs,ok x
 | [],_=>⟨[],rfl,by simp⟩
 | r :: rows,hr=>by
  obtain ⟨x,e,rfl⟩:=h r (hr r (by simp));obtain ⟨xs,rfl,b⟩:=sY (rows:=rows) h (fun r d=>hr r (mem_cons_of_mem _ d));exact ⟨x :: xs,rfl,by simpa using ⟨e,b⟩⟩
end
end Go.Abs
namespace Go.Abs
open List hiding min
theorem IW {z:Nat} (q:z≠0):∀ {rows:List (List D)},(∀ r∈rows,r.length=z)->∀ m,rows.flatten[m]?=(rows[m / z]?).bind (·[m%z]?)
 | [],_,m=>by simp
 | r :: rows,h,m=>by
  have hr:=h r (by simp);rw [flatten_cons];by_cases o:m < z
  ·rw [getElem?_append_left (by omega),Nat.div_eq_of_lt o,Nat.mod_eq_of_lt o];rfl
  ·rw [getElem?_append_right (by omega),hr,IW q (fun r o=>h r (by simp [o])) (m-z)];have p:m / z=(m-z) / z+1:=by
    have:m=(m-z)+z:=by omega
    rw [this,Nat.add_div_right _ (by omega)];simp
   have e2:(m-z)%z=m%z:=(Nat.mod_eq_sub_mod (by omega)).symm;rw [p,e2];simp
theorem jS {z:Nat}:∀ {rows:List (List D)},(∀ r∈rows,r.length=z)->rows.flatten.length=rows.length*z
 | [],_=>by simp
 | r :: rows,h=>by
  rw [flatten_cons,cm,jS (fun r o=>h r (by simp [o])),h r (by simp),length_cons,Nat.succ_mul];omega
theorem NY {z:Nat}:∀ {rows:List (List D)} (i:Nat),(∀ r∈rows,r.length=z)->rows.flatten.take (i*z)=(rows.take i).flatten
 | [],i,_=>by simp
 | r :: rows,0,_=>by simp
 | r :: rows,i+1,h=>by
  have hr:=h r (by simp);rw [take_succ_cons,flatten_cons,flatten_cons,Nat.succ_mul,Nat.add_comm,<- hr,take_length_add_append,hr,NY i (fun r o=>h r (by simp [o]))]
theorem NX {z:Nat}:∀ {rows:List (List D)} (i:Nat),(∀ r∈rows,r.length=z)->rows.flatten.drop (i*z)=(rows.drop i).flatten
 | [],i,_=>by simp
 | r :: rows,0,_=>by simp
 | r :: rows,i+1,h=>by
  have hr:=h r (by simp);rw [drop_succ_cons,flatten_cons,Nat.succ_mul,Nat.add_comm,<- hr,drop_length_add_append,hr,NX i (fun r o=>h r (by simp [o]))]
def splice (T:List (List D)) (i:Nat) (N:List (List D)):List (List D):=T.take i++N++T.drop (i+N.length)
variable {i:Nat} {N:List (List D)}
theorem vH {T:List (List D)} (h:i+N.length<=T.length):(splice T i N).length=T.length:=by simp [splice];omega
theorem LQ {T:List (List D)} {r:List D} (h:r∈splice T i N):r∈T\/r∈N:=by
 simp only [splice,mem_append] at h;rcases h with (h | h) | h
 ·exact .inl (mem_of_mem_take h)
 ·exact .inr h
 ·exact .inl (mem_of_mem_drop h)
theorem ZK {T:List (List D)} {k:Nat} (h:i+N.length<=T.length):(splice T i N)[k]?=if i<=k/\k < i+N.length then N[k-i]? else T[k]?:=by
 unfold splice;have p:(T.take i).length=i:=by simp;omega
 by_cases o:k < i
 ·rw [cQ,getElem?_append_left (by omega),getElem?_take_of_lt o,ak (by omega)]
 ·by_cases h2:k < i+N.length
  ·rw [getElem?_append_left (by simp;omega),getElem?_append_right (by omega),p,aq (by omega)]
  ·rw [getElem?_append_right (by simp;omega),getElem?_drop,ak (by omega)];congr 1;simp;omega
variable {z:Nat}
variable {cs:List D} {a:Addr} {news:List Value} {off r m ly l by_ c:Nat} {f:Option Addr} {rows:List (List D)} {g:D} {b:Value} {y x:Operand} {ea k:Bool} {h j:TypeId}
section
variable {P:Program} {n:Nat} {w0 w w':World} {l0:Nat->Option Nat} {G:Nat->Option (Nat × Nat)} {S0:Nat->Option Value} {lev lev' own own':Nat->Option Nat} {S S':Nat->Option Value} {env env':Env} {tm tm':Nat->Value}
theorem Inv.Mc (h:Inv w0 l0 G S0 w lev own S env tm) {ds:List D} (X:env.o r=.box cs) (H:news.length=ds.length) (I:∀ v∈news,v.oneCell'=true)
  (J:∀ (j:Nat) v d,news[j]?=some v->ds[j]?=some d->aK (cx w lev S) v d) (hoff:off+ds.length<=cs.length) (W:S r=some (.pointer (some a))) :
  ∃ w',(storeCells (a.add off) news).run P w=.ok () w'/\Inv w0 l0 G S0 w' lev own S (cV env r (.box (gD cs off ds))) tm:=by
 have t:=h.objs r;rw [X] at t;obtain ⟨b,o,c,E,Q,M,h3,R,U,V,h7⟩:=t;have:a=⟨b,o,none⟩:=by rw [Q] at W;cases W;rfl
 subst this;have F:(o+off)+news.length<=c.size:=by omega
 have q:∀ j,(ep c (o+off) news)[j]?=if o+off<=j/\j < o+off+ds.length then news[j-(o+off)]? else c[j]?:=by
  intro j;rw [lu _ _ _ _ F,H]
 refine ⟨fK w b (ep c (o+off) news) E,?_,?_⟩
 ·have:=jl (P:=P) b (o+off) E news 0 c w M (by simpa using F) I;simp only [Nat.add_zero] at this;rw [fX];exact this
 have A:oa w lev (fK w b (ep c (o+off) news) E) lev:=n5 R;refine h.setObj (qm h M (eg _ _ _) V ?_) A (fun _ _=>rfl) (fun _ h=>h) (.inr (by rw [X];simp)) ?_ ?_
 ·intro j O;rw [q,ak (by omega)]
 ·intro Y s hs _ C _;have:Y≠b:=by
   rintro rfl;rw [U] at C;cases C;exact hs rfl
  exact ⟨ni this _ _,rfl,rfl⟩
 ·have L:(gD cs off ds).length=cs.length:=fF (by omega);refine ⟨b,o,_,E,Q,kZ (lt_of_block M) _ _,by rw [eg,L];exact h3,R,U,by rw [L];exact V,?_⟩;intro j u e B p;rw [q] at B;rw [Eu (by omega)] at p;by_cases O:off<=j/\j < off+ds.length
  ·rw [aq (by omega)] at B;rw [aq O] at p;have Z:o+j-(o+off)=j-off:=by omega
   rw [Z] at B;exact (J _ u e B p).wG A fun _ _ h=>h
  ·rw [ak (by omega)] at B;rw [ak O] at p;exact (h7 j u e B p).wG A fun _ _ h=>h
theorem Inv.Uc (h:Inv w0 l0 G S0 w lev own S env tm) (he:env.o r=.own z rows) (M:news.length=N.length*z) (Q:∀ v∈news,v.oneCell'=true)
  (Z:∀ r∈N,r.length=z) (hp:∀ r∈N,∀ d∈r,bG d)
  (R:∀ (i j:Nat) p d,N[i]?=some p->p[j]?=some d->∃ u,news[i*z+j]?=some u/\aK (cx w lev S) u d) (V:i+N.length<=rows.length) {len cap:Nat} (ha:S r=some (.slice f len cap)) (X:rows≠[]) :
  ∃ b w',f=some b/\(storeCells (b.add (i*z)) news).run P w=.ok () w'/\Inv w0 l0 G S0 w' lev own S (cV env r (.own z (splice rows i N))) tm:=by
 have D:=h.objs r;rw [he] at D;rcases D with ⟨_,_,O⟩ | ⟨b,c,E,cap',h1,h2,h3,h4,h5,h6,h7,h8,h9,h10⟩
 ·exact (X O).elim
 have:f=some ⟨b,0,none⟩:=by rw [h1] at ha;cases ha;rfl
 subst this;have W:(i+N.length)*z<=cap'*z:=l6 z (by omega);rw [Nat.add_mul] at W;have L:i*z+news.length<=c.size:=by omega
 have t:∀ j,(ep c (i*z) news)[j]?=if i*z<=j/\j < i*z+N.length*z then news[j-i*z]? else c[j]?:=by
  intro j;rw [lu _ _ _ _ L,M]
 refine ⟨_,fK w b (ep c (i*z) news) E,rfl,?_,?_⟩
 ·have:=jl (P:=P) b (i*z) E news 0 c w h2 (by simpa using L) Q;simp only [Nat.add_zero] at this;rw [fX,Nat.zero_add];exact this
 have I:oa w lev (fK w b (ep c (i*z) news) E) lev:=n5 h7;refine h.setObj (qm h h2 (eg _ _ _) h9 ?_) I (fun _ _=>rfl) (fun _ h=>h) (.inr (by rw [he];simp)) ?_ ?_
 ·intro j hj;rw [t,ak (by omega)]
 ·intro b' s hs _ J _;have:b'≠b:=by
   rintro rfl;rw [h8] at J;cases J;exact hs rfl
  exact ⟨ni this _ _,rfl,rfl⟩
 ·refine .inr ⟨b,_,E,cap',by rw [vH V];exact h1,kZ (lt_of_block h2) _ _,by rw [eg];exact h3,by rw [vH V];exact h4,?_,?_,h7,h8,by rw [eg];exact h9,?_⟩
  ·intro p A;rcases LQ A with A | A
   ·exact h5 p A
   ·exact Z p A
  ·intro p A;rcases LQ A with A | A
   ·exact h6 p A
   ·exact hp p A
  ·intro C j p x q U;rw [ZK V] at q;by_cases B:i<=C/\C < i+N.length
   ·rw [aq B] at q;have F:j < z:=by rw [<- Z p (dX q)];exact (fA.1 U).1
    obtain ⟨u,Y,H⟩:=R _ j p x q U;refine ⟨u,?_,H.wG I fun _ _ h=>h⟩;have e1:(C-i)*z=C*z-i*z:=Nat.sub_mul _ _ _;have e2:i*z<=C*z:=l6 z B.1;have e3:=qx (z:=z) F (show C-i < N.length by omega);rw [t,aq (by omega),<- Y];congr 1;omega
   ·rw [ak B] at q;have F:j < z:=by rw [<- h5 p (dX q)];exact (fA.1 U).1
    obtain ⟨u,Y,H⟩:=h10 C j p x q U;refine ⟨u,?_,H.wG I fun _ _ h=>h⟩;rw [t,ak ?_]
    ·exact Y
    ·rintro ⟨g1,g2⟩;rw [<- Nat.add_mul] at g2;refine B ⟨?_,?_⟩
     ·rcases bZ C i with hlt | hge
      ·have:=qx F hlt;omega
      ·exact hge
     ·rcases bZ C (i+N.length) with hlt | hge
      ·exact hlt
      ·have:=l6 z hge;omega
theorem nu.take {V:Cx} {a:Option Addr} {len cap z m:Nat} {R:List (List D)} (h:nu w V (.slice a len cap) z R) (hm:m<=R.length):nu w V (.slice a m cap) z (R.take m):=by
 obtain ⟨a',cap',e,h1,v,A,B,C⟩:=h;cases e;have t:(R.take m).length=m:=by simp;omega
 have:=show nu w V (.slice a (R.take m).length cap) z (R.take m) from
  ⟨a,cap,rfl,by omega,fun r hr=>v r (mem_of_mem_take hr),fun r hr=>A r (mem_of_mem_take hr),fun o=>by rw [B o];simp,fun u o i j s d p E=>by
   have q:i < m:=by have:=(fA.1 p).1;rw [t] at this;exact this
   rw [getElem?_take_of_lt q] at p
   exact C u o i j s d p E⟩
 rwa [t] at this
def Src (e:Env) (z m ly:Nat) (rows:List (List D)):D->Prop
 | .bW r off z' l c=>z'=z/\l=ly/\m<=l/\iR z (nG e.o [] 2 (.bW r off z' m c))=some rows
 | y=>∃ R,iR z (nG e.o [] 2 y)=some R/\R.length=ly/\m<=ly/\rows=R.take m
theorem OV (h:Inv w0 l0 G S0 w lev own S env tm) (D:aK (cx w lev S) b g) (M:z≠0) (C:Src env z m ly rows g) :
  (Builtin.lenOf b).run P w=.ok ly w/\rows.length=m/\(∀ r∈rows,r.length=z)/\(∀ r∈rows,∀ d∈r,bG d)/\∃ news:List Value,(Builtin.firstCells z m b).run P w=.ok news.toArray w/\news.length=rows.length*z/\(∀ u∈news,u.oneCell'=true) /\
   ∀ (i j:Nat) row d,rows[i]?=some row->row[j]?=some d->∃ u,news[i*z+j]?=some u/\aK (cx w lev S) u d:=by
 have key:∃ a cap,b=.slice a ly cap/\nu w (cx w lev S) (.slice a m cap) z rows:=by
  by_cases B:∃ r off v l c,g=.bW r off v l c
  ·obtain ⟨r,off,v,l,c,rfl⟩:=B;obtain ⟨rfl,rfl,L,hr⟩:=C;obtain ⟨a,A,s,I,rfl,h3,h4,h5,rfl,F⟩:=D.gv;exact ⟨A,_,rfl,jy h (aK.bW r off v m s a A I F (by omega)) hr S⟩
  ·have t:∃ R,iR z (nG env.o [] 2 g)=some R/\R.length=ly/\m<=ly/\rows=R.take m:=by
    cases g<;>first | exact C | exact (B ⟨_,_,_,_,_,rfl⟩).elim
   obtain ⟨R,H,J,L,rfl⟩:=t;have p:=jy h D H S;have q:=p;obtain ⟨a,cap,rfl,_⟩:=q;rw [<- J];exact ⟨a,cap,rfl,p.take (by omega)⟩
 obtain ⟨a,cap,rfl,p⟩:=key;have q:=p;obtain ⟨a2,cap2,e,g1,E,g3,g4,g5⟩:=q;cases e;obtain ⟨news,n1,O,Q,U⟩:=xj (P:=P) (w:=w) M p.toC;refine ⟨by simp [Builtin.lenOf,Sem.run,pure],rfl,E,g3,news,?_,O,U,Q⟩;cases a<;>exact n1
theorem RU {C:Cx} (A:z≠0) (hr:∀ r∈rows,r.length=z) (h:∀ (i j:Nat) row d,rows[i]?=some row->row[j]?=some d->∃ u,news[i*z+j]?=some u/\aK C u d)
  (m:Nat) (v:Value) (d:D) (t:news[m]?=some v) (o:rows.flatten[m]?=some d):aK C v d:=by
 rw [IW A hr] at o;cases p:rows[m / z]? with
 | none=>rw [p] at o;cases o
 | some row =>
  rw [p] at o;obtain ⟨u,s,q⟩:=h _ _ row d p o;have e:m / z*z+m%z=m:=by rw [Nat.mul_comm];exact Nat.div_add_mod m z
  rw [e,t] at s;cases s;exact q
section
variable {e:Env} {K:Env->Prop} {d:Nat} {ty T T2:TypeId} {pos:String} {after:Array Edge} {gu:Option (Nat × Bool)}
theorem dH.Cr (hT:dV P T=.slice z by_ ea) (hx:rd e x=.bW r off z l c) (Z:e.o r=.box cs) (D:Src e z (min ly l) ly rows (rd e y)) (Y:d < n)
  (B:off+(min ly l)*z<=cs.length) (I:K (bP (cV e r (.box (gD cs off rows.flatten))) d (.int .i64 (min ly l:Nat)))) :
  dH P n ⟨some d,.call ⟨.builtin .copy,#[x,y],#[T,T2]⟩,ty,pos,after,gu⟩ e K:=by
 intro w0 l0 G S0 w lev own S a next Q h hn v q
 have C:=h.uS a rfl x;have U:=h.uS a rfl y;rw [hx] at C;obtain ⟨el,inf,hu,hl,hin,hb,hz,zv0,hzv0,hzz0⟩:=dO hT;obtain ⟨s,h1,W,h3,news,H,X,h6,h7⟩:=OV (P:=P) h U hz D;obtain ⟨ad,a',cap',hS,hv,g3,g4,g5,rfl,g6⟩:=C.gv;have A:=jS W;have L:news.length=rows.flatten.length:=by rw [X,A]
 by_cases F:min ly l=0
 ·have V:rows=[]:=length_eq_zero_iff.1 (by omega);subst V;have R:news=[]:=length_eq_zero_iff.1 (by simpa using X);subst R;have E:gD cs off []=cs:=by simp [gD]
  have M:cV e r (.box cs)=e:=by
   simp only [cV];cases e with
   | mk t o =>
    simp only [Env.mk.injEq,true_and];funext j;by_cases hj:j=r
    ·subst hj;simp only [if_true];exact Z.symm
    ·simp [hj]
  simp only [flatten_nil,E,M,F] at I;refine upon_value rfl (u:=.int .i64 0) ?_ (fk hn v q Y (h.put (.int _ _)) I);have O:(#[x,y].map a.eval:Array Value) = #[a.eval x,a.eval y]:=by simp
  rw [F] at H;have p:ly.min l=0:=F;cases a'<;>simp [execOp,resolve,Sem.run_bind,pure,Sem.run,invoke,builtin,O,Builtin.copy_,bC hu,hv,s,bU hl,p,H,goInt,storeCells]
 ·have J:=g6 (by omega);subst J;obtain ⟨w',hr,hi⟩:=h.Mc (P:=P) Z L h6 (RU hz W h7) (by rw [A,h1];exact B) hS;refine upon_value rfl (u:=.int .i64 (min ly l:Nat)) ?_ (fk hn v q Y (hi.put (.int _ _)) I);have O:(#[x,y].map a.eval:Array Value) = #[a.eval x,a.eval y]:=by simp
  have p:ly.min l=min ly l:=rfl;simp [execOp,resolve,Sem.run_bind,pure,Sem.run,invoke,builtin,O,Builtin.copy_,bC hu,hv,s,bU hl,p,H,hr,goInt]
theorem dH.IU {lo len:Nat} {R:List (List D)} (Y:dV P T=.slice z by_ ea) (hx:rd e x=.eC r z lo len) (he:e.o r=.own z R) (B:Src e z (min ly len) ly rows (rd e y)) (Z:d < n)
  (v:lo+(min ly len)<=R.length) (h0:min ly len≠0) (W:K (bP (cV e r (.own z (splice R lo rows))) d (.int .i64 (min ly len:Nat)))) :
  dH P n ⟨some d,.call ⟨.builtin .copy,#[x,y],#[T,T2]⟩,ty,pos,after,gu⟩ e K:=by
 intro w0 l0 G S0 w lev own S a next Q h hn F p
 have A:=h.uS a rfl x;have H:=h.uS a rfl y;rw [hx] at A;obtain ⟨el,inf,hu,hl,hin,hb,hz,zv0,hzv0,hzz0⟩:=dO Y;obtain ⟨s,h1,I,J,news,M,O,U,V⟩:=OV (P:=P) h H hz B;obtain ⟨ad,a',L,cap,cap',X,hv,g3,g4,g5⟩:=A.mz;obtain ⟨b,E,C⟩:=g3 (by omega);obtain ⟨b',w',q,hr,hi⟩:=h.Uc (P:=P) he (i:=lo) O U I J V (by omega) X (by intro e0;subst e0;simp at v;omega);rw [E] at q;cases q;subst C;refine upon_value rfl (u:=.int .i64 (min ly len:Nat)) ?_ (fk hn F p Z (hi.put (.int _ _)) W);have hm:(#[x,y].map a.eval:Array Value) = #[a.eval x,a.eval y]:=by simp
 have t:ly.min len=min ly len:=rfl;simp [execOp,resolve,Sem.run_bind,pure,Sem.run,invoke,builtin,hm,Builtin.copy_,bC hu,hv,s,bU hl,t,M,hr,goInt]
theorem dH.cap {x:Operand} {z by_:Nat} {ea:Bool} {r off l c:Nat} (v:dV P T=.slice z by_ ea) (F:rd e x=.bW r off z l c) (A:d < n) (t:K (bP e d (.int .i64 c))):dH P n ⟨some d,.call ⟨.builtin .cap,#[x],#[T]⟩,ty,pos,after,gu⟩ e K:=by
 intro w0 l0 G S0 w lev own S a next Q h C s o
 have q:=h.uS a rfl x;rw [F] at q;obtain ⟨el,inf,D,_⟩:=dO v;obtain ⟨ad,a',p,hS,E,g3,g4,g5,rfl,g6⟩:=q.gv;refine upon_value rfl (u:=.int .i64 p) ?_ (fk C s o A (h.put (.int _ _)) t);have B:(#[x].map a.eval:Array Value) = #[a.eval x]:=by simp
 simp [execOp,resolve,Sem.run_bind,pure,Sem.run,invoke,builtin,B,Builtin.cap_,bC D,E,goInt]
theorem Zu {t:TypeId} (o:P.underlying t=some (.slice h)) (a:Option Addr) (l c:Nat):(Op.equal t (.slice a l c) (.slice none 0 0)).run P w=.ok a.isNone w:=by
 show (Op.equalIn (9999+1) t _ _).run P w=_;cases a<;>(unfold Op.equalIn;simp only [Sem.run_bind,bC o,Result.andThen_ok];rfl)
theorem dH.v9 (D:dV P T=.slice z by_ ea) (M:rd e x=.sl r rows) (A:d < n) (v:∀ b:Bool,(b=true->rows=[])->K (bP e d (.bool b))) :
  dH P n ⟨some d,.binOp .eql T x (.const (.slice none 0 0)) j,ty,pos,after,gu⟩ e K:=by
 intro w0 l0 G S0 w lev own S a next Q h B q o
 have t:=h.uS a rfl x;rw [M] at t;obtain ⟨el,inf,J,_⟩:=dO D;obtain ⟨p,cap,L,h1,h2,h3,C,h5⟩:=t.BZ;have F:a.eval (.const (.slice none 0 0))=.slice none 0 0:=rfl;have H:=Zu (P:=P) (w:=w) J p rows.length cap;have s:∀ b:Bool,p.isNone=b->(execOp a.eval ⟨some d,.binOp .eql T x (.const (.slice none 0 0)) j,ty,pos,after,gu⟩).run P w=.ok (.value (.bool b)) w:=by
  rintro b rfl;have I:(eqGuard .eql T x (.const (.slice none 0 0)) (.slice p rows.length cap) (.slice none 0 0)).run P w=.ok () w:=by simp [eqGuard,Sem.run,pure]
  have E:(binOp .eql T (.slice p rows.length cap) (.slice none 0 0)).run P w=.ok (.bool p.isNone) w:=by simp [binOp,Sem.run_bind,H,Sem.run,pure]
  simp only [execOp,L,F,Sem.run_bind,I,E,Result.andThen_ok];rfl
 cases p with
 | none=>exact upon_value rfl (u:=.bool true) (s true rfl) (fk B q o A (h.put (.bool _)) (v true (fun _=>(C rfl).1)))
 | some p=>exact upon_value rfl (u:=.bool false) (s false rfl) (fk B q o A (h.put (.bool _)) (v false (fun h=>by cases h)))
theorem dH.aaR {z2:Nat} {rows2:List (List D)} (hT:dV P T=.slice z by_ ea) (ae:dV P T2=.slice z2 ly k) (hx:rd e x=.bW r off z l c) (he:e.o r=.box cs) (hy:iR z (nG e.o [] 2 (rd e y))=some rows2) (hd:d < n) (ah:by_<=2 ^ 32)
  (h1:l+rows2.length<=c->off+(l+rows2.length)*z<=cs.length/\K (bP (cV e r (.box (gD cs (off+l*z) rows2.flatten))) d (.bW r off z (l+rows2.length) c)))
  (h2:c < l+rows2.length->∃ rows,nG e.o [] 2 (.bW r off z l c)=.sl z rows/\rows.length=l/\(by_+1)*(l+rows2.length)<=2 ^ 45/\e.o (nm d 0)=.undef/\K (bP (cV e (nm d 0) (.own z (rows++rows2))) d (.ref (nm d 0)))) :
  dH P n ⟨some d,.call ⟨.builtin .append,#[x,y],#[T,T2]⟩,ty,pos,after,gu⟩ e K:=by
 intro w0 l0 G S0 w lev own S a next Q h hn I q
 have C:=h.uS a rfl x;have aq:=h.uS a rfl y;rw [hx] at C;have ac:∃ e,P.underlying T2=some (.slice e):=by
  obtain ⟨e,_,hu,_⟩:=dO ae;exact ⟨e,hu⟩
 obtain ⟨el,inf,hu,hl,hin,hb,hz,zv0,hzv0,hzz0⟩:=dO hT;have F:=jy h aq hy S;have hm:(#[x,y].map a.eval:Array Value) = #[a.eval x,a.eval y]:=by simp
 have go:∀ u w',(Builtin.append_ #[T,T2] ty #[a.eval x,a.eval y]).run P w=.ok u w'->(execOp a.eval ⟨some d,.call ⟨.builtin .append,#[x,y],#[T,T2]⟩,ty,pos,after,gu⟩).run P w=.ok (.value u) w':=by
  intro u w' hr;simp only [execOp,resolve,Sem.run_bind,pure,Sem.run,Result.andThen_ok,invoke,builtin,hm,hr]
 have Z:=C;obtain ⟨ad,a',s,hS,hv,g3,g4,g5,rfl,g6⟩:=C.gv;by_cases v:l+rows2.length<=s
 ·obtain ⟨ho,O⟩:=h1 v;obtain ⟨news,Y,ao,an,H⟩:=Po (P:=P) (w:=w) (V:=cx w lev S) hT ac (a:=a') (len:=l) (cap:=s) F.toC v ty;have E:∀ r∈rows2,r.length=z:=by obtain ⟨_,_,_,_,h3,_⟩:=F;exact h3
  have W:=jS E;by_cases U:s=0
  ·subst U;have ar:rows2=[]:=length_eq_zero_iff.1 (by omega);have ak:l=0:=by omega
   subst ar;subst ak;have am:news=[]:=length_eq_zero_iff.1 (by simpa using Y);subst am;have hw:gD cs (off+0*z) []=cs:=by simp [gD]
   have ai:cV e r (.box cs)=e:=by
    simp only [cV];cases e with
    | mk t o =>
     simp only [Env.mk.injEq,true_and];funext j;by_cases X:j=r
     ·subst X;simp only [if_true];exact he.symm
     ·simp [X]
   simp only [flatten_nil,hw,ai,length_nil,Nat.add_zero] at O;have hr:=H w (by cases a'<;>simp [storeCells,Sem.run,pure]);rw [<- hv] at hr;refine upon_value rfl (go _ _ hr) (fk hn I q hd (h.put ?_) O);simpa [hv] using Z
  ·have af:=g6 U;subst af;obtain ⟨w',hr,L⟩:=h.Mc (P:=P) he (news:=news) (ds:=rows2.flatten) (off:=off+l*z) (by rw [Y,W]) an (RU hz E ao) (by rw [W];rw [Nat.add_mul] at ho;omega) hS;have ab:=H w' (by show (storeCells ((ad.add off).add (l*z)) news).run P w=_;rw [add_add];exact hr);rw [<- hv] at ab;refine upon_value rfl (go _ _ ab) (fk hn I q hd (L.put (.bW r off z _ _ ad _ hS (fun _=>rfl) v)) O)
 ·obtain ⟨rows,ag,al,R,aj,O⟩:=h2 (by omega);have B:=jy h C (z:=z) (rows:=rows) (by rw [ag];simp [iR]) S;rw [hv] at B;subst al;have J:nu w (cx w lev S) (.slice a' rows.length s) z rows:=B;obtain ⟨_,_,_,_,q2,q3,_⟩:=B;obtain ⟨_,_,_,_,p2,p3,_⟩:=id F;obtain ⟨M,e',cells,k1,k2,k3,k4⟩:=Rl (P:=P) (w:=w) (V:=cx w lev S) hT ac J.toC F.toC v R ah ty;have E:∀ p∈rows++rows2,p.length=z:=fun p A=>(mem_append.1 A).elim (q2 p) (p2 p);have aa:∀ p∈rows++rows2,∀ d∈p,bG d:=fun p A=>(mem_append.1 A).elim (q3 p) (p3 p)
  have L:=h.drew.Gm (AG d 0) aj (vs:=cells) (z:=z) (cap:=M) (rows:=rows++rows2) e' k2 (by rw [cm];exact k1) E aa (by
   intro i j p d L X;obtain ⟨u,hu,as⟩:=k4 i j p d L X;have ap:d.names=[]:=(aa p (dX L) d (dX X)).2
   exact ⟨u,hu,aK.fV (w:=w) (w':=w.drew) (lev':=lev) as (fun _ _ h=>h) (by rw [ap];simp)⟩)
  rw [<- hv] at k3;refine upon_value rfl (go _ _ k3) (fk hn I q hd (owned L ?_ ⟨_,_,_,rfl⟩) O);rw [dh,cm];rfl
theorem dH.Rk {k k2:IntKind} {zc:List D} (hT:dV P T=.slice z by_ ea) (as:dV P T2=.int k2) (hx:rd e x=.bW r off z l c) (hy:rd e y=.int k m) (aJ:eE P T=some zc) (aM:zc.length=z) (aN:∀ d∈zc,bG d) (hd:d < n) (hby:by_<=2 ^ 32)
  (aA:0 < m) (R:c < l+m) (hb:nG e.o [] 2 (.bW r off z l c)=.sl z rows) (az:rows.length=l) (L:(by_+1)*(l+m)<=2 ^ 45) (ax:e.o (nm d 0)=.undef) (hK:K (bP (cV e (nm d 0) (.own z (rows++replicate m zc))) d (.ref (nm d 0)))) :
  dH P n ⟨some d,.call ⟨.builtin .append,#[x,y],#[T,T2]⟩,ty,pos,after,gu⟩ e K:=by
 intro w0 l0 G S0 w lev own S a next Q h hn au X
 have Y:=h.uS a rfl x;have am:=h.uS a rfl y;rw [hx] at Y;rw [hy] at am;have aI:=am.dK;have aG:=Ra as;obtain ⟨el,J,hu,hl,U,ae,hz,zv,aO,I⟩:=dO hT;have aL:lz P el=some zc:=by rw [<- aJ];simp [eE,hu]
 obtain ⟨s,M,hzs,aa⟩:=pE aL w.drew;have ap:(zeroValue el).run P w.drew=.ok zv w.drew:=by simp [zeroValue,Sem.run_bind,jQ U,aO,Sem.run,pure]
 have aq:s=zv:=by rw [ap] at M;cases M;rfl
 subst aq;have hm:(#[x,y].map a.eval:Array Value) = #[a.eval x,a.eval y]:=by simp
 obtain ⟨ad,a',t,hS,hv,g3,g4,g5,rfl,g6⟩:=Y.gv;have B:=jy h Y (z:=z) (rows:=rows) (by rw [hb];simp [iR]) S;rw [hv] at B;subst az;obtain ⟨_,_,_,_,q2,q3,_⟩:=id B;have av:(w.drew).heap=w.heap:=rfl;obtain ⟨C,al,v,ak,-⟩:=xj (P:=P) (w:=w.drew) hz (B.at av).toC;obtain ⟨N,ab⟩:∃ N,N=(Question.appendCap (rows.length+m) t el).cut (w.tape w.drawn (.appendCap (rows.length+m) t el)):=⟨_,rfl⟩
 have hN:rows.length+m<=N:=by rw [ab];simp only [Question.cut];omega
 have H:=nextslicecap_le R;have ar:by_*(rows.length+m)<=2 ^ 45:=Nat.le_trans (by rw [Nat.succ_mul];omega) L;have E:¬ 281474976710656 < Builtin.nextslicecap (rows.length+m) t*J.bytes:=by
  rw [ae];have h1:Builtin.nextslicecap (rows.length+m) t*by_<=(2*(rows.length+m)+192)*by_:=l6 _ H;have h3:(2*(rows.length+m)+192)*by_=2*(by_*(rows.length+m))+192*by_:=by
   rw [Nat.add_mul,Nat.mul_assoc,Nat.mul_comm (rows.length+m) by_]
  omega
 have hneed:rows.length+m<=2 ^ 45:=Nat.le_trans (by rw [Nat.succ_mul];omega) L
 let cells:Array Value:=C.toArray++Builtin.zeroCells s.cells m++Builtin.zeroCells s.cells (N-(rows.length+m))
 have O:∀ q,(Builtin.zeroCells s.cells q).size=q*z:=by intro q;simp [Builtin.zeroCells,I]
 have Z:cells.size=N*z:=by
  simp only [cells,Array.size_append,size_toArray,O,v];rw [<- Nat.add_mul,<- Nat.add_mul];congr 1;omega
 have ac:∀ n,(askRoom n).run P w.drew=.ok () w.drew:=by
  intro n;unfold askRoom;split<;>simp [mark,Sem.run,pure]
 have aw:(Question.appendCap (rows.length+m) t el).forced=false:=rfl;have ag:(typeInfo el).run P w=.ok J w:=jQ U w;have V:(typeInfo el).run P w.drew=.ok J w.drew:=jQ U _;have A:(newRow el (C.toArray++(Builtin.zeroCells s.cells m++Builtin.zeroCells s.cells (N-(rows.length+m))))).run P w.drew=.ok ⟨w.heap.size,0,none⟩ (w.drew.alloc (.cells cells el)):=by
  rw [<- Array.append_assoc];simp [cells,newRow,newObj,Sem.run,Sem.bind,pure,bind,World.alloc]
 have aH:IntKind.i64.wrap (m:Int)=m:=yW (by omega) (by omega);have aB:¬ ((m:Int)*(J.bytes:Int) > 281474976710656):=by
  rw [ae];have h4:m*by_<=by_*(rows.length+m):=by rw [Nat.mul_comm];exact Nat.mul_le_mul_left _ (by omega)
  have h5:((m*by_:Nat):Int)<=2 ^ 45:=by exact_mod_cast Nat.le_trans h4 ar
  have h6:((m:Int)*(by_:Int))=((m*by_:Nat):Int):=by simp
  omega
 have aC:¬ m*z=0:=by
  have:=Nat.mul_pos aA (Nat.pos_of_ne_zero hz);omega
 have Wx:¬ ((9223372036854775807:Int) < (rows.length:Int)+(m:Int)):=by omega
 have aj:¬ ((m:Int) < 0):=by omega
 have af:¬ rows.length+m<=t:=by omega
 have ao:∀ p∈rows++replicate m zc,p.length=z:=fun p A=>(mem_append.1 A).elim (q2 p) (fun h=>by rw [(mem_replicate.1 h).2];exact aM);have an:∀ p∈rows++replicate m zc,∀ d∈p,bG d:=fun p A=>(mem_append.1 A).elim (q3 p) (fun h=>by rw [(mem_replicate.1 h).2];exact aN)
 have hi:=h.drew.Gm (AG d 0) ax (vs:=cells) (z:=z) (cap:=N) (rows:=rows++replicate m zc) el Z (by simpa using hN) ao an (by
  intro i j p x hi hj;have aD:x.names=[]:=(an p (dX hi) x (dX hj)).2;have F:j < z:=by rw [<- ao p (dX hi)];exact (fA.1 hj).1
  rcases Ly hi with hi' | ⟨hge,hi'⟩
  ·have W:=qx F (fA.1 hi').1;obtain ⟨u,aF,aE⟩:=ak i j p x hi' hj;refine ⟨u,?_,aK.fV (w:=w) (w':=w.drew) (lev':=lev) aE (fun _ _ h=>h) (by rw [aD];simp)⟩;simp only [cells];rw [Array.append_assoc,Array.getElem?_append_left (by simp [v];exact W)];simpa using aF
  ·have hr:p=zc:=(mem_replicate.1 (dX hi')).2;subst hr;have ay:i-rows.length < m:=by have:=(fA.1 hi').1;simpa using this
   have W:=qx (z:=z) F ay;have hge':rows.length*z<=i*z:=l6 z hge;have e1:i*z+j-rows.length*z=(i-rows.length)*z+j:=by rw [Nat.sub_mul];omega
   have ah:j < s.cells.size:=by rw [I];exact F
   refine ⟨s.cells[j],?_,aa _ j _ x (by simp [ah]) hj⟩;simp only [cells];rw [Array.append_assoc,Array.getElem?_append_right (by simp [v];omega),Array.getElem?_append_left (by rw [O];simp only [size_toArray,v];omega)];simp only [size_toArray,v,e1,Builtin.zeroCells,Array.getElem?_map];rw [Array.getElem?_eq_getElem (by simp [I];exact W)];have ai:((i-rows.length)*z+j)%s.cells.size=j:=by rw [I,Nat.add_comm,Nat.add_mul_mod_self_right,Nat.mod_eq_of_lt F]
   simp only [Option.map_some,Array.getElem_range,ai]
   rw [getElem!_pos s.cells j ah])
 refine upon_value rfl (u:=.slice (some ⟨w.heap.size,0,none⟩) (rows.length+m) N) ?_ (fk hn au X hd (owned hi (by rw [dh];simp) ⟨_,_,_,rfl⟩) hK);simp [execOp,resolve,invoke,builtin,hm,aI,hv,Builtin.append_,Sem.run_bind,bC hu,bC aG,bU hl,asInt,asIntOf,aH,aj,aB,aC,af,ag,Wx,E,aw,<- ab,ac,V,al,ap,A,Sem.run,pure]
end
end
end Go.Abs
namespace Go.Abs
open List
variable {r l by_ z:Nat} {b:Act->World->Prop} {a:Act} {ea:Bool} {x g f:Operand} {i m j:Int} {ts:Array TypeId} {fn:Func} {k:FuncId} {c:Array Value->Sem Value}
section
variable {P:Program} {n:Nat} {w0 w w':World} {l0:Nat->Option Nat} {G:Nat->Option (Nat × Nat)} {S0:Nat->Option Value} {lev lev' own own':Nat->Option Nat} {S S':Nat->Option Value} {env env':Env} {tm tm':Nat->Value}
variable {e:Env} {K:Env->Prop} {d:Nat} {ty T T2:TypeId} {pos:String} {after:Array Edge} {gu:Option (Nat × Bool)}
theorem afX {e:Env} {x:D} (p:e.o r=x):cV e r x=e:=by
 simp only [cV];cases e with
 | mk t o =>
  simp only [Env.mk.injEq,true_and];funext j;by_cases h:j=r
  ·subst h;simp only [if_true];exact p.symm
  ·simp [h]
theorem GQ {o:Oper} {Q:Exit->Act->World->Prop} {u:Value} (p:o.dst=none) (hr:(execOp a.eval o).run P w=.ok (.value u) w')
  (h:b a w'):o.wp P a w b Q:=by
 unfold Oper.wp;rw [hr];simp only [Oper.upon,p,Act.put];exact h
theorem dH.clear {x:Operand} {z by_:Nat} {ea:Bool} {r off l c:Nat} {cs zc:List D} (hT:dV P T=.slice z by_ ea) (hx:rd e x=.bW r off z l c) (he:e.o r=.box cs) (ab:eE P T=some zc) (C:zc.length=z) (ae:∀ d∈zc,bG d)
  (O:off+l*z<=cs.length) (X:K (cV e r (.box (gD cs off (replicate l zc).flatten)))) :
  dH P n ⟨none,.call ⟨.builtin .clear,#[x],#[T]⟩,ty,pos,after,gu⟩ e K:=by
 intro w0 l0 G S0 w lev own S a next Q h hn J q
 have R:=h.uS a rfl x;rw [hx] at R;obtain ⟨el,inf,hu,hl,Z,hb,hz,zv,af,t⟩:=dO hT;have ac:lz P el=some zc:=by rw [<- ab];simp [eE,hu]
 obtain ⟨p,A,hzs,E⟩:=pE ac w;have U:(zeroValue el).run P w=.ok zv w:=by simp [zeroValue,Sem.run_bind,jQ Z,af,Sem.run,pure]
 have V:p=zv:=by rw [U] at A;cases A;rfl
 subst V;obtain ⟨ad,a',cap',hS,W,g3,g4,g5,rfl,g6⟩:=R.gv;have hm:(#[x].map a.eval:Array Value) = #[a.eval x]:=by simp
 by_cases h0:l=0
 ·subst h0;have hw:gD cs off []=cs:=by simp [gD]
  simp only [replicate_zero,flatten_nil,hw,afX he] at X;refine GQ rfl (u:=.tuple #[]) ?_ (q _ _ _ _ _ a hn J h X);cases a'<;>simp [execOp,resolve,Sem.run_bind,pure,Sem.run,invoke,builtin,hm,Builtin.clear_,bC hu,W]
 ·have Y:=g6 (by omega);subst Y;have L:(replicate l zc).flatten.length=l*z:=sN C l;have aa:(Builtin.zeroCells p.cells l).toList.length=(replicate l zc).flatten.length:=by rw [L];simp [Builtin.zeroCells,t]
  have F:∀ (j:Nat) v,(Builtin.zeroCells p.cells l).toList[j]?=some v->∃ d,zc[j%z]?=some d/\aK (cx w lev S) v d:=by
   intro j v s;have B:j < l*z:=by have:=(fA.1 s).1;omega
   have N:j%z < z:=Nat.mod_lt _ (by omega);have y:j%z < p.cells.size:=by rw [t];exact N
   have M:j%z < zc.length:=by rw [C];exact N
   have:v=p.cells[j%z]:=by
    simp only [Builtin.zeroCells,Array.getElem?_toList,Array.getElem?_map] at s;rw [Array.getElem?_eq_getElem (by simp [t];exact B)] at s;simp only [Option.map_some,Array.getElem_range,ny,t] at s;rw [<- s,getElem!_pos p.cells _ y]
   subst this;exact ⟨zc[j%z],by simp [M],E _ (j%z) _ _ (by simp [y]) (by simp [M])⟩
  obtain ⟨w',hr,hi⟩:=h.Mc (P:=P) he aa (by
   intro v W;obtain ⟨j,s⟩:=mem_iff_getElem?.1 W;obtain ⟨d,H,hr⟩:=F j v s
   exact (D5 hr (ae d (dX H)).1).1) (by
   intro j v d s H;have B:j < l*z:=by have:=(fA.1 H).1;omega
   rw [J7 C hz l j B] at H;obtain ⟨d',I,hr⟩:=F j v s;rw [H] at I;cases I
   exact hr) (by rw [L];exact O) hS
  refine GQ rfl (u:=.tuple #[]) ?_ (q _ _ _ _ _ a hn J hi X);cases l with
  | zero=>exact (h0 rfl).elim
  | succ l=>simp [execOp,resolve,Sem.run_bind,pure,Sem.run,invoke,builtin,hm,Builtin.clear_,bC hu,W,U,hr]
theorem dH.RA {lo:Nat} {R:List (List D)} {zc:List D} (hT:dV P T=.slice z by_ ea) (hx:rd e x=.eC r z lo l) (he:e.o r=.own z R) (ai:eE P T=some zc) (E:zc.length=z) (X:∀ d∈zc,bG d)
  (A:lo+l<=R.length) (h0:l≠0) (hK:K (cV e r (.own z (splice R lo (replicate l zc))))) :
  dH P n ⟨none,.call ⟨.builtin .clear,#[x],#[T]⟩,ty,pos,after,gu⟩ e K:=by
 intro w0 l0 G S0 w lev own S a next Q h hn ac C
 have W:=h.uS a rfl x;rw [hx] at W;obtain ⟨el,inf,hu,hl,af,hb,hz,zv,ak,q⟩:=dO hT;have aj:lz P el=some zc:=by rw [<- ai];simp [eE,hu]
 obtain ⟨p,B,hzs,F⟩:=pE aj w;have Y:(zeroValue el).run P w=.ok zv w:=by simp [zeroValue,Sem.run_bind,jQ af,ak,Sem.run,pure]
 have Z:p=zv:=by rw [Y] at B;cases B;rfl
 subst Z;obtain ⟨ad,a',L,cap,cap',hS,hv,g3,g4,g5⟩:=W.mz;obtain ⟨b,ab,aa⟩:=g3 h0;have hm:(#[x].map a.eval:Array Value) = #[a.eval x]:=by simp
 have H:∀ (j:Nat) v,(Builtin.zeroCells p.cells l).toList[j]?=some v->∃ d,zc[j%z]?=some d/\aK (cx w lev S) v d:=by
  intro j v s;have ag:j < l*z:=by have:=(fA.1 s).1;simp [Builtin.zeroCells,q] at this;omega
  have V:j%z < z:=Nat.mod_lt _ (by omega);have y:j%z < p.cells.size:=by rw [q];exact V
  have O:j%z < zc.length:=by rw [E];exact V
  have:v=p.cells[j%z]:=by
   simp only [Builtin.zeroCells,Array.getElem?_toList,Array.getElem?_map] at s;rw [Array.getElem?_eq_getElem (by simp [q];exact ag)] at s;simp only [Option.map_some,Array.getElem_range,ny,q] at s;rw [<- s,getElem!_pos p.cells _ y]
  subst this;exact ⟨zc[j%z],by simp [O],F _ (j%z) _ _ (by simp [y]) (by simp [O])⟩
 have t:(Builtin.zeroCells p.cells l).toList.length=l*z:=by simp [Builtin.zeroCells,q]
 obtain ⟨b',w',I,hr,hi⟩:=h.Uc (P:=P) (N:=replicate l zc) (news:=(Builtin.zeroCells p.cells l).toList) he (i:=lo) (by rw [length_replicate];exact t) (by
   intro v hv;obtain ⟨j,s⟩:=mem_iff_getElem?.1 hv;obtain ⟨d,hd,hr⟩:=H j v s
   exact (D5 hr (X d (dX hd)).1).1)
  (by intro r hr;rw [(mem_replicate.1 hr).2];exact E) (by intro r hr;rw [(mem_replicate.1 hr).2];exact X) (by
   intro i j al d hi s;have ae:i < l:=by
    have:=(fA.1 hi).1;simpa using this
   have hr:al=zc:=(mem_replicate.1 (dX hi)).2;subst hr;have M:j < z:=by rw [<- E];exact (fA.1 s).1
   have ah:i*z+j < l*z:=qx M ae;have U:(i*z+j)%z=j:=by rw [Nat.add_comm,Nat.add_mul_mod_self_right,Nat.mod_eq_of_lt M]
   have hk:i*z+j < (Builtin.zeroCells p.cells l).toList.length:=by rw [t];exact ah
   obtain ⟨d',J,hr⟩:=H (i*z+j) _ (fO hk);rw [U,s] at J;cases J
   exact ⟨_,fO hk,hr⟩) (by rw [length_replicate];exact A) hS (by intro e0;subst e0;simp at A;omega)
 rw [ab] at I;cases I;subst aa;refine GQ rfl (u:=.tuple #[]) ?_ (C _ _ _ _ _ a hn ac hi hK);cases l with
 | zero=>exact (h0 rfl).elim
 | succ l=>simp [execOp,resolve,Sem.run_bind,pure,Sem.run,invoke,builtin,hm,Builtin.clear_,bC hu,hv,Y,hr]
theorem dH.ac1 {lo:Operand} {off c:Nat} {k1 k2 k3:IntKind} (R:dV P T=.slice z by_ ea) (Z:rd e x=.bW r off z l c) (C:rd e lo=.int k1 i) (B:rd e f=.int k2 j) (D:rd e g=.int k3 m)
  (U:d < n) (M:0<=i) (h2:i<=j) (h3:j<=m) (N:m<=c) (O:K (bP e d .undef)) :
  dH P n ⟨some d,.slice T x (some lo) (some f) (some g),ty,pos,after,gu⟩ e K:=by
 intro w0 l0 G S0 w lev own S a next Q h W A p
 have v:=h.uS a rfl x;have q:=h.uS a rfl lo;have s:=h.uS a rfl f;have t:=h.uS a rfl g;rw [Z] at v;rw [C] at q;rw [B] at s;rw [D] at t;have J:=q.dK;have e2:=s.dK;have L:=t.dK;obtain ⟨el,inf,X,V,hin,hb,hz,zv,hzv,hzz⟩:=dO R;obtain ⟨ad,E,o,hS,Y,g3,g4,g5,rfl,g6⟩:=v.gv;have F:0<=m/\m<=(o:Int):=⟨by omega,N⟩
 have H:0<=j/\j<=((m.toNat:Nat):Int):=⟨by omega,by omega⟩
 have I:0<=i/\i<=((j.toNat:Nat):Int):=⟨M,by omega⟩
 refine upon_value rfl (u:=.slice (if m.toNat=i.toNat then E else E.map (·.add (i.toNat*z))) (j.toNat-i.toNat) (m.toNat-i.toNat)) ?_ (fk W A p U (h.put (.undef _)) O);have y:(Instr.sliceBounds true l o (some (a.eval lo)) (some (a.eval f)) (some (a.eval g))).run P w=.ok (i.toNat,j.toNat,m.toNat) w:=by
  simp only [Instr.sliceBounds,Sem.run_bind,Instr.sliceBound,asIntOf,J,e2,L,aq F,aq H,aq I,Sem.run,pure,Result.andThen]
 simp [execOp,Instr.sliceAt,Sem.run_bind,bC X,Instr.slice,Y,y,bU V,Sem.run,pure]
theorem Bu {as : Array Operand} {u : Value} (hf : a.eval f = .func (.func k) #[] #[]) (hk : P.funcs[k]? = some fn) (hname : (fn.name == "runtime.NumGoroutine") = false)
  (hb:fn.body.isNone=true) (hn:Extern.findNext fn=none) (he:Extern.find fn=some c) (hr:(c (as.map a.eval)).run P w=.ok u w) :
  (execOp a.eval ⟨some d,.call ⟨.value f,as,ts⟩,ty,pos,after,gu⟩).run P w=.ok (.value u) w:=by
 have h1 : fn.name ≠ "runtime.NumGoroutine" := by simpa using hname
 have h2:fn.body=none:=by simpa using hb
 simp [execOp,resolve,hf,Deferred.ofValue,Sem.run_bind,invoke,callFunc,hk,h1,h2,hn,he,program,mark,Sem.run,pure,hr]
theorem dH.Ns {c : Operand} (hf : rd e f = .fn k []) (hk : P.funcs[k]? = some fn) (hname : (fn.name == "runtime.NumGoroutine") = false) (hb : fn.body.isNone = true) (hn : Extern.findNext fn = none) (he : Extern.find fn = some add64Entry)
  (hx:rd e x=.int .u64 i) (hy:rd e g=.int .u64 j) (hc:rd e c=.int .u64 m) (h1:0<=i) (h2:0<=j) (h3:0<=m) (h4:m<=1) (hd:d < n) (hK:K (bP e d (.bT [.int .u64 ((i+j+m)%18446744073709551616),.int .u64 ((i+j+m) / 18446744073709551616)]))) :
  dH P n ⟨some d,.call ⟨.value f,#[x,g,c],ts⟩,ty,pos,after,gu⟩ e K:=by
 intro w0 l0 G S0 w lev own S a next Q h hnn hdf hnext
 have hof:=h.uS a rfl f;have ho1:=h.uS a rfl x;have ho2:=h.uS a rfl g;have ho3:=h.uS a rfl c;rw [hf] at hof;rw [hx] at ho1;rw [hy] at ho2;rw [hc] at ho3;obtain ⟨cv,hv,hcs,hcc⟩:=hof.Bw;have hcv:cv = #[]:=Array.eq_empty_of_size_eq_zero (by simpa using hcs);subst hcv;have hm:(#[x,g,c].map a.eval:Array Value) = #[.int .u64 i,.int .u64 j,.int .u64 m]:=by simp [ho1.dK,ho2.dK,ho3.dK]
 refine upon_value rfl (Bu hv hk hname hb hn he (by rw [hm];exact run_add64 i j m h1 h2 h3 h4 w)) (fk hnn hdf hnext hd (h.put (.bT _ _ rfl ?_)) hK);intro i' v dd hi' hd';rcases i' with _ | _ | i'
 ·simp at hi' hd';subst hi';subst hd';exact .int _ _
 ·simp at hi' hd';subst hi';subst hd';exact .int _ _
 ·simp at hi'
theorem Qq (ps rs:Array TypeId) (a b:Option Addr) (la ca lb cb:Nat):Extern.SlicesOverlaps.overlaps ps rs #[.slice a la ca,.slice b lb cb]=(do
  let some t := ps[0]? | stuck "slices.overlaps: no parameter types"
  let .slice elem <- underlying t | stuck "slices.overlaps: slice type expected"
  let size <- sizeOf elem
  match a,b with
  | some a,some b =>
   if la=0\/lb=0\/size=0 then pure (.bool false)
   else if a.block != b.block&&(<- frozen a)&&(<- frozen b) then unsupported .addressObserved
   else do
    if a.block != b.block then do
     noView a;noView b
     if <- mayBeOne a b then return .bool ((<- choose (.extern "sameAddr.stringBytes" 2)) == 1)
    pure (.bool (a.block==b.block&&a.off < b.off+lb*size&&b.off < a.off+la*size))
  | _,_=>pure (.bool false)):=rfl
theorem dH.overlaps {f x y : Operand} {k : FuncId} {fn : Func} {ts : Array TypeId} {t0 : TypeId} {z by_ : Nat} {ea : Bool} {r2 z2 r off l c : Nat} {rows : List (List D)} {cs : List D} (hf : rd e f = .fn k []) (hk : P.funcs[k]? = some fn) (hname : (fn.name == "runtime.NumGoroutine") = false) (hb : fn.body.isNone = true)
  (hn:Extern.findNext fn=none) (he:Extern.find fn=some (Extern.SlicesOverlaps.overlaps fn.params fn.resultTypes)) (hp:fn.params[0]?=some t0) (hT:dV P t0=.slice z by_ ea) (hx:rd e x=.ref r2) (hxo:e.o r2=.own z2 rows) (hy:rd e y=.bW r off z l c) (hyo:e.o r=.box cs)
  (hd:d < n) (hK:K (bP e d (.bool false))) :
  dH P n ⟨some d,.call ⟨.value f,#[x,y],ts⟩,ty,pos,after,gu⟩ e K:=by
 intro w0 l0 G S0 w lev own S a next Q h hnn hdf hnext
 have hof:=h.uS a rfl f;have ho1:=h.uS a rfl x;have ho2:=h.uS a rfl y;rw [hf] at hof;rw [hx] at ho1;rw [hy] at ho2;obtain ⟨cv,hv,hcs,hcc⟩:=hof.Bw;have hcv:cv = #[]:=Array.eq_empty_of_size_eq_zero (by simpa using hcs);subst hcv;obtain ⟨el,inf,hu,hl,hin,hbi,hz,zv,hzv,hzz⟩:=dO hT;obtain ⟨ad,a',cap',hS,hvy,g3,g4,g5,rfl,g6⟩:=ho2.gv;obtain ⟨hS2,b2,len2,cap2,hvx⟩:=ho1.nS;rw [hvx] at hS2;have hS2:S r2=_:=hS2;have hS:S r=_:=hS;have hobj:=h.objs r;rw [hyo] at hobj;obtain ⟨b,o,cc,E,q1,q2,q3,q4,q5,q6,q7⟩:=hobj;have had:ad=⟨b,o,none⟩:=by rw [q1] at hS;cases hS;rfl
 have hobj2:=h.objs r2;rw [hxo] at hobj2;have hrr:r2≠r:=by rintro rfl;rw [hxo] at hyo;cases hyo
 have hm:(#[x,y].map a.eval:Array Value) = #[.slice b2 len2 cap2,.slice a' l cap']:=by simp [hvx,hvy]
 refine upon_value rfl (Bu (u:=.bool false) hv hk hname hb hn he ?_) (fk hnn hdf hnext hd (h.put (.bool _)) hK);rw [hm,Qq];by_cases hz0:len2=0\/l=0\/z=0
 ·cases b2<;>cases a'<;>simp [hp,Sem.run_bind,bC hu,bU hl,hz0,Sem.run,pure]
 ·have hc0:cap'≠0:=by omega
  have ha':=g6 hc0;subst ha';subst had;rcases hobj2 with ⟨aa,p1,p2⟩ | ⟨b',c',E',cap3,p1,p2,p3,p4,p5,p6,p7,p8,p9,p10⟩
  ·rw [p1] at hS2;cases hS2;exact (hz0 (.inl rfl)).elim
  ·have:b2=some ⟨b',0,none⟩:=by rw [p1] at hS2;cases hS2;rfl
   subst this;have hbb:b'≠b:=by rintro rfl;rw [p8] at q5;cases q5;exact hrr rfl
   have f1:w.frozen? ⟨b',0,none⟩=false:=by simp [World.frozen?,p2]
   have f2:∀ i,w.frozen? ⟨b,i,none⟩=false:=by intro i;simp [World.frozen?,q2]
   have f3:∀ i,w.frozen? ⟨b',i,none⟩=false:=by intro i;simp [World.frozen?,p2]
   have s1:w.shape? b'=some (E',c'.size):=by simp [World.shape?,p2]
   have s2:w.shape? b=some (E,cc.size):=by simp [World.shape?,q2]
   have hao:(⟨b,o,none⟩:Addr).add off=⟨b,o+off,none⟩:=fX _ _ _;rw [hao];simp [hp,Sem.run_bind,bC hu,bU hl,hz0,hbb,f1,f2,f3,s1,s2,noView,viewAt,mayBeOne,stringish,Sem.run,pure]
end
end Go.Abs
