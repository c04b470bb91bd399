/- A region whose order is open. No theorem of a claim. -/
import Derived.Test.YtacacccbcndjoaaGreatAbcSound
import Derived.Orders
set_option linter.unusedSimpArgs false
set_option linter.unusedVariables false
namespace Go.Abs
section
variable {P:Program} {n np:Nat} {e:Env} {K K':Env->Prop}
theorem Q5 (h:∀ e,K e->K' e) {t:TypeId} {a v:D} (hk:Pj P e t a K v):Pj P e t a K' v:=by
 unfold Pj at hk |-;split at hk
 ·unfold XB at hk |-;split at hk
  ·cases hl:bT P t with
   | none=>simp only [hl] at hk
   | some l=>simp only [hl] at hk |-;exact ⟨hk.1,hk.2.1,hk.2.2.1,h _ hk.2.2.2⟩
  ·exact hk.elim
 ·unfold WZ at hk |-;split at hk
  ·cases hl:bT P t with
   | none=>simp only [hl] at hk
   | some l=>simp only [hl] at hk |-;exact ⟨hk.1,hk.2.1,hk.2.2.1,hk.2.2.2.1,hk.2.2.2.2.1,h _ hk.2.2.2.2.2⟩
  ·exact hk.elim
 ·exact hk.elim
theorem Ri (h:∀ e,K e->K' e) {len:Nat} {ps:List (Nat × Operand)} {d:Nat} {t:Ty} {z:Option (List D)} (hk:OV e len ps d K t z):OV e len ps d K' t z:=by
 unfold OV at hk |-;split at hk
 ·exact ⟨hk.1,hk.2.1,hk.2.2.1,hk.2.2.2.1,hk.2.2.2.2.1,h _ hk.2.2.2.2.2⟩
 ·exact hk.elim
theorem QO (h:∀ e,K e->K' e) {l c:D} {d:Nat} {t:Ty} {z:Option (List D)} (hk:PF e d K l c t z):PF e d K' l c t z:=by
 unfold PF at hk |-;split at hk
 ·exact ⟨hk.1,hk.2.1,hk.2.2.1,hk.2.2.2.1,hk.2.2.2.2.1,hk.2.2.2.2.2.1,hk.2.2.2.2.2.2.1,h _ hk.2.2.2.2.2.2.2⟩
 ·exact hk.elim
theorem FL (h:∀ e,K e->K' e) {x y:D} {d:Nat} {t t2:Ty} (hk:ou e d K x y t t2):ou e d K' x y t t2:=by
 unfold ou at hk |-;split at hk
 ·refine ⟨hk.1,?_⟩;have hk:=hk.2;unfold we at hk |-;split at hk
  ·exact ⟨hk.1,hk.2.1,h _ hk.2.2⟩
  ·exact ⟨hk.1,hk.2.1,h _ hk.2.2⟩
  ·unfold P7 at hk |-;split at hk
   ·exact ⟨hk.1,hk.2.1,hk.2.2.1,h _ hk.2.2.2⟩
   ·exact hk.elim
  ·exact hk.elim
 ·exact hk.elim
theorem Li (h:∀ e,K e->K' e) {dr:Bool} {d:Nat} {f:Operand} {args:List Operand} (hk:wg P dr e d f args K):wg P dr e d f args K':=by
 obtain ⟨fz,gs,bw,hs',dv,h1,hk⟩:=hk;exact ⟨fz,gs,bw,hs',dv,h1,u6 (KW.mono h) hk⟩
theorem OU (h:∀ e,K e->K' e) {dr:Bool} {o:Oper} {g:Bool} (hk:iF P n dr o e g K):iF P n dr o e g K':=by
 have gk:∀ {g:Bool} {a a':Prop} {e:Env},(a->a')->GK g a (K e)->GK g a' (K' e):=fun ha hg=>⟨fun x=>ha (hg.1 x),fun x=>h _ (hg.2 x)⟩
 have st:∀ {g:Bool} {ok:Prop} {v:D} {d:Nat},eY g ok v (fun u=>K (cy e d u))->eY g ok v (fun u=>K' (cy e d u)):=fun hs=>⟨hs.1,h _ hs.2⟩
 cases hd:o.dst with
 | none =>
  cases hop:o.op<;>simp only [iF,hop,hd] at hk |-;exact ⟨hk.1,Q5 h hk.2⟩
 | some d =>
  cases hop:o.op<;>simp only [iF,hop,hd] at hk |-<;>(try exact ⟨hk.1,st hk.2⟩)
  case box t x=>exact ⟨hk.1,hk.2.1,hk.2.2.1,hk.2.2.2.1,h _ hk.2.2.2.2⟩
  case alloc t =>
   refine ⟨hk.1,hk.2.1,?_⟩;have hk:=hk.2.2;unfold Pq at hk |-;split at hk
   ·exact ⟨hk.1,h _ hk.2⟩
   ·exact hk.elim
  case buildSlice t len parts=>exact ⟨hk.1,gk (fun x=>⟨x.1,Ri h x.2⟩) hk.2⟩
  case makeSlice t l c=>exact ⟨hk.1,gk (QO h) hk.2⟩
  case call c =>
   refine ⟨hk.1,?_⟩;have hk:=hk.2;cases hc:c.callee with
   | invoke r m=>rw [hc] at hk;exact hk.elim
   | value f=>rw [hc] at hk;exact gk (fun hk=>hk.elim (fun hk=>.inl (Li h hk)) (fun hk=>.inr ⟨hk.1,hk.2.mono h⟩)) hk
   | builtin b =>
    rw [hc] at hk;cases b<;>simp only at hk |-<;>(try exact st hk);refine ⟨hk.1,hk.2.1,?_⟩;have hk:=hk.2.2;split at hk
    ·unfold Af at hk |-;split at hk
     ·exact hk.mono h
     ·exact hk.mono h
     ·exact FL h hk
    ·exact hk.elim
theorem sJ (h:∀ e,K e->K' e) {dr:Bool} {o:Oper} {g:Bool} (hk:j3 P n dr o e g K):j3 P n dr o e g K':=by
 unfold j3 at hk |-;split at hk
 ·rename_i hh;rw [if_pos hh];exact ⟨hk.1,hk.2.1,hk.2.2.mono h⟩
 ·rename_i hh;rw [if_neg hh];exact OU h hk
end
def vg (l:List Operand):List Nat:=l.filterMap fun | .tmp t=>some t | _=>none
def keyOf (ops:List Oper):Nat->Nat->List Nat
 | 0,t=>[t]
 | k+1,t=>match ops.find? (fun o=>o.dst==some t) with
  | some o=>(match o.op with
   | .fieldAddr _ (.tmp u) f=>f :: keyOf ops k u
   | _=>[t])
  | none=>[t]
def Tr (ops:List Oper) (ks:List Nat) (o:Oper):Bool:=
 match o.op with
 | .load _ (.tmp u)=>keyOf ops 4 u==ks
 | _=>false
def rootOf (ops:List Oper):Nat->Nat->Nat
 | 0,t=>t
 | k+1,t=>match ops.find? (fun o=>o.dst==some t) with
  | some o=>(match o.op with
   | .fieldAddr _ (.tmp u) _=>rootOf ops k u
   | .indexAddr _ (.tmp u) _=>rootOf ops k u
   | .nilCheck (.tmp u)=>rootOf ops k u
   | .move (.tmp u)=>rootOf ops k u
   | .load _ (.tmp u)=>(match ops.find? (Tr ops (keyOf ops 4 u)) with
    | some x=>x.dst.getD t
    | none=>t)
   | _=>t)
  | none=>t
def BG (s:Nat):List Nat:=(List.range 16).map (nm s)
def nmS (np s:Nat):List Nat:=BG s++if s < np then List.range 16 else []
def rdT (ops:List Oper) (o:Oper):List Nat:=
 vg o.op.operands.toList++(match o.guard with
  | some (j,_)=>(rK ops j).toList
  | none=>[])
def looks (o:Op):Bool:=
 match o with
 | .load _ _ | .store _ _ _ | .indexAddr _ _ _ | .slice _ _ _ _ _ | .call _=>true
 | _=>false
def rdO (np:Nat) (ops:List Oper) (o:Oper):List Nat:=if looks o.op then (vg o.op.operands.toList).flatMap fun t=>nmS np (rootOf ops 8 t) else []
def makes (o:Op):Bool:=
 match o with
 | .alloc _ | .box _ _ | .buildSlice _ _ _ | .makeSlice _ _ _=>true
 | .call c=>(match c.callee with
  | .value _=>true
  | .builtin .append=>true
  | _=>false)
 | _=>false
def VA (np:Nat) (ops:List Oper):Operand->List Nat
 | .tmp t=>nmS np (rootOf ops 8 t)
 | _=>[]
def Kx (np:Nat) (ops:List Oper) (o:Oper):List Nat:=
 (match o.dst with
  | some d=>if makes o.op then BG d else []
  | none=>[])++(match o.op with
  | .store _ a _=>VA np ops a
  | _=>[])
def R3 (o:Oper):List Nat:=o.dst.toList
def Xh (np:Nat) (ops:List Oper):List Nat:=ops.flatMap (Kx np ops)
def BO (np:Nat) (ops:List Oper) (x y:Oper):Bool:=
 (R3 x).all (fun s=>!(rdT ops y).contains s&&!(R3 y).contains s)&&(R3 y).all (fun s=>!(rdT ops x).contains s) &&
 (Kx np ops x).all (fun s=>!(rdO np ops y).contains s&&!(Kx np ops y).contains s)&&(Kx np ops y).all (fun s=>!(rdO np ops x).contains s)
def isApp (o:Oper):Bool:=
 match o.op with
 | .call c=>(match c.callee with
  | .builtin .append=>true
  | _=>false)
 | _=>false
def aai:Nat:=159
def K4 (o:Oper):Bool:=
 match o.op with
 | .call c=>(match c.callee with
  | .value _=>(match c.argTypes.toList with
   | t :: _=>t==aai
   | []=>false)
  | _=>false)
 | _=>false
def pU (o:Oper):Bool:=hard o||isApp o||K4 o
def isT (t:Nat) (a:Operand):Bool:=
 match a with
 | .tmp u=>u==t
 | _=>false
def XJ (o:Op):Bool:=
 match o with
 | .buildSlice _ len ps=>len==0&&ps.toList.isEmpty
 | _=>false
def VO (t:Nat) (o:Op):Bool:=
 match o with
 | .call c=>(match c.callee with
  | .builtin .append=>(match c.args.toList with
   | x :: _=>isT t x
   | []=>false)
  | _=>false)
 | _=>false
def Ir (t:Nat):List Oper->Bool
 | []=>false
 | o :: r=>(XJ o.op&&(o.guard.isNone&&o.dst==some t))||Ir t r
def II (t:Nat):List Oper->Bool
 | []=>false
 | o :: r=>VO t o.op||II t r
def UO (ops:List Oper) (a:Operand):Bool:=
 match a with
 | .tmp t=>Ir t ops
 | _=>false
def P0 (ops:List Oper) (op:Op) (dst:Option Tmp):Bool:=
 match op with
 | .buildSlice _ len ps=>len==0&&(ps.toList.isEmpty&&(match dst with
  | some d=>II d ops
  | none=>false))
 | .call c=>(match c.callee with
  | .builtin .append=>(match c.args.toList with
   | x :: _=>UO ops x
   | []=>false)
  | _=>false)
 | _=>false
def jV (ops:List Oper) (o:Oper):Bool:=P0 ops o.op o.dst&&o.guard.isNone
def uU (ops:List Oper) (o:Oper):Bool:=pU o&&!jV ops o
def Kz (x y:Oper):Bool:=
 match x.op,x.dst,x.guard with
 | .move (.tmp u),some dx,none=>isApp y&&y.guard.isNone&&!(vg y.op.operands.toList).contains dx&&y.dst != some dx&&y.dst != some u
 | _,_,_=>false
def vv (P:Program) (n:Nat) (o:Oper) (e:Env) (g:Bool) (K:Env->Prop):Prop:=
 match o.op,o.dst with
 | .call c,some d=>d < n/\g=true/\(match c.args.toList,c.argTypes.toList with
  | [x,y],[T,T2]=>ou e d K (rd e x) (rd e y) (bO P T) (bO P T2)
  | _,_=>False)
 | _,_=>False
section
variable {P:Program} {n:Nat} {e:Env} {K K':Env->Prop}
theorem VP {d:Nat} {S:Prop} {x y:D} {t t2:Ty} (h:ou e d K x y t t2):Af e d K S x y t t2:=by
 unfold Af;split
 ·unfold ou at h;split at h
  ·have:=h.2;unfold we at this;split at this<;>simp_all
  ·exact h.elim
 ·unfold ou at h;split at h
  ·have:=h.2;simp only [pg,yV] at this;unfold we at this;split at this<;>simp_all
  ·exact h.elim
 ·exact h
theorem Ls {o:Oper} (h:isApp o=true):hard o=false:=by
 unfold isApp at h;unfold hard;split at h
 ·rename_i c hop;rw [hop];split at h
  ·rename_i hc;simp [hc]
  ·cases h
 ·cases h
theorem KY {o:Oper} {g:Bool} (ha:isApp o=true) (h:vv P n o e g K):j3 P n false o e g K:=by
 unfold j3;rw [Ls ha];unfold isApp at ha;unfold vv at h;split at ha
 ·rename_i c hop;split at ha
  ·rename_i hc;rw [hop] at h;cases hd:o.dst with
   | none=>rw [hd] at h;exact h.elim
   | some d =>
    rw [hd] at h;obtain ⟨h1,h2,h3⟩:=h;simp only [Bool.false_eq_true,if_false,iF,hop,hd,hc];refine ⟨h1,h2,trivial,?_⟩;split at h3
    ·rename_i x y T T2 ha ht;rw [ha,ht];exact VP h3
    ·exact h3.elim
  ·cases ha
 ·cases ha
theorem yO (h:∀ e,K e->K' e) {o:Oper} {g:Bool} (hk:vv P n o e g K):vv P n o e g K':=by
 unfold vv at hk |-;split at hk
 ·refine ⟨hk.1,hk.2.1,?_⟩;have h3:=hk.2.2;split at h3
  ·exact FL h h3
  ·exact h3.elim
 ·exact hk.elim
theorem Sg {x:Operand} {l:List Operand} {dx:Nat} {v:D} (hx:x∈l) (h:(vg l).contains dx=false):rd (cy e dx v) x=rd e x:=by
 cases x with
 | tmp t =>
  have:t≠dx:=by
   rintro rfl
   have:t∈vg l:=List.mem_filterMap.2 ⟨_,hx,rfl⟩;rw [List.contains_eq_mem] at h;simp [this] at h
  exact Ay this
 | _=>rfl
theorem Ox {o:Oper} {g:Bool} {u dx:Nat} (hx:(vg o.op.operands.toList).contains dx=false) (h1:o.dst≠some dx) (h2:o.dst≠some u) (h:vv P n o (cy e dx (e.t u)) g K) :
  vv P n o e g fun e2=>K (cy e2 dx (e2.t u)):=by
 unfold vv at h |-;cases hop:o.op<;>rw [hop] at h<;>try exact h.elim
 rename_i c;cases hd:o.dst with
 | none=>rw [hd] at h;exact h.elim
 | some d =>
  rw [hd] at h;obtain ⟨k1,k2,k3⟩:=h;refine ⟨k1,k2,?_⟩;have ndx:d≠dx:=fun h=>h1 (by rw [hd,h])
  have ndu:d≠u:=fun h=>h2 (by rw [hd,h])
  have base:∀ (e:Env) (v:D) (k:Nat) (y r:D),v=e.t u->cy (dV (cy e dx v) k y) d r=cy (cy (dV e k y) d r) dx ((cy (dV e k y) d r).t u):=by
   intro e v k y r hv;have e1:(cy (dV e k y) d r).t u=v:=by rw [Ay (Ne.symm ndu)];exact hv.symm
   rw [e1];simp only [cy,dV,Env.mk.injEq,and_true]
   funext j
   by_cases hj:j=d
   ·subst hj;simp [ndx]
   ·simp [hj]
  split at k3<;>try exact k3.elim
  rename_i x y T T2 hargs htys;have hin:∀ z∈c.args.toList,rd (cy e dx (e.t u)) z=rd e z:=fun z hz=>Sg (l:=o.op.operands.toList) (by rw [hop];simp only [Op.operands,Call.operands,Array.toList_append,List.mem_append];exact .inr hz) hx
  rw [hin x (by rw [hargs];simp),hin y (by rw [hargs];simp)] at k3;unfold ou at k3 |-;split at k3<;>try exact k3.elim
  refine ⟨k3.1,?_⟩;have k3:=k3.2;have hbo:pg (cy e dx (e.t u)).o [] 2 (rd e y)=pg e.o [] 2 (rd e y):=rfl;rw [hbo] at k3;unfold we at k3 |-;split at k3<;>try exact k3.elim
  ·refine ⟨k3.1,k3.2.1,?_⟩;dsimp only;rw [<- base e _ _ _ _ rfl];exact k3.2.2
  ·refine ⟨k3.1,k3.2.1,?_⟩;dsimp only;rw [<- base e _ _ _ _ rfl];exact k3.2.2
  ·rename_i r rows2 _ _;have ho:(cy e dx (e.t u)).o r=e.o r:=rfl;rw [ho] at k3;unfold P7 at k3 |-;split at k3<;>try exact k3.elim
   refine ⟨k3.1,k3.2.1,k3.2.2.1,?_⟩
   have hk:jT r (cy e dx (e.t u))=cy (jT r e) dx ((jT r e).t u):=by
    simp only [jT,cy,Env.mk.injEq,and_true]
    funext j
    split<;>rfl
   have k4:=k3.2.2.2;rw [hk] at k4;dsimp only;rw [<- base (jT r e) _ _ _ _ rfl];exact k4
end
def yz (ops:Array Oper):Nat->Nat->Nat->Bool
 | 0,_,_=>false
 | k+1,i,j=>match ops[i]? with
  | none=>false
  | some y=>y.after.any (fun e=>Region.binds .any e&&(e.on==j||yz ops k e.on j))
def xO (np:Nat) (ops:Array Oper):Bool:=
 (List.range ops.size).all fun i=>match ops[i]? with
  | none=>true
  | some y=>y.after.all (fun e=>!Region.binds .any e||e.on < i) &&
    (List.range i).all fun j=>y.after.any (fun e=>Region.binds .any e&&e.on==j)||(match ops[j]? with
     | none=>true
     | some x=>(!uU ops.toList x&&!uU ops.toList y&&BO np ops.toList x y)||(Kz x y&&!jV ops.toList y&&!jV ops.toList x)||yz ops 12 i j)
def reach (o:Nat->D):Nat->List Nat->List Nat
 | 0,ns=>ns
 | k+1,ns=>ns++reach o k (D.cj (ns.map o))
def cB (e:Env) (o:Oper):List Nat:=
 match o.op with
 | .load _ a=>(rd e a).names
 | .store _ a _=>(rd e a).names
 | .indexAddr _ x _=>(rd e x).names
 | .slice _ x _ _ _=>(rd e x).names
 | .call c=>(match c.callee with
  | .value f=>reach e.o 4 (D.cj (rd e f :: c.args.toList.map (rd e)))
  | _=>D.cj (c.args.toList.map (rd e)))
 | _=>[]
def sZ (np:Nat) (ops:List Oper) (o:Oper) (r:Nat):Bool:=
 (match o.op with
  | .store _ _ _=>(Kx np ops o).contains r
  | _=>(rdO np ops o).contains r||!(Xh np ops).contains r)
def xj (np:Nat) (ops:List Oper) (o:Oper):List Nat->Prop
 | []=>True
 | r :: rs=>sZ np ops o r=true/\xj np ops o rs
theorem ud {np:Nat} {ops:List Oper} {o:Oper}:∀ {l:List Nat},xj np ops o l->∀ r∈l,sZ np ops o r=true
 | [],_,r,hr=>by cases hr
 | x :: l,h,r,hr=>by
  rcases List.mem_cons.1 hr with rfl | hr
  ·exact h.1
  ·exact ud h.2 r hr
def R5 (P:Program) (n np:Nat) (ops:List Oper) (o:Oper) (e:Env) (g:Bool) (K:Env->Prop):Prop:=
 (g=true->xj np ops o (cB e o))/\j3 P n true o e g K
def GC (e:Env) (z by_ d:Nat) (K:Env->Prop) (y:Option (List (List D))):Prop:=
 match y with
 | some rows2=>(by_+(1-by_))*rows2.length<=2 ^ 47/\e.o (nm d 0)=.undef/\K (cy (dV e (nm d 0) (.own z rows2)) d (.ref (nm d 0)))
 | none=>False
def AU (e:Env) (d:Nat) (K:Env->Prop) (x y:D) (t t2:Ty):Prop:=
 match x,t,t2 with
 | .emp,.slice z by_ _,.slice _ _ _=>by_<=2 ^ 32/\GC e z by_ d K (yV z (pg e.o [] 2 y))
 | _,_,_=>False
def Eh (e:Env) (d:Nat) (K:Env->Prop) (t:Ty):Prop:=
 match t with
 | .slice _ _ _=>e.o (nm d 0)=.undef/\K (cy e d .emp)
 | _=>False
def mm (P:Program) (n np:Nat) (ops:List Oper) (o:Oper) (e:Env) (K:Env->Prop):Prop:=
 match o.op,o.dst with
 | .buildSlice t _ _,some d=>d < n/\Eh e d K (bO P t)
 | .call c,some d=>d < n/\(match c.args.toList,c.argTypes.toList with
  | [x,y],[T,T2]=>xj np ops o (reach e.o 2 (rd e y).names)/\AU e d K (rd e x) (rd e y) (bO P T) (bO P T2)
  | _,_=>False)
 | _,_=>False
theorem Ol {P:Program} {e:Env} {K K':Env->Prop} (h:∀ e,K e->K' e) {d:Nat} {x y:D} {t t2:Ty} (hk:AU e d K x y t t2):AU e d K' x y t t2:=by
 unfold AU at hk |-;split at hk
 ·refine ⟨hk.1,?_⟩;have hk:=hk.2;unfold GC at hk |-;split at hk
  ·exact ⟨hk.1,hk.2.1,h _ hk.2.2⟩
  ·exact hk.elim
 ·exact hk.elim
theorem Dw {P:Program} {n np:Nat} {ops:List Oper} {o:Oper} {e:Env} {K K':Env->Prop} (h:∀ e,K e->K' e) (hk:mm P n np ops o e K):mm P n np ops o e K':=by
 unfold mm at hk |-;split at hk
 ·refine ⟨hk.1,?_⟩;have hk:=hk.2;unfold Eh at hk |-;split at hk
  ·exact ⟨hk.1,h _ hk.2⟩
  ·exact hk.elim
 ·refine ⟨hk.1,?_⟩;have hk:=hk.2;split at hk
  ·exact ⟨hk.1,Ol (P:=P) h hk.2⟩
  ·exact hk.elim
 ·exact hk.elim
theorem Xa {e:Env} {K:Env->Prop} {d:Nat} {x y:D} {t t2:Ty} (hk:AU e d K x y t t2):ou e d K x y t t2:=by
 unfold AU at hk;split at hk
 ·unfold ou;refine ⟨hk.1,?_⟩;have hk:=hk.2;unfold GC at hk;split at hk
  ·rename_i hr;rw [hr];exact hk
  ·exact hk.elim
 ·exact hk.elim
theorem MX {ops:List Oper} {o:Oper} (h:jV ops o=true):o.guard=none/\((∃ t len ps d,o.op=.buildSlice t len ps/\o.dst=some d/\len=0/\ps = #[])\/isApp o=true):=by
 unfold jV at h;simp only [Bool.and_eq_true,Option.isNone_iff_eq_none] at h;refine ⟨h.2,?_⟩;have h:=h.1;unfold P0 at h;split at h
 ·rename_i t len ps hop;simp only [Bool.and_eq_true,beq_iff_eq] at h;obtain ⟨h1,h2,h3⟩:=h;split at h3
  ·rename_i d hd;refine .inl ⟨t,len,ps,d,hop,hd,h1,?_⟩;have:ps.toList=[]:=List.isEmpty_iff.1 h2;exact Array.ext' (by simpa using this)
  ·cases h3
 ·rename_i c hop;split at h
  ·rename_i hc
   right
   simp [isApp,hop,hc]
  ·cases h
 ·cases h
def fR (P:Program) (n np:Nat) (ops:List Oper) (o:Oper) (e:Env) (K:Env->Prop):Prop:=
 match qi ops e o.guard with
 | some g=>if jV ops o then mm P n np ops o e K else if pU o then (if isApp o then vv P n o e g K else j3 P n false o e g K) else R5 P n np ops o e g K
 | none=>False
def kG (P:Program) (n np:Nat) (ops:List Oper):List Oper->Env->(Env->Prop)->Prop
 | [],e,K=>K e
 | o :: r,e,K=>fR P n np ops o e fun e'=>kG P n np ops r e' K
def EG (ft fo:Nat->Option D) (e:Env):Env:=⟨fun j=>(ft j).getD (e.t j),fun j=>(fo j).getD (e.o j)⟩
def one (i:Nat) (d:D):Nat->Option D:=fun j=>if j=i then some d else none
def nZ:Nat->Option D:=fun _=>none
theorem F5 (i:Nat) (d:D) (e:Env):cy e i d=EG (one i d) nZ e:=by
 simp only [cy,EG,one,nZ,Option.getD_none,Env.mk.injEq,and_true]
 funext j
 by_cases h:j=i<;>simp [h]
theorem Nw (i:Nat) (d:D) (e:Env):dV e i d=EG nZ (one i d) e:=by
 simp only [dV,EG,one,nZ,Option.getD_none,Env.mk.injEq,true_and]
 funext j
 by_cases h:j=i<;>simp [h]
theorem Hl (i k:Nat) (d x:D) (e:Env):cy (dV e k x) i d=EG (one i d) (one k x) e:=by
 rw [F5,Nw];simp [EG,nZ]
def Bx (f:Nat->Option Nat):List Nat->List D->Nat->Option D
 | n :: ns,h :: hs=>fun j=>match Bx f ns hs j with
  | some x=>some x
  | none=>if j=n then some (h.jx f) else none
 | _,_=>nZ
theorem Iq (f:Nat->Option Nat):∀ (ns:List Nat) (hs:List D) (e:Env),Du f ns hs e=EG nZ (Bx f ns hs) e
 | [],_,e=>rfl
 | _ :: _,[],e=>rfl
 | n :: ns,h :: hs,e=>by
  rw [Du,Iq f ns hs,Nw];simp only [EG,nZ,Bx,Option.getD_none,Env.mk.injEq,true_and]
  funext j
  cases Bx f ns hs j with
  | some x=>rfl
  | none=>simp [one]
theorem Kv {f:Nat->Option Nat}:∀ {ns:List Nat} {hs:List D} {j:Nat} {x:D},Bx f ns hs j=some x->j∈ns
 | [],_,j,x,h=>by simp [Bx,nZ] at h
 | _ :: _,[],j,x,h=>by simp [Bx,nZ] at h
 | n :: ns,y :: hs,j,x,h=>by
  simp only [Bx] at h;cases e:Bx f ns hs j with
  | some z=>exact List.mem_cons_of_mem _ (Kv e)
  | none =>
   rw [e] at h;simp only at h;split at h
   ·rename_i hj;subst hj;simp
   ·cases h
theorem E0 (d:Nat) (hs':List D) (dv:D) (e:Env):eO e d [] hs' dv=EG (one d (dv.jx (K0 (fS d [] hs')))) (Bx (K0 (fS d [] hs')) (fS d [] hs') hs') e:=by
 have hd:jM [] hs'=[]:=by cases hs'<;>rfl
 unfold eO;rw [hd,u9,Iq,F5];simp [EG,nZ]
def mQ (np:Nat) (ops:List Oper) (o:Oper) (e e2:Env):Prop:=
 (∀ s∈rdT ops o,e.t s=e2.t s)/\∀ r,(r∈rdO np ops o\/r∈Kx np ops o\/r ∉ Xh np ops)->e.o r=e2.o r
theorem K5 {l:List Operand} {t:Nat} (h:.tmp t∈l):t∈vg l:=List.mem_filterMap.2 ⟨_,h,rfl⟩
section
variable {P:Program} {n np:Nat} {ops:List Oper} {o:Oper} {e e2:Env}
theorem mQ.rd (h:mQ np ops o e e2) {x:Operand} (hx:x∈o.op.operands.toList):rd e x=rd e2 x:=by
 cases x<;>try rfl
 rename_i t;exact h.1 t (List.mem_append_left _ (K5 hx))
theorem mQ.obj (h:mQ np ops o e e2) (hk:xj np ops o (cB e o)) {r:Nat} (hr:r∈cB e o):e.o r=e2.o r:=by
 have:=ud hk r hr;unfold sZ at this;refine h.2 r ?_;split at this
 ·exact .inr (.inl (List.contains_iff_mem.1 this))
 ·simp only [Bool.or_eq_true,Bool.not_eq_true',List.contains_eq_mem,decide_eq_true_eq,decide_eq_false_iff_not] at this;rcases this with h | h
  ·exact .inl h
  ·exact .inr (.inr h)
theorem tX (o1:Nat->D):∀ (k:Nat) (a b:List Nat),(∀ r∈a,r∈b)->∀ r∈reach o1 k a,r∈reach o1 k b:=by
 intro k
 induction k with
 | zero=>intro a b hab r hr;exact hab r hr
 | succ k ih =>
  intro a b hab r hr;simp only [reach,List.mem_append] at hr |-;rcases hr with hr | hr
  ·exact .inl (hab r hr)
  ·refine .inr (ih _ _ ?_ r hr);intro s hs;obtain ⟨y,hy,hs⟩:=dX.1 hs;obtain ⟨z,hz,rfl⟩:=List.mem_map.1 hy;exact dX.2 ⟨_,List.mem_map.2 ⟨z,hab z hz,rfl⟩,hs⟩
theorem vc (o1:Nat->D):∀ (k:Nat) (a:List Nat),∀ r∈reach o1 k a,r∈reach o1 (k+1) a:=by
 intro k
 induction k with
 | zero=>intro a r hr;simp only [reach];exact List.mem_append_left _ hr
 | succ k ih =>
  intro a r hr;simp only [reach,List.mem_append] at hr;rcases hr with hr | hr
  ·simp only [reach];exact List.mem_append_left _ hr
  ·show r∈a++reach o1 (k+1) _
   exact List.mem_append_right _ (ih _ r hr)
theorem tI {o1 o2:Nat->D} (x:List Nat):∀ (k:Nat) (d:D),(∀ r∈reach o1 k d.names,o1 r=o2 r)->pg o1 x k d=pg o2 x k d
 | 0,d,_=>rfl
 | k+1,d,h=>by
  have hself:∀ r∈d.names,o1 r=o2 r:=fun r hr=>h r (by simp only [reach];exact List.mem_append_left _ hr)
  have lst:∀ cs:List D,(∀ c∈cs,∀ r∈reach o1 k c.names,o1 r=o2 r)->cs.map (pg o1 x k)=cs.map (pg o2 x k):=fun cs hc=>List.map_congr_left fun c hm=>tI x k c (hc c hm)
  have sub:∀ cs:List D,D.cj cs=d.names->∀ c∈cs,∀ r∈reach o1 k c.names,o1 r=o2 r:=by
   intro cs e c hc r hr;refine h r (vc o1 k _ r (tX o1 k _ _ ?_ r hr));intro s hs;rw [<- e];exact dX.2 ⟨c,hc,hs⟩
  cases d<;>simp only [pg]
  ·rw [lst _ (sub _ rfl)]
  ·rw [lst _ (sub _ rfl)]
  ·rw [lst _ (sub _ rfl)]
  ·rw [hself _ (by simp [D.names])]
  ·rename_i r off;have e1:=hself r (by simp [D.names]);rw [<- e1];congr 1;unfold mG;split
   ·rename_i cs hcs;congr 1;refine List.map_congr_left ?_;intro c hc;refine tI x k c ?_;intro s hs;refine h s ?_;simp only [reach];refine List.mem_append_right _ (tX o1 k _ _ ?_ s hs);intro t ht;refine dX.2 ⟨o1 r,List.mem_map.2 ⟨r,by simp [D.names],rfl⟩,?_⟩;rw [hcs];simp only [D.names];exact dX.2 ⟨c,List.mem_of_mem_drop hc,ht⟩
   ·rfl
  ·rw [hself _ (by simp [D.names])]
  ·rw [hself _ (by simp [D.names])]
  ·rw [hself _ (by simp [D.names])]
theorem Cp {o1 o2:Nat->D} (bw:Bool):∀ (k:Nat) (d:D),(∀ r∈reach o1 k d.names,o1 r=o2 r)->conv bw [] o1 k d=conv bw [] o2 k d
 | 0,d,_=>rfl
 | k+1,d,h=>by
  have lst:∀ cs:List D,(∀ c∈cs,∀ r∈reach o1 k c.names,o1 r=o2 r)->cs.map (conv bw [] o1 k)=cs.map (conv bw [] o2 k):=fun cs hc=>List.map_congr_left fun c hm=>Cp bw k c (hc c hm)
  have sub:∀ cs:List D,D.cj cs=d.names->∀ c∈cs,∀ r∈reach o1 k c.names,o1 r=o2 r:=by
   intro cs e c hc r hr;refine h r (vc o1 k _ r (tX o1 k _ _ ?_ r hr));intro s hs;rw [<- e];exact dX.2 ⟨c,hc,hs⟩
  have hb:pg o1 [] k d=pg o2 [] k d:=tI [] k d fun r hr=>h r (vc o1 k _ r hr)
  cases d<;>simp only [conv]
  ·rw [lst _ (sub _ rfl)]
  ·rw [lst _ (sub _ rfl)]
  ·rw [lst _ (sub _ rfl)]
  all_goals rw [hb]
theorem Py {l:qA} {d:D} (h:∀ r∈d.names,e.o r=e2.o r):Td e l d=Td e2 l d/\(G2 e l d ↔ G2 e2 l d):=by
 cases d<;>simp only [Td,G2]<;>(try exact ⟨trivial,trivial⟩)<;>(try exact ⟨trivial,Iff.rfl⟩)
 all_goals (rw [h _ (by simp [D.names])];exact ⟨rfl,Iff.rfl⟩)
theorem Mb {t:Ty} {d:D} (h:∀ r∈d.names,e.o r=e2.o r):GY e t d=GY e2 t d/\(wE e t d ↔ wE e2 t d):=by
 have h1:Qv e d=Qv e2 d:=by
  cases d<;>simp only [Qv];rw [h _ (by simp [D.names])]
 have h2:Ds e d ↔ Ds e2 d:=by
  cases d<;>simp only [Ds];rw [h _ (by simp [D.names])]
 unfold GY wE;rw [h1,h2];exact ⟨rfl,Iff.rfl⟩
theorem Oz {t:Ty} {d i:D} (h:∀ r∈d.names,e.o r=e2.o r):OF e t d i=OF e2 t d i/\(Im e t d i ↔ Im e2 t d i):=by
 cases d<;>cases i<;>simp only [OF,Im]<;>(try exact ⟨trivial,trivial⟩)<;>(try exact ⟨trivial,Iff.rfl⟩);rw [h _ (by simp [D.names])];exact ⟨trivial,Iff.rfl⟩
theorem OI {t:Ty} {d:D} (h:Ji e t d=Ji e2 t d):UC e t d=UC e2 t d:=by
 cases d<;>first | exact h | (cases t<;>rfl)
theorem OX {t:Ty} {d:D} (h:∀ r∈d.names,e.o r=e2.o r):Ji e t d=Ji e2 t d/\∀ l m,Rt e t d l m=Rt e2 t d l m:=by
 by_cases hd:∃ r,d=.ref r
 ·obtain ⟨r,rfl⟩:=hd;have hr:=h r (by simp [D.names]);exact ⟨by cases t<;>simp [Ji,hr],fun l m=>by simp [Rt,hr]⟩
 ·refine ⟨?_,fun l m=>?_⟩
  ·cases d<;>first | exact (hd ⟨_,rfl⟩).elim | (cases t<;>rfl)
  ·cases d<;>first | exact (hd ⟨_,rfl⟩).elim | (cases t<;>rfl)
theorem Bo (h:mQ np ops o e e2) (hk:xj np ops o (cB e o)) (hn:∀ c f,o.op=.call c->c.callee≠.value f):gD P e o.op=gD P e2 o.op/\(dG P e o.op ↔ dG P e2 o.op):=by
 have hr:∀ x,x∈o.op.operands.toList->rd e x=rd e2 x:=fun x hx=>h.rd hx
 have hob:∀ r∈cB e o,e.o r=e2.o r:=fun r hr=>h.obj hk hr
 cases hop:o.op<;>simp only [gD,dG]<;>(try exact ⟨rfl,Iff.rfl⟩)<;>(try exact ⟨trivial,trivial⟩)<;>rw [hop] at hr<;>simp only [cB,hop] at hob<;>simp only [Op.operands] at hr
 case move x=>rw [hr x (by simp)];exact ⟨rfl,trivial⟩
 case assign x=>rw [hr x (by simp)];exact ⟨rfl,trivial⟩
 case pick c a b=>rw [hr c (by simp),hr a (by simp),hr b (by simp)];exact ⟨rfl,Iff.rfl⟩
 case binOp op t x y yt=>rw [hr x (by simp),hr y (by simp)];exact ⟨rfl,Iff.rfl⟩
 case unOp op t x=>rw [hr x (by simp)];exact ⟨rfl,Iff.rfl⟩
 case convert s d x=>rw [hr x (by simp)];exact ⟨rfl,Iff.rfl⟩
 case fieldAddr t x f=>rw [hr x (by simp)];exact ⟨rfl,Iff.rfl⟩
 case field t x f=>rw [hr x (by simp)];exact ⟨rfl,Iff.rfl⟩
 case indexAddr t x i =>
  have:=Oz (t:=bO P t) (i:=rd e i) hob;rw [<- hr x (by simp),<- hr i (by simp),this.1,this.2];exact ⟨rfl,Iff.rfl⟩
 case index t x i=>rw [hr x (by simp),hr i (by simp)];exact ⟨rfl,Iff.rfl⟩
 case load t a =>
  rw [<- hr a (by simp)];cases bT P t with
  | none=>exact ⟨rfl,Iff.rfl⟩
  | some l=>simp only;exact Py hob
 case nilCheck x=>rw [hr x (by simp)];exact ⟨rfl,Iff.rfl⟩
 case extract x i=>rw [hr x (by simp)];exact ⟨rfl,Iff.rfl⟩
 case build t parts =>
  have hb:dn P e t parts.toList=dn P e2 t parts.toList:=by
   unfold dn
   have hp:∀ x∈parts.toList,rd e x.2=rd e2 x.2:=by
    intro x hx;refine hr x.2 ?_;simp only [List.mem_map];exact ⟨x,hx,rfl⟩
   split
   ·refine List.map_congr_left ?_;intro x hx;rw [hp x hx]
   ·refine List.map_congr_left ?_;intro x hx;rw [hp x hx]
   ·rfl
  unfold Aq;rw [hb];exact ⟨rfl,Iff.rfl⟩
 case slice t x lo hi mx =>
  have h1:=hr x (by simp)
  have h2:∀ d,HX e d lo=HX e2 d lo:=by
   intro d;cases lo with
   | none=>rfl
   | some o=>exact hr o (by simp)
  have h3:∀ d,HX e d hi=HX e2 d hi:=by
   intro d;cases hi with
   | none=>rfl
   | some o=>exact hr o (by simp)
  have h4:=OX (t:=bO P t) hob;cases mx with
  | none =>
   simp only [gD,dG,slV,PW];rw [<- h1,h2,h3,h4.1,OI h4.1];refine ⟨?_,Iff.rfl⟩;split
   ·exact h4.2 _ _
   ·rfl
  | some m =>
   have h5:=hr m (by simp);cases lo<;>cases hi<;>simp only [gD,dG]<;>(try exact ⟨trivial,trivial⟩)<;>(try exact ⟨trivial,Iff.rfl⟩);rename_i hh;rw [h1,h5,hr hh (by simp)];exact ⟨trivial,Iff.rfl⟩
 case makeFunc fn first caps =>
  cases fn<;>simp only [gD,dG]<;>(try exact ⟨trivial,trivial⟩)<;>(try exact ⟨trivial,Iff.rfl⟩);refine ⟨?_,trivial⟩;congr 1;refine List.map_congr_left ?_;intro x hx;exact hr x (by simp [hx])
 case call c =>
  have h1:∀ x∈c.args.toList,rd e x=rd e2 x:=fun x hx=>hr x (by simp only [Call.operands,Array.toList_append,List.mem_append];exact .inr hx)
  have h2:c.args.toList.map (rd e)=c.args.toList.map (rd e2):=List.map_congr_left h1;have hcv:∀ f,c.callee≠.value f:=fun f=>hn c f hop
  split
  ·rename_i hcal hargs _;rw [hcal] at hob;simp only [hargs,List.map_cons,List.map_nil,D.cj,List.append_nil] at hob;have:=h1 _ (by rw [hargs];exact List.mem_singleton.2 rfl);rw [<- this];exact Mb hob
  ·rw [h2];exact ⟨rfl,Iff.rfl⟩
  ·rw [h2];exact ⟨rfl,Iff.rfl⟩
  ·exact ⟨rfl,Iff.rfl⟩
theorem C7 (h:mQ np ops o e e2):qi ops e o.guard=qi ops e2 o.guard:=by
 unfold qi;cases hg:o.guard with
 | none=>rfl
 | some p =>
  obtain ⟨j,w⟩:=p;simp only;cases hd:rK ops j with
  | none=>rfl
  | some t =>
   simp only [rd];rw [h.1 t (by simp [rdT,hg,hd])]
theorem I4 {d:Nat} {hs':List D} (h16:hs'.length<=16) {r:Nat} (h:r∈j8 d 0 (hs'.length-([]:List Nat).length)):r∈BG d:=by
 obtain ⟨j,_,h2,rfl⟩:=tU h;simp only [BG,List.mem_map,List.mem_range];exact ⟨j,by simp at h2;omega,rfl⟩
def Splits (P:Program) (n np:Nat) (ops:List Oper) (o:Oper) (e:Env) (g:Bool) (K:Env->Prop):Prop:=
 ∃ ft fo:Nat->Option D,(∀ s d,ft s=some d->s∈R3 o)/\(∀ s d,fo s=some d->s∈Kx np ops o)/\K (EG ft fo e) /\
  ∀ e2,mQ np ops o e e2->∀ K2:Env->Prop,K2 (EG ft fo e2)->j3 P n true o e2 g K2
theorem Pg (hh:hard o=false) {g:Bool} {K:Env->Prop} (hk:g=true->xj np ops o (cB e o)) (h:j3 P n true o e g K):Splits P n np ops o e g K:=by
 have hopK:∀ e K,j3 P n true o e g K=iF P n true o e g K:=fun e K=>by simp [j3,hh]
 rw [hopK] at h
 have one_mem:∀ (d:Nat) (x:D),o.dst=some d->∀ s y,one d x s=some y->s∈R3 o:=by
  intro d x hd s y hy;unfold one at hy;split at hy
  ·rename_i e;subst e;simp [R3,hd]
  ·cases hy
 have no_mem:∀ s (y:D),nZ s=some y->s∈Kx np ops o:=fun s y h=>by cases h
 -- a step that only sets its slot
 have simple:∀ (d:Nat) (x:D),o.dst=some d->K (cy e d x)->(∀ e2,mQ np ops o e e2->∀ K2:Env->Prop,K2 (cy e2 d x)->j3 P n true o e2 g K2)->Splits P n np ops o e g K:=by
  intro d x hd hK hh;refine ⟨one d x,nZ,one_mem d x hd,no_mem,by rw [<- F5];exact hK,?_⟩;intro e2 hag K2 hK2;exact hh e2 hag K2 (by rw [F5];exact hK2)
 -- a step that makes one object
 have maker:∀ (d:Nat) (x y:D),o.dst=some d->makes o.op=true->K (cy (dV e (nm d 0) y) d x)->(∀ e2,mQ np ops o e e2->∀ K2:Env->Prop,K2 (cy (dV e2 (nm d 0) y) d x)->j3 P n true o e2 g K2)->Splits P n np ops o e g K:=by
  intro d x y hd hm hK hh;refine ⟨one d x,one (nm d 0) y,one_mem d x hd,?_,by rw [<- Hl];exact hK,?_⟩
  ·intro s z hz;unfold one at hz;split at hz
   ·rename_i e;subst e;simp only [Kx,hd,hm,if_true];exact List.mem_append_left _ (by simp only [BG,List.mem_map,List.mem_range];exact ⟨0,by omega,rfl⟩)
   ·cases hz
  ·intro e2 hag K2 hK2;exact hh e2 hag K2 (by rw [Hl];exact hK2)
 have hfr:∀ (d:Nat),o.dst=some d->makes o.op=true->∀ e2,mQ np ops o e e2->∀ r∈BG d,e.o r=e2.o r:=by
  intro d hd hm e2 hag r hr;refine hag.2 r (.inr (.inl ?_));simp only [Kx,hd,hm,if_true];exact List.mem_append_left _ hr
 have h0:∀ d,nm d 0∈BG d:=fun d=>by simp only [BG,List.mem_map,List.mem_range];exact ⟨0,by omega,rfl⟩
 cases hd:o.dst with
 | none =>
  cases hop:o.op<;>simp only [iF,hop,hd] at h<;>try exact h.elim
  rename_i t a x;obtain ⟨hg,h⟩:=h;have hk':=hk hg;simp only [Norm] at h;have hra:∀ e2,mQ np ops o e e2->rd e a=rd e2 a/\rd e x=rd e2 x:=fun e2 hag=>⟨hag.rd (by simp [hop,Op.operands]),hag.rd (by simp [hop,Op.operands])⟩
  have hin:∀ r∈(rd e a).names,r∈Kx np ops o:=by
   intro r hr;have:=ud hk' r (by simp only [cB,hop];exact hr);unfold sZ at this;rw [hop] at this;exact List.contains_iff_mem.1 this
  have iX:∀ (r:Nat) (y:D),r∈(rd e a).names->K (dV e r y)->(∀ e2,mQ np ops o e e2->∀ K2:Env->Prop,K2 (dV e2 r y)->j3 P n true o e2 g K2)->Splits P n np ops o e g K:=by
   intro r y hr hK hh;refine ⟨nZ,one r y,(fun s d h=>by cases h),?_,(by rw [<- Nw];exact hK),?_⟩
   ·intro s z hz;unfold one at hz;split at hz
    ·rename_i e;subst e;exact hin _ hr
    ·cases hz
   ·intro e2 hag K2 hK2;exact hh e2 hag K2 (by rw [Nw];exact hK2)
  unfold Pj at h;cases ha:rd e a<;>rw [ha] at h<;>try exact h.elim
  ·rename_i r off;simp only at h;unfold XB at h;cases ho:e.o r<;>rw [ho] at h<;>try exact h.elim
   rename_i cs;simp only at h;cases hl:bT P t with
   | none=>rw [hl] at h;exact h.elim
   | some l =>
    rw [hl] at h;obtain ⟨q1,q2,q3,hK⟩:=h;refine iX r _ (by rw [ha];simp [D.names]) hK ?_;intro e2 hag K2 hK2;obtain ⟨ea,ex⟩:=hra e2 hag;have er:e.o r=e2.o r:=hag.2 r (.inr (.inl (hin r (by rw [ha];simp [D.names]))));simp only [hopK,iF,hop,hd,Norm];refine ⟨hg,?_⟩;rw [<- ea,<- ex,ha];simp only [Pj];rw [<- er,ho];simp only [XB,hl];exact ⟨q1,q2,q3,hK2⟩
  ·rename_i r z i k;simp only at h;unfold WZ at h;cases ho:e.o r<;>rw [ho] at h<;>try exact h.elim
   rename_i z' rows;simp only at h;cases hl:bT P t with
   | none=>rw [hl] at h;exact h.elim
   | some l =>
    rw [hl] at h;obtain ⟨q1,q2,q3,q4,q5,hK⟩:=h;refine iX r _ (by rw [ha];simp [D.names]) hK ?_;intro e2 hag K2 hK2;obtain ⟨ea,ex⟩:=hra e2 hag;have er:e.o r=e2.o r:=hag.2 r (.inr (.inl (hin r (by rw [ha];simp [D.names]))));simp only [hopK,iF,hop,hd,Norm];refine ⟨hg,?_⟩;rw [<- ea,<- ex,ha];simp only [Pj];rw [<- er,ho];simp only [WZ,hl];exact ⟨q1,q2,q3,q4,q5,hK2⟩
 | some d =>
  have pureCase:(∀ c f,o.op=.call c->c.callee≠.value f)->(∀ e' K',j3 P n true o e' g K' ↔ (d < n/\eY g (dG P e' o.op) (gD P e' o.op) fun u=>K' (cy e' d u)))->Splits P n np ops o e g K:=by
   intro hn heq;obtain ⟨hdn,hok,hK⟩:=(heq e K).1 (by rw [hopK];exact h);refine simple d _ hd hK ?_;intro e2 hag K2 hK2;refine (heq e2 K2).2 ⟨hdn,?_,?_⟩
   ·intro hg;exact (Bo (P:=P) hag (hk hg) hn).2.1 (hok hg)
   ·cases g with
    | false=>exact hK2
    | true =>
     have:=(Bo (P:=P) hag (hk rfl) hn).1;simp only [gd,if_true] at hK2 |-;rw [<- this];exact hK2
  cases hop:o.op
  case box T x =>
   simp only [iF,hop,hd] at h;obtain ⟨hg,hdn,q1,q2,hK⟩:=h;refine maker d _ _ hd (by rw [hop];rfl) hK ?_;intro e2 hag K2 hK2;simp only [hopK,iF,hop,hd,Norm];refine ⟨hg,hdn,?_⟩;rw [<- hag.rd (by simp [hop,Op.operands]:x∈o.op.operands.toList)];exact ⟨q1,by rw [<- hfr d hd (by rw [hop];rfl) e2 hag _ (h0 d)];exact q2,hK2⟩
  case alloc T =>
   simp only [iF,hop,hd] at h;obtain ⟨hg,hdn,h⟩:=h;cases hz:cZ P T with
   | none=>rw [hz] at h;exact h.elim
   | some z =>
    rw [hz] at h;obtain ⟨q2,hK⟩:=h;refine maker d _ _ hd (by rw [hop];rfl) hK ?_;intro e2 hag K2 hK2;simp only [hopK,iF,hop,hd,hz];exact ⟨hg,hdn,by rw [<- hfr d hd (by rw [hop];rfl) e2 hag _ (h0 d)];exact q2,hK2⟩
  case buildSlice t len parts =>
   simp only [iF,hop,hd] at h;obtain ⟨hdn,h⟩:=h;have hp:∀ e2,mQ np ops o e e2->∀ x∈parts.toList,rd e x.2=rd e2 x.2:=fun e2 hag x hx=>hag.rd (by simp only [hop,Op.operands,Array.toList_map,List.mem_map];exact ⟨x,hx,rfl⟩)
   have hbn:∀ e2,mQ np ops o e e2->ue e parts.toList=ue e2 parts.toList:=by
    intro e2 hag;unfold ue;congr 1;exact List.map_congr_left fun x hx=>hp e2 hag x hx
   cases g with
   | false =>
    refine simple d _ hd (h.2 rfl) ?_;intro e2 hag K2 hK2;simp only [hopK,iF,hop,hd];exact ⟨hdn,fun h=>(Bool.false_ne_true h).elim,fun _=>hK2⟩
   | true =>
    obtain ⟨hnil,hb⟩:=h.1 rfl;have hnil:=hnil trivial;rw [hnil] at hb;simp only [fE] at hb;unfold OV at hb;split at hb<;>try exact hb.elim
    rename_i z by_ ea zc hT hzc;obtain ⟨q1,q2,q3,q4,q5,hK⟩:=hb;refine maker d _ _ hd (by rw [hop];rfl) hK ?_;intro e2 hag K2 hK2;have hbs:∀ z,j7 e z parts.toList=j7 e2 z parts.toList:=fun z=>List.map_congr_left fun x hx=>by rw [hp e2 hag x hx]
    simp only [hopK,iF,hop,hd];refine ⟨hdn,fun _=>⟨fun _=>by rw [<- hbn e2 hag];exact hnil,?_⟩,fun h=>by cases h⟩;rw [<- hbn e2 hag,hnil];simp only [fE,OV,hT,hzc];simp only [Ao,<- hbs] at q3 q4 |-;exact ⟨q1,q2,q3,q4,by rw [<- hfr d hd (by rw [hop];rfl) e2 hag _ (h0 d)];exact q5,hK2⟩
  case makeSlice t l c =>
   simp only [iF,hop,hd] at h;obtain ⟨hdn,h⟩:=h;cases g with
   | false =>
    refine simple d _ hd (h.2 rfl) ?_;intro e2 hag K2 hK2;simp only [hopK,iF,hop,hd];exact ⟨hdn,fun h=>(Bool.false_ne_true h).elim,fun _=>hK2⟩
   | true =>
    have hm:=h.1 rfl;unfold PF at hm;split at hm<;>try exact hm.elim
    rename_i z by_ ea k1 n1 k2 m1 zc hT hl hc hzc;obtain ⟨q1,q2,q3,q4,q5,q6,q7,hK⟩:=hm;refine maker d _ _ hd (by rw [hop];rfl) hK ?_;intro e2 hag K2 hK2;simp only [hopK,iF,hop,hd];refine ⟨hdn,fun _=>?_,fun h=>by cases h⟩;rw [<- hag.rd (by simp [hop,Op.operands]:l∈o.op.operands.toList),<- hag.rd (by simp [hop,Op.operands]:c∈o.op.operands.toList),hl,hc];simp only [PF,hT,hzc];exact ⟨q1,q2,q3,q4,q5,q6,by rw [<- hfr d hd (by rw [hop];rfl) e2 hag _ (h0 d)];exact q7,hK2⟩
  case call c =>
   cases hcal:c.callee with
   | invoke r m=>simp only [iF,hop,hd,hcal] at h;exact h.2.elim
   | builtin b =>
    by_cases hb:b=.append
    ·subst hb;simp only [iF,hop,hd,hcal] at h;exact (Bool.false_ne_true h.2.2.1.symm).elim
    ·refine pureCase (fun c' f' e' hf=>by rw [hop] at e';cases e';rw [hcal] at hf;cases hf) ?_;intro e' K';simp only [hopK,iF,hop,hd,hcal]
   | value f =>
    simp only [iF,hop,hd,hcal] at h;obtain ⟨hdn,h⟩:=h;cases g with
    | false =>
     refine simple d _ hd (h.2 rfl) ?_;intro e2 hag K2 hK2;simp only [hopK,iF,hop,hd,hcal];exact ⟨hdn,fun h=>(Bool.false_ne_true h).elim,fun _=>hK2⟩
    | true =>
     obtain ⟨fz,gs,bw,hs',dv,hdr,hc⟩:=(h.1 rfl).elim id (fun h=>(Bool.false_ne_true h.1.symm).elim);obtain ⟨rfl,rfl⟩:=hdr rfl;simp only [fE] at hc;unfold xx at hc;split at hc<;>try exact hc.elim
     rename_i k caps hf;obtain ⟨q1,q2,q3,q4,q5,q6,q7⟩:=hc;have q7:=q7.drawn;have hm:makes o.op=true:=by rw [hop];simp [makes,hcal]
     have hns:∀ r∈fS d [] hs',r∈BG d:=fun r hr=>I4 (by simpa using q4.2) (by simpa [fS] using hr)
     have hob:=hk rfl;simp only [cB,hop,hcal] at hob;refine ⟨one d (dv.jx (K0 (fS d [] hs'))),Bx (K0 (fS d [] hs')) (fS d [] hs') hs',one_mem d _ hd,?_,by rw [<- E0];exact q7,?_⟩
     ·intro s x hx;simp only [Kx,hd,hm,if_true];exact List.mem_append_left _ (hns s (Kv hx))
     ·intro e2 hag K2 hK2
      have hob2:∀ r∈reach e.o 4 (D.cj (rd e f :: c.args.toList.map (rd e))),e.o r=e2.o r:=by
       intro r hr;have:=hag.obj (hk rfl) (r:=r) (by simp only [cB,hop,hcal];exact hr);exact this
      have hf2:rd e f=rd e2 f:=hag.rd (by simp [hop,Op.operands,Call.operands,hcal]);have ha2:c.args.toList.map (rd e)=c.args.toList.map (rd e2):=List.map_congr_left fun x hx=>hag.rd (by simp only [hop,Op.operands,Call.operands,Array.toList_append,List.mem_append];exact .inr hx)
      simp only [hopK,iF,hop,hd,hcal];refine ⟨hdn,fun _=>.inl ⟨[],[],bw,hs',dv,fun _=>⟨rfl,rfl⟩,?_⟩,fun h=>by cases h⟩;simp only [fE];rw [<- hf2,hf];simp only [xx];refine ⟨q1,(fun r hr=>by cases hr),?_,q4,q5,?_,(.inl (by rw [E0];exact hK2))⟩
      ·intro r hr;rw [<- hfr d hd hm e2 hag r (I4 (by simpa using q4.2) hr)];exact q3 r hr
      ·rw [<- ha2]
       have:((c.args.toList.map (rd e)++caps).map (conv bw [] e2.o 4))=(c.args.toList.map (rd e)++caps).map (conv bw [] e.o 4):=by
        refine List.map_congr_left ?_;intro x hx;refine (Cp bw 4 x ?_).symm;intro r hr;refine hob2 r (tX e.o 4 _ _ ?_ r hr);intro s hs;rw [hf];simp only [D.cj,D.names,List.mem_append];rcases List.mem_append.1 hx with hx | hx
        ·exact .inr (dX.2 ⟨x,hx,hs⟩)
        ·exact .inl (dX.2 ⟨x,hx,hs⟩)
       rw [this];exact q6
  all_goals
   refine pureCase (fun c' f' e' hf=>by rw [hop] at e';cases e') ?_;intro e' K';simp only [hopK,iF,hop,hd]
theorem Ts {o:Oper} (hh:pU o=false):hard o=false:=by
 unfold pU at hh;cases h:hard o with
 | false=>rfl
 | true=>rw [h] at hh;simp at hh
theorem Jf {e e2:Env}:∀ (k:Nat) (ns:List Nat),(∀ r∈reach e.o k ns,e.o r=e2.o r)->reach e2.o k ns=reach e.o k ns:=by
 intro k
 induction k with
 | zero=>intro ns _;rfl
 | succ k ih =>
  intro ns hh;simp only [reach] at hh |-;have e1:ns.map e2.o=ns.map e.o:=List.map_congr_left fun r hr=>(hh r (List.mem_append_left _ hr)).symm
  rw [e1,ih _ fun r hr=>hh r (List.mem_append_right _ hr)]
theorem KO (hs:jV ops o=true) {K:Env->Prop} (h:mm P n np ops o e K) :
  ∃ ft fo:Nat->Option D,(∀ s d,ft s=some d->s∈R3 o)/\(∀ s d,fo s=some d->s∈Kx np ops o)/\K (EG ft fo e) /\
   ∀ e2,mQ np ops o e e2->∀ K2:Env->Prop,K2 (EG ft fo e2)->mm P n np ops o e2 K2:=by
 have one_mem:∀ (d:Nat) (x:D),o.dst=some d->∀ s y,one d x s=some y->s∈R3 o:=by
  intro d x hd s y hy;unfold one at hy;split at hy
  ·rename_i e;subst e;simp [R3,hd]
  ·cases hy
 have h0:∀ d,nm d 0∈BG d:=fun d=>by simp only [BG,List.mem_map,List.mem_range];exact ⟨0,by omega,rfl⟩
 have hfr:∀ (d:Nat),o.dst=some d->makes o.op=true->nm d 0∈Kx np ops o:=by
  intro d hd hm;simp only [Kx,hd,hm,if_true];exact List.mem_append_left _ (h0 d)
 obtain ⟨hg,hs | hs⟩:=MX hs
 ·obtain ⟨t,len,ps,d,hop,hd,hl,hp⟩:=hs;have hm:makes o.op=true:=by rw [hop];rfl
  unfold mm at h;rw [hop,hd] at h;obtain ⟨hdn,h⟩:=h;unfold Eh at h;split at h
  ·rename_i z b a hT;refine ⟨one d .emp,nZ,one_mem d _ hd,(fun s y h=>by cases h),by rw [<- F5];exact h.2,?_⟩;intro e2 hag K2 hK2;unfold mm;rw [hop,hd];refine ⟨hdn,?_⟩;unfold Eh;rw [hT];exact ⟨by rw [<- hag.2 _ (.inr (.inl (hfr d hd hm)))];exact h.1,by rw [F5];exact hK2⟩
  ·exact h.elim
 ·have hc:∃ c,o.op=.call c/\c.callee=.builtin .append:=by
   unfold isApp at hs;split at hs
   ·rename_i c hop;split at hs
    ·rename_i hc;exact ⟨c,hop,hc⟩
    ·cases hs
   ·cases hs
  obtain ⟨c,hop,hc⟩:=hc;have hm:makes o.op=true:=by rw [hop];simp [makes,hc]
  unfold mm at h;rw [hop] at h;cases hd:o.dst with
  | none=>rw [hd] at h;exact h.elim
  | some d =>
   rw [hd] at h;obtain ⟨hdn,h⟩:=h;split at h<;>try exact h.elim
   rename_i x y T T2 hargs htys;obtain ⟨hok,h⟩:=h;unfold AU at h;split at h<;>try exact h.elim
   rename_i z by_ ea z2 by2 ea2 hx hT hT2;obtain ⟨hby,h⟩:=h;unfold GC at h;split at h<;>try exact h.elim
   rename_i rows2 hr;obtain ⟨q1,q2,q3⟩:=h;refine ⟨one d (.ref (nm d 0)),one (nm d 0) (.own z rows2),one_mem d _ hd,?_,by rw [<- Hl];exact q3,?_⟩
   ·intro s u hu;unfold one at hu;split at hu
    ·rename_i e;subst e;exact hfr d hd hm
    ·cases hu
   ·intro e2 hag K2 hK2;have hin:∀ u∈[x,y],rd e u=rd e2 u:=fun u hu=>hag.rd (by simp only [hop,Op.operands,Call.operands,Array.toList_append,List.mem_append];exact .inr (by rw [hargs];exact hu))
    have hob:∀ r∈reach e.o 2 (rd e y).names,e.o r=e2.o r:=by
     intro r hr;have:=ud hok r hr;unfold sZ at this;rw [hop] at this;simp only [Bool.or_eq_true,Bool.not_eq_true',List.contains_eq_mem,decide_eq_true_eq,decide_eq_false_iff_not] at this;refine hag.2 r ?_;rcases this with h | h
     ·exact .inl h
     ·exact .inr (.inr h)
    have hy2:=hin y (by simp);have hx2:=hin x (by simp);unfold mm;rw [hop,hd];refine ⟨hdn,?_⟩;simp only [hargs,htys];refine ⟨by rw [<- hy2,Jf 2 _ hob];exact hok,?_⟩;rw [<- hx2,<- hy2,hx,hT,hT2];refine ⟨hby,?_⟩;rw [<- tI [] 2 _ hob,hr];exact ⟨q1,by rw [<- hag.2 _ (.inr (.inl (hfr d hd hm)))];exact q2,by rw [Hl];exact hK2⟩
theorem zh (hh:uU ops o=false) {K:Env->Prop} (h:fR P n np ops o e K) :
  ∃ ft fo:Nat->Option D,(∀ s d,ft s=some d->s∈R3 o)/\(∀ s d,fo s=some d->s∈Kx np ops o)/\K (EG ft fo e) /\
   ∀ e2,mQ np ops o e e2->∀ K2:Env->Prop,K2 (EG ft fo e2)->fR P n np ops o e2 K2:=by
 unfold fR at h;cases hg:qi ops e o.guard with
 | none=>rw [hg] at h;exact h.elim
 | some g =>
  rw [hg] at h
  by_cases hs:jV ops o=true
  ·simp only [hs,if_true] at h;obtain ⟨ft,fo,h1,h2,h3,h4⟩:=KO hs h;refine ⟨ft,fo,h1,h2,h3,fun e2 hag K2 hK2=>?_⟩;unfold fR;rw [<- C7 hag,hg];simp only [hs,if_true];exact h4 e2 hag K2 hK2
  have hsf:jV ops o=false:=by simpa using hs
  have hh:pU o=false:=by simpa [uU,hsf] using hh
  simp only [hsf,hh,Bool.false_eq_true,if_false] at h;obtain ⟨hk,h⟩:=h;obtain ⟨ft,fo,h1,h2,h3,h4⟩:=Pg (Ts hh) hk h;refine ⟨ft,fo,h1,h2,h3,fun e2 hag K2 hK2=>?_⟩;unfold fR;rw [<- C7 hag,hg];simp only [hsf,hh,Bool.false_eq_true,if_false];refine ⟨fun hgt=>?_,h4 e2 hag K2 hK2⟩
  -- what is reached is the same
  have hk':=hk hgt
  have:cB e2 o=cB e o:=by
   have hr:∀ x,x∈o.op.operands.toList->rd e x=rd e2 x:=fun x hx=>hag.rd hx
   unfold cB;cases hop:o.op<;>rw [hop] at hr<;>simp only [Op.operands] at hr<;>try rfl
   case load t a=>simp only;rw [hr a (by simp)]
   case store t a x=>simp only;rw [hr a (by simp)]
   case indexAddr t x i=>simp only;rw [hr x (by simp)]
   case slice t x lo hi mx=>simp only;rw [hr x (by simp)]
   case call c =>
    have h2:c.args.toList.map (rd e)=c.args.toList.map (rd e2):=List.map_congr_left fun x hx=>hr x (by simp only [Call.operands,Array.toList_append,List.mem_append];exact .inr hx)
    cases hcal:c.callee with
    | builtin b=>simp only [hcal];rw [h2]
    | invoke r m=>simp only [hcal];rw [h2]
    | value f =>
     simp only [hcal];rw [hr f (by simp [Call.operands,hcal]),h2]
     -- reached objects hold the same
     have key:∀ (k:Nat) (ns:List Nat),(∀ r∈reach e.o k ns,e.o r=e2.o r)->reach e2.o k ns=reach e.o k ns:=by
      intro k
      induction k with
      | zero=>intro ns _;rfl
      | succ k ih =>
       intro ns hh;simp only [reach] at hh |-;have e1:ns.map e2.o=ns.map e.o:=List.map_congr_left fun r hr=>(hh r (List.mem_append_left _ hr)).symm
       rw [e1,ih _ fun r hr=>hh r (List.mem_append_right _ hr)]
     refine key 4 _ ?_;intro r hr';refine hag.obj hk' (r:=r) ?_;simp only [cB,hop,hcal];rw [hr f (by simp [Call.operands,hcal]),h2];exact hr'
  rw [this];exact hk'
theorem Kl {x:Oper} (hx:x∈ops) {r:Nat} (hr:r∈Kx np ops x):r∈Xh np ops:=List.mem_flatMap.2 ⟨x,hx,hr⟩
theorem Qi {ft fo ft2 fo2:Nat->Option D} (h1:∀ s d d2,ft s=some d->ft2 s=some d2->False) (h2:∀ s d d2,fo s=some d->fo2 s=some d2->False) (e:Env):EG ft fo (EG ft2 fo2 e)=EG ft2 fo2 (EG ft fo e):=by
 simp only [EG,Env.mk.injEq];refine ⟨?_,?_⟩<;>funext j
 ·cases hf:ft j<;>cases hg:ft2 j<;>simp;exact (h1 j _ _ hf hg).elim
 ·cases hf:fo j<;>cases hg:fo2 j<;>simp;exact (h2 j _ _ hf hg).elim
theorem Ly {x y:Oper} (hhx:uU ops x=false) (hhy:uU ops y=false) (hxo:x∈ops) (hyo:y∈ops) {K:Env->Prop} (ha:BO np ops x y=true) (h:fR P n np ops x e fun e1=>fR P n np ops y e1 K) :
  fR P n np ops y e fun e2=>fR P n np ops x e2 K:=by
 obtain ⟨ft,fo,h1,h2,h3,hx⟩:=zh hhx h;obtain ⟨gt,go,k1,k2,k3,hy⟩:=zh hhy h3;simp only [BO,Bool.and_eq_true,List.all_eq_true,Bool.not_eq_true',List.contains_eq_mem,decide_eq_false_iff_not] at ha;obtain ⟨⟨⟨a1,a2⟩,a3⟩,a4⟩:=ha;refine hy e ⟨?_,?_⟩ _ ?_
 ·intro s hs
  show (ft s).getD (e.t s)=e.t s
  cases hf:ft s with
  | none=>rfl
  | some d=>exact ((a1 s (h1 s d hf)).1 hs).elim
 ·intro r hr
  show (fo r).getD (e.o r)=e.o r
  cases hf:fo r with
  | none=>rfl
  | some d =>
   have hw:=h2 r d hf;rcases hr with hr | hr | hr
   ·exact ((a3 r hw).1 hr).elim
   ·exact ((a3 r hw).2 hr).elim
   ·exact (hr (Kl hxo hw)).elim
 ·refine hx _ ⟨?_,?_⟩ _ ?_
  ·intro s hs
   show e.t s=(gt s).getD (e.t s)
   cases hf:gt s with
   | none=>rfl
   | some d=>exact (a2 s (k1 s d hf) hs).elim
  ·intro r hr
   show e.o r=(go r).getD (e.o r)
   cases hf:go r with
   | none=>rfl
   | some d =>
    have hw:=k2 r d hf;rcases hr with hr | hr | hr
    ·exact (a4 r hw hr).elim
    ·exact ((a3 r hr).2 hw).elim
    ·exact (hr (Kl hyo hw)).elim
  ·rw [Qi]
   ·exact k3
   ·intro s d d2 e1 e2';exact (a1 s (h1 s d e1)).2 (k1 s d2 e2')
   ·intro s d d2 e1 e2';exact (a3 s (h2 s d e1)).2 (k2 s d2 e2')
theorem Cc {K K':Env->Prop} (h:fR P n np ops o e K) (hk:∀ e,K e->K' e):fR P n np ops o e K':=by
 unfold fR at h |-;cases hg:qi ops e o.guard with
 | none=>rw [hg] at h;exact h.elim
 | some g =>
  rw [hg] at h;simp only at h |-;split at h
  ·rename_i hs;rw [if_pos hs];exact Dw hk h
  rename_i hs;rw [if_neg hs];split at h
  ·rename_i hh;rw [if_pos hh];split at h
   ·rename_i ha;rw [if_pos ha];exact yO hk h
   ·rename_i ha;rw [if_neg ha];exact sJ hk h
  ·rename_i hh;rw [if_neg hh];exact ⟨h.1,sJ hk h.2⟩
theorem OD {x y:Oper} {K:Env->Prop} (hm:Kz x y=true) (hsy:jV ops y=false) (hsx:jV ops x=false) (h:fR P n np ops x e fun e1=>fR P n np ops y e1 K):fR P n np ops y e fun e2=>fR P n np ops x e2 K:=by
 unfold Kz at hm;split at hm<;>try cases hm
 rename_i u dx hop hdst hgu;simp only [Bool.and_eq_true,Bool.not_eq_true',Option.isNone_iff_eq_none,bne_iff_ne] at hm;obtain ⟨⟨⟨⟨ha,hg⟩,hc⟩,hd1⟩,hd2⟩:=hm;have hx0:pU x=false:=by simp [pU,hard,isApp,K4,hop]
 have hy1:pU y=true:=by simp [pU,ha]
 have hxh:hard x=false:=by simp [hard,hop]
 have ex:∀ (e:Env) (K:Env->Prop),fR P n np ops x e K ↔ (dx < n/\K (cy e dx (e.t u))):=by
  intro e K;have hob:cB e x=[]:=by simp [cB,hop]
  simp only [fR,hsx,hgu,qi,hx0,Bool.false_eq_true,if_false,R5,hob,xj,j3,hxh,iF,hop,hdst,eY,dG,gD,gd,if_true,rd];simp
 have ey:∀ (e:Env) (K:Env->Prop),fR P n np ops y e K ↔ vv P n y e true K:=by
  intro e K;simp only [fR,hsy,hg,qi,hy1,ha,Bool.false_eq_true,if_false,if_true]
 rw [ex] at h;rw [ey] at h |-;refine yO ?_ (Ox hc hd1 hd2 h.2);intro e2 h2;rw [ex];exact ⟨h.1,h2⟩
def mL (P:Program) (n np:Nat) (ops:Array Oper):List Nat->Env->(Env->Prop)->Prop
 | [],e,K=>K e
 | i :: r,e,K=>match ops[i]? with
  | some o=>fR P n np ops.toList o e fun e'=>mL P n np ops r e' K
  | none=>mL P n np ops r e K
theorem wC {ops:Array Oper} {i:Nat} {y:Oper} (hy:ops[i]?=some y):∀ (pre post:List Nat) (e:Env) (K:Env->Prop),(∀ j∈pre,∀ x,ops[j]?=some x->(uU ops.toList x=false/\uU ops.toList y=false/\BO np ops.toList x y=true)\/(Kz x y=true/\jV ops.toList y=false/\jV ops.toList x=false)) ->
  mL P n np ops (pre++i :: post) e K->mL P n np ops (i :: (pre++post)) e K
 | [],_,_,_,_,h=>h
 | j :: pre,post,e,K,ha,h=>by
  simp only [List.cons_append,mL] at h |-;have ih:=fun e'=>wC hy pre post e' K (fun k hk=>ha k (List.mem_cons_of_mem _ hk))
  simp only [hy];cases hj:ops[j]? with
  | none =>
   rw [hj] at h;have:=ih e h;simp only [mL,hy] at this;simpa [hj] using this
  | some x =>
   rw [hj] at h;simp only at h |-
   have h2:fR P n np ops.toList x e fun e1=>fR P n np ops.toList y e1 fun e'=>mL P n np ops (pre++post) e' K:=by
    refine Cc h ?_;intro e' h';have:=ih e' h';simpa only [mL,hy] using this
   have mem:∀ {k:Nat} {z:Oper},ops[k]?=some z->z∈ops.toList:=by
    intro k z hz;exact List.mem_of_getElem? (i:=k) (by simpa using hz)
   rcases ha j (by simp) x hj with ⟨a1,a2,a3⟩ | ⟨ha,hb,hc⟩
   ·exact Ly a1 a2 (mem hj) (mem hy) a3 h2
   ·exact OD ha hb hc h2
theorem wD {ops:Array Oper}:∀ (l:List Oper) (k:Nat) (e:Env) (K:Env->Prop),ops.toList.drop k=l->kG P n np ops.toList l e K->mL P n np ops (List.range' k l.length) e K
 | [],_,_,_,_,h=>h
 | o :: l,k,e,K,hd,h=>by
  have hk:ops[k]?=some o:=by
   have:(ops.toList.drop k)[0]?=some o:=by rw [hd];rfl
   rw [List.getElem?_drop] at this;simpa using this
  have hd':ops.toList.drop (k+1)=l:=by
   rw [<- List.drop_drop,hd];rfl
  simp only [List.length_cons,List.range'_succ,mL,hk];refine Cc h ?_;intro e' h';exact wD l (k+1) e' K hd' h'
end
end Go.Abs
