/- A region whose order is open. No theorem of a claim. -/
import Derived.Test.YtnkobepdbkmedaaGreatAbcSound
import Derived.Orders
set_option linter.unusedSimpArgs false
set_option linter.unusedVariables false
namespace Go.Abs
section
variable {P:Program} {n np:Nat} {e:Env} {K K':Env->Prop}
theorem P7 (h:∀ e,K e->K' e) {t:TypeId} {a v:D} (hk:Ob P e t a K v):Ob P e t a K' v:=by
 unfold Ob at hk |-;split at hk
 ·unfold W1 at hk |-;split at hk
  ·cases hl:bT P t with
   | none=>simp only [hl] at hk
   | some l=>simp only [hl] at hk |-;exact ⟨hk.1,hk.2.1,hk.2.2.1,h _ hk.2.2.2⟩
  ·exact hk.elim
 ·unfold Xt at hk |-;split at hk
  ·cases hl:bT P t with
   | none=>simp only [hl] at hk
   | some l=>simp only [hl] at hk |-;exact ⟨hk.1,hk.2.1,hk.2.2.1,hk.2.2.2.1,hk.2.2.2.2.1,h _ hk.2.2.2.2.2⟩
  ·exact hk.elim
 ·exact hk.elim
theorem PY (h:∀ e,K e->K' e) {len:Nat} {ps:List (Nat × Operand)} {d:Nat} {t:Ty} {z:Option (List D)} (hk:Ok e len ps d K t z):Ok e len ps d K' t z:=by
 unfold Ok at hk |-;split at hk
 ·exact ⟨hk.1,hk.2.1,hk.2.2.1,hk.2.2.2.1,hk.2.2.2.2.1,h _ hk.2.2.2.2.2⟩
 ·exact hk.elim
theorem Qj (h:∀ e,K e->K' e) {l c:D} {d:Nat} {t:Ty} {z:Option (List D)} (hk:Pd e d K l c t z):Pd e d K' l c t z:=by
 unfold Pd at hk |-;split at hk
 ·exact ⟨hk.1,hk.2.1,hk.2.2.1,hk.2.2.2.1,hk.2.2.2.2.1,hk.2.2.2.2.2.1,hk.2.2.2.2.2.2.1,h _ hk.2.2.2.2.2.2.2⟩
 ·exact hk.elim
theorem Et (h:∀ e,K e->K' e) {x y:D} {d:Nat} {t t2:Ty} (hk:qM e d K x y t t2):qM e d K' x y t t2:=by
 unfold qM at hk |-;split at hk
 ·refine ⟨hk.1,?_⟩;have hk:=hk.2;unfold Aq at hk |-;split at hk
  ·exact ⟨hk.1,hk.2.1,h _ hk.2.2⟩
  ·exact ⟨hk.1,hk.2.1,h _ hk.2.2⟩
  ·unfold Q5 at hk |-;split at hk
   ·exact ⟨hk.1,hk.2.1,hk.2.2.1,h _ hk.2.2.2⟩
   ·exact hk.elim
  ·exact hk.elim
 ·exact hk.elim
theorem LD (h:∀ e,K e->K' e) {dr:Bool} {d:Nat} {f:Operand} {args:List Operand} (hk:xk P dr e d f args K):xk P dr e d f args K':=by
 obtain ⟨fz,gs,bw,hs',dv,h1,hk⟩:=hk;exact ⟨fz,gs,bw,hs',dv,h1,rB (KW.mono h) hk⟩
theorem OW (h:∀ e,K e->K' e) {dr:Bool} {o:Oper} {g:Bool} (hk:iD P n dr o e g K):iD P n dr o e g K':=by
 have gk:∀ {g:Bool} {a a':Prop} {e:Env},(a->a')->GK g a (K e)->GK g a' (K' e):=fun ha hg=>⟨fun x=>ha (hg.1 x),fun x=>h _ (hg.2 x)⟩
 have st:∀ {g:Bool} {ok:Prop} {v:D} {d:Nat},eU g ok v (fun u=>K (dj e d u))->eU g ok v (fun u=>K' (dj e d u)):=fun hs=>⟨hs.1,h _ hs.2⟩
 cases hd:o.dst with
 | none =>
  cases hop:o.op<;>simp only [iD,hop,hd] at hk |-;exact ⟨hk.1,P7 h hk.2⟩
 | some d =>
  cases hop:o.op<;>simp only [iD,hop,hd] at hk |-<;>(try exact ⟨hk.1,st hk.2⟩)
  case box t x=>exact ⟨hk.1,hk.2.1,hk.2.2.1,hk.2.2.2.1,h _ hk.2.2.2.2⟩
  case alloc t =>
   refine ⟨hk.1,hk.2.1,?_⟩;have hk:=hk.2.2;unfold N6 at hk |-;split at hk
   ·exact ⟨hk.1,h _ hk.2⟩
   ·exact hk.elim
  case buildSlice t len parts=>exact ⟨hk.1,gk (fun x=>⟨x.1,PY h x.2⟩) hk.2⟩
  case makeSlice t l c=>exact ⟨hk.1,gk (Qj h) hk.2⟩
  case call c =>
   refine ⟨hk.1,?_⟩;have hk:=hk.2;cases hc:c.callee with
   | invoke r m=>rw [hc] at hk;exact hk.elim
   | value f=>rw [hc] at hk;exact gk (fun hk=>hk.elim (fun hk=>.inl (LD h hk)) (fun hk=>.inr ⟨hk.1,hk.2.mono h⟩)) hk
   | builtin b =>
    rw [hc] at hk;cases b<;>simp only at hk |-<;>(try exact st hk);refine ⟨hk.1,hk.2.1,?_⟩;have hk:=hk.2.2;split at hk
    ·unfold BH at hk |-;split at hk
     ·exact hk.mono h
     ·exact hk.mono h
     ·exact Et h hk
    ·exact hk.elim
theorem sS (h:∀ e,K e->K' e) {dr:Bool} {o:Oper} {g:Bool} (hk:j8 P n dr o e g K):j8 P n dr o e g K':=by
 unfold j8 at hk |-;split at hk
 ·rename_i hh;rw [if_pos hh];exact ⟨hk.1,hk.2.1,hk.2.2.mono h⟩
 ·rename_i hh;rw [if_neg hh];exact OW h hk
end
def u6 (l:List Operand):List Nat:=l.filterMap fun | .tmp t=>some t | _=>none
def keyOf (ops:List Oper):Nat->Nat->List Nat
 | 0,t=>[t]
 | k+1,t=>match ops.find? (fun o=>o.dst==some t) with
  | some o=>(match o.op with
   | .fieldAddr _ (.tmp u) f=>f :: keyOf ops k u
   | _=>[t])
  | none=>[t]
def TC (ops:List Oper) (ks:List Nat) (o:Oper):Bool:=
 match o.op with
 | .load _ (.tmp u)=>keyOf ops 4 u==ks
 | _=>false
def rootOf (ops:List Oper):Nat->Nat->Nat
 | 0,t=>t
 | k+1,t=>match ops.find? (fun o=>o.dst==some t) with
  | some o=>(match o.op with
   | .fieldAddr _ (.tmp u) _=>rootOf ops k u
   | .indexAddr _ (.tmp u) _=>rootOf ops k u
   | .nilCheck (.tmp u)=>rootOf ops k u
   | .move (.tmp u)=>rootOf ops k u
   | .load _ (.tmp u)=>(match ops.find? (TC ops (keyOf ops 4 u)) with
    | some x=>x.dst.getD t
    | none=>t)
   | _=>t)
  | none=>t
def GH (s:Nat):List Nat:=(List.range 16).map (nm s)
def nmS (np s:Nat):List Nat:=GH s++if s < np then List.range 16 else []
def rdT (ops:List Oper) (o:Oper):List Nat:=
 u6 o.op.operands.toList++(match o.guard with
  | some (j,_)=>(rM ops j).toList
  | none=>[])
def looks (o:Op):Bool:=
 match o with
 | .load _ _ | .store _ _ _ | .indexAddr _ _ _ | .slice _ _ _ _ _ | .call _=>true
 | _=>false
def rdO (np:Nat) (ops:List Oper) (o:Oper):List Nat:=if looks o.op then (u6 o.op.operands.toList).flatMap fun t=>nmS np (rootOf ops 8 t) else []
def makes (o:Op):Bool:=
 match o with
 | .alloc _ | .box _ _ | .buildSlice _ _ _ | .makeSlice _ _ _=>true
 | .call c=>(match c.callee with
  | .value _=>true
  | _=>false)
 | _=>false
def Vy (np:Nat) (ops:List Oper):Operand->List Nat
 | .tmp t=>nmS np (rootOf ops 8 t)
 | _=>[]
def MS (np:Nat) (ops:List Oper) (o:Oper):List Nat:=
 (match o.dst with
  | some d=>if makes o.op then GH d else []
  | none=>[])++(match o.op with
  | .store _ a _=>Vy np ops a
  | _=>[])
def WD (o:Oper):List Nat:=o.dst.toList
def Vx (np:Nat) (ops:List Oper):List Nat:=ops.flatMap (MS np ops)
def BQ (np:Nat) (ops:List Oper) (x y:Oper):Bool:=
 (WD x).all (fun s=>!(rdT ops y).contains s&&!(WD y).contains s)&&(WD y).all (fun s=>!(rdT ops x).contains s) &&
 (MS np ops x).all (fun s=>!(rdO np ops y).contains s&&!(MS np ops y).contains s)&&(MS np ops y).all (fun s=>!(rdO np ops x).contains s)
def isApp (o:Oper):Bool:=
 match o.op with
 | .call c=>(match c.callee with
  | .builtin .append=>true
  | _=>false)
 | _=>false
def abI:Nat:=142
def LN (o:Oper):Bool:=
 match o.op with
 | .call c=>(match c.callee with
  | .value _=>(match c.argTypes.toList with
   | t :: _=>t==abI
   | []=>false)
  | _=>false)
 | _=>false
def jX (o:Oper):Bool:=hard o||isApp o||LN o
def H7 (x y:Oper):Bool:=
 match x.op,x.dst,x.guard with
 | .move (.tmp u),some dx,none=>isApp y&&y.guard.isNone&&!(u6 y.op.operands.toList).contains dx&&y.dst != some dx&&y.dst != some u
 | _,_,_=>false
def wM (P:Program) (n:Nat) (o:Oper) (e:Env) (g:Bool) (K:Env->Prop):Prop:=
 match o.op,o.dst with
 | .call c,some d=>d < n/\g=true/\(match c.args.toList,c.argTypes.toList with
  | [x,y],[T,T2]=>qM e d K (rd e x) (rd e y) (bO P T) (bO P T2)
  | _,_=>False)
 | _,_=>False
section
variable {P:Program} {n:Nat} {e:Env} {K K':Env->Prop}
theorem Wy {d:Nat} {S:Prop} {x y:D} {t t2:Ty} (h:qM e d K x y t t2):BH e d K S x y t t2:=by
 unfold BH;split
 ·unfold qM at h;split at h
  ·have:=h.2;unfold Aq at this;split at this<;>simp_all
  ·exact h.elim
 ·unfold qM at h;split at h
  ·have:=h.2;simp only [pU,E3] at this;unfold Aq at this;split at this<;>simp_all
  ·exact h.elim
 ·exact h
theorem LZ {o:Oper} (h:isApp o=true):hard o=false:=by
 unfold isApp at h;unfold hard;split at h
 ·rename_i c hop;rw [hop];split at h
  ·rename_i hc;simp [hc]
  ·cases h
 ·cases h
theorem QU {o:Oper} {g:Bool} (ha:isApp o=true) (h:wM P n o e g K):j8 P n false o e g K:=by
 unfold j8;rw [LZ ha];unfold isApp at ha;unfold wM at h;split at ha
 ·rename_i c hop;split at ha
  ·rename_i hc;rw [hop] at h;cases hd:o.dst with
   | none=>rw [hd] at h;exact h.elim
   | some d =>
    rw [hd] at h;obtain ⟨h1,h2,h3⟩:=h;simp only [Bool.false_eq_true,if_false,iD,hop,hd,hc];refine ⟨h1,h2,trivial,?_⟩;split at h3
    ·rename_i x y T T2 ha ht;rw [ha,ht];exact Wy h3
    ·exact h3.elim
  ·cases ha
 ·cases ha
theorem yd (h:∀ e,K e->K' e) {o:Oper} {g:Bool} (hk:wM P n o e g K):wM P n o e g K':=by
 unfold wM at hk |-;split at hk
 ·refine ⟨hk.1,hk.2.1,?_⟩;have h3:=hk.2.2;split at h3
  ·exact Et h h3
  ·exact h3.elim
 ·exact hk.elim
theorem SF {x:Operand} {l:List Operand} {dx:Nat} {v:D} (hx:x∈l) (h:(u6 l).contains dx=false):rd (dj e dx v) x=rd e x:=by
 cases x with
 | tmp t =>
  have:t≠dx:=by
   rintro rfl
   have:t∈u6 l:=List.mem_filterMap.2 ⟨_,hx,rfl⟩;rw [List.contains_eq_mem] at h;simp [this] at h
  exact AN this
 | _=>rfl
theorem OJ {o:Oper} {g:Bool} {u dx:Nat} (hx:(u6 o.op.operands.toList).contains dx=false) (h1:o.dst≠some dx) (h2:o.dst≠some u) (h:wM P n o (dj e dx (e.t u)) g K) :
  wM P n o e g fun e2=>K (dj e2 dx (e2.t u)):=by
 unfold wM at h |-;cases hop:o.op<;>rw [hop] at h<;>try exact h.elim
 rename_i c;cases hd:o.dst with
 | none=>rw [hd] at h;exact h.elim
 | some d =>
  rw [hd] at h;obtain ⟨k1,k2,k3⟩:=h;refine ⟨k1,k2,?_⟩;have ndx:d≠dx:=fun h=>h1 (by rw [hd,h])
  have ndu:d≠u:=fun h=>h2 (by rw [hd,h])
  have base:∀ (e:Env) (v:D) (k:Nat) (y r:D),v=e.t u->dj (dZ (dj e dx v) k y) d r=dj (dj (dZ e k y) d r) dx ((dj (dZ e k y) d r).t u):=by
   intro e v k y r hv;have e1:(dj (dZ e k y) d r).t u=v:=by rw [AN (Ne.symm ndu)];exact hv.symm
   rw [e1];simp only [dj,dZ,Env.mk.injEq,and_true]
   funext j
   by_cases hj:j=d
   ·subst hj;simp [ndx]
   ·simp [hj]
  split at k3<;>try exact k3.elim
  rename_i x y T T2 hargs htys;have hin:∀ z∈c.args.toList,rd (dj e dx (e.t u)) z=rd e z:=fun z hz=>SF (l:=o.op.operands.toList) (by rw [hop];simp only [Op.operands,Call.operands,Array.toList_append,List.mem_append];exact .inr hz) hx
  rw [hin x (by rw [hargs];simp),hin y (by rw [hargs];simp)] at k3;unfold qM at k3 |-;split at k3<;>try exact k3.elim
  refine ⟨k3.1,?_⟩;have k3:=k3.2;have hbo:pU (dj e dx (e.t u)).o [] 2 (rd e y)=pU e.o [] 2 (rd e y):=rfl;rw [hbo] at k3;unfold Aq at k3 |-;split at k3<;>try exact k3.elim
  ·refine ⟨k3.1,k3.2.1,?_⟩;dsimp only;rw [<- base e _ _ _ _ rfl];exact k3.2.2
  ·refine ⟨k3.1,k3.2.1,?_⟩;dsimp only;rw [<- base e _ _ _ _ rfl];exact k3.2.2
  ·rename_i r rows2 _ _;have ho:(dj e dx (e.t u)).o r=e.o r:=rfl;rw [ho] at k3;unfold Q5 at k3 |-;split at k3<;>try exact k3.elim
   refine ⟨k3.1,k3.2.1,k3.2.2.1,?_⟩
   have hk:jV r (dj e dx (e.t u))=dj (jV r e) dx ((jV r e).t u):=by
    simp only [jV,dj,Env.mk.injEq,and_true]
    funext j
    split<;>rfl
   have k4:=k3.2.2.2;rw [hk] at k4;dsimp only;rw [<- base (jV r e) _ _ _ _ rfl];exact k4
end
def xS (ops:Array Oper):Nat->Nat->Nat->Bool
 | 0,_,_=>false
 | k+1,i,j=>match ops[i]? with
  | none=>false
  | some y=>y.after.any (fun e=>Region.binds .any e&&(e.on==j||xS ops k e.on j))
def yz (np:Nat) (ops:Array Oper):Bool:=
 (List.range ops.size).all fun i=>match ops[i]? with
  | none=>true
  | some y=>y.after.all (fun e=>!Region.binds .any e||e.on < i) &&
    (List.range i).all fun j=>y.after.any (fun e=>Region.binds .any e&&e.on==j)||(match ops[j]? with
     | none=>true
     | some x=>(!jX x&&!jX y&&BQ np ops.toList x y)||H7 x y||xS ops 12 i j)
def reach (o:Nat->D):Nat->List Nat->List Nat
 | 0,ns=>ns
 | k+1,ns=>ns++reach o k (D.cg (ns.map o))
def cB (e:Env) (o:Oper):List Nat:=
 match o.op with
 | .load _ a=>(rd e a).names
 | .store _ a _=>(rd e a).names
 | .indexAddr _ x _=>(rd e x).names
 | .slice _ x _ _ _=>(rd e x).names
 | .call c=>(match c.callee with
  | .value f=>reach e.o 4 (D.cg (rd e f :: c.args.toList.map (rd e)))
  | _=>D.cg (c.args.toList.map (rd e)))
 | _=>[]
def vI (np:Nat) (ops:List Oper) (o:Oper) (r:Nat):Bool:=
 (match o.op with
  | .store _ _ _=>(MS np ops o).contains r
  | _=>(rdO np ops o).contains r||!(Vx np ops).contains r)
def zi (np:Nat) (ops:List Oper) (o:Oper):List Nat->Prop
 | []=>True
 | r :: rs=>vI np ops o r=true/\zi np ops o rs
theorem yB {np:Nat} {ops:List Oper} {o:Oper}:∀ {l:List Nat},zi np ops o l->∀ r∈l,vI np ops o r=true
 | [],_,r,hr=>by cases hr
 | x :: l,h,r,hr=>by
  rcases List.mem_cons.1 hr with rfl | hr
  ·exact h.1
  ·exact yB h.2 r hr
def RJ (P:Program) (n np:Nat) (ops:List Oper) (o:Oper) (e:Env) (g:Bool) (K:Env->Prop):Prop:=
 (g=true->zi np ops o (cB e o))/\j8 P n true o e g K
def gh (P:Program) (n np:Nat) (ops:List Oper) (o:Oper) (e:Env) (K:Env->Prop):Prop:=
 match rY ops e o.guard with
 | some g=>if jX o then (if isApp o then wM P n o e g K else j8 P n false o e g K) else RJ P n np ops o e g K
 | none=>False
def kQ (P:Program) (n np:Nat) (ops:List Oper):List Oper->Env->(Env->Prop)->Prop
 | [],e,K=>K e
 | o :: r,e,K=>gh P n np ops o e fun e'=>kQ P n np ops r e' K
def F3 (ft fo:Nat->Option D) (e:Env):Env:=⟨fun j=>(ft j).getD (e.t j),fun j=>(fo j).getD (e.o j)⟩
def one (i:Nat) (d:D):Nat->Option D:=fun j=>if j=i then some d else none
def oD:Nat->Option D:=fun _=>none
theorem Mx (i:Nat) (d:D) (e:Env):dj e i d=F3 (one i d) oD e:=by
 simp only [dj,F3,one,oD,Option.getD_none,Env.mk.injEq,and_true]
 funext j
 by_cases h:j=i<;>simp [h]
theorem MT (i:Nat) (d:D) (e:Env):dZ e i d=F3 oD (one i d) e:=by
 simp only [dZ,F3,one,oD,Option.getD_none,Env.mk.injEq,true_and]
 funext j
 by_cases h:j=i<;>simp [h]
theorem PJ (i k:Nat) (d x:D) (e:Env):dj (dZ e k x) i d=F3 (one i d) (one k x) e:=by
 rw [Mx,MT];simp [F3,oD]
def BX (f:Nat->Option Nat):List Nat->List D->Nat->Option D
 | n :: ns,h :: hs=>fun j=>match BX f ns hs j with
  | some x=>some x
  | none=>if j=n then some (h.jq f) else none
 | _,_=>oD
theorem HJ (f:Nat->Option Nat):∀ (ns:List Nat) (hs:List D) (e:Env),CQ f ns hs e=F3 oD (BX f ns hs) e
 | [],_,e=>rfl
 | _ :: _,[],e=>rfl
 | n :: ns,h :: hs,e=>by
  rw [CQ,HJ f ns hs,MT];simp only [F3,oD,BX,Option.getD_none,Env.mk.injEq,true_and]
  funext j
  cases BX f ns hs j with
  | some x=>rfl
  | none=>simp [one]
theorem Jt {f:Nat->Option Nat}:∀ {ns:List Nat} {hs:List D} {j:Nat} {x:D},BX f ns hs j=some x->j∈ns
 | [],_,j,x,h=>by simp [BX,oD] at h
 | _ :: _,[],j,x,h=>by simp [BX,oD] at h
 | n :: ns,y :: hs,j,x,h=>by
  simp only [BX] at h;cases e:BX f ns hs j with
  | some z=>exact List.mem_cons_of_mem _ (Jt e)
  | none =>
   rw [e] at h;simp only at h;split at h
   ·rename_i hj;subst hj;simp
   ·cases h
theorem FB (d:Nat) (hs':List D) (dv:D) (e:Env):eI e d [] hs' dv=F3 (one d (dv.jq (KA (fP d [] hs')))) (BX (KA (fP d [] hs')) (fP d [] hs') hs') e:=by
 have hd:j5 [] hs'=[]:=by cases hs'<;>rfl
 unfold eI;rw [hd,vq,HJ,Mx];simp [F3,oD]
def nL (np:Nat) (ops:List Oper) (o:Oper) (e e2:Env):Prop:=
 (∀ s∈rdT ops o,e.t s=e2.t s)/\∀ r,(r∈rdO np ops o\/r∈MS np ops o\/r ∉ Vx np ops)->e.o r=e2.o r
theorem Lv {l:List Operand} {t:Nat} (h:.tmp t∈l):t∈u6 l:=List.mem_filterMap.2 ⟨_,h,rfl⟩
section
variable {P:Program} {n np:Nat} {ops:List Oper} {o:Oper} {e e2:Env}
theorem nL.rd (h:nL np ops o e e2) {x:Operand} (hx:x∈o.op.operands.toList):rd e x=rd e2 x:=by
 cases x<;>try rfl
 rename_i t;exact h.1 t (List.mem_append_left _ (Lv hx))
theorem nL.obj (h:nL np ops o e e2) (hk:zi np ops o (cB e o)) {r:Nat} (hr:r∈cB e o):e.o r=e2.o r:=by
 have:=yB hk r hr;unfold vI at this;refine h.2 r ?_;split at this
 ·exact .inr (.inl (List.contains_iff_mem.1 this))
 ·simp only [Bool.or_eq_true,Bool.not_eq_true',List.contains_eq_mem,decide_eq_true_eq,decide_eq_false_iff_not] at this;rcases this with h | h
  ·exact .inl h
  ·exact .inr (.inr h)
theorem tW (o1:Nat->D):∀ (k:Nat) (a b:List Nat),(∀ r∈a,r∈b)->∀ r∈reach o1 k a,r∈reach o1 k b:=by
 intro k
 induction k with
 | zero=>intro a b hab r hr;exact hab r hr
 | succ k ih =>
  intro a b hab r hr;simp only [reach,List.mem_append] at hr |-;rcases hr with hr | hr
  ·exact .inl (hab r hr)
  ·refine .inr (ih _ _ ?_ r hr);intro s hs;obtain ⟨y,hy,hs⟩:=dY.1 hs;obtain ⟨z,hz,rfl⟩:=List.mem_map.1 hy;exact dY.2 ⟨_,List.mem_map.2 ⟨z,hab z hz,rfl⟩,hs⟩
theorem vl (o1:Nat->D):∀ (k:Nat) (a:List Nat),∀ r∈reach o1 k a,r∈reach o1 (k+1) a:=by
 intro k
 induction k with
 | zero=>intro a r hr;simp only [reach];exact List.mem_append_left _ hr
 | succ k ih =>
  intro a r hr;simp only [reach,List.mem_append] at hr;rcases hr with hr | hr
  ·simp only [reach];exact List.mem_append_left _ hr
  ·show r∈a++reach o1 (k+1) _
   exact List.mem_append_right _ (ih _ r hr)
theorem x8 {o1 o2:Nat->D} (x:List Nat):∀ (k:Nat) (d:D),(∀ r∈reach o1 k d.names,o1 r=o2 r)->pU o1 x k d=pU o2 x k d
 | 0,d,_=>rfl
 | k+1,d,h=>by
  have hself:∀ r∈d.names,o1 r=o2 r:=fun r hr=>h r (by simp only [reach];exact List.mem_append_left _ hr)
  have lst:∀ cs:List D,(∀ c∈cs,∀ r∈reach o1 k c.names,o1 r=o2 r)->cs.map (pU o1 x k)=cs.map (pU o2 x k):=fun cs hc=>List.map_congr_left fun c hm=>x8 x k c (hc c hm)
  have sub:∀ cs:List D,D.cg cs=d.names->∀ c∈cs,∀ r∈reach o1 k c.names,o1 r=o2 r:=by
   intro cs e c hc r hr;refine h r (vl o1 k _ r (tW o1 k _ _ ?_ r hr));intro s hs;rw [<- e];exact dY.2 ⟨c,hc,hs⟩
  cases d<;>simp only [pU]
  ·rw [lst _ (sub _ rfl)]
  ·rw [lst _ (sub _ rfl)]
  ·rw [lst _ (sub _ rfl)]
  ·rw [hself _ (by simp [D.names])]
  ·rename_i r off;have e1:=hself r (by simp [D.names]);rw [<- e1];congr 1;unfold mJ;split
   ·rename_i cs hcs;congr 1;refine List.map_congr_left ?_;intro c hc;refine x8 x k c ?_;intro s hs;refine h s ?_;simp only [reach];refine List.mem_append_right _ (tW o1 k _ _ ?_ s hs);intro t ht;refine dY.2 ⟨o1 r,List.mem_map.2 ⟨r,by simp [D.names],rfl⟩,?_⟩;rw [hcs];simp only [D.names];exact dY.2 ⟨c,List.mem_of_mem_drop hc,ht⟩
   ·rfl
  ·rw [hself _ (by simp [D.names])]
  ·rw [hself _ (by simp [D.names])]
  ·rw [hself _ (by simp [D.names])]
theorem CV {o1 o2:Nat->D} (bw:Bool):∀ (k:Nat) (d:D),(∀ r∈reach o1 k d.names,o1 r=o2 r)->conv bw [] o1 k d=conv bw [] o2 k d
 | 0,d,_=>rfl
 | k+1,d,h=>by
  have lst:∀ cs:List D,(∀ c∈cs,∀ r∈reach o1 k c.names,o1 r=o2 r)->cs.map (conv bw [] o1 k)=cs.map (conv bw [] o2 k):=fun cs hc=>List.map_congr_left fun c hm=>CV bw k c (hc c hm)
  have sub:∀ cs:List D,D.cg cs=d.names->∀ c∈cs,∀ r∈reach o1 k c.names,o1 r=o2 r:=by
   intro cs e c hc r hr;refine h r (vl o1 k _ r (tW o1 k _ _ ?_ r hr));intro s hs;rw [<- e];exact dY.2 ⟨c,hc,hs⟩
  have hb:pU o1 [] k d=pU o2 [] k d:=x8 [] k d fun r hr=>h r (vl o1 k _ r hr)
  cases d<;>simp only [conv]
  ·rw [lst _ (sub _ rfl)]
  ·rw [lst _ (sub _ rfl)]
  ·rw [lst _ (sub _ rfl)]
  all_goals rw [hb]
theorem On {l:qH} {d:D} (h:∀ r∈d.names,e.o r=e2.o r):R4 e l d=R4 e2 l d/\(Gv e l d ↔ Gv e2 l d):=by
 cases d<;>simp only [R4,Gv]<;>(try exact ⟨trivial,trivial⟩)<;>(try exact ⟨trivial,Iff.rfl⟩)
 all_goals (rw [h _ (by simp [D.names])];exact ⟨rfl,Iff.rfl⟩)
theorem K1 {t:Ty} {d:D} (h:∀ r∈d.names,e.o r=e2.o r):GN e t d=GN e2 t d/\(wB e t d ↔ wB e2 t d):=by
 have h1:Rs e d=Rs e2 d:=by
  cases d<;>simp only [Rs];rw [h _ (by simp [D.names])]
 have h2:BA e d ↔ BA e2 d:=by
  cases d<;>simp only [BA];rw [h _ (by simp [D.names])]
 unfold GN wB;rw [h1,h2];exact ⟨rfl,Iff.rfl⟩
theorem O2 {t:Ty} {d i:D} (h:∀ r∈d.names,e.o r=e2.o r):OE e t d i=OE e2 t d i/\(H8 e t d i ↔ H8 e2 t d i):=by
 cases d<;>cases i<;>simp only [OE,H8]<;>(try exact ⟨trivial,trivial⟩)<;>(try exact ⟨trivial,Iff.rfl⟩);rw [h _ (by simp [D.names])];exact ⟨trivial,Iff.rfl⟩
theorem NJ {t:Ty} {d:D} (h:ID e t d=ID e2 t d):U4 e t d=U4 e2 t d:=by
 cases d<;>first | exact h | (cases t<;>rfl)
theorem OA {t:Ty} {d:D} (h:∀ r∈d.names,e.o r=e2.o r):ID e t d=ID e2 t d/\∀ l m,Pv e t d l m=Pv e2 t d l m:=by
 by_cases hd:∃ r,d=.ref r
 ·obtain ⟨r,rfl⟩:=hd;have hr:=h r (by simp [D.names]);exact ⟨by cases t<;>simp [ID,hr],fun l m=>by simp [Pv,hr]⟩
 ·refine ⟨?_,fun l m=>?_⟩
  ·cases d<;>first | exact (hd ⟨_,rfl⟩).elim | (cases t<;>rfl)
  ·cases d<;>first | exact (hd ⟨_,rfl⟩).elim | (cases t<;>rfl)
theorem B2 (h:nL np ops o e e2) (hk:zi np ops o (cB e o)) (hn:∀ c f,o.op=.call c->c.callee≠.value f):gm P e o.op=gm P e2 o.op/\(dD P e o.op ↔ dD P e2 o.op):=by
 have hr:∀ x,x∈o.op.operands.toList->rd e x=rd e2 x:=fun x hx=>h.rd hx
 have hob:∀ r∈cB e o,e.o r=e2.o r:=fun r hr=>h.obj hk hr
 cases hop:o.op<;>simp only [gm,dD]<;>(try exact ⟨rfl,Iff.rfl⟩)<;>(try exact ⟨trivial,trivial⟩)<;>rw [hop] at hr<;>simp only [cB,hop] at hob<;>simp only [Op.operands] at hr
 case move x=>rw [hr x (by simp)];exact ⟨rfl,trivial⟩
 case assign x=>rw [hr x (by simp)];exact ⟨rfl,trivial⟩
 case pick c a b=>rw [hr c (by simp),hr a (by simp),hr b (by simp)];exact ⟨rfl,Iff.rfl⟩
 case binOp op t x y yt=>rw [hr x (by simp),hr y (by simp)];exact ⟨rfl,Iff.rfl⟩
 case unOp op t x=>rw [hr x (by simp)];exact ⟨rfl,Iff.rfl⟩
 case convert s d x=>rw [hr x (by simp)];exact ⟨rfl,Iff.rfl⟩
 case fieldAddr t x f=>rw [hr x (by simp)];exact ⟨rfl,Iff.rfl⟩
 case field t x f=>rw [hr x (by simp)];exact ⟨rfl,Iff.rfl⟩
 case indexAddr t x i =>
  have:=O2 (t:=bO P t) (i:=rd e i) hob;rw [<- hr x (by simp),<- hr i (by simp),this.1,this.2];exact ⟨rfl,Iff.rfl⟩
 case index t x i=>rw [hr x (by simp),hr i (by simp)];exact ⟨rfl,Iff.rfl⟩
 case load t a =>
  rw [<- hr a (by simp)];cases bT P t with
  | none=>exact ⟨rfl,Iff.rfl⟩
  | some l=>simp only;exact On hob
 case nilCheck x=>rw [hr x (by simp)];exact ⟨rfl,Iff.rfl⟩
 case extract x i=>rw [hr x (by simp)];exact ⟨rfl,Iff.rfl⟩
 case build t parts =>
  have hb:dn P e t parts.toList=dn P e2 t parts.toList:=by
   unfold dn
   have hp:∀ x∈parts.toList,rd e x.2=rd e2 x.2:=by
    intro x hx;refine hr x.2 ?_;simp only [List.mem_map];exact ⟨x,hx,rfl⟩
   split
   ·refine List.map_congr_left ?_;intro x hx;rw [hp x hx]
   ·refine List.map_congr_left ?_;intro x hx;rw [hp x hx]
   ·rfl
  unfold AG;rw [hb];exact ⟨rfl,Iff.rfl⟩
 case slice t x lo hi mx =>
  have h1:=hr x (by simp)
  have h2:∀ d,FZ e d lo=FZ e2 d lo:=by
   intro d;cases lo with
   | none=>rfl
   | some o=>exact hr o (by simp)
  have h3:∀ d,FZ e d hi=FZ e2 d hi:=by
   intro d;cases hi with
   | none=>rfl
   | some o=>exact hr o (by simp)
  have h4:=OA (t:=bO P t) hob;cases mx with
  | none =>
   simp only [gm,dD,slV,QX];rw [<- h1,h2,h3,h4.1,NJ h4.1];refine ⟨?_,Iff.rfl⟩;split
   ·exact h4.2 _ _
   ·rfl
  | some m =>
   have h5:=hr m (by simp);cases lo<;>cases hi<;>simp only [gm,dD]<;>(try exact ⟨trivial,trivial⟩)<;>(try exact ⟨trivial,Iff.rfl⟩);rename_i hh;rw [h1,h5,hr hh (by simp)];exact ⟨trivial,Iff.rfl⟩
 case makeFunc fn first caps =>
  cases fn<;>simp only [gm,dD]<;>(try exact ⟨trivial,trivial⟩)<;>(try exact ⟨trivial,Iff.rfl⟩);refine ⟨?_,trivial⟩;congr 1;refine List.map_congr_left ?_;intro x hx;exact hr x (by simp [hx])
 case call c =>
  have h1:∀ x∈c.args.toList,rd e x=rd e2 x:=fun x hx=>hr x (by simp only [Call.operands,Array.toList_append,List.mem_append];exact .inr hx)
  have h2:c.args.toList.map (rd e)=c.args.toList.map (rd e2):=List.map_congr_left h1;have hcv:∀ f,c.callee≠.value f:=fun f=>hn c f hop
  split
  ·rename_i hcal hargs _;rw [hcal] at hob;simp only [hargs,List.map_cons,List.map_nil,D.cg,List.append_nil] at hob;have:=h1 _ (by rw [hargs];exact List.mem_singleton.2 rfl);rw [<- this];exact K1 hob
  ·rw [h2];exact ⟨rfl,Iff.rfl⟩
  ·rw [h2];exact ⟨rfl,Iff.rfl⟩
  ·exact ⟨rfl,Iff.rfl⟩
theorem LH (h:nL np ops o e e2):rY ops e o.guard=rY ops e2 o.guard:=by
 unfold rY;cases hg:o.guard with
 | none=>rfl
 | some p =>
  obtain ⟨j,w⟩:=p;simp only;cases hd:rM ops j with
  | none=>rfl
  | some t =>
   simp only [rd];rw [h.1 t (by simp [rdT,hg,hd])]
theorem Kr {d:Nat} {hs':List D} (h16:hs'.length<=16) {r:Nat} (h:r∈kk d 0 (hs'.length-([]:List Nat).length)):r∈GH d:=by
 obtain ⟨j,_,h2,rfl⟩:=tU h;simp only [GH,List.mem_map,List.mem_range];exact ⟨j,by simp at h2;omega,rfl⟩
def Splits (P:Program) (n np:Nat) (ops:List Oper) (o:Oper) (e:Env) (g:Bool) (K:Env->Prop):Prop:=
 ∃ ft fo:Nat->Option D,(∀ s d,ft s=some d->s∈WD o)/\(∀ s d,fo s=some d->s∈MS np ops o)/\K (F3 ft fo e) /\
  ∀ e2,nL np ops o e e2->∀ K2:Env->Prop,K2 (F3 ft fo e2)->j8 P n true o e2 g K2
theorem NM (hh:hard o=false) {g:Bool} {K:Env->Prop} (hk:g=true->zi np ops o (cB e o)) (h:j8 P n true o e g K):Splits P n np ops o e g K:=by
 have hopK:∀ e K,j8 P n true o e g K=iD P n true o e g K:=fun e K=>by simp [j8,hh]
 rw [hopK] at h
 have one_mem:∀ (d:Nat) (x:D),o.dst=some d->∀ s y,one d x s=some y->s∈WD o:=by
  intro d x hd s y hy;unfold one at hy;split at hy
  ·rename_i e;subst e;simp [WD,hd]
  ·cases hy
 have no_mem:∀ s (y:D),oD s=some y->s∈MS np ops o:=fun s y h=>by cases h
 -- a step that only sets its slot
 have simple:∀ (d:Nat) (x:D),o.dst=some d->K (dj e d x)->(∀ e2,nL np ops o e e2->∀ K2:Env->Prop,K2 (dj e2 d x)->j8 P n true o e2 g K2)->Splits P n np ops o e g K:=by
  intro d x hd hK hh;refine ⟨one d x,oD,one_mem d x hd,no_mem,by rw [<- Mx];exact hK,?_⟩;intro e2 hag K2 hK2;exact hh e2 hag K2 (by rw [Mx];exact hK2)
 -- a step that makes one object
 have maker:∀ (d:Nat) (x y:D),o.dst=some d->makes o.op=true->K (dj (dZ e (nm d 0) y) d x)->(∀ e2,nL np ops o e e2->∀ K2:Env->Prop,K2 (dj (dZ e2 (nm d 0) y) d x)->j8 P n true o e2 g K2)->Splits P n np ops o e g K:=by
  intro d x y hd hm hK hh;refine ⟨one d x,one (nm d 0) y,one_mem d x hd,?_,by rw [<- PJ];exact hK,?_⟩
  ·intro s z hz;unfold one at hz;split at hz
   ·rename_i e;subst e;simp only [MS,hd,hm,if_true];exact List.mem_append_left _ (by simp only [GH,List.mem_map,List.mem_range];exact ⟨0,by omega,rfl⟩)
   ·cases hz
  ·intro e2 hag K2 hK2;exact hh e2 hag K2 (by rw [PJ];exact hK2)
 have hfr:∀ (d:Nat),o.dst=some d->makes o.op=true->∀ e2,nL np ops o e e2->∀ r∈GH d,e.o r=e2.o r:=by
  intro d hd hm e2 hag r hr;refine hag.2 r (.inr (.inl ?_));simp only [MS,hd,hm,if_true];exact List.mem_append_left _ hr
 have h0:∀ d,nm d 0∈GH d:=fun d=>by simp only [GH,List.mem_map,List.mem_range];exact ⟨0,by omega,rfl⟩
 cases hd:o.dst with
 | none =>
  cases hop:o.op<;>simp only [iD,hop,hd] at h<;>try exact h.elim
  rename_i t a x;obtain ⟨hg,h⟩:=h;have hk':=hk hg;simp only [Norm] at h;have hra:∀ e2,nL np ops o e e2->rd e a=rd e2 a/\rd e x=rd e2 x:=fun e2 hag=>⟨hag.rd (by simp [hop,Op.operands]),hag.rd (by simp [hop,Op.operands])⟩
  have hin:∀ r∈(rd e a).names,r∈MS np ops o:=by
   intro r hr;have:=yB hk' r (by simp only [cB,hop];exact hr);unfold vI at this;rw [hop] at this;exact List.contains_iff_mem.1 this
  have iV:∀ (r:Nat) (y:D),r∈(rd e a).names->K (dZ e r y)->(∀ e2,nL np ops o e e2->∀ K2:Env->Prop,K2 (dZ e2 r y)->j8 P n true o e2 g K2)->Splits P n np ops o e g K:=by
   intro r y hr hK hh;refine ⟨oD,one r y,(fun s d h=>by cases h),?_,(by rw [<- MT];exact hK),?_⟩
   ·intro s z hz;unfold one at hz;split at hz
    ·rename_i e;subst e;exact hin _ hr
    ·cases hz
   ·intro e2 hag K2 hK2;exact hh e2 hag K2 (by rw [MT];exact hK2)
  unfold Ob at h;cases ha:rd e a<;>rw [ha] at h<;>try exact h.elim
  ·rename_i r off;simp only at h;unfold W1 at h;cases ho:e.o r<;>rw [ho] at h<;>try exact h.elim
   rename_i cs;simp only at h;cases hl:bT P t with
   | none=>rw [hl] at h;exact h.elim
   | some l =>
    rw [hl] at h;obtain ⟨q1,q2,q3,hK⟩:=h;refine iV r _ (by rw [ha];simp [D.names]) hK ?_;intro e2 hag K2 hK2;obtain ⟨ea,ex⟩:=hra e2 hag;have er:e.o r=e2.o r:=hag.2 r (.inr (.inl (hin r (by rw [ha];simp [D.names]))));simp only [hopK,iD,hop,hd,Norm];refine ⟨hg,?_⟩;rw [<- ea,<- ex,ha];simp only [Ob];rw [<- er,ho];simp only [W1,hl];exact ⟨q1,q2,q3,hK2⟩
  ·rename_i r z i k;simp only at h;unfold Xt at h;cases ho:e.o r<;>rw [ho] at h<;>try exact h.elim
   rename_i z' rows;simp only at h;cases hl:bT P t with
   | none=>rw [hl] at h;exact h.elim
   | some l =>
    rw [hl] at h;obtain ⟨q1,q2,q3,q4,q5,hK⟩:=h;refine iV r _ (by rw [ha];simp [D.names]) hK ?_;intro e2 hag K2 hK2;obtain ⟨ea,ex⟩:=hra e2 hag;have er:e.o r=e2.o r:=hag.2 r (.inr (.inl (hin r (by rw [ha];simp [D.names]))));simp only [hopK,iD,hop,hd,Norm];refine ⟨hg,?_⟩;rw [<- ea,<- ex,ha];simp only [Ob];rw [<- er,ho];simp only [Xt,hl];exact ⟨q1,q2,q3,q4,q5,hK2⟩
 | some d =>
  have pureCase:(∀ c f,o.op=.call c->c.callee≠.value f)->(∀ e' K',j8 P n true o e' g K' ↔ (d < n/\eU g (dD P e' o.op) (gm P e' o.op) fun u=>K' (dj e' d u)))->Splits P n np ops o e g K:=by
   intro hn heq;obtain ⟨hdn,hok,hK⟩:=(heq e K).1 (by rw [hopK];exact h);refine simple d _ hd hK ?_;intro e2 hag K2 hK2;refine (heq e2 K2).2 ⟨hdn,?_,?_⟩
   ·intro hg;exact (B2 (P:=P) hag (hk hg) hn).2.1 (hok hg)
   ·cases g with
    | false=>exact hK2
    | true =>
     have:=(B2 (P:=P) hag (hk rfl) hn).1;simp only [gd,if_true] at hK2 |-;rw [<- this];exact hK2
  cases hop:o.op
  case box T x =>
   simp only [iD,hop,hd] at h;obtain ⟨hg,hdn,q1,q2,hK⟩:=h;refine maker d _ _ hd (by rw [hop];rfl) hK ?_;intro e2 hag K2 hK2;simp only [hopK,iD,hop,hd,Norm];refine ⟨hg,hdn,?_⟩;rw [<- hag.rd (by simp [hop,Op.operands]:x∈o.op.operands.toList)];exact ⟨q1,by rw [<- hfr d hd (by rw [hop];rfl) e2 hag _ (h0 d)];exact q2,hK2⟩
  case alloc T =>
   simp only [iD,hop,hd] at h;obtain ⟨hg,hdn,h⟩:=h;cases hz:cK P T with
   | none=>rw [hz] at h;exact h.elim
   | some z =>
    rw [hz] at h;obtain ⟨q2,hK⟩:=h;refine maker d _ _ hd (by rw [hop];rfl) hK ?_;intro e2 hag K2 hK2;simp only [hopK,iD,hop,hd,hz];exact ⟨hg,hdn,by rw [<- hfr d hd (by rw [hop];rfl) e2 hag _ (h0 d)];exact q2,hK2⟩
  case buildSlice t len parts =>
   simp only [iD,hop,hd] at h;obtain ⟨hdn,h⟩:=h;have hp:∀ e2,nL np ops o e e2->∀ x∈parts.toList,rd e x.2=rd e2 x.2:=fun e2 hag x hx=>hag.rd (by simp only [hop,Op.operands,Array.toList_map,List.mem_map];exact ⟨x,hx,rfl⟩)
   have hbn:∀ e2,nL np ops o e e2->tP e parts.toList=tP e2 parts.toList:=by
    intro e2 hag;unfold tP;congr 1;exact List.map_congr_left fun x hx=>hp e2 hag x hx
   cases g with
   | false =>
    refine simple d _ hd (h.2 rfl) ?_;intro e2 hag K2 hK2;simp only [hopK,iD,hop,hd];exact ⟨hdn,fun h=>(Bool.false_ne_true h).elim,fun _=>hK2⟩
   | true =>
    obtain ⟨hnil,hb⟩:=h.1 rfl;have hnil:=hnil trivial;rw [hnil] at hb;simp only [dN] at hb;unfold Ok at hb;split at hb<;>try exact hb.elim
    rename_i z by_ ea zc hT hzc;obtain ⟨q1,q2,q3,q4,q5,hK⟩:=hb;refine maker d _ _ hd (by rw [hop];rfl) hK ?_;intro e2 hag K2 hK2;have hbs:∀ z,kr e z parts.toList=kr e2 z parts.toList:=fun z=>List.map_congr_left fun x hx=>by rw [hp e2 hag x hx]
    simp only [hopK,iD,hop,hd];refine ⟨hdn,fun _=>⟨fun _=>by rw [<- hbn e2 hag];exact hnil,?_⟩,fun h=>by cases h⟩;rw [<- hbn e2 hag,hnil];simp only [dN,Ok,hT,hzc];simp only [AR,<- hbs] at q3 q4 |-;exact ⟨q1,q2,q3,q4,by rw [<- hfr d hd (by rw [hop];rfl) e2 hag _ (h0 d)];exact q5,hK2⟩
  case makeSlice t l c =>
   simp only [iD,hop,hd] at h;obtain ⟨hdn,h⟩:=h;cases g with
   | false =>
    refine simple d _ hd (h.2 rfl) ?_;intro e2 hag K2 hK2;simp only [hopK,iD,hop,hd];exact ⟨hdn,fun h=>(Bool.false_ne_true h).elim,fun _=>hK2⟩
   | true =>
    have hm:=h.1 rfl;unfold Pd at hm;split at hm<;>try exact hm.elim
    rename_i z by_ ea k1 n1 k2 m1 zc hT hl hc hzc;obtain ⟨q1,q2,q3,q4,q5,q6,q7,hK⟩:=hm;refine maker d _ _ hd (by rw [hop];rfl) hK ?_;intro e2 hag K2 hK2;simp only [hopK,iD,hop,hd];refine ⟨hdn,fun _=>?_,fun h=>by cases h⟩;rw [<- hag.rd (by simp [hop,Op.operands]:l∈o.op.operands.toList),<- hag.rd (by simp [hop,Op.operands]:c∈o.op.operands.toList),hl,hc];simp only [Pd,hT,hzc];exact ⟨q1,q2,q3,q4,q5,q6,by rw [<- hfr d hd (by rw [hop];rfl) e2 hag _ (h0 d)];exact q7,hK2⟩
  case call c =>
   cases hcal:c.callee with
   | invoke r m=>simp only [iD,hop,hd,hcal] at h;exact h.2.elim
   | builtin b =>
    by_cases hb:b=.append
    ·subst hb;simp only [iD,hop,hd,hcal] at h;exact (Bool.false_ne_true h.2.2.1.symm).elim
    ·refine pureCase (fun c' f' e' hf=>by rw [hop] at e';cases e';rw [hcal] at hf;cases hf) ?_;intro e' K';simp only [hopK,iD,hop,hd,hcal]
   | value f =>
    simp only [iD,hop,hd,hcal] at h;obtain ⟨hdn,h⟩:=h;cases g with
    | false =>
     refine simple d _ hd (h.2 rfl) ?_;intro e2 hag K2 hK2;simp only [hopK,iD,hop,hd,hcal];exact ⟨hdn,fun h=>(Bool.false_ne_true h).elim,fun _=>hK2⟩
    | true =>
     obtain ⟨fz,gs,bw,hs',dv,hdr,hc⟩:=(h.1 rfl).elim id (fun h=>(Bool.false_ne_true h.1.symm).elim);obtain ⟨rfl,rfl⟩:=hdr rfl;simp only [dN] at hc;unfold vX at hc;split at hc<;>try exact hc.elim
     rename_i k caps hf;obtain ⟨q1,q2,q3,q4,q5,q6,q7⟩:=hc;have q7:=q7.drawn;have hm:makes o.op=true:=by rw [hop];simp [makes,hcal]
     have hns:∀ r∈fP d [] hs',r∈GH d:=fun r hr=>Kr (by simpa using q4.2) (by simpa [fP] using hr)
     have hob:=hk rfl;simp only [cB,hop,hcal] at hob;refine ⟨one d (dv.jq (KA (fP d [] hs'))),BX (KA (fP d [] hs')) (fP d [] hs') hs',one_mem d _ hd,?_,by rw [<- FB];exact q7,?_⟩
     ·intro s x hx;simp only [MS,hd,hm,if_true];exact List.mem_append_left _ (hns s (Jt hx))
     ·intro e2 hag K2 hK2
      have hob2:∀ r∈reach e.o 4 (D.cg (rd e f :: c.args.toList.map (rd e))),e.o r=e2.o r:=by
       intro r hr;have:=hag.obj (hk rfl) (r:=r) (by simp only [cB,hop,hcal];exact hr);exact this
      have hf2:rd e f=rd e2 f:=hag.rd (by simp [hop,Op.operands,Call.operands,hcal]);have ha2:c.args.toList.map (rd e)=c.args.toList.map (rd e2):=List.map_congr_left fun x hx=>hag.rd (by simp only [hop,Op.operands,Call.operands,Array.toList_append,List.mem_append];exact .inr hx)
      simp only [hopK,iD,hop,hd,hcal];refine ⟨hdn,fun _=>.inl ⟨[],[],bw,hs',dv,fun _=>⟨rfl,rfl⟩,?_⟩,fun h=>by cases h⟩;simp only [dN];rw [<- hf2,hf];simp only [vX];refine ⟨q1,(fun r hr=>by cases hr),?_,q4,q5,?_,(.inl (by rw [FB];exact hK2))⟩
      ·intro r hr;rw [<- hfr d hd hm e2 hag r (Kr (by simpa using q4.2) hr)];exact q3 r hr
      ·rw [<- ha2]
       have:((c.args.toList.map (rd e)++caps).map (conv bw [] e2.o 4))=(c.args.toList.map (rd e)++caps).map (conv bw [] e.o 4):=by
        refine List.map_congr_left ?_;intro x hx;refine (CV bw 4 x ?_).symm;intro r hr;refine hob2 r (tW e.o 4 _ _ ?_ r hr);intro s hs;rw [hf];simp only [D.cg,D.names,List.mem_append];rcases List.mem_append.1 hx with hx | hx
        ·exact .inr (dY.2 ⟨x,hx,hs⟩)
        ·exact .inl (dY.2 ⟨x,hx,hs⟩)
       rw [this];exact q6
  all_goals
   refine pureCase (fun c' f' e' hf=>by rw [hop] at e';cases e') ?_;intro e' K';simp only [hopK,iD,hop,hd]
theorem Tt {o:Oper} (hh:jX o=false):hard o=false:=by
 unfold jX at hh;cases h:hard o with
 | false=>rfl
 | true=>rw [h] at hh;simp at hh
theorem zl (hh:jX o=false) {K:Env->Prop} (h:gh P n np ops o e K) :
  ∃ ft fo:Nat->Option D,(∀ s d,ft s=some d->s∈WD o)/\(∀ s d,fo s=some d->s∈MS np ops o)/\K (F3 ft fo e) /\
   ∀ e2,nL np ops o e e2->∀ K2:Env->Prop,K2 (F3 ft fo e2)->gh P n np ops o e2 K2:=by
 unfold gh at h;cases hg:rY ops e o.guard with
 | none=>rw [hg] at h;exact h.elim
 | some g =>
  rw [hg] at h;simp only [hh,Bool.false_eq_true,if_false] at h;obtain ⟨hk,h⟩:=h;obtain ⟨ft,fo,h1,h2,h3,h4⟩:=NM (Tt hh) hk h;refine ⟨ft,fo,h1,h2,h3,fun e2 hag K2 hK2=>?_⟩;unfold gh;rw [<- LH hag,hg];simp only [hh,Bool.false_eq_true,if_false];refine ⟨fun hgt=>?_,h4 e2 hag K2 hK2⟩
  -- what is reached is the same
  have hk':=hk hgt
  have:cB e2 o=cB e o:=by
   have hr:∀ x,x∈o.op.operands.toList->rd e x=rd e2 x:=fun x hx=>hag.rd hx
   unfold cB;cases hop:o.op<;>rw [hop] at hr<;>simp only [Op.operands] at hr<;>try rfl
   case load t a=>simp only;rw [hr a (by simp)]
   case store t a x=>simp only;rw [hr a (by simp)]
   case indexAddr t x i=>simp only;rw [hr x (by simp)]
   case slice t x lo hi mx=>simp only;rw [hr x (by simp)]
   case call c =>
    have h2:c.args.toList.map (rd e)=c.args.toList.map (rd e2):=List.map_congr_left fun x hx=>hr x (by simp only [Call.operands,Array.toList_append,List.mem_append];exact .inr hx)
    cases hcal:c.callee with
    | builtin b=>simp only [hcal];rw [h2]
    | invoke r m=>simp only [hcal];rw [h2]
    | value f =>
     simp only [hcal];rw [hr f (by simp [Call.operands,hcal]),h2]
     -- reached objects hold the same
     have key:∀ (k:Nat) (ns:List Nat),(∀ r∈reach e.o k ns,e.o r=e2.o r)->reach e2.o k ns=reach e.o k ns:=by
      intro k
      induction k with
      | zero=>intro ns _;rfl
      | succ k ih =>
       intro ns hh;simp only [reach] at hh |-;have e1:ns.map e2.o=ns.map e.o:=List.map_congr_left fun r hr=>(hh r (List.mem_append_left _ hr)).symm
       rw [e1,ih _ fun r hr=>hh r (List.mem_append_right _ hr)]
     refine key 4 _ ?_;intro r hr';refine hag.obj hk' (r:=r) ?_;simp only [cB,hop,hcal];rw [hr f (by simp [Call.operands,hcal]),h2];exact hr'
  rw [this];exact hk'
theorem J5 {x:Oper} (hx:x∈ops) {r:Nat} (hr:r∈MS np ops x):r∈Vx np ops:=List.mem_flatMap.2 ⟨x,hx,hr⟩
theorem QI {ft fo ft2 fo2:Nat->Option D} (h1:∀ s d d2,ft s=some d->ft2 s=some d2->False) (h2:∀ s d d2,fo s=some d->fo2 s=some d2->False) (e:Env):F3 ft fo (F3 ft2 fo2 e)=F3 ft2 fo2 (F3 ft fo e):=by
 simp only [F3,Env.mk.injEq];refine ⟨?_,?_⟩<;>funext j
 ·cases hf:ft j<;>cases hg:ft2 j<;>simp;exact (h1 j _ _ hf hg).elim
 ·cases hf:fo j<;>cases hg:fo2 j<;>simp;exact (h2 j _ _ hf hg).elim
theorem KU {x y:Oper} (hhx:jX x=false) (hhy:jX y=false) (hxo:x∈ops) (hyo:y∈ops) {K:Env->Prop} (ha:BQ np ops x y=true) (h:gh P n np ops x e fun e1=>gh P n np ops y e1 K) :
  gh P n np ops y e fun e2=>gh P n np ops x e2 K:=by
 obtain ⟨ft,fo,h1,h2,h3,hx⟩:=zl hhx h;obtain ⟨gt,go,k1,k2,k3,hy⟩:=zl hhy h3;simp only [BQ,Bool.and_eq_true,List.all_eq_true,Bool.not_eq_true',List.contains_eq_mem,decide_eq_false_iff_not] at ha;obtain ⟨⟨⟨a1,a2⟩,a3⟩,a4⟩:=ha;refine hy e ⟨?_,?_⟩ _ ?_
 ·intro s hs
  show (ft s).getD (e.t s)=e.t s
  cases hf:ft s with
  | none=>rfl
  | some d=>exact ((a1 s (h1 s d hf)).1 hs).elim
 ·intro r hr
  show (fo r).getD (e.o r)=e.o r
  cases hf:fo r with
  | none=>rfl
  | some d =>
   have hw:=h2 r d hf;rcases hr with hr | hr | hr
   ·exact ((a3 r hw).1 hr).elim
   ·exact ((a3 r hw).2 hr).elim
   ·exact (hr (J5 hxo hw)).elim
 ·refine hx _ ⟨?_,?_⟩ _ ?_
  ·intro s hs
   show e.t s=(gt s).getD (e.t s)
   cases hf:gt s with
   | none=>rfl
   | some d=>exact (a2 s (k1 s d hf) hs).elim
  ·intro r hr
   show e.o r=(go r).getD (e.o r)
   cases hf:go r with
   | none=>rfl
   | some d =>
    have hw:=k2 r d hf;rcases hr with hr | hr | hr
    ·exact (a4 r hw hr).elim
    ·exact ((a3 r hr).2 hw).elim
    ·exact (hr (J5 hyo hw)).elim
  ·rw [QI]
   ·exact k3
   ·intro s d d2 e1 e2';exact (a1 s (h1 s d e1)).2 (k1 s d2 e2')
   ·intro s d d2 e1 e2';exact (a3 s (h2 s d e1)).2 (k2 s d2 e2')
theorem CP {K K':Env->Prop} (h:gh P n np ops o e K) (hk:∀ e,K e->K' e):gh P n np ops o e K':=by
 unfold gh at h |-;cases hg:rY ops e o.guard with
 | none=>rw [hg] at h;exact h.elim
 | some g =>
  rw [hg] at h;simp only at h |-;split at h
  ·rename_i hh;rw [if_pos hh];split at h
   ·rename_i ha;rw [if_pos ha];exact yd hk h
   ·rename_i ha;rw [if_neg ha];exact sS hk h
  ·rename_i hh;rw [if_neg hh];exact ⟨h.1,sS hk h.2⟩
theorem NY {x y:Oper} {K:Env->Prop} (hm:H7 x y=true) (h:gh P n np ops x e fun e1=>gh P n np ops y e1 K):gh P n np ops y e fun e2=>gh P n np ops x e2 K:=by
 unfold H7 at hm;split at hm<;>try cases hm
 rename_i u dx hop hdst hgu;simp only [Bool.and_eq_true,Bool.not_eq_true',Option.isNone_iff_eq_none,bne_iff_ne] at hm;obtain ⟨⟨⟨⟨ha,hg⟩,hc⟩,hd1⟩,hd2⟩:=hm;have hx0:jX x=false:=by simp [jX,hard,isApp,LN,hop]
 have hy1:jX y=true:=by simp [jX,ha]
 have hxh:hard x=false:=by simp [hard,hop]
 have ex:∀ (e:Env) (K:Env->Prop),gh P n np ops x e K ↔ (dx < n/\K (dj e dx (e.t u))):=by
  intro e K;have hob:cB e x=[]:=by simp [cB,hop]
  simp only [gh,hgu,rY,hx0,Bool.false_eq_true,if_false,RJ,hob,zi,j8,hxh,iD,hop,hdst,eU,dD,gm,gd,if_true,rd];simp
 have ey:∀ (e:Env) (K:Env->Prop),gh P n np ops y e K ↔ wM P n y e true K:=by
  intro e K;simp only [gh,hg,rY,hy1,ha,if_true]
 rw [ex] at h;rw [ey] at h |-;refine yd ?_ (OJ hc hd1 hd2 h.2);intro e2 h2;rw [ex];exact ⟨h.1,h2⟩
def lu (P:Program) (n np:Nat) (ops:Array Oper):List Nat->Env->(Env->Prop)->Prop
 | [],e,K=>K e
 | i :: r,e,K=>match ops[i]? with
  | some o=>gh P n np ops.toList o e fun e'=>lu P n np ops r e' K
  | none=>lu P n np ops r e K
theorem wv {ops:Array Oper} {i:Nat} {y:Oper} (hy:ops[i]?=some y):∀ (pre post:List Nat) (e:Env) (K:Env->Prop),(∀ j∈pre,∀ x,ops[j]?=some x->(jX x=false/\jX y=false/\BQ np ops.toList x y=true)\/H7 x y=true) ->
  lu P n np ops (pre++i :: post) e K->lu P n np ops (i :: (pre++post)) e K
 | [],_,_,_,_,h=>h
 | j :: pre,post,e,K,ha,h=>by
  simp only [List.cons_append,lu] at h |-;have ih:=fun e'=>wv hy pre post e' K (fun k hk=>ha k (List.mem_cons_of_mem _ hk))
  simp only [hy];cases hj:ops[j]? with
  | none =>
   rw [hj] at h;have:=ih e h;simp only [lu,hy] at this;simpa [hj] using this
  | some x =>
   rw [hj] at h;simp only at h |-
   have h2:gh P n np ops.toList x e fun e1=>gh P n np ops.toList y e1 fun e'=>lu P n np ops (pre++post) e' K:=by
    refine CP h ?_;intro e' h';have:=ih e' h';simpa only [lu,hy] using this
   have mem:∀ {k:Nat} {z:Oper},ops[k]?=some z->z∈ops.toList:=by
    intro k z hz;exact List.mem_of_getElem? (i:=k) (by simpa using hz)
   rcases ha j (by simp) x hj with ⟨a1,a2,a3⟩ | ha
   ·exact KU a1 a2 (mem hj) (mem hy) a3 h2
   ·exact NY ha h2
theorem wS {ops:Array Oper}:∀ (l:List Oper) (k:Nat) (e:Env) (K:Env->Prop),ops.toList.drop k=l->kQ P n np ops.toList l e K->lu P n np ops (List.range' k l.length) e K
 | [],_,_,_,_,h=>h
 | o :: l,k,e,K,hd,h=>by
  have hk:ops[k]?=some o:=by
   have:(ops.toList.drop k)[0]?=some o:=by rw [hd];rfl
   rw [List.getElem?_drop] at this;simpa using this
  have hd':ops.toList.drop (k+1)=l:=by
   rw [<- List.drop_drop,hd];rfl
  simp only [List.length_cons,List.range'_succ,lu,hk];refine CP h ?_;intro e' h';exact wS l (k+1) e' K hd' h'
end
end Go.Abs
