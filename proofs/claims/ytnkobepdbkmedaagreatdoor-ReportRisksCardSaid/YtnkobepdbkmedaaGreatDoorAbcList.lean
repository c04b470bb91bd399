/- A region whose order is open. No theorem of a claim. -/
import Derived.Test.YtnkobepdbkmedaaGreatDoorAbcSound
import Derived.Orders
set_option linter.unusedSimpArgs false
set_option linter.unusedVariables false
namespace Go.Abs
section
variable {P:Program} {n np:Nat} {e:Env} {K K':Env->Prop}
theorem UY (h:∀ e,K e->K' e) {t:TypeId} {a v:D} (hk:Sl P e t a K v):Sl P e t a K' v:=by
 unfold Sl at hk |-;split at hk
 ·unfold StB at hk |-;split at hk
  ·cases hl:bX P t with
   | none=>simp only [hl] at hk
   | some l=>simp only [hl] at hk |-;exact ⟨hk.1,hk.2.1,hk.2.2.1,h _ hk.2.2.2⟩
  ·exact hk.elim
 ·unfold StO at hk |-;split at hk
  ·cases hl:bX P t with
   | none=>simp only [hl] at hk
   | some l=>simp only [hl] at hk |-;exact ⟨hk.1,hk.2.1,hk.2.2.1,hk.2.2.2.1,hk.2.2.2.2.1,h _ hk.2.2.2.2.2⟩
  ·exact hk.elim
 ·exact hk.elim
theorem UD (h:∀ e,K e->K' e) {len:Nat} {ps:List (Nat × Operand)} {d:Nat} {t:Ty} {z:Option (List D)} (hk:Ss e len ps d K t z):Ss e len ps d K' t z:=by
 unfold Ss at hk |-;split at hk
 ·exact ⟨hk.1,hk.2.1,hk.2.2.1,hk.2.2.2.1,hk.2.2.2.2.1,h _ hk.2.2.2.2.2⟩
 ·exact hk.elim
theorem Vh (h:∀ e,K e->K' e) {l c:D} {d:Nat} {t:Ty} {z:Option (List D)} (hk:Td e d K l c t z):Td e d K' l c t z:=by
 unfold Td at hk |-;split at hk
 ·exact ⟨hk.1,hk.2.1,hk.2.2.1,hk.2.2.2.1,hk.2.2.2.2.1,hk.2.2.2.2.2.1,hk.2.2.2.2.2.2.1,h _ hk.2.2.2.2.2.2.2⟩
 ·exact hk.elim
theorem Jw (h:∀ e,K e->K' e) {x y:D} {d:Nat} {t t2:Ty} (hk:sA e d K x y t t2):sA e d K' x y t t2:=by
 unfold sA at hk |-;split at hk
 ·refine ⟨hk.1,?_⟩;have hk:=hk.2;unfold DU at hk |-;split at hk
  ·exact ⟨hk.1,hk.2.1,h _ hk.2.2⟩
  ·exact ⟨hk.1,hk.2.1,h _ hk.2.2⟩
  ·unfold Ux at hk |-;split at hk
   ·exact ⟨hk.1,hk.2.1,hk.2.2.1,h _ hk.2.2.2⟩
   ·exact hk.elim
  ·exact hk.elim
 ·exact hk.elim
theorem Oz (h:∀ e,K e->K' e) {dr:Bool} {d:Nat} {f:Operand} {args:List Operand} (hk:Ao P dr e d f args K):Ao P dr e d f args K':=by
 obtain ⟨fz,gs,bw,hs',dv,h1,hk⟩:=hk;exact ⟨fz,gs,bw,hs',dv,h1,yl (KW.mono h) hk⟩
theorem Sp (h:∀ e,K e->K' e) {dr:Bool} {o:Oper} {g:Bool} (hk:iW P n dr o e g K):iW P n dr o e g K':=by
 have gk:∀ {g:Bool} {a a':Prop} {e:Env},(a->a')->GK g a (K e)->GK g a' (K' e):=fun ha hg=>⟨fun x=>ha (hg.1 x),fun x=>h _ (hg.2 x)⟩
 have st:∀ {g:Bool} {ok:Prop} {v:D} {d:Nat},fm g ok v (fun u=>K (dD e d u))->fm g ok v (fun u=>K' (dD e d u)):=fun hs=>⟨hs.1,h _ hs.2⟩
 cases hd:o.dst with
 | none =>
  cases hop:o.op<;>simp only [iW,hop,hd] at hk |-;exact ⟨hk.1,UY h hk.2⟩
 | some d =>
  cases hop:o.op<;>simp only [iW,hop,hd] at hk |-<;>(try exact ⟨hk.1,st hk.2⟩)
  case box t x=>exact ⟨hk.1,hk.2.1,hk.2.2.1,hk.2.2.2.1,h _ hk.2.2.2.2⟩
  case alloc t =>
   refine ⟨hk.1,hk.2.1,?_⟩;have hk:=hk.2.2;unfold R6 at hk |-;split at hk
   ·exact ⟨hk.1,h _ hk.2⟩
   ·exact hk.elim
  case buildSlice t len parts=>exact ⟨hk.1,gk (fun x=>⟨x.1,UD h x.2⟩) hk.2⟩
  case makeSlice t l c=>exact ⟨hk.1,gk (Vh h) hk.2⟩
  case call c =>
   refine ⟨hk.1,?_⟩;have hk:=hk.2;cases hc:c.callee with
   | invoke r m=>rw [hc] at hk;exact hk.elim
   | value f=>rw [hc] at hk;exact gk (fun hk=>hk.elim (fun hk=>.inl (Oz h hk)) (fun hk=>.inr ⟨hk.1,hk.2.mono h⟩)) hk
   | builtin b =>
    rw [hc] at hk;cases b<;>simp only at hk |-<;>(try exact st hk);refine ⟨hk.1,hk.2.1,?_⟩;have hk:=hk.2.2;split at hk
    ·unfold EG at hk |-;split at hk
     ·exact hk.mono h
     ·exact hk.mono h
     ·exact Jw h hk
    ·exact hk.elim
theorem uU (h:∀ e,K e->K' e) {dr:Bool} {o:Oper} {g:Bool} (hk:kV P n dr o e g K):kV P n dr o e g K':=by
 unfold kV at hk |-;split at hk
 ·rename_i hh;rw [if_pos hh];exact ⟨hk.1,hk.2.1,hk.2.2.mono h⟩
 ·rename_i hh;rw [if_neg hh];exact Sp h hk
end
def yZ (l:List Operand):List Nat:=l.filterMap fun | .tmp t=>some t | _=>none
def keyOf (ops:List Oper):Nat->Nat->List Nat
 | 0,t=>[t]
 | k+1,t=>match ops.find? (fun o=>o.dst==some t) with
  | some o=>(match o.op with
   | .fieldAddr _ (.tmp u) f=>f :: keyOf ops k u
   | _=>[t])
  | none=>[t]
def Wh (ops:List Oper) (ks:List Nat) (o:Oper):Bool:=
 match o.op with
 | .load _ (.tmp u)=>keyOf ops 4 u==ks
 | _=>false
def rootOf (ops:List Oper):Nat->Nat->Nat
 | 0,t=>t
 | k+1,t=>match ops.find? (fun o=>o.dst==some t) with
  | some o=>(match o.op with
   | .fieldAddr _ (.tmp u) _=>rootOf ops k u
   | .indexAddr _ (.tmp u) _=>rootOf ops k u
   | .nilCheck (.tmp u)=>rootOf ops k u
   | .move (.tmp u)=>rootOf ops k u
   | .load _ (.tmp u)=>(match ops.find? (Wh ops (keyOf ops 4 u)) with
    | some x=>x.dst.getD t
    | none=>t)
   | _=>t)
  | none=>t
def JF (s:Nat):List Nat:=(List.range 16).map (nm s)
def nmS (np s:Nat):List Nat:=JF s++if s < np then List.range 16 else []
def rdT (ops:List Oper) (o:Oper):List Nat:=
 yZ o.op.operands.toList++(match o.guard with
  | some (j,_)=>(tj ops j).toList
  | none=>[])
def looks (o:Op):Bool:=
 match o with
 | .load _ _ | .store _ _ _ | .indexAddr _ _ _ | .slice _ _ _ _ _ | .call _=>true
 | _=>false
def rdO (np:Nat) (ops:List Oper) (o:Oper):List Nat:=if looks o.op then (yZ o.op.operands.toList).flatMap fun t=>nmS np (rootOf ops 8 t) else []
def makes (o:Op):Bool:=
 match o with
 | .alloc _ | .box _ _ | .buildSlice _ _ _ | .makeSlice _ _ _=>true
 | .call c=>(match c.callee with
  | .value _=>true
  | _=>false)
 | _=>false
def aaf (np:Nat) (ops:List Oper):Operand->List Nat
 | .tmp t=>nmS np (rootOf ops 8 t)
 | _=>[]
def QE (np:Nat) (ops:List Oper) (o:Oper):List Nat:=
 (match o.dst with
  | some d=>if makes o.op then JF d else []
  | none=>[])++(match o.op with
  | .store _ a _=>aaf np ops a
  | _=>[])
def wrT (o:Oper):List Nat:=o.dst.toList
def aaB (np:Nat) (ops:List Oper):List Nat:=ops.flatMap (QE np ops)
def Ep (np:Nat) (ops:List Oper) (x y:Oper):Bool:=
 (wrT x).all (fun s=>!(rdT ops y).contains s&&!(wrT y).contains s)&&(wrT y).all (fun s=>!(rdT ops x).contains s) &&
 (QE np ops x).all (fun s=>!(rdO np ops y).contains s&&!(QE np ops y).contains s)&&(QE np ops y).all (fun s=>!(rdO np ops x).contains s)
def isApp (o:Oper):Bool:=
 match o.op with
 | .call c=>(match c.callee with
  | .builtin .append=>true
  | _=>false)
 | _=>false
def ad0:Nat:=198
def Ol (o:Oper):Bool:=
 match o.op with
 | .call c=>(match c.callee with
  | .value _=>(match c.argTypes.toList with
   | t :: _=>t==ad0
   | []=>false)
  | _=>false)
 | _=>false
def kE (o:Oper):Bool:=hard o||isApp o||Ol o
def Ni (x y:Oper):Bool:=
 match x.op,x.dst,x.guard with
 | .move (.tmp u),some dx,none=>isApp y&&y.guard.isNone&&!(yZ y.op.operands.toList).contains dx&&y.dst != some dx&&y.dst != some u
 | _,_,_=>false
def Bo (P:Program) (n:Nat) (o:Oper) (e:Env) (g:Bool) (K:Env->Prop):Prop:=
 match o.op,o.dst with
 | .call c,some d=>d < n/\g=true/\(match c.args.toList,c.argTypes.toList with
  | [x,y],[T,T2]=>sA e d K (rd e x) (rd e y) (bR P T) (bR P T2)
  | _,_=>False)
 | _,_=>False
section
variable {P:Program} {n:Nat} {e:Env} {K K':Env->Prop}
theorem aa1 {d:Nat} {S:Prop} {x y:D} {t t2:Ty} (h:sA e d K x y t t2):EG e d K S x y t t2:=by
 unfold EG;split
 ·unfold sA at h;split at h
  ·have:=h.2;unfold DU at this;split at this<;>simp_all
  ·exact h.elim
 ·unfold sA at h;split at h
  ·have:=h.2;simp only [qJ,Jt] at this;unfold DU at this;split at this<;>simp_all
  ·exact h.elim
 ·exact h
theorem OA {o:Oper} (h:isApp o=true):hard o=false:=by
 unfold isApp at h;unfold hard;split at h
 ·rename_i c hop;rw [hop];split at h
  ·rename_i hc;simp [hc]
  ·cases h
 ·cases h
theorem Ua {o:Oper} {g:Bool} (ha:isApp o=true) (h:Bo P n o e g K):kV P n false o e g K:=by
 unfold kV;rw [OA ha];unfold isApp at ha;unfold Bo at h;split at ha
 ·rename_i c hop;split at ha
  ·rename_i hc;rw [hop] at h;cases hd:o.dst with
   | none=>rw [hd] at h;exact h.elim
   | some d =>
    rw [hd] at h;obtain ⟨h1,h2,h3⟩:=h;simp only [Bool.false_eq_true,if_false,iW,hop,hd,hc];refine ⟨h1,h2,trivial,?_⟩;split at h3
    ·rename_i x y T T2 ha ht;rw [ha,ht];exact aa1 h3
    ·exact h3.elim
  ·cases ha
 ·cases ha
theorem BV (h:∀ e,K e->K' e) {o:Oper} {g:Bool} (hk:Bo P n o e g K):Bo P n o e g K':=by
 unfold Bo at hk |-;split at hk
 ·refine ⟨hk.1,hk.2.1,?_⟩;have h3:=hk.2.2;split at h3
  ·exact Jw h h3
  ·exact h3.elim
 ·exact hk.elim
theorem VX {x:Operand} {l:List Operand} {dx:Nat} {v:D} (hx:x∈l) (h:(yZ l).contains dx=false):rd (dD e dx v) x=rd e x:=by
 cases x with
 | tmp t =>
  have:t≠dx:=by
   rintro rfl
   have:t∈yZ l:=List.mem_filterMap.2 ⟨_,hx,rfl⟩;rw [List.contains_eq_mem] at h;simp [this] at h
  exact Ed this
 | _=>rfl
theorem SO {o:Oper} {g:Bool} {u dx:Nat} (hx:(yZ o.op.operands.toList).contains dx=false) (h1:o.dst≠some dx) (h2:o.dst≠some u) (h:Bo P n o (dD e dx (e.t u)) g K) :
  Bo P n o e g fun e2=>K (dD e2 dx (e2.t u)):=by
 unfold Bo at h |-;cases hop:o.op<;>rw [hop] at h<;>try exact h.elim
 rename_i c;cases hd:o.dst with
 | none=>rw [hd] at h;exact h.elim
 | some d =>
  rw [hd] at h;obtain ⟨k1,k2,k3⟩:=h;refine ⟨k1,k2,?_⟩;have ndx:d≠dx:=fun h=>h1 (by rw [hd,h])
  have ndu:d≠u:=fun h=>h2 (by rw [hd,h])
  have base:∀ (e:Env) (v:D) (k:Nat) (y r:D),v=e.t u->dD (eG (dD e dx v) k y) d r=dD (dD (eG e k y) d r) dx ((dD (eG e k y) d r).t u):=by
   intro e v k y r hv;have e1:(dD (eG e k y) d r).t u=v:=by rw [Ed (Ne.symm ndu)];exact hv.symm
   rw [e1];simp only [dD,eG,Env.mk.injEq,and_true]
   funext j
   by_cases hj:j=d
   ·subst hj;simp [ndx]
   ·simp [hj]
  split at k3<;>try exact k3.elim
  rename_i x y T T2 hargs htys;have hin:∀ z∈c.args.toList,rd (dD e dx (e.t u)) z=rd e z:=fun z hz=>VX (l:=o.op.operands.toList) (by rw [hop];simp only [Op.operands,Call.operands,Array.toList_append,List.mem_append];exact .inr hz) hx
  rw [hin x (by rw [hargs];simp),hin y (by rw [hargs];simp)] at k3;unfold sA at k3 |-;split at k3<;>try exact k3.elim
  refine ⟨k3.1,?_⟩;have k3:=k3.2;have hbo:qJ (dD e dx (e.t u)).o [] 2 (rd e y)=qJ e.o [] 2 (rd e y):=rfl;rw [hbo] at k3;unfold DU at k3 |-;split at k3<;>try exact k3.elim
  ·refine ⟨k3.1,k3.2.1,?_⟩;dsimp only;rw [<- base e _ _ _ _ rfl];exact k3.2.2
  ·refine ⟨k3.1,k3.2.1,?_⟩;dsimp only;rw [<- base e _ _ _ _ rfl];exact k3.2.2
  ·rename_i r rows2 _ _;have ho:(dD e dx (e.t u)).o r=e.o r:=rfl;rw [ho] at k3;unfold Ux at k3 |-;split at k3<;>try exact k3.elim
   refine ⟨k3.1,k3.2.1,k3.2.2.1,?_⟩
   have hk:kj r (dD e dx (e.t u))=dD (kj r e) dx ((kj r e).t u):=by
    simp only [kj,dD,Env.mk.injEq,and_true]
    funext j
    split<;>rfl
   have k4:=k3.2.2.2;rw [hk] at k4;dsimp only;rw [<- base (kj r e) _ _ _ _ rfl];exact k4
end
def Cw (ops:Array Oper):Nat->Nat->Nat->Bool
 | 0,_,_=>false
 | k+1,i,j=>match ops[i]? with
  | none=>false
  | some y=>y.after.any (fun e=>Region.binds .any e&&(e.on==j||Cw ops k e.on j))
def BI (np:Nat) (ops:Array Oper):Bool:=
 (List.range ops.size).all fun i=>match ops[i]? with
  | none=>true
  | some y=>y.after.all (fun e=>!Region.binds .any e||e.on < i) &&
    (List.range i).all fun j=>y.after.any (fun e=>Region.binds .any e&&e.on==j)||(match ops[j]? with
     | none=>true
     | some x=>(!kE x&&!kE y&&Ep np ops.toList x y)||Ni x y||Cw ops 12 i j)
def reach (o:Nat->D):Nat->List Nat->List Nat
 | 0,ns=>ns
 | k+1,ns=>ns++reach o k (D.cq (ns.map o))
def cQ (e:Env) (o:Oper):List Nat:=
 match o.op with
 | .load _ a=>(rd e a).names
 | .store _ a _=>(rd e a).names
 | .indexAddr _ x _=>(rd e x).names
 | .slice _ x _ _ _=>(rd e x).names
 | .call c=>(match c.callee with
  | .value f=>reach e.o 4 (D.cq (rd e f :: c.args.toList.map (rd e)))
  | _=>D.cq (c.args.toList.map (rd e)))
 | _=>[]
def yX (np:Nat) (ops:List Oper) (o:Oper) (r:Nat):Bool:=
 (match o.op with
  | .store _ _ _=>(QE np ops o).contains r
  | _=>(rdO np ops o).contains r||!(aaB np ops).contains r)
def Dj (np:Nat) (ops:List Oper) (o:Oper):List Nat->Prop
 | []=>True
 | r :: rs=>yX np ops o r=true/\Dj np ops o rs
theorem Cj {np:Nat} {ops:List Oper} {o:Oper}:∀ {l:List Nat},Dj np ops o l->∀ r∈l,yX np ops o r=true
 | [],_,r,hr=>by cases hr
 | x :: l,h,r,hr=>by
  rcases List.mem_cons.1 hr with rfl | hr
  ·exact h.1
  ·exact Cj h.2 r hr
def Vr (P:Program) (n np:Nat) (ops:List Oper) (o:Oper) (e:Env) (g:Bool) (K:Env->Prop):Prop:=
 (g=true->Dj np ops o (cQ e o))/\kV P n true o e g K
def gE (P:Program) (n np:Nat) (ops:List Oper) (o:Oper) (e:Env) (K:Env->Prop):Prop:=
 match tD ops e o.guard with
 | some g=>if kE o then (if isApp o then Bo P n o e g K else kV P n false o e g K) else Vr P n np ops o e g K
 | none=>False
def lG (P:Program) (n np:Nat) (ops:List Oper):List Oper->Env->(Env->Prop)->Prop
 | [],e,K=>K e
 | o :: r,e,K=>gE P n np ops o e fun e'=>lG P n np ops r e' K
def JN (ft fo:Nat->Option D) (e:Env):Env:=⟨fun j=>(ft j).getD (e.t j),fun j=>(fo j).getD (e.o j)⟩
def one (i:Nat) (d:D):Nat->Option D:=fun j=>if j=i then some d else none
def pN:Nat->Option D:=fun _=>none
theorem P9 (i:Nat) (d:D) (e:Env):dD e i d=JN (one i d) pN e:=by
 simp only [dD,JN,one,pN,Option.getD_none,Env.mk.injEq,and_true]
 funext j
 by_cases h:j=i<;>simp [h]
theorem PD (i:Nat) (d:D) (e:Env):eG e i d=JN pN (one i d) e:=by
 simp only [eG,JN,one,pN,Option.getD_none,Env.mk.injEq,true_and]
 funext j
 by_cases h:j=i<;>simp [h]
theorem TB (i k:Nat) (d x:D) (e:Env):dD (eG e k x) i d=JN (one i d) (one k x) e:=by
 rw [P9,PD];simp [JN,pN]
def GN (f:Nat->Option Nat):List Nat->List D->Nat->Option D
 | n :: ns,h :: hs=>fun j=>match GN f ns hs j with
  | some x=>some x
  | none=>if j=n then some (h.jI f) else none
 | _,_=>pN
theorem NH (f:Nat->Option Nat):∀ (ns:List Nat) (hs:List D) (e:Env),EI f ns hs e=JN pN (GN f ns hs) e
 | [],_,e=>rfl
 | _ :: _,[],e=>rfl
 | n :: ns,h :: hs,e=>by
  rw [EI,NH f ns hs,PD];simp only [JN,pN,GN,Option.getD_none,Env.mk.injEq,true_and]
  funext j
  cases GN f ns hs j with
  | some x=>rfl
  | none=>simp [one]
theorem Ns {f:Nat->Option Nat}:∀ {ns:List Nat} {hs:List D} {j:Nat} {x:D},GN f ns hs j=some x->j∈ns
 | [],_,j,x,h=>by simp [GN,pN] at h
 | _ :: _,[],j,x,h=>by simp [GN,pN] at h
 | n :: ns,y :: hs,j,x,h=>by
  simp only [GN] at h;cases e:GN f ns hs j with
  | some z=>exact List.mem_cons_of_mem _ (Ns e)
  | none =>
   rw [e] at h;simp only at h;split at h
   ·rename_i hj;subst hj;simp
   ·cases h
theorem Js (d:Nat) (hs':List D) (dv:D) (e:Env):eT e d [] hs' dv=JN (one d (dv.jI (N0 (gh d [] hs')))) (GN (N0 (gh d [] hs')) (gh d [] hs') hs') e:=by
 have hd:ku [] hs'=[]:=by cases hs'<;>rfl
 unfold eT;rw [hd,x9,NH,P9];simp [JN,pN]
def agree (np:Nat) (ops:List Oper) (o:Oper) (e e2:Env):Prop:=
 (∀ s∈rdT ops o,e.t s=e2.t s)/\∀ r,(r∈rdO np ops o\/r∈QE np ops o\/r ∉ aaB np ops)->e.o r=e2.o r
theorem O6 {l:List Operand} {t:Nat} (h:.tmp t∈l):t∈yZ l:=List.mem_filterMap.2 ⟨_,h,rfl⟩
section
variable {P:Program} {n np:Nat} {ops:List Oper} {o:Oper} {e e2:Env}
theorem agree.rd (h:agree np ops o e e2) {x:Operand} (hx:x∈o.op.operands.toList):rd e x=rd e2 x:=by
 cases x<;>try rfl
 rename_i t;exact h.1 t (List.mem_append_left _ (O6 hx))
theorem agree.obj (h:agree np ops o e e2) (hk:Dj np ops o (cQ e o)) {r:Nat} (hr:r∈cQ e o):e.o r=e2.o r:=by
 have:=Cj hk r hr;unfold yX at this;refine h.2 r ?_;split at this
 ·exact .inr (.inl (List.contains_iff_mem.1 this))
 ·simp only [Bool.or_eq_true,Bool.not_eq_true',List.contains_eq_mem,decide_eq_true_eq,decide_eq_false_iff_not] at this;rcases this with h | h
  ·exact .inl h
  ·exact .inr (.inr h)
theorem vX (o1:Nat->D):∀ (k:Nat) (a b:List Nat),(∀ r∈a,r∈b)->∀ r∈reach o1 k a,r∈reach o1 k b:=by
 intro k
 induction k with
 | zero=>intro a b hab r hr;exact hab r hr
 | succ k ih =>
  intro a b hab r hr;simp only [reach,List.mem_append] at hr |-;rcases hr with hr | hr
  ·exact .inl (hab r hr)
  ·refine .inr (ih _ _ ?_ r hr);intro s hs;obtain ⟨y,hy,hs⟩:=eu.1 hs;obtain ⟨z,hz,rfl⟩:=List.mem_map.1 hy;exact eu.2 ⟨_,List.mem_map.2 ⟨z,hab z hz,rfl⟩,hs⟩
theorem y5 (o1:Nat->D):∀ (k:Nat) (a:List Nat),∀ r∈reach o1 k a,r∈reach o1 (k+1) a:=by
 intro k
 induction k with
 | zero=>intro a r hr;simp only [reach];exact List.mem_append_left _ hr
 | succ k ih =>
  intro a r hr;simp only [reach,List.mem_append] at hr;rcases hr with hr | hr
  ·simp only [reach];exact List.mem_append_left _ hr
  ·show r∈a++reach o1 (k+1) _
   exact List.mem_append_right _ (ih _ r hr)
theorem CE {o1 o2:Nat->D} (x:List Nat):∀ (k:Nat) (d:D),(∀ r∈reach o1 k d.names,o1 r=o2 r)->qJ o1 x k d=qJ o2 x k d
 | 0,d,_=>rfl
 | k+1,d,h=>by
  have hself:∀ r∈d.names,o1 r=o2 r:=fun r hr=>h r (by simp only [reach];exact List.mem_append_left _ hr)
  have lst:∀ cs:List D,(∀ c∈cs,∀ r∈reach o1 k c.names,o1 r=o2 r)->cs.map (qJ o1 x k)=cs.map (qJ o2 x k):=fun cs hc=>List.map_congr_left fun c hm=>CE x k c (hc c hm)
  have sub:∀ cs:List D,D.cq cs=d.names->∀ c∈cs,∀ r∈reach o1 k c.names,o1 r=o2 r:=by
   intro cs e c hc r hr;refine h r (y5 o1 k _ r (vX o1 k _ _ ?_ r hr));intro s hs;rw [<- e];exact eu.2 ⟨c,hc,hs⟩
  cases d<;>simp only [qJ]
  ·rw [lst _ (sub _ rfl)]
  ·rw [lst _ (sub _ rfl)]
  ·rw [lst _ (sub _ rfl)]
  ·rw [hself _ (by simp [D.names])]
  ·rename_i r off;have e1:=hself r (by simp [D.names]);rw [<- e1];congr 1;unfold nw;split
   ·rename_i cs hcs;congr 1;refine List.map_congr_left ?_;intro c hc;refine CE x k c ?_;intro s hs;refine h s ?_;simp only [reach];refine List.mem_append_right _ (vX o1 k _ _ ?_ s hs);intro t ht;refine eu.2 ⟨o1 r,List.mem_map.2 ⟨r,by simp [D.names],rfl⟩,?_⟩;rw [hcs];simp only [D.names];exact eu.2 ⟨c,List.mem_of_mem_drop hc,ht⟩
   ·rfl
  ·rw [hself _ (by simp [D.names])]
  ·rw [hself _ (by simp [D.names])]
  ·rw [hself _ (by simp [D.names])]
theorem GZ {o1 o2:Nat->D} (bw:Bool):∀ (k:Nat) (d:D),(∀ r∈reach o1 k d.names,o1 r=o2 r)->conv bw [] o1 k d=conv bw [] o2 k d
 | 0,d,_=>rfl
 | k+1,d,h=>by
  have lst:∀ cs:List D,(∀ c∈cs,∀ r∈reach o1 k c.names,o1 r=o2 r)->cs.map (conv bw [] o1 k)=cs.map (conv bw [] o2 k):=fun cs hc=>List.map_congr_left fun c hm=>GZ bw k c (hc c hm)
  have sub:∀ cs:List D,D.cq cs=d.names->∀ c∈cs,∀ r∈reach o1 k c.names,o1 r=o2 r:=by
   intro cs e c hc r hr;refine h r (y5 o1 k _ r (vX o1 k _ _ ?_ r hr));intro s hs;rw [<- e];exact eu.2 ⟨c,hc,hs⟩
  have hb:qJ o1 [] k d=qJ o2 [] k d:=CE [] k d fun r hr=>h r (y5 o1 k _ r hr)
  cases d<;>simp only [conv]
  ·rw [lst _ (sub _ rfl)]
  ·rw [lst _ (sub _ rfl)]
  ·rw [lst _ (sub _ rfl)]
  all_goals rw [hb]
theorem R9 {l:rM} {d:D} (h:∀ r∈d.names,e.o r=e2.o r):WD e l d=WD e2 l d/\(JY e l d ↔ JY e2 l d):=by
 cases d<;>simp only [WD,JY]<;>(try exact ⟨trivial,trivial⟩)<;>(try exact ⟨trivial,Iff.rfl⟩)
 all_goals (rw [h _ (by simp [D.names])];exact ⟨rfl,Iff.rfl⟩)
theorem OJ {t:Ty} {d:D} (h:∀ r∈d.names,e.o r=e2.o r):Kz e t d=Kz e2 t d/\(zO e t d ↔ zO e2 t d):=by
 have h1:TY e d=TY e2 d:=by
  cases d<;>simp only [TY];rw [h _ (by simp [D.names])]
 have h2:EA e d ↔ EA e2 d:=by
  cases d<;>simp only [EA];rw [h _ (by simp [D.names])]
 unfold Kz zO;rw [h1,h2];exact ⟨rfl,Iff.rfl⟩
theorem Sg {t:Ty} {d i:D} (h:∀ r∈d.names,e.o r=e2.o r):S9 e t d i=S9 e2 t d i/\(MI e t d i ↔ MI e2 t d i):=by
 cases d<;>cases i<;>simp only [S9,MI]<;>(try exact ⟨trivial,trivial⟩)<;>(try exact ⟨trivial,Iff.rfl⟩);rw [h _ (by simp [D.names])];exact ⟨trivial,Iff.rfl⟩
theorem SD {t:Ty} {d:D} (h:Mi e t d=Mi e2 t d):YD e t d=YD e2 t d:=by
 cases d<;>first | exact h | (cases t<;>rfl)
theorem RK {t:Ty} {d:D} (h:∀ r∈d.names,e.o r=e2.o r):Mi e t d=Mi e2 t d/\∀ l m,Tu e t d l m=Tu e2 t d l m:=by
 by_cases hd:∃ r,d=.ref r
 ·obtain ⟨r,rfl⟩:=hd;have hr:=h r (by simp [D.names]);exact ⟨by cases t<;>simp [Mi,hr],fun l m=>by simp [Tu,hr]⟩
 ·refine ⟨?_,fun l m=>?_⟩
  ·cases d<;>first | exact (hd ⟨_,rfl⟩).elim | (cases t<;>rfl)
  ·cases d<;>first | exact (hd ⟨_,rfl⟩).elim | (cases t<;>rfl)
theorem FU (h:agree np ops o e e2) (hk:Dj np ops o (cQ e o)) (hn:∀ c f,o.op=.call c->c.callee≠.value f):gO P e o.op=gO P e2 o.op/\(dK P e o.op ↔ dK P e2 o.op):=by
 have hr:∀ x,x∈o.op.operands.toList->rd e x=rd e2 x:=fun x hx=>h.rd hx
 have hob:∀ r∈cQ e o,e.o r=e2.o r:=fun r hr=>h.obj hk hr
 cases hop:o.op<;>simp only [gO,dK]<;>(try exact ⟨rfl,Iff.rfl⟩)<;>(try exact ⟨trivial,trivial⟩)<;>rw [hop] at hr<;>simp only [cQ,hop] at hob<;>simp only [Op.operands] at hr
 case move x=>rw [hr x (by simp)];exact ⟨rfl,trivial⟩
 case assign x=>rw [hr x (by simp)];exact ⟨rfl,trivial⟩
 case pick c a b=>rw [hr c (by simp),hr a (by simp),hr b (by simp)];exact ⟨rfl,Iff.rfl⟩
 case binOp op t x y yt=>rw [hr x (by simp),hr y (by simp)];exact ⟨rfl,Iff.rfl⟩
 case unOp op t x=>rw [hr x (by simp)];exact ⟨rfl,Iff.rfl⟩
 case convert s d x=>rw [hr x (by simp)];exact ⟨rfl,Iff.rfl⟩
 case fieldAddr t x f=>rw [hr x (by simp)];exact ⟨rfl,Iff.rfl⟩
 case field t x f=>rw [hr x (by simp)];exact ⟨rfl,Iff.rfl⟩
 case indexAddr t x i =>
  have:=Sg (t:=bR P t) (i:=rd e i) hob;rw [<- hr x (by simp),<- hr i (by simp),this.1,this.2];exact ⟨rfl,Iff.rfl⟩
 case index t x i=>rw [hr x (by simp),hr i (by simp)];exact ⟨rfl,Iff.rfl⟩
 case load t a =>
  rw [<- hr a (by simp)];cases bX P t with
  | none=>exact ⟨rfl,Iff.rfl⟩
  | some l=>simp only;exact R9 hob
 case nilCheck x=>rw [hr x (by simp)];exact ⟨rfl,Iff.rfl⟩
 case extract x i=>rw [hr x (by simp)];exact ⟨rfl,Iff.rfl⟩
 case build t parts =>
  have hb:dG P e t parts.toList=dG P e2 t parts.toList:=by
   unfold dG
   have hp:∀ x∈parts.toList,rd e x.2=rd e2 x.2:=by
    intro x hx;refine hr x.2 ?_;simp only [List.mem_map];exact ⟨x,hx,rfl⟩
   split
   ·refine List.map_congr_left ?_;intro x hx;rw [hp x hx]
   ·refine List.map_congr_left ?_;intro x hx;rw [hp x hx]
   ·rfl
  unfold D3;rw [hb];exact ⟨rfl,Iff.rfl⟩
 case slice t x lo hi mx =>
  have h1:=hr x (by simp)
  have h2:∀ d,J6 e d lo=J6 e2 d lo:=by
   intro d;cases lo with
   | none=>rfl
   | some o=>exact hr o (by simp)
  have h3:∀ d,J6 e d hi=J6 e2 d hi:=by
   intro d;cases hi with
   | none=>rfl
   | some o=>exact hr o (by simp)
  have h4:=RK (t:=bR P t) hob;cases mx with
  | none =>
   simp only [gO,dK,slV,UG];rw [<- h1,h2,h3,h4.1,SD h4.1];refine ⟨?_,Iff.rfl⟩;split
   ·exact h4.2 _ _
   ·rfl
  | some m =>
   have h5:=hr m (by simp);cases lo<;>cases hi<;>simp only [gO,dK]<;>(try exact ⟨trivial,trivial⟩)<;>(try exact ⟨trivial,Iff.rfl⟩);rename_i hh;rw [h1,h5,hr hh (by simp)];exact ⟨trivial,Iff.rfl⟩
 case makeFunc fn first caps =>
  cases fn<;>simp only [gO,dK]<;>(try exact ⟨trivial,trivial⟩)<;>(try exact ⟨trivial,Iff.rfl⟩);refine ⟨?_,trivial⟩;congr 1;refine List.map_congr_left ?_;intro x hx;exact hr x (by simp [hx])
 case call c =>
  have h1:∀ x∈c.args.toList,rd e x=rd e2 x:=fun x hx=>hr x (by simp only [Call.operands,Array.toList_append,List.mem_append];exact .inr hx)
  have h2:c.args.toList.map (rd e)=c.args.toList.map (rd e2):=List.map_congr_left h1;have hcv:∀ f,c.callee≠.value f:=fun f=>hn c f hop
  split
  ·rename_i hcal hargs _;rw [hcal] at hob;simp only [hargs,List.map_cons,List.map_nil,D.cq,List.append_nil] at hob;have:=h1 _ (by rw [hargs];exact List.mem_singleton.2 rfl);rw [<- this];exact OJ hob
  ·rw [h2];exact ⟨rfl,Iff.rfl⟩
  ·rw [h2];exact ⟨rfl,Iff.rfl⟩
  ·exact ⟨rfl,Iff.rfl⟩
theorem Pf (h:agree np ops o e e2):tD ops e o.guard=tD ops e2 o.guard:=by
 unfold tD;cases hg:o.guard with
 | none=>rfl
 | some p =>
  obtain ⟨j,w⟩:=p;simp only;cases hd:tj ops j with
  | none=>rfl
  | some t =>
   simp only [rd];rw [h.1 t (by simp [rdT,hg,hd])]
theorem L1 {d:Nat} {hs':List D} (h16:hs'.length<=16) {r:Nat} (h:r∈lp d 0 (hs'.length-([]:List Nat).length)):r∈JF d:=by
 obtain ⟨j,_,h2,rfl⟩:=vS h;simp only [JF,List.mem_map,List.mem_range];exact ⟨j,by simp at h2;omega,rfl⟩
def Splits (P:Program) (n np:Nat) (ops:List Oper) (o:Oper) (e:Env) (g:Bool) (K:Env->Prop):Prop:=
 ∃ ft fo:Nat->Option D,(∀ s d,ft s=some d->s∈wrT o)/\(∀ s d,fo s=some d->s∈QE np ops o)/\K (JN ft fo e) /\
  ∀ e2,agree np ops o e e2->∀ K2:Env->Prop,K2 (JN ft fo e2)->kV P n true o e2 g K2
theorem Rc (hh:hard o=false) {g:Bool} {K:Env->Prop} (hk:g=true->Dj np ops o (cQ e o)) (h:kV P n true o e g K):Splits P n np ops o e g K:=by
 have hopK:∀ e K,kV P n true o e g K=iW P n true o e g K:=fun e K=>by simp [kV,hh]
 rw [hopK] at h
 have one_mem:∀ (d:Nat) (x:D),o.dst=some d->∀ s y,one d x s=some y->s∈wrT o:=by
  intro d x hd s y hy;unfold one at hy;split at hy
  ·rename_i e;subst e;simp [wrT,hd]
  ·cases hy
 have no_mem:∀ s (y:D),pN s=some y->s∈QE np ops o:=fun s y h=>by cases h
 -- a step that only sets its slot
 have simple:∀ (d:Nat) (x:D),o.dst=some d->K (dD e d x)->(∀ e2,agree np ops o e e2->∀ K2:Env->Prop,K2 (dD e2 d x)->kV P n true o e2 g K2)->Splits P n np ops o e g K:=by
  intro d x hd hK hh;refine ⟨one d x,pN,one_mem d x hd,no_mem,by rw [<- P9];exact hK,?_⟩;intro e2 hag K2 hK2;exact hh e2 hag K2 (by rw [P9];exact hK2)
 -- a step that makes one object
 have maker:∀ (d:Nat) (x y:D),o.dst=some d->makes o.op=true->K (dD (eG e (nm d 0) y) d x)->(∀ e2,agree np ops o e e2->∀ K2:Env->Prop,K2 (dD (eG e2 (nm d 0) y) d x)->kV P n true o e2 g K2)->Splits P n np ops o e g K:=by
  intro d x y hd hm hK hh;refine ⟨one d x,one (nm d 0) y,one_mem d x hd,?_,by rw [<- TB];exact hK,?_⟩
  ·intro s z hz;unfold one at hz;split at hz
   ·rename_i e;subst e;simp only [QE,hd,hm,if_true];exact List.mem_append_left _ (by simp only [JF,List.mem_map,List.mem_range];exact ⟨0,by omega,rfl⟩)
   ·cases hz
  ·intro e2 hag K2 hK2;exact hh e2 hag K2 (by rw [TB];exact hK2)
 have hfr:∀ (d:Nat),o.dst=some d->makes o.op=true->∀ e2,agree np ops o e e2->∀ r∈JF d,e.o r=e2.o r:=by
  intro d hd hm e2 hag r hr;refine hag.2 r (.inr (.inl ?_));simp only [QE,hd,hm,if_true];exact List.mem_append_left _ hr
 have h0:∀ d,nm d 0∈JF d:=fun d=>by simp only [JF,List.mem_map,List.mem_range];exact ⟨0,by omega,rfl⟩
 cases hd:o.dst with
 | none =>
  cases hop:o.op<;>simp only [iW,hop,hd] at h<;>try exact h.elim
  rename_i t a x;obtain ⟨hg,h⟩:=h;have hk':=hk hg;simp only [Norm] at h;have hra:∀ e2,agree np ops o e e2->rd e a=rd e2 a/\rd e x=rd e2 x:=fun e2 hag=>⟨hag.rd (by simp [hop,Op.operands]),hag.rd (by simp [hop,Op.operands])⟩
  have hin:∀ r∈(rd e a).names,r∈QE np ops o:=by
   intro r hr;have:=Cj hk' r (by simp only [cQ,hop];exact hr);unfold yX at this;rw [hop] at this;exact List.contains_iff_mem.1 this
  have je:∀ (r:Nat) (y:D),r∈(rd e a).names->K (eG e r y)->(∀ e2,agree np ops o e e2->∀ K2:Env->Prop,K2 (eG e2 r y)->kV P n true o e2 g K2)->Splits P n np ops o e g K:=by
   intro r y hr hK hh;refine ⟨pN,one r y,(fun s d h=>by cases h),?_,(by rw [<- PD];exact hK),?_⟩
   ·intro s z hz;unfold one at hz;split at hz
    ·rename_i e;subst e;exact hin _ hr
    ·cases hz
   ·intro e2 hag K2 hK2;exact hh e2 hag K2 (by rw [PD];exact hK2)
  unfold Sl at h;cases ha:rd e a<;>rw [ha] at h<;>try exact h.elim
  ·rename_i r off;simp only at h;unfold StB at h;cases ho:e.o r<;>rw [ho] at h<;>try exact h.elim
   rename_i cs;simp only at h;cases hl:bX P t with
   | none=>rw [hl] at h;exact h.elim
   | some l =>
    rw [hl] at h;obtain ⟨q1,q2,q3,hK⟩:=h;refine je r _ (by rw [ha];simp [D.names]) hK ?_;intro e2 hag K2 hK2;obtain ⟨ea,ex⟩:=hra e2 hag;have er:e.o r=e2.o r:=hag.2 r (.inr (.inl (hin r (by rw [ha];simp [D.names]))));simp only [hopK,iW,hop,hd,Norm];refine ⟨hg,?_⟩;rw [<- ea,<- ex,ha];simp only [Sl];rw [<- er,ho];simp only [StB,hl];exact ⟨q1,q2,q3,hK2⟩
  ·rename_i r z i k;simp only at h;unfold StO at h;cases ho:e.o r<;>rw [ho] at h<;>try exact h.elim
   rename_i z' rows;simp only at h;cases hl:bX P t with
   | none=>rw [hl] at h;exact h.elim
   | some l =>
    rw [hl] at h;obtain ⟨q1,q2,q3,q4,q5,hK⟩:=h;refine je r _ (by rw [ha];simp [D.names]) hK ?_;intro e2 hag K2 hK2;obtain ⟨ea,ex⟩:=hra e2 hag;have er:e.o r=e2.o r:=hag.2 r (.inr (.inl (hin r (by rw [ha];simp [D.names]))));simp only [hopK,iW,hop,hd,Norm];refine ⟨hg,?_⟩;rw [<- ea,<- ex,ha];simp only [Sl];rw [<- er,ho];simp only [StO,hl];exact ⟨q1,q2,q3,q4,q5,hK2⟩
 | some d =>
  have pureCase:(∀ c f,o.op=.call c->c.callee≠.value f)->(∀ e' K',kV P n true o e' g K' ↔ (d < n/\fm g (dK P e' o.op) (gO P e' o.op) fun u=>K' (dD e' d u)))->Splits P n np ops o e g K:=by
   intro hn heq;obtain ⟨hdn,hok,hK⟩:=(heq e K).1 (by rw [hopK];exact h);refine simple d _ hd hK ?_;intro e2 hag K2 hK2;refine (heq e2 K2).2 ⟨hdn,?_,?_⟩
   ·intro hg;exact (FU (P:=P) hag (hk hg) hn).2.1 (hok hg)
   ·cases g with
    | false=>exact hK2
    | true =>
     have:=(FU (P:=P) hag (hk rfl) hn).1;simp only [gd,if_true] at hK2 |-;rw [<- this];exact hK2
  cases hop:o.op
  case box T x =>
   simp only [iW,hop,hd] at h;obtain ⟨hg,hdn,q1,q2,hK⟩:=h;refine maker d _ _ hd (by rw [hop];rfl) hK ?_;intro e2 hag K2 hK2;simp only [hopK,iW,hop,hd,Norm];refine ⟨hg,hdn,?_⟩;rw [<- hag.rd (by simp [hop,Op.operands]:x∈o.op.operands.toList)];exact ⟨q1,by rw [<- hfr d hd (by rw [hop];rfl) e2 hag _ (h0 d)];exact q2,hK2⟩
  case alloc T =>
   simp only [iW,hop,hd] at h;obtain ⟨hg,hdn,h⟩:=h;cases hz:cK P T with
   | none=>rw [hz] at h;exact h.elim
   | some z =>
    rw [hz] at h;obtain ⟨q2,hK⟩:=h;refine maker d _ _ hd (by rw [hop];rfl) hK ?_;intro e2 hag K2 hK2;simp only [hopK,iW,hop,hd,hz];exact ⟨hg,hdn,by rw [<- hfr d hd (by rw [hop];rfl) e2 hag _ (h0 d)];exact q2,hK2⟩
  case buildSlice t len parts =>
   simp only [iW,hop,hd] at h;obtain ⟨hdn,h⟩:=h;have hp:∀ e2,agree np ops o e e2->∀ x∈parts.toList,rd e x.2=rd e2 x.2:=fun e2 hag x hx=>hag.rd (by simp only [hop,Op.operands,Array.toList_map,List.mem_map];exact ⟨x,hx,rfl⟩)
   have hbn:∀ e2,agree np ops o e e2->vV e parts.toList=vV e2 parts.toList:=by
    intro e2 hag;unfold vV;congr 1;exact List.map_congr_left fun x hx=>hp e2 hag x hx
   cases g with
   | false =>
    refine simple d _ hd (h.2 rfl) ?_;intro e2 hag K2 hK2;simp only [hopK,iW,hop,hd];exact ⟨hdn,fun h=>(Bool.false_ne_true h).elim,fun _=>hK2⟩
   | true =>
    obtain ⟨hnil,hb⟩:=h.1 rfl;have hnil:=hnil trivial;rw [hnil] at hb;simp only [fM] at hb;unfold Ss at hb;split at hb<;>try exact hb.elim
    rename_i z by_ ea zc hT hzc;obtain ⟨q1,q2,q3,q4,q5,hK⟩:=hb;refine maker d _ _ hd (by rw [hop];rfl) hK ?_;intro e2 hag K2 hK2;have hbs:∀ z,ld e z parts.toList=ld e2 z parts.toList:=fun z=>List.map_congr_left fun x hx=>by rw [hp e2 hag x hx]
    simp only [hopK,iW,hop,hd];refine ⟨hdn,fun _=>⟨fun _=>by rw [<- hbn e2 hag];exact hnil,?_⟩,fun h=>by cases h⟩;rw [<- hbn e2 hag,hnil];simp only [fM,Ss,hT,hzc];simp only [D7,<- hbs] at q3 q4 |-;exact ⟨q1,q2,q3,q4,by rw [<- hfr d hd (by rw [hop];rfl) e2 hag _ (h0 d)];exact q5,hK2⟩
  case makeSlice t l c =>
   simp only [iW,hop,hd] at h;obtain ⟨hdn,h⟩:=h;cases g with
   | false =>
    refine simple d _ hd (h.2 rfl) ?_;intro e2 hag K2 hK2;simp only [hopK,iW,hop,hd];exact ⟨hdn,fun h=>(Bool.false_ne_true h).elim,fun _=>hK2⟩
   | true =>
    have hm:=h.1 rfl;unfold Td at hm;split at hm<;>try exact hm.elim
    rename_i z by_ ea k1 n1 k2 m1 zc hT hl hc hzc;obtain ⟨q1,q2,q3,q4,q5,q6,q7,hK⟩:=hm;refine maker d _ _ hd (by rw [hop];rfl) hK ?_;intro e2 hag K2 hK2;simp only [hopK,iW,hop,hd];refine ⟨hdn,fun _=>?_,fun h=>by cases h⟩;rw [<- hag.rd (by simp [hop,Op.operands]:l∈o.op.operands.toList),<- hag.rd (by simp [hop,Op.operands]:c∈o.op.operands.toList),hl,hc];simp only [Td,hT,hzc];exact ⟨q1,q2,q3,q4,q5,q6,by rw [<- hfr d hd (by rw [hop];rfl) e2 hag _ (h0 d)];exact q7,hK2⟩
  case call c =>
   cases hcal:c.callee with
   | invoke r m=>simp only [iW,hop,hd,hcal] at h;exact h.2.elim
   | builtin b =>
    by_cases hb:b=.append
    ·subst hb;simp only [iW,hop,hd,hcal] at h;exact (Bool.false_ne_true h.2.2.1.symm).elim
    ·refine pureCase (fun c' f' e' hf=>by rw [hop] at e';cases e';rw [hcal] at hf;cases hf) ?_;intro e' K';simp only [hopK,iW,hop,hd,hcal]
   | value f =>
    simp only [iW,hop,hd,hcal] at h;obtain ⟨hdn,h⟩:=h;cases g with
    | false =>
     refine simple d _ hd (h.2 rfl) ?_;intro e2 hag K2 hK2;simp only [hopK,iW,hop,hd,hcal];exact ⟨hdn,fun h=>(Bool.false_ne_true h).elim,fun _=>hK2⟩
    | true =>
     obtain ⟨fz,gs,bw,hs',dv,hdr,hc⟩:=(h.1 rfl).elim id (fun h=>(Bool.false_ne_true h.1.symm).elim);obtain ⟨rfl,rfl⟩:=hdr rfl;simp only [fM] at hc;unfold AN at hc;split at hc<;>try exact hc.elim
     rename_i k caps hf;obtain ⟨q1,q2,q3,q4,q5,q6,q7⟩:=hc;have q7:=q7.drawn;have hm:makes o.op=true:=by rw [hop];simp [makes,hcal]
     have hns:∀ r∈gh d [] hs',r∈JF d:=fun r hr=>L1 (by simpa using q4.2) (by simpa [gh] using hr)
     have hob:=hk rfl;simp only [cQ,hop,hcal] at hob;refine ⟨one d (dv.jI (N0 (gh d [] hs'))),GN (N0 (gh d [] hs')) (gh d [] hs') hs',one_mem d _ hd,?_,by rw [<- Js];exact q7,?_⟩
     ·intro s x hx;simp only [QE,hd,hm,if_true];exact List.mem_append_left _ (hns s (Ns hx))
     ·intro e2 hag K2 hK2
      have hob2:∀ r∈reach e.o 4 (D.cq (rd e f :: c.args.toList.map (rd e))),e.o r=e2.o r:=by
       intro r hr;have:=hag.obj (hk rfl) (r:=r) (by simp only [cQ,hop,hcal];exact hr);exact this
      have hf2:rd e f=rd e2 f:=hag.rd (by simp [hop,Op.operands,Call.operands,hcal]);have ha2:c.args.toList.map (rd e)=c.args.toList.map (rd e2):=List.map_congr_left fun x hx=>hag.rd (by simp only [hop,Op.operands,Call.operands,Array.toList_append,List.mem_append];exact .inr hx)
      simp only [hopK,iW,hop,hd,hcal];refine ⟨hdn,fun _=>.inl ⟨[],[],bw,hs',dv,fun _=>⟨rfl,rfl⟩,?_⟩,fun h=>by cases h⟩;simp only [fM];rw [<- hf2,hf];simp only [AN];refine ⟨q1,(fun r hr=>by cases hr),?_,q4,q5,?_,(.inl (by rw [Js];exact hK2))⟩
      ·intro r hr;rw [<- hfr d hd hm e2 hag r (L1 (by simpa using q4.2) hr)];exact q3 r hr
      ·rw [<- ha2]
       have:((c.args.toList.map (rd e)++caps).map (conv bw [] e2.o 4))=(c.args.toList.map (rd e)++caps).map (conv bw [] e.o 4):=by
        refine List.map_congr_left ?_;intro x hx;refine (GZ bw 4 x ?_).symm;intro r hr;refine hob2 r (vX e.o 4 _ _ ?_ r hr);intro s hs;rw [hf];simp only [D.cq,D.names,List.mem_append];rcases List.mem_append.1 hx with hx | hx
        ·exact .inr (eu.2 ⟨x,hx,hs⟩)
        ·exact .inl (eu.2 ⟨x,hx,hs⟩)
       rw [this];exact q6
  all_goals
   refine pureCase (fun c' f' e' hf=>by rw [hop] at e';cases e') ?_;intro e' K';simp only [hopK,iW,hop,hd]
theorem W8 {o:Oper} (hh:kE o=false):hard o=false:=by
 unfold kE at hh;cases h:hard o with
 | false=>rfl
 | true=>rw [h] at hh;simp at hh
theorem C1 (hh:kE o=false) {K:Env->Prop} (h:gE P n np ops o e K) :
  ∃ ft fo:Nat->Option D,(∀ s d,ft s=some d->s∈wrT o)/\(∀ s d,fo s=some d->s∈QE np ops o)/\K (JN ft fo e) /\
   ∀ e2,agree np ops o e e2->∀ K2:Env->Prop,K2 (JN ft fo e2)->gE P n np ops o e2 K2:=by
 unfold gE at h;cases hg:tD ops e o.guard with
 | none=>rw [hg] at h;exact h.elim
 | some g =>
  rw [hg] at h;simp only [hh,Bool.false_eq_true,if_false] at h;obtain ⟨hk,h⟩:=h;obtain ⟨ft,fo,h1,h2,h3,h4⟩:=Rc (W8 hh) hk h;refine ⟨ft,fo,h1,h2,h3,fun e2 hag K2 hK2=>?_⟩;unfold gE;rw [<- Pf hag,hg];simp only [hh,Bool.false_eq_true,if_false];refine ⟨fun hgt=>?_,h4 e2 hag K2 hK2⟩
  -- what is reached is the same
  have hk':=hk hgt
  have:cQ e2 o=cQ e o:=by
   have hr:∀ x,x∈o.op.operands.toList->rd e x=rd e2 x:=fun x hx=>hag.rd hx
   unfold cQ;cases hop:o.op<;>rw [hop] at hr<;>simp only [Op.operands] at hr<;>try rfl
   case load t a=>simp only;rw [hr a (by simp)]
   case store t a x=>simp only;rw [hr a (by simp)]
   case indexAddr t x i=>simp only;rw [hr x (by simp)]
   case slice t x lo hi mx=>simp only;rw [hr x (by simp)]
   case call c =>
    have h2:c.args.toList.map (rd e)=c.args.toList.map (rd e2):=List.map_congr_left fun x hx=>hr x (by simp only [Call.operands,Array.toList_append,List.mem_append];exact .inr hx)
    cases hcal:c.callee with
    | builtin b=>simp only [hcal];rw [h2]
    | invoke r m=>simp only [hcal];rw [h2]
    | value f =>
     simp only [hcal];rw [hr f (by simp [Call.operands,hcal]),h2]
     -- reached objects hold the same
     have key:∀ (k:Nat) (ns:List Nat),(∀ r∈reach e.o k ns,e.o r=e2.o r)->reach e2.o k ns=reach e.o k ns:=by
      intro k
      induction k with
      | zero=>intro ns _;rfl
      | succ k ih =>
       intro ns hh;simp only [reach] at hh |-;have e1:ns.map e2.o=ns.map e.o:=List.map_congr_left fun r hr=>(hh r (List.mem_append_left _ hr)).symm
       rw [e1,ih _ fun r hr=>hh r (List.mem_append_right _ hr)]
     refine key 4 _ ?_;intro r hr';refine hag.obj hk' (r:=r) ?_;simp only [cQ,hop,hcal];rw [hr f (by simp [Call.operands,hcal]),h2];exact hr'
  rw [this];exact hk'
theorem M0 {x:Oper} (hx:x∈ops) {r:Nat} (hr:r∈QE np ops x):r∈aaB np ops:=List.mem_flatMap.2 ⟨x,hx,hr⟩
theorem UM {ft fo ft2 fo2:Nat->Option D} (h1:∀ s d d2,ft s=some d->ft2 s=some d2->False) (h2:∀ s d d2,fo s=some d->fo2 s=some d2->False) (e:Env):JN ft fo (JN ft2 fo2 e)=JN ft2 fo2 (JN ft fo e):=by
 simp only [JN,Env.mk.injEq];refine ⟨?_,?_⟩<;>funext j
 ·cases hf:ft j<;>cases hg:ft2 j<;>simp;exact (h1 j _ _ hf hg).elim
 ·cases hf:fo j<;>cases hg:fo2 j<;>simp;exact (h2 j _ _ hf hg).elim
theorem Oj {x y:Oper} (hhx:kE x=false) (hhy:kE y=false) (hxo:x∈ops) (hyo:y∈ops) {K:Env->Prop} (ha:Ep np ops x y=true) (h:gE P n np ops x e fun e1=>gE P n np ops y e1 K) :
  gE P n np ops y e fun e2=>gE P n np ops x e2 K:=by
 obtain ⟨ft,fo,h1,h2,h3,hx⟩:=C1 hhx h;obtain ⟨gt,go,k1,k2,k3,hy⟩:=C1 hhy h3;simp only [Ep,Bool.and_eq_true,List.all_eq_true,Bool.not_eq_true',List.contains_eq_mem,decide_eq_false_iff_not] at ha;obtain ⟨⟨⟨a1,a2⟩,a3⟩,a4⟩:=ha;refine hy e ⟨?_,?_⟩ _ ?_
 ·intro s hs
  show (ft s).getD (e.t s)=e.t s
  cases hf:ft s with
  | none=>rfl
  | some d=>exact ((a1 s (h1 s d hf)).1 hs).elim
 ·intro r hr
  show (fo r).getD (e.o r)=e.o r
  cases hf:fo r with
  | none=>rfl
  | some d =>
   have hw:=h2 r d hf;rcases hr with hr | hr | hr
   ·exact ((a3 r hw).1 hr).elim
   ·exact ((a3 r hw).2 hr).elim
   ·exact (hr (M0 hxo hw)).elim
 ·refine hx _ ⟨?_,?_⟩ _ ?_
  ·intro s hs
   show e.t s=(gt s).getD (e.t s)
   cases hf:gt s with
   | none=>rfl
   | some d=>exact (a2 s (k1 s d hf) hs).elim
  ·intro r hr
   show e.o r=(go r).getD (e.o r)
   cases hf:go r with
   | none=>rfl
   | some d =>
    have hw:=k2 r d hf;rcases hr with hr | hr | hr
    ·exact (a4 r hw hr).elim
    ·exact ((a3 r hr).2 hw).elim
    ·exact (hr (M0 hyo hw)).elim
  ·rw [UM]
   ·exact k3
   ·intro s d d2 e1 e2';exact (a1 s (h1 s d e1)).2 (k1 s d2 e2')
   ·intro s d d2 e1 e2';exact (a3 s (h2 s d e1)).2 (k2 s d2 e2')
theorem Es {K K':Env->Prop} (h:gE P n np ops o e K) (hk:∀ e,K e->K' e):gE P n np ops o e K':=by
 unfold gE at h |-;cases hg:tD ops e o.guard with
 | none=>rw [hg] at h;exact h.elim
 | some g =>
  rw [hg] at h;simp only at h |-;split at h
  ·rename_i hh;rw [if_pos hh];split at h
   ·rename_i ha;rw [if_pos ha];exact BV hk h
   ·rename_i ha;rw [if_neg ha];exact uU hk h
  ·rename_i hh;rw [if_neg hh];exact ⟨h.1,uU hk h.2⟩
theorem SJ {x y:Oper} {K:Env->Prop} (hm:Ni x y=true) (h:gE P n np ops x e fun e1=>gE P n np ops y e1 K):gE P n np ops y e fun e2=>gE P n np ops x e2 K:=by
 unfold Ni at hm;split at hm<;>try cases hm
 rename_i u dx hop hdst hgu;simp only [Bool.and_eq_true,Bool.not_eq_true',Option.isNone_iff_eq_none,bne_iff_ne] at hm;obtain ⟨⟨⟨⟨ha,hg⟩,hc⟩,hd1⟩,hd2⟩:=hm;have hx0:kE x=false:=by simp [kE,hard,isApp,Ol,hop]
 have hy1:kE y=true:=by simp [kE,ha]
 have hxh:hard x=false:=by simp [hard,hop]
 have ex:∀ (e:Env) (K:Env->Prop),gE P n np ops x e K ↔ (dx < n/\K (dD e dx (e.t u))):=by
  intro e K;have hob:cQ e x=[]:=by simp [cQ,hop]
  simp only [gE,hgu,tD,hx0,Bool.false_eq_true,if_false,Vr,hob,Dj,kV,hxh,iW,hop,hdst,fm,dK,gO,gd,if_true,rd];simp
 have ey:∀ (e:Env) (K:Env->Prop),gE P n np ops y e K ↔ Bo P n y e true K:=by
  intro e K;simp only [gE,hg,tD,hy1,ha,if_true]
 rw [ex] at h;rw [ey] at h |-;refine BV ?_ (SO hc hd1 hd2 h.2);intro e2 h2;rw [ex];exact ⟨h.1,h2⟩
def mC (P:Program) (n np:Nat) (ops:Array Oper):List Nat->Env->(Env->Prop)->Prop
 | [],e,K=>K e
 | i :: r,e,K=>match ops[i]? with
  | some o=>gE P n np ops.toList o e fun e'=>mC P n np ops r e' K
  | none=>mC P n np ops r e K
theorem Au {ops:Array Oper} {i:Nat} {y:Oper} (hy:ops[i]?=some y):∀ (pre post:List Nat) (e:Env) (K:Env->Prop),(∀ j∈pre,∀ x,ops[j]?=some x->(kE x=false/\kE y=false/\Ep np ops.toList x y=true)\/Ni x y=true) ->
  mC P n np ops (pre++i :: post) e K->mC P n np ops (i :: (pre++post)) e K
 | [],_,_,_,_,h=>h
 | j :: pre,post,e,K,ha,h=>by
  simp only [List.cons_append,mC] at h |-;have ih:=fun e'=>Au hy pre post e' K (fun k hk=>ha k (List.mem_cons_of_mem _ hk))
  simp only [hy];cases hj:ops[j]? with
  | none =>
   rw [hj] at h;have:=ih e h;simp only [mC,hy] at this;simpa [hj] using this
  | some x =>
   rw [hj] at h;simp only at h |-
   have h2:gE P n np ops.toList x e fun e1=>gE P n np ops.toList y e1 fun e'=>mC P n np ops (pre++post) e' K:=by
    refine Es h ?_;intro e' h';have:=ih e' h';simpa only [mC,hy] using this
   have mem:∀ {k:Nat} {z:Oper},ops[k]?=some z->z∈ops.toList:=by
    intro k z hz;exact List.mem_of_getElem? (i:=k) (by simpa using hz)
   rcases ha j (by simp) x hj with ⟨a1,a2,a3⟩ | ha
   ·exact Oj a1 a2 (mem hj) (mem hy) a3 h2
   ·exact SJ ha h2
theorem zX {ops:Array Oper}:∀ (l:List Oper) (k:Nat) (e:Env) (K:Env->Prop),ops.toList.drop k=l->lG P n np ops.toList l e K->mC P n np ops (List.range' k l.length) e K
 | [],_,_,_,_,h=>h
 | o :: l,k,e,K,hd,h=>by
  have hk:ops[k]?=some o:=by
   have:(ops.toList.drop k)[0]?=some o:=by rw [hd];rfl
   rw [List.getElem?_drop] at this;simpa using this
  have hd':ops.toList.drop (k+1)=l:=by
   rw [<- List.drop_drop,hd];rfl
  simp only [List.length_cons,List.range'_succ,mC,hk];refine Es h ?_;intro e' h';exact zX l (k+1) e' K hd' h'
end
end Go.Abs
