/- What an operation asks and leaves, as one predicate on the data of the slots and objects. No theorem of a claim. -/
import Derived.Test.YtnkobepdbkmedaaGreatAbcLe
set_option linter.unusedSimpArgs false
set_option linter.unusedVariables false
namespace Go.Abs
def Enters (P : Program) (f : FuncId) : Prop := ∃ fn, P.funcs[f]? = some fn /\ fn.body.isSome = true /\ (fn.name == "runtime.NumGoroutine") = false
def Spec (P:Program) (f:FuncId) (hs ds hs':List D) (d:D):Prop:=
 Enters P f/\∀ (w:World) (l0:Nat->Option Nat) (G0:Nat->Option (Nat × Nat)) (own0:Nat->Option Nat) (S0:Nat->Option Value) (vs:Array Value),Xb w G0->(∀ b m,l0 b=some m->b < w.heap.size)->(∀ b lo hi,G0 b=some (lo,hi)->jL w w b lo hi)->vs.size=ds.length ->
  (∀ (i:Nat) v x,vs[i]?=some v->ds[i]?=some x->aE (cx w l0 S0) v x)->(∀ r,jO w.heap.size G0 w l0 own0 S0 r (hs.getD r .undef))->Calls P f vs w fun e w'=>∃ v,e=.returned v/\Out hs.length hs' w l0 G0 S0 w' v d
def eU (g:Bool) (ok:Prop) (v:D) (k:D->Prop):Prop:=(g=true->ok)/\k (gd g v)
def Norm (v:D) (k:D->Prop):Prop:=k v
def GK (g:Bool) (a b:Prop):Prop:=(g=true->a)/\(g=false->b)
def vX (P:Program) (e:Env) (d:Nat) (args:List Operand) (gs:List Nat) (bw:Bool) (hs':List D) (dv:D) (K:Env->Prop) (fv:D):Prop:=
 match fv with
 | .fn k caps=>gs.Nodup/\(∀ r∈gs,e.o r≠.undef)/\(∀ r∈kk d 0 (hs'.length-gs.length),e.o r=.undef)/\(gs.length<=hs'.length/\hs'.length<=gs.length+16)/\(bw=true->tV dv/\∀ h∈hs',AJ h) /\
   Spec P k (gs.map fun r=>CA bw gs e.o 4 (e.o r)) ((args.map (rd e)++caps).map (conv bw gs e.o 4)) hs' dv/\K (eI e d gs hs' dv)
 | _=>False
def KW (dr:Bool) (K:Env->Prop) (e:Env):Prop:=K e\/(dr=false/\∃ ts os,LM e ts os/\K (sq ts os))
theorem KW.mono {dr:Bool} {K K':Env->Prop} (h:∀ e,K e->K' e) (e:Env) (hk:KW dr K e):KW dr K' e:=
 hk.imp (h e) fun ⟨hd,ts,os,hl,hk⟩=>⟨hd,ts,os,hl,h _ hk⟩
theorem KW.drawn {K:Env->Prop} {e:Env} (hk:KW true K e):K e:=hk.elim id fun h=>(Bool.false_ne_true h.1.symm).elim
theorem rB {P:Program} {e:Env} {d:Nat} {args:List Operand} {gs:List Nat} {bw:Bool} {hs':List D} {dv:D} {K K':Env->Prop} {fv:D} (h:∀ e,K e->K' e) (hk:vX P e d args gs bw hs' dv K fv):vX P e d args gs bw hs' dv K' fv:=by
 unfold vX at hk |-;split at hk
 ·exact ⟨hk.1,hk.2.1,hk.2.2.1,hk.2.2.2.1,hk.2.2.2.2.1,hk.2.2.2.2.2.1,h _ hk.2.2.2.2.2.2⟩
 ·exact hk.elim
def xk (P:Program) (dr:Bool) (e:Env) (d:Nat) (f:Operand) (args:List Operand) (K:Env->Prop):Prop:=
 ∃ (fz gs:List Nat) (bw:Bool) (hs':List D) (dv:D),(dr=true->fz=[]/\gs=[])/\vX P (dN fz e) d args gs bw hs' dv (KW dr K) (rd (dN fz e) f)
def W1 (P:Program) (e:Env) (t:TypeId) (r off:Nat) (v:D) (K:Env->Prop) (ob:D):Prop:=
 match ob with
 | .box cs=>match bT P t with
  | some l=>off+l.sz<=cs.length/\v.cells.length=l.sz/\(∀ c∈v.cells,eC c)/\K (dZ e r (.box (kI cs off v.cells)))
  | none=>False
 | _=>False
def Xt (P:Program) (e:Env) (t:TypeId) (r z i k:Nat) (v:D) (K:Env->Prop) (ob:D):Prop:=
 match ob with
 | .own z' rows=>match bT P t with
  | some l=>z'=z/\i < rows.length/\k+l.sz<=z/\v.cells.length=l.sz/\(∀ c∈v.cells,dw c)/\K (dZ e r (.own z (rows.set i (kI (rows.getD i []) k v.cells))))
  | none=>False
 | _=>False
def Ob (P:Program) (e:Env) (t:TypeId) (a:D) (K:Env->Prop) (v:D):Prop:=
 match a with
 | .addr r off=>W1 P e t r off v K (e.o r)
 | .bQ r z i k=>Xt P e t r z i k v K (e.o r)
 | _=>False
def Tp (e:Env) (d:Nat) (K:Env->Prop) (v:D):Prop:=
 (∀ c∈v.cells,eC c)/\e.o (nm d 0)=.undef/\K (dj (dZ e (nm d 0) (.box v.cells)) d (.addr (nm d 0) 0))
def N6 (e:Env) (d:Nat) (K:Env->Prop) (z:Option (List D)):Prop:=
 match z with
 | some z=>e.o (nm d 0)=.undef/\K (dj (dZ e (nm d 0) (.box z)) d (.addr (nm d 0) 0))
 | none=>False
def bA (P:Program) (t:TypeId):Option (List D):=
 match P.underlying t with
 | some (.slice e)=>cK P e
 | _=>none
def kr (e:Env) (z:Nat) (parts:List (Nat × Operand)):List (Nat × Nat × D):=parts.map fun x=>(x.1*z,z,rd e x.2)
def AR (zc:List D) (e:Env) (z len:Nat) (parts:List (Nat × Operand)):List D:=
 jQ (List.replicate len zc).flatten (kr e z parts)
def Ok (e:Env) (len:Nat) (parts:List (Nat × Operand)) (d:Nat) (K:Env->Prop) (t:Ty) (zc:Option (List D)):Prop:=
 match t,zc with
 | .slice z _ _,some zc=>len*z<=2 ^ 24/\zc.length=z/\lN (len*z) (kr e z parts)/\(∀ c∈AR zc e z len parts,dw c)/\e.o (nm d 0)=.undef /\
   K (dj (dZ e (nm d 0) (.own z (rowsOf z len (AR zc e z len parts)))) d (.ref (nm d 0)))
 | _,_=>False
def tP (e:Env) (parts:List (Nat × Operand)):List Nat:=D.cg (parts.map fun x=>rd e x.2)
def E3 (z:Nat):D->Option (List (List D))
 | .sl z' rows=>if z'=z then some rows else none
 | .nil=>some []
 | .emp=>some []
 | _=>none
def Q5 (e:Env) (z by_ d:Nat) (rows2:List (List D)) (K:Env->Prop) (r:Nat) (ob:D):Prop:=
 match ob with
 | .own z' rows=>z'=z/\(by_+1)*(rows.length+rows2.length)<=2 ^ 45/\(jV r e).o (nm d 0)=.undef/\K (dj (dZ (jV r e) (nm d 0) (.own z (rows++rows2))) d (.ref (nm d 0)))
 | _=>False
def Aq (e:Env) (z by_ d:Nat) (K:Env->Prop) (v:D) (y:Option (List (List D))):Prop:=
 match v,y with
 | .nil,some rows2=>(by_+(1-by_))*rows2.length<=2 ^ 47/\e.o (nm d 0)=.undef/\K (dj (dZ e (nm d 0) (.own z rows2)) d (.ref (nm d 0)))
 | .emp,some rows2=>(by_+(1-by_))*rows2.length<=2 ^ 47/\e.o (nm d 0)=.undef/\K (dj (dZ e (nm d 0) (.own z rows2)) d (.ref (nm d 0)))
 | .ref r,some rows2=>Q5 e z by_ d rows2 K r (e.o r)
 | _,_=>False
def qM (e:Env) (d:Nat) (K:Env->Prop) (x y:D) (t t2:Ty):Prop:=
 match t,t2 with
 | .slice z by_ _,.slice _ _ _=>by_<=2 ^ 32/\Aq e z by_ d K x (E3 z (pU e.o [] 2 y))
 | _,_=>False
def Pd (e:Env) (d:Nat) (K:Env->Prop) (l c:D) (t:Ty) (zc:Option (List D)):Prop:=
 match t,l,c,zc with
 | .slice z by_ _,.int _ n,.int _ m,some zc=>0<=n/\n<=m/\m<=2 ^ 40/\by_*m<=2 ^ 47/\zc.length=z/\(∀ d∈zc,dw d)/\e.o (nm d 0)=.undef /\
   K (dj (dZ e (nm d 0) (.own z (List.replicate n.toNat zc))) d (.ref (nm d 0)))
 | _,_,_,_=>False
def Cont (n:Nat) (w0:World) (l0:Nat->Option Nat) (G:Nat->Option (Nat × Nat)) (S0:Nat->Option Value) (K:Env->Prop) (next:Act->World->Prop):Prop:=
 ∀ (e':Env) lev' own' S' w' (a':Act),a'.tmps.size=n->a'.defers=[]->Inv w0 l0 G S0 w' lev' own' S' e' (jH a'.tmps)->K e'->next a' w'
def kW (P:Program) (n:Nat) (o:Oper) (e:Env) (K:Env->Prop):Prop:=
 ∀ (w0:World) (l0:Nat->Option Nat) (G:Nat->Option (Nat × Nat)) (S0:Nat->Option Value) (w:World) (lev own:Nat->Option Nat) (S:Nat->Option Value) (a:Act) (next:Act->World->Prop) (Q:Exit->Act->World->Prop),
  Inv w0 l0 G S0 w lev own S e (jH a.tmps)->a.tmps.size=n->a.defers=[]->Cont n w0 l0 G S0 K next->o.wp P a w next Q
theorem kW.mono {P:Program} {n:Nat} {o:Oper} {e:Env} {K K':Env->Prop} (hk:∀ e,K e->K' e) (h:kW P n o e K):kW P n o e K':=
 fun w0 l0 G S0 w lev own S a next Q hi hn hd hc=>h w0 l0 G S0 w lev own S a next Q hi hn hd fun e' lev' own' S' w' a' h1 h2 h3 h4=>hc e' lev' own' S' w' a' h1 h2 h3 (hk _ h4)
def Qq:Operand->Bool
 | .const (.slice none 0 0)=>true
 | _=>false
def hard (o:Oper):Bool:=
 match o.op with
 | .call c=>(match c.callee with
  | .builtin .copy=>true
  | .builtin .clear=>true
  | .builtin .cap=>true
  | _=>false)
 | .binOp _ _ _ y _=>Qq y
 | .slice _ _ lo _ mx=>mx.isSome&&lo.isSome
 | _=>false
def BH (e:Env) (d:Nat) (K:Env->Prop) (S:Prop) (x y:D) (t t2:Ty):Prop:=
 match x,y with
 | .eD _ _ _ _ _,_=>S
 | _,.int _ _=>S
 | x,y=>qM e d K x y t t2
def iD (P:Program) (n:Nat) (dr:Bool) (o:Oper) (e:Env) (g:Bool) (K:Env->Prop):Prop:=
 match o.op,o.dst with
 | .store t a x,none=>g=true/\Norm (rd e a) fun a=>Norm (rd e x) (Ob P e t a K)
 | .box _ x,some d=>g=true/\d < n/\Norm (rd e x) (Tp e d K)
 | .alloc t,some d=>g=true/\d < n/\N6 e d K (cK P t)
 | .buildSlice t len parts,some d=>d < n/\GK g ((dr=true->tP e parts.toList=[])/\Ok (dN (tP e parts.toList) e) len parts.toList d K (bO P t) (bA P t)) (K (dj e d (.bI [])))
 | .makeSlice t l c,some d=>d < n/\GK g (Pd e d K (rd e l) (rd e c) (bO P t) (bA P t)) (K (dj e d (.bI [])))
 | .call c,some d=>d < n/\(match c.callee with
  | .builtin .append=>g=true/\dr=false/\(match c.args.toList,c.argTypes.toList with
   | [x,y],[T,T2]=>BH e d K (kW P n o e K) (rd e x) (rd e y) (bO P T) (bO P T2)
   | _,_=>False)
  | .builtin _=>eU g (dD P e o.op) (gm P e o.op) fun u=>K (dj e d u)
  | .value f=>GK g (xk P dr e d f c.args.toList K\/(dr=false/\kW P n o e K)) (K (dj e d (.bI [])))
  | .invoke _ _=>False)
 | op,some d=>d < n/\eU g (dD P e op) (gm P e op) fun u=>K (dj e d u)
 | _,none=>False
def j8 (P:Program) (n:Nat) (dr:Bool) (o:Oper) (e:Env) (g:Bool) (K:Env->Prop):Prop:=if hard o then g=true/\dr=false/\kW P n o e K else iD P n dr o e g K
def rM:List Oper->Nat->Option Tmp
 | [],_=>none
 | o :: _,0=>o.dst
 | _ :: r,n+1=>rM r n
def E7 (w:Bool):D->Option Bool
 | .bool b=>some (b==w)
 | .bI []=>some false
 | _=>none
def rY (ops:List Oper) (e:Env):Option (Nat × Bool)->Option Bool
 | none=>some true
 | some (j,w)=>match rM ops j with
  | some t=>E7 w (rd e (.tmp t))
  | none=>some false
def wpOp (P:Program) (n:Nat) (ops:List Oper) (o:Oper) (e:Env) (K:Env->Prop):Prop:=
 match rY ops e o.guard with
 | some g=>j8 P n false o e g K
 | none=>False
def wpList (P:Program) (n:Nat) (ops:List Oper):List Oper->Env->(Env->Prop)->Prop
 | [],e,K=>K e
 | o :: r,e,K=>wpOp P n ops o e fun e'=>wpList P n ops r e' K
end Go.Abs
