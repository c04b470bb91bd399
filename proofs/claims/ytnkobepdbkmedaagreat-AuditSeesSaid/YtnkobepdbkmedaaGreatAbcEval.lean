/- The predicate on data, worked out by simp: code and operations. No theorem of a claim. -/
import Derived.Test.YtnkobepdbkmedaaGreatAbcMono
set_option linter.unusedSimpArgs false
set_option linter.unusedVariables false
namespace Go.Abs
section
variable {P:Program} {n np:Nat} {ops:List Oper} {e:Env} {g dr:Bool} {K:Env->Prop} {ty:TypeId} {pos:String} {after:Array Edge} {gu:Option (Nat × Bool)} {d:Nat}
def bm (b:Bool):Bool:=b
def em (e:Env):Env:=e
def dm (d:D):D:=d
def lm {α:Type} (l:List α):List α:=l
def nk (n:Nat):Nat:=n
@[go_sem] theorem agH (b:Bool):bm b=b:=Eq.trans rfl rfl
@[go_sem] theorem agY (e:Env):em e=e:=Eq.trans rfl rfl
@[go_sem] theorem af2 (d:D):dm d=d:=Eq.trans rfl rfl
@[go_sem] theorem ahp {α:Type} (l:List α):lm l=l:=Eq.trans rfl rfl
@[go_sem] theorem agP (n:Nat):nk n=n:=Eq.trans rfl rfl
@[congr] theorem V2 {v v':D} {k:D->Prop} (h:True->v=v'):Norm v k=Norm v' k:=by rw [h trivial]
@[go_sem] theorem adY (v:D) (k:D->Prop):Norm v k=k v:=rfl
def yZ (r:Nat) (k:Nat->Prop):Prop:=k r
@[congr] theorem TJ {v v':Nat} {k:Nat->Prop} (h:True->v=v'):yZ v k=yZ v' k:=by rw [h trivial]
@[go_sem] theorem aao (v:Nat) (k:Nat->Prop):yZ v k=k v:=rfl
def uK (e:Env) (d:Nat) (K:Env->Prop) (u:D):Prop:=K (dj e d u)
def lK (P:Program) (n:Nat) (ops r:List Oper) (K:Env->Prop) (e:Env):Prop:=wpList P n ops r e K
def lKD (P:Program) (n np:Nat) (ops r:List Oper) (K:Env->Prop) (e:Env):Prop:=kQ P n np ops r e K
def oK (P:Program) (n:Nat) (o:Oper) (e:Env) (K:Env->Prop) (g:Bool):Prop:=j8 P n false o e g K
def HD (b:Bool) (x y:Prop):Prop:=if b then x else y
@[congr] theorem aa6 {b b':Bool} {x y:Prop} (h:True->b=b'):HD b x y=HD b' x y:=by rw [h trivial]
@[go_sem ↓] theorem ac2 (x y:Prop):HD true x y=x:=by simp [HD]
@[go_sem ↓] theorem aak (x y:Prop):HD false x y=y:=by simp [HD]
attribute [go_sem] Qq hard isApp LN abI jX Option.isSome_some Option.isSome_none
def oKD (P:Program) (n np:Nat) (ops:List Oper) (o:Oper) (e:Env) (K:Env->Prop) (g:Bool):Prop:=HD (jX o) (HD (isApp o) (wM P n o e g K) (j8 P n false o e g K)) (RJ P n np ops o e g K)
@[go_sem ↓] theorem afM (u:D):uK e d K u=K (dj e d u):=rfl
@[go_sem ↓] theorem agd (r:List Oper):lK P n ops r K e=wpList P n ops r e K:=rfl
@[go_sem ↓] theorem aff (r:List Oper):lKD P n np ops r K e=kQ P n np ops r e K:=rfl
@[go_sem ↓] theorem agG (o:Oper):oK P n o e K g=j8 P n false o e g K:=rfl
@[go_sem ↓] theorem aeh (o:Oper):oKD P n np ops o e K g=HD (jX o) (HD (isApp o) (wM P n o e g K) (j8 P n false o e g K)) (RJ P n np ops o e g K):=rfl
def bJ (P:Program) (n np:Nat) (a b:Code) (Q:Exit->Env->Prop) (e:Env) (v:D):Prop:=match v with
 | .bool t=>M9 t (lO P n np a Q e) (lO P n np b Q e)
 | _=>False
@[congr] theorem Ur {a b:Code} {Q:Exit->Env->Prop} {v v':D} (h:True->v=v'):bJ P n np a b Q e v=bJ P n np a b Q e v':=by rw [h trivial]
@[go_sem] theorem Vw (a b:Code) (Q:Exit->Env->Prop):bJ P n np a b Q e (.bool true)=lO P n np a Q e:=by simp [bJ,M9]
@[go_sem] theorem UO (a b:Code) (Q:Exit->Env->Prop):bJ P n np a b Q e (.bool false)=lO P n np b Q e:=by simp [bJ,M9]
theorem bJ.split {t:Bool} {a b:Code} {Q:Exit->Env->Prop} (h1:t=true->lO P n np a Q e) (h2:t=false->lO P n np b Q e):bJ P n np a b Q e (.bool t):=⟨h1,h2⟩
theorem bJ.aO {t:Bool} {a b:Code} {Q:Exit->Env->Prop} (h1:t=false->lO P n np a Q e) (h2:t=true->lO P n np b Q e):bJ P n np a b Q e (.bool (!t)):=⟨fun h=>h1 (by simpa using h),fun h=>h2 (by simpa using h)⟩
@[go_sem ↓] theorem aas (Q:Exit->Env->Prop):lO P n np .skip Q e=Q .normal e:=rfl
@[go_sem ↓] theorem US (id:Nat) (os:Array Oper) (Q:Exit->Env->Prop):lO P n np (.region id os false) Q e=wpList P n os.toList os.toList e (Q .normal):=by simp [lO]
def iw (np:Nat) (os:Array Oper):Prop:=T5 np os
@[congr] theorem Uk {m m':Nat} {os:Array Oper} (h:True->m=m'):iw m os=iw m' os:=by rw [h trivial]
theorem iw.mk {os:Array Oper} (h:yz np os=true):iw np os:=h
@[go_sem ↓] theorem U5 (id:Nat) (os:Array Oper) (Q:Exit->Env->Prop):lO P n np (.region id os true) Q e=(iw (nk np) os/\kQ P n np os.toList os.toList e (Q .normal)):=by simp [lO,iw,nk]
def IP (P:Program) (n np:Nat) (b:Code) (Q:Exit->Env->Prop) (j:Bool):Env->Prop:=if j then fH (lO P n np b Q) else lO P n np b Q
@[go_sem ↓] theorem ack (a b:Code) (Q:Exit->Env->Prop):lO P n np (.seq a b) Q e=lO P n np a (qo (IP P n np b Q (GD a)) Q) e:=rfl
def LX (P:Program) (n np:Nat) (b:Code) (Q:Exit->Env->Prop) (e:Env) (j:Bool):Prop:=IP P n np b Q j e
@[congr] theorem Vg {b:Code} {Q:Exit->Env->Prop} {j j':Bool} (h:True->j=j'):LX P n np b Q e j=LX P n np b Q e j':=by rw [h trivial]
@[go_sem ↓] theorem ac4 (b:Code) (Q:Exit->Env->Prop) (j:Bool):IP P n np b Q j e=LX P n np b Q e j:=rfl
@[go_sem ↓] theorem VR (b:Code) (Q:Exit->Env->Prop):LX P n np b Q e true=fH (lO P n np b Q) (em e):=by simp [LX,IP,em]
@[go_sem ↓] theorem T7 (b:Code) (Q:Exit->Env->Prop):LX P n np b Q e false=lO P n np b Q e:=by simp [LX,IP]
@[congr] theorem U1 {K:Env->Prop} {e e':Env} (h:True->e=e'):fH K e=fH K e':=by rw [h trivial]
theorem fH.id (h:K e):fH K e:=.inl h
theorem fH.le (ts os:EL) (h:LM e ts os) (hk:K (sq ts os)):fH K e:=.inr ⟨ts,os,h,hk⟩
attribute [go_sem] falls GD
@[congr] theorem V4 {T:Type} {ts os:T->EL} {I:T->Prop} {e e':Env} (h:True->e=e'):It ts os I e=It ts os I e':=by rw [h trivial]
theorem Kf {b c:Code} {j:Bool} {id:Nat} {Q:Exit->Env->Prop} {T:Type} (ts os:T->EL) (I:T->Prop) (hj:j=true) (rest:∀ s,I s->lO P n np b Q (sq (ts s) (os s))) (hk:aC (lO P n np c) (mL id (qo (It ts os I) Q)) e) :
  aC (lO P n np c) (mL id (qo (IP P n np b Q j) Q)) e:=by
 have:IP P n np b Q j=fH (lO P n np b Q):=by simp [IP,hj]
 rw [this];exact Tm ts os I rest hk
@[go_sem ↓] theorem aaB (c:Operand) (a b:Code) (Q:Exit->Env->Prop):lO P n np (.cond c a b) Q e=bJ P n np a b Q e (dm (rd e c)):=rfl
@[go_sem ↓] theorem Xv (id:Nat) (a:Code) (Q:Exit->Env->Prop):lO P n np (.block id a) Q e=lO P n np a (mL id Q) e:=rfl
@[go_sem ↓] theorem aaj (a:Code) (Q:Exit->Env->Prop):lO P n np (.loop a) Q e=aC (lO P n np a) Q (em e):=rfl
@[congr] theorem U3 {b:(Exit->Env->Prop)->Env->Prop} {Q:Exit->Env->Prop} {e e':Env} (h:True->e=e'):aC b Q e=aC b Q e':=by rw [h trivial]
@[go_sem ↓] theorem aby (id:Nat) (Q:Exit->Env->Prop):lO P n np (.exit id) Q e=Q (.exit id) e:=rfl
@[go_sem ↓] theorem acK (Q:Exit->Env->Prop):lO P n np .ret Q e=Q .ret e:=rfl
@[go_sem ↓] theorem SO (K:Env->Prop) (Q:Exit->Env->Prop):qo K Q .normal e=K e:=rfl
@[go_sem ↓] theorem WA (K:Env->Prop) (Q:Exit->Env->Prop) (id:Nat):qo K Q (.exit id) e=Q (.exit id) e:=rfl
@[go_sem ↓] theorem XK (K:Env->Prop) (Q:Exit->Env->Prop):qo K Q .ret e=Q .ret e:=rfl
@[go_sem ↓] theorem RK (id:Nat) (Q:Exit->Env->Prop):mL id Q .normal e=Q .normal e:=rfl
@[go_sem ↓] theorem Uo (id id':Nat) (Q:Exit->Env->Prop):mL id Q (.exit id') e=if id'=id then Q .normal e else Q (.exit id') e:=rfl
@[go_sem ↓] theorem WI (id:Nat) (Q:Exit->Env->Prop):mL id Q .ret e=Q .ret e:=rfl
@[go_sem ↓] theorem aah (rs:List ResultVar) (m:Nat) (hs':List D) (v:D):QG P rs m hs' v .ret e=P3 P rs m hs' v e:=rfl
@[go_sem ↓] theorem Uw {T:Type} (ts os:T->EL) (I:T->Prop) (m:T->Nat) (s:T) (Q:Exit->Env->Prop) (id:Nat):sE ts os I m s Q (.exit id) e=Q (.exit id) e:=rfl
@[go_sem ↓] theorem WG {T:Type} (ts os:T->EL) (I:T->Prop) (m:T->Nat) (s:T) (Q:Exit->Env->Prop):sE ts os I m s Q .ret e=Q .ret e:=rfl
@[go_sem ↓] theorem RL {T:Type} (ts os:T->EL) (I:T->Prop) (m:T->Nat) (s:T) (Q:Exit->Env->Prop):sE ts os I m s Q .normal e=ah ts os I m s (em e):=rfl
@[congr] theorem Sq {T:Type} {ts os:T->EL} {I:T->Prop} {m:T->Nat} {s:T} {e e':Env} (h:True->e=e'):ah ts os I m s e=ah ts os I m s e':=by rw [h trivial]
@[go_sem ↓] theorem wpList_nil:wpList P n ops [] e K=K e:=rfl
@[go_sem ↓] theorem TR (o:Oper) (r:List Oper):wpList P n ops (o :: r) e K=wpOp P n ops o e (lK P n ops r K):=rfl
@[go_sem ↓] theorem T1:kQ P n np ops [] e K=K e:=rfl
@[go_sem ↓] theorem Se (o:Oper) (r:List Oper):kQ P n np ops (o :: r) e K=gh P n np ops o e (lKD P n np ops r K):=rfl
@[go_sem ↓] theorem WO {α:Type} (l:List α):l.toArray.toList=l:=rfl
def bX (o:Option Bool) (k:Bool->Prop):Prop:=match o with
 | some g=>k g
 | none=>False
@[congr] theorem SU {o o':Option Bool} {k:Bool->Prop} (h:True->o=o'):bX o k=bX o' k:=by rw [h trivial]
@[go_sem] theorem U0 (k:Bool->Prop):bX (some true) k=k true:=rfl
@[go_sem] theorem SZ (k:Bool->Prop):bX (some false) k=k false:=rfl
theorem bX.split {g:Bool} {k:Bool->Prop} (h1:g=true->k true) (h2:g=false->k false):bX (some g) k:=by
 cases g with
 | true=>exact h1 rfl
 | false=>exact h2 rfl
theorem bX.aO {b:Bool} {k:Bool->Prop} (h1:b=false->k true) (h2:b=true->k false):bX (some (!b)) k:=by
 cases b with
 | true=>exact h2 rfl
 | false=>exact h1 rfl
@[go_sem ↓] theorem ZK (dst:Option Tmp) (op:Op):wpOp P n ops ⟨dst,op,ty,pos,after,none⟩ e K=j8 P n false ⟨dst,op,ty,pos,after,none⟩ e true K:=rfl
@[go_sem ↓] theorem X4 (dst:Option Tmp) (op:Op) (p:Nat × Bool):wpOp P n ops ⟨dst,op,ty,pos,after,some p⟩ e K=bX (rY ops e (some p)) (oK P n ⟨dst,op,ty,pos,after,some p⟩ e K):=rfl
@[go_sem ↓] theorem V6 (dst:Option Tmp) (op:Op):gh P n np ops ⟨dst,op,ty,pos,after,none⟩ e K=HD (jX ⟨dst,op,ty,pos,after,none⟩) (HD (isApp ⟨dst,op,ty,pos,after,none⟩) (wM P n ⟨dst,op,ty,pos,after,none⟩ e true K) (j8 P n false ⟨dst,op,ty,pos,after,none⟩ e true K)) (RJ P n np ops ⟨dst,op,ty,pos,after,none⟩ e true K):=rfl
@[go_sem ↓] theorem Xc (dst:Option Tmp) (op:Op) (p:Nat × Bool):gh P n np ops ⟨dst,op,ty,pos,after,some p⟩ e K=bX (rY ops e (some p)) (oKD P n np ops ⟨dst,op,ty,pos,after,some p⟩ e K):=rfl
def Mg (o:Option Tmp) (e:Env) (w:Bool):Option Bool:=match o with
 | some t=>E7 w (rd e (.tmp t))
 | none=>some false
@[congr] theorem UM {o o':Option Tmp} {w:Bool} (h:True->o=o'):Mg o e w=Mg o' e w:=by rw [h trivial]
@[go_sem ↓] theorem Zf (j:Nat) (w:Bool):rY ops e (some (j,w))=Mg (rM ops j) e w:=rfl
@[go_sem ↓] theorem Wv (o:Oper) (r:List Oper):rM (o :: r) 0=o.dst:=rfl
@[go_sem ↓] theorem Vk (o:Oper) (r:List Oper) (j:Nat):rM (o :: r) (j+1)=rM r j:=rfl
@[go_sem ↓] theorem Xj (t:Nat) (w:Bool):Mg (some t) e w=E7 w (rd e (.tmp t)):=Eq.trans rfl rfl
@[go_sem] theorem Vr (w b:Bool):E7 w (.bool b)=some (b==w):=rfl
@[go_sem] theorem Y2 (w:Bool):E7 w (.bI [])=some false:=rfl
@[go_sem] theorem ae4 (b:Bool):(b==true)=b:=by cases b<;>rfl
@[go_sem] theorem ae1 (b:Bool):(b==false) = !b:=by cases b<;>rfl
@[congr] theorem TL {g g':Bool} {ok ok':Prop} {v v':D} {k:D->Prop} (hg:True->g=g') (ho:g'=true->ok=ok') (hv:g'=true->v=v'):eU g ok v k=eU g' ok' v' k:=by
 obtain rfl:=hg trivial;cases g with
 | true=>rw [ho rfl,hv rfl]
 | false=>simp [eU,gd]
@[go_sem ↓] theorem Vp (ok:Prop) (v:D) (k:D->Prop):eU true ok v k=(ok/\Norm (dm v) k):=by simp [eU,gd,Norm,dm]
@[go_sem ↓] theorem UH (ok:Prop) (v:D) (k:D->Prop):eU false ok v k=k (.bI []):=by simp [eU,gd]
@[go_sem ↓] theorem adn (a b:Prop):GK true a b=a:=by simp [GK]
@[go_sem ↓] theorem aaC (a b:Prop):GK false a b=b:=by simp [GK]
def Ws (np:Nat) (ops:List Oper) (o:Oper) (l:List Nat):Prop:=zi np ops o l
@[congr] theorem YO {o:Oper} {l l':List Nat} (h:True->l=l'):Ws np ops o l=Ws np ops o l':=by rw [h trivial]
@[go_sem] theorem adX (o:Oper):Ws np ops o []=True:=rfl
def Ad (np:Nat) (ops:List Oper) (o:Oper) (r:Nat):Prop:=vI np ops o r=true
@[congr] theorem XL {o:Oper} {r r':Nat} (h:True->r=r'):Ad np ops o r=Ad np ops o r':=by rw [h trivial]
theorem Ad.mk {o:Oper} {r:Nat} (h:vI np ops o r=true):Ad np ops o r:=h
@[go_sem] theorem ZY (o:Oper) (r:Nat) (l:List Nat):Ws np ops o (r :: l)=(Ad np ops o (nk r)/\Ws np ops o l):=rfl
@[go_sem ↓] theorem abZ (o:Oper):RJ P n np ops o e true K=(Ws np ops o (lm (cB e o))/\j8 P n true o e true K):=by simp [RJ,Ws,lm]
@[go_sem ↓] theorem ZD (o:Oper):RJ P n np ops o e false K=j8 P n true o e false K:=by simp [RJ]
section
variable {dst:Option Tmp}
@[go_sem ↓] theorem UC (t:TypeId) (a:Operand):cB e ⟨dst,.load t a,ty,pos,after,gu⟩=(rd e a).names:=rfl
@[go_sem ↓] theorem Sd (t:TypeId) (a x:Operand):cB e ⟨dst,.store t a x,ty,pos,after,gu⟩=(rd e a).names:=rfl
@[go_sem ↓] theorem OR (t:TypeId) (x i:Operand):cB e ⟨dst,.indexAddr t x i,ty,pos,after,gu⟩=(rd e x).names:=rfl
@[go_sem ↓] theorem Tb (t:TypeId) (x:Operand) (a b c:Option Operand):cB e ⟨dst,.slice t x a b c,ty,pos,after,gu⟩=(rd e x).names:=rfl
@[go_sem ↓] theorem Uy (x:Operand):cB e ⟨dst,.move x,ty,pos,after,gu⟩=[]:=rfl
@[go_sem ↓] theorem RG (x:Operand):cB e ⟨dst,.assign x,ty,pos,after,gu⟩=[]:=rfl
@[go_sem ↓] theorem UT (x y z:Operand):cB e ⟨dst,.pick x y z,ty,pos,after,gu⟩=[]:=rfl
@[go_sem ↓] theorem S6 (op:BinOp) (t t2:TypeId) (x y:Operand):cB e ⟨dst,.binOp op t x y t2,ty,pos,after,gu⟩=[]:=rfl
@[go_sem ↓] theorem T' (op:UnOp) (t:TypeId) (x:Operand):cB e ⟨dst,.unOp op t x,ty,pos,after,gu⟩=[]:=rfl
@[go_sem ↓] theorem Rg (s t:TypeId) (x:Operand):cB e ⟨dst,.convert s t x,ty,pos,after,gu⟩=[]:=rfl
@[go_sem ↓] theorem N4 (t:TypeId) (x:Operand) (f:Nat):cB e ⟨dst,.fieldAddr t x f,ty,pos,after,gu⟩=[]:=rfl
@[go_sem ↓] theorem SP (t:TypeId) (x i:Operand):cB e ⟨dst,.index t x i,ty,pos,after,gu⟩=[]:=rfl
@[go_sem ↓] theorem Pe (x:Operand):cB e ⟨dst,.nilCheck x,ty,pos,after,gu⟩=[]:=rfl
@[go_sem ↓] theorem Px (x:Operand) (i:Nat):cB e ⟨dst,.extract x i,ty,pos,after,gu⟩=[]:=rfl
@[go_sem ↓] theorem Su (t:TypeId) (ps:Array (Nat × Operand)):cB e ⟨dst,.build t ps,ty,pos,after,gu⟩=[]:=rfl
@[go_sem ↓] theorem Nh (t:TypeId) (l:Nat) (ps:Array (Nat × Operand)):cB e ⟨dst,.buildSlice t l ps,ty,pos,after,gu⟩=[]:=rfl
@[go_sem ↓] theorem Sm (t:TypeId):cB e ⟨dst,.alloc t,ty,pos,after,gu⟩=[]:=rfl
def LO (e:Env) (k:Nat) (l:List Nat):List Nat:=reach e.o k l
@[congr] theorem Xg {k:Nat} {l l':List Nat} (h:True->l=l'):LO e k l=LO e k l':=by rw [h trivial]
@[go_sem] theorem Z9 (k:Nat):LO e k []=[]:=by
 unfold LO
 induction k with
 | zero=>rfl
 | succ k ih=>simp only [reach,List.map_nil,D.cg,List.nil_append];exact ih
@[go_sem] theorem W0 (r:Nat) (l:List Nat):LO e 4 (r :: l)=r :: l++LO e 3 (lm (D.cg ((r :: l).map e.o))):=rfl
@[go_sem ↓] theorem SA (f:Operand) (args:Array Operand) (T:Array TypeId):cB e ⟨dst,.call ⟨.value f,args,T⟩,ty,pos,after,gu⟩=LO e 4 (lm (D.cg (rd e f :: args.toList.map (rd e)))):=rfl
@[go_sem ↓] theorem S9 (b:Builtin) (args:Array Operand) (T:Array TypeId):cB e ⟨dst,.call ⟨.builtin b,args,T⟩,ty,pos,after,gu⟩=D.cg (args.toList.map (rd e)):=rfl
end
section
@[go_sem ↓] theorem abc (x:Operand):j8 P n dr ⟨some d,.move x,ty,pos,after,gu⟩ e g K=(d < n/\eU g True (rd e x) (uK e d K)):=rfl
@[go_sem ↓] theorem Wp (x:Operand):j8 P n dr ⟨some d,.assign x,ty,pos,after,gu⟩ e g K=(d < n/\eU g True (rd e x) (uK e d K)):=rfl
@[go_sem ↓] theorem YH (op:BinOp) (t t2:TypeId) (x y:Operand):j8 P n dr ⟨some d,.binOp op t x y t2,ty,pos,after,gu⟩ e g K=HD (Qq y) (g=true/\dr=false/\kW P n ⟨some d,.binOp op t x y t2,ty,pos,after,gu⟩ e K) (d < n/\eU g (td P (isConst x||isConst y) op t (rd e x) (rd e y)) (yl op (rd e x) (rd e y)) (uK e d K)):=rfl
@[go_sem ↓] theorem aaH (op:UnOp) (t:TypeId) (x:Operand):j8 P n dr ⟨some d,.unOp op t x,ty,pos,after,gu⟩ e g K=(d < n/\eU g (pJ op (rd e x)) (za op (rd e x)) (uK e d K)):=rfl
@[go_sem ↓] theorem Uj (s t:TypeId) (x:Operand):j8 P n dr ⟨some d,.convert s t x,ty,pos,after,gu⟩ e g K=(d < n/\eU g (CM (bO P s) (bO P t) (rd e x)) (EK (bO P s) (bO P t) (rd e x)) (uK e d K)):=rfl
def pk (p:Bool) (x y:D):D:=if p then x else y
def Uh (c x y:D):D:=match c with
 | .bool p=>pk p x y
 | _=>.undef
def Qg (c:D):Prop:=match c with
 | .bool _=>True
 | _=>False
@[go_sem] theorem VB (p:Bool) (x y:D):Uh (.bool p) x y=pk p x y:=rfl
@[go_sem] theorem Ui (p:Bool):Qg (.bool p)=True:=rfl
@[congr] theorem Z7 {p p':Bool} {x x' y y':D} (hp:True->p=p') (hx:p'=true->x=x') (hy:p'=false->y=y'):pk p x y=pk p' x' y':=by
 obtain rfl:=hp trivial;cases p with
 | true=>simp only [pk,if_true];exact hx rfl
 | false=>simp only [pk];exact hy rfl
@[go_sem ↓] theorem acN (x y:D):pk true x y=x:=rfl
@[go_sem ↓] theorem aaN (x y:D):pk false x y=y:=rfl
@[go_sem ↓] theorem abH (c a b:Operand):j8 P n dr ⟨some d,.pick c a b,ty,pos,after,gu⟩ e g K=(d < n/\eU g (Qg (rd e c)) (Uh (rd e c) (rd e a) (rd e b)) (uK e d K)):=rfl
def faT (t:Ty) (f:Nat) (v:D):D:=match t with
 | .struct fs=>SK fs f v
 | _=>.undef
def U2 (t:Ty) (f:Nat) (v:D):Prop:=match t with
 | .struct fs=>O6 fs f v
 | _=>False
@[go_sem] theorem ag4 (fs:List FT) (f:Nat) (v:D):faT (.struct fs) f v=SK fs f v:=rfl
@[go_sem] theorem ad1 (fs:List FT) (f:Nat) (v:D):U2 (.struct fs) f v=O6 fs f v:=rfl
def aaq (t:Ty) (f:Nat) (v:D):D:=match t with
 | .struct fs=>Nz fs f v
 | _=>.undef
def Rr (t:Ty) (f:Nat) (v:D):Prop:=match t with
 | .struct fs=>ET fs f v
 | _=>False
@[go_sem] theorem aeb (fs:List FT) (f:Nat) (v:D):aaq (.struct fs) f v=Nz fs f v:=rfl
@[go_sem] theorem abW (fs:List FT) (f:Nat) (v:D):Rr (.struct fs) f v=ET fs f v:=rfl
@[go_sem ↓] theorem RE (t:TypeId) (x:Operand) (f:Nat):j8 P n dr ⟨some d,.fieldAddr t x f,ty,pos,after,gu⟩ e g K=(d < n/\eU g (U2 (bO P t) f (rd e x)) (faT (bO P t) f (rd e x)) (uK e d K)):=rfl
@[go_sem ↓] theorem Zg (t:TypeId) (x:Operand) (f:Nat):j8 P n dr ⟨some d,.field t x f,ty,pos,after,gu⟩ e g K=(d < n/\eU g (Rr (bO P t) f (rd e x)) (aaq (bO P t) f (rd e x)) (uK e d K)):=rfl
def Fc (e:Env) (t:Ty) (x i:D):Prop:=H8 e t x i
@[congr] theorem TP {t t':Ty} {x x' i i':D} (h1:True->t=t') (h2:True->x=x') (h3:True->i=i'):Fc e t x i=Fc e t' x' i':=by rw [h1 trivial,h2 trivial,h3 trivial]
def YD (t:Ty) (x i:D):D:=OE e0 t x i
theorem WS (e:Env) (t:Ty) (x i:D):OE e t x i=YD t x i:=by unfold YD OE;rfl
@[go_sem ↓] theorem RC (t:TypeId) (x i:Operand):j8 P n dr ⟨some d,.indexAddr t x i,ty,pos,after,gu⟩ e g K=(d < n/\eU g (Fc e (bO P t) (rd e x) (rd e i)) (YD (bO P t) (rd e x) (rd e i)) (uK e d K)):=by rw [<- WS e];rfl
@[go_sem ↓] theorem XQ (t:TypeId) (x i:Operand):j8 P n dr ⟨some d,.index t x i,ty,pos,after,gu⟩ e g K=(d < n/\eU g (I6 (bO P t) (rd e x) (rd e i)) (ixV (bO P t) (rd e x) (rd e i)) (uK e d K)):=rfl
def Uc (e:Env) (l:Option qH) (a:D):D:=match l with
 | some l=>R4 e l a
 | none=>.undef
def yG (e:Env) (l:Option qH) (a:D):Prop:=match l with
 | some l=>Gv e l a
 | none=>False
@[congr] theorem ZB {l l':Option qH} {a a':D} (h1:True->l=l') (h2:True->a=a'):Uc e l a=Uc e l' a':=by rw [h1 trivial,h2 trivial]
@[congr] theorem T9 {l l':Option qH} {a a':D} (h1:True->l=l') (h2:True->a=a'):yG e l a=yG e l' a':=by rw [h1 trivial,h2 trivial]
@[go_sem] theorem aat (l:qH) (r o:Nat):Uc e (some l) (.addr r o)=ldB l o (e.o r):=rfl
@[go_sem] theorem ZH (l:qH) (r z i k:Nat):Uc e (some l) (.bQ r z i k)=ldW l i k (e.o r):=rfl
@[go_sem] theorem YS (l:qH) (cs:List D):Uc e (some l) (.bF cs)=part l.agg 0 l.sz cs:=rfl
@[go_sem] theorem Wm (l:qH) (r o:Nat):yG e (some l) (.addr r o)=M5 l o (e.o r):=rfl
@[go_sem] theorem Um (l:qH) (r z i k:Nat):yG e (some l) (.bQ r z i k)=Mq l z i k (e.o r):=rfl
@[go_sem] theorem UE (l:qH) (cs:List D):yG e (some l) (.bF cs)=(l.sz<=cs.length/\uG l):=rfl
@[go_sem] theorem adG (l:qH) (o:Nat) (cs:List D):ldB l o (.box cs)=part l.agg o l.sz cs:=rfl
@[go_sem] theorem XF (l:qH) (o:Nat) (cs:List D):M5 l o (.box cs)=(o+l.sz<=cs.length/\uG l):=rfl
@[go_sem] theorem ad2 (l:qH) (i k z:Nat) (rows:List (List D)):ldW l i k (.own z rows)=part l.agg k l.sz (rows.getD i []):=rfl
@[go_sem] theorem Yz (l:qH) (z i k z':Nat) (rows:List (List D)):Mq l z i k (.own z' rows)=(z'=z/\i < rows.length/\k+l.sz<=z/\uG l):=rfl
@[go_sem] theorem ab6:uG ⟨false,1⟩=True:=by simp [uG]
@[go_sem] theorem adj (m:Nat):uG ⟨true,m⟩=(1<=m):=by simp [uG]
@[go_sem ↓] theorem abA (t:TypeId) (a:Operand):j8 P n dr ⟨some d,.load t a,ty,pos,after,gu⟩ e g K=(d < n/\eU g (yG e (bT P t) (rd e a)) (Uc e (bT P t) (rd e a)) (uK e d K)):=rfl
@[go_sem ↓] theorem Te (x:Operand):j8 P n dr ⟨some d,.nilCheck x,ty,pos,after,gu⟩ e g K=(d < n/\eU g (QN (rd e x)) (rd e x) (uK e d K)):=rfl
def abf (v:D) (i:Nat):D:=match v with
 | .bI ds=>ds.getD i .undef
 | _=>.undef
def Us (v:D) (i:Nat):Prop:=match v with
 | .bI ds=>i < ds.length
 | _=>False
@[go_sem] theorem aaP (ds:List D) (i:Nat):abf (.bI ds) i=ds.getD i .undef:=rfl
@[go_sem] theorem Yo (ds:List D) (i:Nat):Us (.bI ds) i=(i < ds.length):=rfl
@[go_sem ↓] theorem UQ (x:Operand) (i:Nat):j8 P n dr ⟨some d,.extract x i,ty,pos,after,gu⟩ e g K=(d < n/\eU g (Us (rd e x) i) (abf (rd e x) i) (uK e d K)):=rfl
@[go_sem ↓] theorem SM (f:FuncId) (first caps:Array Operand):j8 P n dr ⟨some d,.makeFunc (.func f) first caps,ty,pos,after,gu⟩ e g K=(d < n/\eU g (first = #[]) (.fn f (caps.toList.map (rd e))) (uK e d K)):=rfl
def Lq (e:Env) (t:Ty) (x:D):D:=GN e t x
def vw (e:Env) (t:Ty) (x:D):Prop:=wB e t x
@[congr] theorem WC {t t':Ty} {x x':D} (h1:True->t=t') (h2:True->x=x'):Lq e t x=Lq e t' x':=by rw [h1 trivial,h2 trivial]
@[congr] theorem To {t t':Ty} {x x':D} (h1:True->t=t') (h2:True->x=x'):vw e t x=vw e t' x':=by rw [h1 trivial,h2 trivial]
@[go_sem ↓] theorem adI (x:Operand) (T:TypeId):j8 P n dr ⟨some d,.call ⟨.builtin .len,#[x],#[T]⟩,ty,pos,after,gu⟩ e g K=(d < n/\eU g (vw e (bO P T) (rd e x)) (Lq e (bO P T) (rd e x)) (uK e d K)):=rfl
@[go_sem ↓] theorem acd (l:List Operand) (T:Array TypeId):j8 P n dr ⟨some d,.call ⟨.builtin .max,l.toArray,T⟩,ty,pos,after,gu⟩ e g K=(d < n/\eU g (l≠[]/\pz (l.map (rd e))) (IE IA (l.map (rd e))) (uK e d K)):=by simp only [j8,dD,gm];rfl
@[go_sem ↓] theorem acC (l:List Operand) (T:Array TypeId):j8 P n dr ⟨some d,.call ⟨.builtin .min,l.toArray,T⟩,ty,pos,after,gu⟩ e g K=(d < n/\eU g (l≠[]/\pz (l.map (rd e))) (IE Ie (l.map (rd e))) (uK e d K)):=by simp only [j8,dD,gm];rfl
def aal (e:Env) (t:Ty) (x lo hi:D):D:=match lo,hi with
 | .int _ l,.int _ h=>Pv e t x l.toNat h.toNat
 | _,_=>.undef
def UF (e:Env) (t:Ty) (x lo:D) (hi:Option D):D:=aal e t x lo (hi.getD (.int .i64 (JH (ID e t x))))
def xj (e:Env) (t:Ty) (x lo:D) (hi:Option D):Prop:=SG (U4 e t x) lo (hi.getD (.int .i64 (JH (ID e t x)))) fun _ _ _=>True
@[congr] theorem XN {t t':Ty} {x x' lo lo':D} {hi hi':Option D} (h1:True->t=t') (h2:True->x=x') (h3:True->lo=lo') (h4:True->hi=hi'):UF e t x lo hi=UF e t' x' lo' hi':=by rw [h1 trivial,h2 trivial,h3 trivial,h4 trivial]
@[congr] theorem Uq {t t':Ty} {x x' lo lo':D} {hi hi':Option D} (h1:True->t=t') (h2:True->x=x') (h3:True->lo=lo') (h4:True->hi=hi'):xj e t x lo hi=xj e t' x' lo' hi':=by rw [h1 trivial,h2 trivial,h3 trivial,h4 trivial]
def Zi (e:Env) (lo:Option Operand):D:=FZ e 0 lo
@[go_sem ↓] theorem abe:Zi e none=.int .i64 0:=rfl
@[go_sem ↓] theorem Z0 (x:Operand):Zi e (some x)=rd e x:=rfl
@[go_sem ↓] theorem YA (t:TypeId) (x:Operand) (lo:Option Operand):j8 P n dr ⟨some d,.slice t x lo none none,ty,pos,after,gu⟩ e g K=(d < n/\eU g (xj e (bO P t) (rd e x) (Zi e lo) none) (UF e (bO P t) (rd e x) (Zi e lo) none) (uK e d K)):=rfl
@[go_sem ↓] theorem Wz (t:TypeId) (x:Operand) (lo:Option Operand) (hi:Operand):j8 P n dr ⟨some d,.slice t x lo (some hi) none,ty,pos,after,gu⟩ e g K=(d < n/\eU g (xj e (bO P t) (rd e x) (Zi e lo) (some (rd e hi))) (UF e (bO P t) (rd e x) (Zi e lo) (some (rd e hi))) (uK e d K)):=rfl
def GQ (t:Ty) (ps:List (Nat × D)):List (Nat × Nat × D):=match t with
 | .struct fs=>ps.map fun x=>match fs[x.1]? with
  | some f=>(f.off,f.sz,x.2)
  | none=>(0,0,.undef)
 | .arr _ z _=>ps.map fun x=>(x.1*z,z,x.2)
 | _=>[]
theorem uV (t:TypeId) (parts:List (Nat × Operand)):dn P e t parts=GQ (bO P t) (parts.map fun x=>(x.1,rd e x.2)):=by
 unfold dn GQ;cases bO P t<;>simp only [List.map_map,Function.comp_def]<;>rfl
def RU (t:Ty) (z:Option (List D)) (ps:List (Nat × D)):D:=match z with
 | some z=>.agg (jQ z (GQ t ps))
 | none=>.undef
def EJ (t:Ty) (z:Option (List D)) (ps:List (Nat × D)):Prop:=match z with
 | some z=>(match t with
  | .struct fs=>∀ x∈ps,x.1 < fs.length
  | .arr _ _ _=>True
  | _=>False)/\lN z.length (GQ t ps)
 | none=>False
theorem Lw (t:TypeId) (parts:List (Nat × Operand)):AG P e t parts=EJ (bO P t) (cK P t) (parts.map fun x=>(x.1,rd e x.2)):=by
 unfold AG EJ;rw [uV];cases hz:cK P t with
 | none=>simp
 | some z =>
  simp only [Option.some.injEq,exists_eq_left',eq_iff_iff];refine and_congr ?_ Iff.rfl;cases bO P t<;>simp only;simp only [List.forall_mem_map]
@[go_sem ↓] theorem XD (t:TypeId) (parts:Array (Nat × Operand)):j8 P n dr ⟨some d,.build t parts,ty,pos,after,gu⟩ e g K =
  (d < n/\eU g (EJ (bO P t) (cK P t) (parts.toList.map fun x=>(x.1,rd e x.2))) (RU (bO P t) (cK P t) (parts.toList.map fun x=>(x.1,rd e x.2))) (uK e d K)):=by
 rw [<- Lw]
 have:RU (bO P t) (cK P t) (parts.toList.map fun x=>(x.1,rd e x.2))=gm P e (.build t parts):=by
  unfold gm RU;simp only [uV];rfl
 rw [this];rfl
@[go_sem] theorem X2 (t:Ty) (z:List D) (ps:List (Nat × D)):RU t (some z) ps=.agg (jQ z (GQ t ps)):=rfl
@[go_sem] theorem Wx (fs:List FT) (z:List D) (ps:List (Nat × D)):EJ (.struct fs) (some z) ps=((∀ x∈ps,x.1 < fs.length)/\lN z.length (GQ (.struct fs) ps)):=rfl
@[go_sem] theorem Zd (n s:Nat) (a:Bool) (z:List D) (ps:List (Nat × D)):EJ (.arr n s a) (some z) ps=lN z.length (GQ (.arr n s a) ps):=by simp [EJ]
def aaz (f:Option FT) (v:D):Nat × Nat × D:=match f with
 | some f=>(f.off,f.sz,v)
 | none=>(0,0,.undef)
@[go_sem] theorem Uz (fs:List FT) (ps:List (Nat × D)):GQ (.struct fs) ps=ps.map fun x=>aaz fs[x.1]? x.2:=rfl
@[go_sem] theorem abp (n z:Nat) (a:Bool) (ps:List (Nat × D)):GQ (.arr n z a) ps=ps.map fun x=>(x.1*z,z,x.2):=rfl
@[go_sem] theorem Yf (o s:Nat) (a:Bool) (v:D):aaz (some ⟨o,s,a⟩) v=(o,s,v):=rfl
@[go_sem] theorem ZX (f:Nat × D->Prop):(∀ c∈([]:List (Nat × D)),f c)=True:=by simp
@[go_sem] theorem YF (f:Nat × D->Prop) (a:Nat × D) (l:List (Nat × D)):(∀ c∈a :: l,f c)=(f a/\∀ c∈l,f c):=by simp
@[go_sem] theorem aaS (f:D->Prop):(∀ c∈([]:List D),f c)=True:=by simp
@[go_sem] theorem Zr (f:D->Prop) (a:D) (l:List D):(∀ c∈a :: l,f c)=(f a/\∀ c∈l,f c):=by simp
end
def Tj (d:D):Prop:=d=.undef
@[go_sem] theorem YZ:Tj .undef=True:=by simp [Tj]
def moK (e:Env) (d:Nat) (K:Env->Prop) (ob:D) (r:Nat):Prop:=Tj (e.o r)/\K (dj (dZ e r ob) d (.ref r))
def maK (e:Env) (d:Nat) (K:Env->Prop) (ob:D) (r:Nat):Prop:=Tj (e.o r)/\K (dj (dZ e r ob) d (.addr r 0))
@[go_sem ↓] theorem afJ (ob:D) (r:Nat):moK e d K ob r=(Tj (e.o r)/\K (dj (dZ e r ob) d (.ref r))):=rfl
@[go_sem ↓] theorem afL (ob:D) (r:Nat):maK e d K ob r=(Tj (e.o r)/\K (dj (dZ e r ob) d (.addr r 0))):=rfl
def SV (e:Env) (d:Nat) (K:Env->Prop) (ob:D):Prop:=yZ (nm d 0) (moK e d K ob)
def maN (e:Env) (d:Nat) (K:Env->Prop) (ob:D):Prop:=yZ (nm d 0) (maK e d K ob)
@[go_sem ↓] theorem aeU (ob:D):SV e d K ob=yZ (nm d 0) (moK e d K ob):=rfl
@[go_sem ↓] theorem afi (ob:D):maN e d K ob=yZ (nm d 0) (maK e d K ob):=rfl
@[go_sem] theorem afV (d k:Nat):nm d k=16*(d+1)+k:=rfl
def uoK (e:Env) (r:Nat) (K:Env->Prop) (ob:D):Prop:=K (dZ e r ob)
@[go_sem ↓] theorem ad' (r:Nat) (ob:D):uoK e r K ob=K (dZ e r ob):=rfl
def P2 (e:Env) (r off:Nat) (v:D) (K:Env->Prop) (l:Option qH) (ob:D):Prop:=
 match l,ob with
 | some l,.box cs=>off+l.sz<=cs.length/\v.cells.length=l.sz/\(∀ c∈v.cells,eC c)/\K (dZ e r (.box (kI cs off v.cells)))
 | _,_=>False
def Ph (e:Env) (r z i k:Nat) (v:D) (K:Env->Prop) (l:Option qH) (ob:D):Prop:=
 match l,ob with
 | some l,.own z' rows=>z'=z/\i < rows.length/\k+l.sz<=z/\v.cells.length=l.sz/\(∀ c∈v.cells,dw c)/\K (dZ e r (.own z (rows.set i (kI (rows.getD i []) k v.cells))))
 | _,_=>False
@[congr] theorem VC {r off:Nat} {v:D} {l l':Option qH} {ob ob':D} (h1:True->l=l') (h2:True->ob=ob'):P2 e r off v K l ob=P2 e r off v K l' ob':=by rw [h1 trivial,h2 trivial]
@[congr] theorem Wo {r z i k:Nat} {v:D} {l l':Option qH} {ob ob':D} (h1:True->l=l') (h2:True->ob=ob'):Ph e r z i k v K l ob=Ph e r z i k v K l' ob':=by rw [h1 trivial,h2 trivial]
@[go_sem] theorem aay (r off sz:Nat) (a:Bool) (v:D) (cs:List D):P2 e r off v K (some ⟨a,sz⟩) (.box cs)=(off+sz<=cs.length/\v.cells.length=sz/\(∀ c∈v.cells,eC c)/\Norm (dm (.box (kI cs off v.cells))) (uoK e r K)):=rfl
@[go_sem] theorem ab0 (r z i k sz z':Nat) (a:Bool) (v:D) (rows:List (List D)):Ph e r z i k v K (some ⟨a,sz⟩) (.own z' rows) =
  (z'=z/\i < rows.length/\k+sz<=z/\v.cells.length=sz/\(∀ c∈v.cells,dw c)/\Norm (dm (.own z (rows.set i (kI (rows.getD i []) k v.cells)))) (uoK e r K)):=rfl
@[go_sem ↓] theorem abB (t:TypeId) (r off:Nat) (v:D):Ob P e t (.addr r off) K v=P2 e r off v K (bT P t) (e.o r):=by
 show W1 P e t r off v K (e.o r)=_
 unfold W1 P2;cases e.o r<;>cases bT P t<;>rfl
@[go_sem ↓] theorem YN (t:TypeId) (r z i k:Nat) (v:D):Ob P e t (.bQ r z i k) K v=Ph e r z i k v K (bT P t) (e.o r):=by
 show Xt P e t r z i k v K (e.o r)=_
 unfold Xt Ph;cases e.o r<;>cases bT P t<;>rfl
def stK (P:Program) (e:Env) (t:TypeId) (x:Operand) (K:Env->Prop) (a:D):Prop:=Norm (dm (rd e x)) (Ob P e t a K)
@[go_sem ↓] theorem afE (t:TypeId) (x:Operand) (a:D):stK P e t x K a=Norm (dm (rd e x)) (Ob P e t a K):=rfl
@[go_sem ↓] theorem Xz (t:TypeId) (a x:Operand):j8 P n dr ⟨none,.store t a x,ty,pos,after,gu⟩ e g K=(g=true/\Norm (dm (rd e a)) (stK P e t x K)):=rfl
@[go_sem ↓] theorem acF (v:D):Tp e d K v=((∀ c∈v.cells,eC c)/\Norm (dm (.box v.cells)) (maN e d K)):=rfl
@[go_sem ↓] theorem ac8 (t:TypeId) (x:Operand):j8 P n dr ⟨some d,.box t x,ty,pos,after,gu⟩ e g K=(g=true/\d < n/\Norm (dm (rd e x)) (Tp e d K)):=rfl
@[congr] theorem W3 {z z':Option (List D)} (h:True->z=z'):N6 e d K z=N6 e d K z':=by rw [h trivial]
@[go_sem] theorem X1 (z:List D):N6 e d K (some z)=maN e d K (.box z):=rfl
@[go_sem ↓] theorem XC (t:TypeId):j8 P n dr ⟨some d,.alloc t,ty,pos,after,gu⟩ e g K=(g=true/\d < n/\N6 e d K (cK P t)):=rfl
def BsC (e:Env) (d:Nat) (K:Env->Prop) (z len:Nat) (cs:List D):Prop:=(∀ c∈cs,dw c)/\Norm (dm (.own z (rowsOf z len cs))) (SV e d K)
@[congr] theorem XP {z len:Nat} {cs cs':List D} (h:True->cs=cs'):BsC e d K z len cs=BsC e d K z len cs':=by rw [h trivial]
@[go_sem] theorem afv (z len:Nat) (cs:List D):BsC e d K z len cs=((∀ c∈cs,dw c)/\Norm (dm (.own z (rowsOf z len cs))) (SV e d K)):=rfl
def BsV (e:Env) (len d:Nat) (K:Env->Prop) (z:Nat) (zc:List D) (ps:List (Nat × Nat × D)):Prop:=
 len*z<=2 ^ 24/\zc.length=z/\lN (len*z) ps/\BsC e d K z len (lm (jQ (List.replicate len zc).flatten ps))
@[congr] theorem Xy {len z:Nat} {zc:List D} {ps ps':List (Nat × Nat × D)} (h:True->ps=ps'):BsV e len d K z zc ps=BsV e len d K z zc ps':=by rw [h trivial]
@[go_sem] theorem aes (len z:Nat) (zc:List D) (ps:List (Nat × Nat × D)):BsV e len d K z zc ps=(len*z<=2 ^ 24/\zc.length=z/\lN (len*z) ps/\BsC e d K z len (lm (jQ (List.replicate len zc).flatten ps))):=rfl
@[congr] theorem Yg {len:Nat} {ps:List (Nat × Operand)} {t t':Ty} {z z':Option (List D)} (h1:True->t=t') (h2:True->z=z'):Ok e len ps d K t z=Ok e len ps d K t' z':=by rw [h1 trivial,h2 trivial]
@[go_sem] theorem ae9 (len z by_:Nat) (a:Bool) (zc:List D) (ps:List (Nat × Operand)):Ok e len ps d K (.slice z by_ a) (some zc)=BsV e len d K z zc (lm (ps.map fun x=>(x.1*z,z,rd e x.2))):=rfl
def BsP (e:Env) (len:Nat) (ps:List (Nat × Operand)) (dr:Bool) (d:Nat) (K:Env->Prop) (t:Ty) (z:Option (List D)) (ns:List Nat):Prop:=(dr=true->ns=[])/\Ok (dN ns e) len ps d K t z
@[congr] theorem ZI {len:Nat} {ps:List (Nat × Operand)} {t:Ty} {z:Option (List D)} {ns ns':List Nat} (h:True->ns=ns'):BsP e len ps dr d K t z ns=BsP e len ps dr d K t z ns':=by rw [h trivial]
@[go_sem] theorem ads (len:Nat) (ps:List (Nat × Operand)) (t:Ty) (z:Option (List D)):BsP e len ps dr d K t z []=Ok e len ps d K t z:=by simp [BsP,dN]
@[go_sem ↓] theorem P9 (t:TypeId) (len:Nat) (parts:Array (Nat × Operand)):j8 P n dr ⟨some d,.buildSlice t len parts,ty,pos,after,gu⟩ e g K =
  (d < n/\GK g (BsP e len parts.toList dr d K (bO P t) (bA P t) (lm (D.cg (parts.toList.map fun x=>rd e x.2)))) (K (dj e d (.bI [])))):=rfl
@[congr] theorem Yv {l l' c c':D} {t t':Ty} {z z':Option (List D)} (h1:True->l=l') (h2:True->c=c') (h3:True->t=t') (h4:True->z=z'):Pd e d K l c t z=Pd e d K l' c' t' z':=by rw [h1 trivial,h2 trivial,h3 trivial,h4 trivial]
@[go_sem] theorem ae0 (k k':IntKind) (l c:Int) (z by_:Nat) (a:Bool) (zc:List D):Pd e d K (.int k l) (.int k' c) (.slice z by_ a) (some zc) =
  (0<=l/\l<=c/\c<=2 ^ 40/\by_*c<=2 ^ 47/\zc.length=z/\(∀ d∈zc,dw d)/\Norm (dm (.own z (List.replicate l.toNat zc))) (SV e d K)):=rfl
@[go_sem ↓] theorem RA (t:TypeId) (l c:Operand):j8 P n dr ⟨some d,.makeSlice t l c,ty,pos,after,gu⟩ e g K=(d < n/\GK g (Pd e d K (dm (rd e l)) (rd e c) (bO P t) (bA P t)) (K (dj e d (.bI [])))):=rfl
def apN (z by_:Nat) (rows rows2:List (List D)) (e:Env) (d:Nat) (K:Env->Prop):Prop:=(by_+1)*(rows.length+rows2.length)<=2 ^ 45/\Norm (dm (.own z (rows++rows2))) (SV e d K)
@[go_sem ↓] theorem aei (z by_:Nat) (rows rows2:List (List D)):apN z by_ rows rows2 e d K=((by_+1)*(rows.length+rows2.length)<=2 ^ 45/\Norm (dm (.own z (rows++rows2))) (SV e d K)):=rfl
def VI (z by_:Nat) (rows2:List (List D)) (e:Env) (d:Nat) (K:Env->Prop):Prop:=(by_+(1-by_))*rows2.length<=2 ^ 47/\Norm (dm (.own z rows2)) (SV e d K)
@[go_sem ↓] theorem adD (z by_:Nat) (rows2:List (List D)):VI z by_ rows2 e d K=((by_+(1-by_))*rows2.length<=2 ^ 47/\Norm (dm (.own z rows2)) (SV e d K)):=rfl
def ApO (e:Env) (z by_ d:Nat) (rows2:List (List D)) (K:Env->Prop) (r:Nat) (ob:D):Prop:=Q5 e z by_ d rows2 K r ob
@[congr] theorem ZJ {z by_ r:Nat} {rows2:List (List D)} {ob ob':D} (h:True->ob=ob'):ApO e z by_ d rows2 K r ob=ApO e z by_ d rows2 K r ob':=by rw [h trivial]
@[go_sem] theorem ab3 (z by_ r z':Nat) (rows rows2:List (List D)):ApO e z by_ d rows2 K r (.own z' rows)=(z'=z/\apN z by_ rows rows2 (jV r e) d K):=rfl
@[congr] theorem Vd {z by_:Nat} {x x':D} {y y':Option (List (List D))} (h1:True->x=x') (h2:True->y=y'):Aq e z by_ d K x y=Aq e z by_ d K x' y':=by rw [h1 trivial,h2 trivial]
@[go_sem] theorem ZO (z by_:Nat) (rows2:List (List D)):Aq e z by_ d K .nil (some rows2)=VI z by_ rows2 e d K:=by simp [Aq,VI,Norm,dm,SV,moK,yZ,Tj]
@[go_sem] theorem aag (z by_ r:Nat) (rows2:List (List D)):Aq e z by_ d K (.ref r) (some rows2)=ApO e z by_ d rows2 K r (dm (e.o r)):=rfl
def bo (e:Env) (x:List Nat) (k:Nat) (d:D):D:=pU e.o x k d
@[congr] theorem abv {x:List Nat} {k:Nat} {d d':D} (h:True->d=d'):bo e x k d=bo e x k d':=by rw [h trivial]
@[congr] theorem VO {x x' y y':D} {t t' t2 t2':Ty} (h1:True->x=x') (h2:True->y=y') (h3:True->t=t') (h4:True->t2=t2'):qM e d K x y t t2=qM e d K x' y' t' t2':=by rw [h1 trivial,h2 trivial,h3 trivial,h4 trivial]
@[go_sem] theorem acw (x y:D) (z by_ z2 b2:Nat) (a a2:Bool):qM e d K x y (.slice z by_ a) (.slice z2 b2 a2)=(by_<=2 ^ 32/\Aq e z by_ d K x (E3 z (bo e [] 2 (dm y)))):=rfl
@[congr] theorem VF {S:Prop} {x x' y y':D} {t t' t2 t2':Ty} (h1:True->x=x') (h2:True->y=y') (h3:True->t=t') (h4:True->t2=t2'):BH e d K S x y t t2=BH e d K S x' y' t' t2':=by rw [h1 trivial,h2 trivial,h3 trivial,h4 trivial]
@[go_sem] theorem TS (S:Prop)  (z:Nat) (rows:List (List D)) (t t2:Ty):BH e d K S .nil (.sl z rows) t t2=qM e d K .nil (.sl z rows) t t2:=rfl
@[go_sem] theorem TF (S:Prop) (r:Nat) (r':Nat) (t t2:Ty):BH e d K S (.ref r) (.ref r') t t2=qM e d K (.ref r) (.ref r') t t2:=rfl
@[go_sem] theorem Uf (S:Prop) (r:Nat) (z:Nat) (rows:List (List D)) (t t2:Ty):BH e d K S (.ref r) (.sl z rows) t t2=qM e d K (.ref r) (.sl z rows) t t2:=rfl
@[go_sem ↓] theorem WV (x y:Operand) (T T2:TypeId):j8 P n dr ⟨some d,.call ⟨.builtin .append,#[x,y],#[T,T2]⟩,ty,pos,after,gu⟩ e g K=(d < n/\g=true/\dr=false/\BH e d K (kW P n ⟨some d,.call ⟨.builtin .append,#[x,y],#[T,T2]⟩,ty,pos,after,gu⟩ e K) (dm (rd e x)) (rd e y) (bO P T) (bO P T2)):=rfl
@[go_sem ↓] theorem UW (x y:Operand) (T T2:TypeId):wM P n ⟨some d,.call ⟨.builtin .append,#[x,y],#[T,T2]⟩,ty,pos,after,gu⟩ e g K=(d < n/\g=true/\qM e d K (dm (rd e x)) (dm (rd e y)) (bO P T) (bO P T2)):=rfl
def vo:D->List D
 | .fn _ caps=>caps
 | _=>[]
@[go_sem] theorem X0 (f:FuncId) (caps:List D):vo (.fn f caps)=caps:=rfl
def aa (P:Program) (dr:Bool) (e:Env) (d:Nat) (f:Operand) (args:List Operand) (K:Env->Prop) (S:Prop) (fv:D) (as:List D):Prop:=fv=rd e f/\as=args.map (rd e)++vo (rd e f)->xk P dr e d f args K\/(dr=false/\S)
theorem aa.mk {f:Operand} {args:List Operand} {S:Prop}:(xk P dr e d f args K\/(dr=false/\S))=aa P dr e d f args K S (rd e f) (args.map (rd e)++vo (rd e f)):=by simp [aa]
@[congr] theorem UG {f:Operand} {args:List Operand} {S:Prop} {fv fv':D} {as as':List D} (h1:True->fv=fv') (h2:True->as=as'):aa P dr e d f args K S fv as=aa P dr e d f args K S fv' as':=by rw [h1 trivial,h2 trivial]
theorem aa.sem {f:Operand} {args:List Operand} {S:Prop} {fv:D} {as:List D} (hd:dr=false) (h:S):aa P dr e d f args K S fv as:=fun _=>.inr ⟨hd,h⟩
@[go_sem ↓] theorem abO (f:Operand) (args:Array Operand) (T:Array TypeId):j8 P n dr ⟨some d,.call ⟨.value f,args,T⟩,ty,pos,after,gu⟩ e g K =
  (d < n/\GK g (aa P dr e d f args.toList K (kW P n ⟨some d,.call ⟨.value f,args,T⟩,ty,pos,after,gu⟩ e K) (dm (rd e f)) (args.toList.map (rd e)++vo (rd e f))) (K (dj e d (.bI [])))):=by
 show (d < n/\GK g (xk P dr e d f args.toList K\/(dr=false/\kW P n ⟨some d,.call ⟨.value f,args,T⟩,ty,pos,after,gu⟩ e K)) (K (dj e d (.bI []))))=_
 rw [aa.mk];rfl
end
end Go.Abs
