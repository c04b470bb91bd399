/- The predicate on data, worked out by simp: code and operations. No theorem of a claim. -/
import Derived.Test.YtnkobepdbkmedaaGreatAbcMono
set_option linter.unusedSimpArgs false
set_option linter.unusedVariables false
namespace Go.Abs
section
variable {P:Program} {n np:Nat} {ops:List Oper} {e:Env} {g dr:Bool} {K:Env->Prop} {ty:TypeId} {pos:String} {after:Array Edge} {gu:Option (Nat × Bool)} {d:Nat}
def bm (b:Bool):Bool:=b
def em (e:Env):Env:=e
def dm (d:D):D:=d
def lm {α:Type} (l:List α):List α:=l
def nk (n:Nat):Nat:=n
@[go_sem] theorem agK (b:Bool):bm b=b:=Eq.trans rfl rfl
@[go_sem] theorem agM (e:Env):em e=e:=Eq.trans rfl rfl
@[go_sem] theorem af8 (d:D):dm d=d:=Eq.trans rfl rfl
@[go_sem] theorem agv {α:Type} (l:List α):lm l=l:=Eq.trans rfl rfl
@[go_sem] theorem agq (n:Nat):nk n=n:=Eq.trans rfl rfl
@[congr] theorem WB {v v':D} {k:D->Prop} (h:True->v=v'):Norm v k=Norm v' k:=by rw [h trivial]
@[go_sem] theorem ac7 (v:D) (k:D->Prop):Norm v k=k v:=rfl
def yH (r:Nat) (k:Nat->Prop):Prop:=k r
@[congr] theorem Us {v v':Nat} {k:Nat->Prop} (h:True->v=v'):yH v k=yH v' k:=by rw [h trivial]
@[go_sem] theorem aaz (v:Nat) (k:Nat->Prop):yH v k=k v:=rfl
def uK (e:Env) (d:Nat) (K:Env->Prop) (u:D):Prop:=K (dh e d u)
def lK (P:Program) (n:Nat) (ops r:List Oper) (K:Env->Prop) (e:Env):Prop:=wpList P n ops r e K
def lKD (P:Program) (n np:Nat) (ops r:List Oper) (K:Env->Prop) (e:Env):Prop:=kr P n np ops r e K
def oK (P:Program) (n:Nat) (o:Oper) (e:Env) (K:Env->Prop) (g:Bool):Prop:=j7 P n false o e g K
def HD (b:Bool) (x y:Prop):Prop:=if b then x else y
@[congr] theorem aai {b b':Bool} {x y:Prop} (h:True->b=b'):HD b x y=HD b' x y:=by rw [h trivial]
@[go_sem ↓] theorem adT (x y:Prop):HD true x y=x:=by simp [HD]
@[go_sem ↓] theorem Z2 (x y:Prop):HD false x y=y:=by simp [HD]
attribute [go_sem] Pn hard isApp LX aal jN Option.isSome_some Option.isSome_none
def oKD (P:Program) (n np:Nat) (ops:List Oper) (o:Oper) (e:Env) (K:Env->Prop) (g:Bool):Prop:=HD (jN o) (HD (isApp o) (w6 P n o e g K) (j7 P n false o e g K)) (Rx P n np ops o e g K)
@[go_sem ↓] theorem agZ (u:D):uK e d K u=K (dh e d u):=rfl
@[go_sem ↓] theorem agL (r:List Oper):lK P n ops r K e=wpList P n ops r e K:=rfl
@[go_sem ↓] theorem afI (r:List Oper):lKD P n np ops r K e=kr P n np ops r e K:=rfl
@[go_sem ↓] theorem ago (o:Oper):oK P n o e K g=j7 P n false o e g K:=rfl
@[go_sem ↓] theorem aey (o:Oper):oKD P n np ops o e K g=HD (jN o) (HD (isApp o) (w6 P n o e g K) (j7 P n false o e g K)) (Rx P n np ops o e g K):=rfl
def bI (P:Program) (n np:Nat) (a b:Code) (Q:Exit->Env->Prop) (e:Env) (v:D):Prop:=match v with
 | .bool t=>Mp t (lP P n np a Q e) (lP P n np b Q e)
 | _=>False
@[congr] theorem UC {a b:Code} {Q:Exit->Env->Prop} {v v':D} (h:True->v=v'):bI P n np a b Q e v=bI P n np a b Q e v':=by rw [h trivial]
@[go_sem] theorem VM (a b:Code) (Q:Exit->Env->Prop):bI P n np a b Q e (.bool true)=lP P n np a Q e:=by simp [bI,Mp]
@[go_sem] theorem UQ (a b:Code) (Q:Exit->Env->Prop):bI P n np a b Q e (.bool false)=lP P n np b Q e:=by simp [bI,Mp]
theorem bI.split {t:Bool} {a b:Code} {Q:Exit->Env->Prop} (h1:t=true->lP P n np a Q e) (h2:t=false->lP P n np b Q e):bI P n np a b Q e (.bool t):=⟨h1,h2⟩
theorem bI.aO {t:Bool} {a b:Code} {Q:Exit->Env->Prop} (h1:t=false->lP P n np a Q e) (h2:t=true->lP P n np b Q e):bI P n np a b Q e (.bool (!t)):=⟨fun h=>h1 (by simpa using h),fun h=>h2 (by simpa using h)⟩
@[go_sem ↓] theorem aaL (Q:Exit->Env->Prop):lP P n np .skip Q e=Q .normal e:=rfl
@[go_sem ↓] theorem TZ (id:Nat) (os:Array Oper) (Q:Exit->Env->Prop):lP P n np (.region id os false) Q e=wpList P n os.toList os.toList e (Q .normal):=by simp [lP]
def iB (np:Nat) (os:Array Oper):Prop:=Ux np os
@[congr] theorem Ue {m m':Nat} {os:Array Oper} (h:True->m=m'):iB m os=iB m' os:=by rw [h trivial]
theorem iB.mk {os:Array Oper} (h:yx np os=true):iB np os:=h
@[go_sem ↓] theorem UY (id:Nat) (os:Array Oper) (Q:Exit->Env->Prop):lP P n np (.region id os true) Q e=(iB (nk np) os/\kr P n np os.toList os.toList e (Q .normal)):=by simp [lP,iB,nk]
def Jh (P:Program) (n np:Nat) (b:Code) (Q:Exit->Env->Prop) (j:Bool):Env->Prop:=if j then fH (lP P n np b Q) else lP P n np b Q
@[go_sem ↓] theorem ac1 (a b:Code) (Q:Exit->Env->Prop):lP P n np (.seq a b) Q e=lP P n np a (qx (Jh P n np b Q (Gu a)) Q) e:=rfl
def Ll (P:Program) (n np:Nat) (b:Code) (Q:Exit->Env->Prop) (e:Env) (j:Bool):Prop:=Jh P n np b Q j e
@[congr] theorem W3 {b:Code} {Q:Exit->Env->Prop} {j j':Bool} (h:True->j=j'):Ll P n np b Q e j=Ll P n np b Q e j':=by rw [h trivial]
@[go_sem ↓] theorem ads (b:Code) (Q:Exit->Env->Prop) (j:Bool):Jh P n np b Q j e=Ll P n np b Q e j:=rfl
@[go_sem ↓] theorem WK (b:Code) (Q:Exit->Env->Prop):Ll P n np b Q e true=fH (lP P n np b Q) (em e):=by simp [Ll,Jh,em]
@[go_sem ↓] theorem UA (b:Code) (Q:Exit->Env->Prop):Ll P n np b Q e false=lP P n np b Q e:=by simp [Ll,Jh]
@[congr] theorem TS {K:Env->Prop} {e e':Env} (h:True->e=e'):fH K e=fH K e':=by rw [h trivial]
theorem fH.id (h:K e):fH K e:=.inl h
theorem fH.le (ts os:EL) (h:KC e ts os) (hk:K (sq ts os)):fH K e:=.inr ⟨ts,os,h,hk⟩
attribute [go_sem] falls Gu
@[congr] theorem VV {T:Type} {ts os:T->EL} {I:T->Prop} {e e':Env} (h:True->e=e'):Iy ts os I e=Iy ts os I e':=by rw [h trivial]
theorem I4 {b c:Code} {j:Bool} {id:Nat} {Q:Exit->Env->Prop} {T:Type} (ts os:T->EL) (I:T->Prop) (hj:j=true) (rest:∀ s,I s->lP P n np b Q (sq (ts s) (os s))) (hk:aC (lP P n np c) (mH id (qx (Iy ts os I) Q)) e) :
  aC (lP P n np c) (mH id (qx (Jh P n np b Q j) Q)) e:=by
 have:Jh P n np b Q j=fH (lP P n np b Q):=by simp [Jh,hj]
 rw [this];exact Tb ts os I rest hk
@[go_sem ↓] theorem abK (c:Operand) (a b:Code) (Q:Exit->Env->Prop):lP P n np (.cond c a b) Q e=bI P n np a b Q e (dm (rd e c)):=rfl
@[go_sem ↓] theorem Xv (id:Nat) (a:Code) (Q:Exit->Env->Prop):lP P n np (.block id a) Q e=lP P n np a (mH id Q) e:=rfl
@[go_sem ↓] theorem abQ (a:Code) (Q:Exit->Env->Prop):lP P n np (.loop a) Q e=aC (lP P n np a) Q (em e):=rfl
@[congr] theorem UI {b:(Exit->Env->Prop)->Env->Prop} {Q:Exit->Env->Prop} {e e':Env} (h:True->e=e'):aC b Q e=aC b Q e':=by rw [h trivial]
@[go_sem ↓] theorem abM (id:Nat) (Q:Exit->Env->Prop):lP P n np (.exit id) Q e=Q (.exit id) e:=rfl
@[go_sem ↓] theorem adu (Q:Exit->Env->Prop):lP P n np .ret Q e=Q .ret e:=rfl
@[go_sem ↓] theorem S7 (K:Env->Prop) (Q:Exit->Env->Prop):qx K Q .normal e=K e:=rfl
@[go_sem ↓] theorem U8 (K:Env->Prop) (Q:Exit->Env->Prop) (id:Nat):qx K Q (.exit id) e=Q (.exit id) e:=rfl
@[go_sem ↓] theorem XI (K:Env->Prop) (Q:Exit->Env->Prop):qx K Q .ret e=Q .ret e:=rfl
@[go_sem ↓] theorem Rw (id:Nat) (Q:Exit->Env->Prop):mH id Q .normal e=Q .normal e:=rfl
@[go_sem ↓] theorem UJ (id id':Nat) (Q:Exit->Env->Prop):mH id Q (.exit id') e=if id'=id then Q .normal e else Q (.exit id') e:=rfl
@[go_sem ↓] theorem Ws (id:Nat) (Q:Exit->Env->Prop):mH id Q .ret e=Q .ret e:=rfl
@[go_sem ↓] theorem aaX (rs:List ResultVar) (m:Nat) (hs':List D) (v:D):Py P rs m hs' v .ret e=Q1 P rs m hs' v e:=rfl
@[go_sem ↓] theorem Ub {T:Type} (ts os:T->EL) (I:T->Prop) (m:T->Nat) (s:T) (Q:Exit->Env->Prop) (id:Nat):tc ts os I m s Q (.exit id) e=Q (.exit id) e:=rfl
@[go_sem ↓] theorem W4 {T:Type} (ts os:T->EL) (I:T->Prop) (m:T->Nat) (s:T) (Q:Exit->Env->Prop):tc ts os I m s Q .ret e=Q .ret e:=rfl
@[go_sem ↓] theorem RL {T:Type} (ts os:T->EL) (I:T->Prop) (m:T->Nat) (s:T) (Q:Exit->Env->Prop):tc ts os I m s Q .normal e=ah ts os I m s (em e):=rfl
@[congr] theorem S9 {T:Type} {ts os:T->EL} {I:T->Prop} {m:T->Nat} {s:T} {e e':Env} (h:True->e=e'):ah ts os I m s e=ah ts os I m s e':=by rw [h trivial]
@[go_sem ↓] theorem wpList_nil:wpList P n ops [] e K=K e:=rfl
@[go_sem ↓] theorem UR (o:Oper) (r:List Oper):wpList P n ops (o :: r) e K=wpOp P n ops o e (lK P n ops r K):=rfl
@[go_sem ↓] theorem Up:kr P n np ops [] e K=K e:=rfl
@[go_sem ↓] theorem SR (o:Oper) (r:List Oper):kr P n np ops (o :: r) e K=gj P n np ops o e (lKD P n np ops r K):=rfl
@[go_sem ↓] theorem WM {α:Type} (l:List α):l.toArray.toList=l:=rfl
def bX (o:Option Bool) (k:Bool->Prop):Prop:=match o with
 | some g=>k g
 | none=>False
@[congr] theorem RX {o o':Option Bool} {k:Bool->Prop} (h:True->o=o'):bX o k=bX o' k:=by rw [h trivial]
@[go_sem] theorem Ul (k:Bool->Prop):bX (some true) k=k true:=rfl
@[go_sem] theorem Ti (k:Bool->Prop):bX (some false) k=k false:=rfl
theorem bX.split {g:Bool} {k:Bool->Prop} (h1:g=true->k true) (h2:g=false->k false):bX (some g) k:=by
 cases g with
 | true=>exact h1 rfl
 | false=>exact h2 rfl
theorem bX.aO {b:Bool} {k:Bool->Prop} (h1:b=false->k true) (h2:b=true->k false):bX (some (!b)) k:=by
 cases b with
 | true=>exact h2 rfl
 | false=>exact h1 rfl
@[go_sem ↓] theorem Xw (dst:Option Tmp) (op:Op):wpOp P n ops ⟨dst,op,ty,pos,after,none⟩ e K=j7 P n false ⟨dst,op,ty,pos,after,none⟩ e true K:=rfl
@[go_sem ↓] theorem YW (dst:Option Tmp) (op:Op) (p:Nat × Bool):wpOp P n ops ⟨dst,op,ty,pos,after,some p⟩ e K=bX (sj ops e (some p)) (oK P n ⟨dst,op,ty,pos,after,some p⟩ e K):=rfl
@[go_sem ↓] theorem Xc (dst:Option Tmp) (op:Op):gj P n np ops ⟨dst,op,ty,pos,after,none⟩ e K=HD (jN ⟨dst,op,ty,pos,after,none⟩) (HD (isApp ⟨dst,op,ty,pos,after,none⟩) (w6 P n ⟨dst,op,ty,pos,after,none⟩ e true K) (j7 P n false ⟨dst,op,ty,pos,after,none⟩ e true K)) (Rx P n np ops ⟨dst,op,ty,pos,after,none⟩ e true K):=rfl
@[go_sem ↓] theorem Va (dst:Option Tmp) (op:Op) (p:Nat × Bool):gj P n np ops ⟨dst,op,ty,pos,after,some p⟩ e K=bX (sj ops e (some p)) (oKD P n np ops ⟨dst,op,ty,pos,after,some p⟩ e K):=rfl
def Nh (o:Option Tmp) (e:Env) (w:Bool):Option Bool:=match o with
 | some t=>ET w (rd e (.tmp t))
 | none=>some false
@[congr] theorem UB {o o':Option Tmp} {w:Bool} (h:True->o=o'):Nh o e w=Nh o' e w:=by rw [h trivial]
@[go_sem ↓] theorem XG (j:Nat) (w:Bool):sj ops e (some (j,w))=Nh (rI ops j) e w:=rfl
@[go_sem ↓] theorem W1 (o:Oper) (r:List Oper):rI (o :: r) 0=o.dst:=rfl
@[go_sem ↓] theorem VY (o:Oper) (r:List Oper) (j:Nat):rI (o :: r) (j+1)=rI r j:=rfl
@[go_sem ↓] theorem Xk (t:Nat) (w:Bool):Nh (some t) e w=ET w (rd e (.tmp t)):=Eq.trans rfl rfl
@[go_sem] theorem VX (w b:Bool):ET w (.bool b)=some (b==w):=rfl
@[go_sem] theorem X7 (w:Bool):ET w (.bH [])=some false:=rfl
@[go_sem] theorem aeM (b:Bool):(b==true)=b:=by cases b<;>rfl
@[go_sem] theorem aeD (b:Bool):(b==false) = !b:=by cases b<;>rfl
@[congr] theorem Uy {g g':Bool} {ok ok':Prop} {v v':D} {k:D->Prop} (hg:True->g=g') (ho:g'=true->ok=ok') (hv:g'=true->v=v'):eW g ok v k=eW g' ok' v' k:=by
 obtain rfl:=hg trivial;cases g with
 | true=>rw [ho rfl,hv rfl]
 | false=>simp [eW,gd]
@[go_sem ↓] theorem VC (ok:Prop) (v:D) (k:D->Prop):eW true ok v k=(ok/\Norm (dm v) k):=by simp [eW,gd,Norm,dm]
@[go_sem ↓] theorem Ut (ok:Prop) (v:D) (k:D->Prop):eW false ok v k=k (.bH []):=by simp [eW,gd]
@[go_sem ↓] theorem adZ (a b:Prop):GK true a b=a:=by simp [GK]
@[go_sem ↓] theorem abd (a b:Prop):GK false a b=b:=by simp [GK]
def VJ (np:Nat) (ops:List Oper) (o:Oper) (l:List Nat):Prop:=zk np ops o l
@[congr] theorem Yu {o:Oper} {l l':List Nat} (h:True->l=l'):VJ np ops o l=VJ np ops o l':=by rw [h trivial]
@[go_sem] theorem acT (o:Oper):VJ np ops o []=True:=rfl
def Ah (np:Nat) (ops:List Oper) (o:Oper) (r:Nat):Prop:=vi np ops o r=true
@[congr] theorem YT {o:Oper} {r r':Nat} (h:True->r=r'):Ah np ops o r=Ah np ops o r':=by rw [h trivial]
theorem Ah.mk {o:Oper} {r:Nat} (h:vi np ops o r=true):Ah np ops o r:=h
@[go_sem] theorem aaS (o:Oper) (r:Nat) (l:List Nat):VJ np ops o (r :: l)=(Ah np ops o (nk r)/\VJ np ops o l):=rfl
@[go_sem ↓] theorem abF (o:Oper):Rx P n np ops o e true K=(VJ np ops o (lm (cz e o))/\j7 P n true o e true K):=by simp [Rx,VJ,lm]
@[go_sem ↓] theorem Ym (o:Oper):Rx P n np ops o e false K=j7 P n true o e false K:=by simp [Rx]
section
variable {dst:Option Tmp}
@[go_sem ↓] theorem Ud (t:TypeId) (a:Operand):cz e ⟨dst,.load t a,ty,pos,after,gu⟩=(rd e a).names:=rfl
@[go_sem ↓] theorem Ts (t:TypeId) (a x:Operand):cz e ⟨dst,.store t a x,ty,pos,after,gu⟩=(rd e a).names:=rfl
@[go_sem ↓] theorem Nw (t:TypeId) (x i:Operand):cz e ⟨dst,.indexAddr t x i,ty,pos,after,gu⟩=(rd e x).names:=rfl
@[go_sem ↓] theorem Ss (t:TypeId) (x:Operand) (a b c:Option Operand):cz e ⟨dst,.slice t x a b c,ty,pos,after,gu⟩=(rd e x).names:=rfl
@[go_sem ↓] theorem Uc (x:Operand):cz e ⟨dst,.move x,ty,pos,after,gu⟩=[]:=rfl
@[go_sem ↓] theorem Ry (x:Operand):cz e ⟨dst,.assign x,ty,pos,after,gu⟩=[]:=rfl
@[go_sem ↓] theorem UW (x y z:Operand):cz e ⟨dst,.pick x y z,ty,pos,after,gu⟩=[]:=rfl
@[go_sem ↓] theorem R6 (op:BinOp) (t t2:TypeId) (x y:Operand):cz e ⟨dst,.binOp op t x y t2,ty,pos,after,gu⟩=[]:=rfl
@[go_sem ↓] theorem TO (op:UnOp) (t:TypeId) (x:Operand):cz e ⟨dst,.unOp op t x,ty,pos,after,gu⟩=[]:=rfl
@[go_sem ↓] theorem QT (s t:TypeId) (x:Operand):cz e ⟨dst,.convert s t x,ty,pos,after,gu⟩=[]:=rfl
@[go_sem ↓] theorem OM (t:TypeId) (x:Operand) (f:Nat):cz e ⟨dst,.fieldAddr t x f,ty,pos,after,gu⟩=[]:=rfl
@[go_sem ↓] theorem TG (t:TypeId) (x i:Operand):cz e ⟨dst,.index t x i,ty,pos,after,gu⟩=[]:=rfl
@[go_sem ↓] theorem Pf (x:Operand):cz e ⟨dst,.nilCheck x,ty,pos,after,gu⟩=[]:=rfl
@[go_sem ↓] theorem Ro (x:Operand) (i:Nat):cz e ⟨dst,.extract x i,ty,pos,after,gu⟩=[]:=rfl
@[go_sem ↓] theorem Sj (t:TypeId) (ps:Array (Nat × Operand)):cz e ⟨dst,.build t ps,ty,pos,after,gu⟩=[]:=rfl
@[go_sem ↓] theorem ME (t:TypeId) (l:Nat) (ps:Array (Nat × Operand)):cz e ⟨dst,.buildSlice t l ps,ty,pos,after,gu⟩=[]:=rfl
@[go_sem ↓] theorem Tv (t:TypeId):cz e ⟨dst,.alloc t,ty,pos,after,gu⟩=[]:=rfl
def La (e:Env) (k:Nat) (l:List Nat):List Nat:=reach e.o k l
@[congr] theorem Wz {k:Nat} {l l':List Nat} (h:True->l=l'):La e k l=La e k l':=by rw [h trivial]
@[go_sem] theorem abO (k:Nat):La e k []=[]:=by
 unfold La
 induction k with
 | zero=>rfl
 | succ k ih=>simp only [reach,List.map_nil,D.cg,List.nil_append];exact ih
@[go_sem] theorem V4 (r:Nat) (l:List Nat):La e 4 (r :: l)=r :: l++La e 3 (lm (D.cg ((r :: l).map e.o))):=rfl
@[go_sem ↓] theorem SM (f:Operand) (args:Array Operand) (T:Array TypeId):cz e ⟨dst,.call ⟨.value f,args,T⟩,ty,pos,after,gu⟩=La e 4 (lm (D.cg (rd e f :: args.toList.map (rd e)))):=rfl
@[go_sem ↓] theorem Sr (b:Builtin) (args:Array Operand) (T:Array TypeId):cz e ⟨dst,.call ⟨.builtin b,args,T⟩,ty,pos,after,gu⟩=D.cg (args.toList.map (rd e)):=rfl
end
section
@[go_sem ↓] theorem abU (x:Operand):j7 P n dr ⟨some d,.move x,ty,pos,after,gu⟩ e g K=(d < n/\eW g True (rd e x) (uK e d K)):=rfl
@[go_sem ↓] theorem WU (x:Operand):j7 P n dr ⟨some d,.assign x,ty,pos,after,gu⟩ e g K=(d < n/\eW g True (rd e x) (uK e d K)):=rfl
@[go_sem ↓] theorem Ye (op:BinOp) (t t2:TypeId) (x y:Operand):j7 P n dr ⟨some d,.binOp op t x y t2,ty,pos,after,gu⟩ e g K=HD (Pn y) (g=true/\dr=false/\kW P n ⟨some d,.binOp op t x y t2,ty,pos,after,gu⟩ e K) (d < n/\eW g (sx P (isConst x||isConst y) op t (rd e x) (rd e y)) (xX op (rd e x) (rd e y)) (uK e d K)):=rfl
@[go_sem ↓] theorem aaM (op:UnOp) (t:TypeId) (x:Operand):j7 P n dr ⟨some d,.unOp op t x,ty,pos,after,gu⟩ e g K=(d < n/\eW g (pK op (rd e x)) (yV op (rd e x)) (uK e d K)):=rfl
@[go_sem ↓] theorem UH (s t:TypeId) (x:Operand):j7 P n dr ⟨some d,.convert s t x,ty,pos,after,gu⟩ e g K=(d < n/\eW g (B3 (bM P s) (bM P t) (rd e x)) (Ez (bM P s) (bM P t) (rd e x)) (uK e d K)):=rfl
def pk (p:Bool) (x y:D):D:=if p then x else y
def U3 (c x y:D):D:=match c with
 | .bool p=>pk p x y
 | _=>.undef
def Qv (c:D):Prop:=match c with
 | .bool _=>True
 | _=>False
@[go_sem] theorem WG (p:Bool) (x y:D):U3 (.bool p) x y=pk p x y:=rfl
@[go_sem] theorem T' (p:Bool):Qv (.bool p)=True:=rfl
@[congr] theorem aae {p p':Bool} {x x' y y':D} (hp:True->p=p') (hx:p'=true->x=x') (hy:p'=false->y=y'):pk p x y=pk p' x' y':=by
 obtain rfl:=hp trivial;cases p with
 | true=>simp only [pk,if_true];exact hx rfl
 | false=>simp only [pk];exact hy rfl
@[go_sem ↓] theorem acu (x y:D):pk true x y=x:=rfl
@[go_sem ↓] theorem abJ (x y:D):pk false x y=y:=rfl
@[go_sem ↓] theorem ab1 (c a b:Operand):j7 P n dr ⟨some d,.pick c a b,ty,pos,after,gu⟩ e g K=(d < n/\eW g (Qv (rd e c)) (U3 (rd e c) (rd e a) (rd e b)) (uK e d K)):=rfl
def faT (t:Ty) (f:Nat) (v:D):D:=match t with
 | .struct fs=>SZ fs f v
 | _=>.undef
def T7 (t:Ty) (f:Nat) (v:D):Prop:=match t with
 | .struct fs=>Nv fs f v
 | _=>False
@[go_sem] theorem ag2 (fs:List FT) (f:Nat) (v:D):faT (.struct fs) f v=SZ fs f v:=rfl
@[go_sem] theorem acN (fs:List FT) (f:Nat) (v:D):T7 (.struct fs) f v=Nv fs f v:=rfl
def aab (t:Ty) (f:Nat) (v:D):D:=match t with
 | .struct fs=>OY fs f v
 | _=>.undef
def PV (t:Ty) (f:Nat) (v:D):Prop:=match t with
 | .struct fs=>Fx fs f v
 | _=>False
@[go_sem] theorem afk (fs:List FT) (f:Nat) (v:D):aab (.struct fs) f v=OY fs f v:=rfl
@[go_sem] theorem abZ (fs:List FT) (f:Nat) (v:D):PV (.struct fs) f v=Fx fs f v:=rfl
@[go_sem ↓] theorem RG (t:TypeId) (x:Operand) (f:Nat):j7 P n dr ⟨some d,.fieldAddr t x f,ty,pos,after,gu⟩ e g K=(d < n/\eW g (T7 (bM P t) f (rd e x)) (faT (bM P t) f (rd e x)) (uK e d K)):=rfl
@[go_sem ↓] theorem Y6 (t:TypeId) (x:Operand) (f:Nat):j7 P n dr ⟨some d,.field t x f,ty,pos,after,gu⟩ e g K=(d < n/\eW g (PV (bM P t) f (rd e x)) (aab (bM P t) f (rd e x)) (uK e d K)):=rfl
def En (e:Env) (t:Ty) (x i:D):Prop:=H8 e t x i
@[congr] theorem Un {t t':Ty} {x x' i i':D} (h1:True->t=t') (h2:True->x=x') (h3:True->i=i'):En e t x i=En e t' x' i':=by rw [h1 trivial,h2 trivial,h3 trivial]
def YY (t:Ty) (x i:D):D:=Pa e0 t x i
theorem VN (e:Env) (t:Ty) (x i:D):Pa e t x i=YY t x i:=by unfold YY Pa;rfl
@[go_sem ↓] theorem RC (t:TypeId) (x i:Operand):j7 P n dr ⟨some d,.indexAddr t x i,ty,pos,after,gu⟩ e g K=(d < n/\eW g (En e (bM P t) (rd e x) (rd e i)) (YY (bM P t) (rd e x) (rd e i)) (uK e d K)):=by rw [<- VN e];rfl
@[go_sem ↓] theorem XE (t:TypeId) (x i:Operand):j7 P n dr ⟨some d,.index t x i,ty,pos,after,gu⟩ e g K=(d < n/\eW g (HT (bM P t) (rd e x) (rd e i)) (Z3 (bM P t) (rd e x) (rd e i)) (uK e d K)):=rfl
def Uh (e:Env) (l:Option qH) (a:D):D:=match l with
 | some l=>Tc e l a
 | none=>.undef
def zg (e:Env) (l:Option qH) (a:D):Prop:=match l with
 | some l=>Gh e l a
 | none=>False
@[congr] theorem ZG {l l':Option qH} {a a':D} (h1:True->l=l') (h2:True->a=a'):Uh e l a=Uh e l' a':=by rw [h1 trivial,h2 trivial]
@[congr] theorem U1 {l l':Option qH} {a a':D} (h1:True->l=l') (h2:True->a=a'):zg e l a=zg e l' a':=by rw [h1 trivial,h2 trivial]
@[go_sem] theorem Z0 (l:qH) (r o:Nat):Uh e (some l) (.addr r o)=ldB l o (e.o r):=rfl
@[go_sem] theorem XU (l:qH) (r z i k:Nat):Uh e (some l) (.bO r z i k)=ldW l i k (e.o r):=rfl
@[go_sem] theorem X2 (l:qH) (cs:List D):Uh e (some l) (.bF cs)=part l.agg 0 l.sz cs:=rfl
@[go_sem] theorem Wl (l:qH) (r o:Nat):zg e (some l) (.addr r o)=Mb l o (e.o r):=rfl
@[go_sem] theorem Um (l:qH) (r z i k:Nat):zg e (some l) (.bO r z i k)=Na l z i k (e.o r):=rfl
@[go_sem] theorem T4 (l:qH) (cs:List D):zg e (some l) (.bF cs)=(l.sz<=cs.length/\uH l):=rfl
@[go_sem] theorem acL (l:qH) (o:Nat) (cs:List D):ldB l o (.box cs)=part l.agg o l.sz cs:=rfl
@[go_sem] theorem Zg (l:qH) (o:Nat) (cs:List D):Mb l o (.box cs)=(o+l.sz<=cs.length/\uH l):=rfl
@[go_sem] theorem ac8 (l:qH) (i k z:Nat) (rows:List (List D)):ldW l i k (.own z rows)=part l.agg k l.sz (rows.getD i []):=rfl
@[go_sem] theorem Zt (l:qH) (z i k z':Nat) (rows:List (List D)):Na l z i k (.own z' rows)=(z'=z/\i < rows.length/\k+l.sz<=z/\uH l):=rfl
@[go_sem] theorem adI:uH ⟨false,1⟩=True:=by simp [uH]
@[go_sem] theorem adU (m:Nat):uH ⟨true,m⟩=(1<=m):=by simp [uH]
@[go_sem ↓] theorem aa6 (t:TypeId) (a:Operand):j7 P n dr ⟨some d,.load t a,ty,pos,after,gu⟩ e g K=(d < n/\eW g (zg e (bQ P t) (rd e a)) (Uh e (bQ P t) (rd e a)) (uK e d K)):=rfl
@[go_sem ↓] theorem To (x:Operand):j7 P n dr ⟨some d,.nilCheck x,ty,pos,after,gu⟩ e g K=(d < n/\eW g (Rh (rd e x)) (rd e x) (uK e d K)):=rfl
def abc (v:D) (i:Nat):D:=match v with
 | .bH ds=>ds.getD i .undef
 | _=>.undef
def T6 (v:D) (i:Nat):Prop:=match v with
 | .bH ds=>i < ds.length
 | _=>False
@[go_sem] theorem abE (ds:List D) (i:Nat):abc (.bH ds) i=ds.getD i .undef:=rfl
@[go_sem] theorem Y9 (ds:List D) (i:Nat):T6 (.bH ds) i=(i < ds.length):=rfl
@[go_sem ↓] theorem TV (x:Operand) (i:Nat):j7 P n dr ⟨some d,.extract x i,ty,pos,after,gu⟩ e g K=(d < n/\eW g (T6 (rd e x) i) (abc (rd e x) i) (uK e d K)):=rfl
@[go_sem ↓] theorem SU (f:FuncId) (first caps:Array Operand):j7 P n dr ⟨some d,.makeFunc (.func f) first caps,ty,pos,after,gu⟩ e g K=(d < n/\eW g (first = #[]) (.fn f (caps.toList.map (rd e))) (uK e d K)):=rfl
def K1 (e:Env) (t:Ty) (x:D):D:=Ga e t x
def u7 (e:Env) (t:Ty) (x:D):Prop:=v7 e t x
@[congr] theorem VT {t t':Ty} {x x':D} (h1:True->t=t') (h2:True->x=x'):K1 e t x=K1 e t' x':=by rw [h1 trivial,h2 trivial]
@[congr] theorem SW {t t':Ty} {x x':D} (h1:True->t=t') (h2:True->x=x'):u7 e t x=u7 e t' x':=by rw [h1 trivial,h2 trivial]
@[go_sem ↓] theorem ac0 (x:Operand) (T:TypeId):j7 P n dr ⟨some d,.call ⟨.builtin .len,#[x],#[T]⟩,ty,pos,after,gu⟩ e g K=(d < n/\eW g (u7 e (bM P T) (rd e x)) (K1 e (bM P T) (rd e x)) (uK e d K)):=rfl
@[go_sem ↓] theorem ad7 (l:List Operand) (T:Array TypeId):j7 P n dr ⟨some d,.call ⟨.builtin .max,l.toArray,T⟩,ty,pos,after,gu⟩ e g K=(d < n/\eW g (l≠[]/\pG (l.map (rd e))) (JC Ju (l.map (rd e))) (uK e d K)):=by simp only [j7,dB,gw];rfl
@[go_sem ↓] theorem adS (l:List Operand) (T:Array TypeId):j7 P n dr ⟨some d,.call ⟨.builtin .min,l.toArray,T⟩,ty,pos,after,gu⟩ e g K=(d < n/\eW g (l≠[]/\pG (l.map (rd e))) (JC HL (l.map (rd e))) (uK e d K)):=by simp only [j7,dB,gw];rfl
def aaK (e:Env) (t:Ty) (x lo hi:D):D:=match lo,hi with
 | .int _ l,.int _ h=>QJ e t x l.toNat h.toNat
 | _,_=>.undef
def Uf (e:Env) (t:Ty) (x lo:D) (hi:Option D):D:=aaK e t x lo (hi.getD (.int .i64 (Ii (Kl e t x))))
def wF (e:Env) (t:Ty) (x lo:D) (hi:Option D):Prop:=R2 (TP e t x) lo (hi.getD (.int .i64 (Ii (Kl e t x)))) fun _ _ _=>True
@[congr] theorem Yn {t t':Ty} {x x' lo lo':D} {hi hi':Option D} (h1:True->t=t') (h2:True->x=x') (h3:True->lo=lo') (h4:True->hi=hi'):Uf e t x lo hi=Uf e t' x' lo' hi':=by rw [h1 trivial,h2 trivial,h3 trivial,h4 trivial]
@[congr] theorem UX {t t':Ty} {x x' lo lo':D} {hi hi':Option D} (h1:True->t=t') (h2:True->x=x') (h3:True->lo=lo') (h4:True->hi=hi'):wF e t x lo hi=wF e t' x' lo' hi':=by rw [h1 trivial,h2 trivial,h3 trivial,h4 trivial]
def YE (e:Env) (lo:Option Operand):D:=Hs e 0 lo
@[go_sem ↓] theorem Z9:YE e none=.int .i64 0:=rfl
@[go_sem ↓] theorem ZX (x:Operand):YE e (some x)=rd e x:=rfl
@[go_sem ↓] theorem XC (t:TypeId) (x:Operand) (lo:Option Operand):j7 P n dr ⟨some d,.slice t x lo none none,ty,pos,after,gu⟩ e g K=(d < n/\eW g (wF e (bM P t) (rd e x) (YE e lo) none) (Uf e (bM P t) (rd e x) (YE e lo) none) (uK e d K)):=rfl
@[go_sem ↓] theorem WA (t:TypeId) (x:Operand) (lo:Option Operand) (hi:Operand):j7 P n dr ⟨some d,.slice t x lo (some hi) none,ty,pos,after,gu⟩ e g K=(d < n/\eW g (wF e (bM P t) (rd e x) (YE e lo) (some (rd e hi))) (Uf e (bM P t) (rd e x) (YE e lo) (some (rd e hi))) (uK e d K)):=rfl
def Gg (t:Ty) (ps:List (Nat × D)):List (Nat × Nat × D):=match t with
 | .struct fs=>ps.map fun x=>match fs[x.1]? with
  | some f=>(f.off,f.sz,x.2)
  | none=>(0,0,.undef)
 | .arr _ z _=>ps.map fun x=>(x.1*z,z,x.2)
 | _=>[]
theorem uO (t:TypeId) (parts:List (Nat × Operand)):dj P e t parts=Gg (bM P t) (parts.map fun x=>(x.1,rd e x.2)):=by
 unfold dj Gg;cases bM P t<;>simp only [List.map_map,Function.comp_def]<;>rfl
def Tu (t:Ty) (z:Option (List D)) (ps:List (Nat × D)):D:=match z with
 | some z=>.agg (j3 z (Gg t ps))
 | none=>.undef
def EP (t:Ty) (z:Option (List D)) (ps:List (Nat × D)):Prop:=match z with
 | some z=>(match t with
  | .struct fs=>∀ x∈ps,x.1 < fs.length
  | .arr _ _ _=>True
  | _=>False)/\lN z.length (Gg t ps)
 | none=>False
theorem LZ (t:TypeId) (parts:List (Nat × Operand)):AI P e t parts=EP (bM P t) (bZ P t) (parts.map fun x=>(x.1,rd e x.2)):=by
 unfold AI EP;rw [uO];cases hz:bZ P t with
 | none=>simp
 | some z =>
  simp only [Option.some.injEq,exists_eq_left',eq_iff_iff];refine and_congr ?_ Iff.rfl;cases bM P t<;>simp only;simp only [List.forall_mem_map]
@[go_sem ↓] theorem XN (t:TypeId) (parts:Array (Nat × Operand)):j7 P n dr ⟨some d,.build t parts,ty,pos,after,gu⟩ e g K =
  (d < n/\eW g (EP (bM P t) (bZ P t) (parts.toList.map fun x=>(x.1,rd e x.2))) (Tu (bM P t) (bZ P t) (parts.toList.map fun x=>(x.1,rd e x.2))) (uK e d K)):=by
 rw [<- LZ]
 have:Tu (bM P t) (bZ P t) (parts.toList.map fun x=>(x.1,rd e x.2))=gw P e (.build t parts):=by
  unfold gw Tu;simp only [uO];rfl
 rw [this];rfl
@[go_sem] theorem YS (t:Ty) (z:List D) (ps:List (Nat × D)):Tu t (some z) ps=.agg (j3 z (Gg t ps)):=rfl
@[go_sem] theorem U' (fs:List FT) (z:List D) (ps:List (Nat × D)):EP (.struct fs) (some z) ps=((∀ x∈ps,x.1 < fs.length)/\lN z.length (Gg (.struct fs) ps)):=rfl
@[go_sem] theorem X1 (n s:Nat) (a:Bool) (z:List D) (ps:List (Nat × D)):EP (.arr n s a) (some z) ps=lN z.length (Gg (.arr n s a) ps):=by simp [EP]
def ZQ (f:Option FT) (v:D):Nat × Nat × D:=match f with
 | some f=>(f.off,f.sz,v)
 | none=>(0,0,.undef)
@[go_sem] theorem TQ (fs:List FT) (ps:List (Nat × D)):Gg (.struct fs) ps=ps.map fun x=>ZQ fs[x.1]? x.2:=rfl
@[go_sem] theorem abS (n z:Nat) (a:Bool) (ps:List (Nat × D)):Gg (.arr n z a) ps=ps.map fun x=>(x.1*z,z,x.2):=rfl
@[go_sem] theorem Zx (o s:Nat) (a:Bool) (v:D):ZQ (some ⟨o,s,a⟩) v=(o,s,v):=rfl
@[go_sem] theorem abz (f:Nat × D->Prop):(∀ c∈([]:List (Nat × D)),f c)=True:=by simp
@[go_sem] theorem YL (f:Nat × D->Prop) (a:Nat × D) (l:List (Nat × D)):(∀ c∈a :: l,f c)=(f a/\∀ c∈l,f c):=by simp
@[go_sem] theorem abW (f:D->Prop):(∀ c∈([]:List D),f c)=True:=by simp
@[go_sem] theorem Zq (f:D->Prop) (a:D) (l:List D):(∀ c∈a :: l,f c)=(f a/\∀ c∈l,f c):=by simp
end
def R4 (d:D):Prop:=d=.undef
@[go_sem] theorem XZ:R4 .undef=True:=by simp [R4]
def moK (e:Env) (d:Nat) (K:Env->Prop) (ob:D) (r:Nat):Prop:=R4 (e.o r)/\K (dh (dY e r ob) d (.ref r))
def maK (e:Env) (d:Nat) (K:Env->Prop) (ob:D) (r:Nat):Prop:=R4 (e.o r)/\K (dh (dY e r ob) d (.addr r 0))
@[go_sem ↓] theorem aeK (ob:D) (r:Nat):moK e d K ob r=(R4 (e.o r)/\K (dh (dY e r ob) d (.ref r))):=rfl
@[go_sem ↓] theorem aeR (ob:D) (r:Nat):maK e d K ob r=(R4 (e.o r)/\K (dh (dY e r ob) d (.addr r 0))):=rfl
def TC (e:Env) (d:Nat) (K:Env->Prop) (ob:D):Prop:=yH (nm d 0) (moK e d K ob)
def maN (e:Env) (d:Nat) (K:Env->Prop) (ob:D):Prop:=yH (nm d 0) (maK e d K ob)
@[go_sem ↓] theorem ae2 (ob:D):TC e d K ob=yH (nm d 0) (moK e d K ob):=rfl
@[go_sem ↓] theorem afo (ob:D):maN e d K ob=yH (nm d 0) (maK e d K ob):=rfl
@[go_sem] theorem ahe (d k:Nat):nm d k=16*(d+1)+k:=rfl
def uoK (e:Env) (r:Nat) (K:Env->Prop) (ob:D):Prop:=K (dY e r ob)
@[go_sem ↓] theorem afi (r:Nat) (ob:D):uoK e r K ob=K (dY e r ob):=rfl
def QA (e:Env) (r off:Nat) (v:D) (K:Env->Prop) (l:Option qH) (ob:D):Prop:=
 match l,ob with
 | some l,.box cs=>off+l.sz<=cs.length/\v.cells.length=l.sz/\(∀ c∈v.cells,eG c)/\K (dY e r (.box (kB cs off v.cells)))
 | _,_=>False
def Re (e:Env) (r z i k:Nat) (v:D) (K:Env->Prop) (l:Option qH) (ob:D):Prop:=
 match l,ob with
 | some l,.own z' rows=>z'=z/\i < rows.length/\k+l.sz<=z/\v.cells.length=l.sz/\(∀ c∈v.cells,dn c)/\K (dY e r (.own z (rows.set i (kB (rows.getD i []) k v.cells))))
 | _,_=>False
@[congr] theorem VF {r off:Nat} {v:D} {l l':Option qH} {ob ob':D} (h1:True->l=l') (h2:True->ob=ob'):QA e r off v K l ob=QA e r off v K l' ob':=by rw [h1 trivial,h2 trivial]
@[congr] theorem WR {r z i k:Nat} {v:D} {l l':Option qH} {ob ob':D} (h1:True->l=l') (h2:True->ob=ob'):Re e r z i k v K l ob=Re e r z i k v K l' ob':=by rw [h1 trivial,h2 trivial]
@[go_sem] theorem abI (r off sz:Nat) (a:Bool) (v:D) (cs:List D):QA e r off v K (some ⟨a,sz⟩) (.box cs)=(off+sz<=cs.length/\v.cells.length=sz/\(∀ c∈v.cells,eG c)/\Norm (dm (.box (kB cs off v.cells))) (uoK e r K)):=rfl
@[go_sem] theorem abL (r z i k sz z':Nat) (a:Bool) (v:D) (rows:List (List D)):Re e r z i k v K (some ⟨a,sz⟩) (.own z' rows) =
  (z'=z/\i < rows.length/\k+sz<=z/\v.cells.length=sz/\(∀ c∈v.cells,dn c)/\Norm (dm (.own z (rows.set i (kB (rows.getD i []) k v.cells)))) (uoK e r K)):=rfl
@[go_sem ↓] theorem Z5 (t:TypeId) (r off:Nat) (v:D):OP P e t (.addr r off) K v=QA e r off v K (bQ P t) (e.o r):=by
 show W7 P e t r off v K (e.o r)=_
 unfold W7 QA;cases e.o r<;>cases bQ P t<;>rfl
@[go_sem ↓] theorem X3 (t:TypeId) (r z i k:Nat) (v:D):OP P e t (.bO r z i k) K v=Re e r z i k v K (bQ P t) (e.o r):=by
 show Xr P e t r z i k v K (e.o r)=_
 unfold Xr Re;cases e.o r<;>cases bQ P t<;>rfl
def stK (P:Program) (e:Env) (t:TypeId) (x:Operand) (K:Env->Prop) (a:D):Prop:=Norm (dm (rd e x)) (OP P e t a K)
@[go_sem ↓] theorem afr (t:TypeId) (x:Operand) (a:D):stK P e t x K a=Norm (dm (rd e x)) (OP P e t a K):=rfl
@[go_sem ↓] theorem XK (t:TypeId) (a x:Operand):j7 P n dr ⟨none,.store t a x,ty,pos,after,gu⟩ e g K=(g=true/\Norm (dm (rd e a)) (stK P e t x K)):=rfl
@[go_sem ↓] theorem acS (v:D):Tg e d K v=((∀ c∈v.cells,eG c)/\Norm (dm (.box v.cells)) (maN e d K)):=rfl
@[go_sem ↓] theorem adH (t:TypeId) (x:Operand):j7 P n dr ⟨some d,.box t x,ty,pos,after,gu⟩ e g K=(g=true/\d < n/\Norm (dm (rd e x)) (Tg e d K)):=rfl
@[congr] theorem Xp {z z':Option (List D)} (h:True->z=z'):OE e d K z=OE e d K z':=by rw [h trivial]
@[go_sem] theorem Y2 (z:List D):OE e d K (some z)=maN e d K (.box z):=rfl
@[go_sem ↓] theorem Zw (t:TypeId):j7 P n dr ⟨some d,.alloc t,ty,pos,after,gu⟩ e g K=(g=true/\d < n/\OE e d K (bZ P t)):=rfl
def BsC (e:Env) (d:Nat) (K:Env->Prop) (z len:Nat) (cs:List D):Prop:=(∀ c∈cs,dn c)/\Norm (dm (.own z (rowsOf z len cs))) (TC e d K)
@[congr] theorem Zu {z len:Nat} {cs cs':List D} (h:True->cs=cs'):BsC e d K z len cs=BsC e d K z len cs':=by rw [h trivial]
@[go_sem] theorem aez (z len:Nat) (cs:List D):BsC e d K z len cs=((∀ c∈cs,dn c)/\Norm (dm (.own z (rowsOf z len cs))) (TC e d K)):=rfl
def BsV (e:Env) (len d:Nat) (K:Env->Prop) (z:Nat) (zc:List D) (ps:List (Nat × Nat × D)):Prop:=
 len*z<=2 ^ 24/\zc.length=z/\lN (len*z) ps/\BsC e d K z len (lm (j3 (List.replicate len zc).flatten ps))
@[congr] theorem XL {len z:Nat} {zc:List D} {ps ps':List (Nat × Nat × D)} (h:True->ps=ps'):BsV e len d K z zc ps=BsV e len d K z zc ps':=by rw [h trivial]
@[go_sem] theorem aeE (len z:Nat) (zc:List D) (ps:List (Nat × Nat × D)):BsV e len d K z zc ps=(len*z<=2 ^ 24/\zc.length=z/\lN (len*z) ps/\BsC e d K z len (lm (j3 (List.replicate len zc).flatten ps))):=rfl
@[congr] theorem YQ {len:Nat} {ps:List (Nat × Operand)} {t t':Ty} {z z':Option (List D)} (h1:True->t=t') (h2:True->z=z'):NJ e len ps d K t z=NJ e len ps d K t' z':=by rw [h1 trivial,h2 trivial]
@[go_sem] theorem afc (len z by_:Nat) (a:Bool) (zc:List D) (ps:List (Nat × Operand)):NJ e len ps d K (.slice z by_ a) (some zc)=BsV e len d K z zc (lm (ps.map fun x=>(x.1*z,z,rd e x.2))):=rfl
def BsP (e:Env) (len:Nat) (ps:List (Nat × Operand)) (dr:Bool) (d:Nat) (K:Env->Prop) (t:Ty) (z:Option (List D)) (ns:List Nat):Prop:=(dr=true->ns=[])/\NJ (dL ns e) len ps d K t z
@[congr] theorem Yq {len:Nat} {ps:List (Nat × Operand)} {t:Ty} {z:Option (List D)} {ns ns':List Nat} (h:True->ns=ns'):BsP e len ps dr d K t z ns=BsP e len ps dr d K t z ns':=by rw [h trivial]
@[go_sem] theorem ab3 (len:Nat) (ps:List (Nat × Operand)) (t:Ty) (z:Option (List D)):BsP e len ps dr d K t z []=NJ e len ps d K t z:=by simp [BsP,dL]
@[go_sem ↓] theorem Ph (t:TypeId) (len:Nat) (parts:Array (Nat × Operand)):j7 P n dr ⟨some d,.buildSlice t len parts,ty,pos,after,gu⟩ e g K =
  (d < n/\GK g (BsP e len parts.toList dr d K (bM P t) (cj P t) (lm (D.cg (parts.toList.map fun x=>rd e x.2)))) (K (dh e d (.bH [])))):=rfl
@[congr] theorem Y0 {l l' c c':D} {t t':Ty} {z z':Option (List D)} (h1:True->l=l') (h2:True->c=c') (h3:True->t=t') (h4:True->z=z'):Pd e d K l c t z=Pd e d K l' c' t' z':=by rw [h1 trivial,h2 trivial,h3 trivial,h4 trivial]
@[go_sem] theorem afh (k k':IntKind) (l c:Int) (z by_:Nat) (a:Bool) (zc:List D):Pd e d K (.int k l) (.int k' c) (.slice z by_ a) (some zc) =
  (0<=l/\l<=c/\c<=2 ^ 40/\by_*c<=2 ^ 47/\zc.length=z/\(∀ d∈zc,dn d)/\Norm (dm (.own z (List.replicate l.toNat zc))) (TC e d K)):=rfl
@[go_sem ↓] theorem RF (t:TypeId) (l c:Operand):j7 P n dr ⟨some d,.makeSlice t l c,ty,pos,after,gu⟩ e g K=(d < n/\GK g (Pd e d K (dm (rd e l)) (rd e c) (bM P t) (cj P t)) (K (dh e d (.bH [])))):=rfl
def apN (z by_:Nat) (rows rows2:List (List D)) (e:Env) (d:Nat) (K:Env->Prop):Prop:=(by_+1)*(rows.length+rows2.length)<=2 ^ 45/\Norm (dm (.own z (rows++rows2))) (TC e d K)
@[go_sem ↓] theorem afp (z by_:Nat) (rows rows2:List (List D)):apN z by_ rows rows2 e d K=((by_+1)*(rows.length+rows2.length)<=2 ^ 45/\Norm (dm (.own z (rows++rows2))) (TC e d K)):=rfl
def Xh (z by_:Nat) (rows2:List (List D)) (e:Env) (d:Nat) (K:Env->Prop):Prop:=(by_+(1-by_))*rows2.length<=2 ^ 47/\Norm (dm (.own z rows2)) (TC e d K)
@[go_sem ↓] theorem acz (z by_:Nat) (rows2:List (List D)):Xh z by_ rows2 e d K=((by_+(1-by_))*rows2.length<=2 ^ 47/\Norm (dm (.own z rows2)) (TC e d K)):=rfl
def ApO (e:Env) (z by_ d:Nat) (rows2:List (List D)) (K:Env->Prop) (r:Nat) (ob:D):Prop:=Pu e z by_ d rows2 K r ob
@[congr] theorem XR {z by_ r:Nat} {rows2:List (List D)} {ob ob':D} (h:True->ob=ob'):ApO e z by_ d rows2 K r ob=ApO e z by_ d rows2 K r ob':=by rw [h trivial]
@[go_sem] theorem ado (z by_ r z':Nat) (rows rows2:List (List D)):ApO e z by_ d rows2 K r (.own z' rows)=(z'=z/\apN z by_ rows rows2 (jU r e) d K):=rfl
@[congr] theorem U7 {z by_:Nat} {x x':D} {y y':Option (List (List D))} (h1:True->x=x') (h2:True->y=y'):zG e z by_ d K x y=zG e z by_ d K x' y':=by rw [h1 trivial,h2 trivial]
@[go_sem] theorem aaO (z by_:Nat) (rows2:List (List D)):zG e z by_ d K .nil (some rows2)=Xh z by_ rows2 e d K:=by simp [zG,Xh,Norm,dm,TC,moK,yH,R4]
@[go_sem] theorem ZY (z by_ r:Nat) (rows2:List (List D)):zG e z by_ d K (.ref r) (some rows2)=ApO e z by_ d rows2 K r (dm (e.o r)):=rfl
def bo (e:Env) (x:List Nat) (k:Nat) (d:D):D:=pU e.o x k d
@[congr] theorem Z6 {x:List Nat} {k:Nat} {d d':D} (h:True->d=d'):bo e x k d=bo e x k d':=by rw [h trivial]
@[congr] theorem WD {x x' y y':D} {t t' t2 t2':Ty} (h1:True->x=x') (h2:True->y=y') (h3:True->t=t') (h4:True->t2=t2'):qW e d K x y t t2=qW e d K x' y' t' t2':=by rw [h1 trivial,h2 trivial,h3 trivial,h4 trivial]
@[go_sem] theorem acU (x y:D) (z by_ z2 b2:Nat) (a a2:Bool):qW e d K x y (.slice z by_ a) (.slice z2 b2 a2)=(by_<=2 ^ 32/\zG e z by_ d K x (Fk z (bo e [] 2 (dm y)))):=rfl
@[congr] theorem WZ {S:Prop} {x x' y y':D} {t t' t2 t2':Ty} (h1:True->x=x') (h2:True->y=y') (h3:True->t=t') (h4:True->t2=t2'):AT e d K S x y t t2=AT e d K S x' y' t' t2':=by rw [h1 trivial,h2 trivial,h3 trivial,h4 trivial]
@[go_sem] theorem Uw (S:Prop)  (z:Nat) (rows:List (List D)) (t t2:Ty):AT e d K S .nil (.sl z rows) t t2=qW e d K .nil (.sl z rows) t t2:=rfl
@[go_sem] theorem SD (S:Prop) (r:Nat) (r':Nat) (t t2:Ty):AT e d K S (.ref r) (.ref r') t t2=qW e d K (.ref r) (.ref r') t t2:=rfl
@[go_sem] theorem TJ (S:Prop) (r:Nat) (z:Nat) (rows:List (List D)) (t t2:Ty):AT e d K S (.ref r) (.sl z rows) t t2=qW e d K (.ref r) (.sl z rows) t t2:=rfl
@[go_sem ↓] theorem Vf (x y:Operand) (T T2:TypeId):j7 P n dr ⟨some d,.call ⟨.builtin .append,#[x,y],#[T,T2]⟩,ty,pos,after,gu⟩ e g K=(d < n/\g=true/\dr=false/\AT e d K (kW P n ⟨some d,.call ⟨.builtin .append,#[x,y],#[T,T2]⟩,ty,pos,after,gu⟩ e K) (dm (rd e x)) (rd e y) (bM P T) (bM P T2)):=rfl
@[go_sem ↓] theorem T1 (x y:Operand) (T T2:TypeId):w6 P n ⟨some d,.call ⟨.builtin .append,#[x,y],#[T,T2]⟩,ty,pos,after,gu⟩ e g K=(d < n/\g=true/\qW e d K (dm (rd e x)) (dm (rd e y)) (bM P T) (bM P T2)):=rfl
def vE:D->List D
 | .fn _ caps=>caps
 | _=>[]
@[go_sem] theorem Yo (f:FuncId) (caps:List D):vE (.fn f caps)=caps:=rfl
def aa (P:Program) (dr:Bool) (e:Env) (d:Nat) (f:Operand) (args:List Operand) (K:Env->Prop) (S:Prop) (fv:D) (as:List D):Prop:=fv=rd e f/\as=args.map (rd e)++vE (rd e f)->wH P dr e d f args K\/(dr=false/\S)
theorem aa.mk {f:Operand} {args:List Operand} {S:Prop}:(wH P dr e d f args K\/(dr=false/\S))=aa P dr e d f args K S (rd e f) (args.map (rd e)++vE (rd e f)):=by simp [aa]
@[congr] theorem TY {f:Operand} {args:List Operand} {S:Prop} {fv fv':D} {as as':List D} (h1:True->fv=fv') (h2:True->as=as'):aa P dr e d f args K S fv as=aa P dr e d f args K S fv' as':=by rw [h1 trivial,h2 trivial]
theorem aa.sem {f:Operand} {args:List Operand} {S:Prop} {fv:D} {as:List D} (hd:dr=false) (h:S):aa P dr e d f args K S fv as:=fun _=>.inr ⟨hd,h⟩
@[go_sem ↓] theorem aaY (f:Operand) (args:Array Operand) (T:Array TypeId):j7 P n dr ⟨some d,.call ⟨.value f,args,T⟩,ty,pos,after,gu⟩ e g K =
  (d < n/\GK g (aa P dr e d f args.toList K (kW P n ⟨some d,.call ⟨.value f,args,T⟩,ty,pos,after,gu⟩ e K) (dm (rd e f)) (args.toList.map (rd e)++vE (rd e f))) (K (dh e d (.bH [])))):=by
 show (d < n/\GK g (wH P dr e d f args.toList K\/(dr=false/\kW P n ⟨some d,.call ⟨.value f,args,T⟩,ty,pos,after,gu⟩ e K)) (K (dh e d (.bH []))))=_
 rw [aa.mk];rfl
end
end Go.Abs
