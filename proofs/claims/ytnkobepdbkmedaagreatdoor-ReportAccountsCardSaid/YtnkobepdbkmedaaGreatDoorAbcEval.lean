/- The predicate on data, worked out by simp: code and operations. No theorem of a claim. -/
import Derived.Test.YtnkobepdbkmedaaGreatDoorAbcMono
set_option linter.unusedSimpArgs false
set_option linter.unusedVariables false
namespace Go.Abs
section
variable {P:Program} {n np:Nat} {ops:List Oper} {e:Env} {g dr:Bool} {K:Env->Prop} {ty:TypeId} {pos:String} {after:Array Edge} {gu:Option (Nat × Bool)} {d:Nat}
def bm (b:Bool):Bool:=b
def em (e:Env):Env:=e
def dm (d:D):D:=d
def lm {α:Type} (l:List α):List α:=l
def nk (n:Nat):Nat:=n
@[go_sem] theorem akO (b:Bool):bm b=b:=Eq.trans rfl rfl
@[go_sem] theorem ajY (e:Env):em e=e:=Eq.trans rfl rfl
@[go_sem] theorem akM (d:D):dm d=d:=Eq.trans rfl rfl
@[go_sem] theorem aks {α:Type} (l:List α):lm l=l:=Eq.trans rfl rfl
@[go_sem] theorem akJ (n:Nat):nk n=n:=Eq.trans rfl rfl
@[congr] theorem aaH {v v':D} {k:D->Prop} (h:True->v=v'):Norm v k=Norm v' k:=by rw [h trivial]
@[go_sem] theorem ahe (v:D) (k:D->Prop):Norm v k=k v:=rfl
def Da (r:Nat) (k:Nat->Prop):Prop:=k r
@[congr] theorem XP {v v':Nat} {k:Nat->Prop} (h:True->v=v'):Da v k=Da v' k:=by rw [h trivial]
@[go_sem] theorem afI (v:Nat) (k:Nat->Prop):Da v k=k v:=rfl
def uK (e:Env) (d:Nat) (K:Env->Prop) (u:D):Prop:=K (dD e d u)
def lK (P:Program) (n:Nat) (ops r:List Oper) (K:Env->Prop) (e:Env):Prop:=wpList P n ops r e K
def lKD (P:Program) (n np:Nat) (ops r:List Oper) (K:Env->Prop) (e:Env):Prop:=lG P n np ops r e K
def oK (P:Program) (n:Nat) (o:Oper) (e:Env) (K:Env->Prop) (g:Bool):Prop:=kV P n false o e g K
def HD (b:Bool) (x y:Prop):Prop:=if b then x else y
@[congr] theorem adG {b b':Bool} {x y:Prop} (h:True->b=b'):HD b x y=HD b' x y:=by rw [h trivial]
@[go_sem ↓] theorem ahC (x y:Prop):HD true x y=x:=by simp [HD]
@[go_sem ↓] theorem aeI (x y:Prop):HD false x y=y:=by simp [HD]
attribute [go_sem] Tq hard isApp Ol ad0 kE Option.isSome_some Option.isSome_none
def oKD (P:Program) (n np:Nat) (ops:List Oper) (o:Oper) (e:Env) (K:Env->Prop) (g:Bool):Prop:=HD (kE o) (HD (isApp o) (Bo P n o e g K) (kV P n false o e g K)) (Vr P n np ops o e g K)
@[go_sem ↓] theorem ajr (u:D):uK e d K u=K (dD e d u):=rfl
@[go_sem ↓] theorem aj1 (r:List Oper):lK P n ops r K e=wpList P n ops r e K:=rfl
@[go_sem ↓] theorem ais (r:List Oper):lKD P n np ops r K e=lG P n np ops r e K:=rfl
@[go_sem ↓] theorem ajF (o:Oper):oK P n o e K g=kV P n false o e g K:=rfl
@[go_sem ↓] theorem aib (o:Oper):oKD P n np ops o e K g=HD (kE o) (HD (isApp o) (Bo P n o e g K) (kV P n false o e g K)) (Vr P n np ops o e g K):=rfl
def bH (P:Program) (n np:Nat) (a b:Code) (Q:Exit->Env->Prop) (e:Env) (v:D):Prop:=match v with
 | .bool t=>QT t (mo P n np a Q e) (mo P n np b Q e)
 | _=>False
@[congr] theorem XT {a b:Code} {Q:Exit->Env->Prop} {v v':D} (h:True->v=v'):bH P n np a b Q e v=bH P n np a b Q e v':=by rw [h trivial]
@[go_sem] theorem aat (a b:Code) (Q:Exit->Env->Prop):bH P n np a b Q e (.bool true)=mo P n np a Q e:=by simp [bH,QT]
@[go_sem] theorem Yw (a b:Code) (Q:Exit->Env->Prop):bH P n np a b Q e (.bool false)=mo P n np b Q e:=by simp [bH,QT]
theorem bH.split {t:Bool} {a b:Code} {Q:Exit->Env->Prop} (h1:t=true->mo P n np a Q e) (h2:t=false->mo P n np b Q e):bH P n np a b Q e (.bool t):=⟨h1,h2⟩
theorem bH.aS {t:Bool} {a b:Code} {Q:Exit->Env->Prop} (h1:t=false->mo P n np a Q e) (h2:t=true->mo P n np b Q e):bH P n np a b Q e (.bool (!t)):=⟨fun h=>h1 (by simpa using h),fun h=>h2 (by simpa using h)⟩
@[go_sem ↓] theorem afA (Q:Exit->Env->Prop):mo P n np .skip Q e=Q .normal e:=rfl
@[go_sem ↓] theorem XM (id:Nat) (os:Array Oper) (Q:Exit->Env->Prop):mo P n np (.region id os false) Q e=wpList P n os.toList os.toList e (Q .normal):=by simp [mo]
def gX (np:Nat) (os:Array Oper):Prop:=Xu np os
@[congr] theorem XI {m m':Nat} {os:Array Oper} (h:True->m=m'):gX m os=gX m' os:=by rw [h trivial]
theorem gX.mk {os:Array Oper} (h:BI np os=true):gX np os:=h
@[go_sem ↓] theorem XA (id:Nat) (os:Array Oper) (Q:Exit->Env->Prop):mo P n np (.region id os true) Q e=(gX (nk np) os/\lG P n np os.toList os.toList e (Q .normal)):=by simp [mo,gX,nk]
def Ln (P:Program) (n np:Nat) (b:Code) (Q:Exit->Env->Prop) (j:Bool):Env->Prop:=if j then fu (mo P n np b Q) else mo P n np b Q
@[go_sem ↓] theorem agQ (a b:Code) (Q:Exit->Env->Prop):mo P n np (.seq a b) Q e=mo P n np a (qP (Ln P n np b Q (JE a)) Q) e:=rfl
def O7 (P:Program) (n np:Nat) (b:Code) (Q:Exit->Env->Prop) (e:Env) (j:Bool):Prop:=Ln P n np b Q j e
@[congr] theorem Zc {b:Code} {Q:Exit->Env->Prop} {j j':Bool} (h:True->j=j'):O7 P n np b Q e j=O7 P n np b Q e j':=by rw [h trivial]
@[go_sem ↓] theorem agX (b:Code) (Q:Exit->Env->Prop) (j:Bool):Ln P n np b Q j e=O7 P n np b Q e j:=rfl
@[go_sem ↓] theorem aal (b:Code) (Q:Exit->Env->Prop):O7 P n np b Q e true=fu (mo P n np b Q) (em e):=by simp [O7,Ln,em]
@[go_sem ↓] theorem X3 (b:Code) (Q:Exit->Env->Prop):O7 P n np b Q e false=mo P n np b Q e:=by simp [O7,Ln]
@[congr] theorem YH {K:Env->Prop} {e e':Env} (h:True->e=e'):fu K e=fu K e':=by rw [h trivial]
theorem fu.id (h:K e):fu K e:=.inl h
theorem fu.le (ts os:EL) (h:PG e ts os) (hk:K (vl ts os)):fu K e:=.inr ⟨ts,os,h,hk⟩
attribute [go_sem] falls JE
@[congr] theorem Zo {T:Type} {ts os:T->EL} {I:T->Prop} {e e':Env} (h:True->e=e'):M6 ts os I e=M6 ts os I e':=by rw [h trivial]
theorem Ma {b c:Code} {j:Bool} {id:Nat} {Q:Exit->Env->Prop} {T:Type} (ts os:T->EL) (I:T->Prop) (hj:j=true) (rest:∀ s,I s->mo P n np b Q (vl (ts s) (os s))) (hk:aC (mo P n np c) (nx id (qP (M6 ts os I) Q)) e) :
  aC (mo P n np c) (nx id (qP (Ln P n np b Q j) Q)) e:=by
 have:Ln P n np b Q j=fu (mo P n np b Q):=by simp [Ln,hj]
 rw [this];exact VI ts os I rest hk
@[go_sem ↓] theorem ae8 (c:Operand) (a b:Code) (Q:Exit->Env->Prop):mo P n np (.cond c a b) Q e=bH P n np a b Q e (dm (rd e c)):=rfl
@[go_sem ↓] theorem abd (id:Nat) (a:Code) (Q:Exit->Env->Prop):mo P n np (.block id a) Q e=mo P n np a (nx id Q) e:=rfl
@[go_sem ↓] theorem afK (a:Code) (Q:Exit->Env->Prop):mo P n np (.loop a) Q e=aC (mo P n np a) Q (em e):=rfl
@[congr] theorem X5 {b:(Exit->Env->Prop)->Env->Prop} {Q:Exit->Env->Prop} {e e':Env} (h:True->e=e'):aC b Q e=aC b Q e':=by rw [h trivial]
@[go_sem ↓] theorem afz (id:Nat) (Q:Exit->Env->Prop):mo P n np (.exit id) Q e=Q (.exit id) e:=rfl
@[go_sem ↓] theorem agA (Q:Exit->Env->Prop):mo P n np .ret Q e=Q .ret e:=rfl
@[go_sem ↓] theorem VB (K:Env->Prop) (Q:Exit->Env->Prop):qP K Q .normal e=K e:=rfl
@[go_sem ↓] theorem aac (K:Env->Prop) (Q:Exit->Env->Prop) (id:Nat):qP K Q (.exit id) e=Q (.exit id) e:=rfl
@[go_sem ↓] theorem abv (K:Env->Prop) (Q:Exit->Env->Prop):qP K Q .ret e=Q .ret e:=rfl
@[go_sem ↓] theorem Vm (id:Nat) (Q:Exit->Env->Prop):nx id Q .normal e=Q .normal e:=rfl
@[go_sem ↓] theorem XQ (id id':Nat) (Q:Exit->Env->Prop):nx id Q (.exit id') e=if id'=id then Q .normal e else Q (.exit id') e:=rfl
@[go_sem ↓] theorem aaC (id:Nat) (Q:Exit->Env->Prop):nx id Q .ret e=Q .ret e:=rfl
@[go_sem ↓] theorem ad1 (rs:List ResultVar) (m:Nat) (hs':List D) (v:D):TP P rs m hs' v .ret e=Tg P rs m hs' v e:=rfl
@[go_sem ↓] theorem XH {T:Type} (ts os:T->EL) (I:T->Prop) (m:T->Nat) (s:T) (Q:Exit->Env->Prop) (id:Nat):tT ts os I m s Q (.exit id) e=Q (.exit id) e:=rfl
@[go_sem ↓] theorem Z3 {T:Type} (ts os:T->EL) (I:T->Prop) (m:T->Nat) (s:T) (Q:Exit->Env->Prop):tT ts os I m s Q .ret e=Q .ret e:=rfl
@[go_sem ↓] theorem Vj {T:Type} (ts os:T->EL) (I:T->Prop) (m:T->Nat) (s:T) (Q:Exit->Env->Prop):tT ts os I m s Q .normal e=ah ts os I m s (em e):=rfl
@[congr] theorem Xf {T:Type} {ts os:T->EL} {I:T->Prop} {m:T->Nat} {s:T} {e e':Env} (h:True->e=e'):ah ts os I m s e=ah ts os I m s e':=by rw [h trivial]
@[go_sem ↓] theorem wpList_nil:wpList P n ops [] e K=K e:=rfl
@[go_sem ↓] theorem YI (o:Oper) (r:List Oper):wpList P n ops (o :: r) e K=wpOp P n ops o e (lK P n ops r K):=rfl
@[go_sem ↓] theorem XD:lG P n np ops [] e K=K e:=rfl
@[go_sem ↓] theorem W5 (o:Oper) (r:List Oper):lG P n np ops (o :: r) e K=gE P n np ops o e (lKD P n np ops r K):=rfl
@[go_sem ↓] theorem aaG {α:Type} (l:List α):l.toArray.toList=l:=rfl
def bY (o:Option Bool) (k:Bool->Prop):Prop:=match o with
 | some g=>k g
 | none=>False
@[congr] theorem Wl {o o':Option Bool} {k:Bool->Prop} (h:True->o=o'):bY o k=bY o' k:=by rw [h trivial]
@[go_sem] theorem Yx (k:Bool->Prop):bY (some true) k=k true:=rfl
@[go_sem] theorem Xn (k:Bool->Prop):bY (some false) k=k false:=rfl
theorem bY.split {g:Bool} {k:Bool->Prop} (h1:g=true->k true) (h2:g=false->k false):bY (some g) k:=by
 cases g with
 | true=>exact h1 rfl
 | false=>exact h2 rfl
theorem bY.aS {b:Bool} {k:Bool->Prop} (h1:b=false->k true) (h2:b=true->k false):bY (some (!b)) k:=by
 cases b with
 | true=>exact h2 rfl
 | false=>exact h1 rfl
@[go_sem ↓] theorem abL (dst:Option Tmp) (op:Op):wpOp P n ops ⟨dst,op,ty,pos,after,none⟩ e K=kV P n false ⟨dst,op,ty,pos,after,none⟩ e true K:=rfl
@[go_sem ↓] theorem aa9 (dst:Option Tmp) (op:Op) (p:Nat × Bool):wpOp P n ops ⟨dst,op,ty,pos,after,some p⟩ e K=bY (tD ops e (some p)) (oK P n ⟨dst,op,ty,pos,after,some p⟩ e K):=rfl
@[go_sem ↓] theorem Zv (dst:Option Tmp) (op:Op):gE P n np ops ⟨dst,op,ty,pos,after,none⟩ e K=HD (kE ⟨dst,op,ty,pos,after,none⟩) (HD (isApp ⟨dst,op,ty,pos,after,none⟩) (Bo P n ⟨dst,op,ty,pos,after,none⟩ e true K) (kV P n false ⟨dst,op,ty,pos,after,none⟩ e true K)) (Vr P n np ops ⟨dst,op,ty,pos,after,none⟩ e true K):=rfl
@[go_sem ↓] theorem YM (dst:Option Tmp) (op:Op) (p:Nat × Bool):gE P n np ops ⟨dst,op,ty,pos,after,some p⟩ e K=bY (tD ops e (some p)) (oKD P n np ops ⟨dst,op,ty,pos,after,some p⟩ e K):=rfl
def Qw (o:Option Tmp) (e:Env) (w:Bool):Option Bool:=match o with
 | some t=>Jo w (rd e (.tmp t))
 | none=>some false
@[congr] theorem Yq {o o':Option Tmp} {w:Bool} (h:True->o=o'):Qw o e w=Qw o' e w:=by rw [h trivial]
@[go_sem ↓] theorem acf (j:Nat) (w:Bool):tD ops e (some (j,w))=Qw (tj ops j) e w:=rfl
@[go_sem ↓] theorem ZD (o:Oper) (r:List Oper):tj (o :: r) 0=o.dst:=rfl
@[go_sem ↓] theorem aaa (o:Oper) (r:List Oper) (j:Nat):tj (o :: r) (j+1)=tj r j:=rfl
@[go_sem ↓] theorem aav (t:Nat) (w:Bool):Qw (some t) e w=Jo w (rd e (.tmp t)):=Eq.trans rfl rfl
@[go_sem] theorem Zk (w b:Bool):Jo w (.bool b)=some (b==w):=rfl
@[go_sem] theorem abZ (w:Bool):Jo w (.bI [])=some false:=rfl
@[go_sem] theorem aif (b:Bool):(b==true)=b:=by cases b<;>rfl
@[go_sem] theorem aik (b:Bool):(b==false) = !b:=by cases b<;>rfl
@[congr] theorem Yp {g g':Bool} {ok ok':Prop} {v v':D} {k:D->Prop} (hg:True->g=g') (ho:g'=true->ok=ok') (hv:g'=true->v=v'):fm g ok v k=fm g' ok' v' k:=by
 obtain rfl:=hg trivial;cases g with
 | true=>rw [ho rfl,hv rfl]
 | false=>simp [fm,gd]
@[go_sem ↓] theorem aau (ok:Prop) (v:D) (k:D->Prop):fm true ok v k=(ok/\Norm (dm v) k):=by simp [fm,gd,Norm,dm]
@[go_sem ↓] theorem YF (ok:Prop) (v:D) (k:D->Prop):fm false ok v k=k (.bI []):=by simp [fm,gd]
@[go_sem ↓] theorem ag9 (a b:Prop):GK true a b=a:=by simp [GK]
@[go_sem ↓] theorem aeH (a b:Prop):GK false a b=b:=by simp [GK]
def Z8 (np:Nat) (ops:List Oper) (o:Oper) (l:List Nat):Prop:=Dj np ops o l
@[congr] theorem aa6 {o:Oper} {l l':List Nat} (h:True->l=l'):Z8 np ops o l=Z8 np ops o l':=by rw [h trivial]
@[go_sem] theorem agw (o:Oper):Z8 np ops o []=True:=rfl
def B1 (np:Nat) (ops:List Oper) (o:Oper) (r:Nat):Prop:=yX np ops o r=true
@[congr] theorem abn {o:Oper} {r r':Nat} (h:True->r=r'):B1 np ops o r=B1 np ops o r':=by rw [h trivial]
theorem B1.mk {o:Oper} {r:Nat} (h:yX np ops o r=true):B1 np ops o r:=h
@[go_sem] theorem adI (o:Oper) (r:Nat) (l:List Nat):Z8 np ops o (r :: l)=(B1 np ops o (nk r)/\Z8 np ops o l):=rfl
@[go_sem ↓] theorem aeE (o:Oper):Vr P n np ops o e true K=(Z8 np ops o (lm (cQ e o))/\kV P n true o e true K):=by simp [Vr,Z8,lm]
@[go_sem ↓] theorem acF (o:Oper):Vr P n np ops o e false K=kV P n true o e false K:=by simp [Vr]
section
variable {dst:Option Tmp}
@[go_sem ↓] theorem XN (t:TypeId) (a:Operand):cQ e ⟨dst,.load t a,ty,pos,after,gu⟩=(rd e a).names:=rfl
@[go_sem ↓] theorem V8 (t:TypeId) (a x:Operand):cQ e ⟨dst,.store t a x,ty,pos,after,gu⟩=(rd e a).names:=rfl
@[go_sem ↓] theorem RW (t:TypeId) (x i:Operand):cQ e ⟨dst,.indexAddr t x i,ty,pos,after,gu⟩=(rd e x).names:=rfl
@[go_sem ↓] theorem VS (t:TypeId) (x:Operand) (a b c:Option Operand):cQ e ⟨dst,.slice t x a b c,ty,pos,after,gu⟩=(rd e x).names:=rfl
@[go_sem ↓] theorem XY (x:Operand):cQ e ⟨dst,.move x,ty,pos,after,gu⟩=[]:=rfl
@[go_sem ↓] theorem Vw (x:Operand):cQ e ⟨dst,.assign x,ty,pos,after,gu⟩=[]:=rfl
@[go_sem ↓] theorem Yb (x y z:Operand):cQ e ⟨dst,.pick x y z,ty,pos,after,gu⟩=[]:=rfl
@[go_sem ↓] theorem Xa (op:BinOp) (t t2:TypeId) (x y:Operand):cQ e ⟨dst,.binOp op t x y t2,ty,pos,after,gu⟩=[]:=rfl
@[go_sem ↓] theorem Yz (op:UnOp) (t:TypeId) (x:Operand):cQ e ⟨dst,.unOp op t x,ty,pos,after,gu⟩=[]:=rfl
@[go_sem ↓] theorem Tf (s t:TypeId) (x:Operand):cQ e ⟨dst,.convert s t x,ty,pos,after,gu⟩=[]:=rfl
@[go_sem ↓] theorem RX (t:TypeId) (x:Operand) (f:Nat):cQ e ⟨dst,.fieldAddr t x f,ty,pos,after,gu⟩=[]:=rfl
@[go_sem ↓] theorem Wv (t:TypeId) (x i:Operand):cQ e ⟨dst,.index t x i,ty,pos,after,gu⟩=[]:=rfl
@[go_sem ↓] theorem Ta (x:Operand):cQ e ⟨dst,.nilCheck x,ty,pos,after,gu⟩=[]:=rfl
@[go_sem ↓] theorem Um (x:Operand) (i:Nat):cQ e ⟨dst,.extract x i,ty,pos,after,gu⟩=[]:=rfl
@[go_sem ↓] theorem WE (t:TypeId) (ps:Array (Nat × Operand)):cQ e ⟨dst,.build t ps,ty,pos,after,gu⟩=[]:=rfl
@[go_sem ↓] theorem QK (t:TypeId) (l:Nat) (ps:Array (Nat × Operand)):cQ e ⟨dst,.buildSlice t l ps,ty,pos,after,gu⟩=[]:=rfl
@[go_sem ↓] theorem Xm (t:TypeId):cQ e ⟨dst,.alloc t,ty,pos,after,gu⟩=[]:=rfl
def O3 (e:Env) (k:Nat) (l:List Nat):List Nat:=reach e.o k l
@[congr] theorem aaj {k:Nat} {l l':List Nat} (h:True->l=l'):O3 e k l=O3 e k l':=by rw [h trivial]
@[go_sem] theorem afa (k:Nat):O3 e k []=[]:=by
 unfold O3
 induction k with
 | zero=>rfl
 | succ k ih=>simp only [reach,List.map_nil,D.cq,List.nil_append];exact ih
@[go_sem] theorem Zi (r:Nat) (l:List Nat):O3 e 4 (r :: l)=r :: l++O3 e 3 (lm (D.cq ((r :: l).map e.o))):=rfl
@[go_sem ↓] theorem Wr (f:Operand) (args:Array Operand) (T:Array TypeId):cQ e ⟨dst,.call ⟨.value f,args,T⟩,ty,pos,after,gu⟩=O3 e 4 (lm (D.cq (rd e f :: args.toList.map (rd e)))):=rfl
@[go_sem ↓] theorem Wf (b:Builtin) (args:Array Operand) (T:Array TypeId):cQ e ⟨dst,.call ⟨.builtin b,args,T⟩,ty,pos,after,gu⟩=D.cq (args.toList.map (rd e)):=rfl
end
section
@[go_sem ↓] theorem adL (x:Operand):kV P n dr ⟨some d,.move x,ty,pos,after,gu⟩ e g K=(d < n/\fm g True (rd e x) (uK e d K)):=rfl
@[go_sem ↓] theorem aae (x:Operand):kV P n dr ⟨some d,.assign x,ty,pos,after,gu⟩ e g K=(d < n/\fm g True (rd e x) (uK e d K)):=rfl
@[go_sem ↓] theorem acT (op:BinOp) (t t2:TypeId) (x y:Operand):kV P n dr ⟨some d,.binOp op t x y t2,ty,pos,after,gu⟩ e g K=HD (Tq y) (g=true/\dr=false/\lS P n ⟨some d,.binOp op t x y t2,ty,pos,after,gu⟩ e K) (d < n/\fm g (uI P (isConst x||isConst y) op t (rd e x) (rd e y)) (Cf op (rd e x) (rd e y)) (uK e d K)):=rfl
@[go_sem ↓] theorem aeB (op:UnOp) (t:TypeId) (x:Operand):kV P n dr ⟨some d,.unOp op t x,ty,pos,after,gu⟩ e g K=(d < n/\fm g (qz op (rd e x)) (Dc op (rd e x)) (uK e d K)):=rfl
@[go_sem ↓] theorem YK (s t:TypeId) (x:Operand):kV P n dr ⟨some d,.convert s t x,ty,pos,after,gu⟩ e g K=(d < n/\fm g (Ft (bR P s) (bR P t) (rd e x)) (Is (bR P s) (bR P t) (rd e x)) (uK e d K)):=rfl
def pk (p:Bool) (x y:D):D:=if p then x else y
def Yo (c x y:D):D:=match c with
 | .bool p=>pk p x y
 | _=>.undef
def Ub (c:D):Prop:=match c with
 | .bool _=>True
 | _=>False
@[go_sem] theorem ZC (p:Bool) (x y:D):Yo (.bool p) x y=pk p x y:=rfl
@[go_sem] theorem X0 (p:Bool):Ub (.bool p)=True:=rfl
@[congr] theorem aen {p p':Bool} {x x' y y':D} (hp:True->p=p') (hx:p'=true->x=x') (hy:p'=false->y=y'):pk p x y=pk p' x' y':=by
 obtain rfl:=hp trivial;cases p with
 | true=>simp only [pk,if_true];exact hx rfl
 | false=>simp only [pk];exact hy rfl
@[go_sem ↓] theorem ahg (x y:D):pk true x y=x:=rfl
@[go_sem ↓] theorem afF (x y:D):pk false x y=y:=rfl
@[go_sem ↓] theorem aeT (c a b:Operand):kV P n dr ⟨some d,.pick c a b,ty,pos,after,gu⟩ e g K=(d < n/\fm g (Ub (rd e c)) (Yo (rd e c) (rd e a) (rd e b)) (uK e d K)):=rfl
def faT (t:Ty) (f:Nat) (v:D):D:=match t with
 | .struct fs=>W2 fs f v
 | _=>.undef
def YJ (t:Ty) (f:Nat) (v:D):Prop:=match t with
 | .struct fs=>RR fs f v
 | _=>False
@[go_sem] theorem ajB (fs:List FT) (f:Nat) (v:D):faT (.struct fs) f v=W2 fs f v:=rfl
@[go_sem] theorem ahr (fs:List FT) (f:Nat) (v:D):YJ (.struct fs) f v=RR fs f v:=rfl
def aep (t:Ty) (f:Nat) (v:D):D:=match t with
 | .struct fs=>Ro fs f v
 | _=>.undef
def Ve (t:Ty) (f:Nat) (v:D):Prop:=match t with
 | .struct fs=>H7 fs f v
 | _=>False
@[go_sem] theorem aiy (fs:List FT) (f:Nat) (v:D):aep (.struct fs) f v=Ro fs f v:=rfl
@[go_sem] theorem adx (fs:List FT) (f:Nat) (v:D):Ve (.struct fs) f v=H7 fs f v:=rfl
@[go_sem ↓] theorem Vv (t:TypeId) (x:Operand) (f:Nat):kV P n dr ⟨some d,.fieldAddr t x f,ty,pos,after,gu⟩ e g K=(d < n/\fm g (YJ (bR P t) f (rd e x)) (faT (bR P t) f (rd e x)) (uK e d K)):=rfl
@[go_sem ↓] theorem abf (t:TypeId) (x:Operand) (f:Nat):kV P n dr ⟨some d,.field t x f,ty,pos,after,gu⟩ e g K=(d < n/\fm g (Ve (bR P t) f (rd e x)) (aep (bR P t) f (rd e x)) (uK e d K)):=rfl
def Jl (e:Env) (t:Ty) (x i:D):Prop:=MI e t x i
@[congr] theorem X9 {t t':Ty} {x x' i i':D} (h1:True->t=t') (h2:True->x=x') (h3:True->i=i'):Jl e t x i=Jl e t' x' i':=by rw [h1 trivial,h2 trivial,h3 trivial]
def iaT (t:Ty) (x i:D):D:=S9 e0 t x i
theorem ZZ (e:Env) (t:Ty) (x i:D):S9 e t x i=iaT t x i:=by unfold iaT S9;rfl
@[go_sem ↓] theorem Vq (t:TypeId) (x i:Operand):kV P n dr ⟨some d,.indexAddr t x i,ty,pos,after,gu⟩ e g K=(d < n/\fm g (Jl e (bR P t) (rd e x) (rd e i)) (iaT (bR P t) (rd e x) (rd e i)) (uK e d K)):=by rw [<- ZZ e];rfl
@[go_sem ↓] theorem acm (t:TypeId) (x i:Operand):kV P n dr ⟨some d,.index t x i,ty,pos,after,gu⟩ e g K=(d < n/\fm g (MC (bR P t) (rd e x) (rd e i)) (ixV (bR P t) (rd e x) (rd e i)) (uK e d K)):=rfl
def Ya (e:Env) (l:Option rM) (a:D):D:=match l with
 | some l=>WD e l a
 | none=>.undef
def Df (e:Env) (l:Option rM) (a:D):Prop:=match l with
 | some l=>JY e l a
 | none=>False
@[congr] theorem acp {l l':Option rM} {a a':D} (h1:True->l=l') (h2:True->a=a'):Ya e l a=Ya e l' a':=by rw [h1 trivial,h2 trivial]
@[congr] theorem YB {l l':Option rM} {a a':D} (h1:True->l=l') (h2:True->a=a'):Df e l a=Df e l' a':=by rw [h1 trivial,h2 trivial]
@[go_sem] theorem aes (l:rM) (r o:Nat):Ya e (some l) (.addr r o)=ldB l o (e.o r):=rfl
@[go_sem] theorem abe (l:rM) (r z i k:Nat):Ya e (some l) (.bT r z i k)=ldW l i k (e.o r):=rfl
@[go_sem] theorem acR (l:rM) (cs:List D):Ya e (some l) (.bN cs)=part l.agg 0 l.sz cs:=rfl
@[go_sem] theorem ZG (l:rM) (r o:Nat):Df e (some l) (.addr r o)=PV l o (e.o r):=rfl
@[go_sem] theorem X2 (l:rM) (r z i k:Nat):Df e (some l) (.bT r z i k)=QB l z i k (e.o r):=rfl
@[go_sem] theorem Xo (l:rM) (cs:List D):Df e (some l) (.bN cs)=(l.sz<=cs.length/\xC l):=rfl
@[go_sem] theorem ahh (l:rM) (o:Nat) (cs:List D):ldB l o (.box cs)=part l.agg o l.sz cs:=rfl
@[go_sem] theorem acg (l:rM) (o:Nat) (cs:List D):PV l o (.box cs)=(o+l.sz<=cs.length/\xC l):=rfl
@[go_sem] theorem agK (l:rM) (i k z:Nat) (rows:List (List D)):ldW l i k (.own z rows)=part l.agg k l.sz (rows.getD i []):=rfl
@[go_sem] theorem acC (l:rM) (z i k z':Nat) (rows:List (List D)):QB l z i k (.own z' rows)=(z'=z/\i < rows.length/\k+l.sz<=z/\xC l):=rfl
@[go_sem] theorem ahv:xC ⟨false,1⟩=True:=by simp [xC]
@[go_sem] theorem ag6 (m:Nat):xC ⟨true,m⟩=(1<=m):=by simp [xC]
@[go_sem ↓] theorem aff (t:TypeId) (a:Operand):kV P n dr ⟨some d,.load t a,ty,pos,after,gu⟩ e g K=(d < n/\fm g (Df e (bX P t) (rd e a)) (Ya e (bX P t) (rd e a)) (uK e d K)):=rfl
@[go_sem ↓] theorem WQ (x:Operand):kV P n dr ⟨some d,.nilCheck x,ty,pos,after,gu⟩ e g K=(d < n/\fm g (U4 (rd e x)) (rd e x) (uK e d K)):=rfl
def aeV (v:D) (i:Nat):D:=match v with
 | .bI ds=>ds.getD i .undef
 | _=>.undef
def YA (v:D) (i:Nat):Prop:=match v with
 | .bI ds=>i < ds.length
 | _=>False
@[go_sem] theorem aer (ds:List D) (i:Nat):aeV (.bI ds) i=ds.getD i .undef:=rfl
@[go_sem] theorem aci (ds:List D) (i:Nat):YA (.bI ds) i=(i < ds.length):=rfl
@[go_sem ↓] theorem YE (x:Operand) (i:Nat):kV P n dr ⟨some d,.extract x i,ty,pos,after,gu⟩ e g K=(d < n/\fm g (YA (rd e x) i) (aeV (rd e x) i) (uK e d K)):=rfl
@[go_sem ↓] theorem VD (f:FuncId) (first caps:Array Operand):kV P n dr ⟨some d,.makeFunc (.func f) first caps,ty,pos,after,gu⟩ e g K=(d < n/\fm g (first = #[]) (.fn f (caps.toList.map (rd e))) (uK e d K)):=rfl
def OI (e:Env) (t:Ty) (x:D):D:=Kz e t x
def x4 (e:Env) (t:Ty) (x:D):Prop:=zO e t x
@[congr] theorem ZV {t t':Ty} {x x':D} (h1:True->t=t') (h2:True->x=x'):OI e t x=OI e t' x':=by rw [h1 trivial,h2 trivial]
@[congr] theorem Wx {t t':Ty} {x x':D} (h1:True->t=t') (h2:True->x=x'):x4 e t x=x4 e t' x':=by rw [h1 trivial,h2 trivial]
@[go_sem ↓] theorem af0 (x:Operand) (T:TypeId):kV P n dr ⟨some d,.call ⟨.builtin .len,#[x],#[T]⟩,ty,pos,after,gu⟩ e g K=(d < n/\fm g (x4 e (bR P T) (rd e x)) (OI e (bR P T) (rd e x)) (uK e d K)):=rfl
@[go_sem ↓] theorem ahk (l:List Operand) (T:Array TypeId):kV P n dr ⟨some d,.call ⟨.builtin .max,l.toArray,T⟩,ty,pos,after,gu⟩ e g K=(d < n/\fm g (l≠[]/\qj (l.map (rd e))) (NS My (l.map (rd e))) (uK e d K)):=by simp only [kV,dK,gO];rfl
@[go_sem ↓] theorem af4 (l:List Operand) (T:Array TypeId):kV P n dr ⟨some d,.call ⟨.builtin .min,l.toArray,T⟩,ty,pos,after,gu⟩ e g K=(d < n/\fm g (l≠[]/\qj (l.map (rd e))) (NS L0 (l.map (rd e))) (uK e d K)):=by simp only [kV,dK,gO];rfl
def aec (e:Env) (t:Ty) (x lo hi:D):D:=match lo,hi with
 | .int _ l,.int _ h=>Tu e t x l.toNat h.toNat
 | _,_=>.undef
def XK (e:Env) (t:Ty) (x lo:D) (hi:Option D):D:=aec e t x lo (hi.getD (.int .i64 (NT (Mi e t x))))
def Ah (e:Env) (t:Ty) (x lo:D) (hi:Option D):Prop:=Wa (YD e t x) lo (hi.getD (.int .i64 (NT (Mi e t x)))) fun _ _ _=>True
@[congr] theorem adq {t t':Ty} {x x' lo lo':D} {hi hi':Option D} (h1:True->t=t') (h2:True->x=x') (h3:True->lo=lo') (h4:True->hi=hi'):XK e t x lo hi=XK e t' x' lo' hi':=by rw [h1 trivial,h2 trivial,h3 trivial,h4 trivial]
@[congr] theorem X4 {t t':Ty} {x x' lo lo':D} {hi hi':Option D} (h1:True->t=t') (h2:True->x=x') (h3:True->lo=lo') (h4:True->hi=hi'):Ah e t x lo hi=Ah e t' x' lo' hi':=by rw [h1 trivial,h2 trivial,h3 trivial,h4 trivial]
def loT (e:Env) (lo:Option Operand):D:=J6 e 0 lo
@[go_sem ↓] theorem ad5:loT e none=.int .i64 0:=rfl
@[go_sem ↓] theorem adJ (x:Operand):loT e (some x)=rd e x:=rfl
@[go_sem ↓] theorem abb (t:TypeId) (x:Operand) (lo:Option Operand):kV P n dr ⟨some d,.slice t x lo none none,ty,pos,after,gu⟩ e g K=(d < n/\fm g (Ah e (bR P t) (rd e x) (loT e lo) none) (XK e (bR P t) (rd e x) (loT e lo) none) (uK e d K)):=rfl
@[go_sem ↓] theorem YP (t:TypeId) (x:Operand) (lo:Option Operand) (hi:Operand):kV P n dr ⟨some d,.slice t x lo (some hi) none,ty,pos,after,gu⟩ e g K=(d < n/\fm g (Ah e (bR P t) (rd e x) (loT e lo) (some (rd e hi))) (XK e (bR P t) (rd e x) (loT e lo) (some (rd e hi))) (uK e d K)):=rfl
def JV (t:Ty) (ps:List (Nat × D)):List (Nat × Nat × D):=match t with
 | .struct fs=>ps.map fun x=>match fs[x.1]? with
  | some f=>(f.off,f.sz,x.2)
  | none=>(0,0,.undef)
 | .arr _ z _=>ps.map fun x=>(x.1*z,z,x.2)
 | _=>[]
theorem xD (t:TypeId) (parts:List (Nat × Operand)):dG P e t parts=JV (bR P t) (parts.map fun x=>(x.1,rd e x.2)):=by
 unfold dG JV;cases bR P t<;>simp only [List.map_map,Function.comp_def]<;>rfl
def VG (t:Ty) (z:Option (List D)) (ps:List (Nat × D)):D:=match z with
 | some z=>.agg (kq z (JV t ps))
 | none=>.undef
def IV (t:Ty) (z:Option (List D)) (ps:List (Nat × D)):Prop:=match z with
 | some z=>(match t with
  | .struct fs=>∀ x∈ps,x.1 < fs.length
  | .arr _ _ _=>True
  | _=>False)/\lY z.length (JV t ps)
 | none=>False
theorem Pp (t:TypeId) (parts:List (Nat × Operand)):D3 P e t parts=IV (bR P t) (cK P t) (parts.map fun x=>(x.1,rd e x.2)):=by
 unfold D3 IV;rw [xD];cases hz:cK P t with
 | none=>simp
 | some z =>
  simp only [Option.some.injEq,exists_eq_left',eq_iff_iff];refine and_congr ?_ Iff.rfl;cases bR P t<;>simp only;simp only [List.forall_mem_map]
@[go_sem ↓] theorem ac9 (t:TypeId) (parts:Array (Nat × Operand)):kV P n dr ⟨some d,.build t parts,ty,pos,after,gu⟩ e g K =
  (d < n/\fm g (IV (bR P t) (cK P t) (parts.toList.map fun x=>(x.1,rd e x.2))) (VG (bR P t) (cK P t) (parts.toList.map fun x=>(x.1,rd e x.2))) (uK e d K)):=by
 rw [<- Pp]
 have:VG (bR P t) (cK P t) (parts.toList.map fun x=>(x.1,rd e x.2))=gO P e (.build t parts):=by
  unfold gO VG;simp only [xD];rfl
 rw [this];rfl
@[go_sem] theorem abr (t:Ty) (z:List D) (ps:List (Nat × D)):VG t (some z) ps=.agg (kq z (JV t ps)):=rfl
@[go_sem] theorem aao (fs:List FT) (z:List D) (ps:List (Nat × D)):IV (.struct fs) (some z) ps=((∀ x∈ps,x.1 < fs.length)/\lY z.length (JV (.struct fs) ps)):=rfl
@[go_sem] theorem abo (n s:Nat) (a:Bool) (z:List D) (ps:List (Nat × D)):IV (.arr n s a) (some z) ps=lY z.length (JV (.arr n s a) ps):=by simp [IV]
def aeC (f:Option FT) (v:D):Nat × Nat × D:=match f with
 | some f=>(f.off,f.sz,v)
 | none=>(0,0,.undef)
@[go_sem] theorem Yn (fs:List FT) (ps:List (Nat × D)):JV (.struct fs) ps=ps.map fun x=>aeC fs[x.1]? x.2:=rfl
@[go_sem] theorem afw (n z:Nat) (a:Bool) (ps:List (Nat × D)):JV (.arr n z a) ps=ps.map fun x=>(x.1*z,z,x.2):=rfl
@[go_sem] theorem abV (o s:Nat) (a:Bool) (v:D):aeC (some ⟨o,s,a⟩) v=(o,s,v):=rfl
@[go_sem] theorem aez (f:Nat × D->Prop):(∀ c∈([]:List (Nat × D)),f c)=True:=by simp
@[go_sem] theorem acJ (f:Nat × D->Prop) (a:Nat × D) (l:List (Nat × D)):(∀ c∈a :: l,f c)=(f a/\∀ c∈l,f c):=by simp
@[go_sem] theorem aeF (f:D->Prop):(∀ c∈([]:List D),f c)=True:=by simp
@[go_sem] theorem ada (f:D->Prop) (a:D) (l:List D):(∀ c∈a :: l,f c)=(f a/\∀ c∈l,f c):=by simp
end
def WN (d:D):Prop:=d=.undef
@[go_sem] theorem acz:WN .undef=True:=by simp [WN]
def moK (e:Env) (d:Nat) (K:Env->Prop) (ob:D) (r:Nat):Prop:=WN (e.o r)/\K (dD (eG e r ob) d (.ref r))
def maK (e:Env) (d:Nat) (K:Env->Prop) (ob:D) (r:Nat):Prop:=WN (e.o r)/\K (dD (eG e r ob) d (.addr r 0))
@[go_sem ↓] theorem ahZ (ob:D) (r:Nat):moK e d K ob r=(WN (e.o r)/\K (dD (eG e r ob) d (.ref r))):=rfl
@[go_sem ↓] theorem ai6 (ob:D) (r:Nat):maK e d K ob r=(WN (e.o r)/\K (dD (eG e r ob) d (.addr r 0))):=rfl
def VN (e:Env) (d:Nat) (K:Env->Prop) (ob:D):Prop:=Da (nm d 0) (moK e d K ob)
def maN (e:Env) (d:Nat) (K:Env->Prop) (ob:D):Prop:=Da (nm d 0) (maK e d K ob)
@[go_sem ↓] theorem ahS (ob:D):VN e d K ob=Da (nm d 0) (moK e d K ob):=rfl
@[go_sem ↓] theorem ai2 (ob:D):maN e d K ob=Da (nm d 0) (maK e d K ob):=rfl
@[go_sem] theorem ajP (d k:Nat):nm d k=16*(d+1)+k:=rfl
def uoK (e:Env) (r:Nat) (K:Env->Prop) (ob:D):Prop:=K (eG e r ob)
@[go_sem ↓] theorem ai8 (r:Nat) (ob:D):uoK e r K ob=K (eG e r ob):=rfl
def UF (e:Env) (r off:Nat) (v:D) (K:Env->Prop) (l:Option rM) (ob:D):Prop:=
 match l,ob with
 | some l,.box cs=>off+l.sz<=cs.length/\v.cells.length=l.sz/\(∀ c∈v.cells,eR c)/\K (eG e r (.box (lD cs off v.cells)))
 | _,_=>False
def TO (e:Env) (r z i k:Nat) (v:D) (K:Env->Prop) (l:Option rM) (ob:D):Prop:=
 match l,ob with
 | some l,.own z' rows=>z'=z/\i < rows.length/\k+l.sz<=z/\v.cells.length=l.sz/\(∀ c∈v.cells,dF c)/\K (eG e r (.own z (rows.set i (lD (rows.getD i []) k v.cells))))
 | _,_=>False
@[congr] theorem aaO {r off:Nat} {v:D} {l l':Option rM} {ob ob':D} (h1:True->l=l') (h2:True->ob=ob'):UF e r off v K l ob=UF e r off v K l' ob':=by rw [h1 trivial,h2 trivial]
@[congr] theorem Zg {r z i k:Nat} {v:D} {l l':Option rM} {ob ob':D} (h1:True->l=l') (h2:True->ob=ob'):TO e r z i k v K l ob=TO e r z i k v K l' ob':=by rw [h1 trivial,h2 trivial]
@[go_sem] theorem aed (r off sz:Nat) (a:Bool) (v:D) (cs:List D):UF e r off v K (some ⟨a,sz⟩) (.box cs)=(off+sz<=cs.length/\v.cells.length=sz/\(∀ c∈v.cells,eR c)/\Norm (dm (.box (lD cs off v.cells))) (uoK e r K)):=rfl
@[go_sem] theorem aem (r z i k sz z':Nat) (a:Bool) (v:D) (rows:List (List D)):TO e r z i k v K (some ⟨a,sz⟩) (.own z' rows) =
  (z'=z/\i < rows.length/\k+sz<=z/\v.cells.length=sz/\(∀ c∈v.cells,dF c)/\Norm (dm (.own z (rows.set i (lD (rows.getD i []) k v.cells)))) (uoK e r K)):=rfl
@[go_sem ↓] theorem afL (t:TypeId) (r off:Nat) (v:D):Sl P e t (.addr r off) K v=UF e r off v K (bX P t) (e.o r):=by
 show StB P e t r off v K (e.o r)=_
 unfold StB UF;cases e.o r<;>cases bX P t<;>rfl
@[go_sem ↓] theorem aa8 (t:TypeId) (r z i k:Nat) (v:D):Sl P e t (.bT r z i k) K v=TO e r z i k v K (bX P t) (e.o r):=by
 show StO P e t r z i k v K (e.o r)=_
 unfold StO TO;cases e.o r<;>cases bX P t<;>rfl
def stK (P:Program) (e:Env) (t:TypeId) (x:Operand) (K:Env->Prop) (a:D):Prop:=Norm (dm (rd e x)) (Sl P e t a K)
@[go_sem ↓] theorem ahJ (t:TypeId) (x:Operand) (a:D):stK P e t x K a=Norm (dm (rd e x)) (Sl P e t a K):=rfl
@[go_sem ↓] theorem abX (t:TypeId) (a x:Operand):kV P n dr ⟨none,.store t a x,ty,pos,after,gu⟩ e g K=(g=true/\Norm (dm (rd e a)) (stK P e t x K)):=rfl
@[go_sem ↓] theorem af9 (v:D):VO e d K v=((∀ c∈v.cells,eR c)/\Norm (dm (.box v.cells)) (maN e d K)):=rfl
@[go_sem ↓] theorem agO (t:TypeId) (x:Operand):kV P n dr ⟨some d,.box t x,ty,pos,after,gu⟩ e g K=(g=true/\d < n/\Norm (dm (rd e x)) (VO e d K)):=rfl
@[congr] theorem Ze {z z':Option (List D)} (h:True->z=z'):R6 e d K z=R6 e d K z':=by rw [h trivial]
@[go_sem] theorem acV (z:List D):R6 e d K (some z)=maN e d K (.box z):=rfl
@[go_sem ↓] theorem ab5 (t:TypeId):kV P n dr ⟨some d,.alloc t,ty,pos,after,gu⟩ e g K=(g=true/\d < n/\R6 e d K (cK P t)):=rfl
def BsC (e:Env) (d:Nat) (K:Env->Prop) (z len:Nat) (cs:List D):Prop:=(∀ c∈cs,dF c)/\Norm (dm (.own z (rowsOf z len cs))) (VN e d K)
@[congr] theorem acw {z len:Nat} {cs cs':List D} (h:True->cs=cs'):BsC e d K z len cs=BsC e d K z len cs':=by rw [h trivial]
@[go_sem] theorem ah9 (z len:Nat) (cs:List D):BsC e d K z len cs=((∀ c∈cs,dF c)/\Norm (dm (.own z (rowsOf z len cs))) (VN e d K)):=rfl
def BsV (e:Env) (len d:Nat) (K:Env->Prop) (z:Nat) (zc:List D) (ps:List (Nat × Nat × D)):Prop:=
 len*z<=2 ^ 24/\zc.length=z/\lY (len*z) ps/\BsC e d K z len (lm (kq (List.replicate len zc).flatten ps))
@[congr] theorem acZ {len z:Nat} {zc:List D} {ps ps':List (Nat × Nat × D)} (h:True->ps=ps'):BsV e len d K z zc ps=BsV e len d K z zc ps':=by rw [h trivial]
@[go_sem] theorem aiB (len z:Nat) (zc:List D) (ps:List (Nat × Nat × D)):BsV e len d K z zc ps=(len*z<=2 ^ 24/\zc.length=z/\lY (len*z) ps/\BsC e d K z len (lm (kq (List.replicate len zc).flatten ps))):=rfl
@[congr] theorem aba {len:Nat} {ps:List (Nat × Operand)} {t t':Ty} {z z':Option (List D)} (h1:True->t=t') (h2:True->z=z'):Ss e len ps d K t z=Ss e len ps d K t' z':=by rw [h1 trivial,h2 trivial]
@[go_sem] theorem ajb (len z by_:Nat) (a:Bool) (zc:List D) (ps:List (Nat × Operand)):Ss e len ps d K (.slice z by_ a) (some zc)=BsV e len d K z zc (lm (ps.map fun x=>(x.1*z,z,rd e x.2))):=rfl
def BsP (e:Env) (len:Nat) (ps:List (Nat × Operand)) (dr:Bool) (d:Nat) (K:Env->Prop) (t:Ty) (z:Option (List D)) (ns:List Nat):Prop:=(dr=true->ns=[])/\Ss (fM ns e) len ps d K t z
@[congr] theorem abS {len:Nat} {ps:List (Nat × Operand)} {t:Ty} {z:Option (List D)} {ns ns':List Nat} (h:True->ns=ns'):BsP e len ps dr d K t z ns=BsP e len ps dr d K t z ns':=by rw [h trivial]
@[go_sem] theorem agD (len:Nat) (ps:List (Nat × Operand)) (t:Ty) (z:Option (List D)):BsP e len ps dr d K t z []=Ss e len ps d K t z:=by simp [BsP,fM]
@[go_sem ↓] theorem U9 (t:TypeId) (len:Nat) (parts:Array (Nat × Operand)):kV P n dr ⟨some d,.buildSlice t len parts,ty,pos,after,gu⟩ e g K =
  (d < n/\GK g (BsP e len parts.toList dr d K (bR P t) (bE P t) (lm (D.cq (parts.toList.map fun x=>rd e x.2)))) (K (dD e d (.bI [])))):=rfl
@[congr] theorem ab8 {l l' c c':D} {t t':Ty} {z z':Option (List D)} (h1:True->l=l') (h2:True->c=c') (h3:True->t=t') (h4:True->z=z'):Td e d K l c t z=Td e d K l' c' t' z':=by rw [h1 trivial,h2 trivial,h3 trivial,h4 trivial]
@[go_sem] theorem aiz (k k':IntKind) (l c:Int) (z by_:Nat) (a:Bool) (zc:List D):Td e d K (.int k l) (.int k' c) (.slice z by_ a) (some zc) =
  (0<=l/\l<=c/\c<=2 ^ 40/\by_*c<=2 ^ 47/\zc.length=z/\(∀ d∈zc,dF d)/\Norm (dm (.own z (List.replicate l.toNat zc))) (VN e d K)):=rfl
@[go_sem ↓] theorem Vs (t:TypeId) (l c:Operand):kV P n dr ⟨some d,.makeSlice t l c,ty,pos,after,gu⟩ e g K=(d < n/\GK g (Td e d K (dm (rd e l)) (rd e c) (bR P t) (bE P t)) (K (dD e d (.bI [])))):=rfl
def apN (z by_:Nat) (rows rows2:List (List D)) (e:Env) (d:Nat) (K:Env->Prop):Prop:=(by_+1)*(rows.length+rows2.length)<=2 ^ 45/\Norm (dm (.own z (rows++rows2))) (VN e d K)
@[go_sem ↓] theorem aip (z by_:Nat) (rows rows2:List (List D)):apN z by_ rows rows2 e d K=((by_+1)*(rows.length+rows2.length)<=2 ^ 45/\Norm (dm (.own z (rows++rows2))) (VN e d K)):=rfl
def YT (z by_:Nat) (rows2:List (List D)) (e:Env) (d:Nat) (K:Env->Prop):Prop:=(by_+(1-by_))*rows2.length<=2 ^ 47/\Norm (dm (.own z rows2)) (VN e d K)
@[go_sem ↓] theorem agG (z by_:Nat) (rows2:List (List D)):YT z by_ rows2 e d K=((by_+(1-by_))*rows2.length<=2 ^ 47/\Norm (dm (.own z rows2)) (VN e d K)):=rfl
def ApO (e:Env) (z by_ d:Nat) (rows2:List (List D)) (K:Env->Prop) (r:Nat) (ob:D):Prop:=Ux e z by_ d rows2 K r ob
@[congr] theorem ab3 {z by_ r:Nat} {rows2:List (List D)} {ob ob':D} (h:True->ob=ob'):ApO e z by_ d rows2 K r ob=ApO e z by_ d rows2 K r ob':=by rw [h trivial]
@[go_sem] theorem ag7 (z by_ r z':Nat) (rows rows2:List (List D)):ApO e z by_ d rows2 K r (.own z' rows)=(z'=z/\apN z by_ rows rows2 (kj r e) d K):=rfl
@[congr] theorem Zh {z by_:Nat} {x x':D} {y y':Option (List (List D))} (h1:True->x=x') (h2:True->y=y'):DU e z by_ d K x y=DU e z by_ d K x' y':=by rw [h1 trivial,h2 trivial]
@[go_sem] theorem aeJ (z by_:Nat) (rows2:List (List D)):DU e z by_ d K .nil (some rows2)=YT z by_ rows2 e d K:=by simp [DU,YT,Norm,dm,VN,moK,Da,WN]
@[go_sem] theorem adY (z by_ r:Nat) (rows2:List (List D)):DU e z by_ d K (.ref r) (some rows2)=ApO e z by_ d rows2 K r (dm (e.o r)):=rfl
def bo (e:Env) (x:List Nat) (k:Nat) (d:D):D:=qJ e.o x k d
@[congr] theorem adu {x:List Nat} {k:Nat} {d d':D} (h:True->d=d'):bo e x k d=bo e x k d':=by rw [h trivial]
@[congr] theorem ZN {x x' y y':D} {t t' t2 t2':Ty} (h1:True->x=x') (h2:True->y=y') (h3:True->t=t') (h4:True->t2=t2'):sA e d K x y t t2=sA e d K x' y' t' t2':=by rw [h1 trivial,h2 trivial,h3 trivial,h4 trivial]
@[go_sem] theorem afU (x y:D) (z by_ z2 b2:Nat) (a a2:Bool):sA e d K x y (.slice z by_ a) (.slice z2 b2 a2)=(by_<=2 ^ 32/\DU e z by_ d K x (Jt z (bo e [] 2 (dm y)))):=rfl
@[congr] theorem aag {S:Prop} {x x' y y':D} {t t' t2 t2':Ty} (h1:True->x=x') (h2:True->y=y') (h3:True->t=t') (h4:True->t2=t2'):EG e d K S x y t t2=EG e d K S x' y' t' t2':=by rw [h1 trivial,h2 trivial,h3 trivial,h4 trivial]
@[go_sem] theorem XX (S:Prop)  (z:Nat) (rows:List (List D)) (t t2:Ty):EG e d K S .nil (.sl z rows) t t2=sA e d K .nil (.sl z rows) t t2:=rfl
@[go_sem] theorem V7 (S:Prop) (r:Nat) (r':Nat) (t t2:Ty):EG e d K S (.ref r) (.ref r') t t2=sA e d K (.ref r) (.ref r') t t2:=rfl
@[go_sem] theorem Xy (S:Prop) (r:Nat) (z:Nat) (rows:List (List D)) (t t2:Ty):EG e d K S (.ref r) (.sl z rows) t t2=sA e d K (.ref r) (.sl z rows) t t2:=rfl
@[go_sem ↓] theorem Z5 (x y:Operand) (T T2:TypeId):kV P n dr ⟨some d,.call ⟨.builtin .append,#[x,y],#[T,T2]⟩,ty,pos,after,gu⟩ e g K=(d < n/\g=true/\dr=false/\EG e d K (lS P n ⟨some d,.call ⟨.builtin .append,#[x,y],#[T,T2]⟩,ty,pos,after,gu⟩ e K) (dm (rd e x)) (rd e y) (bR P T) (bR P T2)):=rfl
@[go_sem ↓] theorem XW (x y:Operand) (T T2:TypeId):Bo P n ⟨some d,.call ⟨.builtin .append,#[x,y],#[T,T2]⟩,ty,pos,after,gu⟩ e g K=(d < n/\g=true/\sA e d K (dm (rd e x)) (dm (rd e y)) (bR P T) (bR P T2)):=rfl
def CI:D->List D
 | .fn _ caps=>caps
 | _=>[]
@[go_sem] theorem acX (f:FuncId) (caps:List D):CI (.fn f caps)=caps:=rfl
def aa (P:Program) (dr:Bool) (e:Env) (d:Nat) (f:Operand) (args:List Operand) (K:Env->Prop) (S:Prop) (fv:D) (as:List D):Prop:=fv=rd e f/\as=args.map (rd e)++CI (rd e f)->Ao P dr e d f args K\/(dr=false/\S)
theorem aa.mk {f:Operand} {args:List Operand} {S:Prop}:(Ao P dr e d f args K\/(dr=false/\S))=aa P dr e d f args K S (rd e f) (args.map (rd e)++CI (rd e f)):=by simp [aa]
@[congr] theorem XR {f:Operand} {args:List Operand} {S:Prop} {fv fv':D} {as as':List D} (h1:True->fv=fv') (h2:True->as=as'):aa P dr e d f args K S fv as=aa P dr e d f args K S fv' as':=by rw [h1 trivial,h2 trivial]
theorem aa.sem {f:Operand} {args:List Operand} {S:Prop} {fv:D} {as:List D} (hd:dr=false) (h:S):aa P dr e d f args K S fv as:=fun _=>.inr ⟨hd,h⟩
@[go_sem ↓] theorem afE (f:Operand) (args:Array Operand) (T:Array TypeId):kV P n dr ⟨some d,.call ⟨.value f,args,T⟩,ty,pos,after,gu⟩ e g K =
  (d < n/\GK g (aa P dr e d f args.toList K (lS P n ⟨some d,.call ⟨.value f,args,T⟩,ty,pos,after,gu⟩ e K) (dm (rd e f)) (args.toList.map (rd e)++CI (rd e f))) (K (dD e d (.bI [])))):=by
 show (d < n/\GK g (Ao P dr e d f args.toList K\/(dr=false/\lS P n ⟨some d,.call ⟨.value f,args,T⟩,ty,pos,after,gu⟩ e K)) (K (dD e d (.bI []))))=_
 rw [aa.mk];rfl
end
end Go.Abs
