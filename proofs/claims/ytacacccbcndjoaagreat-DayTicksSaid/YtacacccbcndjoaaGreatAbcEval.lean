/- The predicate on data, worked out by simp: code and operations. No theorem of a claim. -/
import Derived.Test.YtacacccbcndjoaaGreatAbcMono
set_option linter.unusedSimpArgs false
set_option linter.unusedVariables false
namespace Go.Abs
section
variable {P:Program} {n np:Nat} {ops:List Oper} {e:Env} {g dr:Bool} {K:Env->Prop} {ty:TypeId} {pos:String} {after:Array Edge} {gu:Option (Nat × Bool)} {d:Nat}
def bm (b:Bool):Bool:=b
def em (e:Env):Env:=e
def dm (d:D):D:=d
def lm {α:Type} (l:List α):List α:=l
def nk (n:Nat):Nat:=n
@[go_sem] theorem agM (b:Bool):bm b=b:=Eq.trans rfl rfl
@[go_sem] theorem ahR (e:Env):em e=e:=Eq.trans rfl rfl
@[go_sem] theorem agN (d:D):dm d=d:=Eq.trans rfl rfl
@[go_sem] theorem ah0 {α:Type} (l:List α):lm l=l:=Eq.trans rfl rfl
@[go_sem] theorem ahc (n:Nat):nk n=n:=Eq.trans rfl rfl
@[congr] theorem Wy {v v':D} {k:D->Prop} (h:True->v=v'):Norm v k=Norm v' k:=by rw [h trivial]
@[go_sem] theorem ada (v:D) (k:D->Prop):Norm v k=k v:=rfl
def sq (r:Nat) (k:Nat->Prop):Prop:=k r
@[congr] theorem UZ {v v':Nat} {k:Nat->Prop} (h:True->v=v'):sq v k=sq v' k:=by rw [h trivial]
@[go_sem] theorem aaH (v:Nat) (k:Nat->Prop):sq v k=k v:=rfl
def uK (e:Env) (d:Nat) (K:Env->Prop) (u:D):Prop:=K (cy e d u)
def lK (P:Program) (n:Nat) (ops r:List Oper) (K:Env->Prop) (e:Env):Prop:=wpList P n ops r e K
def lKD (P:Program) (n np:Nat) (ops r:List Oper) (K:Env->Prop) (e:Env):Prop:=kG P n np ops r e K
def oK (P:Program) (n:Nat) (o:Oper) (e:Env) (K:Env->Prop) (g:Bool):Prop:=j3 P n false o e g K
def HD (b:Bool) (x y:Prop):Prop:=if b then x else y
@[congr] theorem abx {b b':Bool} {x y:Prop} (h:True->b=b'):HD b x y=HD b' x y:=by rw [h trivial]
@[go_sem ↓] theorem adF (x y:Prop):HD true x y=x:=by simp [HD]
@[go_sem ↓] theorem aba (x y:Prop):HD false x y=y:=by simp [HD]
attribute [go_sem] PZ hard isApp K4 aai Wc pU isT XJ VO UO P0 jV Option.isSome_some Option.isSome_none Option.isNone_some Option.isNone_none
@[go_sem] theorem YE (t:Nat):Ir t []=false:=rfl
@[go_sem] theorem VS (t:Nat) (o:Oper) (r:List Oper):Ir t (o :: r)=((XJ o.op&&(o.guard.isNone&&o.dst==some t))||Ir t r):=rfl
@[go_sem] theorem YX (t:Nat):II t []=false:=rfl
@[go_sem] theorem VB (t:Nat) (o:Oper) (r:List Oper):II t (o :: r)=(VO t o.op||II t r):=rfl
@[go_sem] theorem abn (a b:Nat):(some a==some b)=(a==b):=rfl
@[go_sem] theorem aaC (b:Nat):((none:Option Nat)==some b)=false:=rfl
def oKD (P:Program) (n np:Nat) (ops:List Oper) (o:Oper) (e:Env) (K:Env->Prop) (g:Bool):Prop:=HD (jV ops o) (mm P n np ops o e K) (HD (pU o) (HD (isApp o) (vv P n o e g K) (j3 P n false o e g K)) (R5 P n np ops o e g K))
@[go_sem ↓] theorem ahH (u:D):uK e d K u=K (cy e d u):=rfl
@[go_sem ↓] theorem ahT (r:List Oper):lK P n ops r K e=wpList P n ops r e K:=rfl
@[go_sem ↓] theorem af2 (r:List Oper):lKD P n np ops r K e=kG P n np ops r e K:=rfl
@[go_sem ↓] theorem ahW (o:Oper):oK P n o e K g=j3 P n false o e g K:=rfl
@[go_sem ↓] theorem afU (o:Oper):oKD P n np ops o e K g=HD (jV ops o) (mm P n np ops o e K) (HD (pU o) (HD (isApp o) (vv P n o e g K) (j3 P n false o e g K)) (R5 P n np ops o e g K)):=rfl
def bH (P:Program) (n np:Nat) (a b:Code) (Q:Exit->Env->Prop) (e:Env) (v:D):Prop:=match v with
 | .bool t=>MN t (lB P n np a Q e) (lB P n np b Q e)
 | _=>False
@[congr] theorem Uo {a b:Code} {Q:Exit->Env->Prop} {v v':D} (h:True->v=v'):bH P n np a b Q e v=bH P n np a b Q e v':=by rw [h trivial]
@[go_sem] theorem Wd (a b:Code) (Q:Exit->Env->Prop):bH P n np a b Q e (.bool true)=lB P n np a Q e:=by simp [bH,MN]
@[go_sem] theorem Vf (a b:Code) (Q:Exit->Env->Prop):bH P n np a b Q e (.bool false)=lB P n np b Q e:=by simp [bH,MN]
theorem bH.split {t:Bool} {a b:Code} {Q:Exit->Env->Prop} (h1:t=true->lB P n np a Q e) (h2:t=false->lB P n np b Q e):bH P n np a b Q e (.bool t):=⟨h1,h2⟩
theorem bH.aK {t:Bool} {a b:Code} {Q:Exit->Env->Prop} (h1:t=false->lB P n np a Q e) (h2:t=true->lB P n np b Q e):bH P n np a b Q e (.bool (!t)):=⟨fun h=>h1 (by simpa using h),fun h=>h2 (by simpa using h)⟩
@[go_sem ↓] theorem aa6 (Q:Exit->Env->Prop):lB P n np .skip Q e=Q .normal e:=rfl
@[go_sem ↓] theorem Vk (id:Nat) (os:Array Oper) (Q:Exit->Env->Prop):lB P n np (.region id os false) Q e=wpList P n os.toList os.toList e (Q .normal):=by simp [lB]
def ji (np:Nat) (os:Array Oper):Prop:=Uk np os
@[congr] theorem Uu {m m':Nat} {os:Array Oper} (h:True->m=m'):ji m os=ji m' os:=by rw [h trivial]
theorem ji.mk {os:Array Oper} (h:xO np os=true):ji np os:=h
@[go_sem ↓] theorem Ur (id:Nat) (os:Array Oper) (Q:Exit->Env->Prop):lB P n np (.region id os true) Q e=(ji (nk np) os/\kG P n np os.toList os.toList e (Q .normal)):=by simp [lB,ji,nk]
def Iy (P:Program) (n np:Nat) (b:Code) (Q:Exit->Env->Prop) (j:Bool):Env->Prop:=if j then fm (lB P n np b Q) else lB P n np b Q
@[go_sem ↓] theorem adJ (a b:Code) (Q:Exit->Env->Prop):lB P n np (.seq a b) Q e=lB P n np a (qb (Iy P n np b Q (G5 a)) Q) e:=rfl
def LD (P:Program) (n np:Nat) (b:Code) (Q:Exit->Env->Prop) (e:Env) (j:Bool):Prop:=Iy P n np b Q j e
@[congr] theorem WA {b:Code} {Q:Exit->Env->Prop} {j j':Bool} (h:True->j=j'):LD P n np b Q e j=LD P n np b Q e j':=by rw [h trivial]
@[go_sem ↓] theorem acK (b:Code) (Q:Exit->Env->Prop) (j:Bool):Iy P n np b Q j e=LD P n np b Q e j:=rfl
@[go_sem ↓] theorem VG (b:Code) (Q:Exit->Env->Prop):LD P n np b Q e true=fm (lB P n np b Q) (em e):=by simp [LD,Iy,em]
@[go_sem ↓] theorem UN (b:Code) (Q:Exit->Env->Prop):LD P n np b Q e false=lB P n np b Q e:=by simp [LD,Iy]
@[congr] theorem UI {K:Env->Prop} {e e':Env} (h:True->e=e'):fm K e=fm K e':=by rw [h trivial]
theorem fm.id (h:K e):fm K e:=.inl h
theorem fm.le (ts os:EL) (h:MW e ts os) (hk:K (td ts os)):fm K e:=.inr ⟨ts,os,h,hk⟩
attribute [go_sem] falls G5
@[congr] theorem VN {T:Type} {ts os:T->EL} {I:T->Prop} {e e':Env} (h:True->e=e'):JE ts os I e=JE ts os I e':=by rw [h trivial]
theorem JN {b c:Code} {j:Bool} {id:Nat} {Q:Exit->Env->Prop} {T:Type} (ts os:T->EL) (I:T->Prop) (hj:j=true) (rest:∀ s,I s->lB P n np b Q (td (ts s) (os s))) (hk:aB (lB P n np c) (mJ id (qb (JE ts os I) Q)) e) :
  aB (lB P n np c) (mJ id (qb (Iy P n np b Q j) Q)) e:=by
 have:Iy P n np b Q j=fm (lB P n np b Q):=by simp [Iy,hj]
 rw [this];exact TY ts os I rest hk
@[go_sem ↓] theorem aah (c:Operand) (a b:Code) (Q:Exit->Env->Prop):lB P n np (.cond c a b) Q e=bH P n np a b Q e (dm (rd e c)):=rfl
@[go_sem ↓] theorem YF (id:Nat) (a:Code) (Q:Exit->Env->Prop):lB P n np (.block id a) Q e=lB P n np a (mJ id Q) e:=rfl
@[go_sem ↓] theorem abR (a:Code) (Q:Exit->Env->Prop):lB P n np (.loop a) Q e=aB (lB P n np a) Q (em e):=rfl
@[congr] theorem Up {b:(Exit->Env->Prop)->Env->Prop} {Q:Exit->Env->Prop} {e e':Env} (h:True->e=e'):aB b Q e=aB b Q e':=by rw [h trivial]
@[go_sem ↓] theorem aci (id:Nat) (Q:Exit->Env->Prop):lB P n np (.exit id) Q e=Q (.exit id) e:=rfl
@[go_sem ↓] theorem acM (Q:Exit->Env->Prop):lB P n np .ret Q e=Q .ret e:=rfl
@[go_sem ↓] theorem SC (K:Env->Prop) (Q:Exit->Env->Prop):qb K Q .normal e=K e:=rfl
@[go_sem ↓] theorem XN (K:Env->Prop) (Q:Exit->Env->Prop) (id:Nat):qb K Q (.exit id) e=Q (.exit id) e:=rfl
@[go_sem ↓] theorem Zc (K:Env->Prop) (Q:Exit->Env->Prop):qb K Q .ret e=Q .ret e:=rfl
@[go_sem ↓] theorem R7 (id:Nat) (Q:Exit->Env->Prop):mJ id Q .normal e=Q .normal e:=rfl
@[go_sem ↓] theorem Uf (id id':Nat) (Q:Exit->Env->Prop):mJ id Q (.exit id') e=if id'=id then Q .normal e else Q (.exit id') e:=rfl
@[go_sem ↓] theorem XC (id:Nat) (Q:Exit->Env->Prop):mJ id Q .ret e=Q .ret e:=rfl
@[go_sem ↓] theorem Ui (rs:List ResultVar) (m:Nat) (hs':List D) (v:D):N0 P rs m hs' v .normal e=OT P rs m hs' v e:=rfl
@[go_sem ↓] theorem aaz (rs:List ResultVar) (m:Nat) (hs':List D) (v:D):N0 P rs m hs' v .ret e=OT P rs m hs' v e:=rfl
@[go_sem ↓] theorem Uc {T:Type} (ts os:T->EL) (I:T->Prop) (m:T->Nat) (s:T) (Q:Exit->Env->Prop) (id:Nat):rZ ts os I m s Q (.exit id) e=Q (.exit id) e:=rfl
@[go_sem ↓] theorem WT {T:Type} (ts os:T->EL) (I:T->Prop) (m:T->Nat) (s:T) (Q:Exit->Env->Prop):rZ ts os I m s Q .ret e=Q .ret e:=rfl
@[go_sem ↓] theorem RW {T:Type} (ts os:T->EL) (I:T->Prop) (m:T->Nat) (s:T) (Q:Exit->Env->Prop):rZ ts os I m s Q .normal e=ah ts os I m s (em e):=rfl
@[congr] theorem Sw {T:Type} {ts os:T->EL} {I:T->Prop} {m:T->Nat} {s:T} {e e':Env} (h:True->e=e'):ah ts os I m s e=ah ts os I m s e':=by rw [h trivial]
@[go_sem ↓] theorem wpList_nil:wpList P n ops [] e K=K e:=rfl
@[go_sem ↓] theorem UA (o:Oper) (r:List Oper):wpList P n ops (o :: r) e K=wpOp P n ops o e (lK P n ops r K):=rfl
@[go_sem ↓] theorem Vi:kG P n np ops [] e K=K e:=rfl
@[go_sem ↓] theorem SN (o:Oper) (r:List Oper):kG P n np ops (o :: r) e K=fR P n np ops o e (lKD P n np ops r K):=rfl
@[go_sem ↓] theorem V9 {α:Type} (l:List α):l.toArray.toList=l:=rfl
def bZ (o:Option Bool) (k:Bool->Prop):Prop:=match o with
 | some g=>k g
 | none=>False
@[congr] theorem Th {o o':Option Bool} {k:Bool->Prop} (h:True->o=o'):bZ o k=bZ o' k:=by rw [h trivial]
@[go_sem] theorem Um (k:Bool->Prop):bZ (some true) k=k true:=rfl
@[go_sem] theorem SB (k:Bool->Prop):bZ (some false) k=k false:=rfl
theorem bZ.split {g:Bool} {k:Bool->Prop} (h1:g=true->k true) (h2:g=false->k false):bZ (some g) k:=by
 cases g with
 | true=>exact h1 rfl
 | false=>exact h2 rfl
theorem bZ.aK {b:Bool} {k:Bool->Prop} (h1:b=false->k true) (h2:b=true->k false):bZ (some (!b)) k:=by
 cases b with
 | true=>exact h2 rfl
 | false=>exact h1 rfl
@[go_sem ↓] theorem Za (dst:Option Tmp) (op:Op):wpOp P n ops ⟨dst,op,ty,pos,after,none⟩ e K=j3 P n false ⟨dst,op,ty,pos,after,none⟩ e true K:=rfl
@[go_sem ↓] theorem YI (dst:Option Tmp) (op:Op) (p:Nat × Bool):wpOp P n ops ⟨dst,op,ty,pos,after,some p⟩ e K=bZ (qi ops e (some p)) (oK P n ⟨dst,op,ty,pos,after,some p⟩ e K):=rfl
@[go_sem ↓] theorem XI (dst:Option Tmp) (op:Op):fR P n np ops ⟨dst,op,ty,pos,after,none⟩ e K=HD (jV ops ⟨dst,op,ty,pos,after,none⟩) (mm P n np ops ⟨dst,op,ty,pos,after,none⟩ e K) (HD (pU ⟨dst,op,ty,pos,after,none⟩) (HD (isApp ⟨dst,op,ty,pos,after,none⟩) (vv P n ⟨dst,op,ty,pos,after,none⟩ e true K) (j3 P n false ⟨dst,op,ty,pos,after,none⟩ e true K)) (R5 P n np ops ⟨dst,op,ty,pos,after,none⟩ e true K)):=rfl
@[go_sem ↓] theorem XF (dst:Option Tmp) (op:Op) (p:Nat × Bool):fR P n np ops ⟨dst,op,ty,pos,after,some p⟩ e K=bZ (qi ops e (some p)) (oKD P n np ops ⟨dst,op,ty,pos,after,some p⟩ e K):=rfl
def Nd (o:Option Tmp) (e:Env) (w:Bool):Option Bool:=match o with
 | some t=>Gj w (rd e (.tmp t))
 | none=>some false
@[congr] theorem Uz {o o':Option Tmp} {w:Bool} (h:True->o=o'):Nd o e w=Nd o' e w:=by rw [h trivial]
@[go_sem ↓] theorem Yb (j:Nat) (w:Bool):qi ops e (some (j,w))=Nd (rK ops j) e w:=rfl
@[go_sem ↓] theorem Wb (o:Oper) (r:List Oper):rK (o :: r) 0=o.dst:=rfl
@[go_sem ↓] theorem WC (o:Oper) (r:List Oper) (j:Nat):rK (o :: r) (j+1)=rK r j:=rfl
@[go_sem ↓] theorem XE (t:Nat) (w:Bool):Nd (some t) e w=Gj w (rd e (.tmp t)):=Eq.trans rfl rfl
@[go_sem] theorem W6 (w b:Bool):Gj w (.bool b)=some (b==w):=rfl
@[go_sem] theorem Yy (w:Bool):Gj w (.bD [])=some false:=rfl
@[go_sem] theorem aeT (b:Bool):(b==true)=b:=by cases b<;>rfl
@[go_sem] theorem af1 (b:Bool):(b==false) = !b:=by cases b<;>rfl
@[congr] theorem U2 {g g':Bool} {ok ok':Prop} {v v':D} {k:D->Prop} (hg:True->g=g') (ho:g'=true->ok=ok') (hv:g'=true->v=v'):eY g ok v k=eY g' ok' v' k:=by
 obtain rfl:=hg trivial;cases g with
 | true=>rw [ho rfl,hv rfl]
 | false=>simp [eY,gd]
@[go_sem ↓] theorem VX (ok:Prop) (v:D) (k:D->Prop):eY true ok v k=(ok/\Norm (dm v) k):=by simp [eY,gd,Norm,dm]
@[go_sem ↓] theorem Vm (ok:Prop) (v:D) (k:D->Prop):eY false ok v k=k (.bD []):=by simp [eY,gd]
@[go_sem ↓] theorem aez (a b:Prop):GK true a b=a:=by simp [GK]
@[go_sem ↓] theorem aa8 (a b:Prop):GK false a b=b:=by simp [GK]
def U1 (np:Nat) (ops:List Oper) (o:Oper) (l:List Nat):Prop:=xj np ops o l
@[congr] theorem XX {o:Oper} {l l':List Nat} (h:True->l=l'):U1 np ops o l=U1 np ops o l':=by rw [h trivial]
@[go_sem] theorem adV (o:Oper):U1 np ops o []=True:=rfl
def DH (np:Nat) (ops:List Oper) (o:Oper) (r:Nat):Prop:=sZ np ops o r=true
@[congr] theorem Zo {o:Oper} {r r':Nat} (h:True->r=r'):DH np ops o r=DH np ops o r':=by rw [h trivial]
theorem DH.mk {o:Oper} {r:Nat} (h:sZ np ops o r=true):DH np ops o r:=h
@[go_sem] theorem aaB (o:Oper) (r:Nat) (l:List Nat):U1 np ops o (r :: l)=(DH np ops o (nk r)/\U1 np ops o l):=rfl
@[go_sem ↓] theorem aaG (o:Oper):R5 P n np ops o e true K=(U1 np ops o (lm (cB e o))/\j3 P n true o e true K):=by simp [R5,U1,lm]
@[go_sem ↓] theorem Y1 (o:Oper):R5 P n np ops o e false K=j3 P n true o e false K:=by simp [R5]
section
variable {dst:Option Tmp}
@[go_sem ↓] theorem Va (t:TypeId) (a:Operand):cB e ⟨dst,.load t a,ty,pos,after,gu⟩=(rd e a).names:=rfl
@[go_sem ↓] theorem TW (t:TypeId) (a x:Operand):cB e ⟨dst,.store t a x,ty,pos,after,gu⟩=(rd e a).names:=rfl
@[go_sem ↓] theorem OW (t:TypeId) (x i:Operand):cB e ⟨dst,.indexAddr t x i,ty,pos,after,gu⟩=(rd e x).names:=rfl
@[go_sem ↓] theorem TO (t:TypeId) (x:Operand) (a b c:Option Operand):cB e ⟨dst,.slice t x a b c,ty,pos,after,gu⟩=(rd e x).names:=rfl
@[go_sem ↓] theorem UD (x:Operand):cB e ⟨dst,.move x,ty,pos,after,gu⟩=[]:=rfl
@[go_sem ↓] theorem Sc (x:Operand):cB e ⟨dst,.assign x,ty,pos,after,gu⟩=[]:=rfl
@[go_sem ↓] theorem T9 (x y z:Operand):cB e ⟨dst,.pick x y z,ty,pos,after,gu⟩=[]:=rfl
@[go_sem ↓] theorem SV (op:BinOp) (t t2:TypeId) (x y:Operand):cB e ⟨dst,.binOp op t x y t2,ty,pos,after,gu⟩=[]:=rfl
@[go_sem ↓] theorem Uj (op:UnOp) (t:TypeId) (x:Operand):cB e ⟨dst,.unOp op t x,ty,pos,after,gu⟩=[]:=rfl
@[go_sem ↓] theorem Rx (s t:TypeId) (x:Operand):cB e ⟨dst,.convert s t x,ty,pos,after,gu⟩=[]:=rfl
@[go_sem ↓] theorem Ou (t:TypeId) (x:Operand) (f:Nat):cB e ⟨dst,.fieldAddr t x f,ty,pos,after,gu⟩=[]:=rfl
@[go_sem ↓] theorem SH (t:TypeId) (x i:Operand):cB e ⟨dst,.index t x i,ty,pos,after,gu⟩=[]:=rfl
@[go_sem ↓] theorem Pz (x:Operand):cB e ⟨dst,.nilCheck x,ty,pos,after,gu⟩=[]:=rfl
@[go_sem ↓] theorem RR (x:Operand) (i:Nat):cB e ⟨dst,.extract x i,ty,pos,after,gu⟩=[]:=rfl
@[go_sem ↓] theorem SZ (t:TypeId) (ps:Array (Nat × Operand)):cB e ⟨dst,.build t ps,ty,pos,after,gu⟩=[]:=rfl
@[go_sem ↓] theorem MH (t:TypeId) (l:Nat) (ps:Array (Nat × Operand)):cB e ⟨dst,.buildSlice t l ps,ty,pos,after,gu⟩=[]:=rfl
@[go_sem ↓] theorem Su (t:TypeId):cB e ⟨dst,.alloc t,ty,pos,after,gu⟩=[]:=rfl
def Kq (e:Env) (k:Nat) (l:List Nat):List Nat:=reach e.o k l
@[congr] theorem WX {k:Nat} {l l':List Nat} (h:True->l=l'):Kq e k l=Kq e k l':=by rw [h trivial]
@[go_sem] theorem aaY (k:Nat):Kq e k []=[]:=by
 unfold Kq
 induction k with
 | zero=>rfl
 | succ k ih=>simp only [reach,List.map_nil,D.cj,List.nil_append];exact ih
@[go_sem] theorem WR (r:Nat) (l:List Nat):Kq e 4 (r :: l)=r :: l++Kq e 3 (lm (D.cj ((r :: l).map e.o))):=rfl
@[go_sem ↓] theorem Tz (f:Operand) (args:Array Operand) (T:Array TypeId):cB e ⟨dst,.call ⟨.value f,args,T⟩,ty,pos,after,gu⟩=Kq e 4 (lm (D.cj (rd e f :: args.toList.map (rd e)))):=rfl
@[go_sem ↓] theorem TM (b:Builtin) (args:Array Operand) (T:Array TypeId):cB e ⟨dst,.call ⟨.builtin b,args,T⟩,ty,pos,after,gu⟩=D.cj (args.toList.map (rd e)):=rfl
end
section
@[go_sem ↓] theorem abP (x:Operand):j3 P n dr ⟨some d,.move x,ty,pos,after,gu⟩ e g K=(d < n/\eY g True (rd e x) (uK e d K)):=rfl
@[go_sem ↓] theorem VK (x:Operand):j3 P n dr ⟨some d,.assign x,ty,pos,after,gu⟩ e g K=(d < n/\eY g True (rd e x) (uK e d K)):=rfl
@[go_sem ↓] theorem Zf (op:BinOp) (t t2:TypeId) (x y:Operand):j3 P n dr ⟨some d,.binOp op t x y t2,ty,pos,after,gu⟩ e g K=HD (PZ y) (g=true/\dr=false/\gU P n ⟨some d,.binOp op t x y t2,ty,pos,after,gu⟩ e K) (d < n/\eY g (sC P (isConst x||isConst y) op t (rd e x) (rd e y)) (yQ op (rd e x) (rd e y)) (uK e d K)):=rfl
@[go_sem ↓] theorem abj (op:UnOp) (t:TypeId) (x:Operand):j3 P n dr ⟨some d,.unOp op t x,ty,pos,after,gu⟩ e g K=(d < n/\eY g (oX op (rd e x)) (yR op (rd e x)) (uK e d K)):=rfl
@[go_sem ↓] theorem UU (s t:TypeId) (x:Operand):j3 P n dr ⟨some d,.convert s t x,ty,pos,after,gu⟩ e g K=(d < n/\eY g (Cj (bO P s) (bO P t) (rd e x)) (Gg (bO P s) (bO P t) (rd e x)) (uK e d K)):=rfl
def pk (p:Bool) (x y:D):D:=if p then x else y
def Ux (c x y:D):D:=match c with
 | .bool p=>pk p x y
 | _=>.undef
def PX (c:D):Prop:=match c with
 | .bool _=>True
 | _=>False
@[go_sem] theorem Xx (p:Bool) (x y:D):Ux (.bool p) x y=pk p x y:=rfl
@[go_sem] theorem Ug (p:Bool):PX (.bool p)=True:=rfl
@[congr] theorem aaL {p p':Bool} {x x' y y':D} (hp:True->p=p') (hx:p'=true->x=x') (hy:p'=false->y=y'):pk p x y=pk p' x' y':=by
 obtain rfl:=hp trivial;cases p with
 | true=>simp only [pk,if_true];exact hx rfl
 | false=>simp only [pk];exact hy rfl
@[go_sem ↓] theorem ac7 (x y:D):pk true x y=x:=rfl
@[go_sem ↓] theorem aaN (x y:D):pk false x y=y:=rfl
@[go_sem ↓] theorem ab2 (c a b:Operand):j3 P n dr ⟨some d,.pick c a b,ty,pos,after,gu⟩ e g K=(d < n/\eY g (PX (rd e c)) (Ux (rd e c) (rd e a) (rd e b)) (uK e d K)):=rfl
def faT (t:Ty) (f:Nat) (v:D):D:=match t with
 | .struct fs=>SK fs f v
 | _=>.undef
def UB (t:Ty) (f:Nat) (v:D):Prop:=match t with
 | .struct fs=>N9 fs f v
 | _=>False
@[go_sem] theorem ahf (fs:List FT) (f:Nat) (v:D):faT (.struct fs) f v=SK fs f v:=rfl
@[go_sem] theorem acR (fs:List FT) (f:Nat) (v:D):UB (.struct fs) f v=N9 fs f v:=rfl
def acA (t:Ty) (f:Nat) (v:D):D:=match t with
 | .struct fs=>NT fs f v
 | _=>.undef
def QH (t:Ty) (f:Nat) (v:D):Prop:=match t with
 | .struct fs=>FQ fs f v
 | _=>False
@[go_sem] theorem afY (fs:List FT) (f:Nat) (v:D):acA (.struct fs) f v=NT fs f v:=rfl
@[go_sem] theorem aaj (fs:List FT) (f:Nat) (v:D):QH (.struct fs) f v=FQ fs f v:=rfl
@[go_sem ↓] theorem R6 (t:TypeId) (x:Operand) (f:Nat):j3 P n dr ⟨some d,.fieldAddr t x f,ty,pos,after,gu⟩ e g K=(d < n/\eY g (UB (bO P t) f (rd e x)) (faT (bO P t) f (rd e x)) (uK e d K)):=rfl
@[go_sem ↓] theorem XR (t:TypeId) (x:Operand) (f:Nat):j3 P n dr ⟨some d,.field t x f,ty,pos,after,gu⟩ e g K=(d < n/\eY g (QH (bO P t) f (rd e x)) (acA (bO P t) f (rd e x)) (uK e d K)):=rfl
def Gc (e:Env) (t:Ty) (x i:D):Prop:=Im e t x i
@[congr] theorem Ue {t t':Ty} {x x' i i':D} (h1:True->t=t') (h2:True->x=x') (h3:True->i=i'):Gc e t x i=Gc e t' x' i':=by rw [h1 trivial,h2 trivial,h3 trivial]
def Yi (t:Ty) (x i:D):D:=OF e0 t x i
theorem Wi (e:Env) (t:Ty) (x i:D):OF e t x i=Yi t x i:=by unfold Yi OF;rfl
@[go_sem ↓] theorem R8 (t:TypeId) (x i:Operand):j3 P n dr ⟨some d,.indexAddr t x i,ty,pos,after,gu⟩ e g K=(d < n/\eY g (Gc e (bO P t) (rd e x) (rd e i)) (Yi (bO P t) (rd e x) (rd e i)) (uK e d K)):=by rw [<- Wi e];rfl
@[go_sem ↓] theorem Yh (t:TypeId) (x i:Operand):j3 P n dr ⟨some d,.index t x i,ty,pos,after,gu⟩ e g K=(d < n/\eY g (Jb (bO P t) (rd e x) (rd e i)) (ixV (bO P t) (rd e x) (rd e i)) (uK e d K)):=rfl
def Vd (e:Env) (l:Option qA) (a:D):D:=match l with
 | some l=>Td e l a
 | none=>.undef
def zl (e:Env) (l:Option qA) (a:D):Prop:=match l with
 | some l=>G2 e l a
 | none=>False
@[congr] theorem Z9 {l l':Option qA} {a a':D} (h1:True->l=l') (h2:True->a=a'):Vd e l a=Vd e l' a':=by rw [h1 trivial,h2 trivial]
@[congr] theorem Vb {l l':Option qA} {a a':D} (h1:True->l=l') (h2:True->a=a'):zl e l a=zl e l' a':=by rw [h1 trivial,h2 trivial]
@[go_sem] theorem acn (l:qA) (r o:Nat):Vd e (some l) (.addr r o)=ldB l o (e.o r):=rfl
@[go_sem] theorem Y2 (l:qA) (r z i k:Nat):Vd e (some l) (.bQ r z i k)=ldW l i k (e.o r):=rfl
@[go_sem] theorem X1 (l:qA) (cs:List D):Vd e (some l) (.bI cs)=part l.agg 0 l.sz cs:=rfl
@[go_sem] theorem Xw (l:qA) (r o:Nat):zl e (some l) (.addr r o)=ND l o (e.o r):=rfl
@[go_sem] theorem Vc (l:qA) (r z i k:Nat):zl e (some l) (.bQ r z i k)=ME l z i k (e.o r):=rfl
@[go_sem] theorem Uh (l:qA) (cs:List D):zl e (some l) (.bI cs)=(l.sz<=cs.length/\uO l):=rfl
@[go_sem] theorem ad9 (l:qA) (o:Nat) (cs:List D):ldB l o (.box cs)=part l.agg o l.sz cs:=rfl
@[go_sem] theorem YT (l:qA) (o:Nat) (cs:List D):ND l o (.box cs)=(o+l.sz<=cs.length/\uO l):=rfl
@[go_sem] theorem ac4 (l:qA) (i k z:Nat) (rows:List (List D)):ldW l i k (.own z rows)=part l.agg k l.sz (rows.getD i []):=rfl
@[go_sem] theorem Y5 (l:qA) (z i k z':Nat) (rows:List (List D)):ME l z i k (.own z' rows)=(z'=z/\i < rows.length/\k+l.sz<=z/\uO l):=rfl
@[go_sem] theorem ady:uO ⟨false,1⟩=True:=by simp [uO]
@[go_sem] theorem aey (m:Nat):uO ⟨true,m⟩=(1<=m):=by simp [uO]
@[go_sem ↓] theorem acg (t:TypeId) (a:Operand):j3 P n dr ⟨some d,.load t a,ty,pos,after,gu⟩ e g K=(d < n/\eY g (zl e (bT P t) (rd e a)) (Vd e (bT P t) (rd e a)) (uK e d K)):=rfl
@[go_sem ↓] theorem Tg (x:Operand):j3 P n dr ⟨some d,.nilCheck x,ty,pos,after,gu⟩ e g K=(d < n/\eY g (Rd (rd e x)) (rd e x) (uK e d K)):=rfl
def ab0 (v:D) (i:Nat):D:=match v with
 | .bD ds=>ds.getD i .undef
 | _=>.undef
def UW (v:D) (i:Nat):Prop:=match v with
 | .bD ds=>i < ds.length
 | _=>False
@[go_sem] theorem aam (ds:List D) (i:Nat):ab0 (.bD ds) i=ds.getD i .undef:=rfl
@[go_sem] theorem Ym (ds:List D) (i:Nat):UW (.bD ds) i=(i < ds.length):=rfl
@[go_sem ↓] theorem Uy (x:Operand) (i:Nat):j3 P n dr ⟨some d,.extract x i,ty,pos,after,gu⟩ e g K=(d < n/\eY g (UW (rd e x) i) (ab0 (rd e x) i) (uK e d K)):=rfl
@[go_sem ↓] theorem Sp (f:FuncId) (first caps:Array Operand):j3 P n dr ⟨some d,.makeFunc (.func f) first caps,ty,pos,after,gu⟩ e g K=(d < n/\eY g (first = #[]) (.fn f (caps.toList.map (rd e))) (uK e d K)):=rfl
def Lb (e:Env) (t:Ty) (x:D):D:=GY e t x
def vK (e:Env) (t:Ty) (x:D):Prop:=wE e t x
@[congr] theorem W5 {t t':Ty} {x x':D} (h1:True->t=t') (h2:True->x=x'):Lb e t x=Lb e t' x':=by rw [h1 trivial,h2 trivial]
@[congr] theorem TJ {t t':Ty} {x x':D} (h1:True->t=t') (h2:True->x=x'):vK e t x=vK e t' x':=by rw [h1 trivial,h2 trivial]
@[go_sem ↓] theorem aei (x:Operand) (T:TypeId):j3 P n dr ⟨some d,.call ⟨.builtin .len,#[x],#[T]⟩,ty,pos,after,gu⟩ e g K=(d < n/\eY g (vK e (bO P T) (rd e x)) (Lb e (bO P T) (rd e x)) (uK e d K)):=rfl
@[go_sem ↓] theorem adq (l:List Operand) (T:Array TypeId):j3 P n dr ⟨some d,.call ⟨.builtin .max,l.toArray,T⟩,ty,pos,after,gu⟩ e g K=(d < n/\eY g (l≠[]/\pL (l.map (rd e))) (IT JP (l.map (rd e))) (uK e d K)):=by simp only [j3,dG,gD];rfl
@[go_sem ↓] theorem adX (l:List Operand) (T:Array TypeId):j3 P n dr ⟨some d,.call ⟨.builtin .min,l.toArray,T⟩,ty,pos,after,gu⟩ e g K=(d < n/\eY g (l≠[]/\pL (l.map (rd e))) (IT Ka (l.map (rd e))) (uK e d K)):=by simp only [j3,dG,gD];rfl
def abI (e:Env) (t:Ty) (x lo hi:D):D:=match lo,hi with
 | .int _ l,.int _ h=>Rt e t x l.toNat h.toNat
 | _,_=>.undef
def UJ (e:Env) (t:Ty) (x lo:D) (hi:Option D):D:=abI e t x lo (hi.getD (.int .i64 (KT (Ji e t x))))
def xB (e:Env) (t:Ty) (x lo:D) (hi:Option D):Prop:=Sm (UC e t x) lo (hi.getD (.int .i64 (KT (Ji e t x)))) fun _ _ _=>True
@[congr] theorem Y6 {t t':Ty} {x x' lo lo':D} {hi hi':Option D} (h1:True->t=t') (h2:True->x=x') (h3:True->lo=lo') (h4:True->hi=hi'):UJ e t x lo hi=UJ e t' x' lo' hi':=by rw [h1 trivial,h2 trivial,h3 trivial,h4 trivial]
@[congr] theorem Ve {t t':Ty} {x x' lo lo':D} {hi hi':Option D} (h1:True->t=t') (h2:True->x=x') (h3:True->lo=lo') (h4:True->hi=hi'):xB e t x lo hi=xB e t' x' lo' hi':=by rw [h1 trivial,h2 trivial,h3 trivial,h4 trivial]
def YL (e:Env) (lo:Option Operand):D:=HX e 0 lo
@[go_sem ↓] theorem acs:YL e none=.int .i64 0:=rfl
@[go_sem ↓] theorem abz (x:Operand):YL e (some x)=rd e x:=rfl
@[go_sem ↓] theorem Zr (t:TypeId) (x:Operand) (lo:Option Operand):j3 P n dr ⟨some d,.slice t x lo none none,ty,pos,after,gu⟩ e g K=(d < n/\eY g (xB e (bO P t) (rd e x) (YL e lo) none) (UJ e (bO P t) (rd e x) (YL e lo) none) (uK e d K)):=rfl
@[go_sem ↓] theorem Xg (t:TypeId) (x:Operand) (lo:Option Operand) (hi:Operand):j3 P n dr ⟨some d,.slice t x lo (some hi) none,ty,pos,after,gu⟩ e g K=(d < n/\eY g (xB e (bO P t) (rd e x) (YL e lo) (some (rd e hi))) (UJ e (bO P t) (rd e x) (YL e lo) (some (rd e hi))) (uK e d K)):=rfl
def Hr (t:Ty) (ps:List (Nat × D)):List (Nat × Nat × D):=match t with
 | .struct fs=>ps.map fun x=>match fs[x.1]? with
  | some f=>(f.off,f.sz,x.2)
  | none=>(0,0,.undef)
 | .arr _ z _=>ps.map fun x=>(x.1*z,z,x.2)
 | _=>[]
theorem uz (t:TypeId) (parts:List (Nat × Operand)):dn P e t parts=Hr (bO P t) (parts.map fun x=>(x.1,rd e x.2)):=by
 unfold dn Hr;cases bO P t<;>simp only [List.map_map,Function.comp_def]<;>rfl
def TP (t:Ty) (z:Option (List D)) (ps:List (Nat × D)):D:=match z with
 | some z=>.agg (jS z (Hr t ps))
 | none=>.undef
def Fh (t:Ty) (z:Option (List D)) (ps:List (Nat × D)):Prop:=match z with
 | some z=>(match t with
  | .struct fs=>∀ x∈ps,x.1 < fs.length
  | .arr _ _ _=>True
  | _=>False)/\lA z.length (Hr t ps)
 | none=>False
theorem LW (t:TypeId) (parts:List (Nat × Operand)):Aq P e t parts=Fh (bO P t) (cZ P t) (parts.map fun x=>(x.1,rd e x.2)):=by
 unfold Aq Fh;rw [uz];cases hz:cZ P t with
 | none=>simp
 | some z =>
  simp only [Option.some.injEq,exists_eq_left',eq_iff_iff];refine and_congr ?_ Iff.rfl;cases bO P t<;>simp only;simp only [List.forall_mem_map]
@[go_sem ↓] theorem Yz (t:TypeId) (parts:Array (Nat × Operand)):j3 P n dr ⟨some d,.build t parts,ty,pos,after,gu⟩ e g K =
  (d < n/\eY g (Fh (bO P t) (cZ P t) (parts.toList.map fun x=>(x.1,rd e x.2))) (TP (bO P t) (cZ P t) (parts.toList.map fun x=>(x.1,rd e x.2))) (uK e d K)):=by
 rw [<- LW]
 have:TP (bO P t) (cZ P t) (parts.toList.map fun x=>(x.1,rd e x.2))=gD P e (.build t parts):=by
  unfold gD TP;simp only [uz];rfl
 rw [this];rfl
@[go_sem] theorem Zk (t:Ty) (z:List D) (ps:List (Nat × D)):TP t (some z) ps=.agg (jS z (Hr t ps)):=rfl
@[go_sem] theorem WB (fs:List FT) (z:List D) (ps:List (Nat × D)):Fh (.struct fs) (some z) ps=((∀ x∈ps,x.1 < fs.length)/\lA z.length (Hr (.struct fs) ps)):=rfl
@[go_sem] theorem YS (n s:Nat) (a:Bool) (z:List D) (ps:List (Nat × D)):Fh (.arr n s a) (some z) ps=lA z.length (Hr (.arr n s a) ps):=by simp [Fh]
def abr (f:Option FT) (v:D):Nat × Nat × D:=match f with
 | some f=>(f.off,f.sz,v)
 | none=>(0,0,.undef)
@[go_sem] theorem U9 (fs:List FT) (ps:List (Nat × D)):Hr (.struct fs) ps=ps.map fun x=>abr fs[x.1]? x.2:=rfl
@[go_sem] theorem aaV (n z:Nat) (a:Bool) (ps:List (Nat × D)):Hr (.arr n z a) ps=ps.map fun x=>(x.1*z,z,x.2):=rfl
@[go_sem] theorem XV (o s:Nat) (a:Bool) (v:D):abr (some ⟨o,s,a⟩) v=(o,s,v):=rfl
@[go_sem] theorem ab6 (f:Nat × D->Prop):(∀ c∈([]:List (Nat × D)),f c)=True:=by simp
@[go_sem] theorem ZL (f:Nat × D->Prop) (a:Nat × D) (l:List (Nat × D)):(∀ c∈a :: l,f c)=(f a/\∀ c∈l,f c):=by simp
@[go_sem] theorem aap (f:D->Prop):(∀ c∈([]:List D),f c)=True:=by simp
@[go_sem] theorem Yu (f:D->Prop) (a:D) (l:List D):(∀ c∈a :: l,f c)=(f a/\∀ c∈l,f c):=by simp
end
def OP (d:D):Prop:=d=.undef
@[go_sem] theorem Y3:OP .undef=True:=by simp [OP]
def ZZ (e:Env) (d:Nat) (K:Env->Prop) (ob:D) (r:Nat):Prop:=OP (e.o r)/\K (cy (dV e r ob) d (.ref r))
def maK (e:Env) (d:Nat) (K:Env->Prop) (ob:D) (r:Nat):Prop:=OP (e.o r)/\K (cy (dV e r ob) d (.addr r 0))
@[go_sem ↓] theorem af5 (ob:D) (r:Nat):ZZ e d K ob r=(OP (e.o r)/\K (cy (dV e r ob) d (.ref r))):=rfl
@[go_sem ↓] theorem agw (ob:D) (r:Nat):maK e d K ob r=(OP (e.o r)/\K (cy (dV e r ob) d (.addr r 0))):=rfl
def Qb (e:Env) (d:Nat) (K:Env->Prop) (ob:D):Prop:=sq (nm d 0) (ZZ e d K ob)
def maN (e:Env) (d:Nat) (K:Env->Prop) (ob:D):Prop:=sq (nm d 0) (maK e d K ob)
@[go_sem ↓] theorem afM (ob:D):Qb e d K ob=sq (nm d 0) (ZZ e d K ob):=rfl
@[go_sem ↓] theorem ae9 (ob:D):maN e d K ob=sq (nm d 0) (maK e d K ob):=rfl
@[go_sem] theorem ahp (d k:Nat):nm d k=16*(d+1)+k:=rfl
def uoK (e:Env) (r:Nat) (K:Env->Prop) (ob:D):Prop:=K (dV e r ob)
@[go_sem ↓] theorem afg (r:Nat) (ob:D):uoK e r K ob=K (dV e r ob):=rfl
def PG (e:Env) (r off:Nat) (v:D) (K:Env->Prop) (l:Option qA) (ob:D):Prop:=
 match l,ob with
 | some l,.box cs=>off+l.sz<=cs.length/\v.cells.length=l.sz/\(∀ c∈v.cells,eu c)/\K (dV e r (.box (kP cs off v.cells)))
 | _,_=>False
def RA (e:Env) (r z i k:Nat) (v:D) (K:Env->Prop) (l:Option qA) (ob:D):Prop:=
 match l,ob with
 | some l,.own z' rows=>z'=z/\i < rows.length/\k+l.sz<=z/\v.cells.length=l.sz/\(∀ c∈v.cells,dw c)/\K (dV e r (.own z (rows.set i (kP (rows.getD i []) k v.cells))))
 | _,_=>False
@[congr] theorem WO {r off:Nat} {v:D} {l l':Option qA} {ob ob':D} (h1:True->l=l') (h2:True->ob=ob'):PG e r off v K l ob=PG e r off v K l' ob':=by rw [h1 trivial,h2 trivial]
@[congr] theorem Xi {r z i k:Nat} {v:D} {l l':Option qA} {ob ob':D} (h1:True->l=l') (h2:True->ob=ob'):RA e r z i k v K l ob=RA e r z i k v K l' ob':=by rw [h1 trivial,h2 trivial]
@[go_sem] theorem abu (r off sz:Nat) (a:Bool) (v:D) (cs:List D):PG e r off v K (some ⟨a,sz⟩) (.box cs)=(off+sz<=cs.length/\v.cells.length=sz/\(∀ c∈v.cells,eu c)/\Norm (dm (.box (kP cs off v.cells))) (uoK e r K)):=rfl
@[go_sem] theorem abh (r z i k sz z':Nat) (a:Bool) (v:D) (rows:List (List D)):RA e r z i k v K (some ⟨a,sz⟩) (.own z' rows) =
  (z'=z/\i < rows.length/\k+sz<=z/\v.cells.length=sz/\(∀ c∈v.cells,dw c)/\Norm (dm (.own z (rows.set i (kP (rows.getD i []) k v.cells)))) (uoK e r K)):=rfl
@[go_sem ↓] theorem aaw (t:TypeId) (r off:Nat) (v:D):Pj P e t (.addr r off) K v=PG e r off v K (bT P t) (e.o r):=by
 show XB P e t r off v K (e.o r)=_
 unfold XB PG;cases e.o r<;>cases bT P t<;>rfl
@[go_sem ↓] theorem XZ (t:TypeId) (r z i k:Nat) (v:D):Pj P e t (.bQ r z i k) K v=RA e r z i k v K (bT P t) (e.o r):=by
 show WZ P e t r z i k v K (e.o r)=_
 unfold WZ RA;cases e.o r<;>cases bT P t<;>rfl
def stK (P:Program) (e:Env) (t:TypeId) (x:Operand) (K:Env->Prop) (a:D):Prop:=Norm (dm (rd e x)) (Pj P e t a K)
@[go_sem ↓] theorem afc (t:TypeId) (x:Operand) (a:D):stK P e t x K a=Norm (dm (rd e x)) (Pj P e t a K):=rfl
@[go_sem ↓] theorem XS (t:TypeId) (a x:Operand):j3 P n dr ⟨none,.store t a x,ty,pos,after,gu⟩ e g K=(g=true/\Norm (dm (rd e a)) (stK P e t x K)):=rfl
@[go_sem ↓] theorem adZ (v:D):TH e d K v=((∀ c∈v.cells,eu c)/\Norm (dm (.box v.cells)) (maN e d K)):=rfl
@[go_sem ↓] theorem aeu (t:TypeId) (x:Operand):j3 P n dr ⟨some d,.box t x,ty,pos,after,gu⟩ e g K=(g=true/\d < n/\Norm (dm (rd e x)) (TH e d K)):=rfl
@[congr] theorem VF {z z':Option (List D)} (h:True->z=z'):Pq e d K z=Pq e d K z':=by rw [h trivial]
@[go_sem] theorem Zh (z:List D):Pq e d K (some z)=maN e d K (.box z):=rfl
@[go_sem ↓] theorem Zv (t:TypeId):j3 P n dr ⟨some d,.alloc t,ty,pos,after,gu⟩ e g K=(g=true/\d < n/\Pq e d K (cZ P t)):=rfl
def BsC (e:Env) (d:Nat) (K:Env->Prop) (z len:Nat) (cs:List D):Prop:=(∀ c∈cs,dw c)/\Norm (dm (.own z (rowsOf z len cs))) (Qb e d K)
@[congr] theorem Zl {z len:Nat} {cs cs':List D} (h:True->cs=cs'):BsC e d K z len cs=BsC e d K z len cs':=by rw [h trivial]
@[go_sem] theorem af6 (z len:Nat) (cs:List D):BsC e d K z len cs=((∀ c∈cs,dw c)/\Norm (dm (.own z (rowsOf z len cs))) (Qb e d K)):=rfl
def BsV (e:Env) (len d:Nat) (K:Env->Prop) (z:Nat) (zc:List D) (ps:List (Nat × Nat × D)):Prop:=
 len*z<=2 ^ 24/\zc.length=z/\lA (len*z) ps/\BsC e d K z len (lm (jS (List.replicate len zc).flatten ps))
@[congr] theorem Zx {len z:Nat} {zc:List D} {ps ps':List (Nat × Nat × D)} (h:True->ps=ps'):BsV e len d K z zc ps=BsV e len d K z zc ps':=by rw [h trivial]
@[go_sem] theorem aeZ (len z:Nat) (zc:List D) (ps:List (Nat × Nat × D)):BsV e len d K z zc ps=(len*z<=2 ^ 24/\zc.length=z/\lA (len*z) ps/\BsC e d K z len (lm (jS (List.replicate len zc).flatten ps))):=rfl
@[congr] theorem Ye {len:Nat} {ps:List (Nat × Operand)} {t t':Ty} {z z':Option (List D)} (h1:True->t=t') (h2:True->z=z'):OV e len ps d K t z=OV e len ps d K t' z':=by rw [h1 trivial,h2 trivial]
@[go_sem] theorem ae1 (len z by_:Nat) (a:Bool) (zc:List D) (ps:List (Nat × Operand)):OV e len ps d K (.slice z by_ a) (some zc)=BsV e len d K z zc (lm (ps.map fun x=>(x.1*z,z,rd e x.2))):=rfl
def BsP (e:Env) (len:Nat) (ps:List (Nat × Operand)) (dr:Bool) (d:Nat) (K:Env->Prop) (t:Ty) (z:Option (List D)) (ns:List Nat):Prop:=(dr=true->ns=[])/\OV (fE ns e) len ps d K t z
@[congr] theorem ZF {len:Nat} {ps:List (Nat × Operand)} {t:Ty} {z:Option (List D)} {ns ns':List Nat} (h:True->ns=ns'):BsP e len ps dr d K t z ns=BsP e len ps dr d K t z ns':=by rw [h trivial]
@[go_sem] theorem adD (len:Nat) (ps:List (Nat × Operand)) (t:Ty) (z:Option (List D)):BsP e len ps dr d K t z []=OV e len ps d K t z:=by simp [BsP,fE]
@[go_sem ↓] theorem QD (t:TypeId) (len:Nat) (parts:Array (Nat × Operand)):j3 P n dr ⟨some d,.buildSlice t len parts,ty,pos,after,gu⟩ e g K =
  HD (t==Wc) (g=true/\dr=false/\gU P n ⟨some d,.buildSlice t len parts,ty,pos,after,gu⟩ e K) (d < n/\GK g (BsP e len parts.toList dr d K (bO P t) (bB P t) (lm (D.cj (parts.toList.map fun x=>rd e x.2)))) (K (cy e d (.bD [])))):=by
 unfold j3 HD;rfl
@[congr] theorem Zb {l l' c c':D} {t t':Ty} {z z':Option (List D)} (h1:True->l=l') (h2:True->c=c') (h3:True->t=t') (h4:True->z=z'):PF e d K l c t z=PF e d K l' c' t' z':=by rw [h1 trivial,h2 trivial,h3 trivial,h4 trivial]
@[go_sem] theorem aeV (k k':IntKind) (l c:Int) (z by_:Nat) (a:Bool) (zc:List D):PF e d K (.int k l) (.int k' c) (.slice z by_ a) (some zc) =
  (0<=l/\l<=c/\c<=2 ^ 40/\by_*c<=2 ^ 47/\zc.length=z/\(∀ d∈zc,dw d)/\Norm (dm (.own z (List.replicate l.toNat zc))) (Qb e d K)):=rfl
@[go_sem ↓] theorem R2 (t:TypeId) (l c:Operand):j3 P n dr ⟨some d,.makeSlice t l c,ty,pos,after,gu⟩ e g K=(d < n/\GK g (PF e d K (dm (rd e l)) (rd e c) (bO P t) (bB P t)) (K (cy e d (.bD [])))):=rfl
def apN (z by_:Nat) (rows rows2:List (List D)) (e:Env) (d:Nat) (K:Env->Prop):Prop:=(by_+1)*(rows.length+rows2.length)<=2 ^ 45/\Norm (dm (.own z (rows++rows2))) (Qb e d K)
@[go_sem ↓] theorem afN (z by_:Nat) (rows rows2:List (List D)):apN z by_ rows rows2 e d K=((by_+1)*(rows.length+rows2.length)<=2 ^ 45/\Norm (dm (.own z (rows++rows2))) (Qb e d K)):=rfl
def Me (z by_:Nat) (rows2:List (List D)) (e:Env) (d:Nat) (K:Env->Prop):Prop:=(by_+(1-by_))*rows2.length<=2 ^ 47/\Norm (dm (.own z rows2)) (Qb e d K)
@[go_sem ↓] theorem aer (z by_:Nat) (rows2:List (List D)):Me z by_ rows2 e d K=((by_+(1-by_))*rows2.length<=2 ^ 47/\Norm (dm (.own z rows2)) (Qb e d K)):=rfl
def ApO (e:Env) (z by_ d:Nat) (rows2:List (List D)) (K:Env->Prop) (r:Nat) (ob:D):Prop:=P7 e z by_ d rows2 K r ob
@[congr] theorem Z5 {z by_ r:Nat} {rows2:List (List D)} {ob ob':D} (h:True->ob=ob'):ApO e z by_ d rows2 K r ob=ApO e z by_ d rows2 K r ob':=by rw [h trivial]
@[go_sem] theorem ac3 (z by_ r z':Nat) (rows rows2:List (List D)):ApO e z by_ d rows2 K r (.own z' rows)=(z'=z/\apN z by_ rows rows2 (jT r e) d K):=rfl
@[congr] theorem Wz {z by_:Nat} {x x':D} {y y':Option (List (List D))} (h1:True->x=x') (h2:True->y=y'):we e z by_ d K x y=we e z by_ d K x' y':=by rw [h1 trivial,h2 trivial]
@[go_sem] theorem aaS (z by_:Nat) (rows2:List (List D)):we e z by_ d K .nil (some rows2)=Me z by_ rows2 e d K:=by simp [we,Me,Norm,dm,Qb,ZZ,sq,OP]
@[go_sem] theorem aa3 (z by_:Nat) (rows2:List (List D)):we e z by_ d K .emp (some rows2)=Me z by_ rows2 e d K:=by simp [we,Me,Norm,dm,Qb,ZZ,sq,OP]
@[go_sem] theorem abM (z by_ r:Nat) (rows2:List (List D)):we e z by_ d K (.ref r) (some rows2)=ApO e z by_ d rows2 K r (dm (e.o r)):=rfl
def bo (e:Env) (x:List Nat) (k:Nat) (d:D):D:=pg e.o x k d
@[congr] theorem aaK {x:List Nat} {k:Nat} {d d':D} (h:True->d=d'):bo e x k d=bo e x k d':=by rw [h trivial]
@[congr] theorem Wf {x x' y y':D} {t t' t2 t2':Ty} (h1:True->x=x') (h2:True->y=y') (h3:True->t=t') (h4:True->t2=t2'):ou e d K x y t t2=ou e d K x' y' t' t2':=by rw [h1 trivial,h2 trivial,h3 trivial,h4 trivial]
@[go_sem] theorem aea (x y:D) (z by_ z2 b2:Nat) (a a2:Bool):ou e d K x y (.slice z by_ a) (.slice z2 b2 a2)=(by_<=2 ^ 32/\we e z by_ d K x (yV z (bo e [] 2 (dm y)))):=rfl
@[congr] theorem VU {S:Prop} {x x' y y':D} {t t' t2 t2':Ty} (h1:True->x=x') (h2:True->y=y') (h3:True->t=t') (h4:True->t2=t2'):Af e d K S x y t t2=Af e d K S x' y' t' t2':=by rw [h1 trivial,h2 trivial,h3 trivial,h4 trivial]
@[go_sem] theorem Vh (S:Prop)  (z:Nat) (rows:List (List D)) (t t2:Ty):Af e d K S .nil (.sl z rows) t t2=ou e d K .nil (.sl z rows) t t2:=rfl
@[go_sem] theorem Us (S:Prop)  (z:Nat) (rows:List (List D)) (t t2:Ty):Af e d K S .emp (.sl z rows) t t2=ou e d K .emp (.sl z rows) t t2:=rfl
@[go_sem] theorem Ta (S:Prop) (r:Nat) (r':Nat) (t t2:Ty):Af e d K S (.ref r) (.ref r') t t2=ou e d K (.ref r) (.ref r') t t2:=rfl
@[go_sem] theorem UY (S:Prop) (r:Nat) (z:Nat) (rows:List (List D)) (t t2:Ty):Af e d K S (.ref r) (.sl z rows) t t2=ou e d K (.ref r) (.sl z rows) t t2:=rfl
@[go_sem ↓] theorem Vs (x y:Operand) (T T2:TypeId):j3 P n dr ⟨some d,.call ⟨.builtin .append,#[x,y],#[T,T2]⟩,ty,pos,after,gu⟩ e g K=(d < n/\g=true/\dr=false/\Af e d K (gU P n ⟨some d,.call ⟨.builtin .append,#[x,y],#[T,T2]⟩,ty,pos,after,gu⟩ e K) (dm (rd e x)) (rd e y) (bO P T) (bO P T2)):=rfl
@[congr] theorem WE {t t':Ty} (h:True->t=t'):Eh e d K t=Eh e d K t':=by rw [h trivial]
def aaJ (e:Env) (d:Nat) (K:Env->Prop) (r:Nat):Prop:=OP (e.o r)/\K (cy e d .emp)
@[go_sem ↓] theorem adx (r:Nat):aaJ e d K r=(OP (e.o r)/\K (cy e d .emp)):=rfl
@[go_sem] theorem acN (z b:Nat) (a:Bool):Eh e d K (.slice z b a)=sq (nm d 0) (aaJ e d K):=rfl
@[congr] theorem Xc {z by_:Nat} {y y':Option (List (List D))} (h:True->y=y'):GC e z by_ d K y=GC e z by_ d K y':=by rw [h trivial]
@[go_sem] theorem YK (z by_:Nat) (rows2:List (List D)):GC e z by_ d K (some rows2)=Me z by_ rows2 e d K:=by simp [GC,Me,Norm,dm,Qb,ZZ,sq,OP]
@[congr] theorem W7 {x x' y y':D} {t t' t2 t2':Ty} (h1:True->x=x') (h2:True->y=y') (h3:True->t=t') (h4:True->t2=t2'):AU e d K x y t t2=AU e d K x' y' t' t2':=by rw [h1 trivial,h2 trivial,h3 trivial,h4 trivial]
@[go_sem] theorem adE (y:D) (z by_ z2 b2:Nat) (a a2:Bool):AU e d K .emp y (.slice z by_ a) (.slice z2 b2 a2)=(by_<=2 ^ 32/\GC e z by_ d K (yV z (bo e [] 2 (dm y)))):=rfl
@[go_sem ↓] theorem Yj (t:TypeId) (len:Nat) (ps:Array (Nat × Operand)):mm P n np ops ⟨some d,.buildSlice t len ps,ty,pos,after,gu⟩ e K=(d < n/\Eh e d K (bO P t)):=rfl
@[go_sem ↓] theorem ZR (x y:Operand) (T T2:TypeId):mm P n np ops ⟨some d,.call ⟨.builtin .append,#[x,y],#[T,T2]⟩,ty,pos,after,gu⟩ e K=(d < n/\U1 np ops ⟨some d,.call ⟨.builtin .append,#[x,y],#[T,T2]⟩,ty,pos,after,gu⟩ (Kq e 2 (lm (rd e y).names))/\AU e d K (dm (rd e x)) (dm (rd e y)) (bO P T) (bO P T2)):=rfl
@[go_sem ↓] theorem UR (x y:Operand) (T T2:TypeId):vv P n ⟨some d,.call ⟨.builtin .append,#[x,y],#[T,T2]⟩,ty,pos,after,gu⟩ e g K=(d < n/\g=true/\ou e d K (dm (rd e x)) (dm (rd e y)) (bO P T) (bO P T2)):=rfl
def yf:D->List D
 | .fn _ caps=>caps
 | _=>[]
@[go_sem] theorem Zd (f:FuncId) (caps:List D):yf (.fn f caps)=caps:=rfl
def aa (P:Program) (dr:Bool) (e:Env) (d:Nat) (f:Operand) (args:List Operand) (K:Env->Prop) (S:Prop) (fv:D) (as:List D):Prop:=fv=rd e f/\as=args.map (rd e)++yf (rd e f)->wg P dr e d f args K\/(dr=false/\S)
theorem aa.mk {f:Operand} {args:List Operand} {S:Prop}:(wg P dr e d f args K\/(dr=false/\S))=aa P dr e d f args K S (rd e f) (args.map (rd e)++yf (rd e f)):=by simp [aa]
@[congr] theorem Ub {f:Operand} {args:List Operand} {S:Prop} {fv fv':D} {as as':List D} (h1:True->fv=fv') (h2:True->as=as'):aa P dr e d f args K S fv as=aa P dr e d f args K S fv' as':=by rw [h1 trivial,h2 trivial]
theorem aa.sem {f:Operand} {args:List Operand} {S:Prop} {fv:D} {as:List D} (hd:dr=false) (h:S):aa P dr e d f args K S fv as:=fun _=>.inr ⟨hd,h⟩
@[go_sem ↓] theorem abe (f:Operand) (args:Array Operand) (T:Array TypeId):j3 P n dr ⟨some d,.call ⟨.value f,args,T⟩,ty,pos,after,gu⟩ e g K =
  (d < n/\GK g (aa P dr e d f args.toList K (gU P n ⟨some d,.call ⟨.value f,args,T⟩,ty,pos,after,gu⟩ e K) (dm (rd e f)) (args.toList.map (rd e)++yf (rd e f))) (K (cy e d (.bD [])))):=by
 show (d < n/\GK g (wg P dr e d f args.toList K\/(dr=false/\gU P n ⟨some d,.call ⟨.value f,args,T⟩,ty,pos,after,gu⟩ e K)) (K (cy e d (.bD []))))=_
 rw [aa.mk];rfl
end
end Go.Abs
