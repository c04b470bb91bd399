/- Operations that only compute or read. No theorem of a claim. -/
import Derived.Test.YtnkobepdbkmedaaGreatDoorAbcApp
import Derived.Test.YtnkobepdbkmedaaGreatDoorAbcEq
set_option linter.unusedSimpArgs false
set_option linter.unusedVariables false
namespace Go.Abs
def dG (P:Program) (e:Env) (t:TypeId) (parts:List (Nat × Operand)):List (Nat × Nat × D):=
 match bR P t with
 | .struct fs=>parts.map fun x=>match fs[x.1]? with
  | some f=>(f.off,f.sz,rd e x.2)
  | none=>(0,0,.undef)
 | .arr _ z _=>parts.map fun x=>(x.1*z,z,rd e x.2)
 | _=>[]
def D3 (P:Program) (e:Env) (t:TypeId) (parts:List (Nat × Operand)):Prop:=
 (match bR P t with
 | .struct fs=>∀ x∈parts,x.1 < fs.length
 | .arr _ _ _=>True
 | _=>False)/\∃ z,cK P t=some z/\lY z.length (dG P e t parts)
def Eg:D->D
 | .own _ rows=>.int .i64 rows.length
 | _=>.undef
def zD:D->Prop
 | .own _ _=>True
 | _=>False
def TY (e:Env):D->D
 | .sl _ rows=>.int .i64 rows.length
 | .nil=>.int .i64 0
 | .emp=>.int .i64 0
 | .ref r=>Eg (e.o r)
 | .fC _ _ _ len=>.int .i64 len
 | .eO _ _ _ len _=>.int .i64 len
 | .str s=>.int .i64 s.size
 | _=>.undef
def Kz (e:Env) (t:Ty) (d:D):D:=
 match t with
 | .arr n _ _=>.int .i64 n
 | _=>TY e d
def EA (e:Env):D->Prop
 | .sl _ _ | .nil | .emp | .fC _ _ _ _ | .eO _ _ _ _ _=>True
 | .ref r=>zD (e.o r)
 | _=>False
def isStr:D->Prop
 | .str _=>True
 | _=>False
def zO (e:Env) (t:Ty) (d:D):Prop:=
 match t with
 | .slice _ _ _=>EA e d
 | .str=>isStr d
 | .arr _ _ _=>True
 | _=>False
def My:D->D->D
 | .int k x,.int _ y=>.int k (if y > x then y else x)
 | _,_=>.undef
def L0:D->D->D
 | .int k x,.int _ y=>.int k (if y < x then y else x)
 | _,_=>.undef
def qj:List D->Prop
 | []=>True
 | .int _ _ :: r=>qj r
 | _ :: _=>False
def NS (f:D->D->D):List D->D
 | []=>.undef
 | x :: r=>r.foldl f x
def J6 (e:Env) (dflt:Int):Option Operand->D
 | some x=>rd e x
 | none=>.int .i64 dflt
def Tu (e:Env) (t:Ty) (x:D) (l h:Nat):D:=
 match x with
 | .sl z rows=>.sl z ((rows.take h).drop l)
 | .str s=>.str (s.extract l h)
 | .nil=>.nil
 | .emp=>.emp
 | .ref r=>match e.o r with
  | .own z _=>.fC r z l (h-l)
  | _=>.undef
 | .fC r z lo _=>.fC r z (lo+l) (h-l)
 | .eO r off z _ cap=>.eO r (off+l*z) z (h-l) (cap-l)
 | .addr r off=>match t with
  | .arr n z _=>.eO r (off+l*z) z (h-l) (n-l)
  | _=>.undef
 | _=>.undef
def Mi (e:Env) (t:Ty) (x:D):Option Nat:=
 match x,t with
 | .sl z rows,.slice z' _ _=>if z=z' then some rows.length else none
 | .str s,.str=>some s.size
 | .nil,.slice _ _ _=>some 0
 | .emp,.slice _ _ _=>some 0
 | .ref r,.slice z' _ _=>match e.o r with
  | .own z rows=>if z=z' then some rows.length else none
  | _=>none
 | .fC _ z _ len,.slice z' _ _=>if z=z' then some len else none
 | .eO _ _ z len _,.slice z' _ _=>if z=z' then some len else none
 | .addr _ _,.arr n _ _=>some n
 | _,_=>none
def YD (e:Env) (t:Ty) (x:D):Option Nat:=
 match x,t with
 | .eO _ _ z _ cap,.slice z' _ _=>if z=z' then some cap else none
 | x,t=>Mi e t x
def Wa (N:Option Nat) (lo hi:D) (k:Nat->Nat->Nat->Prop):Prop:=
 match N,lo,hi with
 | some n,.int _ l,.int _ h=>0<=l/\l<=h/\h<=n/\k n l.toNat h.toNat
 | _,_,_=>False
def NT (N:Option Nat):Int:=((N.getD 0:Nat):Int)
def slV (e:Env) (t:Ty) (x:D) (lo hi:Option Operand):D:=
 match J6 e 0 lo,J6 e (NT (Mi e t x)) hi with
 | .int _ l,.int _ h=>Tu e t x l.toNat h.toNat
 | _,_=>.undef
def UG (e:Env) (t:Ty) (x:D) (lo hi:Option Operand):Prop:=
 Wa (YD e t x) (J6 e 0 lo) (J6 e (NT (Mi e t x)) hi) fun _ _ _=>True
def U8:Ty->Prop
 | .slice _ _ _=>True
 | _=>False
def XB:D->Prop
 | .sl _ _ | .nil | .emp | .ref _ | .fC _ _ _ _ | .eO _ _ _ _ _=>True
 | _=>False
def isZero:D->Prop
 | .int _ n=>n=0
 | _=>False
def gO (P:Program) (e:Env):Op->D
 | .move x=>rd e x
 | .assign x=>rd e x
 | .pick c a b=>match rd e c with
  | .bool p=>if p then rd e a else rd e b
  | _=>.undef
 | .binOp op _ x y _=>Cf op (rd e x) (rd e y)
 | .unOp op _ x=>Dc op (rd e x)
 | .convert s d x=>Is (bR P s) (bR P d) (rd e x)
 | .fieldAddr t x f=>match bR P t with
  | .struct fs=>W2 fs f (rd e x)
  | _=>.undef
 | .field t x f=>match bR P t with
  | .struct fs=>Ro fs f (rd e x)
  | _=>.undef
 | .indexAddr t x i=>S9 e (bR P t) (rd e x) (rd e i)
 | .index t x i=>ixV (bR P t) (rd e x) (rd e i)
 | .load t a=>match bX P t with
  | some l=>WD e l (rd e a)
  | none=>.undef
 | .nilCheck x=>rd e x
 | .extract x i=>match rd e x with
  | .bI ds=>ds.getD i .undef
  | _=>.undef
 | .build t parts=>match cK P t with
  | some z=>.agg (kq z (dG P e t parts.toList))
  | none=>.undef
 | .slice t x lo hi none=>slV e (bR P t) (rd e x) lo hi
 | .slice _ _ _ _ (some _)=>.emp
 | .makeFunc (.func f) _ caps=>.fn f (caps.toList.map (rd e))
 | .call c=>match c.callee,c.args.toList,c.argTypes.toList with
  | .builtin .len,[x],[t]=>Kz e (bR P t) (rd e x)
  | .builtin .max,l,_=>NS My (l.map (rd e))
  | .builtin .min,l,_=>NS L0 (l.map (rd e))
  | _,_,_=>.undef
 | _=>.undef
def U4:D->Prop
 | .addr _ _ | .bT _ _ _ _ | .bN _ | .fn _ _=>True
 | _=>False
def dK (P:Program) (e:Env):Op->Prop
 | .move _=>True
 | .assign _=>True
 | .pick c _ _=>match rd e c with
  | .bool _=>True
  | _=>False
 | .binOp op t x y _=>uI P (isConst x||isConst y) op t (rd e x) (rd e y)
 | .unOp op _ x=>qz op (rd e x)
 | .convert s d x=>Ft (bR P s) (bR P d) (rd e x)
 | .fieldAddr t x f=>match bR P t with
  | .struct fs=>RR fs f (rd e x)
  | _=>False
 | .field t x f=>match bR P t with
  | .struct fs=>H7 fs f (rd e x)
  | _=>False
 | .indexAddr t x i=>MI e (bR P t) (rd e x) (rd e i)
 | .index t x i=>MC (bR P t) (rd e x) (rd e i)
 | .load t a=>match bX P t with
  | some l=>JY e l (rd e a)
  | none=>False
 | .nilCheck x=>U4 (rd e x)
 | .extract x i=>match rd e x with
  | .bI ds=>i < ds.length
  | _=>False
 | .build t parts=>D3 P e t parts.toList
 | .slice t x lo hi none=>UG e (bR P t) (rd e x) lo hi
 | .slice t x none (some h) (some m)=>U8 (bR P t)/\XB (rd e x)/\isZero (rd e h)/\isZero (rd e m)
 | .makeFunc (.func _) first _=>first = #[]
 | .call c=>match c.callee,c.args.toList,c.argTypes.toList with
  | .builtin .len,[x],[t]=>zO e (bR P t) (rd e x)
  | .builtin .max,l,_=>l≠[]/\qj (l.map (rd e))
  | .builtin .min,l,_=>l≠[]/\qj (l.map (rd e))
  | _,_,_=>False
 | _=>False
section
variable {P:Program} {w0 w w':World} {l0:Nat->Option Nat} {G:Nat->Option (Nat × Nat)} {S0:Nat->Option Value} {lev lev' own own':Nat->Option Nat} {S S':Nat->Option Value} {env env':Env} {tm tm':Nat->Value}
theorem Inv.KE {tmps:Array Value} (h:Inv w0 l0 G S0 w lev own S env (j8 tmps)) (a:Act) (ha:a.tmps=tmps) (x:Operand):aE (cx w lev S) (a.eval x) (rd env x):=by
 subst ha;cases x with
 | tmp t=>exact h.lU t
 | const v=>exact Mz v
 | global g=>exact .undef _
 | func f=>exact .fn f #[] [] rfl (by intro i v d hv;simp at hv)
theorem EZ {V:Cx} (place:Nat->Option (Nat × Nat)):∀ (ps:List (Nat × Value)) (qs:List (Nat × Nat × D)) (cs:Array Value) (ds:List D),ps.length=qs.length->cs.size=ds.length ->
  (∀ (i:Nat) v d,cs[i]?=some v->ds[i]?=some d->aE V v d) ->
  (∀ (k:Nat) p q,ps[k]?=some p->qs[k]?=some q->place p.1=some (q.1,q.2.1)/\aE V p.2 q.2.2)->lY ds.length qs ->
  ∃ cs',Instr.fill place cs ps=some cs'/\cs'.size=(kq ds qs).length/\∀ (i:Nat) v d,cs'[i]?=some v->(kq ds qs)[i]?=some d->aE V v d
 | [],[],cs,ds,_,hs,hr,_,_=>⟨cs,rfl,hs,hr⟩
 | [],_ :: _,_,_,h,_,_,_,_=>by simp at h
 | _ :: _,[],_,_,h,_,_,_,_=>by simp at h
 | (i,v) :: ps,(off,sz,d) :: qs,cs,ds,hl,hs,hr,hp,hok=>by
  obtain ⟨h1,h2,h3,h4⟩:=hok;obtain ⟨hpl,hrv⟩:=hp 0 (i,v) (off,sz,d) rfl rfl;simp only at hpl hrv;obtain ⟨c1,c2,c3⟩:=pU hrv h3
  have hw:(v.cells.zipIdx.foldl (fun cs (x:Value × Nat)=>cs.setIfInBounds (off+x.2) x.1) cs)=dB cs off v.cells.toList:=by
   rw [<- Array.foldl_toList,Array.toList_zipIdx]
   have:∀ (l:List Value) (k:Nat) (c:Array Value),(l.zipIdx k).foldl (fun cs (x:Value × Nat)=>cs.setIfInBounds (off+x.2) x.1) c=dB c (off+k) l:=by
    intro l
    induction l with
    | nil=>intro k c;rfl
    | cons x l ih=>intro k c;simp only [List.zipIdx_cons,List.foldl_cons,dB,ih];rw [Nat.add_assoc]
   exact this _ 0 cs
  have hfit:off+v.cells.toList.length<=cs.size:=by simp;omega
  have hlen:(lD ds off d.cells).length=ds.length:=mV (by omega)
  obtain ⟨cs',e1,e2,e3⟩:=EZ place ps qs (dB cs off v.cells.toList) (lD ds off d.cells) (by simpa using hl) (by rw [dM,hlen];exact hs)
   (by
    intro k u x hu hx;rw [kg _ _ _ _ hfit] at hu;rw [zN (by omega)] at hx;have hlv:v.cells.toList.length=d.cells.length:=by simpa using c1
    by_cases hj:off<=k/\k < off+d.cells.length
    ·rw [if_pos (by rw [hlv];exact hj)] at hu;rw [if_pos hj] at hx;exact c3 _ u x (by simpa using hu) hx
    ·rw [if_neg (by rw [hlv];exact hj)] at hu;rw [if_neg hj] at hx
     exact hr k u x hu hx)
   (fun k p q hk hq=>hp (k+1) p q hk hq) (by rw [hlen];exact h4)
  refine ⟨cs',?_,e2,e3⟩;unfold Instr.fill;simp only [hpl];rw [if_neg (by simp;omega)];rw [hw];exact e1
theorem WZ {fs:Array Field} {l:List FT} (hfs:mQ P fs.toList=some l) (w:World) :
  ∃ ps:Array (Nat × Nat),(fs.mapM (fun f=>do pure (f.offset,<- sizeOf f.type):Field->Sem (Nat × Nat))).run P w=.ok ps w/\∀ i:Nat,ps[i]?=(l[i]?).map fun f=>(f.off,f.sz):=by
 have key:∀ (r:List Field) (l:List FT) (acc:Array (Nat × Nat)),mQ P r=some l ->
   (r.foldlM (fun (acc:Array (Nat × Nat)) f=>do pure (acc.push (f.offset,<- sizeOf f.type))) acc:Sem (Array (Nat × Nat))).run P w=.ok (acc++(l.map fun f=>(f.off,f.sz)).toArray) w:=by
  intro r
  induction r with
  | nil =>
   intro l acc h;simp only [mQ,Option.some.injEq] at h;subst h;simp [Sem.run,pure]
  | cons f r ih =>
   intro l acc h;unfold mQ at h;split at h<;>try (cases h;done)
   rename_i ly fs' hl hr;split at h
   ·cases h
   ·cases h;simp only [List.foldlM_cons,Sem.run_bind,cz hl];have:=ih fs' (acc.push (f.offset,ly.sz)) hr;simp only [Result.andThen_ok,pure,Sem.run] at this |-;rw [this];simp
 refine ⟨(l.map fun f=>(f.off,f.sz)).toArray,?_,fun i=>by simp⟩;have:=key fs.toList l #[] hfs;rw [Array.mapM_eq_foldlM];rw [<- Array.foldlM_toList];simpa using this
end
end Go.Abs
