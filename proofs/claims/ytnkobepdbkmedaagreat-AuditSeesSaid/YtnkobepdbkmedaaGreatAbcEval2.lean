/- The predicate on data, worked out by simp: data, calls, weakening, results; printed by gen_eval2.py. No theorem of a claim. -/
import Derived.Test.YtnkobepdbkmedaaGreatAbcEval
set_option linter.unusedSimpArgs false
set_option linter.unusedVariables false
namespace Go.Abs
attribute [go_sem] Bool.not_true Bool.not_false Bool.true_and Bool.and_true Bool.false_and Bool.and_false Bool.true_or Bool.or_true Bool.false_or Bool.or_false Bool.not_not true_and and_true if_true if_false ite_true ite_false not_true_eq_false not_false_eq_true
attribute [go_sem] List.map_cons List.map_nil List.length_cons List.length_nil List.append_nil List.nil_append List.cons_append List.take_succ_cons List.take_zero List.drop_succ_cons List.drop_zero List.headD_cons List.take_nil List.drop_nil Nat.add_zero Nat.zero_add List.replicate_succ List.replicate_zero List.flatten_cons List.flatten_nil List.set_cons_zero List.set_cons_succ List.getElem?_cons_zero List.getElem?_cons_succ List.getElem?_nil Option.map_some Option.map_none Option.getD_some Option.getD_none
attribute [go_sem] List.contains_nil List.contains_cons Bool.or_self beq_self_eq_true
attribute [go_sem] decide_true decide_false Int.natCast_nonneg Int.toNat_natCast forall_eq implies_true true_implies false_implies reduceCtorEq and_self
@[go_sem ↓] theorem ae3 (e:Env) (t:Nat):rd e (.tmp t)=e.t t:=Eq.trans rfl rfl
@[go_sem ↓] theorem aaX (e:Env) (v:Value):rd e (.const v)=qO v:=Eq.trans rfl rfl
@[go_sem ↓] theorem ac9 (e:Env) (f:FuncId):rd e (.func f)=.fn f []:=Eq.trans rfl rfl
@[go_sem ↓] theorem aen (e:Env) (i:Nat) (d:D) (j:Nat):(dj e i d).t j=if j=i then d else e.t j:=Eq.trans rfl rfl
@[go_sem ↓] theorem afw (e:Env) (i:Nat) (d:D) (j:Nat):(dj e i d).o j=e.o j:=Eq.trans rfl rfl
@[go_sem ↓] theorem aeZ (e:Env) (i:Nat) (d:D) (j:Nat):(dZ e i d).o j=if j=i then d else e.o j:=Eq.trans rfl rfl
@[go_sem ↓] theorem afh (e:Env) (i:Nat) (d:D) (j:Nat):(dZ e i d).t j=e.t j:=Eq.trans rfl rfl
@[go_sem ↓] theorem ade (e:Env) (r j:Nat):(jV r e).t j=(e.t j).kill r:=Eq.trans rfl rfl
@[go_sem ↓] theorem ace (e:Env) (r j:Nat):(jV r e).o j=if j=r then .undef else (e.o j).kill r:=Eq.trans rfl rfl
@[go_sem ↓] theorem agN (ts os:EL) (j:Nat):(sq ts os).t j=look ts j:=Eq.trans rfl rfl
@[go_sem ↓] theorem agi (ts os:EL) (j:Nat):(sq ts os).o j=look os j:=Eq.trans rfl rfl
@[go_sem ↓] theorem look_nil (j:Nat):look [] j=.undef:=Eq.trans rfl rfl
@[go_sem ↓] theorem YR (i:Nat) (d:D) (r:EL) (j:Nat):look ((i,d) :: r) j=if j=i then d else look r j:=Eq.trans rfl rfl
@[go_sem ↓] theorem adk (k:Nat):Pc k []=[]:=rfl
@[go_sem] theorem abg (k:Nat) (d:D) (ds:List D):Pc k (d :: ds)=(k,d) :: Pc (k+1) ds:=rfl
@[go_sem ↓] theorem ac7 (k:Nat):qI k []=[]:=rfl
@[congr] theorem ah4 (k:Nat) {l l':List D} (h:True->l=l'):qI k l=qI k l':=by rw [h trivial]
def osI (b:Bool) (k:Nat) (d:D) (ds:List D):EL:=if b then qI (k+1) ds else (k,d) :: qI (k+1) ds
@[go_sem] theorem abE (k:Nat) (d:D) (ds:List D):qI k (d :: ds)=osI (cU d) k d ds:=rfl
@[go_sem] theorem agx (k:Nat) (d:D) (ds:List D):osI true k d ds=qI (k+1) ds:=rfl
@[go_sem] theorem afP (k:Nat) (d:D) (ds:List D):osI false k d ds=(k,d) :: qI (k+1) ds:=rfl
@[go_sem] theorem Ux (b:Bool):qO (.bool b)=.bool b:=rfl
@[go_sem] theorem VA (k:IntKind) (n:Int):qO (.int k n)=.int k n:=rfl
@[go_sem] theorem Xn (s:ByteArray):qO (.string s)=.str s:=rfl
@[go_sem] theorem Vb:qO (.slice none 0 0)=.nil:=rfl
@[go_sem] theorem TA:qO .nilIface=.eH:=rfl
@[go_sem] theorem Wi (b:Bool):D.names (.bool b)=[]:=by rw [D.names.eq_def]
@[go_sem] theorem XU (k:IntKind) (m:Int):D.names (.int k m)=[]:=by rw [D.names.eq_def]
@[go_sem] theorem ZA (s:ByteArray):D.names (.str s)=[]:=by rw [D.names.eq_def]
@[go_sem] theorem aaF (z:Nat) (rows:List (List D)):D.names (.sl z rows)=[]:=by rw [D.names.eq_def]
@[go_sem] theorem Ub (cs:List D):D.names (.bF cs)=[]:=by rw [D.names.eq_def]
@[go_sem] theorem YV (z:Nat) (rows:List (List D)):D.names (.own z rows)=[]:=by rw [D.names.eq_def]
@[go_sem] theorem Y8 (r:Nat):D.names (.ref r)=[r]:=by rw [D.names]
@[go_sem] theorem V5 (r o:Nat):D.names (.addr r o)=[r]:=by rw [D.names]
@[go_sem] theorem TV (r z i k:Nat):D.names (.bQ r z i k)=[r]:=by rw [D.names]
@[go_sem] theorem ZZ (f:FuncId) (cs:List D):D.names (.fn f cs)=D.cg cs:=by rw [D.names]
@[go_sem] theorem Y6 (cs:List D):D.names (.agg cs)=D.cg cs:=by rw [D.names]
@[go_sem] theorem Yq (cs:List D):D.names (.box cs)=D.cg cs:=by rw [D.names]
@[go_sem] theorem Xl:D.cg []=[]:=by rw [D.cg]
@[go_sem] theorem UY (d:D) (l:List D):D.cg (d :: l)=d.names++D.cg l:=by rw [D.cg]
@[go_sem] theorem Xd (q:Nat)  : D.kill q (.undef)=.undef:=by rw [D.kill.eq_def]
@[go_sem] theorem XV (q:Nat) (b:Bool):D.kill q (.bool b)=.bool b:=by rw [D.kill.eq_def]
@[go_sem] theorem aa5 (q:Nat) (k:IntKind) (m:Int):D.kill q (.int k m)=.int k m:=by rw [D.kill.eq_def]
@[go_sem] theorem abr (q:Nat) (s:ByteArray):D.kill q (.str s)=.str s:=by rw [D.kill.eq_def]
@[go_sem] theorem aa7 (q:Nat)  : D.kill q (.nil)=.nil:=by rw [D.kill.eq_def]
@[go_sem] theorem ab7 (q:Nat) (z:Nat) (rows:List (List D)):D.kill q (.sl z rows)=.sl z rows:=by rw [D.kill.eq_def]
@[go_sem] theorem abG (q:Nat) (z:Nat) (rows:List (List D)):D.kill q (.own z rows)=.own z rows:=by rw [D.kill.eq_def]
@[go_sem] theorem aaO (q:Nat) (r:Nat):D.kill q (.ref r)=if r=q then .undef else .ref r:=by rw [D.kill]
@[go_sem] theorem X5 (q:Nat) (r o:Nat):D.kill q (.addr r o)=if r=q then .undef else .addr r o:=by rw [D.kill]
@[go_sem] theorem acJ (q:Nat) (f:FuncId) (cs:List D):D.kill q (.fn f cs)=.fn f  (D.iQ q cs):=by rw [D.kill]
@[go_sem] theorem Z6 (q:Nat) (cs:List D):D.kill q (.box cs)=.box  (D.iQ q cs):=by rw [D.kill]
@[go_sem] theorem YY (q:Nat):D.iQ q []=[]:=by rw [D.iQ]
@[go_sem] theorem VU (q:Nat) (d:D) (l:List D):D.iQ q (d :: l)=d.kill q :: D.iQ q l:=by rw [D.iQ]
def fz (e:Env) (q:Nat) (d:D):D:=jo (e.o q) q d
def Rw (e:Env) (q:Nat) (l:List D):List D:=rJ (e.o q) q l
@[congr] theorem abt {e:Env} {q:Nat} {d d':D} (h:True->d=d'):fz e q d=fz e q d':=by rw [h trivial]
@[congr] theorem Yl {e:Env} {q:Nat} {d d':List D} (h:True->d=d'):Rw e q d=Rw e q d':=by rw [h trivial]
def Y1 (b:Bool) (x d:D):D:=if b then x else d
@[congr] theorem Ye {b b':Bool} {x d:D} (h:True->b=b'):Y1 b x d=Y1 b' x d:=by rw [h trivial]
@[go_sem ↓] theorem aaf (x d:D):Y1 true x d=x:=rfl
@[go_sem ↓] theorem XB (x d:D):Y1 false x d=d:=rfl
@[go_sem] theorem aaL (e:Env) (q:Nat)  : fz e q (.undef)=.undef:=by rw [fz,jo.eq_def]
@[go_sem] theorem adw (e:Env) (q:Nat) (b:Bool):fz e q (.bool b)=.bool b:=by rw [fz,jo.eq_def]
@[go_sem] theorem aeQ (e:Env) (q:Nat) (k:IntKind) (m:Int):fz e q (.int k m)=.int k m:=by rw [fz,jo.eq_def]
@[go_sem] theorem aeC (e:Env) (q:Nat) (s:ByteArray):fz e q (.str s)=.str s:=by rw [fz,jo.eq_def]
@[go_sem] theorem aeT (e:Env) (q:Nat)  : fz e q (.nil)=.nil:=by rw [fz,jo.eq_def]
@[go_sem] theorem ahj (e:Env) (q:Nat) (z:Nat) (rows:List (List D)):fz e q (.sl z rows)=.sl z rows:=by rw [fz,jo.eq_def]
@[go_sem] theorem ad3 (e:Env) (q:Nat) (z:Nat) (rows:List (List D)):fz e q (.own z rows)=.own z rows:=by rw [fz,jo.eq_def]
@[go_sem] theorem aeg (e:Env) (q:Nat) (r:Nat):fz e q (.ref r)=Y1 (bm (r==q)) (sx (e.o q)) (.ref r):=by rw [fz,jo];rfl
@[go_sem] theorem adr (e:Env) (q:Nat) (r o:Nat):fz e q (.addr r o)=Y1 (bm (r==q)) (mJ lS o (e.o q)) (.addr r o):=by rw [fz,jo];rfl
@[go_sem] theorem agM (e:Env) (q:Nat) (f:FuncId) (cs:List D):fz e q (.fn f cs)=.fn f  (Rw e q cs):=by rw [fz,jo];rfl
@[go_sem] theorem afg (e:Env) (q:Nat) (cs:List D):fz e q (.agg cs)=.agg  (Rw e q cs):=by rw [fz,jo];rfl
@[go_sem] theorem ad6 (e:Env) (q:Nat) (cs:List D):fz e q (.box cs)=.box  (Rw e q cs):=by rw [fz,jo];rfl
@[go_sem] theorem adM (e:Env) (q:Nat):Rw e q []=[]:=by rw [Rw,rJ]
@[go_sem] theorem abq (e:Env) (q:Nat) (d:D) (l:List D):Rw e q (d :: l)=fz e q d :: Rw e q l:=by rw [Rw,rJ];rfl
@[go_sem] theorem Zq (q:Nat->Option Nat)  : D.jq q (.undef)=.undef:=by rw [D.jq.eq_def]
@[go_sem] theorem aaZ (q:Nat->Option Nat) (b:Bool):D.jq q (.bool b)=.bool b:=by rw [D.jq.eq_def]
@[go_sem] theorem adK (q:Nat->Option Nat) (k:IntKind) (m:Int):D.jq q (.int k m)=.int k m:=by rw [D.jq.eq_def]
@[go_sem] theorem adR (q:Nat->Option Nat) (s:ByteArray):D.jq q (.str s)=.str s:=by rw [D.jq.eq_def]
@[go_sem] theorem afr (q:Nat->Option Nat) (z:Nat) (rows:List (List D)):D.jq q (.sl z rows)=.sl z rows:=by rw [D.jq.eq_def]
@[go_sem] theorem adL (q:Nat->Option Nat) (z:Nat) (rows:List (List D)):D.jq q (.own z rows)=.own z rows:=by rw [D.jq.eq_def]
@[go_sem] theorem acu (q:Nat->Option Nat) (r:Nat):D.jq q (.ref r)=uj (q r) (.ref) .undef:=by rw [D.jq];cases q r<;>rfl
@[go_sem] theorem adl (q:Nat->Option Nat) (cs:List D):D.jq q (.agg cs)=.agg  (D.qz q cs):=by rw [D.jq]
@[go_sem] theorem acW (q:Nat->Option Nat) (cs:List D):D.jq q (.bI cs)=.bI  (D.qz q cs):=by rw [D.jq]
@[go_sem] theorem adV (q:Nat->Option Nat) (cs:List D):D.jq q (.box cs)=.box  (D.qz q cs):=by rw [D.jq]
@[go_sem] theorem abU (q:Nat->Option Nat):D.qz q []=[]:=by rw [D.qz]
@[go_sem] theorem Zm (q:Nat->Option Nat) (d:D) (l:List D):D.qz q (d :: l)=d.jq q :: D.qz q l:=by rw [D.qz]
@[go_sem ↓] theorem Yp (i:Nat) (f:Nat->D) (d:D):uj (some i) f d=f i:=rfl
@[go_sem ↓] theorem XR (f:Nat->D) (d:D):uj none f d=d:=rfl
@[congr] theorem WK {i i':Option Nat} {f:Nat->D} {d:D} (h:True->i=i'):uj i f d=uj i' f d:=by rw [h trivial]
@[congr] theorem Tx {b b':Bool} {d:D} (h:True->b=b'):cz b d=cz b' d:=by rw [h trivial]
@[go_sem ↓] theorem Uv (d:D):cz true d=.undef:=rfl
@[go_sem ↓] theorem SJ (d:D):cz false d=d:=rfl
@[go_sem] theorem afF (e:Env) (x:List Nat) (j:Nat) (k:IntKind) (m:Int):bo e x (j+1) (.int k m)=.int k m:=rfl
@[go_sem] theorem af8 (e:Env) (x:List Nat) (j:Nat) (z:Nat) (rows:List (List D)):bo e x (j+1) (.sl z rows)=.sl z rows:=rfl
@[go_sem] theorem ae6 (e:Env) (x:List Nat) (j:Nat) (r:Nat):bo e x (j+1) (.ref r)=cz (bm (x.contains r)) (sx (e.o r)):=rfl
@[go_sem] theorem acO (e:Env) (x:List Nat) (j:Nat) (r o:Nat):bo e x (j+1) (.addr r o)=cz (bm (x.contains r)) (mJ (bo e x j) o (e.o r)):=rfl
@[go_sem] theorem agz (e:Env) (x:List Nat) (j:Nat) (f:FuncId) (cs:List D):bo e x (j+1) (.fn f cs)=.fn f  (cs.map (bo e x j)):=rfl
@[go_sem] theorem acT (e:Env) (x:List Nat) (d:D):bo e x 0 d=lS d:=rfl
def cv (e:Env) (bw:Bool) (gs:List Nat) (k:Nat) (d:D):D:=conv bw gs e.o k d
@[congr] theorem abm {e:Env} {bw:Bool} {gs:List Nat} {k:Nat} {d d':D} (h:True->d=d'):cv e bw gs k d=cv e bw gs k d':=by rw [h trivial]
@[go_sem] theorem acU (e:Env) (bw:Bool) (x:List Nat) (j:Nat) (b:Bool):cv e bw x (j+1) (.bool b)=.bool b:=rfl
@[go_sem] theorem aev (e:Env) (bw:Bool) (x:List Nat) (j:Nat) (k:IntKind) (m:Int):cv e bw x (j+1) (.int k m)=.int k m:=rfl
@[go_sem] theorem aeM (e:Env) (bw:Bool) (x:List Nat) (j:Nat) (s:ByteArray):cv e bw x (j+1) (.str s)=.str s:=rfl
@[go_sem] theorem ae7 (e:Env) (bw:Bool) (x:List Nat) (j:Nat)  : cv e bw x (j+1) (.nil)=.nil:=rfl
@[go_sem] theorem agD (e:Env) (bw:Bool) (x:List Nat) (j:Nat) (z:Nat) (rows:List (List D)):cv e bw x (j+1) (.sl z rows)=.sl z rows:=rfl
@[go_sem] theorem aaG (e:Env) (bw:Bool) (x:List Nat) (j:Nat) (cs:List D):cv e bw x (j+1) (.bF cs)=.bF cs:=rfl
@[go_sem] theorem afk (e:Env) (bw:Bool) (x:List Nat) (j:Nat) (r:Nat):cv e bw x (j+1) (.ref r)=uj (idx x r) (.ref) (cz (bm (!bw)) (bo e x j (dm (.ref r)))):=rfl
@[go_sem] theorem acp (e:Env) (bw:Bool) (x:List Nat) (j:Nat) (r o:Nat):cv e bw x (j+1) (.addr r o)=uj (idx x r) (fun x=>.addr x o) (cz (bm (!bw)) (bo e x j (dm (.addr r o)))):=rfl
@[go_sem] theorem af1 (e:Env) (bw:Bool) (x:List Nat) (j:Nat) (f:FuncId) (cs:List D):cv e bw x (j+1) (.fn f cs)=.fn f  (cs.map (cv e bw x j)):=rfl
@[go_sem] theorem afp (e:Env) (bw:Bool) (x:List Nat) (j:Nat) (cs:List D):cv e bw x (j+1) (.agg cs)=.agg  (cs.map (cv e bw x j)):=rfl
def VW (e:Env) (bw:Bool) (gs:List Nat) (k:Nat) (d:D):D:=CA bw gs e.o k d
@[congr] theorem Yj {e:Env} {bw:Bool} {gs:List Nat} {k:Nat} {d d':D} (h:True->d=d'):VW e bw gs k d=VW e bw gs k d':=by rw [h trivial]
@[go_sem] theorem adx (e:Env) (bw:Bool) (x:List Nat) (j:Nat) (cs:List D):VW e bw x j (.box cs)=.box (cs.map (cv e bw x j)):=rfl
@[go_sem] theorem ado (e:Env) (bw:Bool) (x:List Nat) (j z:Nat) (rows:List (List D)):VW e bw x j (.own z rows)=.own z rows:=rfl
mutual
/-- data that names no object -/
def Pl:D->Prop
 | .fn _ cs=>vN cs
 | .agg cs=>vN cs
 | .bI cs=>vN cs
 | .box _ | .own _ _ | .ref _ | .addr _ _ | .bQ _ _ _ _ | .ff _ _ _ _ | .eD _ _ _ _ _=>False
 | _=>True
def vN:List D->Prop
 | []=>True
 | d :: l=>Pl d/\vN l
end
@[go_sem] theorem adq (b:Bool):Pl (.bool b)=True:=by rw [Pl.eq_def]
@[go_sem] theorem aej (k:IntKind) (m:Int):Pl (.int k m)=True:=by rw [Pl.eq_def]
@[go_sem] theorem afu (s:ByteArray):Pl (.str s)=True:=by rw [Pl.eq_def]
@[go_sem] theorem aeA:Pl (.nil)=True:=by rw [Pl.eq_def]
@[go_sem] theorem aan:Pl (.eH)=True:=by rw [Pl.eq_def]
@[go_sem] theorem ag2 (z:Nat) (rows:List (List D)):Pl (.sl z rows)=True:=by rw [Pl.eq_def]
@[go_sem] theorem ZV (cs:List D):Pl (.bF cs)=True:=by rw [Pl.eq_def]
@[go_sem] theorem agh (f:FuncId) (cs:List D):Pl (.fn f cs)=vN cs:=by rw [Pl]
@[go_sem] theorem afo (cs:List D):Pl (.agg cs)=vN cs:=by rw [Pl]
@[go_sem] theorem aex (cs:List D):Pl (.bI cs)=vN cs:=by rw [Pl]
@[go_sem] theorem acf:vN []=True:=by rw [vN]
@[go_sem] theorem ab1 (d:D) (l:List D):vN (d :: l)=(Pl d/\vN l):=by rw [vN]
theorem Gz:∀ {l:List D},vN l->∀ d∈l,Pl d
 | [],_,d,h=>by cases h
 | x :: l,h,d,hd=>by
  rw [vN] at h;rcases List.mem_cons.1 hd with rfl | hd
  ·exact h.1
  ·exact Gz h.2 d hd
mutual
theorem Pl.names:∀ (d:D),Pl d->d.names=[]
 | .fn _ cs,h=>by rw [Pl] at h;rw [D.names];exact vN.names cs h
 | .agg cs,h=>by rw [Pl] at h;rw [D.names];exact vN.names cs h
 | .bI cs,h=>by rw [Pl] at h;rw [D.names];exact vN.names cs h
 | .box _,h | .own _ _,h | .ref _,h | .addr _ _,h | .bQ _ _ _ _,h | .ff _ _ _ _,h | .eD _ _ _ _ _,h=>by rw [Pl] at h;exact h.elim
 | .undef,_ | .bool _,_ | .int _ _,_ | .str _,_ | .nil,_ | .emp,_ | .iP,_ | .eH,_ | .fq,_ | .j7,_ | .sl _ _,_ | .bF _,_=>by rw [D.names.eq_def]
theorem vN.names:∀ (l:List D),vN l->D.cg l=[]
 | [],_=>by rw [D.cg]
 | d :: l,h=>by rw [vN] at h;rw [D.cg,Pl.names d h.1,vN.names l h.2];rfl
end
mutual
theorem Pl.jq (f:Nat->Option Nat):∀ (d:D),Pl d->d.jq f=d
 | .fn _ cs,h=>by rw [Pl] at h;rw [D.jq,vN.jq f cs h]
 | .agg cs,h=>by rw [Pl] at h;rw [D.jq,vN.jq f cs h]
 | .bI cs,h=>by rw [Pl] at h;rw [D.jq,vN.jq f cs h]
 | .box _,h | .own _ _,h | .ref _,h | .addr _ _,h | .bQ _ _ _ _,h | .ff _ _ _ _,h | .eD _ _ _ _ _,h=>by rw [Pl] at h;exact h.elim
 | .undef,_ | .bool _,_ | .int _ _,_ | .str _,_ | .nil,_ | .emp,_ | .iP,_ | .eH,_ | .fq,_ | .j7,_ | .sl _ _,_ | .bF _,_=>by rw [D.jq.eq_def]
theorem vN.jq (f:Nat->Option Nat):∀ (l:List D),vN l->D.qz f l=l
 | [],_=>by rw [D.qz]
 | d :: l,h=>by rw [vN] at h;rw [D.qz,Pl.jq f d h.1,vN.jq f l h.2]
end
theorem Pl.conv (bw:Bool) (gs:List Nat) (o:Nat->D):∀ (k:Nat) (d:D),Pl d->conv bw gs o k d=d
 | 0,d,h=>by simp [Go.Abs.conv,lS,Pl.names d h]
 | k+1,d,h=>by
  have mp:∀ cs:List D,vN cs->cs.map (Go.Abs.conv bw gs o k)=cs:=by
   intro cs hc
   conv=>rhs;rw [<- List.map_id cs]
   exact List.map_congr_left fun d hd=>Pl.conv bw gs o k d (Gz hc d hd)
  cases d<;>try rfl
  all_goals rw [Pl] at h
  all_goals first | exact h.elim | skip
  all_goals simp only [Go.Abs.conv];rw [mp _ h]
section
variable {P:Program} {e:Env} {dr:Bool} {K:Env->Prop} {d:Nat} {f:Operand} {args:List Operand}
theorem aa.pure {S:Prop} {k:FuncId} {caps ds:List D} {dv:D} (h:Spec P k [] ds [] dv) (hk:vN ds/\Pl dv/\K (dj e d dv)):aa P dr e d f args K S (.fn k caps) ds:=by
 rintro ⟨hf,has⟩
 refine .inl ?_;have has:ds=args.map (rd e)++caps:=by rw [has,<- hf];rfl
 obtain ⟨h1,h2,h3⟩:=hk;refine ⟨[],[],false,[],dv,fun _=>⟨rfl,rfl⟩,?_⟩
 show vX P e d args [] false [] dv (KW dr K) (rd e f)
 rw [<- hf];refine ⟨List.nodup_nil,by simp,by simp [kk],⟨Nat.le_refl _,by simp⟩,by simp,?_,?_⟩
 ·rw [<- has]
  have:ds.map (conv false [] e.o 4)=ds:=by
   conv=>rhs;rw [<- List.map_id ds]
   exact List.map_congr_left fun d hd=>Pl.conv false [] e.o 4 d (Gz h1 d hd)
  rw [this];exact h
 ·have:eI e d [] [] dv=dj e d dv:=by
   unfold eI;rw [Pl.jq _ dv h2];rfl
  rw [this];exact .inl h3
def aY (P:Program) (e:Env) (d:Nat) (f:Operand) (args:List Operand) (K:Env->Prop) (gs:List Nat) (bw:Bool) (fv:D) (ds hs:List D):Prop:=
 fv=cv e bw gs 5 (rd e f)->ds=args.map (fun x=>cv e bw gs 4 (rd e x))++vo (cv e bw gs 5 (rd e f))->hs=gs.map (fun r=>VW e bw gs 4 (e.o r))->∃ hs' dv,vX P e d args gs bw hs' dv K (rd e f)
@[congr] theorem TX {gs:List Nat} {bw:Bool} {fv fv':D} {ds ds' hs hs':List D} (h1:True->fv=fv') (h2:True->ds=ds') (h3:True->hs=hs'):aY P e d f args K gs bw fv ds hs=aY P e d f args K gs bw fv' ds' hs':=by rw [h1 trivial,h2 trivial,h3 trivial]
theorem aa.gen (fz gs:List Nat) (bw:Bool) {S:Prop} {fv:D} {as:List D} (hdr:dr=true->fz=[]/\gs=[]) (h:aY P (dN fz e) d f args K gs bw (cv (dN fz e) bw gs 5 (rd (dN fz e) f)) (args.map (fun x=>cv (dN fz e) bw gs 4 (rd (dN fz e) x))++vo (cv (dN fz e) bw gs 5 (rd (dN fz e) f))) (gs.map (fun r=>VW (dN fz e) bw gs 4 ((dN fz e).o r)))) :
  aa P dr e d f args K S fv as:=by
 intro _;obtain ⟨hs',dv,h⟩:=h rfl rfl rfl;exact .inl ⟨fz,gs,bw,hs',dv,hdr,rB (fun _=>.inl) h⟩
theorem aa.afA (ts os:EL) (fz gs:List Nat) (bw:Bool) {S:Prop} {fv:D} {as:List D} (hdr:dr=false) (h:aY P (dN fz e) d f args (fun e'=>LM e' ts os/\K (sq ts os)) gs bw (cv (dN fz e) bw gs 5 (rd (dN fz e) f)) (args.map (fun x=>cv (dN fz e) bw gs 4 (rd (dN fz e) x))++vo (cv (dN fz e) bw gs 5 (rd (dN fz e) f))) (gs.map (fun r=>VW (dN fz e) bw gs 4 ((dN fz e).o r)))) :
  aa P dr e d f args K S fv as:=by
 intro _;obtain ⟨hs',dv,h⟩:=h rfl rfl rfl;exact .inl ⟨fz,gs,bw,hs',dv,(fun hd=>by rw [hdr] at hd;cases hd),rB (fun _ hk=>.inr ⟨hdr,ts,os,hk⟩) h⟩
def va (r:Nat):List Nat->Prop
 | []=>True
 | x :: l=>r≠x/\va r l
def xC:List Nat->Prop
 | []=>True
 | x :: l=>va x l/\xC l
@[go_sem] theorem VJ (r:Nat):va r []=True:=rfl
@[go_sem] theorem Un (r x:Nat) (l:List Nat):va r (x :: l)=(r≠x/\va r l):=rfl
@[go_sem] theorem W6:xC []=True:=rfl
@[go_sem] theorem UK (x:Nat) (l:List Nat):xC (x :: l)=(va x l/\xC l):=rfl
theorem CE {r:Nat}:∀ {l:List Nat},va r l->r ∉ l
 | [],_,h=>by cases h
 | x :: l,⟨h1,h2⟩,h=>by
  rcases List.mem_cons.1 h with rfl | h
  ·exact h1 rfl
  ·exact CE h2 h
theorem Cv:∀ {l:List Nat},xC l->l.Nodup
 | [],_=>List.nodup_nil
 | x :: l,⟨h1,h2⟩=>List.nodup_cons.2 ⟨CE h1,Cv h2⟩
def MR (d:D):Prop:=cU d=false
def NO (e:Env):List Nat->Prop
 | []=>True
 | r :: rs=>MR (e.o r)/\NO e rs
def HQ (e:Env):List Nat->Prop
 | []=>True
 | r :: rs=>Tj (e.o r)/\HQ e rs
@[go_sem ↓] theorem aa2:NO e []=True:=rfl
@[go_sem ↓] theorem Zs (r:Nat) (rs:List Nat):NO e (r :: rs)=(MR (e.o r)/\NO e rs):=rfl
@[go_sem ↓] theorem aai:HQ e []=True:=rfl
@[go_sem ↓] theorem Ym (r:Nat) (rs:List Nat):HQ e (r :: rs)=(Tj (e.o r)/\HQ e rs):=rfl
@[congr] theorem V8 {l l':List Nat} (h:True->l=l'):HQ e l=HQ e l':=by rw [h trivial]
@[go_sem] theorem aeF (d:D):MR d=(cU d=false):=rfl
theorem JN:∀ {rs:List Nat},NO e rs->∀ r∈rs,e.o r≠.undef
 | [],_,r,h=>by cases h
 | x :: rs,⟨h1,h2⟩,r,h=>by
  rcases List.mem_cons.1 h with rfl | h
  ·intro h0;unfold MR at h1;rw [h0] at h1;exact Bool.noConfusion h1
  ·exact JN h2 r h
theorem Kl:∀ {rs:List Nat},HQ e rs->∀ r∈rs,e.o r=.undef
 | [],_,r,h=>by cases h
 | x :: rs,⟨h1,h2⟩,r,h=>by
  rcases List.mem_cons.1 h with rfl | h
  ·exact h1
  ·exact Kl h2 r h
def Xf:List (Nat × D)->Env->Env
 | [],e=>e
 | x :: l,e=>Xf l (dZ e x.1 x.2)
def L1 (f:Nat->Option Nat):List Nat->List D->List (Nat × D)
 | r :: rs,h :: hs=>(r,h.jq f) :: L1 f rs hs
 | _,_=>[]
theorem EI (f:Nat->Option Nat):∀ (ns:List Nat) (hs:List D) (e:Env),CQ f ns hs e=Xf (L1 f ns hs) e
 | [],_,_=>rfl
 | _ :: _,[],_=>rfl
 | r :: rs,h :: hs,e=>EI f rs hs (dZ e r (h.jq f))
def Rx (e:Env) (d:Nat) (K:Env->Prop) (dl:List Nat) (obs:List (Nat × D)) (dv:D):Prop:=K (dj (Xf obs (vq dl e)) d dv)
@[congr] theorem ZF {dl dl':List Nat} {obs obs':List (Nat × D)} {dv dv':D} (h1:True->dl=dl') (h2:True->obs=obs') (h3:True->dv=dv'):Rx e d K dl obs dv=Rx e d K dl' obs' dv':=by rw [h1 trivial,h2 trivial,h3 trivial]
@[go_sem] theorem abY (r:Nat) (dl:List Nat) (obs:List (Nat × D)) (dv:D):Rx e d K (r :: dl) obs dv=Rx (jV r e) d K dl obs dv:=rfl
@[go_sem] theorem acY (x:Nat × D) (obs:List (Nat × D)) (dv:D):Rx e d K [] (x :: obs) dv=Rx (dZ e x.1 x.2) d K [] obs dv:=rfl
@[go_sem] theorem acz (dv:D):Rx e d K [] [] dv=K (dj e d dv):=rfl
def ZQ (e:Env) (d:Nat) (K:Env->Prop) (gs:List Nat) (hs':List D) (dv:D) (ns:List Nat):Prop:=Rx e d K (j5 gs hs') (L1 (KA ns) ns hs') (dv.jq (KA ns))
@[congr] theorem YJ {gs:List Nat} {hs':List D} {dv:D} {ns ns':List Nat} (h1:True->ns=ns'):ZQ e d K gs hs' dv ns=ZQ e d K gs hs' dv ns':=by rw [h1 trivial]
@[go_sem] theorem aea (gs:List Nat) (hs':List D) (dv:D) (ns:List Nat):ZQ e d K gs hs' dv ns=Rx e d K (lm (j5 gs hs')) (L1 (KA ns) ns hs') (dv.jq (KA ns)):=rfl
theorem aY.intro {gs:List Nat} {bw:Bool} {k:FuncId} {caps ds hs hs':List D} {dv:D} (h:Spec P k hs ds hs' dv)
  (hk:xC gs/\NO e gs/\HQ e (lm (kk d 0 (hs'.length-gs.length)))/\gs.length<=hs'.length/\hs'.length<=gs.length+16/\(bw=true->tV dv/\∀ h∈hs',AJ h)/\ZQ e d K gs hs' dv (lm (fP d gs hs'))) :
  aY P e d f args K gs bw (.fn k caps) ds hs:=by
 intro h1 h2 h3;obtain ⟨k1,k2,k3,k4,k5,k6,k7⟩:=hk;refine ⟨hs',dv,?_⟩;rw [<- h1] at h2;cases hfv:rd e f
 case fn k0 caps0 =>
  rw [hfv] at h1;simp only [cv,conv,D.fn.injEq] at h1;obtain ⟨rfl,rfl⟩:=h1;refine ⟨Cv k1,JN k2,Kl k3,⟨k4,k5⟩,k6,?_,?_⟩
  ·subst h2;subst h3;rw [List.map_append,List.map_map];exact h
  ·unfold ZQ Rx at k7;unfold eI;rw [EI];exact k7
 all_goals rw [hfv] at h1;simp only [cv,conv] at h1
 all_goals exfalso
 all_goals first
  | cases h1
  | (rename_i r;cases hi:idx gs r<;>rw [hi] at h1<;>cases bw<;>simp only [uj,cz,pU,Bool.not_false,Bool.not_true,if_true,Bool.false_eq_true,if_false] at h1<;>first | cases h1 | (split at h1<;>first | cases h1 | (unfold sx at h1;split at h1<;>cases h1)))
  | (rename_i r _;cases hi:idx gs r<;>rw [hi] at h1<;>cases bw<;>simp only [uj,cz,pU,Bool.not_false,Bool.not_true,if_true,Bool.false_eq_true,if_false] at h1<;>first | cases h1 | (split at h1<;>first | cases h1 | (unfold mJ at h1;split at h1<;>cases h1)))
  | (rename_i r _ _ _;cases hi:idx gs r<;>rw [hi] at h1<;>cases bw<;>simp only [uj,cz,pU,Bool.not_false,Bool.not_true,if_true,Bool.false_eq_true,if_false] at h1<;>first | cases h1 | (split at h1<;>first | cases h1 | (unfold v7 at h1;split at h1<;>(try split at h1)<;>cases h1) | (unfold rG at h1;split at h1<;>(try split at h1)<;>cases h1) | (unfold wY at h1;split at h1<;>(try split at h1)<;>cases h1)))
  | (rename_i r _ _ _ _;cases hi:idx gs r<;>rw [hi] at h1<;>cases bw<;>simp only [uj,cz,pU,Bool.not_false,Bool.not_true,if_true,Bool.false_eq_true,if_false] at h1<;>first | cases h1 | (split at h1<;>first | cases h1 | (unfold v7 at h1;split at h1<;>(try split at h1)<;>cases h1) | (unfold rG at h1;split at h1<;>(try split at h1)<;>cases h1) | (unfold wY at h1;split at h1<;>(try split at h1)<;>cases h1)))
end
@[go_sem] theorem ab2 (f:Nat->Option Nat) (hs:List D):L1 f [] hs=[]:=rfl
@[go_sem] theorem Yd (f:Nat->Option Nat) (r:Nat) (rs:List Nat) (h:D) (hs:List D):L1 f (r :: rs) (h :: hs)=(r,h.jq f) :: L1 f rs hs:=rfl
@[go_sem] theorem aed (ns:List Nat) (i:Nat):KA ns i=ns[i]?:=rfl
@[go_sem] theorem Yx (hs:List D):j5 [] hs=[]:=rfl
@[go_sem] theorem Wn (g:Nat) (gs:List Nat) (h:D) (hs:List D):j5 (g :: gs) (h :: hs)=if cU h then g :: j5 gs hs else j5 gs hs:=rfl
@[go_sem] theorem Zb (d:Nat) (gs:List Nat) (hs':List D):fP d gs hs'=gs++kk d 0 (hs'.length-gs.length):=rfl
@[go_sem] theorem Vt (d k:Nat):kk d k 0=[]:=rfl
@[go_sem] theorem VD (d k m:Nat):kk d k (m+1)=nm d k :: kk d (k+1) m:=rfl
@[go_sem] theorem ac1 (r:Nat):idx [] r=none:=rfl
@[go_sem] theorem abz (g:Nat) (gs:List Nat) (r:Nat):idx (g :: gs) r=if g=r then some 0 else (idx gs r).map (· + 1):=rfl
@[go_sem ↓] theorem YQ (e:Env):dN [] e=e:=rfl
@[go_sem ↓] theorem Xq (r:Nat) (rs:List Nat) (e:Env):dN (r :: rs) e=dN rs (x9 r e):=rfl
@[go_sem ↓] theorem aey (e:Env) (r j:Nat):(x9 r e).t j=fz e r (e.t j):=Eq.trans rfl rfl
@[go_sem ↓] theorem aeV (e:Env) (r j:Nat):(x9 r e).o j=if j=r then .undef else fz e r (e.o j):=Eq.trans rfl rfl
attribute [go_sem] or_false false_or
@[go_sem] theorem Yi (z:Nat) (rows:List (List D)):sx (.own z rows)=.sl z rows:=rfl
@[go_sem] theorem U8 (f:D->D) (o:Nat) (cs:List D):mJ f o (.box cs)=.bF ((cs.drop o).map f):=rfl
attribute [go_sem] tV rF m0 AJ E3
attribute [go_sem] lS List.isEmpty_nil List.isEmpty_cons
@[go_sem] theorem Rz:cU (.undef)=true:=rfl
@[go_sem] theorem UN (z:Nat) (rows:List (List D)):cU (.own z rows)=false:=rfl
@[go_sem] theorem TO (cs:List D):cU (.box cs)=false:=rfl
@[congr] theorem Y5 {rh:Nat->Option Nat} {lv:Nat->Bool} {d d' u u':D} (h:True->d=d') (h2:True->u=u'):jg rh lv d u=jg rh lv d' u':=by rw [h trivial,h2 trivial]
@[go_sem] theorem abK (rh:Nat->Option Nat) (lv:Nat->Bool) (a b:Bool):jg rh lv (.bool a) (.bool b)=(a=b):=by simp [jg]
@[go_sem] theorem ady (rh:Nat->Option Nat) (lv:Nat->Bool) (k k':IntKind) (a b:Int):jg rh lv (.int k a) (.int k' b)=(k=k'/\a=b):=by simp [jg]
@[go_sem] theorem adi (rh:Nat->Option Nat) (lv:Nat->Bool) (a b:ByteArray):jg rh lv (.str a) (.str b)=(a=b):=by simp [jg]
@[go_sem] theorem aeB (rh:Nat->Option Nat) (lv:Nat->Bool) (z z':Nat) (a b:List (List D)):jg rh lv (.sl z a) (.sl z' b)=(z=z'/\a=b):=by simp [jg]
@[go_sem] theorem YB (rh:Nat->Option Nat) (lv:Nat->Bool) (a b:List D):jg rh lv (.bF a) (.bF b)=(a=b):=by simp [jg]
@[go_sem] theorem acQ (rh:Nat->Option Nat) (lv:Nat->Bool)  : jg rh lv (.nil) (.nil)=True:=by simp [jg]
@[go_sem] theorem XZ (rh:Nat->Option Nat) (lv:Nat->Bool) (z:Nat) (a:List (List D)):jg rh lv (.nil) (.sl z a)=(a=[]):=by simp [jg]
@[go_sem] theorem VS (rh:Nat->Option Nat) (lv:Nat->Bool) (s:Nat):jg rh lv (.nil) (.ref s)=(rh s=none/\lv s=true):=by simp [jg]
@[go_sem] theorem aci (rh:Nat->Option Nat) (lv:Nat->Bool) (r s:Nat):jg rh lv (.ref r) (.ref s)=(rh s=some r/\lv s=true):=by simp [jg]
@[go_sem] theorem abF (rh:Nat->Option Nat) (lv:Nat->Bool) (r s a b:Nat):jg rh lv (.addr r a) (.addr s b)=(rh s=some r/\lv s=true/\a=b):=by simp [jg]
@[go_sem] theorem adt (rh:Nat->Option Nat) (lv:Nat->Bool) (a b:List D):jg rh lv (.agg a) (.agg b)=kX rh lv a b:=by simp [jg]
@[go_sem] theorem ach (rh:Nat->Option Nat) (lv:Nat->Bool) (a b:List D):jg rh lv (.bI a) (.bI b)=kX rh lv a b:=by simp [jg]
@[go_sem] theorem aem (rh:Nat->Option Nat) (lv:Nat->Bool) (f f':FuncId) (a b:List D):jg rh lv (.fn f a) (.fn f' b)=(f=f'/\kX rh lv a b):=by simp [jg]
@[go_sem] theorem abS (rh:Nat->Option Nat) (lv:Nat->Bool)  : kX rh lv [] []=True:=by simp [kX]
@[go_sem] theorem Zh (rh:Nat->Option Nat) (lv:Nat->Bool) (a b:D) (x y:List D):kX rh lv (a :: x) (b :: y)=(jg rh lv a b/\kX rh lv x y):=by simp [kX]
@[congr] theorem WJ {rh:Nat->Option Nat} {lv:Nat->Bool} {d d' u u':List D} (h:True->d=d') (h2:True->u=u'):kX rh lv d u=kX rh lv d' u':=by rw [h trivial,h2 trivial]
@[congr] theorem Zx {rh:Nat->Option Nat} {lv:Nat->Bool} {d d' u u':D} (h:True->d=d') (h2:True->u=u'):Ot rh lv d u=Ot rh lv d' u':=by rw [h trivial,h2 trivial]
@[go_sem] theorem acs (rh:Nat->Option Nat) (lv:Nat->Bool) (a b:List D):Ot rh lv (.box a) (.box b)=kX rh lv a b:=by simp [Ot]
@[go_sem] theorem acy (rh:Nat->Option Nat) (lv:Nat->Bool) (z z':Nat) (a b:List (List D)):Ot rh lv (.own z a) (.own z' b)=(z=z'/\a=b):=by simp [Ot]
@[go_sem ↓] theorem aaE (b:Bool) (x:D):tO (.bool b) x=[]:=by cases x<;>simp [tO]
@[go_sem ↓] theorem adZ (k:IntKind) (m:Int) (x:D):tO (.int k m) x=[]:=by cases x<;>simp [tO]
@[go_sem ↓] theorem adv (s:ByteArray) (x:D):tO (.str s) x=[]:=by cases x<;>simp [tO]
@[go_sem ↓] theorem ac5  (x:D):tO (.nil) x=[]:=by cases x<;>simp [tO]
@[go_sem ↓] theorem aer (z:Nat) (rows:List (List D)) (x:D):tO (.sl z rows) x=[]:=by cases x<;>simp [tO]
@[go_sem ↓] theorem ZE (cs:List D) (x:D):tO (.bF cs) x=[]:=by cases x<;>simp [tO]
@[go_sem ↓] theorem acI (z:Nat) (rows:List (List D)) (x:D):tO (.own z rows) x=[]:=by cases x<;>simp [tO]
@[go_sem] theorem adg (s r:Nat):tO (.ref s) (.ref r)=[(s,some r)]:=by simp [tO]
@[go_sem] theorem V7 (s:Nat):tO (.ref s) .nil=[(s,none)]:=by simp [tO]
@[go_sem] theorem abN (s r a b:Nat):tO (.addr s a) (.addr r b)=[(s,some r)]:=by simp [tO]
@[go_sem] theorem acq (a b:List D):tO (.agg a) (.agg b)=xw a b:=by simp [tO]
@[go_sem] theorem ab9 (a b:List D):tO (.bI a) (.bI b)=xw a b:=by simp [tO]
@[go_sem] theorem ab' (a b:List D):tO (.box a) (.box b)=xw a b:=by simp [tO]
@[go_sem] theorem afs (f f':FuncId) (a b:List D):tO (.fn f a) (.fn f' b)=xw a b:=by simp [tO]
@[go_sem] theorem aaD (x:List D):xw [] x=[]:=by simp [xw]
@[go_sem] theorem Zp (a b:D) (x y:List D):xw (a :: x) (b :: y)=tO a b++xw x y:=by simp [xw]
section
variable {P:Program} {e:Env}
@[go_sem ↓] theorem Z5:LR e []=[]:=rfl
@[go_sem ↓] theorem Za (i:Nat) (d:D) (r:EL):LR e ((i,d) :: r)=tO (dm d) (e.t i)++LR e r:=rfl
@[go_sem ↓] theorem abL (l:List (Nat × Option Nat)):OM e l []=[]:=rfl
@[go_sem ↓] theorem Xw (l:List (Nat × Option Nat)) (i:Nat) (d:D) (r:EL):OM e l ((i,d) :: r)=tO (dm d) (Yc e (iE l i))++OM e l r:=rfl
@[congr] theorem XS {o o':Option Nat} (h:True->o=o'):Yc e o=Yc e o':=by rw [h trivial]
@[go_sem] theorem ZN (r:Nat):Yc e (some r)=e.o r:=rfl
@[go_sem] theorem aaY:Yc e none=.undef:=rfl
@[go_sem] theorem adz (s:Nat):iE [] s=some s:=rfl
@[go_sem] theorem ZT (i:Nat) (o:Option Nat) (r:List (Nat × Option Nat)) (s:Nat):iE ((i,o) :: r) s=if s=i then o else iE r s:=rfl
@[go_sem] theorem adu (s:Nat):Kz [] s=false:=rfl
@[go_sem] theorem abJ (i:Nat) (d:D) (r:EL) (s:Nat):Kz ((i,d) :: r) s=if s=i then true else Kz r s:=rfl
@[congr] theorem YX {m:Nat} {ts os:EL} {l l':List (Nat × Option Nat)} (h:True->l=l'):WM m e ts os l=WM m e ts os l':=by rw [h trivial]
@[congr] theorem Ze {m:Nat} {ts os:EL} {l l':List (Nat × Option Nat)} (h:True->l=l'):YW m e ts os l=YW m e ts os l':=by rw [h trivial]
@[go_sem ↓] theorem aeP (ts os:EL):LM e ts os=WM 16 e ts os (lm (LR e ts)):=rfl
@[go_sem ↓] theorem afd (m:Nat) (ts os:EL):QM m e ts os=WM m e ts os (lm (LR e ts)):=rfl
@[go_sem] theorem aeu (m:Nat) (ts os:EL) (l:List (Nat × Option Nat)):WM m e ts os l=YW m e ts os (lm (l++OM e l os)):=rfl
@[go_sem] theorem aef (m:Nat) (ts os:EL) (l:List (Nat × Option Nat)):YW m e ts os l=(N7 e (iE l) os ts/\Ed m e (iE l) os os):=rfl
@[go_sem ↓] theorem aa3 (rh:Nat->Option Nat) (os:EL):N7 e rh os []=True:=rfl
@[go_sem ↓] theorem XA (rh:Nat->Option Nat) (os:EL) (i:Nat) (d:D) (r:EL):N7 e rh os ((i,d) :: r)=(jg rh (Kz os) (dm (e.t i)) d/\N7 e rh os r):=rfl
@[congr] theorem Wq {rh:Nat->Option Nat} {os:EL} {d:D} {o o':Option Nat} (h:True->o=o'):G4 e rh os d o=G4 e rh os d o':=by rw [h trivial]
@[go_sem] theorem XX (rh:Nat->Option Nat) (os:EL) (d:D) (r:Nat):G4 e rh os d (some r)=Ot rh (Kz os) (dm (e.o r)) d:=rfl
@[go_sem] theorem Yb (rh:Nat->Option Nat) (os:EL) (d:D):G4 e rh os d none=BG d:=rfl
@[go_sem] theorem W9 (z:Nat) (rows:List (List D)):BG (.own z rows)=(rows=[]):=rfl
@[go_sem] theorem RN (o:Option Nat) (rh:Nat->Option Nat):gZ o rh []=True:=rfl
@[go_sem] theorem RM (rh:Nat->Option Nat) (x:Nat × D) (r:EL):gZ none rh (x :: r)=gZ none rh r:=by simp [gZ]
@[go_sem] theorem Ry (a:Nat) (rh:Nat->Option Nat) (i:Nat) (d:D) (r:EL):gZ (some a) rh ((i,d) :: r)=(rh i≠some a/\gZ (some a) rh r):=rfl
@[congr] theorem Ri {o o':Option Nat} {rh:Nat->Option Nat} {os:EL} (h:True->o=o'):gZ o rh os=gZ o' rh os:=by rw [h trivial]
@[go_sem] theorem VY (m s r:Nat):Fp m s (some r)=(m<=s\/r=s):=by simp [Fp]
@[go_sem] theorem Wg (m s:Nat):Fp m s none=(m<=s):=by simp [Fp]
@[go_sem ↓] theorem aaU (m:Nat) (rh:Nat->Option Nat) (os:EL):Ed m e rh os []=True:=rfl
@[go_sem ↓] theorem Yt (m:Nat) (rh:Nat->Option Nat) (os:EL) (i:Nat) (d:D) (r:EL):Ed m e rh os ((i,d) :: r)=(Kz r i=false/\G4 e rh os d (rh i)/\gZ (rh i) rh r/\Fp m i (rh i)/\Ed m e rh os r):=rfl
attribute [go_sem] Nat.zero_le Option.some.injEq Bool.true_eq_false Bool.false_eq_true ne_eq not_false_eq_true
def rtK (m:Nat) (hs':List D) (d:D) (e:Env) (v:D):Prop:=QM m (vh v e) (lm [(0,d)]) (qI 0 hs')
def Mi (m:Nat) (e:Env) (ts os:EL):Prop:=QM m e ts os
@[go_sem ↓] theorem aeG (m:Nat) (hs':List D) (d v:D):rtK m hs' d e v=Mi (nk m) (vh v e) [(0,d)] (lm (qI 0 hs')):=rfl
@[congr] theorem UU {m m':Nat} {ts os os':EL} (h1:True->m=m') (h:True->os=os'):Mi m e ts os=Mi m' e ts os':=by rw [h1 trivial,h trivial]
@[go_sem] theorem ZU (m:Nat) (ts os:EL):Mi m e ts os=QM m e ts os:=rfl
@[go_sem ↓] theorem ab8 (rs:List ResultVar) (m:Nat) (hs':List D) (d:D):P3 P rs m hs' d e=(vn P e rs/\Norm (dm (HF P e rs)) (rtK m hs' d e)):=rfl
@[go_sem ↓] theorem aab (v:D) (j:Nat):(vh v e).t j=if j=0 then v else .undef:=Eq.trans rfl rfl
@[go_sem ↓] theorem ZM (v:D) (j:Nat):(vh v e).o j=e.o j:=Eq.trans rfl rfl
@[go_sem ↓] theorem VV:vn P e []=True:=rfl
@[go_sem ↓] theorem TK (r:ResultVar) (rs:List ResultVar):vn P e (r :: rs)=(Cb P e r/\vn P e rs):=rfl
@[go_sem ↓] theorem XM (t:Nat):Cb P e (.tmp t)=True:=rfl
@[go_sem ↓] theorem Xh (a:Nat) (t:TypeId):Cb P e (.cell a t)=yG e (bT P t) (e.t a):=by simp only [Cb,yG];rfl
@[go_sem ↓] theorem Z1 (t:Nat):Dg P e (.tmp t)=e.t t:=rfl
@[go_sem ↓] theorem Y4 (a:Nat) (t:TypeId):Dg P e (.cell a t)=Uc e (bT P t) (e.t a):=by simp only [Dg,Uc];rfl
@[go_sem ↓] theorem aar (r:ResultVar):HF P e [r]=Dg P e r:=rfl
@[go_sem ↓] theorem ZW (a b:ResultVar) (l:List ResultVar):HF P e (a :: b :: l)=.bI ((a :: b :: l).map (Dg P e)):=rfl
end
@[go_sem] theorem abR (op:BinOp) (k k':IntKind) (a b:Int):yl op (.int k a) (.int k' b)=HH op k a b:=rfl
@[go_sem] theorem abh (op:BinOp) (a b:ByteArray):yl op (.str a) (.str b)=Xu op a b:=rfl
@[go_sem] theorem ZC (op:BinOp) (a b:Bool):yl op (.bool a) (.bool b)=JJ op (a==b):=rfl
@[go_sem] theorem abM (op:BinOp) (a b:List D):yl op (.agg a) (.agg b)=JJ op (bV a b):=rfl
@[go_sem] theorem ac6 (op:BinOp):yl op .eH .eH=JJ op true:=rfl
@[go_sem] theorem adB (b:Bool):JJ .eql b=.bool b:=rfl
@[go_sem] theorem acD (b:Bool):JJ .neq b=.bool (!b):=rfl
@[go_sem] theorem TB (a b:D) (x y:List D):bV (a :: x) (b :: y)=(sv a b&&bV x y):=rfl
@[go_sem] theorem UL (y:List D):bV [] y=true:=by simp [bV]
@[go_sem] theorem Xk (k k':IntKind) (a b:Int):sv (.int k a) (.int k' b)=(a==b):=rfl
@[go_sem] theorem TZ (a b:Bool):sv (.bool a) (.bool b)=(a==b):=rfl
section
variable {P:Program}
@[go_sem] theorem YE (c:Bool) (op:BinOp) (t:TypeId) (k k':IntKind) (a b:Int):td P c op t (.int k a) (.int k' b)=kY op k k' b:=rfl
@[go_sem] theorem YG (c:Bool) (op:BinOp) (t:TypeId) (a b:ByteArray):td P c op t (.str a) (.str b)=Fi op a b:=rfl
@[go_sem] theorem Vv (c:Bool) (op:BinOp) (t:TypeId) (a b:Bool):td P c op t (.bool a) (.bool b)=(isEq op/\bO P t=.bool):=rfl
@[go_sem] theorem YU (c:Bool) (op:BinOp) (t:TypeId) (a b:List D):td P c op t (.agg a) (.agg b)=(isEq op/\gN P t=true/\qh (cu P 9 t) a b):=rfl
@[go_sem] theorem aae (c:Bool) (op:BinOp) (t:TypeId):td P c op t .eH .eH=(isEq op/\isIface P t=true/\c=true):=rfl
end
@[go_sem] theorem abQ:isEq .eql=True:=by simp [isEq]
@[go_sem] theorem Z2:isEq .neq=True:=by simp [isEq]
attribute [go_sem] isConst
@[go_sem] theorem Qv (ls:List pP) (a b:List D):qh (some ls) a b=dF ls a b:=rfl
@[go_sem] theorem Ta:dF [] [] []=True:=rfl
@[go_sem] theorem RI (l:pP) (ls:List pP) (a b:D) (x y:List D):dF (l :: ls) (a :: x) (b :: y)=(BJ l a b/\dF ls x y):=rfl
@[go_sem] theorem Vj (k k':IntKind) (a b:Int):BJ .int (.int k a) (.int k' b)=(k=k'):=rfl
@[go_sem] theorem T0 (a b:Bool):BJ .bool (.bool a) (.bool b)=True:=rfl
@[go_sem] theorem acA (k:IntKind) (a b:Int):HH .add k a b=.int k (k.wrap (a+b)):=rfl
@[go_sem] theorem acB (k:IntKind) (a b:Int):HH .sub k a b=.int k (k.wrap (a-b)):=rfl
@[go_sem] theorem acE (k:IntKind) (a b:Int):HH .mul k a b=.int k (k.wrap (a*b)):=rfl
@[go_sem] theorem acZ (k:IntKind) (a b:Int):HH .quo k a b=.int k (k.wrap (a.tdiv b)):=rfl
@[go_sem] theorem acM (k:IntKind) (a b:Int):HH .rem k a b=.int k (a.tmod b):=rfl
@[go_sem] theorem adb (k:IntKind) (a b:Int):HH .eql k a b=.bool (a==b):=rfl
@[go_sem] theorem adJ (k:IntKind) (a b:Int):HH .neq k a b=.bool (a != b):=rfl
@[go_sem] theorem adm (k:IntKind) (a b:Int):HH .lss k a b=.bool (decide (a < b)):=rfl
@[go_sem] theorem acR (k:IntKind) (a b:Int):HH .leq k a b=.bool (decide (a<=b)):=rfl
@[go_sem] theorem acr (k:IntKind) (a b:Int):HH .gtr k a b=.bool (decide (b < a)):=rfl
@[go_sem] theorem adf (k:IntKind) (a b:Int):HH .geq k a b=.bool (decide (b<=a)):=rfl
def zN (k:IntKind) (a b:Int):Int:=k.wrap (a*2 ^ (min b.toNat k.bits))
def ym (k:IntKind) (a b:Int):Int:=a.fdiv (2 ^ (min b.toNat k.bits))
def Ww (k:IntKind) (a b:Int):Int:=k.wrap (BitVec.ofInt k.bits a &&& BitVec.ofInt k.bits b).toNat
def YL (k:IntKind) (a b:Int):Int:=k.wrap (BitVec.ofInt k.bits a ||| BitVec.ofInt k.bits b).toNat
def R7 (k:IntKind) (n:Int):Int:=k.wrap (BitVec.ofInt k.bits (if k.signed then -1 else k.max) ^^^ BitVec.ofInt k.bits n).toNat
@[go_sem] theorem adU (k:IntKind) (a b:Int):HH .shl k a b=.int k (zN k a b):=rfl
@[go_sem] theorem adE (k:IntKind) (a b:Int):HH .shr k a b=.int k (ym k a b):=rfl
@[go_sem] theorem adh (k:IntKind) (a b:Int):HH .and k a b=.int k (Ww k a b):=rfl
@[go_sem] theorem ad5 (k:IntKind) (a b:Int):HH .or k a b=.int k (YL k a b):=rfl
@[go_sem] theorem X9 (k k':IntKind) (b:Int):kY .add k k' b=(k=k'):=rfl
@[go_sem] theorem XG (k k':IntKind) (b:Int):kY .sub k k' b=(k=k'):=rfl
@[go_sem] theorem Yk (k k':IntKind) (b:Int):kY .mul k k' b=(k=k'):=rfl
@[go_sem] theorem YC (k k':IntKind) (b:Int):kY .quo k k' b=(k=k'/\b≠0):=rfl
@[go_sem] theorem XO (k k':IntKind) (b:Int):kY .rem k k' b=(k=k'/\b≠0):=rfl
@[go_sem] theorem Zt (k k':IntKind) (b:Int):kY .eql k k' b=(k=k'):=rfl
@[go_sem] theorem Yw (k k':IntKind) (b:Int):kY .neq k k' b=(k=k'):=rfl
@[go_sem] theorem Yn (k k':IntKind) (b:Int):kY .lss k k' b=(k=k'):=rfl
@[go_sem] theorem Y9 (k k':IntKind) (b:Int):kY .leq k k' b=(k=k'):=rfl
@[go_sem] theorem Zo (k k':IntKind) (b:Int):kY .gtr k k' b=(k=k'):=rfl
@[go_sem] theorem ZL (k k':IntKind) (b:Int):kY .geq k k' b=(k=k'):=rfl
@[go_sem] theorem Y7 (k k':IntKind) (b:Int):kY .and k k' b=(k=k'):=rfl
@[go_sem] theorem aa0 (k k':IntKind) (b:Int):kY .or k k' b=(k=k'):=rfl
@[go_sem] theorem Zw (k k':IntKind) (b:Int):kY .shl k k' b=(0<=b):=rfl
@[go_sem] theorem Y3 (k k':IntKind) (b:Int):kY .shr k k' b=(0<=b):=rfl
@[go_sem] theorem adp (a b:ByteArray):Xu .add a b=.str (a++b):=rfl
@[go_sem] theorem acj (a b:ByteArray):Xu .eql a b=.bool (a.toList==b.toList):=rfl
@[go_sem] theorem ab4 (a b:ByteArray):Xu .neq a b=.bool (!(a.toList==b.toList)):=rfl
@[go_sem] theorem X8 (a b:ByteArray):Fi .add a b=(a.size+b.size<=2 ^ 62):=rfl
@[go_sem] theorem Yr (a b:ByteArray):Fi .eql a b=True:=rfl
@[go_sem] theorem YI (a b:ByteArray):Fi .neq a b=True:=rfl
@[go_sem] theorem XJ (b:Bool):za .not (.bool b)=.bool (!b):=rfl
@[go_sem] theorem Zv (k:IntKind) (n:Int):za .neg (.int k n)=.int k (k.wrap (0-n)):=rfl
@[go_sem] theorem X7 (k:IntKind) (n:Int):za .xor (.int k n)=.int k (R7 k n):=rfl
@[go_sem] theorem Xe (b:Bool):pJ .not (.bool b)=True:=by simp [pJ]
@[go_sem] theorem V1 (k:IntKind) (n:Int):pJ .neg (.int k n)=True:=by simp [pJ]
@[go_sem] theorem VP (k:IntKind) (n:Int):pJ .xor (.int k n)=True:=by simp [pJ]
@[go_sem] theorem YT (s:Ty) (k k':IntKind) (n:Int):EK s (.int k) (.int k' n)=.int k (k.wrap n):=rfl
@[go_sem] theorem W8 (k1 k2 k:IntKind) (n:Int):CM (.int k1) (.int k2) (.int k n)=True:=by simp [CM]
@[go_sem] theorem V9 (r o:Nat):QN (.addr r o)=True:=rfl
def AU:List FT->Nat->Nat
 | [],_=>0
 | x :: _,0=>x.off
 | _ :: r,n+1=>AU r n
theorem AD:∀ (fs:List FT) (f:Nat),((fs[f]?).map (·.off)).getD 0=AU fs f
 | [],f=>by simp [AU]
 | x :: r,0=>by simp [AU]
 | x :: r,n+1=>by simp [AU,AD r n]
@[go_sem] theorem Zk (x:FT) (r:List FT):AU (x :: r) 0=x.off:=rfl
@[go_sem] theorem Zy (x:FT) (r:List FT) (n:Nat):AU (x :: r) (n+1)=AU r n:=rfl
@[go_sem] theorem aap (fs:List FT) (f r o:Nat):SK fs f (.addr r o)=.addr r (o+AU fs f):=by simp only [SK,AD]
@[go_sem] theorem Zz (fs:List FT) (f r z i k:Nat):SK fs f (.bQ r z i k)=.bQ r z i (k+AU fs f):=by simp only [SK,AD]
@[go_sem] theorem Zc (fs:List FT) (f:Nat) (cs:List D):SK fs f (.bF cs)=.bF (cs.drop (AU fs f)):=by simp only [SK,AD]
@[go_sem] theorem Yy (fs:List FT) (f r o:Nat):O6 fs f (.addr r o)=(f < fs.length):=rfl
@[go_sem] theorem WZ (fs:List FT) (f r z i k:Nat):O6 fs f (.bQ r z i k)=(f < fs.length):=rfl
@[go_sem] theorem Wh (fs:List FT) (f:Nat) (cs:List D):O6 fs f (.bF cs)=(f < fs.length):=rfl
@[go_sem] theorem aeD (t:Ty) (z:Nat) (rows:List (List D)) (k:IntKind) (i:Int):YD t (.sl z rows) (.int k i)=.bF (rows.getD i.toNat []):=rfl
@[go_sem] theorem adO (z b:Nat) (a:Bool) (r:Nat) (k:IntKind) (i:Int):YD (.slice z b a) (.ref r) (.int k i)=.bQ r z i.toNat 0:=rfl
@[go_sem] theorem ZR (n z:Nat) (a:Bool) (r o:Nat) (k:IntKind) (i:Int):YD (.arr n z a) (.addr r o) (.int k i)=.addr r (o+i.toNat*z):=rfl
@[go_sem] theorem abd (e:Env) (z' b:Nat) (a:Bool) (z:Nat) (rows:List (List D)) (k:IntKind) (i:Int):Fc e (.slice z' b a) (.sl z rows) (.int k i)=(z=z'/\0<=i/\i < rows.length):=rfl
@[go_sem] theorem YK (e:Env) (z b:Nat) (a:Bool) (r:Nat) (k:IntKind) (i:Int):Fc e (.slice z b a) (.ref r) (.int k i)=(0<=i/\Ma z i (e.o r)):=rfl
@[go_sem] theorem YP (z:Nat) (i:Int) (z':Nat) (rows:List (List D)):Ma z i (.own z' rows)=(z'=z/\i < rows.length):=rfl
@[go_sem] theorem V0 (e:Env) (n z:Nat) (a:Bool) (r o:Nat) (k:IntKind) (i:Int):Fc e (.arr n z a) (.addr r o) (.int k i)=(0<=i/\i < n):=rfl
@[go_sem] theorem acn (n z:Nat) (ea:Bool) (cs:List D) (k:IntKind) (i:Int):ixV (.arr n z ea) (.agg cs) (.int k i)=part ea (i.toNat*z) z cs:=rfl
@[go_sem] theorem abb (n z:Nat) (ea:Bool) (cs:List D) (k:IntKind) (i:Int):I6 (.arr n z ea) (.agg cs) (.int k i)=(0<=i/\i < n/\cs.length=n*z):=rfl
@[go_sem] theorem acg (t:Ty) (s:ByteArray) (k:IntKind) (i:Int):ixV t (.str s) (.int k i)=.int .u8 ((s[i.toNat]?).map (·.toNat)|>.getD 0):=rfl
@[go_sem] theorem abk (s:ByteArray) (k:IntKind) (i:Int):I6 .str (.str s) (.int k i)=(0<=i/\i < s.size):=by simp [I6]
@[go_sem] theorem aa1 (o n:Nat) (cs:List D):part true o n cs=.agg ((cs.drop o).take n):=rfl
@[go_sem] theorem aaA (o n:Nat) (cs:List D):part false o n cs=(cs.drop o).headD .undef:=rfl
def abl (f:Option FT) (cs:List D):D:=match f with
 | some x=>part x.agg x.off x.sz cs
 | none=>.undef
def Q7 (f:Option FT) (cs:List D):Prop:=match f with
 | some x=>x.off+x.sz<=cs.length
 | none=>False
@[go_sem] theorem aau (fs:List FT) (f:Nat) (cs:List D):Nz fs f (.agg cs)=abl fs[f]? cs:=rfl
@[go_sem] theorem XH (fs:List FT) (f:Nat) (cs:List D):ET fs f (.agg cs)=Q7 fs[f]? cs:=rfl
@[go_sem] theorem XI (o s:Nat) (a:Bool) (cs:List D):abl (some ⟨o,s,a⟩) cs=part a o s cs:=rfl
@[go_sem] theorem UZ (o s:Nat) (a:Bool) (cs:List D):Q7 (some ⟨o,s,a⟩) cs=(o+s<=cs.length):=rfl
section
variable {e:Env}
@[go_sem] theorem aco (z b:Nat) (a:Bool) (y:Nat) (r:List (List D)):Lq e (.slice z b a) (.sl y r)=.int .i64 r.length:=rfl
@[go_sem] theorem aaV (z b:Nat) (a:Bool):Lq e (.slice z b a) .nil=.int .i64 0:=rfl
@[go_sem] theorem abi (z b:Nat) (a:Bool) (r:Nat):Lq e (.slice z b a) (.ref r)=AL (e.o r):=rfl
@[go_sem] theorem Ul (z:Nat) (r:List (List D)):AL (.own z r)=.int .i64 r.length:=rfl
@[go_sem] theorem Z3 (s:ByteArray):Lq e .str (.str s)=.int .i64 s.size:=rfl
@[go_sem] theorem Yu (z b:Nat) (a:Bool) (y:Nat) (r:List (List D)):vw e (.slice z b a) (.sl y r)=True:=rfl
@[go_sem] theorem WQ (z b:Nat) (a:Bool):vw e (.slice z b a) .nil=True:=rfl
@[go_sem] theorem Vl (z b:Nat) (a:Bool) (r:Nat):vw e (.slice z b a) (.ref r)=wm (e.o r):=rfl
@[go_sem] theorem SX (z:Nat) (r:List (List D)):wm (.own z r)=True:=rfl
@[go_sem] theorem Wu (s:ByteArray):vw e .str (.str s)=True:=rfl
def slX (z z' N:Nat) (lo hi:Int):Prop:=z=z'/\0<=lo/\lo<=hi/\hi<=N
@[go_sem] theorem aec (z z' N:Nat) (lo hi:Int):slX z z' N lo hi=(z=z'/\0<=lo/\lo<=hi/\hi<=N):=rfl
theorem Vu (z z' N:Nat) (k:IntKind) (lo:Int) (k':IntKind) (hi:Int):SG (if z=z' then some N else none) (.int k lo) (.int k' hi) (fun _ _ _=>True)=slX z z' N lo hi:=by
 unfold slX
 by_cases h:z=z'
 ·simp [h,SG]
 ·simp [h,SG]
@[go_sem] theorem ad7 (z' b:Nat) (a:Bool) (z:Nat) (rows:List (List D)) (k k':IntKind) (lo hi:Int):UF e (.slice z' b a) (.sl z rows) (.int k lo) (some (.int k' hi))=.sl z ((rows.take hi.toNat).drop lo.toNat):=rfl
@[go_sem] theorem aaR (z' b:Nat) (a:Bool) (z:Nat) (rows:List (List D)) (k k':IntKind) (lo hi:Int):xj e (.slice z' b a) (.sl z rows) (.int k lo) (some (.int k' hi))=slX z z' rows.length lo hi:=Vu _ _ _ _ _ _ _
@[go_sem] theorem acS (s:ByteArray) (k k':IntKind) (lo hi:Int):UF e .str (.str s) (.int k lo) (some (.int k' hi))=.str (s.extract lo.toNat hi.toNat):=rfl
@[go_sem] theorem Ya (s:ByteArray) (k k':IntKind) (lo hi:Int):xj e .str (.str s) (.int k lo) (some (.int k' hi))=(0<=lo/\lo<=hi/\hi<=s.size):=by simp [xj,U4,ID,SG]
@[go_sem] theorem abx (s:ByteArray) (k:IntKind) (lo:Int):UF e .str (.str s) (.int k lo) none=.str (s.extract lo.toNat s.size):=by simp [UF,ID,JH,aal,Pv]
@[go_sem] theorem WR (s:ByteArray) (k:IntKind) (lo:Int):xj e .str (.str s) (.int k lo) none=(0<=lo/\lo<=s.size):=by simp [xj,U4,ID,JH,SG]
end
@[go_sem] theorem XW (cs:List D):jQ cs []=cs:=rfl
@[go_sem] theorem Wf (cs:List D) (o s:Nat) (v:D) (r:List (Nat × Nat × D)):jQ cs ((o,s,v) :: r)=jQ (kI cs o v.cells) r:=rfl
@[go_sem] theorem WN (n:Nat):lN n []=True:=rfl
@[go_sem] theorem UX (n o s:Nat) (v:D) (r:List (Nat × Nat × D)):lN n ((o,s,v) :: r)=(v.cells.length=s/\o+s<=n/\(∀ c∈v.cells,eC c)/\lN n r):=rfl
@[go_sem] theorem TY (z:Nat) (cs:List D):rowsOf z 0 cs=[]:=rfl
@[go_sem] theorem Ud (z n:Nat) (cs:List D):rowsOf z (n+1) cs=cs.take z :: rowsOf z n (cs.drop z):=rfl
@[go_sem] theorem ada (cs:List D) (o:Nat) (xs:List D):kI cs o xs=cs.take o++xs++cs.drop (o+xs.length):=rfl
@[go_sem] theorem U7 (a d:D) (l:List D):(a :: l).getD 0 d=a:=rfl
@[go_sem] theorem Xm (a d:D) (l:List D) (n:Nat):(a :: l).getD (n+1) d=l.getD n d:=rfl
@[go_sem] theorem Vc:pz []=True:=rfl
@[go_sem] theorem TM (k:IntKind) (n:Int) (r:List D):pz (.int k n :: r)=pz r:=rfl
@[go_sem] theorem X3 (f:D->D->D) (a b:D):IE f [a,b]=f a b:=rfl
@[go_sem] theorem Y0 (k k':IntKind) (x y:Int):IA (.int k x) (.int k' y)=.int k (max x y):=by
 show D.int k (if y > x then y else x)=_
 congr 1;rw [Int.max_def];split<;>split<;>omega
@[go_sem] theorem Zn (k k':IntKind) (x y:Int):Ie (.int k x) (.int k' y)=.int k (min x y):=by
 show D.int k (if y < x then y else x)=_
 congr 1;rw [Int.min_def];split<;>split<;>omega
@[go_sem] theorem WT (b:Bool):D.cells (.bool b)=[.bool b]:=rfl
@[go_sem] theorem XT (k:IntKind) (m:Int):D.cells (.int k m)=[.int k m]:=rfl
@[go_sem] theorem X6 (s:ByteArray):D.cells (.str s)=[.str s]:=rfl
@[go_sem] theorem Xx:D.cells (.nil)=[.nil]:=rfl
@[go_sem] theorem Z4 (z:Nat) (rows:List (List D)):D.cells (.sl z rows)=[.sl z rows]:=rfl
@[go_sem] theorem Zu (r:Nat):D.cells (.ref r)=[.ref r]:=rfl
@[go_sem] theorem aac (f:FuncId) (cs:List D):D.cells (.fn f cs)=[.fn f cs]:=rfl
@[go_sem] theorem Yh (cs:List D):D.cells (.agg cs)=cs:=rfl
@[go_sem] theorem TQ (b:Bool):eC (.bool b)=True:=rfl
@[go_sem] theorem W2 (k:IntKind) (m:Int):eC (.int k m)=True:=rfl
@[go_sem] theorem WY (s:ByteArray):eC (.str s)=True:=rfl
@[go_sem] theorem Vq:eC (.nil)=True:=rfl
@[go_sem] theorem XY (z:Nat) (rows:List (List D)):eC (.sl z rows)=True:=rfl
@[go_sem] theorem Wj (r:Nat):eC (.ref r)=True:=rfl
@[go_sem] theorem YM (f:FuncId) (cs:List D):eC (.fn f cs)=True:=rfl
@[go_sem] theorem T4 (b:Bool):dw (.bool b)=True:=by simp [dw,eC,D.names]
@[go_sem] theorem W7 (k:IntKind) (m:Int):dw (.int k m)=True:=by simp [dw,eC,D.names]
@[go_sem] theorem Wk (s:ByteArray):dw (.str s)=True:=by simp [dw,eC,D.names]
@[go_sem] theorem Zj (z:Nat) (rows:List (List D)):dw (.sl z rows)=True:=by simp [dw,eC,D.names]
end Go.Abs
