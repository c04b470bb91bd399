/- The predicate on data, worked out by simp: data, calls, weakening, results; printed by gen_eval2.py. No theorem of a claim. -/
import Derived.Test.YtacacccbcndjoaaGreatAbcEval
set_option linter.unusedSimpArgs false
set_option linter.unusedVariables false
namespace Go.Abs
attribute [go_sem] Bool.not_true Bool.not_false Bool.true_and Bool.and_true Bool.false_and Bool.and_false Bool.true_or Bool.or_true Bool.false_or Bool.or_false Bool.not_not true_and and_true if_true if_false ite_true ite_false not_true_eq_false not_false_eq_true
attribute [go_sem] List.map_cons List.map_nil List.length_cons List.length_nil List.append_nil List.nil_append List.cons_append List.take_succ_cons List.take_zero List.drop_succ_cons List.drop_zero List.headD_cons List.take_nil List.drop_nil Nat.add_zero Nat.zero_add List.replicate_succ List.replicate_zero List.flatten_cons List.flatten_nil List.set_cons_zero List.set_cons_succ List.getElem?_cons_zero List.getElem?_cons_succ List.getElem?_nil Option.map_some Option.map_none Option.getD_some Option.getD_none
attribute [go_sem] List.contains_nil List.contains_cons Bool.or_self beq_self_eq_true
attribute [go_sem] decide_true decide_false Int.natCast_nonneg Int.toNat_natCast forall_eq implies_true true_implies false_implies reduceCtorEq and_self
@[go_sem ↓] theorem afC (e:Env) (t:Nat):rd e (.tmp t)=e.t t:=Eq.trans rfl rfl
@[go_sem ↓] theorem ach (e:Env) (v:Value):rd e (.const v)=qW v:=Eq.trans rfl rfl
@[go_sem ↓] theorem acS (e:Env) (f:FuncId):rd e (.func f)=.fn f []:=Eq.trans rfl rfl
@[go_sem ↓] theorem afE (e:Env) (i:Nat) (d:D) (j:Nat):(cy e i d).t j=if j=i then d else e.t j:=Eq.trans rfl rfl
@[go_sem ↓] theorem afv (e:Env) (i:Nat) (d:D) (j:Nat):(cy e i d).o j=e.o j:=Eq.trans rfl rfl
@[go_sem ↓] theorem aeR (e:Env) (i:Nat) (d:D) (j:Nat):(dV e i d).o j=if j=i then d else e.o j:=Eq.trans rfl rfl
@[go_sem ↓] theorem af4 (e:Env) (i:Nat) (d:D) (j:Nat):(dV e i d).t j=e.t j:=Eq.trans rfl rfl
@[go_sem ↓] theorem adv (e:Env) (r j:Nat):(jT r e).t j=(e.t j).kill r:=Eq.trans rfl rfl
@[go_sem ↓] theorem acF (e:Env) (r j:Nat):(jT r e).o j=if j=r then .undef else (e.o j).kill r:=Eq.trans rfl rfl
@[go_sem ↓] theorem ahn (ts os:EL) (j:Nat):(td ts os).t j=look ts j:=Eq.trans rfl rfl
@[go_sem ↓] theorem ahv (ts os:EL) (j:Nat):(td ts os).o j=look os j:=Eq.trans rfl rfl
@[go_sem ↓] theorem look_nil (j:Nat):look [] j=.undef:=Eq.trans rfl rfl
@[go_sem ↓] theorem YJ (i:Nat) (d:D) (r:EL) (j:Nat):look ((i,d) :: r) j=if j=i then d else look r j:=Eq.trans rfl rfl
@[go_sem ↓] theorem aet (k:Nat):PD k []=[]:=rfl
@[go_sem] theorem aaR (k:Nat) (d:D) (ds:List D):PD k (d :: ds)=(k,d) :: PD (k+1) ds:=rfl
@[go_sem ↓] theorem ads (k:Nat):qO k []=[]:=rfl
@[congr] theorem ait (k:Nat) {l l':List D} (h:True->l=l'):qO k l=qO k l':=by rw [h trivial]
def osI (b:Bool) (k:Nat) (d:D) (ds:List D):EL:=if b then qO (k+1) ds else (k,d) :: qO (k+1) ds
@[go_sem] theorem aat (k:Nat) (d:D) (ds:List D):qO k (d :: ds)=osI (cU d) k d ds:=rfl
@[go_sem] theorem ahB (k:Nat) (d:D) (ds:List D):osI true k d ds=qO (k+1) ds:=rfl
@[go_sem] theorem ahZ (k:Nat) (d:D) (ds:List D):osI false k d ds=(k,d) :: qO (k+1) ds:=rfl
@[go_sem] theorem Vj (b:Bool):qW (.bool b)=.bool b:=rfl
@[go_sem] theorem Xk (k:IntKind) (n:Int):qW (.int k n)=.int k n:=rfl
@[go_sem] theorem Xq (s:ByteArray):qW (.string s)=.str s:=rfl
@[go_sem] theorem Wa:qW (.slice none 0 0)=.nil:=rfl
@[go_sem] theorem SL:qW .nilIface=.eM:=rfl
@[go_sem] theorem Xb (b:Bool):D.names (.bool b)=[]:=by rw [D.names.eq_def]
@[go_sem] theorem X2 (k:IntKind) (m:Int):D.names (.int k m)=[]:=by rw [D.names.eq_def]
@[go_sem] theorem Y8 (s:ByteArray):D.names (.str s)=[]:=by rw [D.names.eq_def]
@[go_sem] theorem Zq:D.names (.emp)=[]:=by rw [D.names.eq_def]
@[go_sem] theorem aaQ (z:Nat) (rows:List (List D)):D.names (.sl z rows)=[]:=by rw [D.names.eq_def]
@[go_sem] theorem U6 (cs:List D):D.names (.bI cs)=[]:=by rw [D.names.eq_def]
@[go_sem] theorem YO (z:Nat) (rows:List (List D)):D.names (.own z rows)=[]:=by rw [D.names.eq_def]
@[go_sem] theorem X0 (r:Nat):D.names (.ref r)=[r]:=by rw [D.names]
@[go_sem] theorem Wn (r o:Nat):D.names (.addr r o)=[r]:=by rw [D.names]
@[go_sem] theorem UM (r z i k:Nat):D.names (.bQ r z i k)=[r]:=by rw [D.names]
@[go_sem] theorem ab4 (f:FuncId) (cs:List D):D.names (.fn f cs)=D.cj cs:=by rw [D.names]
@[go_sem] theorem Yg (cs:List D):D.names (.agg cs)=D.cj cs:=by rw [D.names]
@[go_sem] theorem YN (cs:List D):D.names (.box cs)=D.cj cs:=by rw [D.names]
@[go_sem] theorem XK:D.cj []=[]:=by rw [D.cj]
@[go_sem] theorem Vg (d:D) (l:List D):D.cj (d :: l)=d.names++D.cj l:=by rw [D.cj]
@[go_sem] theorem WV (q:Nat)  : D.kill q (.undef)=.undef:=by rw [D.kill.eq_def]
@[go_sem] theorem ZP (q:Nat) (b:Bool):D.kill q (.bool b)=.bool b:=by rw [D.kill.eq_def]
@[go_sem] theorem ab7 (q:Nat) (k:IntKind) (m:Int):D.kill q (.int k m)=.int k m:=by rw [D.kill.eq_def]
@[go_sem] theorem ab5 (q:Nat) (s:ByteArray):D.kill q (.str s)=.str s:=by rw [D.kill.eq_def]
@[go_sem] theorem acf (q:Nat)  : D.kill q (.nil)=.nil:=by rw [D.kill.eq_def]
@[go_sem] theorem aeG (q:Nat) (z:Nat) (rows:List (List D)):D.kill q (.sl z rows)=.sl z rows:=by rw [D.kill.eq_def]
@[go_sem] theorem abD (q:Nat) (z:Nat) (rows:List (List D)):D.kill q (.own z rows)=.own z rows:=by rw [D.kill.eq_def]
@[go_sem] theorem abT (q:Nat) (r:Nat):D.kill q (.ref r)=if r=q then .undef else .ref r:=by rw [D.kill]
@[go_sem] theorem YW (q:Nat) (r o:Nat):D.kill q (.addr r o)=if r=q then .undef else .addr r o:=by rw [D.kill]
@[go_sem] theorem adu (q:Nat) (f:FuncId) (cs:List D):D.kill q (.fn f cs)=.fn f  (D.iK q cs):=by rw [D.kill]
@[go_sem] theorem abf (q:Nat) (cs:List D):D.kill q (.box cs)=.box  (D.iK q cs):=by rw [D.kill]
@[go_sem] theorem ZD (q:Nat):D.iK q []=[]:=by rw [D.iK]
@[go_sem] theorem VD (q:Nat) (d:D) (l:List D):D.iK q (d :: l)=d.kill q :: D.iK q l:=by rw [D.iK]
def fz (e:Env) (q:Nat) (d:D):D:=jv (e.o q) q d
def RX (e:Env) (q:Nat) (l:List D):List D:=rO (e.o q) q l
@[congr] theorem abC {e:Env} {q:Nat} {d d':D} (h:True->d=d'):fz e q d=fz e q d':=by rw [h trivial]
@[congr] theorem X5 {e:Env} {q:Nat} {d d':List D} (h:True->d=d'):RX e q d=RX e q d':=by rw [h trivial]
def YM (b:Bool) (x d:D):D:=if b then x else d
@[congr] theorem ZC {b b':Bool} {x d:D} (h:True->b=b'):YM b x d=YM b' x d:=by rw [h trivial]
@[go_sem ↓] theorem ace (x d:D):YM true x d=x:=rfl
@[go_sem ↓] theorem YD (x d:D):YM false x d=d:=rfl
@[go_sem] theorem abw (e:Env) (q:Nat)  : fz e q (.undef)=.undef:=by rw [fz,jv.eq_def]
@[go_sem] theorem adA (e:Env) (q:Nat) (b:Bool):fz e q (.bool b)=.bool b:=by rw [fz,jv.eq_def]
@[go_sem] theorem afQ (e:Env) (q:Nat) (k:IntKind) (m:Int):fz e q (.int k m)=.int k m:=by rw [fz,jv.eq_def]
@[go_sem] theorem afB (e:Env) (q:Nat) (s:ByteArray):fz e q (.str s)=.str s:=by rw [fz,jv.eq_def]
@[go_sem] theorem afs (e:Env) (q:Nat)  : fz e q (.nil)=.nil:=by rw [fz,jv.eq_def]
@[go_sem] theorem ahS (e:Env) (q:Nat) (z:Nat) (rows:List (List D)):fz e q (.sl z rows)=.sl z rows:=by rw [fz,jv.eq_def]
@[go_sem] theorem afw (e:Env) (q:Nat) (z:Nat) (rows:List (List D)):fz e q (.own z rows)=.own z rows:=by rw [fz,jv.eq_def]
@[go_sem] theorem agj (e:Env) (q:Nat) (r:Nat):fz e q (.ref r)=YM (bm (r==q)) (sR (e.o q)) (.ref r):=by rw [fz,jv];rfl
@[go_sem] theorem ac9 (e:Env) (q:Nat) (r o:Nat):fz e q (.addr r o)=YM (bm (r==q)) (mG lI o (e.o q)) (.addr r o):=by rw [fz,jv];rfl
@[go_sem] theorem ahE (e:Env) (q:Nat) (f:FuncId) (cs:List D):fz e q (.fn f cs)=.fn f  (RX e q cs):=by rw [fz,jv];rfl
@[go_sem] theorem ae5 (e:Env) (q:Nat) (cs:List D):fz e q (.agg cs)=.agg  (RX e q cs):=by rw [fz,jv];rfl
@[go_sem] theorem afe (e:Env) (q:Nat) (cs:List D):fz e q (.box cs)=.box  (RX e q cs):=by rw [fz,jv];rfl
@[go_sem] theorem aeg (e:Env) (q:Nat):RX e q []=[]:=by rw [RX,rO]
@[go_sem] theorem acB (e:Env) (q:Nat) (d:D) (l:List D):RX e q (d :: l)=fz e q d :: RX e q l:=by rw [RX,rO];rfl
@[go_sem] theorem ZT (q:Nat->Option Nat)  : D.jx q (.undef)=.undef:=by rw [D.jx.eq_def]
@[go_sem] theorem aa0 (q:Nat->Option Nat) (b:Bool):D.jx q (.bool b)=.bool b:=by rw [D.jx.eq_def]
@[go_sem] theorem aew (q:Nat->Option Nat) (k:IntKind) (m:Int):D.jx q (.int k m)=.int k m:=by rw [D.jx.eq_def]
@[go_sem] theorem aeH (q:Nat->Option Nat) (s:ByteArray):D.jx q (.str s)=.str s:=by rw [D.jx.eq_def]
@[go_sem] theorem afZ (q:Nat->Option Nat) (z:Nat) (rows:List (List D)):D.jx q (.sl z rows)=.sl z rows:=by rw [D.jx.eq_def]
@[go_sem] theorem acU (q:Nat->Option Nat) (z:Nat) (rows:List (List D)):D.jx q (.own z rows)=.own z rows:=by rw [D.jx.eq_def]
@[go_sem] theorem aeE (q:Nat->Option Nat) (r:Nat):D.jx q (.ref r)=uv (q r) (.ref) .undef:=by rw [D.jx];cases q r<;>rfl
@[go_sem] theorem adB (q:Nat->Option Nat) (cs:List D):D.jx q (.agg cs)=.agg  (D.qc q cs):=by rw [D.jx]
@[go_sem] theorem ac1 (q:Nat->Option Nat) (cs:List D):D.jx q (.bD cs)=.bD  (D.qc q cs):=by rw [D.jx]
@[go_sem] theorem aeD (q:Nat->Option Nat) (cs:List D):D.jx q (.box cs)=.box  (D.qc q cs):=by rw [D.jx]
@[go_sem] theorem acw (q:Nat->Option Nat):D.qc q []=[]:=by rw [D.qc]
@[go_sem] theorem YP (q:Nat->Option Nat) (d:D) (l:List D):D.qc q (d :: l)=d.jx q :: D.qc q l:=by rw [D.qc]
@[go_sem ↓] theorem aac (i:Nat) (f:Nat->D) (d:D):uv (some i) f d=f i:=rfl
@[go_sem ↓] theorem ZK (f:Nat->D) (d:D):uv none f d=d:=rfl
@[congr] theorem Xr {i i':Option Nat} {f:Nat->D} {d:D} (h:True->i=i'):uv i f d=uv i' f d:=by rw [h trivial]
@[congr] theorem TK {b b':Bool} {d:D} (h:True->b=b'):cz b d=cz b' d:=by rw [h trivial]
@[go_sem ↓] theorem Ua (d:D):cz true d=.undef:=rfl
@[go_sem ↓] theorem To (d:D):cz false d=d:=rfl
@[go_sem] theorem afA (e:Env) (x:List Nat) (j:Nat) (k:IntKind) (m:Int):bo e x (j+1) (.int k m)=.int k m:=rfl
@[go_sem] theorem ah2 (e:Env) (x:List Nat) (j:Nat) (z:Nat) (rows:List (List D)):bo e x (j+1) (.sl z rows)=.sl z rows:=rfl
@[go_sem] theorem afk (e:Env) (x:List Nat) (j:Nat) (r:Nat):bo e x (j+1) (.ref r)=cz (bm (x.contains r)) (sR (e.o r)):=rfl
@[go_sem] theorem aee (e:Env) (x:List Nat) (j:Nat) (r o:Nat):bo e x (j+1) (.addr r o)=cz (bm (x.contains r)) (mG (bo e x j) o (e.o r)):=rfl
@[go_sem] theorem agX (e:Env) (x:List Nat) (j:Nat) (f:FuncId) (cs:List D):bo e x (j+1) (.fn f cs)=.fn f  (cs.map (bo e x j)):=rfl
@[go_sem] theorem aeF (e:Env) (x:List Nat) (d:D):bo e x 0 d=lI d:=rfl
def cv (e:Env) (bw:Bool) (gs:List Nat) (k:Nat) (d:D):D:=conv bw gs e.o k d
@[congr] theorem abB {e:Env} {bw:Bool} {gs:List Nat} {k:Nat} {d d':D} (h:True->d=d'):cv e bw gs k d=cv e bw gs k d':=by rw [h trivial]
@[go_sem] theorem ad7 (e:Env) (bw:Bool) (x:List Nat) (j:Nat) (b:Bool):cv e bw x (j+1) (.bool b)=.bool b:=rfl
@[go_sem] theorem age (e:Env) (bw:Bool) (x:List Nat) (j:Nat) (k:IntKind) (m:Int):cv e bw x (j+1) (.int k m)=.int k m:=rfl
@[go_sem] theorem aeU (e:Env) (bw:Bool) (x:List Nat) (j:Nat) (s:ByteArray):cv e bw x (j+1) (.str s)=.str s:=rfl
@[go_sem] theorem agp (e:Env) (bw:Bool) (x:List Nat) (j:Nat)  : cv e bw x (j+1) (.nil)=.nil:=rfl
@[go_sem] theorem ag2 (e:Env) (bw:Bool) (x:List Nat) (j:Nat) (z:Nat) (rows:List (List D)):cv e bw x (j+1) (.sl z rows)=.sl z rows:=rfl
@[go_sem] theorem abZ (e:Env) (bw:Bool) (x:List Nat) (j:Nat) (cs:List D):cv e bw x (j+1) (.bI cs)=.bI cs:=rfl
@[go_sem] theorem af7 (e:Env) (bw:Bool) (x:List Nat) (j:Nat) (r:Nat):cv e bw x (j+1) (.ref r)=uv (idx x r) (.ref) (cz (bm (!bw)) (bo e x j (dm (.ref r)))):=rfl
@[go_sem] theorem adK (e:Env) (bw:Bool) (x:List Nat) (j:Nat) (r o:Nat):cv e bw x (j+1) (.addr r o)=uv (idx x r) (fun x=>.addr x o) (cz (bm (!bw)) (bo e x j (dm (.addr r o)))):=rfl
@[go_sem] theorem ah1 (e:Env) (bw:Bool) (x:List Nat) (j:Nat) (f:FuncId) (cs:List D):cv e bw x (j+1) (.fn f cs)=.fn f  (cs.map (cv e bw x j)):=rfl
@[go_sem] theorem af' (e:Env) (bw:Bool) (x:List Nat) (j:Nat) (cs:List D):cv e bw x (j+1) (.agg cs)=.agg  (cs.map (cv e bw x j)):=rfl
def XW (e:Env) (bw:Bool) (gs:List Nat) (k:Nat) (d:D):D:=AS bw gs e.o k d
@[congr] theorem Y9 {e:Env} {bw:Bool} {gs:List Nat} {k:Nat} {d d':D} (h:True->d=d'):XW e bw gs k d=XW e bw gs k d':=by rw [h trivial]
@[go_sem] theorem adb (e:Env) (bw:Bool) (x:List Nat) (j:Nat) (cs:List D):XW e bw x j (.box cs)=.box (cs.map (cv e bw x j)):=rfl
@[go_sem] theorem ade (e:Env) (bw:Bool) (x:List Nat) (j z:Nat) (rows:List (List D)):XW e bw x j (.own z rows)=.own z rows:=rfl
mutual
/-- data that names no object -/
def Pl:D->Prop
 | .fn _ cs=>vR cs
 | .agg cs=>vR cs
 | .bD cs=>vR cs
 | .box _ | .own _ _ | .ref _ | .addr _ _ | .bQ _ _ _ _ | .fj _ _ _ _ | .eI _ _ _ _ _=>False
 | _=>True
def vR:List D->Prop
 | []=>True
 | d :: l=>Pl d/\vR l
end
@[go_sem] theorem aex (b:Bool):Pl (.bool b)=True:=by rw [Pl.eq_def]
@[go_sem] theorem afR (k:IntKind) (m:Int):Pl (.int k m)=True:=by rw [Pl.eq_def]
@[go_sem] theorem afx (s:ByteArray):Pl (.str s)=True:=by rw [Pl.eq_def]
@[go_sem] theorem aeS:Pl (.nil)=True:=by rw [Pl.eq_def]
@[go_sem] theorem ab9:Pl (.eM)=True:=by rw [Pl.eq_def]
@[go_sem] theorem aho (z:Nat) (rows:List (List D)):Pl (.sl z rows)=True:=by rw [Pl.eq_def]
@[go_sem] theorem aak (cs:List D):Pl (.bI cs)=True:=by rw [Pl.eq_def]
@[go_sem] theorem ahY (f:FuncId) (cs:List D):Pl (.fn f cs)=vR cs:=by rw [Pl]
@[go_sem] theorem aeP (cs:List D):Pl (.agg cs)=vR cs:=by rw [Pl]
@[go_sem] theorem agb (cs:List D):Pl (.bD cs)=vR cs:=by rw [Pl]
@[go_sem] theorem adl:vR []=True:=by rw [vR]
@[go_sem] theorem acu (d:D) (l:List D):vR (d :: l)=(Pl d/\vR l):=by rw [vR]
theorem GZ:∀ {l:List D},vR l->∀ d∈l,Pl d
 | [],_,d,h=>by cases h
 | x :: l,h,d,hd=>by
  rw [vR] at h;rcases List.mem_cons.1 hd with rfl | hd
  ·exact h.1
  ·exact GZ h.2 d hd
mutual
theorem Pl.names:∀ (d:D),Pl d->d.names=[]
 | .fn _ cs,h=>by rw [Pl] at h;rw [D.names];exact vR.names cs h
 | .agg cs,h=>by rw [Pl] at h;rw [D.names];exact vR.names cs h
 | .bD cs,h=>by rw [Pl] at h;rw [D.names];exact vR.names cs h
 | .box _,h | .own _ _,h | .ref _,h | .addr _ _,h | .bQ _ _ _ _,h | .fj _ _ _ _,h | .eI _ _ _ _ _,h=>by rw [Pl] at h;exact h.elim
 | .undef,_ | .bool _,_ | .int _ _,_ | .str _,_ | .nil,_ | .emp,_ | .iP,_ | .eM,_ | .fu,_ | .j4,_ | .sl _ _,_ | .bI _,_=>by rw [D.names.eq_def]
theorem vR.names:∀ (l:List D),vR l->D.cj l=[]
 | [],_=>by rw [D.cj]
 | d :: l,h=>by rw [vR] at h;rw [D.cj,Pl.names d h.1,vR.names l h.2];rfl
end
mutual
theorem Pl.jx (f:Nat->Option Nat):∀ (d:D),Pl d->d.jx f=d
 | .fn _ cs,h=>by rw [Pl] at h;rw [D.jx,vR.jx f cs h]
 | .agg cs,h=>by rw [Pl] at h;rw [D.jx,vR.jx f cs h]
 | .bD cs,h=>by rw [Pl] at h;rw [D.jx,vR.jx f cs h]
 | .box _,h | .own _ _,h | .ref _,h | .addr _ _,h | .bQ _ _ _ _,h | .fj _ _ _ _,h | .eI _ _ _ _ _,h=>by rw [Pl] at h;exact h.elim
 | .undef,_ | .bool _,_ | .int _ _,_ | .str _,_ | .nil,_ | .emp,_ | .iP,_ | .eM,_ | .fu,_ | .j4,_ | .sl _ _,_ | .bI _,_=>by rw [D.jx.eq_def]
theorem vR.jx (f:Nat->Option Nat):∀ (l:List D),vR l->D.qc f l=l
 | [],_=>by rw [D.qc]
 | d :: l,h=>by rw [vR] at h;rw [D.qc,Pl.jx f d h.1,vR.jx f l h.2]
end
theorem Pl.conv (bw:Bool) (gs:List Nat) (o:Nat->D):∀ (k:Nat) (d:D),Pl d->conv bw gs o k d=d
 | 0,d,h=>by simp [Go.Abs.conv,lI,Pl.names d h]
 | k+1,d,h=>by
  have mp:∀ cs:List D,vR cs->cs.map (Go.Abs.conv bw gs o k)=cs:=by
   intro cs hc
   conv=>rhs;rw [<- List.map_id cs]
   exact List.map_congr_left fun d hd=>Pl.conv bw gs o k d (GZ hc d hd)
  cases d<;>try rfl
  all_goals rw [Pl] at h
  all_goals first | exact h.elim | skip
  all_goals simp only [Go.Abs.conv];rw [mp _ h]
section
variable {P:Program} {e:Env} {dr:Bool} {K:Env->Prop} {d:Nat} {f:Operand} {args:List Operand}
theorem aa.pure {S:Prop} {k:FuncId} {caps ds:List D} {dv:D} (h:Spec P k [] ds [] dv) (hk:vR ds/\Pl dv/\K (cy e d dv)):aa P dr e d f args K S (.fn k caps) ds:=by
 rintro ⟨hf,has⟩
 refine .inl ?_;have has:ds=args.map (rd e)++caps:=by rw [has,<- hf];rfl
 obtain ⟨h1,h2,h3⟩:=hk;refine ⟨[],[],false,[],dv,fun _=>⟨rfl,rfl⟩,?_⟩
 show xx P e d args [] false [] dv (KW dr K) (rd e f)
 rw [<- hf];refine ⟨List.nodup_nil,by simp,by simp [j8],⟨Nat.le_refl _,by simp⟩,by simp,?_,?_⟩
 ·rw [<- has]
  have:ds.map (conv false [] e.o 4)=ds:=by
   conv=>rhs;rw [<- List.map_id ds]
   exact List.map_congr_left fun d hd=>Pl.conv false [] e.o 4 d (GZ h1 d hd)
  rw [this];exact h
 ·have:eO e d [] [] dv=cy e d dv:=by
   unfold eO;rw [Pl.jx _ dv h2];rfl
  rw [this];exact .inl h3
def bg (P:Program) (e:Env) (d:Nat) (f:Operand) (args:List Operand) (K:Env->Prop) (gs:List Nat) (bw:Bool) (fv:D) (ds hs:List D):Prop:=
 fv=cv e bw gs 5 (rd e f)->ds=args.map (fun x=>cv e bw gs 4 (rd e x))++yf (cv e bw gs 5 (rd e f))->hs=gs.map (fun r=>XW e bw gs 4 (e.o r))->∃ hs' dv,xx P e d args gs bw hs' dv K (rd e f)
@[congr] theorem T1 {gs:List Nat} {bw:Bool} {fv fv':D} {ds ds' hs hs':List D} (h1:True->fv=fv') (h2:True->ds=ds') (h3:True->hs=hs'):bg P e d f args K gs bw fv ds hs=bg P e d f args K gs bw fv' ds' hs':=by rw [h1 trivial,h2 trivial,h3 trivial]
theorem aa.gen (fz gs:List Nat) (bw:Bool) {S:Prop} {fv:D} {as:List D} (hdr:dr=true->fz=[]/\gs=[]) (h:bg P (fE fz e) d f args K gs bw (cv (fE fz e) bw gs 5 (rd (fE fz e) f)) (args.map (fun x=>cv (fE fz e) bw gs 4 (rd (fE fz e) x))++yf (cv (fE fz e) bw gs 5 (rd (fE fz e) f))) (gs.map (fun r=>XW (fE fz e) bw gs 4 ((fE fz e).o r)))) :
  aa P dr e d f args K S fv as:=by
 intro _;obtain ⟨hs',dv,h⟩:=h rfl rfl rfl;exact .inl ⟨fz,gs,bw,hs',dv,hdr,u6 (fun _=>.inl) h⟩
def vJ (r:Nat):List Nat->Prop
 | []=>True
 | x :: l=>r≠x/\vJ r l
def yu:List Nat->Prop
 | []=>True
 | x :: l=>vJ x l/\yu l
@[go_sem] theorem VV (r:Nat):vJ r []=True:=rfl
@[go_sem] theorem UP (r x:Nat) (l:List Nat):vJ r (x :: l)=(r≠x/\vJ r l):=rfl
@[go_sem] theorem Xl:yu []=True:=rfl
@[go_sem] theorem Ul (x:Nat) (l:List Nat):yu (x :: l)=(vJ x l/\yu l):=rfl
theorem DD {r:Nat}:∀ {l:List Nat},vJ r l->r ∉ l
 | [],_,h=>by cases h
 | x :: l,⟨h1,h2⟩,h=>by
  rcases List.mem_cons.1 h with rfl | h
  ·exact h1 rfl
  ·exact DD h2 h
theorem AW:∀ {l:List Nat},yu l->l.Nodup
 | [],_=>List.nodup_nil
 | x :: l,⟨h1,h2⟩=>List.nodup_cons.2 ⟨DD h1,AW h2⟩
def NH (d:D):Prop:=cU d=false
def O4 (e:Env):List Nat->Prop
 | []=>True
 | r :: rs=>NH (e.o r)/\O4 e rs
def J' (e:Env):List Nat->Prop
 | []=>True
 | r :: rs=>OP (e.o r)/\J' e rs
@[go_sem ↓] theorem aaA:O4 e []=True:=rfl
@[go_sem ↓] theorem Yk (r:Nat) (rs:List Nat):O4 e (r :: rs)=(NH (e.o r)/\O4 e rs):=rfl
@[go_sem ↓] theorem aag:J' e []=True:=rfl
@[go_sem ↓] theorem Z0 (r:Nat) (rs:List Nat):J' e (r :: rs)=(OP (e.o r)/\J' e rs):=rfl
@[congr] theorem Vq {l l':List Nat} (h:True->l=l'):J' e l=J' e l':=by rw [h trivial]
@[go_sem] theorem aeK (d:D):NH d=(cU d=false):=rfl
theorem Iv:∀ {rs:List Nat},O4 e rs->∀ r∈rs,e.o r≠.undef
 | [],_,r,h=>by cases h
 | x :: rs,⟨h1,h2⟩,r,h=>by
  rcases List.mem_cons.1 h with rfl | h
  ·intro h0;unfold NH at h1;rw [h0] at h1;exact Bool.noConfusion h1
  ·exact Iv h2 r h
theorem JF:∀ {rs:List Nat},J' e rs->∀ r∈rs,e.o r=.undef
 | [],_,r,h=>by cases h
 | x :: rs,⟨h1,h2⟩,r,h=>by
  rcases List.mem_cons.1 h with rfl | h
  ·exact h1
  ·exact JF h2 r h
def WY:List (Nat × D)->Env->Env
 | [],e=>e
 | x :: l,e=>WY l (dV e x.1 x.2)
def K6 (f:Nat->Option Nat):List Nat->List D->List (Nat × D)
 | r :: rs,h :: hs=>(r,h.jx f) :: K6 f rs hs
 | _,_=>[]
theorem Fp (f:Nat->Option Nat):∀ (ns:List Nat) (hs:List D) (e:Env),Du f ns hs e=WY (K6 f ns hs) e
 | [],_,_=>rfl
 | _ :: _,[],_=>rfl
 | r :: rs,h :: hs,e=>Fp f rs hs (dV e r (h.jx f))
def RY (e:Env) (d:Nat) (K:Env->Prop) (dl:List Nat) (obs:List (Nat × D)) (dv:D):Prop:=K (cy (WY obs (u9 dl e)) d dv)
@[congr] theorem Z4 {dl dl':List Nat} {obs obs':List (Nat × D)} {dv dv':D} (h1:True->dl=dl') (h2:True->obs=obs') (h3:True->dv=dv'):RY e d K dl obs dv=RY e d K dl' obs' dv':=by rw [h1 trivial,h2 trivial,h3 trivial]
@[go_sem] theorem abV (r:Nat) (dl:List Nat) (obs:List (Nat × D)) (dv:D):RY e d K (r :: dl) obs dv=RY (jT r e) d K dl obs dv:=rfl
@[go_sem] theorem adi (x:Nat × D) (obs:List (Nat × D)) (dv:D):RY e d K [] (x :: obs) dv=RY (dV e x.1 x.2) d K [] obs dv:=rfl
@[go_sem] theorem ac6 (dv:D):RY e d K [] [] dv=K (cy e d dv):=rfl
def PsN (e:Env) (d:Nat) (K:Env->Prop) (gs:List Nat) (hs':List D) (dv:D) (ns:List Nat):Prop:=RY e d K (jM gs hs') (K6 (K0 ns) ns hs') (dv.jx (K0 ns))
@[congr] theorem Yd {gs:List Nat} {hs':List D} {dv:D} {ns ns':List Nat} (h1:True->ns=ns'):PsN e d K gs hs' dv ns=PsN e d K gs hs' dv ns':=by rw [h1 trivial]
@[go_sem] theorem ae' (gs:List Nat) (hs':List D) (dv:D) (ns:List Nat):PsN e d K gs hs' dv ns=RY e d K (lm (jM gs hs')) (K6 (K0 ns) ns hs') (dv.jx (K0 ns)):=rfl
theorem bg.intro {gs:List Nat} {bw:Bool} {k:FuncId} {caps ds hs hs':List D} {dv:D} (h:Spec P k hs ds hs' dv)
  (hk:yu gs/\O4 e gs/\J' e (lm (j8 d 0 (hs'.length-gs.length)))/\gs.length<=hs'.length/\hs'.length<=gs.length+16/\(bw=true->tN dv/\∀ h∈hs',Aw h)/\PsN e d K gs hs' dv (lm (fS d gs hs'))) :
  bg P e d f args K gs bw (.fn k caps) ds hs:=by
 intro h1 h2 h3;obtain ⟨k1,k2,k3,k4,k5,k6,k7⟩:=hk;refine ⟨hs',dv,?_⟩;rw [<- h1] at h2;cases hfv:rd e f
 case fn k0 caps0 =>
  rw [hfv] at h1;simp only [cv,conv,D.fn.injEq] at h1;obtain ⟨rfl,rfl⟩:=h1;refine ⟨AW k1,Iv k2,JF k3,⟨k4,k5⟩,k6,?_,?_⟩
  ·subst h2;subst h3;rw [List.map_append,List.map_map];exact h
  ·unfold PsN RY at k7;unfold eO;rw [Fp];exact k7
 all_goals rw [hfv] at h1;simp only [cv,conv] at h1
 all_goals exfalso
 all_goals first
  | cases h1
  | (rename_i r;cases hi:idx gs r<;>rw [hi] at h1<;>cases bw<;>simp only [uv,cz,pg,Bool.not_false,Bool.not_true,if_true,Bool.false_eq_true,if_false] at h1<;>first | cases h1 | (split at h1<;>first | cases h1 | (unfold sR at h1;split at h1<;>cases h1)))
  | (rename_i r _;cases hi:idx gs r<;>rw [hi] at h1<;>cases bw<;>simp only [uv,cz,pg,Bool.not_false,Bool.not_true,if_true,Bool.false_eq_true,if_false] at h1<;>first | cases h1 | (split at h1<;>first | cases h1 | (unfold mG at h1;split at h1<;>cases h1)))
  | (rename_i r _ _ _;cases hi:idx gs r<;>rw [hi] at h1<;>cases bw<;>simp only [uv,cz,pg,Bool.not_false,Bool.not_true,if_true,Bool.false_eq_true,if_false] at h1<;>first | cases h1 | (split at h1<;>first | cases h1 | (unfold wV at h1;split at h1<;>(try split at h1)<;>cases h1) | (unfold qB at h1;split at h1<;>(try split at h1)<;>cases h1) | (unfold xw at h1;split at h1<;>(try split at h1)<;>cases h1)))
  | (rename_i r _ _ _ _;cases hi:idx gs r<;>rw [hi] at h1<;>cases bw<;>simp only [uv,cz,pg,Bool.not_false,Bool.not_true,if_true,Bool.false_eq_true,if_false] at h1<;>first | cases h1 | (split at h1<;>first | cases h1 | (unfold wV at h1;split at h1<;>(try split at h1)<;>cases h1) | (unfold qB at h1;split at h1<;>(try split at h1)<;>cases h1) | (unfold xw at h1;split at h1<;>(try split at h1)<;>cases h1)))
end
@[go_sem] theorem abY (f:Nat->Option Nat) (hs:List D):K6 f [] hs=[]:=rfl
@[go_sem] theorem YV (f:Nat->Option Nat) (r:Nat) (rs:List Nat) (h:D) (hs:List D):K6 f (r :: rs) (h :: hs)=(r,h.jx f) :: K6 f rs hs:=rfl
@[go_sem] theorem af8 (ns:List Nat) (i:Nat):K0 ns i=ns[i]?:=rfl
@[go_sem] theorem ZB (hs:List D):jM [] hs=[]:=rfl
@[go_sem] theorem Wu (g:Nat) (gs:List Nat) (h:D) (hs:List D):jM (g :: gs) (h :: hs)=if cU h then g :: jM gs hs else jM gs hs:=rfl
@[go_sem] theorem ZS (d:Nat) (gs:List Nat) (hs':List D):fS d gs hs'=gs++j8 d 0 (hs'.length-gs.length):=rfl
@[go_sem] theorem Vr (d k:Nat):j8 d k 0=[]:=rfl
@[go_sem] theorem W0 (d k m:Nat):j8 d k (m+1)=nm d k :: j8 d (k+1) m:=rfl
@[go_sem] theorem aes (r:Nat):idx [] r=none:=rfl
@[go_sem] theorem ab1 (g:Nat) (gs:List Nat) (r:Nat):idx (g :: gs) r=if g=r then some 0 else (idx gs r).map (· + 1):=rfl
@[go_sem ↓] theorem Yc (e:Env):fE [] e=e:=rfl
@[go_sem ↓] theorem WU (r:Nat) (rs:List Nat) (e:Env):fE (r :: rs) e=fE rs (yP r e):=rfl
@[go_sem ↓] theorem afq (e:Env) (r j:Nat):(yP r e).t j=fz e r (e.t j):=Eq.trans rfl rfl
@[go_sem ↓] theorem ags (e:Env) (r j:Nat):(yP r e).o j=if j=r then .undef else fz e r (e.o j):=Eq.trans rfl rfl
attribute [go_sem] or_false false_or
@[go_sem] theorem Zm (z:Nat) (rows:List (List D)):sR (.own z rows)=.sl z rows:=rfl
@[go_sem] theorem V6 (f:D->D) (o:Nat) (cs:List D):mG f o (.box cs)=.bI ((cs.drop o).map f):=rfl
attribute [go_sem] tN qI nq Aw yV
attribute [go_sem] lI List.isEmpty_nil List.isEmpty_cons
@[go_sem] theorem RZ:cU (.undef)=true:=rfl
@[go_sem] theorem T8 (z:Nat) (rows:List (List D)):cU (.own z rows)=false:=rfl
@[go_sem] theorem U3 (cs:List D):cU (.box cs)=false:=rfl
@[congr] theorem YQ {rh:Nat->Option Nat} {lv:Nat->Bool} {d d' u u':D} (h:True->d=d') (h2:True->u=u'):jh rh lv d u=jh rh lv d' u':=by rw [h trivial,h2 trivial]
@[go_sem] theorem abb (rh:Nat->Option Nat) (lv:Nat->Bool) (a b:Bool):jh rh lv (.bool a) (.bool b)=(a=b):=by simp [jh]
@[go_sem] theorem adh (rh:Nat->Option Nat) (lv:Nat->Bool) (k k':IntKind) (a b:Int):jh rh lv (.int k a) (.int k' b)=(k=k'/\a=b):=by simp [jh]
@[go_sem] theorem ad2 (rh:Nat->Option Nat) (lv:Nat->Bool) (a b:ByteArray):jh rh lv (.str a) (.str b)=(a=b):=by simp [jh]
@[go_sem] theorem afn (rh:Nat->Option Nat) (lv:Nat->Bool) (z z':Nat) (a b:List (List D)):jh rh lv (.sl z a) (.sl z' b)=(z=z'/\a=b):=by simp [jh]
@[go_sem] theorem Z1 (rh:Nat->Option Nat) (lv:Nat->Bool) (a b:List D):jh rh lv (.bI a) (.bI b)=(a=b):=by simp [jh]
@[go_sem] theorem ad4 (rh:Nat->Option Nat) (lv:Nat->Bool)  : jh rh lv (.nil) (.nil)=True:=by simp [jh]
@[go_sem] theorem YZ (rh:Nat->Option Nat) (lv:Nat->Bool) (z:Nat) (a:List (List D)):jh rh lv (.nil) (.sl z a)=(a=[]):=by simp [jh]
@[go_sem] theorem Vo (rh:Nat->Option Nat) (lv:Nat->Bool) (s:Nat):jh rh lv (.nil) (.ref s)=(rh s=none/\lv s=true):=by simp [jh]
@[go_sem] theorem ad5 (rh:Nat->Option Nat) (lv:Nat->Bool) (r s:Nat):jh rh lv (.ref r) (.ref s)=(rh s=some r/\lv s=true):=by simp [jh]
@[go_sem] theorem aa' (rh:Nat->Option Nat) (lv:Nat->Bool) (r s a b:Nat):jh rh lv (.addr r a) (.addr s b)=(rh s=some r/\lv s=true/\a=b):=by simp [jh]
@[go_sem] theorem ac5 (rh:Nat->Option Nat) (lv:Nat->Bool) (a b:List D):jh rh lv (.agg a) (.agg b)=lG rh lv a b:=by simp [jh]
@[go_sem] theorem adz (rh:Nat->Option Nat) (lv:Nat->Bool) (a b:List D):jh rh lv (.bD a) (.bD b)=lG rh lv a b:=by simp [jh]
@[go_sem] theorem ae7 (rh:Nat->Option Nat) (lv:Nat->Bool) (f f':FuncId) (a b:List D):jh rh lv (.fn f a) (.fn f' b)=(f=f'/\lG rh lv a b):=by simp [jh]
@[go_sem] theorem abg (rh:Nat->Option Nat) (lv:Nat->Bool)  : lG rh lv [] []=True:=by simp [lG]
@[go_sem] theorem Zp (rh:Nat->Option Nat) (lv:Nat->Bool) (a b:D) (x y:List D):lG rh lv (a :: x) (b :: y)=(jh rh lv a b/\lG rh lv x y):=by simp [lG]
@[congr] theorem V8 {rh:Nat->Option Nat} {lv:Nat->Bool} {d d' u u':List D} (h:True->d=d') (h2:True->u=u'):lG rh lv d u=lG rh lv d' u':=by rw [h trivial,h2 trivial]
@[congr] theorem Zz {rh:Nat->Option Nat} {lv:Nat->Bool} {d d' u u':D} (h:True->d=d') (h2:True->u=u'):Pf rh lv d u=Pf rh lv d' u':=by rw [h trivial,h2 trivial]
@[go_sem] theorem adU (rh:Nat->Option Nat) (lv:Nat->Bool) (a b:List D):Pf rh lv (.box a) (.box b)=lG rh lv a b:=by simp [Pf]
@[go_sem] theorem acL (rh:Nat->Option Nat) (lv:Nat->Bool) (z z':Nat) (a b:List (List D)):Pf rh lv (.own z a) (.own z' b)=(z=z'/\a=b):=by simp [Pf]
@[go_sem ↓] theorem abG (b:Bool) (x:D):tQ (.bool b) x=[]:=by cases x<;>simp [tQ]
@[go_sem ↓] theorem adM (k:IntKind) (m:Int) (x:D):tQ (.int k m) x=[]:=by cases x<;>simp [tQ]
@[go_sem ↓] theorem adR (s:ByteArray) (x:D):tQ (.str s) x=[]:=by cases x<;>simp [tQ]
@[go_sem ↓] theorem aev  (x:D):tQ (.nil) x=[]:=by cases x<;>simp [tQ]
@[go_sem ↓] theorem agi (z:Nat) (rows:List (List D)) (x:D):tQ (.sl z rows) x=[]:=by cases x<;>simp [tQ]
@[go_sem ↓] theorem X6 (cs:List D) (x:D):tQ (.bI cs) x=[]:=by cases x<;>simp [tQ]
@[go_sem ↓] theorem acQ (z:Nat) (rows:List (List D)) (x:D):tQ (.own z rows) x=[]:=by cases x<;>simp [tQ]
@[go_sem] theorem acW (s r:Nat):tQ (.ref s) (.ref r)=[(s,some r)]:=by simp [tQ]
@[go_sem] theorem W4 (s:Nat):tQ (.ref s) .nil=[(s,none)]:=by simp [tQ]
@[go_sem] theorem aax (s r a b:Nat):tQ (.addr s a) (.addr r b)=[(s,some r)]:=by simp [tQ]
@[go_sem] theorem adI (a b:List D):tQ (.agg a) (.agg b)=xq a b:=by simp [tQ]
@[go_sem] theorem acI (a b:List D):tQ (.bD a) (.bD b)=xq a b:=by simp [tQ]
@[go_sem] theorem aec (a b:List D):tQ (.box a) (.box b)=xq a b:=by simp [tQ]
@[go_sem] theorem agr (f f':FuncId) (a b:List D):tQ (.fn f a) (.fn f' b)=xq a b:=by simp [tQ]
@[go_sem] theorem abQ (x:List D):xq [] x=[]:=by simp [xq]
@[go_sem] theorem ZN (a b:D) (x y:List D):xq (a :: x) (b :: y)=tQ a b++xq x y:=by simp [xq]
section
variable {P:Program} {e:Env}
@[go_sem ↓] theorem aaD:Lo e []=[]:=rfl
@[go_sem ↓] theorem ZA (i:Nat) (d:D) (r:EL):Lo e ((i,d) :: r)=tQ (dm d) (e.t i)++Lo e r:=rfl
@[go_sem ↓] theorem abL (l:List (Nat × Option Nat)):OS e l []=[]:=rfl
@[go_sem ↓] theorem ZV (l:List (Nat × Option Nat)) (i:Nat) (d:D) (r:EL):OS e l ((i,d) :: r)=tQ (dm d) (X7 e (iH l i))++OS e l r:=rfl
@[congr] theorem aad {o o':Option Nat} (h:True->o=o'):X7 e o=X7 e o':=by rw [h trivial]
@[go_sem] theorem abv (r:Nat):X7 e (some r)=e.o r:=rfl
@[go_sem] theorem aay:X7 e none=.undef:=rfl
@[go_sem] theorem adw (s:Nat):iH [] s=some s:=rfl
@[go_sem] theorem abc (i:Nat) (o:Option Nat) (r:List (Nat × Option Nat)) (s:Nat):iH ((i,o) :: r) s=if s=i then o else iH r s:=rfl
@[go_sem] theorem adn (s:Nat):KZ [] s=false:=rfl
@[go_sem] theorem abk (i:Nat) (d:D) (r:EL) (s:Nat):KZ ((i,d) :: r) s=if s=i then true else KZ r s:=rfl
@[congr] theorem Yn {m:Nat} {ts os:EL} {l l':List (Nat × Option Nat)} (h:True->l=l'):VW m e ts os l=VW m e ts os l':=by rw [h trivial]
@[congr] theorem ZO {m:Nat} {ts os:EL} {l l':List (Nat × Option Nat)} (h:True->l=l'):Yp m e ts os l=Yp m e ts os l':=by rw [h trivial]
@[go_sem ↓] theorem af9 (ts os:EL):MW e ts os=VW 16 e ts os (lm (Lo e ts)):=rfl
@[go_sem ↓] theorem afK (m:Nat) (ts os:EL):Q3 m e ts os=VW m e ts os (lm (Lo e ts)):=rfl
@[go_sem] theorem ago (m:Nat) (ts os:EL) (l:List (Nat × Option Nat)):VW m e ts os l=Yp m e ts os (lm (l++OS e l os)):=rfl
@[go_sem] theorem ae2 (m:Nat) (ts os:EL) (l:List (Nat × Option Nat)):Yp m e ts os l=(OL e (iH l) os ts/\EI m e (iH l) os os):=rfl
@[go_sem ↓] theorem aa4 (rh:Nat->Option Nat) (os:EL):OL e rh os []=True:=rfl
@[go_sem ↓] theorem Zt (rh:Nat->Option Nat) (os:EL) (i:Nat) (d:D) (r:EL):OL e rh os ((i,d) :: r)=(jh rh (KZ os) (dm (e.t i)) d/\OL e rh os r):=rfl
@[congr] theorem VQ {rh:Nat->Option Nat} {os:EL} {d:D} {o o':Option Nat} (h:True->o=o'):HJ e rh os d o=HJ e rh os d o':=by rw [h trivial]
@[go_sem] theorem XT (rh:Nat->Option Nat) (os:EL) (d:D) (r:Nat):HJ e rh os d (some r)=Pf rh (KZ os) (dm (e.o r)) d:=rfl
@[go_sem] theorem X9 (rh:Nat->Option Nat) (os:EL) (d:D):HJ e rh os d none=AL d:=rfl
@[go_sem] theorem Wx (z:Nat) (rows:List (List D)):AL (.own z rows)=(rows=[]):=rfl
@[go_sem] theorem TB (o:Option Nat) (rh:Nat->Option Nat):gY o rh []=True:=rfl
@[go_sem] theorem R4 (rh:Nat->Option Nat) (x:Nat × D) (r:EL):gY none rh (x :: r)=gY none rh r:=by simp [gY]
@[go_sem] theorem Sb (a:Nat) (rh:Nat->Option Nat) (i:Nat) (d:D) (r:EL):gY (some a) rh ((i,d) :: r)=(rh i≠some a/\gY (some a) rh r):=rfl
@[congr] theorem PM {o o':Option Nat} {rh:Nat->Option Nat} {os:EL} (h:True->o=o'):gY o rh os=gY o' rh os:=by rw [h trivial]
@[go_sem] theorem Xt (m s r:Nat):EX m s (some r)=(m<=s\/r=s):=by simp [EX]
@[go_sem] theorem XD (m s:Nat):EX m s none=(m<=s):=by simp [EX]
@[go_sem ↓] theorem abF (m:Nat) (rh:Nat->Option Nat) (os:EL):EI m e rh os []=True:=rfl
@[go_sem ↓] theorem ZY (m:Nat) (rh:Nat->Option Nat) (os:EL) (i:Nat) (d:D) (r:EL):EI m e rh os ((i,d) :: r)=(KZ r i=false/\HJ e rh os d (rh i)/\gY (rh i) rh r/\EX m i (rh i)/\EI m e rh os r):=rfl
attribute [go_sem] Nat.zero_le Option.some.injEq Bool.true_eq_false Bool.false_eq_true ne_eq not_false_eq_true
def rtK (m:Nat) (hs':List D) (d:D) (e:Env) (v:D):Prop:=Q3 m (vh v e) (lm [(0,d)]) (qO 0 hs')
def MS (m:Nat) (e:Env) (ts os:EL):Prop:=Q3 m e ts os
@[go_sem ↓] theorem afr (m:Nat) (hs':List D) (d v:D):rtK m hs' d e v=MS (nk m) (vh v e) [(0,d)] (lm (qO 0 hs')):=rfl
@[congr] theorem U5 {m m':Nat} {ts os os':EL} (h1:True->m=m') (h:True->os=os'):MS m e ts os=MS m' e ts os':=by rw [h1 trivial,h trivial]
@[go_sem] theorem acm (m:Nat) (ts os:EL):MS m e ts os=Q3 m e ts os:=rfl
@[go_sem ↓] theorem adT (rs:List ResultVar) (m:Nat) (hs':List D) (d:D):OT P rs m hs' d e=(vL P e rs/\Norm (dm (DQ P e rs)) (rtK m hs' d e)):=rfl
@[go_sem ↓] theorem aan (v:D) (j:Nat):(vh v e).t j=if j=0 then v else .undef:=Eq.trans rfl rfl
@[go_sem ↓] theorem abt (v:D) (j:Nat):(vh v e).o j=e.o j:=Eq.trans rfl rfl
@[go_sem ↓] theorem V5:vL P e []=True:=rfl
@[go_sem ↓] theorem T6 (r:ResultVar) (rs:List ResultVar):vL P e (r :: rs)=(CZ P e r/\vL P e rs):=rfl
@[go_sem ↓] theorem Yl (t:Nat):CZ P e (.tmp t)=True:=rfl
@[go_sem ↓] theorem Wp (a:Nat) (t:TypeId):CZ P e (.cell a t)=zl e (bT P t) (e.t a):=by simp only [CZ,zl];rfl
@[go_sem ↓] theorem aco (t:Nat):Db P e (.tmp t)=e.t t:=rfl
@[go_sem ↓] theorem XP (a:Nat) (t:TypeId):Db P e (.cell a t)=Vd e (bT P t) (e.t a):=by simp only [Db,Vd];rfl
@[go_sem ↓] theorem aaM (r:ResultVar):DQ P e [r]=Db P e r:=rfl
@[go_sem ↓] theorem abK (a b:ResultVar) (l:List ResultVar):DQ P e (a :: b :: l)=.bD ((a :: b :: l).map (Db P e)):=rfl
@[go_sem ↓] theorem YY:DQ P e []=.bD []:=rfl
end
@[go_sem] theorem aaI (op:BinOp) (k k':IntKind) (a b:Int):yQ op (.int k a) (.int k' b)=Ie op k a b:=rfl
@[go_sem] theorem acj (op:BinOp) (a b:ByteArray):yQ op (.str a) (.str b)=sop op a b:=rfl
@[go_sem] theorem aab (op:BinOp) (a b:Bool):yQ op (.bool a) (.bool b)=Jh op (a==b):=rfl
@[go_sem] theorem acv (op:BinOp) (a b:List D):yQ op (.agg a) (.agg b)=Jh op (bW a b):=rfl
@[go_sem] theorem aeo (op:BinOp):yQ op .eM .eM=Jh op true:=rfl
@[go_sem] theorem adH (b:Bool):Jh .eql b=.bool b:=rfl
@[go_sem] theorem ac2 (b:Bool):Jh .neq b=.bool (!b):=rfl
@[go_sem] theorem S6 (a b:D) (x y:List D):bW (a :: x) (b :: y)=(sM a b&&bW x y):=rfl
@[go_sem] theorem UG (y:List D):bW [] y=true:=by simp [bW]
@[go_sem] theorem V4 (k k':IntKind) (a b:Int):sM (.int k a) (.int k' b)=(a==b):=rfl
@[go_sem] theorem UL (a b:Bool):sM (.bool a) (.bool b)=(a==b):=rfl
section
variable {P:Program}
@[go_sem] theorem Zy (c:Bool) (op:BinOp) (t:TypeId) (k k':IntKind) (a b:Int):sC P c op t (.int k a) (.int k' b)=kU op k k' b:=rfl
@[go_sem] theorem aaf (c:Bool) (op:BinOp) (t:TypeId) (a b:ByteArray):sC P c op t (.str a) (.str b)=Ff op a b:=rfl
@[go_sem] theorem Vp (c:Bool) (op:BinOp) (t:TypeId) (a b:Bool):sC P c op t (.bool a) (.bool b)=(isEq op/\bO P t=.bool):=rfl
@[go_sem] theorem X4 (c:Bool) (op:BinOp) (t:TypeId) (a b:List D):sC P c op t (.agg a) (.agg b)=(isEq op/\xN P t=true/\qk (gm P 9 t) a b):=rfl
@[go_sem] theorem aa5 (c:Bool) (op:BinOp) (t:TypeId):sC P c op t .eM .eM=(isEq op/\isIface P t=true/\c=true):=rfl
end
@[go_sem] theorem aaU:isEq .eql=True:=by simp [isEq]
@[go_sem] theorem aal:isEq .neq=True:=by simp [isEq]
attribute [go_sem] isConst
@[go_sem] theorem Qp (ls:List pI) (a b:List D):qk (some ls) a b=dF ls a b:=rfl
@[go_sem] theorem S7:dF [] [] []=True:=rfl
@[go_sem] theorem R1 (l:pI) (ls:List pI) (a b:D) (x y:List D):dF (l :: ls) (a :: x) (b :: y)=(CV l a b/\dF ls x y):=rfl
@[go_sem] theorem W8 (k k':IntKind) (a b:Int):CV .int (.int k a) (.int k' b)=(k=k'):=rfl
@[go_sem] theorem U0 (a b:Bool):CV .bool (.bool a) (.bool b)=True:=rfl
@[go_sem] theorem aep (k:IntKind) (a b:Int):Ie .add k a b=.int k (k.wrap (a+b)):=rfl
@[go_sem] theorem acT (k:IntKind) (a b:Int):Ie .sub k a b=.int k (k.wrap (a-b)):=rfl
@[go_sem] theorem ad3 (k:IntKind) (a b:Int):Ie .mul k a b=.int k (k.wrap (a*b)):=rfl
@[go_sem] theorem aeI (k:IntKind) (a b:Int):Ie .quo k a b=.int k (k.wrap (a.tdiv b)):=rfl
@[go_sem] theorem ac8 (k:IntKind) (a b:Int):Ie .rem k a b=.int k (a.tmod b):=rfl
@[go_sem] theorem acV (k:IntKind) (a b:Int):Ie .eql k a b=.bool (a==b):=rfl
@[go_sem] theorem acO (k:IntKind) (a b:Int):Ie .neq k a b=.bool (a != b):=rfl
@[go_sem] theorem adf (k:IntKind) (a b:Int):Ie .lss k a b=.bool (decide (a < b)):=rfl
@[go_sem] theorem aeC (k:IntKind) (a b:Int):Ie .leq k a b=.bool (decide (a<=b)):=rfl
@[go_sem] theorem ac0 (k:IntKind) (a b:Int):Ie .gtr k a b=.bool (decide (b < a)):=rfl
@[go_sem] theorem acJ (k:IntKind) (a b:Int):Ie .geq k a b=.bool (decide (b<=a)):=rfl
def Ac (k:IntKind) (a b:Int):Int:=k.wrap (a*2 ^ (min b.toNat k.bits))
def Dy (k:IntKind) (a b:Int):Int:=a.fdiv (2 ^ (min b.toNat k.bits))
def Wl (k:IntKind) (a b:Int):Int:=k.wrap (BitVec.ofInt k.bits a &&& BitVec.ofInt k.bits b).toNat
def YG (k:IntKind) (a b:Int):Int:=k.wrap (BitVec.ofInt k.bits a ||| BitVec.ofInt k.bits b).toNat
def SJ (k:IntKind) (n:Int):Int:=k.wrap (BitVec.ofInt k.bits (if k.signed then -1 else k.max) ^^^ BitVec.ofInt k.bits n).toNat
@[go_sem] theorem ad8 (k:IntKind) (a b:Int):Ie .shl k a b=.int k (Ac k a b):=rfl
@[go_sem] theorem aej (k:IntKind) (a b:Int):Ie .shr k a b=.int k (Dy k a b):=rfl
@[go_sem] theorem acX (k:IntKind) (a b:Int):Ie .and k a b=.int k (Wl k a b):=rfl
@[go_sem] theorem aeN (k:IntKind) (a b:Int):Ie .or k a b=.int k (YG k a b):=rfl
@[go_sem] theorem ZM (k k':IntKind) (b:Int):kU .add k k' b=(k=k'):=rfl
@[go_sem] theorem ZX (k k':IntKind) (b:Int):kU .sub k k' b=(k=k'):=rfl
@[go_sem] theorem Ya (k k':IntKind) (b:Int):kU .mul k k' b=(k=k'):=rfl
@[go_sem] theorem Z2 (k k':IntKind) (b:Int):kU .quo k k' b=(k=k'/\b≠0):=rfl
@[go_sem] theorem YB (k k':IntKind) (b:Int):kU .rem k k' b=(k=k'/\b≠0):=rfl
@[go_sem] theorem Yr (k k':IntKind) (b:Int):kU .eql k k' b=(k=k'):=rfl
@[go_sem] theorem Yq (k k':IntKind) (b:Int):kU .neq k k' b=(k=k'):=rfl
@[go_sem] theorem Yt (k k':IntKind) (b:Int):kU .lss k k' b=(k=k'):=rfl
@[go_sem] theorem ZI (k k':IntKind) (b:Int):kU .leq k k' b=(k=k'):=rfl
@[go_sem] theorem Yw (k k':IntKind) (b:Int):kU .gtr k k' b=(k=k'):=rfl
@[go_sem] theorem Zs (k k':IntKind) (b:Int):kU .geq k k' b=(k=k'):=rfl
@[go_sem] theorem XY (k k':IntKind) (b:Int):kU .and k k' b=(k=k'):=rfl
@[go_sem] theorem abp (k k':IntKind) (b:Int):kU .or k k' b=(k=k'):=rfl
@[go_sem] theorem Yo (k k':IntKind) (b:Int):kU .shl k k' b=(0<=b):=rfl
@[go_sem] theorem Zg (k k':IntKind) (b:Int):kU .shr k k' b=(0<=b):=rfl
@[go_sem] theorem ad1 (a b:ByteArray):sop .add a b=.str (a++b):=rfl
@[go_sem] theorem acZ (a b:ByteArray):sop .eql a b=.bool (a.toList==b.toList):=rfl
@[go_sem] theorem adO (a b:ByteArray):sop .neq a b=.bool (!(a.toList==b.toList)):=rfl
@[go_sem] theorem ZE (a b:ByteArray):Ff .add a b=(a.size+b.size<=2 ^ 62):=rfl
@[go_sem] theorem XQ (a b:ByteArray):Ff .eql a b=True:=rfl
@[go_sem] theorem Yv (a b:ByteArray):Ff .neq a b=True:=rfl
@[go_sem] theorem Zw (b:Bool):yR .not (.bool b)=.bool (!b):=rfl
@[go_sem] theorem Y0 (k:IntKind) (n:Int):yR .neg (.int k n)=.int k (k.wrap (0-n)):=rfl
@[go_sem] theorem YR (k:IntKind) (n:Int):yR .xor (.int k n)=.int k (SJ k n):=rfl
@[go_sem] theorem W3 (b:Bool):oX .not (.bool b)=True:=by simp [oX]
@[go_sem] theorem VM (k:IntKind) (n:Int):oX .neg (.int k n)=True:=by simp [oX]
@[go_sem] theorem Vw (k:IntKind) (n:Int):oX .xor (.int k n)=True:=by simp [oX]
@[go_sem] theorem X3 (s:Ty) (k k':IntKind) (n:Int):Gg s (.int k) (.int k' n)=.int k (k.wrap n):=rfl
@[go_sem] theorem Wk (k1 k2 k:IntKind) (n:Int):Cj (.int k1) (.int k2) (.int k n)=True:=by simp [Cj]
@[go_sem] theorem WS (r o:Nat):Rd (.addr r o)=True:=rfl
def B0:List FT->Nat->Nat
 | [],_=>0
 | x :: _,0=>x.off
 | _ :: r,n+1=>B0 r n
theorem Ar:∀ (fs:List FT) (f:Nat),((fs[f]?).map (·.off)).getD 0=B0 fs f
 | [],f=>by simp [B0]
 | x :: r,0=>by simp [B0]
 | x :: r,n+1=>by simp [B0,Ar r n]
@[go_sem] theorem ZQ (x:FT) (r:List FT):B0 (x :: r) 0=x.off:=rfl
@[go_sem] theorem X8 (x:FT) (r:List FT) (n:Nat):B0 (x :: r) (n+1)=B0 r n:=rfl
@[go_sem] theorem aaF (fs:List FT) (f r o:Nat):SK fs f (.addr r o)=.addr r (o+B0 fs f):=by simp only [SK,Ar]
@[go_sem] theorem ZG (fs:List FT) (f r z i k:Nat):SK fs f (.bQ r z i k)=.bQ r z i (k+B0 fs f):=by simp only [SK,Ar]
@[go_sem] theorem Ze (fs:List FT) (f:Nat) (cs:List D):SK fs f (.bI cs)=.bI (cs.drop (B0 fs f)):=by simp only [SK,Ar]
@[go_sem] theorem YA (fs:List FT) (f r o:Nat):N9 fs f (.addr r o)=(f < fs.length):=rfl
@[go_sem] theorem Xp (fs:List FT) (f r z i k:Nat):N9 fs f (.bQ r z i k)=(f < fs.length):=rfl
@[go_sem] theorem WK (fs:List FT) (f:Nat) (cs:List D):N9 fs f (.bI cs)=(f < fs.length):=rfl
@[go_sem] theorem agd (t:Ty) (z:Nat) (rows:List (List D)) (k:IntKind) (i:Int):Yi t (.sl z rows) (.int k i)=.bI (rows.getD i.toNat []):=rfl
@[go_sem] theorem adL (z b:Nat) (a:Bool) (r:Nat) (k:IntKind) (i:Int):Yi (.slice z b a) (.ref r) (.int k i)=.bQ r z i.toNat 0:=rfl
@[go_sem] theorem aaO (n z:Nat) (a:Bool) (r o:Nat) (k:IntKind) (i:Int):Yi (.arr n z a) (.addr r o) (.int k i)=.addr r (o+i.toNat*z):=rfl
@[go_sem] theorem aaP (e:Env) (z' b:Nat) (a:Bool) (z:Nat) (rows:List (List D)) (k:IntKind) (i:Int):Gc e (.slice z' b a) (.sl z rows) (.int k i)=(z=z'/\0<=i/\i < rows.length):=rfl
@[go_sem] theorem Z8 (e:Env) (z b:Nat) (a:Bool) (r:Nat) (k:IntKind) (i:Int):Gc e (.slice z b a) (.ref r) (.int k i)=(0<=i/\MJ z i (e.o r)):=rfl
@[go_sem] theorem Z6 (z:Nat) (i:Int) (z':Nat) (rows:List (List D)):MJ z i (.own z' rows)=(z'=z/\i < rows.length):=rfl
@[go_sem] theorem Wv (e:Env) (n z:Nat) (a:Bool) (r o:Nat) (k:IntKind) (i:Int):Gc e (.arr n z a) (.addr r o) (.int k i)=(0<=i/\i < n):=rfl
@[go_sem] theorem ad0 (n z:Nat) (ea:Bool) (cs:List D) (k:IntKind) (i:Int):ixV (.arr n z ea) (.agg cs) (.int k i)=part ea (i.toNat*z) z cs:=rfl
@[go_sem] theorem aa1 (n z:Nat) (ea:Bool) (cs:List D) (k:IntKind) (i:Int):Jb (.arr n z ea) (.agg cs) (.int k i)=(0<=i/\i < n/\cs.length=n*z):=rfl
@[go_sem] theorem ad6 (t:Ty) (s:ByteArray) (k:IntKind) (i:Int):ixV t (.str s) (.int k i)=.int .u8 ((s[i.toNat]?).map (·.toNat)|>.getD 0):=rfl
@[go_sem] theorem abl (s:ByteArray) (k:IntKind) (i:Int):Jb .str (.str s) (.int k i)=(0<=i/\i < s.size):=by simp [Jb]
@[go_sem] theorem abq (o n:Nat) (cs:List D):part true o n cs=.agg ((cs.drop o).take n):=rfl
@[go_sem] theorem acz (o n:Nat) (cs:List D):part false o n cs=(cs.drop o).headD .undef:=rfl
def abN (f:Option FT) (cs:List D):D:=match f with
 | some x=>part x.agg x.off x.sz cs
 | none=>.undef
def Qc (f:Option FT) (cs:List D):Prop:=match f with
 | some x=>x.off+x.sz<=cs.length
 | none=>False
@[go_sem] theorem abU (fs:List FT) (f:Nat) (cs:List D):NT fs f (.agg cs)=abN fs[f]? cs:=rfl
@[go_sem] theorem XU (fs:List FT) (f:Nat) (cs:List D):FQ fs f (.agg cs)=Qc fs[f]? cs:=rfl
@[go_sem] theorem Zn (o s:Nat) (a:Bool) (cs:List D):abN (some ⟨o,s,a⟩) cs=part a o s cs:=rfl
@[go_sem] theorem Ud (o s:Nat) (a:Bool) (cs:List D):Qc (some ⟨o,s,a⟩) cs=(o+s<=cs.length):=rfl
section
variable {e:Env}
@[go_sem] theorem adr (z b:Nat) (a:Bool) (y:Nat) (r:List (List D)):Lb e (.slice z b a) (.sl y r)=.int .i64 r.length:=rfl
@[go_sem] theorem acC (z b:Nat) (a:Bool):Lb e (.slice z b a) .nil=.int .i64 0:=rfl
@[go_sem] theorem abJ (z b:Nat) (a:Bool) (r:Nat):Lb e (.slice z b a) (.ref r)=Ap (e.o r):=rfl
@[go_sem] theorem UE (z:Nat) (r:List (List D)):Ap (.own z r)=.int .i64 r.length:=rfl
@[go_sem] theorem acq (s:ByteArray):Lb e .str (.str s)=.int .i64 s.size:=rfl
@[go_sem] theorem Y4 (z b:Nat) (a:Bool) (y:Nat) (r:List (List D)):vK e (.slice z b a) (.sl y r)=True:=rfl
@[go_sem] theorem Ws (z b:Nat) (a:Bool):vK e (.slice z b a) .nil=True:=rfl
@[go_sem] theorem Xd (z b:Nat) (a:Bool) (r:Nat):vK e (.slice z b a) (.ref r)=wh (e.o r):=rfl
@[go_sem] theorem TR (z:Nat) (r:List (List D)):wh (.own z r)=True:=rfl
@[go_sem] theorem Vx (s:ByteArray):vK e .str (.str s)=True:=rfl
def slX (z z' N:Nat) (lo hi:Int):Prop:=z=z'/\0<=lo/\lo<=hi/\hi<=N
@[go_sem] theorem aeO (z z' N:Nat) (lo hi:Int):slX z z' N lo hi=(z=z'/\0<=lo/\lo<=hi/\hi<=N):=rfl
theorem WW (z z' N:Nat) (k:IntKind) (lo:Int) (k':IntKind) (hi:Int):Sm (if z=z' then some N else none) (.int k lo) (.int k' hi) (fun _ _ _=>True)=slX z z' N lo hi:=by
 unfold slX
 by_cases h:z=z'
 ·simp [h,Sm]
 ·simp [h,Sm]
@[go_sem] theorem afL (z' b:Nat) (a:Bool) (z:Nat) (rows:List (List D)) (k k':IntKind) (lo hi:Int):UJ e (.slice z' b a) (.sl z rows) (.int k lo) (some (.int k' hi))=.sl z ((rows.take hi.toNat).drop lo.toNat):=rfl
@[go_sem] theorem acr (z' b:Nat) (a:Bool) (z:Nat) (rows:List (List D)) (k k':IntKind) (lo hi:Int):xB e (.slice z' b a) (.sl z rows) (.int k lo) (some (.int k' hi))=slX z z' rows.length lo hi:=WW _ _ _ _ _ _ _
@[go_sem] theorem adt (s:ByteArray) (k k':IntKind) (lo hi:Int):UJ e .str (.str s) (.int k lo) (some (.int k' hi))=.str (s.extract lo.toNat hi.toNat):=rfl
@[go_sem] theorem ZW (s:ByteArray) (k k':IntKind) (lo hi:Int):xB e .str (.str s) (.int k lo) (some (.int k' hi))=(0<=lo/\lo<=hi/\hi<=s.size):=by simp [xB,UC,Ji,Sm]
@[go_sem] theorem aby (s:ByteArray) (k:IntKind) (lo:Int):UJ e .str (.str s) (.int k lo) none=.str (s.extract lo.toNat s.size):=by simp [UJ,Ji,KT,abI,Rt]
@[go_sem] theorem V0 (s:ByteArray) (k:IntKind) (lo:Int):xB e .str (.str s) (.int k lo) none=(0<=lo/\lo<=s.size):=by simp [xB,UC,Ji,KT,Sm]
end
@[go_sem] theorem Zj (cs:List D):jS cs []=cs:=rfl
@[go_sem] theorem XH (cs:List D) (o s:Nat) (v:D) (r:List (Nat × Nat × D)):jS cs ((o,s,v) :: r)=jS (kP cs o v.cells) r:=rfl
@[go_sem] theorem Vy (n:Nat):lA n []=True:=rfl
@[go_sem] theorem T4 (n o s:Nat) (v:D) (r:List (Nat × Nat × D)):lA n ((o,s,v) :: r)=(v.cells.length=s/\o+s<=n/\(∀ c∈v.cells,eu c)/\lA n r):=rfl
@[go_sem] theorem UK (z:Nat) (cs:List D):rowsOf z 0 cs=[]:=rfl
@[go_sem] theorem Uq (z n:Nat) (cs:List D):rowsOf z (n+1) cs=cs.take z :: rowsOf z n (cs.drop z):=rfl
@[go_sem] theorem adp (cs:List D) (o:Nat) (xs:List D):kP cs o xs=cs.take o++xs++cs.drop (o+xs.length):=rfl
@[go_sem] theorem WN (a d:D) (l:List D):(a :: l).getD 0 d=a:=rfl
@[go_sem] theorem Xn (a d:D) (l:List D) (n:Nat):(a :: l).getD (n+1) d=l.getD n d:=rfl
@[go_sem] theorem WG:pL []=True:=rfl
@[go_sem] theorem Uw (k:IntKind) (n:Int) (r:List D):pL (.int k n :: r)=pL r:=rfl
@[go_sem] theorem Zi (f:D->D->D) (a b:D):IT f [a,b]=f a b:=rfl
@[go_sem] theorem Z3 (k k':IntKind) (x y:Int):JP (.int k x) (.int k' y)=.int k (max x y):=by
 show D.int k (if y > x then y else x)=_
 congr 1;rw [Int.max_def];split<;>split<;>omega
@[go_sem] theorem YC (k k':IntKind) (x y:Int):Ka (.int k x) (.int k' y)=.int k (min x y):=by
 show D.int k (if y < x then y else x)=_
 congr 1;rw [Int.min_def];split<;>split<;>omega
@[go_sem] theorem Wr (b:Bool):D.cells (.bool b)=[.bool b]:=rfl
@[go_sem] theorem Y7 (k:IntKind) (m:Int):D.cells (.int k m)=[.int k m]:=rfl
@[go_sem] theorem ZH (s:ByteArray):D.cells (.str s)=[.str s]:=rfl
@[go_sem] theorem YU:D.cells (.nil)=[.nil]:=rfl
@[go_sem] theorem ab8 (z:Nat) (rows:List (List D)):D.cells (.sl z rows)=[.sl z rows]:=rfl
@[go_sem] theorem Z7 (r:Nat):D.cells (.ref r)=[.ref r]:=rfl
@[go_sem] theorem abO (f:FuncId) (cs:List D):D.cells (.fn f cs)=[.fn f cs]:=rfl
@[go_sem] theorem Zu (cs:List D):D.cells (.agg cs)=cs:=rfl
@[go_sem] theorem U' (b:Bool):eu (.bool b)=True:=rfl
@[go_sem] theorem Xe (k:IntKind) (m:Int):eu (.int k m)=True:=rfl
@[go_sem] theorem Wg (s:ByteArray):eu (.str s)=True:=rfl
@[go_sem] theorem XA:eu (.nil)=True:=rfl
@[go_sem] theorem Yf (z:Nat) (rows:List (List D)):eu (.sl z rows)=True:=rfl
@[go_sem] theorem VJ (r:Nat):eu (.ref r)=True:=rfl
@[go_sem] theorem ZU (f:FuncId) (cs:List D):eu (.fn f cs)=True:=rfl
@[go_sem] theorem U8 (b:Bool):dw (.bool b)=True:=by simp [dw,eu,D.names]
@[go_sem] theorem Vu (k:IntKind) (m:Int):dw (.int k m)=True:=by simp [dw,eu,D.names]
@[go_sem] theorem Wt (s:ByteArray):dw (.str s)=True:=by simp [dw,eu,D.names]
@[go_sem] theorem XO (z:Nat) (rows:List (List D)):dw (.sl z rows)=True:=by simp [dw,eu,D.names]
end Go.Abs
