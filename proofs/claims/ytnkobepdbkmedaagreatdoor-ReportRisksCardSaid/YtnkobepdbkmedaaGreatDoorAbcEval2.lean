/- The predicate on data, worked out by simp: data, calls, weakening, results; printed by gen_eval2.py. No theorem of a claim. -/
import Derived.Test.YtnkobepdbkmedaaGreatDoorAbcEval
set_option linter.unusedSimpArgs false
set_option linter.unusedVariables false
namespace Go.Abs
attribute [go_sem] Bool.not_true Bool.not_false Bool.true_and Bool.and_true Bool.false_and Bool.and_false Bool.true_or Bool.or_true Bool.false_or Bool.or_false Bool.not_not true_and and_true if_true if_false ite_true ite_false not_true_eq_false not_false_eq_true
attribute [go_sem] List.map_cons List.map_nil List.length_cons List.length_nil List.append_nil List.nil_append List.cons_append List.take_succ_cons List.take_zero List.drop_succ_cons List.drop_zero List.headD_cons List.take_nil List.drop_nil Nat.add_zero Nat.zero_add List.replicate_succ List.replicate_zero List.flatten_cons List.flatten_nil List.set_cons_zero List.set_cons_succ List.getElem?_cons_zero List.getElem?_cons_succ List.getElem?_nil Option.map_some Option.map_none Option.getD_some Option.getD_none
attribute [go_sem] List.contains_nil List.contains_cons Bool.or_self beq_self_eq_true
attribute [go_sem] decide_true decide_false Int.natCast_nonneg Int.toNat_natCast forall_eq implies_true true_implies false_implies reduceCtorEq and_self
@[go_sem ↓] theorem aiL (e:Env) (t:Nat):rd e (.tmp t)=e.t t:=Eq.trans rfl rfl
@[go_sem ↓] theorem aeW (e:Env) (v:Value):rd e (.const v)=rU v:=Eq.trans rfl rfl
@[go_sem ↓] theorem ahf (e:Env) (f:FuncId):rd e (.func f)=.fn f []:=Eq.trans rfl rfl
@[go_sem ↓] theorem ajk (e:Env) (i:Nat) (d:D) (j:Nat):(dD e i d).t j=if j=i then d else e.t j:=Eq.trans rfl rfl
@[go_sem ↓] theorem ah2 (e:Env) (i:Nat) (d:D) (j:Nat):(dD e i d).o j=e.o j:=Eq.trans rfl rfl
@[go_sem ↓] theorem ajj (e:Env) (i:Nat) (d:D) (j:Nat):(eG e i d).o j=if j=i then d else e.o j:=Eq.trans rfl rfl
@[go_sem ↓] theorem ai9 (e:Env) (i:Nat) (d:D) (j:Nat):(eG e i d).t j=e.t j:=Eq.trans rfl rfl
@[go_sem ↓] theorem agY (e:Env) (r j:Nat):(kj r e).t j=(e.t j).kill r:=Eq.trans rfl rfl
@[go_sem ↓] theorem agN (e:Env) (r j:Nat):(kj r e).o j=if j=r then .undef else (e.o j).kill r:=Eq.trans rfl rfl
@[go_sem ↓] theorem aj0 (ts os:EL) (j:Nat):(vl ts os).t j=look ts j:=Eq.trans rfl rfl
@[go_sem ↓] theorem aj8 (ts os:EL) (j:Nat):(vl ts os).o j=look os j:=Eq.trans rfl rfl
@[go_sem ↓] theorem look_nil (j:Nat):look [] j=.undef:=Eq.trans rfl rfl
@[go_sem ↓] theorem acG (i:Nat) (d:D) (r:EL) (j:Nat):look ((i,d) :: r) j=if j=i then d else look r j:=Eq.trans rfl rfl
@[go_sem ↓] theorem ag5 (k:Nat):Tc k []=[]:=rfl
@[go_sem] theorem adV (k:Nat) (d:D) (ds:List D):Tc k (d :: ds)=(k,d) :: Tc (k+1) ds:=rfl
@[go_sem ↓] theorem afS (k:Nat):so k []=[]:=rfl
@[congr] theorem alp (k:Nat) {l l':List D} (h:True->l=l'):so k l=so k l':=by rw [h trivial]
def osI (b:Bool) (k:Nat) (d:D) (ds:List D):EL:=if b then so (k+1) ds else (k,d) :: so (k+1) ds
@[go_sem] theorem adO (k:Nat) (d:D) (ds:List D):so k (d :: ds)=osI (cZ d) k d ds:=rfl
@[go_sem] theorem akA (k:Nat) (d:D) (ds:List D):osI true k d ds=so (k+1) ds:=rfl
@[go_sem] theorem ajI (k:Nat) (d:D) (ds:List D):osI false k d ds=(k,d) :: so (k+1) ds:=rfl
@[go_sem] theorem Yt (b:Bool):rU (.bool b)=.bool b:=rfl
@[go_sem] theorem YN (k:IntKind) (n:Int):rU (.int k n)=.int k n:=rfl
@[go_sem] theorem YR (s:ByteArray):rU (.string s)=.str s:=rfl
@[go_sem] theorem ZB:rU (.slice none 0 0)=.nil:=rfl
@[go_sem] theorem WT:rU .nilIface=.eH:=rfl
@[go_sem] theorem Y3 (b:Bool):D.names (.bool b)=[]:=by rw [D.names.eq_def]
@[go_sem] theorem abN (k:IntKind) (m:Int):D.names (.int k m)=[]:=by rw [D.names.eq_def]
@[go_sem] theorem ade (s:ByteArray):D.names (.str s)=[]:=by rw [D.names.eq_def]
@[go_sem] theorem afq (z:Nat) (rows:List (List D)):D.names (.sl z rows)=[]:=by rw [D.names.eq_def]
@[go_sem] theorem Yd (cs:List D):D.names (.bN cs)=[]:=by rw [D.names.eq_def]
@[go_sem] theorem adl (z:Nat) (rows:List (List D)):D.names (.own z rows)=[]:=by rw [D.names.eq_def]
@[go_sem] theorem aby (r:Nat):D.names (.ref r)=[r]:=by rw [D.names]
@[go_sem] theorem ZA (r o:Nat):D.names (.addr r o)=[r]:=by rw [D.names]
@[go_sem] theorem YC (r z i k:Nat):D.names (.bT r z i k)=[r]:=by rw [D.names]
@[go_sem] theorem aea (f:FuncId) (cs:List D):D.names (.fn f cs)=D.cq cs:=by rw [D.names]
@[go_sem] theorem ac7 (cs:List D):D.names (.agg cs)=D.cq cs:=by rw [D.names]
@[go_sem] theorem acW (cs:List D):D.names (.box cs)=D.cq cs:=by rw [D.names]
@[go_sem] theorem ZJ:D.cq []=[]:=by rw [D.cq]
@[go_sem] theorem Yj (d:D) (l:List D):D.cq (d :: l)=d.names++D.cq l:=by rw [D.cq]
@[go_sem] theorem aaX (q:Nat)  : D.kill q (.undef)=.undef:=by rw [D.kill.eq_def]
@[go_sem] theorem abm (q:Nat) (b:Bool):D.kill q (.bool b)=.bool b:=by rw [D.kill.eq_def]
@[go_sem] theorem aeo (q:Nat) (k:IntKind) (m:Int):D.kill q (.int k m)=.int k m:=by rw [D.kill.eq_def]
@[go_sem] theorem afg (q:Nat) (s:ByteArray):D.kill q (.str s)=.str s:=by rw [D.kill.eq_def]
@[go_sem] theorem aft (q:Nat)  : D.kill q (.nil)=.nil:=by rw [D.kill.eq_def]
@[go_sem] theorem afZ (q:Nat) (z:Nat) (rows:List (List D)):D.kill q (.sl z rows)=.sl z rows:=by rw [D.kill.eq_def]
@[go_sem] theorem aeY (q:Nat) (z:Nat) (rows:List (List D)):D.kill q (.own z rows)=.own z rows:=by rw [D.kill.eq_def]
@[go_sem] theorem adD (q:Nat) (r:Nat):D.kill q (.ref r)=if r=q then .undef else .ref r:=by rw [D.kill]
@[go_sem] theorem acO (q:Nat) (r o:Nat):D.kill q (.addr r o)=if r=q then .undef else .addr r o:=by rw [D.kill]
@[go_sem] theorem agj (q:Nat) (f:FuncId) (cs:List D):D.kill q (.fn f cs)=.fn f  (D.jh q cs):=by rw [D.kill]
@[go_sem] theorem afc (q:Nat) (cs:List D):D.kill q (.box cs)=.box  (D.jh q cs):=by rw [D.kill]
@[go_sem] theorem acq (q:Nat):D.jh q []=[]:=by rw [D.jh]
@[go_sem] theorem YZ (q:Nat) (d:D) (l:List D):D.jh q (d :: l)=d.kill q :: D.jh q l:=by rw [D.jh]
def fz (e:Env) (q:Nat) (d:D):D:=jM (e.o q) q d
def Vt (e:Env) (q:Nat) (l:List D):List D:=sU (e.o q) q l
@[congr] theorem aeG {e:Env} {q:Nat} {d d':D} (h:True->d=d'):fz e q d=fz e q d':=by rw [h trivial]
@[congr] theorem ac4 {e:Env} {q:Nat} {d d':List D} (h:True->d=d'):Vt e q d=Vt e q d':=by rw [h trivial]
def fzI (b:Bool) (x d:D):D:=if b then x else d
@[congr] theorem ac2 {b b':Bool} {x d:D} (h:True->b=b'):fzI b x d=fzI b' x d:=by rw [h trivial]
@[go_sem ↓] theorem afy (x d:D):fzI true x d=x:=rfl
@[go_sem ↓] theorem ab1 (x d:D):fzI false x d=d:=rfl
@[go_sem] theorem aeO (e:Env) (q:Nat)  : fz e q (.undef)=.undef:=by rw [fz,jM.eq_def]
@[go_sem] theorem ahE (e:Env) (q:Nat) (b:Bool):fz e q (.bool b)=.bool b:=by rw [fz,jM.eq_def]
@[go_sem] theorem ajd (e:Env) (q:Nat) (k:IntKind) (m:Int):fz e q (.int k m)=.int k m:=by rw [fz,jM.eq_def]
@[go_sem] theorem ajl (e:Env) (q:Nat) (s:ByteArray):fz e q (.str s)=.str s:=by rw [fz,jM.eq_def]
@[go_sem] theorem aiw (e:Env) (q:Nat)  : fz e q (.nil)=.nil:=by rw [fz,jM.eq_def]
@[go_sem] theorem ajV (e:Env) (q:Nat) (z:Nat) (rows:List (List D)):fz e q (.sl z rows)=.sl z rows:=by rw [fz,jM.eq_def]
@[go_sem] theorem aiM (e:Env) (q:Nat) (z:Nat) (rows:List (List D)):fz e q (.own z rows)=.own z rows:=by rw [fz,jM.eq_def]
@[go_sem] theorem aid (e:Env) (q:Nat) (r:Nat):fz e q (.ref r)=fzI (bm (r==q)) (uF (e.o q)) (.ref r):=by rw [fz,jM];rfl
@[go_sem] theorem af8 (e:Env) (q:Nat) (r o:Nat):fz e q (.addr r o)=fzI (bm (r==q)) (nw mJ o (e.o q)) (.addr r o):=by rw [fz,jM];rfl
@[go_sem] theorem ajt (e:Env) (q:Nat) (f:FuncId) (cs:List D):fz e q (.fn f cs)=.fn f  (Vt e q cs):=by rw [fz,jM];rfl
@[go_sem] theorem ahV (e:Env) (q:Nat) (cs:List D):fz e q (.agg cs)=.agg  (Vt e q cs):=by rw [fz,jM];rfl
@[go_sem] theorem air (e:Env) (q:Nat) (cs:List D):fz e q (.box cs)=.box  (Vt e q cs):=by rw [fz,jM];rfl
@[go_sem] theorem agB (e:Env) (q:Nat):Vt e q []=[]:=by rw [Vt,sU]
@[go_sem] theorem ae6 (e:Env) (q:Nat) (d:D) (l:List D):Vt e q (d :: l)=fz e q d :: Vt e q l:=by rw [Vt,sU];rfl
@[go_sem] theorem acN (q:Nat->Option Nat)  : D.jI q (.undef)=.undef:=by rw [D.jI.eq_def]
@[go_sem] theorem adU (q:Nat->Option Nat) (b:Bool):D.jI q (.bool b)=.bool b:=by rw [D.jI.eq_def]
@[go_sem] theorem ahb (q:Nat->Option Nat) (k:IntKind) (m:Int):D.jI q (.int k m)=.int k m:=by rw [D.jI.eq_def]
@[go_sem] theorem agI (q:Nat->Option Nat) (s:ByteArray):D.jI q (.str s)=.str s:=by rw [D.jI.eq_def]
@[go_sem] theorem ahM (q:Nat->Option Nat) (z:Nat) (rows:List (List D)):D.jI q (.sl z rows)=.sl z rows:=by rw [D.jI.eq_def]
@[go_sem] theorem ag0 (q:Nat->Option Nat) (z:Nat) (rows:List (List D)):D.jI q (.own z rows)=.own z rows:=by rw [D.jI.eq_def]
@[go_sem] theorem afP (q:Nat->Option Nat) (r:Nat):D.jI q (.ref r)=wY (q r) (.ref) .undef:=by rw [D.jI];cases q r<;>rfl
@[go_sem] theorem afX (q:Nat->Option Nat) (cs:List D):D.jI q (.agg cs)=.agg  (D.rJ q cs):=by rw [D.jI]
@[go_sem] theorem agn (q:Nat->Option Nat) (cs:List D):D.jI q (.bI cs)=.bI  (D.rJ q cs):=by rw [D.jI]
@[go_sem] theorem ahc (q:Nat->Option Nat) (cs:List D):D.jI q (.box cs)=.box  (D.rJ q cs):=by rw [D.jI]
@[go_sem] theorem ady (q:Nat->Option Nat):D.rJ q []=[]:=by rw [D.rJ]
@[go_sem] theorem abM (q:Nat->Option Nat) (d:D) (l:List D):D.rJ q (d :: l)=d.jI q :: D.rJ q l:=by rw [D.rJ]
@[go_sem ↓] theorem abT (i:Nat) (f:Nat->D) (d:D):wY (some i) f d=f i:=rfl
@[go_sem ↓] theorem aa4 (f:Nat->D) (d:D):wY none f d=d:=rfl
@[congr] theorem aah {i i':Option Nat} {f:Nat->D} {d:D} (h:True->i=i'):wY i f d=wY i' f d:=by rw [h trivial]
@[congr] theorem VT {b b':Bool} {d:D} (h:True->b=b'):cR b d=cR b' d:=by rw [h trivial]
@[go_sem ↓] theorem Xr (d:D):cR true d=.undef:=rfl
@[go_sem ↓] theorem Wc (d:D):cR false d=d:=rfl
@[go_sem] theorem ai5 (e:Env) (x:List Nat) (j:Nat) (k:IntKind) (m:Int):bo e x (j+1) (.int k m)=.int k m:=rfl
@[go_sem] theorem akH (e:Env) (x:List Nat) (j:Nat) (z:Nat) (rows:List (List D)):bo e x (j+1) (.sl z rows)=.sl z rows:=rfl
@[go_sem] theorem ajc (e:Env) (x:List Nat) (j:Nat) (r:Nat):bo e x (j+1) (.ref r)=cR (bm (x.contains r)) (uF (e.o r)):=rfl
@[go_sem] theorem agc (e:Env) (x:List Nat) (j:Nat) (r o:Nat):bo e x (j+1) (.addr r o)=cR (bm (x.contains r)) (nw (bo e x j) o (e.o r)):=rfl
@[go_sem] theorem ajO (e:Env) (x:List Nat) (j:Nat) (f:FuncId) (cs:List D):bo e x (j+1) (.fn f cs)=.fn f  (cs.map (bo e x j)):=rfl
@[go_sem] theorem agr (e:Env) (x:List Nat) (d:D):bo e x 0 d=mJ d:=rfl
def cv (e:Env) (bw:Bool) (gs:List Nat) (k:Nat) (d:D):D:=conv bw gs e.o k d
@[congr] theorem afl {e:Env} {bw:Bool} {gs:List Nat} {k:Nat} {d d':D} (h:True->d=d'):cv e bw gs k d=cv e bw gs k d':=by rw [h trivial]
@[go_sem] theorem agW (e:Env) (bw:Bool) (x:List Nat) (j:Nat) (b:Bool):cv e bw x (j+1) (.bool b)=.bool b:=rfl
@[go_sem] theorem ahI (e:Env) (bw:Bool) (x:List Nat) (j:Nat) (k:IntKind) (m:Int):cv e bw x (j+1) (.int k m)=.int k m:=rfl
@[go_sem] theorem aia (e:Env) (bw:Bool) (x:List Nat) (j:Nat) (s:ByteArray):cv e bw x (j+1) (.str s)=.str s:=rfl
@[go_sem] theorem aic (e:Env) (bw:Bool) (x:List Nat) (j:Nat)  : cv e bw x (j+1) (.nil)=.nil:=rfl
@[go_sem] theorem aj2 (e:Env) (bw:Bool) (x:List Nat) (j:Nat) (z:Nat) (rows:List (List D)):cv e bw x (j+1) (.sl z rows)=.sl z rows:=rfl
@[go_sem] theorem afi (e:Env) (bw:Bool) (x:List Nat) (j:Nat) (cs:List D):cv e bw x (j+1) (.bN cs)=.bN cs:=rfl
@[go_sem] theorem ahP (e:Env) (bw:Bool) (x:List Nat) (j:Nat) (r:Nat):cv e bw x (j+1) (.ref r)=wY (idx x r) (.ref) (cR (bm (!bw)) (bo e x j (dm (.ref r)))):=rfl
@[go_sem] theorem af7 (e:Env) (bw:Bool) (x:List Nat) (j:Nat) (r o:Nat):cv e bw x (j+1) (.addr r o)=wY (idx x r) (fun x=>.addr x o) (cR (bm (!bw)) (bo e x j (dm (.addr r o)))):=rfl
@[go_sem] theorem ajw (e:Env) (bw:Bool) (x:List Nat) (j:Nat) (f:FuncId) (cs:List D):cv e bw x (j+1) (.fn f cs)=.fn f  (cs.map (cv e bw x j)):=rfl
@[go_sem] theorem ahW (e:Env) (bw:Bool) (x:List Nat) (j:Nat) (cs:List D):cv e bw x (j+1) (.agg cs)=.agg  (cs.map (cv e bw x j)):=rfl
def cvO (e:Env) (bw:Bool) (gs:List Nat) (k:Nat) (d:D):D:=Fh bw gs e.o k d
@[congr] theorem abk {e:Env} {bw:Bool} {gs:List Nat} {k:Nat} {d d':D} (h:True->d=d'):cvO e bw gs k d=cvO e bw gs k d':=by rw [h trivial]
@[go_sem] theorem agv (e:Env) (bw:Bool) (x:List Nat) (j:Nat) (cs:List D):cvO e bw x j (.box cs)=.box (cs.map (cv e bw x j)):=rfl
@[go_sem] theorem af1 (e:Env) (bw:Bool) (x:List Nat) (j z:Nat) (rows:List (List D)):cvO e bw x j (.own z rows)=.own z rows:=rfl
mutual
/-- data that names no object -/
def Pl:D->Prop
 | .fn _ cs=>zq cs
 | .agg cs=>zq cs
 | .bI cs=>zq cs
 | .box _ | .own _ _ | .ref _ | .addr _ _ | .bT _ _ _ _ | .fC _ _ _ _ | .eO _ _ _ _ _=>False
 | _=>True
def zq:List D->Prop
 | []=>True
 | d :: l=>Pl d/\zq l
end
@[go_sem] theorem afR (b:Bool):Pl (.bool b)=True:=by rw [Pl.eq_def]
@[go_sem] theorem aiA (k:IntKind) (m:Int):Pl (.int k m)=True:=by rw [Pl.eq_def]
@[go_sem] theorem aiT (s:ByteArray):Pl (.str s)=True:=by rw [Pl.eq_def]
@[go_sem] theorem aiV:Pl (.nil)=True:=by rw [Pl.eq_def]
@[go_sem] theorem aeb:Pl (.eH)=True:=by rw [Pl.eq_def]
@[go_sem] theorem aj4 (z:Nat) (rows:List (List D)):Pl (.sl z rows)=True:=by rw [Pl.eq_def]
@[go_sem] theorem afr (cs:List D):Pl (.bN cs)=True:=by rw [Pl.eq_def]
@[go_sem] theorem aj5 (f:FuncId) (cs:List D):Pl (.fn f cs)=zq cs:=by rw [Pl]
@[go_sem] theorem aiN (cs:List D):Pl (.agg cs)=zq cs:=by rw [Pl]
@[go_sem] theorem aiY (cs:List D):Pl (.bI cs)=zq cs:=by rw [Pl]
@[go_sem] theorem afT:zq []=True:=by rw [zq]
@[go_sem] theorem adv (d:D) (l:List D):zq (d :: l)=(Pl d/\zq l):=by rw [zq]
theorem KO:∀ {l:List D},zq l->∀ d∈l,Pl d
 | [],_,d,h=>by cases h
 | x :: l,h,d,hd=>by
  rw [zq] at h;rcases List.mem_cons.1 hd with rfl | hd
  ·exact h.1
  ·exact KO h.2 d hd
mutual
theorem Pl.names:∀ (d:D),Pl d->d.names=[]
 | .fn _ cs,h=>by rw [Pl] at h;rw [D.names];exact zq.names cs h
 | .agg cs,h=>by rw [Pl] at h;rw [D.names];exact zq.names cs h
 | .bI cs,h=>by rw [Pl] at h;rw [D.names];exact zq.names cs h
 | .box _,h | .own _ _,h | .ref _,h | .addr _ _,h | .bT _ _ _ _,h | .fC _ _ _ _,h | .eO _ _ _ _ _,h=>by rw [Pl] at h;exact h.elim
 | .undef,_ | .bool _,_ | .int _ _,_ | .str _,_ | .nil,_ | .emp,_ | .jm,_ | .eH,_ | .fH,_ | .kU,_ | .sl _ _,_ | .bN _,_=>by rw [D.names.eq_def]
theorem zq.names:∀ (l:List D),zq l->D.cq l=[]
 | [],_=>by rw [D.cq]
 | d :: l,h=>by rw [zq] at h;rw [D.cq,Pl.names d h.1,zq.names l h.2];rfl
end
mutual
theorem Pl.jI (f:Nat->Option Nat):∀ (d:D),Pl d->d.jI f=d
 | .fn _ cs,h=>by rw [Pl] at h;rw [D.jI,zq.jI f cs h]
 | .agg cs,h=>by rw [Pl] at h;rw [D.jI,zq.jI f cs h]
 | .bI cs,h=>by rw [Pl] at h;rw [D.jI,zq.jI f cs h]
 | .box _,h | .own _ _,h | .ref _,h | .addr _ _,h | .bT _ _ _ _,h | .fC _ _ _ _,h | .eO _ _ _ _ _,h=>by rw [Pl] at h;exact h.elim
 | .undef,_ | .bool _,_ | .int _ _,_ | .str _,_ | .nil,_ | .emp,_ | .jm,_ | .eH,_ | .fH,_ | .kU,_ | .sl _ _,_ | .bN _,_=>by rw [D.jI.eq_def]
theorem zq.jI (f:Nat->Option Nat):∀ (l:List D),zq l->D.rJ f l=l
 | [],_=>by rw [D.rJ]
 | d :: l,h=>by rw [zq] at h;rw [D.rJ,Pl.jI f d h.1,zq.jI f l h.2]
end
theorem Pl.conv (bw:Bool) (gs:List Nat) (o:Nat->D):∀ (k:Nat) (d:D),Pl d->conv bw gs o k d=d
 | 0,d,h=>by simp [Go.Abs.conv,mJ,Pl.names d h]
 | k+1,d,h=>by
  have mp:∀ cs:List D,zq cs->cs.map (Go.Abs.conv bw gs o k)=cs:=by
   intro cs hc
   conv=>rhs;rw [<- List.map_id cs]
   exact List.map_congr_left fun d hd=>Pl.conv bw gs o k d (KO hc d hd)
  cases d<;>try rfl
  all_goals rw [Pl] at h
  all_goals first | exact h.elim | skip
  all_goals simp only [Go.Abs.conv];rw [mp _ h]
section
variable {P:Program} {e:Env} {dr:Bool} {K:Env->Prop} {d:Nat} {f:Operand} {args:List Operand}
theorem aa.pure {S:Prop} {k:FuncId} {caps ds:List D} {dv:D} (h:Spec P k [] ds [] dv) (hk:zq ds/\Pl dv/\K (dD e d dv)):aa P dr e d f args K S (.fn k caps) ds:=by
 rintro ⟨hf,has⟩
 refine .inl ?_;have has:ds=args.map (rd e)++caps:=by rw [has,<- hf];rfl
 obtain ⟨h1,h2,h3⟩:=hk;refine ⟨[],[],false,[],dv,fun _=>⟨rfl,rfl⟩,?_⟩
 show AN P e d args [] false [] dv (KW dr K) (rd e f)
 rw [<- hf];refine ⟨List.nodup_nil,by simp,by simp [lp],⟨Nat.le_refl _,by simp⟩,by simp,?_,?_⟩
 ·rw [<- has]
  have:ds.map (conv false [] e.o 4)=ds:=by
   conv=>rhs;rw [<- List.map_id ds]
   exact List.map_congr_left fun d hd=>Pl.conv false [] e.o 4 d (KO h1 d hd)
  rw [this];exact h
 ·have:eT e d [] [] dv=dD e d dv:=by
   unfold eT;rw [Pl.jI _ dv h2];rfl
  rw [this];exact .inl h3
def aU (P:Program) (e:Env) (d:Nat) (f:Operand) (args:List Operand) (K:Env->Prop) (gs:List Nat) (bw:Bool) (fv:D) (ds hs:List D):Prop:=
 fv=cv e bw gs 5 (rd e f)->ds=args.map (fun x=>cv e bw gs 4 (rd e x))++CI (cv e bw gs 5 (rd e f))->hs=gs.map (fun r=>cvO e bw gs 4 (e.o r))->∃ hs' dv,AN P e d args gs bw hs' dv K (rd e f)
@[congr] theorem Yu {gs:List Nat} {bw:Bool} {fv fv':D} {ds ds' hs hs':List D} (h1:True->fv=fv') (h2:True->ds=ds') (h3:True->hs=hs'):aU P e d f args K gs bw fv ds hs=aU P e d f args K gs bw fv' ds' hs':=by rw [h1 trivial,h2 trivial,h3 trivial]
theorem aa.gen (fz gs:List Nat) (bw:Bool) {S:Prop} {fv:D} {as:List D} (hdr:dr=true->fz=[]/\gs=[]) (h:aU P (fM fz e) d f args K gs bw (cv (fM fz e) bw gs 5 (rd (fM fz e) f)) (args.map (fun x=>cv (fM fz e) bw gs 4 (rd (fM fz e) x))++CI (cv (fM fz e) bw gs 5 (rd (fM fz e) f))) (gs.map (fun r=>cvO (fM fz e) bw gs 4 ((fM fz e).o r)))) :
  aa P dr e d f args K S fv as:=by
 intro _;obtain ⟨hs',dv,h⟩:=h rfl rfl rfl;exact .inl ⟨fz,gs,bw,hs',dv,hdr,yl (fun _=>.inl) h⟩
def yq (r:Nat):List Nat->Prop
 | []=>True
 | x :: l=>r≠x/\yq r l
def B2:List Nat->Prop
 | []=>True
 | x :: l=>yq x l/\B2 l
@[go_sem] theorem ZP (r:Nat):yq r []=True:=rfl
@[go_sem] theorem Ye (r x:Nat) (l:List Nat):yq r (x :: l)=(r≠x/\yq r l):=rfl
@[go_sem] theorem Zq:B2 []=True:=rfl
@[go_sem] theorem XZ (x:Nat) (l:List Nat):B2 (x :: l)=(yq x l/\B2 l):=rfl
theorem Ei {r:Nat}:∀ {l:List Nat},yq r l->r ∉ l
 | [],_,h=>by cases h
 | x :: l,⟨h1,h2⟩,h=>by
  rcases List.mem_cons.1 h with rfl | h
  ·exact h1 rfl
  ·exact Ei h2 h
theorem EH:∀ {l:List Nat},B2 l->l.Nodup
 | [],_=>List.nodup_nil
 | x :: l,⟨h1,h2⟩=>List.nodup_cons.2 ⟨Ei h1,EH h2⟩
def PZ (d:D):Prop:=cZ d=false
def Rm (e:Env):List Nat->Prop
 | []=>True
 | r :: rs=>PZ (e.o r)/\Rm e rs
def Ml (e:Env):List Nat->Prop
 | []=>True
 | r :: rs=>WN (e.o r)/\Ml e rs
@[go_sem ↓] theorem aeu:Rm e []=True:=rfl
@[go_sem ↓] theorem adf (r:Nat) (rs:List Nat):Rm e (r :: rs)=(PZ (e.o r)/\Rm e rs):=rfl
@[go_sem ↓] theorem adZ:Ml e []=True:=rfl
@[go_sem ↓] theorem adm (r:Nat) (rs:List Nat):Ml e (r :: rs)=(WN (e.o r)/\Ml e rs):=rfl
@[congr] theorem Zf {l l':List Nat} (h:True->l=l'):Ml e l=Ml e l':=by rw [h trivial]
@[go_sem] theorem ah8 (d:D):PZ d=(cZ d=false):=rfl
theorem Mb:∀ {rs:List Nat},Rm e rs->∀ r∈rs,e.o r≠.undef
 | [],_,r,h=>by cases h
 | x :: rs,⟨h1,h2⟩,r,h=>by
  rcases List.mem_cons.1 h with rfl | h
  ·intro h0;unfold PZ at h1;rw [h0] at h1;exact Bool.noConfusion h1
  ·exact Mb h2 r h
theorem NL:∀ {rs:List Nat},Ml e rs->∀ r∈rs,e.o r=.undef
 | [],_,r,h=>by cases h
 | x :: rs,⟨h1,h2⟩,r,h=>by
  rcases List.mem_cons.1 h with rfl | h
  ·exact h1
  ·exact NL h2 r h
def ZS:List (Nat × D)->Env->Env
 | [],e=>e
 | x :: l,e=>ZS l (eG e x.1 x.2)
def Pc (f:Nat->Option Nat):List Nat->List D->List (Nat × D)
 | r :: rs,h :: hs=>(r,h.jI f) :: Pc f rs hs
 | _,_=>[]
theorem IU (f:Nat->Option Nat):∀ (ns:List Nat) (hs:List D) (e:Env),EI f ns hs e=ZS (Pc f ns hs) e
 | [],_,_=>rfl
 | _ :: _,[],_=>rfl
 | r :: rs,h :: hs,e=>IU f rs hs (eG e r (h.jI f))
def Vo (e:Env) (d:Nat) (K:Env->Prop) (dl:List Nat) (obs:List (Nat × D)) (dv:D):Prop:=K (dD (ZS obs (x9 dl e)) d dv)
@[congr] theorem abh {dl dl':List Nat} {obs obs':List (Nat × D)} {dv dv':D} (h1:True->dl=dl') (h2:True->obs=obs') (h3:True->dv=dv'):Vo e d K dl obs dv=Vo e d K dl' obs' dv':=by rw [h1 trivial,h2 trivial,h3 trivial]
@[go_sem] theorem adT (r:Nat) (dl:List Nat) (obs:List (Nat × D)) (dv:D):Vo e d K (r :: dl) obs dv=Vo (kj r e) d K dl obs dv:=rfl
@[go_sem] theorem agt (x:Nat × D) (obs:List (Nat × D)) (dv:D):Vo e d K [] (x :: obs) dv=Vo (eG e x.1 x.2) d K [] obs dv:=rfl
@[go_sem] theorem ahq (dv:D):Vo e d K [] [] dv=K (dD e d dv):=rfl
def PsN (e:Env) (d:Nat) (K:Env->Prop) (gs:List Nat) (hs':List D) (dv:D) (ns:List Nat):Prop:=Vo e d K (ku gs hs') (Pc (N0 ns) ns hs') (dv.jI (N0 ns))
@[congr] theorem ac8 {gs:List Nat} {hs':List D} {dv:D} {ns ns':List Nat} (h1:True->ns=ns'):PsN e d K gs hs' dv ns=PsN e d K gs hs' dv ns':=by rw [h1 trivial]
@[go_sem] theorem aiP (gs:List Nat) (hs':List D) (dv:D) (ns:List Nat):PsN e d K gs hs' dv ns=Vo e d K (lm (ku gs hs')) (Pc (N0 ns) ns hs') (dv.jI (N0 ns)):=rfl
theorem aU.intro {gs:List Nat} {bw:Bool} {k:FuncId} {caps ds hs hs':List D} {dv:D} (h:Spec P k hs ds hs' dv)
  (hk:B2 gs/\Rm e gs/\Ml e (lm (lp d 0 (hs'.length-gs.length)))/\gs.length<=hs'.length/\hs'.length<=gs.length+16/\(bw=true->vT dv/\∀ h∈hs',Eb h)/\PsN e d K gs hs' dv (lm (gh d gs hs'))) :
  aU P e d f args K gs bw (.fn k caps) ds hs:=by
 intro h1 h2 h3;obtain ⟨k1,k2,k3,k4,k5,k6,k7⟩:=hk;refine ⟨hs',dv,?_⟩;rw [<- h1] at h2;cases hfv:rd e f
 case fn k0 caps0 =>
  rw [hfv] at h1;simp only [cv,conv,D.fn.injEq] at h1;obtain ⟨rfl,rfl⟩:=h1;refine ⟨EH k1,Mb k2,NL k3,⟨k4,k5⟩,k6,?_,?_⟩
  ·subst h2;subst h3;rw [List.map_append,List.map_map];exact h
  ·unfold PsN Vo at k7;unfold eT;rw [IU];exact k7
 all_goals rw [hfv] at h1;simp only [cv,conv] at h1
 all_goals exfalso
 all_goals first
  | cases h1
  | (rename_i r;cases hi:idx gs r<;>rw [hi] at h1<;>cases bw<;>simp only [wY,cR,qJ,Bool.not_false,Bool.not_true,if_true,Bool.false_eq_true,if_false] at h1<;>first | cases h1 | (split at h1<;>first | cases h1 | (unfold uF at h1;split at h1<;>cases h1)))
  | (rename_i r _;cases hi:idx gs r<;>rw [hi] at h1<;>cases bw<;>simp only [wY,cR,qJ,Bool.not_false,Bool.not_true,if_true,Bool.false_eq_true,if_false] at h1<;>first | cases h1 | (split at h1<;>first | cases h1 | (unfold nw at h1;split at h1<;>cases h1)))
  | (rename_i r _ _ _;cases hi:idx gs r<;>rw [hi] at h1<;>cases bw<;>simp only [wY,cR,qJ,Bool.not_false,Bool.not_true,if_true,Bool.false_eq_true,if_false] at h1<;>first | cases h1 | (split at h1<;>first | cases h1 | (unfold AW at h1;split at h1<;>(try split at h1)<;>cases h1) | (unfold sw at h1;split at h1<;>(try split at h1)<;>cases h1) | (unfold zT at h1;split at h1<;>(try split at h1)<;>cases h1)))
  | (rename_i r _ _ _ _;cases hi:idx gs r<;>rw [hi] at h1<;>cases bw<;>simp only [wY,cR,qJ,Bool.not_false,Bool.not_true,if_true,Bool.false_eq_true,if_false] at h1<;>first | cases h1 | (split at h1<;>first | cases h1 | (unfold AW at h1;split at h1<;>(try split at h1)<;>cases h1) | (unfold sw at h1;split at h1<;>(try split at h1)<;>cases h1) | (unfold zT at h1;split at h1<;>(try split at h1)<;>cases h1)))
end
@[go_sem] theorem aeL (f:Nat->Option Nat) (hs:List D):Pc f [] hs=[]:=rfl
@[go_sem] theorem abH (f:Nat->Option Nat) (r:Nat) (rs:List Nat) (h:D) (hs:List D):Pc f (r :: rs) (h :: hs)=(r,h.jI f) :: Pc f rs hs:=rfl
@[go_sem] theorem ahT (ns:List Nat) (i:Nat):N0 ns i=ns[i]?:=rfl
@[go_sem] theorem adk (hs:List D):ku [] hs=[]:=rfl
@[go_sem] theorem ZO (g:Nat) (gs:List Nat) (h:D) (hs:List D):ku (g :: gs) (h :: hs)=if cZ h then g :: ku gs hs else ku gs hs:=rfl
@[go_sem] theorem ads (d:Nat) (gs:List Nat) (hs':List D):gh d gs hs'=gs++lp d 0 (hs'.length-gs.length):=rfl
@[go_sem] theorem aai (d k:Nat):lp d k 0=[]:=rfl
@[go_sem] theorem aaP (d k m:Nat):lp d k (m+1)=nm d k :: lp d (k+1) m:=rfl
@[go_sem] theorem ahw (r:Nat):idx [] r=none:=rfl
@[go_sem] theorem afx (g:Nat) (gs:List Nat) (r:Nat):idx (g :: gs) r=if g=r then some 0 else (idx gs r).map (· + 1):=rfl
@[go_sem ↓] theorem abP (e:Env):fM [] e=e:=rfl
@[go_sem ↓] theorem YY (r:Nat) (rs:List Nat) (e:Env):fM (r :: rs) e=fM rs (BK r e):=rfl
@[go_sem ↓] theorem aiK (e:Env) (r j:Nat):(BK r e).t j=fz e r (e.t j):=Eq.trans rfl rfl
@[go_sem ↓] theorem aim (e:Env) (r j:Nat):(BK r e).o j=if j=r then .undef else fz e r (e.o j):=Eq.trans rfl rfl
attribute [go_sem] or_false false_or
@[go_sem] theorem abO (z:Nat) (rows:List (List D)):uF (.own z rows)=.sl z rows:=rfl
@[go_sem] theorem ZL (f:D->D) (o:Nat) (cs:List D):nw f o (.box cs)=.bN ((cs.drop o).map f):=rfl
attribute [go_sem] vT sy nY Eb Jt
attribute [go_sem] mJ List.isEmpty_nil List.isEmpty_cons
@[go_sem] theorem Vu:cZ (.undef)=true:=rfl
@[go_sem] theorem Ym (z:Nat) (rows:List (List D)):cZ (.own z rows)=false:=rfl
@[go_sem] theorem Xp (cs:List D):cZ (.box cs)=false:=rfl
@[congr] theorem acd {rh:Nat->Option Nat} {lv:Nat->Bool} {d d' u u':D} (h:True->d=d') (h2:True->u=u'):jG rh lv d u=jG rh lv d' u':=by rw [h trivial,h2 trivial]
@[go_sem] theorem afd (rh:Nat->Option Nat) (lv:Nat->Bool) (a b:Bool):jG rh lv (.bool a) (.bool b)=(a=b):=by simp [jG]
@[go_sem] theorem agV (rh:Nat->Option Nat) (lv:Nat->Bool) (k k':IntKind) (a b:Int):jG rh lv (.int k a) (.int k' b)=(k=k'/\a=b):=by simp [jG]
@[go_sem] theorem ahD (rh:Nat->Option Nat) (lv:Nat->Bool) (a b:ByteArray):jG rh lv (.str a) (.str b)=(a=b):=by simp [jG]
@[go_sem] theorem aje (rh:Nat->Option Nat) (lv:Nat->Bool) (z z':Nat) (a b:List (List D)):jG rh lv (.sl z a) (.sl z' b)=(z=z'/\a=b):=by simp [jG]
@[go_sem] theorem acH (rh:Nat->Option Nat) (lv:Nat->Bool) (a b:List D):jG rh lv (.bN a) (.bN b)=(a=b):=by simp [jG]
@[go_sem] theorem ahG (rh:Nat->Option Nat) (lv:Nat->Bool)  : jG rh lv (.nil) (.nil)=True:=by simp [jG]
@[go_sem] theorem acQ (rh:Nat->Option Nat) (lv:Nat->Bool) (z:Nat) (a:List (List D)):jG rh lv (.nil) (.sl z a)=(a=[]):=by simp [jG]
@[go_sem] theorem YQ (rh:Nat->Option Nat) (lv:Nat->Bool) (s:Nat):jG rh lv (.nil) (.ref s)=(rh s=none/\lv s=true):=by simp [jG]
@[go_sem] theorem ahx (rh:Nat->Option Nat) (lv:Nat->Bool) (r s:Nat):jG rh lv (.ref r) (.ref s)=(rh s=some r/\lv s=true):=by simp [jG]
@[go_sem] theorem adS (rh:Nat->Option Nat) (lv:Nat->Bool) (r s a b:Nat):jG rh lv (.addr r a) (.addr s b)=(rh s=some r/\lv s=true/\a=b):=by simp [jG]
@[go_sem] theorem af' (rh:Nat->Option Nat) (lv:Nat->Bool) (a b:List D):jG rh lv (.agg a) (.agg b)=mW rh lv a b:=by simp [jG]
@[go_sem] theorem ago (rh:Nat->Option Nat) (lv:Nat->Bool) (a b:List D):jG rh lv (.bI a) (.bI b)=mW rh lv a b:=by simp [jG]
@[go_sem] theorem aja (rh:Nat->Option Nat) (lv:Nat->Bool) (f f':FuncId) (a b:List D):jG rh lv (.fn f a) (.fn f' b)=(f=f'/\mW rh lv a b):=by simp [jG]
@[go_sem] theorem afo (rh:Nat->Option Nat) (lv:Nat->Bool)  : mW rh lv [] []=True:=by simp [mW]
@[go_sem] theorem acs (rh:Nat->Option Nat) (lv:Nat->Bool) (a b:D) (x y:List D):mW rh lv (a :: x) (b :: y)=(jG rh lv a b/\mW rh lv x y):=by simp [mW]
@[congr] theorem Zx {rh:Nat->Option Nat} {lv:Nat->Bool} {d d' u u':List D} (h:True->d=d') (h2:True->u=u'):mW rh lv d u=mW rh lv d' u':=by rw [h trivial,h2 trivial]
@[congr] theorem acn {rh:Nat->Option Nat} {lv:Nat->Bool} {d d' u u':D} (h:True->d=d') (h2:True->u=u'):Q2 rh lv d u=Q2 rh lv d' u':=by rw [h trivial,h2 trivial]
@[go_sem] theorem af6 (rh:Nat->Option Nat) (lv:Nat->Bool) (a b:List D):Q2 rh lv (.box a) (.box b)=mW rh lv a b:=by simp [Q2]
@[go_sem] theorem agx (rh:Nat->Option Nat) (lv:Nat->Bool) (z z':Nat) (a b:List (List D)):Q2 rh lv (.own z a) (.own z' b)=(z=z'/\a=b):=by simp [Q2]
@[go_sem ↓] theorem afB (b:Bool) (x:D):jK (.bool b) x=[]:=by cases x<;>simp [jK]
@[go_sem ↓] theorem agU (k:IntKind) (m:Int) (x:D):jK (.int k m) x=[]:=by cases x<;>simp [jK]
@[go_sem ↓] theorem ahs (s:ByteArray) (x:D):jK (.str s) x=[]:=by cases x<;>simp [jK]
@[go_sem ↓] theorem agi  (x:D):jK (.nil) x=[]:=by cases x<;>simp [jK]
@[go_sem ↓] theorem aie (z:Nat) (rows:List (List D)) (x:D):jK (.sl z rows) x=[]:=by cases x<;>simp [jK]
@[go_sem ↓] theorem acU (cs:List D) (x:D):jK (.bN cs) x=[]:=by cases x<;>simp [jK]
@[go_sem ↓] theorem agl (z:Nat) (rows:List (List D)) (x:D):jK (.own z rows) x=[]:=by cases x<;>simp [jK]
@[go_sem] theorem agf (s r:Nat):jK (.ref s) (.ref r)=[(s,some r)]:=by simp [jK]
@[go_sem] theorem Zl (s:Nat):jK (.ref s) .nil=[(s,none)]:=by simp [jK]
@[go_sem] theorem aeR (s r a b:Nat):jK (.addr s a) (.addr r b)=[(s,some r)]:=by simp [jK]
@[go_sem] theorem ahu (a b:List D):jK (.agg a) (.agg b)=Ab a b:=by simp [jK]
@[go_sem] theorem age (a b:List D):jK (.bI a) (.bI b)=Ab a b:=by simp [jK]
@[go_sem] theorem ahm (a b:List D):jK (.box a) (.box b)=Ab a b:=by simp [jK]
@[go_sem] theorem aiu (f f':FuncId) (a b:List D):jK (.fn f a) (.fn f' b)=Ab a b:=by simp [jK]
@[go_sem] theorem aeh (x:List D):Ab [] x=[]:=by simp [Ab]
@[go_sem] theorem ac0 (a b:D) (x y:List D):Ab (a :: x) (b :: y)=jK a b++Ab x y:=by simp [Ab]
section
variable {P:Program} {e:Env}
@[go_sem ↓] theorem afk:OB e []=[]:=rfl
@[go_sem ↓] theorem abK (i:Nat) (d:D) (r:EL):OB e ((i,d) :: r)=jK (dm d) (e.t i)++OB e r:=rfl
@[go_sem ↓] theorem ad7 (l:List (Nat × Option Nat)):R5 e l []=[]:=rfl
@[go_sem ↓] theorem abC (l:List (Nat × Option Nat)) (i:Nat) (d:D) (r:EL):R5 e l ((i,d) :: r)=jK (dm d) (oAt e (iX l i))++R5 e l r:=rfl
@[congr] theorem ac3 {o o':Option Nat} (h:True->o=o'):oAt e o=oAt e o':=by rw [h trivial]
@[go_sem] theorem afu (r:Nat):oAt e (some r)=e.o r:=rfl
@[go_sem] theorem adt:oAt e none=.undef:=rfl
@[go_sem] theorem agR (s:Nat):iX [] s=some s:=rfl
@[go_sem] theorem afh (i:Nat) (o:Option Nat) (r:List (Nat × Option Nat)) (s:Nat):iX ((i,o) :: r) s=if s=i then o else iX r s:=rfl
@[go_sem] theorem ag4 (s:Nat):NX [] s=false:=rfl
@[go_sem] theorem ae' (i:Nat) (d:D) (r:EL) (s:Nat):NX ((i,d) :: r) s=if s=i then true else NX r s:=rfl
@[congr] theorem abG {m:Nat} {ts os:EL} {l l':List (Nat × Option Nat)} (h:True->l=l'):Zw m e ts os l=Zw m e ts os l':=by rw [h trivial]
@[congr] theorem ab' {m:Nat} {ts os:EL} {l l':List (Nat × Option Nat)} (h:True->l=l'):LeR m e ts os l=LeR m e ts os l':=by rw [h trivial]
@[go_sem ↓] theorem aiF (ts os:EL):PG e ts os=Zw 16 e ts os (lm (OB e ts)):=rfl
@[go_sem ↓] theorem ai4 (m:Nat) (ts os:EL):Th m e ts os=Zw m e ts os (lm (OB e ts)):=rfl
@[go_sem] theorem ai3 (m:Nat) (ts os:EL) (l:List (Nat × Option Nat)):Zw m e ts os l=LeR m e ts os (lm (l++R5 e l os)):=rfl
@[go_sem] theorem aiq (m:Nat) (ts os:EL) (l:List (Nat × Option Nat)):LeR m e ts os l=(Rl e (iX l) os ts/\HQ m e (iX l) os os):=rfl
@[go_sem ↓] theorem afG (rh:Nat->Option Nat) (os:EL):Rl e rh os []=True:=rfl
@[go_sem ↓] theorem adg (rh:Nat->Option Nat) (os:EL) (i:Nat) (d:D) (r:EL):Rl e rh os ((i,d) :: r)=(jG rh (NX os) (dm (e.t i)) d/\Rl e rh os r):=rfl
@[congr] theorem aaz {rh:Nat->Option Nat} {os:EL} {d:D} {o o':Option Nat} (h:True->o=o'):KG e rh os d o=KG e rh os d o':=by rw [h trivial]
@[go_sem] theorem abp (rh:Nat->Option Nat) (os:EL) (d:D) (r:Nat):KG e rh os d (some r)=Q2 rh (NX os) (dm (e.o r)) d:=rfl
@[go_sem] theorem acL (rh:Nat->Option Nat) (os:EL) (d:D):KG e rh os d none=GB d:=rfl
@[go_sem] theorem Zd (z:Nat) (rows:List (List D)):GB (.own z rows)=(rows=[]):=rfl
@[go_sem] theorem Xi (o:Option Nat) (rh:Nat->Option Nat):iH o rh []=True:=rfl
@[go_sem] theorem Vk (rh:Nat->Option Nat) (x:Nat × D) (r:EL):iH none rh (x :: r)=iH none rh r:=by simp [iH]
@[go_sem] theorem Vp (a:Nat) (rh:Nat->Option Nat) (i:Nat) (d:D) (r:EL):iH (some a) rh ((i,d) :: r)=(rh i≠some a/\iH (some a) rh r):=rfl
@[congr] theorem US {o o':Option Nat} {rh:Nat->Option Nat} {os:EL} (h:True->o=o'):iH o rh os=iH o' rh os:=by rw [h trivial]
@[go_sem] theorem aay (m s r:Nat):I4 m s (some r)=(m<=s\/r=s):=by simp [I4]
@[go_sem] theorem aaQ (m s:Nat):I4 m s none=(m<=s):=by simp [I4]
@[go_sem ↓] theorem ael (m:Nat) (rh:Nat->Option Nat) (os:EL):HQ m e rh os []=True:=rfl
@[go_sem ↓] theorem abA (m:Nat) (rh:Nat->Option Nat) (os:EL) (i:Nat) (d:D) (r:EL):HQ m e rh os ((i,d) :: r)=(NX r i=false/\KG e rh os d (rh i)/\iH (rh i) rh r/\I4 m i (rh i)/\HQ m e rh os r):=rfl
attribute [go_sem] Nat.zero_le Option.some.injEq Bool.true_eq_false Bool.false_eq_true ne_eq not_false_eq_true
def rtK (m:Nat) (hs':List D) (d:D) (e:Env) (v:D):Prop:=Th m (yV v e) (lm [(0,d)]) (so 0 hs')
def QO (m:Nat) (e:Env) (ts os:EL):Prop:=Th m e ts os
@[go_sem ↓] theorem aiJ (m:Nat) (hs':List D) (d v:D):rtK m hs' d e v=QO (nk m) (yV v e) [(0,d)] (lm (so 0 hs')):=rfl
@[congr] theorem Xq {m m':Nat} {ts os os':EL} (h1:True->m=m') (h:True->os=os'):QO m e ts os=QO m' e ts os':=by rw [h1 trivial,h trivial]
@[go_sem] theorem adR (m:Nat) (ts os:EL):QO m e ts os=Th m e ts os:=rfl
@[go_sem ↓] theorem agM (rs:List ResultVar) (m:Nat) (hs':List D) (d:D):Tg P rs m hs' d e=(yc P e rs/\Norm (dm (KY P e rs)) (rtK m hs' d e)):=rfl
@[go_sem ↓] theorem aeA (v:D) (j:Nat):(yV v e).t j=if j=0 then v else .undef:=Eq.trans rfl rfl
@[go_sem ↓] theorem aeU (v:D) (j:Nat):(yV v e).o j=e.o j:=Eq.trans rfl rfl
@[go_sem ↓] theorem Zr:yc P e []=True:=rfl
@[go_sem ↓] theorem Xw (r:ResultVar) (rs:List ResultVar):yc P e (r :: rs)=(He P e r/\yc P e rs):=rfl
@[go_sem ↓] theorem acj (t:Nat):He P e (.tmp t)=True:=rfl
@[go_sem ↓] theorem Za (a:Nat) (t:TypeId):He P e (.cell a t)=Df e (bX P t) (e.t a):=by simp only [He,Df];rfl
@[go_sem ↓] theorem adB (t:Nat):Fk P e (.tmp t)=e.t t:=rfl
@[go_sem ↓] theorem acA (a:Nat) (t:TypeId):Fk P e (.cell a t)=Ya e (bX P t) (e.t a):=by simp only [Fk,Ya];rfl
@[go_sem ↓] theorem afH (r:ResultVar):KY P e [r]=Fk P e r:=rfl
@[go_sem ↓] theorem adH (a b:ResultVar) (l:List ResultVar):KY P e (a :: b :: l)=.bI ((a :: b :: l).map (Fk P e)):=rfl
end
@[go_sem] theorem aeN (op:BinOp) (k k':IntKind) (a b:Int):Cf op (.int k a) (.int k' b)=Lh op k a b:=rfl
@[go_sem] theorem ae7 (op:BinOp) (a b:ByteArray):Cf op (.str a) (.str b)=sop op a b:=rfl
@[go_sem] theorem aa' (op:BinOp) (a b:Bool):Cf op (.bool a) (.bool b)=Mp op (a==b):=rfl
@[go_sem] theorem afD (op:BinOp) (a b:List D):Cf op (.agg a) (.agg b)=Mp op (cj a b):=rfl
@[go_sem] theorem ahi (op:BinOp):Cf op .eH .eH=Mp op true:=rfl
@[go_sem] theorem ag2 (b:Bool):Mp .eql b=.bool b:=rfl
@[go_sem] theorem agm (b:Bool):Mp .neq b=.bool (!b):=rfl
@[go_sem] theorem Vz (a b:D) (x y:List D):cj (a :: x) (b :: y)=(ue a b&&cj x y):=rfl
@[go_sem] theorem Yf (y:List D):cj [] y=true:=by simp [cj]
@[go_sem] theorem Zm (k k':IntKind) (a b:Int):ue (.int k a) (.int k' b)=(a==b):=rfl
@[go_sem] theorem X1 (a b:Bool):ue (.bool a) (.bool b)=(a==b):=rfl
section
variable {P:Program}
@[go_sem] theorem abY (c:Bool) (op:BinOp) (t:TypeId) (k k':IntKind) (a b:Int):uI P c op t (.int k a) (.int k' b)=lV op k k' b:=rfl
@[go_sem] theorem ac6 (c:Bool) (op:BinOp) (t:TypeId) (a b:ByteArray):uI P c op t (.str a) (.str b)=Jd op a b:=rfl
@[go_sem] theorem YU (c:Bool) (op:BinOp) (t:TypeId) (a b:Bool):uI P c op t (.bool a) (.bool b)=(isEq op/\bR P t=.bool):=rfl
@[go_sem] theorem abu (c:Bool) (op:BinOp) (t:TypeId) (a b:List D):uI P c op t (.agg a) (.agg b)=(isEq op/\og P t=true/\qK (gy P 9 t) a b):=rfl
@[go_sem] theorem aee (c:Bool) (op:BinOp) (t:TypeId):uI P c op t .eH .eH=(isEq op/\isIface P t=true/\c=true):=rfl
end
@[go_sem] theorem afn:isEq .eql=True:=by simp [isEq]
@[go_sem] theorem adz:isEq .neq=True:=by simp [isEq]
attribute [go_sem] isConst
@[go_sem] theorem UC (ls:List qp) (a b:List D):qK (some ls) a b=dJ ls a b:=rfl
@[go_sem] theorem WJ:dJ [] [] []=True:=rfl
@[go_sem] theorem Vn (l:qp) (ls:List qp) (a b:D) (x y:List D):dJ (l :: ls) (a :: x) (b :: y)=(Ff l a b/\dJ ls x y):=rfl
@[go_sem] theorem Y4 (k k':IntKind) (a b:Int):Ff .int (.int k a) (.int k' b)=(k=k'):=rfl
@[go_sem] theorem Yl (a b:Bool):Ff .bool (.bool a) (.bool b)=True:=rfl
@[go_sem] theorem agb (k:IntKind) (a b:Int):Lh .add k a b=.int k (k.wrap (a+b)):=rfl
@[go_sem] theorem afQ (k:IntKind) (a b:Int):Lh .sub k a b=.int k (k.wrap (a-b)):=rfl
@[go_sem] theorem ahB (k:IntKind) (a b:Int):Lh .mul k a b=.int k (k.wrap (a*b)):=rfl
@[go_sem] theorem ag' (k:IntKind) (a b:Int):Lh .quo k a b=.int k (k.wrap (a.tdiv b)):=rfl
@[go_sem] theorem agC (k:IntKind) (a b:Int):Lh .rem k a b=.int k (a.tmod b):=rfl
@[go_sem] theorem agh (k:IntKind) (a b:Int):Lh .eql k a b=.bool (a==b):=rfl
@[go_sem] theorem agy (k:IntKind) (a b:Int):Lh .neq k a b=.bool (a != b):=rfl
@[go_sem] theorem agS (k:IntKind) (a b:Int):Lh .lss k a b=.bool (decide (a < b)):=rfl
@[go_sem] theorem agH (k:IntKind) (a b:Int):Lh .leq k a b=.bool (decide (a<=b)):=rfl
@[go_sem] theorem ag1 (k:IntKind) (a b:Int):Lh .gtr k a b=.bool (decide (b < a)):=rfl
@[go_sem] theorem agd (k:IntKind) (a b:Int):Lh .geq k a b=.bool (decide (b<=a)):=rfl
def DJ (k:IntKind) (a b:Int):Int:=k.wrap (a*2 ^ (min b.toNat k.bits))
def BP (k:IntKind) (a b:Int):Int:=a.fdiv (2 ^ (min b.toNat k.bits))
def aar (k:IntKind) (a b:Int):Int:=k.wrap (BitVec.ofInt k.bits a &&& BitVec.ofInt k.bits b).toNat
def ior (k:IntKind) (a b:Int):Int:=k.wrap (BitVec.ofInt k.bits a ||| BitVec.ofInt k.bits b).toNat
def Wb (k:IntKind) (n:Int):Int:=k.wrap (BitVec.ofInt k.bits (if k.signed then -1 else k.max) ^^^ BitVec.ofInt k.bits n).toNat
@[go_sem] theorem afW (k:IntKind) (a b:Int):Lh .shl k a b=.int k (DJ k a b):=rfl
@[go_sem] theorem ahz (k:IntKind) (a b:Int):Lh .shr k a b=.int k (BP k a b):=rfl
@[go_sem] theorem ahl (k:IntKind) (a b:Int):Lh .and k a b=.int k (aar k a b):=rfl
@[go_sem] theorem ahQ (k:IntKind) (a b:Int):Lh .or k a b=.int k (ior k a b):=rfl
@[go_sem] theorem acE (k k':IntKind) (b:Int):lV .add k k' b=(k=k'):=rfl
@[go_sem] theorem acM (k k':IntKind) (b:Int):lV .sub k k' b=(k=k'):=rfl
@[go_sem] theorem adp (k k':IntKind) (b:Int):lV .mul k k' b=(k=k'):=rfl
@[go_sem] theorem abl (k k':IntKind) (b:Int):lV .quo k k' b=(k=k'/\b≠0):=rfl
@[go_sem] theorem abB (k k':IntKind) (b:Int):lV .rem k k' b=(k=k'/\b≠0):=rfl
@[go_sem] theorem acu (k k':IntKind) (b:Int):lV .eql k k' b=(k=k'):=rfl
@[go_sem] theorem adi (k k':IntKind) (b:Int):lV .neq k k' b=(k=k'):=rfl
@[go_sem] theorem ab0 (k k':IntKind) (b:Int):lV .lss k k' b=(k=k'):=rfl
@[go_sem] theorem abE (k k':IntKind) (b:Int):lV .leq k k' b=(k=k'):=rfl
@[go_sem] theorem aco (k k':IntKind) (b:Int):lV .gtr k k' b=(k=k'):=rfl
@[go_sem] theorem abI (k k':IntKind) (b:Int):lV .geq k k' b=(k=k'):=rfl
@[go_sem] theorem abR (k k':IntKind) (b:Int):lV .and k k' b=(k=k'):=rfl
@[go_sem] theorem afC (k k':IntKind) (b:Int):lV .or k k' b=(k=k'):=rfl
@[go_sem] theorem ack (k k':IntKind) (b:Int):lV .shl k k' b=(0<=b):=rfl
@[go_sem] theorem abJ (k k':IntKind) (b:Int):lV .shr k k' b=(0<=b):=rfl
@[go_sem] theorem agE (a b:ByteArray):sop .add a b=.str (a++b):=rfl
@[go_sem] theorem ag8 (a b:ByteArray):sop .eql a b=.bool (a.toList==b.toList):=rfl
@[go_sem] theorem ahn (a b:ByteArray):sop .neq a b=.bool (!(a.toList==b.toList)):=rfl
@[go_sem] theorem abc (a b:ByteArray):Jd .add a b=(a.size+b.size<=2 ^ 62):=rfl
@[go_sem] theorem adh (a b:ByteArray):Jd .eql a b=True:=rfl
@[go_sem] theorem abq (a b:ByteArray):Jd .neq a b=True:=rfl
@[go_sem] theorem ab6 (b:Bool):Dc .not (.bool b)=.bool (!b):=rfl
@[go_sem] theorem acS (k:IntKind) (n:Int):Dc .neg (.int k n)=.int k (k.wrap (0-n)):=rfl
@[go_sem] theorem abQ (k:IntKind) (n:Int):Dc .xor (.int k n)=.int k (Wb k n):=rfl
@[go_sem] theorem Zj (b:Bool):qz .not (.bool b)=True:=by simp [qz]
@[go_sem] theorem ZY (k:IntKind) (n:Int):qz .neg (.int k n)=True:=by simp [qz]
@[go_sem] theorem Z4 (k:IntKind) (n:Int):qz .xor (.int k n)=True:=by simp [qz]
@[go_sem] theorem abD (s:Ty) (k k':IntKind) (n:Int):Is s (.int k) (.int k' n)=.int k (k.wrap n):=rfl
@[go_sem] theorem Zb (k1 k2 k:IntKind) (n:Int):Ft (.int k1) (.int k2) (.int k n)=True:=by simp [Ft]
@[go_sem] theorem Y8 (r o:Nat):U4 (.addr r o)=True:=rfl
def Gx:List FT->Nat->Nat
 | [],_=>0
 | x :: _,0=>x.off
 | _ :: r,n+1=>Gx r n
theorem D2:∀ (fs:List FT) (f:Nat),((fs[f]?).map (·.off)).getD 0=Gx fs f
 | [],f=>by simp [Gx]
 | x :: r,0=>by simp [Gx]
 | x :: r,n+1=>by simp [Gx,D2 r n]
@[go_sem] theorem ab4 (x:FT) (r:List FT):Gx (x :: r) 0=x.off:=rfl
@[go_sem] theorem aa3 (x:FT) (r:List FT) (n:Nat):Gx (x :: r) (n+1)=Gx r n:=rfl
@[go_sem] theorem aev (fs:List FT) (f r o:Nat):W2 fs f (.addr r o)=.addr r (o+Gx fs f):=by simp only [W2,D2]
@[go_sem] theorem ado (fs:List FT) (f r z i k:Nat):W2 fs f (.bT r z i k)=.bT r z i (k+Gx fs f):=by simp only [W2,D2]
@[go_sem] theorem abg (fs:List FT) (f:Nat) (cs:List D):W2 fs f (.bN cs)=.bN (cs.drop (Gx fs f)):=by simp only [W2,D2]
@[go_sem] theorem adn (fs:List FT) (f r o:Nat):RR fs f (.addr r o)=(f < fs.length):=rfl
@[go_sem] theorem ZI (fs:List FT) (f r z i k:Nat):RR fs f (.bT r z i k)=(f < fs.length):=rfl
@[go_sem] theorem aaF (fs:List FT) (f:Nat) (cs:List D):RR fs f (.bN cs)=(f < fs.length):=rfl
@[go_sem] theorem aiC (t:Ty) (z:Nat) (rows:List (List D)) (k:IntKind) (i:Int):iaT t (.sl z rows) (.int k i)=.bN (rows.getD i.toNat []):=rfl
@[go_sem] theorem agP (z b:Nat) (a:Bool) (r:Nat) (k:IntKind) (i:Int):iaT (.slice z b a) (.ref r) (.int k i)=.bT r z i.toNat 0:=rfl
@[go_sem] theorem aet (n z:Nat) (a:Bool) (r o:Nat) (k:IntKind) (i:Int):iaT (.arr n z a) (.addr r o) (.int k i)=.addr r (o+i.toNat*z):=rfl
@[go_sem] theorem adM (e:Env) (z' b:Nat) (a:Bool) (z:Nat) (rows:List (List D)) (k:IntKind) (i:Int):Jl e (.slice z' b a) (.sl z rows) (.int k i)=(z=z'/\0<=i/\i < rows.length):=rfl
@[go_sem] theorem ac5 (e:Env) (z b:Nat) (a:Bool) (r:Nat) (k:IntKind) (i:Int):Jl e (.slice z b a) (.ref r) (.int k i)=(0<=i/\Qh z i (e.o r)):=rfl
@[go_sem] theorem abw (z:Nat) (i:Int) (z':Nat) (rows:List (List D)):Qh z i (.own z' rows)=(z'=z/\i < rows.length):=rfl
@[go_sem] theorem aaW (e:Env) (n z:Nat) (a:Bool) (r o:Nat) (k:IntKind) (i:Int):Jl e (.arr n z a) (.addr r o) (.int k i)=(0<=i/\i < n):=rfl
@[go_sem] theorem afO (n z:Nat) (ea:Bool) (cs:List D) (k:IntKind) (i:Int):ixV (.arr n z ea) (.agg cs) (.int k i)=part ea (i.toNat*z) z cs:=rfl
@[go_sem] theorem aeS (n z:Nat) (ea:Bool) (cs:List D) (k:IntKind) (i:Int):MC (.arr n z ea) (.agg cs) (.int k i)=(0<=i/\i < n/\cs.length=n*z):=rfl
@[go_sem] theorem af2 (t:Ty) (s:ByteArray) (k:IntKind) (i:Int):ixV t (.str s) (.int k i)=.int .u8 ((s[i.toNat]?).map (·.toNat)|>.getD 0):=rfl
@[go_sem] theorem aey (s:ByteArray) (k:IntKind) (i:Int):MC .str (.str s) (.int k i)=(0<=i/\i < s.size):=by simp [MC]
@[go_sem] theorem aeX (o n:Nat) (cs:List D):part true o n cs=.agg ((cs.drop o).take n):=rfl
@[go_sem] theorem afm (o n:Nat) (cs:List D):part false o n cs=(cs.drop o).headD .undef:=rfl
def adw (f:Option FT) (cs:List D):D:=match f with
 | some x=>part x.agg x.off x.sz cs
 | none=>.undef
def Tl (f:Option FT) (cs:List D):Prop:=match f with
 | some x=>x.off+x.sz<=cs.length
 | none=>False
@[go_sem] theorem adX (fs:List FT) (f:Nat) (cs:List D):Ro fs f (.agg cs)=adw fs[f]? cs:=rfl
@[go_sem] theorem acy (fs:List FT) (f:Nat) (cs:List D):H7 fs f (.agg cs)=Tl fs[f]? cs:=rfl
@[go_sem] theorem abi (o s:Nat) (a:Bool) (cs:List D):adw (some ⟨o,s,a⟩) cs=part a o s cs:=rfl
@[go_sem] theorem Xv (o s:Nat) (a:Bool) (cs:List D):Tl (some ⟨o,s,a⟩) cs=(o+s<=cs.length):=rfl
section
variable {e:Env}
@[go_sem] theorem aho (z b:Nat) (a:Bool) (y:Nat) (r:List (List D)):OI e (.slice z b a) (.sl y r)=.int .i64 r.length:=rfl
@[go_sem] theorem afJ (z b:Nat) (a:Bool):OI e (.slice z b a) .nil=.int .i64 0:=rfl
@[go_sem] theorem ad2 (z b:Nat) (a:Bool) (r:Nat):OI e (.slice z b a) (.ref r)=Eg (e.o r):=rfl
@[go_sem] theorem XC (z:Nat) (r:List (List D)):Eg (.own z r)=.int .i64 r.length:=rfl
@[go_sem] theorem ae3 (s:ByteArray):OI e .str (.str s)=.int .i64 s.size:=rfl
@[go_sem] theorem ace (z b:Nat) (a:Bool) (y:Nat) (r:List (List D)):x4 e (.slice z b a) (.sl y r)=True:=rfl
@[go_sem] theorem Zn (z b:Nat) (a:Bool):x4 e (.slice z b a) .nil=True:=rfl
@[go_sem] theorem YW (z b:Nat) (a:Bool) (r:Nat):x4 e (.slice z b a) (.ref r)=zD (e.o r):=rfl
@[go_sem] theorem Wd (z:Nat) (r:List (List D)):zD (.own z r)=True:=rfl
@[go_sem] theorem aad (s:ByteArray):x4 e .str (.str s)=True:=rfl
def slX (z z' N:Nat) (lo hi:Int):Prop:=z=z'/\0<=lo/\lo<=hi/\hi<=N
@[go_sem] theorem ait (z z' N:Nat) (lo hi:Int):slX z z' N lo hi=(z=z'/\0<=lo/\lo<=hi/\hi<=N):=rfl
theorem Zu (z z' N:Nat) (k:IntKind) (lo:Int) (k':IntKind) (hi:Int):Wa (if z=z' then some N else none) (.int k lo) (.int k' hi) (fun _ _ _=>True)=slX z z' N lo hi:=by
 unfold slX
 by_cases h:z=z'
 ·simp [h,Wa]
 ·simp [h,Wa]
@[go_sem] theorem ail (z' b:Nat) (a:Bool) (z:Nat) (rows:List (List D)) (k k':IntKind) (lo hi:Int):XK e (.slice z' b a) (.sl z rows) (.int k lo) (some (.int k' hi))=.sl z ((rows.take hi.toNat).drop lo.toNat):=rfl
@[go_sem] theorem afp (z' b:Nat) (a:Bool) (z:Nat) (rows:List (List D)) (k k':IntKind) (lo hi:Int):Ah e (.slice z' b a) (.sl z rows) (.int k lo) (some (.int k' hi))=slX z z' rows.length lo hi:=Zu _ _ _ _ _ _ _
@[go_sem] theorem agL (s:ByteArray) (k k':IntKind) (lo hi:Int):XK e .str (.str s) (.int k lo) (some (.int k' hi))=.str (s.extract lo.toNat hi.toNat):=rfl
@[go_sem] theorem adr (s:ByteArray) (k k':IntKind) (lo hi:Int):Ah e .str (.str s) (.int k lo) (some (.int k' hi))=(0<=lo/\lo<=hi/\hi<=s.size):=by simp [Ah,YD,Mi,Wa]
@[go_sem] theorem afb (s:ByteArray) (k:IntKind) (lo:Int):XK e .str (.str s) (.int k lo) none=.str (s.extract lo.toNat s.size):=by simp [XK,Mi,NT,aec,Tu]
@[go_sem] theorem ZX (s:ByteArray) (k:IntKind) (lo:Int):Ah e .str (.str s) (.int k lo) none=(0<=lo/\lo<=s.size):=by simp [Ah,YD,Mi,NT,Wa]
end
@[go_sem] theorem acr (cs:List D):kq cs []=cs:=rfl
@[go_sem] theorem ZF (cs:List D) (o s:Nat) (v:D) (r:List (Nat × Nat × D)):kq cs ((o,s,v) :: r)=kq (lD cs o v.cells) r:=rfl
@[go_sem] theorem aan (n:Nat):lY n []=True:=rfl
@[go_sem] theorem X7 (n o s:Nat) (v:D) (r:List (Nat × Nat × D)):lY n ((o,s,v) :: r)=(v.cells.length=s/\o+s<=n/\(∀ c∈v.cells,eR c)/\lY n r):=rfl
@[go_sem] theorem XV (z:Nat) (cs:List D):rowsOf z 0 cs=[]:=rfl
@[go_sem] theorem Yk (z n:Nat) (cs:List D):rowsOf z (n+1) cs=cs.take z :: rowsOf z n (cs.drop z):=rfl
@[go_sem] theorem afV (cs:List D) (o:Nat) (xs:List D):lD cs o xs=cs.take o++xs++cs.drop (o+xs.length):=rfl
@[go_sem] theorem ZK (a d:D) (l:List D):(a :: l).getD 0 d=a:=rfl
@[go_sem] theorem aa2 (a d:D) (l:List D) (n:Nat):(a :: l).getD (n+1) d=l.getD n d:=rfl
@[go_sem] theorem aaq:qj []=True:=rfl
@[go_sem] theorem Xt (k:IntKind) (n:Int) (r:List D):qj (.int k n :: r)=qj r:=rfl
@[go_sem] theorem acB (f:D->D->D) (a b:D):NS f [a,b]=f a b:=rfl
@[go_sem] theorem abW (k k':IntKind) (x y:Int):My (.int k x) (.int k' y)=.int k (max x y):=by
 show D.int k (if y > x then y else x)=_
 congr 1;rw [Int.max_def];split<;>split<;>omega
@[go_sem] theorem ab9 (k k':IntKind) (x y:Int):L0 (.int k x) (.int k' y)=.int k (min x y):=by
 show D.int k (if y < x then y else x)=_
 congr 1;rw [Int.min_def];split<;>split<;>omega
@[go_sem] theorem Zp (b:Bool):D.cells (.bool b)=[.bool b]:=rfl
@[go_sem] theorem adj (k:IntKind) (m:Int):D.cells (.int k m)=[.int k m]:=rfl
@[go_sem] theorem abF (s:ByteArray):D.cells (.str s)=[.str s]:=rfl
@[go_sem] theorem abt:D.cells (.nil)=[.nil]:=rfl
@[go_sem] theorem afs (z:Nat) (rows:List (List D)):D.cells (.sl z rows)=[.sl z rows]:=rfl
@[go_sem] theorem ab2 (r:Nat):D.cells (.ref r)=[.ref r]:=rfl
@[go_sem] theorem afv (f:FuncId) (cs:List D):D.cells (.fn f cs)=[.fn f cs]:=rfl
@[go_sem] theorem acY (cs:List D):D.cells (.agg cs)=cs:=rfl
@[go_sem] theorem X6 (b:Bool):eR (.bool b)=True:=rfl
@[go_sem] theorem aaT (k:IntKind) (m:Int):eR (.int k m)=True:=rfl
@[go_sem] theorem Y5 (s:ByteArray):eR (.str s)=True:=rfl
@[go_sem] theorem Zt:eR (.nil)=True:=rfl
@[go_sem] theorem abz (z:Nat) (rows:List (List D)):eR (.sl z rows)=True:=rfl
@[go_sem] theorem aaN (r:Nat):eR (.ref r)=True:=rfl
@[go_sem] theorem acK (f:FuncId) (cs:List D):eR (.fn f cs)=True:=rfl
@[go_sem] theorem XU (b:Bool):dF (.bool b)=True:=by simp [dF,eR,D.names]
@[go_sem] theorem aaS (k:IntKind) (m:Int):dF (.int k m)=True:=by simp [dF,eR,D.names]
@[go_sem] theorem Z9 (s:ByteArray):dF (.str s)=True:=by simp [dF,eR,D.names]
@[go_sem] theorem ach (z:Nat) (rows:List (List D)):dF (.sl z rows)=True:=by simp [dF,eR,D.names]
end Go.Abs
