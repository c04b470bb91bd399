/- The predicate on data, worked out by simp: data, calls, weakening, results; printed by gen_eval2.py. No theorem of a claim. -/
import Derived.Test.YtnkobepdbkmedaaGreatAbcEval
set_option linter.unusedSimpArgs false
set_option linter.unusedVariables false
namespace Go.Abs
attribute [go_sem] Bool.not_true Bool.not_false Bool.true_and Bool.and_true Bool.false_and Bool.and_false Bool.true_or Bool.or_true Bool.false_or Bool.or_false Bool.not_not true_and and_true if_true if_false ite_true ite_false not_true_eq_false not_false_eq_true
attribute [go_sem] List.map_cons List.map_nil List.length_cons List.length_nil List.append_nil List.nil_append List.cons_append List.take_succ_cons List.take_zero List.drop_succ_cons List.drop_zero List.headD_cons List.take_nil List.drop_nil Nat.add_zero Nat.zero_add List.replicate_succ List.replicate_zero List.flatten_cons List.flatten_nil List.set_cons_zero List.set_cons_succ List.getElem?_cons_zero List.getElem?_cons_succ List.getElem?_nil Option.map_some Option.map_none Option.getD_some Option.getD_none
attribute [go_sem] List.contains_nil List.contains_cons Bool.or_self beq_self_eq_true
attribute [go_sem] decide_true decide_false Int.natCast_nonneg Int.toNat_natCast forall_eq implies_true true_implies false_implies reduceCtorEq and_self
@[go_sem ↓] theorem aeL (e:Env) (t:Nat):rd e (.tmp t)=e.t t:=Eq.trans rfl rfl
@[go_sem ↓] theorem aa5 (e:Env) (v:Value):rd e (.const v)=rE v:=Eq.trans rfl rfl
@[go_sem ↓] theorem ab9 (e:Env) (f:FuncId):rd e (.func f)=.fn f []:=Eq.trans rfl rfl
@[go_sem ↓] theorem afa (e:Env) (i:Nat) (d:D) (j:Nat):(dh e i d).t j=if j=i then d else e.t j:=Eq.trans rfl rfl
@[go_sem ↓] theorem aeF (e:Env) (i:Nat) (d:D) (j:Nat):(dh e i d).o j=e.o j:=Eq.trans rfl rfl
@[go_sem ↓] theorem aed (e:Env) (i:Nat) (d:D) (j:Nat):(dY e i d).o j=if j=i then d else e.o j:=Eq.trans rfl rfl
@[go_sem ↓] theorem aeo (e:Env) (i:Nat) (d:D) (j:Nat):(dY e i d).t j=e.t j:=Eq.trans rfl rfl
@[go_sem ↓] theorem ad4 (e:Env) (r j:Nat):(jU r e).t j=(e.t j).kill r:=Eq.trans rfl rfl
@[go_sem ↓] theorem ace (e:Env) (r j:Nat):(jU r e).o j=if j=r then .undef else (e.o j).kill r:=Eq.trans rfl rfl
@[go_sem ↓] theorem afY (ts os:EL) (j:Nat):(sq ts os).t j=look ts j:=Eq.trans rfl rfl
@[go_sem ↓] theorem afN (ts os:EL) (j:Nat):(sq ts os).o j=look os j:=Eq.trans rfl rfl
@[go_sem ↓] theorem look_nil (j:Nat):look [] j=.undef:=Eq.trans rfl rfl
@[go_sem ↓] theorem Zi (i:Nat) (d:D) (r:EL) (j:Nat):look ((i,d) :: r) j=if j=i then d else look r j:=Eq.trans rfl rfl
@[go_sem ↓] theorem adR (k:Nat):Pc k []=[]:=rfl
@[go_sem] theorem abX (k:Nat) (d:D) (ds:List D):Pc k (d :: ds)=(k,d) :: Pc (k+1) ds:=rfl
@[go_sem ↓] theorem adV (k:Nat):qY k []=[]:=rfl
@[congr] theorem ahl (k:Nat) {l l':List D} (h:True->l=l'):qY k l=qY k l':=by rw [h trivial]
def osI (b:Bool) (k:Nat) (d:D) (ds:List D):EL:=if b then qY (k+1) ds else (k,d) :: qY (k+1) ds
@[go_sem] theorem aaq (k:Nat) (d:D) (ds:List D):qY k (d :: ds)=osI (cK d) k d ds:=rfl
@[go_sem] theorem agp (k:Nat) (d:D) (ds:List D):osI true k d ds=qY (k+1) ds:=rfl
@[go_sem] theorem ag9 (k:Nat) (d:D) (ds:List D):osI false k d ds=(k,d) :: qY (k+1) ds:=rfl
@[go_sem] theorem UT (b:Bool):rE (.bool b)=.bool b:=rfl
@[go_sem] theorem Vd (k:IntKind) (n:Int):rE (.int k n)=.int k n:=rfl
@[go_sem] theorem Vj (s:ByteArray):rE (.string s)=.str s:=rfl
@[go_sem] theorem We:rE (.slice none 0 0)=.nil:=rfl
@[go_sem] theorem SQ:rE .nilIface=.eJ:=rfl
@[go_sem] theorem VB (b:Bool):D.names (.bool b)=[]:=by rw [D.names.eq_def]
@[go_sem] theorem Zp (k:IntKind) (m:Int):D.names (.int k m)=[]:=by rw [D.names.eq_def]
@[go_sem] theorem Yt (s:ByteArray):D.names (.str s)=[]:=by rw [D.names.eq_def]
@[go_sem] theorem abx (z:Nat) (rows:List (List D)):D.names (.sl z rows)=[]:=by rw [D.names.eq_def]
@[go_sem] theorem UG (cs:List D):D.names (.bF cs)=[]:=by rw [D.names.eq_def]
@[go_sem] theorem Yx (z:Nat) (rows:List (List D)):D.names (.own z rows)=[]:=by rw [D.names.eq_def]
@[go_sem] theorem ZB (r:Nat):D.names (.ref r)=[r]:=by rw [D.names]
@[go_sem] theorem V1 (r o:Nat):D.names (.addr r o)=[r]:=by rw [D.names]
@[go_sem] theorem U5 (r z i k:Nat):D.names (.bO r z i k)=[r]:=by rw [D.names]
@[go_sem] theorem ZN (f:FuncId) (cs:List D):D.names (.fn f cs)=D.cg cs:=by rw [D.names]
@[go_sem] theorem Xx (cs:List D):D.names (.agg cs)=D.cg cs:=by rw [D.names]
@[go_sem] theorem ZH (cs:List D):D.names (.box cs)=D.cg cs:=by rw [D.names]
@[go_sem] theorem Wh:D.cg []=[]:=by rw [D.cg]
@[go_sem] theorem U4 (d:D) (l:List D):D.cg (d :: l)=d.names++D.cg l:=by rw [D.cg]
@[go_sem] theorem V5 (q:Nat)  : D.kill q (.undef)=.undef:=by rw [D.kill.eq_def]
@[go_sem] theorem YM (q:Nat) (b:Bool):D.kill q (.bool b)=.bool b:=by rw [D.kill.eq_def]
@[go_sem] theorem aar (q:Nat) (k:IntKind) (m:Int):D.kill q (.int k m)=.int k m:=by rw [D.kill.eq_def]
@[go_sem] theorem aam (q:Nat) (s:ByteArray):D.kill q (.str s)=.str s:=by rw [D.kill.eq_def]
@[go_sem] theorem aaD (q:Nat)  : D.kill q (.nil)=.nil:=by rw [D.kill.eq_def]
@[go_sem] theorem ac3 (q:Nat) (z:Nat) (rows:List (List D)):D.kill q (.sl z rows)=.sl z rows:=by rw [D.kill.eq_def]
@[go_sem] theorem ZR (q:Nat) (z:Nat) (rows:List (List D)):D.kill q (.own z rows)=.own z rows:=by rw [D.kill.eq_def]
@[go_sem] theorem aaw (q:Nat) (r:Nat):D.kill q (.ref r)=if r=q then .undef else .ref r:=by rw [D.kill]
@[go_sem] theorem XS (q:Nat) (r o:Nat):D.kill q (.addr r o)=if r=q then .undef else .addr r o:=by rw [D.kill]
@[go_sem] theorem ad3 (q:Nat) (f:FuncId) (cs:List D):D.kill q (.fn f cs)=.fn f  (D.iU q cs):=by rw [D.kill]
@[go_sem] theorem aaA (q:Nat) (cs:List D):D.kill q (.box cs)=.box  (D.iU q cs):=by rw [D.kill]
@[go_sem] theorem Zb (q:Nat):D.iU q []=[]:=by rw [D.iU]
@[go_sem] theorem Wr (q:Nat) (d:D) (l:List D):D.iU q (d :: l)=d.kill q :: D.iU q l:=by rw [D.iU]
def fz (e:Env) (q:Nat) (d:D):D:=jt (e.o q) q d
def RE (e:Env) (q:Nat) (l:List D):List D:=rV (e.o q) q l
@[congr] theorem abg {e:Env} {q:Nat} {d d':D} (h:True->d=d'):fz e q d=fz e q d':=by rw [h trivial]
@[congr] theorem Yg {e:Env} {q:Nat} {d d':List D} (h:True->d=d'):RE e q d=RE e q d':=by rw [h trivial]
def YB (b:Bool) (x d:D):D:=if b then x else d
@[congr] theorem YN {b b':Bool} {x d:D} (h:True->b=b'):YB b x d=YB b' x d:=by rw [h trivial]
@[go_sem ↓] theorem Z4 (x d:D):YB true x d=x:=rfl
@[go_sem ↓] theorem Zj (x d:D):YB false x d=d:=rfl
@[go_sem] theorem ZU (e:Env) (q:Nat)  : fz e q (.undef)=.undef:=by rw [fz,jt.eq_def]
@[go_sem] theorem adi (e:Env) (q:Nat) (b:Bool):fz e q (.bool b)=.bool b:=by rw [fz,jt.eq_def]
@[go_sem] theorem aeu (e:Env) (q:Nat) (k:IntKind) (m:Int):fz e q (.int k m)=.int k m:=by rw [fz,jt.eq_def]
@[go_sem] theorem aeH (e:Env) (q:Nat) (s:ByteArray):fz e q (.str s)=.str s:=by rw [fz,jt.eq_def]
@[go_sem] theorem afx (e:Env) (q:Nat)  : fz e q (.nil)=.nil:=by rw [fz,jt.eq_def]
@[go_sem] theorem af5 (e:Env) (q:Nat) (z:Nat) (rows:List (List D)):fz e q (.sl z rows)=.sl z rows:=by rw [fz,jt.eq_def]
@[go_sem] theorem aeZ (e:Env) (q:Nat) (z:Nat) (rows:List (List D)):fz e q (.own z rows)=.own z rows:=by rw [fz,jt.eq_def]
@[go_sem] theorem ae7 (e:Env) (q:Nat) (r:Nat):fz e q (.ref r)=YB (bm (r==q)) (sZ (e.o q)) (.ref r):=by rw [fz,jt];rfl
@[go_sem] theorem adw (e:Env) (q:Nat) (r o:Nat):fz e q (.addr r o)=YB (bm (r==q)) (mI lz o (e.o q)) (.addr r o):=by rw [fz,jt];rfl
@[go_sem] theorem agf (e:Env) (q:Nat) (f:FuncId) (cs:List D):fz e q (.fn f cs)=.fn f  (RE e q cs):=by rw [fz,jt];rfl
@[go_sem] theorem aev (e:Env) (q:Nat) (cs:List D):fz e q (.agg cs)=.agg  (RE e q cs):=by rw [fz,jt];rfl
@[go_sem] theorem afg (e:Env) (q:Nat) (cs:List D):fz e q (.box cs)=.box  (RE e q cs):=by rw [fz,jt];rfl
@[go_sem] theorem adE (e:Env) (q:Nat):RE e q []=[]:=by rw [RE,rV]
@[go_sem] theorem aaI (e:Env) (q:Nat) (d:D) (l:List D):RE e q (d :: l)=fz e q d :: RE e q l:=by rw [RE,rV];rfl
@[go_sem] theorem Yc (q:Nat->Option Nat)  : D.jk q (.undef)=.undef:=by rw [D.jk.eq_def]
@[go_sem] theorem aan (q:Nat->Option Nat) (b:Bool):D.jk q (.bool b)=.bool b:=by rw [D.jk.eq_def]
@[go_sem] theorem acV (q:Nat->Option Nat) (k:IntKind) (m:Int):D.jk q (.int k m)=.int k m:=by rw [D.jk.eq_def]
@[go_sem] theorem adB (q:Nat->Option Nat) (s:ByteArray):D.jk q (.str s)=.str s:=by rw [D.jk.eq_def]
@[go_sem] theorem afe (q:Nat->Option Nat) (z:Nat) (rows:List (List D)):D.jk q (.sl z rows)=.sl z rows:=by rw [D.jk.eq_def]
@[go_sem] theorem adb (q:Nat->Option Nat) (z:Nat) (rows:List (List D)):D.jk q (.own z rows)=.own z rows:=by rw [D.jk.eq_def]
@[go_sem] theorem adr (q:Nat->Option Nat) (r:Nat):D.jk q (.ref r)=uu (q r) (.ref) .undef:=by rw [D.jk];cases q r<;>rfl
@[go_sem] theorem acH (q:Nat->Option Nat) (cs:List D):D.jk q (.agg cs)=.agg  (D.qB q cs):=by rw [D.jk]
@[go_sem] theorem adK (q:Nat->Option Nat) (cs:List D):D.jk q (.bH cs)=.bH  (D.qB q cs):=by rw [D.jk]
@[go_sem] theorem acZ (q:Nat->Option Nat) (cs:List D):D.jk q (.box cs)=.box  (D.qB q cs):=by rw [D.jk]
@[go_sem] theorem aaN (q:Nat->Option Nat):D.qB q []=[]:=by rw [D.qB]
@[go_sem] theorem Zo (q:Nat->Option Nat) (d:D) (l:List D):D.qB q (d :: l)=d.jk q :: D.qB q l:=by rw [D.qB]
@[go_sem ↓] theorem Yl (i:Nat) (f:Nat->D) (d:D):uu (some i) f d=f i:=rfl
@[go_sem ↓] theorem X8 (f:Nat->D) (d:D):uu none f d=d:=rfl
@[congr] theorem VG {i i':Option Nat} {f:Nat->D} {d:D} (h:True->i=i'):uu i f d=uu i' f d:=by rw [h trivial]
@[congr] theorem SG {b b':Bool} {d:D} (h:True->b=b'):cy b d=cy b' d:=by rw [h trivial]
@[go_sem ↓] theorem UN (d:D):cy true d=.undef:=rfl
@[go_sem ↓] theorem Tq (d:D):cy false d=d:=rfl
@[go_sem] theorem aes (e:Env) (x:List Nat) (j:Nat) (k:IntKind) (m:Int):bo e x (j+1) (.int k m)=.int k m:=rfl
@[go_sem] theorem agN (e:Env) (x:List Nat) (j:Nat) (z:Nat) (rows:List (List D)):bo e x (j+1) (.sl z rows)=.sl z rows:=rfl
@[go_sem] theorem aeI (e:Env) (x:List Nat) (j:Nat) (r:Nat):bo e x (j+1) (.ref r)=cy (bm (x.contains r)) (sZ (e.o r)):=rfl
@[go_sem] theorem acE (e:Env) (x:List Nat) (j:Nat) (r o:Nat):bo e x (j+1) (.addr r o)=cy (bm (x.contains r)) (mI (bo e x j) o (e.o r)):=rfl
@[go_sem] theorem age (e:Env) (x:List Nat) (j:Nat) (f:FuncId) (cs:List D):bo e x (j+1) (.fn f cs)=.fn f  (cs.map (bo e x j)):=rfl
@[go_sem] theorem acD (e:Env) (x:List Nat) (d:D):bo e x 0 d=lz d:=rfl
def cv (e:Env) (bw:Bool) (gs:List Nat) (k:Nat) (d:D):D:=conv bw gs e.o k d
@[congr] theorem ab2 {e:Env} {bw:Bool} {gs:List Nat} {k:Nat} {d d':D} (h:True->d=d'):cv e bw gs k d=cv e bw gs k d':=by rw [h trivial]
@[go_sem] theorem adh (e:Env) (bw:Bool) (x:List Nat) (j:Nat) (b:Bool):cv e bw x (j+1) (.bool b)=.bool b:=rfl
@[go_sem] theorem aeQ (e:Env) (bw:Bool) (x:List Nat) (j:Nat) (k:IntKind) (m:Int):cv e bw x (j+1) (.int k m)=.int k m:=rfl
@[go_sem] theorem afn (e:Env) (bw:Bool) (x:List Nat) (j:Nat) (s:ByteArray):cv e bw x (j+1) (.str s)=.str s:=rfl
@[go_sem] theorem ae9 (e:Env) (bw:Bool) (x:List Nat) (j:Nat)  : cv e bw x (j+1) (.nil)=.nil:=rfl
@[go_sem] theorem agd (e:Env) (bw:Bool) (x:List Nat) (j:Nat) (z:Nat) (rows:List (List D)):cv e bw x (j+1) (.sl z rows)=.sl z rows:=rfl
@[go_sem] theorem abw (e:Env) (bw:Bool) (x:List Nat) (j:Nat) (cs:List D):cv e bw x (j+1) (.bF cs)=.bF cs:=rfl
@[go_sem] theorem afH (e:Env) (bw:Bool) (x:List Nat) (j:Nat) (r:Nat):cv e bw x (j+1) (.ref r)=uu (idx x r) (.ref) (cy (bm (!bw)) (bo e x j (dm (.ref r)))):=rfl
@[go_sem] theorem ach (e:Env) (bw:Bool) (x:List Nat) (j:Nat) (r o:Nat):cv e bw x (j+1) (.addr r o)=uu (idx x r) (fun x=>.addr x o) (cy (bm (!bw)) (bo e x j (dm (.addr r o)))):=rfl
@[go_sem] theorem agA (e:Env) (bw:Bool) (x:List Nat) (j:Nat) (f:FuncId) (cs:List D):cv e bw x (j+1) (.fn f cs)=.fn f  (cs.map (cv e bw x j)):=rfl
@[go_sem] theorem aen (e:Env) (bw:Bool) (x:List Nat) (j:Nat) (cs:List D):cv e bw x (j+1) (.agg cs)=.agg  (cs.map (cv e bw x j)):=rfl
def WV (e:Env) (bw:Bool) (gs:List Nat) (k:Nat) (d:D):D:=Cn bw gs e.o k d
@[congr] theorem Zv {e:Env} {bw:Bool} {gs:List Nat} {k:Nat} {d d':D} (h:True->d=d'):WV e bw gs k d=WV e bw gs k d':=by rw [h trivial]
@[go_sem] theorem adv (e:Env) (bw:Bool) (x:List Nat) (j:Nat) (cs:List D):WV e bw x j (.box cs)=.box (cs.map (cv e bw x j)):=rfl
@[go_sem] theorem adL (e:Env) (bw:Bool) (x:List Nat) (j z:Nat) (rows:List (List D)):WV e bw x j (.own z rows)=.own z rows:=rfl
mutual
/-- data that names no object -/
def Pl:D->Prop
 | .fn _ cs=>vN cs
 | .agg cs=>vN cs
 | .bH cs=>vN cs
 | .box _ | .own _ _ | .ref _ | .addr _ _ | .bO _ _ _ _ | .fk _ _ _ _ | .eD _ _ _ _ _=>False
 | _=>True
def vN:List D->Prop
 | []=>True
 | d :: l=>Pl d/\vN l
end
@[go_sem] theorem adt (b:Bool):Pl (.bool b)=True:=by rw [Pl.eq_def]
@[go_sem] theorem afs (k:IntKind) (m:Int):Pl (.int k m)=True:=by rw [Pl.eq_def]
@[go_sem] theorem ae8 (s:ByteArray):Pl (.str s)=True:=by rw [Pl.eq_def]
@[go_sem] theorem aeO:Pl (.nil)=True:=by rw [Pl.eq_def]
@[go_sem] theorem aax:Pl (.eJ)=True:=by rw [Pl.eq_def]
@[go_sem] theorem agk (z:Nat) (rows:List (List D)):Pl (.sl z rows)=True:=by rw [Pl.eq_def]
@[go_sem] theorem aa0 (cs:List D):Pl (.bF cs)=True:=by rw [Pl.eq_def]
@[go_sem] theorem afS (f:FuncId) (cs:List D):Pl (.fn f cs)=vN cs:=by rw [Pl]
@[go_sem] theorem aft (cs:List D):Pl (.agg cs)=vN cs:=by rw [Pl]
@[go_sem] theorem aeY (cs:List D):Pl (.bH cs)=vN cs:=by rw [Pl]
@[go_sem] theorem ac9:vN []=True:=by rw [vN]
@[go_sem] theorem aaf (d:D) (l:List D):vN (d :: l)=(Pl d/\vN l):=by rw [vN]
theorem G3:∀ {l:List D},vN l->∀ d∈l,Pl d
 | [],_,d,h=>by cases h
 | x :: l,h,d,hd=>by
  rw [vN] at h;rcases List.mem_cons.1 hd with rfl | hd
  ·exact h.1
  ·exact G3 h.2 d hd
mutual
theorem Pl.names:∀ (d:D),Pl d->d.names=[]
 | .fn _ cs,h=>by rw [Pl] at h;rw [D.names];exact vN.names cs h
 | .agg cs,h=>by rw [Pl] at h;rw [D.names];exact vN.names cs h
 | .bH cs,h=>by rw [Pl] at h;rw [D.names];exact vN.names cs h
 | .box _,h | .own _ _,h | .ref _,h | .addr _ _,h | .bO _ _ _ _,h | .fk _ _ _ _,h | .eD _ _ _ _ _,h=>by rw [Pl] at h;exact h.elim
 | .undef,_ | .bool _,_ | .int _ _,_ | .str _,_ | .nil,_ | .emp,_ | .ew,_ | .eJ,_ | .fq,_ | .j5,_ | .sl _ _,_ | .bF _,_=>by rw [D.names.eq_def]
theorem vN.names:∀ (l:List D),vN l->D.cg l=[]
 | [],_=>by rw [D.cg]
 | d :: l,h=>by rw [vN] at h;rw [D.cg,Pl.names d h.1,vN.names l h.2];rfl
end
mutual
theorem Pl.jk (f:Nat->Option Nat):∀ (d:D),Pl d->d.jk f=d
 | .fn _ cs,h=>by rw [Pl] at h;rw [D.jk,vN.jk f cs h]
 | .agg cs,h=>by rw [Pl] at h;rw [D.jk,vN.jk f cs h]
 | .bH cs,h=>by rw [Pl] at h;rw [D.jk,vN.jk f cs h]
 | .box _,h | .own _ _,h | .ref _,h | .addr _ _,h | .bO _ _ _ _,h | .fk _ _ _ _,h | .eD _ _ _ _ _,h=>by rw [Pl] at h;exact h.elim
 | .undef,_ | .bool _,_ | .int _ _,_ | .str _,_ | .nil,_ | .emp,_ | .ew,_ | .eJ,_ | .fq,_ | .j5,_ | .sl _ _,_ | .bF _,_=>by rw [D.jk.eq_def]
theorem vN.jk (f:Nat->Option Nat):∀ (l:List D),vN l->D.qB f l=l
 | [],_=>by rw [D.qB]
 | d :: l,h=>by rw [vN] at h;rw [D.qB,Pl.jk f d h.1,vN.jk f l h.2]
end
theorem Pl.conv (bw:Bool) (gs:List Nat) (o:Nat->D):∀ (k:Nat) (d:D),Pl d->conv bw gs o k d=d
 | 0,d,h=>by simp [Go.Abs.conv,lz,Pl.names d h]
 | k+1,d,h=>by
  have mp:∀ cs:List D,vN cs->cs.map (Go.Abs.conv bw gs o k)=cs:=by
   intro cs hc
   conv=>rhs;rw [<- List.map_id cs]
   exact List.map_congr_left fun d hd=>Pl.conv bw gs o k d (G3 hc d hd)
  cases d<;>try rfl
  all_goals rw [Pl] at h
  all_goals first | exact h.elim | skip
  all_goals simp only [Go.Abs.conv];rw [mp _ h]
section
variable {P:Program} {e:Env} {dr:Bool} {K:Env->Prop} {d:Nat} {f:Operand} {args:List Operand}
theorem aa.pure {S:Prop} {k:FuncId} {caps ds:List D} {dv:D} (h:Spec P k [] ds [] dv) (hk:vN ds/\Pl dv/\K (dh e d dv)):aa P dr e d f args K S (.fn k caps) ds:=by
 rintro ⟨hf,has⟩
 refine .inl ?_;have has:ds=args.map (rd e)++caps:=by rw [has,<- hf];rfl
 obtain ⟨h1,h2,h3⟩:=hk;refine ⟨[],[],false,[],dv,fun _=>⟨rfl,rfl⟩,?_⟩
 show xu P e d args [] false [] dv (KW dr K) (rd e f)
 rw [<- hf];refine ⟨List.nodup_nil,by simp,by simp [kq],⟨Nat.le_refl _,by simp⟩,by simp,?_,?_⟩
 ·rw [<- has]
  have:ds.map (conv false [] e.o 4)=ds:=by
   conv=>rhs;rw [<- List.map_id ds]
   exact List.map_congr_left fun d hd=>Pl.conv false [] e.o 4 d (G3 h1 d hd)
  rw [this];exact h
 ·have:eH e d [] [] dv=dh e d dv:=by
   unfold eH;rw [Pl.jk _ dv h2];rfl
  rw [this];exact .inl h3
def aY (P:Program) (e:Env) (d:Nat) (f:Operand) (args:List Operand) (K:Env->Prop) (gs:List Nat) (bw:Bool) (fv:D) (ds hs:List D):Prop:=
 fv=cv e bw gs 5 (rd e f)->ds=args.map (fun x=>cv e bw gs 4 (rd e x))++vE (cv e bw gs 5 (rd e f))->hs=gs.map (fun r=>WV e bw gs 4 (e.o r))->∃ hs' dv,xu P e d args gs bw hs' dv K (rd e f)
@[congr] theorem Uk {gs:List Nat} {bw:Bool} {fv fv':D} {ds ds' hs hs':List D} (h1:True->fv=fv') (h2:True->ds=ds') (h3:True->hs=hs'):aY P e d f args K gs bw fv ds hs=aY P e d f args K gs bw fv' ds' hs':=by rw [h1 trivial,h2 trivial,h3 trivial]
theorem aa.gen (fz gs:List Nat) (bw:Bool) {S:Prop} {fv:D} {as:List D} (hdr:dr=true->fz=[]/\gs=[]) (h:aY P (dL fz e) d f args K gs bw (cv (dL fz e) bw gs 5 (rd (dL fz e) f)) (args.map (fun x=>cv (dL fz e) bw gs 4 (rd (dL fz e) x))++vE (cv (dL fz e) bw gs 5 (rd (dL fz e) f))) (gs.map (fun r=>WV (dL fz e) bw gs 4 ((dL fz e).o r)))) :
  aa P dr e d f args K S fv as:=by
 intro _;obtain ⟨hs',dv,h⟩:=h rfl rfl rfl;exact .inl ⟨fz,gs,bw,hs',dv,hdr,qL (fun _=>.inl) h⟩
theorem aa.aew (ts os:EL) (fz gs:List Nat) (bw:Bool) {S:Prop} {fv:D} {as:List D} (hdr:dr=false) (h:aY P (dL fz e) d f args (fun e'=>KC e' ts os/\K (sq ts os)) gs bw (cv (dL fz e) bw gs 5 (rd (dL fz e) f)) (args.map (fun x=>cv (dL fz e) bw gs 4 (rd (dL fz e) x))++vE (cv (dL fz e) bw gs 5 (rd (dL fz e) f))) (gs.map (fun r=>WV (dL fz e) bw gs 4 ((dL fz e).o r)))) :
  aa P dr e d f args K S fv as:=by
 intro _;obtain ⟨hs',dv,h⟩:=h rfl rfl rfl;exact .inl ⟨fz,gs,bw,hs',dv,(fun hd=>by rw [hdr] at hd;cases hd),qL (fun _ hk=>.inr ⟨hdr,ts,os,hk⟩) h⟩
def vk (r:Nat):List Nat->Prop
 | []=>True
 | x :: l=>r≠x/\vk r l
def xD:List Nat->Prop
 | []=>True
 | x :: l=>vk x l/\xD l
@[go_sem] theorem Wc (r:Nat):vk r []=True:=rfl
@[go_sem] theorem Ua (r x:Nat) (l:List Nat):vk r (x :: l)=(r≠x/\vk r l):=rfl
@[go_sem] theorem V0:xD []=True:=rfl
@[go_sem] theorem U0 (x:Nat) (l:List Nat):xD (x :: l)=(vk x l/\xD l):=rfl
theorem BQ {r:Nat}:∀ {l:List Nat},vk r l->r ∉ l
 | [],_,h=>by cases h
 | x :: l,⟨h1,h2⟩,h=>by
  rcases List.mem_cons.1 h with rfl | h
  ·exact h1 rfl
  ·exact BQ h2 h
theorem Dt:∀ {l:List Nat},xD l->l.Nodup
 | [],_=>List.nodup_nil
 | x :: l,⟨h1,h2⟩=>List.nodup_cons.2 ⟨BQ h1,Dt h2⟩
def Mv (d:D):Prop:=cK d=false
def Nq (e:Env):List Nat->Prop
 | []=>True
 | r :: rs=>Mv (e.o r)/\Nq e rs
def IW (e:Env):List Nat->Prop
 | []=>True
 | r :: rs=>R4 (e.o r)/\IW e rs
@[go_sem ↓] theorem abf:Nq e []=True:=rfl
@[go_sem ↓] theorem Yr (r:Nat) (rs:List Nat):Nq e (r :: rs)=(Mv (e.o r)/\Nq e rs):=rfl
@[go_sem ↓] theorem aa9:IW e []=True:=rfl
@[go_sem ↓] theorem Yp (r:Nat) (rs:List Nat):IW e (r :: rs)=(R4 (e.o r)/\IW e rs):=rfl
@[congr] theorem U6 {l l':List Nat} (h:True->l=l'):IW e l=IW e l':=by rw [h trivial]
@[go_sem] theorem afm (d:D):Mv d=(cK d=false):=rfl
theorem Jj:∀ {rs:List Nat},Nq e rs->∀ r∈rs,e.o r≠.undef
 | [],_,r,h=>by cases h
 | x :: rs,⟨h1,h2⟩,r,h=>by
  rcases List.mem_cons.1 h with rfl | h
  ·intro h0;unfold Mv at h1;rw [h0] at h1;exact Bool.noConfusion h1
  ·exact Jj h2 r h
theorem J2:∀ {rs:List Nat},IW e rs->∀ r∈rs,e.o r=.undef
 | [],_,r,h=>by cases h
 | x :: rs,⟨h1,h2⟩,r,h=>by
  rcases List.mem_cons.1 h with rfl | h
  ·exact h1
  ·exact J2 h2 r h
def Wm:List (Nat × D)->Env->Env
 | [],e=>e
 | x :: l,e=>Wm l (dY e x.1 x.2)
def KI (f:Nat->Option Nat):List Nat->List D->List (Nat × D)
 | r :: rs,h :: hs=>(r,h.jk f) :: KI f rs hs
 | _,_=>[]
theorem Fl (f:Nat->Option Nat):∀ (ns:List Nat) (hs:List D) (e:Env),BI f ns hs e=Wm (KI f ns hs) e
 | [],_,_=>rfl
 | _ :: _,[],_=>rfl
 | r :: rs,h :: hs,e=>Fl f rs hs (dY e r (h.jk f))
def RJ (e:Env) (d:Nat) (K:Env->Prop) (dl:List Nat) (obs:List (Nat × D)) (dv:D):Prop:=K (dh (Wm obs (vM dl e)) d dv)
@[congr] theorem Yy {dl dl':List Nat} {obs obs':List (Nat × D)} {dv dv':D} (h1:True->dl=dl') (h2:True->obs=obs') (h3:True->dv=dv'):RJ e d K dl obs dv=RJ e d K dl' obs' dv':=by rw [h1 trivial,h2 trivial,h3 trivial]
@[go_sem] theorem aa1 (r:Nat) (dl:List Nat) (obs:List (Nat × D)) (dv:D):RJ e d K (r :: dl) obs dv=RJ (jU r e) d K dl obs dv:=rfl
@[go_sem] theorem acj (x:Nat × D) (obs:List (Nat × D)) (dv:D):RJ e d K [] (x :: obs) dv=RJ (dY e x.1 x.2) d K [] obs dv:=rfl
@[go_sem] theorem acd (dv:D):RJ e d K [] [] dv=K (dh e d dv):=rfl
def PsN (e:Env) (d:Nat) (K:Env->Prop) (gs:List Nat) (hs':List D) (dv:D) (ns:List Nat):Prop:=RJ e d K (jZ gs hs') (KI (Kz ns) ns hs') (dv.jk (Kz ns))
@[congr] theorem Y5 {gs:List Nat} {hs':List D} {dv:D} {ns ns':List Nat} (h1:True->ns=ns'):PsN e d K gs hs' dv ns=PsN e d K gs hs' dv ns':=by rw [h1 trivial]
@[go_sem] theorem afJ (gs:List Nat) (hs':List D) (dv:D) (ns:List Nat):PsN e d K gs hs' dv ns=RJ e d K (lm (jZ gs hs')) (KI (Kz ns) ns hs') (dv.jk (Kz ns)):=rfl
theorem aY.intro {gs:List Nat} {bw:Bool} {k:FuncId} {caps ds hs hs':List D} {dv:D} (h:Spec P k hs ds hs' dv)
  (hk:xD gs/\Nq e gs/\IW e (lm (kq d 0 (hs'.length-gs.length)))/\gs.length<=hs'.length/\hs'.length<=gs.length+16/\(bw=true->tK dv/\∀ h∈hs',AP h)/\PsN e d K gs hs' dv (lm (fQ d gs hs'))) :
  aY P e d f args K gs bw (.fn k caps) ds hs:=by
 intro h1 h2 h3;obtain ⟨k1,k2,k3,k4,k5,k6,k7⟩:=hk;refine ⟨hs',dv,?_⟩;rw [<- h1] at h2;cases hfv:rd e f
 case fn k0 caps0 =>
  rw [hfv] at h1;simp only [cv,conv,D.fn.injEq] at h1;obtain ⟨rfl,rfl⟩:=h1;refine ⟨Dt k1,Jj k2,J2 k3,⟨k4,k5⟩,k6,?_,?_⟩
  ·subst h2;subst h3;rw [List.map_append,List.map_map];exact h
  ·unfold PsN RJ at k7;unfold eH;rw [Fl];exact k7
 all_goals rw [hfv] at h1;simp only [cv,conv] at h1
 all_goals exfalso
 all_goals first
  | cases h1
  | (rename_i r;cases hi:idx gs r<;>rw [hi] at h1<;>cases bw<;>simp only [uu,cy,pU,Bool.not_false,Bool.not_true,if_true,Bool.false_eq_true,if_false] at h1<;>first | cases h1 | (split at h1<;>first | cases h1 | (unfold sZ at h1;split at h1<;>cases h1)))
  | (rename_i r _;cases hi:idx gs r<;>rw [hi] at h1<;>cases bw<;>simp only [uu,cy,pU,Bool.not_false,Bool.not_true,if_true,Bool.false_eq_true,if_false] at h1<;>first | cases h1 | (split at h1<;>first | cases h1 | (unfold mI at h1;split at h1<;>cases h1)))
  | (rename_i r _ _ _;cases hi:idx gs r<;>rw [hi] at h1<;>cases bw<;>simp only [uu,cy,pU,Bool.not_false,Bool.not_true,if_true,Bool.false_eq_true,if_false] at h1<;>first | cases h1 | (split at h1<;>first | cases h1 | (unfold vT at h1;split at h1<;>(try split at h1)<;>cases h1) | (unfold rC at h1;split at h1<;>(try split at h1)<;>cases h1) | (unfold vW at h1;split at h1<;>(try split at h1)<;>cases h1)))
  | (rename_i r _ _ _ _;cases hi:idx gs r<;>rw [hi] at h1<;>cases bw<;>simp only [uu,cy,pU,Bool.not_false,Bool.not_true,if_true,Bool.false_eq_true,if_false] at h1<;>first | cases h1 | (split at h1<;>first | cases h1 | (unfold vT at h1;split at h1<;>(try split at h1)<;>cases h1) | (unfold rC at h1;split at h1<;>(try split at h1)<;>cases h1) | (unfold vW at h1;split at h1<;>(try split at h1)<;>cases h1)))
end
@[go_sem] theorem aa2 (f:Nat->Option Nat) (hs:List D):KI f [] hs=[]:=rfl
@[go_sem] theorem X4 (f:Nat->Option Nat) (r:Nat) (rs:List Nat) (h:D) (hs:List D):KI f (r :: rs) (h :: hs)=(r,h.jk f) :: KI f rs hs:=rfl
@[go_sem] theorem afy (ns:List Nat) (i:Nat):Kz ns i=ns[i]?:=rfl
@[go_sem] theorem YO (hs:List D):jZ [] hs=[]:=rfl
@[go_sem] theorem Vu (g:Nat) (gs:List Nat) (h:D) (hs:List D):jZ (g :: gs) (h :: hs)=if cK h then g :: jZ gs hs else jZ gs hs:=rfl
@[go_sem] theorem Yb (d:Nat) (gs:List Nat) (hs':List D):fQ d gs hs'=gs++kq d 0 (hs'.length-gs.length):=rfl
@[go_sem] theorem Wu (d k:Nat):kq d k 0=[]:=rfl
@[go_sem] theorem V6 (d k m:Nat):kq d k (m+1)=nm d k :: kq d (k+1) m:=rfl
@[go_sem] theorem acw (r:Nat):idx [] r=none:=rfl
@[go_sem] theorem aad (g:Nat) (gs:List Nat) (r:Nat):idx (g :: gs) r=if g=r then some 0 else (idx gs r).map (· + 1):=rfl
@[go_sem ↓] theorem YR (e:Env):dL [] e=e:=rfl
@[go_sem ↓] theorem WN (r:Nat) (rs:List Nat) (e:Env):dL (r :: rs) e=dL rs (yu r e):=rfl
@[go_sem ↓] theorem aeS (e:Env) (r j:Nat):(yu r e).t j=fz e r (e.t j):=Eq.trans rfl rfl
@[go_sem ↓] theorem afB (e:Env) (r j:Nat):(yu r e).o j=if j=r then .undef else fz e r (e.o j):=Eq.trans rfl rfl
attribute [go_sem] or_false false_or
@[go_sem] theorem Yf (z:Nat) (rows:List (List D)):sZ (.own z rows)=.sl z rows:=rfl
@[go_sem] theorem Wd (f:D->D) (o:Nat) (cs:List D):mI f o (.box cs)=.bF ((cs.drop o).map f):=rfl
attribute [go_sem] tK rH mX AP Fk
attribute [go_sem] lz List.isEmpty_nil List.isEmpty_cons
@[go_sem] theorem RK:cK (.undef)=true:=rfl
@[go_sem] theorem U2 (z:Nat) (rows:List (List D)):cK (.own z rows)=false:=rfl
@[go_sem] theorem TT (cs:List D):cK (.box cs)=false:=rfl
@[congr] theorem XA {rh:Nat->Option Nat} {lv:Nat->Bool} {d d' u u':D} (h:True->d=d') (h2:True->u=u'):jf rh lv d u=jf rh lv d' u':=by rw [h trivial,h2 trivial]
@[go_sem] theorem abo (rh:Nat->Option Nat) (lv:Nat->Bool) (a b:Bool):jf rh lv (.bool a) (.bool b)=(a=b):=by simp [jf]
@[go_sem] theorem acP (rh:Nat->Option Nat) (lv:Nat->Bool) (k k':IntKind) (a b:Int):jf rh lv (.int k a) (.int k' b)=(k=k'/\a=b):=by simp [jf]
@[go_sem] theorem adf (rh:Nat->Option Nat) (lv:Nat->Bool) (a b:ByteArray):jf rh lv (.str a) (.str b)=(a=b):=by simp [jf]
@[go_sem] theorem afA (rh:Nat->Option Nat) (lv:Nat->Bool) (z z':Nat) (a b:List (List D)):jf rh lv (.sl z a) (.sl z' b)=(z=z'/\a=b):=by simp [jf]
@[go_sem] theorem YV (rh:Nat->Option Nat) (lv:Nat->Bool) (a b:List D):jf rh lv (.bF a) (.bF b)=(a=b):=by simp [jf]
@[go_sem] theorem ack (rh:Nat->Option Nat) (lv:Nat->Bool)  : jf rh lv (.nil) (.nil)=True:=by simp [jf]
@[go_sem] theorem XJ (rh:Nat->Option Nat) (lv:Nat->Bool) (z:Nat) (a:List (List D)):jf rh lv (.nil) (.sl z a)=(a=[]):=by simp [jf]
@[go_sem] theorem Wv (rh:Nat->Option Nat) (lv:Nat->Bool) (s:Nat):jf rh lv (.nil) (.ref s)=(rh s=none/\lv s=true):=by simp [jf]
@[go_sem] theorem acf (rh:Nat->Option Nat) (lv:Nat->Bool) (r s:Nat):jf rh lv (.ref r) (.ref s)=(rh s=some r/\lv s=true):=by simp [jf]
@[go_sem] theorem Z7 (rh:Nat->Option Nat) (lv:Nat->Bool) (r s a b:Nat):jf rh lv (.addr r a) (.addr s b)=(rh s=some r/\lv s=true/\a=b):=by simp [jf]
@[go_sem] theorem acg (rh:Nat->Option Nat) (lv:Nat->Bool) (a b:List D):jf rh lv (.agg a) (.agg b)=kV rh lv a b:=by simp [jf]
@[go_sem] theorem acG (rh:Nat->Option Nat) (lv:Nat->Bool) (a b:List D):jf rh lv (.bH a) (.bH b)=kV rh lv a b:=by simp [jf]
@[go_sem] theorem afd (rh:Nat->Option Nat) (lv:Nat->Bool) (f f':FuncId) (a b:List D):jf rh lv (.fn f a) (.fn f' b)=(f=f'/\kV rh lv a b):=by simp [jf]
@[go_sem] theorem aba (rh:Nat->Option Nat) (lv:Nat->Bool)  : kV rh lv [] []=True:=by simp [kV]
@[go_sem] theorem XO (rh:Nat->Option Nat) (lv:Nat->Bool) (a b:D) (x y:List D):kV rh lv (a :: x) (b :: y)=(jf rh lv a b/\kV rh lv x y):=by simp [kV]
@[congr] theorem VS {rh:Nat->Option Nat} {lv:Nat->Bool} {d d' u u':List D} (h:True->d=d') (h2:True->u=u'):kV rh lv d u=kV rh lv d' u':=by rw [h trivial,h2 trivial]
@[congr] theorem XD {rh:Nat->Option Nat} {lv:Nat->Bool} {d d' u u':D} (h:True->d=d') (h2:True->u=u'):N0 rh lv d u=N0 rh lv d' u':=by rw [h trivial,h2 trivial]
@[go_sem] theorem ad0 (rh:Nat->Option Nat) (lv:Nat->Bool) (a b:List D):N0 rh lv (.box a) (.box b)=kV rh lv a b:=by simp [N0]
@[go_sem] theorem acK (rh:Nat->Option Nat) (lv:Nat->Bool) (z z':Nat) (a b:List (List D)):N0 rh lv (.own z a) (.own z' b)=(z=z'/\a=b):=by simp [N0]
@[go_sem ↓] theorem abV (b:Bool) (x:D):tM (.bool b) x=[]:=by cases x<;>simp [tM]
@[go_sem ↓] theorem adx (k:IntKind) (m:Int) (x:D):tM (.int k m) x=[]:=by cases x<;>simp [tM]
@[go_sem ↓] theorem acX (s:ByteArray) (x:D):tM (.str s) x=[]:=by cases x<;>simp [tM]
@[go_sem ↓] theorem acI  (x:D):tM (.nil) x=[]:=by cases x<;>simp [tM]
@[go_sem ↓] theorem ae1 (z:Nat) (rows:List (List D)) (x:D):tM (.sl z rows) x=[]:=by cases x<;>simp [tM]
@[go_sem ↓] theorem X9 (cs:List D) (x:D):tM (.bF cs) x=[]:=by cases x<;>simp [tM]
@[go_sem ↓] theorem ad6 (z:Nat) (rows:List (List D)) (x:D):tM (.own z rows) x=[]:=by cases x<;>simp [tM]
@[go_sem] theorem acJ (s r:Nat):tM (.ref s) (.ref r)=[(s,some r)]:=by simp [tM]
@[go_sem] theorem Wa (s:Nat):tM (.ref s) .nil=[(s,none)]:=by simp [tM]
@[go_sem] theorem ZZ (s r a b:Nat):tM (.addr s a) (.addr r b)=[(s,some r)]:=by simp [tM]
@[go_sem] theorem acC (a b:List D):tM (.agg a) (.agg b)=wD a b:=by simp [tM]
@[go_sem] theorem adz (a b:List D):tM (.bH a) (.bH b)=wD a b:=by simp [tM]
@[go_sem] theorem acn (a b:List D):tM (.box a) (.box b)=wD a b:=by simp [tM]
@[go_sem] theorem afG (f f':FuncId) (a b:List D):tM (.fn f a) (.fn f' b)=wD a b:=by simp [tM]
@[go_sem] theorem abe (x:List D):wD [] x=[]:=by simp [wD]
@[go_sem] theorem XF (a b:D) (x y:List D):wD (a :: x) (b :: y)=tM a b++wD x y:=by simp [wD]
section
variable {P:Program} {e:Env}
@[go_sem ↓] theorem abh:Lt e []=[]:=rfl
@[go_sem ↓] theorem Xz (i:Nat) (d:D) (r:EL):Lt e ((i,d) :: r)=tM (dm d) (e.t i)++Lt e r:=rfl
@[go_sem ↓] theorem ab0 (l:List (Nat × Option Nat)):Oz e l []=[]:=rfl
@[go_sem ↓] theorem ZJ (l:List (Nat × Option Nat)) (i:Nat) (d:D) (r:EL):Oz e l ((i,d) :: r)=tM (dm d) (Zc e (iE l i))++Oz e l r:=rfl
@[congr] theorem XP {o o':Option Nat} (h:True->o=o'):Zc e o=Zc e o':=by rw [h trivial]
@[go_sem] theorem aaV (r:Nat):Zc e (some r)=e.o r:=rfl
@[go_sem] theorem Z8:Zc e none=.undef:=rfl
@[go_sem] theorem adk (s:Nat):iE [] s=some s:=rfl
@[go_sem] theorem aa4 (i:Nat) (o:Option Nat) (r:List (Nat × Option Nat)) (s:Nat):iE ((i,o) :: r) s=if s=i then o else iE r s:=rfl
@[go_sem] theorem adX (s:Nat):Kx [] s=false:=rfl
@[go_sem] theorem aau (i:Nat) (d:D) (r:EL) (s:Nat):Kx ((i,d) :: r) s=if s=i then true else Kx r s:=rfl
@[congr] theorem ZL {m:Nat} {ts os:EL} {l l':List (Nat × Option Nat)} (h:True->l=l'):VW m e ts os l=VW m e ts os l':=by rw [h trivial]
@[congr] theorem XV {m:Nat} {ts os:EL} {l l':List (Nat × Option Nat)} (h:True->l=l'):YX m e ts os l=YX m e ts os l':=by rw [h trivial]
@[go_sem ↓] theorem aek (ts os:EL):KC e ts os=VW 16 e ts os (lm (Lt e ts)):=rfl
@[go_sem ↓] theorem aeC (m:Nat) (ts os:EL):Q7 m e ts os=VW m e ts os (lm (Lt e ts)):=rfl
@[go_sem] theorem aff (m:Nat) (ts os:EL) (l:List (Nat × Option Nat)):VW m e ts os l=YX m e ts os (lm (l++Oz e l os)):=rfl
@[go_sem] theorem afD (m:Nat) (ts os:EL) (l:List (Nat × Option Nat)):YX m e ts os l=(OF e (iE l) os ts/\DY m e (iE l) os os):=rfl
@[go_sem ↓] theorem aah (rh:Nat->Option Nat) (os:EL):OF e rh os []=True:=rfl
@[go_sem ↓] theorem ZE (rh:Nat->Option Nat) (os:EL) (i:Nat) (d:D) (r:EL):OF e rh os ((i,d) :: r)=(jf rh (Kx os) (dm (e.t i)) d/\OF e rh os r):=rfl
@[congr] theorem WS {rh:Nat->Option Nat} {os:EL} {d:D} {o o':Option Nat} (h:True->o=o'):Hf e rh os d o=Hf e rh os d o':=by rw [h trivial]
@[go_sem] theorem Yw (rh:Nat->Option Nat) (os:EL) (d:D) (r:Nat):Hf e rh os d (some r)=N0 rh (Kx os) (dm (e.o r)) d:=rfl
@[go_sem] theorem Y8 (rh:Nat->Option Nat) (os:EL) (d:D):Hf e rh os d none=Du d:=rfl
@[go_sem] theorem W9 (z:Nat) (rows:List (List D)):Du (.own z rows)=(rows=[]):=rfl
@[go_sem] theorem Sy (o:Option Nat) (rh:Nat->Option Nat):ia o rh []=True:=rfl
@[go_sem] theorem RA (rh:Nat->Option Nat) (x:Nat × D) (r:EL):ia none rh (x :: r)=ia none rh r:=by simp [ia]
@[go_sem] theorem RI (a:Nat) (rh:Nat->Option Nat) (i:Nat) (d:D) (r:EL):ia (some a) rh ((i,d) :: r)=(rh i≠some a/\ia (some a) rh r):=rfl
@[congr] theorem P5 {o o':Option Nat} {rh:Nat->Option Nat} {os:EL} (h:True->o=o'):ia o rh os=ia o' rh os:=by rw [h trivial]
@[go_sem] theorem U9 (m s r:Nat):FF m s (some r)=(m<=s\/r=s):=by simp [FF]
@[go_sem] theorem Xj (m s:Nat):FF m s none=(m<=s):=by simp [FF]
@[go_sem ↓] theorem aaW (m:Nat) (rh:Nat->Option Nat) (os:EL):DY m e rh os []=True:=rfl
@[go_sem ↓] theorem YH (m:Nat) (rh:Nat->Option Nat) (os:EL) (i:Nat) (d:D) (r:EL):DY m e rh os ((i,d) :: r)=(Kx r i=false/\Hf e rh os d (rh i)/\ia (rh i) rh r/\FF m i (rh i)/\DY m e rh os r):=rfl
attribute [go_sem] Nat.zero_le Option.some.injEq Bool.true_eq_false Bool.false_eq_true ne_eq not_false_eq_true
def rtK (m:Nat) (hs':List D) (d:D) (e:Env) (v:D):Prop:=Q7 m (vJ v e) (lm [(0,d)]) (qY 0 hs')
def MN (m:Nat) (e:Env) (ts os:EL):Prop:=Q7 m e ts os
@[go_sem ↓] theorem ad8 (m:Nat) (hs':List D) (d v:D):rtK m hs' d e v=MN (nk m) (vJ v e) [(0,d)] (lm (qY 0 hs')):=rfl
@[congr] theorem TW {m m':Nat} {ts os os':EL} (h1:True->m=m') (h:True->os=os'):MN m e ts os=MN m' e ts os':=by rw [h1 trivial,h trivial]
@[go_sem] theorem aa3 (m:Nat) (ts os:EL):MN m e ts os=Q7 m e ts os:=rfl
@[go_sem ↓] theorem ade (rs:List ResultVar) (m:Nat) (hs':List D) (d:D):Q1 P rs m hs' d e=(vo P e rs/\Norm (dm (FO P e rs)) (rtK m hs' d e)):=rfl
@[go_sem ↓] theorem abu (v:D) (j:Nat):(vJ v e).t j=if j=0 then v else .undef:=Eq.trans rfl rfl
@[go_sem ↓] theorem abA (v:D) (j:Nat):(vJ v e).o j=e.o j:=Eq.trans rfl rfl
@[go_sem ↓] theorem Xf:vo P e []=True:=rfl
@[go_sem ↓] theorem UO (r:ResultVar) (rs:List ResultVar):vo P e (r :: rs)=(AU P e r/\vo P e rs):=rfl
@[go_sem ↓] theorem Za (t:Nat):AU P e (.tmp t)=True:=rfl
@[go_sem ↓] theorem WY (a:Nat) (t:TypeId):AU P e (.cell a t)=zg e (bQ P t) (e.t a):=by simp only [AU,zg];rfl
@[go_sem ↓] theorem aaa (t:Nat):Ck P e (.tmp t)=e.t t:=rfl
@[go_sem ↓] theorem Yz (a:Nat) (t:TypeId):Ck P e (.cell a t)=Uh e (bQ P t) (e.t a):=by simp only [Ck,Uh];rfl
@[go_sem ↓] theorem aac (r:ResultVar):FO P e [r]=Ck P e r:=rfl
@[go_sem ↓] theorem aby (a b:ResultVar) (l:List ResultVar):FO P e (a :: b :: l)=.bH ((a :: b :: l).map (Ck P e)):=rfl
end
@[go_sem] theorem aak (op:BinOp) (k k':IntKind) (a b:Int):xX op (.int k a) (.int k' b)=HH op k a b:=rfl
@[go_sem] theorem ZT (op:BinOp) (a b:ByteArray):xX op (.str a) (.str b)=Zk op a b:=rfl
@[go_sem] theorem Zs (op:BinOp) (a b:Bool):xX op (.bool a) (.bool b)=HN op (a==b):=rfl
@[go_sem] theorem abv (op:BinOp) (a b:List D):xX op (.agg a) (.agg b)=HN op (bU a b):=rfl
@[go_sem] theorem acQ (op:BinOp):xX op .eJ .eJ=HN op true:=rfl
@[go_sem] theorem acB (b:Bool):HN .eql b=.bool b:=rfl
@[go_sem] theorem acv (b:Bool):HN .neq b=.bool (!b):=rfl
@[go_sem] theorem RR (a b:D) (x y:List D):bU (a :: x) (b :: y)=(tj a b&&bU x y):=rfl
@[go_sem] theorem Uo (y:List D):bU [] y=true:=by simp [bU]
@[go_sem] theorem Xl (k k':IntKind) (a b:Int):tj (.int k a) (.int k' b)=(a==b):=rfl
@[go_sem] theorem T5 (a b:Bool):tj (.bool a) (.bool b)=(a==b):=rfl
section
variable {P:Program}
@[go_sem] theorem Yj (c:Bool) (op:BinOp) (t:TypeId) (k k':IntKind) (a b:Int):sx P c op t (.int k a) (.int k' b)=kY op k k' b:=rfl
@[go_sem] theorem Yh (c:Bool) (op:BinOp) (t:TypeId) (a b:ByteArray):sx P c op t (.str a) (.str b)=Ev op a b:=rfl
@[go_sem] theorem Vm (c:Bool) (op:BinOp) (t:TypeId) (a b:Bool):sx P c op t (.bool a) (.bool b)=(isEq op/\bM P t=.bool):=rfl
@[go_sem] theorem YP (c:Bool) (op:BinOp) (t:TypeId) (a b:List D):sx P c op t (.agg a) (.agg b)=(isEq op/\oW P t=true/\pX (eY P 9 t) a b):=rfl
@[go_sem] theorem aas (c:Bool) (op:BinOp) (t:TypeId):sx P c op t .eJ .eJ=(isEq op/\isIface P t=true/\c=true):=rfl
end
@[go_sem] theorem abR:isEq .eql=True:=by simp [isEq]
@[go_sem] theorem abG:isEq .neq=True:=by simp [isEq]
attribute [go_sem] isConst
@[go_sem] theorem QV (ls:List pE) (a b:List D):pX (some ls) a b=dF ls a b:=rfl
@[go_sem] theorem RQ:dF [] [] []=True:=rfl
@[go_sem] theorem RH (l:pE) (ls:List pE) (a b:D) (x y:List D):dF (l :: ls) (a :: x) (b :: y)=(Cg l a b/\dF ls x y):=rfl
@[go_sem] theorem Vv (k k':IntKind) (a b:Int):Cg .int (.int k a) (.int k' b)=(k=k'):=rfl
@[go_sem] theorem Ur (a b:Bool):Cg .bool (.bool a) (.bool b)=True:=rfl
@[go_sem] theorem adA (k:IntKind) (a b:Int):HH .add k a b=.int k (k.wrap (a+b)):=rfl
@[go_sem] theorem adm (k:IntKind) (a b:Int):HH .sub k a b=.int k (k.wrap (a-b)):=rfl
@[go_sem] theorem acW (k:IntKind) (a b:Int):HH .mul k a b=.int k (k.wrap (a*b)):=rfl
@[go_sem] theorem adq (k:IntKind) (a b:Int):HH .quo k a b=.int k (k.wrap (a.tdiv b)):=rfl
@[go_sem] theorem adp (k:IntKind) (a b:Int):HH .rem k a b=.int k (a.tmod b):=rfl
@[go_sem] theorem aci (k:IntKind) (a b:Int):HH .eql k a b=.bool (a==b):=rfl
@[go_sem] theorem acY (k:IntKind) (a b:Int):HH .neq k a b=.bool (a != b):=rfl
@[go_sem] theorem adj (k:IntKind) (a b:Int):HH .lss k a b=.bool (decide (a < b)):=rfl
@[go_sem] theorem acp (k:IntKind) (a b:Int):HH .leq k a b=.bool (decide (a<=b)):=rfl
@[go_sem] theorem acq (k:IntKind) (a b:Int):HH .gtr k a b=.bool (decide (b < a)):=rfl
@[go_sem] theorem ab' (k:IntKind) (a b:Int):HH .geq k a b=.bool (decide (b<=a)):=rfl
def Ap (k:IntKind) (a b:Int):Int:=k.wrap (a*2 ^ (min b.toNat k.bits))
def xJ (k:IntKind) (a b:Int):Int:=a.fdiv (2 ^ (min b.toNat k.bits))
def Vy (k:IntKind) (a b:Int):Int:=k.wrap (BitVec.ofInt k.bits a &&& BitVec.ofInt k.bits b).toNat
def X0 (k:IntKind) (a b:Int):Int:=k.wrap (BitVec.ofInt k.bits a ||| BitVec.ofInt k.bits b).toNat
def Sw (k:IntKind) (n:Int):Int:=k.wrap (BitVec.ofInt k.bits (if k.signed then -1 else k.max) ^^^ BitVec.ofInt k.bits n).toNat
@[go_sem] theorem acr (k:IntKind) (a b:Int):HH .shl k a b=.int k (Ap k a b):=rfl
@[go_sem] theorem ab7 (k:IntKind) (a b:Int):HH .shr k a b=.int k (xJ k a b):=rfl
@[go_sem] theorem aco (k:IntKind) (a b:Int):HH .and k a b=.int k (Vy k a b):=rfl
@[go_sem] theorem aeJ (k:IntKind) (a b:Int):HH .or k a b=.int k (X0 k a b):=rfl
@[go_sem] theorem ZK (k k':IntKind) (b:Int):kY .add k k' b=(k=k'):=rfl
@[go_sem] theorem Yi (k k':IntKind) (b:Int):kY .sub k k' b=(k=k'):=rfl
@[go_sem] theorem ZC (k k':IntKind) (b:Int):kY .mul k k' b=(k=k'):=rfl
@[go_sem] theorem X5 (k k':IntKind) (b:Int):kY .quo k k' b=(k=k'/\b≠0):=rfl
@[go_sem] theorem Zh (k k':IntKind) (b:Int):kY .rem k k' b=(k=k'/\b≠0):=rfl
@[go_sem] theorem Zm (k k':IntKind) (b:Int):kY .eql k k' b=(k=k'):=rfl
@[go_sem] theorem Zr (k k':IntKind) (b:Int):kY .neq k k' b=(k=k'):=rfl
@[go_sem] theorem Zf (k k':IntKind) (b:Int):kY .lss k k' b=(k=k'):=rfl
@[go_sem] theorem Yk (k k':IntKind) (b:Int):kY .leq k k' b=(k=k'):=rfl
@[go_sem] theorem Zl (k k':IntKind) (b:Int):kY .gtr k k' b=(k=k'):=rfl
@[go_sem] theorem ZF (k k':IntKind) (b:Int):kY .geq k k' b=(k=k'):=rfl
@[go_sem] theorem YD (k k':IntKind) (b:Int):kY .and k k' b=(k=k'):=rfl
@[go_sem] theorem ZV (k k':IntKind) (b:Int):kY .or k k' b=(k=k'):=rfl
@[go_sem] theorem XM (k k':IntKind) (b:Int):kY .shl k k' b=(0<=b):=rfl
@[go_sem] theorem Zy (k k':IntKind) (b:Int):kY .shr k k' b=(0<=b):=rfl
@[go_sem] theorem acO (a b:ByteArray):Zk .add a b=.str (a++b):=rfl
@[go_sem] theorem ab5 (a b:ByteArray):Zk .eql a b=.bool (a.toList==b.toList):=rfl
@[go_sem] theorem adM (a b:ByteArray):Zk .neq a b=.bool (!(a.toList==b.toList)):=rfl
@[go_sem] theorem YG (a b:ByteArray):Ev .add a b=(a.size+b.size<=2 ^ 62):=rfl
@[go_sem] theorem YF (a b:ByteArray):Ev .eql a b=True:=rfl
@[go_sem] theorem XB (a b:ByteArray):Ev .neq a b=True:=rfl
@[go_sem] theorem YC (b:Bool):yV .not (.bool b)=.bool (!b):=rfl
@[go_sem] theorem YI (k:IntKind) (n:Int):yV .neg (.int k n)=.int k (k.wrap (0-n)):=rfl
@[go_sem] theorem XT (k:IntKind) (n:Int):yV .xor (.int k n)=.int k (Sw k n):=rfl
@[go_sem] theorem V7 (b:Bool):pK .not (.bool b)=True:=by simp [pK]
@[go_sem] theorem Xi (k:IntKind) (n:Int):pK .neg (.int k n)=True:=by simp [pK]
@[go_sem] theorem Vq (k:IntKind) (n:Int):pK .xor (.int k n)=True:=by simp [pK]
@[go_sem] theorem ZA (s:Ty) (k k':IntKind) (n:Int):Ez s (.int k) (.int k' n)=.int k (k.wrap n):=rfl
@[go_sem] theorem WQ (k1 k2 k:IntKind) (n:Int):B3 (.int k1) (.int k2) (.int k n)=True:=by simp [B3]
@[go_sem] theorem VE (r o:Nat):Rh (.addr r o)=True:=rfl
def BE:List FT->Nat->Nat
 | [],_=>0
 | x :: _,0=>x.off
 | _ :: r,n+1=>BE r n
theorem AK:∀ (fs:List FT) (f:Nat),((fs[f]?).map (·.off)).getD 0=BE fs f
 | [],f=>by simp [BE]
 | x :: r,0=>by simp [BE]
 | x :: r,n+1=>by simp [BE,AK r n]
@[go_sem] theorem Ze (x:FT) (r:List FT):BE (x :: r) 0=x.off:=rfl
@[go_sem] theorem Y1 (x:FT) (r:List FT) (n:Nat):BE (x :: r) (n+1)=BE r n:=rfl
@[go_sem] theorem abP (fs:List FT) (f r o:Nat):SZ fs f (.addr r o)=.addr r (o+BE fs f):=by simp only [SZ,AK]
@[go_sem] theorem Zd (fs:List FT) (f r z i k:Nat):SZ fs f (.bO r z i k)=.bO r z i (k+BE fs f):=by simp only [SZ,AK]
@[go_sem] theorem Y3 (fs:List FT) (f:Nat) (cs:List D):SZ fs f (.bF cs)=.bF (cs.drop (BE fs f)):=by simp only [SZ,AK]
@[go_sem] theorem XY (fs:List FT) (f r o:Nat):Nv fs f (.addr r o)=(f < fs.length):=rfl
@[go_sem] theorem VU (fs:List FT) (f r z i k:Nat):Nv fs f (.bO r z i k)=(f < fs.length):=rfl
@[go_sem] theorem Ve (fs:List FT) (f:Nat) (cs:List D):Nv fs f (.bF cs)=(f < fs.length):=rfl
@[go_sem] theorem ae4 (t:Ty) (z:Nat) (rows:List (List D)) (k:IntKind) (i:Int):YY t (.sl z rows) (.int k i)=.bF (rows.getD i.toNat []):=rfl
@[go_sem] theorem adn (z b:Nat) (a:Bool) (r:Nat) (k:IntKind) (i:Int):YY (.slice z b a) (.ref r) (.int k i)=.bO r z i.toNat 0:=rfl
@[go_sem] theorem aap (n z:Nat) (a:Bool) (r o:Nat) (k:IntKind) (i:Int):YY (.arr n z a) (.addr r o) (.int k i)=.addr r (o+i.toNat*z):=rfl
@[go_sem] theorem aao (e:Env) (z' b:Nat) (a:Bool) (z:Nat) (rows:List (List D)) (k:IntKind) (i:Int):En e (.slice z' b a) (.sl z rows) (.int k i)=(z=z'/\0<=i/\i < rows.length):=rfl
@[go_sem] theorem Yv (e:Env) (z b:Nat) (a:Bool) (r:Nat) (k:IntKind) (i:Int):En e (.slice z b a) (.ref r) (.int k i)=(0<=i/\MO z i (e.o r)):=rfl
@[go_sem] theorem XW (z:Nat) (i:Int) (z':Nat) (rows:List (List D)):MO z i (.own z' rows)=(z'=z/\i < rows.length):=rfl
@[go_sem] theorem Xq (e:Env) (n z:Nat) (a:Bool) (r o:Nat) (k:IntKind) (i:Int):En e (.arr n z a) (.addr r o) (.int k i)=(0<=i/\i < n):=rfl
@[go_sem] theorem ad1 (n z:Nat) (ea:Bool) (cs:List D) (k:IntKind) (i:Int):Z3 (.arr n z ea) (.agg cs) (.int k i)=part ea (i.toNat*z) z cs:=rfl
@[go_sem] theorem aat (n z:Nat) (ea:Bool) (cs:List D) (k:IntKind) (i:Int):HT (.arr n z ea) (.agg cs) (.int k i)=(0<=i/\i < n/\cs.length=n*z):=rfl
@[go_sem] theorem adg (t:Ty) (s:ByteArray) (k:IntKind) (i:Int):Z3 t (.str s) (.int k i)=.int .u8 ((s[i.toNat]?).map (·.toNat)|>.getD 0):=rfl
@[go_sem] theorem aaB (s:ByteArray) (k:IntKind) (i:Int):HT .str (.str s) (.int k i)=(0<=i/\i < s.size):=by simp [HT]
@[go_sem] theorem ZO (o n:Nat) (cs:List D):part true o n cs=.agg ((cs.drop o).take n):=rfl
@[go_sem] theorem ZM (o n:Nat) (cs:List D):part false o n cs=(cs.drop o).headD .undef:=rfl
def aaF (f:Option FT) (cs:List D):D:=match f with
 | some x=>part x.agg x.off x.sz cs
 | none=>.undef
def PF (f:Option FT) (cs:List D):Prop:=match f with
 | some x=>x.off+x.sz<=cs.length
 | none=>False
@[go_sem] theorem ZS (fs:List FT) (f:Nat) (cs:List D):OY fs f (.agg cs)=aaF fs[f]? cs:=rfl
@[go_sem] theorem XH (fs:List FT) (f:Nat) (cs:List D):Fx fs f (.agg cs)=PF fs[f]? cs:=rfl
@[go_sem] theorem X6 (o s:Nat) (a:Bool) (cs:List D):aaF (some ⟨o,s,a⟩) cs=part a o s cs:=rfl
@[go_sem] theorem Ug (o s:Nat) (a:Bool) (cs:List D):PF (some ⟨o,s,a⟩) cs=(o+s<=cs.length):=rfl
section
variable {e:Env}
@[go_sem] theorem adD (z b:Nat) (a:Bool) (y:Nat) (r:List (List D)):K1 e (.slice z b a) (.sl y r)=.int .i64 r.length:=rfl
@[go_sem] theorem aav (z b:Nat) (a:Bool):K1 e (.slice z b a) .nil=.int .i64 0:=rfl
@[go_sem] theorem abC (z b:Nat) (a:Bool) (r:Nat):K1 e (.slice z b a) (.ref r)=AE (e.o r):=rfl
@[go_sem] theorem TL (z:Nat) (r:List (List D)):AE (.own z r)=.int .i64 r.length:=rfl
@[go_sem] theorem abl (s:ByteArray):K1 e .str (.str s)=.int .i64 s.size:=rfl
@[go_sem] theorem Y7 (z b:Nat) (a:Bool) (y:Nat) (r:List (List D)):u7 e (.slice z b a) (.sl y r)=True:=rfl
@[go_sem] theorem WX (z b:Nat) (a:Bool):u7 e (.slice z b a) .nil=True:=rfl
@[go_sem] theorem WW (z b:Nat) (a:Bool) (r:Nat):u7 e (.slice z b a) (.ref r)=wm (e.o r):=rfl
@[go_sem] theorem Tm (z:Nat) (r:List (List D)):wm (.own z r)=True:=rfl
@[go_sem] theorem Wi (s:ByteArray):u7 e .str (.str s)=True:=rfl
def slX (z z' N:Nat) (lo hi:Int):Prop:=z=z'/\0<=lo/\lo<=hi/\hi<=N
@[go_sem] theorem aef (z z' N:Nat) (lo hi:Int):slX z z' N lo hi=(z=z'/\0<=lo/\lo<=hi/\hi<=N):=rfl
theorem WI (z z' N:Nat) (k:IntKind) (lo:Int) (k':IntKind) (hi:Int):R2 (if z=z' then some N else none) (.int k lo) (.int k' hi) (fun _ _ _=>True)=slX z z' N lo hi:=by
 unfold slX
 by_cases h:z=z'
 ·simp [h,R2]
 ·simp [h,R2]
@[go_sem] theorem afq (z' b:Nat) (a:Bool) (z:Nat) (rows:List (List D)) (k k':IntKind) (lo hi:Int):Uf e (.slice z' b a) (.sl z rows) (.int k lo) (some (.int k' hi))=.sl z ((rows.take hi.toNat).drop lo.toNat):=rfl
@[go_sem] theorem abN (z' b:Nat) (a:Bool) (z:Nat) (rows:List (List D)) (k k':IntKind) (lo hi:Int):wF e (.slice z' b a) (.sl z rows) (.int k lo) (some (.int k' hi))=slX z z' rows.length lo hi:=WI _ _ _ _ _ _ _
@[go_sem] theorem ady (s:ByteArray) (k k':IntKind) (lo hi:Int):Uf e .str (.str s) (.int k lo) (some (.int k' hi))=.str (s.extract lo.toNat hi.toNat):=rfl
@[go_sem] theorem ZD (s:ByteArray) (k k':IntKind) (lo hi:Int):wF e .str (.str s) (.int k lo) (some (.int k' hi))=(0<=lo/\lo<=hi/\hi<=s.size):=by simp [wF,TP,Kl,R2]
@[go_sem] theorem Z1 (s:ByteArray) (k:IntKind) (lo:Int):Uf e .str (.str s) (.int k lo) none=.str (s.extract lo.toNat s.size):=by simp [Uf,Kl,Ii,aaK,QJ]
@[go_sem] theorem Xm (s:ByteArray) (k:IntKind) (lo:Int):wF e .str (.str s) (.int k lo) none=(0<=lo/\lo<=s.size):=by simp [wF,TP,Kl,Ii,R2]
end
@[go_sem] theorem YZ (cs:List D):j3 cs []=cs:=rfl
@[go_sem] theorem Vr (cs:List D) (o s:Nat) (v:D) (r:List (Nat × Nat × D)):j3 cs ((o,s,v) :: r)=j3 (kB cs o v.cells) r:=rfl
@[go_sem] theorem Xe (n:Nat):lN n []=True:=rfl
@[go_sem] theorem Uu (n o s:Nat) (v:D) (r:List (Nat × Nat × D)):lN n ((o,s,v) :: r)=(v.cells.length=s/\o+s<=n/\(∀ c∈v.cells,eG c)/\lN n r):=rfl
@[go_sem] theorem Uq (z:Nat) (cs:List D):rowsOf z 0 cs=[]:=rfl
@[go_sem] theorem TN (z n:Nat) (cs:List D):rowsOf z (n+1) cs=cs.take z :: rowsOf z n (cs.drop z):=rfl
@[go_sem] theorem ac5 (cs:List D) (o:Nat) (xs:List D):kB cs o xs=cs.take o++xs++cs.drop (o+xs.length):=rfl
@[go_sem] theorem WT (a d:D) (l:List D):(a :: l).getD 0 d=a:=rfl
@[go_sem] theorem Vp (a d:D) (l:List D) (n:Nat):(a :: l).getD (n+1) d=l.getD n d:=rfl
@[go_sem] theorem Xo:pG []=True:=rfl
@[go_sem] theorem T0 (k:IntKind) (n:Int) (r:List D):pG (.int k n :: r)=pG r:=rfl
@[go_sem] theorem YA (f:D->D->D) (a b:D):JC f [a,b]=f a b:=rfl
@[go_sem] theorem Xy (k k':IntKind) (x y:Int):Ju (.int k x) (.int k' y)=.int k (max x y):=by
 show D.int k (if y > x then y else x)=_
 congr 1;rw [Int.max_def];split<;>split<;>omega
@[go_sem] theorem XQ (k k':IntKind) (x y:Int):HL (.int k x) (.int k' y)=.int k (min x y):=by
 show D.int k (if y < x then y else x)=_
 congr 1;rw [Int.min_def];split<;>split<;>omega
@[go_sem] theorem Vz (b:Bool):D.cells (.bool b)=[.bool b]:=rfl
@[go_sem] theorem XX (k:IntKind) (m:Int):D.cells (.int k m)=[.int k m]:=rfl
@[go_sem] theorem Xu (s:ByteArray):D.cells (.str s)=[.str s]:=rfl
@[go_sem] theorem Yd:D.cells (.nil)=[.nil]:=rfl
@[go_sem] theorem abb (z:Nat) (rows:List (List D)):D.cells (.sl z rows)=[.sl z rows]:=rfl
@[go_sem] theorem YU (r:Nat):D.cells (.ref r)=[.ref r]:=rfl
@[go_sem] theorem aaP (f:FuncId) (cs:List D):D.cells (.fn f cs)=[.fn f cs]:=rfl
@[go_sem] theorem YJ (cs:List D):D.cells (.agg cs)=cs:=rfl
@[go_sem] theorem UD (b:Bool):eG (.bool b)=True:=rfl
@[go_sem] theorem Vw (k:IntKind) (m:Int):eG (.int k m)=True:=rfl
@[go_sem] theorem Ww (s:ByteArray):eG (.str s)=True:=rfl
@[go_sem] theorem Xd:eG (.nil)=True:=rfl
@[go_sem] theorem Zn (z:Nat) (rows:List (List D)):eG (.sl z rows)=True:=rfl
@[go_sem] theorem VP (r:Nat):eG (.ref r)=True:=rfl
@[go_sem] theorem Ya (f:FuncId) (cs:List D):eG (.fn f cs)=True:=rfl
@[go_sem] theorem T8 (b:Bool):dn (.bool b)=True:=by simp [dn,eG,D.names]
@[go_sem] theorem Wb (k:IntKind) (m:Int):dn (.int k m)=True:=by simp [dn,eG,D.names]
@[go_sem] theorem WE (s:ByteArray):dn (.str s)=True:=by simp [dn,eG,D.names]
@[go_sem] theorem Y4 (z:Nat) (rows:List (List D)):dn (.sl z rows)=True:=by simp [dn,eG,D.names]
end Go.Abs
