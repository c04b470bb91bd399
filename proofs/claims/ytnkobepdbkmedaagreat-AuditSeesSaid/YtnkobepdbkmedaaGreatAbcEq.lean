/- Equality of structs and arrays of plain cells. No theorem of a claim. -/
import Derived.Test.YtnkobepdbkmedaaGreatAbcMem
set_option linter.unusedSimpArgs false
set_option linter.unusedVariables false
namespace Go.Abs
theorem sW:∀ {a b x y:List D},a.length=b.length->bU (a++x) (b++y)=(bU a b&&bU x y)
 | [],[],x,y,_=>by simp [bU]
 | [],_ :: _,_,_,h=>by simp at h
 | _ :: _,[],_,_,h=>by simp at h
 | a :: as,b :: bs,x,y,h=>by simp [bU,sW (a:=as) (b:=bs) (by simpa using h),Bool.and_assoc]
theorem nj:∀ {ls rs:List pE} {x y:List D},dF (ls++rs) x y->dF ls (x.take ls.length) (y.take ls.length)/\dF rs (x.drop ls.length) (y.drop ls.length)
 | [],rs,x,y,h=>by simpa [dF] using h
 | l :: ls,rs,[],y,h=>by simp [dF] at h
 | l :: ls,rs,a :: x,[],h=>by simp [dF] at h
 | l :: ls,rs,a :: x,b :: y,h=>by
  simp only [List.cons_append,dF] at h;obtain ⟨h1,h2⟩:=nj h.2;simp [dF,h.1,h1,h2]
theorem kK:∀ {ls:List pE} {x y:List D},dF ls x y->x.length=ls.length/\y.length=ls.length
 | [],[],[],_=>⟨rfl,rfl⟩
 | [],[],_ :: _,h=>h.elim
 | [],_ :: _,_,h=>h.elim
 | _ :: _,[],_,h=>h.elim
 | _ :: _,_ :: _,[],h=>h.elim
 | l :: ls,a :: x,b :: y,h=>by
  obtain ⟨h1,h2⟩:=kK h.2;simp [h1,h2]
section
variable {P:Program} {w:World} {V:Cx}
def jr (a:Bool) (off sz:Nat) (vs:Array Value):Value:=if a then .agg (vs.extract off (off+sz)) else (vs[off]?).getD Go.undef
theorem tL {t:TypeId} {l:qH} (hl:bQ P t=some l) (vs:Array Value) {off:Nat} (ho:off+l.sz<=vs.size) (h0:1<=l.sz):(Go.part t vs off).run P w=.ok (jr l.agg off l.sz vs) w:=by
 simp only [Go.part,Sem.run_bind,xM hl,jr];cases ha:l.agg with
 | true=>simp [Sem.run_bind,cr hl,Sem.run,pure]
 | false =>
  have hlt:off < vs.size:=by omega
  simp [hlt,Sem.run,pure]
def mS (V:Cx) (vs:Array Value) (off:Nat) (ds:List D):Prop:=off+ds.length<=vs.size/\∀ (j:Nat) d,ds[j]?=some d->∃ u,vs[off+j]?=some u/\aE V u d
theorem mS.sub {vs:Array Value} {off:Nat} {ds:List D} (h:mS V vs off ds) (k n:Nat) (hn:k+n<=ds.length):mS V vs (off+k) ((ds.drop k).take n):=by
 refine ⟨by have:=h.1;simp;omega,?_⟩;intro j d hj;have hlt:j < n:=by have:=(List.getElem?_eq_some_iff.1 hj).1;simp at this;omega
 rw [List.getElem?_take_of_lt hlt,List.getElem?_drop] at hj;obtain ⟨u,hu,hr⟩:=h.2 _ d hj;exact ⟨u,by rw [Nat.add_assoc];exact hu,hr⟩
def Uj (P:Program) (l:pE) (t:TypeId):Prop:=
 match l with
 | .int=>∃ k,P.underlying t=some (.int k)
 | .bool=>P.underlying t=some .bool
 | .str=>P.underlying t=some .string
theorem TF {X:Array Value} {o:Nat} {cs:List D} (hX:mS V X o cs) (sz:Nat) (hc:cs.length=sz):mS V (X.extract o (o+sz)) 0 cs:=by
 refine ⟨by have:=hX.1;simp;omega,?_⟩;intro j d hj;have hlt:=(List.getElem?_eq_some_iff.1 hj).1;obtain ⟨u,hu,hr⟩:=hX.2 j d hj;refine ⟨u,?_,hr⟩;rw [Array.getElem?_extract];rw [if_pos (by have:=hX.1;omega)];simpa using hu
theorem Pm {l:pE} {t:TypeId} {k:Nat} {a b:D} {x y:Value} (hx:aE V x a) (hy:aE V y b) (h:Cg l a b)
  (ht:Uj P l t) :
  (Op.equalIn (k+1) t x y).run P w=.ok (tj a b) w:=by
 cases l<;>cases a<;>(try exact h.elim)<;>cases b<;>(try exact h.elim)
 ·have e:_=_:=h;subst e;rw [hx.dA,hy.dA];obtain ⟨k',hk⟩:=ht;unfold Op.equalIn;simp [Sem.run_bind,bJ hk,tj,Sem.run,pure]
 ·rw [hx.iO,hy.iO];unfold Op.equalIn;simp [Sem.run_bind,bJ ht,tj,Sem.run,pure]
 ·rw [hx.lW,hy.lW];unfold Op.equalIn;simp [Sem.run_bind,bJ ht,tj,Sem.run,pure]
theorem wW (ls:List pE):∀ n,(List.replicate n ls).flatten.length=n*ls.length
 | 0=>by simp
 | n+1=>by simp [List.replicate_succ,wW ls n,Nat.succ_mul,Nat.add_comm]
theorem Cl:∀ (k:Nat) (t:TypeId) (ls:List pE),eY P k t=some ls->1<=ls.length
 | 0,t,ls,h=>by simp [eY] at h
 | k+1,t,ls,h=>by
  unfold eY at h;split at h<;>try (cases h;done)
  ·cases h;simp
  ·cases h;simp
  ·cases h;simp
  ·split at h
   ·cases h
   ·split at h<;>try (cases h;done)
    split at h<;>try (cases h;done)
    rename_i hz;cases h;omega
  ·split at h
   ·cases h
   ·split at h<;>try (cases h;done)
    split at h<;>try (cases h;done)
    rename_i hz;cases h;rw [wW];omega
def KO (m:Nat) (X Y:Array Value) (f:Field) (_s:Option Bool × Unit):Sem (ForInStep (Option Bool × Unit)):=
 if f.name ≠ "_" then do
  let x <- Go.part f.type X f.offset
  let y <- Go.part f.type Y f.offset
  let b <- Op.equalIn m f.type x y
  if (!b)=true then Sem.pure (ForInStep.done (some false,())) else Sem.pure (ForInStep.yield (none,()))
 else Sem.pure (ForInStep.yield (none,()))
def Hw (m:Nat) (X Y:Array Value) (e:TypeId) (sz:Nat) (i:Nat) (_s:Option Bool × Unit):Sem (ForInStep (Option Bool × Unit)):=do
 let x <- Go.part e X (i*sz)
 let y <- Go.part e Y (i*sz)
 let b <- Op.equalIn m e x y
 if (!b)=true then Sem.pure (ForInStep.done (some false,())) else Sem.pure (ForInStep.yield (none,()))
theorem JT {k m:Nat} {X Y:Array Value} (ih:∀ (t:TypeId) (ls:List pE),eY P k t=some ls->∀ (xs ys:Array Value) (ox oy:Nat) (as bs:List D),mS V xs ox as->mS V ys oy bs->dF ls as bs ->
  ∃ l,bQ P t=some l/\l.sz=ls.length/\(Op.equalIn m t (jr l.agg ox l.sz xs) (jr l.agg oy l.sz ys)).run P w=.ok (bU as bs) w) :
  ∀ (fs:List Field) (off:Nat) (ls:List pE) (as bs:List D),qt (eY P k) fs off=some ls->mS V X off as->mS V Y off bs->dF ls as bs ->
   (forIn fs ((none,()):Option Bool × Unit) (KO m X Y)).run P w=.ok (if bU as bs then (none,()) else (some false,())) w
 | [],off,ls,as,bs,h,hx,hy,hok=>by
  simp only [qt,Option.some.injEq] at h;subst h
  match as,bs,hok with
  | [],[],_=>simp [bU,Sem.run,pure]
 | f :: r,off,ls,as,bs,h,hx,hy,hok=>by
  unfold qt at h;split at h<;>try (cases h;done)
  rename_i hf;simp only [Bool.and_eq_true,bne_iff_ne,ne_eq,beq_iff_eq] at hf;split at h<;>try (cases h;done)
  rename_i l1 hl1;cases hrs:qt (eY P k) r (off+l1.length) with
  | none=>rw [hrs] at h;cases h
  | some rs =>
   rw [hrs] at h;cases h;have hlen:=kK hok;obtain ⟨o1,o2⟩:=nj hok;have hxl:l1.length<=as.length:=by rw [hlen.1];simp
   have hyl:l1.length<=bs.length:=by rw [hlen.2];simp
   have hx1:=hx.sub 0 l1.length (by omega);have hy1:=hy.sub 0 l1.length (by omega);simp only [Nat.add_zero,List.drop_zero] at hx1 hy1;obtain ⟨l,hlay,hsz,hrun⟩:=ih f.type l1 hl1 X Y off off _ _ hx1 hy1 o1;have hx2:=hx.sub l1.length (as.length-l1.length) (by omega);have hy2:=hy.sub l1.length (bs.length-l1.length) (by omega);rw [List.take_of_length_le (by simp)] at hx2 hy2;have ih2:=JT ih r (off+l1.length) rs _ _ hrs hx2 hy2 o2;have hz:1<=l.sz:=by rw [hsz];exact Cl k f.type l1 hl1
   have hcell:bU as bs=(bU (as.take l1.length) (bs.take l1.length)&&bU (as.drop l1.length) (bs.drop l1.length)):=by
    rw [<- sW (by simp;omega),List.take_append_drop,List.take_append_drop]
   have px:(Go.part f.type X f.offset).run P w=.ok (jr l.agg off l.sz X) w:=by
    rw [hf.2];exact tL hlay X (by have:=hx.1;omega) hz
   have py:(Go.part f.type Y f.offset).run P w=.ok (jr l.agg off l.sz Y) w:=by
    rw [hf.2];exact tL hlay Y (by have:=hy.1;omega) hz
   rw [List.forIn_cons];simp only [KO,hf.1,ne_eq,not_false_eq_true,if_true,Sem.run_bind,px,py,hrun,Result.andThen_ok];rw [hcell];cases bU (as.take l1.length) (bs.take l1.length) with
   | false=>simp [Sem.run,pure,Sem.pure]
   | true =>
    simp only [Bool.not_true,Bool.false_eq_true,if_false,Bool.true_and];rw [<- ih2];rfl
theorem Fz {m:Nat} {X Y:Array Value} {e:TypeId} {ls:List pE} {l:qH} (hl:bQ P e=some l) (hsz:l.sz=ls.length) (hz:1<=l.sz) (ih:∀ (xs ys:Array Value) (ox oy:Nat) (as bs:List D),mS V xs ox as->mS V ys oy bs->dF ls as bs ->
  (Op.equalIn m e (jr l.agg ox l.sz xs) (jr l.agg oy l.sz ys)).run P w=.ok (bU as bs) w) :
  ∀ (n i:Nat) (as bs:List D),mS V X (i*ls.length) as->mS V Y (i*ls.length) bs->dF (List.replicate n ls).flatten as bs ->
   (forIn (List.range' i n) ((none,()):Option Bool × Unit) (Hw m X Y e l.sz)).run P w=.ok (if bU as bs then (none,()) else (some false,())) w
 | 0,i,as,bs,hx,hy,hok=>by
  match as,bs,hok with
  | [],[],_=>simp [bU,Sem.run,pure]
 | n+1,i,as,bs,hx,hy,hok=>by
  simp only [List.replicate_succ,List.flatten_cons] at hok;have hlen:=kK hok;obtain ⟨o1,o2⟩:=nj hok;have hxl:ls.length<=as.length:=by rw [hlen.1];simp
  have hyl:ls.length<=bs.length:=by rw [hlen.2];simp
  have hx1:=hx.sub 0 ls.length (by omega);have hy1:=hy.sub 0 ls.length (by omega);simp only [Nat.add_zero,List.drop_zero] at hx1 hy1;have hrun:=ih X Y _ _ _ _ hx1 hy1 o1;have hx2:=hx.sub ls.length (as.length-ls.length) (by omega);have hy2:=hy.sub ls.length (bs.length-ls.length) (by omega);rw [List.take_of_length_le (by simp)] at hx2 hy2;have e1:i*ls.length+ls.length=(i+1)*ls.length:=by rw [Nat.succ_mul]
  rw [e1] at hx2 hy2;have ih2:=Fz hl hsz hz ih n (i+1) _ _ hx2 hy2 o2
  have hcell:bU as bs=(bU (as.take ls.length) (bs.take ls.length)&&bU (as.drop ls.length) (bs.drop ls.length)):=by
   rw [<- sW (by simp;omega),List.take_append_drop,List.take_append_drop]
  have px:(Go.part e X (i*l.sz)).run P w=.ok (jr l.agg (i*l.sz) l.sz X) w:=tL hl X (by rw [hsz];have:=hx.1;omega) hz;have py:(Go.part e Y (i*l.sz)).run P w=.ok (jr l.agg (i*l.sz) l.sz Y) w:=tL hl Y (by rw [hsz];have:=hy.1;omega) hz;rw [hsz] at hrun px py ih2 |-;rw [List.range'_succ,List.forIn_cons];simp only [Hw,Sem.run_bind,px,py,hrun,Result.andThen_ok];rw [hcell];cases bU (as.take ls.length) (bs.take ls.length) with
  | false=>simp [Sem.run,pure,Sem.pure]
  | true =>
   simp only [Bool.not_true,Bool.false_eq_true,if_false,Bool.true_and];rw [<- ih2];rfl
theorem oM:∀ (k:Nat) (t:TypeId) (ls:List pE),eY P k t=some ls->∀ (m:Nat),k<=m->∀ (xs ys:Array Value) (ox oy:Nat) (as bs:List D),mS V xs ox as->mS V ys oy bs->dF ls as bs ->
  ∃ l,bQ P t=some l/\l.sz=ls.length/\(Op.equalIn m t (jr l.agg ox l.sz xs) (jr l.agg oy l.sz ys)).run P w=.ok (bU as bs) w
 | 0,t,ls,h=>by simp [eY] at h
 | k+1,t,ls,h=>by
  intro m hm xs ys ox oy as bs hx hy hok;obtain ⟨m,rfl⟩:∃ m',m=m'+1:=⟨m-1,by omega⟩
  have hlen:=kK hok
  have leaf:∀ lf:pE,ls=[lf]->bQ P t=some ⟨false,1⟩->Uj P lf t ->
    ∃ l,bQ P t=some l/\l.sz=ls.length/\(Op.equalIn (m+1) t (jr l.agg ox l.sz xs) (jr l.agg oy l.sz ys)).run P w=.ok (bU as bs) w:=by
   intro lf e hl ht;subst e
   match as,bs,hok,hx,hy with
   | [a],[b],hok,hx,hy =>
    refine ⟨_,hl,rfl,?_⟩;obtain ⟨u,hu,hru⟩:=hx.2 0 a rfl;obtain ⟨v,hv,hrv⟩:=hy.2 0 b rfl;simp only [jr,Bool.false_eq_true,if_false];simp only [Nat.add_zero] at hu hv;rw [hu,hv];rw [Option.getD_some,Option.getD_some,Pm hru hrv hok.1 ht];simp [bU]
  unfold eY at h;split at h<;>try (cases h;done)
  ·rename_i ik hu hl;cases h;exact leaf .int rfl hl ⟨_,hu⟩
  ·rename_i hu hl;cases h;exact leaf .bool rfl hl hu
  ·rename_i hu hl;cases h;exact leaf .str rfl hl hu
  ·-- a struct
   rename_i fs sz hu hl;split at h
   ·cases h
   rename_i hst;split at h<;>try (cases h;done)
   rename_i ls' hfs;split at h<;>try (cases h;done)
   rename_i hsz;cases h;refine ⟨_,hl,hsz.1.symm,?_⟩;simp only [jr,if_true]
   have hst':P.stoodInHeld t=false:=by
    cases e:P.stoodInHeld t with
    | false=>rfl
    | true=>simp [e] at hst
   unfold Op.equalIn;simp only [Sem.run_bind,bJ hu,Result.andThen_ok,program,Sem.run,hst'];have hx':=TF hx sz (by omega);have hy':=TF hy sz (by omega);generalize xs.extract ox (ox+sz)=X at hx' |-;generalize ys.extract oy (oy+sz)=Y at hy' |-;simp only [Bool.false_eq_true,if_false,pure,Sem.run];have hb:=JT (P:=P) (w:=w) (V:=V) (k:=k) (m:=m) (X:=X) (Y:=Y) (fun t ls ht xs ys ox oy as bs hx hy ho=>oM k t ls ht m (by omega) xs ys ox oy as bs hx hy ho) fs.toList 0 _ as bs hfs hx' hy' hok;have hb':(forIn fs ((none,()):Option Bool × Unit) (KO m X Y)).run P w=.ok (if bU as bs then (none,()) else (some false,())) w:=by rw [<- Array.forIn_toList];exact hb
   refine (Sem.run_bind ..).trans ?_;refine (congrArg (fun r=>Result.andThen r _) hb').trans ?_;cases bU as bs<;>rfl
  ·-- an array
   rename_i n e sz hu hl;split at h
   ·cases h
   split at h<;>try (cases h;done)
   rename_i ls' hle;split at h<;>try (cases h;done)
   rename_i hsz;cases h;have hpos:=Cl k e ls' hle;refine ⟨_,hl,by rw [wW];exact hsz.1.symm,?_⟩;simp only [jr,if_true];unfold Op.equalIn;have hlen2:as.length=sz/\bs.length=sz:=by rw [wW] at hlen;omega
   have hx':=TF hx sz (by omega);have hy':=TF hy sz (by omega);generalize xs.extract ox (ox+sz)=X at hx' |-;generalize ys.extract oy (oy+sz)=Y at hy' |-
   have hn:1<=n:=by
    rcases Nat.eq_zero_or_pos n with h0 | h0
    ·rw [h0] at hsz;omega
    ·exact h0
   have hle':∃ l,bQ P e=some l/\l.sz=ls'.length:=by
    have hx0:=hx'.sub 0 ls'.length (by rw [Nat.zero_add,hlen2.1,<- hsz.1];exact Nat.le_mul_of_pos_left _ hn);have hy0:=hy'.sub 0 ls'.length (by rw [Nat.zero_add,hlen2.2,<- hsz.1];exact Nat.le_mul_of_pos_left _ hn)
    have ho:dF ls' ((as.drop 0).take ls'.length) ((bs.drop 0).take ls'.length):=by
     obtain ⟨n',rfl⟩:∃ n',n=n'+1:=⟨n-1,by omega⟩
     rw [List.replicate_succ,List.flatten_cons] at hok;exact (nj hok).1
    obtain ⟨l,h1,h2,_⟩:=oM k e ls' hle m (by omega) X Y _ _ _ _ hx0 hy0 ho;exact ⟨l,h1,h2⟩
   obtain ⟨l,hlay,hlsz⟩:=hle'
   have hb:=Fz (P:=P) (w:=w) (V:=V) (m:=m) (X:=X) (Y:=Y) hlay hlsz (by omega) (fun xs ys ox oy as bs hx hy ho=>by
    obtain ⟨l',h1,_,h3⟩:=oM k e ls' hle m (by omega) xs ys ox oy as bs hx hy ho;rw [hlay] at h1;cases h1
    exact h3) n 0 as bs (by simpa using hx') (by simpa using hy') hok
   simp only [Sem.run_bind,bJ hu,Result.andThen_ok,cr hlay]
   have hb':(forIn [0:n] ((none,()):Option Bool × Unit) (Hw m X Y e l.sz)).run P w=.ok (if bU as bs then (none,()) else (some false,())) w:=by
    rw [Std.Legacy.Range.forIn_eq_forIn_range'];simpa [Std.Legacy.Range.size] using hb
   refine (congrArg (fun r=>Result.andThen r _) hb').trans ?_;cases bU as bs<;>rfl
theorem Kh {t:TypeId} (h:isIface P t=true):∃ ms,P.underlying t=some (.interface ms):=by
 unfold isIface at h;split at h
 ·exact ⟨_,by assumption⟩
 ·cases h
theorem N3 {t:TypeId} (h:J6 (bM P t)):∃ e,P.underlying t=some (.pointer e):=by
 have h':bM P t=.ptr:=by
  cases e:bM P t<;>rw [e] at h<;>first | rfl | exact h.elim
 unfold bM at h';split at h'<;>first | cases h' | skip
 all_goals first
  | exact ⟨_,by assumption⟩
  | (exfalso;revert h';(repeat' split)<;>simp)
theorem KF {c:Bool} {op:BinOp} {t:TypeId} {x y:Value} {a b:D} (hx:aE V x a) (hy:aE V y b) (h:sx P c op t a b) (w:World) :
  ∃ u,(binOp op t x y).run P w=.ok u w/\aE V u (xX op a b):=by
 have base:Cr op (bM P t) a b->∃ u,(binOp op t x y).run P w=.ok u w/\aE V u (xX op a b):=fun h=>OZ hx hy h w
 have iface:∀ r:Bool,isEq op->(Op.equal t x y).run P w=.ok r w->(∃ p q,x=.iface p q\/x=.nilIface)->(∃ p q,y=.iface p q\/y=.nilIface)->∃ u,(binOp op t x y).run P w=.ok u w/\aE V u (HN op r):=by
  rintro r ho he ⟨p,q,hxx⟩ ⟨p',q',hyy⟩
  rcases ho with rfl | rfl<;>rcases hxx with rfl | rfl<;>rcases hyy with rfl | rfl <;>
   first
   | exact ⟨.bool r,by simp [binOp,Sem.run_bind,he,Sem.run,pure],.bool _⟩
   | exact ⟨.bool (!r),by simp [binOp,Sem.run_bind,he,Sem.run,pure],.bool _⟩
 have ptr:∀ r:Bool,isEq op->(Op.equal t x y).run P w=.ok r w->(∃ p,x=.pointer p)->(∃ p,y=.pointer p)->∃ u,(binOp op t x y).run P w=.ok u w/\aE V u (HN op r):=by
  rintro r ho he ⟨p,hxx⟩ ⟨p',hyy⟩
  subst hxx;subst hyy;rcases ho with rfl | rfl
  ·exact ⟨.bool r,by simp [binOp,Sem.run_bind,he,Sem.run,pure],.bool _⟩
  ·exact ⟨.bool (!r),by simp [binOp,Sem.run_bind,he,Sem.run,pure],.bool _⟩
 have ifeq:∀ u v:Value,isIface P t=true->x=u->y=v->∀ r:Bool,((u=.nilIface/\v=.nilIface/\r=true)\/(∃ p q,u=.iface p q/\v=.nilIface/\r=false)\/(∃ p q,u=.nilIface/\v=.iface p q/\r=false))->(Op.equal t x y).run P w=.ok r w:=by
  rintro u v hi rfl rfl r hr
  obtain ⟨ms,hu⟩:=Kh hi
  show (Op.equalIn (9999+1) t _ _).run P w=_
  rcases hr with ⟨rfl,rfl,rfl⟩ | ⟨p,q,rfl,rfl,rfl⟩ | ⟨p,q,rfl,rfl,rfl⟩<;>(unfold Op.equalIn;simp only [Sem.run_bind,bJ hu,Result.andThen_ok];rfl)
 have ptreq:∀ u v:Option Addr,J6 (bM P t)->x=.pointer u->y=.pointer v->v=none->(Op.equal t x y).run P w=.ok u.isNone w:=by
  rintro u v hi rfl rfl rfl
  obtain ⟨ms,hu⟩:=N3 hi
  show (Op.equalIn (9999+1) t _ _).run P w=_
  cases u<;>(unfold Op.equalIn;simp only [Sem.run_bind,bJ hu,Result.andThen_ok];rfl)
 cases a<;>cases b<;>(try exact base h)<;>(try exact h.elim)
 all_goals simp only [sx] at h
 ·obtain ⟨ho,hi,_⟩:=h;cases hx;cases hy;exact iface true ho (ifeq _ _ hi rfl rfl true (.inl ⟨rfl,rfl,rfl⟩)) ⟨0,.nilIface,.inr rfl⟩ ⟨0,.nilIface,.inr rfl⟩
 ·obtain ⟨ho,hi⟩:=h;cases hx;cases hy;exact iface false ho (ifeq _ _ hi rfl rfl false (.inr (.inr ⟨_,_,rfl,rfl,rfl⟩))) ⟨0,.nilIface,.inr rfl⟩ ⟨_,_,.inl rfl⟩
 ·obtain ⟨ho,hi⟩:=h;cases hx;cases hy;exact iface false ho (ifeq _ _ hi rfl rfl false (.inr (.inl ⟨_,_,rfl,rfl,rfl⟩))) ⟨_,_,.inl rfl⟩ ⟨0,.nilIface,.inr rfl⟩
 ·obtain ⟨ho,hi⟩:=h;cases hx;cases hy;exact ptr true ho (ptreq _ _ hi rfl rfl rfl) ⟨_,rfl⟩ ⟨_,rfl⟩
 ·-- structs
  rename_i as bs;obtain ⟨ho,hag,hl⟩:=h;unfold pX at hl;split at hl
  ·rename_i ls hls;obtain ⟨vs,rfl,hs,hr⟩:=hx.lX;obtain ⟨us,rfl,hs',hr'⟩:=hy.lX
   have hat:∀ (vs:Array Value) (ds:List D),vs.size=ds.length->(∀ (i:Nat) v d,vs[i]?=some v->ds[i]?=some d->aE V v d)->mS V vs 0 ds:=by
    intro vs ds h1 h2;refine ⟨by omega,?_⟩;intro j d hj;have hlt:j < vs.size:=by rw [h1];exact (List.getElem?_eq_some_iff.1 hj).1
    exact ⟨vs[j],by simp [hlt],h2 j _ d (by simp [hlt]) hj⟩
   obtain ⟨l,h1,h2,h3⟩:=oM (P:=P) (w:=w) (V:=V) 9 t ls hls 10000 (by omega) vs us 0 0 as bs (hat _ _ hs hr) (hat _ _ hs' hr') hl;have hlen:=kK hl;have hagg:l.agg=true:=by simpa [oW,h1] using hag
   have he:(Op.equal t (.agg vs) (.agg us)).run P w=.ok (bU as bs) w:=by
     have e1:jr l.agg 0 l.sz vs=.agg vs:=by simp [jr,hagg];right;omega
     have e2:jr l.agg 0 l.sz us=.agg us:=by simp [jr,hagg];right;omega
     rw [e1,e2] at h3;exact h3
   rcases ho with rfl | rfl
   ·exact ⟨.bool _,by simp [binOp,Sem.run_bind,he,Sem.run,pure],.bool _⟩
   ·exact ⟨.bool _,by simp [binOp,Sem.run_bind,he,Sem.run,pure],.bool _⟩
  ·exact hl.elim
 ·obtain ⟨ho,hi⟩:=h;obtain ⟨ad,rfl,_⟩:=hx.lR;cases hy;exact ptr false ho (ptreq _ _ hi rfl rfl rfl) ⟨_,rfl⟩ ⟨_,rfl⟩
 ·obtain ⟨ho,hi⟩:=h;obtain ⟨ad,_,rfl⟩:=hx.gY;cases hy;exact ptr false ho (ptreq _ _ hi rfl rfl rfl) ⟨_,rfl⟩ ⟨_,rfl⟩
theorem FN {t:TypeId} {ls:List pE} (h:eY P 9 t=some ls) (ha:oW P t=true):P.eqGuardType P.depth t=false:=by
 unfold eY at h;unfold oW at ha;split at h<;>try (cases h;done)
 ·rename_i hl;rw [hl] at ha;cases ha
 ·rename_i hl;rw [hl] at ha;cases ha
 ·rename_i hl;rw [hl] at ha;cases ha
 ·split at h
  ·cases h
  ·rename_i hh;simp only [Bool.or_eq_true,not_or,Bool.not_eq_true] at hh;exact hh.2
 ·split at h
  ·cases h
  ·rename_i hh;simpa using hh
theorem GW {op:BinOp} {t:TypeId} {ox oy:Operand} {x y:Value} {a b:D} (hx:aE V x a) (hy:aE V y b) (h:sx P (isConst ox||isConst oy) op t a b) (w:World) :
  (eqGuard op t ox oy x y).run P w=.ok () w:=by
 have base:Cr op (bM P t) a b->(eqGuard op t ox oy x y).run P w=.ok () w:=fun h=>by
  cases a<;>try exact h.elim
  all_goals (cases b<;>try exact h.elim)
  ·rw [hx.iO,hy.iO];cases op<;>simp [eqGuard,Sem.run,pure]
  ·rw [hx.dA,hy.dA];cases op<;>simp [eqGuard,Sem.run,pure]
  ·rw [hx.lW,hy.lW];cases op<;>simp [eqGuard,Sem.run,pure]
 cases a<;>cases b<;>(try exact base h)<;>(try exact h.elim)
 all_goals simp only [sx] at h
 ·obtain ⟨ho,hi,hc⟩:=h;cases hx;cases hy;clear base;rcases ho with rfl | rfl<;>revert hc<;>cases ox<;>cases oy<;>simp [isConst,eqGuard,Sem.run_bind,Sem.run,pure]
 ·cases hx;cases hy;cases op<;>simp [eqGuard,Sem.run,pure]
 ·cases hx;cases hy;cases op<;>simp [eqGuard,Sem.run,pure]
 ·cases hx;cases hy;cases op<;>simp [eqGuard,Sem.run,pure]
 ·obtain ⟨ho,hag,hl⟩:=h;unfold pX at hl;split at hl
  ·rename_i ls hls;obtain ⟨vs,rfl,_⟩:=hx.lX;obtain ⟨us,rfl,_⟩:=hy.lX;have hg:=FN hls hag;rcases ho with rfl | rfl<;>simp [eqGuard,Sem.run_bind,program,hg,Sem.run,pure]
  ·exact hl.elim
 ·obtain ⟨ad,rfl,_⟩:=hx.lR;cases hy;cases op<;>simp [eqGuard,Sem.run,pure]
 ·obtain ⟨ad,_,rfl⟩:=hx.gY;cases hy;cases op<;>simp [eqGuard,Sem.run,pure]
end
end Go.Abs
