/- Statements, loops and functions, told as data. No theorem of a claim. -/
import Derived.Test.YtnkobepdbkmedaaGreatDoorAbcCode
set_option linter.unusedSimpArgs false
set_option linter.unusedVariables false
namespace Go.Abs
def QT (t:Bool) (a b:Prop):Prop:=(t=true->a)/\(t=false->b)
def qP (K:Env->Prop) (Q:Exit->Env->Prop):Exit->Env->Prop
 | .normal,e=>K e
 | x,e=>Q x e
def nx (id:Nat) (Q:Exit->Env->Prop):Exit->Env->Prop
 | .exit id',e=>if id'=id then Q .normal e else Q (.exit id') e
 | x,e=>Q x e
abbrev EL:=List (Nat × D)
def ah {T:Type} (ts os:T->EL) (I:T->Prop) (m:T->Nat) (s:T) (e:Env):Prop:=∃ s',I s'/\PG e (ts s') (os s')/\m s' < m s
def tT {T:Type} (ts os:T->EL) (I:T->Prop) (m:T->Nat) (s:T) (Q:Exit->Env->Prop):Exit->Env->Prop
 | .normal,e=>ah ts os I m s e
 | x,e=>Q x e
def aC (body:(Exit->Env->Prop)->Env->Prop) (Q:Exit->Env->Prop) (e:Env):Prop:=
 ∃ (T:Type) (ts os:T->EL) (I:T->Prop) (m:T->Nat) (s0:T),I s0/\PG e (ts s0) (os s0)/\∀ s,I s->body (tT ts os I m s Q) (vl (ts s) (os s))
def fu (K:Env->Prop) (e:Env):Prop:=K e\/∃ ts os,PG e ts os/\K (vl ts os)
def Xu (np:Nat) (ops:Array Oper):Prop:=BI np ops=true
def falls:Code->Bool
 | .seq a b=>falls a&&falls b
 | .cond _ a b=>falls a||falls b
 | .exit _=>false
 | .ret=>false
 | _=>true
def JE:Code->Bool
 | .cond _ a b=>falls a&&falls b
 | .block _ (.cond _ a b)=>falls a&&falls b
 | .block _ (.loop _)=>true
 | _=>false
def mo (P:Program) (n np:Nat):Code->(Exit->Env->Prop)->Env->Prop
 | .skip,Q,e=>Q .normal e
 | .region _ ops draw,Q,e=>if draw then Xu np ops/\lG P n np ops.toList ops.toList e (Q .normal) else wpList P n ops.toList ops.toList e (Q .normal)
 | .seq a b,Q,e=>mo P n np a (qP (if JE a then fu (mo P n np b Q) else mo P n np b Q) Q) e
 | .cond c a b,Q,e=>match rd e c with
  | .bool t=>QT t (mo P n np a Q e) (mo P n np b Q e)
  | _=>False
 | .block id a,Q,e=>mo P n np a (nx id Q) e
 | .loop a,Q,e=>aC (mo P n np a) Q e
 | .exit id,Q,e=>Q (.exit id) e
 | .ret,Q,e=>Q .ret e
 | .rangeFunc _ _ _ _,_,_=>False
 | .scope _,_,_=>False
 | .label _,_,_=>False
 | .goto _,_,_=>False
 | .refuse _,_,_=>False
section
variable {P:Program} {n np:Nat} {w0 w w':World} {l0:Nat->Option Nat} {G:Nat->Option (Nat × Nat)} {S0:Nat->Option Value} {lev lev' own own':Nat->Option Nat} {S S':Nat->Option Value} {env env':Env} {tm tm':Nat->Value}
theorem RO {c:Code} {Q:Exit->Act->World->Prop} {a:Act} {w:World} {S:Type} (I:S->Act->World->Prop) (m:S->Nat) (s0:S) (h₀:I s0 a w)
  (round:∀ s a w,I s a w->c.wp P (Exit.then (fun a' w'=>∃ s',I s' a' w'/\m s' < m s) Q) a w):(Code.loop c).wp P Q a w:=by
 intro b k cs
 have key:∀ n s a w,m s=n->I s a w ->
   ∃ e a' w',Q e a' w'/\Arrives P (lone (b.at a (.code c :: .inLoop c :: k)) cs w) b k cs e a' w':=by
  intro n
  induction n using Nat.strongRecOn with
  | _ n ih =>
   intro s a w hn hI;obtain ⟨e,a₁,w₁,hq,harr⟩:=round s a w hI b (.inLoop c :: k) cs;cases e with
   | normal =>
    obtain ⟨s',hI₁,hlt⟩:=hq;obtain ⟨e₂,a₂,w₂,hq₂,harr₂⟩:=ih (m s') (hn ▸ hlt) s' a₁ w₁ rfl hI₁;exact ⟨e₂,a₂,w₂,hq₂,.of_steps (Steps.trans harr (.one step_inLoop)) harr₂⟩
   | exit id=>exact ⟨_,a₁,w₁,hq,.pass (x:=.inLoop c) rfl (fun _ _=>.inl (by simp)) harr⟩
   | goto l=>exact ⟨_,a₁,w₁,hq,.pass (x:=.inLoop c) rfl (fun _ _=>.inl (by simp)) harr⟩
   | ret=>exact ⟨_,a₁,w₁,hq,.pass (x:=.inLoop c) rfl (fun _ _=>.inl (by simp)) harr⟩
   | panic ch=>exact ⟨_,a₁,w₁,hq,.pass (x:=.inLoop c) rfl (fun _ _=>.inl (by simp)) harr⟩
   | outgrown=>exact ⟨_,a₁,w₁,hq,.pass (x:=.inLoop c) rfl (fun _ _=>.inl (by simp)) harr⟩
 obtain ⟨e,a',w',hq,harr⟩:=key _ s0 a w rfl h₀;exact ⟨e,a',w',hq,.of_steps (.one step_loop) harr⟩
theorem SX (hm:P.follows .mixedOrders=true):∀ (c:Code) (Qa:Exit->Env->Prop) (Q:Exit->Act->World->Prop) (env:Env) lev own S w (a:Act),Inv w0 l0 G S0 w lev own S env (j8 a.tmps)->a.tmps.size=n->a.defers=[] ->
  (∀ x,Cont n w0 l0 G S0 (Qa x) (Q x))->mo P n np c Qa env->c.wp P Q a w:=by
 intro c
 induction c with
 | skip=>intro Qa Q env lev own S w a h hn hd hc hk;exact wp_skip (hc .normal _ _ _ _ _ a hn hd h hk)
 | region id ops draw =>
  intro Qa Q env lev own S w a h hn hd hc hk;unfold mo at hk;cases draw with
  | false =>
   simp only [Bool.false_eq_true,if_false] at hk;refine wp_region ?_;have:=AO (P:=P) (ops:=ops) (Q:=Q) (hc .normal) ops.toList 0 rfl env lev own S w a h hn hd hk;rw [<- List.range_eq_range'] at this;simpa using this
  | true =>
   simp only [if_true] at hk;refine wp_region_any hm ?_
   have hR:(List.range ops.size).filter (fun i=>!(Array.replicate ops.size false).getD i true)=List.range ops.size:=by
    rw [List.filter_eq_self];intro i hi;have:=List.mem_range.1 hi;simp [Array.getD_eq_getD_getElem?,Array.getElem?_replicate,this]
   refine Ul (np:=np) hk.1 (hc .normal) ops.size _ env lev own S _ a (by simp) (by intro k y _ hl;simp [Array.getD_eq_getD_getElem?,Array.getElem?_replicate] at hl;split at hl<;>simp at hl) (by rw [hR];simp) h.drew hn hd ?_;rw [hR];have:=zX ops.toList 0 env (Qa .normal) rfl hk.2;rw [<- List.range_eq_range'] at this;simpa using this
 | seq x y ihx ihy =>
  intro Qa Q env lev own S w a h hn hd hc hk;refine wp_seq (ihx _ _ env lev own S w a h hn hd ?_ hk);intro e;cases e<;>try exact hc _
  intro e' lev' own' S' w' a' hn' hd' hi hK;simp only [qP] at hK;split at hK
  ·rcases hK with hK | ⟨ts,os,hle,hK⟩
   ·exact ihy _ _ e' lev' own' S' w' a' hi hn' hd' hc hK
   ·obtain ⟨rh,hle⟩:=hle.le;obtain ⟨own2,S2,hi2⟩:=hi.le hle;exact ihy _ _ _ lev' own2 S2 w' a' hi2 hn' hd' hc hK
  ·exact ihy _ _ e' lev' own' S' w' a' hi hn' hd' hc hK
 | cond c x y ihx ihy =>
  intro Qa Q env lev own S w a h hn hd hc hk;unfold mo at hk;have hop:=h.KE a rfl c;cases hx:rd env c<;>rw [hx] at hk hop<;>try exact hk.elim
  rename_i t;refine wp_cond_split hop.jd ?_ ?_
  ·intro ht;exact ihx _ _ env lev own S w a h hn hd hc (hk.1 ht)
  ·intro ht;exact ihy _ _ env lev own S w a h hn hd hc (hk.2 ht)
 | block id x ih =>
  intro Qa Q env lev own S w a h hn hd hc hk;refine wp_block (ih _ _ env lev own S w a h hn hd ?_ hk);intro e;cases e<;>try exact hc _
  rename_i id';intro e' lev' own' S' w' a' hn' hd' hi hK;simp only [Exit.inBlock,nx] at hK |-;split
  ·rename_i hid;rw [if_pos hid] at hK;exact hc .normal e' lev' own' S' w' a' hn' hd' hi hK
  ·rename_i hid;rw [if_neg hid] at hK;exact hc (.exit id') e' lev' own' S' w' a' hn' hd' hi hK
 | loop x ih =>
  intro Qa Q env lev own S w a h hn hd hc hk;obtain ⟨T,ts,os,I,m,s0,hI,hle,hround⟩:=hk;obtain ⟨rh,hle⟩:=hle.le;obtain ⟨own1,S1,h1⟩:=h.le hle;refine RO (fun s a w=>I s/\a.tmps.size=n/\a.defers=[]/\∃ lev own S,Inv w0 l0 G S0 w lev own S (vl (ts s) (os s)) (j8 a.tmps)) m s0 ⟨hI,hn,hd,lev,own1,S1,h1⟩ ?_
  rintro s a w ⟨hs,hn,hd,lev,own,S,hi⟩
  refine ih _ _ _ lev own S w a hi hn hd ?_ (hround s hs);intro e;cases e<;>try exact hc _
  intro e' lev' own' S' w' a' hn' hd' hi' hK;obtain ⟨s',hs',hle',hlt⟩:=hK;obtain ⟨rh',hle'⟩:=hle'.le;obtain ⟨own2,S2,h2⟩:=hi'.le hle';exact ⟨s',⟨hs',hn',hd',lev',own2,S2,h2⟩,hlt⟩
 | exit id=>intro Qa Q env lev own S w a h hn hd hc hk;exact wp_exit (hc (.exit id) _ _ _ _ _ a hn hd h hk)
 | ret=>intro Qa Q env lev own S w a h hn hd hc hk;exact wp_ret (hc .ret _ _ _ _ _ a hn hd h hk)
 | rangeFunc f ps x y ih1 ih2=>intro Qa Q env lev own S w a h hn hd hc hk;exact hk.elim
 | scope x ih=>intro Qa Q env lev own S w a h hn hd hc hk;exact hk.elim
 | label l=>intro Qa Q env lev own S w a h hn hd hc hk;exact hk.elim
 | goto l=>intro Qa Q env lev own S w a h hn hd hc hk;exact hk.elim
 | refuse s=>intro Qa Q env lev own S w a h hn hd hc hk;exact hk.elim
def Tc:Nat->List D->EL
 | _,[]=>[]
 | k,d :: ds=>(k,d) :: Tc (k+1) ds
def so:Nat->List D->EL
 | _,[]=>[]
 | k,d :: ds=>if cZ d then so (k+1) ds else (k,d) :: so (k+1) ds
theorem LD:∀ (ds:List D) (k i:Nat),look (Tc k ds) i=if k<=i then ds.getD (i-k) .undef else .undef
 | [],k,i=>by simp [Tc,look]
 | d :: ds,k,i=>by
  simp only [Tc,look];rw [LD ds (k+1) i]
  by_cases h:i=k
  ·subst h;simp
  ·by_cases h2:k<=i
   ·have e1:i-k=(i-(k+1))+1:=by omega
    rw [if_neg h,if_pos (by omega),if_pos h2,e1];simp
   ·rw [if_neg h,if_neg (by omega),if_neg h2]
theorem oX:∀ (ds:List D) (k i:Nat),look (so k ds) i=if k<=i then ds.getD (i-k) .undef else .undef
 | [],k,i=>by simp [so,look]
 | d :: ds,k,i=>by
  simp only [so];have ih:=oX ds (k+1) i
  by_cases hu:cZ d=true
  ·rw [if_pos hu,ih];have:=uY.1 hu;subst this
   by_cases h:i=k
   ·subst h;rw [if_neg (by omega)];simp
   ·by_cases h2:k<=i
    ·have e1:i-k=(i-(k+1))+1:=by omega
     rw [if_pos (by omega),if_pos h2,e1];simp
    ·rw [if_neg (by omega),if_neg h2]
  ·rw [if_neg hu];simp only [look];rw [ih]
   by_cases h:i=k
   ·subst h;simp
   ·by_cases h2:k<=i
    ·have e1:i-k=(i-(k+1))+1:=by omega
     rw [if_neg h,if_pos (by omega),if_pos h2,e1];simp
    ·rw [if_neg h,if_neg (by omega),if_neg h2]
def Fk (P:Program) (e:Env):ResultVar->D
 | .tmp t=>e.t t
 | .cell a t=>match bX P t with
  | some l=>WD e l (e.t a)
  | none=>.undef
def He (P:Program) (e:Env):ResultVar->Prop
 | .tmp _=>True
 | .cell a t=>match bX P t with
  | some l=>JY e l (e.t a)
  | none=>False
def KY (P:Program) (e:Env) (rs:List ResultVar):D:=
 match rs with
 | [r]=>Fk P e r
 | rs=>.bI (rs.map (Fk P e))
def yc (P:Program) (e:Env):List ResultVar->Prop
 | []=>True
 | r :: rs=>He P e r/\yc P e rs
def yV (v:D) (e:Env):Env:=⟨fun j=>if j=0 then v else .undef,e.o⟩
def Tg (P:Program) (rs:List ResultVar) (m:Nat) (hs':List D) (d:D) (e:Env):Prop:=yc P e rs/\Norm (KY P e rs) fun v=>Th m (yV v e) [(0,d)] (so 0 hs')
def TP (P:Program) (rs:List ResultVar) (m:Nat) (hs':List D) (d:D):Exit->Env->Prop
 | .normal,e=>Tg P rs m hs' d e
 | .ret,e=>Tg P rs m hs' d e
 | _,_=>False
theorem WX {tmps:Array Value} (h:Inv w0 l0 G S0 w lev own S env (j8 tmps)) (r:ResultVar) (hr:He P env r) :
  ∃ v,(match r with | .tmp t=>pure (tmps.getD t Go.undef) | .cell a t=>do loadVar t (<- asAddr (tmps.getD a Go.undef)):Sem Value).run P w=.ok v w/\aE (cx w lev S) v (Fk P env r):=by
 cases r with
 | tmp t=>exact ⟨tmps.getD t Go.undef,rfl,h.lU t⟩
 | cell a t =>
  simp only [He] at hr;cases hl:bX P t with
  | none=>rw [hl] at hr;exact hr.elim
  | some l =>
   rw [hl] at hr;simp only at hr;obtain ⟨u,hrun,hu⟩:=UJ (P:=P) h hl (h.lU a) hr
   have hptr:∃ ad,j8 tmps a=.pointer (some ad):=by
    have ht:=h.lU a;generalize j8 tmps a=v at ht;cases hx:env.t a<;>rw [hx] at hr ht<;>simp only [JY] at hr
    ·obtain ⟨ad,hv,_⟩:=ht.mg;exact ⟨ad,hv⟩
    ·obtain ⟨ad,_,hv⟩:=ht.iK;exact ⟨_,hv⟩
    ·obtain ⟨ad,_,_,_,hv⟩:=ht.jD;exact ⟨_,hv⟩
   obtain ⟨ad,hv⟩:=hptr;refine ⟨u,?_,by simp only [Fk,hl];exact hu⟩;have hv':tmps.getD a Go.undef=.pointer (some ad):=hv;rw [hv] at hrun;simp only [hv'];simpa [Instr.loadAt,Sem.run_bind,asAddr,Instr.sureAddr,Sem.run,pure] using hrun
theorem Spec.of_wp (hm : P.follows .mixedOrders = true) {f : FuncId} {fn : Func} {c : Code} (hf : P.funcs[f]? = some fn) (hb : fn.body = some c) (hname : (fn.name == "runtime.NumGoroutine") = false) {hs ds hs' : List D} {d : D}
  (hlen:ds.length<=fn.ntmps) (h16:hs.length<=16) (hw:mo P fn.ntmps ds.length c (TP P fn.results.toList hs.length hs' d) (vl (Tc 0 ds) (so 0 hs))):Spec P f hs ds hs' d:=by
 refine ⟨⟨fn,hf,by rw [hb];rfl,hname⟩,?_⟩;intro w l0 G0 own0 S0 vs hT hl0 hG hsz hr hobj
 let tmps:=vs++Array.replicate (fn.ntmps-vs.size) Go.undef
 have htm:∀ i,j8 tmps i=vs.getD i Go.undef:=by
  intro i;simp only [j8,tmps,Array.getD_eq_getD_getElem?,Array.getElem?_append]
  by_cases h:i < vs.size
  ·simp [h]
  ·simp [h,Array.getElem?_replicate];split<;>rfl
 have hinv:Inv w l0 G0 S0 w l0 own0 S0 (vl (Tc 0 ds) (so 0 hs)) (j8 tmps):=by
  refine ⟨⟨rfl,hT⟩,rfl,rfl,Nat.le_refl _,fun _ _ _=>rfl,hG,hl0,fun _ _ _=>rfl,fun _ _ _=>rfl,?_,?_⟩
  ·intro s
   show aE _ _ (look (Tc 0 ds) s)
   rw [LD,htm];simp only [Nat.zero_le,if_true,Nat.sub_zero]
   by_cases h:s < ds.length
   ·have e:ds.getD s .undef=ds[s]:=by simp [List.getD,h]
    have e2:vs.getD s Go.undef=vs[s]:=by simp [Array.getD,show s < vs.size by omega]
    rw [e,e2];exact hr s _ _ (by simp [show s < vs.size by omega]) (List.getElem?_eq_getElem h)
   ·have e:ds.getD s .undef=.undef:=by simp [List.getD,h]
    rw [e];exact .undef _
  ·intro r
   show kf _ _ _ _ _ _ r (look (so 0 hs) r)
   rw [oX];simp only [Nat.zero_le,if_true,Nat.sub_zero];exact hobj r
 have htmn:tmps.size=fn.ntmps:=by simp [tmps];omega
 refine calls_of_wp hf hb ?_;refine SX hm c (TP P fn.results.toList hs.length hs' d) _ _ l0 own0 S0 w ⟨tmps,[]⟩ hinv htmn rfl ?_ hw
 have fin:∀ (e':Env) lev' own' S' w' (a':Act),a'.tmps.size=fn.ntmps->a'.defers=[]->Inv w l0 G0 S0 w' lev' own' S' e' (j8 a'.tmps)->Tg P fn.results.toList hs.length hs' d e' ->
   a'.defers=[]/\∃ v,(results fn a'.tmps).run P w'=.ok v w'/\∃ v',Ending.returned v=.returned v'/\Out hs.length hs' w l0 G0 S0 w' v' d:=by
  intro e' lev' own' S' w' a' hn' hd' hi ⟨hok,hle⟩;refine ⟨hd',?_⟩
  have hres:∀ (rs:List ResultVar),yc P e' rs->∀ acc:Array Value,∃ us:List Value,
    (rs.foldlM (fun (acc:Array Value) r=>do pure (acc.push (<- (match r with | .tmp t=>pure (a'.tmps.getD t Go.undef) | .cell a t=>do loadVar t (<- asAddr (a'.tmps.getD a Go.undef)):Sem Value)))) acc:Sem (Array Value)).run P w'=.ok (acc++us.toArray) w' /\
    us.length=rs.length/\∀ (i:Nat) u r,us[i]?=some u->rs[i]?=some r->aE (cx w' lev' S') u (Fk P e' r):=by
   intro rs
   induction rs with
   | nil=>intro _ acc;exact ⟨[],by simp [Sem.run,pure],rfl,by intro i u r h;simp at h⟩
   | cons r rs ih =>
    intro hok acc;obtain ⟨v,hv,hrep⟩:=WX hi r hok.1;obtain ⟨us,h1,h2,h3⟩:=ih hok.2 (acc.push v);refine ⟨v :: us,?_,by simp [h2],?_⟩
    ·rw [List.foldlM_cons];simp only [Sem.run_bind,hv,Result.andThen_ok];have:(pure (acc.push v):Sem (Array Value)).run P w'=.ok (acc.push v) w':=rfl;rw [this];simp only [Result.andThen_ok];rw [h1];simp
    ·intro i u r' hu hr';cases i with
     | zero=>simp at hu hr';subst hu;subst hr';exact hrep
     | succ i=>simp at hu hr';exact h3 i u r' hu hr'
  obtain ⟨us,hrun,hul,hrep⟩:=hres fn.results.toList hok #[]
  have hrun':(results fn a'.tmps).run P w'=.ok (if h:us.toArray.size=1 then us.toArray[0] else .tuple us.toArray) w':=by
   unfold results;rw [Array.mapM_eq_foldlM];rw [<- Array.foldlM_toList];simp only [Sem.run_bind];have:(fn.results.toList.foldlM (fun (acc:Array Value) r=>do pure (acc.push (<- (match r with | .tmp t=>pure (a'.tmps.getD t Go.undef) | .cell a t=>do loadVar t (<- asAddr (a'.tmps.getD a Go.undef)):Sem Value)))) #[]:Sem (Array Value)).run P w'=.ok (#[]++us.toArray) w':=hrun;simp only [Array.empty_append] at this;have h2:=this;simp only [bind_pure_comp] at h2 |-;exact congrArg (fun r=>Result.andThen r fun (a:Array Value) w'=>Sem.run P (pure (if h:a.size=1 then a[0] else Value.tuple a)) w') h2
  refine ⟨_,hrun',_,rfl,?_⟩
  have hrd:aE (cx w' lev' S') (if h:us.toArray.size=1 then us.toArray[0] else .tuple us.toArray) (KY P e' fn.results.toList):=by
   rcases Classical.em (∃ r,fn.results.toList=[r]) with ⟨r,hrs⟩ | hne
   ·rw [hrs] at hul hrep |-;obtain ⟨u,rfl⟩:=List.length_eq_one_iff.1 hul;simpa [KY] using hrep 0 u r rfl rfl
   ·have hrd:KY P e' fn.results.toList=.bI (fn.results.toList.map (Fk P e')):=by
     unfold KY;split
     ·rename_i r hrs;exact (hne ⟨r,hrs⟩).elim
     ·rfl
    rw [hrd]
    have hsz:us.toArray.size≠1:=by
     intro h;have h1:fn.results.toList.length=1:=by rw [<- hul];simpa using h
     match hx:fn.results.toList,h1 with
     | [r],_=>exact hne ⟨r,hx⟩
    rw [dif_neg hsz];refine .bI _ _ (by simp [hul]) ?_;intro i v x hv hx;simp only [List.getElem?_map] at hx;cases hri:fn.results.toList[i]? with
    | none=>rw [hri] at hx;cases hx
    | some r =>
     rw [hri] at hx;cases hx;exact hrep i v r (by simpa using hv) hri
  generalize (if h:us.toArray.size=1 then us.toArray[0] else .tuple us.toArray)=rv at hrd
  have hret:Inv w l0 G0 S0 w' lev' own' S' (yV (KY P e' fn.results.toList) e') (fun j=>if j=0 then rv else Go.undef):=by
   refine ⟨hi.os,hi.tape,hi.output,hi.size,hi.old,hi.part,hi.priv,hi.iP,hi.Pz,?_,hi.objs⟩;intro s;simp only [yV];split
   ·exact hrd
   ·exact .undef _
  obtain ⟨rh,hle'⟩:=Th.le hle;obtain ⟨own2,S2,h2ent,h2temps,h2objs⟩:=hret.aei h16 hle';refine ⟨hi.os.1,hi.tape,hi.output,hi.size,fun b hb hg=>hi.old b hb hg,hi.part,lev',own2,S2,hi.priv,fun b hb hg=>hi.iP b hb hg,?_,?_,?_⟩
  ·have:=h2temps 0;simpa [vl,look] using this
  ·intro r;have:=h2objs r
   have e:(vl [(0,d)] (so 0 hs')).o r=hs'.getD r .undef:=by
    show look (so 0 hs') r=_
    rw [oX];simp
   rw [e] at this;exact this
  ·intro i hi' hne;refine h2ent i (by omega) ?_
   show look (so 0 hs') i≠.undef
   rw [oX];simpa using hne
 intro x;cases x with
 | normal=>intro e' lev' own' S' w' a' hn' hd' hi hK;exact fin e' lev' own' S' w' a' hn' hd' hi hK
 | ret=>intro e' lev' own' S' w' a' hn' hd' hi hK;exact fin e' lev' own' S' w' a' hn' hd' hi hK
 | _=>intro e' lev' own' S' w' a' hn' hd' hi hK;exact hK.elim
theorem Spec.go (hm : P.follows .mixedOrders = true) {f : FuncId} {fn : Func} {c : Code} {rs : List ResultVar} {n np : Nat} (hf : P.funcs[f]? = some fn) (hb : fn.body = some c) (hr : fn.results.toList = rs) (hn : fn.ntmps = n) (hname : (fn.name == "runtime.NumGoroutine") = false) {hs ds hs' : List D} {d : D}
  (hnp:ds.length=np) (hlen:np<=n) (h16:hs.length<=16) (hw:mo P n np c (TP P rs hs.length hs' d) (vl (Tc 0 ds) (so 0 hs))):Abs.Spec P f hs ds hs' d:=by
 subst hr;subst hn;subst hnp;exact Spec.of_wp hm hf hb hname hlen h16 hw
theorem bu (n np:Nat) (rs:List ResultVar) (hm:P.follows .mixedOrders=true) {f:FuncId} {fn:Func} {c:Code} (hf:P.funcs[f]?=some fn) {hs ds hs':List D} {d:D} (hw:mo P n np c (TP P rs hs.length hs' d) (vl (Tc 0 ds) (so 0 hs)))
  (hb : fn.body = some c := by exact rfl) (hr : fn.results.toList = rs := by exact rfl) (hn : fn.ntmps = n := by exact rfl) (hname : (fn.name == "runtime.NumGoroutine") = false := by exact rfl) (hnp : ds.length = np := by exact rfl) (hlen : np <= n := by simp) (h16 : hs.length <= 16 := by simp) : Abs.Spec P f hs ds hs' d :=
 Spec.go hm hf hb hr hn hname hnp hlen h16 hw
end
end Go.Abs
