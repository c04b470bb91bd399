/- What a call is given, lent, and gives back. No theorem of a claim. -/
import Derived.Test.YtacacccbcndjoaaGreatAbcPure2
set_option linter.unusedSimpArgs false
set_option linter.unusedVariables false
namespace Go.Abs
def nm (d k:Nat):Nat:=16*(d+1)+k
theorem zC (d k:Nat):16<=nm d k:=by unfold nm;omega
def idx:List Nat->Nat->Option Nat
 | [],_=>none
 | g :: gs,r=>if g=r then some 0 else (idx gs r).map (· + 1)
theorem pQ:∀ {gs:List Nat} {r i:Nat},idx gs r=some i->gs[i]?=some r
 | [],r,i,h=>by simp [idx] at h
 | g :: gs,r,i,h=>by
  unfold idx at h;split at h
  ·cases h;simp_all
  ·cases e:idx gs r with
   | none=>rw [e] at h;cases h
   | some j=>rw [e] at h;cases h;simpa using pQ e
theorem Lp:∀ {gs:List Nat} {r i:Nat},gs.Nodup->gs[i]?=some r->idx gs r=some i
 | [],r,i,_,h=>by simp at h
 | g :: gs,r,0,hn,h=>by simp at h;subst h;simp [idx]
 | g :: gs,r,i+1,hn,h=>by
  simp at h;have hn':=List.nodup_cons.1 hn;have:g≠r:=by rintro rfl;exact hn'.1 (List.mem_of_getElem? h)
  simp [idx,this,Lp hn'.2 h]
theorem Sq {gs:List Nat} {r:Nat}:r∈gs->∃ i,idx gs r=some i:=by
 induction gs with
 | nil=>intro h;cases h
 | cons g gs ih =>
  intro h;unfold idx
  by_cases e:g=r
  ·simp [e]
  ·simp only [e,if_false];rcases List.mem_cons.1 h with h | h
   ·exact (e h.symm).elim
   ·obtain ⟨i,hi⟩:=ih h;exact ⟨i+1,by simp [hi]⟩
mutual
/-- other names for the objects; what has none is forgotten -/
def D.jx (f:Nat->Option Nat):D->D
 | .fn g cs=>.fn g (D.qc f cs)
 | .agg cs=>.agg (D.qc f cs)
 | .bD cs=>.bD (D.qc f cs)
 | .box cs=>.box (D.qc f cs)
 | .ref s=>match f s with | some r=>.ref r | none=>.undef
 | .addr s o=>match f s with | some r=>.addr r o | none=>.undef
 | .bQ s z i k=>match f s with | some r=>.bQ r z i k | none=>.undef
 | .fj s z l n=>match f s with | some r=>.fj r z l n | none=>.undef
 | .eI s o z n c=>match f s with | some r=>.eI r o z n c | none=>.undef
 | d=>d
def D.qc (f:Nat->Option Nat):List D->List D
 | []=>[]
 | d :: l=>d.jx f :: D.qc f l
end
theorem Dp (f:Nat->Option Nat):∀ cs:List D,D.qc f cs=cs.map (D.jx f)
 | []=>rfl
 | d :: l=>by rw [D.qc,Dp f l];rfl
theorem aE.jx {C C':Cx} {f:Nat->Option Nat} (hV:∀ a v,C.V a=some v->C'.V a=some v) {v:Value} {d:D} (r:aE C v d) (hS:∀ s∈d.names,∀ t,f s=some t->∀ u,C.S s=some u->C'.S t=some u):aE C' v (d.jx f):=by
 have lst:∀ (vs:Array Value) (ds:List D),vs.size=ds.length->(∀ (i:Nat) v d,vs[i]?=some v->ds[i]?=some d->(∀ s∈d.names,∀ t,f s=some t->∀ u,C.S s=some u->C'.S t=some u)->aE C' v (d.jx f)) ->
   (∀ s∈D.cj ds,∀ t,f s=some t->∀ u,C.S s=some u->C'.S t=some u)->vs.size=(D.qc f ds).length/\∀ (i:Nat) v d,vs[i]?=some v->(D.qc f ds)[i]?=some d->aE C' v d:=by
  intro vs ds hl ih hS;rw [Dp];refine ⟨by simpa using hl,?_⟩;intro i v d hi hd;simp only [List.getElem?_map] at hd;cases e:ds[i]? with
  | none=>rw [e] at hd;cases hd
  | some x=>rw [e] at hd;cases hd;exact ih i v x hi e fun s hs=>hS s (dX.2 ⟨x,List.mem_of_getElem? e,hs⟩)
 induction r with
 | fn g vs ds hl h ih=>obtain ⟨h1,h2⟩:=lst vs ds hl ih (fun s hs=>hS s (by simp only [D.names];exact hs));simp only [D.jx];exact .fn g vs _ h1 h2
 | agg vs ds hl _ ih=>obtain ⟨h1,h2⟩:=lst vs ds hl ih (fun s hs=>hS s (by simp only [D.names];exact hs));simp only [D.jx];exact .agg vs _ h1 h2
 | bD vs ds hl _ ih=>obtain ⟨h1,h2⟩:=lst vs ds hl ih (fun s hs=>hS s (by simp only [D.names];exact hs));simp only [D.jx];exact .bD vs _ h1 h2
 | undef v=>exact .undef v
 | bool b=>exact .bool b
 | int k n=>exact .int k n
 | str s=>exact .str s
 | nil=>exact .nil
 | emp a=>exact .emp a
 | iP=>exact .iP
 | eM=>exact .eM
 | fu t v=>exact .fu t v
 | j4=>exact .j4
 | slnil z=>exact .slnil z
 | sl z a cap rows g hl hz hk hc h1 _ =>
  exact aE.keep (d:=.sl z rows) hV (.sl z a cap rows g hl hz hk hc h1) (fun s hs=>by simp [D.names] at hs)
 | bI a cs g hn hc h1 _=>exact aE.keep (d:=.bI cs) hV (.bI a cs g hn hc h1) (fun s hs=>by simp [D.names] at hs)
 | ref s a len cap h =>
  simp only [D.jx];split
  ·rename_i t e;exact .ref t a len cap (hS s (by simp [D.names]) t e _ h)
  ·exact .undef _
 | addr s off a h =>
  simp only [D.jx];split
  ·rename_i t e;exact .addr t off a (hS s (by simp [D.names]) t e _ h)
  ·exact .undef _
 | bQ s z i k a len cap h =>
  simp only [D.jx];split
  ·rename_i t e;exact .bQ t z i k a len cap (hS s (by simp [D.names]) t e _ h)
  ·exact .undef _
 | fj s z lo len a a' L cap cap' h h1 h2 h3 =>
  simp only [D.jx];split
  ·rename_i t e;exact .fj t z lo len a a' L cap cap' (hS s (by simp [D.names]) t e _ h) h1 h2 h3
  ·exact .undef _
 | eI s off z len cap a a' h h1 h2 =>
  simp only [D.jx];split
  ·rename_i t e;exact .eI t off z len cap a a' (hS s (by simp [D.names]) t e _ h) h1 h2
  ·exact .undef _
def sR:D->D
 | .own z rows=>.sl z rows
 | _=>.undef
def wV (z i k:Nat):D->D
 | .own z' rows=>if z'=z/\i < rows.length then .bI ((rows.getD i []).drop k) else .undef
 | _=>.undef
def qB (z lo len:Nat):D->D
 | .own z' rows=>if z'=z/\lo+len<=rows.length then .sl z ((rows.drop lo).take len) else .undef
 | _=>.undef
def Qw:D->Bool
 | .undef | .agg _ | .bD _ | .box _ | .own _ _=>false
 | d=>d.names.isEmpty
def xw (off z len:Nat):D->D
 | .box cs=>if ((cs.drop off).take (len*z)).all Qw&&decide (off+len*z<=cs.length) then .sl z (rowsOf z len (cs.drop off)) else .undef
 | _=>.undef
def mG (f:D->D) (off:Nat):D->D
 | .box cs=>.bI ((cs.drop off).map f)
 | _=>.undef
def cz (b:Bool) (d:D):D:=if b then .undef else d
def lI (d:D):D:=if d.names.isEmpty then d else .undef
def pg (o:Nat->D) (x:List Nat):Nat->D->D
 | 0,d=>lI d
 | k+1,.ref r=>cz (x.contains r) (sR (o r))
 | k+1,.addr r off=>cz (x.contains r) (mG (pg o x k) off (o r))
 | k+1,.bQ r z i j=>cz (x.contains r) (wV z i j (o r))
 | k+1,.fj r z lo len=>cz (x.contains r) (qB z lo len (o r))
 | k+1,.eI r off z len _=>cz (x.contains r) (xw off z len (o r))
 | k+1,.fn f cs=>.fn f (cs.map (pg o x k))
 | k+1,.agg cs=>.agg (cs.map (pg o x k))
 | k+1,.bD cs=>.bD (cs.map (pg o x k))
 | k+1,.box cs=>.undef
 | _+1,d=>d
def uv (i:Option Nat) (f:Nat->D) (d:D):D:=
 match i with
 | some i=>f i
 | none=>d
def conv (bw:Bool) (gs:List Nat) (o:Nat->D):Nat->D->D
 | 0,d=>lI d
 | k+1,.ref r=>uv (idx gs r) .ref (cz (!bw) (pg o gs k (.ref r)))
 | k+1,.addr r off=>uv (idx gs r) (fun i=>.addr i off) (cz (!bw) (pg o gs k (.addr r off)))
 | k+1,.bQ r z i j=>uv (idx gs r) (fun x=>.bQ x z i j) (cz (!bw) (pg o gs k (.bQ r z i j)))
 | k+1,.fj r z lo len=>uv (idx gs r) (fun x=>.fj x z lo len) (cz (!bw) (pg o gs k (.fj r z lo len)))
 | k+1,.eI r off z len cap=>uv (idx gs r) (fun x=>.eI x off z len cap) (cz (!bw) (pg o gs k (.eI r off z len cap)))
 | k+1,.fn f cs=>.fn f (cs.map (conv bw gs o k))
 | k+1,.agg cs=>.agg (cs.map (conv bw gs o k))
 | k+1,.bD cs=>.bD (cs.map (conv bw gs o k))
 | k+1,.box cs=>.undef
 | _+1,d=>d
def AS (bw:Bool) (gs:List Nat) (o:Nat->D) (k:Nat):D->D
 | .box cs=>.box (cs.map (conv bw gs o k))
 | .own z rows=>.own z rows
 | _=>.undef
theorem wM (d:D):(lI d).names=[]:=by
 unfold lI;split
 ·rename_i h;simpa using h
 ·rfl
theorem LB {f:D->D} (h:∀ d,(f d).names=[]) (cs:List D):D.cj (cs.map f)=[]:=by
 induction cs with
 | nil=>rfl
 | cons c cs ih=>simp [D.cj,h,ih]
theorem kQ {b:Bool} {d:D} (h:d.names=[]):(cz b d).names=[]:=by unfold cz;split;rfl;exact h
theorem Fa (o:Nat->D) (x:List Nat):∀ (k:Nat) (d:D),(pg o x k d).names=[]
 | 0,d=>wM d
 | k+1,d=>by
  have ih:=Fa o x k;cases d<;>simp only [pg]<;>(try rfl)<;>(try exact LB ih _)
  ·refine kQ ?_;unfold sR;split<;>rfl
  ·refine kQ ?_;unfold mG;split<;>rfl
  ·refine kQ ?_;unfold wV;split<;>(try split)<;>rfl
  ·refine kQ ?_;unfold qB;split<;>(try split)<;>rfl
  ·refine kQ ?_;unfold xw;split<;>(try split)<;>rfl
def mS:Value->D->Option (Nat × Nat × Nat)
 | .pointer (some a),.box cs=>some (a.block,a.off,a.off+cs.length)
 | .slice (some a) _ cap,.own z _=>if cap=0 then none else some (a.block,0,cap*z)
 | _,_=>none
def ng (gs:List Nat) (S:Nat->Option Value) (o:Nat->D) (b:Nat):Option (Nat × Nat):=
 gs.findSome? fun r=>match (S r).bind fun v=>mS v (o r) with
  | some x=>if x.1=b then some x.2 else none
  | none=>none
def pM (bw:Bool) (gs:List Nat) (lev own:Nat->Option Nat) (b:Nat):Option Nat:=
 match own b with
 | some r=>if gs.contains r then lev b else if bw then none else lev b
 | none=>lev b
def xz (gs:List Nat) (S:Nat->Option Value) (i:Nat):Option Value:=(gs[i]?).bind S
def Gu (gs:List Nat) (own:Nat->Option Nat) (b:Nat):Option Nat:=(own b).bind (idx gs)
section
variable {P:Program} {w0 w w':World} {l0:Nat->Option Nat} {G:Nat->Option (Nat × Nat)} {S0:Nat->Option Value} {lev lev' own own':Nat->Option Nat} {S S':Nat->Option Value} {env env':Env} {tm tm':Nat->Value} {B:Nat} {gs:List Nat} {bw:Bool}
theorem jZ.blk {r:Nat} {d:D} (h:jZ B G w lev own S r d) {v:Value} (hS:S r=some v) {b lo hi:Nat} (hb:mS v d=some (b,lo,hi)) :
  own b=some r/\lev b=some 0/\Og G B b lo hi/\∃ (c:Array Value) (E:TypeId),w.heap[b]?=some (.cells c E (0,0)):=by
 cases d<;>try exact h.elim
 case undef=>cases v<;>simp [mS] at hb
 case box cs =>
  obtain ⟨b',o,c,E,h1,h2,h3,h4,h5,h6,h7⟩:=h;rw [h1] at hS;cases hS;simp only [mS,Option.some.injEq,Prod.mk.injEq] at hb;obtain ⟨rfl,rfl,rfl⟩:=hb;exact ⟨h5,h4,h6,c,E,h2⟩
 case own z rows =>
  rcases h with ⟨a,h1,h2⟩ | ⟨b',c,E,cap,h1,h2,h3,h4,h5,h6,h7,h8,h9,h10⟩
  ·rw [h1] at hS;cases hS;cases a<;>simp [mS] at hb
  ·rw [h1] at hS;cases hS;simp only [mS] at hb;split at hb
   ·cases hb
   ·simp only [Option.some.injEq,Prod.mk.injEq] at hb;obtain ⟨rfl,rfl,rfl⟩:=hb;rw [h3] at h9;exact ⟨h8,h7,h9,c,E,h2⟩
theorem Al {o:Nat->D} {b lo hi:Nat} (h:ng gs S o b=some (lo,hi)):∃ r∈gs,∃ v,S r=some v/\mS v (o r)=some (b,lo,hi):=by
 unfold ng at h;obtain ⟨r,hr,hx⟩:=List.exists_of_findSome?_eq_some h;refine ⟨r,hr,?_⟩;cases hS:S r with
 | none=>rw [hS] at hx;cases hx
 | some v =>
  rw [hS] at hx;simp only [Option.bind_some] at hx;cases hb:mS v (o r) with
  | none=>rw [hb] at hx;cases hx
  | some x =>
   rw [hb] at hx;simp only at hx;split at hx
   ·rename_i e;simp only [Option.some.injEq] at hx;refine ⟨v,rfl,?_⟩;rw [hb,<- e,<- hx]
   ·cases hx
theorem T5 (h:Inv w0 l0 G S0 w lev own S env tm) {r:Nat} (hr:r∈gs) {v:Value} (hS:S r=some v) {b lo hi:Nat} (hb:mS v (env.o r)=some (b,lo,hi)):ng gs S env.o b=some (lo,hi):=by
 have hne:(ng gs S env.o b).isSome=true:=by
  unfold ng;rw [List.findSome?_isSome_iff];exact ⟨r,hr,by simp [hS,hb]⟩
 obtain ⟨⟨lo',hi'⟩,hx⟩:=Option.isSome_iff_exists.1 hne;obtain ⟨r',hr',v',hS',hb'⟩:=Al hx;have e1:=((h.objs r).blk hS hb).1;have e2:=((h.objs r').blk hS' hb').1;rw [e1] at e2;cases e2;rw [hS] at hS';cases hS';rw [hb] at hb';cases hb';exact hx
theorem MU (b:Nat):pM bw gs lev own b=lev b\/pM bw gs lev own b=none:=by
 unfold pM;split
 ·split
  ·exact .inl rfl
  ·split
   ·exact .inr rfl
   ·exact .inl rfl
 ·exact .inl rfl
theorem j9:mA w lev w (pM bw gs lev own):=by
 intro a u hu;have hc:=mB hu;unfold vis at hu |-;rcases MU (bw:=bw) (gs:=gs) (lev:=lev) (own:=own) a.block with h | h
 ·rw [h];exact hu
 ·rw [h];exact hc
theorem wW {b i:Nat} {r:Nat} (ho:own b=some r) (hg:gs.contains r=false) {u:Value} (hc:w.cell? ⟨b,i,none⟩=some u):vis w (pM true gs lev own) ⟨b,i,none⟩=some u:=by
 unfold vis pM;simp only [ho,hg,if_true,Bool.false_eq_true,if_false];exact hc
theorem tJ {d:D} (h:Qw d=true):dw d:=by
 cases d<;>simp only [Qw] at h<;>first | (cases h;done) | exact ⟨trivial,by simpa using h⟩
theorem fK (z:Nat):∀ (n:Nat) (cs:List D),(rowsOf z n cs).length=n
 | 0,_=>rfl
 | n+1,cs=>by simp [rowsOf,fK z n]
theorem lH (z:Nat):∀ (n:Nat) (cs:List D) (i:Nat) (r:List D),(rowsOf z n cs)[i]?=some r->r=(cs.drop (i*z)).take z
 | 0,_,_,_,h=>by simp [rowsOf] at h
 | n+1,cs,0,r,h=>by simp [rowsOf] at h;simp [h]
 | n+1,cs,i+1,r,h=>by
  simp only [rowsOf,List.getElem?_cons_succ] at h;have:=lH z n _ i r h;rw [this,List.drop_drop,Nat.succ_mul,Nat.add_comm]
theorem G6 (h:Inv w0 l0 G S0 w lev own S env tm) (S':Nat->Option Value):∀ (k:Nat) (d:D) (v:Value),aE (cx w lev S) v d->aE (cx w (pM true gs lev own) S') v (pg env.o gs k d)
 | 0,d,v,hr=>by
  simp only [pg,lI];split
  ·rename_i hn;have hn':d.names=[]:=by simpa using hn
   exact hr.fC j9 (by rw [hn'];simp)
  ·exact .undef _
 | k+1,d,v,hr=>by
  have ih:=G6 h S' k;have keep0:d.names=[]->aE (cx w (pM true gs lev own) S') v d:=fun hn=>hr.fC j9 (by rw [hn];simp)
  have lst:∀ (vs:Array Value) (ds:List D),vs.size=ds.length->(∀ (i:Nat) v d,vs[i]?=some v->ds[i]?=some d->aE (cx w lev S) v d) ->
    vs.size=(ds.map (pg env.o gs k)).length/\∀ (i:Nat) v d,vs[i]?=some v->(ds.map (pg env.o gs k))[i]?=some d->aE (cx w (pM true gs lev own) S') v d:=by
   intro vs ds hl hh;refine ⟨by simpa using hl,?_⟩;intro i v d hi hd;simp only [List.getElem?_map] at hd;cases e:ds[i]? with
   | none=>rw [e] at hd;cases hd
   | some x=>rw [e] at hd;cases hd;exact ih x v (hh i v x hi e)
  cases d<;>simp only [pg]<;>(try exact keep0 rfl)<;>(try (cases hr;done))
  ·obtain ⟨vs,rfl,hs,hv⟩:=hr.Df;obtain ⟨h1,h2⟩:=lst vs _ hs hv;exact .fn _ vs _ h1 h2
  ·obtain ⟨vs,rfl,hs,hv⟩:=hr.lU;obtain ⟨h1,h2⟩:=lst vs _ hs hv;exact .agg vs _ h1 h2
  ·obtain ⟨vs,rfl,hs,hv⟩:=hr.xh;obtain ⟨h1,h2⟩:=lst vs _ hs hv;exact .bD vs _ h1 h2
  ·rename_i r;unfold cz;split
   ·exact .undef _
   ·rename_i hg;have hg':gs.contains r=false:=by simpa using hg
    obtain ⟨hS,a,len,cap,rfl⟩:=hr.mY;have ho:=h.objs r;simp only [cx] at hS;cases hd:env.o r<;>rw [hd] at ho<;>simp only [sR]<;>(try exact .undef _);rename_i z rows;rcases ho with ⟨a',h1,rfl⟩ | ⟨b,c,E,cap',h1,h2,h3,h4,h5,h6,h7,h8,h9,h10⟩
    ·rw [hS] at h1;cases h1;cases a with
     | none=>exact .slnil _
     | some ad=>exact iA (rows:=[]) (by simp) (by simp) (by simp) (by simp)
    ·rw [hS] at h1;cases h1;refine iA h4 h5 h6 ?_;intro i j row x hi hj;obtain ⟨u,hu,hru⟩:=h10 i j row x hi hj;refine ⟨u,?_,hru.fC j9 (by rw [(h6 row (List.mem_of_getElem? hi) x (List.mem_of_getElem? hj)).2];simp)⟩;rw [eZ,Nat.zero_add];exact wW h8 hg' (by rw [iE w b _ h2];exact hu)
  ·rename_i r off;unfold cz;split
   ·exact .undef _
   ·rename_i hg;have hg':gs.contains r=false:=by simpa using hg
    obtain ⟨a,hS,rfl⟩:=hr.ia;have ho:=h.objs r;simp only [cx] at hS;cases hd:env.o r<;>rw [hd] at ho<;>simp only [mG]<;>(try exact .undef _);rename_i cs;obtain ⟨b,o,c,E,h1,h2,h3,h4,h5,h6,h7⟩:=ho;rw [hS] at h1;cases h1;refine jI (by intro d hd';obtain ⟨x,_,rfl⟩:=List.mem_map.1 hd';exact Fa _ _ _ _) ?_;intro j x hj;simp only [List.getElem?_map,List.getElem?_drop] at hj;cases e:cs[off+j]? with
    | none=>rw [e] at hj;cases hj
    | some y =>
     rw [e] at hj;cases hj;have hlt:o+(off+j) < c.size:=by have:=(List.getElem?_eq_some_iff.1 e).1;omega
     refine ⟨c[o+(off+j)],?_,ih y _ (h7 (off+j) _ y (by simp [hlt]) e)⟩;rw [add_add,eZ];exact wW h5 hg' (by rw [iE w b _ h2];simp [hlt])
  ·rename_i r z i j;unfold cz;split
   ·exact .undef _
   ·rename_i hg;have hg':gs.contains r=false:=by simpa using hg
    obtain ⟨a,len,cap,hS,rfl⟩:=hr.jd;have ho:=h.objs r;simp only [cx] at hS;cases hd:env.o r<;>rw [hd] at ho<;>simp only [wV]<;>(try exact .undef _);rename_i z' rows;split
    ·rename_i hz;obtain ⟨rfl,hi⟩:=hz;rcases ho with ⟨a',h1,rfl⟩ | ⟨b,c,E,cap',h1,h2,h3,h4,h5,h6,h7,h8,h9,h10⟩
     ·simp at hi
     ·rw [hS] at h1;cases h1;have hrow:rows.getD i []=rows[i]:=by simp [List.getD,hi]
      rw [hrow];refine jI (fun x hx=>(h6 _ (List.getElem_mem hi) x (List.mem_of_mem_drop hx)).2) ?_;intro m x hm;rw [List.getElem?_drop] at hm;obtain ⟨u,hu,hru⟩:=h10 i (j+m) rows[i] x (List.getElem?_eq_getElem hi) hm;refine ⟨u,?_,hru.fC j9 (by rw [(h6 _ (List.getElem_mem hi) x (List.mem_of_getElem? hm)).2];simp)⟩;rw [add_add,eZ];refine wW h8 hg' ?_;rw [iE w b _ h2,<- hu];congr 1;omega
    ·exact .undef _
  ·rename_i r z lo len;unfold cz;split
   ·exact .undef _
   ·rename_i hg;have hg':gs.contains r=false:=by simpa using hg
    obtain ⟨a,a',L,cap,cap',hS,rfl,q1,q2,q3⟩:=hr.mw;have ho:=h.objs r;simp only [cx] at hS;cases hd:env.o r<;>rw [hd] at ho<;>simp only [qB]<;>(try exact .undef _);rename_i z' rows;split
    ·rename_i hz;obtain ⟨rfl,hlen⟩:=hz;have hl:((rows.drop lo).take len).length=len:=by simp;omega
     by_cases h0:len=0
     ·subst h0;have e0:(rows.drop lo).take 0=[]:=by simp
      rw [e0];cases a' with
      | none=>rw [q3 rfl];exact .slnil _
      | some ad=>exact iA (rows:=[]) (by simp) (by simp) (by simp) (by simp)
     obtain ⟨b0,rfl,rfl⟩:=q1 h0;rcases ho with ⟨a',h1,rfl⟩ | ⟨b,c,E,cap2,h1,h2,h3,h4,h5,h6,h7,h8,h9,h10⟩
     ·simp at hlen;omega
     ·rw [hS] at h1;cases h1
      have:=iA (V:=cx w (pM true gs lev own) S') (z:=z') (rows:=(rows.drop lo).take len) (a:=(⟨b,0,none⟩:Addr).add (lo*z')) (cap:=cap') (by rw [hl];exact q2)
       (fun r hr=>h5 r (List.mem_of_mem_drop (List.mem_of_mem_take hr))) (fun r hr=>h6 r (List.mem_of_mem_drop (List.mem_of_mem_take hr))) (by
        intro i j row x hi hj;have hil:i < len:=by have:=(List.getElem?_eq_some_iff.1 hi).1;rw [hl] at this;exact this
        rw [List.getElem?_take_of_lt hil,List.getElem?_drop] at hi;obtain ⟨u,hu,hru⟩:=h10 (lo+i) j row x hi hj;refine ⟨u,?_,hru.fC j9 (by rw [(h6 _ (List.mem_of_getElem? hi) x (List.mem_of_getElem? hj)).2];simp)⟩;rw [add_add,eZ];refine wW h8 hg' ?_;rw [iE w b _ h2,<- hu]
        congr 1;rw [Nat.add_mul];omega)
      rw [hl] at this;exact this
    ·exact .undef _
  ·rename_i r off z len bcap;unfold cz;split
   ·exact .undef _
   ·rename_i hg;have hg':gs.contains r=false:=by simpa using hg
    obtain ⟨a,a',cap',hS,rfl,q1,q2,q3⟩:=hr.ju;have ho:=h.objs r;simp only [cx] at hS;cases hd:env.o r<;>rw [hd] at ho<;>simp only [xw]<;>(try exact .undef _);rename_i cs;split
    ·rename_i hz;simp only [Bool.and_eq_true,decide_eq_true_eq,List.all_eq_true] at hz;obtain ⟨hp,hle⟩:=hz
     by_cases h0:len=0
     ·subst h0;simp only [rowsOf];cases a' with
      | none=>rw [q3.1 rfl];exact .slnil _
      | some ad=>exact iA (rows:=[]) (by simp) (by simp) (by simp) (by simp)
     have ha:=q1 h0;subst ha;obtain ⟨b,o,c,E,h1,h2,h3,h4,h5,h6,h7⟩:=ho;rw [hS] at h1;cases h1
     have hat:∀ (i:Nat) row,(rowsOf z len (cs.drop off))[i]?=some row->i < len/\row=((cs.drop off).drop (i*z)).take z:=by
      intro i row hi;have:=(List.getElem?_eq_some_iff.1 hi).1;rw [fK] at this;exact ⟨this,lH _ _ _ _ _ hi⟩
     have hsub:∀ i,i < len->∀ x∈((cs.drop off).drop (i*z)).take z,x∈(cs.drop off).take (len*z):=by
      intro i hi x hx;obtain ⟨m,hm⟩:=List.mem_iff_getElem?.1 hx;have hmz:m < z:=by have:=(List.getElem?_eq_some_iff.1 hm).1;simp at this;omega
      rw [List.getElem?_take_of_lt hmz,List.getElem?_drop] at hm;refine List.mem_of_getElem? (i:=i*z+m) ?_;rw [List.getElem?_take_of_lt (xW hmz hi)];exact hm
     have:=iA (V:=cx w (pM true gs lev own) S') (z:=z) (rows:=rowsOf z len (cs.drop off)) (a:=(⟨b,o,none⟩:Addr).add off) (cap:=cap') (by rw [fK];exact q2)
      (by
       intro row hrow;obtain ⟨i,hi⟩:=List.mem_iff_getElem?.1 hrow;obtain ⟨hil,rfl⟩:=hat i row hi;have:(i+1)*z<=len*z:=Nat.mul_le_mul_right z hil;rw [Nat.succ_mul] at this
       simp;omega)
      (by
       intro row hrow x hx;obtain ⟨i,hi⟩:=List.mem_iff_getElem?.1 hrow;obtain ⟨hil,rfl⟩:=hat i row hi
       exact tJ (hp x (hsub i hil x hx)))
      (by
       intro i j row x hi hj;obtain ⟨hil,rfl⟩:=hat i row hi;have hpx:=tJ (hp x (hsub i hil x (List.mem_of_getElem? hj)));have hjz:j < z:=by have:=(List.getElem?_eq_some_iff.1 hj).1;simp at this;omega
       rw [List.getElem?_take_of_lt hjz,List.getElem?_drop,List.getElem?_drop] at hj;have hlt:o+(off+(i*z+j)) < c.size:=by have:=(List.getElem?_eq_some_iff.1 hj).1;omega
       refine ⟨c[o+(off+(i*z+j))],?_,(h7 _ _ x (by simp [hlt]) hj).fC j9 (by rw [hpx.2];simp)⟩;rw [add_add,eZ]
       exact wW h5 hg' (by rw [iE w b _ h2];simp [hlt]))
     rw [fK] at this;exact this
    ·exact .undef _
theorem qu {r i:Nat} (h:idx gs r=some i):xz gs S i=S r:=by
 unfold xz;rw [pQ h];rfl
theorem Cw (h:Inv w0 l0 G S0 w lev own S env tm):∀ (k:Nat) (d:D) (v:Value),aE (cx w lev S) v d->aE (cx w (pM bw gs lev own) (xz gs S)) v (conv bw gs env.o k d)
 | 0,d,v,hr=>by
  simp only [conv,lI];split
  ·rename_i hn;have hn':d.names=[]:=by simpa using hn
   exact hr.fC j9 (by rw [hn'];simp)
  ·exact .undef _
 | k+1,d,v,hr=>by
  have ih:=Cw h k;have keep0:d.names=[]->aE (cx w (pM bw gs lev own) (xz gs S)) v d:=fun hn=>hr.fC j9 (by rw [hn];simp)
  have lst:∀ (vs:Array Value) (ds:List D),vs.size=ds.length->(∀ (i:Nat) v d,vs[i]?=some v->ds[i]?=some d->aE (cx w lev S) v d) ->
    vs.size=(ds.map (conv bw gs env.o k)).length/\∀ (i:Nat) v d,vs[i]?=some v->(ds.map (conv bw gs env.o k))[i]?=some d->aE (cx w (pM bw gs lev own) (xz gs S)) v d:=by
   intro vs ds hl hh;refine ⟨by simpa using hl,?_⟩;intro i v d hi hd;simp only [List.getElem?_map] at hd;cases e:ds[i]? with
   | none=>rw [e] at hd;cases hd
   | some x=>rw [e] at hd;cases hd;exact ih x v (hh i v x hi e)
  have lend:∀ d',aE (cx w lev S) v d'->aE (cx w (pM bw gs lev own) (xz gs S)) v (cz (!bw) (pg env.o gs k d')):=by
   intro d' hd';unfold cz;cases bw with
   | false=>exact .undef _
   | true=>exact G6 h _ k d' v hd'
  cases d<;>simp only [conv]<;>(try exact keep0 rfl)<;>(try (cases hr;done))
  ·obtain ⟨vs,rfl,hs,hv⟩:=hr.Df;obtain ⟨h1,h2⟩:=lst vs _ hs hv;exact .fn _ vs _ h1 h2
  ·obtain ⟨vs,rfl,hs,hv⟩:=hr.lU;obtain ⟨h1,h2⟩:=lst vs _ hs hv;exact .agg vs _ h1 h2
  ·obtain ⟨vs,rfl,hs,hv⟩:=hr.xh;obtain ⟨h1,h2⟩:=lst vs _ hs hv;exact .bD vs _ h1 h2
  ·rename_i r;cases e:idx gs r with
   | none=>exact lend _ hr
   | some i =>
    obtain ⟨hS,a,len,cap,rfl⟩:=hr.mY;exact .ref i a len cap ((qu e).trans hS)
  ·rename_i r off;cases e:idx gs r with
   | none=>exact lend _ hr
   | some i =>
    obtain ⟨a,hS,rfl⟩:=hr.ia;exact .addr i off a ((qu e).trans hS)
  ·rename_i r z i j;cases e:idx gs r with
   | none=>exact lend _ hr
   | some x =>
    obtain ⟨a,len,cap,hS,rfl⟩:=hr.jd;exact .bQ x z i j a len cap ((qu e).trans hS)
  ·rename_i r z lo len;cases e:idx gs r with
   | none=>exact lend _ hr
   | some x =>
    obtain ⟨a,a',L,cap,cap',hS,rfl,q1,q2,q3⟩:=hr.mw;exact .fj x z lo len a a' L cap cap' ((qu e).trans hS) q1 q2 q3
  ·rename_i r off z len bcap;cases e:idx gs r with
   | none=>exact lend _ hr
   | some x =>
    obtain ⟨a,a',cap',hS,rfl,q1,q2,q3⟩:=hr.ju;obtain ⟨_,rfl,q4⟩:=q3;exact .eI x off z len _ a a' ((qu e).trans hS) q4 q2
theorem QV (h:Inv w0 l0 G S0 w lev own S env tm) (hn:gs.Nodup) {i r:Nat} (hi:gs[i]?=some r) (k:Nat) (hlive:env.o r≠.undef) :
  jZ w.heap.size (ng gs S env.o) w (pM bw gs lev own) (Gu gs own) (xz gs S) i (AS bw gs env.o k (env.o r)):=by
 have ho:=h.objs r;have hmem:=List.mem_of_getElem? hi;have hx:=Lp hn hi;have hS0:xz gs S i=S r:=qu hx;have hc:gs.contains r=true:=List.contains_iff_mem.2 hmem;have hlev:∀ b,own b=some r->pM bw gs lev own b=lev b:=by intro b hb;unfold pM;simp only [hb,hc,if_true]
 have hown:∀ b,own b=some r->Gu gs own b=some i:=by intro b hb;unfold Gu;simp only [hb,Option.bind_some];exact hx
 cases hd:env.o r<;>rw [hd] at ho<;>simp only [AS]<;>(try exact ho.elim)
 ·exact (hlive hd).elim
 ·rename_i z rows;rcases ho with ⟨a,h1,rfl⟩ | ⟨b,c,E,cap,h1,h2,h3,h4,h5,h6,h7,h8,h9,h10⟩
  ·exact .inl ⟨a,hS0.trans h1,rfl⟩
  ·by_cases h0:cap=0
   ·subst h0;have:rows=[]:=List.length_eq_zero_iff.1 (by omega);subst this;exact .inl ⟨_,hS0.trans h1,rfl⟩
   ·refine .inr ⟨b,c,E,cap,hS0.trans h1,h2,h3,h4,h5,h6,(hlev b h8).trans h7,hown b h8,.inr ⟨0,cap*z,?_,Nat.le_refl _,by rw [h3];exact Nat.le_refl _⟩,?_⟩
    ·exact T5 h hmem h1 (by rw [hd];simp [mS,h0])
    ·intro i' j row d hi' hj;obtain ⟨u,hu,hru⟩:=h10 i' j row d hi' hj;exact ⟨u,hu,hru.fC j9 (by rw [(h6 row (List.mem_of_getElem? hi') d (List.mem_of_getElem? hj)).2];simp)⟩
 ·rename_i cs;obtain ⟨b,o,c,E,h1,h2,h3,h4,h5,h6,h7⟩:=ho;refine ⟨b,o,c,E,hS0.trans h1,h2,by simpa using h3,(hlev b h5).trans h4,hown b h5,.inr ⟨o,o+cs.length,?_,Nat.le_refl _,by simp⟩,?_⟩
  ·exact T5 h hmem h1 (by rw [hd];simp [mS])
  ·intro j u e hu he;simp only [List.getElem?_map] at he;cases hx':cs[j]? with
   | none=>rw [hx'] at he;cases he
   | some x=>rw [hx'] at he;cases he;exact Cw h k x u (h7 j u x hu hx')
end
end Go.Abs
