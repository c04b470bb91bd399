/- The evaluator, part 1; no theorem of a claim. -/
import Derived.Below
import Derived.Laws.Cells
import Derived.Laws.Rows
import Derived.Laws.Entries
import Derived.Laws.Sem
import Derived.ChangeKeysEq
set_option linter.unusedSimpArgs false
set_option linter.unusedVariables false
namespace Go.Abs
open List
abbrev aq := @if_pos
abbrev ak := @if_neg
abbrev bL := @decide_eq_true_eq
abbrev gM := @decide_eq_false_iff_not
abbrev fA := @List.getElem?_eq_some_iff
abbrev l7 := @take_succ_eq_append_getElem
abbrev l6 := @Nat.mul_le_mul_right
abbrev cQ := @append_assoc
abbrev cm := @length_append
abbrev ck := @getElem_mem
abbrev fO := @getElem?_eq_getElem
abbrev fc := @Bool.true_and
abbrev gV := @Bool.false_and
abbrev dX := @mem_of_getElem?
abbrev bZ := @Nat.lt_or_ge
abbrev dU := @Nat.le_refl
abbrev dn := @all_eq_true
abbrev dI := @decide_eq_true
abbrev eJ := @decide_eq_false
abbrev jr := @take_length
abbrev dY := @length_take
abbrev fj := @length_drop
abbrev nx := @drop_length
abbrev lZ := @Bool.false_ne_true
abbrev iK := @Bool.not_eq_true'
abbrev jY := @take_append_drop
abbrev iL := @pairwise_cons
abbrev qo := @pairwise_iff_getElem
abbrev ny := @Option.some.injEq
abbrev ga := @mem_singleton
abbrev eH := @beq_iff_eq
abbrev lA := @Bool.eq_iff_iff
abbrev jq := @map_append
abbrev mK := @filter_append
theorem aJ : True := True.intro
theorem ah {p : Prop} (h : p := by omega) : p := h
open Go.RowKit (Below)
inductive D where
 | undef
 | bool (b:Bool)
 | int (k:IntKind) (n:Int)
 | str (s:ByteArray)
 | nil
 | emp
 | kP
 | gl
 | gR
 | j4
 | fn (f:FuncId) (caps:List D)
 | agg (cs:List D)
 | bT (ds:List D)
 | sl (z:Nat) (rows:List (List D))
 | bq (cs:List D)
 | ref (r:Nat)
 | addr (r off:Nat)
 | bX (r z i k:Nat)
 | eC (r z lo len:Nat)
 | bW (r off z len cap:Nat)
 | own (z:Nat) (rows:List (List D))
 | box (cs:List D)
structure Env where
 t:Nat->D
 o:Nat->D
def e0:Env:=⟨fun _=>.undef,fun _=>.undef⟩
def bP (e:Env) (i:Nat) (d:D):Env:=⟨fun j=>if j=i then d else e.t j,e.o⟩
def cV (e:Env) (i:Nat) (d:D):Env:=⟨e.t,fun j=>if j=i then d else e.o j⟩
theorem O6 (e:Env) (i:Nat) (d:D):(bP e i d).t i=d:=by simp [bP]
variable {d:D} {j i:Nat} {e:Env}
theorem tc (h:j≠i):(bP e i d).t j=e.t j:=by simp [bP,h]
theorem aab (e:Env) (i:Nat) (d:D):(cV e i d).o i=d:=by simp [cV]
theorem Xq (h:j≠i):(cV e i d).o j=e.o j:=by simp [cV,h]
mutual
def D.names:D->List Nat
 | .fn _ cs=>D.bK cs
 | .agg cs=>D.bK cs
 | .bT cs=>D.bK cs
 | .box cs=>D.bK cs
 | .ref r=>[r]
 | .addr r _=>[r]
 | .bX r _ _ _=>[r]
 | .eC r _ _ _=>[r]
 | .bW r _ _ _ _=>[r]
 | _=>[]
def D.bK:List D->List Nat
 | []=>[]
 | d :: r=>d.names++D.bK r
end
theorem eu:∀ {cs:List D} {s:Nat},s∈D.bK cs ↔ ∃ d∈cs,s∈d.names
 | [],s=>by simp [D.bK]
 | d :: r,s=>by simp [D.bK,eu (cs:=r)]
mutual
/-- what names object r is forgotten -/
def D.kill (r:Nat):D->D
 | .fn f cs=>.fn f (D.jN r cs)
 | .agg cs=>.agg (D.jN r cs)
 | .bT cs=>.bT (D.jN r cs)
 | .box cs=>.box (D.jN r cs)
 | .ref s=>if s=r then .undef else .ref s
 | .addr s o=>if s=r then .undef else .addr s o
 | .bX s z i k=>if s=r then .undef else .bX s z i k
 | .eC s z l n=>if s=r then .undef else .eC s z l n
 | .bW s o z n c=>if s=r then .undef else .bW s o z n c
 | d=>d
def D.jN (r:Nat):List D->List D
 | []=>[]
 | d :: l=>d.kill r :: D.jN r l
end
theorem jT (r:Nat):∀ cs:List D,D.jN r cs=cs.map (D.kill r)
 | []=>rfl
 | d :: l=>by rw [D.jN,jT r l];rfl
def jM (r:Nat) (e:Env):Env:=⟨fun j=>(e.t j).kill r,fun j=>if j=r then .undef else (e.o j).kill r⟩
def dZ:D->Prop
 | .undef | .agg _ | .bT _ | .box _ | .own _ _=>False
 | _=>True
def bG (d:D):Prop:=dZ d/\d.names=[]
structure Cx where
 V:Addr->Option Value
 S:Nat->Option Value
inductive aK (C:Cx):Value->D->Prop
 | undef (v:Value):aK C v .undef
 | bool (b:Bool):aK C (.bool b) (.bool b)
 | int (k:IntKind) (n:Int):aK C (.int k n) (.int k n)
 | str (s:ByteArray):aK C (.string s) (.str s)
 | nil:aK C (.slice none 0 0) .nil
 | emp (a:Option Addr):aK C (.slice a 0 0) .emp
 | kP:aK C .nilFunc .kP
 | gl:aK C .nilIface .gl
 | gR (t:TypeId) (v:Value):aK C (.iface t v) .gR
 | j4:aK C (.pointer none) .j4
 | fn (f:FuncId) (vs:Array Value) (ds:List D):vs.size=ds.length->(∀ (i:Nat) v d,vs[i]?=some v->ds[i]?=some d->aK C v d)->aK C (.func (.func f) #[] vs) (.fn f ds)
 | agg (vs:Array Value) (ds:List D):vs.size=ds.length->(∀ (i:Nat) v d,vs[i]?=some v->ds[i]?=some d->aK C v d)->aK C (.agg vs) (.agg ds)
 | bT (vs:Array Value) (ds:List D):vs.size=ds.length->(∀ (i:Nat) v d,vs[i]?=some v->ds[i]?=some d->aK C v d)->aK C (.tuple vs) (.bT ds)
 | slnil (z:Nat):aK C (.slice none 0 0) (.sl z [])
 | sl (z:Nat) (a:Addr) (cap:Nat) (rows:List (List D)) (f:Nat->Nat->Value):rows.length<=cap->(∀ r∈rows,r.length=z)->(∀ r∈rows,∀ d∈r,bG d) ->
   (∀ (i j:Nat) r d,rows[i]?=some r->r[j]?=some d->C.V (a.add (i*z+j))=some (f i j)) ->
   (∀ (i j:Nat) r d,rows[i]?=some r->r[j]?=some d->aK C (f i j) d)->aK C (.slice (some a) rows.length cap) (.sl z rows)
 | bq (a:Addr) (cs:List D) (f:Nat->Value):(∀ d∈cs,d.names=[])->(∀ (j:Nat) d,cs[j]?=some d->C.V (a.add j)=some (f j))->(∀ (j:Nat) d,cs[j]?=some d->aK C (f j) d)->aK C (.pointer (some a)) (.bq cs)
 | ref (r:Nat) (a:Option Addr) (len cap:Nat):C.S r=some (.slice a len cap)->aK C (.slice a len cap) (.ref r)
 | addr (r off:Nat) (a:Addr):C.S r=some (.pointer (some a))->aK C (.pointer (some (a.add off))) (.addr r off)
 | bX (r z i k:Nat) (a:Addr) (len cap:Nat):C.S r=some (.slice (some a) len cap)->aK C (.pointer (some (a.add (i*z+k)))) (.bX r z i k)
 | eC (r z lo len:Nat) (a a':Option Addr) (L cap cap':Nat):C.S r=some (.slice a L cap)->(len≠0->∃ b,a=some b/\a'=some (b.add (lo*z)))->len<=cap'->(a'=none->cap'=0)->aK C (.slice a' len cap') (.eC r z lo len)
 | bW (r off z len cap:Nat) (a:Addr) (a':Option Addr):C.S r=some (.pointer (some a))->(cap≠0->a'=some (a.add off))->len<=cap->aK C (.slice a' len cap) (.bW r off z len cap)
variable {v:Value} {C C':Cx}
theorem aK.keep (p:∀ a v,C.V a=some v->C'.V a=some v) (r:aK C v d) (m:∀ s∈d.names,∀ u,C.S s=some u->C'.S s=some u):aK C' v d:=by
 induction r with
 | undef v=>exact .undef v
 | bool b=>exact .bool b
 | int k n=>exact .int k n
 | str s=>exact .str s
 | nil=>exact .nil
 | emp a=>exact .emp a
 | kP=>exact .kP
 | gl=>exact .gl
 | gR t v=>exact .gR t v
 | j4=>exact .j4
 | fn f vs ds hl _ ih=>exact .fn f vs ds hl fun i v d g o=>ih i v d g o fun s c=>m s (by simp only [D.names];exact eu.2 ⟨d,dX o,c⟩)
 | agg vs ds hl _ ih=>exact .agg vs ds hl fun i v d g o=>ih i v d g o fun s c=>m s (by simp only [D.names];exact eu.2 ⟨d,dX o,c⟩)
 | bT vs ds hl _ ih=>exact .bT vs ds hl fun i v d g o=>ih i v d g o fun s c=>m s (by simp only [D.names];exact eu.2 ⟨d,dX o,c⟩)
 | slnil z=>exact .slnil z
 | sl z a cap rows f hl hz hk hc _ ih =>
  refine .sl z a cap rows f hl hz hk (fun i j r d g l=>p _ _ (hc i j r d g l)) fun i j r d g l=>ih i j r d g l ?_;intro s c;rw [(hk r (dX g) d (dX l)).2] at c;cases c
 | bq a cs f hn hc _ ih =>
  refine .bq a cs f hn (fun j d l=>p _ _ (hc j d l)) fun j d l=>ih j d l ?_;intro s c;rw [hn d (dX l)] at c;cases c
 | ref r a len cap h=>exact .ref r a len cap (m r (by simp [D.names]) _ h)
 | addr r off a h=>exact .addr r off a (m r (by simp [D.names]) _ h)
 | bX r z i k a len cap h=>exact .bX r z i k a len cap (m r (by simp [D.names]) _ h)
 | eC r z lo len a a' L cap cap' h h1 h2 h3=>exact .eC r z lo len a a' L cap cap' (m r (by simp [D.names]) _ h) h1 h2 h3
 | bW r off z len cap a a' h h1 h2=>exact .bW r off z len cap a a' (m r (by simp [D.names]) _ h) h1 h2
theorem aK.mono (c:∀ a v,C.V a=some v->C'.V a=some v) (b:∀ s u,C.S s=some u->C'.S s=some u) (r:aK C v d):aK C' v d:=
 r.keep c fun s _=>b s
mutual
theorem vm (r:Nat):∀ (d:D),∀ s∈(d.kill r).names,s∈d.names/\s≠r
 | .fn f cs=>fun s h=>by simp only [D.kill,D.names] at h |-;exact m0 r cs s h
 | .agg cs=>fun s h=>by simp only [D.kill,D.names] at h |-;exact m0 r cs s h
 | .bT cs=>fun s h=>by simp only [D.kill,D.names] at h |-;exact m0 r cs s h
 | .box cs=>fun s h=>by simp only [D.kill,D.names] at h |-;exact m0 r cs s h
 | .ref t=>fun s h=>by simp only [D.kill] at h;split at h<;>simp_all [D.names]
 | .addr t o=>fun s h=>by simp only [D.kill] at h;split at h<;>simp_all [D.names]
 | .bX t z i k=>fun s h=>by simp only [D.kill] at h;split at h<;>simp_all [D.names]
 | .eC t z l n=>fun s h=>by simp only [D.kill] at h;split at h<;>simp_all [D.names]
 | .bW t o z n c=>fun s h=>by simp only [D.kill] at h;split at h<;>simp_all [D.names]
 | .undef | .bool _ | .int _ _ | .str _ | .nil | .emp | .kP | .gl | .gR | .j4 | .sl _ _ | .bq _ | .own _ _=>fun s h=>by simp [D.kill,D.names] at h
theorem m0 (r:Nat):∀ (cs:List D),∀ s∈D.bK (D.jN r cs),s∈D.bK cs/\s≠r
 | []=>fun s h=>by simp [D.jN,D.bK] at h
 | d :: l=>fun s h=>by
  simp only [D.jN,D.bK,mem_append] at h |-;rcases h with h | h
  ·exact ⟨.inl (vm r d s h).1,(vm r d s h).2⟩
  ·exact ⟨.inr (m0 r l s h).1,(m0 r l s h).2⟩
end
theorem aK.agR (r:Nat) (h:aK C v d):aK C v (d.kill r):=by
 have o:∀ (vs:Array Value) (ds:List D),vs.size=ds.length->(∀ (i:Nat) v d,vs[i]?=some v->ds[i]?=some d->aK C v (d.kill r)) ->
   vs.size=(D.jN r ds).length/\∀ (i:Nat) v d,vs[i]?=some v->(D.jN r ds)[i]?=some d->aK C v d:=by
  intro vs ds l m;rw [jT];refine ⟨by simpa using l,?_⟩;intro i v d q p;simp only [getElem?_map] at p;cases e:ds[i]? with
  | none=>rw [e] at p;cases p
  | some x=>rw [e] at p;cases p;exact m i v x q e
 induction h with
 | fn f vs ds l h m=>obtain ⟨c,g⟩:=o vs ds l m;simp only [D.kill];exact .fn f vs _ c g
 | agg vs ds l _ m=>obtain ⟨c,g⟩:=o vs ds l m;simp only [D.kill];exact .agg vs _ c g
 | bT vs ds l _ m=>obtain ⟨c,g⟩:=o vs ds l m;simp only [D.kill];exact .bT vs _ c g
 | undef v=>exact .undef v
 | bool b=>exact .bool b
 | int k n=>exact .int k n
 | str s=>exact .str s
 | nil=>exact .nil
 | emp a=>exact .emp a
 | kP=>exact .kP
 | gl=>exact .gl
 | gR t v=>exact .gR t v
 | j4=>exact .j4
 | slnil z=>exact .slnil z
 | sl z a cap rows f l hz hk hc c _=>exact .sl z a cap rows f l hz hk hc c
 | bq a cs f hn hc c _=>exact .bq a cs f hn hc c
 | ref r' a len cap h=>simp only [D.kill];split;exact .undef _;exact .ref r' a len cap h
 | addr r' off a h=>simp only [D.kill];split;exact .undef _;exact .addr r' off a h
 | bX r' z i k a len cap h=>simp only [D.kill];split;exact .undef _;exact .bX r' z i k a len cap h
 | eC r' z lo len a a' L cap cap' h c g h3=>simp only [D.kill];split;exact .undef _;exact .eC r' z lo len a a' L cap cap' h c g h3
 | bW r' off z len cap a a' h c g=>simp only [D.kill];split;exact .undef _;exact .bW r' off z len cap a a' h c g
def vis (w:World) (lev:Nat->Option Nat) (a:Addr):Option Value:=
 match lev a.block with
 | none=>w.cell? a
 | some n=>if a.off < n then w.cell? a else none
variable {lev:Nat->Option Nat} {w:World}
theorem ql {a:Addr} (h:vis w lev a=some v):w.cell? a=some v:=by
 unfold vis at h;split at h
 ·exact h
 ·split at h
  ·exact h
  ·cases h
abbrev cx (w:World) (lev:Nat->Option Nat) (S:Nat->Option Value):Cx:=⟨vis w lev,S⟩
def Xv (G:Nat->Option (Nat × Nat)) (B b lo a:Nat):Prop:=B<=b\/∃ l h,G b=some (l,h)/\l<=lo/\a<=h
def lQ (B:Nat) (G:Nat->Option (Nat × Nat)) (w:World) (lev own:Nat->Option Nat) (S:Nat->Option Value) (r:Nat):D->Prop
 | .box cs=>∃ (b o:Nat) (c:Array Value) (E:TypeId),S r=some (.pointer (some ⟨b,o,none⟩))/\w.heap[b]?=some (.cells c E (0,0))/\o+cs.length<=c.size/\lev b=some 0/\own b=some r /\
   Xv G B b o (o+cs.length)/\∀ (j:Nat) u e,c[o+j]?=some u->cs[j]?=some e->aK (cx w lev S) u e
 | .own z rows=>(∃ a,S r=some (.slice a 0 0)/\rows=[])\/∃ (b:Nat) (c:Array Value) (E:TypeId) (cap:Nat),S r=some (.slice (some ⟨b,0,none⟩) rows.length cap)/\w.heap[b]?=some (.cells c E (0,0)) /\
   c.size=cap*z/\rows.length<=cap/\(∀ r∈rows,r.length=z)/\(∀ r∈rows,∀ d∈r,bG d)/\lev b=some 0/\own b=some r/\Xv G B b 0 c.size /\
   ∀ (i j:Nat) row d,rows[i]?=some row->row[j]?=some d->∃ u,c[i*z+j]?=some u/\aK (cx w lev S) u d
 | .undef=>S r=none
 | _=>False
def lM (tmps:Array Value):Nat->Value:=fun t=>tmps.getD t Go.undef
def lX (f w:World) (b lo a:Nat):Prop:=
 ∃ (c0 c:Array Value) (E:TypeId),f.heap[b]?=some (.cells c0 E (0,0))/\w.heap[b]?=some (.cells c E (0,0))/\c.size=c0.size/\∀ j,(j < lo\/a<=j)->c[j]?=c0[j]?
inductive Mj where
 | ints (k:IntKind) (l:List Int)
 | atE (k:IntKind)
 | atp
def Mj.holds:Mj->Array Value->Prop
 | .ints k l,c=>c=(l.map fun n=>Value.int k n).toArray
 | .atE k,c=>∃ n,c[0]?=some (.int k n)
 | .atp,c=>∃ v,c[0]?=some v/\(v=.nilIface\/∃ t u,v=.iface t u)
def tabs:List (Nat × Mj):=[]
def aaE (w:World) (G:Nat->Option (Nat × Nat)):Prop:=∀ t∈tabs,G t.1=none/\∃ E x c,w.heap[t.1]?=some (.cells c E x)/\t.2.holds c
structure Inv (w0:World) (l0:Nat->Option Nat) (G:Nat->Option (Nat × Nat)) (S0:Nat->Option Value) (w:World) (lev own:Nat->Option Nat) (S:Nat->Option Value) (env:Env) (tm:Nat->Value):Prop where
 os:w.os=w0.os/\aaE w0 G
 tape:w.tape=w0.tape
 output:w.output=w0.output
 size:w0.heap.size<=w.heap.size
 old:∀ b,b < w0.heap.size->G b=none->w.heap[b]?=w0.heap[b]?
 part:∀ b lo hi,G b=some (lo,hi)->lX w0 w b lo hi
 priv:∀ b m,lev b=some m->b < w.heap.size
 jZ:∀ b,b < w0.heap.size->G b=none->lev b=l0 b
 UL:∀ i,i < 16->env.o i≠.undef->S i=S0 i
 oC:∀ s,aK (cx w lev S) (tm s) (env.t s)
 objs:∀ r,lQ w0.heap.size G w lev own S r (env.o r)
def oa (w:World) (lev:Nat->Option Nat) (w':World) (lev':Nat->Option Nat):Prop:=∀ a v,vis w lev a=some v->vis w' lev' a=some v
variable {w':World} {S S':Nat->Option Value} {lev':Nat->Option Nat}
theorem aK.fV (r:aK (cx w lev S) v d) (b:oa w lev w' lev') (a:∀ s∈d.names,∀ u,S s=some u->S' s=some u):aK (cx w' lev' S') v d:=
 aK.keep (C:=cx w lev S) (C':=cx w' lev' S') b r a
theorem aK.wG (r:aK (cx w lev S) v d) (b:oa w lev w' lev') (a:∀ s u,S s=some u->S' s=some u):aK (cx w' lev' S') v d:=
 r.fV b fun s _=>a s
theorem oa.refl (w:World) (lev:Nat->Option Nat):oa w lev w lev:=fun _ _ h=>h
abbrev D.I (n : Int) : D := .int .i64 n
end Go.Abs
namespace Go.Abs
structure FT where
 off:Nat
 sz:Nat
 agg:Bool
structure HC where
 agg:Bool
 sz:Nat
inductive Ty where
 | int (k:IntKind)
 | bool
 | str
 | ptr
 | func
 | slice (z by_:Nat) (eagg:Bool)
 | arr (n z:Nat) (eagg:Bool)
 | struct (fs:List FT)
 | bad
def Pk:TypeDesc->Bool
 | .struct _ | .array _ _=>true
 | _=>false
def gC (P:Program) (t:TypeId):Option HC:=
 match P.underlying t,P.info? t with
 | some d,some i=>some ⟨Pk d,i.size⟩
 | _,_=>none
def pH (P:Program):List Field->Option (List FT)
 | []=>some []
 | f :: r=>match gC P f.type,pH P r with
  | some l,some fs=>if l.sz=0 then none else some (⟨f.offset,l.sz,l.agg⟩ :: fs)
  | _,_=>none
def dV (P:Program) (t:TypeId):Ty:=
 match P.underlying t with
 | some (.int k)=>.int k
 | some .bool=>.bool
 | some .string=>.str
 | some (.pointer _)=>.ptr
 | some (.func _ _ _)=>.func
 | some (.slice e)=>match gC P e,P.info? e with
  | some l,some i=>if l.sz=0 then .bad else if (i.zero.map fun v=>v.cells.size)=some l.sz then .slice l.sz i.bytes l.agg else .bad
  | _,_=>.bad
 | some (.array n e)=>match gC P e with
  | some l=>if l.sz=0 then .bad else .arr n l.sz l.agg
  | none=>.bad
 | some (.struct fs)=>match pH P fs.toList with
  | some l=>.struct l
  | none=>.bad
 | _=>.bad
def tA:Value->D
 | .bool b=>.bool b
 | .int k n=>.int k n
 | .string s=>.str s
 | .slice none 0 0=>.nil
 | .nilFunc=>.kP
 | .nilIface=>.gl
 | .pointer none=>.j4
 | _=>.undef
def oI:Value->D
 | .agg cs=>.agg (cs.toList.map tA)
 | .tuple vs=>if vs.size=0 then .bT [] else .undef
 | v=>tA v
def lz (P:Program) (t:TypeId):Option (List D):=
 match P.info? t with
 | some i=>i.zero.map fun v=>v.cells.toList.map tA
 | none=>none
def D.cells:D->List D
 | .agg cs=>cs
 | d=>[d]
def rd (e:Env):Operand->D
 | .tmp t=>e.t t
 | .const v=>oI v
 | .global _=>.undef
 | .func f=>.fn f []
def gd (g:Bool) (d:D):D:=if g then d else .bT []
def MD (c:BinOp) (k:IntKind) (a b:Int):D:=
 match c with
 | .add=>.int k (k.wrap (a+b))
 | .sub=>.int k (k.wrap (a-b))
 | .mul=>.int k (k.wrap (a*b))
 | .quo=>.int k (k.wrap (a.tdiv b))
 | .rem=>.int k (a.tmod b)
 | .and=>.int k (k.wrap (BitVec.ofInt k.bits a &&& BitVec.ofInt k.bits b).toNat)
 | .or=>.int k (k.wrap (BitVec.ofInt k.bits a ||| BitVec.ofInt k.bits b).toNat)
 | .xor=>.int k (k.wrap (BitVec.ofInt k.bits a ^^^ BitVec.ofInt k.bits b).toNat)
 | .andNot=>.int k (k.wrap (BitVec.ofInt k.bits a &&& ~~~ BitVec.ofInt k.bits b).toNat)
 | .shl=>.int k (k.wrap (a*2 ^ (min b.toNat k.bits)))
 | .shr=>.int k (a.fdiv (2 ^ (min b.toNat k.bits)))
 | .eql=>.bool (a==b)
 | .neq=>.bool (a != b)
 | .lss=>.bool (decide (a < b))
 | .leq=>.bool (decide (a<=b))
 | .gtr=>.bool (decide (b < a))
 | .geq=>.bool (decide (b<=a))
def oh (c:BinOp) (k a:IntKind) (b:Int):Prop:=
 match c with
 | .shl | .shr=>0<=b
 | .quo | .rem=>k=a/\b≠0
 | _=>k=a
def sop (c:BinOp) (a b:ByteArray):D:=
 match c with
 | .add=>.str (a++b)
 | .eql=>.bool (a.toList==b.toList)
 | .neq=>.bool (!(a.toList==b.toList))
 | .lss=>.bool (Op.bytesLess a.toList b.toList)
 | .leq=>.bool (Op.bytesLess a.toList b.toList||a.toList==b.toList)
 | .gtr=>.bool (!(Op.bytesLess a.toList b.toList||a.toList==b.toList))
 | .geq=>.bool (!Op.bytesLess a.toList b.toList)
 | _=>.undef
def OT (c:BinOp) (a b:ByteArray):Prop:=
 match c with
 | .add=>a.size+b.size<=2 ^ 62
 | .eql | .neq | .lss | .leq | .gtr | .geq=>True
 | _=>False
inductive tX where
 | int | bool | str
def ux (lv:TypeId->Option (List tX)):List Field->Nat->Option (List tX)
 | [],_=>some []
 | f :: r, off => if f.name != "_" && f.offset == off then (match lv f.type with
  | some ls=>(ux lv r (off+ls.length)).map fun rs=>ls++rs
  | none=>none) else none
def iZ (P:Program):Nat->TypeId->Option (List tX)
 | 0,_=>none
 | k+1,t=>match P.underlying t,gC P t with
  | some (.int _),some ⟨false,1⟩=>some [.int]
  | some .bool,some ⟨false,1⟩=>some [.bool]
  | some .string,some ⟨false,1⟩=>some [.str]
  | some (.struct fs),some ⟨true,sz⟩=>if P.stoodInHeld t||P.eqGuardType P.depth t then none else (match ux (iZ P k) fs.toList 0 with
   | some ls=>if ls.length=sz/\sz≠0 then some ls else none
   | none=>none)
  | some (.array n e),some ⟨true,sz⟩=>if P.eqGuardType P.depth t then none else (match iZ P k e with
   | some ls=>if n*ls.length=sz/\sz≠0 then some (List.replicate n ls).flatten else none
   | none=>none)
  | _,_=>none
def xg:D->D->Bool
 | .int _ a,.int _ b=>a==b
 | .bool a,.bool b=>a==b
 | .str a,.str b=>a==b
 | _,_=>false
def cZ:List D->List D->Bool
 | a :: x,b :: y=>xg a b&&cZ x y
 | _,_=>true
def KG:tX->D->D->Prop
 | .int,.int k _,.int k' _=>k=k'
 | .bool,.bool _,.bool _=>True
 | .str,.str _,.str _=>True
 | _,_,_=>False
def ff:List tX->List D->List D->Prop
 | [],[],[]=>True
 | l :: ls,a :: x,b :: y=>KG l a b/\ff ls x y
 | _,_,_=>False
def Mw (a:BinOp) (b:Bool):D:=
 match a with
 | .eql=>.bool b
 | .neq=>.bool (!b)
 | _=>.undef
def wX (c:BinOp):D->D->D
 | .int k a,.int _ b=>MD c k a b
 | .str a,.str b=>sop c a b
 | .bool a,.bool b=>Mw c (a==b)
 | .agg a,.agg b=>Mw c (cZ a b)
 | .gl,.gl=>Mw c true
 | .gR,.gl=>Mw c false
 | .gl,.gR=>Mw c false
 | .j4,.j4=>Mw c true
 | .addr _ _,.j4=>Mw c false
 | .bq _,.j4=>Mw c false
 | _,_=>.undef
def Jv (c:BinOp) (t:Ty):D->D->Prop
 | .int k _,.int k' b=>oh c k k' b
 | .str a,.str b=>OT c a b
 | .bool _,.bool _=>(c=.eql\/c=.neq)/\t=.bool
 | _,_=>False
def isEq (a:BinOp):Prop:=a=.eql\/a=.neq
def uy (o:Option (List tX)) (a b:List D):Prop:=
 match o with
 | some ls=>ff ls a b
 | none=>False
def isIface (P:Program) (t:TypeId):Bool:=
 match P.underlying t with
 | some (.interface _)=>true
 | _=>false
def Gb (P:Program) (t:TypeId):Bool:=
 match gC P t with
 | some l=>l.agg
 | none=>false
def Kn:Ty->Prop
 | .ptr=>True
 | _=>False
def vQ (P:Program) (c:Bool) (d:BinOp) (t:TypeId):D->D->Prop
 | .agg a,.agg b=>isEq d/\Gb P t=true/\uy (iZ P 9 t) a b
 | .gl,.gl=>isEq d/\isIface P t=true/\c=true
 | .gR,.gl=>isEq d/\isIface P t=true
 | .gl,.gR=>isEq d/\isIface P t=true
 | .j4,.j4=>isEq d/\Kn (dV P t)
 | .addr _ _,.j4=>isEq d/\Kn (dV P t)
 | .bq _,.j4=>isEq d/\Kn (dV P t)
 | a,b=>Jv d (dV P t) a b
def isConst:Operand->Bool
 | .const _=>true
 | _=>false
def yu (a:UnOp):D->D
 | .int k n=>match a with
  | .neg=>.int k (k.wrap (0-n))
  | .xor=>.int k (k.wrap (BitVec.ofInt k.bits (if k.signed then -1 else k.max) ^^^ BitVec.ofInt k.bits n).toNat)
  | _=>.undef
 | .bool b=>match a with
  | .not=>.bool (!b)
  | _=>.undef
 | _=>.undef
def tV (a:UnOp):D->Prop
 | .int _ _=>a=.neg\/a=.xor
 | .bool _=>a=.not
 | _=>False
def NJ (s t:Ty):D->D
 | .int _ n=>match t with
  | .int k=>.int k (k.wrap n)
  | _=>.undef
 | .str b=>match t with
  | .str=>.str b
  | _=>.undef
 | d=>match s,t with
  | _,_=>d
def JP (s t:Ty):D->Prop
 | .int _ _=>(∃ k,t=.int k)/\∃ k,s=.int k
 | .str _=>t=.str/\s=.str
 | _=>False
def part (agg:Bool) (off n:Nat) (cs:List D):D:=if agg then .agg ((cs.drop off).take n) else (cs.drop off).headD .undef
def faV (a:List FT) (f:Nat):D->D
 | .addr r o=>.addr r (o+((a[f]?).map (·.off)).getD 0)
 | .bX r z i k=>.bX r z i (k+((a[f]?).map (·.off)).getD 0)
 | .bq cs=>.bq (cs.drop (((a[f]?).map (·.off)).getD 0))
 | _=>.undef
def X5 (a:List FT) (f:Nat):D->Prop
 | .addr _ _=>f < a.length
 | .bX _ _ _ _=>f < a.length
 | .bq _=>f < a.length
 | _=>False
def Yg (e:Env) (t:Ty):D->D->D
 | .sl _ rows,.int _ i=>.bq (rows.getD i.toNat [])
 | .ref r,.int _ i=>match t with
  | .slice z _ _=>.bX r z i.toNat 0
  | _=>.undef
 | .eC r z lo _,.int _ i=>.bX r z (lo+i.toNat) 0
 | .bW r off z _ _,.int _ i=>.addr r (off+i.toNat*z)
 | .addr r o,.int _ i=>match t with
  | .arr _ z _=>.addr r (o+i.toNat*z)
  | _=>.undef
 | .bX r z j k,.int _ i=>match t with
  | .arr _ z' _=>.bX r z j (k+i.toNat*z')
  | _=>.undef
 | .bq cs,.int _ i=>match t with
  | .arr _ z _=>.bq (cs.drop (i.toNat*z))
  | _=>.undef
 | _,_=>.undef
def VO (z:Nat):Ty->Prop
 | .slice z' _ _=>z=z'
 | _=>False
def WX (z:Nat) (i:Int):D->Prop
 | .own z' rows=>z'=z/\i < rows.length
 | _=>False
def R6 (e:Env) (t:Ty):D->D->Prop
 | .sl z rows,.int _ i=>VO z t/\0<=i/\i < rows.length
 | .ref r,.int _ i=>0<=i/\match t with
  | .slice z _ _=>WX z i (e.o r)
  | _=>False
 | .eC _ z _ len,.int _ i=>VO z t/\0<=i/\i < len
 | .bW _ _ z len _,.int _ i=>VO z t/\0<=i/\i < len
 | .addr _ _,.int _ i | .bX _ _ _ _,.int _ i | .bq _,.int _ i=>match t with
  | .arr n _ _=>0<=i/\i < n
  | _=>False
 | _,_=>False
def ixV (t:Ty):D->D->D
 | .agg cs,.int _ i=>match t with
  | .arr _ z a=>part a (i.toNat*z) z cs
  | _=>.undef
 | .str s,.int _ i=>.int .u8 ((s[i.toNat]?).map (·.toNat)|>.getD 0)
 | _,_=>.undef
def Sj (t:Ty):D->D->Prop
 | .agg cs,.int _ i=>match t with
  | .arr n z _=>0<=i/\i < n/\cs.length=n*z
  | _=>False
 | .str s,.int _ i=>t=.str/\0<=i/\i < s.size
 | _,_=>False
def X9 (a:List FT) (f:Nat):D->D
 | .agg cs=>match a[f]? with
  | some x=>part x.agg x.off x.sz cs
  | none=>.undef
 | _=>.undef
def NZ (a:List FT) (f:Nat):D->Prop
 | .agg cs=>match a[f]? with
  | some x=>x.off+x.sz<=cs.length
  | none=>False
 | _=>False
def ldB (l:HC) (o:Nat):D->D
 | .box cs=>part l.agg o l.sz cs
 | _=>.undef
def ldW (l:HC) (i k:Nat):D->D
 | .own _ rows=>part l.agg k l.sz (rows.getD i [])
 | _=>.undef
def ldV (e:Env) (l:HC):D->D
 | .addr r o=>ldB l o (e.o r)
 | .bX r _ i k=>ldW l i k (e.o r)
 | .bq cs=>part l.agg 0 l.sz cs
 | _=>.undef
def Ay (l:HC):Prop:=1<=l.sz/\(l.agg=false->l.sz=1)
def WH (l:HC) (o:Nat):D->Prop
 | .box cs=>o+l.sz<=cs.length/\Ay l
 | _=>False
def WI (l:HC) (z i k:Nat):D->Prop
 | .own z' rows=>z'=z/\i < rows.length/\k+l.sz<=z/\Ay l
 | _=>False
def P7 (e:Env) (l:HC):D->Prop
 | .addr r o=>WH l o (e.o r)
 | .bX r z i k=>WI l z i k (e.o r)
 | .bq cs=>l.sz<=cs.length/\Ay l
 | _=>False
def gD (cs:List D) (o:Nat) (xs:List D):List D:=cs.take o++xs++cs.drop (o+xs.length)
def mo:List D->List (Nat × Nat × D)->List D
 | cs,[]=>cs
 | cs,(off,_,d) :: r=>mo (gD cs off d.cells) r
def oN (n:Nat):List (Nat × Nat × D)->Prop
 | []=>True
 | (off,sz,d) :: r=>d.cells.length=sz/\off+sz<=n/\(∀ c∈d.cells,dZ c)/\oN n r
def rowsOf (z:Nat):Nat->List D->List (List D)
 | 0,_=>[]
 | n+1,cs=>cs.take z :: rowsOf z n (cs.drop z)
end Go.Abs
namespace Go.Abs
variable {t:TypeId} {i:TypeInfo} {l:HC} {v x y:Value} {k c:IntKind} {n:Int} {ds cs:List D} {rows:List (List D)} {z r off len cap:Nat} {op:BinOp} {b a:D} {d e:Operand} {f:UnOp}
section
variable {P:Program} {w:World} {V:Cx}
theorem bC {d:TypeDesc} (h:P.underlying t=some d) (w:World):(underlying t).run P w=.ok d w:=run_underlying h w
theorem jQ (h:P.info? t=some i) (w:World):(typeInfo t).run P w=.ok i w:=by
 simp [typeInfo,program,h,Sem.run_bind,Sem.run]
theorem acR (h:P.info? t=some i) (w:World):(sizeOf t).run P w=.ok i.size w:=by
 simp [sizeOf,jQ h,Sem.run_bind,Sem.run]
theorem WG (h:gC P t=some l):∃ d i,P.underlying t=some d/\P.info? t=some i/\l=⟨Pk d,i.size⟩:=by
 unfold gC at h;split at h
 ·rename_i d i g j;exact ⟨d,i,g,j,by simpa using h.symm⟩
 ·cases h
theorem bU (h:gC P t=some l) (w:World):(sizeOf t).run P w=.ok l.sz w:=by
 obtain ⟨d,i,_,g,rfl⟩:=WG h;exact acR g w
theorem GG (h:gC P t=some l) (w:World):(isAgg t).run P w=.ok l.agg w:=by
 obtain ⟨d,i,g,_,rfl⟩:=WG h;simp only [isAgg,Sem.run_bind,bC g];cases d<;>simp [Pk,Sem.run,pure]
theorem aK.dK (h:aK V v (.int k n)):v=.int k n:=by cases h;rfl
theorem aK.kF {b:Bool} (h:aK V v (.bool b)):v=.bool b:=by cases h;rfl
theorem aK.pO {s:ByteArray} (h:aK V v (.str s)):v=.string s:=by cases h;rfl
theorem aK.pG (h:aK V v (.agg ds)):∃ vs,v=.agg vs/\vs.size=ds.length/\∀ (i:Nat) v d,vs[i]?=some v->ds[i]?=some d->aK V v d:=by
 cases h with
 | agg vs ds hl hi=>exact ⟨vs,rfl,hl,hi⟩
theorem aK.Ei (h:aK V v (.bT ds)):∃ vs,v=.tuple vs/\vs.size=ds.length/\∀ (i:Nat) v d,vs[i]?=some v->ds[i]?=some d->aK V v d:=by
 cases h with
 | bT vs ds hl hi=>exact ⟨vs,rfl,hl,hi⟩
theorem aK.Bw {f:FuncId} (h:aK V v (.fn f ds)):∃ vs,v=.func (.func f) #[] vs/\vs.size=ds.length/\∀ (i:Nat) v d,vs[i]?=some v->ds[i]?=some d->aK V v d:=by
 cases h with
 | fn f vs ds hl hi=>exact ⟨vs,rfl,hl,hi⟩
theorem aK.BZ (h:aK V v (.sl z rows)) :
  ∃ a cap,v=.slice a rows.length cap/\rows.length<=cap/\(∀ r∈rows,r.length=z)/\(∀ r∈rows,∀ d∈r,bG d) /\
   (a=none->rows=[]/\cap=0)/\∀ g,a=some g->∀ (i j:Nat) r d,rows[i]?=some r->r[j]?=some d->∃ u,V.V (g.add (i*z+j))=some u/\aK V u d:=by
 cases h with
 | slnil z=>exact ⟨none,0,rfl,by simp,by simp,by simp,fun _=>⟨rfl,rfl⟩,(fun g h=>by cases h)⟩
 | sl z a cap rows f hl hz hk hV hR =>
  refine ⟨some a,cap,rfl,hl,hz,hk,(fun h=>by cases h),?_⟩;rintro g ⟨⟩ i j r d hi hj;exact ⟨_,hV i j r d hi hj,hR i j r d hi hj⟩
theorem aK.oJ (h:aK V v (.bq cs)) :
  ∃ a,v=.pointer (some a)/\(∀ d∈cs,d.names=[])/\∀ (j:Nat) d,cs[j]?=some d->∃ u,V.V (a.add j)=some u/\aK V u d:=by
 cases h with
 | bq a cs f hn hV hR=>exact ⟨a,rfl,hn,fun j d g=>⟨_,hV j d g,hR j d g⟩⟩
theorem aK.nS (h:aK V v (.ref r)):V.S r=some v/\∃ a len cap,v=.slice a len cap:=by
 cases h with
 | ref r a len cap h=>exact ⟨h,a,len,cap,rfl⟩
theorem aK.jJ (h:aK V v (.addr r off)):∃ a,V.S r=some (.pointer (some a))/\v=.pointer (some (a.add off)):=by
 cases h with
 | addr r off a h=>exact ⟨a,h,rfl⟩
theorem aK.lH {i k:Nat} (h:aK V v (.bX r z i k)):∃ a len cap,V.S r=some (.slice (some a) len cap)/\v=.pointer (some (a.add (i*z+k))):=by
 cases h with
 | bX r z i k a len cap h=>exact ⟨a,len,cap,h,rfl⟩
theorem aK.mz {lo:Nat} (h:aK V v (.eC r z lo len)):∃ a j L cap g,V.S r=some (.slice a L cap)/\v=.slice j len g/\(len≠0->∃ b,a=some b/\j=some (b.add (lo*z)))/\len<=g/\(j=none->g=0):=by
 cases h with
 | eC r z lo len a j L cap g h h1 h2 h3=>exact ⟨a,j,L,cap,g,h,rfl,h1,h2,h3⟩
theorem aK.gv (h:aK V v (.bW r off z len cap)):∃ a j g,V.S r=some (.pointer (some a))/\v=.slice j len g/\(len≠0->j=some (a.add off))/\len<=g/\(j=none->g=0)/\g=cap/\(cap≠0->j=some (a.add off)):=by
 cases h with
 | bW r off z len cap a j h h1 h2 =>
  refine ⟨a,j,cap,h,rfl,fun m=>h1 (by omega),h2,?_,rfl,h1⟩;intro m;by_cases e:cap=0
  ·exact e
  ·have:=h1 e;rw [m] at this;cases this
theorem kq {a:Addr} (q:rows.length<=cap) (s:∀ r∈rows,r.length=z) (p:∀ r∈rows,∀ d∈r,bG d)
  (h:∀ (i j:Nat) r d,rows[i]?=some r->r[j]?=some d->∃ u,V.V (a.add (i*z+j))=some u/\aK V u d):aK V (.slice (some a) rows.length cap) (.sl z rows):=
 .sl z a cap rows (fun i j=>(V.V (a.add (i*z+j))).getD Go.undef) q s p
  (fun i j r d g m=>by obtain ⟨u,o,_⟩:=h i j r d g m;simp [o])
  (fun i j r d g m=>by obtain ⟨u,o,hr⟩:=h i j r d g m;simpa [o] using hr)
theorem mQ {a:Addr} (o:∀ d∈cs,d.names=[]) (h:∀ (j:Nat) d,cs[j]?=some d->∃ u,V.V (a.add j)=some u/\aK V u d):aK V (.pointer (some a)) (.bq cs):=
 .bq a cs (fun j=>(V.V (a.add j)).getD Go.undef) o
  (fun j d g=>by obtain ⟨u,m,_⟩:=h j d g;simp [m])
  (fun j d g=>by obtain ⟨u,m,hr⟩:=h j d g;simpa [m] using hr)
theorem sW (v:Value):aK V v (tA v):=by
 unfold tA;split<;>first | exact .bool _ | exact .int _ _ | exact .str _ | exact .nil | exact .kP | exact .gl | exact .j4 | exact .undef _
theorem Tp (v:Value):aK V v (oI v):=by
 unfold oI;split
 ·rename_i cs;refine .agg _ _ (by simp) ?_;intro i v d h g;simp only [List.getElem?_map] at g;have:cs.toList[i]?=some v:=by simpa using h
  rw [this] at g;simp at g;subst g;exact sW v
 ·rename_i vs;split
  ·rename_i j;have:vs = #[]:=by simpa using j
   subst this;exact .bT _ _ rfl (by intro i v d h;simp at h)
  ·exact .undef _
 ·exact sW _
theorem afz {m:Int} (h:oh op k c m) (w:World) :
  ∃ u,(binOp op t (.int k n) (.int c m)).run P w=.ok u w/\aK V u (MD op k n m):=by
 cases op
 case shl=>exact ⟨_,by have j:¬ m < 0:=Int.not_lt.2 h;simp [binOp,Op.shift,j,Sem.run,pure],.int _ _⟩
 case shr=>exact ⟨_,by have j:¬ m < 0:=Int.not_lt.2 h;simp [binOp,Op.shift,j,Sem.run,pure],.int _ _⟩
 case quo =>
  have g:=h.1;have o:=h.2;subst g;exact ⟨_,by simp [binOp,Op.intDiv,o,Sem.run,pure],.int _ _⟩
 case rem =>
  have g:=h.1;have o:=h.2;subst g;exact ⟨_,by simp [binOp,Op.intDiv,o,Sem.run,pure],.int _ _⟩
 all_goals
  have g:k=c:=h;subst g;first
   | exact ⟨_,by simp [binOp,Op.intArith,Op.intBits,Op.intCmp,Sem.run,pure],.int _ _⟩
   | exact ⟨_,by simp [binOp,Op.intArith,Op.intBits,Op.intCmp,Sem.run,pure],.bool _⟩
theorem run_equalIn_bool (g:P.underlying t=some .bool) (d:Nat) (p q:Bool) (w:World):(Op.equalIn (d+1) t (.bool p) (.bool q)).run P w=.ok (p==q) w:=by
 unfold Op.equalIn;simp only [Sem.run_bind,bC g];rfl
theorem Zs (j:aK V x a) (o:aK V y b) (h:Jv op (dV P t) a b) (w:World) :
  ∃ u,(binOp op t x y).run P w=.ok u w/\aK V u (wX op a b):=by
 cases a<;>try exact h.elim
 case int k n =>
  cases b<;>try exact h.elim
  case int k' m =>
   rw [j.dK,o.dK];exact afz h w
 case str s =>
  cases b<;>try exact h.elim
  case str s' =>
   rw [j.pO,o.pO];simp only [Jv] at h;cases op<;>simp only [OT] at h<;>try exact h.elim
   case add =>
    refine ⟨.string (s++s'),?_,.str _⟩;have:¬ (((s.size+s'.size:Nat):Int) > IntKind.i64.max):=by
     simp [IntKind.max,IntKind.bits,IntKind.signed];omega
    simp only [binOp,Op.stringOp,ak this];rfl
   all_goals exact ⟨_,by simp only [binOp,Op.stringOp];rfl,by simp only [wX,sop];constructor⟩
 case bool p =>
  cases b<;>try exact h.elim
  case bool q =>
   rw [j.kF,o.kF];obtain ⟨B,g⟩:=h;have C:P.underlying t=some .bool:=by
    unfold dV at g;split at g<;>first | assumption | (exfalso;revert g;(repeat' split)<;>simp) | cases g
   have A:(Op.equal t (.bool p) (.bool q)).run P w=.ok (p==q) w:=by
    exact run_equalIn_bool C 9999 p q w
   rcases B with rfl | rfl
   ·exact ⟨.bool (p==q),by simp [binOp,Sem.run_bind,A,Sem.run,pure],by simp only [wX,Mw];constructor⟩
   ·exact ⟨.bool (!(p==q)),by simp [binOp,Sem.run_bind,A,Sem.run,pure],by simp only [wX,Mw];constructor⟩
theorem Zw (g:aK V x a) (h:tV f a) (w:World) :
  ∃ u,(Op.unary f x).run P w=.ok u w/\aK V u (yu f a):=by
 cases a<;>try exact h.elim
 case int k n =>
  rw [g.dK];rcases h with rfl | rfl
  ·exact ⟨.int k (k.wrap (0-n)),by simp only [Op.unary,Op.intArith];rfl,.int _ _⟩
  ·exact ⟨_,by simp [Op.unary,Op.intBits,Sem.run,pure];rfl,by simp only [yu];constructor⟩
 case bool b =>
  rw [g.kF];simp only [tV] at h;subst h;exact ⟨.bool (!b),rfl,by simp only [yu];constructor⟩
theorem Ra (h:dV P t=.int k):P.underlying t=some (.int k):=by
 unfold dV at h;split at h<;>first | (cases h;assumption) | cases h | (exfalso;revert h;(repeat' split)<;>simp)
theorem El (h:dV P t=.str):P.underlying t=some .string:=by
 unfold dV at h;split at h<;>first | (cases h;assumption) | cases h | (exfalso;revert h;(repeat' split)<;>simp)
theorem dO {n:Nat} {a:Bool} (h:dV P t=.slice z n a) :
  ∃ e i,P.underlying t=some (.slice e)/\gC P e=some ⟨a,z⟩/\P.info? e=some i/\i.bytes=n/\z≠0/\∃ j,i.zero=some j/\j.cells.size=z:=by
 unfold dV at h;split at h<;>try (cases h;done)
 ·rename_i e q;split at h<;>try (cases h;done)
  rename_i l i p o;split at h
  ·cases h
  ·split at h
   ·rename_i g;cases h;cases m:i.zero with
    | none=>rw [m] at g;cases g
    | some j =>
     rw [m] at g;exact ⟨e,i,q,p,o,rfl,by assumption,j,m,by simpa using g⟩
   ·cases h
 ·split at h<;>try (cases h;done)
  split at h<;>cases h
 ·split at h<;>cases h
theorem Ek {n:Nat} {a:Bool} (h:dV P t=.arr n z a):∃ e,P.underlying t=some (.array n e)/\gC P e=some ⟨a,z⟩/\z≠0:=by
 unfold dV at h;split at h<;>try (cases h;done)
 ·split at h<;>try (cases h;done)
  split at h<;>try (cases h;done)
  split at h<;>cases h
 ·rename_i n' e j;split at h<;>try (cases h;done)
  rename_i l g;split at h
  ·cases h
  ·cases h;exact ⟨e,j,g,by assumption⟩
 ·split at h<;>cases h
theorem B4 {l:List FT} (h:dV P t=.struct l):∃ g,P.underlying t=some (.struct g)/\pH P g.toList=some l:=by
 unfold dV at h;split at h<;>try (cases h;done)
 ·split at h<;>try (cases h;done)
  split at h<;>try (cases h;done)
  split at h<;>cases h
 ·split at h<;>try (cases h;done)
  split at h<;>cases h
 ·rename_i g j;split at h<;>try (cases h;done)
  cases h;exact ⟨g,j,by assumption⟩
theorem Bv:∀ {m:List Field} {l:List FT},pH P m=some l->l.length=m.length/\∀ (i:Nat) f,m[i]?=some f->∃ ly,gC P f.type=some ly/\ly.sz≠0/\l[i]?=some ⟨f.offset,ly.sz,ly.agg⟩
 | [],l,h=>by simp only [pH,ny] at h;subst h;exact ⟨rfl,by intro i f h;simp at h⟩
 | f :: r,l,h=>by
  unfold pH at h;split at h<;>try (cases h;done)
  rename_i ly fs' q hr;split at h
  ·cases h
  ·rename_i s;cases h;obtain ⟨o,p⟩:=Bv hr;refine ⟨by simp [o],?_⟩;intro i g j;cases i with
   | zero=>simp at j;subst j;exact ⟨ly,q,s,rfl⟩
   | succ i=>simp at j |-;exact p i g j
theorem Tu {s d:TypeId} (m:aK V x a) (h:JP (dV P s) (dV P d) a) (w:World) :
  ∃ u,(convert s d x).run P w=.ok u w/\aK V u (NJ (dV P s) (dV P d) a):=by
 cases a<;>try exact h.elim
 case int k n =>
  rw [m.dK];obtain ⟨⟨o,g⟩,⟨k'',j⟩⟩:=h;refine ⟨.int o (o.wrap n),?_,by simp only [NJ,g];constructor⟩;simp [convert,Sem.run_bind,bC (Ra g),bC (Ra j),Conv.intToInt,Sem.run,pure]
 case str b =>
  rw [m.pO];obtain ⟨g,j⟩:=h;refine ⟨.string b,?_,by simp only [NJ,g];constructor⟩;simp [convert,Sem.run_bind,bC (El g),bC (El j),Sem.run,pure]
end
end Go.Abs
namespace Go.Abs
open List
theorem add_add (a:Addr) (i j:Nat):(a.add i).add j=a.add (i+j):=by
 unfold Addr.add;by_cases b:i=0<;>by_cases e:j=0<;>simp [b,e,Nat.add_assoc]
theorem fX (b o j:Nat):(⟨b,o,none⟩:Addr).add j=⟨b,o+j,none⟩:=by
 unfold Addr.add;split
 ·rename_i h;simp [h]
 ·rfl
variable {E:TypeId} {c:Array Value} {d:Nat × Nat}
theorem j8 (w:World) (b i:Nat) (h:w.heap[b]?=some (.cells c E d)):w.cell? ⟨b,i,none⟩=c[i]?:=by
 simp [World.cell?,h]
variable {l:HC} {t:TypeId} {a:Addr} {cs ds:List D} {x i:Value} {o f z m:Nat} {n:Int} {k:IntKind} {ea:Bool}
section
variable {P:Program} {w:World} {V:Cx}
theorem LD (e:gC P t=some l) (g:l.agg=false->l.sz=1) (cs:List Value) (b:cs.length=l.sz)
  (h:∀ (j:Nat) v,cs[j]?=some v->w.cell? (a.add j)=some v) :
  (Instr.loadAt t (.pointer (some a))).run P w=.ok (if l.agg then .agg cs.toArray else cs.headD Go.undef) w:=by
 simp only [Instr.loadAt,Instr.sureAddr,loadVar,Sem.run_bind,GG e];cases p:l.agg with
 | false =>
  have q:=g p
  match cs,b.trans q with
  | [v],_ =>
   have:=h 0 v rfl;simp [load,Sem.run,pure,Addr.add] at this |-;simp [Sem.bind,Sem.run,this]
 | true =>
  have hr:=run_loadCells_list (P:=P) (w:=w) a cs h;rw [b] at hr;simp [Sem.run_bind,bU e,hr,Sem.run,pure]
theorem K8 {n:Nat} (h:1<=n):((cs.take n).headD .undef)=cs.headD .undef:=by
 cases cs with
 | nil=>simp
 | cons a t=>cases n with
  | zero=>omega
  | succ n=>simp
theorem OM (p:l.agg=false->l.sz=1) (h0:1<=l.sz) {vs:List Value} (g:vs.length=l.sz) (b:ds.length=l.sz)
  (h:∀ (j:Nat) v d,vs[j]?=some v->ds[j]?=some d->aK V v d) :
  aK V (if l.agg then .agg vs.toArray else vs.headD Go.undef) (if l.agg then .agg ds else ds.headD .undef):=by
 cases q:l.agg with
 | true =>
  refine .agg _ _ (by simp [g,b]) ?_;intro i v d r s;exact h i v d (by simpa using r) s
 | false =>
  have e:=p q
  match vs,ds,g.trans e,b.trans e with
  | [v],[d],_,_=>exact h 0 v d rfl rfl
theorem QL (y:∀ a v,V.V a=some v->w.cell? a=some v) (B:gC P t=some l) (D:aK V x (.bq cs))
  (hs:l.sz<=cs.length) (h:1<=l.sz) (p:l.agg=false->l.sz=1) :
  ∃ u,(Instr.loadAt t x).run P w=.ok u w/\aK V u (part l.agg 0 l.sz cs):=by
 obtain ⟨a,rfl,hn,A⟩:=D.oJ
 let f:Nat->Value:=fun j=>(V.V (a.add j)).getD Go.undef
 have s:∀ (j:Nat) d,cs[j]?=some d->V.V (a.add j)=some (f j)/\aK V (f j) d:=by
  intro j d b;obtain ⟨u,C,hr⟩:=A j d b;simp only [f,C,Option.getD_some];exact ⟨trivial,hr⟩
 have e:((range l.sz).map f).length=l.sz:=by simp
 refine ⟨_,LD B p ((range l.sz).map f) e ?_,?_⟩
 ·intro j v b;simp only [getElem?_map] at b;rcases bZ j l.sz with hlt | hge
  ·rw [getElem?_range hlt] at b;simp at b;subst b;exact y _ _ (s j cs[j] (fO (by omega))).1
  ·rw [getElem?_eq_none (by simpa using hge)] at b;simp at b
 ·have:=OM (V:=V) p h (vs:=(range l.sz).map f) (ds:=cs.take l.sz) e (by simp;omega) (by
   intro j v d g r;rcases bZ j l.sz with hlt | hge
   ·simp only [getElem?_map,getElem?_range hlt,Option.map_some,ny] at g;rw [getElem?_take_of_lt hlt] at r;subst g;exact (s j d r).2
   ·rw [getElem?_eq_none (by simpa using hge)] at g;cases g)
  unfold part;simp only [drop_zero];cases q:l.agg with
  | true=>simpa [q] using this
  | false =>
   rw [q] at this;simp only [Bool.false_eq_true,if_false] at this |-;rw [K8 h] at this;exact this
theorem yf {l:List FT} (u:dV P t=.struct l) (q:f < l.length) :
  (Instr.fieldAt t (.pointer (some a)) f).run P w=.ok (.pointer (some (a.add (((l[f]?).map (·.off)).getD 0)))) w:=by
 obtain ⟨g,v,e⟩:=B4 u;obtain ⟨s,r⟩:=Bv e;have b:f < g.size:=by simpa [s] using q
 obtain ⟨ly,h,j,p⟩:=r f g[f] (by simp [b]);simp [Instr.fieldAt,Sem.run_bind,bC v,b,Instr.sureAddr,fieldPlace,bU h,j,p,Sem.run,pure]
theorem afy {l:List FT} (q:dV P t=.struct l) (h:f < l.length) (r:aK V x (.bq cs)) :
  ∃ u,(Instr.fieldAt t x f).run P w=.ok u w/\aK V u (.bq (cs.drop (((l[f]?).map (·.off)).getD 0))):=by
 obtain ⟨a,rfl,p,e⟩:=r.oJ;refine ⟨_,yf q h,mQ (fun d g=>p d (mem_of_mem_drop g)) ?_⟩;intro j d b;rw [getElem?_drop] at b;rw [add_add];exact e _ d b
theorem Tw (j:gC P t=some l) {vs:Array Value} (hn:vs.size=ds.length)
  (h:∀ (i:Nat) v d,vs[i]?=some v->ds[i]?=some d->aK V v d) {off:Nat} (ho:off+l.sz<=ds.length) (h0:1<=l.sz) :
  ∃ u,(Go.part t vs off).run P w=.ok u w/\aK V u (part l.agg off l.sz ds):=by
 simp only [Go.part,Sem.run_bind,GG j,part];cases ha:l.agg with
 | true =>
  refine ⟨.agg (vs.extract off (off+l.sz)),by simp [Sem.run_bind,bU j,Sem.run,pure],.agg _ _ (by simp;omega) ?_⟩;intro i v d g e;rcases bZ i l.sz with b | hge
  ·rw [getElem?_take_of_lt b,getElem?_drop] at e;refine h (off+i) v d ?_ e;rw [Array.getElem?_extract] at g;split at g
   ·simpa using g
   ·cases g
  ·rw [getElem?_eq_none (by simp;omega)] at e;cases e
 | false =>
  have b:off < vs.size:=by omega
  refine ⟨vs[off],by simp [b,Sem.run,pure],?_⟩;have e:(ds.drop off).headD .undef=ds[off]'(by omega):=by
   rw [drop_eq_getElem_cons (by omega)];rfl
  rw [ak (by simp),e];exact h off _ _ (by simp [b]) (fO (by omega))
theorem Zt {l:List FT} (B:dV P t=.struct l) (D:aK V x (.agg ds)) (h:NZ l f (.agg ds)) :
  ∃ u,(Instr.field t x f).run P w=.ok u w/\aK V u (X9 l f (.agg ds)):=by
 obtain ⟨p,C,j⟩:=B4 B;obtain ⟨y,v⟩:=Bv j;obtain ⟨vs,rfl,A,s⟩:=D.pG;simp only [NZ] at h;split at h
 ·rename_i ft b;have e:f < p.size:=by
   have:=(fA.1 b).1;simpa [y] using this
  obtain ⟨ly,r,h2,q⟩:=v f p[f] (by simp [e]);rw [b] at q;cases q;obtain ⟨u,hr,g⟩:=Tw (w:=w) r A s h (by omega);refine ⟨u,?_,by simp only [X9,b];exact g⟩;simp [Instr.field,Sem.run_bind,bC C,e,asAgg,Sem.run,pure,hr]
 ·exact h.elim
theorem run_indexAt_slice (B:dV P t=.slice z f ea) {rows:List (List D)}
  (F:aK V x (.sl z rows)) (y:aK V i (.int k n)) (s:0<=n) (p:n < rows.length) :
  ∃ u,(Instr.indexAt t x i).run P w=.ok u w/\aK V u (.bq (rows.getD n.toNat [])):=by
 obtain ⟨e,inf,C,A,hin,hb,hz,_⟩:=dO B;obtain ⟨a,cap,rfl,hcap,hrl,h,g,v⟩:=F.BZ;rw [y.dK];cases a with
 | none =>
  have:=(g rfl).1;subst this;simp at p;omega
 | some ad =>
  refine ⟨.pointer (some (ad.add (n.toNat*z))),?_,mQ (fun d q=>by
   have b:n.toNat < rows.length:=by omega
   have:rows.getD n.toNat []=rows[n.toNat]:=by simp [getD,fO b]
   rw [this] at q
   exact (h _ (ck b) d q).2) ?_⟩
  ·simp [Instr.indexAt,Sem.run_bind,asIntOf,bC C,s,p,bU A,Sem.run,pure]
  ·intro j d r;have b:n.toNat < rows.length:=by omega
   rw [add_add];have hr:rows[n.toNat]?=some rows[n.toNat]:=fO b;have:rows.getD n.toNat []=rows[n.toNat]:=by simp [getD,hr]
   rw [this] at r;exact v ad rfl n.toNat j _ d hr r
theorem qC (p:dV P t=.arr m z ea)
  (h:aK V i (.int k n)) (b:0<=n) (g:n < m) :
  (Instr.indexAt t (.pointer (some a)) i).run P w=.ok (.pointer (some (a.add (n.toNat*z)))) w:=by
 obtain ⟨e,q,j,hz⟩:=Ek p;rw [h.dK];simp [Instr.indexAt,Sem.run_bind,asIntOf,bC q,b,g,bU j,Instr.sureAddr,Sem.run,pure]
theorem M9 (y:dV P t=.arr m z ea)
  (B:aK V x (.agg ds)) (s:aK V i (.int k n)) (j:0<=n) (p:n < m) (r:ds.length=m*z) :
  ∃ u,(Instr.index t x i).run P w=.ok u w/\aK V u (part ea (n.toNat*z) z ds):=by
 obtain ⟨e,A,h,C⟩:=Ek y;obtain ⟨vs,rfl,v,q⟩:=B.pG;rw [s.dK];have g:n.toNat*z+z<=ds.length:=by
  rw [r,<- Nat.succ_mul];exact l6 z (by omega)
 obtain ⟨u,hr,b⟩:=Tw (P:=P) (w:=w) h v q g (by simpa using Nat.one_le_iff_ne_zero.2 C);refine ⟨u,?_,b⟩;simp [Instr.index,Sem.run_bind,asIntOf,bC A,j,p,bU h,hr,Sem.run,pure]
theorem Na (h:dV P t=.str) {s:ByteArray}
  (j:aK V x (.str s)) (g:aK V i (.int k n)) (e:0<=n) (h1:n < s.size) :
  ∃ u,(Instr.index t x i).run P w=.ok u w/\aK V u (.int .u8 ((s[n.toNat]?).map (·.toNat)|>.getD 0)):=by
 rw [j.pO,g.dK];have b:n.toNat < s.size:=by omega
 refine ⟨.int .u8 (s[n.toNat]'b).toNat,?_,?_⟩
 ·simp [Instr.index,Sem.run_bind,asIntOf,bC (El h),e,b,Sem.run,pure]
 ·simp [b];exact .int _ _
theorem Ea (A:gC P t=some l) (y:∀ (j:Nat) d,cs[j]?=some d->∃ u,w.cell? (a.add j)=some u/\aK V u d)
  (hs:o+l.sz<=cs.length) (h:1<=l.sz) (p:l.agg=false->l.sz=1) :
  ∃ u,(Instr.loadAt t (.pointer (some (a.add o)))).run P w=.ok u w/\aK V u (part l.agg o l.sz cs):=by
 let f:Nat->Value:=fun j=>(w.cell? (a.add j)).getD Go.undef
 have s:∀ (j:Nat) d,cs[j]?=some d->w.cell? (a.add j)=some (f j)/\aK V (f j) d:=by
  intro j d b;obtain ⟨u,B,hr⟩:=y j d b;simp only [f,B,Option.getD_some];exact ⟨trivial,hr⟩
 have e:((range l.sz).map fun j=>f (o+j)).length=l.sz:=by simp
 refine ⟨_,LD A p ((range l.sz).map fun j=>f (o+j)) e ?_,?_⟩
 ·intro j v b;simp only [getElem?_map] at b;rcases bZ j l.sz with hlt | hge
  ·rw [getElem?_range hlt] at b;simp at b;subst b;rw [add_add];exact (s _ cs[o+j] (fO (by omega))).1
  ·rw [getElem?_eq_none (by simpa using hge)] at b;simp at b
 ·have:=OM (V:=V) p h (vs:=(range l.sz).map fun j=>f (o+j)) (ds:=(cs.drop o).take l.sz) e (by simp;omega) (by
   intro j v d g r;rcases bZ j l.sz with hlt | hge
   ·simp only [getElem?_map,getElem?_range hlt,Option.map_some,ny] at g;rw [getElem?_take_of_lt hlt,getElem?_drop] at r;subst g;exact (s _ d r).2
   ·rw [getElem?_eq_none (by simpa using hge)] at g;cases g)
  unfold part;cases q:l.agg with
  | true=>simpa [q] using this
  | false =>
   rw [q] at this;simp only [Bool.false_eq_true,if_false] at this |-;rw [K8 h] at this;exact this
end
end Go.Abs
namespace Go.Abs
open List
theorem xh:∀ {a b x y:List D},a.length=b.length->cZ (a++x) (b++y)=(cZ a b&&cZ x y)
 | [],[],x,y,_=>by simp [cZ]
 | [],_ :: _,_,_,h=>by simp at h
 | _ :: _,[],_,_,h=>by simp at h
 | a :: as,b :: bs,x,y,h=>by simp [cZ,xh (a:=as) (b:=bs) (by simpa using h),Bool.and_assoc]
theorem qT:∀ {f rs:List tX} {x y:List D},ff (f++rs) x y->ff f (x.take f.length) (y.take f.length)/\ff rs (x.drop f.length) (y.drop f.length)
 | [],rs,x,y,h=>by simpa [ff] using h
 | l :: f,rs,[],y,h=>by simp [ff] at h
 | l :: f,rs,a :: x,[],h=>by simp [ff] at h
 | l :: f,rs,a :: x,b :: y,h=>by
  simp only [cons_append,ff] at h;obtain ⟨g,i⟩:=qT h.2;simp [ff,h.1,g,i]
theorem nO:∀ {f:List tX} {x y:List D},ff f x y->x.length=f.length/\y.length=f.length
 | [],[],[],_=>⟨rfl,rfl⟩
 | [],[],_ :: _,h=>h.elim
 | [],_ :: _,_,h=>h.elim
 | _ :: _,[],_,h=>h.elim
 | _ :: _,_ :: _,[],h=>h.elim
 | l :: f,a :: x,b :: y,h=>by
  obtain ⟨g,i⟩:=nO h.2;simp [g,i]
variable {off:Nat} {t:TypeId} {b a:D} {y x:Value} {op:BinOp} {c:List tX} {d e:Operand}
section
variable {P:Program} {w:World} {V:Cx}
def mA (a:Bool) (off sz:Nat) (vs:Array Value):Value:=if a then .agg (vs.extract off (off+sz)) else (vs[off]?).getD Go.undef
theorem yQ {l:HC} (g:gC P t=some l) (vs:Array Value) (ho:off+l.sz<=vs.size) (h0:1<=l.sz):(Go.part t vs off).run P w=.ok (mA l.agg off l.sz vs) w:=by
 simp only [Go.part,Sem.run_bind,GG g,mA];cases ha:l.agg with
 | true=>simp [Sem.run_bind,bU g,Sem.run,pure]
 | false =>
  have f:off < vs.size:=by omega
  simp [f,Sem.run,pure]
def qF (V:Cx) (vs:Array Value) (off:Nat) (ds:List D):Prop:=off+ds.length<=vs.size/\∀ (j:Nat) d,ds[j]?=some d->∃ u,vs[off+j]?=some u/\aK V u d
theorem qF.sub {vs:Array Value} {ds:List D} (h:qF V vs off ds) (k n:Nat) (hn:k+n<=ds.length):qF V vs (off+k) ((ds.drop k).take n):=by
 refine ⟨by have:=h.1;simp;omega,?_⟩;intro j d f;have g:j < n:=by have:=(fA.1 f).1;simp at this;omega
 rw [getElem?_take_of_lt g,getElem?_drop] at f;obtain ⟨u,i,hr⟩:=h.2 _ d f;exact ⟨u,by rw [Nat.add_assoc];exact i,hr⟩
def agX (P:Program) (l:tX) (t:TypeId):Prop:=
 match l with
 | .int=>∃ k,P.underlying t=some (.int k)
 | .bool=>P.underlying t=some .bool
 | .str=>P.underlying t=some .string
theorem aeA {X:Array Value} {o:Nat} {cs:List D} (f:qF V X o cs) (sz:Nat) (hc:cs.length=sz):qF V (X.extract o (o+sz)) 0 cs:=by
 refine ⟨by have:=f.1;simp;omega,?_⟩;intro j d g;have hlt:=(fA.1 g).1;obtain ⟨u,h,hr⟩:=f.2 j d g;refine ⟨u,?_,hr⟩;rw [Array.getElem?_extract];rw [aq (by have:=f.1;omega)];simpa using h
theorem acQ {l:tX} {k:Nat} (g:aK V x a) (i:aK V y b) (h:KG l a b)
  (f:agX P l t) :
  (Op.equalIn (k+1) t x y).run P w=.ok (xg a b) w:=by
 cases l<;>cases a<;>(try exact h.elim)<;>cases b<;>(try exact h.elim)
 ·have e:_=_:=h;subst e;rw [g.dK,i.dK];obtain ⟨k',j⟩:=f;unfold Op.equalIn;simp [Sem.run_bind,bC j,xg,Sem.run,pure]
 ·rw [g.kF,i.kF];unfold Op.equalIn;simp [Sem.run_bind,bC f,xg,Sem.run,pure]
 ·rw [g.pO,i.pO];unfold Op.equalIn;simp [Sem.run_bind,bC f,xg,Sem.run,pure]
theorem Dr (f:List tX):∀ n,(replicate n f).flatten.length=n*f.length
 | 0=>by simp
 | n+1=>by simp [replicate_succ,Dr f n,Nat.succ_mul,Nat.add_comm]
theorem KH:∀ (k:Nat) (t:TypeId) (f:List tX),iZ P k t=some f->1<=f.length
 | 0,t,f,h=>by simp [iZ] at h
 | k+1,t,f,h=>by
  unfold iZ at h;split at h<;>try (cases h;done)
  ·cases h;simp
  ·cases h;simp
  ·cases h;simp
  ·split at h
   ·cases h
   ·split at h<;>try (cases h;done)
    split at h<;>try (cases h;done)
    rename_i g;cases h;omega
  ·split at h
   ·cases h
   ·split at h<;>try (cases h;done)
    split at h<;>try (cases h;done)
    rename_i g;cases h;rw [Dr];omega
def UM (m:Nat) (X Y:Array Value) (f:Field) (_s:Option Bool × Unit):Sem (ForInStep (Option Bool × Unit)):=
 if f.name ≠ "_" then do
  let x <- Go.part f.type X f.offset
  let y <- Go.part f.type Y f.offset
  let b <- Op.equalIn m f.type x y
  if (!b)=true then Sem.pure (ForInStep.done (some false,())) else Sem.pure (ForInStep.yield (none,()))
 else Sem.pure (ForInStep.yield (none,()))
def PN (m:Nat) (X Y:Array Value) (e:TypeId) (sz:Nat) (i:Nat) (_s:Option Bool × Unit):Sem (ForInStep (Option Bool × Unit)):=do
 let x <- Go.part e X (i*sz)
 let y <- Go.part e Y (i*sz)
 let b <- Op.equalIn m e x y
 if (!b)=true then Sem.pure (ForInStep.done (some false,())) else Sem.pure (ForInStep.yield (none,()))
theorem Tv {k m:Nat} {X Y:Array Value} (H:∀ (t:TypeId) (n:List tX),iZ P k t=some n->∀ (xs K:Array Value) (I J:Nat) (as bs:List D),qF V xs I as->qF V K J bs->ff n as bs ->
  ∃ l,gC P t=some l/\l.sz=n.length/\(Op.equalIn m t (mA l.agg I l.sz xs) (mA l.agg J l.sz K)).run P w=.ok (cZ as bs) w) :
  ∀ (F:List Field) (off:Nat) (n:List tX) (as bs:List D),ux (iZ P k) F off=some n->qF V X off as->qF V Y off bs->ff n as bs ->
   (forIn F ((none,()):Option Bool × Unit) (UM m X Y)).run P w=.ok (if cZ as bs then (none,()) else (some false,())) w
 | [],off,n,as,bs,h,hx,hy,hok=>by
  simp only [ux,ny] at h;subst h
  match as,bs,hok with
  | [],[],_=>simp [cZ,Sem.run,pure]
 | f :: r,off,n,as,bs,h,hx,hy,hok=>by
  unfold ux at h;split at h<;>try (cases h;done)
  rename_i B;simp only [Bool.and_eq_true,bne_iff_ne,ne_eq,eH] at B;split at h<;>try (cases h;done)
  rename_i g q;cases p:ux (iZ P k) r (off+g.length) with
  | none=>rw [p] at h;cases h
  | some rs =>
   rw [p] at h;cases h;have j:=nO hok;obtain ⟨o1,o2⟩:=qT hok;have hxl:g.length<=as.length:=by rw [j.1];simp
   have hyl:g.length<=bs.length:=by rw [j.2];simp
   have u:=hx.sub 0 g.length (by omega);have z:=hy.sub 0 g.length (by omega);simp only [Nat.add_zero,drop_zero] at u z;obtain ⟨l,i,C,s⟩:=H f.type g q X Y off off _ _ u z o1;have v:=hx.sub g.length (as.length-g.length) (by omega);have A:=hy.sub g.length (bs.length-g.length) (by omega);rw [take_of_length_le (by simp)] at v A;have E:=Tv H r (off+g.length) rs _ _ p v A o2;have G:1<=l.sz:=by rw [C];exact KH k f.type g q
   have o:cZ as bs=(cZ (as.take g.length) (bs.take g.length)&&cZ (as.drop g.length) (bs.drop g.length)):=by
    rw [<- xh (by simp;omega),jY,jY]
   have L:(Go.part f.type X f.offset).run P w=.ok (mA l.agg off l.sz X) w:=by
    rw [B.2];exact yQ i X (by have:=hx.1;omega) G
   have M:(Go.part f.type Y f.offset).run P w=.ok (mA l.agg off l.sz Y) w:=by
    rw [B.2];exact yQ i Y (by have:=hy.1;omega) G
   rw [forIn_cons];simp only [UM,B.1,ne_eq,not_false_eq_true,if_true,Sem.run_bind,L,M,s,Result.andThen_ok];rw [o];cases cZ (as.take g.length) (bs.take g.length) with
   | false=>simp [Sem.run,pure,Sem.pure]
   | true =>
    simp only [Bool.not_true,Bool.false_eq_true,if_false,fc];rw [<- E];rfl
theorem OO {m:Nat} {X Y:Array Value} {e:TypeId} {f:List tX} {l:HC} (u:gC P e=some l) (g:l.sz=f.length) (v:1<=l.sz) (z:∀ (xs F:Array Value) (A B:Nat) (as bs:List D),qF V xs A as->qF V F B bs->ff f as bs ->
  (Op.equalIn m e (mA l.agg A l.sz xs) (mA l.agg B l.sz F)).run P w=.ok (cZ as bs) w) :
  ∀ (n i:Nat) (as bs:List D),qF V X (i*f.length) as->qF V Y (i*f.length) bs->ff (replicate n f).flatten as bs ->
   (forIn (range' i n) ((none,()):Option Bool × Unit) (PN m X Y e l.sz)).run P w=.ok (if cZ as bs then (none,()) else (some false,())) w
 | 0,i,as,bs,hx,hy,hok=>by
  match as,bs,hok with
  | [],[],_=>simp [cZ,Sem.run,pure]
 | n+1,i,as,bs,hx,hy,hok=>by
  simp only [replicate_succ,flatten_cons] at hok;have h:=nO hok;obtain ⟨o1,o2⟩:=qT hok;have hxl:f.length<=as.length:=by rw [h.1];simp
  have hyl:f.length<=bs.length:=by rw [h.2];simp
  have q:=hx.sub 0 f.length (by omega);have r:=hy.sub 0 f.length (by omega);simp only [Nat.add_zero,drop_zero] at q r;have j:=z X Y _ _ _ _ q r o1;have o:=hx.sub f.length (as.length-f.length) (by omega);have p:=hy.sub f.length (bs.length-f.length) (by omega);rw [take_of_length_le (by simp)] at o p;have G:i*f.length+f.length=(i+1)*f.length:=by rw [Nat.succ_mul]
  rw [G] at o p;have s:=OO u g v z n (i+1) _ _ o p o2;have k:cZ as bs=(cZ (as.take f.length) (bs.take f.length)&&cZ (as.drop f.length) (bs.drop f.length)):=by
   rw [<- xh (by simp;omega),jY,jY]
  have C:(Go.part e X (i*l.sz)).run P w=.ok (mA l.agg (i*l.sz) l.sz X) w:=yQ u X (by rw [g];have:=hx.1;omega) v;have E:(Go.part e Y (i*l.sz)).run P w=.ok (mA l.agg (i*l.sz) l.sz Y) w:=yQ u Y (by rw [g];have:=hy.1;omega) v;rw [g] at j C E s |-;rw [range'_succ,forIn_cons];simp only [PN,Sem.run_bind,C,E,j,Result.andThen_ok];rw [k];cases cZ (as.take f.length) (bs.take f.length) with
  | false=>simp [Sem.run,pure,Sem.pure]
  | true =>
   simp only [Bool.not_true,Bool.false_eq_true,if_false,fc];rw [<- s];rfl
theorem sZ:∀ (k:Nat) (t:TypeId) (H:List tX),iZ P k t=some H->∀ (m:Nat),k<=m->∀ (xs E:Array Value) (q s:Nat) (as bs:List D),qF V xs q as->qF V E s bs->ff H as bs ->
  ∃ l,gC P t=some l/\l.sz=H.length/\(Op.equalIn m t (mA l.agg q l.sz xs) (mA l.agg s l.sz E)).run P w=.ok (cZ as bs) w
 | 0,t,H,h=>by simp [iZ] at h
 | k+1,t,H,h=>by
  intro m hm xs E q s as bs F G g;obtain ⟨m,rfl⟩:∃ m',m=m'+1:=⟨m-1,by omega⟩
  have L:=nO g;have C:∀ lf:tX,H=[lf]->gC P t=some ⟨false,1⟩->agX P lf t ->
    ∃ l,gC P t=some l/\l.sz=H.length/\(Op.equalIn (m+1) t (mA l.agg q l.sz xs) (mA l.agg s l.sz E)).run P w=.ok (cZ as bs) w:=by
   intro lf e z Z;subst e
   match as,bs,g,F,G with
   | [a],[b],g,F,G =>
    refine ⟨_,z,rfl,?_⟩;obtain ⟨u,p,T⟩:=F.2 0 a rfl;obtain ⟨v,hv,U⟩:=G.2 0 b rfl;simp only [mA,Bool.false_eq_true,if_false];simp only [Nat.add_zero] at p hv;rw [p,hv];rw [Option.getD_some,Option.getD_some,acQ T U g.1 Z];simp [cZ]
  unfold iZ at h;split at h<;>try (cases h;done)
  ·rename_i ik p z;cases h;exact C .int rfl z ⟨_,p⟩
  ·rename_i p z;cases h;exact C .bool rfl z p
  ·rename_i p z;cases h;exact C .str rfl z p
  ·-- a struct
   rename_i fs sz p z;split at h
   ·cases h
   rename_i W;split at h<;>try (cases h;done)
   rename_i f S;split at h<;>try (cases h;done)
   rename_i i;cases h;refine ⟨_,z,i.1.symm,?_⟩;simp only [mA,if_true];have O:P.stoodInHeld t=false:=by
    cases e:P.stoodInHeld t with
    | false=>rfl
    | true=>simp [e] at W
   unfold Op.equalIn;simp only [Sem.run_bind,bC p,Result.andThen_ok,program,Sem.run,O];have j:=aeA F sz (by omega);have o:=aeA G sz (by omega);generalize xs.extract q (q+sz)=X at j |-;generalize E.extract s (s+sz)=Y at o |-;simp only [Bool.false_eq_true,if_false,pure,Sem.run];have R:=Tv (P:=P) (w:=w) (V:=V) (k:=k) (m:=m) (X:=X) (Y:=Y) (fun t H Z xs E q s as bs F G N=>sZ k t H Z m (by omega) xs E q s as bs F G N) fs.toList 0 _ as bs S j o g;have I:(forIn fs ((none,()):Option Bool × Unit) (UM m X Y)).run P w=.ok (if cZ as bs then (none,()) else (some false,())) w:=by rw [<- Array.forIn_toList];exact R
   refine (Sem.run_bind ..).trans ?_;refine (congrArg (fun r=>Result.andThen r _) I).trans ?_;cases cZ as bs<;>rfl
  ·-- an array
   rename_i n e sz p z;split at h
   ·cases h
   split at h<;>try (cases h;done)
   rename_i f J;split at h<;>try (cases h;done)
   rename_i i;cases h;have hpos:=KH k e f J;refine ⟨_,z,by rw [Dr];exact i.1.symm,?_⟩;simp only [mA,if_true];unfold Op.equalIn;have B:as.length=sz/\bs.length=sz:=by rw [Dr] at L;omega
   have j:=aeA F sz (by omega);have o:=aeA G sz (by omega);generalize xs.extract q (q+sz)=X at j |-;generalize E.extract s (s+sz)=Y at o |-
   have hn:1<=n:=by
    rcases Nat.eq_zero_or_pos n with h0 | h0
    ·rw [h0] at i;omega
    ·exact h0
   have K:∃ l,gC P e=some l/\l.sz=f.length:=by
    have aa:=j.sub 0 f.length (by rw [Nat.zero_add,B.1,<- i.1];exact Nat.le_mul_of_pos_left _ hn);have ab:=o.sub 0 f.length (by rw [Nat.zero_add,B.2,<- i.1];exact Nat.le_mul_of_pos_left _ hn);have N:ff f ((as.drop 0).take f.length) ((bs.drop 0).take f.length):=by
     obtain ⟨n',rfl⟩:∃ n',n=n'+1:=⟨n-1,by omega⟩
     rw [replicate_succ,flatten_cons] at g;exact (qT g).1
    obtain ⟨l,Q,h2,_⟩:=sZ k e f J m (by omega) X Y _ _ _ _ aa ab N;exact ⟨l,Q,h2⟩
   obtain ⟨l,A,M⟩:=K
   have R:=OO (P:=P) (w:=w) (V:=V) (m:=m) (X:=X) (Y:=Y) A M (by omega) (fun xs E q s as bs F G N=>by
    obtain ⟨l',Q,_,h3⟩:=sZ k e f J m (by omega) xs E q s as bs F G N;rw [A] at Q;cases Q
    exact h3) n 0 as bs (by simpa using j) (by simpa using o) g
   simp only [Sem.run_bind,bC p,Result.andThen_ok,bU A];have I:(forIn [0:n] ((none,()):Option Bool × Unit) (PN m X Y e l.sz)).run P w=.ok (if cZ as bs then (none,()) else (some false,())) w:=by
    rw [Std.Legacy.Range.forIn_eq_forIn_range'];simpa [Std.Legacy.Range.size] using R
   refine (congrArg (fun r=>Result.andThen r _) I).trans ?_;cases cZ as bs<;>rfl
theorem Sg (h:isIface P t=true):∃ ms,P.underlying t=some (.interface ms):=by
 unfold isIface at h;split at h
 ·exact ⟨_,by assumption⟩
 ·cases h
theorem Ym (h:Kn (dV P t)):∃ e,P.underlying t=some (.pointer e):=by
 have f:dV P t=.ptr:=by
  cases e:dV P t<;>rw [e] at h<;>first | rfl | exact h.elim
 unfold dV at f;split at f<;>first | cases f | skip
 all_goals first
  | exact ⟨_,by assumption⟩
  | (exfalso;revert f;(repeat' split)<;>simp)
theorem VF {c:Bool} (s:aK V x a) (z:aK V y b) (h:vQ P c op t a b) (w:World) :
  ∃ u,(binOp op t x y).run P w=.ok u w/\aK V u (wX op a b):=by
 have C:Jv op (dV P t) a b->∃ u,(binOp op t x y).run P w=.ok u w/\aK V u (wX op a b):=fun h=>Zs s z h w;have iface:∀ r:Bool,isEq op->(Op.equal t x y).run P w=.ok r w->(∃ p q,x=.iface p q\/x=.nilIface)->(∃ p q,y=.iface p q\/y=.nilIface)->∃ u,(binOp op t x y).run P w=.ok u w/\aK V u (Mw op r):=by
  rintro r f o ⟨p,q,A⟩ ⟨p',q',B⟩;rcases f with rfl | rfl<;>rcases A with rfl | rfl<;>rcases B with rfl | rfl <;>
   first
   | exact ⟨.bool r,by simp [binOp,Sem.run_bind,o,Sem.run,pure],.bool _⟩
   | exact ⟨.bool (!r),by simp [binOp,Sem.run_bind,o,Sem.run,pure],.bool _⟩
 have ptr:∀ r:Bool,isEq op->(Op.equal t x y).run P w=.ok r w->(∃ p,x=.pointer p)->(∃ p,y=.pointer p)->∃ u,(binOp op t x y).run P w=.ok u w/\aK V u (Mw op r):=by
  rintro r f o ⟨p,A⟩ ⟨p',B⟩;subst A;subst B;rcases f with rfl | rfl
  ·exact ⟨.bool r,by simp [binOp,Sem.run_bind,o,Sem.run,pure],.bool _⟩
  ·exact ⟨.bool (!r),by simp [binOp,Sem.run_bind,o,Sem.run,pure],.bool _⟩
 have m:∀ u v:Value,isIface P t=true->x=u->y=v->∀ r:Bool,((u=.nilIface/\v=.nilIface/\r=true)\/(∃ p q,u=.iface p q/\v=.nilIface/\r=false)\/(∃ p q,u=.nilIface/\v=.iface p q/\r=false))->(Op.equal t x y).run P w=.ok r w:=by
  rintro u v g rfl rfl r hr;obtain ⟨ms,N⟩:=Sg g;show (Op.equalIn (9999+1) t _ _).run P w=_;rcases hr with ⟨rfl,rfl,rfl⟩ | ⟨p,q,rfl,rfl,rfl⟩ | ⟨p,q,rfl,rfl,rfl⟩<;>(unfold Op.equalIn;simp only [Sem.run_bind,bC N,Result.andThen_ok];rfl)
 have k:∀ u v:Option Addr,Kn (dV P t)->x=.pointer u->y=.pointer v->v=none->(Op.equal t x y).run P w=.ok u.isNone w:=by
  rintro u v g rfl rfl rfl;obtain ⟨ms,N⟩:=Ym g;show (Op.equalIn (9999+1) t _ _).run P w=_;cases u<;>(unfold Op.equalIn;simp only [Sem.run_bind,bC N,Result.andThen_ok];rfl)
 cases a<;>cases b<;>(try exact C h)<;>(try exact h.elim)
 all_goals simp only [vQ] at h
 ·obtain ⟨f,g,_⟩:=h;cases s;cases z;exact iface true f (m _ _ g rfl rfl true (.inl ⟨rfl,rfl,rfl⟩)) ⟨0,.nilIface,.inr rfl⟩ ⟨0,.nilIface,.inr rfl⟩
 ·obtain ⟨f,g⟩:=h;cases s;cases z;exact iface false f (m _ _ g rfl rfl false (.inr (.inr ⟨_,_,rfl,rfl,rfl⟩))) ⟨0,.nilIface,.inr rfl⟩ ⟨_,_,.inl rfl⟩
 ·obtain ⟨f,g⟩:=h;cases s;cases z;exact iface false f (m _ _ g rfl rfl false (.inr (.inl ⟨_,_,rfl,rfl,rfl⟩))) ⟨_,_,.inl rfl⟩ ⟨0,.nilIface,.inr rfl⟩
 ·obtain ⟨f,g⟩:=h;cases s;cases z;exact ptr true f (k _ _ g rfl rfl rfl) ⟨_,rfl⟩ ⟨_,rfl⟩
 ·-- structs
  rename_i as bs;obtain ⟨f,J,F⟩:=h;unfold uy at F;split at F
  ·rename_i W K;obtain ⟨vs,rfl,U,hr⟩:=s.pG;obtain ⟨H,rfl,M,L⟩:=z.pG;have E:∀ (vs:Array Value) (ds:List D),vs.size=ds.length->(∀ (i:Nat) v d,vs[i]?=some v->ds[i]?=some d->aK V v d)->qF V vs 0 ds:=by
    intro vs ds I O;refine ⟨by omega,?_⟩;intro j d R;have G:j < vs.size:=by rw [I];exact (fA.1 R).1
    exact ⟨vs[j],by simp [G],O j _ d (by simp [G]) R⟩
   obtain ⟨l,I,O,Q⟩:=sZ (P:=P) (w:=w) (V:=V) 9 t W K 10000 (by omega) vs H 0 0 as bs (E _ _ U hr) (E _ _ M L) F;have hlen:=nO F;have n:l.agg=true:=by simpa [Gb,I] using J
   have o:(Op.equal t (.agg vs) (.agg H)).run P w=.ok (cZ as bs) w:=by
     have T:mA l.agg 0 l.sz vs=.agg vs:=by simp [mA,n];right;omega
     have e2:mA l.agg 0 l.sz H=.agg H:=by simp [mA,n];right;omega
     rw [T,e2] at Q;exact Q
   rcases f with rfl | rfl
   ·exact ⟨.bool _,by simp [binOp,Sem.run_bind,o,Sem.run,pure],.bool _⟩
   ·exact ⟨.bool _,by simp [binOp,Sem.run_bind,o,Sem.run,pure],.bool _⟩
  ·exact F.elim
 ·obtain ⟨f,g⟩:=h;obtain ⟨S,rfl,_⟩:=s.oJ;cases z;exact ptr false f (k _ _ g rfl rfl rfl) ⟨_,rfl⟩ ⟨_,rfl⟩
 ·obtain ⟨f,g⟩:=h;obtain ⟨S,_,rfl⟩:=s.jJ;cases z;exact ptr false f (k _ _ g rfl rfl rfl) ⟨_,rfl⟩ ⟨_,rfl⟩
theorem P8 (h:iZ P 9 t=some c) (f:Gb P t=true):P.eqGuardType P.depth t=false:=by
 unfold iZ at h;unfold Gb at f;split at h<;>try (cases h;done)
 ·rename_i g;rw [g] at f;cases f
 ·rename_i g;rw [g] at f;cases f
 ·rename_i g;rw [g] at f;cases f
 ·split at h
  ·cases h
  ·rename_i i;simp only [Bool.or_eq_true,not_or,Bool.not_eq_true] at i;exact i.2
 ·split at h
  ·cases h
  ·rename_i i;simpa using i
theorem QK (f:aK V x a) (g:aK V y b) (h:vQ P (isConst d||isConst e) op t a b) (w:World) :
  (eqGuard op t d e x y).run P w=.ok () w:=by
 have i:Jv op (dV P t) a b->(eqGuard op t d e x y).run P w=.ok () w:=fun h=>by
  cases a<;>try exact h.elim
  all_goals (cases b<;>try exact h.elim)
  ·rw [f.kF,g.kF];cases op<;>simp [eqGuard,Sem.run,pure]
  ·rw [f.dK,g.dK];cases op<;>simp [eqGuard,Sem.run,pure]
  ·rw [f.pO,g.pO];cases op<;>simp [eqGuard,Sem.run,pure]
 cases a<;>cases b<;>(try exact i h)<;>(try exact h.elim)
 all_goals simp only [vQ] at h
 ·obtain ⟨m,hi,o⟩:=h;cases f;cases g;clear i;rcases m with rfl | rfl<;>revert o<;>cases d<;>cases e<;>simp [isConst,eqGuard,Sem.run_bind,Sem.run,pure]
 ·cases f;cases g;cases op<;>simp [eqGuard,Sem.run,pure]
 ·cases f;cases g;cases op<;>simp [eqGuard,Sem.run,pure]
 ·cases f;cases g;cases op<;>simp [eqGuard,Sem.run,pure]
 ·obtain ⟨m,j,k⟩:=h;unfold uy at k;split at k
  ·rename_i ls l;obtain ⟨vs,rfl,_⟩:=f.pG;obtain ⟨us,rfl,_⟩:=g.pG;have p:=P8 l j;rcases m with rfl | rfl<;>simp [eqGuard,Sem.run_bind,program,p,Sem.run,pure]
  ·exact k.elim
 ·obtain ⟨n,rfl,_⟩:=f.oJ;cases g;cases op<;>simp [eqGuard,Sem.run,pure]
 ·obtain ⟨n,_,rfl⟩:=f.jJ;cases g;cases op<;>simp [eqGuard,Sem.run,pure]
end
end Go.Abs
namespace Go.Abs
open List
def II (tm:Nat->Value) (s:Nat) (v:Value):Nat->Value:=fun t=>if t=s then v else tm t
variable {s:Nat}
theorem adl {tmps:Array Value} (h:s < tmps.size) (v:Value):lM (tmps.setIfInBounds s v)=II (lM tmps) s v:=by
 funext t;simp only [lM,II,Array.getD_eq_getD_getElem?,Array.getElem?_setIfInBounds];by_cases e:s=t
 ·subst e;simp [h]
 ·simp [e,Ne.symm e]
def ep (c:Array Value) (o:Nat):List Value->Array Value
 | []=>c
 | v :: r=>ep (c.setIfInBounds o v) (o+1) r
theorem eg:∀ (vs:List Value) (c:Array Value) (o:Nat),(ep c o vs).size=c.size
 | [],_,_=>rfl
 | v :: r,c,o=>by simp [ep,eg r]
theorem lu:∀ (vs:List Value) (c:Array Value) (o j:Nat),o+vs.length<=c.size ->
  (ep c o vs)[j]?=if o<=j/\j < o+vs.length then vs[j-o]? else c[j]?
 | [],c,o,j,_=>by
  have:¬ (o<=j/\j < o+([]:List Value).length):=by simp only [length_nil];omega
  simp only [ep,ak this]
 | v :: r,c,o,j,h=>by
  simp only [length_cons] at h;rw [ep,lu r _ _ j (by simp;omega)];by_cases e:o+1<=j/\j < o+1+r.length
  ·rw [aq e,aq (by simp only [length_cons];omega)];have:j-o=(j-(o+1))+1:=by omega
   rw [this];simp
  ·rw [ak e];by_cases f:j=o
   ·subst f;have a:j < c.size:=by omega
    rw [aq (by simp only [length_cons];omega)];simp [a]
   ·rw [ak (by simp only [length_cons];omega)];rw [Array.getElem?_setIfInBounds_ne (by omega)]
def fK (w:World) (b:Nat) (c:Array Value) (E:TypeId):World:={ w with heap:=w.heap.setIfInBounds b (.cells c E (0,0)) }
theorem Hu (w:World) (b:Nat) (c:Array Value) (E:TypeId):(fK w b c E).heap.size=w.heap.size:=by simp [fK]
variable {b:Nat} {w:World}
theorem kZ (h:b < w.heap.size) (c:Array Value) (E:TypeId):(fK w b c E).heap[b]?=some (.cells c E (0,0)):=by simp [fK,h]
variable {k:Nat}
theorem ni (h:k≠b) (c:Array Value) (E:TypeId):(fK w b c E).heap[k]?=w.heap[k]?:=by
 simp [fK,Array.getElem?_setIfInBounds_ne (Ne.symm h)]
theorem LH {a:Addr} (h:a.block≠b) (c:Array Value) (E:TypeId):(fK w b c E).cell? a=w.cell? a:=by
 simp [World.cell?,ni h]
theorem lt_of_block {o:Obj} (h:w.heap[b]?=some o):b < w.heap.size:=(Array.getElem?_eq_some_iff.1 h).1
theorem jl {P:Program} (b o:Nat) (E:TypeId):∀ (vs:List Value) (i:Nat) (c:Array Value) (w:World),w.heap[b]?=some (.cells c E (0,0))->o+i+vs.length<=c.size ->
  (∀ v∈vs,v.oneCell'=true)->(storeCells ⟨b,o,none⟩ vs i).run P w=.ok () (fK w b (ep c (o+i) vs) E)
 | [],i,c,w,hb,_,_=>by
  have:fK w b c E=w:=by
   have a:=lt_of_block hb;have n:w.heap[b]=.cells c E (0,0):=by simpa [Array.getElem?_eq_getElem a] using hb
   cases w with
   | mk heap tape drawn os out =>
    simp only [fK] at *;congr 1;apply Array.ext_getElem?;intro k;rw [Array.getElem?_setIfInBounds];by_cases e:b=k
    ·subst e;rw [aq rfl,aq a,hb]
    ·rw [ak e]
  simp [storeCells,ep,Sem.run,pure,this]
 | v :: r,i,c,w,hb,hl,h1=>by
  simp only [length_cons] at hl;have a:o+i < c.size:=by omega
  have f:w.cell? ((⟨b,o,none⟩:Addr).add i)=some c[o+i]:=by rw [fX,j8 w b _ hb];simp [a]
  have l:w.frozen? ((⟨b,o,none⟩:Addr).add i)=false:=by rw [fX];simp [World.frozen?,hb]
  have h:=h1 v (by simp);have j:w.setCell ((⟨b,o,none⟩:Addr).add i) v=fK w b (c.setIfInBounds (o+i) v) E:=by
   rw [fX];have g:=lt_of_block hb;have n:w.heap[b]=.cells c E (0,0):=by simpa [Array.getElem?_eq_getElem g] using hb
   simp only [World.setCell,fK];congr 1;apply Array.ext_getElem?;intro k;rw [Array.getElem?_setIfInBounds,Array.getElem?_modify];by_cases e:b=k
   ·subst e;rw [aq rfl,aq rfl,aq g,hb];simp
   ·rw [ak e,ak e]
  have m:(store ((⟨b,o,none⟩:Addr).add i) v).run P w=.ok () (fK w b (c.setIfInBounds (o+i) v) E):=by
   rw [<- j];simp only [store];cases v<;>first | (simp [Value.oneCell'] at h;done) | simp [Sem.run,f,l]
  have q:=jl (P:=P) b o E r (i+1) (c.setIfInBounds (o+i) v) (fK w b (c.setIfInBounds (o+i) v) E) (kZ (lt_of_block hb) _ _)
   (by simp;omega) (fun x p=>h1 x (by simp [p]))
  simp only [storeCells,Sem.run_bind,m];have e:fK (fK w b (c.setIfInBounds (o+i) v) E) b (ep (c.setIfInBounds (o+i) v) (o+(i+1)) r) E=fK w b (ep c (o+i) (v :: r)) E:=by
   simp [fK,ep,Nat.add_assoc]
  rw [<- e,<- q];rfl
variable {v:Value} {V:Cx} {d:D}
theorem D5 (h:aK V v d) (a:dZ d):v.oneCell'=true/\v.cells = #[v]:=by
 cases h<;>first | exact a.elim | exact ⟨rfl,rfl⟩
theorem sX (h:aK V v d) (g:∀ c∈d.cells,dZ c) :
  v.cells.size=d.cells.length/\(∀ x∈v.cells.toList,x.oneCell'=true)/\∀ (j:Nat) u e,v.cells[j]?=some u->d.cells[j]?=some e->aK V u e:=by
 by_cases m:∃ cs,d=.agg cs
 ·obtain ⟨cs,rfl⟩:=m;obtain ⟨vs,rfl,n,hr⟩:=h.pG;refine ⟨n,?_,hr⟩;intro x A;obtain ⟨i,z⟩:=mem_iff_getElem?.1 A;have a:vs[i]?=some x:=by simpa [Value.cells] using z
  have f:i < cs.length:=by rw [<- n];exact (Array.getElem?_eq_some_iff.1 a).1
  exact (D5 (hr i x _ a (fO f)) (g _ (ck f))).1
 ·have y:d.cells=[d]:=by cases d<;>first | rfl | exact (m ⟨_,rfl⟩).elim
  rw [y] at g |-;obtain ⟨q,t⟩:=D5 h (g d (by simp));rw [t];refine ⟨by simp,by simp [q],?_⟩;intro j u e p l;cases j with
  | zero=>simp at p l;subst p;subst l;exact h
  | succ j=>simp at l
variable {cs xs:List D} {o:Nat}
theorem fF (h:o+xs.length<=cs.length):(gD cs o xs).length=cs.length:=by simp [gD];omega
theorem Eu (h:o+xs.length<=cs.length) (j:Nat):(gD cs o xs)[j]?=if o<=j/\j < o+xs.length then xs[j-o]? else cs[j]?:=by
 unfold gD;have c:(cs.take o).length=o:=by simp;omega
 by_cases a:j < o
 ·rw [ak (by omega),cQ,getElem?_append_left (by omega),getElem?_take_of_lt a]
 ·rw [cQ,getElem?_append_right (by omega),c];by_cases h2:j < o+xs.length
  ·rw [aq (by omega),getElem?_append_left (by omega)]
  ·rw [ak (by omega),getElem?_append_right (by omega),getElem?_drop];congr 1;omega
variable {r:Nat} {α:Type}
section
variable {w0 w w':World} {l0:Nat->Option Nat} {G:Nat->Option (Nat × Nat)} {S0:Nat->Option Value} {lev lev' own own':Nat->Option Nat} {S S':Nat->Option Value} {env env':Env} {tm tm':Nat->Value} {B:Nat}
theorem lQ.keep (h:lQ B G w lev own S r d) (J:oa w lev w' lev') (x:∀ s,(s=r\/s∈d.names)->∀ u,S s=some u->S' s=some u) (l:d=.undef->S' r=none)
  (I:∀ b,own b=some r->lev b=some 0->w'.heap[b]?=w.heap[b]?/\lev' b=lev b/\own' b=own b):lQ B G w' lev' own' S' r d:=by
 cases d<;>try exact h.elim
 case undef=>exact l rfl
 case box cs =>
  obtain ⟨b,o,c,E,f,g,A,n,p,q,t⟩:=h;obtain ⟨k1,k2,k3⟩:=I b p n;refine ⟨b,o,c,E,x r (.inl rfl) _ f,k1.trans g,A,k2.trans n,k3.trans p,q,?_⟩;intro j u e l C;refine (t j u e l C).fV J ?_;intro s y;exact x s (.inr (by simp only [D.names];exact eu.2 ⟨e,dX C,y⟩))
 case own z rows =>
  rcases h with ⟨a,f,g⟩ | ⟨b,c,E,cap,f,g,A,n,p,q,t,h8,h9,h10⟩
  ·exact .inl ⟨a,x r (.inl rfl) _ f,g⟩
  ·obtain ⟨k1,k2,k3⟩:=I b h8 t;refine .inr ⟨b,c,E,cap,x r (.inl rfl) _ f,k1.trans g,A,n,p,q,k2.trans t,k3.trans h8,h9,?_⟩;intro i j m d F H;obtain ⟨u,l,hr⟩:=h10 i j m d F H;refine ⟨u,l,hr.fV J ?_⟩;intro s y;rw [(q m (dX F) d (dX H)).2] at y;cases y
theorem lQ.live (h:lQ B G w lev own S r d) (f:d≠.undef):∃ v,S r=some v:=by
 cases d<;>try exact h.elim
 case undef=>exact (f rfl).elim
 case box cs=>obtain ⟨b,o,c,E,e,_⟩:=h;exact ⟨_,e⟩
 case own z rows =>
  rcases h with ⟨a,e,h2⟩ | ⟨b,c,E,cap,e,_⟩
  ·exact ⟨_,e⟩
  ·exact ⟨_,e⟩
theorem Inv.fresh (h:Inv w0 l0 G S0 w lev own S env tm) (hr:env.o r=.undef):S r=none:=by
 have:=h.objs r;rw [hr] at this;exact this
theorem Inv.put (h:Inv w0 l0 G S0 w lev own S env tm) (hr:aK (cx w lev S) v d):Inv w0 l0 G S0 w lev own S (bP env s d) (II tm s v) where
 os:=h.os
 tape:=h.tape
 output:=h.output
 size:=h.size
 old:=h.old
 part:=h.part
 priv:=h.priv
 jZ:=h.jZ
 UL:=h.UL
 oC:=fun t=>by
  by_cases e:t=s
  ·subst e;rw [O6];simpa [II] using hr
  ·rw [tc e];simpa [II,e] using h.oC t
 objs:=h.objs
def jm {α:Type} (f:Nat->Option α) (b:Nat) (x:Option α):Nat->Option α:=fun k=>if k=b then x else f k
theorem dh (f:Nat->Option α) (b:Nat) (x:Option α):jm f b x b=x:=by simp [jm]
theorem fm (f:Nat->Option α) (x:Option α) (h:k≠b):jm f b x k=f k:=by simp [jm,h]
theorem Inv.kill (h:Inv w0 l0 G S0 w lev own S env tm) (r:Nat):Inv w0 l0 G S0 w lev own (jm S r none) (jM r env) tm where
 os:=h.os
 tape:=h.tape
 output:=h.output
 size:=h.size
 old:=h.old
 part:=h.part
 priv:=h.priv
 jZ:=h.jZ
 UL:=fun i I a=>by
  simp only [jM] at a;by_cases e:i=r
  ·rw [aq e] at a;exact (a rfl).elim
  ·rw [ak e] at a;rw [fm _ _ e];refine h.UL i I ?_;intro g;rw [g] at a;exact a rfl
 oC:=fun s=>by
  simp only [jM];refine ((h.oC s).agR r).fV (.refl _ _) ?_;intro k J u g;rw [fm _ _ (vm r _ k J).2];exact g
 objs:=fun k=>by
  by_cases e:k=r
  ·subst e;simp only [jM,if_true];exact dh _ _ _
  ·simp only [jM,e,if_false];have l:=h.objs k;have f:lQ w0.heap.size G w lev own S k ((env.o k).kill r):=by
    cases m:env.o k<;>rw [m] at l<;>try exact l.elim
    ·exact l
    ·exact l
    ·rename_i cs;obtain ⟨b,o,c,E,t,y,z,A,C,F,H⟩:=l;simp only [D.kill];refine ⟨b,o,c,E,t,y,by rw [jT];simpa using z,A,C,by rw [jT];simpa using F,?_⟩;intro j u e g a;rw [jT] at a;simp only [getElem?_map] at a;cases q:cs[j]? with
     | none=>rw [q] at a;cases a
     | some x=>rw [q] at a;cases a;exact (H j u x g q).agR r
   refine f.keep (.refl _ _) ?_ ?_ (fun _ _ _=>⟨rfl,rfl,rfl⟩)
   ·intro s p u g;have n:s≠r:=by
     rcases p with rfl | p
     ·exact e
     ·exact (vm r _ s p).2
    rw [fm _ _ n];exact g
   ·intro m;rw [fm _ _ e];rw [m] at f;exact f
structure ah2 (w0:World) (l0:Nat->Option Nat) (G:Nat->Option (Nat × Nat)) (w w':World) (lev':Nat->Option Nat):Prop where
 os:w'.os=w.os
 tape:w'.tape=w.tape
 output:w'.output=w.output
 size:w.heap.size<=w'.heap.size
 old:∀ b,b < w0.heap.size->G b=none->w'.heap[b]?=w.heap[b]?
 part:∀ b lo hi,G b=some (lo,hi)->lX w w' b lo hi
 priv:∀ b m,lev' b=some m->b < w'.heap.size
 jZ:∀ b,b < w0.heap.size->G b=none->lev' b=l0 b
theorem lX.trans {b lo e:Nat} (n:lX w0 w b lo e) (p:lX w w' b lo e):lX w0 w' b lo e:=by
 obtain ⟨c0,c,E,h,a2,a3,a4⟩:=n;obtain ⟨c',a,E',f,i,l,m⟩:=p;rw [a2] at f;cases f;exact ⟨c0,a,E,h,i,l.trans a3,fun j g=>(m j g).trans (a4 j g)⟩
theorem lX.of_same {lo:Nat} (a:lX w0 w b lo r) (h:w'.heap[b]?=w.heap[b]?):lX w w' b lo r:=by
 obtain ⟨c0,c,E,a1,a2,a3,a4⟩:=a;exact ⟨c,c,E,a2,h.trans a2,rfl,fun _ _=>rfl⟩
theorem Inv.setObj (h:Inv w0 l0 G S0 w lev own S env tm) (f:ah2 w0 l0 G w w' lev') (A:oa w lev w' lev')
  (t:∀ s,s≠r->S' s=S s) (j:∀ u,S r=some u->S' r=some u) (c:16<=r\/env.o r≠.undef)
  (C:∀ b s,s≠r->env.o s≠.undef->own b=some s->lev b=some 0->w'.heap[b]?=w.heap[b]?/\lev' b=lev b/\own' b=own b)
  (D:lQ w0.heap.size G w' lev' own' S' r d):Inv w0 l0 G S0 w' lev' own' S' (cV env r d) tm:=by
 have a:∀ s u,S s=some u->S' s=some u:=by
  intro s u n;by_cases e:s=r
  ·subst e;exact j u n
  ·rw [t s e];exact n
 refine ⟨⟨f.os.trans h.os.1,h.os.2⟩,f.tape.trans h.tape,f.output.trans h.output,Nat.le_trans h.size f.size,fun b p l=>(f.old b p l).trans (h.old b p l),fun b lo m l=>(h.part b lo m l).trans (f.part b lo m l),f.priv,f.jZ,?_,?_,?_⟩
 ·intro i m z;by_cases e:i=r
  ·subst e;have q:env.o i≠.undef:=by
    rcases c with c | c
    ·omega
    ·exact c
   obtain ⟨u,n⟩:=(h.objs i).live q;rw [j u n,<- n];exact h.UL i m q
  ·rw [t i e];rw [Xq e] at z;exact h.UL i m z
 ·intro s;exact (h.oC s).wG A a
 ·intro k;by_cases e:k=r
  ·subst e;rw [aab];exact D
  ·rw [Xq e];have g:=h.objs k;by_cases x:env.o k=.undef
   ·rw [x] at g |-
    show S' k=none;rw [t k e];exact g
   ·exact g.keep A (fun s _=>a s) (fun y=>(x y).elim) (fun b p q=>C b k e x p q)
end
end Go.Abs
namespace Go.Abs
variable {b lo r z hi j i:Nat} {E t:TypeId} {c vs:Array Value} {d:D} {l:HC} {cs:List D} {v a:Value} {rows:List (List D)}
section
variable {P:Program} {w0 w w':World} {l0:Nat->Option Nat} {G:Nat->Option (Nat × Nat)} {S0:Nat->Option Value} {lev lev' own own':Nat->Option Nat} {S S':Nat->Option Value} {env env':Env} {tm tm':Nat->Value} {B:Nat}
theorem Xv.mono (h:Xv G B b lo hi) (h1:lo<=r) (h2:z<=hi):Xv G B b r z:=by
 rcases h with h | ⟨l,m,hg,ha,hb⟩
 ·exact .inl h
 ·exact .inr ⟨l,m,hg,by omega,by omega⟩
theorem n5 (g:lev b=some 0):oa w lev (fK w b c E) lev:=by
 intro a u e;have f:a.block≠b:=by
  rintro rfl;unfold vis at e;rw [g] at e;simp at e
 unfold vis at e |-;rw [LH f];exact e
theorem qm (h:Inv w0 l0 G S0 w lev own S env tm) (p:w.heap[b]?=some (.cells c E (0,0))) (u:vs.size=c.size) (q:Xv G w0.heap.size b lo hi)
  (g:∀ j,(j < lo\/hi<=j)->vs[j]?=c[j]?):ah2 w0 l0 G w (fK w b vs E) lev:=by
 refine ⟨rfl,rfl,rfl,Nat.le_of_eq (Hu _ _ _ _).symm,?_,?_,?_,h.jZ⟩
 ·intro k hk n;refine ni ?_ _ _;rintro rfl;rcases q with f | ⟨l,m,f,_⟩
  ·omega
  ·rw [n] at f;cases f
 ·intro k l m n;have s:=h.part k l m n;by_cases e:k=b
  ·subst e;rcases q with f | ⟨l',m',f,h1,h2⟩
   ·obtain ⟨c0,_,_,o,_⟩:=s;have:=lt_of_block o;omega
   ·rw [n] at f;cases f;exact ⟨c,vs,E,p,kZ (lt_of_block p) _ _,u,fun j hj=>g j (by omega)⟩
  ·exact s.of_same (ni e _ _)
 ·intro k m f;rw [Hu];exact h.priv k m f
theorem Inv.ada (h:Inv w0 l0 G S0 w lev own S env tm) {off:Nat} (Q:env.o r=.box cs) (Z:gC P t=some l)
  (C:aK (cx w lev S) v d) (Y:∀ c∈d.cells,dZ c) (K:d.cells.length=l.sz) (hoff:off+l.sz<=cs.length) (X:aK (cx w lev S) a (.addr r off)) :
  ∃ w',(Instr.storeAt t a v).run P w=.ok () w'/\Inv w0 l0 G S0 w' lev own S (cV env r (.box (gD cs off d.cells))) tm:=by
 have k:=h.objs r;rw [Q] at k;obtain ⟨b,o,c,E,L,F,V,M,N,O,W⟩:=k;obtain ⟨R,n,rfl⟩:=X.jJ;have:R=⟨b,o,none⟩:=by simp only [cx] at n;rw [L] at n;cases n;rfl
 subst this;obtain ⟨m,A,J⟩:=sX C Y;have y:(o+off)+v.cells.toList.length<=c.size:=by simp;omega
 have g:∀ j,(ep c (o+off) v.cells.toList)[j]?=if o+off<=j/\j < o+off+d.cells.length then v.cells[j-(o+off)]? else c[j]?:=by
  intro j;rw [lu _ _ _ _ y];have I:v.cells.toList.length=d.cells.length:=by simpa using m
  rw [I];simp
 refine ⟨fK w b (ep c (o+off) v.cells.toList) E,?_,?_⟩
 ·have:=jl (P:=P) b (o+off) E v.cells.toList 0 c w F (by simp;omega) A;simp only [Nat.add_zero] at this;simp [Instr.storeAt,Instr.sureAddr,storeVar,Sem.run_bind,bU Z,m,K,Sem.run,pure,fX,this]
 have p:oa w lev (fK w b (ep c (o+off) v.cells.toList) E) lev:=n5 M;refine h.setObj (qm h F (eg _ _ _) O ?_) p (fun _ _=>rfl) (fun _ h=>h) (.inr (by rw [Q];simp)) ?_ ?_
 ·intro j H;rw [g,ak (by omega)]
 ·intro T s hs _ x _;have:T≠b:=by
   rintro rfl;rw [N] at x;cases x;exact hs rfl
  exact ⟨ni this _ _,rfl,rfl⟩
 ·have D:(gD cs off d.cells).length=cs.length:=fF (by omega);refine ⟨b,o,_,E,L,kZ (lt_of_block F) _ _,by rw [eg,D];exact V,M,N,by rw [D];exact O,?_⟩;intro j u e q f;rw [g] at q;rw [Eu (by omega)] at f;by_cases H:off<=j/\j < off+d.cells.length
  ·rw [aq (by omega)] at q;rw [aq H] at f;have U:o+j-(o+off)=j-off:=by omega
   rw [U] at q;exact (J _ u e q f).wG p fun _ _ h=>h
  ·rw [ak (by omega)] at q;rw [ak H] at f;exact (W j u e q f).wG p fun _ _ h=>h
theorem qx {m:Nat} (hj:j < z) (hi:i < m):i*z+j < m*z:=by
 have:(i+1)*z<=m*z:=l6 z hi;rw [Nat.succ_mul] at this;omega
theorem aeJ (k:j < z) (e:b < z) (h:i*z+j=r*z+b):i=r/\j=b:=by
 have f:(i*z+j) / z=i:=by rw [Nat.mul_comm,Nat.mul_add_div (by omega),Nat.div_eq_of_lt k];rfl
 have g:(r*z+b) / z=r:=by rw [Nat.mul_comm,Nat.mul_add_div (by omega),Nat.div_eq_of_lt e];rfl
 have:i=r:=by rw [<- f,<- g,h]
 subst this;exact ⟨rfl,by omega⟩
theorem Inv.adb (h:Inv w0 l0 G S0 w lev own S env tm) {k:Nat} (he:env.o r=.own z rows) (hl:gC P t=some l)
  (N:aK (cx w lev S) v d) (hc:∀ c∈d.cells,bG c) (Y:d.cells.length=l.sz) (hi:i < rows.length) (hk:k+l.sz<=z) (ha:aK (cx w lev S) a (.bX r z i k)) :
  ∃ w',(Instr.storeAt t a v).run P w=.ok () w'/\Inv w0 l0 G S0 w' lev own S (cV env r (.own z (rows.set i (gD (rows.getD i []) k d.cells)))) tm:=by
 have y:=h.objs r;rw [he] at y;rcases y with ⟨_,_,L⟩ | ⟨b,c,E,cap,h1,h2,h3,h4,h5,h6,h7,h8,h9,h10⟩
 ·rw [L] at hi;simp at hi
 obtain ⟨ad,len',cap',D,rfl⟩:=ha.lH;have:ad=⟨b,0,none⟩:=by simp only [cx] at D;rw [h1] at D;cases D;rfl
 subst this;obtain ⟨A,M,W⟩:=sX N (fun c g=>(hc c g).1);have O:rows.getD i []=rows[i]:=by simp [List.getD,hi]
 have X:rows[i].length=z:=h5 _ (ck hi);have R:(i+1)*z<=cap*z:=l6 z (by omega);rw [Nat.succ_mul] at R;have J:(i*z+k)+v.cells.toList.length<=c.size:=by simp;omega
 have q:∀ j,(ep c (i*z+k) v.cells.toList)[j]?=if i*z+k<=j/\j < i*z+k+d.cells.length then v.cells[j-(i*z+k)]? else c[j]?:=by
  intro j;rw [lu _ _ _ _ J];have V:v.cells.toList.length=d.cells.length:=by simpa using A
  rw [V];simp
 refine ⟨fK w b (ep c (i*z+k) v.cells.toList) E,?_,?_⟩
 ·have:=jl (P:=P) b (i*z+k) E v.cells.toList 0 c w h2 (by simp;omega) M;simp only [Nat.add_zero] at this;simp [Instr.storeAt,Instr.sureAddr,storeVar,Sem.run_bind,bU hl,A,Y,Sem.run,pure,fX,this]
 have p:oa w lev (fK w b (ep c (i*z+k) v.cells.toList) E) lev:=n5 h7;refine h.setObj (qm h h2 (eg _ _ _) h9 ?_) p (fun _ _=>rfl) (fun _ h=>h) (.inr (by rw [he];simp)) ?_ ?_
 ·intro j T;rw [q,ak (by omega)]
 ·intro b' s hs _ I _;have:b'≠b:=by
   rintro rfl;rw [h8] at I;cases I;exact hs rfl
  exact ⟨ni this _ _,rfl,rfl⟩
 ·rw [O];have Q:(gD rows[i] k d.cells).length=z:=by rw [fF (by omega)];exact X
  have m:∀ e∈rows.set i (gD rows[i] k d.cells),e∈rows\/e=gD rows[i] k d.cells:=fun e h=>List.mem_or_eq_of_mem_set h;refine .inr ⟨b,_,E,cap,by rw [List.length_set];exact h1,kZ (lt_of_block h2) _ _,by rw [eg];exact h3,by rw [List.length_set];exact h4,?_,?_,h7,h8,by rw [eg];exact h9,?_⟩
  ·intro e n;rcases m e n with n | rfl
   ·exact h5 e n
   ·exact Q
  ·intro e n x g;rcases m e n with n | rfl
   ·exact h6 e n x g
   ·unfold gD at g;rcases List.mem_append.1 g with g | g
    ·rcases List.mem_append.1 g with g | g
     ·exact h6 _ (ck hi) x (List.mem_of_mem_take g)
     ·exact hc x g
    ·exact h6 _ (ck hi) x (List.mem_of_mem_drop g)
  ·intro C j e x f g;have U:j < z:=by
    have:e.length=z:=by
     rcases m e (dX f) with n | rfl
     ·exact h5 e n
     ·exact Q
    rw [<- this];exact (fA.1 g).1
   rw [q];by_cases F:C=i
   ·subst F;rw [List.getElem?_set_self hi] at f;cases f;rw [Eu (by omega)] at g;by_cases T:k<=j/\j < k+d.cells.length
    ·rw [aq T] at g;rw [aq (by omega)];have e1:C*z+j-(C*z+k)=j-k:=by omega
     rw [e1];have K:j-k < v.cells.size:=by omega
     exact ⟨v.cells[j-k],by simp [K],(W _ _ x (by simp [K]) g).wG p fun _ _ h=>h⟩
    ·rw [ak T] at g;rw [ak (by omega)];obtain ⟨u,Z,H⟩:=h10 C j rows[C] x (fO hi) g;exact ⟨u,Z,H.wG p fun _ _ h=>h⟩
   ·rw [List.getElem?_set_ne (Ne.symm F)] at f;obtain ⟨u,Z,H⟩:=h10 C j e x f g;refine ⟨u,?_,H.wG p fun _ _ h=>h⟩;rw [ak ?_]
    ·exact Z
    ·rintro ⟨g1,g2⟩;have e2:C*z+j=i*z+(C*z+j-i*z):=by omega
     exact F (aeJ U (by omega) e2).1
theorem heap_alloc_old (w:World) (o:Obj) (h:b < w.heap.size):(w.alloc o).heap[b]?=w.heap[b]?:=Go.RowKit.Below.heap_alloc w o b h
theorem heap_alloc_new (w:World) (o:Obj):(w.alloc o).heap[w.heap.size]?=some o:=by show (w.heap.push _)[w.heap.size]?=_;simp
theorem L7 (h:Inv w0 l0 G S0 w lev own S env tm) (o:Obj) (x:Option Nat):ah2 w0 l0 G w (w.alloc o) (jm lev w.heap.size x):=by
 refine ⟨rfl,rfl,rfl,by simp,?_,?_,?_,?_⟩
 ·intro b f _;exact heap_alloc_old w o (by have:=h.size;omega)
 ·intro b lo hi g;have k:=h.part b lo hi g;refine k.of_same (heap_alloc_old w o ?_);obtain ⟨_,_,_,_,f,_⟩:=k;exact lt_of_block f
 ·intro b m e;by_cases f:b=w.heap.size
  ·subst f;simp
  ·rw [fm _ _ f] at e;have:=h.priv b m e;simp;omega
 ·intro b f g;rw [fm _ _ (by have:=h.size;omega)];exact h.jZ b f g
theorem yx (w:World) (lev:Nat->Option Nat) (o:Obj) (x:Option Nat):oa w lev (w.alloc o) (jm lev w.heap.size x):=by
 intro a u g;have e:=World.block_lt_of_cell? _ _ (ql g);have f:a.block≠w.heap.size:=by omega
 unfold vis at g |-;rw [fm _ _ f,World.cell?_of_block (w:=w) (heap_alloc_old w o e)];exact g
theorem Inv.newObj (h:Inv w0 l0 G S0 w lev own S env tm) (k:16<=r) (q:env.o r=.undef) (T:TypeId)
  (y:∀ lev' own' S',oa w lev (w.alloc (.cells vs T)) lev'->(∀ s u,S s=some u->S' s=some u)->S' r=some v->(w.alloc (.cells vs T)).heap[w.heap.size]?=some (.cells vs T (0,0))->lev' w.heap.size=some 0->own' w.heap.size=some r->(∀ lo hi,Xv G w0.heap.size w.heap.size lo hi) ->
   lQ w0.heap.size G (w.alloc (.cells vs T)) lev' own' S' r d) :
  Inv w0 l0 G S0 (w.alloc (.cells vs T)) (jm lev w.heap.size (some 0)) (jm own w.heap.size (some r)) (jm S r (some v)) (cV env r d) tm:=by
 have n:=h.fresh q;refine h.setObj (L7 h _ _) (yx _ _ _ _) (fun s p=>fm _ _ p) (fun u f=>by rw [n] at f;cases f) (.inl k) ?_ ?_
 ·intro b s p _ hb x;have m:=h.priv b 0 x;have g:b≠w.heap.size:=by omega
  exact ⟨heap_alloc_old w _ m,fm _ _ g,fm _ _ g⟩
 ·refine y _ _ _ (yx _ _ _ _) ?_ (dh _ _ _) (heap_alloc_new _ _) (dh _ _ _) (dh _ _ _) (fun _ _=>.inl h.size);intro s u f;by_cases e:s=r
  ·subst e;rw [n] at f;cases f
  ·rw [fm _ _ e];exact f
theorem Inv.ajt (h:Inv w0 l0 G S0 w lev own S env tm) (g:16<=r) (q:env.o r=.undef) (T:TypeId) (hsz:vs.size=cs.length)
  (f:∀ (j:Nat) u e,vs[j]?=some u->cs[j]?=some e->aK (cx w lev S) u e) :
  Inv w0 l0 G S0 (w.alloc (.cells vs T)) (jm lev w.heap.size (some 0)) (jm own w.heap.size (some r)) (jm S r (some (.pointer (some ⟨w.heap.size,0,none⟩)))) (cV env r (.box cs)) tm:=by
 refine h.newObj g q T ?_;intro lev' own' S' C n k x y A s;refine ⟨w.heap.size,0,vs,T,k,x,by omega,y,A,s _ _,?_⟩;intro j u e m p;rw [Nat.zero_add] at m;exact (f j u e m p).wG C n
theorem Inv.Gm (h:Inv w0 l0 G S0 w lev own S env tm) (f:16<=r) (s:env.o r=.undef) {cap:Nat} (T:TypeId) (n:vs.size=cap*z) (D:rows.length<=cap) (J:∀ r∈rows,r.length=z) (C:∀ r∈rows,∀ c∈r,bG c)
  (e:∀ (i j:Nat) r c,rows[i]?=some r->r[j]?=some c->∃ u,vs[i*z+j]?=some u/\aK (cx w lev S) u c) :
  Inv w0 l0 G S0 (w.alloc (.cells vs T)) (jm lev w.heap.size (some 0)) (jm own w.heap.size (some r)) (jm S r (some (.slice (some ⟨w.heap.size,0,none⟩) rows.length cap))) (cV env r (.own z rows)) tm:=by
 refine h.newObj f s T ?_;intro lev' own' S' I q g y k F x;refine .inr ⟨w.heap.size,vs,T,cap,g,y,n,D,J,C,k,F,x _ _,?_⟩;intro i j p c hi A;obtain ⟨u,H,m⟩:=e i j p c hi A;exact ⟨u,H,m.wG I q⟩
theorem Inv.aju (h:Inv w0 l0 G S0 w lev own S env tm) (e:16<=r) (k:env.o r=.undef) (z:Nat) (a:Option Addr) :
  Inv w0 l0 G S0 w lev own (jm S r (some (.slice a 0 0))) (cV env r (.own z [])) tm:=by
 have g:=h.fresh k;refine h.setObj ⟨rfl,rfl,rfl,dU _,fun _ _ _=>rfl,?_,h.priv,h.jZ⟩ (.refl _ _) (fun s n=>fm _ _ n) (fun u f=>by rw [g] at f;cases f) (.inl e) (fun _ _ _ _ _ _=>⟨rfl,rfl,rfl⟩) (.inl ⟨a,dh _ _ _,rfl⟩);intro b lo hi m;exact (h.part b lo hi m).of_same rfl
theorem Inv.drew (h:Inv w0 l0 G S0 w lev own S env tm):Inv w0 l0 G S0 w.drew lev own S env tm:=
 ⟨h.os,h.tape,h.output,h.size,h.old,h.part,h.priv,h.jZ,h.UL,h.oC,h.objs⟩
theorem Inv.NF (h:Inv w0 l0 G S0 w lev own S env tm) (q:env.o r=.box cs) {a:Addr} (g:S r=some (.pointer (some a))) :
  ∀ (j:Nat) d,cs[j]?=some d->∃ u,w.cell? (a.add j)=some u/\aK (cx w lev S) u d:=by
 have e:=h.objs r;rw [q] at e;obtain ⟨b,o,c,E,m,n,h3,h4,h5,h6,p⟩:=e;rw [m] at g;cases g;intro j d k;have f:o+j < c.size:=by have:=(fA.1 k).1;omega
 refine ⟨c[o+j],?_,p j _ d (by simp [f]) k⟩;rw [fX,j8 w b _ n];simp [f]
theorem Inv.DS (h:Inv w0 l0 G S0 w lev own S env tm) (n:env.o r=.own z rows) :
  ∃ a cap,S r=some (.slice a rows.length cap)/\rows.length<=cap/\(∀ r∈rows,∀ d∈r,bG d)/\(∀ r∈rows,r.length=z)/\(a=none->rows=[]/\cap=0)/\∀ g,a=some g->∀ (i j:Nat) row d,rows[i]?=some row->row[j]?=some d->∃ u,w.cell? (g.add (i*z+j))=some u/\aK (cx w lev S) u d:=by
 have f:=h.objs r;rw [n] at f;rcases f with ⟨a,k,rfl⟩ | ⟨b,c,E,cap,k,h2,h3,h4,h5,h6,h7,h8,h9,h10⟩
 ·exact ⟨a,0,k,by simp,by simp,by simp,fun _=>⟨rfl,rfl⟩,by simp⟩
 ·refine ⟨_,cap,k,h4,h6,h5,(fun e=>by cases e),?_⟩;rintro g ⟨⟩ i j row d hi hj;obtain ⟨u,p,m⟩:=h10 i j row d hi hj;exact ⟨u,by rw [fX,Nat.zero_add,j8 w b _ h2];exact p,m⟩
end
end Go.Abs
namespace Go.Abs
open List hiding max
theorem N9 (m:Nat):∀ (k c:Nat),Builtin.growBy m k c<=max c (m+(m+768) / 4)
 | 0,c=>by simp [Builtin.growBy];omega
 | k+1,c=>by
  unfold Builtin.growBy;split
  ·omega
  ·refine Nat.le_trans (N9 m k _) ?_;omega
theorem nextslicecap_le {m c:Nat} (h:c < m):Builtin.nextslicecap m c<=2*m+192:=by
 unfold Builtin.nextslicecap;split
 ·omega
 ·split
  ·omega
  ·have:=N9 m 4 c;omega
def nu (w:World) (C:Cx) (v:Value) (z:Nat) (rows:List (List D)):Prop:=
 ∃ a cap,v=.slice a rows.length cap/\rows.length<=cap/\(∀ r∈rows,r.length=z)/\(∀ r∈rows,∀ d∈r,bG d)/\(a=none->rows=[]) /\
  ∀ b,a=some b->∀ (i j:Nat) row d,rows[i]?=some row->row[j]?=some d->∃ u,w.cell? (b.add (i*z+j))=some u/\aK C u d
def Ao (w:World) (C:Cx) (v:Value) (z:Nat) (rows:List (List D)):Prop:=
 ∃ a cap,v=.slice a rows.length cap/\rows.length<=cap/\(∀ r∈rows,r.length=z)/\(∀ r∈rows,∀ d∈r,dZ d)/\(a=none->rows=[]) /\
  ∀ b,a=some b->∀ (i j:Nat) row d,rows[i]?=some row->row[j]?=some d->∃ u,w.cell? (b.add (i*z+j))=some u/\aK C u d
variable {v x y:Value} {rows rows2:List (List D)} {z cap by_:Nat} {w':World} {T2 T:TypeId} {a:Option Addr} {ea:Bool}
section
variable {P:Program} {V:Cx} {w:World}
theorem nu.toC (h:nu w V v z rows):Ao w V v z rows:=by
 obtain ⟨a,cap,b,c,e,f,g,i⟩:=h;exact ⟨a,cap,b,c,e,fun r hr d j=>(f r hr d j).1,g,i⟩
theorem Ao.at (h:Ao w V v z rows) (n:w'.heap=w.heap):Ao w' V v z rows:=by
 obtain ⟨a,cap,rfl,f,g,k,l,m⟩:=h;refine ⟨a,cap,rfl,f,g,k,l,?_⟩;intro c e i j b d o p;obtain ⟨u,q,hr⟩:=m c e i j b d o p;exact ⟨u,by rw [<- q];simp only [World.cell?,n],hr⟩
theorem nu.nil (z:Nat) (a:Option Addr):nu w V (.slice a 0 0) z []:=⟨a,0,rfl,by simp,by simp,by simp,fun _=>rfl,by simp⟩
theorem nu.ao0 (n:∀ a v,V.V a=some v->w.cell? a=some v) (h:aK V v (.sl z rows)):nu w V v z rows:=by
 obtain ⟨a,cap,rfl,f,g,k,l,m⟩:=h.BZ;refine ⟨a,cap,rfl,f,g,k,fun e=>(l e).1,?_⟩;intro c e i j b d o p;obtain ⟨u,q,hr⟩:=m c e i j b d o p;exact ⟨u,n _ _ q,hr⟩
theorem nu.mono {C':Cx} (h:nu w V v z rows) (q:∀ a v,V.V a=some v->C'.V a=some v):nu w C' v z rows:=by
 obtain ⟨a,cap,rfl,m,n,c,o,p⟩:=h;refine ⟨a,cap,rfl,m,n,c,o,?_⟩;intro l e i j b d f g;obtain ⟨u,r,hr⟩:=p l e i j b d f g;refine ⟨u,r,hr.keep q ?_⟩;intro s k;rw [(c b (dX f) d (dX g)).2] at k;cases k
theorem nu.at (h:nu w V v z rows) (n:w'.heap=w.heap):nu w' V v z rows:=by
 obtain ⟨a,cap,rfl,f,g,k,l,m⟩:=h;refine ⟨a,cap,rfl,f,g,k,l,?_⟩;intro c e i j b d o p;obtain ⟨u,q,hr⟩:=m c e i j b d o p;exact ⟨u,by rw [<- q];simp only [World.cell?,n],hr⟩
theorem xj (I:z≠0) (H:Ao w V x z rows) :
  ∃ cs:List Value,(Builtin.firstCells z rows.length x).run P w=.ok cs.toArray w/\cs.length=rows.length*z /\
   (∀ (i j:Nat) r d,rows[i]?=some r->r[j]?=some d->∃ u,cs[i*z+j]?=some u/\aK V u d)/\∀ u∈cs,u.oneCell'=true:=by
 obtain ⟨a,cap,rfl,hcap,t,F,o,D⟩:=H;cases a with
 | none =>
  have:=o rfl;subst this;exact ⟨[],by simp [Builtin.firstCells,Sem.run,pure],by simp,by simp,by simp⟩
 | some ad =>
  have c:∀ m,m < rows.length*z->∃ u d,w.cell? (ad.add m)=some u/\aK V u d/\dZ d:=by
   intro m h;have n:m / z < rows.length:=Nat.div_lt_of_lt_mul (by rw [Nat.mul_comm];exact h);have hr:rows[m / z]?=some rows[m / z]:=fO n;have q:=t _ (ck n);have s:m%z < (rows[m / z]).length:=by rw [q];exact Nat.mod_lt _ (Nat.pos_of_ne_zero I)
   have E:(rows[m / z])[m%z]?=some (rows[m / z])[m%z]:=fO s;obtain ⟨u,k,p⟩:=D ad rfl _ _ _ _ hr E;have e:m / z*z+m%z=m:=by rw [Nat.mul_comm];exact Nat.div_add_mod m z
   rw [e] at k;exact ⟨u,_,k,p,F _ (ck n) _ (ck s)⟩
  let f:Nat->Value:=fun m=>(w.cell? (ad.add m)).getD Go.undef
  have l:((range (rows.length*z)).map f).length=rows.length*z:=by simp
  have g:∀ m,m < rows.length*z->((range (rows.length*z)).map f)[m]?=some (f m):=by
   intro m h;simp [h]
  refine ⟨(range (rows.length*z)).map f,?_,l,?_,?_⟩
  ·have:=run_loadCells_list (P:=P) (w:=w) ad ((range (rows.length*z)).map f) ?_
   ·rw [l] at this;simpa [Builtin.firstCells] using this
   ·intro m v h;have b:m < rows.length*z:=by
     have:=(fA.1 h).1;simpa using this
    rw [g m b] at h;cases h;obtain ⟨u,d,k,_⟩:=c m b;simp only [f,k,Option.getD_some]
  ·intro i j r d n s;have q:=t r (dX n);have A:=(fA.1 n).1;have B:j < z:=by rw [<- q];exact (fA.1 s).1
   have b:i*z+j < rows.length*z:=qx B A;obtain ⟨u,k,p⟩:=D ad rfl i j r d n s;exact ⟨u,by rw [g _ b];simp [f,k],p⟩
  ·intro u k;obtain ⟨m,h⟩:=mem_iff_getElem?.1 k;have b:m < rows.length*z:=by
    have:=(fA.1 h).1;simpa using this
   rw [g m b] at h;cases h;obtain ⟨u,d,k,hr,C⟩:=c m b;simp only [f,k,Option.getD_some];exact (D5 hr C).1
theorem Ly {i:Nat} {r:List D} (h:(rows++rows2)[i]?=some r):rows[i]?=some r\/(rows.length<=i/\rows2[i-rows.length]?=some r):=by
 by_cases b:i < rows.length
 ·rw [getElem?_append_left b] at h;exact .inl h
 ·rw [getElem?_append_right (by omega)] at h;exact .inr ⟨by omega,h⟩
theorem Nv (hT:dV P T=.slice z by_ ea) (Q:∃ e,P.underlying T2=some (.slice e))
  (hx:Ao w V (.slice a rows.length cap) z rows) (hy:Ao w V y z rows2) (C:¬ rows.length+rows2.length<=cap) (hroom:Builtin.nextslicecap (rows.length+rows2.length) cap*by_<=2 ^ 48) (hneed:rows.length+rows2.length<=2 ^ 48) (T3:TypeId) :
  ∃ (N:Nat) (e:TypeId) (cells:Array Value),rows.length+rows2.length<=N/\cells.size=N*z /\
   (Builtin.append_ #[T,T2] T3 #[.slice a rows.length cap,y]).run P w=.ok (.slice (some ⟨w.heap.size,0,none⟩) (rows.length+rows2.length) N) (w.drew.alloc (.cells cells e)) /\
   ∀ (i j:Nat) row d,(rows++rows2)[i]?=some row->row[j]?=some d->∃ u,cells[i*z+j]?=some u/\aK V u d:=by
 obtain ⟨e,f,hu,hl,l,U,hz,zv,af,ag⟩:=dO hT;obtain ⟨e2,Z⟩:=Q;have B:(w.drew).heap=w.heap:=rfl;have aa:=hx;have ac:=hy;obtain ⟨a2,cap2,ad,hcap2,M,hk2,hnone2,hc2⟩:=ac;obtain ⟨a1,cap1,ab,hcap1,L,hk1,hnone1,hc1⟩:=aa;cases ab;subst ad;have hcl:cap < rows.length+rows2.length:=by omega
 have h:¬ Builtin.nextslicecap (rows.length+rows2.length) cap*f.bytes > 2 ^ 48:=by
  rw [U];omega
 obtain ⟨c,I,H,F,-⟩:=xj (P:=P) (w:=w.drew) hz (hy.at B);obtain ⟨g,K,b,J,-⟩:=xj (P:=P) (w:=w.drew) hz (hx.at B);obtain ⟨N,t⟩:∃ N,N=(Question.appendCap (rows.length+rows2.length) cap e).cut (w.tape w.drawn (.appendCap (rows.length+rows2.length) cap e)):=⟨_,rfl⟩
 have hN:rows.length+rows2.length<=N:=by rw [t];simp only [Question.cut];omega
 let cells:Array Value:=g.toArray++c.toArray++Builtin.zeroCells zv.cells (N-(rows.length+rows2.length))
 have s:cells.size=N*z:=by
  simp only [cells,Builtin.zeroCells,Array.size_append,size_toArray,Array.size_map,Array.size_range,b,H,ag];rw [<- Nat.add_mul,<- Nat.add_mul];congr 1;omega
 have A:∀ n,(askRoom n).run P w.drew=.ok () w.drew:=by
  intro n;unfold askRoom;split<;>simp [mark,Sem.run,pure]
 have W:(Question.appendCap (rows.length+rows2.length) cap e).forced=false:=rfl;have ae:(zeroValue e).run P w.drew=.ok zv w.drew:=by
  simp [zeroValue,Sem.run_bind,jQ l,af,Sem.run,pure]
 have D:(typeInfo e).run P w=.ok f w:=jQ l w;have m:(typeInfo e).run P w.drew=.ok f w.drew:=jQ l _;refine ⟨N,e,cells,hN,s,?_,?_⟩
 ·have O:(newRow e cells).run P w.drew=.ok ⟨w.heap.size,0,none⟩ (w.drew.alloc (.cells cells e)):=by
   simp [newRow,newObj,Sem.run,Sem.bind,pure,bind,World.alloc]
  have Wx:¬ ((9223372036854775807:Int) < (rows.length:Int)+(rows2.length:Int)/\f.bytes=0):=by omega
  have R:¬ 281474976710656 < Builtin.nextslicecap (rows.length+rows2.length) cap*f.bytes:=by
   intro hh;exact h (by simpa using hh)
  have p:(newRow e (g.toArray++(c.toArray++Builtin.zeroCells zv.cells (N-(rows.length+rows2.length))))).run P w.drew=.ok ⟨w.heap.size,0,none⟩ (w.drew.alloc (.cells cells e)):=by
   rw [<- Array.append_assoc];exact O
  simp [Builtin.append_,Sem.run_bind,bC hu,bC Z,bU hl,Builtin.lenOf,C,D,Wx,R,W,<- t,A,m,K,I,ae,p,Sem.run,pure]
 ·intro i j r d hi X;have o:∀ r∈rows++rows2,r.length=z:=by
   intro r hr;rcases mem_append.1 hr with hr | hr
   ·exact L r hr
   ·exact M r hr
  have Y:j < z:=by
   have:=o r (dX hi);rw [<- this];exact (fA.1 X).1
  rcases Ly hi with hi' | ⟨hge,hi'⟩
  ·have E:=qx Y (fA.1 hi').1;obtain ⟨u,k,q⟩:=J i j r d hi' X;refine ⟨u,?_,q⟩;simp only [cells];rw [Array.append_assoc,Array.getElem?_append_left (by simp [b];exact E)];simpa using k
  ·obtain ⟨u,k,q⟩:=F _ j r d hi' X;have hge':rows.length*z<=i*z:=l6 z hge;have e1:i*z+j-rows.length*z=(i-rows.length)*z+j:=by rw [Nat.sub_mul];omega
   have E:(i-rows.length)*z+j < c.length:=(fA.1 k).1;refine ⟨u,?_,q⟩;simp only [cells];rw [Array.append_assoc,Array.getElem?_append_right (by simp [b];omega),Array.getElem?_append_left (by simp [b];omega)];simp only [size_toArray,b,e1];simpa using k
theorem Rl (k:dV P T=.slice z by_ ea) (g:∃ e,P.underlying T2=some (.slice e))
  (l:Ao w V (.slice a rows.length cap) z rows) (n:Ao w V y z rows2) (f:¬ rows.length+rows2.length<=cap) (h:(by_+1)*(rows.length+rows2.length)<=2 ^ 45) (hby:by_<=2 ^ 32) (T3:TypeId) :
  ∃ (N:Nat) (e:TypeId) (cells:Array Value),rows.length+rows2.length<=N/\cells.size=N*z /\
   (Builtin.append_ #[T,T2] T3 #[.slice a rows.length cap,y]).run P w=.ok (.slice (some ⟨w.heap.size,0,none⟩) (rows.length+rows2.length) N) (w.drew.alloc (.cells cells e)) /\
   ∀ (i j:Nat) row d,(rows++rows2)[i]?=some row->row[j]?=some d->∃ u,cells[i*z+j]?=some u/\aK V u d:=by
 refine Nv k g l n f ?_ ?_ T3
 ·have b:=nextslicecap_le (m:=rows.length+rows2.length) (c:=cap) (by omega);have h1:Builtin.nextslicecap (rows.length+rows2.length) cap*by_<=(2*(rows.length+rows2.length)+192)*by_:=l6 _ b;have h2:by_*(rows.length+rows2.length)<=2 ^ 45:=Nat.le_trans (by rw [Nat.succ_mul];omega) h;have h3:(2*(rows.length+rows2.length)+192)*by_=2*(by_*(rows.length+rows2.length))+192*by_:=by
   rw [Nat.add_mul,Nat.mul_assoc,Nat.mul_comm (rows.length+rows2.length) by_]
  omega
 ·refine Nat.le_trans (Nat.le_trans ?_ h) (by omega);rw [Nat.succ_mul];omega
theorem Po (s:dV P T=.slice z by_ ea) (k:∃ e,P.underlying T2=some (.slice e)) {len:Nat}
  (q:Ao w V y z rows2) (c:len+rows2.length<=cap) (T3:TypeId):∃ news:List Value,news.length=rows2.length*z/\(∀ (i j:Nat) r d,rows2[i]?=some r->r[j]?=some d->∃ u,news[i*z+j]?=some u/\aK V u d)/\(∀ u∈news,u.oneCell'=true) /\
   ∀ b,(match a with | some ad=>storeCells (ad.add (len*z)) news | none=>pure ():Sem Unit).run P w=.ok () b->(Builtin.append_ #[T,T2] T3 #[.slice a len cap,y]).run P w=.ok (.slice a (len+rows2.length) cap) b:=by
 obtain ⟨e,inf,p,o,hin,hbi,t,zv,hzv,hzz⟩:=dO s;obtain ⟨e2,h⟩:=k;obtain ⟨news,g,n,m,l⟩:=xj (P:=P) (w:=w) t q;refine ⟨news,n,m,l,?_⟩;intro b f;obtain ⟨a2,cap2,rfl,_⟩:=q;cases a with
 | none =>
  have:b=w:=by simpa [Sem.run,pure] using f.symm
  subst this;simp [Builtin.append_,Sem.run_bind,bC p,bC h,bU o,Builtin.lenOf,c,g,Sem.run,pure]
 | some ad =>
  simp only at f;simp [Builtin.append_,Sem.run_bind,bC p,bC h,bU o,Builtin.lenOf,c,g,f,Sem.run,pure]
end
variable {N:Nat}
section
variable {P:Program} {w0 w w':World} {l0:Nat->Option Nat} {G:Nat->Option (Nat × Nat)} {S0:Nat->Option Value} {lev lev' own own':Nat->Option Nat} {S S':Nat->Option Value} {env env':Env} {tm tm':Nat->Value}
theorem nu.perm (h:nu w (cx w lev S) v z rows) (S':Nat->Option Value):nu w (cx w lev S') v z rows:=h.mono fun _ _ h=>h
theorem Inv.Wf (h:Inv w0 l0 G S0 w lev own S env tm) (g:16<=N) (H:env.o N=.undef) (r:dV P T=.slice z by_ ea) (k:∃ e,P.underlying T2=some (.slice e))
  (C:nu w (cx w lev S) y z rows2) (Q:(by_+(1-by_))*rows2.length<=2 ^ 47) (T3:TypeId) :
  ∃ v w' lev' own' S',(Builtin.append_ #[T,T2] T3 #[.slice a 0 0,y]).run P w=.ok v w'/\Inv w0 l0 G S0 w' lev' own' S' (cV env N (.own z rows2)) tm/\S' N=some v/\∃ a l c,v=.slice a l c:=by
 obtain ⟨e,inf,I,hl,hin,hbi,hz,zv,hzv,hzz⟩:=dO r;by_cases q:rows2=[]
 ·subst q;obtain ⟨news,A,_,_,p⟩:=Po (P:=P) (w:=w) (V:=cx w lev S) r k (a:=a) (len:=0) (cap:=0) C.toC (by simp) T3;have:news=[]:=length_eq_zero_iff.1 (by simpa using A);subst this;refine ⟨.slice a 0 0,w,lev,own,_,?_,h.aju g H z a,dh _ _ _,_,_,_,rfl⟩;exact p w (by cases a<;>simp [storeCells,Sem.run,pure])
 ·have m:¬ ([]:List (List D)).length+rows2.length<=0:=by
   have:=length_pos_iff.2 q;simp;omega
  have hpos:=length_pos_iff.2 q;have f:Builtin.nextslicecap (([]:List (List D)).length+rows2.length) 0*by_<=2 ^ 48:=by
   have e:Builtin.nextslicecap (([]:List (List D)).length+rows2.length) 0=rows2.length:=by
    unfold Builtin.nextslicecap;rw [aq (by simp;omega)];simp
   rw [e,Nat.mul_comm];refine Nat.le_trans (Nat.le_trans (l6 _ (Nat.le_add_right _ (1-by_))) Q) (by omega)
  have b:([]:List (List D)).length+rows2.length<=2 ^ 48:=by
   have F:1*rows2.length<=(by_+(1-by_))*rows2.length:=l6 _ (by omega);simp only [length_nil];omega
  obtain ⟨M,J,cells,F,K,L,O⟩:=Nv (P:=P) (w:=w) (V:=cx w lev S) r k (a:=a) (cap:=0) (rows:=[]) (nu.nil z a).toC C.toC m f b T3;obtain ⟨a2,cap2,rfl,hcap2,n,t,hnone2,hc2⟩:=C
  have s:=h.drew.Gm g H (vs:=cells) (z:=z) (cap:=M) (rows:=rows2) J K (by simpa using F) n t (by
   intro i j E d s R;obtain ⟨u,I,B⟩:=O i j E d (by simpa using s) R
   exact ⟨u,I,aK.fV (w:=w) (w':=w.drew) (lev':=lev) B (fun _ _ h=>h) (fun _ _ _ h=>h)⟩)
  refine ⟨_,_,_,_,_,L,s,?_,_,_,_,rfl⟩;rw [dh];simp
theorem Inv.aej (h:Inv w0 l0 G S0 w lev own S env tm) {r:Nat} (he:env.o r=.own z rows) (F:16<=N) (hf:(jM r env).o N=.undef) (hT:dV P T=.slice z by_ ea) (H:∃ e,P.underlying T2=some (.slice e))
  (O:S r=some x) (hy:nu w (cx w lev S) y z rows2) (hb:(by_+1)*(rows.length+rows2.length)<=2 ^ 45) (ab:by_<=2 ^ 32) (T3:TypeId) :
  ∃ v w' lev' own' S',(Builtin.append_ #[T,T2] T3 #[x,y]).run P w=.ok v w'/\Inv w0 l0 G S0 w' lev' own' S' (cV (jM r env) N (.own z (rows++rows2))) tm/\S' N=some v/\∃ a l c,v=.slice a l c:=by
 have Z:=h.kill r;have D:=h.objs r;rw [he] at D;rcases D with ⟨a,Y,rfl⟩ | ⟨b,c,E,cap,Y,Q,h3,h4,h5,h6,h7,h8,h9,h10⟩
 ·rw [Y] at O;cases O
  exact Z.Wf F hf hT H (hy.perm _) (by
   have Y:(by_+(1-by_))*rows2.length<=(by_+1)*rows2.length:=l6 _ (by omega);have Q:(by_+1)*rows2.length<=2 ^ 45:=by simpa using hb
   omega) T3
 rw [Y] at O;cases O;have aj:=hy;obtain ⟨a2,cap2,hyv,hcap2,U,ae,hnone2,hc2⟩:=aj;have J:∀ f∈rows++rows2,f.length=z:=by
  intro f g;rcases mem_append.1 g with g | g
  ·exact h5 f g
  ·exact U f g
 have A:∀ f∈rows++rows2,∀ d∈f,bG d:=by
  intro f g;rcases mem_append.1 g with g | g
  ·exact h6 f g
  ·exact ae f g
 have O:nu w (cx w lev S) (.slice (some ⟨b,0,none⟩) rows.length cap) z rows:=by
  refine ⟨_,cap,rfl,h4,h5,h6,(fun e=>by cases e),?_⟩;rintro ad ⟨⟩ i j f d q n;obtain ⟨u,L,k⟩:=h10 i j f d q n;exact ⟨u,by rw [fX,Nat.zero_add,j8 w b _ Q];exact L,k⟩
 by_cases m:rows.length+rows2.length<=cap
 ·obtain ⟨news,ai,ah,ag,W⟩:=Po (P:=P) (w:=w) (V:=cx w lev S) hT H (a:=some ⟨b,0,none⟩) (len:=rows.length) (cap:=cap) hy.toC m T3;have p:0+rows.length*z+news.length<=c.size:=by
   rw [ai,h3,Nat.zero_add,<- Nat.add_mul];exact l6 z m
  have X:=jl (P:=P) b (rows.length*z) E news 0 c w Q (by simpa using p) ag;simp only [Nat.add_zero] at X;have C:∀ j,(ep c (rows.length*z) news)[j]?=if rows.length*z<=j/\j < rows.length*z+news.length then news[j-rows.length*z]? else c[j]?:=
   fun j=>lu news c _ j (by simpa using p)
  have K:oa w lev (fK w b (ep c (rows.length*z) news) E) lev:=n5 h7;refine ⟨_,fK w b (ep c (rows.length*z) news) E,lev,jm own b (some N),jm (jm S r none) N (some (.slice (some ⟨b,0,none⟩) (rows.length+rows2.length) cap)),W _ (by simpa [fX] using X),?_,dh _ _ _,_,_,_,rfl⟩;have aa:=Z.fresh hf;refine Z.setObj (qm h Q (eg _ _ _) h9 (fun j n=>?_)) K (fun s hs=>fm _ _ hs) (fun u L=>by rw [aa] at L;cases L) (.inl F) ?_ ?_
  ·rcases n with n | n
   ·omega
   ·rw [C,ak (by omega)]
  ·intro b' s hs I R _;have:b'≠b:=by
    rintro rfl;rw [h8] at R;cases R;exact I (by simp [jM])
   exact ⟨ni this _ _,rfl,fm _ _ this⟩
  ·refine .inr ⟨b,_,E,cap,by rw [dh,cm],kZ (lt_of_block Q) _ _,by rw [eg];exact h3,by rw [cm];exact m,J,A,h7,dh _ _ _,by rw [eg];exact h9,?_⟩;intro i j f d q n;have ac:j < z:=by
    rw [<- J f (dX q)];exact (fA.1 n).1
   have t:d.names=[]:=(A f (dX q) d (dX n)).2;rw [C];rcases Ly q with hi' | ⟨hge,hi'⟩
   ·have af:=qx ac (fA.1 hi').1;rw [ak (by omega)];obtain ⟨u,B,k⟩:=h10 i j f d hi' n;exact ⟨u,B,k.fV K (by rw [t];simp)⟩
   ·obtain ⟨u,B,k⟩:=ah _ j f d hi' n;have hge':rows.length*z<=i*z:=l6 z hge;have e1:i*z+j-rows.length*z=(i-rows.length)*z+j:=by rw [Nat.sub_mul];omega
    have af:(i-rows.length)*z+j < news.length:=(fA.1 B).1;rw [aq (by omega),e1];exact ⟨u,B,k.fV K (by rw [t];simp)⟩
 ·obtain ⟨M,e',cells,g1,g2,g3,g4⟩:=Rl (P:=P) (w:=w) (V:=cx w lev S) hT H O.toC hy.toC m hb ab T3
  have q:=Z.drew.Gm F hf (vs:=cells) (z:=z) (cap:=M) (rows:=rows++rows2) e' g2 (by rw [cm];exact g1) J A (by
   intro i j f d q n;obtain ⟨u,L,k⟩:=g4 i j f d q n;have t:d.names=[]:=(A f (dX q) d (dX n)).2
   exact ⟨u,L,aK.fV (w:=w) (w':=w.drew) (lev':=lev) k (fun _ _ h=>h) (by rw [t];simp)⟩)
  refine ⟨_,_,_,_,_,g3,q,?_,_,_,_,rfl⟩;rw [dh,cm];rfl
end
end Go.Abs
namespace Go.Abs
def eT (P:Program) (e:Env) (t:TypeId) (parts:List (Nat × Operand)):List (Nat × Nat × D):=
 match dV P t with
 | .struct fs=>parts.map fun x=>match fs[x.1]? with
  | some f=>(f.off,f.sz,rd e x.2)
  | none=>(0,0,.undef)
 | .arr _ z _=>parts.map fun x=>(x.1*z,z,rd e x.2)
 | _=>[]
def I5 (P:Program) (e:Env) (t:TypeId) (parts:List (Nat × Operand)):Prop:=
 (match dV P t with
 | .struct fs=>∀ x∈parts,x.1 < fs.length
 | .arr _ _ _=>True
 | _=>False)/\∃ z,lz P t=some z/\oN z.length (eT P e t parts)
def I4:D->D
 | .own _ rows=>.int .i64 rows.length
 | _=>.undef
def DR:D->Prop
 | .own _ _=>True
 | _=>False
def abX (e:Env):D->D
 | .sl _ rows=>.int .i64 rows.length
 | .nil=>.int .i64 0
 | .emp=>.int .i64 0
 | .ref r=>I4 (e.o r)
 | .eC _ _ _ len=>.int .i64 len
 | .bW _ _ _ len _=>.int .i64 len
 | .str s=>.int .i64 s.size
 | _=>.undef
def Qd (e:Env) (t:Ty) (d:D):D:=
 match t with
 | .arr n _ _=>.int .i64 n
 | _=>abX e d
def KK (e:Env):D->Prop
 | .sl _ _ | .nil | .emp | .eC _ _ _ _ | .bW _ _ _ _ _=>True
 | .ref r=>DR (e.o r)
 | _=>False
def isStr:D->Prop
 | .str _=>True
 | _=>False
def DJ (e:Env) (t:Ty) (d:D):Prop:=
 match t with
 | .slice _ _ _=>KK e d
 | .str=>isStr d
 | .arr _ _ _=>True
 | _=>False
def SG:D->D->D
 | .int k x,.int _ y=>.int k (if y > x then y else x)
 | _,_=>.undef
def SK:D->D->D
 | .int k x,.int _ y=>.int k (if y < x then y else x)
 | _,_=>.undef
def tG:List D->Prop
 | []=>True
 | .int _ _ :: r=>tG r
 | _ :: _=>False
def RV (f:D->D->D):List D->D
 | []=>.undef
 | x :: r=>r.foldl f x
def QO (e:Env) (a:Int):Option Operand->D
 | some x=>rd e x
 | none=>.int .i64 a
def VM (e:Env) (t:Ty) (x:D) (l h:Nat):D:=
 match x with
 | .sl z rows=>.sl z ((rows.take h).drop l)
 | .str s=>.str (s.extract l h)
 | .nil=>.nil
 | .emp=>.emp
 | .ref r=>match e.o r with
  | .own z _=>.eC r z l (h-l)
  | _=>.undef
 | .eC r z lo _=>.eC r z (lo+l) (h-l)
 | .bW r off z _ cap=>.bW r (off+l*z) z (h-l) (cap-l)
 | .addr r off=>match t with
  | .arr n z _=>.bW r (off+l*z) z (h-l) (n-l)
  | _=>.undef
 | _=>.undef
def Ja (e:Env) (t:Ty) (x:D):Option Nat:=
 match x,t with
 | .sl z rows,.slice z' _ _=>if z=z' then some rows.length else none
 | .str s,.str=>some s.size
 | .nil,.slice _ _ _=>some 0
 | .emp,.slice _ _ _=>some 0
 | .ref r,.slice z' _ _=>match e.o r with
  | .own z rows=>if z=z' then some rows.length else none
  | _=>none
 | .eC _ z _ len,.slice z' _ _=>if z=z' then some len else none
 | .bW _ _ z len _,.slice z' _ _=>if z=z' then some len else none
 | .addr _ _,.arr n _ _=>some n
 | _,_=>none
def slC (e:Env) (t:Ty) (x:D):Option Nat:=
 match x,t with
 | .bW _ _ z _ cap,.slice z' _ _=>if z=z' then some cap else none
 | x,t=>Ja e t x
def SlK (N:Option Nat) (lo a:D) (k:Nat->Nat->Nat->Prop):Prop:=
 match N,lo,a with
 | some n,.int _ l,.int _ h=>0<=l/\l<=h/\h<=n/\k n l.toNat h.toNat
 | _,_,_=>False
def BY (N:Option Nat):Int:=((N.getD 0:Nat):Int)
def slV (e:Env) (t:Ty) (x:D) (lo a:Option Operand):D:=
 match QO e 0 lo,QO e (BY (Ja e t x)) a with
 | .int _ l,.int _ h=>VM e t x l.toNat h.toNat
 | _,_=>.undef
def ac0 (e:Env) (t:Ty) (x:D) (lo a:Option Operand):Prop:=
 SlK (slC e t x) (QO e 0 lo) (QO e (BY (Ja e t x)) a) fun _ _ _=>True
def abL:Ty->Prop
 | .slice _ _ _=>True
 | _=>False
def agN:D->Prop
 | .sl _ _ | .nil | .emp | .ref _ | .eC _ _ _ _ | .bW _ _ _ _ _=>True
 | _=>False
def isZero:D->Prop
 | .int _ n=>n=0
 | _=>False
def fN (P:Program) (e:Env):Op->D
 | .move x=>rd e x
 | .assign x=>rd e x
 | .pick c a b=>match rd e c with
  | .bool p=>if p then rd e a else rd e b
  | _=>.undef
 | .binOp op _ x y _=>wX op (rd e x) (rd e y)
 | .unOp op _ x=>yu op (rd e x)
 | .convert s d x=>NJ (dV P s) (dV P d) (rd e x)
 | .fieldAddr t x f=>match dV P t with
  | .struct fs=>faV fs f (rd e x)
  | _=>.undef
 | .field t x f=>match dV P t with
  | .struct fs=>X9 fs f (rd e x)
  | _=>.undef
 | .indexAddr t x i=>Yg e (dV P t) (rd e x) (rd e i)
 | .index t x i=>ixV (dV P t) (rd e x) (rd e i)
 | .load t a=>match gC P t with
  | some l=>ldV e l (rd e a)
  | none=>.undef
 | .nilCheck x=>rd e x
 | .extract x i=>match rd e x with
  | .bT ds=>ds.getD i .undef
  | _=>.undef
 | .build t parts=>match lz P t with
  | some z=>.agg (mo z (eT P e t parts.toList))
  | none=>.undef
 | .slice t x lo hi none=>slV e (dV P t) (rd e x) lo hi
 | .slice _ _ _ _ (some _)=>.emp
 | .makeFunc (.func f) _ caps=>.fn f (caps.toList.map (rd e))
 | .call c=>match c.callee,c.args.toList,c.argTypes.toList with
  | .builtin .len,[x],[t]=>Qd e (dV P t) (rd e x)
  | .builtin .max,l,_=>RV SG (l.map (rd e))
  | .builtin .min,l,_=>RV SK (l.map (rd e))
  | _,_,_=>.undef
 | _=>.undef
def ab9:D->Prop
 | .addr _ _ | .bX _ _ _ _ | .bq _ | .fn _ _=>True
 | _=>False
def dM (P:Program) (e:Env):Op->Prop
 | .move _=>True
 | .assign _=>True
 | .pick c _ _=>match rd e c with
  | .bool _=>True
  | _=>False
 | .binOp op t x y _=>vQ P (isConst x||isConst y) op t (rd e x) (rd e y)
 | .unOp op _ x=>tV op (rd e x)
 | .convert s d x=>JP (dV P s) (dV P d) (rd e x)
 | .fieldAddr t x f=>match dV P t with
  | .struct fs=>X5 fs f (rd e x)
  | _=>False
 | .field t x f=>match dV P t with
  | .struct fs=>NZ fs f (rd e x)
  | _=>False
 | .indexAddr t x i=>R6 e (dV P t) (rd e x) (rd e i)
 | .index t x i=>Sj (dV P t) (rd e x) (rd e i)
 | .load t a=>match gC P t with
  | some l=>P7 e l (rd e a)
  | none=>False
 | .nilCheck x=>ab9 (rd e x)
 | .extract x i=>match rd e x with
  | .bT ds=>i < ds.length
  | _=>False
 | .build t parts=>I5 P e t parts.toList
 | .slice t x lo hi none=>ac0 e (dV P t) (rd e x) lo hi
 | .slice t x none (some h) (some m)=>abL (dV P t)/\agN (rd e x)/\isZero (rd e h)/\isZero (rd e m)
 | .makeFunc (.func _) first _=>first = #[]
 | .call c=>match c.callee,c.args.toList,c.argTypes.toList with
  | .builtin .len,[x],[t]=>DJ e (dV P t) (rd e x)
  | .builtin .max,l,_=>l≠[]/\tG (l.map (rd e))
  | .builtin .min,l,_=>l≠[]/\tG (l.map (rd e))
  | _,_,_=>False
 | _=>False
section
variable {P:Program} {w0 w w':World} {l0:Nat->Option Nat} {G:Nat->Option (Nat × Nat)} {S0:Nat->Option Value} {lev lev' own own':Nat->Option Nat} {S S':Nat->Option Value} {env env':Env} {tm tm':Nat->Value}
theorem Inv.uS {tmps:Array Value} (h:Inv w0 l0 G S0 w lev own S env (lM tmps)) (a:Act) (b:a.tmps=tmps) (x:Operand):aK (cx w lev S) (a.eval x) (rd env x):=by
 subst b;cases x with
 | tmp t=>exact h.oC t
 | const v=>exact Tp v
 | global g=>exact .undef _
 | func f=>exact .fn f #[] [] rfl (by intro i v d c;simp at c)
theorem LC {V:Cx} (a:Nat->Option (Nat × Nat)):∀ (ps:List (Nat × Value)) (qs:List (Nat × Nat × D)) (cs:Array Value) (ds:List D),ps.length=qs.length->cs.size=ds.length ->
  (∀ (i:Nat) v d,cs[i]?=some v->ds[i]?=some d->aK V v d) ->
  (∀ (k:Nat) p q,ps[k]?=some p->qs[k]?=some q->a p.1=some (q.1,q.2.1)/\aK V p.2 q.2.2)->oN ds.length qs ->
  ∃ b,Instr.fill a cs ps=some b/\b.size=(mo ds qs).length/\∀ (i:Nat) v d,b[i]?=some v->(mo ds qs)[i]?=some d->aK V v d
 | [],[],cs,ds,_,hs,hr,_,_=>⟨cs,rfl,hs,hr⟩
 | [],_ :: _,_,_,h,_,_,_,_=>by simp at h
 | _ :: _,[],_,_,h,_,_,_,_=>by simp at h
 | (i,v) :: ps,(off,sz,d) :: qs,cs,ds,hl,hs,hr,hp,hok=>by
  obtain ⟨h1,h2,y,z⟩:=hok;obtain ⟨j,m⟩:=hp 0 (i,v) (off,sz,d) rfl rfl;simp only at j m;obtain ⟨c1,c2,c3⟩:=sX m y;have C:(v.cells.zipIdx.foldl (fun cs (x:Value × Nat)=>cs.setIfInBounds (off+x.2) x.1) cs)=ep cs off v.cells.toList:=by
   rw [<- Array.foldl_toList,Array.toList_zipIdx];have:∀ (l:List Value) (k:Nat) (c:Array Value),(l.zipIdx k).foldl (fun cs (x:Value × Nat)=>cs.setIfInBounds (off+x.2) x.1) c=ep c (off+k) l:=by
    intro l;induction l with
    | nil=>intro k c;rfl
    | cons x l ih=>intro k c;simp only [List.zipIdx_cons,List.foldl_cons,ep,ih];rw [Nat.add_assoc]
   exact this _ 0 cs
  have f:off+v.cells.toList.length<=cs.size:=by simp;omega
  have e:(gD ds off d.cells).length=ds.length:=fF (by omega);obtain ⟨b,s,e2,t⟩:=LC a ps qs (ep cs off v.cells.toList) (gD ds off d.cells) (by simpa using hl) (by rw [eg,e];exact hs)
   (by
    intro k u x n o;rw [lu _ _ _ _ f] at n;rw [Eu (by omega)] at o;have g:v.cells.toList.length=d.cells.length:=by simpa using c1
    by_cases r:off<=k/\k < off+d.cells.length
    ·rw [aq (by rw [g];exact r)] at n;rw [aq r] at o;exact c3 _ u x (by simpa using n) o
    ·rw [ak (by rw [g];exact r)] at n;rw [ak r] at o
     exact hr k u x n o)
   (fun k p q A B=>hp (k+1) p q A B) (by rw [e];exact z)
  refine ⟨b,?_,e2,t⟩;unfold Instr.fill;simp only [j];rw [ak (by simp;omega)];rw [C];exact s
theorem afk {a:Array Field} {l:List FT} (c:pH P a.toList=some l) (w:World) :
  ∃ ps:Array (Nat × Nat),(a.mapM (fun f=>do pure (f.offset,<- sizeOf f.type):Field->Sem (Nat × Nat))).run P w=.ok ps w/\∀ i:Nat,ps[i]?=(l[i]?).map fun f=>(f.off,f.sz):=by
 have key:∀ (r:List Field) (l:List FT) (acc:Array (Nat × Nat)),pH P r=some l ->
   (r.foldlM (fun (acc:Array (Nat × Nat)) f=>do pure (acc.push (f.offset,<- sizeOf f.type))) acc:Sem (Array (Nat × Nat))).run P w=.ok (acc++(l.map fun f=>(f.off,f.sz)).toArray) w:=by
  intro r;induction r with
  | nil =>
   intro l acc h;simp only [pH,ny] at h;subst h;simp [Sem.run,pure]
  | cons f r ih =>
   intro l acc h;unfold pH at h;split at h<;>try (cases h;done)
   rename_i ly b d hr;split at h
   ·cases h
   ·cases h;simp only [List.foldlM_cons,Sem.run_bind,bU d];have:=ih b (acc.push (f.offset,ly.sz)) hr;simp only [Result.andThen_ok,pure,Sem.run] at this |-;rw [this];simp
 refine ⟨(l.map fun f=>(f.off,f.sz)).toArray,?_,fun i=>by simp⟩;have:=key a.toList l #[] c;rw [Array.mapM_eq_foldlM];rw [<- Array.foldlM_toList];simpa using this
end
end Go.Abs
namespace Go.Abs
variable {k k':IntKind} {N cap b z:Nat} {lo hi:Option Operand} {l h:Int} {lI:Operand->Value} {e:Env} {V:Cx} {ea:Bool} {t:TypeId} {d:D} {x:Value}
section
variable {P:Program} {w0 w w':World} {l0:Nat->Option Nat} {G:Nat->Option (Nat × Nat)} {S0:Nat->Option Value} {lev lev' own own':Nat->Option Nat} {S S':Nat->Option Value} {env env':Env} {tm tm':Nat->Value}
theorem jx {s:Sem Value} {u:Value} {w':World} (h:s.run P w=.ok u w'):(do pure (Next.value (<- s)):Sem Next).run P w=.ok (.value u) w':=by
 simp [Sem.run_bind,h,Sem.run,pure]
theorem ag0 {α:Type} {a:Array α} {x:α} (h:a.toList=[x]):a = #[x]:=Array.ext' (by simpa using h)
theorem Xc {V:Cx}:∀ (vs:List Value) (ds:List D) (x:Value) (d:D),aK V x d->(∃ k n,d=.int k n)->vs.length=ds.length->(∀ (i:Nat) v e,vs[i]?=some v->ds[i]?=some e->aK V v e)->tG ds ->
  ∃ u,(vs.foldlM Builtin.max2 x).run P w=.ok u w/\aK V u (ds.foldl SG d)/\∃ k n,ds.foldl SG d=.int k n
 | [],[],x,d,hx,a,_,_,_=>⟨x,rfl,hx,a⟩
 | [],_ :: _,_,_,_,_,h,_,_=>by simp at h
 | _ :: _,[],_,_,_,_,h,_,_=>by simp at h
 | v :: vs,e :: ds,x,d,hx,⟨k,n,a⟩,hl,hr,hi=>by
  cases e<;>try exact hi.elim
  rename_i k' m;subst a;have c:=hr 0 v _ rfl rfl;have f:=hx.dK;have e2:=c.dK;subst f;subst e2;obtain ⟨u,g,j,o⟩:=Xc vs ds (.int k (if m > n then m else n)) (.int k (if m > n then m else n)) (.int _ _) ⟨_,_,rfl⟩ (by simpa using hl) (fun i v e c p=>hr (i+1) v e c p) hi;refine ⟨u,?_,j,o⟩;simp only [List.foldlM_cons,Sem.run_bind,Builtin.max2];exact g
theorem Xd {V:Cx}:∀ (vs:List Value) (ds:List D) (x:Value) (d:D),aK V x d->(∃ k n,d=.int k n)->vs.length=ds.length->(∀ (i:Nat) v e,vs[i]?=some v->ds[i]?=some e->aK V v e)->tG ds ->
  ∃ u,(vs.foldlM Builtin.min2 x).run P w=.ok u w/\aK V u (ds.foldl SK d)/\∃ k n,ds.foldl SK d=.int k n
 | [],[],x,d,hx,a,_,_,_=>⟨x,rfl,hx,a⟩
 | [],_ :: _,_,_,_,_,h,_,_=>by simp at h
 | _ :: _,[],_,_,_,_,h,_,_=>by simp at h
 | v :: vs,e :: ds,x,d,hx,⟨k,n,a⟩,hl,hr,hi=>by
  cases e<;>try exact hi.elim
  rename_i k' m;subst a;have c:=hr 0 v _ rfl rfl;have f:=hx.dK;have e2:=c.dK;subst f;subst e2;obtain ⟨u,g,j,o⟩:=Xd vs ds (.int k (if m < n then m else n)) (.int k (if m < n then m else n)) (.int _ _) ⟨_,_,rfl⟩ (by simpa using hl) (fun i v e c p=>hr (i+1) v e c p) hi;refine ⟨u,?_,j,o⟩;simp only [List.foldlM_cons,Sem.run_bind,Builtin.min2];exact g
theorem run_sliceBound {v:Value} {i:Int} (f:v=.int k i) (a:0<=i) (c:i<=N) (code:BoundsCode) (w:World):(Instr.sliceBound v N code).run P w=.ok i.toNat w:=by
 subst f;simp only [Instr.sliceBound,Sem.run_bind,asIntOf,pure,Sem.run,Result.andThen_ok];rw [aq ⟨a,c⟩];rfl
theorem BW (hr:∀ o,aK V (lI o) (rd e o)) (hN:N<=cap) (f:QO e 0 lo=.int k l) (g:QO e N hi=.int k' h) (j:0<=l) (hlh:l<=h) (hh:h<=cap) (a:Bool) (w:World) :
  (Instr.sliceBounds a N cap (lo.map lI) (hi.map lI) none).run P w=.ok (l.toNat,h.toNat,cap) w:=by
 have c:∀ code,(match hi.map lI with | some v=>Instr.sliceBound v cap code | none=>pure N:Sem Nat).run P w=.ok h.toNat w:=by
  intro code;cases hi with
  | none =>
   simp only [QO,D.int.injEq] at g;obtain ⟨_,rfl⟩:=g;rfl
  | some o =>
   simp only [QO] at g;have:=hr o;rw [g] at this;exact run_sliceBound this.dK (by omega) (by omega) code w
 have i:∀ code,(match lo.map lI with | some v=>Instr.sliceBound v h.toNat code | none=>pure 0:Sem Nat).run P w=.ok l.toNat w:=by
  intro code;cases lo with
  | none =>
   simp only [QO,D.int.injEq] at f;obtain ⟨_,rfl⟩:=f;rfl
  | some o =>
   simp only [QO] at f;have:=hr o;rw [f] at this;exact run_sliceBound this.dK j (by omega) code w
 have hh1:=c .sliceAcap;have hh2:=c .sliceAlen;have hl1:=i .sliceB;cases a<;>cases hi<;>cases lo<;>simp_all [Instr.sliceBounds,Sem.run_bind,Sem.run,pure]
theorem jk (hr:∀ o,aK V (lI o) (rd e o)) (n:N<=cap) (j:QO e 0 lo=.int k l) (m:QO e N hi=.int k' h) (i:0<=l) (g:l<=h) (p:h<=cap)
  (q:dV P t=.slice z b ea) (a:Option Addr) (w:World) :
  (Instr.sliceAt t (.slice a N cap) (lo.map lI) (hi.map lI) none).run P w=.ok (.slice (if cap=l.toNat then a else a.map (·.add (l.toNat*z))) (h.toNat-l.toNat) (cap-l.toNat)) w:=by
 obtain ⟨el,inf,r,c,hin,hb,hz,_⟩:=dO q;have f:=BW (P:=P) hr n j m i g p true w;simp [Instr.sliceAt,Sem.run_bind,bC r,Instr.slice,f,bU c,Sem.run,pure]
theorem Iy (hr:∀ o,aK V (lI o) (rd e o)) (j:QO e 0 lo=.int k l) (m:QO e N hi=.int k' h) (i:0<=l) (g:l<=h) (n:h<=N)
  (p:dV P t=.arr N z ea) (a:Addr) (w:World) :
  (Instr.sliceAt t (.pointer (some a)) (lo.map lI) (hi.map lI) none).run P w=.ok (.slice (some (if N=l.toNat then a else a.add (l.toNat*z))) (h.toNat-l.toNat) (N-l.toNat)) w:=by
 obtain ⟨el,q,c,hz⟩:=Ek p;have f:=BW (P:=P) hr (dU N) j m i g n false w;simp [Instr.sliceAt,Sem.run_bind,bC q,Instr.sureAddr,f,bU c,Sem.run,pure]
theorem Zv (K:∀ r z rows,env.o r=.own z rows->∃ a cap,V.S r=some (.slice a rows.length cap)/\rows.length<=cap/\(a=none->rows=[]/\cap=0)) (E:aK V x d) (hr:∀ o,aK V (lI o) (rd env o)) (h:ac0 env (dV P t) d lo hi) (w:World) :
  ∃ u,(Instr.sliceAt t x (lo.map lI) (hi.map lI) none).run P w=.ok u w/\aK V u (slV env (dV P t) d lo hi):=by
 rcases Classical.em (∃ r off z len cap,d=.bW r off z len cap) with ⟨r,off,z,len,bcap,rfl⟩ | hnb
 ·unfold ac0 SlK at h;split at h<;>try exact h.elim
  rename_i N k l k' B f y g;obtain ⟨A,n,m,_⟩:=h;cases c:dV P t<;>rw [c] at f g<;>simp only [slC] at f<;>(try (cases f;done));split at f<;>try (cases f;done)
  rename_i I ea H;cases f;subst H;simp only [Ja,if_true] at g;have q:BY (some len)=(len:Int):=rfl;rw [q] at g;obtain ⟨a,a',J,C,rfl,h3,Q,h5,rfl,h6⟩:=E.gv;refine ⟨_,jk hr Q y g A n m c _ w,?_⟩;unfold slV;rw [y];simp only [Ja,if_true,q,g,VM];refine .bW r _ z _ _ a _ C ?_ (by omega);intro F;rw [h6 (by omega),ak (by omega)];simp only [Option.map_some,add_add]
 have R:slC env (dV P t) d=Ja env (dV P t) d:=by
  cases d<;>first | rfl | exact (hnb ⟨_,_,_,_,_,rfl⟩).elim
 unfold ac0 SlK at h;rw [R] at h;split at h<;>try exact h.elim
 rename_i N k l k' B f y g;obtain ⟨A,n,m,_⟩:=h;have q:BY (some N)=(N:Int):=rfl;rw [f,q] at g;unfold slV;rw [f,q,y,g];simp only;cases d<;>simp only [Ja] at f<;>(try (cases f;done))
 ·-- string
  rename_i s;cases c:dV P t<;>rw [c] at f<;>simp only at f<;>(try (cases f;done));cases f;rw [E.pO];refine ⟨.string (s.extract l.toNat B.toNat),?_,.str _⟩;have T:=BW (P:=P) hr (dU s.size) y g A n m false w;simp [Instr.sliceAt,Sem.run_bind,bC (El c),Instr.slice,T,Sem.run,pure]
 ·-- nil
  cases c:dV P t<;>rw [c] at f<;>simp only at f<;>(try (cases f;done));cases f;cases E;refine ⟨_,jk hr (dU 0) y g A n m c _ w,?_⟩;have:l.toNat=0/\B.toNat=0:=by omega
  rw [this.1,this.2];exact .nil
 ·cases c:dV P t<;>rw [c] at f<;>simp only at f<;>(try (cases f;done));cases f;cases E;refine ⟨_,jk hr (dU 0) y g A n m c _ w,?_⟩;have:l.toNat=0/\B.toNat=0:=by omega
  rw [this.1,this.2];exact .emp _
 ·-- rows that stay
  rename_i z rows;cases c:dV P t<;>rw [c] at f<;>simp only at f<;>(try (cases f;done));split at f<;>try (cases f;done)
  rename_i I ea H;cases f;subst H;obtain ⟨a,cap,rfl,v,X,hk,p,hc⟩:=E.BZ;refine ⟨_,jk hr v y g A n (by omega) c _ w,?_⟩;simp only [VM];have D:((rows.take B.toNat).drop l.toNat).length=B.toNat-l.toNat:=by simp;omega
  cases a with
  | none =>
   obtain ⟨rfl,rfl⟩:=p rfl;have:l.toNat=0/\B.toNat=0:=by simp at m;omega
   rw [this.1,this.2];exact .slnil _
  | some ad =>
   rw [<- D];by_cases O:cap=l.toNat
   ·have:B.toNat=l.toNat:=by omega
    rw [aq O,this];have e0:(rows.take l.toNat).drop l.toNat=[]:=by simp
    rw [e0];exact kq (rows:=[]) (by simp) (by simp) (by simp) (by simp)
   ·rw [ak O];refine kq (by rw [D];omega) (fun r hr=>X r (List.mem_of_mem_take (List.mem_of_mem_drop hr))) (fun r hr=>hk r (List.mem_of_mem_take (List.mem_of_mem_drop hr))) ?_;intro i j r d hi hj;rw [List.getElem?_drop] at hi;have U:rows[l.toNat+i]?=some r:=by
     have W:l.toNat+i < B.toNat:=by
      have:=(fA.1 hi).1;simp at this;omega
     rwa [List.getElem?_take_of_lt W] at hi
    obtain ⟨u,Z,Y⟩:=hc ad rfl _ j r d U hj;refine ⟨u,?_,Y⟩;rw [add_add,show l.toNat*z+(i*z+j)=(l.toNat+i)*z+j by rw [Nat.add_mul];omega];exact Z
 ·-- of the frame's own
  rename_i r;cases c:dV P t<;>rw [c] at f<;>simp only at f<;>(try (cases f;done));split at f<;>try (cases f;done)
  rename_i z' I ea z rows ho;split at f<;>try (cases f;done)
  rename_i H;cases f;subst H;obtain ⟨a,cap,C,v,p⟩:=K r z rows ho;obtain ⟨M,_⟩:=E.nS;rw [C] at M;cases M;refine ⟨_,jk hr v y g A n (by omega) c _ w,?_⟩;simp only [VM,ho]
  refine .eC r z _ _ a _ _ cap _ C ?_ (by omega) (fun e=>by
   have:a=none:=by revert e;split<;>simp
   rw [(p this).2];omega)
  intro F;cases a with
  | none=>rw [(p rfl).1] at m;simp at m;omega
  | some b=>exact ⟨b,rfl,by rw [ak (by omega)];rfl⟩
 ·-- a pointer to an array
  rename_i r off;cases c:dV P t<;>rw [c] at f<;>simp only at f<;>(try (cases f;done));cases f;obtain ⟨a,C,rfl⟩:=E.jJ;refine ⟨_,Iy hr y g A n m c _ w,?_⟩;simp only [VM,c];refine .bW r _ _ _ _ a _ C ?_ (by omega);intro F;rw [ak (by omega),add_add]
 ·rename_i r z lo' len;cases c:dV P t<;>rw [c] at f<;>simp only at f<;>(try (cases f;done));split at f<;>try (cases f;done)
  rename_i H;cases f;subst H;obtain ⟨a,a',L,cap,J,C,rfl,h3,Q,h5⟩:=E.mz;refine ⟨_,jk hr Q y g A n (by omega) c _ w,?_⟩;simp only [VM]
  refine .eC r z _ _ a _ _ cap _ C ?_ (by omega) (fun e=>by
   have:a'=none:=by revert e;split<;>simp
   rw [h5 this];omega)
  intro F;obtain ⟨b,rfl,rfl⟩:=h3 (by omega);refine ⟨b,rfl,?_⟩;rw [ak (by omega)];simp only [Option.map_some,add_add,Nat.add_mul]
 ·exact (hnb ⟨_,_,_,_,_,rfl⟩).elim
theorem afA (p:∀ r z rows,env.o r=.own z rows->∃ a cap,V.S r=some (.slice a rows.length cap)) {ty:TypeId} (g:aK V x d) (h:DJ env (dV P t) d) :
  ∃ u,(Builtin.len_ #[t] ty #[x]).run P w=.ok u w/\aK V u (Qd env (dV P t) d):=by
 cases f:dV P t<;>rw [f] at h<;>try (simp only [DJ] at h;done)
 case str =>
  cases d<;>simp only [DJ,isStr] at h;rw [g.pO];exact ⟨.int .i64 _,by simp [Builtin.len_,Sem.run_bind,bC (El f),goInt,Sem.run,pure],.int _ _⟩
 case slice z by_ ea =>
  obtain ⟨e,i,y,_⟩:=dO f;have j:∀ a n c,x=.slice a n c->Qd env (.slice z by_ ea) d=.int .i64 n->∃ u,(Builtin.len_ #[t] ty #[x]).run P w=.ok u w/\aK V u (Qd env (.slice z by_ ea) d):=by
   rintro a n c rfl e;rw [e];exact ⟨.int .i64 n,by simp [Builtin.len_,Sem.run_bind,bC y,goInt,Sem.run,pure],.int _ _⟩
  cases d<;>simp only [DJ,KK] at h
  ·cases g;exact j _ _ _ rfl rfl
  ·cases g;exact j _ _ _ rfl rfl
  ·obtain ⟨a,cap,rfl,_⟩:=g.BZ;exact j _ _ _ rfl rfl
  ·rename_i r;cases v:env.o r<;>rw [v] at h<;>simp only [DR] at h;rename_i E rows;obtain ⟨a,cap,s⟩:=p r E rows v;obtain ⟨q,_⟩:=g.nS;rw [s] at q;cases q;exact j _ _ _ rfl (by simp [Qd,abX,v,I4])
  ·obtain ⟨a,A,L,cap,m,s,rfl,B,C,D⟩:=g.mz;exact j _ _ _ rfl rfl
  ·obtain ⟨a,A,m,s,rfl,B,C,D⟩:=g.gv;exact j _ _ _ rfl rfl
 case arr n z ea =>
  obtain ⟨e,y,_⟩:=Ek f;exact ⟨.int .i64 n,by simp [Builtin.len_,Sem.run_bind,bC y,goInt,Sem.run,pure],.int _ _⟩
end
end Go.Abs
namespace Go.Abs
open List
variable {b:Bool} {c:Addr} {t:TypeId} {a:Nat}
section
variable {P:Program} {w0 w w':World} {l0:Nat->Option Nat} {G:Nat->Option (Nat × Nat)} {S0:Nat->Option Value} {lev lev' own own':Nat->Option Nat} {S S':Nat->Option Value} {env env':Env} {tm tm':Nat->Value}
theorem sw {V:Cx} {z:Nat} (j:dV P t=.slice z a b) {len cap:Nat} {i:Value} {k:IntKind} {n:Int} (g:aK V i (.int k n)) (d:0<=n) (f:n < len) :
  (Instr.indexAt t (.slice (some c) len cap) i).run P w=.ok (.pointer (some (c.add (n.toNat*z)))) w:=by
 obtain ⟨e,inf,l,h,hin,hb,hz,_⟩:=dO j;rw [g.dK];simp [Instr.indexAt,Sem.run_bind,asIntOf,bC l,d,f,bU h,Sem.run,pure]
theorem abT (h:Inv w0 l0 G S0 w lev own S env tm) {l:HC} (s:gC P t=some l) {x:Value} {d:D} (y:aK (cx w lev S) x d) (ok:P7 env l d) :
  ∃ u,(Instr.loadAt t x).run P w=.ok u w/\aK (cx w lev S) u (ldV env l d):=by
 cases d<;>simp only [P7] at ok
 ·rename_i cs;obtain ⟨e,p,g⟩:=ok;exact QL (fun _ _=>ql) s y e p g
 ·rename_i r off;cases f:env.o r<;>rw [f] at ok<;>simp only [WH] at ok;rename_i cs;obtain ⟨e,p,g⟩:=ok;obtain ⟨a,q,rfl⟩:=y.jJ;have:=Ea (P:=P) (w:=w) (V:=cx w lev S) s (a:=a) (h.NF f q) e p g;simpa [ldV,f,ldB] using this
 ·rename_i r z i k;cases f:env.o r<;>rw [f] at ok<;>simp only [WI] at ok;rename_i E rows;obtain ⟨rfl,e,p,g,A⟩:=ok;obtain ⟨a,len,cap,q,rfl⟩:=y.lH;obtain ⟨a',cap',m,_,hpm,v,_,B⟩:=h.DS f;simp only [cx] at q;rw [q] at m;cases m;have n:rows.getD i []=rows[i]:=by simp [getD,e]
  have hz:=v _ (ck e)
  have:=Ea (P:=P) (w:=w) (V:=cx w lev S) s (a:=a.add (i*E)) (cs:=rows[i]) (o:=k) (fun j d C=>by
   rw [add_add]
   exact B a rfl i j _ d (fO e) C) (by omega) g A
  rw [add_add] at this;simp only [ldV,f,ldW];rw [n];exact this
theorem pure_run {a:Act} (h:Inv w0 l0 G S0 w lev own S env (lM a.tmps)) (o:Oper) (ok:dM P env o.op) :
  ∃ u,(execOp a.eval o).run P w=.ok (.value u) w/\aK (cx w lev S) u (fN P env o.op):=by
 have g:∀ x,aK (cx w lev S) (a.eval x) (rd env x):=fun x=>h.uS a rfl x;have hV:∀ E v,vis w lev E=some v->w.cell? E=some v:=fun E v=>ql;have Y:∀ r z rows,env.o r=.own z rows->∃ a cap,S r=some (.slice a rows.length cap)/\rows.length<=cap/\(a=none->rows=[]/\cap=0):=by
  intro r z rows ho;obtain ⟨a,cap,H,h2,_,_,h3,_⟩:=h.DS ho;exact ⟨a,cap,H,h2,h3⟩
 cases ho:o.op<;>rw [ho] at ok<;>(try exact ok.elim)<;>simp only [execOp,ho]
 case move x=>exact ⟨a.eval x,rfl,g x⟩
 case assign x=>exact ⟨a.eval x,rfl,g x⟩
 case pick c x y =>
  simp only [dM] at ok;have hb:=g c;cases hc:rd env c<;>rw [hc] at ok hb<;>try exact ok.elim
  rename_i p;have B:=hb.kF;refine ⟨if p then a.eval x else a.eval y,?_,?_⟩
  ·simp [B,asBool,Sem.run_bind,Sem.run,pure]
  ·simp only [fN,hc];cases p
   ·exact g y
   ·exact g x
 case binOp op t x y yt =>
  simp only [dM] at ok;obtain ⟨u,hr,D⟩:=VF (g x) (g y) ok w;have hg:=QK (g x) (g y) ok w;exact ⟨u,jx (by simp [Sem.run_bind,hg,hr]),D⟩
 case unOp op t x =>
  simp only [dM] at ok;obtain ⟨u,hr,D⟩:=Zw (g x) ok w;exact ⟨u,jx hr,D⟩
 case convert s d x =>
  simp only [dM] at ok;obtain ⟨u,hr,D⟩:=Tu (g x) ok w;exact ⟨u,jx hr,D⟩
 case fieldAddr t x f =>
  simp only [dM] at ok;simp only [fN];cases I:dV P t<;>rw [I] at ok<;>try exact ok.elim
  rename_i fs;simp only at ok |-;have Q:=g x;cases K:rd env x<;>rw [K] at ok Q<;>try exact ok.elim
  ·rename_i cs;obtain ⟨u,hr,D⟩:=afy (w:=w) I ok Q;exact ⟨u,jx hr,D⟩
  ·rename_i r off;obtain ⟨E,R,B⟩:=Q.jJ;rw [B];refine ⟨_,jx (yf I ok),?_⟩;rw [add_add];exact .addr r _ E R
  ·rename_i r z i k;obtain ⟨E,len,cap,R,B⟩:=Q.lH;rw [B];refine ⟨_,jx (yf I ok),?_⟩;rw [add_add,Nat.add_assoc];exact .bX r z i _ E len cap R
 case field t x f =>
  simp only [dM] at ok;simp only [fN];cases I:dV P t<;>rw [I] at ok<;>try exact ok.elim
  rename_i fs;simp only at ok |-;have Q:=g x;cases K:rd env x<;>rw [K] at ok Q<;>try exact ok.elim
  obtain ⟨u,hr,D⟩:=Zt (w:=w) I Q ok;exact ⟨u,jx hr,D⟩
 case indexAddr t x i =>
  simp only [dM] at ok;simp only [fN];have r1:=g x;have r2:=g i;cases K:rd env x<;>rw [K] at ok r1<;>(try (simp only [R6] at ok;done))<;>cases J:rd env i<;>rw [J] at ok r2<;>(try (simp only [R6] at ok;done))<;>simp only [R6] at ok
  ·rename_i z rows k n;obtain ⟨I,O,H⟩:=ok;cases A:dV P t<;>rw [A] at I<;>try exact I.elim
   have aa:z=_:=I;subst aa;obtain ⟨u,hr,D⟩:=run_indexAt_slice (w:=w) A r1 r2 O H;exact ⟨u,jx hr,D⟩
  ·rename_i cs k n;cases A:dV P t<;>rw [A] at ok<;>try exact ok.elim
   rename_i m z ea;obtain ⟨O,H⟩:=ok;obtain ⟨E,B,hn,hc⟩:=r1.oJ;rw [B];refine ⟨_,jx (qC A r2 O H),?_⟩;simp only [Yg];refine mQ (fun d hd=>hn d (mem_of_mem_drop hd)) ?_;intro j d hj;rw [getElem?_drop] at hj;rw [add_add];exact hc _ d hj
  ·rename_i r k n;obtain ⟨O,ok⟩:=ok;cases A:dV P t<;>rw [A] at ok<;>try exact ok.elim
   rename_i z by_ ea;simp only at ok;cases ap:env.o r<;>rw [ap] at ok<;>simp only [WX] at ok;rename_i z' rows;obtain ⟨rfl,H⟩:=ok;obtain ⟨E,cap,R,_,af⟩:=Y r z' rows ap;obtain ⟨ab,_⟩:=r1.nS;simp only [cx] at ab;rw [R] at ab;have B:a.eval x=.slice E rows.length cap:=(Option.some.inj ab).symm;cases E with
   | none=>rw [(af rfl).1] at H;simp at H;omega
   | some E =>
    rw [B];refine ⟨_,jx (sw A r2 O H),?_⟩;simp only [Yg];exact .bX r z' n.toNat 0 E _ _ R
  ·rename_i r off k n;cases A:dV P t<;>rw [A] at ok<;>try exact ok.elim
   rename_i m z ea;obtain ⟨O,H⟩:=ok;obtain ⟨E,R,B⟩:=r1.jJ;rw [B];refine ⟨_,jx (qC A r2 O H),?_⟩;simp only [Yg];rw [add_add];exact .addr r _ E R
  ·rename_i r z j k' k n;cases A:dV P t<;>rw [A] at ok<;>try exact ok.elim
   rename_i m z' ea;obtain ⟨O,H⟩:=ok;obtain ⟨E,len,cap,R,B⟩:=r1.lH;rw [B];refine ⟨_,jx (qC A r2 O H),?_⟩;simp only [Yg];rw [add_add,Nat.add_assoc];exact .bX r z j _ E len cap R
  ·rename_i r z lo len k n;obtain ⟨I,O,H⟩:=ok;cases A:dV P t<;>rw [A] at I<;>try exact I.elim
   have aa:z=_:=I;subst aa;obtain ⟨E,a',L,cap,am,R,B,h3,h4,_⟩:=r1.mz;obtain ⟨b,rfl,rfl⟩:=h3 (by omega);rw [B];refine ⟨_,jx (sw A r2 O H),?_⟩;simp only [Yg];rw [add_add,<- Nat.add_mul];have:=aK.bX (C:=cx w lev S) r z (lo+n.toNat) 0 b _ _ R;simpa using this
  ·rename_i r off z len bcap k n;obtain ⟨I,O,H⟩:=ok;cases A:dV P t<;>rw [A] at I<;>try exact I.elim
   have aa:z=_:=I;subst aa;obtain ⟨E,a',am,R,B,h3,h4,_⟩:=r1.gv;rw [h3 (by omega)] at B;rw [B];refine ⟨_,jx (sw A r2 O H),?_⟩;simp only [Yg];rw [add_add];exact .addr r _ E R
 case index t x i =>
  simp only [dM] at ok;simp only [fN]
  suffices hs:∃ u,(Instr.index t (a.eval x) (a.eval i)).run P w=.ok u w/\aK (cx w lev S) u (ixV (dV P t) (rd env x) (rd env i)) by
   obtain ⟨u,hr,D⟩:=hs;exact ⟨u,jx hr,D⟩
  have r1:=g x;have r2:=g i;cases K:rd env x<;>rw [K] at ok r1<;>(try (simp only [Sj] at ok;done))<;>cases J:rd env i<;>rw [J] at ok r2<;>(try (simp only [Sj] at ok;done))
  ·obtain ⟨I,O,H⟩:=ok;exact Na (w:=w) I r1 r2 O H
  ·rename_i cs k n;simp only [Sj] at ok;cases A:dV P t<;>rw [A] at ok<;>try exact ok.elim
   obtain ⟨O,H,h2⟩:=ok;exact M9 (w:=w) A r1 r2 O H h2
 case load t x =>
  simp only [dM] at ok;simp only [fN];cases W:gC P t with
  | none=>rw [W] at ok;exact ok.elim
  | some l =>
   rw [W] at ok;obtain ⟨u,hr,D⟩:=abT h W (g x) ok;exact ⟨u,jx hr,D⟩
 case nilCheck x =>
  simp only [dM] at ok;simp only [fN];have hr:=g x;cases K:rd env x<;>rw [K] at ok hr<;>try exact ok.elim
  ·obtain ⟨vs,B,_⟩:=hr.Bw;rw [B] at hr |-;exact ⟨_,rfl,hr⟩
  ·obtain ⟨E,B,_⟩:=hr.oJ;rw [B] at hr |-;exact ⟨_,rfl,hr⟩
  ·obtain ⟨E,_,B⟩:=hr.jJ;rw [B] at hr |-;exact ⟨_,rfl,hr⟩
  ·obtain ⟨E,_,_,_,B⟩:=hr.lH;rw [B] at hr |-;exact ⟨_,rfl,hr⟩
 case extract x i =>
  simp only [dM] at ok;simp only [fN];have r1:=g x;cases K:rd env x<;>rw [K] at ok r1<;>try exact ok.elim
  rename_i ds;obtain ⟨vs,B,hs,hc⟩:=r1.Ei;simp only at ok |-;have Z:i < vs.size:=by omega
  have aw:(Instr.extract (a.eval x) i).run P w=.ok vs[i] w:=by simp [B,Instr.extract,Z,Sem.run,pure]
  refine ⟨vs[i],jx aw,?_⟩;have hd:ds.getD i .undef=ds[i]:=by simp [getD,ok]
  rw [hd];exact hc i vs[i] ds[i] (by simp [Z]) (fO ok)
 case build t parts =>
  simp only [dM] at ok;obtain ⟨I,z,X,ac⟩:=ok;simp only [fN,X]
  suffices hs:∃ u,(Instr.build t (parts.map fun x=>(x.1,a.eval x.2))).run P w=.ok u w/\aK (cx w lev S) u (.agg (mo z (eT P env t parts.toList))) by
   obtain ⟨u,hr,D⟩:=hs;exact ⟨u,jx hr,D⟩
  have ah:∃ zv,(zeroValue t).run P w=.ok zv w/\zv.cells.size=z.length/\∀ (i:Nat) v d,zv.cells[i]?=some v->z[i]?=some d->aK (cx w lev S) v d:=by
   unfold lz at X;cases J:P.info? t with
   | none=>rw [J] at X;cases X
   | some as =>
    simp only [J] at X;cases aj:as.zero with
    | none=>rw [aj] at X;cases X
    | some zv =>
     rw [aj] at X;cases X;refine ⟨zv,by simp [zeroValue,Sem.run_bind,jQ J,aj,Sem.run,pure],by simp,?_⟩;intro i v d B hd;simp only [getElem?_map] at hd;have:zv.cells.toList[i]?=some v:=by simpa using B
     rw [this] at hd;simp at hd;subst hd;exact sW v
  obtain ⟨zv,ar,aC,ai⟩:=ah;have T:∀ (pl:Nat->Option (Nat × Nat)),(∀ (k:Nat) p q,parts.toList[k]?=some p->(eT P env t parts.toList)[k]?=some q->pl p.1=some (q.1,q.2.1)/\q.2.2=rd env p.2)->(eT P env t parts.toList).length=parts.toList.length ->
    ∃ N,Instr.fill pl zv.cells (parts.map fun x=>(x.1,a.eval x.2)).toList=some N/\aK (cx w lev S) (.agg N) (.agg (mo z (eT P env t parts.toList))):=by
   intro pl az ao
   obtain ⟨N,e1,e2,e3⟩:=LC (V:=cx w lev S) pl (parts.map fun x=>(x.1,a.eval x.2)).toList (eT P env t parts.toList) zv.cells z (by simpa using ao.symm) aC ai (by
    intro k p q hp hq;simp only [Array.toList_map,getElem?_map] at hp;cases ag:parts.toList[k]? with
    | none=>rw [ag] at hp;cases hp
    | some p0 =>
     rw [ag] at hp;cases hp;obtain ⟨f1,f2⟩:=az k p0 q ag hq
     exact ⟨f1,by rw [f2];exact g p0.2⟩) ac
   exact ⟨N,e1,.agg _ _ e2 e3⟩
  cases A:dV P t<;>rw [A] at I<;>try exact I.elim
  ·rename_i n z' ea;obtain ⟨e,D,W,hz0⟩:=Ek A
   obtain ⟨N,e1,e2⟩:=T (fun i=>some (i*z',z')) (by
    intro k p q hp hq;simp only [eT,A,getElem?_map,hp,Option.map_some,ny] at hq;subst hq
    exact ⟨rfl,rfl⟩) (by simp [eT,A])
   refine ⟨.agg N,?_,e2⟩;simp only [Instr.build,Sem.run_bind,ar,bC D,bU W,Result.andThen_ok,e1];rfl
  ·rename_i fs;obtain ⟨fa,D,ax⟩:=B4 A;obtain ⟨ps,aA,ay⟩:=afk (P:=P) ax w
   obtain ⟨N,e1,e2⟩:=T (fun i=>ps[i]?) (by
    intro k p q hp hq;simp only [eT,A,getElem?_map,hp,Option.map_some,ny] at hq;have Z:=I p (dX hp);rw [fO Z] at hq;subst hq;refine ⟨?_,rfl⟩
    rw [ay,fO Z];rfl) (by simp [eT,A])
   refine ⟨.agg N,?_,e2⟩;simp only [Instr.build,Sem.run_bind,ar,bC D,Result.andThen_ok];have aq:(fa.mapM (fun f=>do pure (f.offset,<- sizeOf f.type):Field->Sem (Nat × Nat))).run P w=.ok ps w:=aA;rw [aq];simp only [Result.andThen_ok,e1];rfl
 case slice t x lo J mx =>
  cases mx with
  | none =>
   simp only [dM] at ok;obtain ⟨u,hr,D⟩:=Zv (V:=cx w lev S) Y (g x) (lI:=a.eval) g ok w;exact ⟨u,jx hr,D⟩
  | some m =>
   cases lo with
   | some l=>simp only [dM] at ok
   | none =>
   cases J with
   | none=>simp only [dM] at ok
   | some H =>
    simp only [dM] at ok;obtain ⟨au,av,ak,al⟩:=ok;have rh:=g H;have rm:=g m;cases e1:rd env H<;>rw [e1] at ak rh<;>simp only [isZero] at ak;cases e2:rd env m<;>rw [e2] at al rm<;>simp only [isZero] at al;subst ak;subst al;have X:∀ (v:Value) (k:IntKind) (y:Nat) (code:BoundsCode),v=.int k 0->(Instr.sliceBound v y code).run P w=.ok 0 w:=fun v k y code B=>run_sliceBound B (by omega) (by omega) code w;have b1:=fun y code=>X _ _ y code rh.dK;have b2:=fun y code=>X _ _ y code rm.dK;have aB:∃ E len cap,a.eval x=.slice E len cap:=by
     have r1:=g x;generalize a.eval x=v at r1;cases K:rd env x<;>rw [K] at av r1<;>simp only [agN] at av
     ·cases r1;exact ⟨_,_,_,rfl⟩
     ·cases r1;exact ⟨_,_,_,rfl⟩
     ·obtain ⟨_,_,h,_⟩:=r1.BZ;exact ⟨_,_,_,h⟩
     ·obtain ⟨_,_,_,_,h⟩:=r1.nS;exact ⟨_,_,_,h⟩
     ·obtain ⟨_,_,_,_,_,_,h,_⟩:=r1.mz;exact ⟨_,_,_,h⟩
     ·obtain ⟨_,_,_,_,h,_⟩:=r1.gv;exact ⟨_,_,_,h⟩
    obtain ⟨E,len,cap,B⟩:=aB;cases A:dV P t<;>rw [A] at au<;>simp only [abL] at au;obtain ⟨el,as,D,an,hin,hb,X,_⟩:=dO A;refine ⟨.slice E 0 0,jx ?_,.emp _⟩;rw [B];simp [Instr.sliceAt,Sem.run_bind,bC D,Instr.slice,Instr.sliceBounds,b1,b2,bU an,Sem.run,pure]
 case makeFunc fn first caps =>
  cases fn<;>simp only [dM] at ok;subst ok;rename_i f;refine ⟨.func (.func f) #[] (caps.map a.eval),?_,?_⟩
  ·exact jx (by simp [Instr.makeFunc,Sem.run,pure])
  ·simp only [fN];refine .fn f _ _ (by simp) ?_;intro i v x B K;simp only [Array.getElem?_map,getElem?_map] at B K;have hc:caps[i]?=caps.toList[i]?:=by simp
   rw [hc] at B;cases hy:caps.toList[i]? with
   | none=>rw [hy] at B;cases B
   | some y =>
    rw [hy] at B K;cases B;cases K;exact g y
 case call c =>
  simp only [dM] at ok;simp only [fN];cases M:c.callee with
  | value f=>rw [M] at ok;exact ok.elim
  | invoke r m=>rw [M] at ok;exact ok.elim
  | builtin bi =>
  rw [M] at ok;cases bi<;>try exact ok.elim
  ·-- len
   cases F:c.args.toList with
   | nil=>rw [F] at ok;exact ok.elim
   | cons x l1 =>
   cases l1 with
   | cons y l2=>rw [F] at ok;exact ok.elim
   | nil =>
   cases U:c.argTypes.toList with
   | nil=>rw [F,U] at ok;exact ok.elim
   | cons t l1 =>
   cases l1 with
   | cons y l2=>rw [F,U] at ok;exact ok.elim
   | nil =>
   rw [F,U] at ok;simp only at ok |-;have e1:=ag0 F;have e2:=ag0 U;obtain ⟨u,hr,D⟩:=afA (P:=P) (w:=w) (ty:=o.type) (V:=cx w lev S) (fun r z rows ho=>by obtain ⟨a,c,H,_⟩:=Y r z rows ho;exact ⟨a,c,H⟩) (g x) ok;refine ⟨u,?_,D⟩;have hm:c.args.map a.eval = #[a.eval x]:=by rw [e1];simp
   simp only [resolve,M,Sem.run_bind,pure,Sem.run,Result.andThen_ok,invoke,builtin,hm,e2,hr]
  ·obtain ⟨ae,J⟩:=ok;simp only;cases W:c.args.toList with
   | nil=>exact (ae W).elim
   | cons x l' =>
    rw [W] at J;simp only [map_cons] at J |-;have r1:=g x;cases K:rd env x<;>rw [K] at J r1<;>try exact J.elim
    rename_i k n
    obtain ⟨u,hr,D,k',n',hk⟩:=Xc (P:=P) (w:=w) (V:=cx w lev S) (l'.map a.eval) (l'.map (rd env)) (a.eval x) (.int k n) r1 ⟨_,_,rfl⟩ (by simp) (by
     intro i v e B he;simp only [getElem?_map] at B he;cases hy:l'[i]? with
     | none=>rw [hy] at B;cases B
     | some y =>
      rw [hy] at B he;cases B;cases he
      exact g y) J
    refine ⟨u,?_,D⟩;have hm:(c.args.map a.eval).toList=a.eval x :: l'.map a.eval:=by simp [W]
    simp only [resolve,M,Sem.run_bind,pure,Sem.run,Result.andThen_ok,invoke,builtin,Builtin.max_,hm,hr]
  ·obtain ⟨ae,J⟩:=ok;simp only;cases W:c.args.toList with
   | nil=>exact (ae W).elim
   | cons x l' =>
    rw [W] at J;simp only [map_cons] at J |-;have r1:=g x;cases K:rd env x<;>rw [K] at J r1<;>try exact J.elim
    rename_i k n
    obtain ⟨u,hr,D,k',n',hk⟩:=Xd (P:=P) (w:=w) (V:=cx w lev S) (l'.map a.eval) (l'.map (rd env)) (a.eval x) (.int k n) r1 ⟨_,_,rfl⟩ (by simp) (by
     intro i v e B he;simp only [getElem?_map] at B he;cases hy:l'[i]? with
     | none=>rw [hy] at B;cases B
     | some y =>
      rw [hy] at B he;cases B;cases he
      exact g y) J
    refine ⟨u,?_,D⟩;have hm:(c.args.map a.eval).toList=a.eval x :: l'.map a.eval:=by simp [W]
    simp only [resolve,M,Sem.run_bind,pure,Sem.run,Result.andThen_ok,invoke,builtin,Builtin.min_,hm,hr]
end
end Go.Abs
namespace Go.Abs
open List
def nm (d k:Nat):Nat:=16*(d+1)+k
theorem AG (d k:Nat):16<=nm d k:=by unfold nm;omega
def idx:List Nat->Nat->Option Nat
 | [],_=>none
 | g :: gs,r=>if g=r then some 0 else (idx gs r).map (· + 1)
theorem uq:∀ {gs:List Nat} {r i:Nat},idx gs r=some i->gs[i]?=some r
 | [],r,i,h=>by simp [idx] at h
 | g :: gs,r,i,h=>by
  unfold idx at h;split at h
  ·cases h;simp_all
  ·cases e:idx gs r with
   | none=>rw [e] at h;cases h
   | some j=>rw [e] at h;cases h;simpa using uq e
theorem UY:∀ {gs:List Nat} {r i:Nat},gs.Nodup->gs[i]?=some r->idx gs r=some i
 | [],r,i,_,h=>by simp at h
 | g :: gs,r,0,hn,h=>by simp at h;subst h;simp [idx]
 | g :: gs,r,i+1,hn,h=>by
  simp at h;have a:=nodup_cons.1 hn;have:g≠r:=by rintro rfl;exact a.1 (dX h)
  simp [idx,this,UY a.2 h]
variable {r:Nat}
theorem aeK {gs:List Nat}:r∈gs->∃ i,idx gs r=some i:=by
 induction gs with
 | nil=>intro h;cases h
 | cons g gs ih =>
  intro h;unfold idx;by_cases e:g=r
  ·simp [e]
  ·simp only [e,if_false];rcases mem_cons.1 h with h | h
   ·exact (e h.symm).elim
   ·obtain ⟨i,hi⟩:=ih h;exact ⟨i+1,by simp [hi]⟩
mutual
/-- other names for the objects; what has none is forgotten -/
def D.kB (f:Nat->Option Nat):D->D
 | .fn g cs=>.fn g (D.uI f cs)
 | .agg cs=>.agg (D.uI f cs)
 | .bT cs=>.bT (D.uI f cs)
 | .box cs=>.box (D.uI f cs)
 | .ref s=>match f s with | some r=>.ref r | none=>.undef
 | .addr s o=>match f s with | some r=>.addr r o | none=>.undef
 | .bX s z i k=>match f s with | some r=>.bX r z i k | none=>.undef
 | .eC s z l n=>match f s with | some r=>.eC r z l n | none=>.undef
 | .bW s o z n c=>match f s with | some r=>.bW r o z n c | none=>.undef
 | d=>d
def D.uI (f:Nat->Option Nat):List D->List D
 | []=>[]
 | d :: l=>d.kB f :: D.uI f l
end
theorem Lq (f:Nat->Option Nat):∀ cs:List D,D.uI f cs=cs.map (D.kB f)
 | []=>rfl
 | d :: l=>by rw [D.uI,Lq f l];rfl
theorem aK.kB {C C':Cx} {f:Nat->Option Nat} (A:∀ a v,C.V a=some v->C'.V a=some v) {v:Value} {d:D} (r:aK C v d) (l:∀ s∈d.names,∀ t,f s=some t->∀ u,C.S s=some u->C'.S t=some u):aK C' v (d.kB f):=by
 have q:∀ (vs:Array Value) (ds:List D),vs.size=ds.length->(∀ (i:Nat) v d,vs[i]?=some v->ds[i]?=some d->(∀ s∈d.names,∀ t,f s=some t->∀ u,C.S s=some u->C'.S t=some u)->aK C' v (d.kB f)) ->
   (∀ s∈D.bK ds,∀ t,f s=some t->∀ u,C.S s=some u->C'.S t=some u)->vs.size=(D.uI f ds).length/\∀ (i:Nat) v d,vs[i]?=some v->(D.uI f ds)[i]?=some d->aK C' v d:=by
  intro vs ds o p l;rw [Lq];refine ⟨by simpa using o,?_⟩;intro i v d hi y;simp only [getElem?_map] at y;cases e:ds[i]? with
  | none=>rw [e] at y;cases y
  | some x=>rw [e] at y;cases y;exact p i v x hi e fun s j=>l s (eu.2 ⟨x,dX e,j⟩)
 induction r with
 | fn g vs ds o h p=>obtain ⟨c,m⟩:=q vs ds o p (fun s j=>l s (by simp only [D.names];exact j));simp only [D.kB];exact .fn g vs _ c m
 | agg vs ds o _ p=>obtain ⟨c,m⟩:=q vs ds o p (fun s j=>l s (by simp only [D.names];exact j));simp only [D.kB];exact .agg vs _ c m
 | bT vs ds o _ p=>obtain ⟨c,m⟩:=q vs ds o p (fun s j=>l s (by simp only [D.names];exact j));simp only [D.kB];exact .bT vs _ c m
 | undef v=>exact .undef v
 | bool b=>exact .bool b
 | int k n=>exact .int k n
 | str s=>exact .str s
 | nil=>exact .nil
 | emp a=>exact .emp a
 | kP=>exact .kP
 | gl=>exact .gl
 | gR t v=>exact .gR t v
 | j4=>exact .j4
 | slnil z=>exact .slnil z
 | sl z a cap rows g o hz hk hc c _ =>
  exact aK.keep (d:=.sl z rows) A (.sl z a cap rows g o hz hk hc c) (fun s j=>by simp [D.names] at j)
 | bq a cs g hn hc c _=>exact aK.keep (d:=.bq cs) A (.bq a cs g hn hc c) (fun s j=>by simp [D.names] at j)
 | ref s a len cap h =>
  simp only [D.kB];split
  ·rename_i t e;exact .ref t a len cap (l s (by simp [D.names]) t e _ h)
  ·exact .undef _
 | addr s off a h =>
  simp only [D.kB];split
  ·rename_i t e;exact .addr t off a (l s (by simp [D.names]) t e _ h)
  ·exact .undef _
 | bX s z i k a len cap h =>
  simp only [D.kB];split
  ·rename_i t e;exact .bX t z i k a len cap (l s (by simp [D.names]) t e _ h)
  ·exact .undef _
 | eC s z lo len a a' L cap cap' h c m h3 =>
  simp only [D.kB];split
  ·rename_i t e;exact .eC t z lo len a a' L cap cap' (l s (by simp [D.names]) t e _ h) c m h3
  ·exact .undef _
 | bW s off z len cap a a' h c m =>
  simp only [D.kB];split
  ·rename_i t e;exact .bW t off z len cap a a' (l s (by simp [D.names]) t e _ h) c m
  ·exact .undef _
def sI:D->D
 | .own z rows=>.sl z rows
 | _=>.undef
def ug (z i k:Nat):D->D
 | .own z' rows=>if z'=z/\i < rows.length then .bq ((rows.getD i []).drop k) else .undef
 | _=>.undef
def mM (z lo len:Nat):D->D
 | .own z' rows=>if z'=z/\lo+len<=rows.length then .sl z ((rows.drop lo).take len) else .undef
 | _=>.undef
def La:D->Bool
 | .undef | .agg _ | .bT _ | .box _ | .own _ _=>false
 | d=>d.names.isEmpty
def gS (off z len:Nat):D->D
 | .box cs=>if ((cs.drop off).take (len*z)).all La&&decide (off+len*z<=cs.length) then .sl z (rowsOf z len (cs.drop off)) else .undef
 | _=>.undef
def mL (f:D->D) (off:Nat):D->D
 | .box cs=>.bq ((cs.drop off).map f)
 | _=>.undef
def bS (b:Bool) (d:D):D:=if b then .undef else d
def oX (d:D):D:=if d.names.isEmpty then d else .undef
def nG (o:Nat->D) (x:List Nat):Nat->D->D
 | 0,d=>oX d
 | k+1,.ref r=>bS (x.contains r) (sI (o r))
 | k+1,.addr r off=>bS (x.contains r) (mL (nG o x k) off (o r))
 | k+1,.bX r z i j=>bS (x.contains r) (ug z i j (o r))
 | k+1,.eC r z lo len=>bS (x.contains r) (mM z lo len (o r))
 | k+1,.bW r off z len _=>bS (x.contains r) (gS off z len (o r))
 | k+1,.fn f cs=>.fn f (cs.map (nG o x k))
 | k+1,.agg cs=>.agg (cs.map (nG o x k))
 | k+1,.bT cs=>.bT (cs.map (nG o x k))
 | k+1,.box cs=>.undef
 | _+1,d=>d
def sC (i:Option Nat) (f:Nat->D) (d:D):D:=
 match i with
 | some i=>f i
 | none=>d
def conv (bw:Bool) (gs:List Nat) (o:Nat->D):Nat->D->D
 | 0,d=>oX d
 | k+1,.ref r=>sC (idx gs r) .ref (bS (!bw) (nG o gs k (.ref r)))
 | k+1,.addr r off=>sC (idx gs r) (fun i=>.addr i off) (bS (!bw) (nG o gs k (.addr r off)))
 | k+1,.bX r z i j=>sC (idx gs r) (fun x=>.bX x z i j) (bS (!bw) (nG o gs k (.bX r z i j)))
 | k+1,.eC r z lo len=>sC (idx gs r) (fun x=>.eC x z lo len) (bS (!bw) (nG o gs k (.eC r z lo len)))
 | k+1,.bW r off z len cap=>sC (idx gs r) (fun x=>.bW x off z len cap) (bS (!bw) (nG o gs k (.bW r off z len cap)))
 | k+1,.fn f cs=>.fn f (cs.map (conv bw gs o k))
 | k+1,.agg cs=>.agg (cs.map (conv bw gs o k))
 | k+1,.bT cs=>.bT (cs.map (conv bw gs o k))
 | k+1,.box cs=>.undef
 | _+1,d=>d
def xq (bw:Bool) (gs:List Nat) (o:Nat->D) (k:Nat):D->D
 | .box cs=>.box (cs.map (conv bw gs o k))
 | .own z rows=>.own z rows
 | _=>.undef
theorem DV (d:D):(oX d).names=[]:=by
 unfold oX;split
 ·rename_i h;simpa using h
 ·rfl
theorem Vf {f:D->D} (h:∀ d,(f d).names=[]) (cs:List D):D.bK (cs.map f)=[]:=by
 induction cs with
 | nil=>rfl
 | cons c cs ih=>simp [D.bK,h,ih]
variable {d:D}
theorem nN {b:Bool} (h:d.names=[]):(bS b d).names=[]:=by unfold bS;split;rfl;exact h
theorem Nz (o:Nat->D) (x:List Nat):∀ (k:Nat) (d:D),(nG o x k d).names=[]
 | 0,d=>DV d
 | k+1,d=>by
  have a:=Nz o x k;cases d<;>simp only [nG]<;>(try rfl)<;>(try exact Vf a _)
  ·refine nN ?_;unfold sI;split<;>rfl
  ·refine nN ?_;unfold mL;split<;>rfl
  ·refine nN ?_;unfold ug;split<;>(try split)<;>rfl
  ·refine nN ?_;unfold mM;split<;>(try split)<;>rfl
  ·refine nN ?_;unfold gS;split<;>(try split)<;>rfl
def qH:Value->D->Option (Nat × Nat × Nat)
 | .pointer (some a),.box cs=>some (a.block,a.off,a.off+cs.length)
 | .slice (some a) _ cap,.own z _=>if cap=0 then none else some (a.block,0,cap*z)
 | _,_=>none
def qP (gs:List Nat) (S:Nat->Option Value) (o:Nat->D) (b:Nat):Option (Nat × Nat):=
 gs.findSome? fun r=>match (S r).bind fun v=>qH v (o r) with
  | some x=>if x.1=b then some x.2 else none
  | none=>none
def tH (bw:Bool) (gs:List Nat) (lev own:Nat->Option Nat) (b:Nat):Option Nat:=
 match own b with
 | some r=>if gs.contains r then lev b else if bw then none else lev b
 | none=>lev b
def Cb (gs:List Nat) (S:Nat->Option Value) (i:Nat):Option Value:=(gs[i]?).bind S
def Qr (gs:List Nat) (own:Nat->Option Nat) (b:Nat):Option Nat:=(own b).bind (idx gs)
variable {b lo hi i:Nat} {v:Value}
section
variable {P:Program} {w0 w w':World} {l0:Nat->Option Nat} {G:Nat->Option (Nat × Nat)} {S0:Nat->Option Value} {lev lev' own own':Nat->Option Nat} {S S':Nat->Option Value} {env env':Env} {tm tm':Nat->Value} {B:Nat} {gs:List Nat} {bw:Bool}
theorem lQ.blk (h:lQ B G w lev own S r d) (f:S r=some v) (e:qH v d=some (b,lo,hi)) :
  own b=some r/\lev b=some 0/\Xv G B b lo hi/\∃ (c:Array Value) (E:TypeId),w.heap[b]?=some (.cells c E (0,0)):=by
 cases d<;>try exact h.elim
 case undef=>cases v<;>simp [qH] at e
 case box cs =>
  obtain ⟨q,o,c,E,g,j,k,l,m,n,p⟩:=h;rw [g] at f;cases f;simp only [qH,ny,Prod.mk.injEq] at e;obtain ⟨rfl,rfl,rfl⟩:=e;exact ⟨m,l,n,c,E,j⟩
 case own z rows =>
  rcases h with ⟨a,g,j⟩ | ⟨q,c,E,cap,g,j,k,l,m,n,p,h8,h9,h10⟩
  ·rw [g] at f;cases f;cases a<;>simp [qH] at e
  ·rw [g] at f;cases f;simp only [qH] at e;split at e
   ·cases e
   ·simp only [ny,Prod.mk.injEq] at e;obtain ⟨rfl,rfl,rfl⟩:=e;rw [k] at h9;exact ⟨h8,p,h9,c,E,j⟩
theorem IK {o:Nat->D} (h:qP gs S o b=some (lo,hi)):∃ r∈gs,∃ v,S r=some v/\qH v (o r)=some (b,lo,hi):=by
 unfold qP at h;obtain ⟨r,hr,a⟩:=exists_of_findSome?_eq_some h;refine ⟨r,hr,?_⟩;cases f:S r with
 | none=>rw [f] at a;cases a
 | some v =>
  rw [f] at a;simp only [Option.bind_some] at a;cases c:qH v (o r) with
  | none=>rw [c] at a;cases a
  | some x =>
   rw [c] at a;simp only at a;split at a
   ·rename_i e;simp only [ny] at a;refine ⟨v,rfl,?_⟩;rw [c,<- e,<- a]
   ·cases a
theorem age (h:Inv w0 l0 G S0 w lev own S env tm) (hr:r∈gs) (e:S r=some v) (f:qH v (env.o r)=some (b,lo,hi)):qP gs S env.o b=some (lo,hi):=by
 have g:(qP gs S env.o b).isSome=true:=by
  unfold qP;rw [findSome?_isSome_iff];exact ⟨r,hr,by simp [e,f]⟩
 obtain ⟨⟨lo',hi'⟩,hx⟩:=Option.isSome_iff_exists.1 g;obtain ⟨k,hr',v',a,c⟩:=IK hx;have j:=((h.objs r).blk e f).1;have e2:=((h.objs k).blk a c).1;rw [j] at e2;cases e2;rw [e] at a;cases a;rw [f] at c;cases c;exact hx
theorem WE (b:Nat):tH bw gs lev own b=lev b\/tH bw gs lev own b=none:=by
 unfold tH;split
 ·split
  ·exact .inl rfl
  ·split
   ·exact .inr rfl
   ·exact .inl rfl
 ·exact .inl rfl
theorem nZ:oa w lev w (tH bw gs lev own):=by
 intro a u c;have e:=ql c;unfold vis at c |-;rcases WE (bw:=bw) (gs:=gs) (lev:=lev) (own:=own) a.block with h | h
 ·rw [h];exact c
 ·rw [h];exact e
theorem Eo (e:own b=some r) (c:gs.contains r=false) {u:Value} (a:w.cell? ⟨b,i,none⟩=some u):vis w (tH true gs lev own) ⟨b,i,none⟩=some u:=by
 unfold vis tH;simp only [e,c,if_true,Bool.false_eq_true,if_false];exact a
theorem yL (h:La d=true):bG d:=by
 cases d<;>simp only [La] at h<;>first | (cases h;done) | exact ⟨trivial,by simpa using h⟩
theorem gZ (z:Nat):∀ (n:Nat) (cs:List D),(rowsOf z n cs).length=n
 | 0,_=>rfl
 | n+1,cs=>by simp [rowsOf,gZ z n]
theorem o9 (z:Nat):∀ (n:Nat) (cs:List D) (i:Nat) (r:List D),(rowsOf z n cs)[i]?=some r->r=(cs.drop (i*z)).take z
 | 0,_,_,_,h=>by simp [rowsOf] at h
 | n+1,cs,0,r,h=>by simp [rowsOf] at h;simp [h]
 | n+1,cs,i+1,r,h=>by
  simp only [rowsOf,getElem?_cons_succ] at h;have:=o9 z n _ i r h;rw [this,drop_drop,Nat.succ_mul,Nat.add_comm]
theorem Pv (h:Inv w0 l0 G S0 w lev own S env tm) (S':Nat->Option Value):∀ (k:Nat) (d:D) (v:Value),aK (cx w lev S) v d->aK (cx w (tH true gs lev own) S') v (nG env.o gs k d)
 | 0,d,v,hr=>by
  simp only [nG,oX];split
  ·rename_i hn;have af:d.names=[]:=by simpa using hn
   exact hr.fV nZ (by rw [af];simp)
  ·exact .undef _
 | k+1,d,v,hr=>by
  have ih:=Pv h S' k;have R:d.names=[]->aK (cx w (tH true gs lev own) S') v d:=fun hn=>hr.fV nZ (by rw [hn];simp);have T:∀ (vs:Array Value) (ds:List D),vs.size=ds.length->(∀ (i:Nat) v d,vs[i]?=some v->ds[i]?=some d->aK (cx w lev S) v d) ->
    vs.size=(ds.map (nG env.o gs k)).length/\∀ (i:Nat) v d,vs[i]?=some v->(ds.map (nG env.o gs k))[i]?=some d->aK (cx w (tH true gs lev own) S') v d:=by
   intro vs ds hl hh;refine ⟨by simpa using hl,?_⟩;intro i v d hi A;simp only [getElem?_map] at A;cases e:ds[i]? with
   | none=>rw [e] at A;cases A
   | some x=>rw [e] at A;cases A;exact ih x v (hh i v x hi e)
  cases d<;>simp only [nG]<;>(try exact R rfl)<;>(try (cases hr;done))
  ·obtain ⟨vs,rfl,hs,hv⟩:=hr.Bw;obtain ⟨g,s⟩:=T vs _ hs hv;exact .fn _ vs _ g s
  ·obtain ⟨vs,rfl,hs,hv⟩:=hr.pG;obtain ⟨g,s⟩:=T vs _ hs hv;exact .agg vs _ g s
  ·obtain ⟨vs,rfl,hs,hv⟩:=hr.Ei;obtain ⟨g,s⟩:=T vs _ hs hv;exact .bT vs _ g s
  ·rename_i r;unfold bS;split
   ·exact .undef _
   ·rename_i K;have l:gs.contains r=false:=by simpa using K
    obtain ⟨t,a,len,cap,rfl⟩:=hr.nS;have F:=h.objs r;simp only [cx] at t;cases A:env.o r<;>rw [A] at F<;>simp only [sI]<;>(try exact .undef _);rename_i z rows;rcases F with ⟨U,g,rfl⟩ | ⟨b,c,E,n,g,s,h3,Z,M,J,W,h8,h9,h10⟩
    ·rw [t] at g;cases g;cases a with
     | none=>exact .slnil _
     | some ad=>exact kq (rows:=[]) (by simp) (by simp) (by simp) (by simp)
    ·rw [t] at g;cases g;refine kq Z M J ?_;intro i j f x hi p;obtain ⟨u,hu,I⟩:=h10 i j f x hi p;refine ⟨u,?_,I.fV nZ (by rw [(J f (dX hi) x (dX p)).2];simp)⟩;rw [fX,Nat.zero_add];exact Eo h8 l (by rw [j8 w b _ s];exact hu)
  ·rename_i r off;unfold bS;split
   ·exact .undef _
   ·rename_i K;have l:gs.contains r=false:=by simpa using K
    obtain ⟨a,t,rfl⟩:=hr.jJ;have F:=h.objs r;simp only [cx] at t;cases A:env.o r<;>rw [A] at F<;>simp only [mL]<;>(try exact .undef _);rename_i cs;obtain ⟨b,o,c,E,g,s,h3,Z,M,J,W⟩:=F;rw [t] at g;cases g;refine mQ (by intro d ac;obtain ⟨x,_,rfl⟩:=mem_map.1 ac;exact Nz _ _ _ _) ?_;intro j x p;simp only [getElem?_map,getElem?_drop] at p;cases e:cs[off+j]? with
    | none=>rw [e] at p;cases p
    | some y =>
     rw [e] at p;cases p;have H:o+(off+j) < c.size:=by have:=(fA.1 e).1;omega
     refine ⟨c[o+(off+j)],?_,ih y _ (W (off+j) _ y (by simp [H]) e)⟩;rw [add_add,fX];exact Eo M l (by rw [j8 w b _ s];simp [H])
  ·rename_i r z i j;unfold bS;split
   ·exact .undef _
   ·rename_i K;have l:gs.contains r=false:=by simpa using K
    obtain ⟨a,len,cap,t,rfl⟩:=hr.lH;have F:=h.objs r;simp only [cx] at t;cases A:env.o r<;>rw [A] at F<;>simp only [ug]<;>(try exact .undef _);rename_i z' rows;split
    ·rename_i X;obtain ⟨rfl,hi⟩:=X;rcases F with ⟨U,g,rfl⟩ | ⟨b,c,E,n,g,s,h3,Z,M,J,W,h8,h9,h10⟩
     ·simp at hi
     ·rw [t] at g;cases g;have q:rows.getD i []=rows[i]:=by simp [getD,hi]
      rw [q];refine mQ (fun x hx=>(J _ (ck hi) x (mem_of_mem_drop hx)).2) ?_;intro m x Q;rw [getElem?_drop] at Q;obtain ⟨u,hu,I⟩:=h10 i (j+m) rows[i] x (fO hi) Q;refine ⟨u,?_,I.fV nZ (by rw [(J _ (ck hi) x (dX Q)).2];simp)⟩;rw [add_add,fX];refine Eo h8 l ?_;rw [j8 w b _ s,<- hu];congr 1;omega
    ·exact .undef _
  ·rename_i r z lo len;unfold bS;split
   ·exact .undef _
   ·rename_i K;have l:gs.contains r=false:=by simpa using K
    obtain ⟨a,U,L,cap,n,t,rfl,q1,q2,q3⟩:=hr.mz;have F:=h.objs r;simp only [cx] at t;cases A:env.o r<;>rw [A] at F<;>simp only [mM]<;>(try exact .undef _);rename_i z' rows;split
    ·rename_i X;obtain ⟨rfl,aa⟩:=X;have hl:((rows.drop lo).take len).length=len:=by simp;omega
     by_cases Y:len=0
     ·subst Y;have e0:(rows.drop lo).take 0=[]:=by simp
      rw [e0];cases U with
      | none=>rw [q3 rfl];exact .slnil _
      | some ad=>exact kq (rows:=[]) (by simp) (by simp) (by simp) (by simp)
     obtain ⟨b0,rfl,rfl⟩:=q1 Y;rcases F with ⟨U,g,rfl⟩ | ⟨b,c,E,cap2,g,s,h3,Z,M,J,W,h8,h9,h10⟩
     ·simp at aa;omega
     ·rw [t] at g;cases g;have:=kq (V:=cx w (tH true gs lev own) S') (z:=z') (rows:=(rows.drop lo).take len) (a:=(⟨b,0,none⟩:Addr).add (lo*z')) (cap:=n) (by rw [hl];exact q2)
       (fun r hr=>M r (mem_of_mem_drop (mem_of_mem_take hr))) (fun r hr=>J r (mem_of_mem_drop (mem_of_mem_take hr))) (by
        intro i j f x hi p;have C:i < len:=by have:=(fA.1 hi).1;rw [hl] at this;exact this
        rw [getElem?_take_of_lt C,getElem?_drop] at hi;obtain ⟨u,hu,I⟩:=h10 (lo+i) j f x hi p;refine ⟨u,?_,I.fV nZ (by rw [(J _ (dX hi) x (dX p)).2];simp)⟩;rw [add_add,fX];refine Eo h8 l ?_;rw [j8 w b _ s,<- hu]
        congr 1;rw [Nat.add_mul];omega)
      rw [hl] at this;exact this
    ·exact .undef _
  ·rename_i r off z len bcap;unfold bS;split
   ·exact .undef _
   ·rename_i K;have l:gs.contains r=false:=by simpa using K
    obtain ⟨a,U,n,t,rfl,q1,q2,q3⟩:=hr.gv;have F:=h.objs r;simp only [cx] at t;cases A:env.o r<;>rw [A] at F<;>simp only [gS]<;>(try exact .undef _);rename_i cs;split
    ·rename_i X;simp only [Bool.and_eq_true,bL,dn] at X;obtain ⟨hp,hle⟩:=X;by_cases Y:len=0
     ·subst Y;simp only [rowsOf];cases U with
      | none=>rw [q3.1 rfl];exact .slnil _
      | some ad=>exact kq (rows:=[]) (by simp) (by simp) (by simp) (by simp)
     have ha:=q1 Y;subst ha;obtain ⟨b,o,c,E,g,s,h3,Z,M,J,W⟩:=F;rw [t] at g;cases g;have O:∀ (i:Nat) f,(rowsOf z len (cs.drop off))[i]?=some f->i < len/\f=((cs.drop off).drop (i*z)).take z:=by
      intro i f hi;have:=(fA.1 hi).1;rw [gZ] at this;exact ⟨this,o9 _ _ _ _ _ hi⟩
     have N:∀ i,i < len->∀ x∈((cs.drop off).drop (i*z)).take z,x∈(cs.drop off).take (len*z):=by
      intro i hi x hx;obtain ⟨m,Q⟩:=mem_iff_getElem?.1 hx;have ab:m < z:=by have:=(fA.1 Q).1;simp at this;omega
      rw [getElem?_take_of_lt ab,getElem?_drop] at Q;refine dX (i:=i*z+m) ?_;rw [getElem?_take_of_lt (qx ab hi)];exact Q
     have:=kq (V:=cx w (tH true gs lev own) S') (z:=z) (rows:=rowsOf z len (cs.drop off)) (a:=(⟨b,o,none⟩:Addr).add off) (cap:=n) (by rw [gZ];exact q2)
      (by
       intro f q;obtain ⟨i,hi⟩:=mem_iff_getElem?.1 q;obtain ⟨C,rfl⟩:=O i f hi;have:(i+1)*z<=len*z:=l6 z C;rw [Nat.succ_mul] at this
       simp;omega)
      (by
       intro f q x hx;obtain ⟨i,hi⟩:=mem_iff_getElem?.1 q;obtain ⟨C,rfl⟩:=O i f hi
       exact yL (hp x (N i C x hx)))
      (by
       intro i j f x hi p;obtain ⟨C,rfl⟩:=O i f hi;have ag:=yL (hp x (N i C x (dX p)));have ae:j < z:=by have:=(fA.1 p).1;simp at this;omega
       rw [getElem?_take_of_lt ae,getElem?_drop,getElem?_drop] at p;have H:o+(off+(i*z+j)) < c.size:=by have:=(fA.1 p).1;omega
       refine ⟨c[o+(off+(i*z+j))],?_,(W _ _ x (by simp [H]) p).fV nZ (by rw [ag.2];simp)⟩;rw [add_add,fX]
       exact Eo M l (by rw [j8 w b _ s];simp [H]))
     rw [gZ] at this;exact this
    ·exact .undef _
theorem uc (h:idx gs r=some i):Cb gs S i=S r:=by
 unfold Cb;rw [uq h];rfl
theorem JQ (h:Inv w0 l0 G S0 w lev own S env tm):∀ (k:Nat) (d:D) (v:Value),aK (cx w lev S) v d->aK (cx w (tH bw gs lev own) (Cb gs S)) v (conv bw gs env.o k d)
 | 0,d,v,hr=>by
  simp only [conv,oX];split
  ·rename_i C;have E:d.names=[]:=by simpa using C
   exact hr.fV nZ (by rw [E];simp)
  ·exact .undef _
 | k+1,d,v,hr=>by
  have M:=JQ h k;have l:d.names=[]->aK (cx w (tH bw gs lev own) (Cb gs S)) v d:=fun C=>hr.fV nZ (by rw [C];simp);have m:∀ (vs:Array Value) (ds:List D),vs.size=ds.length->(∀ (i:Nat) v d,vs[i]?=some v->ds[i]?=some d->aK (cx w lev S) v d) ->
    vs.size=(ds.map (conv bw gs env.o k)).length/\∀ (i:Nat) v d,vs[i]?=some v->(ds.map (conv bw gs env.o k))[i]?=some d->aK (cx w (tH bw gs lev own) (Cb gs S)) v d:=by
   intro vs ds K J;refine ⟨by simpa using K,?_⟩;intro i v d hi q;simp only [getElem?_map] at q;cases e:ds[i]? with
   | none=>rw [e] at q;cases q
   | some x=>rw [e] at q;cases q;exact M x v (J i v x hi e)
  have c:∀ u,aK (cx w lev S) v u->aK (cx w (tH bw gs lev own) (Cb gs S)) v (bS (!bw) (nG env.o gs k u)):=by
   intro u A;unfold bS;cases bw with
   | false=>exact .undef _
   | true=>exact Pv h _ k u v A
  cases d<;>simp only [conv]<;>(try exact l rfl)<;>(try (cases hr;done))
  ·obtain ⟨vs,rfl,s,t⟩:=hr.Bw;obtain ⟨n,p⟩:=m vs _ s t;exact .fn _ vs _ n p
  ·obtain ⟨vs,rfl,s,t⟩:=hr.pG;obtain ⟨n,p⟩:=m vs _ s t;exact .agg vs _ n p
  ·obtain ⟨vs,rfl,s,t⟩:=hr.Ei;obtain ⟨n,p⟩:=m vs _ s t;exact .bT vs _ n p
  ·rename_i r;cases e:idx gs r with
   | none=>exact c _ hr
   | some i =>
    obtain ⟨f,a,len,cap,rfl⟩:=hr.nS;exact .ref i a len cap ((uc e).trans f)
  ·rename_i r off;cases e:idx gs r with
   | none=>exact c _ hr
   | some i =>
    obtain ⟨a,f,rfl⟩:=hr.jJ;exact .addr i off a ((uc e).trans f)
  ·rename_i r z i j;cases e:idx gs r with
   | none=>exact c _ hr
   | some x =>
    obtain ⟨a,len,cap,f,rfl⟩:=hr.lH;exact .bX x z i j a len cap ((uc e).trans f)
  ·rename_i r z lo len;cases e:idx gs r with
   | none=>exact c _ hr
   | some x =>
    obtain ⟨a,y,L,cap,g,f,rfl,I,F,H⟩:=hr.mz;exact .eC x z lo len a y L cap g ((uc e).trans f) I F H
  ·rename_i r off z len bcap;cases e:idx gs r with
   | none=>exact c _ hr
   | some x =>
    obtain ⟨a,y,g,f,rfl,I,F,H⟩:=hr.gv;obtain ⟨_,rfl,N⟩:=H;exact .bW x off z len _ a y ((uc e).trans f) N F
theorem aa6 (h:Inv w0 l0 G S0 w lev own S env tm) (U:gs.Nodup) (hi:gs[i]?=some r) (k:Nat) (p:env.o r≠.undef) :
  lQ w.heap.size (qP gs S env.o) w (tH bw gs lev own) (Qr gs own) (Cb gs S) i (xq bw gs env.o k (env.o r)):=by
 have F:=h.objs r;have f:=dX hi;have R:=UY U hi;have g:Cb gs S i=S r:=uc R;have T:gs.contains r=true:=contains_iff_mem.2 f;have m:∀ b,own b=some r->tH bw gs lev own b=lev b:=by intro b L;unfold tH;simp only [L,T,if_true]
 have n:∀ b,own b=some r->Qr gs own b=some i:=by intro b L;unfold Qr;simp only [L,Option.bind_some];exact R
 cases D:env.o r<;>rw [D] at F<;>simp only [xq]<;>(try exact F.elim)
 ·exact (p D).elim
 ·rename_i z rows;rcases F with ⟨a,l,rfl⟩ | ⟨b,c,E,cap,l,H,A,I,C,J,K,h8,h9,h10⟩
  ·exact .inl ⟨a,g.trans l,rfl⟩
  ·by_cases O:cap=0
   ·subst O;have:rows=[]:=length_eq_zero_iff.1 (by omega);subst this;exact .inl ⟨_,g.trans l,rfl⟩
   ·refine .inr ⟨b,c,E,cap,g.trans l,H,A,I,C,J,(m b h8).trans K,n b h8,.inr ⟨0,cap*z,?_,dU _,by rw [A];exact dU _⟩,?_⟩
    ·exact age h f l (by rw [D];simp [qH,O])
    ·intro V j y d t Q;obtain ⟨u,N,M⟩:=h10 V j y d t Q;exact ⟨u,N,M.fV nZ (by rw [(J y (dX t) d (dX Q)).2];simp)⟩
 ·rename_i cs;obtain ⟨b,o,c,E,l,H,A,I,C,J,K⟩:=F;refine ⟨b,o,c,E,g.trans l,H,by simpa using A,(m b C).trans I,n b C,.inr ⟨o,o+cs.length,?_,dU _,by simp⟩,?_⟩
  ·exact age h f l (by rw [D];simp [qH])
  ·intro j u e N s;simp only [getElem?_map] at s;cases q:cs[j]? with
   | none=>rw [q] at s;cases s
   | some x=>rw [q] at s;cases s;exact JQ h k x u (K j u x N q)
end
end Go.Abs
namespace Go.Abs
open List
def qU:D->Prop
 | .sl _ rows=>rows=[]
 | .bq _ | .fn _ _ | .agg _ | .bT _ | .box _ | .own _ _=>False
 | _=>True
def vo:D->Prop
 | .agg cs=>∀ c∈cs,qU c
 | d=>qU d
def qV:D->Prop
 | .bT ds=>∀ d∈ds,vo d
 | d=>vo d
def vn:D->Prop
 | .box cs=>∀ c∈cs,qU c
 | .own _ rows=>∀ r∈rows,∀ d∈r,qU d
 | .undef=>True
 | _=>False
theorem qU.rep {V c:Addr->Option Value} {S:Nat->Option Value} {v:Value} {d:D} (h:qU d) (r:aK ⟨V,S⟩ v d):aK ⟨c,S⟩ v d:=by
 cases r with
 | sl z a cap rows f hl hz hk hc hr =>
  have:rows=[]:=h;subst this;exact .sl z a cap [] f hl hz hk (by simp) (by simp)
 | slnil z=>exact .slnil z
 | undef v=>exact .undef v
 | bool b=>exact .bool b
 | int k n=>exact .int k n
 | str s=>exact .str s
 | nil=>exact .nil
 | emp a=>exact .emp a
 | kP=>exact .kP
 | gl=>exact .gl
 | gR t v=>exact .gR t v
 | j4=>exact .j4
 | ref r a len cap hh=>exact .ref r a len cap hh
 | addr r off a hh=>exact .addr r off a hh
 | bX r z i k a len cap hh=>exact .bX r z i k a len cap hh
 | eC r z lo len a a' L cap cap' hh h1 h2 h3=>exact .eC r z lo len a a' L cap cap' hh h1 h2 h3
 | bW r off z len cap a a' hh h1 h2=>exact .bW r off z len cap a a' hh h1 h2
 | _=>exact h.elim
theorem vo.rep {V c:Addr->Option Value} {S:Nat->Option Value} {v:Value} {d:D} (h:vo d) (r:aK ⟨V,S⟩ v d):aK ⟨c,S⟩ v d:=by
 by_cases a:∃ cs,d=.agg cs
 ·obtain ⟨cs,rfl⟩:=a;obtain ⟨vs,rfl,f,hr⟩:=r.pG;exact .agg vs cs f fun i v d e b=>qU.rep (h d (dX b)) (hr i v d e b)
 ·have:qU d:=by cases d<;>first | exact h | exact (a ⟨_,rfl⟩).elim
  exact this.rep r
theorem qV.rep {V c:Addr->Option Value} {S:Nat->Option Value} {v:Value} {d:D} (h:qV d) (r:aK ⟨V,S⟩ v d):aK ⟨c,S⟩ v d:=by
 by_cases a:∃ cs,d=.bT cs
 ·obtain ⟨cs,rfl⟩:=a;obtain ⟨vs,rfl,f,hr⟩:=r.Ei;exact .bT vs cs f fun i v d e b=>vo.rep (h d (dX b)) (hr i v d e b)
 ·have:vo d:=by cases d<;>first | exact h | exact (a ⟨_,rfl⟩).elim
  exact this.rep r
def xL:List Nat->Env->Env
 | [],e=>e
 | r :: rs,e=>xL rs (jM r e)
def eG:D->Bool
 | .undef=>true
 | _=>false
def j9:List Nat->List D->List Nat
 | g :: gs,h :: hs=>if eG h then g :: j9 gs hs else j9 gs hs
 | _,_=>[]
def kk (d:Nat):Nat->Nat->List Nat
 | _,0=>[]
 | k,m+1=>nm d k :: kk d (k+1) m
def Lh (f:Nat->Option Nat):List Nat->List D->Env->Env
 | r :: rs,h :: hs,e=>Lh f rs hs (cV e r (h.kB f))
 | _,_,e=>e
def Nw (ns:List Nat) (i:Nat):Option Nat:=ns[i]?
def fB (d:Nat) (gs:List Nat) (a:List D):List Nat:=gs++kk d 0 (a.length-gs.length)
def gf (e:Env) (d:Nat) (gs:List Nat) (a:List D) (b:D):Env:=
 bP (Lh (Nw (fB d gs a)) (fB d gs a) a (xL (j9 gs a) e)) d (b.kB (Nw (fB d gs a)))
structure Out (m:Nat) (hs':List D) (w:World) (l0:Nat->Option Nat) (G0:Nat->Option (Nat × Nat)) (S0:Nat->Option Value) (w':World) (v:Value) (d:D):Prop where
 os:w'.os=w.os
 tape:w'.tape=w.tape
 output:w'.output=w.output
 size:w.heap.size<=w'.heap.size
 old:∀ b,b < w.heap.size->G0 b=none->w'.heap[b]?=w.heap[b]?
 part:∀ b lo hi,G0 b=some (lo,hi)->lX w w' b lo hi
 rep:∃ lev own S,(∀ b m,lev b=some m->b < w'.heap.size)/\(∀ b,b < w.heap.size->G0 b=none->lev b=l0 b)/\aK (cx w' lev S) v d /\
  (∀ r,lQ w.heap.size G0 w' lev own S r (hs'.getD r .undef))/\∀ i,i < m->hs'.getD i .undef≠.undef->S i=S0 i
theorem Ox (d:Nat):∀ (m k:Nat),(kk d k m).length=m
 | 0,_=>rfl
 | m+1,k=>by simp [kk,Ox d m]
theorem uD {d:Nat}:∀ {m k s:Nat},s∈kk d k m->∃ j,k<=j/\j < k+m/\s=nm d j
 | 0,_,_,h=>by simp [kk] at h
 | m+1,k,s,h=>by
  simp only [kk,mem_cons] at h;rcases h with rfl | h
  ·exact ⟨k,dU _,by omega,rfl⟩
  ·obtain ⟨j,h1,h2,a⟩:=uD h;exact ⟨j,by omega,by omega,a⟩
theorem ajz {d i j:Nat} (h:nm d i=nm d j):i=j:=by unfold nm at h;omega
theorem G9 (d:Nat):∀ (m k:Nat),(kk d k m).Nodup
 | 0,_=>by simp [kk]
 | m+1,k=>by
  simp only [kk,nodup_cons];refine ⟨?_,G9 d m (k+1)⟩;intro h;obtain ⟨j,h1,_,a⟩:=uD h;have:=ajz a;omega
section
variable {P:Program} {w0 w w':World} {l0:Nat->Option Nat} {G:Nat->Option (Nat × Nat)} {S0:Nat->Option Value} {lev lev' own own':Nat->Option Nat} {S S':Nat->Option Value} {env env':Env} {tm tm':Nat->Value} {B:Nat} {gs:List Nat} {bw:Bool}
theorem Inv.jN:∀ (c:List Nat) {S:Nat->Option Value} {env:Env},Inv w0 l0 G S0 w lev own S env tm->∃ a,Inv w0 l0 G S0 w lev own a (xL c env) tm/\∀ s u,a s=some u->S s=some u/\s ∉ c
 | [],S,env,h=>⟨S,h,fun s u d=>⟨d,by simp⟩⟩
 | k :: c,S,env,h=>by
  obtain ⟨a,f,g⟩:=Inv.jN c (h.kill k);refine ⟨a,f,fun s u d=>?_⟩;obtain ⟨b,i⟩:=g s u d;by_cases e:s=k
  ·subst e;rw [dh] at b;cases b
  ·rw [fm _ _ e] at b;exact ⟨b,by simp [e,i]⟩
theorem Lj (f:Nat->Option Nat):∀ (ns:List Nat) (b:List D) (e:Env) (r:Nat),ns.Nodup->ns.length=b.length->(Lh f ns b e).o r=match idx ns r with
  | some i=>(b.getD i .undef).kB f
  | none=>e.o r
 | [],[],e,r,_,_=>rfl
 | [],_ :: _,_,_,_,h=>by simp at h
 | _ :: _,[],_,_,_,h=>by simp at h
 | n :: ns,h :: b,e,r,hn,hl=>by
  have a:=nodup_cons.1 hn;rw [Lh,Lj f ns b _ r a.2 (by simpa using hl)];by_cases c:n=r
  ·subst c;have:idx ns n=none:=by
    cases d:idx ns n with
    | none=>rfl
    | some i=>exact (a.1 (dX (uq d))).elim
   rw [this];simp [idx,cV]
  ·simp only [idx,ak c];cases d:idx ns r with
   | none=>simp [cV,Ne.symm c]
   | some i=>simp
theorem acJ (f:Nat->Option Nat):∀ (ns:List Nat) (a:List D) (e:Env),(Lh f ns a e).t=e.t
 | [],_,_=>rfl
 | _ :: _,[],_=>rfl
 | n :: ns,h :: a,e=>by rw [Lh,acJ f ns a];rfl
theorem NM:∀ (gs:List Nat) (a:List D) (i r:Nat),gs.Nodup->gs.length<=a.length->gs[i]?=some r->(r∈j9 gs a ↔ a.getD i .undef=.undef)
 | [],_,i,r,_,_,h=>by simp at h
 | g :: gs,[],_,_,_,hl,_=>by simp at hl
 | g :: gs,h :: a,i,r,hn,hl,d=>by
  have c:=nodup_cons.1 hn;have e:∀ (gs:List Nat) (a:List D) (x:Nat),x∈j9 gs a->x∈gs:=by
   intro gs;induction gs with
   | nil=>intro a x b;cases a<;>simp [j9] at b
   | cons g gs f =>
    intro a x b;cases a with
    | nil=>simp [j9] at b
    | cons h a =>
     simp only [j9] at b;split at b
     ·rcases mem_cons.1 b with rfl | b
      ·simp
      ·exact mem_cons_of_mem _ (f a x b)
     ·exact mem_cons_of_mem _ (f a x b)
  cases i with
  | zero =>
   simp at d;subst d;simp only [j9,getD_cons_zero];cases h<;>simp [eG]<;>exact fun b=>c.1 (e _ _ _ b)
  | succ i =>
   simp only [getElem?_cons_succ] at d;have j:r≠g:=by rintro rfl;exact c.1 (dX d)
   have f:=NM gs a i r c.2 (by simpa using hl) d;simp only [j9,getD_cons_succ];split
   ·simp [j,f]
   ·exact f
theorem lX.mono {b lo e d a:Nat} (h:lX w w' b lo e) (h1:d<=lo) (h2:e<=a):lX w w' b d a:=by
 obtain ⟨c0,c,E,f,a2,a3,a4⟩:=h;exact ⟨c0,c,E,f,a2,a3,fun j hj=>a4 j (by omega)⟩
theorem Inv.call (h:Inv w0 l0 G S0 w lev own S env tm) {d:Nat} {f:List D} {v:Value} {dv:D} (hn:gs.Nodup) (U:∀ r∈gs,env.o r≠.undef) (M:∀ r∈kk d 0 (f.length-gs.length),env.o r=.undef)
  (am:gs.length<=f.length) (X:bw=true->qV dv/\∀ h∈f,vn h) (ho:Out gs.length f w (tH bw gs lev own) (qP gs S env.o) (Cb gs S) w' v dv) :
  ∃ lev' own' S',Inv w0 l0 G S0 w' lev' own' S' (gf env d gs f dv) (II tm d v):=by
 obtain ⟨aA,ai,aq,ah,N,ag,I,ac,S1,az,ay,ab,ap,Y⟩:=ho;obtain ⟨Sk,hk,as⟩:=h.jN (j9 gs f)
 -- the names
 have ad:(fB d gs f).Nodup:=by
  unfold fB;refine nodup_append.2 ⟨hn,G9 _ _ _,?_⟩;rintro a ha b p rfl;exact U a ha (M a p)
 have ao:(fB d gs f).length=f.length:=by simp [fB,Ox];omega
 -- the given blocks
 have hG:∀ b lo n,qP gs S env.o b=some (lo,n)->∃ r∈gs,own b=some r/\lev b=some 0/\Xv G w0.heap.size b lo n/\b < w.heap.size:=by
  intro b lo n p;obtain ⟨r,hr,u,q,au⟩:=IK p;obtain ⟨Z,e2,F,c,E,e4⟩:=(h.objs r).blk q au;exact ⟨r,hr,Z,e2,F,lt_of_block e4⟩
 let ns:=fB d gs f
 let old:Nat->Prop:=fun b=>b < w.heap.size/\qP gs S env.o b=none
 let lev':Nat->Option Nat:=fun b=>if b < w.heap.size/\qP gs S env.o b=none then lev b else I b
 let own':Nat->Option Nat:=fun b=>if b < w.heap.size/\qP gs S env.o b=none then own b else (ac b).bind (Nw ns)
 let S':Nat->Option Value:=fun r=>match idx ns r with
  | some i=>S1 i
  | none=>Sk r
 have ar:oa w lev w' lev':=by
  intro a u q;have g:=World.block_lt_of_cell? _ _ (ql q);have A:qP gs S env.o a.block=none:=by
   cases e:qP gs S env.o a.block with
   | none=>rfl
   | some x =>
    obtain ⟨lo,n⟩:=x;obtain ⟨r,hr,Z,e2,_⟩:=hG _ _ _ e;unfold vis at q;rw [e2] at q;simp at q
  unfold vis at q |-;simp only [lev',g,A,and_self,if_true];rw [World.cell?_of_block (w:=w) (N _ g A)];exact q
 have aj:∀ s u,Sk s=some u->S' s=some u:=by
  intro s u q;obtain ⟨K,L⟩:=as s u q;simp only [S'];cases H:idx ns s with
  | none=>exact q
  | some i =>
   have k:ns[i]?=some s:=uq H;have g:i < gs.length:=by
    rcases bZ i gs.length with g | hge
    ·exact g
    ·exfalso;simp only [ns,fB] at k;rw [getElem?_append_right hge] at k;have:=M s (dX k);rw [h.fresh this] at K;cases K
   have T:gs[i]?=some s:=by
    simp only [ns,fB] at k;rwa [getElem?_append_left g] at k
   have ae:f.getD i .undef≠.undef:=fun aF=>L ((NM gs f i s hn am T).2 aF);simp only;rw [Y i g ae];unfold Cb;rw [T];exact K
 -- what the call gives,in the caller's names
 have aa:∀ (u:Value) (x:D),aK (cx w' lev' S1) u x->aK (cx w' lev' S') u (x.kB (Nw ns)):=by
  intro u x H;refine aK.kB (C:=cx w' lev' S1) (C':=cx w' lev' S') (fun _ _ h=>h) H ?_;intro s _ t ht y hy;have:idx ns t=some s:=UY ad ht;simp only [cx,S',this];exact hy
 have hV:bw=false->oa w' I w' lev':=by
  intro p a u q;have:lev' a.block=I a.block:=by
   simp only [lev'];split
   ·rename_i hc;rw [ay _ hc.1 hc.2];unfold tH;split
    ·split<;>simp [p]
    ·rfl
   ·rfl
  unfold vis at q |-;rw [this];exact q
 have aw:aK (cx w' lev' S1) v dv:=by
  cases p:bw with
  | false=>exact ab.fV (hV p) fun _ _ _ h=>h
  | true=>exact (X p).1.rep ab
 have R:∀ (x:D),(∃ hh∈f,(∃ cs,hh=.box cs/\x∈cs)\/∃ z rows J,hh=.own z rows/\J∈rows/\x∈J)->∀ u,aK (cx w' I S1) u x->aK (cx w' lev' S1) u x:=by
  rintro x ⟨hh,hm,H⟩ u q;cases p:bw with
  | false=>exact q.fV (hV p) fun _ _ _ h=>h
  | true =>
   have hp:=(X p).2 hh hm;rcases H with ⟨cs,rfl,H⟩ | ⟨z,rows,J,rfl,hr,H⟩
   ·exact (hp x H).rep q
   ·exact (hp J hr x H).rep q
 have ax:∀ b lo n,Xv (qP gs S env.o) w.heap.size b lo n->Xv G w0.heap.size b lo n /\ ¬ old b:=by
  intro b lo n A;rcases A with A | ⟨l,m,A,K,L⟩
  ·exact ⟨.inl (Nat.le_trans h.size A),fun hc=>by have:=hc.1;omega⟩
  ·obtain ⟨r,hr,Z,e2,F,e4⟩:=hG _ _ _ A;exact ⟨F.mono K L,fun hc=>by have:=hc.2;rw [A] at this;cases this⟩
 refine ⟨lev',own',S',⟨aA.trans h.os.1,h.os.2⟩,ai.trans h.tape,aq.trans h.output,Nat.le_trans h.size ah,?_,?_,?_,?_,?_,?_,?_⟩
 ·intro b p A;have g:b < w.heap.size:=Nat.lt_of_lt_of_le p h.size;have:qP gs S env.o b=none:=by
   cases e:qP gs S env.o b with
   | none=>rfl
   | some x =>
    obtain ⟨lo,n⟩:=x;obtain ⟨r,hr,Z,e2,F,e4⟩:=hG _ _ _ e;rcases F with F | ⟨l,m,F,_⟩
    ·omega
    ·rw [A] at F;cases F
  exact (N b g this).trans (h.old b p A)
 ·intro b lo n A;have hp:=h.part b lo n A;refine hp.trans ?_;cases e:qP gs S env.o b with
  | none =>
   refine hp.of_same (N b ?_ e);obtain ⟨_,_,_,_,p,_⟩:=hp;exact lt_of_block p
  | some x =>
   obtain ⟨l,m⟩:=x;obtain ⟨r,hr,Z,e2,F,e4⟩:=hG _ _ _ e;rcases F with F | ⟨l',m',F,K,L⟩
   ·obtain ⟨c0,_,_,av,_⟩:=hp;have:=lt_of_block av;omega
   ·rw [A] at F;cases F;exact (ag b l m e).mono K L
 ·intro b m p;simp only [lev'] at p;split at p
  ·have:=h.priv b m p;omega
  ·exact az b m p
 ·intro b p A;have g:b < w.heap.size:=Nat.lt_of_lt_of_le p h.size;have:qP gs S env.o b=none:=by
   cases e:qP gs S env.o b with
   | none=>rfl
   | some x =>
    obtain ⟨lo,n⟩:=x;obtain ⟨r,hr,Z,e2,F,e4⟩:=hG _ _ _ e;rcases F with F | ⟨l,m,F,_⟩
    ·omega
    ·rw [A] at F;cases F
  simp only [lev',g,this,and_self,if_true];exact h.jZ b p A
 ·intro i n he;have Q:(Lh (Nw ns) ns f (xL (j9 gs f) env)).o i≠.undef:=he;rw [Lj _ _ _ _ _ ad ao] at Q;simp only [S'];cases H:idx ns i with
  | none =>
   rw [H] at Q;exact hk.UL i n Q
  | some j =>
   rw [H] at Q;have k:ns[j]?=some i:=uq H;have g:j < gs.length:=by
    rcases bZ j gs.length with g | hge
    ·exact g
    ·exfalso;simp only [ns,fB] at k;rw [getElem?_append_right hge] at k;obtain ⟨_,_,_,e⟩:=uD (dX k);have:=AG d;rw [e] at n;have:=AG d ‹_›;omega
   have T:gs[j]?=some i:=by
    simp only [ns,fB] at k;rwa [getElem?_append_left g] at k
   have ae:f.getD j .undef≠.undef:=by
    intro e;simp only [e,D.kB] at Q;exact Q rfl
   simp only;rw [Y j g ae];unfold Cb;rw [T];exact h.UL i n (U i (dX T))
 ·intro s;by_cases e:s=d
  ·subst e;simp only [gf,O6];simpa [II] using aa v dv aw
  ·simp only [gf];rw [tc e,acJ];have:II tm d v s=tm s:=by simp [II,e]
   rw [this];exact (hk.oC s).fV ar fun s _ u q=>aj s u q
 ·intro r;show lQ _ _ _ _ _ _ r ((Lh (Nw ns) ns f (xL (j9 gs f) env)).o r);rw [Lj _ _ _ _ _ ad ao];cases H:idx ns r with
  | none =>
   have af:=hk.objs r;have O:S' r=Sk r:=by simp only [S',H]
   have aD:r ∉ gs:=by
    intro hr;have:r∈ns:=mem_append_left _ hr;obtain ⟨i,n⟩:=aeK this;rw [H] at n;cases n
   refine af.keep ar (fun s _ u q=>aj s u q) (fun hd=>by rw [hd] at af;rw [O];exact af) ?_;intro b p hl;have g:=h.priv b 0 hl;have A:qP gs S env.o b=none:=by
    cases e:qP gs S env.o b with
    | none=>rfl
    | some x =>
     obtain ⟨lo,n⟩:=x;obtain ⟨r',aC,Z,_⟩:=hG _ _ _ e;rw [p] at Z;cases Z;exact (aD aC).elim
   refine ⟨N b g A,?_,?_⟩
   ·simp only [lev',g,A,and_self,if_true]
   ·simp only [own',g,A,and_self,if_true]
  | some i =>
   have k:ns[i]?=some r:=uq H;have O:S' r=S1 i:=by simp only [S',H]
   have W:=ap i;have V:f.getD i .undef≠.undef->f.getD i .undef∈f:=by
    intro an;rcases bZ i f.length with g | hge
    ·rw [show f.getD i .undef=f[i] by simp [getD,g]];exact ck g
    ·rw [show f.getD i .undef=.undef by simp [getD,hge]] at an;exact (an rfl).elim
   have al:∀ b lo n,Xv (qP gs S env.o) w.heap.size b lo n->ac b=some i->lev' b=I b/\own' b=some r/\Xv G w0.heap.size b lo n:=by
    intro b lo n A p;obtain ⟨K,L⟩:=ax b lo n A;refine ⟨ak L,?_,K⟩;simp only [own'];rw [ak L,p];exact k
   show lQ _ _ _ _ _ _ r ((f.getD i .undef).kB (Nw ns));generalize hgd:f.getD i .undef=x at W V |-;cases x<;>try exact W.elim
   ·simp only [D.kB];show S' r=none;rw [O];exact W
   ·rename_i z rows;have hm:=V (by simp);simp only [D.kB];rcases W with ⟨a,K,L⟩ | ⟨b,c,E,cap,K,L,h3,h4,h5,h6,h7,h8,h9,h10⟩
    ·exact .inl ⟨a,O.trans K,L⟩
    ·obtain ⟨g1,g2,g3⟩:=al b _ _ h9 h8;refine .inr ⟨b,c,E,cap,O.trans K,L,h3,h4,h5,h6,g1.trans h7,g2,g3,?_⟩;intro i' j J y n hj;obtain ⟨u,q,aE⟩:=h10 i' j J y n hj;have aB:=h6 J (dX n) y (dX hj);have:=R y ⟨_,hm,.inr ⟨z,rows,J,rfl,dX n,dX hj⟩⟩ u aE;exact ⟨u,q,this.fV (.refl _ _) (by rw [aB.2];simp)⟩
   ·rename_i cs;have hm:=V (by simp);simp only [D.kB];obtain ⟨b,o,c,E,K,L,h3,h4,h5,h6,h7⟩:=W;obtain ⟨g1,g2,g3⟩:=al b _ _ h6 h5;rw [Lq];refine ⟨b,o,c,E,O.trans K,L,by simpa using h3,g1.trans h4,g2,by simpa using g3,?_⟩;intro j u e q he;simp only [getElem?_map] at he;cases hy:cs[j]? with
    | none=>rw [hy] at he;cases he
    | some y =>
     rw [hy] at he;cases he;exact aa u y (R y ⟨_,hm,.inl ⟨cs,rfl,dX hy⟩⟩ u (h7 j u y q hy))
end
end Go.Abs
namespace Go.Abs
open List
def pI (b:Bool) (x d:D):D:=if b then x else d
mutual
def me (o:D) (r:Nat):D->D
 | .fn g cs=>.fn g (vV o r cs)
 | .agg cs=>.agg (vV o r cs)
 | .bT cs=>.bT (vV o r cs)
 | .box cs=>.box (vV o r cs)
 | .ref s=>pI (s==r) (sI o) (.ref s)
 | .addr s off=>pI (s==r) (mL oX off o) (.addr s off)
 | .bX s z i k=>pI (s==r) (ug z i k o) (.bX s z i k)
 | .eC s z l n=>pI (s==r) (mM z l n o) (.eC s z l n)
 | .bW s off z n c=>pI (s==r) (gS off z n o) (.bW s off z n c)
 | d=>d
def vV (o:D) (r:Nat):List D->List D
 | []=>[]
 | d :: l=>me o r d :: vV o r l
end
theorem Dv (o:D) (r:Nat):∀ cs:List D,vV o r cs=cs.map (me o r)
 | []=>rfl
 | d :: l=>by rw [vV,Dv o r l];rfl
def Du (r:Nat) (e:Env):Env:=⟨fun j=>me (e.o r) r (e.t j),fun j=>if j=r then .undef else me (e.o r) r (e.o j)⟩
def fD:List Nat->Env->Env
 | [],e=>e
 | r :: rs,e=>fD rs (Du r e)
variable {b i r cap:Nat} {rows:List (List D)} {a:List D}
section
variable {P:Program} {w0 w w':World} {l0:Nat->Option Nat} {G:Nat->Option (Nat × Nat)} {S0:Nat->Option Value} {lev lev' own own':Nat->Option Nat} {S S':Nat->Option Value} {env env':Env} {tm tm':Nat->Value} {B:Nat}
def rB (S:Nat->Option Value) (env:Env) (r:Nat):Option Nat:=((S r).bind fun v=>qH v (env.o r)).map (·.1)
def sD (lev:Nat->Option Nat) (x:Option Nat):Nat->Option Nat:=fun b=>if x=some b then none else lev b
theorem B6 (x:Option Nat):oa w lev w (sD lev x):=by
 intro a u c;have d:=ql c;unfold vis at c |-;unfold sD;by_cases h:x=some a.block
 ·rw [aq h];exact d
 ·rw [ak h];exact c
theorem yy {x:Option Nat} (d:x=some b) {u:Value} (c:w.cell? ⟨b,i,none⟩=some u):vis w (sD lev x) ⟨b,i,none⟩=some u:=by
 unfold vis sD;simp only [d,if_true];exact c
theorem Rp {o:Nat} {cs:List D} (c:S r=some (.pointer (some ⟨b,o,none⟩))) (d:env.o r=.box cs):rB S env r=some b:=by simp [rB,c,d,qH]
theorem Jx {z len:Nat} (c:S r=some (.slice (some ⟨b,0,none⟩) len cap)) (e:env.o r=.own z rows) (d:cap≠0):rB S env r=some b:=by simp [rB,c,e,qH,d]
theorem Ts (c:rows[i]?=some a) (hl:rows.length<=cap):cap≠0:=by
 have:=(fA.1 c).1;omega
theorem abq (h:Inv w0 l0 G S0 w lev own S env tm) (r:Nat) (S':Nat->Option Value) :
  (∀ v,aK (cx w lev S) v (.ref r)->aK (cx w (sD lev (rB S env r)) S') v (sI (env.o r))) /\
  (∀ off v,aK (cx w lev S) v (.addr r off)->aK (cx w (sD lev (rB S env r)) S') v (mL oX off (env.o r))) /\
  (∀ z i j v,aK (cx w lev S) v (.bX r z i j)->aK (cx w (sD lev (rB S env r)) S') v (ug z i j (env.o r))) /\
  (∀ z lo len v,aK (cx w lev S) v (.eC r z lo len)->aK (cx w (sD lev (rB S env r)) S') v (mM z lo len (env.o r))) /\
  (∀ off z len cap v,aK (cx w lev S) v (.bW r off z len cap)->aK (cx w (sD lev (rB S env r)) S') v (gS off z len (env.o r))):=by
 have H:=h.objs r;have D:=B6 (w:=w) (lev:=lev) (rB S env r);refine ⟨?_,?_,?_,?_,?_⟩
 ·intro v hr;obtain ⟨k,a,len,cap,rfl⟩:=hr.nS;simp only [cx] at k;cases t:env.o r<;>rw [t] at H<;>simp only [sI]<;>(try exact .undef _);rename_i z rows;rcases H with ⟨O,l,rfl⟩ | ⟨b,c,E,n,l,I,h3,K,Q,F,R,h8,h9,h10⟩
  ·rw [k] at l;cases l;cases a with
   | none=>exact .slnil _
   | some ad=>exact kq (rows:=[]) (by simp) (by simp) (by simp) (by simp)
  ·rw [k] at l;cases l;refine kq K Q F ?_;intro i j f x g p;obtain ⟨u,Y,C⟩:=h10 i j f x g p;refine ⟨u,?_,C.fV D (by rw [(F f (dX g) x (dX p)).2];simp)⟩;rw [fX,Nat.zero_add];exact yy (Jx k t (Ts g K)) (by rw [j8 w b _ I];exact Y)
 ·intro off v hr;obtain ⟨a,k,rfl⟩:=hr.jJ;simp only [cx] at k;cases t:env.o r<;>rw [t] at H<;>simp only [mL]<;>(try exact .undef _);rename_i cs;obtain ⟨b,o,c,E,l,I,h3,K,Q,F,R⟩:=H;rw [k] at l;cases l;refine mQ (by intro d aa;obtain ⟨x,_,rfl⟩:=mem_map.1 aa;exact DV _) ?_;intro j x p;simp only [getElem?_map,getElem?_drop] at p;cases e:cs[off+j]? with
  | none=>rw [e] at p;cases p
  | some y =>
   rw [e] at p;cases p;have A:o+(off+j) < c.size:=by have:=(fA.1 e).1;omega
   refine ⟨c[o+(off+j)],?_,?_⟩
   ·rw [add_add,fX];refine yy (Rp k t) ?_;rw [j8 w b _ I];simp [A]
   ·have hy:=R (off+j) c[o+(off+j)] y (by simp [A]) e;unfold oX;split
    ·rename_i hn;have ac:y.names=[]:=by simpa using hn
     exact hy.fV D (by rw [ac];simp)
    ·exact .undef _
 ·intro z i j v hr;obtain ⟨a,len,cap,k,rfl⟩:=hr.lH;simp only [cx] at k;cases t:env.o r<;>rw [t] at H<;>simp only [ug]<;>(try exact .undef _);rename_i z' rows;split
  ·rename_i T;obtain ⟨rfl,g⟩:=T;rcases H with ⟨O,l,rfl⟩ | ⟨b,c,E,n,l,I,h3,K,Q,F,R,h8,h9,h10⟩
   ·simp at g
   ·rw [k] at l;cases l;have q:rows.getD i []=rows[i]:=by simp [getD,g]
    rw [q];refine mQ (fun x Z=>(F _ (ck g) x (mem_of_mem_drop Z)).2) ?_;intro m x N;rw [getElem?_drop] at N;obtain ⟨u,Y,C⟩:=h10 i (j+m) rows[i] x (fO g) N;refine ⟨u,?_,C.fV D (by rw [(F _ (ck g) x (dX N)).2];simp)⟩;rw [add_add,fX];refine yy (Jx k t (by omega)) ?_;rw [j8 w b _ I,<- Y];congr 1;omega
  ·exact .undef _
 ·intro z lo len v hr;obtain ⟨a,O,L,cap,n,k,rfl,q1,q2,q3⟩:=hr.mz;simp only [cx] at k;cases t:env.o r<;>rw [t] at H<;>simp only [mM]<;>(try exact .undef _);rename_i z' rows;split
  ·rename_i T;obtain ⟨rfl,W⟩:=T;have hl:((rows.drop lo).take len).length=len:=by simp;omega
   by_cases U:len=0
   ·subst U;have e0:(rows.drop lo).take 0=[]:=by simp
    rw [e0];cases O with
    | none=>rw [q3 rfl];exact .slnil _
    | some ad=>exact kq (rows:=[]) (by simp) (by simp) (by simp) (by simp)
   obtain ⟨b0,rfl,rfl⟩:=q1 U;rcases H with ⟨O,l,rfl⟩ | ⟨b,c,E,cap2,l,I,h3,K,Q,F,R,h8,h9,h10⟩
   ·simp at W;omega
   ·rw [k] at l;cases l;have:=kq (V:=cx w (sD lev (rB S env r)) S') (z:=z') (rows:=(rows.drop lo).take len) (a:=(⟨b,0,none⟩:Addr).add (lo*z')) (cap:=n) (by rw [hl];exact q2)
     (fun r hr=>Q r (mem_of_mem_drop (mem_of_mem_take hr))) (fun r hr=>F r (mem_of_mem_drop (mem_of_mem_take hr))) (by
      intro i j f x g p;have s:i < len:=by have:=(fA.1 g).1;rw [hl] at this;exact this
      rw [getElem?_take_of_lt s,getElem?_drop] at g;obtain ⟨u,Y,C⟩:=h10 (lo+i) j f x g p;refine ⟨u,?_,C.fV D (by rw [(F _ (dX g) x (dX p)).2];simp)⟩;rw [add_add,fX];refine yy (Jx k t (Ts g K)) ?_;rw [j8 w b _ I,<- Y]
      congr 1;rw [Nat.add_mul];omega)
    rw [hl] at this;exact this
  ·exact .undef _
 ·intro off z len bcap v hr;obtain ⟨a,O,n,k,rfl,q1,q2,q3⟩:=hr.gv;simp only [cx] at k;cases t:env.o r<;>rw [t] at H<;>simp only [gS]<;>(try exact .undef _);rename_i cs;split
  ·rename_i T;simp only [Bool.and_eq_true,bL,dn] at T;obtain ⟨hp,hle⟩:=T;by_cases U:len=0
   ·subst U;simp only [rowsOf];cases O with
    | none=>rw [q3.1 rfl];exact .slnil _
    | some ad=>exact kq (rows:=[]) (by simp) (by simp) (by simp) (by simp)
   have ha:=q1 U;subst ha;obtain ⟨b,o,c,E,l,I,h3,K,Q,F,R⟩:=H;rw [k] at l;cases l;have M:∀ (i:Nat) f,(rowsOf z len (cs.drop off))[i]?=some f->i < len/\f=((cs.drop off).drop (i*z)).take z:=by
    intro i f g;have:=(fA.1 g).1;rw [gZ] at this;exact ⟨this,o9 _ _ _ _ _ g⟩
   have J:∀ i,i < len->∀ x∈((cs.drop off).drop (i*z)).take z,x∈(cs.drop off).take (len*z):=by
    intro i g x Z;obtain ⟨m,N⟩:=mem_iff_getElem?.1 Z;have X:m < z:=by have:=(fA.1 N).1;simp at this;omega
    rw [getElem?_take_of_lt X,getElem?_drop] at N;refine dX (i:=i*z+m) ?_;rw [getElem?_take_of_lt (qx X g)];exact N
   have:=kq (V:=cx w (sD lev (rB S env r)) S') (z:=z) (rows:=rowsOf z len (cs.drop off)) (a:=(⟨b,o,none⟩:Addr).add off) (cap:=n) (by rw [gZ];exact q2)
    (by
     intro f q;obtain ⟨i,g⟩:=mem_iff_getElem?.1 q;obtain ⟨s,rfl⟩:=M i f g;have:(i+1)*z<=len*z:=l6 z s;rw [Nat.succ_mul] at this
     simp;omega)
    (by
     intro f q x Z;obtain ⟨i,g⟩:=mem_iff_getElem?.1 q;obtain ⟨s,rfl⟩:=M i f g
     exact yL (hp x (J i s x Z)))
    (by
     intro i j f x g p;obtain ⟨s,rfl⟩:=M i f g;have ae:=yL (hp x (J i s x (dX p)));have ab:j < z:=by have:=(fA.1 p).1;simp at this;omega
     rw [getElem?_take_of_lt ab,getElem?_drop,getElem?_drop] at p;have A:o+(off+(i*z+j)) < c.size:=by have:=(fA.1 p).1;omega
     refine ⟨c[o+(off+(i*z+j))],?_,(R _ _ x (by simp [A]) p).fV D (by rw [ae.2];simp)⟩;rw [add_add,fX]
     exact yy (Rp k t) (by rw [j8 w b _ I];simp [A]))
   rw [gZ] at this;exact this
  ·exact .undef _
theorem PS (h:Inv w0 l0 G S0 w lev own S env tm) (r:Nat) {v:Value} {d:D} (hr:aK (cx w lev S) v d):aK (cx w (sD lev (rB S env r)) (jm S r none)) v (me (env.o r) r d):=by
 obtain ⟨J,K,M,N,O⟩:=abq h r (jm S r none);have F:=B6 (w:=w) (lev:=lev) (rB S env r);have same:∀ {v:Value} {d:D},aK (cx w lev S) v d->r ∉ d.names->aK (cx w (sD lev (rB S env r)) (jm S r none)) v d:=by
  intro v d hr E;refine hr.fV F ?_;intro s c u I;rw [fm _ _ (by rintro rfl;exact E c)];exact I
 have q:∀ (vs:Array Value) (ds:List D),vs.size=ds.length->(∀ (i:Nat) v d,vs[i]?=some v->ds[i]?=some d->aK (cx w (sD lev (rB S env r)) (jm S r none)) v (me (env.o r) r d)) ->
   vs.size=(vV (env.o r) r ds).length/\∀ (i:Nat) v d,vs[i]?=some v->(vV (env.o r) r ds)[i]?=some d->aK (cx w (sD lev (rB S env r)) (jm S r none)) v d:=by
  intro vs ds l p;rw [Dv];refine ⟨by simpa using l,?_⟩;intro i v d H A;simp only [getElem?_map] at A;cases e:ds[i]? with
  | none=>rw [e] at A;cases A
  | some x=>rw [e] at A;cases A;exact p i v x H e
 generalize m:cx w lev S=C at hr;induction hr with
 | fn g vs ds l _ p=>obtain ⟨j,y⟩:=q vs ds l p;simp only [me];exact .fn g vs _ j y
 | agg vs ds l _ p=>obtain ⟨j,y⟩:=q vs ds l p;simp only [me];exact .agg vs _ j y
 | bT vs ds l _ p=>obtain ⟨j,y⟩:=q vs ds l p;simp only [me];exact .bT vs _ j y
 | undef v=>exact .undef v
 | bool b=>exact .bool b
 | int k n=>exact .int k n
 | str s=>exact .str s
 | nil=>exact .nil
 | emp a=>exact .emp a
 | kP=>exact .kP
 | gl=>exact .gl
 | gR t v=>exact .gR t v
 | j4=>exact .j4
 | slnil z=>exact .slnil z
 | sl z a cap rows f l hz hk hc j _=>subst m;exact same (d:=.sl z rows) (.sl z a cap rows f l hz hk hc j) (by simp [D.names])
 | bq a cs f E hc j _=>subst m;exact same (d:=.bq cs) (.bq a cs f E hc j) (by simp [D.names])
 | ref s a len cap c =>
  subst m;simp only [me,pI];by_cases e:s=r
  ·subst e;simp only [beq_self_eq_true,if_true];exact J _ (.ref s a len cap c)
  ·have:(s==r)=false:=by simpa using e
   simp only [this,Bool.false_eq_true,if_false];exact same (.ref s a len cap c) (by simp [D.names,Ne.symm e])
 | addr s off a c =>
  subst m;simp only [me,pI];by_cases e:s=r
  ·subst e;simp only [beq_self_eq_true,if_true];exact K off _ (.addr s off a c)
  ·have:(s==r)=false:=by simpa using e
   simp only [this,Bool.false_eq_true,if_false];exact same (.addr s off a c) (by simp [D.names,Ne.symm e])
 | bX s z i k a len cap c =>
  subst m;simp only [me,pI];by_cases e:s=r
  ·subst e;simp only [beq_self_eq_true,if_true];exact M z i k _ (.bX s z i k a len cap c)
  ·have:(s==r)=false:=by simpa using e
   simp only [this,Bool.false_eq_true,if_false];exact same (.bX s z i k a len cap c) (by simp [D.names,Ne.symm e])
 | eC s z lo len a a' L cap cap' c q1 q2 q3 =>
  subst m;simp only [me,pI];by_cases e:s=r
  ·subst e;simp only [beq_self_eq_true,if_true];exact N z lo len _ (.eC s z lo len a a' L cap cap' c q1 q2 q3)
  ·have:(s==r)=false:=by simpa using e
   simp only [this,Bool.false_eq_true,if_false];exact same (.eC s z lo len a a' L cap cap' c q1 q2 q3) (by simp [D.names,Ne.symm e])
 | bW s off z len cap a a' c q1 q2 =>
  subst m;simp only [me,pI];by_cases e:s=r
  ·subst e;simp only [beq_self_eq_true,if_true];exact O off z len cap _ (.bW s off z len cap a a' c q1 q2)
  ·have:(s==r)=false:=by simpa using e
   simp only [this,Bool.false_eq_true,if_false];exact same (.bW s off z len cap a a' c q1 q2) (by simp [D.names,Ne.symm e])
theorem Inv.frz (h:Inv w0 l0 G S0 w lev own S env tm) (r:Nat):Inv w0 l0 G S0 w (sD lev (rB S env r)) own (jm S r none) (Du r env) tm\/env.o r=.undef:=by
 by_cases q:env.o r=.undef
 ·exact .inr q
 left;have A:∀ b k,own b=some k->k≠r->rB S env r≠some b:=by
  intro b k f e d;unfold rB at d;cases n:S r with
  | none=>rw [n] at d;cases d
  | some v =>
   rw [n] at d;simp only [Option.bind_some] at d;cases p:qH v (env.o r) with
   | none=>rw [p] at d;cases d
   | some y =>
    obtain ⟨N,lo,I⟩:=y;rw [p] at d;simp only [Option.map_some,ny] at d;subst d;obtain ⟨H,_⟩:=(h.objs r).blk n p;rw [f] at H;cases H;exact e rfl
 refine ⟨h.os,h.tape,h.output,h.size,h.old,h.part,?_,?_,?_,?_,?_⟩
 ·intro b m f;unfold sD at f;split at f
  ·cases f
  ·exact h.priv b m f
 ·intro b f M;unfold sD;split
  ·rename_i d;exfalso;unfold rB at d;cases n:S r with
   | none=>rw [n] at d;cases d
   | some v =>
    rw [n] at d;simp only [Option.bind_some] at d;cases p:qH v (env.o r) with
    | none=>rw [p] at d;cases d
    | some y =>
     obtain ⟨N,lo,I⟩:=y;rw [p] at d;simp only [Option.map_some,ny] at d;subst d;obtain ⟨_,_,g,_⟩:=(h.objs r).blk n p;rcases g with g | ⟨l,m,g,_⟩
     ·omega
     ·rw [M] at g;cases g
  ·exact h.jZ b f M
 ·intro i I t;simp only [Du] at t;by_cases e:i=r
  ·rw [aq e] at t;exact (t rfl).elim
  ·rw [ak e] at t;rw [fm _ _ e];refine h.UL i I ?_;intro F;rw [F] at t;exact t rfl
 ·intro s;exact PS h r (h.oC s)
 ·intro k;by_cases e:k=r
  ·subst e;simp only [Du,if_true];exact dh _ _ _
  ·simp only [Du,e,if_false];have C:=h.objs k;cases U:env.o k<;>rw [U] at C<;>try exact C.elim
   ·simp only [me];show jm S r none k=none;rw [fm _ _ e];exact C
   ·rename_i z rows;simp only [me];refine C.keep (B6 _) ?_ (fun h=>by cases h) ?_
    ·intro s J u F;rcases J with rfl | J
     ·rw [fm _ _ e];exact F
     ·simp [D.names] at J
    ·intro b f hl;refine ⟨rfl,?_,rfl⟩;unfold sD;rw [ak (A b k f e)]
   ·rename_i cs;simp only [me];obtain ⟨b,o,c,E,H,O,g,Q,L,R,T⟩:=C;rw [Dv];refine ⟨b,o,c,E,by rw [fm _ _ e];exact H,O,by simpa using g,?_,L,by simpa using R,?_⟩
    ·unfold sD;rw [ak (A b k L e)];exact Q
    ·intro j u x F d;simp only [getElem?_map] at d;cases K:cs[j]? with
     | none=>rw [K] at d;cases d
     | some y=>rw [K] at d;cases d;exact PS h r (T j u y F K)
theorem Inv.abp:∀ (p:List Nat) {lev:Nat->Option Nat} {S:Nat->Option Value} {env:Env},Inv w0 l0 G S0 w lev own S env tm->(∀ r∈p,True)->∃ lev' S',Inv w0 l0 G S0 w lev' own S' (fD p env) tm
 | [],lev,S,env,h,_=>⟨lev,S,h⟩
 | k :: p,lev,S,env,h,hk=>by
  by_cases A:env.o k=.undef
  ·-- nothing is let go: what names it is forgotten
   have q:=h.fresh A;have f:Inv w0 l0 G S0 w lev own S (Du k env) tm:=by
    have m:∀ {v:Value} {d:D},aK (cx w lev S) v d->aK (cx w lev S) v (me (env.o k) k d):=by
     intro v d hr;have:=PS h k hr;have C:sD lev (rB S env k)=lev:=by
      funext b;unfold sD rB;rw [q];simp
     have e2:jm S k none=S:=by
      funext s;by_cases e:s=k
      ·subst e;rw [dh,q]
      ·exact fm _ _ e
     rw [C,e2] at this;exact this
    refine ⟨h.os,h.tape,h.output,h.size,h.old,h.part,h.priv,h.jZ,?_,fun s=>m (h.oC s),?_⟩
    ·intro i f l;simp only [Du] at l;split at l
     ·exact (l rfl).elim
     ·refine h.UL i f ?_;intro g;rw [g] at l;exact l rfl
    ·intro s;simp only [Du];split
     ·rename_i e;subst e;exact q
     ·have n:=h.objs s;cases N:env.o s<;>rw [N] at n<;>try exact n.elim
      ·exact n
      ·exact n
      ·rename_i cs;simp only [me];obtain ⟨b,o,c,E,F,H,I,J,K,L,M⟩:=n;rw [Dv];refine ⟨b,o,c,E,F,H,by simpa using I,J,K,by simpa using L,?_⟩;intro j u x t g;simp only [getElem?_map] at g;cases z:cs[j]? with
       | none=>rw [z] at g;cases g
       | some y=>rw [z] at g;cases g;exact m (M j u y t z)
   exact Inv.abp p f (fun _ _=>trivial)
  ·rcases h.frz k with f | f
   ·exact Inv.abp p f (fun _ _=>trivial)
   ·exact (A f).elim
end
end Go.Abs
namespace Go.Abs
mutual
/-- what is known by d (with the elder names) is known by d' (with the new ones): rho tells the elder name of a new one, none: of an empty slice that was nil; e: is the new name alive? -/
def jU (lI:Nat->Option Nat) (e:Nat->Bool):D->D->Prop
 | _,.undef=>True
 | .ref r,.ref s=>lI s=some r/\e s=true
 | .nil,.ref s=>lI s=none/\e s=true
 | .addr r o,.addr s o'=>lI s=some r/\e s=true/\o=o'
 | .bX r z i k,.bX s z' i' k'=>lI s=some r/\e s=true/\z=z'/\i=i'/\k=k'
 | .eC r z l m,.eC s z' l' m'=>lI s=some r/\e s=true/\z=z'/\l=l'/\m=m'
 | .bW r o z m c,.bW s o' z' m' c'=>lI s=some r/\e s=true/\o=o'/\z=z'/\m=m'/\c=c'
 | .agg a,.agg b=>kM lI e a b
 | .bT a,.bT b=>kM lI e a b
 | .fn f a,.fn g b=>f=g/\kM lI e a b
 | .nil,.sl _ rows=>rows=[]
 | .nil,.emp=>True
 | .nil,.nil=>True
 | .emp,.emp=>True
 | .kP,.kP=>True
 | .gl,.gl=>True
 | .gR,.gR=>True
 | .j4,.j4=>True
 | .bool a,.bool b=>a=b
 | .int k a,.int k' b=>k=k'/\a=b
 | .str a,.str b=>a=b
 | .sl z a,.sl z' b=>z=z'/\a=b
 | .bq a,.bq b=>a=b
 | _,_=>False
def kM (lI:Nat->Option Nat) (c:Nat->Bool):List D->List D->Prop
 | [],[]=>True
 | a :: x,b :: y=>jU lI c a b/\kM lI c x y
 | _,_=>False
end
theorem DG {lI:Nat->Option Nat} {e:Nat->Bool}:∀ {a b:List D},kM lI e a b->a.length=b.length/\∀ (i:Nat) x y,a[i]?=some x->b[i]?=some y->jU lI e x y
 | [],[],_=>⟨rfl,fun i x y h=>by simp at h⟩
 | [],_ :: _,h=>by simp [kM] at h
 | _ :: _,[],h=>by simp [kM] at h
 | a :: x,b :: y,h=>by
  simp only [kM] at h;obtain ⟨f,g⟩:=DG h.2;refine ⟨by simp [f],?_⟩;intro i u v c d;cases i with
  | zero=>simp at c d;subst c;subst d;exact h.1
  | succ i=>simp at c d;exact g i u v c d
def Yu (lI:Nat->Option Nat) (c:Nat->Bool):D->D->Prop
 | .box a,.box b=>kM lI c a b
 | .own z a,.own z' b=>z=z'/\a=b
 | _,_=>False
theorem jU.rep {C C':Cx} {lI:Nat->Option Nat} {y:Nat->Bool} (E:∀ a v,C.V a=some v->C'.V a=some v) (q:∀ s r,lI s=some r->y s=true->∀ u,C.S r=some u->C'.S s=some u) (F:∀ s,lI s=none->y s=true->C'.S s=some (.slice none 0 0))
  {v:Value} {d:D} (r:aK C v d):∀ {e:D},jU lI y d e->aK C' v e:=by
 have p:∀ (vs:Array Value) (ds:List D) (l:List D),vs.size=ds.length->(∀ (i:Nat) v d,vs[i]?=some v->ds[i]?=some d->∀ {e:D},jU lI y d e->aK C' v e)->kM lI y ds l ->
   vs.size=l.length/\∀ (i:Nat) v d,vs[i]?=some v->l[i]?=some d->aK C' v d:=by
  intro vs ds l m o A;obtain ⟨g,j⟩:=DG A;refine ⟨m.trans g,?_⟩;intro i v d H c;have x:i < ds.length:=by rw [g];exact (fA.1 c).1
  exact o i v _ H (fO x) (j i _ d (fO x) c)
 induction r with
 | fn f vs ds m h o=>intro e c;cases e<;>simp only [jU] at c<;>first | exact .undef _ | exact c.elim | skip;(obtain ⟨rfl,c⟩:=c;obtain ⟨g,j⟩:=p vs ds _ m o c;exact .fn f vs _ g j)
 | agg vs ds m h o=>intro e c;cases e<;>simp only [jU] at c<;>first | exact .undef _ | exact c.elim | skip;(obtain ⟨g,j⟩:=p vs ds _ m o c;exact .agg vs _ g j)
 | bT vs ds m h o=>intro e c;cases e<;>simp only [jU] at c<;>first | exact .undef _ | exact c.elim | skip;(obtain ⟨g,j⟩:=p vs ds _ m o c;exact .bT vs _ g j)
 | undef v=>intro e c;cases e<;>simp only [jU] at c<;>first | exact .undef _ | exact c.elim
 | bool b=>intro e c;cases e<;>simp only [jU] at c<;>first | exact .undef _ | exact c.elim | (subst c;exact .bool _)
 | int k n=>intro e c;cases e<;>simp only [jU] at c<;>first | exact .undef _ | exact c.elim | (obtain ⟨rfl,rfl⟩:=c;exact .int _ _)
 | str s=>intro e c;cases e<;>simp only [jU] at c<;>first | exact .undef _ | exact c.elim | (subst c;exact .str _)
 | nil =>
  intro e c;cases e<;>simp only [jU] at c<;>first | exact .undef _ | exact c.elim | exact .nil | exact .emp _ | skip
  ·subst c;exact .slnil _
  ·exact .ref _ none 0 0 (F _ c.1 c.2)
 | emp a=>intro e c;cases e<;>simp only [jU] at c<;>first | exact .undef _ | exact c.elim | exact .emp _
 | kP=>intro e c;cases e<;>simp only [jU] at c<;>first | exact .undef _ | exact c.elim | exact .kP
 | gl=>intro e c;cases e<;>simp only [jU] at c<;>first | exact .undef _ | exact c.elim | exact .gl
 | gR t v=>intro e c;cases e<;>simp only [jU] at c<;>first | exact .undef _ | exact c.elim | exact .gR _ _
 | j4=>intro e c;cases e<;>simp only [jU] at c<;>first | exact .undef _ | exact c.elim | exact .j4
 | slnil z=>intro e c;cases e<;>simp only [jU] at c<;>first | exact .undef _ | exact c.elim | (obtain ⟨rfl,rfl⟩:=c;exact .slnil _)
 | sl z a cap rows f m hz hk hc g _ =>
  intro e c;cases e<;>simp only [jU] at c<;>first | exact .undef _ | exact c.elim | skip
  obtain ⟨rfl,rfl⟩:=c;exact aK.keep (d:=.sl z rows) E (.sl z a cap rows f m hz hk hc g) (fun s B=>by simp [D.names] at B)
 | bq a cs f hn hc g _ =>
  intro e c;cases e<;>simp only [jU] at c<;>first | exact .undef _ | exact c.elim | skip
  subst c;exact aK.keep (d:=.bq cs) E (.bq a cs f hn hc g) (fun s B=>by simp [D.names] at B)
 | ref r a len cap h=>intro e c;cases e<;>simp only [jU] at c<;>first | exact .undef _ | exact c.elim | exact .ref _ a len cap (q _ _ c.1 c.2 _ h)
 | addr r off a h=>intro e c;cases e<;>simp only [jU] at c<;>first | exact .undef _ | exact c.elim | (obtain ⟨g,j,rfl⟩:=c;exact .addr _ _ a (q _ _ g j _ h))
 | bX r z i k a len cap h=>intro e c;cases e<;>simp only [jU] at c<;>first | exact .undef _ | exact c.elim | (obtain ⟨g,j,rfl,rfl,rfl⟩:=c;exact .bX _ _ _ _ a len cap (q _ _ g j _ h))
 | eC r z lo len a a' L cap cap' h q1 q2 q3=>intro e c;cases e<;>simp only [jU] at c<;>first | exact .undef _ | exact c.elim | (obtain ⟨g,j,rfl,rfl,rfl⟩:=c;exact .eC _ _ _ _ a a' L cap cap' (q _ _ g j _ h) q1 q2 q3)
 | bW r off z len cap a a' h q1 q2=>intro e c;cases e<;>simp only [jU] at c<;>first | exact .undef _ | exact c.elim | (obtain ⟨g,j,rfl,rfl,rfl,rfl⟩:=c;exact .bW _ _ _ _ _ a a' (q _ _ g j _ h) q1 q2)
structure LeE (m:Nat) (lI:Nat->Option Nat) (e E:Env):Prop where
 oC:∀ j,jU lI (fun s=>!eG (E.o s)) (e.t j) (E.t j)
 objs:∀ s,E.o s≠.undef->match lI s with
  | some r=>Yu lI (fun s=>!eG (E.o s)) (e.o r) (E.o s)
  | none=>∃ z,E.o s=.own z []
 inj:∀ s s' r,E.o s≠.undef->E.o s'≠.undef->lI s=some r->lI s'=some r->s=s'
 UL:∀ s,s < m->E.o s≠.undef->lI s=some s
theorem xJ {d:D}:eG d=true ↔ d=.undef:=by cases d<;>simp [eG]
section
variable {P:Program} {w0 w w':World} {l0:Nat->Option Nat} {G:Nat->Option (Nat × Nat)} {S0:Nat->Option Value} {lev lev' own own':Nat->Option Nat} {S S':Nat->Option Value} {env env':Env} {tm tm':Nat->Value}
theorem Inv.aoM {m:Nat} (hm:m<=16) {lI:Nat->Option Nat} {E:Env} (h:Inv w0 l0 G S0 w lev own S env tm) (K:LeE m lI env E):∃ own' S',(∀ i,i < m->E.o i≠.undef->S' i=S0 i)/\(∀ s,aK (cx w lev S') (tm s) (E.t s))/\∀ r,lQ w0.heap.size G w lev own' S' r (E.o r):=by
 let S':Nat->Option Value:=fun s=>if eG (E.o s) then none else match lI s with
  | some r=>S r
  | none=>some (.slice none 0 0)
 let own':Nat->Option Nat:=fun b=>(own b).bind fun r=>open Classical in if h:∃ s,E.o s≠.undef/\lI s=some r then some (Classical.choose h) else none
 have O:∀ s r,lI s=some r->(!eG (E.o s))=true->∀ u,S r=some u->S' s=some u:=by
  intro s r hr f u p;simp only [iK] at f;simp only [S',f,hr,Bool.false_eq_true,if_false];exact p
 have hN:∀ s,lI s=none->(!eG (E.o s))=true->S' s=some (.slice none 0 0):=by
  intro s hr f;simp only [iK] at f;simp only [S',f,hr,Bool.false_eq_true,if_false]
 have n:∀ {v:Value} {d Y:D},aK (cx w lev S) v d->jU lI (fun s=>!eG (E.o s)) d Y->aK (cx w lev S') v Y:=fun hr hd=>jU.rep (C:=cx w lev S) (C':=cx w lev S') (fun _ _ h=>h) O hN hr hd;refine ⟨own',S',?_,?_,?_⟩
 ·intro i Q H;have hr:=K.UL i Q H;have g:=K.objs i H;rw [hr] at g;have W:env.o i≠.undef:=by
   intro e;simp only [e] at g;cases q:E.o i<;>rw [q] at g<;>exact g.elim
  have f:eG (E.o i)=false:=by
   cases q:eG (E.o i) with
   | false=>rfl
   | true=>exact (H (xJ.1 q)).elim
  simp only [S',f,hr,Bool.false_eq_true,if_false];exact h.UL i (by omega) W
 ·intro s;exact n (h.oC s) (K.oC s)
 ·intro s;by_cases p:E.o s=.undef
  ·rw [p];show S' s=none;simp [S',p,eG]
  have f:(!eG (E.o s))=true:=by
   cases q:eG (E.o s) with
   | false=>rfl
   | true=>exact (p (xJ.1 q)).elim
  have g:=K.objs s p;cases hr:lI s with
  | none =>
   rw [hr] at g;obtain ⟨z,hz⟩:=g;have hn:=hN s hr f;rw [hz];exact .inl ⟨none,hn,rfl⟩
  | some r =>
   rw [hr] at g;simp only at g;have y:=h.objs r;have l:∀ b,own b=some r->own' b=some s:=by
    intro b hb;simp only [own',hb,Option.bind_some];have I:∃ s,E.o s≠.undef/\lI s=some r:=⟨s,p,hr⟩
    rw [dif_pos I];have hc:=Classical.choose_spec I;rw [K.inj _ _ r hc.1 p hc.2 hr]
   cases hE:E.o s<;>rw [hE] at g<;>cases H:env.o r<;>rw [H] at g y<;>simp only [Yu] at g
   ·obtain ⟨rfl,rfl⟩:=g;rename_i z rows;rcases y with ⟨a,B,F⟩ | ⟨b,c,R,cap,B,F,Z,T,U,N,V,h8,h9,h10⟩
    ·exact .inl ⟨a,O s r hr f _ B,F⟩
    ·refine .inr ⟨b,c,R,cap,O s r hr f _ B,F,Z,T,U,N,V,l b h8,h9,?_⟩;intro i j M d Q hj;obtain ⟨u,A,X⟩:=h10 i j M d Q hj;exact ⟨u,A,X.fV (.refl _ _) (by rw [(N M (dX Q) d (dX hj)).2];simp)⟩
   ·rename_i a b';obtain ⟨k,J⟩:=DG g;obtain ⟨b,o,c,R,B,F,Z,T,U,N,V⟩:=y;refine ⟨b,o,c,R,O s r hr f _ B,F,by omega,T,l b U,by rw [<- k];exact N,?_⟩;intro j u x A q;have L:j < b'.length:=by rw [k];exact (fA.1 q).1
    exact n (V j u _ A (fO L)) (J j _ x (fO L) q)
theorem Inv.le {lI:Nat->Option Nat} {E:Env} (h:Inv w0 l0 G S0 w lev own S env tm) (d:LeE 16 lI env E):∃ own' S',Inv w0 l0 G S0 w lev own' S' E tm:=by
 obtain ⟨own',S',a,b,c⟩:=h.aoM (dU _) d;exact ⟨own',S',h.os,h.tape,h.output,h.size,h.old,h.part,h.priv,h.jZ,a,b,c⟩
end
def look:List (Nat × D)->Nat->D
 | [],_=>.undef
 | x :: r,j=>if j=x.1 then x.2 else look r j
def tL (ts os:List (Nat × D)):Env:=⟨look ts,look os⟩
mutual
def tW:D->D->List (Nat × Option Nat)
 | .ref s,.ref r=>[(s,some r)]
 | .ref s,.nil=>[(s,none)]
 | .addr s _,.addr r _=>[(s,some r)]
 | .bX s _ _ _,.bX r _ _ _=>[(s,some r)]
 | .eC s _ _ _,.eC r _ _ _=>[(s,some r)]
 | .bW s _ _ _ _,.bW r _ _ _ _=>[(s,some r)]
 | .agg a,.agg b=>DZ a b
 | .bT a,.bT b=>DZ a b
 | .fn _ a,.fn _ b=>DZ a b
 | .box a,.box b=>DZ a b
 | _,_=>[]
def DZ:List D->List D->List (Nat × Option Nat)
 | a :: x,b :: y=>tW a b++DZ x y
 | _,_=>[]
end
def lI (l:List (Nat × Option Nat)) (s:Nat):Option Nat:=
 match l with
 | []=>some s
 | x :: r=>if s=x.1 then x.2 else lI r s
def Vx (e:Env):List (Nat × D)->List (Nat × Option Nat)
 | []=>[]
 | x :: r=>tW x.2 (e.t x.1)++Vx e r
def oAt (e:Env):Option Nat->D
 | some r=>e.o r
 | none=>.undef
def Ze (e:Env) (l:List (Nat × Option Nat)):List (Nat × D)->List (Nat × Option Nat)
 | []=>[]
 | x :: r=>tW x.2 (oAt e (lI l x.1))++Ze e l r
def Ug (os:List (Nat × D)) (s:Nat):Bool:=
 match os with
 | []=>false
 | x :: r=>if s=x.1 then true else Ug r s
def Xy (e:Env) (a:Nat->Option Nat) (os:List (Nat × D)):List (Nat × D)->Prop
 | []=>True
 | x :: r=>jU a (Ug os) (e.t x.1) x.2/\Xy e a os r
def Km:D->Prop
 | .own _ rows=>rows=[]
 | _=>False
def Pf (e:Env) (a:Nat->Option Nat) (os:List (Nat × D)) (d:D):Option Nat->Prop
 | some r=>Yu a (Ug os) (e.o r) d
 | none=>Km d
def jO (o:Option Nat) (b:Nat->Option Nat):List (Nat × D)->Prop
 | []=>True
 | x :: r=>(match o with
  | some a=>b x.1≠some a
  | none=>True)/\jO o b r
def NS (m s:Nat) (o:Option Nat):Prop:=m<=s\/o=some s
def Mh (m:Nat) (e:Env) (a:Nat->Option Nat) (os:List (Nat × D)):List (Nat × D)->Prop
 | []=>True
 | x :: r=>Ug r x.1=false/\Pf e a os x.2 (a x.1)/\jO (a x.1) a r/\NS m x.1 (a x.1)/\Mh m e a os r
def LeR (m:Nat) (e:Env) (ts os:List (Nat × D)) (l:List (Nat × Option Nat)):Prop:=Xy e (lI l) os ts/\Mh m e (lI l) os os
def LeP (m:Nat) (e:Env) (ts os:List (Nat × D)) (l:List (Nat × Option Nat)):Prop:=LeR m e ts os (l++Ze e l os)
def LeM (m:Nat) (e:Env) (ts os:List (Nat × D)):Prop:=LeP m e ts os (Vx e ts)
def Me (e:Env) (ts os:List (Nat × D)):Prop:=LeM 16 e ts os
theorem aby {os:List (Nat × D)} {e:Env} {f:Nat->Option Nat} {c:List (Nat × D)} {m:Nat} (h:Mh m e f c os) (s:Nat):Ug os s = !eG (look os s):=by
 induction os with
 | nil=>rfl
 | cons x r ih =>
  obtain ⟨h1,a,h3,h4,g⟩:=h;simp only [Ug,look];by_cases d:s=x.1
  ·subst d;simp only [if_true];cases hr:f x.1 with
   | none=>rw [hr] at a;cases b:x.2<;>rw [b] at a<;>simp [Pf,Km] at a<;>rfl
   | some r=>rw [hr] at a;cases b:x.2<;>rw [b] at a<;>cases i:e.o r<;>simp only [Pf,i,Yu] at a<;>rfl
  ·simp only [ak d];exact ih g
theorem MM {b:Nat->Option Nat} {a:Nat->Bool} (d:D):jU b a d .undef:=by cases d<;>simp [jU]
theorem LeM.le {m:Nat} {e:Env} {ts os:List (Nat × D)} (h:LeM m e ts os):∃ d,LeE m d e (tL ts os):=by
 unfold LeM LeP LeR at h;generalize lI _=d at h;obtain ⟨B,f⟩:=h;have g:Ug os=fun s=>!eG ((tL ts os).o s):=by funext s;exact aby f s
 refine ⟨d,?_,?_,?_,?_⟩
 ·intro j;rw [<- g];show jU d (Ug os) (e.t j) (look ts j);clear g f;induction ts with
  | nil=>exact MM _
  | cons x r ih =>
   simp only [look];by_cases i:j=x.1
   ·subst i;simp only [if_true];exact B.1
   ·simp only [ak i];exact ih B.2
 ·intro s c;rw [<- g];show match d s with | some r=>Yu d (Ug os) (e.o r) (look os s) | none=>∃ z,look os s=.own z []
  have b:look os s≠.undef:=c;clear g B c
  suffices hh:∀ a:List (Nat × D),Mh m e d os a->look a s≠.undef->match d s with | some r=>Yu d (Ug os) (e.o r) (look a s) | none=>∃ z,look a s=.own z [] from hh os f b
  intro a;induction a with
  | nil=>intro _ h;exact (h rfl).elim
  | cons x r ih =>
   intro f b;obtain ⟨E,k,g3,n,u⟩:=f;simp only [look] at b |-
   by_cases i:s=x.1
   ·subst i;simp only [if_true];cases hr:d x.1 with
    | none =>
     rw [hr] at k;cases H:x.2<;>rw [H] at k<;>simp only [Pf,Km] at k;subst k;exact ⟨_,rfl⟩
    | some r'=>rw [hr] at k;exact k
   ·simp only [ak i] at b |-;exact ih u b
 ·intro s p r c b hr y;have c:look os s≠.undef:=c;have b:look os p≠.undef:=b
  suffices hh:∀ a:List (Nat × D),Mh m e d os a->look a s≠.undef->look a p≠.undef->s=p from hh os f c b
  have v:∀ (a:List (Nat × D)) (t:Nat),look a t≠.undef->d t=some r -> ¬ jO (some r) d a:=by
   intro a t;induction a with
   | nil=>intro h;exact (h rfl).elim
   | cons x q ih =>
    intro C A F;simp only [look] at C;by_cases i:t=x.1
    ·subst i;exact F.1 A
    ·simp only [ak i] at C;exact ih C A F.2
  intro a;induction a with
  | nil=>intro _ h;exact (h rfl).elim
  | cons x q ih =>
   intro f c b;obtain ⟨E,k,g3,n,u⟩:=f;simp only [look] at c b;by_cases l:s=x.1
   ·by_cases e2:p=x.1
    ·exact l.trans e2.symm
    ·simp only [ak e2] at b;subst l;rw [hr] at g3;exact (v q p b y g3).elim
   ·by_cases e2:p=x.1
    ·simp only [ak l] at c;subst e2;rw [y] at g3;exact (v q s c hr g3).elim
    ·simp only [ak l] at c;simp only [ak e2] at b;exact ih u c b
 ·intro s hlt c;have c:look os s≠.undef:=c
  suffices hh:∀ a:List (Nat × D),Mh m e d os a->look a s≠.undef->d s=some s from hh os f c
  intro a;induction a with
  | nil=>intro _ h;exact (h rfl).elim
  | cons x q ih =>
   intro f c;obtain ⟨E,k,g3,n,u⟩:=f;simp only [look] at c;by_cases l:s=x.1
   ·subst l;rcases n with n | n
    ·omega
    ·exact n
   ·simp only [ak l] at c;exact ih u c
theorem Me.le {e:Env} {ts os:List (Nat × D)} (h:Me e ts os):∃ a,LeE 16 a e (tL ts os):=LeM.le h
end Go.Abs
namespace Go.Abs
def Enters (P : Program) (f : FuncId) : Prop := ∃ fn, P.funcs[f]? = some fn /\ fn.body.isSome = true /\ (fn.name == "runtime.NumGoroutine") = false
def Spec (P:Program) (f:FuncId) (o ds l:List D) (d:D):Prop:=
 Enters P f/\∀ (w:World) (j:Nat->Option Nat) (h:Nat->Option (Nat × Nat)) (g:Nat->Option Nat) (k:Nat->Option Value) (vs:Array Value),aaE w h->(∀ b m,j b=some m->b < w.heap.size)->(∀ b lo n,h b=some (lo,n)->lX w w b lo n)->vs.size=ds.length ->
  (∀ (i:Nat) v x,vs[i]?=some v->ds[i]?=some x->aK (cx w j k) v x)->(∀ r,lQ w.heap.size h w j g k r (o.getD r .undef))->Calls P f vs w fun e w'=>∃ v,e=.returned v/\Out o.length l w j h k w' v d
def Cc (P:Program) (f:FuncId) (o ds:List D) (Φ:List D->D->Prop):Prop:=
 Enters P f/\∀ (w:World) (k:Nat->Option Nat) (j:Nat->Option (Nat × Nat)) (h:Nat->Option Nat) (l:Nat->Option Value) (vs:Array Value),aaE w j->(∀ b m,k b=some m->b < w.heap.size)->(∀ b lo n,j b=some (lo,n)->lX w w b lo n)->vs.size=ds.length ->
  (∀ (i:Nat) v x,vs[i]?=some v->ds[i]?=some x->aK (cx w k l) v x)->(∀ r,lQ w.heap.size j w k h l r (o.getD r .undef))->Calls P f vs w fun e w'=>∃ v g d,Φ g d/\e=.returned v/\Out o.length g w k j l w' v d
def gr (g:Bool) (ok:Prop) (v:D) (k:D->Prop):Prop:=(g=true->ok)/\k (gd g v)
def Norm (v:D) (k:D->Prop):Prop:=k v
def GK (g:Bool) (a b:Prop):Prop:=(g=true->a)/\(g=false->b)
def nH (P:Program) (e:Env) (d:Nat) (args:List Operand) (gs:List Nat) (bw:Bool) (f:List D) (g:D) (K:Env->Prop) (i:D):Prop:=
 match i with
 | .fn k caps=>gs.Nodup/\(∀ r∈gs,e.o r≠.undef)/\(∀ r∈kk d 0 (f.length-gs.length),e.o r=.undef)/\(gs.length<=f.length/\f.length<=gs.length+16)/\(bw=true->qV g/\∀ h∈f,vn h) /\
   Spec P k (gs.map fun r=>xq bw gs e.o 4 (e.o r)) ((args.map (rd e)++caps).map (conv bw gs e.o 4)) f g/\K (gf e d gs f g)
 | _=>False
def Jl (P:Program) (e:Env) (d:Nat) (args:List Operand) (gs:List Nat) (bw:Bool) (Φ:List D->D->Prop) (K:Env->Prop) (i:D):Prop:=
 match i with
 | .fn k caps=>gs.Nodup/\(∀ r∈gs,e.o r≠.undef)/\Cc P k (gs.map fun r=>xq bw gs e.o 4 (e.o r)) ((args.map (rd e)++caps).map (conv bw gs e.o 4)) Φ /\
   ∀ f g,Φ f g->(∀ r∈kk d 0 (f.length-gs.length),e.o r=.undef)/\(gs.length<=f.length/\f.length<=gs.length+16)/\(bw=true->qV g/\∀ h∈f,vn h)/\K (gf e d gs f g)
 | _=>False
def KW (dr:Bool) (K:Env->Prop) (e:Env):Prop:=K e\/(dr=false/\∃ ts os,Me e ts os/\K (tL ts os))
variable {K' K:Env->Prop}
theorem KW.mono {dr:Bool} (h:∀ e,K e->K' e) (e:Env) (d:KW dr K e):KW dr K' e:=
 d.imp (h e) fun ⟨hd,ts,os,hl,d⟩=>⟨hd,ts,os,hl,h _ d⟩
variable {e:Env}
theorem KW.drawn (d:KW true K e):K e:=d.elim id fun h=>(lZ h.1.symm).elim
variable {b c:D} {a:List D} {P:Program}
theorem oD {d:Nat} {args:List Operand} {gs:List Nat} {bw:Bool} (h:∀ e,K e->K' e) (f:nH P e d args gs bw a b K c):nH P e d args gs bw a b K' c:=by
 unfold nH at f |-;split at f
 ·exact ⟨f.1,f.2.1,f.2.2.1,f.2.2.2.1,f.2.2.2.2.1,f.2.2.2.2.2.1,h _ f.2.2.2.2.2.2⟩
 ·exact f.elim
def Ca (P:Program) (dr:Bool) (e:Env) (d:Nat) (f:Operand) (args:List Operand) (K:Env->Prop):Prop:=
 ∃ (fz gs:List Nat) (bw:Bool) (g:List D) (h:D),(dr=true->fz=[]/\gs=[])/\nH P (fD fz e) d args gs bw g h (KW dr K) (rd (fD fz e) f)
def StB (P:Program) (e:Env) (t:TypeId) (r off:Nat) (v:D) (K:Env->Prop) (d:D):Prop:=
 match d with
 | .box cs=>match gC P t with
  | some l=>off+l.sz<=cs.length/\v.cells.length=l.sz/\(∀ c∈v.cells,dZ c)/\K (cV e r (.box (gD cs off v.cells)))
  | none=>False
 | _=>False
def StO (P:Program) (e:Env) (t:TypeId) (r z i k:Nat) (v:D) (K:Env->Prop) (d:D):Prop:=
 match d with
 | .own z' rows=>match gC P t with
  | some l=>z'=z/\i < rows.length/\k+l.sz<=z/\v.cells.length=l.sz/\(∀ c∈v.cells,bG c)/\K (cV e r (.own z (rows.set i (gD (rows.getD i []) k v.cells))))
  | none=>False
 | _=>False
def Xz (P:Program) (e:Env) (t:TypeId) (a:D) (K:Env->Prop) (v:D):Prop:=
 match a with
 | .addr r off=>StB P e t r off v K (e.o r)
 | .bX r z i k=>StO P e t r z i k v K (e.o r)
 | _=>False
def ad6 (e:Env) (d:Nat) (K:Env->Prop) (v:D):Prop:=
 (∀ c∈v.cells,dZ c)/\e.o (nm d 0)=.undef/\K (bP (cV e (nm d 0) (.box v.cells)) d (.addr (nm d 0) 0))
def Xr (e:Env) (d:Nat) (K:Env->Prop) (z:Option (List D)):Prop:=
 match z with
 | some z=>e.o (nm d 0)=.undef/\K (bP (cV e (nm d 0) (.box z)) d (.addr (nm d 0) 0))
 | none=>False
def eE (P:Program) (t:TypeId):Option (List D):=
 match P.underlying t with
 | some (.slice e)=>lz P e
 | _=>none
def j7 (e:Env) (z:Nat) (parts:List (Nat × Operand)):List (Nat × Nat × D):=parts.map fun x=>(x.1*z,z,rd e x.2)
def Ci (zc:List D) (e:Env) (z len:Nat) (parts:List (Nat × Operand)):List D:=
 mo (List.replicate len zc).flatten (j7 e z parts)
def Ui (e:Env) (len:Nat) (parts:List (Nat × Operand)) (d:Nat) (K:Env->Prop) (t:Ty) (zc:Option (List D)):Prop:=
 match t,zc with
 | .slice z _ _,some zc=>len*z<=2 ^ 24/\zc.length=z/\oN (len*z) (j7 e z parts)/\(∀ c∈Ci zc e z len parts,bG c)/\e.o (nm d 0)=.undef /\
   K (bP (cV e (nm d 0) (.own z (rowsOf z len (Ci zc e z len parts)))) d (.ref (nm d 0)))
 | _,_=>False
def qR (e:Env) (parts:List (Nat × Operand)):List Nat:=D.bK (parts.map fun x=>rd e x.2)
def iR (z:Nat):D->Option (List (List D))
 | .sl z' rows=>if z'=z then some rows else none
 | .nil=>some []
 | .emp=>some []
 | _=>none
def Xt (e:Env) (z f d:Nat) (rows2:List (List D)) (K:Env->Prop) (r:Nat) (g:D):Prop:=
 match g with
 | .own z' rows=>z'=z/\(f+1)*(rows.length+rows2.length)<=2 ^ 45/\(jM r e).o (nm d 0)=.undef/\K (bP (cV (jM r e) (nm d 0) (.own z (rows++rows2))) d (.ref (nm d 0)))
 | _=>False
def wP (e:Env) (z f d:Nat) (K:Env->Prop) (v:D) (y:Option (List (List D))):Prop:=
 match v,y with
 | .nil,some rows2=>(f+(1-f))*rows2.length<=2 ^ 47/\e.o (nm d 0)=.undef/\K (bP (cV e (nm d 0) (.own z rows2)) d (.ref (nm d 0)))
 | .emp,some rows2=>(f+(1-f))*rows2.length<=2 ^ 47/\e.o (nm d 0)=.undef/\K (bP (cV e (nm d 0) (.own z rows2)) d (.ref (nm d 0)))
 | .ref r,some rows2=>Xt e z f d rows2 K r (e.o r)
 | _,_=>False
def qO (e:Env) (d:Nat) (K:Env->Prop) (x y:D) (t t2:Ty):Prop:=
 match t,t2 with
 | .slice z by_ _,.slice _ _ _=>by_<=2 ^ 32/\wP e z by_ d K x (iR z (nG e.o [] 2 y))
 | _,_=>False
def MkK (e:Env) (d:Nat) (K:Env->Prop) (l c:D) (t:Ty) (zc:Option (List D)):Prop:=
 match t,l,c,zc with
 | .slice z by_ _,.int _ n,.int _ m,some zc=>0<=n/\n<=m/\m<=2 ^ 40/\by_*m<=2 ^ 47/\zc.length=z/\(∀ d∈zc,bG d)/\e.o (nm d 0)=.undef /\
   K (bP (cV e (nm d 0) (.own z (List.replicate n.toNat zc))) d (.ref (nm d 0)))
 | _,_,_,_=>False
def Cont (n:Nat) (i:World) (h:Nat->Option Nat) (G:Nat->Option (Nat × Nat)) (g:Nat->Option Value) (K:Env->Prop) (next:Act->World->Prop):Prop:=
 ∀ (f:Env) lev' own' S' w' (d:Act),d.tmps.size=n->d.defers=[]->Inv i h G g w' lev' own' S' f (lM d.tmps)->K f->next d w'
def dH (P:Program) (n:Nat) (o:Oper) (e:Env) (K:Env->Prop):Prop:=
 ∀ (g:World) (f:Nat->Option Nat) (G:Nat->Option (Nat × Nat)) (d:Nat->Option Value) (w:World) (lev own:Nat->Option Nat) (S:Nat->Option Value) (a:Act) (next:Act->World->Prop) (Q:Exit->Act->World->Prop),
  Inv g f G d w lev own S e (lM a.tmps)->a.tmps.size=n->a.defers=[]->Cont n g f G d K next->o.wp P a w next Q
theorem dH.mono {n:Nat} {o:Oper} (r:∀ e,K e->K' e) (h:dH P n o e K):dH P n o e K':=
 fun u t G d w lev own S a next Q q s p m=>h u t G d w lev own S a next Q q s p fun g lev' own' S' w' f i j k l=>m g lev' own' S' w' f i j k (r _ l)
def abv:Operand->Bool
 | .const (.slice none 0 0)=>true
 | _=>false
def ajS:Nat:=999999
def hard (o:Oper):Bool:=
 match o.op with
 | .buildSlice t _ _=>t==ajS
 | .call c=>(match c.callee with
  | .builtin .copy=>true
  | .builtin .clear=>true
  | .builtin .cap=>true
  | _=>false)
 | .binOp _ _ _ y _=>abv y
 | .slice _ _ lo _ mx=>mx.isSome&&lo.isSome
 | _=>false
def B9 (e:Env) (d:Nat) (K:Env->Prop) (S:Prop) (x y:D) (t t2:Ty):Prop:=
 match x,y with
 | .bW _ _ _ _ _,_=>S
 | _,.int _ _=>S
 | x,y=>qO e d K x y t t2
def iF (P:Program) (n:Nat) (dr:Bool) (o:Oper) (e:Env) (g:Bool) (K:Env->Prop):Prop:=
 match o.op,o.dst with
 | .store t a x,none=>g=true/\Norm (rd e a) fun a=>Norm (rd e x) (Xz P e t a K)
 | .box _ x,some d=>g=true/\d < n/\Norm (rd e x) (ad6 e d K)
 | .alloc t,some d=>g=true/\d < n/\Xr e d K (lz P t)
 | .buildSlice t len parts,some d=>d < n/\GK g ((dr=true->qR e parts.toList=[])/\Ui (fD (qR e parts.toList) e) len parts.toList d K (dV P t) (eE P t)) (K (bP e d (.bT [])))
 | .makeSlice t l c,some d=>d < n/\GK g (MkK e d K (rd e l) (rd e c) (dV P t) (eE P t)) (K (bP e d (.bT [])))
 | .call c,some d=>d < n/\(match c.callee with
  | .builtin .append=>g=true/\dr=false/\(match c.args.toList,c.argTypes.toList with
   | [x,y],[T,T2]=>B9 e d K (dH P n o e K) (rd e x) (rd e y) (dV P T) (dV P T2)
   | _,_=>False)
  | .builtin _=>gr g (dM P e o.op) (fN P e o.op) fun u=>K (bP e d u)
  | .value f=>GK g (Ca P dr e d f c.args.toList K\/(dr=false/\dH P n o e K)) (K (bP e d (.bT [])))
  | .invoke _ _=>False)
 | op,some d=>d < n/\gr g (dM P e op) (fN P e op) fun u=>K (bP e d u)
 | _,none=>False
def kn (P:Program) (n:Nat) (dr:Bool) (o:Oper) (e:Env) (g:Bool) (K:Env->Prop):Prop:=if hard o then g=true/\dr=false/\dH P n o e K else iF P n dr o e g K
def vU:List Oper->Nat->Option Tmp
 | [],_=>none
 | o :: _,0=>o.dst
 | _ :: r,n+1=>vU r n
def O8 (w:Bool):D->Option Bool
 | .bool b=>some (b==w)
 | .bT []=>some false
 | _=>none
def rI (ops:List Oper) (e:Env):Option (Nat × Bool)->Option Bool
 | none=>some true
 | some (j,w)=>match vU ops j with
  | some t=>O8 w (rd e (.tmp t))
  | none=>some false
def wpOp (P:Program) (n:Nat) (ops:List Oper) (o:Oper) (e:Env) (K:Env->Prop):Prop:=
 match rI ops e o.guard with
 | some g=>kn P n false o e g K
 | none=>False
def wpList (P:Program) (n:Nat) (ops:List Oper):List Oper->Env->(Env->Prop)->Prop
 | [],e,K=>K e
 | o :: r,e,K=>wpOp P n ops o e fun d=>wpList P n ops r d K
end Go.Abs
namespace Go.Abs
open List
theorem yW {x:Int} (h1:-9223372036854775808<=x) (h2:x < 9223372036854775808):IntKind.i64.wrap x=x:=by
 simp [IntKind.wrap,IntKind.signed,IntKind.bits];split<;>omega
theorem J7 {zc:List D} {z:Nat} (k:zc.length=z) (j:z≠0):∀ (n m:Nat),m < n*z->(replicate n zc).flatten[m]?=zc[m%z]?
 | 0,m,h=>by simp at h
 | n+1,m,h=>by
  rw [replicate_succ,flatten_cons];by_cases p:m < z
  ·rw [getElem?_append_left (by omega),Nat.mod_eq_of_lt p]
  ·rw [getElem?_append_right (by omega),k,J7 k j n (m-z) (by rw [Nat.succ_mul] at h;omega)];congr 1;rw [<- Nat.mod_eq_sub_mod (by omega)]
variable {zc:List D} {z:Nat}
theorem sN (h:zc.length=z) (n:Nat):(replicate n zc).flatten.length=n*z:=by
 simp [length_flatten,h]
section
variable {P:Program}
theorem pE {e:TypeId} (h:lz P e=some zc) (w:World):∃ k,(zeroValue e).run P w=.ok k w/\k.cells.size=zc.length/\∀ (V:Cx) (i:Nat) v d,k.cells[i]?=some v->zc[i]?=some d->aK V v d:=by
 unfold lz at h;cases p:P.info? e with
 | none=>rw [p] at h;cases h
 | some inf =>
  simp only [p] at h;cases j:inf.zero with
  | none=>rw [j] at h;cases h
  | some k =>
   rw [j] at h;cases h;refine ⟨k,by simp [zeroValue,Sem.run_bind,jQ p,j,Sem.run,pure],by simp,?_⟩;intro V i v d q m;simp only [getElem?_map] at m;have:k.cells.toList[i]?=some v:=by simpa using q
   rw [this] at m;simp at m;subst m;exact sW v
end
variable {d:Nat} {o:Oper} {next:Act->World->Prop} {a:Act} {u v:Value} {Q:Exit->Act->World->Prop} {K:Env->Prop} {w':World} {e b:Env} {Φ:List D->D->Prop} {gs fz:List Nat} {f x:Operand} {dr bw:Bool} {c:Call} {i g:D} {t T:TypeId} {l:Array (Nat × Operand)}
section
variable {P:Program} {n:Nat} {w0 w w':World} {l0:Nat->Option Nat} {G:Nat->Option (Nat × Nat)} {S0:Nat->Option Value} {lev lev' own own':Nat->Option Nat} {S S':Nat->Option Value} {env env':Env} {tm tm':Nat->Value} {B:Nat} {gs:List Nat} {bw:Bool}
theorem upon_value (j:o.dst=some d) (hr:(execOp a.eval o).run P w=.ok (.value u) w')
  (h:next { a with tmps:=a.tmps.setIfInBounds d u } w'):o.wp P a w next Q:=by
 unfold Oper.wp;rw [hr];simp only [Oper.upon,j,Act.put];exact h
theorem fk (p:a.tmps.size=n) (j:a.defers=[]) (h:Cont n w0 l0 G S0 K next) (hd:d < n)
  {lev' own':Nat->Option Nat} {S':Nat->Option Value} (m:Inv w0 l0 G S0 w' lev' own' S' e (II (lM a.tmps) d u)) (k:K e):next { a with tmps:=a.tmps.setIfInBounds d u } w':=
 h e lev' own' S' w' _ (by simpa using p) j (by rw [adl (by omega)];exact m) k
theorem Rv (h:Inv w0 l0 G S0 w lev own S env (lM a.tmps)) (hn:a.tmps.size=n) (hdf:a.defers=[]) (hcal:c.callee=.value f) (hd:d < n) (hop:o.op=.call c) (hdst:o.dst=some d)
  (hnext:Cont n w0 l0 G S0 K next) (hk:Jl P (fD fz env) d c.args.toList gs bw Φ (KW dr K) (rd (fD fz env) f)):o.wp P a w next Q:=by
 obtain ⟨lev1,S1,h1⟩:=Inv.abp fz h (fun _ _=>trivial);generalize fD fz env=env1 at h1 hk;unfold Jl at hk;have hof:=h1.uS a rfl f;split at hk<;>try exact hk.elim
 rename_i k caps hf;rw [hf] at hof;obtain ⟨hnd,hlive,⟨hent,hsp⟩,hall⟩:=hk;obtain ⟨cv,hv,hcs,hcc⟩:=hof.Bw;obtain ⟨fn,e1,e2,e3⟩:=hent
 let vs:Array Value:=c.args.map a.eval++cv
 have hr:(execOp a.eval o).run P w=.ok (.enter k vs) w:=by
  have e3' : fn.name ≠ "runtime.NumGoroutine" := by simpa using e3
  have e2':fn.body≠none:=by rintro e;rw [e] at e2;cases e2
  simp [execOp,hop,resolve,hcal,hv,Deferred.ofValue,Sem.run_bind,invoke,callFunc,program,e1,e3',e2',Sem.run,pure,vs]
 have hrep:∀ (i:Nat) v x,vs[i]?=some v->(c.args.toList.map (rd env1)++caps)[i]?=some x->aK (cx w lev1 S1) v x:=by
  intro i v x hi hx;have hl:(c.args.map a.eval).size=(c.args.toList.map (rd env1)).length:=by simp
  by_cases hlt:i < (c.args.map a.eval).size
  ·simp only [vs] at hi;rw [Array.getElem?_append_left hlt] at hi;rw [getElem?_append_left (by rw [<- hl];exact hlt)] at hx;simp only [Array.getElem?_map,getElem?_map] at hi hx;have hx':c.args[i]?=c.args.toList[i]?:=by simp
   rw [hx'] at hi;cases hy:c.args.toList[i]? with
   | none=>rw [hy] at hi;cases hi
   | some y =>
    rw [hy] at hi hx;cases hi;cases hx;exact h1.uS a rfl y
  ·simp only [vs] at hi;rw [Array.getElem?_append_right (by omega)] at hi;rw [getElem?_append_right (by rw [<- hl];omega)] at hx;rw [<- hl] at hx;exact hcc _ v x hi hx
 have hsz:vs.size=((c.args.toList.map (rd env1)++caps).map (conv bw gs env1.o 4)).length:=by simp [vs,hcs]
 have hc:=hsp w (tH bw gs lev1 own) (qP gs S1 env1.o) (Qr gs own) (Cb gs S1) vs
  (by
   intro t ht;obtain ⟨t1,E,x,c9,t2,t3⟩:=h1.os.2 t ht;have hlt:=lt_of_block t2;refine ⟨?_,E,x,c9,(h1.old _ hlt t1).trans t2,t3⟩;cases hg:qP gs S1 env1.o t.1 with
   | none=>rfl
   | some p =>
    obtain ⟨lo,hi⟩:=p;obtain ⟨r,hr,u,hu,hbk⟩:=IK hg;obtain ⟨_,_,hin,_⟩:=(h1.objs r).blk hu hbk;rcases hin with hin | ⟨_,_,hin,_⟩
    ·omega
    ·rw [t1] at hin;cases hin)
  (by
   intro b m hb;rcases WE (bw:=bw) (gs:=gs) (lev:=lev1) (own:=own) b with e | e
   ·rw [e] at hb;exact h1.priv b m hb
   ·rw [e] at hb;cases hb)
  (by
   intro b lo hi hg;obtain ⟨r,hr,u,hu,hbk⟩:=IK hg;obtain ⟨_,_,_,cc,E,hb⟩:=(h1.objs r).blk hu hbk
   exact ⟨cc,cc,E,hb,hb,rfl,fun _ _=>rfl⟩)
  hsz
  (by
   intro i v x hi hx;simp only [getElem?_map] at hx;cases hy:(c.args.toList.map (rd env1)++caps)[i]? with
   | none=>rw [hy] at hx;cases hx
   | some y=>rw [hy] at hx;cases hx;exact JQ h1 4 y v (hrep i v y hi hy))
  (by
   intro r;by_cases hlt:r < gs.length
   ·have hg:gs[r]?=some gs[r]:=fO hlt;have:(gs.map fun r=>xq bw gs env1.o 4 (env1.o r)).getD r .undef=xq bw gs env1.o 4 (env1.o gs[r]):=by simp [getD,hg]
    rw [this];exact aa6 h1 hnd hg 4 (hlive _ (ck hlt))
   ·have:(gs.map fun r=>xq bw gs env1.o 4 (env1.o r)).getD r .undef=.undef:=by simp [getD,hlt]
    rw [this];show Cb gs S1 r=none
    simp [Cb,hlt])
 unfold Oper.wp;rw [hr];simp only [Oper.upon];refine hc.mono ?_;rintro e w' ⟨v,hs',dv,hΦ,rfl,hout⟩;obtain ⟨hfresh,hlen,hperm,hK⟩:=hall hs' dv hΦ;simp only [length_map] at hout;obtain ⟨lev',own',S',hi⟩:=h1.call (d:=d) hnd hlive hfresh hlen.1 hperm hout;simp only [hdst,Act.put];rcases hK with hK | ⟨_,ts,os,hl,hK⟩
 ·exact fk hn hdf hnext hd hi hK
 ·obtain ⟨rh,hle⟩:=hl.le;obtain ⟨own2,S2,hi2⟩:=hi.le hle;exact fk hn hdf hnext hd hi2 hK
theorem nH.toE {args:List Operand} (h:nH P e d args gs bw zc g K i):Jl P e d args gs bw (fun a b=>a=zc/\b=g) K i:=by
 unfold nH at h;unfold Jl;split at h<;>try exact h.elim
 obtain ⟨r,s,y,A,C,k,D⟩:=h;refine ⟨r,s,⟨k.1,?_⟩,?_⟩
 ·intro w l0 m j S0 vs p a2 a3 a4 a5 q;refine (k.2 w l0 m j S0 vs p a2 a3 a4 a5 q).mono ?_;rintro e w' ⟨v,he,ho⟩;exact ⟨v,zc,g,⟨rfl,rfl⟩,he,ho⟩
 ·rintro _ _ ⟨rfl,rfl⟩;exact ⟨y,A,C,D⟩
theorem Ux (h:Inv w0 l0 G S0 w lev own S env (lM a.tmps)) (y:a.tmps.size=n) (p:a.defers=[]) (k:c.callee=.value f) (s:d < n) (r:o.op=.call c) (m:o.dst=some d)
  (j:Cont n w0 l0 G S0 K next) (q:Ca P dr env d f c.args.toList K):o.wp P a w next Q:=by
 obtain ⟨fz,gs,bw,hs',dv,_,q⟩:=q;exact Rv h y p k s r m j q.toE
theorem ac9 (h:Inv w0 l0 G S0 w lev own S env (lM a.tmps)) (J:a.tmps.size=n) (s:a.defers=[])
  (m:Cont n w0 l0 G S0 K next) (j:Xz P env t (rd env f) K (rd env x)):∃ w',(Instr.storeAt t (a.eval f) (a.eval x)).run P w=.ok () w'/\next a w':=by
 have A:=h.uS a rfl x;have q:=h.uS a rfl f;unfold Xz at j;cases I:rd env f<;>rw [I] at j q<;>try exact j.elim
 ·rename_i r off;simp only at j;unfold StB at j;cases y:env.o r<;>rw [y] at j<;>try exact j.elim
  rename_i cs;simp only at j;cases p:gC P t with
  | none=>rw [p] at j;exact j.elim
  | some l =>
   rw [p] at j;obtain ⟨C,D,E,F⟩:=j;obtain ⟨w',hr,H⟩:=h.ada y p A E D C q;exact ⟨w',hr,m _ _ _ _ _ a J s H F⟩
 ·rename_i r z i k;simp only at j;unfold StO at j;cases y:env.o r<;>rw [y] at j<;>try exact j.elim
  rename_i z' rows;simp only at j;cases p:gC P t with
  | none=>rw [p] at j;exact j.elim
  | some l =>
   rw [p] at j;obtain ⟨rfl,C,D,E,L,F⟩:=j;obtain ⟨w',hr,H⟩:=h.adb y p A L E C D q;exact ⟨w',hr,m _ _ _ _ _ a J s H F⟩
theorem boxed (h:Inv w0 l0 G S0 w lev own S env tm) {vs:Array Value} {cs:List D} (T:TypeId) (m:vs.size=cs.length) (k:∀ (j:Nat) u e,vs[j]?=some u->cs[j]?=some e->aK (cx w lev S) u e) (p:env.o (nm d 0)=.undef) :
  ∃ lev' own' S',Inv w0 l0 G S0 (w.alloc (.cells vs T)) lev' own' S' (bP (cV env (nm d 0) (.box cs)) d (.addr (nm d 0) 0)) (II tm d (.pointer (some ⟨w.heap.size,0,none⟩))):=by
 have q:=h.ajt (AG d 0) p T m k;refine ⟨_,_,_,q.put ?_⟩;have:=aK.addr (C:=cx (w.alloc (.cells vs T)) (jm lev w.heap.size (some 0)) (jm S (nm d 0) (some (.pointer (some ⟨w.heap.size,0,none⟩))))) (nm d 0) 0 ⟨w.heap.size,0,none⟩ (dh _ _ _);simpa [Addr.add] using this
theorem owned {x:D} (j:Inv w0 l0 G S0 w' lev' own' S' (cV e (nm d 0) x) tm) (h:S' (nm d 0)=some v) (k:∃ a l c,v=.slice a l c):Inv w0 l0 G S0 w' lev' own' S' (bP (cV e (nm d 0) x) d (.ref (nm d 0))) (II tm d v):=by
 obtain ⟨a,l,c,rfl⟩:=k;exact j.put (.ref (nm d 0) a l c h)
theorem XN (h:Inv w0 l0 G S0 w lev own S env (lM a.tmps)) (A:a.tmps.size=n) (k:a.defers=[]) (m:d < n)
  (j:Cont n w0 l0 G S0 K next) (y:ad6 env d K (rd env x)) :
  next { a with tmps:=a.tmps.setIfInBounds d (.pointer (some ⟨w.heap.size,0,none⟩)) } (w.alloc (.cells (a.eval x).cells T)):=by
 obtain ⟨p,q,r⟩:=y;obtain ⟨c1,c2,c3⟩:=sX (h.uS a rfl x) p;obtain ⟨_,_,_,s⟩:=boxed h T c1 c3 q;exact fk A k j m s r
theorem jy (h:Inv w0 l0 G S0 w lev own S env tm) (J:aK (cx w lev S) v g) {rows:List (List D)} (hr:iR z (nG env.o [] 2 g)=some rows) (S':Nat->Option Value):nu w (cx w lev S') v z rows:=by
 have E:=Pv (gs:=[]) h (fun _=>none) 2 g v J;unfold iR at hr;split at hr<;>try (cases hr;done)
 ·rename_i z' rows' e;rw [e] at E;split at hr<;>try (cases hr;done)
  rename_i ez;cases hr;subst ez;have h1:=nu.ao0 (w:=w) (fun a v=>ql) E;obtain ⟨a,cap,rfl,q1,q2,q3,q4,q5⟩:=h1
  -- the cells are read in the caller's own terms
  refine ⟨a,cap,rfl,q1,q2,q3,q4,?_⟩;clear E q5;have key:∀ g:D,aK (cx w lev S) (.slice a rows.length cap) g->nG env.o [] 2 g=.sl z' rows->∀ N,a=some N->∀ (i j:Nat) q x,rows[i]?=some q->q[j]?=some x->∃ u,w.cell? (N.add (i*z'+j))=some u/\aK (cx w lev S') u x:=by
   intro g J e N M i j q x A H;have s:=q3 q (dX A) x (dX H);cases g with
   | sl z2 rows2 =>
    simp only [nG] at e;cases e;obtain ⟨a',y,O,_,_,_,_,R⟩:=J.BZ;cases O;obtain ⟨u,I,p⟩:=R N M i j q x A H;exact ⟨u,ql I,p.fV (.refl _ _) (by rw [s.2];simp)⟩
   | ref r =>
    simp only [nG,bS,contains_nil,Bool.false_eq_true,if_false] at e;cases C:env.o r<;>rw [C] at e<;>simp only [sI] at e<;>try (cases e;done)
    cases e;obtain ⟨a',y,Z,_,_,_,_,R⟩:=h.DS C;obtain ⟨m,_⟩:=J.nS;simp only [cx] at m;rw [Z] at m;cases m;obtain ⟨u,I,p⟩:=R N M i j q x A H;exact ⟨u,I,p.fV (.refl _ _) (by rw [s.2];simp)⟩
   | eC r z lo len =>
    simp only [nG,bS,contains_nil,Bool.false_eq_true,if_false] at e;cases C:env.o r<;>rw [C] at e<;>simp only [mM] at e<;>try (cases e;done)
    split at e<;>try (cases e;done)
    rename_i hz;obtain ⟨rfl,hlen⟩:=hz;cases e;obtain ⟨a',y,Z,_,_,_,_,R⟩:=h.DS C;obtain ⟨b0,W,L,c0,c1,m,O,Y,_⟩:=J.mz;simp only [cx] at m;rw [Z] at m;cases m;have U:i < len:=by have:=(fA.1 A).1;simp at this;omega
    obtain ⟨b,rfl,F⟩:=Y (by omega);have X:a=W:=by injection O
    rw [X,F] at M;cases M;rw [getElem?_take_of_lt U,getElem?_drop] at A;obtain ⟨u,I,p⟩:=R b rfl (lo+i) j q x A H;refine ⟨u,?_,p.fV (.refl _ _) (by rw [s.2];simp)⟩;rw [add_add,<- I];congr 2;rw [Nat.add_mul];omega
   | bW r off z len bcap =>
    simp only [nG,bS,contains_nil,Bool.false_eq_true,if_false] at e;cases C:env.o r<;>rw [C] at e<;>simp only [gS] at e<;>try (cases e;done)
    split at e<;>try (cases e;done)
    cases e;obtain ⟨b0,W,c1,m,O,Y,_⟩:=J.gv;have aa:=h.NF C m;have U:i < len:=by have:=(fA.1 A).1;rw [gZ] at this;exact this
    have F:=Y (by omega);have X:a=W:=by injection O
    rw [X,F] at M;cases M;have V:=o9 _ _ _ _ _ A;subst V;have ab:j < z':=by have:=(fA.1 H).1;simp at this;omega
    rw [getElem?_take_of_lt ab,getElem?_drop,getElem?_drop] at H;obtain ⟨u,I,p⟩:=aa _ x H;refine ⟨u,?_,p.fV (.refl _ _) (by rw [s.2];simp)⟩;rw [add_add];exact I
   | addr r off=>simp only [nG,bS,contains_nil,Bool.false_eq_true,if_false] at e;unfold mL at e;split at e<;>cases e
   | bX r z i' k=>simp only [nG,bS,contains_nil,Bool.false_eq_true,if_false] at e;unfold ug at e;(split at e<;>try split at e)<;>cases e
   | _=>simp only [nG] at e<;>cases e
  exact key g J e
 ·rename_i e;rw [e] at E;cases hr;cases E;exact nu.nil z none
 ·rename_i e;rw [e] at E;cases hr;cases E;exact nu.nil z _
theorem XC (h:Inv w0 l0 G S0 w lev own S env (lM a.tmps)) (Z:a.tmps.size=n) (H:a.defers=[]) {T3:TypeId} (Y:d < n)
  (m:Cont n w0 l0 G S0 K next) (j:qO env d K (rd env x) (rd env f) (dV P T) (dV P t)) :
  ∃ u w',(Builtin.append_ #[T,t] T3 #[a.eval x,a.eval f]).run P w=.ok u w'/\next { a with tmps:=a.tmps.setIfInBounds d u } w':=by
 have k:=h.uS a rfl x;have s:=h.uS a rfl f;unfold qO at j;cases O:dV P T<;>rw [O] at j<;>try exact j.elim
 cases F:dV P t<;>rw [F] at j<;>try exact j.elim
 rename_i z E ea z2 by2 ea2;obtain ⟨U,j⟩:=j;have I:∃ e,P.underlying t=some (.slice e):=by
  obtain ⟨e,_,hu,_⟩:=dO F;exact ⟨e,hu⟩
 have q:∀ (C:Option Addr) (rows2:List (List D)),a.eval x=.slice C 0 0->nu w (cx w lev S) (a.eval f) z rows2->(E+(1-E))*rows2.length<=2 ^ 47->env.o (nm d 0)=.undef->K (bP (cV env (nm d 0) (.own z rows2)) d (.ref (nm d 0))) ->
   ∃ u w',(Builtin.append_ #[T,t] T3 #[a.eval x,a.eval f]).run P w=.ok u w'/\next { a with tmps:=a.tmps.setIfInBounds d u } w':=by
  intro C rows2 y A R V J;obtain ⟨v,w',_,_,_,hr,W,L,X⟩:=h.Wf (N:=nm d 0) (AG d 0) V O I (a:=C) A R T3;rw [y];exact ⟨v,w',hr,fk Z H m Y (owned W L X) J⟩
 unfold wP at j;split at j
 ·rename_i rows2 y A;rw [y] at k;have p:a.eval x=.slice none 0 0:=by generalize a.eval x=v at k;cases k;rfl
  exact q _ _ p (jy h s A S) j.1 j.2.1 j.2.2
 ·rename_i rows2 y A;rw [y] at k;have p:∃ C,a.eval x=.slice C 0 0:=by generalize a.eval x=v at k;cases k;exact ⟨_,rfl⟩
  obtain ⟨C,p⟩:=p;exact q _ _ p (jy h s A S) j.1 j.2.1 j.2.2
 ·rename_i r rows2 y A;rw [y] at k;obtain ⟨L,_⟩:=k.nS;unfold Xt at j;cases ho:env.o r<;>rw [ho] at j<;>try exact j.elim
  rename_i z' rows;obtain ⟨rfl,R,V,J⟩:=j;obtain ⟨v,w',_,_,_,hr,W,M,X⟩:=h.aej (N:=nm d 0) ho (AG d 0) V O I L (jy h s A S) R U T3;exact ⟨v,w',hr,fk Z H m Y (owned W M X) J⟩
 ·exact j.elim
theorem aaY (h:Inv w0 l0 G S0 w lev own S b (lM a.tmps)) (hn:a.tmps.size=n) (ad:a.defers=[]) {len:Nat} (hd:d < n)
  (M:Cont n w0 l0 G S0 K next) (hk:Ui b len l.toList d K (dV P t) (eE P t)) :
  ∃ u w',(Instr.buildSlice t len (l.map fun x=>(x.1,a.eval x.2))).run P w=.ok u w'/\next { a with tmps:=a.tmps.setIfInBounds d u } w':=by
 unfold Ui at hk;split at hk<;>try exact hk.elim
 rename_i z by_ ea zc hT aa;obtain ⟨h24,s,A,I,hf,hK⟩:=hk;obtain ⟨e,inf,hu,hl,hin,hb,hz,zv0,hzv0,hzz0⟩:=dO hT;have ah:eE P t=lz P e:=by simp [eE,hu]
 have ag:lz P e=some zc:=by rw [<- ah];exact aa
 obtain ⟨U,ai,ab,O⟩:=pE ag w;have H:=sN s len
 let zs:Array Value:=(Array.range (len*z)).map (fun i=>U.cells[i%U.cells.size]!)
 have E:zs.size=len*z:=by simp [zs]
 unfold Ci at I hK;obtain ⟨m,e1,e2,e3⟩:=LC (V:=cx w lev S) (fun i=>some (i*z,z)) (l.map fun x=>(x.1,a.eval x.2)).toList (j7 b z l.toList) zs (replicate len zc).flatten (by simp [j7]) (by rw [E,H])
  (by
   intro i v x hv hx;have y:i < len*z:=by rw [<- E];exact (Array.getElem?_eq_some_iff.1 hv).1
   rw [J7 s hz len i y] at hx;have C:i%z < U.cells.size:=by rw [ab,s];exact Nat.mod_lt _ (Nat.pos_of_ne_zero hz)
   have af:v=U.cells[i%z]:=by
    simp only [zs,Array.getElem?_map] at hv;rw [Array.getElem?_eq_getElem (by simpa using y)] at hv;simp only [Option.map_some,ny,Array.getElem_range] at hv;rw [<- hv,ab,s];simp [C]
   refine O (cx w lev S) (i%z) v x ?_ hx
   rw [af];simp [C])
  (by
   intro k p q hp hq;simp only [Array.toList_map,getElem?_map] at hp;cases N:l.toList[k]? with
   | none=>rw [N] at hp;cases hp
   | some p0 =>
    rw [N] at hp;cases hp;simp only [j7,getElem?_map,N,Option.map_some,ny] at hq;subst hq
    exact ⟨rfl,h.uS a rfl p0.2⟩) (by rw [H];exact A)
 have J:(mo (replicate len zc).flatten (j7 b z l.toList)).length=len*z:=by
  have key:∀ (qs:List (Nat × Nat × D)) (ds:List D),oN ds.length qs->(mo ds qs).length=ds.length:=by
   intro qs;induction qs with
   | nil=>intro ds _;rfl
   | cons q qs ih =>
    intro ds hq;obtain ⟨off,sz,x⟩:=q;obtain ⟨g1,g2,g3,g4⟩:=hq;have hw:=fF (cs:=ds) (xs:=x.cells) (o:=off) (by omega);rw [mo,ih _ (by rw [hw];exact g4),hw]
  rw [key _ _ (by rw [H];exact A),H]
 have X:∀ i j r c,(rowsOf z len (mo (replicate len zc).flatten (j7 b z l.toList)))[i]?=some r->r[j]?=some c ->
   (mo (replicate len zc).flatten (j7 b z l.toList))[i*z+j]?=some c/\j < z:=by
  intro i j r c y R;rw [o9 _ _ _ _ _ y] at R;have Y:j < z:=by
   have:=(fA.1 R).1;simp at this;omega
  rw [getElem?_take_of_lt Y,getElem?_drop] at R;exact ⟨R,Y⟩
 have y:=h.Gm (AG d 0) hf (vs:=m) (z:=z) (cap:=len) (rows:=rowsOf z len (mo (replicate len zc).flatten (j7 b z l.toList))) e (by rw [e2,J]) (by rw [gZ];exact dU _)
  (by
   intro r hr;obtain ⟨i,y⟩:=mem_iff_getElem?.1 hr;have ae:i < len:=by
    have:=(fA.1 y).1;rwa [gZ] at this
   rw [o9 _ _ _ _ _ y,dY,fj,J];have:(i+1)*z<=len*z:=l6 z ae;rw [Nat.succ_mul] at this
   omega)
  (by
   intro r hr c W;obtain ⟨i,y⟩:=mem_iff_getElem?.1 hr;rw [o9 _ _ _ _ _ y] at W
   exact I c (mem_of_mem_drop (mem_of_mem_take W)))
  (by
   intro i j r c y R;obtain ⟨W,_⟩:=X i j r c y R;have C:i*z+j < m.size:=by rw [e2];exact (fA.1 W).1
   exact ⟨m[i*z+j],by simp [C],e3 _ _ c (by simp [C]) W⟩)
 refine ⟨_,_,?_,fk hn ad M hd (owned y (dh _ _ _) ⟨_,_,_,rfl⟩) hK⟩;rw [gZ];have Z:¬ len*z > 2 ^ 24:=by omega
 have L:(newRow e m).run P w=.ok ⟨w.heap.size,0,none⟩ (w.alloc (.cells m e)):=by simp [newRow,newObj,Sem.run,Sem.bind,pure,bind]
 simp only [Instr.buildSlice,Sem.run_bind,bC hu,bU hl,Result.andThen_ok,ak Z];by_cases h0:len*z=0
 ·have ac:zs = #[]:=Array.eq_empty_of_size_eq_zero (by rw [E,h0]);have F:Instr.fill (fun i=>some (i*z,z)) ((Array.range (len*z)).map (fun i=>(#[]:Array Value)[i%(#[]:Array Value).size]!)) (l.map fun x=>(x.1,a.eval x.2)).toList=some m:=by
   rw [<- e1,ac,h0,show (Array.range 0:Array Nat) = #[] from rfl];simp
  simp [h0] at F |-;simp [Sem.run_bind,F,L,Sem.run,pure]
 ·have F:Instr.fill (fun i=>some (i*z,z)) ((Array.range (len*z)).map (fun i=>U.cells[i%U.cells.size]!)) (l.map fun x=>(x.1,a.eval x.2)).toList=some m:=e1;rw [ak h0];simp only [Sem.run_bind,ai,Result.andThen_ok,pure,Sem.run];rw [F];simp [Sem.run_bind,L,Sem.run,pure]
theorem ab5 (h:Inv w0 l0 G S0 w lev own S env (lM a.tmps)) (hn:a.tmps.size=n) (ag:a.defers=[]) {l c:Operand} (hd:d < n)
  (D:Cont n w0 l0 G S0 K next) (hk:MkK env d K (rd env l) (rd env c) (dV P t) (eE P t)) :
  ∃ u w',(Instr.makeSlice t (a.eval l) (a.eval c)).run P w=.ok u w'/\next { a with tmps:=a.tmps.setIfInBounds d u } w':=by
 have Z:=h.uS a rfl l;have Y:=h.uS a rfl c;unfold MkK at hk;split at hk<;>try exact hk.elim
 rename_i z ad ea k1 len k2 k zc hT al af aa;rw [al] at Z;rw [af] at Y;obtain ⟨h0,hlc,h40,ae,p,ab,hf,hK⟩:=hk;obtain ⟨e,ar,hu,hl,ai,hb,hz,zv0,hzv0,hzz0⟩:=dO hT;have ap:eE P t=lz P e:=by simp [eE,hu]
 have ao:lz P e=some zc:=by rw [<- ap];exact aa
 obtain ⟨I,aq,ac,H⟩:=pE ao w;have V:=Z.dK;have N:=Y.dK;obtain ⟨len,rfl⟩:=Int.eq_ofNat_of_zero_le h0;obtain ⟨k,rfl⟩:=Int.eq_ofNat_of_zero_le (show 0<=k by omega);have q:len<=k:=by omega
 simp only [Int.toNat_natCast] at hK
 let cells:Array Value:=(Array.range (k*z)).map (fun i=>I.cells[i%I.cells.size]!)
 have M:cells.size=k*z:=by simp [cells]
 have hi:=h.Gm (AG d 0) hf (vs:=cells) (z:=z) (cap:=k) (rows:=replicate len zc) e M (by simpa using q) (by intro r hr;rw [(mem_replicate.1 hr).2];exact p)
  (by intro r hr;rw [(mem_replicate.1 hr).2];exact ab) (by
   intro i j r x hi hj;have ah:i < len:=by
    have:=(fA.1 hi).1;simpa using this
   have hr:r=zc:=(mem_replicate.1 (dX hi)).2;subst hr;have y:j < z:=by rw [<- p];exact (fA.1 hj).1
   have aj:i*z+j < len*z:=qx y ah;have U:i*z+j < k*z:=Nat.lt_of_lt_of_le aj (l6 z q);have W:(i*z+j)%z=j:=by rw [Nat.add_comm,Nat.add_mul_mod_self_right,Nat.mod_eq_of_lt y]
   have O:j < I.cells.size:=by rw [ac,p];exact y
   refine ⟨I.cells[j],?_,H _ j _ x (by simp [O]) hj⟩;simp only [cells,Array.getElem?_map];rw [Array.getElem?_eq_getElem (by simpa using U)];have C:(i*z+j)%I.cells.size=j:=by rw [ac,p];exact W
   simp only [Option.map_some,Array.getElem_range,C]
   rw [getElem!_pos I.cells j O])
 refine ⟨_,_,?_,fk hn ag D hd (owned hi (dh _ _ _) ⟨_,_,_,rfl⟩) hK⟩;rw [length_replicate];have s:(newRow e cells).run P w=.ok ⟨w.heap.size,0,none⟩ (w.alloc (.cells cells e)):=by simp [newRow,newObj,Sem.run,Sem.bind,pure,bind]
 have am:IntKind.i64.wrap (len:Int)=len:=yW (by omega) (by omega);have an:IntKind.i64.wrap (k:Int)=k:=yW (by omega) (by omega);have J:∀ m,(askRoom m).run P w=.ok () w:=by
  intro m;unfold askRoom;split<;>simp [mark,Sem.run,pure]
 have L:(ar.bytes:Int)*(k:Int)<=281474976710656:=by
  rw [hb];have:(ad:Int)*(k:Int)<=2 ^ 47:=ae;omega
 have X:¬ ((k:Int) < 0):=by omega
 have A:¬ ((len:Int) < 0):=by omega
 have R:¬ ((len:Int) > (k:Int)):=by omega
 rw [V,N];simp only [Instr.makeSlice,Sem.run_bind,bC hu,asInt,asIntOf,pure,Sem.run,Result.andThen_ok,jQ ai,am,an];rw [ak (by simp [X,L,A,R])];simp only [Sem.run_bind,J,Result.andThen_ok,bU hl,Int.toNat_natCast];by_cases F:k*z=0
 ·have:cells = #[]:=Array.eq_empty_of_size_eq_zero (by rw [M,F]);simp only [F,if_true,Sem.run,Result.andThen_ok,Sem.run_bind];have E:(newRow e #[]).run P w=.ok ⟨w.heap.size,0,none⟩ (w.alloc (.cells cells e)):=by rw [<- this];exact s
  rw [show (Array.range 0:Array Nat) = #[] from rfl];simp [E]
 ·simp only [ak F,Sem.run_bind,aq,Result.andThen_ok,Sem.run];rw [s];simp [Sem.run]
theorem Vk (h:Inv w0 l0 G S0 w lev own S env (lM a.tmps)) (E:a.tmps.size=n) (r:a.defers=[])
  (m:Cont n w0 l0 G S0 K next) (k:iF P n dr o env true K):o.wp P a w next Q:=by
 have s:∀ d,o.dst=some d->d < n->gr true (dM P env o.op) (fN P env o.op) (fun u=>K (bP env d u))->o.wp P a w next Q:=by
  intro d C p ⟨hok,J⟩;obtain ⟨u,hr,L⟩:=pure_run h o (hok rfl);exact upon_value C hr (fk E r m p (h.put L) J)
 cases C:o.dst with
 | none =>
  cases q:o.op<;>simp only [iF,q,C] at k<;>try exact k.elim
  obtain ⟨_,k⟩:=k;obtain ⟨w',hr,A⟩:=ac9 h E r m k;unfold Oper.wp;have:(execOp a.eval o).run P w=.ok .skip w':=by
   simp only [execOp,q,Sem.run_bind,hr];rfl
  rw [this];simp only [Oper.upon,C,Act.put];exact A
 | some d =>
  cases q:o.op<;>simp only [iF,q,C] at k
  case box T x =>
   obtain ⟨_,p,k⟩:=k;have:=XN (T:=T) h E r p m k;refine upon_value C (u:=.pointer (some ⟨w.heap.size,0,none⟩)) ?_ this;simp only [execOp,q];exact jx (by simp [Instr.box,newVar,newRow,newObj,Sem.run,Sem.bind,pure,bind])
  case alloc T =>
   obtain ⟨_,p,k⟩:=k;cases M:lz P T with
   | none=>rw [M] at k;exact k.elim
   | some zc =>
    rw [M] at k;obtain ⟨X,J⟩:=k;obtain ⟨zv,N,O,H⟩:=pE M w;obtain ⟨_,_,_,Y⟩:=boxed (d:=d) h T O (fun j u e L W=>H _ j u e L W) X;refine upon_value C (u:=.pointer (some ⟨w.heap.size,0,none⟩)) ?_ (fk E r m p Y J);simp only [execOp,q];refine jx ?_;simp only [Instr.alloc,Sem.run_bind,N,Result.andThen_ok];simp [newVar,newRow,newObj,Sem.run,Sem.bind,pure,bind]
  case buildSlice t len parts =>
   obtain ⟨p,k⟩:=k;obtain ⟨lev1,S1,V⟩:=Inv.abp (qR env parts.toList) h (fun _ _=>trivial);obtain ⟨u,w',hr,A⟩:=aaY V E r p m (k.1 rfl).2;exact upon_value C (by simp only [execOp,q];exact jx hr) A
  case makeSlice t l c =>
   obtain ⟨p,k⟩:=k;obtain ⟨u,w',hr,A⟩:=ab5 h E r p m (k.1 rfl);exact upon_value C (by simp only [execOp,q];exact jx hr) A
  case call c =>
   obtain ⟨p,k⟩:=k;split at k
   ·-- append
    rename_i D;obtain ⟨_,_,k⟩:=k;split at k
    ·rename_i x y T R F I;have U:c.args = #[x,y]:=Array.ext' (by simpa using F);have e2:c.argTypes = #[T,R]:=Array.ext' (by simpa using I);have k:dH P n o env K\/qO env d K (rd env x) (rd env y) (dV P T) (dV P R):=by
      unfold B9 at k;split at k
      ·exact .inl k
      ·exact .inl k
      ·exact .inr k
     rcases k with k | k
     ·exact k _ _ _ _ _ _ _ _ _ _ _ h E r m
     obtain ⟨u,w',hr,A⟩:=XC (T3:=o.type) h E r p m k;refine upon_value C ?_ A;have Z:c.args.map a.eval = #[a.eval x,a.eval y]:=by rw [U];simp
     simp only [execOp,q,resolve,D,Sem.run_bind,pure,Sem.run,Result.andThen_ok,invoke,builtin,Z,e2,hr]
    ·exact k.elim
   ·exact s d C p (by rw [q];exact k)
   ·rename_i f D;rcases k.1 rfl with k | ⟨_,k⟩
    ·exact Ux h E r D p q C m k
    ·exact k _ _ _ _ _ _ _ _ _ _ _ h E r m
   ·exact k.elim
  all_goals exact s d C k.1 (by rw [q];exact k.2)
theorem YS (h:Inv w0 l0 G S0 w lev own S env (lM a.tmps)) (A:a.tmps.size=n) (s:a.defers=[])
  (p:Cont n w0 l0 G S0 K next) (j:iF P n dr o env false K):next (a.put o.dst Go.undef) w:=by
 have r:∀ d,o.dst=some d->d < n->K (bP env d (.bT []))->next (a.put o.dst Go.undef) w:=by
  intro d k m y;rw [k];exact fk A s p m (h.put (v:=Go.undef) (d:=.bT []) (.bT #[] [] rfl (by intro i v d C;simp at C))) y
 cases k:o.dst with
 | none =>
  cases q:o.op<;>simp only [iF,q,k] at j<;>first | exact j.elim | exact (lZ j.1).elim
 | some d =>
  rw [<- k];cases q:o.op<;>simp only [iF,q,k] at j<;>try (first | exact (lZ j.1).elim | exact r d k j.1 j.2.2 | exact r d k j.1 (j.2.2 rfl))
  case call c =>
   obtain ⟨m,j⟩:=j;split at j
   ·exact (lZ j.1).elim
   ·exact r d k m j.2
   ·exact r d k m (j.2 rfl)
   ·exact j.elim
theorem YT (h:Inv w0 l0 G S0 w lev own S env (lM a.tmps)) (p:a.tmps.size=n) (k:a.defers=[])
  (j:Cont n w0 l0 G S0 K next) (m:kn P n dr o env true K):o.wp P a w next Q:=by
 unfold kn at m;split at m
 ·exact m.2.2 _ _ _ _ _ _ _ _ _ _ _ h p k j
 ·exact Vk h p k j m
theorem acj (h:Inv w0 l0 G S0 w lev own S env (lM a.tmps)) (p:a.tmps.size=n) (m:a.defers=[])
  (j:Cont n w0 l0 G S0 K next) (k:kn P n dr o env false K):next (a.put o.dst Go.undef) w:=by
 unfold kn at k;split at k
 ·exact (lZ k.1).elim
 ·exact YS h p m j k
end
end Go.Abs
