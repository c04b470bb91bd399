/- The abstract reading of values: what a frame's slots and the objects that it owns hold, as plain data. No theorem of a claim. -/
import Derived.Below
import Derived.Laws.Cells
import Derived.Laws.Rows
import Derived.Laws.Entries
import Derived.Laws.Sem
import Derived.ChangeKeysEq
set_option linter.unusedSimpArgs false
set_option linter.unusedVariables false
namespace Go.Abs
open Go.RowKit (Below)
inductive D where
 | undef
 | bool (b:Bool)
 | int (k:IntKind) (n:Int)
 | str (s:ByteArray)
 | nil
 | emp
 | iP
 | eM
 | fu
 | j4
 | fn (f:FuncId) (caps:List D)
 | agg (cs:List D)
 | bD (ds:List D)
 | sl (z:Nat) (rows:List (List D))
 | bI (cs:List D)
 | ref (r:Nat)
 | addr (r off:Nat)
 | bQ (r z i k:Nat)
 | fj (r z lo len:Nat)
 | eI (r off z len cap:Nat)
 | own (z:Nat) (rows:List (List D))
 | box (cs:List D)
structure Env where
 t:Nat->D
 o:Nat->D
def e0:Env:=⟨fun _=>.undef,fun _=>.undef⟩
def cy (e:Env) (i:Nat) (d:D):Env:=⟨fun j=>if j=i then d else e.t j,e.o⟩
def dV (e:Env) (i:Nat) (d:D):Env:=⟨e.t,fun j=>if j=i then d else e.o j⟩
theorem FO (e:Env) (i:Nat) (d:D):(cy e i d).t i=d:=by simp [cy]
theorem Ay {e:Env} {i:Nat} {d:D} {j:Nat} (h:j≠i):(cy e i d).t j=e.t j:=by simp [cy,h]
theorem Pk (e:Env) (i:Nat) (d:D):(dV e i d).o i=d:=by simp [dV]
theorem Nn {e:Env} {i:Nat} {d:D} {j:Nat} (h:j≠i):(dV e i d).o j=e.o j:=by simp [dV,h]
mutual
def D.names:D->List Nat
 | .fn _ cs=>D.cj cs
 | .agg cs=>D.cj cs
 | .bD cs=>D.cj cs
 | .box cs=>D.cj cs
 | .ref r=>[r]
 | .addr r _=>[r]
 | .bQ r _ _ _=>[r]
 | .fj r _ _ _=>[r]
 | .eI r _ _ _ _=>[r]
 | _=>[]
def D.cj:List D->List Nat
 | []=>[]
 | d :: r=>d.names++D.cj r
end
theorem dX:∀ {cs:List D} {s:Nat},s∈D.cj cs ↔ ∃ d∈cs,s∈d.names
 | [],s=>by simp [D.cj]
 | d :: r,s=>by simp [D.cj,dX (cs:=r)]
mutual
/-- what names object r is forgotten -/
def D.kill (r:Nat):D->D
 | .fn f cs=>.fn f (D.iK r cs)
 | .agg cs=>.agg (D.iK r cs)
 | .bD cs=>.bD (D.iK r cs)
 | .box cs=>.box (D.iK r cs)
 | .ref s=>if s=r then .undef else .ref s
 | .addr s o=>if s=r then .undef else .addr s o
 | .bQ s z i k=>if s=r then .undef else .bQ s z i k
 | .fj s z l n=>if s=r then .undef else .fj s z l n
 | .eI s o z n c=>if s=r then .undef else .eI s o z n c
 | d=>d
def D.iK (r:Nat):List D->List D
 | []=>[]
 | d :: l=>d.kill r :: D.iK r l
end
theorem ny (r:Nat):∀ cs:List D,D.iK r cs=cs.map (D.kill r)
 | []=>rfl
 | d :: l=>by rw [D.iK,ny r l];rfl
def jT (r:Nat) (e:Env):Env:=⟨fun j=>(e.t j).kill r,fun j=>if j=r then .undef else (e.o j).kill r⟩
def eu:D->Prop
 | .undef | .agg _ | .bD _ | .box _ | .own _ _=>False
 | _=>True
def dw (d:D):Prop:=eu d/\d.names=[]
structure Cx where
 V:Addr->Option Value
 S:Nat->Option Value
inductive aE (C:Cx):Value->D->Prop
 | undef (v:Value):aE C v .undef
 | bool (b:Bool):aE C (.bool b) (.bool b)
 | int (k:IntKind) (n:Int):aE C (.int k n) (.int k n)
 | str (s:ByteArray):aE C (.string s) (.str s)
 | nil:aE C (.slice none 0 0) .nil
 | emp (a:Option Addr):aE C (.slice a 0 0) .emp
 | iP:aE C .nilFunc .iP
 | eM:aE C .nilIface .eM
 | fu (t:TypeId) (v:Value):aE C (.iface t v) .fu
 | j4:aE C (.pointer none) .j4
 | fn (f:FuncId) (vs:Array Value) (ds:List D):vs.size=ds.length->(∀ (i:Nat) v d,vs[i]?=some v->ds[i]?=some d->aE C v d)->aE C (.func (.func f) #[] vs) (.fn f ds)
 | agg (vs:Array Value) (ds:List D):vs.size=ds.length->(∀ (i:Nat) v d,vs[i]?=some v->ds[i]?=some d->aE C v d)->aE C (.agg vs) (.agg ds)
 | bD (vs:Array Value) (ds:List D):vs.size=ds.length->(∀ (i:Nat) v d,vs[i]?=some v->ds[i]?=some d->aE C v d)->aE C (.tuple vs) (.bD ds)
 | slnil (z:Nat):aE C (.slice none 0 0) (.sl z [])
 | sl (z:Nat) (a:Addr) (cap:Nat) (rows:List (List D)) (f:Nat->Nat->Value):rows.length<=cap->(∀ r∈rows,r.length=z)->(∀ r∈rows,∀ d∈r,dw d) ->
   (∀ (i j:Nat) r d,rows[i]?=some r->r[j]?=some d->C.V (a.add (i*z+j))=some (f i j)) ->
   (∀ (i j:Nat) r d,rows[i]?=some r->r[j]?=some d->aE C (f i j) d)->aE C (.slice (some a) rows.length cap) (.sl z rows)
 | bI (a:Addr) (cs:List D) (f:Nat->Value):(∀ d∈cs,d.names=[])->(∀ (j:Nat) d,cs[j]?=some d->C.V (a.add j)=some (f j))->(∀ (j:Nat) d,cs[j]?=some d->aE C (f j) d)->aE C (.pointer (some a)) (.bI cs)
 | ref (r:Nat) (a:Option Addr) (len cap:Nat):C.S r=some (.slice a len cap)->aE C (.slice a len cap) (.ref r)
 | addr (r off:Nat) (a:Addr):C.S r=some (.pointer (some a))->aE C (.pointer (some (a.add off))) (.addr r off)
 | bQ (r z i k:Nat) (a:Addr) (len cap:Nat):C.S r=some (.slice (some a) len cap)->aE C (.pointer (some (a.add (i*z+k)))) (.bQ r z i k)
 | fj (r z lo len:Nat) (a a':Option Addr) (L cap cap':Nat):C.S r=some (.slice a L cap)->(len≠0->∃ b,a=some b/\a'=some (b.add (lo*z)))->len<=cap'->(a'=none->cap'=0)->aE C (.slice a' len cap') (.fj r z lo len)
 | eI (r off z len cap:Nat) (a:Addr) (a':Option Addr):C.S r=some (.pointer (some a))->(cap≠0->a'=some (a.add off))->len<=cap->aE C (.slice a' len cap) (.eI r off z len cap)
theorem aE.keep {C C':Cx} (hV:∀ a v,C.V a=some v->C'.V a=some v) {v:Value} {d:D} (r:aE C v d) (hS:∀ s∈d.names,∀ u,C.S s=some u->C'.S s=some u):aE C' v d:=by
 induction r with
 | undef v=>exact .undef v
 | bool b=>exact .bool b
 | int k n=>exact .int k n
 | str s=>exact .str s
 | nil=>exact .nil
 | emp a=>exact .emp a
 | iP=>exact .iP
 | eM=>exact .eM
 | fu t v=>exact .fu t v
 | j4=>exact .j4
 | fn f vs ds hl _ ih=>exact .fn f vs ds hl fun i v d hi hd=>ih i v d hi hd fun s hs=>hS s (by simp only [D.names];exact dX.2 ⟨d,List.mem_of_getElem? hd,hs⟩)
 | agg vs ds hl _ ih=>exact .agg vs ds hl fun i v d hi hd=>ih i v d hi hd fun s hs=>hS s (by simp only [D.names];exact dX.2 ⟨d,List.mem_of_getElem? hd,hs⟩)
 | bD vs ds hl _ ih=>exact .bD vs ds hl fun i v d hi hd=>ih i v d hi hd fun s hs=>hS s (by simp only [D.names];exact dX.2 ⟨d,List.mem_of_getElem? hd,hs⟩)
 | slnil z=>exact .slnil z
 | sl z a cap rows f hl hz hk hc _ ih =>
  refine .sl z a cap rows f hl hz hk (fun i j r d hi hj=>hV _ _ (hc i j r d hi hj)) fun i j r d hi hj=>ih i j r d hi hj ?_
  intro s hs;rw [(hk r (List.mem_of_getElem? hi) d (List.mem_of_getElem? hj)).2] at hs;cases hs
 | bI a cs f hn hc _ ih =>
  refine .bI a cs f hn (fun j d hj=>hV _ _ (hc j d hj)) fun j d hj=>ih j d hj ?_
  intro s hs;rw [hn d (List.mem_of_getElem? hj)] at hs;cases hs
 | ref r a len cap h=>exact .ref r a len cap (hS r (by simp [D.names]) _ h)
 | addr r off a h=>exact .addr r off a (hS r (by simp [D.names]) _ h)
 | bQ r z i k a len cap h=>exact .bQ r z i k a len cap (hS r (by simp [D.names]) _ h)
 | fj r z lo len a a' L cap cap' h h1 h2 h3=>exact .fj r z lo len a a' L cap cap' (hS r (by simp [D.names]) _ h) h1 h2 h3
 | eI r off z len cap a a' h h1 h2=>exact .eI r off z len cap a a' (hS r (by simp [D.names]) _ h) h1 h2
theorem aE.mono {C C':Cx} (hV:∀ a v,C.V a=some v->C'.V a=some v) (hS:∀ s u,C.S s=some u->C'.S s=some u) {v:Value} {d:D} (r:aE C v d):aE C' v d:=
 r.keep hV fun s _=>hS s
mutual
theorem qJ (r:Nat):∀ (d:D),∀ s∈(d.kill r).names,s∈d.names/\s≠r
 | .fn f cs=>fun s h=>by simp only [D.kill,D.names] at h |-;exact jP r cs s h
 | .agg cs=>fun s h=>by simp only [D.kill,D.names] at h |-;exact jP r cs s h
 | .bD cs=>fun s h=>by simp only [D.kill,D.names] at h |-;exact jP r cs s h
 | .box cs=>fun s h=>by simp only [D.kill,D.names] at h |-;exact jP r cs s h
 | .ref t=>fun s h=>by simp only [D.kill] at h;split at h<;>simp_all [D.names]
 | .addr t o=>fun s h=>by simp only [D.kill] at h;split at h<;>simp_all [D.names]
 | .bQ t z i k=>fun s h=>by simp only [D.kill] at h;split at h<;>simp_all [D.names]
 | .fj t z l n=>fun s h=>by simp only [D.kill] at h;split at h<;>simp_all [D.names]
 | .eI t o z n c=>fun s h=>by simp only [D.kill] at h;split at h<;>simp_all [D.names]
 | .undef | .bool _ | .int _ _ | .str _ | .nil | .emp | .iP | .eM | .fu | .j4 | .sl _ _ | .bI _ | .own _ _=>fun s h=>by simp [D.kill,D.names] at h
theorem jP (r:Nat):∀ (cs:List D),∀ s∈D.cj (D.iK r cs),s∈D.cj cs/\s≠r
 | []=>fun s h=>by simp [D.iK,D.cj] at h
 | d :: l=>fun s h=>by
  simp only [D.iK,D.cj,List.mem_append] at h |-;rcases h with h | h
  ·exact ⟨.inl (qJ r d s h).1,(qJ r d s h).2⟩
  ·exact ⟨.inr (jP r l s h).1,(jP r l s h).2⟩
end
theorem aE.UX {C:Cx} {v:Value} {d:D} (r:Nat) (h:aE C v d):aE C v (d.kill r):=by
 have lst:∀ (vs:Array Value) (ds:List D),vs.size=ds.length->(∀ (i:Nat) v d,vs[i]?=some v->ds[i]?=some d->aE C v (d.kill r)) ->
   vs.size=(D.iK r ds).length/\∀ (i:Nat) v d,vs[i]?=some v->(D.iK r ds)[i]?=some d->aE C v d:=by
  intro vs ds hl ih;rw [ny];refine ⟨by simpa using hl,?_⟩;intro i v d hi hd;simp only [List.getElem?_map] at hd;cases e:ds[i]? with
  | none=>rw [e] at hd;cases hd
  | some x=>rw [e] at hd;cases hd;exact ih i v x hi e
 induction h with
 | fn f vs ds hl h ih=>obtain ⟨h1,h2⟩:=lst vs ds hl ih;simp only [D.kill];exact .fn f vs _ h1 h2
 | agg vs ds hl _ ih=>obtain ⟨h1,h2⟩:=lst vs ds hl ih;simp only [D.kill];exact .agg vs _ h1 h2
 | bD vs ds hl _ ih=>obtain ⟨h1,h2⟩:=lst vs ds hl ih;simp only [D.kill];exact .bD vs _ h1 h2
 | undef v=>exact .undef v
 | bool b=>exact .bool b
 | int k n=>exact .int k n
 | str s=>exact .str s
 | nil=>exact .nil
 | emp a=>exact .emp a
 | iP=>exact .iP
 | eM=>exact .eM
 | fu t v=>exact .fu t v
 | j4=>exact .j4
 | slnil z=>exact .slnil z
 | sl z a cap rows f hl hz hk hc h1 _=>exact .sl z a cap rows f hl hz hk hc h1
 | bI a cs f hn hc h1 _=>exact .bI a cs f hn hc h1
 | ref r' a len cap h=>simp only [D.kill];split;exact .undef _;exact .ref r' a len cap h
 | addr r' off a h=>simp only [D.kill];split;exact .undef _;exact .addr r' off a h
 | bQ r' z i k a len cap h=>simp only [D.kill];split;exact .undef _;exact .bQ r' z i k a len cap h
 | fj r' z lo len a a' L cap cap' h h1 h2 h3=>simp only [D.kill];split;exact .undef _;exact .fj r' z lo len a a' L cap cap' h h1 h2 h3
 | eI r' off z len cap a a' h h1 h2=>simp only [D.kill];split;exact .undef _;exact .eI r' off z len cap a a' h h1 h2
def vis (w:World) (lev:Nat->Option Nat) (a:Addr):Option Value:=
 match lev a.block with
 | none=>w.cell? a
 | some n=>if a.off < n then w.cell? a else none
theorem mB {w:World} {lev:Nat->Option Nat} {a:Addr} {v:Value} (h:vis w lev a=some v):w.cell? a=some v:=by
 unfold vis at h;split at h
 ·exact h
 ·split at h
  ·exact h
  ·cases h
abbrev cx (w:World) (lev:Nat->Option Nat) (S:Nat->Option Value):Cx:=⟨vis w lev,S⟩
def Og (G:Nat->Option (Nat × Nat)) (B b lo hi:Nat):Prop:=B<=b\/∃ l h,G b=some (l,h)/\l<=lo/\hi<=h
def jZ (B:Nat) (G:Nat->Option (Nat × Nat)) (w:World) (lev own:Nat->Option Nat) (S:Nat->Option Value) (r:Nat):D->Prop
 | .box cs=>∃ (b o:Nat) (c:Array Value) (E:TypeId),S r=some (.pointer (some ⟨b,o,none⟩))/\w.heap[b]?=some (.cells c E (0,0))/\o+cs.length<=c.size/\lev b=some 0/\own b=some r /\
   Og G B b o (o+cs.length)/\∀ (j:Nat) u e,c[o+j]?=some u->cs[j]?=some e->aE (cx w lev S) u e
 | .own z rows=>(∃ a,S r=some (.slice a 0 0)/\rows=[])\/∃ (b:Nat) (c:Array Value) (E:TypeId) (cap:Nat),S r=some (.slice (some ⟨b,0,none⟩) rows.length cap)/\w.heap[b]?=some (.cells c E (0,0)) /\
   c.size=cap*z/\rows.length<=cap/\(∀ r∈rows,r.length=z)/\(∀ r∈rows,∀ d∈r,dw d)/\lev b=some 0/\own b=some r/\Og G B b 0 c.size /\
   ∀ (i j:Nat) row d,rows[i]?=some row->row[j]?=some d->∃ u,c[i*z+j]?=some u/\aE (cx w lev S) u d
 | .undef=>S r=none
 | _=>False
def jm (tmps:Array Value):Nat->Value:=fun t=>tmps.getD t Go.undef
def jH (w0 w:World) (b lo hi:Nat):Prop:=
 ∃ (c0 c:Array Value) (E:TypeId),w0.heap[b]?=some (.cells c0 E (0,0))/\w.heap[b]?=some (.cells c E (0,0))/\c.size=c0.size/\∀ j,(j < lo\/hi<=j)->c[j]?=c0[j]?
def tabs:List (Nat × IntKind × List Int):=[]
def VY (w:World) (G:Nat->Option (Nat × Nat)):Prop:=∀ t∈tabs,G t.1=none/\∃ E x,w.heap[t.1]?=some (.cells (t.2.2.map fun n=>Value.int t.2.1 n).toArray E x)
structure Inv (w0:World) (l0:Nat->Option Nat) (G:Nat->Option (Nat × Nat)) (S0:Nat->Option Value) (w:World) (lev own:Nat->Option Nat) (S:Nat->Option Value) (env:Env) (tm:Nat->Value):Prop where
 os:w.os=w0.os/\VY w0 G
 tape:w.tape=w0.tape
 output:w.output=w0.output
 size:w0.heap.size<=w.heap.size
 old:∀ b,b < w0.heap.size->G b=none->w.heap[b]?=w0.heap[b]?
 part:∀ b lo hi,G b=some (lo,hi)->jH w0 w b lo hi
 priv:∀ b m,lev b=some m->b < w.heap.size
 iy:∀ b,b < w0.heap.size->G b=none->lev b=l0 b
 K7:∀ i,i < 16->env.o i≠.undef->S i=S0 i
 kX:∀ s,aE (cx w lev S) (tm s) (env.t s)
 objs:∀ r,jZ w0.heap.size G w lev own S r (env.o r)
def mA (w:World) (lev:Nat->Option Nat) (w':World) (lev':Nat->Option Nat):Prop:=∀ a v,vis w lev a=some v->vis w' lev' a=some v
theorem aE.fC {w w':World} {lev lev':Nat->Option Nat} {S S':Nat->Option Value} {v:Value} {d:D} (r:aE (cx w lev S) v d) (hv:mA w lev w' lev') (hS:∀ s∈d.names,∀ u,S s=some u->S' s=some u):aE (cx w' lev' S') v d:=
 aE.keep (C:=cx w lev S) (C':=cx w' lev' S') hv r hS
theorem aE.uY {w w':World} {lev lev':Nat->Option Nat} {S S':Nat->Option Value} {v:Value} {d:D} (r:aE (cx w lev S) v d) (hv:mA w lev w' lev') (hS:∀ s u,S s=some u->S' s=some u):aE (cx w' lev' S') v d:=
 r.fC hv fun s _=>hS s
theorem mA.refl (w:World) (lev:Nat->Option Nat):mA w lev w lev:=fun _ _ h=>h
end Go.Abs
