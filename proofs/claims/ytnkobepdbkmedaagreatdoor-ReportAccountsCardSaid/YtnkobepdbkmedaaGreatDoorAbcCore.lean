/- The abstract reading of values: what a frame's slots and the objects that it owns hold, as plain data. No theorem of a claim. -/
import Derived.Below
import Derived.Lib.ItoaNum
import Derived.Laws.Cells
import Derived.Laws.Rows
import Derived.Laws.Entries
import Derived.Laws.Sem
import Derived.ChangeKeysEq
set_option linter.unusedSimpArgs false
set_option linter.unusedVariables false
namespace Go.Abs
open Go.RowKit (Below)
inductive D where
 | undef
 | bool (b:Bool)
 | int (k:IntKind) (n:Int)
 | str (s:ByteArray)
 | nil
 | emp
 | jm
 | eH
 | fH
 | kU
 | fn (f:FuncId) (caps:List D)
 | agg (cs:List D)
 | bI (ds:List D)
 | sl (z:Nat) (rows:List (List D))
 | bN (cs:List D)
 | ref (r:Nat)
 | addr (r off:Nat)
 | bT (r z i k:Nat)
 | fC (r z lo len:Nat)
 | eO (r off z len cap:Nat)
 | own (z:Nat) (rows:List (List D))
 | box (cs:List D)
structure Env where
 t:Nat->D
 o:Nat->D
def e0:Env:=⟨fun _=>.undef,fun _=>.undef⟩
def dD (e:Env) (i:Nat) (d:D):Env:=⟨fun j=>if j=i then d else e.t j,e.o⟩
def eG (e:Env) (i:Nat) (d:D):Env:=⟨e.t,fun j=>if j=i then d else e.o j⟩
theorem IF (e:Env) (i:Nat) (d:D):(dD e i d).t i=d:=by simp [dD]
theorem Ed {e:Env} {i:Nat} {d:D} {j:Nat} (h:j≠i):(dD e i d).t j=e.t j:=by simp [dD,h]
theorem RE (e:Env) (i:Nat) (d:D):(eG e i d).o i=d:=by simp [eG]
theorem Qx {e:Env} {i:Nat} {d:D} {j:Nat} (h:j≠i):(eG e i d).o j=e.o j:=by simp [eG,h]
mutual
def D.names:D->List Nat
 | .fn _ cs=>D.cq cs
 | .agg cs=>D.cq cs
 | .bI cs=>D.cq cs
 | .box cs=>D.cq cs
 | .ref r=>[r]
 | .addr r _=>[r]
 | .bT r _ _ _=>[r]
 | .fC r _ _ _=>[r]
 | .eO r _ _ _ _=>[r]
 | _=>[]
def D.cq:List D->List Nat
 | []=>[]
 | d :: r=>d.names++D.cq r
end
theorem eu:∀ {cs:List D} {s:Nat},s∈D.cq cs ↔ ∃ d∈cs,s∈d.names
 | [],s=>by simp [D.cq]
 | d :: r,s=>by simp [D.cq,eu (cs:=r)]
mutual
/-- what names object r is forgotten -/
def D.kill (r:Nat):D->D
 | .fn f cs=>.fn f (D.jh r cs)
 | .agg cs=>.agg (D.jh r cs)
 | .bI cs=>.bI (D.jh r cs)
 | .box cs=>.box (D.jh r cs)
 | .ref s=>if s=r then .undef else .ref s
 | .addr s o=>if s=r then .undef else .addr s o
 | .bT s z i k=>if s=r then .undef else .bT s z i k
 | .fC s z l n=>if s=r then .undef else .fC s z l n
 | .eO s o z n c=>if s=r then .undef else .eO s o z n c
 | d=>d
def D.jh (r:Nat):List D->List D
 | []=>[]
 | d :: l=>d.kill r :: D.jh r l
end
theorem oc (r:Nat):∀ cs:List D,D.jh r cs=cs.map (D.kill r)
 | []=>rfl
 | d :: l=>by rw [D.jh,oc r l];rfl
def kj (r:Nat) (e:Env):Env:=⟨fun j=>(e.t j).kill r,fun j=>if j=r then .undef else (e.o j).kill r⟩
def eR:D->Prop
 | .undef | .agg _ | .bI _ | .box _ | .own _ _=>False
 | _=>True
def dF (d:D):Prop:=eR d/\d.names=[]
structure Cx where
 V:Addr->Option Value
 S:Nat->Option Value
inductive aE (C:Cx):Value->D->Prop
 | undef (v:Value):aE C v .undef
 | bool (b:Bool):aE C (.bool b) (.bool b)
 | int (k:IntKind) (n:Int):aE C (.int k n) (.int k n)
 | str (s:ByteArray):aE C (.string s) (.str s)
 | nil:aE C (.slice none 0 0) .nil
 | emp (a:Option Addr):aE C (.slice a 0 0) .emp
 | jm:aE C .nilFunc .jm
 | eH:aE C .nilIface .eH
 | fH (t:TypeId) (v:Value):aE C (.iface t v) .fH
 | kU:aE C (.pointer none) .kU
 | fn (f:FuncId) (vs:Array Value) (ds:List D):vs.size=ds.length->(∀ (i:Nat) v d,vs[i]?=some v->ds[i]?=some d->aE C v d)->aE C (.func (.func f) #[] vs) (.fn f ds)
 | agg (vs:Array Value) (ds:List D):vs.size=ds.length->(∀ (i:Nat) v d,vs[i]?=some v->ds[i]?=some d->aE C v d)->aE C (.agg vs) (.agg ds)
 | bI (vs:Array Value) (ds:List D):vs.size=ds.length->(∀ (i:Nat) v d,vs[i]?=some v->ds[i]?=some d->aE C v d)->aE C (.tuple vs) (.bI ds)
 | slnil (z:Nat):aE C (.slice none 0 0) (.sl z [])
 | sl (z:Nat) (a:Addr) (cap:Nat) (rows:List (List D)) (f:Nat->Nat->Value):rows.length<=cap->(∀ r∈rows,r.length=z)->(∀ r∈rows,∀ d∈r,dF d) ->
   (∀ (i j:Nat) r d,rows[i]?=some r->r[j]?=some d->C.V (a.add (i*z+j))=some (f i j)) ->
   (∀ (i j:Nat) r d,rows[i]?=some r->r[j]?=some d->aE C (f i j) d)->aE C (.slice (some a) rows.length cap) (.sl z rows)
 | bN (a:Addr) (cs:List D) (f:Nat->Value):(∀ d∈cs,d.names=[])->(∀ (j:Nat) d,cs[j]?=some d->C.V (a.add j)=some (f j))->(∀ (j:Nat) d,cs[j]?=some d->aE C (f j) d)->aE C (.pointer (some a)) (.bN cs)
 | ref (r:Nat) (a:Option Addr) (len cap:Nat):C.S r=some (.slice a len cap)->aE C (.slice a len cap) (.ref r)
 | addr (r off:Nat) (a:Addr):C.S r=some (.pointer (some a))->aE C (.pointer (some (a.add off))) (.addr r off)
 | bT (r z i k:Nat) (a:Addr) (len cap:Nat):C.S r=some (.slice (some a) len cap)->aE C (.pointer (some (a.add (i*z+k)))) (.bT r z i k)
 | fC (r z lo len:Nat) (a a':Option Addr) (L cap cap':Nat):C.S r=some (.slice a L cap)->(len≠0->∃ b,a=some b/\a'=some (b.add (lo*z)))->len<=cap'->(a'=none->cap'=0)->aE C (.slice a' len cap') (.fC r z lo len)
 | eO (r off z len cap:Nat) (a:Addr) (a':Option Addr):C.S r=some (.pointer (some a))->(cap≠0->a'=some (a.add off))->len<=cap->aE C (.slice a' len cap) (.eO r off z len cap)
theorem aE.keep {C C':Cx} (hV:∀ a v,C.V a=some v->C'.V a=some v) {v:Value} {d:D} (r:aE C v d) (hS:∀ s∈d.names,∀ u,C.S s=some u->C'.S s=some u):aE C' v d:=by
 induction r with
 | undef v=>exact .undef v
 | bool b=>exact .bool b
 | int k n=>exact .int k n
 | str s=>exact .str s
 | nil=>exact .nil
 | emp a=>exact .emp a
 | jm=>exact .jm
 | eH=>exact .eH
 | fH t v=>exact .fH t v
 | kU=>exact .kU
 | fn f vs ds hl _ ih=>exact .fn f vs ds hl fun i v d hi hd=>ih i v d hi hd fun s hs=>hS s (by simp only [D.names];exact eu.2 ⟨d,List.mem_of_getElem? hd,hs⟩)
 | agg vs ds hl _ ih=>exact .agg vs ds hl fun i v d hi hd=>ih i v d hi hd fun s hs=>hS s (by simp only [D.names];exact eu.2 ⟨d,List.mem_of_getElem? hd,hs⟩)
 | bI vs ds hl _ ih=>exact .bI vs ds hl fun i v d hi hd=>ih i v d hi hd fun s hs=>hS s (by simp only [D.names];exact eu.2 ⟨d,List.mem_of_getElem? hd,hs⟩)
 | slnil z=>exact .slnil z
 | sl z a cap rows f hl hz hk hc _ ih =>
  refine .sl z a cap rows f hl hz hk (fun i j r d hi hj=>hV _ _ (hc i j r d hi hj)) fun i j r d hi hj=>ih i j r d hi hj ?_
  intro s hs;rw [(hk r (List.mem_of_getElem? hi) d (List.mem_of_getElem? hj)).2] at hs;cases hs
 | bN a cs f hn hc _ ih =>
  refine .bN a cs f hn (fun j d hj=>hV _ _ (hc j d hj)) fun j d hj=>ih j d hj ?_
  intro s hs;rw [hn d (List.mem_of_getElem? hj)] at hs;cases hs
 | ref r a len cap h=>exact .ref r a len cap (hS r (by simp [D.names]) _ h)
 | addr r off a h=>exact .addr r off a (hS r (by simp [D.names]) _ h)
 | bT r z i k a len cap h=>exact .bT r z i k a len cap (hS r (by simp [D.names]) _ h)
 | fC r z lo len a a' L cap cap' h h1 h2 h3=>exact .fC r z lo len a a' L cap cap' (hS r (by simp [D.names]) _ h) h1 h2 h3
 | eO r off z len cap a a' h h1 h2=>exact .eO r off z len cap a a' (hS r (by simp [D.names]) _ h) h1 h2
theorem aE.mono {C C':Cx} (hV:∀ a v,C.V a=some v->C'.V a=some v) (hS:∀ s u,C.S s=some u->C'.S s=some u) {v:Value} {d:D} (r:aE C v d):aE C' v d:=
 r.keep hV fun s _=>hS s
mutual
theorem rP (r:Nat):∀ (d:D),∀ s∈(d.kill r).names,s∈d.names/\s≠r
 | .fn f cs=>fun s h=>by simp only [D.kill,D.names] at h |-;exact kQ r cs s h
 | .agg cs=>fun s h=>by simp only [D.kill,D.names] at h |-;exact kQ r cs s h
 | .bI cs=>fun s h=>by simp only [D.kill,D.names] at h |-;exact kQ r cs s h
 | .box cs=>fun s h=>by simp only [D.kill,D.names] at h |-;exact kQ r cs s h
 | .ref t=>fun s h=>by simp only [D.kill] at h;split at h<;>simp_all [D.names]
 | .addr t o=>fun s h=>by simp only [D.kill] at h;split at h<;>simp_all [D.names]
 | .bT t z i k=>fun s h=>by simp only [D.kill] at h;split at h<;>simp_all [D.names]
 | .fC t z l n=>fun s h=>by simp only [D.kill] at h;split at h<;>simp_all [D.names]
 | .eO t o z n c=>fun s h=>by simp only [D.kill] at h;split at h<;>simp_all [D.names]
 | .undef | .bool _ | .int _ _ | .str _ | .nil | .emp | .jm | .eH | .fH | .kU | .sl _ _ | .bN _ | .own _ _=>fun s h=>by simp [D.kill,D.names] at h
theorem kQ (r:Nat):∀ (cs:List D),∀ s∈D.cq (D.jh r cs),s∈D.cq cs/\s≠r
 | []=>fun s h=>by simp [D.jh,D.cq] at h
 | d :: l=>fun s h=>by
  simp only [D.jh,D.cq,List.mem_append] at h |-;rcases h with h | h
  ·exact ⟨.inl (rP r d s h).1,(rP r d s h).2⟩
  ·exact ⟨.inr (kQ r l s h).1,(kQ r l s h).2⟩
end
theorem aE.Yy {C:Cx} {v:Value} {d:D} (r:Nat) (h:aE C v d):aE C v (d.kill r):=by
 have lst:∀ (vs:Array Value) (ds:List D),vs.size=ds.length->(∀ (i:Nat) v d,vs[i]?=some v->ds[i]?=some d->aE C v (d.kill r)) ->
   vs.size=(D.jh r ds).length/\∀ (i:Nat) v d,vs[i]?=some v->(D.jh r ds)[i]?=some d->aE C v d:=by
  intro vs ds hl ih;rw [oc];refine ⟨by simpa using hl,?_⟩;intro i v d hi hd;simp only [List.getElem?_map] at hd;cases e:ds[i]? with
  | none=>rw [e] at hd;cases hd
  | some x=>rw [e] at hd;cases hd;exact ih i v x hi e
 induction h with
 | fn f vs ds hl h ih=>obtain ⟨h1,h2⟩:=lst vs ds hl ih;simp only [D.kill];exact .fn f vs _ h1 h2
 | agg vs ds hl _ ih=>obtain ⟨h1,h2⟩:=lst vs ds hl ih;simp only [D.kill];exact .agg vs _ h1 h2
 | bI vs ds hl _ ih=>obtain ⟨h1,h2⟩:=lst vs ds hl ih;simp only [D.kill];exact .bI vs _ h1 h2
 | undef v=>exact .undef v
 | bool b=>exact .bool b
 | int k n=>exact .int k n
 | str s=>exact .str s
 | nil=>exact .nil
 | emp a=>exact .emp a
 | jm=>exact .jm
 | eH=>exact .eH
 | fH t v=>exact .fH t v
 | kU=>exact .kU
 | slnil z=>exact .slnil z
 | sl z a cap rows f hl hz hk hc h1 _=>exact .sl z a cap rows f hl hz hk hc h1
 | bN a cs f hn hc h1 _=>exact .bN a cs f hn hc h1
 | ref r' a len cap h=>simp only [D.kill];split;exact .undef _;exact .ref r' a len cap h
 | addr r' off a h=>simp only [D.kill];split;exact .undef _;exact .addr r' off a h
 | bT r' z i k a len cap h=>simp only [D.kill];split;exact .undef _;exact .bT r' z i k a len cap h
 | fC r' z lo len a a' L cap cap' h h1 h2 h3=>simp only [D.kill];split;exact .undef _;exact .fC r' z lo len a a' L cap cap' h h1 h2 h3
 | eO r' off z len cap a a' h h1 h2=>simp only [D.kill];split;exact .undef _;exact .eO r' off z len cap a a' h h1 h2
def vis (w:World) (lev:Nat->Option Nat) (a:Addr):Option Value:=
 match lev a.block with
 | none=>w.cell? a
 | some n=>if a.off < n then w.cell? a else none
theorem lN {w:World} {lev:Nat->Option Nat} {a:Addr} {v:Value} (h:vis w lev a=some v):w.cell? a=some v:=by
 unfold vis at h;split at h
 ·exact h
 ·split at h
  ·exact h
  ·cases h
abbrev cx (w:World) (lev:Nat->Option Nat) (S:Nat->Option Value):Cx:=⟨vis w lev,S⟩
def Q7 (G:Nat->Option (Nat × Nat)) (B b lo hi:Nat):Prop:=B<=b\/∃ l h,G b=some (l,h)/\l<=lo/\hi<=h
def kf (B:Nat) (G:Nat->Option (Nat × Nat)) (w:World) (lev own:Nat->Option Nat) (S:Nat->Option Value) (r:Nat):D->Prop
 | .box cs=>∃ (b o:Nat) (c:Array Value) (E:TypeId),S r=some (.pointer (some ⟨b,o,none⟩))/\w.heap[b]?=some (.cells c E (0,0))/\o+cs.length<=c.size/\lev b=some 0/\own b=some r /\
   Q7 G B b o (o+cs.length)/\∀ (j:Nat) u e,c[o+j]?=some u->cs[j]?=some e->aE (cx w lev S) u e
 | .own z rows=>(∃ a,S r=some (.slice a 0 0)/\rows=[])\/∃ (b:Nat) (c:Array Value) (E:TypeId) (cap:Nat),S r=some (.slice (some ⟨b,0,none⟩) rows.length cap)/\w.heap[b]?=some (.cells c E (0,0)) /\
   c.size=cap*z/\rows.length<=cap/\(∀ r∈rows,r.length=z)/\(∀ r∈rows,∀ d∈r,dF d)/\lev b=some 0/\own b=some r/\Q7 G B b 0 c.size /\
   ∀ (i j:Nat) row d,rows[i]?=some row->row[j]?=some d->∃ u,c[i*z+j]?=some u/\aE (cx w lev S) u d
 | .undef=>S r=none
 | _=>False
def j8 (tmps:Array Value):Nat->Value:=fun t=>tmps.getD t Go.undef
def jZ (w0 w:World) (b lo hi:Nat):Prop:=
 ∃ (c0 c:Array Value) (E:TypeId),w0.heap[b]?=some (.cells c0 E (0,0))/\w.heap[b]?=some (.cells c E (0,0))/\c.size=c0.size/\∀ j,(j < lo\/hi<=j)->c[j]?=c0[j]?
def tabs:List (Nat × IntKind × List Int):=[(0,.u64,Go.Lib.pow10Tab)]
def MJ (w:World) (G:Nat->Option (Nat × Nat)):Prop:=∀ t∈tabs,G t.1=none/\∃ E x,w.heap[t.1]?=some (.cells (t.2.2.map fun n=>Value.int t.2.1 n).toArray E x)
structure Inv (w0:World) (l0:Nat->Option Nat) (G:Nat->Option (Nat × Nat)) (S0:Nat->Option Value) (w:World) (lev own:Nat->Option Nat) (S:Nat->Option Value) (env:Env) (tm:Nat->Value):Prop where
 os:w.os=w0.os/\MJ w0 G
 tape:w.tape=w0.tape
 output:w.output=w0.output
 size:w0.heap.size<=w.heap.size
 old:∀ b,b < w0.heap.size->G b=none->w.heap[b]?=w0.heap[b]?
 part:∀ b lo hi,G b=some (lo,hi)->jZ w0 w b lo hi
 priv:∀ b m,lev b=some m->b < w.heap.size
 iP:∀ b,b < w0.heap.size->G b=none->lev b=l0 b
 Pz:∀ i,i < 16->env.o i≠.undef->S i=S0 i
 lU:∀ s,aE (cx w lev S) (tm s) (env.t s)
 objs:∀ r,kf w0.heap.size G w lev own S r (env.o r)
def mZ (w:World) (lev:Nat->Option Nat) (w':World) (lev':Nat->Option Nat):Prop:=∀ a v,vis w lev a=some v->vis w' lev' a=some v
theorem aE.fP {w w':World} {lev lev':Nat->Option Nat} {S S':Nat->Option Value} {v:Value} {d:D} (r:aE (cx w lev S) v d) (hv:mZ w lev w' lev') (hS:∀ s∈d.names,∀ u,S s=some u->S' s=some u):aE (cx w' lev' S') v d:=
 aE.keep (C:=cx w lev S) (C':=cx w' lev' S') hv r hS
theorem aE.xI {w w':World} {lev lev':Nat->Option Nat} {S S':Nat->Option Value} {v:Value} {d:D} (r:aE (cx w lev S) v d) (hv:mZ w lev w' lev') (hS:∀ s u,S s=some u->S' s=some u):aE (cx w' lev' S') v d:=
 r.fP hv fun s _=>hS s
theorem mZ.refl (w:World) (lev:Nat->Option Nat):mZ w lev w lev:=fun _ _ h=>h
end Go.Abs
