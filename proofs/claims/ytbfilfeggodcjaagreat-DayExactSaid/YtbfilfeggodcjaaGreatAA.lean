/- The evaluator, part 1; no theorem of a claim. -/
import Derived.Below
import Derived.Laws.Cells
import Derived.Laws.Rows
import Derived.Laws.Entries
import Derived.Laws.Sem
import Derived.ChangeKeysEq
set_option linter.all false
namespace Go.Abs
open List
abbrev aE := @if_pos
abbrev az := @if_neg
abbrev bP := @decide_eq_true_eq
abbrev iX := @decide_eq_false_iff_not
abbrev cJ := @List.getElem?_eq_some_iff
abbrev kM := @take_succ_eq_append_getElem
abbrev gK := @Nat.mul_le_mul_right
abbrev cu := @append_assoc
abbrev cT := @length_append
abbrev cZ := @getElem_mem
abbrev ec := @getElem?_eq_getElem
abbrev cF := @Bool.true_and
abbrev eO := @Bool.false_and
abbrev bM := @mem_of_getElem?
abbrev cq := @Nat.lt_or_ge
abbrev cX := @Nat.le_refl
abbrev cR := @all_eq_true
abbrev gJ := @decide_eq_true
abbrev kY := @decide_eq_false
abbrev ef := @take_length
abbrev dw := @length_take
abbrev dW := @length_drop
abbrev mT := @drop_length
abbrev mE := @Bool.false_ne_true
abbrev jY := @Bool.not_eq_true'
abbrev jI := @take_append_drop
abbrev oC := @pairwise_cons
abbrev tN := @pairwise_iff_getElem
abbrev gy := @Option.some.injEq
abbrev kK := @mem_singleton
abbrev gm := @beq_iff_eq
abbrev gI := @Bool.eq_iff_iff
abbrev jH := @map_append
abbrev rR := @filter_append
def aI:True:=True.intro
def aj{p:Prop}(h:p:=by omega):p:=h
open Go.RowKit (Below)

inductive D where
 |undef
 |bool (b:Bool)
 |int (k:IntKind) (n:Int)
 |str (s:ByteArray)
 |nil
 |emp
 |jh
 |eB
 |eW
 |kP
 |fn (f:FuncId) (caps:List D)
 |agg (cs:List D)
 |bH (ds:List D)
 |sl (z:Nat) (rows:List (List D))
 |bq (cs:List D)
 |ref (r:Nat)
 |addr (r off:Nat)
 |bB (r z i k:Nat)
 |cN (r z lo len:Nat)
 |bz (r off z len cap:Nat)
 |own (z:Nat) (rows:List (List D))
 |box (cs:List D)
 |iI (z:Nat) (rows:List (List D))

structure Env where
 t:Nat->D
 o:Nat->D
def e0:Env:=⟨λ_=>.undef,λ_=>.undef⟩
def bk(e:Env)(i:Nat)(d:D):Env:=⟨λj=>if j=i then d else e.t j,e.o⟩
def bu(e:Env)(i:Nat)(d:D):Env:=⟨e.t,λj=>if j=i then d else e.o j⟩
def ED(e:Env)(i:Nat)(d:D):(bk e i d).t i=d:=by simp[bk]
variable{d:D}{j i:Nat}{e:Env}
def oT(h:j≠i):(bk e i d).t j=e.t j:=by simp[bk,h]
def EC(e:Env)(i:Nat)(d:D):(bu e i d).o i=d:=by simp[bu]
def tH(h:j≠i):(bu e i d).o j=e.o j:=by simp[bu,h]

mutual
def D.names:D->List Nat
 | .fn _ cs=>D.aQ cs
 | .agg cs=>D.aQ cs
 | .bH cs=>D.aQ cs
 | .box cs=>D.aQ cs
 | .ref r=>[r]
 | .addr r _=>[r]
 | .bB r _ _ _=>[r]
 | .cN r _ _ _=>[r]
 | .bz r _ _ _ _=>[r]
 | _=>[]
def D.aQ:List D->List Nat
 | []=>[]
 |d::r=>d.names++D.aQ r
end
theorem cj:∀{cs:List D} {s:Nat},s∈D.aQ cs↔∃d∈cs,s∈d.names
 | [],s=>by simp[D.aQ]
 |d::r,s=>by simp[D.aQ,cj (cs:=r)]
mutual
/-- what names object r is forgotten -/
def D.kill(r:Nat):D->D
 | .fn f cs=>.fn f (D.gN r cs)
 | .agg cs=>.agg (D.gN r cs)
 | .bH cs=>.bH (D.gN r cs)
 | .box cs=>.box (D.gN r cs)
 | .ref s=>if s=r then .undef else .ref s
 | .addr s o=>if s=r then .undef else .addr s o
 | .bB s z i k=>if s=r then .undef else .bB s z i k
 | .cN s z l n=>if s=r then .undef else .cN s z l n
 | .bz s o z n c=>if s=r then .undef else .bz s o z n c
 |d=>d
def D.gN(r:Nat):List D->List D
 | []=>[]
 |d::l=>d.kill r::D.gN r l
end
theorem iJ(r:Nat):∀cs:List D,D.gN r cs=cs.map (D.kill r)
 | []=>rfl
 |d::l=>by rw[D.gN,iJ r l];rfl
def gn(r:Nat)(e:Env):Env:=⟨λj=>(e.t j).kill r,λj=>if j=r then .undef else(e.o j).kill r⟩

def cG:D->Prop
 | .undef| .agg _| .bH _| .box _| .own _ _| .iI _ _=>False
 | _=>True
def br(d:D):Prop:=cG d/\d.names=[]

structure Cx where
 V:Addr->Option Value
 S:Nat->Option Value

inductive aD(C:Cx):Value->D->Prop
 |undef (v:Value):aD C v .undef
 |bool (b:Bool):aD C (.bool b) (.bool b)
 |int (k:IntKind) (n:Int):aD C (.int k n) (.int k n)
 |str (s:ByteArray):aD C (.string s) (.str s)
 |nil:aD C (.slice none 0 0) .nil
 |emp (a:Option Addr):aD C (.slice a 0 0) .emp
 |jh:aD C .nilFunc .jh
 |eB:aD C .nilIface .eB
 |eW (t:TypeId) (v:Value):aD C (.iface t v) .eW
 |kP:aD C (.pointer none) .kP
 |fn (f:FuncId) (vs:Array Value) (ds:List D):vs.size=ds.length->(∀(i:Nat) v d,vs[i]?=some v->ds[i]?=some d->aD C v d)->aD C (.func (.func f) #[] vs) (.fn f ds)
 |agg (vs:Array Value) (ds:List D):vs.size=ds.length->(∀(i:Nat) v d,vs[i]?=some v->ds[i]?=some d->aD C v d)->aD C (.agg vs) (.agg ds)
 |bH (vs:Array Value) (ds:List D):vs.size=ds.length->(∀(i:Nat) v d,vs[i]?=some v->ds[i]?=some d->aD C v d)->aD C (.tuple vs) (.bH ds)
 |slnil (z:Nat):aD C (.slice none 0 0) (.sl z [])
 |sl (z:Nat) (a:Addr) (cap:Nat) (rows:List (List D)) (f:Nat->Nat->Value):rows.length<=cap->(∀r∈rows,r.length=z)->(∀r∈rows,∀d∈r,br d) ->
   (∀(i j:Nat) r d,rows[i]?=some r->r[j]?=some d->C.V (a.add (i*z+j))=some (f i j)) ->
   (∀(i j:Nat) r d,rows[i]?=some r->r[j]?=some d->aD C (f i j) d)->aD C (.slice (some a) rows.length cap) (.sl z rows)
 |bq (a:Addr) (cs:List D) (f:Nat->Value):(∀d∈cs,d.names=[])->(∀(j:Nat) d,cs[j]?=some d->C.V (a.add j)=some (f j))->(∀(j:Nat) d,cs[j]?=some d->aD C (f j) d)->aD C (.pointer (some a)) (.bq cs)
 |ref (r:Nat) (a:Option Addr) (len cap:Nat):C.S r=some (.slice a len cap)->aD C (.slice a len cap) (.ref r)
 |addr (r off:Nat) (a:Addr):C.S r=some (.pointer (some a))->aD C (.pointer (some (a.add off))) (.addr r off)
 |bB (r z i k:Nat) (a:Addr) (len cap:Nat):C.S r=some (.slice (some a) len cap)->aD C (.pointer (some (a.add (i*z+k)))) (.bB r z i k)
 |cN (r z lo len:Nat) (a a':Option Addr) (L cap cap':Nat):C.S r=some (.slice a L cap)->(len≠0->∃b,a=some b/\a'=some (b.add (lo*z)))->len<=cap'->(a'=none->cap'=0)->aD C (.slice a' len cap') (.cN r z lo len)
 |bz (r off z len cap:Nat) (a:Addr) (a':Option Addr):C.S r=some (.pointer (some a))->(cap≠0->a'=some (a.add off))->len<=cap->aD C (.slice a' len cap) (.bz r off z len cap)

variable{v:Value}{C C':Cx}
theorem aD.keep(p:∀a v,C.V a=some v->C'.V a=some v)(r:aD C v d)(m:∀s∈d.names,∀u,C.S s=some u->C'.S s=some u):aD C' v d:=by
 induction r with
 |undef v=>exact .undef v
 |bool b=>exact .bool b
 |int k n=>exact .int k n
 |str s=>exact .str s
 |nil=>exact .nil
 |emp a=>exact .emp a
 |jh=>exact .jh
 |eB=>exact .eB
 |eW t v=>exact .eW t v
 |kP=>exact .kP
 |fn f vs ds hl _ ih=>exact .fn f vs ds hl λi v d g o=>ih i v d g o λs c=>m s (by simp only[D.names];exact cj.2 ⟨d,bM o,c⟩)
 |agg vs ds hl _ ih=>exact .agg vs ds hl λi v d g o=>ih i v d g o λs c=>m s (by simp only[D.names];exact cj.2 ⟨d,bM o,c⟩)
 |bH vs ds hl _ ih=>exact .bH vs ds hl λi v d g o=>ih i v d g o λs c=>m s (by simp only[D.names];exact cj.2 ⟨d,bM o,c⟩)
 |slnil z=>exact .slnil z
 |sl z a cap rows f hl hz hk hc _ ih =>
  refine .sl z a cap rows f hl hz hk (λi j r d g l=>p _ _ (hc i j r d g l)) λi j r d g l=>ih i j r d g l ?_;intro s c;rw[(hk r (bM g) d (bM l)).2]at c;cases c
 |bq a cs f hn hc _ ih =>
  refine .bq a cs f hn (λj d l=>p _ _ (hc j d l)) λj d l=>ih j d l ?_;intro s c;rw[hn d (bM l)]at c;cases c
 |ref r a len cap h=>exact .ref r a len cap (m r (by simp[D.names]) _ h)
 |addr r off a h=>exact .addr r off a (m r (by simp[D.names]) _ h)
 |bB r z i k a len cap h=>exact .bB r z i k a len cap (m r (by simp[D.names]) _ h)
 |cN r z lo len a a' L cap cap' h h1 h2 h3=>exact .cN r z lo len a a' L cap cap' (m r (by simp[D.names]) _ h) h1 h2 h3
 |bz r off z len cap a a' h h1 h2=>exact .bz r off z len cap a a' (m r (by simp[D.names]) _ h) h1 h2
def aD.mono(c:∀a v,C.V a=some v->C'.V a=some v)(b:∀s u,C.S s=some u->C'.S s=some u)(r:aD C v d):aD C' v d:=
 r.keep c λs _=>b s

mutual
theorem qS(r:Nat):∀(d:D),∀s∈(d.kill r).names,s∈d.names/\s≠r
 | .fn f cs=>λs h=>by simp only[D.kill,D.names]at h |-;exact kI r cs s h
 | .agg cs=>λs h=>by simp only[D.kill,D.names]at h |-;exact kI r cs s h
 | .bH cs=>λs h=>by simp only[D.kill,D.names]at h |-;exact kI r cs s h
 | .box cs=>λs h=>by simp only[D.kill,D.names]at h |-;exact kI r cs s h
 | .ref t=>λs h=>by simp only[D.kill]at h;split at h<;>simp_all[D.names]
 | .addr t o=>λs h=>by simp only[D.kill]at h;split at h<;>simp_all[D.names]
 | .bB t z i k=>λs h=>by simp only[D.kill]at h;split at h<;>simp_all[D.names]
 | .cN t z l n=>λs h=>by simp only[D.kill]at h;split at h<;>simp_all[D.names]
 | .bz t o z n c=>λs h=>by simp only[D.kill]at h;split at h<;>simp_all[D.names]
 | .undef| .bool _| .int _ _| .str _| .nil| .emp| .jh| .eB| .eW| .kP| .sl _ _| .bq _| .own _ _| .iI _ _=>λs h=>by simp[D.kill,D.names]at h
theorem kI(r:Nat):∀(cs:List D),∀s∈D.aQ (D.gN r cs),s∈D.aQ cs/\s≠r
 | []=>λs h=>by simp[D.gN,D.aQ]at h
 |d::l=>λs h=>by
  simp only[D.gN,D.aQ,mem_append]at h |-;rcases h with h|h
  ·exact⟨.inl (qS r d s h).1,(qS r d s h).2⟩
  ·exact⟨.inr (kI r l s h).1,(kI r l s h).2⟩
end
theorem aD.R5(r:Nat)(h:aD C v d):aD C v (d.kill r):=by
 have o:∀(vs:Array Value)(ds:List D),vs.size=ds.length->(∀(i:Nat) v d,vs[i]?=some v->ds[i]?=some d->aD C v (d.kill r)) ->
   vs.size=(D.gN r ds).length/\∀(i:Nat) v d,vs[i]?=some v->(D.gN r ds)[i]?=some d->aD C v d:=by
  intro vs ds l m;rw[iJ];refine⟨by simpa using l,?_⟩;intro i v d q p;simp only[getElem?_map]at p;cases e:ds[i]? with
  |none=>rw[e]at p;cases p
  |some x=>rw[e]at p;cases p;exact m i v x q e
 induction h with
 |fn f vs ds l h m=>obtain⟨c,g⟩:=o vs ds l m;simp only[D.kill];exact .fn f vs _ c g
 |agg vs ds l _ m=>obtain⟨c,g⟩:=o vs ds l m;simp only[D.kill];exact .agg vs _ c g
 |bH vs ds l _ m=>obtain⟨c,g⟩:=o vs ds l m;simp only[D.kill];exact .bH vs _ c g
 |undef v=>exact .undef v
 |bool b=>exact .bool b
 |int k n=>exact .int k n
 |str s=>exact .str s
 |nil=>exact .nil
 |emp a=>exact .emp a
 |jh=>exact .jh
 |eB=>exact .eB
 |eW t v=>exact .eW t v
 |kP=>exact .kP
 |slnil z=>exact .slnil z
 |sl z a cap rows f l hz hk hc c _=>exact .sl z a cap rows f l hz hk hc c
 |bq a cs f hn hc c _=>exact .bq a cs f hn hc c
 |ref r' a len cap h=>simp only[D.kill];split;exact .undef _;exact .ref r' a len cap h
 |addr r' off a h=>simp only[D.kill];split;exact .undef _;exact .addr r' off a h
 |bB r' z i k a len cap h=>simp only[D.kill];split;exact .undef _;exact .bB r' z i k a len cap h
 |cN r' z lo len a a' L cap cap' h c g h3=>simp only[D.kill];split;exact .undef _;exact .cN r' z lo len a a' L cap cap' h c g h3
 |bz r' off z len cap a a' h c g=>simp only[D.kill];split;exact .undef _;exact .bz r' off z len cap a a' h c g

def vis(w:World)(lev:Nat->Option Nat)(a:Addr):Option Value:=
 match lev a.block with
 |none=>w.cell? a
 |some n=>if a.off<n then w.cell? a else none
variable{lev:Nat->Option Nat}{w:World}
def lD{a:Addr}(h:vis w lev a=some v):w.cell? a=some v:=by
 unfold vis at h;split at h
 ·exact h
 ·split at h
  ·exact h
  ·cases h
abbrev cx(w:World)(lev:Nat->Option Nat)(S:Nat->Option Value):Cx:=⟨vis w lev,S⟩

def EI(G:Nat->Option (Nat×Nat))(B b lo a:Nat):Prop:=B<=b\/∃l h,G b=some (l,h)/\l<=lo/\a<=h
def Pj:Cx:=⟨λ_=>none,λ_=>none⟩
def ad7(B:Nat)(G:Nat->Option (Nat×Nat))(w:World)(lev own:Nat->Option Nat)(r a z:Nat)(rows:List (List D))(u:Value):Prop:=
 ∃(b:Nat)(c:Array Value)(E:TypeId)(cap:Nat),u=.slice (some ⟨b,0,none⟩) rows.length cap/\w.heap[b]?=some (.cells c E (0,0))/\c.size=cap*z/\rows.length<=cap/\(∀r∈rows,r.length=z) /\
  (∀r∈rows,∀d∈r,br d)/\lev b=some 0/\own b=some r/\b≠a/\EI G B b 0 c.size/\(∀(i j:Nat) row d,rows[i]?=some row->row[j]?=some d->(∃x,c[i*z+j]?=some x/\aD Pj x d))/\cap≠0
def At:D->Prop
 | .int _ _| .bool _=>True
 | _=>False
def At.rep{V V':Cx}{v:Value}{d:D}(h:At d)(r:aD V v d):aD V' v d/\br d/\∀a l c,v≠.slice a l c:=by
 cases r<;>first|exact h.elim|exact⟨.bool _,⟨trivial,rfl⟩,λ_ _ _ h=>by cases h⟩|exact⟨.int _ _,⟨trivial,rfl⟩,λ_ _ _ h=>by cases h⟩
def MD(B:Nat)(G:Nat->Option (Nat×Nat))(w:World)(lev own:Nat->Option Nat)(r b:Nat)(u:Value)(d:D):Prop:=
 (At d/\aD Pj u d)\/d=.undef\/∃z rows,d=.sl z rows/\((∃a,u=.slice a 0 0/\rows=[])\/ad7 B G w lev own r b z rows u)
def MA(c:Array Value)(n:Nat):Prop:=∀(m b:Nat) a a' l l' k k',m<n->b<n->c[m]?=some (.slice (some a) l k)->c[b]?=some (.slice (some a') l' k')->k≠0->k'≠0->a.block=a'.block->m=b
def gM(B:Nat)(G:Nat->Option (Nat×Nat))(w:World)(lev own:Nat->Option Nat)(S:Nat->Option Value)(r:Nat):D->Prop
 | .box cs=>∃(b o:Nat)(c:Array Value)(E:TypeId),S r=some (.pointer (some ⟨b,o,none⟩))/\w.heap[b]?=some (.cells c E (0,0))/\o+cs.length<=c.size/\lev b=some 0/\own b=some r /\
   EI G B b o (o+cs.length)/\∀(j:Nat) u e,c[o+j]?=some u->cs[j]?=some e->aD (cx w lev S) u e
 | .own z rows=>(∃a,S r=some (.slice a 0 0)/\rows=[])\/∃(b:Nat)(c:Array Value)(E:TypeId)(cap:Nat),S r=some (.slice (some ⟨b,0,none⟩) rows.length cap)/\w.heap[b]?=some (.cells c E (0,0)) /\
   c.size=cap*z/\rows.length<=cap/\(∀r∈rows,r.length=z)/\(∀r∈rows,∀d∈r,br d)/\lev b=some 0/\own b=some r/\EI G B b 0 c.size /\
   ∀(i j:Nat) row d,rows[i]?=some row->row[j]?=some d->∃u,c[i*z+j]?=some u/\aD (cx w lev S) u d
 | .iI z rows=>(∃a,S r=some (.slice a 0 0)/\rows=[])\/∃(b:Nat)(c:Array Value)(E:TypeId)(cap:Nat),S r=some (.slice (some ⟨b,0,none⟩) rows.length cap)/\w.heap[b]?=some (.cells c E (0,0)) /\
   c.size=cap*z/\rows.length<=cap/\(∀r∈rows,r.length=z)/\lev b=some 0/\own b=some r/\EI G B b 0 c.size/\MA c (rows.length*z) /\
   ∀(i j:Nat) row d,rows[i]?=some row->row[j]?=some d->∃u,c[i*z+j]?=some u/\MD B G w lev own r b u d
 | .undef=>S r=none
 | _=>False

def jk(tmps:Array Value):Nat->Value:=λt=>tmps.getD t Go.undef

def jG(f w:World)(b lo a:Nat):Prop:=
 ∃(c0 c:Array Value)(E:TypeId),f.heap[b]?=some (.cells c0 E (0,0))/\w.heap[b]?=some (.cells c E (0,0))/\c.size=c0.size/\∀j,(j<lo\/a<=j)->c[j]?=c0[j]?

inductive MN where
 |ints (k:IntKind) (l:List Int)
 |aeK (k:IntKind)
 |aev
def MN.holds:MN->Array Value->Prop
 | .ints k l,c=>c=(l.map λn=>Value.int k n).toArray
 | .aeK k,c=>∃n,c[0]?=some (.int k n)
 | .aev,c=>∃v,c[0]?=some v/\(v=.nilIface\/∃t u,v=.iface t u)
def tabs:List (Nat×MN):=[]
def MO(w:World)(G:Nat->Option (Nat×Nat)):Prop:=∀t∈tabs,G t.1=none/\∃E x c,w.heap[t.1]?=some (.cells c E x)/\t.2.holds c
structure Inv(w0:World)(l0:Nat->Option Nat)(G:Nat->Option (Nat×Nat))(S0:Nat->Option Value)(w:World)(lev own:Nat->Option Nat)(S:Nat->Option Value)(env:Env)(tm:Nat->Value):Prop where
 os:w.os=w0.os/\MO w0 G
 tape:w.tape=w0.tape
 output:w.output=w0.output
 size:w0.heap.size<=w.heap.size
 old:∀b,b<w0.heap.size->G b=none->w.heap[b]?=w0.heap[b]?
 part:∀b lo hi,G b=some (lo,hi)->jG w0 w b lo hi
 priv:∀b m,lev b=some m->b<w.heap.size
 gV:∀b,b<w0.heap.size->G b=none->lev b=l0 b
 It:∀i,i<16->env.o i≠.undef->S i=S0 i
 lV:∀s,aD (cx w lev S) (tm s) (env.t s)
 objs:∀r,gM w0.heap.size G w lev own S r (env.o r)

def jB(w:World)(lev:Nat->Option Nat)(w':World)(lev':Nat->Option Nat):Prop:=∀a v,vis w lev a=some v->vis w' lev' a=some v
variable{w':World}{S S':Nat->Option Value}{lev':Nat->Option Nat}
def aD.dQ(r:aD (cx w lev S) v d)(b:jB w lev w' lev')(a:∀s∈d.names,∀u,S s=some u->S' s=some u):aD (cx w' lev' S') v d:=
 aD.keep (C:=cx w lev S) (C':=cx w' lev' S') b r a
def aD.rN(r:aD (cx w lev S) v d)(b:jB w lev w' lev')(a:∀s u,S s=some u->S' s=some u):aD (cx w' lev' S') v d:=
 r.dQ b λs _=>a s
def jB.refl(w:World)(lev:Nat->Option Nat):jB w lev w lev:=λ_ _ h=>h

abbrev D.I(n:Int):D:=.int .i64 n
end Go.Abs
namespace Go.Abs

structure FT where
 off:Nat
 sz:Nat
 agg:Bool
structure yA where
 agg:Bool
 sz:Nat
inductive Ty where
 |int (k:IntKind)
 |bool
 |str
 |ptr
 |func
 |slice (z by_:Nat) (eagg:Bool)
 |arr (n z:Nat) (eagg:Bool)
 |struct (fs:List FT)
 |bad

def EN:TypeDesc->Bool
 | .struct _| .array _ _=>true
 | _=>false
def dS(P:Program)(t:TypeId):Option yA:=
 match P.underlying t,P.info? t with
 |some d,some i=>some ⟨EN d,i.size⟩
 | _,_=>none
def mz(P:Program):List Field->Option (List FT)
 | []=>some []
 |f::r=>match dS P f.type,mz P r with
  |some l,some fs=>if l.sz=0 then none else some (⟨f.offset,l.sz,l.agg⟩::fs)
  | _,_=>none
def bY(P:Program)(t:TypeId):Ty:=
 match P.underlying t with
 |some (.int k)=>.int k
 |some .bool=>.bool
 |some .string=>.str
 |some (.pointer _)=>.ptr
 |some (.func _ _ _)=>.func
 |some (.slice e)=>match dS P e,P.info? e with
  |some l,some i=>if l.sz=0 then .bad else if(i.zero.map λv=>v.cells.size)=some l.sz then .slice l.sz i.bytes l.agg else .bad
  | _,_=>.bad
 |some (.array n e)=>match dS P e with
  |some l=>if l.sz=0 then .bad else .arr n l.sz l.agg
  |none=>.bad
 |some (.struct fs)=>match mz P fs.toList with
  |some l=>.struct l
  |none=>.bad
 | _=>.bad

def o9:Value->D
 | .bool b=>.bool b
 | .int k n=>.int k n
 | .string s=>.str s
 | .slice none 0 0=>.nil
 | .nilFunc=>.jh
 | .nilIface=>.eB
 | .pointer none=>.kP
 | _=>.undef
def mW:Value->D
 | .agg cs=>.agg (cs.toList.map o9)
 | .tuple vs=>if vs.size=0 then .bH []else .undef
 |v=>o9 v
def iG(P:Program)(t:TypeId):Option (List D):=
 match P.info? t with
 |some i=>i.zero.map λv=>v.cells.toList.map o9
 |none=>none

def D.cells:D->List D
 | .agg cs=>cs
 |d=>[d]
def rd(e:Env):Operand->D
 | .tmp t=>e.t t
 | .const v=>mW v
 | .global _=>.undef
 | .func f=>.fn f []

def gd(g:Bool)(d:D):D:=if g then d else .bH []

def C6(c:BinOp)(k:IntKind)(a b:Int):D:=
 match c with
 | .add=>.int k (k.wrap (a+b))
 | .sub=>.int k (k.wrap (a-b))
 | .mul=>.int k (k.wrap (a*b))
 | .quo=>.int k (k.wrap (a.tdiv b))
 | .rem=>.int k (a.tmod b)
 | .and=>.int k (k.wrap (BitVec.ofInt k.bits a &&& BitVec.ofInt k.bits b).toNat)
 | .or=>.int k (k.wrap (BitVec.ofInt k.bits a |||BitVec.ofInt k.bits b).toNat)
 | .xor=>.int k (k.wrap (BitVec.ofInt k.bits a ^^^ BitVec.ofInt k.bits b).toNat)
 | .andNot=>.int k (k.wrap (BitVec.ofInt k.bits a &&& ~~~ BitVec.ofInt k.bits b).toNat)
 | .shl=>.int k (k.wrap (a*2^(min b.toNat k.bits)))
 | .shr=>.int k (a.fdiv (2^(min b.toNat k.bits)))
 | .eql=>.bool (a==b)
 | .neq=>.bool (a != b)
 | .lss=>.bool (decide (a<b))
 | .leq=>.bool (decide (a<=b))
 | .gtr=>.bool (decide (b<a))
 | .geq=>.bool (decide (b<=a))
def lR(c:BinOp)(k a:IntKind)(b:Int):Prop:=
 match c with
 | .shl| .shr=>0<=b
 | .quo| .rem=>k=a/\b≠0
 | _=>k=a
def Q1(c:BinOp)(a b:ByteArray):D:=
 match c with
 | .add=>.str (a++b)
 | .eql=>.bool (a.toList==b.toList)
 | .neq=>.bool (!(a.toList==b.toList))
 | .lss=>.bool (Op.bytesLess a.toList b.toList)
 | .leq=>.bool (Op.bytesLess a.toList b.toList||a.toList==b.toList)
 | .gtr=>.bool (!(Op.bytesLess a.toList b.toList||a.toList==b.toList))
 | .geq=>.bool (!Op.bytesLess a.toList b.toList)
 | _=>.undef
def Ey(c:BinOp)(a b:ByteArray):Prop:=
 match c with
 | .add=>a.size+b.size<=2^62
 | .eql| .neq| .lss| .leq| .gtr| .geq=>True
 | _=>False
inductive pN where
 |int|bool|str
def qa(lv:TypeId->Option (List pN)):List Field->Nat->Option (List pN)
 | [],_=>some []
 | f :: r, off => if f.name != "_" && f.offset == off then (match lv f.type with
  |some ls=>(qa lv r (off+ls.length)).map λrs=>ls++rs
  |none=>none)else none
def gv(P:Program):Nat->TypeId->Option (List pN)
 | 0,_=>none
 |k+1,t=>match P.underlying t,dS P t with
  |some (.int _),some ⟨false,1⟩=>some [.int]
  |some .bool,some ⟨false,1⟩=>some [.bool]
  |some .string,some ⟨false,1⟩=>some [.str]
  |some (.struct fs),some ⟨true,sz⟩=>if P.stoodInHeld t||P.eqGuardType P.depth t then none else(match qa (gv P k) fs.toList 0 with
   |some ls=>if ls.length=sz/\sz≠0 then some ls else none
   |none=>none)
  |some (.array n e),some ⟨true,sz⟩=>if P.eqGuardType P.depth t then none else(match gv P k e with
   |some ls=>if n*ls.length=sz/\sz≠0 then some (List.replicate n ls).flatten else none
   |none=>none)
  | _,_=>none
def rZ:D->D->Bool
 | .int _ a,.int _ b=>a==b
 | .bool a,.bool b=>a==b
 | .str a,.str b=>a==b
 | _,_=>false
def bV:List D->List D->Bool
 |a::x,b::y=>rZ a b&&bV x y
 | _,_=>true
def Bs:pN->D->D->Prop
 | .int,.int k _,.int k' _=>k=k'
 | .bool,.bool _,.bool _=>True
 | .str,.str _,.str _=>True
 | _,_,_=>False
def dn:List pN->List D->List D->Prop
 | [],[],[]=>True
 |l::ls,a::x,b::y=>Bs l a b/\dn ls x y
 | _,_,_=>False
def DV(a:BinOp)(b:Bool):D:=
 match a with
 | .eql=>.bool b
 | .neq=>.bool (!b)
 | _=>.undef
def tQ(c:BinOp):D->D->D
 | .int k a,.int _ b=>C6 c k a b
 | .str a,.str b=>Q1 c a b
 | .bool a,.bool b=>DV c (a==b)
 | .agg a,.agg b=>DV c (bV a b)
 | .eB,.eB=>DV c true
 | .eW,.eB=>DV c false
 | .eB,.eW=>DV c false
 | .kP,.kP=>DV c true
 | .addr _ _,.kP=>DV c false
 | .bq _,.kP=>DV c false
 | _,_=>.undef
def Au(c:BinOp)(t:Ty):D->D->Prop
 | .int k _,.int k' b=>lR c k k' b
 | .str a,.str b=>Ey c a b
 | .bool _,.bool _=>(c=.eql\/c=.neq)/\t=.bool
 | _,_=>False
def isEq(a:BinOp):Prop:=a=.eql\/a=.neq
def qb(o:Option (List pN))(a b:List D):Prop:=
 match o with
 |some ls=>dn ls a b
 |none=>False
def isIface(P:Program)(t:TypeId):Bool:=
 match P.underlying t with
 |some (.interface _)=>true
 | _=>false
def xI(P:Program)(t:TypeId):Bool:=
 match dS P t with
 |some l=>l.agg
 |none=>false
def GV:Ty->Prop
 | .ptr=>True
 | _=>False
def rU(P:Program)(c:Bool)(d:BinOp)(t:TypeId):D->D->Prop
 | .agg a,.agg b=>isEq d/\xI P t=true/\qb (gv P 9 t) a b
 | .eB,.eB=>isEq d/\isIface P t=true/\c=true
 | .eW,.eB=>isEq d/\isIface P t=true
 | .eB,.eW=>isEq d/\isIface P t=true
 | .kP,.kP=>isEq d/\GV (bY P t)
 | .addr _ _,.kP=>isEq d/\GV (bY P t)
 | .bq _,.kP=>isEq d/\GV (bY P t)
 |a,b=>Au d (bY P t) a b
def isConst:Operand->Bool
 | .const _=>true
 | _=>false
def sV(a:UnOp):D->D
 | .int k n=>match a with
  | .neg=>.int k (k.wrap (0-n))
  | .xor=>.int k (k.wrap (BitVec.ofInt k.bits (if k.signed then -1 else k.max) ^^^ BitVec.ofInt k.bits n).toNat)
  | _=>.undef
 | .bool b=>match a with
  | .not=>.bool (!b)
  | _=>.undef
 | _=>.undef
def pK(a:UnOp):D->Prop
 | .int _ _=>a=.neg\/a=.xor
 | .bool _=>a=.not
 | _=>False
def DP(s t:Ty):D->D
 | .int _ n=>match t with
  | .int k=>.int k (k.wrap n)
  | _=>.undef
 | .str b=>match t with
  | .str=>.str b
  | _=>.undef
 |d=>match s,t with
  | _,_=>d
def AS(s t:Ty):D->Prop
 | .int _ _=>(∃k,t=.int k)/\∃k,s=.int k
 | .str _=>t=.str/\s=.str
 | _=>False

def part(agg:Bool)(off n:Nat)(cs:List D):D:=if agg then .agg ((cs.drop off).take n)else(cs.drop off).headD .undef
def Mx(a:List FT)(f:Nat):D->D
 | .addr r o=>.addr r (o+((a[f]?).map (·.off)).getD 0)
 | .bB r z i k=>.bB r z i (k+((a[f]?).map (·.off)).getD 0)
 | .bq cs=>.bq (cs.drop (((a[f]?).map (·.off)).getD 0))
 | _=>.undef
def Li(a:List FT)(f:Nat):D->Prop
 | .addr _ _=>f<a.length
 | .bB _ _ _ _=>f<a.length
 | .bq _=>f<a.length
 | _=>False
def Lq(e:Env)(t:Ty):D->D->D
 | .sl _ rows,.int _ i=>.bq (rows.getD i.toNat [])
 | .ref r,.int _ i=>match t with
  | .slice z _ _=>.bB r z i.toNat 0
  | _=>.undef
 | .cN r z lo _,.int _ i=>.bB r z (lo+i.toNat) 0
 | .bz r off z _ _,.int _ i=>.addr r (off+i.toNat*z)
 | .addr r o,.int _ i=>match t with
  | .arr _ z _=>.addr r (o+i.toNat*z)
  | _=>.undef
 | .bB r z j k,.int _ i=>match t with
  | .arr _ z' _=>.bB r z j (k+i.toNat*z')
  | _=>.undef
 | .bq cs,.int _ i=>match t with
  | .arr _ z _=>.bq (cs.drop (i.toNat*z))
  | _=>.undef
 | _,_=>.undef
def JB(z:Nat):Ty->Prop
 | .slice z' _ _=>z=z'
 | _=>False
def Hv(z:Nat)(i:Int):D->Prop
 | .own z' rows=>z'=z/\i<rows.length
 | .iI z' rows=>z'=z/\i<rows.length
 | _=>False
def GP(e:Env)(t:Ty):D->D->Prop
 | .sl z rows,.int _ i=>JB z t/\0<=i/\i<rows.length
 | .ref r,.int _ i=>0<=i/\match t with
  | .slice z _ _=>Hv z i (e.o r)
  | _=>False
 | .cN _ z _ len,.int _ i=>JB z t/\0<=i/\i<len
 | .bz _ _ z len _,.int _ i=>JB z t/\0<=i/\i<len
 | .addr _ _,.int _ i| .bB _ _ _ _,.int _ i| .bq _,.int _ i=>match t with
  | .arr n _ _=>0<=i/\i<n
  | _=>False
 | _,_=>False
def ZY(t:Ty):D->D->D
 | .agg cs,.int _ i=>match t with
  | .arr _ z a=>part a (i.toNat*z) z cs
  | _=>.undef
 | .str s,.int _ i=>.int .u8 ((s[i.toNat]?).map (·.toNat)|>.getD 0)
 | _,_=>.undef
def GW(t:Ty):D->D->Prop
 | .agg cs,.int _ i=>match t with
  | .arr n z _=>0<=i/\i<n/\cs.length=n*z
  | _=>False
 | .str s,.int _ i=>t=.str/\0<=i/\i<s.size
 | _,_=>False
def Lp(a:List FT)(f:Nat):D->D
 | .agg cs=>match a[f]? with
  |some x=>part x.agg x.off x.sz cs
  |none=>.undef
 | _=>.undef
def DY(a:List FT)(f:Nat):D->Prop
 | .agg cs=>match a[f]? with
  |some x=>x.off+x.sz<=cs.length
  |none=>False
 | _=>False
def ldB(l:yA)(o:Nat):D->D
 | .box cs=>part l.agg o l.sz cs
 | _=>.undef
def ldW(l:yA)(i k:Nat):D->D
 | .own _ rows=>part l.agg k l.sz (rows.getD i [])
 | _=>.undef
def Pn(e:Env)(l:yA):D->D
 | .addr r o=>ldB l o (e.o r)
 | .bB r _ i k=>ldW l i k (e.o r)
 | .bq cs=>part l.agg 0 l.sz cs
 | _=>.undef
def ue(l:yA):Prop:=1<=l.sz/\(l.agg=false->l.sz=1)
def Kk(l:yA)(o:Nat):D->Prop
 | .box cs=>o+l.sz<=cs.length/\ue l
 | _=>False
def Kl(l:yA)(z i k:Nat):D->Prop
 | .own z' rows=>z'=z/\i<rows.length/\k+l.sz<=z/\ue l
 | _=>False
def Fj(e:Env)(l:yA):D->Prop
 | .addr r o=>Kk l o (e.o r)
 | .bB r z i k=>Kl l z i k (e.o r)
 | .bq cs=>l.sz<=cs.length/\ue l
 | _=>False
def dc(cs:List D)(o:Nat)(xs:List D):List D:=cs.take o++xs++cs.drop (o+xs.length)

def jd:List D->List (Nat×Nat×D)->List D
 |cs,[]=>cs
 |cs,(off,_,d)::r=>jd (dc cs off d.cells) r
def j6(n:Nat):List (Nat×Nat×D)->Prop
 | []=>True
 | (off,sz,d)::r=>d.cells.length=sz/\off+sz<=n/\(∀c∈d.cells,cG c)/\j6 n r
def rowsOf(z:Nat):Nat->List D->List (List D)
 | 0,_=>[]
 |n+1,cs=>cs.take z::rowsOf z n (cs.drop z)

end Go.Abs
namespace Go.Abs

variable{t:TypeId}{i:TypeInfo}{l:yA}{v x y:Value}{k c:IntKind}{n:Int}{ds cs:List D}{rows:List (List D)}{z r off len cap:Nat}{op:BinOp}{b a:D}{d e:Operand}{f:UnOp}
section
variable{P:Program}{w:World}{V:Cx}

def aT{d:TypeDesc}(h:P.underlying t=some d)(w:World):(underlying t).run P w=.ok d w:=run_underlying h w
def fB(h:P.info? t=some i)(w:World):(typeInfo t).run P w=.ok i w:=by
 simp[typeInfo,program,h,Sem.run_bind,Sem.run]
def Ov(h:P.info? t=some i)(w:World):(sizeOf t).run P w=.ok i.size w:=by
 simp[sizeOf,fB h,Sem.run_bind,Sem.run]
def Kj(h:dS P t=some l):∃d i,P.underlying t=some d/\P.info? t=some i/\l=⟨EN d,i.size⟩:=by
 unfold dS at h;split at h
 ·rename_i d i g j;exact⟨d,i,g,j,by simpa using h.symm⟩
 ·cases h
def aZ(h:dS P t=some l)(w:World):(sizeOf t).run P w=.ok l.sz w:=by
 obtain⟨d,i,_,g,rfl⟩:=Kj h;exact Ov g w
def yd(h:dS P t=some l)(w:World):(isAgg t).run P w=.ok l.agg w:=by
 obtain⟨d,i,g,_,rfl⟩:=Kj h;simp only[isAgg,Sem.run_bind,aT g];cases d<;>simp[EN,Sem.run,pure]

def aD.cB(h:aD V v (.int k n)):v=.int k n:=by cases h;rfl
def aD.iY{b:Bool}(h:aD V v (.bool b)):v=.bool b:=by cases h;rfl
def aD.mD{s:ByteArray}(h:aD V v (.str s)):v=.string s:=by cases h;rfl
theorem aD.mu(h:aD V v (.agg ds)):∃vs,v=.agg vs/\vs.size=ds.length/\∀(i:Nat) v d,vs[i]?=some v->ds[i]?=some d->aD V v d:=by
 cases h with
 |agg vs ds hl hi=>exact⟨vs,rfl,hl,hi⟩
theorem aD.wY(h:aD V v (.bH ds)):∃vs,v=.tuple vs/\vs.size=ds.length/\∀(i:Nat) v d,vs[i]?=some v->ds[i]?=some d->aD V v d:=by
 cases h with
 |bH vs ds hl hi=>exact⟨vs,rfl,hl,hi⟩
theorem aD.uE{f:FuncId}(h:aD V v (.fn f ds)):∃vs,v=.func (.func f) #[] vs/\vs.size=ds.length/\∀(i:Nat) v d,vs[i]?=some v->ds[i]?=some d->aD V v d:=by
 cases h with
 |fn f vs ds hl hi=>exact⟨vs,rfl,hl,hi⟩
theorem aD.u9(h:aD V v (.sl z rows)) :
  ∃a cap,v=.slice a rows.length cap/\rows.length<=cap/\(∀r∈rows,r.length=z)/\(∀r∈rows,∀d∈r,br d) /\
   (a=none->rows=[]/\cap=0)/\∀g,a=some g->∀(i j:Nat) r d,rows[i]?=some r->r[j]?=some d->∃u,V.V (g.add (i*z+j))=some u/\aD V u d:=by
 cases h with
 |slnil z=>exact⟨none,0,rfl,by simp,by simp,by simp,λ_=>⟨rfl,rfl⟩,(λg h=>by cases h)⟩
 |sl z a cap rows f hl hz hk hV hR =>
  refine⟨some a,cap,rfl,hl,hz,hk,(λh=>by cases h),?_⟩;rintro g ⟨⟩ i j r d hi hj;exact⟨_,hV i j r d hi hj,hR i j r d hi hj⟩
theorem aD.l8(h:aD V v (.bq cs)) :
  ∃a,v=.pointer (some a)/\(∀d∈cs,d.names=[])/\∀(j:Nat) d,cs[j]?=some d->∃u,V.V (a.add j)=some u/\aD V u d:=by
 cases h with
 |bq a cs f hn hV hR=>exact⟨a,rfl,hn,λj d g=>⟨_,hV j d g,hR j d g⟩⟩
theorem aD.gx(h:aD V v (.ref r)):V.S r=some v/\∃a len cap,v=.slice a len cap:=by
 cases h with
 |ref r a len cap h=>exact⟨h,a,len,cap,rfl⟩
theorem aD.iu(h:aD V v (.addr r off)):∃a,V.S r=some (.pointer (some a))/\v=.pointer (some (a.add off)):=by
 cases h with
 |addr r off a h=>exact⟨a,h,rfl⟩
theorem aD.gD{i k:Nat}(h:aD V v (.bB r z i k)):∃a len cap,V.S r=some (.slice (some a) len cap)/\v=.pointer (some (a.add (i*z+k))):=by
 cases h with
 |bB r z i k a len cap h=>exact⟨a,len,cap,h,rfl⟩
theorem aD.jP{lo:Nat}(h:aD V v (.cN r z lo len)):∃a j L cap g,V.S r=some (.slice a L cap)/\v=.slice j len g/\(len≠0->∃b,a=some b/\j=some (b.add (lo*z)))/\len<=g/\(j=none->g=0):=by
 cases h with
 |cN r z lo len a j L cap g h h1 h2 h3=>exact⟨a,j,L,cap,g,h,rfl,h1,h2,h3⟩
theorem aD.eg(h:aD V v (.bz r off z len cap)):∃a j g,V.S r=some (.pointer (some a))/\v=.slice j len g/\(len≠0->j=some (a.add off))/\len<=g/\(j=none->g=0)/\g=cap/\(cap≠0->j=some (a.add off)):=by
 cases h with
 |bz r off z len cap a j h h1 h2 =>
  refine⟨a,j,cap,h,rfl,λm=>h1 (by omega),h2,?_,rfl,h1⟩;intro m;by_cases e:cap=0
  ·exact e
  ·have:=h1 e;rw[m]at this;cases this

def fK{a:Addr}(q:rows.length<=cap)(s:∀r∈rows,r.length=z)(p:∀r∈rows,∀d∈r,br d)
  (h:∀(i j:Nat) r d,rows[i]?=some r->r[j]?=some d->∃u,V.V (a.add (i*z+j))=some u/\aD V u d):aD V (.slice (some a) rows.length cap) (.sl z rows):=
 .sl z a cap rows (λi j=>(V.V (a.add (i*z+j))).getD Go.undef) q s p
  (λi j r d g m=>by obtain⟨u,o,_⟩:=h i j r d g m;simp[o])
  (λi j r d g m=>by obtain⟨u,o,hr⟩:=h i j r d g m;simpa[o]using hr)
def kj{a:Addr}(o:∀d∈cs,d.names=[])(h:∀(j:Nat) d,cs[j]?=some d->∃u,V.V (a.add j)=some u/\aD V u d):aD V (.pointer (some a)) (.bq cs):=
 .bq a cs (λj=>(V.V (a.add j)).getD Go.undef) o
  (λj d g=>by obtain⟨u,m,_⟩:=h j d g;simp[m])
  (λj d g=>by obtain⟨u,m,hr⟩:=h j d g;simpa[m]using hr)

def oP(v:Value):aD V v (o9 v):=by
 unfold o9;split<;>first|exact .bool _|exact .int _ _|exact .str _|exact .nil|exact .jh|exact .eB|exact .kP|exact .undef _
def HO(v:Value):aD V v (mW v):=by
 unfold mW;split
 ·rename_i cs;refine .agg _ _ (by simp) ?_;intro i v d h g;simp only[List.getElem?_map]at g;have:cs.toList[i]?=some v:=by simpa using h
  rw[this]at g;simp at g;subst g;exact oP v
 ·rename_i vs;split
  ·rename_i j;have:vs = #[]:=by simpa using j
   subst this;exact .bH _ _ rfl (by intro i v d h;simp at h)
  ·exact .undef _
 ·exact oP _

/-! ### operators -/

def QU{m:Int}(h:lR op k c m)(w:World) :
  ∃u,(binOp op t (.int k n) (.int c m)).run P w=.ok u w/\aD V u (C6 op k n m):=by
 cases op
 case shl=>exact⟨_,by have j:¬m<0:=Int.not_lt.2 h;simp[binOp,Op.shift,j,Sem.run,pure],.int _ _⟩
 case shr=>exact⟨_,by have j:¬m<0:=Int.not_lt.2 h;simp[binOp,Op.shift,j,Sem.run,pure],.int _ _⟩
 case quo =>
  have g:=h.1;have o:=h.2;subst g;exact⟨_,by simp[binOp,Op.intDiv,o,Sem.run,pure],.int _ _⟩
 case rem =>
  have g:=h.1;have o:=h.2;subst g;exact⟨_,by simp[binOp,Op.intDiv,o,Sem.run,pure],.int _ _⟩
 all_goals
  have g:k=c:=h;subst g;first
   |exact⟨_,by simp[binOp,Op.intArith,Op.intBits,Op.intCmp,Sem.run,pure],.int _ _⟩
   |exact⟨_,by simp[binOp,Op.intArith,Op.intBits,Op.intCmp,Sem.run,pure],.bool _⟩

def run_equalIn_bool(g:P.underlying t=some .bool)(d:Nat)(p q:Bool)(w:World):(Op.equalIn (d+1) t (.bool p) (.bool q)).run P w=.ok (p==q) w:=by
 unfold Op.equalIn;simp only[Sem.run_bind,aT g];rfl

def L5(j:aD V x a)(o:aD V y b)(h:Au op (bY P t) a b)(w:World) :
  ∃u,(binOp op t x y).run P w=.ok u w/\aD V u (tQ op a b):=by
 cases a<;>try exact h.elim
 case int k n =>
  cases b<;>try exact h.elim
  case int k' m =>
   rw[j.cB,o.cB];exact QU h w
 case str s =>
  cases b<;>try exact h.elim
  case str s' =>
   rw[j.mD,o.mD];simp only[Au]at h;cases op<;>simp only[Ey]at h<;>try exact h.elim
   case add =>
    refine⟨.string (s++s'),?_,.str _⟩;have:¬(((s.size+s'.size:Nat):Int)>IntKind.i64.max):=by
     simp[IntKind.max,IntKind.bits,IntKind.signed];omega
    simp only[binOp,Op.stringOp,az this];rfl
   all_goals exact⟨_,by simp only[binOp,Op.stringOp];rfl,by simp only[tQ,Q1];constructor⟩
 case bool p =>
  cases b<;>try exact h.elim
  case bool q =>
   rw[j.iY,o.iY];obtain⟨B,g⟩:=h;have C:P.underlying t=some .bool:=by
    unfold bY at g;split at g<;>first|assumption| (exfalso;revert g;(repeat' split)<;>simp)|cases g
   have A:(Op.equal t (.bool p) (.bool q)).run P w=.ok (p==q) w:=by
    exact run_equalIn_bool C 9999 p q w
   rcases B with rfl|rfl
   ·exact⟨.bool (p==q),by simp[binOp,Sem.run_bind,A,Sem.run,pure],by simp only[tQ,DV];constructor⟩
   ·exact⟨.bool (!(p==q)),by simp[binOp,Sem.run_bind,A,Sem.run,pure],by simp only[tQ,DV];constructor⟩

def Ma(g:aD V x a)(h:pK f a)(w:World) :
  ∃u,(Op.unary f x).run P w=.ok u w/\aD V u (sV f a):=by
 cases a<;>try exact h.elim
 case int k n =>
  rw[g.cB];rcases h with rfl|rfl
  ·exact⟨.int k (k.wrap (0-n)),by simp only[Op.unary,Op.intArith];rfl,.int _ _⟩
  ·exact⟨_,by simp[Op.unary,Op.intBits,Sem.run,pure];rfl,by simp only[sV];constructor⟩
 case bool b =>
  rw[g.iY];simp only[pK]at h;subst h;exact⟨.bool (!b),rfl,by simp only[sV];constructor⟩

def F5(h:bY P t=.int k):P.underlying t=some (.int k):=by
 unfold bY at h;split at h<;>first| (cases h;assumption)|cases h| (exfalso;revert h;(repeat' split)<;>simp)
def w9(h:bY P t=.str):P.underlying t=some .string:=by
 unfold bY at h;split at h<;>first| (cases h;assumption)|cases h| (exfalso;revert h;(repeat' split)<;>simp)
def bK{n:Nat}{a:Bool}(h:bY P t=.slice z n a) :
  ∃e i,P.underlying t=some (.slice e)/\dS P e=some ⟨a,z⟩/\P.info? e=some i/\i.bytes=n/\z≠0/\∃j,i.zero=some j/\j.cells.size=z:=by
 unfold bY at h;split at h<;>try(cases h;done)
 ·rename_i e q;split at h<;>try(cases h;done)
  rename_i l i p o;split at h
  ·cases h
  ·split at h
   ·rename_i g;cases h;cases m:i.zero with
    |none=>rw[m]at g;cases g
    |some j =>
     rw[m]at g;exact⟨e,i,q,p,o,rfl,by assumption,j,m,by simpa using g⟩
   ·cases h
 ·split at h<;>try(cases h;done)
  split at h<;>cases h
 ·split at h<;>cases h
def w7{n:Nat}{a:Bool}(h:bY P t=.arr n z a):∃e,P.underlying t=some (.array n e)/\dS P e=some ⟨a,z⟩/\z≠0:=by
 unfold bY at h;split at h<;>try(cases h;done)
 ·split at h<;>try(cases h;done)
  split at h<;>try(cases h;done)
  split at h<;>cases h
 ·rename_i n' e j;split at h<;>try(cases h;done)
  rename_i l g;split at h
  ·cases h
  ·cases h;exact⟨e,j,g,by assumption⟩
 ·split at h<;>cases h
def vi{l:List FT}(h:bY P t=.struct l):∃g,P.underlying t=some (.struct g)/\mz P g.toList=some l:=by
 unfold bY at h;split at h<;>try(cases h;done)
 ·split at h<;>try(cases h;done)
  split at h<;>try(cases h;done)
  split at h<;>cases h
 ·split at h<;>try(cases h;done)
  split at h<;>cases h
 ·rename_i g j;split at h<;>try(cases h;done)
  cases h;exact⟨g,j,by assumption⟩
theorem uD:∀{m:List Field} {l:List FT},mz P m=some l->l.length=m.length/\∀(i:Nat) f,m[i]?=some f->∃ly,dS P f.type=some ly/\ly.sz≠0/\l[i]?=some ⟨f.offset,ly.sz,ly.agg⟩
 | [],l,h=>by simp only[mz,gy]at h;subst h;exact⟨rfl,by intro i f h;simp at h⟩
 |f::r,l,h=>by
  unfold mz at h;split at h<;>try(cases h;done)
  rename_i ly fs' q hr;split at h
  ·cases h
  ·rename_i s;cases h;obtain⟨o,p⟩:=uD hr;refine⟨by simp[o],?_⟩;intro i g j;cases i with
   |zero=>simp at j;subst j;exact⟨ly,q,s,rfl⟩
   |succ i=>simp at j |-;exact p i g j

def HT{s d:TypeId}(m:aD V x a)(h:AS (bY P s) (bY P d) a)(w:World) :
  ∃u,(convert s d x).run P w=.ok u w/\aD V u (DP (bY P s) (bY P d) a):=by
 cases a<;>try exact h.elim
 case int k n =>
  rw[m.cB];obtain⟨⟨o,g⟩,⟨k'',j⟩⟩:=h;refine⟨.int o (o.wrap n),?_,by simp only[DP,g];constructor⟩;simp[convert,Sem.run_bind,aT (F5 g),aT (F5 j),Conv.intToInt,Sem.run,pure]
 case str b =>
  rw[m.mD];obtain⟨g,j⟩:=h;refine⟨.string b,?_,by simp only[DP,g];constructor⟩;simp[convert,Sem.run_bind,aT (w9 g),aT (w9 j),Sem.run,pure]
end
end Go.Abs
namespace Go.Abs
open List

def add_add(a:Addr)(i j:Nat):(a.add i).add j=a.add (i+j):=by
 unfold Addr.add;by_cases b:i=0<;>by_cases e:j=0<;>simp[b,e,Nat.add_assoc]
def cm(b o j:Nat):(⟨b,o,none⟩:Addr).add j=⟨b,o+j,none⟩:=by
 unfold Addr.add;split
 ·rename_i h;simp[h]
 ·rfl
variable{E:TypeId}{c:Array Value}{d:Nat×Nat}
def eP(w:World)(b i:Nat)(h:w.heap[b]?=some (.cells c E d)):w.cell? ⟨b,i,none⟩=c[i]?:=by
 simp[World.cell?,h]

variable{l:yA}{t:TypeId}{a:Addr}{cs ds:List D}{x i:Value}{o f z m:Nat}{n:Int}{k:IntKind}{ea:Bool}
section
variable{P:Program}{w:World}{V:Cx}

theorem u7(e:dS P t=some l)(g:l.agg=false->l.sz=1)(cs:List Value)(b:cs.length=l.sz)
  (h:∀(j:Nat) v,cs[j]?=some v->w.cell? (a.add j)=some v) :
  (Instr.loadAt t (.pointer (some a))).run P w=.ok (if l.agg then .agg cs.toArray else cs.headD Go.undef) w:=by
 simp only[Instr.loadAt,Instr.sureAddr,loadVar,Sem.run_bind,yd e];cases p:l.agg with
 |false =>
  have q:=g p
  match cs,b.trans q with
  | [v],_ =>
   have:=h 0 v rfl;simp[load,Sem.run,pure,Addr.add]at this |-;simp[Sem.bind,Sem.run,this]
 |true =>
  have hr:=run_loadCells_list (P:=P) (w:=w) a cs h;rw[b]at hr;simp[Sem.run_bind,aZ e,hr,Sem.run,pure]

theorem BO{n:Nat}(h:1<=n):((cs.take n).headD .undef)=cs.headD .undef:=by
 cases cs with
 |nil=>simp
 |cons a t=>cases n with
  |zero=>omega
  |succ n=>simp

theorem Ep(p:l.agg=false->l.sz=1)(h0:1<=l.sz){vs:List Value}(g:vs.length=l.sz)(b:ds.length=l.sz)
  (h:∀(j:Nat) v d,vs[j]?=some v->ds[j]?=some d->aD V v d) :
  aD V (if l.agg then .agg vs.toArray else vs.headD Go.undef) (if l.agg then .agg ds else ds.headD .undef):=by
 cases q:l.agg with
 |true =>
  refine .agg _ _ (by simp[g,b]) ?_;intro i v d r s;exact h i v d (by simpa using r) s
 |false =>
  have e:=p q
  match vs,ds,g.trans e,b.trans e with
  | [v],[d],_,_=>exact h 0 v d rfl rfl

def FQ(y:∀a v,V.V a=some v->w.cell? a=some v)(B:dS P t=some l)(D:aD V x (.bq cs))
  (hs:l.sz<=cs.length) (h:1<=l.sz) (p:l.agg=false->l.sz=1) :
  ∃u,(Instr.loadAt t x).run P w=.ok u w/\aD V u (part l.agg 0 l.sz cs):=by
 obtain⟨a,rfl,hn,A⟩:=D.l8
 let f:Nat->Value:=λj=>(V.V (a.add j)).getD Go.undef
 have s:∀(j:Nat) d,cs[j]?=some d->V.V (a.add j)=some (f j)/\aD V (f j) d:=by
  intro j d b;obtain⟨u,C,hr⟩:=A j d b;simp only[f,C,Option.getD_some];exact⟨trivial,hr⟩
 have e:((range l.sz).map f).length=l.sz:=by simp
 refine⟨_,u7 B p ((range l.sz).map f) e ?_,?_⟩
 ·intro j v b;simp only[getElem?_map]at b;rcases cq j l.sz with hlt|hge
  ·rw[getElem?_range hlt]at b;simp at b;subst b;exact y _ _ (s j cs[j] (ec (by omega))).1
  ·rw[getElem?_eq_none (by simpa using hge)]at b;simp at b
 ·have:=Ep (V:=V) p h (vs:=(range l.sz).map f) (ds:=cs.take l.sz) e (by simp;omega) (by
   intro j v d g r;rcases cq j l.sz with hlt|hge
   ·simp only[getElem?_map,getElem?_range hlt,Option.map_some,gy]at g;rw[getElem?_take_of_lt hlt]at r;subst g;exact(s j d r).2
   ·rw[getElem?_eq_none (by simpa using hge)]at g;cases g)
  unfold part;simp only[drop_zero];cases q:l.agg with
  |true=>simpa[q]using this
  |false =>
   rw[q]at this;simp only[Bool.false_eq_true,if_false]at this |-;rw[BO h]at this;exact this

def sQ{l:List FT}(u:bY P t=.struct l)(q:f<l.length) :
  (Instr.fieldAt t (.pointer (some a)) f).run P w=.ok (.pointer (some (a.add (((l[f]?).map (·.off)).getD 0)))) w:=by
 obtain⟨g,v,e⟩:=vi u;obtain⟨s,r⟩:=uD e;have b:f<g.size:=by simpa[s]using q
 obtain⟨ly,h,j,p⟩:=r f g[f] (by simp[b]);simp[Instr.fieldAt,Sem.run_bind,aT v,b,Instr.sureAddr,fieldPlace,aZ h,j,p,Sem.run,pure]

def QT{l:List FT}(q:bY P t=.struct l)(h:f<l.length)(r:aD V x (.bq cs)) :
  ∃u,(Instr.fieldAt t x f).run P w=.ok u w/\aD V u (.bq (cs.drop (((l[f]?).map (·.off)).getD 0))):=by
 obtain⟨a,rfl,p,e⟩:=r.l8;refine⟨_,sQ q h,kj (λd g=>p d (mem_of_mem_drop g)) ?_⟩;intro j d b;rw[getElem?_drop]at b;rw[add_add];exact e _ d b

theorem HV(j:dS P t=some l){vs:Array Value}(hn:vs.size=ds.length)
  (h:∀(i:Nat) v d,vs[i]?=some v->ds[i]?=some d->aD V v d) {off:Nat} (ho:off+l.sz<=ds.length) (h0:1<=l.sz) :
  ∃u,(Go.part t vs off).run P w=.ok u w/\aD V u (part l.agg off l.sz ds):=by
 simp only[Go.part,Sem.run_bind,yd j,part];cases ha:l.agg with
 |true =>
  refine⟨.agg (vs.extract off (off+l.sz)),by simp[Sem.run_bind,aZ j,Sem.run,pure],.agg _ _ (by simp;omega) ?_⟩;intro i v d g e;rcases cq i l.sz with b|hge
  ·rw[getElem?_take_of_lt b,getElem?_drop]at e;refine h (off+i) v d ?_ e;rw[Array.getElem?_extract]at g;split at g
   ·simpa using g
   ·cases g
  ·rw[getElem?_eq_none (by simp;omega)]at e;cases e
 |false =>
  have b:off<vs.size:=by omega
  refine⟨vs[off],by simp[b,Sem.run,pure],?_⟩;have e:(ds.drop off).headD .undef=ds[off]'(by omega):=by
   rw[drop_eq_getElem_cons (by omega)];rfl
  rw[az (by simp),e];exact h off _ _ (by simp[b]) (ec (by omega))

def L6{l:List FT}(B:bY P t=.struct l)(D:aD V x (.agg ds))(h:DY l f (.agg ds)) :
  ∃u,(Instr.field t x f).run P w=.ok u w/\aD V u (Lp l f (.agg ds)):=by
 obtain⟨p,C,j⟩:=vi B;obtain⟨y,v⟩:=uD j;obtain⟨vs,rfl,A,s⟩:=D.mu;simp only[DY]at h;split at h
 ·rename_i ft b;have e:f<p.size:=by
   have:=(cJ.1 b).1;simpa[y]using this
  obtain⟨ly,r,h2,q⟩:=v f p[f] (by simp[e]);rw[b]at q;cases q;obtain⟨u,hr,g⟩:=HV (w:=w) r A s h (by omega);refine⟨u,?_,by simp only[Lp,b];exact g⟩;simp[Instr.field,Sem.run_bind,aT C,e,asAgg,Sem.run,pure,hr]
 ·exact h.elim

theorem run_indexAt_slice(B:bY P t=.slice z f ea){rows:List (List D)}
  (F:aD V x (.sl z rows)) (y:aD V i (.int k n)) (s:0<=n) (p:n<rows.length) :
  ∃u,(Instr.indexAt t x i).run P w=.ok u w/\aD V u (.bq (rows.getD n.toNat [])):=by
 obtain⟨e,inf,C,A,hin,hb,hz,_⟩:=bK B;obtain⟨a,cap,rfl,hcap,hrl,h,g,v⟩:=F.u9;rw[y.cB];cases a with
 |none =>
  have:=(g rfl).1;subst this;simp at p;omega
 |some ad =>
  refine⟨.pointer (some (ad.add (n.toNat*z))),?_,kj (λd q=>by
   have b:n.toNat<rows.length:=by omega
   have:rows.getD n.toNat []=rows[n.toNat]:=by simp[getD,ec b]
   rw[this]at q
   exact(h _ (cZ b) d q).2) ?_⟩
  ·simp[Instr.indexAt,Sem.run_bind,asIntOf,aT C,s,p,aZ A,Sem.run,pure]
  ·intro j d r;have b:n.toNat<rows.length:=by omega
   rw[add_add];have hr:rows[n.toNat]?=some rows[n.toNat]:=ec b;have:rows.getD n.toNat []=rows[n.toNat]:=by simp[getD,hr]
   rw[this]at r;exact v ad rfl n.toNat j _ d hr r

def m8(p:bY P t=.arr m z ea)
  (h:aD V i (.int k n)) (b:0<=n) (g:n<m) :
  (Instr.indexAt t (.pointer (some a)) i).run P w=.ok (.pointer (some (a.add (n.toNat*z)))) w:=by
 obtain⟨e,q,j,hz⟩:=w7 p;rw[h.cB];simp[Instr.indexAt,Sem.run_bind,asIntOf,aT q,b,g,aZ j,Instr.sureAddr,Sem.run,pure]

def DC(y:bY P t=.arr m z ea)
  (B:aD V x (.agg ds)) (s:aD V i (.int k n)) (j:0<=n) (p:n<m) (r:ds.length=m*z) :
  ∃u,(Instr.index t x i).run P w=.ok u w/\aD V u (part ea (n.toNat*z) z ds):=by
 obtain⟨e,A,h,C⟩:=w7 y;obtain⟨vs,rfl,v,q⟩:=B.mu;rw[s.cB];have g:n.toNat*z+z<=ds.length:=by
  rw[r,<-Nat.succ_mul];exact gK z (by omega)
 obtain⟨u,hr,b⟩:=HV (P:=P) (w:=w) h v q g (by simpa using Nat.one_le_iff_ne_zero.2 C);refine⟨u,?_,b⟩;simp[Instr.index,Sem.run_bind,asIntOf,aT A,j,p,aZ h,hr,Sem.run,pure]

def DD(h:bY P t=.str){s:ByteArray}
  (j:aD V x (.str s)) (g:aD V i (.int k n)) (e:0<=n) (h1:n<s.size) :
  ∃u,(Instr.index t x i).run P w=.ok u w/\aD V u (.int .u8 ((s[n.toNat]?).map (·.toNat)|>.getD 0)):=by
 rw[j.mD,g.cB];have b:n.toNat<s.size:=by omega
 refine⟨.int .u8 (s[n.toNat]'b).toNat,?_,?_⟩
 ·simp[Instr.index,Sem.run_bind,asIntOf,aT (w9 h),e,b,Sem.run,pure]
 ·simp[b];exact .int _ _

def wN(A:dS P t=some l)(y:∀(j:Nat) d,cs[j]?=some d->∃u,w.cell? (a.add j)=some u/\aD V u d)
  (hs:o+l.sz<=cs.length) (h:1<=l.sz) (p:l.agg=false->l.sz=1) :
  ∃u,(Instr.loadAt t (.pointer (some (a.add o)))).run P w=.ok u w/\aD V u (part l.agg o l.sz cs):=by
 let f:Nat->Value:=λj=>(w.cell? (a.add j)).getD Go.undef
 have s:∀(j:Nat) d,cs[j]?=some d->w.cell? (a.add j)=some (f j)/\aD V (f j) d:=by
  intro j d b;obtain⟨u,B,hr⟩:=y j d b;simp only[f,B,Option.getD_some];exact⟨trivial,hr⟩
 have e:((range l.sz).map λj=>f (o+j)).length=l.sz:=by simp
 refine⟨_,u7 A p ((range l.sz).map λj=>f (o+j)) e ?_,?_⟩
 ·intro j v b;simp only[getElem?_map]at b;rcases cq j l.sz with hlt|hge
  ·rw[getElem?_range hlt]at b;simp at b;subst b;rw[add_add];exact(s _ cs[o+j] (ec (by omega))).1
  ·rw[getElem?_eq_none (by simpa using hge)]at b;simp at b
 ·have:=Ep (V:=V) p h (vs:=(range l.sz).map λj=>f (o+j)) (ds:=(cs.drop o).take l.sz) e (by simp;omega) (by
   intro j v d g r;rcases cq j l.sz with hlt|hge
   ·simp only[getElem?_map,getElem?_range hlt,Option.map_some,gy]at g;rw[getElem?_take_of_lt hlt,getElem?_drop]at r;subst g;exact(s _ d r).2
   ·rw[getElem?_eq_none (by simpa using hge)]at g;cases g)
  unfold part;cases q:l.agg with
  |true=>simpa[q]using this
  |false =>
   rw[q]at this;simp only[Bool.false_eq_true,if_false]at this |-;rw[BO h]at this;exact this

end
end Go.Abs
namespace Go.Abs
open List

theorem sj:∀{a b x y:List D},a.length=b.length->bV (a++x) (b++y)=(bV a b&&bV x y)
 | [],[],x,y,_=>by simp[bV]
 | [],_::_,_,_,h=>by simp at h
 | _::_,[],_,_,h=>by simp at h
 |a::as,b::bs,x,y,h=>by simp[bV,sj (a:=as) (b:=bs) (by simpa using h),Bool.and_assoc]
theorem nB:∀{f rs:List pN} {x y:List D},dn (f++rs) x y->dn f (x.take f.length) (y.take f.length)/\dn rs (x.drop f.length) (y.drop f.length)
 | [],rs,x,y,h=>by simpa[dn]using h
 |l::f,rs,[],y,h=>by simp[dn]at h
 |l::f,rs,a::x,[],h=>by simp[dn]at h
 |l::f,rs,a::x,b::y,h=>by
  simp only[cons_append,dn]at h;obtain⟨g,i⟩:=nB h.2;simp[dn,h.1,g,i]
theorem lg:∀{f:List pN} {x y:List D},dn f x y->x.length=f.length/\y.length=f.length
 | [],[],[],_=>⟨rfl,rfl⟩
 | [],[],_::_,h=>h.elim
 | [],_::_,_,h=>h.elim
 | _::_,[],_,h=>h.elim
 | _::_,_::_,[],h=>h.elim
 |l::f,a::x,b::y,h=>by
  obtain⟨g,i⟩:=lg h.2;simp[g,i]

variable{off:Nat}{t:TypeId}{b a:D}{y x:Value}{op:BinOp}{c:List pN}{d e:Operand}
section
variable{P:Program}{w:World}{V:Cx}

def jQ(a:Bool)(off sz:Nat)(vs:Array Value):Value:=if a then .agg (vs.extract off (off+sz))else(vs[off]?).getD Go.undef
theorem tD{l:yA}(g:dS P t=some l)(vs:Array Value)(ho:off+l.sz<=vs.size)(h0:1<=l.sz):(Go.part t vs off).run P w=.ok (jQ l.agg off l.sz vs) w:=by
 simp only[Go.part,Sem.run_bind,yd g,jQ];cases ha:l.agg with
 |true=>simp[Sem.run_bind,aZ g,Sem.run,pure]
 |false =>
  have f:off<vs.size:=by omega
  simp[f,Sem.run,pure]

def nh(V:Cx)(vs:Array Value)(off:Nat)(ds:List D):Prop:=off+ds.length<=vs.size/\∀(j:Nat) d,ds[j]?=some d->∃u,vs[off+j]?=some u/\aD V u d
def nh.sub{vs:Array Value}{ds:List D}(h:nh V vs off ds)(k n:Nat)(hn:k+n<=ds.length):nh V vs (off+k) ((ds.drop k).take n):=by
 refine⟨by have:=h.1;simp;omega,?_⟩;intro j d f;have g:j<n:=by have:=(cJ.1 f).1;simp at this;omega
 rw[getElem?_take_of_lt g,getElem?_drop]at f;obtain⟨u,i,hr⟩:=h.2 _ d f;exact⟨u,by rw[Nat.add_assoc];exact i,hr⟩

def Sb(P:Program)(l:pN)(t:TypeId):Prop:=
 match l with
 | .int=>∃k,P.underlying t=some (.int k)
 | .bool=>P.underlying t=some .bool
 | .str=>P.underlying t=some .string
def IT{X:Array Value}{o:Nat}{cs:List D}(f:nh V X o cs)(sz:Nat)(hc:cs.length=sz):nh V (X.extract o (o+sz)) 0 cs:=by
 refine⟨by have:=f.1;simp;omega,?_⟩;intro j d g;have hlt:=(cJ.1 g).1;obtain⟨u,h,hr⟩:=f.2 j d g;refine⟨u,?_,hr⟩;rw[Array.getElem?_extract];rw[aE (by have:=f.1;omega)];simpa using h
def Ou{l:pN}{k:Nat}(g:aD V x a)(i:aD V y b)(h:Bs l a b)
  (f:Sb P l t) :
  (Op.equalIn (k+1) t x y).run P w=.ok (rZ a b) w:=by
 cases l<;>cases a<;>(try exact h.elim)<;>cases b<;>(try exact h.elim)
 ·have e:_=_:=h;subst e;rw[g.cB,i.cB];obtain⟨k',j⟩:=f;unfold Op.equalIn;simp[Sem.run_bind,aT j,rZ,Sem.run,pure]
 ·rw[g.iY,i.iY];unfold Op.equalIn;simp[Sem.run_bind,aT f,rZ,Sem.run,pure]
 ·rw[g.mD,i.mD];unfold Op.equalIn;simp[Sem.run_bind,aT f,rZ,Sem.run,pure]

theorem vL(f:List pN):∀n,(replicate n f).flatten.length=n*f.length
 | 0=>by simp
 |n+1=>by simp[replicate_succ,vL f n,Nat.succ_mul,Nat.add_comm]
theorem Bt:∀(k:Nat)(t:TypeId)(f:List pN),gv P k t=some f->1<=f.length
 | 0,t,f,h=>by simp[gv]at h
 |k+1,t,f,h=>by
  unfold gv at h;split at h<;>try(cases h;done)
  ·cases h;simp
  ·cases h;simp
  ·cases h;simp
  ·split at h
   ·cases h
   ·split at h<;>try(cases h;done)
    split at h<;>try(cases h;done)
    rename_i g;cases h;omega
  ·split at h
   ·cases h
   ·split at h<;>try(cases h;done)
    split at h<;>try(cases h;done)
    rename_i g;cases h;rw[vL];omega
def IS(m:Nat)(X Y:Array Value)(f:Field)(_s:Option Bool×Unit):Sem (ForInStep (Option Bool×Unit)):=
 if f.name ≠ "_" then do
  let x <-Go.part f.type X f.offset
  let y <-Go.part f.type Y f.offset
  let b <-Op.equalIn m f.type x y
  if(!b)=true then Sem.pure (ForInStep.done (some false,()))else Sem.pure (ForInStep.yield (none,()))
 else Sem.pure (ForInStep.yield (none,()))
def E5(m:Nat)(X Y:Array Value)(e:TypeId)(sz:Nat)(i:Nat)(_s:Option Bool×Unit):Sem (ForInStep (Option Bool×Unit)):=do
 let x <-Go.part e X (i*sz)
 let y <-Go.part e Y (i*sz)
 let b <-Op.equalIn m e x y
 if(!b)=true then Sem.pure (ForInStep.done (some false,()))else Sem.pure (ForInStep.yield (none,()))
theorem HU{k m:Nat}{X Y:Array Value} (H:∀(t:TypeId)(n:List pN),gv P k t=some n->∀(xs K:Array Value)(I J:Nat)(as bs:List D),nh V xs I as->nh V K J bs->dn n as bs ->
  ∃l,dS P t=some l/\l.sz=n.length/\(Op.equalIn m t (jQ l.agg I l.sz xs) (jQ l.agg J l.sz K)).run P w=.ok (bV as bs) w) :
  ∀(F:List Field)(off:Nat)(n:List pN)(as bs:List D),qa (gv P k) F off=some n->nh V X off as->nh V Y off bs->dn n as bs ->
   (forIn F ((none,()):Option Bool×Unit) (IS m X Y)).run P w=.ok (if bV as bs then(none,())else(some false,())) w
 | [],off,n,as,bs,h,hx,hy,hok=>by
  simp only[qa,gy]at h;subst h
  match as,bs,hok with
  | [],[],_=>simp[bV,Sem.run,pure]
 |f::r,off,n,as,bs,h,hx,hy,hok=>by
  unfold qa at h;split at h<;>try(cases h;done)
  rename_i B;simp only[Bool.and_eq_true,bne_iff_ne,ne_eq,gm]at B;split at h<;>try(cases h;done)
  rename_i g q;cases p:qa (gv P k) r (off+g.length)with
  |none=>rw[p]at h;cases h
  |some rs =>
   rw[p]at h;cases h;have j:=lg hok;obtain⟨o1,o2⟩:=nB hok;have hxl:g.length<=as.length:=by rw[j.1];simp
   have hyl:g.length<=bs.length:=by rw[j.2];simp
   have u:=hx.sub 0 g.length (by omega);have z:=hy.sub 0 g.length (by omega);simp only[Nat.add_zero,drop_zero]at u z;obtain⟨l,i,C,s⟩:=H f.type g q X Y off off _ _ u z o1;have v:=hx.sub g.length (as.length-g.length) (by omega);have A:=hy.sub g.length (bs.length-g.length) (by omega);rw[take_of_length_le (by simp)]at v A;have E:=HU H r (off+g.length) rs _ _ p v A o2;have G:1<=l.sz:=by rw[C];exact Bt k f.type g q
   have o:bV as bs=(bV (as.take g.length) (bs.take g.length)&&bV (as.drop g.length) (bs.drop g.length)):=by
    rw[<-sj (by simp;omega),jI,jI]
   have L:(Go.part f.type X f.offset).run P w=.ok (jQ l.agg off l.sz X) w:=by
    rw[B.2];exact tD i X (by have:=hx.1;omega) G
   have M:(Go.part f.type Y f.offset).run P w=.ok (jQ l.agg off l.sz Y) w:=by
    rw[B.2];exact tD i Y (by have:=hy.1;omega) G
   rw[forIn_cons];simp only[IS,B.1,ne_eq,not_false_eq_true,if_true,Sem.run_bind,L,M,s,Result.andThen_ok];rw[o];cases bV (as.take g.length) (bs.take g.length)with
   |false=>simp[Sem.run,pure,Sem.pure]
   |true =>
    simp only[Bool.not_true,Bool.false_eq_true,if_false,cF];rw[<-E];rfl
theorem Et{m:Nat}{X Y:Array Value}{e:TypeId}{f:List pN}{l:yA}(u:dS P e=some l)(g:l.sz=f.length)(v:1<=l.sz) (z:∀(xs F:Array Value)(A B:Nat)(as bs:List D),nh V xs A as->nh V F B bs->dn f as bs ->
  (Op.equalIn m e (jQ l.agg A l.sz xs) (jQ l.agg B l.sz F)).run P w=.ok (bV as bs) w) :
  ∀(n i:Nat)(as bs:List D),nh V X (i*f.length) as->nh V Y (i*f.length) bs->dn (replicate n f).flatten as bs ->
   (forIn (range' i n) ((none,()):Option Bool×Unit) (E5 m X Y e l.sz)).run P w=.ok (if bV as bs then(none,())else(some false,())) w
 | 0,i,as,bs,hx,hy,hok=>by
  match as,bs,hok with
  | [],[],_=>simp[bV,Sem.run,pure]
 |n+1,i,as,bs,hx,hy,hok=>by
  simp only[replicate_succ,flatten_cons]at hok;have h:=lg hok;obtain⟨o1,o2⟩:=nB hok;have hxl:f.length<=as.length:=by rw[h.1];simp
  have hyl:f.length<=bs.length:=by rw[h.2];simp
  have q:=hx.sub 0 f.length (by omega);have r:=hy.sub 0 f.length (by omega);simp only[Nat.add_zero,drop_zero]at q r;have j:=z X Y _ _ _ _ q r o1;have o:=hx.sub f.length (as.length-f.length) (by omega);have p:=hy.sub f.length (bs.length-f.length) (by omega);rw[take_of_length_le (by simp)]at o p;have G:i*f.length+f.length=(i+1)*f.length:=by rw[Nat.succ_mul]
  rw[G]at o p;have s:=Et u g v z n (i+1) _ _ o p o2;have k:bV as bs=(bV (as.take f.length) (bs.take f.length)&&bV (as.drop f.length) (bs.drop f.length)):=by
   rw[<-sj (by simp;omega),jI,jI]
  have C:(Go.part e X (i*l.sz)).run P w=.ok (jQ l.agg (i*l.sz) l.sz X) w:=tD u X (by rw[g];have:=hx.1;omega) v;have E:(Go.part e Y (i*l.sz)).run P w=.ok (jQ l.agg (i*l.sz) l.sz Y) w:=tD u Y (by rw[g];have:=hy.1;omega) v;rw[g]at j C E s |-;rw[range'_succ,forIn_cons];simp only[E5,Sem.run_bind,C,E,j,Result.andThen_ok];rw[k];cases bV (as.take f.length) (bs.take f.length)with
  |false=>simp[Sem.run,pure,Sem.pure]
  |true =>
   simp only[Bool.not_true,Bool.false_eq_true,if_false,cF];rw[<-s];rfl
theorem oR:∀(k:Nat)(t:TypeId)(H:List pN),gv P k t=some H->∀(m:Nat),k<=m->∀(xs E:Array Value)(q s:Nat)(as bs:List D),nh V xs q as->nh V E s bs->dn H as bs ->
  ∃l,dS P t=some l/\l.sz=H.length/\(Op.equalIn m t (jQ l.agg q l.sz xs) (jQ l.agg s l.sz E)).run P w=.ok (bV as bs) w
 | 0,t,H,h=>by simp[gv]at h
 |k+1,t,H,h=>by
  intro m hm xs E q s as bs F G g;obtain⟨m,rfl⟩:∃m',m=m'+1:=⟨m-1,by omega⟩
  have L:=lg g;have C:∀lf:pN,H=[lf]->dS P t=some ⟨false,1⟩->Sb P lf t ->
    ∃l,dS P t=some l/\l.sz=H.length/\(Op.equalIn (m+1) t (jQ l.agg q l.sz xs) (jQ l.agg s l.sz E)).run P w=.ok (bV as bs) w:=by
   intro lf e z Z;subst e
   match as,bs,g,F,G with
   | [a],[b],g,F,G =>
    refine⟨_,z,rfl,?_⟩;obtain⟨u,p,T⟩:=F.2 0 a rfl;obtain⟨v,hv,U⟩:=G.2 0 b rfl;simp only[jQ,Bool.false_eq_true,if_false];simp only[Nat.add_zero]at p hv;rw[p,hv];rw[Option.getD_some,Option.getD_some,Ou T U g.1 Z];simp[bV]
  unfold gv at h;split at h<;>try(cases h;done)
  ·rename_i ik p z;cases h;exact C .int rfl z ⟨_,p⟩
  ·rename_i p z;cases h;exact C .bool rfl z p
  ·rename_i p z;cases h;exact C .str rfl z p
  ·-- a struct
   rename_i fs sz p z;split at h
   ·cases h
   rename_i W;split at h<;>try(cases h;done)
   rename_i f S;split at h<;>try(cases h;done)
   rename_i i;cases h;refine⟨_,z,i.1.symm,?_⟩;simp only[jQ,if_true];have O:P.stoodInHeld t=false:=by
    cases e:P.stoodInHeld t with
    |false=>rfl
    |true=>simp[e]at W
   unfold Op.equalIn;simp only[Sem.run_bind,aT p,Result.andThen_ok,program,Sem.run,O];have j:=IT F sz (by omega);have o:=IT G sz (by omega);generalize xs.extract q (q+sz)=X at j |-;generalize E.extract s (s+sz)=Y at o |-;simp only[Bool.false_eq_true,if_false,pure,Sem.run];have R:=HU (P:=P) (w:=w) (V:=V) (k:=k) (m:=m) (X:=X) (Y:=Y) (λt H Z xs E q s as bs F G N=>oR k t H Z m (by omega) xs E q s as bs F G N) fs.toList 0 _ as bs S j o g;have I:(forIn fs ((none,()):Option Bool×Unit) (IS m X Y)).run P w=.ok (if bV as bs then(none,())else(some false,())) w:=by rw[<-Array.forIn_toList];exact R
   refine(Sem.run_bind ..).trans ?_;refine(congrArg (λr=>Result.andThen r _) I).trans ?_;cases bV as bs<;>rfl
  ·-- an array
   rename_i n e sz p z;split at h
   ·cases h
   split at h<;>try(cases h;done)
   rename_i f J;split at h<;>try(cases h;done)
   rename_i i;cases h;have hpos:=Bt k e f J;refine⟨_,z,by rw[vL];exact i.1.symm,?_⟩;simp only[jQ,if_true];unfold Op.equalIn;have B:as.length=sz/\bs.length=sz:=by rw[vL]at L;omega
   have j:=IT F sz (by omega);have o:=IT G sz (by omega);generalize xs.extract q (q+sz)=X at j |-;generalize E.extract s (s+sz)=Y at o |-
   have hn:1<=n:=by
    rcases Nat.eq_zero_or_pos n with h0|h0
    ·rw[h0]at i;omega
    ·exact h0
   have K:∃l,dS P e=some l/\l.sz=f.length:=by
    have aa:=j.sub 0 f.length (by rw[Nat.zero_add,B.1,<-i.1];exact Nat.le_mul_of_pos_left _ hn);have ab:=o.sub 0 f.length (by rw[Nat.zero_add,B.2,<-i.1];exact Nat.le_mul_of_pos_left _ hn);have N:dn f ((as.drop 0).take f.length) ((bs.drop 0).take f.length):=by
     obtain⟨n',rfl⟩:∃n',n=n'+1:=⟨n-1,by omega⟩
     rw[replicate_succ,flatten_cons]at g;exact(nB g).1
    obtain⟨l,Q,h2,_⟩:=oR k e f J m (by omega) X Y _ _ _ _ aa ab N;exact⟨l,Q,h2⟩
   obtain⟨l,A,M⟩:=K
   have R:=Et (P:=P) (w:=w) (V:=V) (m:=m) (X:=X) (Y:=Y) A M (by omega) (λxs E q s as bs F G N=>by
    obtain⟨l',Q,_,h3⟩:=oR k e f J m (by omega) xs E q s as bs F G N;rw[A]at Q;cases Q
    exact h3) n 0 as bs (by simpa using j) (by simpa using o) g
   simp only[Sem.run_bind,aT p,Result.andThen_ok,aZ A];have I:(forIn [0:n] ((none,()):Option Bool×Unit) (E5 m X Y e l.sz)).run P w=.ok (if bV as bs then(none,())else(some false,())) w:=by
    rw[Std.Legacy.Range.forIn_eq_forIn_range'];simpa[Std.Legacy.Range.size]using R
   refine(congrArg (λr=>Result.andThen r _) I).trans ?_;cases bV as bs<;>rfl

def GU(h:isIface P t=true):∃ms,P.underlying t=some (.interface ms):=by
 unfold isIface at h;split at h
 ·exact⟨_,by assumption⟩
 ·cases h
def Lw(h:GV (bY P t)):∃e,P.underlying t=some (.pointer e):=by
 have f:bY P t=.ptr:=by
  cases e:bY P t<;>rw[e]at h<;>first|rfl|exact h.elim
 unfold bY at f;split at f<;>first|cases f|skip
 all_goals first
  |exact⟨_,by assumption⟩
  | (exfalso;revert f;(repeat' split)<;>simp)

def Jt{c:Bool}(s:aD V x a)(z:aD V y b)(h:rU P c op t a b)(w:World) :
  ∃u,(binOp op t x y).run P w=.ok u w/\aD V u (tQ op a b):=by
 have C:Au op (bY P t) a b->∃u,(binOp op t x y).run P w=.ok u w/\aD V u (tQ op a b):=λh=>L5 s z h w;have iface:∀r:Bool,isEq op->(Op.equal t x y).run P w=.ok r w->(∃p q,x=.iface p q\/x=.nilIface)->(∃p q,y=.iface p q\/y=.nilIface)->∃u,(binOp op t x y).run P w=.ok u w/\aD V u (DV op r):=by
  rintro r f o ⟨p,q,A⟩ ⟨p',q',B⟩;rcases f with rfl|rfl<;>rcases A with rfl|rfl<;>rcases B with rfl|rfl <;>
   first
   |exact⟨.bool r,by simp[binOp,Sem.run_bind,o,Sem.run,pure],.bool _⟩
   |exact⟨.bool (!r),by simp[binOp,Sem.run_bind,o,Sem.run,pure],.bool _⟩
 have ptr:∀r:Bool,isEq op->(Op.equal t x y).run P w=.ok r w->(∃p,x=.pointer p)->(∃p,y=.pointer p)->∃u,(binOp op t x y).run P w=.ok u w/\aD V u (DV op r):=by
  rintro r f o ⟨p,A⟩ ⟨p',B⟩;subst A;subst B;rcases f with rfl|rfl
  ·exact⟨.bool r,by simp[binOp,Sem.run_bind,o,Sem.run,pure],.bool _⟩
  ·exact⟨.bool (!r),by simp[binOp,Sem.run_bind,o,Sem.run,pure],.bool _⟩
 have m:∀u v:Value,isIface P t=true->x=u->y=v->∀r:Bool,((u=.nilIface/\v=.nilIface/\r=true)\/(∃p q,u=.iface p q/\v=.nilIface/\r=false)\/(∃p q,u=.nilIface/\v=.iface p q/\r=false))->(Op.equal t x y).run P w=.ok r w:=by
  rintro u v g rfl rfl r hr;obtain⟨ms,N⟩:=GU g;show(Op.equalIn (9999+1) t _ _).run P w=_;rcases hr with⟨rfl,rfl,rfl⟩| ⟨p,q,rfl,rfl,rfl⟩| ⟨p,q,rfl,rfl,rfl⟩<;>(unfold Op.equalIn;simp only[Sem.run_bind,aT N,Result.andThen_ok];rfl)
 have k:∀u v:Option Addr,GV (bY P t)->x=.pointer u->y=.pointer v->v=none->(Op.equal t x y).run P w=.ok u.isNone w:=by
  rintro u v g rfl rfl rfl;obtain⟨ms,N⟩:=Lw g;show(Op.equalIn (9999+1) t _ _).run P w=_;cases u<;>(unfold Op.equalIn;simp only[Sem.run_bind,aT N,Result.andThen_ok];rfl)
 cases a<;>cases b<;>(try exact C h)<;>(try exact h.elim)
 all_goals simp only[rU]at h
 ·obtain⟨f,g,_⟩:=h;cases s;cases z;exact iface true f (m _ _ g rfl rfl true (.inl ⟨rfl,rfl,rfl⟩)) ⟨0,.nilIface,.inr rfl⟩ ⟨0,.nilIface,.inr rfl⟩
 ·obtain⟨f,g⟩:=h;cases s;cases z;exact iface false f (m _ _ g rfl rfl false (.inr (.inr ⟨_,_,rfl,rfl,rfl⟩))) ⟨0,.nilIface,.inr rfl⟩ ⟨_,_,.inl rfl⟩
 ·obtain⟨f,g⟩:=h;cases s;cases z;exact iface false f (m _ _ g rfl rfl false (.inr (.inl ⟨_,_,rfl,rfl,rfl⟩))) ⟨_,_,.inl rfl⟩ ⟨0,.nilIface,.inr rfl⟩
 ·obtain⟨f,g⟩:=h;cases s;cases z;exact ptr true f (k _ _ g rfl rfl rfl) ⟨_,rfl⟩ ⟨_,rfl⟩
 ·-- structs
  rename_i as bs;obtain⟨f,J,F⟩:=h;unfold qb at F;split at F
  ·rename_i W K;obtain⟨vs,rfl,U,hr⟩:=s.mu;obtain⟨H,rfl,M,L⟩:=z.mu;have E:∀(vs:Array Value)(ds:List D),vs.size=ds.length->(∀(i:Nat) v d,vs[i]?=some v->ds[i]?=some d->aD V v d)->nh V vs 0 ds:=by
    intro vs ds I O;refine⟨by omega,?_⟩;intro j d R;have G:j<vs.size:=by rw[I];exact(cJ.1 R).1
    exact⟨vs[j],by simp[G],O j _ d (by simp[G]) R⟩
   obtain⟨l,I,O,Q⟩:=oR (P:=P) (w:=w) (V:=V) 9 t W K 10000 (by omega) vs H 0 0 as bs (E _ _ U hr) (E _ _ M L) F;have hlen:=lg F;have n:l.agg=true:=by simpa[xI,I]using J
   have o:(Op.equal t (.agg vs) (.agg H)).run P w=.ok (bV as bs) w:=by
     have T:jQ l.agg 0 l.sz vs=.agg vs:=by simp[jQ,n];right;omega
     have e2:jQ l.agg 0 l.sz H=.agg H:=by simp[jQ,n];right;omega
     rw[T,e2]at Q;exact Q
   rcases f with rfl|rfl
   ·exact⟨.bool _,by simp[binOp,Sem.run_bind,o,Sem.run,pure],.bool _⟩
   ·exact⟨.bool _,by simp[binOp,Sem.run_bind,o,Sem.run,pure],.bool _⟩
  ·exact F.elim
 ·obtain⟨f,g⟩:=h;obtain⟨S,rfl,_⟩:=s.l8;cases z;exact ptr false f (k _ _ g rfl rfl rfl) ⟨_,rfl⟩ ⟨_,rfl⟩
 ·obtain⟨f,g⟩:=h;obtain⟨S,_,rfl⟩:=s.iu;cases z;exact ptr false f (k _ _ g rfl rfl rfl) ⟨_,rfl⟩ ⟨_,rfl⟩

def Fk(h:gv P 9 t=some c)(f:xI P t=true):P.eqGuardType P.depth t=false:=by
 unfold gv at h;unfold xI at f;split at h<;>try(cases h;done)
 ·rename_i g;rw[g]at f;cases f
 ·rename_i g;rw[g]at f;cases f
 ·rename_i g;rw[g]at f;cases f
 ·split at h
  ·cases h
  ·rename_i i;simp only[Bool.or_eq_true,not_or,Bool.not_eq_true]at i;exact i.2
 ·split at h
  ·cases h
  ·rename_i i;simpa using i
def FP(f:aD V x a)(g:aD V y b)(h:rU P (isConst d||isConst e) op t a b)(w:World) :
  (eqGuard op t d e x y).run P w=.ok () w:=by
 have i:Au op (bY P t) a b->(eqGuard op t d e x y).run P w=.ok () w:=λh=>by
  cases a<;>try exact h.elim
  all_goals(cases b<;>try exact h.elim)
  ·rw[f.iY,g.iY];cases op<;>simp[eqGuard,Sem.run,pure]
  ·rw[f.cB,g.cB];cases op<;>simp[eqGuard,Sem.run,pure]
  ·rw[f.mD,g.mD];cases op<;>simp[eqGuard,Sem.run,pure]
 cases a<;>cases b<;>(try exact i h)<;>(try exact h.elim)
 all_goals simp only[rU]at h
 ·obtain⟨m,hi,o⟩:=h;cases f;cases g;clear i;rcases m with rfl|rfl<;>revert o<;>cases d<;>cases e<;>simp[isConst,eqGuard,Sem.run_bind,Sem.run,pure]
 ·cases f;cases g;cases op<;>simp[eqGuard,Sem.run,pure]
 ·cases f;cases g;cases op<;>simp[eqGuard,Sem.run,pure]
 ·cases f;cases g;cases op<;>simp[eqGuard,Sem.run,pure]
 ·obtain⟨m,j,k⟩:=h;unfold qb at k;split at k
  ·rename_i ls l;obtain⟨vs,rfl,_⟩:=f.mu;obtain⟨us,rfl,_⟩:=g.mu;have p:=Fk l j;rcases m with rfl|rfl<;>simp[eqGuard,Sem.run_bind,program,p,Sem.run,pure]
  ·exact k.elim
 ·obtain⟨n,rfl,_⟩:=f.l8;cases g;cases op<;>simp[eqGuard,Sem.run,pure]
 ·obtain⟨n,_,rfl⟩:=f.iu;cases g;cases op<;>simp[eqGuard,Sem.run,pure]
end
end Go.Abs
namespace Go.Abs
open List

def zM(tm:Nat->Value)(s:Nat)(v:Value):Nat->Value:=λt=>if t=s then v else tm t
variable{s:Nat}
def OT{tmps:Array Value}(h:s<tmps.size)(v:Value):jk (tmps.setIfInBounds s v)=zM (jk tmps) s v:=by
 funext t;simp only[jk,zM,Array.getD_eq_getD_getElem?,Array.getElem?_setIfInBounds];by_cases e:s=t
 ·subst e;simp[h]
 ·simp[e,Ne.symm e]

def bL(c:Array Value)(o:Nat):List Value->Array Value
 | []=>c
 |v::r=>bL (c.setIfInBounds o v) (o+1) r
theorem bp:∀(vs:List Value)(c:Array Value)(o:Nat),(bL c o vs).size=c.size
 | [],_,_=>rfl
 |v::r,c,o=>by simp[bL,bp r]
theorem gl:∀(vs:List Value)(c:Array Value)(o j:Nat),o+vs.length<=c.size ->
  (bL c o vs)[j]?=if o<=j/\j<o+vs.length then vs[j-o]? else c[j]?
 | [],c,o,j,_=>by
  have:¬(o<=j/\j<o+([]:List Value).length):=by simp only[length_nil];omega
  simp only[bL,az this]
 |v::r,c,o,j,h=>by
  simp only[length_cons]at h;rw[bL,gl r _ _ j (by simp;omega)];by_cases e:o+1<=j/\j<o+1+r.length
  ·rw[aE e,aE (by simp only[length_cons];omega)];have:j-o=(j-(o+1))+1:=by omega
   rw[this];simp
  ·rw[az e];by_cases f:j=o
   ·subst f;have a:j<c.size:=by omega
    rw[aE (by simp only[length_cons];omega)];simp[a]
   ·rw[az (by simp only[length_cons];omega)];rw[Array.getElem?_setIfInBounds_ne (by omega)]

def cO(w:World)(b:Nat)(c:Array Value)(E:TypeId):World:={ w with heap:=w.heap.setIfInBounds b (.cells c E (0,0)) }
def yS(w:World)(b:Nat)(c:Array Value)(E:TypeId):(cO w b c E).heap.size=w.heap.size:=by simp[cO]
variable{b:Nat}{w:World}
def gh(h:b<w.heap.size)(c:Array Value)(E:TypeId):(cO w b c E).heap[b]?=some (.cells c E (0,0)):=by simp[cO,h]
variable{k:Nat}
def fU(h:k≠b)(c:Array Value)(E:TypeId):(cO w b c E).heap[k]?=w.heap[k]?:=by
 simp[cO,Array.getElem?_setIfInBounds_ne (Ne.symm h)]
def Ct{a:Addr}(h:a.block≠b)(c:Array Value)(E:TypeId):(cO w b c E).cell? a=w.cell? a:=by
 simp[World.cell?,fU h]
def lt_of_block{o:Obj}(h:w.heap[b]?=some o):b<w.heap.size:=(Array.getElem?_eq_some_iff.1 h).1

theorem eE{P:Program}(b o:Nat)(E:TypeId):∀(vs:List Value)(i:Nat)(c:Array Value)(w:World),w.heap[b]?=some (.cells c E (0,0))->o+i+vs.length<=c.size ->
  (∀v∈vs,v.oneCell'=true)->(storeCells ⟨b,o,none⟩ vs i).run P w=.ok () (cO w b (bL c (o+i) vs) E)
 | [],i,c,w,hb,_,_=>by
  have:cO w b c E=w:=by
   have a:=lt_of_block hb;have n:w.heap[b]=.cells c E (0,0):=by simpa[Array.getElem?_eq_getElem a]using hb
   cases w with
   |mk heap tape drawn os out =>
    simp only[cO]at *;congr 1;apply Array.ext_getElem?;intro k;rw[Array.getElem?_setIfInBounds];by_cases e:b=k
    ·subst e;rw[aE rfl,aE a,hb]
    ·rw[az e]
  simp[storeCells,bL,Sem.run,pure,this]
 |v::r,i,c,w,hb,hl,h1=>by
  simp only[length_cons]at hl;have a:o+i<c.size:=by omega
  have f:w.cell? ((⟨b,o,none⟩:Addr).add i)=some c[o+i]:=by rw[cm,eP w b _ hb];simp[a]
  have l:w.frozen? ((⟨b,o,none⟩:Addr).add i)=false:=by rw[cm];simp[World.frozen?,hb]
  have h:=h1 v (by simp);have j:w.setCell ((⟨b,o,none⟩:Addr).add i) v=cO w b (c.setIfInBounds (o+i) v) E:=by
   rw[cm];have g:=lt_of_block hb;have n:w.heap[b]=.cells c E (0,0):=by simpa[Array.getElem?_eq_getElem g]using hb
   simp only[World.setCell,cO];congr 1;apply Array.ext_getElem?;intro k;rw[Array.getElem?_setIfInBounds,Array.getElem?_modify];by_cases e:b=k
   ·subst e;rw[aE rfl,aE rfl,aE g,hb];simp
   ·rw[az e,az e]
  have m:(store ((⟨b,o,none⟩:Addr).add i) v).run P w=.ok () (cO w b (c.setIfInBounds (o+i) v) E):=by
   rw[<-j];simp only[store];cases v<;>first| (simp[Value.oneCell']at h;done)|simp[Sem.run,f,l]
  have q:=eE (P:=P) b o E r (i+1) (c.setIfInBounds (o+i) v) (cO w b (c.setIfInBounds (o+i) v) E) (gh (lt_of_block hb) _ _)
   (by simp;omega) (λx p=>h1 x (by simp[p]))
  simp only[storeCells,Sem.run_bind,m];have e:cO (cO w b (c.setIfInBounds (o+i) v) E) b (bL (c.setIfInBounds (o+i) v) (o+(i+1)) r) E=cO w b (bL c (o+i) (v::r)) E:=by
   simp[cO,bL,Nat.add_assoc]
  rw[<-e,<-q];rfl


variable{v:Value}{V:Cx}{d:D}
def wH(h:aD V v d)(a:cG d):v.oneCell'=true/\v.cells = #[v]:=by
 cases h<;>first|exact a.elim|exact⟨rfl,rfl⟩
def mR(h:aD V v d)(g:∀c∈d.cells,cG c) :
  v.cells.size=d.cells.length/\(∀x∈v.cells.toList,x.oneCell'=true)/\∀(j:Nat) u e,v.cells[j]?=some u->d.cells[j]?=some e->aD V u e:=by
 by_cases m:∃cs,d=.agg cs
 ·obtain⟨cs,rfl⟩:=m;obtain⟨vs,rfl,n,hr⟩:=h.mu;refine⟨n,?_,hr⟩;intro x A;obtain⟨i,z⟩:=mem_iff_getElem?.1 A;have a:vs[i]?=some x:=by simpa[Value.cells]using z
  have f:i<cs.length:=by rw[<-n];exact(Array.getElem?_eq_some_iff.1 a).1
  exact(wH (hr i x _ a (ec f)) (g _ (cZ f))).1
 ·have y:d.cells=[d]:=by cases d<;>first|rfl|exact(m ⟨_,rfl⟩).elim
  rw[y]at g |-;obtain⟨q,t⟩:=wH h (g d (by simp));rw[t];refine⟨by simp,by simp[q],?_⟩;intro j u e p l;cases j with
  |zero=>simp at p l;subst p;subst l;exact h
  |succ j=>simp at l
variable{cs xs:List D}{o:Nat}
def eF(h:o+xs.length<=cs.length):(dc cs o xs).length=cs.length:=by simp[dc];omega
def sX(h:o+xs.length<=cs.length)(j:Nat):(dc cs o xs)[j]?=if o<=j/\j<o+xs.length then xs[j-o]? else cs[j]?:=by
 unfold dc;have c:(cs.take o).length=o:=by simp;omega
 by_cases a:j<o
 ·rw[az (by omega),cu,getElem?_append_left (by omega),getElem?_take_of_lt a]
 ·rw[cu,getElem?_append_right (by omega),c];by_cases h2:j<o+xs.length
  ·rw[aE (by omega),getElem?_append_left (by omega)]
  ·rw[az (by omega),getElem?_append_right (by omega),getElem?_drop];congr 1;omega


variable{r:Nat}{α:Type}
section
variable{w0 w w':World}{l0:Nat->Option Nat}{G:Nat->Option (Nat×Nat)}{S0:Nat->Option Value}{lev lev' own own':Nat->Option Nat}{S S':Nat->Option Value}{env env':Env}{tm tm':Nat->Value}{B:Nat}

def vR{p:Nat->Option (Nat×Nat)}{n m z:Nat}{rows:List (List D)}(h:gM B G w lev own S r (.iI z rows))(q:∀u,S r=some u->S' m=some u)
  (t:∀b c E,own b=some r->lev b=some 0->w.heap[b]?=some (.cells c E (0,0))->EI G B b 0 c.size->w'.heap[b]?=w.heap[b]?/\lev' b=some 0/\own' b=some m/\EI p n b 0 c.size):gM n p w' lev' own' S' m (.iI z rows):=by
 rcases h with⟨a,g,f⟩| ⟨b,c,E,cap,g,f,h3,h4,h5,h6,h7,h8,h9,h10⟩
 ·exact .inl ⟨a,q _ g,f⟩
 ·obtain⟨k1,k2,k3,l⟩:=t b _ _ h7 h6 f h8;refine .inr ⟨b,c,E,cap,q _ g,k1.trans f,h3,h4,h5,k2,k3,l,h9,?_⟩;intro i j row d x y;obtain⟨u,A,e⟩:=h10 i j row d x y;refine⟨u,A,?_⟩;rcases e with e|e| ⟨z,rows,rfl,e| ⟨b1,c1,E1,cap1,g1,g2,g3,g4,g5,g6,g7,g8,g9,g10,g11⟩⟩
  ·exact .inl e
  ·exact .inr (.inl e)
  ·exact .inr (.inr ⟨z,rows,rfl,.inl e⟩)
  ·obtain⟨k1,k2,k3,l⟩:=t b1 _ _ g8 g7 g2 g10;exact .inr (.inr ⟨z,rows,rfl,.inr ⟨b1,c1,E1,cap1,g1,k1.trans g2,g3,g4,g5,g6,k2,k3,g9,l,g11⟩⟩)
def gM.keep(h:gM B G w lev own S r d)(I:jB w lev w' lev')(m:∀s,(s=r\/s∈d.names)->∀u,S s=some u->S' s=some u)(p:d=.undef->S' r=none)
  (n:∀b,own b=some r->lev b=some 0->w'.heap[b]?=w.heap[b]?/\lev' b=lev b/\own' b=own b):gM B G w' lev' own' S' r d:=by
 cases d<;>try exact h.elim
 case undef=>exact p rfl
 case box cs =>
  obtain⟨b,o,c,E,f,g,l,q,t,x,y⟩:=h;obtain⟨k1,k2,k3⟩:=n b t q;refine⟨b,o,c,E,m r (.inl rfl) _ f,k1.trans g,l,k2.trans q,k3.trans t,x,?_⟩;intro j u e p C;refine(y j u e p C).dQ I ?_;intro s A;exact m s (.inr (by simp only[D.names];exact cj.2 ⟨e,bM C,A⟩))
 case own z rows =>
  rcases h with⟨a,f,g⟩| ⟨b,c,E,cap,f,g,l,q,t,x,y,h8,h9,h10⟩
  ·exact .inl ⟨a,m r (.inl rfl) _ f,g⟩
  ·obtain⟨k1,k2,k3⟩:=n b h8 y;refine .inr ⟨b,c,E,cap,m r (.inl rfl) _ f,k1.trans g,l,q,t,x,k2.trans y,k3.trans h8,h9,?_⟩;intro i j row d F H;obtain⟨u,p,hr⟩:=h10 i j row d F H;refine⟨u,p,hr.dQ I ?_⟩;intro s A;rw[(x row (bM F) d (bM H)).2]at A;cases A
 case iI z rows=>exact vR h (m r (.inl rfl)) λb _ _ f g _ l=>⟨(n b f g).1,(n b f g).2.1.trans g,(n b f g).2.2.trans f,l⟩

def gM.live(h:gM B G w lev own S r d)(g:d≠.undef):∃v,S r=some v:=by
 cases d<;>try exact h.elim
 case undef=>exact(g rfl).elim
 case box cs=>obtain⟨b,o,c,E,e,_⟩:=h;exact⟨_,e⟩
 case own z rows =>
  rcases h with⟨a,e,f⟩| ⟨b,c,E,cap,e,_⟩
  ·exact⟨_,e⟩
  ·exact⟨_,e⟩
 case iI z rows =>
  rcases h with⟨a,e,f⟩| ⟨b,c,E,cap,e,_⟩
  ·exact⟨_,e⟩
  ·exact⟨_,e⟩
def Inv.fresh(h:Inv w0 l0 G S0 w lev own S env tm)(hr:env.o r=.undef):S r=none:=by
 have:=h.objs r;rw[hr]at this;exact this

def Inv.put(h:Inv w0 l0 G S0 w lev own S env tm)(hr:aD (cx w lev S) v d):Inv w0 l0 G S0 w lev own S (bk env s d) (zM tm s v) where
 os:=h.os
 tape:=h.tape
 output:=h.output
 size:=h.size
 old:=h.old
 part:=h.part
 priv:=h.priv
 gV:=h.gV
 It:=h.It
 lV:=λt=>by
  by_cases e:t=s
  ·subst e;rw[ED];simpa[zM]using hr
  ·rw[oT e];simpa[zM,e]using h.lV t
 objs:=h.objs

def fD{α:Type}(f:Nat->Option α)(b:Nat)(x:Option α):Nat->Option α:=λk=>if k=b then x else f k
def aW(f:Nat->Option α)(b:Nat)(x:Option α):fD f b x b=x:=by simp[fD]
def bN(f:Nat->Option α)(x:Option α)(h:k≠b):fD f b x k=f k:=by simp[fD,h]

def Inv.kill(h:Inv w0 l0 G S0 w lev own S env tm)(r:Nat):Inv w0 l0 G S0 w lev own (fD S r none) (gn r env) tm where
 os:=h.os
 tape:=h.tape
 output:=h.output
 size:=h.size
 old:=h.old
 part:=h.part
 priv:=h.priv
 gV:=h.gV
 It:=λi I a=>by
  simp only[gn]at a;by_cases e:i=r
  ·rw[aE e]at a;exact(a rfl).elim
  ·rw[az e]at a;rw[bN _ _ e];refine h.It i I ?_;intro g;rw[g]at a;exact a rfl
 lV:=λs=>by
  simp only[gn];refine((h.lV s).R5 r).dQ (.refl _ _) ?_;intro k J u g;rw[bN _ _ (qS r _ k J).2];exact g
 objs:=λk=>by
  by_cases e:k=r
  ·subst e;simp only[gn,if_true];exact aW _ _ _
  ·simp only[gn,e,if_false];have l:=h.objs k;have f:gM w0.heap.size G w lev own S k ((env.o k).kill r):=by
    cases m:env.o k<;>rw[m]at l<;>try exact l.elim
    ·exact l
    ·exact l
    ·rename_i cs;obtain⟨b,o,c,E,t,y,z,A,C,F,H⟩:=l;simp only[D.kill];refine⟨b,o,c,E,t,y,by rw[iJ];simpa using z,A,C,by rw[iJ];simpa using F,?_⟩;intro j u e g a;rw[iJ]at a;simp only[getElem?_map]at a;cases q:cs[j]? with
     |none=>rw[q]at a;cases a
     |some x=>rw[q]at a;cases a;exact(H j u x g q).R5 r
    ·exact l
   refine f.keep (.refl _ _) ?_ ?_ (λ_ _ _=>⟨rfl,rfl,rfl⟩)
   ·intro s p u g;have n:s≠r:=by
     rcases p with rfl|p
     ·exact e
     ·exact(qS r _ s p).2
    rw[bN _ _ n];exact g
   ·intro m;rw[bN _ _ e];rw[m]at f;exact f

structure PN(w0:World)(l0:Nat->Option Nat)(G:Nat->Option (Nat×Nat))(w w':World)(lev':Nat->Option Nat):Prop where
 os:w'.os=w.os
 tape:w'.tape=w.tape
 output:w'.output=w.output
 size:w.heap.size<=w'.heap.size
 old:∀b,b<w0.heap.size->G b=none->w'.heap[b]?=w.heap[b]?
 part:∀b lo hi,G b=some (lo,hi)->jG w w' b lo hi
 priv:∀b m,lev' b=some m->b<w'.heap.size
 gV:∀b,b<w0.heap.size->G b=none->lev' b=l0 b
def jG.trans{b lo e:Nat}(n:jG w0 w b lo e)(p:jG w w' b lo e):jG w0 w' b lo e:=by
 obtain⟨c0,c,E,h,a2,a3,a4⟩:=n;obtain⟨c',a,E',f,i,l,m⟩:=p;rw[a2]at f;cases f;exact⟨c0,a,E,h,i,l.trans a3,λj g=>(m j g).trans (a4 j g)⟩
def jG.of_same{lo:Nat}(a:jG w0 w b lo r)(h:w'.heap[b]?=w.heap[b]?):jG w w' b lo r:=by
 obtain⟨c0,c,E,a1,a2,a3,a4⟩:=a;exact⟨c,c,E,a2,h.trans a2,rfl,λ_ _=>rfl⟩

def Inv.setObj(h:Inv w0 l0 G S0 w lev own S env tm)(f:PN w0 l0 G w w' lev')(A:jB w lev w' lev')
  (t:∀s,s≠r->S' s=S s) (j:∀u,S r=some u->S' r=some u) (c:16<=r\/env.o r≠.undef)
  (C:∀b s,s≠r->env.o s≠.undef->own b=some s->lev b=some 0->w'.heap[b]?=w.heap[b]?/\lev' b=lev b/\own' b=own b)
  (D:gM w0.heap.size G w' lev' own' S' r d):Inv w0 l0 G S0 w' lev' own' S' (bu env r d) tm:=by
 have a:∀s u,S s=some u->S' s=some u:=by
  intro s u n;by_cases e:s=r
  ·subst e;exact j u n
  ·rw[t s e];exact n
 refine⟨⟨f.os.trans h.os.1,h.os.2⟩,f.tape.trans h.tape,f.output.trans h.output,Nat.le_trans h.size f.size,λb p l=>(f.old b p l).trans (h.old b p l),λb lo m l=>(h.part b lo m l).trans (f.part b lo m l),f.priv,f.gV,?_,?_,?_⟩
 ·intro i m z;by_cases e:i=r
  ·subst e;have q:env.o i≠.undef:=by
    rcases c with c|c
    ·omega
    ·exact c
   obtain⟨u,n⟩:=(h.objs i).live q;rw[j u n,<-n];exact h.It i m q
  ·rw[t i e];rw[tH e]at z;exact h.It i m z
 ·intro s;exact(h.lV s).rN A a
 ·intro k;by_cases e:k=r
  ·subst e;rw[EC];exact D
  ·rw[tH e];have g:=h.objs k;by_cases x:env.o k=.undef
   ·rw[x]at g |-
    show S' k=none;rw[t k e];exact g
   ·exact g.keep A (λs _=>a s) (λy=>(x y).elim) (λb p q=>C b k e x p q)
end
end Go.Abs
namespace Go.Abs
open List

variable{b lo r z hi j i:Nat}{E t:TypeId}{c vs:Array Value}{d:D}{l:yA}{cs:List D}{v a:Value}{rows:List (List D)}
section
variable{P:Program}{w0 w w':World}{l0:Nat->Option Nat}{G:Nat->Option (Nat×Nat)}{S0:Nat->Option Value}{lev lev' own own':Nat->Option Nat}{S S':Nat->Option Value}{env env':Env}{tm tm':Nat->Value}{B:Nat}

def EI.mono(h:EI G B b lo hi)(h1:lo<=r)(h2:z<=hi):EI G B b r z:=by
 rcases h with h| ⟨l,m,hg,ha,hb⟩
 ·exact .inl h
 ·exact .inr ⟨l,m,hg,by omega,by omega⟩
def ig(g:lev b=some 0):jB w lev (cO w b c E) lev:=by
 intro a u e;have f:a.block≠b:=by
  rintro rfl;unfold vis at e;rw[g]at e;simp at e
 unfold vis at e |-;rw[Ct f];exact e
def jl(h:Inv w0 l0 G S0 w lev own S env tm)(p:w.heap[b]?=some (.cells c E (0,0)))(u:vs.size=c.size)(q:EI G w0.heap.size b lo hi)
  (g:∀j,(j<lo\/hi<=j)->vs[j]?=c[j]?):PN w0 l0 G w (cO w b vs E) lev:=by
 refine⟨rfl,rfl,rfl,Nat.le_of_eq (yS _ _ _ _).symm,?_,?_,?_,h.gV⟩
 ·intro k hk n;refine fU ?_ _ _;rintro rfl;rcases q with f| ⟨l,m,f,_⟩
  ·omega
  ·rw[n]at f;cases f
 ·intro k l m n;have s:=h.part k l m n;by_cases e:k=b
  ·subst e;rcases q with f| ⟨l',m',f,h1,h2⟩
   ·obtain⟨c0,_,_,o,_⟩:=s;have:=lt_of_block o;omega
   ·rw[n]at f;cases f;exact⟨c,vs,E,p,gh (lt_of_block p) _ _,u,λj hj=>g j (by omega)⟩
  ·exact s.of_same (fU e _ _)
 ·intro k m f;rw[yS];exact h.priv k m f

def Inv.OL(h:Inv w0 l0 G S0 w lev own S env tm){off:Nat}(Q:env.o r=.box cs)(Z:dS P t=some l)
  (C:aD (cx w lev S) v d) (Y:∀c∈d.cells,cG c) (K:d.cells.length=l.sz) (hoff:off+l.sz<=cs.length) (X:aD (cx w lev S) a (.addr r off)) :
  ∃w',(Instr.storeAt t a v).run P w=.ok () w'/\Inv w0 l0 G S0 w' lev own S (bu env r (.box (dc cs off d.cells))) tm:=by
 have k:=h.objs r;rw[Q]at k;obtain⟨b,o,c,E,L,F,V,M,N,O,W⟩:=k;obtain⟨R,n,rfl⟩:=X.iu;have:R=⟨b,o,none⟩:=by simp only[cx]at n;rw[L]at n;cases n;rfl
 subst this;obtain⟨m,A,J⟩:=mR C Y;have y:(o+off)+v.cells.toList.length<=c.size:=by simp;omega
 have g:∀j,(bL c (o+off) v.cells.toList)[j]?=if o+off<=j/\j<o+off+d.cells.length then v.cells[j-(o+off)]? else c[j]?:=by
  intro j;rw[gl _ _ _ _ y];have I:v.cells.toList.length=d.cells.length:=by simpa using m
  rw[I];simp
 refine⟨cO w b (bL c (o+off) v.cells.toList) E,?_,?_⟩
 ·have:=eE (P:=P) b (o+off) E v.cells.toList 0 c w F (by simp;omega) A;simp only[Nat.add_zero]at this;simp[Instr.storeAt,Instr.sureAddr,storeVar,Sem.run_bind,aZ Z,m,K,Sem.run,pure,cm,this]
 have p:jB w lev (cO w b (bL c (o+off) v.cells.toList) E) lev:=ig M;refine h.setObj (jl h F (bp _ _ _) O ?_) p (λ_ _=>rfl) (λ_ h=>h) (.inr (by rw[Q];simp)) ?_ ?_
 ·intro j H;rw[g,az (by omega)]
 ·intro T s hs _ x _;have:T≠b:=by
   rintro rfl;rw[N]at x;cases x;exact hs rfl
  exact⟨fU this _ _,rfl,rfl⟩
 ·have D:(dc cs off d.cells).length=cs.length:=eF (by omega);refine⟨b,o,_,E,L,gh (lt_of_block F) _ _,by rw[bp,D];exact V,M,N,by rw[D];exact O,?_⟩;intro j u e q f;rw[g]at q;rw[sX (by omega)]at f;by_cases H:off<=j/\j<off+d.cells.length
  ·rw[aE (by omega)]at q;rw[aE H]at f;have U:o+j-(o+off)=j-off:=by omega
   rw[U]at q;exact(J _ u e q f).rN p λ_ _ h=>h
  ·rw[az (by omega)]at q;rw[az H]at f;exact(W j u e q f).rN p λ_ _ h=>h

def j7{m:Nat}(hj:j<z)(hi:i<m):i*z+j<m*z:=by
 have:(i+1)*z<=m*z:=gK z hi;rw[Nat.succ_mul]at this;omega
def Fa(k:j<z)(e:b<z)(h:i*z+j=r*z+b):i=r/\j=b:=by
 have f:(i*z+j)/z=i:=by rw[Nat.mul_comm,Nat.mul_add_div (by omega),Nat.div_eq_of_lt k];rfl
 have g:(r*z+b)/z=r:=by rw[Nat.mul_comm,Nat.mul_add_div (by omega),Nat.div_eq_of_lt e];rfl
 have:i=r:=by rw[<-f,<-g,h]
 subst this;exact⟨rfl,by omega⟩

def Inv.ON(h:Inv w0 l0 G S0 w lev own S env tm){k:Nat}(he:env.o r=.own z rows)(hl:dS P t=some l)
  (M:aD (cx w lev S) v d) (Z:∀c∈d.cells,br c) (X:d.cells.length=l.sz) (hi:i<rows.length) (hk:k+l.sz<=z) (ha:aD (cx w lev S) a (.bB r z i k)) :
  ∃w',(Instr.storeAt t a v).run P w=.ok () w'/\Inv w0 l0 G S0 w' lev own S (bu env r (.own z (rows.set i (dc (rows.getD i []) k d.cells)))) tm:=by
 have q:=h.objs r;rw[he]at q;rcases q with⟨_,_,K⟩| ⟨b,c,E,cap,h1,h2,h3,h4,h5,h6,h7,h8,h9,h10⟩
 ·rw[K]at hi;simp at hi
 obtain⟨ad,len',cap',C,rfl⟩:=ha.gD;have:ad=⟨b,0,none⟩:=by simp only[cx]at C;rw[h1]at C;cases C;rfl
 subst this;obtain⟨y,L,V⟩:=mR M (λc f=>(Z c f).1);have N:rows.getD i []=rows[i]:=by simp[getD,hi]
 have W:rows[i].length=z:=h5 _ (cZ hi);have Q:(i+1)*z<=cap*z:=gK z (by omega);rw[Nat.succ_mul]at Q;have I:(i*z+k)+v.cells.toList.length<=c.size:=by simp;omega
 have p:∀j,(bL c (i*z+k) v.cells.toList)[j]?=if i*z+k<=j/\j<i*z+k+d.cells.length then v.cells[j-(i*z+k)]? else c[j]?:=by
  intro j;rw[gl _ _ _ _ I];have U:v.cells.toList.length=d.cells.length:=by simpa using y
  rw[U];simp
 refine⟨cO w b (bL c (i*z+k) v.cells.toList) E,?_,?_⟩
 ·have:=eE (P:=P) b (i*z+k) E v.cells.toList 0 c w h2 (by simp;omega) L;simp only[Nat.add_zero]at this;simp[Instr.storeAt,Instr.sureAddr,storeVar,Sem.run_bind,aZ hl,y,X,Sem.run,pure,cm,this]
 have n:jB w lev (cO w b (bL c (i*z+k) v.cells.toList) E) lev:=ig h7;refine h.setObj (jl h h2 (bp _ _ _) h9 ?_) n (λ_ _=>rfl) (λ_ h=>h) (.inr (by rw[he];simp)) ?_ ?_
 ·intro j R;rw[p,az (by omega)]
 ·intro b' s hs _ H _;have:b'≠b:=by
   rintro rfl;rw[h8]at H;cases H;exact hs rfl
  exact⟨fU this _ _,rfl,rfl⟩
 ·rw[N];have O:(dc rows[i] k d.cells).length=z:=by rw[eF (by omega)];exact W
  have g:∀row∈rows.set i (dc rows[i] k d.cells),row∈rows\/row=dc rows[i] k d.cells:=λrow h=>mem_or_eq_of_mem_set h;refine .inr ⟨b,_,E,cap,by rw[length_set];exact h1,gh (lt_of_block h2) _ _,by rw[bp];exact h3,by rw[length_set];exact h4,?_,?_,h7,h8,by rw[bp];exact h9,?_⟩
  ·intro row m;rcases g row m with m|rfl
   ·exact h5 row m
   ·exact O
  ·intro row m x f;rcases g row m with m|rfl
   ·exact h6 row m x f
   ·unfold dc at f;rcases mem_append.1 f with f|f
    ·rcases mem_append.1 f with f|f
     ·exact h6 _ (cZ hi) x (mem_of_mem_take f)
     ·exact Z x f
    ·exact h6 _ (cZ hi) x (mem_of_mem_drop f)
  ·intro A j row x e f;have T:j<z:=by
    have:row.length=z:=by
     rcases g row (bM e)with m|rfl
     ·exact h5 row m
     ·exact O
    rw[<-this];exact(cJ.1 f).1
   rw[p];by_cases D:A=i
   ·subst D;rw[getElem?_set_self hi]at e;cases e;rw[sX (by omega)]at f;by_cases R:k<=j/\j<k+d.cells.length
    ·rw[aE R]at f;rw[aE (by omega)];have e1:A*z+j-(A*z+k)=j-k:=by omega
     rw[e1];have J:j-k<v.cells.size:=by omega
     exact⟨v.cells[j-k],by simp[J],(V _ _ x (by simp[J]) f).rN n λ_ _ h=>h⟩
    ·rw[az R]at f;rw[az (by omega)];obtain⟨u,Y,F⟩:=h10 A j rows[A] x (ec hi) f;exact⟨u,Y,F.rN n λ_ _ h=>h⟩
   ·rw[getElem?_set_ne (Ne.symm D)]at e;obtain⟨u,Y,F⟩:=h10 A j row x e f;refine⟨u,?_,F.rN n λ_ _ h=>h⟩;rw[az ?_]
    ·exact Y
    ·rintro⟨g1,g2⟩;have e2:A*z+j=i*z+(A*z+j-i*z):=by omega
     exact D (Fa T (by omega) e2).1

def Inv.OM(h:Inv w0 l0 G S0 w lev own S env tm){k:Nat}(he:env.o r=.iI z rows)(hl:dS P t=some l)
  (V:aD (cx w lev S) v d) (Z:∀c∈d.cells,At c) (ai:d.cells.length=l.sz) (hi:i<rows.length) (hk:k+l.sz<=z) (ha:aD (cx w lev S) a (.bB r z i k)) :
  ∃w',(Instr.storeAt t a v).run P w=.ok () w'/\Inv w0 l0 G S0 w' lev own S (bu env r (.iI z (rows.set i (dc (rows.getD i []) k d.cells)))) tm:=by
 have D:=h.objs r;rw[he]at D;rcases D with⟨_,_,O⟩| ⟨b,c,E,cap,h1,h2,h3,h4,h5,h7,h8,h9,hap,h10⟩
 ·rw[O]at hi;simp at hi
 obtain⟨ad,len',cap',I,rfl⟩:=ha.gD;have:ad=⟨b,0,none⟩:=by simp only[cx]at I;rw[h1]at I;cases I;rfl
 subst this;have ab:∀c∈d.cells,cG c:=λc f=>by have:=Z c f;cases c<;>first|exact this.elim|exact aI
 obtain⟨F,T,U⟩:=mR V ab;have W:rows.getD i []=rows[i]:=by simp[getD,hi]
 have ah:rows[i].length=z:=h5 _ (cZ hi);have ac:(i+1)*z<=cap*z:=gK z (by omega);rw[Nat.succ_mul]at ac;have N:(i*z+k)+v.cells.toList.length<=c.size:=by simp;omega
 have g:∀j,(bL c (i*z+k) v.cells.toList)[j]?=if i*z+k<=j/\j<i*z+k+d.cells.length then v.cells[j-(i*z+k)]? else c[j]?:=by
  intro j;rw[gl _ _ _ _ N];have af:v.cells.toList.length=d.cells.length:=by simpa using F
  rw[af];simp
 have Q:∀j u,i*z+k<=j/\j<i*z+k+d.cells.length->v.cells[j-(i*z+k)]?=some u->∀a l c,u≠.slice a l c:=by
  intro j u A X;have p:j-(i*z+k)<d.cells.length:=by omega
  exact(At.rep (V':=Pj) (Z _ (cZ p)) (U _ u _ X (ec p))).2.2
 refine⟨cO w b (bL c (i*z+k) v.cells.toList) E,?_,?_⟩
 ·have:=eE (P:=P) b (i*z+k) E v.cells.toList 0 c w h2 (by simp;omega) T;simp only[Nat.add_zero]at this;simp[Instr.storeAt,Instr.sureAddr,storeVar,Sem.run_bind,aZ hl,F,ai,Sem.run,pure,cm,this]
 have aj:jB w lev (cO w b (bL c (i*z+k) v.cells.toList) E) lev:=ig h7;refine h.setObj (jl h h2 (bp _ _ _) h9 ?_) aj (λ_ _=>rfl) (λ_ h=>h) (.inr (by rw[he];simp)) ?_ ?_
 ·intro j A;rw[g,az (by omega)]
 ·intro b' s hs _ M _;have:b'≠b:=by
   rintro rfl;rw[h8]at M;cases M;exact hs rfl
  exact⟨fU this _ _,rfl,rfl⟩
 ·rw[W];have Y:(dc rows[i] k d.cells).length=z:=by rw[eF (by omega)];exact ah
  have C:∀row∈rows.set i (dc rows[i] k d.cells),row∈rows\/row=dc rows[i] k d.cells:=λrow h=>mem_or_eq_of_mem_set h;have n:∀u x,MD w0.heap.size G w lev own r b u x->MD w0.heap.size G (cO w b (bL c (i*z+k) v.cells.toList) E) lev own r b u x:=by
   rintro u x (f|f| ⟨z1,R,rfl,f| ⟨b1,c1,E1,cap1,g1,g2,g3,g4,g5,g6,g7,g8,g9,g10,g11⟩⟩)
   ·exact .inl f
   ·exact .inr (.inl f)
   ·exact .inr (.inr ⟨z1,R,rfl,.inl f⟩)
   ·exact .inr (.inr ⟨z1,R,rfl,.inr ⟨b1,c1,E1,cap1,g1,(fU g9 _ _).trans g2,g3,g4,g5,g6,g7,g8,g9,g10,g11⟩⟩)
  refine .inr ⟨b,_,E,cap,by rw[length_set];exact h1,gh (lt_of_block h2) _ _,by rw[bp];exact h3,by rw[length_set];exact h4,?_,h7,h8,by rw[bp];exact h9,?_,?_⟩
  ·intro row K;rcases C row K with K|rfl
   ·exact h5 row K
   ·exact Y
  ·rw[length_set];intro m m' a1 a2 l1 l2 k1 k2 K ag q y n1 n2 aa;rw[g]at q y;split at q
   ·rename_i A;exact(Q _ _ A q _ _ _ rfl).elim
   split at y
   ·rename_i A;exact(Q _ _ A y _ _ _ rfl).elim
   exact hap m m' a1 a2 l1 l2 k1 k2 K ag q y n1 n2 aa
  ·intro H j row x e f;have ae:j<z:=by
    have:row.length=z:=by
     rcases C row (bM e)with K|rfl
     ·exact h5 row K
     ·exact Y
    rw[<-this];exact(cJ.1 f).1
   rw[g];by_cases J:H=i
   ·subst J;rw[getElem?_set_self hi]at e;cases e;rw[sX (by omega)]at f;by_cases A:k<=j/\j<k+d.cells.length
    ·rw[aE A]at f;rw[aE (by omega)];have e1:H*z+j-(H*z+k)=j-k:=by omega
     rw[e1];have p:j-k<v.cells.size:=by omega
     have hq:=At.rep (V':=Pj) (Z x (bM f)) (U _ v.cells[j-k] x (by simp[p]) f);exact⟨v.cells[j-k],by simp[p],.inl ⟨Z x (bM f),hq.1⟩⟩
    ·rw[az A]at f;rw[az (by omega)];obtain⟨u,X,L⟩:=h10 H j rows[H] x (ec hi) f;exact⟨u,X,n _ _ L⟩
   ·rw[getElem?_set_ne (Ne.symm J)]at e;obtain⟨u,X,L⟩:=h10 H j row x e f;refine⟨u,?_,n _ _ L⟩;rw[az ?_]
    ·exact X
    ·rintro⟨g1,g2⟩;have e2:H*z+j=i*z+(H*z+j-i*z):=by omega
     exact J (Fa ae (by omega) e2).1

def heap_alloc_old(w:World)(o:Obj)(h:b<w.heap.size):(w.alloc o).heap[b]?=w.heap[b]?:=Go.RowKit.Below.heap_alloc w o b h
def heap_alloc_new(w:World)(o:Obj):(w.alloc o).heap[w.heap.size]?=some o:=by show(w.heap.push _)[w.heap.size]?=_;simp
def vm(h:Inv w0 l0 G S0 w lev own S env tm)(o:Obj)(x:Option Nat):PN w0 l0 G w (w.alloc o) (fD lev w.heap.size x):=by
 refine⟨rfl,rfl,rfl,by simp,?_,?_,?_,?_⟩
 ·intro b f _;exact heap_alloc_old w o (by have:=h.size;omega)
 ·intro b lo hi g;have k:=h.part b lo hi g;refine k.of_same (heap_alloc_old w o ?_);obtain⟨_,_,_,_,f,_⟩:=k;exact lt_of_block f
 ·intro b m e;by_cases f:b=w.heap.size
  ·subst f;simp
  ·rw[bN _ _ f]at e;have:=h.priv b m e;simp;omega
 ·intro b f g;rw[bN _ _ (by have:=h.size;omega)];exact h.gV b f g
def oU(w:World)(lev:Nat->Option Nat)(o:Obj)(x:Option Nat):jB w lev (w.alloc o) (fD lev w.heap.size x):=by
 intro a u g;have e:=World.block_lt_of_cell? _ _ (lD g);have f:a.block≠w.heap.size:=by omega
 unfold vis at g |-;rw[bN _ _ f,World.cell?_of_block (w:=w) (heap_alloc_old w o e)];exact g

def Inv.newObj(h:Inv w0 l0 G S0 w lev own S env tm)(k:16<=r)(q:env.o r=.undef)(T:TypeId)
  (y:∀lev' own' S',jB w lev (w.alloc (.cells vs T)) lev'->(∀s u,S s=some u->S' s=some u)->S' r=some v->(w.alloc (.cells vs T)).heap[w.heap.size]?=some (.cells vs T (0,0))->lev' w.heap.size=some 0->own' w.heap.size=some r->(∀lo hi,EI G w0.heap.size w.heap.size lo hi) ->
   gM w0.heap.size G (w.alloc (.cells vs T)) lev' own' S' r d) :
  Inv w0 l0 G S0 (w.alloc (.cells vs T)) (fD lev w.heap.size (some 0)) (fD own w.heap.size (some r)) (fD S r (some v)) (bu env r d) tm:=by
 have n:=h.fresh q;refine h.setObj (vm h _ _) (oU _ _ _ _) (λs p=>bN _ _ p) (λu f=>by rw[n]at f;cases f) (.inl k) ?_ ?_
 ·intro b s p _ hb x;have m:=h.priv b 0 x;have g:b≠w.heap.size:=by omega
  exact⟨heap_alloc_old w _ m,bN _ _ g,bN _ _ g⟩
 ·refine y _ _ _ (oU _ _ _ _) ?_ (aW _ _ _) (heap_alloc_new _ _) (aW _ _ _) (aW _ _ _) (λ_ _=>.inl h.size);intro s u f;by_cases e:s=r
  ·subst e;rw[n]at f;cases f
  ·rw[bN _ _ e];exact f

def Inv.NS(h:Inv w0 l0 G S0 w lev own S env tm)(g:16<=r)(q:env.o r=.undef)(T:TypeId)(hsz:vs.size=cs.length)
  (f:∀(j:Nat) u e,vs[j]?=some u->cs[j]?=some e->aD (cx w lev S) u e) :
  Inv w0 l0 G S0 (w.alloc (.cells vs T)) (fD lev w.heap.size (some 0)) (fD own w.heap.size (some r)) (fD S r (some (.pointer (some ⟨w.heap.size,0,none⟩)))) (bu env r (.box cs)) tm:=by
 refine h.newObj g q T ?_;intro lev' own' S' C n k x y A s;refine⟨w.heap.size,0,vs,T,k,x,by omega,y,A,s _ _,?_⟩;intro j u e m p;rw[Nat.zero_add]at m;exact(f j u e m p).rN C n
def Inv.xQ(h:Inv w0 l0 G S0 w lev own S env tm)(f:16<=r)(q:env.o r=.undef){cap:Nat}(T:TypeId)(n:vs.size=cap*z)(C:rows.length<=cap)(I:∀r∈rows,r.length=z)(A:∀r∈rows,∀c∈r,br c)
  (e:∀(i j:Nat) r c,rows[i]?=some r->r[j]?=some c->∃u,vs[i*z+j]?=some u/\aD (cx w lev S) u c) :
  Inv w0 l0 G S0 (w.alloc (.cells vs T)) (fD lev w.heap.size (some 0)) (fD own w.heap.size (some r)) (fD S r (some (.slice (some ⟨w.heap.size,0,none⟩) rows.length cap))) (bu env r (.own z rows)) tm:=by
 refine h.newObj f q T ?_;intro lev' own' S' H p g x k D s;refine .inr ⟨w.heap.size,vs,T,cap,g,x,n,C,I,A,k,D,s _ _,?_⟩;intro i j row c hi y;obtain⟨u,F,m⟩:=e i j row c hi y;exact⟨u,F,m.rN H p⟩
def Inv.UQ(h:Inv w0 l0 G S0 w lev own S env tm)(e:16<=r)(k:env.o r=.undef)(z:Nat)(a:Option Addr) :
  Inv w0 l0 G S0 w lev own (fD S r (some (.slice a 0 0))) (bu env r (.own z [])) tm:=by
 have g:=h.fresh k;refine h.setObj ⟨rfl,rfl,rfl,cX _,λ_ _ _=>rfl,?_,h.priv,h.gV⟩ (.refl _ _) (λs n=>bN _ _ n) (λu f=>by rw[g]at f;cases f) (.inl e) (λ_ _ _ _ _ _=>⟨rfl,rfl,rfl⟩) (.inl ⟨a,aW _ _ _,rfl⟩);intro b lo hi m;exact(h.part b lo hi m).of_same rfl
def Inv.drew(h:Inv w0 l0 G S0 w lev own S env tm):Inv w0 l0 G S0 w.drew lev own S env tm:=
 ⟨h.os,h.tape,h.output,h.size,h.old,h.part,h.priv,h.gV,h.It,h.lV,h.objs⟩

def Inv.xy(h:Inv w0 l0 G S0 w lev own S env tm)(q:env.o r=.box cs){a:Addr}(g:S r=some (.pointer (some a))) :
  ∀(j:Nat) d,cs[j]?=some d->∃u,w.cell? (a.add j)=some u/\aD (cx w lev S) u d:=by
 have e:=h.objs r;rw[q]at e;obtain⟨b,o,c,E,m,n,h3,h4,h5,h6,p⟩:=e;rw[m]at g;cases g;intro j d k;have f:o+j<c.size:=by have:=(cJ.1 k).1;omega
 refine⟨c[o+j],?_,p j _ d (by simp[f]) k⟩;rw[cm,eP w b _ n];simp[f]
def Inv.v7(h:Inv w0 l0 G S0 w lev own S env tm)(n:env.o r=.own z rows) :
  ∃a cap,S r=some (.slice a rows.length cap)/\rows.length<=cap/\(∀r∈rows,∀d∈r,br d)/\(∀r∈rows,r.length=z)/\(a=none->rows=[]/\cap=0)/\∀g,a=some g->∀(i j:Nat) row d,rows[i]?=some row->row[j]?=some d->∃u,w.cell? (g.add (i*z+j))=some u/\aD (cx w lev S) u d:=by
 have f:=h.objs r;rw[n]at f;rcases f with⟨a,k,rfl⟩| ⟨b,c,E,cap,k,h2,h3,h4,h5,h6,h7,h8,h9,h10⟩
 ·exact⟨a,0,k,by simp,by simp,by simp,λ_=>⟨rfl,rfl⟩,by simp⟩
 ·refine⟨_,cap,k,h4,h6,h5,(λe=>by cases e),?_⟩;rintro g ⟨⟩ i j row d hi hj;obtain⟨u,p,m⟩:=h10 i j row d hi hj;exact⟨u,by rw[cm,Nat.zero_add,eP w b _ h2];exact p,m⟩
end
end Go.Abs
namespace Go.Abs
open List hiding max

theorem xD(m:Nat):∀(k c:Nat),Builtin.growBy m k c<=max c (m+(m+768)/4)
 | 0,c=>by simp[Builtin.growBy];omega
 |k+1,c=>by
  unfold Builtin.growBy;split
  ·omega
  ·refine Nat.le_trans (xD m k _) ?_;omega
def nextslicecap_le{m c:Nat}(h:c<m):Builtin.nextslicecap m c<=2*m+192:=by
 unfold Builtin.nextslicecap;split
 ·omega
 ·split
  ·omega
  ·have:=xD m 4 c;omega

def xR{m c:Nat}(h:c<m):Builtin.nextslicecap m c<=m+m/4+512:=by
 unfold Builtin.nextslicecap;split
 ·omega
 ·split
  ·omega
  ·have:=xD m 4 c;omega

def kJ(w:World)(C:Cx)(v:Value)(z:Nat)(rows:List (List D)):Prop:=
 ∃a cap,v=.slice a rows.length cap/\rows.length<=cap/\(∀r∈rows,r.length=z)/\(∀r∈rows,∀d∈r,br d)/\(a=none->rows=[]) /\
  ∀b,a=some b->∀(i j:Nat) row d,rows[i]?=some row->row[j]?=some d->∃u,w.cell? (b.add (i*z+j))=some u/\aD C u d

def pQ(w:World)(C:Cx)(v:Value)(z:Nat)(rows:List (List D)):Prop:=
 ∃a cap,v=.slice a rows.length cap/\rows.length<=cap/\(∀r∈rows,r.length=z)/\(∀r∈rows,∀d∈r,cG d)/\(a=none->rows=[]) /\
  ∀b,a=some b->∀(i j:Nat) row d,rows[i]?=some row->row[j]?=some d->∃u,w.cell? (b.add (i*z+j))=some u/\aD C u d

variable{v x y:Value}{rows rows2:List (List D)}{z cap by_:Nat}{w':World}{T2 T:TypeId}{a:Option Addr}{ea:Bool}
section
variable{P:Program}{V:Cx}{w:World}
def kJ.OU(h:kJ w V v z rows):pQ w V v z rows:=by
 obtain⟨a,cap,b,c,e,f,g,i⟩:=h;exact⟨a,cap,b,c,e,λr hr d j=>(f r hr d j).1,g,i⟩
def pQ.at(h:pQ w V v z rows)(m:w'.heap=w.heap):pQ w' V v z rows:=by
 obtain⟨a,cap,rfl,c,f,g,k,l⟩:=h;refine⟨a,cap,rfl,c,f,g,k,?_⟩;intro b e i j row d n o;obtain⟨u,p,hr⟩:=l b e i j row d n o;exact⟨u,by rw[<-p];simp only[World.cell?,m],hr⟩
def kJ.nil(z:Nat)(a:Option Addr):kJ w V (.slice a 0 0) z []:=⟨a,0,rfl,by simp,by simp,by simp,λ_=>rfl,by simp⟩
def kJ.aaz(m:∀a v,V.V a=some v->w.cell? a=some v)(h:aD V v (.sl z rows)):kJ w V v z rows:=by
 obtain⟨a,cap,rfl,c,f,g,k,l⟩:=h.u9;refine⟨a,cap,rfl,c,f,g,λe=>(k e).1,?_⟩;intro b e i j row d n o;obtain⟨u,p,hr⟩:=l b e i j row d n o;exact⟨u,m _ _ p,hr⟩
def kJ.mono{C':Cx}(h:kJ w V v z rows)(p:∀a v,V.V a=some v->C'.V a=some v):kJ w C' v z rows:=by
 obtain⟨a,cap,rfl,l,m,b,n,o⟩:=h;refine⟨a,cap,rfl,l,m,b,n,?_⟩;intro k e i j row d c f;obtain⟨u,q,hr⟩:=o k e i j row d c f;refine⟨u,q,hr.keep p ?_⟩;intro s g;rw[(b row (bM c) d (bM f)).2]at g;cases g
def kJ.at(h:kJ w V v z rows)(m:w'.heap=w.heap):kJ w' V v z rows:=by
 obtain⟨a,cap,rfl,c,f,g,k,l⟩:=h;refine⟨a,cap,rfl,c,f,g,k,?_⟩;intro b e i j row d n o;obtain⟨u,p,hr⟩:=l b e i j row d n o;exact⟨u,by rw[<-p];simp only[World.cell?,m],hr⟩

theorem nU(I:z≠0)(H:pQ w V x z rows) :
  ∃cs:List Value,(Builtin.firstCells z rows.length x).run P w=.ok cs.toArray w/\cs.length=rows.length*z /\
   (∀(i j:Nat) r d,rows[i]?=some r->r[j]?=some d->∃u,cs[i*z+j]?=some u/\aD V u d)/\∀u∈cs,u.oneCell'=true:=by
 obtain⟨a,cap,rfl,hcap,t,F,o,D⟩:=H;cases a with
 |none =>
  have:=o rfl;subst this;exact⟨[],by simp[Builtin.firstCells,Sem.run,pure],by simp,by simp,by simp⟩
 |some ad =>
  have c:∀m,m<rows.length*z->∃u d,w.cell? (ad.add m)=some u/\aD V u d/\cG d:=by
   intro m h;have n:m/z<rows.length:=Nat.div_lt_of_lt_mul (by rw[Nat.mul_comm];exact h);have hr:rows[m/z]?=some rows[m/z]:=ec n;have q:=t _ (cZ n);have s:m%z<(rows[m/z]).length:=by rw[q];exact Nat.mod_lt _ (Nat.pos_of_ne_zero I)
   have E:(rows[m/z])[m%z]?=some (rows[m/z])[m%z]:=ec s;obtain⟨u,k,p⟩:=D ad rfl _ _ _ _ hr E;have e:m/z*z+m%z=m:=by rw[Nat.mul_comm];exact Nat.div_add_mod m z
   rw[e]at k;exact⟨u,_,k,p,F _ (cZ n) _ (cZ s)⟩
  let f:Nat->Value:=λm=>(w.cell? (ad.add m)).getD Go.undef
  have l:((range (rows.length*z)).map f).length=rows.length*z:=by simp
  have g:∀m,m<rows.length*z->((range (rows.length*z)).map f)[m]?=some (f m):=by
   intro m h;simp[h]
  refine⟨(range (rows.length*z)).map f,?_,l,?_,?_⟩
  ·have:=run_loadCells_list (P:=P) (w:=w) ad ((range (rows.length*z)).map f) ?_
   ·rw[l]at this;simpa[Builtin.firstCells]using this
   ·intro m v h;have b:m<rows.length*z:=by
     have:=(cJ.1 h).1;simpa using this
    rw[g m b]at h;cases h;obtain⟨u,d,k,_⟩:=c m b;simp only[f,k,Option.getD_some]
  ·intro i j r d n s;have q:=t r (bM n);have A:=(cJ.1 n).1;have B:j<z:=by rw[<-q];exact(cJ.1 s).1
   have b:i*z+j<rows.length*z:=j7 B A;obtain⟨u,k,p⟩:=D ad rfl i j r d n s;exact⟨u,by rw[g _ b];simp[f,k],p⟩
  ·intro u k;obtain⟨m,h⟩:=mem_iff_getElem?.1 k;have b:m<rows.length*z:=by
    have:=(cJ.1 h).1;simpa using this
   rw[g m b]at h;cases h;obtain⟨u,d,k,hr,C⟩:=c m b;simp only[f,k,Option.getD_some];exact(wH hr C).1
def Cq{i:Nat}{r:List D}(h:(rows++rows2)[i]?=some r):rows[i]?=some r\/(rows.length<=i/\rows2[i-rows.length]?=some r):=by
 by_cases b:i<rows.length
 ·rw[getElem?_append_left b]at h;exact .inl h
 ·rw[getElem?_append_right (by omega)]at h;exact .inr ⟨by omega,h⟩

def xw(hT:bY P T=.slice z by_ ea)(Q:∃e,P.underlying T2=some (.slice e))
  (hx:pQ w V (.slice a rows.length cap) z rows) (hy:pQ w V y z rows2) (C:¬rows.length+rows2.length<=cap) (hroom:Builtin.nextslicecap (rows.length+rows2.length) cap*by_<=2^48) (hneed:rows.length+rows2.length<=2^48) (T3:TypeId) :
  ∃(N:Nat)(e:TypeId)(cells:Array Value),rows.length+rows2.length<=N/\cells.size=N*z /\
   (Builtin.append_ #[T,T2] T3 #[.slice a rows.length cap,y]).run P w=.ok (.slice (some ⟨w.heap.size,0,none⟩) (rows.length+rows2.length) N) (w.drew.alloc (.cells cells e)) /\
   ∀(i j:Nat) row d,(rows++rows2)[i]?=some row->row[j]?=some d->∃u,cells[i*z+j]?=some u/\aD V u d:=by
 obtain⟨e,f,hu,hl,l,U,hz,zv,af,ag⟩:=bK hT;obtain⟨e2,Z⟩:=Q;have B:(w.drew).heap=w.heap:=rfl;have aa:=hx;have ac:=hy;obtain⟨a2,cap2,ad,hcap2,M,hk2,hnone2,hc2⟩:=ac;obtain⟨a1,cap1,ab,hcap1,L,hk1,hnone1,hc1⟩:=aa;cases ab;subst ad;have hcl:cap<rows.length+rows2.length:=by omega
 have h:¬Builtin.nextslicecap (rows.length+rows2.length) cap*f.bytes>2^48:=by
  rw[U];omega
 obtain⟨c,I,H,F,-⟩:=nU (P:=P) (w:=w.drew) hz (hy.at B);obtain⟨g,K,b,J,-⟩:=nU (P:=P) (w:=w.drew) hz (hx.at B);obtain⟨N,t⟩:∃N,N=(Question.appendCap (rows.length+rows2.length) cap e).cut (w.tape w.drawn (.appendCap (rows.length+rows2.length) cap e)):=⟨_,rfl⟩
 have hN:rows.length+rows2.length<=N:=by rw[t];simp only[Question.cut];omega
 let cells:Array Value:=g.toArray++c.toArray++Builtin.zeroCells zv.cells (N-(rows.length+rows2.length))
 have s:cells.size=N*z:=by
  simp only[cells,Builtin.zeroCells,Array.size_append,size_toArray,Array.size_map,Array.size_range,b,H,ag];rw[<-Nat.add_mul,<-Nat.add_mul];congr 1;omega
 have A:∀n,(askRoom n).run P w.drew=.ok () w.drew:=by
  intro n;unfold askRoom;split<;>simp[mark,Sem.run,pure]
 have W:(Question.appendCap (rows.length+rows2.length) cap e).forced=false:=rfl;have ae:(zeroValue e).run P w.drew=.ok zv w.drew:=by
  simp[zeroValue,Sem.run_bind,fB l,af,Sem.run,pure]
 have D:(typeInfo e).run P w=.ok f w:=fB l w;have m:(typeInfo e).run P w.drew=.ok f w.drew:=fB l _;refine⟨N,e,cells,hN,s,?_,?_⟩
 ·have O:(newRow e cells).run P w.drew=.ok ⟨w.heap.size,0,none⟩ (w.drew.alloc (.cells cells e)):=by
   simp[newRow,newObj,Sem.run,Sem.bind,pure,bind,World.alloc]
  have RS:¬((9223372036854775807:Int)<(rows.length:Int)+(rows2.length:Int)/\f.bytes=0):=by omega
  have R:¬ 281474976710656<Builtin.nextslicecap (rows.length+rows2.length) cap*f.bytes:=by
   intro hh;exact h (by simpa using hh)
  have p:(newRow e (g.toArray++(c.toArray++Builtin.zeroCells zv.cells (N-(rows.length+rows2.length))))).run P w.drew=.ok ⟨w.heap.size,0,none⟩ (w.drew.alloc (.cells cells e)):=by
   rw[<-Array.append_assoc];exact O
  simp[Builtin.append_,Sem.run_bind,aT hu,aT Z,aZ hl,Builtin.lenOf,C,D,RS,R,W,<-t,A,m,K,I,ae,p,Sem.run,pure]
 ·intro i j r d hi X;have o:∀r∈rows++rows2,r.length=z:=by
   intro r hr;rcases mem_append.1 hr with hr|hr
   ·exact L r hr
   ·exact M r hr
  have Y:j<z:=by
   have:=o r (bM hi);rw[<-this];exact(cJ.1 X).1
  rcases Cq hi with hi'| ⟨hge,hi'⟩
  ·have E:=j7 Y (cJ.1 hi').1;obtain⟨u,k,q⟩:=J i j r d hi' X;refine⟨u,?_,q⟩;simp only[cells];rw[Array.append_assoc,Array.getElem?_append_left (by simp[b];exact E)];simpa using k
  ·obtain⟨u,k,q⟩:=F _ j r d hi' X;have hge':rows.length*z<=i*z:=gK z hge;have e1:i*z+j-rows.length*z=(i-rows.length)*z+j:=by rw[Nat.sub_mul];omega
   have E:(i-rows.length)*z+j<c.length:=(cJ.1 k).1;refine⟨u,?_,q⟩;simp only[cells];rw[Array.append_assoc,Array.getElem?_append_right (by simp[b];omega),Array.getElem?_append_left (by simp[b];omega)];simp only[size_toArray,b,e1];simpa using k
def MT(k:bY P T=.slice z by_ ea)(g:∃e,P.underlying T2=some (.slice e))
  (l:pQ w V (.slice a rows.length cap) z rows) (n:pQ w V y z rows2) (f:¬rows.length+rows2.length<=cap) (h:(by_+1)*(rows.length+rows2.length)<=2^45) (hby:by_<=2^32) (T3:TypeId) :
  ∃(N:Nat)(e:TypeId)(cells:Array Value),rows.length+rows2.length<=N/\cells.size=N*z /\
   (Builtin.append_ #[T,T2] T3 #[.slice a rows.length cap,y]).run P w=.ok (.slice (some ⟨w.heap.size,0,none⟩) (rows.length+rows2.length) N) (w.drew.alloc (.cells cells e)) /\
   ∀(i j:Nat) row d,(rows++rows2)[i]?=some row->row[j]?=some d->∃u,cells[i*z+j]?=some u/\aD V u d:=by
 refine xw k g l n f ?_ ?_ T3
 ·have b:=nextslicecap_le (m:=rows.length+rows2.length) (c:=cap) (by omega);have h1:Builtin.nextslicecap (rows.length+rows2.length) cap*by_<=(2*(rows.length+rows2.length)+192)*by_:=gK _ b;have h2:by_*(rows.length+rows2.length)<=2^45:=Nat.le_trans (by rw[Nat.succ_mul];omega) h;have h3:(2*(rows.length+rows2.length)+192)*by_=2*(by_*(rows.length+rows2.length))+192*by_:=by
   rw[Nat.add_mul,Nat.mul_assoc,Nat.mul_comm (rows.length+rows2.length) by_]
  omega
 ·refine Nat.le_trans (Nat.le_trans ?_ h) (by omega);rw[Nat.succ_mul];omega
def K0(h:bY P T=.slice z by_ ea)(g:∃e,P.underlying T2=some (.slice e))
  (l:pQ w V (.slice a rows.length cap) z rows) (n:pQ w V y z rows2) (f:¬rows.length+rows2.length<=cap) (hb:(by_+(1-by_))*(rows.length+rows2.length)<=2^47) (hby:by_<=2^32) (T3:TypeId) :
  ∃(N:Nat)(e:TypeId)(cells:Array Value),rows.length+rows2.length<=N/\cells.size=N*z /\
   (Builtin.append_ #[T,T2] T3 #[.slice a rows.length cap,y]).run P w=.ok (.slice (some ⟨w.heap.size,0,none⟩) (rows.length+rows2.length) N) (w.drew.alloc (.cells cells e)) /\
   ∀(i j:Nat) row d,(rows++rows2)[i]?=some row->row[j]?=some d->∃u,cells[i*z+j]?=some u/\aD V u d:=by
 generalize k:rows.length+rows2.length=m at *;have h1:1*m<=(by_+(1-by_))*m:=gK _ (by omega);have h2:by_*m<=(by_+(1-by_))*m:=gK _ (by omega);subst k;refine xw h g l n f ?_ (by omega) T3;have b:=xR (m:=rows.length+rows2.length) (c:=cap) (by omega);generalize rows.length+rows2.length=m at *;have h3:Builtin.nextslicecap m cap*by_<=(m+m/4+512)*by_:=gK _ b;have h4:(m+m/4+512)*by_=by_*m+by_*(m/4)+512*by_:=by rw[Nat.add_mul,Nat.add_mul,Nat.mul_comm m,Nat.mul_comm (m/4)]
 have h5:by_*(m/4)<=by_*m/4:=by
  rw[Nat.le_div_iff_mul_le (by decide),Nat.mul_assoc];exact Nat.mul_le_mul_left _ (Nat.div_mul_le_self _ _)
 omega
theorem zQ(s:bY P T=.slice z by_ ea)(k:∃e,P.underlying T2=some (.slice e)){len:Nat}
  (q:pQ w V y z rows2) (c:len+rows2.length<=cap) (T3:TypeId):∃news:List Value,news.length=rows2.length*z/\(∀(i j:Nat) r d,rows2[i]?=some r->r[j]?=some d->∃u,news[i*z+j]?=some u/\aD V u d)/\(∀u∈news,u.oneCell'=true) /\
   ∀b,(match a with|some ad=>storeCells (ad.add (len*z)) news|none=>pure ():Sem Unit).run P w=.ok () b->(Builtin.append_ #[T,T2] T3 #[.slice a len cap,y]).run P w=.ok (.slice a (len+rows2.length) cap) b:=by
 obtain⟨e,inf,p,o,hin,hbi,t,zv,hzv,hzz⟩:=bK s;obtain⟨e2,h⟩:=k;obtain⟨news,g,n,m,l⟩:=nU (P:=P) (w:=w) t q;refine⟨news,n,m,l,?_⟩;intro b f;obtain⟨a2,cap2,rfl,_⟩:=q;cases a with
 |none =>
  have:b=w:=by simpa[Sem.run,pure]using f.symm
  subst this;simp[Builtin.append_,Sem.run_bind,aT p,aT h,aZ o,Builtin.lenOf,c,g,Sem.run,pure]
 |some ad =>
  simp only at f;simp[Builtin.append_,Sem.run_bind,aT p,aT h,aZ o,Builtin.lenOf,c,g,f,Sem.run,pure]
end

variable{N:Nat}
section
variable{P:Program}{w0 w w':World}{l0:Nat->Option Nat}{G:Nat->Option (Nat×Nat)}{S0:Nat->Option Value}{lev lev' own own':Nat->Option Nat}{S S':Nat->Option Value}{env env':Env}{tm tm':Nat->Value}

def kJ.perm(h:kJ w (cx w lev S) v z rows)(S':Nat->Option Value):kJ w (cx w lev S') v z rows:=h.mono λ_ _ h=>h

def Inv.JZ(h:Inv w0 l0 G S0 w lev own S env tm)(g:16<=N)(F:env.o N=.undef)(r:bY P T=.slice z by_ ea)(k:∃e,P.underlying T2=some (.slice e))
  (C:kJ w (cx w lev S) y z rows2) (O:(by_+(1-by_))*rows2.length<=2^47) (T3:TypeId) :
  ∃v w' lev' own' S',(Builtin.append_ #[T,T2] T3 #[.slice a 0 0,y]).run P w=.ok v w'/\Inv w0 l0 G S0 w' lev' own' S' (bu env N (.own z rows2)) tm/\S' N=some v/\∃a l c,v=.slice a l c:=by
 obtain⟨e,inf,H,hl,hin,hbi,hz,zv,hzv,hzz⟩:=bK r;by_cases q:rows2=[]
 ·subst q;obtain⟨news,A,_,_,p⟩:=zQ (P:=P) (w:=w) (V:=cx w lev S) r k (a:=a) (len:=0) (cap:=0) C.OU (by simp) T3;have:news=[]:=length_eq_zero_iff.1 (by simpa using A);subst this;refine⟨.slice a 0 0,w,lev,own,_,?_,h.UQ g F z a,aW _ _ _,_,_,_,rfl⟩;exact p w (by cases a<;>simp[storeCells,Sem.run,pure])
 ·have m:¬([]:List (List D)).length+rows2.length<=0:=by
   have:=length_pos_iff.2 q;simp;omega
  have hpos:=length_pos_iff.2 q;have f:Builtin.nextslicecap (([]:List (List D)).length+rows2.length) 0*by_<=2^48:=by
   have e:Builtin.nextslicecap (([]:List (List D)).length+rows2.length) 0=rows2.length:=by
    unfold Builtin.nextslicecap;rw[aE (by simp;omega)];simp
   rw[e,Nat.mul_comm];refine Nat.le_trans (Nat.le_trans (gK _ (Nat.le_add_right _ (1-by_))) O) (by omega)
  have b:([]:List (List D)).length+rows2.length<=2^48:=by
   have E:1*rows2.length<=(by_+(1-by_))*rows2.length:=gK _ (by omega);simp only[length_nil];omega
  obtain⟨M,I,cells,E,J,K,L⟩:=xw (P:=P) (w:=w) (V:=cx w lev S) r k (a:=a) (cap:=0) (rows:=[]) (kJ.nil z a).OU C.OU m f b T3;obtain⟨a2,cap2,rfl,hcap2,n,t,hnone2,hc2⟩:=C
  have s:=h.drew.xQ g F (vs:=cells) (z:=z) (cap:=M) (rows:=rows2) I J (by simpa using E) n t (by
   intro i j row d s Q;obtain⟨u,H,B⟩:=L i j row d (by simpa using s) Q
   exact⟨u,H,aD.dQ (w:=w) (w':=w.drew) (lev':=lev) B (λ_ _ h=>h) (λ_ _ _ h=>h)⟩)
  refine⟨_,_,_,_,_,K,s,?_,_,_,_,rfl⟩;rw[aW];simp

def Inv.PO(h:Inv w0 l0 G S0 w lev own S env tm){r:Nat}(he:env.o r=.own z rows)(D:16<=N)(hf:(gn r env).o N=.undef)(hT:bY P T=.slice z by_ ea)(F:∃e,P.underlying T2=some (.slice e))
  (L:S r=some x) (X:kJ w (cx w lev S) y z rows2) (hb:(by_+(1-by_))*(rows.length+rows2.length)<=2^47) (aa:by_<=2^32) (T3:TypeId) :
  ∃v w' lev' own' S',(Builtin.append_ #[T,T2] T3 #[x,y]).run P w=.ok v w'/\Inv w0 l0 G S0 w' lev' own' S' (bu (gn r env) N (.own z (rows++rows2))) tm/\S' N=some v/\∃a l c,v=.slice a l c:=by
 have W:=h.kill r;have C:=h.objs r;rw[he]at C;rcases C with⟨a,Y,rfl⟩| ⟨b,c,E,cap,Y,h2,h3,h4,h5,h6,h7,h8,h9,h10⟩
 ·rw[Y]at L;cases L;exact W.JZ D hf hT F (X.perm _) (by simpa using hb) T3
 rw[Y]at L;cases L;have ai:=X;obtain⟨a2,cap2,hyv,hcap2,Q,ac,hnone2,hc2⟩:=ai;have I:∀row∈rows++rows2,row.length=z:=by
  intro row f;rcases mem_append.1 f with f|f
  ·exact h5 row f
  ·exact Q row f
 have t:∀row∈rows++rows2,∀d∈row,br d:=by
  intro row f;rcases mem_append.1 f with f|f
  ·exact h6 row f
  ·exact ac row f
 have L:kJ w (cx w lev S) (.slice (some ⟨b,0,none⟩) rows.length cap) z rows:=by
  refine⟨_,cap,rfl,h4,h5,h6,(λe=>by cases e),?_⟩;rintro ad ⟨⟩ i j row d p m;obtain⟨u,K,g⟩:=h10 i j row d p m;exact⟨u,by rw[cm,Nat.zero_add,eP w b _ h2];exact K,g⟩
 by_cases k:rows.length+rows2.length<=cap
 ·obtain⟨news,ah,ag,af,R⟩:=zQ (P:=P) (w:=w) (V:=cx w lev S) hT F (a:=some ⟨b,0,none⟩) (len:=rows.length) (cap:=cap) X.OU k T3;have n:0+rows.length*z+news.length<=c.size:=by
   rw[ah,h3,Nat.zero_add,<-Nat.add_mul];exact gK z k
  have U:=eE (P:=P) b (rows.length*z) E news 0 c w h2 (by simpa using n) af;simp only[Nat.add_zero]at U;have B:∀j,(bL c (rows.length*z) news)[j]?=if rows.length*z<=j/\j<rows.length*z+news.length then news[j-rows.length*z]? else c[j]?:=
   λj=>gl news c _ j (by simpa using n)
  have J:jB w lev (cO w b (bL c (rows.length*z) news) E) lev:=ig h7;refine⟨_,cO w b (bL c (rows.length*z) news) E,lev,fD own b (some N),fD (fD S r none) N (some (.slice (some ⟨b,0,none⟩) (rows.length+rows2.length) cap)),R _ (by simpa[cm]using U),?_,aW _ _ _,_,_,_,rfl⟩;have Z:=W.fresh hf;refine W.setObj (jl h h2 (bp _ _ _) h9 (λj m=>?_)) J (λs hs=>bN _ _ hs) (λu K=>by rw[Z]at K;cases K) (.inl D) ?_ ?_
  ·rcases m with m|m
   ·omega
   ·rw[B,az (by omega)]
  ·intro b' s hs H O _;have:b'≠b:=by
    rintro rfl;rw[h8]at O;cases O;exact H (by simp[gn])
   exact⟨fU this _ _,rfl,bN _ _ this⟩
  ·refine .inr ⟨b,_,E,cap,by rw[aW,cT],gh (lt_of_block h2) _ _,by rw[bp];exact h3,by rw[cT];exact k,I,t,h7,aW _ _ _,by rw[bp];exact h9,?_⟩;intro i j row d p m;have ab:j<z:=by
    rw[<-I row (bM p)];exact(cJ.1 m).1
   have q:d.names=[]:=(t row (bM p) d (bM m)).2;rw[B];rcases Cq p with hi'| ⟨hge,hi'⟩
   ·have ae:=j7 ab (cJ.1 hi').1;rw[az (by omega)];obtain⟨u,A,g⟩:=h10 i j row d hi' m;exact⟨u,A,g.dQ J (by rw[q];simp)⟩
   ·obtain⟨u,A,g⟩:=ag _ j row d hi' m;have hge':rows.length*z<=i*z:=gK z hge;have e1:i*z+j-rows.length*z=(i-rows.length)*z+j:=by rw[Nat.sub_mul];omega
    have ae:(i-rows.length)*z+j<news.length:=(cJ.1 A).1;rw[aE (by omega),e1];exact⟨u,A,g.dQ J (by rw[q];simp)⟩
 ·obtain⟨M,e',cells,g1,g2,g3,g4⟩:=K0 (P:=P) (w:=w) (V:=cx w lev S) hT F L.OU X.OU k hb aa T3
  have p:=W.drew.xQ D hf (vs:=cells) (z:=z) (cap:=M) (rows:=rows++rows2) e' g2 (by rw[cT];exact g1) I t (by
   intro i j row d p m;obtain⟨u,K,g⟩:=g4 i j row d p m;have q:d.names=[]:=(t row (bM p) d (bM m)).2
   exact⟨u,K,aD.dQ (w:=w) (w':=w.drew) (lev':=lev) g (λ_ _ h=>h) (by rw[q];simp)⟩)
  refine⟨_,_,_,_,_,g3,p,?_,_,_,_,rfl⟩;rw[aW,cT];rfl
end
end Go.Abs
namespace Go.Abs

def cY(P:Program)(e:Env)(t:TypeId)(parts:List (Nat×Operand)):List (Nat×Nat×D):=
 match bY P t with
 | .struct fs=>parts.map λx=>match fs[x.1]? with
  |some f=>(f.off,f.sz,rd e x.2)
  |none=>(0,0,.undef)
 | .arr _ z _=>parts.map λx=>(x.1*z,z,rd e x.2)
 | _=>[]
def Aa(P:Program)(e:Env)(t:TypeId)(parts:List (Nat×Operand)):Prop:=
 (match bY P t with
 | .struct fs=>∀x∈parts,x.1<fs.length
 | .arr _ _ _=>True
 | _=>False)/\∃z,iG P t=some z/\j6 z.length (cY P e t parts)


def tq:D->D
 | .own _ rows=>.int .i64 rows.length
 | .iI _ rows=>.int .i64 rows.length
 | _=>.undef
def sI:D->Prop
 | .own _ _=>True
 | .iI _ _=>True
 | _=>False
def LI(e:Env):D->D
 | .sl _ rows=>.int .i64 rows.length
 | .nil=>.int .i64 0
 | .emp=>.int .i64 0
 | .ref r=>tq (e.o r)
 | .cN _ _ _ len=>.int .i64 len
 | .bz _ _ _ len _=>.int .i64 len
 | .str s=>.int .i64 s.size
 | _=>.undef
def Dg(e:Env)(t:Ty)(d:D):D:=
 match t with
 | .arr n _ _=>.int .i64 n
 | _=>LI e d
def Bw(e:Env):D->Prop
 | .sl _ _| .nil| .emp| .cN _ _ _ _| .bz _ _ _ _ _=>True
 | .ref r=>sI (e.o r)
 | _=>False
def isStr:D->Prop
 | .str _=>True
 | _=>False
def vY(e:Env)(t:Ty)(d:D):Prop:=
 match t with
 | .slice _ _ _=>Bw e d
 | .str=>isStr d
 | .arr _ _ _=>True
 | _=>False
def Hj:D->D->D
 | .int k x,.int _ y=>.int k (if y>x then y else x)
 | _,_=>.undef
def Ho:D->D->D
 | .int k x,.int _ y=>.int k (if y<x then y else x)
 | _,_=>.undef
def pe:List D->Prop
 | []=>True
 | .int _ _::r=>pe r
 | _::_=>False
def GD(f:D->D->D):List D->D
 | []=>.undef
 |x::r=>r.foldl f x


def FV(e:Env)(a:Int):Option Operand->D
 |some x=>rd e x
 |none=>.int .i64 a
def KF(e:Env)(t:Ty)(x:D)(l h:Nat):D:=
 match x with
 | .sl z rows=>.sl z ((rows.take h).drop l)
 | .str s=>.str (s.extract l h)
 | .nil=>.nil
 | .emp=>.emp
 | .ref r=>match e.o r with
  | .own z _=>.cN r z l (h-l)
  | _=>.undef
 | .cN r z lo _=>.cN r z (lo+l) (h-l)
 | .bz r off z _ cap=>.bz r (off+l*z) z (h-l) (cap-l)
 | .addr r off=>match t with
  | .arr n z _=>.bz r (off+l*z) z (h-l) (n-l)
  | _=>.undef
 | _=>.undef
def CP(e:Env)(t:Ty)(x:D):Option Nat:=
 match x,t with
 | .sl z rows,.slice z' _ _=>if z=z' then some rows.length else none
 | .str s,.str=>some s.size
 | .nil,.slice _ _ _=>some 0
 | .emp,.slice _ _ _=>some 0
 | .ref r,.slice z' _ _=>match e.o r with
  | .own z rows=>if z=z' then some rows.length else none
  | _=>none
 | .cN _ z _ len,.slice z' _ _=>if z=z' then some len else none
 | .bz _ _ z len _,.slice z' _ _=>if z=z' then some len else none
 | .addr _ _,.arr n _ _=>some n
 | _,_=>none
def Oz(e:Env)(t:Ty)(x:D):Option Nat:=
 match x,t with
 | .bz _ _ z _ cap,.slice z' _ _=>if z=z' then some cap else none
 |x,t=>CP e t x
def Pf(N:Option Nat)(lo a:D)(k:Nat->Nat->Nat->Prop):Prop:=
 match N,lo,a with
 |some n,.int _ l,.int _ h=>0<=l/\l<=h/\h<=n/\k n l.toNat h.toNat
 | _,_,_=>False
def yh(N:Option Nat):Int:=((N.getD 0:Nat):Int)
def slV(e:Env)(t:Ty)(x:D)(lo a:Option Operand):D:=
 match FV e 0 lo,FV e (yh (CP e t x)) a with
 | .int _ l,.int _ h=>KF e t x l.toNat h.toNat
 | _,_=>.undef
def OC(e:Env)(t:Ty)(x:D)(lo a:Option Operand):Prop:=
 Pf (Oz e t x) (FV e 0 lo) (FV e (yh (CP e t x)) a) λ_ _ _=>True
def Nz:Ty->Prop
 | .slice _ _ _=>True
 | _=>False
def RX:D->Prop
 | .sl _ _| .nil| .emp| .ref _| .cN _ _ _ _| .bz _ _ _ _ _=>True
 | _=>False
def isZero:D->Prop
 | .int _ n=>n=0
 | _=>False

def dP(P:Program)(e:Env):Op->D
 | .move x=>rd e x
 | .assign x=>rd e x
 | .pick c a b=>match rd e c with
  | .bool p=>if p then rd e a else rd e b
  | _=>.undef
 | .binOp op _ x y _=>tQ op (rd e x) (rd e y)
 | .unOp op _ x=>sV op (rd e x)
 | .convert s d x=>DP (bY P s) (bY P d) (rd e x)
 | .fieldAddr t x f=>match bY P t with
  | .struct fs=>Mx fs f (rd e x)
  | _=>.undef
 | .field t x f=>match bY P t with
  | .struct fs=>Lp fs f (rd e x)
  | _=>.undef
 | .indexAddr t x i=>Lq e (bY P t) (rd e x) (rd e i)
 | .index t x i=>ZY (bY P t) (rd e x) (rd e i)
 | .load t a=>match dS P t with
  |some l=>Pn e l (rd e a)
  |none=>.undef
 | .nilCheck x=>rd e x
 | .extract x i=>match rd e x with
  | .bH ds=>ds.getD i .undef
  | _=>.undef
 | .build t parts=>match iG P t with
  |some z=>.agg (jd z (cY P e t parts.toList))
  |none=>.undef
 | .slice t x lo hi none=>slV e (bY P t) (rd e x) lo hi
 | .slice _ _ _ _ (some _)=>.emp
 | .makeFunc (.func f) _ caps=>.fn f (caps.toList.map (rd e))
 | .call c=>match c.callee,c.args.toList,c.argTypes.toList with
  | .builtin .len,[x],[t]=>Dg e (bY P t) (rd e x)
  | .builtin .max,l,_=>GD Hj (l.map (rd e))
  | .builtin .min,l,_=>GD Ho (l.map (rd e))
  | _,_,_=>.undef
 | _=>.undef

def NT:D->Prop
 | .addr _ _| .bB _ _ _ _| .bq _| .fn _ _=>True
 | _=>False
def ck(P:Program)(e:Env):Op->Prop
 | .move _=>True
 | .assign _=>True
 | .pick c _ _=>match rd e c with
  | .bool _=>True
  | _=>False
 | .binOp op t x y _=>rU P (isConst x||isConst y) op t (rd e x) (rd e y)
 | .unOp op _ x=>pK op (rd e x)
 | .convert s d x=>AS (bY P s) (bY P d) (rd e x)
 | .fieldAddr t x f=>match bY P t with
  | .struct fs=>Li fs f (rd e x)
  | _=>False
 | .field t x f=>match bY P t with
  | .struct fs=>DY fs f (rd e x)
  | _=>False
 | .indexAddr t x i=>GP e (bY P t) (rd e x) (rd e i)
 | .index t x i=>GW (bY P t) (rd e x) (rd e i)
 | .load t a=>match dS P t with
  |some l=>Fj e l (rd e a)
  |none=>False
 | .nilCheck x=>NT (rd e x)
 | .extract x i=>match rd e x with
  | .bH ds=>i<ds.length
  | _=>False
 | .build t parts=>Aa P e t parts.toList
 | .slice t x lo hi none=>OC e (bY P t) (rd e x) lo hi
 | .slice t x none (some h) (some m)=>Nz (bY P t)/\RX (rd e x)/\isZero (rd e h)/\isZero (rd e m)
 | .makeFunc (.func _) first _=>first = #[]
 | .call c=>match c.callee,c.args.toList,c.argTypes.toList with
  | .builtin .len,[x],[t]=>vY e (bY P t) (rd e x)
  | .builtin .max,l,_=>l≠[]/\pe (l.map (rd e))
  | .builtin .min,l,_=>l≠[]/\pe (l.map (rd e))
  | _,_,_=>False
 | _=>False

section
variable{P:Program}{w0 w w':World}{l0:Nat->Option Nat}{G:Nat->Option (Nat×Nat)}{S0:Nat->Option Value}{lev lev' own own':Nat->Option Nat}{S S':Nat->Option Value}{env env':Env}{tm tm':Nat->Value}

theorem Inv.pL{tmps:Array Value}(h:Inv w0 l0 G S0 w lev own S env (jk tmps))(a:Act)(b:a.tmps=tmps)(x:Operand):aD (cx w lev S) (a.eval x) (rd env x):=by
 subst b;cases x with
 |tmp t=>exact h.lV t
 |const v=>exact HO v
 |global g=>exact .undef _
 |func f=>exact .fn f #[] [] rfl (by intro i v d c;simp at c)
theorem wM{V:Cx}(a:Nat->Option (Nat×Nat)):∀(ps:List (Nat×Value))(qs:List (Nat×Nat×D))(cs:Array Value)(ds:List D),ps.length=qs.length->cs.size=ds.length ->
  (∀(i:Nat) v d,cs[i]?=some v->ds[i]?=some d->aD V v d) ->
  (∀(k:Nat) p q,ps[k]?=some p->qs[k]?=some q->a p.1=some (q.1,q.2.1)/\aD V p.2 q.2.2)->j6 ds.length qs ->
  ∃b,Instr.fill a cs ps=some b/\b.size=(jd ds qs).length/\∀(i:Nat) v d,b[i]?=some v->(jd ds qs)[i]?=some d->aD V v d
 | [],[],cs,ds,_,hs,hr,_,_=>⟨cs,rfl,hs,hr⟩
 | [],_::_,_,_,h,_,_,_,_=>by simp at h
 | _::_,[],_,_,h,_,_,_,_=>by simp at h
 | (i,v)::ps,(off,sz,d)::qs,cs,ds,hl,hs,hr,hp,hok=>by
  obtain⟨h1,h2,y,z⟩:=hok;obtain⟨j,m⟩:=hp 0 (i,v) (off,sz,d) rfl rfl;simp only at j m;obtain⟨c1,c2,c3⟩:=mR m y;have C:(v.cells.zipIdx.foldl (λcs (x:Value×Nat)=>cs.setIfInBounds (off+x.2) x.1) cs)=bL cs off v.cells.toList:=by
   rw[<-Array.foldl_toList,Array.toList_zipIdx];have:∀(l:List Value)(k:Nat)(c:Array Value),(l.zipIdx k).foldl (λcs (x:Value×Nat)=>cs.setIfInBounds (off+x.2) x.1) c=bL c (off+k) l:=by
    intro l;induction l with
    |nil=>intro k c;rfl
    |cons x l ih=>intro k c;simp only[List.zipIdx_cons,List.foldl_cons,bL,ih];rw[Nat.add_assoc]
   exact this _ 0 cs
  have f:off+v.cells.toList.length<=cs.size:=by simp;omega
  have e:(dc ds off d.cells).length=ds.length:=eF (by omega);obtain⟨b,s,e2,t⟩:=wM a ps qs (bL cs off v.cells.toList) (dc ds off d.cells) (by simpa using hl) (by rw[bp,e];exact hs)
   (by
    intro k u x n o;rw[gl _ _ _ _ f]at n;rw[sX (by omega)]at o;have g:v.cells.toList.length=d.cells.length:=by simpa using c1
    by_cases r:off<=k/\k<off+d.cells.length
    ·rw[aE (by rw[g];exact r)]at n;rw[aE r]at o;exact c3 _ u x (by simpa using n) o
    ·rw[az (by rw[g];exact r)]at n;rw[az r]at o
     exact hr k u x n o)
   (λk p q A B=>hp (k+1) p q A B) (by rw[e];exact z)
  refine⟨b,?_,e2,t⟩;unfold Instr.fill;simp only[j];rw[az (by simp;omega)];rw[C];exact s

def QC{a:Array Field}{l:List FT}(c:mz P a.toList=some l)(w:World) :
  ∃ps:Array (Nat×Nat),(a.mapM (λf=>do pure (f.offset,<-sizeOf f.type):Field->Sem (Nat×Nat))).run P w=.ok ps w/\∀i:Nat,ps[i]?=(l[i]?).map λf=>(f.off,f.sz):=by
 have key:∀(r:List Field)(l:List FT)(acc:Array (Nat×Nat)),mz P r=some l ->
   (r.foldlM (λ(acc:Array (Nat×Nat)) f=>do pure (acc.push (f.offset,<-sizeOf f.type))) acc:Sem (Array (Nat×Nat))).run P w=.ok (acc++(l.map λf=>(f.off,f.sz)).toArray) w:=by
  intro r;induction r with
  |nil =>
   intro l acc h;simp only[mz,gy]at h;subst h;simp[Sem.run,pure]
  |cons f r ih =>
   intro l acc h;unfold mz at h;split at h<;>try(cases h;done)
   rename_i ly b d hr;split at h
   ·cases h
   ·cases h;simp only[List.foldlM_cons,Sem.run_bind,aZ d];have:=ih b (acc.push (f.offset,ly.sz)) hr;simp only[Result.andThen_ok,pure,Sem.run]at this |-;rw[this];simp
 refine⟨(l.map λf=>(f.off,f.sz)).toArray,?_,λi=>by simp⟩;have:=key a.toList l #[] c;rw[Array.mapM_eq_foldlM];rw[<-Array.foldlM_toList];simpa using this

end
end Go.Abs
namespace Go.Abs

variable{k k':IntKind}{N cap b z:Nat}{lo hi:Option Operand}{l h:Int}{jx:Operand->Value}{e:Env}{V:Cx}{ea:Bool}{t:TypeId}{d:D}{x:Value}
section
variable{P:Program}{w0 w w':World}{l0:Nat->Option Nat}{G:Nat->Option (Nat×Nat)}{S0:Nat->Option Value}{lev lev' own own':Nat->Option Nat}{S S':Nat->Option Value}{env env':Env}{tm tm':Nat->Value}

def gp{s:Sem Value}{u:Value}{w':World}(h:s.run P w=.ok u w'):(do pure (Next.value (<-s)):Sem Next).run P w=.ok (.value u) w':=by
 simp[Sem.run_bind,h,Sem.run,pure]
def Se{α:Type}{a:Array α}{x:α}(h:a.toList=[x]):a = #[x]:=Array.ext' (by simpa using h)

theorem Kx{V:Cx}:∀(vs:List Value)(ds:List D)(x:Value)(d:D),aD V x d->(∃k n,d=.int k n)->vs.length=ds.length->(∀(i:Nat) v e,vs[i]?=some v->ds[i]?=some e->aD V v e)->pe ds ->
  ∃u,(vs.foldlM Builtin.max2 x).run P w=.ok u w/\aD V u (ds.foldl Hj d)/\∃k n,ds.foldl Hj d=.int k n
 | [],[],x,d,hx,a,_,_,_=>⟨x,rfl,hx,a⟩
 | [],_::_,_,_,_,_,h,_,_=>by simp at h
 | _::_,[],_,_,_,_,h,_,_=>by simp at h
 |v::vs,e::ds,x,d,hx,⟨k,n,a⟩,hl,hr,hi=>by
  cases e<;>try exact hi.elim
  rename_i k' m;subst a;have c:=hr 0 v _ rfl rfl;have f:=hx.cB;have e2:=c.cB;subst f;subst e2;obtain⟨u,g,j,o⟩:=Kx vs ds (.int k (if m>n then m else n)) (.int k (if m>n then m else n)) (.int _ _) ⟨_,_,rfl⟩ (by simpa using hl) (λi v e c p=>hr (i+1) v e c p) hi;refine⟨u,?_,j,o⟩;simp only[List.foldlM_cons,Sem.run_bind,Builtin.max2];exact g
theorem Ky{V:Cx}:∀(vs:List Value)(ds:List D)(x:Value)(d:D),aD V x d->(∃k n,d=.int k n)->vs.length=ds.length->(∀(i:Nat) v e,vs[i]?=some v->ds[i]?=some e->aD V v e)->pe ds ->
  ∃u,(vs.foldlM Builtin.min2 x).run P w=.ok u w/\aD V u (ds.foldl Ho d)/\∃k n,ds.foldl Ho d=.int k n
 | [],[],x,d,hx,a,_,_,_=>⟨x,rfl,hx,a⟩
 | [],_::_,_,_,_,_,h,_,_=>by simp at h
 | _::_,[],_,_,_,_,h,_,_=>by simp at h
 |v::vs,e::ds,x,d,hx,⟨k,n,a⟩,hl,hr,hi=>by
  cases e<;>try exact hi.elim
  rename_i k' m;subst a;have c:=hr 0 v _ rfl rfl;have f:=hx.cB;have e2:=c.cB;subst f;subst e2;obtain⟨u,g,j,o⟩:=Ky vs ds (.int k (if m<n then m else n)) (.int k (if m<n then m else n)) (.int _ _) ⟨_,_,rfl⟩ (by simpa using hl) (λi v e c p=>hr (i+1) v e c p) hi;refine⟨u,?_,j,o⟩;simp only[List.foldlM_cons,Sem.run_bind,Builtin.min2];exact g


def run_sliceBound{v:Value}{i:Int}(f:v=.int k i)(a:0<=i)(c:i<=N)(code:BoundsCode)(w:World):(Instr.sliceBound v N code).run P w=.ok i.toNat w:=by
 subst f;simp only[Instr.sliceBound,Sem.run_bind,asIntOf,pure,Sem.run,Result.andThen_ok];rw[aE ⟨a,c⟩];rfl
def u6(hr:∀o,aD V (jx o) (rd e o))(hN:N<=cap)(f:FV e 0 lo=.int k l)(g:FV e N hi=.int k' h)(j:0<=l)(hlh:l<=h)(hh:h<=cap)(a:Bool)(w:World) :
  (Instr.sliceBounds a N cap (lo.map jx) (hi.map jx) none).run P w=.ok (l.toNat,h.toNat,cap) w:=by
 have c:∀code,(match hi.map jx with|some v=>Instr.sliceBound v cap code|none=>pure N:Sem Nat).run P w=.ok h.toNat w:=by
  intro code;cases hi with
  |none =>
   simp only[FV,D.int.injEq]at g;obtain⟨_,rfl⟩:=g;rfl
  |some o =>
   simp only[FV]at g;have:=hr o;rw[g]at this;exact run_sliceBound this.cB (by omega) (by omega) code w
 have i:∀code,(match lo.map jx with|some v=>Instr.sliceBound v h.toNat code|none=>pure 0:Sem Nat).run P w=.ok l.toNat w:=by
  intro code;cases lo with
  |none =>
   simp only[FV,D.int.injEq]at f;obtain⟨_,rfl⟩:=f;rfl
  |some o =>
   simp only[FV]at f;have:=hr o;rw[f]at this;exact run_sliceBound this.cB j (by omega) code w
 have hh1:=c .sliceAcap;have hh2:=c .sliceAlen;have hl1:=i .sliceB;cases a<;>cases hi<;>cases lo<;>simp_all[Instr.sliceBounds,Sem.run_bind,Sem.run,pure]

def gG(hr:∀o,aD V (jx o) (rd e o))(n:N<=cap)(j:FV e 0 lo=.int k l)(m:FV e N hi=.int k' h)(i:0<=l)(g:l<=h)(p:h<=cap)
  (q:bY P t=.slice z b ea) (a:Option Addr) (w:World) :
  (Instr.sliceAt t (.slice a N cap) (lo.map jx) (hi.map jx) none).run P w=.ok (.slice (if cap=l.toNat then a else a.map (·.add (l.toNat*z))) (h.toNat-l.toNat) (cap-l.toNat)) w:=by
 obtain⟨el,inf,r,c,hin,hb,hz,_⟩:=bK q;have f:=u6 (P:=P) hr n j m i g p true w;simp[Instr.sliceAt,Sem.run_bind,aT r,Instr.slice,f,aZ c,Sem.run,pure]
def zF(hr:∀o,aD V (jx o) (rd e o))(j:FV e 0 lo=.int k l)(m:FV e N hi=.int k' h)(i:0<=l)(g:l<=h)(n:h<=N)
  (p:bY P t=.arr N z ea) (a:Addr) (w:World) :
  (Instr.sliceAt t (.pointer (some a)) (lo.map jx) (hi.map jx) none).run P w=.ok (.slice (some (if N=l.toNat then a else a.add (l.toNat*z))) (h.toNat-l.toNat) (N-l.toNat)) w:=by
 obtain⟨el,q,c,hz⟩:=w7 p;have f:=u6 (P:=P) hr (cX N) j m i g n false w;simp[Instr.sliceAt,Sem.run_bind,aT q,Instr.sureAddr,f,aZ c,Sem.run,pure]

def L9(K:∀r z rows,env.o r=.own z rows->∃a cap,V.S r=some (.slice a rows.length cap)/\rows.length<=cap/\(a=none->rows=[]/\cap=0))(E:aD V x d)(hr:∀o,aD V (jx o) (rd env o))(h:OC env (bY P t) d lo hi)(w:World) :
  ∃u,(Instr.sliceAt t x (lo.map jx) (hi.map jx) none).run P w=.ok u w/\aD V u (slV env (bY P t) d lo hi):=by
 rcases Classical.em (∃r off z len cap,d=.bz r off z len cap)with⟨r,off,z,len,bcap,rfl⟩|hnb
 ·unfold OC Pf at h;split at h<;>try exact h.elim
  rename_i N k l k' B f y g;obtain⟨A,n,m,_⟩:=h;cases c:bY P t<;>rw[c]at f g<;>simp only[Oz]at f<;>(try(cases f;done));split at f<;>try(cases f;done)
  rename_i I ea H;cases f;subst H;simp only[CP,if_true]at g;have q:yh (some len)=(len:Int):=rfl;rw[q]at g;obtain⟨a,a',J,C,rfl,h3,Q,h5,rfl,h6⟩:=E.eg;refine⟨_,gG hr Q y g A n m c _ w,?_⟩;unfold slV;rw[y];simp only[CP,if_true,q,g,KF];refine .bz r _ z _ _ a _ C ?_ (by omega);intro F;rw[h6 (by omega),az (by omega)];simp only[Option.map_some,add_add]
 have R:Oz env (bY P t) d=CP env (bY P t) d:=by
  cases d<;>first|rfl|exact(hnb ⟨_,_,_,_,_,rfl⟩).elim
 unfold OC Pf at h;rw[R]at h;split at h<;>try exact h.elim
 rename_i N k l k' B f y g;obtain⟨A,n,m,_⟩:=h;have q:yh (some N)=(N:Int):=rfl;rw[f,q]at g;unfold slV;rw[f,q,y,g];simp only;cases d<;>simp only[CP]at f<;>(try(cases f;done))
 ·-- string
  rename_i s;cases c:bY P t<;>rw[c]at f<;>simp only at f<;>(try(cases f;done));cases f;rw[E.mD];refine⟨.string (s.extract l.toNat B.toNat),?_,.str _⟩;have T:=u6 (P:=P) hr (cX s.size) y g A n m false w;simp[Instr.sliceAt,Sem.run_bind,aT (w9 c),Instr.slice,T,Sem.run,pure]
 ·-- nil
  cases c:bY P t<;>rw[c]at f<;>simp only at f<;>(try(cases f;done));cases f;cases E;refine⟨_,gG hr (cX 0) y g A n m c _ w,?_⟩;have:l.toNat=0/\B.toNat=0:=by omega
  rw[this.1,this.2];exact .nil
 ·cases c:bY P t<;>rw[c]at f<;>simp only at f<;>(try(cases f;done));cases f;cases E;refine⟨_,gG hr (cX 0) y g A n m c _ w,?_⟩;have:l.toNat=0/\B.toNat=0:=by omega
  rw[this.1,this.2];exact .emp _
 ·-- rows that stay
  rename_i z rows;cases c:bY P t<;>rw[c]at f<;>simp only at f<;>(try(cases f;done));split at f<;>try(cases f;done)
  rename_i I ea H;cases f;subst H;obtain⟨a,cap,rfl,v,X,hk,p,hc⟩:=E.u9;refine⟨_,gG hr v y g A n (by omega) c _ w,?_⟩;simp only[KF];have D:((rows.take B.toNat).drop l.toNat).length=B.toNat-l.toNat:=by simp;omega
  cases a with
  |none =>
   obtain⟨rfl,rfl⟩:=p rfl;have:l.toNat=0/\B.toNat=0:=by simp at m;omega
   rw[this.1,this.2];exact .slnil _
  |some ad =>
   rw[<-D];by_cases O:cap=l.toNat
   ·have:B.toNat=l.toNat:=by omega
    rw[aE O,this];have e0:(rows.take l.toNat).drop l.toNat=[]:=by simp
    rw[e0];exact fK (rows:=[]) (by simp) (by simp) (by simp) (by simp)
   ·rw[az O];refine fK (by rw[D];omega) (λr hr=>X r (List.mem_of_mem_take (List.mem_of_mem_drop hr))) (λr hr=>hk r (List.mem_of_mem_take (List.mem_of_mem_drop hr))) ?_;intro i j r d hi hj;rw[List.getElem?_drop]at hi;have U:rows[l.toNat+i]?=some r:=by
     have W:l.toNat+i<B.toNat:=by
      have:=(cJ.1 hi).1;simp at this;omega
     rwa[List.getElem?_take_of_lt W]at hi
    obtain⟨u,Z,Y⟩:=hc ad rfl _ j r d U hj;refine⟨u,?_,Y⟩;rw[add_add,show l.toNat*z+(i*z+j)=(l.toNat+i)*z+j by rw[Nat.add_mul];omega];exact Z
 ·-- of the frame's own
  rename_i r;cases c:bY P t<;>rw[c]at f<;>simp only at f<;>(try(cases f;done));split at f<;>try(cases f;done)
  rename_i z' I ea z rows ho;split at f<;>try(cases f;done)
  rename_i H;cases f;subst H;obtain⟨a,cap,C,v,p⟩:=K r z rows ho;obtain⟨M,_⟩:=E.gx;rw[C]at M;cases M;refine⟨_,gG hr v y g A n (by omega) c _ w,?_⟩;simp only[KF,ho]
  refine .cN r z _ _ a _ _ cap _ C ?_ (by omega) (λe=>by
   have:a=none:=by revert e;split<;>simp
   rw[(p this).2];omega)
  intro F;cases a with
  |none=>rw[(p rfl).1]at m;simp at m;omega
  |some b=>exact⟨b,rfl,by rw[az (by omega)];rfl⟩
 ·-- a pointer to an array
  rename_i r off;cases c:bY P t<;>rw[c]at f<;>simp only at f<;>(try(cases f;done));cases f;obtain⟨a,C,rfl⟩:=E.iu;refine⟨_,zF hr y g A n m c _ w,?_⟩;simp only[KF,c];refine .bz r _ _ _ _ a _ C ?_ (by omega);intro F;rw[az (by omega),add_add]
 ·rename_i r z lo' len;cases c:bY P t<;>rw[c]at f<;>simp only at f<;>(try(cases f;done));split at f<;>try(cases f;done)
  rename_i H;cases f;subst H;obtain⟨a,a',L,cap,J,C,rfl,h3,Q,h5⟩:=E.jP;refine⟨_,gG hr Q y g A n (by omega) c _ w,?_⟩;simp only[KF]
  refine .cN r z _ _ a _ _ cap _ C ?_ (by omega) (λe=>by
   have:a'=none:=by revert e;split<;>simp
   rw[h5 this];omega)
  intro F;obtain⟨b,rfl,rfl⟩:=h3 (by omega);refine⟨b,rfl,?_⟩;rw[az (by omega)];simp only[Option.map_some,add_add,Nat.add_mul]
 ·exact(hnb ⟨_,_,_,_,_,rfl⟩).elim

def QV(j:∀r z rows,(env.o r=.own z rows\/env.o r=.iI z rows)->∃a cap,V.S r=some (.slice a rows.length cap)){ty:TypeId}(m:aD V x d)(h:vY env (bY P t) d) :
  ∃u,(Builtin.len_ #[t] ty #[x]).run P w=.ok u w/\aD V u (Dg env (bY P t) d):=by
 cases g:bY P t<;>rw[g]at h<;>try(simp only[vY]at h;done)
 case str =>
  cases d<;>simp only[vY,isStr]at h;rw[m.mD];exact⟨.int .i64 _,by simp[Builtin.len_,Sem.run_bind,aT (w9 g),goInt,Sem.run,pure],.int _ _⟩
 case slice z by_ ea =>
  obtain⟨e,i,y,_⟩:=bK g;have p:∀a n c,x=.slice a n c->Dg env (.slice z by_ ea) d=.int .i64 n->∃u,(Builtin.len_ #[t] ty #[x]).run P w=.ok u w/\aD V u (Dg env (.slice z by_ ea) d):=by
   rintro a n c rfl e;rw[e];exact⟨.int .i64 n,by simp[Builtin.len_,Sem.run_bind,aT y,goInt,Sem.run,pure],.int _ _⟩
  cases d<;>simp only[vY,Bw]at h
  ·cases m;exact p _ _ _ rfl rfl
  ·cases m;exact p _ _ _ rfl rfl
  ·obtain⟨a,cap,rfl,_⟩:=m.u9;exact p _ _ _ rfl rfl
  ·rename_i r;cases v:env.o r<;>rw[v]at h<;>simp only[sI]at h
   ·rename_i A rows;obtain⟨a,cap,s⟩:=j r A rows (.inl v);obtain⟨f,_⟩:=m.gx;rw[s]at f;cases f;exact p _ _ _ rfl (by simp[Dg,LI,v,tq])
   ·rename_i A rows;obtain⟨a,cap,s⟩:=j r A rows (.inr v);obtain⟨f,_⟩:=m.gx;rw[s]at f;cases f;exact p _ _ _ rfl (by simp[Dg,LI,v,tq])
  ·obtain⟨a,B,L,cap,q,s,rfl,C,D,E⟩:=m.jP;exact p _ _ _ rfl rfl
  ·obtain⟨a,B,q,s,rfl,C,D,E⟩:=m.eg;exact p _ _ _ rfl rfl
 case arr n z ea =>
  obtain⟨e,y,_⟩:=w7 g;exact⟨.int .i64 n,by simp[Builtin.len_,Sem.run_bind,aT y,goInt,Sem.run,pure],.int _ _⟩
end
end Go.Abs
namespace Go.Abs
open List

variable{b:Bool}{c:Addr}{t:TypeId}{a:Nat}
section
variable{P:Program}{w0 w w':World}{l0:Nat->Option Nat}{G:Nat->Option (Nat×Nat)}{S0:Nat->Option Value}{lev lev' own own':Nat->Option Nat}{S S':Nat->Option Value}{env env':Env}{tm tm':Nat->Value}

def ow{V:Cx}{z:Nat}(j:bY P t=.slice z a b){len cap:Nat}{i:Value}{k:IntKind}{n:Int}(g:aD V i (.int k n))(d:0<=n)(f:n<len) :
  (Instr.indexAt t (.slice (some c) len cap) i).run P w=.ok (.pointer (some (c.add (n.toNat*z)))) w:=by
 obtain⟨e,inf,l,h,hin,hb,hz,_⟩:=bK j;rw[g.cB];simp[Instr.indexAt,Sem.run_bind,asIntOf,aT l,d,f,aZ h,Sem.run,pure]

def NF(h:Inv w0 l0 G S0 w lev own S env tm){l:yA}(s:dS P t=some l){x:Value}{d:D}(y:aD (cx w lev S) x d)(ok:Fj env l d) :
  ∃u,(Instr.loadAt t x).run P w=.ok u w/\aD (cx w lev S) u (Pn env l d):=by
 cases d<;>simp only[Fj]at ok
 ·rename_i cs;obtain⟨e,p,g⟩:=ok;exact FQ (λ_ _=>lD) s y e p g
 ·rename_i r off;cases f:env.o r<;>rw[f]at ok<;>simp only[Kk]at ok;rename_i cs;obtain⟨e,p,g⟩:=ok;obtain⟨a,q,rfl⟩:=y.iu;have:=wN (P:=P) (w:=w) (V:=cx w lev S) s (a:=a) (h.xy f q) e p g;simpa[Pn,f,ldB]using this
 ·rename_i r z i k;cases f:env.o r<;>rw[f]at ok<;>simp only[Kl]at ok;rename_i E rows;obtain⟨rfl,e,p,g,A⟩:=ok;obtain⟨a,len,cap,q,rfl⟩:=y.gD;obtain⟨a',cap',m,_,hpm,v,_,B⟩:=h.v7 f;simp only[cx]at q;rw[q]at m;cases m;have n:rows.getD i []=rows[i]:=by simp[getD,e]
  have hz:=v _ (cZ e)
  have:=wN (P:=P) (w:=w) (V:=cx w lev S) s (a:=a.add (i*E)) (cs:=rows[i]) (o:=k) (λj d C=>by
   rw[add_add]
   exact B a rfl i j _ d (ec e) C) (by omega) g A
  rw[add_add]at this;simp only[Pn,f,ldW];rw[n];exact this

def pure_run{a:Act}(h:Inv w0 l0 G S0 w lev own S env (jk a.tmps))(o:Oper)(ok:ck P env o.op) :
  ∃u,(execOp a.eval o).run P w=.ok (.value u) w/\aD (cx w lev S) u (dP P env o.op):=by
 have g:∀x,aD (cx w lev S) (a.eval x) (rd env x):=λx=>h.pL a rfl x;have hV:∀H v,vis w lev H=some v->w.cell? H=some v:=λH v=>lD;have ae:∀r z rows,env.o r=.own z rows->∃a cap,S r=some (.slice a rows.length cap)/\rows.length<=cap/\(a=none->rows=[]/\cap=0):=by
  intro r z rows Z;obtain⟨a,cap,D,h2,_,_,h3,_⟩:=h.v7 Z;exact⟨a,cap,D,h2,h3⟩
 have aa:∀r z rows,(env.o r=.own z rows\/env.o r=.iI z rows)->∃a cap,S r=some (.slice a rows.length cap)/\(a=none->rows=[]):=by
  intro r z rows Z;rcases Z with Z|Z
  ·obtain⟨a,cap,D,_,h3⟩:=ae r z rows Z;exact⟨a,cap,D,λe=>(h3 e).1⟩
  ·have av:=h.objs r;rw[Z]at av;rcases av with⟨a,D,rfl⟩| ⟨b,c,E,cap,D,_⟩
   ·exact⟨a,0,D,λ_=>rfl⟩
   ·exact⟨_,cap,D,λe=>by cases e⟩
 cases Z:o.op<;>rw[Z]at ok<;>(try exact ok.elim)<;>simp only[execOp,Z]
 case move x=>exact⟨a.eval x,rfl,g x⟩
 case assign x=>exact⟨a.eval x,rfl,g x⟩
 case pick c x y =>
  simp only[ck]at ok;have hb:=g c;cases hc:rd env c<;>rw[hc]at ok hb<;>try exact ok.elim
  rename_i p;have B:=hb.iY;refine⟨if p then a.eval x else a.eval y,?_,?_⟩
  ·simp[B,asBool,Sem.run_bind,Sem.run,pure]
  ·simp only[dP,hc];cases p
   ·exact g y
   ·exact g x
 case binOp op t x y yt =>
  simp only[ck]at ok;obtain⟨u,hr,F⟩:=Jt (g x) (g y) ok w;have hg:=FP (g x) (g y) ok w;exact⟨u,gp (by simp[Sem.run_bind,hg,hr]),F⟩
 case unOp op t x =>
  simp only[ck]at ok;obtain⟨u,hr,F⟩:=Ma (g x) ok w;exact⟨u,gp hr,F⟩
 case convert s d x =>
  simp only[ck]at ok;obtain⟨u,hr,F⟩:=HT (g x) ok w;exact⟨u,gp hr,F⟩
 case fieldAddr t x f =>
  simp only[ck]at ok;simp only[dP];cases J:bY P t<;>rw[J]at ok<;>try exact ok.elim
  rename_i fs;simp only at ok |-;have R:=g x;cases M:rd env x<;>rw[M]at ok R<;>try exact ok.elim
  ·rename_i cs;obtain⟨u,hr,F⟩:=QT (w:=w) J ok R;exact⟨u,gp hr,F⟩
  ·rename_i r off;obtain⟨H,T,B⟩:=R.iu;rw[B];refine⟨_,gp (sQ J ok),?_⟩;rw[add_add];exact .addr r _ H T
  ·rename_i r z i k;obtain⟨H,len,cap,T,B⟩:=R.gD;rw[B];refine⟨_,gp (sQ J ok),?_⟩;rw[add_add,Nat.add_assoc];exact .bB r z i _ H len cap T
 case field t x f =>
  simp only[ck]at ok;simp only[dP];cases J:bY P t<;>rw[J]at ok<;>try exact ok.elim
  rename_i fs;simp only at ok |-;have R:=g x;cases M:rd env x<;>rw[M]at ok R<;>try exact ok.elim
  obtain⟨u,hr,F⟩:=L6 (w:=w) J R ok;exact⟨u,gp hr,F⟩
 case indexAddr t x i =>
  simp only[ck]at ok;simp only[dP];have r1:=g x;have r2:=g i;cases M:rd env x<;>rw[M]at ok r1<;>(try(simp only[GP]at ok;done))<;>cases K:rd env i<;>rw[K]at ok r2<;>(try(simp only[GP]at ok;done))<;>simp only[GP]at ok
  ·rename_i z rows k n;obtain⟨J,Q,D⟩:=ok;cases A:bY P t<;>rw[A]at J<;>try exact J.elim
   have ac:z=_:=J;subst ac;obtain⟨u,hr,F⟩:=run_indexAt_slice (w:=w) A r1 r2 Q D;exact⟨u,gp hr,F⟩
  ·rename_i cs k n;cases A:bY P t<;>rw[A]at ok<;>try exact ok.elim
   rename_i m z ea;obtain⟨Q,D⟩:=ok;obtain⟨H,B,hn,hc⟩:=r1.l8;rw[B];refine⟨_,gp (m8 A r2 Q D),?_⟩;simp only[Lq];refine kj (λd hd=>hn d (mem_of_mem_drop hd)) ?_;intro j d hj;rw[getElem?_drop]at hj;rw[add_add];exact hc _ d hj
  ·rename_i r k n;obtain⟨Q,ok⟩:=ok;cases A:bY P t<;>rw[A]at ok<;>try exact ok.elim
   rename_i z by_ ea;simp only at ok;cases aj:env.o r<;>rw[aj]at ok<;>simp only[Hv]at ok
   all_goals
    rename_i z' rows;obtain⟨rfl,D⟩:=ok;obtain⟨H,cap,T,ai⟩:=aa r z' rows (by first|exact .inl aj|exact .inr aj);obtain⟨af,_⟩:=r1.gx;simp only[cx]at af;rw[T]at af;have B:a.eval x=.slice H rows.length cap:=(Option.some.inj af).symm;cases H with
    |none=>rw[ai rfl]at D;simp at D;omega
    |some H =>
     rw[B];refine⟨_,gp (ow A r2 Q D),?_⟩;simp only[Lq];exact .bB r z' n.toNat 0 H _ _ T
  ·rename_i r off k n;cases A:bY P t<;>rw[A]at ok<;>try exact ok.elim
   rename_i m z ea;obtain⟨Q,D⟩:=ok;obtain⟨H,T,B⟩:=r1.iu;rw[B];refine⟨_,gp (m8 A r2 Q D),?_⟩;simp only[Lq];rw[add_add];exact .addr r _ H T
  ·rename_i r z j k' k n;cases A:bY P t<;>rw[A]at ok<;>try exact ok.elim
   rename_i m z' ea;obtain⟨Q,D⟩:=ok;obtain⟨H,len,cap,T,B⟩:=r1.gD;rw[B];refine⟨_,gp (m8 A r2 Q D),?_⟩;simp only[Lq];rw[add_add,Nat.add_assoc];exact .bB r z j _ H len cap T
  ·rename_i r z lo len k n;obtain⟨J,Q,D⟩:=ok;cases A:bY P t<;>rw[A]at J<;>try exact J.elim
   have ac:z=_:=J;subst ac;obtain⟨H,a',L,cap,aq,T,B,h3,h4,_⟩:=r1.jP;obtain⟨b,rfl,rfl⟩:=h3 (by omega);rw[B];refine⟨_,gp (ow A r2 Q D),?_⟩;simp only[Lq];rw[add_add,<-Nat.add_mul];have:=aD.bB (C:=cx w lev S) r z (lo+n.toNat) 0 b _ _ T;simpa using this
  ·rename_i r off z len bcap k n;obtain⟨J,Q,D⟩:=ok;cases A:bY P t<;>rw[A]at J<;>try exact J.elim
   have ac:z=_:=J;subst ac;obtain⟨H,a',aq,T,B,h3,h4,_⟩:=r1.eg;rw[h3 (by omega)]at B;rw[B];refine⟨_,gp (ow A r2 Q D),?_⟩;simp only[Lq];rw[add_add];exact .addr r _ H T
 case index t x i =>
  simp only[ck]at ok;simp only[dP]
  suffices hs:∃u,(Instr.index t (a.eval x) (a.eval i)).run P w=.ok u w/\aD (cx w lev S) u (ZY (bY P t) (rd env x) (rd env i))by
   obtain⟨u,hr,F⟩:=hs;exact⟨u,gp hr,F⟩
  have r1:=g x;have r2:=g i;cases M:rd env x<;>rw[M]at ok r1<;>(try(simp only[GW]at ok;done))<;>cases K:rd env i<;>rw[K]at ok r2<;>(try(simp only[GW]at ok;done))
  ·obtain⟨J,Q,D⟩:=ok;exact DD (w:=w) J r1 r2 Q D
  ·rename_i cs k n;simp only[GW]at ok;cases A:bY P t<;>rw[A]at ok<;>try exact ok.elim
   obtain⟨Q,D,h2⟩:=ok;exact DC (w:=w) A r1 r2 Q D h2
 case load t x =>
  simp only[ck]at ok;simp only[dP];cases X:dS P t with
  |none=>rw[X]at ok;exact ok.elim
  |some l =>
   rw[X]at ok;obtain⟨u,hr,F⟩:=NF h X (g x) ok;exact⟨u,gp hr,F⟩
 case nilCheck x =>
  simp only[ck]at ok;simp only[dP];have hr:=g x;cases M:rd env x<;>rw[M]at ok hr<;>try exact ok.elim
  ·obtain⟨vs,B,_⟩:=hr.uE;rw[B]at hr |-;exact⟨_,rfl,hr⟩
  ·obtain⟨H,B,_⟩:=hr.l8;rw[B]at hr |-;exact⟨_,rfl,hr⟩
  ·obtain⟨H,_,B⟩:=hr.iu;rw[B]at hr |-;exact⟨_,rfl,hr⟩
  ·obtain⟨H,_,_,_,B⟩:=hr.gD;rw[B]at hr |-;exact⟨_,rfl,hr⟩
 case extract x i =>
  simp only[ck]at ok;simp only[dP];have r1:=g x;cases M:rd env x<;>rw[M]at ok r1<;>try exact ok.elim
  rename_i ds;obtain⟨vs,B,hs,hc⟩:=r1.wY;simp only at ok |-;have ab:i<vs.size:=by omega
  have aB:(Instr.extract (a.eval x) i).run P w=.ok vs[i] w:=by simp[B,Instr.extract,ab,Sem.run,pure]
  refine⟨vs[i],gp aB,?_⟩;have hd:ds.getD i .undef=ds[i]:=by simp[getD,ok]
  rw[hd];exact hc i vs[i] ds[i] (by simp[ab]) (ec ok)
 case build t parts =>
  simp only[ck]at ok;obtain⟨J,z,Y,ag⟩:=ok;simp only[dP,Y]
  suffices hs:∃u,(Instr.build t (parts.map λx=>(x.1,a.eval x.2))).run P w=.ok u w/\aD (cx w lev S) u (.agg (jd z (cY P env t parts.toList)))by
   obtain⟨u,hr,F⟩:=hs;exact⟨u,gp hr,F⟩
  have al:∃zv,(zeroValue t).run P w=.ok zv w/\zv.cells.size=z.length/\∀(i:Nat) v d,zv.cells[i]?=some v->z[i]?=some d->aD (cx w lev S) v d:=by
   unfold iG at Y;cases K:P.info? t with
   |none=>rw[K]at Y;cases Y
   |some ay =>
    simp only[K]at Y;cases an:ay.zero with
    |none=>rw[an]at Y;cases Y
    |some zv =>
     rw[an]at Y;cases Y;refine⟨zv,by simp[zeroValue,Sem.run_bind,fB K,an,Sem.run,pure],by simp,?_⟩;intro i v d B hd;simp only[getElem?_map]at hd;have:zv.cells.toList[i]?=some v:=by simpa using B
     rw[this]at hd;simp at hd;subst hd;exact oP v
  obtain⟨zv,ax,aI,am⟩:=al;have U:∀(pl:Nat->Option (Nat×Nat)),(∀(k:Nat) p q,parts.toList[k]?=some p->(cY P env t parts.toList)[k]?=some q->pl p.1=some (q.1,q.2.1)/\q.2.2=rd env p.2)->(cY P env t parts.toList).length=parts.toList.length ->
    ∃O,Instr.fill pl zv.cells (parts.map λx=>(x.1,a.eval x.2)).toList=some O/\aD (cx w lev S) (.agg O) (.agg (jd z (cY P env t parts.toList))):=by
   intro pl aF au
   obtain⟨O,e1,e2,e3⟩:=wM (V:=cx w lev S) pl (parts.map λx=>(x.1,a.eval x.2)).toList (cY P env t parts.toList) zv.cells z (by simpa using au.symm) aI am (by
    intro k p q hp hq;simp only[Array.toList_map,getElem?_map]at hp;cases ak:parts.toList[k]? with
    |none=>rw[ak]at hp;cases hp
    |some p0 =>
     rw[ak]at hp;cases hp;obtain⟨f1,f2⟩:=aF k p0 q ak hq
     exact⟨f1,by rw[f2];exact g p0.2⟩) ag
   exact⟨O,e1,.agg _ _ e2 e3⟩
  cases A:bY P t<;>rw[A]at J<;>try exact J.elim
  ·rename_i n z' ea;obtain⟨e,F,X,hz0⟩:=w7 A
   obtain⟨O,e1,e2⟩:=U (λi=>some (i*z',z')) (by
    intro k p q hp hq;simp only[cY,A,getElem?_map,hp,Option.map_some,gy]at hq;subst hq
    exact⟨rfl,rfl⟩) (by simp[cY,A])
   refine⟨.agg O,?_,e2⟩;simp only[Instr.build,Sem.run_bind,ax,aT F,aZ X,Result.andThen_ok,e1];rfl
  ·rename_i fs;obtain⟨fa,F,aC⟩:=vi A;obtain⟨ps,aG,aE⟩:=QC (P:=P) aC w
   obtain⟨O,e1,e2⟩:=U (λi=>ps[i]?) (by
    intro k p q hp hq;simp only[cY,A,getElem?_map,hp,Option.map_some,gy]at hq;have ab:=J p (bM hp);rw[ec ab]at hq;subst hq;refine⟨?_,rfl⟩
    rw[aE,ec ab];rfl) (by simp[cY,A])
   refine⟨.agg O,?_,e2⟩;simp only[Instr.build,Sem.run_bind,ax,aT F,Result.andThen_ok];have aw:(fa.mapM (λf=>do pure (f.offset,<-sizeOf f.type):Field->Sem (Nat×Nat))).run P w=.ok ps w:=aG;rw[aw];simp only[Result.andThen_ok,e1];rfl
 case slice t x lo K mx =>
  cases mx with
  |none =>
   simp only[ck]at ok;obtain⟨u,hr,F⟩:=L9 (V:=cx w lev S) ae (g x) (jx:=a.eval) g ok w;exact⟨u,gp hr,F⟩
  |some m =>
   cases lo with
   |some l=>simp only[ck]at ok
   |none =>
   cases K with
   |none=>simp only[ck]at ok
   |some D =>
    simp only[ck]at ok;obtain⟨az,aA,ao,ap⟩:=ok;have rh:=g D;have rm:=g m;cases e1:rd env D<;>rw[e1]at ao rh<;>simp only[isZero]at ao;cases e2:rd env m<;>rw[e2]at ap rm<;>simp only[isZero]at ap;subst ao;subst ap;have Y:∀(v:Value)(k:IntKind)(y:Nat)(code:BoundsCode),v=.int k 0->(Instr.sliceBound v y code).run P w=.ok 0 w:=λv k y code B=>run_sliceBound B (by omega) (by omega) code w;have b1:=λy code=>Y _ _ y code rh.cB;have b2:=λy code=>Y _ _ y code rm.cB;have aH:∃H len cap,a.eval x=.slice H len cap:=by
     have r1:=g x;generalize a.eval x=v at r1;cases M:rd env x<;>rw[M]at aA r1<;>simp only[RX]at aA
     ·cases r1;exact⟨_,_,_,rfl⟩
     ·cases r1;exact⟨_,_,_,rfl⟩
     ·obtain⟨_,_,h,_⟩:=r1.u9;exact⟨_,_,_,h⟩
     ·obtain⟨_,_,_,_,h⟩:=r1.gx;exact⟨_,_,_,h⟩
     ·obtain⟨_,_,_,_,_,_,h,_⟩:=r1.jP;exact⟨_,_,_,h⟩
     ·obtain⟨_,_,_,_,h,_⟩:=r1.eg;exact⟨_,_,_,h⟩
    obtain⟨H,len,cap,B⟩:=aH;cases A:bY P t<;>rw[A]at az<;>simp only[Nz]at az;obtain⟨el,ay,F,ar,hin,hb,Y,_⟩:=bK A;refine⟨.slice H 0 0,gp ?_,.emp _⟩;rw[B];simp[Instr.sliceAt,Sem.run_bind,aT F,Instr.slice,Instr.sliceBounds,b1,b2,aZ ar,Sem.run,pure]
 case makeFunc fn first caps =>
  cases fn<;>simp only[ck]at ok;subst ok;rename_i f;refine⟨.func (.func f) #[] (caps.map a.eval),?_,?_⟩
  ·exact gp (by simp[Instr.makeFunc,Sem.run,pure])
  ·simp only[dP];refine .fn f _ _ (by simp) ?_;intro i v x B M;simp only[Array.getElem?_map,getElem?_map]at B M;have hc:caps[i]?=caps.toList[i]?:=by simp
   rw[hc]at B;cases hy:caps.toList[i]? with
   |none=>rw[hy]at B;cases B
   |some y =>
    rw[hy]at B M;cases B;cases M;exact g y
 case call c =>
  simp only[ck]at ok;simp only[dP];cases N:c.callee with
  |value f=>rw[N]at ok;exact ok.elim
  |invoke r m=>rw[N]at ok;exact ok.elim
  |builtin bi =>
  rw[N]at ok;cases bi<;>try exact ok.elim
  ·-- len
   cases I:c.args.toList with
   |nil=>rw[I]at ok;exact ok.elim
   |cons x l1 =>
   cases l1 with
   |cons y l2=>rw[I]at ok;exact ok.elim
   |nil =>
   cases W:c.argTypes.toList with
   |nil=>rw[I,W]at ok;exact ok.elim
   |cons t l1 =>
   cases l1 with
   |cons y l2=>rw[I,W]at ok;exact ok.elim
   |nil =>
   rw[I,W]at ok;simp only at ok |-;have e1:=Se I;have e2:=Se W;obtain⟨u,hr,F⟩:=QV (P:=P) (w:=w) (ty:=o.type) (V:=cx w lev S) (λr z rows Z=>by obtain⟨a,c,D,_⟩:=aa r z rows Z;exact⟨a,c,D⟩) (g x) ok;refine⟨u,?_,F⟩;have hm:c.args.map a.eval = #[a.eval x]:=by rw[e1];simp
   simp only[resolve,N,Sem.run_bind,pure,Sem.run,Result.andThen_ok,invoke,builtin,hm,e2,hr]
  ·obtain⟨ah,K⟩:=ok;simp only;cases X:c.args.toList with
   |nil=>exact(ah X).elim
   |cons x l' =>
    rw[X]at K;simp only[map_cons]at K |-;have r1:=g x;cases M:rd env x<;>rw[M]at K r1<;>try exact K.elim
    rename_i k n
    obtain⟨u,hr,F,k',n',hk⟩:=Kx (P:=P) (w:=w) (V:=cx w lev S) (l'.map a.eval) (l'.map (rd env)) (a.eval x) (.int k n) r1 ⟨_,_,rfl⟩ (by simp) (by
     intro i v e B he;simp only[getElem?_map]at B he;cases hy:l'[i]? with
     |none=>rw[hy]at B;cases B
     |some y =>
      rw[hy]at B he;cases B;cases he
      exact g y) K
    refine⟨u,?_,F⟩;have hm:(c.args.map a.eval).toList=a.eval x::l'.map a.eval:=by simp[X]
    simp only[resolve,N,Sem.run_bind,pure,Sem.run,Result.andThen_ok,invoke,builtin,Builtin.max_,hm,hr]
  ·obtain⟨ah,K⟩:=ok;simp only;cases X:c.args.toList with
   |nil=>exact(ah X).elim
   |cons x l' =>
    rw[X]at K;simp only[map_cons]at K |-;have r1:=g x;cases M:rd env x<;>rw[M]at K r1<;>try exact K.elim
    rename_i k n
    obtain⟨u,hr,F,k',n',hk⟩:=Ky (P:=P) (w:=w) (V:=cx w lev S) (l'.map a.eval) (l'.map (rd env)) (a.eval x) (.int k n) r1 ⟨_,_,rfl⟩ (by simp) (by
     intro i v e B he;simp only[getElem?_map]at B he;cases hy:l'[i]? with
     |none=>rw[hy]at B;cases B
     |some y =>
      rw[hy]at B he;cases B;cases he
      exact g y) K
    refine⟨u,?_,F⟩;have hm:(c.args.map a.eval).toList=a.eval x::l'.map a.eval:=by simp[X]
    simp only[resolve,N,Sem.run_bind,pure,Sem.run,Result.andThen_ok,invoke,builtin,Builtin.min_,hm,hr]
end
end Go.Abs
namespace Go.Abs
open List

def nm(d k:Nat):Nat:=16*(d+1)+k
def oM(d k:Nat):16<=nm d k:=by unfold nm;omega

def idx:List Nat->Nat->Option Nat
 | [],_=>none
 |g::gs,r=>if g=r then some 0 else(idx gs r).map (· + 1)
theorem pX:∀{gs:List Nat} {r i:Nat},idx gs r=some i->gs[i]?=some r
 | [],r,i,h=>by simp[idx]at h
 |g::gs,r,i,h=>by
  unfold idx at h;split at h
  ·cases h;simp_all
  ·cases e:idx gs r with
   |none=>rw[e]at h;cases h
   |some j=>rw[e]at h;cases h;simpa using pX e
theorem Fb:∀{gs:List Nat} {r i:Nat},gs.Nodup->gs[i]?=some r->idx gs r=some i
 | [],r,i,_,h=>by simp at h
 |g::gs,r,0,hn,h=>by simp at h;subst h;simp[idx]
 |g::gs,r,i+1,hn,h=>by
  simp at h;have a:=nodup_cons.1 hn;have:g≠r:=by rintro rfl;exact a.1 (bM h)
  simp[idx,this,Fb a.2 h]
variable{r:Nat}
theorem P3{gs:List Nat}:r∈gs->∃i,idx gs r=some i:=by
 induction gs with
 |nil=>intro h;cases h
 |cons g gs ih =>
  intro h;unfold idx;by_cases e:g=r
  ·simp[e]
  ·simp only[e,if_false];rcases mem_cons.1 h with h|h
   ·exact(e h.symm).elim
   ·obtain⟨i,hi⟩:=ih h;exact⟨i+1,by simp[hi]⟩

mutual
/-- other names for the objects; what has none is forgotten -/
def D.iV(f:Nat->Option Nat):D->D
 | .fn g cs=>.fn g (D.qn f cs)
 | .agg cs=>.agg (D.qn f cs)
 | .bH cs=>.bH (D.qn f cs)
 | .box cs=>.box (D.qn f cs)
 | .ref s=>match f s with|some r=>.ref r|none=>.undef
 | .addr s o=>match f s with|some r=>.addr r o|none=>.undef
 | .bB s z i k=>match f s with|some r=>.bB r z i k|none=>.undef
 | .cN s z l n=>match f s with|some r=>.cN r z l n|none=>.undef
 | .bz s o z n c=>match f s with|some r=>.bz r o z n c|none=>.undef
 |d=>d
def D.qn(f:Nat->Option Nat):List D->List D
 | []=>[]
 |d::l=>d.iV f::D.qn f l
end
theorem Ch(f:Nat->Option Nat):∀cs:List D,D.qn f cs=cs.map (D.iV f)
 | []=>rfl
 |d::l=>by rw[D.qn,Ch f l];rfl
theorem aD.iV{C C':Cx}{f:Nat->Option Nat}(A:∀a v,C.V a=some v->C'.V a=some v){v:Value}{d:D}(r:aD C v d)(l:∀s∈d.names,∀t,f s=some t->∀u,C.S s=some u->C'.S t=some u):aD C' v (d.iV f):=by
 have q:∀(vs:Array Value)(ds:List D),vs.size=ds.length->(∀(i:Nat) v d,vs[i]?=some v->ds[i]?=some d->(∀s∈d.names,∀t,f s=some t->∀u,C.S s=some u->C'.S t=some u)->aD C' v (d.iV f)) ->
   (∀s∈D.aQ ds,∀t,f s=some t->∀u,C.S s=some u->C'.S t=some u)->vs.size=(D.qn f ds).length/\∀(i:Nat) v d,vs[i]?=some v->(D.qn f ds)[i]?=some d->aD C' v d:=by
  intro vs ds o p l;rw[Ch];refine⟨by simpa using o,?_⟩;intro i v d hi y;simp only[getElem?_map]at y;cases e:ds[i]? with
  |none=>rw[e]at y;cases y
  |some x=>rw[e]at y;cases y;exact p i v x hi e λs j=>l s (cj.2 ⟨x,bM e,j⟩)
 induction r with
 |fn g vs ds o h p=>obtain⟨c,m⟩:=q vs ds o p (λs j=>l s (by simp only[D.names];exact j));simp only[D.iV];exact .fn g vs _ c m
 |agg vs ds o _ p=>obtain⟨c,m⟩:=q vs ds o p (λs j=>l s (by simp only[D.names];exact j));simp only[D.iV];exact .agg vs _ c m
 |bH vs ds o _ p=>obtain⟨c,m⟩:=q vs ds o p (λs j=>l s (by simp only[D.names];exact j));simp only[D.iV];exact .bH vs _ c m
 |undef v=>exact .undef v
 |bool b=>exact .bool b
 |int k n=>exact .int k n
 |str s=>exact .str s
 |nil=>exact .nil
 |emp a=>exact .emp a
 |jh=>exact .jh
 |eB=>exact .eB
 |eW t v=>exact .eW t v
 |kP=>exact .kP
 |slnil z=>exact .slnil z
 |sl z a cap rows g o hz hk hc c _ =>
  exact aD.keep (d:=.sl z rows) A (.sl z a cap rows g o hz hk hc c) (λs j=>by simp[D.names]at j)
 |bq a cs g hn hc c _=>exact aD.keep (d:=.bq cs) A (.bq a cs g hn hc c) (λs j=>by simp[D.names]at j)
 |ref s a len cap h =>
  simp only[D.iV];split
  ·rename_i t e;exact .ref t a len cap (l s (by simp[D.names]) t e _ h)
  ·exact .undef _
 |addr s off a h =>
  simp only[D.iV];split
  ·rename_i t e;exact .addr t off a (l s (by simp[D.names]) t e _ h)
  ·exact .undef _
 |bB s z i k a len cap h =>
  simp only[D.iV];split
  ·rename_i t e;exact .bB t z i k a len cap (l s (by simp[D.names]) t e _ h)
  ·exact .undef _
 |cN s z lo len a a' L cap cap' h c m h3 =>
  simp only[D.iV];split
  ·rename_i t e;exact .cN t z lo len a a' L cap cap' (l s (by simp[D.names]) t e _ h) c m h3
  ·exact .undef _
 |bz s off z len cap a a' h c m =>
  simp only[D.iV];split
  ·rename_i t e;exact .bz t off z len cap a a' (l s (by simp[D.names]) t e _ h) c m
  ·exact .undef _

def mG:D->D
 | .own z rows=>.sl z rows
 | _=>.undef
def Gs:D->Bool
 | .own _ _| .box _=>true
 | _=>false
def pR(z i k:Nat):D->D
 | .own z' rows=>if z'=z/\i<rows.length then .bq ((rows.getD i []).drop k)else .undef
 | _=>.undef
def lY(z lo len:Nat):D->D
 | .own z' rows=>if z'=z/\lo+len<=rows.length then .sl z ((rows.drop lo).take len)else .undef
 | _=>.undef
def v8:D->Bool
 | .undef| .agg _| .bH _| .box _| .own _ _| .iI _ _=>false
 |d=>d.names.isEmpty
def yC:D->D
 | .own z rows=>.sl z rows
 | .iI z rows=>if(rows.all λr=>r.all v8)then .sl z rows else .undef
 | _=>.undef
def iy(off z len:Nat):D->D
 | .box cs=>if((cs.drop off).take (len*z)).all v8&&decide (off+len*z<=cs.length)then .sl z (rowsOf z len (cs.drop off))else .undef
 | _=>.undef
def j0(f:D->D)(off:Nat):D->D
 | .box cs=>.bq ((cs.drop off).map f)
 | _=>.undef
def bA(b:Bool)(d:D):D:=if b then .undef else d
def mh(d:D):D:=if d.names.isEmpty then d else .undef
def kQ(o:Nat->D)(x:List Nat):Nat->D->D
 | 0,d=>mh d
 |k+1,.ref r=>bA (x.contains r) (mG (o r))
 |k+1,.addr r off=>bA (x.contains r) (j0 (kQ o x k) off (o r))
 |k+1,.bB r z i j=>bA (x.contains r) (pR z i j (o r))
 |k+1,.cN r z lo len=>bA (x.contains r) (lY z lo len (o r))
 |k+1,.bz r off z len _=>bA (x.contains r) (iy off z len (o r))
 |k+1,.fn f cs=>.fn f (cs.map (kQ o x k))
 |k+1,.agg cs=>.agg (cs.map (kQ o x k))
 |k+1,.bH cs=>.bH (cs.map (kQ o x k))
 |k+1,.box cs=>.undef
 | _+1,d=>d
def oD(i:Option Nat)(f:Nat->D)(d:D):D:=
 match i with
 |some i=>f i
 |none=>d
def conv(bw:Bool)(gs:List Nat)(o:Nat->D):Nat->D->D
 | 0,d=>mh d
 |k+1,.ref r=>oD (idx gs r) .ref (bA (!bw) (bA (gs.contains r) (yC (o r))))
 |k+1,.addr r off=>oD (idx gs r) (λi=>.addr i off) (bA (!bw) (kQ o gs k (.addr r off)))
 |k+1,.bB r z i j=>oD (idx gs r) (λx=>.bB x z i j) (bA (!bw) (kQ o gs k (.bB r z i j)))
 |k+1,.cN r z lo len=>oD (idx gs r) (λx=>.cN x z lo len) (bA (!bw) (kQ o gs k (.cN r z lo len)))
 |k+1,.bz r off z len cap=>oD (idx gs r) (λx=>.bz x off z len cap) (bA (!bw) (kQ o gs k (.bz r off z len cap)))
 |k+1,.fn f cs=>.fn f (cs.map (conv bw gs o k))
 |k+1,.agg cs=>.agg (cs.map (conv bw gs o k))
 |k+1,.bH cs=>.bH (cs.map (conv bw gs o k))
 |k+1,.box cs=>.undef
 | _+1,d=>d
def sq(bw:Bool)(gs:List Nat)(o:Nat->D)(k:Nat):D->D
 | .box cs=>.box (cs.map (conv bw gs o k))
 | .own z rows=>.own z rows
 | _=>.undef

def wg(d:D):(mh d).names=[]:=by
 unfold mh;split
 ·rename_i h;simpa using h
 ·rfl
theorem Jc{f:D->D}(h:∀d,(f d).names=[])(cs:List D):D.aQ (cs.map f)=[]:=by
 induction cs with
 |nil=>rfl
 |cons c cs ih=>simp[D.aQ,h,ih]
variable{d:D}
def ld{b:Bool}(h:d.names=[]):(bA b d).names=[]:=by unfold bA;split;rfl;exact h
theorem DL(o:Nat->D)(x:List Nat):∀(k:Nat)(d:D),(kQ o x k d).names=[]
 | 0,d=>wg d
 |k+1,d=>by
  have a:=DL o x k;cases d<;>simp only[kQ]<;>(try rfl)<;>(try exact Jc a _)
  ·refine ld ?_;unfold mG;split<;>rfl
  ·refine ld ?_;unfold j0;split<;>rfl
  ·refine ld ?_;unfold pR;split<;>(try split)<;>rfl
  ·refine ld ?_;unfold lY;split<;>(try split)<;>rfl
  ·refine ld ?_;unfold iy;split<;>(try split)<;>rfl

def mF:Value->D->Option (Nat×Nat×Nat)
 | .pointer (some a),.box cs=>some (a.block,a.off,a.off+cs.length)
 | .slice (some a) _ cap,.own z _=>if cap=0 then none else some (a.block,0,cap*z)
 | _,_=>none
def nw(gs:List Nat)(S:Nat->Option Value)(o:Nat->D)(b:Nat):Option (Nat×Nat):=
 gs.findSome? λr=>match (S r).bind λv=>mF v (o r)with
  |some x=>if x.1=b then some x.2 else none
  |none=>none
def mJ(bw:Bool)(gs:List Nat)(lev own:Nat->Option Nat)(b:Nat):Option Nat:=
 match own b with
 |some r=>if gs.contains r then lev b else if bw then none else lev b
 |none=>lev b
def qA(gs:List Nat)(S:Nat->Option Value)(i:Nat):Option Value:=(gs[i]?).bind S
def uQ(gs:List Nat)(own:Nat->Option Nat)(b:Nat):Option Nat:=(own b).bind (idx gs)

variable{b lo hi i:Nat}{v:Value}
section
variable{P:Program}{w0 w w':World}{l0:Nat->Option Nat}{G:Nat->Option (Nat×Nat)}{S0:Nat->Option Value}{lev lev' own own':Nat->Option Nat}{S S':Nat->Option Value}{env env':Env}{tm tm':Nat->Value}{B:Nat}{gs:List Nat}{bw:Bool}

def gM.blk(h:gM B G w lev own S r d)(f:S r=some v)(e:mF v d=some (b,lo,hi)) :
  own b=some r/\lev b=some 0/\EI G B b lo hi/\∃(c:Array Value)(E:TypeId),w.heap[b]?=some (.cells c E (0,0)):=by
 cases d<;>try exact h.elim
 case undef=>cases v<;>simp[mF]at e
 case iI=>cases v<;>simp[mF]at e
 case box cs =>
  obtain⟨q,o,c,E,g,j,k,l,m,n,p⟩:=h;rw[g]at f;cases f;simp only[mF,gy,Prod.mk.injEq]at e;obtain⟨rfl,rfl,rfl⟩:=e;exact⟨m,l,n,c,E,j⟩
 case own z rows =>
  rcases h with⟨a,g,j⟩| ⟨q,c,E,cap,g,j,k,l,m,n,p,h8,h9,h10⟩
  ·rw[g]at f;cases f;cases a<;>simp[mF]at e
  ·rw[g]at f;cases f;simp only[mF]at e;split at e
   ·cases e
   ·simp only[gy,Prod.mk.injEq]at e;obtain⟨rfl,rfl,rfl⟩:=e;rw[k]at h9;exact⟨h8,p,h9,c,E,j⟩
theorem zO{o:Nat->D}(h:nw gs S o b=some (lo,hi)):∃r∈gs,∃v,S r=some v/\mF v (o r)=some (b,lo,hi):=by
 unfold nw at h;obtain⟨r,hr,a⟩:=exists_of_findSome?_eq_some h;refine⟨r,hr,?_⟩;cases f:S r with
 |none=>rw[f]at a;cases a
 |some v =>
  rw[f]at a;simp only[Option.bind_some]at a;cases c:mF v (o r)with
  |none=>rw[c]at a;cases a
  |some x =>
   rw[c]at a;simp only at a;split at a
   ·rename_i e;simp only[gy]at a;refine⟨v,rfl,?_⟩;rw[c,<-e,<-a]
   ·cases a
def Rs(h:Inv w0 l0 G S0 w lev own S env tm)(hr:r∈gs)(e:S r=some v)(f:mF v (env.o r)=some (b,lo,hi)):nw gs S env.o b=some (lo,hi):=by
 have g:(nw gs S env.o b).isSome=true:=by
  unfold nw;rw[findSome?_isSome_iff];exact⟨r,hr,by simp[e,f]⟩
 obtain⟨⟨lo',hi'⟩,hx⟩:=Option.isSome_iff_exists.1 g;obtain⟨k,hr',v',a,c⟩:=zO hx;have j:=((h.objs r).blk e f).1;have e2:=((h.objs k).blk a c).1;rw[j]at e2;cases e2;rw[e]at a;cases a;rw[f]at c;cases c;exact hx

def Ki(b:Nat):mJ bw gs lev own b=lev b\/mJ bw gs lev own b=none:=by
 unfold mJ;split
 ·split
  ·exact .inl rfl
  ·split
   ·exact .inr rfl
   ·exact .inl rfl
 ·exact .inl rfl
def lC:jB w lev w (mJ bw gs lev own):=by
 intro a u c;have e:=lD c;unfold vis at c |-;rcases Ki (bw:=bw) (gs:=gs) (lev:=lev) (own:=own) a.block with h|h
 ·rw[h];exact c
 ·rw[h];exact e
def ry(e:own b=some r)(c:gs.contains r=false){u:Value}(a:w.cell? ⟨b,i,none⟩=some u):vis w (mJ true gs lev own) ⟨b,i,none⟩=some u:=by
 unfold vis mJ;simp only[e,c,if_true,Bool.false_eq_true,if_false];exact a

def qi(h:v8 d=true):br d:=by
 cases d<;>simp only[v8]at h<;>first| (cases h;done)|exact⟨trivial,by simpa using h⟩

theorem fy(z:Nat):∀(n:Nat)(cs:List D),(rowsOf z n cs).length=n
 | 0,_=>rfl
 |n+1,cs=>by simp[rowsOf,fy z n]
theorem mm(z:Nat):∀(n:Nat)(cs:List D)(i:Nat)(r:List D),(rowsOf z n cs)[i]?=some r->r=(cs.drop (i*z)).take z
 | 0,_,_,_,h=>by simp[rowsOf]at h
 |n+1,cs,0,r,h=>by simp[rowsOf]at h;simp[h]
 |n+1,cs,i+1,r,h=>by
  simp only[rowsOf,getElem?_cons_succ]at h;have:=mm z n _ i r h;rw[this,drop_drop,Nat.succ_mul,Nat.add_comm]

theorem zR(h:Inv w0 l0 G S0 w lev own S env tm)(S':Nat->Option Value):∀(k:Nat)(d:D)(v:Value),aD (cx w lev S) v d->aD (cx w (mJ true gs lev own) S') v (kQ env.o gs k d)
 | 0,d,v,hr=>by
  simp only[kQ,mh];split
  ·rename_i hn;have af:d.names=[]:=by simpa using hn
   exact hr.dQ lC (by rw[af];simp)
  ·exact .undef _
 |k+1,d,v,hr=>by
  have ih:=zR h S' k;have Q:d.names=[]->aD (cx w (mJ true gs lev own) S') v d:=λhn=>hr.dQ lC (by rw[hn];simp);have R:∀(vs:Array Value)(ds:List D),vs.size=ds.length->(∀(i:Nat) v d,vs[i]?=some v->ds[i]?=some d->aD (cx w lev S) v d) ->
    vs.size=(ds.map (kQ env.o gs k)).length/\∀(i:Nat) v d,vs[i]?=some v->(ds.map (kQ env.o gs k))[i]?=some d->aD (cx w (mJ true gs lev own) S') v d:=by
   intro vs ds Z hh;refine⟨by simpa using Z,?_⟩;intro i v d hi t;simp only[getElem?_map]at t;cases e:ds[i]? with
   |none=>rw[e]at t;cases t
   |some x=>rw[e]at t;cases t;exact ih x v (hh i v x hi e)
  cases d<;>simp only[kQ]<;>(try exact Q rfl)<;>(try(cases hr;done))
  ·obtain⟨vs,rfl,hs,hv⟩:=hr.uE;obtain⟨f,q⟩:=R vs _ hs hv;exact .fn _ vs _ f q
  ·obtain⟨vs,rfl,hs,hv⟩:=hr.mu;obtain⟨f,q⟩:=R vs _ hs hv;exact .agg vs _ f q
  ·obtain⟨vs,rfl,hs,hv⟩:=hr.wY;obtain⟨f,q⟩:=R vs _ hs hv;exact .bH vs _ f q
  ·rename_i r;unfold bA;split
   ·exact .undef _
   ·rename_i J;have g:gs.contains r=false:=by simpa using J
    obtain⟨s,a,len,cap,rfl⟩:=hr.gx;have C:=h.objs r;simp only[cx]at s;cases t:env.o r<;>rw[t]at C<;>simp only[mG]<;>(try exact .undef _);rename_i z rows;rcases C with⟨T,f,rfl⟩| ⟨b,c,E,l,f,q,h3,Y,K,I,U,h8,h9,h10⟩
    ·rw[s]at f;cases f;cases a with
     |none=>exact .slnil _
     |some ad=>exact fK (rows:=[]) (by simp) (by simp) (by simp) (by simp)
    ·rw[s]at f;cases f;refine fK Y K I ?_;intro i j row x hi n;obtain⟨u,hu,H⟩:=h10 i j row x hi n;refine⟨u,?_,H.dQ lC (by rw[(I row (bM hi) x (bM n)).2];simp)⟩;rw[cm,Nat.zero_add];exact ry h8 g (by rw[eP w b _ q];exact hu)
  ·rename_i r off;unfold bA;split
   ·exact .undef _
   ·rename_i J;have g:gs.contains r=false:=by simpa using J
    obtain⟨a,s,rfl⟩:=hr.iu;have C:=h.objs r;simp only[cx]at s;cases t:env.o r<;>rw[t]at C<;>simp only[j0]<;>(try exact .undef _);rename_i cs;obtain⟨b,o,c,E,f,q,h3,Y,K,I,U⟩:=C;rw[s]at f;cases f;refine kj (by intro d ac;obtain⟨x,_,rfl⟩:=mem_map.1 ac;exact DL _ _ _ _) ?_;intro j x n;simp only[getElem?_map,getElem?_drop]at n;cases e:cs[off+j]? with
    |none=>rw[e]at n;cases n
    |some y =>
     rw[e]at n;cases n;have F:o+(off+j)<c.size:=by have:=(cJ.1 e).1;omega
     refine⟨c[o+(off+j)],?_,ih y _ (U (off+j) _ y (by simp[F]) e)⟩;rw[add_add,cm];exact ry K g (by rw[eP w b _ q];simp[F])
  ·rename_i r z i j;unfold bA;split
   ·exact .undef _
   ·rename_i J;have g:gs.contains r=false:=by simpa using J
    obtain⟨a,len,cap,s,rfl⟩:=hr.gD;have C:=h.objs r;simp only[cx]at s;cases t:env.o r<;>rw[t]at C<;>simp only[pR]<;>(try exact .undef _);rename_i z' rows;split
    ·rename_i W;obtain⟨rfl,hi⟩:=W;rcases C with⟨T,f,rfl⟩| ⟨b,c,E,l,f,q,h3,Y,K,I,U,h8,h9,h10⟩
     ·simp at hi
     ·rw[s]at f;cases f;have p:rows.getD i []=rows[i]:=by simp[getD,hi]
      rw[p];refine kj (λx hx=>(I _ (cZ hi) x (mem_of_mem_drop hx)).2) ?_;intro m x O;rw[getElem?_drop]at O;obtain⟨u,hu,H⟩:=h10 i (j+m) rows[i] x (ec hi) O;refine⟨u,?_,H.dQ lC (by rw[(I _ (cZ hi) x (bM O)).2];simp)⟩;rw[add_add,cm];refine ry h8 g ?_;rw[eP w b _ q,<-hu];congr 1;omega
    ·exact .undef _
  ·rename_i r z lo len;unfold bA;split
   ·exact .undef _
   ·rename_i J;have g:gs.contains r=false:=by simpa using J
    obtain⟨a,T,L,cap,l,s,rfl,q1,q2,q3⟩:=hr.jP;have C:=h.objs r;simp only[cx]at s;cases t:env.o r<;>rw[t]at C<;>simp only[lY]<;>(try exact .undef _);rename_i z' rows;split
    ·rename_i W;obtain⟨rfl,aa⟩:=W;have Z:((rows.drop lo).take len).length=len:=by simp;omega
     by_cases X:len=0
     ·subst X;have e0:(rows.drop lo).take 0=[]:=by simp
      rw[e0];cases T with
      |none=>rw[q3 rfl];exact .slnil _
      |some ad=>exact fK (rows:=[]) (by simp) (by simp) (by simp) (by simp)
     obtain⟨b0,rfl,rfl⟩:=q1 X;rcases C with⟨T,f,rfl⟩| ⟨b,c,E,cap2,f,q,h3,Y,K,I,U,h8,h9,h10⟩
     ·simp at aa;omega
     ·rw[s]at f;cases f;have:=fK (V:=cx w (mJ true gs lev own) S') (z:=z') (rows:=(rows.drop lo).take len) (a:=(⟨b,0,none⟩:Addr).add (lo*z')) (cap:=l) (by rw[Z];exact q2)
       (λr hr=>K r (mem_of_mem_drop (mem_of_mem_take hr))) (λr hr=>I r (mem_of_mem_drop (mem_of_mem_take hr))) (by
        intro i j row x hi n;have A:i<len:=by have:=(cJ.1 hi).1;rw[Z]at this;exact this
        rw[getElem?_take_of_lt A,getElem?_drop]at hi;obtain⟨u,hu,H⟩:=h10 (lo+i) j row x hi n;refine⟨u,?_,H.dQ lC (by rw[(I _ (bM hi) x (bM n)).2];simp)⟩;rw[add_add,cm];refine ry h8 g ?_;rw[eP w b _ q,<-hu]
        congr 1;rw[Nat.add_mul];omega)
      rw[Z]at this;exact this
    ·exact .undef _
  ·rename_i r off z len bcap;unfold bA;split
   ·exact .undef _
   ·rename_i J;have g:gs.contains r=false:=by simpa using J
    obtain⟨a,T,l,s,rfl,q1,q2,q3⟩:=hr.eg;have C:=h.objs r;simp only[cx]at s;cases t:env.o r<;>rw[t]at C<;>simp only[iy]<;>(try exact .undef _);rename_i cs;split
    ·rename_i W;simp only[Bool.and_eq_true,bP,cR]at W;obtain⟨hp,hle⟩:=W;by_cases X:len=0
     ·subst X;simp only[rowsOf];cases T with
      |none=>rw[q3.1 rfl];exact .slnil _
      |some ad=>exact fK (rows:=[]) (by simp) (by simp) (by simp) (by simp)
     have ha:=q1 X;subst ha;obtain⟨b,o,c,E,f,q,h3,Y,K,I,U⟩:=C;rw[s]at f;cases f;have N:∀(i:Nat) row,(rowsOf z len (cs.drop off))[i]?=some row->i<len/\row=((cs.drop off).drop (i*z)).take z:=by
      intro i row hi;have:=(cJ.1 hi).1;rw[fy]at this;exact⟨this,mm _ _ _ _ _ hi⟩
     have M:∀i,i<len->∀x∈((cs.drop off).drop (i*z)).take z,x∈(cs.drop off).take (len*z):=by
      intro i hi x hx;obtain⟨m,O⟩:=mem_iff_getElem?.1 hx;have ab:m<z:=by have:=(cJ.1 O).1;simp at this;omega
      rw[getElem?_take_of_lt ab,getElem?_drop]at O;refine bM (i:=i*z+m) ?_;rw[getElem?_take_of_lt (j7 ab hi)];exact O
     have:=fK (V:=cx w (mJ true gs lev own) S') (z:=z) (rows:=rowsOf z len (cs.drop off)) (a:=(⟨b,o,none⟩:Addr).add off) (cap:=l) (by rw[fy];exact q2)
      (by
       intro row p;obtain⟨i,hi⟩:=mem_iff_getElem?.1 p;obtain⟨A,rfl⟩:=N i row hi;have:(i+1)*z<=len*z:=gK z A;rw[Nat.succ_mul]at this
       simp;omega)
      (by
       intro row p x hx;obtain⟨i,hi⟩:=mem_iff_getElem?.1 p;obtain⟨A,rfl⟩:=N i row hi
       exact qi (hp x (M i A x hx)))
      (by
       intro i j row x hi n;obtain⟨A,rfl⟩:=N i row hi;have ag:=qi (hp x (M i A x (bM n)));have ae:j<z:=by have:=(cJ.1 n).1;simp at this;omega
       rw[getElem?_take_of_lt ae,getElem?_drop,getElem?_drop]at n;have F:o+(off+(i*z+j))<c.size:=by have:=(cJ.1 n).1;omega
       refine⟨c[o+(off+(i*z+j))],?_,(U _ _ x (by simp[F]) n).dQ lC (by rw[ag.2];simp)⟩;rw[add_add,cm]
       exact ry K g (by rw[eP w b _ q];simp[F]))
     rw[fy]at this;exact this
    ·exact .undef _

def zT{C:Cx}(h:aD Pj v d):aD C v d:=aD.keep (C:=Pj) (C':=C) (λ_ _ h=>by cases h) h (λ_ _ _ h=>by cases h)
def MY(h:Inv w0 l0 G S0 w lev own S env tm)(S':Nat->Option Value)(l:gs.contains r=false)(hr:aD (cx w lev S) v (.ref r)):aD (cx w (mJ true gs lev own) S') v (yC (env.o r)):=by
 have H:=zR (gs:=gs) h S' 1 (.ref r) v hr;obtain⟨k,a,len,cap,rfl⟩:=hr.gx;have D:=h.objs r;simp only[cx]at k;cases g:env.o r<;>rw[g]at D<;>simp only[yC]<;>(try exact .undef _)
 ·simpa only[kQ,l,bA,g,mG,Bool.false_eq_true,if_false]using H
 ·rename_i z rows;rcases D with⟨a',e,rfl⟩| ⟨b,c,E,cap',e,h2,h3,h4,h5,C,h7,h8,h9,h10⟩
  ·rw[k]at e;cases e;cases a with
   |none=>exact .slnil _
   |some ad=>exact fK (rows:=[]) (by simp) (by simp) (by simp) (by simp)
  ·rw[k]at e;cases e;have key:∀(i j:Nat) row x,rows[i]?=some row->row[j]?=some x->∃u,c[i*z+j]?=some u/\aD (cx w (mJ true gs lev own) S') u x:=by
    intro i j row x hi n;obtain⟨u,t,A⟩:=h10 i j row x hi n;refine⟨u,t,?_⟩;rcases A with A|rfl| ⟨z1,R,rfl,⟨a,rfl,rfl⟩| ⟨b1,c1,E1,cap1,F,g2,g3,g4,g5,g6,g7,g8,g9,g10,g11⟩⟩
    ·exact zT A.2
    ·exact .undef _
    ·cases a with
     |none=>exact .slnil _
     |some ad=>exact fK (rows:=[]) (by simp) (by simp) (by simp) (by simp)
    ·subst F;refine fK g4 g5 g6 ?_;intro J K f M m p;obtain⟨L,y,q⟩:=g11.1 J K f M m p;refine⟨L,?_,zT q⟩;rw[cm,Nat.zero_add];exact ry g8 l (by rw[eP w b1 _ g2];exact y)
   split
   ·rename_i I;have C:∀r∈rows,∀d∈r,br d:=λr hr d g=>qi (cR.1 (cR.1 I r hr) d g);refine fK h4 h5 C ?_;intro i j row x hi n;obtain⟨u,t,s⟩:=key i j row x hi n;refine⟨u,?_,s⟩;rw[cm,Nat.zero_add];exact ry h7 l (by rw[eP w b _ h2];exact t)
   ·exact .undef _
def pP(h:idx gs r=some i):qA gs S i=S r:=by
 unfold qA;rw[pX h];rfl
theorem vF(h:Inv w0 l0 G S0 w lev own S env tm):∀(k:Nat)(d:D)(v:Value),aD (cx w lev S) v d->aD (cx w (mJ bw gs lev own) (qA gs S)) v (conv bw gs env.o k d)
 | 0,d,v,hr=>by
  simp only[conv,mh];split
  ·rename_i E;have F:d.names=[]:=by simpa using E
   exact hr.dQ lC (by rw[F];simp)
  ·exact .undef _
 |k+1,d,v,hr=>by
  have Q:=vF h k;have l:d.names=[]->aD (cx w (mJ bw gs lev own) (qA gs S)) v d:=λE=>hr.dQ lC (by rw[E];simp);have m:∀(vs:Array Value)(ds:List D),vs.size=ds.length->(∀(i:Nat) v d,vs[i]?=some v->ds[i]?=some d->aD (cx w lev S) v d) ->
    vs.size=(ds.map (conv bw gs env.o k)).length/\∀(i:Nat) v d,vs[i]?=some v->(ds.map (conv bw gs env.o k))[i]?=some d->aD (cx w (mJ bw gs lev own) (qA gs S)) v d:=by
   intro vs ds O N;refine⟨by simpa using O,?_⟩;intro i v d hi q;simp only[getElem?_map]at q;cases e:ds[i]? with
   |none=>rw[e]at q;cases q
   |some x=>rw[e]at q;cases q;exact Q x v (N i v x hi e)
  have c:∀u,aD (cx w lev S) v u->aD (cx w (mJ bw gs lev own) (qA gs S)) v (bA (!bw) (kQ env.o gs k u)):=by
   intro u C;unfold bA;cases bw with
   |false=>exact .undef _
   |true=>exact zR h _ k u v C
  cases d<;>simp only[conv]<;>(try exact l rfl)<;>(try(cases hr;done))
  ·obtain⟨vs,rfl,s,t⟩:=hr.uE;obtain⟨n,p⟩:=m vs _ s t;exact .fn _ vs _ n p
  ·obtain⟨vs,rfl,s,t⟩:=hr.mu;obtain⟨n,p⟩:=m vs _ s t;exact .agg vs _ n p
  ·obtain⟨vs,rfl,s,t⟩:=hr.wY;obtain⟨n,p⟩:=m vs _ s t;exact .bH vs _ n p
  ·rename_i r;cases e:idx gs r with
   |none =>
    simp only[oD,bA];split
    ·exact .undef _
    ·rename_i K;split
     ·exact .undef _
     ·rename_i M;have A:bw=true:=by simpa using K
      subst A;exact MY h _ (by simpa using M) hr
   |some i =>
    obtain⟨f,a,len,cap,rfl⟩:=hr.gx;exact .ref i a len cap ((pP e).trans f)
  ·rename_i r off;cases e:idx gs r with
   |none=>exact c _ hr
   |some i =>
    obtain⟨a,f,rfl⟩:=hr.iu;exact .addr i off a ((pP e).trans f)
  ·rename_i r z i j;cases e:idx gs r with
   |none=>exact c _ hr
   |some x =>
    obtain⟨a,len,cap,f,rfl⟩:=hr.gD;exact .bB x z i j a len cap ((pP e).trans f)
  ·rename_i r z lo len;cases e:idx gs r with
   |none=>exact c _ hr
   |some x =>
    obtain⟨a,y,L,cap,g,f,rfl,J,H,I⟩:=hr.jP;exact .cN x z lo len a y L cap g ((pP e).trans f) J H I
  ·rename_i r off z len bcap;cases e:idx gs r with
   |none=>exact c _ hr
   |some x =>
    obtain⟨a,y,g,f,rfl,J,H,I⟩:=hr.eg;obtain⟨_,rfl,R⟩:=I;exact .bz x off z len _ a y ((pP e).trans f) R H

def M5(h:Inv w0 l0 G S0 w lev own S env tm)(T:gs.Nodup)(hi:gs[i]?=some r)(k:Nat)(f:Gs (env.o r)=true) :
  gM w.heap.size (nw gs S env.o) w (mJ bw gs lev own) (uQ gs own) (qA gs S) i (sq bw gs env.o k (env.o r)):=by
 have D:=h.objs r;have g:=bM hi;have Q:=Fb T hi;have l:qA gs S i=S r:=pP Q;have R:gs.contains r=true:=contains_iff_mem.2 g;have n:∀b,own b=some r->mJ bw gs lev own b=lev b:=by intro b K;unfold mJ;simp only[K,R,if_true]
 have p:∀b,own b=some r->uQ gs own b=some i:=by intro b K;unfold uQ;simp only[K,Option.bind_some];exact Q
 cases s:env.o r<;>rw[s]at D<;>simp only[sq]<;>(try exact D.elim)
 ·rw[s]at f;cases f
 ·rename_i z rows;rcases D with⟨a,m,rfl⟩| ⟨b,c,E,cap,m,F,A,H,C,I,J,h8,h9,h10⟩
  ·exact .inl ⟨a,l.trans m,rfl⟩
  ·by_cases N:cap=0
   ·subst N;have:rows=[]:=length_eq_zero_iff.1 (by omega);subst this;exact .inl ⟨_,l.trans m,rfl⟩
   ·refine .inr ⟨b,c,E,cap,l.trans m,F,A,H,C,I,(n b h8).trans J,p b h8,.inr ⟨0,cap*z,?_,cX _,by rw[A];exact cX _⟩,?_⟩
    ·exact Rs h g m (by rw[s];simp[mF,N])
    ·intro U j row d y O;obtain⟨u,M,L⟩:=h10 U j row d y O;exact⟨u,M,L.dQ lC (by rw[(I row (bM y) d (bM O)).2];simp)⟩
 ·rename_i cs;obtain⟨b,o,c,E,m,F,A,H,C,I,J⟩:=D;refine⟨b,o,c,E,l.trans m,F,by simpa using A,(n b C).trans H,p b C,.inr ⟨o,o+cs.length,?_,cX _,by simp⟩,?_⟩
  ·exact Rs h g m (by rw[s];simp[mF])
  ·intro j u e M t;simp only[getElem?_map]at t;cases q:cs[j]? with
   |none=>rw[q]at t;cases t
   |some x=>rw[q]at t;cases t;exact vF h k x u (J j u x M q)
 ·rw[s]at f;cases f
end
end Go.Abs
namespace Go.Abs
open List

def nF:D->Prop
 | .sl _ rows=>rows=[]
 | .bq _| .fn _ _| .agg _| .bH _| .box _| .own _ _=>False
 | _=>True
def qU:D->Prop
 | .agg cs=>∀c∈cs,nF c
 |d=>nF d
def mC:D->Prop
 | .bH ds=>∀d∈ds,qU d
 |d=>qU d
def K7{d:D}(h:Gs d=true):d≠.undef:=by rintro rfl;cases h
def gY:D->Prop
 | .iI _ _=>True
 | .box cs=>∀c∈cs,nF c
 | .own _ rows=>∀r∈rows,∀d∈r,nF d
 | .undef=>True
 | _=>False
theorem nF.rep{V V':Addr->Option Value}{S:Nat->Option Value}{v:Value}{d:D}(h:nF d)(r:aD ⟨V,S⟩ v d):aD ⟨V',S⟩ v d:=by
 cases r with
 |sl z a cap rows f hl hz hk hc hr =>
  have:rows=[]:=h;subst this;exact .sl z a cap [] f hl hz hk (by simp) (by simp)
 |slnil z=>exact .slnil z
 |undef v=>exact .undef v
 |bool b=>exact .bool b
 |int k n=>exact .int k n
 |str s=>exact .str s
 |nil=>exact .nil
 |emp a=>exact .emp a
 |jh=>exact .jh
 |eB=>exact .eB
 |eW t v=>exact .eW t v
 |kP=>exact .kP
 |ref r a len cap hh=>exact .ref r a len cap hh
 |addr r off a hh=>exact .addr r off a hh
 |bB r z i k a len cap hh=>exact .bB r z i k a len cap hh
 |cN r z lo len a a' L cap cap' hh h1 h2 h3=>exact .cN r z lo len a a' L cap cap' hh h1 h2 h3
 |bz r off z len cap a a' hh h1 h2=>exact .bz r off z len cap a a' hh h1 h2
 | _=>exact h.elim
def qU.rep{V V':Addr->Option Value}{S:Nat->Option Value}{v:Value}{d:D}(h:qU d)(r:aD ⟨V,S⟩ v d):aD ⟨V',S⟩ v d:=by
 by_cases a:∃cs,d=.agg cs
 ·obtain⟨cs,rfl⟩:=a;obtain⟨vs,rfl,e,hr⟩:=r.mu;exact .agg vs cs e λi v d c b=>nF.rep (h d (bM b)) (hr i v d c b)
 ·have:nF d:=by cases d<;>first|exact h|exact(a ⟨_,rfl⟩).elim
  exact this.rep r
def mC.rep{V V':Addr->Option Value}{S:Nat->Option Value}{v:Value}{d:D}(h:mC d)(r:aD ⟨V,S⟩ v d):aD ⟨V',S⟩ v d:=by
 by_cases a:∃cs,d=.bH cs
 ·obtain⟨cs,rfl⟩:=a;obtain⟨vs,rfl,e,hr⟩:=r.wY;exact .bH vs cs e λi v d c b=>qU.rep (h d (bM b)) (hr i v d c b)
 ·have:qU d:=by cases d<;>first|exact h|exact(a ⟨_,rfl⟩).elim
  exact this.rep r

def fQ:List Nat->Env->Env
 | [],e=>e
 |r::rs,e=>fQ rs (gn r e)
def cV:D->Bool
 | .undef=>true
 | _=>false
def iQ:List Nat->List D->List Nat
 |g::gs,h::hs=>if cV h then g::iQ gs hs else iQ gs hs
 | _,_=>[]
def iA(d:Nat):Nat->Nat->List Nat
 | _,0=>[]
 |k,m+1=>nm d k::iA d (k+1) m
def BY(f:Nat->Option Nat):List Nat->List D->Env->Env
 |r::rs,h::hs,e=>BY f rs hs (bu e r (h.iV f))
 | _,_,e=>e
def DI(ns:List Nat)(i:Nat):Option Nat:=ns[i]?
def dj(d:Nat)(gs:List Nat)(a:List D):List Nat:=gs++iA d 0 (a.length-gs.length)
def dU(e:Env)(d:Nat)(gs:List Nat)(a:List D)(b:D):Env:=
 bk (BY (DI (dj d gs a)) (dj d gs a) a (fQ (iQ gs a) e)) d (b.iV (DI (dj d gs a)))

structure Out(m:Nat)(hs':List D)(w:World)(l0:Nat->Option Nat)(G0:Nat->Option (Nat×Nat))(S0:Nat->Option Value)(w':World)(v:Value)(d:D):Prop where
 os:w'.os=w.os
 tape:w'.tape=w.tape
 output:w'.output=w.output
 size:w.heap.size<=w'.heap.size
 old:∀b,b<w.heap.size->G0 b=none->w'.heap[b]?=w.heap[b]?
 part:∀b lo hi,G0 b=some (lo,hi)->jG w w' b lo hi
 rep:∃lev own S,(∀b m,lev b=some m->b<w'.heap.size)/\(∀b,b<w.heap.size->G0 b=none->lev b=l0 b)/\aD (cx w' lev S) v d /\
  (∀r,gM w.heap.size G0 w' lev own S r (hs'.getD r .undef))/\∀i,i<m->hs'.getD i .undef≠.undef->S i=S0 i

theorem Eh(d:Nat):∀(m k:Nat),(iA d k m).length=m
 | 0,_=>rfl
 |m+1,k=>by simp[iA,Eh d m]
theorem qe{d:Nat}:∀{m k s:Nat},s∈iA d k m->∃j,k<=j/\j<k+m/\s=nm d j
 | 0,_,_,h=>by simp[iA]at h
 |m+1,k,s,h=>by
  simp only[iA,mem_cons]at h;rcases h with rfl|h
  ·exact⟨k,cX _,by omega,rfl⟩
  ·obtain⟨j,h1,h2,a⟩:=qe h;exact⟨j,by omega,by omega,a⟩
def NV{d i j:Nat}(h:nm d i=nm d j):i=j:=by unfold nm at h;omega
theorem yJ(d:Nat):∀(m k:Nat),(iA d k m).Nodup
 | 0,_=>by simp[iA]
 |m+1,k=>by
  simp only[iA,nodup_cons];refine⟨?_,yJ d m (k+1)⟩;intro h;obtain⟨j,h1,_,a⟩:=qe h;have:=NV a;omega

section
variable{P:Program}{w0 w w':World}{l0:Nat->Option Nat}{G:Nat->Option (Nat×Nat)}{S0:Nat->Option Value}{lev lev' own own':Nat->Option Nat}{S S':Nat->Option Value}{env env':Env}{tm tm':Nat->Value}{B:Nat}{gs:List Nat}{bw:Bool}

theorem Inv.gN:∀(c:List Nat) {S:Nat->Option Value} {env:Env},Inv w0 l0 G S0 w lev own S env tm->∃a,Inv w0 l0 G S0 w lev own a (fQ c env) tm/\∀s u,a s=some u->S s=some u/\s∉c
 | [],S,env,h=>⟨S,h,λs u d=>⟨d,by simp⟩⟩
 |k::c,S,env,h=>by
  obtain⟨a,f,g⟩:=Inv.gN c (h.kill k);refine⟨a,f,λs u d=>?_⟩;obtain⟨b,i⟩:=g s u d;by_cases e:s=k
  ·subst e;rw[aW]at b;cases b
  ·rw[bN _ _ e]at b;exact⟨b,by simp[e,i]⟩
theorem vU:∀(a:List Nat) {e:Env} {r:Nat},e.o r=.undef->(fQ a e).o r=.undef
 | [],_,_,h=>h
 |k::a,e,r,h=>by
  refine vU a ?_;simp only[gn];split
  ·rfl
  ·rw[h];rfl
theorem n8:∀(a:List Nat) {e:Env} {r:Nat},r∈a->(fQ a e).o r=.undef
 | [],_,_,h=>by cases h
 |k::a,e,r,h=>by
  rcases mem_cons.1 h with rfl|h
  ·refine vU a ?_;simp[gn]
  ·exact n8 a h
theorem B0(f:Nat->Option Nat):∀(ns:List Nat)(b:List D)(e:Env)(r:Nat),ns.Nodup->ns.length=b.length->(BY f ns b e).o r=match idx ns r with
  |some i=>(b.getD i .undef).iV f
  |none=>e.o r
 | [],[],e,r,_,_=>rfl
 | [],_::_,_,_,_,h=>by simp at h
 | _::_,[],_,_,_,h=>by simp at h
 |n::ns,h::b,e,r,hn,hl=>by
  have a:=nodup_cons.1 hn;rw[BY,B0 f ns b _ r a.2 (by simpa using hl)];by_cases c:n=r
  ·subst c;have:idx ns n=none:=by
    cases d:idx ns n with
    |none=>rfl
    |some i=>exact(a.1 (bM (pX d))).elim
   rw[this];simp[idx,bu]
  ·simp only[idx,az c];cases d:idx ns r with
   |none=>simp[bu,Ne.symm c]
   |some i=>simp
theorem Ol(f:Nat->Option Nat):∀(ns:List Nat)(a:List D)(e:Env),(BY f ns a e).t=e.t
 | [],_,_=>rfl
 | _::_,[],_=>rfl
 |n::ns,h::a,e=>by rw[BY,Ol f ns a];rfl
theorem DS:∀(gs:List Nat)(a:List D)(i r:Nat),gs.Nodup->gs.length<=a.length->gs[i]?=some r->(r∈iQ gs a↔a.getD i .undef=.undef)
 | [],_,i,r,_,_,h=>by simp at h
 |g::gs,[],_,_,_,hl,_=>by simp at hl
 |g::gs,h::a,i,r,hn,hl,d=>by
  have c:=nodup_cons.1 hn;have e:∀(gs:List Nat)(a:List D)(x:Nat),x∈iQ gs a->x∈gs:=by
   intro gs;induction gs with
   |nil=>intro a x b;cases a<;>simp[iQ]at b
   |cons g gs f =>
    intro a x b;cases a with
    |nil=>simp[iQ]at b
    |cons h a =>
     simp only[iQ]at b;split at b
     ·rcases mem_cons.1 b with rfl|b
      ·simp
      ·exact mem_cons_of_mem _ (f a x b)
     ·exact mem_cons_of_mem _ (f a x b)
  cases i with
  |zero =>
   simp at d;subst d;simp only[iQ,getD_cons_zero];cases h<;>simp[cV]<;>exact λb=>c.1 (e _ _ _ b)
  |succ i =>
   simp only[getElem?_cons_succ]at d;have j:r≠g:=by rintro rfl;exact c.1 (bM d)
   have f:=DS gs a i r c.2 (by simpa using hl) d;simp only[iQ,getD_cons_succ];split
   ·simp[j,f]
   ·exact f
def jG.mono{b lo e d a:Nat}(h:jG w w' b lo e)(h1:d<=lo)(h2:e<=a):jG w w' b d a:=by
 obtain⟨c0,c,E,f,a2,a3,a4⟩:=h;exact⟨c0,c,E,f,a2,a3,λj hj=>a4 j (by omega)⟩

def Inv.call(h:Inv w0 l0 G S0 w lev own S env tm){d:Nat}{f:List D}{v:Value}{dv:D}(hn:gs.Nodup)(U:∀r∈gs,env.o r≠.undef)(M:∀r∈iA d 0 (f.length-gs.length),env.o r=.undef)
  (ak:gs.length<=f.length) (W:bw=true->mC dv/\∀h∈f,gY h) (ho:Out gs.length f w (mJ bw gs lev own) (nw gs S env.o) (qA gs S) w' v dv) :
  ∃lev' own' S',Inv w0 l0 G S0 w' lev' own' S' (dU env d gs f dv) (zM tm d v):=by
 obtain⟨aA,ai,ao,ah,N,ag,J,ab,S1,ay,ax,aa,an,X⟩:=ho;obtain⟨Sk,hk,aq⟩:=h.gN (iQ gs f)
 -- the names
 have ad:(dj d gs f).Nodup:=by
  unfold dj;refine nodup_append.2 ⟨hn,yJ _ _ _,?_⟩;rintro a ha b p rfl;exact U a ha (M a p)
 have am:(dj d gs f).length=f.length:=by simp[dj,Eh];omega
 -- the given blocks
 have hG:∀b lo n,nw gs S env.o b=some (lo,n)->∃r∈gs,own b=some r/\lev b=some 0/\EI G w0.heap.size b lo n/\b<w.heap.size:=by
  intro b lo n p;obtain⟨r,hr,u,q,ar⟩:=zO p;obtain⟨Y,e2,F,c,E,e4⟩:=(h.objs r).blk q ar;exact⟨r,hr,Y,e2,F,lt_of_block e4⟩
 let ns:=dj d gs f
 let old:Nat->Prop:=λb=>b<w.heap.size/\nw gs S env.o b=none
 let lev':Nat->Option Nat:=λb=>if b<w.heap.size/\nw gs S env.o b=none then lev b else J b
 let own':Nat->Option Nat:=λb=>if b<w.heap.size/\nw gs S env.o b=none then own b else(ab b).bind (DI ns)
 let S':Nat->Option Value:=λr=>match idx ns r with
  |some i=>S1 i
  |none=>Sk r
 have ap:jB w lev w' lev':=by
  intro a u q;have g:=World.block_lt_of_cell? _ _ (lD q);have A:nw gs S env.o a.block=none:=by
   cases e:nw gs S env.o a.block with
   |none=>rfl
   |some x =>
    obtain⟨lo,n⟩:=x;obtain⟨r,hr,Y,e2,_⟩:=hG _ _ _ e;unfold vis at q;rw[e2]at q;simp at q
  unfold vis at q |-;simp only[lev',g,A,and_self,if_true];rw[World.cell?_of_block (w:=w) (N _ g A)];exact q
 have aj:∀s u,Sk s=some u->S' s=some u:=by
  intro s u q;obtain⟨I,K⟩:=aq s u q;simp only[S'];cases H:idx ns s with
  |none=>exact q
  |some i =>
   have k:ns[i]?=some s:=pX H;have g:i<gs.length:=by
    rcases cq i gs.length with g|hge
    ·exact g
    ·exfalso;simp only[ns,dj]at k;rw[getElem?_append_right hge]at k;have:=M s (bM k);rw[h.fresh this]at I;cases I
   have T:gs[i]?=some s:=by
    simp only[ns,dj]at k;rwa[getElem?_append_left g]at k
   have ae:f.getD i .undef≠.undef:=λaG=>K ((DS gs f i s hn ak T).2 aG);simp only;rw[X i g ae];unfold qA;rw[T];exact I
 -- what the call gives,in the caller's names
 have Z:∀(u:Value)(x:D),aD (cx w' lev' S1) u x->aD (cx w' lev' S') u (x.iV (DI ns)):=by
  intro u x H;refine aD.iV (C:=cx w' lev' S1) (C':=cx w' lev' S') (λ_ _ h=>h) H ?_;intro s _ t ht y hy;have:idx ns t=some s:=Fb ad ht;simp only[cx,S',this];exact hy
 have hV:bw=false->jB w' J w' lev':=by
  intro p a u q;have:lev' a.block=J a.block:=by
   simp only[lev'];split
   ·rename_i hc;rw[ax _ hc.1 hc.2];unfold mJ;split
    ·split<;>simp[p]
    ·rfl
   ·rfl
  unfold vis at q |-;rw[this];exact q
 have av:aD (cx w' lev' S1) v dv:=by
  cases p:bw with
  |false=>exact aa.dQ (hV p) λ_ _ _ h=>h
  |true=>exact(W p).1.rep aa
 have R:∀(x:D),(∃hh∈f,(∃cs,hh=.box cs/\x∈cs)\/∃z rows row,hh=.own z rows/\row∈rows/\x∈row)->∀u,aD (cx w' J S1) u x->aD (cx w' lev' S1) u x:=by
  rintro x ⟨hh,hm,H⟩ u q;cases p:bw with
  |false=>exact q.dQ (hV p) λ_ _ _ h=>h
  |true =>
   have hp:=(W p).2 hh hm;rcases H with⟨cs,rfl,H⟩| ⟨z,rows,row,rfl,hr,H⟩
   ·exact(hp x H).rep q
   ·exact(hp row hr x H).rep q
 have aw:∀b lo n,EI (nw gs S env.o) w.heap.size b lo n->EI G w0.heap.size b lo n/\¬old b:=by
  intro b lo n A;rcases A with A| ⟨l,m,A,I,K⟩
  ·exact⟨.inl (Nat.le_trans h.size A),λhc=>by have:=hc.1;omega⟩
  ·obtain⟨r,hr,Y,e2,F,e4⟩:=hG _ _ _ A;exact⟨F.mono I K,λhc=>by have:=hc.2;rw[A]at this;cases this⟩
 refine⟨lev',own',S',⟨aA.trans h.os.1,h.os.2⟩,ai.trans h.tape,ao.trans h.output,Nat.le_trans h.size ah,?_,?_,?_,?_,?_,?_,?_⟩
 ·intro b p A;have g:b<w.heap.size:=Nat.lt_of_lt_of_le p h.size;have:nw gs S env.o b=none:=by
   cases e:nw gs S env.o b with
   |none=>rfl
   |some x =>
    obtain⟨lo,n⟩:=x;obtain⟨r,hr,Y,e2,F,e4⟩:=hG _ _ _ e;rcases F with F| ⟨l,m,F,_⟩
    ·omega
    ·rw[A]at F;cases F
  exact(N b g this).trans (h.old b p A)
 ·intro b lo n A;have hp:=h.part b lo n A;refine hp.trans ?_;cases e:nw gs S env.o b with
  |none =>
   refine hp.of_same (N b ?_ e);obtain⟨_,_,_,_,p,_⟩:=hp;exact lt_of_block p
  |some x =>
   obtain⟨l,m⟩:=x;obtain⟨r,hr,Y,e2,F,e4⟩:=hG _ _ _ e;rcases F with F| ⟨l',m',F,I,K⟩
   ·obtain⟨c0,_,_,au,_⟩:=hp;have:=lt_of_block au;omega
   ·rw[A]at F;cases F;exact(ag b l m e).mono I K
 ·intro b m p;simp only[lev']at p;split at p
  ·have:=h.priv b m p;omega
  ·exact ay b m p
 ·intro b p A;have g:b<w.heap.size:=Nat.lt_of_lt_of_le p h.size;have:nw gs S env.o b=none:=by
   cases e:nw gs S env.o b with
   |none=>rfl
   |some x =>
    obtain⟨lo,n⟩:=x;obtain⟨r,hr,Y,e2,F,e4⟩:=hG _ _ _ e;rcases F with F| ⟨l,m,F,_⟩
    ·omega
    ·rw[A]at F;cases F
  simp only[lev',g,this,and_self,if_true];exact h.gV b p A
 ·intro i n he;have O:(BY (DI ns) ns f (fQ (iQ gs f) env)).o i≠.undef:=he;rw[B0 _ _ _ _ _ ad am]at O;simp only[S'];cases H:idx ns i with
  |none =>
   rw[H]at O;exact hk.It i n O
  |some j =>
   rw[H]at O;have k:ns[j]?=some i:=pX H;have g:j<gs.length:=by
    rcases cq j gs.length with g|hge
    ·exact g
    ·exfalso;simp only[ns,dj]at k;rw[getElem?_append_right hge]at k;obtain⟨_,_,_,e⟩:=qe (bM k);have:=oM d;rw[e]at n;have:=oM d ‹_›;omega
   have T:gs[j]?=some i:=by
    simp only[ns,dj]at k;rwa[getElem?_append_left g]at k
   have ae:f.getD j .undef≠.undef:=by
    intro e;simp only[e,D.iV]at O;exact O rfl
   simp only;rw[X j g ae];unfold qA;rw[T];exact h.It i n (U i (bM T))
 ·intro s;by_cases e:s=d
  ·subst e;simp only[dU,ED];simpa[zM]using Z v dv av
  ·simp only[dU];rw[oT e,Ol];have:zM tm d v s=tm s:=by simp[zM,e]
   rw[this];exact(hk.lV s).dQ ap λs _ u q=>aj s u q
 ·intro r;show gM _ _ _ _ _ _ r ((BY (DI ns) ns f (fQ (iQ gs f) env)).o r);rw[B0 _ _ _ _ _ ad am];cases H:idx ns r with
  |none =>
   have af:=hk.objs r;have L:S' r=Sk r:=by simp only[S',H]
   have aE:r∉gs:=by
    intro hr;have:r∈ns:=mem_append_left _ hr;obtain⟨i,n⟩:=P3 this;rw[H]at n;cases n
   refine af.keep ap (λs _ u q=>aj s u q) (λhd=>by rw[hd]at af;rw[L];exact af) ?_;intro b p hl;have g:=h.priv b 0 hl;have A:nw gs S env.o b=none:=by
    cases e:nw gs S env.o b with
    |none=>rfl
    |some x =>
     obtain⟨lo,n⟩:=x;obtain⟨r',aC,Y,_⟩:=hG _ _ _ e;rw[p]at Y;cases Y;exact(aE aC).elim
   refine⟨N b g A,?_,?_⟩
   ·simp only[lev',g,A,and_self,if_true]
   ·simp only[own',g,A,and_self,if_true]
  |some i =>
   have k:ns[i]?=some r:=pX H;have L:S' r=S1 i:=by simp only[S',H]
   have Q:=an i;have V:f.getD i .undef≠.undef->f.getD i .undef∈f:=by
    intro al;rcases cq i f.length with g|hge
    ·rw[show f.getD i .undef=f[i]by simp[getD,g]];exact cZ g
    ·rw[show f.getD i .undef=.undef by simp[getD,hge]]at al;exact(al rfl).elim
   have ac:∀b lo n,EI (nw gs S env.o) w.heap.size b lo n->ab b=some i->lev' b=J b/\own' b=some r/\EI G w0.heap.size b lo n:=by
    intro b lo n A p;obtain⟨I,K⟩:=aw b lo n A;refine⟨az K,?_,I⟩;simp only[own'];rw[az K,p];exact k
   show gM _ _ _ _ _ _ r ((f.getD i .undef).iV (DI ns));generalize hgd:f.getD i .undef=x at Q V |-;cases x<;>try exact Q.elim
   ·simp only[D.iV];show S' r=none;rw[L];exact Q
   ·rename_i z rows;have hm:=V (by simp);simp only[D.iV];rcases Q with⟨a,I,K⟩| ⟨b,c,E,cap,I,K,h3,h4,h5,h6,h7,h8,h9,h10⟩
    ·exact .inl ⟨a,L.trans I,K⟩
    ·obtain⟨g1,g2,g3⟩:=ac b _ _ h9 h8;refine .inr ⟨b,c,E,cap,L.trans I,K,h3,h4,h5,h6,g1.trans h7,g2,g3,?_⟩;intro i' j row y n hj;obtain⟨u,q,aF⟩:=h10 i' j row y n hj;have aB:=h6 row (bM n) y (bM hj);have:=R y ⟨_,hm,.inr ⟨z,rows,row,rfl,bM n,bM hj⟩⟩ u aF;exact⟨u,q,this.dQ (.refl _ _) (by rw[aB.2];simp)⟩
   rotate_left
   ·simp only[D.iV];refine vR Q (λu q=>L.trans q) ?_;intro b _ _ I K _ h3;obtain⟨g1,g2,g3⟩:=ac b _ _ h3 I;exact⟨rfl,g1.trans K,g2,g3⟩
   ·rename_i cs;have hm:=V (by simp);simp only[D.iV];obtain⟨b,o,c,E,I,K,h3,h4,h5,h6,h7⟩:=Q;obtain⟨g1,g2,g3⟩:=ac b _ _ h6 h5;rw[Ch];refine⟨b,o,c,E,L.trans I,K,by simpa using h3,g1.trans h4,g2,by simpa using g3,?_⟩;intro j u e q he;simp only[getElem?_map]at he;cases hy:cs[j]? with
    |none=>rw[hy]at he;cases he
    |some y =>
     rw[hy]at he;cases he;exact Z u y (R y ⟨_,hm,.inl ⟨cs,rfl,bM hy⟩⟩ u (h7 j u y q hy))
end
end Go.Abs
namespace Go.Abs
open List

def mA(b:Bool)(x d:D):D:=if b then x else d
mutual
def jt(o:D)(r:Nat):D->D
 | .fn g cs=>.fn g (rH o r cs)
 | .agg cs=>.agg (rH o r cs)
 | .bH cs=>.bH (rH o r cs)
 | .box cs=>.box (rH o r cs)
 | .ref s=>mA (s==r) (mG o) (.ref s)
 | .addr s off=>mA (s==r) (j0 mh off o) (.addr s off)
 | .bB s z i k=>mA (s==r) (pR z i k o) (.bB s z i k)
 | .cN s z l n=>mA (s==r) (lY z l n o) (.cN s z l n)
 | .bz s off z n c=>mA (s==r) (iy off z n o) (.bz s off z n c)
 |d=>d
def rH(o:D)(r:Nat):List D->List D
 | []=>[]
 |d::l=>jt o r d::rH o r l
end
theorem vM(o:D)(r:Nat):∀cs:List D,rH o r cs=cs.map (jt o r)
 | []=>rfl
 |d::l=>by rw[rH,vM o r l];rfl
def zi(r:Nat)(e:Env):Env:=⟨λj=>jt (e.o r) r (e.t j),λj=>if j=r then .undef else jt (e.o r) r (e.o j)⟩
def eu:List Nat->Env->Env
 | [],e=>e
 |r::rs,e=>eu rs (zi r e)

variable{b i r cap:Nat}{rows:List (List D)}{a:List D}
section
variable{P:Program}{w0 w w':World}{l0:Nat->Option Nat}{G:Nat->Option (Nat×Nat)}{S0:Nat->Option Value}{lev lev' own own':Nat->Option Nat}{S S':Nat->Option Value}{env env':Env}{tm tm':Nat->Value}{B:Nat}

def nO(S:Nat->Option Value)(env:Env)(r:Nat):Option Nat:=((S r).bind λv=>mF v (env.o r)).map (·.1)
def oa(lev:Nat->Option Nat)(x:Option Nat):Nat->Option Nat:=λb=>if x=some b then none else lev b
def vl(x:Option Nat):jB w lev w (oa lev x):=by
 intro a u c;have d:=lD c;unfold vis at c |-;unfold oa;by_cases h:x=some a.block
 ·rw[aE h];exact d
 ·rw[az h];exact c
def sW{x:Option Nat}(d:x=some b){u:Value}(c:w.cell? ⟨b,i,none⟩=some u):vis w (oa lev x) ⟨b,i,none⟩=some u:=by
 unfold vis oa;simp only[d,if_true];exact c
def Gj{o:Nat}{cs:List D}(c:S r=some (.pointer (some ⟨b,o,none⟩)))(d:env.o r=.box cs):nO S env r=some b:=by simp[nO,c,d,mF]
def Av{z len:Nat}(c:S r=some (.slice (some ⟨b,0,none⟩) len cap))(e:env.o r=.own z rows)(d:cap≠0):nO S env r=some b:=by simp[nO,c,e,mF,d]
def HR(c:rows[i]?=some a)(hl:rows.length<=cap):cap≠0:=by
 have:=(cJ.1 c).1;omega

def Nl(h:Inv w0 l0 G S0 w lev own S env tm)(r:Nat)(S':Nat->Option Value) :
  (∀v,aD (cx w lev S) v (.ref r)->aD (cx w (oa lev (nO S env r)) S') v (mG (env.o r))) /\
  (∀off v,aD (cx w lev S) v (.addr r off)->aD (cx w (oa lev (nO S env r)) S') v (j0 mh off (env.o r))) /\
  (∀z i j v,aD (cx w lev S) v (.bB r z i j)->aD (cx w (oa lev (nO S env r)) S') v (pR z i j (env.o r))) /\
  (∀z lo len v,aD (cx w lev S) v (.cN r z lo len)->aD (cx w (oa lev (nO S env r)) S') v (lY z lo len (env.o r))) /\
  (∀off z len cap v,aD (cx w lev S) v (.bz r off z len cap)->aD (cx w (oa lev (nO S env r)) S') v (iy off z len (env.o r))):=by
 have F:=h.objs r;have C:=vl (w:=w) (lev:=lev) (nO S env r);refine⟨?_,?_,?_,?_,?_⟩
 ·intro v hr;obtain⟨g,a,len,cap,rfl⟩:=hr.gx;simp only[cx]at g;cases s:env.o r<;>rw[s]at F<;>simp only[mG]<;>(try exact .undef _);rename_i z rows;rcases F with⟨N,k,rfl⟩| ⟨b,c,E,l,k,H,Z,J,O,D,Q,h8,h9,h10⟩
  ·rw[g]at k;cases k;cases a with
   |none=>exact .slnil _
   |some ad=>exact fK (rows:=[]) (by simp) (by simp) (by simp) (by simp)
  ·rw[g]at k;cases k;refine fK J O D ?_;intro i j row x f n;obtain⟨u,X,A⟩:=h10 i j row x f n;refine⟨u,?_,A.dQ C (by rw[(D row (bM f) x (bM n)).2];simp)⟩;rw[cm,Nat.zero_add];exact sW (Av g s (HR f J)) (by rw[eP w b _ H];exact X)
 ·intro off v hr;obtain⟨a,g,rfl⟩:=hr.iu;simp only[cx]at g;cases s:env.o r<;>rw[s]at F<;>simp only[j0]<;>(try exact .undef _);rename_i cs;obtain⟨b,o,c,E,k,H,Z,J,O,D,Q⟩:=F;rw[g]at k;cases k;refine kj (by intro d aa;obtain⟨x,_,rfl⟩:=mem_map.1 aa;exact wg _) ?_;intro j x n;simp only[getElem?_map,getElem?_drop]at n;cases e:cs[off+j]? with
  |none=>rw[e]at n;cases n
  |some y =>
   rw[e]at n;cases n;have t:o+(off+j)<c.size:=by have:=(cJ.1 e).1;omega
   refine⟨c[o+(off+j)],?_,?_⟩
   ·rw[add_add,cm];refine sW (Gj g s) ?_;rw[eP w b _ H];simp[t]
   ·have hy:=Q (off+j) c[o+(off+j)] y (by simp[t]) e;unfold mh;split
    ·rename_i hn;have ac:y.names=[]:=by simpa using hn
     exact hy.dQ C (by rw[ac];simp)
    ·exact .undef _
 ·intro z i j v hr;obtain⟨a,len,cap,g,rfl⟩:=hr.gD;simp only[cx]at g;cases s:env.o r<;>rw[s]at F<;>simp only[pR]<;>(try exact .undef _);rename_i z' rows;split
  ·rename_i R;obtain⟨rfl,f⟩:=R;rcases F with⟨N,k,rfl⟩| ⟨b,c,E,l,k,H,Z,J,O,D,Q,h8,h9,h10⟩
   ·simp at f
   ·rw[g]at k;cases k;have p:rows.getD i []=rows[i]:=by simp[getD,f]
    rw[p];refine kj (λx Y=>(D _ (cZ f) x (mem_of_mem_drop Y)).2) ?_;intro m x M;rw[getElem?_drop]at M;obtain⟨u,X,A⟩:=h10 i (j+m) rows[i] x (ec f) M;refine⟨u,?_,A.dQ C (by rw[(D _ (cZ f) x (bM M)).2];simp)⟩;rw[add_add,cm];refine sW (Av g s (by omega)) ?_;rw[eP w b _ H,<-X];congr 1;omega
  ·exact .undef _
 ·intro z lo len v hr;obtain⟨a,N,L,cap,l,g,rfl,q1,q2,q3⟩:=hr.jP;simp only[cx]at g;cases s:env.o r<;>rw[s]at F<;>simp only[lY]<;>(try exact .undef _);rename_i z' rows;split
  ·rename_i R;obtain⟨rfl,U⟩:=R;have hl:((rows.drop lo).take len).length=len:=by simp;omega
   by_cases T:len=0
   ·subst T;have e0:(rows.drop lo).take 0=[]:=by simp
    rw[e0];cases N with
    |none=>rw[q3 rfl];exact .slnil _
    |some ad=>exact fK (rows:=[]) (by simp) (by simp) (by simp) (by simp)
   obtain⟨b0,rfl,rfl⟩:=q1 T;rcases F with⟨N,k,rfl⟩| ⟨b,c,E,cap2,k,H,Z,J,O,D,Q,h8,h9,h10⟩
   ·simp at U;omega
   ·rw[g]at k;cases k;have:=fK (V:=cx w (oa lev (nO S env r)) S') (z:=z') (rows:=(rows.drop lo).take len) (a:=(⟨b,0,none⟩:Addr).add (lo*z')) (cap:=l) (by rw[hl];exact q2)
     (λr hr=>O r (mem_of_mem_drop (mem_of_mem_take hr))) (λr hr=>D r (mem_of_mem_drop (mem_of_mem_take hr))) (by
      intro i j row x f n;have q:i<len:=by have:=(cJ.1 f).1;rw[hl]at this;exact this
      rw[getElem?_take_of_lt q,getElem?_drop]at f;obtain⟨u,X,A⟩:=h10 (lo+i) j row x f n;refine⟨u,?_,A.dQ C (by rw[(D _ (bM f) x (bM n)).2];simp)⟩;rw[add_add,cm];refine sW (Av g s (HR f J)) ?_;rw[eP w b _ H,<-X]
      congr 1;rw[Nat.add_mul];omega)
    rw[hl]at this;exact this
  ·exact .undef _
 ·intro off z len bcap v hr;obtain⟨a,N,l,g,rfl,q1,q2,q3⟩:=hr.eg;simp only[cx]at g;cases s:env.o r<;>rw[s]at F<;>simp only[iy]<;>(try exact .undef _);rename_i cs;split
  ·rename_i R;simp only[Bool.and_eq_true,bP,cR]at R;obtain⟨hp,hle⟩:=R;by_cases T:len=0
   ·subst T;simp only[rowsOf];cases N with
    |none=>rw[q3.1 rfl];exact .slnil _
    |some ad=>exact fK (rows:=[]) (by simp) (by simp) (by simp) (by simp)
   have ha:=q1 T;subst ha;obtain⟨b,o,c,E,k,H,Z,J,O,D,Q⟩:=F;rw[g]at k;cases k;have K:∀(i:Nat) row,(rowsOf z len (cs.drop off))[i]?=some row->i<len/\row=((cs.drop off).drop (i*z)).take z:=by
    intro i row f;have:=(cJ.1 f).1;rw[fy]at this;exact⟨this,mm _ _ _ _ _ f⟩
   have I:∀i,i<len->∀x∈((cs.drop off).drop (i*z)).take z,x∈(cs.drop off).take (len*z):=by
    intro i f x Y;obtain⟨m,M⟩:=mem_iff_getElem?.1 Y;have W:m<z:=by have:=(cJ.1 M).1;simp at this;omega
    rw[getElem?_take_of_lt W,getElem?_drop]at M;refine bM (i:=i*z+m) ?_;rw[getElem?_take_of_lt (j7 W f)];exact M
   have:=fK (V:=cx w (oa lev (nO S env r)) S') (z:=z) (rows:=rowsOf z len (cs.drop off)) (a:=(⟨b,o,none⟩:Addr).add off) (cap:=l) (by rw[fy];exact q2)
    (by
     intro row p;obtain⟨i,f⟩:=mem_iff_getElem?.1 p;obtain⟨q,rfl⟩:=K i row f;have:(i+1)*z<=len*z:=gK z q;rw[Nat.succ_mul]at this
     simp;omega)
    (by
     intro row p x Y;obtain⟨i,f⟩:=mem_iff_getElem?.1 p;obtain⟨q,rfl⟩:=K i row f
     exact qi (hp x (I i q x Y)))
    (by
     intro i j row x f n;obtain⟨q,rfl⟩:=K i row f;have ae:=qi (hp x (I i q x (bM n)));have ab:j<z:=by have:=(cJ.1 n).1;simp at this;omega
     rw[getElem?_take_of_lt ab,getElem?_drop,getElem?_drop]at n;have t:o+(off+(i*z+j))<c.size:=by have:=(cJ.1 n).1;omega
     refine⟨c[o+(off+(i*z+j))],?_,(Q _ _ x (by simp[t]) n).dQ C (by rw[ae.2];simp)⟩;rw[add_add,cm]
     exact sW (Gj g s) (by rw[eP w b _ H];simp[t]))
   rw[fy]at this;exact this
  ·exact .undef _

theorem E8(h:Inv w0 l0 G S0 w lev own S env tm)(r:Nat){v:Value}{d:D}(hr:aD (cx w lev S) v d):aD (cx w (oa lev (nO S env r)) (fD S r none)) v (jt (env.o r) r d):=by
 obtain⟨J,K,M,N,O⟩:=Nl h r (fD S r none);have F:=vl (w:=w) (lev:=lev) (nO S env r);have same:∀{v:Value} {d:D},aD (cx w lev S) v d->r∉d.names->aD (cx w (oa lev (nO S env r)) (fD S r none)) v d:=by
  intro v d hr E;refine hr.dQ F ?_;intro s c u I;rw[bN _ _ (by rintro rfl;exact E c)];exact I
 have q:∀(vs:Array Value)(ds:List D),vs.size=ds.length->(∀(i:Nat) v d,vs[i]?=some v->ds[i]?=some d->aD (cx w (oa lev (nO S env r)) (fD S r none)) v (jt (env.o r) r d)) ->
   vs.size=(rH (env.o r) r ds).length/\∀(i:Nat) v d,vs[i]?=some v->(rH (env.o r) r ds)[i]?=some d->aD (cx w (oa lev (nO S env r)) (fD S r none)) v d:=by
  intro vs ds l p;rw[vM];refine⟨by simpa using l,?_⟩;intro i v d H A;simp only[getElem?_map]at A;cases e:ds[i]? with
  |none=>rw[e]at A;cases A
  |some x=>rw[e]at A;cases A;exact p i v x H e
 generalize m:cx w lev S=C at hr;induction hr with
 |fn g vs ds l _ p=>obtain⟨j,y⟩:=q vs ds l p;simp only[jt];exact .fn g vs _ j y
 |agg vs ds l _ p=>obtain⟨j,y⟩:=q vs ds l p;simp only[jt];exact .agg vs _ j y
 |bH vs ds l _ p=>obtain⟨j,y⟩:=q vs ds l p;simp only[jt];exact .bH vs _ j y
 |undef v=>exact .undef v
 |bool b=>exact .bool b
 |int k n=>exact .int k n
 |str s=>exact .str s
 |nil=>exact .nil
 |emp a=>exact .emp a
 |jh=>exact .jh
 |eB=>exact .eB
 |eW t v=>exact .eW t v
 |kP=>exact .kP
 |slnil z=>exact .slnil z
 |sl z a cap rows f l hz hk hc j _=>subst m;exact same (d:=.sl z rows) (.sl z a cap rows f l hz hk hc j) (by simp[D.names])
 |bq a cs f E hc j _=>subst m;exact same (d:=.bq cs) (.bq a cs f E hc j) (by simp[D.names])
 |ref s a len cap c =>
  subst m;simp only[jt,mA];by_cases e:s=r
  ·subst e;simp only[beq_self_eq_true,if_true];exact J _ (.ref s a len cap c)
  ·have:(s==r)=false:=by simpa using e
   simp only[this,Bool.false_eq_true,if_false];exact same (.ref s a len cap c) (by simp[D.names,Ne.symm e])
 |addr s off a c =>
  subst m;simp only[jt,mA];by_cases e:s=r
  ·subst e;simp only[beq_self_eq_true,if_true];exact K off _ (.addr s off a c)
  ·have:(s==r)=false:=by simpa using e
   simp only[this,Bool.false_eq_true,if_false];exact same (.addr s off a c) (by simp[D.names,Ne.symm e])
 |bB s z i k a len cap c =>
  subst m;simp only[jt,mA];by_cases e:s=r
  ·subst e;simp only[beq_self_eq_true,if_true];exact M z i k _ (.bB s z i k a len cap c)
  ·have:(s==r)=false:=by simpa using e
   simp only[this,Bool.false_eq_true,if_false];exact same (.bB s z i k a len cap c) (by simp[D.names,Ne.symm e])
 |cN s z lo len a a' L cap cap' c q1 q2 q3 =>
  subst m;simp only[jt,mA];by_cases e:s=r
  ·subst e;simp only[beq_self_eq_true,if_true];exact N z lo len _ (.cN s z lo len a a' L cap cap' c q1 q2 q3)
  ·have:(s==r)=false:=by simpa using e
   simp only[this,Bool.false_eq_true,if_false];exact same (.cN s z lo len a a' L cap cap' c q1 q2 q3) (by simp[D.names,Ne.symm e])
 |bz s off z len cap a a' c q1 q2 =>
  subst m;simp only[jt,mA];by_cases e:s=r
  ·subst e;simp only[beq_self_eq_true,if_true];exact O off z len cap _ (.bz s off z len cap a a' c q1 q2)
  ·have:(s==r)=false:=by simpa using e
   simp only[this,Bool.false_eq_true,if_false];exact same (.bz s off z len cap a a' c q1 q2) (by simp[D.names,Ne.symm e])

def Inv.frz(h:Inv w0 l0 G S0 w lev own S env tm)(r:Nat):Inv w0 l0 G S0 w (oa lev (nO S env r)) own (fD S r none) (zi r env) tm\/env.o r=.undef:=by
 by_cases t:env.o r=.undef
 ·exact .inr t
 left;have A:∀b k,own b=some k->k≠r->nO S env r≠some b:=by
  intro b k f e d;unfold nO at d;cases p:S r with
  |none=>rw[p]at d;cases d
  |some v =>
   rw[p]at d;simp only[Option.bind_some]at d;cases q:mF v (env.o r)with
   |none=>rw[q]at d;cases d
   |some y =>
    obtain⟨O,lo,J⟩:=y;rw[q]at d;simp only[Option.map_some,gy]at d;subst d;obtain⟨n,_⟩:=(h.objs r).blk p q;rw[f]at n;cases n;exact e rfl
 refine⟨h.os,h.tape,h.output,h.size,h.old,h.part,?_,?_,?_,?_,?_⟩
 ·intro b m f;unfold oa at f;split at f
  ·cases f
  ·exact h.priv b m f
 ·intro b f N;unfold oa;split
  ·rename_i d;exfalso;unfold nO at d;cases p:S r with
   |none=>rw[p]at d;cases d
   |some v =>
    rw[p]at d;simp only[Option.bind_some]at d;cases q:mF v (env.o r)with
    |none=>rw[q]at d;cases d
    |some y =>
     obtain⟨O,lo,J⟩:=y;rw[q]at d;simp only[Option.map_some,gy]at d;subst d;obtain⟨_,_,g,_⟩:=(h.objs r).blk p q;rcases g with g| ⟨l,m,g,_⟩
     ·omega
     ·rw[N]at g;cases g
  ·exact h.gV b f N
 ·intro i J F;simp only[zi]at F;by_cases e:i=r
  ·rw[aE e]at F;exact(F rfl).elim
  ·rw[az e]at F;rw[bN _ _ e];refine h.It i J ?_;intro C;rw[C]at F;exact F rfl
 ·intro s;exact E8 h r (h.lV s)
 ·intro k;by_cases e:k=r
  ·subst e;simp only[zi,if_true];exact aW _ _ _
  ·simp only[zi,e,if_false];have H:=h.objs k;cases U:env.o k<;>rw[U]at H<;>try exact H.elim
   ·simp only[jt];show fD S r none k=none;rw[bN _ _ e];exact H
   ·rename_i z rows;simp only[jt];refine H.keep (vl _) ?_ (λh=>by cases h) ?_
    ·intro s K u C;rcases K with rfl|K
     ·rw[bN _ _ e];exact C
     ·simp[D.names]at K
    ·intro b f hl;refine⟨rfl,?_,rfl⟩;unfold oa;rw[az (A b k f e)]
   ·rename_i cs;simp only[jt];obtain⟨b,o,c,E,n,I,g,Q,M,R,T⟩:=H;rw[vM];refine⟨b,o,c,E,by rw[bN _ _ e];exact n,I,by simpa using g,?_,M,by simpa using R,?_⟩
    ·unfold oa;rw[az (A b k M e)];exact Q
    ·intro j u x C d;simp only[getElem?_map]at d;cases L:cs[j]? with
     |none=>rw[L]at d;cases d
     |some y=>rw[L]at d;cases d;exact E8 h r (T j u y C L)
   ·simp only[jt];refine vR H (λu C=>by rw[bN _ _ e];exact C) λb _ _ n I _ g=>⟨rfl,?_,n,g⟩
    unfold oa;rw[az (A b k n e)];exact I

theorem Inv.Nk:∀(p:List Nat) {lev:Nat->Option Nat} {S:Nat->Option Value} {env:Env},Inv w0 l0 G S0 w lev own S env tm->(∀r∈p,True)->∃lev' S',Inv w0 l0 G S0 w lev' own S' (eu p env) tm
 | [],lev,S,env,h,_=>⟨lev,S,h⟩
 |k::p,lev,S,env,h,hk=>by
  by_cases A:env.o k=.undef
  ·-- nothing is let go: what names it is forgotten
   have q:=h.fresh A;have f:Inv w0 l0 G S0 w lev own S (zi k env) tm:=by
    have n:∀{v:Value} {d:D},aD (cx w lev S) v d->aD (cx w lev S) v (jt (env.o k) k d):=by
     intro v d hr;have:=E8 h k hr;have C:oa lev (nO S env k)=lev:=by
      funext b;unfold oa nO;rw[q];simp
     have e2:fD S k none=S:=by
      funext s;by_cases e:s=k
      ·subst e;rw[aW,q]
      ·exact bN _ _ e
     rw[C,e2]at this;exact this
    refine⟨h.os,h.tape,h.output,h.size,h.old,h.part,h.priv,h.gV,?_,λs=>n (h.lV s),?_⟩
    ·intro i f m;simp only[zi]at m;split at m
     ·exact(m rfl).elim
     ·refine h.It i f ?_;intro g;rw[g]at m;exact m rfl
    ·intro s;simp only[zi];split
     ·rename_i e;subst e;exact q
     ·have l:=h.objs s;cases N:env.o s<;>rw[N]at l<;>try exact l.elim
      ·exact l
      ·exact l
      ·rename_i cs;simp only[jt];obtain⟨b,o,c,E,F,H,I,J,K,L,M⟩:=l;rw[vM];refine⟨b,o,c,E,F,H,by simpa using I,J,K,by simpa using L,?_⟩;intro j u x t g;simp only[getElem?_map]at g;cases z:cs[j]? with
       |none=>rw[z]at g;cases g
       |some y=>rw[z]at g;cases g;exact n (M j u y t z)
      ·exact l
   exact Inv.Nk p f (λ_ _=>trivial)
  ·rcases h.frz k with f|f
   ·exact Inv.Nk p f (λ_ _=>trivial)
   ·exact(A f).elim
end
end Go.Abs
namespace Go.Abs

mutual
/-- what is known by d (with the elder names) is known by d' (with the new ones): rho tells the elder name of a new one, none: of an empty slice that was nil; e: is the new name alive? -/
def iR(jx:Nat->Option Nat)(e:Nat->Bool):D->D->Prop
 | _,.undef=>True
 | .ref r,.ref s=>jx s=some r/\e s=true
 | .nil,.ref s=>jx s=none/\e s=true
 | .addr r o,.addr s o'=>jx s=some r/\e s=true/\o=o'
 | .bB r z i k,.bB s z' i' k'=>jx s=some r/\e s=true/\z=z'/\i=i'/\k=k'
 | .cN r z l m,.cN s z' l' m'=>jx s=some r/\e s=true/\z=z'/\l=l'/\m=m'
 | .bz r o z m c,.bz s o' z' m' c'=>jx s=some r/\e s=true/\o=o'/\z=z'/\m=m'/\c=c'
 | .agg a,.agg b=>ju jx e a b
 | .bH a,.bH b=>ju jx e a b
 | .fn f a,.fn g b=>f=g/\ju jx e a b
 | .nil,.sl _ rows=>rows=[]
 | .nil,.emp=>True
 | .nil,.nil=>True
 | .emp,.emp=>True
 | .jh,.jh=>True
 | .eB,.eB=>True
 | .eW,.eW=>True
 | .kP,.kP=>True
 | .bool a,.bool b=>a=b
 | .int k a,.int k' b=>k=k'/\a=b
 | .str a,.str b=>a=b
 | .sl z a,.sl z' b=>z=z'/\a=b
 | .bq a,.bq b=>a=b
 | _,_=>False
def ju(jx:Nat->Option Nat)(c:Nat->Bool):List D->List D->Prop
 | [],[]=>True
 |a::x,b::y=>iR jx c a b/\ju jx c x y
 | _,_=>False
end
theorem vW{jx:Nat->Option Nat}{e:Nat->Bool}:∀{a b:List D},ju jx e a b->a.length=b.length/\∀(i:Nat) x y,a[i]?=some x->b[i]?=some y->iR jx e x y
 | [],[],_=>⟨rfl,λi x y h=>by simp at h⟩
 | [],_::_,h=>by simp[ju]at h
 | _::_,[],h=>by simp[ju]at h
 |a::x,b::y,h=>by
  simp only[ju]at h;obtain⟨f,g⟩:=vW h.2;refine⟨by simp[f],?_⟩;intro i u v c d;cases i with
  |zero=>simp at c d;subst c;subst d;exact h.1
  |succ i=>simp at c d;exact g i u v c d
def I4(jx:Nat->Option Nat)(c:Nat->Bool):D->D->Prop
 | .box a,.box b=>ju jx c a b
 | .own z a,.own z' b=>z=z'/\a=b
 | .iI z a,.iI z' b=>z=z'/\a=b
 | _,_=>False

theorem iR.rep{C C':Cx}{jx:Nat->Option Nat}{x:Nat->Bool}(B:∀a v,C.V a=some v->C'.V a=some v)(p:∀s r,jx s=some r->x s=true->∀u,C.S r=some u->C'.S s=some u)(E:∀s,jx s=none->x s=true->C'.S s=some (.slice none 0 0))
  {v:Value} {d:D} (r:aD C v d):∀{e:D},iR jx x d e->aD C' v e:=by
 have o:∀(vs:Array Value)(ds:List D)(ds':List D),vs.size=ds.length->(∀(i:Nat) v d,vs[i]?=some v->ds[i]?=some d->∀{e:D},iR jx x d e->aD C' v e)->ju jx x ds ds' ->
   vs.size=ds'.length/\∀(i:Nat) v d,vs[i]?=some v->ds'[i]?=some d->aD C' v d:=by
  intro vs ds ds' l m y;obtain⟨g,j⟩:=vW y;refine⟨l.trans g,?_⟩;intro i v d F c;have q:i<ds.length:=by rw[g];exact(cJ.1 c).1
  exact m i v _ F (ec q) (j i _ d (ec q) c)
 induction r with
 |fn f vs ds l h m=>intro e c;cases e<;>simp only[iR]at c<;>first|exact .undef _|exact c.elim|skip;(obtain⟨rfl,c⟩:=c;obtain⟨g,j⟩:=o vs ds _ l m c;exact .fn f vs _ g j)
 |agg vs ds l h m=>intro e c;cases e<;>simp only[iR]at c<;>first|exact .undef _|exact c.elim|skip;(obtain⟨g,j⟩:=o vs ds _ l m c;exact .agg vs _ g j)
 |bH vs ds l h m=>intro e c;cases e<;>simp only[iR]at c<;>first|exact .undef _|exact c.elim|skip;(obtain⟨g,j⟩:=o vs ds _ l m c;exact .bH vs _ g j)
 |undef v=>intro e c;cases e<;>simp only[iR]at c<;>first|exact .undef _|exact c.elim
 |bool b=>intro e c;cases e<;>simp only[iR]at c<;>first|exact .undef _|exact c.elim| (subst c;exact .bool _)
 |int k n=>intro e c;cases e<;>simp only[iR]at c<;>first|exact .undef _|exact c.elim| (obtain⟨rfl,rfl⟩:=c;exact .int _ _)
 |str s=>intro e c;cases e<;>simp only[iR]at c<;>first|exact .undef _|exact c.elim| (subst c;exact .str _)
 |nil =>
  intro e c;cases e<;>simp only[iR]at c<;>first|exact .undef _|exact c.elim|exact .nil|exact .emp _|skip
  ·subst c;exact .slnil _
  ·exact .ref _ none 0 0 (E _ c.1 c.2)
 |emp a=>intro e c;cases e<;>simp only[iR]at c<;>first|exact .undef _|exact c.elim|exact .emp _
 |jh=>intro e c;cases e<;>simp only[iR]at c<;>first|exact .undef _|exact c.elim|exact .jh
 |eB=>intro e c;cases e<;>simp only[iR]at c<;>first|exact .undef _|exact c.elim|exact .eB
 |eW t v=>intro e c;cases e<;>simp only[iR]at c<;>first|exact .undef _|exact c.elim|exact .eW _ _
 |kP=>intro e c;cases e<;>simp only[iR]at c<;>first|exact .undef _|exact c.elim|exact .kP
 |slnil z=>intro e c;cases e<;>simp only[iR]at c<;>first|exact .undef _|exact c.elim| (obtain⟨rfl,rfl⟩:=c;exact .slnil _)
 |sl z a cap rows f l hz hk hc g _ =>
  intro e c;cases e<;>simp only[iR]at c<;>first|exact .undef _|exact c.elim|skip
  obtain⟨rfl,rfl⟩:=c;exact aD.keep (d:=.sl z rows) B (.sl z a cap rows f l hz hk hc g) (λs A=>by simp[D.names]at A)
 |bq a cs f hn hc g _ =>
  intro e c;cases e<;>simp only[iR]at c<;>first|exact .undef _|exact c.elim|skip
  subst c;exact aD.keep (d:=.bq cs) B (.bq a cs f hn hc g) (λs A=>by simp[D.names]at A)
 |ref r a len cap h=>intro e c;cases e<;>simp only[iR]at c<;>first|exact .undef _|exact c.elim|exact .ref _ a len cap (p _ _ c.1 c.2 _ h)
 |addr r off a h=>intro e c;cases e<;>simp only[iR]at c<;>first|exact .undef _|exact c.elim| (obtain⟨g,j,rfl⟩:=c;exact .addr _ _ a (p _ _ g j _ h))
 |bB r z i k a len cap h=>intro e c;cases e<;>simp only[iR]at c<;>first|exact .undef _|exact c.elim| (obtain⟨g,j,rfl,rfl,rfl⟩:=c;exact .bB _ _ _ _ a len cap (p _ _ g j _ h))
 |cN r z lo len a a' L cap cap' h q1 q2 q3=>intro e c;cases e<;>simp only[iR]at c<;>first|exact .undef _|exact c.elim| (obtain⟨g,j,rfl,rfl,rfl⟩:=c;exact .cN _ _ _ _ a a' L cap cap' (p _ _ g j _ h) q1 q2 q3)
 |bz r off z len cap a a' h q1 q2=>intro e c;cases e<;>simp only[iR]at c<;>first|exact .undef _|exact c.elim| (obtain⟨g,j,rfl,rfl,rfl,rfl⟩:=c;exact .bz _ _ _ _ _ a a' (p _ _ g j _ h) q1 q2)

structure LeE(m:Nat)(jx:Nat->Option Nat)(e E:Env):Prop where
 lV:∀j,iR jx (λs=>!cV (E.o s)) (e.t j) (E.t j)
 objs:∀s,E.o s≠.undef->match jx s with
  |some r=>I4 jx (λs=>!cV (E.o s)) (e.o r) (E.o s)
  |none=>(∃z,E.o s=.own z [])\/∃z,E.o s=.iI z []
 inj:∀s s' r,E.o s≠.undef->E.o s'≠.undef->jx s=some r->jx s'=some r->s=s'
 It:∀s,s<m->E.o s≠.undef->jx s=some s

def sx{d:D}:cV d=true↔d=.undef:=by cases d<;>simp[cV]

section
variable{P:Program}{w0 w w':World}{l0:Nat->Option Nat}{G:Nat->Option (Nat×Nat)}{S0:Nat->Option Value}{lev lev' own own':Nat->Option Nat}{S S':Nat->Option Value}{env env':Env}{tm tm':Nat->Value}

def Inv.aai{m:Nat}(hm:m<=16){jx:Nat->Option Nat}{E:Env}(h:Inv w0 l0 G S0 w lev own S env tm)(L:LeE m jx env E):∃own' S',(∀i,i<m->E.o i≠.undef->S' i=S0 i)/\(∀s,aD (cx w lev S') (tm s) (E.t s))/\∀r,gM w0.heap.size G w lev own' S' r (E.o r):=by
 let S':Nat->Option Value:=λs=>if cV (E.o s)then none else match jx s with
  |some r=>S r
  |none=>some (.slice none 0 0)
 let own':Nat->Option Nat:=λb=>(own b).bind λr=>open Classical in if h:∃s,E.o s≠.undef/\jx s=some r then some (Classical.choose h)else none
 have H:∀s r,jx s=some r->(!cV (E.o s))=true->∀u,S r=some u->S' s=some u:=by
  intro s r hr f u q;simp only[jY]at f;simp only[S',f,hr,Bool.false_eq_true,if_false];exact q
 have hN:∀s,jx s=none->(!cV (E.o s))=true->S' s=some (.slice none 0 0):=by
  intro s hr f;simp only[jY]at f;simp only[S',f,hr,Bool.false_eq_true,if_false]
 have p:∀{v:Value} {d Z:D},aD (cx w lev S) v d->iR jx (λs=>!cV (E.o s)) d Z->aD (cx w lev S') v Z:=λhr hd=>iR.rep (C:=cx w lev S) (C':=cx w lev S') (λ_ _ h=>h) H hN hr hd;refine⟨own',S',?_,?_,?_⟩
 ·intro i Q I;have hr:=L.It i Q I;have g:=L.objs i I;rw[hr]at g;have W:env.o i≠.undef:=by
   intro e;simp only[e]at g;cases y:E.o i<;>rw[y]at g<;>exact g.elim
  have f:cV (E.o i)=false:=by
   cases y:cV (E.o i)with
   |false=>rfl
   |true=>exact(I (sx.1 y)).elim
  simp only[S',f,hr,Bool.false_eq_true,if_false];exact h.It i (by omega) W
 ·intro s;exact p (h.lV s) (L.lV s)
 ·intro s;by_cases q:E.o s=.undef
  ·rw[q];show S' s=none;simp[S',q,cV]
  have f:(!cV (E.o s))=true:=by
   cases y:cV (E.o s)with
   |false=>rfl
   |true=>exact(q (sx.1 y)).elim
  have g:=L.objs s q;cases hr:jx s with
  |none =>
   rw[hr]at g;have hn:=hN s hr f;rcases g with⟨z,Y⟩| ⟨z,Y⟩
   ·rw[Y];exact .inl ⟨none,hn,rfl⟩
   ·rw[Y];exact .inl ⟨none,hn,rfl⟩
  |some r =>
   rw[hr]at g;simp only at g;have l:=h.objs r;have k:∀b,own b=some r->own' b=some s:=by
    intro b hb;simp only[own',hb,Option.bind_some];have J:∃s,E.o s≠.undef/\jx s=some r:=⟨s,q,hr⟩
    rw[dif_pos J];have hc:=Classical.choose_spec J;rw[L.inj _ _ r hc.1 q hc.2 hr]
   cases hE:E.o s<;>rw[hE]at g<;>cases I:env.o r<;>rw[I]at g l<;>simp only[I4]at g
   ·obtain⟨rfl,rfl⟩:=g;rename_i z rows;rcases l with⟨a,A,B⟩| ⟨b,c,R,cap,A,B,N,T,U,O,V,h8,h9,h10⟩
    ·exact .inl ⟨a,H s r hr f _ A,B⟩
    ·refine .inr ⟨b,c,R,cap,H s r hr f _ A,B,N,T,U,O,V,k b h8,h9,?_⟩;intro i j row d Q hj;obtain⟨u,F,X⟩:=h10 i j row d Q hj;exact⟨u,F,X.dQ (.refl _ _) (by rw[(O row (bM Q) d (bM hj)).2];simp)⟩
   ·rename_i a b';obtain⟨n,K⟩:=vW g;obtain⟨b,o,c,R,A,B,N,T,U,O,V⟩:=l;refine⟨b,o,c,R,H s r hr f _ A,B,by omega,T,k b U,by rw[<-n];exact O,?_⟩;intro j u x F y;have M:j<b'.length:=by rw[n];exact(cJ.1 y).1
    exact p (V j u _ F (ec M)) (K j _ x (ec M) y)
   ·obtain⟨rfl,rfl⟩:=g;exact vR l (H s r hr f) λb _ _ A B _ N=>⟨rfl,B,k b A,N⟩
def Inv.le{jx:Nat->Option Nat}{E:Env}(h:Inv w0 l0 G S0 w lev own S env tm)(d:LeE 16 jx env E):∃own' S',Inv w0 l0 G S0 w lev own' S' E tm:=by
 obtain⟨own',S',a,b,c⟩:=h.aai (cX _) d;exact⟨own',S',h.os,h.tape,h.output,h.size,h.old,h.part,h.priv,h.gV,a,b,c⟩
end

def look:List (Nat×D)->Nat->D
 | [],_=>.undef
 |x::r,j=>if j=x.1 then x.2 else look r j
def qz(ts os:List (Nat×D)):Env:=⟨look ts,look os⟩
mutual
def pM:D->D->List (Nat×Option Nat)
 | .ref s,.ref r=>[(s,some r)]
 | .ref s,.nil=>[(s,none)]
 | .addr s _,.addr r _=>[(s,some r)]
 | .bB s _ _ _,.bB r _ _ _=>[(s,some r)]
 | .cN s _ _ _,.cN r _ _ _=>[(s,some r)]
 | .bz s _ _ _ _,.bz r _ _ _ _=>[(s,some r)]
 | .agg a,.agg b=>wo a b
 | .bH a,.bH b=>wo a b
 | .fn _ a,.fn _ b=>wo a b
 | .box a,.box b=>wo a b
 | _,_=>[]
def wo:List D->List D->List (Nat×Option Nat)
 |a::x,b::y=>pM a b++wo x y
 | _,_=>[]
end
def jx(l:List (Nat×Option Nat))(s:Nat):Option Nat:=
 match l with
 | []=>some s
 |x::r=>if s=x.1 then x.2 else jx r s
def Ji(e:Env):List (Nat×D)->List (Nat×Option Nat)
 | []=>[]
 |x::r=>pM x.2 (e.t x.1)++Ji e r
def XK(e:Env):Option Nat->D
 |some r=>e.o r
 |none=>.undef
def LY(e:Env)(l:List (Nat×Option Nat)):List (Nat×D)->List (Nat×Option Nat)
 | []=>[]
 |x::r=>pM x.2 (XK e (jx l x.1))++LY e l r
def Iv(os:List (Nat×D))(s:Nat):Bool:=
 match os with
 | []=>false
 |x::r=>if s=x.1 then true else Iv r s
def KU(e:Env)(a:Nat->Option Nat)(os:List (Nat×D)):List (Nat×D)->Prop
 | []=>True
 |x::r=>iR a (Iv os) (e.t x.1) x.2/\KU e a os r
def xK:D->Prop
 | .own _ rows=>rows=[]
 | .iI _ rows=>rows=[]
 | _=>False
def EJ(e:Env)(a:Nat->Option Nat)(os:List (Nat×D))(d:D):Option Nat->Prop
 |some r=>I4 a (Iv os) (e.o r) d
 |none=>xK d
def iC(o:Option Nat)(b:Nat->Option Nat):List (Nat×D)->Prop
 | []=>True
 |x::r=>(match o with
  |some a=>b x.1≠some a
  |none=>True)/\iC o b r
def DU(m s:Nat)(o:Option Nat):Prop:=m<=s\/o=some s
def CT(m:Nat)(e:Env)(a:Nat->Option Nat)(os:List (Nat×D)):List (Nat×D)->Prop
 | []=>True
 |x::r=>Iv r x.1=false/\EJ e a os x.2 (a x.1)/\iC (a x.1) a r/\DU m x.1 (a x.1)/\CT m e a os r
def VV(m:Nat)(e:Env)(ts os:List (Nat×D))(l:List (Nat×Option Nat)):Prop:=KU e (jx l) os ts/\CT m e (jx l) os os
def Tj(m:Nat)(e:Env)(ts os:List (Nat×D))(l:List (Nat×Option Nat)):Prop:=VV m e ts os (l++LY e l os)
def MI(m:Nat)(e:Env)(ts os:List (Nat×D)):Prop:=Tj m e ts os (Ji e ts)
def DG(e:Env)(ts os:List (Nat×D)):Prop:=MI 16 e ts os

theorem Nq{os:List (Nat×D)}{e:Env}{f:Nat->Option Nat}{c:List (Nat×D)}{m:Nat}(h:CT m e f c os)(s:Nat):Iv os s = !cV (look os s):=by
 induction os with
 |nil=>rfl
 |cons x r ih =>
  obtain⟨h1,a,h3,h4,g⟩:=h;simp only[Iv,look];by_cases d:s=x.1
  ·subst d;simp only[if_true];cases hr:f x.1 with
   |none=>rw[hr]at a;cases b:x.2<;>rw[b]at a<;>simp[EJ,xK]at a<;>rfl
   |some r=>rw[hr]at a;cases b:x.2<;>rw[b]at a<;>cases i:e.o r<;>simp only[EJ,i,I4]at a<;>rfl
  ·simp only[az d];exact ih g
def De{b:Nat->Option Nat}{a:Nat->Bool}(d:D):iR b a d .undef:=by cases d<;>simp[iR]
def MI.le{m:Nat}{e:Env}{ts os:List (Nat×D)}(h:MI m e ts os):∃d,LeE m d e (qz ts os):=by
 unfold MI Tj VV at h;generalize jx _=d at h;obtain⟨C,f⟩:=h;have i:Iv os=λs=>!cV ((qz ts os).o s):=by funext s;exact Nq f s
 refine⟨d,?_,?_,?_,?_⟩
 ·intro j;rw[<-i];show iR d (Iv os) (e.t j) (look ts j);clear i f;induction ts with
  |nil=>exact De _
  |cons x r ih =>
   simp only[look];by_cases k:j=x.1
   ·subst k;simp only[if_true];exact C.1
   ·simp only[az k];exact ih C.2
 ·intro s c;rw[<-i];show match d s with|some r=>I4 d (Iv os) (e.o r) (look os s)|none=>(∃z,look os s=.own z [])\/∃z,look os s=.iI z []
  have b:look os s≠.undef:=c;clear i C c
  suffices hh:∀a:List (Nat×D),CT m e d os a->look a s≠.undef->match d s with|some r=>I4 d (Iv os) (e.o r) (look a s)|none=>(∃z,look a s=.own z [])\/∃z,look a s=.iI z []from hh os f b
  intro a;induction a with
  |nil=>intro _ h;exact(h rfl).elim
  |cons x r ih =>
   intro f b;obtain⟨F,g,n,p,v⟩:=f;simp only[look]at b |-
   by_cases k:s=x.1
   ·subst k;simp only[if_true];cases hr:d x.1 with
    |none =>
     rw[hr]at g;cases I:x.2<;>rw[I]at g<;>simp only[EJ,xK]at g
     ·subst g;exact .inl ⟨_,rfl⟩
     ·subst g;exact .inr ⟨_,rfl⟩
    |some r'=>rw[hr]at g;exact g
   ·simp only[az k]at b |-;exact ih v b
 ·intro s u r c b hr A;have c:look os s≠.undef:=c;have b:look os u≠.undef:=b
  suffices hh:∀a:List (Nat×D),CT m e d os a->look a s≠.undef->look a u≠.undef->s=u from hh os f c b
  have y:∀(a:List (Nat×D))(t:Nat),look a t≠.undef->d t=some r->¬iC (some r) d a:=by
   intro a t;induction a with
   |nil=>intro h;exact(h rfl).elim
   |cons x q ih =>
    intro E B H;simp only[look]at E;by_cases k:t=x.1
    ·subst k;exact H.1 B
    ·simp only[az k]at E;exact ih E B H.2
  intro a;induction a with
  |nil=>intro _ h;exact(h rfl).elim
  |cons x q ih =>
   intro f c b;obtain⟨F,g,n,p,v⟩:=f;simp only[look]at c b;by_cases l:s=x.1
   ·by_cases e2:u=x.1
    ·exact l.trans e2.symm
    ·simp only[az e2]at b;subst l;rw[hr]at n;exact(y q u b A n).elim
   ·by_cases e2:u=x.1
    ·simp only[az l]at c;subst e2;rw[A]at n;exact(y q s c hr n).elim
    ·simp only[az l]at c;simp only[az e2]at b;exact ih v c b
 ·intro s hlt c;have c:look os s≠.undef:=c
  suffices hh:∀a:List (Nat×D),CT m e d os a->look a s≠.undef->d s=some s from hh os f c
  intro a;induction a with
  |nil=>intro _ h;exact(h rfl).elim
  |cons x q ih =>
   intro f c;obtain⟨F,g,n,p,v⟩:=f;simp only[look]at c;by_cases l:s=x.1
   ·subst l;rcases p with p|p
    ·omega
    ·exact p
   ·simp only[az l]at c;exact ih v c
def DG.le{e:Env}{ts os:List (Nat×D)}(h:DG e ts os):∃a,LeE 16 a e (qz ts os):=MI.le h
end Go.Abs
namespace Go.Abs

def Enters (P : Program) (f : FuncId) : Prop := ∃ fn, P.funcs[f]? = some fn /\ fn.body.isSome = true /\ (fn.name == "runtime.NumGoroutine") = false

def Spec(P:Program)(f:FuncId)(o ds l:List D)(d:D):Prop:=
 Enters P f/\∀(w:World)(j:Nat->Option Nat)(h:Nat->Option (Nat×Nat))(g:Nat->Option Nat)(k:Nat->Option Value)(vs:Array Value),MO w h->(∀b m,j b=some m->b<w.heap.size)->(∀b lo n,h b=some (lo,n)->jG w w b lo n)->vs.size=ds.length ->
  (∀(i:Nat) v x,vs[i]?=some v->ds[i]?=some x->aD (cx w j k) v x)->(∀r,gM w.heap.size h w j g k r (o.getD r .undef))->Calls P f vs w λe w'=>∃v,e=.returned v/\Out o.length l w j h k w' v d

def vq(P:Program)(f:FuncId)(o ds:List D)(Φ:List D->D->Prop):Prop:=
 Enters P f/\∀(w:World)(k:Nat->Option Nat)(j:Nat->Option (Nat×Nat))(h:Nat->Option Nat)(l:Nat->Option Value)(vs:Array Value),MO w j->(∀b m,k b=some m->b<w.heap.size)->(∀b lo n,j b=some (lo,n)->jG w w b lo n)->vs.size=ds.length ->
  (∀(i:Nat) v x,vs[i]?=some v->ds[i]?=some x->aD (cx w k l) v x)->(∀r,gM w.heap.size j w k h l r (o.getD r .undef))->Calls P f vs w λe w'=>∃v g d,Φ g d/\e=.returned v/\Out o.length g w k j l w' v d

def eo(g:Bool)(ok:Prop)(v:D)(k:D->Prop):Prop:=(g=true->ok)/\k (gd g v)
def Norm(v:D)(k:D->Prop):Prop:=k v
def GK(g:Bool)(a b:Prop):Prop:=(g=true->a)/\(g=false->b)

def kU(P:Program)(e:Env)(d:Nat)(args:List Operand)(gs:List Nat)(bw:Bool)(f:List D)(g:D)(K:Env->Prop)(i:D):Prop:=
 match i with
 | .fn k caps=>gs.Nodup/\(∀r∈gs,Gs (e.o r)=true)/\(∀r∈iA d 0 (f.length-gs.length),e.o r=.undef)/\(gs.length<=f.length/\f.length<=gs.length+16)/\(bw=true->mC g/\∀h∈f,gY h) /\
   Spec P k (gs.map λr=>sq bw gs e.o 4 (e.o r)) ((args.map (rd e)++caps).map (conv bw gs e.o 4)) f g/\K (dU e d gs f g)
 | _=>False
def Al(P:Program)(e:Env)(d:Nat)(args:List Operand)(gs:List Nat)(bw:Bool)(Φ:List D->D->Prop)(K:Env->Prop)(i:D):Prop:=
 match i with
 | .fn k caps=>gs.Nodup/\(∀r∈gs,Gs (e.o r)=true)/\vq P k (gs.map λr=>sq bw gs e.o 4 (e.o r)) ((args.map (rd e)++caps).map (conv bw gs e.o 4)) Φ /\
   ∀f g,Φ f g->(∀r∈iA d 0 (f.length-gs.length),e.o r=.undef)/\(gs.length<=f.length/\f.length<=gs.length+16)/\(bw=true->mC g/\∀h∈f,gY h)/\K (dU e d gs f g)
 | _=>False
def KW(dr:Bool)(K:Env->Prop)(e:Env):Prop:=K e\/(dr=false/\∃ts os,DG e ts os/\K (qz ts os))
variable{K' K:Env->Prop}
def KW.mono{dr:Bool}(h:∀e,K e->K' e)(e:Env)(d:KW dr K e):KW dr K' e:=
 d.imp (h e) λ⟨hd,ts,os,hl,d⟩=>⟨hd,ts,os,hl,h _ d⟩
variable{e:Env}
def KW.drawn(d:KW true K e):K e:=d.elim id λh=>(mE h.1.symm).elim
variable{b c:D}{a:List D}{P:Program}
def nN{d:Nat}{args:List Operand}{gs:List Nat}{bw:Bool}(h:∀e,K e->K' e)(f:kU P e d args gs bw a b K c):kU P e d args gs bw a b K' c:=by
 unfold kU at f |-;split at f
 ·exact⟨f.1,f.2.1,f.2.2.1,f.2.2.2.1,f.2.2.2.2.1,f.2.2.2.2.2.1,h _ f.2.2.2.2.2.2⟩
 ·exact f.elim
def vo(P:Program)(dr:Bool)(e:Env)(d:Nat)(f:Operand)(args:List Operand)(K:Env->Prop):Prop:=
 ∃(fz gs:List Nat)(bw:Bool)(g:List D)(h:D),(dr=true->fz=[]/\gs=[])/\kU P (eu fz e) d args gs bw g h (KW dr K) (rd (eu fz e) f)

def Tn(P:Program)(e:Env)(t:TypeId)(r off:Nat)(v:D)(K:Env->Prop)(d:D):Prop:=
 match d with
 | .box cs=>match dS P t with
  |some l=>off+l.sz<=cs.length/\v.cells.length=l.sz/\(∀c∈v.cells,cG c)/\K (bu e r (.box (dc cs off v.cells)))
  |none=>False
 | _=>False
def Tp(P:Program)(e:Env)(t:TypeId)(r z i k:Nat)(v:D)(K:Env->Prop)(d:D):Prop:=
 match d with
 | .own z' rows=>match dS P t with
  |some l=>z'=z/\i<rows.length/\k+l.sz<=z/\v.cells.length=l.sz/\(∀c∈v.cells,br c)/\K (bu e r (.own z (rows.set i (dc (rows.getD i []) k v.cells))))
  |none=>False
 | .iI z' rows=>match dS P t with
  |some l=>z'=z/\i<rows.length/\k+l.sz<=z/\v.cells.length=l.sz/\(∀c∈v.cells,At c)/\K (bu e r (.iI z (rows.set i (dc (rows.getD i []) k v.cells))))
  |none=>False
 | _=>False
def KV(P:Program)(e:Env)(t:TypeId)(a:D)(K:Env->Prop)(v:D):Prop:=
 match a with
 | .addr r off=>Tn P e t r off v K (e.o r)
 | .bB r z i k=>Tp P e t r z i k v K (e.o r)
 | _=>False

def PC(e:Env)(d:Nat)(K:Env->Prop)(v:D):Prop:=
 (∀c∈v.cells,cG c)/\e.o (nm d 0)=.undef/\K (bk (bu e (nm d 0) (.box v.cells)) d (.addr (nm d 0) 0))
def KR(e:Env)(d:Nat)(K:Env->Prop)(z:Option (List D)):Prop:=
 match z with
 |some z=>e.o (nm d 0)=.undef/\K (bk (bu e (nm d 0) (.box z)) d (.addr (nm d 0) 0))
 |none=>False

def bW(P:Program)(t:TypeId):Option (List D):=
 match P.underlying t with
 |some (.slice e)=>iG P e
 | _=>none
def fG(e:Env)(z:Nat)(parts:List (Nat×Operand)):List (Nat×Nat×D):=parts.map λx=>(x.1*z,z,rd e x.2)
def qC(zc:List D)(e:Env)(z len:Nat)(parts:List (Nat×Operand)):List D:=
 jd (List.replicate len zc).flatten (fG e z parts)
def Is(e:Env)(len:Nat)(parts:List (Nat×Operand))(d:Nat)(K:Env->Prop)(t:Ty)(zc:Option (List D)):Prop:=
 match t,zc with
 | .slice z _ _,some zc=>len*z<=2^24/\zc.length=z/\j6 (len*z) (fG e z parts)/\(∀c∈qC zc e z len parts,br c)/\e.o (nm d 0)=.undef /\
   K (bk (bu e (nm d 0) (.own z (rowsOf z len (qC zc e z len parts)))) d (.ref (nm d 0)))
 | _,_=>False
def ny(e:Env)(parts:List (Nat×Operand)):List Nat:=D.aQ (parts.map λx=>rd e x.2)

def gR(z:Nat):D->Option (List (List D))
 | .sl z' rows=>if z'=z then some rows else none
 | .nil=>some []
 | .emp=>some []
 | _=>none
def Iw(e:Env)(z f d:Nat)(rows2:List (List D))(K:Env->Prop)(r:Nat)(g:D):Prop:=
 match g with
 | .own z' rows=>z'=z/\(f+(1-f))*(rows.length+rows2.length)<=2^47/\(gn r e).o (nm d 0)=.undef/\K (bk (bu (gn r e) (nm d 0) (.own z (rows++rows2))) d (.ref (nm d 0)))
 | _=>False
def rO(e:Env)(z f d:Nat)(K:Env->Prop)(v:D)(y:Option (List (List D))):Prop:=
 match v,y with
 | .nil,some rows2=>(f+(1-f))*rows2.length<=2^47/\e.o (nm d 0)=.undef/\K (bk (bu e (nm d 0) (.own z rows2)) d (.ref (nm d 0)))
 | .emp,some rows2=>(f+(1-f))*rows2.length<=2^47/\e.o (nm d 0)=.undef/\K (bk (bu e (nm d 0) (.own z rows2)) d (.ref (nm d 0)))
 | .ref r,some rows2=>Iw e z f d rows2 K r (e.o r)
 | _,_=>False
def lW(e:Env)(d:Nat)(K:Env->Prop)(x y:D)(t t2:Ty):Prop:=
 match t,t2 with
 | .slice z by_ _,.slice _ _ _=>by_<=2^32/\rO e z by_ d K x (gR z (kQ e.o [] 2 y))
 | _,_=>False

def Mu(e:Env)(d:Nat)(K:Env->Prop)(l c:D)(t:Ty)(zc:Option (List D)):Prop:=
 match t,l,c,zc with
 | .slice z by_ _,.int _ n,.int _ m,some zc=>0<=n/\n<=m/\m<=2^40/\by_*m<=2^47/\zc.length=z/\(∀d∈zc,br d)/\e.o (nm d 0)=.undef /\
   K (bk (bu e (nm d 0) (.own z (List.replicate n.toNat zc))) d (.ref (nm d 0)))
 | _,_,_,_=>False

def Cont(n:Nat)(i:World)(h:Nat->Option Nat)(G:Nat->Option (Nat×Nat))(g:Nat->Option Value)(K:Env->Prop)(next:Act->World->Prop):Prop:=
 ∀(f:Env) lev' own' S' w' (d:Act),d.tmps.size=n->d.defers=[]->Inv i h G g w' lev' own' S' f (jk d.tmps)->K f->next d w'
def bO(P:Program)(n:Nat)(o:Oper)(e:Env)(K:Env->Prop):Prop:=
 ∀(g:World)(f:Nat->Option Nat)(G:Nat->Option (Nat×Nat))(d:Nat->Option Value)(w:World)(lev own:Nat->Option Nat)(S:Nat->Option Value)(a:Act)(next:Act->World->Prop)(Q:Exit->Act->World->Prop),
  Inv g f G d w lev own S e (jk a.tmps)->a.tmps.size=n->a.defers=[]->Cont n g f G d K next->o.wp P a w next Q
def bO.mono{n:Nat}{o:Oper}(r:∀e,K e->K' e)(h:bO P n o e K):bO P n o e K':=
 λu t G d w lev own S a next Q q s p m=>h u t G d w lev own S a next Q q s p λg lev' own' S' w' f i j k l=>m g lev' own' S' w' f i j k (r _ l)
def Np:Operand->Bool
 | .const (.slice none 0 0)=>true
 | _=>false
def QF:Nat:=39
def U9:Nat:=26
def KG(d:Nat):Bool:=U9==999994||d==U9
def xS:Nat:=64
def QE:Nat:=70
def hard(o:Oper):Bool:=
 match o.op with
 | .buildSlice t _ _=>(match o.dst with
  |some d=>KG d
  |none=>false)&&t==QF
 | .load t _=>(match o.dst with
  |some d=>d==QE
  |none=>false)&&t==xS
 | .call c=>(match c.callee with
  | .builtin .copy=>true
  | .builtin .clear=>true
  | .builtin .cap=>true
  | _=>false)
 | .binOp _ _ _ y _=>Np y
 | .slice _ _ lo _ mx=>mx.isSome&&lo.isSome
 | _=>false
def isI:D->Bool
 | .iI _ _=>true
 | _=>false
def Fy(b:Bool)(S A:Prop):Prop:=if b then S else A
def ux(e:Env)(d:Nat)(K:Env->Prop)(S:Prop)(x y:D)(t t2:Ty):Prop:=
 match x,y with
 | .bz _ _ _ _ _,_=>S
 | _,.int _ _=>S
 | .ref r,.bz r' o z l c=>Fy (isI (e.o r)) S (lW e d K (.ref r) (.bz r' o z l c) t t2)
 |x,y=>lW e d K x y t t2

def fR(P:Program)(n:Nat)(dr:Bool)(o:Oper)(e:Env)(g:Bool)(K:Env->Prop):Prop:=
 match o.op,o.dst with
 | .store t a x,none=>g=true/\Norm (rd e a) λa=>Norm (rd e x) (KV P e t a K)
 | .box _ x,some d=>g=true/\d<n/\Norm (rd e x) (PC e d K)
 | .alloc t,some d=>g=true/\d<n/\KR e d K (iG P t)
 | .buildSlice t len parts,some d=>d<n/\GK g ((dr=true->ny e parts.toList=[])/\Is (eu (ny e parts.toList) e) len parts.toList d K (bY P t) (bW P t)) (K (bk e d (.bH [])))
 | .makeSlice t l c,some d=>d<n/\GK g (Mu e d K (rd e l) (rd e c) (bY P t) (bW P t)) (K (bk e d (.bH [])))
 | .call c,some d=>d<n/\(match c.callee with
  | .builtin .append=>g=true/\dr=false/\(match c.args.toList,c.argTypes.toList with
   | [x,y],[T,T2]=>ux e d K (bO P n o e K) (rd e x) (rd e y) (bY P T) (bY P T2)
   | _,_=>False)
  | .builtin _=>eo g (ck P e o.op) (dP P e o.op) λu=>K (bk e d u)
  | .value f=>GK g (vo P dr e d f c.args.toList K\/(dr=false/\bO P n o e K)) (K (bk e d (.bH [])))
  | .invoke _ _=>False)
 |op,some d=>d<n/\eo g (ck P e op) (dP P e op) λu=>K (bk e d u)
 | _,none=>False

def iO(P:Program)(n:Nat)(dr:Bool)(o:Oper)(e:Env)(g:Bool)(K:Env->Prop):Prop:=if hard o then g=true/\dr=false/\bO P n o e K else fR P n dr o e g K

def rG:List Oper->Nat->Option Tmp
 | [],_=>none
 |o::_,0=>o.dst
 | _::r,n+1=>rG r n
def EF(w:Bool):D->Option Bool
 | .bool b=>some (b==w)
 | .bH []=>some false
 | _=>none
def nZ(ops:List Oper)(e:Env):Option (Nat×Bool)->Option Bool
 |none=>some true
 |some (j,w)=>match rG ops j with
  |some t=>EF w (rd e (.tmp t))
  |none=>some false
def wpOp(P:Program)(n:Nat)(ops:List Oper)(o:Oper)(e:Env)(K:Env->Prop):Prop:=
 match nZ ops e o.guard with
 |some g=>iO P n false o e g K
 |none=>False
def wpList(P:Program)(n:Nat)(ops:List Oper):List Oper->Env->(Env->Prop)->Prop
 | [],e,K=>K e
 |o::r,e,K=>wpOp P n ops o e λd=>wpList P n ops r d K
end Go.Abs
namespace Go.Abs
open List

def tK{x:Int}(h1:-9223372036854775808<=x)(h2:x<9223372036854775808):IntKind.i64.wrap x=x:=by
 simp[IntKind.wrap,IntKind.signed,IntKind.bits];split<;>omega
theorem vK{zc:List D}{z:Nat}(k:zc.length=z)(j:z≠0):∀(n m:Nat),m<n*z->(replicate n zc).flatten[m]?=zc[m%z]?
 | 0,m,h=>by simp at h
 |n+1,m,h=>by
  rw[replicate_succ,flatten_cons];by_cases p:m<z
  ·rw[getElem?_append_left (by omega),Nat.mod_eq_of_lt p]
  ·rw[getElem?_append_right (by omega),k,vK k j n (m-z) (by rw[Nat.succ_mul]at h;omega)];congr 1;rw[<-Nat.mod_eq_sub_mod (by omega)]
variable{zc:List D}{z:Nat}
def oJ(h:zc.length=z)(n:Nat):(replicate n zc).flatten.length=n*z:=by
 simp[length_flatten,h]

section
variable{P:Program}
theorem kn{e:TypeId}(h:iG P e=some zc)(w:World):∃k,(zeroValue e).run P w=.ok k w/\k.cells.size=zc.length/\∀(V:Cx)(i:Nat) v d,k.cells[i]?=some v->zc[i]?=some d->aD V v d:=by
 unfold iG at h;cases p:P.info? e with
 |none=>rw[p]at h;cases h
 |some inf =>
  simp only[p]at h;cases j:inf.zero with
  |none=>rw[j]at h;cases h
  |some k =>
   rw[j]at h;cases h;refine⟨k,by simp[zeroValue,Sem.run_bind,fB p,j,Sem.run,pure],by simp,?_⟩;intro V i v d q m;simp only[getElem?_map]at m;have:k.cells.toList[i]?=some v:=by simpa using q
   rw[this]at m;simp at m;subst m;exact oP v

end

variable{d:Nat}{o:Oper}{next:Act->World->Prop}{a:Act}{u v:Value}{Q:Exit->Act->World->Prop}{K:Env->Prop}{w':World}{e b:Env}{Φ:List D->D->Prop}{gs fz:List Nat}{f x:Operand}{dr bw:Bool}{c:Call}{i g:D}{t T:TypeId}{l:Array (Nat×Operand)}
section
variable{P:Program}{n:Nat}{w0 w w':World}{l0:Nat->Option Nat}{G:Nat->Option (Nat×Nat)}{S0:Nat->Option Value}{lev lev' own own':Nat->Option Nat}{S S':Nat->Option Value}{env env':Env}{tm tm':Nat->Value}{B:Nat}{gs:List Nat}{bw:Bool}

def upon_value(j:o.dst=some d)(hr:(execOp a.eval o).run P w=.ok (.value u) w')
  (h:next { a with tmps:=a.tmps.setIfInBounds d u } w'):o.wp P a w next Q:=by
 unfold Oper.wp;rw[hr];simp only[Oper.upon,j,Act.put];exact h
def cK(p:a.tmps.size=n)(j:a.defers=[])(h:Cont n w0 l0 G S0 K next)(hd:d<n)
  {lev' own':Nat->Option Nat} {S':Nat->Option Value} (m:Inv w0 l0 G S0 w' lev' own' S' e (zM (jk a.tmps) d u)) (k:K e):next { a with tmps:=a.tmps.setIfInBounds d u } w':=
 h e lev' own' S' w' _ (by simpa using p) j (by rw[OT (by omega)];exact m) k

def Gq(h:Inv w0 l0 G S0 w lev own S env (jk a.tmps))(hn:a.tmps.size=n)(hdf:a.defers=[])(hcal:c.callee=.value f)(hd:d<n)(hop:o.op=.call c)(hdst:o.dst=some d)
  (hnext:Cont n w0 l0 G S0 K next) (hk:Al P (eu fz env) d c.args.toList gs bw Φ (KW dr K) (rd (eu fz env) f)):o.wp P a w next Q:=by
 obtain⟨lev1,S1,h1⟩:=Inv.Nk fz h (λ_ _=>trivial);generalize eu fz env=env1 at h1 hk;unfold Al at hk;have hof:=h1.pL a rfl f;split at hk<;>try exact hk.elim
 rename_i k caps hf;rw[hf]at hof;obtain⟨hnd,hlive,⟨hent,hsp⟩,hall⟩:=hk;obtain⟨cv,hv,hcs,hcc⟩:=hof.uE;obtain⟨fn,e1,e2,e3⟩:=hent
 let vs:Array Value:=c.args.map a.eval++cv
 have hr:(execOp a.eval o).run P w=.ok (.enter k vs) w:=by
  have e3' : fn.name ≠ "runtime.NumGoroutine" := by simpa using e3
  have e2':fn.body≠none:=by rintro e;rw[e]at e2;cases e2
  simp[execOp,hop,resolve,hcal,hv,Deferred.ofValue,Sem.run_bind,invoke,callFunc,program,e1,e3',e2',Sem.run,pure,vs]
 have hrep:∀(i:Nat) v x,vs[i]?=some v->(c.args.toList.map (rd env1)++caps)[i]?=some x->aD (cx w lev1 S1) v x:=by
  intro i v x hi hx;have hl:(c.args.map a.eval).size=(c.args.toList.map (rd env1)).length:=by simp
  by_cases hlt:i<(c.args.map a.eval).size
  ·simp only[vs]at hi;rw[Array.getElem?_append_left hlt]at hi;rw[getElem?_append_left (by rw[<-hl];exact hlt)]at hx;simp only[Array.getElem?_map,getElem?_map]at hi hx;have hx':c.args[i]?=c.args.toList[i]?:=by simp
   rw[hx']at hi;cases hy:c.args.toList[i]? with
   |none=>rw[hy]at hi;cases hi
   |some y =>
    rw[hy]at hi hx;cases hi;cases hx;exact h1.pL a rfl y
  ·simp only[vs]at hi;rw[Array.getElem?_append_right (by omega)]at hi;rw[getElem?_append_right (by rw[<-hl];omega)]at hx;rw[<-hl]at hx;exact hcc _ v x hi hx
 have hsz:vs.size=((c.args.toList.map (rd env1)++caps).map (conv bw gs env1.o 4)).length:=by simp[vs,hcs]
 have hc:=hsp w (mJ bw gs lev1 own) (nw gs S1 env1.o) (uQ gs own) (qA gs S1) vs
  (by
   intro t ht;obtain⟨t1,E,x,c9,t2,t3⟩:=h1.os.2 t ht;have hlt:=lt_of_block t2;refine⟨?_,E,x,c9,(h1.old _ hlt t1).trans t2,t3⟩;cases hg:nw gs S1 env1.o t.1 with
   |none=>rfl
   |some p =>
    obtain⟨lo,hi⟩:=p;obtain⟨r,hr,u,hu,hbk⟩:=zO hg;obtain⟨_,_,hin,_⟩:=(h1.objs r).blk hu hbk;rcases hin with hin| ⟨_,_,hin,_⟩
    ·omega
    ·rw[t1]at hin;cases hin)
  (by
   intro b m hb;rcases Ki (bw:=bw) (gs:=gs) (lev:=lev1) (own:=own) b with e|e
   ·rw[e]at hb;exact h1.priv b m hb
   ·rw[e]at hb;cases hb)
  (by
   intro b lo hi hg;obtain⟨r,hr,u,hu,hbk⟩:=zO hg;obtain⟨_,_,_,cc,E,hb⟩:=(h1.objs r).blk hu hbk
   exact⟨cc,cc,E,hb,hb,rfl,λ_ _=>rfl⟩)
  hsz
  (by
   intro i v x hi hx;simp only[getElem?_map]at hx;cases hy:(c.args.toList.map (rd env1)++caps)[i]? with
   |none=>rw[hy]at hx;cases hx
   |some y=>rw[hy]at hx;cases hx;exact vF h1 4 y v (hrep i v y hi hy))
  (by
   intro r;by_cases hlt:r<gs.length
   ·have hg:gs[r]?=some gs[r]:=ec hlt;have:(gs.map λr=>sq bw gs env1.o 4 (env1.o r)).getD r .undef=sq bw gs env1.o 4 (env1.o gs[r]):=by simp[getD,hg]
    rw[this];exact M5 h1 hnd hg 4 (hlive _ (cZ hlt))
   ·have:(gs.map λr=>sq bw gs env1.o 4 (env1.o r)).getD r .undef=.undef:=by simp[getD,hlt]
    rw[this];show qA gs S1 r=none
    simp[qA,hlt])
 unfold Oper.wp;rw[hr];simp only[Oper.upon];refine hc.mono ?_;rintro e w' ⟨v,hs',dv,hΦ,rfl,hout⟩;obtain⟨hfresh,hlen,hperm,hK⟩:=hall hs' dv hΦ;simp only[length_map]at hout;obtain⟨lev',own',S',hi⟩:=h1.call (d:=d) hnd (λr hr=>K7 (hlive r hr)) hfresh hlen.1 hperm hout;simp only[hdst,Act.put];rcases hK with hK| ⟨_,ts,os,hl,hK⟩
 ·exact cK hn hdf hnext hd hi hK
 ·obtain⟨rh,hle⟩:=hl.le;obtain⟨own2,S2,hi2⟩:=hi.le hle;exact cK hn hdf hnext hd hi2 hK

def kU.toE{args:List Operand}(h:kU P e d args gs bw zc g K i):Al P e d args gs bw (λa b=>a=zc/\b=g) K i:=by
 unfold kU at h;unfold Al;split at h<;>try exact h.elim
 obtain⟨r,s,y,A,C,k,D⟩:=h;refine⟨r,s,⟨k.1,?_⟩,?_⟩
 ·intro w l0 m j S0 vs p a2 a3 a4 a5 q;refine(k.2 w l0 m j S0 vs p a2 a3 a4 a5 q).mono ?_;rintro e w' ⟨v,he,ho⟩;exact⟨v,zc,g,⟨rfl,rfl⟩,he,ho⟩
 ·rintro _ _ ⟨rfl,rfl⟩;exact⟨y,A,C,D⟩
def IL(h:Inv w0 l0 G S0 w lev own S env (jk a.tmps))(y:a.tmps.size=n)(p:a.defers=[])(k:c.callee=.value f)(s:d<n)(r:o.op=.call c)(m:o.dst=some d)
  (j:Cont n w0 l0 G S0 K next) (q:vo P dr env d f c.args.toList K):o.wp P a w next Q:=by
 obtain⟨fz,gs,bw,hs',dv,_,q⟩:=q;exact Gq h y p k s r m j q.toE
def OK(h:Inv w0 l0 G S0 w lev own S env (jk a.tmps))(J:a.tmps.size=n)(s:a.defers=[])
  (m:Cont n w0 l0 G S0 K next) (j:KV P env t (rd env f) K (rd env x)):∃w',(Instr.storeAt t (a.eval f) (a.eval x)).run P w=.ok () w'/\next a w':=by
 have y:=h.pL a rfl x;have q:=h.pL a rfl f;unfold KV at j;cases L:rd env f<;>rw[L]at j q<;>try exact j.elim
 ·rename_i r off;simp only at j;unfold Tn at j;cases A:env.o r<;>rw[A]at j<;>try exact j.elim
  rename_i cs;simp only at j;cases p:dS P t with
  |none=>rw[p]at j;exact j.elim
  |some l =>
   rw[p]at j;obtain⟨C,D,E,F⟩:=j;obtain⟨w',hr,H⟩:=h.OL A p y E D C q;exact⟨w',hr,m _ _ _ _ _ a J s H F⟩
 ·rename_i r z i k;simp only at j;unfold Tp at j;cases A:env.o r<;>rw[A]at j<;>try exact j.elim
  ·rename_i M rows;simp only at j;cases p:dS P t with
   |none=>rw[p]at j;exact j.elim
   |some l =>
    rw[p]at j;obtain⟨rfl,C,D,E,I,F⟩:=j;obtain⟨w',hr,H⟩:=h.ON A p y I E C D q;exact⟨w',hr,m _ _ _ _ _ a J s H F⟩
  ·rename_i M rows;simp only at j;cases p:dS P t with
   |none=>rw[p]at j;exact j.elim
   |some l =>
    rw[p]at j;obtain⟨rfl,C,D,E,I,F⟩:=j;obtain⟨w',hr,H⟩:=h.OM A p y I E C D q;exact⟨w',hr,m _ _ _ _ _ a J s H F⟩

def boxed(h:Inv w0 l0 G S0 w lev own S env tm){vs:Array Value}{cs:List D}(T:TypeId)(m:vs.size=cs.length)(k:∀(j:Nat) u e,vs[j]?=some u->cs[j]?=some e->aD (cx w lev S) u e)(p:env.o (nm d 0)=.undef) :
  ∃lev' own' S',Inv w0 l0 G S0 (w.alloc (.cells vs T)) lev' own' S' (bk (bu env (nm d 0) (.box cs)) d (.addr (nm d 0) 0)) (zM tm d (.pointer (some ⟨w.heap.size,0,none⟩))):=by
 have q:=h.NS (oM d 0) p T m k;refine⟨_,_,_,q.put ?_⟩;have:=aD.addr (C:=cx (w.alloc (.cells vs T)) (fD lev w.heap.size (some 0)) (fD S (nm d 0) (some (.pointer (some ⟨w.heap.size,0,none⟩))))) (nm d 0) 0 ⟨w.heap.size,0,none⟩ (aW _ _ _);simpa[Addr.add]using this
def owned{x:D}(j:Inv w0 l0 G S0 w' lev' own' S' (bu e (nm d 0) x) tm)(h:S' (nm d 0)=some v)(k:∃a l c,v=.slice a l c):Inv w0 l0 G S0 w' lev' own' S' (bk (bu e (nm d 0) x) d (.ref (nm d 0))) (zM tm d v):=by
 obtain⟨a,l,c,rfl⟩:=k;exact j.put (.ref (nm d 0) a l c h)

def K4(h:Inv w0 l0 G S0 w lev own S env (jk a.tmps))(A:a.tmps.size=n)(k:a.defers=[])(m:d<n)
  (j:Cont n w0 l0 G S0 K next) (y:PC env d K (rd env x)) :
  next { a with tmps:=a.tmps.setIfInBounds d (.pointer (some ⟨w.heap.size,0,none⟩)) } (w.alloc (.cells (a.eval x).cells T)):=by
 obtain⟨p,q,r⟩:=y;obtain⟨c1,c2,c3⟩:=mR (h.pL a rfl x) p;obtain⟨_,_,_,s⟩:=boxed h T c1 c3 q;exact cK A k j m s r

def gS(h:Inv w0 l0 G S0 w lev own S env tm)(I:aD (cx w lev S) v g){rows:List (List D)}(hr:gR z (kQ env.o [] 2 g)=some rows)(S':Nat->Option Value):kJ w (cx w lev S') v z rows:=by
 have C:=zR (gs:=[]) h (λ_=>none) 2 g v I;unfold gR at hr;split at hr<;>try(cases hr;done)
 ·rename_i z' rows' e;rw[e]at C;split at hr<;>try(cases hr;done)
  rename_i ez;cases hr;subst ez;have h1:=kJ.aaz (w:=w) (λa v=>lD) C;obtain⟨a,cap,rfl,q1,q2,q3,q4,q5⟩:=h1
  -- the cells are read in the caller's own terms
  refine⟨a,cap,rfl,q1,q2,q3,q4,?_⟩;clear C q5;have key:∀g:D,aD (cx w lev S) (.slice a rows.length cap) g->kQ env.o [] 2 g=.sl z' rows->∀M,a=some M->∀(i j:Nat) row x,rows[i]?=some row->row[j]?=some x->∃u,w.cell? (M.add (i*z'+j))=some u/\aD (cx w lev S') u x:=by
   intro g I e M J i j row x y F;have q:=q3 row (bM y) x (bM F);cases g with
   |sl z2 rows2 =>
    simp only[kQ]at e;cases e;obtain⟨a',s,N,_,_,_,_,O⟩:=I.u9;cases N;obtain⟨u,H,p⟩:=O M J i j row x y F;exact⟨u,lD H,p.dQ (.refl _ _) (by rw[q.2];simp)⟩
   |ref r =>
    simp only[kQ,bA,contains_nil,Bool.false_eq_true,if_false]at e;cases A:env.o r<;>rw[A]at e<;>simp only[mG]at e<;>try(cases e;done)
    cases e;obtain⟨a',s,Y,_,_,_,_,O⟩:=h.v7 A;obtain⟨m,_⟩:=I.gx;simp only[cx]at m;rw[Y]at m;cases m;obtain⟨u,H,p⟩:=O M J i j row x y F;exact⟨u,H,p.dQ (.refl _ _) (by rw[q.2];simp)⟩
   |cN r z lo len =>
    simp only[kQ,bA,contains_nil,Bool.false_eq_true,if_false]at e;cases A:env.o r<;>rw[A]at e<;>simp only[lY]at e<;>try(cases e;done)
    split at e<;>try(cases e;done)
    rename_i hz;obtain⟨rfl,hlen⟩:=hz;cases e;obtain⟨a',s,Y,_,_,_,_,O⟩:=h.v7 A;obtain⟨b0,V,L,c0,c1,m,N,X,_⟩:=I.jP;simp only[cx]at m;rw[Y]at m;cases m;have R:i<len:=by have:=(cJ.1 y).1;simp at this;omega
    obtain⟨b,rfl,E⟩:=X (by omega);have W:a=V:=by injection N
    rw[W,E]at J;cases J;rw[getElem?_take_of_lt R,getElem?_drop]at y;obtain⟨u,H,p⟩:=O b rfl (lo+i) j row x y F;refine⟨u,?_,p.dQ (.refl _ _) (by rw[q.2];simp)⟩;rw[add_add,<-H];congr 2;rw[Nat.add_mul];omega
   |bz r off z len bcap =>
    simp only[kQ,bA,contains_nil,Bool.false_eq_true,if_false]at e;cases A:env.o r<;>rw[A]at e<;>simp only[iy]at e<;>try(cases e;done)
    split at e<;>try(cases e;done)
    cases e;obtain⟨b0,V,c1,m,N,X,_⟩:=I.eg;have Z:=h.xy A m;have R:i<len:=by have:=(cJ.1 y).1;rw[fy]at this;exact this
    have E:=X (by omega);have W:a=V:=by injection N
    rw[W,E]at J;cases J;have U:=mm _ _ _ _ _ y;subst U;have aa:j<z':=by have:=(cJ.1 F).1;simp at this;omega
    rw[getElem?_take_of_lt aa,getElem?_drop,getElem?_drop]at F;obtain⟨u,H,p⟩:=Z _ x F;refine⟨u,?_,p.dQ (.refl _ _) (by rw[q.2];simp)⟩;rw[add_add];exact H
   |addr r off=>simp only[kQ,bA,contains_nil,Bool.false_eq_true,if_false]at e;unfold j0 at e;split at e<;>cases e
   |bB r z i' k=>simp only[kQ,bA,contains_nil,Bool.false_eq_true,if_false]at e;unfold pR at e;(split at e<;>try split at e)<;>cases e
   | _=>simp only[kQ]at e<;>cases e
  exact key g I e
 ·rename_i e;rw[e]at C;cases hr;cases C;exact kJ.nil z none
 ·rename_i e;rw[e]at C;cases hr;cases C;exact kJ.nil z _

def K1(h:Inv w0 l0 G S0 w lev own S env (jk a.tmps))(Z:a.tmps.size=n)(H:a.defers=[]){T3:TypeId}(Y:d<n)
  (m:Cont n w0 l0 G S0 K next) (j:lW env d K (rd env x) (rd env f) (bY P T) (bY P t)) :
  ∃u w',(Builtin.append_ #[T,t] T3 #[a.eval x,a.eval f]).run P w=.ok u w'/\next { a with tmps:=a.tmps.setIfInBounds d u } w':=by
 have k:=h.pL a rfl x;have s:=h.pL a rfl f;unfold lW at j;cases O:bY P T<;>rw[O]at j<;>try exact j.elim
 cases F:bY P t<;>rw[F]at j<;>try exact j.elim
 rename_i z E ea z2 by2 ea2;obtain⟨U,j⟩:=j;have I:∃e,P.underlying t=some (.slice e):=by
  obtain⟨e,_,hu,_⟩:=bK F;exact⟨e,hu⟩
 have q:∀(C:Option Addr)(rows2:List (List D)),a.eval x=.slice C 0 0->kJ w (cx w lev S) (a.eval f) z rows2->(E+(1-E))*rows2.length<=2^47->env.o (nm d 0)=.undef->K (bk (bu env (nm d 0) (.own z rows2)) d (.ref (nm d 0))) ->
   ∃u w',(Builtin.append_ #[T,t] T3 #[a.eval x,a.eval f]).run P w=.ok u w'/\next { a with tmps:=a.tmps.setIfInBounds d u } w':=by
  intro C rows2 y A R V J;obtain⟨v,w',_,_,_,hr,W,L,X⟩:=h.JZ (N:=nm d 0) (oM d 0) V O I (a:=C) A R T3;rw[y];exact⟨v,w',hr,cK Z H m Y (owned W L X) J⟩
 unfold rO at j;split at j
 ·rename_i rows2 y A;rw[y]at k;have p:a.eval x=.slice none 0 0:=by generalize a.eval x=v at k;cases k;rfl
  exact q _ _ p (gS h s A S) j.1 j.2.1 j.2.2
 ·rename_i rows2 y A;rw[y]at k;have p:∃C,a.eval x=.slice C 0 0:=by generalize a.eval x=v at k;cases k;exact⟨_,rfl⟩
  obtain⟨C,p⟩:=p;exact q _ _ p (gS h s A S) j.1 j.2.1 j.2.2
 ·rename_i r rows2 y A;rw[y]at k;obtain⟨L,_⟩:=k.gx;unfold Iw at j;cases ho:env.o r<;>rw[ho]at j<;>try exact j.elim
  rename_i z' rows;obtain⟨rfl,R,V,J⟩:=j;obtain⟨v,w',_,_,_,hr,W,M,X⟩:=h.PO (N:=nm d 0) ho (oM d 0) V O I L (gS h s A S) R U T3;exact⟨v,w',hr,cK Z H m Y (owned W M X) J⟩
 ·exact j.elim

def MZ(h:Inv w0 l0 G S0 w lev own S b (jk a.tmps))(hn:a.tmps.size=n)(ad:a.defers=[]){len:Nat}(hd:d<n)
  (M:Cont n w0 l0 G S0 K next) (hk:Is b len l.toList d K (bY P t) (bW P t)) :
  ∃u w',(Instr.buildSlice t len (l.map λx=>(x.1,a.eval x.2))).run P w=.ok u w'/\next { a with tmps:=a.tmps.setIfInBounds d u } w':=by
 unfold Is at hk;split at hk<;>try exact hk.elim
 rename_i z by_ ea zc hT aa;obtain⟨h24,s,A,I,hf,hK⟩:=hk;obtain⟨e,inf,hu,hl,hin,hb,hz,zv0,hzv0,hzz0⟩:=bK hT;have ah:bW P t=iG P e:=by simp[bW,hu]
 have ag:iG P e=some zc:=by rw[<-ah];exact aa
 obtain⟨U,ai,ab,O⟩:=kn ag w;have H:=oJ s len
 let zs:Array Value:=(Array.range (len*z)).map (λi=>U.cells[i%U.cells.size]!)
 have E:zs.size=len*z:=by simp[zs]
 unfold qC at I hK;obtain⟨m,e1,e2,e3⟩:=wM (V:=cx w lev S) (λi=>some (i*z,z)) (l.map λx=>(x.1,a.eval x.2)).toList (fG b z l.toList) zs (replicate len zc).flatten (by simp[fG]) (by rw[E,H])
  (by
   intro i v x hv hx;have y:i<len*z:=by rw[<-E];exact(Array.getElem?_eq_some_iff.1 hv).1
   rw[vK s hz len i y]at hx;have C:i%z<U.cells.size:=by rw[ab,s];exact Nat.mod_lt _ (Nat.pos_of_ne_zero hz)
   have af:v=U.cells[i%z]:=by
    simp only[zs,Array.getElem?_map]at hv;rw[Array.getElem?_eq_getElem (by simpa using y)]at hv;simp only[Option.map_some,gy,Array.getElem_range]at hv;rw[<-hv,ab,s];simp[C]
   refine O (cx w lev S) (i%z) v x ?_ hx
   rw[af];simp[C])
  (by
   intro k p q hp hq;simp only[Array.toList_map,getElem?_map]at hp;cases N:l.toList[k]? with
   |none=>rw[N]at hp;cases hp
   |some p0 =>
    rw[N]at hp;cases hp;simp only[fG,getElem?_map,N,Option.map_some,gy]at hq;subst hq
    exact⟨rfl,h.pL a rfl p0.2⟩) (by rw[H];exact A)
 have J:(jd (replicate len zc).flatten (fG b z l.toList)).length=len*z:=by
  have key:∀(qs:List (Nat×Nat×D))(ds:List D),j6 ds.length qs->(jd ds qs).length=ds.length:=by
   intro qs;induction qs with
   |nil=>intro ds _;rfl
   |cons q qs ih =>
    intro ds hq;obtain⟨off,sz,x⟩:=q;obtain⟨g1,g2,g3,g4⟩:=hq;have hw:=eF (cs:=ds) (xs:=x.cells) (o:=off) (by omega);rw[jd,ih _ (by rw[hw];exact g4),hw]
  rw[key _ _ (by rw[H];exact A),H]
 have X:∀i j r c,(rowsOf z len (jd (replicate len zc).flatten (fG b z l.toList)))[i]?=some r->r[j]?=some c ->
   (jd (replicate len zc).flatten (fG b z l.toList))[i*z+j]?=some c/\j<z:=by
  intro i j r c y R;rw[mm _ _ _ _ _ y]at R;have Y:j<z:=by
   have:=(cJ.1 R).1;simp at this;omega
  rw[getElem?_take_of_lt Y,getElem?_drop]at R;exact⟨R,Y⟩
 have y:=h.xQ (oM d 0) hf (vs:=m) (z:=z) (cap:=len) (rows:=rowsOf z len (jd (replicate len zc).flatten (fG b z l.toList))) e (by rw[e2,J]) (by rw[fy];exact cX _)
  (by
   intro r hr;obtain⟨i,y⟩:=mem_iff_getElem?.1 hr;have ae:i<len:=by
    have:=(cJ.1 y).1;rwa[fy]at this
   rw[mm _ _ _ _ _ y,dw,dW,J];have:(i+1)*z<=len*z:=gK z ae;rw[Nat.succ_mul]at this
   omega)
  (by
   intro r hr c W;obtain⟨i,y⟩:=mem_iff_getElem?.1 hr;rw[mm _ _ _ _ _ y]at W
   exact I c (mem_of_mem_drop (mem_of_mem_take W)))
  (by
   intro i j r c y R;obtain⟨W,_⟩:=X i j r c y R;have C:i*z+j<m.size:=by rw[e2];exact(cJ.1 W).1
   exact⟨m[i*z+j],by simp[C],e3 _ _ c (by simp[C]) W⟩)
 refine⟨_,_,?_,cK hn ad M hd (owned y (aW _ _ _) ⟨_,_,_,rfl⟩) hK⟩;rw[fy];have Z:¬len*z>2^24:=by omega
 have L:(newRow e m).run P w=.ok ⟨w.heap.size,0,none⟩ (w.alloc (.cells m e)):=by simp[newRow,newObj,Sem.run,Sem.bind,pure,bind]
 simp only[Instr.buildSlice,Sem.run_bind,aT hu,aZ hl,Result.andThen_ok,az Z];by_cases h0:len*z=0
 ·have ac:zs = #[]:=Array.eq_empty_of_size_eq_zero (by rw[E,h0]);have F:Instr.fill (λi=>some (i*z,z)) ((Array.range (len*z)).map (λi=>(#[]:Array Value)[i%(#[]:Array Value).size]!)) (l.map λx=>(x.1,a.eval x.2)).toList=some m:=by
   rw[<-e1,ac,h0,show(Array.range 0:Array Nat) = #[]from rfl];simp
  simp[h0]at F |-;simp[Sem.run_bind,F,L,Sem.run,pure]
 ·have F:Instr.fill (λi=>some (i*z,z)) ((Array.range (len*z)).map (λi=>U.cells[i%U.cells.size]!)) (l.map λx=>(x.1,a.eval x.2)).toList=some m:=e1;rw[az h0];simp only[Sem.run_bind,ai,Result.andThen_ok,pure,Sem.run];rw[F];simp[Sem.run_bind,L,Sem.run,pure]

def NO(h:Inv w0 l0 G S0 w lev own S env (jk a.tmps))(hn:a.tmps.size=n)(ag:a.defers=[]){l c:Operand}(hd:d<n)
  (D:Cont n w0 l0 G S0 K next) (hk:Mu env d K (rd env l) (rd env c) (bY P t) (bW P t)) :
  ∃u w',(Instr.makeSlice t (a.eval l) (a.eval c)).run P w=.ok u w'/\next { a with tmps:=a.tmps.setIfInBounds d u } w':=by
 have Z:=h.pL a rfl l;have Y:=h.pL a rfl c;unfold Mu at hk;split at hk<;>try exact hk.elim
 rename_i z ad ea k1 len k2 k zc hT ak af aa;rw[ak]at Z;rw[af]at Y;obtain⟨h0,hlc,h40,ae,p,ab,hf,hK⟩:=hk;obtain⟨e,aq,hu,hl,ai,hb,hz,zv0,hzv0,hzz0⟩:=bK hT;have ao:bW P t=iG P e:=by simp[bW,hu]
 have an:iG P e=some zc:=by rw[<-ao];exact aa
 obtain⟨I,ap,ac,H⟩:=kn an w;have V:=Z.cB;have N:=Y.cB;obtain⟨len,rfl⟩:=Int.eq_ofNat_of_zero_le h0;obtain⟨k,rfl⟩:=Int.eq_ofNat_of_zero_le (show 0<=k by omega);have q:len<=k:=by omega
 simp only[Int.toNat_natCast]at hK
 let cells:Array Value:=(Array.range (k*z)).map (λi=>I.cells[i%I.cells.size]!)
 have M:cells.size=k*z:=by simp[cells]
 have hi:=h.xQ (oM d 0) hf (vs:=cells) (z:=z) (cap:=k) (rows:=replicate len zc) e M (by simpa using q) (by intro r hr;rw[(mem_replicate.1 hr).2];exact p)
  (by intro r hr;rw[(mem_replicate.1 hr).2];exact ab) (by
   intro i j r x hi hj;have ah:i<len:=by
    have:=(cJ.1 hi).1;simpa using this
   have hr:r=zc:=(mem_replicate.1 (bM hi)).2;subst hr;have y:j<z:=by rw[<-p];exact(cJ.1 hj).1
   have aj:i*z+j<len*z:=j7 y ah;have U:i*z+j<k*z:=Nat.lt_of_lt_of_le aj (gK z q);have W:(i*z+j)%z=j:=by rw[Nat.add_comm,Nat.add_mul_mod_self_right,Nat.mod_eq_of_lt y]
   have O:j<I.cells.size:=by rw[ac,p];exact y
   refine⟨I.cells[j],?_,H _ j _ x (by simp[O]) hj⟩;simp only[cells,Array.getElem?_map];rw[Array.getElem?_eq_getElem (by simpa using U)];have C:(i*z+j)%I.cells.size=j:=by rw[ac,p];exact W
   simp only[Option.map_some,Array.getElem_range,C]
   rw[getElem!_pos I.cells j O])
 refine⟨_,_,?_,cK hn ag D hd (owned hi (aW _ _ _) ⟨_,_,_,rfl⟩) hK⟩;rw[length_replicate];have s:(newRow e cells).run P w=.ok ⟨w.heap.size,0,none⟩ (w.alloc (.cells cells e)):=by simp[newRow,newObj,Sem.run,Sem.bind,pure,bind]
 have al:IntKind.i64.wrap (len:Int)=len:=tK (by omega) (by omega);have am:IntKind.i64.wrap (k:Int)=k:=tK (by omega) (by omega);have J:∀m,(askRoom m).run P w=.ok () w:=by
  intro m;unfold askRoom;split<;>simp[mark,Sem.run,pure]
 have L:(aq.bytes:Int)*(k:Int)<=281474976710656:=by
  rw[hb];have:(ad:Int)*(k:Int)<=2^47:=ae;omega
 have X:¬((k:Int)<0):=by omega
 have A:¬((len:Int)<0):=by omega
 have R:¬((len:Int)>(k:Int)):=by omega
 rw[V,N];simp only[Instr.makeSlice,Sem.run_bind,aT hu,asInt,asIntOf,pure,Sem.run,Result.andThen_ok,fB ai,al,am];rw[az (by simp[X,L,A,R])];simp only[Sem.run_bind,J,Result.andThen_ok,aZ hl,Int.toNat_natCast];by_cases F:k*z=0
 ·have:cells = #[]:=Array.eq_empty_of_size_eq_zero (by rw[M,F]);simp only[F,if_true,Sem.run,Result.andThen_ok,Sem.run_bind];have E:(newRow e #[]).run P w=.ok ⟨w.heap.size,0,none⟩ (w.alloc (.cells cells e)):=by rw[<-this];exact s
  rw[show(Array.range 0:Array Nat) = #[]from rfl];simp[E]
 ·simp only[az F,Sem.run_bind,ap,Result.andThen_ok,Sem.run];rw[s];simp[Sem.run]

theorem BL(h:Inv w0 l0 G S0 w lev own S env (jk a.tmps))(E:a.tmps.size=n)(r:a.defers=[])
  (m:Cont n w0 l0 G S0 K next) (k:fR P n dr o env true K):o.wp P a w next Q:=by
 have s:∀d,o.dst=some d->d<n->eo true (ck P env o.op) (dP P env o.op) (λu=>K (bk env d u))->o.wp P a w next Q:=by
  intro d C p ⟨hok,J⟩;obtain⟨u,hr,L⟩:=pure_run h o (hok rfl);exact upon_value C hr (cK E r m p (h.put L) J)
 cases C:o.dst with
 |none =>
  cases q:o.op<;>simp only[fR,q,C]at k<;>try exact k.elim
  obtain⟨_,k⟩:=k;obtain⟨w',hr,A⟩:=OK h E r m k;unfold Oper.wp;have:(execOp a.eval o).run P w=.ok .skip w':=by
   simp only[execOp,q,Sem.run_bind,hr];rfl
  rw[this];simp only[Oper.upon,C,Act.put];exact A
 |some d =>
  cases q:o.op<;>simp only[fR,q,C]at k
  case box T x =>
   obtain⟨_,p,k⟩:=k;have:=K4 (T:=T) h E r p m k;refine upon_value C (u:=.pointer (some ⟨w.heap.size,0,none⟩)) ?_ this;simp only[execOp,q];exact gp (by simp[Instr.box,newVar,newRow,newObj,Sem.run,Sem.bind,pure,bind])
  case alloc T =>
   obtain⟨_,p,k⟩:=k;cases M:iG P T with
   |none=>rw[M]at k;exact k.elim
   |some zc =>
    rw[M]at k;obtain⟨X,J⟩:=k;obtain⟨zv,N,O,H⟩:=kn M w;obtain⟨_,_,_,Y⟩:=boxed (d:=d) h T O (λj u e L W=>H _ j u e L W) X;refine upon_value C (u:=.pointer (some ⟨w.heap.size,0,none⟩)) ?_ (cK E r m p Y J);simp only[execOp,q];refine gp ?_;simp only[Instr.alloc,Sem.run_bind,N,Result.andThen_ok];simp[newVar,newRow,newObj,Sem.run,Sem.bind,pure,bind]
  case buildSlice t len parts =>
   obtain⟨p,k⟩:=k;obtain⟨lev1,S1,V⟩:=Inv.Nk (ny env parts.toList) h (λ_ _=>trivial);obtain⟨u,w',hr,A⟩:=MZ V E r p m (k.1 rfl).2;exact upon_value C (by simp only[execOp,q];exact gp hr) A
  case makeSlice t l c =>
   obtain⟨p,k⟩:=k;obtain⟨u,w',hr,A⟩:=NO h E r p m (k.1 rfl);exact upon_value C (by simp only[execOp,q];exact gp hr) A
  case call c =>
   obtain⟨p,k⟩:=k;split at k
   ·-- append
    rename_i D;obtain⟨_,_,k⟩:=k;split at k
    ·rename_i x y T R F I;have U:c.args = #[x,y]:=Array.ext' (by simpa using F);have e2:c.argTypes = #[T,R]:=Array.ext' (by simpa using I);have k:bO P n o env K\/lW env d K (rd env x) (rd env y) (bY P T) (bY P R):=by
      unfold ux at k;split at k
      ·exact .inl k
      ·exact .inl k
      ·rename_i hx hy;unfold Fy at k;split at k
       ·exact .inl k
       ·rw[hx,hy];exact .inr k
      ·exact .inr k
     rcases k with k|k
     ·exact k _ _ _ _ _ _ _ _ _ _ _ h E r m
     obtain⟨u,w',hr,A⟩:=K1 (T3:=o.type) h E r p m k;refine upon_value C ?_ A;have Z:c.args.map a.eval = #[a.eval x,a.eval y]:=by rw[U];simp
     simp only[execOp,q,resolve,D,Sem.run_bind,pure,Sem.run,Result.andThen_ok,invoke,builtin,Z,e2,hr]
    ·exact k.elim
   ·exact s d C p (by rw[q];exact k)
   ·rename_i f D;rcases k.1 rfl with k| ⟨_,k⟩
    ·exact IL h E r D p q C m k
    ·exact k _ _ _ _ _ _ _ _ _ _ _ h E r m
   ·exact k.elim
  all_goals exact s d C k.1 (by rw[q];exact k.2)

theorem LQ(h:Inv w0 l0 G S0 w lev own S env (jk a.tmps))(A:a.tmps.size=n)(s:a.defers=[])
  (p:Cont n w0 l0 G S0 K next) (j:fR P n dr o env false K):next (a.put o.dst Go.undef) w:=by
 have r:∀d,o.dst=some d->d<n->K (bk env d (.bH []))->next (a.put o.dst Go.undef) w:=by
  intro d k m y;rw[k];exact cK A s p m (h.put (v:=Go.undef) (d:=.bH []) (.bH #[] [] rfl (by intro i v d C;simp at C))) y
 cases k:o.dst with
 |none =>
  cases q:o.op<;>simp only[fR,q,k]at j<;>first|exact j.elim|exact(mE j.1).elim
 |some d =>
  rw[<-k];cases q:o.op<;>simp only[fR,q,k]at j<;>try(first|exact(mE j.1).elim|exact r d k j.1 j.2.2|exact r d k j.1 (j.2.2 rfl))
  case call c =>
   obtain⟨m,j⟩:=j;split at j
   ·exact(mE j.1).elim
   ·exact r d k m j.2
   ·exact r d k m (j.2 rfl)
   ·exact j.elim
def LR(h:Inv w0 l0 G S0 w lev own S env (jk a.tmps))(p:a.tmps.size=n)(k:a.defers=[])
  (j:Cont n w0 l0 G S0 K next) (m:iO P n dr o env true K):o.wp P a w next Q:=by
 unfold iO at m;split at m
 ·exact m.2.2 _ _ _ _ _ _ _ _ _ _ _ h p k j
 ·exact BL h p k j m
def N5(h:Inv w0 l0 G S0 w lev own S env (jk a.tmps))(p:a.tmps.size=n)(m:a.defers=[])
  (j:Cont n w0 l0 G S0 K next) (k:iO P n dr o env false K):next (a.put o.dst Go.undef) w:=by
 unfold iO at k;split at k
 ·exact(mE k.1).elim
 ·exact LQ h p m j k
end
end Go.Abs
